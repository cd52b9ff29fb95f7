/- The iterator over a source's references: the walk. -/
import Derived.Test.YtghepahgkcigpaaRg0
import Derived.Test.YtghepahgkcigpaaRg3
import Derived.Deep.RegionHeld3
set_option maxRecDepth 100000
set_option maxHeartbeats 16000000
set_option linter.unusedSimpArgs false
namespace Go.Proofs.Ytghepahgkcigpaa
open Go.RowKit
attribute [local go_sem] Oper.semAt_some
def KO(B0 B1:Nat)(O:NP)(b:Nat):Prop:=O b∨(B0<=b∧b < B1)
structure R6 (l By Bi Bs s:Nat) (W:World):Prop where
 y:W.cell? ⟨By,0,none⟩=some (.func (.yield l) #[] #[])
 i:W.cell? ⟨Bi,0,none⟩=some (.func (.func 82) #[] #[.pointer (some ⟨By,0,none⟩),.pointer (some ⟨Bi,0,none⟩)])
 s:W.cell? ⟨Bs,0,none⟩=some (.pointer (some ⟨s,0,none⟩))
theorem R6.same{l By Bi Bs s:Nat}{W W':World}(h:R6 l By Bi Bs s W)(h1:W'.heap[By]?=W.heap[By]?)(h2:W'.heap[Bi]?=W.heap[Bi]?)(h3:W'.heap[Bs]?=W.heap[Bs]?):R6 l By Bi Bs s W':=by
 obtain ⟨a,b,c⟩:=h
 unfold World.cell? at a b c
 exact ⟨by unfold World.cell?;rw[h1];exact a,by unfold World.cell?;rw[h2];exact b,by unfold World.cell?;rw[h3];exact c⟩
structure FJ {β:Type} (J:β->(Nat->Prop)->World->Prop) (B0 B1 l By Bi Bs s:Nat) (p:β->Prop) (k:β) (O:Nat->Prop) (W:World):Prop where
 j:J k (KO B0 B1 O) W
 own:∀b,O b->B1<=b
 size:B1<=W.heap.size
 box:R6 l By Bi Bs s W
 p:p k
section
variable{β:Type}{J:β->NP->World->Prop}{B0 B1 l By Bi Bs s:Nat}{p:β->Prop}
theorem FJ.stays(q:Dp J)(e:(B0<=By∧By < B1)∧(B0<=Bi∧Bi < B1)∧(B0<=Bs∧Bs < B1)):Dp (FJ J B0 B1 l By Bi Bs s p):=by
 intro k O W r W' h i o n m f g
 have a:∀b,b < B1->W'.heap[b]?=W.heap[b]?:=fun b hb=>f b (fun c=>by have:=h.own b c;omega) (yp hb h.size)
 refine ⟨q k _ W _ W' h.j i o n m (fun b hb d=>f b (fun c=>hb (.inl c)) d) (fun b hb=>?_),fun b hb=>?_,yr h.size i,h.box.same (a _ e.1.2) (a _ e.2.1.2) (a _ e.2.2.2),h.p⟩
 ·rcases hb with hb|hb
  ·rcases g b hb with h1|h1
   ·exact .inl (.inl h1)
   ·exact .inr h1
  ·exact .inl (.inr hb)
 ·rcases g b hb with h1|h1
  ·exact h.own b h1
  ·have:=h.size;omega
end
theorem I9.at{N:NP}{b W:World}{C D:Addr->Prop}{Bu Bs:Nat}{L:Bh}{x:An}(a:JW N b C D Bu L x)(hd:Ug b C D W)(hb:W.cell? ⟨Bs,0,none⟩=some (.pointer (some ⟨L.s,0,none⟩))):I9 L Bs W:=
 ⟨hb,(hd.1 _ (a.src 19 (by omega) (by omega))).trans a.heads.lets,(hd.1 _ (a.src 20 (by omega) (by omega))).trans a.heads.crops,(hd.1 _ (a.src 21 (by omega) (by omega))).trans a.heads.reaches,(hd.1 _ (a.src 22 (by omega) (by omega))).trans a.heads.farms,
  (hd.1 _ (a.src 23 (by omega) (by omega))).trans a.heads.rots,(hd.1 _ (a.src 24 (by omega) (by omega))).trans a.heads.rights,(hd.1 _ (a.src 25 (by omega) (by omega))).trans a.heads.duties,fun i hi=>(hd.1 _ (a.turns i hi)).trans (a.heads.turns i hi)⟩
theorem CQ.up{B:Nat}{w w':World}{v:Value}{us:List Us}(h:CQ B w v us)(hb:Below w.heap.size w w'):CQ B w' v us:=by
 obtain ⟨h1,h2⟩:=h
 refine ⟨h1,h2.imp id ?_⟩
 rintro ⟨g,cap,a,h3,h4,h5,h6⟩
 exact ⟨g,cap,a,h3,h4,(hb.block g (yf.1 h5).1).trans h5,h6⟩
theorem E9{B:Nat}{c w w':World}{v:Value}{us:List Us}(h:Below B c w)(i:B<=w.heap.size)(f:CQ B w v us)(a:w.grownBy w' v.ownBlock):Below B c w':=by
 refine h.trans ⟨a.os,a.tape,a.output,a.size,fun b hb=>a.block b (by omega) (fun e=>?_)⟩
 rcases f.2 with ⟨rfl,_⟩|⟨g,cap,d,rfl,h4,_⟩
 ·cases e
 ·simp only[Value.ownBlock,yV] at e
  omega
theorem R7{B:Nat}{w:World}{v:Value}{us:List Us}(h:CQ B w v us){i:Nat}(hi:i < us.length):
  ∃g c,v=.slice (some ⟨g,0,none⟩) us.length c∧B<=g∧g < w.heap.size∧us.length<=maxLen∧w.cell? ⟨g,i*3,none⟩=some (.pointer (some ⟨us[i].b,us[i].o,none⟩))∧w.cell? ⟨g,i*3+1,none⟩=some (.int .i64 us[i].to)∧w.cell? ⟨g,i*3+2,none⟩=some (.int .i64 us[i].at_):=by
 obtain ⟨h1,⟨rfl,h2⟩|⟨g,cap,f,rfl,h4,h5,h6,q,p,m⟩⟩:=h
 ·omega
 ·have hc:∀j u,(us.flatMap AO)[j]?=some u->w.cell? (aV g j)=some u:=by
   intro j u a
   rw[<-m] at a
   have d:=(yD.1 a).1
   rw[yM] at d
   rw[zH,yx (by omega)] at a
   simp only[World.cell?,h5]
   simpa using a
  have l:∀(us:List Us) (i:Nat) (hi:i < us.length),(us.flatMap AO)[i*3]?=some (.pointer (some ⟨us[i].b,us[i].o,none⟩))∧(us.flatMap AO)[i*3+1]?=some (iV us[i].to)∧(us.flatMap AO)[i*3+2]?=some (iV us[i].at_):=by
   intro us
   induction us with
   |nil=>intro i hi;simp at hi
   |cons x r ih=>
    intro i hi
    cases i with
    |zero=>exact ⟨rfl,rfl,rfl⟩
    |succ i=>
     have:=ih i (by simpa using hi)
     have e:((x::r).flatMap AO)=AO x++r.flatMap AO:=rfl
     rw[e,yS (by simp[AO];omega),yS (by simp[AO];omega),yS (by simp[AO];omega)]
     have hl:(AO x).length=3:=rfl
     rw[hl,show (i+1)*3 - 3=i*3 by omega,show (i+1)*3+1 - 3=i*3+1 by omega,show (i+1)*3+2 - 3=i*3+2 by omega]
     exact this
  obtain ⟨k,g1,n⟩:=l us i hi
  exact ⟨g,cap,rfl,h4,(yf.1 h5).1,by omega,hc _ _ k,hc _ _ g1,hc _ _ n⟩
theorem Sl{B:Nat}{w:World}{v:Value}{us:List Us}(h:CQ B w v us):∃a c,v=.slice a us.length c∧us.length<=maxLen:=by
 obtain ⟨h1,⟨rfl,h2⟩|⟨g,cap,b,rfl,h4,h5,h6,f,d,e⟩⟩:=h
 ·exact ⟨none,0,by rw[h2],by rw[h2];exact yz _⟩
 ·exact ⟨_,_,rfl,by omega⟩
theorem FV{f:Nat->List Us}{n i:Nat}(h:i < n):((List.range i).flatMap f).length+(f i).length<=((List.range n).flatMap f).length:=by
 obtain ⟨post,a⟩:=Bz f h
 rw[a];simp only[ym];omega
theorem FW{ops:Array Oper}{rest:List Oper}{o:Oper}{a:Act}{Q:QT}{W:World}(B:Nat)(e:o.guard=none)(s x:Operand)(m:o.op=.call {callee:=.builtin .append,args:=#[s,x],argTypes:=#[151,151]})
 (v:Value)(us:List Us)(hs:a.eval s=v)(g:CQ B W v us)(X:Value)(b:List Us)(l:a.eval x=X)(j:BP W X b.length 3 (b.flatMap AO))(f:us.length+b.length<=1000000)(d:B<=W.heap.size)
 (h:∀(i:Option Addr) (c:Nat) w',CQ B w' (.slice i (us.length+b.length) c) (us++b)->W.grownBy w' v.ownBlock->wpList Try.prog ops Q rest (a.put o.dst (.slice i (us.length+b.length) c)) w'):wpList Try.prog ops Q (o::rest) a W:=
 yF e fun _ k=>M8 B e s x m v us hs g X b l j f d (fun i c w' h1 h2=>k _ _ (h i c w' h1 h2))
def Q4(L:Bh)(x:An)(i:Nat):List Us:=(List.range i).flatMap (E4 L.farms x.farms)
def KP(L:Bh)(x:An)(i:Nat):List Us:=Q4 L x L.farms.n++(List.range i).flatMap (Gl L x.rots)
def KQ(L:Bh)(x:An)(i:Nat):List Us:=KP L x L.rots.n++(List.range i).flatMap (CY L.rights x.rights)
def Mc(L:Bh)(x:An)(i:Nat):List Us:=KQ L x L.rights.n++(List.range i).flatMap (DM L.duties x.duties)
theorem JY(L:Bh)(x:An):Mc L x L.duties.n=Cl L x:=rfl
theorem Lk(L:Bh)(x:An)(i:Nat):Q4 L x (i+1)=Q4 L x i++E4 L.farms x.farms i:=Am _ i
theorem Q5(L:Bh)(x:An)(i:Nat):KP L x (i+1)=KP L x i++Gl L x.rots i:=by unfold KP;rw[Am,yl]
theorem Ll(L:Bh)(x:An)(i:Nat):KQ L x (i+1)=KQ L x i++CY L.rights x.rights i:=by unfold KQ;rw[Am,yl]
theorem Q6(L:Bh)(x:An)(i:Nat):Mc L x (i+1)=Mc L x i++DM L.duties x.duties i:=by unfold Mc;rw[Am,yl]
theorem Pj(L:Bh)(x:An):(KQ L x L.rights.n).length<=(Cl L x).length:=by rw[<-JY];unfold Mc;simp
theorem Pk(L:Bh)(x:An):(KP L x L.rots.n).length<=(Cl L x).length:=yr (by unfold KQ;simp) (Pj L x)
theorem Sm(L:Bh)(x:An):(Q4 L x L.farms.n).length<=(Cl L x).length:=yr (by unfold KP;simp) (Pk L x)
theorem Na{L:Bh}{x:An}{i:Nat}(h:i < L.farms.n):(Q4 L x i).length+(E4 L.farms x.farms i).length<=(Cl L x).length:=yr (FV h) (Sm L x)
theorem Nb{L:Bh}{x:An}{i:Nat}(h:i < L.rots.n):(KP L x i).length+(Gl L x.rots i).length<=(Cl L x).length:=yr (by have:=FV (f:=Gl L x.rots) h;unfold KP;simp only[ym];omega) (Pk L x)
theorem Nc{L:Bh}{x:An}{i:Nat}(h:i < L.rights.n):(KQ L x i).length+(CY L.rights x.rights i).length<=(Cl L x).length:=yr (by have:=FV (f:=CY L.rights x.rights) h;unfold KQ;simp only[ym];omega) (Pj L x)
theorem R8{L:Bh}{x:An}{i:Nat}(h:i < L.duties.n):(Mc L x i).length+(DM L.duties x.duties i).length<=(Cl L x).length:=by
 have:=FV (f:=DM L.duties x.duties) h
 rw[<-JY];unfold Mc;simp only[ym];omega
theorem Sn{w:World}{C:Addr->Prop}{e:Ex}{b o:Nat}(h:PV w C e b o):C ⟨b,o,none⟩∧C ⟨b,o+5,none⟩:=by
 cases e
 rw[PV] at h
 obtain ⟨_,_,h1,h2,_⟩:=h
 exact ⟨h1.2,h2.2⟩
theorem So{e:Ex}{z:Int}(h:e.op=0->z=e.ri):FQ e.op e.n e.u e.rn z e.args.length=D8 e:=by
 unfold D8
 by_cases h0:e.op=0
 ·rw[h h0]
 ·simp[FQ,h0]
theorem JZ(n:Nat)(hn:1<=n){N:NP}{w0:World}{C D:Addr->Prop}{Bu:Nat}{L:Bh}{x:An}(hU:JW N w0 C D Bu L x):
  Td Fence.wide n Try.prog 81 #[.pointer (some ⟨Bu,0,none⟩)] (Ug w0 C D) ((Ca w0 L x).1.map Us.v) (if (Ca w0 L x).2 then none else some (Ek 170)):=by
 intro l J Jx Jp W hJ df eb cr c8 a6 aa h0
 have ew:∀(fn:Fn) (first cap:Array Value) (w:World),(Instr.makeFunc fn first cap).run Try.prog w=.ok (.func fn first cap) w:=fun _ _ _ _=>rfl
 obtain ⟨X,hX⟩:∃X,X=Ca w0 L x:=⟨_,rfl⟩
 rw[<-hX] at a6 aa ⊢
 have A:=yb hU
 have HX:=yb hX
 have H0:=yb h0
 have HJ:=yb hJ
 have cm:=yb df
 have bj:=yb eb
 have bd:=yb cr
 have cd:=yb c8
 have ca:=yb a6
 have aj:=yb aa
 have cB:=((cr _ _ _ h0).1 _ hU.box).trans hU.heads.box
 have eu:=yb (zI W _ cB)
 have dB:∀(o o':Obj),((W.alloc o).alloc o').cell? (aV Bu 0)=some (pV L.s 0):=fun o o'=>((((yg W.heap.size W).alloc (ye _) o).alloc (by simp) o').cell (p:=(aV Bu 0)) eu.o).trans cB
 clear hU hX h0 hJ df eb cr c8 a6 aa cB
 refine z8.2 (Cd (n:=10) Try.func81 rfl ?_)
 simp only[Try.ntmps81,yB,yE,yI,Nat.reduceAdd,Nat.reduceSub,zJ,zK,zW,zQ,zj,z7]
 iterate 3
  refine Ad (A6 ?_)
  go_wp2
 refine Ad (Ad (A6 ?_))
 go_wp2_with (first|(go_at_call 67;refine (EG _ _).mono ?_;rintro e w2 ⟨rfl,rfl⟩))
 have c6:Below W.heap.size W (((W.alloc (.cells #[.func (.yield l) #[] #[]] 148)).alloc (.cells #[.func (.func 82) #[] #[pV W.heap.size 0,pV (W.heap.size+1) 0]] 149)).alloc (.cells #[pV L.s 0] 52)):=(((yg _ _).alloc (ye _) _).alloc (by simp) _).alloc (by simp;omega) _
 have ce:R6 l W.heap.size (W.heap.size+1) (W.heap.size+1+1) L.s (((W.alloc (.cells #[.func (.yield l) #[] #[]] 148)).alloc (.cells #[.func (.func 82) #[] #[pV W.heap.size 0,pV (W.heap.size+1) 0]] 149)).alloc (.cells #[pV L.s 0] 52)):=by
  refine ⟨?_,?_,?_⟩
  ·refine xU _ (xU _ ?_)
   have:=World.alloc_heap_new W (.cells #[.func (.yield l) #[] #[]] 148)
   simp only[World.cell?,this];simp
  ·refine xU _ ?_
   have:=World.alloc_heap_new (W.alloc (.cells #[.func (.yield l) #[] #[]] 148)) (.cells #[.func (.func 82) #[] #[pV W.heap.size 0,pV (W.heap.size+1) 0]] 149)
   rw[zv] at this
   simp only[World.cell?,this];simp
  ·have:=World.alloc_heap_new ((W.alloc (.cells #[.func (.yield l) #[] #[]] 148)).alloc (.cells #[.func (.func 82) #[] #[pV W.heap.size 0,pV (W.heap.size+1) 0]] 149)) (.cells #[pV L.s 0] 52)
   rw[zv,zv] at this
   simp only[World.cell?,this];simp
 have bu:(((W.alloc (.cells #[.func (.yield l) #[] #[]] 148)).alloc (.cells #[.func (.func 82) #[] #[pV W.heap.size 0,pV (W.heap.size+1) 0]] 149)).alloc (.cells #[pV L.s 0] 52)).heap.size=W.heap.size+3:=by simp
 have bo:=yb c6
 have er:=yb ce
 have e9:=yb bu
 clear c6 ce bu dB ew
 generalize ((W.alloc (.cells #[.func (.yield l) #[] #[]] 148)).alloc (.cells #[.func (.func 82) #[] #[pV W.heap.size 0,pV (W.heap.size+1) 0]] 149)).alloc (.cells #[pV L.s 0] 52)=W1 at*
 obtain ⟨q,Y⟩:∃q,q=E8 w0 L x:=⟨_,rfl⟩
 have dy:q.length=(BO L).length+1:=by rw[Y];unfold E8;rw[ym,EH A.o];rfl
 have dp:∀k (Q:k < (BO L).length) (ae:k < (AL x).length) (ac:k < q.length),q[k]=Ct w0 (BO L)[k] (AL x)[k]:=by
  intro k Q ae ac
  apply yh
  rw[<-yk ac,Y]
  unfold E8
  rw[zx (by rw[EH A.o];exact Q)]
  unfold Ds
  rw[List.getElem?_zipWith,yk Q,yk ae]
 have bg:Hid (X=BI q):=yb (by rw[HX.o,Y];rfl)
 have f5:=yb dy
 have f4:=yb dp
 have e6:=yb Y
 have db:Hid (Dp (fun k=>J (BI (q.take k)).1.length)):=yb (fun k O W O' W' h hz ho ht hu Q hO=>HJ.o _ O W O' W' h hz ho ht hu Q hO)
 have e5:(W.heap.size<=W.heap.size∧W.heap.size < W.heap.size+3)∧(W.heap.size<=W.heap.size+1∧W.heap.size+1 < W.heap.size+3)∧(W.heap.size<=W.heap.size+1+1∧W.heap.size+1+1 < W.heap.size+3):=by omega
 have ay:=yb e5
 clear dy dp Y e5
 refine E5 ?_
 refine DD (n:=10) Try.func81 rfl (fun _ _=>rfl) (JS 9 (by omega) (W.heap.size+1+1) L A.o.ok) (fun a ha=>by
   obtain ⟨i,hi,rfl⟩:=zg.1 ha
   obtain ⟨b,o,c,h1,_⟩:=A.o.top.get i hi (by rw[<-A.o.top.length];exact hi)
   rw[h1];rfl)
  (FJ (fun k=>J (BI (q.take k)).1.length) W.heap.size (W.heap.size+3) l W.heap.size (W.heap.size+1) (W.heap.size+1+1) L.s (fun k=>(BI (q.take k)).2=true))
  (fun c O w=>c=.ret∧FJ (fun (_:Unit)=>Jx) W.heap.size (W.heap.size+3) l W.heap.size (W.heap.size+1) (W.heap.size+1+1) L.s (fun _=>True) () O w)
  (fun ch=>FJ (fun (_:Unit)=>Jp ch) W.heap.size (W.heap.size+3) l W.heap.size (W.heap.size+1) (W.heap.size+1+1) L.s (fun _=>True) ())
  (fun k a=>FJ (fun k=>J (BI (q.take k)).1.length) W.heap.size (W.heap.size+3) l W.heap.size (W.heap.size+1) (W.heap.size+1+1) L.s (fun k=>(BI (q.take k)).2=true∧∃(b o:Nat) (lt:Int) (Q:k < (BO L).length),(BO L)[k]'Q=#[pV b o,iV lt]∧a={tmps:=#[.func (.yield l) #[] #[],pV Bu 0,pV W.heap.size 0,pV (W.heap.size+1) 0,pV b o,iV lt,undef,undef,undef,undef,undef,undef,undef,undef,undef,undef,undef,undef,undef,undef,.func (.func 82) #[] #[pV W.heap.size 0,pV (W.heap.size+1) 0],pV L.s 0,.func (.func 89) #[] #[pV (W.heap.size+1+1) 0],pV b o,iV lt,undef,undef,undef,undef,undef,undef,undef,undef,undef,undef,undef,undef,undef,undef,undef,undef,undef,undef,undef,undef,undef,undef,undef,undef,undef,undef,undef,undef,undef,undef,undef,undef,undef,undef,undef,undef,undef,undef,undef,undef,undef,undef,undef,undef,undef,undef,undef,undef,undef,undef,undef,undef,undef,undef,undef,undef,undef,undef,undef,undef,undef,undef,undef,undef,undef,undef,undef,undef,undef,undef,undef,undef,undef,undef,undef,undef,undef,undef,undef,undef,undef,undef,undef,undef,undef,undef,undef,undef,undef,undef,undef,undef,undef,undef,undef,undef,undef,undef,undef,undef,undef,undef,undef,undef,undef,undef,undef,undef,undef,undef,undef,undef,undef,undef,undef,undef,undef,undef,undef,undef,undef,undef,undef,undef,undef,undef,undef,undef,undef,undef,undef,undef,undef,undef,undef,undef,undef,undef,undef,undef,undef,undef,undef,undef,undef,undef,undef,undef,undef,undef,undef,undef,undef,undef,undef,undef,undef,undef,undef,undef,undef,undef,undef,undef,undef,undef,undef],defers:=[]}) k)
  ?_ ?_ ?_ ?_ ?_ ?_ (fun _ h=>by cases h) ?_ ?_ ?_ ?_ ?_ ?_
 ·exact FJ.stays db.o ay.o
 ·rintro c _ O w O' w' ⟨h1,h2⟩ hz ho ht hu Q hO
  exact ⟨h1,FJ.stays cm.o ay.o () O w O' w' h2 hz ho ht hu Q hO⟩
 ·exact fun ch _ O w O' w' h hz ho ht hu Q hO=>FJ.stays (bj.o ch) ay.o () O w O' w' h hz ho ht hu Q hO
 ·exact fun a=>FJ.stays db.o ay.o
 ·exact fun k O w h=>I9.at A.o (bd.o _ _ _ h.j) h.box.s
 ·exact fun c O w h=>I9.at A.o (cd.o _ _ h.2.j) h.2.box.s
 ·refine ⟨HJ.o 0 _ W _ W1 H0.o (by rw[e9.o];omega) bo.o.os bo.o.tape bo.o.output (fun b _ E=>bo.o.block b E) (fun b hb=>?_),fun _ h=>h.elim,by rw[e9.o];omega,er.o,rfl⟩
  rcases hb with hb|hb
  ·exact hb.elim
  ·exact .inr hb.1
 ·intro k Q O w lo hI hO hl _
  obtain ⟨b,o,fg,h1,_⟩:=A.o.top.get k Q (by rw[<-A.o.top.length];exact Q)
  have ae:k < (AL x).length:=by rw[<-A.o.top.length];exact Q
  rw[h1]
  generalize ((AL x)[k]'ae).2=lt at h1
  have HI:=yb hI
  have HE:=yb h1
  clear hI hO hl h1
  gi_wp2
  first
  |exact ⟨Bv.refl _ _,HI.o.j,HI.o.own,HI.o.size,HI.o.box,HI.o.p,b,o,lt,Q,HE.o,rfl⟩
  |(rename_i hK;exact hK _ _ ⟨Bv.refl _ _,HI.o.j,HI.o.own,HI.o.size,HI.o.box,HI.o.p,b,o,lt,Q,HE.o,rfl⟩)
  |(rename_i hK _;exact hK _ _ ⟨Bv.refl _ _,HI.o.j,HI.o.own,HI.o.size,HI.o.box,HI.o.p,b,o,lt,Q,HE.o,rfl⟩)
  |fail
 ·rintro k Q O w lo a1 hl dh cq ⟨hj,a6,d7,ag,hp,b,o,lt,ey,hx,rfl⟩
  obtain ⟨b',o',cs,h1,h2,h3,h4,h5,h6,h7,h8,h9⟩:=A.o.top.get k Q (by rw[<-A.o.top.length];exact Q)
  rw[hx] at h1
  have ae:k < (AL x).length:=by rw[<-A.o.top.length];exact Q
  have ac:k < q.length:=by rw[f5.o];omega
  have bq:=f4.o k Q ae ac
  have b5:=A.o.few _ (yy ae)
  rcases di:(AL x)[k] with ⟨ex,fh⟩
  simp only[di] at h1 h3 h4 h9 bq b5
  simp only[qd,xz,xG,yV,qh,Value.int.injEq,qb,and_true] at h1
  obtain ⟨⟨rfl,rfl⟩,rfl⟩:=h1
  obtain ⟨ea,fa,rfl,e1,e2,e3⟩:=h3.cells
  obtain ⟨r0,r1,r2,r3,r4,r5⟩:=Br h2
  have ab:=bd.o _ _ _ hj
  have hC:=Sn h4
  have c0:=(ab.1 _ hC.1).trans r0
  have c1:=(ab.1 _ h5).trans r1
  have c2:=(ab.1 _ h6).trans r2
  have c3:=(ab.1 _ h7).trans r3
  obtain ⟨z,c4⟩:=ab.2 _ h8
  have c5:=(ab.1 _ hC.2).trans r5
  have av:FQ ex.op ex.n ex.u ex.rn z ex.args.length=D8 ex:=So (fun h0=>by
   have:=(ab.1 _ (h9 h0)).symm.trans c4
   rw[r4] at this
   simp only[yV,Value.int.injEq,qb] at this
   exact this.symm)
  have b7:=yb av
  have cu:IG J (KO W.heap.size (W.heap.size+3) O) W.heap.size l W.heap.size (W.heap.size+1) (BI (q.take k)).1.length w:=⟨hj,by omega,fun b hb=>hb.elim (cq b) (fun h=>by omega),⟨.inr (by omega),ag.y⟩,⟨.inr (by omega),ag.i⟩⟩
  have bk:=yb cu
  have cc:T0 n l W.heap.size (W.heap.size+1) W.heap.size (KO W.heap.size (W.heap.size+3) O) X.1 w0 C J Jx Jp:=⟨HJ.o,fun k O W h=>(bd.o k O W h).1,fun O W h=>(cd.o O W h).1,fun k Q W' hs=>by
   have:=aj.o k (by simpa using Q) _ W' hs.j hs.size (fun b hb=>⟨hb.elim (fun h=>by have:=a6 b h;omega) (fun h=>h.1),hs.own b hb⟩)
   rw[zS] at this
   exact this⟩
  have c9:D8 ex=true->BI (q.take (k+1))=((BI (q.take k)).1++[],true):=fun hl=>by
   rw[Lh ac hp,bq];simp[Ct,hl]
  have bw:D8 ex=false->q[k]=Cg w0 lt ex b o:=fun hl=>by
   rw[bq];simp[Ct,hl,hx,R5]
  have c7:=yb c9
  have b4:D8 ex=false->BI (q.take (k+1))=((BI (q.take k)).1++(Cg w0 lt ex b o).1,(Cg w0 lt ex b o).2):=fun hl=>by
   rw[Lh ac hp,bw hl]
  have d3:=yb b4
  have aw:D8 ex=false->∀w3,Below w.heap.size w w3->Calls Try.prog 82 #[pV b o,iV lt,pV W.heap.size 0,pV (W.heap.size+1) 0] w3
    (MX J Jx Jp (KO W.heap.size (W.heap.size+3) O) ((BI (q.take k)).1.length+(Cg w0 lt ex b o).1.length) (Cg w0 lt ex b o).2 w3):=fun hl w3 T=>by
   refine Oj n hn l W.heap.size (W.heap.size+1) W.heap.size lt b5 (KO W.heap.size (W.heap.size+3) O) X.1 w0 C J Jx Jp cc ex b o (BI (q.take k)).1 w3 (cu.below HJ.o T) h4 ?_ ?_
   ·obtain ⟨post,az⟩:=R4 q (k+1)
    rw[b4 hl] at az
    exact ⟨post,by rw[bg.o,az];simp⟩
   ·intro hf W' ev
    have co:=Q3 (l:=q) (k:=k+1) (by rw[b4 hl];exact hf)
    rw[b4 hl] at co
    refine ca.o (Ek 170) (by rw[bg.o,co];simp[hf]) _ W' ?_
    rw[bg.o,co]
    simpa using ev
  have cg:=yb aw
  have bm:=yb a6
  have ai:=yb ag
  have B:=yb d7
  have bi:=ag.i
  have et:=yb (zI w _ bi)
  have ek:=yb cq
  have HP:=yb hp
  have f9:=e1
  clear h2 h3 h4 h5 h6 h7 h8 h9 e2 e3 r0 r1 r2 r3 r4 r5 ab hC av cu cc c9 b4 aw a6 ag d7 cq hp bq bw hj hx di hl dh ey ae ac b5 e1
  generalize ex.args.length=em at*
  generalize ef:D8 ex=LE at*
  clear ef
  cases LE with
  |true=>
   gi_wp2_with fail
   refine ⟨trivial,zm (CallsIn.inRound lo (z8.2 (J8 _ _ _ _ _ _ _ _ _))) ?_⟩
   rintro e w3 ⟨rfl,T⟩
   rw[b7.o]
   gi_wp2_with fail
   repeat (refine ⟨fun _ h=>(by cases h),?_⟩;gi_wp2_with fail)
   refine ⟨⟨T.size,fun b hb=>T.block b (ek.o b hb)⟩,?_,bm.o,yr B.o T.size,?_,?_⟩
   ·have:=(bk.o.below HJ.o T).j
    rw[c7.o (by simp),zn];exact this
   ·have hB:=ay.o
    exact ai.o.same (T.block _ (by have:=B.o;omega)) (T.block _ (by have:=B.o;omega)) (T.block _ (by have:=B.o;omega))
   ·rw[c7.o (by simp)]
  |false=>
   gi_wp2_with fail
   refine ⟨trivial,zm (CallsIn.inRound lo (z8.2 (J8 _ _ _ _ _ _ _ _ _))) ?_⟩
   rintro e w3 ⟨rfl,T⟩
   rw[b7.o]
   have dk:=(T.cell (p:=(aV (W.heap.size+1) 0)) et.o).trans bi
   have a8:=yb T
   clear T
   gi_wp2_with fail
   refine ⟨trivial,zm (CallsIn.inRound lo (z8.2 (cg.o (by simp) w3 a8.o))) ?_⟩
   rintro e w4 (⟨r,rfl,ak,(⟨rfl,cz,dn⟩|⟨rfl,dj⟩)⟩|⟨ch,rfl,ee,ak⟩)
   ·have S:=yb ((bk.o.sameBelow a8.o).trans ak)
    have ep:=yb dn
    have f2:=yb cz
    clear ak dn cz bi dk
    gi_wp2_with fail
    refine ⟨S.o.sub (fun b hb=>.inl hb),?_,bm.o,yr B.o S.o.1,?_,?_⟩
    ·rw[d3.o (by simp)]
     simp only[ym]
     exact ep.o
    ·exact ai.o.same (S.o.2 _ (.inr (by omega))) (S.o.2 _ (.inr (by omega))) (S.o.2 _ (.inr (by omega)))
    ·rw[d3.o (by simp)];exact f2.o
   ·have S:=yb ((bk.o.sameBelow a8.o).trans ak)
    have en:=yb dj
    clear ak dj bi dk
    gi_wp2_with fail
    exact ⟨S.o.sub (fun b hb=>.inl hb),rfl,en.o,bm.o,yr B.o S.o.1,ai.o.same (S.o.2 _ (.inr (by omega))) (S.o.2 _ (.inr (by omega))) (S.o.2 _ (.inr (by omega))),trivial⟩
   ·have S:=yb ((bk.o.sameBelow a8.o).trans ak)
    exact ⟨rfl,S.o.sub (fun b hb=>.inl hb),ee,bm.o,yr B.o S.o.1,ai.o.same (S.o.2 _ (.inr (by omega))) (S.o.2 _ (.inr (by omega))) (S.o.2 _ (.inr (by omega))),trivial⟩
 ·rintro - Dd O w hD an hI ah
  have hT:(Ds w0 L x).length=(BO L).length:=EH A.o
  have dw:q.take (BO L).length=Ds w0 L x:=by rw[e6.o];unfold E8;rw[<-hT,List.take_left'];rfl
  have cv:=hI.p
  have bn:=hI.j
  simp only[dw] at cv bn
  obtain ⟨K0,ci⟩:∃K0,K0=(BI (Ds w0 L x)).1:=⟨_,rfl⟩
  have e8:X=(K0++(if Ci x then Cl L x else []),Ci x):=by
   rw[bg.o,e6.o];unfold E8
   rw[Es,cv,yx rfl,ci]
   simp only[BI]
   cases Ci x<;>simp
  rw[<-ci] at bn
  have cj:J K0.length (fun b=>KO W.heap.size (W.heap.size+3) O b∧b < w.heap.size) w:=HJ.o _ _ _ _ _ bn (ye _) rfl rfl rfl (fun _ _ _=>rfl) (fun b hb=>.inl hb.1)
  have dt:Dd < w.heap.size:=(yf.1 ah).1
  have bt:∀b,KO W.heap.size (W.heap.size+3) O b->W.heap.size<=b:=fun b hb=>hb.elim (fun h=>by have:=hI.own b h;omega) (fun h=>h.1)
  have bh:∀wr,Below w.heap.size w wr->∀p,C p->wr.cell? p=w0.cell? p:=fun wr hb=>(bd.o _ _ _ (Ej HJ.o cj hb)).1
  have R:=yb bh
  have dv:=yb cj
  have d8:=yb e8
  have d9:=yb bt
  have bb:=yb dt
  have da:=yb an
  have cp:=yb ah
  have ct:=yb hI.box
  have bz:=yb hI.size
  have bx:w.cell? (aV Bu 0)=some (pV L.s 0):=(bh w (yg _ _) _ A.o.box).trans A.o.heads.box
  have hf:w.cell? (aV L.s 22)=some (.slice L.farms.a L.farms.n L.farms.c):=(bh w (yg _ _) _ (A.o.src 22 (by omega) (by omega))).trans A.o.heads.farms
  have b8:L.farms.n<=140737488355328:=A.o.ok.farms.1
  clear hT dw cv bn ci e8 cj dt bt bh an ah hI hD
  simp only[Exit.inBlock,Exit.then]
  refine A6 ?_
  go_wp2
  clear bx hf
  go_loopw [6,42] (fun v6 iv wr=>∃(i:Nat) (us:List Us),i<=L.farms.n∧iv=iV i∧Hid (us=Q4 L x i)∧Hid (Below w.heap.size w wr)∧Hid (CQ w.heap.size wr v6 us)) (fun _ iv _=>L.farms.n - (intOf iv).toNat)
  case atStart=>exact ⟨0,[],yz _,rfl,yb rfl,yb (yg _ _),yb (PX _ _)⟩
  case round=>
   obtain ⟨i,us,hi,rfl,G,m,HOr⟩:=hrel
   by_cases E:i < L.farms.n
   ·obtain ⟨b,o,he,a7⟩:=A.o.ok.farms.get E
    have a2:i < x.farms.length:=by rw[<-A.o.nfarms];exact E
    have bx:=(R.o wr m.o _ A.o.box).trans A.o.heads.box
    have hf:wr.cell? (aV L.s 22)=some (.slice L.farms.a L.farms.n L.farms.c):=(R.o wr m.o _ (A.o.src 22 (by omega) (by omega))).trans A.o.heads.farms
    have hr:=(R.o wr m.o _ (A.o.river i a2).1).trans (A.o.river i a2).2
    rw[a7] at hr
    rw[he] at hf
    clear he
    have U:E4 L.farms x.farms i=[⟨b,o+i*12+1,4,0,x.farms[i].on.name,x.farms[i].on.n⟩,⟨b,o+i*12+10,if x.farms[i].river then 0 else 3,0,x.farms[i].crop.name,x.farms[i].crop.n⟩]:=by
     unfold E4;rw[yk a2];simp[D3,a7]
    have b3:(i:Int) < (L.farms.n:Int):=by omega
    cases bs:x.farms[i].river with
    |true=>
     rw[bs] at hr U
     simp only[zY] at U
     have P:=yb U
     clear U bs
     have F:Hid (Below wr.heap.size wr (wr.drew.alloc (.cells #[pV b (o+i*12+1),iV 4,iV 0,pV b (o+i*12+10),iV 0,iV 0] 106))):=yb ((yg _ _).drew.alloc (ye _) _)
     have I:=yb (CQ.up HOr.o F.o)
     have H:Hid (BP (wr.drew.alloc (.cells #[pV b (o+i*12+1),iV 4,iV 0,pV b (o+i*12+10),iV 0,iV 0] 106)) (.slice (some (aV wr.heap.size 0)) 2 2) 2 3 ([(⟨b,o+i*12+1,4,0,x.farms[i].on.name,x.farms[i].on.n⟩:Us),(⟨b,o+i*12+10,0,0,x.farms[i].crop.name,x.farms[i].crop.n⟩:Us)].flatMap AO)):=yb (Gi (us:=[(⟨b,o+i*12+1,4,0,x.farms[i].on.name,x.farms[i].on.n⟩:Us),(⟨b,o+i*12+10,0,0,x.farms[i].crop.name,x.farms[i].crop.n⟩:Us)]) (World.alloc_heap_new wr.drew _) 2)
     have K:Hid (us.length+2<=1000000):=yb (by have h1:=Na (x:=x) E;have h2:=A.o.short;have h3:=P.o;have h4:=G.o;rw[h3] at h1;rw[h4];simp only[yE,yI] at h1 ⊢;omega)
     have B:Hid (w.heap.size<=(wr.drew.alloc (.cells #[pV b (o+i*12+1),iV 4,iV 0,pV b (o+i*12+10),iV 0,iV 0] 106)).heap.size):=yb (yr m.o.size F.o.size)
     have a0:=yb (m.o.trans (F.o.mono m.o.size))
     go_wp2_with fail
     go_region_held3 (fun _=>True) (trivial) (first|(refine CN w.heap.size rfl _ _ rfl u6 us rfl I.o (.slice (some (aV wr.heap.size 0)) 2 2) [(⟨b,o+i*12+1,4,0,x.farms[i].on.name,x.farms[i].on.n⟩:Us),(⟨b,o+i*12+10,0,0,x.farms[i].crop.name,x.farms[i].crop.n⟩:Us)] rfl H.o K.o B.o ?_;intro ad c w5 t M;have Z:=yb t;have V:=yb (E9 a0.o B.o I.o M);clear t M))
     go_wp2
     exact ⟨⟨i+1,_,by omega,by push_cast;rfl,yb (by rw[G.o,Lk,P.o]),V,Z⟩,by simp[intOf];omega⟩
    |false=>
     rw[bs] at hr U
     simp only[Bool.false_eq_true,if_false] at U
     have P:=yb U
     clear U bs
     have F:Hid (Below wr.heap.size wr (wr.drew.alloc (.cells #[pV b (o+i*12+1),iV 4,iV 0,pV b (o+i*12+10),iV 3,iV 0] 106))):=yb ((yg _ _).drew.alloc (ye _) _)
     have I:=yb (CQ.up HOr.o F.o)
     have H:Hid (BP (wr.drew.alloc (.cells #[pV b (o+i*12+1),iV 4,iV 0,pV b (o+i*12+10),iV 3,iV 0] 106)) (.slice (some (aV wr.heap.size 0)) 2 2) 2 3 ([(⟨b,o+i*12+1,4,0,x.farms[i].on.name,x.farms[i].on.n⟩:Us),(⟨b,o+i*12+10,3,0,x.farms[i].crop.name,x.farms[i].crop.n⟩:Us)].flatMap AO)):=yb (Gi (us:=[(⟨b,o+i*12+1,4,0,x.farms[i].on.name,x.farms[i].on.n⟩:Us),(⟨b,o+i*12+10,3,0,x.farms[i].crop.name,x.farms[i].crop.n⟩:Us)]) (World.alloc_heap_new wr.drew _) 2)
     have K:Hid (us.length+2<=1000000):=yb (by have h1:=Na (x:=x) E;have h2:=A.o.short;have h3:=P.o;have h4:=G.o;rw[h3] at h1;rw[h4];simp only[yE,yI] at h1 ⊢;omega)
     have B:Hid (w.heap.size<=(wr.drew.alloc (.cells #[pV b (o+i*12+1),iV 4,iV 0,pV b (o+i*12+10),iV 3,iV 0] 106)).heap.size):=yb (yr m.o.size F.o.size)
     have a0:=yb (m.o.trans (F.o.mono m.o.size))
     go_wp2_with fail
     go_region_held3 (fun _=>True) (trivial) (first|(refine CN w.heap.size rfl _ _ rfl u6 us rfl I.o (.slice (some (aV wr.heap.size 0)) 2 2) [(⟨b,o+i*12+1,4,0,x.farms[i].on.name,x.farms[i].on.n⟩:Us),(⟨b,o+i*12+10,3,0,x.farms[i].crop.name,x.farms[i].crop.n⟩:Us)] rfl H.o K.o B.o ?_;intro ad c w5 t M;have Z:=yb t;have V:=yb (E9 a0.o B.o I.o M);clear t M))
     go_wp2
     exact ⟨⟨i+1,_,by omega,by push_cast;rfl,yb (by rw[G.o,Lk,P.o]),V,Z⟩,by simp[intOf];omega⟩
   ·obtain rfl:i=L.farms.n:=by omega
    have bx:=(R.o wr m.o _ A.o.box).trans A.o.heads.box
    have hf:wr.cell? (aV L.s 23)=some (.slice L.rots.a L.rots.n L.rots.c):=(R.o wr m.o _ (A.o.src 23 (by omega) (by omega))).trans A.o.heads.rots
    have b8:L.rots.n<=140737488355328:=A.o.ok.rots.1
    go_wp2
    clear bx hf
    obtain ⟨fb,rfl⟩:∃z:World,z=wr:=⟨_,rfl⟩
    obtain ⟨fl,rfl⟩:∃z:Value,z=u6:=⟨_,rfl⟩
    go_loopw [6,73] (fun v6 iv wr=>∃(i:Nat) (us:List Us),i<=L.rots.n∧iv=iV i∧Hid (us=KP L x i)∧Hid (Below w.heap.size w wr)∧Hid (CQ w.heap.size wr v6 us)) (fun _ iv _=>L.rots.n - (intOf iv).toNat)
    case atStart=>exact ⟨0,us,yz _,rfl,yb (by rw[G.o];simp[KP]),m,HOr⟩
    case round=>
     clear G m HOr
     obtain ⟨i,us,hi,rfl,G,m,HOr⟩:=hrel
     by_cases E:i < L.rots.n
     ·obtain ⟨b,o,he,a7⟩:=A.o.ok.rots.get E
      have a2:i < x.rots.length:=by rw[<-A.o.nrots];exact E
      have bx:=(R.o wr m.o _ A.o.box).trans A.o.heads.box
      have hf:wr.cell? (aV L.s 23)=some (.slice L.rots.a L.rots.n L.rots.c):=(R.o wr m.o _ (A.o.src 23 (by omega) (by omega))).trans A.o.heads.rots
      rw[he] at hf
      clear he
      have ez:=yb (A.o.nturns i a2)
      have cb:=yb (A.o.ok.turns i E)
      have cy:Hid (∀W,Below w.heap.size w W->W.cell? (aV b (o+i*23+22))=some (.slice (A4 L i).a (A4 L i).n (A4 L i).c)):=yb (fun W hW=>by
       have h1:=(R.o W hW _ (A.o.turns i E)).trans (A.o.heads.turns i E)
       rw[a7] at h1;exact h1)
      have P:Hid (Gl L x.rots i=⟨b,o+i*23+1,4,0,x.rots[i].on.name,x.rots[i].on.n⟩::(List.range (A4 L i).n).flatMap (EM (A4 L i) x.rots[i].turns)):=yb (by
       unfold Gl;rw[yk a2];simp[D3,a7])
      have b3:(i:Int) < (L.rots.n:Int):=by omega
      have f1:(A4 L i).n<=140737488355328:=cb.o.1
      have eg:∀w5:World,Below w.heap.size w w5->True:=fun _ _=>trivial
      clear eg
      have F:Hid (Below wr.heap.size wr (wr.alloc (.cells #[pV b (o+i*23+1),iV 4,iV 0] 106))):=yb ((yg _ _).alloc (ye _) _)
      have I:=yb (CQ.up HOr.o F.o)
      have H:Hid (BP (wr.alloc (.cells #[pV b (o+i*23+1),iV 4,iV 0] 106)) (.slice (some (aV wr.heap.size 0)) 1 1) 1 3 ([(⟨b,o+i*23+1,4,0,x.rots[i].on.name,x.rots[i].on.n⟩:Us)].flatMap AO)):=yb (Gi (us:=[(⟨b,o+i*23+1,4,0,x.rots[i].on.name,x.rots[i].on.n⟩:Us)]) (World.alloc_heap_new wr _) 1)
      have K:Hid (us.length+1<=1000000):=yb (by have h1:=Nb (x:=x) E;have h2:=A.o.short;have h3:=P.o;have h4:=G.o;rw[h3] at h1;rw[h4];simp only[yE] at h1;omega)
      have B:Hid (w.heap.size<=(wr.alloc (.cells #[pV b (o+i*23+1),iV 4,iV 0] 106)).heap.size):=yb (yr m.o.size F.o.size)
      have a0:=yb (m.o.trans (F.o.mono m.o.size))
      go_wp2_with (first|(at_builtin;refine FW w.heap.size rfl _ _ rfl u6 us rfl I.o (.slice (some (aV wr.heap.size 0)) 1 1) [(⟨b,o+i*23+1,4,0,x.rots[i].on.name,x.rots[i].on.n⟩:Us)] rfl H.o K.o B.o ?_;intro ad c w5 t M;have Z:=yb t;have V:=yb (E9 a0.o B.o I.o M);have ht:=cy.o w5 V.o;clear t M))
      clear bx hf ht
      obtain ⟨wg,rfl⟩:∃z:World,z=wr:=⟨_,rfl⟩
      obtain ⟨vg,rfl⟩:∃z:Value,z=u6:=⟨_,rfl⟩
      go_loopw [6,94] (fun v6 iv wr=>∃(k:Nat) (ao:List Us),k<=(A4 L i).n∧iv=iV k∧Hid (ao=us++(⟨b,o+i*23+1,4,0,x.rots[i].on.name,x.rots[i].on.n⟩::(List.range k).flatMap (EM (A4 L i) x.rots[i].turns)))∧Hid (Below w.heap.size w wr)∧Hid (CQ w.heap.size wr v6 ao)) (fun _ iv _=>(A4 L i).n - (intOf iv).toNat)
      case atStart=>exact ⟨0,_,yz _,rfl,yb (by simp),V,Z⟩
      case round=>
       clear m HOr V Z
       obtain ⟨k,ao,Q,rfl,au,m,HOr⟩:=hrel
       by_cases ba:k < (A4 L i).n
       ·obtain ⟨b2,o2,ec,d6⟩:=cb.o.get ba
        have f6:k < x.rots[i].turns.length:=by rw[<-ez.o];exact ba
        have ht:=cy.o wr m.o
        rw[ec] at ht
        clear ec
        have dl:Hid (EM (A4 L i) x.rots[i].turns k=[⟨b2,o2+k*8,5,0,(x.rots[i].turns[k]).farm.name,(x.rots[i].turns[k]).farm.n⟩]):=yb (by
         unfold EM;rw[yk f6];simp[D3,d6])
        have eh:(k:Int) < ((A4 L i).n:Int):=by omega
        have F:Hid (Below wr.heap.size wr (wr.alloc (.cells #[pV b2 (o2+k*8),iV 5,iV 0] 106))):=yb ((yg _ _).alloc (ye _) _)
        have I:=yb (CQ.up HOr.o F.o)
        have H:Hid (BP (wr.alloc (.cells #[pV b2 (o2+k*8),iV 5,iV 0] 106)) (.slice (some (aV wr.heap.size 0)) 1 1) 1 3 ([(⟨b2,o2+k*8,5,0,(x.rots[i].turns[k]).farm.name,(x.rots[i].turns[k]).farm.n⟩:Us)].flatMap AO)):=yb (Gi (us:=[(⟨b2,o2+k*8,5,0,(x.rots[i].turns[k]).farm.name,(x.rots[i].turns[k]).farm.n⟩:Us)]) (World.alloc_heap_new wr _) 1)
        have K:Hid (ao.length+1<=1000000):=yb (by have h1:=Nb (x:=x) E;have h2:=A.o.short;have h3:=P.o;have h4:=G.o;have h5:=FV (f:=EM (A4 L i) x.rots[i].turns) ba;have h6:=dl.o;rw[h6] at h5;rw[h3] at h1;rw[au.o,h4];simp only[yE,ym,yI] at h1 h5 ⊢;omega)
        have B:Hid (w.heap.size<=(wr.alloc (.cells #[pV b2 (o2+k*8),iV 5,iV 0] 106)).heap.size):=yb (yr m.o.size F.o.size)
        have a0:=yb (m.o.trans (F.o.mono m.o.size))
        go_wp2_with (first|(at_builtin;refine FW w.heap.size rfl _ _ rfl u6 ao rfl I.o (.slice (some (aV wr.heap.size 0)) 1 1) [(⟨b2,o2+k*8,5,0,(x.rots[i].turns[k]).farm.name,(x.rots[i].turns[k]).farm.n⟩:Us)] rfl H.o K.o B.o ?_;intro ad c w5 t M;have Z:=yb t;have V:=yb (E9 a0.o B.o I.o M);clear t M))
        exact ⟨⟨k+1,_,by omega,by push_cast;rfl,yb (by rw[au.o,Am,dl.o];simp),V,Z⟩,by simp[intOf];omega⟩
       ·obtain rfl:k=(A4 L i).n:=by omega
        have eh:decide (((A4 L i).n:Int) < ((A4 L i).n:Int))=false:=by simp
        go_wp2
        exact ⟨⟨i+1,ao,by omega,by push_cast;rfl,yb (by rw[au.o,G.o,Q5,P.o]),m,HOr⟩,by simp[intOf];omega⟩
     ·obtain rfl:i=L.rots.n:=by omega
      have bx:=(R.o wr m.o _ A.o.box).trans A.o.heads.box
      have hf:wr.cell? (aV L.s 24)=some (.slice L.rights.a L.rights.n L.rights.c):=(R.o wr m.o _ (A.o.src 24 (by omega) (by omega))).trans A.o.heads.rights
      have b8:L.rights.n<=140737488355328:=A.o.ok.rights.1
      go_wp2
      clear bx hf
      obtain ⟨fe,rfl⟩:∃z:World,z=wr:=⟨_,rfl⟩
      obtain ⟨fk,rfl⟩:∃z:Value,z=u6:=⟨_,rfl⟩
      go_loopw [6,115] (fun v6 iv wr=>∃(i:Nat) (us:List Us),i<=L.rights.n∧iv=iV i∧Hid (us=KQ L x i)∧Hid (Below w.heap.size w wr)∧Hid (CQ w.heap.size wr v6 us)∧Hid (∀j (h:j < x.rights.length),j < i->GO x.rights[j].kind=true)) (fun _ iv _=>L.rights.n - (intOf iv).toNat)
      case atStart=>exact ⟨0,us,yz _,rfl,yb (by rw[G.o];simp[KQ]),m,HOr,yb (fun j _ hj=>by omega)⟩
      case round=>
       clear G m HOr
       obtain ⟨i,us,hi,rfl,G,m,HOr,HK⟩:=hrel
       by_cases E:i < L.rights.n
       ·obtain ⟨b,o,he,a7⟩:=A.o.ok.rights.get E
        have a2:i < x.rights.length:=by rw[<-A.o.nrights];exact E
        have bx:=(R.o wr m.o _ A.o.box).trans A.o.heads.box
        have hf:wr.cell? (aV L.s 24)=some (.slice L.rights.a L.rights.n L.rights.c):=(R.o wr m.o _ (A.o.src 24 (by omega) (by omega))).trans A.o.heads.rights
        have hr:=(R.o wr m.o _ (A.o.kind i a2).1).trans (A.o.kind i a2).2
        rw[a7,xR] at hr
        rw[he] at hf
        clear he
        have U:CY L.rights x.rights i=[⟨b,o+i*37+2,5,0,x.rights[i].farm.name,x.rights[i].farm.n⟩,⟨b,o+i*37+4,if x.rights[i].kind=1 then 0 else 4,0,x.rights[i].reach.name,x.rights[i].reach.n⟩]:=by
         unfold CY;rw[yk a2];simp[D3,a7]
        have b3:(i:Int) < (L.rights.n:Int):=by omega
        have be:Hid (GO x.rights[i].kind=true->∀j (h:j < x.rights.length),j < i+1->GO x.rights[j].kind=true):=yb (fun h j hj ff=>by
         rcases zO j i with h9|h9
         ·exact HK.o j hj h9
         ·obtain rfl:j=i:=by omega
          exact h)
        have bp:Hid (GO x.rights[i].kind=false->Ci x=false):=yb (fun h=>by
         unfold Ci;rw[xr];exact ⟨_,yy a2,by simp[h]⟩)
        by_cases Q:GO x.rights[i].kind=true
        ·have d5:=yb (be.o Q)
         simp only[GO,yt,yW] at Q
         obtain ⟨k1,k3⟩:=Q
         by_cases al:x.rights[i].kind=1
         ·rw[yx al] at U
          have P:=yb U
          clear U be bp
          have el:(x.rights[i].kind==1)=true:=by simpa using al
          have F:Hid (Below wr.heap.size wr (wr.drew.alloc (.cells #[pV b (o+i*37+2),iV 5,iV 0,pV b (o+i*37+4),iV 0,iV 0] 106))):=yb ((yg _ _).drew.alloc (ye _) _)
          have I:=yb (CQ.up HOr.o F.o)
          have H:Hid (BP (wr.drew.alloc (.cells #[pV b (o+i*37+2),iV 5,iV 0,pV b (o+i*37+4),iV 0,iV 0] 106)) (.slice (some (aV wr.heap.size 0)) 2 2) 2 3 ([(⟨b,o+i*37+2,5,0,x.rights[i].farm.name,x.rights[i].farm.n⟩:Us),(⟨b,o+i*37+4,0,0,x.rights[i].reach.name,x.rights[i].reach.n⟩:Us)].flatMap AO)):=yb (Gi (us:=[(⟨b,o+i*37+2,5,0,x.rights[i].farm.name,x.rights[i].farm.n⟩:Us),(⟨b,o+i*37+4,0,0,x.rights[i].reach.name,x.rights[i].reach.n⟩:Us)]) (World.alloc_heap_new wr.drew _) 2)
          have K:Hid (us.length+2<=1000000):=yb (by have h1:=Nc (x:=x) E;have h2:=A.o.short;have h3:=P.o;have h4:=G.o;rw[h3] at h1;rw[h4];simp only[yE,yI] at h1 ⊢;omega)
          have B:Hid (w.heap.size<=(wr.drew.alloc (.cells #[pV b (o+i*37+2),iV 5,iV 0,pV b (o+i*37+4),iV 0,iV 0] 106)).heap.size):=yb (yr m.o.size F.o.size)
          have a0:=yb (m.o.trans (F.o.mono m.o.size))
          go_wp2_with (first|(go_at_call 50;refine (CA _ _).mono ?_;rintro e w6 ⟨rfl,cf⟩;obtain rfl:=cf.symm))
          go_region_held3 (fun _=>True) (trivial) (first|(refine CN w.heap.size rfl _ _ rfl u6 us rfl I.o (.slice (some (aV wr.heap.size 0)) 2 2) [(⟨b,o+i*37+2,5,0,x.rights[i].farm.name,x.rights[i].farm.n⟩:Us),(⟨b,o+i*37+4,0,0,x.rights[i].reach.name,x.rights[i].reach.n⟩:Us)] rfl H.o K.o B.o ?_;intro ad c w5 t M;have Z:=yb t;have V:=yb (E9 a0.o B.o I.o M);clear t M))
          go_wp2
          exact ⟨⟨i+1,_,by omega,by push_cast;rfl,yb (by rw[G.o,Ll,P.o]),V,Z,d5⟩,by simp[intOf];omega⟩
         ·rw[yu al] at U
          have P:=yb U
          clear U be bp
          have el:(x.rights[i].kind==1)=false:=by simpa using al
          have F:Hid (Below wr.heap.size wr (wr.drew.alloc (.cells #[pV b (o+i*37+2),iV 5,iV 0,pV b (o+i*37+4),iV 4,iV 0] 106))):=yb ((yg _ _).drew.alloc (ye _) _)
          have I:=yb (CQ.up HOr.o F.o)
          have H:Hid (BP (wr.drew.alloc (.cells #[pV b (o+i*37+2),iV 5,iV 0,pV b (o+i*37+4),iV 4,iV 0] 106)) (.slice (some (aV wr.heap.size 0)) 2 2) 2 3 ([(⟨b,o+i*37+2,5,0,x.rights[i].farm.name,x.rights[i].farm.n⟩:Us),(⟨b,o+i*37+4,4,0,x.rights[i].reach.name,x.rights[i].reach.n⟩:Us)].flatMap AO)):=yb (Gi (us:=[(⟨b,o+i*37+2,5,0,x.rights[i].farm.name,x.rights[i].farm.n⟩:Us),(⟨b,o+i*37+4,4,0,x.rights[i].reach.name,x.rights[i].reach.n⟩:Us)]) (World.alloc_heap_new wr.drew _) 2)
          have K:Hid (us.length+2<=1000000):=yb (by have h1:=Nc (x:=x) E;have h2:=A.o.short;have h3:=P.o;have h4:=G.o;rw[h3] at h1;rw[h4];simp only[yE,yI] at h1 ⊢;omega)
          have B:Hid (w.heap.size<=(wr.drew.alloc (.cells #[pV b (o+i*37+2),iV 5,iV 0,pV b (o+i*37+4),iV 4,iV 0] 106)).heap.size):=yb (yr m.o.size F.o.size)
          have a0:=yb (m.o.trans (F.o.mono m.o.size))
          go_wp2_with (first|(go_at_call 50;refine (CA _ _).mono ?_;rintro e w6 ⟨rfl,cf⟩;obtain rfl:=cf.symm))
          go_region_held3 (fun _=>True) (trivial) (first|(refine CN w.heap.size rfl _ _ rfl u6 us rfl I.o (.slice (some (aV wr.heap.size 0)) 2 2) [(⟨b,o+i*37+2,5,0,x.rights[i].farm.name,x.rights[i].farm.n⟩:Us),(⟨b,o+i*37+4,4,0,x.rights[i].reach.name,x.rights[i].reach.n⟩:Us)] rfl H.o K.o B.o ?_;intro ad c w5 t M;have Z:=yb t;have V:=yb (E9 a0.o B.o I.o M);clear t M))
          go_wp2
          exact ⟨⟨i+1,_,by omega,by push_cast;rfl,yb (by rw[G.o,Ll,P.o]),V,Z,d5⟩,by simp[intOf];omega⟩
        ·have eq:=yb (bp.o (by simpa using Q))
         clear bp be U
         have bv:Hid (∀W',Below w.heap.size w W'->∀ob,∃O,Jp (Ek 170) O (W'.putObj Dd ob)):=yb (fun W' hW ob=>by
          have hX:=d8.o
          rw[eq.o] at hX
          have hj:=Ej HJ.o dv.o hW
          refine ⟨_,(bj.o (Ek 170)).put (s:=()) ?_ _ (ca.o (Ek 170) (by rw[hX];rfl) _ W' (by rw[hX];simpa using hj))⟩
          exact .inl ⟨.inl da.o,bb.o⟩)
         by_cases al:1<=x.rights[i].kind
         ·have ac:¬ x.rights[i].kind<=3:=fun h=>Q (by simp[GO,al,h])
          clear Q
          go_wp2_with (first|(go_at_call 50;refine (Cs _ _).mono ?_;rintro e w6 ⟨rfl,rfl⟩))
          exact ⟨by simp,.inl ⟨_,_,rfl,run_takeDeferred ((m.o.block Dd bb.o).trans cp.o),.inr ⟨_,rfl,bv.o _ m.o _⟩⟩⟩
         ·clear Q
          go_wp2_with (first|(go_at_call 50;refine (Cs _ _).mono ?_;rintro e w6 ⟨rfl,rfl⟩))
          exact ⟨by simp,.inl ⟨_,_,rfl,run_takeDeferred ((m.o.block Dd bb.o).trans cp.o),.inr ⟨_,rfl,bv.o _ m.o _⟩⟩⟩
       ·obtain rfl:i=L.rights.n:=by omega
        have ei:Hid (Ci x=true):=yb (by
         unfold Ci;rw[yL];intro d hd
         obtain ⟨j,hj,rfl⟩:=zg.1 hd
         exact HK.o j hj (by rw[A.o.nrights];exact hj))
        have bx:=(R.o wr m.o _ A.o.box).trans A.o.heads.box
        have hf:wr.cell? (aV L.s 25)=some (.slice L.duties.a L.duties.n L.duties.c):=(R.o wr m.o _ (A.o.src 25 (by omega) (by omega))).trans A.o.heads.duties
        have b8:L.duties.n<=140737488355328:=A.o.ok.duties.1
        go_wp2
        clear bx hf
        obtain ⟨fi,rfl⟩:∃z:World,z=wr:=⟨_,rfl⟩
        obtain ⟨fc,rfl⟩:∃z:Value,z=u6:=⟨_,rfl⟩
        go_loopw [6,160] (fun v6 iv wr=>∃(i:Nat) (us:List Us),i<=L.duties.n∧iv=iV i∧Hid (us=Mc L x i)∧Hid (Below w.heap.size w wr)∧Hid (CQ w.heap.size wr v6 us)) (fun _ iv _=>L.duties.n - (intOf iv).toNat)
        case atStart=>exact ⟨0,us,yz _,rfl,yb (by rw[G.o];simp[Mc]),m,HOr⟩
        case round=>
         clear G m HOr
         obtain ⟨i,us,hi,rfl,G,m,HOr⟩:=hrel
         by_cases E:i < L.duties.n
         ·obtain ⟨b,o,he,a7⟩:=A.o.ok.duties.get E
          have a2:i < x.duties.length:=by rw[<-A.o.nduties];exact E
          have bx:=(R.o wr m.o _ A.o.box).trans A.o.heads.box
          have hf:wr.cell? (aV L.s 25)=some (.slice L.duties.a L.duties.n L.duties.c):=(R.o wr m.o _ (A.o.src 25 (by omega) (by omega))).trans A.o.heads.duties
          rw[he] at hf
          clear he
          have P:Hid (DM L.duties x.duties i=[⟨b,o+i*11+1,5,0,x.duties[i].farm.name,x.duties[i].farm.n⟩,⟨b,o+i*11+3,4,0,x.duties[i].reach.name,x.duties[i].reach.n⟩]):=yb (by
           unfold DM;rw[yk a2];simp[D3,a7])
          have b3:(i:Int) < (L.duties.n:Int):=by omega
          have F:Hid (Below wr.heap.size wr (wr.drew.alloc (.cells #[pV b (o+i*11+1),iV 5,iV 0,pV b (o+i*11+3),iV 4,iV 0] 106))):=yb ((yg _ _).drew.alloc (ye _) _)
          have I:=yb (CQ.up HOr.o F.o)
          have H:Hid (BP (wr.drew.alloc (.cells #[pV b (o+i*11+1),iV 5,iV 0,pV b (o+i*11+3),iV 4,iV 0] 106)) (.slice (some (aV wr.heap.size 0)) 2 2) 2 3 ([(⟨b,o+i*11+1,5,0,x.duties[i].farm.name,x.duties[i].farm.n⟩:Us),(⟨b,o+i*11+3,4,0,x.duties[i].reach.name,x.duties[i].reach.n⟩:Us)].flatMap AO)):=yb (Gi (us:=[(⟨b,o+i*11+1,5,0,x.duties[i].farm.name,x.duties[i].farm.n⟩:Us),(⟨b,o+i*11+3,4,0,x.duties[i].reach.name,x.duties[i].reach.n⟩:Us)]) (World.alloc_heap_new wr.drew _) 2)
          have K:Hid (us.length+2<=1000000):=yb (by have h1:=R8 (x:=x) E;have h2:=A.o.short;have h3:=P.o;have h4:=G.o;rw[h3] at h1;rw[h4];simp only[yE,yI] at h1 ⊢;omega)
          have B:Hid (w.heap.size<=(wr.drew.alloc (.cells #[pV b (o+i*11+1),iV 5,iV 0,pV b (o+i*11+3),iV 4,iV 0] 106)).heap.size):=yb (yr m.o.size F.o.size)
          have a0:=yb (m.o.trans (F.o.mono m.o.size))
          go_wp2_with fail
          go_region_held3 (fun _=>True) (trivial) (first|(refine CN w.heap.size rfl _ _ rfl u6 us rfl I.o (.slice (some (aV wr.heap.size 0)) 2 2) [(⟨b,o+i*11+1,5,0,x.duties[i].farm.name,x.duties[i].farm.n⟩:Us),(⟨b,o+i*11+3,4,0,x.duties[i].reach.name,x.duties[i].reach.n⟩:Us)] rfl H.o K.o B.o ?_;intro ad c w5 t M;have Z:=yb t;have V:=yb (E9 a0.o B.o I.o M);clear t M))
          go_wp2
          exact ⟨⟨i+1,_,by omega,by push_cast;rfl,yb (by rw[G.o,Q6,P.o]),V,Z⟩,by simp[intOf];omega⟩
         ·obtain rfl:i=L.duties.n:=by omega
          have dg:Hid (us=Cl L x):=yb (by rw[G.o];exact JY L x)
          have cl:Hid (X=(K0++us,true)):=yb (by rw[d8.o,ei.o,dg.o];rfl)
          have fj:us.length<=1000000:=by rw[dg.o];exact A.o.short
          obtain ⟨va,vc,rfl, -⟩:=Sl HOr.o
          obtain ⟨wl,rfl⟩:∃z:World,z=wr:=⟨_,rfl⟩
          obtain ⟨O3,am⟩:∃O3:NP,O3=fun b=>(KO W.heap.size (W.heap.size+3) O b∧b < w.heap.size)∨(w.heap.size<=b∧b < wl.heap.size):=⟨_,rfl⟩
          have dd:J K0.length O3 wl:=by rw[am];exact Ej HJ.o dv.o m.o
          have T:∀b,O3 b->W.heap.size<=b∧b < wl.heap.size:=fun b hb=>by
           rw[am] at hb
           rcases hb with hb|hb
           ·exact ⟨d9.o b hb.1,yp hb.2 m.o.size⟩
           ·have:=bz.o;omega
          have dr:O3 Dd:=by rw[am];exact .inl ⟨.inl da.o,bb.o⟩
          have dc:O3 W.heap.size∧wl.cell? (aV W.heap.size 0)=some (.func (.yield l) #[] #[]):=by
           have h1:=bz.o
           refine ⟨by rw[am];exact .inl ⟨.inr ⟨ye _,by omega⟩,by omega⟩,(m.o.cell (p:=(aV W.heap.size 0)) (by show W.heap.size < w.heap.size;omega)).trans ct.o.y⟩
          have e7:∀g,w.heap.size<=g->g < wl.heap.size->O3 g:=fun g h1 h2=>by rw[am];exact .inr ⟨h1,h2⟩
          have b9:=yb ((m.o.block Dd bb.o).trans cp.o)
          have ck:=yb e7
          have f3:=yb dd
          have a8:=yb T
          have ar:=yb dr
          have cn:=yb dc
          clear am dd T dr dc e7
          go_wp2
          go_loopw [183] (fun iv wr=>∃i:Nat,i<=us.length∧iv=iV i∧Hid (J (K0.length+i) O3 wr)∧Hid (Bv O3 wl wr)) (fun iv _=>us.length - (intOf iv).toNat)
          case atStart=>exact ⟨0,yz _,rfl,f3,yb (Bv.refl _ _)⟩
          case round=>
           obtain ⟨i,hi,rfl,de,aq⟩:=hrel
           by_cases E:i < us.length
           ·obtain ⟨g,c,hv,cw,cx,dx,c0,c1,c2⟩:=R7 HOr.o E
            simp only[zX,qb] at hv
            obtain ⟨rfl,rfl⟩:=hv
            have d0:=D4 aq.o (ck.o g cw cx) c0
            have d1:=D4 aq.o (ck.o g cw cx) c1
            have d2:=D4 aq.o (ck.o g cw cx) c2
            have Q:K0.length+i < (X.1.map Us.v).length:=by rw[cl.o];simp;exact E
            have dz:(X.1.map Us.v)[K0.length+i]=us[i].v:=by
             rw[zS]
             have h1:X.1[K0.length+i]?=some us[i]:=by rw[cl.o];simp[yS,yk E]
             obtain ⟨h2,h3⟩:=yD.1 h1
             rw[h3]
            generalize us[i]=u at*
            have af:Below wr.heap.size wr (wr.alloc (.cells #[pV u.b u.o,iV u.to,iV u.at_] 106)):=(yg _ _).alloc (ye _) _
            have du:Bv O3 wr (wr.alloc (.cells #[pV u.b u.o,iV u.to,iV u.at_] 106)):=⟨af.size,fun b hb=>af.block b (yp (a8.o b hb).2 aq.o.1)⟩
            have dq:J (K0.length+i) O3 (wr.alloc (.cells #[pV u.b u.o,iV u.to,iV u.at_] 106)):=HJ.o _ _ _ _ _ de.o af.size af.os af.tape af.output (fun b _ hl=>af.block b hl) (fun b hb=>.inl hb)
            have ap:=yb (aq.o.trans du)
            obtain ⟨fd,ej,e4,eo,hy,dm⟩:=aj.o (K0.length+i) Q O3 _ dq (yr (by have:=(a8.o _ cn.o.1).2;omega) ap.o.1) (fun b hb=>⟨(a8.o b hb).1,yp (a8.o b hb).2 ap.o.1⟩)
            rw[dz] at hy
            unfold Us.v at hy
            have f7:=yb dm
            have q3:=D4 ap.o cn.o.1 cn.o.2
            have b3:(i:Int) < (us.length:Int):=by omega
            have f8:=dx
            clear Q dz dm af du dq c0 c1 c2 dx
            go_upto_region 47 with fail
            refine (wpIn_wide (n:=n)).1 ?_
            gi_wp2
            refine f7.o.mono ?_
            rintro e W6 (⟨rfl,hj,hs⟩|⟨rfl,hx,hs⟩|⟨ch,rfl,hp,hs⟩)
            ·have f0:=yb hj
             have ax:=yb (ap.o.trans hs)
             clear hj hs hy q3 d0 d1 d2
             gi_wp2
             go_wp2
             exact ⟨⟨i+1,by omega,by push_cast;rfl,f0,ax⟩,by simp[intOf];omega⟩
            ·have ed:=yb hx
             have ax:=yb (ap.o.trans hs)
             clear hx hs hy q3 d0 d1 d2
             gi_wp2
             go_wp2
             exact ⟨by simp,.inl ⟨_,_,rfl,run_takeDeferred ((ax.o.2 Dd ar.o).trans b9.o),⟨_,zf rfl _ _ _,.inl ⟨⟨_,rfl⟩,.inr ⟨O3,cm.o.put (s:=()) ar.o _ ed.o⟩⟩⟩⟩⟩
            ·have ax:=yb (ap.o.trans hs)
             exact ⟨by simp,.inl ⟨_,_,rfl,run_takeDeferred ((ax.o.2 Dd ar.o).trans b9.o),.inr ⟨ch,rfl,O3,(bj.o ch).put (s:=()) ar.o _ hp⟩⟩⟩
           ·obtain rfl:i=us.length:=by omega
            have b3:decide ((us.length:Int) < (us.length:Int))=false:=by simp
            have d4:Hid (X.2=true∧J X.1.length O3 wr):=yb (by rw[cl.o];exact ⟨rfl,by rw[ym];exact de.o⟩)
            go_wp2
            exact ⟨by simp,.inl ⟨_,_,rfl,run_takeDeferred ((aq.o.2 Dd ar.o).trans b9.o),⟨_,zf rfl _ _ _,.inl ⟨⟨_,rfl⟩,.inl ⟨by simp[d4.o.1],O3,HJ.o.put ar.o _ d4.o.2⟩⟩⟩⟩⟩
 ·rintro D c O w hD an ⟨rfl,hI⟩ ah
  gi_wp2
  refine ⟨by simp,.inl ⟨_,_,rfl,run_takeDeferred ah,⟨_,zf rfl _ _ _,.inl ⟨⟨_,rfl⟩,.inr ⟨KO W.heap.size (W.heap.size+3) O,?_⟩⟩⟩⟩⟩
  exact cm.o.put (s:=()) (.inl an) _ hI.j
 ·rintro D ch O w hD an hI ah
  exact ⟨by simp,.inl ⟨_,_,rfl,run_takeDeferred ah,.inr ⟨ch,rfl,KO W.heap.size (W.heap.size+3) O,(bj.o ch).put (s:=()) (.inl an) _ hI.j⟩⟩⟩
end Go.Proofs.Ytghepahgkcigpaa

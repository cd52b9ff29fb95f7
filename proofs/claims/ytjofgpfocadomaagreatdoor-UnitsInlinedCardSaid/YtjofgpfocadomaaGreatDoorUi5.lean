/- The iterator over a source's references: the walk. -/
import Derived.Test.YtjofgpfocadomaaGreatDoorUi0
import Derived.Test.YtjofgpfocadomaaGreatDoorUi3
import Derived.Deep.RegionHeld3
set_option maxRecDepth 100000
set_option maxHeartbeats 16000000
set_option linter.unusedSimpArgs false
namespace Go.Proofs.YtjofgpfocadomaaGreatDoor
open Go.RowKit
attribute [local go_sem] Oper.semAt_some
def LG(B0 B1:Nat)(O:NP)(b:Nat):Prop:=O b∨(B0<=b∧b < B1)
structure SN (l By Bi Bs s:Nat) (W:World):Prop where
 y:W.cell? ⟨By,0,none⟩=some (.func (.yield l) #[] #[])
 i:W.cell? ⟨Bi,0,none⟩=some (.func (.func 71) #[] #[.pointer (some ⟨By,0,none⟩),.pointer (some ⟨Bi,0,none⟩)])
 s:W.cell? ⟨Bs,0,none⟩=some (.pointer (some ⟨s,0,none⟩))
theorem SN.same{l By Bi Bs s:Nat}{W W':World}(h:SN l By Bi Bs s W)(h1:W'.heap[By]?=W.heap[By]?)(h2:W'.heap[Bi]?=W.heap[Bi]?)(h3:W'.heap[Bs]?=W.heap[Bs]?):SN l By Bi Bs s W':=by
 obtain ⟨a,b,c⟩:=h
 unfold World.cell? at a b c
 exact ⟨by unfold World.cell?;rw[h1];exact a,by unfold World.cell?;rw[h2];exact b,by unfold World.cell?;rw[h3];exact c⟩
structure FH {β:Type} (J:β->(Nat->Prop)->World->Prop) (B0 B1 l By Bi Bs s:Nat) (p:β->Prop) (k:β) (O:Nat->Prop) (W:World):Prop where
 j:J k (LG B0 B1 O) W
 own:∀b,O b->B1<=b
 size:B1<=W.heap.size
 box:SN l By Bi Bs s W
 p:p k
section
variable{β:Type}{J:β->NP->World->Prop}{B0 B1 l By Bi Bs s:Nat}{p:β->Prop}
theorem FH.stays(n:Ca J)(e:(B0<=By∧By < B1)∧(B0<=Bi∧Bi < B1)∧(B0<=Bs∧Bs < B1)):Ca (FH J B0 B1 l By Bi Bs s p):=by
 intro k O W r W' h i q o m f g
 have a:∀b,b < B1->W'.heap[b]?=W.heap[b]?:=fun b hb=>f b (fun c=>by have:=h.own b c;omega) (yv hb h.size)
 refine ⟨n k _ W _ W' h.j i q o m (fun b hb d=>f b (fun c=>hb (.inl c)) d) (fun b hb=>?_),fun b hb=>?_,yu h.size i,h.box.same (a _ e.1.2) (a _ e.2.1.2) (a _ e.2.2.2),h.p⟩
 ·rcases hb with hb|hb
  ·rcases g b hb with h1|h1
   ·exact .inl (.inl h1)
   ·exact .inr h1
  ·exact .inl (.inr hb)
 ·rcases g b hb with h1|h1
  ·exact h.own b h1
  ·have:=h.size;omega
end
theorem IA.at{N:NP}{b W:World}{C D:Addr->Prop}{Bu Bs:Nat}{L:Bt}{x:Av}(a:Ku N b C D Bu L x)(hd:Wg b C D W)(hb:W.cell? ⟨Bs,0,none⟩=some (.pointer (some ⟨L.s,0,none⟩))):IA L Bs W:=
 ⟨hb,(hd.1 _ (a.src 19 (by omega) (by omega))).trans a.heads.lets,(hd.1 _ (a.src 20 (by omega) (by omega))).trans a.heads.crops,(hd.1 _ (a.src 21 (by omega) (by omega))).trans a.heads.reaches,(hd.1 _ (a.src 22 (by omega) (by omega))).trans a.heads.farms,
  (hd.1 _ (a.src 23 (by omega) (by omega))).trans a.heads.rots,(hd.1 _ (a.src 24 (by omega) (by omega))).trans a.heads.rights,(hd.1 _ (a.src 25 (by omega) (by omega))).trans a.heads.duties,fun i hi=>(hd.1 _ (a.turns i hi)).trans (a.heads.turns i hi)⟩
theorem CF.up{B:Nat}{w w':World}{v:Value}{us:List Us}(h:CF B w v us)(hb:Below w.heap.size w w'):CF B w' v us:=by
 obtain ⟨h1,h2⟩:=h
 refine ⟨h1,h2.imp id ?_⟩
 rintro ⟨g,cap,a,h3,b,h5,h6⟩
 exact ⟨g,cap,a,h3,b,(hb.block g (yd.1 h5).1).trans h5,h6⟩
theorem Eo{B:Nat}{c w w':World}{v:Value}{us:List Us}(f:Below B c w)(j:B<=w.heap.size)(h:CF B w v us)(a:w.grownBy w' v.ownBlock):Below B c w':=by
 refine f.trans ⟨a.os,a.tape,a.output,a.size,fun b hb=>a.block b (by omega) (fun e=>?_)⟩
 rcases h.2 with ⟨rfl,_⟩|⟨g,cap,d,rfl,i,_⟩
 ·cases e
 ·simp only[Value.ownBlock,za] at e
  omega
theorem SO{B:Nat}{w:World}{v:Value}{us:List Us}(h:CF B w v us){i:Nat}(hi:i < us.length):
  ∃g c,v=.slice (some ⟨g,0,none⟩) us.length c∧B<=g∧g < w.heap.size∧us.length<=maxLen∧w.cell? ⟨g,i*3,none⟩=some (.pointer (some ⟨us[i].b,us[i].o,none⟩))∧w.cell? ⟨g,i*3+1,none⟩=some (.int .i64 us[i].to)∧w.cell? ⟨g,i*3+2,none⟩=some (.int .i64 us[i].at_):=by
 obtain ⟨h1,⟨rfl,h2⟩|⟨g,cap,n,rfl,m,h5,h6,y,t,p⟩⟩:=h
 ·omega
 ·have f:∀j u,(us.flatMap AI)[j]?=some u->w.cell? (aV g j)=some u:=by
   intro j u a
   rw[<-p] at a
   have d:=(yA.1 a).1
   rw[zc] at d
   rw[zN,yw (by omega)] at a
   simp only[World.cell?,h5]
   simpa using a
  have s:∀(us:List Us) (i:Nat) (hi:i < us.length),(us.flatMap AI)[i*3]?=some (.pointer (some ⟨us[i].b,us[i].o,none⟩))∧(us.flatMap AI)[i*3+1]?=some (iV us[i].to)∧(us.flatMap AI)[i*3+2]?=some (iV us[i].at_):=by
   intro us
   induction us with
   |nil=>intro i hi;simp at hi
   |cons x r ih=>
    intro i hi
    cases i with
    |zero=>exact ⟨rfl,rfl,rfl⟩
    |succ i=>
     have:=ih i (by simpa using hi)
     have e:((x::r).flatMap AI)=AI x++r.flatMap AI:=rfl
     rw[e,yU (by simp[AI];omega),yU (by simp[AI];omega),yU (by simp[AI];omega)]
     have k:(AI x).length=3:=rfl
     rw[k,show (i+1)*3 - 3=i*3 by omega,show (i+1)*3+1 - 3=i*3+1 by omega,show (i+1)*3+2 - 3=i*3+2 by omega]
     exact this
  obtain ⟨q,g1,l⟩:=s us i hi
  exact ⟨g,cap,rfl,m,(yd.1 h5).1,by omega,f _ _ q,f _ _ g1,f _ _ l⟩
theorem U8{B:Nat}{w:World}{v:Value}{us:List Us}(h:CF B w v us):∃a c,v=.slice a us.length c∧us.length<=maxLen:=by
 obtain ⟨h1,⟨rfl,h2⟩|⟨g,cap,b,rfl,e,h5,h6,f,d,i⟩⟩:=h
 ·exact ⟨none,0,by rw[h2],by rw[h2];exact yK _⟩
 ·exact ⟨_,_,rfl,by omega⟩
theorem FT{f:Nat->List Us}{n i:Nat}(h:i < n):((List.range i).flatMap f).length+(f i).length<=((List.range n).flatMap f).length:=by
 obtain ⟨post,a⟩:=Bw f h
 rw[a];simp only[ym];omega
theorem FU{ops:Array Oper}{rest:List Oper}{o:Oper}{a:Act}{Q:QT}{W:World}(B:Nat)(g:o.guard=none)(s x:Operand)(m:o.op=.call {callee:=.builtin .append,args:=#[s,x],argTypes:=#[154,154]})
 (v:Value)(us:List Us)(hs:a.eval s=v)(e:CF B W v us)(X:Value)(b:List Us)(l:a.eval x=X)(k:BK W X b.length 3 (b.flatMap AI))(f:us.length+b.length<=1000000)(d:B<=W.heap.size)
 (h:∀(i:Option Addr) (c:Nat) w',CF B w' (.slice i (us.length+b.length) c) (us++b)->W.grownBy w' v.ownBlock->wpList Tryz.prog ops Q rest (a.put o.dst (.slice i (us.length+b.length) c)) w'):wpList Tryz.prog ops Q (o::rest) a W:=
 zx g fun _ j=>MN B g s x m v us hs e X b l k f d (fun i c w' h1 h2=>j _ _ (h i c w' h1 h2))
def Rr(L:Bt)(x:Av)(i:Nat):List Us:=(List.range i).flatMap (Ei L.farms x.farms)
def LH(L:Bt)(x:Av)(i:Nat):List Us:=Rr L x L.farms.n++(List.range i).flatMap (Gm L x.rots)
def LI(L:Bt)(x:Av)(i:Nat):List Us:=LH L x L.rots.n++(List.range i).flatMap (CJ L.rights x.rights)
def MQ(L:Bt)(x:Av)(i:Nat):List Us:=LI L x L.rights.n++(List.range i).flatMap (E2 L.duties x.duties)
theorem Kx(L:Bt)(x:Av):MQ L x L.duties.n=Cc L x:=rfl
theorem Mb(L:Bt)(x:Av)(i:Nat):Rr L x (i+1)=Rr L x i++Ei L.farms x.farms i:=Aj _ i
theorem Rs(L:Bt)(x:Av)(i:Nat):LH L x (i+1)=LH L x i++Gm L x.rots i:=by unfold LH;rw[Aj,yL]
theorem Mc(L:Bt)(x:Av)(i:Nat):LI L x (i+1)=LI L x i++CJ L.rights x.rights i:=by unfold LI;rw[Aj,yL]
theorem Ru(L:Bt)(x:Av)(i:Nat):MQ L x (i+1)=MQ L x i++E2 L.duties x.duties i:=by unfold MQ;rw[Aj,yL]
theorem Qz(L:Bt)(x:Av):(LI L x L.rights.n).length<=(Cc L x).length:=by rw[<-Kx];unfold MQ;simp
theorem QA(L:Bt)(x:Av):(LH L x L.rots.n).length<=(Cc L x).length:=yu (by unfold LI;simp) (Qz L x)
theorem U9(L:Bt)(x:Av):(Rr L x L.farms.n).length<=(Cc L x).length:=yu (by unfold LH;simp) (QA L x)
theorem NQ{L:Bt}{x:Av}{i:Nat}(h:i < L.farms.n):(Rr L x i).length+(Ei L.farms x.farms i).length<=(Cc L x).length:=yu (FT h) (U9 L x)
theorem NR{L:Bt}{x:Av}{i:Nat}(h:i < L.rots.n):(LH L x i).length+(Gm L x.rots i).length<=(Cc L x).length:=yu (by have:=FT (f:=Gm L x.rots) h;unfold LH;simp only[ym];omega) (QA L x)
theorem NS{L:Bt}{x:Av}{i:Nat}(h:i < L.rights.n):(LI L x i).length+(CJ L.rights x.rights i).length<=(Cc L x).length:=yu (by have:=FT (f:=CJ L.rights x.rights) h;unfold LI;simp only[ym];omega) (Qz L x)
theorem SP{L:Bt}{x:Av}{i:Nat}(h:i < L.duties.n):(MQ L x i).length+(E2 L.duties x.duties i).length<=(Cc L x).length:=by
 have:=FT (f:=E2 L.duties x.duties) h
 rw[<-Kx];unfold MQ;simp only[ym];omega
theorem Ua{w:World}{C:Addr->Prop}{e:Ex}{b o:Nat}(h:Rn w C e b o):C ⟨b,o,none⟩∧C ⟨b,o+5,none⟩:=by
 cases e
 rw[Rn] at h
 obtain ⟨_,_,h1,h2,_⟩:=h
 exact ⟨h1.2,h2.2⟩
theorem Ub{e:Ex}{z:Int}(h:e.op=0->z=e.ri):Dv e.op e.n e.u e.rn z e.args.length=BA e:=by
 unfold BA
 by_cases h0:e.op=0
 ·rw[h h0]
 ·simp[Dv,h0]
theorem Ky(n:Nat)(hn:1<=n){N:NP}{w0:World}{C D:Addr->Prop}{Bu:Nat}{L:Bt}{x:Av}(hU:Ku N w0 C D Bu L x):
  U5 Fence.wide n Tryz.prog 70 #[.pointer (some ⟨Bu,0,none⟩)] (Wg w0 C D) ((BQ w0 L x).1.map Us.v) (if (BQ w0 L x).2 then none else some (EE 170)):=by
 intro l J Jx Jp W hJ dx ec cp cd a6 aa h0
 have f9:∀(fn:Fn) (first cap:Array Value) (w:World),(Instr.makeFunc fn first cap).run Tryz.prog w=.ok (.func fn first cap) w:=fun _ _ _ _=>rfl
 obtain ⟨X,hX⟩:∃X,X=BQ w0 L x:=⟨_,rfl⟩
 rw[<-hX] at a6 aa ⊢
 have A:=yb hU
 have HX:=yb hX
 have H0:=yb h0
 have HJ:=yb hJ
 have cx:=yb dx
 have bq:=yb ec
 have bu:=yb cp
 have ce:=yb cd
 have cj:=yb a6
 have aj:=yb aa
 have cB:=((cp _ _ _ h0).1 _ hU.box).trans hU.heads.box
 have f8:=yb (yQ W _ cB)
 have dB:∀(o o':Obj),((W.alloc o).alloc o').cell? (aV Bu 0)=some (pV L.s 0):=fun o o'=>((((yg W.heap.size W).alloc (yf _) o).alloc (by simp) o').cell (p:=(aV Bu 0)) f8.o).trans cB
 clear hU hX h0 hJ dx ec cp cd a6 aa cB
 refine z6.2 (Ba (n:=10) Tryz.func70 rfl ?_)
 simp only[Tryz.ntmps70,yq,yx,yH,Nat.reduceAdd,Nat.reduceSub,zy,zA,zQ,zJ,yS,yP]
 iterate 3
  refine A9 (A4 ?_)
  go_wp2
 refine A9 (A9 (A4 ?_))
 go_wp2_with (first|(go_at_call 72;refine (ES _ _).mono ?_;rintro e w2 ⟨rfl,rfl⟩))
 have cc:Below W.heap.size W (((W.alloc (.cells #[.func (.yield l) #[] #[]] 148)).alloc (.cells #[.func (.func 71) #[] #[pV W.heap.size 0,pV (W.heap.size+1) 0]] 149)).alloc (.cells #[pV L.s 0] 85)):=(((yg _ _).alloc (yf _) _).alloc (by simp) _).alloc (by simp;omega) _
 have ck:SN l W.heap.size (W.heap.size+1) (W.heap.size+1+1) L.s (((W.alloc (.cells #[.func (.yield l) #[] #[]] 148)).alloc (.cells #[.func (.func 71) #[] #[pV W.heap.size 0,pV (W.heap.size+1) 0]] 149)).alloc (.cells #[pV L.s 0] 85)):=by
  refine ⟨?_,?_,?_⟩
  ·refine qg _ (qg _ ?_)
   have:=World.alloc_heap_new W (.cells #[.func (.yield l) #[] #[]] 148)
   simp only[World.cell?,this];simp
  ·refine qg _ ?_
   have:=World.alloc_heap_new (W.alloc (.cells #[.func (.yield l) #[] #[]] 148)) (.cells #[.func (.func 71) #[] #[pV W.heap.size 0,pV (W.heap.size+1) 0]] 149)
   rw[z8] at this
   simp only[World.cell?,this];simp
  ·have:=World.alloc_heap_new ((W.alloc (.cells #[.func (.yield l) #[] #[]] 148)).alloc (.cells #[.func (.func 71) #[] #[pV W.heap.size 0,pV (W.heap.size+1) 0]] 149)) (.cells #[pV L.s 0] 85)
   rw[z8,z8] at this
   simp only[World.cell?,this];simp
 have c8:(((W.alloc (.cells #[.func (.yield l) #[] #[]] 148)).alloc (.cells #[.func (.func 71) #[] #[pV W.heap.size 0,pV (W.heap.size+1) 0]] 149)).alloc (.cells #[pV L.s 0] 85)).heap.size=W.heap.size+3:=by simp
 have bj:=yb cc
 have es:=yb ck
 have dy:=yb c8
 clear cc ck c8 dB f9
 generalize ((W.alloc (.cells #[.func (.yield l) #[] #[]] 148)).alloc (.cells #[.func (.func 71) #[] #[pV W.heap.size 0,pV (W.heap.size+1) 0]] 149)).alloc (.cells #[pV L.s 0] 85)=W1 at*
 obtain ⟨q,Z⟩:∃q,q=En w0 L x:=⟨_,rfl⟩
 have dn:q.length=(BJ L).length+1:=by rw[Z];unfold En;rw[ym,ER A.o];rfl
 have df:∀k (Q:k < (BJ L).length) (ab:k < (Ax x).length) (ag:k < q.length),q[k]=Cl w0 (BJ L)[k] (Ax x)[k]:=by
  intro k Q ab ag
  apply yi
  rw[<-yk ag,Z]
  unfold En
  rw[zn (by rw[ER A.o];exact Q)]
  unfold Dx
  rw[List.getElem?_zipWith,yk Q,yk ab]
 have bm:Hid (X=BC q):=yb (by rw[HX.o,Z];rfl)
 have en:=yb dn
 have fb:=yb df
 have dm:=yb Z
 have db:Hid (Ca (fun k=>J (BC (q.take k)).1.length)):=yb (fun k O W O' W' h hz ho ht hu Q hO=>HJ.o _ O W O' W' h hz ho ht hu Q hO)
 have de:(W.heap.size<=W.heap.size∧W.heap.size < W.heap.size+3)∧(W.heap.size<=W.heap.size+1∧W.heap.size+1 < W.heap.size+3)∧(W.heap.size<=W.heap.size+1+1∧W.heap.size+1+1 < W.heap.size+3):=by omega
 have bb:=yb de
 clear dn df Z de
 refine D7 ?_
 refine CC (n:=10) Tryz.func70 rfl (fun _ _=>rfl) (Kv 9 (by omega) (W.heap.size+1+1) L A.o.ok) (fun a ha=>by
   obtain ⟨i,hi,rfl⟩:=zh.1 ha
   obtain ⟨b,o,c,h1,_⟩:=A.o.top.get i hi (by rw[<-A.o.top.length];exact hi)
   rw[h1];rfl)
  (FH (fun k=>J (BC (q.take k)).1.length) W.heap.size (W.heap.size+3) l W.heap.size (W.heap.size+1) (W.heap.size+1+1) L.s (fun k=>(BC (q.take k)).2=true))
  (fun c O w=>c=.ret∧FH (fun (_:Unit)=>Jx) W.heap.size (W.heap.size+3) l W.heap.size (W.heap.size+1) (W.heap.size+1+1) L.s (fun _=>True) () O w)
  (fun ch=>FH (fun (_:Unit)=>Jp ch) W.heap.size (W.heap.size+3) l W.heap.size (W.heap.size+1) (W.heap.size+1+1) L.s (fun _=>True) ())
  (fun k a=>FH (fun k=>J (BC (q.take k)).1.length) W.heap.size (W.heap.size+3) l W.heap.size (W.heap.size+1) (W.heap.size+1+1) L.s (fun k=>(BC (q.take k)).2=true∧∃(b o:Nat) (lt:Int) (Q:k < (BJ L).length),(BJ L)[k]'Q=#[pV b o,iV lt]∧a={tmps:=#[.func (.yield l) #[] #[],pV Bu 0,pV W.heap.size 0,pV (W.heap.size+1) 0,pV b o,iV lt,undef,undef,undef,undef,undef,undef,undef,undef,undef,undef,undef,undef,undef,undef,.func (.func 71) #[] #[pV W.heap.size 0,pV (W.heap.size+1) 0],pV L.s 0,.func (.func 92) #[] #[pV (W.heap.size+1+1) 0],pV b o,iV lt,undef,undef,undef,undef,undef,undef,undef,undef,undef,undef,undef,undef,undef,undef,undef,undef,undef,undef,undef,undef,undef,undef,undef,undef,undef,undef,undef,undef,undef,undef,undef,undef,undef,undef,undef,undef,undef,undef,undef,undef,undef,undef,undef,undef,undef,undef,undef,undef,undef,undef,undef,undef,undef,undef,undef,undef,undef,undef,undef,undef,undef,undef,undef,undef,undef,undef,undef,undef,undef,undef,undef,undef,undef,undef,undef,undef,undef,undef,undef,undef,undef,undef,undef,undef,undef,undef,undef,undef,undef,undef,undef,undef,undef,undef,undef,undef,undef,undef,undef,undef,undef,undef,undef,undef,undef,undef,undef,undef,undef,undef,undef,undef,undef,undef,undef,undef,undef,undef,undef,undef,undef,undef,undef,undef,undef,undef,undef,undef,undef,undef,undef,undef,undef,undef,undef,undef,undef,undef,undef,undef,undef,undef,undef,undef,undef,undef,undef,undef,undef,undef,undef,undef,undef,undef,undef,undef,undef,undef,undef,undef,undef,undef,undef,undef,undef,undef,undef],defers:=[]}) k)
  ?_ ?_ ?_ ?_ ?_ ?_ (fun _ h=>by cases h) ?_ ?_ ?_ ?_ ?_ ?_
 ·exact FH.stays db.o bb.o
 ·rintro c _ O w O' w' ⟨h1,h2⟩ hz ho ht hu Q hO
  exact ⟨h1,FH.stays cx.o bb.o () O w O' w' h2 hz ho ht hu Q hO⟩
 ·exact fun ch _ O w O' w' h hz ho ht hu Q hO=>FH.stays (bq.o ch) bb.o () O w O' w' h hz ho ht hu Q hO
 ·exact fun a=>FH.stays db.o bb.o
 ·exact fun k O w h=>IA.at A.o (bu.o _ _ _ h.j) h.box.s
 ·exact fun c O w h=>IA.at A.o (ce.o _ _ h.2.j) h.2.box.s
 ·refine ⟨HJ.o 0 _ W _ W1 H0.o (by rw[dy.o];omega) bj.o.os bj.o.tape bj.o.output (fun b _ E=>bj.o.block b E) (fun b hb=>?_),fun _ h=>h.elim,by rw[dy.o];omega,es.o,rfl⟩
  rcases hb with hb|hb
  ·exact hb.elim
  ·exact .inr hb.1
 ·intro k Q O w lo hI hO hl _
  obtain ⟨b,o,fh,h1,_⟩:=A.o.top.get k Q (by rw[<-A.o.top.length];exact Q)
  have ab:k < (Ax x).length:=by rw[<-A.o.top.length];exact Q
  rw[h1]
  generalize ((Ax x)[k]'ab).2=lt at h1
  have HI:=yb hI
  have HE:=yb h1
  clear hI hO hl h1
  gi_wp2
  first
  |exact ⟨AL.refl _ _,HI.o.j,HI.o.own,HI.o.size,HI.o.box,HI.o.p,b,o,lt,Q,HE.o,rfl⟩
  |(rename_i hK;exact hK _ _ ⟨AL.refl _ _,HI.o.j,HI.o.own,HI.o.size,HI.o.box,HI.o.p,b,o,lt,Q,HE.o,rfl⟩)
  |(rename_i hK _;exact hK _ _ ⟨AL.refl _ _,HI.o.j,HI.o.own,HI.o.size,HI.o.box,HI.o.p,b,o,lt,Q,HE.o,rfl⟩)
  |fail
 ·rintro k Q O w lo a1 hl dr cn ⟨hj,a6,dg,ac,hp,b,o,lt,eu,hx,rfl⟩
  obtain ⟨b',o',cs,h1,h2,h3,h4,h5,h6,h7,h8,h9⟩:=A.o.top.get k Q (by rw[<-A.o.top.length];exact Q)
  rw[hx] at h1
  have ab:k < (Ax x).length:=by rw[<-A.o.top.length];exact Q
  have ag:k < q.length:=by rw[en.o];omega
  have bh:=fb.o k Q ab ag
  have az:=A.o.few _ (yM ab)
  rcases dl:(Ax x)[k] with ⟨ex,ft⟩
  simp only[dl] at h1 h3 h4 h9 bh az
  simp only[qu,xU,xS,za,qB,Value.int.injEq,true_and,and_true] at h1
  obtain ⟨⟨rfl,rfl⟩,rfl⟩:=h1
  obtain ⟨ea,fg,rfl,e1,e2,e3⟩:=h3.cells
  obtain ⟨r0,r1,r2,r3,r4,r5⟩:=Bp h2
  have af:=bu.o _ _ _ hj
  have hC:=Ua h4
  have c0:=(af.1 _ hC.1).trans r0
  have c1:=(af.1 _ h5).trans r1
  have c2:=(af.1 _ h6).trans r2
  have c3:=(af.1 _ h7).trans r3
  obtain ⟨z,c4⟩:=af.2 _ h8
  have c5:=(af.1 _ hC.2).trans r5
  have b0:Dv ex.op ex.n ex.u ex.rn z ex.args.length=BA ex:=Ub (fun h0=>by
   have:=(af.1 _ (h9 h0)).symm.trans c4
   rw[r4] at this
   simp only[za,Value.int.injEq,true_and] at this
   exact this.symm)
  have aw:=yb b0
  have cw:J6 J (LG W.heap.size (W.heap.size+3) O) W.heap.size l W.heap.size (W.heap.size+1) (BC (q.take k)).1.length w:=⟨hj,by omega,fun b hb=>hb.elim (cn b) (fun h=>by omega),⟨.inr (by omega),ac.y⟩,⟨.inr (by omega),ac.i⟩⟩
  have bg:=yb cw
  have bz:UQ n l W.heap.size (W.heap.size+1) W.heap.size (LG W.heap.size (W.heap.size+3) O) X.1 w0 C J Jx Jp:=⟨HJ.o,fun k O W h=>(bu.o k O W h).1,fun O W h=>(ce.o O W h).1,fun k Q W' hs=>by
   have:=aj.o k (by simpa using Q) _ W' hs.j hs.size (fun b hb=>⟨hb.elim (fun h=>by have:=a6 b h;omega) (fun h=>h.1),hs.own b hb⟩)
   rw[zG] at this
   exact this⟩
  have cf:BA ex=true->BC (q.take (k+1))=((BC (q.take k)).1++[],true):=fun hl=>by
   rw[M9 ag hp,bh];simp[Cl,hl]
  have cg:BA ex=false->q[k]=BY w0 lt ex b o:=fun hl=>by
   rw[bh];simp[Cl,hl,hx,SM]
  have c9:=yb cf
  have b4:BA ex=false->BC (q.take (k+1))=((BC (q.take k)).1++(BY w0 lt ex b o).1,(BY w0 lt ex b o).2):=fun hl=>by
   rw[M9 ag hp,cg hl]
  have e5:=yb b4
  have av:BA ex=false->∀w3,Below w.heap.size w w3->Calls Tryz.prog 71 #[pV b o,iV lt,pV W.heap.size 0,pV (W.heap.size+1) 0] w3
    (NO J Jx Jp (LG W.heap.size (W.heap.size+3) O) ((BC (q.take k)).1.length+(BY w0 lt ex b o).1.length) (BY w0 lt ex b o).2 w3):=fun hl w3 T=>by
   refine Pt n hn l W.heap.size (W.heap.size+1) W.heap.size lt az (LG W.heap.size (W.heap.size+3) O) X.1 w0 C J Jx Jp bz ex b o (BC (q.take k)).1 w3 (cw.below HJ.o T) h4 ?_ ?_
   ·obtain ⟨post,b8⟩:=SK q (k+1)
    rw[b4 hl] at b8
    exact ⟨post,by rw[bm.o,b8];simp⟩
   ·intro hf W' ej
    have cy:=Rq (l:=q) (k:=k+1) (by rw[b4 hl];exact hf)
    rw[b4 hl] at cy
    refine cj.o (EE 170) (by rw[bm.o,cy];simp[hf]) _ W' ?_
    rw[bm.o,cy]
    simpa using ej
  have d4:=yb av
  have bk:=yb a6
  have ai:=yb ac
  have B:=yb dg
  have bi:=ac.i
  have f7:=yb (yQ w _ bi)
  have fd:=yb cn
  have HP:=yb hp
  have ff:=e1
  clear h2 h3 h4 h5 h6 h7 h8 h9 e2 e3 r0 r1 r2 r3 r4 r5 af hC b0 cw bz cf b4 av a6 ac dg cn hp bh cg hj hx dl hl dr eu ab ag az e1
  generalize ex.args.length=em at*
  generalize fa:BA ex=LE at*
  clear fa
  cases LE with
  |true=>
   gi_wp2_with fail
   refine ⟨trivial,zm (CallsIn.inRound lo (z6.2 (JD _ _ _ _ _ _ _ _ _))) ?_⟩
   rintro e w3 ⟨rfl,T⟩
   rw[aw.o]
   gi_wp2_with fail
   repeat (refine ⟨fun _ h=>(by cases h),?_⟩;gi_wp2_with fail)
   refine ⟨⟨T.size,fun b hb=>T.block b (fd.o b hb)⟩,?_,bk.o,yu B.o T.size,?_,?_⟩
   ·have:=(bg.o.below HJ.o T).j
    rw[c9.o (by simp),yV];exact this
   ·have hB:=bb.o
    exact ai.o.same (T.block _ (by have:=B.o;omega)) (T.block _ (by have:=B.o;omega)) (T.block _ (by have:=B.o;omega))
   ·rw[c9.o (by simp)]
  |false=>
   gi_wp2_with fail
   refine ⟨trivial,zm (CallsIn.inRound lo (z6.2 (JD _ _ _ _ _ _ _ _ _))) ?_⟩
   rintro e w3 ⟨rfl,T⟩
   rw[aw.o]
   have e6:=(T.cell (p:=(aV (W.heap.size+1) 0)) f7.o).trans bi
   have a8:=yb T
   clear T
   gi_wp2_with fail
   refine ⟨trivial,zm (CallsIn.inRound lo (z6.2 (d4.o (by simp) w3 a8.o))) ?_⟩
   rintro e w4 (⟨r,rfl,ak,(⟨rfl,eh,ed⟩|⟨rfl,dw⟩)⟩|⟨ch,rfl,ey,ak⟩)
   ·have R:=yb ((bg.o.sameBelow a8.o).trans ak)
    have eo:=yb ed
    have f5:=yb eh
    clear ak ed eh bi e6
    gi_wp2_with fail
    refine ⟨R.o.sub (fun b hb=>.inl hb),?_,bk.o,yu B.o R.o.1,?_,?_⟩
    ·rw[e5.o (by simp)]
     simp only[ym]
     exact eo.o
    ·exact ai.o.same (R.o.2 _ (.inr (by omega))) (R.o.2 _ (.inr (by omega))) (R.o.2 _ (.inr (by omega)))
    ·rw[e5.o (by simp)];exact f5.o
   ·have R:=yb ((bg.o.sameBelow a8.o).trans ak)
    have eq:=yb dw
    clear ak dw bi e6
    gi_wp2_with fail
    exact ⟨R.o.sub (fun b hb=>.inl hb),rfl,eq.o,bk.o,yu B.o R.o.1,ai.o.same (R.o.2 _ (.inr (by omega))) (R.o.2 _ (.inr (by omega))) (R.o.2 _ (.inr (by omega))),trivial⟩
   ·have R:=yb ((bg.o.sameBelow a8.o).trans ak)
    exact ⟨rfl,R.o.sub (fun b hb=>.inl hb),ey,bk.o,yu B.o R.o.1,ai.o.same (R.o.2 _ (.inr (by omega))) (R.o.2 _ (.inr (by omega))) (R.o.2 _ (.inr (by omega))),trivial⟩
 ·rintro - Dd O w hD au hI ah
  have hT:(Dx w0 L x).length=(BJ L).length:=ER A.o
  have di:q.take (BJ L).length=Dx w0 L x:=by rw[dm.o];unfold En;rw[<-hT,List.take_left'];rfl
  have cq:=hI.p
  have bn:=hI.j
  simp only[di] at cq bn
  obtain ⟨K0,ct⟩:∃K0,K0=(BC (Dx w0 L x)).1:=⟨_,rfl⟩
  have dj:X=(K0++(if BZ x then Cc L x else []),BZ x):=by
   rw[bm.o,dm.o];unfold En
   rw[EI,cq,yw rfl,ct]
   simp only[BC]
   cases BZ x<;>simp
  rw[<-ct] at bn
  have cu:J K0.length (fun b=>LG W.heap.size (W.heap.size+3) O b∧b < w.heap.size) w:=HJ.o _ _ _ _ _ bn (yf _) rfl rfl rfl (fun _ _ _=>rfl) (fun b hb=>.inl hb.1)
  have dt:Dd < w.heap.size:=(yd.1 ah).1
  have bv:∀b,LG W.heap.size (W.heap.size+3) O b->W.heap.size<=b:=fun b hb=>hb.elim (fun h=>by have:=hI.own b h;omega) (fun h=>h.1)
  have bp:∀wr,Below w.heap.size w wr->∀p,C p->wr.cell? p=w0.cell? p:=fun wr hb=>(bu.o _ _ _ (CD HJ.o cu hb)).1
  have S:=yb bp
  have d7:=yb cu
  have eg:=yb dj
  have ef:=yb bv
  have bd:=yb dt
  have e7:=yb au
  have cr:=yb ah
  have co:=yb hI.box
  have bw:=yb hI.size
  have bx:w.cell? (aV Bu 0)=some (pV L.s 0):=(bp w (yg _ _) _ A.o.box).trans A.o.heads.box
  have hf:w.cell? (aV L.s 22)=some (.slice L.farms.a L.farms.n L.farms.c):=(bp w (yg _ _) _ (A.o.src 22 (by omega) (by omega))).trans A.o.heads.farms
  have b5:L.farms.n<=140737488355328:=A.o.ok.farms.1
  clear hT di cq bn ct dj cu dt bv bp au ah hI hD
  simp only[Exit.inBlock,Exit.then]
  refine A4 ?_
  go_wp2
  clear bx hf
  go_loopw [6,42] (fun v6 iv wr=>∃(i:Nat) (us:List Us),i<=L.farms.n∧iv=iV i∧Hid (us=Rr L x i)∧Hid (Below w.heap.size w wr)∧Hid (CF w.heap.size wr v6 us)) (fun _ iv _=>L.farms.n - (intOf iv).toNat)
  case atStart=>exact ⟨0,[],yK _,rfl,yb rfl,yb (yg _ _),yb (Rp _ _)⟩
  case round=>
   obtain ⟨i,us,hi,rfl,G,m,HOr⟩:=hrel
   by_cases E:i < L.farms.n
   ·obtain ⟨b,o,he,a7⟩:=A.o.ok.farms.get E
    have a0:i < x.farms.length:=by rw[<-A.o.nfarms];exact E
    have bx:=(S.o wr m.o _ A.o.box).trans A.o.heads.box
    have hf:wr.cell? (aV L.s 22)=some (.slice L.farms.a L.farms.n L.farms.c):=(S.o wr m.o _ (A.o.src 22 (by omega) (by omega))).trans A.o.heads.farms
    have hr:=(S.o wr m.o _ (A.o.river i a0).1).trans (A.o.river i a0).2
    rw[a7] at hr
    rw[he] at hf
    clear he
    have U:Ei L.farms x.farms i=[⟨b,o+i*12+1,4,0,x.farms[i].on.name,x.farms[i].on.n⟩,⟨b,o+i*12+10,if x.farms[i].river then 0 else 3,0,x.farms[i].crop.name,x.farms[i].crop.n⟩]:=by
     unfold Ei;rw[yk a0];simp[CV,a7]
    have ay:(i:Int) < (L.farms.n:Int):=by omega
    cases be:x.farms[i].river with
    |true=>
     rw[be] at hr U
     simp only[zD] at U
     have P:=yb U
     clear U be
     have F:Hid (Below wr.heap.size wr (wr.drew.alloc (.cells #[pV b (o+i*12+1),iV 4,iV 0,pV b (o+i*12+10),iV 0,iV 0] 89))):=yb ((yg _ _).drew.alloc (yf _) _)
     have M:=yb (CF.up HOr.o F.o)
     have H:Hid (BK (wr.drew.alloc (.cells #[pV b (o+i*12+1),iV 4,iV 0,pV b (o+i*12+10),iV 0,iV 0] 89)) (.slice (some (aV wr.heap.size 0)) 2 2) 2 3 ([(⟨b,o+i*12+1,4,0,x.farms[i].on.name,x.farms[i].on.n⟩:Us),(⟨b,o+i*12+10,0,0,x.farms[i].crop.name,x.farms[i].crop.n⟩:Us)].flatMap AI)):=yb (Gl (us:=[(⟨b,o+i*12+1,4,0,x.farms[i].on.name,x.farms[i].on.n⟩:Us),(⟨b,o+i*12+10,0,0,x.farms[i].crop.name,x.farms[i].crop.n⟩:Us)]) (World.alloc_heap_new wr.drew _) 2)
     have I:Hid (us.length+2<=1000000):=yb (by have h1:=NQ (x:=x) E;have h2:=A.o.short;have h3:=P.o;have h4:=G.o;rw[h3] at h1;rw[h4];simp only[yx,yH] at h1 ⊢;omega)
     have B:Hid (w.heap.size<=(wr.drew.alloc (.cells #[pV b (o+i*12+1),iV 4,iV 0,pV b (o+i*12+10),iV 0,iV 0] 89)).heap.size):=yb (yu m.o.size F.o.size)
     have a2:=yb (m.o.trans (F.o.mono m.o.size))
     go_wp2_with fail
     go_region_held3 (fun _=>True) (trivial) (first|(refine Cz w.heap.size rfl _ _ rfl u6 us rfl M.o (.slice (some (aV wr.heap.size 0)) 2 2) [(⟨b,o+i*12+1,4,0,x.farms[i].on.name,x.farms[i].on.n⟩:Us),(⟨b,o+i*12+10,0,0,x.farms[i].crop.name,x.farms[i].crop.n⟩:Us)] rfl H.o I.o B.o ?_;intro ad c w5 t K;have Y:=yb t;have V:=yb (Eo a2.o B.o M.o K);clear t K))
     go_wp2
     exact ⟨⟨i+1,_,by omega,by push_cast;rfl,yb (by rw[G.o,Mb,P.o]),V,Y⟩,by simp[intOf];omega⟩
    |false=>
     rw[be] at hr U
     simp only[Bool.false_eq_true,qd] at U
     have P:=yb U
     clear U be
     have F:Hid (Below wr.heap.size wr (wr.drew.alloc (.cells #[pV b (o+i*12+1),iV 4,iV 0,pV b (o+i*12+10),iV 3,iV 0] 89))):=yb ((yg _ _).drew.alloc (yf _) _)
     have M:=yb (CF.up HOr.o F.o)
     have H:Hid (BK (wr.drew.alloc (.cells #[pV b (o+i*12+1),iV 4,iV 0,pV b (o+i*12+10),iV 3,iV 0] 89)) (.slice (some (aV wr.heap.size 0)) 2 2) 2 3 ([(⟨b,o+i*12+1,4,0,x.farms[i].on.name,x.farms[i].on.n⟩:Us),(⟨b,o+i*12+10,3,0,x.farms[i].crop.name,x.farms[i].crop.n⟩:Us)].flatMap AI)):=yb (Gl (us:=[(⟨b,o+i*12+1,4,0,x.farms[i].on.name,x.farms[i].on.n⟩:Us),(⟨b,o+i*12+10,3,0,x.farms[i].crop.name,x.farms[i].crop.n⟩:Us)]) (World.alloc_heap_new wr.drew _) 2)
     have I:Hid (us.length+2<=1000000):=yb (by have h1:=NQ (x:=x) E;have h2:=A.o.short;have h3:=P.o;have h4:=G.o;rw[h3] at h1;rw[h4];simp only[yx,yH] at h1 ⊢;omega)
     have B:Hid (w.heap.size<=(wr.drew.alloc (.cells #[pV b (o+i*12+1),iV 4,iV 0,pV b (o+i*12+10),iV 3,iV 0] 89)).heap.size):=yb (yu m.o.size F.o.size)
     have a2:=yb (m.o.trans (F.o.mono m.o.size))
     go_wp2_with fail
     go_region_held3 (fun _=>True) (trivial) (first|(refine Cz w.heap.size rfl _ _ rfl u6 us rfl M.o (.slice (some (aV wr.heap.size 0)) 2 2) [(⟨b,o+i*12+1,4,0,x.farms[i].on.name,x.farms[i].on.n⟩:Us),(⟨b,o+i*12+10,3,0,x.farms[i].crop.name,x.farms[i].crop.n⟩:Us)] rfl H.o I.o B.o ?_;intro ad c w5 t K;have Y:=yb t;have V:=yb (Eo a2.o B.o M.o K);clear t K))
     go_wp2
     exact ⟨⟨i+1,_,by omega,by push_cast;rfl,yb (by rw[G.o,Mb,P.o]),V,Y⟩,by simp[intOf];omega⟩
   ·obtain rfl:i=L.farms.n:=by omega
    have bx:=(S.o wr m.o _ A.o.box).trans A.o.heads.box
    have hf:wr.cell? (aV L.s 23)=some (.slice L.rots.a L.rots.n L.rots.c):=(S.o wr m.o _ (A.o.src 23 (by omega) (by omega))).trans A.o.heads.rots
    have b5:L.rots.n<=140737488355328:=A.o.ok.rots.1
    go_wp2
    clear bx hf
    obtain ⟨fq,rfl⟩:∃z:World,z=wr:=⟨_,rfl⟩
    obtain ⟨fj,rfl⟩:∃z:Value,z=u6:=⟨_,rfl⟩
    go_loopw [6,73] (fun v6 iv wr=>∃(i:Nat) (us:List Us),i<=L.rots.n∧iv=iV i∧Hid (us=LH L x i)∧Hid (Below w.heap.size w wr)∧Hid (CF w.heap.size wr v6 us)) (fun _ iv _=>L.rots.n - (intOf iv).toNat)
    case atStart=>exact ⟨0,us,yK _,rfl,yb (by rw[G.o];simp[LH]),m,HOr⟩
    case round=>
     clear G m HOr
     obtain ⟨i,us,hi,rfl,G,m,HOr⟩:=hrel
     by_cases E:i < L.rots.n
     ·obtain ⟨b,o,he,a7⟩:=A.o.ok.rots.get E
      have a0:i < x.rots.length:=by rw[<-A.o.nrots];exact E
      have bx:=(S.o wr m.o _ A.o.box).trans A.o.heads.box
      have hf:wr.cell? (aV L.s 23)=some (.slice L.rots.a L.rots.n L.rots.c):=(S.o wr m.o _ (A.o.src 23 (by omega) (by omega))).trans A.o.heads.rots
      rw[he] at hf
      clear he
      have ez:=yb (A.o.nturns i a0)
      have cl:=yb (A.o.ok.turns i E)
      have dv:Hid (∀W,Below w.heap.size w W->W.cell? (aV b (o+i*23+22))=some (.slice (A2 L i).a (A2 L i).n (A2 L i).c)):=yb (fun W hW=>by
       have h1:=(S.o W hW _ (A.o.turns i E)).trans (A.o.heads.turns i E)
       rw[a7] at h1;exact h1)
      have P:Hid (Gm L x.rots i=⟨b,o+i*23+1,4,0,x.rots[i].on.name,x.rots[i].on.n⟩::(List.range (A2 L i).n).flatMap (EY (A2 L i) x.rots[i].turns)):=yb (by
       unfold Gm;rw[yk a0];simp[CV,a7])
      have ay:(i:Int) < (L.rots.n:Int):=by omega
      have fc:(A2 L i).n<=140737488355328:=cl.o.1
      have f3:∀w5:World,Below w.heap.size w w5->True:=fun _ _=>trivial
      clear f3
      have F:Hid (Below wr.heap.size wr (wr.alloc (.cells #[pV b (o+i*23+1),iV 4,iV 0] 89))):=yb ((yg _ _).alloc (yf _) _)
      have M:=yb (CF.up HOr.o F.o)
      have H:Hid (BK (wr.alloc (.cells #[pV b (o+i*23+1),iV 4,iV 0] 89)) (.slice (some (aV wr.heap.size 0)) 1 1) 1 3 ([(⟨b,o+i*23+1,4,0,x.rots[i].on.name,x.rots[i].on.n⟩:Us)].flatMap AI)):=yb (Gl (us:=[(⟨b,o+i*23+1,4,0,x.rots[i].on.name,x.rots[i].on.n⟩:Us)]) (World.alloc_heap_new wr _) 1)
      have I:Hid (us.length+1<=1000000):=yb (by have h1:=NR (x:=x) E;have h2:=A.o.short;have h3:=P.o;have h4:=G.o;rw[h3] at h1;rw[h4];simp only[yx] at h1;omega)
      have B:Hid (w.heap.size<=(wr.alloc (.cells #[pV b (o+i*23+1),iV 4,iV 0] 89)).heap.size):=yb (yu m.o.size F.o.size)
      have a2:=yb (m.o.trans (F.o.mono m.o.size))
      go_wp2_with (first|(at_builtin;refine FU w.heap.size rfl _ _ rfl u6 us rfl M.o (.slice (some (aV wr.heap.size 0)) 1 1) [(⟨b,o+i*23+1,4,0,x.rots[i].on.name,x.rots[i].on.n⟩:Us)] rfl H.o I.o B.o ?_;intro ad c w5 t K;have Y:=yb t;have V:=yb (Eo a2.o B.o M.o K);have ht:=dv.o w5 V.o;clear t K))
      clear bx hf ht
      obtain ⟨wg,rfl⟩:∃z:World,z=wr:=⟨_,rfl⟩
      obtain ⟨vg,rfl⟩:∃z:Value,z=u6:=⟨_,rfl⟩
      go_loopw [6,94] (fun v6 iv wr=>∃(k:Nat) (am:List Us),k<=(A2 L i).n∧iv=iV k∧Hid (am=us++(⟨b,o+i*23+1,4,0,x.rots[i].on.name,x.rots[i].on.n⟩::(List.range k).flatMap (EY (A2 L i) x.rots[i].turns)))∧Hid (Below w.heap.size w wr)∧Hid (CF w.heap.size wr v6 am)) (fun _ iv _=>(A2 L i).n - (intOf iv).toNat)
      case atStart=>exact ⟨0,_,yK _,rfl,yb (by simp),V,Y⟩
      case round=>
       clear m HOr V Y
       obtain ⟨k,am,Q,rfl,ax,m,HOr⟩:=hrel
       by_cases ba:k < (A2 L i).n
       ·obtain ⟨b2,o2,ee,e9⟩:=cl.o.get ba
        have f4:k < x.rots[i].turns.length:=by rw[<-ez.o];exact ba
        have ht:=dv.o wr m.o
        rw[ee] at ht
        clear ee
        have d8:Hid (EY (A2 L i) x.rots[i].turns k=[⟨b2,o2+k*8,5,0,(x.rots[i].turns[k]).farm.name,(x.rots[i].turns[k]).farm.n⟩]):=yb (by
         unfold EY;rw[yk f4];simp[CV,e9])
        have f6:(k:Int) < ((A2 L i).n:Int):=by omega
        have F:Hid (Below wr.heap.size wr (wr.alloc (.cells #[pV b2 (o2+k*8),iV 5,iV 0] 89))):=yb ((yg _ _).alloc (yf _) _)
        have M:=yb (CF.up HOr.o F.o)
        have H:Hid (BK (wr.alloc (.cells #[pV b2 (o2+k*8),iV 5,iV 0] 89)) (.slice (some (aV wr.heap.size 0)) 1 1) 1 3 ([(⟨b2,o2+k*8,5,0,(x.rots[i].turns[k]).farm.name,(x.rots[i].turns[k]).farm.n⟩:Us)].flatMap AI)):=yb (Gl (us:=[(⟨b2,o2+k*8,5,0,(x.rots[i].turns[k]).farm.name,(x.rots[i].turns[k]).farm.n⟩:Us)]) (World.alloc_heap_new wr _) 1)
        have I:Hid (am.length+1<=1000000):=yb (by have h1:=NR (x:=x) E;have h2:=A.o.short;have h3:=P.o;have h4:=G.o;have h5:=FT (f:=EY (A2 L i) x.rots[i].turns) ba;have h6:=d8.o;rw[h6] at h5;rw[h3] at h1;rw[ax.o,h4];simp only[yx,ym,yH] at h1 h5 ⊢;omega)
        have B:Hid (w.heap.size<=(wr.alloc (.cells #[pV b2 (o2+k*8),iV 5,iV 0] 89)).heap.size):=yb (yu m.o.size F.o.size)
        have a2:=yb (m.o.trans (F.o.mono m.o.size))
        go_wp2_with (first|(at_builtin;refine FU w.heap.size rfl _ _ rfl u6 am rfl M.o (.slice (some (aV wr.heap.size 0)) 1 1) [(⟨b2,o2+k*8,5,0,(x.rots[i].turns[k]).farm.name,(x.rots[i].turns[k]).farm.n⟩:Us)] rfl H.o I.o B.o ?_;intro ad c w5 t K;have Y:=yb t;have V:=yb (Eo a2.o B.o M.o K);clear t K))
        exact ⟨⟨k+1,_,by omega,by push_cast;rfl,yb (by rw[ax.o,Aj,d8.o];simp),V,Y⟩,by simp[intOf];omega⟩
       ·obtain rfl:k=(A2 L i).n:=by omega
        have f6:decide (((A2 L i).n:Int) < ((A2 L i).n:Int))=false:=by simp
        go_wp2
        exact ⟨⟨i+1,am,by omega,by push_cast;rfl,yb (by rw[ax.o,G.o,Rs,P.o]),m,HOr⟩,by simp[intOf];omega⟩
     ·obtain rfl:i=L.rots.n:=by omega
      have bx:=(S.o wr m.o _ A.o.box).trans A.o.heads.box
      have hf:wr.cell? (aV L.s 24)=some (.slice L.rights.a L.rights.n L.rights.c):=(S.o wr m.o _ (A.o.src 24 (by omega) (by omega))).trans A.o.heads.rights
      have b5:L.rights.n<=140737488355328:=A.o.ok.rights.1
      go_wp2
      clear bx hf
      obtain ⟨fo,rfl⟩:∃z:World,z=wr:=⟨_,rfl⟩
      obtain ⟨fl,rfl⟩:∃z:Value,z=u6:=⟨_,rfl⟩
      go_loopw [6,115] (fun v6 iv wr=>∃(i:Nat) (us:List Us),i<=L.rights.n∧iv=iV i∧Hid (us=LI L x i)∧Hid (Below w.heap.size w wr)∧Hid (CF w.heap.size wr v6 us)∧Hid (∀j (h:j < x.rights.length),j < i->GX x.rights[j].kind=true)) (fun _ iv _=>L.rights.n - (intOf iv).toNat)
      case atStart=>exact ⟨0,us,yK _,rfl,yb (by rw[G.o];simp[LI]),m,HOr,yb (fun j _ hj=>by omega)⟩
      case round=>
       clear G m HOr
       obtain ⟨i,us,hi,rfl,G,m,HOr,HK⟩:=hrel
       by_cases E:i < L.rights.n
       ·obtain ⟨b,o,he,a7⟩:=A.o.ok.rights.get E
        have a0:i < x.rights.length:=by rw[<-A.o.nrights];exact E
        have bx:=(S.o wr m.o _ A.o.box).trans A.o.heads.box
        have hf:wr.cell? (aV L.s 24)=some (.slice L.rights.a L.rights.n L.rights.c):=(S.o wr m.o _ (A.o.src 24 (by omega) (by omega))).trans A.o.heads.rights
        have hr:=(S.o wr m.o _ (A.o.kind i a0).1).trans (A.o.kind i a0).2
        rw[a7,xZ] at hr
        rw[he] at hf
        clear he
        have U:CJ L.rights x.rights i=[⟨b,o+i*37+2,5,0,x.rights[i].farm.name,x.rights[i].farm.n⟩,⟨b,o+i*37+4,if x.rights[i].kind=1 then 0 else 4,0,x.rights[i].reach.name,x.rights[i].reach.n⟩]:=by
         unfold CJ;rw[yk a0];simp[CV,a7]
        have ay:(i:Int) < (L.rights.n:Int):=by omega
        have bt:Hid (GX x.rights[i].kind=true->∀j (h:j < x.rights.length),j < i+1->GX x.rights[j].kind=true):=yb (fun h j hj fi=>by
         rcases zU j i with h9|h9
         ·exact HK.o j hj h9
         ·obtain rfl:j=i:=by omega
          exact h)
        have bo:Hid (GX x.rights[i].kind=false->BZ x=false):=yb (fun h=>by
         unfold BZ;rw[xq];exact ⟨_,yM a0,by simp[h]⟩)
        by_cases Q:GX x.rights[i].kind=true
        ·have dp:=yb (bt.o Q)
         simp only[GX,yG,z7] at Q
         obtain ⟨k1,k3⟩:=Q
         by_cases ar:x.rights[i].kind=1
         ·rw[yw ar] at U
          have P:=yb U
          clear U bt bo
          have ew:(x.rights[i].kind==1)=true:=by simpa using ar
          have F:Hid (Below wr.heap.size wr (wr.drew.alloc (.cells #[pV b (o+i*37+2),iV 5,iV 0,pV b (o+i*37+4),iV 0,iV 0] 89))):=yb ((yg _ _).drew.alloc (yf _) _)
          have M:=yb (CF.up HOr.o F.o)
          have H:Hid (BK (wr.drew.alloc (.cells #[pV b (o+i*37+2),iV 5,iV 0,pV b (o+i*37+4),iV 0,iV 0] 89)) (.slice (some (aV wr.heap.size 0)) 2 2) 2 3 ([(⟨b,o+i*37+2,5,0,x.rights[i].farm.name,x.rights[i].farm.n⟩:Us),(⟨b,o+i*37+4,0,0,x.rights[i].reach.name,x.rights[i].reach.n⟩:Us)].flatMap AI)):=yb (Gl (us:=[(⟨b,o+i*37+2,5,0,x.rights[i].farm.name,x.rights[i].farm.n⟩:Us),(⟨b,o+i*37+4,0,0,x.rights[i].reach.name,x.rights[i].reach.n⟩:Us)]) (World.alloc_heap_new wr.drew _) 2)
          have I:Hid (us.length+2<=1000000):=yb (by have h1:=NS (x:=x) E;have h2:=A.o.short;have h3:=P.o;have h4:=G.o;rw[h3] at h1;rw[h4];simp only[yx,yH] at h1 ⊢;omega)
          have B:Hid (w.heap.size<=(wr.drew.alloc (.cells #[pV b (o+i*37+2),iV 5,iV 0,pV b (o+i*37+4),iV 0,iV 0] 89)).heap.size):=yb (yu m.o.size F.o.size)
          have a2:=yb (m.o.trans (F.o.mono m.o.size))
          go_wp2_with (first|(go_at_call 69;refine (Cp _ _).mono ?_;rintro e w6 ⟨rfl,cm⟩;obtain rfl:=cm.symm))
          go_region_held3 (fun _=>True) (trivial) (first|(refine Cz w.heap.size rfl _ _ rfl u6 us rfl M.o (.slice (some (aV wr.heap.size 0)) 2 2) [(⟨b,o+i*37+2,5,0,x.rights[i].farm.name,x.rights[i].farm.n⟩:Us),(⟨b,o+i*37+4,0,0,x.rights[i].reach.name,x.rights[i].reach.n⟩:Us)] rfl H.o I.o B.o ?_;intro ad c w5 t K;have Y:=yb t;have V:=yb (Eo a2.o B.o M.o K);clear t K))
          go_wp2
          exact ⟨⟨i+1,_,by omega,by push_cast;rfl,yb (by rw[G.o,Mc,P.o]),V,Y,dp⟩,by simp[intOf];omega⟩
         ·rw[yt ar] at U
          have P:=yb U
          clear U bt bo
          have ew:(x.rights[i].kind==1)=false:=by simpa using ar
          have F:Hid (Below wr.heap.size wr (wr.drew.alloc (.cells #[pV b (o+i*37+2),iV 5,iV 0,pV b (o+i*37+4),iV 4,iV 0] 89))):=yb ((yg _ _).drew.alloc (yf _) _)
          have M:=yb (CF.up HOr.o F.o)
          have H:Hid (BK (wr.drew.alloc (.cells #[pV b (o+i*37+2),iV 5,iV 0,pV b (o+i*37+4),iV 4,iV 0] 89)) (.slice (some (aV wr.heap.size 0)) 2 2) 2 3 ([(⟨b,o+i*37+2,5,0,x.rights[i].farm.name,x.rights[i].farm.n⟩:Us),(⟨b,o+i*37+4,4,0,x.rights[i].reach.name,x.rights[i].reach.n⟩:Us)].flatMap AI)):=yb (Gl (us:=[(⟨b,o+i*37+2,5,0,x.rights[i].farm.name,x.rights[i].farm.n⟩:Us),(⟨b,o+i*37+4,4,0,x.rights[i].reach.name,x.rights[i].reach.n⟩:Us)]) (World.alloc_heap_new wr.drew _) 2)
          have I:Hid (us.length+2<=1000000):=yb (by have h1:=NS (x:=x) E;have h2:=A.o.short;have h3:=P.o;have h4:=G.o;rw[h3] at h1;rw[h4];simp only[yx,yH] at h1 ⊢;omega)
          have B:Hid (w.heap.size<=(wr.drew.alloc (.cells #[pV b (o+i*37+2),iV 5,iV 0,pV b (o+i*37+4),iV 4,iV 0] 89)).heap.size):=yb (yu m.o.size F.o.size)
          have a2:=yb (m.o.trans (F.o.mono m.o.size))
          go_wp2_with (first|(go_at_call 69;refine (Cp _ _).mono ?_;rintro e w6 ⟨rfl,cm⟩;obtain rfl:=cm.symm))
          go_region_held3 (fun _=>True) (trivial) (first|(refine Cz w.heap.size rfl _ _ rfl u6 us rfl M.o (.slice (some (aV wr.heap.size 0)) 2 2) [(⟨b,o+i*37+2,5,0,x.rights[i].farm.name,x.rights[i].farm.n⟩:Us),(⟨b,o+i*37+4,4,0,x.rights[i].reach.name,x.rights[i].reach.n⟩:Us)] rfl H.o I.o B.o ?_;intro ad c w5 t K;have Y:=yb t;have V:=yb (Eo a2.o B.o M.o K);clear t K))
          go_wp2
          exact ⟨⟨i+1,_,by omega,by push_cast;rfl,yb (by rw[G.o,Mc,P.o]),V,Y,dp⟩,by simp[intOf];omega⟩
        ·have f1:=yb (bo.o (by simpa using Q))
         clear bo bt U
         have ci:Hid (∀W',Below w.heap.size w W'->∀ob,∃O,Jp (EE 170) O (W'.putObj Dd ob)):=yb (fun W' hW ob=>by
          have hX:=eg.o
          rw[f1.o] at hX
          have hj:=CD HJ.o d7.o hW
          refine ⟨_,(bq.o (EE 170)).put (s:=()) ?_ _ (cj.o (EE 170) (by rw[hX];rfl) _ W' (by rw[hX];simpa using hj))⟩
          exact .inl ⟨.inl e7.o,bd.o⟩)
         by_cases ar:1<=x.rights[i].kind
         ·have ag:¬ x.rights[i].kind<=3:=fun h=>Q (by simp[GX,ar,h])
          clear Q
          go_wp2_with (first|(go_at_call 69;refine (Ck _ _).mono ?_;rintro e w6 ⟨rfl,rfl⟩))
          exact ⟨by simp,.inl ⟨_,_,rfl,run_takeDeferred ((m.o.block Dd bd.o).trans cr.o),.inr ⟨_,rfl,ci.o _ m.o _⟩⟩⟩
         ·clear Q
          go_wp2_with (first|(go_at_call 69;refine (Ck _ _).mono ?_;rintro e w6 ⟨rfl,rfl⟩))
          exact ⟨by simp,.inl ⟨_,_,rfl,run_takeDeferred ((m.o.block Dd bd.o).trans cr.o),.inr ⟨_,rfl,ci.o _ m.o _⟩⟩⟩
       ·obtain rfl:i=L.rights.n:=by omega
        have f0:Hid (BZ x=true):=yb (by
         unfold BZ;rw[yR];intro d hd
         obtain ⟨j,hj,rfl⟩:=zh.1 hd
         exact HK.o j hj (by rw[A.o.nrights];exact hj))
        have bx:=(S.o wr m.o _ A.o.box).trans A.o.heads.box
        have hf:wr.cell? (aV L.s 25)=some (.slice L.duties.a L.duties.n L.duties.c):=(S.o wr m.o _ (A.o.src 25 (by omega) (by omega))).trans A.o.heads.duties
        have b5:L.duties.n<=140737488355328:=A.o.ok.duties.1
        go_wp2
        clear bx hf
        obtain ⟨fm,rfl⟩:∃z:World,z=wr:=⟨_,rfl⟩
        obtain ⟨fp,rfl⟩:∃z:Value,z=u6:=⟨_,rfl⟩
        go_loopw [6,160] (fun v6 iv wr=>∃(i:Nat) (us:List Us),i<=L.duties.n∧iv=iV i∧Hid (us=MQ L x i)∧Hid (Below w.heap.size w wr)∧Hid (CF w.heap.size wr v6 us)) (fun _ iv _=>L.duties.n - (intOf iv).toNat)
        case atStart=>exact ⟨0,us,yK _,rfl,yb (by rw[G.o];simp[MQ]),m,HOr⟩
        case round=>
         clear G m HOr
         obtain ⟨i,us,hi,rfl,G,m,HOr⟩:=hrel
         by_cases E:i < L.duties.n
         ·obtain ⟨b,o,he,a7⟩:=A.o.ok.duties.get E
          have a0:i < x.duties.length:=by rw[<-A.o.nduties];exact E
          have bx:=(S.o wr m.o _ A.o.box).trans A.o.heads.box
          have hf:wr.cell? (aV L.s 25)=some (.slice L.duties.a L.duties.n L.duties.c):=(S.o wr m.o _ (A.o.src 25 (by omega) (by omega))).trans A.o.heads.duties
          rw[he] at hf
          clear he
          have P:Hid (E2 L.duties x.duties i=[⟨b,o+i*11+1,5,0,x.duties[i].farm.name,x.duties[i].farm.n⟩,⟨b,o+i*11+3,4,0,x.duties[i].reach.name,x.duties[i].reach.n⟩]):=yb (by
           unfold E2;rw[yk a0];simp[CV,a7])
          have ay:(i:Int) < (L.duties.n:Int):=by omega
          have F:Hid (Below wr.heap.size wr (wr.drew.alloc (.cells #[pV b (o+i*11+1),iV 5,iV 0,pV b (o+i*11+3),iV 4,iV 0] 89))):=yb ((yg _ _).drew.alloc (yf _) _)
          have M:=yb (CF.up HOr.o F.o)
          have H:Hid (BK (wr.drew.alloc (.cells #[pV b (o+i*11+1),iV 5,iV 0,pV b (o+i*11+3),iV 4,iV 0] 89)) (.slice (some (aV wr.heap.size 0)) 2 2) 2 3 ([(⟨b,o+i*11+1,5,0,x.duties[i].farm.name,x.duties[i].farm.n⟩:Us),(⟨b,o+i*11+3,4,0,x.duties[i].reach.name,x.duties[i].reach.n⟩:Us)].flatMap AI)):=yb (Gl (us:=[(⟨b,o+i*11+1,5,0,x.duties[i].farm.name,x.duties[i].farm.n⟩:Us),(⟨b,o+i*11+3,4,0,x.duties[i].reach.name,x.duties[i].reach.n⟩:Us)]) (World.alloc_heap_new wr.drew _) 2)
          have I:Hid (us.length+2<=1000000):=yb (by have h1:=SP (x:=x) E;have h2:=A.o.short;have h3:=P.o;have h4:=G.o;rw[h3] at h1;rw[h4];simp only[yx,yH] at h1 ⊢;omega)
          have B:Hid (w.heap.size<=(wr.drew.alloc (.cells #[pV b (o+i*11+1),iV 5,iV 0,pV b (o+i*11+3),iV 4,iV 0] 89)).heap.size):=yb (yu m.o.size F.o.size)
          have a2:=yb (m.o.trans (F.o.mono m.o.size))
          go_wp2_with fail
          go_region_held3 (fun _=>True) (trivial) (first|(refine Cz w.heap.size rfl _ _ rfl u6 us rfl M.o (.slice (some (aV wr.heap.size 0)) 2 2) [(⟨b,o+i*11+1,5,0,x.duties[i].farm.name,x.duties[i].farm.n⟩:Us),(⟨b,o+i*11+3,4,0,x.duties[i].reach.name,x.duties[i].reach.n⟩:Us)] rfl H.o I.o B.o ?_;intro ad c w5 t K;have Y:=yb t;have V:=yb (Eo a2.o B.o M.o K);clear t K))
          go_wp2
          exact ⟨⟨i+1,_,by omega,by push_cast;rfl,yb (by rw[G.o,Ru,P.o]),V,Y⟩,by simp[intOf];omega⟩
         ·obtain rfl:i=L.duties.n:=by omega
          have e8:Hid (us=Cc L x):=yb (by rw[G.o];exact Kx L x)
          have cv:Hid (X=(K0++us,true)):=yb (by rw[eg.o,f0.o,e8.o];rfl)
          have fs:us.length<=1000000:=by rw[e8.o];exact A.o.short
          obtain ⟨va,vc,rfl, -⟩:=U8 HOr.o
          obtain ⟨wl,rfl⟩:∃z:World,z=wr:=⟨_,rfl⟩
          obtain ⟨O3,aq⟩:∃O3:NP,O3=fun b=>(LG W.heap.size (W.heap.size+3) O b∧b < w.heap.size)∨(w.heap.size<=b∧b < wl.heap.size):=⟨_,rfl⟩
          have dz:J K0.length O3 wl:=by rw[aq];exact CD HJ.o d7.o m.o
          have T:∀b,O3 b->W.heap.size<=b∧b < wl.heap.size:=fun b hb=>by
           rw[aq] at hb
           rcases hb with hb|hb
           ·exact ⟨ef.o b hb.1,yv hb.2 m.o.size⟩
           ·have:=bw.o;omega
          have dc:O3 Dd:=by rw[aq];exact .inl ⟨.inl e7.o,bd.o⟩
          have e0:O3 W.heap.size∧wl.cell? (aV W.heap.size 0)=some (.func (.yield l) #[] #[]):=by
           have h1:=bw.o
           refine ⟨by rw[aq];exact .inl ⟨.inr ⟨yf _,by omega⟩,by omega⟩,(m.o.cell (p:=(aV W.heap.size 0)) (by show W.heap.size < w.heap.size;omega)).trans co.o.y⟩
          have d9:∀g,w.heap.size<=g->g < wl.heap.size->O3 g:=fun g h1 h2=>by rw[aq];exact .inr ⟨h1,h2⟩
          have b9:=yb ((m.o.block Dd bd.o).trans cr.o)
          have d3:=yb d9
          have ei:=yb dz
          have a8:=yb T
          have ao:=yb dc
          have cz:=yb e0
          clear aq dz T dc e0 d9
          go_wp2
          go_loopw [183] (fun iv wr=>∃i:Nat,i<=us.length∧iv=iV i∧Hid (J (K0.length+i) O3 wr)∧Hid (AL O3 wl wr)) (fun iv _=>us.length - (intOf iv).toNat)
          case atStart=>exact ⟨0,yK _,rfl,ei,yb (AL.refl _ _)⟩
          case round=>
           obtain ⟨i,hi,rfl,eb,ap⟩:=hrel
           by_cases E:i < us.length
           ·obtain ⟨g,c,hv,d5,d6,da,c0,c1,c2⟩:=SO HOr.o E
            simp only[qv,true_and] at hv
            obtain ⟨rfl,rfl⟩:=hv
            have d0:=CX ap.o (d3.o g d5 d6) c0
            have d1:=CX ap.o (d3.o g d5 d6) c1
            have d2:=CX ap.o (d3.o g d5 d6) c2
            have Q:K0.length+i < (X.1.map Us.v).length:=by rw[cv.o];simp;exact E
            have dd:(X.1.map Us.v)[K0.length+i]=us[i].v:=by
             rw[zG]
             have h1:X.1[K0.length+i]?=some us[i]:=by rw[cv.o];simp[yU,yk E]
             obtain ⟨h2,h3⟩:=yA.1 h1
             rw[h3]
            generalize us[i]=u at*
            have ae:Below wr.heap.size wr (wr.alloc (.cells #[pV u.b u.o,iV u.to,iV u.at_] 89)):=(yg _ _).alloc (yf _) _
            have dk:AL O3 wr (wr.alloc (.cells #[pV u.b u.o,iV u.to,iV u.at_] 89)):=⟨ae.size,fun b hb=>ae.block b (yv (a8.o b hb).2 ap.o.1)⟩
            have e4:J (K0.length+i) O3 (wr.alloc (.cells #[pV u.b u.o,iV u.to,iV u.at_] 89)):=HJ.o _ _ _ _ _ eb.o ae.size ae.os ae.tape ae.output (fun b _ hl=>ae.block b hl) (fun b hb=>.inl hb)
            have an:=yb (ap.o.trans dk)
            obtain ⟨fk,f2,du,et,hy,dq⟩:=aj.o (K0.length+i) Q O3 _ e4 (yu (by have:=(a8.o _ cz.o.1).2;omega) an.o.1) (fun b hb=>⟨(a8.o b hb).1,yv (a8.o b hb).2 an.o.1⟩)
            rw[dd] at hy
            unfold Us.v at hy
            have ek:=yb dq
            have q3:=CX an.o cz.o.1 cz.o.2
            have ay:(i:Int) < (us.length:Int):=by omega
            have fe:=da
            clear Q dd dq ae dk e4 c0 c1 c2 da
            go_upto_region 47 with fail
            refine (qc (n:=n)).1 ?_
            gi_wp2
            refine ek.o.mono ?_
            rintro e W6 (⟨rfl,hj,hs⟩|⟨rfl,hx,hs⟩|⟨ch,rfl,hp,hs⟩)
            ·have ep:=yb hj
             have b7:=yb (an.o.trans hs)
             clear hj hs hy q3 d0 d1 d2
             gi_wp2
             go_wp2
             exact ⟨⟨i+1,by omega,by push_cast;rfl,ep,b7⟩,by simp[intOf];omega⟩
            ·have el:=yb hx
             have b7:=yb (an.o.trans hs)
             clear hx hs hy q3 d0 d1 d2
             gi_wp2
             go_wp2
             exact ⟨by simp,.inl ⟨_,_,rfl,run_takeDeferred ((b7.o.2 Dd ao.o).trans b9.o),⟨_,zq rfl _ _ _,.inl ⟨⟨_,rfl⟩,.inr ⟨O3,cx.o.put (s:=()) ao.o _ el.o⟩⟩⟩⟩⟩
            ·have b7:=yb (an.o.trans hs)
             exact ⟨by simp,.inl ⟨_,_,rfl,run_takeDeferred ((b7.o.2 Dd ao.o).trans b9.o),.inr ⟨ch,rfl,O3,(bq.o ch).put (s:=()) ao.o _ hp⟩⟩⟩
           ·obtain rfl:i=us.length:=by omega
            have ay:decide ((us.length:Int) < (us.length:Int))=false:=by simp
            have dh:Hid (X.2=true∧J X.1.length O3 wr):=yb (by rw[cv.o];exact ⟨rfl,by rw[ym];exact eb.o⟩)
            go_wp2
            exact ⟨by simp,.inl ⟨_,_,rfl,run_takeDeferred ((ap.o.2 Dd ao.o).trans b9.o),⟨_,zq rfl _ _ _,.inl ⟨⟨_,rfl⟩,.inl ⟨by simp[dh.o.1],O3,HJ.o.put ao.o _ dh.o.2⟩⟩⟩⟩⟩
 ·rintro D c O w hD au ⟨rfl,hI⟩ ah
  gi_wp2
  refine ⟨by simp,.inl ⟨_,_,rfl,run_takeDeferred ah,⟨_,zq rfl _ _ _,.inl ⟨⟨_,rfl⟩,.inr ⟨LG W.heap.size (W.heap.size+3) O,?_⟩⟩⟩⟩⟩
  exact cx.o.put (s:=()) (.inl au) _ hI.j
 ·rintro D ch O w hD au hI ah
  exact ⟨by simp,.inl ⟨_,_,rfl,run_takeDeferred ah,.inr ⟨ch,rfl,LG W.heap.size (W.heap.size+3) O,(bq.o ch).put (s:=()) (.inl au) _ hI.j⟩⟩⟩
end Go.Proofs.YtjofgpfocadomaaGreatDoor

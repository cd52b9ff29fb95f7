/- The iterator over a source's references: the walk. -/
import Derived.Test.YtjofgpfocadomaaGreatDoorUs0
import Derived.Test.YtjofgpfocadomaaGreatDoorUs4
import Derived.Deep.RegionHeld3
set_option maxRecDepth 100000
set_option maxHeartbeats 16000000
set_option linter.unusedSimpArgs false
namespace Go.Proofs.YtjofgpfocadomaaGreatDoor
open Go.RowKit
attribute [local go_sem] Oper.semAt_some
def Lt(B0 B1:Nat)(O:NP)(b:Nat):Prop:=O b∨(B0<=b∧b < B1)
structure St (l By Bi Bs s:Nat) (W:World):Prop where
 y:W.cell? ⟨By,0,none⟩=some (.func (.yield l) #[] #[])
 i:W.cell? ⟨Bi,0,none⟩=some (.func (.func 71) #[] #[.pointer (some ⟨By,0,none⟩),.pointer (some ⟨Bi,0,none⟩)])
 s:W.cell? ⟨Bs,0,none⟩=some (.pointer (some ⟨s,0,none⟩))
theorem St.same{l By Bi Bs s:Nat}{W W':World}(h:St l By Bi Bs s W)(h1:W'.heap[By]?=W.heap[By]?)(h2:W'.heap[Bi]?=W.heap[Bi]?)(h3:W'.heap[Bs]?=W.heap[Bs]?):St l By Bi Bs s W':=by
 obtain ⟨a,b,c⟩:=h
 unfold World.cell? at a b c
 exact ⟨by unfold World.cell?;rw[h1];exact a,by unfold World.cell?;rw[h2];exact b,by unfold World.cell?;rw[h3];exact c⟩
structure FC {β:Type} (J:β->(Nat->Prop)->World->Prop) (B0 B1 l By Bi Bs s:Nat) (p:β->Prop) (k:β) (O:Nat->Prop) (W:World):Prop where
 j:J k (Lt B0 B1 O) W
 own:∀b,O b->B1<=b
 size:B1<=W.heap.size
 box:St l By Bi Bs s W
 p:p k
section
variable{β:Type}{J:β->NP->World->Prop}{B0 B1 l By Bi Bs s:Nat}{p:β->Prop}
theorem FC.stays(q:Ca J)(d:(B0<=By∧By < B1)∧(B0<=Bi∧Bi < B1)∧(B0<=Bs∧Bs < B1)):Ca (FC J B0 B1 l By Bi Bs s p):=by
 intro k O W r W' h g n m o i f
 have c:∀b,b < B1->W'.heap[b]?=W.heap[b]?:=fun b hb=>i b (fun a=>by have:=h.own b a;omega) (yu hb h.size)
 refine ⟨q k _ W _ W' h.j g n m o (fun b hb e=>i b (fun a=>hb (.inl a)) e) (fun b hb=>?_),fun b hb=>?_,yt h.size g,h.box.same (c _ d.1.2) (c _ d.2.1.2) (c _ d.2.2.2),h.p⟩
 ·rcases hb with hb|hb
  ·rcases f b hb with h1|h1
   ·exact .inl (.inl h1)
   ·exact .inr h1
  ·exact .inl (.inr hb)
 ·rcases f b hb with h1|h1
  ·exact h.own b h1
  ·have:=h.size;omega
end
theorem Ip.at{N:NP}{b W:World}{C D:Addr->Prop}{Bu Bs:Nat}{L:Bq}{x:Ax}(a:Kf N b C D Bu L x)(hd:VM b C D W)(hb:W.cell? ⟨Bs,0,none⟩=some (.pointer (some ⟨L.s,0,none⟩))):Ip L Bs W:=
 ⟨hb,(hd.1 _ (a.src 19 (by omega) (by omega))).trans a.heads.lets,(hd.1 _ (a.src 20 (by omega) (by omega))).trans a.heads.crops,(hd.1 _ (a.src 21 (by omega) (by omega))).trans a.heads.reaches,(hd.1 _ (a.src 22 (by omega) (by omega))).trans a.heads.farms,
  (hd.1 _ (a.src 23 (by omega) (by omega))).trans a.heads.rots,(hd.1 _ (a.src 24 (by omega) (by omega))).trans a.heads.rights,(hd.1 _ (a.src 25 (by omega) (by omega))).trans a.heads.duties,fun i hi=>(hd.1 _ (a.turns i hi)).trans (a.heads.turns i hi)⟩
theorem CD.up{B:Nat}{w w':World}{v:Value}{us:List Us}(h:CD B w v us)(hb:Below w.heap.size w w'):CD B w' v us:=by
 obtain ⟨h1,h2⟩:=h
 refine ⟨h1,h2.imp id ?_⟩
 rintro ⟨g,cap,a,h3,d,b,c⟩
 exact ⟨g,cap,a,h3,d,(hb.block g (yd.1 b).1).trans b,c⟩
theorem Ee{B:Nat}{c w w':World}{v:Value}{us:List Us}(h:Below B c w)(i:B<=w.heap.size)(d:CD B w v us)(a:w.grownBy w' v.ownBlock):Below B c w':=by
 refine h.trans ⟨a.os,a.tape,a.output,a.size,fun b hb=>a.block b (by omega) (fun e=>?_)⟩
 rcases d.2 with ⟨rfl,_⟩|⟨g,cap,f,rfl,j,_⟩
 ·cases e
 ·simp only[Value.ownBlock,z8] at e
  omega
theorem Su{B:Nat}{w:World}{v:Value}{us:List Us}(h:CD B w v us){i:Nat}(hi:i < us.length):
  ∃g c,v=.slice (some ⟨g,0,none⟩) us.length c∧B<=g∧g < w.heap.size∧us.length<=maxLen∧w.cell? ⟨g,i*3,none⟩=some (.pointer (some ⟨us[i].b,us[i].o,none⟩))∧w.cell? ⟨g,i*3+1,none⟩=some (.int .i64 us[i].to)∧w.cell? ⟨g,i*3+2,none⟩=some (.int .i64 us[i].at_):=by
 obtain ⟨h1,⟨rfl,h2⟩|⟨g,cap,s,rfl,q,k,y,z,A,n⟩⟩:=h
 ·omega
 ·have d:∀j u,(us.flatMap AK)[j]?=some u->w.cell? (aV g j)=some u:=by
   intro j u a
   rw[<-n] at a
   have f:=(yx.1 a).1
   rw[zb] at f
   rw[zZ,yD (by omega)] at a
   simp only[World.cell?,k]
   simpa using a
  have p:∀(us:List Us) (i:Nat) (hi:i < us.length),(us.flatMap AK)[i*3]?=some (.pointer (some ⟨us[i].b,us[i].o,none⟩))∧(us.flatMap AK)[i*3+1]?=some (iV us[i].to)∧(us.flatMap AK)[i*3+2]?=some (iV us[i].at_):=by
   intro us
   induction us with
   |nil=>intro i hi;simp at hi
   |cons x r ih=>
    intro i hi
    cases i with
    |zero=>exact ⟨rfl,rfl,rfl⟩
    |succ i=>
     have:=ih i (by simpa using hi)
     have e:((x::r).flatMap AK)=AK x++r.flatMap AK:=rfl
     rw[e,yV (by simp[AK];omega),yV (by simp[AK];omega),yV (by simp[AK];omega)]
     have m:(AK x).length=3:=rfl
     rw[m,show (i+1)*3 - 3=i*3 by omega,show (i+1)*3+1 - 3=i*3+1 by omega,show (i+1)*3+2 - 3=i*3+2 by omega]
     exact this
  obtain ⟨t,g1,l⟩:=p us i hi
  exact ⟨g,cap,rfl,q,(yd.1 k).1,by omega,d _ _ t,d _ _ g1,d _ _ l⟩
theorem TT{B:Nat}{w:World}{v:Value}{us:List Us}(h:CD B w v us):∃a c,v=.slice a us.length c∧us.length<=maxLen:=by
 obtain ⟨h1,⟨rfl,h2⟩|⟨g,cap,b,rfl,i,e,d,j,k,f⟩⟩:=h
 ·exact ⟨none,0,by rw[h2],by rw[h2];exact yH _⟩
 ·exact ⟨_,_,rfl,by omega⟩
theorem FN{f:Nat->List Us}{n i:Nat}(h:i < n):((List.range i).flatMap f).length+(f i).length<=((List.range n).flatMap f).length:=by
 obtain ⟨post,a⟩:=Br f h
 rw[a];simp only[yn];omega
theorem FO{ops:Array Oper}{rest:List Oper}{o:Oper}{a:Act}{Q:QT}{W:World}(B:Nat)(e:o.guard=none)(s x:Operand)(k:o.op=.call {callee:=.builtin .append,args:=#[s,x],argTypes:=#[154,154]})
 (v:Value)(us:List Us)(hs:a.eval s=v)(f:CD B W v us)(X:Value)(b:List Us)(l:a.eval x=X)(j:BI W X b.length 3 (b.flatMap AK))(g:us.length+b.length<=1000000)(d:B<=W.heap.size)
 (h:∀(i:Option Addr) (c:Nat) w',CD B w' (.slice i (us.length+b.length) c) (us++b)->W.grownBy w' v.ownBlock->wpList Tryz.prog ops Q rest (a.put o.dst (.slice i (us.length+b.length) c)) w'):wpList Tryz.prog ops Q (o::rest) a W:=
 zw e fun _ m=>Mx B e s x k v us hs f X b l j g d (fun i c w' h1 h2=>m _ _ (h i c w' h1 h2))
def Ra(L:Bq)(x:Ax)(i:Nat):List Us:=(List.range i).flatMap (E8 L.farms x.farms)
def Lu(L:Bq)(x:Ax)(i:Nat):List Us:=Ra L x L.farms.n++(List.range i).flatMap (Gf L x.rots)
def Lv(L:Bq)(x:Ax)(i:Nat):List Us:=Lu L x L.rots.n++(List.range i).flatMap (CG L.rights x.rights)
def MA(L:Bq)(x:Ax)(i:Nat):List Us:=Lv L x L.rights.n++(List.range i).flatMap (DQ L.duties x.duties)
theorem Ki(L:Bq)(x:Ax):MA L x L.duties.n=Cb L x:=rfl
theorem LZ(L:Bq)(x:Ax)(i:Nat):Ra L x (i+1)=Ra L x i++E8 L.farms x.farms i:=Ai _ i
theorem Rb(L:Bq)(x:Ax)(i:Nat):Lu L x (i+1)=Lu L x i++Gf L x.rots i:=by unfold Lu;rw[Ai,yI]
theorem M0(L:Bq)(x:Ax)(i:Nat):Lv L x (i+1)=Lv L x i++CG L.rights x.rights i:=by unfold Lv;rw[Ai,yI]
theorem Rc(L:Bq)(x:Ax)(i:Nat):MA L x (i+1)=MA L x i++DQ L.duties x.duties i:=by unfold MA;rw[Ai,yI]
theorem Qi(L:Bq)(x:Ax):(Lv L x L.rights.n).length<=(Cb L x).length:=by rw[<-Ki];unfold MA;simp
theorem Qj(L:Bq)(x:Ax):(Lu L x L.rots.n).length<=(Cb L x).length:=yt (by unfold Lv;simp) (Qi L x)
theorem TU(L:Bq)(x:Ax):(Ra L x L.farms.n).length<=(Cb L x).length:=yt (by unfold Lu;simp) (Qj L x)
theorem Nu{L:Bq}{x:Ax}{i:Nat}(h:i < L.farms.n):(Ra L x i).length+(E8 L.farms x.farms i).length<=(Cb L x).length:=yt (FN h) (TU L x)
theorem Nv{L:Bq}{x:Ax}{i:Nat}(h:i < L.rots.n):(Lu L x i).length+(Gf L x.rots i).length<=(Cb L x).length:=yt (by have:=FN (f:=Gf L x.rots) h;unfold Lu;simp only[yn];omega) (Qj L x)
theorem Nw{L:Bq}{x:Ax}{i:Nat}(h:i < L.rights.n):(Lv L x i).length+(CG L.rights x.rights i).length<=(Cb L x).length:=yt (by have:=FN (f:=CG L.rights x.rights) h;unfold Lv;simp only[yn];omega) (Qi L x)
theorem Sv{L:Bq}{x:Ax}{i:Nat}(h:i < L.duties.n):(MA L x i).length+(DQ L.duties x.duties i).length<=(Cb L x).length:=by
 have:=FN (f:=DQ L.duties x.duties) h
 rw[<-Ki];unfold MA;simp only[yn];omega
theorem TV{w:World}{C:Addr->Prop}{e:Ex}{b o:Nat}(h:R5 w C e b o):C ⟨b,o,none⟩∧C ⟨b,o+5,none⟩:=by
 cases e
 rw[R5] at h
 obtain ⟨_,_,h1,h2,_⟩:=h
 exact ⟨h1.2,h2.2⟩
theorem TW{e:Ex}{z:Int}(h:e.op=0->z=e.ri):DE e.op e.n e.u e.rn z e.args.length=BJ e:=by
 unfold BJ
 by_cases h0:e.op=0
 ·rw[h h0]
 ·simp[DE,h0]
theorem Kj(n:Nat)(hn:1<=n){N:NP}{w0:World}{C D:Addr->Prop}{Bu:Nat}{L:Bq}{x:Ax}(hU:Kf N w0 C D Bu L x):
  TQ Fence.wide n Tryz.prog 70 #[.pointer (some ⟨Bu,0,none⟩)] (VM w0 C D) ((BQ w0 L x).1.map Us.v) (if (BQ w0 L x).2 then none else some (Er 170)):=by
 intro l J Jx Jp W hJ di dq cl ci a6 aa h0
 have ey:∀(fn:Fn) (first cap:Array Value) (w:World),(Instr.makeFunc fn first cap).run Tryz.prog w=.ok (.func fn first cap) w:=fun _ _ _ _=>rfl
 obtain ⟨X,hX⟩:∃X,X=BQ w0 L x:=⟨_,rfl⟩
 rw[<-hX] at a6 aa ⊢
 have A:=yb hU
 have HX:=yb hX
 have H0:=yb h0
 have HJ:=yb hJ
 have cq:=yb di
 have bm:=yb dq
 have be:=yb cl
 have c8:=yb ci
 have cg:=yb a6
 have aj:=yb aa
 have cB:=((cl _ _ _ h0).1 _ hU.box).trans hU.heads.box
 have el:=yb (yO W _ cB)
 have dB:∀(o o':Obj),((W.alloc o).alloc o').cell? (aV Bu 0)=some (pV L.s 0):=fun o o'=>((((yg W.heap.size W).alloc (yf _) o).alloc (by simp) o').cell (p:=(aV Bu 0)) el.o).trans cB
 clear hU hX h0 hJ di dq cl ci a6 aa cB
 refine yX.2 (Bb (n:=10) Tryz.func70 rfl ?_)
 simp only[Tryz.ntmps70,yM,yv,yE,Nat.reduceAdd,Nat.reduceSub,zx,zy,zM,zG,yP,yK]
 iterate 3
  refine A9 (A4 ?_)
  go_wp2
 refine A9 (A9 (A4 ?_))
 go_wp2_with (first|(go_at_call 72;refine (EH _ _).mono ?_;rintro e w2 ⟨rfl,rfl⟩))
 have cc:Below W.heap.size W (((W.alloc (.cells #[.func (.yield l) #[] #[]] 148)).alloc (.cells #[.func (.func 71) #[] #[pV W.heap.size 0,pV (W.heap.size+1) 0]] 149)).alloc (.cells #[pV L.s 0] 85)):=(((yg _ _).alloc (yf _) _).alloc (by simp) _).alloc (by simp;omega) _
 have bv:St l W.heap.size (W.heap.size+1) (W.heap.size+1+1) L.s (((W.alloc (.cells #[.func (.yield l) #[] #[]] 148)).alloc (.cells #[.func (.func 71) #[] #[pV W.heap.size 0,pV (W.heap.size+1) 0]] 149)).alloc (.cells #[pV L.s 0] 85)):=by
  refine ⟨?_,?_,?_⟩
  ·refine qb _ (qb _ ?_)
   have:=World.alloc_heap_new W (.cells #[.func (.yield l) #[] #[]] 148)
   simp only[World.cell?,this];simp
  ·refine qb _ ?_
   have:=World.alloc_heap_new (W.alloc (.cells #[.func (.yield l) #[] #[]] 148)) (.cells #[.func (.func 71) #[] #[pV W.heap.size 0,pV (W.heap.size+1) 0]] 149)
   rw[yY] at this
   simp only[World.cell?,this];simp
  ·have:=World.alloc_heap_new ((W.alloc (.cells #[.func (.yield l) #[] #[]] 148)).alloc (.cells #[.func (.func 71) #[] #[pV W.heap.size 0,pV (W.heap.size+1) 0]] 149)) (.cells #[pV L.s 0] 85)
   rw[yY,yY] at this
   simp only[World.cell?,this];simp
 have cd:(((W.alloc (.cells #[.func (.yield l) #[] #[]] 148)).alloc (.cells #[.func (.func 71) #[] #[pV W.heap.size 0,pV (W.heap.size+1) 0]] 149)).alloc (.cells #[pV L.s 0] 85)).heap.size=W.heap.size+3:=by simp
 have bq:=yb cc
 have f6:=yb bv
 have e7:=yb cd
 clear cc bv cd dB ey
 generalize ((W.alloc (.cells #[.func (.yield l) #[] #[]] 148)).alloc (.cells #[.func (.func 71) #[] #[pV W.heap.size 0,pV (W.heap.size+1) 0]] 149)).alloc (.cells #[pV L.s 0] 85)=W1 at*
 obtain ⟨q,Y⟩:∃q,q=Ed w0 L x:=⟨_,rfl⟩
 have dz:q.length=(BH L).length+1:=by rw[Y];unfold Ed;rw[yn,EG A.o];rfl
 have dg:∀k (P:k < (BH L).length) (ac:k < (Ay x).length) (ab:k < q.length),q[k]=Ck w0 (BH L)[k] (Ay x)[k]:=by
  intro k P ac ab
  apply yi
  rw[<-yk ab,Y]
  unfold Ed
  rw[zo (by rw[EG A.o];exact P)]
  unfold Dt
  rw[List.getElem?_zipWith,yk P,yk ac]
 have bt:Hid (X=Bw q):=yb (by rw[HX.o,Y];rfl)
 have f9:=yb dz
 have et:=yb dg
 have dx:=yb Y
 have dh:Hid (Ca (fun k=>J (Bw (q.take k)).1.length)):=yb (fun k O W O' W' h hz ho ht hu P hO=>HJ.o _ O W O' W' h hz ho ht hu P hO)
 have ed:(W.heap.size<=W.heap.size∧W.heap.size < W.heap.size+3)∧(W.heap.size<=W.heap.size+1∧W.heap.size+1 < W.heap.size+3)∧(W.heap.size<=W.heap.size+1+1∧W.heap.size+1+1 < W.heap.size+3):=by omega
 have b4:=yb ed
 clear dz dg Y ed
 refine D4 ?_
 refine CA (n:=10) Tryz.func70 rfl (fun _ _=>rfl) (Kg 9 (by omega) (W.heap.size+1+1) L A.o.ok) (fun a ha=>by
   obtain ⟨i,hi,rfl⟩:=zg.1 ha
   obtain ⟨b,o,c,h1,_⟩:=A.o.top.get i hi (by rw[<-A.o.top.length];exact hi)
   rw[h1];rfl)
  (FC (fun k=>J (Bw (q.take k)).1.length) W.heap.size (W.heap.size+3) l W.heap.size (W.heap.size+1) (W.heap.size+1+1) L.s (fun k=>(Bw (q.take k)).2=true))
  (fun c O w=>c=.ret∧FC (fun (_:Unit)=>Jx) W.heap.size (W.heap.size+3) l W.heap.size (W.heap.size+1) (W.heap.size+1+1) L.s (fun _=>True) () O w)
  (fun ch=>FC (fun (_:Unit)=>Jp ch) W.heap.size (W.heap.size+3) l W.heap.size (W.heap.size+1) (W.heap.size+1+1) L.s (fun _=>True) ())
  (fun k a=>FC (fun k=>J (Bw (q.take k)).1.length) W.heap.size (W.heap.size+3) l W.heap.size (W.heap.size+1) (W.heap.size+1+1) L.s (fun k=>(Bw (q.take k)).2=true∧∃(b o:Nat) (lt:Int) (P:k < (BH L).length),(BH L)[k]'P=#[pV b o,iV lt]∧a={tmps:=#[.func (.yield l) #[] #[],pV Bu 0,pV W.heap.size 0,pV (W.heap.size+1) 0,pV b o,iV lt,undef,undef,undef,undef,undef,undef,undef,undef,undef,undef,undef,undef,undef,undef,.func (.func 71) #[] #[pV W.heap.size 0,pV (W.heap.size+1) 0],pV L.s 0,.func (.func 92) #[] #[pV (W.heap.size+1+1) 0],pV b o,iV lt,undef,undef,undef,undef,undef,undef,undef,undef,undef,undef,undef,undef,undef,undef,undef,undef,undef,undef,undef,undef,undef,undef,undef,undef,undef,undef,undef,undef,undef,undef,undef,undef,undef,undef,undef,undef,undef,undef,undef,undef,undef,undef,undef,undef,undef,undef,undef,undef,undef,undef,undef,undef,undef,undef,undef,undef,undef,undef,undef,undef,undef,undef,undef,undef,undef,undef,undef,undef,undef,undef,undef,undef,undef,undef,undef,undef,undef,undef,undef,undef,undef,undef,undef,undef,undef,undef,undef,undef,undef,undef,undef,undef,undef,undef,undef,undef,undef,undef,undef,undef,undef,undef,undef,undef,undef,undef,undef,undef,undef,undef,undef,undef,undef,undef,undef,undef,undef,undef,undef,undef,undef,undef,undef,undef,undef,undef,undef,undef,undef,undef,undef,undef,undef,undef,undef,undef,undef,undef,undef,undef,undef,undef,undef,undef,undef,undef,undef,undef,undef,undef,undef,undef,undef,undef,undef,undef,undef,undef,undef,undef,undef,undef,undef,undef,undef,undef,undef],defers:=[]}) k)
  ?_ ?_ ?_ ?_ ?_ ?_ (fun _ h=>by cases h) ?_ ?_ ?_ ?_ ?_ ?_
 ·exact FC.stays dh.o b4.o
 ·rintro c _ O w O' w' ⟨h1,h2⟩ hz ho ht hu P hO
  exact ⟨h1,FC.stays cq.o b4.o () O w O' w' h2 hz ho ht hu P hO⟩
 ·exact fun ch _ O w O' w' h hz ho ht hu P hO=>FC.stays (bm.o ch) b4.o () O w O' w' h hz ho ht hu P hO
 ·exact fun a=>FC.stays dh.o b4.o
 ·exact fun k O w h=>Ip.at A.o (be.o _ _ _ h.j) h.box.s
 ·exact fun c O w h=>Ip.at A.o (c8.o _ _ h.2.j) h.2.box.s
 ·refine ⟨HJ.o 0 _ W _ W1 H0.o (by rw[e7.o];omega) bq.o.os bq.o.tape bq.o.output (fun b _ F=>bq.o.block b F) (fun b hb=>?_),fun _ h=>h.elim,by rw[e7.o];omega,f6.o,rfl⟩
  rcases hb with hb|hb
  ·exact hb.elim
  ·exact .inr hb.1
 ·intro k P O w lo hI hO hl _
  obtain ⟨b,o,fp,h1,_⟩:=A.o.top.get k P (by rw[<-A.o.top.length];exact P)
  have ac:k < (Ay x).length:=by rw[<-A.o.top.length];exact P
  rw[h1]
  generalize ((Ay x)[k]'ac).2=lt at h1
  have HI:=yb hI
  have HE:=yb h1
  clear hI hO hl h1
  gi_wp2
  first
  |exact ⟨AO.refl _ _,HI.o.j,HI.o.own,HI.o.size,HI.o.box,HI.o.p,b,o,lt,P,HE.o,rfl⟩
  |(rename_i hK;exact hK _ _ ⟨AO.refl _ _,HI.o.j,HI.o.own,HI.o.size,HI.o.box,HI.o.p,b,o,lt,P,HE.o,rfl⟩)
  |(rename_i hK _;exact hK _ _ ⟨AO.refl _ _,HI.o.j,HI.o.own,HI.o.size,HI.o.box,HI.o.p,b,o,lt,P,HE.o,rfl⟩)
  |fail
 ·rintro k P O w lo a1 hl dw cr ⟨hj,a6,e9,ae,hp,b,o,lt,eu,hx,rfl⟩
  obtain ⟨b',o',cs,h1,h2,h3,h4,h5,h6,h7,h8,h9⟩:=A.o.top.get k P (by rw[<-A.o.top.length];exact P)
  rw[hx] at h1
  have ac:k < (Ay x).length:=by rw[<-A.o.top.length];exact P
  have ab:k < q.length:=by rw[f9.o];omega
  have bd:=et.o k P ac ab
  have ax:=A.o.few _ (yJ ac)
  rcases db:(Ay x)[k] with ⟨ex,fg⟩
  simp only[db] at h1 h3 h4 h9 bd ax
  simp only[qo,xG,xQ,z8,qt,Value.int.injEq,qk,and_true] at h1
  obtain ⟨⟨rfl,rfl⟩,rfl⟩:=h1
  obtain ⟨ea,ff,rfl,e1,e2,e3⟩:=h3.cells
  obtain ⟨r0,r1,r2,r3,r4,r5⟩:=Bn h2
  have ag:=be.o _ _ _ hj
  have hC:=TV h4
  have c0:=(ag.1 _ hC.1).trans r0
  have c1:=(ag.1 _ h5).trans r1
  have c2:=(ag.1 _ h6).trans r2
  have c3:=(ag.1 _ h7).trans r3
  obtain ⟨z,c4⟩:=ag.2 _ h8
  have c5:=(ag.1 _ hC.2).trans r5
  have b8:DE ex.op ex.n ex.u ex.rn z ex.args.length=BJ ex:=TW (fun h0=>by
   have:=(ag.1 _ (h9 h0)).symm.trans c4
   rw[r4] at this
   simp only[z8,Value.int.injEq,qk] at this
   exact this.symm)
  have b9:=yb b8
  have cw:IV J (Lt W.heap.size (W.heap.size+3) O) W.heap.size l W.heap.size (W.heap.size+1) (Bw (q.take k)).1.length w:=⟨hj,by omega,fun b hb=>hb.elim (cr b) (fun h=>by omega),⟨.inr (by omega),ae.y⟩,⟨.inr (by omega),ae.i⟩⟩
  have bh:=yb cw
  have bz:UA n l W.heap.size (W.heap.size+1) W.heap.size (Lt W.heap.size (W.heap.size+3) O) X.1 w0 C J Jx Jp:=⟨HJ.o,fun k O W h=>(be.o k O W h).1,fun O W h=>(c8.o O W h).1,fun k P W' hs=>by
   have:=aj.o k (by simpa using P) _ W' hs.j hs.size (fun b hb=>⟨hb.elim (fun h=>by have:=a6 b h;omega) (fun h=>h.1),hs.own b hb⟩)
   rw[zE] at this
   exact this⟩
  have bu:BJ ex=true->Bw (q.take (k+1))=((Bw (q.take k)).1++[],true):=fun hl=>by
   rw[LX ab hp,bd];simp[Ck,hl]
  have ce:BJ ex=false->q[k]=BX w0 lt ex b o:=fun hl=>by
   rw[bd];simp[Ck,hl,hx,Ss]
  have cf:=yb bu
  have ay:BJ ex=false->Bw (q.take (k+1))=((Bw (q.take k)).1++(BX w0 lt ex b o).1,(BX w0 lt ex b o).2):=fun hl=>by
   rw[LX ab hp,ce hl]
  have dl:=yb ay
  have au:BJ ex=false->∀w3,Below w.heap.size w w3->Calls Tryz.prog 71 #[pV b o,iV lt,pV W.heap.size 0,pV (W.heap.size+1) 0] w3
    (Nt J Jx Jp (Lt W.heap.size (W.heap.size+3) O) ((Bw (q.take k)).1.length+(BX w0 lt ex b o).1.length) (BX w0 lt ex b o).2 w3):=fun hl w3 T=>by
   refine P7 n hn l W.heap.size (W.heap.size+1) W.heap.size lt ax (Lt W.heap.size (W.heap.size+3) O) X.1 w0 C J Jx Jp bz ex b o (Bw (q.take k)).1 w3 (cw.below HJ.o T) h4 ?_ ?_
   ·obtain ⟨post,aw⟩:=Sr q (k+1)
    rw[ay hl] at aw
    exact ⟨post,by rw[bt.o,aw];simp⟩
   ·intro hf W' ez
    have cu:=R9 (l:=q) (k:=k+1) (by rw[ay hl];exact hf)
    rw[ay hl] at cu
    refine cg.o (Er 170) (by rw[bt.o,cu];simp[hf]) _ W' ?_
    rw[bt.o,cu]
    simpa using ez
  have cm:=yb au
  have bo:=yb a6
  have ai:=yb ae
  have B:=yb e9
  have bi:=ae.i
  have ej:=yb (yO w _ bi)
  have f5:=yb cr
  have HP:=yb hp
  have fd:=e1
  clear h2 h3 h4 h5 h6 h7 h8 h9 e2 e3 r0 r1 r2 r3 r4 r5 ag hC b8 cw bz bu ay au a6 ae e9 cr hp bd ce hj hx db hl dw eu ac ab ax e1
  generalize ex.args.length=em at*
  generalize f7:BJ ex=LE at*
  clear f7
  cases LE with
  |true=>
   gi_wp2_with fail
   refine ⟨trivial,zj (CallsIn.inRound lo (yX.2 (Jn _ _ _ _ _ _ _ _ _))) ?_⟩
   rintro e w3 ⟨rfl,T⟩
   rw[b9.o]
   gi_wp2_with fail
   repeat (refine ⟨fun _ h=>(by cases h),?_⟩;gi_wp2_with fail)
   refine ⟨⟨T.size,fun b hb=>T.block b (f5.o b hb)⟩,?_,bo.o,yt B.o T.size,?_,?_⟩
   ·have:=(bh.o.below HJ.o T).j
    rw[cf.o (by simp),yS];exact this
   ·have hB:=b4.o
    exact ai.o.same (T.block _ (by have:=B.o;omega)) (T.block _ (by have:=B.o;omega)) (T.block _ (by have:=B.o;omega))
   ·rw[cf.o (by simp)]
  |false=>
   gi_wp2_with fail
   refine ⟨trivial,zj (CallsIn.inRound lo (yX.2 (Jn _ _ _ _ _ _ _ _ _))) ?_⟩
   rintro e w3 ⟨rfl,T⟩
   rw[b9.o]
   have e5:=(T.cell (p:=(aV (W.heap.size+1) 0)) ej.o).trans bi
   have a8:=yb T
   clear T
   gi_wp2_with fail
   refine ⟨trivial,zj (CallsIn.inRound lo (yX.2 (cm.o (by simp) w3 a8.o))) ?_⟩
   rintro e w4 (⟨r,rfl,ar,(⟨rfl,d6,dn⟩|⟨rfl,d8⟩)⟩|⟨ch,rfl,en,ar⟩)
   ·have S:=yb ((bh.o.sameBelow a8.o).trans ar)
    have eo:=yb dn
    have fb:=yb d6
    clear ar dn d6 bi e5
    gi_wp2_with fail
    refine ⟨S.o.sub (fun b hb=>.inl hb),?_,bo.o,yt B.o S.o.1,?_,?_⟩
    ·rw[dl.o (by simp)]
     simp only[yn]
     exact eo.o
    ·exact ai.o.same (S.o.2 _ (.inr (by omega))) (S.o.2 _ (.inr (by omega))) (S.o.2 _ (.inr (by omega)))
    ·rw[dl.o (by simp)];exact fb.o
   ·have S:=yb ((bh.o.sameBelow a8.o).trans ar)
    have eh:=yb d8
    clear ar d8 bi e5
    gi_wp2_with fail
    exact ⟨S.o.sub (fun b hb=>.inl hb),rfl,eh.o,bo.o,yt B.o S.o.1,ai.o.same (S.o.2 _ (.inr (by omega))) (S.o.2 _ (.inr (by omega))) (S.o.2 _ (.inr (by omega))),trivial⟩
   ·have S:=yb ((bh.o.sameBelow a8.o).trans ar)
    exact ⟨rfl,S.o.sub (fun b hb=>.inl hb),en,bo.o,yt B.o S.o.1,ai.o.same (S.o.2 _ (.inr (by omega))) (S.o.2 _ (.inr (by omega))) (S.o.2 _ (.inr (by omega))),trivial⟩
 ·rintro - Dd O w hD ao hI ah
  have hT:(Dt w0 L x).length=(BH L).length:=EG A.o
  have eb:q.take (BH L).length=Dt w0 L x:=by rw[dx.o];unfold Ed;rw[<-hT,List.take_left'];rfl
  have co:=hI.p
  have bn:=hI.j
  simp only[eb] at co bn
  obtain ⟨K0,d3⟩:∃K0,K0=(Bw (Dt w0 L x)).1:=⟨_,rfl⟩
  have du:X=(K0++(if BZ x then Cb L x else []),BZ x):=by
   rw[bt.o,dx.o];unfold Ed
   rw[Ev,co,yD rfl,d3]
   simp only[Bw]
   cases BZ x<;>simp
  rw[<-d3] at bn
  have d4:J K0.length (fun b=>Lt W.heap.size (W.heap.size+3) O b∧b < w.heap.size) w:=HJ.o _ _ _ _ _ bn (yf _) rfl rfl rfl (fun _ _ _=>rfl) (fun b hb=>.inl hb.1)
  have d7:Dd < w.heap.size:=(yd.1 ah).1
  have c9:∀b,Lt W.heap.size (W.heap.size+3) O b->W.heap.size<=b:=fun b hb=>hb.elim (fun h=>by have:=hI.own b h;omega) (fun h=>h.1)
  have bp:∀wr,Below w.heap.size w wr->∀p,C p->wr.cell? p=w0.cell? p:=fun wr hb=>(be.o _ _ _ (CC HJ.o d4 hb)).1
  have R:=yb bp
  have e0:=yb d4
  have dp:=yb du
  have dt:=yb c9
  have b0:=yb d7
  have dk:=yb ao
  have cn:=yb ah
  have cz:=yb hI.box
  have cj:=yb hI.size
  have bx:w.cell? (aV Bu 0)=some (pV L.s 0):=(bp w (yg _ _) _ A.o.box).trans A.o.heads.box
  have hf:w.cell? (aV L.s 22)=some (.slice L.farms.a L.farms.n L.farms.c):=(bp w (yg _ _) _ (A.o.src 22 (by omega) (by omega))).trans A.o.heads.farms
  have bb:L.farms.n<=140737488355328:=A.o.ok.farms.1
  clear hT eb co bn d3 du d4 d7 c9 bp ao ah hI hD
  simp only[Exit.inBlock,Exit.then]
  refine A4 ?_
  go_wp2
  clear bx hf
  go_loopw [6,42] (fun v6 iv wr=>∃(i:Nat) (us:List Us),i<=L.farms.n∧iv=iV i∧Hid (us=Ra L x i)∧Hid (Below w.heap.size w wr)∧Hid (CD w.heap.size wr v6 us)) (fun _ iv _=>L.farms.n - (intOf iv).toNat)
  case atStart=>exact ⟨0,[],yH _,rfl,yb rfl,yb (yg _ _),yb (R7 _ _)⟩
  case round=>
   obtain ⟨i,us,hi,rfl,G,m,HOr⟩:=hrel
   by_cases F:i < L.farms.n
   ·obtain ⟨b,o,he,a7⟩:=A.o.ok.farms.get F
    have a0:i < x.farms.length:=by rw[<-A.o.nfarms];exact F
    have bx:=(R.o wr m.o _ A.o.box).trans A.o.heads.box
    have hf:wr.cell? (aV L.s 22)=some (.slice L.farms.a L.farms.n L.farms.c):=(R.o wr m.o _ (A.o.src 22 (by omega) (by omega))).trans A.o.heads.farms
    have hr:=(R.o wr m.o _ (A.o.river i a0).1).trans (A.o.river i a0).2
    rw[a7] at hr
    rw[he] at hf
    clear he
    have U:E8 L.farms x.farms i=[⟨b,o+i*12+1,4,0,x.farms[i].on.name,x.farms[i].on.n⟩,⟨b,o+i*12+10,if x.farms[i].river then 0 else 3,0,x.farms[i].crop.name,x.farms[i].crop.n⟩]:=by
     unfold E8;rw[yk a0];simp[CO,a7]
    have av:(i:Int) < (L.farms.n:Int):=by omega
    cases bk:x.farms[i].river with
    |true=>
     rw[bk] at hr U
     simp only[xm] at U
     have Q:=yb U
     clear U bk
     have E:Hid (Below wr.heap.size wr (wr.drew.alloc (.cells #[pV b (o+i*12+1),iV 4,iV 0,pV b (o+i*12+10),iV 0,iV 0] 89))):=yb ((yg _ _).drew.alloc (yf _) _)
     have I:=yb (CD.up HOr.o E.o)
     have H:Hid (BI (wr.drew.alloc (.cells #[pV b (o+i*12+1),iV 4,iV 0,pV b (o+i*12+10),iV 0,iV 0] 89)) (.slice (some (aV wr.heap.size 0)) 2 2) 2 3 ([(⟨b,o+i*12+1,4,0,x.farms[i].on.name,x.farms[i].on.n⟩:Us),(⟨b,o+i*12+10,0,0,x.farms[i].crop.name,x.farms[i].crop.n⟩:Us)].flatMap AK)):=yb (Ge (us:=[(⟨b,o+i*12+1,4,0,x.farms[i].on.name,x.farms[i].on.n⟩:Us),(⟨b,o+i*12+10,0,0,x.farms[i].crop.name,x.farms[i].crop.n⟩:Us)]) (World.alloc_heap_new wr.drew _) 2)
     have K:Hid (us.length+2<=1000000):=yb (by have h1:=Nu (x:=x) F;have h2:=A.o.short;have h3:=Q.o;have h4:=G.o;rw[h3] at h1;rw[h4];simp only[yv,yE] at h1 ⊢;omega)
     have B:Hid (w.heap.size<=(wr.drew.alloc (.cells #[pV b (o+i*12+1),iV 4,iV 0,pV b (o+i*12+10),iV 0,iV 0] 89)).heap.size):=yb (yt m.o.size E.o.size)
     have a2:=yb (m.o.trans (E.o.mono m.o.size))
     go_wp2_with fail
     go_region_held3 (fun _=>True) (trivial) (first|(refine Cx w.heap.size rfl _ _ rfl u6 us rfl I.o (.slice (some (aV wr.heap.size 0)) 2 2) [(⟨b,o+i*12+1,4,0,x.farms[i].on.name,x.farms[i].on.n⟩:Us),(⟨b,o+i*12+10,0,0,x.farms[i].crop.name,x.farms[i].crop.n⟩:Us)] rfl H.o K.o B.o ?_;intro ad c w5 t M;have Z:=yb t;have V:=yb (Ee a2.o B.o I.o M);clear t M))
     go_wp2
     exact ⟨⟨i+1,_,by omega,by push_cast;rfl,yb (by rw[G.o,LZ,Q.o]),V,Z⟩,by simp[intOf];omega⟩
    |false=>
     rw[bk] at hr U
     simp only[Bool.false_eq_true,if_false] at U
     have Q:=yb U
     clear U bk
     have E:Hid (Below wr.heap.size wr (wr.drew.alloc (.cells #[pV b (o+i*12+1),iV 4,iV 0,pV b (o+i*12+10),iV 3,iV 0] 89))):=yb ((yg _ _).drew.alloc (yf _) _)
     have I:=yb (CD.up HOr.o E.o)
     have H:Hid (BI (wr.drew.alloc (.cells #[pV b (o+i*12+1),iV 4,iV 0,pV b (o+i*12+10),iV 3,iV 0] 89)) (.slice (some (aV wr.heap.size 0)) 2 2) 2 3 ([(⟨b,o+i*12+1,4,0,x.farms[i].on.name,x.farms[i].on.n⟩:Us),(⟨b,o+i*12+10,3,0,x.farms[i].crop.name,x.farms[i].crop.n⟩:Us)].flatMap AK)):=yb (Ge (us:=[(⟨b,o+i*12+1,4,0,x.farms[i].on.name,x.farms[i].on.n⟩:Us),(⟨b,o+i*12+10,3,0,x.farms[i].crop.name,x.farms[i].crop.n⟩:Us)]) (World.alloc_heap_new wr.drew _) 2)
     have K:Hid (us.length+2<=1000000):=yb (by have h1:=Nu (x:=x) F;have h2:=A.o.short;have h3:=Q.o;have h4:=G.o;rw[h3] at h1;rw[h4];simp only[yv,yE] at h1 ⊢;omega)
     have B:Hid (w.heap.size<=(wr.drew.alloc (.cells #[pV b (o+i*12+1),iV 4,iV 0,pV b (o+i*12+10),iV 3,iV 0] 89)).heap.size):=yb (yt m.o.size E.o.size)
     have a2:=yb (m.o.trans (E.o.mono m.o.size))
     go_wp2_with fail
     go_region_held3 (fun _=>True) (trivial) (first|(refine Cx w.heap.size rfl _ _ rfl u6 us rfl I.o (.slice (some (aV wr.heap.size 0)) 2 2) [(⟨b,o+i*12+1,4,0,x.farms[i].on.name,x.farms[i].on.n⟩:Us),(⟨b,o+i*12+10,3,0,x.farms[i].crop.name,x.farms[i].crop.n⟩:Us)] rfl H.o K.o B.o ?_;intro ad c w5 t M;have Z:=yb t;have V:=yb (Ee a2.o B.o I.o M);clear t M))
     go_wp2
     exact ⟨⟨i+1,_,by omega,by push_cast;rfl,yb (by rw[G.o,LZ,Q.o]),V,Z⟩,by simp[intOf];omega⟩
   ·obtain rfl:i=L.farms.n:=by omega
    have bx:=(R.o wr m.o _ A.o.box).trans A.o.heads.box
    have hf:wr.cell? (aV L.s 23)=some (.slice L.rots.a L.rots.n L.rots.c):=(R.o wr m.o _ (A.o.src 23 (by omega) (by omega))).trans A.o.heads.rots
    have bb:L.rots.n<=140737488355328:=A.o.ok.rots.1
    go_wp2
    clear bx hf
    obtain ⟨fh,rfl⟩:∃z:World,z=wr:=⟨_,rfl⟩
    obtain ⟨fs,rfl⟩:∃z:Value,z=u6:=⟨_,rfl⟩
    go_loopw [6,73] (fun v6 iv wr=>∃(i:Nat) (us:List Us),i<=L.rots.n∧iv=iV i∧Hid (us=Lu L x i)∧Hid (Below w.heap.size w wr)∧Hid (CD w.heap.size wr v6 us)) (fun _ iv _=>L.rots.n - (intOf iv).toNat)
    case atStart=>exact ⟨0,us,yH _,rfl,yb (by rw[G.o];simp[Lu]),m,HOr⟩
    case round=>
     clear G m HOr
     obtain ⟨i,us,hi,rfl,G,m,HOr⟩:=hrel
     by_cases F:i < L.rots.n
     ·obtain ⟨b,o,he,a7⟩:=A.o.ok.rots.get F
      have a0:i < x.rots.length:=by rw[<-A.o.nrots];exact F
      have bx:=(R.o wr m.o _ A.o.box).trans A.o.heads.box
      have hf:wr.cell? (aV L.s 23)=some (.slice L.rots.a L.rots.n L.rots.c):=(R.o wr m.o _ (A.o.src 23 (by omega) (by omega))).trans A.o.heads.rots
      rw[he] at hf
      clear he
      have f2:=yb (A.o.nturns i a0)
      have ck:=yb (A.o.ok.turns i F)
      have dy:Hid (∀W,Below w.heap.size w W->W.cell? (aV b (o+i*23+22))=some (.slice (A2 L i).a (A2 L i).n (A2 L i).c)):=yb (fun W hW=>by
       have h1:=(R.o W hW _ (A.o.turns i F)).trans (A.o.heads.turns i F)
       rw[a7] at h1;exact h1)
      have Q:Hid (Gf L x.rots i=⟨b,o+i*23+1,4,0,x.rots[i].on.name,x.rots[i].on.n⟩::(List.range (A2 L i).n).flatMap (EL (A2 L i) x.rots[i].turns)):=yb (by
       unfold Gf;rw[yk a0];simp[CO,a7])
      have av:(i:Int) < (L.rots.n:Int):=by omega
      have f0:(A2 L i).n<=140737488355328:=ck.o.1
      have f8:∀w5:World,Below w.heap.size w w5->True:=fun _ _=>trivial
      clear f8
      have E:Hid (Below wr.heap.size wr (wr.alloc (.cells #[pV b (o+i*23+1),iV 4,iV 0] 89))):=yb ((yg _ _).alloc (yf _) _)
      have I:=yb (CD.up HOr.o E.o)
      have H:Hid (BI (wr.alloc (.cells #[pV b (o+i*23+1),iV 4,iV 0] 89)) (.slice (some (aV wr.heap.size 0)) 1 1) 1 3 ([(⟨b,o+i*23+1,4,0,x.rots[i].on.name,x.rots[i].on.n⟩:Us)].flatMap AK)):=yb (Ge (us:=[(⟨b,o+i*23+1,4,0,x.rots[i].on.name,x.rots[i].on.n⟩:Us)]) (World.alloc_heap_new wr _) 1)
      have K:Hid (us.length+1<=1000000):=yb (by have h1:=Nv (x:=x) F;have h2:=A.o.short;have h3:=Q.o;have h4:=G.o;rw[h3] at h1;rw[h4];simp only[yv] at h1;omega)
      have B:Hid (w.heap.size<=(wr.alloc (.cells #[pV b (o+i*23+1),iV 4,iV 0] 89)).heap.size):=yb (yt m.o.size E.o.size)
      have a2:=yb (m.o.trans (E.o.mono m.o.size))
      go_wp2_with (first|(at_builtin;refine FO w.heap.size rfl _ _ rfl u6 us rfl I.o (.slice (some (aV wr.heap.size 0)) 1 1) [(⟨b,o+i*23+1,4,0,x.rots[i].on.name,x.rots[i].on.n⟩:Us)] rfl H.o K.o B.o ?_;intro ad c w5 t M;have Z:=yb t;have V:=yb (Ee a2.o B.o I.o M);have ht:=dy.o w5 V.o;clear t M))
      clear bx hf ht
      obtain ⟨wg,rfl⟩:∃z:World,z=wr:=⟨_,rfl⟩
      obtain ⟨vg,rfl⟩:∃z:Value,z=u6:=⟨_,rfl⟩
      go_loopw [6,94] (fun v6 iv wr=>∃(k:Nat) (ap:List Us),k<=(A2 L i).n∧iv=iV k∧Hid (ap=us++(⟨b,o+i*23+1,4,0,x.rots[i].on.name,x.rots[i].on.n⟩::(List.range k).flatMap (EL (A2 L i) x.rots[i].turns)))∧Hid (Below w.heap.size w wr)∧Hid (CD w.heap.size wr v6 ap)) (fun _ iv _=>(A2 L i).n - (intOf iv).toNat)
      case atStart=>exact ⟨0,_,yH _,rfl,yb (by simp),V,Z⟩
      case round=>
       clear m HOr V Z
       obtain ⟨k,ap,P,rfl,az,m,HOr⟩:=hrel
       by_cases b7:k < (A2 L i).n
       ·obtain ⟨b2,o2,de,e8⟩:=ck.o.get b7
        have fa:k < x.rots[i].turns.length:=by rw[<-f2.o];exact b7
        have ht:=dy.o wr m.o
        rw[de] at ht
        clear de
        have ec:Hid (EL (A2 L i) x.rots[i].turns k=[⟨b2,o2+k*8,5,0,(x.rots[i].turns[k]).farm.name,(x.rots[i].turns[k]).farm.n⟩]):=yb (by
         unfold EL;rw[yk fa];simp[CO,e8])
        have ei:(k:Int) < ((A2 L i).n:Int):=by omega
        have E:Hid (Below wr.heap.size wr (wr.alloc (.cells #[pV b2 (o2+k*8),iV 5,iV 0] 89))):=yb ((yg _ _).alloc (yf _) _)
        have I:=yb (CD.up HOr.o E.o)
        have H:Hid (BI (wr.alloc (.cells #[pV b2 (o2+k*8),iV 5,iV 0] 89)) (.slice (some (aV wr.heap.size 0)) 1 1) 1 3 ([(⟨b2,o2+k*8,5,0,(x.rots[i].turns[k]).farm.name,(x.rots[i].turns[k]).farm.n⟩:Us)].flatMap AK)):=yb (Ge (us:=[(⟨b2,o2+k*8,5,0,(x.rots[i].turns[k]).farm.name,(x.rots[i].turns[k]).farm.n⟩:Us)]) (World.alloc_heap_new wr _) 1)
        have K:Hid (ap.length+1<=1000000):=yb (by have h1:=Nv (x:=x) F;have h2:=A.o.short;have h3:=Q.o;have h4:=G.o;have h5:=FN (f:=EL (A2 L i) x.rots[i].turns) b7;have h6:=ec.o;rw[h6] at h5;rw[h3] at h1;rw[az.o,h4];simp only[yv,yn,yE] at h1 h5 ⊢;omega)
        have B:Hid (w.heap.size<=(wr.alloc (.cells #[pV b2 (o2+k*8),iV 5,iV 0] 89)).heap.size):=yb (yt m.o.size E.o.size)
        have a2:=yb (m.o.trans (E.o.mono m.o.size))
        go_wp2_with (first|(at_builtin;refine FO w.heap.size rfl _ _ rfl u6 ap rfl I.o (.slice (some (aV wr.heap.size 0)) 1 1) [(⟨b2,o2+k*8,5,0,(x.rots[i].turns[k]).farm.name,(x.rots[i].turns[k]).farm.n⟩:Us)] rfl H.o K.o B.o ?_;intro ad c w5 t M;have Z:=yb t;have V:=yb (Ee a2.o B.o I.o M);clear t M))
        exact ⟨⟨k+1,_,by omega,by push_cast;rfl,yb (by rw[az.o,Ai,ec.o];simp),V,Z⟩,by simp[intOf];omega⟩
       ·obtain rfl:k=(A2 L i).n:=by omega
        have ei:decide (((A2 L i).n:Int) < ((A2 L i).n:Int))=false:=by simp
        go_wp2
        exact ⟨⟨i+1,ap,by omega,by push_cast;rfl,yb (by rw[az.o,G.o,Rb,Q.o]),m,HOr⟩,by simp[intOf];omega⟩
     ·obtain rfl:i=L.rots.n:=by omega
      have bx:=(R.o wr m.o _ A.o.box).trans A.o.heads.box
      have hf:wr.cell? (aV L.s 24)=some (.slice L.rights.a L.rights.n L.rights.c):=(R.o wr m.o _ (A.o.src 24 (by omega) (by omega))).trans A.o.heads.rights
      have bb:L.rights.n<=140737488355328:=A.o.ok.rights.1
      go_wp2
      clear bx hf
      obtain ⟨fq,rfl⟩:∃z:World,z=wr:=⟨_,rfl⟩
      obtain ⟨fi,rfl⟩:∃z:Value,z=u6:=⟨_,rfl⟩
      go_loopw [6,115] (fun v6 iv wr=>∃(i:Nat) (us:List Us),i<=L.rights.n∧iv=iV i∧Hid (us=Lv L x i)∧Hid (Below w.heap.size w wr)∧Hid (CD w.heap.size wr v6 us)∧Hid (∀j (h:j < x.rights.length),j < i->GN x.rights[j].kind=true)) (fun _ iv _=>L.rights.n - (intOf iv).toNat)
      case atStart=>exact ⟨0,us,yH _,rfl,yb (by rw[G.o];simp[Lv]),m,HOr,yb (fun j _ hj=>by omega)⟩
      case round=>
       clear G m HOr
       obtain ⟨i,us,hi,rfl,G,m,HOr,HK⟩:=hrel
       by_cases F:i < L.rights.n
       ·obtain ⟨b,o,he,a7⟩:=A.o.ok.rights.get F
        have a0:i < x.rights.length:=by rw[<-A.o.nrights];exact F
        have bx:=(R.o wr m.o _ A.o.box).trans A.o.heads.box
        have hf:wr.cell? (aV L.s 24)=some (.slice L.rights.a L.rights.n L.rights.c):=(R.o wr m.o _ (A.o.src 24 (by omega) (by omega))).trans A.o.heads.rights
        have hr:=(R.o wr m.o _ (A.o.kind i a0).1).trans (A.o.kind i a0).2
        rw[a7,qj] at hr
        rw[he] at hf
        clear he
        have U:CG L.rights x.rights i=[⟨b,o+i*37+2,5,0,x.rights[i].farm.name,x.rights[i].farm.n⟩,⟨b,o+i*37+4,if x.rights[i].kind=1 then 0 else 4,0,x.rights[i].reach.name,x.rights[i].reach.n⟩]:=by
         unfold CG;rw[yk a0];simp[CO,a7]
        have av:(i:Int) < (L.rights.n:Int):=by omega
        have bj:Hid (GN x.rights[i].kind=true->∀j (h:j < x.rights.length),j < i+1->GN x.rights[j].kind=true):=yb (fun h j hj fk=>by
         rcases zQ j i with h9|h9
         ·exact HK.o j hj h9
         ·obtain rfl:j=i:=by omega
          exact h)
        have bg:Hid (GN x.rights[i].kind=false->BZ x=false):=yb (fun h=>by
         unfold BZ;rw[xj];exact ⟨_,yJ a0,by simp[h]⟩)
        by_cases P:GN x.rights[i].kind=true
        ·have dr:=yb (bj.o P)
         simp only[GN,yF,z7] at P
         obtain ⟨k1,k3⟩:=P
         by_cases al:x.rights[i].kind=1
         ·rw[yD al] at U
          have Q:=yb U
          clear U bj bg
          have f1:(x.rights[i].kind==1)=true:=by simpa using al
          have E:Hid (Below wr.heap.size wr (wr.drew.alloc (.cells #[pV b (o+i*37+2),iV 5,iV 0,pV b (o+i*37+4),iV 0,iV 0] 89))):=yb ((yg _ _).drew.alloc (yf _) _)
          have I:=yb (CD.up HOr.o E.o)
          have H:Hid (BI (wr.drew.alloc (.cells #[pV b (o+i*37+2),iV 5,iV 0,pV b (o+i*37+4),iV 0,iV 0] 89)) (.slice (some (aV wr.heap.size 0)) 2 2) 2 3 ([(⟨b,o+i*37+2,5,0,x.rights[i].farm.name,x.rights[i].farm.n⟩:Us),(⟨b,o+i*37+4,0,0,x.rights[i].reach.name,x.rights[i].reach.n⟩:Us)].flatMap AK)):=yb (Ge (us:=[(⟨b,o+i*37+2,5,0,x.rights[i].farm.name,x.rights[i].farm.n⟩:Us),(⟨b,o+i*37+4,0,0,x.rights[i].reach.name,x.rights[i].reach.n⟩:Us)]) (World.alloc_heap_new wr.drew _) 2)
          have K:Hid (us.length+2<=1000000):=yb (by have h1:=Nw (x:=x) F;have h2:=A.o.short;have h3:=Q.o;have h4:=G.o;rw[h3] at h1;rw[h4];simp only[yv,yE] at h1 ⊢;omega)
          have B:Hid (w.heap.size<=(wr.drew.alloc (.cells #[pV b (o+i*37+2),iV 5,iV 0,pV b (o+i*37+4),iV 0,iV 0] 89)).heap.size):=yb (yt m.o.size E.o.size)
          have a2:=yb (m.o.trans (E.o.mono m.o.size))
          go_wp2_with (first|(go_at_call 69;refine (Cp _ _).mono ?_;rintro e w6 ⟨rfl,cv⟩;obtain rfl:=cv.symm))
          go_region_held3 (fun _=>True) (trivial) (first|(refine Cx w.heap.size rfl _ _ rfl u6 us rfl I.o (.slice (some (aV wr.heap.size 0)) 2 2) [(⟨b,o+i*37+2,5,0,x.rights[i].farm.name,x.rights[i].farm.n⟩:Us),(⟨b,o+i*37+4,0,0,x.rights[i].reach.name,x.rights[i].reach.n⟩:Us)] rfl H.o K.o B.o ?_;intro ad c w5 t M;have Z:=yb t;have V:=yb (Ee a2.o B.o I.o M);clear t M))
          go_wp2
          exact ⟨⟨i+1,_,by omega,by push_cast;rfl,yb (by rw[G.o,M0,Q.o]),V,Z,dr⟩,by simp[intOf];omega⟩
         ·rw[yq al] at U
          have Q:=yb U
          clear U bj bg
          have f1:(x.rights[i].kind==1)=false:=by simpa using al
          have E:Hid (Below wr.heap.size wr (wr.drew.alloc (.cells #[pV b (o+i*37+2),iV 5,iV 0,pV b (o+i*37+4),iV 4,iV 0] 89))):=yb ((yg _ _).drew.alloc (yf _) _)
          have I:=yb (CD.up HOr.o E.o)
          have H:Hid (BI (wr.drew.alloc (.cells #[pV b (o+i*37+2),iV 5,iV 0,pV b (o+i*37+4),iV 4,iV 0] 89)) (.slice (some (aV wr.heap.size 0)) 2 2) 2 3 ([(⟨b,o+i*37+2,5,0,x.rights[i].farm.name,x.rights[i].farm.n⟩:Us),(⟨b,o+i*37+4,4,0,x.rights[i].reach.name,x.rights[i].reach.n⟩:Us)].flatMap AK)):=yb (Ge (us:=[(⟨b,o+i*37+2,5,0,x.rights[i].farm.name,x.rights[i].farm.n⟩:Us),(⟨b,o+i*37+4,4,0,x.rights[i].reach.name,x.rights[i].reach.n⟩:Us)]) (World.alloc_heap_new wr.drew _) 2)
          have K:Hid (us.length+2<=1000000):=yb (by have h1:=Nw (x:=x) F;have h2:=A.o.short;have h3:=Q.o;have h4:=G.o;rw[h3] at h1;rw[h4];simp only[yv,yE] at h1 ⊢;omega)
          have B:Hid (w.heap.size<=(wr.drew.alloc (.cells #[pV b (o+i*37+2),iV 5,iV 0,pV b (o+i*37+4),iV 4,iV 0] 89)).heap.size):=yb (yt m.o.size E.o.size)
          have a2:=yb (m.o.trans (E.o.mono m.o.size))
          go_wp2_with (first|(go_at_call 69;refine (Cp _ _).mono ?_;rintro e w6 ⟨rfl,cv⟩;obtain rfl:=cv.symm))
          go_region_held3 (fun _=>True) (trivial) (first|(refine Cx w.heap.size rfl _ _ rfl u6 us rfl I.o (.slice (some (aV wr.heap.size 0)) 2 2) [(⟨b,o+i*37+2,5,0,x.rights[i].farm.name,x.rights[i].farm.n⟩:Us),(⟨b,o+i*37+4,4,0,x.rights[i].reach.name,x.rights[i].reach.n⟩:Us)] rfl H.o K.o B.o ?_;intro ad c w5 t M;have Z:=yb t;have V:=yb (Ee a2.o B.o I.o M);clear t M))
          go_wp2
          exact ⟨⟨i+1,_,by omega,by push_cast;rfl,yb (by rw[G.o,M0,Q.o]),V,Z,dr⟩,by simp[intOf];omega⟩
        ·have fc:=yb (bg.o (by simpa using P))
         clear bg bj U
         have bw:Hid (∀W',Below w.heap.size w W'->∀ob,∃O,Jp (Er 170) O (W'.putObj Dd ob)):=yb (fun W' hW ob=>by
          have hX:=dp.o
          rw[fc.o] at hX
          have hj:=CC HJ.o e0.o hW
          refine ⟨_,(bm.o (Er 170)).put (s:=()) ?_ _ (cg.o (Er 170) (by rw[hX];rfl) _ W' (by rw[hX];simpa using hj))⟩
          exact .inl ⟨.inl dk.o,b0.o⟩)
         by_cases al:1<=x.rights[i].kind
         ·have ab:¬ x.rights[i].kind<=3:=fun h=>P (by simp[GN,al,h])
          clear P
          go_wp2_with (first|(go_at_call 69;refine (Cj _ _).mono ?_;rintro e w6 ⟨rfl,rfl⟩))
          exact ⟨by simp,.inl ⟨_,_,rfl,run_takeDeferred ((m.o.block Dd b0.o).trans cn.o),.inr ⟨_,rfl,bw.o _ m.o _⟩⟩⟩
         ·clear P
          go_wp2_with (first|(go_at_call 69;refine (Cj _ _).mono ?_;rintro e w6 ⟨rfl,rfl⟩))
          exact ⟨by simp,.inl ⟨_,_,rfl,run_takeDeferred ((m.o.block Dd b0.o).trans cn.o),.inr ⟨_,rfl,bw.o _ m.o _⟩⟩⟩
       ·obtain rfl:i=L.rights.n:=by omega
        have es:Hid (BZ x=true):=yb (by
         unfold BZ;rw[yU];intro d hd
         obtain ⟨j,hj,rfl⟩:=zg.1 hd
         exact HK.o j hj (by rw[A.o.nrights];exact hj))
        have bx:=(R.o wr m.o _ A.o.box).trans A.o.heads.box
        have hf:wr.cell? (aV L.s 25)=some (.slice L.duties.a L.duties.n L.duties.c):=(R.o wr m.o _ (A.o.src 25 (by omega) (by omega))).trans A.o.heads.duties
        have bb:L.duties.n<=140737488355328:=A.o.ok.duties.1
        go_wp2
        clear bx hf
        obtain ⟨fl,rfl⟩:∃z:World,z=wr:=⟨_,rfl⟩
        obtain ⟨fj,rfl⟩:∃z:Value,z=u6:=⟨_,rfl⟩
        go_loopw [6,160] (fun v6 iv wr=>∃(i:Nat) (us:List Us),i<=L.duties.n∧iv=iV i∧Hid (us=MA L x i)∧Hid (Below w.heap.size w wr)∧Hid (CD w.heap.size wr v6 us)) (fun _ iv _=>L.duties.n - (intOf iv).toNat)
        case atStart=>exact ⟨0,us,yH _,rfl,yb (by rw[G.o];simp[MA]),m,HOr⟩
        case round=>
         clear G m HOr
         obtain ⟨i,us,hi,rfl,G,m,HOr⟩:=hrel
         by_cases F:i < L.duties.n
         ·obtain ⟨b,o,he,a7⟩:=A.o.ok.duties.get F
          have a0:i < x.duties.length:=by rw[<-A.o.nduties];exact F
          have bx:=(R.o wr m.o _ A.o.box).trans A.o.heads.box
          have hf:wr.cell? (aV L.s 25)=some (.slice L.duties.a L.duties.n L.duties.c):=(R.o wr m.o _ (A.o.src 25 (by omega) (by omega))).trans A.o.heads.duties
          rw[he] at hf
          clear he
          have Q:Hid (DQ L.duties x.duties i=[⟨b,o+i*11+1,5,0,x.duties[i].farm.name,x.duties[i].farm.n⟩,⟨b,o+i*11+3,4,0,x.duties[i].reach.name,x.duties[i].reach.n⟩]):=yb (by
           unfold DQ;rw[yk a0];simp[CO,a7])
          have av:(i:Int) < (L.duties.n:Int):=by omega
          have E:Hid (Below wr.heap.size wr (wr.drew.alloc (.cells #[pV b (o+i*11+1),iV 5,iV 0,pV b (o+i*11+3),iV 4,iV 0] 89))):=yb ((yg _ _).drew.alloc (yf _) _)
          have I:=yb (CD.up HOr.o E.o)
          have H:Hid (BI (wr.drew.alloc (.cells #[pV b (o+i*11+1),iV 5,iV 0,pV b (o+i*11+3),iV 4,iV 0] 89)) (.slice (some (aV wr.heap.size 0)) 2 2) 2 3 ([(⟨b,o+i*11+1,5,0,x.duties[i].farm.name,x.duties[i].farm.n⟩:Us),(⟨b,o+i*11+3,4,0,x.duties[i].reach.name,x.duties[i].reach.n⟩:Us)].flatMap AK)):=yb (Ge (us:=[(⟨b,o+i*11+1,5,0,x.duties[i].farm.name,x.duties[i].farm.n⟩:Us),(⟨b,o+i*11+3,4,0,x.duties[i].reach.name,x.duties[i].reach.n⟩:Us)]) (World.alloc_heap_new wr.drew _) 2)
          have K:Hid (us.length+2<=1000000):=yb (by have h1:=Sv (x:=x) F;have h2:=A.o.short;have h3:=Q.o;have h4:=G.o;rw[h3] at h1;rw[h4];simp only[yv,yE] at h1 ⊢;omega)
          have B:Hid (w.heap.size<=(wr.drew.alloc (.cells #[pV b (o+i*11+1),iV 5,iV 0,pV b (o+i*11+3),iV 4,iV 0] 89)).heap.size):=yb (yt m.o.size E.o.size)
          have a2:=yb (m.o.trans (E.o.mono m.o.size))
          go_wp2_with fail
          go_region_held3 (fun _=>True) (trivial) (first|(refine Cx w.heap.size rfl _ _ rfl u6 us rfl I.o (.slice (some (aV wr.heap.size 0)) 2 2) [(⟨b,o+i*11+1,5,0,x.duties[i].farm.name,x.duties[i].farm.n⟩:Us),(⟨b,o+i*11+3,4,0,x.duties[i].reach.name,x.duties[i].reach.n⟩:Us)] rfl H.o K.o B.o ?_;intro ad c w5 t M;have Z:=yb t;have V:=yb (Ee a2.o B.o I.o M);clear t M))
          go_wp2
          exact ⟨⟨i+1,_,by omega,by push_cast;rfl,yb (by rw[G.o,Rc,Q.o]),V,Z⟩,by simp[intOf];omega⟩
         ·obtain rfl:i=L.duties.n:=by omega
          have ef:Hid (us=Cb L x):=yb (by rw[G.o];exact Ki L x)
          have d5:Hid (X=(K0++us,true)):=yb (by rw[dp.o,es.o,ef.o];rfl)
          have fo:us.length<=1000000:=by rw[ef.o];exact A.o.short
          obtain ⟨va,vc,rfl, -⟩:=TT HOr.o
          obtain ⟨wl,rfl⟩:∃z:World,z=wr:=⟨_,rfl⟩
          obtain ⟨O3,aq⟩:∃O3:NP,O3=fun b=>(Lt W.heap.size (W.heap.size+3) O b∧b < w.heap.size)∨(w.heap.size<=b∧b < wl.heap.size):=⟨_,rfl⟩
          have dv:J K0.length O3 wl:=by rw[aq];exact CC HJ.o e0.o m.o
          have T:∀b,O3 b->W.heap.size<=b∧b < wl.heap.size:=fun b hb=>by
           rw[aq] at hb
           rcases hb with hb|hb
           ·exact ⟨dt.o b hb.1,yu hb.2 m.o.size⟩
           ·have:=cj.o;omega
          have df:O3 Dd:=by rw[aq];exact .inl ⟨.inl dk.o,b0.o⟩
          have ee:O3 W.heap.size∧wl.cell? (aV W.heap.size 0)=some (.func (.yield l) #[] #[]):=by
           have h1:=cj.o
           refine ⟨by rw[aq];exact .inl ⟨.inr ⟨yf _,by omega⟩,by omega⟩,(m.o.cell (p:=(aV W.heap.size 0)) (by show W.heap.size < w.heap.size;omega)).trans cz.o.y⟩
          have eg:∀g,w.heap.size<=g->g < wl.heap.size->O3 g:=fun g h1 h2=>by rw[aq];exact .inr ⟨h1,h2⟩
          have ba:=yb ((m.o.block Dd b0.o).trans cn.o)
          have ct:=yb eg
          have ew:=yb dv
          have a8:=yb T
          have an:=yb df
          have cp:=yb ee
          clear aq dv T df ee eg
          go_wp2
          go_loopw [183] (fun iv wr=>∃i:Nat,i<=us.length∧iv=iV i∧Hid (J (K0.length+i) O3 wr)∧Hid (AO O3 wl wr)) (fun iv _=>us.length - (intOf iv).toNat)
          case atStart=>exact ⟨0,yH _,rfl,ew,yb (AO.refl _ _)⟩
          case round=>
           obtain ⟨i,hi,rfl,e6,ak⟩:=hrel
           by_cases F:i < us.length
           ·obtain ⟨g,c,hv,cy,cx,e4,c0,c1,c2⟩:=Su HOr.o F
            simp only[xW,qk] at hv
            obtain ⟨rfl,rfl⟩:=hv
            have d0:=CS ak.o (ct.o g cy cx) c0
            have d1:=CS ak.o (ct.o g cy cx) c1
            have d2:=CS ak.o (ct.o g cy cx) c2
            have P:K0.length+i < (X.1.map Us.v).length:=by rw[d5.o];simp;exact F
            have dc:(X.1.map Us.v)[K0.length+i]=us[i].v:=by
             rw[zE]
             have h1:X.1[K0.length+i]?=some us[i]:=by rw[d5.o];simp[yV,yk F]
             obtain ⟨h2,h3⟩:=yx.1 h1
             rw[h3]
            generalize us[i]=u at*
            have af:Below wr.heap.size wr (wr.alloc (.cells #[pV u.b u.o,iV u.to,iV u.at_] 89)):=(yg _ _).alloc (yf _) _
            have da:AO O3 wr (wr.alloc (.cells #[pV u.b u.o,iV u.to,iV u.at_] 89)):=⟨af.size,fun b hb=>af.block b (yu (a8.o b hb).2 ak.o.1)⟩
            have dd:J (K0.length+i) O3 (wr.alloc (.cells #[pV u.b u.o,iV u.to,iV u.at_] 89)):=HJ.o _ _ _ _ _ e6.o af.size af.os af.tape af.output (fun b _ hl=>af.block b hl) (fun b hb=>.inl hb)
            have am:=yb (ak.o.trans da)
            obtain ⟨fm,eq,d9,ek,hy,dj⟩:=aj.o (K0.length+i) P O3 _ dd (yt (by have:=(a8.o _ cp.o.1).2;omega) am.o.1) (fun b hb=>⟨(a8.o b hb).1,yu (a8.o b hb).2 am.o.1⟩)
            rw[dc] at hy
            unfold Us.v at hy
            have f4:=yb dj
            have q3:=CS am.o cp.o.1 cp.o.2
            have av:(i:Int) < (us.length:Int):=by omega
            have fe:=e4
            clear P dc dj af da dd c0 c1 c2 e4
            go_upto_region 47 with fail
            refine (xZ (n:=n)).1 ?_
            gi_wp2
            refine f4.o.mono ?_
            rintro e W6 (⟨rfl,hj,hs⟩|⟨rfl,hx,hs⟩|⟨ch,rfl,hp,hs⟩)
            ·have ep:=yb hj
             have b5:=yb (am.o.trans hs)
             clear hj hs hy q3 d0 d1 d2
             gi_wp2
             go_wp2
             exact ⟨⟨i+1,by omega,by push_cast;rfl,ep,b5⟩,by simp[intOf];omega⟩
            ·have f3:=yb hx
             have b5:=yb (am.o.trans hs)
             clear hx hs hy q3 d0 d1 d2
             gi_wp2
             go_wp2
             exact ⟨by simp,.inl ⟨_,_,rfl,run_takeDeferred ((b5.o.2 Dd an.o).trans ba.o),⟨_,zn rfl _ _ _,.inl ⟨⟨_,rfl⟩,.inr ⟨O3,cq.o.put (s:=()) an.o _ f3.o⟩⟩⟩⟩⟩
            ·have b5:=yb (am.o.trans hs)
             exact ⟨by simp,.inl ⟨_,_,rfl,run_takeDeferred ((b5.o.2 Dd an.o).trans ba.o),.inr ⟨ch,rfl,O3,(bm.o ch).put (s:=()) an.o _ hp⟩⟩⟩
           ·obtain rfl:i=us.length:=by omega
            have av:decide ((us.length:Int) < (us.length:Int))=false:=by simp
            have dm:Hid (X.2=true∧J X.1.length O3 wr):=yb (by rw[d5.o];exact ⟨rfl,by rw[yn];exact e6.o⟩)
            go_wp2
            exact ⟨by simp,.inl ⟨_,_,rfl,run_takeDeferred ((ak.o.2 Dd an.o).trans ba.o),⟨_,zn rfl _ _ _,.inl ⟨⟨_,rfl⟩,.inl ⟨by simp[dm.o.1],O3,HJ.o.put an.o _ dm.o.2⟩⟩⟩⟩⟩
 ·rintro D c O w hD ao ⟨rfl,hI⟩ ah
  gi_wp2
  refine ⟨by simp,.inl ⟨_,_,rfl,run_takeDeferred ah,⟨_,zn rfl _ _ _,.inl ⟨⟨_,rfl⟩,.inr ⟨Lt W.heap.size (W.heap.size+3) O,?_⟩⟩⟩⟩⟩
  exact cq.o.put (s:=()) (.inl ao) _ hI.j
 ·rintro D ch O w hD ao hI ah
  exact ⟨by simp,.inl ⟨_,_,rfl,run_takeDeferred ah,.inr ⟨ch,rfl,Lt W.heap.size (W.heap.size+3) O,(bm.o ch).put (s:=()) (.inl ao) _ hI.j⟩⟩⟩
end Go.Proofs.YtjofgpfocadomaaGreatDoor

/- The iterator over a source's references: the walk. -/
import Derived.Test.YtjofgpfocadomaaGreatDoorUc0
import Derived.Test.YtjofgpfocadomaaGreatDoorUc3
import Derived.Deep.RegionHeld3
set_option maxRecDepth 100000
set_option maxHeartbeats 16000000
set_option linter.unusedSimpArgs false
namespace Go.Proofs.YtjofgpfocadomaaGreatDoor
open Go.RowKit
attribute [local go_sem] Oper.semAt_some
def M9(B0 B1:Nat)(O:NP)(b:Nat):Prop:=O b∨(B0<=b∧b < B1)
structure TB (l By Bi Bs s:Nat) (W:World):Prop where
 y:W.cell? ⟨By,0,none⟩=some (.func (.yield l) #[] #[])
 i:W.cell? ⟨Bi,0,none⟩=some (.func (.func 71) #[] #[.pointer (some ⟨By,0,none⟩),.pointer (some ⟨Bi,0,none⟩)])
 s:W.cell? ⟨Bs,0,none⟩=some (.pointer (some ⟨s,0,none⟩))
theorem TB.same{l By Bi Bs s:Nat}{W W':World}(h:TB l By Bi Bs s W)(h1:W'.heap[By]?=W.heap[By]?)(h2:W'.heap[Bi]?=W.heap[Bi]?)(h3:W'.heap[Bs]?=W.heap[Bs]?):TB l By Bi Bs s W':=by
 obtain ⟨a,b,c⟩:=h
 unfold World.cell? at a b c
 exact ⟨by unfold World.cell?;rw[h1];exact a,by unfold World.cell?;rw[h2];exact b,by unfold World.cell?;rw[h3];exact c⟩
structure FU {β:Type} (J:β->(Nat->Prop)->World->Prop) (B0 B1 l By Bi Bs s:Nat) (p:β->Prop) (k:β) (O:Nat->Prop) (W:World):Prop where
 j:J k (M9 B0 B1 O) W
 own:∀b,O b->B1<=b
 size:B1<=W.heap.size
 box:TB l By Bi Bs s W
 p:p k
section
variable{β:Type}{J:β->NP->World->Prop}{B0 B1 l By Bi Bs s:Nat}{p:β->Prop}
theorem FU.stays(o:Cd J)(d:(B0<=By∧By < B1)∧(B0<=Bi∧Bi < B1)∧(B0<=Bs∧Bs < B1)):Cd (FU J B0 B1 l By Bi Bs s p):=by
 intro k O W r W' h f m q n i g
 have c:∀b,b < B1->W'.heap[b]?=W.heap[b]?:=fun b hb=>i b (fun a=>by have:=h.own b a;omega) (yt hb h.size)
 refine ⟨o k _ W _ W' h.j f m q n (fun b hb e=>i b (fun a=>hb (.inl a)) e) (fun b hb=>?_),fun b hb=>?_,yu h.size f,h.box.same (c _ d.1.2) (c _ d.2.1.2) (c _ d.2.2.2),h.p⟩
 ·rcases hb with hb|hb
  ·rcases g b hb with h1|h1
   ·exact .inl (.inl h1)
   ·exact .inr h1
  ·exact .inl (.inr hb)
 ·rcases g b hb with h1|h1
  ·exact h.own b h1
  ·have:=h.size;omega
end
theorem IS.at{N:NP}{b W:World}{C D:Addr->Prop}{Bu Bs:Nat}{L:Bt}{x:Ar}(a:KP N b C D Bu L x)(hd:Xp b C D W)(hb:W.cell? ⟨Bs,0,none⟩=some (.pointer (some ⟨L.s,0,none⟩))):IS L Bs W:=
 ⟨hb,(hd.1 _ (a.src 19 (by omega) (by omega))).trans a.heads.lets,(hd.1 _ (a.src 20 (by omega) (by omega))).trans a.heads.crops,(hd.1 _ (a.src 21 (by omega) (by omega))).trans a.heads.reaches,(hd.1 _ (a.src 22 (by omega) (by omega))).trans a.heads.farms,
  (hd.1 _ (a.src 23 (by omega) (by omega))).trans a.heads.rots,(hd.1 _ (a.src 24 (by omega) (by omega))).trans a.heads.rights,(hd.1 _ (a.src 25 (by omega) (by omega))).trans a.heads.duties,fun i hi=>(hd.1 _ (a.turns i hi)).trans (a.heads.turns i hi)⟩
theorem CM.up{B:Nat}{w w':World}{v:Value}{us:List Us}(h:CM B w v us)(hb:Below w.heap.size w w'):CM B w' v us:=by
 obtain ⟨h1,h2⟩:=h
 refine ⟨h1,h2.imp id ?_⟩
 rintro ⟨g,cap,a,h3,d,b,c⟩
 exact ⟨g,cap,a,h3,d,(hb.block g (yd.1 b).1).trans b,c⟩
theorem En{B:Nat}{c w w':World}{v:Value}{us:List Us}(f:Below B c w)(i:B<=w.heap.size)(d:CM B w v us)(a:w.grownBy w' v.ownBlock):Below B c w':=by
 refine f.trans ⟨a.os,a.tape,a.output,a.size,fun b hb=>a.block b (by omega) (fun e=>?_)⟩
 rcases d.2 with ⟨rfl,_⟩|⟨g,cap,h,rfl,j,_⟩
 ·cases e
 ·simp only[Value.ownBlock,yZ] at e
  omega
theorem TC{B:Nat}{w:World}{v:Value}{us:List Us}(h:CM B w v us){i:Nat}(hi:i < us.length):
  ∃g c,v=.slice (some ⟨g,0,none⟩) us.length c∧B<=g∧g < w.heap.size∧us.length<=maxLen∧w.cell? ⟨g,i*3,none⟩=some (.pointer (some ⟨us[i].b,us[i].o,none⟩))∧w.cell? ⟨g,i*3+1,none⟩=some (.int .i64 us[i].to)∧w.cell? ⟨g,i*3+2,none⟩=some (.int .i64 us[i].at_):=by
 obtain ⟨h1,⟨rfl,h2⟩|⟨g,cap,p,rfl,s,k,A,y,z,l⟩⟩:=h
 ·omega
 ·have f:∀j u,(us.flatMap AL)[j]?=some u->w.cell? (aV g j)=some u:=by
   intro j u a
   rw[<-l] at a
   have d:=(yx.1 a).1
   rw[zg] at d
   rw[xg,yw (by omega)] at a
   simp only[World.cell?,k]
   simpa using a
  have n:∀(us:List Us) (i:Nat) (hi:i < us.length),(us.flatMap AL)[i*3]?=some (.pointer (some ⟨us[i].b,us[i].o,none⟩))∧(us.flatMap AL)[i*3+1]?=some (iV us[i].to)∧(us.flatMap AL)[i*3+2]?=some (iV us[i].at_):=by
   intro us
   induction us with
   |nil=>intro i hi;simp at hi
   |cons x r ih=>
    intro i hi
    cases i with
    |zero=>exact ⟨rfl,rfl,rfl⟩
    |succ i=>
     have:=ih i (by simpa using hi)
     have e:((x::r).flatMap AL)=AL x++r.flatMap AL:=rfl
     rw[e,yN (by simp[AL];omega),yN (by simp[AL];omega),yN (by simp[AL];omega)]
     have m:(AL x).length=3:=rfl
     rw[m,show (i+1)*3 - 3=i*3 by omega,show (i+1)*3+1 - 3=i*3+1 by omega,show (i+1)*3+2 - 3=i*3+2 by omega]
     exact this
  obtain ⟨t,g1,q⟩:=n us i hi
  exact ⟨g,cap,rfl,s,(yd.1 k).1,by omega,f _ _ t,f _ _ g1,f _ _ q⟩
theorem Va{B:Nat}{w:World}{v:Value}{us:List Us}(h:CM B w v us):∃a c,v=.slice a us.length c∧us.length<=maxLen:=by
 obtain ⟨h1,⟨rfl,h2⟩|⟨g,cap,b,rfl,f,e,k,i,j,d⟩⟩:=h
 ·exact ⟨none,0,by rw[h2],by rw[h2];exact yI _⟩
 ·exact ⟨_,_,rfl,by omega⟩
theorem G5{f:Nat->List Us}{n i:Nat}(h:i < n):((List.range i).flatMap f).length+(f i).length<=((List.range n).flatMap f).length:=by
 obtain ⟨post,a⟩:=BC f h
 rw[a];simp only[yn];omega
theorem G6{ops:Array Oper}{rest:List Oper}{o:Oper}{a:Act}{Q:QT}{W:World}(B:Nat)(f:o.guard=none)(s x:Operand)(j:o.op=.call {callee:=.builtin .append,args:=#[s,x],argTypes:=#[154,154]})
 (v:Value)(us:List Us)(hs:a.eval s=v)(e:CM B W v us)(X:Value)(d:List Us)(m:a.eval x=X)(k:BL W X d.length 3 (d.flatMap AL))(g:us.length+d.length<=1000000)(b:B<=W.heap.size)
 (h:∀(i:Option Addr) (c:Nat) w',CM B w' (.slice i (us.length+d.length) c) (us++d)->W.grownBy w' v.ownBlock->wpList Tryz.prog ops Q rest (a.put o.dst (.slice i (us.length+d.length) c)) w'):wpList Tryz.prog ops Q (o::rest) a W:=
 zB f fun _ l=>Nk B f s x j v us hs e X d m k g b (fun i c w' h1 h2=>l _ _ (h i c w' h1 h2))
def Sk(L:Bt)(x:Ar)(i:Nat):List Us:=(List.range i).flatMap (Ef L.farms x.farms)
def Ma(L:Bt)(x:Ar)(i:Nat):List Us:=Sk L x L.farms.n++(List.range i).flatMap (Gu L x.rots)
def Mb(L:Bt)(x:Ar)(i:Nat):List Us:=Ma L x L.rots.n++(List.range i).flatMap (CP L.rights x.rights)
def Np(L:Bt)(x:Ar)(i:Nat):List Us:=Mb L x L.rights.n++(List.range i).flatMap (DZ L.duties x.duties)
theorem KR(L:Bt)(x:Ar):Np L x L.duties.n=Ce L x:=rfl
theorem MA(L:Bt)(x:Ar)(i:Nat):Sk L x (i+1)=Sk L x i++Ef L.farms x.farms i:=Ak _ i
theorem Sl(L:Bt)(x:Ar)(i:Nat):Ma L x (i+1)=Ma L x i++Gu L x.rots i:=by unfold Ma;rw[Ak,yG]
theorem MB(L:Bt)(x:Ar)(i:Nat):Mb L x (i+1)=Mb L x i++CP L.rights x.rights i:=by unfold Mb;rw[Ak,yG]
theorem Sm(L:Bt)(x:Ar)(i:Nat):Np L x (i+1)=Np L x i++DZ L.duties x.duties i:=by unfold Np;rw[Ak,yG]
theorem Rn(L:Bt)(x:Ar):(Mb L x L.rights.n).length<=(Ce L x).length:=by rw[<-KR];unfold Np;simp
theorem Ro(L:Bt)(x:Ar):(Ma L x L.rots.n).length<=(Ce L x).length:=yu (by unfold Mb;simp) (Rn L x)
theorem Vb(L:Bt)(x:Ar):(Sk L x L.farms.n).length<=(Ce L x).length:=yu (by unfold Ma;simp) (Ro L x)
theorem Oi{L:Bt}{x:Ar}{i:Nat}(h:i < L.farms.n):(Sk L x i).length+(Ef L.farms x.farms i).length<=(Ce L x).length:=yu (G5 h) (Vb L x)
theorem Oj{L:Bt}{x:Ar}{i:Nat}(h:i < L.rots.n):(Ma L x i).length+(Gu L x.rots i).length<=(Ce L x).length:=yu (by have:=G5 (f:=Gu L x.rots) h;unfold Ma;simp only[yn];omega) (Ro L x)
theorem Ol{L:Bt}{x:Ar}{i:Nat}(h:i < L.rights.n):(Mb L x i).length+(CP L.rights x.rights i).length<=(Ce L x).length:=yu (by have:=G5 (f:=CP L.rights x.rights) h;unfold Mb;simp only[yn];omega) (Rn L x)
theorem TD{L:Bt}{x:Ar}{i:Nat}(h:i < L.duties.n):(Np L x i).length+(DZ L.duties x.duties i).length<=(Ce L x).length:=by
 have:=G5 (f:=DZ L.duties x.duties) h
 rw[<-KR];unfold Np;simp only[yn];omega
theorem Vc{w:World}{C:Addr->Prop}{e:Ex}{b o:Nat}(h:Sg w C e b o):C ⟨b,o,none⟩∧C ⟨b,o+5,none⟩:=by
 cases e
 rw[Sg] at h
 obtain ⟨_,_,h1,h2,_⟩:=h
 exact ⟨h1.2,h2.2⟩
theorem Vd{e:Ex}{z:Int}(h:e.op=0->z=e.ri):DC e.op e.n e.u e.rn z e.args.length=Bv e:=by
 unfold Bv
 by_cases h0:e.op=0
 ·rw[h h0]
 ·simp[DC,h0]
theorem KS(n:Nat)(hn:1<=n){N:NP}{w0:World}{C D:Addr->Prop}{Bu:Nat}{L:Bt}{x:Ar}(hU:KP N w0 C D Bu L x):
  V7 Fence.wide n Tryz.prog 70 #[.pointer (some ⟨Bu,0,none⟩)] (Xp w0 C D) ((BS w0 L x).1.map Us.v) (if (BS w0 L x).2 then none else some (ED 170)):=by
 intro l J Jx Jp W hJ da e5 cp ck a6 a8 h0
 have f0:∀(fn:Fn) (first cap:Array Value) (w:World),(Instr.makeFunc fn first cap).run Tryz.prog w=.ok (.func fn first cap) w:=fun _ _ _ _=>rfl
 obtain ⟨X,hX⟩:∃X,X=BS w0 L x:=⟨_,rfl⟩
 rw[<-hX] at a6 a8 ⊢
 have A:=yb hU
 have HX:=yb hX
 have H0:=yb h0
 have HJ:=yb hJ
 have cr:=yb da
 have bd:=yb e5
 have bq:=yb cp
 have bz:=yb ck
 have cf:=yb a6
 have ai:=yb a8
 have cB:=((cp _ _ _ h0).1 _ hU.box).trans hU.heads.box
 have ey:=yb (yP W _ cB)
 have dB:∀(o o':Obj),((W.alloc o).alloc o').cell? (aV Bu 0)=some (pV L.s 0):=fun o o'=>((((yg W.heap.size W).alloc (yf _) o).alloc (by simp) o').cell (p:=(aV Bu 0)) ey.o).trans cB
 clear hU hX h0 hJ da e5 cp ck a6 a8 cB
 refine yY.2 (Bg (n:=10) Tryz.func70 rfl ?_)
 simp only[Tryz.ntmps70,yM,yz,yH,Nat.reduceAdd,Nat.reduceSub,zD,zE,zR,zK,yQ,yK]
 iterate 3
  refine A9 (A4 ?_)
  go_wp2
 refine A9 (A9 (A4 ?_))
 go_wp2_with (first|(go_at_call 72;refine (EX _ _).mono ?_;rintro e w2 ⟨rfl,rfl⟩))
 have bv:Below W.heap.size W (((W.alloc (.cells #[.func (.yield l) #[] #[]] 148)).alloc (.cells #[.func (.func 71) #[] #[pV W.heap.size 0,pV (W.heap.size+1) 0]] 149)).alloc (.cells #[pV L.s 0] 85)):=(((yg _ _).alloc (yf _) _).alloc (by simp) _).alloc (by simp;omega) _
 have c8:TB l W.heap.size (W.heap.size+1) (W.heap.size+1+1) L.s (((W.alloc (.cells #[.func (.yield l) #[] #[]] 148)).alloc (.cells #[.func (.func 71) #[] #[pV W.heap.size 0,pV (W.heap.size+1) 0]] 149)).alloc (.cells #[pV L.s 0] 85)):=by
  refine ⟨?_,?_,?_⟩
  ·refine qn _ (qn _ ?_)
   have:=World.alloc_heap_new W (.cells #[.func (.yield l) #[] #[]] 148)
   simp only[World.cell?,this];simp
  ·refine qn _ ?_
   have:=World.alloc_heap_new (W.alloc (.cells #[.func (.yield l) #[] #[]] 148)) (.cells #[.func (.func 71) #[] #[pV W.heap.size 0,pV (W.heap.size+1) 0]] 149)
   rw[z6] at this
   simp only[World.cell?,this];simp
  ·have:=World.alloc_heap_new ((W.alloc (.cells #[.func (.yield l) #[] #[]] 148)).alloc (.cells #[.func (.func 71) #[] #[pV W.heap.size 0,pV (W.heap.size+1) 0]] 149)) (.cells #[pV L.s 0] 85)
   rw[z6,z6] at this
   simp only[World.cell?,this];simp
 have bu:(((W.alloc (.cells #[.func (.yield l) #[] #[]] 148)).alloc (.cells #[.func (.func 71) #[] #[pV W.heap.size 0,pV (W.heap.size+1) 0]] 149)).alloc (.cells #[pV L.s 0] 85)).heap.size=W.heap.size+3:=by simp
 have bo:=yb bv
 have ep:=yb c8
 have dg:=yb bu
 clear bv c8 bu dB f0
 generalize ((W.alloc (.cells #[.func (.yield l) #[] #[]] 148)).alloc (.cells #[.func (.func 71) #[] #[pV W.heap.size 0,pV (W.heap.size+1) 0]] 149)).alloc (.cells #[pV L.s 0] 85)=W1 at*
 obtain ⟨q,Y⟩:∃q,q=El w0 L x:=⟨_,rfl⟩
 have e6:q.length=(BK L).length+1:=by rw[Y];unfold El;rw[yn,EW A.o];rfl
 have e9:∀k (P:k < (BK L).length) (ae:k < (As x).length) (ag:k < q.length),q[k]=Cp w0 (BK L)[k] (As x)[k]:=by
  intro k P ae ag
  apply yi
  rw[<-yk ag,Y]
  unfold El
  rw[zk (by rw[EW A.o];exact P)]
  unfold DE
  rw[List.getElem?_zipWith,yk P,yk ae]
 have bm:Hid (X=BE q):=yb (by rw[HX.o,Y];rfl)
 have f8:=yb e6
 have et:=yb e9
 have dd:=yb Y
 have dy:Hid (Cd (fun k=>J (BE (q.take k)).1.length)):=yb (fun k O W O' W' h hz ho ht hu P hO=>HJ.o _ O W O' W' h hz ho ht hu P hO)
 have dp:(W.heap.size<=W.heap.size∧W.heap.size < W.heap.size+3)∧(W.heap.size<=W.heap.size+1∧W.heap.size+1 < W.heap.size+3)∧(W.heap.size<=W.heap.size+1+1∧W.heap.size+1+1 < W.heap.size+3):=by omega
 have b7:=yb dp
 clear e6 e9 Y dp
 refine De ?_
 refine CK (n:=10) Tryz.func70 rfl (fun _ _=>rfl) (KQ 9 (by omega) (W.heap.size+1+1) L A.o.ok) (fun a ha=>by
   obtain ⟨i,hi,rfl⟩:=zc.1 ha
   obtain ⟨b,o,c,h1,_⟩:=A.o.top.get i hi (by rw[<-A.o.top.length];exact hi)
   rw[h1];rfl)
  (FU (fun k=>J (BE (q.take k)).1.length) W.heap.size (W.heap.size+3) l W.heap.size (W.heap.size+1) (W.heap.size+1+1) L.s (fun k=>(BE (q.take k)).2=true))
  (fun c O w=>c=.ret∧FU (fun (_:Unit)=>Jx) W.heap.size (W.heap.size+3) l W.heap.size (W.heap.size+1) (W.heap.size+1+1) L.s (fun _=>True) () O w)
  (fun ch=>FU (fun (_:Unit)=>Jp ch) W.heap.size (W.heap.size+3) l W.heap.size (W.heap.size+1) (W.heap.size+1+1) L.s (fun _=>True) ())
  (fun k a=>FU (fun k=>J (BE (q.take k)).1.length) W.heap.size (W.heap.size+3) l W.heap.size (W.heap.size+1) (W.heap.size+1+1) L.s (fun k=>(BE (q.take k)).2=true∧∃(b o:Nat) (lt:Int) (P:k < (BK L).length),(BK L)[k]'P=#[pV b o,iV lt]∧a={tmps:=#[.func (.yield l) #[] #[],pV Bu 0,pV W.heap.size 0,pV (W.heap.size+1) 0,pV b o,iV lt,undef,undef,undef,undef,undef,undef,undef,undef,undef,undef,undef,undef,undef,undef,.func (.func 71) #[] #[pV W.heap.size 0,pV (W.heap.size+1) 0],pV L.s 0,.func (.func 92) #[] #[pV (W.heap.size+1+1) 0],pV b o,iV lt,undef,undef,undef,undef,undef,undef,undef,undef,undef,undef,undef,undef,undef,undef,undef,undef,undef,undef,undef,undef,undef,undef,undef,undef,undef,undef,undef,undef,undef,undef,undef,undef,undef,undef,undef,undef,undef,undef,undef,undef,undef,undef,undef,undef,undef,undef,undef,undef,undef,undef,undef,undef,undef,undef,undef,undef,undef,undef,undef,undef,undef,undef,undef,undef,undef,undef,undef,undef,undef,undef,undef,undef,undef,undef,undef,undef,undef,undef,undef,undef,undef,undef,undef,undef,undef,undef,undef,undef,undef,undef,undef,undef,undef,undef,undef,undef,undef,undef,undef,undef,undef,undef,undef,undef,undef,undef,undef,undef,undef,undef,undef,undef,undef,undef,undef,undef,undef,undef,undef,undef,undef,undef,undef,undef,undef,undef,undef,undef,undef,undef,undef,undef,undef,undef,undef,undef,undef,undef,undef,undef,undef,undef,undef,undef,undef,undef,undef,undef,undef,undef,undef,undef,undef,undef,undef,undef,undef,undef,undef,undef,undef,undef,undef,undef,undef,undef,undef],defers:=[]}) k)
  ?_ ?_ ?_ ?_ ?_ ?_ (fun _ h=>by cases h) ?_ ?_ ?_ ?_ ?_ ?_
 ·exact FU.stays dy.o b7.o
 ·rintro c _ O w O' w' ⟨h1,h2⟩ hz ho ht hu P hO
  exact ⟨h1,FU.stays cr.o b7.o () O w O' w' h2 hz ho ht hu P hO⟩
 ·exact fun ch _ O w O' w' h hz ho ht hu P hO=>FU.stays (bd.o ch) b7.o () O w O' w' h hz ho ht hu P hO
 ·exact fun a=>FU.stays dy.o b7.o
 ·exact fun k O w h=>IS.at A.o (bq.o _ _ _ h.j) h.box.s
 ·exact fun c O w h=>IS.at A.o (bz.o _ _ h.2.j) h.2.box.s
 ·refine ⟨HJ.o 0 _ W _ W1 H0.o (by rw[dg.o];omega) bo.o.os bo.o.tape bo.o.output (fun b _ F=>bo.o.block b F) (fun b hb=>?_),fun _ h=>h.elim,by rw[dg.o];omega,ep.o,rfl⟩
  rcases hb with hb|hb
  ·exact hb.elim
  ·exact .inr hb.1
 ·intro k P O w lo hI hO hl _
  obtain ⟨b,o,fv,h1,_⟩:=A.o.top.get k P (by rw[<-A.o.top.length];exact P)
  have ae:k < (As x).length:=by rw[<-A.o.top.length];exact P
  rw[h1]
  generalize ((As x)[k]'ae).2=lt at h1
  have HI:=yb hI
  have HE:=yb h1
  clear hI hO hl h1
  gi_wp2
  first
  |exact ⟨AN.refl _ _,HI.o.j,HI.o.own,HI.o.size,HI.o.box,HI.o.p,b,o,lt,P,HE.o,rfl⟩
  |(rename_i hK;exact hK _ _ ⟨AN.refl _ _,HI.o.j,HI.o.own,HI.o.size,HI.o.box,HI.o.p,b,o,lt,P,HE.o,rfl⟩)
  |(rename_i hK _;exact hK _ _ ⟨AN.refl _ _,HI.o.j,HI.o.own,HI.o.size,HI.o.box,HI.o.p,b,o,lt,P,HE.o,rfl⟩)
  |fail
 ·rintro k P O w lo a1 hl dj co ⟨hj,a6,dn,af,hp,b,o,lt,ff,hx,rfl⟩
  obtain ⟨b',o',cs,h1,h2,h3,h4,h5,h6,h7,h8,h9⟩:=A.o.top.get k P (by rw[<-A.o.top.length];exact P)
  rw[hx] at h1
  have ae:k < (As x).length:=by rw[<-A.o.top.length];exact P
  have ag:k < q.length:=by rw[f8.o];omega
  have bt:=et.o k P ae ag
  have b0:=A.o.few _ (yJ ae)
  rcases dr:(As x)[k] with ⟨ex,fp⟩
  simp only[dr] at h1 h3 h4 h9 bt b0
  simp only[qB,xO,xX,yZ,qE,Value.int.injEq,qv,and_true] at h1
  obtain ⟨⟨rfl,rfl⟩,rfl⟩:=h1
  obtain ⟨ea,fi,rfl,e1,e2,e3⟩:=h3.cells
  obtain ⟨r0,r1,r2,r3,r4,r5⟩:=Br h2
  have ab:=bq.o _ _ _ hj
  have hC:=Vc h4
  have c0:=(ab.1 _ hC.1).trans r0
  have c1:=(ab.1 _ h5).trans r1
  have c2:=(ab.1 _ h6).trans r2
  have c3:=(ab.1 _ h7).trans r3
  obtain ⟨z,c4⟩:=ab.2 _ h8
  have c5:=(ab.1 _ hC.2).trans r5
  have b5:DC ex.op ex.n ex.u ex.rn z ex.args.length=Bv ex:=Vd (fun h0=>by
   have:=(ab.1 _ (h9 h0)).symm.trans c4
   rw[r4] at this
   simp only[yZ,Value.int.injEq,qv] at this
   exact this.symm)
  have b8:=yb b5
  have cq:Jo J (M9 W.heap.size (W.heap.size+3) O) W.heap.size l W.heap.size (W.heap.size+1) (BE (q.take k)).1.length w:=⟨hj,by omega,fun b hb=>hb.elim (co b) (fun h=>by omega),⟨.inr (by omega),af.y⟩,⟨.inr (by omega),af.i⟩⟩
  have bk:=yb cq
  have cd:VZ n l W.heap.size (W.heap.size+1) W.heap.size (M9 W.heap.size (W.heap.size+3) O) X.1 w0 C J Jx Jp:=⟨HJ.o,fun k O W h=>(bq.o k O W h).1,fun O W h=>(bz.o O W h).1,fun k P W' hs=>by
   have:=ai.o k (by simpa using P) _ W' hs.j hs.size (fun b hb=>⟨hb.elim (fun h=>by have:=a6 b h;omega) (fun h=>h.1),hs.own b hb⟩)
   rw[zH] at this
   exact this⟩
  have bw:Bv ex=true->BE (q.take (k+1))=((BE (q.take k)).1++[],true):=fun hl=>by
   rw[My ag hp,bt];simp[Cp,hl]
  have c9:Bv ex=false->q[k]=C9 w0 lt ex b o:=fun hl=>by
   rw[bt];simp[Cp,hl,hx,TA]
  have ce:=yb bw
  have au:Bv ex=false->BE (q.take (k+1))=((BE (q.take k)).1++(C9 w0 lt ex b o).1,(C9 w0 lt ex b o).2):=fun hl=>by
   rw[My ag hp,c9 hl]
  have eg:=yb au
  have aw:Bv ex=false->∀w3,Below w.heap.size w w3->Calls Tryz.prog 71 #[pV b o,iV lt,pV W.heap.size 0,pV (W.heap.size+1) 0] w3
    (Oh J Jx Jp (M9 W.heap.size (W.heap.size+3) O) ((BE (q.take k)).1.length+(C9 w0 lt ex b o).1.length) (C9 w0 lt ex b o).2 w3):=fun hl w3 U=>by
   refine Q3 n hn l W.heap.size (W.heap.size+1) W.heap.size lt b0 (M9 W.heap.size (W.heap.size+3) O) X.1 w0 C J Jx Jp cd ex b o (BE (q.take k)).1 w3 (cq.below HJ.o U) h4 ?_ ?_
   ·obtain ⟨post,av⟩:=Tz q (k+1)
    rw[au hl] at av
    exact ⟨post,by rw[bm.o,av];simp⟩
   ·intro hf W' f5
    have cu:=Sj (l:=q) (k:=k+1) (by rw[au hl];exact hf)
    rw[au hl] at cu
    refine cf.o (ED 170) (by rw[bm.o,cu];simp[hf]) _ W' ?_
    rw[bm.o,cu]
    simpa using f5
  have cn:=yb aw
  have be:=yb a6
  have aj:=yb af
  have B:=yb dn
  have bi:=af.i
  have eo:=yb (yP w _ bi)
  have ek:=yb co
  have HP:=yb hp
  have fg:=e1
  clear h2 h3 h4 h5 h6 h7 h8 h9 e2 e3 r0 r1 r2 r3 r4 r5 ab hC b5 cq cd bw au aw a6 af dn co hp bt c9 hj hx dr hl dj ff ae ag b0 e1
  generalize ex.args.length=em at*
  generalize es:Bv ex=LE at*
  clear es
  cases LE with
  |true=>
   gi_wp2_with fail
   refine ⟨trivial,zm (CallsIn.inRound lo (yY.2 (JS _ _ _ _ _ _ _ _ _))) ?_⟩
   rintro e w3 ⟨rfl,U⟩
   rw[b8.o]
   gi_wp2_with fail
   repeat (refine ⟨fun _ h=>(by cases h),?_⟩;gi_wp2_with fail)
   refine ⟨⟨U.size,fun b hb=>U.block b (ek.o b hb)⟩,?_,be.o,yu B.o U.size,?_,?_⟩
   ·have:=(bk.o.below HJ.o U).j
    rw[ce.o (by simp),yU];exact this
   ·have hB:=b7.o
    exact aj.o.same (U.block _ (by have:=B.o;omega)) (U.block _ (by have:=B.o;omega)) (U.block _ (by have:=B.o;omega))
   ·rw[ce.o (by simp)]
  |false=>
   gi_wp2_with fail
   refine ⟨trivial,zm (CallsIn.inRound lo (yY.2 (JS _ _ _ _ _ _ _ _ _))) ?_⟩
   rintro e w3 ⟨rfl,U⟩
   rw[b8.o]
   have e7:=(U.cell (p:=(aV (W.heap.size+1) 0)) eo.o).trans bi
   have aa:=yb U
   clear U
   gi_wp2_with fail
   refine ⟨trivial,zm (CallsIn.inRound lo (yY.2 (cn.o (by simp) w3 aa.o))) ?_⟩
   rintro e w4 (⟨r,rfl,an,(⟨rfl,ec,e4⟩|⟨rfl,d7⟩)⟩|⟨ch,rfl,f7,an⟩)
   ·have R:=yb ((bk.o.sameBelow aa.o).trans an)
    have eq:=yb e4
    have ez:=yb ec
    clear an e4 ec bi e7
    gi_wp2_with fail
    refine ⟨R.o.sub (fun b hb=>.inl hb),?_,be.o,yu B.o R.o.1,?_,?_⟩
    ·rw[eg.o (by simp)]
     simp only[yn]
     exact eq.o
    ·exact aj.o.same (R.o.2 _ (.inr (by omega))) (R.o.2 _ (.inr (by omega))) (R.o.2 _ (.inr (by omega)))
    ·rw[eg.o (by simp)];exact ez.o
   ·have R:=yb ((bk.o.sameBelow aa.o).trans an)
    have f2:=yb d7
    clear an d7 bi e7
    gi_wp2_with fail
    exact ⟨R.o.sub (fun b hb=>.inl hb),rfl,f2.o,be.o,yu B.o R.o.1,aj.o.same (R.o.2 _ (.inr (by omega))) (R.o.2 _ (.inr (by omega))) (R.o.2 _ (.inr (by omega))),trivial⟩
   ·have R:=yb ((bk.o.sameBelow aa.o).trans an)
    exact ⟨rfl,R.o.sub (fun b hb=>.inl hb),f7,be.o,yu B.o R.o.1,aj.o.same (R.o.2 _ (.inr (by omega))) (R.o.2 _ (.inr (by omega))) (R.o.2 _ (.inr (by omega))),trivial⟩
 ·rintro - Dd O w hD ak hI ah
  have hT:(DE w0 L x).length=(BK L).length:=EW A.o
  have di:q.take (BK L).length=DE w0 L x:=by rw[dd.o];unfold El;rw[<-hT,List.take_left'];rfl
  have d3:=hI.p
  have bh:=hI.j
  simp only[di] at d3 bh
  obtain ⟨K0,ct⟩:∃K0,K0=(BE (DE w0 L x)).1:=⟨_,rfl⟩
  have dz:X=(K0++(if Ca x then Ce L x else []),Ca x):=by
   rw[bm.o,dd.o];unfold El
   rw[EI,d3,yw rfl,ct]
   simp only[BE]
   cases Ca x<;>simp
  rw[<-ct] at bh
  have cy:J K0.length (fun b=>M9 W.heap.size (W.heap.size+3) O b∧b < w.heap.size) w:=HJ.o _ _ _ _ _ bh (yf _) rfl rfl rfl (fun _ _ _=>rfl) (fun b hb=>.inl hb.1)
  have dl:Dd < w.heap.size:=(yd.1 ah).1
  have cc:∀b,M9 W.heap.size (W.heap.size+3) O b->W.heap.size<=b:=fun b hb=>hb.elim (fun h=>by have:=hI.own b h;omega) (fun h=>h.1)
  have bg:∀wr,Below w.heap.size w wr->∀p,C p->wr.cell? p=w0.cell? p:=fun wr hb=>(bq.o _ _ _ (CL HJ.o cy hb)).1
  have S:=yb bg
  have df:=yb cy
  have d8:=yb dz
  have dx:=yb cc
  have bb:=yb dl
  have du:=yb ak
  have cl:=yb ah
  have cv:=yb hI.box
  have ci:=yb hI.size
  have bx:w.cell? (aV Bu 0)=some (pV L.s 0):=(bg w (yg _ _) _ A.o.box).trans A.o.heads.box
  have hf:w.cell? (aV L.s 22)=some (.slice L.farms.a L.farms.n L.farms.c):=(bg w (yg _ _) _ (A.o.src 22 (by omega) (by omega))).trans A.o.heads.farms
  have ax:L.farms.n<=140737488355328:=A.o.ok.farms.1
  clear hT di d3 bh ct dz cy dl cc bg ak ah hI hD
  simp only[Exit.inBlock,Exit.then]
  refine A4 ?_
  go_wp2
  clear bx hf
  go_loopw [6,42] (fun v6 iv wr=>∃(i:Nat) (us:List Us),i<=L.farms.n∧iv=iV i∧Hid (us=Sk L x i)∧Hid (Below w.heap.size w wr)∧Hid (CM w.heap.size wr v6 us)) (fun _ iv _=>L.farms.n - (intOf iv).toNat)
  case atStart=>exact ⟨0,[],yI _,rfl,yb rfl,yb (yg _ _),yb (Si _ _)⟩
  case round=>
   obtain ⟨i,us,hi,rfl,G,m,HOr⟩:=hrel
   by_cases F:i < L.farms.n
   ·obtain ⟨b,o,he,a7⟩:=A.o.ok.farms.get F
    have a2:i < x.farms.length:=by rw[<-A.o.nfarms];exact F
    have bx:=(S.o wr m.o _ A.o.box).trans A.o.heads.box
    have hf:wr.cell? (aV L.s 22)=some (.slice L.farms.a L.farms.n L.farms.c):=(S.o wr m.o _ (A.o.src 22 (by omega) (by omega))).trans A.o.heads.farms
    have hr:=(S.o wr m.o _ (A.o.river i a2).1).trans (A.o.river i a2).2
    rw[a7] at hr
    rw[he] at hf
    clear he
    have T:Ef L.farms x.farms i=[⟨b,o+i*12+1,4,0,x.farms[i].on.name,x.farms[i].on.n⟩,⟨b,o+i*12+10,if x.farms[i].river then 0 else 3,0,x.farms[i].crop.name,x.farms[i].crop.n⟩]:=by
     unfold Ef;rw[yk a2];simp[CZ,a7]
    have b4:(i:Int) < (L.farms.n:Int):=by omega
    cases bn:x.farms[i].river with
    |true=>
     rw[bn] at hr T
     simp only[zU] at T
     have Q:=yb T
     clear T bn
     have E:Hid (Below wr.heap.size wr (wr.drew.alloc (.cells #[pV b (o+i*12+1),iV 4,iV 0,pV b (o+i*12+10),iV 0,iV 0] 89))):=yb ((yg _ _).drew.alloc (yf _) _)
     have H:=yb (CM.up HOr.o E.o)
     have K:Hid (BL (wr.drew.alloc (.cells #[pV b (o+i*12+1),iV 4,iV 0,pV b (o+i*12+10),iV 0,iV 0] 89)) (.slice (some (aV wr.heap.size 0)) 2 2) 2 3 ([(⟨b,o+i*12+1,4,0,x.farms[i].on.name,x.farms[i].on.n⟩:Us),(⟨b,o+i*12+10,0,0,x.farms[i].crop.name,x.farms[i].crop.n⟩:Us)].flatMap AL)):=yb (Gt (us:=[(⟨b,o+i*12+1,4,0,x.farms[i].on.name,x.farms[i].on.n⟩:Us),(⟨b,o+i*12+10,0,0,x.farms[i].crop.name,x.farms[i].crop.n⟩:Us)]) (World.alloc_heap_new wr.drew _) 2)
     have M:Hid (us.length+2<=1000000):=yb (by have h1:=Oi (x:=x) F;have h2:=A.o.short;have h3:=Q.o;have h4:=G.o;rw[h3] at h1;rw[h4];simp only[yz,yH] at h1 ⊢;omega)
     have B:Hid (w.heap.size<=(wr.drew.alloc (.cells #[pV b (o+i*12+1),iV 4,iV 0,pV b (o+i*12+10),iV 0,iV 0] 89)).heap.size):=yb (yu m.o.size E.o.size)
     have a0:=yb (m.o.trans (E.o.mono m.o.size))
     go_wp2_with fail
     go_region_held3 (fun _=>True) (trivial) (first|(refine CI w.heap.size rfl _ _ rfl u6 us rfl H.o (.slice (some (aV wr.heap.size 0)) 2 2) [(⟨b,o+i*12+1,4,0,x.farms[i].on.name,x.farms[i].on.n⟩:Us),(⟨b,o+i*12+10,0,0,x.farms[i].crop.name,x.farms[i].crop.n⟩:Us)] rfl K.o M.o B.o ?_;intro ad c w5 t I;have Z:=yb t;have V:=yb (En a0.o B.o H.o I);clear t I))
     go_wp2
     exact ⟨⟨i+1,_,by omega,by push_cast;rfl,yb (by rw[G.o,MA,Q.o]),V,Z⟩,by simp[intOf];omega⟩
    |false=>
     rw[bn] at hr T
     simp only[Bool.false_eq_true,if_false] at T
     have Q:=yb T
     clear T bn
     have E:Hid (Below wr.heap.size wr (wr.drew.alloc (.cells #[pV b (o+i*12+1),iV 4,iV 0,pV b (o+i*12+10),iV 3,iV 0] 89))):=yb ((yg _ _).drew.alloc (yf _) _)
     have H:=yb (CM.up HOr.o E.o)
     have K:Hid (BL (wr.drew.alloc (.cells #[pV b (o+i*12+1),iV 4,iV 0,pV b (o+i*12+10),iV 3,iV 0] 89)) (.slice (some (aV wr.heap.size 0)) 2 2) 2 3 ([(⟨b,o+i*12+1,4,0,x.farms[i].on.name,x.farms[i].on.n⟩:Us),(⟨b,o+i*12+10,3,0,x.farms[i].crop.name,x.farms[i].crop.n⟩:Us)].flatMap AL)):=yb (Gt (us:=[(⟨b,o+i*12+1,4,0,x.farms[i].on.name,x.farms[i].on.n⟩:Us),(⟨b,o+i*12+10,3,0,x.farms[i].crop.name,x.farms[i].crop.n⟩:Us)]) (World.alloc_heap_new wr.drew _) 2)
     have M:Hid (us.length+2<=1000000):=yb (by have h1:=Oi (x:=x) F;have h2:=A.o.short;have h3:=Q.o;have h4:=G.o;rw[h3] at h1;rw[h4];simp only[yz,yH] at h1 ⊢;omega)
     have B:Hid (w.heap.size<=(wr.drew.alloc (.cells #[pV b (o+i*12+1),iV 4,iV 0,pV b (o+i*12+10),iV 3,iV 0] 89)).heap.size):=yb (yu m.o.size E.o.size)
     have a0:=yb (m.o.trans (E.o.mono m.o.size))
     go_wp2_with fail
     go_region_held3 (fun _=>True) (trivial) (first|(refine CI w.heap.size rfl _ _ rfl u6 us rfl H.o (.slice (some (aV wr.heap.size 0)) 2 2) [(⟨b,o+i*12+1,4,0,x.farms[i].on.name,x.farms[i].on.n⟩:Us),(⟨b,o+i*12+10,3,0,x.farms[i].crop.name,x.farms[i].crop.n⟩:Us)] rfl K.o M.o B.o ?_;intro ad c w5 t I;have Z:=yb t;have V:=yb (En a0.o B.o H.o I);clear t I))
     go_wp2
     exact ⟨⟨i+1,_,by omega,by push_cast;rfl,yb (by rw[G.o,MA,Q.o]),V,Z⟩,by simp[intOf];omega⟩
   ·obtain rfl:i=L.farms.n:=by omega
    have bx:=(S.o wr m.o _ A.o.box).trans A.o.heads.box
    have hf:wr.cell? (aV L.s 23)=some (.slice L.rots.a L.rots.n L.rots.c):=(S.o wr m.o _ (A.o.src 23 (by omega) (by omega))).trans A.o.heads.rots
    have ax:L.rots.n<=140737488355328:=A.o.ok.rots.1
    go_wp2
    clear bx hf
    obtain ⟨ft,rfl⟩:∃z:World,z=wr:=⟨_,rfl⟩
    obtain ⟨fj,rfl⟩:∃z:Value,z=u6:=⟨_,rfl⟩
    go_loopw [6,73] (fun v6 iv wr=>∃(i:Nat) (us:List Us),i<=L.rots.n∧iv=iV i∧Hid (us=Ma L x i)∧Hid (Below w.heap.size w wr)∧Hid (CM w.heap.size wr v6 us)) (fun _ iv _=>L.rots.n - (intOf iv).toNat)
    case atStart=>exact ⟨0,us,yI _,rfl,yb (by rw[G.o];simp[Ma]),m,HOr⟩
    case round=>
     clear G m HOr
     obtain ⟨i,us,hi,rfl,G,m,HOr⟩:=hrel
     by_cases F:i < L.rots.n
     ·obtain ⟨b,o,he,a7⟩:=A.o.ok.rots.get F
      have a2:i < x.rots.length:=by rw[<-A.o.nrots];exact F
      have bx:=(S.o wr m.o _ A.o.box).trans A.o.heads.box
      have hf:wr.cell? (aV L.s 23)=some (.slice L.rots.a L.rots.n L.rots.c):=(S.o wr m.o _ (A.o.src 23 (by omega) (by omega))).trans A.o.heads.rots
      rw[he] at hf
      clear he
      have fd:=yb (A.o.nturns i a2)
      have cg:=yb (A.o.ok.turns i F)
      have dh:Hid (∀W,Below w.heap.size w W->W.cell? (aV b (o+i*23+22))=some (.slice (A2 L i).a (A2 L i).n (A2 L i).c)):=yb (fun W hW=>by
       have h1:=(S.o W hW _ (A.o.turns i F)).trans (A.o.heads.turns i F)
       rw[a7] at h1;exact h1)
      have Q:Hid (Gu L x.rots i=⟨b,o+i*23+1,4,0,x.rots[i].on.name,x.rots[i].on.n⟩::(List.range (A2 L i).n).flatMap (F2 (A2 L i) x.rots[i].turns)):=yb (by
       unfold Gu;rw[yk a2];simp[CZ,a7])
      have b4:(i:Int) < (L.rots.n:Int):=by omega
      have ei:(A2 L i).n<=140737488355328:=cg.o.1
      have f1:∀w5:World,Below w.heap.size w w5->True:=fun _ _=>trivial
      clear f1
      have E:Hid (Below wr.heap.size wr (wr.alloc (.cells #[pV b (o+i*23+1),iV 4,iV 0] 89))):=yb ((yg _ _).alloc (yf _) _)
      have H:=yb (CM.up HOr.o E.o)
      have K:Hid (BL (wr.alloc (.cells #[pV b (o+i*23+1),iV 4,iV 0] 89)) (.slice (some (aV wr.heap.size 0)) 1 1) 1 3 ([(⟨b,o+i*23+1,4,0,x.rots[i].on.name,x.rots[i].on.n⟩:Us)].flatMap AL)):=yb (Gt (us:=[(⟨b,o+i*23+1,4,0,x.rots[i].on.name,x.rots[i].on.n⟩:Us)]) (World.alloc_heap_new wr _) 1)
      have M:Hid (us.length+1<=1000000):=yb (by have h1:=Oj (x:=x) F;have h2:=A.o.short;have h3:=Q.o;have h4:=G.o;rw[h3] at h1;rw[h4];simp only[yz] at h1;omega)
      have B:Hid (w.heap.size<=(wr.alloc (.cells #[pV b (o+i*23+1),iV 4,iV 0] 89)).heap.size):=yb (yu m.o.size E.o.size)
      have a0:=yb (m.o.trans (E.o.mono m.o.size))
      go_wp2_with (first|(at_builtin;refine G6 w.heap.size rfl _ _ rfl u6 us rfl H.o (.slice (some (aV wr.heap.size 0)) 1 1) [(⟨b,o+i*23+1,4,0,x.rots[i].on.name,x.rots[i].on.n⟩:Us)] rfl K.o M.o B.o ?_;intro ad c w5 t I;have Z:=yb t;have V:=yb (En a0.o B.o H.o I);have ht:=dh.o w5 V.o;clear t I))
      clear bx hf ht
      obtain ⟨wg,rfl⟩:∃z:World,z=wr:=⟨_,rfl⟩
      obtain ⟨vg,rfl⟩:∃z:Value,z=u6:=⟨_,rfl⟩
      go_loopw [6,94] (fun v6 iv wr=>∃(k:Nat) (al:List Us),k<=(A2 L i).n∧iv=iV k∧Hid (al=us++(⟨b,o+i*23+1,4,0,x.rots[i].on.name,x.rots[i].on.n⟩::(List.range k).flatMap (F2 (A2 L i) x.rots[i].turns)))∧Hid (Below w.heap.size w wr)∧Hid (CM w.heap.size wr v6 al)) (fun _ iv _=>(A2 L i).n - (intOf iv).toNat)
      case atStart=>exact ⟨0,_,yI _,rfl,yb (by simp),V,Z⟩
      case round=>
       clear m HOr V Z
       obtain ⟨k,al,P,rfl,b9,m,HOr⟩:=hrel
       by_cases ba:k < (A2 L i).n
       ·obtain ⟨b2,o2,e0,de⟩:=cg.o.get ba
        have fe:k < x.rots[i].turns.length:=by rw[<-fd.o];exact ba
        have ht:=dh.o wr m.o
        rw[e0] at ht
        clear e0
        have ef:Hid (F2 (A2 L i) x.rots[i].turns k=[⟨b2,o2+k*8,5,0,(x.rots[i].turns[k]).farm.name,(x.rots[i].turns[k]).farm.n⟩]):=yb (by
         unfold F2;rw[yk fe];simp[CZ,de])
        have f9:(k:Int) < ((A2 L i).n:Int):=by omega
        have E:Hid (Below wr.heap.size wr (wr.alloc (.cells #[pV b2 (o2+k*8),iV 5,iV 0] 89))):=yb ((yg _ _).alloc (yf _) _)
        have H:=yb (CM.up HOr.o E.o)
        have K:Hid (BL (wr.alloc (.cells #[pV b2 (o2+k*8),iV 5,iV 0] 89)) (.slice (some (aV wr.heap.size 0)) 1 1) 1 3 ([(⟨b2,o2+k*8,5,0,(x.rots[i].turns[k]).farm.name,(x.rots[i].turns[k]).farm.n⟩:Us)].flatMap AL)):=yb (Gt (us:=[(⟨b2,o2+k*8,5,0,(x.rots[i].turns[k]).farm.name,(x.rots[i].turns[k]).farm.n⟩:Us)]) (World.alloc_heap_new wr _) 1)
        have M:Hid (al.length+1<=1000000):=yb (by have h1:=Oj (x:=x) F;have h2:=A.o.short;have h3:=Q.o;have h4:=G.o;have h5:=G5 (f:=F2 (A2 L i) x.rots[i].turns) ba;have h6:=ef.o;rw[h6] at h5;rw[h3] at h1;rw[b9.o,h4];simp only[yz,yn,yH] at h1 h5 ⊢;omega)
        have B:Hid (w.heap.size<=(wr.alloc (.cells #[pV b2 (o2+k*8),iV 5,iV 0] 89)).heap.size):=yb (yu m.o.size E.o.size)
        have a0:=yb (m.o.trans (E.o.mono m.o.size))
        go_wp2_with (first|(at_builtin;refine G6 w.heap.size rfl _ _ rfl u6 al rfl H.o (.slice (some (aV wr.heap.size 0)) 1 1) [(⟨b2,o2+k*8,5,0,(x.rots[i].turns[k]).farm.name,(x.rots[i].turns[k]).farm.n⟩:Us)] rfl K.o M.o B.o ?_;intro ad c w5 t I;have Z:=yb t;have V:=yb (En a0.o B.o H.o I);clear t I))
        exact ⟨⟨k+1,_,by omega,by push_cast;rfl,yb (by rw[b9.o,Ak,ef.o];simp),V,Z⟩,by simp[intOf];omega⟩
       ·obtain rfl:k=(A2 L i).n:=by omega
        have f9:decide (((A2 L i).n:Int) < ((A2 L i).n:Int))=false:=by simp
        go_wp2
        exact ⟨⟨i+1,al,by omega,by push_cast;rfl,yb (by rw[b9.o,G.o,Sl,Q.o]),m,HOr⟩,by simp[intOf];omega⟩
     ·obtain rfl:i=L.rots.n:=by omega
      have bx:=(S.o wr m.o _ A.o.box).trans A.o.heads.box
      have hf:wr.cell? (aV L.s 24)=some (.slice L.rights.a L.rights.n L.rights.c):=(S.o wr m.o _ (A.o.src 24 (by omega) (by omega))).trans A.o.heads.rights
      have ax:L.rights.n<=140737488355328:=A.o.ok.rights.1
      go_wp2
      clear bx hf
      obtain ⟨fl,rfl⟩:∃z:World,z=wr:=⟨_,rfl⟩
      obtain ⟨fk,rfl⟩:∃z:Value,z=u6:=⟨_,rfl⟩
      go_loopw [6,115] (fun v6 iv wr=>∃(i:Nat) (us:List Us),i<=L.rights.n∧iv=iV i∧Hid (us=Mb L x i)∧Hid (Below w.heap.size w wr)∧Hid (CM w.heap.size wr v6 us)∧Hid (∀j (h:j < x.rights.length),j < i->Hb x.rights[j].kind=true)) (fun _ iv _=>L.rights.n - (intOf iv).toNat)
      case atStart=>exact ⟨0,us,yI _,rfl,yb (by rw[G.o];simp[Mb]),m,HOr,yb (fun j _ hj=>by omega)⟩
      case round=>
       clear G m HOr
       obtain ⟨i,us,hi,rfl,G,m,HOr,HK⟩:=hrel
       by_cases F:i < L.rights.n
       ·obtain ⟨b,o,he,a7⟩:=A.o.ok.rights.get F
        have a2:i < x.rights.length:=by rw[<-A.o.nrights];exact F
        have bx:=(S.o wr m.o _ A.o.box).trans A.o.heads.box
        have hf:wr.cell? (aV L.s 24)=some (.slice L.rights.a L.rights.n L.rights.c):=(S.o wr m.o _ (A.o.src 24 (by omega) (by omega))).trans A.o.heads.rights
        have hr:=(S.o wr m.o _ (A.o.kind i a2).1).trans (A.o.kind i a2).2
        rw[a7,qu] at hr
        rw[he] at hf
        clear he
        have T:CP L.rights x.rights i=[⟨b,o+i*37+2,5,0,x.rights[i].farm.name,x.rights[i].farm.n⟩,⟨b,o+i*37+4,if x.rights[i].kind=1 then 0 else 4,0,x.rights[i].reach.name,x.rights[i].reach.n⟩]:=by
         unfold CP;rw[yk a2];simp[CZ,a7]
        have b4:(i:Int) < (L.rights.n:Int):=by omega
        have bj:Hid (Hb x.rights[i].kind=true->∀j (h:j < x.rights.length),j < i+1->Hb x.rights[j].kind=true):=yb (fun h j hj fu=>by
         rcases zO j i with h9|h9
         ·exact HK.o j hj h9
         ·obtain rfl:j=i:=by omega
          exact h)
        have bp:Hid (Hb x.rights[i].kind=false->Ca x=false):=yb (fun h=>by
         unfold Ca;rw[xu];exact ⟨_,yJ a2,by simp[h]⟩)
        by_cases P:Hb x.rights[i].kind=true
        ·have dv:=yb (bj.o P)
         simp only[Hb,yE,yT] at P
         obtain ⟨k1,k3⟩:=P
         by_cases am:x.rights[i].kind=1
         ·rw[yw am] at T
          have Q:=yb T
          clear T bj bp
          have f6:(x.rights[i].kind==1)=true:=by simpa using am
          have E:Hid (Below wr.heap.size wr (wr.drew.alloc (.cells #[pV b (o+i*37+2),iV 5,iV 0,pV b (o+i*37+4),iV 0,iV 0] 89))):=yb ((yg _ _).drew.alloc (yf _) _)
          have H:=yb (CM.up HOr.o E.o)
          have K:Hid (BL (wr.drew.alloc (.cells #[pV b (o+i*37+2),iV 5,iV 0,pV b (o+i*37+4),iV 0,iV 0] 89)) (.slice (some (aV wr.heap.size 0)) 2 2) 2 3 ([(⟨b,o+i*37+2,5,0,x.rights[i].farm.name,x.rights[i].farm.n⟩:Us),(⟨b,o+i*37+4,0,0,x.rights[i].reach.name,x.rights[i].reach.n⟩:Us)].flatMap AL)):=yb (Gt (us:=[(⟨b,o+i*37+2,5,0,x.rights[i].farm.name,x.rights[i].farm.n⟩:Us),(⟨b,o+i*37+4,0,0,x.rights[i].reach.name,x.rights[i].reach.n⟩:Us)]) (World.alloc_heap_new wr.drew _) 2)
          have M:Hid (us.length+2<=1000000):=yb (by have h1:=Ol (x:=x) F;have h2:=A.o.short;have h3:=Q.o;have h4:=G.o;rw[h3] at h1;rw[h4];simp only[yz,yH] at h1 ⊢;omega)
          have B:Hid (w.heap.size<=(wr.drew.alloc (.cells #[pV b (o+i*37+2),iV 5,iV 0,pV b (o+i*37+4),iV 0,iV 0] 89)).heap.size):=yb (yu m.o.size E.o.size)
          have a0:=yb (m.o.trans (E.o.mono m.o.size))
          go_wp2_with (first|(go_at_call 69;refine (Cw _ _).mono ?_;rintro e w6 ⟨rfl,d4⟩;obtain rfl:=d4.symm))
          go_region_held3 (fun _=>True) (trivial) (first|(refine CI w.heap.size rfl _ _ rfl u6 us rfl H.o (.slice (some (aV wr.heap.size 0)) 2 2) [(⟨b,o+i*37+2,5,0,x.rights[i].farm.name,x.rights[i].farm.n⟩:Us),(⟨b,o+i*37+4,0,0,x.rights[i].reach.name,x.rights[i].reach.n⟩:Us)] rfl K.o M.o B.o ?_;intro ad c w5 t I;have Z:=yb t;have V:=yb (En a0.o B.o H.o I);clear t I))
          go_wp2
          exact ⟨⟨i+1,_,by omega,by push_cast;rfl,yb (by rw[G.o,MB,Q.o]),V,Z,dv⟩,by simp[intOf];omega⟩
         ·rw[yq am] at T
          have Q:=yb T
          clear T bj bp
          have f6:(x.rights[i].kind==1)=false:=by simpa using am
          have E:Hid (Below wr.heap.size wr (wr.drew.alloc (.cells #[pV b (o+i*37+2),iV 5,iV 0,pV b (o+i*37+4),iV 4,iV 0] 89))):=yb ((yg _ _).drew.alloc (yf _) _)
          have H:=yb (CM.up HOr.o E.o)
          have K:Hid (BL (wr.drew.alloc (.cells #[pV b (o+i*37+2),iV 5,iV 0,pV b (o+i*37+4),iV 4,iV 0] 89)) (.slice (some (aV wr.heap.size 0)) 2 2) 2 3 ([(⟨b,o+i*37+2,5,0,x.rights[i].farm.name,x.rights[i].farm.n⟩:Us),(⟨b,o+i*37+4,4,0,x.rights[i].reach.name,x.rights[i].reach.n⟩:Us)].flatMap AL)):=yb (Gt (us:=[(⟨b,o+i*37+2,5,0,x.rights[i].farm.name,x.rights[i].farm.n⟩:Us),(⟨b,o+i*37+4,4,0,x.rights[i].reach.name,x.rights[i].reach.n⟩:Us)]) (World.alloc_heap_new wr.drew _) 2)
          have M:Hid (us.length+2<=1000000):=yb (by have h1:=Ol (x:=x) F;have h2:=A.o.short;have h3:=Q.o;have h4:=G.o;rw[h3] at h1;rw[h4];simp only[yz,yH] at h1 ⊢;omega)
          have B:Hid (w.heap.size<=(wr.drew.alloc (.cells #[pV b (o+i*37+2),iV 5,iV 0,pV b (o+i*37+4),iV 4,iV 0] 89)).heap.size):=yb (yu m.o.size E.o.size)
          have a0:=yb (m.o.trans (E.o.mono m.o.size))
          go_wp2_with (first|(go_at_call 69;refine (Cw _ _).mono ?_;rintro e w6 ⟨rfl,d4⟩;obtain rfl:=d4.symm))
          go_region_held3 (fun _=>True) (trivial) (first|(refine CI w.heap.size rfl _ _ rfl u6 us rfl H.o (.slice (some (aV wr.heap.size 0)) 2 2) [(⟨b,o+i*37+2,5,0,x.rights[i].farm.name,x.rights[i].farm.n⟩:Us),(⟨b,o+i*37+4,4,0,x.rights[i].reach.name,x.rights[i].reach.n⟩:Us)] rfl K.o M.o B.o ?_;intro ad c w5 t I;have Z:=yb t;have V:=yb (En a0.o B.o H.o I);clear t I))
          go_wp2
          exact ⟨⟨i+1,_,by omega,by push_cast;rfl,yb (by rw[G.o,MB,Q.o]),V,Z,dv⟩,by simp[intOf];omega⟩
        ·have f3:=yb (bp.o (by simpa using P))
         clear bp bj T
         have cj:Hid (∀W',Below w.heap.size w W'->∀ob,∃O,Jp (ED 170) O (W'.putObj Dd ob)):=yb (fun W' hW ob=>by
          have hX:=d8.o
          rw[f3.o] at hX
          have hj:=CL HJ.o df.o hW
          refine ⟨_,(bd.o (ED 170)).put (s:=()) ?_ _ (cf.o (ED 170) (by rw[hX];rfl) _ W' (by rw[hX];simpa using hj))⟩
          exact .inl ⟨.inl du.o,bb.o⟩)
         by_cases am:1<=x.rights[i].kind
         ·have ag:¬ x.rights[i].kind<=3:=fun h=>P (by simp[Hb,am,h])
          clear P
          go_wp2_with (first|(go_at_call 69;refine (Co _ _).mono ?_;rintro e w6 ⟨rfl,rfl⟩))
          exact ⟨by simp,.inl ⟨_,_,rfl,run_takeDeferred ((m.o.block Dd bb.o).trans cl.o),.inr ⟨_,rfl,cj.o _ m.o _⟩⟩⟩
         ·clear P
          go_wp2_with (first|(go_at_call 69;refine (Co _ _).mono ?_;rintro e w6 ⟨rfl,rfl⟩))
          exact ⟨by simp,.inl ⟨_,_,rfl,run_takeDeferred ((m.o.block Dd bb.o).trans cl.o),.inr ⟨_,rfl,cj.o _ m.o _⟩⟩⟩
       ·obtain rfl:i=L.rights.n:=by omega
        have ew:Hid (Ca x=true):=yb (by
         unfold Ca;rw[yW];intro d hd
         obtain ⟨j,hj,rfl⟩:=zc.1 hd
         exact HK.o j hj (by rw[A.o.nrights];exact hj))
        have bx:=(S.o wr m.o _ A.o.box).trans A.o.heads.box
        have hf:wr.cell? (aV L.s 25)=some (.slice L.duties.a L.duties.n L.duties.c):=(S.o wr m.o _ (A.o.src 25 (by omega) (by omega))).trans A.o.heads.duties
        have ax:L.duties.n<=140737488355328:=A.o.ok.duties.1
        go_wp2
        clear bx hf
        obtain ⟨fm,rfl⟩:∃z:World,z=wr:=⟨_,rfl⟩
        obtain ⟨fs,rfl⟩:∃z:Value,z=u6:=⟨_,rfl⟩
        go_loopw [6,160] (fun v6 iv wr=>∃(i:Nat) (us:List Us),i<=L.duties.n∧iv=iV i∧Hid (us=Np L x i)∧Hid (Below w.heap.size w wr)∧Hid (CM w.heap.size wr v6 us)) (fun _ iv _=>L.duties.n - (intOf iv).toNat)
        case atStart=>exact ⟨0,us,yI _,rfl,yb (by rw[G.o];simp[Np]),m,HOr⟩
        case round=>
         clear G m HOr
         obtain ⟨i,us,hi,rfl,G,m,HOr⟩:=hrel
         by_cases F:i < L.duties.n
         ·obtain ⟨b,o,he,a7⟩:=A.o.ok.duties.get F
          have a2:i < x.duties.length:=by rw[<-A.o.nduties];exact F
          have bx:=(S.o wr m.o _ A.o.box).trans A.o.heads.box
          have hf:wr.cell? (aV L.s 25)=some (.slice L.duties.a L.duties.n L.duties.c):=(S.o wr m.o _ (A.o.src 25 (by omega) (by omega))).trans A.o.heads.duties
          rw[he] at hf
          clear he
          have Q:Hid (DZ L.duties x.duties i=[⟨b,o+i*11+1,5,0,x.duties[i].farm.name,x.duties[i].farm.n⟩,⟨b,o+i*11+3,4,0,x.duties[i].reach.name,x.duties[i].reach.n⟩]):=yb (by
           unfold DZ;rw[yk a2];simp[CZ,a7])
          have b4:(i:Int) < (L.duties.n:Int):=by omega
          have E:Hid (Below wr.heap.size wr (wr.drew.alloc (.cells #[pV b (o+i*11+1),iV 5,iV 0,pV b (o+i*11+3),iV 4,iV 0] 89))):=yb ((yg _ _).drew.alloc (yf _) _)
          have H:=yb (CM.up HOr.o E.o)
          have K:Hid (BL (wr.drew.alloc (.cells #[pV b (o+i*11+1),iV 5,iV 0,pV b (o+i*11+3),iV 4,iV 0] 89)) (.slice (some (aV wr.heap.size 0)) 2 2) 2 3 ([(⟨b,o+i*11+1,5,0,x.duties[i].farm.name,x.duties[i].farm.n⟩:Us),(⟨b,o+i*11+3,4,0,x.duties[i].reach.name,x.duties[i].reach.n⟩:Us)].flatMap AL)):=yb (Gt (us:=[(⟨b,o+i*11+1,5,0,x.duties[i].farm.name,x.duties[i].farm.n⟩:Us),(⟨b,o+i*11+3,4,0,x.duties[i].reach.name,x.duties[i].reach.n⟩:Us)]) (World.alloc_heap_new wr.drew _) 2)
          have M:Hid (us.length+2<=1000000):=yb (by have h1:=TD (x:=x) F;have h2:=A.o.short;have h3:=Q.o;have h4:=G.o;rw[h3] at h1;rw[h4];simp only[yz,yH] at h1 ⊢;omega)
          have B:Hid (w.heap.size<=(wr.drew.alloc (.cells #[pV b (o+i*11+1),iV 5,iV 0,pV b (o+i*11+3),iV 4,iV 0] 89)).heap.size):=yb (yu m.o.size E.o.size)
          have a0:=yb (m.o.trans (E.o.mono m.o.size))
          go_wp2_with fail
          go_region_held3 (fun _=>True) (trivial) (first|(refine CI w.heap.size rfl _ _ rfl u6 us rfl H.o (.slice (some (aV wr.heap.size 0)) 2 2) [(⟨b,o+i*11+1,5,0,x.duties[i].farm.name,x.duties[i].farm.n⟩:Us),(⟨b,o+i*11+3,4,0,x.duties[i].reach.name,x.duties[i].reach.n⟩:Us)] rfl K.o M.o B.o ?_;intro ad c w5 t I;have Z:=yb t;have V:=yb (En a0.o B.o H.o I);clear t I))
          go_wp2
          exact ⟨⟨i+1,_,by omega,by push_cast;rfl,yb (by rw[G.o,Sm,Q.o]),V,Z⟩,by simp[intOf];omega⟩
         ·obtain rfl:i=L.duties.n:=by omega
          have db:Hid (us=Ce L x):=yb (by rw[G.o];exact KR L x)
          have cz:Hid (X=(K0++us,true)):=yb (by rw[d8.o,ew.o,db.o];rfl)
          have fo:us.length<=1000000:=by rw[db.o];exact A.o.short
          obtain ⟨va,vc,rfl, -⟩:=Va HOr.o
          obtain ⟨wl,rfl⟩:∃z:World,z=wr:=⟨_,rfl⟩
          obtain ⟨O3,ao⟩:∃O3:NP,O3=fun b=>(M9 W.heap.size (W.heap.size+3) O b∧b < w.heap.size)∨(w.heap.size<=b∧b < wl.heap.size):=⟨_,rfl⟩
          have d6:J K0.length O3 wl:=by rw[ao];exact CL HJ.o df.o m.o
          have U:∀b,O3 b->W.heap.size<=b∧b < wl.heap.size:=fun b hb=>by
           rw[ao] at hb
           rcases hb with hb|hb
           ·exact ⟨dx.o b hb.1,yt hb.2 m.o.size⟩
           ·have:=ci.o;omega
          have dt:O3 Dd:=by rw[ao];exact .inl ⟨.inl du.o,bb.o⟩
          have dc:O3 W.heap.size∧wl.cell? (aV W.heap.size 0)=some (.func (.yield l) #[] #[]):=by
           have h1:=ci.o
           refine ⟨by rw[ao];exact .inl ⟨.inr ⟨yf _,by omega⟩,by omega⟩,(m.o.cell (p:=(aV W.heap.size 0)) (by show W.heap.size < w.heap.size;omega)).trans cv.o.y⟩
          have e8:∀g,w.heap.size<=g->g < wl.heap.size->O3 g:=fun g h1 h2=>by rw[ao];exact .inr ⟨h1,h2⟩
          have ay:=yb ((m.o.block Dd bb.o).trans cl.o)
          have cw:=yb e8
          have eu:=yb d6
          have aa:=yb U
          have ar:=yb dt
          have d5:=yb dc
          clear ao d6 U dt dc e8
          go_wp2
          go_loopw [183] (fun iv wr=>∃i:Nat,i<=us.length∧iv=iV i∧Hid (J (K0.length+i) O3 wr)∧Hid (AN O3 wl wr)) (fun iv _=>us.length - (intOf iv).toNat)
          case atStart=>exact ⟨0,yI _,rfl,eu,yb (AN.refl _ _)⟩
          case round=>
           obtain ⟨i,hi,rfl,ee,ap⟩:=hrel
           by_cases F:i < us.length
           ·obtain ⟨g,c,hv,cx,cm,dw,c0,c1,c2⟩:=TC HOr.o F
            simp only[qi,qv] at hv
            obtain ⟨rfl,rfl⟩:=hv
            have d0:=D6 ap.o (cw.o g cx cm) c0
            have d1:=D6 ap.o (cw.o g cx cm) c1
            have d2:=D6 ap.o (cw.o g cx cm) c2
            have P:K0.length+i < (X.1.map Us.v).length:=by rw[cz.o];simp;exact F
            have dm:(X.1.map Us.v)[K0.length+i]=us[i].v:=by
             rw[zH]
             have h1:X.1[K0.length+i]?=some us[i]:=by rw[cz.o];simp[yN,yk F]
             obtain ⟨h2,h3⟩:=yx.1 h1
             rw[h3]
            generalize us[i]=u at*
            have ac:Below wr.heap.size wr (wr.alloc (.cells #[pV u.b u.o,iV u.to,iV u.at_] 89)):=(yg _ _).alloc (yf _) _
            have ed:AN O3 wr (wr.alloc (.cells #[pV u.b u.o,iV u.to,iV u.at_] 89)):=⟨ac.size,fun b hb=>ac.block b (yt (aa.o b hb).2 ap.o.1)⟩
            have dk:J (K0.length+i) O3 (wr.alloc (.cells #[pV u.b u.o,iV u.to,iV u.at_] 89)):=HJ.o _ _ _ _ _ ee.o ac.size ac.os ac.tape ac.output (fun b _ hl=>ac.block b hl) (fun b hb=>.inl hb)
            have aq:=yb (ap.o.trans ed)
            obtain ⟨fq,eh,eb,el,hy,dq⟩:=ai.o (K0.length+i) P O3 _ dk (yu (by have:=(aa.o _ d5.o.1).2;omega) aq.o.1) (fun b hb=>⟨(aa.o b hb).1,yt (aa.o b hb).2 aq.o.1⟩)
            rw[dm] at hy
            unfold Us.v at hy
            have f4:=yb dq
            have q3:=D6 aq.o d5.o.1 d5.o.2
            have b4:(i:Int) < (us.length:Int):=by omega
            have fh:=dw
            clear P dm dq ac ed dk c0 c1 c2 dw
            go_upto_region 47 with fail
            refine (qm (n:=n)).1 ?_
            gi_wp2
            refine f4.o.mono ?_
            rintro e W6 (⟨rfl,hj,hs⟩|⟨rfl,hx,hs⟩|⟨ch,rfl,hp,hs⟩)
            ·have en:=yb hj
             have az:=yb (aq.o.trans hs)
             clear hj hs hy q3 d0 d1 d2
             gi_wp2
             go_wp2
             exact ⟨⟨i+1,by omega,by push_cast;rfl,en,az⟩,by simp[intOf];omega⟩
            ·have ej:=yb hx
             have az:=yb (aq.o.trans hs)
             clear hx hs hy q3 d0 d1 d2
             gi_wp2
             go_wp2
             exact ⟨by simp,.inl ⟨_,_,rfl,run_takeDeferred ((az.o.2 Dd ar.o).trans ay.o),⟨_,zs rfl _ _ _,.inl ⟨⟨_,rfl⟩,.inr ⟨O3,cr.o.put (s:=()) ar.o _ ej.o⟩⟩⟩⟩⟩
            ·have az:=yb (aq.o.trans hs)
             exact ⟨by simp,.inl ⟨_,_,rfl,run_takeDeferred ((az.o.2 Dd ar.o).trans ay.o),.inr ⟨ch,rfl,O3,(bd.o ch).put (s:=()) ar.o _ hp⟩⟩⟩
           ·obtain rfl:i=us.length:=by omega
            have b4:decide ((us.length:Int) < (us.length:Int))=false:=by simp
            have d9:Hid (X.2=true∧J X.1.length O3 wr):=yb (by rw[cz.o];exact ⟨rfl,by rw[yn];exact ee.o⟩)
            go_wp2
            exact ⟨by simp,.inl ⟨_,_,rfl,run_takeDeferred ((ap.o.2 Dd ar.o).trans ay.o),⟨_,zs rfl _ _ _,.inl ⟨⟨_,rfl⟩,.inl ⟨by simp[d9.o.1],O3,HJ.o.put ar.o _ d9.o.2⟩⟩⟩⟩⟩
 ·rintro D c O w hD ak ⟨rfl,hI⟩ ah
  gi_wp2
  refine ⟨by simp,.inl ⟨_,_,rfl,run_takeDeferred ah,⟨_,zs rfl _ _ _,.inl ⟨⟨_,rfl⟩,.inr ⟨M9 W.heap.size (W.heap.size+3) O,?_⟩⟩⟩⟩⟩
  exact cr.o.put (s:=()) (.inl ak) _ hI.j
 ·rintro D ch O w hD ak hI ah
  exact ⟨by simp,.inl ⟨_,_,rfl,run_takeDeferred ah,.inr ⟨ch,rfl,M9 W.heap.size (W.heap.size+3) O,(bd.o ch).put (s:=()) (.inl ak) _ hI.j⟩⟩⟩
end Go.Proofs.YtjofgpfocadomaaGreatDoor

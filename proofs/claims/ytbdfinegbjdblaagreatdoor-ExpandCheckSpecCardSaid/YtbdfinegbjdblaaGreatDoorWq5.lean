/- The iterator over a source's references: the walk. -/
import Derived.Test.YtbdfinegbjdblaaGreatDoorWq0
import Derived.Test.YtbdfinegbjdblaaGreatDoorWq3
import Derived.Deep.RegionHeld3
set_option maxRecDepth 100000
set_option maxHeartbeats 16000000
set_option linter.unusedSimpArgs false
namespace Go.Proofs.YtbdfinegbjdblaaGreatDoor
open Go.RowKit
attribute [local go_sem] Oper.semAt_some
def Nq(B0 B1:Nat)(O:NP)(b:Nat):Prop:=O b\/(B0<=b/\b < B1)
structure Vy (l By Bi Bs s:Nat) (W:World):Prop where
 y:W.cell? ⟨By,0,none⟩=some (.func (.yield l) #[] #[])
 i:W.cell? ⟨Bi,0,none⟩=some (.func (.func 100) #[] #[.pointer (some ⟨By,0,none⟩),.pointer (some ⟨Bi,0,none⟩)])
 s:W.cell? ⟨Bs,0,none⟩=some (.pointer (some ⟨s,0,none⟩))
theorem Vy.same{l By Bi Bs s:Nat}{W W':World}(h:Vy l By Bi Bs s W)(h1:W'.heap[By]?=W.heap[By]?)(h2:W'.heap[Bi]?=W.heap[Bi]?)(h3:W'.heap[Bs]?=W.heap[Bs]?):Vy l By Bi Bs s W':=by
 obtain ⟨a,b,c⟩:=h
 unfold World.cell? at a b c
 exact ⟨by unfold World.cell?;rw[h1];exact a,by unfold World.cell?;rw[h2];exact b,by unfold World.cell?;rw[h3];exact c⟩
structure Gv {β:Type} (J:β->(Nat->Prop)->World->Prop) (B0 B1 l By Bi Bs s:Nat) (p:β->Prop) (k:β) (O:Nat->Prop) (W:World):Prop where
 j:J k (Nq B0 B1 O) W
 own:∀b,O b->B1<=b
 size:B1<=W.heap.size
 box:Vy l By Bi Bs s W
 p:p k
section
variable{β:Type}{J:β->NP->World->Prop}{B0 B1 l By Bi Bs s:Nat}{p:β->Prop}
theorem Gv.stays(o:Cv J)(e:(B0<=By/\By < B1)/\(B0<=Bi/\Bi < B1)/\(B0<=Bs/\Bs < B1)):Cv (Gv J B0 B1 l By Bi Bs s p):=by
 intro k O W r W' h g q n m i f
 have a:∀b,b < B1->W'.heap[b]?=W.heap[b]?:=λb hb=>i b (λc=>by have:=h.own b c;omega) (yx hb h.size)
 refine ⟨o k _ W _ W' h.j g q n m (λb hb d=>i b (λc=>hb (.inl c)) d) (λb hb=>?_),λb hb=>?_,yG h.size g,h.box.same (a _ e.1.2) (a _ e.2.1.2) (a _ e.2.2.2),h.p⟩
 ·rcases hb with hb|hb
  ·rcases f b hb with h1|h1
   ·exact .inl (.inl h1)
   exact .inr h1
  exact .inl (.inr hb)
 rcases f b hb with h1|h1
 ·exact h.own b h1
 have:=h.size;omega
end
theorem K3.at{N:NP}{b W:World}{C D:Addr->Prop}{Bu Bs:Nat}{L:BQ}{x:AM}(a:M6 N b C D Bu L x)(hd:aG b C D W)(hb:W.cell? ⟨Bs,0,none⟩=some (.pointer (some ⟨L.s,0,none⟩))):K3 L Bs W:=
 ⟨hb,(hd.1 _ (a.src 19 (by omega) (by omega))).trans a.heads.lets,(hd.1 _ (a.src 20 (by omega) (by omega))).trans a.heads.crops,(hd.1 _ (a.src 21 (by omega) (by omega))).trans a.heads.reaches,(hd.1 _ (a.src 22 (by omega) (by omega))).trans a.heads.farms,
  (hd.1 _ (a.src 23 (by omega) (by omega))).trans a.heads.rots,(hd.1 _ (a.src 24 (by omega) (by omega))).trans a.heads.rights,(hd.1 _ (a.src 25 (by omega) (by omega))).trans a.heads.duties,λi hi=>(hd.1 _ (a.turns i hi)).trans (a.heads.turns i hi)⟩
theorem Di.up{B:Nat}{w w':World}{v:Value}{us:List Us}(h:Di B w v us)(hb:Below w.heap.size w w'):Di B w' v us:=by
 obtain ⟨h1,h2⟩:=h
 refine ⟨h1,h2.imp id ?_⟩
 rintro ⟨g,cap,cur,h3,b,a,c⟩
 exact ⟨g,cap,cur,h3,b,(hb.block g (yd.1 a).1).trans a,c⟩
theorem F2{B:Nat}{a w w':World}{v:Value}{us:List Us}(c:Below B a w)(h:B<=w.heap.size)(d:Di B w v us)(hg:w.grownBy w' v.ownBlock):Below B a w':=by
 refine c.trans ⟨hg.os,hg.tape,hg.output,hg.size,λb hb=>hg.block b (by omega) (λe=>?_)⟩
 rcases d.2 with ⟨rfl,_⟩|⟨g,cap,cur,rfl,f,_⟩
 ·cases e
 simp only[Value.ownBlock,zs] at e
 omega
theorem Vz{B:Nat}{w:World}{v:Value}{us:List Us}(h:Di B w v us){i:Nat}(hi:i < us.length):
  ∃g c,v=.slice (some ⟨g,0,none⟩) us.length c/\B<=g/\g < w.heap.size/\us.length<=maxLen/\w.cell? ⟨g,i*3,none⟩=some (.pointer (some ⟨us[i].b,us[i].o,none⟩))/\w.cell? ⟨g,i*3+1,none⟩=some (.int .i64 us[i].to)/\w.cell? ⟨g,i*3+2,none⟩=some (.int .i64 us[i].at_):=by
 obtain ⟨h1,⟨rfl,h2⟩|⟨g,cap,cur,rfl,m,f,s,q,p,k⟩⟩:=h
 ·omega
 have hc:∀j u,(us.flatMap Bb)[j]?=some u->w.cell? (aV g j)=some u:=by
  intro j u a
  rw[<-k] at a
  have d:=(yF.1 a).1
  rw[zM] at d
  rw[xO,yz (by omega)] at a
  simp only[World.cell?,f]
  simpa using a
 have hg:∀(us:List Us) (i:Nat) (hi:i < us.length),(us.flatMap Bb)[i*3]?=some (.pointer (some ⟨us[i].b,us[i].o,none⟩))/\(us.flatMap Bb)[i*3+1]?=some (iV us[i].to)/\(us.flatMap Bb)[i*3+2]?=some (iV us[i].at_):=by
  intro us
  induction us with
  |nil=>intro i hi;simp at hi
  |cons x r ih=>
   intro i hi
   cases i with
   |zero=>exact ⟨rfl,rfl,rfl⟩
   |succ i=>
    have:=ih i (by simpa using hi)
    have e:((x::r).flatMap Bb)=Bb x++r.flatMap Bb:=rfl
    rw[e,zn (by simp[Bb];omega),zn (by simp[Bb];omega),zn (by simp[Bb];omega)]
    have n:(Bb x).length=3:=rfl
    rw[n,show (i+1)*3 - 3=i*3 by omega,show (i+1)*3+1 - 3=i*3+1 by omega,show (i+1)*3+2 - 3=i*3+2 by omega]
    exact this
 obtain ⟨g0,g1,l⟩:=hg us i hi
 exact ⟨g,cap,rfl,m,(yd.1 f).1,by omega,hc _ _ g0,hc _ _ g1,hc _ _ l⟩
theorem Xr{B:Nat}{w:World}{v:Value}{us:List Us}(h:Di B w v us):∃a c,v=.slice a us.length c/\us.length<=maxLen:=by
 obtain ⟨h1,⟨rfl,h2⟩|⟨g,cap,cur,rfl,e,f,j,i,b,d⟩⟩:=h
 ·exact ⟨none,0,by rw[h2],by rw[h2];exact yC _⟩
 exact ⟨_,_,rfl,by omega⟩
theorem GJ{f:Nat->List Us}{n i:Nat}(h:i < n):((List.range i).flatMap f).length+(f i).length<=((List.range n).flatMap f).length:=by
 obtain ⟨post,a⟩:=BW f h
 rw[a];simp only[yn];omega
theorem GK{ops:Array Oper}{rest:List Oper}{o:Oper}{a:Act}{Q:QT}{W:World}(B:Nat)(e:o.guard=none)(s x:Operand)(j:o.op=.call {callee:=.builtin .append,args:=#[s,x],argTypes:=#[210,210]})
 (v:Value)(us:List Us)(hs:a.eval s=v)(f:Di B W v us)(X:Value)(ys:List Us)(k:a.eval x=X)(l:Ce W X ys.length 3 (ys.flatMap Bb))(d:us.length+ys.length<=1000000)(b:B<=W.heap.size)
 (h:∀(g:Option Addr) (c:Nat) w',Di B w' (.slice g (us.length+ys.length) c) (us++ys)->W.grownBy w' v.ownBlock->wpList Tryz.prog ops Q rest (a.put o.dst (.slice g (us.length+ys.length) c)) w'):wpList Tryz.prog ops Q (o::rest) a W:=
 yZ e λ_ i=>OR B e s x j v us hs f X ys k l d b (λg c w' h1 h2=>i _ _ (h g c w' h1 h2))
def U0(L:BQ)(x:AM)(i:Nat):List Us:=(List.range i).flatMap (EW L.farms x.farms)
def Nr(L:BQ)(x:AM)(i:Nat):List Us:=U0 L x L.farms.n++(List.range i).flatMap (Ho L x.rots)
def Ns(L:BQ)(x:AM)(i:Nat):List Us:=Nr L x L.rots.n++(List.range i).flatMap (Dr L.rights x.rights)
def OU(L:BQ)(x:AM)(i:Nat):List Us:=Ns L x L.rights.n++(List.range i).flatMap (EB L.duties x.duties)
theorem Ma(L:BQ)(x:AM):OU L x L.duties.n=CD L x:=rfl
theorem O6(L:BQ)(x:AM)(i:Nat):U0 L x (i+1)=U0 L x i++EW L.farms x.farms i:=Aw _ i
theorem U3(L:BQ)(x:AM)(i:Nat):Nr L x (i+1)=Nr L x i++Ho L x.rots i:=by unfold Nr;rw[Aw,yX]
theorem O7(L:BQ)(x:AM)(i:Nat):Ns L x (i+1)=Ns L x i++Dr L.rights x.rights i:=by unfold Ns;rw[Aw,yX]
theorem U4(L:BQ)(x:AM)(i:Nat):OU L x (i+1)=OU L x i++EB L.duties x.duties i:=by unfold OU;rw[Aw,yX]
theorem T8(L:BQ)(x:AM):(Ns L x L.rights.n).length<=(CD L x).length:=by rw[<-Ma];unfold OU;simp
theorem T9(L:BQ)(x:AM):(Nr L x L.rots.n).length<=(CD L x).length:=yG (by unfold Ns;simp) (T8 L x)
theorem Xs(L:BQ)(x:AM):(U0 L x L.farms.n).length<=(CD L x).length:=yG (by unfold Nr;simp) (T9 L x)
theorem PU{L:BQ}{x:AM}{i:Nat}(h:i < L.farms.n):(U0 L x i).length+(EW L.farms x.farms i).length<=(CD L x).length:=yG (GJ h) (Xs L x)
theorem PV{L:BQ}{x:AM}{i:Nat}(h:i < L.rots.n):(Nr L x i).length+(Ho L x.rots i).length<=(CD L x).length:=yG (by have:=GJ (f:=Ho L x.rots) h;unfold Nr;simp only[yn];omega) (T9 L x)
theorem PW{L:BQ}{x:AM}{i:Nat}(h:i < L.rights.n):(Ns L x i).length+(Dr L.rights x.rights i).length<=(CD L x).length:=yG (by have:=GJ (f:=Dr L.rights x.rights) h;unfold Ns;simp only[yn];omega) (T8 L x)
theorem VA{L:BQ}{x:AM}{i:Nat}(h:i < L.duties.n):(OU L x i).length+(EB L.duties x.duties i).length<=(CD L x).length:=by
 have:=GJ (f:=EB L.duties x.duties) h
 rw[<-Ma];unfold OU;simp only[yn];omega
theorem Xt{w:World}{C:Addr->Prop}{e:Ex}{b o:Nat}(h:TW w C e b o):C ⟨b,o,none⟩/\C ⟨b,o+5,none⟩:=by
 cases e
 rw[TW] at h
 obtain ⟨_,_,h1,h2,_⟩:=h
 exact ⟨h1.2,h2.2⟩
theorem Xu{e:Ex}{z:Int}(h:e.op=0->z=e.ri):Eo e.op e.n e.u e.rn z e.args.length=BS e:=by
 unfold BS
 by_cases h0:e.op=0
 ·rw[h h0]
 simp[Eo,h0]
theorem Mb(n:Nat)(hn:1<=n){N:NP}{w0:World}{C D:Addr->Prop}{Bu:Nat}{L:BQ}{x:AM}(hU:M6 N w0 C D Bu L x):
  Vm Fence.wide n Tryz.prog 99 #[.pointer (some ⟨Bu,0,none⟩)] (aG w0 C D) ((Ck w0 L x).1.map Us.v) (if (Ck w0 L x).2 then none else some (Fg 170)):=by
 intro l J Jx Jp W hJ dk e6 cn cf a7 ab h0
 have f1:∀(fn:Fn) (first cap:Array Value) (w:World),(Instr.makeFunc fn first cap).run Tryz.prog w=.ok (.func fn first cap) w:=λ_ _ _ _=>rfl
 obtain ⟨X,hX⟩:∃X,X=Ck w0 L x:=⟨_,rfl⟩
 rw[<-hX] at a7 ab |-
 have A:=yb hU
 have HX:=yb hX
 have H0:=yb h0
 have HJ:=yb hJ
 have cl:=yb dk
 have be:=yb e6
 have bg:=yb cn
 have cg:=yb cf
 have bv:=yb a7
 have ak:=yb ab
 have cB:=((cn _ _ _ h0).1 _ hU.box).trans hU.heads.box
 have fd:=yb (yU W _ cB)
 have dB:∀(o o':Obj),((W.alloc o).alloc o').cell? (aV Bu 0)=some (pV L.s 0):=λo o'=>((((yg W.heap.size W).alloc (yi _) o).alloc (by simp) o').cell (p:=(aV Bu 0)) fd.o).trans cB
 clear hU hX h0 hJ dk e6 cn cf a7 ab cB
 refine zi.2 (Bt (n:=10) Tryz.func99 rfl ?_)
 simp only[Tryz.ntmps99,yA,yr,yK,Nat.reduceAdd,Nat.reduceSub,zw,zx,zG,zD,yS,yQ]
 iterate 3
  refine Aj (Aa ?_)
  go_wp2
 refine Aj (Aj (Aa ?_))
 go_wp2_with (first|(go_at_call 101;refine (Fy _ _).mono ?_;rintro e w2 ⟨rfl,rfl⟩))
 have cc:Below W.heap.size W (((W.alloc (.cells #[.func (.yield l) #[] #[]] 204)).alloc (.cells #[.func (.func 100) #[] #[pV W.heap.size 0,pV (W.heap.size+1) 0]] 205)).alloc (.cells #[pV L.s 0] 154)):=(((yg _ _).alloc (yi _) _).alloc (by simp) _).alloc (by simp;omega) _
 have ci:Vy l W.heap.size (W.heap.size+1) (W.heap.size+1+1) L.s (((W.alloc (.cells #[.func (.yield l) #[] #[]] 204)).alloc (.cells #[.func (.func 100) #[] #[pV W.heap.size 0,pV (W.heap.size+1) 0]] 205)).alloc (.cells #[pV L.s 0] 154)):=by
  refine ⟨?_,?_,?_⟩
  ·refine qH _ (qH _ ?_)
   have:=World.alloc_heap_new W (.cells #[.func (.yield l) #[] #[]] 204)
   simp only[World.cell?,this];simp
  ·refine qH _ ?_
   have:=World.alloc_heap_new (W.alloc (.cells #[.func (.yield l) #[] #[]] 204)) (.cells #[.func (.func 100) #[] #[pV W.heap.size 0,pV (W.heap.size+1) 0]] 205)
   rw[ze] at this
   simp only[World.cell?,this];simp
  have:=World.alloc_heap_new ((W.alloc (.cells #[.func (.yield l) #[] #[]] 204)).alloc (.cells #[.func (.func 100) #[] #[pV W.heap.size 0,pV (W.heap.size+1) 0]] 205)) (.cells #[pV L.s 0] 154)
  rw[ze,ze] at this
  simp only[World.cell?,this];simp
 have cj:(((W.alloc (.cells #[.func (.yield l) #[] #[]] 204)).alloc (.cells #[.func (.func 100) #[] #[pV W.heap.size 0,pV (W.heap.size+1) 0]] 205)).alloc (.cells #[pV L.s 0] 154)).heap.size=W.heap.size+3:=by simp
 have bj:=yb cc
 have ff:=yb ci
 have dm:=yb cj
 clear cc ci cj dB f1
 generalize ((W.alloc (.cells #[.func (.yield l) #[] #[]] 204)).alloc (.cells #[.func (.func 100) #[] #[pV W.heap.size 0,pV (W.heap.size+1) 0]] 205)).alloc (.cells #[pV L.s 0] 154)=W1 at*
 obtain ⟨q,Y⟩:∃q,q=F0 w0 L x:=⟨_,rfl⟩
 have du:q.length=(Cd L).length+1:=by rw[Y];unfold F0;rw[yn,Fx A.o];rfl
 have dh:∀k (P:k < (Cd L).length) (af:k < (Ba x).length) (ah:k < q.length),q[k]=CN w0 (Cd L)[k] (Ba x)[k]:=by
  intro k P af ah
  apply yf
  rw[<-yk ah,Y]
  unfold F0
  rw[zI (by rw[Fx A.o];exact P)]
  unfold Eb
  rw[List.getElem?_zipWith,yk P,yk af]
 have bu:Hid (X=C2 q):=yb (by rw[HX.o,Y];rfl)
 have fe:=yb du
 have ew:=yb dh
 have e9:=yb Y
 have eb:Hid (Cv (λk=>J (C2 (q.take k)).1.length)):=yb (λk O W O' W' h hz ho ht hu P hO=>HJ.o _ O W O' W' h hz ho ht hu P hO)
 have ef:(W.heap.size<=W.heap.size/\W.heap.size < W.heap.size+3)/\(W.heap.size<=W.heap.size+1/\W.heap.size+1 < W.heap.size+3)/\(W.heap.size<=W.heap.size+1+1/\W.heap.size+1+1 < W.heap.size+3):=by omega
 have ba:=yb ef
 clear du dh Y ef
 refine Dp ?_
 refine CW (n:=10) Tryz.func99 rfl (λ_ _=>rfl) (M7 9 (by omega) (W.heap.size+1+1) L A.o.ok) (λa ha=>by
   obtain ⟨i,hi,rfl⟩:=zq.1 ha
   obtain ⟨b,o,c,h1,_⟩:=A.o.top.get i hi (by rw[<-A.o.top.length];exact hi)
   rw[h1];rfl)
  (Gv (λk=>J (C2 (q.take k)).1.length) W.heap.size (W.heap.size+3) l W.heap.size (W.heap.size+1) (W.heap.size+1+1) L.s (λk=>(C2 (q.take k)).2=true))
  (λc O w=>c=.ret/\Gv (λ(_:Unit)=>Jx) W.heap.size (W.heap.size+3) l W.heap.size (W.heap.size+1) (W.heap.size+1+1) L.s (λ_=>True) () O w)
  (λch=>Gv (λ(_:Unit)=>Jp ch) W.heap.size (W.heap.size+3) l W.heap.size (W.heap.size+1) (W.heap.size+1+1) L.s (λ_=>True) ())
  (λk a=>Gv (λk=>J (C2 (q.take k)).1.length) W.heap.size (W.heap.size+3) l W.heap.size (W.heap.size+1) (W.heap.size+1+1) L.s (λk=>(C2 (q.take k)).2=true/\∃(b o:Nat) (lt:Int) (P:k < (Cd L).length),(Cd L)[k]'P=#[pV b o,iV lt]/\a={tmps:=#[.func (.yield l) #[] #[],pV Bu 0,pV W.heap.size 0,pV (W.heap.size+1) 0,pV b o,iV lt,undef,undef,undef,undef,undef,undef,undef,undef,undef,undef,undef,undef,undef,undef,.func (.func 100) #[] #[pV W.heap.size 0,pV (W.heap.size+1) 0],pV L.s 0,.func (.func 124) #[] #[pV (W.heap.size+1+1) 0],pV b o,iV lt,undef,undef,undef,undef,undef,undef,undef,undef,undef,undef,undef,undef,undef,undef,undef,undef,undef,undef,undef,undef,undef,undef,undef,undef,undef,undef,undef,undef,undef,undef,undef,undef,undef,undef,undef,undef,undef,undef,undef,undef,undef,undef,undef,undef,undef,undef,undef,undef,undef,undef,undef,undef,undef,undef,undef,undef,undef,undef,undef,undef,undef,undef,undef,undef,undef,undef,undef,undef,undef,undef,undef,undef,undef,undef,undef,undef,undef,undef,undef,undef,undef,undef,undef,undef,undef,undef,undef,undef,undef,undef,undef,undef,undef,undef,undef,undef,undef,undef,undef,undef,undef,undef,undef,undef,undef,undef,undef,undef,undef,undef,undef,undef,undef,undef,undef,undef,undef,undef,undef,undef,undef,undef,undef,undef,undef,undef,undef,undef,undef,undef,undef,undef,undef,undef,undef,undef,undef,undef,undef,undef,undef,undef,undef,undef,undef,undef,undef,undef,undef,undef,undef,undef,undef,undef,undef,undef,undef,undef,undef,undef,undef,undef,undef,undef,undef,undef,undef],defers:=[]}) k)
  ?_ ?_ ?_ ?_ ?_ ?_ (λ_ h=>by cases h) ?_ ?_ ?_ ?_ ?_ ?_
 ·exact Gv.stays eb.o ba.o
 ·rintro c _ O w O' w' ⟨h1,h2⟩ hz ho ht hu P hO
  exact ⟨h1,Gv.stays cl.o ba.o () O w O' w' h2 hz ho ht hu P hO⟩
 ·exact λch _ O w O' w' h hz ho ht hu P hO=>Gv.stays (be.o ch) ba.o () O w O' w' h hz ho ht hu P hO
 ·exact λa=>Gv.stays eb.o ba.o
 ·exact λk O w h=>K3.at A.o (bg.o _ _ _ h.j) h.box.s
 ·exact λc O w h=>K3.at A.o (cg.o _ _ h.2.j) h.2.box.s
 ·refine ⟨HJ.o 0 _ W _ W1 H0.o (by rw[dm.o];omega) bj.o.os bj.o.tape bj.o.output (λb _ F=>bj.o.block b F) (λb hb=>?_),λ_ h=>h.elim,by rw[dm.o];omega,ff.o,rfl⟩
  rcases hb with hb|hb
  ·exact hb.elim
  exact .inr hb.1
 ·intro k P O w lo hI hO hl _
  obtain ⟨b,o,fz,h1,_⟩:=A.o.top.get k P (by rw[<-A.o.top.length];exact P)
  have af:k < (Ba x).length:=by rw[<-A.o.top.length];exact P
  rw[h1]
  generalize ((Ba x)[k]'af).2=lt at h1
  have HI:=yb hI
  have HE:=yb h1
  clear hI hO hl h1
  gi_wp2
  first
  |exact ⟨B7.refl _ _,HI.o.j,HI.o.own,HI.o.size,HI.o.box,HI.o.p,b,o,lt,P,HE.o,rfl⟩
  |(rename_i hK;exact hK _ _ ⟨B7.refl _ _,HI.o.j,HI.o.own,HI.o.size,HI.o.box,HI.o.p,b,o,lt,P,HE.o,rfl⟩)
  |(rename_i hK _;exact hK _ _ ⟨B7.refl _ _,HI.o.j,HI.o.own,HI.o.size,HI.o.box,HI.o.p,b,o,lt,P,HE.o,rfl⟩)
  |fail
 ·rintro k P O w lo a1 hl dp d5 ⟨hj,a7,el,ag,hp,b,o,lt,f8,hx,rfl⟩
  obtain ⟨b',o',cs,h1,h2,h3,h4,h5,h6,h7,h8,h9⟩:=A.o.top.get k P (by rw[<-A.o.top.length];exact P)
  rw[hx] at h1
  have af:k < (Ba x).length:=by rw[<-A.o.top.length];exact P
  have ah:k < q.length:=by rw[fe.o];omega
  have bh:=ew.o k P af ah
  have az:=A.o.few _ (yR af)
  rcases ej:(Ba x)[k] with ⟨ex,g3⟩
  simp only[ej] at h1 h3 h4 h9 bh az
  simp only[qO,zZ,qr,zs,qT,Value.int.injEq,true_and,qp] at h1
  obtain ⟨⟨rfl,rfl⟩,rfl⟩:=h1
  obtain ⟨ea,fp,rfl,e1,e2,e3⟩:=h3.cells
  obtain ⟨r0,r1,r2,r3,r4,r5⟩:=BP h2
  have ac:=bg.o _ _ _ hj
  have hC:=Xt h4
  have c0:=(ac.1 _ hC.1).trans r0
  have c1:=(ac.1 _ h5).trans r1
  have c2:=(ac.1 _ h6).trans r2
  have c3:=(ac.1 _ h7).trans r3
  obtain ⟨z,c4⟩:=ac.2 _ h8
  have c5:=(ac.1 _ hC.2).trans r5
  have b0:Eo ex.op ex.n ex.u ex.rn z ex.args.length=BS ex:=Xu (λh0=>by
   have:=(ac.1 _ (h9 h0)).symm.trans c4
   rw[r4] at this
   simp only[zs,Value.int.injEq,true_and] at this
   exact this.symm)
  have ay:=yb b0
  have cy:KD J (Nq W.heap.size (W.heap.size+3) O) W.heap.size l W.heap.size (W.heap.size+1) (C2 (q.take k)).1.length w:=⟨hj,by omega,λb hb=>hb.elim (d5 b) (λh=>by omega),⟨.inr (by omega),ag.y⟩,⟨.inr (by omega),ag.i⟩⟩
  have bq:=yb cy
  have ca:Yq n l W.heap.size (W.heap.size+1) W.heap.size (Nq W.heap.size (W.heap.size+3) O) X.1 w0 C J Jx Jp:=⟨HJ.o,λk O W h=>(bg.o k O W h).1,λO W h=>(cg.o O W h).1,λk P W' hs=>by
   have:=ak.o k (by simpa using P) _ W' hs.j hs.size (λb hb=>⟨hb.elim (λh=>by have:=a7 b h;omega) (λh=>h.1),hs.own b hb⟩)
   rw[xg] at this
   exact this⟩
  have cb:BS ex=true->C2 (q.take (k+1))=((C2 (q.take k)).1++[],true):=λhl=>by
   rw[O4 ah hp,bh];simp[CN,hl]
  have ce:BS ex=false->q[k]=Cx w0 lt ex b o:=λhl=>by
   rw[bh];simp[CN,hl,hx,Vx]
  have bw:=yb cb
  have bd:BS ex=false->C2 (q.take (k+1))=((C2 (q.take k)).1++(Cx w0 lt ex b o).1,(Cx w0 lt ex b o).2):=λhl=>by
   rw[O4 ah hp,ce hl]
  have e5:=yb bd
  have b5:BS ex=false->∀w3,Below w.heap.size w w3->Calls Tryz.prog 100 #[pV b o,iV lt,pV W.heap.size 0,pV (W.heap.size+1) 0] w3
    (PT J Jx Jp (Nq W.heap.size (W.heap.size+3) O) ((C2 (q.take k)).1.length+(Cx w0 lt ex b o).1.length) (Cx w0 lt ex b o).2 w3):=λhl w3 U=>by
   refine RS n hn l W.heap.size (W.heap.size+1) W.heap.size lt az (Nq W.heap.size (W.heap.size+3) O) X.1 w0 C J Jx Jp ca ex b o (C2 (q.take k)).1 w3 (cy.below HJ.o U) h4 ?_ ?_
   ·obtain ⟨post,bb⟩:=Vw q (k+1)
    rw[bd hl] at bb
    exact ⟨post,by rw[bu.o,bb];simp⟩
   intro hf W' f3
   have d9:=TZ (l:=q) (k:=k+1) (by rw[bd hl];exact hf)
   rw[bd hl] at d9
   refine bv.o (Fg 170) (by rw[bu.o,d9];simp[hf]) _ W' ?_
   rw[bu.o,d9]
   simpa using f3
  have d8:=yb b5
  have bt:=yb a7
  have aj:=yb ag
  have B:=yb el
  have bi:=ag.i
  have f9:=yb (yU w _ bi)
  have fk:=yb d5
  have HP:=yb hp
  have fl:=e1
  clear h2 h3 h4 h5 h6 h7 h8 h9 e2 e3 r0 r1 r2 r3 r4 r5 ac hC b0 cy ca cb bd b5 a7 ag el d5 hp bh ce hj hx ej hl dp f8 af ah az e1
  generalize ex.args.length=em at*
  generalize ep:BS ex=LE at*
  clear ep
  cases LE with
  |true=>
   gi_wp2_with fail
   refine ⟨trivial,zB (CallsIn.inRound lo (zi.2 (L7 _ _ _ _ _ _ _ _ _))) ?_⟩
   rintro e w3 ⟨rfl,U⟩
   rw[ay.o]
   gi_wp2_with fail
   repeat (refine ⟨λ_ h=>(by cases h),?_⟩;gi_wp2_with fail)
   refine ⟨⟨U.size,λb hb=>U.block b (fk.o b hb)⟩,?_,bt.o,yG B.o U.size,?_,?_⟩
   ·have:=(bq.o.below HJ.o U).j
    rw[bw.o (by simp),yE];exact this
   ·have hB:=ba.o
    exact aj.o.same (U.block _ (by have:=B.o;omega)) (U.block _ (by have:=B.o;omega)) (U.block _ (by have:=B.o;omega))
   rw[bw.o (by simp)]
  |false=>
   gi_wp2_with fail
   refine ⟨trivial,zB (CallsIn.inRound lo (zi.2 (L7 _ _ _ _ _ _ _ _ _))) ?_⟩
   rintro e w3 ⟨rfl,U⟩
   rw[ay.o]
   have eg:=(U.cell (p:=(aV (W.heap.size+1) 0)) f9.o).trans bi
   have aa:=yb U
   clear U
   gi_wp2_with fail
   refine ⟨trivial,zB (CallsIn.inRound lo (zi.2 (d8.o (by simp) w3 aa.o))) ?_⟩
   rintro e w4 (⟨r,rfl,aq,(⟨rfl,dq,e4⟩|⟨rfl,db⟩)⟩|⟨ch,rfl,fh,aq⟩)
   ·have R:=yb ((bq.o.sameBelow aa.o).trans aq)
    have f5:=yb e4
    have eu:=yb dq
    clear aq e4 dq bi eg
    gi_wp2_with fail
    refine ⟨R.o.sub (λb hb=>.inl hb),?_,bt.o,yG B.o R.o.1,?_,?_⟩
    ·rw[e5.o (by simp)]
     simp only[yn]
     exact f5.o
    ·exact aj.o.same (R.o.2 _ (.inr (by omega))) (R.o.2 _ (.inr (by omega))) (R.o.2 _ (.inr (by omega)))
    rw[e5.o (by simp)];exact eu.o
   ·have R:=yb ((bq.o.sameBelow aa.o).trans aq)
    have f4:=yb db
    clear aq db bi eg
    gi_wp2_with fail
    exact ⟨R.o.sub (λb hb=>.inl hb),rfl,f4.o,bt.o,yG B.o R.o.1,aj.o.same (R.o.2 _ (.inr (by omega))) (R.o.2 _ (.inr (by omega))) (R.o.2 _ (.inr (by omega))),trivial⟩
   have R:=yb ((bq.o.sameBelow aa.o).trans aq)
   exact ⟨rfl,R.o.sub (λb hb=>.inl hb),fh,bt.o,yG B.o R.o.1,aj.o.same (R.o.2 _ (.inr (by omega))) (R.o.2 _ (.inr (by omega))) (R.o.2 _ (.inr (by omega))),trivial⟩
 ·rintro - Dd O w hD ap hI ai
  have hT:(Eb w0 L x).length=(Cd L).length:=Fx A.o
  have de:q.take (Cd L).length=Eb w0 L x:=by rw[e9.o];unfold F0;rw[<-hT,List.take_left'];rfl
  have cv:=hI.p
  have bk:=hI.j
  simp only[de] at cv bk
  obtain ⟨K0,cr⟩:∃K0,K0=(C2 (Eb w0 L x)).1:=⟨_,rfl⟩
  have dc:X=(K0++(if Cy x then CD L x else []),Cy x):=by
   rw[bu.o,e9.o];unfold F0
   rw[Fk,cv,yz rfl,cr]
   simp only[C2]
   cases Cy x<;>simp
  rw[<-cr] at bk
  have cx:J K0.length (λb=>Nq W.heap.size (W.heap.size+3) O b/\b < w.heap.size) w:=HJ.o _ _ _ _ _ bk (yi _) rfl rfl rfl (λ_ _ _=>rfl) (λb hb=>.inl hb.1)
  have dy:Dd < w.heap.size:=(yd.1 ai).1
  have c8:∀b,Nq W.heap.size (W.heap.size+3) O b->W.heap.size<=b:=λb hb=>hb.elim (λh=>by have:=hI.own b h;omega) (λh=>h.1)
  have bn:∀wr,Below w.heap.size w wr->∀p,C p->wr.cell? p=w0.cell? p:=λwr hb=>(bg.o _ _ _ (CY HJ.o cx hb)).1
  have S:=yb bn
  have ec:=yb cx
  have dj:=yb dc
  have e0:=yb c8
  have aw:=yb dy
  have ed:=yb ap
  have d6:=yb ai
  have co:=yb hI.box
  have c9:=yb hI.size
  have bx:w.cell? (aV Bu 0)=some (pV L.s 0):=(bn w (yg _ _) _ A.o.box).trans A.o.heads.box
  have hf:w.cell? (aV L.s 22)=some (.slice L.farms.a L.farms.n L.farms.c):=(bn w (yg _ _) _ (A.o.src 22 (by omega) (by omega))).trans A.o.heads.farms
  have b4:L.farms.n<=140737488355328:=A.o.ok.farms.1
  clear hT de cv bk cr dc cx dy c8 bn ap ai hI hD
  simp only[Exit.inBlock,Exit.then]
  refine Aa ?_
  go_wp2
  clear bx hf
  go_loopw [6,42] (λv6 iv wr=>∃(i:Nat) (us:List Us),i<=L.farms.n/\iv=iV i/\Hid (us=U0 L x i)/\Hid (Below w.heap.size w wr)/\Hid (Di w.heap.size wr v6 us)) (λ_ iv _=>L.farms.n - (intOf iv).toNat)
  case atStart=>exact ⟨0,[],yC _,rfl,yb rfl,yb (yg _ _),yb (TY _ _)⟩
  obtain ⟨i,us,hi,rfl,G,m,HOr⟩:=hrel
  by_cases F:i < L.farms.n
  ·obtain ⟨b,o,he,a8⟩:=A.o.ok.farms.get F
   have a2:i < x.farms.length:=by rw[<-A.o.nfarms];exact F
   have bx:=(S.o wr m.o _ A.o.box).trans A.o.heads.box
   have hf:wr.cell? (aV L.s 22)=some (.slice L.farms.a L.farms.n L.farms.c):=(S.o wr m.o _ (A.o.src 22 (by omega) (by omega))).trans A.o.heads.farms
   have hr:=(S.o wr m.o _ (A.o.river i a2).1).trans (A.o.river i a2).2
   rw[a8] at hr
   rw[he] at hf
   clear he
   have T:EW L.farms x.farms i=[⟨b,o+i*12+1,4,0,x.farms[i].on.name,x.farms[i].on.n⟩,⟨b,o+i*12+10,if x.farms[i].river then 0 else 3,0,x.farms[i].crop.name,x.farms[i].crop.n⟩]:=by
    unfold EW;rw[yk a2];simp[DA,a8]
   have ax:(i:Int) < (L.farms.n:Int):=by omega
   cases bm:x.farms[i].river with
   |true=>
    rw[bm] at hr T
    simp only[xi] at T
    have Q:=yb T
    clear T bm
    have E:Hid (Below wr.heap.size wr (wr.drew.alloc (.cells #[pV b (o+i*12+1),iV 4,iV 0,pV b (o+i*12+10),iV 0,iV 0] 158))):=yb ((yg _ _).drew.alloc (yi _) _)
    have M:=yb (Di.up HOr.o E.o)
    have K:Hid (Ce (wr.drew.alloc (.cells #[pV b (o+i*12+1),iV 4,iV 0,pV b (o+i*12+10),iV 0,iV 0] 158)) (.slice (some (aV wr.heap.size 0)) 2 2) 2 3 ([(⟨b,o+i*12+1,4,0,x.farms[i].on.name,x.farms[i].on.n⟩:Us),(⟨b,o+i*12+10,0,0,x.farms[i].crop.name,x.farms[i].crop.n⟩:Us)].flatMap Bb)):=yb (Hn (us:=[(⟨b,o+i*12+1,4,0,x.farms[i].on.name,x.farms[i].on.n⟩:Us),(⟨b,o+i*12+10,0,0,x.farms[i].crop.name,x.farms[i].crop.n⟩:Us)]) (World.alloc_heap_new wr.drew _) 2)
    have H:Hid (us.length+2<=1000000):=yb (by have h1:=PU (x:=x) F;have h2:=A.o.short;have h3:=Q.o;have h4:=G.o;rw[h3] at h1;rw[h4];simp only[yr,yK] at h1 |-;omega)
    have B:Hid (w.heap.size<=(wr.drew.alloc (.cells #[pV b (o+i*12+1),iV 4,iV 0,pV b (o+i*12+10),iV 0,iV 0] 158)).heap.size):=yb (yG m.o.size E.o.size)
    have a6:=yb (m.o.trans (E.o.mono m.o.size))
    go_wp2_with fail
    go_region_held3 (λ_=>True) (trivial) (first|(refine De w.heap.size rfl _ _ rfl u6 us rfl M.o (.slice (some (aV wr.heap.size 0)) 2 2) [(⟨b,o+i*12+1,4,0,x.farms[i].on.name,x.farms[i].on.n⟩:Us),(⟨b,o+i*12+10,0,0,x.farms[i].crop.name,x.farms[i].crop.n⟩:Us)] rfl K.o H.o B.o ?_;intro ad c w5 t I;have Z:=yb t;have V:=yb (F2 a6.o B.o M.o I);clear t I))
    go_wp2
    exact ⟨⟨i+1,_,by omega,by push_cast;rfl,yb (by rw[G.o,O6,Q.o]),V,Z⟩,by simp[intOf];omega⟩
   |false=>
    rw[bm] at hr T
    simp only[xP,if_false] at T
    have Q:=yb T
    clear T bm
    have E:Hid (Below wr.heap.size wr (wr.drew.alloc (.cells #[pV b (o+i*12+1),iV 4,iV 0,pV b (o+i*12+10),iV 3,iV 0] 158))):=yb ((yg _ _).drew.alloc (yi _) _)
    have M:=yb (Di.up HOr.o E.o)
    have K:Hid (Ce (wr.drew.alloc (.cells #[pV b (o+i*12+1),iV 4,iV 0,pV b (o+i*12+10),iV 3,iV 0] 158)) (.slice (some (aV wr.heap.size 0)) 2 2) 2 3 ([(⟨b,o+i*12+1,4,0,x.farms[i].on.name,x.farms[i].on.n⟩:Us),(⟨b,o+i*12+10,3,0,x.farms[i].crop.name,x.farms[i].crop.n⟩:Us)].flatMap Bb)):=yb (Hn (us:=[(⟨b,o+i*12+1,4,0,x.farms[i].on.name,x.farms[i].on.n⟩:Us),(⟨b,o+i*12+10,3,0,x.farms[i].crop.name,x.farms[i].crop.n⟩:Us)]) (World.alloc_heap_new wr.drew _) 2)
    have H:Hid (us.length+2<=1000000):=yb (by have h1:=PU (x:=x) F;have h2:=A.o.short;have h3:=Q.o;have h4:=G.o;rw[h3] at h1;rw[h4];simp only[yr,yK] at h1 |-;omega)
    have B:Hid (w.heap.size<=(wr.drew.alloc (.cells #[pV b (o+i*12+1),iV 4,iV 0,pV b (o+i*12+10),iV 3,iV 0] 158)).heap.size):=yb (yG m.o.size E.o.size)
    have a6:=yb (m.o.trans (E.o.mono m.o.size))
    go_wp2_with fail
    go_region_held3 (λ_=>True) (trivial) (first|(refine De w.heap.size rfl _ _ rfl u6 us rfl M.o (.slice (some (aV wr.heap.size 0)) 2 2) [(⟨b,o+i*12+1,4,0,x.farms[i].on.name,x.farms[i].on.n⟩:Us),(⟨b,o+i*12+10,3,0,x.farms[i].crop.name,x.farms[i].crop.n⟩:Us)] rfl K.o H.o B.o ?_;intro ad c w5 t I;have Z:=yb t;have V:=yb (F2 a6.o B.o M.o I);clear t I))
    go_wp2
    exact ⟨⟨i+1,_,by omega,by push_cast;rfl,yb (by rw[G.o,O6,Q.o]),V,Z⟩,by simp[intOf];omega⟩
  obtain rfl:i=L.farms.n:=by omega
  have bx:=(S.o wr m.o _ A.o.box).trans A.o.heads.box
  have hf:wr.cell? (aV L.s 23)=some (.slice L.rots.a L.rots.n L.rots.c):=(S.o wr m.o _ (A.o.src 23 (by omega) (by omega))).trans A.o.heads.rots
  have b4:L.rots.n<=140737488355328:=A.o.ok.rots.1
  go_wp2
  clear bx hf
  obtain ⟨fv,rfl⟩:∃z:World,z=wr:=⟨_,rfl⟩
  obtain ⟨fq,rfl⟩:∃z:Value,z=u6:=⟨_,rfl⟩
  go_loopw [6,73] (λv6 iv wr=>∃(i:Nat) (us:List Us),i<=L.rots.n/\iv=iV i/\Hid (us=Nr L x i)/\Hid (Below w.heap.size w wr)/\Hid (Di w.heap.size wr v6 us)) (λ_ iv _=>L.rots.n - (intOf iv).toNat)
  case atStart=>exact ⟨0,us,yC _,rfl,yb (by rw[G.o];simp[Nr]),m,HOr⟩
  clear G m HOr
  obtain ⟨i,us,hi,rfl,G,m,HOr⟩:=hrel
  by_cases F:i < L.rots.n
  ·obtain ⟨b,o,he,a8⟩:=A.o.ok.rots.get F
   have a2:i < x.rots.length:=by rw[<-A.o.nrots];exact F
   have bx:=(S.o wr m.o _ A.o.box).trans A.o.heads.box
   have hf:wr.cell? (aV L.s 23)=some (.slice L.rots.a L.rots.n L.rots.c):=(S.o wr m.o _ (A.o.src 23 (by omega) (by omega))).trans A.o.heads.rots
   rw[he] at hf
   clear he
   have f6:=yb (A.o.nturns i a2)
   have ck:=yb (A.o.ok.turns i F)
   have ei:Hid (∀W,Below w.heap.size w W->W.cell? (aV b (o+i*23+22))=some (.slice (Ac L i).a (Ac L i).n (Ac L i).c)):=yb (λW hW=>by
    have h1:=(S.o W hW _ (A.o.turns i F)).trans (A.o.heads.turns i F)
    rw[a8] at h1;exact h1)
   have Q:Hid (Ho L x.rots i=⟨b,o+i*23+1,4,0,x.rots[i].on.name,x.rots[i].on.n⟩::(List.range (Ac L i).n).flatMap (FG (Ac L i) x.rots[i].turns)):=yb (by
    unfold Ho;rw[yk a2];simp[DA,a8])
   have ax:(i:Int) < (L.rots.n:Int):=by omega
   have ev:(Ac L i).n<=140737488355328:=ck.o.1
   have ez:∀w5:World,Below w.heap.size w w5->True:=λ_ _=>trivial
   clear ez
   have E:Hid (Below wr.heap.size wr (wr.alloc (.cells #[pV b (o+i*23+1),iV 4,iV 0] 158))):=yb ((yg _ _).alloc (yi _) _)
   have M:=yb (Di.up HOr.o E.o)
   have K:Hid (Ce (wr.alloc (.cells #[pV b (o+i*23+1),iV 4,iV 0] 158)) (.slice (some (aV wr.heap.size 0)) 1 1) 1 3 ([(⟨b,o+i*23+1,4,0,x.rots[i].on.name,x.rots[i].on.n⟩:Us)].flatMap Bb)):=yb (Hn (us:=[(⟨b,o+i*23+1,4,0,x.rots[i].on.name,x.rots[i].on.n⟩:Us)]) (World.alloc_heap_new wr _) 1)
   have H:Hid (us.length+1<=1000000):=yb (by have h1:=PV (x:=x) F;have h2:=A.o.short;have h3:=Q.o;have h4:=G.o;rw[h3] at h1;rw[h4];simp only[yr] at h1;omega)
   have B:Hid (w.heap.size<=(wr.alloc (.cells #[pV b (o+i*23+1),iV 4,iV 0] 158)).heap.size):=yb (yG m.o.size E.o.size)
   have a6:=yb (m.o.trans (E.o.mono m.o.size))
   go_wp2_with (first|(at_builtin;refine GK w.heap.size rfl _ _ rfl u6 us rfl M.o (.slice (some (aV wr.heap.size 0)) 1 1) [(⟨b,o+i*23+1,4,0,x.rots[i].on.name,x.rots[i].on.n⟩:Us)] rfl K.o H.o B.o ?_;intro ad c w5 t I;have Z:=yb t;have V:=yb (F2 a6.o B.o M.o I);have ht:=ei.o w5 V.o;clear t I))
   clear bx hf ht
   obtain ⟨wg,rfl⟩:∃z:World,z=wr:=⟨_,rfl⟩
   obtain ⟨vg,rfl⟩:∃z:Value,z=u6:=⟨_,rfl⟩
   go_loopw [6,94] (λv6 iv wr=>∃(k:Nat) (al:List Us),k<=(Ac L i).n/\iv=iV k/\Hid (al=us++(⟨b,o+i*23+1,4,0,x.rots[i].on.name,x.rots[i].on.n⟩::(List.range k).flatMap (FG (Ac L i) x.rots[i].turns)))/\Hid (Below w.heap.size w wr)/\Hid (Di w.heap.size wr v6 al)) (λ_ iv _=>(Ac L i).n - (intOf iv).toNat)
   case atStart=>exact ⟨0,_,yC _,rfl,yb (by simp),V,Z⟩
   clear m HOr V Z
   obtain ⟨k,al,P,rfl,b3,m,HOr⟩:=hrel
   by_cases b9:k < (Ac L i).n
   ·obtain ⟨b2,o2,ek,en⟩:=ck.o.get b9
    have fj:k < x.rots[i].turns.length:=by rw[<-f6.o];exact b9
    have ht:=ei.o wr m.o
    rw[ek] at ht
    clear ek
    have da:Hid (FG (Ac L i) x.rots[i].turns k=[⟨b2,o2+k*8,5,0,(x.rots[i].turns[k]).farm.name,(x.rots[i].turns[k]).farm.n⟩]):=yb (by
     unfold FG;rw[yk fj];simp[DA,en])
    have f7:(k:Int) < ((Ac L i).n:Int):=by omega
    have E:Hid (Below wr.heap.size wr (wr.alloc (.cells #[pV b2 (o2+k*8),iV 5,iV 0] 158))):=yb ((yg _ _).alloc (yi _) _)
    have M:=yb (Di.up HOr.o E.o)
    have K:Hid (Ce (wr.alloc (.cells #[pV b2 (o2+k*8),iV 5,iV 0] 158)) (.slice (some (aV wr.heap.size 0)) 1 1) 1 3 ([(⟨b2,o2+k*8,5,0,(x.rots[i].turns[k]).farm.name,(x.rots[i].turns[k]).farm.n⟩:Us)].flatMap Bb)):=yb (Hn (us:=[(⟨b2,o2+k*8,5,0,(x.rots[i].turns[k]).farm.name,(x.rots[i].turns[k]).farm.n⟩:Us)]) (World.alloc_heap_new wr _) 1)
    have H:Hid (al.length+1<=1000000):=yb (by have h1:=PV (x:=x) F;have h2:=A.o.short;have h3:=Q.o;have h4:=G.o;have h5:=GJ (f:=FG (Ac L i) x.rots[i].turns) b9;have h6:=da.o;rw[h6] at h5;rw[h3] at h1;rw[b3.o,h4];simp only[yr,yn,yK] at h1 h5 |-;omega)
    have B:Hid (w.heap.size<=(wr.alloc (.cells #[pV b2 (o2+k*8),iV 5,iV 0] 158)).heap.size):=yb (yG m.o.size E.o.size)
    have a6:=yb (m.o.trans (E.o.mono m.o.size))
    go_wp2_with (first|(at_builtin;refine GK w.heap.size rfl _ _ rfl u6 al rfl M.o (.slice (some (aV wr.heap.size 0)) 1 1) [(⟨b2,o2+k*8,5,0,(x.rots[i].turns[k]).farm.name,(x.rots[i].turns[k]).farm.n⟩:Us)] rfl K.o H.o B.o ?_;intro ad c w5 t I;have Z:=yb t;have V:=yb (F2 a6.o B.o M.o I);clear t I))
    exact ⟨⟨k+1,_,by omega,by push_cast;rfl,yb (by rw[b3.o,Aw,da.o];simp),V,Z⟩,by simp[intOf];omega⟩
   obtain rfl:k=(Ac L i).n:=by omega
   have f7:decide (((Ac L i).n:Int) < ((Ac L i).n:Int))=false:=by simp
   go_wp2
   exact ⟨⟨i+1,al,by omega,by push_cast;rfl,yb (by rw[b3.o,G.o,U3,Q.o]),m,HOr⟩,by simp[intOf];omega⟩
  obtain rfl:i=L.rots.n:=by omega
  have bx:=(S.o wr m.o _ A.o.box).trans A.o.heads.box
  have hf:wr.cell? (aV L.s 24)=some (.slice L.rights.a L.rights.n L.rights.c):=(S.o wr m.o _ (A.o.src 24 (by omega) (by omega))).trans A.o.heads.rights
  have b4:L.rights.n<=140737488355328:=A.o.ok.rights.1
  go_wp2
  clear bx hf
  obtain ⟨g2,rfl⟩:∃z:World,z=wr:=⟨_,rfl⟩
  obtain ⟨g5,rfl⟩:∃z:Value,z=u6:=⟨_,rfl⟩
  go_loopw [6,115] (λv6 iv wr=>∃(i:Nat) (us:List Us),i<=L.rights.n/\iv=iV i/\Hid (us=Ns L x i)/\Hid (Below w.heap.size w wr)/\Hid (Di w.heap.size wr v6 us)/\Hid (∀j (h:j < x.rights.length),j < i->IB x.rights[j].kind=true)) (λ_ iv _=>L.rights.n - (intOf iv).toNat)
  case atStart=>exact ⟨0,us,yC _,rfl,yb (by rw[G.o];simp[Ns]),m,HOr,yb (λj _ hj=>by omega)⟩
  clear G m HOr
  obtain ⟨i,us,hi,rfl,G,m,HOr,HK⟩:=hrel
  by_cases F:i < L.rights.n
  ·obtain ⟨b,o,he,a8⟩:=A.o.ok.rights.get F
   have a2:i < x.rights.length:=by rw[<-A.o.nrights];exact F
   have bx:=(S.o wr m.o _ A.o.box).trans A.o.heads.box
   have hf:wr.cell? (aV L.s 24)=some (.slice L.rights.a L.rights.n L.rights.c):=(S.o wr m.o _ (A.o.src 24 (by omega) (by omega))).trans A.o.heads.rights
   have hr:=(S.o wr m.o _ (A.o.kind i a2).1).trans (A.o.kind i a2).2
   rw[a8,qC] at hr
   rw[he] at hf
   clear he
   have T:Dr L.rights x.rights i=[⟨b,o+i*37+2,5,0,x.rights[i].farm.name,x.rights[i].farm.n⟩,⟨b,o+i*37+4,if x.rights[i].kind=1 then 0 else 4,0,x.rights[i].reach.name,x.rights[i].reach.n⟩]:=by
    unfold Dr;rw[yk a2];simp[DA,a8]
   have ax:(i:Int) < (L.rights.n:Int):=by omega
   have bo:Hid (IB x.rights[i].kind=true->∀j (h:j < x.rights.length),j < i+1->IB x.rights[j].kind=true):=yb (λh j hj fu=>by
    rcases xp j i with h9|h9
    ·exact HK.o j hj h9
    obtain rfl:j=i:=by omega
    exact h)
   have bp:Hid (IB x.rights[i].kind=false->Cy x=false):=yb (λh=>by
    unfold Cy;rw[xH];exact ⟨_,yR a2,by simp[h]⟩)
   by_cases P:IB x.rights[i].kind=true
   ·have eh:=yb (bo.o P)
    simp only[IB,yw,yM] at P
    obtain ⟨k1,k3⟩:=P
    by_cases au:x.rights[i].kind=1
    ·rw[yz au] at T
     have Q:=yb T
     clear T bo bp
     have et:(x.rights[i].kind==1)=true:=by simpa using au
     have E:Hid (Below wr.heap.size wr (wr.drew.alloc (.cells #[pV b (o+i*37+2),iV 5,iV 0,pV b (o+i*37+4),iV 0,iV 0] 158))):=yb ((yg _ _).drew.alloc (yi _) _)
     have M:=yb (Di.up HOr.o E.o)
     have K:Hid (Ce (wr.drew.alloc (.cells #[pV b (o+i*37+2),iV 5,iV 0,pV b (o+i*37+4),iV 0,iV 0] 158)) (.slice (some (aV wr.heap.size 0)) 2 2) 2 3 ([(⟨b,o+i*37+2,5,0,x.rights[i].farm.name,x.rights[i].farm.n⟩:Us),(⟨b,o+i*37+4,0,0,x.rights[i].reach.name,x.rights[i].reach.n⟩:Us)].flatMap Bb)):=yb (Hn (us:=[(⟨b,o+i*37+2,5,0,x.rights[i].farm.name,x.rights[i].farm.n⟩:Us),(⟨b,o+i*37+4,0,0,x.rights[i].reach.name,x.rights[i].reach.n⟩:Us)]) (World.alloc_heap_new wr.drew _) 2)
     have H:Hid (us.length+2<=1000000):=yb (by have h1:=PW (x:=x) F;have h2:=A.o.short;have h3:=Q.o;have h4:=G.o;rw[h3] at h1;rw[h4];simp only[yr,yK] at h1 |-;omega)
     have B:Hid (w.heap.size<=(wr.drew.alloc (.cells #[pV b (o+i*37+2),iV 5,iV 0,pV b (o+i*37+4),iV 0,iV 0] 158)).heap.size):=yb (yG m.o.size E.o.size)
     have a6:=yb (m.o.trans (E.o.mono m.o.size))
     go_wp2_with (first|(go_at_call 98;refine (CX _ _).mono ?_;rintro e w6 ⟨rfl,cm⟩;obtain rfl:=cm.symm))
     go_region_held3 (λ_=>True) (trivial) (first|(refine De w.heap.size rfl _ _ rfl u6 us rfl M.o (.slice (some (aV wr.heap.size 0)) 2 2) [(⟨b,o+i*37+2,5,0,x.rights[i].farm.name,x.rights[i].farm.n⟩:Us),(⟨b,o+i*37+4,0,0,x.rights[i].reach.name,x.rights[i].reach.n⟩:Us)] rfl K.o H.o B.o ?_;intro ad c w5 t I;have Z:=yb t;have V:=yb (F2 a6.o B.o M.o I);clear t I))
     go_wp2
     exact ⟨⟨i+1,_,by omega,by push_cast;rfl,yb (by rw[G.o,O7,Q.o]),V,Z,eh⟩,by simp[intOf];omega⟩
    rw[ym au] at T
    have Q:=yb T
    clear T bo bp
    have et:(x.rights[i].kind==1)=false:=by simpa using au
    have E:Hid (Below wr.heap.size wr (wr.drew.alloc (.cells #[pV b (o+i*37+2),iV 5,iV 0,pV b (o+i*37+4),iV 4,iV 0] 158))):=yb ((yg _ _).drew.alloc (yi _) _)
    have M:=yb (Di.up HOr.o E.o)
    have K:Hid (Ce (wr.drew.alloc (.cells #[pV b (o+i*37+2),iV 5,iV 0,pV b (o+i*37+4),iV 4,iV 0] 158)) (.slice (some (aV wr.heap.size 0)) 2 2) 2 3 ([(⟨b,o+i*37+2,5,0,x.rights[i].farm.name,x.rights[i].farm.n⟩:Us),(⟨b,o+i*37+4,4,0,x.rights[i].reach.name,x.rights[i].reach.n⟩:Us)].flatMap Bb)):=yb (Hn (us:=[(⟨b,o+i*37+2,5,0,x.rights[i].farm.name,x.rights[i].farm.n⟩:Us),(⟨b,o+i*37+4,4,0,x.rights[i].reach.name,x.rights[i].reach.n⟩:Us)]) (World.alloc_heap_new wr.drew _) 2)
    have H:Hid (us.length+2<=1000000):=yb (by have h1:=PW (x:=x) F;have h2:=A.o.short;have h3:=Q.o;have h4:=G.o;rw[h3] at h1;rw[h4];simp only[yr,yK] at h1 |-;omega)
    have B:Hid (w.heap.size<=(wr.drew.alloc (.cells #[pV b (o+i*37+2),iV 5,iV 0,pV b (o+i*37+4),iV 4,iV 0] 158)).heap.size):=yb (yG m.o.size E.o.size)
    have a6:=yb (m.o.trans (E.o.mono m.o.size))
    go_wp2_with (first|(go_at_call 98;refine (CX _ _).mono ?_;rintro e w6 ⟨rfl,cm⟩;obtain rfl:=cm.symm))
    go_region_held3 (λ_=>True) (trivial) (first|(refine De w.heap.size rfl _ _ rfl u6 us rfl M.o (.slice (some (aV wr.heap.size 0)) 2 2) [(⟨b,o+i*37+2,5,0,x.rights[i].farm.name,x.rights[i].farm.n⟩:Us),(⟨b,o+i*37+4,4,0,x.rights[i].reach.name,x.rights[i].reach.n⟩:Us)] rfl K.o H.o B.o ?_;intro ad c w5 t I;have Z:=yb t;have V:=yb (F2 a6.o B.o M.o I);clear t I))
    go_wp2
    exact ⟨⟨i+1,_,by omega,by push_cast;rfl,yb (by rw[G.o,O7,Q.o]),V,Z,eh⟩,by simp[intOf];omega⟩
   have es:=yb (bp.o (by simpa using P))
   clear bp bo T
   have cd:Hid (∀W',Below w.heap.size w W'->∀ob,∃O,Jp (Fg 170) O (W'.putObj Dd ob)):=yb (λW' hW ob=>by
    have hX:=dj.o
    rw[es.o] at hX
    have hj:=CY HJ.o ec.o hW
    refine ⟨_,(be.o (Fg 170)).put (s:=()) ?_ _ (bv.o (Fg 170) (by rw[hX];rfl) _ W' (by rw[hX];simpa using hj))⟩
    exact .inl ⟨.inl ed.o,aw.o⟩)
   by_cases au:1<=x.rights[i].kind
   ·have ah:¬ x.rights[i].kind<=3:=λh=>P (by simp[IB,au,h])
    clear P
    go_wp2_with (first|(go_at_call 98;refine (CM _ _).mono ?_;rintro e w6 ⟨rfl,rfl⟩))
    exact ⟨by simp,.inl ⟨_,_,rfl,run_takeDeferred ((m.o.block Dd aw.o).trans d6.o),.inr ⟨_,rfl,cd.o _ m.o _⟩⟩⟩
   clear P
   go_wp2_with (first|(go_at_call 98;refine (CM _ _).mono ?_;rintro e w6 ⟨rfl,rfl⟩))
   exact ⟨by simp,.inl ⟨_,_,rfl,run_takeDeferred ((m.o.block Dd aw.o).trans d6.o),.inr ⟨_,rfl,cd.o _ m.o _⟩⟩⟩
  obtain rfl:i=L.rights.n:=by omega
  have f2:Hid (Cy x=true):=yb (by
   unfold Cy;rw[zj];intro d hd
   obtain ⟨j,hj,rfl⟩:=zq.1 hd
   exact HK.o j hj (by rw[A.o.nrights];exact hj))
  have bx:=(S.o wr m.o _ A.o.box).trans A.o.heads.box
  have hf:wr.cell? (aV L.s 25)=some (.slice L.duties.a L.duties.n L.duties.c):=(S.o wr m.o _ (A.o.src 25 (by omega) (by omega))).trans A.o.heads.duties
  have b4:L.duties.n<=140737488355328:=A.o.ok.duties.1
  go_wp2
  clear bx hf
  obtain ⟨fw,rfl⟩:∃z:World,z=wr:=⟨_,rfl⟩
  obtain ⟨fx,rfl⟩:∃z:Value,z=u6:=⟨_,rfl⟩
  go_loopw [6,160] (λv6 iv wr=>∃(i:Nat) (us:List Us),i<=L.duties.n/\iv=iV i/\Hid (us=OU L x i)/\Hid (Below w.heap.size w wr)/\Hid (Di w.heap.size wr v6 us)) (λ_ iv _=>L.duties.n - (intOf iv).toNat)
  case atStart=>exact ⟨0,us,yC _,rfl,yb (by rw[G.o];simp[OU]),m,HOr⟩
  clear G m HOr
  obtain ⟨i,us,hi,rfl,G,m,HOr⟩:=hrel
  by_cases F:i < L.duties.n
  ·obtain ⟨b,o,he,a8⟩:=A.o.ok.duties.get F
   have a2:i < x.duties.length:=by rw[<-A.o.nduties];exact F
   have bx:=(S.o wr m.o _ A.o.box).trans A.o.heads.box
   have hf:wr.cell? (aV L.s 25)=some (.slice L.duties.a L.duties.n L.duties.c):=(S.o wr m.o _ (A.o.src 25 (by omega) (by omega))).trans A.o.heads.duties
   rw[he] at hf
   clear he
   have Q:Hid (EB L.duties x.duties i=[⟨b,o+i*11+1,5,0,x.duties[i].farm.name,x.duties[i].farm.n⟩,⟨b,o+i*11+3,4,0,x.duties[i].reach.name,x.duties[i].reach.n⟩]):=yb (by
    unfold EB;rw[yk a2];simp[DA,a8])
   have ax:(i:Int) < (L.duties.n:Int):=by omega
   have E:Hid (Below wr.heap.size wr (wr.drew.alloc (.cells #[pV b (o+i*11+1),iV 5,iV 0,pV b (o+i*11+3),iV 4,iV 0] 158))):=yb ((yg _ _).drew.alloc (yi _) _)
   have M:=yb (Di.up HOr.o E.o)
   have K:Hid (Ce (wr.drew.alloc (.cells #[pV b (o+i*11+1),iV 5,iV 0,pV b (o+i*11+3),iV 4,iV 0] 158)) (.slice (some (aV wr.heap.size 0)) 2 2) 2 3 ([(⟨b,o+i*11+1,5,0,x.duties[i].farm.name,x.duties[i].farm.n⟩:Us),(⟨b,o+i*11+3,4,0,x.duties[i].reach.name,x.duties[i].reach.n⟩:Us)].flatMap Bb)):=yb (Hn (us:=[(⟨b,o+i*11+1,5,0,x.duties[i].farm.name,x.duties[i].farm.n⟩:Us),(⟨b,o+i*11+3,4,0,x.duties[i].reach.name,x.duties[i].reach.n⟩:Us)]) (World.alloc_heap_new wr.drew _) 2)
   have H:Hid (us.length+2<=1000000):=yb (by have h1:=VA (x:=x) F;have h2:=A.o.short;have h3:=Q.o;have h4:=G.o;rw[h3] at h1;rw[h4];simp only[yr,yK] at h1 |-;omega)
   have B:Hid (w.heap.size<=(wr.drew.alloc (.cells #[pV b (o+i*11+1),iV 5,iV 0,pV b (o+i*11+3),iV 4,iV 0] 158)).heap.size):=yb (yG m.o.size E.o.size)
   have a6:=yb (m.o.trans (E.o.mono m.o.size))
   go_wp2_with fail
   go_region_held3 (λ_=>True) (trivial) (first|(refine De w.heap.size rfl _ _ rfl u6 us rfl M.o (.slice (some (aV wr.heap.size 0)) 2 2) [(⟨b,o+i*11+1,5,0,x.duties[i].farm.name,x.duties[i].farm.n⟩:Us),(⟨b,o+i*11+3,4,0,x.duties[i].reach.name,x.duties[i].reach.n⟩:Us)] rfl K.o H.o B.o ?_;intro ad c w5 t I;have Z:=yb t;have V:=yb (F2 a6.o B.o M.o I);clear t I))
   go_wp2
   exact ⟨⟨i+1,_,by omega,by push_cast;rfl,yb (by rw[G.o,U4,Q.o]),V,Z⟩,by simp[intOf];omega⟩
  obtain rfl:i=L.duties.n:=by omega
  have dn:Hid (us=CD L x):=yb (by rw[G.o];exact Ma L x)
  have cp:Hid (X=(K0++us,true)):=yb (by rw[dj.o,f2.o,dn.o];rfl)
  have fy:us.length<=1000000:=by rw[dn.o];exact A.o.short
  obtain ⟨va,vc,rfl, -⟩:=Xr HOr.o
  obtain ⟨wl,rfl⟩:∃z:World,z=wr:=⟨_,rfl⟩
  obtain ⟨O3,ao⟩:∃O3:NP,O3=λb=>(Nq W.heap.size (W.heap.size+3) O b/\b < w.heap.size)\/(w.heap.size<=b/\b < wl.heap.size):=⟨_,rfl⟩
  have dg:J K0.length O3 wl:=by rw[ao];exact CY HJ.o ec.o m.o
  have U:∀b,O3 b->W.heap.size<=b/\b < wl.heap.size:=λb hb=>by
   rw[ao] at hb
   rcases hb with hb|hb
   ·exact ⟨e0.o b hb.1,yx hb.2 m.o.size⟩
   have:=c9.o;omega
  have dt:O3 Dd:=by rw[ao];exact .inl ⟨.inl ed.o,aw.o⟩
  have ee:O3 W.heap.size/\wl.cell? (aV W.heap.size 0)=some (.func (.yield l) #[] #[]):=by
   have h1:=c9.o
   refine ⟨by rw[ao];exact .inl ⟨.inr ⟨yi _,by omega⟩,by omega⟩,(m.o.cell (p:=(aV W.heap.size 0)) (by show W.heap.size < w.heap.size;omega)).trans co.o.y⟩
  have dv:∀g,w.heap.size<=g->g < wl.heap.size->O3 g:=λg h1 h2=>by rw[ao];exact .inr ⟨h1,h2⟩
  have b7:=yb ((m.o.block Dd aw.o).trans d6.o)
  have d7:=yb dv
  have f0:=yb dg
  have aa:=yb U
  have an:=yb dt
  have cw:=yb ee
  clear ao dg U dt ee dv
  go_wp2
  go_loopw [183] (λiv wr=>∃i:Nat,i<=us.length/\iv=iV i/\Hid (J (K0.length+i) O3 wr)/\Hid (B7 O3 wl wr)) (λiv _=>us.length - (intOf iv).toNat)
  case atStart=>exact ⟨0,yC _,rfl,f0,yb (B7.refl _ _)⟩
  obtain ⟨i,hi,rfl,dz,am⟩:=hrel
  by_cases F:i < us.length
  ·obtain ⟨g,c,hv,cz,cq,dr,c0,c1,c2⟩:=Vz HOr.o F
   simp only[Value.slice.injEq,true_and] at hv
   obtain ⟨rfl,rfl⟩:=hv
   have d0:=DE am.o (d7.o g cz cq) c0
   have d1:=DE am.o (d7.o g cz cq) c1
   have d2:=DE am.o (d7.o g cz cq) c2
   have P:K0.length+i < (X.1.map Us.v).length:=by rw[cp.o];simp;exact F
   have dl:(X.1.map Us.v)[K0.length+i]=us[i].v:=by
    rw[xg]
    have h1:X.1[K0.length+i]?=some us[i]:=by rw[cp.o];simp[zn,yk F]
    obtain ⟨h2,h3⟩:=yF.1 h1
    rw[h3]
   generalize us[i]=u at*
   have ae:Below wr.heap.size wr (wr.alloc (.cells #[pV u.b u.o,iV u.to,iV u.at_] 158)):=(yg _ _).alloc (yi _) _
   have dw:B7 O3 wr (wr.alloc (.cells #[pV u.b u.o,iV u.to,iV u.at_] 158)):=⟨ae.size,λb hb=>ae.block b (yx (aa.o b hb).2 am.o.1)⟩
   have dd:J (K0.length+i) O3 (wr.alloc (.cells #[pV u.b u.o,iV u.to,iV u.at_] 158)):=HJ.o _ _ _ _ _ dz.o ae.size ae.os ae.tape ae.output (λb _ hl=>ae.block b hl) (λb hb=>.inl hb)
   have av:=yb (am.o.trans dw)
   obtain ⟨ft,fa,dx,eo,hy,e7⟩:=ak.o (K0.length+i) P O3 _ dd (yG (by have:=(aa.o _ cw.o.1).2;omega) av.o.1) (λb hb=>⟨(aa.o b hb).1,yx (aa.o b hb).2 av.o.1⟩)
   rw[dl] at hy
   unfold Us.v at hy
   have ey:=yb e7
   have q3:=DE av.o cw.o.1 cw.o.2
   have ax:(i:Int) < (us.length:Int):=by omega
   have fm:=dr
   clear P dl e7 ae dw dd c0 c1 c2 dr
   go_upto_region 47 with fail
   refine (xV (n:=n)).1 ?_
   gi_wp2
   refine ey.o.mono ?_
   rintro e W6 (⟨rfl,hj,hs⟩|⟨rfl,hx,hs⟩|⟨ch,rfl,hp,hs⟩)
   ·have fg:=yb hj
    have b8:=yb (av.o.trans hs)
    clear hj hs hy q3 d0 d1 d2
    gi_wp2
    go_wp2
    exact ⟨⟨i+1,by omega,by push_cast;rfl,fg,b8⟩,by simp[intOf];omega⟩
   ·have er:=yb hx
    have b8:=yb (av.o.trans hs)
    clear hx hs hy q3 d0 d1 d2
    gi_wp2
    go_wp2
    exact ⟨by simp,.inl ⟨_,_,rfl,run_takeDeferred ((b8.o.2 Dd an.o).trans b7.o),⟨_,zr rfl _ _ _,.inl ⟨⟨_,rfl⟩,.inr ⟨O3,cl.o.put (s:=()) an.o _ er.o⟩⟩⟩⟩⟩
   have b8:=yb (av.o.trans hs)
   exact ⟨by simp,.inl ⟨_,_,rfl,run_takeDeferred ((b8.o.2 Dd an.o).trans b7.o),.inr ⟨ch,rfl,O3,(be.o ch).put (s:=()) an.o _ hp⟩⟩⟩
  obtain rfl:i=us.length:=by omega
  have ax:decide ((us.length:Int) < (us.length:Int))=false:=by simp
  have di:Hid (X.2=true/\J X.1.length O3 wr):=yb (by rw[cp.o];exact ⟨rfl,by rw[yn];exact dz.o⟩)
  go_wp2
  exact ⟨by simp,.inl ⟨_,_,rfl,run_takeDeferred ((am.o.2 Dd an.o).trans b7.o),⟨_,zr rfl _ _ _,.inl ⟨⟨_,rfl⟩,.inl ⟨by simp[di.o.1],O3,HJ.o.put an.o _ di.o.2⟩⟩⟩⟩⟩
 ·rintro D c O w hD ap ⟨rfl,hI⟩ ai
  gi_wp2
  refine ⟨by simp,.inl ⟨_,_,rfl,run_takeDeferred ai,⟨_,zr rfl _ _ _,.inl ⟨⟨_,rfl⟩,.inr ⟨Nq W.heap.size (W.heap.size+3) O,?_⟩⟩⟩⟩⟩
  exact cl.o.put (s:=()) (.inl ap) _ hI.j
 rintro D ch O w hD ap hI ai
 exact ⟨by simp,.inl ⟨_,_,rfl,run_takeDeferred ai,.inr ⟨ch,rfl,Nq W.heap.size (W.heap.size+3) O,(be.o ch).put (s:=()) (.inl ap) _ hI.j⟩⟩⟩
end Go.Proofs.YtbdfinegbjdblaaGreatDoor

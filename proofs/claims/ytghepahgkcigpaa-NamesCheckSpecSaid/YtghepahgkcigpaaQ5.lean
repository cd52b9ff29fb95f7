/- The iterator over a source's references: the walk. -/
import Derived.Test.YtghepahgkcigpaaQ0
import Derived.Test.YtghepahgkcigpaaQ3
import Derived.Deep.RegionHeld3
set_option maxRecDepth 100000
set_option maxHeartbeats 16000000
set_option linter.unusedSimpArgs false
namespace Go.Proofs.Ytghepahgkcigpaa
open Go.RowKit
attribute [local go_sem] Oper.semAt_some
def MQ(B0 B1:Nat)(O:NP)(b:Nat):Prop:=O b∨(B0<=b∧b < B1)
structure TU (l By Bi Bs s:Nat) (W:World):Prop where
 y:W.cell? ⟨By,0,none⟩=some (.func (.yield l) #[] #[])
 i:W.cell? ⟨Bi,0,none⟩=some (.func (.func 82) #[] #[.pointer (some ⟨By,0,none⟩),.pointer (some ⟨Bi,0,none⟩)])
 s:W.cell? ⟨Bs,0,none⟩=some (.pointer (some ⟨s,0,none⟩))
theorem TU.same{l By Bi Bs s:Nat}{W W':World}(h:TU l By Bi Bs s W)(h1:W'.heap[By]?=W.heap[By]?)(h2:W'.heap[Bi]?=W.heap[Bi]?)(h3:W'.heap[Bs]?=W.heap[Bs]?):TU l By Bi Bs s W':=by
 obtain ⟨a,b,c⟩:=h
 unfold World.cell? at a b c
 exact ⟨by unfold World.cell?;rw[h1];exact a,by unfold World.cell?;rw[h2];exact b,by unfold World.cell?;rw[h3];exact c⟩
structure H2 {β:Type} (J:β->(Nat->Prop)->World->Prop) (B0 B1 l By Bi Bs s:Nat) (p:β->Prop) (k:β) (O:Nat->Prop) (W:World):Prop where
 j:J k (MQ B0 B1 O) W
 own:∀b,O b->B1<=b
 size:B1<=W.heap.size
 box:TU l By Bi Bs s W
 p:p k
section
variable{β:Type}{J:β->NP->World->Prop}{B0 B1 l By Bi Bs s:Nat}{p:β->Prop}
theorem H2.stays(q:Ep J)(e:(B0<=By∧By < B1)∧(B0<=Bi∧Bi < B1)∧(B0<=Bs∧Bs < B1)):Ep (H2 J B0 B1 l By Bi Bs s p):=by
 intro k O W r W' h i m n o g f
 have a:∀b,b < B1->W'.heap[b]?=W.heap[b]?:=fun b hb=>g b (fun c=>by have:=h.own b c;omega) (yk hb h.size)
 refine ⟨q k _ W _ W' h.j i m n o (fun b hb d=>g b (fun c=>hb (.inl c)) d) (fun b hb=>?_),fun b hb=>?_,yo h.size i,h.box.same (a _ e.1.2) (a _ e.2.1.2) (a _ e.2.2.2),h.p⟩
 ·rcases hb with hb|hb
  ·rcases f b hb with h1|h1
   ·exact .inl (.inl h1)
   ·exact .inr h1
  ·exact .inl (.inr hb)
 ·rcases f b hb with h1|h1
  ·exact h.own b h1
  ·have:=h.size;omega
end
theorem JW.at{N:NP}{b W:World}{C D:Addr->Prop}{Bu Bs:Nat}{L:BL}{x:AA}(a:LS N b C D Bu L x)(hd:X7 b C D W)(hb:W.cell? ⟨Bs,0,none⟩=some (.pointer (some ⟨L.s,0,none⟩))):JW L Bs W:=
 ⟨hb,(hd.1 _ (a.src 19 (by omega) (by omega))).trans a.heads.lets,(hd.1 _ (a.src 20 (by omega) (by omega))).trans a.heads.crops,(hd.1 _ (a.src 21 (by omega) (by omega))).trans a.heads.reaches,(hd.1 _ (a.src 22 (by omega) (by omega))).trans a.heads.farms,
  (hd.1 _ (a.src 23 (by omega) (by omega))).trans a.heads.rots,(hd.1 _ (a.src 24 (by omega) (by omega))).trans a.heads.rights,(hd.1 _ (a.src 25 (by omega) (by omega))).trans a.heads.duties,fun i hi=>(hd.1 _ (a.turns i hi)).trans (a.heads.turns i hi)⟩
theorem Dz.up{B:Nat}{w w':World}{v:Value}{us:List Us}(h:Dz B w v us)(hb:Below w.heap.size w w'):Dz B w' v us:=by
 obtain ⟨h1,h2⟩:=h
 refine ⟨h1,h2.imp id ?_⟩
 rintro ⟨g,cap,a,h3,h4,h5,h6⟩
 exact ⟨g,cap,a,h3,h4,(hb.block g (yd.1 h5).1).trans h5,h6⟩
theorem Ff{B:Nat}{c w w':World}{v:Value}{us:List Us}(d:Below B c w)(i:B<=w.heap.size)(f:Dz B w v us)(a:w.grownBy w' v.ownBlock):Below B c w':=by
 refine d.trans ⟨a.os,a.tape,a.output,a.size,fun b hb=>a.block b (by omega) (fun e=>?_)⟩
 rcases f.2 with ⟨rfl,_⟩|⟨g,cap,h,rfl,h4,_⟩
 ·cases e
 ·simp only[Value.ownBlock,yZ] at e
  omega
theorem TV{B:Nat}{w:World}{v:Value}{us:List Us}(h:Dz B w v us){i:Nat}(hi:i < us.length):
  ∃g c,v=.slice (some ⟨g,0,none⟩) us.length c∧B<=g∧g < w.heap.size∧us.length<=maxLen∧w.cell? ⟨g,i*3,none⟩=some (.pointer (some ⟨us[i].b,us[i].o,none⟩))∧w.cell? ⟨g,i*3+1,none⟩=some (.int .i64 us[i].to)∧w.cell? ⟨g,i*3+2,none⟩=some (.int .i64 us[i].at_):=by
 obtain ⟨h1,⟨rfl,h2⟩|⟨g,cap,f,rfl,h4,h5,h6,p,q,n⟩⟩:=h
 ·omega
 ·have hc:∀j u,(us.flatMap Bo)[j]?=some u->w.cell? (aV g j)=some u:=by
   intro j u a
   rw[<-n] at a
   have d:=(yA.1 a).1
   rw[yP] at d
   rw[zJ,yu (by omega)] at a
   simp only[World.cell?,h5]
   simpa using a
  have k:∀(us:List Us) (i:Nat) (hi:i < us.length),(us.flatMap Bo)[i*3]?=some (.pointer (some ⟨us[i].b,us[i].o,none⟩))∧(us.flatMap Bo)[i*3+1]?=some (iV us[i].to)∧(us.flatMap Bo)[i*3+2]?=some (iV us[i].at_):=by
   intro us
   induction us with
   |nil=>intro i hi;simp at hi
   |cons x r ih=>
    intro i hi
    cases i with
    |zero=>exact ⟨rfl,rfl,rfl⟩
    |succ i=>
     have:=ih i (by simpa using hi)
     have e:((x::r).flatMap Bo)=Bo x++r.flatMap Bo:=rfl
     rw[e,yJ (by simp[Bo];omega),yJ (by simp[Bo];omega),yJ (by simp[Bo];omega)]
     have hl:(Bo x).length=3:=rfl
     rw[hl,show (i+1)*3 - 3=i*3 by omega,show (i+1)*3+1 - 3=i*3+1 by omega,show (i+1)*3+2 - 3=i*3+2 by omega]
     exact this
  obtain ⟨m,g1,l⟩:=k us i hi
  exact ⟨g,cap,rfl,h4,(yd.1 h5).1,by omega,hc _ _ m,hc _ _ g1,hc _ _ l⟩
theorem V6{B:Nat}{w:World}{v:Value}{us:List Us}(h:Dz B w v us):∃a c,v=.slice a us.length c∧us.length<=maxLen:=by
 obtain ⟨h1,⟨rfl,h2⟩|⟨g,cap,b,rfl,h4,h5,h6,d,e,f⟩⟩:=h
 ·exact ⟨none,0,by rw[h2],by rw[h2];exact yv _⟩
 ·exact ⟨_,_,rfl,by omega⟩
theorem Hi{f:Nat->List Us}{n i:Nat}(h:i < n):((List.range i).flatMap f).length+(f i).length<=((List.range n).flatMap f).length:=by
 obtain ⟨post,a⟩:=Cf f h
 rw[a];simp only[yi];omega
theorem Hj{ops:Array Oper}{rest:List Oper}{o:Oper}{a:Act}{Q:QT}{W:World}(B:Nat)(f:o.guard=none)(s x:Operand)(j:o.op=.call {callee:=.builtin .append,args:=#[s,x],argTypes:=#[151,151]})
 (v:Value)(us:List Us)(hs:a.eval s=v)(e:Dz B W v us)(X:Value)(b:List Us)(m:a.eval x=X)(k:Cx W X b.length 3 (b.flatMap Bo))(g:us.length+b.length<=1000000)(d:B<=W.heap.size)
 (h:∀(i:Option Addr) (c:Nat) w',Dz B w' (.slice i (us.length+b.length) c) (us++b)->W.grownBy w' v.ownBlock->wpList Try.prog ops Q rest (a.put o.dst (.slice i (us.length+b.length) c)) w'):wpList Try.prog ops Q (o::rest) a W:=
 yF f fun _ l=>Of B f s x j v us hs e X b m k g d (fun i c w' h1 h2=>l _ _ (h i c w' h1 h2))
def SS(L:BL)(x:AA)(i:Nat):List Us:=(List.range i).flatMap (F8 L.farms x.farms)
def MS(L:BL)(x:AA)(i:Nat):List Us:=SS L x L.farms.n++(List.range i).flatMap (Ib L x.rots)
def MT(L:BL)(x:AA)(i:Nat):List Us:=MS L x L.rots.n++(List.range i).flatMap (DF L.rights x.rights)
def Ol(L:BL)(x:AA)(i:Nat):List Us:=MT L x L.rights.n++(List.range i).flatMap (EO L.duties x.duties)
theorem LU(L:BL)(x:AA):Ol L x L.duties.n=CV L x:=rfl
theorem Nq(L:BL)(x:AA)(i:Nat):SS L x (i+1)=SS L x i++F8 L.farms x.farms i:=Az _ i
theorem SU(L:BL)(x:AA)(i:Nat):MS L x (i+1)=MS L x i++Ib L x.rots i:=by unfold MS;rw[Az,yg]
theorem Nr(L:BL)(x:AA)(i:Nat):MT L x (i+1)=MT L x i++DF L.rights x.rights i:=by unfold MT;rw[Az,yg]
theorem SV(L:BL)(x:AA)(i:Nat):Ol L x (i+1)=Ol L x i++EO L.duties x.duties i:=by unfold Ol;rw[Az,yg]
theorem S5(L:BL)(x:AA):(MT L x L.rights.n).length<=(CV L x).length:=by rw[<-LU];unfold Ol;simp
theorem S6(L:BL)(x:AA):(MS L x L.rots.n).length<=(CV L x).length:=yo (by unfold MT;simp) (S5 L x)
theorem V7(L:BL)(x:AA):(SS L x L.farms.n).length<=(CV L x).length:=yo (by unfold MS;simp) (S6 L x)
theorem Po{L:BL}{x:AA}{i:Nat}(h:i < L.farms.n):(SS L x i).length+(F8 L.farms x.farms i).length<=(CV L x).length:=yo (Hi h) (V7 L x)
theorem Pq{L:BL}{x:AA}{i:Nat}(h:i < L.rots.n):(MS L x i).length+(Ib L x.rots i).length<=(CV L x).length:=yo (by have:=Hi (f:=Ib L x.rots) h;unfold MS;simp only[yi];omega) (S6 L x)
theorem Pt{L:BL}{x:AA}{i:Nat}(h:i < L.rights.n):(MT L x i).length+(DF L.rights x.rights i).length<=(CV L x).length:=yo (by have:=Hi (f:=DF L.rights x.rights) h;unfold MT;simp only[yi];omega) (S5 L x)
theorem TW{L:BL}{x:AA}{i:Nat}(h:i < L.duties.n):(Ol L x i).length+(EO L.duties x.duties i).length<=(CV L x).length:=by
 have:=Hi (f:=EO L.duties x.duties) h
 rw[<-LU];unfold Ol;simp only[yi];omega
theorem V8{w:World}{C:Addr->Prop}{e:Ex}{b o:Nat}(h:SH w C e b o):C ⟨b,o,none⟩∧C ⟨b,o+5,none⟩:=by
 cases e
 rw[SH] at h
 obtain ⟨_,_,h1,h2,_⟩:=h
 exact ⟨h1.2,h2.2⟩
theorem V9{e:Ex}{z:Int}(h:e.op=0->z=e.ri):EG e.op e.n e.u e.rn z e.args.length=Da e:=by
 unfold Da
 by_cases h0:e.op=0
 ·rw[h h0]
 ·simp[EG,h0]
theorem LW(n:Nat)(hn:1<=n){N:NP}{w0:World}{C D:Addr->Prop}{Bu:Nat}{L:BL}{x:AA}(hU:LS N w0 C D Bu L x):
  VV Fence.wide n Try.prog 81 #[.pointer (some ⟨Bu,0,none⟩)] (X7 w0 C D) ((CG w0 L x).1.map Us.v) (if (CG w0 L x).2 then none else some (Fx 170)):=by
 intro l J Jx Jp W hJ d7 ee cn cb a6 aa h0
 have et:∀(fn:Fn) (first cap:Array Value) (w:World),(Instr.makeFunc fn first cap).run Try.prog w=.ok (.func fn first cap) w:=fun _ _ _ _=>rfl
 obtain ⟨X,hX⟩:∃X,X=CG w0 L x:=⟨_,rfl⟩
 rw[<-hX] at a6 aa ⊢
 have A:=ya hU
 have HX:=ya hX
 have H0:=ya h0
 have HJ:=ya hJ
 have cu:=ya d7
 have bn:=ya ee
 have bm:=ya cn
 have ca:=ya cb
 have c6:=ya a6
 have ai:=ya aa
 have cB:=((cn _ _ _ h0).1 _ hU.box).trans hU.heads.box
 have ef:=ya (zP W _ cB)
 have dB:∀(o o':Obj),((W.alloc o).alloc o').cell? (aV Bu 0)=some (pV L.s 0):=fun o o'=>((((yc W.heap.size W).alloc (ye _) o).alloc (by simp) o').cell (p:=(aV Bu 0)) ef.o).trans cB
 clear hU hX h0 hJ d7 ee cn cb a6 aa cB
 refine za.2 (CM (n:=10) Try.func81 rfl ?_)
 simp only[Try.ntmps81,yp,yC,yK,Nat.reduceAdd,Nat.reduceSub,zQ,zR,xl,xd,yE,yL]
 iterate 3
  refine Aq (Af ?_)
  go_wp2
 refine Aq (Aq (Af ?_))
 go_wp2_with (first|(go_at_call 67;refine (G0 _ _).mono ?_;rintro e w2 ⟨rfl,rfl⟩))
 have bz:Below W.heap.size W (((W.alloc (.cells #[.func (.yield l) #[] #[]] 148)).alloc (.cells #[.func (.func 82) #[] #[pV W.heap.size 0,pV (W.heap.size+1) 0]] 149)).alloc (.cells #[pV L.s 0] 52)):=(((yc _ _).alloc (ye _) _).alloc (by simp) _).alloc (by simp;omega) _
 have c7:TU l W.heap.size (W.heap.size+1) (W.heap.size+1+1) L.s (((W.alloc (.cells #[.func (.yield l) #[] #[]] 148)).alloc (.cells #[.func (.func 82) #[] #[pV W.heap.size 0,pV (W.heap.size+1) 0]] 149)).alloc (.cells #[pV L.s 0] 52)):=by
  refine ⟨?_,?_,?_⟩
  ·refine qe _ (qe _ ?_)
   have:=World.alloc_heap_new W (.cells #[.func (.yield l) #[] #[]] 148)
   simp only[World.cell?,this];simp
  ·refine qe _ ?_
   have:=World.alloc_heap_new (W.alloc (.cells #[.func (.yield l) #[] #[]] 148)) (.cells #[.func (.func 82) #[] #[pV W.heap.size 0,pV (W.heap.size+1) 0]] 149)
   rw[zv] at this
   simp only[World.cell?,this];simp
  ·have:=World.alloc_heap_new ((W.alloc (.cells #[.func (.yield l) #[] #[]] 148)).alloc (.cells #[.func (.func 82) #[] #[pV W.heap.size 0,pV (W.heap.size+1) 0]] 149)) (.cells #[pV L.s 0] 52)
   rw[zv,zv] at this
   simp only[World.cell?,this];simp
 have cd:(((W.alloc (.cells #[.func (.yield l) #[] #[]] 148)).alloc (.cells #[.func (.func 82) #[] #[pV W.heap.size 0,pV (W.heap.size+1) 0]] 149)).alloc (.cells #[pV L.s 0] 52)).heap.size=W.heap.size+3:=by simp
 have bq:=ya bz
 have eg:=ya c7
 have dv:=ya cd
 clear bz c7 cd dB et
 generalize ((W.alloc (.cells #[.func (.yield l) #[] #[]] 148)).alloc (.cells #[.func (.func 82) #[] #[pV W.heap.size 0,pV (W.heap.size+1) 0]] 149)).alloc (.cells #[pV L.s 0] 52)=W1 at*
 obtain ⟨q,Y⟩:∃q,q=Fc w0 L x:=⟨_,rfl⟩
 have dt:q.length=(Cw L).length+1:=by rw[Y];unfold Fc;rw[yi,G1 A.o];rfl
 have dd:∀k (Q:k < (Cw L).length) (ab:k < (Bb x).length) (af:k < q.length),q[k]=D8 w0 (Cw L)[k] (Bb x)[k]:=by
  intro k Q ab af
  apply yh
  rw[<-yl af,Y]
  unfold Fc
  rw[zp (by rw[G1 A.o];exact Q)]
  unfold Et
  rw[List.getElem?_zipWith,yl Q,yl ab]
 have bd:Hid (X=Cm q):=ya (by rw[HX.o,Y];rfl)
 have ep:=ya dt
 have en:=ya dd
 have dk:=ya Y
 have e7:Hid (Ep (fun k=>J (Cm (q.take k)).1.length)):=ya (fun k O W O' W' h hz ho ht hu Q hO=>HJ.o _ O W O' W' h hz ho ht hu Q hO)
 have d8:(W.heap.size<=W.heap.size∧W.heap.size < W.heap.size+3)∧(W.heap.size<=W.heap.size+1∧W.heap.size+1 < W.heap.size+3)∧(W.heap.size<=W.heap.size+1+1∧W.heap.size+1+1 < W.heap.size+3):=by omega
 have b4:=ya d8
 clear dt dd Y d8
 refine F9 ?_
 refine EF (n:=10) Try.func81 rfl (fun _ _=>rfl) (LN 9 (by omega) (W.heap.size+1+1) L A.o.ok) (fun a ha=>by
   obtain ⟨i,hi,rfl⟩:=zc.1 ha
   obtain ⟨b,o,c,h1,_⟩:=A.o.top.get i hi (by rw[<-A.o.top.length];exact hi)
   rw[h1];rfl)
  (H2 (fun k=>J (Cm (q.take k)).1.length) W.heap.size (W.heap.size+3) l W.heap.size (W.heap.size+1) (W.heap.size+1+1) L.s (fun k=>(Cm (q.take k)).2=true))
  (fun c O w=>c=.ret∧H2 (fun (_:Unit)=>Jx) W.heap.size (W.heap.size+3) l W.heap.size (W.heap.size+1) (W.heap.size+1+1) L.s (fun _=>True) () O w)
  (fun ch=>H2 (fun (_:Unit)=>Jp ch) W.heap.size (W.heap.size+3) l W.heap.size (W.heap.size+1) (W.heap.size+1+1) L.s (fun _=>True) ())
  (fun k a=>H2 (fun k=>J (Cm (q.take k)).1.length) W.heap.size (W.heap.size+3) l W.heap.size (W.heap.size+1) (W.heap.size+1+1) L.s (fun k=>(Cm (q.take k)).2=true∧∃(b o:Nat) (lt:Int) (Q:k < (Cw L).length),(Cw L)[k]'Q=#[pV b o,iV lt]∧a={tmps:=#[.func (.yield l) #[] #[],pV Bu 0,pV W.heap.size 0,pV (W.heap.size+1) 0,pV b o,iV lt,undef,undef,undef,undef,undef,undef,undef,undef,undef,undef,undef,undef,undef,undef,.func (.func 82) #[] #[pV W.heap.size 0,pV (W.heap.size+1) 0],pV L.s 0,.func (.func 89) #[] #[pV (W.heap.size+1+1) 0],pV b o,iV lt,undef,undef,undef,undef,undef,undef,undef,undef,undef,undef,undef,undef,undef,undef,undef,undef,undef,undef,undef,undef,undef,undef,undef,undef,undef,undef,undef,undef,undef,undef,undef,undef,undef,undef,undef,undef,undef,undef,undef,undef,undef,undef,undef,undef,undef,undef,undef,undef,undef,undef,undef,undef,undef,undef,undef,undef,undef,undef,undef,undef,undef,undef,undef,undef,undef,undef,undef,undef,undef,undef,undef,undef,undef,undef,undef,undef,undef,undef,undef,undef,undef,undef,undef,undef,undef,undef,undef,undef,undef,undef,undef,undef,undef,undef,undef,undef,undef,undef,undef,undef,undef,undef,undef,undef,undef,undef,undef,undef,undef,undef,undef,undef,undef,undef,undef,undef,undef,undef,undef,undef,undef,undef,undef,undef,undef,undef,undef,undef,undef,undef,undef,undef,undef,undef,undef,undef,undef,undef,undef,undef,undef,undef,undef,undef,undef,undef,undef,undef,undef,undef,undef,undef,undef,undef,undef,undef,undef,undef,undef,undef,undef,undef,undef,undef,undef,undef,undef],defers:=[]}) k)
  ?_ ?_ ?_ ?_ ?_ ?_ (fun _ h=>by cases h) ?_ ?_ ?_ ?_ ?_ ?_
 ·exact H2.stays e7.o b4.o
 ·rintro c _ O w O' w' ⟨h1,h2⟩ hz ho ht hu Q hO
  exact ⟨h1,H2.stays cu.o b4.o () O w O' w' h2 hz ho ht hu Q hO⟩
 ·exact fun ch _ O w O' w' h hz ho ht hu Q hO=>H2.stays (bn.o ch) b4.o () O w O' w' h hz ho ht hu Q hO
 ·exact fun a=>H2.stays e7.o b4.o
 ·exact fun k O w h=>JW.at A.o (bm.o _ _ _ h.j) h.box.s
 ·exact fun c O w h=>JW.at A.o (ca.o _ _ h.2.j) h.2.box.s
 ·refine ⟨HJ.o 0 _ W _ W1 H0.o (by rw[dv.o];omega) bq.o.os bq.o.tape bq.o.output (fun b _ E=>bq.o.block b E) (fun b hb=>?_),fun _ h=>h.elim,by rw[dv.o];omega,eg.o,rfl⟩
  rcases hb with hb|hb
  ·exact hb.elim
  ·exact .inr hb.1
 ·intro k Q O w lo hI hO hl _
  obtain ⟨b,o,fm,h1,_⟩:=A.o.top.get k Q (by rw[<-A.o.top.length];exact Q)
  have ab:k < (Bb x).length:=by rw[<-A.o.top.length];exact Q
  rw[h1]
  generalize ((Bb x)[k]'ab).2=lt at h1
  have HI:=ya hI
  have HE:=ya h1
  clear hI hO hl h1
  gi_wp2
  first
  |exact ⟨Cd.refl _ _,HI.o.j,HI.o.own,HI.o.size,HI.o.box,HI.o.p,b,o,lt,Q,HE.o,rfl⟩
  |(rename_i hK;exact hK _ _ ⟨Cd.refl _ _,HI.o.j,HI.o.own,HI.o.size,HI.o.box,HI.o.p,b,o,lt,Q,HE.o,rfl⟩)
  |(rename_i hK _;exact hK _ _ ⟨Cd.refl _ _,HI.o.j,HI.o.own,HI.o.size,HI.o.box,HI.o.p,b,o,lt,Q,HE.o,rfl⟩)
  |fail
 ·rintro k Q O w lo a1 hl df cp ⟨hj,a6,dh,ac,hp,b,o,lt,ev,hx,rfl⟩
  obtain ⟨b',o',cs,h1,h2,h3,h4,h5,h6,h7,h8,h9⟩:=A.o.top.get k Q (by rw[<-A.o.top.length];exact Q)
  rw[hx] at h1
  have ab:k < (Bb x).length:=by rw[<-A.o.top.length];exact Q
  have af:k < q.length:=by rw[ep.o];omega
  have be:=en.o k Q ab af
  have b7:=A.o.few _ (yw ab)
  rcases d4:(Bb x)[k] with ⟨ex,ff⟩
  simp only[d4] at h1 h3 h4 h9 be b7
  simp only[qp,zq,xV,yZ,qv,Value.int.injEq,qk,and_true] at h1
  obtain ⟨⟨rfl,rfl⟩,rfl⟩:=h1
  obtain ⟨ea,fa,rfl,e1,e2,e3⟩:=h3.cells
  obtain ⟨r0,r1,r2,r3,r4,r5⟩:=BZ h2
  have ag:=bm.o _ _ _ hj
  have hC:=V8 h4
  have c0:=(ag.1 _ hC.1).trans r0
  have c1:=(ag.1 _ h5).trans r1
  have c2:=(ag.1 _ h6).trans r2
  have c3:=(ag.1 _ h7).trans r3
  obtain ⟨z,c4⟩:=ag.2 _ h8
  have c5:=(ag.1 _ hC.2).trans r5
  have ay:EG ex.op ex.n ex.u ex.rn z ex.args.length=Da ex:=V9 (fun h0=>by
   have:=(ag.1 _ (h9 h0)).symm.trans c4
   rw[r4] at this
   simp only[yZ,Value.int.injEq,qk] at this
   exact this.symm)
  have b9:=ya ay
  have cf:Kr J (MQ W.heap.size (W.heap.size+3) O) W.heap.size l W.heap.size (W.heap.size+1) (Cm (q.take k)).1.length w:=⟨hj,by omega,fun b hb=>hb.elim (cp b) (fun h=>by omega),⟨.inr (by omega),ac.y⟩,⟨.inr (by omega),ac.i⟩⟩
  have bg:=ya cf
  have ce:VF n l W.heap.size (W.heap.size+1) W.heap.size (MQ W.heap.size (W.heap.size+3) O) X.1 w0 C J Jx Jp:=⟨HJ.o,fun k O W h=>(bm.o k O W h).1,fun O W h=>(ca.o O W h).1,fun k Q W' hs=>by
   have:=ai.o k (by simpa using Q) _ W' hs.j hs.size (fun b hb=>⟨hb.elim (fun h=>by have:=a6 b h;omega) (fun h=>h.1),hs.own b hb⟩)
   rw[xf] at this
   exact this⟩
  have bu:Da ex=true->Cm (q.take (k+1))=((Cm (q.take k)).1++[],true):=fun hl=>by
   rw[Nn af hp,be];simp[D8,hl]
  have bv:Da ex=false->q[k]=CS w0 lt ex b o:=fun hl=>by
   rw[be];simp[D8,hl,hx,TT]
  have c8:=ya bu
  have b3:Da ex=false->Cm (q.take (k+1))=((Cm (q.take k)).1++(CS w0 lt ex b o).1,(CS w0 lt ex b o).2):=fun hl=>by
   rw[Nn af hp,bv hl]
  have dn:=ya b3
  have b5:Da ex=false->∀w3,Below w.heap.size w w3->Calls Try.prog 82 #[pV b o,iV lt,pV W.heap.size 0,pV (W.heap.size+1) 0] w3
    (P9 J Jx Jp (MQ W.heap.size (W.heap.size+3) O) ((Cm (q.take k)).1.length+(CS w0 lt ex b o).1.length) (CS w0 lt ex b o).2 w3):=fun hl w3 U=>by
   refine QF n hn l W.heap.size (W.heap.size+1) W.heap.size lt b7 (MQ W.heap.size (W.heap.size+3) O) X.1 w0 C J Jx Jp ce ex b o (Cm (q.take k)).1 w3 (cf.below HJ.o U) h4 ?_ ?_
   ·obtain ⟨post,ba⟩:=TS q (k+1)
    rw[b3 hl] at ba
    exact ⟨post,by rw[bd.o,ba];simp⟩
   ·intro hf W' ew
    have co:=SQ (l:=q) (k:=k+1) (by rw[b3 hl];exact hf)
    rw[b3 hl] at co
    refine c6.o (Fx 170) (by rw[bd.o,co];simp[hf]) _ W' ?_
    rw[bd.o,co]
    simpa using ew
  have cm:=ya b5
  have bs:=ya a6
  have aj:=ya ac
  have B:=ya dh
  have bi:=ac.i
  have ey:=ya (zP w _ bi)
  have f7:=ya cp
  have HP:=ya hp
  have fb:=e1
  clear h2 h3 h4 h5 h6 h7 h8 h9 e2 e3 r0 r1 r2 r3 r4 r5 ag hC ay cf ce bu b3 b5 a6 ac dh cp hp be bv hj hx d4 hl df ev ab af b7 e1
  generalize ex.args.length=em at*
  generalize er:Da ex=LE at*
  clear er
  cases LE with
  |true=>
   gi_wp2_with fail
   refine ⟨trivial,zm (CallsIn.inRound lo (za.2 (KQ _ _ _ _ _ _ _ _ _))) ?_⟩
   rintro e w3 ⟨rfl,U⟩
   rw[b9.o]
   gi_wp2_with fail
   repeat (refine ⟨fun _ h=>(by cases h),?_⟩;gi_wp2_with fail)
   refine ⟨⟨U.size,fun b hb=>U.block b (f7.o b hb)⟩,?_,bs.o,yo B.o U.size,?_,?_⟩
   ·have:=(bg.o.below HJ.o U).j
    rw[c8.o (by simp),yG];exact this
   ·have hB:=b4.o
    exact aj.o.same (U.block _ (by have:=B.o;omega)) (U.block _ (by have:=B.o;omega)) (U.block _ (by have:=B.o;omega))
   ·rw[c8.o (by simp)]
  |false=>
   gi_wp2_with fail
   refine ⟨trivial,zm (CallsIn.inRound lo (za.2 (KQ _ _ _ _ _ _ _ _ _))) ?_⟩
   rintro e w3 ⟨rfl,U⟩
   rw[b9.o]
   have ed:=(U.cell (p:=(aV (W.heap.size+1) 0)) ey.o).trans bi
   have a8:=ya U
   clear U
   gi_wp2_with fail
   refine ⟨trivial,zm (CallsIn.inRound lo (za.2 (cm.o (by simp) w3 a8.o))) ?_⟩
   rintro e w4 (⟨r,rfl,ao,(⟨rfl,de,cy⟩|⟨rfl,e8⟩)⟩|⟨ch,rfl,eh,ao⟩)
   ·have R:=ya ((bg.o.Xl a8.o).trans ao)
    have f3:=ya cy
    have f2:=ya de
    clear ao cy de bi ed
    gi_wp2_with fail
    refine ⟨R.o.sub (fun b hb=>.inl hb),?_,bs.o,yo B.o R.o.1,?_,?_⟩
    ·rw[dn.o (by simp)]
     simp only[yi]
     exact f3.o
    ·exact aj.o.same (R.o.2 _ (.inr (by omega))) (R.o.2 _ (.inr (by omega))) (R.o.2 _ (.inr (by omega)))
    ·rw[dn.o (by simp)];exact f2.o
   ·have R:=ya ((bg.o.Xl a8.o).trans ao)
    have ei:=ya e8
    clear ao e8 bi ed
    gi_wp2_with fail
    exact ⟨R.o.sub (fun b hb=>.inl hb),rfl,ei.o,bs.o,yo B.o R.o.1,aj.o.same (R.o.2 _ (.inr (by omega))) (R.o.2 _ (.inr (by omega))) (R.o.2 _ (.inr (by omega))),trivial⟩
   ·have R:=ya ((bg.o.Xl a8.o).trans ao)
    exact ⟨rfl,R.o.sub (fun b hb=>.inl hb),eh,bs.o,yo B.o R.o.1,aj.o.same (R.o.2 _ (.inr (by omega))) (R.o.2 _ (.inr (by omega))) (R.o.2 _ (.inr (by omega))),trivial⟩
 ·rintro - Dd O w hD al hI ah
  have hT:(Et w0 L x).length=(Cw L).length:=G1 A.o
  have d5:q.take (Cw L).length=Et w0 L x:=by rw[dk.o];unfold Fc;rw[<-hT,List.take_left'];rfl
  have cl:=hI.p
  have bk:=hI.j
  simp only[d5] at cl bk
  obtain ⟨K0,cq⟩:∃K0,K0=(Cm (Et w0 L x)).1:=⟨_,rfl⟩
  have ec:X=(K0++(if CF x then CV L x else []),CF x):=by
   rw[bd.o,dk.o];unfold Fc
   rw[FC,cl,yu rfl,cq]
   simp only[Cm]
   cases CF x<;>simp
  rw[<-cq] at bk
  have cg:J K0.length (fun b=>MQ W.heap.size (W.heap.size+3) O b∧b < w.heap.size) w:=HJ.o _ _ _ _ _ bk (ye _) rfl rfl rfl (fun _ _ _=>rfl) (fun b hb=>.inl hb.1)
  have e4:Dd < w.heap.size:=(yd.1 ah).1
  have c9:∀b,MQ W.heap.size (W.heap.size+3) O b->W.heap.size<=b:=fun b hb=>hb.elim (fun h=>by have:=hI.own b h;omega) (fun h=>h.1)
  have bo:∀wr,Below w.heap.size w wr->∀p,C p->wr.cell? p=w0.cell? p:=fun wr hb=>(bm.o _ _ _ (Fu HJ.o cg hb)).1
  have S:=ya bo
  have d3:=ya cg
  have e5:=ya ec
  have dj:=ya c9
  have au:=ya e4
  have dl:=ya al
  have cj:=ya ah
  have ct:=ya hI.box
  have bw:=ya hI.size
  have bx:w.cell? (aV Bu 0)=some (pV L.s 0):=(bo w (yc _ _) _ A.o.box).trans A.o.heads.box
  have hf:w.cell? (aV L.s 22)=some (.slice L.farms.a L.farms.n L.farms.c):=(bo w (yc _ _) _ (A.o.src 22 (by omega) (by omega))).trans A.o.heads.farms
  have ax:L.farms.n<=140737488355328:=A.o.ok.farms.1
  clear hT d5 cl bk cq ec cg e4 c9 bo al ah hI hD
  simp only[Exit.inBlock,Exit.then]
  refine Af ?_
  go_wp2
  clear bx hf
  go_loopw [6,42] (fun v6 iv wr=>∃(i:Nat) (us:List Us),i<=L.farms.n∧iv=iV i∧Hid (us=SS L x i)∧Hid (Below w.heap.size w wr)∧Hid (Dz w.heap.size wr v6 us)) (fun _ iv _=>L.farms.n - (intOf iv).toNat)
  case atStart=>exact ⟨0,[],yv _,rfl,ya rfl,ya (yc _ _),ya (SJ _ _)⟩
  case round=>
   obtain ⟨i,us,hi,rfl,G,m,HOr⟩:=hrel
   by_cases E:i < L.farms.n
   ·obtain ⟨b,o,he,a7⟩:=A.o.ok.farms.get E
    have a0:i < x.farms.length:=by rw[<-A.o.nfarms];exact E
    have bx:=(S.o wr m.o _ A.o.box).trans A.o.heads.box
    have hf:wr.cell? (aV L.s 22)=some (.slice L.farms.a L.farms.n L.farms.c):=(S.o wr m.o _ (A.o.src 22 (by omega) (by omega))).trans A.o.heads.farms
    have hr:=(S.o wr m.o _ (A.o.river i a0).1).trans (A.o.river i a0).2
    rw[a7] at hr
    rw[he] at hf
    clear he
    have T:F8 L.farms x.farms i=[⟨b,o+i*12+1,4,0,x.farms[i].on.name,x.farms[i].on.n⟩,⟨b,o+i*12+10,if x.farms[i].river then 0 else 3,0,x.farms[i].crop.name,x.farms[i].crop.n⟩]:=by
     unfold F8;rw[yl a0];simp[DL,a7]
    have b8:(i:Int) < (L.farms.n:Int):=by omega
    cases bj:x.farms[i].river with
    |true=>
     rw[bj] at hr T
     simp only[zO] at T
     have P:=ya T
     clear T bj
     have F:Hid (Below wr.heap.size wr (wr.drew.alloc (.cells #[pV b (o+i*12+1),iV 4,iV 0,pV b (o+i*12+10),iV 0,iV 0] 106))):=ya ((yc _ _).drew.alloc (ye _) _)
     have K:=ya (Dz.up HOr.o F.o)
     have M:Hid (Cx (wr.drew.alloc (.cells #[pV b (o+i*12+1),iV 4,iV 0,pV b (o+i*12+10),iV 0,iV 0] 106)) (.slice (some (aV wr.heap.size 0)) 2 2) 2 3 ([(⟨b,o+i*12+1,4,0,x.farms[i].on.name,x.farms[i].on.n⟩:Us),(⟨b,o+i*12+10,0,0,x.farms[i].crop.name,x.farms[i].crop.n⟩:Us)].flatMap Bo)):=ya (I8 (us:=[(⟨b,o+i*12+1,4,0,x.farms[i].on.name,x.farms[i].on.n⟩:Us),(⟨b,o+i*12+10,0,0,x.farms[i].crop.name,x.farms[i].crop.n⟩:Us)]) (World.alloc_heap_new wr.drew _) 2)
     have I:Hid (us.length+2<=1000000):=ya (by have h1:=Po (x:=x) E;have h2:=A.o.short;have h3:=P.o;have h4:=G.o;rw[h3] at h1;rw[h4];simp only[yC,yK] at h1 ⊢;omega)
     have B:Hid (w.heap.size<=(wr.drew.alloc (.cells #[pV b (o+i*12+1),iV 4,iV 0,pV b (o+i*12+10),iV 0,iV 0] 106)).heap.size):=ya (yo m.o.size F.o.size)
     have a2:=ya (m.o.trans (F.o.mono m.o.size))
     go_wp2_with fail
     go_region_held3 (fun _=>True) (trivial) (first|(refine Dw w.heap.size rfl _ _ rfl u6 us rfl K.o (.slice (some (aV wr.heap.size 0)) 2 2) [(⟨b,o+i*12+1,4,0,x.farms[i].on.name,x.farms[i].on.n⟩:Us),(⟨b,o+i*12+10,0,0,x.farms[i].crop.name,x.farms[i].crop.n⟩:Us)] rfl M.o I.o B.o ?_;intro ad c w5 t H;have Z:=ya t;have V:=ya (Ff a2.o B.o K.o H);clear t H))
     go_wp2
     exact ⟨⟨i+1,_,by omega,by push_cast;rfl,ya (by rw[G.o,Nq,P.o]),V,Z⟩,by simp[intOf];omega⟩
    |false=>
     rw[bj] at hr T
     simp only[xI,if_false] at T
     have P:=ya T
     clear T bj
     have F:Hid (Below wr.heap.size wr (wr.drew.alloc (.cells #[pV b (o+i*12+1),iV 4,iV 0,pV b (o+i*12+10),iV 3,iV 0] 106))):=ya ((yc _ _).drew.alloc (ye _) _)
     have K:=ya (Dz.up HOr.o F.o)
     have M:Hid (Cx (wr.drew.alloc (.cells #[pV b (o+i*12+1),iV 4,iV 0,pV b (o+i*12+10),iV 3,iV 0] 106)) (.slice (some (aV wr.heap.size 0)) 2 2) 2 3 ([(⟨b,o+i*12+1,4,0,x.farms[i].on.name,x.farms[i].on.n⟩:Us),(⟨b,o+i*12+10,3,0,x.farms[i].crop.name,x.farms[i].crop.n⟩:Us)].flatMap Bo)):=ya (I8 (us:=[(⟨b,o+i*12+1,4,0,x.farms[i].on.name,x.farms[i].on.n⟩:Us),(⟨b,o+i*12+10,3,0,x.farms[i].crop.name,x.farms[i].crop.n⟩:Us)]) (World.alloc_heap_new wr.drew _) 2)
     have I:Hid (us.length+2<=1000000):=ya (by have h1:=Po (x:=x) E;have h2:=A.o.short;have h3:=P.o;have h4:=G.o;rw[h3] at h1;rw[h4];simp only[yC,yK] at h1 ⊢;omega)
     have B:Hid (w.heap.size<=(wr.drew.alloc (.cells #[pV b (o+i*12+1),iV 4,iV 0,pV b (o+i*12+10),iV 3,iV 0] 106)).heap.size):=ya (yo m.o.size F.o.size)
     have a2:=ya (m.o.trans (F.o.mono m.o.size))
     go_wp2_with fail
     go_region_held3 (fun _=>True) (trivial) (first|(refine Dw w.heap.size rfl _ _ rfl u6 us rfl K.o (.slice (some (aV wr.heap.size 0)) 2 2) [(⟨b,o+i*12+1,4,0,x.farms[i].on.name,x.farms[i].on.n⟩:Us),(⟨b,o+i*12+10,3,0,x.farms[i].crop.name,x.farms[i].crop.n⟩:Us)] rfl M.o I.o B.o ?_;intro ad c w5 t H;have Z:=ya t;have V:=ya (Ff a2.o B.o K.o H);clear t H))
     go_wp2
     exact ⟨⟨i+1,_,by omega,by push_cast;rfl,ya (by rw[G.o,Nq,P.o]),V,Z⟩,by simp[intOf];omega⟩
   ·obtain rfl:i=L.farms.n:=by omega
    have bx:=(S.o wr m.o _ A.o.box).trans A.o.heads.box
    have hf:wr.cell? (aV L.s 23)=some (.slice L.rots.a L.rots.n L.rots.c):=(S.o wr m.o _ (A.o.src 23 (by omega) (by omega))).trans A.o.heads.rots
    have ax:L.rots.n<=140737488355328:=A.o.ok.rots.1
    go_wp2
    clear bx hf
    obtain ⟨fh,rfl⟩:∃z:World,z=wr:=⟨_,rfl⟩
    obtain ⟨fk,rfl⟩:∃z:Value,z=u6:=⟨_,rfl⟩
    go_loopw [6,73] (fun v6 iv wr=>∃(i:Nat) (us:List Us),i<=L.rots.n∧iv=iV i∧Hid (us=MS L x i)∧Hid (Below w.heap.size w wr)∧Hid (Dz w.heap.size wr v6 us)) (fun _ iv _=>L.rots.n - (intOf iv).toNat)
    case atStart=>exact ⟨0,us,yv _,rfl,ya (by rw[G.o];simp[MS]),m,HOr⟩
    case round=>
     clear G m HOr
     obtain ⟨i,us,hi,rfl,G,m,HOr⟩:=hrel
     by_cases E:i < L.rots.n
     ·obtain ⟨b,o,he,a7⟩:=A.o.ok.rots.get E
      have a0:i < x.rots.length:=by rw[<-A.o.nrots];exact E
      have bx:=(S.o wr m.o _ A.o.box).trans A.o.heads.box
      have hf:wr.cell? (aV L.s 23)=some (.slice L.rots.a L.rots.n L.rots.c):=(S.o wr m.o _ (A.o.src 23 (by omega) (by omega))).trans A.o.heads.rots
      rw[he] at hf
      clear he
      have f8:=ya (A.o.nturns i a0)
      have bt:=ya (A.o.ok.turns i E)
      have du:Hid (∀W,Below w.heap.size w W->W.cell? (aV b (o+i*23+22))=some (.slice (A5 L i).a (A5 L i).n (A5 L i).c)):=ya (fun W hW=>by
       have h1:=(S.o W hW _ (A.o.turns i E)).trans (A.o.heads.turns i E)
       rw[a7] at h1;exact h1)
      have P:Hid (Ib L x.rots i=⟨b,o+i*23+1,4,0,x.rots[i].on.name,x.rots[i].on.n⟩::(List.range (A5 L i).n).flatMap (G4 (A5 L i) x.rots[i].turns)):=ya (by
       unfold Ib;rw[yl a0];simp[DL,a7])
      have b8:(i:Int) < (L.rots.n:Int):=by omega
      have ej:(A5 L i).n<=140737488355328:=bt.o.1
      have ek:∀w5:World,Below w.heap.size w w5->True:=fun _ _=>trivial
      clear ek
      have F:Hid (Below wr.heap.size wr (wr.alloc (.cells #[pV b (o+i*23+1),iV 4,iV 0] 106))):=ya ((yc _ _).alloc (ye _) _)
      have K:=ya (Dz.up HOr.o F.o)
      have M:Hid (Cx (wr.alloc (.cells #[pV b (o+i*23+1),iV 4,iV 0] 106)) (.slice (some (aV wr.heap.size 0)) 1 1) 1 3 ([(⟨b,o+i*23+1,4,0,x.rots[i].on.name,x.rots[i].on.n⟩:Us)].flatMap Bo)):=ya (I8 (us:=[(⟨b,o+i*23+1,4,0,x.rots[i].on.name,x.rots[i].on.n⟩:Us)]) (World.alloc_heap_new wr _) 1)
      have I:Hid (us.length+1<=1000000):=ya (by have h1:=Pq (x:=x) E;have h2:=A.o.short;have h3:=P.o;have h4:=G.o;rw[h3] at h1;rw[h4];simp only[yC] at h1;omega)
      have B:Hid (w.heap.size<=(wr.alloc (.cells #[pV b (o+i*23+1),iV 4,iV 0] 106)).heap.size):=ya (yo m.o.size F.o.size)
      have a2:=ya (m.o.trans (F.o.mono m.o.size))
      go_wp2_with (first|(at_builtin;refine Hj w.heap.size rfl _ _ rfl u6 us rfl K.o (.slice (some (aV wr.heap.size 0)) 1 1) [(⟨b,o+i*23+1,4,0,x.rots[i].on.name,x.rots[i].on.n⟩:Us)] rfl M.o I.o B.o ?_;intro ad c w5 t H;have Z:=ya t;have V:=ya (Ff a2.o B.o K.o H);have ht:=du.o w5 V.o;clear t H))
      clear bx hf ht
      obtain ⟨wg,rfl⟩:∃z:World,z=wr:=⟨_,rfl⟩
      obtain ⟨vg,rfl⟩:∃z:Value,z=u6:=⟨_,rfl⟩
      go_loopw [6,94] (fun v6 iv wr=>∃(k:Nat) (ar:List Us),k<=(A5 L i).n∧iv=iV k∧Hid (ar=us++(⟨b,o+i*23+1,4,0,x.rots[i].on.name,x.rots[i].on.n⟩::(List.range k).flatMap (G4 (A5 L i) x.rots[i].turns)))∧Hid (Below w.heap.size w wr)∧Hid (Dz w.heap.size wr v6 ar)) (fun _ iv _=>(A5 L i).n - (intOf iv).toNat)
      case atStart=>exact ⟨0,_,yv _,rfl,ya (by simp),V,Z⟩
      case round=>
       clear m HOr V Z
       obtain ⟨k,ar,Q,rfl,bb,m,HOr⟩:=hrel
       by_cases az:k < (A5 L i).n
       ·obtain ⟨b2,o2,dg,e9⟩:=bt.o.get az
        have f6:k < x.rots[i].turns.length:=by rw[<-f8.o];exact az
        have ht:=du.o wr m.o
        rw[dg] at ht
        clear dg
        have d9:Hid (G4 (A5 L i) x.rots[i].turns k=[⟨b2,o2+k*8,5,0,(x.rots[i].turns[k]).farm.name,(x.rots[i].turns[k]).farm.n⟩]):=ya (by
         unfold G4;rw[yl f6];simp[DL,e9])
        have el:(k:Int) < ((A5 L i).n:Int):=by omega
        have F:Hid (Below wr.heap.size wr (wr.alloc (.cells #[pV b2 (o2+k*8),iV 5,iV 0] 106))):=ya ((yc _ _).alloc (ye _) _)
        have K:=ya (Dz.up HOr.o F.o)
        have M:Hid (Cx (wr.alloc (.cells #[pV b2 (o2+k*8),iV 5,iV 0] 106)) (.slice (some (aV wr.heap.size 0)) 1 1) 1 3 ([(⟨b2,o2+k*8,5,0,(x.rots[i].turns[k]).farm.name,(x.rots[i].turns[k]).farm.n⟩:Us)].flatMap Bo)):=ya (I8 (us:=[(⟨b2,o2+k*8,5,0,(x.rots[i].turns[k]).farm.name,(x.rots[i].turns[k]).farm.n⟩:Us)]) (World.alloc_heap_new wr _) 1)
        have I:Hid (ar.length+1<=1000000):=ya (by have h1:=Pq (x:=x) E;have h2:=A.o.short;have h3:=P.o;have h4:=G.o;have h5:=Hi (f:=G4 (A5 L i) x.rots[i].turns) az;have h6:=d9.o;rw[h6] at h5;rw[h3] at h1;rw[bb.o,h4];simp only[yC,yi,yK] at h1 h5 ⊢;omega)
        have B:Hid (w.heap.size<=(wr.alloc (.cells #[pV b2 (o2+k*8),iV 5,iV 0] 106)).heap.size):=ya (yo m.o.size F.o.size)
        have a2:=ya (m.o.trans (F.o.mono m.o.size))
        go_wp2_with (first|(at_builtin;refine Hj w.heap.size rfl _ _ rfl u6 ar rfl K.o (.slice (some (aV wr.heap.size 0)) 1 1) [(⟨b2,o2+k*8,5,0,(x.rots[i].turns[k]).farm.name,(x.rots[i].turns[k]).farm.n⟩:Us)] rfl M.o I.o B.o ?_;intro ad c w5 t H;have Z:=ya t;have V:=ya (Ff a2.o B.o K.o H);clear t H))
        exact ⟨⟨k+1,_,by omega,by push_cast;rfl,ya (by rw[bb.o,Az,d9.o];simp),V,Z⟩,by simp[intOf];omega⟩
       ·obtain rfl:k=(A5 L i).n:=by omega
        have el:decide (((A5 L i).n:Int) < ((A5 L i).n:Int))=false:=by simp
        go_wp2
        exact ⟨⟨i+1,ar,by omega,by push_cast;rfl,ya (by rw[bb.o,G.o,SU,P.o]),m,HOr⟩,by simp[intOf];omega⟩
     ·obtain rfl:i=L.rots.n:=by omega
      have bx:=(S.o wr m.o _ A.o.box).trans A.o.heads.box
      have hf:wr.cell? (aV L.s 24)=some (.slice L.rights.a L.rights.n L.rights.c):=(S.o wr m.o _ (A.o.src 24 (by omega) (by omega))).trans A.o.heads.rights
      have ax:L.rights.n<=140737488355328:=A.o.ok.rights.1
      go_wp2
      clear bx hf
      obtain ⟨fg,rfl⟩:∃z:World,z=wr:=⟨_,rfl⟩
      obtain ⟨fj,rfl⟩:∃z:Value,z=u6:=⟨_,rfl⟩
      go_loopw [6,115] (fun v6 iv wr=>∃(i:Nat) (us:List Us),i<=L.rights.n∧iv=iV i∧Hid (us=MT L x i)∧Hid (Below w.heap.size w wr)∧Hid (Dz w.heap.size wr v6 us)∧Hid (∀j (h:j < x.rights.length),j < i->Gf x.rights[j].kind=true)) (fun _ iv _=>L.rights.n - (intOf iv).toNat)
      case atStart=>exact ⟨0,us,yv _,rfl,ya (by rw[G.o];simp[MT]),m,HOr,ya (fun j _ hj=>by omega)⟩
      case round=>
       clear G m HOr
       obtain ⟨i,us,hi,rfl,G,m,HOr,HK⟩:=hrel
       by_cases E:i < L.rights.n
       ·obtain ⟨b,o,he,a7⟩:=A.o.ok.rights.get E
        have a0:i < x.rights.length:=by rw[<-A.o.nrights];exact E
        have bx:=(S.o wr m.o _ A.o.box).trans A.o.heads.box
        have hf:wr.cell? (aV L.s 24)=some (.slice L.rights.a L.rights.n L.rights.c):=(S.o wr m.o _ (A.o.src 24 (by omega) (by omega))).trans A.o.heads.rights
        have hr:=(S.o wr m.o _ (A.o.kind i a0).1).trans (A.o.kind i a0).2
        rw[a7,xG] at hr
        rw[he] at hf
        clear he
        have T:DF L.rights x.rights i=[⟨b,o+i*37+2,5,0,x.rights[i].farm.name,x.rights[i].farm.n⟩,⟨b,o+i*37+4,if x.rights[i].kind=1 then 0 else 4,0,x.rights[i].reach.name,x.rights[i].reach.n⟩]:=by
         unfold DF;rw[yl a0];simp[DL,a7]
        have b8:(i:Int) < (L.rights.n:Int):=by omega
        have bp:Hid (Gf x.rights[i].kind=true->∀j (h:j < x.rights.length),j < i+1->Gf x.rights[j].kind=true):=ya (fun h j hj fo=>by
         rcases zV j i with h9|h9
         ·exact HK.o j hj h9
         ·obtain rfl:j=i:=by omega
          exact h)
        have bh:Hid (Gf x.rights[i].kind=false->CF x=false):=ya (fun h=>by
         unfold CF;rw[zZ];exact ⟨_,yw a0,by simp[h]⟩)
        by_cases Q:Gf x.rights[i].kind=true
        ·have di:=ya (bp.o Q)
         simp only[Gf,ym,yR] at Q
         obtain ⟨k1,k3⟩:=Q
         by_cases ak:x.rights[i].kind=1
         ·rw[yu ak] at T
          have P:=ya T
          clear T bp bh
          have eo:(x.rights[i].kind==1)=true:=by simpa using ak
          have F:Hid (Below wr.heap.size wr (wr.drew.alloc (.cells #[pV b (o+i*37+2),iV 5,iV 0,pV b (o+i*37+4),iV 0,iV 0] 106))):=ya ((yc _ _).drew.alloc (ye _) _)
          have K:=ya (Dz.up HOr.o F.o)
          have M:Hid (Cx (wr.drew.alloc (.cells #[pV b (o+i*37+2),iV 5,iV 0,pV b (o+i*37+4),iV 0,iV 0] 106)) (.slice (some (aV wr.heap.size 0)) 2 2) 2 3 ([(⟨b,o+i*37+2,5,0,x.rights[i].farm.name,x.rights[i].farm.n⟩:Us),(⟨b,o+i*37+4,0,0,x.rights[i].reach.name,x.rights[i].reach.n⟩:Us)].flatMap Bo)):=ya (I8 (us:=[(⟨b,o+i*37+2,5,0,x.rights[i].farm.name,x.rights[i].farm.n⟩:Us),(⟨b,o+i*37+4,0,0,x.rights[i].reach.name,x.rights[i].reach.n⟩:Us)]) (World.alloc_heap_new wr.drew _) 2)
          have I:Hid (us.length+2<=1000000):=ya (by have h1:=Pt (x:=x) E;have h2:=A.o.short;have h3:=P.o;have h4:=G.o;rw[h3] at h1;rw[h4];simp only[yC,yK] at h1 ⊢;omega)
          have B:Hid (w.heap.size<=(wr.drew.alloc (.cells #[pV b (o+i*37+2),iV 5,iV 0,pV b (o+i*37+4),iV 0,iV 0] 106)).heap.size):=ya (yo m.o.size F.o.size)
          have a2:=ya (m.o.trans (F.o.mono m.o.size))
          go_wp2_with (first|(go_at_call 50;refine (Df _ _).mono ?_;rintro e w6 ⟨rfl,cr⟩;obtain rfl:=cr.symm))
          go_region_held3 (fun _=>True) (trivial) (first|(refine Dw w.heap.size rfl _ _ rfl u6 us rfl K.o (.slice (some (aV wr.heap.size 0)) 2 2) [(⟨b,o+i*37+2,5,0,x.rights[i].farm.name,x.rights[i].farm.n⟩:Us),(⟨b,o+i*37+4,0,0,x.rights[i].reach.name,x.rights[i].reach.n⟩:Us)] rfl M.o I.o B.o ?_;intro ad c w5 t H;have Z:=ya t;have V:=ya (Ff a2.o B.o K.o H);clear t H))
          go_wp2
          exact ⟨⟨i+1,_,by omega,by push_cast;rfl,ya (by rw[G.o,Nr,P.o]),V,Z,di⟩,by simp[intOf];omega⟩
         ·rw[yq ak] at T
          have P:=ya T
          clear T bp bh
          have eo:(x.rights[i].kind==1)=false:=by simpa using ak
          have F:Hid (Below wr.heap.size wr (wr.drew.alloc (.cells #[pV b (o+i*37+2),iV 5,iV 0,pV b (o+i*37+4),iV 4,iV 0] 106))):=ya ((yc _ _).drew.alloc (ye _) _)
          have K:=ya (Dz.up HOr.o F.o)
          have M:Hid (Cx (wr.drew.alloc (.cells #[pV b (o+i*37+2),iV 5,iV 0,pV b (o+i*37+4),iV 4,iV 0] 106)) (.slice (some (aV wr.heap.size 0)) 2 2) 2 3 ([(⟨b,o+i*37+2,5,0,x.rights[i].farm.name,x.rights[i].farm.n⟩:Us),(⟨b,o+i*37+4,4,0,x.rights[i].reach.name,x.rights[i].reach.n⟩:Us)].flatMap Bo)):=ya (I8 (us:=[(⟨b,o+i*37+2,5,0,x.rights[i].farm.name,x.rights[i].farm.n⟩:Us),(⟨b,o+i*37+4,4,0,x.rights[i].reach.name,x.rights[i].reach.n⟩:Us)]) (World.alloc_heap_new wr.drew _) 2)
          have I:Hid (us.length+2<=1000000):=ya (by have h1:=Pt (x:=x) E;have h2:=A.o.short;have h3:=P.o;have h4:=G.o;rw[h3] at h1;rw[h4];simp only[yC,yK] at h1 ⊢;omega)
          have B:Hid (w.heap.size<=(wr.drew.alloc (.cells #[pV b (o+i*37+2),iV 5,iV 0,pV b (o+i*37+4),iV 4,iV 0] 106)).heap.size):=ya (yo m.o.size F.o.size)
          have a2:=ya (m.o.trans (F.o.mono m.o.size))
          go_wp2_with (first|(go_at_call 50;refine (Df _ _).mono ?_;rintro e w6 ⟨rfl,cr⟩;obtain rfl:=cr.symm))
          go_region_held3 (fun _=>True) (trivial) (first|(refine Dw w.heap.size rfl _ _ rfl u6 us rfl K.o (.slice (some (aV wr.heap.size 0)) 2 2) [(⟨b,o+i*37+2,5,0,x.rights[i].farm.name,x.rights[i].farm.n⟩:Us),(⟨b,o+i*37+4,4,0,x.rights[i].reach.name,x.rights[i].reach.n⟩:Us)] rfl M.o I.o B.o ?_;intro ad c w5 t H;have Z:=ya t;have V:=ya (Ff a2.o B.o K.o H);clear t H))
          go_wp2
          exact ⟨⟨i+1,_,by omega,by push_cast;rfl,ya (by rw[G.o,Nr,P.o]),V,Z,di⟩,by simp[intOf];omega⟩
        ·have f0:=ya (bh.o (by simpa using Q))
         clear bh bp T
         have cc:Hid (∀W',Below w.heap.size w W'->∀ob,∃O,Jp (Fx 170) O (W'.putObj Dd ob)):=ya (fun W' hW ob=>by
          have hX:=e5.o
          rw[f0.o] at hX
          have hj:=Fu HJ.o d3.o hW
          refine ⟨_,(bn.o (Fx 170)).put (s:=()) ?_ _ (c6.o (Fx 170) (by rw[hX];rfl) _ W' (by rw[hX];simpa using hj))⟩
          exact .inl ⟨.inl dl.o,au.o⟩)
         by_cases ak:1<=x.rights[i].kind
         ·have af:¬ x.rights[i].kind<=3:=fun h=>Q (by simp[Gf,ak,h])
          clear Q
          go_wp2_with (first|(go_at_call 50;refine (D7 _ _).mono ?_;rintro e w6 ⟨rfl,rfl⟩))
          exact ⟨by simp,.inl ⟨_,_,rfl,run_takeDeferred ((m.o.block Dd au.o).trans cj.o),.inr ⟨_,rfl,cc.o _ m.o _⟩⟩⟩
         ·clear Q
          go_wp2_with (first|(go_at_call 50;refine (D7 _ _).mono ?_;rintro e w6 ⟨rfl,rfl⟩))
          exact ⟨by simp,.inl ⟨_,_,rfl,run_takeDeferred ((m.o.block Dd au.o).trans cj.o),.inr ⟨_,rfl,cc.o _ m.o _⟩⟩⟩
       ·obtain rfl:i=L.rights.n:=by omega
        have f5:Hid (CF x=true):=ya (by
         unfold CF;rw[yM];intro d hd
         obtain ⟨j,hj,rfl⟩:=zc.1 hd
         exact HK.o j hj (by rw[A.o.nrights];exact hj))
        have bx:=(S.o wr m.o _ A.o.box).trans A.o.heads.box
        have hf:wr.cell? (aV L.s 25)=some (.slice L.duties.a L.duties.n L.duties.c):=(S.o wr m.o _ (A.o.src 25 (by omega) (by omega))).trans A.o.heads.duties
        have ax:L.duties.n<=140737488355328:=A.o.ok.duties.1
        go_wp2
        clear bx hf
        obtain ⟨fd,rfl⟩:∃z:World,z=wr:=⟨_,rfl⟩
        obtain ⟨fi,rfl⟩:∃z:Value,z=u6:=⟨_,rfl⟩
        go_loopw [6,160] (fun v6 iv wr=>∃(i:Nat) (us:List Us),i<=L.duties.n∧iv=iV i∧Hid (us=Ol L x i)∧Hid (Below w.heap.size w wr)∧Hid (Dz w.heap.size wr v6 us)) (fun _ iv _=>L.duties.n - (intOf iv).toNat)
        case atStart=>exact ⟨0,us,yv _,rfl,ya (by rw[G.o];simp[Ol]),m,HOr⟩
        case round=>
         clear G m HOr
         obtain ⟨i,us,hi,rfl,G,m,HOr⟩:=hrel
         by_cases E:i < L.duties.n
         ·obtain ⟨b,o,he,a7⟩:=A.o.ok.duties.get E
          have a0:i < x.duties.length:=by rw[<-A.o.nduties];exact E
          have bx:=(S.o wr m.o _ A.o.box).trans A.o.heads.box
          have hf:wr.cell? (aV L.s 25)=some (.slice L.duties.a L.duties.n L.duties.c):=(S.o wr m.o _ (A.o.src 25 (by omega) (by omega))).trans A.o.heads.duties
          rw[he] at hf
          clear he
          have P:Hid (EO L.duties x.duties i=[⟨b,o+i*11+1,5,0,x.duties[i].farm.name,x.duties[i].farm.n⟩,⟨b,o+i*11+3,4,0,x.duties[i].reach.name,x.duties[i].reach.n⟩]):=ya (by
           unfold EO;rw[yl a0];simp[DL,a7])
          have b8:(i:Int) < (L.duties.n:Int):=by omega
          have F:Hid (Below wr.heap.size wr (wr.drew.alloc (.cells #[pV b (o+i*11+1),iV 5,iV 0,pV b (o+i*11+3),iV 4,iV 0] 106))):=ya ((yc _ _).drew.alloc (ye _) _)
          have K:=ya (Dz.up HOr.o F.o)
          have M:Hid (Cx (wr.drew.alloc (.cells #[pV b (o+i*11+1),iV 5,iV 0,pV b (o+i*11+3),iV 4,iV 0] 106)) (.slice (some (aV wr.heap.size 0)) 2 2) 2 3 ([(⟨b,o+i*11+1,5,0,x.duties[i].farm.name,x.duties[i].farm.n⟩:Us),(⟨b,o+i*11+3,4,0,x.duties[i].reach.name,x.duties[i].reach.n⟩:Us)].flatMap Bo)):=ya (I8 (us:=[(⟨b,o+i*11+1,5,0,x.duties[i].farm.name,x.duties[i].farm.n⟩:Us),(⟨b,o+i*11+3,4,0,x.duties[i].reach.name,x.duties[i].reach.n⟩:Us)]) (World.alloc_heap_new wr.drew _) 2)
          have I:Hid (us.length+2<=1000000):=ya (by have h1:=TW (x:=x) E;have h2:=A.o.short;have h3:=P.o;have h4:=G.o;rw[h3] at h1;rw[h4];simp only[yC,yK] at h1 ⊢;omega)
          have B:Hid (w.heap.size<=(wr.drew.alloc (.cells #[pV b (o+i*11+1),iV 5,iV 0,pV b (o+i*11+3),iV 4,iV 0] 106)).heap.size):=ya (yo m.o.size F.o.size)
          have a2:=ya (m.o.trans (F.o.mono m.o.size))
          go_wp2_with fail
          go_region_held3 (fun _=>True) (trivial) (first|(refine Dw w.heap.size rfl _ _ rfl u6 us rfl K.o (.slice (some (aV wr.heap.size 0)) 2 2) [(⟨b,o+i*11+1,5,0,x.duties[i].farm.name,x.duties[i].farm.n⟩:Us),(⟨b,o+i*11+3,4,0,x.duties[i].reach.name,x.duties[i].reach.n⟩:Us)] rfl M.o I.o B.o ?_;intro ad c w5 t H;have Z:=ya t;have V:=ya (Ff a2.o B.o K.o H);clear t H))
          go_wp2
          exact ⟨⟨i+1,_,by omega,by push_cast;rfl,ya (by rw[G.o,SV,P.o]),V,Z⟩,by simp[intOf];omega⟩
         ·obtain rfl:i=L.duties.n:=by omega
          have dw:Hid (us=CV L x):=ya (by rw[G.o];exact LU L x)
          have ck:Hid (X=(K0++us,true)):=ya (by rw[e5.o,f5.o,dw.o];rfl)
          have fl:us.length<=1000000:=by rw[dw.o];exact A.o.short
          obtain ⟨va,vc,rfl, -⟩:=V6 HOr.o
          obtain ⟨wl,rfl⟩:∃z:World,z=wr:=⟨_,rfl⟩
          obtain ⟨O3,an⟩:∃O3:NP,O3=fun b=>(MQ W.heap.size (W.heap.size+3) O b∧b < w.heap.size)∨(w.heap.size<=b∧b < wl.heap.size):=⟨_,rfl⟩
          have eb:J K0.length O3 wl:=by rw[an];exact Fu HJ.o d3.o m.o
          have U:∀b,O3 b->W.heap.size<=b∧b < wl.heap.size:=fun b hb=>by
           rw[an] at hb
           rcases hb with hb|hb
           ·exact ⟨dj.o b hb.1,yk hb.2 m.o.size⟩
           ·have:=bw.o;omega
          have dq:O3 Dd:=by rw[an];exact .inl ⟨.inl dl.o,au.o⟩
          have db:O3 W.heap.size∧wl.cell? (aV W.heap.size 0)=some (.func (.yield l) #[] #[]):=by
           have h1:=bw.o
           refine ⟨by rw[an];exact .inl ⟨.inr ⟨ye _,by omega⟩,by omega⟩,(m.o.cell (p:=(aV W.heap.size 0)) (by show W.heap.size < w.heap.size;omega)).trans ct.o.y⟩
          have dx:∀g,w.heap.size<=g->g < wl.heap.size->O3 g:=fun g h1 h2=>by rw[an];exact .inr ⟨h1,h2⟩
          have aw:=ya ((m.o.block Dd au.o).trans cj.o)
          have cv:=ya dx
          have f9:=ya eb
          have a8:=ya U
          have ap:=ya dq
          have cw:=ya db
          clear an eb U dq db dx
          go_wp2
          go_loopw [183] (fun iv wr=>∃i:Nat,i<=us.length∧iv=iV i∧Hid (J (K0.length+i) O3 wr)∧Hid (Cd O3 wl wr)) (fun iv _=>us.length - (intOf iv).toNat)
          case atStart=>exact ⟨0,yv _,rfl,f9,ya (Cd.refl _ _)⟩
          case round=>
           obtain ⟨i,hi,rfl,d6,am⟩:=hrel
           by_cases E:i < us.length
           ·obtain ⟨g,c,hv,cx,ci,dp,c0,c1,c2⟩:=TV HOr.o E
            simp only[xN,qk] at hv
            obtain ⟨rfl,rfl⟩:=hv
            have d0:=DV am.o (cv.o g cx ci) c0
            have d1:=DV am.o (cv.o g cx ci) c1
            have d2:=DV am.o (cv.o g cx ci) c2
            have Q:K0.length+i < (X.1.map Us.v).length:=by rw[ck.o];simp;exact E
            have da:(X.1.map Us.v)[K0.length+i]=us[i].v:=by
             rw[xf]
             have h1:X.1[K0.length+i]?=some us[i]:=by rw[ck.o];simp[yJ,yl E]
             obtain ⟨h2,h3⟩:=yA.1 h1
             rw[h3]
            generalize us[i]=u at*
            have ae:Below wr.heap.size wr (wr.alloc (.cells #[pV u.b u.o,iV u.to,iV u.at_] 106)):=(yc _ _).alloc (ye _) _
            have dy:Cd O3 wr (wr.alloc (.cells #[pV u.b u.o,iV u.to,iV u.at_] 106)):=⟨ae.size,fun b hb=>ae.block b (yk (a8.o b hb).2 am.o.1)⟩
            have cz:J (K0.length+i) O3 (wr.alloc (.cells #[pV u.b u.o,iV u.to,iV u.at_] 106)):=HJ.o _ _ _ _ _ d6.o ae.size ae.os ae.tape ae.output (fun b _ hl=>ae.block b hl) (fun b hb=>.inl hb)
            have aq:=ya (am.o.trans dy)
            obtain ⟨fe,f1,dm,f4,hy,dc⟩:=ai.o (K0.length+i) Q O3 _ cz (yo (by have:=(a8.o _ cw.o.1).2;omega) aq.o.1) (fun b hb=>⟨(a8.o b hb).1,yk (a8.o b hb).2 aq.o.1⟩)
            rw[da] at hy
            unfold Us.v at hy
            have ez:=ya dc
            have q3:=DV aq.o cw.o.1 cw.o.2
            have b8:(i:Int) < (us.length:Int):=by omega
            have fc:=dp
            clear Q da dc ae dy cz c0 c1 c2 dp
            go_upto_region 47 with fail
            refine (wpIn_wide (n:=n)).1 ?_
            gi_wp2
            refine ez.o.mono ?_
            rintro e W6 (⟨rfl,hj,hs⟩|⟨rfl,hx,hs⟩|⟨ch,rfl,hp,hs⟩)
            ·have eu:=ya hj
             have av:=ya (aq.o.trans hs)
             clear hj hs hy q3 d0 d1 d2
             gi_wp2
             go_wp2
             exact ⟨⟨i+1,by omega,by push_cast;rfl,eu,av⟩,by simp[intOf];omega⟩
            ·have eq:=ya hx
             have av:=ya (aq.o.trans hs)
             clear hx hs hy q3 d0 d1 d2
             gi_wp2
             go_wp2
             exact ⟨by simp,.inl ⟨_,_,rfl,run_takeDeferred ((av.o.2 Dd ap.o).trans aw.o),⟨_,zI rfl _ _ _,.inl ⟨⟨_,rfl⟩,.inr ⟨O3,cu.o.put (s:=()) ap.o _ eq.o⟩⟩⟩⟩⟩
            ·have av:=ya (aq.o.trans hs)
             exact ⟨by simp,.inl ⟨_,_,rfl,run_takeDeferred ((av.o.2 Dd ap.o).trans aw.o),.inr ⟨ch,rfl,O3,(bn.o ch).put (s:=()) ap.o _ hp⟩⟩⟩
           ·obtain rfl:i=us.length:=by omega
            have b8:decide ((us.length:Int) < (us.length:Int))=false:=by simp
            have e6:Hid (X.2=true∧J X.1.length O3 wr):=ya (by rw[ck.o];exact ⟨rfl,by rw[yi];exact d6.o⟩)
            go_wp2
            exact ⟨by simp,.inl ⟨_,_,rfl,run_takeDeferred ((am.o.2 Dd ap.o).trans aw.o),⟨_,zI rfl _ _ _,.inl ⟨⟨_,rfl⟩,.inl ⟨by simp[e6.o.1],O3,HJ.o.put ap.o _ e6.o.2⟩⟩⟩⟩⟩
 ·rintro D c O w hD al ⟨rfl,hI⟩ ah
  gi_wp2
  refine ⟨by simp,.inl ⟨_,_,rfl,run_takeDeferred ah,⟨_,zI rfl _ _ _,.inl ⟨⟨_,rfl⟩,.inr ⟨MQ W.heap.size (W.heap.size+3) O,?_⟩⟩⟩⟩⟩
  exact cu.o.put (s:=()) (.inl al) _ hI.j
 ·rintro D ch O w hD al hI ah
  exact ⟨by simp,.inl ⟨_,_,rfl,run_takeDeferred ah,.inr ⟨ch,rfl,MQ W.heap.size (W.heap.size+3) O,(bn.o ch).put (s:=()) (.inl al) _ hI.j⟩⟩⟩
end Go.Proofs.Ytghepahgkcigpaa

/- The iterator over a source's references: the walk. -/
import Derived.Test.YtghepahgkcigpaaRn0
import Derived.Test.YtghepahgkcigpaaRn3
import Derived.Deep.RegionHeld3
set_option maxRecDepth 100000
set_option maxHeartbeats 16000000
set_option linter.unusedSimpArgs false
namespace Go.Proofs.Ytghepahgkcigpaa
open Go.RowKit
attribute [local go_sem] Oper.semAt_some
def Ml(B0 B1:Nat)(O:NP)(b:Nat):Prop:=O b∨(B0<=b∧b < B1)
structure Tz (l By Bi Bs s:Nat) (W:World):Prop where
 y:W.cell? ⟨By,0,none⟩=some (.func (.yield l) #[] #[])
 i:W.cell? ⟨Bi,0,none⟩=some (.func (.func 82) #[] #[.pointer (some ⟨By,0,none⟩),.pointer (some ⟨Bi,0,none⟩)])
 s:W.cell? ⟨Bs,0,none⟩=some (.pointer (some ⟨s,0,none⟩))
theorem Tz.same{l By Bi Bs s:Nat}{W W':World}(h:Tz l By Bi Bs s W)(h1:W'.heap[By]?=W.heap[By]?)(h2:W'.heap[Bi]?=W.heap[Bi]?)(h3:W'.heap[Bs]?=W.heap[Bs]?):Tz l By Bi Bs s W':=by
 obtain ⟨a,b,c⟩:=h
 unfold World.cell? at a b c
 exact ⟨by unfold World.cell?;rw[h1];exact a,by unfold World.cell?;rw[h2];exact b,by unfold World.cell?;rw[h3];exact c⟩
structure GG {β:Type} (J:β->(Nat->Prop)->World->Prop) (B0 B1 l By Bi Bs s:Nat) (p:β->Prop) (k:β) (O:Nat->Prop) (W:World):Prop where
 j:J k (Ml B0 B1 O) W
 own:∀b,O b->B1<=b
 size:B1<=W.heap.size
 box:Tz l By Bi Bs s W
 p:p k
section
variable{β:Type}{J:β->NP->World->Prop}{B0 B1 l By Bi Bs s:Nat}{p:β->Prop}
theorem GG.stays(o:E6 J)(e:(B0<=By∧By < B1)∧(B0<=Bi∧Bi < B1)∧(B0<=Bs∧Bs < B1)):E6 (GG J B0 B1 l By Bi Bs s p):=by
 intro k O W q W' h g i m n hk f
 have a:∀b,b < B1->W'.heap[b]?=W.heap[b]?:=fun b hb=>hk b (fun c=>by have:=h.own b c;omega) (yr hb h.size)
 refine ⟨o k _ W _ W' h.j g i m n (fun b hb d=>hk b (fun c=>hb (.inl c)) d) (fun b hb=>?_),fun b hb=>?_,yl h.size g,h.box.same (a _ e.1.2) (a _ e.2.1.2) (a _ e.2.2.2),h.p⟩
 ·rcases hb with hb|hb
  ·rcases f b hb with h1|h1
   ·exact .inl (.inl h1)
   ·exact .inr h1
  ·exact .inl (.inr hb)
 ·rcases f b hb with h1|h1
  ·exact h.own b h1
  ·have:=h.size;omega
end
theorem Jo.at{N:NP}{b W:World}{C D:Addr->Prop}{Bu Bs:Nat}{L:Bw}{x:Am}(a:Lr N b C D Bu L x)(hd:Xq b C D W)(hb:W.cell? ⟨Bs,0,none⟩=some (.pointer (some ⟨L.s,0,none⟩))):Jo L Bs W:=
 ⟨hb,(hd.1 _ (a.src 19 (by omega) (by omega))).trans a.heads.lets,(hd.1 _ (a.src 20 (by omega) (by omega))).trans a.heads.crops,(hd.1 _ (a.src 21 (by omega) (by omega))).trans a.heads.reaches,(hd.1 _ (a.src 22 (by omega) (by omega))).trans a.heads.farms,
  (hd.1 _ (a.src 23 (by omega) (by omega))).trans a.heads.rots,(hd.1 _ (a.src 24 (by omega) (by omega))).trans a.heads.rights,(hd.1 _ (a.src 25 (by omega) (by omega))).trans a.heads.duties,fun i hi=>(hd.1 _ (a.turns i hi)).trans (a.heads.turns i hi)⟩
theorem Dg.up{B:Nat}{w w':World}{v:Value}{us:List Us}(h:Dg B w v us)(hb:Below w.heap.size w w'):Dg B w' v us:=by
 obtain ⟨h1,h2⟩:=h
 refine ⟨h1,h2.imp id ?_⟩
 rintro ⟨g,cap,a,h3,h4,h5,h6⟩
 exact ⟨g,cap,a,h3,h4,(hb.block g (ye.1 h5).1).trans h5,h6⟩
theorem EW{B:Nat}{c w w':World}{v:Value}{us:List Us}(h:Below B c w)(i:B<=w.heap.size)(d:Dg B w v us)(a:w.grownBy w' v.ownBlock):Below B c w':=by
 refine h.trans ⟨a.os,a.tape,a.output,a.size,fun b hb=>a.block b (by omega) (fun e=>?_)⟩
 rcases d.2 with ⟨rfl,_⟩|⟨g,cap,f,rfl,h4,_⟩
 ·cases e
 ·simp only[Value.ownBlock,yY] at e
  omega
theorem TA{B:Nat}{w:World}{v:Value}{us:List Us}(h:Dg B w v us){i:Nat}(hi:i < us.length):
  ∃g c,v=.slice (some ⟨g,0,none⟩) us.length c∧B<=g∧g < w.heap.size∧us.length<=maxLen∧w.cell? ⟨g,i*3,none⟩=some (.pointer (some ⟨us[i].b,us[i].o,none⟩))∧w.cell? ⟨g,i*3+1,none⟩=some (.int .i64 us[i].to)∧w.cell? ⟨g,i*3+2,none⟩=some (.int .i64 us[i].at_):=by
 obtain ⟨h1,⟨rfl,h2⟩|⟨g,cap,f,rfl,h4,h5,h6,p,q,n⟩⟩:=h
 ·omega
 ·have hc:∀j u,(us.flatMap AX)[j]?=some u->w.cell? (aV g j)=some u:=by
   intro j u a
   rw[<-n] at a
   have d:=(yA.1 a).1
   rw[yP] at d
   rw[zJ,yw (by omega)] at a
   simp only[World.cell?,h5]
   simpa using a
  have l:∀(us:List Us) (i:Nat) (hi:i < us.length),(us.flatMap AX)[i*3]?=some (.pointer (some ⟨us[i].b,us[i].o,none⟩))∧(us.flatMap AX)[i*3+1]?=some (iV us[i].to)∧(us.flatMap AX)[i*3+2]?=some (iV us[i].at_):=by
   intro us
   induction us with
   |nil=>intro i hi;simp at hi
   |cons x r ih=>
    intro i hi
    cases i with
    |zero=>exact ⟨rfl,rfl,rfl⟩
    |succ i=>
     have:=ih i (by simpa using hi)
     have e:((x::r).flatMap AX)=AX x++r.flatMap AX:=rfl
     rw[e,yL (by simp[AX];omega),yL (by simp[AX];omega),yL (by simp[AX];omega)]
     have hl:(AX x).length=3:=rfl
     rw[hl,show (i+1)*3 - 3=i*3 by omega,show (i+1)*3+1 - 3=i*3+1 by omega,show (i+1)*3+2 - 3=i*3+2 by omega]
     exact this
  obtain ⟨k,g1,m⟩:=l us i hi
  exact ⟨g,cap,rfl,h4,(ye.1 h5).1,by omega,hc _ _ k,hc _ _ g1,hc _ _ m⟩
theorem UX{B:Nat}{w:World}{v:Value}{us:List Us}(h:Dg B w v us):∃a c,v=.slice a us.length c∧us.length<=maxLen:=by
 obtain ⟨h1,⟨rfl,h2⟩|⟨g,cap,b,rfl,h4,h5,h6,d,e,f⟩⟩:=h
 ·exact ⟨none,0,by rw[h2],by rw[h2];exact yC _⟩
 ·exact ⟨_,_,rfl,by omega⟩
theorem GM{f:Nat->List Us}{n i:Nat}(h:i < n):((List.range i).flatMap f).length+(f i).length<=((List.range n).flatMap f).length:=by
 obtain ⟨post,a⟩:=BO f h
 rw[a];simp only[yq];omega
theorem GN{ops:Array Oper}{rest:List Oper}{o:Oper}{a:Act}{Q:QT}{W:World}(B:Nat)(e:o.guard=none)(s x:Operand)(j:o.op=.call {callee:=.builtin .append,args:=#[s,x],argTypes:=#[151,151]})
 (v:Value)(us:List Us)(hs:a.eval s=v)(f:Dg B W v us)(X:Value)(b:List Us)(m:a.eval x=X)(l:Ce W X b.length 3 (b.flatMap AX))(g:us.length+b.length<=1000000)(d:B<=W.heap.size)
 (h:∀(i:Option Addr) (c:Nat) w',Dg B w' (.slice i (us.length+b.length) c) (us++b)->W.grownBy w' v.ownBlock->wpList Try.prog ops Q rest (a.put o.dst (.slice i (us.length+b.length) c)) w'):wpList Try.prog ops Q (o::rest) a W:=
 yG e fun _ k=>NF B e s x j v us hs f X b m l g d (fun i c w' h1 h2=>k _ _ (h i c w' h1 h2))
def Sf(L:Bw)(x:Am)(i:Nat):List Us:=(List.range i).flatMap (EO L.farms x.farms)
def Mm(L:Bw)(x:Am)(i:Nat):List Us:=Sf L x L.farms.n++(List.range i).flatMap (Hi L x.rots)
def Mn(L:Bw)(x:Am)(i:Nat):List Us:=Mm L x L.rots.n++(List.range i).flatMap (Dn L.rights x.rights)
def NJ(L:Bw)(x:Am)(i:Nat):List Us:=Mn L x L.rights.n++(List.range i).flatMap (Er L.duties x.duties)
theorem Ls(L:Bw)(x:Am):NJ L x L.duties.n=CD L x:=rfl
theorem MO(L:Bw)(x:Am)(i:Nat):Sf L x (i+1)=Sf L x i++EO L.farms x.farms i:=Ar _ i
theorem Sg(L:Bw)(x:Am)(i:Nat):Mm L x (i+1)=Mm L x i++Hi L x.rots i:=by unfold Mm;rw[Ar,yp]
theorem MQ(L:Bw)(x:Am)(i:Nat):Mn L x (i+1)=Mn L x i++Dn L.rights x.rights i:=by unfold Mn;rw[Ar,yp]
theorem Sh(L:Bw)(x:Am)(i:Nat):NJ L x (i+1)=NJ L x i++Er L.duties x.duties i:=by unfold NJ;rw[Ar,yp]
theorem Rc(L:Bw)(x:Am):(Mn L x L.rights.n).length<=(CD L x).length:=by rw[<-Ls];unfold NJ;simp
theorem Rd(L:Bw)(x:Am):(Mm L x L.rots.n).length<=(CD L x).length:=yl (by unfold Mn;simp) (Rc L x)
theorem UY(L:Bw)(x:Am):(Sf L x L.farms.n).length<=(CD L x).length:=yl (by unfold Mm;simp) (Rd L x)
theorem OJ{L:Bw}{x:Am}{i:Nat}(h:i < L.farms.n):(Sf L x i).length+(EO L.farms x.farms i).length<=(CD L x).length:=yl (GM h) (UY L x)
theorem OK{L:Bw}{x:Am}{i:Nat}(h:i < L.rots.n):(Mm L x i).length+(Hi L x.rots i).length<=(CD L x).length:=yl (by have:=GM (f:=Hi L x.rots) h;unfold Mm;simp only[yq];omega) (Rd L x)
theorem OL{L:Bw}{x:Am}{i:Nat}(h:i < L.rights.n):(Mn L x i).length+(Dn L.rights x.rights i).length<=(CD L x).length:=yl (by have:=GM (f:=Dn L.rights x.rights) h;unfold Mn;simp only[yq];omega) (Rc L x)
theorem TC{L:Bw}{x:Am}{i:Nat}(h:i < L.duties.n):(NJ L x i).length+(Er L.duties x.duties i).length<=(CD L x).length:=by
 have:=GM (f:=Er L.duties x.duties) h
 rw[<-Ls];unfold NJ;simp only[yq];omega
theorem UZ{w:World}{C:Addr->Prop}{e:Ex}{b o:Nat}(h:S5 w C e b o):C ⟨b,o,none⟩∧C ⟨b,o+5,none⟩:=by
 cases e
 rw[S5] at h
 obtain ⟨_,_,h1,h2,_⟩:=h
 exact ⟨h1.2,h2.2⟩
theorem V5{e:Ex}{z:Int}(h:e.op=0->z=e.ri):Gi e.op e.n e.u e.rn z e.args.length=CQ e:=by
 unfold CQ
 by_cases h0:e.op=0
 ·rw[h h0]
 ·simp[Gi,h0]
theorem Lt(n:Nat)(hn:1<=n){N:NP}{w0:World}{C D:Addr->Prop}{Bu:Nat}{L:Bw}{x:Am}(hU:Lr N w0 C D Bu L x):
  W8 Fence.wide n Try.prog 81 #[.pointer (some ⟨Bu,0,none⟩)] (Xq w0 C D) ((Cp w0 L x).1.map Us.v) (if (Cp w0 L x).2 then none else some (F9 170)):=by
 intro l J Jx Jp W hJ dg eg cy cc a2 a8 h0
 have en:∀(fn:Fn) (first cap:Array Value) (w:World),(Instr.makeFunc fn first cap).run Try.prog w=.ok (.func fn first cap) w:=fun _ _ _ _=>rfl
 obtain ⟨X,hX⟩:∃X,X=Cp w0 L x:=⟨_,rfl⟩
 rw[<-hX] at a2 a8 ⊢
 have A:=yb hU
 have HX:=yb hX
 have H0:=yb h0
 have HJ:=yb hJ
 have d3:=yb dg
 have bu:=yb eg
 have bq:=yb cy
 have c7:=yb cc
 have c8:=yb a2
 have ai:=yb a8
 have cB:=((cy _ _ _ h0).1 _ hU.box).trans hU.heads.box
 have fc:=yb (zN W _ cB)
 have dB:∀(o o':Obj),((W.alloc o).alloc o').cell? (aV Bu 0)=some (pV L.s 0):=fun o o'=>((((yg W.heap.size W).alloc (yf _) o).alloc (by simp) o').cell (p:=(aV Bu 0)) fc.o).trans cB
 clear hU hX h0 hJ dg eg cy cc a2 a8 cB
 refine za.2 (Cv (n:=10) Try.func81 rfl ?_)
 simp only[Try.ntmps81,yD,yI,yM,Nat.reduceAdd,Nat.reduceSub,zO,zP,xe,zU,zk,z8]
 iterate 3
  refine Ah (A7 ?_)
  go_wp2
 refine Ah (Ah (A7 ?_))
 go_wp2_with (first|(go_at_call 67;refine (Fy _ _).mono ?_;rintro e w2 ⟨rfl,rfl⟩))
 have bw:Below W.heap.size W (((W.alloc (.cells #[.func (.yield l) #[] #[]] 148)).alloc (.cells #[.func (.func 82) #[] #[pV W.heap.size 0,pV (W.heap.size+1) 0]] 149)).alloc (.cells #[pV L.s 0] 52)):=(((yg _ _).alloc (yf _) _).alloc (by simp) _).alloc (by simp;omega) _
 have bz:Tz l W.heap.size (W.heap.size+1) (W.heap.size+1+1) L.s (((W.alloc (.cells #[.func (.yield l) #[] #[]] 148)).alloc (.cells #[.func (.func 82) #[] #[pV W.heap.size 0,pV (W.heap.size+1) 0]] 149)).alloc (.cells #[pV L.s 0] 52)):=by
  refine ⟨?_,?_,?_⟩
  ·refine qd _ (qd _ ?_)
   have:=World.alloc_heap_new W (.cells #[.func (.yield l) #[] #[]] 148)
   simp only[World.cell?,this];simp
  ·refine qd _ ?_
   have:=World.alloc_heap_new (W.alloc (.cells #[.func (.yield l) #[] #[]] 148)) (.cells #[.func (.func 82) #[] #[pV W.heap.size 0,pV (W.heap.size+1) 0]] 149)
   rw[zB] at this
   simp only[World.cell?,this];simp
  ·have:=World.alloc_heap_new ((W.alloc (.cells #[.func (.yield l) #[] #[]] 148)).alloc (.cells #[.func (.func 82) #[] #[pV W.heap.size 0,pV (W.heap.size+1) 0]] 149)) (.cells #[pV L.s 0] 52)
   rw[zB,zB] at this
   simp only[World.cell?,this];simp
 have cg:(((W.alloc (.cells #[.func (.yield l) #[] #[]] 148)).alloc (.cells #[.func (.func 82) #[] #[pV W.heap.size 0,pV (W.heap.size+1) 0]] 149)).alloc (.cells #[pV L.s 0] 52)).heap.size=W.heap.size+3:=by simp
 have bg:=yb bw
 have ey:=yb bz
 have e5:=yb cg
 clear bw bz cg dB en
 generalize ((W.alloc (.cells #[.func (.yield l) #[] #[]] 148)).alloc (.cells #[.func (.func 82) #[] #[pV W.heap.size 0,pV (W.heap.size+1) 0]] 149)).alloc (.cells #[pV L.s 0] 52)=W1 at*
 obtain ⟨q,V⟩:∃q,q=EU w0 L x:=⟨_,rfl⟩
 have di:q.length=(Cd L).length+1:=by rw[V];unfold EU;rw[yq,Fz A.o];rfl
 have eh:∀k (hk:k < (Cd L).length) (ag:k < (AN x).length) (af:k < q.length),q[k]=CO w0 (Cd L)[k] (AN x)[k]:=by
  intro k hk ag af
  apply yh
  rw[<-yk af,V]
  unfold EU
  rw[zC (by rw[Fz A.o];exact hk)]
  unfold Ea
  rw[List.getElem?_zipWith,yk hk,yk ag]
 have bp:Hid (X=BY q):=yb (by rw[HX.o,V];rfl)
 have f7:=yb di
 have fa:=yb eh
 have dh:=yb V
 have dj:Hid (E6 (fun k=>J (BY (q.take k)).1.length)):=yb (fun k O W O' W' h hz ho ht hu hk hO=>HJ.o _ O W O' W' h hz ho ht hu hk hO)
 have dm:(W.heap.size<=W.heap.size∧W.heap.size < W.heap.size+3)∧(W.heap.size<=W.heap.size+1∧W.heap.size+1 < W.heap.size+3)∧(W.heap.size<=W.heap.size+1+1∧W.heap.size+1+1 < W.heap.size+3):=by omega
 have av:=yb dm
 clear di eh V dm
 refine EP ?_
 refine Ei (n:=10) Try.func81 rfl (fun _ _=>rfl) (Ln 9 (by omega) (W.heap.size+1+1) L A.o.ok) (fun a ha=>by
   obtain ⟨i,hi,rfl⟩:=zg.1 ha
   obtain ⟨b,o,c,h1,_⟩:=A.o.top.get i hi (by rw[<-A.o.top.length];exact hi)
   rw[h1];rfl)
  (GG (fun k=>J (BY (q.take k)).1.length) W.heap.size (W.heap.size+3) l W.heap.size (W.heap.size+1) (W.heap.size+1+1) L.s (fun k=>(BY (q.take k)).2=true))
  (fun c O w=>c=.ret∧GG (fun (_:Unit)=>Jx) W.heap.size (W.heap.size+3) l W.heap.size (W.heap.size+1) (W.heap.size+1+1) L.s (fun _=>True) () O w)
  (fun ch=>GG (fun (_:Unit)=>Jp ch) W.heap.size (W.heap.size+3) l W.heap.size (W.heap.size+1) (W.heap.size+1+1) L.s (fun _=>True) ())
  (fun k a=>GG (fun k=>J (BY (q.take k)).1.length) W.heap.size (W.heap.size+3) l W.heap.size (W.heap.size+1) (W.heap.size+1+1) L.s (fun k=>(BY (q.take k)).2=true∧∃(b o:Nat) (lt:Int) (hk:k < (Cd L).length),(Cd L)[k]'hk=#[pV b o,iV lt]∧a={tmps:=#[.func (.yield l) #[] #[],pV Bu 0,pV W.heap.size 0,pV (W.heap.size+1) 0,pV b o,iV lt,undef,undef,undef,undef,undef,undef,undef,undef,undef,undef,undef,undef,undef,undef,.func (.func 82) #[] #[pV W.heap.size 0,pV (W.heap.size+1) 0],pV L.s 0,.func (.func 89) #[] #[pV (W.heap.size+1+1) 0],pV b o,iV lt,undef,undef,undef,undef,undef,undef,undef,undef,undef,undef,undef,undef,undef,undef,undef,undef,undef,undef,undef,undef,undef,undef,undef,undef,undef,undef,undef,undef,undef,undef,undef,undef,undef,undef,undef,undef,undef,undef,undef,undef,undef,undef,undef,undef,undef,undef,undef,undef,undef,undef,undef,undef,undef,undef,undef,undef,undef,undef,undef,undef,undef,undef,undef,undef,undef,undef,undef,undef,undef,undef,undef,undef,undef,undef,undef,undef,undef,undef,undef,undef,undef,undef,undef,undef,undef,undef,undef,undef,undef,undef,undef,undef,undef,undef,undef,undef,undef,undef,undef,undef,undef,undef,undef,undef,undef,undef,undef,undef,undef,undef,undef,undef,undef,undef,undef,undef,undef,undef,undef,undef,undef,undef,undef,undef,undef,undef,undef,undef,undef,undef,undef,undef,undef,undef,undef,undef,undef,undef,undef,undef,undef,undef,undef,undef,undef,undef,undef,undef,undef,undef,undef,undef,undef,undef,undef,undef,undef,undef,undef,undef,undef,undef,undef,undef,undef,undef,undef],defers:=[]}) k)
  ?_ ?_ ?_ ?_ ?_ ?_ (fun _ h=>by cases h) ?_ ?_ ?_ ?_ ?_ ?_
 ·exact GG.stays dj.o av.o
 ·rintro c _ O w O' w' ⟨h1,h2⟩ hz ho ht hu hk hO
  exact ⟨h1,GG.stays d3.o av.o () O w O' w' h2 hz ho ht hu hk hO⟩
 ·exact fun ch _ O w O' w' h hz ho ht hu hk hO=>GG.stays (bu.o ch) av.o () O w O' w' h hz ho ht hu hk hO
 ·exact fun a=>GG.stays dj.o av.o
 ·exact fun k O w h=>Jo.at A.o (bq.o _ _ _ h.j) h.box.s
 ·exact fun c O w h=>Jo.at A.o (c7.o _ _ h.2.j) h.2.box.s
 ·refine ⟨HJ.o 0 _ W _ W1 H0.o (by rw[e5.o];omega) bg.o.os bg.o.tape bg.o.output (fun b _ E=>bg.o.block b E) (fun b hb=>?_),fun _ h=>h.elim,by rw[e5.o];omega,ey.o,rfl⟩
  rcases hb with hb|hb
  ·exact hb.elim
  ·exact .inr hb.1
 ·intro k hk O w lo hI hO hl _
  obtain ⟨b,o,fj,h1,_⟩:=A.o.top.get k hk (by rw[<-A.o.top.length];exact hk)
  have ag:k < (AN x).length:=by rw[<-A.o.top.length];exact hk
  rw[h1]
  generalize ((AN x)[k]'ag).2=lt at h1
  have HI:=yb hI
  have HE:=yb h1
  clear hI hO hl h1
  gi_wp2
  first
  |exact ⟨BL.refl _ _,HI.o.j,HI.o.own,HI.o.size,HI.o.box,HI.o.p,b,o,lt,hk,HE.o,rfl⟩
  |(rename_i hK;exact hK _ _ ⟨BL.refl _ _,HI.o.j,HI.o.own,HI.o.size,HI.o.box,HI.o.p,b,o,lt,hk,HE.o,rfl⟩)
  |(rename_i hK _;exact hK _ _ ⟨BL.refl _ _,HI.o.j,HI.o.own,HI.o.size,HI.o.box,HI.o.p,b,o,lt,hk,HE.o,rfl⟩)
  |fail
 ·rintro k hk O w lo a1 hl dk ct ⟨hj,a2,ed,aa,hp,b,o,lt,eq,hx,rfl⟩
  obtain ⟨b',o',cs,h1,h2,h3,h4,h5,h6,h7,h8,h9⟩:=A.o.top.get k hk (by rw[<-A.o.top.length];exact hk)
  rw[hx] at h1
  have ag:k < (AN x).length:=by rw[<-A.o.top.length];exact hk
  have af:k < q.length:=by rw[f7.o];omega
  have bm:=fa.o k hk ag af
  have ba:=A.o.few _ (yz ag)
  rcases dc:(AN x)[k] with ⟨ex,fm⟩
  simp only[dc] at h1 h3 h4 h9 bm ba
  simp only[qn,xC,xL,yY,qv,Value.int.injEq,xW,and_true] at h1
  obtain ⟨⟨rfl,rfl⟩,rfl⟩:=h1
  obtain ⟨ea,fd,rfl,e1,e2,e3⟩:=h3.cells
  obtain ⟨r0,r1,r2,r3,r4,r5⟩:=BJ h2
  have ac:=bq.o _ _ _ hj
  have hC:=UZ h4
  have c0:=(ac.1 _ hC.1).trans r0
  have c1:=(ac.1 _ h5).trans r1
  have c2:=(ac.1 _ h6).trans r2
  have c3:=(ac.1 _ h7).trans r3
  obtain ⟨z,c4⟩:=ac.2 _ h8
  have c5:=(ac.1 _ hC.2).trans r5
  have ax:Gi ex.op ex.n ex.u ex.rn z ex.args.length=CQ ex:=V5 (fun h0=>by
   have:=(ac.1 _ (h9 h0)).symm.trans c4
   rw[r4] at this
   simp only[yY,Value.int.injEq,xW] at this
   exact this.symm)
  have bd:=yb ax
  have cu:JZ J (Ml W.heap.size (W.heap.size+3) O) W.heap.size l W.heap.size (W.heap.size+1) (BY (q.take k)).1.length w:=⟨hj,by omega,fun b hb=>hb.elim (ct b) (fun h=>by omega),⟨.inr (by omega),aa.y⟩,⟨.inr (by omega),aa.i⟩⟩
  have bt:=yb cu
  have cd:VM n l W.heap.size (W.heap.size+1) W.heap.size (Ml W.heap.size (W.heap.size+3) O) X.1 w0 C J Jx Jp:=⟨HJ.o,fun k O W h=>(bq.o k O W h).1,fun O W h=>(c7.o O W h).1,fun k hk W' hs=>by
   have:=ai.o k (by simpa using hk) _ W' hs.j hs.size (fun b hb=>⟨hb.elim (fun h=>by have:=a2 b h;omega) (fun h=>h.1),hs.own b hb⟩)
   rw[zF] at this
   exact this⟩
  have ca:CQ ex=true->BY (q.take (k+1))=((BY (q.take k)).1++[],true):=fun hl=>by
   rw[MK af hp,bm];simp[CO,hl]
  have cj:CQ ex=false->q[k]=Cx w0 lt ex b o:=fun hl=>by
   rw[bm];simp[CO,hl,hx,Tw]
  have cf:=yb ca
  have aw:CQ ex=false->BY (q.take (k+1))=((BY (q.take k)).1++(Cx w0 lt ex b o).1,(Cx w0 lt ex b o).2):=fun hl=>by
   rw[MK af hp,cj hl]
  have d8:=yb aw
  have b9:CQ ex=false->∀w3,Below w.heap.size w w3->Calls Try.prog 82 #[pV b o,iV lt,pV W.heap.size 0,pV (W.heap.size+1) 0] w3
    (Oz J Jx Jp (Ml W.heap.size (W.heap.size+3) O) ((BY (q.take k)).1.length+(Cx w0 lt ex b o).1.length) (Cx w0 lt ex b o).2 w3):=fun hl w3 T=>by
   refine Q8 n hn l W.heap.size (W.heap.size+1) W.heap.size lt ba (Ml W.heap.size (W.heap.size+3) O) X.1 w0 C J Jx Jp cd ex b o (BY (q.take k)).1 w3 (cu.below HJ.o T) h4 ?_ ?_
   ·obtain ⟨post,ay⟩:=Tv q (k+1)
    rw[aw hl] at ay
    exact ⟨post,by rw[bp.o,ay];simp⟩
   ·intro hf W' ek
    have cv:=Se (l:=q) (k:=k+1) (by rw[aw hl];exact hf)
    rw[aw hl] at cv
    refine c8.o (F9 170) (by rw[bp.o,cv];simp[hf]) _ W' ?_
    rw[bp.o,cv]
    simpa using ek
  have cn:=yb b9
  have bv:=yb a2
  have aj:=yb aa
  have B:=yb ed
  have bi:=aa.i
  have et:=yb (zN w _ bi)
  have el:=yb ct
  have HP:=yb hp
  have ff:=e1
  clear h2 h3 h4 h5 h6 h7 h8 h9 e2 e3 r0 r1 r2 r3 r4 r5 ac hC ax cu cd ca aw b9 a2 aa ed ct hp bm cj hj hx dc hl dk eq ag af ba e1
  generalize ex.args.length=em at*
  generalize f4:CQ ex=LE at*
  clear f4
  cases LE with
  |true=>
   gi_wp2_with fail
   refine ⟨trivial,zq (CallsIn.inRound lo (za.2 (Ku _ _ _ _ _ _ _ _ _))) ?_⟩
   rintro e w3 ⟨rfl,T⟩
   rw[bd.o]
   gi_wp2_with fail
   repeat (refine ⟨fun _ h=>(by cases h),?_⟩;gi_wp2_with fail)
   refine ⟨⟨T.size,fun b hb=>T.block b (el.o b hb)⟩,?_,bv.o,yl B.o T.size,?_,?_⟩
   ·have:=(bt.o.below HJ.o T).j
    rw[cf.o (by simp),zt];exact this
   ·have hB:=av.o
    exact aj.o.same (T.block _ (by have:=B.o;omega)) (T.block _ (by have:=B.o;omega)) (T.block _ (by have:=B.o;omega))
   ·rw[cf.o (by simp)]
  |false=>
   gi_wp2_with fail
   refine ⟨trivial,zq (CallsIn.inRound lo (za.2 (Ku _ _ _ _ _ _ _ _ _))) ?_⟩
   rintro e w3 ⟨rfl,T⟩
   rw[bd.o]
   have e7:=(T.cell (p:=(aV (W.heap.size+1) 0)) et.o).trans bi
   have a7:=yb T
   clear T
   gi_wp2_with fail
   refine ⟨trivial,zq (CallsIn.inRound lo (za.2 (cn.o (by simp) w3 a7.o))) ?_⟩
   rintro e w4 (⟨r,rfl,aq,(⟨rfl,dt,ef⟩|⟨rfl,db⟩)⟩|⟨ch,rfl,f2,aq⟩)
   ·have R:=yb ((bt.o.sameBelow a7.o).trans aq)
    have ej:=yb ef
    have f1:=yb dt
    clear aq ef dt bi e7
    gi_wp2_with fail
    refine ⟨R.o.sub (fun b hb=>.inl hb),?_,bv.o,yl B.o R.o.1,?_,?_⟩
    ·rw[d8.o (by simp)]
     simp only[yq]
     exact ej.o
    ·exact aj.o.same (R.o.2 _ (.inr (by omega))) (R.o.2 _ (.inr (by omega))) (R.o.2 _ (.inr (by omega)))
    ·rw[d8.o (by simp)];exact f1.o
   ·have R:=yb ((bt.o.sameBelow a7.o).trans aq)
    have ei:=yb db
    clear aq db bi e7
    gi_wp2_with fail
    exact ⟨R.o.sub (fun b hb=>.inl hb),rfl,ei.o,bv.o,yl B.o R.o.1,aj.o.same (R.o.2 _ (.inr (by omega))) (R.o.2 _ (.inr (by omega))) (R.o.2 _ (.inr (by omega))),trivial⟩
   ·have R:=yb ((bt.o.sameBelow a7.o).trans aq)
    exact ⟨rfl,R.o.sub (fun b hb=>.inl hb),f2,bv.o,yl B.o R.o.1,aj.o.same (R.o.2 _ (.inr (by omega))) (R.o.2 _ (.inr (by omega))) (R.o.2 _ (.inr (by omega))),trivial⟩
 ·rintro - Dd O w hD ar hI ah
  have hT:(Ea w0 L x).length=(Cd L).length:=Fz A.o
  have dw:q.take (Cd L).length=Ea w0 L x:=by rw[dh.o];unfold EU;rw[<-hT,List.take_left'];rfl
  have cz:=hI.p
  have be:=hI.j
  simp only[dw] at cz be
  obtain ⟨K0,cr⟩:∃K0,K0=(BY (Ea w0 L x)).1:=⟨_,rfl⟩
  have e8:X=(K0++(if Co x then CD L x else []),Co x):=by
   rw[bp.o,dh.o];unfold EU
   rw[Ff,cz,yw rfl,cr]
   simp only[BY]
   cases Co x<;>simp
  rw[<-cr] at be
  have d4:J K0.length (fun b=>Ml W.heap.size (W.heap.size+3) O b∧b < w.heap.size) w:=HJ.o _ _ _ _ _ be (yf _) rfl rfl rfl (fun _ _ _=>rfl) (fun b hb=>.inl hb.1)
  have ee:Dd < w.heap.size:=(ye.1 ah).1
  have ce:∀b,Ml W.heap.size (W.heap.size+3) O b->W.heap.size<=b:=fun b hb=>hb.elim (fun h=>by have:=hI.own b h;omega) (fun h=>h.1)
  have bj:∀wr,Below w.heap.size w wr->∀p,C p->wr.cell? p=w0.cell? p:=fun wr hb=>(bq.o _ _ _ (F8 HJ.o d4 hb)).1
  have Q:=yb bj
  have dl:=yb d4
  have d6:=yb e8
  have de:=yb ce
  have b3:=yb ee
  have df:=yb ar
  have co:=yb ah
  have cp:=yb hI.box
  have c6:=yb hI.size
  have bx:w.cell? (aV Bu 0)=some (pV L.s 0):=(bj w (yg _ _) _ A.o.box).trans A.o.heads.box
  have hf:w.cell? (aV L.s 22)=some (.slice L.farms.a L.farms.n L.farms.c):=(bj w (yg _ _) _ (A.o.src 22 (by omega) (by omega))).trans A.o.heads.farms
  have b4:L.farms.n<=140737488355328:=A.o.ok.farms.1
  clear hT dw cz be cr e8 d4 ee ce bj ar ah hI hD
  simp only[Exit.inBlock,Exit.then]
  refine A7 ?_
  go_wp2
  clear bx hf
  go_loopw [6,42] (fun v6 iv wr=>∃(i:Nat) (us:List Us),i<=L.farms.n∧iv=iV i∧Hid (us=Sf L x i)∧Hid (Below w.heap.size w wr)∧Hid (Dg w.heap.size wr v6 us)) (fun _ iv _=>L.farms.n - (intOf iv).toNat)
  case atStart=>exact ⟨0,[],yC _,rfl,yb rfl,yb (yg _ _),yb (S7 _ _)⟩
  case round=>
   obtain ⟨i,us,hi,rfl,G,m,HOr⟩:=hrel
   by_cases E:i < L.farms.n
   ·obtain ⟨b,o,he,a6⟩:=A.o.ok.farms.get E
    have a0:i < x.farms.length:=by rw[<-A.o.nfarms];exact E
    have bx:=(Q.o wr m.o _ A.o.box).trans A.o.heads.box
    have hf:wr.cell? (aV L.s 22)=some (.slice L.farms.a L.farms.n L.farms.c):=(Q.o wr m.o _ (A.o.src 22 (by omega) (by omega))).trans A.o.heads.farms
    have hr:=(Q.o wr m.o _ (A.o.river i a0).1).trans (A.o.river i a0).2
    rw[a6] at hr
    rw[he] at hf
    clear he
    have S:EO L.farms x.farms i=[⟨b,o+i*12+1,4,0,x.farms[i].on.name,x.farms[i].on.n⟩,⟨b,o+i*12+10,if x.farms[i].river then 0 else 3,0,x.farms[i].crop.name,x.farms[i].crop.n⟩]:=by
     unfold EO;rw[yk a0];simp[Dv,a6]
    have b5:(i:Int) < (L.farms.n:Int):=by omega
    cases bo:x.farms[i].river with
    |true=>
     rw[bo] at hr S
     simp only[zX] at S
     have P:=yb S
     clear S bo
     have F:Hid (Below wr.heap.size wr (wr.drew.alloc (.cells #[pV b (o+i*12+1),iV 4,iV 0,pV b (o+i*12+10),iV 0,iV 0] 106))):=yb ((yg _ _).drew.alloc (yf _) _)
     have I:=yb (Dg.up HOr.o F.o)
     have M:Hid (Ce (wr.drew.alloc (.cells #[pV b (o+i*12+1),iV 4,iV 0,pV b (o+i*12+10),iV 0,iV 0] 106)) (.slice (some (aV wr.heap.size 0)) 2 2) 2 3 ([(⟨b,o+i*12+1,4,0,x.farms[i].on.name,x.farms[i].on.n⟩:Us),(⟨b,o+i*12+10,0,0,x.farms[i].crop.name,x.farms[i].crop.n⟩:Us)].flatMap AX)):=yb (Hf (us:=[(⟨b,o+i*12+1,4,0,x.farms[i].on.name,x.farms[i].on.n⟩:Us),(⟨b,o+i*12+10,0,0,x.farms[i].crop.name,x.farms[i].crop.n⟩:Us)]) (World.alloc_heap_new wr.drew _) 2)
     have K:Hid (us.length+2<=1000000):=yb (by have h1:=OJ (x:=x) E;have h2:=A.o.short;have h3:=P.o;have h4:=G.o;rw[h3] at h1;rw[h4];simp only[yI,yM] at h1 ⊢;omega)
     have B:Hid (w.heap.size<=(wr.drew.alloc (.cells #[pV b (o+i*12+1),iV 4,iV 0,pV b (o+i*12+10),iV 0,iV 0] 106)).heap.size):=yb (yl m.o.size F.o.size)
     have Z:=yb (m.o.trans (F.o.mono m.o.size))
     go_wp2_with fail
     go_region_held3 (fun _=>True) (trivial) (first|(refine De w.heap.size rfl _ _ rfl u6 us rfl I.o (.slice (some (aV wr.heap.size 0)) 2 2) [(⟨b,o+i*12+1,4,0,x.farms[i].on.name,x.farms[i].on.n⟩:Us),(⟨b,o+i*12+10,0,0,x.farms[i].crop.name,x.farms[i].crop.n⟩:Us)] rfl M.o K.o B.o ?_;intro ad c w5 t H;have Y:=yb t;have U:=yb (EW Z.o B.o I.o H);clear t H))
     go_wp2
     exact ⟨⟨i+1,_,by omega,by push_cast;rfl,yb (by rw[G.o,MO,P.o]),U,Y⟩,by simp[intOf];omega⟩
    |false=>
     rw[bo] at hr S
     simp only[Bool.false_eq_true,if_false] at S
     have P:=yb S
     clear S bo
     have F:Hid (Below wr.heap.size wr (wr.drew.alloc (.cells #[pV b (o+i*12+1),iV 4,iV 0,pV b (o+i*12+10),iV 3,iV 0] 106))):=yb ((yg _ _).drew.alloc (yf _) _)
     have I:=yb (Dg.up HOr.o F.o)
     have M:Hid (Ce (wr.drew.alloc (.cells #[pV b (o+i*12+1),iV 4,iV 0,pV b (o+i*12+10),iV 3,iV 0] 106)) (.slice (some (aV wr.heap.size 0)) 2 2) 2 3 ([(⟨b,o+i*12+1,4,0,x.farms[i].on.name,x.farms[i].on.n⟩:Us),(⟨b,o+i*12+10,3,0,x.farms[i].crop.name,x.farms[i].crop.n⟩:Us)].flatMap AX)):=yb (Hf (us:=[(⟨b,o+i*12+1,4,0,x.farms[i].on.name,x.farms[i].on.n⟩:Us),(⟨b,o+i*12+10,3,0,x.farms[i].crop.name,x.farms[i].crop.n⟩:Us)]) (World.alloc_heap_new wr.drew _) 2)
     have K:Hid (us.length+2<=1000000):=yb (by have h1:=OJ (x:=x) E;have h2:=A.o.short;have h3:=P.o;have h4:=G.o;rw[h3] at h1;rw[h4];simp only[yI,yM] at h1 ⊢;omega)
     have B:Hid (w.heap.size<=(wr.drew.alloc (.cells #[pV b (o+i*12+1),iV 4,iV 0,pV b (o+i*12+10),iV 3,iV 0] 106)).heap.size):=yb (yl m.o.size F.o.size)
     have Z:=yb (m.o.trans (F.o.mono m.o.size))
     go_wp2_with fail
     go_region_held3 (fun _=>True) (trivial) (first|(refine De w.heap.size rfl _ _ rfl u6 us rfl I.o (.slice (some (aV wr.heap.size 0)) 2 2) [(⟨b,o+i*12+1,4,0,x.farms[i].on.name,x.farms[i].on.n⟩:Us),(⟨b,o+i*12+10,3,0,x.farms[i].crop.name,x.farms[i].crop.n⟩:Us)] rfl M.o K.o B.o ?_;intro ad c w5 t H;have Y:=yb t;have U:=yb (EW Z.o B.o I.o H);clear t H))
     go_wp2
     exact ⟨⟨i+1,_,by omega,by push_cast;rfl,yb (by rw[G.o,MO,P.o]),U,Y⟩,by simp[intOf];omega⟩
   ·obtain rfl:i=L.farms.n:=by omega
    have bx:=(Q.o wr m.o _ A.o.box).trans A.o.heads.box
    have hf:wr.cell? (aV L.s 23)=some (.slice L.rots.a L.rots.n L.rots.c):=(Q.o wr m.o _ (A.o.src 23 (by omega) (by omega))).trans A.o.heads.rots
    have b4:L.rots.n<=140737488355328:=A.o.ok.rots.1
    go_wp2
    clear bx hf
    obtain ⟨fl,rfl⟩:∃z:World,z=wr:=⟨_,rfl⟩
    obtain ⟨fs,rfl⟩:∃z:Value,z=u6:=⟨_,rfl⟩
    go_loopw [6,73] (fun v6 iv wr=>∃(i:Nat) (us:List Us),i<=L.rots.n∧iv=iV i∧Hid (us=Mm L x i)∧Hid (Below w.heap.size w wr)∧Hid (Dg w.heap.size wr v6 us)) (fun _ iv _=>L.rots.n - (intOf iv).toNat)
    case atStart=>exact ⟨0,us,yC _,rfl,yb (by rw[G.o];simp[Mm]),m,HOr⟩
    case round=>
     clear G m HOr
     obtain ⟨i,us,hi,rfl,G,m,HOr⟩:=hrel
     by_cases E:i < L.rots.n
     ·obtain ⟨b,o,he,a6⟩:=A.o.ok.rots.get E
      have a0:i < x.rots.length:=by rw[<-A.o.nrots];exact E
      have bx:=(Q.o wr m.o _ A.o.box).trans A.o.heads.box
      have hf:wr.cell? (aV L.s 23)=some (.slice L.rots.a L.rots.n L.rots.c):=(Q.o wr m.o _ (A.o.src 23 (by omega) (by omega))).trans A.o.heads.rots
      rw[he] at hf
      clear he
      have f5:=yb (A.o.nturns i a0)
      have c9:=yb (A.o.ok.turns i E)
      have dn:Hid (∀W,Below w.heap.size w W->W.cell? (aV b (o+i*23+22))=some (.slice (A4 L i).a (A4 L i).n (A4 L i).c)):=yb (fun W hW=>by
       have h1:=(Q.o W hW _ (A.o.turns i E)).trans (A.o.heads.turns i E)
       rw[a6] at h1;exact h1)
      have P:Hid (Hi L x.rots i=⟨b,o+i*23+1,4,0,x.rots[i].on.name,x.rots[i].on.n⟩::(List.range (A4 L i).n).flatMap (FF (A4 L i) x.rots[i].turns)):=yb (by
       unfold Hi;rw[yk a0];simp[Dv,a6])
      have b5:(i:Int) < (L.rots.n:Int):=by omega
      have f0:(A4 L i).n<=140737488355328:=c9.o.1
      have ez:∀w5:World,Below w.heap.size w w5->True:=fun _ _=>trivial
      clear ez
      have F:Hid (Below wr.heap.size wr (wr.alloc (.cells #[pV b (o+i*23+1),iV 4,iV 0] 106))):=yb ((yg _ _).alloc (yf _) _)
      have I:=yb (Dg.up HOr.o F.o)
      have M:Hid (Ce (wr.alloc (.cells #[pV b (o+i*23+1),iV 4,iV 0] 106)) (.slice (some (aV wr.heap.size 0)) 1 1) 1 3 ([(⟨b,o+i*23+1,4,0,x.rots[i].on.name,x.rots[i].on.n⟩:Us)].flatMap AX)):=yb (Hf (us:=[(⟨b,o+i*23+1,4,0,x.rots[i].on.name,x.rots[i].on.n⟩:Us)]) (World.alloc_heap_new wr _) 1)
      have K:Hid (us.length+1<=1000000):=yb (by have h1:=OK (x:=x) E;have h2:=A.o.short;have h3:=P.o;have h4:=G.o;rw[h3] at h1;rw[h4];simp only[yI] at h1;omega)
      have B:Hid (w.heap.size<=(wr.alloc (.cells #[pV b (o+i*23+1),iV 4,iV 0] 106)).heap.size):=yb (yl m.o.size F.o.size)
      have Z:=yb (m.o.trans (F.o.mono m.o.size))
      go_wp2_with (first|(at_builtin;refine GN w.heap.size rfl _ _ rfl u6 us rfl I.o (.slice (some (aV wr.heap.size 0)) 1 1) [(⟨b,o+i*23+1,4,0,x.rots[i].on.name,x.rots[i].on.n⟩:Us)] rfl M.o K.o B.o ?_;intro ad c w5 t H;have Y:=yb t;have U:=yb (EW Z.o B.o I.o H);have ht:=dn.o w5 U.o;clear t H))
      clear bx hf ht
      obtain ⟨wg,rfl⟩:∃z:World,z=wr:=⟨_,rfl⟩
      obtain ⟨vg,rfl⟩:∃z:Value,z=u6:=⟨_,rfl⟩
      go_loopw [6,94] (fun v6 iv wr=>∃(k:Nat) (ao:List Us),k<=(A4 L i).n∧iv=iV k∧Hid (ao=us++(⟨b,o+i*23+1,4,0,x.rots[i].on.name,x.rots[i].on.n⟩::(List.range k).flatMap (FF (A4 L i) x.rots[i].turns)))∧Hid (Below w.heap.size w wr)∧Hid (Dg w.heap.size wr v6 ao)) (fun _ iv _=>(A4 L i).n - (intOf iv).toNat)
      case atStart=>exact ⟨0,_,yC _,rfl,yb (by simp),U,Y⟩
      case round=>
       clear m HOr U Y
       obtain ⟨k,ao,hk,rfl,b8,m,HOr⟩:=hrel
       by_cases az:k < (A4 L i).n
       ·obtain ⟨b2,o2,eb,d9⟩:=c9.o.get az
        have ew:k < x.rots[i].turns.length:=by rw[<-f5.o];exact az
        have ht:=dn.o wr m.o
        rw[eb] at ht
        clear eb
        have e6:Hid (FF (A4 L i) x.rots[i].turns k=[⟨b2,o2+k*8,5,0,(x.rots[i].turns[k]).farm.name,(x.rots[i].turns[k]).farm.n⟩]):=yb (by
         unfold FF;rw[yk ew];simp[Dv,d9])
        have f9:(k:Int) < ((A4 L i).n:Int):=by omega
        have F:Hid (Below wr.heap.size wr (wr.alloc (.cells #[pV b2 (o2+k*8),iV 5,iV 0] 106))):=yb ((yg _ _).alloc (yf _) _)
        have I:=yb (Dg.up HOr.o F.o)
        have M:Hid (Ce (wr.alloc (.cells #[pV b2 (o2+k*8),iV 5,iV 0] 106)) (.slice (some (aV wr.heap.size 0)) 1 1) 1 3 ([(⟨b2,o2+k*8,5,0,(x.rots[i].turns[k]).farm.name,(x.rots[i].turns[k]).farm.n⟩:Us)].flatMap AX)):=yb (Hf (us:=[(⟨b2,o2+k*8,5,0,(x.rots[i].turns[k]).farm.name,(x.rots[i].turns[k]).farm.n⟩:Us)]) (World.alloc_heap_new wr _) 1)
        have K:Hid (ao.length+1<=1000000):=yb (by have h1:=OK (x:=x) E;have h2:=A.o.short;have h3:=P.o;have h4:=G.o;have h5:=GM (f:=FF (A4 L i) x.rots[i].turns) az;have h6:=e6.o;rw[h6] at h5;rw[h3] at h1;rw[b8.o,h4];simp only[yI,yq,yM] at h1 h5 ⊢;omega)
        have B:Hid (w.heap.size<=(wr.alloc (.cells #[pV b2 (o2+k*8),iV 5,iV 0] 106)).heap.size):=yb (yl m.o.size F.o.size)
        have Z:=yb (m.o.trans (F.o.mono m.o.size))
        go_wp2_with (first|(at_builtin;refine GN w.heap.size rfl _ _ rfl u6 ao rfl I.o (.slice (some (aV wr.heap.size 0)) 1 1) [(⟨b2,o2+k*8,5,0,(x.rots[i].turns[k]).farm.name,(x.rots[i].turns[k]).farm.n⟩:Us)] rfl M.o K.o B.o ?_;intro ad c w5 t H;have Y:=yb t;have U:=yb (EW Z.o B.o I.o H);clear t H))
        exact ⟨⟨k+1,_,by omega,by push_cast;rfl,yb (by rw[b8.o,Ar,e6.o];simp),U,Y⟩,by simp[intOf];omega⟩
       ·obtain rfl:k=(A4 L i).n:=by omega
        have f9:decide (((A4 L i).n:Int) < ((A4 L i).n:Int))=false:=by simp
        go_wp2
        exact ⟨⟨i+1,ao,by omega,by push_cast;rfl,yb (by rw[b8.o,G.o,Sg,P.o]),m,HOr⟩,by simp[intOf];omega⟩
     ·obtain rfl:i=L.rots.n:=by omega
      have bx:=(Q.o wr m.o _ A.o.box).trans A.o.heads.box
      have hf:wr.cell? (aV L.s 24)=some (.slice L.rights.a L.rights.n L.rights.c):=(Q.o wr m.o _ (A.o.src 24 (by omega) (by omega))).trans A.o.heads.rights
      have b4:L.rights.n<=140737488355328:=A.o.ok.rights.1
      go_wp2
      clear bx hf
      obtain ⟨fp,rfl⟩:∃z:World,z=wr:=⟨_,rfl⟩
      obtain ⟨fi,rfl⟩:∃z:Value,z=u6:=⟨_,rfl⟩
      go_loopw [6,115] (fun v6 iv wr=>∃(i:Nat) (us:List Us),i<=L.rights.n∧iv=iV i∧Hid (us=Mn L x i)∧Hid (Below w.heap.size w wr)∧Hid (Dg w.heap.size wr v6 us)∧Hid (∀j (h:j < x.rights.length),j < i->G0 x.rights[j].kind=true)) (fun _ iv _=>L.rights.n - (intOf iv).toNat)
      case atStart=>exact ⟨0,us,yC _,rfl,yb (by rw[G.o];simp[Mn]),m,HOr,yb (fun j _ hj=>by omega)⟩
      case round=>
       clear G m HOr
       obtain ⟨i,us,hi,rfl,G,m,HOr,HK⟩:=hrel
       by_cases E:i < L.rights.n
       ·obtain ⟨b,o,he,a6⟩:=A.o.ok.rights.get E
        have a0:i < x.rights.length:=by rw[<-A.o.nrights];exact E
        have bx:=(Q.o wr m.o _ A.o.box).trans A.o.heads.box
        have hf:wr.cell? (aV L.s 24)=some (.slice L.rights.a L.rights.n L.rights.c):=(Q.o wr m.o _ (A.o.src 24 (by omega) (by omega))).trans A.o.heads.rights
        have hr:=(Q.o wr m.o _ (A.o.kind i a0).1).trans (A.o.kind i a0).2
        rw[a6,qm] at hr
        rw[he] at hf
        clear he
        have S:Dn L.rights x.rights i=[⟨b,o+i*37+2,5,0,x.rights[i].farm.name,x.rights[i].farm.n⟩,⟨b,o+i*37+4,if x.rights[i].kind=1 then 0 else 4,0,x.rights[i].reach.name,x.rights[i].reach.n⟩]:=by
         unfold Dn;rw[yk a0];simp[Dv,a6]
        have b5:(i:Int) < (L.rights.n:Int):=by omega
        have bn:Hid (G0 x.rights[i].kind=true->∀j (h:j < x.rights.length),j < i+1->G0 x.rights[j].kind=true):=yb (fun h j hj fg=>by
         rcases zS j i with h9|h9
         ·exact HK.o j hj h9
         ·obtain rfl:j=i:=by omega
          exact h)
        have bh:Hid (G0 x.rights[i].kind=false->Co x=false):=yb (fun h=>by
         unfold Co;rw[xx];exact ⟨_,yz a0,by simp[h]⟩)
        by_cases hk:G0 x.rights[i].kind=true
        ·have dv:=yb (bn.o hk)
         simp only[G0,yv,yW] at hk
         obtain ⟨k1,k3⟩:=hk
         by_cases al:x.rights[i].kind=1
         ·rw[yw al] at S
          have P:=yb S
          clear S bn bh
          have f8:(x.rights[i].kind==1)=true:=by simpa using al
          have F:Hid (Below wr.heap.size wr (wr.drew.alloc (.cells #[pV b (o+i*37+2),iV 5,iV 0,pV b (o+i*37+4),iV 0,iV 0] 106))):=yb ((yg _ _).drew.alloc (yf _) _)
          have I:=yb (Dg.up HOr.o F.o)
          have M:Hid (Ce (wr.drew.alloc (.cells #[pV b (o+i*37+2),iV 5,iV 0,pV b (o+i*37+4),iV 0,iV 0] 106)) (.slice (some (aV wr.heap.size 0)) 2 2) 2 3 ([(⟨b,o+i*37+2,5,0,x.rights[i].farm.name,x.rights[i].farm.n⟩:Us),(⟨b,o+i*37+4,0,0,x.rights[i].reach.name,x.rights[i].reach.n⟩:Us)].flatMap AX)):=yb (Hf (us:=[(⟨b,o+i*37+2,5,0,x.rights[i].farm.name,x.rights[i].farm.n⟩:Us),(⟨b,o+i*37+4,0,0,x.rights[i].reach.name,x.rights[i].reach.n⟩:Us)]) (World.alloc_heap_new wr.drew _) 2)
          have K:Hid (us.length+2<=1000000):=yb (by have h1:=OL (x:=x) E;have h2:=A.o.short;have h3:=P.o;have h4:=G.o;rw[h3] at h1;rw[h4];simp only[yI,yM] at h1 ⊢;omega)
          have B:Hid (w.heap.size<=(wr.drew.alloc (.cells #[pV b (o+i*37+2),iV 5,iV 0,pV b (o+i*37+4),iV 0,iV 0] 106)).heap.size):=yb (yl m.o.size F.o.size)
          have Z:=yb (m.o.trans (F.o.mono m.o.size))
          go_wp2_with (first|(go_at_call 50;refine (D4 _ _).mono ?_;rintro e w6 ⟨rfl,cm⟩;obtain rfl:=cm.symm))
          go_region_held3 (fun _=>True) (trivial) (first|(refine De w.heap.size rfl _ _ rfl u6 us rfl I.o (.slice (some (aV wr.heap.size 0)) 2 2) [(⟨b,o+i*37+2,5,0,x.rights[i].farm.name,x.rights[i].farm.n⟩:Us),(⟨b,o+i*37+4,0,0,x.rights[i].reach.name,x.rights[i].reach.n⟩:Us)] rfl M.o K.o B.o ?_;intro ad c w5 t H;have Y:=yb t;have U:=yb (EW Z.o B.o I.o H);clear t H))
          go_wp2
          exact ⟨⟨i+1,_,by omega,by push_cast;rfl,yb (by rw[G.o,MQ,P.o]),U,Y,dv⟩,by simp[intOf];omega⟩
         ·rw[yu al] at S
          have P:=yb S
          clear S bn bh
          have f8:(x.rights[i].kind==1)=false:=by simpa using al
          have F:Hid (Below wr.heap.size wr (wr.drew.alloc (.cells #[pV b (o+i*37+2),iV 5,iV 0,pV b (o+i*37+4),iV 4,iV 0] 106))):=yb ((yg _ _).drew.alloc (yf _) _)
          have I:=yb (Dg.up HOr.o F.o)
          have M:Hid (Ce (wr.drew.alloc (.cells #[pV b (o+i*37+2),iV 5,iV 0,pV b (o+i*37+4),iV 4,iV 0] 106)) (.slice (some (aV wr.heap.size 0)) 2 2) 2 3 ([(⟨b,o+i*37+2,5,0,x.rights[i].farm.name,x.rights[i].farm.n⟩:Us),(⟨b,o+i*37+4,4,0,x.rights[i].reach.name,x.rights[i].reach.n⟩:Us)].flatMap AX)):=yb (Hf (us:=[(⟨b,o+i*37+2,5,0,x.rights[i].farm.name,x.rights[i].farm.n⟩:Us),(⟨b,o+i*37+4,4,0,x.rights[i].reach.name,x.rights[i].reach.n⟩:Us)]) (World.alloc_heap_new wr.drew _) 2)
          have K:Hid (us.length+2<=1000000):=yb (by have h1:=OL (x:=x) E;have h2:=A.o.short;have h3:=P.o;have h4:=G.o;rw[h3] at h1;rw[h4];simp only[yI,yM] at h1 ⊢;omega)
          have B:Hid (w.heap.size<=(wr.drew.alloc (.cells #[pV b (o+i*37+2),iV 5,iV 0,pV b (o+i*37+4),iV 4,iV 0] 106)).heap.size):=yb (yl m.o.size F.o.size)
          have Z:=yb (m.o.trans (F.o.mono m.o.size))
          go_wp2_with (first|(go_at_call 50;refine (D4 _ _).mono ?_;rintro e w6 ⟨rfl,cm⟩;obtain rfl:=cm.symm))
          go_region_held3 (fun _=>True) (trivial) (first|(refine De w.heap.size rfl _ _ rfl u6 us rfl I.o (.slice (some (aV wr.heap.size 0)) 2 2) [(⟨b,o+i*37+2,5,0,x.rights[i].farm.name,x.rights[i].farm.n⟩:Us),(⟨b,o+i*37+4,4,0,x.rights[i].reach.name,x.rights[i].reach.n⟩:Us)] rfl M.o K.o B.o ?_;intro ad c w5 t H;have Y:=yb t;have U:=yb (EW Z.o B.o I.o H);clear t H))
          go_wp2
          exact ⟨⟨i+1,_,by omega,by push_cast;rfl,yb (by rw[G.o,MQ,P.o]),U,Y,dv⟩,by simp[intOf];omega⟩
        ·have er:=yb (bh.o (by simpa using hk))
         clear bh bn S
         have ci:Hid (∀W',Below w.heap.size w W'->∀ob,∃O,Jp (F9 170) O (W'.putObj Dd ob)):=yb (fun W' hW ob=>by
          have hX:=d6.o
          rw[er.o] at hX
          have hj:=F8 HJ.o dl.o hW
          refine ⟨_,(bu.o (F9 170)).put (s:=()) ?_ _ (c8.o (F9 170) (by rw[hX];rfl) _ W' (by rw[hX];simpa using hj))⟩
          exact .inl ⟨.inl df.o,b3.o⟩)
         by_cases al:1<=x.rights[i].kind
         ·have af:¬ x.rights[i].kind<=3:=fun h=>hk (by simp[G0,al,h])
          clear hk
          go_wp2_with (first|(go_at_call 50;refine (CN _ _).mono ?_;rintro e w6 ⟨rfl,rfl⟩))
          exact ⟨by simp,.inl ⟨_,_,rfl,run_takeDeferred ((m.o.block Dd b3.o).trans co.o),.inr ⟨_,rfl,ci.o _ m.o _⟩⟩⟩
         ·clear hk
          go_wp2_with (first|(go_at_call 50;refine (CN _ _).mono ?_;rintro e w6 ⟨rfl,rfl⟩))
          exact ⟨by simp,.inl ⟨_,_,rfl,run_takeDeferred ((m.o.block Dd b3.o).trans co.o),.inr ⟨_,rfl,ci.o _ m.o _⟩⟩⟩
       ·obtain rfl:i=L.rights.n:=by omega
        have eo:Hid (Co x=true):=yb (by
         unfold Co;rw[yO];intro d hd
         obtain ⟨j,hj,rfl⟩:=zg.1 hd
         exact HK.o j hj (by rw[A.o.nrights];exact hj))
        have bx:=(Q.o wr m.o _ A.o.box).trans A.o.heads.box
        have hf:wr.cell? (aV L.s 25)=some (.slice L.duties.a L.duties.n L.duties.c):=(Q.o wr m.o _ (A.o.src 25 (by omega) (by omega))).trans A.o.heads.duties
        have b4:L.duties.n<=140737488355328:=A.o.ok.duties.1
        go_wp2
        clear bx hf
        obtain ⟨fo,rfl⟩:∃z:World,z=wr:=⟨_,rfl⟩
        obtain ⟨fq,rfl⟩:∃z:Value,z=u6:=⟨_,rfl⟩
        go_loopw [6,160] (fun v6 iv wr=>∃(i:Nat) (us:List Us),i<=L.duties.n∧iv=iV i∧Hid (us=NJ L x i)∧Hid (Below w.heap.size w wr)∧Hid (Dg w.heap.size wr v6 us)) (fun _ iv _=>L.duties.n - (intOf iv).toNat)
        case atStart=>exact ⟨0,us,yC _,rfl,yb (by rw[G.o];simp[NJ]),m,HOr⟩
        case round=>
         clear G m HOr
         obtain ⟨i,us,hi,rfl,G,m,HOr⟩:=hrel
         by_cases E:i < L.duties.n
         ·obtain ⟨b,o,he,a6⟩:=A.o.ok.duties.get E
          have a0:i < x.duties.length:=by rw[<-A.o.nduties];exact E
          have bx:=(Q.o wr m.o _ A.o.box).trans A.o.heads.box
          have hf:wr.cell? (aV L.s 25)=some (.slice L.duties.a L.duties.n L.duties.c):=(Q.o wr m.o _ (A.o.src 25 (by omega) (by omega))).trans A.o.heads.duties
          rw[he] at hf
          clear he
          have P:Hid (Er L.duties x.duties i=[⟨b,o+i*11+1,5,0,x.duties[i].farm.name,x.duties[i].farm.n⟩,⟨b,o+i*11+3,4,0,x.duties[i].reach.name,x.duties[i].reach.n⟩]):=yb (by
           unfold Er;rw[yk a0];simp[Dv,a6])
          have b5:(i:Int) < (L.duties.n:Int):=by omega
          have F:Hid (Below wr.heap.size wr (wr.drew.alloc (.cells #[pV b (o+i*11+1),iV 5,iV 0,pV b (o+i*11+3),iV 4,iV 0] 106))):=yb ((yg _ _).drew.alloc (yf _) _)
          have I:=yb (Dg.up HOr.o F.o)
          have M:Hid (Ce (wr.drew.alloc (.cells #[pV b (o+i*11+1),iV 5,iV 0,pV b (o+i*11+3),iV 4,iV 0] 106)) (.slice (some (aV wr.heap.size 0)) 2 2) 2 3 ([(⟨b,o+i*11+1,5,0,x.duties[i].farm.name,x.duties[i].farm.n⟩:Us),(⟨b,o+i*11+3,4,0,x.duties[i].reach.name,x.duties[i].reach.n⟩:Us)].flatMap AX)):=yb (Hf (us:=[(⟨b,o+i*11+1,5,0,x.duties[i].farm.name,x.duties[i].farm.n⟩:Us),(⟨b,o+i*11+3,4,0,x.duties[i].reach.name,x.duties[i].reach.n⟩:Us)]) (World.alloc_heap_new wr.drew _) 2)
          have K:Hid (us.length+2<=1000000):=yb (by have h1:=TC (x:=x) E;have h2:=A.o.short;have h3:=P.o;have h4:=G.o;rw[h3] at h1;rw[h4];simp only[yI,yM] at h1 ⊢;omega)
          have B:Hid (w.heap.size<=(wr.drew.alloc (.cells #[pV b (o+i*11+1),iV 5,iV 0,pV b (o+i*11+3),iV 4,iV 0] 106)).heap.size):=yb (yl m.o.size F.o.size)
          have Z:=yb (m.o.trans (F.o.mono m.o.size))
          go_wp2_with fail
          go_region_held3 (fun _=>True) (trivial) (first|(refine De w.heap.size rfl _ _ rfl u6 us rfl I.o (.slice (some (aV wr.heap.size 0)) 2 2) [(⟨b,o+i*11+1,5,0,x.duties[i].farm.name,x.duties[i].farm.n⟩:Us),(⟨b,o+i*11+3,4,0,x.duties[i].reach.name,x.duties[i].reach.n⟩:Us)] rfl M.o K.o B.o ?_;intro ad c w5 t H;have Y:=yb t;have U:=yb (EW Z.o B.o I.o H);clear t H))
          go_wp2
          exact ⟨⟨i+1,_,by omega,by push_cast;rfl,yb (by rw[G.o,Sh,P.o]),U,Y⟩,by simp[intOf];omega⟩
         ·obtain rfl:i=L.duties.n:=by omega
          have du:Hid (us=CD L x):=yb (by rw[G.o];exact Ls L x)
          have cl:Hid (X=(K0++us,true)):=yb (by rw[d6.o,eo.o,du.o];rfl)
          have fk:us.length<=1000000:=by rw[du.o];exact A.o.short
          obtain ⟨va,vc,rfl, -⟩:=UX HOr.o
          obtain ⟨wl,rfl⟩:∃z:World,z=wr:=⟨_,rfl⟩
          obtain ⟨O3,ap⟩:∃O3:NP,O3=fun b=>(Ml W.heap.size (W.heap.size+3) O b∧b < w.heap.size)∨(w.heap.size<=b∧b < wl.heap.size):=⟨_,rfl⟩
          have dx:J K0.length O3 wl:=by rw[ap];exact F8 HJ.o dl.o m.o
          have T:∀b,O3 b->W.heap.size<=b∧b < wl.heap.size:=fun b hb=>by
           rw[ap] at hb
           rcases hb with hb|hb
           ·exact ⟨de.o b hb.1,yr hb.2 m.o.size⟩
           ·have:=c6.o;omega
          have dr:O3 Dd:=by rw[ap];exact .inl ⟨.inl df.o,b3.o⟩
          have ec:O3 W.heap.size∧wl.cell? (aV W.heap.size 0)=some (.func (.yield l) #[] #[]):=by
           have h1:=c6.o
           refine ⟨by rw[ap];exact .inl ⟨.inr ⟨yf _,by omega⟩,by omega⟩,(m.o.cell (p:=(aV W.heap.size 0)) (by show W.heap.size < w.heap.size;omega)).trans cp.o.y⟩
          have dd:∀g,w.heap.size<=g->g < wl.heap.size->O3 g:=fun g h1 h2=>by rw[ap];exact .inr ⟨h1,h2⟩
          have au:=yb ((m.o.block Dd b3.o).trans co.o)
          have ck:=yb dd
          have f3:=yb dx
          have a7:=yb T
          have ak:=yb dr
          have cw:=yb ec
          clear ap dx T dr ec dd
          go_wp2
          go_loopw [183] (fun iv wr=>∃i:Nat,i<=us.length∧iv=iV i∧Hid (J (K0.length+i) O3 wr)∧Hid (BL O3 wl wr)) (fun iv _=>us.length - (intOf iv).toNat)
          case atStart=>exact ⟨0,yC _,rfl,f3,yb (BL.refl _ _)⟩
          case round=>
           obtain ⟨i,hi,rfl,dq,am⟩:=hrel
           by_cases E:i < us.length
           ·obtain ⟨g,c,hv,cq,cx,d5,c0,c1,c2⟩:=TA HOr.o E
            simp only[xf,xW] at hv
            obtain ⟨rfl,rfl⟩:=hv
            have d0:=DA am.o (ck.o g cq cx) c0
            have d1:=DA am.o (ck.o g cq cx) c1
            have d2:=DA am.o (ck.o g cq cx) c2
            have hk:K0.length+i < (X.1.map Us.v).length:=by rw[cl.o];simp;exact E
            have d7:(X.1.map Us.v)[K0.length+i]=us[i].v:=by
             rw[zF]
             have h1:X.1[K0.length+i]?=some us[i]:=by rw[cl.o];simp[yL,yk E]
             obtain ⟨h2,h3⟩:=yA.1 h1
             rw[h3]
            generalize us[i]=u at*
            have ae:Below wr.heap.size wr (wr.alloc (.cells #[pV u.b u.o,iV u.to,iV u.at_] 106)):=(yg _ _).alloc (yf _) _
            have e9:BL O3 wr (wr.alloc (.cells #[pV u.b u.o,iV u.to,iV u.at_] 106)):=⟨ae.size,fun b hb=>ae.block b (yr (a7.o b hb).2 am.o.1)⟩
            have dz:J (K0.length+i) O3 (wr.alloc (.cells #[pV u.b u.o,iV u.to,iV u.at_] 106)):=HJ.o _ _ _ _ _ dq.o ae.size ae.os ae.tape ae.output (fun b _ hl=>ae.block b hl) (fun b hb=>.inl hb)
            have an:=yb (am.o.trans e9)
            obtain ⟨fh,ep,dy,eu,hy,e4⟩:=ai.o (K0.length+i) hk O3 _ dz (yl (by have:=(a7.o _ cw.o.1).2;omega) an.o.1) (fun b hb=>⟨(a7.o b hb).1,yr (a7.o b hb).2 an.o.1⟩)
            rw[d7] at hy
            unfold Us.v at hy
            have ev:=yb e4
            have q3:=DA an.o cw.o.1 cw.o.2
            have b5:(i:Int) < (us.length:Int):=by omega
            have fe:=d5
            clear hk d7 e4 ae e9 dz c0 c1 c2 d5
            go_upto_region 47 with fail
            refine (wpIn_wide (n:=n)).1 ?_
            gi_wp2
            refine ev.o.mono ?_
            rintro e W6 (⟨rfl,hj,hs⟩|⟨rfl,hx,hs⟩|⟨ch,rfl,hp,hs⟩)
            ·have f6:=yb hj
             have bb:=yb (an.o.trans hs)
             clear hj hs hy q3 d0 d1 d2
             gi_wp2
             go_wp2
             exact ⟨⟨i+1,by omega,by push_cast;rfl,f6,bb⟩,by simp[intOf];omega⟩
            ·have fb:=yb hx
             have bb:=yb (an.o.trans hs)
             clear hx hs hy q3 d0 d1 d2
             gi_wp2
             go_wp2
             exact ⟨by simp,.inl ⟨_,_,rfl,run_takeDeferred ((bb.o.2 Dd ak.o).trans au.o),⟨_,zx rfl _ _ _,.inl ⟨⟨_,rfl⟩,.inr ⟨O3,d3.o.put (s:=()) ak.o _ fb.o⟩⟩⟩⟩⟩
            ·have bb:=yb (an.o.trans hs)
             exact ⟨by simp,.inl ⟨_,_,rfl,run_takeDeferred ((bb.o.2 Dd ak.o).trans au.o),.inr ⟨ch,rfl,O3,(bu.o ch).put (s:=()) ak.o _ hp⟩⟩⟩
           ·obtain rfl:i=us.length:=by omega
            have b5:decide ((us.length:Int) < (us.length:Int))=false:=by simp
            have da:Hid (X.2=true∧J X.1.length O3 wr):=yb (by rw[cl.o];exact ⟨rfl,by rw[yq];exact dq.o⟩)
            go_wp2
            exact ⟨by simp,.inl ⟨_,_,rfl,run_takeDeferred ((am.o.2 Dd ak.o).trans au.o),⟨_,zx rfl _ _ _,.inl ⟨⟨_,rfl⟩,.inl ⟨by simp[da.o.1],O3,HJ.o.put ak.o _ da.o.2⟩⟩⟩⟩⟩
 ·rintro D c O w hD ar ⟨rfl,hI⟩ ah
  gi_wp2
  refine ⟨by simp,.inl ⟨_,_,rfl,run_takeDeferred ah,⟨_,zx rfl _ _ _,.inl ⟨⟨_,rfl⟩,.inr ⟨Ml W.heap.size (W.heap.size+3) O,?_⟩⟩⟩⟩⟩
  exact d3.o.put (s:=()) (.inl ar) _ hI.j
 ·rintro D ch O w hD ar hI ah
  exact ⟨by simp,.inl ⟨_,_,rfl,run_takeDeferred ah,.inr ⟨ch,rfl,Ml W.heap.size (W.heap.size+3) O,(bu.o ch).put (s:=()) (.inl ar) _ hI.j⟩⟩⟩
end Go.Proofs.Ytghepahgkcigpaa

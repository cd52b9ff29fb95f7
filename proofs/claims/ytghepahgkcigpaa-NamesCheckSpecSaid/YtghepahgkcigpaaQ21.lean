/- Parts of the proof, in short words: Ub Uc Ud Ue -/
import Derived.Test.YtghepahgkcigpaaQ0
import Derived.Test.YtghepahgkcigpaaQ19
set_option maxRecDepth 100000
set_option maxHeartbeats 8000000
set_option linter.unusedSimpArgs false
namespace Go.Proofs.Ytghepahgkcigpaa
open Go.RowKit
def Jo:Array Value:=#[.string ⟨#[]⟩,.string ⟨#[]⟩,.int .i64 0,.int .i64 0,.int .i64 0,.int .i64 0,.string ⟨#[]⟩,.int .i64 0,.slice none 0 0,.int .i64 0,.int .i64 0,.int .i64 0,.string ⟨#[]⟩,.int .i64 0,.slice none 0 0,.int .i64 0,.int .i64 0,.int .i64 0,.string ⟨#[]⟩,.int .i64 0,.slice none 0 0,.int .i64 0,.int .i64 0,.int .i64 0,.string ⟨#[]⟩,.int .i64 0,.slice none 0 0,.int .i64 0,.int .i64 0,.int .i64 0,.string ⟨#[]⟩,.int .i64 0,.slice none 0 0,.int .i64 0,.int .i64 0,.int .i64 0,.string ⟨#[]⟩,.int .i64 0,.slice none 0 0,.int .i64 0,.int .i64 0,.int .i64 0,.string ⟨#[]⟩,.int .i64 0,.slice none 0 0,.int .i64 0,.int .i64 0,.int .i64 0,.string ⟨#[]⟩,.int .i64 0,.slice none 0 0]
structure OT (W:World) (l:Array Bool) (tm:Array Value) (w:World):Prop where
 one:l.getD 4 false=false->Below W.heap.size W w∧(l.getD 3 false=true->∃b,tm.getD 2 undef=.pointer (some ⟨b,0,none⟩)∧W.heap.size<=b∧w.heap[b]?=some (.cells Jo 51 (0,0)))
 two:l.getD 4 false=true->∃w1 b,tm.getD 2 undef=.pointer (some ⟨b,0,none⟩)∧Below W.heap.size W w1∧W.heap.size<=b∧w1.heap[b]?=some (.cells Jo 51 (0,0))∧w=w1.setRow b Hc.toArray
theorem OT.quiet{W:World}{l:Array Bool}{tm:Array Value}{w w2:World}{i t:Nat}{v:Value}(h:OT W l tm w)(n:l.getD 4 false=false)(hi:i≠4∧i≠3)(d:t≠2)(hb:Below w.heap.size w w2):OT W (l.setIfInBounds i true) (tm.setIfInBounds t v) w2:=by
 obtain ⟨h1,h2⟩:=h.one n
 refine ⟨fun _=>⟨h1.trans (hb.mono h1.size),fun h3=>?_⟩,fun c=>by rw[Al hi.1,n] at c;cases c⟩
 rw[Al hi.2] at h3
 obtain ⟨b,f,e,a⟩:=h2 h3
 exact ⟨b,by rw[Cj d];exact f,e,(hb.block b (yd.1 a).1).trans a⟩
def VB(j:Nat)(v:Value)(_:World):Prop:=match j with
 |0=>v=.agg #[.int .i64 1,.int .i64 1,.int .i64 3,.string ⟨#[]⟩,.int .i64 0,.slice none 0 0]
 |1=>v=.agg #[.int .i64 2,.int .i64 0,.int .i64 0,.string ⟨#[117]⟩,.int .i64 0,.slice none 0 0]
 |2=>v=.agg Hc.toArray
 |3=>∃b,v=.pointer (some ⟨b,0,none⟩)
 |_=>True
theorem RH{x:Act}{W0:World}{Q:QT}{B1:Nat}(ops:Array Oper)(q:GS Try.f21 2=some ops)
 (B:x.tmps.getD 1 undef=.pointer (some ⟨B1,0,none⟩))(D:x.tmps.size=46)(y:B1 < W0.heap.size)(l:W0.rangeAt B1 0 [.int .i64 2,.int .i64 0,.int .i64 0,.string ⟨#[117]⟩,.int .i64 0,.slice none 0 0])
 (R:∀(a:Act) w1 b,a.tmps.size=46->a.defers=x.defers->(∀t,t∉[2,5,6,7]->a.tmps.getD t undef=x.tmps.getD t undef)->a.tmps.getD 2 undef=.pointer (some ⟨b,0,none⟩)->Below W0.heap.size W0 w1->W0.heap.size<=b->w1.heap[b]?=some (.cells Jo 51 (0,0))->Q .normal a (w1.setRow b Hc.toArray)):
  (Code.region 2 ops true).wp Try.prog Q x W0:=by
 obtain rfl:=yh ((rfl:GS Try.f21 2=some _).symm.trans q)
 clear q
 refine Ee (by kernel_rfl) (OT W0) VB (fun _ _ _=>True) (by kernel_rfl) (by rw[D];kernel_rfl) (by kernel_rfl) (fun _ j v w w' _ _ _ h=>by unfold VB at h ⊢;exact h) ⟨fun _=>⟨(yc _ _).drew,fun h=>(by cases h)⟩,fun h=>(by cases h)⟩ ?_ ?_
 ·intro V c a w' hM f o m
  have n:=ya hM.ext
  have z:=(yd.1 m).1
  have s:=hM.size
  match V,z with
  |0,_=>
   have g:c.getD 4 false=false:=by
    rw[yj];intro h6
    have:=A3 hM.down 6 4 0 (by kernel_rfl) h6
    rw[hM.Xj f] at this;cases this
   have i:=ya g
   clear g l
   obtain rfl:=yh m
   go_simp
   refine (Lz 1 3 _).mono ?_
   rintro e w2 ⟨rfl,G⟩
   exact ⟨_,rfl,n.o.quiet i.o (by decide) (by decide) G,trivial,rfl⟩
  |1,_=>
   have g:c.getD 4 false=false:=by
    rw[yj];intro h6
    have:=A3 hM.down 6 4 1 (by kernel_rfl) h6
    rw[hM.Xj f] at this;cases this
   have i:=ya g
   clear g
   have d:=hM.old f 1 (by kernel_rfl) _ B
   have C:=ya (A1 l ((n.o.one i.o).1.block _ y))
   clear l
   obtain rfl:=yh m
   refine wp_load_mid 26 _ rfl B1 0 (by simpa[Act.eval] using d) _ _ C.o qF rfl (by kernel_rfl) ?_
   exact ⟨_,rfl,n.o.quiet i.o (by decide) (by decide) (yc _ _),trivial,rfl⟩
  |2,_=>
   have g:c.getD 4 false=false:=by
    rw[yj];intro h6
    have:=A3 hM.down 6 4 2 (by kernel_rfl) h6
    rw[hM.Xj f] at this;cases this
   have i:=ya g
   clear g
   have J:=hM.Xk f 0 5 (by kernel_rfl) (by kernel_rfl)
   have I:=hM.Xk f 1 6 (by kernel_rfl) (by kernel_rfl)
   unfold VB at J I
   simp only at J I
   clear l
   obtain rfl:=yh m
   go_simp
   exact ⟨_,rfl,n.o.quiet i.o (by decide) (by decide) (yc _ _),trivial,rfl⟩
  |3,_=>
   have g:c.getD 4 false=false:=by
    rw[yj];intro h6
    have:=A3 hM.down 6 4 3 (by kernel_rfl) h6
    rw[hM.Xj f] at this;cases this
   have i:=ya g
   clear g
   have K:Hid (3 < c.size):=ya (by rw[s];show 3 < 5;omega)
   have L:Hid (2 < a.tmps.size):=ya (by rw[hM.tmps,D];decide)
   clear l
   obtain rfl:=yh m
   go_simp
   refine ⟨_,rfl,⟨fun _=>⟨(n.o.one i.o).1.alloc (n.o.one i.o).1.size _,fun _=>⟨w'.heap.size,?_,(n.o.one i.o).1.size,World.alloc_heap_new _ _⟩⟩,fun h4=>?_⟩,trivial,_,rfl⟩
   ·show (a.put (some 2) (pV w'.heap.size 0)).tmps.getD 2 undef=_
    exact Bw _ L.o
   ·rw[Al (by decide),i.o] at h4;cases h4
  |4,_=>
   have g:=hM.Xj f
   have M:c.getD 3 false=true:=hM.Xn f 3 (by kernel_rfl)
   obtain ⟨hb,h3⟩:=n.o.one g
   obtain ⟨b,F,H,u⟩:=h3 M
   have E:=hM.Xk f 2 7 (by kernel_rfl) (by kernel_rfl)
   unfold VB at E
   simp only at E
   have K:Hid (4 < c.size):=ya (by rw[s];show 4 < 5;omega)
   have A:=F
   rw[yH] at F
   refine wp_store_row 51 (.tmp 2) (.tmp 7) (by obtain rfl:=yh m;rfl) b Hc.toArray (by simpa[Act.eval] using F) (by simpa[Act.eval] using E) 51 Jo u (by kernel_rfl) (by kernel_rfl) (by simp[Hc,Value.oneCell']) ?_
   obtain rfl:=yh m
   refine ⟨undef,rfl,⟨fun h6=>?_,fun _=>⟨w',b,A,hb,H,u,rfl⟩⟩,trivial,trivial⟩
   simp[K.o] at h6
 ·intro c a w' r hM
  obtain ⟨w1,b,U,P,S,T,rfl⟩:=hM.ext.two (r 4 (show 4 < 5 by omega))
  refine R a w1 b (hM.tmps.trans D) hM.defers (fun t N=>hM.free t fun W O o m hd=>N ?_) U P S T
  have hs:=OB (ops:=(Try.f21.body.bind (Ez 2)).getD #[]) (p:=fun o=>match o.dst with|some k=>decide (k∈[2,5,6,7])|none=>true) (by kernel_rfl) m
  rw[hd] at hs
  exact yt hs
theorem O1(w:World):Calls Try.prog 21 #[] w fun e w'=>∃cells:Array Value,e=.returned (.agg cells)∧cells.size=26∧Below w.heap.size w w'∧AY w.heap.size 37 (.agg cells) w':=by
 go_enter Try.func21,Try.ntmps21
 go_wp2_with fail
 have R:Hid (∀(cells:Array Value) (U:World),AY w.heap.size 37 (.agg cells) U->cells.size=26):=ya (fun cells U h=>by
  unfold AY at h
  simp only at h
  obtain ⟨_,_,_,_,_,_,_,_,_,h,_⟩:=h
  cases h;rfl)
 refine RH (B1:=w.heap.size+1) _ ?_ ?_ ?_ ?_ ?_ ?_
 ·rfl
 ·rfl
 ·rfl
 ·simp
 ·have h:=yV (World.alloc_heap_new (w.alloc (.cells Bp.toArray 35)) (.cells #[iV 2,iV 0,iV 0,.string ⟨#[117]⟩,iV 0,.slice none 0 0] 26)) 0 6
  rw[zv] at h
  exact h
 ·intro a w1 b g l f L hb E u
  have e:a={tmps:=#[pV w.heap.size 0,pV (w.heap.size+1) 0,(a.tmps.getD 2 undef),.agg #[.string ⟨#[117]⟩,iV 0],.agg #[iV 2,iV 0,iV 0,.string ⟨#[117]⟩,iV 0,.slice none 0 0],(a.tmps.getD 5 undef),(a.tmps.getD 6 undef),(a.tmps.getD 7 undef),undef,undef,undef,undef,undef,undef,undef,undef,undef,undef,undef,undef,undef,undef,undef,undef,undef,undef,undef,undef,undef,undef,undef,undef,undef,undef,undef,undef,undef,undef,undef,undef,undef,undef,undef,undef,undef,undef],defers:=[]}:=(Lu [2,5,6,7] (g.trans rfl) l (fun t S=>f t S)).trans (by kernel_rfl)
  rw[L] at e
  obtain ⟨v5,N,M,rfl⟩:∃v5 N M:Value,a={tmps:=#[pV w.heap.size 0,pV (w.heap.size+1) 0,pV b 0,.agg #[.string ⟨#[117]⟩,iV 0],.agg #[iV 2,iV 0,iV 0,.string ⟨#[117]⟩,iV 0,.slice none 0 0],v5,N,M,undef,undef,undef,undef,undef,undef,undef,undef,undef,undef,undef,undef,undef,undef,undef,undef,undef,undef,undef,undef,undef,undef,undef,undef,undef,undef,undef,undef,undef,undef,undef,undef,undef,undef,undef,undef,undef,undef],defers:=[]}:=⟨_,_,_,e⟩
  clear e g l f L
  have C:((w.alloc (.cells Bp.toArray 35)).alloc (.cells #[iV 2,iV 0,iV 0,.string ⟨#[117]⟩,iV 0,.slice none 0 0] 26)).heap.size=w.heap.size+2:=by simp
  have v:Below ((w.alloc (.cells Bp.toArray 35)).alloc (.cells #[iV 2,iV 0,iV 0,.string ⟨#[117]⟩,iV 0,.slice none 0 0] 26)).heap.size ((w.alloc (.cells Bp.toArray 35)).alloc (.cells #[iV 2,iV 0,iV 0,.string ⟨#[117]⟩,iV 0,.slice none 0 0] 26)) w1:=hb
  have p:w.heap.size+2<=b:=by rw[<-C];exact E
  have x:=(yd.1 u).1
  have D:w1.heap[w.heap.size]?=some (.cells Bp.toArray 35 (0,0)):=by
   rw[v.block _ (by omega),yT _ _ _ (by simp)]
   exact World.alloc_heap_new _ _
  have y:Below w.heap.size w w1:=(((yc _ _).alloc (ye _) _).alloc (by simp) _).trans (v.mono (by omega))
  have G:=ya (show (w1.setRow b Hc.toArray).heap.size=w1.heap.size from GO _ _ _)
  have H:=ya u;have A:=ya D;have j:=ya y;have i:Hid (w.heap.size+2<=b∧b < w1.heap.size):=ya ⟨p,x⟩
  clear hb E u C v p x D y
  go_wp2_with fail
  refine RG (B:=w.heap.size) (B2:=b) (row0:=Bp.toArray) _ ?_ ?_ ?_ ?_ ?_ ?_ ?_ ?_ ?_ ?_
  ·rfl
  ·rfl
  ·rfl
  ·rfl
  ·rw[G.o];have:=i.o;omega
  ·rw[G.o];exact i.o.2
  ·rw[DH _ _ (by have:=i.o;omega)];exact A.o
  ·rfl
  ·have h:=yV (setRow_heap w1 b _ Hc.toArray _ _ H.o) 0 Hc.length
   simpa using h
  ·intro a w2 cells g l f I c
   obtain ⟨tm,O⟩:=a
   obtain rfl:O=[]:=l
   have h0:tm.getD 0 undef=pV w.heap.size 0:=(f 0 (by omega)).trans rfl
   have s:=R.o cells w2 I
   have F:=G.o
   have J:=i.o
   have n:w2.heap[w.heap.size]?=some (.cells Bp.toArray 35 (0,0)):=by
    rw[c.block _ (by omega),DH _ _ (by omega)];exact A.o
   have m:=setRow_heap w2 w.heap.size _ cells _ _ n
   have d:(w2.setRow w.heap.size cells).rangeAt w.heap.size 0 cells.toList:=by
    have h:=yV m 0 cells.toList.length
    simpa using h
   have q:Below w.heap.size w (w2.setRow w.heap.size cells):=by
    refine ⟨c.os.trans j.o.os,c.tape.trans j.o.tape,c.output.trans j.o.output,?_,fun k K=>?_⟩
    ·have:=c.size;rw[GO];omega
    ·rw[DH _ _ (by omega),c.block _ (by omega),DH _ _ (by omega)];exact j.o.block k K
   have z:AY w.heap.size 37 (.agg cells) (w2.setRow w.heap.size cells):=O0 _ _ _ _ (fun k o K Q=>by rw[DH _ _ (by omega)];exact Q) I
   have hl:=xL (P:=Try.prog) (w2.setRow w.heap.size cells) w.heap.size 0 35 cells.toList _ d qO rfl (by rw[Array.length_toList,s];kernel_rfl)
   rw[Array.toArray_toList] at hl
   have r:Hid (bodyPost Try.prog Try.f21 (fun e w'=>∃cells:Array Value,e=.returned (.agg cells)∧cells.size=26∧Below w.heap.size w w'∧AY w.heap.size 37 (.agg cells) w') .ret {tmps:=tm,defers:=[]} (w2.setRow w.heap.size cells)):=ya ⟨rfl,_,If rfl h0 hl,cells,rfl,s,q,z⟩
   clear h0 s n m d q z hl I c g f F J
   first
   |exact r.o
   |(go_wp2;exact r.o)
   |fail
def Em:Ex:=.mk 0 0 0 ⟨#[]⟩ 0 []
def N8(n u:Int):Ex:=.mk 1 n u ⟨#[]⟩ 0 []
def UM(s:ByteArray):Ex:=.mk 2 0 0 s 0 []
def bT:ByteArray:=⟨#[116]⟩
def bU:ByteArray:=⟨#[117]⟩
def UN:ByteArray:=⟨#[99,111,114,110]⟩
def O4:ByteArray:=⟨#[114,105,99,101]⟩
def Kk:ByteArray:=⟨#[104,101,97,100]⟩
def GB:ByteArray:=⟨#[116,97,105,108]⟩
def To:ByteArray:=⟨#[97,110,97]⟩
def OU:ByteArray:=⟨#[98,101,97]⟩
def RI:ByteArray:=⟨#[116,117,114,110,115]⟩
def UO:ByteArray:=⟨#[109,105,110,101]⟩
def RK:ByteArray:=⟨#[99,108,101,97,110]⟩
def O5:ByteArray:=⟨#[118,101,103,97]⟩
def UP:ByteArray:=⟨#[114,105,118,101,114]⟩
def bC:ByteArray:=⟨#[99]⟩
def bN:ByteArray:=⟨#[]⟩
def EY:AA:=
 {name:=O5,season:=N8 2 4,cap:=Em,start:=Em,lets:=[⟨bT,N8 3 1⟩,⟨bU,.mk 3 0 0 bN 0 [UM bT,N8 1 1]⟩],crops:=[⟨UN,Em⟩,⟨O4,Em⟩],
  reaches:=[⟨Kk,⟨bN,0⟩,N8 1 3,UM bU,Em,Em,Em,Em,Em,Em⟩,⟨GB,⟨Kk,0⟩,Em,Em,Em,Em,Em,Em,Em,Em⟩],
  farms:=[⟨To,⟨GB,0⟩,false,Em,⟨O4,0⟩⟩,⟨OU,⟨Kk,0⟩,true,Em,⟨bN,0⟩⟩],rots:=[⟨RI,⟨GB,0⟩,0,Em,Em,Em,[⟨⟨To,0⟩,Em⟩]⟩],
  rights:=[⟨2,UO,⟨OU,0⟩,⟨GB,0⟩,0,Em,Em,Em,Em,Em⟩],duties:=[⟨RK,⟨OU,0⟩,⟨GB,0⟩,Em⟩]}
def E1(a:ByteArray)(crops:List Cp):AA:={name:=a,season:=Em,cap:=Em,start:=Em,lets:=[],crops:=crops,reaches:=[],farms:=[],rots:=[],rights:=[],duties:=[]}
theorem Wr:AK (E1 bN [])=170:=by kernel_rfl
theorem Ws:AK (E1 UP [])=170:=by kernel_rfl
theorem Wu:AK (E1 O5 [⟨bC,Em⟩,⟨bC,Em⟩])=171:=by kernel_rfl
theorem UQ:AK EY=0:=by kernel_rfl
theorem Wv:EC EY=170:=by kernel_rfl
theorem Cl{w:World}{g:Nat}{row:Array Value}{ty:TypeId}(b:w.heap[g]?=some (.cells row ty (0,0)))(o:Nat){cs:LV}(h:(row.toList.drop o).take cs.length=cs):w.rangeAt g o cs:=fun j v a=>by
 have c:=(yA.1 a).1
 rw[<-h,zJ,yu c,List.getElem?_drop] at a
 simp only[World.cell?,b]
 simpa using a
def GC(op n u:Int)(rn:ByteArray)(ri:Int):LV:=[.int .i64 op,.int .i64 n,.int .i64 u,.string rn,.int .i64 ri,.slice none 0 0]
section
variable{N:NP}{w:World}
theorem Is(op n u:Int)(rn:ByteArray)(ri:Int)(h:rn.size<=maxLen):Bh N w (.mk op n u rn ri []) (GC op n u rn ri):=by
 rw[Bh];exact ⟨none,0,rfl,by simp,h,by rw[E6];trivial⟩
theorem Tp:Bh N w Em (GC 0 0 0 bN 0):=Is 0 0 0 bN 0 (yt (by kernel_rfl))
theorem mx(s:ByteArray)(h:s.size<=1000):s.size<=maxLen:=yo h (by unfold maxLen;omega)
theorem Jq{α:Type}{sz:Nat}{P:LV->α->Prop}:B7 N w sz P ⟨none,0,0⟩ []:=⟨rfl,by simp,fun i hi=>absurd hi (by simp)⟩
end
def RM(c:AF):BL:={s:=0,lets:=⟨none,0,0⟩,crops:=c,reaches:=⟨none,0,0⟩,farms:=⟨none,0,0⟩,rots:=⟨none,0,0⟩,rights:=⟨none,0,0⟩,duties:=⟨none,0,0⟩,turns:=[]}
def OV(a:ByteArray)(c:AF):LV:=.string a::(GC 0 0 0 bN 0++(GC 0 0 0 bN 0++(GC 0 0 0 bN 0++[.slice none 0 0,c.v,.slice none 0 0,.slice none 0 0,.slice none 0 0,.slice none 0 0,.slice none 0 0])))
theorem O6{N:NP}{w:World}{a:ByteArray}{c:AF}{l:List Cp}(b:a.size<=1000)(d:B7 N w 7 (F6 N w) c l):Ba N w (RM c) (OV a c) (E1 a l):=
 ⟨mx _ b,⟨_,_,_,rfl,Tp,Tp,Tp⟩,Jq,d,Jq,Jq,⟨rfl,yv _,fun i hi=>absurd hi (by simp[E1])⟩,Jq,Jq⟩
theorem O7{B:Nat}{w:World}{cells:Array Value}(h:AY B 37 (.agg cells) w):∃(L:BL) (cs:LV),cells=cs.toArray∧Ba (fun b=>B < b∧b < w.heap.size) w L cs EY:=by
 unfold AY at h
 simp only at h
 obtain ⟨a,m,j,d,c,q,s,p,r,h0,n,o,e,l,f,t,x,v,u⟩:=h
 have hN:∀ {g:Nat} {row:Array Value} {ty:TypeId},Bk B w g row ty->B < g∧g < w.heap.size:=fun h=>⟨h.1,(yd.1 h.2).1⟩
 have z:∀ {N:NP},Bh N w Em (GC 0 0 0 bN 0):=Tp
 refine ⟨⟨0,⟨some (aV m 0),2,2⟩,⟨some (aV j 0),2,2⟩,⟨some (aV d 0),2,2⟩,⟨some (aV c 0),2,2⟩,⟨some (aV s 0),1,1⟩,⟨some (aV p 0),1,1⟩,⟨some (aV r 0),1,1⟩,[⟨some (aV q 0),1,1⟩]⟩,
  .string O5::(GC 1 2 4 bN 0++(GC 0 0 0 bN 0++(GC 0 0 0 bN 0++[.slice (some (aV m 0)) 2 2,.slice (some (aV j 0)) 2 2,.slice (some (aV d 0)) 2 2,.slice (some (aV c 0)) 2 2,.slice (some (aV s 0)) 1 1,.slice (some (aV p 0)) 1 1,.slice (some (aV r 0)) 1 1]))),?_,?_⟩
 ·cases h0;rfl
 clear h0
 refine ⟨mx _ (yt rfl),⟨GC 1 2 4 bN 0,GC 0 0 0 bN 0,GC 0 0 0 bN 0,rfl,Is 1 2 4 bN 0 (mx _ (yt rfl)),z,z⟩,⟨rfl,by simp[EY],fun i hi=>?_⟩,⟨rfl,by simp[EY],fun i hi=>?_⟩,⟨rfl,by simp[EY],fun i hi=>?_⟩,⟨rfl,by simp[EY],fun i hi=>?_⟩,⟨rfl,by simp[EY],fun i hi=>?_⟩,⟨rfl,by simp[EY],fun i hi=>?_⟩,⟨rfl,by simp[EY],fun i hi=>?_⟩⟩
 ·match i,hi with
  |0,_=>exact ⟨m,0,.string bT::GC 1 3 1 bN 0,rfl,hN o,rfl,Cl o.2 _ rfl,mx _ (yt rfl),_,rfl,Is 1 3 1 bN 0 (mx _ (yt rfl))⟩
  |1,_=>
   refine ⟨m,0,.string bU::[iV 3,iV 0,iV 0,.string bN,iV 0,.slice (some (aV a 0)) 2 2],rfl,hN o,rfl,Cl o.2 _ rfl,mx _ (yt rfl),_,rfl,?_⟩
   show Bh _ w (.mk 3 0 0 bN 0 [UM bT,N8 1 1]) _
   rw[Bh]
   refine ⟨some (aV a 0),2,rfl,by simp,mx _ (yt rfl),?_⟩
   rw[E6,E6,E6]
   exact ⟨⟨a,0,GC 2 0 0 bT 0,rfl,hN n,Cl n.2 _ rfl,Is 2 0 0 bT 0 (mx _ (yt rfl))⟩,⟨a,0,GC 1 1 1 bN 0,rfl,hN n,Cl n.2 _ rfl,Is 1 1 1 bN 0 (mx _ (yt rfl))⟩,trivial⟩
 ·match i,hi with
  |0,_=>exact ⟨j,0,.string UN::GC 0 0 0 bN 0,rfl,hN e,rfl,Cl e.2 _ rfl,mx _ (yt rfl),_,rfl,z⟩
  |1,_=>exact ⟨j,0,.string O4::GC 0 0 0 bN 0,rfl,hN e,rfl,Cl e.2 _ rfl,mx _ (yt rfl),_,rfl,z⟩
 ·match i,hi with
  |0,_=>exact ⟨d,0,.string Kk::(Ad ⟨bN,0⟩++(GC 1 1 3 bN 0++(GC 2 0 0 bU 0++(GC 0 0 0 bN 0++(GC 0 0 0 bN 0++(GC 0 0 0 bN 0++(GC 0 0 0 bN 0++(GC 0 0 0 bN 0++GC 0 0 0 bN 0)))))))),rfl,hN l,rfl,Cl l.2 _ rfl,mx _ (yt rfl),mx _ (yt rfl),_,_,_,_,_,_,_,_,rfl,Is 1 1 3 bN 0 (mx _ (yt rfl)),Is 2 0 0 bU 0 (mx _ (yt rfl)),z,z,z,z,z,z⟩
  |1,_=>exact ⟨d,0,.string GB::(Ad ⟨Kk,0⟩++(GC 0 0 0 bN 0++(GC 0 0 0 bN 0++(GC 0 0 0 bN 0++(GC 0 0 0 bN 0++(GC 0 0 0 bN 0++(GC 0 0 0 bN 0++(GC 0 0 0 bN 0++GC 0 0 0 bN 0)))))))),rfl,hN l,rfl,Cl l.2 _ rfl,mx _ (yt rfl),mx _ (yt rfl),_,_,_,_,_,_,_,_,rfl,z,z,z,z,z,z,z,z⟩
 ·match i,hi with
  |0,_=>exact ⟨c,0,.string To::(Ad ⟨GB,0⟩++(.bool false::(GC 0 0 0 bN 0++Ad ⟨O4,0⟩))),rfl,hN f,rfl,Cl f.2 _ rfl,mx _ (yt rfl),mx _ (yt rfl),mx _ (yt rfl),_,rfl,z⟩
  |1,_=>exact ⟨c,0,.string OU::(Ad ⟨Kk,0⟩++(.bool true::(GC 0 0 0 bN 0++Ad ⟨bN,0⟩))),rfl,hN f,rfl,Cl f.2 _ rfl,mx _ (yt rfl),mx _ (yt rfl),mx _ (yt rfl),_,rfl,z⟩
 ·match i,hi with
  |0,_=>
   refine ⟨s,0,.string RI::(Ad ⟨GB,0⟩++(iV 0::(GC 0 0 0 bN 0++(GC 0 0 0 bN 0++(GC 0 0 0 bN 0++[.slice (some (aV q 0)) 1 1]))))),rfl,hN x,rfl,Cl x.2 _ rfl,mx _ (yt rfl),mx _ (yt rfl),_,_,_,rfl,z,z,z,rfl,by simp[EY],fun k y=>?_⟩
   match k,y with
   |0,_=>exact ⟨q,0,Ad ⟨To,0⟩++GC 0 0 0 bN 0,rfl,hN t,rfl,Cl t.2 _ rfl,mx _ (yt rfl),_,rfl,z⟩
 ·match i,hi with
  |0,_=>exact ⟨p,0,iV 2::.string UO::(Ad ⟨OU,0⟩++(Ad ⟨GB,0⟩++(iV 0::(GC 0 0 0 bN 0++(GC 0 0 0 bN 0++(GC 0 0 0 bN 0++(GC 0 0 0 bN 0++GC 0 0 0 bN 0))))))),rfl,hN v,rfl,Cl v.2 _ rfl,mx _ (yt rfl),mx _ (yt rfl),mx _ (yt rfl),_,_,_,_,_,rfl,z,z,z,z,z⟩
 ·match i,hi with
  |0,_=>exact ⟨r,0,.string RK::(Ad ⟨OU,0⟩++(Ad ⟨GB,0⟩++GC 0 0 0 bN 0)),rfl,hN u,rfl,Cl u.2 _ rfl,mx _ (yt rfl),mx _ (yt rfl),mx _ (yt rfl),_,rfl,z⟩
def G3:AA:=
 {name:=O5,season:=N8 2 4,cap:=Em,start:=Em,lets:=[⟨bT,N8 3 1⟩,⟨bU,.mk 3 0 0 bN 0 [UM bT,N8 1 1]⟩],crops:=[⟨UN,Em⟩,⟨O4,Em⟩],
  reaches:=[⟨Kk,⟨bN,0⟩,N8 1 3,.mk 2 0 0 bU 1 [],Em,Em,Em,Em,Em,Em⟩,⟨GB,⟨Kk,0⟩,Em,Em,Em,Em,Em,Em,Em,Em⟩],
  farms:=[⟨To,⟨GB,1⟩,false,Em,⟨O4,1⟩⟩,⟨OU,⟨Kk,0⟩,true,Em,⟨bN,0⟩⟩],rots:=[⟨RI,⟨GB,1⟩,0,Em,Em,Em,[⟨⟨To,0⟩,Em⟩]⟩],
  rights:=[⟨2,UO,⟨OU,1⟩,⟨GB,1⟩,0,Em,Em,Em,Em,Em⟩],duties:=[⟨RK,⟨OU,1⟩,⟨GB,1⟩,Em⟩]}
theorem Tq:Ao EY=G3:=by kernel_rfl
structure Su (w:World) (B:Nat) (b1 o1 c1 b2 o2 c2 b3 o3 c3 b4 o4 c4 b5 o5 c5 b6 o6 c6 b7 o7 c7 b8 o8 c8:Nat):Prop where
 lets:w.cell? ⟨B,19,none⟩=some (.slice (some ⟨b1,o1,none⟩) 2 c1)
 args:w.cell? ⟨b1,o1+7+1+5,none⟩=some (.slice (some ⟨b2,o2,none⟩) 2 c2)
 arg0:w.cell? ⟨b2,o2+3+1,none⟩=some (.int .i64 0)
 reaches:w.cell? ⟨B,21,none⟩=some (.slice (some ⟨b3,o3,none⟩) 2 c3)
 cap:w.cell? ⟨b3,o3+9+3+1,none⟩=some (.int .i64 1)
 farms:w.cell? ⟨B,22,none⟩=some (.slice (some ⟨b4,o4,none⟩) 2 c4)
 on0:w.cell? ⟨b4,o4+1+1,none⟩=some (.int .i64 1)
 crop0:w.cell? ⟨b4,o4+10+1,none⟩=some (.int .i64 1)
 on1:w.cell? ⟨b4,o4+12+1+1,none⟩=some (.int .i64 0)
 rots:w.cell? ⟨B,23,none⟩=some (.slice (some ⟨b5,o5,none⟩) 1 c5)
 turns:w.cell? ⟨b5,o5+22,none⟩=some (.slice (some ⟨b6,o6,none⟩) 1 c6)
 turn0:w.cell? ⟨b6,o6+1,none⟩=some (.int .i64 0)
 rights:w.cell? ⟨B,24,none⟩=some (.slice (some ⟨b7,o7,none⟩) 1 c7)
 right0:w.cell? ⟨b7,o7+2+1,none⟩=some (.int .i64 1)
 duties:w.cell? ⟨B,25,none⟩=some (.slice (some ⟨b8,o8,none⟩) 1 c8)
 duty0:w.cell? ⟨b8,o8+3+1,none⟩=some (.int .i64 1)
theorem Qn{N:NP}{w:World}{L:BL}{cs:LV}{B:Nat}(h:Ba N w L cs G3)(hr:w.rangeAt B 0 cs):∃b1 o1 c1 b2 o2 c2 A r c3 E m c4 g k Z b6 x c6 C n c7 z G c8:Nat,Su w B b1 o1 c1 b2 o2 c2 A r c3 E m c4 g k Z b6 x c6 C n c7 z G c8:=by
 have hc:=h.at
 have a:∀ {q:Nat} {v:Value},cs[q]?=some v->w.cell? (aV B q)=some v:=fun {q v} hq=>by have:=hr q v hq;rwa [yD] at this
 obtain ⟨n1,_,r1⟩:=h.lets
 obtain ⟨n3,_,Y⟩:=h.reaches
 obtain ⟨n4,_,R⟩:=h.farms
 obtain ⟨n5,_,r5⟩:=h.rots
 obtain ⟨n7,_,X⟩:=h.rights
 obtain ⟨n8,_,r8⟩:=h.duties
 have F:=a hc.lets;have s:=a hc.reaches;have t:=a hc.farms;have u:=a hc.rots;have D:=a hc.rights;have H:=a hc.duties
 unfold AF.v at F s t u D H
 obtain ⟨b1,o1,q1,e1,_,_,g1,_,t1,rfl,j⟩:=r1 1 (show 1 < 2 by omega)
 have j:Bh N w (.mk 3 0 0 bN 0 [UM bT,N8 1 1]) t1:=j
 rw[Bh] at j
 obtain ⟨a2,c2,rfl,_,_,d⟩:=j
 rw[E6] at d
 obtain ⟨⟨b2,o2,q2,rfl,_,U,d⟩,_⟩:=d
 have d:Bh N w (.mk 2 0 0 bT 0 []) q2:=d
 rw[Bh] at d
 obtain ⟨_,_,rfl,_⟩:=d
 obtain ⟨A,r,q3,e3,_,_,M,_,_,x0,x1,x2,x3,x4,x5,x6,x7,rfl,y0,y1,_⟩:=Y 0 (show 0 < 2 by omega)
 have y0:Bh N w (.mk 1 1 3 bN 0 []) x0:=y0
 have y1:Bh N w (.mk 2 0 0 bU 1 []) x1:=y1
 rw[Bh] at y0 y1
 obtain ⟨_,_,rfl,_⟩:=y0
 obtain ⟨_,_,rfl,_⟩:=y1
 obtain ⟨E,m,q4,V,_,_,l,_,_,_,x8,rfl,i⟩:=R 0 (show 0 < 2 by omega)
 have i:Bh N w (.mk 0 0 0 bN 0 []) x8:=i
 rw[Bh] at i
 obtain ⟨_,_,rfl,_⟩:=i
 obtain ⟨a0,a1,a6,e,_,_,f,_,_,_,x9,rfl,_⟩:=R 1 (show 1 < 2 by omega)
 rw[V] at e
 cases e
 obtain ⟨g,k,q5,e5,_,_,K,_,_,T,S,I,rfl,w0,w1,w2,n6,_,r6⟩:=r5 0 (show 0 < 1 by omega)
 have l0:=w0.len;have l1:=w1.len;have W:=w2.len
 obtain ⟨b6,x,q6,e6,_,_,O,_,z3,rfl,_⟩:=r6 0 (show 0 < 1 by omega)
 obtain ⟨C,n,q7,e7,_,_,J,_,_,_,_,_,_,_,_,rfl,_⟩:=X 0 (show 0 < 1 by omega)
 obtain ⟨z,G,q8,e8,_,_,P,_,_,_,_,rfl,_⟩:=r8 0 (show 0 < 1 by omega)
 rw[n1,e1] at F;rw[n3,e3] at s;rw[n4,V] at t;rw[n5,e5] at u;rw[n7,e7] at D;rw[n8,e8] at H
 simp only[qj,xG,Nat.one_mul] at g1 U M l f K O J P
 have Q:=Bn (p:=.string (G3.rots[0]'(show 0 < 1 by omega)).name::(Ad (G3.rots[0]'(show 0 < 1 by omega)).on++(iV (G3.rots[0]'(show 0 < 1 by omega)).rank::(T++(S++I))))) (c:=[(A5 L 0).v]) (q:=[]) (o:=k) (b:=g) (w:=w) (by simpa using K)
 have hl:(Value.string (G3.rots[0]'(show 0 < 1 by omega)).name::(Ad (G3.rots[0]'(show 0 < 1 by omega)).on++(iV (G3.rots[0]'(show 0 < 1 by omega)).rank::(T++(S++I))))).length=22:=by simp[A9,l0,l1,W]
 rw[hl] at Q
 have y:=Q 0 _ rfl
 unfold AF.v at y
 rw[n6,e6] at y
 exact ⟨b1,o1,_,b2,o2,c2,A,r,_,E,m,_,g,k,_,b6,x,_,C,n,_,z,G,_,F,g1 6 _ rfl,U 4 _ rfl,s,M 13 _ rfl,t,l 2 _ rfl,l 11 _ rfl,f 2 _ rfl,u,y,O 1 _ rfl,D,J 3 _ rfl,H,P 4 _ rfl⟩
end Go.Proofs.Ytghepahgkcigpaa

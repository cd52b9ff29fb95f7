/- Parts of the proof, in short words: Ub Uc Ud Ue Uf Bq -/
import Derived.Test.YtghepahgkcigpaaRg0
import Derived.Test.YtghepahgkcigpaaRg8
import Derived.Test.YtghepahgkcigpaaRg7
set_option maxRecDepth 100000
set_option maxHeartbeats 16000000
set_option linter.unusedSimpArgs false
namespace Go.Proofs.Ytghepahgkcigpaa
open Go.RowKit
def Ho:Array Value:=#[.string ⟨#[]⟩,.string ⟨#[]⟩,.int .i64 0,.int .i64 0,.int .i64 0,.int .i64 0,.string ⟨#[]⟩,.int .i64 0,.slice none 0 0,.int .i64 0,.int .i64 0,.int .i64 0,.string ⟨#[]⟩,.int .i64 0,.slice none 0 0,.int .i64 0,.int .i64 0,.int .i64 0,.string ⟨#[]⟩,.int .i64 0,.slice none 0 0,.int .i64 0,.int .i64 0,.int .i64 0,.string ⟨#[]⟩,.int .i64 0,.slice none 0 0,.int .i64 0,.int .i64 0,.int .i64 0,.string ⟨#[]⟩,.int .i64 0,.slice none 0 0,.int .i64 0,.int .i64 0,.int .i64 0,.string ⟨#[]⟩,.int .i64 0,.slice none 0 0,.int .i64 0,.int .i64 0,.int .i64 0,.string ⟨#[]⟩,.int .i64 0,.slice none 0 0,.int .i64 0,.int .i64 0,.int .i64 0,.string ⟨#[]⟩,.int .i64 0,.slice none 0 0]
structure Mw (W:World) (l:Array Bool) (tm:Array Value) (w:World):Prop where
 one:l.getD 4 false=false->Below W.heap.size W w∧(l.getD 3 false=true->∃b,tm.getD 2 undef=.pointer (some ⟨b,0,none⟩)∧W.heap.size<=b∧w.heap[b]?=some (.cells Ho 51 (0,0)))
 two:l.getD 4 false=true->∃w1 b,tm.getD 2 undef=.pointer (some ⟨b,0,none⟩)∧Below W.heap.size W w1∧W.heap.size<=b∧w1.heap[b]?=some (.cells Ho 51 (0,0))∧w=w1.setRow b FN.toArray
theorem Mw.quiet{W:World}{l:Array Bool}{tm:Array Value}{w w2:World}{i t:Nat}{v:Value}(h:Mw W l tm w)(n:l.getD 4 false=false)(hi:i≠4∧i≠3)(f:t≠2)(hb:Below w.heap.size w w2):Mw W (l.setIfInBounds i true) (tm.setIfInBounds t v) w2:=by
 obtain ⟨h1,h2⟩:=h.one n
 refine ⟨fun _=>⟨h1.trans (hb.mono h1.size),fun h3=>?_⟩,fun c=>by rw[Aa hi.1,n] at c;cases c⟩
 rw[Aa hi.2] at h3
 obtain ⟨b,d,e,a⟩:=h2 h3
 exact ⟨b,by rw[BD f];exact d,e,(hb.block b (yf.1 a).1).trans a⟩
def SK(j:Nat)(v:Value)(_:World):Prop:=match j with
 |0=>v=.agg #[.int .i64 1,.int .i64 1,.int .i64 3,.string ⟨#[]⟩,.int .i64 0,.slice none 0 0]
 |1=>v=.agg #[.int .i64 2,.int .i64 0,.int .i64 0,.string ⟨#[117]⟩,.int .i64 0,.slice none 0 0]
 |2=>v=.agg FN.toArray
 |3=>∃b,v=.pointer (some ⟨b,0,none⟩)
 |_=>True
theorem OX{y:Act}{W0:World}{Q:QT}{B1:Nat}(ops:Array Oper)(n:Fx Try.f21 2=some ops)
 (F:y.tmps.getD 1 undef=.pointer (some ⟨B1,0,none⟩))(B:y.tmps.size=46)(r:B1 < W0.heap.size)(i:W0.rangeAt B1 0 [.int .i64 2,.int .i64 0,.int .i64 0,.string ⟨#[117]⟩,.int .i64 0,.slice none 0 0])
 (V:∀(a:Act) w1 b,a.tmps.size=46->a.defers=y.defers->(∀t,t∉[2,5,6,7]->a.tmps.getD t undef=y.tmps.getD t undef)->a.tmps.getD 2 undef=.pointer (some ⟨b,0,none⟩)->Below W0.heap.size W0 w1->W0.heap.size<=b->w1.heap[b]?=some (.cells Ho 51 (0,0))->Q .normal a (w1.setRow b FN.toArray)):
  (Code.region 2 ops true).wp Try.prog Q y W0:=by
 obtain rfl:=yh ((rfl:Fx Try.f21 2=some _).symm.trans n)
 clear n
 refine Df (by kernel_rfl) (Mw W0) SK (fun _ _ _=>True) (by kernel_rfl) (by rw[B];kernel_rfl) (by kernel_rfl) (fun _ j v w w' _ _ _ h=>by unfold SK at h ⊢;exact h) ⟨fun _=>⟨(yg _ _).drew,fun h=>(by cases h)⟩,fun h=>(by cases h)⟩ ?_ ?_
 ·intro R c a w' hM f o m
  have q:=yb hM.ext
  have C:=(yf.1 m).1
  have x:=hM.size
  match R,C with
  |0,_=>
   have g:c.getD 4 false=false:=by
    rw[yi];intro h6
    have:=A1 hM.down 6 4 0 (by kernel_rfl) h6
    rw[hM.not_yet f] at this;cases this
   have l:=yb g
   clear g i
   obtain rfl:=yh m
   go_simp
   refine (JJ 1 3 _).mono ?_
   rintro e w2 ⟨rfl,H⟩
   exact ⟨_,rfl,q.o.quiet l.o (by decide) (by decide) H,trivial,rfl⟩
  |1,_=>
   have g:c.getD 4 false=false:=by
    rw[yi];intro h6
    have:=A1 hM.down 6 4 1 (by kernel_rfl) h6
    rw[hM.not_yet f] at this;cases this
   have l:=yb g
   clear g
   have d:=hM.old f 1 (by kernel_rfl) _ F
   have A:=yb (A2 i ((q.o.one l.o).1.block _ r))
   clear i
   obtain rfl:=yh m
   refine wp_load_mid 26 _ rfl B1 0 (by simpa[Act.eval] using d) _ _ A.o qq rfl (by kernel_rfl) ?_
   exact ⟨_,rfl,q.o.quiet l.o (by decide) (by decide) (yg _ _),trivial,rfl⟩
  |2,_=>
   have g:c.getD 4 false=false:=by
    rw[yi];intro h6
    have:=A1 hM.down 6 4 2 (by kernel_rfl) h6
    rw[hM.not_yet f] at this;cases this
   have l:=yb g
   clear g
   have K:=hM.dep f 0 5 (by kernel_rfl) (by kernel_rfl)
   have J:=hM.dep f 1 6 (by kernel_rfl) (by kernel_rfl)
   unfold SK at K J
   simp only at K J
   clear i
   obtain rfl:=yh m
   go_simp
   exact ⟨_,rfl,q.o.quiet l.o (by decide) (by decide) (yg _ _),trivial,rfl⟩
  |3,_=>
   have g:c.getD 4 false=false:=by
    rw[yi];intro h6
    have:=A1 hM.down 6 4 3 (by kernel_rfl) h6
    rw[hM.not_yet f] at this;cases this
   have l:=yb g
   clear g
   have I:Hid (3 < c.size):=yb (by rw[x];show 3 < 5;omega)
   have P:Hid (2 < a.tmps.size):=yb (by rw[hM.tmps,B];decide)
   clear i
   obtain rfl:=yh m
   go_simp
   refine ⟨_,rfl,⟨fun _=>⟨(q.o.one l.o).1.alloc (q.o.one l.o).1.size _,fun _=>⟨w'.heap.size,?_,(q.o.one l.o).1.size,World.alloc_heap_new _ _⟩⟩,fun h4=>?_⟩,trivial,_,rfl⟩
   ·show (a.put (some 2) (pV w'.heap.size 0)).tmps.getD 2 undef=_
    exact AQ _ P.o
   ·rw[Aa (by decide),l.o] at h4;cases h4
  |4,_=>
   have g:=hM.not_yet f
   have O:c.getD 3 false=true:=hM.came f 3 (by kernel_rfl)
   obtain ⟨hb,h3⟩:=q.o.one g
   obtain ⟨b,D,G,u⟩:=h3 O
   have E:=hM.dep f 2 7 (by kernel_rfl) (by kernel_rfl)
   unfold SK at E
   simp only at E
   have I:Hid (4 < c.size):=yb (by rw[x];show 4 < 5;omega)
   have z:=D
   rw[yG] at D
   refine wp_store_row 51 (.tmp 2) (.tmp 7) (by obtain rfl:=yh m;rfl) b FN.toArray (by simpa[Act.eval] using D) (by simpa[Act.eval] using E) 51 Ho u (by kernel_rfl) (by kernel_rfl) (by simp[FN,Value.oneCell']) ?_
   obtain rfl:=yh m
   refine ⟨undef,rfl,⟨fun h6=>?_,fun _=>⟨w',b,z,hb,G,u,rfl⟩⟩,trivial,trivial⟩
   simp[I.o] at h6
 ·intro c a w' s hM
  obtain ⟨w1,b,L,M,T,N,rfl⟩:=hM.ext.two (s 4 (show 4 < 5 by omega))
  refine V a w1 b (hM.tmps.trans B) hM.defers (fun t S=>hM.free t fun W U o m hd=>S ?_) L M T N
  have hs:=Ml (ops:=(Try.f21.body.bind (Dw 2)).getD #[]) (p:=fun o=>match o.dst with|some k=>decide (k∈[2,5,6,7])|none=>true) (by kernel_rfl) m
  rw[hd] at hs
  exact yv hs
theorem LM(w:World):Calls Try.prog 21 #[] w fun e w'=>∃cells:Array Value,e=.returned (.agg cells)∧cells.size=26∧Below w.heap.size w w'∧AD w.heap.size 37 (.agg cells) w':=by
 go_enter Try.func21,Try.ntmps21
 go_wp2_with fail
 have O:Hid (∀(cells:Array Value) (U:World),AD w.heap.size 37 (.agg cells) U->cells.size=26):=yb (fun cells U h=>by
  unfold AD at h
  simp only at h
  obtain ⟨_,_,_,_,_,_,_,_,_,h,_⟩:=h
  cases h;rfl)
 refine OX (B1:=w.heap.size+1) _ ?_ ?_ ?_ ?_ ?_ ?_
 ·rfl
 ·rfl
 ·rfl
 ·simp
 ·have h:=yR (World.alloc_heap_new (w.alloc (.cells Bo.toArray 35)) (.cells #[iV 2,iV 0,iV 0,.string ⟨#[117]⟩,iV 0,.slice none 0 0] 26)) 0 6
  rw[zv] at h
  exact h
 ·intro a w1 b j l f N hb E s
  have e:a={tmps:=#[pV w.heap.size 0,pV (w.heap.size+1) 0,(a.tmps.getD 2 undef),.agg #[.string ⟨#[117]⟩,iV 0],.agg #[iV 2,iV 0,iV 0,.string ⟨#[117]⟩,iV 0,.slice none 0 0],(a.tmps.getD 5 undef),(a.tmps.getD 6 undef),(a.tmps.getD 7 undef),undef,undef,undef,undef,undef,undef,undef,undef,undef,undef,undef,undef,undef,undef,undef,undef,undef,undef,undef,undef,undef,undef,undef,undef,undef,undef,undef,undef,undef,undef,undef,undef,undef,undef,undef,undef,undef,undef],defers:=[]}:=(JE [2,5,6,7] (j.trans rfl) l (fun t R=>f t R)).trans (by kernel_rfl)
  rw[N] at e
  obtain ⟨v5,M,L,rfl⟩:∃v5 M L:Value,a={tmps:=#[pV w.heap.size 0,pV (w.heap.size+1) 0,pV b 0,.agg #[.string ⟨#[117]⟩,iV 0],.agg #[iV 2,iV 0,iV 0,.string ⟨#[117]⟩,iV 0,.slice none 0 0],v5,M,L,undef,undef,undef,undef,undef,undef,undef,undef,undef,undef,undef,undef,undef,undef,undef,undef,undef,undef,undef,undef,undef,undef,undef,undef,undef,undef,undef,undef,undef,undef,undef,undef,undef,undef,undef,undef,undef,undef],defers:=[]}:=⟨_,_,_,e⟩
  clear e j l f N
  have C:((w.alloc (.cells Bo.toArray 35)).alloc (.cells #[iV 2,iV 0,iV 0,.string ⟨#[117]⟩,iV 0,.slice none 0 0] 26)).heap.size=w.heap.size+2:=by simp
  have u:Below ((w.alloc (.cells Bo.toArray 35)).alloc (.cells #[iV 2,iV 0,iV 0,.string ⟨#[117]⟩,iV 0,.slice none 0 0] 26)).heap.size ((w.alloc (.cells Bo.toArray 35)).alloc (.cells #[iV 2,iV 0,iV 0,.string ⟨#[117]⟩,iV 0,.slice none 0 0] 26)) w1:=hb
  have n:w.heap.size+2<=b:=by rw[<-C];exact E
  have A:=(yf.1 s).1
  have z:w1.heap[w.heap.size]?=some (.cells Bo.toArray 35 (0,0)):=by
   rw[u.block _ (by omega),yQ _ _ _ (by simp)]
   exact World.alloc_heap_new _ _
  have D:Below w.heap.size w w1:=(((yg _ _).alloc (ye _) _).alloc (by simp) _).trans (u.mono (by omega))
  have J:=yb (show (w1.setRow b FN.toArray).heap.size=w1.heap.size from Ft _ _ _)
  have G:=yb s;have y:=yb z;have i:=yb D;have g:Hid (w.heap.size+2<=b∧b < w1.heap.size):=yb ⟨n,A⟩
  clear hb E s C u n A z D
  go_wp2_with fail
  refine OW (B:=w.heap.size) (B2:=b) (row0:=Bo.toArray) _ ?_ ?_ ?_ ?_ ?_ ?_ ?_ ?_ ?_ ?_
  ·rfl
  ·rfl
  ·rfl
  ·rfl
  ·rw[J.o];have:=g.o;omega
  ·rw[J.o];exact g.o.2
  ·rw[CZ _ _ (by have:=g.o;omega)];exact y.o
  ·rfl
  ·have h:=yR (setRow_heap w1 b _ FN.toArray _ _ G.o) 0 FN.length
   simpa using h
  ·intro a w2 cells j l f F c
   obtain ⟨tm,Q⟩:=a
   obtain rfl:Q=[]:=l
   have h0:tm.getD 0 undef=pV w.heap.size 0:=(f 0 (by omega)).trans rfl
   have v:=O.o cells w2 F
   have H:=J.o
   have I:=g.o
   have r:w2.heap[w.heap.size]?=some (.cells Bo.toArray 35 (0,0)):=by
    rw[c.block _ (by omega),CZ _ _ (by omega)];exact y.o
   have q:=setRow_heap w2 w.heap.size _ cells _ _ r
   have d:(w2.setRow w.heap.size cells).rangeAt w.heap.size 0 cells.toList:=by
    have h:=yR q 0 cells.toList.length
    simpa using h
   have m:Below w.heap.size w (w2.setRow w.heap.size cells):=by
    refine ⟨c.os.trans i.o.os,c.tape.trans i.o.tape,c.output.trans i.o.output,?_,fun k K=>?_⟩
    ·have:=c.size;rw[Ft];omega
    ·rw[CZ _ _ (by omega),c.block _ (by omega),CZ _ _ (by omega)];exact i.o.block k K
   have x:AD w.heap.size 37 (.agg cells) (w2.setRow w.heap.size cells):=LL _ _ _ _ (fun k o K S=>by rw[CZ _ _ (by omega)];exact S) F
   have hl:=xX (P:=Try.prog) (w2.setRow w.heap.size cells) w.heap.size 0 35 cells.toList _ d qB rfl (by rw[Array.length_toList,v];kernel_rfl)
   rw[Array.toArray_toList] at hl
   have p:Hid (bodyPost Try.prog Try.f21 (fun e w'=>∃cells:Array Value,e=.returned (.agg cells)∧cells.size=26∧Below w.heap.size w w'∧AD w.heap.size 37 (.agg cells) w') .ret {tmps:=tm,defers:=[]} (w2.setRow w.heap.size cells)):=yb ⟨rfl,_,Gp rfl h0 hl,cells,rfl,v,m,x⟩
   clear h0 v r q d m x hl F c j f H I
   first
   |exact p.o
   |(go_wp2;exact p.o)
   |fail
def Dk:Ex:=.mk 0 0 0 ⟨#[]⟩ 0 []
def KZ(n u:Int):Ex:=.mk 1 n u ⟨#[]⟩ 0 []
def RR(s:ByteArray):Ex:=.mk 2 0 0 s 0 []
def bT:ByteArray:=⟨#[116]⟩
def bU:ByteArray:=⟨#[117]⟩
def RS:ByteArray:=⟨#[99,111,114,110]⟩
def LN:ByteArray:=⟨#[114,105,99,101]⟩
def Ix:ByteArray:=⟨#[104,101,97,100]⟩
def Fh:ByteArray:=⟨#[116,97,105,108]⟩
def Qr:ByteArray:=⟨#[97,110,97]⟩
def Mx:ByteArray:=⟨#[98,101,97]⟩
def OY:ByteArray:=⟨#[116,117,114,110,115]⟩
def RT:ByteArray:=⟨#[109,105,110,101]⟩
def OZ:ByteArray:=⟨#[99,108,101,97,110]⟩
def LO:ByteArray:=⟨#[118,101,103,97]⟩
def RU:ByteArray:=⟨#[114,105,118,101,114]⟩
def bC:ByteArray:=⟨#[99]⟩
def bN:ByteArray:=⟨#[]⟩
def DW:An:=
 {name:=LO,season:=KZ 2 4,cap:=Dk,start:=Dk,lets:=[⟨bT,KZ 3 1⟩,⟨bU,.mk 3 0 0 bN 0 [RR bT,KZ 1 1]⟩],crops:=[⟨RS,Dk⟩,⟨LN,Dk⟩],
  reaches:=[⟨Ix,⟨bN,0⟩,KZ 1 3,RR bU,Dk,Dk,Dk,Dk,Dk,Dk⟩,⟨Fh,⟨Ix,0⟩,Dk,Dk,Dk,Dk,Dk,Dk,Dk,Dk⟩],
  farms:=[⟨Qr,⟨Fh,0⟩,false,Dk,⟨LN,0⟩⟩,⟨Mx,⟨Ix,0⟩,true,Dk,⟨bN,0⟩⟩],rots:=[⟨OY,⟨Fh,0⟩,0,Dk,Dk,Dk,[⟨⟨Qr,0⟩,Dk⟩]⟩],
  rights:=[⟨2,RT,⟨Mx,0⟩,⟨Fh,0⟩,0,Dk,Dk,Dk,Dk,Dk⟩],duties:=[⟨OZ,⟨Mx,0⟩,⟨Fh,0⟩,Dk⟩]}
def D6(nm:ByteArray)(crops:List BY):An:={name:=nm,season:=Dk,cap:=Dk,start:=Dk,lets:=[],crops:=crops,reaches:=[],farms:=[],rots:=[],rights:=[],duties:=[]}
theorem Tw:Au (D6 bN [])=170:=by kernel_rfl
theorem Tz:Au (D6 RU [])=170:=by kernel_rfl
theorem TA:Au (D6 LO [⟨bC,Dk⟩,⟨bC,Dk⟩])=171:=by kernel_rfl
theorem RX:Au DW=0:=by kernel_rfl
theorem TC:Dg DW=170:=by kernel_rfl
theorem BG{w:World}{g:Nat}{row:Array Value}{ty:TypeId}(b:w.heap[g]?=some (.cells row ty (0,0)))(o:Nat){cs:LV}(h:(row.toList.drop o).take cs.length=cs):w.rangeAt g o cs:=fun j v a=>by
 have c:=(yD.1 a).1
 rw[<-h,zH,yx c,List.getElem?_drop] at a
 simp only[World.cell?,b]
 simpa using a
def Fi(op n u:Int)(rn:ByteArray)(ri:Int):LV:=[.int .i64 op,.int .i64 n,.int .i64 u,.string rn,.int .i64 ri,.slice none 0 0]
section
variable{N:NP}{w:World}
theorem Gu(op n u:Int)(rn:ByteArray)(ri:Int)(h:rn.size<=maxLen):AP N w (.mk op n u rn ri []) (Fi op n u rn ri):=by
 rw[AP];exact ⟨none,0,rfl,by simp,h,by rw[Db];trivial⟩
theorem Qs:AP N w Dk (Fi 0 0 0 bN 0):=Gu 0 0 0 bN 0 (yv (by kernel_rfl))
theorem mx(s:ByteArray)(h:s.size<=1000):s.size<=maxLen:=yr h (by unfold maxLen;omega)
theorem Hp{α:Type}{sz:Nat}{P:LV->α->Prop}:Az N w sz P ⟨none,0,0⟩ []:=⟨rfl,by simp,fun i hi=>absurd hi (by simp)⟩
end
def P0(c:Av):Bh:={s:=0,lets:=⟨none,0,0⟩,crops:=c,reaches:=⟨none,0,0⟩,farms:=⟨none,0,0⟩,rots:=⟨none,0,0⟩,rights:=⟨none,0,0⟩,duties:=⟨none,0,0⟩,turns:=[]}
def My(nm:ByteArray)(c:Av):LV:=.string nm::(Fi 0 0 0 bN 0++(Fi 0 0 0 bN 0++(Fi 0 0 0 bN 0++[.slice none 0 0,c.v,.slice none 0 0,.slice none 0 0,.slice none 0 0,.slice none 0 0,.slice none 0 0])))
theorem LP{N:NP}{w:World}{nm:ByteArray}{c:Av}{l:List BY}(b:nm.size<=1000)(a:Az N w 7 (Dq N w) c l):B8 N w (P0 c) (My nm c) (D6 nm l):=
 ⟨mx _ b,⟨_,_,_,rfl,Qs,Qs,Qs⟩,Hp,a,Hp,Hp,⟨rfl,yz _,fun i hi=>absurd hi (by simp[D6])⟩,Hp,Hp⟩
theorem LQ{B:Nat}{w:World}{cells:Array Value}(h:AD B 37 (.agg cells) w):∃(L:Bh) (cs:LV),cells=cs.toArray∧B8 (fun b=>B < b∧b < w.heap.size) w L cs DW:=by
 unfold AD at h
 simp only at h
 obtain ⟨a,j,f,m,e,r,s,p,q,h0,l,d,o,n,c,t,v,u,x⟩:=h
 have hN:∀ {g:Nat} {row:Array Value} {ty:TypeId},Bk B w g row ty->B < g∧g < w.heap.size:=fun h=>⟨h.1,(yf.1 h.2).1⟩
 have z:∀ {N:NP},AP N w Dk (Fi 0 0 0 bN 0):=Qs
 refine ⟨⟨0,⟨some (aV j 0),2,2⟩,⟨some (aV f 0),2,2⟩,⟨some (aV m 0),2,2⟩,⟨some (aV e 0),2,2⟩,⟨some (aV s 0),1,1⟩,⟨some (aV p 0),1,1⟩,⟨some (aV q 0),1,1⟩,[⟨some (aV r 0),1,1⟩]⟩,
  .string LO::(Fi 1 2 4 bN 0++(Fi 0 0 0 bN 0++(Fi 0 0 0 bN 0++[.slice (some (aV j 0)) 2 2,.slice (some (aV f 0)) 2 2,.slice (some (aV m 0)) 2 2,.slice (some (aV e 0)) 2 2,.slice (some (aV s 0)) 1 1,.slice (some (aV p 0)) 1 1,.slice (some (aV q 0)) 1 1]))),?_,?_⟩
 ·cases h0;rfl
 clear h0
 refine ⟨mx _ (yv rfl),⟨Fi 1 2 4 bN 0,Fi 0 0 0 bN 0,Fi 0 0 0 bN 0,rfl,Gu 1 2 4 bN 0 (mx _ (yv rfl)),z,z⟩,⟨rfl,by simp[DW],fun i hi=>?_⟩,⟨rfl,by simp[DW],fun i hi=>?_⟩,⟨rfl,by simp[DW],fun i hi=>?_⟩,⟨rfl,by simp[DW],fun i hi=>?_⟩,⟨rfl,by simp[DW],fun i hi=>?_⟩,⟨rfl,by simp[DW],fun i hi=>?_⟩,⟨rfl,by simp[DW],fun i hi=>?_⟩⟩
 ·match i,hi with
  |0,_=>exact ⟨j,0,.string bT::Fi 1 3 1 bN 0,rfl,hN d,rfl,BG d.2 _ rfl,mx _ (yv rfl),_,rfl,Gu 1 3 1 bN 0 (mx _ (yv rfl))⟩
  |1,_=>
   refine ⟨j,0,.string bU::[iV 3,iV 0,iV 0,.string bN,iV 0,.slice (some (aV a 0)) 2 2],rfl,hN d,rfl,BG d.2 _ rfl,mx _ (yv rfl),_,rfl,?_⟩
   show AP _ w (.mk 3 0 0 bN 0 [RR bT,KZ 1 1]) _
   rw[AP]
   refine ⟨some (aV a 0),2,rfl,by simp,mx _ (yv rfl),?_⟩
   rw[Db,Db,Db]
   exact ⟨⟨a,0,Fi 2 0 0 bT 0,rfl,hN l,BG l.2 _ rfl,Gu 2 0 0 bT 0 (mx _ (yv rfl))⟩,⟨a,0,Fi 1 1 1 bN 0,rfl,hN l,BG l.2 _ rfl,Gu 1 1 1 bN 0 (mx _ (yv rfl))⟩,trivial⟩
 ·match i,hi with
  |0,_=>exact ⟨f,0,.string RS::Fi 0 0 0 bN 0,rfl,hN o,rfl,BG o.2 _ rfl,mx _ (yv rfl),_,rfl,z⟩
  |1,_=>exact ⟨f,0,.string LN::Fi 0 0 0 bN 0,rfl,hN o,rfl,BG o.2 _ rfl,mx _ (yv rfl),_,rfl,z⟩
 ·match i,hi with
  |0,_=>exact ⟨m,0,.string Ix::(Ah ⟨bN,0⟩++(Fi 1 1 3 bN 0++(Fi 2 0 0 bU 0++(Fi 0 0 0 bN 0++(Fi 0 0 0 bN 0++(Fi 0 0 0 bN 0++(Fi 0 0 0 bN 0++(Fi 0 0 0 bN 0++Fi 0 0 0 bN 0)))))))),rfl,hN n,rfl,BG n.2 _ rfl,mx _ (yv rfl),mx _ (yv rfl),_,_,_,_,_,_,_,_,rfl,Gu 1 1 3 bN 0 (mx _ (yv rfl)),Gu 2 0 0 bU 0 (mx _ (yv rfl)),z,z,z,z,z,z⟩
  |1,_=>exact ⟨m,0,.string Fh::(Ah ⟨Ix,0⟩++(Fi 0 0 0 bN 0++(Fi 0 0 0 bN 0++(Fi 0 0 0 bN 0++(Fi 0 0 0 bN 0++(Fi 0 0 0 bN 0++(Fi 0 0 0 bN 0++(Fi 0 0 0 bN 0++Fi 0 0 0 bN 0)))))))),rfl,hN n,rfl,BG n.2 _ rfl,mx _ (yv rfl),mx _ (yv rfl),_,_,_,_,_,_,_,_,rfl,z,z,z,z,z,z,z,z⟩
 ·match i,hi with
  |0,_=>exact ⟨e,0,.string Qr::(Ah ⟨Fh,0⟩++(.bool false::(Fi 0 0 0 bN 0++Ah ⟨LN,0⟩))),rfl,hN c,rfl,BG c.2 _ rfl,mx _ (yv rfl),mx _ (yv rfl),mx _ (yv rfl),_,rfl,z⟩
  |1,_=>exact ⟨e,0,.string Mx::(Ah ⟨Ix,0⟩++(.bool true::(Fi 0 0 0 bN 0++Ah ⟨bN,0⟩))),rfl,hN c,rfl,BG c.2 _ rfl,mx _ (yv rfl),mx _ (yv rfl),mx _ (yv rfl),_,rfl,z⟩
 ·match i,hi with
  |0,_=>
   refine ⟨s,0,.string OY::(Ah ⟨Fh,0⟩++(iV 0::(Fi 0 0 0 bN 0++(Fi 0 0 0 bN 0++(Fi 0 0 0 bN 0++[.slice (some (aV r 0)) 1 1]))))),rfl,hN v,rfl,BG v.2 _ rfl,mx _ (yv rfl),mx _ (yv rfl),_,_,_,rfl,z,z,z,rfl,by simp[DW],fun k y=>?_⟩
   match k,y with
   |0,_=>exact ⟨r,0,Ah ⟨Qr,0⟩++Fi 0 0 0 bN 0,rfl,hN t,rfl,BG t.2 _ rfl,mx _ (yv rfl),_,rfl,z⟩
 ·match i,hi with
  |0,_=>exact ⟨p,0,iV 2::.string RT::(Ah ⟨Mx,0⟩++(Ah ⟨Fh,0⟩++(iV 0::(Fi 0 0 0 bN 0++(Fi 0 0 0 bN 0++(Fi 0 0 0 bN 0++(Fi 0 0 0 bN 0++Fi 0 0 0 bN 0))))))),rfl,hN u,rfl,BG u.2 _ rfl,mx _ (yv rfl),mx _ (yv rfl),mx _ (yv rfl),_,_,_,_,_,rfl,z,z,z,z,z⟩
 ·match i,hi with
  |0,_=>exact ⟨q,0,.string OZ::(Ah ⟨Mx,0⟩++(Ah ⟨Fh,0⟩++Fi 0 0 0 bN 0)),rfl,hN x,rfl,BG x.2 _ rfl,mx _ (yv rfl),mx _ (yv rfl),mx _ (yv rfl),_,rfl,z⟩
def EL:An:=
 {name:=LO,season:=KZ 2 4,cap:=Dk,start:=Dk,lets:=[⟨bT,KZ 3 1⟩,⟨bU,.mk 3 0 0 bN 0 [RR bT,KZ 1 1]⟩],crops:=[⟨RS,Dk⟩,⟨LN,Dk⟩],
  reaches:=[⟨Ix,⟨bN,0⟩,KZ 1 3,.mk 2 0 0 bU 1 [],Dk,Dk,Dk,Dk,Dk,Dk⟩,⟨Fh,⟨Ix,0⟩,Dk,Dk,Dk,Dk,Dk,Dk,Dk,Dk⟩],
  farms:=[⟨Qr,⟨Fh,1⟩,false,Dk,⟨LN,1⟩⟩,⟨Mx,⟨Ix,0⟩,true,Dk,⟨bN,0⟩⟩],rots:=[⟨OY,⟨Fh,1⟩,0,Dk,Dk,Dk,[⟨⟨Qr,0⟩,Dk⟩]⟩],
  rights:=[⟨2,RT,⟨Mx,1⟩,⟨Fh,1⟩,0,Dk,Dk,Dk,Dk,Dk⟩],duties:=[⟨OZ,⟨Mx,1⟩,⟨Fh,1⟩,Dk⟩]}
theorem Qt:A8 DW=EL:=by kernel_rfl
structure PI (w:World) (B:Nat) (b1 o1 c1 b2 o2 c2 b3 o3 c3 b4 o4 c4 b5 o5 c5 b6 o6 c6 b7 o7 c7 b8 o8 c8:Nat):Prop where
 lets:w.cell? ⟨B,19,none⟩=some (.slice (some ⟨b1,o1,none⟩) 2 c1)
 args:w.cell? ⟨b1,o1+7+1+5,none⟩=some (.slice (some ⟨b2,o2,none⟩) 2 c2)
 arg0:w.cell? ⟨b2,o2+3+1,none⟩=some (.int .i64 0)
 reaches:w.cell? ⟨B,21,none⟩=some (.slice (some ⟨b3,o3,none⟩) 2 c3)
 cap:w.cell? ⟨b3,o3+9+3+1,none⟩=some (.int .i64 1)
 farms:w.cell? ⟨B,22,none⟩=some (.slice (some ⟨b4,o4,none⟩) 2 c4)
 on0:w.cell? ⟨b4,o4+1+1,none⟩=some (.int .i64 1)
 crop0:w.cell? ⟨b4,o4+10+1,none⟩=some (.int .i64 1)
 on1:w.cell? ⟨b4,o4+12+1+1,none⟩=some (.int .i64 0)
 rots:w.cell? ⟨B,23,none⟩=some (.slice (some ⟨b5,o5,none⟩) 1 c5)
 turns:w.cell? ⟨b5,o5+22,none⟩=some (.slice (some ⟨b6,o6,none⟩) 1 c6)
 turn0:w.cell? ⟨b6,o6+1,none⟩=some (.int .i64 0)
 rights:w.cell? ⟨B,24,none⟩=some (.slice (some ⟨b7,o7,none⟩) 1 c7)
 right0:w.cell? ⟨b7,o7+2+1,none⟩=some (.int .i64 1)
 duties:w.cell? ⟨B,25,none⟩=some (.slice (some ⟨b8,o8,none⟩) 1 c8)
 duty0:w.cell? ⟨b8,o8+3+1,none⟩=some (.int .i64 1)
theorem NT{N:NP}{w:World}{L:Bh}{cs:LV}{B:Nat}(h:B8 N w L cs EL)(hr:w.rangeAt B 0 cs):∃b1 o1 c1 b2 o2 c2 x A c3 D r c4 i g c5 b6 G c6 J E c7 F I c8:Nat,PI w B b1 o1 c1 b2 o2 c2 x A c3 D r c4 i g c5 b6 G c6 J E c7 F I c8:=by
 have hc:=h.at
 have a:∀ {q:Nat} {v:Value},cs[q]?=some v->w.cell? (aV B q)=some v:=fun {q v} hq=>by have:=hr q v hq;rwa [yA] at this
 obtain ⟨n1,_,r1⟩:=h.lets
 obtain ⟨n3,_,Y⟩:=h.reaches
 obtain ⟨n4,_,U⟩:=h.farms
 obtain ⟨n5,_,r5⟩:=h.rots
 obtain ⟨n7,_,r7⟩:=h.rights
 obtain ⟨n8,_,r8⟩:=h.duties
 have y:=a hc.lets;have C:=a hc.reaches;have u:=a hc.farms;have n:=a hc.rots;have t:=a hc.rights;have s:=a hc.duties
 unfold Av.v at y C u n t s
 obtain ⟨b1,o1,q1,e1,_,_,g1,_,t1,rfl,k⟩:=r1 1 (show 1 < 2 by omega)
 have k:AP N w (.mk 3 0 0 bN 0 [RR bT,KZ 1 1]) t1:=k
 rw[AP] at k
 obtain ⟨a2,c2,rfl,_,_,d⟩:=k
 rw[Db] at d
 obtain ⟨⟨b2,o2,q2,rfl,_,X,d⟩,_⟩:=d
 have d:AP N w (.mk 2 0 0 bT 0 []) q2:=d
 rw[AP] at d
 obtain ⟨_,_,rfl,_⟩:=d
 obtain ⟨x,A,q3,Z,_,_,S,_,_,x0,x1,x2,x3,x4,x5,x6,x7,rfl,m,l,_⟩:=Y 0 (show 0 < 2 by omega)
 have m:AP N w (.mk 1 1 3 bN 0 []) x0:=m
 have l:AP N w (.mk 2 0 0 bU 1 []) x1:=l
 rw[AP] at m l
 obtain ⟨_,_,rfl,_⟩:=m
 obtain ⟨_,_,rfl,_⟩:=l
 obtain ⟨D,r,q4,O,_,_,H,_,_,_,x8,rfl,j⟩:=U 0 (show 0 < 2 by omega)
 have j:AP N w (.mk 0 0 0 bN 0 []) x8:=j
 rw[AP] at j
 obtain ⟨_,_,rfl,_⟩:=j
 obtain ⟨a0,a1,a6,e,_,_,f,_,_,_,x9,rfl,_⟩:=U 1 (show 1 < 2 by omega)
 rw[O] at e
 cases e
 obtain ⟨i,g,q5,e5,_,_,T,_,_,Q,R,W,rfl,w0,w1,w2,n6,_,r6⟩:=r5 0 (show 0 < 1 by omega)
 have l0:=w0.len;have l1:=w1.len;have l2:=w2.len
 obtain ⟨b6,G,q6,e6,_,_,K,_,z3,rfl,_⟩:=r6 0 (show 0 < 1 by omega)
 obtain ⟨J,E,q7,e7,_,_,P,_,_,_,_,_,_,_,_,rfl,_⟩:=r7 0 (show 0 < 1 by omega)
 obtain ⟨F,I,q8,e8,_,_,V,_,_,_,_,rfl,_⟩:=r8 0 (show 0 < 1 by omega)
 rw[n1,e1] at y;rw[n3,Z] at C;rw[n4,O] at u;rw[n5,e5] at n;rw[n7,e7] at t;rw[n8,e8] at s
 simp only[Nat.zero_mul,xR,Nat.one_mul] at g1 X S H f T K P V
 have M:=AK (p:=.string (EL.rots[0]'(show 0 < 1 by omega)).name::(Ah (EL.rots[0]'(show 0 < 1 by omega)).on++(iV (EL.rots[0]'(show 0 < 1 by omega)).rank::(Q++(R++W))))) (c:=[(A4 L 0).v]) (q:=[]) (o:=g) (b:=i) (w:=w) (by simpa using T)
 have hl:(Value.string (EL.rots[0]'(show 0 < 1 by omega)).name::(Ah (EL.rots[0]'(show 0 < 1 by omega)).on++(iV (EL.rots[0]'(show 0 < 1 by omega)).rank::(Q++(R++W))))).length=22:=by simp[A7,l0,l1,l2]
 rw[hl] at M
 have z:=M 0 _ rfl
 unfold Av.v at z
 rw[n6,e6] at z
 exact ⟨b1,o1,_,b2,o2,c2,x,A,_,D,r,_,i,g,_,b6,G,_,J,E,_,F,I,_,y,g1 6 _ rfl,X 4 _ rfl,C,S 13 _ rfl,u,H 2 _ rfl,H 11 _ rfl,f 2 _ rfl,n,z,K 1 _ rfl,t,P 3 _ rfl,s,V 4 _ rfl⟩
theorem Iy{ops:Array Oper}{rest:List Oper}{op:Oper}{a:Act}{w:World}{Q:QT}(g:Region.wanted op (yielded ops a.tmps)=true)(ty:TypeId)(x:Operand)(i:op.op=.load ty x)
 (b o:Nat)(e:a.eval x=.pointer (some ⟨b,o,none⟩))(cs:LV)(d:TypeDesc)(hc:w.rangeAt b o cs)(f:Try.prog.underlying ty=some d)(hd:d.isRow=true)(hi:(Try.prog.info? ty).map (·.size)=some cs.length)
 (h:wpList Try.prog ops Q rest (a.put op.dst (.agg cs.toArray)) w):wpList Try.prog ops Q (op::rest) a w:=
 wpList_step fun K c=>by rw[yx g];exact wp_load_mid ty x i b o e cs d hc f hd hi (c _ _ h)
mutual
def PJ:Ex->Bool
 |.mk _ _ _ _ _ args=>decide (args.length<=100000)&&Mz args
def Mz:List Ex->Bool
 |[]=>true
 |e::r=>PJ e&&Mz r
end
mutual
theorem NU:∀e:Ex,PJ e=true->Ba e
 |.mk _ _ _ _ _ args,h=>by
  rw[PJ,yt,yW] at h
  rw[Ba];exact ⟨h.1,LR args h.2⟩
theorem LR:∀l:List Ex,Mz l=true->Er l
 |[],_=>by rw[Er];trivial
 |e::r,h=>by
  rw[Mz,yt] at h
  rw[Er];exact ⟨NU e h.1,LR r h.2⟩
end
theorem Gv{x:An}(h:(AL x).all (fun e=>PJ e.1)=true):∀e∈AL x,Ba e.1:=fun e a=>NU _ (by rw[yL] at h;exact h e a)
theorem Fj{P:Program}{ops:Array Oper}{rest:List Oper}{o:Oper}{a:Act}{w:World}{Q:QT}(b:Region.wanted o (yielded ops a.tmps)=true)(h:∀K:Act->World->Prop,(∀a w,wpList P ops Q rest a w->K a w)->o.wp P a w K Q):wpList P ops Q (o::rest) a w:=
 wpList_step fun K c=>by rw[yx b];exact h K c
theorem Ky(nm:ByteArray)(l:List BY)(h:l.length<=2)(a:∀e∈AL (D6 nm l),Ba e.1):I1 (D6 nm l):=⟨by simp[D6],by simp[D6];omega,by simp[D6],by simp[D6],by simp[D6],by simp[D6],by simp[D6],by simp[D6],a⟩
theorem Iz{x:An}(h:Bq x=true):∀e∈AL x,AR e.1<=1000000:=fun e a=>by
 obtain ⟨_,_,_,_,_,_,_,_,b⟩:=Ev h
 have:=b e a;omega
theorem LS{w:World}(a:GV w){W:World}(hb:Below w.heap.size w W)(nm:ByteArray)(c:nm.size<=1000)(b:Bq (D6 nm [])=true):Calls Try.prog 11 #[.agg (My nm ⟨none,0,0⟩).toArray] W (ER W (D6 nm [])):=
 DG (L:=P0 ⟨none,0,0⟩) (N:=fun _=>False) (LP c Hp) (fun _ h=>h.elim) (Ky _ _ (by simp) (Gv rfl)) (a.below hb a.1) (Iz b)
def RY:Array Value:=#[.string bC,.int .i64 0,.int .i64 0,.int .i64 0,.string ⟨#[]⟩,.int .i64 0,.slice none 0 0,.string bC,.int .i64 0,.int .i64 0,.int .i64 0,.string ⟨#[]⟩,.int .i64 0,.slice none 0 0]
theorem SM{w:World}(c:GV w){W W':World}{g:Nat}(hb:Below w.heap.size w W)(e:W'=W.alloc (.cells RY 57))(a:g=W.heap.size):Calls Try.prog 11 #[.agg (My LO ⟨some ⟨g,0,none⟩,2,2⟩).toArray] W' (ER W' (D6 LO [⟨bC,Dk⟩,⟨bC,Dk⟩])):=by
 subst e a
 have d:=World.alloc_heap_new W (.cells RY 57)
 refine DG (L:=P0 ⟨some (aV W.heap.size 0),2,2⟩) (N:=fun b=>b=W.heap.size) (LP (yv rfl) ⟨rfl,by simp,fun i hi=>?_⟩) (fun b hb=>by rw[hb];simp) (Ky _ _ (by simp) (Gv rfl)) (c.below (hb.alloc hb.size _) c.1) (Iz (by kernel_rfl))
 match i,hi with
 |0,_=>exact ⟨W.heap.size,0,.string bC::Fi 0 0 0 bN 0,rfl,rfl,rfl,BG d _ rfl,mx _ (yv rfl),_,rfl,Qs⟩
 |1,_=>exact ⟨W.heap.size,0,.string bC::Fi 0 0 0 bN 0,rfl,rfl,rfl,BG d _ rfl,mx _ (yv rfl),_,rfl,Qs⟩
theorem Kz:I1 DW:=⟨by decide,by decide,by decide,by decide,by decide,by decide,by decide,by simp[DW],Gv (by kernel_rfl)⟩
theorem NV:I1 EL:=⟨by decide,by decide,by decide,by decide,by decide,by decide,by decide,by simp[EL],Gv (by kernel_rfl)⟩
theorem RZ{w:World}(hg:GV w):Calls Try.prog 9 #[] w fun e w'=>e=.returned (.bool true)∧Below w.heap.size w w':=by
 have r:=yb hg
 have t:=yb (yg w.heap.size w)
 clear hg
 go_enter Try.func9,Try.ntmps9
 go_upto_region 1 with fail
 refine xd ?_
 refine yF rfl fun K a=>?_
 go_simp
 refine a _ _ ?_
 clear a K
 refine yF rfl fun K a=>?_
 go_simp
 refine (LS r.o t.o bN (by decide) (by kernel_rfl)).mono ?_
 intro e v1 d
 obtain ⟨a2,rfl,j,c,g,i⟩:=Ip d
 clear d
 rw[Tw]
 refine a _ _ ?_
 clear a K
 have L:=yb j;have C:=yb (yU c);have ag:=yb i
 have u:=yb (((t.o).trans (g.mono (t.o).size)).alloc (yr (t.o).size g.size) (.cells a2.toArray 35))
 clear j c g i
 iterate 4
  refine yF rfl fun K a=>?_
  go_simp
  refine a _ _ ?_
  clear a K
 refine yX rfl 35 _ _ rfl v1.heap.size a2.toArray rfl rfl 35 _ (World.alloc_heap_new _ _) (by rw[yB,L.o];kernel_rfl) (by simp[L.o]) C.o ?_
 rw[World.setRow_alloc_new]
 refine yF rfl fun K a=>?_
 go_simp
 refine a _ _ ?_
 clear a K
 refine xB ?_
 go_upto_region 2 with fail
 refine xd ?_
 refine yF rfl fun K a=>?_
 go_simp
 refine a _ _ ?_
 clear a K
 refine yF rfl fun K a=>?_
 go_simp
 refine (LS r.o u.o RU (by decide) (by kernel_rfl)).mono ?_
 intro e v2 d
 obtain ⟨Q,rfl,j,c,g,i⟩:=Ip d
 clear d
 rw[Tz]
 refine a _ _ ?_
 clear a K
 have Z:=yb j;have z:=yb (yU c);have ai:=yb i
 have m:=yb (((u.o).trans (g.mono (u.o).size)).alloc (yr (u.o).size g.size) (.cells Q.toArray 35))
 clear j c g i
 iterate 4
  refine yF rfl fun K a=>?_
  go_simp
  refine a _ _ ?_
  clear a K
 refine yX rfl 35 _ _ rfl v2.heap.size Q.toArray rfl rfl 35 _ (World.alloc_heap_new _ _) (by rw[yB,Z.o];kernel_rfl) (by simp[Z.o]) z.o ?_
 rw[World.setRow_alloc_new]
 refine yF rfl fun K a=>?_
 go_simp
 refine a _ _ ?_
 clear a K
 refine xB ?_
 go_upto_region 3 with fail
 refine xd ?_
 iterate 4
  refine yF rfl fun K a=>?_
  go_simp
  refine a _ _ ?_
  clear a K
 refine yF rfl fun K a=>?_
 go_simp
 refine (SM r.o m.o rfl (by simp)).mono ?_
 intro e v3 d
 obtain ⟨a8,rfl,j,c,g,i⟩:=Ip d
 clear d
 rw[TA]
 refine a _ _ ?_
 clear a K
 have M:=yb j;have G:=yb (yU c);have ah:=yb i
 have P:=yb ((((m.o.alloc m.o.size (.cells RY 57))).trans (g.mono ((m.o.alloc m.o.size (.cells RY 57))).size)).alloc (yr ((m.o.alloc m.o.size (.cells RY 57))).size g.size) (.cells a8.toArray 35))
 clear j c g i
 iterate 4
  refine yF rfl fun K a=>?_
  go_simp
  refine a _ _ ?_
  clear a K
 refine yX rfl 35 _ _ rfl v3.heap.size a8.toArray rfl rfl 35 _ (World.alloc_heap_new _ _) (by rw[yB,M.o];kernel_rfl) (by simp[M.o]) G.o ?_
 rw[World.setRow_alloc_new]
 refine yF rfl fun K a=>?_
 go_simp
 refine a _ _ ?_
 clear a K
 refine xB ?_
 go_upto_region 4 with fail
 refine xd ?_
 refine yF rfl fun K a=>?_
 go_simp
 refine (LM _).mono ?_
 rintro e w4 ⟨cells,rfl,n,a1,W⟩
 obtain ⟨L4,aq,rfl,V⟩:=LQ W
 have s:=yb (P.o.trans (a1.mono P.o.size))
 have ae:=yb V
 clear n a1 W V
 refine a _ _ ?_
 clear a K
 refine yF rfl fun K a=>?_
 go_simp
 refine (DG ae.o (fun b hb=>hb.2) Kz (r.o.below s.o r.o.1) (Iz (by kernel_rfl))).mono ?_
 intro e v4 d
 obtain ⟨f,rfl,j,c,g,i⟩:=Ip d
 clear d
 rw[RX]
 refine a _ _ ?_
 clear a K
 have B:=yb j;have I:=yb (yU c);have O:=yb i
 have F:=yb (((s.o).trans (g.mono (s.o).size)).alloc (yr (s.o).size g.size) (.cells f.toArray 35))
 clear j c g i
 iterate 4
  refine yF rfl fun K a=>?_
  go_simp
  refine a _ _ ?_
  clear a K
 refine yX rfl 35 _ _ rfl v4.heap.size f.toArray rfl rfl 35 _ (World.alloc_heap_new _ _) (by rw[yB,B.o];kernel_rfl) (by simp[B.o]) I.o ?_
 rw[World.setRow_alloc_new]
 refine yF rfl fun K a=>?_
 go_simp
 refine a _ _ ?_
 clear a K
 refine xB ?_
 obtain ⟨L5,N5,s5,n5⟩:=O.o RX
 rw[Qt] at s5
 have N:Below v4.heap.size v4 (v4.alloc (.cells f.toArray 35)):=(yg _ _).alloc (ye _) _
 have E:B8 N5 (v4.alloc (.cells f.toArray 35)) L5 f EL:=s5.same (fun _ h=>h) (fun b hb=>N.block b (n5 b hb).2)
 have H:(v4.alloc (.cells f.toArray 35)).rangeAt v4.heap.size 0 f:=by
  have h:=yR (World.alloc_heap_new v4 (.cells f.toArray 35)) 0 f.length
  simpa using h
 obtain ⟨b1,o1,c1,b2,o2,c2,b3,o3,c3,b4,o4,c4,b5,o5,c5,b6,o6,c6,b7,o7,c7,b8,o8,c8,k⟩:=NT E H
 have ab:=yb (Hn E (fun b hb=>by have:=(n5 b hb).2;simp;omega) NV (r.o.below F.o r.o.1) (Iz (by kernel_rfl)))
 have aa:=yb H;have HF:=yb k
 have ac:Hid ((Try.prog.info? 35).map (·.size)=some f.length):=yb (by rw[B.o];kernel_rfl)
 have ad:Hid (∀U,Below (v4.alloc (.cells f.toArray 35)).heap.size (v4.alloc (.cells f.toArray 35)) U->PI U v4.heap.size b1 o1 c1 b2 o2 c2 b3 o3 c3 b4 o4 c4 b5 o5 c5 b6 o6 c6 b7 o7 c7 b8 o8 c8):=yb (fun U hU=>by
  have l:∀ {p:Addr} {v:Value},(v4.alloc (.cells f.toArray 35)).cell? p=some v->U.cell? p=some v:=fun {p v} h=>(hU.cell (p:=p) (by
   rcases zO p.block (v4.alloc (.cells f.toArray 35)).heap.size with h'|h'
   ·exact h'
   ·simp[World.cell?,xb h'] at h)).trans h
  exact ⟨l k.lets,l k.args,l k.arg0,l k.reaches,l k.cap,l k.farms,l k.on0,l k.crop0,l k.on1,l k.rots,l k.turns,l k.turn0,l k.rights,l k.right0,l k.duties,l k.duty0⟩)
 clear s5 N E H k n5
 have x:Hid (Dg EL=0):=yb (by kernel_rfl)
 go_upto_region 5 with fail
 refine xd ?_
 iterate 15
  refine Fj (by kernel_rfl) fun K a=>?_
  go_simp
  refine a _ _ ?_
  clear a K
 refine Iy (by kernel_rfl) 35 _ rfl v4.heap.size 0 rfl f _ aa.o qB rfl ac.o ?_
 refine Fj (by kernel_rfl) fun K a=>?_
 go_simp
 refine ab.o.mono ?_
 rintro e w8 ⟨a6,A⟩
 rw[x.o] at a6
 subst a6
 have X:=yb A
 have a0:=yb (F.o.trans (A.mono F.o.size))
 clear A
 iterate 4
  refine a _ _ ?_
  clear a K
  refine Fj (by kernel_rfl) fun K a=>?_
  go_simp
 refine (LM _).mono ?_
 rintro e w9 ⟨cells,rfl,n,D,a7⟩
 obtain ⟨L9,ak,rfl,S⟩:=LQ a7
 have R:=yb (X.o.trans (D.mono X.o.size))
 have J:=yb (a0.o.trans (D.mono a0.o.size))
 have af:=yb S
 clear n D a7 S
 refine a _ _ ?_
 clear a K
 refine Fj (by kernel_rfl) fun K a=>?_
 go_simp
 refine (Hn af.o (fun b hb=>hb.2) Kz (r.o.below J.o r.o.1) (Iz (by kernel_rfl))).mono ?_
 rintro e aj ⟨y,q⟩
 rw[TC] at y
 subst y
 have Y:=yb (R.o.trans (q.mono R.o.size))
 have T:=yb (J.o.trans (q.mono J.o.size))
 clear q
 iterate 2
  refine a _ _ ?_
  clear a K
  refine Fj (by kernel_rfl) fun K a=>?_
  go_simp
 refine a _ _ ?_
 clear a K
 refine xB ?_
 obtain ⟨f1,f2,f3,f4,f5,f6,f7,f8,f9,am,au,an,ar,al,ap,ao⟩:=ad.o _ Y.o
 go_upto_region 7 with fail
 refine xd ?_
 iterate 53
  refine Fj (by kernel_rfl) fun K a=>?_
  go_simp
  refine a _ _ ?_
  clear a K
 refine xB ?_
 go_upto_region 9 with fail
 refine xd ?_
 iterate 79
  refine Fj (by kernel_rfl) fun K a=>?_
  go_simp
  refine a _ _ ?_
  clear a K
 refine xB ?_
 go_wp2
 go_ret
 exact ⟨rfl,T.o⟩
def Tb.at(t:Tb)(c:Int):LB:=if c=0 then t.lets else if c=1 then t.crops else if c=2 then t.reaches else t.farms
end Go.Proofs.Ytghepahgkcigpaa

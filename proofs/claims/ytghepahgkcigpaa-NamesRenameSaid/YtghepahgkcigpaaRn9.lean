/- Parts of the proof, in short words: Ub Uc Ud Ue Uf -/
import Derived.Test.YtghepahgkcigpaaRn0
import Derived.Test.YtghepahgkcigpaaRn8
set_option maxRecDepth 100000
set_option maxHeartbeats 16000000
set_option linter.unusedSimpArgs false
namespace Go.Proofs.Ytghepahgkcigpaa
open Go.RowKit
def IZ:Array Value:=#[.string ⟨#[]⟩,.string ⟨#[]⟩,.int .i64 0,.int .i64 0,.int .i64 0,.int .i64 0,.string ⟨#[]⟩,.int .i64 0,.slice none 0 0,.int .i64 0,.int .i64 0,.int .i64 0,.string ⟨#[]⟩,.int .i64 0,.slice none 0 0,.int .i64 0,.int .i64 0,.int .i64 0,.string ⟨#[]⟩,.int .i64 0,.slice none 0 0,.int .i64 0,.int .i64 0,.int .i64 0,.string ⟨#[]⟩,.int .i64 0,.slice none 0 0,.int .i64 0,.int .i64 0,.int .i64 0,.string ⟨#[]⟩,.int .i64 0,.slice none 0 0,.int .i64 0,.int .i64 0,.int .i64 0,.string ⟨#[]⟩,.int .i64 0,.slice none 0 0,.int .i64 0,.int .i64 0,.int .i64 0,.string ⟨#[]⟩,.int .i64 0,.slice none 0 0,.int .i64 0,.int .i64 0,.int .i64 0,.string ⟨#[]⟩,.int .i64 0,.slice none 0 0]
structure Ob (W:World) (l:Array Bool) (tm:Array Value) (w:World):Prop where
 one:l.getD 4 false=false->Below W.heap.size W w∧(l.getD 3 false=true->∃b,tm.getD 2 undef=.pointer (some ⟨b,0,none⟩)∧W.heap.size<=b∧w.heap[b]?=some (.cells IZ 51 (0,0)))
 two:l.getD 4 false=true->∃w1 b,tm.getD 2 undef=.pointer (some ⟨b,0,none⟩)∧Below W.heap.size W w1∧W.heap.size<=b∧w1.heap[b]?=some (.cells IZ 51 (0,0))∧w=w1.setRow b GJ.toArray
theorem Ob.quiet{W:World}{l:Array Bool}{tm:Array Value}{w w2:World}{i t:Nat}{v:Value}(h:Ob W l tm w)(n:l.getD 4 false=false)(hi:i≠4∧i≠3)(e:t≠2)(hb:Below w.heap.size w w2):Ob W (l.setIfInBounds i true) (tm.setIfInBounds t v) w2:=by
 obtain ⟨h1,h2⟩:=h.one n
 refine ⟨fun _=>⟨h1.trans (hb.mono h1.size),fun h3=>?_⟩,fun c=>by rw[Ac hi.1,n] at c;cases c⟩
 rw[Ac hi.2] at h3
 obtain ⟨b,d,f,a⟩:=h2 h3
 exact ⟨b,by rw[BS e];exact d,f,(hb.block b (ye.1 a).1).trans a⟩
def VF(j:Nat)(v:Value)(_:World):Prop:=match j with
 |0=>v=.agg #[.int .i64 1,.int .i64 1,.int .i64 3,.string ⟨#[]⟩,.int .i64 0,.slice none 0 0]
 |1=>v=.agg #[.int .i64 2,.int .i64 0,.int .i64 0,.string ⟨#[117]⟩,.int .i64 0,.slice none 0 0]
 |2=>v=.agg GJ.toArray
 |3=>∃b,v=.pointer (some ⟨b,0,none⟩)
 |_=>True
theorem QL{y:Act}{W0:World}{Q:QT}{B1:Nat}(ops:Array Oper)(n:Gs Try.f21 2=some ops)
 (D:y.tmps.getD 1 undef=.pointer (some ⟨B1,0,none⟩))(F:y.tmps.size=46)(x:B1 < W0.heap.size)(i:W0.rangeAt B1 0 [.int .i64 2,.int .i64 0,.int .i64 0,.string ⟨#[117]⟩,.int .i64 0,.slice none 0 0])
 (R:∀(a:Act) w1 b,a.tmps.size=46->a.defers=y.defers->(∀t,t∉[2,5,6,7]->a.tmps.getD t undef=y.tmps.getD t undef)->a.tmps.getD 2 undef=.pointer (some ⟨b,0,none⟩)->Below W0.heap.size W0 w1->W0.heap.size<=b->w1.heap[b]?=some (.cells IZ 51 (0,0))->Q .normal a (w1.setRow b GJ.toArray)):
  (Code.region 2 ops true).wp Try.prog Q y W0:=by
 obtain rfl:=yh ((rfl:Gs Try.f21 2=some _).symm.trans n)
 clear n
 refine DP (by kernel_rfl) (Ob W0) VF (fun _ _ _=>True) (by kernel_rfl) (by rw[F];kernel_rfl) (by kernel_rfl) (fun _ j v w w' _ _ _ h=>by unfold VF at h ⊢;exact h) ⟨fun _=>⟨(yg _ _).drew,fun h=>(by cases h)⟩,fun h=>(by cases h)⟩ ?_ ?_
 ·intro U c a w' hM f o m
  have q:=yb hM.ext
  have G:=(ye.1 m).1
  have r:=hM.size
  match U,G with
  |0,_=>
   have g:c.getD 4 false=false:=by
    rw[yj];intro h6
    have:=A3 hM.down 6 4 0 (by kernel_rfl) h6
    rw[hM.not_yet f] at this;cases this
   have l:=yb g
   clear g i
   obtain rfl:=yh m
   go_simp
   refine (Lf 1 3 _).mono ?_
   rintro e w2 ⟨rfl,B⟩
   exact ⟨_,rfl,q.o.quiet l.o (by decide) (by decide) B,trivial,rfl⟩
  |1,_=>
   have g:c.getD 4 false=false:=by
    rw[yj];intro h6
    have:=A3 hM.down 6 4 1 (by kernel_rfl) h6
    rw[hM.not_yet f] at this;cases this
   have l:=yb g
   clear g
   have d:=hM.old f 1 (by kernel_rfl) _ D
   have C:=yb (A2 i ((q.o.one l.o).1.block _ x))
   clear i
   obtain rfl:=yh m
   refine wp_load_mid 26 _ rfl B1 0 (by simpa[Act.eval] using d) _ _ C.o qD rfl (by kernel_rfl) ?_
   exact ⟨_,rfl,q.o.quiet l.o (by decide) (by decide) (yg _ _),trivial,rfl⟩
  |2,_=>
   have g:c.getD 4 false=false:=by
    rw[yj];intro h6
    have:=A3 hM.down 6 4 2 (by kernel_rfl) h6
    rw[hM.not_yet f] at this;cases this
   have l:=yb g
   clear g
   have K:=hM.dep f 0 5 (by kernel_rfl) (by kernel_rfl)
   have J:=hM.dep f 1 6 (by kernel_rfl) (by kernel_rfl)
   unfold VF at K J
   simp only at K J
   clear i
   obtain rfl:=yh m
   go_simp
   exact ⟨_,rfl,q.o.quiet l.o (by decide) (by decide) (yg _ _),trivial,rfl⟩
  |3,_=>
   have g:c.getD 4 false=false:=by
    rw[yj];intro h6
    have:=A3 hM.down 6 4 3 (by kernel_rfl) h6
    rw[hM.not_yet f] at this;cases this
   have l:=yb g
   clear g
   have I:Hid (3 < c.size):=yb (by rw[r];show 3 < 5;omega)
   have M:Hid (2 < a.tmps.size):=yb (by rw[hM.tmps,F];decide)
   clear i
   obtain rfl:=yh m
   go_simp
   refine ⟨_,rfl,⟨fun _=>⟨(q.o.one l.o).1.alloc (q.o.one l.o).1.size _,fun _=>⟨w'.heap.size,?_,(q.o.one l.o).1.size,World.alloc_heap_new _ _⟩⟩,fun h4=>?_⟩,trivial,_,rfl⟩
   ·show (a.put (some 2) (pV w'.heap.size 0)).tmps.getD 2 undef=_
    exact AZ _ M.o
   ·rw[Ac (by decide),l.o] at h4;cases h4
  |4,_=>
   have g:=hM.not_yet f
   have V:c.getD 3 false=true:=hM.came f 3 (by kernel_rfl)
   obtain ⟨hb,h3⟩:=q.o.one g
   obtain ⟨b,E,A,u⟩:=h3 V
   have H:=hM.dep f 2 7 (by kernel_rfl) (by kernel_rfl)
   unfold VF at H
   simp only at H
   have I:Hid (4 < c.size):=yb (by rw[r];show 4 < 5;omega)
   have z:=E
   rw[yH] at E
   refine wp_store_row 51 (.tmp 2) (.tmp 7) (by obtain rfl:=yh m;rfl) b GJ.toArray (by simpa[Act.eval] using E) (by simpa[Act.eval] using H) 51 IZ u (by kernel_rfl) (by kernel_rfl) (by simp[GJ,Value.oneCell']) ?_
   obtain rfl:=yh m
   refine ⟨undef,rfl,⟨fun h6=>?_,fun _=>⟨w',b,z,hb,A,u,rfl⟩⟩,trivial,trivial⟩
   simp[I.o] at h6
 ·intro c a w' s hM
  obtain ⟨w1,b,L,S,N,T,rfl⟩:=hM.ext.two (s 4 (show 4 < 5 by omega))
  refine R a w1 b (hM.tmps.trans F) hM.defers (fun t O=>hM.free t fun W P o m hd=>O ?_) L S N T
  have hs:=NU (ops:=(Try.f21.body.bind (Eg 2)).getD #[]) (p:=fun o=>match o.dst with|some k=>decide (k∈[2,5,6,7])|none=>true) (by kernel_rfl) m
  rw[hd] at hs
  exact yy hs
theorem Ns(w:World):Calls Try.prog 21 #[] w fun e w'=>∃cells:Array Value,e=.returned (.agg cells)∧cells.size=26∧Below w.heap.size w w'∧AI w.heap.size 37 (.agg cells) w':=by
 go_enter Try.func21,Try.ntmps21
 go_wp2_with fail
 have O:Hid (∀(cells:Array Value) (U:World),AI w.heap.size 37 (.agg cells) U->cells.size=26):=yb (fun cells U h=>by
  unfold AI at h
  simp only at h
  obtain ⟨_,_,_,_,_,_,_,_,_,h,_⟩:=h
  cases h;rfl)
 refine QL (B1:=w.heap.size+1) _ ?_ ?_ ?_ ?_ ?_ ?_
 ·rfl
 ·rfl
 ·rfl
 ·simp
 ·have h:=yU (World.alloc_heap_new (w.alloc (.cells A5.toArray 35)) (.cells #[iV 2,iV 0,iV 0,.string ⟨#[117]⟩,iV 0,.slice none 0 0] 26)) 0 6
  rw[zB] at h
  exact h
 ·intro a w1 b i g f K hb x u
  have e:a={tmps:=#[pV w.heap.size 0,pV (w.heap.size+1) 0,(a.tmps.getD 2 undef),.agg #[.string ⟨#[117]⟩,iV 0],.agg #[iV 2,iV 0,iV 0,.string ⟨#[117]⟩,iV 0,.slice none 0 0],(a.tmps.getD 5 undef),(a.tmps.getD 6 undef),(a.tmps.getD 7 undef),undef,undef,undef,undef,undef,undef,undef,undef,undef,undef,undef,undef,undef,undef,undef,undef,undef,undef,undef,undef,undef,undef,undef,undef,undef,undef,undef,undef,undef,undef,undef,undef,undef,undef,undef,undef,undef,undef],defers:=[]}:=(KX [2,5,6,7] (i.trans rfl) g (fun t Q=>f t Q)).trans (by kernel_rfl)
  rw[K] at e
  obtain ⟨v5,v6,L,rfl⟩:∃v5 v6 L:Value,a={tmps:=#[pV w.heap.size 0,pV (w.heap.size+1) 0,pV b 0,.agg #[.string ⟨#[117]⟩,iV 0],.agg #[iV 2,iV 0,iV 0,.string ⟨#[117]⟩,iV 0,.slice none 0 0],v5,v6,L,undef,undef,undef,undef,undef,undef,undef,undef,undef,undef,undef,undef,undef,undef,undef,undef,undef,undef,undef,undef,undef,undef,undef,undef,undef,undef,undef,undef,undef,undef,undef,undef,undef,undef,undef,undef,undef,undef],defers:=[]}:=⟨_,_,_,e⟩
  clear e i g f K
  have E:((w.alloc (.cells A5.toArray 35)).alloc (.cells #[iV 2,iV 0,iV 0,.string ⟨#[117]⟩,iV 0,.slice none 0 0] 26)).heap.size=w.heap.size+2:=by simp
  have s:Below ((w.alloc (.cells A5.toArray 35)).alloc (.cells #[iV 2,iV 0,iV 0,.string ⟨#[117]⟩,iV 0,.slice none 0 0] 26)).heap.size ((w.alloc (.cells A5.toArray 35)).alloc (.cells #[iV 2,iV 0,iV 0,.string ⟨#[117]⟩,iV 0,.slice none 0 0] 26)) w1:=hb
  have q:w.heap.size+2<=b:=by rw[<-E];exact x
  have C:=(ye.1 u).1
  have D:w1.heap[w.heap.size]?=some (.cells A5.toArray 35 (0,0)):=by
   rw[s.block _ (by omega),yF _ _ _ (by simp)]
   exact World.alloc_heap_new _ _
  have A:Below w.heap.size w w1:=(((yg _ _).alloc (yf _) _).alloc (by simp) _).trans (s.mono (by omega))
  have H:=yb (show (w1.setRow b GJ.toArray).heap.size=w1.heap.size from Gn _ _ _)
  have I:=yb u;have z:=yb D;have j:=yb A;have l:Hid (w.heap.size+2<=b∧b < w1.heap.size):=yb ⟨q,C⟩
  clear hb x u E s q C D A
  go_wp2_with fail
  refine QK (B:=w.heap.size) (B2:=b) (row0:=A5.toArray) _ ?_ ?_ ?_ ?_ ?_ ?_ ?_ ?_ ?_ ?_
  ·rfl
  ·rfl
  ·rfl
  ·rfl
  ·rw[H.o];have:=l.o;omega
  ·rw[H.o];exact l.o.2
  ·rw[Dq _ _ (by have:=l.o;omega)];exact z.o
  ·rfl
  ·have h:=yU (setRow_heap w1 b _ GJ.toArray _ _ I.o) 0 GJ.length
   simpa using h
  ·intro a w2 cells i g f J c
   obtain ⟨tm,N⟩:=a
   obtain rfl:N=[]:=g
   have h0:tm.getD 0 undef=pV w.heap.size 0:=(f 0 (by omega)).trans rfl
   have v:=O.o cells w2 J
   have F:=H.o
   have G:=l.o
   have n:w2.heap[w.heap.size]?=some (.cells A5.toArray 35 (0,0)):=by
    rw[c.block _ (by omega),Dq _ _ (by omega)];exact z.o
   have p:=setRow_heap w2 w.heap.size _ cells _ _ n
   have d:(w2.setRow w.heap.size cells).rangeAt w.heap.size 0 cells.toList:=by
    have h:=yU p 0 cells.toList.length
    simpa using h
   have r:Below w.heap.size w (w2.setRow w.heap.size cells):=by
    refine ⟨c.os.trans j.o.os,c.tape.trans j.o.tape,c.output.trans j.o.output,?_,fun k hk=>?_⟩
    ·have:=c.size;rw[Gn];omega
    ·rw[Dq _ _ (by omega),c.block _ (by omega),Dq _ _ (by omega)];exact j.o.block k hk
   have y:AI w.heap.size 37 (.agg cells) (w2.setRow w.heap.size cells):=Nr _ _ _ _ (fun k o hk M=>by rw[Dq _ _ (by omega)];exact M) J
   have hl:=qg (P:=Try.prog) (w2.setRow w.heap.size cells) w.heap.size 0 35 cells.toList _ d qM rfl (by rw[Array.length_toList,v];kernel_rfl)
   rw[Array.toArray_toList] at hl
   have m:Hid (bodyPost Try.prog Try.f21 (fun e w'=>∃cells:Array Value,e=.returned (.agg cells)∧cells.size=26∧Below w.heap.size w w'∧AI w.heap.size 37 (.agg cells) w') .ret {tmps:=tm,defers:=[]} (w2.setRow w.heap.size cells)):=yb ⟨rfl,_,Hk rfl h0 hl,cells,rfl,v,r,y⟩
   clear h0 v n p d r y hl J c i f F G
   first
   |exact m.o
   |(go_wp2;exact m.o)
   |fail
def DY:Ex:=.mk 0 0 0 ⟨#[]⟩ 0 []
def Mx(n u:Int):Ex:=.mk 1 n u ⟨#[]⟩ 0 []
def Uz(s:ByteArray):Ex:=.mk 2 0 0 s 0 []
def bT:ByteArray:=⟨#[116]⟩
def bU:ByteArray:=⟨#[117]⟩
def UB:ByteArray:=⟨#[99,111,114,110]⟩
def Nt:ByteArray:=⟨#[114,105,99,101]⟩
def JT:ByteArray:=⟨#[104,101,97,100]⟩
def Gd:ByteArray:=⟨#[116,97,105,108]⟩
def SV:ByteArray:=⟨#[97,110,97]⟩
def Oc:ByteArray:=⟨#[98,101,97]⟩
def QM:ByteArray:=⟨#[116,117,114,110,115]⟩
def UC:ByteArray:=⟨#[109,105,110,101]⟩
def QN:ByteArray:=⟨#[99,108,101,97,110]⟩
def Nu:ByteArray:=⟨#[118,101,103,97]⟩
def UD:ByteArray:=⟨#[114,105,118,101,114]⟩
def bC:ByteArray:=⟨#[99]⟩
def bN:ByteArray:=⟨#[]⟩
def EF:Am:=
 {name:=Nu,season:=Mx 2 4,cap:=DY,start:=DY,lets:=[⟨bT,Mx 3 1⟩,⟨bU,.mk 3 0 0 bN 0 [Uz bT,Mx 1 1]⟩],crops:=[⟨UB,DY⟩,⟨Nt,DY⟩],
  reaches:=[⟨JT,⟨bN,0⟩,Mx 1 3,Uz bU,DY,DY,DY,DY,DY,DY⟩,⟨Gd,⟨JT,0⟩,DY,DY,DY,DY,DY,DY,DY,DY⟩],
  farms:=[⟨SV,⟨Gd,0⟩,false,DY,⟨Nt,0⟩⟩,⟨Oc,⟨JT,0⟩,true,DY,⟨bN,0⟩⟩],rots:=[⟨QM,⟨Gd,0⟩,0,DY,DY,DY,[⟨⟨SV,0⟩,DY⟩]⟩],
  rights:=[⟨2,UC,⟨Oc,0⟩,⟨Gd,0⟩,0,DY,DY,DY,DY,DY⟩],duties:=[⟨QN,⟨Oc,0⟩,⟨Gd,0⟩,DY⟩]}
def DE(nm:ByteArray)(crops:List Br):Am:={name:=nm,season:=DY,cap:=DY,start:=DY,lets:=[],crops:=crops,reaches:=[],farms:=[],rots:=[],rights:=[],duties:=[]}
theorem WC:Ay (DE bN [])=170:=by kernel_rfl
theorem WD:Ay (DE UD [])=170:=by kernel_rfl
theorem WE:Ay (DE Nu [⟨bC,DY⟩,⟨bC,DY⟩])=171:=by kernel_rfl
theorem UE:Ay EF=0:=by kernel_rfl
theorem WG:FC EF=170:=by kernel_rfl
theorem BV{w:World}{g:Nat}{row:Array Value}{ty:TypeId}(c:w.heap[g]?=some (.cells row ty (0,0)))(o:Nat){cs:LV}(h:(row.toList.drop o).take cs.length=cs):w.rangeAt g o cs:=fun j v a=>by
 have b:=(yA.1 a).1
 rw[<-h,zJ,yw b,List.getElem?_drop] at a
 simp only[World.cell?,c]
 simpa using a
def Ge(op n u:Int)(rn:ByteArray)(ri:Int):LV:=[.int .i64 op,.int .i64 n,.int .i64 u,.string rn,.int .i64 ri,.slice none 0 0]
section
variable{N:NP}{w:World}
theorem Hy(op n u:Int)(rn:ByteArray)(ri:Int)(h:rn.size<=maxLen):AS N w (.mk op n u rn ri []) (Ge op n u rn ri):=by
 rw[AS];exact ⟨none,0,rfl,by simp,h,by rw[DK];trivial⟩
theorem SW:AS N w DY (Ge 0 0 0 bN 0):=Hy 0 0 0 bN 0 (yy (by kernel_rfl))
theorem mx(s:ByteArray)(h:s.size<=1000):s.size<=maxLen:=yl h (by unfold maxLen;omega)
theorem J0{α:Type}{sz:Nat}{P:LV->α->Prop}:Av N w sz P ⟨none,0,0⟩ []:=⟨rfl,by simp,fun i hi=>absurd hi (by simp)⟩
end
def QO(c:Ai):Bw:={s:=0,lets:=⟨none,0,0⟩,crops:=c,reaches:=⟨none,0,0⟩,farms:=⟨none,0,0⟩,rots:=⟨none,0,0⟩,rights:=⟨none,0,0⟩,duties:=⟨none,0,0⟩,turns:=[]}
def Od(nm:ByteArray)(c:Ai):LV:=.string nm::(Ge 0 0 0 bN 0++(Ge 0 0 0 bN 0++(Ge 0 0 0 bN 0++[.slice none 0 0,c.v,.slice none 0 0,.slice none 0 0,.slice none 0 0,.slice none 0 0,.slice none 0 0])))
theorem Nv{N:NP}{w:World}{nm:ByteArray}{c:Ai}{l:List Br}(a:nm.size<=1000)(b:Av N w 7 (DZ N w) c l):Bb N w (QO c) (Od nm c) (DE nm l):=
 ⟨mx _ a,⟨_,_,_,rfl,SW,SW,SW⟩,J0,b,J0,J0,⟨rfl,yC _,fun i hi=>absurd hi (by simp[DE])⟩,J0,J0⟩
theorem Nw{B:Nat}{w:World}{cells:Array Value}(h:AI B 37 (.agg cells) w):∃(L:Bw) (cs:LV),cells=cs.toArray∧Bb (fun b=>B < b∧b < w.heap.size) w L cs EF:=by
 unfold AI at h
 simp only at h
 obtain ⟨n,e,m,a,l,p,r,q,s,h0,o,f,d,j,c,v,u,x,t⟩:=h
 have hN:∀ {g:Nat} {row:Array Value} {ty:TypeId},Bk B w g row ty->B < g∧g < w.heap.size:=fun h=>⟨h.1,(ye.1 h.2).1⟩
 have z:∀ {N:NP},AS N w DY (Ge 0 0 0 bN 0):=SW
 refine ⟨⟨0,⟨some (aV e 0),2,2⟩,⟨some (aV m 0),2,2⟩,⟨some (aV a 0),2,2⟩,⟨some (aV l 0),2,2⟩,⟨some (aV r 0),1,1⟩,⟨some (aV q 0),1,1⟩,⟨some (aV s 0),1,1⟩,[⟨some (aV p 0),1,1⟩]⟩,
  .string Nu::(Ge 1 2 4 bN 0++(Ge 0 0 0 bN 0++(Ge 0 0 0 bN 0++[.slice (some (aV e 0)) 2 2,.slice (some (aV m 0)) 2 2,.slice (some (aV a 0)) 2 2,.slice (some (aV l 0)) 2 2,.slice (some (aV r 0)) 1 1,.slice (some (aV q 0)) 1 1,.slice (some (aV s 0)) 1 1]))),?_,?_⟩
 ·cases h0;rfl
 clear h0
 refine ⟨mx _ (yy rfl),⟨Ge 1 2 4 bN 0,Ge 0 0 0 bN 0,Ge 0 0 0 bN 0,rfl,Hy 1 2 4 bN 0 (mx _ (yy rfl)),z,z⟩,⟨rfl,by simp[EF],fun i hi=>?_⟩,⟨rfl,by simp[EF],fun i hi=>?_⟩,⟨rfl,by simp[EF],fun i hi=>?_⟩,⟨rfl,by simp[EF],fun i hi=>?_⟩,⟨rfl,by simp[EF],fun i hi=>?_⟩,⟨rfl,by simp[EF],fun i hi=>?_⟩,⟨rfl,by simp[EF],fun i hi=>?_⟩⟩
 ·match i,hi with
  |0,_=>exact ⟨e,0,.string bT::Ge 1 3 1 bN 0,rfl,hN f,rfl,BV f.2 _ rfl,mx _ (yy rfl),_,rfl,Hy 1 3 1 bN 0 (mx _ (yy rfl))⟩
  |1,_=>
   refine ⟨e,0,.string bU::[iV 3,iV 0,iV 0,.string bN,iV 0,.slice (some (aV n 0)) 2 2],rfl,hN f,rfl,BV f.2 _ rfl,mx _ (yy rfl),_,rfl,?_⟩
   show AS _ w (.mk 3 0 0 bN 0 [Uz bT,Mx 1 1]) _
   rw[AS]
   refine ⟨some (aV n 0),2,rfl,by simp,mx _ (yy rfl),?_⟩
   rw[DK,DK,DK]
   exact ⟨⟨n,0,Ge 2 0 0 bT 0,rfl,hN o,BV o.2 _ rfl,Hy 2 0 0 bT 0 (mx _ (yy rfl))⟩,⟨n,0,Ge 1 1 1 bN 0,rfl,hN o,BV o.2 _ rfl,Hy 1 1 1 bN 0 (mx _ (yy rfl))⟩,trivial⟩
 ·match i,hi with
  |0,_=>exact ⟨m,0,.string UB::Ge 0 0 0 bN 0,rfl,hN d,rfl,BV d.2 _ rfl,mx _ (yy rfl),_,rfl,z⟩
  |1,_=>exact ⟨m,0,.string Nt::Ge 0 0 0 bN 0,rfl,hN d,rfl,BV d.2 _ rfl,mx _ (yy rfl),_,rfl,z⟩
 ·match i,hi with
  |0,_=>exact ⟨a,0,.string JT::(An ⟨bN,0⟩++(Ge 1 1 3 bN 0++(Ge 2 0 0 bU 0++(Ge 0 0 0 bN 0++(Ge 0 0 0 bN 0++(Ge 0 0 0 bN 0++(Ge 0 0 0 bN 0++(Ge 0 0 0 bN 0++Ge 0 0 0 bN 0)))))))),rfl,hN j,rfl,BV j.2 _ rfl,mx _ (yy rfl),mx _ (yy rfl),_,_,_,_,_,_,_,_,rfl,Hy 1 1 3 bN 0 (mx _ (yy rfl)),Hy 2 0 0 bU 0 (mx _ (yy rfl)),z,z,z,z,z,z⟩
  |1,_=>exact ⟨a,0,.string Gd::(An ⟨JT,0⟩++(Ge 0 0 0 bN 0++(Ge 0 0 0 bN 0++(Ge 0 0 0 bN 0++(Ge 0 0 0 bN 0++(Ge 0 0 0 bN 0++(Ge 0 0 0 bN 0++(Ge 0 0 0 bN 0++Ge 0 0 0 bN 0)))))))),rfl,hN j,rfl,BV j.2 _ rfl,mx _ (yy rfl),mx _ (yy rfl),_,_,_,_,_,_,_,_,rfl,z,z,z,z,z,z,z,z⟩
 ·match i,hi with
  |0,_=>exact ⟨l,0,.string SV::(An ⟨Gd,0⟩++(.bool false::(Ge 0 0 0 bN 0++An ⟨Nt,0⟩))),rfl,hN c,rfl,BV c.2 _ rfl,mx _ (yy rfl),mx _ (yy rfl),mx _ (yy rfl),_,rfl,z⟩
  |1,_=>exact ⟨l,0,.string Oc::(An ⟨JT,0⟩++(.bool true::(Ge 0 0 0 bN 0++An ⟨bN,0⟩))),rfl,hN c,rfl,BV c.2 _ rfl,mx _ (yy rfl),mx _ (yy rfl),mx _ (yy rfl),_,rfl,z⟩
 ·match i,hi with
  |0,_=>
   refine ⟨r,0,.string QM::(An ⟨Gd,0⟩++(iV 0::(Ge 0 0 0 bN 0++(Ge 0 0 0 bN 0++(Ge 0 0 0 bN 0++[.slice (some (aV p 0)) 1 1]))))),rfl,hN u,rfl,BV u.2 _ rfl,mx _ (yy rfl),mx _ (yy rfl),_,_,_,rfl,z,z,z,rfl,by simp[EF],fun k hk=>?_⟩
   match k,hk with
   |0,_=>exact ⟨p,0,An ⟨SV,0⟩++Ge 0 0 0 bN 0,rfl,hN v,rfl,BV v.2 _ rfl,mx _ (yy rfl),_,rfl,z⟩
 ·match i,hi with
  |0,_=>exact ⟨q,0,iV 2::.string UC::(An ⟨Oc,0⟩++(An ⟨Gd,0⟩++(iV 0::(Ge 0 0 0 bN 0++(Ge 0 0 0 bN 0++(Ge 0 0 0 bN 0++(Ge 0 0 0 bN 0++Ge 0 0 0 bN 0))))))),rfl,hN x,rfl,BV x.2 _ rfl,mx _ (yy rfl),mx _ (yy rfl),mx _ (yy rfl),_,_,_,_,_,rfl,z,z,z,z,z⟩
 ·match i,hi with
  |0,_=>exact ⟨s,0,.string QN::(An ⟨Oc,0⟩++(An ⟨Gd,0⟩++Ge 0 0 0 bN 0)),rfl,hN t,rfl,BV t.2 _ rfl,mx _ (yy rfl),mx _ (yy rfl),mx _ (yy rfl),_,rfl,z⟩
def FD:Am:=
 {name:=Nu,season:=Mx 2 4,cap:=DY,start:=DY,lets:=[⟨bT,Mx 3 1⟩,⟨bU,.mk 3 0 0 bN 0 [Uz bT,Mx 1 1]⟩],crops:=[⟨UB,DY⟩,⟨Nt,DY⟩],
  reaches:=[⟨JT,⟨bN,0⟩,Mx 1 3,.mk 2 0 0 bU 1 [],DY,DY,DY,DY,DY,DY⟩,⟨Gd,⟨JT,0⟩,DY,DY,DY,DY,DY,DY,DY,DY⟩],
  farms:=[⟨SV,⟨Gd,1⟩,false,DY,⟨Nt,1⟩⟩,⟨Oc,⟨JT,0⟩,true,DY,⟨bN,0⟩⟩],rots:=[⟨QM,⟨Gd,1⟩,0,DY,DY,DY,[⟨⟨SV,0⟩,DY⟩]⟩],
  rights:=[⟨2,UC,⟨Oc,1⟩,⟨Gd,1⟩,0,DY,DY,DY,DY,DY⟩],duties:=[⟨QN,⟨Oc,1⟩,⟨Gd,1⟩,DY⟩]}
theorem SX:Ab EF=FD:=by kernel_rfl
structure RP (w:World) (B:Nat) (b1 o1 c1 b2 o2 c2 b3 o3 c3 b4 o4 c4 b5 o5 c5 b6 o6 c6 b7 o7 c7 b8 o8 c8:Nat):Prop where
 lets:w.cell? ⟨B,19,none⟩=some (.slice (some ⟨b1,o1,none⟩) 2 c1)
 args:w.cell? ⟨b1,o1+7+1+5,none⟩=some (.slice (some ⟨b2,o2,none⟩) 2 c2)
 arg0:w.cell? ⟨b2,o2+3+1,none⟩=some (.int .i64 0)
 reaches:w.cell? ⟨B,21,none⟩=some (.slice (some ⟨b3,o3,none⟩) 2 c3)
 cap:w.cell? ⟨b3,o3+9+3+1,none⟩=some (.int .i64 1)
 farms:w.cell? ⟨B,22,none⟩=some (.slice (some ⟨b4,o4,none⟩) 2 c4)
 on0:w.cell? ⟨b4,o4+1+1,none⟩=some (.int .i64 1)
 crop0:w.cell? ⟨b4,o4+10+1,none⟩=some (.int .i64 1)
 on1:w.cell? ⟨b4,o4+12+1+1,none⟩=some (.int .i64 0)
 rots:w.cell? ⟨B,23,none⟩=some (.slice (some ⟨b5,o5,none⟩) 1 c5)
 turns:w.cell? ⟨b5,o5+22,none⟩=some (.slice (some ⟨b6,o6,none⟩) 1 c6)
 turn0:w.cell? ⟨b6,o6+1,none⟩=some (.int .i64 0)
 rights:w.cell? ⟨B,24,none⟩=some (.slice (some ⟨b7,o7,none⟩) 1 c7)
 right0:w.cell? ⟨b7,o7+2+1,none⟩=some (.int .i64 1)
 duties:w.cell? ⟨B,25,none⟩=some (.slice (some ⟨b8,o8,none⟩) 1 c8)
 duty0:w.cell? ⟨b8,o8+3+1,none⟩=some (.int .i64 1)
theorem PL{N:NP}{w:World}{L:Bw}{cs:LV}{B:Nat}(h:Bb N w L cs FD)(hr:w.rangeAt B 0 cs):∃b1 o1 c1 b2 o2 c2 H E c3 u y c4 g i c5 b6 G c6 b7 r c7 A s c8:Nat,RP w B b1 o1 c1 b2 o2 c2 H E c3 u y c4 g i c5 b6 G c6 b7 r c7 A s c8:=by
 have hc:=h.at
 have a:∀ {q:Nat} {v:Value},cs[q]?=some v->w.cell? (aV B q)=some v:=fun {q v} hq=>by have:=hr q v hq;rwa [yB] at this
 obtain ⟨n1,_,r1⟩:=h.lets
 obtain ⟨n3,_,r3⟩:=h.reaches
 obtain ⟨n4,_,S⟩:=h.farms
 obtain ⟨n5,_,r5⟩:=h.rots
 obtain ⟨n7,_,r7⟩:=h.rights
 obtain ⟨X,_,r8⟩:=h.duties
 have C:=a hc.lets;have x:=a hc.reaches;have I:=a hc.farms;have t:=a hc.rots;have n:=a hc.rights;have z:=a hc.duties
 unfold Ai.v at C x I t n z
 obtain ⟨b1,o1,q1,e1,_,_,g1,_,t1,rfl,l⟩:=r1 1 (show 1 < 2 by omega)
 have l:AS N w (.mk 3 0 0 bN 0 [Uz bT,Mx 1 1]) t1:=l
 rw[AS] at l
 obtain ⟨a2,c2,rfl,_,_,d⟩:=l
 rw[DK] at d
 obtain ⟨⟨b2,o2,Y,rfl,_,Q,d⟩,_⟩:=d
 have d:AS N w (.mk 2 0 0 bT 0 []) Y:=d
 rw[AS] at d
 obtain ⟨_,_,rfl,_⟩:=d
 obtain ⟨H,E,q3,e3,_,_,M,_,_,x0,x1,x2,x3,x4,x5,x6,x7,rfl,m,j,_⟩:=r3 0 (show 0 < 2 by omega)
 have m:AS N w (.mk 1 1 3 bN 0 []) x0:=m
 have j:AS N w (.mk 2 0 0 bU 1 []) x1:=j
 rw[AS] at m j
 obtain ⟨_,_,rfl,_⟩:=m
 obtain ⟨_,_,rfl,_⟩:=j
 obtain ⟨u,y,q4,K,_,_,D,_,_,_,x8,rfl,k⟩:=S 0 (show 0 < 2 by omega)
 have k:AS N w (.mk 0 0 0 bN 0 []) x8:=k
 rw[AS] at k
 obtain ⟨_,_,rfl,_⟩:=k
 obtain ⟨a1,a6,a0,f,_,_,e,_,_,_,x9,rfl,_⟩:=S 1 (show 1 < 2 by omega)
 rw[K] at f
 cases f
 obtain ⟨g,i,q5,Z,_,_,R,_,_,V,O,U,rfl,w0,w1,w2,n6,_,r6⟩:=r5 0 (show 0 < 1 by omega)
 have l0:=w0.len;have l1:=w1.len;have l2:=w2.len
 obtain ⟨b6,G,q6,e6,_,_,P,_,z3,rfl,_⟩:=r6 0 (show 0 < 1 by omega)
 obtain ⟨b7,r,q7,e7,_,_,J,_,_,_,_,_,_,_,_,rfl,_⟩:=r7 0 (show 0 < 1 by omega)
 obtain ⟨A,s,q8,e8,_,_,W,_,_,_,_,rfl,_⟩:=r8 0 (show 0 < 1 by omega)
 rw[n1,e1] at C;rw[n3,e3] at x;rw[n4,K] at I;rw[n5,Z] at t;rw[n7,e7] at n;rw[X,e8] at z
 simp only[Nat.zero_mul,qm,qt] at g1 Q M D e R P J W
 have T:=AO (p:=.string (FD.rots[0]'(show 0 < 1 by omega)).name::(An (FD.rots[0]'(show 0 < 1 by omega)).on++(iV (FD.rots[0]'(show 0 < 1 by omega)).rank::(V++(O++U))))) (c:=[(A4 L 0).v]) (q:=[]) (o:=i) (b:=g) (w:=w) (by simpa using R)
 have hl:(Value.string (FD.rots[0]'(show 0 < 1 by omega)).name::(An (FD.rots[0]'(show 0 < 1 by omega)).on++(iV (FD.rots[0]'(show 0 < 1 by omega)).rank::(V++(O++U))))).length=22:=by simp[A8,l0,l1,l2]
 rw[hl] at T
 have F:=T 0 _ rfl
 unfold Ai.v at F
 rw[n6,e6] at F
 exact ⟨b1,o1,_,b2,o2,c2,H,E,_,u,y,_,g,i,_,b6,G,_,b7,r,_,A,s,_,C,g1 6 _ rfl,Q 4 _ rfl,x,M 13 _ rfl,I,D 2 _ rfl,D 11 _ rfl,e 2 _ rfl,t,F,P 1 _ rfl,n,J 3 _ rfl,z,W 4 _ rfl⟩
theorem EG{ops:Array Oper}{rest:List Oper}{op:Oper}{a:Act}{w:World}{Q:QT}(f:Region.wanted op (yielded ops a.tmps)=true)(ty:TypeId)(x:Operand)(c:op.op=.load ty x)
 (b o:Nat)(g:a.eval x=.pointer (some ⟨b,o,none⟩))(cs:LV)(d:TypeDesc)(hc:w.rangeAt b o cs)(i:Try.prog.underlying ty=some d)(hd:d.isRow=true)(hi:(Try.prog.info? ty).map (·.size)=some cs.length)
 (h:wpList Try.prog ops Q rest (a.put op.dst (.agg cs.toArray)) w):wpList Try.prog ops Q (op::rest) a w:=
 wpList_step fun K e=>by rw[yw f];exact wp_load_mid ty x c b o g cs d hc i hd hi (e _ _ h)
mutual
def RQ:Ex->Bool
 |.mk _ _ _ _ _ args=>decide (args.length<=100000)&&Oe args
def Oe:List Ex->Bool
 |[]=>true
 |e::r=>RQ e&&Oe r
end
mutual
theorem PM:∀e:Ex,RQ e=true->Bg e
 |.mk _ _ _ _ _ args,h=>by
  rw[RQ,yv,yW] at h
  rw[Bg];exact ⟨h.1,Nx args h.2⟩
theorem Nx:∀l:List Ex,Oe l=true->E1 l
 |[],_=>by rw[E1];trivial
 |e::r,h=>by
  rw[Oe,yv] at h
  rw[E1];exact ⟨PM e h.1,Nx r h.2⟩
end
theorem Hz{x:Am}(h:(AN x).all (fun e=>RQ e.1)=true):∀e∈AN x,Bg e.1:=fun e a=>PM _ (by rw[yO] at h;exact h e a)
theorem Ft{P:Program}{ops:Array Oper}{rest:List Oper}{o:Oper}{a:Act}{w:World}{Q:QT}(c:Region.wanted o (yielded ops a.tmps)=true)(h:∀K:Act->World->Prop,(∀a w,wpList P ops Q rest a w->K a w)->o.wp P a w K Q):wpList P ops Q (o::rest) a w:=
 wpList_step fun K b=>by rw[yw c];exact h K b
theorem Mc(nm:ByteArray)(l:List Br)(h:l.length<=2)(a:∀e∈AN (DE nm l),Bg e.1):Ih (DE nm l):=⟨by simp[DE],by simp[DE];omega,by simp[DE],by simp[DE],by simp[DE],by simp[DE],by simp[DE],by simp[DE],a⟩
theorem JU{x:Am}(h:B9 x=true):∀e∈AN x,AJ e.1<=1000000:=fun e b=>by
 obtain ⟨_,_,_,_,_,_,_,_,a⟩:=Fg h
 have:=a e b;omega
theorem Nz{w:World}(a:GV w){W:World}(hb:Below w.heap.size w W)(nm:ByteArray)(c:nm.size<=1000)(b:B9 (DE nm [])=true):Calls Try.prog 11 #[.agg (Od nm ⟨none,0,0⟩).toArray] W (FJ W (DE nm [])):=
 Ej (L:=QO ⟨none,0,0⟩) (N:=fun _=>False) (Nv c J0) (fun _ h=>h.elim) (Mc _ _ (by simp) (Hz rfl)) (a.below hb a.1) (JU b)
def UG:Array Value:=#[.string bC,.int .i64 0,.int .i64 0,.int .i64 0,.string ⟨#[]⟩,.int .i64 0,.slice none 0 0,.string bC,.int .i64 0,.int .i64 0,.int .i64 0,.string ⟨#[]⟩,.int .i64 0,.slice none 0 0]
theorem VG{w:World}(c:GV w){W W':World}{g:Nat}(hb:Below w.heap.size w W)(d:W'=W.alloc (.cells UG 57))(a:g=W.heap.size):Calls Try.prog 11 #[.agg (Od Nu ⟨some ⟨g,0,none⟩,2,2⟩).toArray] W' (FJ W' (DE Nu [⟨bC,DY⟩,⟨bC,DY⟩])):=by
 subst d a
 have hk:=World.alloc_heap_new W (.cells UG 57)
 refine Ej (L:=QO ⟨some (aV W.heap.size 0),2,2⟩) (N:=fun b=>b=W.heap.size) (Nv (yy rfl) ⟨rfl,by simp,fun i hi=>?_⟩) (fun b hb=>by rw[hb];simp) (Mc _ _ (by simp) (Hz rfl)) (c.below (hb.alloc hb.size _) c.1) (JU (by kernel_rfl))
 match i,hi with
 |0,_=>exact ⟨W.heap.size,0,.string bC::Ge 0 0 0 bN 0,rfl,rfl,rfl,BV hk _ rfl,mx _ (yy rfl),_,rfl,SW⟩
 |1,_=>exact ⟨W.heap.size,0,.string bC::Ge 0 0 0 bN 0,rfl,rfl,rfl,BV hk _ rfl,mx _ (yy rfl),_,rfl,SW⟩
theorem Md:Ih EF:=⟨by decide,by decide,by decide,by decide,by decide,by decide,by decide,by simp[EF],Hz (by kernel_rfl)⟩
theorem PN:Ih FD:=⟨by decide,by decide,by decide,by decide,by decide,by decide,by decide,by simp[FD],Hz (by kernel_rfl)⟩
theorem UH{w:World}(hg:GV w):Calls Try.prog 9 #[] w fun e w'=>e=.returned (.bool true)∧Below w.heap.size w w':=by
 have s:=yb hg
 have r:=yb (yg w.heap.size w)
 clear hg
 go_enter Try.func9,Try.ntmps9
 go_upto_region 1 with fail
 refine xi ?_
 refine yG rfl fun K a=>?_
 go_simp
 refine a _ _ ?_
 clear a K
 refine yG rfl fun K a=>?_
 go_simp
 refine (Nz s.o r.o bN (by decide) (by kernel_rfl)).mono ?_
 intro e v1 c
 obtain ⟨Z,rfl,j,d,g,i⟩:=JG c
 clear c
 rw[WC]
 refine a _ _ ?_
 clear a K
 have R:=yb j;have B:=yb (yV d);have ai:=yb i
 have u:=yb (((r.o).trans (g.mono (r.o).size)).alloc (yl (r.o).size g.size) (.cells Z.toArray 35))
 clear j d g i
 iterate 4
  refine yG rfl fun K a=>?_
  go_simp
  refine a _ _ ?_
  clear a K
 refine yZ rfl 35 _ _ rfl v1.heap.size Z.toArray rfl rfl 35 _ (World.alloc_heap_new _ _) (by rw[yD,R.o];kernel_rfl) (by simp[R.o]) B.o ?_
 rw[World.setRow_alloc_new]
 refine yG rfl fun K a=>?_
 go_simp
 refine a _ _ ?_
 clear a K
 refine xG ?_
 go_upto_region 2 with fail
 refine xi ?_
 refine yG rfl fun K a=>?_
 go_simp
 refine a _ _ ?_
 clear a K
 refine yG rfl fun K a=>?_
 go_simp
 refine (Nz s.o u.o UD (by decide) (by kernel_rfl)).mono ?_
 intro e v2 c
 obtain ⟨S,rfl,j,d,g,i⟩:=JG c
 clear c
 rw[WD]
 refine a _ _ ?_
 clear a K
 have W:=yb j;have J:=yb (yV d);have ah:=yb i
 have m:=yb (((u.o).trans (g.mono (u.o).size)).alloc (yl (u.o).size g.size) (.cells S.toArray 35))
 clear j d g i
 iterate 4
  refine yG rfl fun K a=>?_
  go_simp
  refine a _ _ ?_
  clear a K
 refine yZ rfl 35 _ _ rfl v2.heap.size S.toArray rfl rfl 35 _ (World.alloc_heap_new _ _) (by rw[yD,W.o];kernel_rfl) (by simp[W.o]) J.o ?_
 rw[World.setRow_alloc_new]
 refine yG rfl fun K a=>?_
 go_simp
 refine a _ _ ?_
 clear a K
 refine xG ?_
 go_upto_region 3 with fail
 refine xi ?_
 iterate 4
  refine yG rfl fun K a=>?_
  go_simp
  refine a _ _ ?_
  clear a K
 refine yG rfl fun K a=>?_
 go_simp
 refine (VG s.o m.o rfl (by simp)).mono ?_
 intro e v3 c
 obtain ⟨a2,rfl,j,d,g,i⟩:=JG c
 clear c
 rw[WE]
 refine a _ _ ?_
 clear a K
 have Q:=yb j;have C:=yb (yV d);have aj:=yb i
 have P:=yb ((((m.o.alloc m.o.size (.cells UG 57))).trans (g.mono ((m.o.alloc m.o.size (.cells UG 57))).size)).alloc (yl ((m.o.alloc m.o.size (.cells UG 57))).size g.size) (.cells a2.toArray 35))
 clear j d g i
 iterate 4
  refine yG rfl fun K a=>?_
  go_simp
  refine a _ _ ?_
  clear a K
 refine yZ rfl 35 _ _ rfl v3.heap.size a2.toArray rfl rfl 35 _ (World.alloc_heap_new _ _) (by rw[yD,Q.o];kernel_rfl) (by simp[Q.o]) C.o ?_
 rw[World.setRow_alloc_new]
 refine yG rfl fun K a=>?_
 go_simp
 refine a _ _ ?_
 clear a K
 refine xG ?_
 go_upto_region 4 with fail
 refine xi ?_
 refine yG rfl fun K a=>?_
 go_simp
 refine (Ns _).mono ?_
 rintro e w4 ⟨cells,rfl,q,a6,T⟩
 obtain ⟨L4,ap,rfl,a7⟩:=Nw T
 have x:=yb (P.o.trans (a6.mono P.o.size))
 have ae:=yb a7
 clear q a6 T a7
 refine a _ _ ?_
 clear a K
 refine yG rfl fun K a=>?_
 go_simp
 refine (Ej ae.o (fun b hb=>hb.2) Md (s.o.below x.o s.o.1) (JU (by kernel_rfl))).mono ?_
 intro e v4 c
 obtain ⟨f,rfl,j,d,g,i⟩:=JG c
 clear c
 rw[UE]
 refine a _ _ ?_
 clear a K
 have z:=yb j;have E:=yb (yV d);have Y:=yb i
 have I:=yb (((x.o).trans (g.mono (x.o).size)).alloc (yl (x.o).size g.size) (.cells f.toArray 35))
 clear j d g i
 iterate 4
  refine yG rfl fun K a=>?_
  go_simp
  refine a _ _ ?_
  clear a K
 refine yZ rfl 35 _ _ rfl v4.heap.size f.toArray rfl rfl 35 _ (World.alloc_heap_new _ _) (by rw[yD,z.o];kernel_rfl) (by simp[z.o]) E.o ?_
 rw[World.setRow_alloc_new]
 refine yG rfl fun K a=>?_
 go_simp
 refine a _ _ ?_
 clear a K
 refine xG ?_
 obtain ⟨L5,N5,s5,n5⟩:=Y.o UE
 rw[SX] at s5
 have N:Below v4.heap.size v4 (v4.alloc (.cells f.toArray 35)):=(yg _ _).alloc (yf _) _
 have F:Bb N5 (v4.alloc (.cells f.toArray 35)) L5 f FD:=s5.same (fun _ h=>h) (fun b hb=>N.block b (n5 b hb).2)
 have H:(v4.alloc (.cells f.toArray 35)).rangeAt v4.heap.size 0 f:=by
  have h:=yU (World.alloc_heap_new v4 (.cells f.toArray 35)) 0 f.length
  simpa using h
 obtain ⟨b1,o1,c1,b2,o2,c2,b3,o3,c3,b4,o4,c4,b5,o5,c5,b6,o6,c6,b7,o7,c7,b8,o8,c8,k⟩:=PL F H
 have aa:=yb (Nq F (fun b hb=>by have:=(n5 b hb).2;simp;omega) PN (s.o.below I.o s.o.1) (JU (by kernel_rfl)))
 have ac:=yb H;have HF:=yb k
 have ag:Hid ((Try.prog.info? 35).map (·.size)=some f.length):=yb (by rw[z.o];kernel_rfl)
 have af:Hid (∀U,Below (v4.alloc (.cells f.toArray 35)).heap.size (v4.alloc (.cells f.toArray 35)) U->RP U v4.heap.size b1 o1 c1 b2 o2 c2 b3 o3 c3 b4 o4 c4 b5 o5 c5 b6 o6 c6 b7 o7 c7 b8 o8 c8):=yb (fun U hU=>by
  have l:∀ {p:Addr} {v:Value},(v4.alloc (.cells f.toArray 35)).cell? p=some v->U.cell? p=some v:=fun {p v} h=>(hU.cell (p:=p) (by
   rcases zS p.block (v4.alloc (.cells f.toArray 35)).heap.size with h'|h'
   ·exact h'
   ·simp[World.cell?,xh h'] at h)).trans h
  exact ⟨l k.lets,l k.args,l k.arg0,l k.reaches,l k.cap,l k.farms,l k.on0,l k.crop0,l k.on1,l k.rots,l k.turns,l k.turn0,l k.rights,l k.right0,l k.duties,l k.duty0⟩)
 clear s5 N F H k n5
 have t:Hid (FC FD=0):=yb (by kernel_rfl)
 go_upto_region 5 with fail
 refine xi ?_
 iterate 15
  refine Ft (by kernel_rfl) fun K a=>?_
  go_simp
  refine a _ _ ?_
  clear a K
 refine EG (by kernel_rfl) 35 _ rfl v4.heap.size 0 rfl f _ ac.o qM rfl ag.o ?_
 refine Ft (by kernel_rfl) fun K a=>?_
 go_simp
 refine aa.o.mono ?_
 rintro e w8 ⟨a0,G⟩
 rw[t.o] at a0
 subst a0
 have O:=yb G
 have a8:=yb (I.o.trans (G.mono I.o.size))
 clear G
 iterate 4
  refine a _ _ ?_
  clear a K
  refine Ft (by kernel_rfl) fun K a=>?_
  go_simp
 refine (Ns _).mono ?_
 rintro e w9 ⟨cells,rfl,q,D,a1⟩
 obtain ⟨L9,ar,rfl,V⟩:=Nw a1
 have L:=yb (O.o.trans (D.mono O.o.size))
 have A:=yb (a8.o.trans (D.mono a8.o.size))
 have ad:=yb V
 clear q D a1 V
 refine a _ _ ?_
 clear a K
 refine Ft (by kernel_rfl) fun K a=>?_
 go_simp
 refine (Nq ad.o (fun b hb=>hb.2) Md (s.o.below A.o s.o.1) (JU (by kernel_rfl))).mono ?_
 rintro e al ⟨y,n⟩
 rw[WG] at y
 subst y
 have X:=yb (L.o.trans (n.mono L.o.size))
 have M:=yb (A.o.trans (n.mono A.o.size))
 clear n
 iterate 2
  refine a _ _ ?_
  clear a K
  refine Ft (by kernel_rfl) fun K a=>?_
  go_simp
 refine a _ _ ?_
 clear a K
 refine xG ?_
 obtain ⟨f1,f2,f3,f4,f5,f6,f7,f8,f9,am,an,au,aq,ak,ao,av⟩:=af.o _ X.o
 go_upto_region 7 with fail
 refine xi ?_
 iterate 53
  refine Ft (by kernel_rfl) fun K a=>?_
  go_simp
  refine a _ _ ?_
  clear a K
 refine xG ?_
 go_upto_region 9 with fail
 refine xi ?_
 iterate 79
  refine Ft (by kernel_rfl) fun K a=>?_
  go_simp
  refine a _ _ ?_
  clear a K
 refine xG ?_
 go_wp2
 go_ret
 exact ⟨rfl,M.o⟩
end Go.Proofs.Ytghepahgkcigpaa

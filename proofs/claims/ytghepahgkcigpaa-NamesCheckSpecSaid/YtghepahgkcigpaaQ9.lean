/- The reference's expr (printed by gen_ye.py). -/
import Derived.Test.YtghepahgkcigpaaQ0
import Derived.Test.YtghepahgkcigpaaQ8
set_option maxRecDepth 100000
set_option maxHeartbeats 32000000
set_option linter.unusedSimpArgs false
namespace Go.Proofs.Ytghepahgkcigpaa
open Go.RowKit
structure Xc (w w1:World) (op nn u:Int) (rn:ByteArray) (ri:Int) (v:Value):Prop where
 below:Below w.heap.size w w1
 size:w1.heap.size=w.heap.size+2
 box:w1.heap[w.heap.size]?=some (.cells [.int .i64 op,.int .i64 nn,.int .i64 u,.string rn,.int .i64 ri,v].toArray 26 (0,0))
 res:w1.heap[w.heap.size+1]?=some (.cells [.int .i64 0,.int .i64 0,.int .i64 0,.string {data:=#[]},.int .i64 0,.slice none 0 0].toArray 26 (0,0))
theorem Lg{w w1:World}{op a u:Int}{rn:ByteArray}{ri:Int}{v:Value}(h:w1=(w.alloc (.cells #[.int .i64 op,.int .i64 a,.int .i64 u,.string rn,.int .i64 ri,v] 26)).alloc (.cells #[.int .i64 0,.int .i64 0,.int .i64 0,.string {data:=#[]},.int .i64 0,.slice none 0 0] 26)):Xc w w1 op a u rn ri v:=by
 subst h
 refine ⟨((yc _ _).alloc (ye _) _).alloc (by simp) _,by simp,?_,?_⟩
 ·rw[yT _ _ _ (by simp)];exact World.alloc_heap_new _ _
 ·have:=World.alloc_heap_new (w.alloc (.cells #[iV op,iV a,iV u,.string rn,iV ri,v] 26)) (.cells j9 26)
  simpa using this
theorem Ed{W:World}{b:Nat}{x0 x1 x2 x3 x4 x5:Value}{t:TypeId}{fr:Nat × Nat}(h:W.heap[b]?=some (.cells [x0,x1,x2,x3,x4,x5].toArray t fr)):
  W.cell? ⟨b,0,none⟩=some x0∧W.cell? ⟨b,1,none⟩=some x1∧W.cell? ⟨b,2,none⟩=some x2∧W.cell? ⟨b,3,none⟩=some x3∧W.cell? ⟨b,4,none⟩=some x4∧W.cell? ⟨b,5,none⟩=some x5:=by
 simp[World.cell?,h]
theorem Jt{W:World}{b:Nat}{c:Array Value}{t:TypeId}(h:W.heap[b]?=some (.cells c t (0,0)))(q:Nat):W.frozen? ⟨b,q,none⟩=false:=by simp[World.frozen?,h]
theorem Gk{V:World}{b:Nat}{x0 x1 x2 x3 x4 x5 y0 y1 c e d a:Value}{t:TypeId}(h:V.heap[b]?=some (.cells [y0,y1,c,e,d,a].toArray t (0,0))):
  AB V ((((((V.setCell ⟨b,0,none⟩ x0).setCell ⟨b,1,none⟩ x1).setCell ⟨b,2,none⟩ x2).setCell ⟨b,3,none⟩ x3).setCell ⟨b,4,none⟩ x4).setCell ⟨b,5,none⟩ x5) b [x0,x1,x2,x3,x4,x5] t:=
 Aw b t [x0,x1,x2,x3,x4,x5] 0 V [] [y0,y1,c,e,d,a] [] (by simpa using h) rfl rfl
theorem Sh{V:World}{b:Nat}{x3 x4 y0 y1 c e d a:Value}{t:TypeId}(h:V.heap[b]?=some (.cells [y0,y1,c,e,d,a].toArray t (0,0))):
  AB V ((V.setCell ⟨b,3,none⟩ x3).setCell ⟨b,4,none⟩ x4) b [y0,y1,c,x3,x4,a] t:=
 Aw b t [x3,x4] 3 V [y0,y1,c] [e,d] [a] (by simpa using h) rfl rfl
theorem Vi{α:Type}:∀ {l:List α},l.length=2->∃a b,l=[a,b]
 |[a,b],_=>⟨a,b,rfl⟩
 |[],h=>by simp at h
 |[_],h=>by simp at h
 |_::_::_::_,h=>by simp at h
theorem AB.drew{V W:World}{b:Nat}{c:LV}{t:TypeId}(h:AB V W b c t):AB V W.drew b c t:=⟨h.os,h.tape,h.output,h.size,h.row,h.block⟩
theorem Bh.XN{N:NP}{w:World}{op n u ri b:Int}{rn:ByteArray}{args:List Ex}{a:Option Addr}{m cap:Nat}(h:Bh N w (.mk op n u rn ri args) [.int .i64 op,.int .i64 n,.int .i64 u,.string rn,.int .i64 ri,.slice a m cap]):
  Bh N w (.mk op n u rn b args) [.int .i64 op,.int .i64 n,.int .i64 u,.string rn,.int .i64 b,.slice a m cap]:=by
 rw[Bh] at h ⊢
 obtain ⟨e,c,d,h1,h2,h3⟩:=h
 simp only[zq,xN,qk,and_true] at d
 obtain ⟨rfl,rfl,rfl⟩:=d
 exact ⟨_,_,rfl,h1,h2,h3⟩
theorem PM{op nn u:Int}{rn:ByteArray}{e0 e1:Ex}{F:NP}{w:World}{h:AF}{g:LB}{a:Option Addr}{cap:Nat}(bp:(op==2)=false)(hu:decide (op≥1)=true)(bq:decide (op<=6)=true)(bs:decide (op < 3)=false)(h2:¬ op=2)(bt:rn.toList=[])
 (hr:AZ w h 1 0 g)(ag:rn.size<=maxLen)(N:E6 (GF F w) w a 0 [e0,e1])(hF:∀b,F b->b < w.heap.size)
 (ih:∀e∈[e0,e1],∀ {F:NP} {w:World} {cs:LV} {h:AF} {g:LB},AZ w h 1 0 g->Bh (GF F w) w e cs->(∀b,F b->b < w.heap.size)->Calls Try.prog 96 #[.agg cs.toArray,h.v] w (Ot F w (JF g e) (Kz g e))):
  Calls Try.prog 96 #[.agg #[.int .i64 op,.int .i64 nn,.int .i64 u,.string rn,.int .i64 0,.slice a 2 cap],h.v] w (Ot F w (JF g e0&&JF g e1) (Kz g (.mk op nn u rn 0 [e0,e1]))):=by
 have P:=ya N
 have HF:=ya hF
 have IH:=ya ih
 have HR:=ya hr
 have bh:=ya ag
 clear N hF ih hr ag
 obtain ⟨b,o,cs0,rfl,b3,O,z⟩:=E7 P.o 0 (by simp)
 obtain ⟨b',o',a1,am,al,Q,H⟩:=E7 P.o 1 (by simp)
 obtain ⟨rfl,rfl⟩:b=b'∧o=o':=by simpa using am
 simp only[List.getElem_cons_zero,List.getElem_cons_succ] at z H
 generalize ai:JF g e0=q0
 generalize a6:JF g e1=q1
 generalize V:Kz g e0=f0
 generalize T:Kz g e1=f1
 have b9:=ya V;have ba:=ya T
 go_enter Try.func96,Try.ntmps96
 go_upto_region 1 with fail
 obtain ⟨w1,a0⟩:∃w1,w1=((w.alloc (.cells #[iV op,iV nn,iV u,.string rn,iV 0,.slice (some (aV b o)) 2 cap] 26)).alloc (.cells j9 26)):=⟨_,rfl⟩
 rw[<-a0]
 have x:=ya (Lg a0)
 clear a0
 obtain ⟨c0,c1,c2,c3,c4,c5⟩:=Ed x.o.box
 obtain ⟨d0,d1,d2,d3,d4,d5⟩:=Ed x.o.res
 have fz:=Jt x.o.res
 clear d0 d1 d2 d3 d4 d5 fz
 obtain ⟨E,A⟩:∃E:NP,E=fun k=>F k∨k=w.heap.size∨k=w.heap.size+1:=⟨_,rfl⟩
 have ac:Hid (∀k,E k->F k∨w.heap.size<=k):=ya (by subst A;intro k m;rcases m with m|rfl|rfl<;>first|exact .inl m|exact .inr (by omega))
 have a7:Hid (∀k,E k->k < w1.heap.size):=ya (by
  subst A;intro k m;rw[x.o.size]
  rcases m with m|rfl|rfl
  ·have:=HF.o k m;omega
  ·omega
  ·omega)
 have bj:Hid (E w.heap.size):=ya (by subst A;exact .inr (.inl rfl))
 have bd:Hid (E (w.heap.size+1)):=ya (by subst A;exact .inr (.inr rfl))
 have ad:Hid (∀k,F k->E k):=ya (by subst A;exact fun k m=>.inl m)
 clear A
 have ah:=ya (IH.o e0 (by simp) (F:=E) (w:=w1) (HR.o.up x.o.below) (z.flux (AP.below x.o.below) ac.o) a7.o)
 rw[ai,V] at ah
 have b8:=ya z;have a8:=ya H
 have aw:Hid (w1.rangeAt b o cs0):=ya (by have h:=A1 O (x.o.below.block b b3.2);simpa using h)
 have ak:Hid (w.rangeAt b (o+6) a1):=ya (by simpa using Q)
 have bm:=ya al
 clear O Q b3 al z H ai V am
 go_upto_region 12 with (first
  |(refine yf rfl 26 _ rfl b o rfl cs0 _ aw.o qF rfl (AE b8.o.len) ?_)
  |(go_at_call 96;refine ah.o.mono ?_;rintro e w2 ⟨d,bb,rfl,az,ap,ab⟩;have G:=ya az;have be:=ya ap;have I:=ya ab;clear az ap ab)
  |(refine A2 rfl 26 _ _ rfl w2.heap.size rfl d rfl (World.alloc_heap_new _ _) (by rw[G.o.len];rfl) (AE G.o.len) (A8 G.o) ?_;intro w3 ay;have Z:=ya ay;clear ay))
 clear c0 c1 c2 c3 c4 c5
 have R:Hid (Below w2.heap.size w2 w3):=ya (Z.o.below ((yc _ _).alloc (ye _) _) (ye _))
 have y:Hid (Below w1.heap.size w1 w3):=ya (I.o.trans (R.o.mono I.o.size))
 have X:=ya Z.o.row
 have av:=ya (G.o.Xm (AP.below R.o))
 have bu:Hid (w1.heap.size<=w2.heap.size):=ya I.o.size
 clear Z G I R
 have n:Hid (Below w.heap.size w w3):=ya (x.o.below.trans (y.o.mono x.o.below.size))
 have HX:Hid (w3.heap[w.heap.size]?=_):=ya ((y.o.block w.heap.size (by rw[x.o.size];omega)).trans x.o.box)
 have HY:Hid (w3.heap[w.heap.size+1]?=_):=ya ((y.o.block (w.heap.size+1) (by rw[x.o.size];omega)).trans x.o.res)
 have aq:=ya (IH.o e1 (by simp) (F:=E) (w:=w3) (HR.o.up n.o) (a8.o.flux (AP.below n.o) ac.o) (fun k m=>yk (a7.o k m) y.o.size))
 rw[a6,T] at aq
 have a2:Hid (w3.rangeAt b (o+6) a1):=ya (A1 ak.o (n.o.block b bm.o.2))
 obtain ⟨c0,c1,c2,c3,c4,c5⟩:=Ed HX.o
 clear a6 T c0 c1 c2 c3 c4
 go_upto_region 13 with (first
  |(refine yf rfl 26 _ rfl b (o+6) rfl a1 _ a2.o qF rfl (AE a8.o.len) ?_)
  |(go_at_call 96;refine aq.o.mono ?_;rintro e w4 ⟨f,b5,rfl,aj,ax,af⟩;have C:=ya aj;have b7:=ya ax;have Y:=ya af;clear aj ax af)
  |(refine A2 rfl 26 _ _ rfl w4.heap.size rfl f rfl (World.alloc_heap_new _ _) (by rw[C.o.len];rfl) (AE C.o.len) (A8 C.o) ?_;intro s ar;have S:=ya ar;clear ar))
 clear c5
 have W:Hid (Below w4.heap.size w4 s):=ya (S.o.below ((yc _ _).alloc (ye _) _) (ye _))
 have l:Hid (Below w3.heap.size w3 s):=ya (Y.o.trans (W.o.mono Y.o.size))
 have b4:=ya S.o.row
 have U:=ya (C.o.Xm (AP.below W.o))
 have an:Hid (s.heap[w2.heap.size]?=_):=ya ((l.o.block w2.heap.size (yd.1 X.o).1).trans X.o)
 have L:=ya (av.o.Xm (AP.below (F:=E) l.o))
 have M:Hid (Below w.heap.size w s):=ya (n.o.trans (l.o.mono n.o.size))
 have K:Hid (Below s.heap.size s (s.alloc (.cells (d++f).toArray 26))):=ya ((yc _ _).alloc (ye _) _)
 have bi:Hid ((s.alloc (.cells (d++f).toArray 26)).heap[w.heap.size]?=some (.cells ([iV op,iV nn,iV u,Value.string rn,iV 0]++[Value.slice (some (aV b o)) 2 cap]).toArray 26 (0,0))):=ya ((K.o.block _ (by have h1:=l.o.size;have h2:=y.o.size;have h3:=x.o.size;omega)).trans ((l.o.block w.heap.size (yd.1 HX.o).1).trans HX.o))
 have bk:Hid ((s.alloc (.cells (d++f).toArray 26)).heap[w.heap.size+1]?=_):=ya ((K.o.block _ (by have h1:=l.o.size;have h2:=y.o.size;have h3:=x.o.size;omega)).trans ((l.o.block (w.heap.size+1) (yd.1 HY.o).1).trans HY.o))
 clear av C S W Y HX HY X
 obtain ⟨i,j⟩:∃r:LV,r=[iV op,iV nn,iV u,.string rn,iV 0,.slice (some (aV s.heap.size 0)) 2 2]:=⟨_,rfl⟩
 have au:=ya j
 have J:Hid (i.length=6):=ya (by rw[j];rfl)
 have bg:Hid (∀v∈i,v.oneCell'=true):=ya (by rw[j];simp[Value.oneCell'])
 clear j
 go_wp2_with (first
  |(refine yf rfl 26 _ rfl w2.heap.size 0 rfl d _ (A6 an.o) qF rfl (AE L.o.len) ?_)
  |(refine yf rfl 26 _ rfl w4.heap.size 0 rfl f _ (A6 b4.o) qF rfl (AE U.o.len) ?_)
  |(refine N0 rfl 24 26 _ _ rfl d f rfl rfl 6 qE (by kernel_rfl) L.o.len U.o.len (by omega) (by omega) ?_)
  |(refine AQ rfl 24 _ _ rfl w.heap.size 5 rfl (.slice (some (aV s.heap.size 0)) 2 2) rfl rfl (p:=[iV op,iV nn,iV u,.string rn,iV 0]) (q:=[]) (t:=26) bi.o rfl (by kernel_rfl) rfl ?_;intro w6 ae;have B:Hid (AB (s.alloc (.cells (d++f).toArray 26)) w6 w.heap.size i 26):=ya (by rw[au.o];exact ae);clear ae)
  |(refine yf rfl 26 _ rfl w.heap.size 0 rfl i _ (A6 B.o.row) qF rfl (AE J.o) ?_)
  |(refine Vh rfl ?_;simp only[CW,Aa])
  |(simp only[AD])
  |(refine A2 rfl 26 _ _ rfl (w.heap.size+1) rfl i rfl ((B.o.block _ (by omega)).trans bk.o) (by rw[J.o];rfl) (AE J.o) bg.o ?_;intro w7 aa;have D:=ya aa;clear aa))
 refine At rfl rfl D.o.row qF rfl (by rw[J.o];kernel_rfl) ?_
 have hf:AP E s w7:=(AP.below K.o).trans ((B.o.flux bj.o).trans (D.o.flux bd.o))
 have hb:Below w.heap.size w w7:=D.o.below (B.o.below (M.o.trans (K.o.mono M.o.size)) (ye _)) (zE _)
 have bn:w.heap.size+2<=s.heap.size:=by have h1:=l.o.size;have h2:=y.o.size;have h3:=x.o.size;omega
 have bo:w7.heap.size=s.heap.size+1:=by rw[D.o.size,B.o.size];simp
 have hg:w7.heap[s.heap.size]?=some (.cells (d++f).toArray 26 (0,0)):=by
  rw[D.o.block _ (by omega),B.o.block _ (by omega)]
  exact World.alloc_heap_new _ _
 have ao:GF F w7 s.heap.size:=⟨fun h=>by have:=HF.o _ h;omega,by omega⟩
 have l0:=L.o.len
 refine ⟨i,.mk op nn u rn 0 [bb,b5],BH rfl rfl,?_,?_,hb⟩
 ·rw[Bh]
  refine ⟨_,_,au.o,by simp,bh.o,?_⟩
  rw[E6,E6,E6]
  refine ⟨⟨_,_,d,rfl,ao,?_,(L.o.Xm hf).same (fun k m=>⟨fun h=>m.1 (ad.o k h),m.2⟩) (fun _ _=>rfl)⟩,⟨_,_,f,rfl,ao,?_,(U.o.Xm hf).same (fun k m=>⟨fun h=>m.1 (ad.o k h),m.2⟩) (fun _ _=>rfl)⟩,trivial⟩
  ·have:=Bn (p:=[]) (c:=d) (q:=f) (A6 hg)
   simpa using this
  ·have:=Bn (p:=d) (c:=f) (q:=[]) (by simpa using A6 hg)
   rw[l0] at this
   simpa using this
 ·intro hq
  simp only[ym] at hq
  rw[be.o hq.1,b7.o hq.2,<-b9.o,<-ba.o,Kz,KU,KU,KU,yq h2]
theorem PN:∀(e:Ex) {F:NP} {w:World} {cs:LV} {h:AF} {f:LB},AZ w h 1 0 f->Bh (GF F w) w e cs->(∀b,F b->b < w.heap.size)->
  Calls Try.prog 96 #[.agg cs.toArray,h.v] w (Ot F w (JF f e) (Kz f e)):=by
 refine I4 fun op g u rn ri args ih=>?_
 intro F w cs h f hr hv hF
 have S:=hv
 rw[Bh] at hv
 obtain ⟨a,cap,rfl,hl,W,Q⟩:=hv
 obtain ⟨m,E⟩:∃m,m=args.length:=⟨_,rfl⟩
 rw[<-E] at S hl ⊢
 have K:=ya S
 have O:=ya E
 have Z:=ya Q
 have HF:=ya hF
 have IH:=ya ih
 have HR:=ya hr
 have HL:=ya hl
 have a6:=ya W
 clear Q hF ih hr W S E
 by_cases h2:op=2
 ·subst h2
  generalize hq:Dh f ⟨rn,ri⟩=q
  have Hq:=ya hq
  by_cases E:m=0
  ·subst E
   have k:JF f (.mk 2 g u rn ri args)=q:=by rw[JF,yX.1 O.o.symm];simp[Kq,MZ,hq]
   rw[k]
   clear k hq
   go_enter Try.func96,Try.ntmps96
   go_upto_region 1 with fail
   obtain ⟨w1,c⟩:∃w1,w1=((w.alloc (.cells #[iV 2,iV g,iV u,.string rn,iV ri,.slice a 0 cap] 26)).alloc (.cells j9 26)):=⟨_,rfl⟩
   rw[<-c]
   have d:=ya (Lg c)
   clear c
   obtain ⟨c0,c1,c2,r,s,p⟩:=Ed d.o.box
   obtain ⟨D,C,H,B,G,A⟩:=Ed d.o.res
   have n:=Jt d.o.res
   have HC:=ya (Ky (HR.o.up d.o.below) ⟨rn,ri⟩)
   go_upto_region 4 with (first|(go_at_call 88;refine HC.o.mono ?_;rintro e w2 ⟨rfl,I⟩;have J:=ya I;clear I;rw[Hq.o]))
   clear c0 c1 c2 r s p D C H B G A n
   generalize L:Aj f ⟨rn,ri⟩=j
   have V:=ya L
   clear L
   obtain ⟨w3,l⟩:∃w3,w3=w2.alloc (.cells #[.string rn,iV j] 23):=⟨_,rfl⟩
   rw[<-l]
   have z:Hid (Below w1.heap.size w1 w3):=ya (by rw[l];exact J.o.alloc J.o.size _)
   have HK:=ya (show w3.heap[w2.heap.size]?=some (.cells #[.string rn,iV j] 23 (0,0)) by rw[l];exact World.alloc_heap_new _ _)
   clear l
   have R:Hid (w3.heap[w.heap.size]?=_):=ya ((z.o.block w.heap.size (by rw[d.o.size];omega)).trans d.o.box)
   have HY:Hid (w3.heap[w.heap.size+1]?=_):=ya ((z.o.block (w.heap.size+1) (by rw[d.o.size];omega)).trans d.o.res)
   have U:Hid (Below w.heap.size w w3):=ya (d.o.below.trans (z.o.mono d.o.below.size))
   obtain ⟨c0,c1,c2,r,s,p⟩:=Ed R.o
   have n:=Jt R.o
   have k0:w3.cell? (aV w2.heap.size 0)=some (.string rn):=by simp[World.cell?,HK.o]
   have k1:w3.cell? (aV w2.heap.size 1)=some (iV j):=by simp[World.cell?,HK.o]
   go_upto_region 5 with fail
   obtain ⟨w4,y⟩:∃w4,w4=(w3.setCell (aV w.heap.size 3) (.string rn)).setCell (aV w.heap.size 4) (iV j):=⟨_,rfl⟩
   rw[<-y]
   have x:=ya (y▸Sh (x3:=.string rn) (x4:=iV j) R.o:AB w3 w4 w.heap.size [iV 2,iV g,iV u,.string rn,iV j,.slice a 0 cap] 26)
   clear y c0 c1 c2 r s p n k0 k1
   have T:Hid (Below w.heap.size w w4):=ya (x.o.below U.o (ye _))
   have t:=ya ((x.o.block (w.heap.size+1) (by omega)).trans HY.o)
   obtain ⟨c0,c1,c2,r,s,p⟩:=Ed x.o.row
   obtain ⟨D,C,H,B,G,A⟩:=Ed t.o
   have n:=Jt t.o
   cases q
   all_goals go_wp2
   all_goals go_region
   all_goals go_wp2
   all_goals
    have i:=(Gk (x0:=iV 2) (x1:=iV g) (x2:=iV u) (x3:=.string rn) (x4:=iV j) (x5:=.slice a 0 cap) t.o).drew
    refine At rfl rfl i.row qF rfl (by kernel_rfl) ?_
    have hb:=i.below T.o (zE _)
    exact ⟨_,_,BH rfl (yz Value.bool (rfl)),(K.o.Xm (AP.below hb)).XN,fun _=>by rw[Kz,yX.1 O.o.symm,<-V.o];rfl,hb⟩
  ·have a0:((m:Int)==0)=false:=by simpa using E
   have k:JF f (.mk 2 g u rn ri args)=false:=by rw[JF,<-O.o];simp[Kq,E]
   rw[k]
   clear k hq
   go_enter Try.func96,Try.ntmps96
   go_upto_region 1 with fail
   obtain ⟨w1,c⟩:∃w1,w1=((w.alloc (.cells #[iV 2,iV g,iV u,.string rn,iV ri,.slice a m cap] 26)).alloc (.cells j9 26)):=⟨_,rfl⟩
   rw[<-c]
   have d:=ya (Lg c)
   clear c
   obtain ⟨c0,c1,c2,r,s,p⟩:=Ed d.o.box
   obtain ⟨D,C,H,B,G,A⟩:=Ed d.o.res
   have n:=Jt d.o.res
   have HC:=ya (Ky (HR.o.up d.o.below) ⟨rn,ri⟩)
   go_upto_region 4 with (first|(go_at_call 88;refine HC.o.mono ?_;rintro e w2 ⟨rfl,I⟩;have J:=ya I;clear I;rw[Hq.o]))
   clear c0 c1 c2 r s p D C H B G A n
   generalize L:Aj f ⟨rn,ri⟩=j
   have V:=ya L
   clear L
   obtain ⟨w3,l⟩:∃w3,w3=w2.alloc (.cells #[.string rn,iV j] 23):=⟨_,rfl⟩
   rw[<-l]
   have z:Hid (Below w1.heap.size w1 w3):=ya (by rw[l];exact J.o.alloc J.o.size _)
   have HK:=ya (show w3.heap[w2.heap.size]?=some (.cells #[.string rn,iV j] 23 (0,0)) by rw[l];exact World.alloc_heap_new _ _)
   clear l
   have R:Hid (w3.heap[w.heap.size]?=_):=ya ((z.o.block w.heap.size (by rw[d.o.size];omega)).trans d.o.box)
   have HY:Hid (w3.heap[w.heap.size+1]?=_):=ya ((z.o.block (w.heap.size+1) (by rw[d.o.size];omega)).trans d.o.res)
   have U:Hid (Below w.heap.size w w3):=ya (d.o.below.trans (z.o.mono d.o.below.size))
   obtain ⟨c0,c1,c2,r,s,p⟩:=Ed R.o
   have n:=Jt R.o
   have k0:w3.cell? (aV w2.heap.size 0)=some (.string rn):=by simp[World.cell?,HK.o]
   have k1:w3.cell? (aV w2.heap.size 1)=some (iV j):=by simp[World.cell?,HK.o]
   go_upto_region 5 with fail
   obtain ⟨w4,y⟩:∃w4,w4=(w3.setCell (aV w.heap.size 3) (.string rn)).setCell (aV w.heap.size 4) (iV j):=⟨_,rfl⟩
   rw[<-y]
   have x:=ya (y▸Sh (x3:=.string rn) (x4:=iV j) R.o:AB w3 w4 w.heap.size [iV 2,iV g,iV u,.string rn,iV j,.slice a m cap] 26)
   clear y c0 c1 c2 r s p n k0 k1
   have T:Hid (Below w.heap.size w w4):=ya (x.o.below U.o (ye _))
   have t:=ya ((x.o.block (w.heap.size+1) (by omega)).trans HY.o)
   obtain ⟨c0,c1,c2,r,s,p⟩:=Ed x.o.row
   obtain ⟨D,C,H,B,G,A⟩:=Ed t.o
   have n:=Jt t.o
   cases q
   all_goals go_wp2
   all_goals go_region
   all_goals go_wp2
   all_goals
    have i:=(Gk (x0:=iV 2) (x1:=iV g) (x2:=iV u) (x3:=.string rn) (x4:=iV j) (x5:=.slice a m cap) t.o).drew
    refine At rfl rfl i.row qF rfl (by kernel_rfl) ?_
    have hb:=i.below T.o (zE _)
    exact ⟨_,_,BH rfl (yz Value.bool (rfl)),(K.o.Xm (AP.below hb)).XN,fun h=>Bool.noConfusion h,hb⟩
 ·have a2:(op==2)=false:=by simpa using h2
  by_cases h1:1<=op
  ·have hu:decide (op≥1)=true:=by simpa using h1
   by_cases h6:op<=6
   ·have X:decide (op<=6)=true:=by simpa using h6
    by_cases h3:op < 3
    ·have P:decide (op < 3)=true:=by simpa using h3
     obtain rfl:op=1:=by omega
     by_cases E:m=0
     ·subst E
      have k:JF f (.mk 1 g u rn ri args)=decide (rn.size=0∧ri=0):=by rw[JF,yX.1 O.o.symm];simp[Kq,MZ]
      rw[k]
      clear k
      by_cases N:ri=0
      ·subst N
       go_enter Try.func96,Try.ntmps96
       go_upto_region 1 with fail
       obtain ⟨w1,c⟩:∃w1,w1=((w.alloc (.cells #[iV 1,iV g,iV u,.string rn,iV 0,.slice a 0 cap] 26)).alloc (.cells j9 26)):=⟨_,rfl⟩
       rw[<-c]
       have d:=ya (Lg c)
       clear c
       obtain ⟨c0,c1,c2,r,s,p⟩:=Ed d.o.box
       obtain ⟨D,C,H,B,G,A⟩:=Ed d.o.res
       have n:=Jt d.o.res
       go_wp2
       all_goals go_region
       all_goals go_wp2
       all_goals
        have i:=(Gk (x0:=iV 1) (x1:=iV g) (x2:=iV u) (x3:=.string rn) (x4:=iV 0) (x5:=.slice a 0 cap) d.o.res).drew
        refine At rfl rfl i.row qF rfl (by kernel_rfl) ?_
        have hb:=i.below d.o.below (zE _)
        exact ⟨_,_,BH rfl (yz Value.bool (by first|rfl|(simp only[Dg, *];simp))),K.o.Xm (AP.below hb),fun _=>by rw[Kz,yX.1 O.o.symm];rfl,hb⟩
      ·go_enter Try.func96,Try.ntmps96
       go_upto_region 1 with fail
       obtain ⟨w1,c⟩:∃w1,w1=((w.alloc (.cells #[iV 1,iV g,iV u,.string rn,iV ri,.slice a 0 cap] 26)).alloc (.cells j9 26)):=⟨_,rfl⟩
       rw[<-c]
       have d:=ya (Lg c)
       clear c
       obtain ⟨c0,c1,c2,r,s,p⟩:=Ed d.o.box
       obtain ⟨D,C,H,B,G,A⟩:=Ed d.o.res
       have n:=Jt d.o.res
       go_wp2
       all_goals go_region
       all_goals go_wp2
       all_goals
        have i:=(Gk (x0:=iV 1) (x1:=iV g) (x2:=iV u) (x3:=.string rn) (x4:=iV ri) (x5:=.slice a 0 cap) d.o.res).drew
        refine At rfl rfl i.row qF rfl (by kernel_rfl) ?_
        have hb:=i.below d.o.below (zE _)
        exact ⟨_,_,BH rfl (yz Value.bool (by first|rfl|(simp only[Dg, *];simp))),K.o.Xm (AP.below hb),fun _=>by rw[Kz,yX.1 O.o.symm];rfl,hb⟩
     ·have a0:((m:Int)==0)=false:=by simpa using E
      have k:JF f (.mk 1 g u rn ri args)=false:=by rw[JF,<-O.o];simp[Kq,E]
      rw[k]
      clear k
      by_cases N:ri=0
      ·subst N
       go_enter Try.func96,Try.ntmps96
       go_upto_region 1 with fail
       obtain ⟨w1,c⟩:∃w1,w1=((w.alloc (.cells #[iV 1,iV g,iV u,.string rn,iV 0,.slice a m cap] 26)).alloc (.cells j9 26)):=⟨_,rfl⟩
       rw[<-c]
       have d:=ya (Lg c)
       clear c
       obtain ⟨c0,c1,c2,r,s,p⟩:=Ed d.o.box
       obtain ⟨D,C,H,B,G,A⟩:=Ed d.o.res
       have n:=Jt d.o.res
       go_wp2
       all_goals go_region
       all_goals go_wp2
       all_goals
        have i:=(Gk (x0:=iV 1) (x1:=iV g) (x2:=iV u) (x3:=.string rn) (x4:=iV 0) (x5:=.slice a m cap) d.o.res).drew
        refine At rfl rfl i.row qF rfl (by kernel_rfl) ?_
        have hb:=i.below d.o.below (zE _)
        exact ⟨_,_,BH rfl (yz Value.bool (rfl)),K.o.Xm (AP.below hb),fun h=>Bool.noConfusion h,hb⟩
      ·go_enter Try.func96,Try.ntmps96
       go_upto_region 1 with fail
       obtain ⟨w1,c⟩:∃w1,w1=((w.alloc (.cells #[iV 1,iV g,iV u,.string rn,iV ri,.slice a m cap] 26)).alloc (.cells j9 26)):=⟨_,rfl⟩
       rw[<-c]
       have d:=ya (Lg c)
       clear c
       obtain ⟨c0,c1,c2,r,s,p⟩:=Ed d.o.box
       obtain ⟨D,C,H,B,G,A⟩:=Ed d.o.res
       have n:=Jt d.o.res
       go_wp2
       all_goals go_region
       all_goals go_wp2
       all_goals
        have i:=(Gk (x0:=iV 1) (x1:=iV g) (x2:=iV u) (x3:=.string rn) (x4:=iV ri) (x5:=.slice a m cap) d.o.res).drew
        refine At rfl rfl i.row qF rfl (by kernel_rfl) ?_
        have hb:=i.below d.o.below (zE _)
        exact ⟨_,_,BH rfl (yz Value.bool (rfl)),K.o.Xm (AP.below hb),fun h=>Bool.noConfusion h,hb⟩
    ·have P:decide (op < 3)=false:=by simpa using h3
     have M:Kq op args.length=decide (m=2):=by
      rw[<-O.o,Kq,xS h1,xS h6,yu (by omega:3<=op)];simp
     by_cases hz:rn.size=0∧ri=0
     ·obtain ⟨Y,rfl⟩:=hz
      have a1:=(Dg rn).1 Y
      by_cases E:m=2
      ·subst E
       obtain ⟨e0,e1,rfl⟩:=Vi O.o.symm
       have k:JF f (.mk op g u rn 0 [e0,e1])=(JF f e0&&JF f e1):=by
        rw[JF,M,yq h2];simp[MZ,Y]
       rw[k]
       clear k M
       exact PM a2 hu X P h2 a1 HR.o a6.o Z.o HF.o (fun e he=>IH.o e he)
      ·have a0:((m:Int) !=2)=true:=by simp;omega
       have k:JF f (.mk op g u rn 0 args)=false:=by rw[JF,M,zH E];rfl
       rw[k]
       clear k M
       go_enter Try.func96,Try.ntmps96
       go_upto_region 1 with fail
       obtain ⟨w1,c⟩:∃w1,w1=((w.alloc (.cells #[iV op,iV g,iV u,.string rn,iV 0,.slice a m cap] 26)).alloc (.cells j9 26)):=⟨_,rfl⟩
       rw[<-c]
       have d:=ya (Lg c)
       clear c
       obtain ⟨c0,c1,c2,r,s,p⟩:=Ed d.o.box
       obtain ⟨D,C,H,B,G,A⟩:=Ed d.o.res
       have n:=Jt d.o.res
       go_wp2
       have i:=(Gk (x0:=iV op) (x1:=iV g) (x2:=iV u) (x3:=.string rn) (x4:=iV 0) (x5:=.slice a m cap) d.o.res)
       refine At rfl rfl i.row qF rfl (by kernel_rfl) ?_
       have hb:=i.below d.o.below (zE _)
       exact ⟨_,_,BH rfl (yz Value.bool (rfl)),K.o.Xm (AP.below hb),fun h=>Bool.noConfusion h,hb⟩
     ·have k:JF f (.mk op g u rn ri args)=false:=by rw[JF,yq h2,zH hz];simp
      rw[k]
      clear k M
      by_cases N:ri=0
      ·subst N
       have a1:¬ rn.toList=[]:=fun h=>hz ⟨(Dg rn).2 h,rfl⟩
       go_enter Try.func96,Try.ntmps96
       go_upto_region 1 with fail
       obtain ⟨w1,c⟩:∃w1,w1=((w.alloc (.cells #[iV op,iV g,iV u,.string rn,iV 0,.slice a m cap] 26)).alloc (.cells j9 26)):=⟨_,rfl⟩
       rw[<-c]
       have d:=ya (Lg c)
       clear c
       obtain ⟨c0,c1,c2,r,s,p⟩:=Ed d.o.box
       obtain ⟨D,C,H,B,G,A⟩:=Ed d.o.res
       have n:=Jt d.o.res
       go_wp2
       all_goals
        have i:=(Gk (x0:=iV op) (x1:=iV g) (x2:=iV u) (x3:=.string rn) (x4:=iV 0) (x5:=.slice a m cap) d.o.res)
        refine At rfl rfl i.row qF rfl (by kernel_rfl) ?_
        have hb:=i.below d.o.below (zE _)
        exact ⟨_,_,BH rfl (yz Value.bool (rfl)),K.o.Xm (AP.below hb),fun h=>Bool.noConfusion h,hb⟩
      ·clear hz
       go_enter Try.func96,Try.ntmps96
       go_upto_region 1 with fail
       obtain ⟨w1,c⟩:∃w1,w1=((w.alloc (.cells #[iV op,iV g,iV u,.string rn,iV ri,.slice a m cap] 26)).alloc (.cells j9 26)):=⟨_,rfl⟩
       rw[<-c]
       have d:=ya (Lg c)
       clear c
       obtain ⟨c0,c1,c2,r,s,p⟩:=Ed d.o.box
       obtain ⟨D,C,H,B,G,A⟩:=Ed d.o.res
       have n:=Jt d.o.res
       go_wp2
       all_goals
        have i:=(Gk (x0:=iV op) (x1:=iV g) (x2:=iV u) (x3:=.string rn) (x4:=iV ri) (x5:=.slice a m cap) d.o.res)
        refine At rfl rfl i.row qF rfl (by kernel_rfl) ?_
        have hb:=i.below d.o.below (zE _)
        exact ⟨_,_,BH rfl (yz Value.bool (rfl)),K.o.Xm (AP.below hb),fun h=>Bool.noConfusion h,hb⟩
   ·have X:decide (op<=6)=false:=by simpa using h6
    have P:decide (op < 3)=false:=by simp;omega
    have k:JF f (.mk op g u rn ri args)=false:=by rw[JF,Kq,zH h6];simp
    rw[k]
    go_enter Try.func96,Try.ntmps96
    go_upto_region 1 with fail
    obtain ⟨w1,c⟩:∃w1,w1=((w.alloc (.cells #[iV op,iV g,iV u,.string rn,iV ri,.slice a m cap] 26)).alloc (.cells j9 26)):=⟨_,rfl⟩
    rw[<-c]
    have d:=ya (Lg c)
    clear c
    obtain ⟨c0,c1,c2,r,s,p⟩:=Ed d.o.box
    obtain ⟨D,C,H,B,G,A⟩:=Ed d.o.res
    have n:=Jt d.o.res
    go_wp2
    have i:=(Gk (x0:=iV op) (x1:=iV g) (x2:=iV u) (x3:=.string rn) (x4:=iV ri) (x5:=.slice a m cap) d.o.res)
    refine At rfl rfl i.row qF rfl (by kernel_rfl) ?_
    have hb:=i.below d.o.below (zE _)
    exact ⟨_,_,BH rfl (yz Value.bool (rfl)),K.o.Xm (AP.below hb),fun h=>Bool.noConfusion h,hb⟩
  ·have hu:decide (op≥1)=false:=by simpa using h1
   have P:decide (op < 3)=true:=by simp;omega
   have k:JF f (.mk op g u rn ri args)=false:=by rw[JF,Kq,zH h1];rfl
   rw[k]
   go_enter Try.func96,Try.ntmps96
   go_upto_region 1 with fail
   obtain ⟨w1,c⟩:∃w1,w1=((w.alloc (.cells #[iV op,iV g,iV u,.string rn,iV ri,.slice a m cap] 26)).alloc (.cells j9 26)):=⟨_,rfl⟩
   rw[<-c]
   have d:=ya (Lg c)
   clear c
   obtain ⟨c0,c1,c2,r,s,p⟩:=Ed d.o.box
   obtain ⟨D,C,H,B,G,A⟩:=Ed d.o.res
   have n:=Jt d.o.res
   go_wp2
   go_region
   go_wp2
   have i:=(Gk (x0:=iV op) (x1:=iV g) (x2:=iV u) (x3:=.string rn) (x4:=iV ri) (x5:=.slice a m cap) d.o.res).drew
   refine At rfl rfl i.row qF rfl (by kernel_rfl) ?_
   have hb:=i.below d.o.below (zE _)
   exact ⟨_,_,BH rfl (yz Value.bool (rfl)),K.o.Xm (AP.below hb),fun h=>Bool.noConfusion h,hb⟩
end Go.Proofs.Ytghepahgkcigpaa

/- Parts of the proof, in short words: Gj Gl Sa Sb Sc Sd Se Sf Sg Sh Si Vd Ed Ee Ei Ej Eg -/
import Derived.Test.YtjofgpfocadomaaGreatDoorUi0
import Derived.Test.YtjofgpfocadomaaGreatDoorUi8
import Derived.Deep.Cut
import Derived.Test.YtjofgpfocadomaaGreatDoorUi7
import Derived.BigFrameIn
set_option maxRecDepth 100000
set_option maxHeartbeats 16000000
set_option linter.unusedSimpArgs false
namespace Go.Proofs.YtjofgpfocadomaaGreatDoor
open Go.RowKit
set_option linter.unusedSimpArgs false
def Qn.row(q:Qn):LV:=[.int .i64 q.dim.l,.int .i64 q.dim.h,.int .i64 q.dim.a,.int .i64 q.v.n,.int .i64 q.v.d,.int .i64 q.e]
def Qn.val(q:Qn):Value:=.agg #[.int .i64 q.dim.l,.int .i64 q.dim.h,.int .i64 q.dim.a,.int .i64 q.v.n,.int .i64 q.v.d,.int .i64 q.e]
def Wx(cs:LV)(k:Kn):Prop:=cs=[.string k.name,.int .i64 k.q.dim.l,.int .i64 k.q.dim.h,.int .i64 k.q.dim.a,.int .i64 k.q.v.n,.int .i64 k.q.v.d,.int .i64 k.q.e,.bool k.ok]
def Ph(w:World)(h:Au)(a:List Kn):Prop:=BE (fun b=>b < w.heap.size) w 8 Wx h a
def Oy(q:Qn × Bool)(w:World)(e:Ending)(w':World):Prop:=e=.returned (.tuple #[q.1.val,.bool q.2])∧Below w.heap.size w w'
theorem L4(rn:ByteArray)(ri:Int)(w:World):(Op.equalIn 10000 23 (.agg #[.string rn,.int .i64 ri]) (.agg #[.string {data:=#[]},.int .i64 0])).run Tryz.prog w=.ok (CP rn ri) w:=by
 have e:CP rn ri=(decide (rn.toList=[])&&decide (ri=0)):=by
  unfold CP
  rw[xA]
  simp only[z7,yG,Dw]
 rw[e]
 by_cases h1:rn.toList=[]
 ·by_cases h2:ri=0
  ·subst h2
   go_simp
  ·have a:(ri==0)=false:=by simpa using h2
   go_simp
 ·go_simp
theorem Ce{W:World}{b:Nat}{x0 e a c d f:Value}{t:TypeId}(h:W.heap[b]?=some (.cells #[x0,e,a,c,d,f] t (0,0))):W.cell? ⟨b,0,none⟩=some x0∧W.cell? ⟨b,1,none⟩=some e∧W.cell? ⟨b,2,none⟩=some a∧W.cell? ⟨b,3,none⟩=some c∧W.cell? ⟨b,4,none⟩=some d∧W.cell? ⟨b,5,none⟩=some f:=by
 refine ⟨?_,?_,?_,?_,?_,?_⟩<;>simp[World.cell?,h]
theorem E7{W:World}{b n:Nat}{cs:Array Value}{t:TypeId}(h:W.heap[b]?=some (.cells cs t (0,0))):W.frozen? ⟨b,n,none⟩=false:=by
 simp[World.frozen?,h]
theorem Co{W:World}{b:Nat}{x0 l i j k m:Value}{t:TypeId}(h:W.heap[b]?=some (.cells #[x0,l,i,j,k,m] t (0,0)))(c a f d e g:Value):
  DS W ((((((W.setCell ⟨b,0,none⟩ c).setCell ⟨b,1,none⟩ a).setCell ⟨b,2,none⟩ f).setCell ⟨b,3,none⟩ d).setCell ⟨b,4,none⟩ e).setCell ⟨b,5,none⟩ g) b [c,a,f,d,e,g] t:=
 AR b t [c,a,f,d,e,g] 0 W [] [x0,l,i,j,k,m] [] h rfl rfl
structure Nz (w:World) (cs:List Value) (q:Qn) (W:World):Prop where
 below:Below w.heap.size w W
 x:W.heap[w.heap.size]?=some (.cells cs.toArray 26 (0,0))
 q:W.heap[w.heap.size+1]?=some (.cells q.row.toArray 70 (0,0))
theorem Nz.lt{w:World}{cs:LV}{q:Qn}{W:World}(h:Nz w cs q W):w.heap.size+1 < W.heap.size:=(yd.1 h.q).1
theorem Nz.up{w:World}{cs:LV}{q:Qn}{W W':World}(h:Nz w cs q W)(a:Below W.heap.size W W'):Nz w cs q W':=by
 have b:=h.lt
 exact ⟨h.below.trans (a.mono (by omega)),(a.block _ (by omega)).trans h.x,(a.block _ (by omega)).trans h.q⟩
theorem Nz.set{w:World}{cs:LV}{q q':Qn}{W W':World}(h:Nz w cs q W)(a:DS W W' (w.heap.size+1) q'.row 70):Nz w cs q' W':=
 ⟨a.below h.below (by omega),(a.block _ (by omega)).trans h.x,a.row⟩
theorem Nz.drew{w:World}{cs:LV}{q:Qn}{W:World}(h:Nz w cs q W):Nz w cs q W.drew:=⟨h.below.drew,h.x,h.q⟩
theorem Nz.new(w:World)(cs:LV):Nz w cs Fq ((w.alloc (.cells cs.toArray 26)).alloc (.cells #[.int .i64 0,.int .i64 0,.int .i64 0,.int .i64 0,.int .i64 0,.int .i64 0] 70)):=by
 have h:=World.alloc_heap_new (w.alloc (.cells cs.toArray 26)) (.cells jb 70)
 simp only[z8] at h
 exact ⟨((yg _ _).alloc (yf _) _).alloc (by simp) _,(yD _ _ _ (by simp)).trans (World.alloc_heap_new w _),h⟩
def IM(n u:Int)(rn:ByteArray)(ri:Int)(m:Nat):Prop:=¬ (m=0∧CP rn ri=true∧0<=n∧n<=Oo∧0<=u∧u<=5)
instance (n u:Int) (rn:ByteArray) (ri:Int) (m:Nat):Decidable (IM n u rn ri m):=by unfold IM;infer_instance
theorem Ve(known:Value)(left:Int)(n u:Int)(rn:ByteArray)(ri:Int)(a:Option Addr)(m cap:Nat)(w:World)(hg:GU w):
  Calls Tryz.prog 38 #[known,.agg #[.int .i64 1,.int .i64 n,.int .i64 u,.string rn,.int .i64 ri,.slice a m cap],.int .i64 left] w (Oy (if IM n u rn ri m then (Fq,false) else (Oq n u,true)) w):=by
 have HG:=yb hg
 clear hg
 have HW:=yb (Nz.new w [.int .i64 1,.int .i64 n,.int .i64 u,.string rn,.int .i64 ri,.slice a m cap])
 have hq:=L4 rn ri
 have hgt:Tryz.prog.eqGuardType Tryz.prog.depth 23=false:=by kernel_rfl
 obtain ⟨res,hres⟩:∃res,res=if IM n u rn ri m then (Fq,false) else (Oq n u,true):=⟨_,rfl⟩
 rw[<-hres]
 have HRes:=yb hres
 clear hres
 go_enter Tryz.func38,Tryz.ntmps38
 refine Ae fun K hK=>?_
 go_wp2
 refine hK.o _ _ ?_
 clear hK
 generalize (w.alloc (.cells #[.int .i64 1,.int .i64 n,.int .i64 u,.string rn,.int .i64 ri,.slice a m cap] 26)).alloc (.cells #[.int .i64 0,.int .i64 0,.int .i64 0,.int .i64 0,.int .i64 0,.int .i64 0] 70)=W at HW ⊢
 obtain ⟨x0,x1,x2,x3,x4,x5⟩:=Ce HW.o.x
 go_upto_region 2 with fail
 iterate 6
  obtain ⟨bb,hbb⟩:∃bb:Bool,bb=decide (IM n u rn ri m):=⟨_,rfl⟩
  have HBb:=yb hbb
  clear hbb
 go_cut [48] from 19 (fun c wx=>Hid (c=.bool bb∧wx=W))
 case first=>
  by_cases h1:m=0
  rotate_left
  ·have e1:decide (0 < (m:Int))=true:=by simp;omega
   have f1:0 < m:=by omega
   have g1:¬ m=0:=h1
   have hb:Hid (IM n u rn ri m):=yb (fun h=>h1 (by first|exact h.1|exact h.2.1|exact h.2.2.1|exact h.2.2.2.1|exact h.2.2.2.2.1|exact h.2.2.2.2.2))
   clear h1
   go_wp2
   go_meet
   case rel=>exact yb ⟨yF Value.bool (HBb.o.trans (xm hb.o)).symm,rfl⟩
  have e1:decide (0 < (m:Int))=false:=by simp;omega
  subst h1
  by_cases h2:CP rn ri=true
  rotate_left
  ·have e2:CP rn ri=false:=by simpa using h2
   have hb:Hid (IM n u rn ri 0):=yb (fun h=>h2 (by first|exact h.1|exact h.2.1|exact h.2.2.1|exact h.2.2.2.1|exact h.2.2.2.2.1|exact h.2.2.2.2.2))
   clear h2
   go_wp2
   go_meet
   case rel=>exact yb ⟨yF Value.bool (HBb.o.trans (xm hb.o)).symm,rfl⟩
  have e2:CP rn ri=true:=h2
  by_cases h3:0<=n
  rotate_left
  ·have e3:decide (n < 0)=true:=by simp;omega
   have hb:Hid (IM n u rn ri 0):=yb (fun h=>h3 (by first|exact h.1|exact h.2.1|exact h.2.2.1|exact h.2.2.2.1|exact h.2.2.2.2.1|exact h.2.2.2.2.2))
   clear h2 h3
   go_wp2
   go_meet
   case rel=>exact yb ⟨yF Value.bool (HBb.o.trans (xm hb.o)).symm,rfl⟩
  have e3:decide (n < 0)=false:=by simp;omega
  by_cases h4:n<=Oo
  rotate_left
  ·have e4:decide (1099511627776 < n)=true:=by simp[Oo] at h4 ⊢;omega
   have hb:Hid (IM n u rn ri 0):=yb (fun h=>h4 (by first|exact h.1|exact h.2.1|exact h.2.2.1|exact h.2.2.2.1|exact h.2.2.2.2.1|exact h.2.2.2.2.2))
   clear h2 h3 h4
   go_wp2
   go_meet
   case rel=>exact yb ⟨yF Value.bool (HBb.o.trans (xm hb.o)).symm,rfl⟩
  have e4:decide (1099511627776 < n)=false:=by simp[Oo] at h4 ⊢;omega
  by_cases h5:0<=u
  rotate_left
  ·have e5:decide (u < 0)=true:=by simp;omega
   have hb:Hid (IM n u rn ri 0):=yb (fun h=>h5 (by first|exact h.1|exact h.2.1|exact h.2.2.1|exact h.2.2.2.1|exact h.2.2.2.2.1|exact h.2.2.2.2.2))
   clear h2 h3 h4 h5
   go_wp2
   go_meet
   case rel=>exact yb ⟨yF Value.bool (HBb.o.trans (xm hb.o)).symm,rfl⟩
  have e5:decide (u < 0)=false:=by simp;omega
  by_cases h6:u<=5
  rotate_left
  ·have e6:decide (5 < u)=true:=by simp;omega
   have hb:Hid (IM n u rn ri 0):=yb (fun h=>h6 (by first|exact h.1|exact h.2.1|exact h.2.2.1|exact h.2.2.2.1|exact h.2.2.2.2.1|exact h.2.2.2.2.2))
   clear h2 h3 h4 h5 h6
   go_wp2
   go_meet
   case rel=>exact yb ⟨yF Value.bool (HBb.o.trans (xm hb.o)).symm,rfl⟩
  have e6:decide (5 < u)=false:=by simp;omega
  have hb:Hid (¬ IM n u rn ri 0):=yb (fun h=>h ⟨rfl,h2,h3,h4,h5,h6⟩)
  clear h2 h3 h4 h5 h6
  go_wp2
  go_meet
  case rel=>exact yb ⟨yF Value.bool (HBb.o.trans (xr hb.o)).symm,rfl⟩
 case rest=>
  obtain ⟨rfl,rfl⟩:=hcut.o
  clear hcut
  have hqr:wc.heap[w.heap.size+1]?=some (.cells #[.int .i64 0,.int .i64 0,.int .i64 0,.int .i64 0,.int .i64 0,.int .i64 0] 70 (0,0)):=HW.o.q
  have HQR:=yb hqr
  cases bb with
  |true=>
   have hr:Hid (res=(Fq,false)):=yb (by rw[HRes.o,yw (yO HBb.o.symm)])
   clear HRes HBb
   obtain ⟨q0,q1,q2,q3,q4,q5⟩:=Ce hqr
   have qf:=fun k=>E7 (n:=k) hqr
   clear hqr
   go_wp2
   have hwr:=Co HQR.o (.int .i64 0) (.int .i64 0) (.int .i64 0) (.int .i64 0) (.int .i64 0) (.int .i64 0)
   exact A3 (c:=Fq.row) rfl rfl hwr.row j4 rfl (by kernel_rfl) ⟨by rw[hr.o];rfl,hwr.below HW.o.below (by omega)⟩
  |false=>
   have hr:Hid (res=(Oq n u,true)):=yb (by rw[HRes.o,yt (qo HBb.o.symm)])
   have hnb:Hid (0<=n∧n<=Oo):=yb (by
    have h:=qo HBb.o.symm
    unfold IM at h
    exact ⟨(Decidable.not_not.1 h).2.2.1,(Decidable.not_not.1 h).2.2.2.1⟩)
   clear HRes HBb hqr
   have HG1:=yb (HG.o.up HW.o.below)
   have HU:Hid (∀W,GU W->Calls Tryz.prog 76 #[.int .i64 u] W fun e w'=>e=.returned (.tuple #[(H9 u).v,.int .i64 (G7 u)])∧Below W.heap.size W w'):=yb (fun W hW=>Tl u W hW)
   have hNq:Oq n u=if Dl / G7 u < n then ⟨H9 u,J2,2⟩ else ⟨H9 u,⟨G7 u*n,1⟩,0⟩:=rfl
   rw[hNq] at hr
   clear hNq
   have hk3:G7 u=1∨G7 u=1000∨G7 u=24:=by
    unfold G7
    split
    ·exact .inr (.inl rfl)
    ·split
     ·exact .inr (.inr rfl)
     ·exact .inl rfl
   generalize G7 u=k at*
   generalize H9 u=d at*
   obtain ⟨dl,dh,da⟩:=d
   unfold Dm.v at HU
   dsimp only at HU
   obtain ⟨t,ht⟩:∃t:Int,t=(1073741824:Int).tdiv k:=⟨_,rfl⟩
   have ht1:t=Dl / k:=by rw[ht];unfold Dl;rw[Int.tdiv_eq_ediv_of_nonneg (by omega)]
   have ht2:(1073741824:Int).tdiv k=t:=ht.symm
   have ht3:wrap64 t=t:=AP (by unfold Dl at ht1;rcases hk3 with rfl|rfl|rfl<;>omega)
   have ht5:(1073741824:Int) / k=t:=ht1.symm
   have hk0:¬ k=0:=by omega
   have hkp:wrap64 (k*n)=k*n:=AP (by have:=hnb.o;unfold Oo at this;rcases hk3 with rfl|rfl|rfl<;>omega)
   rw[<-ht1] at hr
   clear ht ht1 hk3 x0 x1 x2 x3 x4 x5
   obtain ⟨x0,x1,x2,x3,x4,x5⟩:=Ce HW.o.x
   have HX2:Hid (∀w2,Below wc.heap.size wc w2->Nz w [.int .i64 1,.int .i64 n,.int .i64 u,.string rn,.int .i64 ri,.slice a m cap] Fq (w2.alloc (.cells #[.int .i64 dl,.int .i64 dh,.int .i64 da] 68))):=yb (fun w2 h=>(HW.o.up h).up ((yg _ _).alloc (yf _) _))
   go_upto_region 5 with (first|(go_at_call 76;refine (HU.o _ HG1.o).mono ?_;rintro e w2 ⟨rfl,hw2⟩;have HW2:=yb (HX2.o w2 hw2);clear hw2))
   have hdr:(w2.alloc (.cells #[.int .i64 dl,.int .i64 dh,.int .i64 da] 68)).heap[w2.heap.size]?=some (.cells #[.int .i64 dl,.int .i64 dh,.int .i64 da] 68 (0,0)):=World.alloc_heap_new _ _
   generalize w2.alloc (.cells #[.int .i64 dl,.int .i64 dh,.int .i64 da] 68)=W3 at HW2 hdr ⊢
   obtain ⟨d0,d1,d2,df0,df1,df2⟩:=GJ hdr
   have hqr:W3.heap[w.heap.size+1]?=some (.cells #[.int .i64 0,.int .i64 0,.int .i64 0,.int .i64 0,.int .i64 0,.int .i64 0] 70 (0,0)):=HW2.o.q
   obtain ⟨q0,q1,q2,q3,q4,q5⟩:=Ce hqr
   have qf:=fun k=>E7 (n:=k) hqr
   clear hdr hqr
   go_upto_region 6 with fail
   have HW4:=yb (HW2.o.set (q':=⟨⟨dl,dh,da⟩,J2,0⟩) (AR (w.heap.size+1) _ [.int .i64 dl,.int .i64 dh,.int .i64 da] 0 W3 [] [.int .i64 0,.int .i64 0,.int .i64 0] [.int .i64 0,.int .i64 0,.int .i64 0] HW2.o.q rfl rfl))
   clear HW2 q0 q1 q2 q3 q4 q5 qf d0 d1 d2 df0 df1 df2 x0 x1 x2 x3 x4 x5
   simp only[World.setCells,yy,Nat.reduceAdd] at HW4
   generalize (((W3.setCell ⟨w.heap.size+1,0,none⟩ (.int .i64 dl)).setCell ⟨w.heap.size+1,1,none⟩ (.int .i64 dh)).setCell ⟨w.heap.size+1,2,none⟩ (.int .i64 da))=W4 at HW4 ⊢
   have x1:=(Ce HW4.o.x).2.1
   by_cases hlt:t < n
   ·have e1:decide (t < n)=true:=by simpa using hlt
    have hfr:Hid (res=(⟨⟨dl,dh,da⟩,J2,2⟩,true)):=yb (by rw[hr.o,yw hlt])
    clear hlt hr
    go_region
    have HW5:=yb HW4.o.drew
    clear HW4 x1
    generalize W4.drew=W5 at HW5 ⊢
    have x1:=(Ce HW5.o.x).2.1
    have hq5:W5.heap[w.heap.size+1]?=some (.cells #[.int .i64 dl,.int .i64 dh,.int .i64 da,.int .i64 0,.int .i64 0,.int .i64 0] 70 (0,0)):=HW5.o.q
    obtain ⟨q0,q1,q2,q3,q4,q5⟩:=Ce hq5
    have qf:=fun k=>E7 (n:=k) hq5
    have HW6:=yb (HW5.o.set (q':=⟨⟨dl,dh,da⟩,J2,2⟩) (AR (w.heap.size+1) _ [.int .i64 2] 5 W5 [.int .i64 dl,.int .i64 dh,.int .i64 da,.int .i64 0,.int .i64 0] [.int .i64 0] [] hq5 rfl rfl))
    simp only[World.setCells,yy,Nat.reduceAdd] at HW6
    clear hq5
    go_wp2
    have hwr:=Co HW6.o.q (.int .i64 dl) (.int .i64 dh) (.int .i64 da) (.int .i64 0) (.int .i64 0) (.int .i64 2)
    exact A3 (c:=(⟨⟨dl,dh,da⟩,J2,2⟩:Qn).row) rfl rfl hwr.row j4 rfl (by kernel_rfl) ⟨by rw[hfr.o];rfl,hwr.below HW6.o.below (by omega)⟩
   ·have e1:decide (t < n)=false:=by simpa using hlt
    have hfr:Hid (res=(⟨⟨dl,dh,da⟩,⟨k*n,1⟩,0⟩,true)):=yb (by rw[hr.o,yt hlt])
    clear hlt hr
    go_region
    have HW5:=yb HW4.o.drew
    clear HW4 x1
    generalize W4.drew=W5 at HW5 ⊢
    have x1:=(Ce HW5.o.x).2.1
    have hq5:W5.heap[w.heap.size+1]?=some (.cells #[.int .i64 dl,.int .i64 dh,.int .i64 da,.int .i64 0,.int .i64 0,.int .i64 0] 70 (0,0)):=HW5.o.q
    obtain ⟨q0,q1,q2,q3,q4,q5⟩:=Ce hq5
    have qf:=fun k=>E7 (n:=k) hq5
    have HW6:=yb (HW5.o.set (q':=⟨⟨dl,dh,da⟩,⟨k*n,1⟩,0⟩) (AR (w.heap.size+1) _ [.int .i64 (k*n),.int .i64 1] 3 W5 [.int .i64 dl,.int .i64 dh,.int .i64 da] [.int .i64 0,.int .i64 0] [.int .i64 0] hq5 rfl rfl))
    simp only[World.setCells,yy,Nat.reduceAdd] at HW6
    clear hq5
    go_wp2
    have hwr:=Co HW6.o.q (.int .i64 dl) (.int .i64 dh) (.int .i64 da) (.int .i64 (k*n)) (.int .i64 1) (.int .i64 0)
    exact A3 (c:=(⟨⟨dl,dh,da⟩,⟨k*n,1⟩,0⟩:Qn).row) rfl rfl hwr.row j4 rfl (by kernel_rfl) ⟨by rw[hfr.o];rfl,hwr.below HW6.o.below (by omega)⟩
set_option linter.unusedSimpArgs false
def Tn(op left n u:Int)(rn:ByteArray)(ri:Int)(m:Nat):Prop:=3<=op∧op<=6∧left≠0∧m=2∧n=0∧u=0∧CP rn ri=true
theorem Vg(g:Value)(left:Int)(op n u:Int)(rn:ByteArray)(ri:Int)(a:Option Addr)(m cap:Nat)(w:World)(h1:op≠1)(h2:op≠2)(hb:¬ Tn op left n u rn ri m):
  Calls Tryz.prog 38 #[g,.agg #[.int .i64 op,.int .i64 n,.int .i64 u,.string rn,.int .i64 ri,.slice a m cap],.int .i64 left] w (Oy (Fq,false) w):=by
 have e:=yb (Nz.new w [iV op,iV n,iV u,.string rn,iV ri,.slice a m cap])
 have y:=L4 rn ri
 have p:Tryz.prog.eqGuardType Tryz.prog.depth 23=false:=by kernel_rfl
 have i:=yb hb
 have z:(op==1)=false:=by simpa using h1
 have T:(op==2)=false:=by simpa using h2
 clear hb h1 h2
 go_enter Tryz.func38,Tryz.ntmps38
 refine Ae fun K h=>?_
 go_wp2
 refine h.o _ _ ?_
 clear h
 generalize (w.alloc (.cells #[iV op,iV n,iV u,.string rn,iV ri,.slice a m cap] 26)).alloc (.cells jb 70)=W at e ⊢
 obtain ⟨x0,M,G,I,Q,D⟩:=Ce e.o.x
 have f:W.heap[w.heap.size+1]?=some (.cells jb 70 (0,0)):=e.o.q
 have d:=yb f
 obtain ⟨R,O,C,E,v,L⟩:=Ce f
 have P:=fun k=>E7 (n:=k) f
 clear f
 refine Ae fun K h=>?_
 clear h
 go_upto_region 14 with fail
 by_cases h1:3<=op
 rotate_left
 ·have t:decide (op < 3)=true:=by simp<;>omega
  clear h1
  go_wp2
  have b:=Co d.o (iV 0) (iV 0) (iV 0) (iV 0) (iV 0) (iV 0)
  exact A3 (c:=Fq.row) rfl rfl b.row j4 rfl (by kernel_rfl) ⟨rfl,b.below e.o.below (by omega)⟩
 have t:decide (op < 3)=false:=by simp<;>omega
 by_cases h2:op<=6
 rotate_left
 ·have s:decide (6 < op)=true:=by simp<;>omega
  clear h1 h2
  go_wp2
  have b:=Co d.o (iV 0) (iV 0) (iV 0) (iV 0) (iV 0) (iV 0)
  exact A3 (c:=Fq.row) rfl rfl b.row j4 rfl (by kernel_rfl) ⟨rfl,b.below e.o.below (by omega)⟩
 have s:decide (6 < op)=false:=by simp<;>omega
 by_cases h3:left≠0
 rotate_left
 ·have r:(left==0)=true:=by simpa using h3
  clear h1 h2 h3
  go_wp2
  have b:=Co d.o (iV 0) (iV 0) (iV 0) (iV 0) (iV 0) (iV 0)
  exact A3 (c:=Fq.row) rfl rfl b.row j4 rfl (by kernel_rfl) ⟨rfl,b.below e.o.below (by omega)⟩
 have r:(left==0)=false:=by simpa using h3
 by_cases l:m=2
 rotate_left
 ·have B:((m:Int)==2)=false:=by simp<;>omega
  have F:((m:Int) !=2)=true:=by simp<;>omega
  clear h1 h2 h3 l
  go_wp2
  have b:=Co d.o (iV 0) (iV 0) (iV 0) (iV 0) (iV 0) (iV 0)
  exact A3 (c:=Fq.row) rfl rfl b.row j4 rfl (by kernel_rfl) ⟨rfl,b.below e.o.below (by omega)⟩
 subst l
 by_cases h5:n=0
 rotate_left
 ·have J:(n==0)=false:=by simpa using h5
  have S:(n !=0)=true:=by simpa using h5
  clear h1 h2 h3 h5
  go_wp2
  have b:=Co d.o (iV 0) (iV 0) (iV 0) (iV 0) (iV 0) (iV 0)
  exact A3 (c:=Fq.row) rfl rfl b.row j4 rfl (by kernel_rfl) ⟨rfl,b.below e.o.below (by omega)⟩
 subst h5
 by_cases h6:u=0
 rotate_left
 ·have A:(u==0)=false:=by simpa using h6
  have H:(u !=0)=true:=by simpa using h6
  clear h1 h2 h3 h6
  go_wp2
  have b:=Co d.o (iV 0) (iV 0) (iV 0) (iV 0) (iV 0) (iV 0)
  exact A3 (c:=Fq.row) rfl rfl b.row j4 rfl (by kernel_rfl) ⟨rfl,b.below e.o.below (by omega)⟩
 subst h6
 by_cases j:CP rn ri=true
 rotate_left
 ·have N:CP rn ri=false:=by simpa using j
  clear h1 h2 h3 j
  go_wp2
  have b:=Co d.o (iV 0) (iV 0) (iV 0) (iV 0) (iV 0) (iV 0)
  exact A3 (c:=Fq.row) rfl rfl b.row j4 rfl (by kernel_rfl) ⟨rfl,b.below e.o.below (by omega)⟩
 exact absurd ⟨h1,h2,h3,rfl,rfl,rfl,j⟩ i.o
instance:DecidableEq Rf:=fun a b=>decidable_of_iff (a.name=b.name∧a.n=b.n) (by cases a;cases b;simp)
def Nd(u:Us):Rf:=⟨u.name,u.n⟩
mutual
def FB:Ex->List Rf
 |.mk _ _ _ rn ri args=>⟨rn,ri⟩::Ds args
def Ds:List Ex->List Rf
 |[]=> []
 |e::r=>FB e++Ds r
end
def CQ(e:Ks):List Rf:=if BA e.1 then [] else FB e.1
def DA(d:CE):List Rf:=[d.on,d.crop]
def Dj(d:Br):List Rf:=d.on::d.turns.flatMap fun k=> [k.farm]
def CZ(d:AW):List Rf:=[d.farm,d.reach]
def DC(d:CU):List Rf:=[d.farm,d.reach]
def AM(x:Av):List Rf:=(Ax x).flatMap CQ++(((x.farms.flatMap DA++x.rots.flatMap Dj)++x.rights.flatMap CZ)++x.duties.flatMap DC)
def BW(x:Av):List Rf:=AM x++x.reaches.map (·.frm)
def Bh(x:Av):Int:=if AE x=0 then (if BW x=BW (Ah x) then 0 else 170) else AE x
def V0(N:NP)(s b:Nat):Prop:=b=s∨N b
structure L8 (N:Nat->Prop) (s:Nat) (w:World) (u:Us):Prop where
 inS:V0 N s u.b
 name:w.cell? ⟨u.b,u.o,none⟩=some (.string u.name)
 n:w.cell? ⟨u.b,u.o+1,none⟩=some (.int .i64 u.n)
def CB(K:NP)(p:Addr):Prop:=∃b q,p=⟨b,q,none⟩∧K b
def DB(K:NP)(w:World)(p:Addr):Prop:=∃b q,p=⟨b,q,none⟩∧K b∧∃z,w.cell? ⟨b,q,none⟩=some (.int .i64 z)
theorem OD{K:NP}{w V:World}(h:∀b,K b->V.heap[b]?=w.heap[b]?):Wg w (CB K) (DB K w) V:=by
 constructor
 ·rintro p ⟨b,q,rfl,a⟩;exact Ab (h b a)
 ·rintro p ⟨b,q,rfl,a,z,c⟩;exact ⟨z,(Ab (h b a)).trans c⟩
section
variable{N K:NP}{w:World}{s:Nat}
mutual
theorem Mv(lt:Int):∀(e:Ex) (b o:Nat) (cs:LV),V0 N s b->AG N w e cs->w.rangeAt b o cs->(∀u∈(BY w lt e b o).1,L8 N s w u)∧((BY w lt e b o).2=true->(BY w lt e b o).1.map Nd=FB e)
 |.mk op n u rn ri args,b,o,cs,hb,hv,hr=>by
  rw[AG] at hv
  obtain ⟨a,cap,rfl,h2,h3,f⟩:=hv
  obtain ⟨l,r1,r2,h,i,j⟩:=Bp hr
  obtain ⟨k,g⟩:=Mw lt args a args.length cap 0 f
  rw[BY]
  by_cases hs:Nv op args.length=true
  ·rw[yw hs,j]
   refine ⟨fun v c=>?_,fun d=>?_⟩
   ·rcases yI.1 c with rfl|c
    ·exact ⟨hb,h,i⟩
    ·exact k v c
   ·rw[FB,zv,g d];rfl
  ·rw[yt hs]
   exact ⟨fun v c=>(by cases c),fun d=>(by cases d)⟩
theorem Mw(lt:Int):∀(l:List Ex) (a:Option Addr) (n cap i:Nat),D8 N w a i l->(∀u∈(Bv w lt l (some (.slice a n cap)) i).1,L8 N s w u)∧((Bv w lt l (some (.slice a n cap)) i).2=true->(Bv w lt l (some (.slice a n cap)) i).1.map Nd=Ds l)
 |[],a,n,cap,i,h=>by rw[Bv];exact ⟨fun v c=>(by cases c),fun _=>rfl⟩
 |e::r,a,n,cap,i,h=>by
  rw[D8] at h
  obtain ⟨⟨b,o,cs,rfl,h1,h2,h3⟩,h5⟩:=h
  obtain ⟨g,m⟩:=Mv lt e b (o+i*6) cs (.inr h1) h3 h2
  obtain ⟨k,j⟩:=Mw lt r (some ⟨b,o,none⟩) n cap (i+1) h5
  rw[Bv]
  by_cases d:(BY w lt e b (o+i*6)).2=true
  ·simp only[d,zD]
   refine ⟨fun v c=>(yz.1 c).elim (g v) (k v),fun f=>?_⟩
   rw[zF,m d,j f,Ds]
  ·simp only[d]
   refine ⟨fun v c=>g v (by simpa using c),fun f=>absurd f (by simp)⟩
end
mutual
theorem Tr(hN:∀b,N b->K b):∀(e:Ex) (b o:Nat) (cs:LV),K b->AG N w e cs->w.rangeAt b o cs->Rn w (CB K) e b o
 |.mk op n u rn ri args,b,o,cs,hb,hv,hr=>by
  rw[AG] at hv
  obtain ⟨a,cap,rfl,h2,h3,f⟩:=hv
  obtain ⟨d,r1,r2,h,g,c⟩:=Bp hr
  rw[Rn]
  exact ⟨a,cap,⟨d,_,_,rfl,hb⟩,⟨c,_,_,rfl,hb⟩,h2,QU hN args a 0 f⟩
theorem QU(hN:∀b,N b->K b):∀(l:List Ex) (a:Option Addr) (i:Nat),D8 N w a i l->JT w (CB K) a i l
 |[],a,i,h=>by rw[JT];trivial
 |e::r,a,i,h=>by
  rw[D8] at h
  rw[JT]
  obtain ⟨⟨b,o,cs,rfl,h1,h2,h3⟩,h5⟩:=h
  exact ⟨⟨b,o,rfl,Tr hN e b (o+i*6) cs (hN b h1) h3 h2⟩,QU hN r _ (i+1) h5⟩
end
end
theorem Mx:∀ {l:List (List Us × Bool)},(BC l).2=true->(BC l).1=l.flatMap (·.1)∧∀p∈l,p.2=true
 |[],_=>by simp[BC]
 |y::r,h=>by
  have e:BC (y::r)=if y.2 then (y.1++(BC r).1,(BC r).2) else (y.1,false):=rfl
  rw[e] at h ⊢
  by_cases h1:y.2=true
  ·rw[yw h1] at h ⊢
   obtain ⟨a,c⟩:=Mx h
   exact ⟨by rw[yW,<-a],fun p b=>(yI.1 b).elim (fun e=>e▸h1) (c p)⟩
  ·rw[yt h1] at h;cases h
theorem Fl{α:Type}{l:List α}{n:Nat}(b:n=l.length){F:Nat->List Us}{f:α->List Rf}(h:∀i (hi:i < l.length),(F i).map Nd=f l[i]):((List.range n).flatMap F).map Nd=l.flatMap f:=by
 have a:∀k,k<=l.length->((List.range k).flatMap F).map Nd=(l.take k).flatMap f:=by
  intro k
  induction k with
  |zero=>simp
  |succ k ih=>
   intro c
   rw[Aj,zF,ih (by omega),h k (by omega),yJ (by omega),zK]
   simp
 rw[b,a _ (yf _),yT]
section
variable{N:NP}{w:World}{L:Bt}{cs:LV}{x:Av}
theorem OE{s:Nat}:∀ {l:List (Array Value)} {m:List Ks},AB (Wl N s w) l m->(∀p∈List.zipWith (Cl w) l m,∀u∈p.1,L8 N s w u)∧((∀p∈List.zipWith (Cl w) l m,p.2=true)->((List.zipWith (Cl w) l m).flatMap (·.1)).map Nd=m.flatMap CQ)
 |[],[],_=>⟨fun p f=>(by cases f),fun _=>rfl⟩
 |a::l,e::m,hA=>by
  rw[AB] at hA
  obtain ⟨⟨b,o,c,rfl,hb,hr,j⟩,h2⟩:=hA
  obtain ⟨r,k⟩:=OE h2
  obtain ⟨q,n⟩:=Mv e.2 e.1 b o c hb j hr
  have d:(∀u∈(Cl w #[.pointer (some ⟨b,o,none⟩),.int .i64 e.2] e).1,L8 N s w u)∧((Cl w #[.pointer (some ⟨b,o,none⟩),.int .i64 e.2] e).2=true->(Cl w #[.pointer (some ⟨b,o,none⟩),.int .i64 e.2] e).1.map Nd=CQ e):=by
   unfold Cl CQ
   by_cases g:BA e.1=true
   ·simp[g]
   ·rw[yt g,yt g];exact ⟨q,n⟩
  rw[xX]
  refine ⟨fun p f=>(yI.1 f).elim (fun h=>h▸d.1) (r p),fun i=>?_⟩
  rw[yW,zF,d.2 (i _ (by simp)),k (fun p f=>i p (by simp[f])),yW]
 |[],_::_,hA=>by simp[AB] at hA
 |_::_,[],hA=>by simp[AB] at hA
theorem EK{h:Au}{b o sz i c:Nat}{cs0 p q:LV}{r:Rf}{s:Nat}(to at_:Int)(e:h.a=some ⟨b,o,none⟩)(hN:N b)(hr:w.rangeAt b (o+i*sz) cs0)(f:cs0=p++(AU r++q))(d:p.length=c):L8 N s w (CV (h.at sz i c) to at_ r):=by
 subst f
 have h1:=CY hr
 rw[d] at h1
 unfold CV
 rw[AO e]
 exact ⟨.inr hN,h1 0 _ rfl,h1 1 _ rfl⟩
theorem PX(h:BH N w L cs x):(∀u∈Cc L x,L8 N L.s w u)∧(Cc L x).map Nd=((x.farms.flatMap DA++x.rots.flatMap Dj)++x.rights.flatMap CZ)++x.duties.flatMap DC:=by
 constructor
 ·intro u a
  unfold Cc at a
  simp only[yz] at a
  rcases a with ((a|a)|a)|a
  ·obtain ⟨i,hi,a⟩:=yY.1 a
   have j:i < x.farms.length:=by rw[<-h.farms.1];exact zg.1 hi
   obtain ⟨b,o,c,g1,e,n,g,_,_,_,c1,rfl,t⟩:=h.farms.2.2 i j
   unfold Ei at a
   rw[yk j] at a
   simp only[yI,yZ,zH] at a
   generalize x.farms[i]=d at*
   rcases a with rfl|rfl
   ·exact EK (p:=[.string d.name]) _ _ g1 e g rfl rfl
   ·exact EK (p:=.string d.name::(AU d.on++(.bool d.river::c1))) (q:=[]) _ _ g1 e g (by simp) (by simp[Aw,t.len])
  ·obtain ⟨i,hi,a⟩:=yY.1 a
   have j:i < x.rots.length:=by rw[<-h.rots.1];exact zg.1 hi
   obtain ⟨b,o,c,g1,e,n,g,_,_,c0,c1,c2,rfl,v,z,y,m⟩:=h.rots.2.2 i j
   unfold Gm at a
   rw[yk j] at a
   generalize x.rots[i]=d at*
   rcases yI.1 a with rfl|a
   ·exact EK (p:=[.string d.name]) _ _ g1 e g rfl rfl
   ·obtain ⟨k,r,a⟩:=yY.1 a
    have l:k < d.turns.length:=by rw[<-m.1];exact zg.1 r
    obtain ⟨b,o,c,g1,e,n,g,_,c1,rfl,t⟩:=m.2.2 k l
    unfold EY at a
    rw[yk l] at a
    simp only[yI,yZ,zH] at a
    rw[a]
    exact EK (p:=[]) _ _ g1 e g rfl rfl
  ·obtain ⟨i,hi,a⟩:=yY.1 a
   have j:i < x.rights.length:=by rw[<-h.rights.1];exact zg.1 hi
   obtain ⟨b,o,c,g1,e,n,g,_,_,_,c0,c1,c2,c3,c4,rfl,_⟩:=h.rights.2.2 i j
   unfold CJ at a
   rw[yk j] at a
   simp only[yI,yZ,zH] at a
   generalize x.rights[i]=d at*
   rcases a with rfl|rfl
   ·exact EK (p:=[iV d.kind,.string d.name]) _ _ g1 e g rfl rfl
   ·exact EK (p:=iV d.kind::.string d.name::AU d.farm) _ _ g1 e g rfl rfl
  ·obtain ⟨i,hi,a⟩:=yY.1 a
   have j:i < x.duties.length:=by rw[<-h.duties.1];exact zg.1 hi
   obtain ⟨b,o,c,g1,e,n,g,_,_,_,c0,rfl,_⟩:=h.duties.2.2 i j
   unfold E2 at a
   rw[yk j] at a
   simp only[yI,yZ,zH] at a
   generalize x.duties[i]=d at*
   rcases a with rfl|rfl
   ·exact EK (p:=[.string d.name]) _ _ g1 e g rfl rfl
   ·exact EK (p:=.string d.name::AU d.farm) _ _ g1 e g rfl rfl
 ·unfold Cc
  rw[zF,zF,zF,Fl h.farms.1 (f:=DA) fun i hi=>?_,Fl h.rots.1 (f:=Dj) fun i hi=>?_,Fl h.rights.1 (f:=CZ) fun i hi=>?_,Fl h.duties.1 (f:=DC) fun i hi=>?_]
  ·unfold E2;rw[yk hi];rfl
  ·unfold CJ;rw[yk hi];rfl
  ·obtain ⟨_,_,_,_,_,_,_,_,_,_,_,_,_,_,_,_,m⟩:=h.rots.2.2 i hi
   unfold Gm;rw[yk hi]
   simp only[zv]
   rw[Fl m.1 (f:=fun k:Cb=> [k.farm]) fun k r=>?_]
   ·rfl
   ·unfold EY;rw[yk r];rfl
  ·unfold Ei;rw[yk hi];rfl
theorem My(h:BH N w L cs x)(hr:w.rangeAt L.s 0 cs):(∀u∈(BQ w L x).1,L8 N L.s w u)∧((BQ w L x).2=true->(BQ w L x).1.map Nd=AM x):=by
 obtain ⟨f,d⟩:=OE (Io h hr)
 obtain ⟨e,g⟩:=PX h
 constructor
 ·intro u b
  obtain ⟨p,a,b⟩:=II b
  unfold En at a
  rcases yz.1 a with a|a
  ·exact f p a u b
  ·simp only[ze] at a
   rw[a] at b
   simp only at b
   split at b
   ·exact e u b
   ·cases b
 ·intro k
  obtain ⟨i,c⟩:=Mx k
  unfold BQ
  rw[i]
  unfold En
  have j:BZ x=true:=by
   have:=c (if BZ x then Cc L x else [],BZ x) (by unfold En;simp)
   exact this
  rw[zK,zF]
  unfold Dx
  rw[d (fun p a=>c p (by unfold En Dx;simp[a]))]
  simp only[yW,zt,yV,j,zD]
  rw[g];rfl
theorem Nf(h:BH N w L cs x)(c:BD x=true):(Cc L x).length<=1000000:=by
 obtain ⟨g,f,p,l,s,o,q,d,_⟩:=Fj c
 unfold Cc
 simp only[ym]
 have r:((List.range L.farms.n).flatMap (Ei L.farms x.farms)).length<=L.farms.n*2:=Fx _ fun i=>by unfold Ei;split<;>simp
 have m:((List.range L.rots.n).flatMap (Gm L x.rots)).length<=L.rots.n*66:=Oc _ fun i hi=>by
  have a:i < x.rots.length:=by rw[<-h.rots.1];exact hi
  obtain ⟨_,_,_,_,_,_,_,_,_,_,_,_,_,_,_,_,e⟩:=h.rots.2.2 i a
  have b:((List.range (A2 L i).n).flatMap (EY (A2 L i) (x.rots[i]).turns)).length<=(A2 L i).n*1:=Fx _ fun k=>by unfold EY;split<;>simp
  have:=d _ (yM a)
  have:=e.1
  unfold Gm
  rw[yk a]
  simp only[yx]
  omega
 have b:((List.range L.rights.n).flatMap (CJ L.rights x.rights)).length<=L.rights.n*2:=Fx _ fun i=>by unfold CJ;split<;>simp
 have j:((List.range L.duties.n).flatMap (E2 L.duties x.duties)).length<=L.duties.n*2:=Fx _ fun i=>by unfold E2;split<;>simp
 have:=h.farms.1;have:=h.rots.1;have:=h.rights.1;have:=h.duties.1
 omega
theorem OF(h:BH N w L cs x)(hr:w.rangeAt L.s 0 cs){Bu:Nat}(g:w.cell? ⟨Bu,0,none⟩=some (.pointer (some ⟨L.s,0,none⟩)))(m:BD x=true):Ku N w (CB fun b=>V0 N L.s b∨b=Bu) (DB (fun b=>V0 N L.s b∨b=Bu) w) Bu L x:=by
 refine ⟨h.ok,Kt h hr g,⟨Bu,0,rfl,.inr rfl⟩,fun j _ _=>⟨L.s,j,rfl,.inl (.inl rfl)⟩,fun i hi=>?_,fun i hi=>?_,fun i hi=>?_,?_,h.farms.1,h.rots.1,fun i hi=>?_,h.rights.1,h.duties.1,Od (Fj m).1,Nf h m⟩
 ·obtain ⟨b,o,c,g1,f,_⟩:=h.rots.2.2 i (by rw[<-h.rots.1];exact hi)
  rw[AO g1]
  exact ⟨_,_,rfl,.inl (.inr f)⟩
 ·obtain ⟨b,o,c,g1,f,q,l,_,_,_,c1,rfl,u⟩:=h.farms.2.2 i hi
  rw[AO g1]
  exact ⟨⟨_,_,rfl,.inl (.inr f)⟩,l 3 _ rfl⟩
 ·obtain ⟨b,o,c,g1,f,q,l,_,_,_,c0,c1,c2,c3,c4,rfl,_⟩:=h.rights.2.2 i hi
  rw[AO g1]
  exact ⟨⟨_,_,rfl,.inl (.inr f)⟩,l 0 _ rfl⟩
 ·refine AB.mono (fun a e n=>?_) (Io h hr)
  obtain ⟨b,o,c,rfl,hb,d,k⟩:=n
  have t:=Tr (K:=fun b=>V0 N L.s b∨b=Bu) (fun b hb=>.inl (.inr hb)) e.1 b o c (.inl hb) k d
  obtain ⟨a,cap,rfl,z,y,v⟩:=k.cells
  obtain ⟨C,r1,r2,A,r,B⟩:=Bp d
  exact ⟨b,o,_,rfl,d,k,t,⟨_,_,rfl,.inl hb⟩,⟨_,_,rfl,.inl hb⟩,⟨_,_,rfl,.inl hb⟩,⟨_,_,rfl,.inl hb,_,r⟩,fun _=>⟨_,_,rfl,.inl hb⟩⟩
 ·obtain ⟨_,_,_,_,_,_,_,_,_,_,_,_,_,_,_,_,p⟩:=h.rots.2.2 i hi
  exact p.1
end
def Cs(B:Nat)(w:World)(v:Value)(l:List Rf):Prop:=w.ownsRow B 23 2 v l.length (l.flatMap AU)
theorem RU(B:Nat)(w:World):Cs B w (.slice none 0 0) []:=⟨rfl,.inl ⟨rfl,rfl⟩⟩
theorem Cs.up{B:Nat}{w w':World}{v:Value}{l:List Rf}(h:Cs B w v l)(hb:∀g,v.ownBlock=some g->g < w.heap.size->w'.heap[g]?=w.heap[g]?):Cs B w' v l:=by
 obtain ⟨h1,h2⟩:=h
 refine ⟨h1,h2.imp id ?_⟩
 rintro ⟨g,cap,a,rfl,b,h5,h6⟩
 exact ⟨g,cap,a,rfl,b,(hb g rfl (yd.1 h5).1).trans h5,h6⟩
theorem Ng{B:Nat}{W:World}{v:Value}{l:List Rf}(d:Cs B W v l)(r:Rf)(ty:TypeId)(g c:Nat)(F:W.heap[g]?=some (.cells #[.string r.name,.int .i64 r.n] 23 (0,0)))(y:l.length+1<=1000000000){v':Value}{w':World}
 (a:(Builtin.append_ #[81,81] ty #[v,.slice (some ⟨g,0,none⟩) 1 c]).run Tryz.prog W=.ok v' w'):v'.ownBlock=v.ownBlock∨v'.ownBlock=some W.heap.size:=by
 have h:(Tryz.prog.info? 23).map (fun i=>(i.zero,i.size,i.bytes))=some (some (.agg #[.string ⟨#[]⟩,iV 0]),2,24):=by kernel_rfl
 obtain ⟨q,hi,o,e,p⟩:=info_parts h
 have b:∀j u,(AU r)[j]?=some u->W.cell? (((aV g 0):Addr).add j)=some u:=fun j u z=>by
  rw[zB]
  simp only[World.cell?,F]
  unfold AU at z
  simpa using z
 have s:(AU r).length=1*q.size:=by rw[e];rfl
 rcases d.2 with ⟨rfl,G⟩|⟨k,cap,x,rfl,D,C,E,A,w,t⟩
 ·rw[run_append_nil W 81 ty 23 q _ j6 hi o (aV g 0) 1 c (AU r) s b (by omega) (by omega) (by rw[p];omega)] at a
  cases a
  exact .inr rfl
 ·by_cases m:l.length+1<=cap
  ·rw[run_append_room W 81 ty 23 q j6 hi k l.length cap x C (aV g 0) 1 c (AU r) s b (Es r) m (by rw[e,w];show l.length*2+2<=cap*2;omega)] at a
   cases a
   exact .inl rfl
  ·have f:∀j u,(l.flatMap AU)[j]?=some u->W.cell? (((aV k 0):Addr).add j)=some u:=World.ownsRow.cells d (g:=k) rfl
   rw[run_append_grow W 81 ty 23 q _ j6 hi o (aV k 0) l.length cap (l.flatMap AU) (by rw[e];exact d.1) f (aV g 0) 1 c (AU r) s b (by omega) (by omega) (growslice_fits (by omega) (by rw[p];omega))] at a
   cases a
   exact .inr rfl
theorem EC{o:Oper}{a:Act}{K:Act->World->Prop}{Q:QT}{W:World}(B:Nat)(s x:Operand)(A:o.op=.call {callee:=.builtin .append,args:=#[s,x],argTypes:=#[81,81]})
 (v:Value)(l:List Rf)(hs:a.eval s=v)(b:Cs B W v l)(r:Rf)(g c:Nat)(z:a.eval x=.slice (some ⟨g,0,none⟩) 1 c)(w:W.heap[g]?=some (.cells #[.string r.name,.int .i64 r.n] 23 (0,0)))(k:l.length+1<=1000000000)(d:B<=W.heap.size)
 (h:∀v' w',Cs B w' v' (l++[r])->W.grownBy w' v.ownBlock->(v'.ownBlock=v.ownBlock∨v'.ownBlock=some W.heap.size)->K (a.put o.dst v') w'):Oper.wp Tryz.prog o a W K Q:=by
 have e:(Tryz.prog.info? 23).map (fun i=>(i.zero,i.size,i.bytes))=some (some (.agg #[.string ⟨#[]⟩,iV 0]),2,24):=by kernel_rfl
 obtain ⟨y,hi,p,m,q⟩:=info_parts e
 have f:∀j u,(AU r)[j]?=some u->W.cell? (((aV g 0):Addr).add j)=some u:=fun j u t=>by
  rw[zB]
  simp only[World.cell?,w]
  unfold AU at t
  simpa using t
 obtain ⟨v',w',hr,h2,h3,_⟩:=run_append_own (P:=Tryz.prog) W B 81 o.type 23 y _ 2 24 j6 hi p m q rfl (by decide) v l.length _ b (aV g 0) 1 c (AU r) rfl f (Es r) (by unfold maxLen;omega) (by omega) d
 have hb:=Ng b r o.type g c w k hr
 unfold Oper.wp
 simp[execOp,A,resolve,invoke,builtin,hs,z,hr,Result.andThen]
 refine h v' w' ?_ h3 hb
 unfold Cs
 rw[ym,zK]
 simpa using h2
structure Ts (W:World) (base:Nat) (va:Value) (ls:List Rf) (r:Rf) (w1:World) (v:Value):Prop where
 own:Cs base w1 v (ls++[r])
 grown:W.grownBy w1 va.ownBlock
 blk:v.ownBlock=va.ownBlock∨∃g,v.ownBlock=some g∧W.heap.size<=g
def Uv(w:World)(v:Value)(r:Rf):Prop:=∃g,v=.slice (some ⟨g,0,none⟩) 1 1∧w.heap[g]?=some (.cells #[.string r.name,.int .i64 r.n] 23 (0,0))
theorem Uv.up{w w':World}{v:Value}{r:Rf}(h:Uv w v r)(hb:Below w.heap.size w w'):Uv w' v r:=by
 obtain ⟨g,h1,h2⟩:=h
 exact ⟨g,h1,(hb.block g (yd.1 h2).1).trans h2⟩
structure OH (W:World) (base:Nat) (va:Value) (ls:List Rf) (r:Rf) (Bx s24 s25:Nat) (l:Array Bool) (tm:Array Value) (w:World):Prop where
 one:l.getD 6 false=false->Below W.heap.size W w∧(l.getD 5 false=true->Uv w (tm.getD s24 undef) r)
 two:l.getD 6 false=true->l.getD 7 false=false->Ts W base va ls r w (tm.getD s25 undef)
 three:l.getD 7 false=true->∃w1 v,Ts W base va ls r w1 v∧w=w1.setCell ⟨Bx,0,none⟩ v
theorem OH.quiet{W:World}{base:Nat}{va:Value}{ls:List Rf}{r:Rf}{Bx a b:Nat}{l:Array Bool}{tm:Array Value}{w w2:World}{i t:Nat}{v:Value}(h:OH W base va ls r Bx a b l tm w)(f:l.getD 6 false=false)(k:l.getD 7 false=false)(c:i≠5)(d:i≠6)(e:i≠7)(j:t < a)(hb:Below w.heap.size w w2):OH W base va ls r Bx a b (l.setIfInBounds i true) (tm.setIfInBounds t v) w2:=by
 obtain ⟨h1,h2⟩:=h.one f
 refine ⟨fun _=>⟨h1.trans (hb.mono h1.size),fun h5=>?_⟩,fun h6=>?_,fun g=>?_⟩
 ·rw[A8 c] at h5
  rw[Bn (Nat.ne_of_lt j)]
  exact (h2 h5).up hb
 ·rw[A8 d,f] at h6;cases h6
 ·rw[A8 e,k] at g;cases g
def VO(va:Value)(b6 ub uo:Nat)(r:Rf)(j:Nat)(v:Value)(_:World):Prop:=match j with
 |0=>v=va
 |1=>v=.pointer (some ⟨b6,0,none⟩)
 |2=>v=.pointer (some ⟨ub,uo,none⟩)
 |3=>v=.pointer (some ⟨ub,uo,none⟩)
 |4=>v=.agg #[.string r.name,.int .i64 r.n]
 |_=>True
theorem Wp{N:Act}{W0:World}{Q:QT}{l n Bx b6 ub uo base:Nat}{va:Value}{ls:List Rf}{r:Rf}(ops:Array Oper)(E:DQ Tryz.f17 7=some ops)
 (V:N.tmps.getD 4 undef=.pointer (some ⟨Bx,0,none⟩))(aa:N.tmps.getD 6 undef=.pointer (some ⟨b6,0,none⟩))(hz:N.tmps.size=64)
 (U:Bx < W0.heap.size)(a8:b6 < W0.heap.size)(T:ub < W0.heap.size)(O:∃u,W0.heap[Bx]?=some (.cells #[u] 81 (0,0)))(s:W0.cell? ⟨Bx,0,none⟩=some va)(C:W0.cell? ⟨b6,0,none⟩=some (.pointer (some ⟨ub,uo,none⟩)))
 (x:W0.cell? ⟨ub,uo,none⟩=some (.string r.name))(D:W0.cell? ⟨ub,uo+1,none⟩=some (.int .i64 r.n))(F:Cs base W0 va ls)(P:ls.length+1<=1000000000)(I:base<=W0.heap.size)(ab:Bx < base)
 (hQ:∀(a:Act) w1 v,a.tmps.size=64->a.defers=N.defers->(∀t,(t < 19∨25 < t)->a.tmps.getD t undef=N.tmps.getD t undef)->Ts W0 base va ls r w1 v->Q .normal a (w1.setCell ⟨Bx,0,none⟩ v)):
  (Code.region 7 ops true).wpIn (Fence.wide.inRound l) n Tryz.prog Q N W0:=by
 obtain rfl:=yi ((rfl:DQ Tryz.f17 7=some _).symm.trans E)
 clear E
 refine Ga (by kernel_rfl) (OH W0 base va ls r Bx 24 25) (VO va b6 ub uo r) (fun _ _ _=>True) (by kernel_rfl) (by rw[hz];kernel_rfl) (by kernel_rfl) (by kernel_rfl) (fun _ j v w w' _ _ _ h=>by unfold VO at h ⊢;exact h) ⟨fun _=>⟨(yg _ _).drew,fun h=>(by cases h)⟩,fun h=>(by cases h),fun h=>(by cases h)⟩ ?_ ?_
 ·intro ix b a w' hM f o A
  have y:=yb hM.ext
  have K:=(yd.1 A).1
  have J:=hM.size
  have H:b.getD 6 false=false->b.getD 7 false=false:=fun i=>by
   rw[yn];intro B
   have:=A1 hM.down 8 7 6 (by kernel_rfl) B
   rw[i] at this;cases this
  match ix,K with
  |0,_=>
   have d:=hM.old f 4 (by kernel_rfl) _ V
   have i:b.getD 6 false=false:=by
    rw[yn];intro h6
    have:=A1 hM.down 8 6 0 (by kernel_rfl) h6
    rw[hM.not_yet f] at this;cases this
   have hb:=(y.o.one i).1
   have q:=yb i
   have m:=yb (H i)
   clear i
   have c:=(hb.cell (p:=(aV Bx 0)) U).trans s
   clear s x D C
   obtain rfl:=yi A
   go_simp
   exact ⟨_,rfl,y.o.quiet q.o m.o (by decide) (by decide) (by decide) (by decide) (yg _ _),trivial,rfl⟩
  |1,_=>
   have d:=hM.old f 6 (by kernel_rfl) _ aa
   have i:b.getD 6 false=false:=by
    rw[yn];intro h6
    have:=A1 hM.down 8 6 1 (by kernel_rfl) h6
    rw[hM.not_yet f] at this;cases this
   have hb:=(y.o.one i).1
   have q:=yb i
   have m:=yb (H i)
   clear i s x D C
   obtain rfl:=yi A
   go_simp
   exact ⟨_,rfl,y.o.quiet q.o m.o (by decide) (by decide) (by decide) (by decide) (yg _ _),trivial,rfl⟩
  |2,_=>
   have d:a.tmps[20]?.getD undef=pV b6 0:=hM.dep f 1 20 (by kernel_rfl) (by kernel_rfl)
   have i:b.getD 6 false=false:=by
    rw[yn];intro h6
    have:=A1 hM.down 8 6 2 (by kernel_rfl) h6
    rw[hM.not_yet f] at this;cases this
   have hb:=(y.o.one i).1
   have q:=yb i
   have m:=yb (H i)
   clear i
   have c:=(hb.cell (p:=(aV b6 0)) a8).trans C
   clear s x D C
   obtain rfl:=yi A
   go_simp
   exact ⟨_,rfl,y.o.quiet q.o m.o (by decide) (by decide) (by decide) (by decide) (yg _ _),trivial,rfl⟩
  |3,_=>
   have d:a.tmps[21]?.getD undef=pV ub uo:=hM.dep f 2 21 (by kernel_rfl) (by kernel_rfl)
   have i:b.getD 6 false=false:=by
    rw[yn];intro h6
    have:=A1 hM.down 8 6 3 (by kernel_rfl) h6
    rw[hM.not_yet f] at this;cases this
   have hb:=(y.o.one i).1
   have q:=yb i
   have m:=yb (H i)
   clear i s x D C
   obtain rfl:=yi A
   go_simp
   exact ⟨_,rfl,y.o.quiet q.o m.o (by decide) (by decide) (by decide) (by decide) (yg _ _),trivial,rfl⟩
  |4,_=>
   have d:a.tmps[22]?.getD undef=pV ub uo:=hM.dep f 3 22 (by kernel_rfl) (by kernel_rfl)
   have i:b.getD 6 false=false:=by
    rw[yn];intro h6
    have:=A1 hM.down 8 6 4 (by kernel_rfl) h6
    rw[hM.not_yet f] at this;cases this
   have hb:=(y.o.one i).1
   have q:=yb i
   have m:=yb (H i)
   clear i
   have c:=(hb.cell (p:=(aV ub uo)) T).trans x
   have c1:=(hb.cell (p:=(aV ub (uo+1))) T).trans D
   clear s x D C
   obtain rfl:=yi A
   go_simp
   exact ⟨_,rfl,y.o.quiet q.o m.o (by decide) (by decide) (by decide) (by decide) (yg _ _),trivial,rfl⟩
  |5,_=>
   have d:a.tmps[23]?.getD undef=.agg #[.string r.name,iV r.n]:=hM.dep f 4 23 (by kernel_rfl) (by kernel_rfl)
   have i:b.getD 6 false=false:=by
    rw[yn];intro h6
    have:=A1 hM.down 8 6 5 (by kernel_rfl) h6
    rw[hM.not_yet f] at this;cases this
   have hb:=(y.o.one i).1
   have q:=yb i
   have m:=yb (H i)
   clear i
   have HB:=yb hb
   have X:Hid (5 < b.size):=yb (by rw[J];show 5 < 8;omega)
   have Z:Hid (24 < a.tmps.size):=yb (by rw[hM.tmps,hz];decide)
   clear s x D C hb
   obtain rfl:=yi A
   go_simp
   refine ⟨_,rfl,⟨fun _=>⟨HB.o.alloc HB.o.size _,fun _=>⟨w'.heap.size,?_,World.alloc_heap_new _ _⟩⟩,fun h6=>?_,fun B=>?_⟩,trivial,trivial⟩
   ·show (a.put (some 24) (.slice (some (aV w'.heap.size 0)) 1 1)).tmps.getD 24 undef=_
    exact Ay _ Z.o
   ·rw[A8 (by decide),q.o] at h6;cases h6
   ·rw[A8 (by decide),m.o] at B;cases B
  |6,_=>
   have d:a.tmps[19]?.getD undef=va:=hM.dep f 0 19 (by kernel_rfl) (by kernel_rfl)
   have i:=hM.not_yet f
   have l5:b.getD 5 false=true:=hM.came f 5 (by kernel_rfl)
   obtain ⟨g,S,hg⟩:=(y.o.one i).2 l5
   have hb:=(y.o.one i).1
   have X:Hid (6 < b.size):=yb (by rw[J];show 6 < 8;omega)
   have Z:Hid (25 < a.tmps.size):=yb (by rw[hM.tmps,hz];decide)
   have m:=yb (H i)
   rw[yE] at S
   refine EC base (.tmp 19) (.tmp 24) (by obtain rfl:=yi A;rfl) va ls (by simpa[Act.eval] using d) (F.up fun k hk K=>hb.block k K) r g 1 (by simpa[Act.eval] using S) hg P (yu I hb.size) ?_
   intro v' w5 M z a0
   obtain rfl:=yi A
   refine ⟨v',rfl,⟨fun h6=>?_,fun _ _=>⟨?_,?_,?_⟩,fun B=>?_⟩,trivial,trivial⟩
   ·simp[X.o] at h6
   ·show Cs base w5 ((a.put (some 25) v').tmps.getD 25 undef) _
    rw[Ay _ Z.o];exact M
   ·exact ⟨z.os.trans hb.os,z.tape.trans hb.tape,z.output.trans hb.output,yu hb.size z.size,fun k hk a7=>(z.block k (yv hk hb.size) a7).trans (hb.block k hk)⟩
   ·show ((a.put (some 25) v').tmps.getD 25 undef).ownBlock=_∨∃g,((a.put (some 25) v').tmps.getD 25 undef).ownBlock=some g∧_
    rw[Ay _ Z.o]
    exact a0.imp id (fun h=>⟨_,h,hb.size⟩)
   ·rw[A8 (by decide),m.o] at B;cases B
  |7,_=>
   have d:=hM.old f 4 (by kernel_rfl) _ V
   have l6:b.getD 6 false=true:=hM.came f 6 (by kernel_rfl)
   have a2:=hM.not_yet f
   have L:=y.o.two l6 a2
   have G:w'.heap[Bx]?=W0.heap[Bx]?:=L.grown.block Bx U (fun e=>by
    have:=(F.lt Bx e.symm).1;omega)
   obtain ⟨u0,W⟩:=O
   have c:=Ab (o:=0) G
   have fz:w'.frozen? (aV Bx 0)=false:=by unfold World.frozen?;rw[G,W];rfl
   have c2:w'.cell? (aV Bx 0)=some va:=c.trans s
   obtain ⟨v,Y⟩:∃v,v=a.tmps.getD 25 undef:=⟨_,rfl⟩
   rw[<-Y] at L
   have HP:=yb L
   rw[yE] at Y
   replace Y:=Y.symm
   have X:Hid (7 < b.size):=yb (by rw[J];show 7 < 8;omega)
   have a6:=yb l6
   obtain ⟨ad,nn,cc,rfl⟩:∃ad n c,v=.slice ad n c:=by
    rcases L.own.2 with ⟨rfl,_⟩|⟨_,_,_,rfl,_⟩
    ·exact ⟨_,_,_,rfl⟩
    ·exact ⟨_,_,_,rfl⟩
   clear s x D C L c G W l6
   obtain rfl:=yi A
   go_simp
   refine ⟨undef,rfl,⟨fun h6=>?_,fun _ B=>?_,fun _=>⟨w',_,HP.o,rfl⟩⟩,trivial,trivial⟩
   ·rw[A8 (by decide),a6.o] at h6;cases h6
   ·simp[X.o] at B
 ·intro b a w' R hM
  obtain ⟨w1,v,L,rfl⟩:=hM.ext.three (R 7 (show 7 < 8 by omega))
  exact hQ a w1 v (hM.tmps.trans hz) hM.defers (F7 (lo:=19) (hi:=25) (by kernel_rfl) hM) L
def V3(va:Value)(b6 ub uo:Nat)(r:Rf)(j:Nat)(v:Value)(_:World):Prop:=match j with
 |0=>v=va
 |1=>v=.pointer (some ⟨b6,0,none⟩)
 |2=>v=.pointer (some ⟨ub,uo,none⟩)
 |3=>v=.pointer (some ⟨ub,uo,none⟩)
 |4=>v=.agg #[.string r.name,.int .i64 r.n]
 |_=>True
theorem VP{N:Act}{W0:World}{Q:QT}{l n Bx b6 ub uo base:Nat}{va:Value}{ls:List Rf}{r:Rf}(ops:Array Oper)(E:DQ Tryz.f17 10=some ops)
 (V:N.tmps.getD 5 undef=.pointer (some ⟨Bx,0,none⟩))(aa:N.tmps.getD 7 undef=.pointer (some ⟨b6,0,none⟩))(hz:N.tmps.size=64)
 (U:Bx < W0.heap.size)(a8:b6 < W0.heap.size)(T:ub < W0.heap.size)(O:∃u,W0.heap[Bx]?=some (.cells #[u] 81 (0,0)))(s:W0.cell? ⟨Bx,0,none⟩=some va)(C:W0.cell? ⟨b6,0,none⟩=some (.pointer (some ⟨ub,uo,none⟩)))
 (x:W0.cell? ⟨ub,uo,none⟩=some (.string r.name))(D:W0.cell? ⟨ub,uo+1,none⟩=some (.int .i64 r.n))(F:Cs base W0 va ls)(P:ls.length+1<=1000000000)(I:base<=W0.heap.size)(ab:Bx < base)
 (hQ:∀(a:Act) w1 v,a.tmps.size=64->a.defers=N.defers->(∀t,(t < 28∨34 < t)->a.tmps.getD t undef=N.tmps.getD t undef)->Ts W0 base va ls r w1 v->Q .normal a (w1.setCell ⟨Bx,0,none⟩ v)):
  (Code.region 10 ops true).wpIn (Fence.wide.inRound l) n Tryz.prog Q N W0:=by
 obtain rfl:=yi ((rfl:DQ Tryz.f17 10=some _).symm.trans E)
 clear E
 refine Ga (by kernel_rfl) (OH W0 base va ls r Bx 33 34) (V3 va b6 ub uo r) (fun _ _ _=>True) (by kernel_rfl) (by rw[hz];kernel_rfl) (by kernel_rfl) (by kernel_rfl) (fun _ j v w w' _ _ _ h=>by unfold V3 at h ⊢;exact h) ⟨fun _=>⟨(yg _ _).drew,fun h=>(by cases h)⟩,fun h=>(by cases h),fun h=>(by cases h)⟩ ?_ ?_
 ·intro ix b a w' hM f o A
  have y:=yb hM.ext
  have K:=(yd.1 A).1
  have J:=hM.size
  have H:b.getD 6 false=false->b.getD 7 false=false:=fun i=>by
   rw[yn];intro B
   have:=A1 hM.down 8 7 6 (by kernel_rfl) B
   rw[i] at this;cases this
  match ix,K with
  |0,_=>
   have d:=hM.old f 5 (by kernel_rfl) _ V
   have i:b.getD 6 false=false:=by
    rw[yn];intro h6
    have:=A1 hM.down 8 6 0 (by kernel_rfl) h6
    rw[hM.not_yet f] at this;cases this
   have hb:=(y.o.one i).1
   have q:=yb i
   have m:=yb (H i)
   clear i
   have c:=(hb.cell (p:=(aV Bx 0)) U).trans s
   clear s x D C
   obtain rfl:=yi A
   go_simp
   exact ⟨_,rfl,y.o.quiet q.o m.o (by decide) (by decide) (by decide) (by decide) (yg _ _),trivial,rfl⟩
  |1,_=>
   have d:=hM.old f 7 (by kernel_rfl) _ aa
   have i:b.getD 6 false=false:=by
    rw[yn];intro h6
    have:=A1 hM.down 8 6 1 (by kernel_rfl) h6
    rw[hM.not_yet f] at this;cases this
   have hb:=(y.o.one i).1
   have q:=yb i
   have m:=yb (H i)
   clear i s x D C
   obtain rfl:=yi A
   go_simp
   exact ⟨_,rfl,y.o.quiet q.o m.o (by decide) (by decide) (by decide) (by decide) (yg _ _),trivial,rfl⟩
  |2,_=>
   have d:a.tmps[29]?.getD undef=pV b6 0:=hM.dep f 1 29 (by kernel_rfl) (by kernel_rfl)
   have i:b.getD 6 false=false:=by
    rw[yn];intro h6
    have:=A1 hM.down 8 6 2 (by kernel_rfl) h6
    rw[hM.not_yet f] at this;cases this
   have hb:=(y.o.one i).1
   have q:=yb i
   have m:=yb (H i)
   clear i
   have c:=(hb.cell (p:=(aV b6 0)) a8).trans C
   clear s x D C
   obtain rfl:=yi A
   go_simp
   exact ⟨_,rfl,y.o.quiet q.o m.o (by decide) (by decide) (by decide) (by decide) (yg _ _),trivial,rfl⟩
  |3,_=>
   have d:a.tmps[30]?.getD undef=pV ub uo:=hM.dep f 2 30 (by kernel_rfl) (by kernel_rfl)
   have i:b.getD 6 false=false:=by
    rw[yn];intro h6
    have:=A1 hM.down 8 6 3 (by kernel_rfl) h6
    rw[hM.not_yet f] at this;cases this
   have hb:=(y.o.one i).1
   have q:=yb i
   have m:=yb (H i)
   clear i s x D C
   obtain rfl:=yi A
   go_simp
   exact ⟨_,rfl,y.o.quiet q.o m.o (by decide) (by decide) (by decide) (by decide) (yg _ _),trivial,rfl⟩
  |4,_=>
   have d:a.tmps[31]?.getD undef=pV ub uo:=hM.dep f 3 31 (by kernel_rfl) (by kernel_rfl)
   have i:b.getD 6 false=false:=by
    rw[yn];intro h6
    have:=A1 hM.down 8 6 4 (by kernel_rfl) h6
    rw[hM.not_yet f] at this;cases this
   have hb:=(y.o.one i).1
   have q:=yb i
   have m:=yb (H i)
   clear i
   have c:=(hb.cell (p:=(aV ub uo)) T).trans x
   have c1:=(hb.cell (p:=(aV ub (uo+1))) T).trans D
   clear s x D C
   obtain rfl:=yi A
   go_simp
   exact ⟨_,rfl,y.o.quiet q.o m.o (by decide) (by decide) (by decide) (by decide) (yg _ _),trivial,rfl⟩
  |5,_=>
   have d:a.tmps[32]?.getD undef=.agg #[.string r.name,iV r.n]:=hM.dep f 4 32 (by kernel_rfl) (by kernel_rfl)
   have i:b.getD 6 false=false:=by
    rw[yn];intro h6
    have:=A1 hM.down 8 6 5 (by kernel_rfl) h6
    rw[hM.not_yet f] at this;cases this
   have hb:=(y.o.one i).1
   have q:=yb i
   have m:=yb (H i)
   clear i
   have HB:=yb hb
   have X:Hid (5 < b.size):=yb (by rw[J];show 5 < 8;omega)
   have Z:Hid (33 < a.tmps.size):=yb (by rw[hM.tmps,hz];decide)
   clear s x D C hb
   obtain rfl:=yi A
   go_simp
   refine ⟨_,rfl,⟨fun _=>⟨HB.o.alloc HB.o.size _,fun _=>⟨w'.heap.size,?_,World.alloc_heap_new _ _⟩⟩,fun h6=>?_,fun B=>?_⟩,trivial,trivial⟩
   ·show (a.put (some 33) (.slice (some (aV w'.heap.size 0)) 1 1)).tmps.getD 33 undef=_
    exact Ay _ Z.o
   ·rw[A8 (by decide),q.o] at h6;cases h6
   ·rw[A8 (by decide),m.o] at B;cases B
  |6,_=>
   have d:a.tmps[28]?.getD undef=va:=hM.dep f 0 28 (by kernel_rfl) (by kernel_rfl)
   have i:=hM.not_yet f
   have l5:b.getD 5 false=true:=hM.came f 5 (by kernel_rfl)
   obtain ⟨g,S,hg⟩:=(y.o.one i).2 l5
   have hb:=(y.o.one i).1
   have X:Hid (6 < b.size):=yb (by rw[J];show 6 < 8;omega)
   have Z:Hid (34 < a.tmps.size):=yb (by rw[hM.tmps,hz];decide)
   have m:=yb (H i)
   rw[yE] at S
   refine EC base (.tmp 28) (.tmp 33) (by obtain rfl:=yi A;rfl) va ls (by simpa[Act.eval] using d) (F.up fun k hk K=>hb.block k K) r g 1 (by simpa[Act.eval] using S) hg P (yu I hb.size) ?_
   intro v' w5 M z a0
   obtain rfl:=yi A
   refine ⟨v',rfl,⟨fun h6=>?_,fun _ _=>⟨?_,?_,?_⟩,fun B=>?_⟩,trivial,trivial⟩
   ·simp[X.o] at h6
   ·show Cs base w5 ((a.put (some 34) v').tmps.getD 34 undef) _
    rw[Ay _ Z.o];exact M
   ·exact ⟨z.os.trans hb.os,z.tape.trans hb.tape,z.output.trans hb.output,yu hb.size z.size,fun k hk a7=>(z.block k (yv hk hb.size) a7).trans (hb.block k hk)⟩
   ·show ((a.put (some 34) v').tmps.getD 34 undef).ownBlock=_∨∃g,((a.put (some 34) v').tmps.getD 34 undef).ownBlock=some g∧_
    rw[Ay _ Z.o]
    exact a0.imp id (fun h=>⟨_,h,hb.size⟩)
   ·rw[A8 (by decide),m.o] at B;cases B
  |7,_=>
   have d:=hM.old f 5 (by kernel_rfl) _ V
   have l6:b.getD 6 false=true:=hM.came f 6 (by kernel_rfl)
   have a2:=hM.not_yet f
   have L:=y.o.two l6 a2
   have G:w'.heap[Bx]?=W0.heap[Bx]?:=L.grown.block Bx U (fun e=>by
    have:=(F.lt Bx e.symm).1;omega)
   obtain ⟨u0,W⟩:=O
   have c:=Ab (o:=0) G
   have fz:w'.frozen? (aV Bx 0)=false:=by unfold World.frozen?;rw[G,W];rfl
   have c2:w'.cell? (aV Bx 0)=some va:=c.trans s
   obtain ⟨v,Y⟩:∃v,v=a.tmps.getD 34 undef:=⟨_,rfl⟩
   rw[<-Y] at L
   have HP:=yb L
   rw[yE] at Y
   replace Y:=Y.symm
   have X:Hid (7 < b.size):=yb (by rw[J];show 7 < 8;omega)
   have a6:=yb l6
   obtain ⟨ad,nn,cc,rfl⟩:∃ad n c,v=.slice ad n c:=by
    rcases L.own.2 with ⟨rfl,_⟩|⟨_,_,_,rfl,_⟩
    ·exact ⟨_,_,_,rfl⟩
    ·exact ⟨_,_,_,rfl⟩
   clear s x D C L c G W l6
   obtain rfl:=yi A
   go_simp
   refine ⟨undef,rfl,⟨fun h6=>?_,fun _ B=>?_,fun _=>⟨w',_,HP.o,rfl⟩⟩,trivial,trivial⟩
   ·rw[A8 (by decide),a6.o] at h6;cases h6
   ·simp[X.o] at B
 ·intro b a w' R hM
  obtain ⟨w1,v,L,rfl⟩:=hM.ext.three (R 7 (show 7 < 8 by omega))
  exact hQ a w1 v (hM.tmps.trans hz) hM.defers (F7 (lo:=28) (hi:=34) (by kernel_rfl) hM) L
structure LS (W0:World) (base:Nat) (w:World) (va:Value) (la:List Rf) (vb:Value) (lb:List Rf):Prop where
 below:Below base W0 w
 size:base<=w.heap.size
 a:Cs base w va la
 b:Cs base w vb lb
 apart:∀g,va.ownBlock=some g->vb.ownBlock≠some g
 keep:∀(k:Nat) (o:Obj),W0.heap[k]?=some o->(∀c f,o≠Obj.cells c 23 f)->w.heap[k]?=some o
theorem Cs.not{w:World}{base:Nat}{v:Value}{l:List Rf}(h:Cs base w v l){g:Nat}{o:Obj}(b:v.ownBlock=some g)(e:w.heap[g]?=some o)(i:∀c f,o≠Obj.cells c 23 f):False:=by
 rcases h.2 with ⟨rfl,_⟩|⟨k,cap,d,rfl,_,a,_⟩
 ·cases b
 ·cases b
  rw[e] at a
  exact i _ _ (yi a)
theorem LS.up{W0 w w':World}{base:Nat}{va vb:Value}{la lb:List Rf}(h:LS W0 base w va la vb lb)(hb:Below w.heap.size w w'):LS W0 base w' va la vb lb:=
 ⟨h.below.trans (hb.mono h.size),yu h.size hb.size,h.a.up (fun g _ c=>hb.block g c),h.b.up (fun g _ c=>hb.block g c),h.apart,fun k o e d=>by
  have:=h.keep k o e d
  rw[hb.block k (yd.1 this).1];exact this⟩
theorem Cs.lt{w:World}{base:Nat}{v:Value}{l:List Rf}(h:Cs base w v l){g:Nat}(a:v.ownBlock=some g):base<=g∧g < w.heap.size:=World.ownsRow.lt h g a
theorem LS.putA{W0 w w':World}{base:Nat}{va vb c:Value}{la lb l:List Rf}(h:LS W0 base w va la vb lb)(j:Cs base w' c l)(d:w.grownBy w' va.ownBlock)(i:c.ownBlock=va.ownBlock∨c.ownBlock=some w.heap.size):LS W0 base w' c l vb lb:=by
 refine ⟨h.below.trans ⟨d.os,d.tape,d.output,d.size,fun k f=>d.block k (yv f h.size) (fun e=>?_)⟩,yu h.size d.size,j,h.b.up (fun g m f=>d.block g f (fun e=>h.apart g e.symm m)),fun g h1 h2=>?_,fun k o p n=>?_⟩
 ·have:=(h.a.lt e.symm).1;omega
 ·rcases i with i|i
  ·rw[i] at h1;exact h.apart g h1 h2
  ·rw[i] at h1;cases h1
   have:=(h.b.lt h2).2;omega
 ·have h1:=h.keep k o p n
  rw[d.block k (yd.1 h1).1 (fun e=>h.a.not e.symm h1 n)];exact h1
theorem LS.swap{W0 w:World}{base:Nat}{va vb:Value}{la lb:List Rf}(h:LS W0 base w va la vb lb):LS W0 base w vb lb va la:=⟨h.below,h.size,h.b,h.a,fun g h1 h2=>h.apart g h2 h1,h.keep⟩
def Fm(w:World)(va vb v:Value)(r:Rf):Prop:=∃g,v=.slice (some ⟨g,0,none⟩) 1 1∧w.heap[g]?=some (.cells #[.string r.name,.int .i64 r.n] 23 (0,0))∧va.ownBlock≠some g∧vb.ownBlock≠some g
theorem Fm.up{w w':World}{va vb v:Value}{r:Rf}(h:Fm w va vb v r)(hb:Below w.heap.size w w'):Fm w' va vb v r:=by
 obtain ⟨g,h1,h2,h3⟩:=h
 exact ⟨g,h1,(hb.block g (yd.1 h2).1).trans h2,h3⟩
theorem Fm.grown{w w':World}{va vb v a:Value}{r:Rf}(h:Fm w va vb v r)(d:w.grownBy w' va.ownBlock)(c:a.ownBlock=va.ownBlock∨a.ownBlock=some w.heap.size):Fm w' a vb v r:=by
 obtain ⟨g,h1,h2,h3,f⟩:=h
 have b:=(yd.1 h2).1
 refine ⟨g,h1,(d.block g b (fun e=>h3 e.symm)).trans h2,fun e=>?_,f⟩
 rcases c with c|c
 ·exact h3 (c▸e)
 ·rw[c] at e;cases e;exact qC _ b
theorem It{W0 w:World}{base:Nat}{va vb:Value}{la lb:List Rf}(h:LS W0 base w va la vb lb)(r:Rf):Fm (w.alloc (.cells #[.string r.name,.int .i64 r.n] 23)) va vb (.slice (some ⟨w.heap.size,0,none⟩) 1 1) r:=
 ⟨w.heap.size,rfl,World.alloc_heap_new _ _,fun e=>by have:=(h.a.lt e).2;omega,fun e=>by have:=(h.b.lt e).2;omega⟩
structure Ji (W0:World) (base B4 B5:Nat) (va:Value) (la:List Rf) (vb:Value) (lb:List Rf) (r1 r2:Rf) (l:Array Bool) (tm:Array Value) (w:World):Prop where
 p00:l.getD 8 false=false->LS W0 base w va la vb lb∧(l.getD 7 false=true->Fm w va vb (tm.getD 48 undef) r1)∧(l.getD 16 false=true->Fm w va vb (tm.getD 57 undef) r2)
 p10:l.getD 8 false=true->l.getD 17 false=false->LS W0 base w (tm.getD 49 undef) (la++[r1]) vb lb∧(l.getD 16 false=true->Fm w (tm.getD 49 undef) vb (tm.getD 57 undef) r2)
 p11:l.getD 17 false=true->l.getD 18 false=false->LS W0 base w (tm.getD 49 undef) (la++[r1]) (tm.getD 58 undef) (lb++[r2])
 p18:l.getD 18 false=true->l.getD 19 false=false->∃w1,LS W0 base w1 (tm.getD 49 undef) (la++[r1]) (tm.getD 58 undef) (lb++[r2])∧w=w1.setCell ⟨B4,0,none⟩ (tm.getD 49 undef)
 p19:l.getD 19 false=true->∃w1 v1 v2,LS W0 base w1 v1 (la++[r1]) v2 (lb++[r2])∧w=(w1.setCell ⟨B4,0,none⟩ v1).setCell ⟨B5,0,none⟩ v2
theorem Ji.quiet{W0:World}{base B4 B5:Nat}{va vb:Value}{la lb:List Rf}{r1 r2:Rf}{l:Array Bool}{tm:Array Value}{w:World}{i t:Nat}{v:Value}(h:Ji W0 base B4 B5 va la vb lb r1 r2 l tm w)(b:l.getD 17 false=false)(m:l.getD 18 false=false)(p:l.getD 19 false=false)
 (hi:i≠7∧i≠8∧i≠16∧i≠17∧i≠18∧i≠19)(u:t≠48∧t≠49∧t≠57):Ji W0 base B4 B5 va la vb lb r1 r2 (l.setIfInBounds i true) (tm.setIfInBounds t v) w:=by
 obtain ⟨r,q,a,j,f,e⟩:=hi
 obtain ⟨g,o,d⟩:=u
 refine ⟨fun c=>?_,fun c _=>?_,fun h=>?_,fun h=>?_,fun h=>?_⟩
 ·rw[A8 q] at c
  obtain ⟨k,s,n⟩:=h.p00 c
  rw[A8 r,A8 a,Bn g,Bn d]
  exact ⟨k,s,n⟩
 ·rw[A8 q] at c
  obtain ⟨k,n⟩:=h.p10 c b
  rw[A8 a,Bn o,Bn d]
  exact ⟨k,n⟩
 ·rw[A8 j,b] at h;cases h
 ·rw[A8 f,m] at h;cases h
 ·rw[A8 e,p] at h;cases h
theorem Ji.below{W0:World}{base B4 B5:Nat}{va vb:Value}{la lb:List Rf}{r1 r2:Rf}{l:Array Bool}{tm:Array Value}{w:World}(h:Ji W0 base B4 B5 va la vb lb r1 r2 l tm w)(a:l.getD 17 false=false):Below base W0 w∧base<=w.heap.size:=by
 cases b:l.getD 8 false with
 |false=>exact ⟨(h.p00 b).1.below,(h.p00 b).1.size⟩
 |true=>exact ⟨(h.p10 b a).1.below,(h.p10 b a).1.size⟩
def VQ(va vb:Value)(B B3 b1 o1 n1 c1 b2 o2 n2 c2 i:Nat)(r1 r2:Rf)(j:Nat)(v:Value)(_:World):Prop:=match j with
 |0=>v=va
 |1=>v=.pointer (some ⟨B,21,none⟩)
 |2=>v=.slice (some ⟨b1,o1,none⟩) n1 c1
 |3=>v=.int .i64 i
 |4=>v=.pointer (some ⟨b1,o1+i*51,none⟩)
 |5=>v=.pointer (some ⟨b1,o1+i*51+1,none⟩)
 |6=>v=.agg #[.string r1.name,.int .i64 r1.n]
 |9=>v=vb
 |10=>v=.pointer (some ⟨B3,21,none⟩)
 |11=>v=.slice (some ⟨b2,o2,none⟩) n2 c2
 |12=>v=.int .i64 i
 |13=>v=.pointer (some ⟨b2,o2+i*51,none⟩)
 |14=>v=.pointer (some ⟨b2,o2+i*51+1,none⟩)
 |15=>v=.agg #[.string r2.name,.int .i64 r2.n]
 |_=>True
theorem VR{a₀:Act}{W0:World}{Q:QT}{base B B3 B4 B5 b1 o1 n1 c1 b2 o2 n2 c2 i:Nat}{va vb:Value}{la lb:List Rf}{r1 r2:Rf}(ops:Array Oper)(a6:DQ Tryz.f17 14=some ops)
 (b7:a₀.tmps.getD 1 undef=.pointer (some ⟨B,0,none⟩))(aq:a₀.tmps.getD 3 undef=.pointer (some ⟨B3,0,none⟩))(am:a₀.tmps.getD 4 undef=.pointer (some ⟨B4,0,none⟩))(ah:a₀.tmps.getD 5 undef=.pointer (some ⟨B5,0,none⟩))(an:a₀.tmps.getD 8 undef=.int .i64 i)(hz:a₀.tmps.size=64)
 (hB:B < base)(ar:B3 < base)(ao:B4 < base)(ak:B5 < base)(af:b1 < base)(ac:b2 < base)(b4:B4≠B5)(I:i < n1)(J:i < n2)
 (ag:∃u,W0.heap[B4]?=some (.cells #[u] 81 (0,0)))(ab:∃u,W0.heap[B5]?=some (.cells #[u] 81 (0,0)))(G:W0.cell? ⟨B4,0,none⟩=some va)(D:W0.cell? ⟨B5,0,none⟩=some vb)
 (y:W0.cell? ⟨B,21,none⟩=some (.slice (some ⟨b1,o1,none⟩) n1 c1))(C:W0.cell? ⟨B3,21,none⟩=some (.slice (some ⟨b2,o2,none⟩) n2 c2))
 (F:W0.cell? ⟨b1,o1+i*51+1,none⟩=some (.string r1.name))(z:W0.cell? ⟨b1,o1+i*51+1+1,none⟩=some (.int .i64 r1.n))(E:W0.cell? ⟨b2,o2+i*51+1,none⟩=some (.string r2.name))(A:W0.cell? ⟨b2,o2+i*51+1+1,none⟩=some (.int .i64 r2.n))
 (h2:LS W0 base W0 va la vb lb)(av:la.length+1<=1000000000)(aw:lb.length+1<=1000000000)
 (hQ:∀(a:Act) w1 v1 v2,a.tmps.size=64->a.defers=a₀.defers->(∀t,(t < 41∨58 < t)->a.tmps.getD t undef=a₀.tmps.getD t undef)->LS W0 base w1 v1 (la++[r1]) v2 (lb++[r2])->Q .normal a ((w1.setCell ⟨B4,0,none⟩ v1).setCell ⟨B5,0,none⟩ v2)):
  (Code.region 14 ops true).wp Tryz.prog Q a₀ W0:=by
 obtain rfl:=yi ((rfl:DQ Tryz.f17 14=some _).symm.trans a6)
 clear a6
 refine BO (by kernel_rfl) (Ji W0 base B4 B5 va la vb lb r1 r2) (VQ va vb B B3 b1 o1 n1 c1 b2 o2 n2 c2 i r1 r2) (fun _ _ _=>True) (by kernel_rfl) (by rw[hz];kernel_rfl) (by kernel_rfl) (fun _ j v w w' _ _ _ h=>by unfold VQ at h ⊢;exact h) ⟨fun _=>⟨h2.up (yg _ _).drew,fun h=>(by cases h),fun h=>(by cases h)⟩,fun h=>(by cases h),fun h=>(by cases h),fun h=>(by cases h),fun h=>(by cases h)⟩ ?_ ?_
 ·clear h2
  intro ix f a w' hM x o K
  have H:=yb hM.ext
  have b5:=(yd.1 K).1
  have a0:=hM.size
  have nn:f.getD 17 false=false->f.getD 18 false=false∧f.getD 19 false=false:=fun n=>by
   constructor
   ·rw[yn];intro h7
    have:=A1 hM.down 20 18 17 (by kernel_rfl) h7
    rw[n] at this;cases this
   ·rw[yn];intro h7
    have:=A1 hM.down 20 19 17 (by kernel_rfl) h7
    rw[n] at this;cases this
  match ix,b5 with
  |0,_=>
   have d:=hM.old x 4 (by kernel_rfl) _ am
   have k:f.getD 17 false=false:=by
    rw[yn];intro h6
    have:=A1 hM.down 20 17 0 (by kernel_rfl) h6
    rw[hM.not_yet x] at this;cases this
   obtain ⟨q,l⟩:=nn k
   have hb:=(H.o.below k).1
   have r:=yb k;have s:=yb q;have m:=yb l
   clear k q l
   have c:=(hb.cell (p:=(aV B4 0)) ao).trans G
   clear G D y C F E z A I J nn hb
   obtain rfl:=yi K
   go_simp
   exact ⟨_,rfl,H.o.quiet r.o s.o m.o (by decide) (by decide),trivial,rfl⟩
  |1,_=>
   have d:=hM.old x 1 (by kernel_rfl) _ b7
   have k:f.getD 17 false=false:=by
    rw[yn];intro h6
    have:=A1 hM.down 20 17 1 (by kernel_rfl) h6
    rw[hM.not_yet x] at this;cases this
   obtain ⟨q,l⟩:=nn k
   have hb:=(H.o.below k).1
   have r:=yb k;have s:=yb q;have m:=yb l
   clear k q l G D y C F E z A I J nn hb
   obtain rfl:=yi K
   go_simp
   exact ⟨_,rfl,H.o.quiet r.o s.o m.o (by decide) (by decide),trivial,rfl⟩
  |2,_=>
   have d:a.tmps[42]?.getD undef=pV B 21:=hM.dep x 1 42 (by kernel_rfl) (by kernel_rfl)
   have k:f.getD 17 false=false:=by
    rw[yn];intro h6
    have:=A1 hM.down 20 17 2 (by kernel_rfl) h6
    rw[hM.not_yet x] at this;cases this
   obtain ⟨q,l⟩:=nn k
   have hb:=(H.o.below k).1
   have r:=yb k;have s:=yb q;have m:=yb l
   clear k q l
   have c:=(hb.cell (p:=(aV B 21)) hB).trans y
   clear G D y C F E z A I J nn hb
   obtain rfl:=yi K
   go_simp
   exact ⟨_,rfl,H.o.quiet r.o s.o m.o (by decide) (by decide),trivial,rfl⟩
  |3,_=>
   have d:=hM.old x 8 (by kernel_rfl) _ an
   have k:f.getD 17 false=false:=by
    rw[yn];intro h6
    have:=A1 hM.down 20 17 3 (by kernel_rfl) h6
    rw[hM.not_yet x] at this;cases this
   obtain ⟨q,l⟩:=nn k
   have hb:=(H.o.below k).1
   have r:=yb k;have s:=yb q;have m:=yb l
   clear k q l G D y C F E z A I J nn hb
   obtain rfl:=yi K
   go_simp
   exact ⟨_,rfl,H.o.quiet r.o s.o m.o (by decide) (by decide),trivial,rfl⟩
  |4,_=>
   have d1:a.tmps[43]?.getD undef=.slice (some (aV b1 o1)) n1 c1:=hM.dep x 2 43 (by kernel_rfl) (by kernel_rfl)
   have d2:a.tmps[44]?.getD undef=iV i:=hM.dep x 3 44 (by kernel_rfl) (by kernel_rfl)
   have b0:(i:Int) < (n1:Int):=by omega
   have k:f.getD 17 false=false:=by
    rw[yn];intro h6
    have:=A1 hM.down 20 17 4 (by kernel_rfl) h6
    rw[hM.not_yet x] at this;cases this
   obtain ⟨q,l⟩:=nn k
   have hb:=(H.o.below k).1
   have r:=yb k;have s:=yb q;have m:=yb l
   clear k q l G D y C F E z A I J nn hb
   obtain rfl:=yi K
   go_simp
   exact ⟨_,rfl,H.o.quiet r.o s.o m.o (by decide) (by decide),trivial,rfl⟩
  |5,_=>
   have d:a.tmps[45]?.getD undef=pV b1 (o1+i*51):=hM.dep x 4 45 (by kernel_rfl) (by kernel_rfl)
   have k:f.getD 17 false=false:=by
    rw[yn];intro h6
    have:=A1 hM.down 20 17 5 (by kernel_rfl) h6
    rw[hM.not_yet x] at this;cases this
   obtain ⟨q,l⟩:=nn k
   have hb:=(H.o.below k).1
   have r:=yb k;have s:=yb q;have m:=yb l
   clear k q l G D y C F E z A I J nn hb
   obtain rfl:=yi K
   go_simp
   exact ⟨_,rfl,H.o.quiet r.o s.o m.o (by decide) (by decide),trivial,rfl⟩
  |6,_=>
   have d:a.tmps[46]?.getD undef=pV b1 (o1+i*51+1):=hM.dep x 5 46 (by kernel_rfl) (by kernel_rfl)
   have k:f.getD 17 false=false:=by
    rw[yn];intro h6
    have:=A1 hM.down 20 17 6 (by kernel_rfl) h6
    rw[hM.not_yet x] at this;cases this
   obtain ⟨q,l⟩:=nn k
   have hb:=(H.o.below k).1
   have r:=yb k;have s:=yb q;have m:=yb l
   clear k q l
   have c:=(hb.cell (p:=(aV b1 (o1+i*51+1))) af).trans F
   have c1:=(hb.cell (p:=(aV b1 (o1+i*51+1+1))) af).trans z
   clear G D y C F E z A I J nn hb
   obtain rfl:=yi K
   go_simp
   exact ⟨_,rfl,H.o.quiet r.o s.o m.o (by decide) (by decide),trivial,rfl⟩
  |7,_=>
   have d:a.tmps[47]?.getD undef=.agg #[.string r1.name,iV r1.n]:=hM.dep x 6 47 (by kernel_rfl) (by kernel_rfl)
   have k:f.getD 17 false=false:=by
    rw[yn];intro h6
    have:=A1 hM.down 20 17 7 (by kernel_rfl) h6
    rw[hM.not_yet x] at this;cases this
   obtain ⟨q,l⟩:=nn k
   have hb:=(H.o.below k).1
   have r:=yb k;have s:=yb q;have m:=yb l
   clear k q l
   have n8:f.getD 8 false=false:=by
    rw[yn];intro h6
    have:=A1 hM.down 20 8 7 (by kernel_rfl) h6
    rw[hM.not_yet x] at this;cases this
   have ax:=yb n8
   have V:=yb (H.o.p00 n8)
   have Z:Hid (48 < a.tmps.size):=yb (by rw[hM.tmps,hz];decide)
   clear n8 G D y C F E z A I J nn hb
   obtain rfl:=yi K
   go_simp
   have S:Below w'.heap.size w' (w'.alloc (.cells #[.string r1.name,iV r1.n] 23)):=(yg _ _).alloc (yf _) _
   refine ⟨_,rfl,⟨fun _=>⟨V.o.1.up S,fun _=>?_,fun U=>?_⟩,fun L=>?_,fun h=>?_,fun h=>?_,fun h=>?_⟩,trivial,trivial⟩
   ·rw[Ay _ Z.o];exact It V.o.1 r1
   ·rw[A8 (by decide)] at U
    rw[Ch _ (by decide)]
    exact (V.o.2.2 U).up S
   ·rw[A8 (by decide),ax.o] at L;cases L
   ·rw[A8 (by decide),r.o] at h;cases h
   ·rw[A8 (by decide),s.o] at h;cases h
   ·rw[A8 (by decide),m.o] at h;cases h
  |8,_=>
   have d:a.tmps[41]?.getD undef=va:=hM.dep x 0 41 (by kernel_rfl) (by kernel_rfl)
   have k:f.getD 17 false=false:=by
    rw[yn];intro h6
    have:=A1 hM.down 20 17 8 (by kernel_rfl) h6
    rw[hM.not_yet x] at this;cases this
   obtain ⟨q,l⟩:=nn k
   have hb:=(H.o.below k).1
   have r:=yb k;have s:=yb q;have m:=yb l
   clear k q l
   have n8:=hM.not_yet x
   have l7:f.getD 7 false=true:=hM.came x 7 (by kernel_rfl)
   obtain ⟨T,k2,k3⟩:=H.o.p00 n8
   obtain ⟨g,aj,hg,_,_⟩:=k2 l7
   have HL:Hid (8 < f.size):=yb (by rw[a0];show 8 < 20;omega)
   have Z:Hid (49 < a.tmps.size):=yb (by rw[hM.tmps,hz];decide)
   rw[yE] at aj
   refine EC base (.tmp 41) (.tmp 48) (by obtain rfl:=yi K;rfl) va la (by simpa[Act.eval] using d) T.a r1 g 1 (by simpa[Act.eval] using aj) hg av T.size ?_
   intro v' w5 R a2 X
   obtain rfl:=yi K
   refine ⟨v',rfl,⟨fun L=>?_,fun _ _=>⟨?_,fun U=>?_⟩,fun h=>?_,fun h=>?_,fun h=>?_⟩,trivial,trivial⟩
   ·simp[HL.o] at L
   ·show LS W0 base w5 ((a.put (some 49) v').tmps.getD 49 undef) _ vb lb
    rw[Ay _ Z.o];exact T.putA R a2 X
   ·rw[A8 (by decide)] at U
    show Fm w5 ((a.put (some 49) v').tmps.getD 49 undef) vb ((a.put (some 49) v').tmps.getD 57 undef) r2
    rw[Ay _ Z.o,Ch _ (by decide)]
    exact (k3 U).grown a2 X
   ·rw[A8 (by decide),r.o] at h;cases h
   ·rw[A8 (by decide),s.o] at h;cases h
   ·rw[A8 (by decide),m.o] at h;cases h
  |9,_=>
   have d:=hM.old x 5 (by kernel_rfl) _ ah
   have k:f.getD 17 false=false:=by
    rw[yn];intro h6
    have:=A1 hM.down 20 17 9 (by kernel_rfl) h6
    rw[hM.not_yet x] at this;cases this
   obtain ⟨q,l⟩:=nn k
   have hb:=(H.o.below k).1
   have r:=yb k;have s:=yb q;have m:=yb l
   clear k q l
   have c:=(hb.cell (p:=(aV B5 0)) ak).trans D
   clear G D y C F E z A I J nn hb
   obtain rfl:=yi K
   go_simp
   exact ⟨_,rfl,H.o.quiet r.o s.o m.o (by decide) (by decide),trivial,rfl⟩
  |10,_=>
   have d:=hM.old x 3 (by kernel_rfl) _ aq
   have k:f.getD 17 false=false:=by
    rw[yn];intro h6
    have:=A1 hM.down 20 17 10 (by kernel_rfl) h6
    rw[hM.not_yet x] at this;cases this
   obtain ⟨q,l⟩:=nn k
   have hb:=(H.o.below k).1
   have r:=yb k;have s:=yb q;have m:=yb l
   clear k q l G D y C F E z A I J nn hb
   obtain rfl:=yi K
   go_simp
   exact ⟨_,rfl,H.o.quiet r.o s.o m.o (by decide) (by decide),trivial,rfl⟩
  |11,_=>
   have d:a.tmps[51]?.getD undef=pV B3 21:=hM.dep x 10 51 (by kernel_rfl) (by kernel_rfl)
   have k:f.getD 17 false=false:=by
    rw[yn];intro h6
    have:=A1 hM.down 20 17 11 (by kernel_rfl) h6
    rw[hM.not_yet x] at this;cases this
   obtain ⟨q,l⟩:=nn k
   have hb:=(H.o.below k).1
   have r:=yb k;have s:=yb q;have m:=yb l
   clear k q l
   have c:=(hb.cell (p:=(aV B3 21)) ar).trans C
   clear G D y C F E z A I J nn hb
   obtain rfl:=yi K
   go_simp
   exact ⟨_,rfl,H.o.quiet r.o s.o m.o (by decide) (by decide),trivial,rfl⟩
  |12,_=>
   have d:=hM.old x 8 (by kernel_rfl) _ an
   have k:f.getD 17 false=false:=by
    rw[yn];intro h6
    have:=A1 hM.down 20 17 12 (by kernel_rfl) h6
    rw[hM.not_yet x] at this;cases this
   obtain ⟨q,l⟩:=nn k
   have hb:=(H.o.below k).1
   have r:=yb k;have s:=yb q;have m:=yb l
   clear k q l G D y C F E z A I J nn hb
   obtain rfl:=yi K
   go_simp
   exact ⟨_,rfl,H.o.quiet r.o s.o m.o (by decide) (by decide),trivial,rfl⟩
  |13,_=>
   have d1:a.tmps[52]?.getD undef=.slice (some (aV b2 o2)) n2 c2:=hM.dep x 11 52 (by kernel_rfl) (by kernel_rfl)
   have d2:a.tmps[53]?.getD undef=iV i:=hM.dep x 12 53 (by kernel_rfl) (by kernel_rfl)
   have b0:(i:Int) < (n2:Int):=by omega
   have k:f.getD 17 false=false:=by
    rw[yn];intro h6
    have:=A1 hM.down 20 17 13 (by kernel_rfl) h6
    rw[hM.not_yet x] at this;cases this
   obtain ⟨q,l⟩:=nn k
   have hb:=(H.o.below k).1
   have r:=yb k;have s:=yb q;have m:=yb l
   clear k q l G D y C F E z A I J nn hb
   obtain rfl:=yi K
   go_simp
   exact ⟨_,rfl,H.o.quiet r.o s.o m.o (by decide) (by decide),trivial,rfl⟩
  |14,_=>
   have d:a.tmps[54]?.getD undef=pV b2 (o2+i*51):=hM.dep x 13 54 (by kernel_rfl) (by kernel_rfl)
   have k:f.getD 17 false=false:=by
    rw[yn];intro h6
    have:=A1 hM.down 20 17 14 (by kernel_rfl) h6
    rw[hM.not_yet x] at this;cases this
   obtain ⟨q,l⟩:=nn k
   have hb:=(H.o.below k).1
   have r:=yb k;have s:=yb q;have m:=yb l
   clear k q l G D y C F E z A I J nn hb
   obtain rfl:=yi K
   go_simp
   exact ⟨_,rfl,H.o.quiet r.o s.o m.o (by decide) (by decide),trivial,rfl⟩
  |15,_=>
   have d:a.tmps[55]?.getD undef=pV b2 (o2+i*51+1):=hM.dep x 14 55 (by kernel_rfl) (by kernel_rfl)
   have k:f.getD 17 false=false:=by
    rw[yn];intro h6
    have:=A1 hM.down 20 17 15 (by kernel_rfl) h6
    rw[hM.not_yet x] at this;cases this
   obtain ⟨q,l⟩:=nn k
   have hb:=(H.o.below k).1
   have r:=yb k;have s:=yb q;have m:=yb l
   clear k q l
   have c:=(hb.cell (p:=(aV b2 (o2+i*51+1))) ac).trans E
   have c1:=(hb.cell (p:=(aV b2 (o2+i*51+1+1))) ac).trans A
   clear G D y C F E z A I J nn hb
   obtain rfl:=yi K
   go_simp
   exact ⟨_,rfl,H.o.quiet r.o s.o m.o (by decide) (by decide),trivial,rfl⟩
  |16,_=>
   have d:a.tmps[56]?.getD undef=.agg #[.string r2.name,iV r2.n]:=hM.dep x 15 56 (by kernel_rfl) (by kernel_rfl)
   have k:f.getD 17 false=false:=by
    rw[yn];intro h6
    have:=A1 hM.down 20 17 16 (by kernel_rfl) h6
    rw[hM.not_yet x] at this;cases this
   obtain ⟨q,l⟩:=nn k
   have hb:=(H.o.below k).1
   have r:=yb k;have s:=yb q;have m:=yb l
   clear k q l
   have Z:Hid (57 < a.tmps.size):=yb (by rw[hM.tmps,hz];decide)
   clear G D y C F E z A I J nn hb
   obtain rfl:=yi K
   go_simp
   have S:Below w'.heap.size w' (w'.alloc (.cells #[.string r2.name,iV r2.n] 23)):=(yg _ _).alloc (yf _) _
   refine ⟨_,rfl,⟨fun L=>?_,fun L _=>?_,fun h=>?_,fun h=>?_,fun h=>?_⟩,trivial,trivial⟩
   ·rw[A8 (by decide)] at L
    obtain ⟨T,k2,k3⟩:=H.o.p00 L
    refine ⟨T.up S,fun h7=>?_,fun _=>?_⟩
    ·rw[A8 (by decide)] at h7
     rw[Ch _ (by decide)]
     exact (k2 h7).up S
    ·rw[Ay _ Z.o];exact It T r2
   ·rw[A8 (by decide)] at L
    obtain ⟨T,k3⟩:=H.o.p10 L r.o
    rw[Ch _ (by decide),Ay _ Z.o]
    exact ⟨T.up S,fun _=>It T r2⟩
   ·rw[A8 (by decide),r.o] at h;cases h
   ·rw[A8 (by decide),s.o] at h;cases h
   ·rw[A8 (by decide),m.o] at h;cases h
  |17,_=>
   have d:a.tmps[50]?.getD undef=vb:=hM.dep x 9 50 (by kernel_rfl) (by kernel_rfl)
   have k:=hM.not_yet x
   obtain ⟨q,l⟩:=nn k
   have l8:f.getD 8 false=true:=hM.came x 8 (by kernel_rfl)
   have ay:f.getD 16 false=true:=hM.came x 16 (by kernel_rfl)
   obtain ⟨T,k3⟩:=H.o.p10 l8 k
   obtain ⟨g,ap,hg,_,_⟩:=k3 ay
   have HL:Hid (17 < f.size):=yb (by rw[a0];show 17 < 20;omega)
   have Z:Hid (58 < a.tmps.size):=yb (by rw[hM.tmps,hz];decide)
   rw[yE] at ap
   refine EC base (.tmp 50) (.tmp 57) (by obtain rfl:=yi K;rfl) vb lb (by simpa[Act.eval] using d) T.b r2 g 1 (by simpa[Act.eval] using ap) hg aw T.size ?_
   intro v' w5 R a2 X
   obtain rfl:=yi K
   refine ⟨v',rfl,⟨fun L=>?_,fun _ O=>?_,fun _ _=>?_,fun h=>?_,fun h=>?_⟩,trivial,trivial⟩
   ·rw[A8 (by decide),l8] at L;cases L
   ·simp[HL.o] at O
   ·show LS W0 base w5 ((a.put (some 58) v').tmps.getD 49 undef) _ ((a.put (some 58) v').tmps.getD 58 undef) _
    rw[Ay _ Z.o,Ch _ (by decide)]
    exact (T.swap.putA R a2 X).swap
   ·rw[A8 (by decide),q] at h;cases h
   ·rw[A8 (by decide),l] at h;cases h
  |18,_=>
   have d:=hM.old x 4 (by kernel_rfl) _ am
   have M:f.getD 17 false=true:=hM.came x 17 (by kernel_rfl)
   have nk:=hM.not_yet x
   have l:f.getD 19 false=false:=by
    rw[yn];intro h6
    have:=A1 hM.down 20 19 18 (by kernel_rfl) h6
    rw[nk] at this;cases this
   have V:=yb (H.o.p11 M nk)
   have m:=yb l;have W:=yb M
   have hv:∃ad n c,a.tmps[49]?.getD undef=.slice ad n c:=by
    rw[<-yE]
    rcases V.o.a.2 with ⟨e,_⟩|⟨_,_,_,e,_⟩
    ·exact ⟨_,_,_,e⟩
    ·exact ⟨_,_,_,e⟩
   have N:w'.heap[B4]?=W0.heap[B4]?:=V.o.below.block B4 ao
   have l8:f.getD 8 false=true:=A1 hM.down 20 17 8 (by kernel_rfl) M
   have a8:=yb l8
   obtain ⟨ad,nv,cv,dv⟩:=hv
   have HV:=yb dv
   obtain ⟨u0,P⟩:=ag
   have fz:w'.frozen? (aV B4 0)=false:=by unfold World.frozen?;rw[N,P];rfl
   have c2:w'.cell? (aV B4 0)=some u0:=by simp[World.cell?,N,P]
   have HL:Hid (18 < f.size):=yb (by rw[a0];show 18 < 20;omega)
   clear G D y C F E z A I J nn N P l8 M
   obtain rfl:=yi K
   go_simp
   refine ⟨undef,rfl,⟨fun L=>?_,fun _ O=>?_,fun _ Y=>?_,fun _ _=>⟨w',V.o,?_⟩,fun h=>?_⟩,trivial,trivial⟩
   ·rw[A8 (by decide),a8.o] at L;cases L
   ·rw[A8 (by decide),W.o] at O;cases O
   ·simp[HL.o] at Y
   ·rw[yE];show w'.setCell _ _=w'.setCell _ (a.tmps[49]?.getD undef);rw[HV.o]
   ·rw[A8 (by decide),m.o] at h;cases h
  |19,_=>
   have d:=hM.old x 5 (by kernel_rfl) _ ah
   have a7:f.getD 18 false=true:=hM.came x 18 (by kernel_rfl)
   have M:f.getD 17 false=true:=A1 hM.down 20 18 17 (by kernel_rfl) a7
   have nk:=hM.not_yet x
   obtain ⟨w1,hp,aa⟩:=H.o.p18 a7 nk
   have V:=yb hp;have au:=yb aa;have W:=yb M;have ae:=yb a7
   have hv:∃ad n c,a.tmps[58]?.getD undef=.slice ad n c:=by
    rw[<-yE]
    rcases V.o.b.2 with ⟨e,_⟩|⟨_,_,_,e,_⟩
    ·exact ⟨_,_,_,e⟩
    ·exact ⟨_,_,_,e⟩
   have N:w'.heap[B5]?=W0.heap[B5]?:=by
    rw[aa,zk _ _ _ _ (fun e=>b4 e.symm)];exact V.o.below.block B5 ak
   clear aa hp
   have l8:f.getD 8 false=true:=A1 hM.down 20 17 8 (by kernel_rfl) M
   have a8:=yb l8
   obtain ⟨ad,nv,cv,dv⟩:=hv
   have HV:=yb dv
   obtain ⟨u0,P⟩:=ab
   have fz:w'.frozen? (aV B5 0)=false:=by unfold World.frozen?;rw[N,P];rfl
   have c2:w'.cell? (aV B5 0)=some u0:=by simp[World.cell?,N,P]
   have HL:Hid (19 < f.size):=yb (by rw[a0];show 19 < 20;omega)
   clear G D y C F E z A I J nn N P l8 M
   obtain rfl:=yi K
   go_simp
   refine ⟨undef,rfl,⟨fun L=>?_,fun _ O=>?_,fun _ Y=>?_,fun _ az=>?_,fun _=>⟨w1,_,_,V.o,?_⟩⟩,trivial,trivial⟩
   ·rw[A8 (by decide),a8.o] at L;cases L
   ·rw[A8 (by decide),W.o] at O;cases O
   ·rw[A8 (by decide),ae.o] at Y;cases Y
   ·simp[HL.o] at az
   ·rw[<-au.o,yE];show w'.setCell _ _=w'.setCell _ (a.tmps[58]?.getD undef);rw[HV.o]
 ·intro f a w' ai hM
  obtain ⟨w1,v1,v2,hp,rfl⟩:=hM.ext.p19 (ai 19 (show 19 < 20 by omega))
  exact hQ a w1 v1 v2 (hM.tmps.trans hz) hM.defers (F7 (lo:=41) (hi:=58) (by kernel_rfl) hM) hp
def Tt(w:World)(h:Au)(l:List Rf):Prop:=h.n=l.length∧l.length<=140737488355328∧∀i (hi:i < l.length),∃b o,h.a=some ⟨b,o,none⟩∧b < w.heap.size∧w.cell? ⟨b,o+i*2,none⟩=some (.string l[i].name)∧w.cell? ⟨b,o+i*2+1,none⟩=some (.int .i64 l[i].n)
theorem PZ{a b:ByteArray}(h:a.toList=b.toList):a=b:=by
 rw[zP,zP] at h
 cases a;cases b;simpa using h
theorem L9{w:World}{h1 h2:Au}{b a:List Rf}(r1:Tt w h1 b)(r2:Tt w h2 a):
  Calls Tryz.prog 34 #[h1.v,h2.v] w fun e w'=>e=.returned (.bool (decide (b=a)))∧Below w.heap.size w w':=by
 obtain ⟨a1,n1,c1⟩:=h1
 obtain ⟨T,n2,c2⟩:=h2
 have R1:=yb r1.2.2;have R2:=yb r2.2.2
 have q:=yb r1.1;have r:=yb r2.1
 have L:n1<=140737488355328:=by have:=r1.1;have:=r1.2.1;simp only at*;omega
 have t:n2<=140737488355328:=by have:=r2.1;have:=r2.2.1;simp only at*;omega
 unfold Au.v
 simp only at R1 R2 q r ⊢
 clear r1 r2
 by_cases K:n1=n2
 ·subst K
  have B:((n1:Int) !=(n1:Int))=false:=by simp
  go_enter Tryz.func34,Tryz.ntmps34
  go_wp2
  have s:=yb (yg w.heap.size w)
  go_loopw [13] (fun F wr=>∃i:Nat,i<=n1∧F=iV i∧Hid (b.take i=a.take i)∧Hid (Below w.heap.size w wr)) (fun F _=>n1 - (intOf F).toNat)
  case atStart=>exact ⟨0,yK _,rfl,yb (by simp),s⟩
  case round=>
   obtain ⟨i,hi,rfl,I,c⟩:=hrel
   by_cases n:i < n1
   ·have C:(i:Int) < (n1:Int):=by omega
    have f:i < b.length:=by rw[<-q.o];exact n
    have l:i < a.length:=by rw[<-r.o];exact n
    obtain ⟨b1,o1,rfl,g,D,x⟩:=R1.o i f
    obtain ⟨b2,o2,rfl,k,z,u⟩:=R2.o i l
    have m:Hid (b[i]=a[i]->b.take (i+1)=a.take (i+1)):=yb (fun e=>by
     rw[yJ f,yJ l,I.o,e])
    have d:Hid (b[i]≠a[i]->decide (b=a)=false):=yb (fun e=>xr (fun h=>e (by subst h;rfl)))
    generalize b[i]=R at D x m d
    generalize a[i]=O at z u m d
    obtain ⟨m1,J⟩:=R
    obtain ⟨y,H⟩:=O
    have P:wr.cell? (aV b1 (o1+i*2))=some (.string m1):=(c.o.cell (p:=(aV b1 _)) g).trans D
    have S:wr.cell? (aV b1 (o1+i*2+1))=some (iV J):=(c.o.cell (p:=(aV b1 _)) g).trans x
    have Q:wr.cell? (aV b2 (o2+i*2))=some (.string y):=(c.o.cell (p:=(aV b2 _)) k).trans z
    have M:wr.cell? (aV b2 (o2+i*2+1))=some (iV H):=(c.o.cell (p:=(aV b2 _)) k).trans u
    clear D x z u f l g k
    by_cases E:m1.toList=y.toList
    ·obtain rfl:m1=y:=PZ E
     clear E
     by_cases G:J=H
     ·subst G
      have A:=yb (m.o rfl)
      clear m d
      go_wp2_with fail
      go_region
      go_wp2
      exact ⟨⟨i+1,by omega,by push_cast;rfl,A,yb c.o.drew⟩,by simp[intOf];omega⟩
     ·have j:=yb (d.o (fun h=>G (Rf.mk.inj h).2))
      clear m d
      go_wp2_with fail
      go_region
      go_wp2
      go_ret
      exact ⟨by rw[j.o];rfl,c.o.drew⟩
    ·have j:=yb (d.o (fun h=>E (by rw[(Rf.mk.inj h).1])))
     clear m d
     go_wp2_with fail
     go_region
     go_wp2
     go_ret
     exact ⟨by rw[j.o];rfl,c.o.drew⟩
   ·obtain rfl:i=n1:=by omega
    have C:decide ((i:Int) < (i:Int))=false:=by simp
    go_wp2
    go_ret
    have N:b=a:=by
     have h1:=I.o
     rw[q.o,yT,<-q.o,r.o,yT] at h1
     exact h1
    exact ⟨by rw[xm N];rfl,c.o⟩
 ·have B:((n1:Int) !=(n2:Int))=true:=by simp;omega
  go_enter Tryz.func34,Tryz.ntmps34
  go_wp2
  go_ret
  exact ⟨by rw[xr (fun h=>K (by rw[q.o,r.o,h]))];rfl,yg _ _⟩
structure Dk (W0:World) (Bx:Nat) (l:List Rf) (O:Nat->Prop) (V:World):Prop where
 grown:W0.grownBy V (some Bx)
 ownO:∀b,O b->W0.heap.size<=b
 row:∃v,V.heap[Bx]?=some (.cells #[v] 81 (0,0))∧Cs W0.heap.size V v l∧∀g,v.ownBlock=some g->¬ O g
section
variable{W0 V w1:World}{Bx:Nat}{l:List Rf}{O:NP}
theorem Dk.stays(t:Bx < W0.heap.size)(f:Nat->List Rf):Ca (fun k=>Dk W0 Bx (f k)):=by
 intro k O W u W' h r s q p c n
 obtain ⟨v,r1,r2,o⟩:=h.row
 have l:=h.grown.size
 have j:W'.heap[Bx]?=W.heap[Bx]?:=c Bx (fun hb=>by have:=h.ownO Bx hb;omega) (by omega)
 refine ⟨⟨s.trans h.grown.os,q.trans h.grown.tape,p.trans h.grown.output,yu l r,fun b hb i=>(c b (fun m=>by have:=h.ownO b m;omega) (by omega)).trans (h.grown.block b hb i)⟩,fun b hb=>?_,v,j.trans r1,r2.up (fun g a d=>c g (o g a) d),fun g a e=>?_⟩
 ·rcases n b hb with h1|h1
  ·exact h.ownO b h1
  ·omega
 ·rcases n g e with h1|h1
  ·exact o g a h1
  ·have:=(r2.lt a).2;omega
theorem Dk.same(h:Dk W0 Bx l O V){b:Nat}(hb:b < W0.heap.size)(a:b≠Bx):V.heap[b]?=W0.heap[b]?:=h.grown.block b hb (fun e=>a (yi e))
theorem Dk.start(W0:World)(hb:W0.heap[Bx]?=some (.cells #[.slice none 0 0] 81 (0,0))):Dk W0 Bx [] (fun _=>False) W0:=
 ⟨⟨rfl,rfl,rfl,yf _,fun _ _ _=>rfl⟩,fun _ h=>h.elim,_,hb,RU _ _,fun g a=>by cases a⟩
theorem Dk.put(h:Dk W0 Bx l O V)(x:Bx < W0.heap.size)(p:∀b,O b->b < V.heap.size){va v:Value}{r:Rf}(n:V.cell? ⟨Bx,0,none⟩=some va)(d:Ts V W0.heap.size va l r w1 v):Dk W0 Bx (l++[r]) O (w1.setCell ⟨Bx,0,none⟩ v)∧AL O V (w1.setCell ⟨Bx,0,none⟩ v):=by
 obtain ⟨v0,r1,r2,q⟩:=h.row
 obtain rfl:va=v0:=by
  have e:V.cell? (aV Bx 0)=some v0:=by simp[World.cell?,r1]
  rw[n] at e;exact yi e
 have f:∀g,va.ownBlock=some g->W0.heap.size<=g:=fun g j=>(r2.lt j).1
 have m:w1.heap[Bx]?=V.heap[Bx]?:=d.grown.block Bx (by have:=h.grown.size;omega) (fun e=>by have:=f _ e.symm;omega)
 have y:=h.grown.size
 have s:=d.grown.size
 have i:∀b,b≠Bx->(w1.setCell (aV Bx 0) v).heap[b]?=w1.heap[b]?:=fun b c=>zk _ _ _ _ c
 have a:∀b,b≠Bx->b < V.heap.size->va.ownBlock≠some b->(w1.setCell (aV Bx 0) v).heap[b]?=V.heap[b]?:=fun b c o t=>(i b c).trans (d.grown.block b o (fun e=>t e.symm))
 refine ⟨⟨⟨d.grown.os.trans h.grown.os,d.grown.tape.trans h.grown.tape,d.grown.output.trans h.grown.output,by simp;omega,fun b hb c=>?_⟩,h.ownO,v,?_,d.own.up (fun g j _=>i g (fun e=>by have:=(d.own.lt j).1;omega)),fun g j k=>?_⟩,by simp;omega,fun b hb=>?_⟩
 ·rw[a b (fun e=>c (by rw[e])) (by omega) (fun e=>by have:=f _ e;omega)]
  exact h.grown.block b hb c
 ·have:=zp w1 Bx 0 #[va] 81 v (m.trans r1)
  rw[this];rfl
 ·rcases d.blk with e|⟨w,e,u⟩
  ·rw[e] at j;exact q g j k
  ·rw[e] at j;cases j
   have:=p g k;omega
 ·exact a b (fun e=>by have:=h.ownO b hb;omega) (p b hb) (fun e=>q b e hb)
end
section
variable{f:Int->Ex->Ex}{g:Int->Rf->Rf}
def NA(f:Int->Ex->Ex)(e:Ks):Ks:=(f e.2 e.1,e.2)
theorem Cd{α β:Type}(F:Nat->α->β)(l:List α):(l.mapIdx F).zipIdx=l.zipIdx.map fun p=>(F p.2 p.1,p.2):=by
 apply xD
 ·simp
 ·intro i h1 h2;simp
theorem Tu(l:List Gh):JB (l.mapIdx (Gh.mp f))=(JB l).map (NA f):=by
 unfold JB;rw[Cd,zY,xv];rfl
theorem RW(l:List DN):Il (l.mapIdx (DN.mp f))=(Il l).map (NA f):=by
 unfold Il;rw[Cd,zY,xv];rfl
theorem OI(l:List AA):Fc (l.mapIdx (AA.mp f g))=(Fc l).map (NA f):=by
 unfold Fc;rw[Cd,zY,xv];rfl
theorem RX(l:List CE):Im (l.mapIdx (CE.mp f g))=(Im l).map (NA f):=by
 unfold Im;rw[Cd,zY,xv];rfl
theorem RY(l:List Cb):Em (l.mapIdx (Cb.mp f g))=(Em l).map (NA f):=by
 unfold Em;rw[Cd,zY,xv];rfl
theorem Tv(l:List Br):JC (l.mapIdx (Br.mp f g))=(JC l).map (NA f):=by
 unfold JC;rw[Cd,zY,xv]
 congr 1
 funext p
 rw[zF,<-RY (g:=g)]
 rfl
theorem Q0(l:List AW):Gj (l.mapIdx (AW.mp f g))=(Gj l).map (NA f):=by
 unfold Gj;rw[Cd,zY,xv];rfl
theorem Q1(l:List CU):Gk (l.mapIdx (CU.mp f g))=(Gk l).map (NA f):=by
 unfold Gk;rw[Cd,zY,xv];rfl
theorem Nh(x:Av):Ax (x.mp f g)=(Ax x).map (NA f):=by
 unfold Ax Av.mp
 simp only[zF,<-Tu,<-RW,<-OI (g:=g),<-RX (g:=g),<-Tv (g:=g),<-Q0 (g:=g),<-Q1 (g:=g)]
 rfl
theorem DL{α β:Type}{F:Nat->α->β}{l:List α}{p:β->Bool}{q:α->Bool}(h:l.all q=true)(a:∀i d,q d=true->p (F i d)=true):(l.mapIdx F).all p=true:=by
 rw[yR] at h ⊢
 intro b hb
 obtain ⟨i,hi,rfl⟩:=zh.1 hb
 rw[List.getElem_mapIdx]
 exact a i _ (h _ (yM _))
end
section
variable{t:Tb}
theorem JO(l:List Ex):(H2 t l).length=l.length:=by rw[MW];simp
mutual
theorem La:∀e:Ex,Ar (Ip t e)=Ar e
 |.mk op n u rn ri args=>by rw[Ip,Ar,Ar,Lb args]
theorem Lb:∀l:List Ex,AN (H2 t l)=AN l
 |[]=>rfl
 |e::r=>by rw[H2,AN,AN,La e,Lb r]
end
theorem Jj(e:Ex):BA (Ip t e)=BA e:=by
 cases e with
 |mk op n u rn ri args=>
  rw[Ip]
  unfold BA Dv
  simp only[Ex.op,Ex.n,Ex.u,Ex.rn,Ex.ri,Ex.args,JO]
  by_cases h:op=2
  ·subst h;simp
  ·rw[yt h];rfl
theorem Hb{to at_:Int}{r:Rf}(h:JF t to at_ r=true):JF t to at_ (gT t to r)=true:=by
 unfold gT
 by_cases h0:to=0
 ·rw[yw h0];exact h
 ·rw[yt h0]
  unfold JF at h ⊢
  rw[yt h0] at h ⊢
  exact h
theorem VS{to at_:Int}{rn:ByteArray}{ri rj:Int}(h0:to≠0):JF t to at_ ⟨rn,ri⟩=JF t to at_ ⟨rn,rj⟩:=by
 unfold JF;rw[yt h0,yt h0]
mutual
theorem QV(lt:Int):∀e:Ex,Sx t lt (Ip t e)=Sx t lt e
 |.mk op n u rn ri args=>by
  rw[Ip,Sx,Sx,JO,QW lt args]
  by_cases h:op=2
  ·rw[yw h,VS (rj:=ri) (by unfold Kd;rw[yw h];split<;>decide)]
  ·rw[yt h]
theorem QW(lt:Int):∀l:List Ex,RE t lt (H2 t l)=RE t lt l
 |[]=>rfl
 |e::r=>by rw[H2,RE,RE,QV lt e,QW lt r]
end
theorem Uw(e:Ks):JG t (NA (fT t) e)=JG t e:=by
 unfold JG NA fT
 simp only
 by_cases h:BA e.1=true
 ·simp[h]
 ·rw[yt h,Jj,QV]
theorem Tw(lt:Int)(e:Ex):Ar (fT t lt e)=Ar e:=by
 unfold fT;split
 ·rfl
 ·exact La e
theorem Mz{x:Av}(h:Cw t x=true):Cw t (x.mp (fT t) (gT t))=true:=by
 unfold Cw at h ⊢
 simp only[yG] at h ⊢
 obtain ⟨h1,h2,h3,a,h5,h6⟩:=h
 refine ⟨?_,?_,?_,?_,?_,?_⟩
 ·rw[Nh,List.all_map]
  rw[yR] at h1 ⊢
  intro e b
  have:=h1 e b
  simp only[Function.comp,Uw];exact this
 ·unfold BZ at h2 ⊢
  exact DL h2 fun _ _ h=>h
 ·refine DL h3 fun i d h=>?_
  unfold MX at h ⊢
  simp only[yG] at h ⊢
  exact ⟨Hb h.1,Hb h.2⟩
 ·refine DL a fun i d h=>?_
  unfold QE at h ⊢
  simp only[yG] at h ⊢
  exact ⟨Hb h.1,DL h.2 fun _ _ h=>Hb h⟩
 ·refine DL h5 fun i d h=>?_
  unfold Ke at h ⊢
  simp only[yG] at h ⊢
  exact ⟨Hb h.1,Hb h.2⟩
 ·refine DL h6 fun i d h=>?_
  unfold MY at h ⊢
  simp only[yG] at h ⊢
  exact ⟨Hb h.1,Hb h.2⟩
theorem QX{x:Av}(h:BD x=true):BD (x.mp (fT t) (gT t))=true:=by
 unfold BD at h ⊢
 simp only[yG] at h ⊢
 obtain ⟨h1,h2,h3⟩:=h
 refine ⟨?_,?_,?_⟩
 ·unfold Kw at h1 ⊢
  simpa[Av.mp] using h1
 ·unfold FR at h2 ⊢
  refine DL h2 fun i d h=>?_
  simpa[Br.mp] using h
 ·unfold EU at h3 ⊢
  rw[Nh,List.all_map]
  rw[yR] at h3 ⊢
  intro e a
  simpa[NA,Tw] using h3 e a
end
theorem Ev{x:Av}(h:AE x=0):BD x=true∧D5 x=true∧H3 x∧Dh (Tb.of x) x=true∧Cw (Tb.of x) x=true:=by
 unfold AE at h
 by_cases h1:BD x=true
 ·rw[yw h1] at h
  by_cases h2:D5 x=true
  ·rw[yw h2] at h
   by_cases h3:H3 x
   ·rw[yw h3] at h
    by_cases a:(Dh (Tb.of x) x&&Cw (Tb.of x) x)=true
    ·rw[yG] at a;exact ⟨h1,h2,h3,a⟩
    ·rw[yt a] at h;cases h
   ·rw[yt h3] at h;cases h
  ·rw[yt h2] at h;cases h
 ·rw[yt h1] at h;cases h
theorem Hc(x:Av):(Ah x).reaches.length=x.reaches.length:=by unfold Ah Av.mp;simp
structure CS (W:World) (s top:Nat) (x:Av) (L:Bt) (cs:List Value) (N:Nat->Prop):Prop where
 src:BH N W L cs x
 at0:L.s=s
 range:W.rangeAt s 0 cs
 lt:∀b,V0 N s b->b < top
section
variable{W W':World}{s top:Nat}{x:Av}{L:Bt}{cs:LV}{N:NP}
theorem CS.up(h:CS W s top x L cs N)(hb:∀b,b < top->W'.heap[b]?=W.heap[b]?):CS W' s top x L cs N:=
 ⟨h.src.same (fun _ h=>h) (fun b hN=>hb b (h.lt b (.inr hN))),h.at0,A0 h.range (hb s (h.lt s (.inl rfl))),h.lt⟩
theorem CS.head(h:CS W s top x L cs N):W.cell? ⟨s,21,none⟩=some (.slice L.reaches.a L.reaches.n L.reaches.c):=by
 have:=h.range 21 _ h.src.at.reaches
 rw[yy] at this;exact this
theorem CS.frm(h:CS W s top x L cs N){i:Nat}(hi:i < x.reaches.length):∃b o,L.reaches.a=some ⟨b,o,none⟩∧b < top∧W.cell? ⟨b,o+i*51+1,none⟩=some (.string x.reaches[i].frm.name)∧W.cell? ⟨b,o+i*51+1+1,none⟩=some (.int .i64 x.reaches[i].frm.n):=by
 obtain ⟨b,o,c,g1,e,f,d,_,_,c0,c1,c2,c3,c4,c5,c6,c7,rfl,_⟩:=h.src.reaches.2.2 i hi
 exact ⟨b,o,g1,h.lt b (.inr e),d 1 _ rfl,d 2 _ rfl⟩
end
structure QY (Q:Exit->Act->World->Prop) (w:World) (x:Av):Prop where
 early:∀(c:Int) tm W,tm.getD 2 undef=.int .i64 c->Below w.heap.size w W->Bh x=c->Q .ret {tmps:=tm,defers:=[]} W
 done:∀(c:Int) D1 D2 tm W,tm.getD 2 undef=.int .i64 c->Below w.heap.size w W->Bh x=c->D1≠D2->w.heap.size<=D1->w.heap.size<=D2->W.heap[D1]?=some (.deferred (some []))->W.heap[D2]?=some (.deferred (some []))->Q .ret {tmps:=tm,defers:=[Jd D2,Jd D1]} W
theorem Tx(w:World)(x:Av):QY (bodyPostM Fence.wide 10 Tryz.prog Tryz.f17 (fun e w'=>e=.returned (.int .i64 (Bh x))∧Below w.heap.size w w')) w x:=by
 have a:∀(tm:Array Value) (c:Int) (W:World),tm.getD 2 undef=.int .i64 c->(results Tryz.f17 tm).run Tryz.prog W=.ok (.int .i64 c) W:=fun tm c W h=>by
  rw[yE] at h
  simp[results,Tryz.results17,h]
 refine ⟨fun c tm W h2 hb i=>?_,fun c D1 l tm W h2 hb i g h1 j f d=>?_⟩
 ·subst i
  exact ⟨_,a tm _ W h2,rfl,hb⟩
 ·subst i
  have k:(W.putObj l (.deferred none)).heap[D1]?=some (.deferred (some [])):=(World.putObj_heap_other g).trans f
  refine ⟨by simp,.inl ⟨_,_,rfl,run_takeDeferred d,⟨by simp,.inl ⟨_,_,rfl,run_takeDeferred k,⟨_,a tm _ _ h2,rfl,hb.trans ⟨rfl,rfl,rfl,by simp,fun b hb=>?_⟩⟩⟩⟩⟩⟩
  rw[World.putObj_heap_other (by omega),World.putObj_heap_other (by omega)]
structure EL (V:World) (base B4 B5:Nat) (la lb:List Rf) (wr:World):Prop where
 os:wr.os=V.os
 tape:wr.tape=V.tape
 output:wr.output=V.output
 size:V.heap.size<=wr.heap.size
 low:base<=V.heap.size
 keep:∀(k:Nat) (o:Obj),k≠B4->k≠B5->V.heap[k]?=some o->(∀c f,o≠Obj.cells c 23 f)->wr.heap[k]?=some o
 block:∀b,b < base->b≠B4->b≠B5->wr.heap[b]?=V.heap[b]?
 rows:∃va vb,wr.heap[B4]?=some (.cells #[va] 81 (0,0))∧wr.heap[B5]?=some (.cells #[vb] 81 (0,0))∧LS wr base wr va la vb lb
theorem EL.put{V wr w1:World}{base B4 B5:Nat}{la lb:List Rf}(h:EL V base B4 B5 la lb wr)(t:B4 < base)(h5:B5 < base)(m:B4≠B5){v1 f:Value}{r1 r2:Rf}(c:LS wr base w1 v1 (la++[r1]) f (lb++[r2])):EL V base B4 B5 (la++[r1]) (lb++[r2]) ((w1.setCell ⟨B4,0,none⟩ v1).setCell ⟨B5,0,none⟩ f):=by
 obtain ⟨va,vb,w,x,z⟩:=h.rows
 have s:w1.heap[B4]?=some (.cells #[va] 81 (0,0)):=(c.below.block B4 t).trans w
 have u:w1.heap[B5]?=some (.cells #[vb] 81 (0,0)):=(c.below.block B5 h5).trans x
 have d:∀b,b≠B4->b≠B5->((w1.setCell ⟨B4,0,none⟩ v1).setCell ⟨B5,0,none⟩ f).heap[b]?=w1.heap[b]?:=fun b i j=>(zk _ _ _ _ j).trans (zk _ _ _ _ i)
 have q:∀ {v:Value} {l:List Rf},Cs base w1 v l->Cs base ((w1.setCell ⟨B4,0,none⟩ v1).setCell ⟨B5,0,none⟩ f) v l:=fun p=>p.up (fun g y _=>by
  have:=(p.lt y).1
  exact d g (by omega) (by omega))
 have n:((w1.setCell ⟨B4,0,none⟩ v1).setCell ⟨B5,0,none⟩ f).heap.size=w1.heap.size:=by simp
 refine ⟨c.below.os.trans h.os,c.below.tape.trans h.tape,c.below.output.trans h.output,by rw[n];exact yu h.size c.below.size,h.low,fun k o i j p r=>(d k i j).trans (c.keep k o (h.keep k o i j p r) r),fun b hb i j=>?_,v1,f,?_,?_,yg _ _,by rw[n];exact c.size,q c.a,q c.b,c.apart,fun _ _ h _=>h⟩
 ·rw[d b i j,c.below.block b hb];exact h.block b hb i j
 ·rw[zk _ _ _ _ m,zp w1 B4 0 #[va] 81 v1 s];rfl
 ·have e:(w1.setCell ⟨B4,0,none⟩ v1).heap[B5]?=some (.cells #[vb] 81 (0,0)):=(zk _ _ _ _ (fun e=>m e.symm)).trans u
  rw[zp (w1.setCell ⟨B4,0,none⟩ v1) B5 0 #[vb] 81 f e];rfl
theorem EL.drew{V wr:World}{base B4 B5:Nat}{la lb:List Rf}(h:EL V base B4 B5 la lb wr):EL V base B4 B5 la lb wr.drew:=by
 obtain ⟨va,vb,d,e,c⟩:=h.rows
 exact ⟨h.os,h.tape,h.output,h.size,h.low,h.keep,h.block,va,vb,d,e,yg _ _,c.size,c.a,c.b,c.apart,fun _ _ h _=>h⟩
theorem Cs.rf{B:Nat}{w:World}{v:Value}{l:List Rf}(h:Cs B w v l)(c:l.length<=1000000000):∃h:Au,v=h.v∧Tt w h l:=by
 obtain ⟨h1,⟨rfl,h2⟩|⟨g,cap,f,rfl,q,h5,h6,s,p,k⟩⟩:=h
 ·obtain rfl:=zl.1 h2
  exact ⟨⟨none,0,0⟩,rfl,rfl,by simp,fun i hi=>absurd hi (by simp)⟩
 ·have d:∀j u,(l.flatMap AU)[j]?=some u->w.cell? ⟨g,j,none⟩=some u:=by
   intro j u a
   rw[<-k] at a
   have b:=(yA.1 a).1
   rw[zc] at b
   rw[zN,yw (by omega)] at a
   simp only[World.cell?,h5]
   simpa using a
  have o:∀(l:List Rf) (i:Nat) (hi:i < l.length),(l.flatMap AU)[i*2]?=some (.string l[i].name)∧(l.flatMap AU)[i*2+1]?=some (.int .i64 l[i].n):=by
   intro l
   induction l with
   |nil=>intro i hi;simp at hi
   |cons x r ih=>
    intro i hi
    cases i with
    |zero=>exact ⟨rfl,rfl⟩
    |succ i=>
     have:=ih i (by simpa using hi)
     have e:((x::r).flatMap AU)=AU x++r.flatMap AU:=rfl
     rw[e,yU (by simp[AU];omega),yU (by simp[AU];omega)]
     have c:(AU x).length=2:=rfl
     rw[c,show (i+1)*2 - 2=i*2 by omega,show (i+1)*2+1 - 2=i*2+1 by omega]
     exact this
  refine ⟨⟨some ⟨g,0,none⟩,l.length,cap⟩,rfl,rfl,by omega,fun i hi=>?_⟩
  obtain ⟨m,g1⟩:=o l i hi
  refine ⟨g,0,rfl,(yd.1 h5).1,?_,?_⟩
  ·rw[yy];exact d _ _ m
  ·rw[yy];exact d _ _ g1
theorem Hx{α:Type}{l:List α}{i:Nat}{a:α}(h:l[i]?=some a):l.take i++[a]=l.take (i+1):=by
 rw[List.take_add_one,h];rfl
theorem VT{Q:QT}{w V:World}{x:Av}{L1 L2:Bt}{ak am:LV}{N1 N2:NP}{base B3 B4 B5 D1 C:Nat}(hQ:QY Q w x)(hw:AE x=0)
 (h1:CS V w.heap.size B4 x L1 ak N1)(h2:CS V B3 B4 (Ah x) L2 am N2)(ac:B4 < B5)(h5:B5 < base)(hb:Below w.heap.size w V)(hL:EL V base B4 B5 (AM x) (AM (Ah x)) V)
 (hD:D1≠C∧w.heap.size<=D1∧w.heap.size<=C)(m:V.heap[D1]?=some (.deferred (some [])))(l:V.heap[C]?=some (.deferred (some [])))(E:(BW x).length<=900000000)(u:(BW (Ah x)).length<=900000000)
 (u0 u6 u7 u8 u9 u10 u11 u12 u13 u14 u15 u16 u17 u18 u19 u20 u21 u22 u23 u24 u25 u26 u27 u28 u29 u30 u31 u32 u33 u34 u35 u36 u37 u38 u39 u40 u41 u42 u43 u44 u45 u46 u47 u48 u49 u50 u51 u52 u53 u54 u55 u56 u57 u58 u59 u60 u61 u62 u63:Value):
  FE 17 Tryz.prog (H4 6 (Tryz.f17.body.getD .skip)) Q {tmps:=#[u0,.pointer (some ⟨w.heap.size,0,none⟩),.int .i64 0,.pointer (some ⟨B3,0,none⟩),.pointer (some ⟨B4,0,none⟩),.pointer (some ⟨B5,0,none⟩),u6,u7,u8,u9,u10,u11,u12,u13,u14,u15,u16,u17,u18,u19,u20,u21,u22,u23,u24,u25,u26,u27,u28,u29,u30,u31,u32,u33,u34,u35,u36,u37,u38,u39,u40,u41,u42,u43,u44,u45,u46,u47,u48,u49,u50,u51,u52,u53,u54,u55,u56,u57,u58,u59,u60,u61,u62,u63],defers:=[Jd C,Jd D1]} V:=by
 have G:w.heap.size < B4:=h1.lt _ (.inl rfl)
 have I:B3 < B4:=h2.lt _ (.inl rfl)
 have F:=hL.low
 have p:Hid (∀la lb wr,EL V base B4 B5 la lb wr->∀b,b < B4->wr.heap[b]?=V.heap[b]?):=yb (fun la lb wr h b hb=>h.block b (by omega) (by omega) (by omega))
 have g:Hid (∀la lb wr,EL V base B4 B5 la lb wr->wr.heap[D1]?=some (.deferred (some []))∧wr.heap[C]?=some (.deferred (some []))):=yb (fun la lb wr h=>by
  obtain ⟨va,vb,r4,r5,_⟩:=hL.rows
  exact ⟨h.keep D1 _ (fun e=>by rw[e,r4] at m;cases m) (fun e=>by rw[e,r5] at m;cases m) m (fun _ _ e=>by cases e),h.keep C _ (fun e=>by rw[e,r4] at l;cases l) (fun e=>by rw[e,r5] at l;cases l) l (fun _ _ e=>by cases e)⟩)
 have D:Hid (∀la lb wr,EL V base B4 B5 la lb wr->Below w.heap.size w wr):=yb (fun la lb wr h=>hb.trans ⟨h.os,h.tape,h.output,h.size,fun b U=>h.block b (by omega) (by omega) (by omega)⟩)
 have hc:=h1.head
 have O:=yb h2.head
 have S:Hid (∀i (hi:i < x.reaches.length),∃b o,L1.reaches.a=some ⟨b,o,none⟩∧b < B4∧V.cell? ⟨b,o+i*51+1,none⟩=some (.string x.reaches[i].frm.name)∧V.cell? ⟨b,o+i*51+1+1,none⟩=some (.int .i64 x.reaches[i].frm.n)):=yb (fun i hi=>h1.frm hi)
 have N:Hid (∀i (hi:i < (Ah x).reaches.length),∃b o,L2.reaches.a=some ⟨b,o,none⟩∧b < B4∧V.cell? ⟨b,o+i*51+1,none⟩=some (.string (Ah x).reaches[i].frm.name)∧V.cell? ⟨b,o+i*51+1+1,none⟩=some (.int .i64 (Ah x).reaches[i].frm.n)):=yb (fun i hi=>h2.frm hi)
 have r:Hid (L1.reaches.n=x.reaches.length):=yb h1.src.reaches.1
 have R:Hid (L2.reaches.n=x.reaches.length):=yb (h2.src.reaches.1.trans (Hc x))
 have J:L1.reaches.n<=140737488355328:=by rw[r.o];exact h1.src.reaches.2.1
 have P:=yb hc
 have HQ:=yb hQ
 have c:Hid (w.heap.size < B4∧B3 < B4∧B4 < B5∧B5 < base∧base<=V.heap.size):=yb ⟨G,I,ac,h5,F⟩
 have Y:=yb hD
 have H:=yb E;have q:=yb u
 have HC:Hid (Bh x=if BW x=BW (Ah x) then 0 else 170):=yb (by unfold Bh;rw[yw hw])
 have ad:Hid (EL V base B4 B5 (AM x++(x.reaches.map fun d:AA=>d.frm).take 0) (AM (Ah x)++((Ah x).reaches.map fun d:AA=>d.frm).take 0) V):=yb (by rw[xd,xd,yV,yV];exact hL)
 generalize L1.reaches=av at hc S r J P
 obtain ⟨ra,rn,rc⟩:=av
 generalize L2.reaches=ap at O N R
 obtain ⟨L,a7,an⟩:=ap
 simp only at hc S r J P O N R
 clear hQ hw h1 h2 ac h5 hb hL hD m l E u G I F
 unfold Jd
 refine A9 (A4 ?_)
 go_wp2
 clear hc
 go_loopw [38] (fun iv wr=>∃i:Nat,iv=.int .i64 i∧i<=rn∧Hid (EL V base B4 B5 (AM x++(x.reaches.map fun d:AA=>d.frm).take i) (AM (Ah x)++((Ah x).reaches.map fun d:AA=>d.frm).take i) wr)) (fun iv _=>rn - (intOf iv).toNat)
 case atStart=>exact ⟨0,rfl,yK _,ad⟩
 case round=>
  clear ad
  obtain ⟨i,rfl,hi,A⟩:=hrel
  by_cases U:i < rn
  ·have aq:(i:Int) < (rn:Int):=by omega
   have y:i < x.reaches.length:=by rw[<-r.o];exact U
   have K:i < (Ah x).reaches.length:=by rw[Hc];exact y
   obtain ⟨b1,o1,rfl,g1,x1,y1⟩:=S.o i y
   obtain ⟨b2,o2,rfl,g2,x2,y2⟩:=N.o i K
   have ae:(x.reaches.map fun d:AA=>d.frm)[i]?=some x.reaches[i].frm:=by simp[y]
   have af:((Ah x).reaches.map fun d:AA=>d.frm)[i]?=some (Ah x).reaches[i].frm:=by simp[K]
   have k:Hid (∀wr,EL V base B4 B5 ((AM x++(x.reaches.map fun d:AA=>d.frm).take i)++[x.reaches[i].frm]) ((AM (Ah x)++((Ah x).reaches.map fun d:AA=>d.frm).take i)++[(Ah x).reaches[i].frm]) wr->EL V base B4 B5 (AM x++(x.reaches.map fun d:AA=>d.frm).take (i+1)) (AM (Ah x)++((Ah x).reaches.map fun d:AA=>d.frm).take (i+1)) wr):=yb (fun wr h=>by
    rw[yL,yL] at h
    rw[Hx ae,Hx af] at h
    exact h)
   have au:Hid ((AM x++(x.reaches.map fun d:AA=>d.frm).take i).length+1<=1000000000):=yb (by
    have:=H.o
    unfold BW at this
    simp only[ym,zc,yX] at this ⊢
    omega)
   have ah:Hid ((AM (Ah x)++((Ah x).reaches.map fun d:AA=>d.frm).take i).length+1<=1000000000):=yb (by
    have:=q.o
    unfold BW at this
    simp only[ym,zc,yX] at this ⊢
    omega)
   generalize x.reaches[i].frm=r1 at x1 y1 k
   generalize (Ah x).reaches[i].frm=r2 at x2 y2 k
   obtain ⟨va,vb,q4,q5,W⟩:=A.o.rows
   have HT:=yb W;have a8:=yb q4;have ab:=yb q5
   have ag:Hid (wr.cell? ⟨b1,o1+i*51+1,none⟩=some (.string r1.name)):=yb ((Ab (p.o _ _ _ A.o b1 g1)).trans x1)
   have ai:Hid (wr.cell? ⟨b1,o1+i*51+1+1,none⟩=some (.int .i64 r1.n)):=yb ((Ab (p.o _ _ _ A.o b1 g1)).trans y1)
   have aj:Hid (wr.cell? ⟨b2,o2+i*51+1,none⟩=some (.string r2.name)):=yb ((Ab (p.o _ _ _ A.o b2 g2)).trans x2)
   have ar:Hid (wr.cell? ⟨b2,o2+i*51+1+1,none⟩=some (.int .i64 r2.n)):=yb ((Ab (p.o _ _ _ A.o b2 g2)).trans y2)
   have HG:Hid (b1 < B4∧b2 < B4∧i < rn∧i < a7):=yb ⟨g1,g2,U,by rw[R.o];exact y⟩
   clear y K x1 y1 x2 y2 ae af q4 q5 W g1 g2
   go_wp2_with fail
   refine VR (base:=base) (B:=w.heap.size) (B3:=B3) (B4:=B4) (B5:=B5) (b1:=b1) (o1:=o1) (n1:=rn) (c1:=rc) (b2:=b2) (o2:=o2) (n2:=a7) (c2:=an) (i:=i) (va:=va) (vb:=vb) (la:=AM x++(x.reaches.map fun d:AA=>d.frm).take i) (lb:=AM (Ah x)++((Ah x).reaches.map fun d:AA=>d.frm).take i) (r1:=r1) (r2:=r2) _ ?_ ?_ ?_ ?_ ?_ ?_ ?_ ?_ ?_ ?_ ?_ ?_ ?_ ?_ ?_ ?_ ?_ ?_ ?_ ?_ ?_ ?_ ?_ ?_ ?_ ?_ ?_ ?_ ?_ ?_
   ·rfl
   ·rfl
   ·rfl
   ·rfl
   ·rfl
   ·rfl
   ·rfl
   ·have:=c.o;omega
   ·have:=c.o;omega
   ·have:=c.o;omega
   ·have:=c.o;omega
   ·have:=c.o;have:=HG.o;omega
   ·have:=c.o;have:=HG.o;omega
   ·have:=c.o;omega
   ·exact HG.o.2.2.1
   ·exact HG.o.2.2.2
   ·exact ⟨_,a8.o⟩
   ·exact ⟨_,ab.o⟩
   ·simp[World.cell?,a8.o]
   ·simp[World.cell?,ab.o]
   ·exact (Ab (p.o _ _ _ A.o _ c.o.1)).trans P.o
   ·exact (Ab (p.o _ _ _ A.o _ c.o.2.1)).trans O.o
   ·exact ag.o
   ·exact ai.o
   ·exact aj.o
   ·exact ar.o
   ·exact HT.o
   ·exact au.o
   ·exact ah.o
   ·intro a w1 v1 v2 a0 aa a6 hp
    have ao:=yb (k.o _ (A.o.put (by have:=c.o;omega) c.o.2.2.2.1 (by have:=c.o;omega) hp))
    obtain ⟨v41,v42,v43,v44,v45,v46,v47,v48,v49,v50,v51,v52,v53,v54,v55,v56,v57,v58,rfl⟩:∃v41 v42 v43 v44 v45 v46 v47 v48 v49 v50 v51 v52 v53 v54 v55 v56 v57 v58:Value,a={tmps:=#[u0,.pointer (some ⟨w.heap.size,0,none⟩),.int .i64 0,.pointer (some ⟨B3,0,none⟩),.pointer (some ⟨B4,0,none⟩),.pointer (some ⟨B5,0,none⟩),u6,u7,.int .i64 i,u9,u10,u11,u12,u13,u14,u15,u16,u17,u18,u19,u20,u21,u22,u23,u24,u25,u26,u27,u28,u29,u30,u31,u32,u33,u34,.pointer (some ⟨w.heap.size,21,none⟩),.slice (some ⟨b1,o1,none⟩) rn rc,.int .i64 rn,.int .i64 i,.bool true,.int .i64 i,v41,v42,v43,v44,v45,v46,v47,v48,v49,v50,v51,v52,v53,v54,v55,v56,v57,v58,u59,u60,u61,u62,u63],defers:=[Jd C,Jd D1]}:=by
     refine ⟨a.tmps.getD 41 undef,a.tmps.getD 42 undef,a.tmps.getD 43 undef,a.tmps.getD 44 undef,a.tmps.getD 45 undef,a.tmps.getD 46 undef,a.tmps.getD 47 undef,a.tmps.getD 48 undef,a.tmps.getD 49 undef,a.tmps.getD 50 undef,a.tmps.getD 51 undef,a.tmps.getD 52 undef,a.tmps.getD 53 undef,a.tmps.getD 54 undef,a.tmps.getD 55 undef,a.tmps.getD 56 undef,a.tmps.getD 57 undef,a.tmps.getD 58 undef,(Gt [41,42,43,44,45,46,47,48,49,50,51,52,53,54,55,56,57,58] (a0.trans rfl) aa (fun t ht=>a6 t ?_)).trans (by kernel_rfl)⟩
     simp at ht;omega
    clear a0 aa a6 hp
    unfold Jd
    go_wp2
    exact ⟨⟨i+1,by push_cast;rfl,by omega,ao⟩,by simp[intOf];omega⟩
  ·obtain rfl:i=rn:=by omega
   have aq:decide ((i:Int) < (i:Int))=false:=by simp
   have f:Hid (EL V base B4 B5 (BW x) (BW (Ah x)) wr):=yb (by
    have h:=A.o
    rw[r.o] at h
    have e1:(x.reaches.map fun d:AA=>d.frm).take x.reaches.length=x.reaches.map fun d:AA=>d.frm:=by
     rw[xW (by simp)]
    have e2:((Ah x).reaches.map fun d:AA=>d.frm).take x.reaches.length=(Ah x).reaches.map fun d:AA=>d.frm:=by
     rw[xW (by rw[yX,Hc];exact yf _)]
    rw[e1,e2] at h
    exact h)
   obtain ⟨va,vb,q4,q5,W⟩:=f.o.rows
   obtain ⟨⟨a1,n1,k1⟩,ea,Z⟩:=W.a.rf (by have:=H.o;omega)
   obtain ⟨⟨a2,n2,k2⟩,eb,L⟩:=W.b.rf (by have:=q.o;omega)
   unfold Au.v at ea eb
   simp only at ea eb
   subst ea eb
   have RA:=yb Z;have RB:=yb L
   have c4:wr.cell? ⟨B4,0,none⟩=some (.slice a1 n1 k1):=by simp[World.cell?,q4]
   have c5:wr.cell? ⟨B5,0,none⟩=some (.slice a2 n2 k2):=by simp[World.cell?,q5]
   clear q4 q5 W Z L A
   go_wp2
   by_cases X:BW x=BW (Ah x)
   ·have T:Hid (decide (BW x=BW (Ah x))=true):=yb (xm X)
    have M:Hid (Bh x=0):=yb (by rw[HC.o,yw X])
    clear X
    refine A9 (A4 ?_)
    go_wp2_with (first|(go_at_call 34;refine (L9 (h1:=⟨a1,n1,k1⟩) (h2:=⟨a2,n2,k2⟩) RA.o RB.o).mono ?_;rintro e w5 ⟨z,s⟩;rw[T.o] at z;subst z;have j:=yb s;clear s))
    refine A4 ?_
    go_wp2
    exact HQ.o.done 0 D1 C _ _ rfl ((D.o _ _ _ f.o).trans (j.o.mono (D.o _ _ _ f.o).size)) M.o Y.o.1 Y.o.2.1 Y.o.2.2 ((j.o.block _ (yd.1 (g.o _ _ _ f.o).1).1).trans (g.o _ _ _ f.o).1) ((j.o.block _ (yd.1 (g.o _ _ _ f.o).2).1).trans (g.o _ _ _ f.o).2)
   ·have T:Hid (decide (BW x=BW (Ah x))=false):=yb (xr X)
    have M:Hid (Bh x=170):=yb (by rw[HC.o,yt X])
    clear X
    refine A9 (A4 ?_)
    go_wp2_with (first|(go_at_call 34;refine (L9 (h1:=⟨a1,n1,k1⟩) (h2:=⟨a2,n2,k2⟩) RA.o RB.o).mono ?_;rintro e w5 ⟨z,s⟩;rw[T.o] at z;subst z;have j:=yb s;clear s))
    exact HQ.o.done 170 D1 C _ _ rfl ((D.o _ _ _ f.o).trans (j.o.mono (D.o _ _ _ f.o).size)) M.o Y.o.1 Y.o.2.1 Y.o.2.2 ((j.o.block _ (yd.1 (g.o _ _ _ f.o).1).1).trans (g.o _ _ _ f.o).1) ((j.o.block _ (yd.1 (g.o _ _ _ f.o).2).1).trans (g.o _ _ _ f.o).2)
end Go.Proofs.YtjofgpfocadomaaGreatDoor
namespace Go.Proofs.YtjofgpfocadomaaGreatDoor
open Go.RowKit
attribute [local go_sem] Oper.semAt_some
theorem Cs.low{B b:Nat}{w:World}{v:Value}{l:List Rf}(h:Cs B w v l)(hb:b<=B):Cs b w v l:=by
 obtain ⟨h1,h2⟩:=h
 refine ⟨h1,h2.imp id ?_⟩
 rintro ⟨g,cap,a,e,c,h5⟩
 exact ⟨g,cap,a,e,by omega,h5⟩
theorem Dk.below{W0 V V':World}{Bx:Nat}{l:List Rf}{O:NP}(h:Dk W0 Bx l O V)(hb:Below V.heap.size V V'):Dk W0 Bx l O V':=by
 obtain ⟨v,r1,r2,d⟩:=h.row
 exact ⟨⟨hb.os.trans h.grown.os,hb.tape.trans h.grown.tape,hb.output.trans h.grown.output,yu h.grown.size hb.size,fun b a c=>(hb.block b (yv a h.grown.size)).trans (h.grown.block b a c)⟩,h.ownO,v,(hb.block _ (yd.1 r1).1).trans r1,r2.up (fun g _ a=>hb.block g a),d⟩
theorem VU{Q:QT}{w V:World}{x:Av}{L1 L2:Bt}{d9 da:LV}{N1 N2:NP}{base B3 B4 B5 D1:Nat}(hQ:QY Q w x)(hw:AE x=0)
 (h1:CS V w.heap.size B4 x L1 d9 N1)(h2:CS V B3 B4 (Ah x) L2 da N2)(S:B4 < B5)(h5:B5 < base)(hb:Below w.heap.size w V)(E:base<=V.heap.size)
 (bo:∃va,V.heap[B4]?=some (.cells #[va] 81 (0,0))∧Cs base V va (AM x))(y:V.heap[B5]?=some (.cells #[.slice none 0 0] 81 (0,0)))
 (N:w.heap.size<=D1)(m:V.heap[D1]?=some (.deferred (some [])))(p:(BW x).length<=900000000)(i:(BW (Ah x)).length<=900000000)
 (u0 u6 u7 u8 u9 ah av ba az cj cv ag bb cp bq bi d0 ae bt b4 cq d8 dg bv cx au an af c9 bg ce cm ak cu b8 bj ay ap b9 bh aq be aj cd aw ad bx cf cw am b0 ct ax ai cy b7 bk bz c8:Value):
  FE 17 Tryz.prog (H4 5 (Tryz.f17.body.getD .skip)) Q {tmps:=#[u0,.pointer (some ⟨w.heap.size,0,none⟩),.int .i64 0,.pointer (some ⟨B3,0,none⟩),.pointer (some ⟨B4,0,none⟩),.pointer (some ⟨B5,0,none⟩),u6,u7,u8,u9,ah,av,ba,az,cj,cv,ag,bb,cp,bq,bi,d0,ae,bt,b4,cq,d8,dg,bv,cx,au,an,af,c9,bg,ce,cm,ak,cu,b8,bj,ay,ap,b9,bh,aq,be,aj,cd,aw,ad,bx,cf,cw,am,b0,ct,ax,ai,cy,b7,bk,bz,c8],defers:=[Jd D1]} V:=by
 obtain ⟨x0,z⟩:∃x0:Av,x0=Ah x:=⟨_,rfl⟩
 obtain ⟨L,cs,NN,X⟩:∃L cs NN,CS V B3 B4 x0 L cs NN:=by rw[z];exact ⟨_,_,_,h2⟩
 have T:BD x0=true:=by rw[z];exact QX (Ev hw).1
 have d1:Cw (Tb.of x) x0=true:=by rw[z];exact Mz (Ev hw).2.2.2.2
 have cr:(AM x0).length<=900000000:=by
  rw[z];have:=i;unfold BW at this;rw[ym] at this;omega
 have bu:B3 < B4:=X.lt _ (.inl rfl)
 obtain ⟨W5,I⟩:∃W5,W5=(V.alloc (.cells #[pV B3 0] 85)):=⟨_,rfl⟩
 have j:Below V.heap.size V W5:=by rw[I];exact (yg _ _).alloc (yf _) _
 have a2:W5.heap.size=V.heap.size+1:=by rw[I];simp
 have M:CS W5 B3 B4 x0 L cs NN:=X.up (fun b hb=>j.block b (by omega))
 have cl:W5.cell? (aV V.heap.size 0)=some (pV L.s 0):=by
  rw[X.at0,I]
  have h:=World.alloc_heap_new V (.cells #[pV B3 0] 85)
  simp only[World.cell?,h]
  rfl
 have a7:W5.rangeAt L.s 0 cs:=by rw[X.at0];exact M.range
 have hU:=OF M.src a7 cl T
 obtain ⟨hR,hM⟩:=My M.src a7
 have Z:(BQ W5 L x0).2=true:=((G2 (Tb.of x) hU).2 d1).1
 have ac:=hM Z
 have bp:(BQ W5 L x0).1.length=(AM x0).length:=by rw[<-ac,yX]
 have ck:∀k O U,Dk W5 B5 ((AM x0).take k) O U->∀b,(V0 NN L.s b∨b=V.heap.size)->U.heap[b]?=W5.heap[b]?:=fun k O U h b hb=>by
  rcases hb with hb|rfl
  ·rw[X.at0] at hb
   have:=X.lt b hb
   exact h.same (by omega) (by omega)
  ·exact h.same (by omega) (by omega)
 have HU:=yb hU;have HR:=yb hR;have HM:=yb ac;have dh:=yb bp;have ci:=yb ck;have dj:=yb Z;have b5:=yb a2;have di:=yb j
 have HP:=yb X;have d5:=yb cr
 have cn:Hid (B5 < V.heap.size∧∃u:Value,W5.heap[B5]?=some (.cells #[u] 81 (0,0))):=yb ⟨by omega,by
  rw[j.block _ (by omega)];exact ⟨_,y⟩⟩
 have q:Hid (B5 < W5.heap.size):=yb (by omega)
 have dc:Hid (Dk W5 B5 ((AM x0).take 0) (fun _=>False) W5):=yb (by
  rw[xd]
  exact Dk.start W5 (by rw[j.block _ (by omega)];exact y))
 have dl:=yb I;have d6:=yb z;have d4:=yb bu
 have Y:=yb (And.intro hQ (And.intro hw (And.intro h1 (And.intro h2 (And.intro S (And.intro h5 (And.intro hb E)))))))
 have ab:=yb (And.intro bo (And.intro y (And.intro N m)))
 have aa:=yb (And.intro p i)
 clear I hQ hw h1 h2 S h5 hb E T d1 cr bu j a2 M cl a7 hU hR hM ac Z bp ck X z p i bo y N m
 unfold Jd
 refine A9 (A9 (A4 ?_))
 go_wp2_with (first|(go_at_call 33;refine (KN _ _).mono ?_;rintro e w2 ⟨rfl,rfl⟩))
 rw[<-dl.o]
 refine D7 ?_
 refine CC (n:=10) Tryz.func17 rfl (fun _ _=>rfl) (Ky 9 (by omega) HU.o) (fun a ha=>by
   obtain ⟨u,_,rfl⟩:=xR.1 ha
   rfl)
  (fun k O U=>Dk W5 B5 ((AM x0).take k) O U) (fun _ _ _=>False) (fun _ _ _=>False)
  (fun k a O U=>Dk W5 B5 ((AM x0).take k) O U∧∃(ub uo:Nat) (f d:Int) (c:ByteArray) (C:Int) (g:Nat),(BQ W5 L x0).1[k]?=some ⟨ub,uo,f,d,c,C⟩∧¬ O g∧g < U.heap.size∧U.heap[g]?=some (.cells #[pV ub uo,iV f,iV d] 89 (0,0))∧a={tmps:=#[u0,pV w.heap.size 0,iV 0,pV B3 0,pV B4 0,pV B5 0,u6,pV g 0,u8,u9,ah,av,ba,az,cj,cv,ag,bb,cp,bq,bi,d0,ae,bt,b4,cq,.func (.func 70) #[] #[pV V.heap.size 0],.agg #[pV ub uo,iV f,iV d],bv,cx,au,an,af,c9,bg,ce,cm,ak,cu,b8,bj,ay,ap,b9,bh,aq,be,aj,cd,aw,ad,bx,cf,cw,am,b0,ct,ax,ai,cy,b7,bk,bz,c8],defers:=[]})
  (Dk.stays (W0:=W5) q.o (fun k=>(AM x0).take k)) (fun _ _ _ _ _ _ h=>h.elim) (fun _ _ _ _ _ _ h=>h.elim) ?_ (fun k O U h=>OD (ci.o k O U h)) (fun _ _ _ h=>h.elim) ?_ dc.o ?_ ?_ ?_ (fun _ _ _ _ _ _ h=>h.elim) (fun _ _ _ _ _ _ h=>h.elim)
 ·rintro a k O U O' U' ⟨h1,ub,uo,f,d,c,C,g,h2,h3,h4,h5,h6⟩ hz ho ht hu W hO
  exact ⟨Dk.stays (W0:=W5) q.o (fun k=>(AM x0).take k) k O U O' U' h1 hz ho ht hu W hO,ub,uo,f,d,c,C,g,h2,fun h=>(hO g h).elim h3 (fun h=>by omega),by omega,(W g h3 h4).trans h5,h6⟩
 ·intro ch he O U J
  rw[dj.o] at he
  cases he
 ·intro k W O U lo J hO hl K
  have ar:k < (BQ W5 L x0).1.length:=by rw[yX] at W;exact W
  rw[zG]
  have R:=yb (yk ar)
  generalize (BQ W5 L x0).1[k]=u at R ⊢
  obtain ⟨ub,uo,f,d,c,C⟩:=u
  have HJ:=yb J;have P:=yb K
  clear J hO hl K W ar
  unfold Us.v
  simp only
  gi_wp2
  have a0:AL O U (U.alloc (.cells #[pV ub uo,iV f,iV d] 89)):=⟨by simp,fun b hb=>yD _ _ _ (P.o b hb)⟩
  have G:Dk W5 B5 ((AM x0).take k) O (U.alloc (.cells #[pV ub uo,iV f,iV d] 89)):=HJ.o.below ((yg U.heap.size U).alloc (yf _) _)
  have H:¬ O U.heap.size:=fun h=>qC _ (P.o _ h)
  first
  |exact ⟨a0,G,ub,uo,f,d,c,C,U.heap.size,R.o,H,by simp,World.alloc_heap_new _ _,rfl⟩
  |(rename_i hK;exact hK _ _ ⟨a0,G,ub,uo,f,d,c,C,U.heap.size,R.o,H,by simp,World.alloc_heap_new _ _,rfl⟩)
  |(rename_i hK _;exact hK _ _ ⟨a0,G,ub,uo,f,d,c,C,U.heap.size,R.o,H,by simp,World.alloc_heap_new _ _,rfl⟩)
  |fail
 ·rintro k W O U lo a1 hl cg K ⟨J,ub,uo,f,d,c,C,g,hu,df,cz,ao,rfl⟩
  have l:=HR.o _ (zX hu)
  have a8:=ci.o k O U J ub (.inl l.inS)
  have cc:(AM x0)[k]?=some (⟨c,C⟩:Rf):=by
   rw[<-HM.o,qw,hu];rfl
  obtain ⟨va,r1,r2,r3⟩:=J.row
  have HJ:=yb J
  have dk:Hid (∀U',Dk W5 B5 ((AM x0).take k++[⟨c,C⟩]) O U'->Dk W5 B5 ((AM x0).take (k+1)) O U'):=yb (fun U' h=>by rw[Hx cc] at h;exact h)
  have dm:Hid (((AM x0).take k).length+1<=1000000000):=yb (by
   have:=d5.o
   rw[zc];omega)
  have bn:Hid (U.cell? (aV B5 0)=some va):=yb (by simp[World.cell?,r1])
  have bm:Hid (∃u,U.heap[B5]?=some (.cells #[u] 81 (0,0))):=yb ⟨_,r1⟩
  have bd:=yb r2
  have bw:Hid (U.cell? (aV g 0)=some (pV ub uo)):=yb (by simp[World.cell?,ao])
  have d7:Hid (U.cell? (aV ub uo)=some (.string c)):=yb ((Ab a8).trans l.name)
  have db:Hid (U.cell? (aV ub (uo+1))=some (iV C)):=yb ((Ab a8).trans l.n)
  have F:Hid (B5 < W5.heap.size∧W5.heap.size<=U.heap.size∧g < U.heap.size∧ub < W5.heap.size):=yb ⟨q.o,J.grown.size,cz,by
   have h1:=l.inS
   rw[HP.o.at0] at h1
   have:=HP.o.lt ub h1
   have:=cn.o.1
   have:=b5.o
   have:=Y.o.2.2.2.2.1
   simp only at*
   omega⟩
  have P:=yb K
  clear l a8 cc r1 r2 r3 J hu df cz ao hl cg W K
  gi_wp2_with fail
  refine VP (W0:=U) (Bx:=B5) (b6:=g) (ub:=ub) (uo:=uo) (base:=W5.heap.size) (va:=va) (ls:=(AM x0).take k) (r:=⟨c,C⟩) _ ?_ ?_ ?_ ?_ ?_ ?_ ?_ ?_ ?_ ?_ ?_ ?_ ?_ ?_ ?_ ?_ ?_
  ·rfl
  ·rfl
  ·rfl
  ·rfl
  ·have:=F.o;omega
  ·have:=F.o;omega
  ·have:=F.o;omega
  ·exact bm.o
  ·exact bn.o
  ·exact bw.o
  ·exact d7.o
  ·exact db.o
  ·exact bd.o
  ·exact dm.o
  ·exact F.o.2.1
  ·exact F.o.1
  ·intro a w1 v _ _ _ hp
   have h:=HJ.o.put q.o P.o bn.o hp
   exact ⟨h.2,dk.o _ h.1⟩
 ·intro _ D O U hD dn J dd
  obtain ⟨hQ,hw,h1,h2,S,h5,hb,E⟩:=Y.o
  obtain ⟨p,i⟩:=aa.o
  have a2:=b5.o
  have j:=di.o
  have dr:=d4.o
  have dq:=cn.o.1
  have t:Dk W5 B5 (AM (Ah x)) O U:=by
   have h:=J
   rw[yX,dh.o,yT,d6.o] at h
   exact h
  obtain ⟨v2,q1,q2,q3⟩:=t.row
  have A:∀b,b < V.heap.size->b≠B5->U.heap[b]?=V.heap[b]?:=fun b B a6=>(t.same (by omega) a6).trans (j.block b B)
  have dp:=t.grown.size
  have d3:Below w.heap.size w U:=hb.trans ⟨t.grown.os.trans j.os,t.grown.tape.trans j.tape,t.grown.output.trans j.output,by omega,fun b B=>A b (by have:=hb.size;omega) (by have:=h1.lt _ (.inl rfl);omega)⟩
  have de:=h1.up (fun b B=>A b (by omega) (by omega))
  have d2:=h2.up (fun b B=>A b (by omega) (by omega))
  obtain ⟨⟨va,p1,p2⟩,y,N,m⟩:=ab.o
  have a6:D1≠B5:=fun e=>by rw[e,y] at m;cases m
  have co:=(yd.1 m).1
  have hL:EL U base B4 B5 (AM x) (AM (Ah x)) U:=⟨rfl,rfl,rfl,yf _,by omega,fun _ _ _ _ h _=>h,fun _ _ _ _=>rfl,va,v2,(A B4 (by omega) (by omega)).trans p1,q1,yg _ _,by omega,p2.up (fun g hg B=>A g B (by have:=(p2.lt hg).1;omega)),q2.low (by omega),fun g e1 e2=>by have:=(p2.lt e1).2;have:=(q2.lt e2).1;omega,fun _ _ h _=>h⟩
  exact VT (base:=base) hQ hw de d2 S h5 d3 hL ⟨by omega,N,by have:=hb.size;omega⟩ ((A D1 co a6).trans m) dd p i _ _ _ _ _ _ _ _ _ _ _ _ _ _ _ _ _ _ _ _ _ _ _ _ _ _ _ _ _ _ _ _ _ _ _ _ _ _ _ _ _ _ _ _ _ _ _ _ _ _ _ _ _ _ _ _ _ _ _
theorem VV{Q:QT}{w V:World}{x:Av}{L1 L2:Bt}{d5 d6:LV}{N1 N2:NP}{base B3 B4 B5:Nat}(hQ:QY Q w x)(hw:AE x=0)
 (h1:CS V w.heap.size B4 x L1 d5 N1)(h2:CS V B3 B4 (Ah x) L2 d6 N2)(P:B4 < B5)(h5:B5 < base)(hb:Below w.heap.size w V)(A:base<=V.heap.size)
 (bm:∃u:Value,V.heap[B4]?=some (.cells #[u] 81 (0,0)))(p:V.heap[B4]?=some (.cells #[.slice none 0 0] 81 (0,0)))(J:V.heap[B5]?=some (.cells #[.slice none 0 0] 81 (0,0)))
 (l:(BW x).length<=900000000)(j:(BW (Ah x)).length<=900000000)
 (u0 u6 u7 u8 u9 af ar b9 ax ci cr ae d7 dh bp bg cx ac bq az cn b8 bo bu cu aq ak ad c8 bd cd cl ai cq b5 bh aw an b7 be ao bb ah cc au ab bw ce ct aj ay cp av ag cv b4 bi bx bz:Value):
  FE 17 Tryz.prog (H4 4 (Tryz.f17.body.getD .skip)) Q {tmps:=#[u0,.pointer (some ⟨w.heap.size,0,none⟩),.int .i64 0,.pointer (some ⟨B3,0,none⟩),.pointer (some ⟨B4,0,none⟩),.pointer (some ⟨B5,0,none⟩),u6,u7,u8,u9,af,ar,b9,ax,ci,cr,ae,d7,dh,bp,bg,cx,ac,bq,az,cn,b8,bo,bu,cu,aq,ak,ad,c8,bd,cd,cl,ai,cq,b5,bh,aw,an,b7,be,ao,bb,ah,cc,au,ab,bw,ce,ct,aj,ay,cp,av,ag,cv,b4,bi,bx,bz],defers:=[]} V:=by
 obtain ⟨x0,y⟩:∃x0:Av,x0=x:=⟨_,rfl⟩
 obtain ⟨L,cs,NN,W⟩:∃L cs NN,CS V w.heap.size B4 x0 L cs NN:=by rw[y];exact ⟨_,_,_,h1⟩
 have S:BD x0=true:=by rw[y];exact (Ev hw).1
 have cy:Cw (Tb.of x) x0=true:=by rw[y];exact (Ev hw).2.2.2.2
 have co:(AM x0).length<=900000000:=by
  rw[y];have:=l;unfold BW at this;rw[ym] at this;omega
 have bt:w.heap.size < B4:=W.lt _ (.inl rfl)
 obtain ⟨W5,F⟩:∃W5,W5=(V.alloc (.cells #[pV w.heap.size 0] 85)):=⟨_,rfl⟩
 have i:Below V.heap.size V W5:=by rw[F];exact (yg _ _).alloc (yf _) _
 have a0:W5.heap.size=V.heap.size+1:=by rw[F];simp
 have I:CS W5 w.heap.size B4 x0 L cs NN:=W.up (fun b hb=>i.block b (by omega))
 have ck:W5.cell? (aV V.heap.size 0)=some (pV L.s 0):=by
  rw[W.at0,F]
  have h:=World.alloc_heap_new V (.cells #[pV w.heap.size 0] 85)
  simp only[World.cell?,h]
  rfl
 have a2:W5.rangeAt L.s 0 cs:=by rw[W.at0];exact I.range
 have hU:=OF I.src a2 ck S
 obtain ⟨hR,hM⟩:=My I.src a2
 have Y:(BQ W5 L x0).2=true:=((G2 (Tb.of x) hU).2 cy).1
 have aa:=hM Y
 have bn:(BQ W5 L x0).1.length=(AM x0).length:=by rw[<-aa,yX]
 have cj:∀k O U,Dk W5 B4 ((AM x0).take k) O U->∀b,(V0 NN L.s b∨b=V.heap.size)->U.heap[b]?=W5.heap[b]?:=fun k O U h b hb=>by
  rcases hb with hb|rfl
  ·rw[W.at0] at hb
   have:=W.lt b hb
   exact h.same (by omega) (by omega)
  ·exact h.same (by omega) (by omega)
 have HU:=yb hU;have HR:=yb hR;have HM:=yb aa;have de:=yb bn;have cg:=yb cj;have dg:=yb Y;have b0:=yb a0;have df:=yb i
 have HP:=yb W;have d2:=yb co
 have cm:Hid (B4 < V.heap.size∧∃u:Value,W5.heap[B4]?=some (.cells #[u] 81 (0,0))):=yb ⟨by omega,by
  rw[i.block _ (by omega)];exact bm⟩
 have q:Hid (B4 < W5.heap.size):=yb (by omega)
 have da:Hid (Dk W5 B4 ((AM x0).take 0) (fun _=>False) W5):=yb (by
  rw[xd]
  exact Dk.start W5 (by rw[i.block _ (by omega)];exact p))
 have dj:=yb F;have d3:=yb y;have d1:=yb bt
 have X:=yb (And.intro hQ (And.intro hw (And.intro h1 (And.intro h2 (And.intro P (And.intro h5 (And.intro hb A)))))))
 have a8:=yb (And.intro p J)
 have a7:=yb (And.intro l j)
 clear F hQ hw h1 h2 P h5 hb A S cy co bt i a0 I ck a2 hU hR hM aa Y bn cj W y l j bm p J
 refine A9 (A9 (A4 ?_))
 go_wp2_with (first|(go_at_call 33;refine (KN _ _).mono ?_;rintro e w2 ⟨rfl,rfl⟩))
 rw[<-dj.o]
 refine D7 ?_
 refine CC (n:=10) Tryz.func17 rfl (fun _ _=>rfl) (Ky 9 (by omega) HU.o) (fun a ha=>by
   obtain ⟨u,_,rfl⟩:=xR.1 ha
   rfl)
  (fun k O U=>Dk W5 B4 ((AM x0).take k) O U) (fun _ _ _=>False) (fun _ _ _=>False)
  (fun k a O U=>Dk W5 B4 ((AM x0).take k) O U∧∃(ub uo:Nat) (f d:Int) (c:ByteArray) (z:Int) (g:Nat),(BQ W5 L x0).1[k]?=some ⟨ub,uo,f,d,c,z⟩∧¬ O g∧g < U.heap.size∧U.heap[g]?=some (.cells #[pV ub uo,iV f,iV d] 89 (0,0))∧a={tmps:=#[u0,pV w.heap.size 0,iV 0,pV B3 0,pV B4 0,pV B5 0,pV g 0,u7,u8,u9,af,ar,b9,ax,ci,cr,ae,.func (.func 70) #[] #[pV V.heap.size 0],.agg #[pV ub uo,iV f,iV d],bp,bg,cx,ac,bq,az,cn,b8,bo,bu,cu,aq,ak,ad,c8,bd,cd,cl,ai,cq,b5,bh,aw,an,b7,be,ao,bb,ah,cc,au,ab,bw,ce,ct,aj,ay,cp,av,ag,cv,b4,bi,bx,bz],defers:=[]})
  (Dk.stays (W0:=W5) q.o (fun k=>(AM x0).take k)) (fun _ _ _ _ _ _ h=>h.elim) (fun _ _ _ _ _ _ h=>h.elim) ?_ (fun k O U h=>OD (cg.o k O U h)) (fun _ _ _ h=>h.elim) ?_ da.o ?_ ?_ ?_ (fun _ _ _ _ _ _ h=>h.elim) (fun _ _ _ _ _ _ h=>h.elim)
 ·rintro a k O U O' U' ⟨h1,ub,uo,f,d,c,z,g,h2,h3,h4,h5,h6⟩ hz ho ht hu T hO
  exact ⟨Dk.stays (W0:=W5) q.o (fun k=>(AM x0).take k) k O U O' U' h1 hz ho ht hu T hO,ub,uo,f,d,c,z,g,h2,fun h=>(hO g h).elim h3 (fun h=>by omega),by omega,(T g h3 h4).trans h5,h6⟩
 ·intro ch he O U G
  rw[dg.o] at he
  cases he
 ·intro k T O U lo G hO hl H
  have ap:k < (BQ W5 L x0).1.length:=by rw[yX] at T;exact T
  rw[zG]
  have N:=yb (yk ap)
  generalize (BQ W5 L x0).1[k]=u at N ⊢
  obtain ⟨ub,uo,f,d,c,z⟩:=u
  have HJ:=yb G;have M:=yb H
  clear G hO hl H T ap
  unfold Us.v
  simp only
  gi_wp2
  have Z:AL O U (U.alloc (.cells #[pV ub uo,iV f,iV d] 89)):=⟨by simp,fun b hb=>yD _ _ _ (M.o b hb)⟩
  have C:Dk W5 B4 ((AM x0).take k) O (U.alloc (.cells #[pV ub uo,iV f,iV d] 89)):=HJ.o.below ((yg U.heap.size U).alloc (yf _) _)
  have E:¬ O U.heap.size:=fun h=>qC _ (M.o _ h)
  first
  |exact ⟨Z,C,ub,uo,f,d,c,z,U.heap.size,N.o,E,by simp,World.alloc_heap_new _ _,rfl⟩
  |(rename_i hK;exact hK _ _ ⟨Z,C,ub,uo,f,d,c,z,U.heap.size,N.o,E,by simp,World.alloc_heap_new _ _,rfl⟩)
  |(rename_i hK _;exact hK _ _ ⟨Z,C,ub,uo,f,d,c,z,U.heap.size,N.o,E,by simp,World.alloc_heap_new _ _,rfl⟩)
  |fail
 ·rintro k T O U lo a1 hl cf H ⟨G,ub,uo,f,d,c,z,g,hu,dd,cw,am,rfl⟩
  have m:=HR.o _ (zX hu)
  have a6:=cg.o k O U G ub (.inl m.inS)
  have c9:(AM x0)[k]?=some (⟨c,z⟩:Rf):=by
   rw[<-HM.o,qw,hu];rfl
  obtain ⟨va,r1,r2,r3⟩:=G.row
  have HJ:=yb G
  have di:Hid (∀U',Dk W5 B4 ((AM x0).take k++[⟨c,z⟩]) O U'->Dk W5 B4 ((AM x0).take (k+1)) O U'):=yb (fun U' h=>by rw[Hx c9] at h;exact h)
  have dk:Hid (((AM x0).take k).length+1<=1000000000):=yb (by
   have:=d2.o
   rw[zc];omega)
  have bk:Hid (U.cell? (aV B4 0)=some va):=yb (by simp[World.cell?,r1])
  have bj:Hid (∃u,U.heap[B4]?=some (.cells #[u] 81 (0,0))):=yb ⟨_,r1⟩
  have ba:=yb r2
  have bv:Hid (U.cell? (aV g 0)=some (pV ub uo)):=yb (by simp[World.cell?,am])
  have d4:Hid (U.cell? (aV ub uo)=some (.string c)):=yb ((Ab a6).trans m.name)
  have d9:Hid (U.cell? (aV ub (uo+1))=some (iV z)):=yb ((Ab a6).trans m.n)
  have B:Hid (B4 < W5.heap.size∧W5.heap.size<=U.heap.size∧g < U.heap.size∧ub < W5.heap.size):=yb ⟨q.o,G.grown.size,cw,by
   have h1:=m.inS
   rw[HP.o.at0] at h1
   have:=HP.o.lt ub h1
   have:=cm.o.1
   have:=b0.o
   have:=X.o.2.2.2.2.1
   simp only at*
   omega⟩
  have M:=yb H
  clear m a6 c9 r1 r2 r3 G hu dd cw am hl cf T H
  gi_wp2_with fail
  refine Wp (W0:=U) (Bx:=B4) (b6:=g) (ub:=ub) (uo:=uo) (base:=W5.heap.size) (va:=va) (ls:=(AM x0).take k) (r:=⟨c,z⟩) _ ?_ ?_ ?_ ?_ ?_ ?_ ?_ ?_ ?_ ?_ ?_ ?_ ?_ ?_ ?_ ?_ ?_
  ·rfl
  ·rfl
  ·rfl
  ·rfl
  ·have:=B.o;omega
  ·have:=B.o;omega
  ·have:=B.o;omega
  ·exact bj.o
  ·exact bk.o
  ·exact bv.o
  ·exact d4.o
  ·exact d9.o
  ·exact ba.o
  ·exact dk.o
  ·exact B.o.2.1
  ·exact B.o.1
  ·intro a w1 v _ _ _ hp
   have h:=HJ.o.put q.o M.o bk.o hp
   exact ⟨h.2,di.o _ h.1⟩
 ·intro _ D O U hD dl G db
  obtain ⟨hQ,hw,h1,h2,P,h5,hb,A⟩:=X.o
  obtain ⟨l,j⟩:=a7.o
  have a0:=b0.o
  have i:=df.o
  have dp:=d1.o
  have dn:=cm.o.1
  have t:Dk W5 B4 (AM (x)) O U:=by
   have h:=G
   rw[yX,de.o,yT,d3.o] at h
   exact h
  obtain ⟨v2,q1,q2,q3⟩:=t.row
  have K:∀b,b < V.heap.size->b≠B4->U.heap[b]?=V.heap[b]?:=fun b R d8=>(t.same (by omega) d8).trans (i.block b R)
  have dm:=t.grown.size
  have d0:Below w.heap.size w U:=hb.trans ⟨t.grown.os.trans i.os,t.grown.tape.trans i.tape,t.grown.output.trans i.output,by omega,fun b R=>K b (by have:=hb.size;omega) (by have:=h1.lt _ (.inl rfl);omega)⟩
  have dc:=h1.up (fun b R=>K b (by omega) (by omega))
  have cz:=h2.up (fun b R=>K b (by omega) (by omega))
  obtain ⟨p,J⟩:=a8.o
  exact VU (base:=base) (D1:=D) hQ hw dc cz P h5 d0 (by omega) ⟨v2,q1,q2.low (by omega)⟩ ((K B5 (by omega) (by omega)).trans J) (by have:=hb.size;omega) db l j _ _ _ _ _ _ _ _ _ _ _ _ _ _ _ _ _ _ _ _ _ _ _ _ _ _ _ _ _ _ _ _ _ _ _ _ _ _ _ _ _ _ _ _ _ _ _ _ _ _ _ _ _ _ _ _ _ _ _
end Go.Proofs.YtjofgpfocadomaaGreatDoor
namespace Go.Proofs.YtjofgpfocadomaaGreatDoor
open Go.RowKit
theorem Be{α β:Type}{f:α->List β}{c:Nat}:∀ {l:List α},(∀a∈l,(f a).length<=c)->(l.flatMap f).length<=l.length*c
 |[],_=>by simp
 |a::l,h=>by
  rw[yW,ym,yx,Nat.succ_mul]
  have:=h a (by simp)
  have:=Be (l:=l) (fun b hb=>h b (by simp[hb]))
  omega
theorem EM{α β:Type}{f:α × Nat->List β}{c:Nat}{l:List α}(h:∀a∈l,∀i,(f (a,i)).length<=c):(l.zipIdx.flatMap f).length<=l.length*c:=by
 have:=Be (l:=l.zipIdx) (f:=f) (c:=c) (fun p b=>by
  obtain ⟨a,i⟩:=p
  obtain ⟨_,h2,h3⟩:=List.mem_zipIdx (x:=a) (i:=i) b
  exact h a (h3▸yM _) i)
 rwa [zC] at this
section
variable{t:Tb}
mutual
theorem OJ(lt:Int):∀e:Ex,Sx t lt e=true->(FB e).length+1<=2 ^ (Ar e+1)
 |.mk op n u rn ri args,h=>by
  rw[Sx,yG,yG] at h
  obtain ⟨h1,_,h3⟩:=h
  have ih:=MA lt args h3
  rw[FB,Ar,yx]
  unfold Nv at h1
  simp only[yG,z7] at h1
  obtain ⟨_,_,h2⟩:=h1
  rw[Nat.pow_succ]
  split at h2
  ·have h2:args.length=2:=yO h2
   rw[h2] at ih;omega
  ·have h2:args.length=0:=yO h2
   obtain rfl:=zl.1 h2
   simp[Ds,AN]
theorem MA(lt:Int):∀l:List Ex,RE t lt l=true->(Ds l).length+l.length<=l.length*2 ^ AN l
 |[],_=>by simp[Ds]
 |e::r,h=>by
  rw[RE,yG] at h
  have b:=OJ lt e h.1
  have c:=MA lt r h.2
  rw[Ds,AN,ym,yx]
  have d:2 ^ (Ar e+1)<=2 ^ max (1+Ar e) (AN r):=Nat.pow_le_pow_right (by omega) (by omega)
  have a:r.length*2 ^ AN r<=r.length*2 ^ max (1+Ar e) (AN r):=Nat.mul_le_mul_left _ (Nat.pow_le_pow_right (by omega) (by omega))
  rw[Nat.succ_mul]
  omega
end
theorem Ux{x:Av}(a:BD x=true):(Ax x).length<=20000:=by
 obtain ⟨f,e,m,j,s,l,n,b,_⟩:=Fj a
 unfold Ax JB Il Fc Im Gj Gk
 have r:(x.lets.zipIdx.flatMap fun p=> [(p.1.value,1+(p.2:Int))]).length<=x.lets.length*1:=EM fun _ _ _=>by simp
 have k:(x.crops.zipIdx.flatMap fun p=> [(p.1.need,(0:Int))]).length<=x.crops.length*1:=EM fun _ _ _=>by simp
 have c:(x.reaches.zipIdx.flatMap fun p=> [(p.1.delay,(0:Int)),(p.1.cap,0),(p.1.bank,0),(p.1.siphon,0),(p.1.evap0,0),(p.1.evap1,0),(p.1.seep0,0),(p.1.seep1,0)]).length<=x.reaches.length*8:=EM fun _ _ _=>by simp
 have h:(x.farms.zipIdx.flatMap fun p=> [(p.1.area,(0:Int))]).length<=x.farms.length*1:=EM fun _ _ _=>by simp
 have o:(JC x.rots).length<=x.rots.length*67:=by
  unfold JC
  refine EM fun d hd i=>?_
  have h1:(Em d.turns).length<=d.turns.length*1:=by unfold Em;exact EM fun _ _ _=>by simp
  have:=b d hd
  simp only[ym,yx,yH]
  omega
 have g:(x.rights.zipIdx.flatMap fun p=> [(p.1.flow,(0:Int)),(p.1.frm,0),(p.1.to,0),(p.1.every,0),(p.1.len,0)]).length<=x.rights.length*5:=EM fun _ _ _=>by simp
 have q:(x.duties.zipIdx.flatMap fun p=> [(p.1.due,(0:Int))]).length<=x.duties.length*1:=EM fun _ _ _=>by simp
 simp only[ym,yx,yH]
 omega
theorem OK{x:Av}(c:BD x=true)(a:Cw t x=true):(BW x).length<=900000000:=by
 obtain ⟨l,j,u,o,y,s,v,g,h⟩:=Fj c
 have q:=Ux c
 unfold Cw at a
 simp only[yG] at a
 have h1:=a.1
 rw[yR] at h1
 have p:((Ax x).flatMap CQ).length<=(Ax x).length*511:=Be fun e b=>by
  unfold CQ
  split
  ·simp
  ·rename_i f
   have h2:=h1 e b
   unfold JG at h2
   rw[Bool.or_eq_true,or_iff_right f] at h2
   have h3:=OJ e.2 e.1 h2
   have n:2 ^ (Ar e.1+1)<=2 ^ 9:=Nat.pow_le_pow_right (by omega) (by have:=h e b;omega)
   omega
 have w:(x.farms.flatMap DA).length<=x.farms.length*2:=Be fun _ _=>by simp[DA]
 have r:(x.rots.flatMap Dj).length<=x.rots.length*65:=Be fun d hd=>by
  have h1:(d.turns.flatMap fun k:Cb=> [k.farm]).length<=d.turns.length*1:=Be fun _ _=>by simp
  have:=g d hd
  unfold Dj
  rw[yx];omega
 have i:(x.rights.flatMap CZ).length<=x.rights.length*2:=Be fun _ _=>by simp[CZ]
 have m:(x.duties.flatMap DC).length<=x.duties.length*2:=Be fun _ _=>by simp[DC]
 unfold BW AM
 simp only[ym,yX]
 omega
end
theorem Uy{w w':World}{x:Av}{e:Ending}(h:IK w x e w'):∃cs:LV,e=.returned (.tuple #[.agg cs.toArray,.int .i64 (AE x)])∧cs.length=26∧(∀v∈cs,v.oneCell'=true)∧Below w.heap.size w w'∧(AE x=0->∃(L:Bt) (N:NP),BH N w' L cs (Ah x)∧∀b,N b->w.heap.size<=b∧b < w'.heap.size):=by
 obtain ⟨hb,⟨h0,rfl⟩|⟨h0,cs,rfl,L,N,a,hs,hN⟩⟩:=h
 ·exact ⟨Da,rfl,rfl,fun v c=>yR.1 (show Da.all (fun v=>v.oneCell')=true from rfl) v c,hb,fun h=>absurd h h0⟩
 ·exact ⟨cs,by rw[h0],a,MT hs,hb,fun _=>⟨L,N,hs,hN⟩⟩
def Wi(w:World)(cs:LV):World:=w.alloc (.cells cs.toArray 35)
theorem Vh{w w1 w2:World}{x y:Av}{L m:Bt}{i rs:LV}{N g:NP}(j:Below w.heap.size w w1)(n:w1.heap.size=w.heap.size+1)(hs:BH N w1 L i x)(hr:w1.rangeAt w.heap.size 0 i)(hN:∀b,N b->b < w.heap.size)(a:Below w1.heap.size w1 w2)(l:BH g w2 m rs y)(f:∀b,g b->b < w2.heap.size):
  CS (((w2.alloc (.cells rs.toArray 35)).alloc (.cells #[.slice none 0 0] 81)).alloc (.cells #[.slice none 0 0] 81)) w.heap.size (w2.heap.size+1) x {L with s:=w.heap.size} i N∧
  CS (((w2.alloc (.cells rs.toArray 35)).alloc (.cells #[.slice none 0 0] 81)).alloc (.cells #[.slice none 0 0] 81)) w2.heap.size (w2.heap.size+1) y {m with s:=w2.heap.size} rs g∧
  Below w.heap.size w (((w2.alloc (.cells rs.toArray 35)).alloc (.cells #[.slice none 0 0] 81)).alloc (.cells #[.slice none 0 0] 81))∧
  (((w2.alloc (.cells rs.toArray 35)).alloc (.cells #[.slice none 0 0] 81)).alloc (.cells #[.slice none 0 0] 81)).heap[w2.heap.size+1]?=some (.cells #[.slice none 0 0] 81 (0,0))∧
  (((w2.alloc (.cells rs.toArray 35)).alloc (.cells #[.slice none 0 0] 81)).alloc (.cells #[.slice none 0 0] 81)).heap[w2.heap.size+2]?=some (.cells #[.slice none 0 0] 81 (0,0)):=by
 have p:=a.size
 have r:(w2.alloc (.cells rs.toArray 35)).heap.size=w2.heap.size+1:=by simp
 have q:((w2.alloc (.cells rs.toArray 35)).alloc (.cells jh 81)).heap.size=w2.heap.size+2:=by simp
 obtain ⟨W,e⟩:∃W,W=((w2.alloc (.cells rs.toArray 35)).alloc (.cells jh 81)).alloc (.cells jh 81):=⟨_,rfl⟩
 rw[<-e]
 have c:Below w2.heap.size w2 W:=by
  rw[e];exact (((yg _ _).alloc (yf _) _).alloc (by simp) _).alloc (by simp;omega) _
 have h3:W.heap[w2.heap.size]?=some (.cells rs.toArray 35 (0,0)):=by
  rw[e,yD _ _ _ (by omega),yD _ _ _ (by omega)]
  exact World.alloc_heap_new _ _
 have o:W.heap[w2.heap.size+1]?=some (.cells jh 81 (0,0)):=by
  rw[e,yD _ _ _ (by omega)]
  have:=World.alloc_heap_new (w2.alloc (.cells rs.toArray 35)) (.cells jh 81)
  rwa [r] at this
 have h5:W.heap[w2.heap.size+2]?=some (.cells jh 81 (0,0)):=by
  rw[e]
  have:=World.alloc_heap_new ((w2.alloc (.cells rs.toArray 35)).alloc (.cells jh 81)) (.cells jh 81)
  rwa [q] at this
 have d:∀b,b < w1.heap.size->W.heap[b]?=w1.heap[b]?:=fun b hb=>(c.block b (by omega)).trans (a.block b hb)
 have k:W.rangeAt w2.heap.size 0 rs:=by
  have:=zo h3 0 rs.length
  simpa using this
 refine ⟨⟨?_,rfl,A0 hr (d _ (by omega)),fun b hb=>?_⟩,⟨?_,rfl,k,fun b hb=>?_⟩,?_,o,h5⟩
 ·have h:=hs.same (N':=N) (w':=W) (fun _ h=>h) (fun b hb=>d b (by have:=hN b hb;omega))
  exact ⟨h.name,h.cells,h.lets,h.crops,h.reaches,h.farms,h.rots,h.rights,h.duties⟩
 ·rcases hb with rfl|hb
  ·omega
  ·have:=hN b hb;omega
 ·have h:=l.same (N':=g) (w':=W) (fun _ h=>h) (fun b hb=>c.block b (f b hb))
  exact ⟨h.name,h.cells,h.lets,h.crops,h.reaches,h.farms,h.rots,h.rights,h.duties⟩
 ·rcases hb with rfl|hb
  ·omega
  ·have:=f b hb;omega
 ·exact (j.trans (a.mono (by omega))).trans (c.mono (by omega))
theorem RZ{w:World}{x:Av}{L:Bt}{cs:LV}{N:NP}(h:BH N w L cs x)(hN:∀b,N b->b < w.heap.size)(F:MS x)(S:GV w)(hd:∀e∈Ax x,Ar e.1<=1000000):
  Calls Tryz.prog 17 #[.agg cs.toArray] w fun e w'=>e=.returned (.int .i64 (Bh x))∧Below w.heap.size w w':=by
 obtain ⟨w1,d⟩:∃w1,w1=Wi w cs:=⟨_,rfl⟩
 have f:Below w.heap.size w w1:=by rw[d];exact (yg _ _).alloc (yf _) _
 have I:w1.heap.size=w.heap.size+1:=by rw[d];simp[Wi]
 have M:w1.rangeAt w.heap.size 0 cs:=by
  rw[d];unfold Wi
  have:=zo (World.alloc_heap_new w (.cells cs.toArray 35)) 0 cs.length
  simpa using this
 have l:BH N w1 L cs x:=h.same (fun _ h=>h) (fun b hb=>f.block b (hN b hb))
 have E:=yb f;have q:=yb I;have m:=yb M;have G:=yb l;have HN:=yb hN
 have i:=yb (Om l (fun b hb=>by have:=hN b hb;omega) F (S.below f S.1) hd)
 have D:Hid ((Tryz.prog.info? 35).map (·.size)=some cs.length):=yb (by
  obtain ⟨c0,c1,c2,rfl,P,g1,O⟩:=h.cells
  obtain ⟨a0,p0,rfl,X⟩:=P.cells
  obtain ⟨a1,p1,rfl,t⟩:=g1.cells
  obtain ⟨a2,p2,rfl,V⟩:=O.cells
  kernel_rfl)
 have B:=yb d
 clear d f I M l hN F S hd
 obtain ⟨U,r⟩:∃U,U=cs:=⟨_,rfl⟩
 rw[<-r] at m G i D
 have Z:=yb r
 obtain ⟨c0,c1,c2,rfl,P,g1,O⟩:=h.cells
 obtain ⟨a0,p0,rfl,X⟩:=P.cells
 obtain ⟨a1,p1,rfl,t⟩:=g1.cells
 obtain ⟨a2,p2,rfl,V⟩:=O.cells
 clear h P g1 O X t V r
 unfold Au.v at*
 simp only[yP,yS] at B Z ⊢
 refine Ba (n:=10) Tryz.func17 rfl ?_
 have T:=Tx w x
 generalize bodyPostM Fence.wide 10 Tryz.prog Tryz.f17 _=Q at T ⊢
 have Y:=yb T
 clear T
 simp only[Tryz.ntmps17,yq,yx,yH,Nat.reduceAdd,Nat.reduceSub,zy,zA,zQ,zJ,yS,yP]
 refine A9 (A4 ?_)
 go_wp2
 have t:=B.o
 unfold Wi at t
 rw[<-t,<-Z.o]
 clear t
 refine A9 (A4 ?_)
 go_upto_region 1 with fail
 refine wp_region_lit ?_
 refine yj rfl 35 _ rfl w.heap.size 0 rfl U _ m.o qV rfl D.o ?_
 refine zx rfl fun K a=>?_
 go_simp
 refine i.o.mono ?_
 intro e w2 j
 obtain ⟨rs,rfl,H,g,u,C⟩:=Uy j
 clear j
 refine a _ _ ?_
 clear a K
 have k:=yb H;have A:=yb (yB g);have s:=yb u;have R:=yb C
 clear H g u C
 iterate 4
  refine zx rfl fun K a=>?_
  go_simp
  refine a _ _ ?_
  clear a K
 refine zb rfl 35 _ _ rfl w2.heap.size rs.toArray rfl rfl 35 _ (World.alloc_heap_new _ _) (by rw[yq,k.o];kernel_rfl) (by simp[k.o]) A.o ?_
 rw[World.setRow_alloc_new]
 refine zx rfl fun K a=>?_
 go_simp
 refine a _ _ ?_
 clear a K
 refine wpList_nil ?_
 by_cases p:AE x=0
 ·have J:=yb (R.o p)
  have z:=yb p
  simp only[p]
  clear p
  iterate 2
   refine A9 (A4 ?_)
   go_wp2
  obtain ⟨L2,N2,s2,n2⟩:=J.o
  obtain ⟨k1,k2,k3,W,k5⟩:=Vh E.o q.o G.o m.o HN.o s.o s2 (fun b hb=>(n2 b hb).2)
  obtain ⟨z1,_,_,_,z5⟩:=Ev z.o
  exact VV (base:=w2.heap.size+3) Y.o z.o k1 k2 (by omega) (by omega) k3 (by simp) ⟨_,W⟩ W k5 (OK z1 z5) (OK (QX z1) (Mz z5)) _ _ _ _ _ _ _ _ _ _ _ _ _ _ _ _ _ _ _ _ _ _ _ _ _ _ _ _ _ _ _ _ _ _ _ _ _ _ _ _ _ _ _ _ _ _ _ _ _ _ _ _ _ _ _ _ _ _ _
 ·have y:Hid (Bh x=AE x):=yb (by unfold Bh;rw[yt p])
  generalize AE x=c at p y ⊢
  have a6:(c !=0)=true:=by simpa using p
  refine A9 (A4 ?_)
  go_wp2
  exact Y.o.early c _ _ rfl ((E.o.trans (s.o.mono (by have:=q.o;omega))).alloc (by have:=s.o.size;have:=q.o;omega) _) y.o
section
variable{f:Int->Ex->Ex}{g:Int->Rf->Rf}
theorem Ki{α β:Type}{p q:α->List β}:∀ {l:List α},(∀a∈l,(p a).length=(q a).length)->l.flatMap p=l.flatMap q->∀a∈l,p a=q a
 |[],_,_=>by simp
 |a::l,hl,h=>by
  rw[yW,yW] at h
  obtain ⟨h1,h2⟩:=xJ h (hl a (by simp))
  intro b hb
  rcases yI.1 hb with rfl|hb
  ·exact h1
  ·exact Ki (fun c d=>hl c (by simp[d])) h2 b hb
theorem De{α β:Type}{p q:α->List β}:∀ {l:List α},(∀a∈l,(p a).length=(q a).length)->(l.flatMap p).length=(l.flatMap q).length
 |[],_=>rfl
 |a::l,hl=>by
  rw[yW,yW,ym,ym,hl a (by simp),De fun c b=>hl c (by simp[b])]
theorem Gw{α β:Type}{p q:α->List β}:∀ {l:List α},(∀a∈l,p a=q a)->l.flatMap p=l.flatMap q
 |[],_=>rfl
 |a::l,h=>by rw[yW,yW,h a (by simp),Gw fun c b=>h c (by simp[b])]
theorem EN{α β:Type}{F:Nat->α->α}{h:α->List β}(a:∀i d,F i d=F 0 d):∀l:List α,(l.mapIdx F).flatMap h=l.flatMap fun d=>h (F 0 d):=by
 intro l
 have e:l.mapIdx F=l.map (F 0):=by
  apply xD
  ·simp
  ·intro i h1 h2;simp;exact a i _
 rw[e,zY]
end
section
variable{t:Tb}
mutual
theorem Jk:∀e:Ex,(FB (Ip t e)).length=(FB e).length
 |.mk op n u rn ri args=>by rw[Ip,FB,FB,yx,yx,MB args]
theorem MB:∀l:List Ex,(Ds (H2 t l)).length=(Ds l).length
 |[]=>rfl
 |e::r=>by rw[H2,Ds,Ds,ym,ym,Jk e,MB r]
end
theorem MD(e:Ks):(CQ (NA (fT t) e)).length=(CQ e).length:=by
 unfold CQ NA fT
 simp only
 by_cases h:BA e.1=true
 ·simp[h]
 ·rw[yt h,Jj,yt h,yt h,Jk]
structure VW (t:Tb) (x:Av):Prop where
 exprs:∀e∈Ax x,CQ e=CQ (NA (fT t) e)
 farms:x.farms.flatMap DA=x.farms.flatMap fun d=>DA (CE.mp (fT t) (gT t) 0 d)
 rots:x.rots.flatMap Dj=x.rots.flatMap fun d=>Dj (Br.mp (fT t) (gT t) 0 d)
 rights:∀d∈x.rights,CZ d=CZ (AW.mp (fT t) (gT t) 0 d)
 duties:∀d∈x.duties,DC d=DC (CU.mp (fT t) (gT t) 0 d)
 reaches:x.reaches.map (·.frm)=(x.reaches.mapIdx (AA.mp (fT t) (gT t))).map (·.frm)
theorem OL(x:Av):BW (x.mp (fT t) (gT t))=((Ax x).flatMap fun e=>CQ (NA (fT t) e))++(((x.farms.flatMap fun d=>DA (CE.mp (fT t) (gT t) 0 d))++(x.rots.flatMap fun d=>Dj (Br.mp (fT t) (gT t) 0 d)))++(x.rights.flatMap fun d=>CZ (AW.mp (fT t) (gT t) 0 d))++(x.duties.flatMap fun d=>DC (CU.mp (fT t) (gT t) 0 d)))++(x.reaches.mapIdx (AA.mp (fT t) (gT t))).map (·.frm):=by
 unfold BW AM
 rw[Nh,zY]
 unfold Av.mp
 simp only
 rw[EN (fun _ _=>rfl) x.farms,EN (fun _ _=>rfl) x.rots,EN (fun _ _=>rfl) x.rights,EN (fun _ _=>rfl) x.duties]
theorem OM(d:Br):(Dj d).length=(Dj (Br.mp (fT t) (gT t) 0 d)).length:=by
 unfold Dj Br.mp
 simp only[yx]
 rw[EN (fun _ _=>rfl) d.turns,De (p:=fun k:Cb=> [k.farm]) (q:=fun k=> [(Cb.mp (fT t) (gT t) 0 k).farm]) (fun _ _=>rfl)]
theorem S0(x:Av):BW x=BW (x.mp (fT t) (gT t))↔VW t x:=by
 constructor
 ·intro h
  rw[OL] at h
  unfold BW AM at h
  have f:((Ax x).flatMap CQ).length=((Ax x).flatMap fun e=>CQ (NA (fT t) e)).length:=De fun e _=>(MD e).symm
  have a:(x.farms.flatMap DA).length=(x.farms.flatMap fun d=>DA (CE.mp (fT t) (gT t) 0 d)).length:=De fun _ _=>rfl
  have b:(x.rots.flatMap Dj).length=(x.rots.flatMap fun d=>Dj (Br.mp (fT t) (gT t) 0 d)).length:=De fun d _=>OM d
  have c:(x.rights.flatMap CZ).length=(x.rights.flatMap fun d=>CZ (AW.mp (fT t) (gT t) 0 d)).length:=De fun _ _=>rfl
  have g:(x.duties.flatMap DC).length=(x.duties.flatMap fun d=>DC (CU.mp (fT t) (gT t) 0 d)).length:=De fun _ _=>rfl
  obtain ⟨h1,h6⟩:=xJ h (by simp only[ym,f,a,b,c,g])
  obtain ⟨h1,h2⟩:=xJ h1 f
  obtain ⟨h2,h5⟩:=xJ h2 (by simp only[ym,a,b,c])
  obtain ⟨h2,i⟩:=xJ h2 (by simp only[ym,a,b])
  obtain ⟨h2,h3⟩:=xJ h2 a
  exact ⟨Ki (fun e _=>(MD e).symm) h1,h2,h3,Ki (fun _ _=>rfl) i,Ki (fun _ _=>rfl) h5,h6⟩
 ·intro h
  rw[OL]
  unfold BW AM
  rw[Gw h.exprs,h.farms,h.rots,Gw h.rights,Gw h.duties,h.reaches]
end
theorem ON{e:Ex}(h:BA e=true):e.op=0∧e.args=[]:=by
 cases e with
 |mk op n u rn ri args=>
  unfold BA Dv at h
  simp only[Ex.op,Ex.n,Ex.u,Ex.rn,Ex.ri,Ex.args,yG] at h ⊢
  obtain ⟨h1,_,_,_,h5⟩:=h
  exact ⟨yO h1,zl.1 (yO h5)⟩
section
variable{t:Tb}{i:Nat}
mutual
theorem ME:∀e:Ex,FB e=FB (Ip t e)->Sx t (1+(i:Int)) e=true->Ha i e
 |.mk op n u rn ri args,h,k=>by
  rw[Ip,FB,FB] at h
  injection h with h1 h2
  injection h1 with h3 b
  rw[Sx] at k
  simp only[yG] at k
  rw[Ha]
  refine ⟨fun m=>?_,Ld args h2 k.2.2⟩
  subst m
  rw[yw rfl] at b
  have a:=k.2.1
  have l:Kd 2 (1+(i:Int))=2:=by unfold Kd;rw[yw rfl,yw (by omega)]
  have f:Nw 2 (1+(i:Int))=i:=by unfold Nw;rw[yw rfl,yw (by omega)];omega
  rw[l,f] at a
  unfold JF at a
  rw[yt (by decide)] at a
  unfold Gs at b
  have j:t.tab (Et 2)=t.tab 1:=rfl
  rw[j] at a
  cases d:CG (t.tab 1) rn with
  |none=>simp only[d] at a;cases a
  |some p=>
   rw[d] at b
   simp only[d] at a
   have g:(p:Int) < (i:Int):=by
    rcases Bool.or_eq_true _ _▸a with c|c
    ·exact absurd c (by decide)
    ·exact yO c
   simp only at b
   omega
theorem Ld:∀l:List Ex,Ds l=Ds (H2 t l)->RE t (1+(i:Int)) l=true->FA i l
 |[],_,_=>by rw[FA];trivial
 |e::r,h,k=>by
  rw[H2,Ds,Ds] at h
  obtain ⟨h1,h2⟩:=xJ h (Jk e).symm
  rw[RE] at k
  simp only[yG] at k
  rw[FA]
  exact ⟨ME e h1 k.1,Ld r h2 k.2⟩
end
end
def Am(x:Av):List (ByteArray × Ex):=x.lets.map fun d=>(d.name,d.value)
theorem S1{x:Av}(h:Bh x=0):∀(i:Nat) d,(Am x)[i]?=some d->Ha i d.2:=by
 intro i d hd
 unfold Bh at h
 have f:AE x=0:=by
  by_cases h0:AE x=0
  ·exact h0
  ·rw[yt h0] at h;exact h
 rw[yw f] at h
 have m:BW x=BW (Ah x):=by
  by_cases h1:BW x=BW (Ah x)
  ·exact h1
  ·rw[yt h1] at h;cases h
 have l:=(S0 (t:=Tb.of x) x).1 m
 obtain ⟨_,_,_,_,h5⟩:=Ev f
 unfold Cw at h5
 simp only[yG,yR] at h5
 unfold Am at hd
 rw[qw] at hd
 obtain ⟨y,j,rfl⟩:=Option.map_eq_some_iff.1 hd
 have g:(y.value,1+(i:Int))∈Ax x:=by
  unfold Ax JB
  refine yz.2 (.inr (yz.2 (.inl ?_)))
  exact yY.2 ⟨(y,i),List.mem_zipIdx_iff_getElem?.2 j,by simp⟩
 have c:=h5.1 _ g
 have b:=l.exprs _ g
 simp only
 unfold JG at c
 unfold CQ NA fT at b
 simp only at c b
 by_cases a:BA y.value=true
 ·obtain ⟨a1,e⟩:=ON a
  cases k:y.value with
  |mk op n u rn ri args=>
   rw[k] at a1 e
   simp only[Ex.op,Ex.args] at a1 e
   subst a1 e
   rw[Ha,FA]
   exact ⟨fun h=>absurd h (by decide),trivial⟩
 ·rw[yn.2 a,Bool.false_or] at c
  rw[yt a,yt a,Jj,yt a] at b
  exact ME _ b c
def FC(s:Av)(x:Ex):Qn × Int:=if Bh s=0 then (if (DY (Ak [] (Am s)) 8 x).2=true then ((DY (Ak [] (Am s)) 8 x).1,0) else (Fq,180)) else (Fq,Bh s)
def E8(s:Av)(x:Ex):Dm × Int:=if (FC s x).2=0 then ((FC s x).1.dim,0) else (On,(FC s x).2)
def Uz(m:Qn × Int):Int:=if m.2=0 then m.1.e else m.2
def Bo(s:Av)(x:Ex):Rt × Int:=if Uz (FC s x)=0 then ((FC s x).1.v,0) else (J2,Uz (FC s x))
theorem S2{s:Av}{x y:Ex}(h:DY (Ak [] (Am s)) 8 y=DY (Ak [] (Am s)) 8 x):E8 s y=E8 s x∧Bo s y=Bo s x:=by
 unfold E8 Bo Uz FC
 rw[h]
 exact ⟨rfl,rfl⟩
theorem UA{s:Av}{x:Ex}(c:Bh s=0)(b:Ar x<=8)(a:Ar (DZ (G9 (Am s)) 8 x)<=8):E8 s (DZ (G9 (Am s)) 8 x)=E8 s x∧Bo s (DZ (G9 (Am s)) 8 x)=Bo s x:=
 S2 (L5 (S1 c) 8 x (yf _) b a)
mutual
def DD:Nat->Ex->Nat
 |0,_=>0
 |k+1,.mk _ _ _ _ _ args=>EZ k args
def EZ:Nat->List Ex->Nat
 |_,[]=>0
 |k,e::r=>max (1+DD k e) (EZ k r)
end
mutual
theorem Jl:∀(k:Nat) (e:Ex),DD k e=min (Ar e) k
 |0,e=>by rw[DD];omega
 |k+1,.mk op n u rn ri args=>by rw[DD,Ar,Jm k args]
theorem Jm:∀(k:Nat) (l:List Ex),EZ k l=min (AN l) (k+1)
 |k,[]=>by rw[EZ,AN];omega
 |k,e::r=>by rw[EZ,AN,Jl k e,Jm k r];omega
end
theorem R0{e:Ex}(h:DD 9 e<=8):Ar e<=8:=by rw[Jl] at h;omega
structure ND where
 x:Ex
 there:Bool
 dim:Dm
def CT:Dm:=⟨0,1,0⟩
def AX:Dm:=⟨1,0,0⟩
def GC:Dm:=⟨0,0,1⟩
def IS:Dm:=⟨1, -1,0⟩
def GD:Dm:=⟨1,0, -1⟩
def FO(d:Dm)(there:Bool)(l:List Ex):List ND:=l.map fun x=>⟨x,there,d⟩
def TB(d:DN):List ND:=FO GD true [d.need]
def Ni(d:AA):List ND:=FO CT true [d.delay]++(FO IS true [d.cap]++(FO AX true [d.bank,d.evap0,d.evap1]++(FO AX (!BA d.siphon) [d.siphon]++FO On true [d.seep0,d.seep1])))
def Q3(d:CE):List ND:=FO GC (!d.river) [d.area]
def VX(d:Br):List ND:=FO IS true [d.flow]++(FO CT true [d.frm,d.to]++d.turns.flatMap fun k=>FO CT true [k.len])
def UC(d:AW):List ND:=FO IS (decide (d.kind=1)) [d.flow]++(FO CT (!decide (d.kind=2)) [d.frm,d.to]++FO CT (decide (d.kind=1)&&(!BA d.every||!BA d.len)) [d.every,d.len])
def Vk(d:CU):List ND:=FO CT true [d.due]
def Cm(x:Av):List ND:=FO CT true [x.season]++(FO AX true [x.cap,x.start]++(x.crops.flatMap TB++(x.reaches.flatMap Ni++(x.farms.flatMap Q3++(x.rots.flatMap VX++(x.rights.flatMap UC++x.duties.flatMap Vk))))))
def Jn(a:List Kn)(p:ND):Bool:=if p.there=true then (DY a 8 p.x).2&&decide ((DY a 8 p.x).1.dim=p.dim) else BA p.x
def Ew(x:Av):Int:=if Bh x=0 then (if (Ak [] (Am x)).all (fun k=>k.ok)=true then (if (Cm x).all (Jn (Ak [] (Am x)))=true then 0 else 180) else 180) else Bh x
def Gg:ByteArray:={data:=#[]}
def Bq(n u:Int):Ex:=.mk 1 n u Gg 0 []
def LF(o:Int)(a b:Ex):Ex:=.mk o 0 0 Gg 0 [a,b]
def Lo:Ex:=.mk 0 0 0 Gg 0 []
def sW:ByteArray:={data:=#[119]}
def sK:ByteArray:={data:=#[107]}
def sC:ByteArray:={data:=#[99]}
def sR:ByteArray:={data:=#[114]}
def sF:ByteArray:={data:=#[102]}
def BP:Ex:=LF 6 (Bq 40 1) (Bq 1 3)
def UF(cap:Ex):AA:=⟨sR,⟨Gg,0⟩,Bq 1 3,cap,Bq 90 1,Lo,Bq 0 1,Bq 2 1,Bq 0 0,LF 6 (Bq 1 0) (Bq 8 0)⟩
def E0(cap:Ex):Av:=⟨sW,Bq 1 4,Bq 5 2,.mk 2 0 0 sK 0 [],[⟨sK,Bq 3 2⟩],[⟨sC,LF 6 (Bq 7 1) (Bq 1 5)⟩],[UF cap],[⟨sF,⟨sR,0⟩,false,Bq 20 5,⟨sC,0⟩⟩],[],[],[]⟩
def TH:Ex:=LF 6 (Bq 3 2) (Bq 2 3)
theorem S7:Ew (E0 BP)=0:=by kernel_rfl
theorem Qb:Ew (E0 (Bq 40 1))=180:=by kernel_rfl
theorem TI:E8 (E0 BP) TH=(⟨1, -1,0⟩,0):=by kernel_rfl
theorem S8:Bo (E0 BP) TH=(⟨1500,1⟩,0):=by kernel_rfl
theorem UG:(E8 (E0 BP) (LF 3 (Bq 3 1) (Bq 4 3))).2=180:=by kernel_rfl
theorem TJ:Bo (E0 BP) (LF 4 (Bq 1 4) (Bq 30 3))=(⟨-6,1⟩,0):=by kernel_rfl
theorem UH:(Bo (E0 BP) (LF 6 (Bq 1 0) (Bq 0 0))).2=120:=by kernel_rfl
theorem S9:(Bo (E0 BP) (Bq 1073741825 0)).2=2:=by kernel_rfl
theorem TK:(Bo (E0 BP) Lo).2=180:=by kernel_rfl
theorem Sa:Bo (E0 BP) (E0 BP).start=(⟨3000,1⟩,0):=by kernel_rfl
structure WL (a b c:Int):Prop where
 a1:1<=a
 a3:a<=3
 b1:1<=b
 b3:b<=3
 c1:1<=c
 c3:c<=3
section
variable{a b c:Int}
end
end Go.Proofs.YtjofgpfocadomaaGreatDoor

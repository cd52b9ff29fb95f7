/- Parts of the proof, in short words: Gj Gl Sa Sb Sc Sd Se Sf Sg Sh Si Vd Ed Ee Ei Ej Eg -/
import Derived.Test.YtjofgpfocadomaaGreatDoorUs0
import Derived.Test.YtjofgpfocadomaaGreatDoorUs9
import Derived.Deep.Cut
import Derived.Test.YtjofgpfocadomaaGreatDoorUs8
import Derived.BigFrameIn
set_option maxRecDepth 100000
set_option maxHeartbeats 16000000
set_option linter.unusedSimpArgs false
namespace Go.Proofs.YtjofgpfocadomaaGreatDoor
open Go.RowKit
set_option linter.unusedSimpArgs false
def Qn.row(q:Qn):LV:=[.int .i64 q.dim.l,.int .i64 q.dim.h,.int .i64 q.dim.a,.int .i64 q.v.n,.int .i64 q.v.d,.int .i64 q.e]
def Qn.val(q:Qn):Value:=.agg #[.int .i64 q.dim.l,.int .i64 q.dim.h,.int .i64 q.dim.a,.int .i64 q.v.n,.int .i64 q.v.d,.int .i64 q.e]
def We(cs:LV)(k:Kn):Prop:=cs=[.string k.name,.int .i64 k.q.dim.l,.int .i64 k.q.dim.h,.int .i64 k.q.dim.a,.int .i64 k.q.v.n,.int .i64 k.q.v.d,.int .i64 k.q.e,.bool k.ok]
def OY(w:World)(h:As)(a:List Kn):Prop:=BF (fun b=>b < w.heap.size) w 8 We h a
def Ob(q:Qn × Bool)(w:World)(e:Ending)(w':World):Prop:=e=.returned (.tuple #[q.1.val,.bool q.2])∧Below w.heap.size w w'
theorem KQ(rn:ByteArray)(ri:Int)(w:World):(Op.equalIn 10000 23 (.agg #[.string rn,.int .i64 ri]) (.agg #[.string {data:=#[]},.int .i64 0])).run Tryz.prog w=.ok (CL rn ri) w:=by
 have e:CL rn ri=(decide (rn.toList=[])&&decide (ri=0)):=by
  unfold CL
  rw[xS]
  simp only[z7,yF,Ds]
 rw[e]
 by_cases h1:rn.toList=[]
 ·by_cases h2:ri=0
  ·subst h2
   go_simp
  ·have a:(ri==0)=false:=by simpa using h2
   go_simp
 ·go_simp
theorem Cg{W:World}{b:Nat}{x0 c a e f d:Value}{t:TypeId}(h:W.heap[b]?=some (.cells #[x0,c,a,e,f,d] t (0,0))):W.cell? ⟨b,0,none⟩=some x0∧W.cell? ⟨b,1,none⟩=some c∧W.cell? ⟨b,2,none⟩=some a∧W.cell? ⟨b,3,none⟩=some e∧W.cell? ⟨b,4,none⟩=some f∧W.cell? ⟨b,5,none⟩=some d:=by
 refine ⟨?_,?_,?_,?_,?_,?_⟩<;>simp[World.cell?,h]
theorem DX{W:World}{b n:Nat}{cs:Array Value}{t:TypeId}(h:W.heap[b]?=some (.cells cs t (0,0))):W.frozen? ⟨b,n,none⟩=false:=by
 simp[World.frozen?,h]
theorem Co{W:World}{b:Nat}{x0 j i l m k:Value}{t:TypeId}(h:W.heap[b]?=some (.cells #[x0,j,i,l,m,k] t (0,0)))(c e g d f a:Value):
  Dj W ((((((W.setCell ⟨b,0,none⟩ c).setCell ⟨b,1,none⟩ e).setCell ⟨b,2,none⟩ g).setCell ⟨b,3,none⟩ d).setCell ⟨b,4,none⟩ f).setCell ⟨b,5,none⟩ a) b [c,e,g,d,f,a] t:=
 AE b t [c,e,g,d,f,a] 0 W [] [x0,j,i,l,m,k] [] h rfl rfl
structure Ng (w:World) (cs:List Value) (q:Qn) (W:World):Prop where
 below:Below w.heap.size w W
 x:W.heap[w.heap.size]?=some (.cells cs.toArray 26 (0,0))
 q:W.heap[w.heap.size+1]?=some (.cells q.row.toArray 70 (0,0))
theorem Ng.lt{w:World}{cs:LV}{q:Qn}{W:World}(h:Ng w cs q W):w.heap.size+1 < W.heap.size:=(yd.1 h.q).1
theorem Ng.up{w:World}{cs:LV}{q:Qn}{W W':World}(h:Ng w cs q W)(a:Below W.heap.size W W'):Ng w cs q W':=by
 have b:=h.lt
 exact ⟨h.below.trans (a.mono (by omega)),(a.block _ (by omega)).trans h.x,(a.block _ (by omega)).trans h.q⟩
theorem Ng.set{w:World}{cs:LV}{q q':Qn}{W W':World}(h:Ng w cs q W)(a:Dj W W' (w.heap.size+1) q'.row 70):Ng w cs q' W':=
 ⟨a.below h.below (by omega),(a.block _ (by omega)).trans h.x,a.row⟩
theorem Ng.drew{w:World}{cs:LV}{q:Qn}{W:World}(h:Ng w cs q W):Ng w cs q W.drew:=⟨h.below.drew,h.x,h.q⟩
theorem Ng.new(w:World)(cs:LV):Ng w cs Fj ((w.alloc (.cells cs.toArray 26)).alloc (.cells #[.int .i64 0,.int .i64 0,.int .i64 0,.int .i64 0,.int .i64 0,.int .i64 0] 70)):=by
 have h:=World.alloc_heap_new (w.alloc (.cells cs.toArray 26)) (.cells j4 70)
 simp only[yY] at h
 exact ⟨((yg _ _).alloc (yf _) _).alloc (by simp) _,(yA _ _ _ (by simp)).trans (World.alloc_heap_new w _),h⟩
def IA(n u:Int)(rn:ByteArray)(ri:Int)(m:Nat):Prop:=¬ (m=0∧CL rn ri=true∧0<=n∧n<=Fk∧0<=u∧u<=5)
instance (n u:Int) (rn:ByteArray) (ri:Int) (m:Nat):Decidable (IA n u rn ri m):=by unfold IA;infer_instance
theorem UW(known:Value)(left:Int)(n u:Int)(rn:ByteArray)(ri:Int)(a:Option Addr)(m cap:Nat)(w:World)(hg:GU w):
  Calls Tryz.prog 38 #[known,.agg #[.int .i64 1,.int .i64 n,.int .i64 u,.string rn,.int .i64 ri,.slice a m cap],.int .i64 left] w (Ob (if IA n u rn ri m then (Fj,false) else (Iz n u,true)) w):=by
 have HG:=yb hg
 clear hg
 have HW:=yb (Ng.new w [.int .i64 1,.int .i64 n,.int .i64 u,.string rn,.int .i64 ri,.slice a m cap])
 have hq:=KQ rn ri
 have hgt:Tryz.prog.eqGuardType Tryz.prog.depth 23=false:=by kernel_rfl
 obtain ⟨res,hres⟩:∃res,res=if IA n u rn ri m then (Fj,false) else (Iz n u,true):=⟨_,rfl⟩
 rw[<-hres]
 have HRes:=yb hres
 clear hres
 go_enter Tryz.func38,Tryz.ntmps38
 refine Ae fun K hK=>?_
 go_wp2
 refine hK.o _ _ ?_
 clear hK
 generalize (w.alloc (.cells #[.int .i64 1,.int .i64 n,.int .i64 u,.string rn,.int .i64 ri,.slice a m cap] 26)).alloc (.cells #[.int .i64 0,.int .i64 0,.int .i64 0,.int .i64 0,.int .i64 0,.int .i64 0] 70)=W at HW ⊢
 obtain ⟨x0,x1,x2,x3,x4,x5⟩:=Cg HW.o.x
 go_upto_region 2 with fail
 iterate 6
  obtain ⟨bb,hbb⟩:∃bb:Bool,bb=decide (IA n u rn ri m):=⟨_,rfl⟩
  have HBb:=yb hbb
  clear hbb
 go_cut [48] from 19 (fun c wx=>Hid (c=.bool bb∧wx=W))
 case first=>
  by_cases h1:m=0
  rotate_left
  ·have e1:decide (0 < (m:Int))=true:=by simp;omega
   have f1:0 < m:=by omega
   have g1:¬ m=0:=h1
   have hb:Hid (IA n u rn ri m):=yb (fun h=>h1 (by first|exact h.1|exact h.2.1|exact h.2.2.1|exact h.2.2.2.1|exact h.2.2.2.2.1|exact h.2.2.2.2.2))
   clear h1
   go_wp2
   go_meet
   case rel=>exact yb ⟨yC Value.bool (HBb.o.trans (xf hb.o)).symm,rfl⟩
  have e1:decide (0 < (m:Int))=false:=by simp;omega
  subst h1
  by_cases h2:CL rn ri=true
  rotate_left
  ·have e2:CL rn ri=false:=by simpa using h2
   have hb:Hid (IA n u rn ri 0):=yb (fun h=>h2 (by first|exact h.1|exact h.2.1|exact h.2.2.1|exact h.2.2.2.1|exact h.2.2.2.2.1|exact h.2.2.2.2.2))
   clear h2
   go_wp2
   go_meet
   case rel=>exact yb ⟨yC Value.bool (HBb.o.trans (xf hb.o)).symm,rfl⟩
  have e2:CL rn ri=true:=h2
  by_cases h3:0<=n
  rotate_left
  ·have e3:decide (n < 0)=true:=by simp;omega
   have hb:Hid (IA n u rn ri 0):=yb (fun h=>h3 (by first|exact h.1|exact h.2.1|exact h.2.2.1|exact h.2.2.2.1|exact h.2.2.2.2.1|exact h.2.2.2.2.2))
   clear h2 h3
   go_wp2
   go_meet
   case rel=>exact yb ⟨yC Value.bool (HBb.o.trans (xf hb.o)).symm,rfl⟩
  have e3:decide (n < 0)=false:=by simp;omega
  by_cases h4:n<=Fk
  rotate_left
  ·have e4:decide (1099511627776 < n)=true:=by simp[Fk] at h4 ⊢;omega
   have hb:Hid (IA n u rn ri 0):=yb (fun h=>h4 (by first|exact h.1|exact h.2.1|exact h.2.2.1|exact h.2.2.2.1|exact h.2.2.2.2.1|exact h.2.2.2.2.2))
   clear h2 h3 h4
   go_wp2
   go_meet
   case rel=>exact yb ⟨yC Value.bool (HBb.o.trans (xf hb.o)).symm,rfl⟩
  have e4:decide (1099511627776 < n)=false:=by simp[Fk] at h4 ⊢;omega
  by_cases h5:0<=u
  rotate_left
  ·have e5:decide (u < 0)=true:=by simp;omega
   have hb:Hid (IA n u rn ri 0):=yb (fun h=>h5 (by first|exact h.1|exact h.2.1|exact h.2.2.1|exact h.2.2.2.1|exact h.2.2.2.2.1|exact h.2.2.2.2.2))
   clear h2 h3 h4 h5
   go_wp2
   go_meet
   case rel=>exact yb ⟨yC Value.bool (HBb.o.trans (xf hb.o)).symm,rfl⟩
  have e5:decide (u < 0)=false:=by simp;omega
  by_cases h6:u<=5
  rotate_left
  ·have e6:decide (5 < u)=true:=by simp;omega
   have hb:Hid (IA n u rn ri 0):=yb (fun h=>h6 (by first|exact h.1|exact h.2.1|exact h.2.2.1|exact h.2.2.2.1|exact h.2.2.2.2.1|exact h.2.2.2.2.2))
   clear h2 h3 h4 h5 h6
   go_wp2
   go_meet
   case rel=>exact yb ⟨yC Value.bool (HBb.o.trans (xf hb.o)).symm,rfl⟩
  have e6:decide (5 < u)=false:=by simp;omega
  have hb:Hid (¬ IA n u rn ri 0):=yb (fun h=>h ⟨rfl,h2,h3,h4,h5,h6⟩)
  clear h2 h3 h4 h5 h6
  go_wp2
  go_meet
  case rel=>exact yb ⟨yC Value.bool (HBb.o.trans (xk hb.o)).symm,rfl⟩
 case rest=>
  obtain ⟨rfl,rfl⟩:=hcut.o
  clear hcut
  have hqr:wc.heap[w.heap.size+1]?=some (.cells #[.int .i64 0,.int .i64 0,.int .i64 0,.int .i64 0,.int .i64 0,.int .i64 0] 70 (0,0)):=HW.o.q
  have HQR:=yb hqr
  cases bb with
  |true=>
   have hr:Hid (res=(Fj,false)):=yb (by rw[HRes.o,yD (yR HBb.o.symm)])
   clear HRes HBb
   obtain ⟨q0,q1,q2,q3,q4,q5⟩:=Cg hqr
   have qf:=fun k=>DX (n:=k) hqr
   clear hqr
   go_wp2
   have hwr:=Co HQR.o (.int .i64 0) (.int .i64 0) (.int .i64 0) (.int .i64 0) (.int .i64 0) (.int .i64 0)
   exact A3 (c:=Fj.row) rfl rfl hwr.row qY rfl (by kernel_rfl) ⟨by rw[hr.o];rfl,hwr.below HW.o.below (by omega)⟩
  |false=>
   have hr:Hid (res=(Iz n u,true)):=yb (by rw[HRes.o,yq (of_decide_eq_false HBb.o.symm)])
   have hnb:Hid (0<=n∧n<=Fk):=yb (by
    have h:=of_decide_eq_false HBb.o.symm
    unfold IA at h
    exact ⟨(Decidable.not_not.1 h).2.2.1,(Decidable.not_not.1 h).2.2.2.1⟩)
   clear HRes HBb hqr
   have HG1:=yb (HG.o.up HW.o.below)
   have HU:Hid (∀W,GU W->Calls Tryz.prog 76 #[.int .i64 u] W fun e w'=>e=.returned (.tuple #[(F8 u).v,.int .i64 (Ez u)])∧Below W.heap.size W w'):=yb (fun W hW=>T4 u W hW)
   have hNq:Iz n u=if Da / Ez u < n then ⟨F8 u,IP,2⟩ else ⟨F8 u,⟨Ez u*n,1⟩,0⟩:=rfl
   rw[hNq] at hr
   clear hNq
   have hk3:Ez u=1∨Ez u=1000∨Ez u=24:=by
    unfold Ez
    split
    ·exact .inr (.inl rfl)
    ·split
     ·exact .inr (.inr rfl)
     ·exact .inl rfl
   generalize Ez u=k at*
   generalize F8 u=d at*
   obtain ⟨dl,dh,da⟩:=d
   unfold Dm.v at HU
   dsimp only at HU
   obtain ⟨t,ht⟩:∃t:Int,t=(1073741824:Int).tdiv k:=⟨_,rfl⟩
   have ht1:t=Da / k:=by rw[ht];unfold Da;rw[Int.tdiv_eq_ediv_of_nonneg (by omega)]
   have ht2:(1073741824:Int).tdiv k=t:=ht.symm
   have ht3:wrap64 t=t:=AL (by unfold Da at ht1;rcases hk3 with rfl|rfl|rfl<;>omega)
   have ht5:(1073741824:Int) / k=t:=ht1.symm
   have hk0:¬ k=0:=by omega
   have hkp:wrap64 (k*n)=k*n:=AL (by have:=hnb.o;unfold Fk at this;rcases hk3 with rfl|rfl|rfl<;>omega)
   rw[<-ht1] at hr
   clear ht ht1 hk3 x0 x1 x2 x3 x4 x5
   obtain ⟨x0,x1,x2,x3,x4,x5⟩:=Cg HW.o.x
   have HX2:Hid (∀w2,Below wc.heap.size wc w2->Ng w [.int .i64 1,.int .i64 n,.int .i64 u,.string rn,.int .i64 ri,.slice a m cap] Fj (w2.alloc (.cells #[.int .i64 dl,.int .i64 dh,.int .i64 da] 68))):=yb (fun w2 h=>(HW.o.up h).up ((yg _ _).alloc (yf _) _))
   go_upto_region 5 with (first|(go_at_call 76;refine (HU.o _ HG1.o).mono ?_;rintro e w2 ⟨rfl,hw2⟩;have HW2:=yb (HX2.o w2 hw2);clear hw2))
   have hdr:(w2.alloc (.cells #[.int .i64 dl,.int .i64 dh,.int .i64 da] 68)).heap[w2.heap.size]?=some (.cells #[.int .i64 dl,.int .i64 dh,.int .i64 da] 68 (0,0)):=World.alloc_heap_new _ _
   generalize w2.alloc (.cells #[.int .i64 dl,.int .i64 dh,.int .i64 da] 68)=W3 at HW2 hdr ⊢
   obtain ⟨d0,d1,d2,df0,df1,df2⟩:=GA hdr
   have hqr:W3.heap[w.heap.size+1]?=some (.cells #[.int .i64 0,.int .i64 0,.int .i64 0,.int .i64 0,.int .i64 0,.int .i64 0] 70 (0,0)):=HW2.o.q
   obtain ⟨q0,q1,q2,q3,q4,q5⟩:=Cg hqr
   have qf:=fun k=>DX (n:=k) hqr
   clear hdr hqr
   go_upto_region 6 with fail
   have HW4:=yb (HW2.o.set (q':=⟨⟨dl,dh,da⟩,IP,0⟩) (AE (w.heap.size+1) _ [.int .i64 dl,.int .i64 dh,.int .i64 da] 0 W3 [] [.int .i64 0,.int .i64 0,.int .i64 0] [.int .i64 0,.int .i64 0,.int .i64 0] HW2.o.q rfl rfl))
   clear HW2 q0 q1 q2 q3 q4 q5 qf d0 d1 d2 df0 df1 df2 x0 x1 x2 x3 x4 x5
   simp only[World.setCells,yw,Nat.reduceAdd] at HW4
   generalize (((W3.setCell ⟨w.heap.size+1,0,none⟩ (.int .i64 dl)).setCell ⟨w.heap.size+1,1,none⟩ (.int .i64 dh)).setCell ⟨w.heap.size+1,2,none⟩ (.int .i64 da))=W4 at HW4 ⊢
   have x1:=(Cg HW4.o.x).2.1
   by_cases hlt:t < n
   ·have e1:decide (t < n)=true:=by simpa using hlt
    have hfr:Hid (res=(⟨⟨dl,dh,da⟩,IP,2⟩,true)):=yb (by rw[hr.o,yD hlt])
    clear hlt hr
    go_region
    have HW5:=yb HW4.o.drew
    clear HW4 x1
    generalize W4.drew=W5 at HW5 ⊢
    have x1:=(Cg HW5.o.x).2.1
    have hq5:W5.heap[w.heap.size+1]?=some (.cells #[.int .i64 dl,.int .i64 dh,.int .i64 da,.int .i64 0,.int .i64 0,.int .i64 0] 70 (0,0)):=HW5.o.q
    obtain ⟨q0,q1,q2,q3,q4,q5⟩:=Cg hq5
    have qf:=fun k=>DX (n:=k) hq5
    have HW6:=yb (HW5.o.set (q':=⟨⟨dl,dh,da⟩,IP,2⟩) (AE (w.heap.size+1) _ [.int .i64 2] 5 W5 [.int .i64 dl,.int .i64 dh,.int .i64 da,.int .i64 0,.int .i64 0] [.int .i64 0] [] hq5 rfl rfl))
    simp only[World.setCells,yw,Nat.reduceAdd] at HW6
    clear hq5
    go_wp2
    have hwr:=Co HW6.o.q (.int .i64 dl) (.int .i64 dh) (.int .i64 da) (.int .i64 0) (.int .i64 0) (.int .i64 2)
    exact A3 (c:=(⟨⟨dl,dh,da⟩,IP,2⟩:Qn).row) rfl rfl hwr.row qY rfl (by kernel_rfl) ⟨by rw[hfr.o];rfl,hwr.below HW6.o.below (by omega)⟩
   ·have e1:decide (t < n)=false:=by simpa using hlt
    have hfr:Hid (res=(⟨⟨dl,dh,da⟩,⟨k*n,1⟩,0⟩,true)):=yb (by rw[hr.o,yq hlt])
    clear hlt hr
    go_region
    have HW5:=yb HW4.o.drew
    clear HW4 x1
    generalize W4.drew=W5 at HW5 ⊢
    have x1:=(Cg HW5.o.x).2.1
    have hq5:W5.heap[w.heap.size+1]?=some (.cells #[.int .i64 dl,.int .i64 dh,.int .i64 da,.int .i64 0,.int .i64 0,.int .i64 0] 70 (0,0)):=HW5.o.q
    obtain ⟨q0,q1,q2,q3,q4,q5⟩:=Cg hq5
    have qf:=fun k=>DX (n:=k) hq5
    have HW6:=yb (HW5.o.set (q':=⟨⟨dl,dh,da⟩,⟨k*n,1⟩,0⟩) (AE (w.heap.size+1) _ [.int .i64 (k*n),.int .i64 1] 3 W5 [.int .i64 dl,.int .i64 dh,.int .i64 da] [.int .i64 0,.int .i64 0] [.int .i64 0] hq5 rfl rfl))
    simp only[World.setCells,yw,Nat.reduceAdd] at HW6
    clear hq5
    go_wp2
    have hwr:=Co HW6.o.q (.int .i64 dl) (.int .i64 dh) (.int .i64 da) (.int .i64 (k*n)) (.int .i64 1) (.int .i64 0)
    exact A3 (c:=(⟨⟨dl,dh,da⟩,⟨k*n,1⟩,0⟩:Qn).row) rfl rfl hwr.row qY rfl (by kernel_rfl) ⟨by rw[hfr.o];rfl,hwr.below HW6.o.below (by omega)⟩
set_option linter.unusedSimpArgs false
def T6(op left n u:Int)(rn:ByteArray)(ri:Int)(m:Nat):Prop:=3<=op∧op<=6∧left≠0∧m=2∧n=0∧u=0∧CL rn ri=true
theorem UY(g:Value)(left:Int)(op n u:Int)(rn:ByteArray)(ri:Int)(a:Option Addr)(m cap:Nat)(w:World)(h1:op≠1)(h2:op≠2)(hb:¬ T6 op left n u rn ri m):
  Calls Tryz.prog 38 #[g,.agg #[.int .i64 op,.int .i64 n,.int .i64 u,.string rn,.int .i64 ri,.slice a m cap],.int .i64 left] w (Ob (Fj,false) w):=by
 have e:=yb (Ng.new w [iV op,iV n,iV u,.string rn,iV ri,.slice a m cap])
 have z:=KQ rn ri
 have t:Tryz.prog.eqGuardType Tryz.prog.depth 23=false:=by kernel_rfl
 have l:=yb hb
 have B:(op==1)=false:=by simpa using h1
 have T:(op==2)=false:=by simpa using h2
 clear hb h1 h2
 go_enter Tryz.func38,Tryz.ntmps38
 refine Ae fun K j=>?_
 go_wp2
 refine j.o _ _ ?_
 clear j
 generalize (w.alloc (.cells #[iV op,iV n,iV u,.string rn,iV ri,.slice a m cap] 26)).alloc (.cells j4 70)=W at e ⊢
 obtain ⟨x0,H,S,L,M,J⟩:=Cg e.o.x
 have f:W.heap[w.heap.size+1]?=some (.cells j4 70 (0,0)):=e.o.q
 have d:=yb f
 obtain ⟨V,P,G,A,I,E⟩:=Cg f
 have N:=fun k=>DX (n:=k) f
 clear f
 refine Ae fun K j=>?_
 clear j
 go_upto_region 14 with fail
 by_cases h1:3<=op
 rotate_left
 ·have y:decide (op < 3)=true:=by simp<;>omega
  clear h1
  go_wp2
  have b:=Co d.o (iV 0) (iV 0) (iV 0) (iV 0) (iV 0) (iV 0)
  exact A3 (c:=Fj.row) rfl rfl b.row qY rfl (by kernel_rfl) ⟨rfl,b.below e.o.below (by omega)⟩
 have y:decide (op < 3)=false:=by simp<;>omega
 by_cases h2:op<=6
 rotate_left
 ·have s:decide (6 < op)=true:=by simp<;>omega
  clear h1 h2
  go_wp2
  have b:=Co d.o (iV 0) (iV 0) (iV 0) (iV 0) (iV 0) (iV 0)
  exact A3 (c:=Fj.row) rfl rfl b.row qY rfl (by kernel_rfl) ⟨rfl,b.below e.o.below (by omega)⟩
 have s:decide (6 < op)=false:=by simp<;>omega
 by_cases h3:left≠0
 rotate_left
 ·have v:(left==0)=true:=by simpa using h3
  clear h1 h2 h3
  go_wp2
  have b:=Co d.o (iV 0) (iV 0) (iV 0) (iV 0) (iV 0) (iV 0)
  exact A3 (c:=Fj.row) rfl rfl b.row qY rfl (by kernel_rfl) ⟨rfl,b.below e.o.below (by omega)⟩
 have v:(left==0)=false:=by simpa using h3
 by_cases r:m=2
 rotate_left
 ·have Q:((m:Int)==2)=false:=by simp<;>omega
  have D:((m:Int) !=2)=true:=by simp<;>omega
  clear h1 h2 h3 r
  go_wp2
  have b:=Co d.o (iV 0) (iV 0) (iV 0) (iV 0) (iV 0) (iV 0)
  exact A3 (c:=Fj.row) rfl rfl b.row qY rfl (by kernel_rfl) ⟨rfl,b.below e.o.below (by omega)⟩
 subst r
 by_cases i:n=0
 rotate_left
 ·have U:(n==0)=false:=by simpa using i
  have F:(n !=0)=true:=by simpa using i
  clear h1 h2 h3 i
  go_wp2
  have b:=Co d.o (iV 0) (iV 0) (iV 0) (iV 0) (iV 0) (iV 0)
  exact A3 (c:=Fj.row) rfl rfl b.row qY rfl (by kernel_rfl) ⟨rfl,b.below e.o.below (by omega)⟩
 subst i
 by_cases h:u=0
 rotate_left
 ·have O:(u==0)=false:=by simpa using h
  have C:(u !=0)=true:=by simpa using h
  clear h1 h2 h3 h
  go_wp2
  have b:=Co d.o (iV 0) (iV 0) (iV 0) (iV 0) (iV 0) (iV 0)
  exact A3 (c:=Fj.row) rfl rfl b.row qY rfl (by kernel_rfl) ⟨rfl,b.below e.o.below (by omega)⟩
 subst h
 by_cases p:CL rn ri=true
 rotate_left
 ·have R:CL rn ri=false:=by simpa using p
  clear h1 h2 h3 p
  go_wp2
  have b:=Co d.o (iV 0) (iV 0) (iV 0) (iV 0) (iV 0) (iV 0)
  exact A3 (c:=Fj.row) rfl rfl b.row qY rfl (by kernel_rfl) ⟨rfl,b.below e.o.below (by omega)⟩
 exact absurd ⟨h1,h2,h3,rfl,rfl,rfl,p⟩ l.o
instance:DecidableEq Rf:=fun a b=>decidable_of_iff (a.name=b.name∧a.n=b.n) (by cases a;cases b;simp)
def MW(u:Us):Rf:=⟨u.name,u.n⟩
mutual
def Mj:Ex->List Rf
 |.mk _ _ _ rn ri args=>⟨rn,ri⟩::GX args
def GX:List Ex->List Rf
 |[]=> []
 |e::r=>Mj e++GX r
end
def Fv(e:Lp):List Rf:=if BJ e.1 then [] else Mj e.1
def Fa(d:CV):List Rf:=[d.on,d.crop]
def Gp(d:BA):List Rf:=d.on::d.turns.flatMap fun k=> [k.farm]
def Ej(d:B6):List Rf:=[d.farm,d.reach]
def Fb(d:D6):List Rf:=[d.farm,d.reach]
def AS(x:Ax):List Rf:=(Ay x).flatMap Fv++(((x.farms.flatMap Fa++x.rots.flatMap Gp)++x.rights.flatMap Ej)++x.duties.flatMap Fb)
def CZ(x:Ax):List Rf:=AS x++x.reaches.map (·.frm)
def BE(x:Ax):Int:=if AF x=0 then (if CZ x=CZ (Aj x) then 0 else 170) else AF x
def UJ(N:NP)(s b:Nat):Prop:=b=s∨N b
structure KT (N:Nat->Prop) (s:Nat) (w:World) (u:Us):Prop where
 inS:UJ N s u.b
 name:w.cell? ⟨u.b,u.o,none⟩=some (.string u.name)
 n:w.cell? ⟨u.b,u.o+1,none⟩=some (.int .i64 u.n)
def CB(K:NP)(p:Addr):Prop:=∃b q,p=⟨b,q,none⟩∧K b
def DB(K:NP)(w:World)(p:Addr):Prop:=∃b q,p=⟨b,q,none⟩∧K b∧∃z,w.cell? ⟨b,q,none⟩=some (.int .i64 z)
theorem Oe{K:NP}{w V:World}(h:∀b,K b->V.heap[b]?=w.heap[b]?):VM w (CB K) (DB K w) V:=by
 constructor
 ·rintro p ⟨b,q,rfl,a⟩;exact Ab (h b a)
 ·rintro p ⟨b,q,rfl,a,z,c⟩;exact ⟨z,(Ab (h b a)).trans c⟩
section
variable{N K:NP}{w:World}{s:Nat}
mutual
theorem Mk(lt:Int):∀(e:Ex) (b o:Nat) (cs:LV),UJ N s b->AH N w e cs->w.rangeAt b o cs->(∀u∈(BX w lt e b o).1,KT N s w u)∧((BX w lt e b o).2=true->(BX w lt e b o).1.map MW=Mj e)
 |.mk op n u rn ri args,b,o,cs,hb,hv,hr=>by
  rw[AH] at hv
  obtain ⟨a,cap,rfl,h2,h3,i⟩:=hv
  obtain ⟨l,r1,r2,k,g,h⟩:=Bn hr
  obtain ⟨j,f⟩:=Ml lt args a args.length cap 0 i
  rw[BX]
  by_cases hs:Nc op args.length=true
  ·rw[yD hs,h]
   refine ⟨fun v c=>?_,fun d=>?_⟩
   ·rcases yN.1 c with rfl|c
    ·exact ⟨hb,k,g⟩
    ·exact j v c
   ·rw[Mj,zu,f d];rfl
  ·rw[yq hs]
   exact ⟨fun v c=>(by cases c),fun d=>(by cases d)⟩
theorem Ml(lt:Int):∀(l:List Ex) (a:Option Addr) (n cap i:Nat),D5 N w a i l->(∀u∈(Bp w lt l (some (.slice a n cap)) i).1,KT N s w u)∧((Bp w lt l (some (.slice a n cap)) i).2=true->(Bp w lt l (some (.slice a n cap)) i).1.map MW=GX l)
 |[],a,n,cap,i,h=>by rw[Bp];exact ⟨fun v c=>(by cases c),fun _=>rfl⟩
 |e::r,a,n,cap,i,h=>by
  rw[D5] at h
  obtain ⟨⟨b,o,cs,rfl,h1,h2,h3⟩,k⟩:=h
  obtain ⟨g,j⟩:=Mk lt e b (o+i*6) cs (.inr h1) h3 h2
  obtain ⟨p,m⟩:=Ml lt r (some ⟨b,o,none⟩) n cap (i+1) k
  rw[Bp]
  by_cases f:(BX w lt e b (o+i*6)).2=true
  ·simp only[f,xm]
   refine ⟨fun v c=>(yy.1 c).elim (g v) (p v),fun d=>?_⟩
   rw[zD,j f,m d,GX]
  ·simp only[f]
   refine ⟨fun v c=>g v (by simpa using c),fun d=>absurd d (by simp)⟩
end
mutual
theorem Ta(hN:∀b,N b->K b):∀(e:Ex) (b o:Nat) (cs:LV),K b->AH N w e cs->w.rangeAt b o cs->R5 w (CB K) e b o
 |.mk op n u rn ri args,b,o,cs,hb,hv,hr=>by
  rw[AH] at hv
  obtain ⟨a,cap,rfl,h2,h3,f⟩:=hv
  obtain ⟨d,r1,r2,h,g,c⟩:=Bn hr
  rw[R5]
  exact ⟨a,cap,⟨d,_,_,rfl,hb⟩,⟨c,_,_,rfl,hb⟩,h2,QE hN args a 0 f⟩
theorem QE(hN:∀b,N b->K b):∀(l:List Ex) (a:Option Addr) (i:Nat),D5 N w a i l->JD w (CB K) a i l
 |[],a,i,h=>by rw[JD];trivial
 |e::r,a,i,h=>by
  rw[D5] at h
  rw[JD]
  obtain ⟨⟨b,o,cs,rfl,h1,h2,h3⟩,c⟩:=h
  exact ⟨⟨b,o,rfl,Ta hN e b (o+i*6) cs (hN b h1) h3 h2⟩,QE hN r _ (i+1) c⟩
end
end
theorem Mm:∀ {l:List (List Us × Bool)},(Bw l).2=true->(Bw l).1=l.flatMap (·.1)∧∀p∈l,p.2=true
 |[],_=>by simp[Bw]
 |y::r,h=>by
  have e:Bw (y::r)=if y.2 then (y.1++(Bw r).1,(Bw r).2) else (y.1,false):=rfl
  rw[e] at h ⊢
  by_cases h1:y.2=true
  ·rw[yD h1] at h ⊢
   obtain ⟨b,a⟩:=Mm h
   exact ⟨by rw[zc,<-b],fun p c=>(yN.1 c).elim (fun e=>e▸h1) (a p)⟩
  ·rw[yq h1] at h;cases h
theorem Fc{α:Type}{l:List α}{n:Nat}(b:n=l.length){F:Nat->List Us}{f:α->List Rf}(h:∀i (hi:i < l.length),(F i).map MW=f l[i]):((List.range n).flatMap F).map MW=l.flatMap f:=by
 have a:∀k,k<=l.length->((List.range k).flatMap F).map MW=(l.take k).flatMap f:=by
  intro k
  induction k with
  |zero=>simp
  |succ k ih=>
   intro c
   rw[Ai,zD,ih (by omega),h k (by omega),yG (by omega),zH]
   simp
 rw[b,a _ (yf _),yQ]
section
variable{N:NP}{w:World}{L:Bq}{cs:LV}{x:Ax}
theorem Of{s:Nat}:∀ {l:List (Array Value)} {m:List Lp},Az (VR N s w) l m->(∀p∈List.zipWith (Ck w) l m,∀u∈p.1,KT N s w u)∧((∀p∈List.zipWith (Ck w) l m,p.2=true)->((List.zipWith (Ck w) l m).flatMap (·.1)).map MW=m.flatMap Fv)
 |[],[],_=>⟨fun p f=>(by cases f),fun _=>rfl⟩
 |a::l,e::m,hA=>by
  rw[Az] at hA
  obtain ⟨⟨b,o,c,rfl,hb,hr,q⟩,h2⟩:=hA
  obtain ⟨n,j⟩:=Of h2
  obtain ⟨r,k⟩:=Mk e.2 e.1 b o c hb q hr
  have d:(∀u∈(Ck w #[.pointer (some ⟨b,o,none⟩),.int .i64 e.2] e).1,KT N s w u)∧((Ck w #[.pointer (some ⟨b,o,none⟩),.int .i64 e.2] e).2=true->(Ck w #[.pointer (some ⟨b,o,none⟩),.int .i64 e.2] e).1.map MW=Fv e):=by
   unfold Ck Fv
   by_cases g:BJ e.1=true
   ·simp[g]
   ·rw[yq g,yq g];exact ⟨r,k⟩
  rw[xV]
  refine ⟨fun p f=>(yN.1 f).elim (fun h=>h▸d.1) (n p),fun i=>?_⟩
  rw[zc,zD,d.2 (i _ (by simp)),j (fun p f=>i p (by simp[f])),zc]
 |[],_::_,hA=>by simp[Az] at hA
 |_::_,[],hA=>by simp[Az] at hA
theorem EA{h:As}{b o sz i c:Nat}{cs0 p q:LV}{r:Rf}{s:Nat}(to at_:Int)(e:h.a=some ⟨b,o,none⟩)(hN:N b)(hr:w.rangeAt b (o+i*sz) cs0)(d:cs0=p++(AU r++q))(f:p.length=c):KT N s w (CO (h.at sz i c) to at_ r):=by
 subst d
 have h1:=CT hr
 rw[f] at h1
 unfold CO
 rw[AP e]
 exact ⟨.inr hN,h1 0 _ rfl,h1 1 _ rfl⟩
theorem PE(h:BP N w L cs x):(∀u∈Cb L x,KT N L.s w u)∧(Cb L x).map MW=((x.farms.flatMap Fa++x.rots.flatMap Gp)++x.rights.flatMap Ej)++x.duties.flatMap Fb:=by
 constructor
 ·intro u a
  unfold Cb at a
  simp only[yy] at a
  rcases a with ((a|a)|a)|a
  ·obtain ⟨i,hi,a⟩:=yW.1 a
   have j:i < x.farms.length:=by rw[<-h.farms.1];exact ze.1 hi
   obtain ⟨b,o,c,g1,e,n,g,_,_,_,c1,rfl,t⟩:=h.farms.2.2 i j
   unfold E8 at a
   rw[yk j] at a
   simp only[yN,yZ,zK] at a
   generalize x.farms[i]=d at*
   rcases a with rfl|rfl
   ·exact EA (p:=[.string d.name]) _ _ g1 e g rfl rfl
   ·exact EA (p:=.string d.name::(AU d.on++(.bool d.river::c1))) (q:=[]) _ _ g1 e g (by simp) (by simp[At,t.len])
  ·obtain ⟨i,hi,a⟩:=yW.1 a
   have j:i < x.rots.length:=by rw[<-h.rots.1];exact ze.1 hi
   obtain ⟨b,o,c,g1,e,n,g,_,_,c0,c1,c2,rfl,z,y,v,m⟩:=h.rots.2.2 i j
   unfold Gf at a
   rw[yk j] at a
   generalize x.rots[i]=d at*
   rcases yN.1 a with rfl|a
   ·exact EA (p:=[.string d.name]) _ _ g1 e g rfl rfl
   ·obtain ⟨k,r,a⟩:=yW.1 a
    have l:k < d.turns.length:=by rw[<-m.1];exact ze.1 r
    obtain ⟨b,o,c,g1,e,n,g,_,c1,rfl,t⟩:=m.2.2 k l
    unfold EL at a
    rw[yk l] at a
    simp only[yN,yZ,zK] at a
    rw[a]
    exact EA (p:=[]) _ _ g1 e g rfl rfl
  ·obtain ⟨i,hi,a⟩:=yW.1 a
   have j:i < x.rights.length:=by rw[<-h.rights.1];exact ze.1 hi
   obtain ⟨b,o,c,g1,e,n,g,_,_,_,c0,c1,c2,c3,c4,rfl,_⟩:=h.rights.2.2 i j
   unfold CG at a
   rw[yk j] at a
   simp only[yN,yZ,zK] at a
   generalize x.rights[i]=d at*
   rcases a with rfl|rfl
   ·exact EA (p:=[iV d.kind,.string d.name]) _ _ g1 e g rfl rfl
   ·exact EA (p:=iV d.kind::.string d.name::AU d.farm) _ _ g1 e g rfl rfl
  ·obtain ⟨i,hi,a⟩:=yW.1 a
   have j:i < x.duties.length:=by rw[<-h.duties.1];exact ze.1 hi
   obtain ⟨b,o,c,g1,e,n,g,_,_,_,c0,rfl,_⟩:=h.duties.2.2 i j
   unfold DQ at a
   rw[yk j] at a
   simp only[yN,yZ,zK] at a
   generalize x.duties[i]=d at*
   rcases a with rfl|rfl
   ·exact EA (p:=[.string d.name]) _ _ g1 e g rfl rfl
   ·exact EA (p:=.string d.name::AU d.farm) _ _ g1 e g rfl rfl
 ·unfold Cb
  rw[zD,zD,zD,Fc h.farms.1 (f:=Fa) fun i hi=>?_,Fc h.rots.1 (f:=Gp) fun i hi=>?_,Fc h.rights.1 (f:=Ej) fun i hi=>?_,Fc h.duties.1 (f:=Fb) fun i hi=>?_]
  ·unfold DQ;rw[yk hi];rfl
  ·unfold CG;rw[yk hi];rfl
  ·obtain ⟨_,_,_,_,_,_,_,_,_,_,_,_,_,_,_,_,m⟩:=h.rots.2.2 i hi
   unfold Gf;rw[yk hi]
   simp only[zu]
   rw[Fc m.1 (f:=fun k:Cm=> [k.farm]) fun k r=>?_]
   ·rfl
   ·unfold EL;rw[yk r];rfl
  ·unfold E8;rw[yk hi];rfl
theorem Mn(h:BP N w L cs x)(hr:w.rangeAt L.s 0 cs):(∀u∈(BQ w L x).1,KT N L.s w u)∧((BQ w L x).2=true->(BQ w L x).1.map MW=AS x):=by
 obtain ⟨j,k⟩:=Of (Ic h hr)
 obtain ⟨i,g⟩:=PE h
 constructor
 ·intro u b
  obtain ⟨p,a,b⟩:=Iw b
  unfold Ed at a
  rcases yy.1 a with a|a
  ·exact j p a u b
  ·simp only[zk] at a
   rw[a] at b
   simp only at b
   split at b
   ·exact i u b
   ·cases b
 ·intro f
  obtain ⟨d,c⟩:=Mm f
  unfold BQ
  rw[d]
  unfold Ed
  have e:BZ x=true:=by
   have:=c (if BZ x then Cb L x else [],BZ x) (by unfold Ed;simp)
   exact this
  rw[zH,zD]
  unfold Dt
  rw[k (fun p a=>c p (by unfold Ed Dt;simp[a]))]
  simp only[zc,zs,yS,e,xm]
  rw[g];rfl
theorem MX(h:BP N w L cs x)(d:Bz x=true):(Cb L x).length<=1000000:=by
 obtain ⟨o,p,s,l,m,j,f,c,_⟩:=F6 d
 unfold Cb
 simp only[yn]
 have r:((List.range L.farms.n).flatMap (E8 L.farms x.farms)).length<=L.farms.n*2:=Fs _ fun i=>by unfold E8;split<;>simp
 have g:((List.range L.rots.n).flatMap (Gf L x.rots)).length<=L.rots.n*66:=NS _ fun i hi=>by
  have a:i < x.rots.length:=by rw[<-h.rots.1];exact hi
  obtain ⟨_,_,_,_,_,_,_,_,_,_,_,_,_,_,_,_,b⟩:=h.rots.2.2 i a
  have e:((List.range (A2 L i).n).flatMap (EL (A2 L i) (x.rots[i]).turns)).length<=(A2 L i).n*1:=Fs _ fun k=>by unfold EL;split<;>simp
  have:=c _ (yJ a)
  have:=b.1
  unfold Gf
  rw[yk a]
  simp only[yv]
  omega
 have e:((List.range L.rights.n).flatMap (CG L.rights x.rights)).length<=L.rights.n*2:=Fs _ fun i=>by unfold CG;split<;>simp
 have q:((List.range L.duties.n).flatMap (DQ L.duties x.duties)).length<=L.duties.n*2:=Fs _ fun i=>by unfold DQ;split<;>simp
 have:=h.farms.1;have:=h.rots.1;have:=h.rights.1;have:=h.duties.1
 omega
theorem Og(h:BP N w L cs x)(hr:w.rangeAt L.s 0 cs){Bu:Nat}(g:w.cell? ⟨Bu,0,none⟩=some (.pointer (some ⟨L.s,0,none⟩)))(m:Bz x=true):Kf N w (CB fun b=>UJ N L.s b∨b=Bu) (DB (fun b=>UJ N L.s b∨b=Bu) w) Bu L x:=by
 refine ⟨h.ok,Ke h hr g,⟨Bu,0,rfl,.inr rfl⟩,fun j _ _=>⟨L.s,j,rfl,.inl (.inl rfl)⟩,fun i hi=>?_,fun i hi=>?_,fun i hi=>?_,?_,h.farms.1,h.rots.1,fun i hi=>?_,h.rights.1,h.duties.1,NT (F6 m).1,MX h m⟩
 ·obtain ⟨b,o,c,g1,f,_⟩:=h.rots.2.2 i (by rw[<-h.rots.1];exact hi)
  rw[AP g1]
  exact ⟨_,_,rfl,.inl (.inr f)⟩
 ·obtain ⟨b,o,c,g1,f,t,k,_,_,_,c1,rfl,v⟩:=h.farms.2.2 i hi
  rw[AP g1]
  exact ⟨⟨_,_,rfl,.inl (.inr f)⟩,k 3 _ rfl⟩
 ·obtain ⟨b,o,c,g1,f,t,k,_,_,_,c0,c1,c2,c3,c4,rfl,_⟩:=h.rights.2.2 i hi
  rw[AP g1]
  exact ⟨⟨_,_,rfl,.inl (.inr f)⟩,k 0 _ rfl⟩
 ·refine Az.mono (fun a e q=>?_) (Ic h hr)
  obtain ⟨b,o,c,rfl,hb,d,l⟩:=q
  have r:=Ta (K:=fun b=>UJ N L.s b∨b=Bu) (fun b hb=>.inl (.inr hb)) e.1 b o c (.inl hb) l d
  obtain ⟨a,cap,rfl,B,u,A⟩:=l.cells
  obtain ⟨C,r1,r2,z,p,y⟩:=Bn d
  exact ⟨b,o,_,rfl,d,l,r,⟨_,_,rfl,.inl hb⟩,⟨_,_,rfl,.inl hb⟩,⟨_,_,rfl,.inl hb⟩,⟨_,_,rfl,.inl hb,_,p⟩,fun _=>⟨_,_,rfl,.inl hb⟩⟩
 ·obtain ⟨_,_,_,_,_,_,_,_,_,_,_,_,_,_,_,_,n⟩:=h.rots.2.2 i hi
  exact n.1
end
def Cs(B:Nat)(w:World)(v:Value)(l:List Rf):Prop:=w.ownsRow B 23 2 v l.length (l.flatMap AU)
theorem Ry(B:Nat)(w:World):Cs B w (.slice none 0 0) []:=⟨rfl,.inl ⟨rfl,rfl⟩⟩
theorem Cs.up{B:Nat}{w w':World}{v:Value}{l:List Rf}(h:Cs B w v l)(hb:∀g,v.ownBlock=some g->g < w.heap.size->w'.heap[g]?=w.heap[g]?):Cs B w' v l:=by
 obtain ⟨h1,h2⟩:=h
 refine ⟨h1,h2.imp id ?_⟩
 rintro ⟨g,cap,a,rfl,d,b,c⟩
 exact ⟨g,cap,a,rfl,d,(hb g rfl (yd.1 b).1).trans b,c⟩
theorem MY{B:Nat}{W:World}{v:Value}{l:List Rf}(d:Cs B W v l)(r:Rf)(ty:TypeId)(g c:Nat)(D:W.heap[g]?=some (.cells #[.string r.name,.int .i64 r.n] 23 (0,0)))(z:l.length+1<=1000000000){v':Value}{w':World}
 (a:(Builtin.append_ #[81,81] ty #[v,.slice (some ⟨g,0,none⟩) 1 c]).run Tryz.prog W=.ok v' w'):v'.ownBlock=v.ownBlock∨v'.ownBlock=some W.heap.size:=by
 have e:(Tryz.prog.info? 23).map (fun i=>(i.zero,i.size,i.bytes))=some (some (.agg #[.string ⟨#[]⟩,iV 0]),2,24):=by kernel_rfl
 obtain ⟨q,hi,o,m,p⟩:=info_parts e
 have b:∀j u,(AU r)[j]?=some u->W.cell? (((aV g 0):Addr).add j)=some u:=fun j u y=>by
  rw[zA]
  simp only[World.cell?,D]
  unfold AU at y
  simpa using y
 have s:(AU r).length=1*q.size:=by rw[m];rfl
 rcases d.2 with ⟨rfl,G⟩|⟨k,cap,w,rfl,A,F,E,C,x,t⟩
 ·rw[run_append_nil W 81 ty 23 q _ j0 hi o (aV g 0) 1 c (AU r) s b (by omega) (by omega) (by rw[p];omega)] at a
  cases a
  exact .inr rfl
 ·by_cases h:l.length+1<=cap
  ·rw[run_append_room W 81 ty 23 q j0 hi k l.length cap w F (aV g 0) 1 c (AU r) s b (Eh r) h (by rw[m,x];show l.length*2+2<=cap*2;omega)] at a
   cases a
   exact .inl rfl
  ·have f:∀j u,(l.flatMap AU)[j]?=some u->W.cell? (((aV k 0):Addr).add j)=some u:=World.ownsRow.cells d (g:=k) rfl
   rw[run_append_grow W 81 ty 23 q _ j0 hi o (aV k 0) l.length cap (l.flatMap AU) (by rw[m];exact d.1) f (aV g 0) 1 c (AU r) s b (by omega) (by omega) (growslice_fits (by omega) (by rw[p];omega))] at a
   cases a
   exact .inr rfl
theorem Eo{o:Oper}{a:Act}{K:Act->World->Prop}{Q:QT}{W:World}(B:Nat)(s x:Operand)(y:o.op=.call {callee:=.builtin .append,args:=#[s,x],argTypes:=#[81,81]})
 (v:Value)(l:List Rf)(hs:a.eval s=v)(b:Cs B W v l)(r:Rf)(g c:Nat)(z:a.eval x=.slice (some ⟨g,0,none⟩) 1 c)(t:W.heap[g]?=some (.cells #[.string r.name,.int .i64 r.n] 23 (0,0)))(k:l.length+1<=1000000000)(e:B<=W.heap.size)
 (h:∀v' w',Cs B w' v' (l++[r])->W.grownBy w' v.ownBlock->(v'.ownBlock=v.ownBlock∨v'.ownBlock=some W.heap.size)->K (a.put o.dst v') w'):Oper.wp Tryz.prog o a W K Q:=by
 have d:(Tryz.prog.info? 23).map (fun i=>(i.zero,i.size,i.bytes))=some (some (.agg #[.string ⟨#[]⟩,iV 0]),2,24):=by kernel_rfl
 obtain ⟨A,hi,m,q,p⟩:=info_parts d
 have f:∀j u,(AU r)[j]?=some u->W.cell? (((aV g 0):Addr).add j)=some u:=fun j u w=>by
  rw[zA]
  simp only[World.cell?,t]
  unfold AU at w
  simpa using w
 obtain ⟨v',w',hr,h2,h3,_⟩:=run_append_own (P:=Tryz.prog) W B 81 o.type 23 A _ 2 24 j0 hi m q p rfl (by decide) v l.length _ b (aV g 0) 1 c (AU r) rfl f (Eh r) (by unfold maxLen;omega) (by omega) e
 have hb:=MY b r o.type g c t k hr
 unfold Oper.wp
 simp[execOp,y,resolve,invoke,builtin,hs,z,hr,Result.andThen]
 refine h v' w' ?_ h3 hb
 unfold Cs
 rw[yn,zH]
 simpa using h2
structure Tc (W:World) (base:Nat) (va:Value) (ls:List Rf) (r:Rf) (w1:World) (v:Value):Prop where
 own:Cs base w1 v (ls++[r])
 grown:W.grownBy w1 va.ownBlock
 blk:v.ownBlock=va.ownBlock∨∃g,v.ownBlock=some g∧W.heap.size<=g
def Uf(w:World)(v:Value)(r:Rf):Prop:=∃g,v=.slice (some ⟨g,0,none⟩) 1 1∧w.heap[g]?=some (.cells #[.string r.name,.int .i64 r.n] 23 (0,0))
theorem Uf.up{w w':World}{v:Value}{r:Rf}(h:Uf w v r)(hb:Below w.heap.size w w'):Uf w' v r:=by
 obtain ⟨g,h1,h2⟩:=h
 exact ⟨g,h1,(hb.block g (yd.1 h2).1).trans h2⟩
structure Oi (W:World) (base:Nat) (va:Value) (ls:List Rf) (r:Rf) (Bx s24 s25:Nat) (l:Array Bool) (tm:Array Value) (w:World):Prop where
 one:l.getD 6 false=false->Below W.heap.size W w∧(l.getD 5 false=true->Uf w (tm.getD s24 undef) r)
 two:l.getD 6 false=true->l.getD 7 false=false->Tc W base va ls r w (tm.getD s25 undef)
 three:l.getD 7 false=true->∃w1 v,Tc W base va ls r w1 v∧w=w1.setCell ⟨Bx,0,none⟩ v
theorem Oi.quiet{W:World}{base:Nat}{va:Value}{ls:List Rf}{r:Rf}{Bx a b:Nat}{l:Array Bool}{tm:Array Value}{w w2:World}{i t:Nat}{v:Value}(h:Oi W base va ls r Bx a b l tm w)(g:l.getD 6 false=false)(n:l.getD 7 false=false)(c:i≠5)(e:i≠6)(d:i≠7)(m:t < a)(hb:Below w.heap.size w w2):Oi W base va ls r Bx a b (l.setIfInBounds i true) (tm.setIfInBounds t v) w2:=by
 obtain ⟨h1,h2⟩:=h.one g
 refine ⟨fun _=>⟨h1.trans (hb.mono h1.size),fun j=>?_⟩,fun f=>?_,fun k=>?_⟩
 ·rw[A8 c] at j
  rw[Bl (Nat.ne_of_lt m)]
  exact (h2 j).up hb
 ·rw[A8 e,g] at f;cases f
 ·rw[A8 d,n] at k;cases k
def Vx(va:Value)(b6 ub uo:Nat)(r:Rf)(j:Nat)(v:Value)(_:World):Prop:=match j with
 |0=>v=va
 |1=>v=.pointer (some ⟨b6,0,none⟩)
 |2=>v=.pointer (some ⟨ub,uo,none⟩)
 |3=>v=.pointer (some ⟨ub,uo,none⟩)
 |4=>v=.agg #[.string r.name,.int .i64 r.n]
 |_=>True
theorem VV{O:Act}{W0:World}{Q:QT}{l n Bx b6 ub uo base:Nat}{va:Value}{ls:List Rf}{r:Rf}(ops:Array Oper)(F:DH Tryz.f17 7=some ops)
 (P:O.tmps.getD 4 undef=.pointer (some ⟨Bx,0,none⟩))(a0:O.tmps.getD 6 undef=.pointer (some ⟨b6,0,none⟩))(Y:O.tmps.size=64)
 (U:Bx < W0.heap.size)(aa:b6 < W0.heap.size)(V:ub < W0.heap.size)(T:∃u,W0.heap[Bx]?=some (.cells #[u] 81 (0,0)))(x:W0.cell? ⟨Bx,0,none⟩=some va)(E:W0.cell? ⟨b6,0,none⟩=some (.pointer (some ⟨ub,uo,none⟩)))
 (y:W0.cell? ⟨ub,uo,none⟩=some (.string r.name))(G:W0.cell? ⟨ub,uo+1,none⟩=some (.int .i64 r.n))(D:Cs base W0 va ls)(R:ls.length+1<=1000000000)(I:base<=W0.heap.size)(ab:Bx < base)
 (hQ:∀(a:Act) w1 v,a.tmps.size=64->a.defers=O.defers->(∀t,(t < 19∨25 < t)->a.tmps.getD t undef=O.tmps.getD t undef)->Tc W0 base va ls r w1 v->Q .normal a (w1.setCell ⟨Bx,0,none⟩ v)):
  (Code.region 7 ops true).wpIn (Fence.wide.inRound l) n Tryz.prog Q O W0:=by
 obtain rfl:=yi ((rfl:DH Tryz.f17 7=some _).symm.trans F)
 clear F
 refine G3 (by kernel_rfl) (Oi W0 base va ls r Bx 24 25) (Vx va b6 ub uo r) (fun _ _ _=>True) (by kernel_rfl) (by rw[Y];kernel_rfl) (by kernel_rfl) (by kernel_rfl) (fun _ j v w w' _ _ _ h=>by unfold Vx at h ⊢;exact h) ⟨fun _=>⟨(yg _ _).drew,fun h=>(by cases h)⟩,fun h=>(by cases h),fun h=>(by cases h)⟩ ?_ ?_
 ·intro ix b a w' hM f o B
  have z:=yb hM.ext
  have H:=(yd.1 B).1
  have L:=hM.size
  have M:b.getD 6 false=false->b.getD 7 false=false:=fun i=>by
   rw[ym];intro C
   have:=A1 hM.down 8 7 6 (by kernel_rfl) C
   rw[i] at this;cases this
  match ix,H with
  |0,_=>
   have d:=hM.old f 4 (by kernel_rfl) _ P
   have i:b.getD 6 false=false:=by
    rw[ym];intro s
    have:=A1 hM.down 8 6 0 (by kernel_rfl) s
    rw[hM.not_yet f] at this;cases this
   have hb:=(z.o.one i).1
   have q:=yb i
   have m:=yb (M i)
   clear i
   have c:=(hb.cell (p:=(aV Bx 0)) U).trans x
   clear x y G E
   obtain rfl:=yi B
   go_simp
   exact ⟨_,rfl,z.o.quiet q.o m.o (by decide) (by decide) (by decide) (by decide) (yg _ _),trivial,rfl⟩
  |1,_=>
   have d:=hM.old f 6 (by kernel_rfl) _ a0
   have i:b.getD 6 false=false:=by
    rw[ym];intro s
    have:=A1 hM.down 8 6 1 (by kernel_rfl) s
    rw[hM.not_yet f] at this;cases this
   have hb:=(z.o.one i).1
   have q:=yb i
   have m:=yb (M i)
   clear i x y G E
   obtain rfl:=yi B
   go_simp
   exact ⟨_,rfl,z.o.quiet q.o m.o (by decide) (by decide) (by decide) (by decide) (yg _ _),trivial,rfl⟩
  |2,_=>
   have d:a.tmps[20]?.getD undef=pV b6 0:=hM.dep f 1 20 (by kernel_rfl) (by kernel_rfl)
   have i:b.getD 6 false=false:=by
    rw[ym];intro s
    have:=A1 hM.down 8 6 2 (by kernel_rfl) s
    rw[hM.not_yet f] at this;cases this
   have hb:=(z.o.one i).1
   have q:=yb i
   have m:=yb (M i)
   clear i
   have c:=(hb.cell (p:=(aV b6 0)) aa).trans E
   clear x y G E
   obtain rfl:=yi B
   go_simp
   exact ⟨_,rfl,z.o.quiet q.o m.o (by decide) (by decide) (by decide) (by decide) (yg _ _),trivial,rfl⟩
  |3,_=>
   have d:a.tmps[21]?.getD undef=pV ub uo:=hM.dep f 2 21 (by kernel_rfl) (by kernel_rfl)
   have i:b.getD 6 false=false:=by
    rw[ym];intro s
    have:=A1 hM.down 8 6 3 (by kernel_rfl) s
    rw[hM.not_yet f] at this;cases this
   have hb:=(z.o.one i).1
   have q:=yb i
   have m:=yb (M i)
   clear i x y G E
   obtain rfl:=yi B
   go_simp
   exact ⟨_,rfl,z.o.quiet q.o m.o (by decide) (by decide) (by decide) (by decide) (yg _ _),trivial,rfl⟩
  |4,_=>
   have d:a.tmps[22]?.getD undef=pV ub uo:=hM.dep f 3 22 (by kernel_rfl) (by kernel_rfl)
   have i:b.getD 6 false=false:=by
    rw[ym];intro s
    have:=A1 hM.down 8 6 4 (by kernel_rfl) s
    rw[hM.not_yet f] at this;cases this
   have hb:=(z.o.one i).1
   have q:=yb i
   have m:=yb (M i)
   clear i
   have c:=(hb.cell (p:=(aV ub uo)) V).trans y
   have c1:=(hb.cell (p:=(aV ub (uo+1))) V).trans G
   clear x y G E
   obtain rfl:=yi B
   go_simp
   exact ⟨_,rfl,z.o.quiet q.o m.o (by decide) (by decide) (by decide) (by decide) (yg _ _),trivial,rfl⟩
  |5,_=>
   have d:a.tmps[23]?.getD undef=.agg #[.string r.name,iV r.n]:=hM.dep f 4 23 (by kernel_rfl) (by kernel_rfl)
   have i:b.getD 6 false=false:=by
    rw[ym];intro s
    have:=A1 hM.down 8 6 5 (by kernel_rfl) s
    rw[hM.not_yet f] at this;cases this
   have hb:=(z.o.one i).1
   have q:=yb i
   have m:=yb (M i)
   clear i
   have HB:=yb hb
   have Z:Hid (5 < b.size):=yb (by rw[L];show 5 < 8;omega)
   have HT:Hid (24 < a.tmps.size):=yb (by rw[hM.tmps,Y];decide)
   clear x y G E hb
   obtain rfl:=yi B
   go_simp
   refine ⟨_,rfl,⟨fun _=>⟨HB.o.alloc HB.o.size _,fun _=>⟨w'.heap.size,?_,World.alloc_heap_new _ _⟩⟩,fun s=>?_,fun C=>?_⟩,trivial,trivial⟩
   ·show (a.put (some 24) (.slice (some (aV w'.heap.size 0)) 1 1)).tmps.getD 24 undef=_
    exact Au _ HT.o
   ·rw[A8 (by decide),q.o] at s;cases s
   ·rw[A8 (by decide),m.o] at C;cases C
  |6,_=>
   have d:a.tmps[19]?.getD undef=va:=hM.dep f 0 19 (by kernel_rfl) (by kernel_rfl)
   have i:=hM.not_yet f
   have l5:b.getD 5 false=true:=hM.came f 5 (by kernel_rfl)
   obtain ⟨g,S,hg⟩:=(z.o.one i).2 l5
   have hb:=(z.o.one i).1
   have Z:Hid (6 < b.size):=yb (by rw[L];show 6 < 8;omega)
   have HT:Hid (25 < a.tmps.size):=yb (by rw[hM.tmps,Y];decide)
   have m:=yb (M i)
   rw[yB] at S
   refine Eo base (.tmp 19) (.tmp 24) (by obtain rfl:=yi B;rfl) va ls (by simpa[Act.eval] using d) (D.up fun k hk H=>hb.block k H) r g 1 (by simpa[Act.eval] using S) hg R (yt I hb.size) ?_
   intro v' w5 K A a7
   obtain rfl:=yi B
   refine ⟨v',rfl,⟨fun s=>?_,fun _ _=>⟨?_,?_,?_⟩,fun C=>?_⟩,trivial,trivial⟩
   ·simp[Z.o] at s
   ·show Cs base w5 ((a.put (some 25) v').tmps.getD 25 undef) _
    rw[Au _ HT.o];exact K
   ·exact ⟨A.os.trans hb.os,A.tape.trans hb.tape,A.output.trans hb.output,yt hb.size A.size,fun k hk a2=>(A.block k (yu hk hb.size) a2).trans (hb.block k hk)⟩
   ·show ((a.put (some 25) v').tmps.getD 25 undef).ownBlock=_∨∃g,((a.put (some 25) v').tmps.getD 25 undef).ownBlock=some g∧_
    rw[Au _ HT.o]
    exact a7.imp id (fun h=>⟨_,h,hb.size⟩)
   ·rw[A8 (by decide),m.o] at C;cases C
  |7,_=>
   have d:=hM.old f 4 (by kernel_rfl) _ P
   have l6:b.getD 6 false=true:=hM.came f 6 (by kernel_rfl)
   have a6:=hM.not_yet f
   have J:=z.o.two l6 a6
   have N:w'.heap[Bx]?=W0.heap[Bx]?:=J.grown.block Bx U (fun e=>by
    have:=(D.lt Bx e.symm).1;omega)
   obtain ⟨u0,X⟩:=T
   have c:=Ab (o:=0) N
   have fz:w'.frozen? (aV Bx 0)=false:=by unfold World.frozen?;rw[N,X];rfl
   have c2:w'.cell? (aV Bx 0)=some va:=c.trans x
   obtain ⟨v,hv⟩:∃v,v=a.tmps.getD 25 undef:=⟨_,rfl⟩
   rw[<-hv] at J
   have HP:=yb J
   rw[yB] at hv
   replace hv:=hv.symm
   have Z:Hid (7 < b.size):=yb (by rw[L];show 7 < 8;omega)
   have a8:=yb l6
   obtain ⟨ad,nn,cc,rfl⟩:∃ad n c,v=.slice ad n c:=by
    rcases J.own.2 with ⟨rfl,_⟩|⟨_,_,_,rfl,_⟩
    ·exact ⟨_,_,_,rfl⟩
    ·exact ⟨_,_,_,rfl⟩
   clear x y G E J c N X l6
   obtain rfl:=yi B
   go_simp
   refine ⟨undef,rfl,⟨fun s=>?_,fun _ C=>?_,fun _=>⟨w',_,HP.o,rfl⟩⟩,trivial,trivial⟩
   ·rw[A8 (by decide),a8.o] at s;cases s
   ·simp[Z.o] at C
 ·intro b a w' W hM
  obtain ⟨w1,v,J,rfl⟩:=hM.ext.three (W 7 (show 7 < 8 by omega))
  exact hQ a w1 v (hM.tmps.trans Y) hM.defers (EU (lo:=19) (hi:=25) (by kernel_rfl) hM) J
def UL(va:Value)(b6 ub uo:Nat)(r:Rf)(j:Nat)(v:Value)(_:World):Prop:=match j with
 |0=>v=va
 |1=>v=.pointer (some ⟨b6,0,none⟩)
 |2=>v=.pointer (some ⟨ub,uo,none⟩)
 |3=>v=.pointer (some ⟨ub,uo,none⟩)
 |4=>v=.agg #[.string r.name,.int .i64 r.n]
 |_=>True
theorem Vy{O:Act}{W0:World}{Q:QT}{l n Bx b6 ub uo base:Nat}{va:Value}{ls:List Rf}{r:Rf}(ops:Array Oper)(F:DH Tryz.f17 10=some ops)
 (P:O.tmps.getD 5 undef=.pointer (some ⟨Bx,0,none⟩))(a0:O.tmps.getD 7 undef=.pointer (some ⟨b6,0,none⟩))(Y:O.tmps.size=64)
 (U:Bx < W0.heap.size)(aa:b6 < W0.heap.size)(V:ub < W0.heap.size)(T:∃u,W0.heap[Bx]?=some (.cells #[u] 81 (0,0)))(x:W0.cell? ⟨Bx,0,none⟩=some va)(E:W0.cell? ⟨b6,0,none⟩=some (.pointer (some ⟨ub,uo,none⟩)))
 (y:W0.cell? ⟨ub,uo,none⟩=some (.string r.name))(G:W0.cell? ⟨ub,uo+1,none⟩=some (.int .i64 r.n))(D:Cs base W0 va ls)(R:ls.length+1<=1000000000)(I:base<=W0.heap.size)(ab:Bx < base)
 (hQ:∀(a:Act) w1 v,a.tmps.size=64->a.defers=O.defers->(∀t,(t < 28∨34 < t)->a.tmps.getD t undef=O.tmps.getD t undef)->Tc W0 base va ls r w1 v->Q .normal a (w1.setCell ⟨Bx,0,none⟩ v)):
  (Code.region 10 ops true).wpIn (Fence.wide.inRound l) n Tryz.prog Q O W0:=by
 obtain rfl:=yi ((rfl:DH Tryz.f17 10=some _).symm.trans F)
 clear F
 refine G3 (by kernel_rfl) (Oi W0 base va ls r Bx 33 34) (UL va b6 ub uo r) (fun _ _ _=>True) (by kernel_rfl) (by rw[Y];kernel_rfl) (by kernel_rfl) (by kernel_rfl) (fun _ j v w w' _ _ _ h=>by unfold UL at h ⊢;exact h) ⟨fun _=>⟨(yg _ _).drew,fun h=>(by cases h)⟩,fun h=>(by cases h),fun h=>(by cases h)⟩ ?_ ?_
 ·intro ix b a w' hM f o B
  have z:=yb hM.ext
  have H:=(yd.1 B).1
  have L:=hM.size
  have M:b.getD 6 false=false->b.getD 7 false=false:=fun i=>by
   rw[ym];intro C
   have:=A1 hM.down 8 7 6 (by kernel_rfl) C
   rw[i] at this;cases this
  match ix,H with
  |0,_=>
   have d:=hM.old f 5 (by kernel_rfl) _ P
   have i:b.getD 6 false=false:=by
    rw[ym];intro s
    have:=A1 hM.down 8 6 0 (by kernel_rfl) s
    rw[hM.not_yet f] at this;cases this
   have hb:=(z.o.one i).1
   have q:=yb i
   have m:=yb (M i)
   clear i
   have c:=(hb.cell (p:=(aV Bx 0)) U).trans x
   clear x y G E
   obtain rfl:=yi B
   go_simp
   exact ⟨_,rfl,z.o.quiet q.o m.o (by decide) (by decide) (by decide) (by decide) (yg _ _),trivial,rfl⟩
  |1,_=>
   have d:=hM.old f 7 (by kernel_rfl) _ a0
   have i:b.getD 6 false=false:=by
    rw[ym];intro s
    have:=A1 hM.down 8 6 1 (by kernel_rfl) s
    rw[hM.not_yet f] at this;cases this
   have hb:=(z.o.one i).1
   have q:=yb i
   have m:=yb (M i)
   clear i x y G E
   obtain rfl:=yi B
   go_simp
   exact ⟨_,rfl,z.o.quiet q.o m.o (by decide) (by decide) (by decide) (by decide) (yg _ _),trivial,rfl⟩
  |2,_=>
   have d:a.tmps[29]?.getD undef=pV b6 0:=hM.dep f 1 29 (by kernel_rfl) (by kernel_rfl)
   have i:b.getD 6 false=false:=by
    rw[ym];intro s
    have:=A1 hM.down 8 6 2 (by kernel_rfl) s
    rw[hM.not_yet f] at this;cases this
   have hb:=(z.o.one i).1
   have q:=yb i
   have m:=yb (M i)
   clear i
   have c:=(hb.cell (p:=(aV b6 0)) aa).trans E
   clear x y G E
   obtain rfl:=yi B
   go_simp
   exact ⟨_,rfl,z.o.quiet q.o m.o (by decide) (by decide) (by decide) (by decide) (yg _ _),trivial,rfl⟩
  |3,_=>
   have d:a.tmps[30]?.getD undef=pV ub uo:=hM.dep f 2 30 (by kernel_rfl) (by kernel_rfl)
   have i:b.getD 6 false=false:=by
    rw[ym];intro s
    have:=A1 hM.down 8 6 3 (by kernel_rfl) s
    rw[hM.not_yet f] at this;cases this
   have hb:=(z.o.one i).1
   have q:=yb i
   have m:=yb (M i)
   clear i x y G E
   obtain rfl:=yi B
   go_simp
   exact ⟨_,rfl,z.o.quiet q.o m.o (by decide) (by decide) (by decide) (by decide) (yg _ _),trivial,rfl⟩
  |4,_=>
   have d:a.tmps[31]?.getD undef=pV ub uo:=hM.dep f 3 31 (by kernel_rfl) (by kernel_rfl)
   have i:b.getD 6 false=false:=by
    rw[ym];intro s
    have:=A1 hM.down 8 6 4 (by kernel_rfl) s
    rw[hM.not_yet f] at this;cases this
   have hb:=(z.o.one i).1
   have q:=yb i
   have m:=yb (M i)
   clear i
   have c:=(hb.cell (p:=(aV ub uo)) V).trans y
   have c1:=(hb.cell (p:=(aV ub (uo+1))) V).trans G
   clear x y G E
   obtain rfl:=yi B
   go_simp
   exact ⟨_,rfl,z.o.quiet q.o m.o (by decide) (by decide) (by decide) (by decide) (yg _ _),trivial,rfl⟩
  |5,_=>
   have d:a.tmps[32]?.getD undef=.agg #[.string r.name,iV r.n]:=hM.dep f 4 32 (by kernel_rfl) (by kernel_rfl)
   have i:b.getD 6 false=false:=by
    rw[ym];intro s
    have:=A1 hM.down 8 6 5 (by kernel_rfl) s
    rw[hM.not_yet f] at this;cases this
   have hb:=(z.o.one i).1
   have q:=yb i
   have m:=yb (M i)
   clear i
   have HB:=yb hb
   have Z:Hid (5 < b.size):=yb (by rw[L];show 5 < 8;omega)
   have HT:Hid (33 < a.tmps.size):=yb (by rw[hM.tmps,Y];decide)
   clear x y G E hb
   obtain rfl:=yi B
   go_simp
   refine ⟨_,rfl,⟨fun _=>⟨HB.o.alloc HB.o.size _,fun _=>⟨w'.heap.size,?_,World.alloc_heap_new _ _⟩⟩,fun s=>?_,fun C=>?_⟩,trivial,trivial⟩
   ·show (a.put (some 33) (.slice (some (aV w'.heap.size 0)) 1 1)).tmps.getD 33 undef=_
    exact Au _ HT.o
   ·rw[A8 (by decide),q.o] at s;cases s
   ·rw[A8 (by decide),m.o] at C;cases C
  |6,_=>
   have d:a.tmps[28]?.getD undef=va:=hM.dep f 0 28 (by kernel_rfl) (by kernel_rfl)
   have i:=hM.not_yet f
   have l5:b.getD 5 false=true:=hM.came f 5 (by kernel_rfl)
   obtain ⟨g,S,hg⟩:=(z.o.one i).2 l5
   have hb:=(z.o.one i).1
   have Z:Hid (6 < b.size):=yb (by rw[L];show 6 < 8;omega)
   have HT:Hid (34 < a.tmps.size):=yb (by rw[hM.tmps,Y];decide)
   have m:=yb (M i)
   rw[yB] at S
   refine Eo base (.tmp 28) (.tmp 33) (by obtain rfl:=yi B;rfl) va ls (by simpa[Act.eval] using d) (D.up fun k hk H=>hb.block k H) r g 1 (by simpa[Act.eval] using S) hg R (yt I hb.size) ?_
   intro v' w5 K A a7
   obtain rfl:=yi B
   refine ⟨v',rfl,⟨fun s=>?_,fun _ _=>⟨?_,?_,?_⟩,fun C=>?_⟩,trivial,trivial⟩
   ·simp[Z.o] at s
   ·show Cs base w5 ((a.put (some 34) v').tmps.getD 34 undef) _
    rw[Au _ HT.o];exact K
   ·exact ⟨A.os.trans hb.os,A.tape.trans hb.tape,A.output.trans hb.output,yt hb.size A.size,fun k hk a2=>(A.block k (yu hk hb.size) a2).trans (hb.block k hk)⟩
   ·show ((a.put (some 34) v').tmps.getD 34 undef).ownBlock=_∨∃g,((a.put (some 34) v').tmps.getD 34 undef).ownBlock=some g∧_
    rw[Au _ HT.o]
    exact a7.imp id (fun h=>⟨_,h,hb.size⟩)
   ·rw[A8 (by decide),m.o] at C;cases C
  |7,_=>
   have d:=hM.old f 5 (by kernel_rfl) _ P
   have l6:b.getD 6 false=true:=hM.came f 6 (by kernel_rfl)
   have a6:=hM.not_yet f
   have J:=z.o.two l6 a6
   have N:w'.heap[Bx]?=W0.heap[Bx]?:=J.grown.block Bx U (fun e=>by
    have:=(D.lt Bx e.symm).1;omega)
   obtain ⟨u0,X⟩:=T
   have c:=Ab (o:=0) N
   have fz:w'.frozen? (aV Bx 0)=false:=by unfold World.frozen?;rw[N,X];rfl
   have c2:w'.cell? (aV Bx 0)=some va:=c.trans x
   obtain ⟨v,hv⟩:∃v,v=a.tmps.getD 34 undef:=⟨_,rfl⟩
   rw[<-hv] at J
   have HP:=yb J
   rw[yB] at hv
   replace hv:=hv.symm
   have Z:Hid (7 < b.size):=yb (by rw[L];show 7 < 8;omega)
   have a8:=yb l6
   obtain ⟨ad,nn,cc,rfl⟩:∃ad n c,v=.slice ad n c:=by
    rcases J.own.2 with ⟨rfl,_⟩|⟨_,_,_,rfl,_⟩
    ·exact ⟨_,_,_,rfl⟩
    ·exact ⟨_,_,_,rfl⟩
   clear x y G E J c N X l6
   obtain rfl:=yi B
   go_simp
   refine ⟨undef,rfl,⟨fun s=>?_,fun _ C=>?_,fun _=>⟨w',_,HP.o,rfl⟩⟩,trivial,trivial⟩
   ·rw[A8 (by decide),a8.o] at s;cases s
   ·simp[Z.o] at C
 ·intro b a w' W hM
  obtain ⟨w1,v,J,rfl⟩:=hM.ext.three (W 7 (show 7 < 8 by omega))
  exact hQ a w1 v (hM.tmps.trans Y) hM.defers (EU (lo:=28) (hi:=34) (by kernel_rfl) hM) J
structure LG (W0:World) (base:Nat) (w:World) (va:Value) (la:List Rf) (vb:Value) (lb:List Rf):Prop where
 below:Below base W0 w
 size:base<=w.heap.size
 a:Cs base w va la
 b:Cs base w vb lb
 apart:∀g,va.ownBlock=some g->vb.ownBlock≠some g
 keep:∀(k:Nat) (o:Obj),W0.heap[k]?=some o->(∀c f,o≠Obj.cells c 23 f)->w.heap[k]?=some o
theorem Cs.not{w:World}{base:Nat}{v:Value}{l:List Rf}(h:Cs base w v l){g:Nat}{o:Obj}(a:v.ownBlock=some g)(i:w.heap[g]?=some o)(e:∀c f,o≠Obj.cells c 23 f):False:=by
 rcases h.2 with ⟨rfl,_⟩|⟨k,cap,d,rfl,_,b,_⟩
 ·cases a
 ·cases a
  rw[i] at b
  exact e _ _ (yi b)
theorem LG.up{W0 w w':World}{base:Nat}{va vb:Value}{la lb:List Rf}(h:LG W0 base w va la vb lb)(hb:Below w.heap.size w w'):LG W0 base w' va la vb lb:=
 ⟨h.below.trans (hb.mono h.size),yt h.size hb.size,h.a.up (fun g _ c=>hb.block g c),h.b.up (fun g _ c=>hb.block g c),h.apart,fun k o e d=>by
  have:=h.keep k o e d
  rw[hb.block k (yd.1 this).1];exact this⟩
theorem Cs.lt{w:World}{base:Nat}{v:Value}{l:List Rf}(h:Cs base w v l){g:Nat}(a:v.ownBlock=some g):base<=g∧g < w.heap.size:=World.ownsRow.lt h g a
theorem LG.putA{W0 w w':World}{base:Nat}{va vb c:Value}{la lb i:List Rf}(h:LG W0 base w va la vb lb)(j:Cs base w' c i)(d:w.grownBy w' va.ownBlock)(l:c.ownBlock=va.ownBlock∨c.ownBlock=some w.heap.size):LG W0 base w' c i vb lb:=by
 refine ⟨h.below.trans ⟨d.os,d.tape,d.output,d.size,fun k f=>d.block k (yu f h.size) (fun e=>?_)⟩,yt h.size d.size,j,h.b.up (fun g m f=>d.block g f (fun e=>h.apart g e.symm m)),fun g h1 h2=>?_,fun k o p n=>?_⟩
 ·have:=(h.a.lt e.symm).1;omega
 ·rcases l with l|l
  ·rw[l] at h1;exact h.apart g h1 h2
  ·rw[l] at h1;cases h1
   have:=(h.b.lt h2).2;omega
 ·have h1:=h.keep k o p n
  rw[d.block k (yd.1 h1).1 (fun e=>h.a.not e.symm h1 n)];exact h1
theorem LG.swap{W0 w:World}{base:Nat}{va vb:Value}{la lb:List Rf}(h:LG W0 base w va la vb lb):LG W0 base w vb lb va la:=⟨h.below,h.size,h.b,h.a,fun g h1 h2=>h.apart g h2 h1,h.keep⟩
def Fe(w:World)(va vb v:Value)(r:Rf):Prop:=∃g,v=.slice (some ⟨g,0,none⟩) 1 1∧w.heap[g]?=some (.cells #[.string r.name,.int .i64 r.n] 23 (0,0))∧va.ownBlock≠some g∧vb.ownBlock≠some g
theorem Fe.up{w w':World}{va vb v:Value}{r:Rf}(h:Fe w va vb v r)(hb:Below w.heap.size w w'):Fe w' va vb v r:=by
 obtain ⟨g,h1,h2,h3⟩:=h
 exact ⟨g,h1,(hb.block g (yd.1 h2).1).trans h2,h3⟩
theorem Fe.grown{w w':World}{va vb v a:Value}{r:Rf}(h:Fe w va vb v r)(d:w.grownBy w' va.ownBlock)(c:a.ownBlock=va.ownBlock∨a.ownBlock=some w.heap.size):Fe w' a vb v r:=by
 obtain ⟨g,h1,h2,h3,f⟩:=h
 have b:=(yd.1 h2).1
 refine ⟨g,h1,(d.block g b (fun e=>h3 e.symm)).trans h2,fun e=>?_,f⟩
 rcases c with c|c
 ·exact h3 (c▸e)
 ·rw[c] at e;cases e;exact qu _ b
theorem Ig{W0 w:World}{base:Nat}{va vb:Value}{la lb:List Rf}(h:LG W0 base w va la vb lb)(r:Rf):Fe (w.alloc (.cells #[.string r.name,.int .i64 r.n] 23)) va vb (.slice (some ⟨w.heap.size,0,none⟩) 1 1) r:=
 ⟨w.heap.size,rfl,World.alloc_heap_new _ _,fun e=>by have:=(h.a.lt e).2;omega,fun e=>by have:=(h.b.lt e).2;omega⟩
structure J8 (W0:World) (base B4 B5:Nat) (va:Value) (la:List Rf) (vb:Value) (lb:List Rf) (r1 r2:Rf) (l:Array Bool) (tm:Array Value) (w:World):Prop where
 p00:l.getD 8 false=false->LG W0 base w va la vb lb∧(l.getD 7 false=true->Fe w va vb (tm.getD 48 undef) r1)∧(l.getD 16 false=true->Fe w va vb (tm.getD 57 undef) r2)
 p10:l.getD 8 false=true->l.getD 17 false=false->LG W0 base w (tm.getD 49 undef) (la++[r1]) vb lb∧(l.getD 16 false=true->Fe w (tm.getD 49 undef) vb (tm.getD 57 undef) r2)
 p11:l.getD 17 false=true->l.getD 18 false=false->LG W0 base w (tm.getD 49 undef) (la++[r1]) (tm.getD 58 undef) (lb++[r2])
 p18:l.getD 18 false=true->l.getD 19 false=false->∃w1,LG W0 base w1 (tm.getD 49 undef) (la++[r1]) (tm.getD 58 undef) (lb++[r2])∧w=w1.setCell ⟨B4,0,none⟩ (tm.getD 49 undef)
 p19:l.getD 19 false=true->∃w1 v1 v2,LG W0 base w1 v1 (la++[r1]) v2 (lb++[r2])∧w=(w1.setCell ⟨B4,0,none⟩ v1).setCell ⟨B5,0,none⟩ v2
theorem J8.quiet{W0:World}{base B4 B5:Nat}{va vb:Value}{la lb:List Rf}{r1 r2:Rf}{l:Array Bool}{tm:Array Value}{w:World}{i t:Nat}{v:Value}(h:J8 W0 base B4 B5 va la vb lb r1 r2 l tm w)(b:l.getD 17 false=false)(k:l.getD 18 false=false)(j:l.getD 19 false=false)
 (hi:i≠7∧i≠8∧i≠16∧i≠17∧i≠18∧i≠19)(s:t≠48∧t≠49∧t≠57):J8 W0 base B4 B5 va la vb lb r1 r2 (l.setIfInBounds i true) (tm.setIfInBounds t v) w:=by
 obtain ⟨u,q,c,e,o,g⟩:=hi
 obtain ⟨p,m,d⟩:=s
 refine ⟨fun a=>?_,fun a _=>?_,fun h=>?_,fun h=>?_,fun h=>?_⟩
 ·rw[A8 q] at a
  obtain ⟨n,r,f⟩:=h.p00 a
  rw[A8 u,A8 c,Bl p,Bl d]
  exact ⟨n,r,f⟩
 ·rw[A8 q] at a
  obtain ⟨n,f⟩:=h.p10 a b
  rw[A8 c,Bl m,Bl d]
  exact ⟨n,f⟩
 ·rw[A8 e,b] at h;cases h
 ·rw[A8 o,k] at h;cases h
 ·rw[A8 g,j] at h;cases h
theorem J8.below{W0:World}{base B4 B5:Nat}{va vb:Value}{la lb:List Rf}{r1 r2:Rf}{l:Array Bool}{tm:Array Value}{w:World}(h:J8 W0 base B4 B5 va la vb lb r1 r2 l tm w)(a:l.getD 17 false=false):Below base W0 w∧base<=w.heap.size:=by
 cases b:l.getD 8 false with
 |false=>exact ⟨(h.p00 b).1.below,(h.p00 b).1.size⟩
 |true=>exact ⟨(h.p10 b a).1.below,(h.p10 b a).1.size⟩
def Vz(va vb:Value)(B B3 b1 o1 n1 c1 b2 o2 n2 c2 i:Nat)(r1 r2:Rf)(j:Nat)(v:Value)(_:World):Prop:=match j with
 |0=>v=va
 |1=>v=.pointer (some ⟨B,21,none⟩)
 |2=>v=.slice (some ⟨b1,o1,none⟩) n1 c1
 |3=>v=.int .i64 i
 |4=>v=.pointer (some ⟨b1,o1+i*51,none⟩)
 |5=>v=.pointer (some ⟨b1,o1+i*51+1,none⟩)
 |6=>v=.agg #[.string r1.name,.int .i64 r1.n]
 |9=>v=vb
 |10=>v=.pointer (some ⟨B3,21,none⟩)
 |11=>v=.slice (some ⟨b2,o2,none⟩) n2 c2
 |12=>v=.int .i64 i
 |13=>v=.pointer (some ⟨b2,o2+i*51,none⟩)
 |14=>v=.pointer (some ⟨b2,o2+i*51+1,none⟩)
 |15=>v=.agg #[.string r2.name,.int .i64 r2.n]
 |_=>True
theorem VA{a₀:Act}{W0:World}{Q:QT}{base B B3 B4 B5 b1 o1 n1 c1 b2 o2 n2 c2 i:Nat}{va vb:Value}{la lb:List Rf}{r1 r2:Rf}(ops:Array Oper)(a6:DH Tryz.f17 14=some ops)
 (b5:a₀.tmps.getD 1 undef=.pointer (some ⟨B,0,none⟩))(ap:a₀.tmps.getD 3 undef=.pointer (some ⟨B3,0,none⟩))(ae:a₀.tmps.getD 4 undef=.pointer (some ⟨B4,0,none⟩))(aj:a₀.tmps.getD 5 undef=.pointer (some ⟨B5,0,none⟩))(am:a₀.tmps.getD 8 undef=.int .i64 i)(hz:a₀.tmps.size=64)
 (hB:B < base)(b0:B3 < base)(ah:B4 < base)(ak:B5 < base)(ab:b1 < base)(al:b2 < base)(av:B4≠B5)(J:i < n1)(K:i < n2)
 (af:∃u,W0.heap[B4]?=some (.cells #[u] 81 (0,0)))(ai:∃u,W0.heap[B5]?=some (.cells #[u] 81 (0,0)))(D:W0.cell? ⟨B4,0,none⟩=some va)(z:W0.cell? ⟨B5,0,none⟩=some vb)
 (E:W0.cell? ⟨B,21,none⟩=some (.slice (some ⟨b1,o1,none⟩) n1 c1))(C:W0.cell? ⟨B3,21,none⟩=some (.slice (some ⟨b2,o2,none⟩) n2 c2))
 (G:W0.cell? ⟨b1,o1+i*51+1,none⟩=some (.string r1.name))(A:W0.cell? ⟨b1,o1+i*51+1+1,none⟩=some (.int .i64 r1.n))(y:W0.cell? ⟨b2,o2+i*51+1,none⟩=some (.string r2.name))(F:W0.cell? ⟨b2,o2+i*51+1+1,none⟩=some (.int .i64 r2.n))
 (h2:LG W0 base W0 va la vb lb)(ar:la.length+1<=1000000000)(ay:lb.length+1<=1000000000)
 (hQ:∀(a:Act) w1 v1 v2,a.tmps.size=64->a.defers=a₀.defers->(∀t,(t < 41∨58 < t)->a.tmps.getD t undef=a₀.tmps.getD t undef)->LG W0 base w1 v1 (la++[r1]) v2 (lb++[r2])->Q .normal a ((w1.setCell ⟨B4,0,none⟩ v1).setCell ⟨B5,0,none⟩ v2)):
  (Code.region 14 ops true).wp Tryz.prog Q a₀ W0:=by
 obtain rfl:=yi ((rfl:DH Tryz.f17 14=some _).symm.trans a6)
 clear a6
 refine BN (by kernel_rfl) (J8 W0 base B4 B5 va la vb lb r1 r2) (Vz va vb B B3 b1 o1 n1 c1 b2 o2 n2 c2 i r1 r2) (fun _ _ _=>True) (by kernel_rfl) (by rw[hz];kernel_rfl) (by kernel_rfl) (fun _ j v w w' _ _ _ h=>by unfold Vz at h ⊢;exact h) ⟨fun _=>⟨h2.up (yg _ _).drew,fun h=>(by cases h),fun h=>(by cases h)⟩,fun h=>(by cases h),fun h=>(by cases h),fun h=>(by cases h),fun h=>(by cases h)⟩ ?_ ?_
 ·clear h2
  intro ix f a w' hM x o L
  have H:=yb hM.ext
  have au:=(yd.1 L).1
  have a0:=hM.size
  have nn:f.getD 17 false=false->f.getD 18 false=false∧f.getD 19 false=false:=fun n=>by
   constructor
   ·rw[ym];intro h7
    have:=A1 hM.down 20 18 17 (by kernel_rfl) h7
    rw[n] at this;cases this
   ·rw[ym];intro h7
    have:=A1 hM.down 20 19 17 (by kernel_rfl) h7
    rw[n] at this;cases this
  match ix,au with
  |0,_=>
   have d:=hM.old x 4 (by kernel_rfl) _ ae
   have k:f.getD 17 false=false:=by
    rw[ym];intro I
    have:=A1 hM.down 20 17 0 (by kernel_rfl) I
    rw[hM.not_yet x] at this;cases this
   obtain ⟨q,l⟩:=nn k
   have hb:=(H.o.below k).1
   have r:=yb k;have s:=yb q;have m:=yb l
   clear k q l
   have c:=(hb.cell (p:=(aV B4 0)) ah).trans D
   clear D z E C G y A F J K nn hb
   obtain rfl:=yi L
   go_simp
   exact ⟨_,rfl,H.o.quiet r.o s.o m.o (by decide) (by decide),trivial,rfl⟩
  |1,_=>
   have d:=hM.old x 1 (by kernel_rfl) _ b5
   have k:f.getD 17 false=false:=by
    rw[ym];intro I
    have:=A1 hM.down 20 17 1 (by kernel_rfl) I
    rw[hM.not_yet x] at this;cases this
   obtain ⟨q,l⟩:=nn k
   have hb:=(H.o.below k).1
   have r:=yb k;have s:=yb q;have m:=yb l
   clear k q l D z E C G y A F J K nn hb
   obtain rfl:=yi L
   go_simp
   exact ⟨_,rfl,H.o.quiet r.o s.o m.o (by decide) (by decide),trivial,rfl⟩
  |2,_=>
   have d:a.tmps[42]?.getD undef=pV B 21:=hM.dep x 1 42 (by kernel_rfl) (by kernel_rfl)
   have k:f.getD 17 false=false:=by
    rw[ym];intro I
    have:=A1 hM.down 20 17 2 (by kernel_rfl) I
    rw[hM.not_yet x] at this;cases this
   obtain ⟨q,l⟩:=nn k
   have hb:=(H.o.below k).1
   have r:=yb k;have s:=yb q;have m:=yb l
   clear k q l
   have c:=(hb.cell (p:=(aV B 21)) hB).trans E
   clear D z E C G y A F J K nn hb
   obtain rfl:=yi L
   go_simp
   exact ⟨_,rfl,H.o.quiet r.o s.o m.o (by decide) (by decide),trivial,rfl⟩
  |3,_=>
   have d:=hM.old x 8 (by kernel_rfl) _ am
   have k:f.getD 17 false=false:=by
    rw[ym];intro I
    have:=A1 hM.down 20 17 3 (by kernel_rfl) I
    rw[hM.not_yet x] at this;cases this
   obtain ⟨q,l⟩:=nn k
   have hb:=(H.o.below k).1
   have r:=yb k;have s:=yb q;have m:=yb l
   clear k q l D z E C G y A F J K nn hb
   obtain rfl:=yi L
   go_simp
   exact ⟨_,rfl,H.o.quiet r.o s.o m.o (by decide) (by decide),trivial,rfl⟩
  |4,_=>
   have d1:a.tmps[43]?.getD undef=.slice (some (aV b1 o1)) n1 c1:=hM.dep x 2 43 (by kernel_rfl) (by kernel_rfl)
   have d2:a.tmps[44]?.getD undef=iV i:=hM.dep x 3 44 (by kernel_rfl) (by kernel_rfl)
   have aq:(i:Int) < (n1:Int):=by omega
   have k:f.getD 17 false=false:=by
    rw[ym];intro I
    have:=A1 hM.down 20 17 4 (by kernel_rfl) I
    rw[hM.not_yet x] at this;cases this
   obtain ⟨q,l⟩:=nn k
   have hb:=(H.o.below k).1
   have r:=yb k;have s:=yb q;have m:=yb l
   clear k q l D z E C G y A F J K nn hb
   obtain rfl:=yi L
   go_simp
   exact ⟨_,rfl,H.o.quiet r.o s.o m.o (by decide) (by decide),trivial,rfl⟩
  |5,_=>
   have d:a.tmps[45]?.getD undef=pV b1 (o1+i*51):=hM.dep x 4 45 (by kernel_rfl) (by kernel_rfl)
   have k:f.getD 17 false=false:=by
    rw[ym];intro I
    have:=A1 hM.down 20 17 5 (by kernel_rfl) I
    rw[hM.not_yet x] at this;cases this
   obtain ⟨q,l⟩:=nn k
   have hb:=(H.o.below k).1
   have r:=yb k;have s:=yb q;have m:=yb l
   clear k q l D z E C G y A F J K nn hb
   obtain rfl:=yi L
   go_simp
   exact ⟨_,rfl,H.o.quiet r.o s.o m.o (by decide) (by decide),trivial,rfl⟩
  |6,_=>
   have d:a.tmps[46]?.getD undef=pV b1 (o1+i*51+1):=hM.dep x 5 46 (by kernel_rfl) (by kernel_rfl)
   have k:f.getD 17 false=false:=by
    rw[ym];intro I
    have:=A1 hM.down 20 17 6 (by kernel_rfl) I
    rw[hM.not_yet x] at this;cases this
   obtain ⟨q,l⟩:=nn k
   have hb:=(H.o.below k).1
   have r:=yb k;have s:=yb q;have m:=yb l
   clear k q l
   have c:=(hb.cell (p:=(aV b1 (o1+i*51+1))) ab).trans G
   have c1:=(hb.cell (p:=(aV b1 (o1+i*51+1+1))) ab).trans A
   clear D z E C G y A F J K nn hb
   obtain rfl:=yi L
   go_simp
   exact ⟨_,rfl,H.o.quiet r.o s.o m.o (by decide) (by decide),trivial,rfl⟩
  |7,_=>
   have d:a.tmps[47]?.getD undef=.agg #[.string r1.name,iV r1.n]:=hM.dep x 6 47 (by kernel_rfl) (by kernel_rfl)
   have k:f.getD 17 false=false:=by
    rw[ym];intro I
    have:=A1 hM.down 20 17 7 (by kernel_rfl) I
    rw[hM.not_yet x] at this;cases this
   obtain ⟨q,l⟩:=nn k
   have hb:=(H.o.below k).1
   have r:=yb k;have s:=yb q;have m:=yb l
   clear k q l
   have n8:f.getD 8 false=false:=by
    rw[ym];intro I
    have:=A1 hM.down 20 8 7 (by kernel_rfl) I
    rw[hM.not_yet x] at this;cases this
   have ax:=yb n8
   have V:=yb (H.o.p00 n8)
   have HT:Hid (48 < a.tmps.size):=yb (by rw[hM.tmps,hz];decide)
   clear n8 D z E C G y A F J K nn hb
   obtain rfl:=yi L
   go_simp
   have U:Below w'.heap.size w' (w'.alloc (.cells #[.string r1.name,iV r1.n] 23)):=(yg _ _).alloc (yf _) _
   refine ⟨_,rfl,⟨fun _=>⟨V.o.1.up U,fun _=>?_,fun W=>?_⟩,fun M=>?_,fun h=>?_,fun h=>?_,fun h=>?_⟩,trivial,trivial⟩
   ·rw[Au _ HT.o];exact Ig V.o.1 r1
   ·rw[A8 (by decide)] at W
    rw[Cf _ (by decide)]
    exact (V.o.2.2 W).up U
   ·rw[A8 (by decide),ax.o] at M;cases M
   ·rw[A8 (by decide),r.o] at h;cases h
   ·rw[A8 (by decide),s.o] at h;cases h
   ·rw[A8 (by decide),m.o] at h;cases h
  |8,_=>
   have d:a.tmps[41]?.getD undef=va:=hM.dep x 0 41 (by kernel_rfl) (by kernel_rfl)
   have k:f.getD 17 false=false:=by
    rw[ym];intro I
    have:=A1 hM.down 20 17 8 (by kernel_rfl) I
    rw[hM.not_yet x] at this;cases this
   obtain ⟨q,l⟩:=nn k
   have hb:=(H.o.below k).1
   have r:=yb k;have s:=yb q;have m:=yb l
   clear k q l
   have n8:=hM.not_yet x
   have l7:f.getD 7 false=true:=hM.came x 7 (by kernel_rfl)
   obtain ⟨T,k2,k3⟩:=H.o.p00 n8
   obtain ⟨g,ac,hg,_,_⟩:=k2 l7
   have HL:Hid (8 < f.size):=yb (by rw[a0];show 8 < 20;omega)
   have HT:Hid (49 < a.tmps.size):=yb (by rw[hM.tmps,hz];decide)
   rw[yB] at ac
   refine Eo base (.tmp 41) (.tmp 48) (by obtain rfl:=yi L;rfl) va la (by simpa[Act.eval] using d) T.a r1 g 1 (by simpa[Act.eval] using ac) hg ar T.size ?_
   intro v' w5 P Z a2
   obtain rfl:=yi L
   refine ⟨v',rfl,⟨fun M=>?_,fun _ _=>⟨?_,fun W=>?_⟩,fun h=>?_,fun h=>?_,fun h=>?_⟩,trivial,trivial⟩
   ·simp[HL.o] at M
   ·show LG W0 base w5 ((a.put (some 49) v').tmps.getD 49 undef) _ vb lb
    rw[Au _ HT.o];exact T.putA P Z a2
   ·rw[A8 (by decide)] at W
    show Fe w5 ((a.put (some 49) v').tmps.getD 49 undef) vb ((a.put (some 49) v').tmps.getD 57 undef) r2
    rw[Au _ HT.o,Cf _ (by decide)]
    exact (k3 W).grown Z a2
   ·rw[A8 (by decide),r.o] at h;cases h
   ·rw[A8 (by decide),s.o] at h;cases h
   ·rw[A8 (by decide),m.o] at h;cases h
  |9,_=>
   have d:=hM.old x 5 (by kernel_rfl) _ aj
   have k:f.getD 17 false=false:=by
    rw[ym];intro I
    have:=A1 hM.down 20 17 9 (by kernel_rfl) I
    rw[hM.not_yet x] at this;cases this
   obtain ⟨q,l⟩:=nn k
   have hb:=(H.o.below k).1
   have r:=yb k;have s:=yb q;have m:=yb l
   clear k q l
   have c:=(hb.cell (p:=(aV B5 0)) ak).trans z
   clear D z E C G y A F J K nn hb
   obtain rfl:=yi L
   go_simp
   exact ⟨_,rfl,H.o.quiet r.o s.o m.o (by decide) (by decide),trivial,rfl⟩
  |10,_=>
   have d:=hM.old x 3 (by kernel_rfl) _ ap
   have k:f.getD 17 false=false:=by
    rw[ym];intro I
    have:=A1 hM.down 20 17 10 (by kernel_rfl) I
    rw[hM.not_yet x] at this;cases this
   obtain ⟨q,l⟩:=nn k
   have hb:=(H.o.below k).1
   have r:=yb k;have s:=yb q;have m:=yb l
   clear k q l D z E C G y A F J K nn hb
   obtain rfl:=yi L
   go_simp
   exact ⟨_,rfl,H.o.quiet r.o s.o m.o (by decide) (by decide),trivial,rfl⟩
  |11,_=>
   have d:a.tmps[51]?.getD undef=pV B3 21:=hM.dep x 10 51 (by kernel_rfl) (by kernel_rfl)
   have k:f.getD 17 false=false:=by
    rw[ym];intro I
    have:=A1 hM.down 20 17 11 (by kernel_rfl) I
    rw[hM.not_yet x] at this;cases this
   obtain ⟨q,l⟩:=nn k
   have hb:=(H.o.below k).1
   have r:=yb k;have s:=yb q;have m:=yb l
   clear k q l
   have c:=(hb.cell (p:=(aV B3 21)) b0).trans C
   clear D z E C G y A F J K nn hb
   obtain rfl:=yi L
   go_simp
   exact ⟨_,rfl,H.o.quiet r.o s.o m.o (by decide) (by decide),trivial,rfl⟩
  |12,_=>
   have d:=hM.old x 8 (by kernel_rfl) _ am
   have k:f.getD 17 false=false:=by
    rw[ym];intro I
    have:=A1 hM.down 20 17 12 (by kernel_rfl) I
    rw[hM.not_yet x] at this;cases this
   obtain ⟨q,l⟩:=nn k
   have hb:=(H.o.below k).1
   have r:=yb k;have s:=yb q;have m:=yb l
   clear k q l D z E C G y A F J K nn hb
   obtain rfl:=yi L
   go_simp
   exact ⟨_,rfl,H.o.quiet r.o s.o m.o (by decide) (by decide),trivial,rfl⟩
  |13,_=>
   have d1:a.tmps[52]?.getD undef=.slice (some (aV b2 o2)) n2 c2:=hM.dep x 11 52 (by kernel_rfl) (by kernel_rfl)
   have d2:a.tmps[53]?.getD undef=iV i:=hM.dep x 12 53 (by kernel_rfl) (by kernel_rfl)
   have aq:(i:Int) < (n2:Int):=by omega
   have k:f.getD 17 false=false:=by
    rw[ym];intro I
    have:=A1 hM.down 20 17 13 (by kernel_rfl) I
    rw[hM.not_yet x] at this;cases this
   obtain ⟨q,l⟩:=nn k
   have hb:=(H.o.below k).1
   have r:=yb k;have s:=yb q;have m:=yb l
   clear k q l D z E C G y A F J K nn hb
   obtain rfl:=yi L
   go_simp
   exact ⟨_,rfl,H.o.quiet r.o s.o m.o (by decide) (by decide),trivial,rfl⟩
  |14,_=>
   have d:a.tmps[54]?.getD undef=pV b2 (o2+i*51):=hM.dep x 13 54 (by kernel_rfl) (by kernel_rfl)
   have k:f.getD 17 false=false:=by
    rw[ym];intro I
    have:=A1 hM.down 20 17 14 (by kernel_rfl) I
    rw[hM.not_yet x] at this;cases this
   obtain ⟨q,l⟩:=nn k
   have hb:=(H.o.below k).1
   have r:=yb k;have s:=yb q;have m:=yb l
   clear k q l D z E C G y A F J K nn hb
   obtain rfl:=yi L
   go_simp
   exact ⟨_,rfl,H.o.quiet r.o s.o m.o (by decide) (by decide),trivial,rfl⟩
  |15,_=>
   have d:a.tmps[55]?.getD undef=pV b2 (o2+i*51+1):=hM.dep x 14 55 (by kernel_rfl) (by kernel_rfl)
   have k:f.getD 17 false=false:=by
    rw[ym];intro I
    have:=A1 hM.down 20 17 15 (by kernel_rfl) I
    rw[hM.not_yet x] at this;cases this
   obtain ⟨q,l⟩:=nn k
   have hb:=(H.o.below k).1
   have r:=yb k;have s:=yb q;have m:=yb l
   clear k q l
   have c:=(hb.cell (p:=(aV b2 (o2+i*51+1))) al).trans y
   have c1:=(hb.cell (p:=(aV b2 (o2+i*51+1+1))) al).trans F
   clear D z E C G y A F J K nn hb
   obtain rfl:=yi L
   go_simp
   exact ⟨_,rfl,H.o.quiet r.o s.o m.o (by decide) (by decide),trivial,rfl⟩
  |16,_=>
   have d:a.tmps[56]?.getD undef=.agg #[.string r2.name,iV r2.n]:=hM.dep x 15 56 (by kernel_rfl) (by kernel_rfl)
   have k:f.getD 17 false=false:=by
    rw[ym];intro I
    have:=A1 hM.down 20 17 16 (by kernel_rfl) I
    rw[hM.not_yet x] at this;cases this
   obtain ⟨q,l⟩:=nn k
   have hb:=(H.o.below k).1
   have r:=yb k;have s:=yb q;have m:=yb l
   clear k q l
   have HT:Hid (57 < a.tmps.size):=yb (by rw[hM.tmps,hz];decide)
   clear D z E C G y A F J K nn hb
   obtain rfl:=yi L
   go_simp
   have U:Below w'.heap.size w' (w'.alloc (.cells #[.string r2.name,iV r2.n] 23)):=(yg _ _).alloc (yf _) _
   refine ⟨_,rfl,⟨fun M=>?_,fun M _=>?_,fun h=>?_,fun h=>?_,fun h=>?_⟩,trivial,trivial⟩
   ·rw[A8 (by decide)] at M
    obtain ⟨T,k2,k3⟩:=H.o.p00 M
    refine ⟨T.up U,fun h7=>?_,fun _=>?_⟩
    ·rw[A8 (by decide)] at h7
     rw[Cf _ (by decide)]
     exact (k2 h7).up U
    ·rw[Au _ HT.o];exact Ig T r2
   ·rw[A8 (by decide)] at M
    obtain ⟨T,k3⟩:=H.o.p10 M r.o
    rw[Cf _ (by decide),Au _ HT.o]
    exact ⟨T.up U,fun _=>Ig T r2⟩
   ·rw[A8 (by decide),r.o] at h;cases h
   ·rw[A8 (by decide),s.o] at h;cases h
   ·rw[A8 (by decide),m.o] at h;cases h
  |17,_=>
   have d:a.tmps[50]?.getD undef=vb:=hM.dep x 9 50 (by kernel_rfl) (by kernel_rfl)
   have k:=hM.not_yet x
   obtain ⟨q,l⟩:=nn k
   have l8:f.getD 8 false=true:=hM.came x 8 (by kernel_rfl)
   have aw:f.getD 16 false=true:=hM.came x 16 (by kernel_rfl)
   obtain ⟨T,k3⟩:=H.o.p10 l8 k
   obtain ⟨g,ag,hg,_,_⟩:=k3 aw
   have HL:Hid (17 < f.size):=yb (by rw[a0];show 17 < 20;omega)
   have HT:Hid (58 < a.tmps.size):=yb (by rw[hM.tmps,hz];decide)
   rw[yB] at ag
   refine Eo base (.tmp 50) (.tmp 57) (by obtain rfl:=yi L;rfl) vb lb (by simpa[Act.eval] using d) T.b r2 g 1 (by simpa[Act.eval] using ag) hg ay T.size ?_
   intro v' w5 P Z a2
   obtain rfl:=yi L
   refine ⟨v',rfl,⟨fun M=>?_,fun _ O=>?_,fun _ _=>?_,fun h=>?_,fun h=>?_⟩,trivial,trivial⟩
   ·rw[A8 (by decide),l8] at M;cases M
   ·simp[HL.o] at O
   ·show LG W0 base w5 ((a.put (some 58) v').tmps.getD 49 undef) _ ((a.put (some 58) v').tmps.getD 58 undef) _
    rw[Au _ HT.o,Cf _ (by decide)]
    exact (T.swap.putA P Z a2).swap
   ·rw[A8 (by decide),q] at h;cases h
   ·rw[A8 (by decide),l] at h;cases h
  |18,_=>
   have d:=hM.old x 4 (by kernel_rfl) _ ae
   have N:f.getD 17 false=true:=hM.came x 17 (by kernel_rfl)
   have nk:=hM.not_yet x
   have l:f.getD 19 false=false:=by
    rw[ym];intro I
    have:=A1 hM.down 20 19 18 (by kernel_rfl) I
    rw[nk] at this;cases this
   have V:=yb (H.o.p11 N nk)
   have m:=yb l;have X:=yb N
   have hv:∃ad n c,a.tmps[49]?.getD undef=.slice ad n c:=by
    rw[<-yB]
    rcases V.o.a.2 with ⟨e,_⟩|⟨_,_,_,e,_⟩
    ·exact ⟨_,_,_,e⟩
    ·exact ⟨_,_,_,e⟩
   have S:w'.heap[B4]?=W0.heap[B4]?:=V.o.below.block B4 ah
   have l8:f.getD 8 false=true:=A1 hM.down 20 17 8 (by kernel_rfl) N
   have aa:=yb l8
   obtain ⟨ad,nv,cv,dv⟩:=hv
   have HV:=yb dv
   obtain ⟨u0,R⟩:=af
   have fz:w'.frozen? (aV B4 0)=false:=by unfold World.frozen?;rw[S,R];rfl
   have c2:w'.cell? (aV B4 0)=some u0:=by simp[World.cell?,S,R]
   have HL:Hid (18 < f.size):=yb (by rw[a0];show 18 < 20;omega)
   clear D z E C G y A F J K nn S R l8 N
   obtain rfl:=yi L
   go_simp
   refine ⟨undef,rfl,⟨fun M=>?_,fun _ O=>?_,fun _ Y=>?_,fun _ _=>⟨w',V.o,?_⟩,fun h=>?_⟩,trivial,trivial⟩
   ·rw[A8 (by decide),aa.o] at M;cases M
   ·rw[A8 (by decide),X.o] at O;cases O
   ·simp[HL.o] at Y
   ·rw[yB];show w'.setCell _ _=w'.setCell _ (a.tmps[49]?.getD undef);rw[HV.o]
   ·rw[A8 (by decide),m.o] at h;cases h
  |19,_=>
   have d:=hM.old x 5 (by kernel_rfl) _ aj
   have a8:f.getD 18 false=true:=hM.came x 18 (by kernel_rfl)
   have N:f.getD 17 false=true:=A1 hM.down 20 18 17 (by kernel_rfl) a8
   have nk:=hM.not_yet x
   obtain ⟨w1,hp,a7⟩:=H.o.p18 a8 nk
   have V:=yb hp;have az:=yb a7;have X:=yb N;have ao:=yb a8
   have hv:∃ad n c,a.tmps[58]?.getD undef=.slice ad n c:=by
    rw[<-yB]
    rcases V.o.b.2 with ⟨e,_⟩|⟨_,_,_,e,_⟩
    ·exact ⟨_,_,_,e⟩
    ·exact ⟨_,_,_,e⟩
   have S:w'.heap[B5]?=W0.heap[B5]?:=by
    rw[a7,zh _ _ _ _ (fun e=>av e.symm)];exact V.o.below.block B5 ak
   clear a7 hp
   have l8:f.getD 8 false=true:=A1 hM.down 20 17 8 (by kernel_rfl) N
   have aa:=yb l8
   obtain ⟨ad,nv,cv,dv⟩:=hv
   have HV:=yb dv
   obtain ⟨u0,R⟩:=ai
   have fz:w'.frozen? (aV B5 0)=false:=by unfold World.frozen?;rw[S,R];rfl
   have c2:w'.cell? (aV B5 0)=some u0:=by simp[World.cell?,S,R]
   have HL:Hid (19 < f.size):=yb (by rw[a0];show 19 < 20;omega)
   clear D z E C G y A F J K nn S R l8 N
   obtain rfl:=yi L
   go_simp
   refine ⟨undef,rfl,⟨fun M=>?_,fun _ O=>?_,fun _ Y=>?_,fun _ b4=>?_,fun _=>⟨w1,_,_,V.o,?_⟩⟩,trivial,trivial⟩
   ·rw[A8 (by decide),aa.o] at M;cases M
   ·rw[A8 (by decide),X.o] at O;cases O
   ·rw[A8 (by decide),ao.o] at Y;cases Y
   ·simp[HL.o] at b4
   ·rw[<-az.o,yB];show w'.setCell _ _=w'.setCell _ (a.tmps[58]?.getD undef);rw[HV.o]
 ·intro f a w' an hM
  obtain ⟨w1,v1,v2,hp,rfl⟩:=hM.ext.p19 (an 19 (show 19 < 20 by omega))
  exact hQ a w1 v1 v2 (hM.tmps.trans hz) hM.defers (EU (lo:=41) (hi:=58) (by kernel_rfl) hM) hp
def Td(w:World)(h:As)(l:List Rf):Prop:=h.n=l.length∧l.length<=140737488355328∧∀i (hi:i < l.length),∃b o,h.a=some ⟨b,o,none⟩∧b < w.heap.size∧w.cell? ⟨b,o+i*2,none⟩=some (.string l[i].name)∧w.cell? ⟨b,o+i*2+1,none⟩=some (.int .i64 l[i].n)
theorem PG{a b:ByteArray}(h:a.toList=b.toList):a=b:=by
 rw[xp,xp] at h
 cases a;cases b;simpa using h
theorem KU{w:World}{h1 h2:As}{b a:List Rf}(r1:Td w h1 b)(r2:Td w h2 a):
  Calls Tryz.prog 34 #[h1.v,h2.v] w fun e w'=>e=.returned (.bool (decide (b=a)))∧Below w.heap.size w w':=by
 obtain ⟨a1,n1,c1⟩:=h1
 obtain ⟨T,n2,c2⟩:=h2
 have R1:=yb r1.2.2;have R2:=yb r2.2.2
 have q:=yb r1.1;have r:=yb r2.1
 have H:n1<=140737488355328:=by have:=r1.1;have:=r1.2.1;simp only at*;omega
 have t:n2<=140737488355328:=by have:=r2.1;have:=r2.2.1;simp only at*;omega
 unfold As.v
 simp only at R1 R2 q r ⊢
 clear r1 r2
 by_cases K:n1=n2
 ·subst K
  have x:((n1:Int) !=(n1:Int))=false:=by simp
  go_enter Tryz.func34,Tryz.ntmps34
  go_wp2
  have z:=yb (yg w.heap.size w)
  go_loopw [13] (fun E wr=>∃i:Nat,i<=n1∧E=iV i∧Hid (b.take i=a.take i)∧Hid (Below w.heap.size w wr)) (fun E _=>n1 - (intOf E).toNat)
  case atStart=>exact ⟨0,yH _,rfl,yb (by simp),z⟩
  case round=>
   obtain ⟨i,hi,rfl,L,c⟩:=hrel
   by_cases n:i < n1
   ·have u:(i:Int) < (n1:Int):=by omega
    have d:i < b.length:=by rw[<-q.o];exact n
    have j:i < a.length:=by rw[<-r.o];exact n
    obtain ⟨b1,o1,rfl,f,y,s⟩:=R1.o i d
    obtain ⟨b2,o2,rfl,g,C,A⟩:=R2.o i j
    have m:Hid (b[i]=a[i]->b.take (i+1)=a.take (i+1)):=yb (fun e=>by
     rw[yG d,yG j,L.o,e])
    have l:Hid (b[i]≠a[i]->decide (b=a)=false):=yb (fun e=>xk (fun h=>e (by subst h;rfl)))
    generalize b[i]=S at y s m l
    generalize a[i]=R at C A m l
    obtain ⟨m1,I⟩:=S
    obtain ⟨D,G⟩:=R
    have Q:wr.cell? (aV b1 (o1+i*2))=some (.string m1):=(c.o.cell (p:=(aV b1 _)) f).trans y
    have O:wr.cell? (aV b1 (o1+i*2+1))=some (iV I):=(c.o.cell (p:=(aV b1 _)) f).trans s
    have P:wr.cell? (aV b2 (o2+i*2))=some (.string D):=(c.o.cell (p:=(aV b2 _)) g).trans C
    have N:wr.cell? (aV b2 (o2+i*2+1))=some (iV G):=(c.o.cell (p:=(aV b2 _)) g).trans A
    clear y s C A d j f g
    by_cases B:m1.toList=D.toList
    ·obtain rfl:m1=D:=PG B
     clear B
     by_cases J:I=G
     ·subst J
      have F:=yb (m.o rfl)
      clear m l
      go_wp2_with fail
      go_region
      go_wp2
      exact ⟨⟨i+1,by omega,by push_cast;rfl,F,yb c.o.drew⟩,by simp[intOf];omega⟩
     ·have k:=yb (l.o (fun h=>J (Rf.mk.inj h).2))
      clear m l
      go_wp2_with fail
      go_region
      go_wp2
      go_ret
      exact ⟨by rw[k.o];rfl,c.o.drew⟩
    ·have k:=yb (l.o (fun h=>B (by rw[(Rf.mk.inj h).1])))
     clear m l
     go_wp2_with fail
     go_region
     go_wp2
     go_ret
     exact ⟨by rw[k.o];rfl,c.o.drew⟩
   ·obtain rfl:i=n1:=by omega
    have u:decide ((i:Int) < (i:Int))=false:=by simp
    go_wp2
    go_ret
    have M:b=a:=by
     have h1:=L.o
     rw[q.o,yQ,<-q.o,r.o,yQ] at h1
     exact h1
    exact ⟨by rw[xf M];rfl,c.o⟩
 ·have x:((n1:Int) !=(n2:Int))=true:=by simp;omega
  go_enter Tryz.func34,Tryz.ntmps34
  go_wp2
  go_ret
  exact ⟨by rw[xk (fun h=>K (by rw[q.o,r.o,h]))];rfl,yg _ _⟩
structure Di (W0:World) (Bx:Nat) (l:List Rf) (O:Nat->Prop) (V:World):Prop where
 grown:W0.grownBy V (some Bx)
 ownO:∀b,O b->W0.heap.size<=b
 row:∃v,V.heap[Bx]?=some (.cells #[v] 81 (0,0))∧Cs W0.heap.size V v l∧∀g,v.ownBlock=some g->¬ O g
section
variable{W0 V w1:World}{Bx:Nat}{l:List Rf}{O:NP}
theorem Di.stays(u:Bx < W0.heap.size)(f:Nat->List Rf):Ca (fun k=>Di W0 Bx (f k)):=by
 intro k O W t W' h p r q s m n
 obtain ⟨v,r1,r2,o⟩:=h.row
 have e:=h.grown.size
 have i:W'.heap[Bx]?=W.heap[Bx]?:=m Bx (fun hb=>by have:=h.ownO Bx hb;omega) (by omega)
 refine ⟨⟨r.trans h.grown.os,q.trans h.grown.tape,s.trans h.grown.output,yt e p,fun b hb j=>(m b (fun d=>by have:=h.ownO b d;omega) (by omega)).trans (h.grown.block b hb j)⟩,fun b hb=>?_,v,i.trans r1,r2.up (fun g a l=>m g (o g a) l),fun g a c=>?_⟩
 ·rcases n b hb with h1|h1
  ·exact h.ownO b h1
  ·omega
 ·rcases n g c with h1|h1
  ·exact o g a h1
  ·have:=(r2.lt a).2;omega
theorem Di.same(h:Di W0 Bx l O V){b:Nat}(hb:b < W0.heap.size)(a:b≠Bx):V.heap[b]?=W0.heap[b]?:=h.grown.block b hb (fun e=>a (yi e))
theorem Di.start(W0:World)(hb:W0.heap[Bx]?=some (.cells #[.slice none 0 0] 81 (0,0))):Di W0 Bx [] (fun _=>False) W0:=
 ⟨⟨rfl,rfl,rfl,yf _,fun _ _ _=>rfl⟩,fun _ h=>h.elim,_,hb,Ry _ _,fun g a=>by cases a⟩
theorem Di.put(h:Di W0 Bx l O V)(z:Bx < W0.heap.size)(p:∀b,O b->b < V.heap.size){va v:Value}{r:Rf}(n:V.cell? ⟨Bx,0,none⟩=some va)(d:Tc V W0.heap.size va l r w1 v):Di W0 Bx (l++[r]) O (w1.setCell ⟨Bx,0,none⟩ v)∧AO O V (w1.setCell ⟨Bx,0,none⟩ v):=by
 obtain ⟨s,r1,r2,q⟩:=h.row
 obtain rfl:va=s:=by
  have e:V.cell? (aV Bx 0)=some s:=by simp[World.cell?,r1]
  rw[n] at e;exact yi e
 have j:∀g,va.ownBlock=some g->W0.heap.size<=g:=fun g i=>(r2.lt i).1
 have m:w1.heap[Bx]?=V.heap[Bx]?:=d.grown.block Bx (by have:=h.grown.size;omega) (fun e=>by have:=j _ e.symm;omega)
 have y:=h.grown.size
 have w:=d.grown.size
 have f:∀b,b≠Bx->(w1.setCell (aV Bx 0) v).heap[b]?=w1.heap[b]?:=fun b c=>zh _ _ _ _ c
 have a:∀b,b≠Bx->b < V.heap.size->va.ownBlock≠some b->(w1.setCell (aV Bx 0) v).heap[b]?=V.heap[b]?:=fun b c o u=>(f b c).trans (d.grown.block b o (fun e=>u e.symm))
 refine ⟨⟨⟨d.grown.os.trans h.grown.os,d.grown.tape.trans h.grown.tape,d.grown.output.trans h.grown.output,by simp;omega,fun b hb c=>?_⟩,h.ownO,v,?_,d.own.up (fun g i _=>f g (fun e=>by have:=(d.own.lt i).1;omega)),fun g i k=>?_⟩,by simp;omega,fun b hb=>?_⟩
 ·rw[a b (fun e=>c (by rw[e])) (by omega) (fun e=>by have:=j _ e;omega)]
  exact h.grown.block b hb c
 ·have:=zm w1 Bx 0 #[va] 81 v (m.trans r1)
  rw[this];rfl
 ·rcases d.blk with e|⟨x,e,t⟩
  ·rw[e] at i;exact q g i k
  ·rw[e] at i;cases i
   have:=p g k;omega
 ·exact a b (fun e=>by have:=h.ownO b hb;omega) (p b hb) (fun e=>q b e hb)
end
section
variable{f:Int->Ex->Ex}{g:Int->Rf->Rf}
def Rz(f:Int->Ex->Ex)(e:Lp):Lp:=(f e.2 e.1,e.2)
theorem Cc{α β:Type}(F:Nat->α->β)(l:List α):(l.mapIdx F).zipIdx=l.zipIdx.map fun p=>(F p.2 p.1,p.2):=by
 apply xP
 ·simp
 ·intro i h1 h2;simp
theorem Te(l:List Ga):Kd (l.mapIdx (Ga.mp f))=(Kd l).map (Rz f):=by
 unfold Kd;rw[Cc,xt,xu];rfl
theorem RC(l:List DD):Ia (l.mapIdx (DD.mp f))=(Ia l).map (Rz f):=by
 unfold Ia;rw[Cc,xt,xu];rfl
theorem Oj(l:List AD):F0 (l.mapIdx (AD.mp f g))=(F0 l).map (Rz f):=by
 unfold F0;rw[Cc,xt,xu];rfl
theorem RD(l:List CV):Ib (l.mapIdx (CV.mp f g))=(Ib l).map (Rz f):=by
 unfold Ib;rw[Cc,xt,xu];rfl
theorem RE(l:List Cm):Ec (l.mapIdx (Cm.mp f g))=(Ec l).map (Rz f):=by
 unfold Ec;rw[Cc,xt,xu];rfl
theorem Tf(l:List BA):Jm (l.mapIdx (BA.mp f g))=(Jm l).map (Rz f):=by
 unfold Jm;rw[Cc,xt,xu]
 congr 1
 funext p
 rw[zD,<-RE (g:=g)]
 rfl
theorem PH(l:List B6):Gc (l.mapIdx (B6.mp f g))=(Gc l).map (Rz f):=by
 unfold Gc;rw[Cc,xt,xu];rfl
theorem PI(l:List D6):Gd (l.mapIdx (D6.mp f g))=(Gd l).map (Rz f):=by
 unfold Gd;rw[Cc,xt,xu];rfl
theorem QF(x:Ax):Ay (x.mp f g)=(Ay x).map (Rz f):=by
 unfold Ay Ax.mp
 simp only[zD,<-Te,<-RC,<-Oj (g:=g),<-RD (g:=g),<-Tf (g:=g),<-PH (g:=g),<-PI (g:=g)]
 rfl
theorem DC{α β:Type}{F:Nat->α->β}{l:List α}{p:β->Bool}{q:α->Bool}(h:l.all q=true)(a:∀i d,q d=true->p (F i d)=true):(l.mapIdx F).all p=true:=by
 rw[yU] at h ⊢
 intro b hb
 obtain ⟨i,hi,rfl⟩:=zg.1 hb
 rw[List.getElem_mapIdx]
 exact a i _ (h _ (yJ _))
end
section
variable{t:Tb}
theorem Jz(l:List Ex):(J0 t l).length=l.length:=by rw[MH];simp
mutual
theorem KV:∀e:Ex,AB (Kw t e)=AB e
 |.mk op n u rn ri args=>by rw[Kw,AB,AB,KW args]
theorem KW:∀l:List Ex,AX (J0 t l)=AX l
 |[]=>rfl
 |e::r=>by rw[J0,AX,AX,KV e,KW r]
end
theorem RF(e:Ex):BJ (Kw t e)=BJ e:=by
 cases e with
 |mk op n u rn ri args=>
  rw[Kw]
  unfold BJ DE
  simp only[Ex.op,Ex.n,Ex.u,Ex.rn,Ex.ri,Ex.args,Jz]
  by_cases h:op=2
  ·subst h;simp
  ·rw[yq h];rfl
theorem GY{to at_:Int}{r:Rf}(h:JF t to at_ r=true):JF t to at_ (gT t to r)=true:=by
 unfold gT
 by_cases h0:to=0
 ·rw[yD h0];exact h
 ·rw[yq h0]
  unfold JF at h ⊢
  rw[yq h0] at h ⊢
  exact h
theorem VB{to at_:Int}{rn:ByteArray}{ri rj:Int}(h0:to≠0):JF t to at_ ⟨rn,ri⟩=JF t to at_ ⟨rn,rj⟩:=by
 unfold JF;rw[yq h0,yq h0]
mutual
theorem QG(lt:Int):∀e:Ex,TN t lt (Kw t e)=TN t lt e
 |.mk op n u rn ri args=>by
  rw[Kw,TN,TN,Jz,QH lt args]
  by_cases h:op=2
  ·rw[yD h,VB (rj:=ri) (by unfold Lq;rw[yD h];split<;>decide)]
  ·rw[yq h]
theorem QH(lt:Int):∀l:List Ex,SM t lt (J0 t l)=SM t lt l
 |[]=>rfl
 |e::r=>by rw[J0,SM,SM,QG lt e,QH lt r]
end
theorem Ug(e:Lp):Kx t (Rz (fT t) e)=Kx t e:=by
 unfold Kx Rz fT
 simp only
 by_cases h:BJ e.1=true
 ·simp[h]
 ·rw[yq h,RF,QG]
theorem Tg(lt:Int)(e:Ex):AB (fT t lt e)=AB e:=by
 unfold fT;split
 ·rfl
 ·exact KV e
theorem Mo{x:Ax}(h:Cy t x=true):Cy t (x.mp (fT t) (gT t))=true:=by
 unfold Cy at h ⊢
 simp only[yF] at h ⊢
 obtain ⟨h1,h2,h3,f,b,a⟩:=h
 refine ⟨?_,?_,?_,?_,?_,?_⟩
 ·rw[QF,List.all_map]
  rw[yU] at h1 ⊢
  intro e c
  have:=h1 e c
  simp only[Function.comp,Ug];exact this
 ·unfold BZ at h2 ⊢
  exact DC h2 fun _ _ h=>h
 ·refine DC h3 fun i d h=>?_
  unfold MI at h ⊢
  simp only[yF] at h ⊢
  exact ⟨GY h.1,GY h.2⟩
 ·refine DC f fun i d h=>?_
  unfold Qo at h ⊢
  simp only[yF] at h ⊢
  exact ⟨GY h.1,DC h.2 fun _ _ h=>GY h⟩
 ·refine DC b fun i d h=>?_
  unfold JW at h ⊢
  simp only[yF] at h ⊢
  exact ⟨GY h.1,GY h.2⟩
 ·refine DC a fun i d h=>?_
  unfold MJ at h ⊢
  simp only[yF] at h ⊢
  exact ⟨GY h.1,GY h.2⟩
theorem QI{x:Ax}(h:Bz x=true):Bz (x.mp (fT t) (gT t))=true:=by
 unfold Bz at h ⊢
 simp only[yF] at h ⊢
 obtain ⟨h1,h2,h3⟩:=h
 refine ⟨?_,?_,?_⟩
 ·unfold Kh at h1 ⊢
  simpa[Ax.mp] using h1
 ·unfold FM at h2 ⊢
  refine DC h2 fun i d h=>?_
  simpa[BA.mp] using h
 ·unfold EI at h3 ⊢
  rw[QF,List.all_map]
  rw[yU] at h3 ⊢
  intro e a
  simpa[Rz,Tg] using h3 e a
end
theorem Ff{x:Ax}(h:AF x=0):Bz x=true∧CY x=true∧GQ x∧Df (Tb.of x) x=true∧Cy (Tb.of x) x=true:=by
 unfold AF at h
 by_cases h1:Bz x=true
 ·rw[yD h1] at h
  by_cases h2:CY x=true
  ·rw[yD h2] at h
   by_cases h3:GQ x
   ·rw[yD h3] at h
    by_cases a:(Df (Tb.of x) x&&Cy (Tb.of x) x)=true
    ·rw[yF] at a;exact ⟨h1,h2,h3,a⟩
    ·rw[yq a] at h;cases h
   ·rw[yq h3] at h;cases h
  ·rw[yq h2] at h;cases h
 ·rw[yq h1] at h;cases h
theorem GZ(x:Ax):(Aj x).reaches.length=x.reaches.length:=by unfold Aj Ax.mp;simp
structure CM (W:World) (s top:Nat) (x:Ax) (L:Bq) (cs:List Value) (N:Nat->Prop):Prop where
 src:BP N W L cs x
 at0:L.s=s
 range:W.rangeAt s 0 cs
 lt:∀b,UJ N s b->b < top
section
variable{W W':World}{s top:Nat}{x:Ax}{L:Bq}{cs:LV}{N:NP}
theorem CM.up(h:CM W s top x L cs N)(hb:∀b,b < top->W'.heap[b]?=W.heap[b]?):CM W' s top x L cs N:=
 ⟨h.src.same (fun _ h=>h) (fun b hN=>hb b (h.lt b (.inr hN))),h.at0,A0 h.range (hb s (h.lt s (.inl rfl))),h.lt⟩
theorem CM.head(h:CM W s top x L cs N):W.cell? ⟨s,21,none⟩=some (.slice L.reaches.a L.reaches.n L.reaches.c):=by
 have:=h.range 21 _ h.src.at.reaches
 rw[yw] at this;exact this
theorem CM.frm(h:CM W s top x L cs N){i:Nat}(hi:i < x.reaches.length):∃b o,L.reaches.a=some ⟨b,o,none⟩∧b < top∧W.cell? ⟨b,o+i*51+1,none⟩=some (.string x.reaches[i].frm.name)∧W.cell? ⟨b,o+i*51+1+1,none⟩=some (.int .i64 x.reaches[i].frm.n):=by
 obtain ⟨b,o,c,g1,e,f,d,_,_,c0,c1,c2,c3,c4,c5,c6,c7,rfl,_⟩:=h.src.reaches.2.2 i hi
 exact ⟨b,o,g1,h.lt b (.inr e),d 1 _ rfl,d 2 _ rfl⟩
end
structure QJ (Q:Exit->Act->World->Prop) (w:World) (x:Ax):Prop where
 early:∀(c:Int) tm W,tm.getD 2 undef=.int .i64 c->Below w.heap.size w W->BE x=c->Q .ret {tmps:=tm,defers:=[]} W
 done:∀(c:Int) D1 D2 tm W,tm.getD 2 undef=.int .i64 c->Below w.heap.size w W->BE x=c->D1≠D2->w.heap.size<=D1->w.heap.size<=D2->W.heap[D1]?=some (.deferred (some []))->W.heap[D2]?=some (.deferred (some []))->Q .ret {tmps:=tm,defers:=[J3 D2,J3 D1]} W
theorem Th(w:World)(x:Ax):QJ (bodyPostM Fence.wide 10 Tryz.prog Tryz.f17 (fun e w'=>e=.returned (.int .i64 (BE x))∧Below w.heap.size w w')) w x:=by
 have a:∀(tm:Array Value) (c:Int) (W:World),tm.getD 2 undef=.int .i64 c->(results Tryz.f17 tm).run Tryz.prog W=.ok (.int .i64 c) W:=fun tm c W h=>by
  rw[yB] at h
  simp[results,Tryz.results17,h]
 refine ⟨fun c tm W h2 hb f=>?_,fun c D1 j tm W h2 hb f d h1 k g i=>?_⟩
 ·subst f
  exact ⟨_,a tm _ W h2,rfl,hb⟩
 ·subst f
  have l:(W.putObj j (.deferred none)).heap[D1]?=some (.deferred (some [])):=(World.putObj_heap_other d).trans g
  refine ⟨by simp,.inl ⟨_,_,rfl,run_takeDeferred i,⟨by simp,.inl ⟨_,_,rfl,run_takeDeferred l,⟨_,a tm _ _ h2,rfl,hb.trans ⟨rfl,rfl,rfl,by simp,fun b hb=>?_⟩⟩⟩⟩⟩⟩
  rw[World.putObj_heap_other (by omega),World.putObj_heap_other (by omega)]
structure EB (V:World) (base B4 B5:Nat) (la lb:List Rf) (wr:World):Prop where
 os:wr.os=V.os
 tape:wr.tape=V.tape
 output:wr.output=V.output
 size:V.heap.size<=wr.heap.size
 low:base<=V.heap.size
 keep:∀(k:Nat) (o:Obj),k≠B4->k≠B5->V.heap[k]?=some o->(∀c f,o≠Obj.cells c 23 f)->wr.heap[k]?=some o
 block:∀b,b < base->b≠B4->b≠B5->wr.heap[b]?=V.heap[b]?
 rows:∃va vb,wr.heap[B4]?=some (.cells #[va] 81 (0,0))∧wr.heap[B5]?=some (.cells #[vb] 81 (0,0))∧LG wr base wr va la vb lb
theorem EB.put{V wr w1:World}{base B4 B5:Nat}{la lb:List Rf}(h:EB V base B4 B5 la lb wr)(y:B4 < base)(t:B5 < base)(p:B4≠B5){f m:Value}{r1 r2:Rf}(c:LG wr base w1 f (la++[r1]) m (lb++[r2])):EB V base B4 B5 (la++[r1]) (lb++[r2]) ((w1.setCell ⟨B4,0,none⟩ f).setCell ⟨B5,0,none⟩ m):=by
 obtain ⟨va,vb,u,x,B⟩:=h.rows
 have z:w1.heap[B4]?=some (.cells #[va] 81 (0,0)):=(c.below.block B4 y).trans u
 have A:w1.heap[B5]?=some (.cells #[vb] 81 (0,0)):=(c.below.block B5 t).trans x
 have d:∀b,b≠B4->b≠B5->((w1.setCell ⟨B4,0,none⟩ f).setCell ⟨B5,0,none⟩ m).heap[b]?=w1.heap[b]?:=fun b i j=>(zh _ _ _ _ j).trans (zh _ _ _ _ i)
 have r:∀ {v:Value} {l:List Rf},Cs base w1 v l->Cs base ((w1.setCell ⟨B4,0,none⟩ f).setCell ⟨B5,0,none⟩ m) v l:=fun q=>q.up (fun g w _=>by
  have:=(q.lt w).1
  exact d g (by omega) (by omega))
 have n:((w1.setCell ⟨B4,0,none⟩ f).setCell ⟨B5,0,none⟩ m).heap.size=w1.heap.size:=by simp
 refine ⟨c.below.os.trans h.os,c.below.tape.trans h.tape,c.below.output.trans h.output,by rw[n];exact yt h.size c.below.size,h.low,fun k o i j q s=>(d k i j).trans (c.keep k o (h.keep k o i j q s) s),fun b hb i j=>?_,f,m,?_,?_,yg _ _,by rw[n];exact c.size,r c.a,r c.b,c.apart,fun _ _ h _=>h⟩
 ·rw[d b i j,c.below.block b hb];exact h.block b hb i j
 ·rw[zh _ _ _ _ p,zm w1 B4 0 #[va] 81 f z];rfl
 ·have e:(w1.setCell ⟨B4,0,none⟩ f).heap[B5]?=some (.cells #[vb] 81 (0,0)):=(zh _ _ _ _ (fun e=>p e.symm)).trans A
  rw[zm (w1.setCell ⟨B4,0,none⟩ f) B5 0 #[vb] 81 m e];rfl
theorem EB.drew{V wr:World}{base B4 B5:Nat}{la lb:List Rf}(h:EB V base B4 B5 la lb wr):EB V base B4 B5 la lb wr.drew:=by
 obtain ⟨va,vb,d,e,c⟩:=h.rows
 exact ⟨h.os,h.tape,h.output,h.size,h.low,h.keep,h.block,va,vb,d,e,yg _ _,c.size,c.a,c.b,c.apart,fun _ _ h _=>h⟩
theorem Cs.rf{B:Nat}{w:World}{v:Value}{l:List Rf}(h:Cs B w v l)(c:l.length<=1000000000):∃h:As,v=h.v∧Td w h l:=by
 obtain ⟨h1,⟨rfl,h2⟩|⟨g,cap,o,rfl,s,d,q,t,y,k⟩⟩:=h
 ·obtain rfl:=zr.1 h2
  exact ⟨⟨none,0,0⟩,rfl,rfl,by simp,fun i hi=>absurd hi (by simp)⟩
 ·have f:∀j u,(l.flatMap AU)[j]?=some u->w.cell? ⟨g,j,none⟩=some u:=by
   intro j u a
   rw[<-k] at a
   have b:=(yx.1 a).1
   rw[zb] at b
   rw[zZ,yD (by omega)] at a
   simp only[World.cell?,d]
   simpa using a
  have m:∀(l:List Rf) (i:Nat) (hi:i < l.length),(l.flatMap AU)[i*2]?=some (.string l[i].name)∧(l.flatMap AU)[i*2+1]?=some (.int .i64 l[i].n):=by
   intro l
   induction l with
   |nil=>intro i hi;simp at hi
   |cons x r ih=>
    intro i hi
    cases i with
    |zero=>exact ⟨rfl,rfl⟩
    |succ i=>
     have:=ih i (by simpa using hi)
     have e:((x::r).flatMap AU)=AU x++r.flatMap AU:=rfl
     rw[e,yV (by simp[AU];omega),yV (by simp[AU];omega)]
     have c:(AU x).length=2:=rfl
     rw[c,show (i+1)*2 - 2=i*2 by omega,show (i+1)*2+1 - 2=i*2+1 by omega]
     exact this
  refine ⟨⟨some ⟨g,0,none⟩,l.length,cap⟩,rfl,rfl,by omega,fun i hi=>?_⟩
  obtain ⟨p,g1⟩:=m l i hi
  refine ⟨g,0,rfl,(yd.1 d).1,?_,?_⟩
  ·rw[yw];exact f _ _ p
  ·rw[yw];exact f _ _ g1
theorem Ho{α:Type}{l:List α}{i:Nat}{a:α}(h:l[i]?=some a):l.take i++[a]=l.take (i+1):=by
 rw[List.take_add_one,h];rfl
theorem VC{Q:QT}{w V:World}{x:Ax}{L1 L2:Bq}{aj ao:LV}{N1 N2:NP}{base B3 B4 B5 D1 C:Nat}(hQ:QJ Q w x)(hw:AF x=0)
 (h1:CM V w.heap.size B4 x L1 aj N1)(h2:CM V B3 B4 (Aj x) L2 ao N2)(a0:B4 < B5)(h5:B5 < base)(hb:Below w.heap.size w V)(hL:EB V base B4 B5 (AS x) (AS (Aj x)) V)
 (hD:D1≠C∧w.heap.size<=D1∧w.heap.size<=C)(p:V.heap[D1]?=some (.deferred (some [])))(l:V.heap[C]?=some (.deferred (some [])))(E:(CZ x).length<=900000000)(y:(CZ (Aj x)).length<=900000000)
 (u0 u6 u7 u8 u9 u10 u11 u12 u13 u14 u15 u16 u17 u18 u19 u20 u21 u22 u23 u24 u25 u26 u27 u28 u29 u30 u31 u32 u33 u34 u35 u36 u37 u38 u39 u40 u41 u42 u43 u44 u45 u46 u47 u48 u49 u50 u51 u52 u53 u54 u55 u56 u57 u58 u59 u60 u61 u62 u63:Value):
  Fz 17 Tryz.prog (GR 6 (Tryz.f17.body.getD .skip)) Q {tmps:=#[u0,.pointer (some ⟨w.heap.size,0,none⟩),.int .i64 0,.pointer (some ⟨B3,0,none⟩),.pointer (some ⟨B4,0,none⟩),.pointer (some ⟨B5,0,none⟩),u6,u7,u8,u9,u10,u11,u12,u13,u14,u15,u16,u17,u18,u19,u20,u21,u22,u23,u24,u25,u26,u27,u28,u29,u30,u31,u32,u33,u34,u35,u36,u37,u38,u39,u40,u41,u42,u43,u44,u45,u46,u47,u48,u49,u50,u51,u52,u53,u54,u55,u56,u57,u58,u59,u60,u61,u62,u63],defers:=[J3 C,J3 D1]} V:=by
 have F:w.heap.size < B4:=h1.lt _ (.inl rfl)
 have J:B3 < B4:=h2.lt _ (.inl rfl)
 have G:=hL.low
 have m:Hid (∀la lb wr,EB V base B4 B5 la lb wr->∀b,b < B4->wr.heap[b]?=V.heap[b]?):=yb (fun la lb wr h b hb=>h.block b (by omega) (by omega) (by omega))
 have g:Hid (∀la lb wr,EB V base B4 B5 la lb wr->wr.heap[D1]?=some (.deferred (some []))∧wr.heap[C]?=some (.deferred (some []))):=yb (fun la lb wr h=>by
  obtain ⟨va,vb,r4,r5,_⟩:=hL.rows
  exact ⟨h.keep D1 _ (fun e=>by rw[e,r4] at p;cases p) (fun e=>by rw[e,r5] at p;cases p) p (fun _ _ e=>by cases e),h.keep C _ (fun e=>by rw[e,r4] at l;cases l) (fun e=>by rw[e,r5] at l;cases l) l (fun _ _ e=>by cases e)⟩)
 have D:Hid (∀la lb wr,EB V base B4 B5 la lb wr->Below w.heap.size w wr):=yb (fun la lb wr h=>hb.trans ⟨h.os,h.tape,h.output,h.size,fun b L=>h.block b (by omega) (by omega) (by omega)⟩)
 have hc:=h1.head
 have N:=yb h2.head
 have R:Hid (∀i (hi:i < x.reaches.length),∃b o,L1.reaches.a=some ⟨b,o,none⟩∧b < B4∧V.cell? ⟨b,o+i*51+1,none⟩=some (.string x.reaches[i].frm.name)∧V.cell? ⟨b,o+i*51+1+1,none⟩=some (.int .i64 x.reaches[i].frm.n)):=yb (fun i hi=>h1.frm hi)
 have U:Hid (∀i (hi:i < (Aj x).reaches.length),∃b o,L2.reaches.a=some ⟨b,o,none⟩∧b < B4∧V.cell? ⟨b,o+i*51+1,none⟩=some (.string (Aj x).reaches[i].frm.name)∧V.cell? ⟨b,o+i*51+1+1,none⟩=some (.int .i64 (Aj x).reaches[i].frm.n)):=yb (fun i hi=>h2.frm hi)
 have z:Hid (L1.reaches.n=x.reaches.length):=yb h1.src.reaches.1
 have M:Hid (L2.reaches.n=x.reaches.length):=yb (h2.src.reaches.1.trans (GZ x))
 have H:L1.reaches.n<=140737488355328:=by rw[z.o];exact h1.src.reaches.2.1
 have P:=yb hc
 have HQ:=yb hQ
 have c:Hid (w.heap.size < B4∧B3 < B4∧B4 < B5∧B5 < base∧base<=V.heap.size):=yb ⟨F,J,a0,h5,G⟩
 have W:=yb hD
 have I:=yb E;have q:=yb y
 have HC:Hid (BE x=if CZ x=CZ (Aj x) then 0 else 170):=yb (by unfold BE;rw[yD hw])
 have ad:Hid (EB V base B4 B5 (AS x++(x.reaches.map fun d:AD=>d.frm).take 0) (AS (Aj x)++((Aj x).reaches.map fun d:AD=>d.frm).take 0) V):=yb (by rw[zU,zU,yS,yS];exact hL)
 generalize L1.reaches=aq at hc R z H P
 obtain ⟨ra,rn,rc⟩:=aq
 generalize L2.reaches=ak at N U M
 obtain ⟨S,Z,ag⟩:=ak
 simp only at hc R z H P N U M
 clear hQ hw h1 h2 a0 h5 hb hL hD p l E y F J G
 unfold J3
 refine A9 (A4 ?_)
 go_wp2
 clear hc
 go_loopw [38] (fun iv wr=>∃i:Nat,iv=.int .i64 i∧i<=rn∧Hid (EB V base B4 B5 (AS x++(x.reaches.map fun d:AD=>d.frm).take i) (AS (Aj x)++((Aj x).reaches.map fun d:AD=>d.frm).take i) wr)) (fun iv _=>rn - (intOf iv).toNat)
 case atStart=>exact ⟨0,rfl,yH _,ad⟩
 case round=>
  clear ad
  obtain ⟨i,rfl,hi,A⟩:=hrel
  by_cases L:i < rn
  ·have ah:(i:Int) < (rn:Int):=by omega
   have s:i < x.reaches.length:=by rw[<-z.o];exact L
   have O:i < (Aj x).reaches.length:=by rw[GZ];exact s
   obtain ⟨b1,o1,rfl,g1,x1,y1⟩:=R.o i s
   obtain ⟨b2,o2,rfl,g2,x2,y2⟩:=U.o i O
   have a6:(x.reaches.map fun d:AD=>d.frm)[i]?=some x.reaches[i].frm:=by simp[s]
   have ae:((Aj x).reaches.map fun d:AD=>d.frm)[i]?=some (Aj x).reaches[i].frm:=by simp[O]
   have k:Hid (∀wr,EB V base B4 B5 ((AS x++(x.reaches.map fun d:AD=>d.frm).take i)++[x.reaches[i].frm]) ((AS (Aj x)++((Aj x).reaches.map fun d:AD=>d.frm).take i)++[(Aj x).reaches[i].frm]) wr->EB V base B4 B5 (AS x++(x.reaches.map fun d:AD=>d.frm).take (i+1)) (AS (Aj x)++((Aj x).reaches.map fun d:AD=>d.frm).take (i+1)) wr):=yb (fun wr h=>by
    rw[yI,yI] at h
    rw[Ho a6,Ho ae] at h
    exact h)
   have al:Hid ((AS x++(x.reaches.map fun d:AD=>d.frm).take i).length+1<=1000000000):=yb (by
    have:=I.o
    unfold CZ at this
    simp only[yn,zb,yT] at this ⊢
    omega)
   have au:Hid ((AS (Aj x)++((Aj x).reaches.map fun d:AD=>d.frm).take i).length+1<=1000000000):=yb (by
    have:=q.o
    unfold CZ at this
    simp only[yn,zb,yT] at this ⊢
    omega)
   generalize x.reaches[i].frm=r1 at x1 y1 k
   generalize (Aj x).reaches[i].frm=r2 at x2 y2 k
   obtain ⟨va,vb,q4,q5,Y⟩:=A.o.rows
   have HT:=yb Y;have aa:=yb q4;have ab:=yb q5
   have ap:Hid (wr.cell? ⟨b1,o1+i*51+1,none⟩=some (.string r1.name)):=yb ((Ab (m.o _ _ _ A.o b1 g1)).trans x1)
   have ar:Hid (wr.cell? ⟨b1,o1+i*51+1+1,none⟩=some (.int .i64 r1.n)):=yb ((Ab (m.o _ _ _ A.o b1 g1)).trans y1)
   have an:Hid (wr.cell? ⟨b2,o2+i*51+1,none⟩=some (.string r2.name)):=yb ((Ab (m.o _ _ _ A.o b2 g2)).trans x2)
   have am:Hid (wr.cell? ⟨b2,o2+i*51+1+1,none⟩=some (.int .i64 r2.n)):=yb ((Ab (m.o _ _ _ A.o b2 g2)).trans y2)
   have HG:Hid (b1 < B4∧b2 < B4∧i < rn∧i < Z):=yb ⟨g1,g2,L,by rw[M.o];exact s⟩
   clear s O x1 y1 x2 y2 a6 ae q4 q5 Y g1 g2
   go_wp2_with fail
   refine VA (base:=base) (B:=w.heap.size) (B3:=B3) (B4:=B4) (B5:=B5) (b1:=b1) (o1:=o1) (n1:=rn) (c1:=rc) (b2:=b2) (o2:=o2) (n2:=Z) (c2:=ag) (i:=i) (va:=va) (vb:=vb) (la:=AS x++(x.reaches.map fun d:AD=>d.frm).take i) (lb:=AS (Aj x)++((Aj x).reaches.map fun d:AD=>d.frm).take i) (r1:=r1) (r2:=r2) _ ?_ ?_ ?_ ?_ ?_ ?_ ?_ ?_ ?_ ?_ ?_ ?_ ?_ ?_ ?_ ?_ ?_ ?_ ?_ ?_ ?_ ?_ ?_ ?_ ?_ ?_ ?_ ?_ ?_ ?_
   ·rfl
   ·rfl
   ·rfl
   ·rfl
   ·rfl
   ·rfl
   ·rfl
   ·have:=c.o;omega
   ·have:=c.o;omega
   ·have:=c.o;omega
   ·have:=c.o;omega
   ·have:=c.o;have:=HG.o;omega
   ·have:=c.o;have:=HG.o;omega
   ·have:=c.o;omega
   ·exact HG.o.2.2.1
   ·exact HG.o.2.2.2
   ·exact ⟨_,aa.o⟩
   ·exact ⟨_,ab.o⟩
   ·simp[World.cell?,aa.o]
   ·simp[World.cell?,ab.o]
   ·exact (Ab (m.o _ _ _ A.o _ c.o.1)).trans P.o
   ·exact (Ab (m.o _ _ _ A.o _ c.o.2.1)).trans N.o
   ·exact ap.o
   ·exact ar.o
   ·exact an.o
   ·exact am.o
   ·exact HT.o
   ·exact al.o
   ·exact au.o
   ·intro a w1 v1 v2 a8 af ac hp
    have ai:=yb (k.o _ (A.o.put (by have:=c.o;omega) c.o.2.2.2.1 (by have:=c.o;omega) hp))
    obtain ⟨v41,v42,v43,v44,v45,v46,v47,v48,v49,v50,v51,v52,v53,v54,v55,v56,v57,v58,rfl⟩:∃v41 v42 v43 v44 v45 v46 v47 v48 v49 v50 v51 v52 v53 v54 v55 v56 v57 v58:Value,a={tmps:=#[u0,.pointer (some ⟨w.heap.size,0,none⟩),.int .i64 0,.pointer (some ⟨B3,0,none⟩),.pointer (some ⟨B4,0,none⟩),.pointer (some ⟨B5,0,none⟩),u6,u7,.int .i64 i,u9,u10,u11,u12,u13,u14,u15,u16,u17,u18,u19,u20,u21,u22,u23,u24,u25,u26,u27,u28,u29,u30,u31,u32,u33,u34,.pointer (some ⟨w.heap.size,21,none⟩),.slice (some ⟨b1,o1,none⟩) rn rc,.int .i64 rn,.int .i64 i,.bool true,.int .i64 i,v41,v42,v43,v44,v45,v46,v47,v48,v49,v50,v51,v52,v53,v54,v55,v56,v57,v58,u59,u60,u61,u62,u63],defers:=[J3 C,J3 D1]}:=by
     refine ⟨a.tmps.getD 41 undef,a.tmps.getD 42 undef,a.tmps.getD 43 undef,a.tmps.getD 44 undef,a.tmps.getD 45 undef,a.tmps.getD 46 undef,a.tmps.getD 47 undef,a.tmps.getD 48 undef,a.tmps.getD 49 undef,a.tmps.getD 50 undef,a.tmps.getD 51 undef,a.tmps.getD 52 undef,a.tmps.getD 53 undef,a.tmps.getD 54 undef,a.tmps.getD 55 undef,a.tmps.getD 56 undef,a.tmps.getD 57 undef,a.tmps.getD 58 undef,(Gk [41,42,43,44,45,46,47,48,49,50,51,52,53,54,55,56,57,58] (a8.trans rfl) af (fun t ht=>ac t ?_)).trans (by kernel_rfl)⟩
     simp at ht;omega
    clear a8 af ac hp
    unfold J3
    go_wp2
    exact ⟨⟨i+1,by push_cast;rfl,by omega,ai⟩,by simp[intOf];omega⟩
  ·obtain rfl:i=rn:=by omega
   have ah:decide ((i:Int) < (i:Int))=false:=by simp
   have f:Hid (EB V base B4 B5 (CZ x) (CZ (Aj x)) wr):=yb (by
    have h:=A.o
    rw[z.o] at h
    have e1:(x.reaches.map fun d:AD=>d.frm).take x.reaches.length=x.reaches.map fun d:AD=>d.frm:=by
     rw[xU (by simp)]
    have e2:((Aj x).reaches.map fun d:AD=>d.frm).take x.reaches.length=(Aj x).reaches.map fun d:AD=>d.frm:=by
     rw[xU (by rw[yT,GZ];exact yf _)]
    rw[e1,e2] at h
    exact h)
   obtain ⟨va,vb,q4,q5,Y⟩:=f.o.rows
   obtain ⟨⟨a1,n1,k1⟩,ea,a7⟩:=Y.a.rf (by have:=I.o;omega)
   obtain ⟨⟨a2,n2,k2⟩,eb,S⟩:=Y.b.rf (by have:=q.o;omega)
   unfold As.v at ea eb
   simp only at ea eb
   subst ea eb
   have RA:=yb a7;have RB:=yb S
   have c4:wr.cell? ⟨B4,0,none⟩=some (.slice a1 n1 k1):=by simp[World.cell?,q4]
   have c5:wr.cell? ⟨B5,0,none⟩=some (.slice a2 n2 k2):=by simp[World.cell?,q5]
   clear q4 q5 Y a7 S A
   go_wp2
   by_cases X:CZ x=CZ (Aj x)
   ·have T:Hid (decide (CZ x=CZ (Aj x))=true):=yb (xf X)
    have K:Hid (BE x=0):=yb (by rw[HC.o,yD X])
    clear X
    refine A9 (A4 ?_)
    go_wp2_with (first|(go_at_call 34;refine (KU (h1:=⟨a1,n1,k1⟩) (h2:=⟨a2,n2,k2⟩) RA.o RB.o).mono ?_;rintro e w5 ⟨u,r⟩;rw[T.o] at u;subst u;have j:=yb r;clear r))
    refine A4 ?_
    go_wp2
    exact HQ.o.done 0 D1 C _ _ rfl ((D.o _ _ _ f.o).trans (j.o.mono (D.o _ _ _ f.o).size)) K.o W.o.1 W.o.2.1 W.o.2.2 ((j.o.block _ (yd.1 (g.o _ _ _ f.o).1).1).trans (g.o _ _ _ f.o).1) ((j.o.block _ (yd.1 (g.o _ _ _ f.o).2).1).trans (g.o _ _ _ f.o).2)
   ·have T:Hid (decide (CZ x=CZ (Aj x))=false):=yb (xk X)
    have K:Hid (BE x=170):=yb (by rw[HC.o,yq X])
    clear X
    refine A9 (A4 ?_)
    go_wp2_with (first|(go_at_call 34;refine (KU (h1:=⟨a1,n1,k1⟩) (h2:=⟨a2,n2,k2⟩) RA.o RB.o).mono ?_;rintro e w5 ⟨u,r⟩;rw[T.o] at u;subst u;have j:=yb r;clear r))
    exact HQ.o.done 170 D1 C _ _ rfl ((D.o _ _ _ f.o).trans (j.o.mono (D.o _ _ _ f.o).size)) K.o W.o.1 W.o.2.1 W.o.2.2 ((j.o.block _ (yd.1 (g.o _ _ _ f.o).1).1).trans (g.o _ _ _ f.o).1) ((j.o.block _ (yd.1 (g.o _ _ _ f.o).2).1).trans (g.o _ _ _ f.o).2)
end Go.Proofs.YtjofgpfocadomaaGreatDoor
namespace Go.Proofs.YtjofgpfocadomaaGreatDoor
open Go.RowKit
attribute [local go_sem] Oper.semAt_some
theorem Cs.low{B b:Nat}{w:World}{v:Value}{l:List Rf}(h:Cs B w v l)(hb:b<=B):Cs b w v l:=by
 obtain ⟨h1,h2⟩:=h
 refine ⟨h1,h2.imp id ?_⟩
 rintro ⟨g,cap,a,e,d,c⟩
 exact ⟨g,cap,a,e,by omega,c⟩
theorem Di.below{W0 V V':World}{Bx:Nat}{l:List Rf}{O:NP}(h:Di W0 Bx l O V)(hb:Below V.heap.size V V'):Di W0 Bx l O V':=by
 obtain ⟨v,r1,r2,d⟩:=h.row
 exact ⟨⟨hb.os.trans h.grown.os,hb.tape.trans h.grown.tape,hb.output.trans h.grown.output,yt h.grown.size hb.size,fun b a c=>(hb.block b (yu a h.grown.size)).trans (h.grown.block b a c)⟩,h.ownO,v,(hb.block _ (yd.1 r1).1).trans r1,r2.up (fun g _ a=>hb.block g a),d⟩
theorem VD{Q:QT}{w V:World}{x:Ax}{L1 L2:Bq}{d5 dg:LV}{N1 N2:NP}{base B3 B4 B5 D1:Nat}(hQ:QJ Q w x)(hw:AF x=0)
 (h1:CM V w.heap.size B4 x L1 d5 N1)(h2:CM V B3 B4 (Aj x) L2 dg N2)(M:B4 < B5)(h5:B5 < base)(hb:Below w.heap.size w V)(F:base<=V.heap.size)
 (cq:∃va,V.heap[B4]?=some (.cells #[va] 81 (0,0))∧Cs base V va (AS x))(B:V.heap[B5]?=some (.cells #[.slice none 0 0] 81 (0,0)))
 (N:w.heap.size<=D1)(m:V.heap[D1]?=some (.deferred (some [])))(p:(CZ x).length<=900000000)(i:(CZ (Aj x)).length<=900000000)
 (u0 u6 u7 u8 u9 b9 bb au bz bj bu cf cz bg ak bx d0 aw ad bt cr d6 da b7 c9 ay cl cm bn ba b4 cp av bd cv ct cd ax az bq ai b0 cg ah cc cw ao be bp bw bm cx bh bv bo af ae b5 bi:Value):
  Fz 17 Tryz.prog (GR 5 (Tryz.f17.body.getD .skip)) Q {tmps:=#[u0,.pointer (some ⟨w.heap.size,0,none⟩),.int .i64 0,.pointer (some ⟨B3,0,none⟩),.pointer (some ⟨B4,0,none⟩),.pointer (some ⟨B5,0,none⟩),u6,u7,u8,u9,b9,bb,au,bz,bj,bu,cf,cz,bg,ak,bx,d0,aw,ad,bt,cr,d6,da,b7,c9,ay,cl,cm,bn,ba,b4,cp,av,bd,cv,ct,cd,ax,az,bq,ai,b0,cg,ah,cc,cw,ao,be,bp,bw,bm,cx,bh,bv,bo,af,ae,b5,bi],defers:=[J3 D1]} V:=by
 obtain ⟨x0,t⟩:∃x0:Ax,x0=Aj x:=⟨_,rfl⟩
 obtain ⟨L,cs,NN,T⟩:∃L cs NN,CM V B3 B4 x0 L cs NN:=by rw[t];exact ⟨_,_,_,h2⟩
 have Y:Bz x0=true:=by rw[t];exact QI (Ff hw).1
 have ag:Cy (Tb.of x) x0=true:=by rw[t];exact Mo (Ff hw).2.2.2.2
 have cn:(AS x0).length<=900000000:=by
  rw[t];have:=i;unfold CZ at this;rw[yn] at this;omega
 have aj:B3 < B4:=T.lt _ (.inl rfl)
 obtain ⟨W5,G⟩:∃W5,W5=(V.alloc (.cells #[pV B3 0] 85)):=⟨_,rfl⟩
 have j:Below V.heap.size V W5:=by rw[G];exact (yg _ _).alloc (yf _) _
 have a6:W5.heap.size=V.heap.size+1:=by rw[G];simp
 have P:CM W5 B3 B4 x0 L cs NN:=T.up (fun b hb=>j.block b (by omega))
 have co:W5.cell? (aV V.heap.size 0)=some (pV L.s 0):=by
  rw[T.at0,G]
  have h:=World.alloc_heap_new V (.cells #[pV B3 0] 85)
  simp only[World.cell?,h]
  rfl
 have ac:W5.rangeAt L.s 0 cs:=by rw[T.at0];exact P.range
 have hU:=Og P.src ac co Y
 obtain ⟨hR,hM⟩:=Mn P.src ac
 have ab:(BQ W5 L x0).2=true:=((FX (Tb.of x) hU).2 ag).1
 have aa:=hM ab
 have an:(BQ W5 L x0).1.length=(AS x0).length:=by rw[<-aa,yT]
 have am:∀k O U,Di W5 B5 ((AS x0).take k) O U->∀b,(UJ NN L.s b∨b=V.heap.size)->U.heap[b]?=W5.heap[b]?:=fun k O U h b hb=>by
  rcases hb with hb|rfl
  ·rw[T.at0] at hb
   have:=T.lt b hb
   exact h.same (by omega) (by omega)
  ·exact h.same (by omega) (by omega)
 have HU:=yb hU;have HR:=yb hR;have HM:=yb aa;have dh:=yb an;have aq:=yb am;have d1:=yb ab;have ap:=yb a6;have d4:=yb j
 have HP:=yb T;have d9:=yb cn
 have al:Hid (B5 < V.heap.size∧∃u:Value,W5.heap[B5]?=some (.cells #[u] 81 (0,0))):=yb ⟨by omega,by
  rw[j.block _ (by omega)];exact ⟨_,B⟩⟩
 have q:Hid (B5 < W5.heap.size):=yb (by omega)
 have dd:Hid (Di W5 B5 ((AS x0).take 0) (fun _=>False) W5):=yb (by
  rw[zU]
  exact Di.start W5 (by rw[j.block _ (by omega)];exact B))
 have db:=yb G;have d3:=yb t;have df:=yb aj
 have W:=yb (And.intro hQ (And.intro hw (And.intro h1 (And.intro h2 (And.intro M (And.intro h5 (And.intro hb F)))))))
 have a2:=yb (And.intro cq (And.intro B (And.intro N m)))
 have a0:=yb (And.intro p i)
 clear G hQ hw h1 h2 M h5 hb F Y ag cn aj j a6 P co ac hU hR hM aa ab an am T t p i cq B N m
 unfold J3
 refine A9 (A9 (A4 ?_))
 go_wp2_with (first|(go_at_call 33;refine (KB _ _).mono ?_;rintro e w2 ⟨rfl,rfl⟩))
 rw[<-db.o]
 refine D4 ?_
 refine CA (n:=10) Tryz.func17 rfl (fun _ _=>rfl) (Kj 9 (by omega) HU.o) (fun a ha=>by
   obtain ⟨u,_,rfl⟩:=xO.1 ha
   rfl)
  (fun k O U=>Di W5 B5 ((AS x0).take k) O U) (fun _ _ _=>False) (fun _ _ _=>False)
  (fun k a O U=>Di W5 B5 ((AS x0).take k) O U∧∃(ub uo:Nat) (c f:Int) (d:ByteArray) (C:Int) (g:Nat),(BQ W5 L x0).1[k]?=some ⟨ub,uo,c,f,d,C⟩∧¬ O g∧g < U.heap.size∧U.heap[g]?=some (.cells #[pV ub uo,iV c,iV f] 89 (0,0))∧a={tmps:=#[u0,pV w.heap.size 0,iV 0,pV B3 0,pV B4 0,pV B5 0,u6,pV g 0,u8,u9,b9,bb,au,bz,bj,bu,cf,cz,bg,ak,bx,d0,aw,ad,bt,cr,.func (.func 70) #[] #[pV V.heap.size 0],.agg #[pV ub uo,iV c,iV f],b7,c9,ay,cl,cm,bn,ba,b4,cp,av,bd,cv,ct,cd,ax,az,bq,ai,b0,cg,ah,cc,cw,ao,be,bp,bw,bm,cx,bh,bv,bo,af,ae,b5,bi],defers:=[]})
  (Di.stays (W0:=W5) q.o (fun k=>(AS x0).take k)) (fun _ _ _ _ _ _ h=>h.elim) (fun _ _ _ _ _ _ h=>h.elim) ?_ (fun k O U h=>Oe (aq.o k O U h)) (fun _ _ _ h=>h.elim) ?_ dd.o ?_ ?_ ?_ (fun _ _ _ _ _ _ h=>h.elim) (fun _ _ _ _ _ _ h=>h.elim)
 ·rintro a k O U O' U' ⟨h1,ub,uo,c,f,d,C,g,h2,h3,h4,h5,h6⟩ hz ho ht hu X hO
  exact ⟨Di.stays (W0:=W5) q.o (fun k=>(AS x0).take k) k O U O' U' h1 hz ho ht hu X hO,ub,uo,c,f,d,C,g,h2,fun h=>(hO g h).elim h3 (fun h=>by omega),by omega,(X g h3 h4).trans h5,h6⟩
 ·intro ch he O U E
  rw[d1.o] at he
  cases he
 ·intro k X O U lo E hO hl J
  have ce:k < (BQ W5 L x0).1.length:=by rw[yT] at X;exact X
  rw[zE]
  have S:=yb (yk ce)
  generalize (BQ W5 L x0).1[k]=u at S ⊢
  obtain ⟨ub,uo,c,f,d,C⟩:=u
  have HJ:=yb E;have R:=yb J
  clear E hO hl J X ce
  unfold Us.v
  simp only
  gi_wp2
  have Z:AO O U (U.alloc (.cells #[pV ub uo,iV c,iV f] 89)):=⟨by simp,fun b hb=>yA _ _ _ (R.o b hb)⟩
  have K:Di W5 B5 ((AS x0).take k) O (U.alloc (.cells #[pV ub uo,iV c,iV f] 89)):=HJ.o.below ((yg U.heap.size U).alloc (yf _) _)
  have I:¬ O U.heap.size:=fun h=>qu _ (R.o _ h)
  first
  |exact ⟨Z,K,ub,uo,c,f,d,C,U.heap.size,S.o,I,by simp,World.alloc_heap_new _ _,rfl⟩
  |(rename_i hK;exact hK _ _ ⟨Z,K,ub,uo,c,f,d,C,U.heap.size,S.o,I,by simp,World.alloc_heap_new _ _,rfl⟩)
  |(rename_i hK _;exact hK _ _ ⟨Z,K,ub,uo,c,f,d,C,U.heap.size,S.o,I,by simp,World.alloc_heap_new _ _,rfl⟩)
  |fail
 ·rintro k X O U lo a1 hl cu J ⟨E,ub,uo,c,f,d,C,g,hu,dl,ck,c8,rfl⟩
  have l:=HR.o _ (zR hu)
  have a8:=aq.o k O U E ub (.inl l.inS)
  have bk:(AS x0)[k]?=some (⟨d,C⟩:Rf):=by
   rw[<-HM.o,List.getElem?_map,hu];rfl
  obtain ⟨va,r1,r2,r3⟩:=E.row
  have HJ:=yb E
  have d2:Hid (∀U',Di W5 B5 ((AS x0).take k++[⟨d,C⟩]) O U'->Di W5 B5 ((AS x0).take (k+1)) O U'):=yb (fun U' h=>by rw[Ho bk] at h;exact h)
  have d7:Hid (((AS x0).take k).length+1<=1000000000):=yb (by
   have:=d9.o
   rw[zb];omega)
  have ci:Hid (U.cell? (aV B5 0)=some va):=yb (by simp[World.cell?,r1])
  have cj:Hid (∃u,U.heap[B5]?=some (.cells #[u] 81 (0,0))):=yb ⟨_,r1⟩
  have cy:=yb r2
  have ar:Hid (U.cell? (aV g 0)=some (pV ub uo)):=yb (by simp[World.cell?,c8])
  have d8:Hid (U.cell? (aV ub uo)=some (.string d)):=yb ((Ab a8).trans l.name)
  have de:Hid (U.cell? (aV ub (uo+1))=some (iV C)):=yb ((Ab a8).trans l.n)
  have H:Hid (B5 < W5.heap.size∧W5.heap.size<=U.heap.size∧g < U.heap.size∧ub < W5.heap.size):=yb ⟨q.o,E.grown.size,ck,by
   have h1:=l.inS
   rw[HP.o.at0] at h1
   have:=HP.o.lt ub h1
   have:=al.o.1
   have:=ap.o
   have:=W.o.2.2.2.2.1
   simp only at*
   omega⟩
  have R:=yb J
  clear l a8 bk r1 r2 r3 E hu dl ck c8 hl cu X J
  gi_wp2_with fail
  refine Vy (W0:=U) (Bx:=B5) (b6:=g) (ub:=ub) (uo:=uo) (base:=W5.heap.size) (va:=va) (ls:=(AS x0).take k) (r:=⟨d,C⟩) _ ?_ ?_ ?_ ?_ ?_ ?_ ?_ ?_ ?_ ?_ ?_ ?_ ?_ ?_ ?_ ?_ ?_
  ·rfl
  ·rfl
  ·rfl
  ·rfl
  ·have:=H.o;omega
  ·have:=H.o;omega
  ·have:=H.o;omega
  ·exact cj.o
  ·exact ci.o
  ·exact ar.o
  ·exact d8.o
  ·exact de.o
  ·exact cy.o
  ·exact d7.o
  ·exact H.o.2.1
  ·exact H.o.1
  ·intro a w1 v _ _ _ hp
   have h:=HJ.o.put q.o R.o ci.o hp
   exact ⟨h.2,d2.o _ h.1⟩
 ·intro _ D O U hD dp E dc
  obtain ⟨hQ,hw,h1,h2,M,h5,hb,F⟩:=W.o
  obtain ⟨p,i⟩:=a0.o
  have a6:=ap.o
  have j:=d4.o
  have dm:=df.o
  have dn:=al.o.1
  have y:Di W5 B5 (AS (Aj x)) O U:=by
   have h:=E
   rw[yT,dh.o,yQ,d3.o] at h
   exact h
  obtain ⟨v2,q1,q2,q3⟩:=y.row
  have A:∀b,b < V.heap.size->b≠B5->U.heap[b]?=V.heap[b]?:=fun b z a7=>(y.same (by omega) a7).trans (j.block b z)
  have dq:=y.grown.size
  have di:Below w.heap.size w U:=hb.trans ⟨y.grown.os.trans j.os,y.grown.tape.trans j.tape,y.grown.output.trans j.output,by omega,fun b z=>A b (by have:=hb.size;omega) (by have:=h1.lt _ (.inl rfl);omega)⟩
  have dk:=h1.up (fun b z=>A b (by omega) (by omega))
  have dj:=h2.up (fun b z=>A b (by omega) (by omega))
  obtain ⟨⟨va,p1,p2⟩,B,N,m⟩:=a2.o
  have a7:D1≠B5:=fun e=>by rw[e,B] at m;cases m
  have b8:=(yd.1 m).1
  have hL:EB U base B4 B5 (AS x) (AS (Aj x)) U:=⟨rfl,rfl,rfl,yf _,by omega,fun _ _ _ _ h _=>h,fun _ _ _ _=>rfl,va,v2,(A B4 (by omega) (by omega)).trans p1,q1,yg _ _,by omega,p2.up (fun g hg z=>A g z (by have:=(p2.lt hg).1;omega)),q2.low (by omega),fun g e1 e2=>by have:=(p2.lt e1).2;have:=(q2.lt e2).1;omega,fun _ _ h _=>h⟩
  exact VC (base:=base) hQ hw dk dj M h5 di hL ⟨by omega,N,by have:=hb.size;omega⟩ ((A D1 b8 a7).trans m) dc p i _ _ _ _ _ _ _ _ _ _ _ _ _ _ _ _ _ _ _ _ _ _ _ _ _ _ _ _ _ _ _ _ _ _ _ _ _ _ _ _ _ _ _ _ _ _ _ _ _ _ _ _ _ _ _ _ _ _ _
theorem VE{Q:QT}{w V:World}{x:Ax}{L1 L2:Bq}{d2 de:LV}{N1 N2:NP}{base B3 B4 B5:Nat}(hQ:QJ Q w x)(hw:AF x=0)
 (h1:CM V w.heap.size B4 x L1 d2 N1)(h2:CM V B3 B4 (Aj x) L2 de N2)(J:B4 < B5)(h5:B5 < base)(hb:Below w.heap.size w V)(B:base<=V.heap.size)
 (co:∃u:Value,V.heap[B4]?=some (.cells #[u] 81 (0,0)))(p:V.heap[B4]?=some (.cells #[.slice none 0 0] 81 (0,0)))(M:V.heap[B5]?=some (.cells #[.slice none 0 0] 81 (0,0)))
 (l:(CZ x).length<=900000000)(j:(CZ (Aj x)).length<=900000000)
 (u0 u6 u7 u8 u9 b7 b9 aq bw bh bq cd di d9 ai bv cx au ab bp cp az ba b5 bz aw cj ck bk b8 b0 cn ar bb ct cq c9 av ax bo ag ay ce af c8 cu am bd bn bu bj cv be bt bm ad ac b4 bg:Value):
  Fz 17 Tryz.prog (GR 4 (Tryz.f17.body.getD .skip)) Q {tmps:=#[u0,.pointer (some ⟨w.heap.size,0,none⟩),.int .i64 0,.pointer (some ⟨B3,0,none⟩),.pointer (some ⟨B4,0,none⟩),.pointer (some ⟨B5,0,none⟩),u6,u7,u8,u9,b7,b9,aq,bw,bh,bq,cd,di,d9,ai,bv,cx,au,ab,bp,cp,az,ba,b5,bz,aw,cj,ck,bk,b8,b0,cn,ar,bb,ct,cq,c9,av,ax,bo,ag,ay,ce,af,c8,cu,am,bd,bn,bu,bj,cv,be,bt,bm,ad,ac,b4,bg],defers:=[]} V:=by
 obtain ⟨x0,t⟩:∃x0:Ax,x0=x:=⟨_,rfl⟩
 obtain ⟨L,cs,NN,S⟩:∃L cs NN,CM V w.heap.size B4 x0 L cs NN:=by rw[t];exact ⟨_,_,_,h1⟩
 have X:Bz x0=true:=by rw[t];exact (Ff hw).1
 have ae:Cy (Tb.of x) x0=true:=by rw[t];exact (Ff hw).2.2.2.2
 have cl:(AS x0).length<=900000000:=by
  rw[t];have:=l;unfold CZ at this;rw[yn] at this;omega
 have ah:w.heap.size < B4:=S.lt _ (.inl rfl)
 obtain ⟨W5,H⟩:∃W5,W5=(V.alloc (.cells #[pV w.heap.size 0] 85)):=⟨_,rfl⟩
 have i:Below V.heap.size V W5:=by rw[H];exact (yg _ _).alloc (yf _) _
 have a2:W5.heap.size=V.heap.size+1:=by rw[H];simp
 have N:CM W5 w.heap.size B4 x0 L cs NN:=S.up (fun b hb=>i.block b (by omega))
 have cm:W5.cell? (aV V.heap.size 0)=some (pV L.s 0):=by
  rw[S.at0,H]
  have h:=World.alloc_heap_new V (.cells #[pV w.heap.size 0] 85)
  simp only[World.cell?,h]
  rfl
 have aa:W5.rangeAt L.s 0 cs:=by rw[S.at0];exact N.range
 have hU:=Og N.src aa cm X
 obtain ⟨hR,hM⟩:=Mn N.src aa
 have a8:(BQ W5 L x0).2=true:=((FX (Tb.of x) hU).2 ae).1
 have a7:=hM a8
 have al:(BQ W5 L x0).1.length=(AS x0).length:=by rw[<-a7,yT]
 have ak:∀k O U,Di W5 B4 ((AS x0).take k) O U->∀b,(UJ NN L.s b∨b=V.heap.size)->U.heap[b]?=W5.heap[b]?:=fun k O U h b hb=>by
  rcases hb with hb|rfl
  ·rw[S.at0] at hb
   have:=S.lt b hb
   exact h.same (by omega) (by omega)
  ·exact h.same (by omega) (by omega)
 have HU:=yb hU;have HR:=yb hR;have HM:=yb a7;have df:=yb al;have ao:=yb ak;have cy:=yb a8;have an:=yb a2;have d1:=yb i
 have HP:=yb S;have d6:=yb cl
 have aj:Hid (B4 < V.heap.size∧∃u:Value,W5.heap[B4]?=some (.cells #[u] 81 (0,0))):=yb ⟨by omega,by
  rw[i.block _ (by omega)];exact co⟩
 have q:Hid (B4 < W5.heap.size):=yb (by omega)
 have da:Hid (Di W5 B4 ((AS x0).take 0) (fun _=>False) W5):=yb (by
  rw[zU]
  exact Di.start W5 (by rw[i.block _ (by omega)];exact p))
 have d7:=yb H;have d0:=yb t;have dd:=yb ah
 have T:=yb (And.intro hQ (And.intro hw (And.intro h1 (And.intro h2 (And.intro J (And.intro h5 (And.intro hb B)))))))
 have a0:=yb (And.intro p M)
 have Z:=yb (And.intro l j)
 clear H hQ hw h1 h2 J h5 hb B X ae cl ah i a2 N cm aa hU hR hM a7 a8 al ak S t l j co p M
 refine A9 (A9 (A4 ?_))
 go_wp2_with (first|(go_at_call 33;refine (KB _ _).mono ?_;rintro e w2 ⟨rfl,rfl⟩))
 rw[<-d7.o]
 refine D4 ?_
 refine CA (n:=10) Tryz.func17 rfl (fun _ _=>rfl) (Kj 9 (by omega) HU.o) (fun a ha=>by
   obtain ⟨u,_,rfl⟩:=xO.1 ha
   rfl)
  (fun k O U=>Di W5 B4 ((AS x0).take k) O U) (fun _ _ _=>False) (fun _ _ _=>False)
  (fun k a O U=>Di W5 B4 ((AS x0).take k) O U∧∃(ub uo:Nat) (c f:Int) (d:ByteArray) (z:Int) (g:Nat),(BQ W5 L x0).1[k]?=some ⟨ub,uo,c,f,d,z⟩∧¬ O g∧g < U.heap.size∧U.heap[g]?=some (.cells #[pV ub uo,iV c,iV f] 89 (0,0))∧a={tmps:=#[u0,pV w.heap.size 0,iV 0,pV B3 0,pV B4 0,pV B5 0,pV g 0,u7,u8,u9,b7,b9,aq,bw,bh,bq,cd,.func (.func 70) #[] #[pV V.heap.size 0],.agg #[pV ub uo,iV c,iV f],ai,bv,cx,au,ab,bp,cp,az,ba,b5,bz,aw,cj,ck,bk,b8,b0,cn,ar,bb,ct,cq,c9,av,ax,bo,ag,ay,ce,af,c8,cu,am,bd,bn,bu,bj,cv,be,bt,bm,ad,ac,b4,bg],defers:=[]})
  (Di.stays (W0:=W5) q.o (fun k=>(AS x0).take k)) (fun _ _ _ _ _ _ h=>h.elim) (fun _ _ _ _ _ _ h=>h.elim) ?_ (fun k O U h=>Oe (ao.o k O U h)) (fun _ _ _ h=>h.elim) ?_ da.o ?_ ?_ ?_ (fun _ _ _ _ _ _ h=>h.elim) (fun _ _ _ _ _ _ h=>h.elim)
 ·rintro a k O U O' U' ⟨h1,ub,uo,c,f,d,z,g,h2,h3,h4,h5,h6⟩ hz ho ht hu W hO
  exact ⟨Di.stays (W0:=W5) q.o (fun k=>(AS x0).take k) k O U O' U' h1 hz ho ht hu W hO,ub,uo,c,f,d,z,g,h2,fun h=>(hO g h).elim h3 (fun h=>by omega),by omega,(W g h3 h4).trans h5,h6⟩
 ·intro ch he O U A
  rw[cy.o] at he
  cases he
 ·intro k W O U lo A hO hl F
  have cc:k < (BQ W5 L x0).1.length:=by rw[yT] at W;exact W
  rw[zE]
  have R:=yb (yk cc)
  generalize (BQ W5 L x0).1[k]=u at R ⊢
  obtain ⟨ub,uo,c,f,d,z⟩:=u
  have HJ:=yb A;have P:=yb F
  clear A hO hl F W cc
  unfold Us.v
  simp only
  gi_wp2
  have Y:AO O U (U.alloc (.cells #[pV ub uo,iV c,iV f] 89)):=⟨by simp,fun b hb=>yA _ _ _ (P.o b hb)⟩
  have G:Di W5 B4 ((AS x0).take k) O (U.alloc (.cells #[pV ub uo,iV c,iV f] 89)):=HJ.o.below ((yg U.heap.size U).alloc (yf _) _)
  have E:¬ O U.heap.size:=fun h=>qu _ (P.o _ h)
  first
  |exact ⟨Y,G,ub,uo,c,f,d,z,U.heap.size,R.o,E,by simp,World.alloc_heap_new _ _,rfl⟩
  |(rename_i hK;exact hK _ _ ⟨Y,G,ub,uo,c,f,d,z,U.heap.size,R.o,E,by simp,World.alloc_heap_new _ _,rfl⟩)
  |(rename_i hK _;exact hK _ _ ⟨Y,G,ub,uo,c,f,d,z,U.heap.size,R.o,E,by simp,World.alloc_heap_new _ _,rfl⟩)
  |fail
 ·rintro k W O U lo a1 hl cr F ⟨A,ub,uo,c,f,d,z,g,hu,dj,ci,bx,rfl⟩
  have m:=HR.o _ (zR hu)
  have a6:=ao.o k O U A ub (.inl m.inS)
  have bi:(AS x0)[k]?=some (⟨d,z⟩:Rf):=by
   rw[<-HM.o,List.getElem?_map,hu];rfl
  obtain ⟨va,r1,r2,r3⟩:=A.row
  have HJ:=yb A
  have cz:Hid (∀U',Di W5 B4 ((AS x0).take k++[⟨d,z⟩]) O U'->Di W5 B4 ((AS x0).take (k+1)) O U'):=yb (fun U' h=>by rw[Ho bi] at h;exact h)
  have d3:Hid (((AS x0).take k).length+1<=1000000000):=yb (by
   have:=d6.o
   rw[zb];omega)
  have cf:Hid (U.cell? (aV B4 0)=some va):=yb (by simp[World.cell?,r1])
  have cg:Hid (∃u,U.heap[B4]?=some (.cells #[u] 81 (0,0))):=yb ⟨_,r1⟩
  have cw:=yb r2
  have ap:Hid (U.cell? (aV g 0)=some (pV ub uo)):=yb (by simp[World.cell?,bx])
  have d4:Hid (U.cell? (aV ub uo)=some (.string d)):=yb ((Ab a6).trans m.name)
  have db:Hid (U.cell? (aV ub (uo+1))=some (iV z)):=yb ((Ab a6).trans m.n)
  have C:Hid (B4 < W5.heap.size∧W5.heap.size<=U.heap.size∧g < U.heap.size∧ub < W5.heap.size):=yb ⟨q.o,A.grown.size,ci,by
   have h1:=m.inS
   rw[HP.o.at0] at h1
   have:=HP.o.lt ub h1
   have:=aj.o.1
   have:=an.o
   have:=T.o.2.2.2.2.1
   simp only at*
   omega⟩
  have P:=yb F
  clear m a6 bi r1 r2 r3 A hu dj ci bx hl cr W F
  gi_wp2_with fail
  refine VV (W0:=U) (Bx:=B4) (b6:=g) (ub:=ub) (uo:=uo) (base:=W5.heap.size) (va:=va) (ls:=(AS x0).take k) (r:=⟨d,z⟩) _ ?_ ?_ ?_ ?_ ?_ ?_ ?_ ?_ ?_ ?_ ?_ ?_ ?_ ?_ ?_ ?_ ?_
  ·rfl
  ·rfl
  ·rfl
  ·rfl
  ·have:=C.o;omega
  ·have:=C.o;omega
  ·have:=C.o;omega
  ·exact cg.o
  ·exact cf.o
  ·exact ap.o
  ·exact d4.o
  ·exact db.o
  ·exact cw.o
  ·exact d3.o
  ·exact C.o.2.1
  ·exact C.o.1
  ·intro a w1 v _ _ _ hp
   have h:=HJ.o.put q.o P.o cf.o hp
   exact ⟨h.2,cz.o _ h.1⟩
 ·intro _ D O U hD dm A d8
  obtain ⟨hQ,hw,h1,h2,J,h5,hb,B⟩:=T.o
  obtain ⟨l,j⟩:=Z.o
  have a2:=an.o
  have i:=d1.o
  have dk:=dd.o
  have dl:=aj.o.1
  have y:Di W5 B4 (AS (x)) O U:=by
   have h:=A
   rw[yT,df.o,yQ,d0.o] at h
   exact h
  obtain ⟨v2,q1,q2,q3⟩:=y.row
  have K:∀b,b < V.heap.size->b≠B4->U.heap[b]?=V.heap[b]?:=fun b I dc=>(y.same (by omega) dc).trans (i.block b I)
  have dn:=y.grown.size
  have dg:Below w.heap.size w U:=hb.trans ⟨y.grown.os.trans i.os,y.grown.tape.trans i.tape,y.grown.output.trans i.output,by omega,fun b I=>K b (by have:=hb.size;omega) (by have:=h1.lt _ (.inl rfl);omega)⟩
  have d5:=h1.up (fun b I=>K b (by omega) (by omega))
  have dh:=h2.up (fun b I=>K b (by omega) (by omega))
  obtain ⟨p,M⟩:=a0.o
  exact VD (base:=base) (D1:=D) hQ hw d5 dh J h5 dg (by omega) ⟨v2,q1,q2.low (by omega)⟩ ((K B5 (by omega) (by omega)).trans M) (by have:=hb.size;omega) d8 l j _ _ _ _ _ _ _ _ _ _ _ _ _ _ _ _ _ _ _ _ _ _ _ _ _ _ _ _ _ _ _ _ _ _ _ _ _ _ _ _ _ _ _ _ _ _ _ _ _ _ _ _ _ _ _ _ _ _ _
end Go.Proofs.YtjofgpfocadomaaGreatDoor
namespace Go.Proofs.YtjofgpfocadomaaGreatDoor
open Go.RowKit
theorem Bg{α β:Type}{f:α->List β}{c:Nat}:∀ {l:List α},(∀a∈l,(f a).length<=c)->(l.flatMap f).length<=l.length*c
 |[],_=>by simp
 |a::l,h=>by
  rw[zc,yn,yv,Nat.succ_mul]
  have:=h a (by simp)
  have:=Bg (l:=l) (fun b hb=>h b (by simp[hb]))
  omega
theorem EC{α β:Type}{f:α × Nat->List β}{c:Nat}{l:List α}(h:∀a∈l,∀i,(f (a,i)).length<=c):(l.zipIdx.flatMap f).length<=l.length*c:=by
 have:=Bg (l:=l.zipIdx) (f:=f) (c:=c) (fun p b=>by
  obtain ⟨a,i⟩:=p
  obtain ⟨_,h2,h3⟩:=List.mem_zipIdx (x:=a) (i:=i) b
  exact h a (h3▸yJ _) i)
 rwa [zB] at this
section
variable{t:Tb}
mutual
theorem Ol(lt:Int):∀e:Ex,TN t lt e=true->(Mj e).length+1<=2 ^ (AB e+1)
 |.mk op n u rn ri args,h=>by
  rw[TN,yF,yF] at h
  obtain ⟨h1,_,h3⟩:=h
  have ih:=Mp lt args h3
  rw[Mj,AB,yv]
  unfold Nc at h1
  simp only[yF,z7] at h1
  obtain ⟨_,_,h2⟩:=h1
  rw[Nat.pow_succ]
  split at h2
  ·have h2:args.length=2:=yR h2
   rw[h2] at ih;omega
  ·have h2:args.length=0:=yR h2
   obtain rfl:=zr.1 h2
   simp[GX,AX]
theorem Mp(lt:Int):∀l:List Ex,SM t lt l=true->(GX l).length+l.length<=l.length*2 ^ AX l
 |[],_=>by simp[GX]
 |e::r,h=>by
  rw[SM,yF] at h
  have c:=Ol lt e h.1
  have a:=Mp lt r h.2
  rw[GX,AX,yn,yv]
  have b:2 ^ (AB e+1)<=2 ^ max (1+AB e) (AX r):=Nat.pow_le_pow_right (by omega) (by omega)
  have d:r.length*2 ^ AX r<=r.length*2 ^ max (1+AB e) (AX r):=Nat.mul_le_mul_left _ (Nat.pow_le_pow_right (by omega) (by omega))
  rw[Nat.succ_mul]
  omega
end
theorem Uh{x:Ax}(a:Bz x=true):(Ay x).length<=20000:=by
 obtain ⟨j,k,s,g,h,f,c,b,_⟩:=F6 a
 unfold Ay Kd Ia F0 Ib Gc Gd
 have q:(x.lets.zipIdx.flatMap fun p=> [(p.1.value,1+(p.2:Int))]).length<=x.lets.length*1:=EC fun _ _ _=>by simp
 have e:(x.crops.zipIdx.flatMap fun p=> [(p.1.need,(0:Int))]).length<=x.crops.length*1:=EC fun _ _ _=>by simp
 have n:(x.reaches.zipIdx.flatMap fun p=> [(p.1.delay,(0:Int)),(p.1.cap,0),(p.1.bank,0),(p.1.siphon,0),(p.1.evap0,0),(p.1.evap1,0),(p.1.seep0,0),(p.1.seep1,0)]).length<=x.reaches.length*8:=EC fun _ _ _=>by simp
 have m:(x.farms.zipIdx.flatMap fun p=> [(p.1.area,(0:Int))]).length<=x.farms.length*1:=EC fun _ _ _=>by simp
 have r:(Jm x.rots).length<=x.rots.length*67:=by
  unfold Jm
  refine EC fun d hd i=>?_
  have h1:(Ec d.turns).length<=d.turns.length*1:=by unfold Ec;exact EC fun _ _ _=>by simp
  have:=b d hd
  simp only[yn,yv,yE]
  omega
 have l:(x.rights.zipIdx.flatMap fun p=> [(p.1.flow,(0:Int)),(p.1.frm,0),(p.1.to,0),(p.1.every,0),(p.1.len,0)]).length<=x.rights.length*5:=EC fun _ _ _=>by simp
 have o:(x.duties.zipIdx.flatMap fun p=> [(p.1.due,(0:Int))]).length<=x.duties.length*1:=EC fun _ _ _=>by simp
 simp only[yn,yv,yE]
 omega
theorem Om{x:Ax}(c:Bz x=true)(a:Cy t x=true):(CZ x).length<=900000000:=by
 obtain ⟨q,r,y,n,p,m,j,h,f⟩:=F6 c
 have v:=Uh c
 unfold Cy at a
 simp only[yF] at a
 have h1:=a.1
 rw[yU] at h1
 have i:((Ay x).flatMap Fv).length<=(Ay x).length*511:=Bg fun e b=>by
  unfold Fv
  split
  ·simp
  ·rename_i g
   have h2:=h1 e b
   unfold Kx at h2
   rw[Bool.or_eq_true,or_iff_right g] at h2
   have h3:=Ol e.2 e.1 h2
   have o:2 ^ (AB e.1+1)<=2 ^ 9:=Nat.pow_le_pow_right (by omega) (by have:=f e b;omega)
   omega
 have w:(x.farms.flatMap Fa).length<=x.farms.length*2:=Bg fun _ _=>by simp[Fa]
 have l:(x.rots.flatMap Gp).length<=x.rots.length*65:=Bg fun d hd=>by
  have h1:(d.turns.flatMap fun k:Cm=> [k.farm]).length<=d.turns.length*1:=Bg fun _ _=>by simp
  have:=h d hd
  unfold Gp
  rw[yv];omega
 have u:(x.rights.flatMap Ej).length<=x.rights.length*2:=Bg fun _ _=>by simp[Ej]
 have s:(x.duties.flatMap Fb).length<=x.duties.length*2:=Bg fun _ _=>by simp[Fb]
 unfold CZ AS
 simp only[yn,yT]
 omega
end
theorem Ui{w w':World}{x:Ax}{e:Ending}(h:Iy w x e w'):∃cs:LV,e=.returned (.tuple #[.agg cs.toArray,.int .i64 (AF x)])∧cs.length=26∧(∀v∈cs,v.oneCell'=true)∧Below w.heap.size w w'∧(AF x=0->∃(L:Bq) (N:NP),BP N w' L cs (Aj x)∧∀b,N b->w.heap.size<=b∧b < w'.heap.size):=by
 obtain ⟨hb,⟨h0,rfl⟩|⟨h0,cs,rfl,L,N,a,hs,hN⟩⟩:=h
 ·exact ⟨D8,rfl,rfl,fun v c=>yU.1 (show D8.all (fun v=>v.oneCell')=true from rfl) v c,hb,fun h=>absurd h h0⟩
 ·exact ⟨cs,by rw[h0],a,MD hs,hb,fun _=>⟨L,N,hs,hN⟩⟩
def VO(w:World)(cs:LV):World:=w.alloc (.cells cs.toArray 35)
theorem UZ{w w1 w2:World}{x y:Ax}{L m:Bq}{k rs:LV}{N g:NP}(i:Below w.heap.size w w1)(n:w1.heap.size=w.heap.size+1)(hs:BP N w1 L k x)(hr:w1.rangeAt w.heap.size 0 k)(hN:∀b,N b->b < w.heap.size)(a:Below w1.heap.size w1 w2)(j:BP g w2 m rs y)(e:∀b,g b->b < w2.heap.size):
  CM (((w2.alloc (.cells rs.toArray 35)).alloc (.cells #[.slice none 0 0] 81)).alloc (.cells #[.slice none 0 0] 81)) w.heap.size (w2.heap.size+1) x {L with s:=w.heap.size} k N∧
  CM (((w2.alloc (.cells rs.toArray 35)).alloc (.cells #[.slice none 0 0] 81)).alloc (.cells #[.slice none 0 0] 81)) w2.heap.size (w2.heap.size+1) y {m with s:=w2.heap.size} rs g∧
  Below w.heap.size w (((w2.alloc (.cells rs.toArray 35)).alloc (.cells #[.slice none 0 0] 81)).alloc (.cells #[.slice none 0 0] 81))∧
  (((w2.alloc (.cells rs.toArray 35)).alloc (.cells #[.slice none 0 0] 81)).alloc (.cells #[.slice none 0 0] 81)).heap[w2.heap.size+1]?=some (.cells #[.slice none 0 0] 81 (0,0))∧
  (((w2.alloc (.cells rs.toArray 35)).alloc (.cells #[.slice none 0 0] 81)).alloc (.cells #[.slice none 0 0] 81)).heap[w2.heap.size+2]?=some (.cells #[.slice none 0 0] 81 (0,0)):=by
 have r:=a.size
 have t:(w2.alloc (.cells rs.toArray 35)).heap.size=w2.heap.size+1:=by simp
 have q:((w2.alloc (.cells rs.toArray 35)).alloc (.cells j9 81)).heap.size=w2.heap.size+2:=by simp
 obtain ⟨W,d⟩:∃W,W=((w2.alloc (.cells rs.toArray 35)).alloc (.cells j9 81)).alloc (.cells j9 81):=⟨_,rfl⟩
 rw[<-d]
 have c:Below w2.heap.size w2 W:=by
  rw[d];exact (((yg _ _).alloc (yf _) _).alloc (by simp) _).alloc (by simp;omega) _
 have h3:W.heap[w2.heap.size]?=some (.cells rs.toArray 35 (0,0)):=by
  rw[d,yA _ _ _ (by omega),yA _ _ _ (by omega)]
  exact World.alloc_heap_new _ _
 have p:W.heap[w2.heap.size+1]?=some (.cells j9 81 (0,0)):=by
  rw[d,yA _ _ _ (by omega)]
  have:=World.alloc_heap_new (w2.alloc (.cells rs.toArray 35)) (.cells j9 81)
  rwa [t] at this
 have o:W.heap[w2.heap.size+2]?=some (.cells j9 81 (0,0)):=by
  rw[d]
  have:=World.alloc_heap_new ((w2.alloc (.cells rs.toArray 35)).alloc (.cells j9 81)) (.cells j9 81)
  rwa [q] at this
 have f:∀b,b < w1.heap.size->W.heap[b]?=w1.heap[b]?:=fun b hb=>(c.block b (by omega)).trans (a.block b hb)
 have l:W.rangeAt w2.heap.size 0 rs:=by
  have:=zl h3 0 rs.length
  simpa using this
 refine ⟨⟨?_,rfl,A0 hr (f _ (by omega)),fun b hb=>?_⟩,⟨?_,rfl,l,fun b hb=>?_⟩,?_,p,o⟩
 ·have h:=hs.same (N':=N) (w':=W) (fun _ h=>h) (fun b hb=>f b (by have:=hN b hb;omega))
  exact ⟨h.name,h.cells,h.lets,h.crops,h.reaches,h.farms,h.rots,h.rights,h.duties⟩
 ·rcases hb with rfl|hb
  ·omega
  ·have:=hN b hb;omega
 ·have h:=j.same (N':=g) (w':=W) (fun _ h=>h) (fun b hb=>c.block b (e b hb))
  exact ⟨h.name,h.cells,h.lets,h.crops,h.reaches,h.farms,h.rots,h.rights,h.duties⟩
 ·rcases hb with rfl|hb
  ·omega
  ·have:=e b hb;omega
 ·exact (i.trans (a.mono (by omega))).trans (c.mono (by omega))
theorem RG{w:World}{x:Ax}{L:Bq}{cs:LV}{N:NP}(h:BP N w L cs x)(hN:∀b,N b->b < w.heap.size)(J:MB x)(T:GV w)(hd:∀e∈Ay x,AB e.1<=1000000):
  Calls Tryz.prog 17 #[.agg cs.toArray] w fun e w'=>e=.returned (.int .i64 (BE x))∧Below w.heap.size w w':=by
 obtain ⟨w1,d⟩:∃w1,w1=VO w cs:=⟨_,rfl⟩
 have f:Below w.heap.size w w1:=by rw[d];exact (yg _ _).alloc (yf _) _
 have A:w1.heap.size=w.heap.size+1:=by rw[d];simp[VO]
 have M:w1.rangeAt w.heap.size 0 cs:=by
  rw[d];unfold VO
  have:=zl (World.alloc_heap_new w (.cells cs.toArray 35)) 0 cs.length
  simpa using this
 have q:BP N w1 L cs x:=h.same (fun _ h=>h) (fun b hb=>f.block b (hN b hb))
 have C:=yb f;have l:=yb A;have p:=yb M;have F:=yb q;have HN:=yb hN
 have g:=yb (O1 q (fun b hb=>by have:=hN b hb;omega) J (T.below f T.1) hd)
 have I:Hid ((Tryz.prog.info? 35).map (·.size)=some cs.length):=yb (by
  obtain ⟨c0,c1,c2,rfl,P,g1,O⟩:=h.cells
  obtain ⟨a0,p0,rfl,Z⟩:=P.cells
  obtain ⟨a1,p1,rfl,t⟩:=g1.cells
  obtain ⟨a2,p2,rfl,X⟩:=O.cells
  kernel_rfl)
 have B:=yb d
 clear d f A M q hN J T hd
 obtain ⟨U,m⟩:∃U,U=cs:=⟨_,rfl⟩
 rw[<-m] at p F g I
 have W:=yb m
 obtain ⟨c0,c1,c2,rfl,P,g1,O⟩:=h.cells
 obtain ⟨a0,p0,rfl,Z⟩:=P.cells
 obtain ⟨a1,p1,rfl,t⟩:=g1.cells
 obtain ⟨a2,p2,rfl,X⟩:=O.cells
 clear h P g1 O Z t X m
 unfold As.v at*
 simp only[yK,yP] at B W ⊢
 refine Bb (n:=10) Tryz.func17 rfl ?_
 have S:=Th w x
 generalize bodyPostM Fence.wide 10 Tryz.prog Tryz.f17 _=Q at S ⊢
 have V:=yb S
 clear S
 simp only[Tryz.ntmps17,yM,yv,yE,Nat.reduceAdd,Nat.reduceSub,zx,zy,zM,zG,yP,yK]
 refine A9 (A4 ?_)
 go_wp2
 have t:=B.o
 unfold VO at t
 rw[<-t,<-W.o]
 clear t
 refine A9 (A4 ?_)
 go_upto_region 1 with fail
 refine wp_region_lit ?_
 refine yj rfl 35 _ rfl w.heap.size 0 rfl U _ p.o qP rfl I.o ?_
 refine zw rfl fun K a=>?_
 go_simp
 refine g.o.mono ?_
 intro e w2 j
 obtain ⟨rs,rfl,z,k,H,D⟩:=Ui j
 clear j
 refine a _ _ ?_
 clear a K
 have i:=yb z;have G:=yb (z6 k);have s:=yb H;have R:=yb D
 clear z k H D
 iterate 4
  refine zw rfl fun K a=>?_
  go_simp
  refine a _ _ ?_
  clear a K
 refine za rfl 35 _ _ rfl w2.heap.size rs.toArray rfl rfl 35 _ (World.alloc_heap_new _ _) (by rw[yM,i.o];kernel_rfl) (by simp[i.o]) G.o ?_
 rw[World.setRow_alloc_new]
 refine zw rfl fun K a=>?_
 go_simp
 refine a _ _ ?_
 clear a K
 refine wpList_nil ?_
 by_cases r:AF x=0
 ·have E:=yb (R.o r)
  have u:=yb r
  simp only[r]
  clear r
  iterate 2
   refine A9 (A4 ?_)
   go_wp2
  obtain ⟨L2,N2,s2,n2⟩:=E.o
  obtain ⟨k1,k2,k3,k4,k5⟩:=UZ C.o l.o F.o p.o HN.o s.o s2 (fun b hb=>(n2 b hb).2)
  obtain ⟨Y,_,_,_,z5⟩:=Ff u.o
  exact VE (base:=w2.heap.size+3) V.o u.o k1 k2 (by omega) (by omega) k3 (by simp) ⟨_,k4⟩ k4 k5 (Om Y z5) (Om (QI Y) (Mo z5)) _ _ _ _ _ _ _ _ _ _ _ _ _ _ _ _ _ _ _ _ _ _ _ _ _ _ _ _ _ _ _ _ _ _ _ _ _ _ _ _ _ _ _ _ _ _ _ _ _ _ _ _ _ _ _ _ _ _ _
 ·have y:Hid (BE x=AF x):=yb (by unfold BE;rw[yq r])
  generalize AF x=c at r y ⊢
  have a6:(c !=0)=true:=by simpa using r
  refine A9 (A4 ?_)
  go_wp2
  exact V.o.early c _ _ rfl ((C.o.trans (s.o.mono (by have:=l.o;omega))).alloc (by have:=s.o.size;have:=l.o;omega) _) y.o
section
variable{f:Int->Ex->Ex}{g:Int->Rf->Rf}
end
section
variable{t:Tb}
structure Wb (t:Tb) (x:Ax):Prop where
 exprs:∀e∈Ay x,Fv e=Fv (Rz (fT t) e)
 farms:x.farms.flatMap Fa=x.farms.flatMap fun d=>Fa (CV.mp (fT t) (gT t) 0 d)
 rots:x.rots.flatMap Gp=x.rots.flatMap fun d=>Gp (BA.mp (fT t) (gT t) 0 d)
 rights:∀d∈x.rights,Ej d=Ej (B6.mp (fT t) (gT t) 0 d)
 duties:∀d∈x.duties,Fb d=Fb (D6.mp (fT t) (gT t) 0 d)
 reaches:x.reaches.map (·.frm)=(x.reaches.mapIdx (AD.mp (fT t) (gT t))).map (·.frm)
end
section
variable{t:Tb}{i:Nat}
end
def Av(x:Ax):List (ByteArray × Ex):=x.lets.map fun d=>(d.name,d.value)
def Fx(s:Ax)(x:Ex):Qn × Int:=if BE s=0 then (if (DV (Aq [] (Av s)) 8 x).2=true then ((DV (Aq [] (Av s)) 8 x).1,0) else (Fj,180)) else (Fj,BE s)
def DY(s:Ax)(x:Ex):Dm × Int:=if (Fx s x).2=0 then ((Fx s x).1.dim,0) else (O4,(Fx s x).2)
def Uj(m:Qn × Int):Int:=if m.2=0 then m.1.e else m.2
def Bm(s:Ax)(x:Ex):Rt × Int:=if Uj (Fx s x)=0 then ((Fx s x).1.v,0) else (IP,Uj (Fx s x))
theorem RH{s:Ax}{x y:Ex}(h:DV (Aq [] (Av s)) 8 y=DV (Aq [] (Av s)) 8 x):DY s y=DY s x∧Bm s y=Bm s x:=by
 unfold DY Bm Uj Fx
 rw[h]
 exact ⟨rfl,rfl⟩
theorem RI(s:Ax)(x:Ex):DY s (Fl F9 8 x)=DY s x∧Bm s (Fl F9 8 x)=Bm s x:=
 RH (KJ _ F9 (fun l e=>Pz _ l e) 8 8 x)
mutual
def Fg:Nat->Ex->Nat
 |0,_=>0
 |k+1,.mk _ _ _ _ _ args=>EM k args
def EM:Nat->List Ex->Nat
 |_,[]=>0
 |k,e::r=>max (1+Fg k e) (EM k r)
end
mutual
theorem Mq:∀(k:Nat) (e:Ex),Fg k e=min (AB e) k
 |0,e=>by rw[Fg];omega
 |k+1,.mk op n u rn ri args=>by rw[Fg,AB,J9 k args]
theorem J9:∀(k:Nat) (l:List Ex),EM k l=min (AX l) (k+1)
 |k,[]=>by rw[EM,AX];omega
 |k,e::r=>by rw[EM,AX,Mq k e,J9 k r];omega
end
structure Ni where
 x:Ex
 there:Bool
 dim:Dm
def CN:Dm:=⟨0,1,0⟩
def AW:Dm:=⟨1,0,0⟩
def Gu:Dm:=⟨0,0,1⟩
def ID:Dm:=⟨1, -1,0⟩
def Gv:Dm:=⟨1,0, -1⟩
def FI(d:Dm)(there:Bool)(l:List Ex):List Ni:=l.map fun x=>⟨x,there,d⟩
def Tk(d:DD):List Ni:=FI Gv true [d.need]
def MZ(d:AD):List Ni:=FI CN true [d.delay]++(FI ID true [d.cap]++(FI AW true [d.bank,d.evap0,d.evap1]++(FI AW (!BJ d.siphon) [d.siphon]++FI O4 true [d.seep0,d.seep1])))
def PK(d:CV):List Ni:=FI Gu (!d.river) [d.area]
def VF(d:BA):List Ni:=FI ID true [d.flow]++(FI CN true [d.frm,d.to]++d.turns.flatMap fun k=>FI CN true [k.len])
def Ul(d:B6):List Ni:=FI ID (decide (d.kind=1)) [d.flow]++(FI CN (!decide (d.kind=2)) [d.frm,d.to]++FI CN (decide (d.kind=1)&&(!BJ d.every||!BJ d.len)) [d.every,d.len])
def V3(d:D6):List Ni:=FI CN true [d.due]
def Cl(x:Ax):List Ni:=FI CN true [x.season]++(FI AW true [x.cap,x.start]++(x.crops.flatMap Tk++(x.reaches.flatMap MZ++(x.farms.flatMap PK++(x.rots.flatMap VF++(x.rights.flatMap Ul++x.duties.flatMap V3))))))
def Ja(a:List Kn)(p:Ni):Bool:=if p.there=true then (DV a 8 p.x).2&&decide ((DV a 8 p.x).1.dim=p.dim) else BJ p.x
def Ek(x:Ax):Int:=if BE x=0 then (if (Aq [] (Av x)).all (fun k=>k.ok)=true then (if (Cl x).all (Ja (Aq [] (Av x)))=true then 0 else 180) else 180) else BE x
def G9:ByteArray:={data:=#[]}
def Bo(n u:Int):Ex:=.mk 1 n u G9 0 []
def Ls(o:Int)(a b:Ex):Ex:=.mk o 0 0 G9 0 [a,b]
def La:Ex:=.mk 0 0 0 G9 0 []
def sW:ByteArray:={data:=#[119]}
def sK:ByteArray:={data:=#[107]}
def sC:ByteArray:={data:=#[99]}
def sR:ByteArray:={data:=#[114]}
def sF:ByteArray:={data:=#[102]}
def BO:Ex:=Ls 6 (Bo 40 1) (Bo 1 3)
def Uo(cap:Ex):AD:=⟨sR,⟨G9,0⟩,Bo 1 3,cap,Bo 90 1,La,Bo 0 1,Bo 2 1,Bo 0 0,Ls 6 (Bo 1 0) (Bo 8 0)⟩
def DO(cap:Ex):Ax:=⟨sW,Bo 1 4,Bo 5 2,.mk 2 0 0 sK 0 [],[⟨sK,Bo 3 2⟩],[⟨sC,Ls 6 (Bo 7 1) (Bo 1 5)⟩],[Uo cap],[⟨sF,⟨sR,0⟩,false,Bo 20 5,⟨sC,0⟩⟩],[],[],[]⟩
def Tq:Ex:=Ls 6 (Bo 3 2) (Bo 2 3)
theorem RQ:Ek (DO BO)=0:=by kernel_rfl
theorem PT:Ek (DO (Bo 40 1))=180:=by kernel_rfl
theorem Tr:DY (DO BO) Tq=(⟨1, -1,0⟩,0):=by kernel_rfl
theorem RR:Bm (DO BO) Tq=(⟨1500,1⟩,0):=by kernel_rfl
theorem Up:(DY (DO BO) (Ls 3 (Bo 3 1) (Bo 4 3))).2=180:=by kernel_rfl
theorem Ts:Bm (DO BO) (Ls 4 (Bo 1 4) (Bo 30 3))=(⟨-6,1⟩,0):=by kernel_rfl
theorem Uq:(Bm (DO BO) (Ls 6 (Bo 1 0) (Bo 0 0))).2=120:=by kernel_rfl
theorem RS:(Bm (DO BO) (Bo 1073741825 0)).2=2:=by kernel_rfl
theorem Tt:(Bm (DO BO) La).2=180:=by kernel_rfl
theorem RT:Bm (DO BO) (DO BO).start=(⟨3000,1⟩,0):=by kernel_rfl
structure Ws (a b c:Int):Prop where
 a1:1<=a
 a3:a<=3
 b1:1<=b
 b3:b<=3
 c1:1<=c
 c3:c<=3
section
variable{a b c:Int}
end
end Go.Proofs.YtjofgpfocadomaaGreatDoor

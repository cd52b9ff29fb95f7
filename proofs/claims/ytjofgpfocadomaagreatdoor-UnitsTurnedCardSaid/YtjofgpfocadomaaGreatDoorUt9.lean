/- Parts of the proof, in short words: Gj Gl Sa Sb Sc Sd Se Sf Sg Sh Si Vd Ed Ee Ei Ej Eg -/
import Derived.Test.YtjofgpfocadomaaGreatDoorUt0
import Derived.Test.YtjofgpfocadomaaGreatDoorUt8
import Derived.Deep.Cut
import Derived.Test.YtjofgpfocadomaaGreatDoorUt7
import Derived.BigFrameIn
set_option maxRecDepth 100000
set_option maxHeartbeats 16000000
set_option linter.unusedSimpArgs false
namespace Go.Proofs.YtjofgpfocadomaaGreatDoor
open Go.RowKit
set_option linter.unusedSimpArgs false
def Qn.row(q:Qn):LV:=[.int .i64 q.dim.l,.int .i64 q.dim.h,.int .i64 q.dim.a,.int .i64 q.v.n,.int .i64 q.v.d,.int .i64 q.e]
def Qn.val(q:Qn):Value:=.agg #[.int .i64 q.dim.l,.int .i64 q.dim.h,.int .i64 q.dim.a,.int .i64 q.v.n,.int .i64 q.v.d,.int .i64 q.e]
def VX(cs:LV)(k:Kn):Prop:=cs=[.string k.name,.int .i64 k.q.dim.l,.int .i64 k.q.dim.h,.int .i64 k.q.dim.a,.int .i64 k.q.v.n,.int .i64 k.q.v.d,.int .i64 k.q.e,.bool k.ok]
def OW(w:World)(h:Au)(a:List Kn):Prop:=BL (fun b=>b < w.heap.size) w 8 VX h a
def Oc(q:Qn × Bool)(w:World)(e:Ending)(w':World):Prop:=e=.returned (.tuple #[q.1.val,.bool q.2])∧Below w.heap.size w w'
theorem KM(rn:ByteArray)(ri:Int)(w:World):(Op.equalIn 10000 23 (.agg #[.string rn,.int .i64 ri]) (.agg #[.string {data:=#[]},.int .i64 0])).run Tryz.prog w=.ok (CT rn ri) w:=by
 have e:CT rn ri=(decide (rn.toList=[])&&decide (ri=0)):=by
  unfold CT
  rw[xA]
  simp only[z7,yG,Dx]
 rw[e]
 by_cases h1:rn.toList=[]
 ·by_cases h2:ri=0
  ·subst h2
   go_simp
  ·have a:(ri==0)=false:=by simpa using h2
   go_simp
 ·go_simp
theorem Cs{W:World}{b:Nat}{x0 e a c d f:Value}{t:TypeId}(h:W.heap[b]?=some (.cells #[x0,e,a,c,d,f] t (0,0))):W.cell? ⟨b,0,none⟩=some x0∧W.cell? ⟨b,1,none⟩=some e∧W.cell? ⟨b,2,none⟩=some a∧W.cell? ⟨b,3,none⟩=some c∧W.cell? ⟨b,4,none⟩=some d∧W.cell? ⟨b,5,none⟩=some f:=by
 refine ⟨?_,?_,?_,?_,?_,?_⟩<;>simp[World.cell?,h]
theorem E1{W:World}{b n:Nat}{cs:Array Value}{t:TypeId}(h:W.heap[b]?=some (.cells cs t (0,0))):W.frozen? ⟨b,n,none⟩=false:=by
 simp[World.frozen?,h]
theorem Ct{W:World}{b:Nat}{x0 l i j k m:Value}{t:TypeId}(h:W.heap[b]?=some (.cells #[x0,l,i,j,k,m] t (0,0)))(c a f d e g:Value):
  Bh W ((((((W.setCell ⟨b,0,none⟩ c).setCell ⟨b,1,none⟩ a).setCell ⟨b,2,none⟩ f).setCell ⟨b,3,none⟩ d).setCell ⟨b,4,none⟩ e).setCell ⟨b,5,none⟩ g) b [c,a,f,d,e,g] t:=
 Ab b t [c,a,f,d,e,g] 0 W [] [x0,l,i,j,k,m] [] h rfl rfl
structure Nf (w:World) (cs:List Value) (q:Qn) (W:World):Prop where
 below:Below w.heap.size w W
 x:W.heap[w.heap.size]?=some (.cells cs.toArray 26 (0,0))
 q:W.heap[w.heap.size+1]?=some (.cells q.row.toArray 70 (0,0))
theorem Nf.lt{w:World}{cs:LV}{q:Qn}{W:World}(h:Nf w cs q W):w.heap.size+1 < W.heap.size:=(yd.1 h.q).1
theorem Nf.up{w:World}{cs:LV}{q:Qn}{W W':World}(h:Nf w cs q W)(a:Below W.heap.size W W'):Nf w cs q W':=by
 have b:=h.lt
 exact ⟨h.below.trans (a.mono (by omega)),(a.block _ (by omega)).trans h.x,(a.block _ (by omega)).trans h.q⟩
theorem Nf.set{w:World}{cs:LV}{q q':Qn}{W W':World}(h:Nf w cs q W)(a:Bh W W' (w.heap.size+1) q'.row 70):Nf w cs q' W':=
 ⟨a.below h.below (by omega),(a.block _ (by omega)).trans h.x,a.row⟩
theorem Nf.drew{w:World}{cs:LV}{q:Qn}{W:World}(h:Nf w cs q W):Nf w cs q W.drew:=⟨h.below.drew,h.x,h.q⟩
theorem Nf.new(w:World)(cs:LV):Nf w cs Fm ((w.alloc (.cells cs.toArray 26)).alloc (.cells #[.int .i64 0,.int .i64 0,.int .i64 0,.int .i64 0,.int .i64 0,.int .i64 0] 70)):=by
 have h:=World.alloc_heap_new (w.alloc (.cells cs.toArray 26)) (.cells jb 70)
 simp only[z8] at h
 exact ⟨((yg _ _).alloc (yf _) _).alloc (by simp) _,(yD _ _ _ (by simp)).trans (World.alloc_heap_new w _),h⟩
def ID(n u:Int)(rn:ByteArray)(ri:Int)(m:Nat):Prop:=¬ (m=0∧CT rn ri=true∧0<=n∧n<=O5∧0<=u∧u<=5)
instance (n u:Int) (rn:ByteArray) (ri:Int) (m:Nat):Decidable (ID n u rn ri m):=by unfold ID;infer_instance
theorem UN(known:Value)(left:Int)(n u:Int)(rn:ByteArray)(ri:Int)(a:Option Addr)(m cap:Nat)(w:World)(hg:GU w):
  Calls Tryz.prog 38 #[known,.agg #[.int .i64 1,.int .i64 n,.int .i64 u,.string rn,.int .i64 ri,.slice a m cap],.int .i64 left] w (Oc (if ID n u rn ri m then (Fm,false) else (O6 n u,true)) w):=by
 have HG:=yb hg
 clear hg
 have HW:=yb (Nf.new w [.int .i64 1,.int .i64 n,.int .i64 u,.string rn,.int .i64 ri,.slice a m cap])
 have hq:=KM rn ri
 have hgt:Tryz.prog.eqGuardType Tryz.prog.depth 23=false:=by kernel_rfl
 obtain ⟨res,hres⟩:∃res,res=if ID n u rn ri m then (Fm,false) else (O6 n u,true):=⟨_,rfl⟩
 rw[<-hres]
 have HRes:=yb hres
 clear hres
 go_enter Tryz.func38,Tryz.ntmps38
 refine Ah fun K hK=>?_
 go_wp2
 refine hK.o _ _ ?_
 clear hK
 generalize (w.alloc (.cells #[.int .i64 1,.int .i64 n,.int .i64 u,.string rn,.int .i64 ri,.slice a m cap] 26)).alloc (.cells #[.int .i64 0,.int .i64 0,.int .i64 0,.int .i64 0,.int .i64 0,.int .i64 0] 70)=W at HW ⊢
 obtain ⟨x0,x1,x2,x3,x4,x5⟩:=Cs HW.o.x
 go_upto_region 2 with fail
 iterate 6
  obtain ⟨bb,hbb⟩:∃bb:Bool,bb=decide (ID n u rn ri m):=⟨_,rfl⟩
  have HBb:=yb hbb
  clear hbb
 go_cut [48] from 19 (fun c wx=>Hid (c=.bool bb∧wx=W))
 case first=>
  by_cases h1:m=0
  rotate_left
  ·have e1:decide (0 < (m:Int))=true:=by simp;omega
   have f1:0 < m:=by omega
   have g1:¬ m=0:=h1
   have hb:Hid (ID n u rn ri m):=yb (fun h=>h1 (by first|exact h.1|exact h.2.1|exact h.2.2.1|exact h.2.2.2.1|exact h.2.2.2.2.1|exact h.2.2.2.2.2))
   clear h1
   go_wp2
   go_meet
   case rel=>exact yb ⟨yF Value.bool (HBb.o.trans (xm hb.o)).symm,rfl⟩
  have e1:decide (0 < (m:Int))=false:=by simp;omega
  subst h1
  by_cases h2:CT rn ri=true
  rotate_left
  ·have e2:CT rn ri=false:=by simpa using h2
   have hb:Hid (ID n u rn ri 0):=yb (fun h=>h2 (by first|exact h.1|exact h.2.1|exact h.2.2.1|exact h.2.2.2.1|exact h.2.2.2.2.1|exact h.2.2.2.2.2))
   clear h2
   go_wp2
   go_meet
   case rel=>exact yb ⟨yF Value.bool (HBb.o.trans (xm hb.o)).symm,rfl⟩
  have e2:CT rn ri=true:=h2
  by_cases h3:0<=n
  rotate_left
  ·have e3:decide (n < 0)=true:=by simp;omega
   have hb:Hid (ID n u rn ri 0):=yb (fun h=>h3 (by first|exact h.1|exact h.2.1|exact h.2.2.1|exact h.2.2.2.1|exact h.2.2.2.2.1|exact h.2.2.2.2.2))
   clear h2 h3
   go_wp2
   go_meet
   case rel=>exact yb ⟨yF Value.bool (HBb.o.trans (xm hb.o)).symm,rfl⟩
  have e3:decide (n < 0)=false:=by simp;omega
  by_cases h4:n<=O5
  rotate_left
  ·have e4:decide (1099511627776 < n)=true:=by simp[O5] at h4 ⊢;omega
   have hb:Hid (ID n u rn ri 0):=yb (fun h=>h4 (by first|exact h.1|exact h.2.1|exact h.2.2.1|exact h.2.2.2.1|exact h.2.2.2.2.1|exact h.2.2.2.2.2))
   clear h2 h3 h4
   go_wp2
   go_meet
   case rel=>exact yb ⟨yF Value.bool (HBb.o.trans (xm hb.o)).symm,rfl⟩
  have e4:decide (1099511627776 < n)=false:=by simp[O5] at h4 ⊢;omega
  by_cases h5:0<=u
  rotate_left
  ·have e5:decide (u < 0)=true:=by simp;omega
   have hb:Hid (ID n u rn ri 0):=yb (fun h=>h5 (by first|exact h.1|exact h.2.1|exact h.2.2.1|exact h.2.2.2.1|exact h.2.2.2.2.1|exact h.2.2.2.2.2))
   clear h2 h3 h4 h5
   go_wp2
   go_meet
   case rel=>exact yb ⟨yF Value.bool (HBb.o.trans (xm hb.o)).symm,rfl⟩
  have e5:decide (u < 0)=false:=by simp;omega
  by_cases h6:u<=5
  rotate_left
  ·have e6:decide (5 < u)=true:=by simp;omega
   have hb:Hid (ID n u rn ri 0):=yb (fun h=>h6 (by first|exact h.1|exact h.2.1|exact h.2.2.1|exact h.2.2.2.1|exact h.2.2.2.2.1|exact h.2.2.2.2.2))
   clear h2 h3 h4 h5 h6
   go_wp2
   go_meet
   case rel=>exact yb ⟨yF Value.bool (HBb.o.trans (xm hb.o)).symm,rfl⟩
  have e6:decide (5 < u)=false:=by simp;omega
  have hb:Hid (¬ ID n u rn ri 0):=yb (fun h=>h ⟨rfl,h2,h3,h4,h5,h6⟩)
  clear h2 h3 h4 h5 h6
  go_wp2
  go_meet
  case rel=>exact yb ⟨yF Value.bool (HBb.o.trans (xr hb.o)).symm,rfl⟩
 case rest=>
  obtain ⟨rfl,rfl⟩:=hcut.o
  clear hcut
  have hqr:wc.heap[w.heap.size+1]?=some (.cells #[.int .i64 0,.int .i64 0,.int .i64 0,.int .i64 0,.int .i64 0,.int .i64 0] 70 (0,0)):=HW.o.q
  have HQR:=yb hqr
  cases bb with
  |true=>
   have hr:Hid (res=(Fm,false)):=yb (by rw[HRes.o,yw (yO HBb.o.symm)])
   clear HRes HBb
   obtain ⟨q0,q1,q2,q3,q4,q5⟩:=Cs hqr
   have qf:=fun k=>E1 (n:=k) hqr
   clear hqr
   go_wp2
   have hwr:=Ct HQR.o (.int .i64 0) (.int .i64 0) (.int .i64 0) (.int .i64 0) (.int .i64 0) (.int .i64 0)
   exact A3 (c:=Fm.row) rfl rfl hwr.row j4 rfl (by kernel_rfl) ⟨by rw[hr.o];rfl,hwr.below HW.o.below (by omega)⟩
  |false=>
   have hr:Hid (res=(O6 n u,true)):=yb (by rw[HRes.o,yt (qo HBb.o.symm)])
   have hnb:Hid (0<=n∧n<=O5):=yb (by
    have h:=qo HBb.o.symm
    unfold ID at h
    exact ⟨(Decidable.not_not.1 h).2.2.1,(Decidable.not_not.1 h).2.2.2.1⟩)
   clear HRes HBb hqr
   have HG1:=yb (HG.o.up HW.o.below)
   have HU:Hid (∀W,GU W->Calls Tryz.prog 76 #[.int .i64 u] W fun e w'=>e=.returned (.tuple #[(H2 u).v,.int .i64 (G5 u)])∧Below W.heap.size W w'):=yb (fun W hW=>SV u W hW)
   have hNq:O6 n u=if Dr / G5 u < n then ⟨H2 u,IP,2⟩ else ⟨H2 u,⟨G5 u*n,1⟩,0⟩:=rfl
   rw[hNq] at hr
   clear hNq
   have hk3:G5 u=1∨G5 u=1000∨G5 u=24:=by
    unfold G5
    split
    ·exact .inr (.inl rfl)
    ·split
     ·exact .inr (.inr rfl)
     ·exact .inl rfl
   generalize G5 u=k at*
   generalize H2 u=d at*
   obtain ⟨dl,dh,da⟩:=d
   unfold Dm.v at HU
   dsimp only at HU
   obtain ⟨t,ht⟩:∃t:Int,t=(1073741824:Int).tdiv k:=⟨_,rfl⟩
   have ht1:t=Dr / k:=by rw[ht];unfold Dr;rw[Int.tdiv_eq_ediv_of_nonneg (by omega)]
   have ht2:(1073741824:Int).tdiv k=t:=ht.symm
   have ht3:wrap64 t=t:=AS (by unfold Dr at ht1;rcases hk3 with rfl|rfl|rfl<;>omega)
   have ht5:(1073741824:Int) / k=t:=ht1.symm
   have hk0:¬ k=0:=by omega
   have hkp:wrap64 (k*n)=k*n:=AS (by have:=hnb.o;unfold O5 at this;rcases hk3 with rfl|rfl|rfl<;>omega)
   rw[<-ht1] at hr
   clear ht ht1 hk3 x0 x1 x2 x3 x4 x5
   obtain ⟨x0,x1,x2,x3,x4,x5⟩:=Cs HW.o.x
   have HX2:Hid (∀w2,Below wc.heap.size wc w2->Nf w [.int .i64 1,.int .i64 n,.int .i64 u,.string rn,.int .i64 ri,.slice a m cap] Fm (w2.alloc (.cells #[.int .i64 dl,.int .i64 dh,.int .i64 da] 68))):=yb (fun w2 h=>(HW.o.up h).up ((yg _ _).alloc (yf _) _))
   go_upto_region 5 with (first|(go_at_call 76;refine (HU.o _ HG1.o).mono ?_;rintro e w2 ⟨rfl,hw2⟩;have HW2:=yb (HX2.o w2 hw2);clear hw2))
   have hdr:(w2.alloc (.cells #[.int .i64 dl,.int .i64 dh,.int .i64 da] 68)).heap[w2.heap.size]?=some (.cells #[.int .i64 dl,.int .i64 dh,.int .i64 da] 68 (0,0)):=World.alloc_heap_new _ _
   generalize w2.alloc (.cells #[.int .i64 dl,.int .i64 dh,.int .i64 da] 68)=W3 at HW2 hdr ⊢
   obtain ⟨d0,d1,d2,df0,df1,df2⟩:=GG hdr
   have hqr:W3.heap[w.heap.size+1]?=some (.cells #[.int .i64 0,.int .i64 0,.int .i64 0,.int .i64 0,.int .i64 0,.int .i64 0] 70 (0,0)):=HW2.o.q
   obtain ⟨q0,q1,q2,q3,q4,q5⟩:=Cs hqr
   have qf:=fun k=>E1 (n:=k) hqr
   clear hdr hqr
   go_upto_region 6 with fail
   have HW4:=yb (HW2.o.set (q':=⟨⟨dl,dh,da⟩,IP,0⟩) (Ab (w.heap.size+1) _ [.int .i64 dl,.int .i64 dh,.int .i64 da] 0 W3 [] [.int .i64 0,.int .i64 0,.int .i64 0] [.int .i64 0,.int .i64 0,.int .i64 0] HW2.o.q rfl rfl))
   clear HW2 q0 q1 q2 q3 q4 q5 qf d0 d1 d2 df0 df1 df2 x0 x1 x2 x3 x4 x5
   simp only[World.setCells,yy,Nat.reduceAdd] at HW4
   generalize (((W3.setCell ⟨w.heap.size+1,0,none⟩ (.int .i64 dl)).setCell ⟨w.heap.size+1,1,none⟩ (.int .i64 dh)).setCell ⟨w.heap.size+1,2,none⟩ (.int .i64 da))=W4 at HW4 ⊢
   have x1:=(Cs HW4.o.x).2.1
   by_cases hlt:t < n
   ·have e1:decide (t < n)=true:=by simpa using hlt
    have hfr:Hid (res=(⟨⟨dl,dh,da⟩,IP,2⟩,true)):=yb (by rw[hr.o,yw hlt])
    clear hlt hr
    go_region
    have HW5:=yb HW4.o.drew
    clear HW4 x1
    generalize W4.drew=W5 at HW5 ⊢
    have x1:=(Cs HW5.o.x).2.1
    have hq5:W5.heap[w.heap.size+1]?=some (.cells #[.int .i64 dl,.int .i64 dh,.int .i64 da,.int .i64 0,.int .i64 0,.int .i64 0] 70 (0,0)):=HW5.o.q
    obtain ⟨q0,q1,q2,q3,q4,q5⟩:=Cs hq5
    have qf:=fun k=>E1 (n:=k) hq5
    have HW6:=yb (HW5.o.set (q':=⟨⟨dl,dh,da⟩,IP,2⟩) (Ab (w.heap.size+1) _ [.int .i64 2] 5 W5 [.int .i64 dl,.int .i64 dh,.int .i64 da,.int .i64 0,.int .i64 0] [.int .i64 0] [] hq5 rfl rfl))
    simp only[World.setCells,yy,Nat.reduceAdd] at HW6
    clear hq5
    go_wp2
    have hwr:=Ct HW6.o.q (.int .i64 dl) (.int .i64 dh) (.int .i64 da) (.int .i64 0) (.int .i64 0) (.int .i64 2)
    exact A3 (c:=(⟨⟨dl,dh,da⟩,IP,2⟩:Qn).row) rfl rfl hwr.row j4 rfl (by kernel_rfl) ⟨by rw[hfr.o];rfl,hwr.below HW6.o.below (by omega)⟩
   ·have e1:decide (t < n)=false:=by simpa using hlt
    have hfr:Hid (res=(⟨⟨dl,dh,da⟩,⟨k*n,1⟩,0⟩,true)):=yb (by rw[hr.o,yt hlt])
    clear hlt hr
    go_region
    have HW5:=yb HW4.o.drew
    clear HW4 x1
    generalize W4.drew=W5 at HW5 ⊢
    have x1:=(Cs HW5.o.x).2.1
    have hq5:W5.heap[w.heap.size+1]?=some (.cells #[.int .i64 dl,.int .i64 dh,.int .i64 da,.int .i64 0,.int .i64 0,.int .i64 0] 70 (0,0)):=HW5.o.q
    obtain ⟨q0,q1,q2,q3,q4,q5⟩:=Cs hq5
    have qf:=fun k=>E1 (n:=k) hq5
    have HW6:=yb (HW5.o.set (q':=⟨⟨dl,dh,da⟩,⟨k*n,1⟩,0⟩) (Ab (w.heap.size+1) _ [.int .i64 (k*n),.int .i64 1] 3 W5 [.int .i64 dl,.int .i64 dh,.int .i64 da] [.int .i64 0,.int .i64 0] [.int .i64 0] hq5 rfl rfl))
    simp only[World.setCells,yy,Nat.reduceAdd] at HW6
    clear hq5
    go_wp2
    have hwr:=Ct HW6.o.q (.int .i64 dl) (.int .i64 dh) (.int .i64 da) (.int .i64 (k*n)) (.int .i64 1) (.int .i64 0)
    exact A3 (c:=(⟨⟨dl,dh,da⟩,⟨k*n,1⟩,0⟩:Qn).row) rfl rfl hwr.row j4 rfl (by kernel_rfl) ⟨by rw[hfr.o];rfl,hwr.below HW6.o.below (by omega)⟩
set_option linter.unusedSimpArgs false
def SX(op left n u:Int)(rn:ByteArray)(ri:Int)(m:Nat):Prop:=3<=op∧op<=6∧left≠0∧m=2∧n=0∧u=0∧CT rn ri=true
theorem UP(g:Value)(left:Int)(op n u:Int)(rn:ByteArray)(ri:Int)(a:Option Addr)(m cap:Nat)(w:World)(h1:op≠1)(h2:op≠2)(hb:¬ SX op left n u rn ri m):
  Calls Tryz.prog 38 #[g,.agg #[.int .i64 op,.int .i64 n,.int .i64 u,.string rn,.int .i64 ri,.slice a m cap],.int .i64 left] w (Oc (Fm,false) w):=by
 have e:=yb (Nf.new w [iV op,iV n,iV u,.string rn,iV ri,.slice a m cap])
 have y:=KM rn ri
 have p:Tryz.prog.eqGuardType Tryz.prog.depth 23=false:=by kernel_rfl
 have i:=yb hb
 have z:(op==1)=false:=by simpa using h1
 have T:(op==2)=false:=by simpa using h2
 clear hb h1 h2
 go_enter Tryz.func38,Tryz.ntmps38
 refine Ah fun K h=>?_
 go_wp2
 refine h.o _ _ ?_
 clear h
 generalize (w.alloc (.cells #[iV op,iV n,iV u,.string rn,iV ri,.slice a m cap] 26)).alloc (.cells jb 70)=W at e ⊢
 obtain ⟨x0,M,G,I,Q,D⟩:=Cs e.o.x
 have f:W.heap[w.heap.size+1]?=some (.cells jb 70 (0,0)):=e.o.q
 have d:=yb f
 obtain ⟨R,O,C,E,v,L⟩:=Cs f
 have P:=fun k=>E1 (n:=k) f
 clear f
 refine Ah fun K h=>?_
 clear h
 go_upto_region 14 with fail
 by_cases h1:3<=op
 rotate_left
 ·have t:decide (op < 3)=true:=by simp<;>omega
  clear h1
  go_wp2
  have b:=Ct d.o (iV 0) (iV 0) (iV 0) (iV 0) (iV 0) (iV 0)
  exact A3 (c:=Fm.row) rfl rfl b.row j4 rfl (by kernel_rfl) ⟨rfl,b.below e.o.below (by omega)⟩
 have t:decide (op < 3)=false:=by simp<;>omega
 by_cases h2:op<=6
 rotate_left
 ·have s:decide (6 < op)=true:=by simp<;>omega
  clear h1 h2
  go_wp2
  have b:=Ct d.o (iV 0) (iV 0) (iV 0) (iV 0) (iV 0) (iV 0)
  exact A3 (c:=Fm.row) rfl rfl b.row j4 rfl (by kernel_rfl) ⟨rfl,b.below e.o.below (by omega)⟩
 have s:decide (6 < op)=false:=by simp<;>omega
 by_cases h3:left≠0
 rotate_left
 ·have r:(left==0)=true:=by simpa using h3
  clear h1 h2 h3
  go_wp2
  have b:=Ct d.o (iV 0) (iV 0) (iV 0) (iV 0) (iV 0) (iV 0)
  exact A3 (c:=Fm.row) rfl rfl b.row j4 rfl (by kernel_rfl) ⟨rfl,b.below e.o.below (by omega)⟩
 have r:(left==0)=false:=by simpa using h3
 by_cases l:m=2
 rotate_left
 ·have B:((m:Int)==2)=false:=by simp<;>omega
  have F:((m:Int) !=2)=true:=by simp<;>omega
  clear h1 h2 h3 l
  go_wp2
  have b:=Ct d.o (iV 0) (iV 0) (iV 0) (iV 0) (iV 0) (iV 0)
  exact A3 (c:=Fm.row) rfl rfl b.row j4 rfl (by kernel_rfl) ⟨rfl,b.below e.o.below (by omega)⟩
 subst l
 by_cases h5:n=0
 rotate_left
 ·have J:(n==0)=false:=by simpa using h5
  have S:(n !=0)=true:=by simpa using h5
  clear h1 h2 h3 h5
  go_wp2
  have b:=Ct d.o (iV 0) (iV 0) (iV 0) (iV 0) (iV 0) (iV 0)
  exact A3 (c:=Fm.row) rfl rfl b.row j4 rfl (by kernel_rfl) ⟨rfl,b.below e.o.below (by omega)⟩
 subst h5
 by_cases h6:u=0
 rotate_left
 ·have A:(u==0)=false:=by simpa using h6
  have H:(u !=0)=true:=by simpa using h6
  clear h1 h2 h3 h6
  go_wp2
  have b:=Ct d.o (iV 0) (iV 0) (iV 0) (iV 0) (iV 0) (iV 0)
  exact A3 (c:=Fm.row) rfl rfl b.row j4 rfl (by kernel_rfl) ⟨rfl,b.below e.o.below (by omega)⟩
 subst h6
 by_cases j:CT rn ri=true
 rotate_left
 ·have N:CT rn ri=false:=by simpa using j
  clear h1 h2 h3 j
  go_wp2
  have b:=Ct d.o (iV 0) (iV 0) (iV 0) (iV 0) (iV 0) (iV 0)
  exact A3 (c:=Fm.row) rfl rfl b.row j4 rfl (by kernel_rfl) ⟨rfl,b.below e.o.below (by omega)⟩
 exact absurd ⟨h1,h2,h3,rfl,rfl,rfl,j⟩ i.o
instance:DecidableEq Rf:=fun a b=>decidable_of_iff (a.name=b.name∧a.n=b.n) (by cases a;cases b;simp)
def MV(u:Us):Rf:=⟨u.name,u.n⟩
mutual
def Mh:Ex->List Rf
 |.mk _ _ _ rn ri args=>⟨rn,ri⟩::H3 args
def H3:List Ex->List Rf
 |[]=> []
 |e::r=>Mh e++H3 r
end
def Fx(e:Lk):List Rf:=if BN e.1 then [] else Mh e.1
def Fc(d:D4):List Rf:=[d.on,d.crop]
def Gs(d:BG):List Rf:=d.on::d.turns.flatMap fun k=> [k.farm]
def En(d:Ba):List Rf:=[d.farm,d.reach]
def Fe(d:De):List Rf:=[d.farm,d.reach]
def AW(x:AB):List Rf:=(AD x).flatMap Fx++(((x.farms.flatMap Fc++x.rots.flatMap Gs)++x.rights.flatMap En)++x.duties.flatMap Fe)
def D8(x:AB):List Rf:=AW x++x.reaches.map (·.frm)
def BE(x:AB):Int:=if AI x=0 then (if D8 x=D8 (Al x) then 0 else 170) else AI x
def UA(N:NP)(s b:Nat):Prop:=b=s∨N b
structure KP (N:Nat->Prop) (s:Nat) (w:World) (u:Us):Prop where
 inS:UA N s u.b
 name:w.cell? ⟨u.b,u.o,none⟩=some (.string u.name)
 n:w.cell? ⟨u.b,u.o+1,none⟩=some (.int .i64 u.n)
def CB(K:NP)(p:Addr):Prop:=∃b q,p=⟨b,q,none⟩∧K b
def DB(K:NP)(w:World)(p:Addr):Prop:=∃b q,p=⟨b,q,none⟩∧K b∧∃z,w.cell? ⟨b,q,none⟩=some (.int .i64 z)
theorem Of{K:NP}{w V:World}(h:∀b,K b->V.heap[b]?=w.heap[b]?):VF w (CB K) (DB K w) V:=by
 constructor
 ·rintro p ⟨b,q,rfl,a⟩;exact Ad (h b a)
 ·rintro p ⟨b,q,rfl,a,z,c⟩;exact ⟨z,(Ad (h b a)).trans c⟩
section
variable{N K:NP}{w:World}{s:Nat}
mutual
theorem Mi(lt:Int):∀(e:Ex) (b o:Nat) (cs:LV),UA N s b->AH N w e cs->w.rangeAt b o cs->(∀u∈(Ca w lt e b o).1,KP N s w u)∧((Ca w lt e b o).2=true->(Ca w lt e b o).1.map MV=Mh e)
 |.mk op n u rn ri args,b,o,cs,hb,hv,hr=>by
  rw[AH] at hv
  obtain ⟨a,cap,rfl,h2,h3,f⟩:=hv
  obtain ⟨l,r1,r2,h,i,j⟩:=Br hr
  obtain ⟨k,g⟩:=Mj lt args a args.length cap 0 f
  rw[Ca]
  by_cases hs:Nb op args.length=true
  ·rw[yw hs,j]
   refine ⟨fun v c=>?_,fun d=>?_⟩
   ·rcases yI.1 c with rfl|c
    ·exact ⟨hb,h,i⟩
    ·exact k v c
   ·rw[Mh,zv,g d];rfl
  ·rw[yt hs]
   exact ⟨fun v c=>(by cases c),fun d=>(by cases d)⟩
theorem Mj(lt:Int):∀(l:List Ex) (a:Option Addr) (n cap i:Nat),CL N w a i l->(∀u∈(Bw w lt l (some (.slice a n cap)) i).1,KP N s w u)∧((Bw w lt l (some (.slice a n cap)) i).2=true->(Bw w lt l (some (.slice a n cap)) i).1.map MV=H3 l)
 |[],a,n,cap,i,h=>by rw[Bw];exact ⟨fun v c=>(by cases c),fun _=>rfl⟩
 |e::r,a,n,cap,i,h=>by
  rw[CL] at h
  obtain ⟨⟨b,o,cs,rfl,h1,h2,h3⟩,h5⟩:=h
  obtain ⟨g,m⟩:=Mi lt e b (o+i*6) cs (.inr h1) h3 h2
  obtain ⟨k,j⟩:=Mj lt r (some ⟨b,o,none⟩) n cap (i+1) h5
  rw[Bw]
  by_cases d:(Ca w lt e b (o+i*6)).2=true
  ·simp only[d,zD]
   refine ⟨fun v c=>(yz.1 c).elim (g v) (k v),fun f=>?_⟩
   rw[zF,m d,j f,H3]
  ·simp only[d]
   refine ⟨fun v c=>g v (by simpa using c),fun f=>absurd f (by simp)⟩
end
mutual
theorem T2(hN:∀b,N b->K b):∀(e:Ex) (b o:Nat) (cs:LV),K b->AH N w e cs->w.rangeAt b o cs->QQ w (CB K) e b o
 |.mk op n u rn ri args,b,o,cs,hb,hv,hr=>by
  rw[AH] at hv
  obtain ⟨a,cap,rfl,h2,h3,f⟩:=hv
  obtain ⟨d,r1,r2,h,g,c⟩:=Br hr
  rw[QQ]
  exact ⟨a,cap,⟨d,_,_,rfl,hb⟩,⟨c,_,_,rfl,hb⟩,h2,Qu hN args a 0 f⟩
theorem Qu(hN:∀b,N b->K b):∀(l:List Ex) (a:Option Addr) (i:Nat),CL N w a i l->JA w (CB K) a i l
 |[],a,i,h=>by rw[JA];trivial
 |e::r,a,i,h=>by
  rw[CL] at h
  rw[JA]
  obtain ⟨⟨b,o,cs,rfl,h1,h2,h3⟩,h5⟩:=h
  exact ⟨⟨b,o,rfl,T2 hN e b (o+i*6) cs (hN b h1) h3 h2⟩,Qu hN r _ (i+1) h5⟩
end
end
theorem Mk:∀ {l:List (List Us × Bool)},(BC l).2=true->(BC l).1=l.flatMap (·.1)∧∀p∈l,p.2=true
 |[],_=>by simp[BC]
 |y::r,h=>by
  have e:BC (y::r)=if y.2 then (y.1++(BC r).1,(BC r).2) else (y.1,false):=rfl
  rw[e] at h ⊢
  by_cases h1:y.2=true
  ·rw[yw h1] at h ⊢
   obtain ⟨a,c⟩:=Mk h
   exact ⟨by rw[yW,<-a],fun p b=>(yI.1 b).elim (fun e=>e▸h1) (c p)⟩
  ·rw[yt h1] at h;cases h
theorem Ff{α:Type}{l:List α}{n:Nat}(b:n=l.length){F:Nat->List Us}{f:α->List Rf}(h:∀i (hi:i < l.length),(F i).map MV=f l[i]):((List.range n).flatMap F).map MV=l.flatMap f:=by
 have a:∀k,k<=l.length->((List.range k).flatMap F).map MV=(l.take k).flatMap f:=by
  intro k
  induction k with
  |zero=>simp
  |succ k ih=>
   intro c
   rw[Ak,zF,ih (by omega),h k (by omega),yJ (by omega),zK]
   simp
 rw[b,a _ (yf _),yT]
section
variable{N:NP}{w:World}{L:Bz}{cs:LV}{x:AB}
theorem Og{s:Nat}:∀ {l:List (Array Value)} {m:List Lk},AG (VK N s w) l m->(∀p∈List.zipWith (Co w) l m,∀u∈p.1,KP N s w u)∧((∀p∈List.zipWith (Co w) l m,p.2=true)->((List.zipWith (Co w) l m).flatMap (·.1)).map MV=m.flatMap Fx)
 |[],[],_=>⟨fun p f=>(by cases f),fun _=>rfl⟩
 |a::l,e::m,hA=>by
  rw[AG] at hA
  obtain ⟨⟨b,o,c,rfl,hb,hr,j⟩,h2⟩:=hA
  obtain ⟨r,k⟩:=Og h2
  obtain ⟨q,n⟩:=Mi e.2 e.1 b o c hb j hr
  have d:(∀u∈(Co w #[.pointer (some ⟨b,o,none⟩),.int .i64 e.2] e).1,KP N s w u)∧((Co w #[.pointer (some ⟨b,o,none⟩),.int .i64 e.2] e).2=true->(Co w #[.pointer (some ⟨b,o,none⟩),.int .i64 e.2] e).1.map MV=Fx e):=by
   unfold Co Fx
   by_cases g:BN e.1=true
   ·simp[g]
   ·rw[yt g,yt g];exact ⟨q,n⟩
  rw[xX]
  refine ⟨fun p f=>(yI.1 f).elim (fun h=>h▸d.1) (r p),fun i=>?_⟩
  rw[yW,zF,d.2 (i _ (by simp)),k (fun p f=>i p (by simp[f])),yW]
 |[],_::_,hA=>by simp[AG] at hA
 |_::_,[],hA=>by simp[AG] at hA
theorem EF{h:Au}{b o sz i c:Nat}{cs0 p q:LV}{r:Rf}{s:Nat}(to at_:Int)(e:h.a=some ⟨b,o,none⟩)(hN:N b)(hr:w.rangeAt b (o+i*sz) cs0)(f:cs0=p++(AX r++q))(d:p.length=c):KP N s w (CW (h.at sz i c) to at_ r):=by
 subst f
 have h1:=D0 hr
 rw[d] at h1
 unfold CW
 rw[AR e]
 exact ⟨.inr hN,h1 0 _ rfl,h1 1 _ rfl⟩
theorem PB(h:BT N w L cs x):(∀u∈Cf L x,KP N L.s w u)∧(Cf L x).map MV=((x.farms.flatMap Fc++x.rots.flatMap Gs)++x.rights.flatMap En)++x.duties.flatMap Fe:=by
 constructor
 ·intro u a
  unfold Cf at a
  simp only[yz] at a
  rcases a with ((a|a)|a)|a
  ·obtain ⟨i,hi,a⟩:=yY.1 a
   have j:i < x.farms.length:=by rw[<-h.farms.1];exact zg.1 hi
   obtain ⟨b,o,c,g1,e,n,g,_,_,_,c1,rfl,t⟩:=h.farms.2.2 i j
   unfold Eb at a
   rw[yk j] at a
   simp only[yI,yZ,zH] at a
   generalize x.farms[i]=d at*
   rcases a with rfl|rfl
   ·exact EF (p:=[.string d.name]) _ _ g1 e g rfl rfl
   ·exact EF (p:=.string d.name::(AX d.on++(.bool d.river::c1))) (q:=[]) _ _ g1 e g (by simp) (by simp[Av,t.len])
  ·obtain ⟨i,hi,a⟩:=yY.1 a
   have j:i < x.rots.length:=by rw[<-h.rots.1];exact zg.1 hi
   obtain ⟨b,o,c,g1,e,n,g,_,_,c0,c1,c2,rfl,v,z,y,m⟩:=h.rots.2.2 i j
   unfold Gj at a
   rw[yk j] at a
   generalize x.rots[i]=d at*
   rcases yI.1 a with rfl|a
   ·exact EF (p:=[.string d.name]) _ _ g1 e g rfl rfl
   ·obtain ⟨k,r,a⟩:=yY.1 a
    have l:k < d.turns.length:=by rw[<-m.1];exact zg.1 r
    obtain ⟨b,o,c,g1,e,n,g,_,c1,rfl,t⟩:=m.2.2 k l
    unfold ER at a
    rw[yk l] at a
    simp only[yI,yZ,zH] at a
    rw[a]
    exact EF (p:=[]) _ _ g1 e g rfl rfl
  ·obtain ⟨i,hi,a⟩:=yY.1 a
   have j:i < x.rights.length:=by rw[<-h.rights.1];exact zg.1 hi
   obtain ⟨b,o,c,g1,e,n,g,_,_,_,c0,c1,c2,c3,c4,rfl,_⟩:=h.rights.2.2 i j
   unfold CN at a
   rw[yk j] at a
   simp only[yI,yZ,zH] at a
   generalize x.rights[i]=d at*
   rcases a with rfl|rfl
   ·exact EF (p:=[iV d.kind,.string d.name]) _ _ g1 e g rfl rfl
   ·exact EF (p:=iV d.kind::.string d.name::AX d.farm) _ _ g1 e g rfl rfl
  ·obtain ⟨i,hi,a⟩:=yY.1 a
   have j:i < x.duties.length:=by rw[<-h.duties.1];exact zg.1 hi
   obtain ⟨b,o,c,g1,e,n,g,_,_,_,c0,rfl,_⟩:=h.duties.2.2 i j
   unfold DX at a
   rw[yk j] at a
   simp only[yI,yZ,zH] at a
   generalize x.duties[i]=d at*
   rcases a with rfl|rfl
   ·exact EF (p:=[.string d.name]) _ _ g1 e g rfl rfl
   ·exact EF (p:=.string d.name::AX d.farm) _ _ g1 e g rfl rfl
 ·unfold Cf
  rw[zF,zF,zF,Ff h.farms.1 (f:=Fc) fun i hi=>?_,Ff h.rots.1 (f:=Gs) fun i hi=>?_,Ff h.rights.1 (f:=En) fun i hi=>?_,Ff h.duties.1 (f:=Fe) fun i hi=>?_]
  ·unfold DX;rw[yk hi];rfl
  ·unfold CN;rw[yk hi];rfl
  ·obtain ⟨_,_,_,_,_,_,_,_,_,_,_,_,_,_,_,_,m⟩:=h.rots.2.2 i hi
   unfold Gj;rw[yk hi]
   simp only[zv]
   rw[Ff m.1 (f:=fun k:Cq=> [k.farm]) fun k r=>?_]
   ·rfl
   ·unfold ER;rw[yk r];rfl
  ·unfold Eb;rw[yk hi];rfl
theorem Ml(h:BT N w L cs x)(hr:w.rangeAt L.s 0 cs):(∀u∈(BU w L x).1,KP N L.s w u)∧((BU w L x).2=true->(BU w L x).1.map MV=AW x):=by
 obtain ⟨f,d⟩:=Og (Ig h hr)
 obtain ⟨e,g⟩:=PB h
 constructor
 ·intro u b
  obtain ⟨p,a,b⟩:=IA b
  unfold Eg at a
  rcases yz.1 a with a|a
  ·exact f p a u b
  ·simp only[ze] at a
   rw[a] at b
   simp only at b
   split at b
   ·exact e u b
   ·cases b
 ·intro k
  obtain ⟨i,c⟩:=Mk k
  unfold BU
  rw[i]
  unfold Eg
  have j:Cb x=true:=by
   have:=c (if Cb x then Cf L x else [],Cb x) (by unfold Eg;simp)
   exact this
  rw[zK,zF]
  unfold Dy
  rw[d (fun p a=>c p (by unfold Eg Dy;simp[a]))]
  simp only[yW,zt,yV,j,zD]
  rw[g];rfl
theorem MW(h:BT N w L cs x)(c:BF x=true):(Cf L x).length<=1000000:=by
 obtain ⟨g,f,p,l,s,o,q,d,_⟩:=Fa c
 unfold Cf
 simp only[ym]
 have r:((List.range L.farms.n).flatMap (Eb L.farms x.farms)).length<=L.farms.n*2:=Ft _ fun i=>by unfold Eb;split<;>simp
 have m:((List.range L.rots.n).flatMap (Gj L x.rots)).length<=L.rots.n*66:=NR _ fun i hi=>by
  have a:i < x.rots.length:=by rw[<-h.rots.1];exact hi
  obtain ⟨_,_,_,_,_,_,_,_,_,_,_,_,_,_,_,_,e⟩:=h.rots.2.2 i a
  have b:((List.range (A2 L i).n).flatMap (ER (A2 L i) (x.rots[i]).turns)).length<=(A2 L i).n*1:=Ft _ fun k=>by unfold ER;split<;>simp
  have:=d _ (yM a)
  have:=e.1
  unfold Gj
  rw[yk a]
  simp only[yx]
  omega
 have b:((List.range L.rights.n).flatMap (CN L.rights x.rights)).length<=L.rights.n*2:=Ft _ fun i=>by unfold CN;split<;>simp
 have j:((List.range L.duties.n).flatMap (DX L.duties x.duties)).length<=L.duties.n*2:=Ft _ fun i=>by unfold DX;split<;>simp
 have:=h.farms.1;have:=h.rots.1;have:=h.rights.1;have:=h.duties.1
 omega
theorem Oh(h:BT N w L cs x)(hr:w.rangeAt L.s 0 cs){Bu:Nat}(g:w.cell? ⟨Bu,0,none⟩=some (.pointer (some ⟨L.s,0,none⟩)))(m:BF x=true):Kc N w (CB fun b=>UA N L.s b∨b=Bu) (DB (fun b=>UA N L.s b∨b=Bu) w) Bu L x:=by
 refine ⟨h.ok,Kb h hr g,⟨Bu,0,rfl,.inr rfl⟩,fun j _ _=>⟨L.s,j,rfl,.inl (.inl rfl)⟩,fun i hi=>?_,fun i hi=>?_,fun i hi=>?_,?_,h.farms.1,h.rots.1,fun i hi=>?_,h.rights.1,h.duties.1,NS (Fa m).1,MW h m⟩
 ·obtain ⟨b,o,c,g1,f,_⟩:=h.rots.2.2 i (by rw[<-h.rots.1];exact hi)
  rw[AR g1]
  exact ⟨_,_,rfl,.inl (.inr f)⟩
 ·obtain ⟨b,o,c,g1,f,q,l,_,_,_,c1,rfl,u⟩:=h.farms.2.2 i hi
  rw[AR g1]
  exact ⟨⟨_,_,rfl,.inl (.inr f)⟩,l 3 _ rfl⟩
 ·obtain ⟨b,o,c,g1,f,q,l,_,_,_,c0,c1,c2,c3,c4,rfl,_⟩:=h.rights.2.2 i hi
  rw[AR g1]
  exact ⟨⟨_,_,rfl,.inl (.inr f)⟩,l 0 _ rfl⟩
 ·refine AG.mono (fun a e n=>?_) (Ig h hr)
  obtain ⟨b,o,c,rfl,hb,d,k⟩:=n
  have t:=T2 (K:=fun b=>UA N L.s b∨b=Bu) (fun b hb=>.inl (.inr hb)) e.1 b o c (.inl hb) k d
  obtain ⟨a,cap,rfl,z,y,v⟩:=k.cells
  obtain ⟨C,r1,r2,A,r,B⟩:=Br d
  exact ⟨b,o,_,rfl,d,k,t,⟨_,_,rfl,.inl hb⟩,⟨_,_,rfl,.inl hb⟩,⟨_,_,rfl,.inl hb⟩,⟨_,_,rfl,.inl hb,_,r⟩,fun _=>⟨_,_,rfl,.inl hb⟩⟩
 ·obtain ⟨_,_,_,_,_,_,_,_,_,_,_,_,_,_,_,_,p⟩:=h.rots.2.2 i hi
  exact p.1
end
def Cx(B:Nat)(w:World)(v:Value)(l:List Rf):Prop:=w.ownsRow B 23 2 v l.length (l.flatMap AX)
theorem Rl(B:Nat)(w:World):Cx B w (.slice none 0 0) []:=⟨rfl,.inl ⟨rfl,rfl⟩⟩
theorem Cx.up{B:Nat}{w w':World}{v:Value}{l:List Rf}(h:Cx B w v l)(hb:∀g,v.ownBlock=some g->g < w.heap.size->w'.heap[g]?=w.heap[g]?):Cx B w' v l:=by
 obtain ⟨h1,h2⟩:=h
 refine ⟨h1,h2.imp id ?_⟩
 rintro ⟨g,cap,a,rfl,b,h5,h6⟩
 exact ⟨g,cap,a,rfl,b,(hb g rfl (yd.1 h5).1).trans h5,h6⟩
theorem MX{B:Nat}{W:World}{v:Value}{l:List Rf}(d:Cx B W v l)(r:Rf)(ty:TypeId)(g c:Nat)(F:W.heap[g]?=some (.cells #[.string r.name,.int .i64 r.n] 23 (0,0)))(y:l.length+1<=1000000000){v':Value}{w':World}
 (a:(Builtin.append_ #[81,81] ty #[v,.slice (some ⟨g,0,none⟩) 1 c]).run Tryz.prog W=.ok v' w'):v'.ownBlock=v.ownBlock∨v'.ownBlock=some W.heap.size:=by
 have h:(Tryz.prog.info? 23).map (fun i=>(i.zero,i.size,i.bytes))=some (some (.agg #[.string ⟨#[]⟩,iV 0]),2,24):=by kernel_rfl
 obtain ⟨q,hi,o,e,p⟩:=info_parts h
 have b:∀j u,(AX r)[j]?=some u->W.cell? (((aV g 0):Addr).add j)=some u:=fun j u z=>by
  rw[zB]
  simp only[World.cell?,F]
  unfold AX at z
  simpa using z
 have s:(AX r).length=1*q.size:=by rw[e];rfl
 rcases d.2 with ⟨rfl,G⟩|⟨k,cap,x,rfl,D,C,E,A,w,t⟩
 ·rw[run_append_nil W 81 ty 23 q _ j6 hi o (aV g 0) 1 c (AX r) s b (by omega) (by omega) (by rw[p];omega)] at a
  cases a
  exact .inr rfl
 ·by_cases m:l.length+1<=cap
  ·rw[run_append_room W 81 ty 23 q j6 hi k l.length cap x C (aV g 0) 1 c (AX r) s b (Ek r) m (by rw[e,w];show l.length*2+2<=cap*2;omega)] at a
   cases a
   exact .inl rfl
  ·have f:∀j u,(l.flatMap AX)[j]?=some u->W.cell? (((aV k 0):Addr).add j)=some u:=World.ownsRow.cells d (g:=k) rfl
   rw[run_append_grow W 81 ty 23 q _ j6 hi o (aV k 0) l.length cap (l.flatMap AX) (by rw[e];exact d.1) f (aV g 0) 1 c (AX r) s b (by omega) (by omega) (growslice_fits (by omega) (by rw[p];omega))] at a
   cases a
   exact .inr rfl
theorem Et{o:Oper}{a:Act}{K:Act->World->Prop}{Q:QT}{W:World}(B:Nat)(s x:Operand)(A:o.op=.call {callee:=.builtin .append,args:=#[s,x],argTypes:=#[81,81]})
 (v:Value)(l:List Rf)(hs:a.eval s=v)(b:Cx B W v l)(r:Rf)(g c:Nat)(z:a.eval x=.slice (some ⟨g,0,none⟩) 1 c)(w:W.heap[g]?=some (.cells #[.string r.name,.int .i64 r.n] 23 (0,0)))(k:l.length+1<=1000000000)(d:B<=W.heap.size)
 (h:∀v' w',Cx B w' v' (l++[r])->W.grownBy w' v.ownBlock->(v'.ownBlock=v.ownBlock∨v'.ownBlock=some W.heap.size)->K (a.put o.dst v') w'):Oper.wp Tryz.prog o a W K Q:=by
 have e:(Tryz.prog.info? 23).map (fun i=>(i.zero,i.size,i.bytes))=some (some (.agg #[.string ⟨#[]⟩,iV 0]),2,24):=by kernel_rfl
 obtain ⟨y,hi,p,m,q⟩:=info_parts e
 have f:∀j u,(AX r)[j]?=some u->W.cell? (((aV g 0):Addr).add j)=some u:=fun j u t=>by
  rw[zB]
  simp only[World.cell?,w]
  unfold AX at t
  simpa using t
 obtain ⟨v',w',hr,h2,h3,_⟩:=run_append_own (P:=Tryz.prog) W B 81 o.type 23 y _ 2 24 j6 hi p m q rfl (by decide) v l.length _ b (aV g 0) 1 c (AX r) rfl f (Ek r) (by unfold maxLen;omega) (by omega) d
 have hb:=MX b r o.type g c w k hr
 unfold Oper.wp
 simp[execOp,A,resolve,invoke,builtin,hs,z,hr,Result.andThen]
 refine h v' w' ?_ h3 hb
 unfold Cx
 rw[ym,zK]
 simpa using h2
structure T3 (W:World) (base:Nat) (va:Value) (ls:List Rf) (r:Rf) (w1:World) (v:Value):Prop where
 own:Cx base w1 v (ls++[r])
 grown:W.grownBy w1 va.ownBlock
 blk:v.ownBlock=va.ownBlock∨∃g,v.ownBlock=some g∧W.heap.size<=g
def U5(w:World)(v:Value)(r:Rf):Prop:=∃g,v=.slice (some ⟨g,0,none⟩) 1 1∧w.heap[g]?=some (.cells #[.string r.name,.int .i64 r.n] 23 (0,0))
theorem U5.up{w w':World}{v:Value}{r:Rf}(h:U5 w v r)(hb:Below w.heap.size w w'):U5 w' v r:=by
 obtain ⟨g,h1,h2⟩:=h
 exact ⟨g,h1,(hb.block g (yd.1 h2).1).trans h2⟩
structure Oj (W:World) (base:Nat) (va:Value) (ls:List Rf) (r:Rf) (Bx s24 s25:Nat) (l:Array Bool) (tm:Array Value) (w:World):Prop where
 one:l.getD 6 false=false->Below W.heap.size W w∧(l.getD 5 false=true->U5 w (tm.getD s24 undef) r)
 two:l.getD 6 false=true->l.getD 7 false=false->T3 W base va ls r w (tm.getD s25 undef)
 three:l.getD 7 false=true->∃w1 v,T3 W base va ls r w1 v∧w=w1.setCell ⟨Bx,0,none⟩ v
theorem Oj.quiet{W:World}{base:Nat}{va:Value}{ls:List Rf}{r:Rf}{Bx a b:Nat}{l:Array Bool}{tm:Array Value}{w w2:World}{i t:Nat}{v:Value}(h:Oj W base va ls r Bx a b l tm w)(f:l.getD 6 false=false)(k:l.getD 7 false=false)(c:i≠5)(d:i≠6)(e:i≠7)(j:t < a)(hb:Below w.heap.size w w2):Oj W base va ls r Bx a b (l.setIfInBounds i true) (tm.setIfInBounds t v) w2:=by
 obtain ⟨h1,h2⟩:=h.one f
 refine ⟨fun _=>⟨h1.trans (hb.mono h1.size),fun h5=>?_⟩,fun h6=>?_,fun g=>?_⟩
 ·rw[A9 c] at h5
  rw[Bq (Nat.ne_of_lt j)]
  exact (h2 h5).up hb
 ·rw[A9 d,f] at h6;cases h6
 ·rw[A9 e,k] at g;cases g
def Vr(va:Value)(b6 ub uo:Nat)(r:Rf)(j:Nat)(v:Value)(_:World):Prop:=match j with
 |0=>v=va
 |1=>v=.pointer (some ⟨b6,0,none⟩)
 |2=>v=.pointer (some ⟨ub,uo,none⟩)
 |3=>v=.pointer (some ⟨ub,uo,none⟩)
 |4=>v=.agg #[.string r.name,.int .i64 r.n]
 |_=>True
theorem VO{N:Act}{W0:World}{Q:QT}{l n Bx b6 ub uo base:Nat}{va:Value}{ls:List Rf}{r:Rf}(ops:Array Oper)(E:DN Tryz.f17 7=some ops)
 (V:N.tmps.getD 4 undef=.pointer (some ⟨Bx,0,none⟩))(aa:N.tmps.getD 6 undef=.pointer (some ⟨b6,0,none⟩))(hz:N.tmps.size=64)
 (U:Bx < W0.heap.size)(a8:b6 < W0.heap.size)(T:ub < W0.heap.size)(O:∃u,W0.heap[Bx]?=some (.cells #[u] 81 (0,0)))(s:W0.cell? ⟨Bx,0,none⟩=some va)(C:W0.cell? ⟨b6,0,none⟩=some (.pointer (some ⟨ub,uo,none⟩)))
 (x:W0.cell? ⟨ub,uo,none⟩=some (.string r.name))(D:W0.cell? ⟨ub,uo+1,none⟩=some (.int .i64 r.n))(F:Cx base W0 va ls)(P:ls.length+1<=1000000000)(I:base<=W0.heap.size)(ab:Bx < base)
 (hQ:∀(a:Act) w1 v,a.tmps.size=64->a.defers=N.defers->(∀t,(t < 19∨25 < t)->a.tmps.getD t undef=N.tmps.getD t undef)->T3 W0 base va ls r w1 v->Q .normal a (w1.setCell ⟨Bx,0,none⟩ v)):
  (Code.region 7 ops true).wpIn (Fence.wide.inRound l) n Tryz.prog Q N W0:=by
 obtain rfl:=yi ((rfl:DN Tryz.f17 7=some _).symm.trans E)
 clear E
 refine G7 (by kernel_rfl) (Oj W0 base va ls r Bx 24 25) (Vr va b6 ub uo r) (fun _ _ _=>True) (by kernel_rfl) (by rw[hz];kernel_rfl) (by kernel_rfl) (by kernel_rfl) (fun _ j v w w' _ _ _ h=>by unfold Vr at h ⊢;exact h) ⟨fun _=>⟨(yg _ _).drew,fun h=>(by cases h)⟩,fun h=>(by cases h),fun h=>(by cases h)⟩ ?_ ?_
 ·intro ix b a w' hM f o A
  have y:=yb hM.ext
  have K:=(yd.1 A).1
  have J:=hM.size
  have H:b.getD 6 false=false->b.getD 7 false=false:=fun i=>by
   rw[yn];intro B
   have:=A1 hM.down 8 7 6 (by kernel_rfl) B
   rw[i] at this;cases this
  match ix,K with
  |0,_=>
   have d:=hM.old f 4 (by kernel_rfl) _ V
   have i:b.getD 6 false=false:=by
    rw[yn];intro h6
    have:=A1 hM.down 8 6 0 (by kernel_rfl) h6
    rw[hM.not_yet f] at this;cases this
   have hb:=(y.o.one i).1
   have q:=yb i
   have m:=yb (H i)
   clear i
   have c:=(hb.cell (p:=(aV Bx 0)) U).trans s
   clear s x D C
   obtain rfl:=yi A
   go_simp
   exact ⟨_,rfl,y.o.quiet q.o m.o (by decide) (by decide) (by decide) (by decide) (yg _ _),trivial,rfl⟩
  |1,_=>
   have d:=hM.old f 6 (by kernel_rfl) _ aa
   have i:b.getD 6 false=false:=by
    rw[yn];intro h6
    have:=A1 hM.down 8 6 1 (by kernel_rfl) h6
    rw[hM.not_yet f] at this;cases this
   have hb:=(y.o.one i).1
   have q:=yb i
   have m:=yb (H i)
   clear i s x D C
   obtain rfl:=yi A
   go_simp
   exact ⟨_,rfl,y.o.quiet q.o m.o (by decide) (by decide) (by decide) (by decide) (yg _ _),trivial,rfl⟩
  |2,_=>
   have d:a.tmps[20]?.getD undef=pV b6 0:=hM.dep f 1 20 (by kernel_rfl) (by kernel_rfl)
   have i:b.getD 6 false=false:=by
    rw[yn];intro h6
    have:=A1 hM.down 8 6 2 (by kernel_rfl) h6
    rw[hM.not_yet f] at this;cases this
   have hb:=(y.o.one i).1
   have q:=yb i
   have m:=yb (H i)
   clear i
   have c:=(hb.cell (p:=(aV b6 0)) a8).trans C
   clear s x D C
   obtain rfl:=yi A
   go_simp
   exact ⟨_,rfl,y.o.quiet q.o m.o (by decide) (by decide) (by decide) (by decide) (yg _ _),trivial,rfl⟩
  |3,_=>
   have d:a.tmps[21]?.getD undef=pV ub uo:=hM.dep f 2 21 (by kernel_rfl) (by kernel_rfl)
   have i:b.getD 6 false=false:=by
    rw[yn];intro h6
    have:=A1 hM.down 8 6 3 (by kernel_rfl) h6
    rw[hM.not_yet f] at this;cases this
   have hb:=(y.o.one i).1
   have q:=yb i
   have m:=yb (H i)
   clear i s x D C
   obtain rfl:=yi A
   go_simp
   exact ⟨_,rfl,y.o.quiet q.o m.o (by decide) (by decide) (by decide) (by decide) (yg _ _),trivial,rfl⟩
  |4,_=>
   have d:a.tmps[22]?.getD undef=pV ub uo:=hM.dep f 3 22 (by kernel_rfl) (by kernel_rfl)
   have i:b.getD 6 false=false:=by
    rw[yn];intro h6
    have:=A1 hM.down 8 6 4 (by kernel_rfl) h6
    rw[hM.not_yet f] at this;cases this
   have hb:=(y.o.one i).1
   have q:=yb i
   have m:=yb (H i)
   clear i
   have c:=(hb.cell (p:=(aV ub uo)) T).trans x
   have c1:=(hb.cell (p:=(aV ub (uo+1))) T).trans D
   clear s x D C
   obtain rfl:=yi A
   go_simp
   exact ⟨_,rfl,y.o.quiet q.o m.o (by decide) (by decide) (by decide) (by decide) (yg _ _),trivial,rfl⟩
  |5,_=>
   have d:a.tmps[23]?.getD undef=.agg #[.string r.name,iV r.n]:=hM.dep f 4 23 (by kernel_rfl) (by kernel_rfl)
   have i:b.getD 6 false=false:=by
    rw[yn];intro h6
    have:=A1 hM.down 8 6 5 (by kernel_rfl) h6
    rw[hM.not_yet f] at this;cases this
   have hb:=(y.o.one i).1
   have q:=yb i
   have m:=yb (H i)
   clear i
   have HB:=yb hb
   have X:Hid (5 < b.size):=yb (by rw[J];show 5 < 8;omega)
   have Z:Hid (24 < a.tmps.size):=yb (by rw[hM.tmps,hz];decide)
   clear s x D C hb
   obtain rfl:=yi A
   go_simp
   refine ⟨_,rfl,⟨fun _=>⟨HB.o.alloc HB.o.size _,fun _=>⟨w'.heap.size,?_,World.alloc_heap_new _ _⟩⟩,fun h6=>?_,fun B=>?_⟩,trivial,trivial⟩
   ·show (a.put (some 24) (.slice (some (aV w'.heap.size 0)) 1 1)).tmps.getD 24 undef=_
    exact Ax _ Z.o
   ·rw[A9 (by decide),q.o] at h6;cases h6
   ·rw[A9 (by decide),m.o] at B;cases B
  |6,_=>
   have d:a.tmps[19]?.getD undef=va:=hM.dep f 0 19 (by kernel_rfl) (by kernel_rfl)
   have i:=hM.not_yet f
   have l5:b.getD 5 false=true:=hM.came f 5 (by kernel_rfl)
   obtain ⟨g,S,hg⟩:=(y.o.one i).2 l5
   have hb:=(y.o.one i).1
   have X:Hid (6 < b.size):=yb (by rw[J];show 6 < 8;omega)
   have Z:Hid (25 < a.tmps.size):=yb (by rw[hM.tmps,hz];decide)
   have m:=yb (H i)
   rw[yE] at S
   refine Et base (.tmp 19) (.tmp 24) (by obtain rfl:=yi A;rfl) va ls (by simpa[Act.eval] using d) (F.up fun k hk K=>hb.block k K) r g 1 (by simpa[Act.eval] using S) hg P (yu I hb.size) ?_
   intro v' w5 M z a0
   obtain rfl:=yi A
   refine ⟨v',rfl,⟨fun h6=>?_,fun _ _=>⟨?_,?_,?_⟩,fun B=>?_⟩,trivial,trivial⟩
   ·simp[X.o] at h6
   ·show Cx base w5 ((a.put (some 25) v').tmps.getD 25 undef) _
    rw[Ax _ Z.o];exact M
   ·exact ⟨z.os.trans hb.os,z.tape.trans hb.tape,z.output.trans hb.output,yu hb.size z.size,fun k hk a7=>(z.block k (yv hk hb.size) a7).trans (hb.block k hk)⟩
   ·show ((a.put (some 25) v').tmps.getD 25 undef).ownBlock=_∨∃g,((a.put (some 25) v').tmps.getD 25 undef).ownBlock=some g∧_
    rw[Ax _ Z.o]
    exact a0.imp id (fun h=>⟨_,h,hb.size⟩)
   ·rw[A9 (by decide),m.o] at B;cases B
  |7,_=>
   have d:=hM.old f 4 (by kernel_rfl) _ V
   have l6:b.getD 6 false=true:=hM.came f 6 (by kernel_rfl)
   have a2:=hM.not_yet f
   have L:=y.o.two l6 a2
   have G:w'.heap[Bx]?=W0.heap[Bx]?:=L.grown.block Bx U (fun e=>by
    have:=(F.lt Bx e.symm).1;omega)
   obtain ⟨u0,W⟩:=O
   have c:=Ad (o:=0) G
   have fz:w'.frozen? (aV Bx 0)=false:=by unfold World.frozen?;rw[G,W];rfl
   have c2:w'.cell? (aV Bx 0)=some va:=c.trans s
   obtain ⟨v,Y⟩:∃v,v=a.tmps.getD 25 undef:=⟨_,rfl⟩
   rw[<-Y] at L
   have HP:=yb L
   rw[yE] at Y
   replace Y:=Y.symm
   have X:Hid (7 < b.size):=yb (by rw[J];show 7 < 8;omega)
   have a6:=yb l6
   obtain ⟨ad,nn,cc,rfl⟩:∃ad n c,v=.slice ad n c:=by
    rcases L.own.2 with ⟨rfl,_⟩|⟨_,_,_,rfl,_⟩
    ·exact ⟨_,_,_,rfl⟩
    ·exact ⟨_,_,_,rfl⟩
   clear s x D C L c G W l6
   obtain rfl:=yi A
   go_simp
   refine ⟨undef,rfl,⟨fun h6=>?_,fun _ B=>?_,fun _=>⟨w',_,HP.o,rfl⟩⟩,trivial,trivial⟩
   ·rw[A9 (by decide),a6.o] at h6;cases h6
   ·simp[X.o] at B
 ·intro b a w' R hM
  obtain ⟨w1,v,L,rfl⟩:=hM.ext.three (R 7 (show 7 < 8 by omega))
  exact hQ a w1 v (hM.tmps.trans hz) hM.defers (EZ (lo:=19) (hi:=25) (by kernel_rfl) hM) L
def UC(va:Value)(b6 ub uo:Nat)(r:Rf)(j:Nat)(v:Value)(_:World):Prop:=match j with
 |0=>v=va
 |1=>v=.pointer (some ⟨b6,0,none⟩)
 |2=>v=.pointer (some ⟨ub,uo,none⟩)
 |3=>v=.pointer (some ⟨ub,uo,none⟩)
 |4=>v=.agg #[.string r.name,.int .i64 r.n]
 |_=>True
theorem Vs{N:Act}{W0:World}{Q:QT}{l n Bx b6 ub uo base:Nat}{va:Value}{ls:List Rf}{r:Rf}(ops:Array Oper)(E:DN Tryz.f17 10=some ops)
 (V:N.tmps.getD 5 undef=.pointer (some ⟨Bx,0,none⟩))(aa:N.tmps.getD 7 undef=.pointer (some ⟨b6,0,none⟩))(hz:N.tmps.size=64)
 (U:Bx < W0.heap.size)(a8:b6 < W0.heap.size)(T:ub < W0.heap.size)(O:∃u,W0.heap[Bx]?=some (.cells #[u] 81 (0,0)))(s:W0.cell? ⟨Bx,0,none⟩=some va)(C:W0.cell? ⟨b6,0,none⟩=some (.pointer (some ⟨ub,uo,none⟩)))
 (x:W0.cell? ⟨ub,uo,none⟩=some (.string r.name))(D:W0.cell? ⟨ub,uo+1,none⟩=some (.int .i64 r.n))(F:Cx base W0 va ls)(P:ls.length+1<=1000000000)(I:base<=W0.heap.size)(ab:Bx < base)
 (hQ:∀(a:Act) w1 v,a.tmps.size=64->a.defers=N.defers->(∀t,(t < 28∨34 < t)->a.tmps.getD t undef=N.tmps.getD t undef)->T3 W0 base va ls r w1 v->Q .normal a (w1.setCell ⟨Bx,0,none⟩ v)):
  (Code.region 10 ops true).wpIn (Fence.wide.inRound l) n Tryz.prog Q N W0:=by
 obtain rfl:=yi ((rfl:DN Tryz.f17 10=some _).symm.trans E)
 clear E
 refine G7 (by kernel_rfl) (Oj W0 base va ls r Bx 33 34) (UC va b6 ub uo r) (fun _ _ _=>True) (by kernel_rfl) (by rw[hz];kernel_rfl) (by kernel_rfl) (by kernel_rfl) (fun _ j v w w' _ _ _ h=>by unfold UC at h ⊢;exact h) ⟨fun _=>⟨(yg _ _).drew,fun h=>(by cases h)⟩,fun h=>(by cases h),fun h=>(by cases h)⟩ ?_ ?_
 ·intro ix b a w' hM f o A
  have y:=yb hM.ext
  have K:=(yd.1 A).1
  have J:=hM.size
  have H:b.getD 6 false=false->b.getD 7 false=false:=fun i=>by
   rw[yn];intro B
   have:=A1 hM.down 8 7 6 (by kernel_rfl) B
   rw[i] at this;cases this
  match ix,K with
  |0,_=>
   have d:=hM.old f 5 (by kernel_rfl) _ V
   have i:b.getD 6 false=false:=by
    rw[yn];intro h6
    have:=A1 hM.down 8 6 0 (by kernel_rfl) h6
    rw[hM.not_yet f] at this;cases this
   have hb:=(y.o.one i).1
   have q:=yb i
   have m:=yb (H i)
   clear i
   have c:=(hb.cell (p:=(aV Bx 0)) U).trans s
   clear s x D C
   obtain rfl:=yi A
   go_simp
   exact ⟨_,rfl,y.o.quiet q.o m.o (by decide) (by decide) (by decide) (by decide) (yg _ _),trivial,rfl⟩
  |1,_=>
   have d:=hM.old f 7 (by kernel_rfl) _ aa
   have i:b.getD 6 false=false:=by
    rw[yn];intro h6
    have:=A1 hM.down 8 6 1 (by kernel_rfl) h6
    rw[hM.not_yet f] at this;cases this
   have hb:=(y.o.one i).1
   have q:=yb i
   have m:=yb (H i)
   clear i s x D C
   obtain rfl:=yi A
   go_simp
   exact ⟨_,rfl,y.o.quiet q.o m.o (by decide) (by decide) (by decide) (by decide) (yg _ _),trivial,rfl⟩
  |2,_=>
   have d:a.tmps[29]?.getD undef=pV b6 0:=hM.dep f 1 29 (by kernel_rfl) (by kernel_rfl)
   have i:b.getD 6 false=false:=by
    rw[yn];intro h6
    have:=A1 hM.down 8 6 2 (by kernel_rfl) h6
    rw[hM.not_yet f] at this;cases this
   have hb:=(y.o.one i).1
   have q:=yb i
   have m:=yb (H i)
   clear i
   have c:=(hb.cell (p:=(aV b6 0)) a8).trans C
   clear s x D C
   obtain rfl:=yi A
   go_simp
   exact ⟨_,rfl,y.o.quiet q.o m.o (by decide) (by decide) (by decide) (by decide) (yg _ _),trivial,rfl⟩
  |3,_=>
   have d:a.tmps[30]?.getD undef=pV ub uo:=hM.dep f 2 30 (by kernel_rfl) (by kernel_rfl)
   have i:b.getD 6 false=false:=by
    rw[yn];intro h6
    have:=A1 hM.down 8 6 3 (by kernel_rfl) h6
    rw[hM.not_yet f] at this;cases this
   have hb:=(y.o.one i).1
   have q:=yb i
   have m:=yb (H i)
   clear i s x D C
   obtain rfl:=yi A
   go_simp
   exact ⟨_,rfl,y.o.quiet q.o m.o (by decide) (by decide) (by decide) (by decide) (yg _ _),trivial,rfl⟩
  |4,_=>
   have d:a.tmps[31]?.getD undef=pV ub uo:=hM.dep f 3 31 (by kernel_rfl) (by kernel_rfl)
   have i:b.getD 6 false=false:=by
    rw[yn];intro h6
    have:=A1 hM.down 8 6 4 (by kernel_rfl) h6
    rw[hM.not_yet f] at this;cases this
   have hb:=(y.o.one i).1
   have q:=yb i
   have m:=yb (H i)
   clear i
   have c:=(hb.cell (p:=(aV ub uo)) T).trans x
   have c1:=(hb.cell (p:=(aV ub (uo+1))) T).trans D
   clear s x D C
   obtain rfl:=yi A
   go_simp
   exact ⟨_,rfl,y.o.quiet q.o m.o (by decide) (by decide) (by decide) (by decide) (yg _ _),trivial,rfl⟩
  |5,_=>
   have d:a.tmps[32]?.getD undef=.agg #[.string r.name,iV r.n]:=hM.dep f 4 32 (by kernel_rfl) (by kernel_rfl)
   have i:b.getD 6 false=false:=by
    rw[yn];intro h6
    have:=A1 hM.down 8 6 5 (by kernel_rfl) h6
    rw[hM.not_yet f] at this;cases this
   have hb:=(y.o.one i).1
   have q:=yb i
   have m:=yb (H i)
   clear i
   have HB:=yb hb
   have X:Hid (5 < b.size):=yb (by rw[J];show 5 < 8;omega)
   have Z:Hid (33 < a.tmps.size):=yb (by rw[hM.tmps,hz];decide)
   clear s x D C hb
   obtain rfl:=yi A
   go_simp
   refine ⟨_,rfl,⟨fun _=>⟨HB.o.alloc HB.o.size _,fun _=>⟨w'.heap.size,?_,World.alloc_heap_new _ _⟩⟩,fun h6=>?_,fun B=>?_⟩,trivial,trivial⟩
   ·show (a.put (some 33) (.slice (some (aV w'.heap.size 0)) 1 1)).tmps.getD 33 undef=_
    exact Ax _ Z.o
   ·rw[A9 (by decide),q.o] at h6;cases h6
   ·rw[A9 (by decide),m.o] at B;cases B
  |6,_=>
   have d:a.tmps[28]?.getD undef=va:=hM.dep f 0 28 (by kernel_rfl) (by kernel_rfl)
   have i:=hM.not_yet f
   have l5:b.getD 5 false=true:=hM.came f 5 (by kernel_rfl)
   obtain ⟨g,S,hg⟩:=(y.o.one i).2 l5
   have hb:=(y.o.one i).1
   have X:Hid (6 < b.size):=yb (by rw[J];show 6 < 8;omega)
   have Z:Hid (34 < a.tmps.size):=yb (by rw[hM.tmps,hz];decide)
   have m:=yb (H i)
   rw[yE] at S
   refine Et base (.tmp 28) (.tmp 33) (by obtain rfl:=yi A;rfl) va ls (by simpa[Act.eval] using d) (F.up fun k hk K=>hb.block k K) r g 1 (by simpa[Act.eval] using S) hg P (yu I hb.size) ?_
   intro v' w5 M z a0
   obtain rfl:=yi A
   refine ⟨v',rfl,⟨fun h6=>?_,fun _ _=>⟨?_,?_,?_⟩,fun B=>?_⟩,trivial,trivial⟩
   ·simp[X.o] at h6
   ·show Cx base w5 ((a.put (some 34) v').tmps.getD 34 undef) _
    rw[Ax _ Z.o];exact M
   ·exact ⟨z.os.trans hb.os,z.tape.trans hb.tape,z.output.trans hb.output,yu hb.size z.size,fun k hk a7=>(z.block k (yv hk hb.size) a7).trans (hb.block k hk)⟩
   ·show ((a.put (some 34) v').tmps.getD 34 undef).ownBlock=_∨∃g,((a.put (some 34) v').tmps.getD 34 undef).ownBlock=some g∧_
    rw[Ax _ Z.o]
    exact a0.imp id (fun h=>⟨_,h,hb.size⟩)
   ·rw[A9 (by decide),m.o] at B;cases B
  |7,_=>
   have d:=hM.old f 5 (by kernel_rfl) _ V
   have l6:b.getD 6 false=true:=hM.came f 6 (by kernel_rfl)
   have a2:=hM.not_yet f
   have L:=y.o.two l6 a2
   have G:w'.heap[Bx]?=W0.heap[Bx]?:=L.grown.block Bx U (fun e=>by
    have:=(F.lt Bx e.symm).1;omega)
   obtain ⟨u0,W⟩:=O
   have c:=Ad (o:=0) G
   have fz:w'.frozen? (aV Bx 0)=false:=by unfold World.frozen?;rw[G,W];rfl
   have c2:w'.cell? (aV Bx 0)=some va:=c.trans s
   obtain ⟨v,Y⟩:∃v,v=a.tmps.getD 34 undef:=⟨_,rfl⟩
   rw[<-Y] at L
   have HP:=yb L
   rw[yE] at Y
   replace Y:=Y.symm
   have X:Hid (7 < b.size):=yb (by rw[J];show 7 < 8;omega)
   have a6:=yb l6
   obtain ⟨ad,nn,cc,rfl⟩:∃ad n c,v=.slice ad n c:=by
    rcases L.own.2 with ⟨rfl,_⟩|⟨_,_,_,rfl,_⟩
    ·exact ⟨_,_,_,rfl⟩
    ·exact ⟨_,_,_,rfl⟩
   clear s x D C L c G W l6
   obtain rfl:=yi A
   go_simp
   refine ⟨undef,rfl,⟨fun h6=>?_,fun _ B=>?_,fun _=>⟨w',_,HP.o,rfl⟩⟩,trivial,trivial⟩
   ·rw[A9 (by decide),a6.o] at h6;cases h6
   ·simp[X.o] at B
 ·intro b a w' R hM
  obtain ⟨w1,v,L,rfl⟩:=hM.ext.three (R 7 (show 7 < 8 by omega))
  exact hQ a w1 v (hM.tmps.trans hz) hM.defers (EZ (lo:=28) (hi:=34) (by kernel_rfl) hM) L
structure Lz (W0:World) (base:Nat) (w:World) (va:Value) (la:List Rf) (vb:Value) (lb:List Rf):Prop where
 below:Below base W0 w
 size:base<=w.heap.size
 a:Cx base w va la
 b:Cx base w vb lb
 apart:∀g,va.ownBlock=some g->vb.ownBlock≠some g
 keep:∀(k:Nat) (o:Obj),W0.heap[k]?=some o->(∀c f,o≠Obj.cells c 23 f)->w.heap[k]?=some o
theorem Cx.not{w:World}{base:Nat}{v:Value}{l:List Rf}(h:Cx base w v l){g:Nat}{o:Obj}(b:v.ownBlock=some g)(e:w.heap[g]?=some o)(i:∀c f,o≠Obj.cells c 23 f):False:=by
 rcases h.2 with ⟨rfl,_⟩|⟨k,cap,d,rfl,_,a,_⟩
 ·cases b
 ·cases b
  rw[e] at a
  exact i _ _ (yi a)
theorem Lz.up{W0 w w':World}{base:Nat}{va vb:Value}{la lb:List Rf}(h:Lz W0 base w va la vb lb)(hb:Below w.heap.size w w'):Lz W0 base w' va la vb lb:=
 ⟨h.below.trans (hb.mono h.size),yu h.size hb.size,h.a.up (fun g _ c=>hb.block g c),h.b.up (fun g _ c=>hb.block g c),h.apart,fun k o e d=>by
  have:=h.keep k o e d
  rw[hb.block k (yd.1 this).1];exact this⟩
theorem Cx.lt{w:World}{base:Nat}{v:Value}{l:List Rf}(h:Cx base w v l){g:Nat}(a:v.ownBlock=some g):base<=g∧g < w.heap.size:=World.ownsRow.lt h g a
theorem Lz.putA{W0 w w':World}{base:Nat}{va vb c:Value}{la lb l:List Rf}(h:Lz W0 base w va la vb lb)(j:Cx base w' c l)(d:w.grownBy w' va.ownBlock)(i:c.ownBlock=va.ownBlock∨c.ownBlock=some w.heap.size):Lz W0 base w' c l vb lb:=by
 refine ⟨h.below.trans ⟨d.os,d.tape,d.output,d.size,fun k f=>d.block k (yv f h.size) (fun e=>?_)⟩,yu h.size d.size,j,h.b.up (fun g m f=>d.block g f (fun e=>h.apart g e.symm m)),fun g h1 h2=>?_,fun k o p n=>?_⟩
 ·have:=(h.a.lt e.symm).1;omega
 ·rcases i with i|i
  ·rw[i] at h1;exact h.apart g h1 h2
  ·rw[i] at h1;cases h1
   have:=(h.b.lt h2).2;omega
 ·have h1:=h.keep k o p n
  rw[d.block k (yd.1 h1).1 (fun e=>h.a.not e.symm h1 n)];exact h1
theorem Lz.swap{W0 w:World}{base:Nat}{va vb:Value}{la lb:List Rf}(h:Lz W0 base w va la vb lb):Lz W0 base w vb lb va la:=⟨h.below,h.size,h.b,h.a,fun g h1 h2=>h.apart g h2 h1,h.keep⟩
def Fg(w:World)(va vb v:Value)(r:Rf):Prop:=∃g,v=.slice (some ⟨g,0,none⟩) 1 1∧w.heap[g]?=some (.cells #[.string r.name,.int .i64 r.n] 23 (0,0))∧va.ownBlock≠some g∧vb.ownBlock≠some g
theorem Fg.up{w w':World}{va vb v:Value}{r:Rf}(h:Fg w va vb v r)(hb:Below w.heap.size w w'):Fg w' va vb v r:=by
 obtain ⟨g,h1,h2,h3⟩:=h
 exact ⟨g,h1,(hb.block g (yd.1 h2).1).trans h2,h3⟩
theorem Fg.grown{w w':World}{va vb v a:Value}{r:Rf}(h:Fg w va vb v r)(d:w.grownBy w' va.ownBlock)(c:a.ownBlock=va.ownBlock∨a.ownBlock=some w.heap.size):Fg w' a vb v r:=by
 obtain ⟨g,h1,h2,h3,f⟩:=h
 have b:=(yd.1 h2).1
 refine ⟨g,h1,(d.block g b (fun e=>h3 e.symm)).trans h2,fun e=>?_,f⟩
 rcases c with c|c
 ·exact h3 (c▸e)
 ·rw[c] at e;cases e;exact qC _ b
theorem Ik{W0 w:World}{base:Nat}{va vb:Value}{la lb:List Rf}(h:Lz W0 base w va la vb lb)(r:Rf):Fg (w.alloc (.cells #[.string r.name,.int .i64 r.n] 23)) va vb (.slice (some ⟨w.heap.size,0,none⟩) 1 1) r:=
 ⟨w.heap.size,rfl,World.alloc_heap_new _ _,fun e=>by have:=(h.a.lt e).2;omega,fun e=>by have:=(h.b.lt e).2;omega⟩
structure J6 (W0:World) (base B4 B5:Nat) (va:Value) (la:List Rf) (vb:Value) (lb:List Rf) (r1 r2:Rf) (l:Array Bool) (tm:Array Value) (w:World):Prop where
 p00:l.getD 8 false=false->Lz W0 base w va la vb lb∧(l.getD 7 false=true->Fg w va vb (tm.getD 48 undef) r1)∧(l.getD 16 false=true->Fg w va vb (tm.getD 57 undef) r2)
 p10:l.getD 8 false=true->l.getD 17 false=false->Lz W0 base w (tm.getD 49 undef) (la++[r1]) vb lb∧(l.getD 16 false=true->Fg w (tm.getD 49 undef) vb (tm.getD 57 undef) r2)
 p11:l.getD 17 false=true->l.getD 18 false=false->Lz W0 base w (tm.getD 49 undef) (la++[r1]) (tm.getD 58 undef) (lb++[r2])
 p18:l.getD 18 false=true->l.getD 19 false=false->∃w1,Lz W0 base w1 (tm.getD 49 undef) (la++[r1]) (tm.getD 58 undef) (lb++[r2])∧w=w1.setCell ⟨B4,0,none⟩ (tm.getD 49 undef)
 p19:l.getD 19 false=true->∃w1 v1 v2,Lz W0 base w1 v1 (la++[r1]) v2 (lb++[r2])∧w=(w1.setCell ⟨B4,0,none⟩ v1).setCell ⟨B5,0,none⟩ v2
theorem J6.quiet{W0:World}{base B4 B5:Nat}{va vb:Value}{la lb:List Rf}{r1 r2:Rf}{l:Array Bool}{tm:Array Value}{w:World}{i t:Nat}{v:Value}(h:J6 W0 base B4 B5 va la vb lb r1 r2 l tm w)(b:l.getD 17 false=false)(m:l.getD 18 false=false)(p:l.getD 19 false=false)
 (hi:i≠7∧i≠8∧i≠16∧i≠17∧i≠18∧i≠19)(u:t≠48∧t≠49∧t≠57):J6 W0 base B4 B5 va la vb lb r1 r2 (l.setIfInBounds i true) (tm.setIfInBounds t v) w:=by
 obtain ⟨r,q,a,j,f,e⟩:=hi
 obtain ⟨g,o,d⟩:=u
 refine ⟨fun c=>?_,fun c _=>?_,fun h=>?_,fun h=>?_,fun h=>?_⟩
 ·rw[A9 q] at c
  obtain ⟨k,s,n⟩:=h.p00 c
  rw[A9 r,A9 a,Bq g,Bq d]
  exact ⟨k,s,n⟩
 ·rw[A9 q] at c
  obtain ⟨k,n⟩:=h.p10 c b
  rw[A9 a,Bq o,Bq d]
  exact ⟨k,n⟩
 ·rw[A9 j,b] at h;cases h
 ·rw[A9 f,m] at h;cases h
 ·rw[A9 e,p] at h;cases h
theorem J6.below{W0:World}{base B4 B5:Nat}{va vb:Value}{la lb:List Rf}{r1 r2:Rf}{l:Array Bool}{tm:Array Value}{w:World}(h:J6 W0 base B4 B5 va la vb lb r1 r2 l tm w)(a:l.getD 17 false=false):Below base W0 w∧base<=w.heap.size:=by
 cases b:l.getD 8 false with
 |false=>exact ⟨(h.p00 b).1.below,(h.p00 b).1.size⟩
 |true=>exact ⟨(h.p10 b a).1.below,(h.p10 b a).1.size⟩
def Vt(va vb:Value)(B B3 b1 o1 n1 c1 b2 o2 n2 c2 i:Nat)(r1 r2:Rf)(j:Nat)(v:Value)(_:World):Prop:=match j with
 |0=>v=va
 |1=>v=.pointer (some ⟨B,21,none⟩)
 |2=>v=.slice (some ⟨b1,o1,none⟩) n1 c1
 |3=>v=.int .i64 i
 |4=>v=.pointer (some ⟨b1,o1+i*51,none⟩)
 |5=>v=.pointer (some ⟨b1,o1+i*51+1,none⟩)
 |6=>v=.agg #[.string r1.name,.int .i64 r1.n]
 |9=>v=vb
 |10=>v=.pointer (some ⟨B3,21,none⟩)
 |11=>v=.slice (some ⟨b2,o2,none⟩) n2 c2
 |12=>v=.int .i64 i
 |13=>v=.pointer (some ⟨b2,o2+i*51,none⟩)
 |14=>v=.pointer (some ⟨b2,o2+i*51+1,none⟩)
 |15=>v=.agg #[.string r2.name,.int .i64 r2.n]
 |_=>True
theorem Vu{a₀:Act}{W0:World}{Q:QT}{base B B3 B4 B5 b1 o1 n1 c1 b2 o2 n2 c2 i:Nat}{va vb:Value}{la lb:List Rf}{r1 r2:Rf}(ops:Array Oper)(a6:DN Tryz.f17 14=some ops)
 (b7:a₀.tmps.getD 1 undef=.pointer (some ⟨B,0,none⟩))(aq:a₀.tmps.getD 3 undef=.pointer (some ⟨B3,0,none⟩))(am:a₀.tmps.getD 4 undef=.pointer (some ⟨B4,0,none⟩))(ah:a₀.tmps.getD 5 undef=.pointer (some ⟨B5,0,none⟩))(an:a₀.tmps.getD 8 undef=.int .i64 i)(hz:a₀.tmps.size=64)
 (hB:B < base)(ar:B3 < base)(ao:B4 < base)(ak:B5 < base)(af:b1 < base)(ac:b2 < base)(b4:B4≠B5)(I:i < n1)(J:i < n2)
 (ag:∃u,W0.heap[B4]?=some (.cells #[u] 81 (0,0)))(ab:∃u,W0.heap[B5]?=some (.cells #[u] 81 (0,0)))(G:W0.cell? ⟨B4,0,none⟩=some va)(D:W0.cell? ⟨B5,0,none⟩=some vb)
 (y:W0.cell? ⟨B,21,none⟩=some (.slice (some ⟨b1,o1,none⟩) n1 c1))(C:W0.cell? ⟨B3,21,none⟩=some (.slice (some ⟨b2,o2,none⟩) n2 c2))
 (F:W0.cell? ⟨b1,o1+i*51+1,none⟩=some (.string r1.name))(z:W0.cell? ⟨b1,o1+i*51+1+1,none⟩=some (.int .i64 r1.n))(E:W0.cell? ⟨b2,o2+i*51+1,none⟩=some (.string r2.name))(A:W0.cell? ⟨b2,o2+i*51+1+1,none⟩=some (.int .i64 r2.n))
 (h2:Lz W0 base W0 va la vb lb)(av:la.length+1<=1000000000)(aw:lb.length+1<=1000000000)
 (hQ:∀(a:Act) w1 v1 v2,a.tmps.size=64->a.defers=a₀.defers->(∀t,(t < 41∨58 < t)->a.tmps.getD t undef=a₀.tmps.getD t undef)->Lz W0 base w1 v1 (la++[r1]) v2 (lb++[r2])->Q .normal a ((w1.setCell ⟨B4,0,none⟩ v1).setCell ⟨B5,0,none⟩ v2)):
  (Code.region 14 ops true).wp Tryz.prog Q a₀ W0:=by
 obtain rfl:=yi ((rfl:DN Tryz.f17 14=some _).symm.trans a6)
 clear a6
 refine BR (by kernel_rfl) (J6 W0 base B4 B5 va la vb lb r1 r2) (Vt va vb B B3 b1 o1 n1 c1 b2 o2 n2 c2 i r1 r2) (fun _ _ _=>True) (by kernel_rfl) (by rw[hz];kernel_rfl) (by kernel_rfl) (fun _ j v w w' _ _ _ h=>by unfold Vt at h ⊢;exact h) ⟨fun _=>⟨h2.up (yg _ _).drew,fun h=>(by cases h),fun h=>(by cases h)⟩,fun h=>(by cases h),fun h=>(by cases h),fun h=>(by cases h),fun h=>(by cases h)⟩ ?_ ?_
 ·clear h2
  intro ix f a w' hM x o K
  have H:=yb hM.ext
  have b5:=(yd.1 K).1
  have a0:=hM.size
  have nn:f.getD 17 false=false->f.getD 18 false=false∧f.getD 19 false=false:=fun n=>by
   constructor
   ·rw[yn];intro h7
    have:=A1 hM.down 20 18 17 (by kernel_rfl) h7
    rw[n] at this;cases this
   ·rw[yn];intro h7
    have:=A1 hM.down 20 19 17 (by kernel_rfl) h7
    rw[n] at this;cases this
  match ix,b5 with
  |0,_=>
   have d:=hM.old x 4 (by kernel_rfl) _ am
   have k:f.getD 17 false=false:=by
    rw[yn];intro h6
    have:=A1 hM.down 20 17 0 (by kernel_rfl) h6
    rw[hM.not_yet x] at this;cases this
   obtain ⟨q,l⟩:=nn k
   have hb:=(H.o.below k).1
   have r:=yb k;have s:=yb q;have m:=yb l
   clear k q l
   have c:=(hb.cell (p:=(aV B4 0)) ao).trans G
   clear G D y C F E z A I J nn hb
   obtain rfl:=yi K
   go_simp
   exact ⟨_,rfl,H.o.quiet r.o s.o m.o (by decide) (by decide),trivial,rfl⟩
  |1,_=>
   have d:=hM.old x 1 (by kernel_rfl) _ b7
   have k:f.getD 17 false=false:=by
    rw[yn];intro h6
    have:=A1 hM.down 20 17 1 (by kernel_rfl) h6
    rw[hM.not_yet x] at this;cases this
   obtain ⟨q,l⟩:=nn k
   have hb:=(H.o.below k).1
   have r:=yb k;have s:=yb q;have m:=yb l
   clear k q l G D y C F E z A I J nn hb
   obtain rfl:=yi K
   go_simp
   exact ⟨_,rfl,H.o.quiet r.o s.o m.o (by decide) (by decide),trivial,rfl⟩
  |2,_=>
   have d:a.tmps[42]?.getD undef=pV B 21:=hM.dep x 1 42 (by kernel_rfl) (by kernel_rfl)
   have k:f.getD 17 false=false:=by
    rw[yn];intro h6
    have:=A1 hM.down 20 17 2 (by kernel_rfl) h6
    rw[hM.not_yet x] at this;cases this
   obtain ⟨q,l⟩:=nn k
   have hb:=(H.o.below k).1
   have r:=yb k;have s:=yb q;have m:=yb l
   clear k q l
   have c:=(hb.cell (p:=(aV B 21)) hB).trans y
   clear G D y C F E z A I J nn hb
   obtain rfl:=yi K
   go_simp
   exact ⟨_,rfl,H.o.quiet r.o s.o m.o (by decide) (by decide),trivial,rfl⟩
  |3,_=>
   have d:=hM.old x 8 (by kernel_rfl) _ an
   have k:f.getD 17 false=false:=by
    rw[yn];intro h6
    have:=A1 hM.down 20 17 3 (by kernel_rfl) h6
    rw[hM.not_yet x] at this;cases this
   obtain ⟨q,l⟩:=nn k
   have hb:=(H.o.below k).1
   have r:=yb k;have s:=yb q;have m:=yb l
   clear k q l G D y C F E z A I J nn hb
   obtain rfl:=yi K
   go_simp
   exact ⟨_,rfl,H.o.quiet r.o s.o m.o (by decide) (by decide),trivial,rfl⟩
  |4,_=>
   have d1:a.tmps[43]?.getD undef=.slice (some (aV b1 o1)) n1 c1:=hM.dep x 2 43 (by kernel_rfl) (by kernel_rfl)
   have d2:a.tmps[44]?.getD undef=iV i:=hM.dep x 3 44 (by kernel_rfl) (by kernel_rfl)
   have b0:(i:Int) < (n1:Int):=by omega
   have k:f.getD 17 false=false:=by
    rw[yn];intro h6
    have:=A1 hM.down 20 17 4 (by kernel_rfl) h6
    rw[hM.not_yet x] at this;cases this
   obtain ⟨q,l⟩:=nn k
   have hb:=(H.o.below k).1
   have r:=yb k;have s:=yb q;have m:=yb l
   clear k q l G D y C F E z A I J nn hb
   obtain rfl:=yi K
   go_simp
   exact ⟨_,rfl,H.o.quiet r.o s.o m.o (by decide) (by decide),trivial,rfl⟩
  |5,_=>
   have d:a.tmps[45]?.getD undef=pV b1 (o1+i*51):=hM.dep x 4 45 (by kernel_rfl) (by kernel_rfl)
   have k:f.getD 17 false=false:=by
    rw[yn];intro h6
    have:=A1 hM.down 20 17 5 (by kernel_rfl) h6
    rw[hM.not_yet x] at this;cases this
   obtain ⟨q,l⟩:=nn k
   have hb:=(H.o.below k).1
   have r:=yb k;have s:=yb q;have m:=yb l
   clear k q l G D y C F E z A I J nn hb
   obtain rfl:=yi K
   go_simp
   exact ⟨_,rfl,H.o.quiet r.o s.o m.o (by decide) (by decide),trivial,rfl⟩
  |6,_=>
   have d:a.tmps[46]?.getD undef=pV b1 (o1+i*51+1):=hM.dep x 5 46 (by kernel_rfl) (by kernel_rfl)
   have k:f.getD 17 false=false:=by
    rw[yn];intro h6
    have:=A1 hM.down 20 17 6 (by kernel_rfl) h6
    rw[hM.not_yet x] at this;cases this
   obtain ⟨q,l⟩:=nn k
   have hb:=(H.o.below k).1
   have r:=yb k;have s:=yb q;have m:=yb l
   clear k q l
   have c:=(hb.cell (p:=(aV b1 (o1+i*51+1))) af).trans F
   have c1:=(hb.cell (p:=(aV b1 (o1+i*51+1+1))) af).trans z
   clear G D y C F E z A I J nn hb
   obtain rfl:=yi K
   go_simp
   exact ⟨_,rfl,H.o.quiet r.o s.o m.o (by decide) (by decide),trivial,rfl⟩
  |7,_=>
   have d:a.tmps[47]?.getD undef=.agg #[.string r1.name,iV r1.n]:=hM.dep x 6 47 (by kernel_rfl) (by kernel_rfl)
   have k:f.getD 17 false=false:=by
    rw[yn];intro h6
    have:=A1 hM.down 20 17 7 (by kernel_rfl) h6
    rw[hM.not_yet x] at this;cases this
   obtain ⟨q,l⟩:=nn k
   have hb:=(H.o.below k).1
   have r:=yb k;have s:=yb q;have m:=yb l
   clear k q l
   have n8:f.getD 8 false=false:=by
    rw[yn];intro h6
    have:=A1 hM.down 20 8 7 (by kernel_rfl) h6
    rw[hM.not_yet x] at this;cases this
   have ax:=yb n8
   have V:=yb (H.o.p00 n8)
   have Z:Hid (48 < a.tmps.size):=yb (by rw[hM.tmps,hz];decide)
   clear n8 G D y C F E z A I J nn hb
   obtain rfl:=yi K
   go_simp
   have S:Below w'.heap.size w' (w'.alloc (.cells #[.string r1.name,iV r1.n] 23)):=(yg _ _).alloc (yf _) _
   refine ⟨_,rfl,⟨fun _=>⟨V.o.1.up S,fun _=>?_,fun U=>?_⟩,fun L=>?_,fun h=>?_,fun h=>?_,fun h=>?_⟩,trivial,trivial⟩
   ·rw[Ax _ Z.o];exact Ik V.o.1 r1
   ·rw[A9 (by decide)] at U
    rw[Cj _ (by decide)]
    exact (V.o.2.2 U).up S
   ·rw[A9 (by decide),ax.o] at L;cases L
   ·rw[A9 (by decide),r.o] at h;cases h
   ·rw[A9 (by decide),s.o] at h;cases h
   ·rw[A9 (by decide),m.o] at h;cases h
  |8,_=>
   have d:a.tmps[41]?.getD undef=va:=hM.dep x 0 41 (by kernel_rfl) (by kernel_rfl)
   have k:f.getD 17 false=false:=by
    rw[yn];intro h6
    have:=A1 hM.down 20 17 8 (by kernel_rfl) h6
    rw[hM.not_yet x] at this;cases this
   obtain ⟨q,l⟩:=nn k
   have hb:=(H.o.below k).1
   have r:=yb k;have s:=yb q;have m:=yb l
   clear k q l
   have n8:=hM.not_yet x
   have l7:f.getD 7 false=true:=hM.came x 7 (by kernel_rfl)
   obtain ⟨T,k2,k3⟩:=H.o.p00 n8
   obtain ⟨g,aj,hg,_,_⟩:=k2 l7
   have HL:Hid (8 < f.size):=yb (by rw[a0];show 8 < 20;omega)
   have Z:Hid (49 < a.tmps.size):=yb (by rw[hM.tmps,hz];decide)
   rw[yE] at aj
   refine Et base (.tmp 41) (.tmp 48) (by obtain rfl:=yi K;rfl) va la (by simpa[Act.eval] using d) T.a r1 g 1 (by simpa[Act.eval] using aj) hg av T.size ?_
   intro v' w5 R a2 X
   obtain rfl:=yi K
   refine ⟨v',rfl,⟨fun L=>?_,fun _ _=>⟨?_,fun U=>?_⟩,fun h=>?_,fun h=>?_,fun h=>?_⟩,trivial,trivial⟩
   ·simp[HL.o] at L
   ·show Lz W0 base w5 ((a.put (some 49) v').tmps.getD 49 undef) _ vb lb
    rw[Ax _ Z.o];exact T.putA R a2 X
   ·rw[A9 (by decide)] at U
    show Fg w5 ((a.put (some 49) v').tmps.getD 49 undef) vb ((a.put (some 49) v').tmps.getD 57 undef) r2
    rw[Ax _ Z.o,Cj _ (by decide)]
    exact (k3 U).grown a2 X
   ·rw[A9 (by decide),r.o] at h;cases h
   ·rw[A9 (by decide),s.o] at h;cases h
   ·rw[A9 (by decide),m.o] at h;cases h
  |9,_=>
   have d:=hM.old x 5 (by kernel_rfl) _ ah
   have k:f.getD 17 false=false:=by
    rw[yn];intro h6
    have:=A1 hM.down 20 17 9 (by kernel_rfl) h6
    rw[hM.not_yet x] at this;cases this
   obtain ⟨q,l⟩:=nn k
   have hb:=(H.o.below k).1
   have r:=yb k;have s:=yb q;have m:=yb l
   clear k q l
   have c:=(hb.cell (p:=(aV B5 0)) ak).trans D
   clear G D y C F E z A I J nn hb
   obtain rfl:=yi K
   go_simp
   exact ⟨_,rfl,H.o.quiet r.o s.o m.o (by decide) (by decide),trivial,rfl⟩
  |10,_=>
   have d:=hM.old x 3 (by kernel_rfl) _ aq
   have k:f.getD 17 false=false:=by
    rw[yn];intro h6
    have:=A1 hM.down 20 17 10 (by kernel_rfl) h6
    rw[hM.not_yet x] at this;cases this
   obtain ⟨q,l⟩:=nn k
   have hb:=(H.o.below k).1
   have r:=yb k;have s:=yb q;have m:=yb l
   clear k q l G D y C F E z A I J nn hb
   obtain rfl:=yi K
   go_simp
   exact ⟨_,rfl,H.o.quiet r.o s.o m.o (by decide) (by decide),trivial,rfl⟩
  |11,_=>
   have d:a.tmps[51]?.getD undef=pV B3 21:=hM.dep x 10 51 (by kernel_rfl) (by kernel_rfl)
   have k:f.getD 17 false=false:=by
    rw[yn];intro h6
    have:=A1 hM.down 20 17 11 (by kernel_rfl) h6
    rw[hM.not_yet x] at this;cases this
   obtain ⟨q,l⟩:=nn k
   have hb:=(H.o.below k).1
   have r:=yb k;have s:=yb q;have m:=yb l
   clear k q l
   have c:=(hb.cell (p:=(aV B3 21)) ar).trans C
   clear G D y C F E z A I J nn hb
   obtain rfl:=yi K
   go_simp
   exact ⟨_,rfl,H.o.quiet r.o s.o m.o (by decide) (by decide),trivial,rfl⟩
  |12,_=>
   have d:=hM.old x 8 (by kernel_rfl) _ an
   have k:f.getD 17 false=false:=by
    rw[yn];intro h6
    have:=A1 hM.down 20 17 12 (by kernel_rfl) h6
    rw[hM.not_yet x] at this;cases this
   obtain ⟨q,l⟩:=nn k
   have hb:=(H.o.below k).1
   have r:=yb k;have s:=yb q;have m:=yb l
   clear k q l G D y C F E z A I J nn hb
   obtain rfl:=yi K
   go_simp
   exact ⟨_,rfl,H.o.quiet r.o s.o m.o (by decide) (by decide),trivial,rfl⟩
  |13,_=>
   have d1:a.tmps[52]?.getD undef=.slice (some (aV b2 o2)) n2 c2:=hM.dep x 11 52 (by kernel_rfl) (by kernel_rfl)
   have d2:a.tmps[53]?.getD undef=iV i:=hM.dep x 12 53 (by kernel_rfl) (by kernel_rfl)
   have b0:(i:Int) < (n2:Int):=by omega
   have k:f.getD 17 false=false:=by
    rw[yn];intro h6
    have:=A1 hM.down 20 17 13 (by kernel_rfl) h6
    rw[hM.not_yet x] at this;cases this
   obtain ⟨q,l⟩:=nn k
   have hb:=(H.o.below k).1
   have r:=yb k;have s:=yb q;have m:=yb l
   clear k q l G D y C F E z A I J nn hb
   obtain rfl:=yi K
   go_simp
   exact ⟨_,rfl,H.o.quiet r.o s.o m.o (by decide) (by decide),trivial,rfl⟩
  |14,_=>
   have d:a.tmps[54]?.getD undef=pV b2 (o2+i*51):=hM.dep x 13 54 (by kernel_rfl) (by kernel_rfl)
   have k:f.getD 17 false=false:=by
    rw[yn];intro h6
    have:=A1 hM.down 20 17 14 (by kernel_rfl) h6
    rw[hM.not_yet x] at this;cases this
   obtain ⟨q,l⟩:=nn k
   have hb:=(H.o.below k).1
   have r:=yb k;have s:=yb q;have m:=yb l
   clear k q l G D y C F E z A I J nn hb
   obtain rfl:=yi K
   go_simp
   exact ⟨_,rfl,H.o.quiet r.o s.o m.o (by decide) (by decide),trivial,rfl⟩
  |15,_=>
   have d:a.tmps[55]?.getD undef=pV b2 (o2+i*51+1):=hM.dep x 14 55 (by kernel_rfl) (by kernel_rfl)
   have k:f.getD 17 false=false:=by
    rw[yn];intro h6
    have:=A1 hM.down 20 17 15 (by kernel_rfl) h6
    rw[hM.not_yet x] at this;cases this
   obtain ⟨q,l⟩:=nn k
   have hb:=(H.o.below k).1
   have r:=yb k;have s:=yb q;have m:=yb l
   clear k q l
   have c:=(hb.cell (p:=(aV b2 (o2+i*51+1))) ac).trans E
   have c1:=(hb.cell (p:=(aV b2 (o2+i*51+1+1))) ac).trans A
   clear G D y C F E z A I J nn hb
   obtain rfl:=yi K
   go_simp
   exact ⟨_,rfl,H.o.quiet r.o s.o m.o (by decide) (by decide),trivial,rfl⟩
  |16,_=>
   have d:a.tmps[56]?.getD undef=.agg #[.string r2.name,iV r2.n]:=hM.dep x 15 56 (by kernel_rfl) (by kernel_rfl)
   have k:f.getD 17 false=false:=by
    rw[yn];intro h6
    have:=A1 hM.down 20 17 16 (by kernel_rfl) h6
    rw[hM.not_yet x] at this;cases this
   obtain ⟨q,l⟩:=nn k
   have hb:=(H.o.below k).1
   have r:=yb k;have s:=yb q;have m:=yb l
   clear k q l
   have Z:Hid (57 < a.tmps.size):=yb (by rw[hM.tmps,hz];decide)
   clear G D y C F E z A I J nn hb
   obtain rfl:=yi K
   go_simp
   have S:Below w'.heap.size w' (w'.alloc (.cells #[.string r2.name,iV r2.n] 23)):=(yg _ _).alloc (yf _) _
   refine ⟨_,rfl,⟨fun L=>?_,fun L _=>?_,fun h=>?_,fun h=>?_,fun h=>?_⟩,trivial,trivial⟩
   ·rw[A9 (by decide)] at L
    obtain ⟨T,k2,k3⟩:=H.o.p00 L
    refine ⟨T.up S,fun h7=>?_,fun _=>?_⟩
    ·rw[A9 (by decide)] at h7
     rw[Cj _ (by decide)]
     exact (k2 h7).up S
    ·rw[Ax _ Z.o];exact Ik T r2
   ·rw[A9 (by decide)] at L
    obtain ⟨T,k3⟩:=H.o.p10 L r.o
    rw[Cj _ (by decide),Ax _ Z.o]
    exact ⟨T.up S,fun _=>Ik T r2⟩
   ·rw[A9 (by decide),r.o] at h;cases h
   ·rw[A9 (by decide),s.o] at h;cases h
   ·rw[A9 (by decide),m.o] at h;cases h
  |17,_=>
   have d:a.tmps[50]?.getD undef=vb:=hM.dep x 9 50 (by kernel_rfl) (by kernel_rfl)
   have k:=hM.not_yet x
   obtain ⟨q,l⟩:=nn k
   have l8:f.getD 8 false=true:=hM.came x 8 (by kernel_rfl)
   have ay:f.getD 16 false=true:=hM.came x 16 (by kernel_rfl)
   obtain ⟨T,k3⟩:=H.o.p10 l8 k
   obtain ⟨g,ap,hg,_,_⟩:=k3 ay
   have HL:Hid (17 < f.size):=yb (by rw[a0];show 17 < 20;omega)
   have Z:Hid (58 < a.tmps.size):=yb (by rw[hM.tmps,hz];decide)
   rw[yE] at ap
   refine Et base (.tmp 50) (.tmp 57) (by obtain rfl:=yi K;rfl) vb lb (by simpa[Act.eval] using d) T.b r2 g 1 (by simpa[Act.eval] using ap) hg aw T.size ?_
   intro v' w5 R a2 X
   obtain rfl:=yi K
   refine ⟨v',rfl,⟨fun L=>?_,fun _ O=>?_,fun _ _=>?_,fun h=>?_,fun h=>?_⟩,trivial,trivial⟩
   ·rw[A9 (by decide),l8] at L;cases L
   ·simp[HL.o] at O
   ·show Lz W0 base w5 ((a.put (some 58) v').tmps.getD 49 undef) _ ((a.put (some 58) v').tmps.getD 58 undef) _
    rw[Ax _ Z.o,Cj _ (by decide)]
    exact (T.swap.putA R a2 X).swap
   ·rw[A9 (by decide),q] at h;cases h
   ·rw[A9 (by decide),l] at h;cases h
  |18,_=>
   have d:=hM.old x 4 (by kernel_rfl) _ am
   have M:f.getD 17 false=true:=hM.came x 17 (by kernel_rfl)
   have nk:=hM.not_yet x
   have l:f.getD 19 false=false:=by
    rw[yn];intro h6
    have:=A1 hM.down 20 19 18 (by kernel_rfl) h6
    rw[nk] at this;cases this
   have V:=yb (H.o.p11 M nk)
   have m:=yb l;have W:=yb M
   have hv:∃ad n c,a.tmps[49]?.getD undef=.slice ad n c:=by
    rw[<-yE]
    rcases V.o.a.2 with ⟨e,_⟩|⟨_,_,_,e,_⟩
    ·exact ⟨_,_,_,e⟩
    ·exact ⟨_,_,_,e⟩
   have N:w'.heap[B4]?=W0.heap[B4]?:=V.o.below.block B4 ao
   have l8:f.getD 8 false=true:=A1 hM.down 20 17 8 (by kernel_rfl) M
   have a8:=yb l8
   obtain ⟨ad,nv,cv,dv⟩:=hv
   have HV:=yb dv
   obtain ⟨u0,P⟩:=ag
   have fz:w'.frozen? (aV B4 0)=false:=by unfold World.frozen?;rw[N,P];rfl
   have c2:w'.cell? (aV B4 0)=some u0:=by simp[World.cell?,N,P]
   have HL:Hid (18 < f.size):=yb (by rw[a0];show 18 < 20;omega)
   clear G D y C F E z A I J nn N P l8 M
   obtain rfl:=yi K
   go_simp
   refine ⟨undef,rfl,⟨fun L=>?_,fun _ O=>?_,fun _ Y=>?_,fun _ _=>⟨w',V.o,?_⟩,fun h=>?_⟩,trivial,trivial⟩
   ·rw[A9 (by decide),a8.o] at L;cases L
   ·rw[A9 (by decide),W.o] at O;cases O
   ·simp[HL.o] at Y
   ·rw[yE];show w'.setCell _ _=w'.setCell _ (a.tmps[49]?.getD undef);rw[HV.o]
   ·rw[A9 (by decide),m.o] at h;cases h
  |19,_=>
   have d:=hM.old x 5 (by kernel_rfl) _ ah
   have a7:f.getD 18 false=true:=hM.came x 18 (by kernel_rfl)
   have M:f.getD 17 false=true:=A1 hM.down 20 18 17 (by kernel_rfl) a7
   have nk:=hM.not_yet x
   obtain ⟨w1,hp,aa⟩:=H.o.p18 a7 nk
   have V:=yb hp;have au:=yb aa;have W:=yb M;have ae:=yb a7
   have hv:∃ad n c,a.tmps[58]?.getD undef=.slice ad n c:=by
    rw[<-yE]
    rcases V.o.b.2 with ⟨e,_⟩|⟨_,_,_,e,_⟩
    ·exact ⟨_,_,_,e⟩
    ·exact ⟨_,_,_,e⟩
   have N:w'.heap[B5]?=W0.heap[B5]?:=by
    rw[aa,zk _ _ _ _ (fun e=>b4 e.symm)];exact V.o.below.block B5 ak
   clear aa hp
   have l8:f.getD 8 false=true:=A1 hM.down 20 17 8 (by kernel_rfl) M
   have a8:=yb l8
   obtain ⟨ad,nv,cv,dv⟩:=hv
   have HV:=yb dv
   obtain ⟨u0,P⟩:=ab
   have fz:w'.frozen? (aV B5 0)=false:=by unfold World.frozen?;rw[N,P];rfl
   have c2:w'.cell? (aV B5 0)=some u0:=by simp[World.cell?,N,P]
   have HL:Hid (19 < f.size):=yb (by rw[a0];show 19 < 20;omega)
   clear G D y C F E z A I J nn N P l8 M
   obtain rfl:=yi K
   go_simp
   refine ⟨undef,rfl,⟨fun L=>?_,fun _ O=>?_,fun _ Y=>?_,fun _ az=>?_,fun _=>⟨w1,_,_,V.o,?_⟩⟩,trivial,trivial⟩
   ·rw[A9 (by decide),a8.o] at L;cases L
   ·rw[A9 (by decide),W.o] at O;cases O
   ·rw[A9 (by decide),ae.o] at Y;cases Y
   ·simp[HL.o] at az
   ·rw[<-au.o,yE];show w'.setCell _ _=w'.setCell _ (a.tmps[58]?.getD undef);rw[HV.o]
 ·intro f a w' ai hM
  obtain ⟨w1,v1,v2,hp,rfl⟩:=hM.ext.p19 (ai 19 (show 19 < 20 by omega))
  exact hQ a w1 v1 v2 (hM.tmps.trans hz) hM.defers (EZ (lo:=41) (hi:=58) (by kernel_rfl) hM) hp
def T4(w:World)(h:Au)(l:List Rf):Prop:=h.n=l.length∧l.length<=140737488355328∧∀i (hi:i < l.length),∃b o,h.a=some ⟨b,o,none⟩∧b < w.heap.size∧w.cell? ⟨b,o+i*2,none⟩=some (.string l[i].name)∧w.cell? ⟨b,o+i*2+1,none⟩=some (.int .i64 l[i].n)
theorem PD{a b:ByteArray}(h:a.toList=b.toList):a=b:=by
 rw[zP,zP] at h
 cases a;cases b;simpa using h
theorem KQ{w:World}{h1 h2:Au}{b a:List Rf}(r1:T4 w h1 b)(r2:T4 w h2 a):
  Calls Tryz.prog 34 #[h1.v,h2.v] w fun e w'=>e=.returned (.bool (decide (b=a)))∧Below w.heap.size w w':=by
 obtain ⟨a1,n1,c1⟩:=h1
 obtain ⟨T,n2,c2⟩:=h2
 have R1:=yb r1.2.2;have R2:=yb r2.2.2
 have q:=yb r1.1;have r:=yb r2.1
 have L:n1<=140737488355328:=by have:=r1.1;have:=r1.2.1;simp only at*;omega
 have t:n2<=140737488355328:=by have:=r2.1;have:=r2.2.1;simp only at*;omega
 unfold Au.v
 simp only at R1 R2 q r ⊢
 clear r1 r2
 by_cases K:n1=n2
 ·subst K
  have B:((n1:Int) !=(n1:Int))=false:=by simp
  go_enter Tryz.func34,Tryz.ntmps34
  go_wp2
  have s:=yb (yg w.heap.size w)
  go_loopw [13] (fun F wr=>∃i:Nat,i<=n1∧F=iV i∧Hid (b.take i=a.take i)∧Hid (Below w.heap.size w wr)) (fun F _=>n1 - (intOf F).toNat)
  case atStart=>exact ⟨0,yK _,rfl,yb (by simp),s⟩
  case round=>
   obtain ⟨i,hi,rfl,I,c⟩:=hrel
   by_cases n:i < n1
   ·have C:(i:Int) < (n1:Int):=by omega
    have f:i < b.length:=by rw[<-q.o];exact n
    have l:i < a.length:=by rw[<-r.o];exact n
    obtain ⟨b1,o1,rfl,g,D,x⟩:=R1.o i f
    obtain ⟨b2,o2,rfl,k,z,u⟩:=R2.o i l
    have m:Hid (b[i]=a[i]->b.take (i+1)=a.take (i+1)):=yb (fun e=>by
     rw[yJ f,yJ l,I.o,e])
    have d:Hid (b[i]≠a[i]->decide (b=a)=false):=yb (fun e=>xr (fun h=>e (by subst h;rfl)))
    generalize b[i]=R at D x m d
    generalize a[i]=O at z u m d
    obtain ⟨m1,J⟩:=R
    obtain ⟨y,H⟩:=O
    have P:wr.cell? (aV b1 (o1+i*2))=some (.string m1):=(c.o.cell (p:=(aV b1 _)) g).trans D
    have S:wr.cell? (aV b1 (o1+i*2+1))=some (iV J):=(c.o.cell (p:=(aV b1 _)) g).trans x
    have Q:wr.cell? (aV b2 (o2+i*2))=some (.string y):=(c.o.cell (p:=(aV b2 _)) k).trans z
    have M:wr.cell? (aV b2 (o2+i*2+1))=some (iV H):=(c.o.cell (p:=(aV b2 _)) k).trans u
    clear D x z u f l g k
    by_cases E:m1.toList=y.toList
    ·obtain rfl:m1=y:=PD E
     clear E
     by_cases G:J=H
     ·subst G
      have A:=yb (m.o rfl)
      clear m d
      go_wp2_with fail
      go_region
      go_wp2
      exact ⟨⟨i+1,by omega,by push_cast;rfl,A,yb c.o.drew⟩,by simp[intOf];omega⟩
     ·have j:=yb (d.o (fun h=>G (Rf.mk.inj h).2))
      clear m d
      go_wp2_with fail
      go_region
      go_wp2
      go_ret
      exact ⟨by rw[j.o];rfl,c.o.drew⟩
    ·have j:=yb (d.o (fun h=>E (by rw[(Rf.mk.inj h).1])))
     clear m d
     go_wp2_with fail
     go_region
     go_wp2
     go_ret
     exact ⟨by rw[j.o];rfl,c.o.drew⟩
   ·obtain rfl:i=n1:=by omega
    have C:decide ((i:Int) < (i:Int))=false:=by simp
    go_wp2
    go_ret
    have N:b=a:=by
     have h1:=I.o
     rw[q.o,yT,<-q.o,r.o,yT] at h1
     exact h1
    exact ⟨by rw[xm N];rfl,c.o⟩
 ·have B:((n1:Int) !=(n2:Int))=true:=by simp;omega
  go_enter Tryz.func34,Tryz.ntmps34
  go_wp2
  go_ret
  exact ⟨by rw[xr (fun h=>K (by rw[q.o,r.o,h]))];rfl,yg _ _⟩
structure Dp (W0:World) (Bx:Nat) (l:List Rf) (O:Nat->Prop) (V:World):Prop where
 grown:W0.grownBy V (some Bx)
 ownO:∀b,O b->W0.heap.size<=b
 row:∃v,V.heap[Bx]?=some (.cells #[v] 81 (0,0))∧Cx W0.heap.size V v l∧∀g,v.ownBlock=some g->¬ O g
section
variable{W0 V w1:World}{Bx:Nat}{l:List Rf}{O:NP}
theorem Dp.stays(t:Bx < W0.heap.size)(f:Nat->List Rf):Ce (fun k=>Dp W0 Bx (f k)):=by
 intro k O W u W' h r s q p c n
 obtain ⟨v,r1,r2,o⟩:=h.row
 have l:=h.grown.size
 have j:W'.heap[Bx]?=W.heap[Bx]?:=c Bx (fun hb=>by have:=h.ownO Bx hb;omega) (by omega)
 refine ⟨⟨s.trans h.grown.os,q.trans h.grown.tape,p.trans h.grown.output,yu l r,fun b hb i=>(c b (fun m=>by have:=h.ownO b m;omega) (by omega)).trans (h.grown.block b hb i)⟩,fun b hb=>?_,v,j.trans r1,r2.up (fun g a d=>c g (o g a) d),fun g a e=>?_⟩
 ·rcases n b hb with h1|h1
  ·exact h.ownO b h1
  ·omega
 ·rcases n g e with h1|h1
  ·exact o g a h1
  ·have:=(r2.lt a).2;omega
theorem Dp.same(h:Dp W0 Bx l O V){b:Nat}(hb:b < W0.heap.size)(a:b≠Bx):V.heap[b]?=W0.heap[b]?:=h.grown.block b hb (fun e=>a (yi e))
theorem Dp.start(W0:World)(hb:W0.heap[Bx]?=some (.cells #[.slice none 0 0] 81 (0,0))):Dp W0 Bx [] (fun _=>False) W0:=
 ⟨⟨rfl,rfl,rfl,yf _,fun _ _ _=>rfl⟩,fun _ h=>h.elim,_,hb,Rl _ _,fun g a=>by cases a⟩
theorem Dp.put(h:Dp W0 Bx l O V)(x:Bx < W0.heap.size)(p:∀b,O b->b < V.heap.size){va v:Value}{r:Rf}(n:V.cell? ⟨Bx,0,none⟩=some va)(d:T3 V W0.heap.size va l r w1 v):Dp W0 Bx (l++[r]) O (w1.setCell ⟨Bx,0,none⟩ v)∧AO O V (w1.setCell ⟨Bx,0,none⟩ v):=by
 obtain ⟨v0,r1,r2,q⟩:=h.row
 obtain rfl:va=v0:=by
  have e:V.cell? (aV Bx 0)=some v0:=by simp[World.cell?,r1]
  rw[n] at e;exact yi e
 have f:∀g,va.ownBlock=some g->W0.heap.size<=g:=fun g j=>(r2.lt j).1
 have m:w1.heap[Bx]?=V.heap[Bx]?:=d.grown.block Bx (by have:=h.grown.size;omega) (fun e=>by have:=f _ e.symm;omega)
 have y:=h.grown.size
 have s:=d.grown.size
 have i:∀b,b≠Bx->(w1.setCell (aV Bx 0) v).heap[b]?=w1.heap[b]?:=fun b c=>zk _ _ _ _ c
 have a:∀b,b≠Bx->b < V.heap.size->va.ownBlock≠some b->(w1.setCell (aV Bx 0) v).heap[b]?=V.heap[b]?:=fun b c o t=>(i b c).trans (d.grown.block b o (fun e=>t e.symm))
 refine ⟨⟨⟨d.grown.os.trans h.grown.os,d.grown.tape.trans h.grown.tape,d.grown.output.trans h.grown.output,by simp;omega,fun b hb c=>?_⟩,h.ownO,v,?_,d.own.up (fun g j _=>i g (fun e=>by have:=(d.own.lt j).1;omega)),fun g j k=>?_⟩,by simp;omega,fun b hb=>?_⟩
 ·rw[a b (fun e=>c (by rw[e])) (by omega) (fun e=>by have:=f _ e;omega)]
  exact h.grown.block b hb c
 ·have:=zp w1 Bx 0 #[va] 81 v (m.trans r1)
  rw[this];rfl
 ·rcases d.blk with e|⟨w,e,u⟩
  ·rw[e] at j;exact q g j k
  ·rw[e] at j;cases j
   have:=p g k;omega
 ·exact a b (fun e=>by have:=h.ownO b hb;omega) (p b hb) (fun e=>q b e hb)
end
section
variable{f:Int->Ex->Ex}{g:Int->Rf->Rf}
def Rm(f:Int->Ex->Ex)(e:Lk):Lk:=(f e.2 e.1,e.2)
theorem Cg{α β:Type}(F:Nat->α->β)(l:List α):(l.mapIdx F).zipIdx=l.zipIdx.map fun p=>(F p.2 p.1,p.2):=by
 apply xD
 ·simp
 ·intro i h1 h2;simp
theorem T5(l:List Ge):K9 (l.mapIdx (Ge.mp f))=(K9 l).map (Rm f):=by
 unfold K9;rw[Cg,zY,xv];rfl
theorem Rn(l:List DK):Ie (l.mapIdx (DK.mp f))=(Ie l).map (Rm f):=by
 unfold Ie;rw[Cg,zY,xv];rfl
theorem Ol(l:List AF):F4 (l.mapIdx (AF.mp f g))=(F4 l).map (Rm f):=by
 unfold F4;rw[Cg,zY,xv];rfl
theorem Ro(l:List D4):If (l.mapIdx (D4.mp f g))=(If l).map (Rm f):=by
 unfold If;rw[Cg,zY,xv];rfl
theorem Rp(l:List Cq):Ef (l.mapIdx (Cq.mp f g))=(Ef l).map (Rm f):=by
 unfold Ef;rw[Cg,zY,xv];rfl
theorem T6(l:List BG):Jj (l.mapIdx (BG.mp f g))=(Jj l).map (Rm f):=by
 unfold Jj;rw[Cg,zY,xv]
 congr 1
 funext p
 rw[zF,<-Rp (g:=g)]
 rfl
theorem PE(l:List Ba):Gg (l.mapIdx (Ba.mp f g))=(Gg l).map (Rm f):=by
 unfold Gg;rw[Cg,zY,xv];rfl
theorem PF(l:List De):Gh (l.mapIdx (De.mp f g))=(Gh l).map (Rm f):=by
 unfold Gh;rw[Cg,zY,xv];rfl
theorem Qv(x:AB):AD (x.mp f g)=(AD x).map (Rm f):=by
 unfold AD AB.mp
 simp only[zF,<-T5,<-Rn,<-Ol (g:=g),<-Ro (g:=g),<-T6 (g:=g),<-PE (g:=g),<-PF (g:=g)]
 rfl
theorem DH{α β:Type}{F:Nat->α->β}{l:List α}{p:β->Bool}{q:α->Bool}(h:l.all q=true)(a:∀i d,q d=true->p (F i d)=true):(l.mapIdx F).all p=true:=by
 rw[yR] at h ⊢
 intro b hb
 obtain ⟨i,hi,rfl⟩:=zh.1 hb
 rw[List.getElem_mapIdx]
 exact a i _ (h _ (yM _))
end
section
variable{t:Tb}
theorem Jv(l:List Ex):(IZ t l).length=l.length:=by rw[MD];simp
mutual
theorem KR:∀e:Ex,AE (Kt t e)=AE e
 |.mk op n u rn ri args=>by rw[Kt,AE,AE,KS args]
theorem KS:∀l:List Ex,B6 (IZ t l)=B6 l
 |[]=>rfl
 |e::r=>by rw[IZ,B6,B6,KR e,KS r]
end
theorem Rq(e:Ex):BN (Kt t e)=BN e:=by
 cases e with
 |mk op n u rn ri args=>
  rw[Kt]
  unfold BN DL
  simp only[Ex.op,Ex.n,Ex.u,Ex.rn,Ex.ri,Ex.args,Jv]
  by_cases h:op=2
  ·subst h;simp
  ·rw[yt h];rfl
theorem H4{to at_:Int}{r:Rf}(h:JC t to at_ r=true):JC t to at_ (gT t to r)=true:=by
 unfold gT
 by_cases h0:to=0
 ·rw[yw h0];exact h
 ·rw[yt h0]
  unfold JC at h ⊢
  rw[yt h0] at h ⊢
  exact h
theorem Vv{to at_:Int}{rn:ByteArray}{ri rj:Int}(h0:to≠0):JC t to at_ ⟨rn,ri⟩=JC t to at_ ⟨rn,rj⟩:=by
 unfold JC;rw[yt h0,yt h0]
mutual
theorem Qw(lt:Int):∀e:Ex,TD t lt (Kt t e)=TD t lt e
 |.mk op n u rn ri args=>by
  rw[Kt,TD,TD,Jv,Qx lt args]
  by_cases h:op=2
  ·rw[yw h,Vv (rj:=ri) (by unfold Ll;rw[yw h];split<;>decide)]
  ·rw[yt h]
theorem Qx(lt:Int):∀l:List Ex,Sw t lt (IZ t l)=Sw t lt l
 |[]=>rfl
 |e::r=>by rw[IZ,Sw,Sw,Qw lt e,Qx lt r]
end
theorem U6(e:Lk):Ku t (Rm (fT t) e)=Ku t e:=by
 unfold Ku Rm fT
 simp only
 by_cases h:BN e.1=true
 ·simp[h]
 ·rw[yt h,Rq,Qw]
theorem T7(lt:Int)(e:Ex):AE (fT t lt e)=AE e:=by
 unfold fT;split
 ·rfl
 ·exact KR e
theorem Mm{x:AB}(h:CF t x=true):CF t (x.mp (fT t) (gT t))=true:=by
 unfold CF at h ⊢
 simp only[yG] at h ⊢
 obtain ⟨h1,h2,h3,a,h5,h6⟩:=h
 refine ⟨?_,?_,?_,?_,?_,?_⟩
 ·rw[Qv,List.all_map]
  rw[yR] at h1 ⊢
  intro e b
  have:=h1 e b
  simp only[Function.comp,U6];exact this
 ·unfold Cb at h2 ⊢
  exact DH h2 fun _ _ h=>h
 ·refine DH h3 fun i d h=>?_
  unfold ME at h ⊢
  simp only[yG] at h ⊢
  exact ⟨H4 h.1,H4 h.2⟩
 ·refine DH a fun i d h=>?_
  unfold Qg at h ⊢
  simp only[yG] at h ⊢
  exact ⟨H4 h.1,DH h.2 fun _ _ h=>H4 h⟩
 ·refine DH h5 fun i d h=>?_
  unfold JS at h ⊢
  simp only[yG] at h ⊢
  exact ⟨H4 h.1,H4 h.2⟩
 ·refine DH h6 fun i d h=>?_
  unfold MG at h ⊢
  simp only[yG] at h ⊢
  exact ⟨H4 h.1,H4 h.2⟩
theorem Qy{x:AB}(h:BF x=true):BF (x.mp (fT t) (gT t))=true:=by
 unfold BF at h ⊢
 simp only[yG] at h ⊢
 obtain ⟨h1,h2,h3⟩:=h
 refine ⟨?_,?_,?_⟩
 ·unfold Ke at h1 ⊢
  simpa[AB.mp] using h1
 ·unfold FP at h2 ⊢
  refine DH h2 fun i d h=>?_
  simpa[BG.mp] using h
 ·unfold EM at h3 ⊢
  rw[Qv,List.all_map]
  rw[yR] at h3 ⊢
  intro e a
  simpa[Rm,T7] using h3 e a
end
theorem Fh{x:AB}(h:AI x=0):BF x=true∧D7 x=true∧GX x∧Dl (Tb.of x) x=true∧CF (Tb.of x) x=true:=by
 unfold AI at h
 by_cases h1:BF x=true
 ·rw[yw h1] at h
  by_cases h2:D7 x=true
  ·rw[yw h2] at h
   by_cases h3:GX x
   ·rw[yw h3] at h
    by_cases a:(Dl (Tb.of x) x&&CF (Tb.of x) x)=true
    ·rw[yG] at a;exact ⟨h1,h2,h3,a⟩
    ·rw[yt a] at h;cases h
   ·rw[yt h3] at h;cases h
  ·rw[yt h2] at h;cases h
 ·rw[yt h1] at h;cases h
theorem H7(x:AB):(Al x).reaches.length=x.reaches.length:=by unfold Al AB.mp;simp
structure CU (W:World) (s top:Nat) (x:AB) (L:Bz) (cs:List Value) (N:Nat->Prop):Prop where
 src:BT N W L cs x
 at0:L.s=s
 range:W.rangeAt s 0 cs
 lt:∀b,UA N s b->b < top
section
variable{W W':World}{s top:Nat}{x:AB}{L:Bz}{cs:LV}{N:NP}
theorem CU.up(h:CU W s top x L cs N)(hb:∀b,b < top->W'.heap[b]?=W.heap[b]?):CU W' s top x L cs N:=
 ⟨h.src.same (fun _ h=>h) (fun b hN=>hb b (h.lt b (.inr hN))),h.at0,A0 h.range (hb s (h.lt s (.inl rfl))),h.lt⟩
theorem CU.head(h:CU W s top x L cs N):W.cell? ⟨s,21,none⟩=some (.slice L.reaches.a L.reaches.n L.reaches.c):=by
 have:=h.range 21 _ h.src.at.reaches
 rw[yy] at this;exact this
theorem CU.frm(h:CU W s top x L cs N){i:Nat}(hi:i < x.reaches.length):∃b o,L.reaches.a=some ⟨b,o,none⟩∧b < top∧W.cell? ⟨b,o+i*51+1,none⟩=some (.string x.reaches[i].frm.name)∧W.cell? ⟨b,o+i*51+1+1,none⟩=some (.int .i64 x.reaches[i].frm.n):=by
 obtain ⟨b,o,c,g1,e,f,d,_,_,c0,c1,c2,c3,c4,c5,c6,c7,rfl,_⟩:=h.src.reaches.2.2 i hi
 exact ⟨b,o,g1,h.lt b (.inr e),d 1 _ rfl,d 2 _ rfl⟩
end
structure Qz (Q:Exit->Act->World->Prop) (w:World) (x:AB):Prop where
 early:∀(c:Int) tm W,tm.getD 2 undef=.int .i64 c->Below w.heap.size w W->BE x=c->Q .ret {tmps:=tm,defers:=[]} W
 done:∀(c:Int) D1 D2 tm W,tm.getD 2 undef=.int .i64 c->Below w.heap.size w W->BE x=c->D1≠D2->w.heap.size<=D1->w.heap.size<=D2->W.heap[D1]?=some (.deferred (some []))->W.heap[D2]?=some (.deferred (some []))->Q .ret {tmps:=tm,defers:=[J2 D2,J2 D1]} W
theorem T8(w:World)(x:AB):Qz (bodyPostM Fence.wide 10 Tryz.prog Tryz.f17 (fun e w'=>e=.returned (.int .i64 (BE x))∧Below w.heap.size w w')) w x:=by
 have a:∀(tm:Array Value) (c:Int) (W:World),tm.getD 2 undef=.int .i64 c->(results Tryz.f17 tm).run Tryz.prog W=.ok (.int .i64 c) W:=fun tm c W h=>by
  rw[yE] at h
  simp[results,Tryz.results17,h]
 refine ⟨fun c tm W h2 hb i=>?_,fun c D1 l tm W h2 hb i g h1 j f d=>?_⟩
 ·subst i
  exact ⟨_,a tm _ W h2,rfl,hb⟩
 ·subst i
  have k:(W.putObj l (.deferred none)).heap[D1]?=some (.deferred (some [])):=(World.putObj_heap_other g).trans f
  refine ⟨by simp,.inl ⟨_,_,rfl,run_takeDeferred d,⟨by simp,.inl ⟨_,_,rfl,run_takeDeferred k,⟨_,a tm _ _ h2,rfl,hb.trans ⟨rfl,rfl,rfl,by simp,fun b hb=>?_⟩⟩⟩⟩⟩⟩
  rw[World.putObj_heap_other (by omega),World.putObj_heap_other (by omega)]
structure EG (V:World) (base B4 B5:Nat) (la lb:List Rf) (wr:World):Prop where
 os:wr.os=V.os
 tape:wr.tape=V.tape
 output:wr.output=V.output
 size:V.heap.size<=wr.heap.size
 low:base<=V.heap.size
 keep:∀(k:Nat) (o:Obj),k≠B4->k≠B5->V.heap[k]?=some o->(∀c f,o≠Obj.cells c 23 f)->wr.heap[k]?=some o
 block:∀b,b < base->b≠B4->b≠B5->wr.heap[b]?=V.heap[b]?
 rows:∃va vb,wr.heap[B4]?=some (.cells #[va] 81 (0,0))∧wr.heap[B5]?=some (.cells #[vb] 81 (0,0))∧Lz wr base wr va la vb lb
theorem EG.put{V wr w1:World}{base B4 B5:Nat}{la lb:List Rf}(h:EG V base B4 B5 la lb wr)(t:B4 < base)(h5:B5 < base)(m:B4≠B5){v1 f:Value}{r1 r2:Rf}(c:Lz wr base w1 v1 (la++[r1]) f (lb++[r2])):EG V base B4 B5 (la++[r1]) (lb++[r2]) ((w1.setCell ⟨B4,0,none⟩ v1).setCell ⟨B5,0,none⟩ f):=by
 obtain ⟨va,vb,w,x,z⟩:=h.rows
 have s:w1.heap[B4]?=some (.cells #[va] 81 (0,0)):=(c.below.block B4 t).trans w
 have u:w1.heap[B5]?=some (.cells #[vb] 81 (0,0)):=(c.below.block B5 h5).trans x
 have d:∀b,b≠B4->b≠B5->((w1.setCell ⟨B4,0,none⟩ v1).setCell ⟨B5,0,none⟩ f).heap[b]?=w1.heap[b]?:=fun b i j=>(zk _ _ _ _ j).trans (zk _ _ _ _ i)
 have q:∀ {v:Value} {l:List Rf},Cx base w1 v l->Cx base ((w1.setCell ⟨B4,0,none⟩ v1).setCell ⟨B5,0,none⟩ f) v l:=fun p=>p.up (fun g y _=>by
  have:=(p.lt y).1
  exact d g (by omega) (by omega))
 have n:((w1.setCell ⟨B4,0,none⟩ v1).setCell ⟨B5,0,none⟩ f).heap.size=w1.heap.size:=by simp
 refine ⟨c.below.os.trans h.os,c.below.tape.trans h.tape,c.below.output.trans h.output,by rw[n];exact yu h.size c.below.size,h.low,fun k o i j p r=>(d k i j).trans (c.keep k o (h.keep k o i j p r) r),fun b hb i j=>?_,v1,f,?_,?_,yg _ _,by rw[n];exact c.size,q c.a,q c.b,c.apart,fun _ _ h _=>h⟩
 ·rw[d b i j,c.below.block b hb];exact h.block b hb i j
 ·rw[zk _ _ _ _ m,zp w1 B4 0 #[va] 81 v1 s];rfl
 ·have e:(w1.setCell ⟨B4,0,none⟩ v1).heap[B5]?=some (.cells #[vb] 81 (0,0)):=(zk _ _ _ _ (fun e=>m e.symm)).trans u
  rw[zp (w1.setCell ⟨B4,0,none⟩ v1) B5 0 #[vb] 81 f e];rfl
theorem EG.drew{V wr:World}{base B4 B5:Nat}{la lb:List Rf}(h:EG V base B4 B5 la lb wr):EG V base B4 B5 la lb wr.drew:=by
 obtain ⟨va,vb,d,e,c⟩:=h.rows
 exact ⟨h.os,h.tape,h.output,h.size,h.low,h.keep,h.block,va,vb,d,e,yg _ _,c.size,c.a,c.b,c.apart,fun _ _ h _=>h⟩
theorem Cx.rf{B:Nat}{w:World}{v:Value}{l:List Rf}(h:Cx B w v l)(c:l.length<=1000000000):∃h:Au,v=h.v∧T4 w h l:=by
 obtain ⟨h1,⟨rfl,h2⟩|⟨g,cap,f,rfl,q,h5,h6,s,p,k⟩⟩:=h
 ·obtain rfl:=zl.1 h2
  exact ⟨⟨none,0,0⟩,rfl,rfl,by simp,fun i hi=>absurd hi (by simp)⟩
 ·have d:∀j u,(l.flatMap AX)[j]?=some u->w.cell? ⟨g,j,none⟩=some u:=by
   intro j u a
   rw[<-k] at a
   have b:=(yA.1 a).1
   rw[zc] at b
   rw[zN,yw (by omega)] at a
   simp only[World.cell?,h5]
   simpa using a
  have o:∀(l:List Rf) (i:Nat) (hi:i < l.length),(l.flatMap AX)[i*2]?=some (.string l[i].name)∧(l.flatMap AX)[i*2+1]?=some (.int .i64 l[i].n):=by
   intro l
   induction l with
   |nil=>intro i hi;simp at hi
   |cons x r ih=>
    intro i hi
    cases i with
    |zero=>exact ⟨rfl,rfl⟩
    |succ i=>
     have:=ih i (by simpa using hi)
     have e:((x::r).flatMap AX)=AX x++r.flatMap AX:=rfl
     rw[e,yU (by simp[AX];omega),yU (by simp[AX];omega)]
     have c:(AX x).length=2:=rfl
     rw[c,show (i+1)*2 - 2=i*2 by omega,show (i+1)*2+1 - 2=i*2+1 by omega]
     exact this
  refine ⟨⟨some ⟨g,0,none⟩,l.length,cap⟩,rfl,rfl,by omega,fun i hi=>?_⟩
  obtain ⟨m,g1⟩:=o l i hi
  refine ⟨g,0,rfl,(yd.1 h5).1,?_,?_⟩
  ·rw[yy];exact d _ _ m
  ·rw[yy];exact d _ _ g1
theorem Ht{α:Type}{l:List α}{i:Nat}{a:α}(h:l[i]?=some a):l.take i++[a]=l.take (i+1):=by
 rw[List.take_add_one,h];rfl
theorem Vw{Q:QT}{w V:World}{x:AB}{L1 L2:Bz}{ak am:LV}{N1 N2:NP}{base B3 B4 B5 D1 C:Nat}(hQ:Qz Q w x)(hw:AI x=0)
 (h1:CU V w.heap.size B4 x L1 ak N1)(h2:CU V B3 B4 (Al x) L2 am N2)(ac:B4 < B5)(h5:B5 < base)(hb:Below w.heap.size w V)(hL:EG V base B4 B5 (AW x) (AW (Al x)) V)
 (hD:D1≠C∧w.heap.size<=D1∧w.heap.size<=C)(m:V.heap[D1]?=some (.deferred (some [])))(l:V.heap[C]?=some (.deferred (some [])))(E:(D8 x).length<=900000000)(u:(D8 (Al x)).length<=900000000)
 (u0 u6 u7 u8 u9 u10 u11 u12 u13 u14 u15 u16 u17 u18 u19 u20 u21 u22 u23 u24 u25 u26 u27 u28 u29 u30 u31 u32 u33 u34 u35 u36 u37 u38 u39 u40 u41 u42 u43 u44 u45 u46 u47 u48 u49 u50 u51 u52 u53 u54 u55 u56 u57 u58 u59 u60 u61 u62 u63:Value):
  FC 17 Tryz.prog (Gv 6 (Tryz.f17.body.getD .skip)) Q {tmps:=#[u0,.pointer (some ⟨w.heap.size,0,none⟩),.int .i64 0,.pointer (some ⟨B3,0,none⟩),.pointer (some ⟨B4,0,none⟩),.pointer (some ⟨B5,0,none⟩),u6,u7,u8,u9,u10,u11,u12,u13,u14,u15,u16,u17,u18,u19,u20,u21,u22,u23,u24,u25,u26,u27,u28,u29,u30,u31,u32,u33,u34,u35,u36,u37,u38,u39,u40,u41,u42,u43,u44,u45,u46,u47,u48,u49,u50,u51,u52,u53,u54,u55,u56,u57,u58,u59,u60,u61,u62,u63],defers:=[J2 C,J2 D1]} V:=by
 have G:w.heap.size < B4:=h1.lt _ (.inl rfl)
 have I:B3 < B4:=h2.lt _ (.inl rfl)
 have F:=hL.low
 have p:Hid (∀la lb wr,EG V base B4 B5 la lb wr->∀b,b < B4->wr.heap[b]?=V.heap[b]?):=yb (fun la lb wr h b hb=>h.block b (by omega) (by omega) (by omega))
 have g:Hid (∀la lb wr,EG V base B4 B5 la lb wr->wr.heap[D1]?=some (.deferred (some []))∧wr.heap[C]?=some (.deferred (some []))):=yb (fun la lb wr h=>by
  obtain ⟨va,vb,r4,r5,_⟩:=hL.rows
  exact ⟨h.keep D1 _ (fun e=>by rw[e,r4] at m;cases m) (fun e=>by rw[e,r5] at m;cases m) m (fun _ _ e=>by cases e),h.keep C _ (fun e=>by rw[e,r4] at l;cases l) (fun e=>by rw[e,r5] at l;cases l) l (fun _ _ e=>by cases e)⟩)
 have D:Hid (∀la lb wr,EG V base B4 B5 la lb wr->Below w.heap.size w wr):=yb (fun la lb wr h=>hb.trans ⟨h.os,h.tape,h.output,h.size,fun b U=>h.block b (by omega) (by omega) (by omega)⟩)
 have hc:=h1.head
 have O:=yb h2.head
 have S:Hid (∀i (hi:i < x.reaches.length),∃b o,L1.reaches.a=some ⟨b,o,none⟩∧b < B4∧V.cell? ⟨b,o+i*51+1,none⟩=some (.string x.reaches[i].frm.name)∧V.cell? ⟨b,o+i*51+1+1,none⟩=some (.int .i64 x.reaches[i].frm.n)):=yb (fun i hi=>h1.frm hi)
 have N:Hid (∀i (hi:i < (Al x).reaches.length),∃b o,L2.reaches.a=some ⟨b,o,none⟩∧b < B4∧V.cell? ⟨b,o+i*51+1,none⟩=some (.string (Al x).reaches[i].frm.name)∧V.cell? ⟨b,o+i*51+1+1,none⟩=some (.int .i64 (Al x).reaches[i].frm.n)):=yb (fun i hi=>h2.frm hi)
 have r:Hid (L1.reaches.n=x.reaches.length):=yb h1.src.reaches.1
 have R:Hid (L2.reaches.n=x.reaches.length):=yb (h2.src.reaches.1.trans (H7 x))
 have J:L1.reaches.n<=140737488355328:=by rw[r.o];exact h1.src.reaches.2.1
 have P:=yb hc
 have HQ:=yb hQ
 have c:Hid (w.heap.size < B4∧B3 < B4∧B4 < B5∧B5 < base∧base<=V.heap.size):=yb ⟨G,I,ac,h5,F⟩
 have Y:=yb hD
 have H:=yb E;have q:=yb u
 have HC:Hid (BE x=if D8 x=D8 (Al x) then 0 else 170):=yb (by unfold BE;rw[yw hw])
 have ad:Hid (EG V base B4 B5 (AW x++(x.reaches.map fun d:AF=>d.frm).take 0) (AW (Al x)++((Al x).reaches.map fun d:AF=>d.frm).take 0) V):=yb (by rw[xd,xd,yV,yV];exact hL)
 generalize L1.reaches=av at hc S r J P
 obtain ⟨ra,rn,rc⟩:=av
 generalize L2.reaches=ap at O N R
 obtain ⟨L,a7,an⟩:=ap
 simp only at hc S r J P O N R
 clear hQ hw h1 h2 ac h5 hb hL hD m l E u G I F
 unfold J2
 refine Aa (A4 ?_)
 go_wp2
 clear hc
 go_loopw [38] (fun iv wr=>∃i:Nat,iv=.int .i64 i∧i<=rn∧Hid (EG V base B4 B5 (AW x++(x.reaches.map fun d:AF=>d.frm).take i) (AW (Al x)++((Al x).reaches.map fun d:AF=>d.frm).take i) wr)) (fun iv _=>rn - (intOf iv).toNat)
 case atStart=>exact ⟨0,rfl,yK _,ad⟩
 case round=>
  clear ad
  obtain ⟨i,rfl,hi,A⟩:=hrel
  by_cases U:i < rn
  ·have aq:(i:Int) < (rn:Int):=by omega
   have y:i < x.reaches.length:=by rw[<-r.o];exact U
   have K:i < (Al x).reaches.length:=by rw[H7];exact y
   obtain ⟨b1,o1,rfl,g1,x1,y1⟩:=S.o i y
   obtain ⟨b2,o2,rfl,g2,x2,y2⟩:=N.o i K
   have ae:(x.reaches.map fun d:AF=>d.frm)[i]?=some x.reaches[i].frm:=by simp[y]
   have af:((Al x).reaches.map fun d:AF=>d.frm)[i]?=some (Al x).reaches[i].frm:=by simp[K]
   have k:Hid (∀wr,EG V base B4 B5 ((AW x++(x.reaches.map fun d:AF=>d.frm).take i)++[x.reaches[i].frm]) ((AW (Al x)++((Al x).reaches.map fun d:AF=>d.frm).take i)++[(Al x).reaches[i].frm]) wr->EG V base B4 B5 (AW x++(x.reaches.map fun d:AF=>d.frm).take (i+1)) (AW (Al x)++((Al x).reaches.map fun d:AF=>d.frm).take (i+1)) wr):=yb (fun wr h=>by
    rw[yL,yL] at h
    rw[Ht ae,Ht af] at h
    exact h)
   have au:Hid ((AW x++(x.reaches.map fun d:AF=>d.frm).take i).length+1<=1000000000):=yb (by
    have:=H.o
    unfold D8 at this
    simp only[ym,zc,yX] at this ⊢
    omega)
   have ah:Hid ((AW (Al x)++((Al x).reaches.map fun d:AF=>d.frm).take i).length+1<=1000000000):=yb (by
    have:=q.o
    unfold D8 at this
    simp only[ym,zc,yX] at this ⊢
    omega)
   generalize x.reaches[i].frm=r1 at x1 y1 k
   generalize (Al x).reaches[i].frm=r2 at x2 y2 k
   obtain ⟨va,vb,q4,q5,W⟩:=A.o.rows
   have HT:=yb W;have a8:=yb q4;have ab:=yb q5
   have ag:Hid (wr.cell? ⟨b1,o1+i*51+1,none⟩=some (.string r1.name)):=yb ((Ad (p.o _ _ _ A.o b1 g1)).trans x1)
   have ai:Hid (wr.cell? ⟨b1,o1+i*51+1+1,none⟩=some (.int .i64 r1.n)):=yb ((Ad (p.o _ _ _ A.o b1 g1)).trans y1)
   have aj:Hid (wr.cell? ⟨b2,o2+i*51+1,none⟩=some (.string r2.name)):=yb ((Ad (p.o _ _ _ A.o b2 g2)).trans x2)
   have ar:Hid (wr.cell? ⟨b2,o2+i*51+1+1,none⟩=some (.int .i64 r2.n)):=yb ((Ad (p.o _ _ _ A.o b2 g2)).trans y2)
   have HG:Hid (b1 < B4∧b2 < B4∧i < rn∧i < a7):=yb ⟨g1,g2,U,by rw[R.o];exact y⟩
   clear y K x1 y1 x2 y2 ae af q4 q5 W g1 g2
   go_wp2_with fail
   refine Vu (base:=base) (B:=w.heap.size) (B3:=B3) (B4:=B4) (B5:=B5) (b1:=b1) (o1:=o1) (n1:=rn) (c1:=rc) (b2:=b2) (o2:=o2) (n2:=a7) (c2:=an) (i:=i) (va:=va) (vb:=vb) (la:=AW x++(x.reaches.map fun d:AF=>d.frm).take i) (lb:=AW (Al x)++((Al x).reaches.map fun d:AF=>d.frm).take i) (r1:=r1) (r2:=r2) _ ?_ ?_ ?_ ?_ ?_ ?_ ?_ ?_ ?_ ?_ ?_ ?_ ?_ ?_ ?_ ?_ ?_ ?_ ?_ ?_ ?_ ?_ ?_ ?_ ?_ ?_ ?_ ?_ ?_ ?_
   ·rfl
   ·rfl
   ·rfl
   ·rfl
   ·rfl
   ·rfl
   ·rfl
   ·have:=c.o;omega
   ·have:=c.o;omega
   ·have:=c.o;omega
   ·have:=c.o;omega
   ·have:=c.o;have:=HG.o;omega
   ·have:=c.o;have:=HG.o;omega
   ·have:=c.o;omega
   ·exact HG.o.2.2.1
   ·exact HG.o.2.2.2
   ·exact ⟨_,a8.o⟩
   ·exact ⟨_,ab.o⟩
   ·simp[World.cell?,a8.o]
   ·simp[World.cell?,ab.o]
   ·exact (Ad (p.o _ _ _ A.o _ c.o.1)).trans P.o
   ·exact (Ad (p.o _ _ _ A.o _ c.o.2.1)).trans O.o
   ·exact ag.o
   ·exact ai.o
   ·exact aj.o
   ·exact ar.o
   ·exact HT.o
   ·exact au.o
   ·exact ah.o
   ·intro a w1 v1 v2 a0 aa a6 hp
    have ao:=yb (k.o _ (A.o.put (by have:=c.o;omega) c.o.2.2.2.1 (by have:=c.o;omega) hp))
    obtain ⟨v41,v42,v43,v44,v45,v46,v47,v48,v49,v50,v51,v52,v53,v54,v55,v56,v57,v58,rfl⟩:∃v41 v42 v43 v44 v45 v46 v47 v48 v49 v50 v51 v52 v53 v54 v55 v56 v57 v58:Value,a={tmps:=#[u0,.pointer (some ⟨w.heap.size,0,none⟩),.int .i64 0,.pointer (some ⟨B3,0,none⟩),.pointer (some ⟨B4,0,none⟩),.pointer (some ⟨B5,0,none⟩),u6,u7,.int .i64 i,u9,u10,u11,u12,u13,u14,u15,u16,u17,u18,u19,u20,u21,u22,u23,u24,u25,u26,u27,u28,u29,u30,u31,u32,u33,u34,.pointer (some ⟨w.heap.size,21,none⟩),.slice (some ⟨b1,o1,none⟩) rn rc,.int .i64 rn,.int .i64 i,.bool true,.int .i64 i,v41,v42,v43,v44,v45,v46,v47,v48,v49,v50,v51,v52,v53,v54,v55,v56,v57,v58,u59,u60,u61,u62,u63],defers:=[J2 C,J2 D1]}:=by
     refine ⟨a.tmps.getD 41 undef,a.tmps.getD 42 undef,a.tmps.getD 43 undef,a.tmps.getD 44 undef,a.tmps.getD 45 undef,a.tmps.getD 46 undef,a.tmps.getD 47 undef,a.tmps.getD 48 undef,a.tmps.getD 49 undef,a.tmps.getD 50 undef,a.tmps.getD 51 undef,a.tmps.getD 52 undef,a.tmps.getD 53 undef,a.tmps.getD 54 undef,a.tmps.getD 55 undef,a.tmps.getD 56 undef,a.tmps.getD 57 undef,a.tmps.getD 58 undef,(Gp [41,42,43,44,45,46,47,48,49,50,51,52,53,54,55,56,57,58] (a0.trans rfl) aa (fun t ht=>a6 t ?_)).trans (by kernel_rfl)⟩
     simp at ht;omega
    clear a0 aa a6 hp
    unfold J2
    go_wp2
    exact ⟨⟨i+1,by push_cast;rfl,by omega,ao⟩,by simp[intOf];omega⟩
  ·obtain rfl:i=rn:=by omega
   have aq:decide ((i:Int) < (i:Int))=false:=by simp
   have f:Hid (EG V base B4 B5 (D8 x) (D8 (Al x)) wr):=yb (by
    have h:=A.o
    rw[r.o] at h
    have e1:(x.reaches.map fun d:AF=>d.frm).take x.reaches.length=x.reaches.map fun d:AF=>d.frm:=by
     rw[xW (by simp)]
    have e2:((Al x).reaches.map fun d:AF=>d.frm).take x.reaches.length=(Al x).reaches.map fun d:AF=>d.frm:=by
     rw[xW (by rw[yX,H7];exact yf _)]
    rw[e1,e2] at h
    exact h)
   obtain ⟨va,vb,q4,q5,W⟩:=f.o.rows
   obtain ⟨⟨a1,n1,k1⟩,ea,Z⟩:=W.a.rf (by have:=H.o;omega)
   obtain ⟨⟨a2,n2,k2⟩,eb,L⟩:=W.b.rf (by have:=q.o;omega)
   unfold Au.v at ea eb
   simp only at ea eb
   subst ea eb
   have RA:=yb Z;have RB:=yb L
   have c4:wr.cell? ⟨B4,0,none⟩=some (.slice a1 n1 k1):=by simp[World.cell?,q4]
   have c5:wr.cell? ⟨B5,0,none⟩=some (.slice a2 n2 k2):=by simp[World.cell?,q5]
   clear q4 q5 W Z L A
   go_wp2
   by_cases X:D8 x=D8 (Al x)
   ·have T:Hid (decide (D8 x=D8 (Al x))=true):=yb (xm X)
    have M:Hid (BE x=0):=yb (by rw[HC.o,yw X])
    clear X
    refine Aa (A4 ?_)
    go_wp2_with (first|(go_at_call 34;refine (KQ (h1:=⟨a1,n1,k1⟩) (h2:=⟨a2,n2,k2⟩) RA.o RB.o).mono ?_;rintro e w5 ⟨z,s⟩;rw[T.o] at z;subst z;have j:=yb s;clear s))
    refine A4 ?_
    go_wp2
    exact HQ.o.done 0 D1 C _ _ rfl ((D.o _ _ _ f.o).trans (j.o.mono (D.o _ _ _ f.o).size)) M.o Y.o.1 Y.o.2.1 Y.o.2.2 ((j.o.block _ (yd.1 (g.o _ _ _ f.o).1).1).trans (g.o _ _ _ f.o).1) ((j.o.block _ (yd.1 (g.o _ _ _ f.o).2).1).trans (g.o _ _ _ f.o).2)
   ·have T:Hid (decide (D8 x=D8 (Al x))=false):=yb (xr X)
    have M:Hid (BE x=170):=yb (by rw[HC.o,yt X])
    clear X
    refine Aa (A4 ?_)
    go_wp2_with (first|(go_at_call 34;refine (KQ (h1:=⟨a1,n1,k1⟩) (h2:=⟨a2,n2,k2⟩) RA.o RB.o).mono ?_;rintro e w5 ⟨z,s⟩;rw[T.o] at z;subst z;have j:=yb s;clear s))
    exact HQ.o.done 170 D1 C _ _ rfl ((D.o _ _ _ f.o).trans (j.o.mono (D.o _ _ _ f.o).size)) M.o Y.o.1 Y.o.2.1 Y.o.2.2 ((j.o.block _ (yd.1 (g.o _ _ _ f.o).1).1).trans (g.o _ _ _ f.o).1) ((j.o.block _ (yd.1 (g.o _ _ _ f.o).2).1).trans (g.o _ _ _ f.o).2)
end Go.Proofs.YtjofgpfocadomaaGreatDoor
namespace Go.Proofs.YtjofgpfocadomaaGreatDoor
open Go.RowKit
attribute [local go_sem] Oper.semAt_some
theorem Cx.low{B b:Nat}{w:World}{v:Value}{l:List Rf}(h:Cx B w v l)(hb:b<=B):Cx b w v l:=by
 obtain ⟨h1,h2⟩:=h
 refine ⟨h1,h2.imp id ?_⟩
 rintro ⟨g,cap,a,e,c,h5⟩
 exact ⟨g,cap,a,e,by omega,h5⟩
theorem Dp.below{W0 V V':World}{Bx:Nat}{l:List Rf}{O:NP}(h:Dp W0 Bx l O V)(hb:Below V.heap.size V V'):Dp W0 Bx l O V':=by
 obtain ⟨v,r1,r2,d⟩:=h.row
 exact ⟨⟨hb.os.trans h.grown.os,hb.tape.trans h.grown.tape,hb.output.trans h.grown.output,yu h.grown.size hb.size,fun b a c=>(hb.block b (yv a h.grown.size)).trans (h.grown.block b a c)⟩,h.ownO,v,(hb.block _ (yd.1 r1).1).trans r1,r2.up (fun g _ a=>hb.block g a),d⟩
theorem Vx{Q:QT}{w V:World}{x:AB}{L1 L2:Bz}{d9 da:LV}{N1 N2:NP}{base B3 B4 B5 D1:Nat}(hQ:Qz Q w x)(hw:AI x=0)
 (h1:CU V w.heap.size B4 x L1 d9 N1)(h2:CU V B3 B4 (Al x) L2 da N2)(S:B4 < B5)(h5:B5 < base)(hb:Below w.heap.size w V)(E:base<=V.heap.size)
 (bo:∃va,V.heap[B4]?=some (.cells #[va] 81 (0,0))∧Cx base V va (AW x))(y:V.heap[B5]?=some (.cells #[.slice none 0 0] 81 (0,0)))
 (N:w.heap.size<=D1)(m:V.heap[D1]?=some (.deferred (some [])))(p:(D8 x).length<=900000000)(i:(D8 (Al x)).length<=900000000)
 (u0 u6 u7 u8 u9 ah av ba az cj cv ag bb cp bq bi d0 ae bt b4 cq d8 dg bv cx au an af c9 bg ce cm ak cu b8 bj ay ap b9 bh aq be aj cd aw ad bx cf cw am b0 ct ax ai cy b7 bk bz c8:Value):
  FC 17 Tryz.prog (Gv 5 (Tryz.f17.body.getD .skip)) Q {tmps:=#[u0,.pointer (some ⟨w.heap.size,0,none⟩),.int .i64 0,.pointer (some ⟨B3,0,none⟩),.pointer (some ⟨B4,0,none⟩),.pointer (some ⟨B5,0,none⟩),u6,u7,u8,u9,ah,av,ba,az,cj,cv,ag,bb,cp,bq,bi,d0,ae,bt,b4,cq,d8,dg,bv,cx,au,an,af,c9,bg,ce,cm,ak,cu,b8,bj,ay,ap,b9,bh,aq,be,aj,cd,aw,ad,bx,cf,cw,am,b0,ct,ax,ai,cy,b7,bk,bz,c8],defers:=[J2 D1]} V:=by
 obtain ⟨x0,z⟩:∃x0:AB,x0=Al x:=⟨_,rfl⟩
 obtain ⟨L,cs,NN,X⟩:∃L cs NN,CU V B3 B4 x0 L cs NN:=by rw[z];exact ⟨_,_,_,h2⟩
 have T:BF x0=true:=by rw[z];exact Qy (Fh hw).1
 have d1:CF (Tb.of x) x0=true:=by rw[z];exact Mm (Fh hw).2.2.2.2
 have cr:(AW x0).length<=900000000:=by
  rw[z];have:=i;unfold D8 at this;rw[ym] at this;omega
 have bu:B3 < B4:=X.lt _ (.inl rfl)
 obtain ⟨W5,I⟩:∃W5,W5=(V.alloc (.cells #[pV B3 0] 85)):=⟨_,rfl⟩
 have j:Below V.heap.size V W5:=by rw[I];exact (yg _ _).alloc (yf _) _
 have a2:W5.heap.size=V.heap.size+1:=by rw[I];simp
 have M:CU W5 B3 B4 x0 L cs NN:=X.up (fun b hb=>j.block b (by omega))
 have cl:W5.cell? (aV V.heap.size 0)=some (pV L.s 0):=by
  rw[X.at0,I]
  have h:=World.alloc_heap_new V (.cells #[pV B3 0] 85)
  simp only[World.cell?,h]
  rfl
 have a7:W5.rangeAt L.s 0 cs:=by rw[X.at0];exact M.range
 have hU:=Oh M.src a7 cl T
 obtain ⟨hR,hM⟩:=Ml M.src a7
 have Z:(BU W5 L x0).2=true:=((G0 (Tb.of x) hU).2 d1).1
 have ac:=hM Z
 have bp:(BU W5 L x0).1.length=(AW x0).length:=by rw[<-ac,yX]
 have ck:∀k O U,Dp W5 B5 ((AW x0).take k) O U->∀b,(UA NN L.s b∨b=V.heap.size)->U.heap[b]?=W5.heap[b]?:=fun k O U h b hb=>by
  rcases hb with hb|rfl
  ·rw[X.at0] at hb
   have:=X.lt b hb
   exact h.same (by omega) (by omega)
  ·exact h.same (by omega) (by omega)
 have HU:=yb hU;have HR:=yb hR;have HM:=yb ac;have dh:=yb bp;have ci:=yb ck;have dj:=yb Z;have b5:=yb a2;have di:=yb j
 have HP:=yb X;have d5:=yb cr
 have cn:Hid (B5 < V.heap.size∧∃u:Value,W5.heap[B5]?=some (.cells #[u] 81 (0,0))):=yb ⟨by omega,by
  rw[j.block _ (by omega)];exact ⟨_,y⟩⟩
 have q:Hid (B5 < W5.heap.size):=yb (by omega)
 have dc:Hid (Dp W5 B5 ((AW x0).take 0) (fun _=>False) W5):=yb (by
  rw[xd]
  exact Dp.start W5 (by rw[j.block _ (by omega)];exact y))
 have dl:=yb I;have d6:=yb z;have d4:=yb bu
 have Y:=yb (And.intro hQ (And.intro hw (And.intro h1 (And.intro h2 (And.intro S (And.intro h5 (And.intro hb E)))))))
 have ab:=yb (And.intro bo (And.intro y (And.intro N m)))
 have aa:=yb (And.intro p i)
 clear I hQ hw h1 h2 S h5 hb E T d1 cr bu j a2 M cl a7 hU hR hM ac Z bp ck X z p i bo y N m
 unfold J2
 refine Aa (Aa (A4 ?_))
 go_wp2_with (first|(go_at_call 33;refine (Ky _ _).mono ?_;rintro e w2 ⟨rfl,rfl⟩))
 rw[<-dl.o]
 refine Dc ?_
 refine CH (n:=10) Tryz.func17 rfl (fun _ _=>rfl) (Kg 9 (by omega) HU.o) (fun a ha=>by
   obtain ⟨u,_,rfl⟩:=xR.1 ha
   rfl)
  (fun k O U=>Dp W5 B5 ((AW x0).take k) O U) (fun _ _ _=>False) (fun _ _ _=>False)
  (fun k a O U=>Dp W5 B5 ((AW x0).take k) O U∧∃(ub uo:Nat) (f d:Int) (c:ByteArray) (C:Int) (g:Nat),(BU W5 L x0).1[k]?=some ⟨ub,uo,f,d,c,C⟩∧¬ O g∧g < U.heap.size∧U.heap[g]?=some (.cells #[pV ub uo,iV f,iV d] 89 (0,0))∧a={tmps:=#[u0,pV w.heap.size 0,iV 0,pV B3 0,pV B4 0,pV B5 0,u6,pV g 0,u8,u9,ah,av,ba,az,cj,cv,ag,bb,cp,bq,bi,d0,ae,bt,b4,cq,.func (.func 70) #[] #[pV V.heap.size 0],.agg #[pV ub uo,iV f,iV d],bv,cx,au,an,af,c9,bg,ce,cm,ak,cu,b8,bj,ay,ap,b9,bh,aq,be,aj,cd,aw,ad,bx,cf,cw,am,b0,ct,ax,ai,cy,b7,bk,bz,c8],defers:=[]})
  (Dp.stays (W0:=W5) q.o (fun k=>(AW x0).take k)) (fun _ _ _ _ _ _ h=>h.elim) (fun _ _ _ _ _ _ h=>h.elim) ?_ (fun k O U h=>Of (ci.o k O U h)) (fun _ _ _ h=>h.elim) ?_ dc.o ?_ ?_ ?_ (fun _ _ _ _ _ _ h=>h.elim) (fun _ _ _ _ _ _ h=>h.elim)
 ·rintro a k O U O' U' ⟨h1,ub,uo,f,d,c,C,g,h2,h3,h4,h5,h6⟩ hz ho ht hu W hO
  exact ⟨Dp.stays (W0:=W5) q.o (fun k=>(AW x0).take k) k O U O' U' h1 hz ho ht hu W hO,ub,uo,f,d,c,C,g,h2,fun h=>(hO g h).elim h3 (fun h=>by omega),by omega,(W g h3 h4).trans h5,h6⟩
 ·intro ch he O U J
  rw[dj.o] at he
  cases he
 ·intro k W O U lo J hO hl K
  have ar:k < (BU W5 L x0).1.length:=by rw[yX] at W;exact W
  rw[zG]
  have R:=yb (yk ar)
  generalize (BU W5 L x0).1[k]=u at R ⊢
  obtain ⟨ub,uo,f,d,c,C⟩:=u
  have HJ:=yb J;have P:=yb K
  clear J hO hl K W ar
  unfold Us.v
  simp only
  gi_wp2
  have a0:AO O U (U.alloc (.cells #[pV ub uo,iV f,iV d] 89)):=⟨by simp,fun b hb=>yD _ _ _ (P.o b hb)⟩
  have G:Dp W5 B5 ((AW x0).take k) O (U.alloc (.cells #[pV ub uo,iV f,iV d] 89)):=HJ.o.below ((yg U.heap.size U).alloc (yf _) _)
  have H:¬ O U.heap.size:=fun h=>qC _ (P.o _ h)
  first
  |exact ⟨a0,G,ub,uo,f,d,c,C,U.heap.size,R.o,H,by simp,World.alloc_heap_new _ _,rfl⟩
  |(rename_i hK;exact hK _ _ ⟨a0,G,ub,uo,f,d,c,C,U.heap.size,R.o,H,by simp,World.alloc_heap_new _ _,rfl⟩)
  |(rename_i hK _;exact hK _ _ ⟨a0,G,ub,uo,f,d,c,C,U.heap.size,R.o,H,by simp,World.alloc_heap_new _ _,rfl⟩)
  |fail
 ·rintro k W O U lo a1 hl cg K ⟨J,ub,uo,f,d,c,C,g,hu,df,cz,ao,rfl⟩
  have l:=HR.o _ (zX hu)
  have a8:=ci.o k O U J ub (.inl l.inS)
  have cc:(AW x0)[k]?=some (⟨c,C⟩:Rf):=by
   rw[<-HM.o,qw,hu];rfl
  obtain ⟨va,r1,r2,r3⟩:=J.row
  have HJ:=yb J
  have dk:Hid (∀U',Dp W5 B5 ((AW x0).take k++[⟨c,C⟩]) O U'->Dp W5 B5 ((AW x0).take (k+1)) O U'):=yb (fun U' h=>by rw[Ht cc] at h;exact h)
  have dm:Hid (((AW x0).take k).length+1<=1000000000):=yb (by
   have:=d5.o
   rw[zc];omega)
  have bn:Hid (U.cell? (aV B5 0)=some va):=yb (by simp[World.cell?,r1])
  have bm:Hid (∃u,U.heap[B5]?=some (.cells #[u] 81 (0,0))):=yb ⟨_,r1⟩
  have bd:=yb r2
  have bw:Hid (U.cell? (aV g 0)=some (pV ub uo)):=yb (by simp[World.cell?,ao])
  have d7:Hid (U.cell? (aV ub uo)=some (.string c)):=yb ((Ad a8).trans l.name)
  have db:Hid (U.cell? (aV ub (uo+1))=some (iV C)):=yb ((Ad a8).trans l.n)
  have F:Hid (B5 < W5.heap.size∧W5.heap.size<=U.heap.size∧g < U.heap.size∧ub < W5.heap.size):=yb ⟨q.o,J.grown.size,cz,by
   have h1:=l.inS
   rw[HP.o.at0] at h1
   have:=HP.o.lt ub h1
   have:=cn.o.1
   have:=b5.o
   have:=Y.o.2.2.2.2.1
   simp only at*
   omega⟩
  have P:=yb K
  clear l a8 cc r1 r2 r3 J hu df cz ao hl cg W K
  gi_wp2_with fail
  refine Vs (W0:=U) (Bx:=B5) (b6:=g) (ub:=ub) (uo:=uo) (base:=W5.heap.size) (va:=va) (ls:=(AW x0).take k) (r:=⟨c,C⟩) _ ?_ ?_ ?_ ?_ ?_ ?_ ?_ ?_ ?_ ?_ ?_ ?_ ?_ ?_ ?_ ?_ ?_
  ·rfl
  ·rfl
  ·rfl
  ·rfl
  ·have:=F.o;omega
  ·have:=F.o;omega
  ·have:=F.o;omega
  ·exact bm.o
  ·exact bn.o
  ·exact bw.o
  ·exact d7.o
  ·exact db.o
  ·exact bd.o
  ·exact dm.o
  ·exact F.o.2.1
  ·exact F.o.1
  ·intro a w1 v _ _ _ hp
   have h:=HJ.o.put q.o P.o bn.o hp
   exact ⟨h.2,dk.o _ h.1⟩
 ·intro _ D O U hD dn J dd
  obtain ⟨hQ,hw,h1,h2,S,h5,hb,E⟩:=Y.o
  obtain ⟨p,i⟩:=aa.o
  have a2:=b5.o
  have j:=di.o
  have dr:=d4.o
  have dq:=cn.o.1
  have t:Dp W5 B5 (AW (Al x)) O U:=by
   have h:=J
   rw[yX,dh.o,yT,d6.o] at h
   exact h
  obtain ⟨v2,q1,q2,q3⟩:=t.row
  have A:∀b,b < V.heap.size->b≠B5->U.heap[b]?=V.heap[b]?:=fun b B a6=>(t.same (by omega) a6).trans (j.block b B)
  have dp:=t.grown.size
  have d3:Below w.heap.size w U:=hb.trans ⟨t.grown.os.trans j.os,t.grown.tape.trans j.tape,t.grown.output.trans j.output,by omega,fun b B=>A b (by have:=hb.size;omega) (by have:=h1.lt _ (.inl rfl);omega)⟩
  have de:=h1.up (fun b B=>A b (by omega) (by omega))
  have d2:=h2.up (fun b B=>A b (by omega) (by omega))
  obtain ⟨⟨va,p1,p2⟩,y,N,m⟩:=ab.o
  have a6:D1≠B5:=fun e=>by rw[e,y] at m;cases m
  have co:=(yd.1 m).1
  have hL:EG U base B4 B5 (AW x) (AW (Al x)) U:=⟨rfl,rfl,rfl,yf _,by omega,fun _ _ _ _ h _=>h,fun _ _ _ _=>rfl,va,v2,(A B4 (by omega) (by omega)).trans p1,q1,yg _ _,by omega,p2.up (fun g hg B=>A g B (by have:=(p2.lt hg).1;omega)),q2.low (by omega),fun g e1 e2=>by have:=(p2.lt e1).2;have:=(q2.lt e2).1;omega,fun _ _ h _=>h⟩
  exact Vw (base:=base) hQ hw de d2 S h5 d3 hL ⟨by omega,N,by have:=hb.size;omega⟩ ((A D1 co a6).trans m) dd p i _ _ _ _ _ _ _ _ _ _ _ _ _ _ _ _ _ _ _ _ _ _ _ _ _ _ _ _ _ _ _ _ _ _ _ _ _ _ _ _ _ _ _ _ _ _ _ _ _ _ _ _ _ _ _ _ _ _ _
theorem Vy{Q:QT}{w V:World}{x:AB}{L1 L2:Bz}{d5 d6:LV}{N1 N2:NP}{base B3 B4 B5:Nat}(hQ:Qz Q w x)(hw:AI x=0)
 (h1:CU V w.heap.size B4 x L1 d5 N1)(h2:CU V B3 B4 (Al x) L2 d6 N2)(P:B4 < B5)(h5:B5 < base)(hb:Below w.heap.size w V)(A:base<=V.heap.size)
 (bm:∃u:Value,V.heap[B4]?=some (.cells #[u] 81 (0,0)))(p:V.heap[B4]?=some (.cells #[.slice none 0 0] 81 (0,0)))(J:V.heap[B5]?=some (.cells #[.slice none 0 0] 81 (0,0)))
 (l:(D8 x).length<=900000000)(j:(D8 (Al x)).length<=900000000)
 (u0 u6 u7 u8 u9 af ar b9 ax ci cr ae d7 dh bp bg cx ac bq az cn b8 bo bu cu aq ak ad c8 bd cd cl ai cq b5 bh aw an b7 be ao bb ah cc au ab bw ce ct aj ay cp av ag cv b4 bi bx bz:Value):
  FC 17 Tryz.prog (Gv 4 (Tryz.f17.body.getD .skip)) Q {tmps:=#[u0,.pointer (some ⟨w.heap.size,0,none⟩),.int .i64 0,.pointer (some ⟨B3,0,none⟩),.pointer (some ⟨B4,0,none⟩),.pointer (some ⟨B5,0,none⟩),u6,u7,u8,u9,af,ar,b9,ax,ci,cr,ae,d7,dh,bp,bg,cx,ac,bq,az,cn,b8,bo,bu,cu,aq,ak,ad,c8,bd,cd,cl,ai,cq,b5,bh,aw,an,b7,be,ao,bb,ah,cc,au,ab,bw,ce,ct,aj,ay,cp,av,ag,cv,b4,bi,bx,bz],defers:=[]} V:=by
 obtain ⟨x0,y⟩:∃x0:AB,x0=x:=⟨_,rfl⟩
 obtain ⟨L,cs,NN,W⟩:∃L cs NN,CU V w.heap.size B4 x0 L cs NN:=by rw[y];exact ⟨_,_,_,h1⟩
 have S:BF x0=true:=by rw[y];exact (Fh hw).1
 have cy:CF (Tb.of x) x0=true:=by rw[y];exact (Fh hw).2.2.2.2
 have co:(AW x0).length<=900000000:=by
  rw[y];have:=l;unfold D8 at this;rw[ym] at this;omega
 have bt:w.heap.size < B4:=W.lt _ (.inl rfl)
 obtain ⟨W5,F⟩:∃W5,W5=(V.alloc (.cells #[pV w.heap.size 0] 85)):=⟨_,rfl⟩
 have i:Below V.heap.size V W5:=by rw[F];exact (yg _ _).alloc (yf _) _
 have a0:W5.heap.size=V.heap.size+1:=by rw[F];simp
 have I:CU W5 w.heap.size B4 x0 L cs NN:=W.up (fun b hb=>i.block b (by omega))
 have ck:W5.cell? (aV V.heap.size 0)=some (pV L.s 0):=by
  rw[W.at0,F]
  have h:=World.alloc_heap_new V (.cells #[pV w.heap.size 0] 85)
  simp only[World.cell?,h]
  rfl
 have a2:W5.rangeAt L.s 0 cs:=by rw[W.at0];exact I.range
 have hU:=Oh I.src a2 ck S
 obtain ⟨hR,hM⟩:=Ml I.src a2
 have Y:(BU W5 L x0).2=true:=((G0 (Tb.of x) hU).2 cy).1
 have aa:=hM Y
 have bn:(BU W5 L x0).1.length=(AW x0).length:=by rw[<-aa,yX]
 have cj:∀k O U,Dp W5 B4 ((AW x0).take k) O U->∀b,(UA NN L.s b∨b=V.heap.size)->U.heap[b]?=W5.heap[b]?:=fun k O U h b hb=>by
  rcases hb with hb|rfl
  ·rw[W.at0] at hb
   have:=W.lt b hb
   exact h.same (by omega) (by omega)
  ·exact h.same (by omega) (by omega)
 have HU:=yb hU;have HR:=yb hR;have HM:=yb aa;have de:=yb bn;have cg:=yb cj;have dg:=yb Y;have b0:=yb a0;have df:=yb i
 have HP:=yb W;have d2:=yb co
 have cm:Hid (B4 < V.heap.size∧∃u:Value,W5.heap[B4]?=some (.cells #[u] 81 (0,0))):=yb ⟨by omega,by
  rw[i.block _ (by omega)];exact bm⟩
 have q:Hid (B4 < W5.heap.size):=yb (by omega)
 have da:Hid (Dp W5 B4 ((AW x0).take 0) (fun _=>False) W5):=yb (by
  rw[xd]
  exact Dp.start W5 (by rw[i.block _ (by omega)];exact p))
 have dj:=yb F;have d3:=yb y;have d1:=yb bt
 have X:=yb (And.intro hQ (And.intro hw (And.intro h1 (And.intro h2 (And.intro P (And.intro h5 (And.intro hb A)))))))
 have a8:=yb (And.intro p J)
 have a7:=yb (And.intro l j)
 clear F hQ hw h1 h2 P h5 hb A S cy co bt i a0 I ck a2 hU hR hM aa Y bn cj W y l j bm p J
 refine Aa (Aa (A4 ?_))
 go_wp2_with (first|(go_at_call 33;refine (Ky _ _).mono ?_;rintro e w2 ⟨rfl,rfl⟩))
 rw[<-dj.o]
 refine Dc ?_
 refine CH (n:=10) Tryz.func17 rfl (fun _ _=>rfl) (Kg 9 (by omega) HU.o) (fun a ha=>by
   obtain ⟨u,_,rfl⟩:=xR.1 ha
   rfl)
  (fun k O U=>Dp W5 B4 ((AW x0).take k) O U) (fun _ _ _=>False) (fun _ _ _=>False)
  (fun k a O U=>Dp W5 B4 ((AW x0).take k) O U∧∃(ub uo:Nat) (f d:Int) (c:ByteArray) (z:Int) (g:Nat),(BU W5 L x0).1[k]?=some ⟨ub,uo,f,d,c,z⟩∧¬ O g∧g < U.heap.size∧U.heap[g]?=some (.cells #[pV ub uo,iV f,iV d] 89 (0,0))∧a={tmps:=#[u0,pV w.heap.size 0,iV 0,pV B3 0,pV B4 0,pV B5 0,pV g 0,u7,u8,u9,af,ar,b9,ax,ci,cr,ae,.func (.func 70) #[] #[pV V.heap.size 0],.agg #[pV ub uo,iV f,iV d],bp,bg,cx,ac,bq,az,cn,b8,bo,bu,cu,aq,ak,ad,c8,bd,cd,cl,ai,cq,b5,bh,aw,an,b7,be,ao,bb,ah,cc,au,ab,bw,ce,ct,aj,ay,cp,av,ag,cv,b4,bi,bx,bz],defers:=[]})
  (Dp.stays (W0:=W5) q.o (fun k=>(AW x0).take k)) (fun _ _ _ _ _ _ h=>h.elim) (fun _ _ _ _ _ _ h=>h.elim) ?_ (fun k O U h=>Of (cg.o k O U h)) (fun _ _ _ h=>h.elim) ?_ da.o ?_ ?_ ?_ (fun _ _ _ _ _ _ h=>h.elim) (fun _ _ _ _ _ _ h=>h.elim)
 ·rintro a k O U O' U' ⟨h1,ub,uo,f,d,c,z,g,h2,h3,h4,h5,h6⟩ hz ho ht hu T hO
  exact ⟨Dp.stays (W0:=W5) q.o (fun k=>(AW x0).take k) k O U O' U' h1 hz ho ht hu T hO,ub,uo,f,d,c,z,g,h2,fun h=>(hO g h).elim h3 (fun h=>by omega),by omega,(T g h3 h4).trans h5,h6⟩
 ·intro ch he O U G
  rw[dg.o] at he
  cases he
 ·intro k T O U lo G hO hl H
  have ap:k < (BU W5 L x0).1.length:=by rw[yX] at T;exact T
  rw[zG]
  have N:=yb (yk ap)
  generalize (BU W5 L x0).1[k]=u at N ⊢
  obtain ⟨ub,uo,f,d,c,z⟩:=u
  have HJ:=yb G;have M:=yb H
  clear G hO hl H T ap
  unfold Us.v
  simp only
  gi_wp2
  have Z:AO O U (U.alloc (.cells #[pV ub uo,iV f,iV d] 89)):=⟨by simp,fun b hb=>yD _ _ _ (M.o b hb)⟩
  have C:Dp W5 B4 ((AW x0).take k) O (U.alloc (.cells #[pV ub uo,iV f,iV d] 89)):=HJ.o.below ((yg U.heap.size U).alloc (yf _) _)
  have E:¬ O U.heap.size:=fun h=>qC _ (M.o _ h)
  first
  |exact ⟨Z,C,ub,uo,f,d,c,z,U.heap.size,N.o,E,by simp,World.alloc_heap_new _ _,rfl⟩
  |(rename_i hK;exact hK _ _ ⟨Z,C,ub,uo,f,d,c,z,U.heap.size,N.o,E,by simp,World.alloc_heap_new _ _,rfl⟩)
  |(rename_i hK _;exact hK _ _ ⟨Z,C,ub,uo,f,d,c,z,U.heap.size,N.o,E,by simp,World.alloc_heap_new _ _,rfl⟩)
  |fail
 ·rintro k T O U lo a1 hl cf H ⟨G,ub,uo,f,d,c,z,g,hu,dd,cw,am,rfl⟩
  have m:=HR.o _ (zX hu)
  have a6:=cg.o k O U G ub (.inl m.inS)
  have c9:(AW x0)[k]?=some (⟨c,z⟩:Rf):=by
   rw[<-HM.o,qw,hu];rfl
  obtain ⟨va,r1,r2,r3⟩:=G.row
  have HJ:=yb G
  have di:Hid (∀U',Dp W5 B4 ((AW x0).take k++[⟨c,z⟩]) O U'->Dp W5 B4 ((AW x0).take (k+1)) O U'):=yb (fun U' h=>by rw[Ht c9] at h;exact h)
  have dk:Hid (((AW x0).take k).length+1<=1000000000):=yb (by
   have:=d2.o
   rw[zc];omega)
  have bk:Hid (U.cell? (aV B4 0)=some va):=yb (by simp[World.cell?,r1])
  have bj:Hid (∃u,U.heap[B4]?=some (.cells #[u] 81 (0,0))):=yb ⟨_,r1⟩
  have ba:=yb r2
  have bv:Hid (U.cell? (aV g 0)=some (pV ub uo)):=yb (by simp[World.cell?,am])
  have d4:Hid (U.cell? (aV ub uo)=some (.string c)):=yb ((Ad a6).trans m.name)
  have d9:Hid (U.cell? (aV ub (uo+1))=some (iV z)):=yb ((Ad a6).trans m.n)
  have B:Hid (B4 < W5.heap.size∧W5.heap.size<=U.heap.size∧g < U.heap.size∧ub < W5.heap.size):=yb ⟨q.o,G.grown.size,cw,by
   have h1:=m.inS
   rw[HP.o.at0] at h1
   have:=HP.o.lt ub h1
   have:=cm.o.1
   have:=b0.o
   have:=X.o.2.2.2.2.1
   simp only at*
   omega⟩
  have M:=yb H
  clear m a6 c9 r1 r2 r3 G hu dd cw am hl cf T H
  gi_wp2_with fail
  refine VO (W0:=U) (Bx:=B4) (b6:=g) (ub:=ub) (uo:=uo) (base:=W5.heap.size) (va:=va) (ls:=(AW x0).take k) (r:=⟨c,z⟩) _ ?_ ?_ ?_ ?_ ?_ ?_ ?_ ?_ ?_ ?_ ?_ ?_ ?_ ?_ ?_ ?_ ?_
  ·rfl
  ·rfl
  ·rfl
  ·rfl
  ·have:=B.o;omega
  ·have:=B.o;omega
  ·have:=B.o;omega
  ·exact bj.o
  ·exact bk.o
  ·exact bv.o
  ·exact d4.o
  ·exact d9.o
  ·exact ba.o
  ·exact dk.o
  ·exact B.o.2.1
  ·exact B.o.1
  ·intro a w1 v _ _ _ hp
   have h:=HJ.o.put q.o M.o bk.o hp
   exact ⟨h.2,di.o _ h.1⟩
 ·intro _ D O U hD dl G db
  obtain ⟨hQ,hw,h1,h2,P,h5,hb,A⟩:=X.o
  obtain ⟨l,j⟩:=a7.o
  have a0:=b0.o
  have i:=df.o
  have dp:=d1.o
  have dn:=cm.o.1
  have t:Dp W5 B4 (AW (x)) O U:=by
   have h:=G
   rw[yX,de.o,yT,d3.o] at h
   exact h
  obtain ⟨v2,q1,q2,q3⟩:=t.row
  have K:∀b,b < V.heap.size->b≠B4->U.heap[b]?=V.heap[b]?:=fun b R d8=>(t.same (by omega) d8).trans (i.block b R)
  have dm:=t.grown.size
  have d0:Below w.heap.size w U:=hb.trans ⟨t.grown.os.trans i.os,t.grown.tape.trans i.tape,t.grown.output.trans i.output,by omega,fun b R=>K b (by have:=hb.size;omega) (by have:=h1.lt _ (.inl rfl);omega)⟩
  have dc:=h1.up (fun b R=>K b (by omega) (by omega))
  have cz:=h2.up (fun b R=>K b (by omega) (by omega))
  obtain ⟨p,J⟩:=a8.o
  exact Vx (base:=base) (D1:=D) hQ hw dc cz P h5 d0 (by omega) ⟨v2,q1,q2.low (by omega)⟩ ((K B5 (by omega) (by omega)).trans J) (by have:=hb.size;omega) db l j _ _ _ _ _ _ _ _ _ _ _ _ _ _ _ _ _ _ _ _ _ _ _ _ _ _ _ _ _ _ _ _ _ _ _ _ _ _ _ _ _ _ _ _ _ _ _ _ _ _ _ _ _ _ _ _ _ _ _
end Go.Proofs.YtjofgpfocadomaaGreatDoor
namespace Go.Proofs.YtjofgpfocadomaaGreatDoor
open Go.RowKit
theorem Bn{α β:Type}{f:α->List β}{c:Nat}:∀ {l:List α},(∀a∈l,(f a).length<=c)->(l.flatMap f).length<=l.length*c
 |[],_=>by simp
 |a::l,h=>by
  rw[yW,ym,yx,Nat.succ_mul]
  have:=h a (by simp)
  have:=Bn (l:=l) (fun b hb=>h b (by simp[hb]))
  omega
theorem EH{α β:Type}{f:α × Nat->List β}{c:Nat}{l:List α}(h:∀a∈l,∀i,(f (a,i)).length<=c):(l.zipIdx.flatMap f).length<=l.length*c:=by
 have:=Bn (l:=l.zipIdx) (f:=f) (c:=c) (fun p b=>by
  obtain ⟨a,i⟩:=p
  obtain ⟨_,h2,h3⟩:=List.mem_zipIdx (x:=a) (i:=i) b
  exact h a (h3▸yM _) i)
 rwa [zC] at this
section
variable{t:Tb}
mutual
theorem Om(lt:Int):∀e:Ex,TD t lt e=true->(Mh e).length+1<=2 ^ (AE e+1)
 |.mk op n u rn ri args,h=>by
  rw[TD,yG,yG] at h
  obtain ⟨h1,_,h3⟩:=h
  have ih:=Mn lt args h3
  rw[Mh,AE,yx]
  unfold Nb at h1
  simp only[yG,z7] at h1
  obtain ⟨_,_,h2⟩:=h1
  rw[Nat.pow_succ]
  split at h2
  ·have h2:args.length=2:=yO h2
   rw[h2] at ih;omega
  ·have h2:args.length=0:=yO h2
   obtain rfl:=zl.1 h2
   simp[H3,B6]
theorem Mn(lt:Int):∀l:List Ex,Sw t lt l=true->(H3 l).length+l.length<=l.length*2 ^ B6 l
 |[],_=>by simp[H3]
 |e::r,h=>by
  rw[Sw,yG] at h
  have b:=Om lt e h.1
  have c:=Mn lt r h.2
  rw[H3,B6,ym,yx]
  have d:2 ^ (AE e+1)<=2 ^ max (1+AE e) (B6 r):=Nat.pow_le_pow_right (by omega) (by omega)
  have a:r.length*2 ^ B6 r<=r.length*2 ^ max (1+AE e) (B6 r):=Nat.mul_le_mul_left _ (Nat.pow_le_pow_right (by omega) (by omega))
  rw[Nat.succ_mul]
  omega
end
theorem U7{x:AB}(a:BF x=true):(AD x).length<=20000:=by
 obtain ⟨f,e,m,j,s,l,n,b,_⟩:=Fa a
 unfold AD K9 Ie F4 If Gg Gh
 have r:(x.lets.zipIdx.flatMap fun p=> [(p.1.value,1+(p.2:Int))]).length<=x.lets.length*1:=EH fun _ _ _=>by simp
 have k:(x.crops.zipIdx.flatMap fun p=> [(p.1.need,(0:Int))]).length<=x.crops.length*1:=EH fun _ _ _=>by simp
 have c:(x.reaches.zipIdx.flatMap fun p=> [(p.1.delay,(0:Int)),(p.1.cap,0),(p.1.bank,0),(p.1.siphon,0),(p.1.evap0,0),(p.1.evap1,0),(p.1.seep0,0),(p.1.seep1,0)]).length<=x.reaches.length*8:=EH fun _ _ _=>by simp
 have h:(x.farms.zipIdx.flatMap fun p=> [(p.1.area,(0:Int))]).length<=x.farms.length*1:=EH fun _ _ _=>by simp
 have o:(Jj x.rots).length<=x.rots.length*67:=by
  unfold Jj
  refine EH fun d hd i=>?_
  have h1:(Ef d.turns).length<=d.turns.length*1:=by unfold Ef;exact EH fun _ _ _=>by simp
  have:=b d hd
  simp only[ym,yx,yH]
  omega
 have g:(x.rights.zipIdx.flatMap fun p=> [(p.1.flow,(0:Int)),(p.1.frm,0),(p.1.to,0),(p.1.every,0),(p.1.len,0)]).length<=x.rights.length*5:=EH fun _ _ _=>by simp
 have q:(x.duties.zipIdx.flatMap fun p=> [(p.1.due,(0:Int))]).length<=x.duties.length*1:=EH fun _ _ _=>by simp
 simp only[ym,yx,yH]
 omega
theorem On{x:AB}(c:BF x=true)(a:CF t x=true):(D8 x).length<=900000000:=by
 obtain ⟨l,j,u,o,y,s,v,g,h⟩:=Fa c
 have q:=U7 c
 unfold CF at a
 simp only[yG] at a
 have h1:=a.1
 rw[yR] at h1
 have p:((AD x).flatMap Fx).length<=(AD x).length*511:=Bn fun e b=>by
  unfold Fx
  split
  ·simp
  ·rename_i f
   have h2:=h1 e b
   unfold Ku at h2
   rw[Bool.or_eq_true,or_iff_right f] at h2
   have h3:=Om e.2 e.1 h2
   have n:2 ^ (AE e.1+1)<=2 ^ 9:=Nat.pow_le_pow_right (by omega) (by have:=h e b;omega)
   omega
 have w:(x.farms.flatMap Fc).length<=x.farms.length*2:=Bn fun _ _=>by simp[Fc]
 have r:(x.rots.flatMap Gs).length<=x.rots.length*65:=Bn fun d hd=>by
  have h1:(d.turns.flatMap fun k:Cq=> [k.farm]).length<=d.turns.length*1:=Bn fun _ _=>by simp
  have:=g d hd
  unfold Gs
  rw[yx];omega
 have i:(x.rights.flatMap En).length<=x.rights.length*2:=Bn fun _ _=>by simp[En]
 have m:(x.duties.flatMap Fe).length<=x.duties.length*2:=Bn fun _ _=>by simp[Fe]
 unfold D8 AW
 simp only[ym,yX]
 omega
end
theorem U8{w w':World}{x:AB}{e:Ending}(h:IC w x e w'):∃cs:LV,e=.returned (.tuple #[.agg cs.toArray,.int .i64 (AI x)])∧cs.length=26∧(∀v∈cs,v.oneCell'=true)∧Below w.heap.size w w'∧(AI x=0->∃(L:Bz) (N:NP),BT N w' L cs (Al x)∧∀b,N b->w.heap.size<=b∧b < w'.heap.size):=by
 obtain ⟨hb,⟨h0,rfl⟩|⟨h0,cs,rfl,L,N,a,hs,hN⟩⟩:=h
 ·exact ⟨Dg,rfl,rfl,fun v c=>yR.1 (show Dg.all (fun v=>v.oneCell')=true from rfl) v c,hb,fun h=>absurd h h0⟩
 ·exact ⟨cs,by rw[h0],a,Mz hs,hb,fun _=>⟨L,N,hs,hN⟩⟩
def VH(w:World)(cs:LV):World:=w.alloc (.cells cs.toArray 35)
theorem UQ{w w1 w2:World}{x y:AB}{L m:Bz}{i rs:LV}{N g:NP}(j:Below w.heap.size w w1)(n:w1.heap.size=w.heap.size+1)(hs:BT N w1 L i x)(hr:w1.rangeAt w.heap.size 0 i)(hN:∀b,N b->b < w.heap.size)(a:Below w1.heap.size w1 w2)(l:BT g w2 m rs y)(f:∀b,g b->b < w2.heap.size):
  CU (((w2.alloc (.cells rs.toArray 35)).alloc (.cells #[.slice none 0 0] 81)).alloc (.cells #[.slice none 0 0] 81)) w.heap.size (w2.heap.size+1) x {L with s:=w.heap.size} i N∧
  CU (((w2.alloc (.cells rs.toArray 35)).alloc (.cells #[.slice none 0 0] 81)).alloc (.cells #[.slice none 0 0] 81)) w2.heap.size (w2.heap.size+1) y {m with s:=w2.heap.size} rs g∧
  Below w.heap.size w (((w2.alloc (.cells rs.toArray 35)).alloc (.cells #[.slice none 0 0] 81)).alloc (.cells #[.slice none 0 0] 81))∧
  (((w2.alloc (.cells rs.toArray 35)).alloc (.cells #[.slice none 0 0] 81)).alloc (.cells #[.slice none 0 0] 81)).heap[w2.heap.size+1]?=some (.cells #[.slice none 0 0] 81 (0,0))∧
  (((w2.alloc (.cells rs.toArray 35)).alloc (.cells #[.slice none 0 0] 81)).alloc (.cells #[.slice none 0 0] 81)).heap[w2.heap.size+2]?=some (.cells #[.slice none 0 0] 81 (0,0)):=by
 have p:=a.size
 have r:(w2.alloc (.cells rs.toArray 35)).heap.size=w2.heap.size+1:=by simp
 have q:((w2.alloc (.cells rs.toArray 35)).alloc (.cells jh 81)).heap.size=w2.heap.size+2:=by simp
 obtain ⟨W,e⟩:∃W,W=((w2.alloc (.cells rs.toArray 35)).alloc (.cells jh 81)).alloc (.cells jh 81):=⟨_,rfl⟩
 rw[<-e]
 have c:Below w2.heap.size w2 W:=by
  rw[e];exact (((yg _ _).alloc (yf _) _).alloc (by simp) _).alloc (by simp;omega) _
 have h3:W.heap[w2.heap.size]?=some (.cells rs.toArray 35 (0,0)):=by
  rw[e,yD _ _ _ (by omega),yD _ _ _ (by omega)]
  exact World.alloc_heap_new _ _
 have o:W.heap[w2.heap.size+1]?=some (.cells jh 81 (0,0)):=by
  rw[e,yD _ _ _ (by omega)]
  have:=World.alloc_heap_new (w2.alloc (.cells rs.toArray 35)) (.cells jh 81)
  rwa [r] at this
 have h5:W.heap[w2.heap.size+2]?=some (.cells jh 81 (0,0)):=by
  rw[e]
  have:=World.alloc_heap_new ((w2.alloc (.cells rs.toArray 35)).alloc (.cells jh 81)) (.cells jh 81)
  rwa [q] at this
 have d:∀b,b < w1.heap.size->W.heap[b]?=w1.heap[b]?:=fun b hb=>(c.block b (by omega)).trans (a.block b hb)
 have k:W.rangeAt w2.heap.size 0 rs:=by
  have:=zo h3 0 rs.length
  simpa using this
 refine ⟨⟨?_,rfl,A0 hr (d _ (by omega)),fun b hb=>?_⟩,⟨?_,rfl,k,fun b hb=>?_⟩,?_,o,h5⟩
 ·have h:=hs.same (N':=N) (w':=W) (fun _ h=>h) (fun b hb=>d b (by have:=hN b hb;omega))
  exact ⟨h.name,h.cells,h.lets,h.crops,h.reaches,h.farms,h.rots,h.rights,h.duties⟩
 ·rcases hb with rfl|hb
  ·omega
  ·have:=hN b hb;omega
 ·have h:=l.same (N':=g) (w':=W) (fun _ h=>h) (fun b hb=>c.block b (f b hb))
  exact ⟨h.name,h.cells,h.lets,h.crops,h.reaches,h.farms,h.rots,h.rights,h.duties⟩
 ·rcases hb with rfl|hb
  ·omega
  ·have:=f b hb;omega
 ·exact (j.trans (a.mono (by omega))).trans (c.mono (by omega))
theorem Rr{w:World}{x:AB}{L:Bz}{cs:LV}{N:NP}(h:BT N w L cs x)(hN:∀b,N b->b < w.heap.size)(F:My x)(S:GV w)(hd:∀e∈AD x,AE e.1<=1000000):
  Calls Tryz.prog 17 #[.agg cs.toArray] w fun e w'=>e=.returned (.int .i64 (BE x))∧Below w.heap.size w w':=by
 obtain ⟨w1,d⟩:∃w1,w1=VH w cs:=⟨_,rfl⟩
 have f:Below w.heap.size w w1:=by rw[d];exact (yg _ _).alloc (yf _) _
 have I:w1.heap.size=w.heap.size+1:=by rw[d];simp[VH]
 have M:w1.rangeAt w.heap.size 0 cs:=by
  rw[d];unfold VH
  have:=zo (World.alloc_heap_new w (.cells cs.toArray 35)) 0 cs.length
  simpa using this
 have l:BT N w1 L cs x:=h.same (fun _ h=>h) (fun b hb=>f.block b (hN b hb))
 have E:=yb f;have q:=yb I;have m:=yb M;have G:=yb l;have HN:=yb hN
 have i:=yb (O0 l (fun b hb=>by have:=hN b hb;omega) F (S.below f S.1) hd)
 have D:Hid ((Tryz.prog.info? 35).map (·.size)=some cs.length):=yb (by
  obtain ⟨c0,c1,c2,rfl,P,g1,O⟩:=h.cells
  obtain ⟨a0,p0,rfl,X⟩:=P.cells
  obtain ⟨a1,p1,rfl,t⟩:=g1.cells
  obtain ⟨a2,p2,rfl,V⟩:=O.cells
  kernel_rfl)
 have B:=yb d
 clear d f I M l hN F S hd
 obtain ⟨U,r⟩:∃U,U=cs:=⟨_,rfl⟩
 rw[<-r] at m G i D
 have Z:=yb r
 obtain ⟨c0,c1,c2,rfl,P,g1,O⟩:=h.cells
 obtain ⟨a0,p0,rfl,X⟩:=P.cells
 obtain ⟨a1,p1,rfl,t⟩:=g1.cells
 obtain ⟨a2,p2,rfl,V⟩:=O.cells
 clear h P g1 O X t V r
 unfold Au.v at*
 simp only[yP,yS] at B Z ⊢
 refine Bl (n:=10) Tryz.func17 rfl ?_
 have T:=T8 w x
 generalize bodyPostM Fence.wide 10 Tryz.prog Tryz.f17 _=Q at T ⊢
 have Y:=yb T
 clear T
 simp only[Tryz.ntmps17,yq,yx,yH,Nat.reduceAdd,Nat.reduceSub,zy,zA,zQ,zJ,yS,yP]
 refine Aa (A4 ?_)
 go_wp2
 have t:=B.o
 unfold VH at t
 rw[<-t,<-Z.o]
 clear t
 refine Aa (A4 ?_)
 go_upto_region 1 with fail
 refine wp_region_lit ?_
 refine yj rfl 35 _ rfl w.heap.size 0 rfl U _ m.o qV rfl D.o ?_
 refine zx rfl fun K a=>?_
 go_simp
 refine i.o.mono ?_
 intro e w2 j
 obtain ⟨rs,rfl,H,g,u,C⟩:=U8 j
 clear j
 refine a _ _ ?_
 clear a K
 have k:=yb H;have A:=yb (yB g);have s:=yb u;have R:=yb C
 clear H g u C
 iterate 4
  refine zx rfl fun K a=>?_
  go_simp
  refine a _ _ ?_
  clear a K
 refine zb rfl 35 _ _ rfl w2.heap.size rs.toArray rfl rfl 35 _ (World.alloc_heap_new _ _) (by rw[yq,k.o];kernel_rfl) (by simp[k.o]) A.o ?_
 rw[World.setRow_alloc_new]
 refine zx rfl fun K a=>?_
 go_simp
 refine a _ _ ?_
 clear a K
 refine wpList_nil ?_
 by_cases p:AI x=0
 ·have J:=yb (R.o p)
  have z:=yb p
  simp only[p]
  clear p
  iterate 2
   refine Aa (A4 ?_)
   go_wp2
  obtain ⟨L2,N2,s2,n2⟩:=J.o
  obtain ⟨k1,k2,k3,W,k5⟩:=UQ E.o q.o G.o m.o HN.o s.o s2 (fun b hb=>(n2 b hb).2)
  obtain ⟨z1,_,_,_,z5⟩:=Fh z.o
  exact Vy (base:=w2.heap.size+3) Y.o z.o k1 k2 (by omega) (by omega) k3 (by simp) ⟨_,W⟩ W k5 (On z1 z5) (On (Qy z1) (Mm z5)) _ _ _ _ _ _ _ _ _ _ _ _ _ _ _ _ _ _ _ _ _ _ _ _ _ _ _ _ _ _ _ _ _ _ _ _ _ _ _ _ _ _ _ _ _ _ _ _ _ _ _ _ _ _ _ _ _ _ _
 ·have y:Hid (BE x=AI x):=yb (by unfold BE;rw[yt p])
  generalize AI x=c at p y ⊢
  have a6:(c !=0)=true:=by simpa using p
  refine Aa (A4 ?_)
  go_wp2
  exact Y.o.early c _ _ rfl ((E.o.trans (s.o.mono (by have:=q.o;omega))).alloc (by have:=s.o.size;have:=q.o;omega) _) y.o
section
variable{f:Int->Ex->Ex}{g:Int->Rf->Rf}
end
section
variable{t:Tb}
structure VU (t:Tb) (x:AB):Prop where
 exprs:∀e∈AD x,Fx e=Fx (Rm (fT t) e)
 farms:x.farms.flatMap Fc=x.farms.flatMap fun d=>Fc (D4.mp (fT t) (gT t) 0 d)
 rots:x.rots.flatMap Gs=x.rots.flatMap fun d=>Gs (BG.mp (fT t) (gT t) 0 d)
 rights:∀d∈x.rights,En d=En (Ba.mp (fT t) (gT t) 0 d)
 duties:∀d∈x.duties,Fe d=Fe (De.mp (fT t) (gT t) 0 d)
 reaches:x.reaches.map (·.frm)=(x.reaches.mapIdx (AF.mp (fT t) (gT t))).map (·.frm)
end
section
variable{t:Tb}{i:Nat}
end
def Aw(x:AB):List (ByteArray × Ex):=x.lets.map fun d=>(d.name,d.value)
def Fy(s:AB)(x:Ex):Qn × Int:=if BE s=0 then (if (EE (Aq [] (Aw s)) 8 x).2=true then ((EE (Aq [] (Aw s)) 8 x).1,0) else (Fm,180)) else (Fm,BE s)
def Fi(s:AB)(x:Ex):Dm × Int:=if (Fy s x).2=0 then ((Fy s x).1.dim,0) else (O4,(Fy s x).2)
def U9(m:Qn × Int):Int:=if m.2=0 then m.1.e else m.2
def Bv(s:AB)(x:Ex):Rt × Int:=if U9 (Fy s x)=0 then ((Fy s x).1.v,0) else (IP,U9 (Fy s x))
theorem KT(s:AB)(k:Nat)(x:Ex):Fi s (Dq k x)=Fi s x∧(Bv s (Dq k x)).1=(Bv s x).1∧((Bv s (Dq k x)).2=0↔(Bv s x).2=0):=by
 obtain ⟨h1,h2,h3,c⟩:=Ij (Aq [] (Aw s)) k 8 x
 unfold Fi Bv U9 Fy
 by_cases d:BE s=0
 ·simp only[yw d]
  rw[h1]
  by_cases f:(EE (Aq [] (Aw s)) 8 x).2=true
  ·simp only[yw f,zD]
   refine ⟨by rw[h2],?_⟩
   by_cases b:(EE (Aq [] (Aw s)) 8 x).1.e=0
   ·rw[yw b,yw (c.2 b)]
    exact ⟨h3,Iff.rfl⟩
   ·have a:¬ (EE (Aq [] (Aw s)) 8 (Dq k x)).1.e=0:=fun h=>b (c.1 h)
    rw[yt b,yt a]
    exact ⟨rfl,⟨fun h=>absurd h a,fun h=>absurd h b⟩⟩
  ·simp only[yt f]
   exact ⟨trivial,trivial,trivial⟩
 ·simp only[yt d]
  exact ⟨trivial,trivial,trivial⟩
mutual
def Fj:Nat->Ex->Nat
 |0,_=>0
 |k+1,.mk _ _ _ _ _ args=>ES k args
def ES:Nat->List Ex->Nat
 |_,[]=>0
 |k,e::r=>max (1+Fj k e) (ES k r)
end
mutual
theorem Mo:∀(k:Nat) (e:Ex),Fj k e=min (AE e) k
 |0,e=>by rw[Fj];omega
 |k+1,.mk op n u rn ri args=>by rw[Fj,AE,J7 k args]
theorem J7:∀(k:Nat) (l:List Ex),ES k l=min (B6 l) (k+1)
 |k,[]=>by rw[ES,B6];omega
 |k,e::r=>by rw[ES,B6,Mo k e,J7 k r];omega
end
structure Nh where
 x:Ex
 there:Bool
 dim:Dm
def CV:Dm:=⟨0,1,0⟩
def AZ:Dm:=⟨1,0,0⟩
def Gy:Dm:=⟨0,0,1⟩
def IG:Dm:=⟨1, -1,0⟩
def Gz:Dm:=⟨1,0, -1⟩
def FM(d:Dm)(there:Bool)(l:List Ex):List Nh:=l.map fun x=>⟨x,there,d⟩
def Tc(d:DK):List Nh:=FM Gz true [d.need]
def MY(d:AF):List Nh:=FM CV true [d.delay]++(FM IG true [d.cap]++(FM AZ true [d.bank,d.evap0,d.evap1]++(FM AZ (!BN d.siphon) [d.siphon]++FM O4 true [d.seep0,d.seep1])))
def PH(d:D4):List Nh:=FM Gy (!d.river) [d.area]
def Vz(d:BG):List Nh:=FM IG true [d.flow]++(FM CV true [d.frm,d.to]++d.turns.flatMap fun k=>FM CV true [k.len])
def Ub(d:Ba):List Nh:=FM IG (decide (d.kind=1)) [d.flow]++(FM CV (!decide (d.kind=2)) [d.frm,d.to]++FM CV (decide (d.kind=1)&&(!BN d.every||!BN d.len)) [d.every,d.len])
def UT(d:De):List Nh:=FM CV true [d.due]
def Cp(x:AB):List Nh:=FM CV true [x.season]++(FM AZ true [x.cap,x.start]++(x.crops.flatMap Tc++(x.reaches.flatMap MY++(x.farms.flatMap PH++(x.rots.flatMap Vz++(x.rights.flatMap Ub++x.duties.flatMap UT))))))
def J8(a:List Kn)(p:Nh):Bool:=if p.there=true then (EE a 8 p.x).2&&decide ((EE a 8 p.x).1.dim=p.dim) else BN p.x
def Eo(x:AB):Int:=if BE x=0 then (if (Aq [] (Aw x)).all (fun k=>k.ok)=true then (if (Cp x).all (J8 (Aq [] (Aw x)))=true then 0 else 180) else 180) else BE x
def Gd:ByteArray:={data:=#[]}
def Bt(n u:Int):Ex:=.mk 1 n u Gd 0 []
def Ln(o:Int)(a b:Ex):Ex:=.mk o 0 0 Gd 0 [a,b]
def L7:Ex:=.mk 0 0 0 Gd 0 []
def sW:ByteArray:={data:=#[119]}
def sK:ByteArray:={data:=#[107]}
def sC:ByteArray:={data:=#[99]}
def sR:ByteArray:={data:=#[114]}
def sF:ByteArray:={data:=#[102]}
def BS:Ex:=Ln 6 (Bt 40 1) (Bt 1 3)
def Ue(cap:Ex):AF:=⟨sR,⟨Gd,0⟩,Bt 1 3,cap,Bt 90 1,L7,Bt 0 1,Bt 2 1,Bt 0 0,Ln 6 (Bt 1 0) (Bt 8 0)⟩
def DU(cap:Ex):AB:=⟨sW,Bt 1 4,Bt 5 2,.mk 2 0 0 sK 0 [],[⟨sK,Bt 3 2⟩],[⟨sC,Ln 6 (Bt 7 1) (Bt 1 5)⟩],[Ue cap],[⟨sF,⟨sR,0⟩,false,Bt 20 5,⟨sC,0⟩⟩],[],[],[]⟩
def Ti:Ex:=Ln 6 (Bt 3 2) (Bt 2 3)
theorem Rx:Eo (DU BS)=0:=by kernel_rfl
theorem PQ:Eo (DU (Bt 40 1))=180:=by kernel_rfl
theorem Tj:Fi (DU BS) Ti=(⟨1, -1,0⟩,0):=by kernel_rfl
theorem Ry:Bv (DU BS) Ti=(⟨1500,1⟩,0):=by kernel_rfl
theorem Uf:(Fi (DU BS) (Ln 3 (Bt 3 1) (Bt 4 3))).2=180:=by kernel_rfl
theorem Tk:Bv (DU BS) (Ln 4 (Bt 1 4) (Bt 30 3))=(⟨-6,1⟩,0):=by kernel_rfl
theorem Ug:(Bv (DU BS) (Ln 6 (Bt 1 0) (Bt 0 0))).2=120:=by kernel_rfl
theorem Rz:(Bv (DU BS) (Bt 1073741825 0)).2=2:=by kernel_rfl
theorem Tl:(Bv (DU BS) L7).2=180:=by kernel_rfl
theorem RC:Bv (DU BS) (DU BS).start=(⟨3000,1⟩,0):=by kernel_rfl
structure Wm (a b c:Int):Prop where
 a1:1<=a
 a3:a<=3
 b1:1<=b
 b3:b<=3
 c1:1<=c
 c3:c<=3
section
variable{a b c:Int}
end
end Go.Proofs.YtjofgpfocadomaaGreatDoor

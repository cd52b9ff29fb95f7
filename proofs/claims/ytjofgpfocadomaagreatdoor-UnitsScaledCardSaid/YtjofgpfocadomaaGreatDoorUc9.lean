/- Parts of the proof, in short words: Gj Gl Sa Sb Sc Sd Se Sf Sg Sh Si Vd Ed Ee Ei Ej Eg Eh -/
import Derived.Test.YtjofgpfocadomaaGreatDoorUc0
import Derived.Test.YtjofgpfocadomaaGreatDoorUc8
import Derived.Deep.Cut
import Derived.Test.YtjofgpfocadomaaGreatDoorUc7
import Derived.BigFrameIn
set_option maxRecDepth 100000
set_option maxHeartbeats 16000000
set_option linter.unusedSimpArgs false
namespace Go.Proofs.YtjofgpfocadomaaGreatDoor
open Go.RowKit
set_option linter.unusedSimpArgs false
def Qn.row(q:Qn):LV:=[.int .i64 q.dim.l,.int .i64 q.dim.h,.int .i64 q.dim.a,.int .i64 q.v.n,.int .i64 q.v.d,.int .i64 q.e]
def Qn.val(q:Qn):Value:=.agg #[.int .i64 q.dim.l,.int .i64 q.dim.h,.int .i64 q.dim.a,.int .i64 q.v.n,.int .i64 q.v.d,.int .i64 q.e]
def XH(cs:LV)(k:Kn):Prop:=cs=[.string k.name,.int .i64 k.q.dim.l,.int .i64 k.q.dim.h,.int .i64 k.q.dim.a,.int .i64 k.q.v.n,.int .i64 k.q.v.d,.int .i64 k.q.e,.bool k.ok]
def PT(w:World)(h:Aw)(a:List Kn):Prop:=BF (fun b=>b < w.heap.size) w 8 XH h a
def OW(q:Qn × Bool)(w:World)(e:Ending)(w':World):Prop:=e=.returned (.tuple #[q.1.val,.bool q.2])∧Below w.heap.size w w'
theorem Lr(rn:ByteArray)(ri:Int)(w:World):(Op.equalIn 10000 23 (.agg #[.string rn,.int .i64 ri]) (.agg #[.string {data:=#[]},.int .i64 0])).run Tryz.prog w=.ok (CH rn ri) w:=by
 have e:CH rn ri=(decide (rn.toList=[])&&decide (ri=0)):=by
  unfold CH
  rw[xZ]
  simp only[yT,yE,DD]
 rw[e]
 by_cases h1:rn.toList=[]
 ·by_cases h2:ri=0
  ·subst h2
   go_simp
  ·have a:(ri==0)=false:=by simpa using h2
   go_simp
 ·go_simp
theorem Cg{W:World}{b:Nat}{x0 f d a e c:Value}{t:TypeId}(h:W.heap[b]?=some (.cells #[x0,f,d,a,e,c] t (0,0))):W.cell? ⟨b,0,none⟩=some x0∧W.cell? ⟨b,1,none⟩=some f∧W.cell? ⟨b,2,none⟩=some d∧W.cell? ⟨b,3,none⟩=some a∧W.cell? ⟨b,4,none⟩=some e∧W.cell? ⟨b,5,none⟩=some c:=by
 refine ⟨?_,?_,?_,?_,?_,?_⟩<;>simp[World.cell?,h]
theorem E4{W:World}{b n:Nat}{cs:Array Value}{t:TypeId}(h:W.heap[b]?=some (.cells cs t (0,0))):W.frozen? ⟨b,n,none⟩=false:=by
 simp[World.frozen?,h]
theorem Cv{W:World}{b:Nat}{x0 m k i l j:Value}{t:TypeId}(h:W.heap[b]?=some (.cells #[x0,m,k,i,l,j] t (0,0)))(c f g d a e:Value):
  D3 W ((((((W.setCell ⟨b,0,none⟩ c).setCell ⟨b,1,none⟩ f).setCell ⟨b,2,none⟩ g).setCell ⟨b,3,none⟩ d).setCell ⟨b,4,none⟩ a).setCell ⟨b,5,none⟩ e) b [c,f,g,d,a,e] t:=
 AA b t [c,f,g,d,a,e] 0 W [] [x0,m,k,i,l,j] [] h rfl rfl
structure O6 (w:World) (cs:List Value) (q:Qn) (W:World):Prop where
 below:Below w.heap.size w W
 x:W.heap[w.heap.size]?=some (.cells cs.toArray 26 (0,0))
 q:W.heap[w.heap.size+1]?=some (.cells q.row.toArray 70 (0,0))
theorem O6.lt{w:World}{cs:LV}{q:Qn}{W:World}(h:O6 w cs q W):w.heap.size+1 < W.heap.size:=(yd.1 h.q).1
theorem O6.up{w:World}{cs:LV}{q:Qn}{W W':World}(h:O6 w cs q W)(a:Below W.heap.size W W'):O6 w cs q W':=by
 have b:=h.lt
 exact ⟨h.below.trans (a.mono (by omega)),(a.block _ (by omega)).trans h.x,(a.block _ (by omega)).trans h.q⟩
theorem O6.set{w:World}{cs:LV}{q q':Qn}{W W':World}(h:O6 w cs q W)(a:D3 W W' (w.heap.size+1) q'.row 70):O6 w cs q' W':=
 ⟨a.below h.below (by omega),(a.block _ (by omega)).trans h.x,a.row⟩
theorem O6.drew{w:World}{cs:LV}{q:Qn}{W:World}(h:O6 w cs q W):O6 w cs q W.drew:=⟨h.below.drew,h.x,h.q⟩
theorem O6.new(w:World)(cs:LV):O6 w cs Fx ((w.alloc (.cells cs.toArray 26)).alloc (.cells #[.int .i64 0,.int .i64 0,.int .i64 0,.int .i64 0,.int .i64 0,.int .i64 0] 70)):=by
 have h:=World.alloc_heap_new (w.alloc (.cells cs.toArray 26)) (.cells jg 70)
 simp only[z6] at h
 exact ⟨((yg _ _).alloc (yf _) _).alloc (by simp) _,(yA _ _ _ (by simp)).trans (World.alloc_heap_new w _),h⟩
def J4(n u:Int)(rn:ByteArray)(ri:Int)(m:Nat):Prop:=¬ (m=0∧CH rn ri=true∧0<=n∧n<=J3∧0<=u∧u<=5)
instance (n u:Int) (rn:ByteArray) (ri:Int) (m:Nat):Decidable (J4 n u rn ri m):=by unfold J4;infer_instance
theorem Wy(known:Value)(left:Int)(n u:Int)(rn:ByteArray)(ri:Int)(a:Option Addr)(m cap:Nat)(w:World)(hg:GU w):
  Calls Tryz.prog 38 #[known,.agg #[.int .i64 1,.int .i64 n,.int .i64 u,.string rn,.int .i64 ri,.slice a m cap],.int .i64 left] w (OW (if J4 n u rn ri m then (Fx,false) else (GP n u,true)) w):=by
 have HG:=yb hg
 clear hg
 have HW:=yb (O6.new w [.int .i64 1,.int .i64 n,.int .i64 u,.string rn,.int .i64 ri,.slice a m cap])
 have hq:=Lr rn ri
 have hgt:Tryz.prog.eqGuardType Tryz.prog.depth 23=false:=by kernel_rfl
 obtain ⟨res,hres⟩:∃res,res=if J4 n u rn ri m then (Fx,false) else (GP n u,true):=⟨_,rfl⟩
 rw[<-hres]
 have HRes:=yb hres
 clear hres
 go_enter Tryz.func38,Tryz.ntmps38
 refine Ab fun K hK=>?_
 go_wp2
 refine hK.o _ _ ?_
 clear hK
 generalize (w.alloc (.cells #[.int .i64 1,.int .i64 n,.int .i64 u,.string rn,.int .i64 ri,.slice a m cap] 26)).alloc (.cells #[.int .i64 0,.int .i64 0,.int .i64 0,.int .i64 0,.int .i64 0,.int .i64 0] 70)=W at HW ⊢
 obtain ⟨x0,x1,x2,x3,x4,x5⟩:=Cg HW.o.x
 go_upto_region 2 with fail
 iterate 6
  obtain ⟨bb,hbb⟩:∃bb:Bool,bb=decide (J4 n u rn ri m):=⟨_,rfl⟩
  have HBb:=yb hbb
  clear hbb
 go_cut [48] from 19 (fun c wx=>Hid (c=.bool bb∧wx=W))
 case first=>
  by_cases h1:m=0
  rotate_left
  ·have e1:decide (0 < (m:Int))=true:=by simp;omega
   have f1:0 < m:=by omega
   have g1:¬ m=0:=h1
   have hb:Hid (J4 n u rn ri m):=yb (fun h=>h1 (by first|exact h.1|exact h.2.1|exact h.2.2.1|exact h.2.2.2.1|exact h.2.2.2.2.1|exact h.2.2.2.2.2))
   clear h1
   go_wp2
   go_meet
   case rel=>exact yb ⟨yD Value.bool (HBb.o.trans (xq hb.o)).symm,rfl⟩
  have e1:decide (0 < (m:Int))=false:=by simp;omega
  subst h1
  by_cases h2:CH rn ri=true
  rotate_left
  ·have e2:CH rn ri=false:=by simpa using h2
   have hb:Hid (J4 n u rn ri 0):=yb (fun h=>h2 (by first|exact h.1|exact h.2.1|exact h.2.2.1|exact h.2.2.2.1|exact h.2.2.2.2.1|exact h.2.2.2.2.2))
   clear h2
   go_wp2
   go_meet
   case rel=>exact yb ⟨yD Value.bool (HBb.o.trans (xq hb.o)).symm,rfl⟩
  have e2:CH rn ri=true:=h2
  by_cases h3:0<=n
  rotate_left
  ·have e3:decide (n < 0)=true:=by simp;omega
   have hb:Hid (J4 n u rn ri 0):=yb (fun h=>h3 (by first|exact h.1|exact h.2.1|exact h.2.2.1|exact h.2.2.2.1|exact h.2.2.2.2.1|exact h.2.2.2.2.2))
   clear h2 h3
   go_wp2
   go_meet
   case rel=>exact yb ⟨yD Value.bool (HBb.o.trans (xq hb.o)).symm,rfl⟩
  have e3:decide (n < 0)=false:=by simp;omega
  by_cases h4:n<=J3
  rotate_left
  ·have e4:decide (1099511627776 < n)=true:=by simp[J3] at h4 ⊢;omega
   have hb:Hid (J4 n u rn ri 0):=yb (fun h=>h4 (by first|exact h.1|exact h.2.1|exact h.2.2.1|exact h.2.2.2.1|exact h.2.2.2.2.1|exact h.2.2.2.2.2))
   clear h2 h3 h4
   go_wp2
   go_meet
   case rel=>exact yb ⟨yD Value.bool (HBb.o.trans (xq hb.o)).symm,rfl⟩
  have e4:decide (1099511627776 < n)=false:=by simp[J3] at h4 ⊢;omega
  by_cases h5:0<=u
  rotate_left
  ·have e5:decide (u < 0)=true:=by simp;omega
   have hb:Hid (J4 n u rn ri 0):=yb (fun h=>h5 (by first|exact h.1|exact h.2.1|exact h.2.2.1|exact h.2.2.2.1|exact h.2.2.2.2.1|exact h.2.2.2.2.2))
   clear h2 h3 h4 h5
   go_wp2
   go_meet
   case rel=>exact yb ⟨yD Value.bool (HBb.o.trans (xq hb.o)).symm,rfl⟩
  have e5:decide (u < 0)=false:=by simp;omega
  by_cases h6:u<=5
  rotate_left
  ·have e6:decide (5 < u)=true:=by simp;omega
   have hb:Hid (J4 n u rn ri 0):=yb (fun h=>h6 (by first|exact h.1|exact h.2.1|exact h.2.2.1|exact h.2.2.2.1|exact h.2.2.2.2.1|exact h.2.2.2.2.2))
   clear h2 h3 h4 h5 h6
   go_wp2
   go_meet
   case rel=>exact yb ⟨yD Value.bool (HBb.o.trans (xq hb.o)).symm,rfl⟩
  have e6:decide (5 < u)=false:=by simp;omega
  have hb:Hid (¬ J4 n u rn ri 0):=yb (fun h=>h ⟨rfl,h2,h3,h4,h5,h6⟩)
  clear h2 h3 h4 h5 h6
  go_wp2
  go_meet
  case rel=>exact yb ⟨yD Value.bool (HBb.o.trans (xw hb.o)).symm,rfl⟩
 case rest=>
  obtain ⟨rfl,rfl⟩:=hcut.o
  clear hcut
  have hqr:wc.heap[w.heap.size+1]?=some (.cells #[.int .i64 0,.int .i64 0,.int .i64 0,.int .i64 0,.int .i64 0,.int .i64 0] 70 (0,0)):=HW.o.q
  have HQR:=yb hqr
  cases bb with
  |true=>
   have hr:Hid (res=(Fx,false)):=yb (by rw[HRes.o,yw (yR HBb.o.symm)])
   clear HRes HBb
   obtain ⟨q0,q1,q2,q3,q4,q5⟩:=Cg hqr
   have qf:=fun k=>E4 (n:=k) hqr
   clear hqr
   go_wp2
   have hwr:=Cv HQR.o (.int .i64 0) (.int .i64 0) (.int .i64 0) (.int .i64 0) (.int .i64 0) (.int .i64 0)
   exact A3 (c:=Fx.row) rfl rfl hwr.row ja rfl (by kernel_rfl) ⟨by rw[hr.o];rfl,hwr.below HW.o.below (by omega)⟩
  |false=>
   have hr:Hid (res=(GP n u,true)):=yb (by rw[HRes.o,yq (of_decide_eq_false HBb.o.symm)])
   have hnb:Hid (0<=n∧n<=J3):=yb (by
    have h:=of_decide_eq_false HBb.o.symm
    unfold J4 at h
    exact ⟨(Decidable.not_not.1 h).2.2.1,(Decidable.not_not.1 h).2.2.2.1⟩)
   clear HRes HBb hqr
   have HG1:=yb (HG.o.up HW.o.below)
   have HU:Hid (∀W,GU W->Calls Tryz.prog 76 #[.int .i64 u] W fun e w'=>e=.returned (.tuple #[(Eh u).v,.int .i64 (Cz u)])∧Below W.heap.size W w'):=yb (fun W hW=>U7 u W hW)
   have hNq:GP n u=if BR / Cz u < n then ⟨Eh u,It,2⟩ else ⟨Eh u,⟨Cz u*n,1⟩,0⟩:=rfl
   rw[hNq] at hr
   clear hNq
   have hk3:Cz u=1∨Cz u=1000∨Cz u=24:=by
    unfold Cz
    split
    ·exact .inr (.inl rfl)
    ·split
     ·exact .inr (.inr rfl)
     ·exact .inl rfl
   generalize Cz u=k at*
   generalize Eh u=d at*
   obtain ⟨dl,dh,da⟩:=d
   unfold Dm.v at HU
   dsimp only at HU
   obtain ⟨t,ht⟩:∃t:Int,t=(1073741824:Int).tdiv k:=⟨_,rfl⟩
   have ht1:t=BR / k:=by rw[ht];unfold BR;rw[Int.tdiv_eq_ediv_of_nonneg (by omega)]
   have ht2:(1073741824:Int).tdiv k=t:=ht.symm
   have ht3:wrap64 t=t:=AH (by unfold BR at ht1;rcases hk3 with rfl|rfl|rfl<;>omega)
   have ht5:(1073741824:Int) / k=t:=ht1.symm
   have hk0:¬ k=0:=by omega
   have hkp:wrap64 (k*n)=k*n:=AH (by have:=hnb.o;unfold J3 at this;rcases hk3 with rfl|rfl|rfl<;>omega)
   rw[<-ht1] at hr
   clear ht ht1 hk3 x0 x1 x2 x3 x4 x5
   obtain ⟨x0,x1,x2,x3,x4,x5⟩:=Cg HW.o.x
   have HX2:Hid (∀w2,Below wc.heap.size wc w2->O6 w [.int .i64 1,.int .i64 n,.int .i64 u,.string rn,.int .i64 ri,.slice a m cap] Fx (w2.alloc (.cells #[.int .i64 dl,.int .i64 dh,.int .i64 da] 68))):=yb (fun w2 h=>(HW.o.up h).up ((yg _ _).alloc (yf _) _))
   go_upto_region 5 with (first|(go_at_call 76;refine (HU.o _ HG1.o).mono ?_;rintro e w2 ⟨rfl,hw2⟩;have HW2:=yb (HX2.o w2 hw2);clear hw2))
   have hdr:(w2.alloc (.cells #[.int .i64 dl,.int .i64 dh,.int .i64 da] 68)).heap[w2.heap.size]?=some (.cells #[.int .i64 dl,.int .i64 dh,.int .i64 da] 68 (0,0)):=World.alloc_heap_new _ _
   generalize w2.alloc (.cells #[.int .i64 dl,.int .i64 dh,.int .i64 da] 68)=W3 at HW2 hdr ⊢
   obtain ⟨d0,d1,d2,df0,df1,df2⟩:=GQ hdr
   have hqr:W3.heap[w.heap.size+1]?=some (.cells #[.int .i64 0,.int .i64 0,.int .i64 0,.int .i64 0,.int .i64 0,.int .i64 0] 70 (0,0)):=HW2.o.q
   obtain ⟨q0,q1,q2,q3,q4,q5⟩:=Cg hqr
   have qf:=fun k=>E4 (n:=k) hqr
   clear hdr hqr
   go_upto_region 6 with fail
   have HW4:=yb (HW2.o.set (q':=⟨⟨dl,dh,da⟩,It,0⟩) (AA (w.heap.size+1) _ [.int .i64 dl,.int .i64 dh,.int .i64 da] 0 W3 [] [.int .i64 0,.int .i64 0,.int .i64 0] [.int .i64 0,.int .i64 0,.int .i64 0] HW2.o.q rfl rfl))
   clear HW2 q0 q1 q2 q3 q4 q5 qf d0 d1 d2 df0 df1 df2 x0 x1 x2 x3 x4 x5
   simp only[World.setCells,yy,Nat.reduceAdd] at HW4
   generalize (((W3.setCell ⟨w.heap.size+1,0,none⟩ (.int .i64 dl)).setCell ⟨w.heap.size+1,1,none⟩ (.int .i64 dh)).setCell ⟨w.heap.size+1,2,none⟩ (.int .i64 da))=W4 at HW4 ⊢
   have x1:=(Cg HW4.o.x).2.1
   by_cases hlt:t < n
   ·have e1:decide (t < n)=true:=by simpa using hlt
    have hfr:Hid (res=(⟨⟨dl,dh,da⟩,It,2⟩,true)):=yb (by rw[hr.o,yw hlt])
    clear hlt hr
    go_region
    have HW5:=yb HW4.o.drew
    clear HW4 x1
    generalize W4.drew=W5 at HW5 ⊢
    have x1:=(Cg HW5.o.x).2.1
    have hq5:W5.heap[w.heap.size+1]?=some (.cells #[.int .i64 dl,.int .i64 dh,.int .i64 da,.int .i64 0,.int .i64 0,.int .i64 0] 70 (0,0)):=HW5.o.q
    obtain ⟨q0,q1,q2,q3,q4,q5⟩:=Cg hq5
    have qf:=fun k=>E4 (n:=k) hq5
    have HW6:=yb (HW5.o.set (q':=⟨⟨dl,dh,da⟩,It,2⟩) (AA (w.heap.size+1) _ [.int .i64 2] 5 W5 [.int .i64 dl,.int .i64 dh,.int .i64 da,.int .i64 0,.int .i64 0] [.int .i64 0] [] hq5 rfl rfl))
    simp only[World.setCells,yy,Nat.reduceAdd] at HW6
    clear hq5
    go_wp2
    have hwr:=Cv HW6.o.q (.int .i64 dl) (.int .i64 dh) (.int .i64 da) (.int .i64 0) (.int .i64 0) (.int .i64 2)
    exact A3 (c:=(⟨⟨dl,dh,da⟩,It,2⟩:Qn).row) rfl rfl hwr.row ja rfl (by kernel_rfl) ⟨by rw[hfr.o];rfl,hwr.below HW6.o.below (by omega)⟩
   ·have e1:decide (t < n)=false:=by simpa using hlt
    have hfr:Hid (res=(⟨⟨dl,dh,da⟩,⟨k*n,1⟩,0⟩,true)):=yb (by rw[hr.o,yq hlt])
    clear hlt hr
    go_region
    have HW5:=yb HW4.o.drew
    clear HW4 x1
    generalize W4.drew=W5 at HW5 ⊢
    have x1:=(Cg HW5.o.x).2.1
    have hq5:W5.heap[w.heap.size+1]?=some (.cells #[.int .i64 dl,.int .i64 dh,.int .i64 da,.int .i64 0,.int .i64 0,.int .i64 0] 70 (0,0)):=HW5.o.q
    obtain ⟨q0,q1,q2,q3,q4,q5⟩:=Cg hq5
    have qf:=fun k=>E4 (n:=k) hq5
    have HW6:=yb (HW5.o.set (q':=⟨⟨dl,dh,da⟩,⟨k*n,1⟩,0⟩) (AA (w.heap.size+1) _ [.int .i64 (k*n),.int .i64 1] 3 W5 [.int .i64 dl,.int .i64 dh,.int .i64 da] [.int .i64 0,.int .i64 0] [.int .i64 0] hq5 rfl rfl))
    simp only[World.setCells,yy,Nat.reduceAdd] at HW6
    clear hq5
    go_wp2
    have hwr:=Cv HW6.o.q (.int .i64 dl) (.int .i64 dh) (.int .i64 da) (.int .i64 (k*n)) (.int .i64 1) (.int .i64 0)
    exact A3 (c:=(⟨⟨dl,dh,da⟩,⟨k*n,1⟩,0⟩:Qn).row) rfl rfl hwr.row ja rfl (by kernel_rfl) ⟨by rw[hfr.o];rfl,hwr.below HW6.o.below (by omega)⟩
set_option linter.unusedSimpArgs false
def U9(op left n u:Int)(rn:ByteArray)(ri:Int)(m:Nat):Prop:=3<=op∧op<=6∧left≠0∧m=2∧n=0∧u=0∧CH rn ri=true
theorem WA(g:Value)(left:Int)(op n u:Int)(rn:ByteArray)(ri:Int)(a:Option Addr)(m cap:Nat)(w:World)(h1:op≠1)(h2:op≠2)(hb:¬ U9 op left n u rn ri m):
  Calls Tryz.prog 38 #[g,.agg #[.int .i64 op,.int .i64 n,.int .i64 u,.string rn,.int .i64 ri,.slice a m cap],.int .i64 left] w (OW (Fx,false) w):=by
 have e:=yb (O6.new w [iV op,iV n,iV u,.string rn,iV ri,.slice a m cap])
 have L:=Lr rn ri
 have s:Tryz.prog.eqGuardType Tryz.prog.depth 23=false:=by kernel_rfl
 have l:=yb hb
 have M:(op==1)=false:=by simpa using h1
 have T:(op==2)=false:=by simpa using h2
 clear hb h1 h2
 go_enter Tryz.func38,Tryz.ntmps38
 refine Ab fun K h=>?_
 go_wp2
 refine h.o _ _ ?_
 clear h
 generalize (w.alloc (.cells #[iV op,iV n,iV u,.string rn,iV ri,.slice a m cap] 26)).alloc (.cells jg 70)=W at e ⊢
 obtain ⟨x0,V,G,z,C,B⟩:=Cg e.o.x
 have f:W.heap[w.heap.size+1]?=some (.cells jg 70 (0,0)):=e.o.q
 have d:=yb f
 obtain ⟨D,H,S,F,O,N⟩:=Cg f
 have E:=fun k=>E4 (n:=k) f
 clear f
 refine Ab fun K h=>?_
 clear h
 go_upto_region 14 with fail
 by_cases h1:3<=op
 rotate_left
 ·have v:decide (op < 3)=true:=by simp<;>omega
  clear h1
  go_wp2
  have b:=Cv d.o (iV 0) (iV 0) (iV 0) (iV 0) (iV 0) (iV 0)
  exact A3 (c:=Fx.row) rfl rfl b.row ja rfl (by kernel_rfl) ⟨rfl,b.below e.o.below (by omega)⟩
 have v:decide (op < 3)=false:=by simp<;>omega
 by_cases h2:op<=6
 rotate_left
 ·have y:decide (6 < op)=true:=by simp<;>omega
  clear h1 h2
  go_wp2
  have b:=Cv d.o (iV 0) (iV 0) (iV 0) (iV 0) (iV 0) (iV 0)
  exact A3 (c:=Fx.row) rfl rfl b.row ja rfl (by kernel_rfl) ⟨rfl,b.below e.o.below (by omega)⟩
 have y:decide (6 < op)=false:=by simp<;>omega
 by_cases h3:left≠0
 rotate_left
 ·have t:(left==0)=true:=by simpa using h3
  clear h1 h2 h3
  go_wp2
  have b:=Cv d.o (iV 0) (iV 0) (iV 0) (iV 0) (iV 0) (iV 0)
  exact A3 (c:=Fx.row) rfl rfl b.row ja rfl (by kernel_rfl) ⟨rfl,b.below e.o.below (by omega)⟩
 have t:(left==0)=false:=by simpa using h3
 by_cases r:m=2
 rotate_left
 ·have Q:((m:Int)==2)=false:=by simp<;>omega
  have A:((m:Int) !=2)=true:=by simp<;>omega
  clear h1 h2 h3 r
  go_wp2
  have b:=Cv d.o (iV 0) (iV 0) (iV 0) (iV 0) (iV 0) (iV 0)
  exact A3 (c:=Fx.row) rfl rfl b.row ja rfl (by kernel_rfl) ⟨rfl,b.below e.o.below (by omega)⟩
 subst r
 by_cases i:n=0
 rotate_left
 ·have U:(n==0)=false:=by simpa using i
  have P:(n !=0)=true:=by simpa using i
  clear h1 h2 h3 i
  go_wp2
  have b:=Cv d.o (iV 0) (iV 0) (iV 0) (iV 0) (iV 0) (iV 0)
  exact A3 (c:=Fx.row) rfl rfl b.row ja rfl (by kernel_rfl) ⟨rfl,b.below e.o.below (by omega)⟩
 subst i
 by_cases j:u=0
 rotate_left
 ·have I:(u==0)=false:=by simpa using j
  have R:(u !=0)=true:=by simpa using j
  clear h1 h2 h3 j
  go_wp2
  have b:=Cv d.o (iV 0) (iV 0) (iV 0) (iV 0) (iV 0) (iV 0)
  exact A3 (c:=Fx.row) rfl rfl b.row ja rfl (by kernel_rfl) ⟨rfl,b.below e.o.below (by omega)⟩
 subst j
 by_cases p:CH rn ri=true
 rotate_left
 ·have J:CH rn ri=false:=by simpa using p
  clear h1 h2 h3 p
  go_wp2
  have b:=Cv d.o (iV 0) (iV 0) (iV 0) (iV 0) (iV 0) (iV 0)
  exact A3 (c:=Fx.row) rfl rfl b.row ja rfl (by kernel_rfl) ⟨rfl,b.below e.o.below (by omega)⟩
 exact absurd ⟨h1,h2,h3,rfl,rfl,rfl,p⟩ l.o
instance:DecidableEq Rf:=fun a b=>decidable_of_iff (a.name=b.name∧a.n=b.n) (by cases a;cases b;simp)
def NG(u:Us):Rf:=⟨u.name,u.n⟩
mutual
def Iv:Ex->List Rf
 |.mk _ _ _ rn ri args=>⟨rn,ri⟩::F1 args
def F1:List Ex->List Rf
 |[]=> []
 |e::r=>Iv e++F1 r
end
def E5(e:Kc):List Rf:=if Bv e.1 then [] else Iv e.1
def EM(d:CY):List Rf:=[d.on,d.crop]
def FJ(d:BG):List Rf:=d.on::d.turns.flatMap fun k=> [k.farm]
def DQ(d:AZ):List Rf:=[d.farm,d.reach]
def EN(d:D9):List Rf:=[d.farm,d.reach]
def AP(x:Ar):List Rf:=(As x).flatMap E5++(((x.farms.flatMap EM++x.rots.flatMap FJ)++x.rights.flatMap DQ)++x.duties.flatMap EN)
def Cl(x:Ar):List Rf:=AP x++x.reaches.map (·.frm)
def Bq(x:Ar):Int:=if AF x=0 then (if Cl x=Cl (Ah x) then 0 else 170) else AF x
def Wk(N:NP)(s b:Nat):Prop:=b=s∨N b
structure Lu (N:Nat->Prop) (s:Nat) (w:World) (u:Us):Prop where
 inS:Wk N s u.b
 name:w.cell? ⟨u.b,u.o,none⟩=some (.string u.name)
 n:w.cell? ⟨u.b,u.o+1,none⟩=some (.int .i64 u.n)
def CB(K:NP)(p:Addr):Prop:=∃b q,p=⟨b,q,none⟩∧K b
def DB(K:NP)(w:World)(p:Addr):Prop:=∃b q,p=⟨b,q,none⟩∧K b∧∃z,w.cell? ⟨b,q,none⟩=some (.int .i64 z)
theorem OZ{K:NP}{w V:World}(h:∀b,K b->V.heap[b]?=w.heap[b]?):Xp w (CB K) (DB K w) V:=by
 constructor
 ·rintro p ⟨b,q,rfl,a⟩;exact Ac (h b a)
 ·rintro p ⟨b,q,rfl,a,z,c⟩;exact ⟨z,(Ac (h b a)).trans c⟩
section
variable{N K:NP}{w:World}{s:Nat}
mutual
theorem MZ(lt:Int):∀(e:Ex) (b o:Nat) (cs:LV),Wk N s b->AI N w e cs->w.rangeAt b o cs->(∀u∈(C9 w lt e b o).1,Lu N s w u)∧((C9 w lt e b o).2=true->(C9 w lt e b o).1.map NG=Iv e)
 |.mk op n u rn ri args,b,o,cs,hb,hv,hr=>by
  rw[AI] at hv
  obtain ⟨a,cap,rfl,h2,h3,j⟩:=hv
  obtain ⟨l,r1,r2,k,f,i⟩:=Br hr
  obtain ⟨h,g⟩:=N0 lt args a args.length cap 0 j
  rw[C9]
  by_cases hs:O0 op args.length=true
  ·rw[yw hs,i]
   refine ⟨fun v c=>?_,fun d=>?_⟩
   ·rcases yO.1 c with rfl|c
    ·exact ⟨hb,k,f⟩
    ·exact h v c
   ·rw[Iv,zu,g d];rfl
  ·rw[yq hs]
   exact ⟨fun v c=>(by cases c),fun d=>(by cases d)⟩
theorem N0(lt:Int):∀(l:List Ex) (a:Option Addr) (n cap i:Nat),Df N w a i l->(∀u∈(BB w lt l (some (.slice a n cap)) i).1,Lu N s w u)∧((BB w lt l (some (.slice a n cap)) i).2=true->(BB w lt l (some (.slice a n cap)) i).1.map NG=F1 l)
 |[],a,n,cap,i,h=>by rw[BB];exact ⟨fun v c=>(by cases c),fun _=>rfl⟩
 |e::r,a,n,cap,i,h=>by
  rw[Df] at h
  obtain ⟨⟨b,o,cs,rfl,h1,h2,h3⟩,k⟩:=h
  obtain ⟨g,p⟩:=MZ lt e b (o+i*6) cs (.inr h1) h3 h2
  obtain ⟨m,j⟩:=N0 lt r (some ⟨b,o,none⟩) n cap (i+1) k
  rw[BB]
  by_cases f:(C9 w lt e b (o+i*6)).2=true
  ·simp only[f,zU]
   refine ⟨fun v c=>(yv.1 c).elim (g v) (m v),fun d=>?_⟩
   rw[zC,p f,j d,F1]
  ·simp only[f]
   refine ⟨fun v c=>g v (by simpa using c),fun d=>absurd d (by simp)⟩
end
mutual
theorem Ue(hN:∀b,N b->K b):∀(e:Ex) (b o:Nat) (cs:LV),K b->AI N w e cs->w.rangeAt b o cs->Sg w (CB K) e b o
 |.mk op n u rn ri args,b,o,cs,hb,hv,hr=>by
  rw[AI] at hv
  obtain ⟨a,cap,rfl,h2,h3,c⟩:=hv
  obtain ⟨d,r1,r2,g,h,f⟩:=Br hr
  rw[Sg]
  exact ⟨a,cap,⟨d,_,_,rfl,hb⟩,⟨f,_,_,rfl,hb⟩,h2,RN hN args a 0 c⟩
theorem RN(hN:∀b,N b->K b):∀(l:List Ex) (a:Option Addr) (i:Nat),Df N w a i l->Kd w (CB K) a i l
 |[],a,i,h=>by rw[Kd];trivial
 |e::r,a,i,h=>by
  rw[Df] at h
  rw[Kd]
  obtain ⟨⟨b,o,cs,rfl,h1,h2,h3⟩,c⟩:=h
  exact ⟨⟨b,o,rfl,Ue hN e b (o+i*6) cs (hN b h1) h3 h2⟩,RN hN r _ (i+1) c⟩
end
end
theorem N3:∀ {l:List (List Us × Bool)},(BE l).2=true->(BE l).1=l.flatMap (·.1)∧∀p∈l,p.2=true
 |[],_=>by simp[BE]
 |y::r,h=>by
  have e:BE (y::r)=if y.2 then (y.1++(BE r).1,(BE r).2) else (y.1,false):=rfl
  rw[e] at h ⊢
  by_cases h1:y.2=true
  ·rw[yw h1] at h ⊢
   obtain ⟨c,b⟩:=N3 h
   exact ⟨by rw[zh,<-c],fun p a=>(yO.1 a).elim (fun e=>e▸h1) (b p)⟩
  ·rw[yq h1] at h;cases h
theorem Fo{α:Type}{l:List α}{n:Nat}(b:n=l.length){F:Nat->List Us}{f:α->List Rf}(h:∀i (hi:i < l.length),(F i).map NG=f l[i]):((List.range n).flatMap F).map NG=l.flatMap f:=by
 have a:∀k,k<=l.length->((List.range k).flatMap F).map NG=(l.take k).flatMap f:=by
  intro k
  induction k with
  |zero=>simp
  |succ k ih=>
   intro c
   rw[Ak,zC,ih (by omega),h k (by omega),yF (by omega),zo]
   simp
 rw[b,a _ (yf _),yS]
section
variable{N:NP}{w:World}{L:Bt}{cs:LV}{x:Ar}
theorem P0{s:Nat}:∀ {l:List (Array Value)} {m:List Kc},AD (Xu N s w) l m->(∀p∈List.zipWith (Cp w) l m,∀u∈p.1,Lu N s w u)∧((∀p∈List.zipWith (Cp w) l m,p.2=true)->((List.zipWith (Cp w) l m).flatMap (·.1)).map NG=m.flatMap E5)
 |[],[],_=>⟨fun p f=>(by cases f),fun _=>rfl⟩
 |a::l,e::m,hA=>by
  rw[AD] at hA
  obtain ⟨⟨b,o,c,rfl,hb,hr,j⟩,h2⟩:=hA
  obtain ⟨n,k⟩:=P0 h2
  obtain ⟨q,r⟩:=MZ e.2 e.1 b o c hb j hr
  have d:(∀u∈(Cp w #[.pointer (some ⟨b,o,none⟩),.int .i64 e.2] e).1,Lu N s w u)∧((Cp w #[.pointer (some ⟨b,o,none⟩),.int .i64 e.2] e).2=true->(Cp w #[.pointer (some ⟨b,o,none⟩),.int .i64 e.2] e).1.map NG=E5 e):=by
   unfold Cp E5
   by_cases g:Bv e.1=true
   ·simp[g]
   ·rw[yq g,yq g];exact ⟨q,r⟩
  rw[qd]
  refine ⟨fun p f=>(yO.1 f).elim (fun h=>h▸d.1) (n p),fun i=>?_⟩
  rw[zh,zC,d.2 (i _ (by simp)),k (fun p f=>i p (by simp[f])),zh]
 |[],_::_,hA=>by simp[AD] at hA
 |_::_,[],hA=>by simp[AD] at hA
theorem EO{h:Aw}{b o sz i c:Nat}{cs0 p q:LV}{r:Rf}{s:Nat}(to at_:Int)(f:h.a=some ⟨b,o,none⟩)(hN:N b)(hr:w.rangeAt b (o+i*sz) cs0)(e:cs0=p++(AU r++q))(d:p.length=c):Lu N s w (CZ (h.at sz i c) to at_ r):=by
 subst e
 have h1:=D7 hr
 rw[d] at h1
 unfold CZ
 rw[AQ f]
 exact ⟨.inr hN,h1 0 _ rfl,h1 1 _ rfl⟩
theorem QB(h:BH N w L cs x):(∀u∈Ce L x,Lu N L.s w u)∧(Ce L x).map NG=((x.farms.flatMap EM++x.rots.flatMap FJ)++x.rights.flatMap DQ)++x.duties.flatMap EN:=by
 constructor
 ·intro u a
  unfold Ce at a
  simp only[yv] at a
  rcases a with ((a|a)|a)|a
  ·obtain ⟨i,hi,a⟩:=yX.1 a
   have j:i < x.farms.length:=by rw[<-h.farms.1];exact zj.1 hi
   obtain ⟨b,o,c,g1,g,m,e,_,_,_,c1,rfl,t⟩:=h.farms.2.2 i j
   unfold Ef at a
   rw[yk j] at a
   simp only[yO,za,zP] at a
   generalize x.farms[i]=d at*
   rcases a with rfl|rfl
   ·exact EO (p:=[.string d.name]) _ _ g1 g e rfl rfl
   ·exact EO (p:=.string d.name::(AU d.on++(.bool d.river::c1))) (q:=[]) _ _ g1 g e (by simp) (by simp[Ay,t.len])
  ·obtain ⟨i,hi,a⟩:=yX.1 a
   have j:i < x.rots.length:=by rw[<-h.rots.1];exact zj.1 hi
   obtain ⟨b,o,c,g1,g,m,e,_,_,c0,c1,c2,rfl,z,v,y,n⟩:=h.rots.2.2 i j
   unfold Gu at a
   rw[yk j] at a
   generalize x.rots[i]=d at*
   rcases yO.1 a with rfl|a
   ·exact EO (p:=[.string d.name]) _ _ g1 g e rfl rfl
   ·obtain ⟨k,r,a⟩:=yX.1 a
    have l:k < d.turns.length:=by rw[<-n.1];exact zj.1 r
    obtain ⟨b,o,c,g1,g,m,e,_,c1,rfl,t⟩:=n.2.2 k l
    unfold F2 at a
    rw[yk l] at a
    simp only[yO,za,zP] at a
    rw[a]
    exact EO (p:=[]) _ _ g1 g e rfl rfl
  ·obtain ⟨i,hi,a⟩:=yX.1 a
   have j:i < x.rights.length:=by rw[<-h.rights.1];exact zj.1 hi
   obtain ⟨b,o,c,g1,g,m,e,_,_,_,c0,c1,c2,c3,c4,rfl,_⟩:=h.rights.2.2 i j
   unfold CP at a
   rw[yk j] at a
   simp only[yO,za,zP] at a
   generalize x.rights[i]=d at*
   rcases a with rfl|rfl
   ·exact EO (p:=[iV d.kind,.string d.name]) _ _ g1 g e rfl rfl
   ·exact EO (p:=iV d.kind::.string d.name::AU d.farm) _ _ g1 g e rfl rfl
  ·obtain ⟨i,hi,a⟩:=yX.1 a
   have j:i < x.duties.length:=by rw[<-h.duties.1];exact zj.1 hi
   obtain ⟨b,o,c,g1,g,m,e,_,_,_,c0,rfl,_⟩:=h.duties.2.2 i j
   unfold DZ at a
   rw[yk j] at a
   simp only[yO,za,zP] at a
   generalize x.duties[i]=d at*
   rcases a with rfl|rfl
   ·exact EO (p:=[.string d.name]) _ _ g1 g e rfl rfl
   ·exact EO (p:=.string d.name::AU d.farm) _ _ g1 g e rfl rfl
 ·unfold Ce
  rw[zC,zC,zC,Fo h.farms.1 (f:=EM) fun i hi=>?_,Fo h.rots.1 (f:=FJ) fun i hi=>?_,Fo h.rights.1 (f:=DQ) fun i hi=>?_,Fo h.duties.1 (f:=EN) fun i hi=>?_]
  ·unfold DZ;rw[yk hi];rfl
  ·unfold CP;rw[yk hi];rfl
  ·obtain ⟨_,_,_,_,_,_,_,_,_,_,_,_,_,_,_,_,n⟩:=h.rots.2.2 i hi
   unfold Gu;rw[yk hi]
   simp only[zu]
   rw[Fo n.1 (f:=fun k:Cs=> [k.farm]) fun k r=>?_]
   ·rfl
   ·unfold F2;rw[yk r];rfl
  ·unfold Ef;rw[yk hi];rfl
theorem N4(h:BH N w L cs x)(hr:w.rangeAt L.s 0 cs):(∀u∈(BS w L x).1,Lu N L.s w u)∧((BS w L x).2=true->(BS w L x).1.map NG=AP x):=by
 obtain ⟨k,e⟩:=P0 (IA h hr)
 obtain ⟨i,j⟩:=QB h
 constructor
 ·intro u b
  obtain ⟨p,a,b⟩:=J0 b
  unfold El at a
  rcases yv.1 a with a|a
  ·exact k p a u b
  ·simp only[zn] at a
   rw[a] at b
   simp only at b
   split at b
   ·exact i u b
   ·cases b
 ·intro d
  obtain ⟨f,c⟩:=N3 d
  unfold BS
  rw[f]
  unfold El
  have g:Ca x=true:=by
   have:=c (if Ca x then Ce L x else [],Ca x) (by unfold El;simp)
   exact this
  rw[zo,zC]
  unfold DE
  rw[e (fun p a=>c p (by unfold El DE;simp[a]))]
  simp only[zh,zx,yU,g,zU]
  rw[j];rfl
theorem NH(h:BH N w L cs x)(b:Bn x=true):(Ce L x).length<=1000000:=by
 obtain ⟨f,o,j,g,m,q,r,c,_⟩:=Fl b
 unfold Ce
 simp only[yn]
 have l:((List.range L.farms.n).flatMap (Ef L.farms x.farms)).length<=L.farms.n*2:=FF _ fun i=>by unfold Ef;split<;>simp
 have s:((List.range L.rots.n).flatMap (Gu L x.rots)).length<=L.rots.n*66:=OG _ fun i hi=>by
  have a:i < x.rots.length:=by rw[<-h.rots.1];exact hi
  obtain ⟨_,_,_,_,_,_,_,_,_,_,_,_,_,_,_,_,e⟩:=h.rots.2.2 i a
  have d:((List.range (A2 L i).n).flatMap (F2 (A2 L i) (x.rots[i]).turns)).length<=(A2 L i).n*1:=FF _ fun k=>by unfold F2;split<;>simp
  have:=c _ (yJ a)
  have:=e.1
  unfold Gu
  rw[yk a]
  simp only[yz]
  omega
 have d:((List.range L.rights.n).flatMap (CP L.rights x.rights)).length<=L.rights.n*2:=FF _ fun i=>by unfold CP;split<;>simp
 have p:((List.range L.duties.n).flatMap (DZ L.duties x.duties)).length<=L.duties.n*2:=FF _ fun i=>by unfold DZ;split<;>simp
 have:=h.farms.1;have:=h.rots.1;have:=h.rights.1;have:=h.duties.1
 omega
theorem P1(h:BH N w L cs x)(hr:w.rangeAt L.s 0 cs){Bu:Nat}(f:w.cell? ⟨Bu,0,none⟩=some (.pointer (some ⟨L.s,0,none⟩)))(m:Bn x=true):KP N w (CB fun b=>Wk N L.s b∨b=Bu) (DB (fun b=>Wk N L.s b∨b=Bu) w) Bu L x:=by
 refine ⟨h.ok,KO h hr f,⟨Bu,0,rfl,.inr rfl⟩,fun j _ _=>⟨L.s,j,rfl,.inl (.inl rfl)⟩,fun i hi=>?_,fun i hi=>?_,fun i hi=>?_,?_,h.farms.1,h.rots.1,fun i hi=>?_,h.rights.1,h.duties.1,OH (Fl m).1,NH h m⟩
 ·obtain ⟨b,o,c,g1,g,_⟩:=h.rots.2.2 i (by rw[<-h.rots.1];exact hi)
  rw[AQ g1]
  exact ⟨_,_,rfl,.inl (.inr g)⟩
 ·obtain ⟨b,o,c,g1,g,r,l,_,_,_,c1,rfl,u⟩:=h.farms.2.2 i hi
  rw[AQ g1]
  exact ⟨⟨_,_,rfl,.inl (.inr g)⟩,l 3 _ rfl⟩
 ·obtain ⟨b,o,c,g1,g,r,l,_,_,_,c0,c1,c2,c3,c4,rfl,_⟩:=h.rights.2.2 i hi
  rw[AQ g1]
  exact ⟨⟨_,_,rfl,.inl (.inr g)⟩,l 0 _ rfl⟩
 ·refine AD.mono (fun a e p=>?_) (IA h hr)
  obtain ⟨b,o,c,rfl,hb,d,k⟩:=p
  have q:=Ue (K:=fun b=>Wk N L.s b∨b=Bu) (fun b hb=>.inl (.inr hb)) e.1 b o c (.inl hb) k d
  obtain ⟨a,cap,rfl,y,C,v⟩:=k.cells
  obtain ⟨z,r1,r2,B,n,A⟩:=Br d
  exact ⟨b,o,_,rfl,d,k,q,⟨_,_,rfl,.inl hb⟩,⟨_,_,rfl,.inl hb⟩,⟨_,_,rfl,.inl hb⟩,⟨_,_,rfl,.inl hb,_,n⟩,fun _=>⟨_,_,rfl,.inl hb⟩⟩
 ·obtain ⟨_,_,_,_,_,_,_,_,_,_,_,_,_,_,_,_,t⟩:=h.rots.2.2 i hi
  exact t.1
end
def CA(B:Nat)(w:World)(v:Value)(l:List Rf):Prop:=w.ownsRow B 23 2 v l.length (l.flatMap AU)
theorem SH(B:Nat)(w:World):CA B w (.slice none 0 0) []:=⟨rfl,.inl ⟨rfl,rfl⟩⟩
theorem CA.up{B:Nat}{w w':World}{v:Value}{l:List Rf}(h:CA B w v l)(hb:∀g,v.ownBlock=some g->g < w.heap.size->w'.heap[g]?=w.heap[g]?):CA B w' v l:=by
 obtain ⟨h1,h2⟩:=h
 refine ⟨h1,h2.imp id ?_⟩
 rintro ⟨g,cap,a,rfl,d,b,c⟩
 exact ⟨g,cap,a,rfl,d,(hb g rfl (yd.1 b).1).trans b,c⟩
theorem NI{B:Nat}{W:World}{v:Value}{l:List Rf}(d:CA B W v l)(r:Rf)(ty:TypeId)(g c:Nat)(C:W.heap[g]?=some (.cells #[.string r.name,.int .i64 r.n] 23 (0,0)))(x:l.length+1<=1000000000){v':Value}{w':World}
 (a:(Builtin.append_ #[81,81] ty #[v,.slice (some ⟨g,0,none⟩) 1 c]).run Tryz.prog W=.ok v' w'):v'.ownBlock=v.ownBlock∨v'.ownBlock=some W.heap.size:=by
 have m:(Tryz.prog.info? 23).map (fun i=>(i.zero,i.size,i.bytes))=some (some (.agg #[.string ⟨#[]⟩,iV 0]),2,24):=by kernel_rfl
 obtain ⟨q,hi,o,f,p⟩:=info_parts m
 have b:∀j u,(AU r)[j]?=some u->W.cell? (((aV g 0):Addr).add j)=some u:=fun j u y=>by
  rw[zA]
  simp only[World.cell?,C]
  unfold AU at y
  simpa using y
 have s:(AU r).length=1*q.size:=by rw[f];rfl
 rcases d.2 with ⟨rfl,F⟩|⟨k,cap,w,rfl,z,A,E,D,hcs,t⟩
 ·rw[run_append_nil W 81 ty 23 q _ jc hi o (aV g 0) 1 c (AU r) s b (by omega) (by omega) (by rw[p];omega)] at a
  cases a
  exact .inr rfl
 ·by_cases h:l.length+1<=cap
  ·rw[run_append_room W 81 ty 23 q jc hi k l.length cap w A (aV g 0) 1 c (AU r) s b (Er r) h (by rw[f,hcs];show l.length*2+2<=cap*2;omega)] at a
   cases a
   exact .inl rfl
  ·have e:∀j u,(l.flatMap AU)[j]?=some u->W.cell? (((aV k 0):Addr).add j)=some u:=World.ownsRow.cells d (g:=k) rfl
   rw[run_append_grow W 81 ty 23 q _ jc hi o (aV k 0) l.length cap (l.flatMap AU) (by rw[f];exact d.1) e (aV g 0) 1 c (AU r) s b (by omega) (by omega) (growslice_fits (by omega) (by rw[p];omega))] at a
   cases a
   exact .inr rfl
theorem EB{o:Oper}{a:Act}{K:Act->World->Prop}{Q:QT}{W:World}(B:Nat)(s x:Operand)(y:o.op=.call {callee:=.builtin .append,args:=#[s,x],argTypes:=#[81,81]})
 (v:Value)(l:List Rf)(hs:a.eval s=v)(b:CA B W v l)(r:Rf)(g c:Nat)(z:a.eval x=.slice (some ⟨g,0,none⟩) 1 c)(t:W.heap[g]?=some (.cells #[.string r.name,.int .i64 r.n] 23 (0,0)))(k:l.length+1<=1000000000)(d:B<=W.heap.size)
 (h:∀v' w',CA B w' v' (l++[r])->W.grownBy w' v.ownBlock->(v'.ownBlock=v.ownBlock∨v'.ownBlock=some W.heap.size)->K (a.put o.dst v') w'):Oper.wp Tryz.prog o a W K Q:=by
 have f:(Tryz.prog.info? 23).map (fun i=>(i.zero,i.size,i.bytes))=some (some (.agg #[.string ⟨#[]⟩,iV 0]),2,24):=by kernel_rfl
 obtain ⟨A,hi,p,m,q⟩:=info_parts f
 have e:∀j u,(AU r)[j]?=some u->W.cell? (((aV g 0):Addr).add j)=some u:=fun j u w=>by
  rw[zA]
  simp only[World.cell?,t]
  unfold AU at w
  simpa using w
 obtain ⟨v',w',hr,h2,h3,_⟩:=run_append_own (P:=Tryz.prog) W B 81 o.type 23 A _ 2 24 jc hi p m q rfl (by decide) v l.length _ b (aV g 0) 1 c (AU r) rfl e (Er r) (by unfold maxLen;omega) (by omega) d
 have hb:=NI b r o.type g c t k hr
 unfold Oper.wp
 simp[execOp,y,resolve,invoke,builtin,hs,z,hr,Result.andThen]
 refine h v' w' ?_ h3 hb
 unfold CA
 rw[yn,zo]
 simpa using h2
structure Uf (W:World) (base:Nat) (va:Value) (ls:List Rf) (r:Rf) (w1:World) (v:Value):Prop where
 own:CA base w1 v (ls++[r])
 grown:W.grownBy w1 va.ownBlock
 blk:v.ownBlock=va.ownBlock∨∃g,v.ownBlock=some g∧W.heap.size<=g
def Vw(w:World)(v:Value)(r:Rf):Prop:=∃g,v=.slice (some ⟨g,0,none⟩) 1 1∧w.heap[g]?=some (.cells #[.string r.name,.int .i64 r.n] 23 (0,0))
theorem Vw.up{w w':World}{v:Value}{r:Rf}(h:Vw w v r)(hb:Below w.heap.size w w'):Vw w' v r:=by
 obtain ⟨g,h1,h2⟩:=h
 exact ⟨g,h1,(hb.block g (yd.1 h2).1).trans h2⟩
structure P3 (W:World) (base:Nat) (va:Value) (ls:List Rf) (r:Rf) (Bx s24 s25:Nat) (l:Array Bool) (tm:Array Value) (w:World):Prop where
 one:l.getD 6 false=false->Below W.heap.size W w∧(l.getD 5 false=true->Vw w (tm.getD s24 undef) r)
 two:l.getD 6 false=true->l.getD 7 false=false->Uf W base va ls r w (tm.getD s25 undef)
 three:l.getD 7 false=true->∃w1 v,Uf W base va ls r w1 v∧w=w1.setCell ⟨Bx,0,none⟩ v
theorem P3.quiet{W:World}{base:Nat}{va:Value}{ls:List Rf}{r:Rf}{Bx a b:Nat}{l:Array Bool}{tm:Array Value}{w w2:World}{i t:Nat}{v:Value}(h:P3 W base va ls r Bx a b l tm w)(f:l.getD 6 false=false)(m:l.getD 7 false=false)(d:i≠5)(c:i≠6)(e:i≠7)(n:t < a)(hb:Below w.heap.size w w2):P3 W base va ls r Bx a b (l.setIfInBounds i true) (tm.setIfInBounds t v) w2:=by
 obtain ⟨h1,h2⟩:=h.one f
 refine ⟨fun _=>⟨h1.trans (hb.mono h1.size),fun g=>?_⟩,fun k=>?_,fun j=>?_⟩
 ·rw[A8 d] at g
  rw[Bp (Nat.ne_of_lt n)]
  exact (h2 g).up hb
 ·rw[A8 c,f] at k;cases k
 ·rw[A8 e,m] at j;cases j
def Xa(va:Value)(b6 ub uo:Nat)(r:Rf)(j:Nat)(v:Value)(_:World):Prop:=match j with
 |0=>v=va
 |1=>v=.pointer (some ⟨b6,0,none⟩)
 |2=>v=.pointer (some ⟨ub,uo,none⟩)
 |3=>v=.pointer (some ⟨ub,uo,none⟩)
 |4=>v=.agg #[.string r.name,.int .i64 r.n]
 |_=>True
theorem Xy{O:Act}{W0:World}{Q:QT}{l n Bx b6 ub uo base:Nat}{va:Value}{ls:List Rf}{r:Rf}(ops:Array Oper)(E:DP Tryz.f17 7=some ops)
 (U:O.tmps.getD 4 undef=.pointer (some ⟨Bx,0,none⟩))(aa:O.tmps.getD 6 undef=.pointer (some ⟨b6,0,none⟩))(hz:O.tmps.size=64)
 (V:Bx < W0.heap.size)(a2:b6 < W0.heap.size)(W:ub < W0.heap.size)(P:∃u,W0.heap[Bx]?=some (.cells #[u] 81 (0,0)))(s:W0.cell? ⟨Bx,0,none⟩=some va)(D:W0.cell? ⟨b6,0,none⟩=some (.pointer (some ⟨ub,uo,none⟩)))
 (y:W0.cell? ⟨ub,uo,none⟩=some (.string r.name))(G:W0.cell? ⟨ub,uo+1,none⟩=some (.int .i64 r.n))(F:CA base W0 va ls)(T:ls.length+1<=1000000000)(H:base<=W0.heap.size)(ab:Bx < base)
 (hQ:∀(a:Act) w1 v,a.tmps.size=64->a.defers=O.defers->(∀t,(t < 19∨25 < t)->a.tmps.getD t undef=O.tmps.getD t undef)->Uf W0 base va ls r w1 v->Q .normal a (w1.setCell ⟨Bx,0,none⟩ v)):
  (Code.region 7 ops true).wpIn (Fence.wide.inRound l) n Tryz.prog Q O W0:=by
 obtain rfl:=yi ((rfl:DP Tryz.f17 7=some _).symm.trans E)
 clear E
 refine Gk (by kernel_rfl) (P3 W0 base va ls r Bx 24 25) (Xa va b6 ub uo r) (fun _ _ _=>True) (by kernel_rfl) (by rw[hz];kernel_rfl) (by kernel_rfl) (by kernel_rfl) (fun _ j v w w' _ _ _ h=>by unfold Xa at h ⊢;exact h) ⟨fun _=>⟨(yg _ _).drew,fun h=>(by cases h)⟩,fun h=>(by cases h),fun h=>(by cases h)⟩ ?_ ?_
 ·intro ix b a w' hM f o B
  have z:=yb hM.ext
  have I:=(yd.1 B).1
  have K:=hM.size
  have L:b.getD 6 false=false->b.getD 7 false=false:=fun i=>by
   rw[ym];intro C
   have:=A1 hM.down 8 7 6 (by kernel_rfl) C
   rw[i] at this;cases this
  match ix,I with
  |0,_=>
   have d:=hM.old f 4 (by kernel_rfl) _ U
   have i:b.getD 6 false=false:=by
    rw[ym];intro x
    have:=A1 hM.down 8 6 0 (by kernel_rfl) x
    rw[hM.not_yet f] at this;cases this
   have hb:=(z.o.one i).1
   have q:=yb i
   have m:=yb (L i)
   clear i
   have c:=(hb.cell (p:=(aV Bx 0)) V).trans s
   clear s y G D
   obtain rfl:=yi B
   go_simp
   exact ⟨_,rfl,z.o.quiet q.o m.o (by decide) (by decide) (by decide) (by decide) (yg _ _),trivial,rfl⟩
  |1,_=>
   have d:=hM.old f 6 (by kernel_rfl) _ aa
   have i:b.getD 6 false=false:=by
    rw[ym];intro x
    have:=A1 hM.down 8 6 1 (by kernel_rfl) x
    rw[hM.not_yet f] at this;cases this
   have hb:=(z.o.one i).1
   have q:=yb i
   have m:=yb (L i)
   clear i s y G D
   obtain rfl:=yi B
   go_simp
   exact ⟨_,rfl,z.o.quiet q.o m.o (by decide) (by decide) (by decide) (by decide) (yg _ _),trivial,rfl⟩
  |2,_=>
   have d:a.tmps[20]?.getD undef=pV b6 0:=hM.dep f 1 20 (by kernel_rfl) (by kernel_rfl)
   have i:b.getD 6 false=false:=by
    rw[ym];intro x
    have:=A1 hM.down 8 6 2 (by kernel_rfl) x
    rw[hM.not_yet f] at this;cases this
   have hb:=(z.o.one i).1
   have q:=yb i
   have m:=yb (L i)
   clear i
   have c:=(hb.cell (p:=(aV b6 0)) a2).trans D
   clear s y G D
   obtain rfl:=yi B
   go_simp
   exact ⟨_,rfl,z.o.quiet q.o m.o (by decide) (by decide) (by decide) (by decide) (yg _ _),trivial,rfl⟩
  |3,_=>
   have d:a.tmps[21]?.getD undef=pV ub uo:=hM.dep f 2 21 (by kernel_rfl) (by kernel_rfl)
   have i:b.getD 6 false=false:=by
    rw[ym];intro x
    have:=A1 hM.down 8 6 3 (by kernel_rfl) x
    rw[hM.not_yet f] at this;cases this
   have hb:=(z.o.one i).1
   have q:=yb i
   have m:=yb (L i)
   clear i s y G D
   obtain rfl:=yi B
   go_simp
   exact ⟨_,rfl,z.o.quiet q.o m.o (by decide) (by decide) (by decide) (by decide) (yg _ _),trivial,rfl⟩
  |4,_=>
   have d:a.tmps[22]?.getD undef=pV ub uo:=hM.dep f 3 22 (by kernel_rfl) (by kernel_rfl)
   have i:b.getD 6 false=false:=by
    rw[ym];intro x
    have:=A1 hM.down 8 6 4 (by kernel_rfl) x
    rw[hM.not_yet f] at this;cases this
   have hb:=(z.o.one i).1
   have q:=yb i
   have m:=yb (L i)
   clear i
   have c:=(hb.cell (p:=(aV ub uo)) W).trans y
   have c1:=(hb.cell (p:=(aV ub (uo+1))) W).trans G
   clear s y G D
   obtain rfl:=yi B
   go_simp
   exact ⟨_,rfl,z.o.quiet q.o m.o (by decide) (by decide) (by decide) (by decide) (yg _ _),trivial,rfl⟩
  |5,_=>
   have d:a.tmps[23]?.getD undef=.agg #[.string r.name,iV r.n]:=hM.dep f 4 23 (by kernel_rfl) (by kernel_rfl)
   have i:b.getD 6 false=false:=by
    rw[ym];intro x
    have:=A1 hM.down 8 6 5 (by kernel_rfl) x
    rw[hM.not_yet f] at this;cases this
   have hb:=(z.o.one i).1
   have q:=yb i
   have m:=yb (L i)
   clear i
   have HB:=yb hb
   have Y:Hid (5 < b.size):=yb (by rw[K];show 5 < 8;omega)
   have Z:Hid (24 < a.tmps.size):=yb (by rw[hM.tmps,hz];decide)
   clear s y G D hb
   obtain rfl:=yi B
   go_simp
   refine ⟨_,rfl,⟨fun _=>⟨HB.o.alloc HB.o.size _,fun _=>⟨w'.heap.size,?_,World.alloc_heap_new _ _⟩⟩,fun x=>?_,fun C=>?_⟩,trivial,trivial⟩
   ·show (a.put (some 24) (.slice (some (aV w'.heap.size 0)) 1 1)).tmps.getD 24 undef=_
    exact Az _ Z.o
   ·rw[A8 (by decide),q.o] at x;cases x
   ·rw[A8 (by decide),m.o] at C;cases C
  |6,_=>
   have d:a.tmps[19]?.getD undef=va:=hM.dep f 0 19 (by kernel_rfl) (by kernel_rfl)
   have i:=hM.not_yet f
   have l5:b.getD 5 false=true:=hM.came f 5 (by kernel_rfl)
   obtain ⟨g,R,hg⟩:=(z.o.one i).2 l5
   have hb:=(z.o.one i).1
   have Y:Hid (6 < b.size):=yb (by rw[K];show 6 < 8;omega)
   have Z:Hid (25 < a.tmps.size):=yb (by rw[hM.tmps,hz];decide)
   have m:=yb (L i)
   rw[yB] at R
   refine EB base (.tmp 19) (.tmp 24) (by obtain rfl:=yi B;rfl) va ls (by simpa[Act.eval] using d) (F.up fun k hk I=>hb.block k I) r g 1 (by simpa[Act.eval] using R) hg T (yu H hb.size) ?_
   intro v' w5 J A a7
   obtain rfl:=yi B
   refine ⟨v',rfl,⟨fun x=>?_,fun _ _=>⟨?_,?_,?_⟩,fun C=>?_⟩,trivial,trivial⟩
   ·simp[Y.o] at x
   ·show CA base w5 ((a.put (some 25) v').tmps.getD 25 undef) _
    rw[Az _ Z.o];exact J
   ·exact ⟨A.os.trans hb.os,A.tape.trans hb.tape,A.output.trans hb.output,yu hb.size A.size,fun k hk a6=>(A.block k (yt hk hb.size) a6).trans (hb.block k hk)⟩
   ·show ((a.put (some 25) v').tmps.getD 25 undef).ownBlock=_∨∃g,((a.put (some 25) v').tmps.getD 25 undef).ownBlock=some g∧_
    rw[Az _ Z.o]
    exact a7.imp id (fun h=>⟨_,h,hb.size⟩)
   ·rw[A8 (by decide),m.o] at C;cases C
  |7,_=>
   have d:=hM.old f 4 (by kernel_rfl) _ U
   have l6:b.getD 6 false=true:=hM.came f 6 (by kernel_rfl)
   have a0:=hM.not_yet f
   have N:=z.o.two l6 a0
   have M:w'.heap[Bx]?=W0.heap[Bx]?:=N.grown.block Bx V (fun e=>by
    have:=(F.lt Bx e.symm).1;omega)
   obtain ⟨u0,S⟩:=P
   have c:=Ac (o:=0) M
   have fz:w'.frozen? (aV Bx 0)=false:=by unfold World.frozen?;rw[M,S];rfl
   have c2:w'.cell? (aV Bx 0)=some va:=c.trans s
   obtain ⟨v,hv⟩:∃v,v=a.tmps.getD 25 undef:=⟨_,rfl⟩
   rw[<-hv] at N
   have HP:=yb N
   rw[yB] at hv
   replace hv:=hv.symm
   have Y:Hid (7 < b.size):=yb (by rw[K];show 7 < 8;omega)
   have a8:=yb l6
   obtain ⟨ad,nn,cc,rfl⟩:∃ad n c,v=.slice ad n c:=by
    rcases N.own.2 with ⟨rfl,_⟩|⟨_,_,_,rfl,_⟩
    ·exact ⟨_,_,_,rfl⟩
    ·exact ⟨_,_,_,rfl⟩
   clear s y G D N c M S l6
   obtain rfl:=yi B
   go_simp
   refine ⟨undef,rfl,⟨fun x=>?_,fun _ C=>?_,fun _=>⟨w',_,HP.o,rfl⟩⟩,trivial,trivial⟩
   ·rw[A8 (by decide),a8.o] at x;cases x
   ·simp[Y.o] at C
 ·intro b a w' X hM
  obtain ⟨w1,v,N,rfl⟩:=hM.ext.three (X 7 (show 7 < 8 by omega))
  exact hQ a w1 v (hM.tmps.trans hz) hM.defers (F8 (lo:=19) (hi:=25) (by kernel_rfl) hM) N
def Wm(va:Value)(b6 ub uo:Nat)(r:Rf)(j:Nat)(v:Value)(_:World):Prop:=match j with
 |0=>v=va
 |1=>v=.pointer (some ⟨b6,0,none⟩)
 |2=>v=.pointer (some ⟨ub,uo,none⟩)
 |3=>v=.pointer (some ⟨ub,uo,none⟩)
 |4=>v=.agg #[.string r.name,.int .i64 r.n]
 |_=>True
theorem Xb{O:Act}{W0:World}{Q:QT}{l n Bx b6 ub uo base:Nat}{va:Value}{ls:List Rf}{r:Rf}(ops:Array Oper)(E:DP Tryz.f17 10=some ops)
 (U:O.tmps.getD 5 undef=.pointer (some ⟨Bx,0,none⟩))(aa:O.tmps.getD 7 undef=.pointer (some ⟨b6,0,none⟩))(hz:O.tmps.size=64)
 (V:Bx < W0.heap.size)(a2:b6 < W0.heap.size)(W:ub < W0.heap.size)(P:∃u,W0.heap[Bx]?=some (.cells #[u] 81 (0,0)))(s:W0.cell? ⟨Bx,0,none⟩=some va)(D:W0.cell? ⟨b6,0,none⟩=some (.pointer (some ⟨ub,uo,none⟩)))
 (y:W0.cell? ⟨ub,uo,none⟩=some (.string r.name))(G:W0.cell? ⟨ub,uo+1,none⟩=some (.int .i64 r.n))(F:CA base W0 va ls)(T:ls.length+1<=1000000000)(H:base<=W0.heap.size)(ab:Bx < base)
 (hQ:∀(a:Act) w1 v,a.tmps.size=64->a.defers=O.defers->(∀t,(t < 28∨34 < t)->a.tmps.getD t undef=O.tmps.getD t undef)->Uf W0 base va ls r w1 v->Q .normal a (w1.setCell ⟨Bx,0,none⟩ v)):
  (Code.region 10 ops true).wpIn (Fence.wide.inRound l) n Tryz.prog Q O W0:=by
 obtain rfl:=yi ((rfl:DP Tryz.f17 10=some _).symm.trans E)
 clear E
 refine Gk (by kernel_rfl) (P3 W0 base va ls r Bx 33 34) (Wm va b6 ub uo r) (fun _ _ _=>True) (by kernel_rfl) (by rw[hz];kernel_rfl) (by kernel_rfl) (by kernel_rfl) (fun _ j v w w' _ _ _ h=>by unfold Wm at h ⊢;exact h) ⟨fun _=>⟨(yg _ _).drew,fun h=>(by cases h)⟩,fun h=>(by cases h),fun h=>(by cases h)⟩ ?_ ?_
 ·intro ix b a w' hM f o B
  have z:=yb hM.ext
  have I:=(yd.1 B).1
  have K:=hM.size
  have L:b.getD 6 false=false->b.getD 7 false=false:=fun i=>by
   rw[ym];intro C
   have:=A1 hM.down 8 7 6 (by kernel_rfl) C
   rw[i] at this;cases this
  match ix,I with
  |0,_=>
   have d:=hM.old f 5 (by kernel_rfl) _ U
   have i:b.getD 6 false=false:=by
    rw[ym];intro x
    have:=A1 hM.down 8 6 0 (by kernel_rfl) x
    rw[hM.not_yet f] at this;cases this
   have hb:=(z.o.one i).1
   have q:=yb i
   have m:=yb (L i)
   clear i
   have c:=(hb.cell (p:=(aV Bx 0)) V).trans s
   clear s y G D
   obtain rfl:=yi B
   go_simp
   exact ⟨_,rfl,z.o.quiet q.o m.o (by decide) (by decide) (by decide) (by decide) (yg _ _),trivial,rfl⟩
  |1,_=>
   have d:=hM.old f 7 (by kernel_rfl) _ aa
   have i:b.getD 6 false=false:=by
    rw[ym];intro x
    have:=A1 hM.down 8 6 1 (by kernel_rfl) x
    rw[hM.not_yet f] at this;cases this
   have hb:=(z.o.one i).1
   have q:=yb i
   have m:=yb (L i)
   clear i s y G D
   obtain rfl:=yi B
   go_simp
   exact ⟨_,rfl,z.o.quiet q.o m.o (by decide) (by decide) (by decide) (by decide) (yg _ _),trivial,rfl⟩
  |2,_=>
   have d:a.tmps[29]?.getD undef=pV b6 0:=hM.dep f 1 29 (by kernel_rfl) (by kernel_rfl)
   have i:b.getD 6 false=false:=by
    rw[ym];intro x
    have:=A1 hM.down 8 6 2 (by kernel_rfl) x
    rw[hM.not_yet f] at this;cases this
   have hb:=(z.o.one i).1
   have q:=yb i
   have m:=yb (L i)
   clear i
   have c:=(hb.cell (p:=(aV b6 0)) a2).trans D
   clear s y G D
   obtain rfl:=yi B
   go_simp
   exact ⟨_,rfl,z.o.quiet q.o m.o (by decide) (by decide) (by decide) (by decide) (yg _ _),trivial,rfl⟩
  |3,_=>
   have d:a.tmps[30]?.getD undef=pV ub uo:=hM.dep f 2 30 (by kernel_rfl) (by kernel_rfl)
   have i:b.getD 6 false=false:=by
    rw[ym];intro x
    have:=A1 hM.down 8 6 3 (by kernel_rfl) x
    rw[hM.not_yet f] at this;cases this
   have hb:=(z.o.one i).1
   have q:=yb i
   have m:=yb (L i)
   clear i s y G D
   obtain rfl:=yi B
   go_simp
   exact ⟨_,rfl,z.o.quiet q.o m.o (by decide) (by decide) (by decide) (by decide) (yg _ _),trivial,rfl⟩
  |4,_=>
   have d:a.tmps[31]?.getD undef=pV ub uo:=hM.dep f 3 31 (by kernel_rfl) (by kernel_rfl)
   have i:b.getD 6 false=false:=by
    rw[ym];intro x
    have:=A1 hM.down 8 6 4 (by kernel_rfl) x
    rw[hM.not_yet f] at this;cases this
   have hb:=(z.o.one i).1
   have q:=yb i
   have m:=yb (L i)
   clear i
   have c:=(hb.cell (p:=(aV ub uo)) W).trans y
   have c1:=(hb.cell (p:=(aV ub (uo+1))) W).trans G
   clear s y G D
   obtain rfl:=yi B
   go_simp
   exact ⟨_,rfl,z.o.quiet q.o m.o (by decide) (by decide) (by decide) (by decide) (yg _ _),trivial,rfl⟩
  |5,_=>
   have d:a.tmps[32]?.getD undef=.agg #[.string r.name,iV r.n]:=hM.dep f 4 32 (by kernel_rfl) (by kernel_rfl)
   have i:b.getD 6 false=false:=by
    rw[ym];intro x
    have:=A1 hM.down 8 6 5 (by kernel_rfl) x
    rw[hM.not_yet f] at this;cases this
   have hb:=(z.o.one i).1
   have q:=yb i
   have m:=yb (L i)
   clear i
   have HB:=yb hb
   have Y:Hid (5 < b.size):=yb (by rw[K];show 5 < 8;omega)
   have Z:Hid (33 < a.tmps.size):=yb (by rw[hM.tmps,hz];decide)
   clear s y G D hb
   obtain rfl:=yi B
   go_simp
   refine ⟨_,rfl,⟨fun _=>⟨HB.o.alloc HB.o.size _,fun _=>⟨w'.heap.size,?_,World.alloc_heap_new _ _⟩⟩,fun x=>?_,fun C=>?_⟩,trivial,trivial⟩
   ·show (a.put (some 33) (.slice (some (aV w'.heap.size 0)) 1 1)).tmps.getD 33 undef=_
    exact Az _ Z.o
   ·rw[A8 (by decide),q.o] at x;cases x
   ·rw[A8 (by decide),m.o] at C;cases C
  |6,_=>
   have d:a.tmps[28]?.getD undef=va:=hM.dep f 0 28 (by kernel_rfl) (by kernel_rfl)
   have i:=hM.not_yet f
   have l5:b.getD 5 false=true:=hM.came f 5 (by kernel_rfl)
   obtain ⟨g,R,hg⟩:=(z.o.one i).2 l5
   have hb:=(z.o.one i).1
   have Y:Hid (6 < b.size):=yb (by rw[K];show 6 < 8;omega)
   have Z:Hid (34 < a.tmps.size):=yb (by rw[hM.tmps,hz];decide)
   have m:=yb (L i)
   rw[yB] at R
   refine EB base (.tmp 28) (.tmp 33) (by obtain rfl:=yi B;rfl) va ls (by simpa[Act.eval] using d) (F.up fun k hk I=>hb.block k I) r g 1 (by simpa[Act.eval] using R) hg T (yu H hb.size) ?_
   intro v' w5 J A a7
   obtain rfl:=yi B
   refine ⟨v',rfl,⟨fun x=>?_,fun _ _=>⟨?_,?_,?_⟩,fun C=>?_⟩,trivial,trivial⟩
   ·simp[Y.o] at x
   ·show CA base w5 ((a.put (some 34) v').tmps.getD 34 undef) _
    rw[Az _ Z.o];exact J
   ·exact ⟨A.os.trans hb.os,A.tape.trans hb.tape,A.output.trans hb.output,yu hb.size A.size,fun k hk a6=>(A.block k (yt hk hb.size) a6).trans (hb.block k hk)⟩
   ·show ((a.put (some 34) v').tmps.getD 34 undef).ownBlock=_∨∃g,((a.put (some 34) v').tmps.getD 34 undef).ownBlock=some g∧_
    rw[Az _ Z.o]
    exact a7.imp id (fun h=>⟨_,h,hb.size⟩)
   ·rw[A8 (by decide),m.o] at C;cases C
  |7,_=>
   have d:=hM.old f 5 (by kernel_rfl) _ U
   have l6:b.getD 6 false=true:=hM.came f 6 (by kernel_rfl)
   have a0:=hM.not_yet f
   have N:=z.o.two l6 a0
   have M:w'.heap[Bx]?=W0.heap[Bx]?:=N.grown.block Bx V (fun e=>by
    have:=(F.lt Bx e.symm).1;omega)
   obtain ⟨u0,S⟩:=P
   have c:=Ac (o:=0) M
   have fz:w'.frozen? (aV Bx 0)=false:=by unfold World.frozen?;rw[M,S];rfl
   have c2:w'.cell? (aV Bx 0)=some va:=c.trans s
   obtain ⟨v,hv⟩:∃v,v=a.tmps.getD 34 undef:=⟨_,rfl⟩
   rw[<-hv] at N
   have HP:=yb N
   rw[yB] at hv
   replace hv:=hv.symm
   have Y:Hid (7 < b.size):=yb (by rw[K];show 7 < 8;omega)
   have a8:=yb l6
   obtain ⟨ad,nn,cc,rfl⟩:∃ad n c,v=.slice ad n c:=by
    rcases N.own.2 with ⟨rfl,_⟩|⟨_,_,_,rfl,_⟩
    ·exact ⟨_,_,_,rfl⟩
    ·exact ⟨_,_,_,rfl⟩
   clear s y G D N c M S l6
   obtain rfl:=yi B
   go_simp
   refine ⟨undef,rfl,⟨fun x=>?_,fun _ C=>?_,fun _=>⟨w',_,HP.o,rfl⟩⟩,trivial,trivial⟩
   ·rw[A8 (by decide),a8.o] at x;cases x
   ·simp[Y.o] at C
 ·intro b a w' X hM
  obtain ⟨w1,v,N,rfl⟩:=hM.ext.three (X 7 (show 7 < 8 by omega))
  exact hQ a w1 v (hM.tmps.trans hz) hM.defers (F8 (lo:=28) (hi:=34) (by kernel_rfl) hM) N
structure Mk (W0:World) (base:Nat) (w:World) (va:Value) (la:List Rf) (vb:Value) (lb:List Rf):Prop where
 below:Below base W0 w
 size:base<=w.heap.size
 a:CA base w va la
 b:CA base w vb lb
 apart:∀g,va.ownBlock=some g->vb.ownBlock≠some g
 keep:∀(k:Nat) (o:Obj),W0.heap[k]?=some o->(∀c f,o≠Obj.cells c 23 f)->w.heap[k]?=some o
theorem CA.not{w:World}{base:Nat}{v:Value}{l:List Rf}(h:CA base w v l){g:Nat}{o:Obj}(a:v.ownBlock=some g)(d:w.heap[g]?=some o)(i:∀c f,o≠Obj.cells c 23 f):False:=by
 rcases h.2 with ⟨rfl,_⟩|⟨k,cap,e,rfl,_,b,_⟩
 ·cases a
 ·cases a
  rw[d] at b
  exact i _ _ (yi b)
theorem Mk.up{W0 w w':World}{base:Nat}{va vb:Value}{la lb:List Rf}(h:Mk W0 base w va la vb lb)(hb:Below w.heap.size w w'):Mk W0 base w' va la vb lb:=
 ⟨h.below.trans (hb.mono h.size),yu h.size hb.size,h.a.up (fun g _ c=>hb.block g c),h.b.up (fun g _ c=>hb.block g c),h.apart,fun k o d e=>by
  have:=h.keep k o d e
  rw[hb.block k (yd.1 this).1];exact this⟩
theorem CA.lt{w:World}{base:Nat}{v:Value}{l:List Rf}(h:CA base w v l){g:Nat}(a:v.ownBlock=some g):base<=g∧g < w.heap.size:=World.ownsRow.lt h g a
theorem Mk.putA{W0 w w':World}{base:Nat}{va vb c:Value}{la lb i:List Rf}(h:Mk W0 base w va la vb lb)(j:CA base w' c i)(d:w.grownBy w' va.ownBlock)(l:c.ownBlock=va.ownBlock∨c.ownBlock=some w.heap.size):Mk W0 base w' c i vb lb:=by
 refine ⟨h.below.trans ⟨d.os,d.tape,d.output,d.size,fun k f=>d.block k (yt f h.size) (fun e=>?_)⟩,yu h.size d.size,j,h.b.up (fun g m f=>d.block g f (fun e=>h.apart g e.symm m)),fun g h1 h2=>?_,fun k o p n=>?_⟩
 ·have:=(h.a.lt e.symm).1;omega
 ·rcases l with l|l
  ·rw[l] at h1;exact h.apart g h1 h2
  ·rw[l] at h1;cases h1
   have:=(h.b.lt h2).2;omega
 ·have h1:=h.keep k o p n
  rw[d.block k (yd.1 h1).1 (fun e=>h.a.not e.symm h1 n)];exact h1
theorem Mk.swap{W0 w:World}{base:Nat}{va vb:Value}{la lb:List Rf}(h:Mk W0 base w va la vb lb):Mk W0 base w vb lb va la:=⟨h.below,h.size,h.b,h.a,fun g h1 h2=>h.apart g h2 h1,h.keep⟩
def Fp(w:World)(va vb v:Value)(r:Rf):Prop:=∃g,v=.slice (some ⟨g,0,none⟩) 1 1∧w.heap[g]?=some (.cells #[.string r.name,.int .i64 r.n] 23 (0,0))∧va.ownBlock≠some g∧vb.ownBlock≠some g
theorem Fp.up{w w':World}{va vb v:Value}{r:Rf}(h:Fp w va vb v r)(hb:Below w.heap.size w w'):Fp w' va vb v r:=by
 obtain ⟨g,h1,h2,h3⟩:=h
 exact ⟨g,h1,(hb.block g (yd.1 h2).1).trans h2,h3⟩
theorem Fp.grown{w w':World}{va vb v a:Value}{r:Rf}(h:Fp w va vb v r)(d:w.grownBy w' va.ownBlock)(b:a.ownBlock=va.ownBlock∨a.ownBlock=some w.heap.size):Fp w' a vb v r:=by
 obtain ⟨g,h1,h2,h3,f⟩:=h
 have c:=(yd.1 h2).1
 refine ⟨g,h1,(d.block g c (fun e=>h3 e.symm)).trans h2,fun e=>?_,f⟩
 rcases b with b|b
 ·exact h3 (b▸e)
 ·rw[b] at e;cases e;exact qF _ c
theorem IE{W0 w:World}{base:Nat}{va vb:Value}{la lb:List Rf}(h:Mk W0 base w va la vb lb)(r:Rf):Fp (w.alloc (.cells #[.string r.name,.int .i64 r.n] 23)) va vb (.slice (some ⟨w.heap.size,0,none⟩) 1 1) r:=
 ⟨w.heap.size,rfl,World.alloc_heap_new _ _,fun e=>by have:=(h.a.lt e).2;omega,fun e=>by have:=(h.b.lt e).2;omega⟩
structure JC (W0:World) (base B4 B5:Nat) (va:Value) (la:List Rf) (vb:Value) (lb:List Rf) (r1 r2:Rf) (l:Array Bool) (tm:Array Value) (w:World):Prop where
 p00:l.getD 8 false=false->Mk W0 base w va la vb lb∧(l.getD 7 false=true->Fp w va vb (tm.getD 48 undef) r1)∧(l.getD 16 false=true->Fp w va vb (tm.getD 57 undef) r2)
 p10:l.getD 8 false=true->l.getD 17 false=false->Mk W0 base w (tm.getD 49 undef) (la++[r1]) vb lb∧(l.getD 16 false=true->Fp w (tm.getD 49 undef) vb (tm.getD 57 undef) r2)
 p11:l.getD 17 false=true->l.getD 18 false=false->Mk W0 base w (tm.getD 49 undef) (la++[r1]) (tm.getD 58 undef) (lb++[r2])
 p18:l.getD 18 false=true->l.getD 19 false=false->∃w1,Mk W0 base w1 (tm.getD 49 undef) (la++[r1]) (tm.getD 58 undef) (lb++[r2])∧w=w1.setCell ⟨B4,0,none⟩ (tm.getD 49 undef)
 p19:l.getD 19 false=true->∃w1 v1 v2,Mk W0 base w1 v1 (la++[r1]) v2 (lb++[r2])∧w=(w1.setCell ⟨B4,0,none⟩ v1).setCell ⟨B5,0,none⟩ v2
theorem JC.quiet{W0:World}{base B4 B5:Nat}{va vb:Value}{la lb:List Rf}{r1 r2:Rf}{l:Array Bool}{tm:Array Value}{w:World}{i t:Nat}{v:Value}(h:JC W0 base B4 B5 va la vb lb r1 r2 l tm w)(a:l.getD 17 false=false)(n:l.getD 18 false=false)(g:l.getD 19 false=false)
 (hi:i≠7∧i≠8∧i≠16∧i≠17∧i≠18∧i≠19)(u:t≠48∧t≠49∧t≠57):JC W0 base B4 B5 va la vb lb r1 r2 (l.setIfInBounds i true) (tm.setIfInBounds t v) w:=by
 obtain ⟨r,q,c,p,e,m⟩:=hi
 obtain ⟨k,o,b⟩:=u
 refine ⟨fun d=>?_,fun d _=>?_,fun h=>?_,fun h=>?_,fun h=>?_⟩
 ·rw[A8 q] at d
  obtain ⟨f,s,j⟩:=h.p00 d
  rw[A8 r,A8 c,Bp k,Bp b]
  exact ⟨f,s,j⟩
 ·rw[A8 q] at d
  obtain ⟨f,j⟩:=h.p10 d a
  rw[A8 c,Bp o,Bp b]
  exact ⟨f,j⟩
 ·rw[A8 p,a] at h;cases h
 ·rw[A8 e,n] at h;cases h
 ·rw[A8 m,g] at h;cases h
theorem JC.below{W0:World}{base B4 B5:Nat}{va vb:Value}{la lb:List Rf}{r1 r2:Rf}{l:Array Bool}{tm:Array Value}{w:World}(h:JC W0 base B4 B5 va la vb lb r1 r2 l tm w)(a:l.getD 17 false=false):Below base W0 w∧base<=w.heap.size:=by
 cases b:l.getD 8 false with
 |false=>exact ⟨(h.p00 b).1.below,(h.p00 b).1.size⟩
 |true=>exact ⟨(h.p10 b a).1.below,(h.p10 b a).1.size⟩
def Xc(va vb:Value)(B B3 b1 o1 n1 c1 b2 o2 n2 c2 i:Nat)(r1 r2:Rf)(j:Nat)(v:Value)(_:World):Prop:=match j with
 |0=>v=va
 |1=>v=.pointer (some ⟨B,21,none⟩)
 |2=>v=.slice (some ⟨b1,o1,none⟩) n1 c1
 |3=>v=.int .i64 i
 |4=>v=.pointer (some ⟨b1,o1+i*51,none⟩)
 |5=>v=.pointer (some ⟨b1,o1+i*51+1,none⟩)
 |6=>v=.agg #[.string r1.name,.int .i64 r1.n]
 |9=>v=vb
 |10=>v=.pointer (some ⟨B3,21,none⟩)
 |11=>v=.slice (some ⟨b2,o2,none⟩) n2 c2
 |12=>v=.int .i64 i
 |13=>v=.pointer (some ⟨b2,o2+i*51,none⟩)
 |14=>v=.pointer (some ⟨b2,o2+i*51+1,none⟩)
 |15=>v=.agg #[.string r2.name,.int .i64 r2.n]
 |_=>True
theorem Xd{a₀:Act}{W0:World}{Q:QT}{base B B3 B4 B5 b1 o1 n1 c1 b2 o2 n2 c2 i:Nat}{va vb:Value}{la lb:List Rf}{r1 r2:Rf}(ops:Array Oper)(a6:DP Tryz.f17 14=some ops)
 (ap:a₀.tmps.getD 1 undef=.pointer (some ⟨B,0,none⟩))(b4:a₀.tmps.getD 3 undef=.pointer (some ⟨B3,0,none⟩))(am:a₀.tmps.getD 4 undef=.pointer (some ⟨B4,0,none⟩))(al:a₀.tmps.getD 5 undef=.pointer (some ⟨B5,0,none⟩))(ag:a₀.tmps.getD 8 undef=.int .i64 i)(hz:a₀.tmps.size=64)
 (hB:B < base)(b0:B3 < base)(aj:B4 < base)(af:B5 < base)(ac:b1 < base)(ab:b2 < base)(b5:B4≠B5)(J:i < n1)(I:i < n2)
 (ak:∃u,W0.heap[B4]?=some (.cells #[u] 81 (0,0)))(ah:∃u,W0.heap[B5]?=some (.cells #[u] 81 (0,0)))(F:W0.cell? ⟨B4,0,none⟩=some va)(G:W0.cell? ⟨B5,0,none⟩=some vb)
 (C:W0.cell? ⟨B,21,none⟩=some (.slice (some ⟨b1,o1,none⟩) n1 c1))(E:W0.cell? ⟨B3,21,none⟩=some (.slice (some ⟨b2,o2,none⟩) n2 c2))
 (A:W0.cell? ⟨b1,o1+i*51+1,none⟩=some (.string r1.name))(z:W0.cell? ⟨b1,o1+i*51+1+1,none⟩=some (.int .i64 r1.n))(D:W0.cell? ⟨b2,o2+i*51+1,none⟩=some (.string r2.name))(y:W0.cell? ⟨b2,o2+i*51+1+1,none⟩=some (.int .i64 r2.n))
 (h2:Mk W0 base W0 va la vb lb)(ay:la.length+1<=1000000000)(aq:lb.length+1<=1000000000)
 (hQ:∀(a:Act) w1 v1 v2,a.tmps.size=64->a.defers=a₀.defers->(∀t,(t < 41∨58 < t)->a.tmps.getD t undef=a₀.tmps.getD t undef)->Mk W0 base w1 v1 (la++[r1]) v2 (lb++[r2])->Q .normal a ((w1.setCell ⟨B4,0,none⟩ v1).setCell ⟨B5,0,none⟩ v2)):
  (Code.region 14 ops true).wp Tryz.prog Q a₀ W0:=by
 obtain rfl:=yi ((rfl:DP Tryz.f17 14=some _).symm.trans a6)
 clear a6
 refine BP (by kernel_rfl) (JC W0 base B4 B5 va la vb lb r1 r2) (Xc va vb B B3 b1 o1 n1 c1 b2 o2 n2 c2 i r1 r2) (fun _ _ _=>True) (by kernel_rfl) (by rw[hz];kernel_rfl) (by kernel_rfl) (fun _ j v w w' _ _ _ h=>by unfold Xc at h ⊢;exact h) ⟨fun _=>⟨h2.up (yg _ _).drew,fun h=>(by cases h),fun h=>(by cases h)⟩,fun h=>(by cases h),fun h=>(by cases h),fun h=>(by cases h),fun h=>(by cases h)⟩ ?_ ?_
 ·clear h2
  intro ix f a w' hM x o L
  have H:=yb hM.ext
  have ar:=(yd.1 L).1
  have a0:=hM.size
  have nn:f.getD 17 false=false->f.getD 18 false=false∧f.getD 19 false=false:=fun n=>by
   constructor
   ·rw[ym];intro h7
    have:=A1 hM.down 20 18 17 (by kernel_rfl) h7
    rw[n] at this;cases this
   ·rw[ym];intro h7
    have:=A1 hM.down 20 19 17 (by kernel_rfl) h7
    rw[n] at this;cases this
  match ix,ar with
  |0,_=>
   have d:=hM.old x 4 (by kernel_rfl) _ am
   have k:f.getD 17 false=false:=by
    rw[ym];intro K
    have:=A1 hM.down 20 17 0 (by kernel_rfl) K
    rw[hM.not_yet x] at this;cases this
   obtain ⟨q,l⟩:=nn k
   have hb:=(H.o.below k).1
   have r:=yb k;have s:=yb q;have m:=yb l
   clear k q l
   have c:=(hb.cell (p:=(aV B4 0)) aj).trans F
   clear F G C E A D z y J I nn hb
   obtain rfl:=yi L
   go_simp
   exact ⟨_,rfl,H.o.quiet r.o s.o m.o (by decide) (by decide),trivial,rfl⟩
  |1,_=>
   have d:=hM.old x 1 (by kernel_rfl) _ ap
   have k:f.getD 17 false=false:=by
    rw[ym];intro K
    have:=A1 hM.down 20 17 1 (by kernel_rfl) K
    rw[hM.not_yet x] at this;cases this
   obtain ⟨q,l⟩:=nn k
   have hb:=(H.o.below k).1
   have r:=yb k;have s:=yb q;have m:=yb l
   clear k q l F G C E A D z y J I nn hb
   obtain rfl:=yi L
   go_simp
   exact ⟨_,rfl,H.o.quiet r.o s.o m.o (by decide) (by decide),trivial,rfl⟩
  |2,_=>
   have d:a.tmps[42]?.getD undef=pV B 21:=hM.dep x 1 42 (by kernel_rfl) (by kernel_rfl)
   have k:f.getD 17 false=false:=by
    rw[ym];intro K
    have:=A1 hM.down 20 17 2 (by kernel_rfl) K
    rw[hM.not_yet x] at this;cases this
   obtain ⟨q,l⟩:=nn k
   have hb:=(H.o.below k).1
   have r:=yb k;have s:=yb q;have m:=yb l
   clear k q l
   have c:=(hb.cell (p:=(aV B 21)) hB).trans C
   clear F G C E A D z y J I nn hb
   obtain rfl:=yi L
   go_simp
   exact ⟨_,rfl,H.o.quiet r.o s.o m.o (by decide) (by decide),trivial,rfl⟩
  |3,_=>
   have d:=hM.old x 8 (by kernel_rfl) _ ag
   have k:f.getD 17 false=false:=by
    rw[ym];intro K
    have:=A1 hM.down 20 17 3 (by kernel_rfl) K
    rw[hM.not_yet x] at this;cases this
   obtain ⟨q,l⟩:=nn k
   have hb:=(H.o.below k).1
   have r:=yb k;have s:=yb q;have m:=yb l
   clear k q l F G C E A D z y J I nn hb
   obtain rfl:=yi L
   go_simp
   exact ⟨_,rfl,H.o.quiet r.o s.o m.o (by decide) (by decide),trivial,rfl⟩
  |4,_=>
   have d1:a.tmps[43]?.getD undef=.slice (some (aV b1 o1)) n1 c1:=hM.dep x 2 43 (by kernel_rfl) (by kernel_rfl)
   have d2:a.tmps[44]?.getD undef=iV i:=hM.dep x 3 44 (by kernel_rfl) (by kernel_rfl)
   have ax:(i:Int) < (n1:Int):=by omega
   have k:f.getD 17 false=false:=by
    rw[ym];intro K
    have:=A1 hM.down 20 17 4 (by kernel_rfl) K
    rw[hM.not_yet x] at this;cases this
   obtain ⟨q,l⟩:=nn k
   have hb:=(H.o.below k).1
   have r:=yb k;have s:=yb q;have m:=yb l
   clear k q l F G C E A D z y J I nn hb
   obtain rfl:=yi L
   go_simp
   exact ⟨_,rfl,H.o.quiet r.o s.o m.o (by decide) (by decide),trivial,rfl⟩
  |5,_=>
   have d:a.tmps[45]?.getD undef=pV b1 (o1+i*51):=hM.dep x 4 45 (by kernel_rfl) (by kernel_rfl)
   have k:f.getD 17 false=false:=by
    rw[ym];intro K
    have:=A1 hM.down 20 17 5 (by kernel_rfl) K
    rw[hM.not_yet x] at this;cases this
   obtain ⟨q,l⟩:=nn k
   have hb:=(H.o.below k).1
   have r:=yb k;have s:=yb q;have m:=yb l
   clear k q l F G C E A D z y J I nn hb
   obtain rfl:=yi L
   go_simp
   exact ⟨_,rfl,H.o.quiet r.o s.o m.o (by decide) (by decide),trivial,rfl⟩
  |6,_=>
   have d:a.tmps[46]?.getD undef=pV b1 (o1+i*51+1):=hM.dep x 5 46 (by kernel_rfl) (by kernel_rfl)
   have k:f.getD 17 false=false:=by
    rw[ym];intro K
    have:=A1 hM.down 20 17 6 (by kernel_rfl) K
    rw[hM.not_yet x] at this;cases this
   obtain ⟨q,l⟩:=nn k
   have hb:=(H.o.below k).1
   have r:=yb k;have s:=yb q;have m:=yb l
   clear k q l
   have c:=(hb.cell (p:=(aV b1 (o1+i*51+1))) ac).trans A
   have c1:=(hb.cell (p:=(aV b1 (o1+i*51+1+1))) ac).trans z
   clear F G C E A D z y J I nn hb
   obtain rfl:=yi L
   go_simp
   exact ⟨_,rfl,H.o.quiet r.o s.o m.o (by decide) (by decide),trivial,rfl⟩
  |7,_=>
   have d:a.tmps[47]?.getD undef=.agg #[.string r1.name,iV r1.n]:=hM.dep x 6 47 (by kernel_rfl) (by kernel_rfl)
   have k:f.getD 17 false=false:=by
    rw[ym];intro K
    have:=A1 hM.down 20 17 7 (by kernel_rfl) K
    rw[hM.not_yet x] at this;cases this
   obtain ⟨q,l⟩:=nn k
   have hb:=(H.o.below k).1
   have r:=yb k;have s:=yb q;have m:=yb l
   clear k q l
   have n8:f.getD 8 false=false:=by
    rw[ym];intro K
    have:=A1 hM.down 20 8 7 (by kernel_rfl) K
    rw[hM.not_yet x] at this;cases this
   have av:=yb n8
   have W:=yb (H.o.p00 n8)
   have HT:Hid (48 < a.tmps.size):=yb (by rw[hM.tmps,hz];decide)
   clear n8 F G C E A D z y J I nn hb
   obtain rfl:=yi L
   go_simp
   have U:Below w'.heap.size w' (w'.alloc (.cells #[.string r1.name,iV r1.n] 23)):=(yg _ _).alloc (yf _) _
   refine ⟨_,rfl,⟨fun _=>⟨W.o.1.up U,fun _=>?_,fun V=>?_⟩,fun M=>?_,fun h=>?_,fun h=>?_,fun h=>?_⟩,trivial,trivial⟩
   ·rw[Az _ HT.o];exact IE W.o.1 r1
   ·rw[A8 (by decide)] at V
    rw[Ck _ (by decide)]
    exact (W.o.2.2 V).up U
   ·rw[A8 (by decide),av.o] at M;cases M
   ·rw[A8 (by decide),r.o] at h;cases h
   ·rw[A8 (by decide),s.o] at h;cases h
   ·rw[A8 (by decide),m.o] at h;cases h
  |8,_=>
   have d:a.tmps[41]?.getD undef=va:=hM.dep x 0 41 (by kernel_rfl) (by kernel_rfl)
   have k:f.getD 17 false=false:=by
    rw[ym];intro K
    have:=A1 hM.down 20 17 8 (by kernel_rfl) K
    rw[hM.not_yet x] at this;cases this
   obtain ⟨q,l⟩:=nn k
   have hb:=(H.o.below k).1
   have r:=yb k;have s:=yb q;have m:=yb l
   clear k q l
   have n8:=hM.not_yet x
   have l7:f.getD 7 false=true:=hM.came x 7 (by kernel_rfl)
   obtain ⟨T,k2,k3⟩:=H.o.p00 n8
   obtain ⟨g,ai,hg,_,_⟩:=k2 l7
   have HL:Hid (8 < f.size):=yb (by rw[a0];show 8 < 20;omega)
   have HT:Hid (49 < a.tmps.size):=yb (by rw[hM.tmps,hz];decide)
   rw[yB] at ai
   refine EB base (.tmp 41) (.tmp 48) (by obtain rfl:=yi L;rfl) va la (by simpa[Act.eval] using d) T.a r1 g 1 (by simpa[Act.eval] using ai) hg ay T.size ?_
   intro v' w5 P Z a2
   obtain rfl:=yi L
   refine ⟨v',rfl,⟨fun M=>?_,fun _ _=>⟨?_,fun V=>?_⟩,fun h=>?_,fun h=>?_,fun h=>?_⟩,trivial,trivial⟩
   ·simp[HL.o] at M
   ·show Mk W0 base w5 ((a.put (some 49) v').tmps.getD 49 undef) _ vb lb
    rw[Az _ HT.o];exact T.putA P Z a2
   ·rw[A8 (by decide)] at V
    show Fp w5 ((a.put (some 49) v').tmps.getD 49 undef) vb ((a.put (some 49) v').tmps.getD 57 undef) r2
    rw[Az _ HT.o,Ck _ (by decide)]
    exact (k3 V).grown Z a2
   ·rw[A8 (by decide),r.o] at h;cases h
   ·rw[A8 (by decide),s.o] at h;cases h
   ·rw[A8 (by decide),m.o] at h;cases h
  |9,_=>
   have d:=hM.old x 5 (by kernel_rfl) _ al
   have k:f.getD 17 false=false:=by
    rw[ym];intro K
    have:=A1 hM.down 20 17 9 (by kernel_rfl) K
    rw[hM.not_yet x] at this;cases this
   obtain ⟨q,l⟩:=nn k
   have hb:=(H.o.below k).1
   have r:=yb k;have s:=yb q;have m:=yb l
   clear k q l
   have c:=(hb.cell (p:=(aV B5 0)) af).trans G
   clear F G C E A D z y J I nn hb
   obtain rfl:=yi L
   go_simp
   exact ⟨_,rfl,H.o.quiet r.o s.o m.o (by decide) (by decide),trivial,rfl⟩
  |10,_=>
   have d:=hM.old x 3 (by kernel_rfl) _ b4
   have k:f.getD 17 false=false:=by
    rw[ym];intro K
    have:=A1 hM.down 20 17 10 (by kernel_rfl) K
    rw[hM.not_yet x] at this;cases this
   obtain ⟨q,l⟩:=nn k
   have hb:=(H.o.below k).1
   have r:=yb k;have s:=yb q;have m:=yb l
   clear k q l F G C E A D z y J I nn hb
   obtain rfl:=yi L
   go_simp
   exact ⟨_,rfl,H.o.quiet r.o s.o m.o (by decide) (by decide),trivial,rfl⟩
  |11,_=>
   have d:a.tmps[51]?.getD undef=pV B3 21:=hM.dep x 10 51 (by kernel_rfl) (by kernel_rfl)
   have k:f.getD 17 false=false:=by
    rw[ym];intro K
    have:=A1 hM.down 20 17 11 (by kernel_rfl) K
    rw[hM.not_yet x] at this;cases this
   obtain ⟨q,l⟩:=nn k
   have hb:=(H.o.below k).1
   have r:=yb k;have s:=yb q;have m:=yb l
   clear k q l
   have c:=(hb.cell (p:=(aV B3 21)) b0).trans E
   clear F G C E A D z y J I nn hb
   obtain rfl:=yi L
   go_simp
   exact ⟨_,rfl,H.o.quiet r.o s.o m.o (by decide) (by decide),trivial,rfl⟩
  |12,_=>
   have d:=hM.old x 8 (by kernel_rfl) _ ag
   have k:f.getD 17 false=false:=by
    rw[ym];intro K
    have:=A1 hM.down 20 17 12 (by kernel_rfl) K
    rw[hM.not_yet x] at this;cases this
   obtain ⟨q,l⟩:=nn k
   have hb:=(H.o.below k).1
   have r:=yb k;have s:=yb q;have m:=yb l
   clear k q l F G C E A D z y J I nn hb
   obtain rfl:=yi L
   go_simp
   exact ⟨_,rfl,H.o.quiet r.o s.o m.o (by decide) (by decide),trivial,rfl⟩
  |13,_=>
   have d1:a.tmps[52]?.getD undef=.slice (some (aV b2 o2)) n2 c2:=hM.dep x 11 52 (by kernel_rfl) (by kernel_rfl)
   have d2:a.tmps[53]?.getD undef=iV i:=hM.dep x 12 53 (by kernel_rfl) (by kernel_rfl)
   have ax:(i:Int) < (n2:Int):=by omega
   have k:f.getD 17 false=false:=by
    rw[ym];intro K
    have:=A1 hM.down 20 17 13 (by kernel_rfl) K
    rw[hM.not_yet x] at this;cases this
   obtain ⟨q,l⟩:=nn k
   have hb:=(H.o.below k).1
   have r:=yb k;have s:=yb q;have m:=yb l
   clear k q l F G C E A D z y J I nn hb
   obtain rfl:=yi L
   go_simp
   exact ⟨_,rfl,H.o.quiet r.o s.o m.o (by decide) (by decide),trivial,rfl⟩
  |14,_=>
   have d:a.tmps[54]?.getD undef=pV b2 (o2+i*51):=hM.dep x 13 54 (by kernel_rfl) (by kernel_rfl)
   have k:f.getD 17 false=false:=by
    rw[ym];intro K
    have:=A1 hM.down 20 17 14 (by kernel_rfl) K
    rw[hM.not_yet x] at this;cases this
   obtain ⟨q,l⟩:=nn k
   have hb:=(H.o.below k).1
   have r:=yb k;have s:=yb q;have m:=yb l
   clear k q l F G C E A D z y J I nn hb
   obtain rfl:=yi L
   go_simp
   exact ⟨_,rfl,H.o.quiet r.o s.o m.o (by decide) (by decide),trivial,rfl⟩
  |15,_=>
   have d:a.tmps[55]?.getD undef=pV b2 (o2+i*51+1):=hM.dep x 14 55 (by kernel_rfl) (by kernel_rfl)
   have k:f.getD 17 false=false:=by
    rw[ym];intro K
    have:=A1 hM.down 20 17 15 (by kernel_rfl) K
    rw[hM.not_yet x] at this;cases this
   obtain ⟨q,l⟩:=nn k
   have hb:=(H.o.below k).1
   have r:=yb k;have s:=yb q;have m:=yb l
   clear k q l
   have c:=(hb.cell (p:=(aV b2 (o2+i*51+1))) ab).trans D
   have c1:=(hb.cell (p:=(aV b2 (o2+i*51+1+1))) ab).trans y
   clear F G C E A D z y J I nn hb
   obtain rfl:=yi L
   go_simp
   exact ⟨_,rfl,H.o.quiet r.o s.o m.o (by decide) (by decide),trivial,rfl⟩
  |16,_=>
   have d:a.tmps[56]?.getD undef=.agg #[.string r2.name,iV r2.n]:=hM.dep x 15 56 (by kernel_rfl) (by kernel_rfl)
   have k:f.getD 17 false=false:=by
    rw[ym];intro K
    have:=A1 hM.down 20 17 16 (by kernel_rfl) K
    rw[hM.not_yet x] at this;cases this
   obtain ⟨q,l⟩:=nn k
   have hb:=(H.o.below k).1
   have r:=yb k;have s:=yb q;have m:=yb l
   clear k q l
   have HT:Hid (57 < a.tmps.size):=yb (by rw[hM.tmps,hz];decide)
   clear F G C E A D z y J I nn hb
   obtain rfl:=yi L
   go_simp
   have U:Below w'.heap.size w' (w'.alloc (.cells #[.string r2.name,iV r2.n] 23)):=(yg _ _).alloc (yf _) _
   refine ⟨_,rfl,⟨fun M=>?_,fun M _=>?_,fun h=>?_,fun h=>?_,fun h=>?_⟩,trivial,trivial⟩
   ·rw[A8 (by decide)] at M
    obtain ⟨T,k2,k3⟩:=H.o.p00 M
    refine ⟨T.up U,fun h7=>?_,fun _=>?_⟩
    ·rw[A8 (by decide)] at h7
     rw[Ck _ (by decide)]
     exact (k2 h7).up U
    ·rw[Az _ HT.o];exact IE T r2
   ·rw[A8 (by decide)] at M
    obtain ⟨T,k3⟩:=H.o.p10 M r.o
    rw[Ck _ (by decide),Az _ HT.o]
    exact ⟨T.up U,fun _=>IE T r2⟩
   ·rw[A8 (by decide),r.o] at h;cases h
   ·rw[A8 (by decide),s.o] at h;cases h
   ·rw[A8 (by decide),m.o] at h;cases h
  |17,_=>
   have d:a.tmps[50]?.getD undef=vb:=hM.dep x 9 50 (by kernel_rfl) (by kernel_rfl)
   have k:=hM.not_yet x
   obtain ⟨q,l⟩:=nn k
   have l8:f.getD 8 false=true:=hM.came x 8 (by kernel_rfl)
   have az:f.getD 16 false=true:=hM.came x 16 (by kernel_rfl)
   obtain ⟨T,k3⟩:=H.o.p10 l8 k
   obtain ⟨g,ae,hg,_,_⟩:=k3 az
   have HL:Hid (17 < f.size):=yb (by rw[a0];show 17 < 20;omega)
   have HT:Hid (58 < a.tmps.size):=yb (by rw[hM.tmps,hz];decide)
   rw[yB] at ae
   refine EB base (.tmp 50) (.tmp 57) (by obtain rfl:=yi L;rfl) vb lb (by simpa[Act.eval] using d) T.b r2 g 1 (by simpa[Act.eval] using ae) hg aq T.size ?_
   intro v' w5 P Z a2
   obtain rfl:=yi L
   refine ⟨v',rfl,⟨fun M=>?_,fun _ O=>?_,fun _ _=>?_,fun h=>?_,fun h=>?_⟩,trivial,trivial⟩
   ·rw[A8 (by decide),l8] at M;cases M
   ·simp[HL.o] at O
   ·show Mk W0 base w5 ((a.put (some 58) v').tmps.getD 49 undef) _ ((a.put (some 58) v').tmps.getD 58 undef) _
    rw[Az _ HT.o,Ck _ (by decide)]
    exact (T.swap.putA P Z a2).swap
   ·rw[A8 (by decide),q] at h;cases h
   ·rw[A8 (by decide),l] at h;cases h
  |18,_=>
   have d:=hM.old x 4 (by kernel_rfl) _ am
   have N:f.getD 17 false=true:=hM.came x 17 (by kernel_rfl)
   have nk:=hM.not_yet x
   have l:f.getD 19 false=false:=by
    rw[ym];intro K
    have:=A1 hM.down 20 19 18 (by kernel_rfl) K
    rw[nk] at this;cases this
   have W:=yb (H.o.p11 N nk)
   have m:=yb l;have X:=yb N
   have hv:∃ad n c,a.tmps[49]?.getD undef=.slice ad n c:=by
    rw[<-yB]
    rcases W.o.a.2 with ⟨e,_⟩|⟨_,_,_,e,_⟩
    ·exact ⟨_,_,_,e⟩
    ·exact ⟨_,_,_,e⟩
   have S:w'.heap[B4]?=W0.heap[B4]?:=W.o.below.block B4 aj
   have l8:f.getD 8 false=true:=A1 hM.down 20 17 8 (by kernel_rfl) N
   have a8:=yb l8
   obtain ⟨ad,nv,cv,dv⟩:=hv
   have HV:=yb dv
   obtain ⟨u0,R⟩:=ak
   have fz:w'.frozen? (aV B4 0)=false:=by unfold World.frozen?;rw[S,R];rfl
   have c2:w'.cell? (aV B4 0)=some u0:=by simp[World.cell?,S,R]
   have HL:Hid (18 < f.size):=yb (by rw[a0];show 18 < 20;omega)
   clear F G C E A D z y J I nn S R l8 N
   obtain rfl:=yi L
   go_simp
   refine ⟨undef,rfl,⟨fun M=>?_,fun _ O=>?_,fun _ Y=>?_,fun _ _=>⟨w',W.o,?_⟩,fun h=>?_⟩,trivial,trivial⟩
   ·rw[A8 (by decide),a8.o] at M;cases M
   ·rw[A8 (by decide),X.o] at O;cases O
   ·simp[HL.o] at Y
   ·rw[yB];show w'.setCell _ _=w'.setCell _ (a.tmps[49]?.getD undef);rw[HV.o]
   ·rw[A8 (by decide),m.o] at h;cases h
  |19,_=>
   have d:=hM.old x 5 (by kernel_rfl) _ al
   have aa:f.getD 18 false=true:=hM.came x 18 (by kernel_rfl)
   have N:f.getD 17 false=true:=A1 hM.down 20 18 17 (by kernel_rfl) aa
   have nk:=hM.not_yet x
   obtain ⟨w1,hp,a7⟩:=H.o.p18 aa nk
   have W:=yb hp;have au:=yb a7;have X:=yb N;have ao:=yb aa
   have hv:∃ad n c,a.tmps[58]?.getD undef=.slice ad n c:=by
    rw[<-yB]
    rcases W.o.b.2 with ⟨e,_⟩|⟨_,_,_,e,_⟩
    ·exact ⟨_,_,_,e⟩
    ·exact ⟨_,_,_,e⟩
   have S:w'.heap[B5]?=W0.heap[B5]?:=by
    rw[a7,zl _ _ _ _ (fun e=>b5 e.symm)];exact W.o.below.block B5 af
   clear a7 hp
   have l8:f.getD 8 false=true:=A1 hM.down 20 17 8 (by kernel_rfl) N
   have a8:=yb l8
   obtain ⟨ad,nv,cv,dv⟩:=hv
   have HV:=yb dv
   obtain ⟨u0,R⟩:=ah
   have fz:w'.frozen? (aV B5 0)=false:=by unfold World.frozen?;rw[S,R];rfl
   have c2:w'.cell? (aV B5 0)=some u0:=by simp[World.cell?,S,R]
   have HL:Hid (19 < f.size):=yb (by rw[a0];show 19 < 20;omega)
   clear F G C E A D z y J I nn S R l8 N
   obtain rfl:=yi L
   go_simp
   refine ⟨undef,rfl,⟨fun M=>?_,fun _ O=>?_,fun _ Y=>?_,fun _ aw=>?_,fun _=>⟨w1,_,_,W.o,?_⟩⟩,trivial,trivial⟩
   ·rw[A8 (by decide),a8.o] at M;cases M
   ·rw[A8 (by decide),X.o] at O;cases O
   ·rw[A8 (by decide),ao.o] at Y;cases Y
   ·simp[HL.o] at aw
   ·rw[<-au.o,yB];show w'.setCell _ _=w'.setCell _ (a.tmps[58]?.getD undef);rw[HV.o]
 ·intro f a w' an hM
  obtain ⟨w1,v1,v2,hp,rfl⟩:=hM.ext.p19 (an 19 (show 19 < 20 by omega))
  exact hQ a w1 v1 v2 (hM.tmps.trans hz) hM.defers (F8 (lo:=41) (hi:=58) (by kernel_rfl) hM) hp
def Ug(w:World)(h:Aw)(l:List Rf):Prop:=h.n=l.length∧l.length<=140737488355328∧∀i (hi:i < l.length),∃b o,h.a=some ⟨b,o,none⟩∧b < w.heap.size∧w.cell? ⟨b,o+i*2,none⟩=some (.string l[i].name)∧w.cell? ⟨b,o+i*2+1,none⟩=some (.int .i64 l[i].n)
theorem QD{a b:ByteArray}(h:a.toList=b.toList):a=b:=by
 rw[xy,xy] at h
 cases a;cases b;simpa using h
theorem Lv{w:World}{h1 h2:Aw}{b a:List Rf}(r1:Ug w h1 b)(r2:Ug w h2 a):
  Calls Tryz.prog 34 #[h1.v,h2.v] w fun e w'=>e=.returned (.bool (decide (b=a)))∧Below w.heap.size w w':=by
 obtain ⟨a1,n1,c1⟩:=h1
 obtain ⟨T,n2,c2⟩:=h2
 have R1:=yb r1.2.2;have R2:=yb r2.2.2
 have q:=yb r1.1;have r:=yb r2.1
 have L:n1<=140737488355328:=by have:=r1.1;have:=r1.2.1;simp only at*;omega
 have E:n2<=140737488355328:=by have:=r2.1;have:=r2.2.1;simp only at*;omega
 unfold Aw.v
 simp only at R1 R2 q r ⊢
 clear r1 r2
 by_cases K:n1=n2
 ·subst K
  have B:((n1:Int) !=(n1:Int))=false:=by simp
  go_enter Tryz.func34,Tryz.ntmps34
  go_wp2
  have t:=yb (yg w.heap.size w)
  go_loopw [13] (fun C wr=>∃i:Nat,i<=n1∧C=iV i∧Hid (b.take i=a.take i)∧Hid (Below w.heap.size w wr)) (fun C _=>n1 - (intOf C).toNat)
  case atStart=>exact ⟨0,yI _,rfl,yb (by simp),t⟩
  case round=>
   obtain ⟨i,hi,rfl,I,c⟩:=hrel
   by_cases n:i < n1
   ·have u:(i:Int) < (n1:Int):=by omega
    have l:i < b.length:=by rw[<-q.o];exact n
    have k:i < a.length:=by rw[<-r.o];exact n
    obtain ⟨b1,o1,rfl,j,F,x⟩:=R1.o i l
    obtain ⟨b2,o2,rfl,f,z,A⟩:=R2.o i k
    have m:Hid (b[i]=a[i]->b.take (i+1)=a.take (i+1)):=yb (fun e=>by
     rw[yF l,yF k,I.o,e])
    have g:Hid (b[i]≠a[i]->decide (b=a)=false):=yb (fun e=>xw (fun h=>e (by subst h;rfl)))
    generalize b[i]=Q at F x m g
    generalize a[i]=S at z A m g
    obtain ⟨m1,G⟩:=Q
    obtain ⟨s,J⟩:=S
    have R:wr.cell? (aV b1 (o1+i*2))=some (.string m1):=(c.o.cell (p:=(aV b1 _)) j).trans F
    have N:wr.cell? (aV b1 (o1+i*2+1))=some (iV G):=(c.o.cell (p:=(aV b1 _)) j).trans x
    have P:wr.cell? (aV b2 (o2+i*2))=some (.string s):=(c.o.cell (p:=(aV b2 _)) f).trans z
    have M:wr.cell? (aV b2 (o2+i*2+1))=some (iV J):=(c.o.cell (p:=(aV b2 _)) f).trans A
    clear F x z A l k j f
    by_cases D:m1.toList=s.toList
    ·obtain rfl:m1=s:=QD D
     clear D
     by_cases H:G=J
     ·subst H
      have y:=yb (m.o rfl)
      clear m g
      go_wp2_with fail
      go_region
      go_wp2
      exact ⟨⟨i+1,by omega,by push_cast;rfl,y,yb c.o.drew⟩,by simp[intOf];omega⟩
     ·have d:=yb (g.o (fun h=>H (Rf.mk.inj h).2))
      clear m g
      go_wp2_with fail
      go_region
      go_wp2
      go_ret
      exact ⟨by rw[d.o];rfl,c.o.drew⟩
    ·have d:=yb (g.o (fun h=>D (by rw[(Rf.mk.inj h).1])))
     clear m g
     go_wp2_with fail
     go_region
     go_wp2
     go_ret
     exact ⟨by rw[d.o];rfl,c.o.drew⟩
   ·obtain rfl:i=n1:=by omega
    have u:decide ((i:Int) < (i:Int))=false:=by simp
    go_wp2
    go_ret
    have O:b=a:=by
     have h1:=I.o
     rw[q.o,yS,<-q.o,r.o,yS] at h1
     exact h1
    exact ⟨by rw[xq O];rfl,c.o⟩
 ·have B:((n1:Int) !=(n2:Int))=true:=by simp;omega
  go_enter Tryz.func34,Tryz.ntmps34
  go_wp2
  go_ret
  exact ⟨by rw[xw (fun h=>K (by rw[q.o,r.o,h]))];rfl,yg _ _⟩
structure Ds (W0:World) (Bx:Nat) (l:List Rf) (O:Nat->Prop) (V:World):Prop where
 grown:W0.grownBy V (some Bx)
 ownO:∀b,O b->W0.heap.size<=b
 row:∃v,V.heap[Bx]?=some (.cells #[v] 81 (0,0))∧CA W0.heap.size V v l∧∀g,v.ownBlock=some g->¬ O g
section
variable{W0 V w1:World}{Bx:Nat}{l:List Rf}{O:NP}
theorem Ds.stays(t:Bx < W0.heap.size)(f:Nat->List Rf):Cd (fun k=>Ds W0 Bx (f k)):=by
 intro k O W u W' h q p s r d n
 obtain ⟨v,r1,r2,o⟩:=h.row
 have c:=h.grown.size
 have l:W'.heap[Bx]?=W.heap[Bx]?:=d Bx (fun hb=>by have:=h.ownO Bx hb;omega) (by omega)
 refine ⟨⟨p.trans h.grown.os,s.trans h.grown.tape,r.trans h.grown.output,yu c q,fun b hb j=>(d b (fun m=>by have:=h.ownO b m;omega) (by omega)).trans (h.grown.block b hb j)⟩,fun b hb=>?_,v,l.trans r1,r2.up (fun g a i=>d g (o g a) i),fun g a e=>?_⟩
 ·rcases n b hb with h1|h1
  ·exact h.ownO b h1
  ·omega
 ·rcases n g e with h1|h1
  ·exact o g a h1
  ·have:=(r2.lt a).2;omega
theorem Ds.same(h:Ds W0 Bx l O V){b:Nat}(hb:b < W0.heap.size)(a:b≠Bx):V.heap[b]?=W0.heap[b]?:=h.grown.block b hb (fun e=>a (yi e))
theorem Ds.start(W0:World)(hb:W0.heap[Bx]?=some (.cells #[.slice none 0 0] 81 (0,0))):Ds W0 Bx [] (fun _=>False) W0:=
 ⟨⟨rfl,rfl,rfl,yf _,fun _ _ _=>rfl⟩,fun _ h=>h.elim,_,hb,SH _ _,fun g a=>by cases a⟩
theorem Ds.put(h:Ds W0 Bx l O V)(y:Bx < W0.heap.size)(p:∀b,O b->b < V.heap.size){va v:Value}{r:Rf}(m:V.cell? ⟨Bx,0,none⟩=some va)(d:Uf V W0.heap.size va l r w1 v):Ds W0 Bx (l++[r]) O (w1.setCell ⟨Bx,0,none⟩ v)∧AN O V (w1.setCell ⟨Bx,0,none⟩ v):=by
 obtain ⟨q,r1,r2,s⟩:=h.row
 obtain rfl:va=q:=by
  have e:V.cell? (aV Bx 0)=some q:=by simp[World.cell?,r1]
  rw[m] at e;exact yi e
 have f:∀g,va.ownBlock=some g->W0.heap.size<=g:=fun g i=>(r2.lt i).1
 have o:w1.heap[Bx]?=V.heap[Bx]?:=d.grown.block Bx (by have:=h.grown.size;omega) (fun e=>by have:=f _ e.symm;omega)
 have x:=h.grown.size
 have u:=d.grown.size
 have j:∀b,b≠Bx->(w1.setCell (aV Bx 0) v).heap[b]?=w1.heap[b]?:=fun b c=>zl _ _ _ _ c
 have a:∀b,b≠Bx->b < V.heap.size->va.ownBlock≠some b->(w1.setCell (aV Bx 0) v).heap[b]?=V.heap[b]?:=fun b c n w=>(j b c).trans (d.grown.block b n (fun e=>w e.symm))
 refine ⟨⟨⟨d.grown.os.trans h.grown.os,d.grown.tape.trans h.grown.tape,d.grown.output.trans h.grown.output,by simp;omega,fun b hb c=>?_⟩,h.ownO,v,?_,d.own.up (fun g i _=>j g (fun e=>by have:=(d.own.lt i).1;omega)),fun g i k=>?_⟩,by simp;omega,fun b hb=>?_⟩
 ·rw[a b (fun e=>c (by rw[e])) (by omega) (fun e=>by have:=f _ e;omega)]
  exact h.grown.block b hb c
 ·have:=zr w1 Bx 0 #[va] 81 v (o.trans r1)
  rw[this];rfl
 ·rcases d.blk with e|⟨z,e,t⟩
  ·rw[e] at i;exact s g i k
  ·rw[e] at i;cases i
   have:=p g k;omega
 ·exact a b (fun e=>by have:=h.ownO b hb;omega) (p b hb) (fun e=>s b e hb)
end
section
variable{f:Int->Ex->Ex}{g:Int->Rf->Rf}
def QE(f:Int->Ex->Ex)(e:Kc):Kc:=(f e.2 e.1,e.2)
theorem Cf{α β:Type}(F:Nat->α->β)(l:List α):(l.mapIdx F).zipIdx=l.zipIdx.map fun p=>(F p.2 p.1,p.2):=by
 apply xB
 ·simp
 ·intro i h1 h2;simp
theorem Uh(l:List F9):Ff (l.mapIdx (F9.mp f))=(Ff l).map (QE f):=by
 unfold Ff;rw[Cf,zI,xk];rfl
theorem SI(l:List DO):H9 (l.mapIdx (DO.mp f))=(H9 l).map (QE f):=by
 unfold H9;rw[Cf,zI,xk];rfl
theorem P4(l:List AE):EH (l.mapIdx (AE.mp f g))=(EH l).map (QE f):=by
 unfold EH;rw[Cf,zI,xk];rfl
theorem SJ(l:List CY):Ha (l.mapIdx (CY.mp f g))=(Ha l).map (QE f):=by
 unfold Ha;rw[Cf,zI,xk];rfl
theorem SK(l:List Cs):Ek (l.mapIdx (Cs.mp f g))=(Ek l).map (QE f):=by
 unfold Ek;rw[Cf,zI,xk];rfl
theorem Ui(l:List BG):IT (l.mapIdx (BG.mp f g))=(IT l).map (QE f):=by
 unfold IT;rw[Cf,zI,xk]
 congr 1
 funext p
 rw[zC,<-SK (g:=g)]
 rfl
theorem QF(l:List AZ):FB (l.mapIdx (AZ.mp f g))=(FB l).map (QE f):=by
 unfold FB;rw[Cf,zI,xk];rfl
theorem QG(l:List D9):FC (l.mapIdx (D9.mp f g))=(FC l).map (QE f):=by
 unfold FC;rw[Cf,zI,xk];rfl
theorem NJ(x:Ar):As (x.mp f g)=(As x).map (QE f):=by
 unfold As Ar.mp
 simp only[zC,<-Uh,<-SI,<-P4 (g:=g),<-SJ (g:=g),<-Ui (g:=g),<-QF (g:=g),<-QG (g:=g)]
 rfl
theorem DN{α β:Type}{F:Nat->α->β}{l:List α}{p:β->Bool}{q:α->Bool}(h:l.all q=true)(a:∀i d,q d=true->p (F i d)=true):(l.mapIdx F).all p=true:=by
 rw[yW] at h ⊢
 intro b hb
 obtain ⟨i,hi,rfl⟩:=zc.1 hb
 rw[List.getElem_mapIdx]
 exact a i _ (h _ (yJ _))
end
section
variable{t:Tb}
theorem K5(l:List Ex):(GO t l).length=l.length:=by rw[Nt];simp
mutual
theorem Lw:∀e:Ex,At (IB t e)=At e
 |.mk op n u rn ri args=>by rw[IB,At,At,Lx args]
theorem Lx:∀l:List Ex,AW (GO t l)=AW l
 |[]=>rfl
 |e::r=>by rw[GO,AW,AW,Lw e,Lx r]
end
theorem N6(e:Ex):Bv (IB t e)=Bv e:=by
 cases e with
 |mk op n u rn ri args=>
  rw[IB]
  unfold Bv DC
  simp only[Ex.op,Ex.n,Ex.u,Ex.rn,Ex.ri,Ex.args,K5]
  by_cases h:op=2
  ·subst h;simp
  ·rw[yq h];rfl
theorem Hh{to at_:Int}{r:Rf}(h:Kg t to at_ r=true):Kg t to at_ (gT t to r)=true:=by
 unfold gT
 by_cases h0:to=0
 ·rw[yw h0];exact h
 ·rw[yq h0]
  unfold Kg at h ⊢
  rw[yq h0] at h ⊢
  exact h
theorem Xe{to at_:Int}{rn:ByteArray}{ri rj:Int}(h0:to≠0):Kg t to at_ ⟨rn,ri⟩=Kg t to at_ ⟨rn,rj⟩:=by
 unfold Kg;rw[yq h0,yq h0]
mutual
theorem RO(lt:Int):∀e:Ex,Rs t lt (IB t e)=Rs t lt e
 |.mk op n u rn ri args=>by
  rw[IB,Rs,Rs,K5,RP lt args]
  by_cases h:op=2
  ·rw[yw h,Xe (rj:=ri) (by unfold M6;rw[yw h];split<;>decide)]
  ·rw[yq h]
theorem RP(lt:Int):∀l:List Ex,Qp t lt (GO t l)=Qp t lt l
 |[]=>rfl
 |e::r=>by rw[GO,Qp,Qp,RO lt e,RP lt r]
end
theorem Vx(e:Kc):JV t (QE (fT t) e)=JV t e:=by
 unfold JV QE fT
 simp only
 by_cases h:Bv e.1=true
 ·simp[h]
 ·rw[yq h,N6,RO]
theorem Uj(lt:Int)(e:Ex):At (fT t lt e)=At e:=by
 unfold fT;split
 ·rfl
 ·exact Lw e
theorem N7{x:Ar}(h:Ci t x=true):Ci t (x.mp (fT t) (gT t))=true:=by
 unfold Ci at h ⊢
 simp only[yE] at h ⊢
 obtain ⟨h1,h2,h3,f,c,b⟩:=h
 refine ⟨?_,?_,?_,?_,?_,?_⟩
 ·rw[NJ,List.all_map]
  rw[yW] at h1 ⊢
  intro e a
  have:=h1 e a
  simp only[Function.comp,Vx];exact this
 ·unfold Ca at h2 ⊢
  exact DN h2 fun _ _ h=>h
 ·refine DN h3 fun i d h=>?_
  unfold Nu at h ⊢
  simp only[yE] at h ⊢
  exact ⟨Hh h.1,Hh h.2⟩
 ·refine DN f fun i d h=>?_
  unfold Ru at h ⊢
  simp only[yE] at h ⊢
  exact ⟨Hh h.1,DN h.2 fun _ _ h=>Hh h⟩
 ·refine DN c fun i d h=>?_
  unfold Kz at h ⊢
  simp only[yE] at h ⊢
  exact ⟨Hh h.1,Hh h.2⟩
 ·refine DN b fun i d h=>?_
  unfold Nv at h ⊢
  simp only[yE] at h ⊢
  exact ⟨Hh h.1,Hh h.2⟩
theorem RQ{x:Ar}(h:Bn x=true):Bn (x.mp (fT t) (gT t))=true:=by
 unfold Bn at h ⊢
 simp only[yE] at h ⊢
 obtain ⟨h1,h2,h3⟩:=h
 refine ⟨?_,?_,?_⟩
 ·unfold JT at h1 ⊢
  simpa[Ar.mp] using h1
 ·unfold G4 at h2 ⊢
  refine DN h2 fun i d h=>?_
  simpa[BG.mp] using h
 ·unfold Em at h3 ⊢
  rw[NJ,List.all_map]
  rw[yW] at h3 ⊢
  intro e a
  simpa[QE,Uj] using h3 e a
end
theorem Fq{x:Ar}(h:AF x=0):Bn x=true∧Cx x=true∧EY x∧CU (Tb.of x) x=true∧Ci (Tb.of x) x=true:=by
 unfold AF at h
 by_cases h1:Bn x=true
 ·rw[yw h1] at h
  by_cases h2:Cx x=true
  ·rw[yw h2] at h
   by_cases h3:EY x
   ·rw[yw h3] at h
    by_cases a:(CU (Tb.of x) x&&Ci (Tb.of x) x)=true
    ·rw[yE] at a;exact ⟨h1,h2,h3,a⟩
    ·rw[yq a] at h;cases h
   ·rw[yq h3] at h;cases h
  ·rw[yq h2] at h;cases h
 ·rw[yq h1] at h;cases h
theorem Hi(x:Ar):(Ah x).reaches.length=x.reaches.length:=by unfold Ah Ar.mp;simp
structure CW (W:World) (s top:Nat) (x:Ar) (L:Bt) (cs:List Value) (N:Nat->Prop):Prop where
 src:BH N W L cs x
 at0:L.s=s
 range:W.rangeAt s 0 cs
 lt:∀b,Wk N s b->b < top
section
variable{W W':World}{s top:Nat}{x:Ar}{L:Bt}{cs:LV}{N:NP}
theorem CW.up(h:CW W s top x L cs N)(hb:∀b,b < top->W'.heap[b]?=W.heap[b]?):CW W' s top x L cs N:=
 ⟨h.src.same (fun _ h=>h) (fun b hN=>hb b (h.lt b (.inr hN))),h.at0,A0 h.range (hb s (h.lt s (.inl rfl))),h.lt⟩
theorem CW.head(h:CW W s top x L cs N):W.cell? ⟨s,21,none⟩=some (.slice L.reaches.a L.reaches.n L.reaches.c):=by
 have:=h.range 21 _ h.src.at.reaches
 rw[yy] at this;exact this
theorem CW.frm(h:CW W s top x L cs N){i:Nat}(hi:i < x.reaches.length):∃b o,L.reaches.a=some ⟨b,o,none⟩∧b < top∧W.cell? ⟨b,o+i*51+1,none⟩=some (.string x.reaches[i].frm.name)∧W.cell? ⟨b,o+i*51+1+1,none⟩=some (.int .i64 x.reaches[i].frm.n):=by
 obtain ⟨b,o,c,g1,e,f,d,_,_,c0,c1,c2,c3,c4,c5,c6,c7,rfl,_⟩:=h.src.reaches.2.2 i hi
 exact ⟨b,o,g1,h.lt b (.inr e),d 1 _ rfl,d 2 _ rfl⟩
end
structure RR (Q:Exit->Act->World->Prop) (w:World) (x:Ar):Prop where
 early:∀(c:Int) tm W,tm.getD 2 undef=.int .i64 c->Below w.heap.size w W->Bq x=c->Q .ret {tmps:=tm,defers:=[]} W
 done:∀(c:Int) D1 D2 tm W,tm.getD 2 undef=.int .i64 c->Below w.heap.size w W->Bq x=c->D1≠D2->w.heap.size<=D1->w.heap.size<=D2->W.heap[D1]?=some (.deferred (some []))->W.heap[D2]?=some (.deferred (some []))->Q .ret {tmps:=tm,defers:=[Jw D2,Jw D1]} W
theorem Uk(w:World)(x:Ar):RR (bodyPostM Fence.wide 10 Tryz.prog Tryz.f17 (fun e w'=>e=.returned (.int .i64 (Bq x))∧Below w.heap.size w w')) w x:=by
 have a:∀(tm:Array Value) (c:Int) (W:World),tm.getD 2 undef=.int .i64 c->(results Tryz.f17 tm).run Tryz.prog W=.ok (.int .i64 c) W:=fun tm c W h=>by
  rw[yB] at h
  simp[results,Tryz.results17,h]
 refine ⟨fun c tm W h2 hb i=>?_,fun c D1 l tm W h2 hb i g h1 j d f=>?_⟩
 ·subst i
  exact ⟨_,a tm _ W h2,rfl,hb⟩
 ·subst i
  have k:(W.putObj l (.deferred none)).heap[D1]?=some (.deferred (some [])):=(World.putObj_heap_other g).trans d
  refine ⟨by simp,.inl ⟨_,_,rfl,run_takeDeferred f,⟨by simp,.inl ⟨_,_,rfl,run_takeDeferred k,⟨_,a tm _ _ h2,rfl,hb.trans ⟨rfl,rfl,rfl,by simp,fun b hb=>?_⟩⟩⟩⟩⟩⟩
  rw[World.putObj_heap_other (by omega),World.putObj_heap_other (by omega)]
structure EP (V:World) (base B4 B5:Nat) (la lb:List Rf) (wr:World):Prop where
 os:wr.os=V.os
 tape:wr.tape=V.tape
 output:wr.output=V.output
 size:V.heap.size<=wr.heap.size
 low:base<=V.heap.size
 keep:∀(k:Nat) (o:Obj),k≠B4->k≠B5->V.heap[k]?=some o->(∀c f,o≠Obj.cells c 23 f)->wr.heap[k]?=some o
 block:∀b,b < base->b≠B4->b≠B5->wr.heap[b]?=V.heap[b]?
 rows:∃va vb,wr.heap[B4]?=some (.cells #[va] 81 (0,0))∧wr.heap[B5]?=some (.cells #[vb] 81 (0,0))∧Mk wr base wr va la vb lb
theorem EP.put{V wr w1:World}{base B4 B5:Nat}{la lb:List Rf}(h:EP V base B4 B5 la lb wr)(w:B4 < base)(s:B5 < base)(m:B4≠B5){v1 v2:Value}{r1 r2:Rf}(c:Mk wr base w1 v1 (la++[r1]) v2 (lb++[r2])):EP V base B4 B5 (la++[r1]) (lb++[r2]) ((w1.setCell ⟨B4,0,none⟩ v1).setCell ⟨B5,0,none⟩ v2):=by
 obtain ⟨va,vb,r,u,z⟩:=h.rows
 have x:w1.heap[B4]?=some (.cells #[va] 81 (0,0)):=(c.below.block B4 w).trans r
 have y:w1.heap[B5]?=some (.cells #[vb] 81 (0,0)):=(c.below.block B5 s).trans u
 have d:∀b,b≠B4->b≠B5->((w1.setCell ⟨B4,0,none⟩ v1).setCell ⟨B5,0,none⟩ v2).heap[b]?=w1.heap[b]?:=fun b i f=>(zl _ _ _ _ f).trans (zl _ _ _ _ i)
 have p:∀ {v:Value} {l:List Rf},CA base w1 v l->CA base ((w1.setCell ⟨B4,0,none⟩ v1).setCell ⟨B5,0,none⟩ v2) v l:=fun n=>n.up (fun g t _=>by
  have:=(n.lt t).1
  exact d g (by omega) (by omega))
 have j:((w1.setCell ⟨B4,0,none⟩ v1).setCell ⟨B5,0,none⟩ v2).heap.size=w1.heap.size:=by simp
 refine ⟨c.below.os.trans h.os,c.below.tape.trans h.tape,c.below.output.trans h.output,by rw[j];exact yu h.size c.below.size,h.low,fun k o i f n q=>(d k i f).trans (c.keep k o (h.keep k o i f n q) q),fun b hb i f=>?_,v1,v2,?_,?_,yg _ _,by rw[j];exact c.size,p c.a,p c.b,c.apart,fun _ _ h _=>h⟩
 ·rw[d b i f,c.below.block b hb];exact h.block b hb i f
 ·rw[zl _ _ _ _ m,zr w1 B4 0 #[va] 81 v1 x];rfl
 ·have e:(w1.setCell ⟨B4,0,none⟩ v1).heap[B5]?=some (.cells #[vb] 81 (0,0)):=(zl _ _ _ _ (fun e=>m e.symm)).trans y
  rw[zr (w1.setCell ⟨B4,0,none⟩ v1) B5 0 #[vb] 81 v2 e];rfl
theorem EP.drew{V wr:World}{base B4 B5:Nat}{la lb:List Rf}(h:EP V base B4 B5 la lb wr):EP V base B4 B5 la lb wr.drew:=by
 obtain ⟨va,vb,d,e,c⟩:=h.rows
 exact ⟨h.os,h.tape,h.output,h.size,h.low,h.keep,h.block,va,vb,d,e,yg _ _,c.size,c.a,c.b,c.apart,fun _ _ h _=>h⟩
theorem CA.rf{B:Nat}{w:World}{v:Value}{l:List Rf}(h:CA B w v l)(c:l.length<=1000000000):∃h:Aw,v=h.v∧Ug w h l:=by
 obtain ⟨h1,⟨rfl,h2⟩|⟨g,cap,o,rfl,q,d,y,s,t,k⟩⟩:=h
 ·obtain rfl:=zv.1 h2
  exact ⟨⟨none,0,0⟩,rfl,rfl,by simp,fun i hi=>absurd hi (by simp)⟩
 ·have f:∀j u,(l.flatMap AU)[j]?=some u->w.cell? ⟨g,j,none⟩=some u:=by
   intro j u a
   rw[<-k] at a
   have b:=(yx.1 a).1
   rw[zg] at b
   rw[xg,yw (by omega)] at a
   simp only[World.cell?,d]
   simpa using a
  have m:∀(l:List Rf) (i:Nat) (hi:i < l.length),(l.flatMap AU)[i*2]?=some (.string l[i].name)∧(l.flatMap AU)[i*2+1]?=some (.int .i64 l[i].n):=by
   intro l
   induction l with
   |nil=>intro i hi;simp at hi
   |cons x r ih=>
    intro i hi
    cases i with
    |zero=>exact ⟨rfl,rfl⟩
    |succ i=>
     have:=ih i (by simpa using hi)
     have e:((x::r).flatMap AU)=AU x++r.flatMap AU:=rfl
     rw[e,yN (by simp[AU];omega),yN (by simp[AU];omega)]
     have c:(AU x).length=2:=rfl
     rw[c,show (i+1)*2 - 2=i*2 by omega,show (i+1)*2+1 - 2=i*2+1 by omega]
     exact this
  refine ⟨⟨some ⟨g,0,none⟩,l.length,cap⟩,rfl,rfl,by omega,fun i hi=>?_⟩
  obtain ⟨p,g1⟩:=m l i hi
  refine ⟨g,0,rfl,(yd.1 d).1,?_,?_⟩
  ·rw[yy];exact f _ _ p
  ·rw[yy];exact f _ _ g1
theorem Ib{α:Type}{l:List α}{i:Nat}{a:α}(h:l[i]?=some a):l.take i++[a]=l.take (i+1):=by
 rw[List.take_add_one,h];rfl
theorem Xf{Q:QT}{w V:World}{x:Ar}{L1 L2:Bt}{ao au:LV}{N1 N2:NP}{base B3 B4 B5 D1 D:Nat}(hQ:RR Q w x)(hw:AF x=0)
 (h1:CW V w.heap.size B4 x L1 ao N1)(h2:CW V B3 B4 (Ah x) L2 au N2)(af:B4 < B5)(h5:B5 < base)(hb:Below w.heap.size w V)(hL:EP V base B4 B5 (AP x) (AP (Ah x)) V)
 (hD:D1≠D∧w.heap.size<=D1∧w.heap.size<=D)(p:V.heap[D1]?=some (.deferred (some [])))(m:V.heap[D]?=some (.deferred (some [])))(G:(Cl x).length<=900000000)(r:(Cl (Ah x)).length<=900000000)
 (u0 u6 u7 u8 u9 u10 u11 u12 u13 u14 u15 u16 u17 u18 u19 u20 u21 u22 u23 u24 u25 u26 u27 u28 u29 u30 u31 u32 u33 u34 u35 u36 u37 u38 u39 u40 u41 u42 u43 u44 u45 u46 u47 u48 u49 u50 u51 u52 u53 u54 u55 u56 u57 u58 u59 u60 u61 u62 u63:Value):
  FQ 17 Tryz.prog (Gf 6 (Tryz.f17.body.getD .skip)) Q {tmps:=#[u0,.pointer (some ⟨w.heap.size,0,none⟩),.int .i64 0,.pointer (some ⟨B3,0,none⟩),.pointer (some ⟨B4,0,none⟩),.pointer (some ⟨B5,0,none⟩),u6,u7,u8,u9,u10,u11,u12,u13,u14,u15,u16,u17,u18,u19,u20,u21,u22,u23,u24,u25,u26,u27,u28,u29,u30,u31,u32,u33,u34,u35,u36,u37,u38,u39,u40,u41,u42,u43,u44,u45,u46,u47,u48,u49,u50,u51,u52,u53,u54,u55,u56,u57,u58,u59,u60,u61,u62,u63],defers:=[Jw D,Jw D1]} V:=by
 have J:w.heap.size < B4:=h1.lt _ (.inl rfl)
 have F:B3 < B4:=h2.lt _ (.inl rfl)
 have I:=hL.low
 have l:Hid (∀la lb wr,EP V base B4 B5 la lb wr->∀b,b < B4->wr.heap[b]?=V.heap[b]?):=yb (fun la lb wr h b hb=>h.block b (by omega) (by omega) (by omega))
 have g:Hid (∀la lb wr,EP V base B4 B5 la lb wr->wr.heap[D1]?=some (.deferred (some []))∧wr.heap[D]?=some (.deferred (some []))):=yb (fun la lb wr h=>by
  obtain ⟨va,vb,r4,r5,_⟩:=hL.rows
  exact ⟨h.keep D1 _ (fun e=>by rw[e,r4] at p;cases p) (fun e=>by rw[e,r5] at p;cases p) p (fun _ _ e=>by cases e),h.keep D _ (fun e=>by rw[e,r4] at m;cases m) (fun e=>by rw[e,r5] at m;cases m) m (fun _ _ e=>by cases e)⟩)
 have C:Hid (∀la lb wr,EP V base B4 B5 la lb wr->Below w.heap.size w wr):=yb (fun la lb wr h=>hb.trans ⟨h.os,h.tape,h.output,h.size,fun b L=>h.block b (by omega) (by omega) (by omega)⟩)
 have hc:=h1.head
 have R:=yb h2.head
 have K:Hid (∀i (hi:i < x.reaches.length),∃b o,L1.reaches.a=some ⟨b,o,none⟩∧b < B4∧V.cell? ⟨b,o+i*51+1,none⟩=some (.string x.reaches[i].frm.name)∧V.cell? ⟨b,o+i*51+1+1,none⟩=some (.int .i64 x.reaches[i].frm.n)):=yb (fun i hi=>h1.frm hi)
 have O:Hid (∀i (hi:i < (Ah x).reaches.length),∃b o,L2.reaches.a=some ⟨b,o,none⟩∧b < B4∧V.cell? ⟨b,o+i*51+1,none⟩=some (.string (Ah x).reaches[i].frm.name)∧V.cell? ⟨b,o+i*51+1+1,none⟩=some (.int .i64 (Ah x).reaches[i].frm.n)):=yb (fun i hi=>h2.frm hi)
 have s:Hid (L1.reaches.n=x.reaches.length):=yb h1.src.reaches.1
 have T:Hid (L2.reaches.n=x.reaches.length):=yb (h2.src.reaches.1.trans (Hi x))
 have H:L1.reaches.n<=140737488355328:=by rw[s.o];exact h1.src.reaches.2.1
 have P:=yb hc
 have HQ:=yb hQ
 have c:Hid (w.heap.size < B4∧B3 < B4∧B4 < B5∧B5 < base∧base<=V.heap.size):=yb ⟨J,F,af,h5,I⟩
 have Y:=yb hD
 have E:=yb G;have u:=yb r
 have HC:Hid (Bq x=if Cl x=Cl (Ah x) then 0 else 170):=yb (by unfold Bq;rw[yw hw])
 have a8:Hid (EP V base B4 B5 (AP x++(x.reaches.map fun d:AE=>d.frm).take 0) (AP (Ah x)++((Ah x).reaches.map fun d:AE=>d.frm).take 0) V):=yb (by rw[zY,zY,yU,yU];exact hL)
 generalize L1.reaches=ah at hc K s H P
 obtain ⟨ra,rn,rc⟩:=ah
 generalize L2.reaches=an at R O T
 obtain ⟨S,a6,al⟩:=an
 simp only at hc K s H P R O T
 clear hQ hw h1 h2 af h5 hb hL hD p m G r J F I
 unfold Jw
 refine A9 (A4 ?_)
 go_wp2
 clear hc
 go_loopw [38] (fun iv wr=>∃i:Nat,iv=.int .i64 i∧i<=rn∧Hid (EP V base B4 B5 (AP x++(x.reaches.map fun d:AE=>d.frm).take i) (AP (Ah x)++((Ah x).reaches.map fun d:AE=>d.frm).take i) wr)) (fun iv _=>rn - (intOf iv).toNat)
 case atStart=>exact ⟨0,rfl,yI _,a8⟩
 case round=>
  clear a8
  obtain ⟨i,rfl,hi,A⟩:=hrel
  by_cases L:i < rn
  ·have aj:(i:Int) < (rn:Int):=by omega
   have z:i < x.reaches.length:=by rw[<-s.o];exact L
   have N:i < (Ah x).reaches.length:=by rw[Hi];exact z
   obtain ⟨b1,o1,rfl,g1,x1,y1⟩:=K.o i z
   obtain ⟨b2,o2,rfl,g2,x2,y2⟩:=O.o i N
   have ad:(x.reaches.map fun d:AE=>d.frm)[i]?=some x.reaches[i].frm:=by simp[z]
   have a7:((Ah x).reaches.map fun d:AE=>d.frm)[i]?=some (Ah x).reaches[i].frm:=by simp[N]
   have j:Hid (∀wr,EP V base B4 B5 ((AP x++(x.reaches.map fun d:AE=>d.frm).take i)++[x.reaches[i].frm]) ((AP (Ah x)++((Ah x).reaches.map fun d:AE=>d.frm).take i)++[(Ah x).reaches[i].frm]) wr->EP V base B4 B5 (AP x++(x.reaches.map fun d:AE=>d.frm).take (i+1)) (AP (Ah x)++((Ah x).reaches.map fun d:AE=>d.frm).take (i+1)) wr):=yb (fun wr h=>by
    rw[yG,yG] at h
    rw[Ib ad,Ib a7] at h
    exact h)
   have aq:Hid ((AP x++(x.reaches.map fun d:AE=>d.frm).take i).length+1<=1000000000):=yb (by
    have:=E.o
    unfold Cl at this
    simp only[yn,zg,yV] at this ⊢
    omega)
   have ag:Hid ((AP (Ah x)++((Ah x).reaches.map fun d:AE=>d.frm).take i).length+1<=1000000000):=yb (by
    have:=u.o
    unfold Cl at this
    simp only[yn,zg,yV] at this ⊢
    omega)
   generalize x.reaches[i].frm=r1 at x1 y1 j
   generalize (Ah x).reaches[i].frm=r2 at x2 y2 j
   obtain ⟨va,vb,q4,q5,W⟩:=A.o.rows
   have HT:=yb W;have ab:=yb q4;have Z:=yb q5
   have ap:Hid (wr.cell? ⟨b1,o1+i*51+1,none⟩=some (.string r1.name)):=yb ((Ac (l.o _ _ _ A.o b1 g1)).trans x1)
   have ai:Hid (wr.cell? ⟨b1,o1+i*51+1+1,none⟩=some (.int .i64 r1.n)):=yb ((Ac (l.o _ _ _ A.o b1 g1)).trans y1)
   have am:Hid (wr.cell? ⟨b2,o2+i*51+1,none⟩=some (.string r2.name)):=yb ((Ac (l.o _ _ _ A.o b2 g2)).trans x2)
   have ar:Hid (wr.cell? ⟨b2,o2+i*51+1+1,none⟩=some (.int .i64 r2.n)):=yb ((Ac (l.o _ _ _ A.o b2 g2)).trans y2)
   have HG:Hid (b1 < B4∧b2 < B4∧i < rn∧i < a6):=yb ⟨g1,g2,L,by rw[T.o];exact z⟩
   clear z N x1 y1 x2 y2 ad a7 q4 q5 W g1 g2
   go_wp2_with fail
   refine Xd (base:=base) (B:=w.heap.size) (B3:=B3) (B4:=B4) (B5:=B5) (b1:=b1) (o1:=o1) (n1:=rn) (c1:=rc) (b2:=b2) (o2:=o2) (n2:=a6) (c2:=al) (i:=i) (va:=va) (vb:=vb) (la:=AP x++(x.reaches.map fun d:AE=>d.frm).take i) (lb:=AP (Ah x)++((Ah x).reaches.map fun d:AE=>d.frm).take i) (r1:=r1) (r2:=r2) _ ?_ ?_ ?_ ?_ ?_ ?_ ?_ ?_ ?_ ?_ ?_ ?_ ?_ ?_ ?_ ?_ ?_ ?_ ?_ ?_ ?_ ?_ ?_ ?_ ?_ ?_ ?_ ?_ ?_ ?_
   ·rfl
   ·rfl
   ·rfl
   ·rfl
   ·rfl
   ·rfl
   ·rfl
   ·have:=c.o;omega
   ·have:=c.o;omega
   ·have:=c.o;omega
   ·have:=c.o;omega
   ·have:=c.o;have:=HG.o;omega
   ·have:=c.o;have:=HG.o;omega
   ·have:=c.o;omega
   ·exact HG.o.2.2.1
   ·exact HG.o.2.2.2
   ·exact ⟨_,ab.o⟩
   ·exact ⟨_,Z.o⟩
   ·simp[World.cell?,ab.o]
   ·simp[World.cell?,Z.o]
   ·exact (Ac (l.o _ _ _ A.o _ c.o.1)).trans P.o
   ·exact (Ac (l.o _ _ _ A.o _ c.o.2.1)).trans R.o
   ·exact ap.o
   ·exact ai.o
   ·exact am.o
   ·exact ar.o
   ·exact HT.o
   ·exact aq.o
   ·exact ag.o
   ·intro a w1 v1 v2 ac aa ae hp
    have ak:=yb (j.o _ (A.o.put (by have:=c.o;omega) c.o.2.2.2.1 (by have:=c.o;omega) hp))
    obtain ⟨v41,v42,v43,v44,v45,v46,v47,v48,v49,v50,v51,v52,v53,v54,v55,v56,v57,v58,rfl⟩:∃v41 v42 v43 v44 v45 v46 v47 v48 v49 v50 v51 v52 v53 v54 v55 v56 v57 v58:Value,a={tmps:=#[u0,.pointer (some ⟨w.heap.size,0,none⟩),.int .i64 0,.pointer (some ⟨B3,0,none⟩),.pointer (some ⟨B4,0,none⟩),.pointer (some ⟨B5,0,none⟩),u6,u7,.int .i64 i,u9,u10,u11,u12,u13,u14,u15,u16,u17,u18,u19,u20,u21,u22,u23,u24,u25,u26,u27,u28,u29,u30,u31,u32,u33,u34,.pointer (some ⟨w.heap.size,21,none⟩),.slice (some ⟨b1,o1,none⟩) rn rc,.int .i64 rn,.int .i64 i,.bool true,.int .i64 i,v41,v42,v43,v44,v45,v46,v47,v48,v49,v50,v51,v52,v53,v54,v55,v56,v57,v58,u59,u60,u61,u62,u63],defers:=[Jw D,Jw D1]}:=by
     refine ⟨a.tmps.getD 41 undef,a.tmps.getD 42 undef,a.tmps.getD 43 undef,a.tmps.getD 44 undef,a.tmps.getD 45 undef,a.tmps.getD 46 undef,a.tmps.getD 47 undef,a.tmps.getD 48 undef,a.tmps.getD 49 undef,a.tmps.getD 50 undef,a.tmps.getD 51 undef,a.tmps.getD 52 undef,a.tmps.getD 53 undef,a.tmps.getD 54 undef,a.tmps.getD 55 undef,a.tmps.getD 56 undef,a.tmps.getD 57 undef,a.tmps.getD 58 undef,(Gz [41,42,43,44,45,46,47,48,49,50,51,52,53,54,55,56,57,58] (ac.trans rfl) aa (fun t ht=>ae t ?_)).trans (by kernel_rfl)⟩
     simp at ht;omega
    clear ac aa ae hp
    unfold Jw
    go_wp2
    exact ⟨⟨i+1,by push_cast;rfl,by omega,ak⟩,by simp[intOf];omega⟩
  ·obtain rfl:i=rn:=by omega
   have aj:decide ((i:Int) < (i:Int))=false:=by simp
   have f:Hid (EP V base B4 B5 (Cl x) (Cl (Ah x)) wr):=yb (by
    have h:=A.o
    rw[s.o] at h
    have e1:(x.reaches.map fun d:AE=>d.frm).take x.reaches.length=x.reaches.map fun d:AE=>d.frm:=by
     rw[qc (by simp)]
    have e2:((Ah x).reaches.map fun d:AE=>d.frm).take x.reaches.length=(Ah x).reaches.map fun d:AE=>d.frm:=by
     rw[qc (by rw[yV,Hi];exact yf _)]
    rw[e1,e2] at h
    exact h)
   obtain ⟨va,vb,q4,q5,W⟩:=f.o.rows
   obtain ⟨⟨a1,n1,k1⟩,ea,a0⟩:=W.a.rf (by have:=E.o;omega)
   obtain ⟨⟨a2,n2,k2⟩,eb,S⟩:=W.b.rf (by have:=u.o;omega)
   unfold Aw.v at ea eb
   simp only at ea eb
   subst ea eb
   have RA:=yb a0;have RB:=yb S
   have c4:wr.cell? ⟨B4,0,none⟩=some (.slice a1 n1 k1):=by simp[World.cell?,q4]
   have c5:wr.cell? ⟨B5,0,none⟩=some (.slice a2 n2 k2):=by simp[World.cell?,q5]
   clear q4 q5 W a0 S A
   go_wp2
   by_cases X:Cl x=Cl (Ah x)
   ·have U:Hid (decide (Cl x=Cl (Ah x))=true):=yb (xq X)
    have M:Hid (Bq x=0):=yb (by rw[HC.o,yw X])
    clear X
    refine A9 (A4 ?_)
    go_wp2_with (first|(go_at_call 34;refine (Lv (h1:=⟨a1,n1,k1⟩) (h2:=⟨a2,n2,k2⟩) RA.o RB.o).mono ?_;rintro e w5 ⟨y,q⟩;rw[U.o] at y;subst y;have k:=yb q;clear q))
    refine A4 ?_
    go_wp2
    exact HQ.o.done 0 D1 D _ _ rfl ((C.o _ _ _ f.o).trans (k.o.mono (C.o _ _ _ f.o).size)) M.o Y.o.1 Y.o.2.1 Y.o.2.2 ((k.o.block _ (yd.1 (g.o _ _ _ f.o).1).1).trans (g.o _ _ _ f.o).1) ((k.o.block _ (yd.1 (g.o _ _ _ f.o).2).1).trans (g.o _ _ _ f.o).2)
   ·have U:Hid (decide (Cl x=Cl (Ah x))=false):=yb (xw X)
    have M:Hid (Bq x=170):=yb (by rw[HC.o,yq X])
    clear X
    refine A9 (A4 ?_)
    go_wp2_with (first|(go_at_call 34;refine (Lv (h1:=⟨a1,n1,k1⟩) (h2:=⟨a2,n2,k2⟩) RA.o RB.o).mono ?_;rintro e w5 ⟨y,q⟩;rw[U.o] at y;subst y;have k:=yb q;clear q))
    exact HQ.o.done 170 D1 D _ _ rfl ((C.o _ _ _ f.o).trans (k.o.mono (C.o _ _ _ f.o).size)) M.o Y.o.1 Y.o.2.1 Y.o.2.2 ((k.o.block _ (yd.1 (g.o _ _ _ f.o).1).1).trans (g.o _ _ _ f.o).1) ((k.o.block _ (yd.1 (g.o _ _ _ f.o).2).1).trans (g.o _ _ _ f.o).2)
end Go.Proofs.YtjofgpfocadomaaGreatDoor
namespace Go.Proofs.YtjofgpfocadomaaGreatDoor
open Go.RowKit
attribute [local go_sem] Oper.semAt_some
theorem CA.low{B b:Nat}{w:World}{v:Value}{l:List Rf}(h:CA B w v l)(hb:b<=B):CA b w v l:=by
 obtain ⟨h1,h2⟩:=h
 refine ⟨h1,h2.imp id ?_⟩
 rintro ⟨g,cap,a,e,d,c⟩
 exact ⟨g,cap,a,e,by omega,c⟩
theorem Ds.below{W0 V V':World}{Bx:Nat}{l:List Rf}{O:NP}(h:Ds W0 Bx l O V)(hb:Below V.heap.size V V'):Ds W0 Bx l O V':=by
 obtain ⟨v,r1,r2,d⟩:=h.row
 exact ⟨⟨hb.os.trans h.grown.os,hb.tape.trans h.grown.tape,hb.output.trans h.grown.output,yu h.grown.size hb.size,fun b a c=>(hb.block b (yt a h.grown.size)).trans (h.grown.block b a c)⟩,h.ownO,v,(hb.block _ (yd.1 r1).1).trans r1,r2.up (fun g _ a=>hb.block g a),d⟩
theorem Xg{Q:QT}{w V:World}{x:Ar}{L1 L2:Bt}{db di:LV}{N1 N2:NP}{base B3 B4 B5 D1:Nat}(hQ:RR Q w x)(hw:AF x=0)
 (h1:CW V w.heap.size B4 x L1 db N1)(h2:CW V B3 B4 (Ah x) L2 di N2)(S:B4 < B5)(h5:B5 < base)(hb:Below w.heap.size w V)(J:base<=V.heap.size)
 (cq:∃va,V.heap[B4]?=some (.cells #[va] 81 (0,0))∧CA base V va (AP x))(y:V.heap[B5]?=some (.cells #[.slice none 0 0] 81 (0,0)))
 (P:w.heap.size<=D1)(m:V.heap[D1]?=some (.deferred (some [])))(q:(Cl x).length<=900000000)(i:(Cl (Ah x)).length<=900000000)
 (u0 u6 u7 u8 u9 ae cv cw bt b8 aq an bk ay cx cp be b0 ao cj cn de dj b9 bv b7 bo bz ak cd bn cc bj bu cy cu al ct ag cr ar bh ai bi bp aw ax co cl bm ce ci c8 av ba am ac ad ck:Value):
  FQ 17 Tryz.prog (Gf 5 (Tryz.f17.body.getD .skip)) Q {tmps:=#[u0,.pointer (some ⟨w.heap.size,0,none⟩),.int .i64 0,.pointer (some ⟨B3,0,none⟩),.pointer (some ⟨B4,0,none⟩),.pointer (some ⟨B5,0,none⟩),u6,u7,u8,u9,ae,cv,cw,bt,b8,aq,an,bk,ay,cx,cp,be,b0,ao,cj,cn,de,dj,b9,bv,b7,bo,bz,ak,cd,bn,cc,bj,bu,cy,cu,al,ct,ag,cr,ar,bh,ai,bi,bp,aw,ax,co,cl,bm,ce,ci,c8,av,ba,am,ac,ad,ck],defers:=[Jw D1]} V:=by
 obtain ⟨x0,B⟩:∃x0:Ar,x0=Ah x:=⟨_,rfl⟩
 obtain ⟨L,cs,NN,hP⟩:∃L cs NN,CW V B3 B4 x0 L cs NN:=by rw[B];exact ⟨_,_,_,h2⟩
 have W:Bn x0=true:=by rw[B];exact RQ (Fq hw).1
 have az:Ci (Tb.of x) x0=true:=by rw[B];exact N7 (Fq hw).2.2.2.2
 have cf:(AP x0).length<=900000000:=by
  rw[B];have:=i;unfold Cl at this;rw[yn] at this;omega
 have bb:B3 < B4:=hP.lt _ (.inl rfl)
 obtain ⟨W5,F⟩:∃W5,W5=(V.alloc (.cells #[pV B3 0] 85)):=⟨_,rfl⟩
 have j:Below V.heap.size V W5:=by rw[F];exact (yg _ _).alloc (yf _) _
 have a0:W5.heap.size=V.heap.size+1:=by rw[F];simp
 have N:CW W5 B3 B4 x0 L cs NN:=hP.up (fun b hb=>j.block b (by omega))
 have bd:W5.cell? (aV V.heap.size 0)=some (pV L.s 0):=by
  rw[hP.at0,F]
  have h:=World.alloc_heap_new V (.cells #[pV B3 0] 85)
  simp only[World.cell?,h]
  rfl
 have aa:W5.rangeAt L.s 0 cs:=by rw[hP.at0];exact N.range
 have hU:=P1 N.src aa bd W
 obtain ⟨hR,hM⟩:=N4 N.src aa
 have a6:(BS W5 L x0).2=true:=((Gd (Tb.of x) hU).2 az).1
 have a2:=hM a6
 have aj:(BS W5 L x0).1.length=(AP x0).length:=by rw[<-a2,yV]
 have cm:∀k O U,Ds W5 B5 ((AP x0).take k) O U->∀b,(Wk NN L.s b∨b=V.heap.size)->U.heap[b]?=W5.heap[b]?:=fun k O U h b hb=>by
  rcases hb with hb|rfl
  ·rw[hP.at0] at hb
   have:=hP.lt b hb
   exact h.same (by omega) (by omega)
  ·exact h.same (by omega) (by omega)
 have HU:=yb hU;have HR:=yb hR;have HM:=yb a2;have d0:=yb aj;have bw:=yb cm;have df:=yb a6;have cz:=yb a0;have dc:=yb j
 have HP:=yb hP;have d6:=yb cf
 have b4:Hid (B5 < V.heap.size∧∃u:Value,W5.heap[B5]?=some (.cells #[u] 81 (0,0))):=yb ⟨by omega,by
  rw[j.block _ (by omega)];exact ⟨_,y⟩⟩
 have p:Hid (B5 < W5.heap.size):=yb (by omega)
 have d8:Hid (Ds W5 B5 ((AP x0).take 0) (fun _=>False) W5):=yb (by
  rw[zY]
  exact Ds.start W5 (by rw[j.block _ (by omega)];exact y))
 have d4:=yb F;have d1:=yb B;have d9:=yb bb
 have T:=yb (And.intro hQ (And.intro hw (And.intro h1 (And.intro h2 (And.intro S (And.intro h5 (And.intro hb J)))))))
 have Y:=yb (And.intro cq (And.intro y (And.intro P m)))
 have Z:=yb (And.intro q i)
 clear F hQ hw h1 h2 S h5 hb J W az cf bb j a0 N bd aa hU hR hM a2 a6 aj cm hP B q i cq y P m
 unfold Jw
 refine A9 (A9 (A4 ?_))
 go_wp2_with (first|(go_at_call 33;refine (La _ _).mono ?_;rintro e w2 ⟨rfl,rfl⟩))
 rw[<-d4.o]
 refine De ?_
 refine CK (n:=10) Tryz.func17 rfl (fun _ _=>rfl) (KS 9 (by omega) HU.o) (fun a ha=>by
   obtain ⟨u,_,rfl⟩:=xJ.1 ha
   rfl)
  (fun k O U=>Ds W5 B5 ((AP x0).take k) O U) (fun _ _ _=>False) (fun _ _ _=>False)
  (fun k a O U=>Ds W5 B5 ((AP x0).take k) O U∧∃(ub uo:Nat) (f d:Int) (c:ByteArray) (C:Int) (g:Nat),(BS W5 L x0).1[k]?=some ⟨ub,uo,f,d,c,C⟩∧¬ O g∧g < U.heap.size∧U.heap[g]?=some (.cells #[pV ub uo,iV f,iV d] 89 (0,0))∧a={tmps:=#[u0,pV w.heap.size 0,iV 0,pV B3 0,pV B4 0,pV B5 0,u6,pV g 0,u8,u9,ae,cv,cw,bt,b8,aq,an,bk,ay,cx,cp,be,b0,ao,cj,cn,.func (.func 70) #[] #[pV V.heap.size 0],.agg #[pV ub uo,iV f,iV d],b9,bv,b7,bo,bz,ak,cd,bn,cc,bj,bu,cy,cu,al,ct,ag,cr,ar,bh,ai,bi,bp,aw,ax,co,cl,bm,ce,ci,c8,av,ba,am,ac,ad,ck],defers:=[]})
  (Ds.stays (W0:=W5) p.o (fun k=>(AP x0).take k)) (fun _ _ _ _ _ _ h=>h.elim) (fun _ _ _ _ _ _ h=>h.elim) ?_ (fun k O U h=>OZ (bw.o k O U h)) (fun _ _ _ h=>h.elim) ?_ d8.o ?_ ?_ ?_ (fun _ _ _ _ _ _ h=>h.elim) (fun _ _ _ _ _ _ h=>h.elim)
 ·rintro a k O U O' U' ⟨h1,ub,uo,f,d,c,C,g,h2,h3,h4,h5,h6⟩ hz ho ht hu X hO
  exact ⟨Ds.stays (W0:=W5) p.o (fun k=>(AP x0).take k) k O U O' U' h1 hz ho ht hu X hO,ub,uo,f,d,c,C,g,h2,fun h=>(hO g h).elim h3 (fun h=>by omega),by omega,(X g h3 h4).trans h5,h6⟩
 ·intro ch he O U H
  rw[df.o] at he
  cases he
 ·intro k X O U lo H hO hl K
  have cg:k < (BS W5 L x0).1.length:=by rw[yV] at X;exact X
  rw[zH]
  have R:=yb (yk cg)
  generalize (BS W5 L x0).1[k]=u at R ⊢
  obtain ⟨ub,uo,f,d,c,C⟩:=u
  have HJ:=yb H;have M:=yb K
  clear H hO hl K X cg
  unfold Us.v
  simp only
  gi_wp2
  have ab:AN O U (U.alloc (.cells #[pV ub uo,iV f,iV d] 89)):=⟨by simp,fun b hb=>yA _ _ _ (M.o b hb)⟩
  have E:Ds W5 B5 ((AP x0).take k) O (U.alloc (.cells #[pV ub uo,iV f,iV d] 89)):=HJ.o.below ((yg U.heap.size U).alloc (yf _) _)
  have I:¬ O U.heap.size:=fun h=>qF _ (M.o _ h)
  first
  |exact ⟨ab,E,ub,uo,f,d,c,C,U.heap.size,R.o,I,by simp,World.alloc_heap_new _ _,rfl⟩
  |(rename_i hK;exact hK _ _ ⟨ab,E,ub,uo,f,d,c,C,U.heap.size,R.o,I,by simp,World.alloc_heap_new _ _,rfl⟩)
  |(rename_i hK _;exact hK _ _ ⟨ab,E,ub,uo,f,d,c,C,U.heap.size,R.o,I,by simp,World.alloc_heap_new _ _,rfl⟩)
  |fail
 ·rintro k X O U lo a1 hl au K ⟨H,ub,uo,f,d,c,C,g,hu,d5,bg,ah,rfl⟩
  have l:=HR.o _ (zW hu)
  have a8:=bw.o k O U H ub (.inl l.inS)
  have b5:(AP x0)[k]?=some (⟨c,C⟩:Rf):=by
   rw[<-HM.o,List.getElem?_map,hu];rfl
  obtain ⟨va,r1,r2,r3⟩:=H.row
  have HJ:=yb H
  have dk:Hid (∀U',Ds W5 B5 ((AP x0).take k++[⟨c,C⟩]) O U'->Ds W5 B5 ((AP x0).take (k+1)) O U'):=yb (fun U' h=>by rw[Ib b5] at h;exact h)
  have d2:Hid (((AP x0).take k).length+1<=1000000000):=yb (by
   have:=d6.o
   rw[zg];omega)
  have ap:Hid (U.cell? (aV B5 0)=some va):=yb (by simp[World.cell?,r1])
  have bx:Hid (∃u,U.heap[B5]?=some (.cells #[u] 81 (0,0))):=yb ⟨_,r1⟩
  have c9:=yb r2
  have bq:Hid (U.cell? (aV g 0)=some (pV ub uo)):=yb (by simp[World.cell?,ah])
  have d3:Hid (U.cell? (aV ub uo)=some (.string c)):=yb ((Ac a8).trans l.name)
  have d7:Hid (U.cell? (aV ub (uo+1))=some (iV C)):=yb ((Ac a8).trans l.n)
  have G:Hid (B5 < W5.heap.size∧W5.heap.size<=U.heap.size∧g < U.heap.size∧ub < W5.heap.size):=yb ⟨p.o,H.grown.size,bg,by
   have h1:=l.inS
   rw[HP.o.at0] at h1
   have:=HP.o.lt ub h1
   have:=b4.o.1
   have:=cz.o
   have:=T.o.2.2.2.2.1
   simp only at*
   omega⟩
  have M:=yb K
  clear l a8 b5 r1 r2 r3 H hu d5 bg ah hl au X K
  gi_wp2_with fail
  refine Xb (W0:=U) (Bx:=B5) (b6:=g) (ub:=ub) (uo:=uo) (base:=W5.heap.size) (va:=va) (ls:=(AP x0).take k) (r:=⟨c,C⟩) _ ?_ ?_ ?_ ?_ ?_ ?_ ?_ ?_ ?_ ?_ ?_ ?_ ?_ ?_ ?_ ?_ ?_
  ·rfl
  ·rfl
  ·rfl
  ·rfl
  ·have:=G.o;omega
  ·have:=G.o;omega
  ·have:=G.o;omega
  ·exact bx.o
  ·exact ap.o
  ·exact bq.o
  ·exact d3.o
  ·exact d7.o
  ·exact c9.o
  ·exact d2.o
  ·exact G.o.2.1
  ·exact G.o.1
  ·intro a w1 v _ _ _ hp
   have h:=HJ.o.put p.o M.o ap.o hp
   exact ⟨h.2,dk.o _ h.1⟩
 ·intro _ D O U hD dl H da
  obtain ⟨hQ,hw,h1,h2,S,h5,hb,J⟩:=T.o
  obtain ⟨q,i⟩:=Z.o
  have a0:=cz.o
  have j:=dc.o
  have dn:=d9.o
  have dp:=b4.o.1
  have A:Ds W5 B5 (AP (Ah x)) O U:=by
   have h:=H
   rw[yV,d0.o,yS,d1.o] at h
   exact h
  obtain ⟨v2,q1,q2,q3⟩:=A.row
  have z:∀b,b < V.heap.size->b≠B5->U.heap[b]?=V.heap[b]?:=fun b t a7=>(A.same (by omega) a7).trans (j.block b t)
  have dm:=A.grown.size
  have dg:Below w.heap.size w U:=hb.trans ⟨A.grown.os.trans j.os,A.grown.tape.trans j.tape,A.grown.output.trans j.output,by omega,fun b t=>z b (by have:=hb.size;omega) (by have:=h1.lt _ (.inl rfl);omega)⟩
  have dd:=h1.up (fun b t=>z b (by omega) (by omega))
  have dh:=h2.up (fun b t=>z b (by omega) (by omega))
  obtain ⟨⟨va,p1,p2⟩,y,P,m⟩:=Y.o
  have a7:D1≠B5:=fun e=>by rw[e,y] at m;cases m
  have af:=(yd.1 m).1
  have hL:EP U base B4 B5 (AP x) (AP (Ah x)) U:=⟨rfl,rfl,rfl,yf _,by omega,fun _ _ _ _ h _=>h,fun _ _ _ _=>rfl,va,v2,(z B4 (by omega) (by omega)).trans p1,q1,yg _ _,by omega,p2.up (fun g hg t=>z g t (by have:=(p2.lt hg).1;omega)),q2.low (by omega),fun g e1 e2=>by have:=(p2.lt e1).2;have:=(q2.lt e2).1;omega,fun _ _ h _=>h⟩
  exact Xf (base:=base) hQ hw dd dh S h5 dg hL ⟨by omega,P,by have:=hb.size;omega⟩ ((z D1 af a7).trans m) da q i _ _ _ _ _ _ _ _ _ _ _ _ _ _ _ _ _ _ _ _ _ _ _ _ _ _ _ _ _ _ _ _ _ _ _ _ _ _ _ _ _ _ _ _ _ _ _ _ _ _ _ _ _ _ _ _ _ _ _
theorem Xh{Q:QT}{w V:World}{x:Ar}{L1 L2:Bt}{db dh:LV}{N1 N2:NP}{base B3 B4 B5:Nat}(hQ:RR Q w x)(hw:AF x=0)
 (h1:CW V w.heap.size B4 x L1 db N1)(h2:CW V B3 B4 (Ah x) L2 dh N2)(R:B4 < B5)(h5:B5 < base)(hb:Below w.heap.size w V)(G:base<=V.heap.size)
 (cm:∃u:Value,V.heap[B4]?=some (.cells #[u] 81 (0,0)))(p:V.heap[B4]?=some (.cells #[.slice none 0 0] 81 (0,0)))(J:V.heap[B5]?=some (.cells #[.slice none 0 0] 81 (0,0)))
 (l:(Cl x).length<=900000000)(j:(Cl (Ah x)).length<=900000000)
 (u0 u6 u7 u8 u9 ac cq ct bm b0 an ak d8 d3 cu cl b9 aw al ce cj bt cr b4 bo az bi bu ah bz bh bx be bn cv cp ai co ad cn ao bb af bd bj ar au ck cg bg c8 cd bv aq b5 aj aa ab cf:Value):
  FQ 17 Tryz.prog (Gf 4 (Tryz.f17.body.getD .skip)) Q {tmps:=#[u0,.pointer (some ⟨w.heap.size,0,none⟩),.int .i64 0,.pointer (some ⟨B3,0,none⟩),.pointer (some ⟨B4,0,none⟩),.pointer (some ⟨B5,0,none⟩),u6,u7,u8,u9,ac,cq,ct,bm,b0,an,ak,d8,d3,cu,cl,b9,aw,al,ce,cj,bt,cr,b4,bo,az,bi,bu,ah,bz,bh,bx,be,bn,cv,cp,ai,co,ad,cn,ao,bb,af,bd,bj,ar,au,ck,cg,bg,c8,cd,bv,aq,b5,aj,aa,ab,cf],defers:=[]} V:=by
 obtain ⟨x0,y⟩:∃x0:Ar,x0=x:=⟨_,rfl⟩
 obtain ⟨L,cs,NN,hP⟩:∃L cs NN,CW V w.heap.size B4 x0 L cs NN:=by rw[y];exact ⟨_,_,_,h1⟩
 have T:Bn x0=true:=by rw[y];exact (Fq hw).1
 have av:Ci (Tb.of x) x0=true:=by rw[y];exact (Fq hw).2.2.2.2
 have c9:(AP x0).length<=900000000:=by
  rw[y];have:=l;unfold Cl at this;rw[yn] at this;omega
 have b7:w.heap.size < B4:=hP.lt _ (.inl rfl)
 obtain ⟨W5,B⟩:∃W5,W5=(V.alloc (.cells #[pV w.heap.size 0] 85)):=⟨_,rfl⟩
 have i:Below V.heap.size V W5:=by rw[B];exact (yg _ _).alloc (yf _) _
 have Z:W5.heap.size=V.heap.size+1:=by rw[B];simp
 have M:CW W5 w.heap.size B4 x0 L cs NN:=hP.up (fun b hb=>i.block b (by omega))
 have b8:W5.cell? (aV V.heap.size 0)=some (pV L.s 0):=by
  rw[hP.at0,B]
  have h:=World.alloc_heap_new V (.cells #[pV w.heap.size 0] 85)
  simp only[World.cell?,h]
  rfl
 have a7:W5.rangeAt L.s 0 cs:=by rw[hP.at0];exact M.range
 have hU:=P1 M.src a7 b8 T
 obtain ⟨hR,hM⟩:=N4 M.src a7
 have a2:(BS W5 L x0).2=true:=((Gd (Tb.of x) hU).2 av).1
 have a0:=hM a2
 have ag:(BS W5 L x0).1.length=(AP x0).length:=by rw[<-a0,yV]
 have ci:∀k O U,Ds W5 B4 ((AP x0).take k) O U->∀b,(Wk NN L.s b∨b=V.heap.size)->U.heap[b]?=W5.heap[b]?:=fun k O U h b hb=>by
  rcases hb with hb|rfl
  ·rw[hP.at0] at hb
   have:=hP.lt b hb
   exact h.same (by omega) (by omega)
  ·exact h.same (by omega) (by omega)
 have HU:=yb hU;have HR:=yb hR;have HM:=yb a0;have cx:=yb ag;have bp:=yb ci;have de:=yb a2;have cw:=yb Z;have dc:=yb i
 have HP:=yb hP;have d4:=yb c9
 have ax:Hid (B4 < V.heap.size∧∃u:Value,W5.heap[B4]?=some (.cells #[u] 81 (0,0))):=yb ⟨by omega,by
  rw[i.block _ (by omega)];exact cm⟩
 have q:Hid (B4 < W5.heap.size):=yb (by omega)
 have d7:Hid (Ds W5 B4 ((AP x0).take 0) (fun _=>False) W5):=yb (by
  rw[zY]
  exact Ds.start W5 (by rw[i.block _ (by omega)];exact p))
 have d1:=yb B;have cy:=yb y;have d9:=yb b7
 have S:=yb (And.intro hQ (And.intro hw (And.intro h1 (And.intro h2 (And.intro R (And.intro h5 (And.intro hb G)))))))
 have X:=yb (And.intro p J)
 have Y:=yb (And.intro l j)
 clear B hQ hw h1 h2 R h5 hb G T av c9 b7 i Z M b8 a7 hU hR hM a0 a2 ag ci hP y l j cm p J
 refine A9 (A9 (A4 ?_))
 go_wp2_with (first|(go_at_call 33;refine (La _ _).mono ?_;rintro e w2 ⟨rfl,rfl⟩))
 rw[<-d1.o]
 refine De ?_
 refine CK (n:=10) Tryz.func17 rfl (fun _ _=>rfl) (KS 9 (by omega) HU.o) (fun a ha=>by
   obtain ⟨u,_,rfl⟩:=xJ.1 ha
   rfl)
  (fun k O U=>Ds W5 B4 ((AP x0).take k) O U) (fun _ _ _=>False) (fun _ _ _=>False)
  (fun k a O U=>Ds W5 B4 ((AP x0).take k) O U∧∃(ub uo:Nat) (f d:Int) (c:ByteArray) (z:Int) (g:Nat),(BS W5 L x0).1[k]?=some ⟨ub,uo,f,d,c,z⟩∧¬ O g∧g < U.heap.size∧U.heap[g]?=some (.cells #[pV ub uo,iV f,iV d] 89 (0,0))∧a={tmps:=#[u0,pV w.heap.size 0,iV 0,pV B3 0,pV B4 0,pV B5 0,pV g 0,u7,u8,u9,ac,cq,ct,bm,b0,an,ak,.func (.func 70) #[] #[pV V.heap.size 0],.agg #[pV ub uo,iV f,iV d],cu,cl,b9,aw,al,ce,cj,bt,cr,b4,bo,az,bi,bu,ah,bz,bh,bx,be,bn,cv,cp,ai,co,ad,cn,ao,bb,af,bd,bj,ar,au,ck,cg,bg,c8,cd,bv,aq,b5,aj,aa,ab,cf],defers:=[]})
  (Ds.stays (W0:=W5) q.o (fun k=>(AP x0).take k)) (fun _ _ _ _ _ _ h=>h.elim) (fun _ _ _ _ _ _ h=>h.elim) ?_ (fun k O U h=>OZ (bp.o k O U h)) (fun _ _ _ h=>h.elim) ?_ d7.o ?_ ?_ ?_ (fun _ _ _ _ _ _ h=>h.elim) (fun _ _ _ _ _ _ h=>h.elim)
 ·rintro a k O U O' U' ⟨h1,ub,uo,f,d,c,z,g,h2,h3,h4,h5,h6⟩ hz ho ht hu W hO
  exact ⟨Ds.stays (W0:=W5) q.o (fun k=>(AP x0).take k) k O U O' U' h1 hz ho ht hu W hO,ub,uo,f,d,c,z,g,h2,fun h=>(hO g h).elim h3 (fun h=>by omega),by omega,(W g h3 h4).trans h5,h6⟩
 ·intro ch he O U E
  rw[de.o] at he
  cases he
 ·intro k W O U lo E hO hl H
  have cc:k < (BS W5 L x0).1.length:=by rw[yV] at W;exact W
  rw[zH]
  have P:=yb (yk cc)
  generalize (BS W5 L x0).1[k]=u at P ⊢
  obtain ⟨ub,uo,f,d,c,z⟩:=u
  have HJ:=yb E;have K:=yb H
  clear E hO hl H W cc
  unfold Us.v
  simp only
  gi_wp2
  have a8:AN O U (U.alloc (.cells #[pV ub uo,iV f,iV d] 89)):=⟨by simp,fun b hb=>yA _ _ _ (K.o b hb)⟩
  have A:Ds W5 B4 ((AP x0).take k) O (U.alloc (.cells #[pV ub uo,iV f,iV d] 89)):=HJ.o.below ((yg U.heap.size U).alloc (yf _) _)
  have F:¬ O U.heap.size:=fun h=>qF _ (K.o _ h)
  first
  |exact ⟨a8,A,ub,uo,f,d,c,z,U.heap.size,P.o,F,by simp,World.alloc_heap_new _ _,rfl⟩
  |(rename_i hK;exact hK _ _ ⟨a8,A,ub,uo,f,d,c,z,U.heap.size,P.o,F,by simp,World.alloc_heap_new _ _,rfl⟩)
  |(rename_i hK _;exact hK _ _ ⟨a8,A,ub,uo,f,d,c,z,U.heap.size,P.o,F,by simp,World.alloc_heap_new _ _,rfl⟩)
  |fail
 ·rintro k W O U lo a1 hl ap H ⟨E,ub,uo,f,d,c,z,g,hu,d2,ba,ae,rfl⟩
  have m:=HR.o _ (zW hu)
  have a6:=bp.o k O U E ub (.inl m.inS)
  have ay:(AP x0)[k]?=some (⟨c,z⟩:Rf):=by
   rw[<-HM.o,List.getElem?_map,hu];rfl
  obtain ⟨va,r1,r2,r3⟩:=E.row
  have HJ:=yb E
  have di:Hid (∀U',Ds W5 B4 ((AP x0).take k++[⟨c,z⟩]) O U'->Ds W5 B4 ((AP x0).take (k+1)) O U'):=yb (fun U' h=>by rw[Ib ay] at h;exact h)
  have cz:Hid (((AP x0).take k).length+1<=1000000000):=yb (by
   have:=d4.o
   rw[zg];omega)
  have am:Hid (U.cell? (aV B4 0)=some va):=yb (by simp[World.cell?,r1])
  have bq:Hid (∃u,U.heap[B4]?=some (.cells #[u] 81 (0,0))):=yb ⟨_,r1⟩
  have bw:=yb r2
  have bk:Hid (U.cell? (aV g 0)=some (pV ub uo)):=yb (by simp[World.cell?,ae])
  have d0:Hid (U.cell? (aV ub uo)=some (.string c)):=yb ((Ac a6).trans m.name)
  have d5:Hid (U.cell? (aV ub (uo+1))=some (iV z)):=yb ((Ac a6).trans m.n)
  have C:Hid (B4 < W5.heap.size∧W5.heap.size<=U.heap.size∧g < U.heap.size∧ub < W5.heap.size):=yb ⟨q.o,E.grown.size,ba,by
   have h1:=m.inS
   rw[HP.o.at0] at h1
   have:=HP.o.lt ub h1
   have:=ax.o.1
   have:=cw.o
   have:=S.o.2.2.2.2.1
   simp only at*
   omega⟩
  have K:=yb H
  clear m a6 ay r1 r2 r3 E hu d2 ba ae hl ap W H
  gi_wp2_with fail
  refine Xy (W0:=U) (Bx:=B4) (b6:=g) (ub:=ub) (uo:=uo) (base:=W5.heap.size) (va:=va) (ls:=(AP x0).take k) (r:=⟨c,z⟩) _ ?_ ?_ ?_ ?_ ?_ ?_ ?_ ?_ ?_ ?_ ?_ ?_ ?_ ?_ ?_ ?_ ?_
  ·rfl
  ·rfl
  ·rfl
  ·rfl
  ·have:=C.o;omega
  ·have:=C.o;omega
  ·have:=C.o;omega
  ·exact bq.o
  ·exact am.o
  ·exact bk.o
  ·exact d0.o
  ·exact d5.o
  ·exact bw.o
  ·exact cz.o
  ·exact C.o.2.1
  ·exact C.o.1
  ·intro a w1 v _ _ _ hp
   have h:=HJ.o.put q.o K.o am.o hp
   exact ⟨h.2,di.o _ h.1⟩
 ·intro _ D O U hD dj E da
  obtain ⟨hQ,hw,h1,h2,R,h5,hb,G⟩:=S.o
  obtain ⟨l,j⟩:=Y.o
  have Z:=cw.o
  have i:=dc.o
  have dl:=d9.o
  have dm:=ax.o.1
  have t:Ds W5 B4 (AP (x)) O U:=by
   have h:=E
   rw[yV,cx.o,yS,cy.o] at h
   exact h
  obtain ⟨v2,q1,q2,q3⟩:=t.row
  have N:∀b,b < V.heap.size->b≠B4->U.heap[b]?=V.heap[b]?:=fun b I d6=>(t.same (by omega) d6).trans (i.block b I)
  have dk:=t.grown.size
  have df:Below w.heap.size w U:=hb.trans ⟨t.grown.os.trans i.os,t.grown.tape.trans i.tape,t.grown.output.trans i.output,by omega,fun b I=>N b (by have:=hb.size;omega) (by have:=h1.lt _ (.inl rfl);omega)⟩
  have dd:=h1.up (fun b I=>N b (by omega) (by omega))
  have dg:=h2.up (fun b I=>N b (by omega) (by omega))
  obtain ⟨p,J⟩:=X.o
  exact Xg (base:=base) (D1:=D) hQ hw dd dg R h5 df (by omega) ⟨v2,q1,q2.low (by omega)⟩ ((N B5 (by omega) (by omega)).trans J) (by have:=hb.size;omega) da l j _ _ _ _ _ _ _ _ _ _ _ _ _ _ _ _ _ _ _ _ _ _ _ _ _ _ _ _ _ _ _ _ _ _ _ _ _ _ _ _ _ _ _ _ _ _ _ _ _ _ _ _ _ _ _ _ _ _ _
end Go.Proofs.YtjofgpfocadomaaGreatDoor
namespace Go.Proofs.YtjofgpfocadomaaGreatDoor
open Go.RowKit
theorem Bj{α β:Type}{f:α->List β}{c:Nat}:∀ {l:List α},(∀a∈l,(f a).length<=c)->(l.flatMap f).length<=l.length*c
 |[],_=>by simp
 |a::l,h=>by
  rw[zh,yn,yz,Nat.succ_mul]
  have:=h a (by simp)
  have:=Bj (l:=l) (fun b hb=>h b (by simp[hb]))
  omega
theorem ER{α β:Type}{f:α × Nat->List β}{c:Nat}{l:List α}(h:∀a∈l,∀i,(f (a,i)).length<=c):(l.zipIdx.flatMap f).length<=l.length*c:=by
 have:=Bj (l:=l.zipIdx) (f:=f) (c:=c) (fun p b=>by
  obtain ⟨a,i⟩:=p
  obtain ⟨_,h2,h3⟩:=List.mem_zipIdx (x:=a) (i:=i) b
  exact h a (h3▸yJ _) i)
 rwa [zF] at this
section
variable{t:Tb}
mutual
theorem P5(lt:Int):∀e:Ex,Rs t lt e=true->(Iv e).length+1<=2 ^ (At e+1)
 |.mk op n u rn ri args,h=>by
  rw[Rs,yE,yE] at h
  obtain ⟨h1,_,h3⟩:=h
  have ih:=N8 lt args h3
  rw[Iv,At,yz]
  unfold O0 at h1
  simp only[yE,yT] at h1
  obtain ⟨_,_,h2⟩:=h1
  rw[Nat.pow_succ]
  split at h2
  ·have h2:args.length=2:=yR h2
   rw[h2] at ih;omega
  ·have h2:args.length=0:=yR h2
   obtain rfl:=zv.1 h2
   simp[F1,AW]
theorem N8(lt:Int):∀l:List Ex,Qp t lt l=true->(F1 l).length+l.length<=l.length*2 ^ AW l
 |[],_=>by simp[F1]
 |e::r,h=>by
  rw[Qp,yE] at h
  have c:=P5 lt e h.1
  have b:=N8 lt r h.2
  rw[F1,AW,yn,yz]
  have a:2 ^ (At e+1)<=2 ^ max (1+At e) (AW r):=Nat.pow_le_pow_right (by omega) (by omega)
  have d:r.length*2 ^ AW r<=r.length*2 ^ max (1+At e) (AW r):=Nat.mul_le_mul_left _ (Nat.pow_le_pow_right (by omega) (by omega))
  rw[Nat.succ_mul]
  omega
end
theorem Vy{x:Ar}(a:Bn x=true):(As x).length<=20000:=by
 obtain ⟨r,l,e,c,k,n,o,b,_⟩:=Fl a
 unfold As Ff H9 EH Ha FB FC
 have h:(x.lets.zipIdx.flatMap fun p=> [(p.1.value,1+(p.2:Int))]).length<=x.lets.length*1:=ER fun _ _ _=>by simp
 have q:(x.crops.zipIdx.flatMap fun p=> [(p.1.need,(0:Int))]).length<=x.crops.length*1:=ER fun _ _ _=>by simp
 have g:(x.reaches.zipIdx.flatMap fun p=> [(p.1.delay,(0:Int)),(p.1.cap,0),(p.1.bank,0),(p.1.siphon,0),(p.1.evap0,0),(p.1.evap1,0),(p.1.seep0,0),(p.1.seep1,0)]).length<=x.reaches.length*8:=ER fun _ _ _=>by simp
 have m:(x.farms.zipIdx.flatMap fun p=> [(p.1.area,(0:Int))]).length<=x.farms.length*1:=ER fun _ _ _=>by simp
 have s:(IT x.rots).length<=x.rots.length*67:=by
  unfold IT
  refine ER fun d hd i=>?_
  have h1:(Ek d.turns).length<=d.turns.length*1:=by unfold Ek;exact ER fun _ _ _=>by simp
  have:=b d hd
  simp only[yn,yz,yH]
  omega
 have f:(x.rights.zipIdx.flatMap fun p=> [(p.1.flow,(0:Int)),(p.1.frm,0),(p.1.to,0),(p.1.every,0),(p.1.len,0)]).length<=x.rights.length*5:=ER fun _ _ _=>by simp
 have j:(x.duties.zipIdx.flatMap fun p=> [(p.1.due,(0:Int))]).length<=x.duties.length*1:=ER fun _ _ _=>by simp
 simp only[yn,yz,yH]
 omega
theorem P6{x:Ar}(b:Bn x=true)(a:Ci t x=true):(Cl x).length<=900000000:=by
 obtain ⟨y,r,l,i,q,u,v,g,h⟩:=Fl b
 have n:=Vy b
 unfold Ci at a
 simp only[yE] at a
 have h1:=a.1
 rw[yW] at h1
 have j:((As x).flatMap E5).length<=(As x).length*511:=Bj fun e c=>by
  unfold E5
  split
  ·simp
  ·rename_i f
   have h2:=h1 e c
   unfold JV at h2
   rw[Bool.or_eq_true,or_iff_right f] at h2
   have h3:=P5 e.2 e.1 h2
   have p:2 ^ (At e.1+1)<=2 ^ 9:=Nat.pow_le_pow_right (by omega) (by have:=h e c;omega)
   omega
 have o:(x.farms.flatMap EM).length<=x.farms.length*2:=Bj fun _ _=>by simp[EM]
 have w:(x.rots.flatMap FJ).length<=x.rots.length*65:=Bj fun d hd=>by
  have h1:(d.turns.flatMap fun k:Cs=> [k.farm]).length<=d.turns.length*1:=Bj fun _ _=>by simp
  have:=g d hd
  unfold FJ
  rw[yz];omega
 have m:(x.rights.flatMap DQ).length<=x.rights.length*2:=Bj fun _ _=>by simp[DQ]
 have s:(x.duties.flatMap EN).length<=x.duties.length*2:=Bj fun _ _=>by simp[EN]
 unfold Cl AP
 simp only[yn,yV]
 omega
end
theorem Vz{w w':World}{x:Ar}{e:Ending}(h:J2 w x e w'):∃cs:LV,e=.returned (.tuple #[.agg cs.toArray,.int .i64 (AF x)])∧cs.length=26∧(∀v∈cs,v.oneCell'=true)∧Below w.heap.size w w'∧(AF x=0->∃(L:Bt) (N:NP),BH N w' L cs (Ah x)∧∀b,N b->w.heap.size<=b∧b < w'.heap.size):=by
 obtain ⟨hb,⟨h0,rfl⟩|⟨h0,cs,rfl,L,N,a,hs,hN⟩⟩:=h
 ·exact ⟨Dj,rfl,rfl,fun v c=>yW.1 (show Dj.all (fun v=>v.oneCell')=true from rfl) v c,hb,fun h=>absurd h h0⟩
 ·exact ⟨cs,by rw[h0],a,Nq hs,hb,fun _=>⟨L,N,hs,hN⟩⟩
def Xr(w:World)(cs:LV):World:=w.alloc (.cells cs.toArray 35)
theorem WB{w w1 w2:World}{x y:Ar}{L m:Bt}{i rs:LV}{N g:NP}(k:Below w.heap.size w w1)(n:w1.heap.size=w.heap.size+1)(hs:BH N w1 L i x)(hr:w1.rangeAt w.heap.size 0 i)(hN:∀b,N b->b < w.heap.size)(c:Below w1.heap.size w1 w2)(j:BH g w2 m rs y)(e:∀b,g b->b < w2.heap.size):
  CW (((w2.alloc (.cells rs.toArray 35)).alloc (.cells #[.slice none 0 0] 81)).alloc (.cells #[.slice none 0 0] 81)) w.heap.size (w2.heap.size+1) x {L with s:=w.heap.size} i N∧
  CW (((w2.alloc (.cells rs.toArray 35)).alloc (.cells #[.slice none 0 0] 81)).alloc (.cells #[.slice none 0 0] 81)) w2.heap.size (w2.heap.size+1) y {m with s:=w2.heap.size} rs g∧
  Below w.heap.size w (((w2.alloc (.cells rs.toArray 35)).alloc (.cells #[.slice none 0 0] 81)).alloc (.cells #[.slice none 0 0] 81))∧
  (((w2.alloc (.cells rs.toArray 35)).alloc (.cells #[.slice none 0 0] 81)).alloc (.cells #[.slice none 0 0] 81)).heap[w2.heap.size+1]?=some (.cells #[.slice none 0 0] 81 (0,0))∧
  (((w2.alloc (.cells rs.toArray 35)).alloc (.cells #[.slice none 0 0] 81)).alloc (.cells #[.slice none 0 0] 81)).heap[w2.heap.size+2]?=some (.cells #[.slice none 0 0] 81 (0,0)):=by
 have t:=c.size
 have o:(w2.alloc (.cells rs.toArray 35)).heap.size=w2.heap.size+1:=by simp
 have p:((w2.alloc (.cells rs.toArray 35)).alloc (.cells jl 81)).heap.size=w2.heap.size+2:=by simp
 obtain ⟨W,d⟩:∃W,W=((w2.alloc (.cells rs.toArray 35)).alloc (.cells jl 81)).alloc (.cells jl 81):=⟨_,rfl⟩
 rw[<-d]
 have a:Below w2.heap.size w2 W:=by
  rw[d];exact (((yg _ _).alloc (yf _) _).alloc (by simp) _).alloc (by simp;omega) _
 have h3:W.heap[w2.heap.size]?=some (.cells rs.toArray 35 (0,0)):=by
  rw[d,yA _ _ _ (by omega),yA _ _ _ (by omega)]
  exact World.alloc_heap_new _ _
 have r:W.heap[w2.heap.size+1]?=some (.cells jl 81 (0,0)):=by
  rw[d,yA _ _ _ (by omega)]
  have:=World.alloc_heap_new (w2.alloc (.cells rs.toArray 35)) (.cells jl 81)
  rwa [o] at this
 have q:W.heap[w2.heap.size+2]?=some (.cells jl 81 (0,0)):=by
  rw[d]
  have:=World.alloc_heap_new ((w2.alloc (.cells rs.toArray 35)).alloc (.cells jl 81)) (.cells jl 81)
  rwa [p] at this
 have f:∀b,b < w1.heap.size->W.heap[b]?=w1.heap[b]?:=fun b hb=>(a.block b (by omega)).trans (c.block b hb)
 have l:W.rangeAt w2.heap.size 0 rs:=by
  have:=zp h3 0 rs.length
  simpa using this
 refine ⟨⟨?_,rfl,A0 hr (f _ (by omega)),fun b hb=>?_⟩,⟨?_,rfl,l,fun b hb=>?_⟩,?_,r,q⟩
 ·have h:=hs.same (N':=N) (w':=W) (fun _ h=>h) (fun b hb=>f b (by have:=hN b hb;omega))
  exact ⟨h.name,h.cells,h.lets,h.crops,h.reaches,h.farms,h.rots,h.rights,h.duties⟩
 ·rcases hb with rfl|hb
  ·omega
  ·have:=hN b hb;omega
 ·have h:=j.same (N':=g) (w':=W) (fun _ h=>h) (fun b hb=>a.block b (e b hb))
  exact ⟨h.name,h.cells,h.lets,h.crops,h.reaches,h.farms,h.rots,h.rights,h.duties⟩
 ·rcases hb with rfl|hb
  ·omega
  ·have:=e b hb;omega
 ·exact (k.trans (c.mono (by omega))).trans (a.mono (by omega))
theorem SM{w:World}{x:Ar}{L:Bt}{cs:LV}{N:NP}(h:BH N w L cs x)(hN:∀b,N b->b < w.heap.size)(I:Kf x)(T:GV w)(hd:∀e∈As x,At e.1<=1000000):
  Calls Tryz.prog 17 #[.agg cs.toArray] w fun e w'=>e=.returned (.int .i64 (Bq x))∧Below w.heap.size w w':=by
 obtain ⟨w1,d⟩:∃w1,w1=Xr w cs:=⟨_,rfl⟩
 have f:Below w.heap.size w w1:=by rw[d];exact (yg _ _).alloc (yf _) _
 have F:w1.heap.size=w.heap.size+1:=by rw[d];simp[Xr]
 have G:w1.rangeAt w.heap.size 0 cs:=by
  rw[d];unfold Xr
  have:=zp (World.alloc_heap_new w (.cells cs.toArray 35)) 0 cs.length
  simpa using this
 have s:BH N w1 L cs x:=h.same (fun _ h=>h) (fun b hb=>f.block b (hN b hb))
 have D:=yb f;have l:=yb F;have p:=yb G;have M:=yb s;have HN:=yb hN
 have i:=yb (OP s (fun b hb=>by have:=hN b hb;omega) I (T.below f T.1) hd)
 have H:Hid ((Tryz.prog.info? 35).map (·.size)=some cs.length):=yb (by
  obtain ⟨c0,c1,c2,rfl,P,g1,O⟩:=h.cells
  obtain ⟨a0,p0,rfl,W⟩:=P.cells
  obtain ⟨a1,p1,rfl,t⟩:=g1.cells
  obtain ⟨a2,p2,rfl,Z⟩:=O.cells
  kernel_rfl)
 have B:=yb d
 clear d f F G s hN I T hd
 obtain ⟨R,q⟩:∃R,R=cs:=⟨_,rfl⟩
 rw[<-q] at p M i H
 have V:=yb q
 obtain ⟨c0,c1,c2,rfl,P,g1,O⟩:=h.cells
 obtain ⟨a0,p0,rfl,W⟩:=P.cells
 obtain ⟨a1,p1,rfl,t⟩:=g1.cells
 obtain ⟨a2,p2,rfl,Z⟩:=O.cells
 clear h P g1 O W t Z q
 unfold Aw.v at*
 simp only[yK,yQ] at B V ⊢
 refine Bg (n:=10) Tryz.func17 rfl ?_
 have S:=Uk w x
 generalize bodyPostM Fence.wide 10 Tryz.prog Tryz.f17 _=Q at S ⊢
 have X:=yb S
 clear S
 simp only[Tryz.ntmps17,yM,yz,yH,Nat.reduceAdd,Nat.reduceSub,zD,zE,zR,zK,yQ,yK]
 refine A9 (A4 ?_)
 go_wp2
 have t:=B.o
 unfold Xr at t
 rw[<-t,<-V.o]
 clear t
 refine A9 (A4 ?_)
 go_upto_region 1 with fail
 refine wp_region_lit ?_
 refine yj rfl 35 _ rfl w.heap.size 0 rfl R _ p.o qY rfl H.o ?_
 refine zB rfl fun K a=>?_
 go_simp
 refine i.o.mono ?_
 intro e w2 k
 obtain ⟨rs,rfl,C,g,z,y⟩:=Vz k
 clear k
 refine a _ _ ?_
 clear a K
 have j:=yb C;have J:=yb (zb g);have m:=yb z;have U:=yb y
 clear C g z y
 iterate 4
  refine zB rfl fun K a=>?_
  go_simp
  refine a _ _ ?_
  clear a K
 refine ze rfl 35 _ _ rfl w2.heap.size rs.toArray rfl rfl 35 _ (World.alloc_heap_new _ _) (by rw[yM,j.o];kernel_rfl) (by simp[j.o]) J.o ?_
 rw[World.setRow_alloc_new]
 refine zB rfl fun K a=>?_
 go_simp
 refine a _ _ ?_
 clear a K
 refine wpList_nil ?_
 by_cases r:AF x=0
 ·have u:=yb (U.o r)
  have E:=yb r
  simp only[r]
  clear r
  iterate 2
   refine A9 (A4 ?_)
   go_wp2
  obtain ⟨L2,N2,s2,n2⟩:=u.o
  obtain ⟨k1,k2,k3,Y,k5⟩:=WB D.o l.o M.o p.o HN.o m.o s2 (fun b hb=>(n2 b hb).2)
  obtain ⟨z1,_,_,_,z5⟩:=Fq E.o
  exact Xh (base:=w2.heap.size+3) X.o E.o k1 k2 (by omega) (by omega) k3 (by simp) ⟨_,Y⟩ Y k5 (P6 z1 z5) (P6 (RQ z1) (N7 z5)) _ _ _ _ _ _ _ _ _ _ _ _ _ _ _ _ _ _ _ _ _ _ _ _ _ _ _ _ _ _ _ _ _ _ _ _ _ _ _ _ _ _ _ _ _ _ _ _ _ _ _ _ _ _ _ _ _ _ _
 ·have A:Hid (Bq x=AF x):=yb (by unfold Bq;rw[yq r])
  generalize AF x=c at r A ⊢
  have a6:(c !=0)=true:=by simpa using r
  refine A9 (A4 ?_)
  go_wp2
  exact X.o.early c _ _ rfl ((D.o.trans (m.o.mono (by have:=l.o;omega))).alloc (by have:=m.o.size;have:=l.o;omega) _) A.o
section
variable{f:Int->Ex->Ex}{g:Int->Rf->Rf}
theorem FK{α β:Type}{F:Nat->α->α}{h:α->List β}(a:∀i d,F i d=F 0 d):∀l:List α,(l.mapIdx F).flatMap h=l.flatMap fun d=>h (F 0 d):=by
 intro l
 have e:l.mapIdx F=l.map (F 0):=by
  apply xB
  ·simp
  ·intro i h1 h2;simp;exact a i _
 rw[e,zI]
end
section
variable{t:Tb}
structure XD (t:Tb) (x:Ar):Prop where
 exprs:∀e∈As x,E5 e=E5 (QE (fT t) e)
 farms:x.farms.flatMap EM=x.farms.flatMap fun d=>EM (CY.mp (fT t) (gT t) 0 d)
 rots:x.rots.flatMap FJ=x.rots.flatMap fun d=>FJ (BG.mp (fT t) (gT t) 0 d)
 rights:∀d∈x.rights,DQ d=DQ (AZ.mp (fT t) (gT t) 0 d)
 duties:∀d∈x.duties,EN d=EN (D9.mp (fT t) (gT t) 0 d)
 reaches:x.reaches.map (·.frm)=(x.reaches.mapIdx (AE.mp (fT t) (gT t))).map (·.frm)
theorem P7(x:Ar):Cl (x.mp (fT t) (gT t))=((As x).flatMap fun e=>E5 (QE (fT t) e))++(((x.farms.flatMap fun d=>EM (CY.mp (fT t) (gT t) 0 d))++(x.rots.flatMap fun d=>FJ (BG.mp (fT t) (gT t) 0 d)))++(x.rights.flatMap fun d=>DQ (AZ.mp (fT t) (gT t) 0 d))++(x.duties.flatMap fun d=>EN (D9.mp (fT t) (gT t) 0 d)))++(x.reaches.mapIdx (AE.mp (fT t) (gT t))).map (·.frm):=by
 unfold Cl AP
 rw[NJ,zI]
 unfold Ar.mp
 simp only
 rw[FK (fun _ _=>rfl) x.farms,FK (fun _ _=>rfl) x.rots,FK (fun _ _=>rfl) x.rights,FK (fun _ _=>rfl) x.duties]
end
section
variable{t:Tb}{i:Nat}
end
def Av(x:Ar):List (ByteArray × Ex):=x.lets.map fun d=>(d.name,d.value)
def FM(s:Ar)(x:Ex):Qn × Int:=if Bq s=0 then (if (F0 (Am [] (Av s)) 8 x).2=true then ((F0 (Am [] (Av s)) 8 x).1,0) else (Fx,180)) else (Fx,Bq s)
def Du(s:Ar)(x:Ex):Dm × Int:=if (FM s x).2=0 then ((FM s x).1.dim,0) else (O5,(FM s x).2)
def VA(m:Qn × Int):Int:=if m.2=0 then m.1.e else m.2
def B7(s:Ar)(x:Ex):Rt × Int:=if VA (FM s x)=0 then ((FM s x).1.v,0) else (It,VA (FM s x))
structure O8 where
 x:Ex
 there:Bool
 dim:Dm
def CX:Dm:=⟨0,1,0⟩
def AY:Dm:=⟨1,0,0⟩
def GI:Dm:=⟨0,0,1⟩
def J8:Dm:=⟨1, -1,0⟩
def GJ:Dm:=⟨1,0, -1⟩
def G0(d:Dm)(there:Bool)(l:List Ex):List O8:=l.map fun x=>⟨x,there,d⟩
def Uo(d:DO):List O8:=G0 GJ true [d.need]
def NK(d:AE):List O8:=G0 CX true [d.delay]++(G0 J8 true [d.cap]++(G0 AY true [d.bank,d.evap0,d.evap1]++(G0 AY (!Bv d.siphon) [d.siphon]++G0 O5 true [d.seep0,d.seep1])))
def QI(d:CY):List O8:=G0 GI (!d.river) [d.area]
def Xi(d:BG):List O8:=G0 J8 true [d.flow]++(G0 CX true [d.frm,d.to]++d.turns.flatMap fun k=>G0 CX true [k.len])
def VB(d:AZ):List O8:=G0 J8 (decide (d.kind=1)) [d.flow]++(G0 CX (!decide (d.kind=2)) [d.frm,d.to]++G0 CX (decide (d.kind=1)&&(!Bv d.every||!Bv d.len)) [d.every,d.len])
def WE(d:D9):List O8:=G0 CX true [d.due]
def Cq(x:Ar):List O8:=G0 CX true [x.season]++(G0 AY true [x.cap,x.start]++(x.crops.flatMap Uo++(x.reaches.flatMap NK++(x.farms.flatMap QI++(x.rots.flatMap Xi++(x.rights.flatMap VB++x.duties.flatMap WE))))))
def JD(a:List Kn)(p:O8):Bool:=if p.there=true then (F0 a 8 p.x).2&&decide ((F0 a 8 p.x).1.dim=p.dim) else Bv p.x
def Eu(x:Ar):Int:=if Bq x=0 then (if (Am [] (Av x)).all (fun k=>k.ok)=true then (if (Cq x).all (JD (Am [] (Av x)))=true then 0 else 180) else 180) else Bq x
def Gr:ByteArray:={data:=#[]}
def Bw(n u:Int):Ex:=.mk 1 n u Gr 0 []
def M8(o:Int)(a b:Ex):Ex:=.mk o 0 0 Gr 0 [a,b]
def LL:Ex:=.mk 0 0 0 Gr 0 []
def sW:ByteArray:={data:=#[119]}
def sK:ByteArray:={data:=#[107]}
def sC:ByteArray:={data:=#[99]}
def sR:ByteArray:={data:=#[114]}
def sF:ByteArray:={data:=#[102]}
def BQ:Ex:=M8 6 (Bw 40 1) (Bw 1 3)
def VE(cap:Ex):AE:=⟨sR,⟨Gr,0⟩,Bw 1 3,cap,Bw 90 1,LL,Bw 0 1,Bw 2 1,Bw 0 0,M8 6 (Bw 1 0) (Bw 8 0)⟩
def DW(cap:Ex):Ar:=⟨sW,Bw 1 4,Bw 5 2,.mk 2 0 0 sK 0 [],[⟨sK,Bw 3 2⟩],[⟨sC,M8 6 (Bw 7 1) (Bw 1 5)⟩],[VE cap],[⟨sF,⟨sR,0⟩,false,Bw 20 5,⟨sC,0⟩⟩],[],[],[]⟩
def Uv:Ex:=M8 6 (Bw 3 2) (Bw 2 3)
theorem SS:Eu (DW BQ)=0:=by kernel_rfl
theorem QQ:Eu (DW (Bw 40 1))=180:=by kernel_rfl
theorem Uw:Du (DW BQ) Uv=(⟨1, -1,0⟩,0):=by kernel_rfl
theorem SU:B7 (DW BQ) Uv=(⟨1500,1⟩,0):=by kernel_rfl
theorem VF:(Du (DW BQ) (M8 3 (Bw 3 1) (Bw 4 3))).2=180:=by kernel_rfl
theorem Ux:B7 (DW BQ) (M8 4 (Bw 1 4) (Bw 30 3))=(⟨-6,1⟩,0):=by kernel_rfl
theorem VG:(B7 (DW BQ) (M8 6 (Bw 1 0) (Bw 0 0))).2=120:=by kernel_rfl
theorem SV:(B7 (DW BQ) (Bw 1073741825 0)).2=2:=by kernel_rfl
theorem Uy:(B7 (DW BQ) LL).2=180:=by kernel_rfl
theorem SW:B7 (DW BQ) (DW BQ).start=(⟨3000,1⟩,0):=by kernel_rfl
def Bz(f e:Int):Int:=f ^ e.toNat
def Ko(a b c:Int)(d:Dm):Int:=Bz a d.l*(Bz b d.h*Bz c d.a)
def JJ(a b c:Int)(d:Dm):Int:=Bz a (-d.l)*(Bz b (-d.h)*Bz c (-d.a))
structure QY (a b c:Int):Prop where
 a1:1<=a
 a3:a<=3
 b1:1<=b
 b3:b<=3
 c1:1<=c
 c3:c<=3
theorem Dn{f:Int}(h:1<=f)(e:Int):0 < Bz f e:=Int.pow_pos (by omega)
theorem Jd{f:Int}(x y:Int):Bz f (x+y)*(Bz f (-x)*Bz f (-y))=Bz f (-(x+y))*(Bz f x*Bz f y):=by
 unfold Bz
 rw[<-Int.pow_add,<-Int.pow_add,<-Int.pow_add,<-Int.pow_add]
 congr 1
 omega
theorem LR{f:Int}(x y:Int):Bz f (x - y)*(Bz f (-x)*Bz f y)=Bz f (-(x - y))*(Bz f x*Bz f (-y)):=by
 have h:=Jd (f:=f) x (-y)
 rw[Int.neg_neg] at h
 exact h
section
variable{a b c:Int}
theorem NU(e:QY a b c)(d:Dm):0 < Ko a b c d:=xI (Dn e.a1 _) (xI (Dn e.b1 _) (Dn e.c1 _))
theorem LS(e:QY a b c)(d:Dm):0 < JJ a b c d:=xI (Dn e.a1 _) (xI (Dn e.b1 _) (Dn e.c1 _))
theorem VL(d e:Dm):Ko a b c (GB 1 d e)*(JJ a b c d*JJ a b c e)=JJ a b c (GB 1 d e)*(Ko a b c d*Ko a b c e):=by
 have h1:=Jd (f:=a) d.l e.l
 have h2:=Jd (f:=b) d.h e.h
 have h3:=Jd (f:=c) d.a e.a
 unfold Ko JJ GB
 simp only[qp]
 grind
theorem VM(d e:Dm):Ko a b c (GB (-1) d e)*(JJ a b c d*Ko a b c e)=JJ a b c (GB (-1) d e)*(Ko a b c d*JJ a b c e):=by
 have h1:=LR (f:=a) d.l e.l
 have h2:=LR (f:=b) d.h e.h
 have h3:=LR (f:=c) d.a e.a
 unfold Ko JJ GB
 simp only[show ∀x y:Int,x+ -1*y=x - y from fun x y=>by omega]
 grind
def Pt(a b c:Int)(d:Dm)(r e:Rt):Prop:=e.n*r.d*JJ a b c d=r.n*e.d*Ko a b c d
def V3(a b c:Int)(q q':Qn × Bool):Prop:=
 q.2=true->q.1.e=0->q'.2=true∧q'.1.dim=q.1.dim∧Fv q.1.dim=true∧Ba q.1.v=true∧(q'.1.e=2∨(q'.1.e=0∧Ba q'.1.v=true∧Pt a b c q.1.dim q.1.v q'.1.v))
theorem VN(k:QY a b c){op:Int}(h3:3<=op)(p:op<=6){d e:Dm}{r g s f:Rt}(hr:Pt a b c d r g)(hs:Pt a b c e s f)(hd:(I5 op d e).2=true):
  (Cu op g f).1*(Cu op r s).2*JJ a b c (I5 op d e).1=(Cu op r s).1*(Cu op g f).2*Ko a b c (I5 op d e).1:=by
 unfold Pt at hr hs
 obtain rfl|rfl|rfl|rfl:op=3∨op=4∨op=5∨op=6:=by omega
 ·have i:d=e:=by simpa[I5] using hd
  subst i
  show (g.n*f.d+f.n*g.d)*(r.d*s.d)*JJ a b c d=(r.n*s.d+s.n*r.d)*(g.d*f.d)*Ko a b c d
  grind
 ·have i:d=e:=by simpa[I5] using hd
  subst i
  show (g.n*f.d - f.n*g.d)*(r.d*s.d)*JJ a b c d=(r.n*s.d - s.n*r.d)*(g.d*f.d)*Ko a b c d
  grind
 ·have h:=VL (a:=a) (b:=b) (c:=c) d e
  have m:=LS k d;have o:=LS k e
  have l:(I5 5 d e).1=GB 1 d e:=by
   unfold I5 at hd ⊢
   rw[yq (by decide)] at hd ⊢
   simp only[zU] at hd ⊢
   split
   ·rfl
   ·rename_i j;rw[yq j] at hd;cases hd
  rw[l]
  show (g.n*f.n)*(r.d*s.d)*JJ a b c (GB 1 d e)=(r.n*s.n)*(g.d*f.d)*Ko a b c (GB 1 d e)
  have j:JJ a b c d*JJ a b c e≠0:=by
   have:=xI m o;omega
  refine xA j ?_
  grind
 ·have h:=VM (a:=a) (b:=b) (c:=c) d e
  have m:=LS k d;have o:=NU k e
  have l:(I5 6 d e).1=GB (-1) d e:=by
   unfold I5 at hd ⊢
   rw[yq (by decide)] at hd ⊢
   simp only[show ¬(6:Int)=5 by decide,if_false] at hd ⊢
   split
   ·rfl
   ·rename_i j;rw[yq j] at hd;cases hd
  rw[l]
  show (g.n*f.d)*(r.d*s.n)*JJ a b c (GB (-1) d e)=(r.n*s.d)*(g.d*f.n)*Ko a b c (GB (-1) d e)
  have j:JJ a b c d*Ko a b c e≠0:=by
   have:=xI m o;omega
  refine xA j ?_
  grind
theorem WI(s:QY a b c){op:Int}(h3:3<=op)(u:op<=6){A g B f:Qn × Bool}(F:V3 a b c A g)(G:V3 a b c B f):V3 a b c (SB op A B) (SB op g f):=by
 intro i k
 unfold SB at i k
 by_cases hb:(A.2&&B.2)=true
 rotate_left
 ·rw[yq hb] at i;cases i
 rw[yw hb] at i k
 simp only at i k
 by_cases hd:(I5 op A.1.dim B.1.dim).2=true
 rotate_left
 ·rw[yq hd] at i;cases i
 rw[yw hd] at i k
 by_cases r:A.1.e=0
 rotate_left
 ·rw[yw r] at k;exact absurd k r
 rw[yq (by simpa using r)] at k
 by_cases l:B.1.e=0
 rotate_left
 ·rw[yw l] at k;exact absurd k l
 rw[yq (by simpa using l)] at k
 simp only at k
 obtain ⟨b1,b2⟩:A.2=true∧B.2=true:=by simpa using hb
 obtain ⟨U,a3,a4,a5,V⟩:=F b1 r
 obtain ⟨c2,c3,c4,c5,c6⟩:=G b2 l
 have o:(KB op A.1.v B.1.v)=C8 (Cu op A.1.v B.1.v).1 (Cu op A.1.v B.1.v).2:=by unfold KB;rw[a5,c5];rfl
 rw[o] at k
 obtain ⟨m1,Z,L⟩:=Lj k
 have j:Fv (I5 op A.1.dim B.1.dim).1=true:=by
  unfold I5 at hd ⊢
  split
  ·exact a4
  ·rename_i Q
   rw[yq Q] at hd
   simp only at hd ⊢
   generalize GB (if op=5 then 1 else -1) A.1.dim B.1.dim=z at hd ⊢
   by_cases y:Fv z=true
   ·rw[yw y];exact y
   ·rw[yq y] at hd;cases hd
 have M:SB op A B=(⟨(I5 op A.1.dim B.1.dim).1,(KB op A.1.v B.1.v).1,(KB op A.1.v B.1.v).2⟩,true):=by
  unfold SB
  rw[yw hb]
  simp only
  rw[yw hd,yq (by simpa using r),yq (by simpa using l)]
 rw[M]
 have I:SB op g f=if g.1.e≠0 then (⟨(I5 op A.1.dim B.1.dim).1,It,g.1.e⟩,true) else if f.1.e≠0 then (⟨(I5 op A.1.dim B.1.dim).1,It,f.1.e⟩,true) else (⟨(I5 op A.1.dim B.1.dim).1,(KB op g.1.v f.1.v).1,(KB op g.1.v f.1.v).2⟩,true):=by
  unfold SB
  rw[U,c2,a3,c3]
  simp only[Bool.and_self,zU]
  rw[yw hd]
 rw[I]
 simp only
 rw[o]
 rcases V with t|⟨t,J,a9⟩
 ·rw[yw (by rw[t];decide)]
  exact ⟨rfl,rfl,j,m1,.inl t⟩
 rw[yq (by simpa using t)]
 rcases c6 with c7|⟨c7,K,x⟩
 ·rw[yw (by rw[c7];decide)]
  exact ⟨rfl,rfl,j,m1,.inl c7⟩
 rw[yq (by simpa using c7)]
 have m:(KB op g.1.v f.1.v)=C8 (Cu op g.1.v f.1.v).1 (Cu op g.1.v f.1.v).2:=by unfold KB;rw[J,K];rfl
 rw[m]
 have O:=VN s h3 u a9 x hd
 have X:=NU s (I5 op A.1.dim B.1.dim).1
 have T:=LS s (I5 op A.1.dim B.1.dim).1
 have C:(Cu op g.1.v f.1.v).2≠0:=by
  have k1:=((Et _).1 J).1;have k2:=((Et _).1 K).1
  obtain rfl|rfl|rfl|rfl:op=3∨op=4∨op=5∨op=6:=by omega
  ·show g.1.v.d*f.1.v.d≠0
   have:=xI (show 0 < g.1.v.d by omega) (show 0 < f.1.v.d by omega);omega
  ·show g.1.v.d*f.1.v.d≠0
   have:=xI (show 0 < g.1.v.d by omega) (show 0 < f.1.v.d by omega);omega
  ·show g.1.v.d*f.1.v.d≠0
   have:=xI (show 0 < g.1.v.d by omega) (show 0 < f.1.v.d by omega);omega
  ·show g.1.v.d*f.1.v.n≠0
   have W:A.1.v.d*B.1.v.n≠0:=L
   have n1:B.1.v.n≠0:=fun h=>W (by rw[h,Int.mul_zero])
   have n2:f.1.v.n≠0:=by
    intro h
    unfold Pt at x
    rw[h,Int.zero_mul,Int.zero_mul] at x
    have p1:=NU s B.1.dim
    have:=Int.mul_eq_zero.1 x.symm
    rcases this with H|H
    ·rcases Int.mul_eq_zero.1 H with u|u
     ·exact n1 u
     ·omega
    ·omega
   exact Int.mul_ne_zero (by omega) n2
 rcases U3 (n:=(Cu op g.1.v f.1.v).1) C with E|Y
 ·obtain ⟨S,q2,R⟩:=Lj E
  refine ⟨rfl,rfl,j,m1,.inr ⟨E,S,?_⟩⟩
  unfold Pt
  have P:(Cu op A.1.v B.1.v).2*(Cu op g.1.v f.1.v).2≠0:=Int.mul_ne_zero L R
  refine xA P ?_
  generalize (C8 (Cu op g.1.v f.1.v).1 (Cu op g.1.v f.1.v).2).1=w' at*
  generalize (C8 (Cu op A.1.v B.1.v).1 (Cu op A.1.v B.1.v).2).1=w at*
  generalize (Cu op g.1.v f.1.v).1=N' at*
  generalize (Cu op g.1.v f.1.v).2=D' at*
  generalize (Cu op A.1.v B.1.v).1=N at*
  generalize (Cu op A.1.v B.1.v).2=D at*
  generalize JJ a b c (I5 op A.1.dim B.1.dim).1=q at*
  generalize Ko a b c (I5 op A.1.dim B.1.dim).1=p at*
  clear F G o m M I
  grind
 ·exact ⟨rfl,rfl,j,m1,.inl Y⟩
end
def Hl(a b c u:Int):Int:=if u=1∨u=2 then a else if u=3∨u=4 then b else if u=5 then c else 1
def AX(a b c:Int):Ex->Ex
 |.mk op n u rn ri args=>if op≠1∨n < 0∨J3 < n then .mk op n u rn ri args else .mk op (n*Hl a b c u) u rn ri args
theorem LU{n:Int}(h0:0<=n)(h1:n<=BR):Ba ⟨n,1⟩=true:=by
 rw[Et]
 refine ⟨Int.le_refl _,(by decide:(1:Int)<=BR),?_,h1,Nat.coprime_one_right _⟩
 simp only
 unfold BR
 omega
theorem RZ{a b c:Int}(d:QY a b c)(u:Int):1<=Hl a b c u∧Hl a b c u<=3:=by
 have h1:=d.a1;have h2:=d.a3;have h3:=d.b1;have g:=d.b3;have f:=d.c1;have e:=d.c3
 unfold Hl
 split
 ·omega
 ·split
  ·omega
  ·split<;>omega
theorem UJ(a b c u:Int):Ko a b c (Eh u)=Hl a b c u∧JJ a b c (Eh u)=1:=by
 unfold Ko JJ Eh Hl Bz
 by_cases h1:u=1∨u=2
 ·simp[h1,Int.pow_succ]
 ·by_cases h2:u=3∨u=4
  ·simp[h1,h2,Int.pow_succ]
  ·by_cases h3:u=5
   ·simp[h3,Int.pow_succ]
   ·simp[h1,h2,h3,O5]
theorem VO(u:Int):Fv (Eh u)=true:=by
 unfold Eh
 split
 ·rfl
 ·split
  ·rfl
  ·split<;>rfl
theorem UK(u:Int):1<=Cz u:=by
 unfold Cz
 split
 ·decide
 ·split<;>decide
theorem VP{a b c:Int}(l:QY a b c)(n u:Int)(h0:0<=n)(h:(GP n u).e=0):(n*Hl a b c u<=J3)∧V3 a b c (GP n u,true) (GP (n*Hl a b c u) u,true):=by
 have o:n<=BR / Cz u:=by
  unfold GP at h
  split at h
  ·cases h
  ·omega
 have m:=UK u
 have r:Cz u*n<=BR:=by
  have:=xH o (show 0<=Cz u by omega)
  have h2:=Int.mul_ediv_self_le (x:=BR) (k:=Cz u) (by omega)
  omega
 have g:n<=BR:=by
  have:n*1<=n*Cz u:=xH m h0
  rw[Int.mul_comm n (Cz u)] at this
  omega
 obtain ⟨w,t⟩:=RZ l u
 have s:n*Hl a b c u<=n*3:=xH t h0
 have f:0<=n*Hl a b c u:=Int.mul_nonneg h0 (by omega)
 refine ⟨by unfold BR at g;unfold J3;omega,fun _ _=>?_⟩
 have v:GP n u=⟨Eh u,⟨Cz u*n,1⟩,0⟩:=by unfold GP;rw[yq (by omega)]
 have d:0<=Cz u*n:=Int.mul_nonneg (by omega) h0
 rw[v]
 simp only
 refine ⟨trivial,?_,VO u,LU d r,?_⟩
 ·unfold GP;split<;>rfl
 ·by_cases j:BR / Cz u < n*Hl a b c u
  ·left
   unfold GP
   rw[yw j]
  ·right
   have p:GP (n*Hl a b c u) u=⟨Eh u,⟨Cz u*(n*Hl a b c u),1⟩,0⟩:=by unfold GP;rw[yq j]
   rw[p]
   simp only
   have i:Cz u*(n*Hl a b c u)<=BR:=by
    have:=xH (show n*Hl a b c u<=BR / Cz u by omega) (show 0<=Cz u by omega)
    have h2:=Int.mul_ediv_self_le (x:=BR) (k:=Cz u) (by omega)
    omega
   refine ⟨trivial,LU (Int.mul_nonneg (by omega) f) i,?_⟩
   unfold Pt
   obtain ⟨g1,q⟩:=UJ a b c u
   rw[g1,q]
   simp only
   grind
theorem D5(a b c:Int)(A:Qn × Bool):V3 a b c (Fx,false) A:=fun h=>by cases h
def T7(a b c:Int)(k k':List Kn):Prop:=k'.length=k.length∧∀(i:Nat) x x',k[i]?=some x->k'[i]?=some x'->x'.name=x.name∧V3 a b c (x.q,x.ok) (x'.q,x'.ok)
theorem VQ{a b c:Int}{k k':List Kn}(h:T7 a b c k k')(rn:ByteArray)(ri:Int):V3 a b c (Hg k rn ri) (Hg k' rn ri):=by
 unfold Hg
 cases g:k[ri.toNat]? with
 |none=>exact D5 _ _ _ _
 |some x=>
  have hi:=(yx.1 g).1
  have f:ri.toNat < k'.length:=by rw[h.1];exact hi
  have d:k'[ri.toNat]?=some k'[ri.toNat]:=yk f
  obtain ⟨h1,h2⟩:=h.2 _ _ _ g d
  rw[d]
  simp only
  rw[h1]
  by_cases e:x.name=rn∧0<=ri
  ·rw[yw e,yw e];exact h2
  ·rw[yq e,yq e];exact D5 _ _ _ _
theorem Pu{a b c:Int}(j:QY a b c){k k':List Kn}(h:T7 a b c k k')(l:Nat)(e:Ex)(ih:∀op n u rn ri args,e=.mk op n u rn ri args->op≠1->op≠2->V3 a b c (F0 k l e) (F0 k' l e)):V3 a b c (F0 k l e) (F0 k' l (AX a b c e)):=by
 cases e with
 |mk op n u rn ri args=>
  simp only[AX]
  by_cases h1:op=1
  ·subst h1
   by_cases f:(1:Int)≠1∨n < 0∨J3 < n
   ·rw[yw f,GC,yq (fun h=>by rcases f with f|f|f<;>omega)]
    exact D5 _ _ _ _
   ·rw[yq f,GC,GC]
    by_cases d:args.length=0∧CH rn ri=true∧0<=n∧n<=J3∧0<=u∧u<=5
    ·rw[yw d]
     intro g m
     obtain ⟨g1,o⟩:=VP j n u d.2.2.1 m
     have i:0<=n*Hl a b c u:=Int.mul_nonneg d.2.2.1 (by have:=(RZ j u).1;omega)
     rw[yw ⟨d.1,d.2.1,i,g1,d.2.2.2.2⟩]
     exact o g m
    ·rw[yq d];exact D5 _ _ _ _
  ·rw[yw (.inl h1)]
   by_cases h2:op=2
   ·subst h2
    rw[I9,I9]
    split
    ·exact VQ h rn ri
    ·exact D5 _ _ _ _
   ·exact ih _ _ _ _ _ _ rfl h1 h2
theorem LW{op n u:Int}{rn:ByteArray}{ri:Int}(h:Qv op n u rn ri=true):3<=op∧op<=6:=by
 unfold Qv at h
 simp only[yE,yT] at h
 exact ⟨h.1,h.2.1⟩
theorem Je{a b c:Int}(d:QY a b c){k k':List Kn}(h:T7 a b c k k'):∀(m l:Nat) (e:Ex),l<=m->V3 a b c (F0 k l e) (F0 k' l (Cr (AX a b c) m e))
 |0,l,e,hl=>by
  obtain rfl:l=0:=by omega
  rw[Cr]
  refine Pu d h 0 e fun op n u rn ri args g h1 h2=>?_
  subst g
  rw[FI _ _ h1 h2 _ _ _ _ _ (.inl rfl)]
  exact D5 _ _ _ _
 |m+1,l,.mk op n u rn ri args,hl=>by
  rw[Cr]
  split
  ·rename_i h0
   refine Pu d h l _ fun p r s q o i g h1 h2=>?_
   cases g
   rw[FI _ _ h1 h2 _ _ _ _ _ (.inr (by rw[h0];decide))]
   exact D5 _ _ _ _
  ·rename_i h0
   by_cases h1:op=1
   ·subst h1
    rw[GC,yq (fun h=>h0 h.1)]
    exact D5 _ _ _ _
   ·by_cases h2:op=2
    ·subst h2
     rw[I9,yq (fun h=>h0 h.1)]
     exact D5 _ _ _ _
    ·by_cases j:args.length=2
     ·obtain ⟨x,y,rfl⟩:∃x y,args=[x,y]:=by
       match args,j with
       |[x,y],_=>exact ⟨x,y,rfl⟩
      simp only[NC]
      cases l with
      |zero=>rw[FI _ _ h1 h2 _ _ _ _ _ (.inl rfl)];exact D5 _ _ _ _
      |succ l=>
       rw[J6 _ _ h1 h2,J6 _ _ h1 h2]
       by_cases f:Qv op n u rn ri=true
       ·rw[yw f,yw f]
        exact WI d (LW f).1 (LW f).2 (Je d h m l x (by omega)) (Je d h m l y (by omega))
       ·rw[yq f];exact D5 _ _ _ _
     ·rw[FI _ _ h1 h2 _ _ _ _ _ (.inr j)];exact D5 _ _ _ _
theorem Nb{a b c:Int}(g:QY a b c):∀(ds:List (ByteArray × Ex)) (k k':List Kn),T7 a b c k k'->T7 a b c (Am k ds) (Am k' (ds.map fun d=>(d.1,Cr (AX a b c) 8 d.2)))
 |[],k,k',h=>by rw[Am,zN,Am];exact h
 |d::r,k,k',h=>by
  rw[Am,zu,Am]
  refine Nb g r _ _ ⟨by simp[h.1],fun i x l f e=>?_⟩
  by_cases hi:i < k.length
  ·rw[zk hi] at f
   rw[zk (by rw[h.1];exact hi)] at e
   exact h.2 i x l f e
  ·rw[yN (by omega)] at f
   rw[yN (by rw[h.1];omega),h.1] at e
   obtain ⟨j,m⟩:∃j,j=i - k.length:=⟨_,rfl⟩
   rw[<-m] at f e
   cases j with
   |zero=>
    obtain rfl:=(by simpa using f:_=x)
    obtain rfl:=(by simpa using e:_=l)
    exact ⟨rfl,Je g h 8 8 d.2 (yf _)⟩
   |succ j=>simp at f
mutual
def nz:Ex->Ex
 |.mk op n u rn ri args=>.mk op (if op=1 then 0 else n) u rn ri (JN args)
def JN:List Ex->List Ex
 |[]=> []
 |e::r=>nz e::JN r
end
theorem KI:∀l:List Ex,(JN l).length=l.length
 |[]=>by rw[JN]
 |e::r=>by rw[JN,yz,yz,KI r]
theorem S3(e:Ex):Bv (nz e)=Bv e:=by
 cases e with
 |mk op n u rn ri args=>
  rw[nz]
  unfold Bv DC
  simp only[Ex.op,Ex.n,Ex.u,Ex.rn,Ex.ri,Ex.args,KI]
  by_cases h:op=1
  ·subst h;simp
  ·rw[yq h];rfl
section
variable{t:Tb}
mutual
theorem UQ(lt:Int):∀e:Ex,Rs t lt (nz e)=Rs t lt e
 |.mk op n u rn ri args=>by rw[nz,Rs,Rs,KI,UR lt args]
theorem UR(lt:Int):∀l:List Ex,Qp t lt (JN l)=Qp t lt l
 |[]=>by rw[JN]
 |e::r=>by rw[JN,Qp,Qp,UQ lt e,UR lt r]
end
mutual
theorem Re:∀e:Ex,IB t (nz e)=nz (IB t e)
 |.mk op n u rn ri args=>by rw[nz,IB,IB,nz,S4 args]
theorem S4:∀l:List Ex,GO t (JN l)=JN (GO t l)
 |[]=>by rw[JN,GO,JN]
 |e::r=>by rw[JN,GO,GO,JN,Re e,S4 r]
end
end
mutual
theorem Jk:∀e:Ex,Iv (nz e)=Iv e
 |.mk op n u rn ri args=>by rw[nz,Iv,Iv,PH args]
theorem PH:∀l:List Ex,F1 (JN l)=F1 l
 |[]=>by rw[JN]
 |e::r=>by rw[JN,F1,F1,Jk e,PH r]
end
mutual
theorem Hu:∀e:Ex,At (nz e)=At e
 |.mk op n u rn ri args=>by rw[nz,At,At,Nf args]
theorem Nf:∀l:List Ex,AW (JN l)=AW l
 |[]=>by rw[JN]
 |e::r=>by rw[JN,AW,AW,Hu e,Nf r]
end
theorem PI(a b c:Int)(e:Ex):nz (AX a b c e)=nz e:=by
 cases e with
 |mk op n u rn ri args=>
  simp only[AX]
  split
  ·rfl
  ·rename_i h
   have h1:op=1:=Decidable.byContradiction fun k=>h (.inl k)
   subst h1
   rw[nz,nz]
   simp
mutual
theorem Hv(a b c:Int):∀(k:Nat) (e:Ex),nz (Cr (AX a b c) k e)=nz e
 |0,e=>by rw[Cr];exact PI a b c e
 |k+1,.mk op n u rn ri args=>by
  rw[Cr]
  split
  ·exact PI a b c _
  ·rw[nz,nz,S5 a b c k args]
theorem S5(a b c:Int):∀(k:Nat) (l:List Ex),JN (NC (AX a b c) k l)=JN l
 |k,[]=>by rw[NC]
 |k,e::r=>by rw[NC,JN,JN,Hv a b c k e,S5 a b c k r]
end
def Hw(a b c:Int)(s:Ar):Ar:={s with lets:=s.lets.map fun d=>{d with value:=Cr (AX a b c) 8 d.value}}
theorem US(a b c:Int)(s:Ar):Av (Hw a b c s)=(Av s).map fun d=>(d.1,Cr (AX a b c) 8 d.2):=by
 unfold Av Hw
 simp only[List.map_map]
 rfl
theorem Ti(a b c:Int)(l:List F9):Ff (l.map fun d=>{d with value:=Cr (AX a b c) 8 d.value})=(Ff l).map fun e=>(Cr (AX a b c) 8 e.1,e.2):=by
 have e:(l.map fun d:F9=>{d with value:=Cr (AX a b c) 8 d.value}).zipIdx=l.zipIdx.map fun p=>({p.1 with value:=Cr (AX a b c) 8 p.1.value},p.2):=by
  refine xB (by simp) fun i h1 h2=>?_
  simp
 unfold Ff
 rw[e,zI,xk]
 rfl
def Wn(x:Ar):List Kc:=H9 x.crops++(EH x.reaches++(Ha x.farms++(IT x.rots++(FB x.rights++FC x.duties))))
theorem M2(a b c:Int)(s:Ar):As (Hw a b c s)=[(s.season,0),(s.cap,0),(s.start,0)]++(((Ff s.lets).map fun e=>(Cr (AX a b c) 8 e.1,e.2))++Wn s):=by
 rw[<-Ti]
 rfl
theorem Ig(s:Ar):As s=[(s.season,0),(s.cap,0),(s.start,0)]++(Ff s.lets++Wn s):=rfl
theorem S6(a b c:Int)(s:Ar){p:Kc->Bool}(d:∀e k,p (Cr (AX a b c) 8 e,k)=p (e,k)):(As (Hw a b c s)).all p=(As s).all p:=by
 rw[M2,Ig,xv,xv,xv,xv,List.all_map]
 congr 2
 refine yD (fun f=>(Ff s.lets).all f) (funext fun e=>?_)
 exact d e.1 e.2
theorem PJ{β:Type}(a b c:Int)(s:Ar){p:Kc->List β}(d:∀e k,p (Cr (AX a b c) 8 e,k)=p (e,k)):(As (Hw a b c s)).flatMap p=(As s).flatMap p:=by
 rw[M2,Ig,zo,zo,zo,zo,zI]
 congr 2
 refine yD (fun f=>(Ff s.lets).flatMap f) (funext fun e=>?_)
 exact d e.1 e.2
theorem Hx(a b c:Int)(e:Ex):Bv (Cr (AX a b c) 8 e)=Bv e:=by rw[<-S3,Hv,S3]
theorem Rg(a b c:Int)(s:Ar):Tb.of (Hw a b c s)=Tb.of s:=by
 unfold Tb.of Hw
 simp only[List.map_map]
 rfl
theorem Tj(a b c:Int)(s:Ar):AF (Hw a b c s)=AF s:=by
 have h1:Bn (Hw a b c s)=Bn s:=by
  unfold Bn Em
  rw[S6 a b c s (fun e k=>by simp only;rw[<-Hu,Hv,Hu])]
  congr 1
  unfold JT Hw
  simp
 have h2:Cx (Hw a b c s)=Cx s:=by
  unfold Cx Hw
  simp only[List.map_map]
  rfl
 have h3:EY (Hw a b c s)↔EY s:=by
  unfold EY Hw
  simp only[List.map_map]
  exact Iff.rfl
 have g:CU (Tb.of (Hw a b c s)) (Hw a b c s)=CU (Tb.of s) s:=by rw[Rg];rfl
 have f:Ci (Tb.of (Hw a b c s)) (Hw a b c s)=Ci (Tb.of s) s:=by
  rw[Rg]
  unfold Ci
  rw[S6 a b c s (fun e k=>by unfold JV;simp only;rw[Hx,<-UQ,Hv,UQ])]
  rfl
 unfold AF
 rw[h1,h2,g,f]
 by_cases d:EY s
 ·rw[yw d,yw (h3.2 d)]
 ·rw[yq d,yq (fun k=>d (h3.1 k))]
theorem Tk(a b c:Int)(s:Ar):Bq (Hw a b c s)=Bq s:=by
 have d:Cl (Hw a b c s)=Cl s:=by
  unfold Cl AP
  rw[PJ a b c s (fun e k=>by unfold E5;simp only;rw[Hx,<-Jk,Hv,Jk])]
  rfl
 have f:Cl (Ah (Hw a b c s))=Cl (Ah s):=by
  unfold Ah
  rw[Rg,P7,P7,PJ a b c s (fun e k=>by
   unfold E5 QE fT
   simp only
   rw[Hx]
   by_cases h:Bv e=true
   ·simp only[yw h,Hx]
   ·simp only[yq h,N6,Hx]
    rw[<-Jk,<-Re,Hv,Re,Jk])]
  rfl
 unfold Bq
 rw[Tj,d,f]
theorem UT(a b c:Int):T7 a b c [] []:=⟨rfl,fun i x d h=>by simp at h⟩
theorem IM{f e:Int}(h1:1<=f)(h3:f<=3)(a:e<=4):Bz f e<=81:=by
 unfold Bz
 obtain h|h|h|h|h:e.toNat=0∨e.toNat=1∨e.toNat=2∨e.toNat=3∨e.toNat=4:=by omega
 all_goals
  rw[h]
  obtain rfl|rfl|rfl:f=1∨f=2∨f=3:=by omega
  all_goals decide
theorem S7{x y z:Int}(e:x<=81)(b:y<=81)(d:z<=81)(c:0 < y)(a:0 < z):x*(y*z)<=531441:=by
 have h1:y*z<=81*81:=qk b d (by omega) (by decide)
 have h2:x*(y*z)<=81*(81*81):=qk e h1 (Int.le_of_lt (xI c a)) (by decide)
 omega
theorem M3{a b c:Int}(f:QY a b c){s:Ar}{x:Ex}(i:(B7 s x).2=0):
  Du (Hw a b c s) (Cr (AX a b c) 8 x)=Du s x∧(Du s x).2=0∧Fv (Du s x).1=true∧
  ((B7 (Hw a b c s) (Cr (AX a b c) 8 x)).2=0∨(B7 (Hw a b c s) (Cr (AX a b c) 8 x)).2=2)∧
  ((B7 (Hw a b c s) (Cr (AX a b c) 8 x)).2=0->(C8 (Ko a b c (Du s x).1) (JJ a b c (Du s x).1)).2=0∧
   KB 5 (B7 s x).1 (C8 (Ko a b c (Du s x).1) (JJ a b c (Du s x).1)).1=((B7 (Hw a b c s) (Cr (AX a b c) 8 x)).1,0)):=by
 have o:=Je f (Nb f (Av s) [] [] (UT a b c)) 8 8 x (yf _)
 rw[<-US] at o
 unfold B7 VA Du FM at*
 rw[Tk]
 by_cases t:Bq s=0
 rotate_left
 ·simp only[yq t] at i
  exact absurd i t
 simp only[yw t] at i ⊢
 generalize F0 (Am [] (Av s)) 8 x=A at i o ⊢
 generalize F0 (Am [] (Av (Hw a b c s))) 8 (Cr (AX a b c) 8 x)=B at o ⊢
 by_cases q:A.2=true
 rotate_left
 ·simp only[yq q] at i
  cases i
 simp only[yw q,zU] at i ⊢
 by_cases p:A.1.e=0
 rotate_left
 ·rw[yq p] at i;exact absurd i p
 obtain ⟨r1,r2,u,D,G⟩:=o q p
 simp only[yw r1,zU,yw p]
 refine ⟨by rw[r2],trivial,u,?_,?_⟩
 ·rcases G with m|⟨m,_⟩
  ·right
   rw[yq (by rw[m];decide)]
   exact m
  ·left
   rw[yw m]
 ·intro C
  have j:B.1.e=0:=by
   by_cases hb:B.1.e=0
   ·exact hb
   ·rw[yq hb] at C;exact absurd C hb
  rw[yw j]
  simp only
  rcases G with m|⟨_,M,z⟩
  ·rw[m] at j;cases j
  have N:=NU f A.1.dim
  have L:=LS f A.1.dim
  have S:(-4<=A.1.dim.l∧A.1.dim.l<=4)∧(-4<=A.1.dim.h∧A.1.dim.h<=4)∧(-4<=A.1.dim.a∧A.1.dim.a<=4):=by
   unfold Fv Qu at u
   simpa using u
  have V:Ko a b c A.1.dim<=531441:=S7 (IM f.a1 f.a3 (by omega)) (IM f.b1 f.b3 (by omega)) (IM f.c1 f.c3 (by omega)) (Dn f.b1 _) (Dn f.c1 _)
  have hd:JJ a b c A.1.dim<=531441:=S7 (IM f.a1 f.a3 (by omega)) (IM f.b1 f.b3 (by omega)) (IM f.c1 f.c3 (by omega)) (Dn f.b1 _) (Dn f.c1 _)
  generalize y:Ko a b c A.1.dim=P at*
  generalize r:JJ a b c A.1.dim=Q at*
  have k:Q≠0:=by omega
  have H:(C8 P Q).2=0:=by
   obtain ⟨g,I,E,F,Z,O,_,_,K,J⟩:=Fy (n:=P) k
   unfold C8
   rw[yq k,K,J,yq]
   have U:I<=I*g:=Nat.le_mul_of_pos_right _ F
   have X:E<=E*g:=Nat.le_mul_of_pos_right _ F
   unfold BR
   omega
  refine ⟨H,?_⟩
  obtain ⟨m1,T,Y⟩:=Lj H
  generalize (C8 P Q).1=w at*
  unfold KB
  rw[D,m1]
  simp only[Bool.and_self,zU]
  have R:Cu 5 A.1.v w=(A.1.v.n*w.n,A.1.v.d*w.d):=rfl
  rw[R]
  simp only
  have W:=((Et _).1 D).1;have q2:=((Et _).1 m1).1
  refine Vo (Int.mul_ne_zero (by omega) (by omega)) M ?_
  unfold Pt at z
  rw[r,y] at z
  refine xA k ?_
  grind
end Go.Proofs.YtjofgpfocadomaaGreatDoor

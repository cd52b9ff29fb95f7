/- Parts of the proof, in short words: Gi Gj Gl Cy Cz Da Db Cw Cr Jb Jc -/
import Derived.Test.YtbdfinegbjdblaaGreatDoorWq0
import Derived.Test.YtbdfinegbjdblaaGreatDoorWq8
import Derived.Deep.Cut
import Derived.Test.YtbdfinegbjdblaaGreatDoorWq9
set_option maxRecDepth 100000
set_option maxHeartbeats 8000000
set_option linter.unusedSimpArgs false
namespace Go.Proofs.YtbdfinegbjdblaaGreatDoor
open Go.RowKit Go.Proofs.Tryz
def OD(id:FuncId):Value:=.func (.func id) #[] #[]
def LD(id:FuncId)(B:Nat):Value:=.func (.func id) #[] #[.pointer (some ⟨B,0,none⟩)]
def Pl(B C:Nat)(k:Int):Value:=if k=3 then OD 103 else if k=4 then OD 103 else if k=5 then LD 129 B else LD 129 C
def QP(k:Int):Value:=if k=3 then OD 104 else if k=4 then OD 105 else if k=5 then OD 107 else OD 108
def EJ(B C:Nat):LV:=[.nilFunc,.nilFunc,.nilFunc,.nilFunc,.nilFunc,.nilFunc,OD 103,OD 104,OD 103,OD 105,LD 129 B,OD 107,LD 129 C,OD 108]
theorem Fe(w:World):Calls prog 69 #[] w λe w'=>∃B C,e=.returned (.agg (EJ B C).toArray)/\Below w.heap.size w w'/\w'.cell? ⟨B,0,none⟩=some (.int .i64 1)/\w'.cell? ⟨C,0,none⟩=some (.int .i64 (-1)):=by
 go_enter func69,ntmps69
 go_wp2_with (first|(go_at_call 106;refine (XI _ _).mono ?_;rintro e w2 ⟨rfl,rfl⟩))
 refine Bd (c:=EJ (w.heap.size+1) (w.heap.size+1+1)) rfl rfl (KL _ _ _ _) underlying168 rfl (by kernel_rfl) ⟨_,_,rfl,Jb _ _ _ _,Ey (JN _ _ _ _),Ey (Ep _ _ _ _)⟩
def Qn.row(q:Qn):LV:=[.int .i64 q.dim.l,.int .i64 q.dim.h,.int .i64 q.dim.a,.int .i64 q.v.n,.int .i64 q.v.d,.int .i64 q.e]
def Qn.val(q:Qn):Value:=.agg #[.int .i64 q.dim.l,.int .i64 q.dim.h,.int .i64 q.dim.a,.int .i64 q.v.n,.int .i64 q.v.d,.int .i64 q.e]
def cA(cs:LV)(k:Kn):Prop:=cs=[.string k.name,.int .i64 k.q.dim.l,.int .i64 k.q.dim.h,.int .i64 k.q.dim.a,.int .i64 k.q.v.n,.int .i64 k.q.v.d,.int .i64 k.q.e,.bool k.ok]
def RG(w:World)(h:AA)(a:List Kn):Prop:=Bg (λb=>b < w.heap.size) w 8 cA h a
def QQ(q:Qn × Bool)(w:World)(e:Ending)(w':World):Prop:=e=.returned (.tuple #[q.1.val,.bool q.2])/\Below w.heap.size w w'
theorem MM(rn:ByteArray)(ri:Int)(w:World):(Op.equalIn 10000 37 (.agg #[.string rn,.int .i64 ri]) (.agg #[.string {data:=#[]},.int .i64 0])).run prog w=.ok (Dw rn ri) w:=by
 have e:Dw rn ri=(decide (rn.toList=[])&&decide (ri=0)):=by
  unfold Dw
  rw[zo]
  simp only[yM,yw,Ea]
 rw[e]
 by_cases h1:rn.toList=[]
 ·by_cases h2:ri=0
  ·subst h2
   go_simp
  have a:(ri==0)=false:=by simpa using h2
  go_simp
 go_simp
theorem DX{W:World}{b:Nat}{x0 d a c e f:Value}{t:TypeId}(h:W.heap[b]?=some (.cells #[x0,d,a,c,e,f] t (0,0))):W.cell? ⟨b,0,none⟩=some x0/\W.cell? ⟨b,1,none⟩=some d/\W.cell? ⟨b,2,none⟩=some a/\W.cell? ⟨b,3,none⟩=some c/\W.cell? ⟨b,4,none⟩=some e/\W.cell? ⟨b,5,none⟩=some f:=by
 refine ⟨?_,?_,?_,?_,?_,?_⟩<;>simp[World.cell?,h]
theorem DO{W:World}{b n:Nat}{cs:Array Value}{t:TypeId}(h:W.heap[b]?=some (.cells cs t (0,0))):W.frozen? ⟨b,n,none⟩=false:=by
 simp[World.frozen?,h]
theorem D8{W:World}{b:Nat}{x0 k i j l m:Value}{t:TypeId}(h:W.heap[b]?=some (.cells #[x0,k,i,j,l,m] t (0,0)))(c e g d f a:Value):
  H8 W ((((((W.setCell ⟨b,0,none⟩ c).setCell ⟨b,1,none⟩ e).setCell ⟨b,2,none⟩ g).setCell ⟨b,3,none⟩ d).setCell ⟨b,4,none⟩ f).setCell ⟨b,5,none⟩ a) b [c,e,g,d,f,a] t:=
 Ca b t [c,e,g,d,f,a] 0 W [] [x0,k,i,j,l,m] [] h rfl rfl
structure PH (w:World) (cs:List Value) (q:Qn) (W:World):Prop where
 below:Below w.heap.size w W
 x:W.heap[w.heap.size]?=some (.cells cs.toArray 40 (0,0))
 q:W.heap[w.heap.size+1]?=some (.cells q.row.toArray 104 (0,0))
theorem PH.lt{w:World}{cs:LV}{q:Qn}{W:World}(h:PH w cs q W):w.heap.size+1 < W.heap.size:=(yd.1 h.q).1
theorem PH.up{w:World}{cs:LV}{q:Qn}{W W':World}(h:PH w cs q W)(hw:Below W.heap.size W W'):PH w cs q W':=by
 have a:=h.lt
 exact ⟨h.below.trans (hw.mono (by omega)),(hw.block _ (by omega)).trans h.x,(hw.block _ (by omega)).trans h.q⟩
theorem PH.set{w:World}{cs:LV}{q q':Qn}{W W':World}(h:PH w cs q W)(hw:H8 W W' (w.heap.size+1) q'.row 104):PH w cs q' W':=
 ⟨hw.below h.below (by omega),(hw.block _ (by omega)).trans h.x,hw.row⟩
theorem PH.drew{w:World}{cs:LV}{q:Qn}{W:World}(h:PH w cs q W):PH w cs q W.drew:=⟨h.below.drew,h.x,h.q⟩
theorem PH.new(w:World)(cs:LV):PH w cs Ge ((w.alloc (.cells cs.toArray 40)).alloc (.cells #[.int .i64 0,.int .i64 0,.int .i64 0,.int .i64 0,.int .i64 0,.int .i64 0] 104)):=by
 have h:=World.alloc_heap_new (w.alloc (.cells cs.toArray 40)) (.cells jE 104)
 simp only[ze] at h
 exact ⟨((yg _ _).alloc (yi _) _).alloc (by simp) _,(yp _ _ _ (by simp)).trans (World.alloc_heap_new w _),h⟩
def Kl(n u:Int)(rn:ByteArray)(ri:Int)(m:Nat):Prop:=¬ (m=0/\Dw rn ri=true/\0<=n/\n<=Qr/\0<=u/\u<=5)
instance (n u:Int) (rn:ByteArray) (ri:Int) (m:Nat):Decidable (Kl n u rn ri m):=by unfold Kl;infer_instance
theorem Z1(known:Value)(left:Int)(n u:Int)(rn:ByteArray)(ri:Int)(a:Option Addr)(m cap:Nat)(w:World)(hg:GU w):
  Calls prog 41 #[known,.agg #[.int .i64 1,.int .i64 n,.int .i64 u,.string rn,.int .i64 ri,.slice a m cap],.int .i64 left] w (QQ (if Kl n u rn ri m then (Ge,false) else (Ny n u,true)) w):=by
 have HG:=yb hg
 clear hg
 have HW:=yb (PH.new w [.int .i64 1,.int .i64 n,.int .i64 u,.string rn,.int .i64 ri,.slice a m cap])
 have hq:=MM rn ri
 have hgt:prog.eqGuardType prog.depth 37=false:=by kernel_rfl
 obtain ⟨res,hres⟩:∃res,res=if Kl n u rn ri m then (Ge,false) else (Ny n u,true):=⟨_,rfl⟩
 rw[<-hres]
 have HRes:=yb hres
 clear hres
 go_enter func41,ntmps41
 refine Ai λK hK=>?_
 go_wp2
 refine hK.o _ _ ?_
 clear hK
 generalize (w.alloc (.cells #[.int .i64 1,.int .i64 n,.int .i64 u,.string rn,.int .i64 ri,.slice a m cap] 40)).alloc (.cells #[.int .i64 0,.int .i64 0,.int .i64 0,.int .i64 0,.int .i64 0,.int .i64 0] 104)=W at HW |-
 obtain ⟨x0,x1,x2,x3,x4,x5⟩:=DX HW.o.x
 go_upto_region 2 with fail
 iterate 6
  obtain ⟨bb,hbb⟩:∃bb:Bool,bb=decide (Kl n u rn ri m):=⟨_,rfl⟩
  have HBb:=yb hbb
  clear hbb
 go_cut [48] from 19 (λc wx=>Hid (c=.bool bb/\wx=W))
 case first=>
  by_cases h1:m=0
  rotate_left
  ·have e1:decide (0 < (m:Int))=true:=by simp;omega
   have f1:0 < m:=by omega
   have g1:¬ m=0:=h1
   have hb:Hid (Kl n u rn ri m):=yb (λh=>h1 (by first|exact h.1|exact h.2.1|exact h.2.2.1|exact h.2.2.2.1|exact h.2.2.2.2.1|exact h.2.2.2.2.2))
   clear h1
   go_wp2
   go_meet
   exact yb ⟨yN Value.bool (HBb.o.trans (xz hb.o)).symm,rfl⟩
  have e1:decide (0 < (m:Int))=false:=by simp;omega
  subst h1
  by_cases h2:Dw rn ri=true
  rotate_left
  ·have e2:Dw rn ri=false:=by simpa using h2
   have hb:Hid (Kl n u rn ri 0):=yb (λh=>h2 (by first|exact h.1|exact h.2.1|exact h.2.2.1|exact h.2.2.2.1|exact h.2.2.2.2.1|exact h.2.2.2.2.2))
   clear h2
   go_wp2
   go_meet
   exact yb ⟨yN Value.bool (HBb.o.trans (xz hb.o)).symm,rfl⟩
  have e2:Dw rn ri=true:=h2
  by_cases h3:0<=n
  rotate_left
  ·have e3:decide (n < 0)=true:=by simp;omega
   have hb:Hid (Kl n u rn ri 0):=yb (λh=>h3 (by first|exact h.1|exact h.2.1|exact h.2.2.1|exact h.2.2.2.1|exact h.2.2.2.2.1|exact h.2.2.2.2.2))
   clear h2 h3
   go_wp2
   go_meet
   exact yb ⟨yN Value.bool (HBb.o.trans (xz hb.o)).symm,rfl⟩
  have e3:decide (n < 0)=false:=by simp;omega
  by_cases h4:n<=Qr
  rotate_left
  ·have e4:decide (1099511627776 < n)=true:=by simp[Qr] at h4 |-;omega
   have hb:Hid (Kl n u rn ri 0):=yb (λh=>h4 (by first|exact h.1|exact h.2.1|exact h.2.2.1|exact h.2.2.2.1|exact h.2.2.2.2.1|exact h.2.2.2.2.2))
   clear h2 h3 h4
   go_wp2
   go_meet
   exact yb ⟨yN Value.bool (HBb.o.trans (xz hb.o)).symm,rfl⟩
  have e4:decide (1099511627776 < n)=false:=by simp[Qr] at h4 |-;omega
  by_cases h5:0<=u
  rotate_left
  ·have e5:decide (u < 0)=true:=by simp;omega
   have hb:Hid (Kl n u rn ri 0):=yb (λh=>h5 (by first|exact h.1|exact h.2.1|exact h.2.2.1|exact h.2.2.2.1|exact h.2.2.2.2.1|exact h.2.2.2.2.2))
   clear h2 h3 h4 h5
   go_wp2
   go_meet
   exact yb ⟨yN Value.bool (HBb.o.trans (xz hb.o)).symm,rfl⟩
  have e5:decide (u < 0)=false:=by simp;omega
  by_cases h6:u<=5
  rotate_left
  ·have e6:decide (5 < u)=true:=by simp;omega
   have hb:Hid (Kl n u rn ri 0):=yb (λh=>h6 (by first|exact h.1|exact h.2.1|exact h.2.2.1|exact h.2.2.2.1|exact h.2.2.2.2.1|exact h.2.2.2.2.2))
   clear h2 h3 h4 h5 h6
   go_wp2
   go_meet
   exact yb ⟨yN Value.bool (HBb.o.trans (xz hb.o)).symm,rfl⟩
  have e6:decide (5 < u)=false:=by simp;omega
  have hb:Hid (¬ Kl n u rn ri 0):=yb (λh=>h ⟨rfl,h2,h3,h4,h5,h6⟩)
  clear h2 h3 h4 h5 h6
  go_wp2
  go_meet
  exact yb ⟨yN Value.bool (HBb.o.trans (xR hb.o)).symm,rfl⟩
 obtain ⟨rfl,rfl⟩:=hcut.o
 clear hcut
 have hqr:wc.heap[w.heap.size+1]?=some (.cells #[.int .i64 0,.int .i64 0,.int .i64 0,.int .i64 0,.int .i64 0,.int .i64 0] 104 (0,0)):=HW.o.q
 have HQR:=yb hqr
 cases bb with
 |true=>
  have hr:Hid (res=(Ge,false)):=yb (by rw[HRes.o,yz (zE HBb.o.symm)])
  clear HRes HBb
  obtain ⟨q0,q1,q2,q3,q4,q5⟩:=DX hqr
  have qf:=λk=>DO (n:=k) hqr
  clear hqr
  go_wp2
  have hwr:=D8 HQR.o (.int .i64 0) (.int .i64 0) (.int .i64 0) (.int .i64 0) (.int .i64 0) (.int .i64 0)
  exact Ab (c:=Ge.row) rfl rfl hwr.row qV rfl (by kernel_rfl) ⟨by rw[hr.o];rfl,hwr.below HW.o.below (by omega)⟩
 |false=>
  have hr:Hid (res=(Ny n u,true)):=yb (by rw[HRes.o,ym (of_decide_eq_false HBb.o.symm)])
  have hnb:Hid (0<=n/\n<=Qr):=yb (by
   have h:=of_decide_eq_false HBb.o.symm
   unfold Kl at h
   exact ⟨(Decidable.not_not.1 h).2.2.1,(Decidable.not_not.1 h).2.2.2.1⟩)
  clear HRes HBb hqr
  have HG1:=yb (HG.o.up HW.o.below)
  have HU:Hid (∀W,GU W->Calls prog 68 #[.int .i64 u] W λe w'=>e=.returned (.tuple #[(II u).v,.int .i64 (Fo u)])/\Below W.heap.size W w'):=yb (λW hW=>Wb u W hW)
  have hNq:Ny n u=if Dv / Fo u < n then ⟨II u,Ja,2⟩ else ⟨II u,⟨Fo u*n,1⟩,0⟩:=rfl
  rw[hNq] at hr
  clear hNq
  have hk3:Fo u=1\/Fo u=1000\/Fo u=24:=by
   unfold Fo
   split
   ·exact .inr (.inl rfl)
   split
   ·exact .inr (.inr rfl)
   exact .inl rfl
  generalize Fo u=k at*
  generalize II u=d at*
  obtain ⟨dl,dh,da⟩:=d
  unfold Dm.v at HU
  dsimp only at HU
  obtain ⟨t,ht⟩:∃t:Int,t=(1073741824:Int).tdiv k:=⟨_,rfl⟩
  have ht1:t=Dv / k:=by rw[ht];unfold Dv;rw[Int.tdiv_eq_ediv_of_nonneg (by omega)]
  have ht2:(1073741824:Int).tdiv k=t:=ht.symm
  have ht3:wrap64 t=t:=Ay (by unfold Dv at ht1;rcases hk3 with rfl|rfl|rfl<;>omega)
  have ht5:(1073741824:Int) / k=t:=ht1.symm
  have hk0:¬ k=0:=by omega
  have hkp:wrap64 (k*n)=k*n:=Ay (by have:=hnb.o;unfold Qr at this;rcases hk3 with rfl|rfl|rfl<;>omega)
  rw[<-ht1] at hr
  clear ht ht1 hk3 x0 x1 x2 x3 x4 x5
  obtain ⟨x0,x1,x2,x3,x4,x5⟩:=DX HW.o.x
  have HX2:Hid (∀w2,Below wc.heap.size wc w2->PH w [.int .i64 1,.int .i64 n,.int .i64 u,.string rn,.int .i64 ri,.slice a m cap] Ge (w2.alloc (.cells #[.int .i64 dl,.int .i64 dh,.int .i64 da] 102))):=yb (λw2 h=>(HW.o.up h).up ((yg _ _).alloc (yi _) _))
  go_upto_region 5 with (first|(go_at_call 68;refine (HU.o _ HG1.o).mono ?_;rintro e w2 ⟨rfl,hw2⟩;have HW2:=yb (HX2.o w2 hw2);clear hw2))
  have hdr:(w2.alloc (.cells #[.int .i64 dl,.int .i64 dh,.int .i64 da] 102)).heap[w2.heap.size]?=some (.cells #[.int .i64 dl,.int .i64 dh,.int .i64 da] 102 (0,0)):=World.alloc_heap_new _ _
  generalize w2.alloc (.cells #[.int .i64 dl,.int .i64 dh,.int .i64 da] 102)=W3 at HW2 hdr |-
  obtain ⟨d0,d1,d2,df0,df1,df2⟩:=IJ hdr
  have hqr:W3.heap[w.heap.size+1]?=some (.cells #[.int .i64 0,.int .i64 0,.int .i64 0,.int .i64 0,.int .i64 0,.int .i64 0] 104 (0,0)):=HW2.o.q
  obtain ⟨q0,q1,q2,q3,q4,q5⟩:=DX hqr
  have qf:=λk=>DO (n:=k) hqr
  clear hdr hqr
  go_upto_region 6 with fail
  have HW4:=yb (HW2.o.set (q':=⟨⟨dl,dh,da⟩,Ja,0⟩) (Ca (w.heap.size+1) _ [.int .i64 dl,.int .i64 dh,.int .i64 da] 0 W3 [] [.int .i64 0,.int .i64 0,.int .i64 0] [.int .i64 0,.int .i64 0,.int .i64 0] HW2.o.q rfl rfl))
  clear HW2 q0 q1 q2 q3 q4 q5 qf d0 d1 d2 df0 df1 df2 x0 x1 x2 x3 x4 x5
  simp only[World.setCells,yy,Nat.reduceAdd] at HW4
  generalize (((W3.setCell ⟨w.heap.size+1,0,none⟩ (.int .i64 dl)).setCell ⟨w.heap.size+1,1,none⟩ (.int .i64 dh)).setCell ⟨w.heap.size+1,2,none⟩ (.int .i64 da))=W4 at HW4 |-
  have x1:=(DX HW4.o.x).2.1
  by_cases hlt:t < n
  ·have e1:decide (t < n)=true:=by simpa using hlt
   have hfr:Hid (res=(⟨⟨dl,dh,da⟩,Ja,2⟩,true)):=yb (by rw[hr.o,yz hlt])
   clear hlt hr
   go_region
   have HW5:=yb HW4.o.drew
   clear HW4 x1
   generalize W4.drew=W5 at HW5 |-
   have x1:=(DX HW5.o.x).2.1
   have hq5:W5.heap[w.heap.size+1]?=some (.cells #[.int .i64 dl,.int .i64 dh,.int .i64 da,.int .i64 0,.int .i64 0,.int .i64 0] 104 (0,0)):=HW5.o.q
   obtain ⟨q0,q1,q2,q3,q4,q5⟩:=DX hq5
   have qf:=λk=>DO (n:=k) hq5
   have HW6:=yb (HW5.o.set (q':=⟨⟨dl,dh,da⟩,Ja,2⟩) (Ca (w.heap.size+1) _ [.int .i64 2] 5 W5 [.int .i64 dl,.int .i64 dh,.int .i64 da,.int .i64 0,.int .i64 0] [.int .i64 0] [] hq5 rfl rfl))
   simp only[World.setCells,yy,Nat.reduceAdd] at HW6
   clear hq5
   go_wp2
   have hwr:=D8 HW6.o.q (.int .i64 dl) (.int .i64 dh) (.int .i64 da) (.int .i64 0) (.int .i64 0) (.int .i64 2)
   exact Ab (c:=(⟨⟨dl,dh,da⟩,Ja,2⟩:Qn).row) rfl rfl hwr.row qV rfl (by kernel_rfl) ⟨by rw[hfr.o];rfl,hwr.below HW6.o.below (by omega)⟩
  have e1:decide (t < n)=false:=by simpa using hlt
  have hfr:Hid (res=(⟨⟨dl,dh,da⟩,⟨k*n,1⟩,0⟩,true)):=yb (by rw[hr.o,ym hlt])
  clear hlt hr
  go_region
  have HW5:=yb HW4.o.drew
  clear HW4 x1
  generalize W4.drew=W5 at HW5 |-
  have x1:=(DX HW5.o.x).2.1
  have hq5:W5.heap[w.heap.size+1]?=some (.cells #[.int .i64 dl,.int .i64 dh,.int .i64 da,.int .i64 0,.int .i64 0,.int .i64 0] 104 (0,0)):=HW5.o.q
  obtain ⟨q0,q1,q2,q3,q4,q5⟩:=DX hq5
  have qf:=λk=>DO (n:=k) hq5
  have HW6:=yb (HW5.o.set (q':=⟨⟨dl,dh,da⟩,⟨k*n,1⟩,0⟩) (Ca (w.heap.size+1) _ [.int .i64 (k*n),.int .i64 1] 3 W5 [.int .i64 dl,.int .i64 dh,.int .i64 da] [.int .i64 0,.int .i64 0] [.int .i64 0] hq5 rfl rfl))
  simp only[World.setCells,yy,Nat.reduceAdd] at HW6
  clear hq5
  go_wp2
  have hwr:=D8 HW6.o.q (.int .i64 dl) (.int .i64 dh) (.int .i64 da) (.int .i64 (k*n)) (.int .i64 1) (.int .i64 0)
  exact Ab (c:=(⟨⟨dl,dh,da⟩,⟨k*n,1⟩,0⟩:Qn).row) rfl rfl hwr.row qV rfl (by kernel_rfl) ⟨by rw[hfr.o];rfl,hwr.below HW6.o.below (by omega)⟩
def Wx(op left n u:Int)(rn:ByteArray)(ri:Int)(m:Nat):Prop:=3<=op/\op<=6/\left≠0/\m=2/\n=0/\u=0/\Dw rn ri=true
theorem Z3(g:Value)(left:Int)(op n u:Int)(rn:ByteArray)(ri:Int)(a:Option Addr)(m cap:Nat)(w:World)(h1:op≠1)(h2:op≠2)(hb:¬ Wx op left n u rn ri m):
  Calls prog 41 #[g,.agg #[.int .i64 op,.int .i64 n,.int .i64 u,.string rn,.int .i64 ri,.slice a m cap],.int .i64 left] w (QQ (Ge,false) w):=by
 have e:=yb (PH.new w [iV op,iV n,iV u,.string rn,iV ri,.slice a m cap])
 have O:=MM rn ri
 have s:prog.eqGuardType prog.depth 37=false:=by kernel_rfl
 have l:=yb hb
 have F:(op==1)=false:=by simpa using h1
 have R:(op==2)=false:=by simpa using h2
 clear hb h1 h2
 go_enter func41,ntmps41
 refine Ai λK h=>?_
 go_wp2
 refine h.o _ _ ?_
 clear h
 generalize (w.alloc (.cells #[iV op,iV n,iV u,.string rn,iV ri,.slice a m cap] 40)).alloc (.cells jE 104)=W at e |-
 obtain ⟨x0,Q,P,J,S,I⟩:=DX e.o.x
 have f:W.heap[w.heap.size+1]?=some (.cells jE 104 (0,0)):=e.o.q
 have d:=yb f
 obtain ⟨H,q1,q2,G,z,T⟩:=DX f
 have B:=λk=>DO (n:=k) f
 clear f
 refine Ai λK h=>?_
 clear h
 go_upto_region 14 with fail
 by_cases h1:3<=op
 rotate_left
 ·have t:decide (op < 3)=true:=by simp<;>omega
  clear h1
  go_wp2
  have b:=D8 d.o (iV 0) (iV 0) (iV 0) (iV 0) (iV 0) (iV 0)
  exact Ab (c:=Ge.row) rfl rfl b.row qV rfl (by kernel_rfl) ⟨rfl,b.below e.o.below (by omega)⟩
 have t:decide (op < 3)=false:=by simp<;>omega
 by_cases h2:op<=6
 rotate_left
 ·have y:decide (6 < op)=true:=by simp<;>omega
  clear h1 h2
  go_wp2
  have b:=D8 d.o (iV 0) (iV 0) (iV 0) (iV 0) (iV 0) (iV 0)
  exact Ab (c:=Ge.row) rfl rfl b.row qV rfl (by kernel_rfl) ⟨rfl,b.below e.o.below (by omega)⟩
 have y:decide (6 < op)=false:=by simp<;>omega
 by_cases h3:left≠0
 rotate_left
 ·have v:(left==0)=true:=by simpa using h3
  clear h1 h2 h3
  go_wp2
  have b:=D8 d.o (iV 0) (iV 0) (iV 0) (iV 0) (iV 0) (iV 0)
  exact Ab (c:=Ge.row) rfl rfl b.row qV rfl (by kernel_rfl) ⟨rfl,b.below e.o.below (by omega)⟩
 have v:(left==0)=false:=by simpa using h3
 by_cases r:m=2
 rotate_left
 ·have D:((m:Int)==2)=false:=by simp<;>omega
  have E:((m:Int) !=2)=true:=by simp<;>omega
  clear h1 h2 h3 r
  go_wp2
  have b:=D8 d.o (iV 0) (iV 0) (iV 0) (iV 0) (iV 0) (iV 0)
  exact Ab (c:=Ge.row) rfl rfl b.row qV rfl (by kernel_rfl) ⟨rfl,b.below e.o.below (by omega)⟩
 subst r
 by_cases i:n=0
 rotate_left
 ·have C:(n==0)=false:=by simpa using i
  have N:(n !=0)=true:=by simpa using i
  clear h1 h2 h3 i
  go_wp2
  have b:=D8 d.o (iV 0) (iV 0) (iV 0) (iV 0) (iV 0) (iV 0)
  exact Ab (c:=Ge.row) rfl rfl b.row qV rfl (by kernel_rfl) ⟨rfl,b.below e.o.below (by omega)⟩
 subst i
 by_cases j:u=0
 rotate_left
 ·have L:(u==0)=false:=by simpa using j
  have M:(u !=0)=true:=by simpa using j
  clear h1 h2 h3 j
  go_wp2
  have b:=D8 d.o (iV 0) (iV 0) (iV 0) (iV 0) (iV 0) (iV 0)
  exact Ab (c:=Ge.row) rfl rfl b.row qV rfl (by kernel_rfl) ⟨rfl,b.below e.o.below (by omega)⟩
 subst j
 by_cases p:Dw rn ri=true
 rotate_left
 ·have A:Dw rn ri=false:=by simpa using p
  clear h1 h2 h3 p
  go_wp2
  have b:=D8 d.o (iV 0) (iV 0) (iV 0) (iV 0) (iV 0) (iV 0)
  exact Ab (c:=Ge.row) rfl rfl b.row qV rfl (by kernel_rfl) ⟨rfl,b.below e.o.below (by omega)⟩
 exact absurd ⟨h1,h2,h3,rfl,rfl,rfl,p⟩ l.o
theorem Sw(n:Int)(h1: -4611686018427387904<=n)(h2:n<=4611686018427387904)(w:World):Calls prog 149 #[.int .i64 n] w λe w'=>e=.returned (.int .i64 (n.natAbs:Int))/\w'=w:=by
 by_cases a:n < 0
 ·have hw:IntKind.i64.wrap (-n)=(n.natAbs:Int):=by rw[zF];omega
  have hd:decide (n < 0)=true:=by simpa using a
  clear a h1 h2
  go_enter func149,ntmps149
  go_wp2
  go_ret
  exact ⟨rfl,rfl⟩
 have hw:(n.natAbs:Int)=n:=by omega
 have hd:decide (n < 0)=false:=by simpa using a
 rw[hw]
 clear a h1 h2 hw
 go_enter func149,ntmps149
 go_wp2
 go_ret
 exact ⟨rfl,rfl⟩
theorem NJ(a b:Nat)(h1:a<=4611686018427387904)(h2:b<=4611686018427387904)(w:World):Calls prog 148 #[.int .i64 (a:Int),.int .i64 (b:Int)] w λe w'=>e=.returned (.int .i64 (Nat.gcd a b:Int))/\w'=w:=by
 have d:Hid (Nat.gcd a b=Nat.gcd a b/\a<=4611686018427387904/\b<=4611686018427387904):=yb ⟨rfl,h1,h2⟩
 clear h1 h2
 obtain ⟨g,hg⟩:∃g,g=Nat.gcd a b:=⟨_,rfl⟩
 obtain ⟨I,f⟩:∃I:Nat->Nat->Prop,I=λx y=>Nat.gcd x y=g/\x<=4611686018427387904/\y<=4611686018427387904:=⟨_,rfl⟩
 have p:Hid (I a b):=yb (by rw[f,hg];exact d.o)
 rw[<-hg]
 have k:=yb f
 clear hg f d
 go_enter func148,ntmps148
 refine Ai λK c=>?_
 go_wp2
 refine c.o _ _ ?_
 clear c K
 refine Ai λK c=>?_
 go_wp2
 go_loopw [0,1,5] (λs i u wr=>∃x y:Nat,s=iV x/\i=iV y/\Hid (I x y)/\wr=w) (λ_ i _ _=>(intOf i).toNat)
 case atStart=>exact ⟨a,b,rfl,rfl,p,rfl⟩
 obtain ⟨x,y,rfl,rfl,q,rfl⟩:=hrel
 have h:=q.o
 rw[k.o] at h
 by_cases l:y=0
 ·subst l
  have hr:x=g:=by simpa using h.1
  clear h
  go_wp2
  refine c.o _ _ ?_
  clear c
  go_wp2
  go_ret
  exact ⟨by rw[hr];rfl,rfl⟩
 have hd:decide (0 < y)=true:=by simpa using (by omega:0 < y)
 have t:((y:Int)==0)=false:=by simpa using l
 have r:Int.tmod (x:Int) (y:Int)=((x % y:Nat):Int):=by rw[Int.tmod_eq_emod_of_nonneg (by omega)];omega
 have m:Hid (I y (x % y)):=yb (by
  rw[k.o]
  have n:=qP x (by omega:0 < y)
  exact ⟨by rw[<-h.1,Nat.gcd_comm y,<-Nat.gcd_rec,Nat.gcd_comm],h.2.2,by omega⟩)
 have j:Hid (x % y < y):=yb (qP x (by omega))
 have hw:IntKind.i64.wrap ((x % y:Nat):Int)=((x % y:Nat):Int):=by rw[zF];have:=j.o;omega
 clear h
 generalize x % y=z at r hw m j
 go_wp2
 exact ⟨⟨y,z,rfl,rfl,m,trivial⟩,by have:=j.o;simpa[intOf] using this⟩
theorem XV(w:World)(u v:Value)(t:TypeId):(w.alloc (.cells #[u,v] t)).cell? ⟨w.heap.size,0,none⟩=some u/\(w.alloc (.cells #[u,v] t)).cell? ⟨w.heap.size,1,none⟩=some v:=by
 have h:=World.alloc_heap_new w (.cells #[u,v] t)
 generalize w.alloc _=W at*
 constructor<;>(simp only[World.cell?,h];rfl)
theorem IU(a:Rt)(w:World):Calls prog 142 #[.agg #[.int .i64 a.n,.int .i64 a.d]] w λe w'=>e=.returned (.bool (AJ a))/\Below w.heap.size w w':=by
 obtain ⟨n,d⟩:=a
 dsimp only
 have f:=yb ((yg w.heap.size w).alloc (yi _) (.cells #[iV n,iV d] 58))
 obtain ⟨x,y⟩:=XV w (iV n) (iV d) 58
 obtain ⟨q,c⟩:∃r,r=AJ ⟨n,d⟩:=⟨_,rfl⟩
 rw[<-c]
 unfold AJ Dv at c
 dsimp only at c
 obtain ⟨b1,k⟩:∃b,decide (1<=d)=b:=⟨_,rfl⟩
 obtain ⟨b2,j⟩:∃b,decide (d<=1073741824)=b:=⟨_,rfl⟩
 obtain ⟨v,l⟩:∃b,decide (-1073741824<=n)=b:=⟨_,rfl⟩
 obtain ⟨u,i⟩:∃b,decide (n<=1073741824)=b:=⟨_,rfl⟩
 rw[k,j,l,i] at c
 rcases QO b1 b2 v u with rfl|⟨rfl,rfl⟩|⟨rfl,rfl,rfl⟩|⟨rfl,rfl,rfl,rfl⟩|⟨rfl,rfl,rfl,rfl⟩
 rotate_left 4
 ·have h1:1<=d:=by simpa using k
  have h2:d<=1073741824:=by simpa using j
  have h3: -1073741824<=n:=by simpa using l
  have t:n<=1073741824:=by simpa using i
  have s:=yb (λW:World=>Sw n (by omega) (by omega) W)
  have m:=yb (λW:World=>NJ n.natAbs d.natAbs (by omega) (by omega) W)
  rw[show ((d.natAbs:Nat):Int)=d by omega] at m
  have hr:q=decide (((Nat.gcd n.natAbs d.natAbs:Nat):Int)=1):=by
   rw[c,zo]
   simp only[Int.gcd,Bool.true_and,yM]
   exact ⟨λh=>by rw[zE h];rfl,λh=>xz (by exact_mod_cast h)⟩
  generalize Nat.gcd n.natAbs d.natAbs=g at m hr
  rw[<-Hz] at hr
  have p:=yb hr
  clear c hr h1 h2 h3 t
  go_enter func142,ntmps142
  go_upto_region 1 with fail
  generalize w.alloc _=W at*
  go_region_with (first
   |(go_at_call 149;(with_reducible refine (s.o _).mono ?_);rintro e w2 ⟨rfl,rfl⟩)
   |(go_at_call 148;(with_reducible refine (m.o _).mono ?_);rintro e w2 ⟨rfl,rfl⟩))
  all_goals
   simp only[Exit.then]
   go_step
   go_wp2
   go_ret
   exact ⟨by rw[p.o];rfl,by first|exact f.o|exact f.o.drew|exact f.o.drew.drew|exact f.o.drew.drew.drew|exact f.o.drew.drew.drew.drew⟩
 all_goals
  have p:=yb c
  clear c
  go_enter func142,ntmps142
  go_upto_region 1 with fail
  generalize w.alloc _=W at*
  go_region
  simp only[Exit.then]
  go_step
  go_wp2
  go_ret
  exact ⟨by rw[p.o];rfl,f.o.drew⟩
theorem Ln(a:Rt)(w:World):Calls prog 134 #[.agg #[.int .i64 a.n,.int .i64 a.d]] w λe w'=>e=.returned (.int .i64 (if AJ a=true then 0 else 120))/\Below w.heap.size w w':=by
 have c:=yb (λW:World=>IU a W)
 obtain ⟨n,d⟩:=a
 dsimp only at c |-
 generalize AJ ⟨n,d⟩=ok at*
 have f:=yb ((yg w.heap.size w).alloc (yi _) (.cells #[iV n,iV d] 58))
 have g:Hid ((w.alloc (.cells #[iV n,iV d] 58)).rangeAt w.heap.size 0 [iV n,iV d]):=yb (Ae (World.alloc_heap_new _ _))
 cases ok
 all_goals
  go_enter func134,ntmps134
  go_upto_region 1 with fail
  generalize w.alloc _=W at*
  go_wp2_with (first
   |(with_reducible refine yj rfl 58 (.tmp 1) rfl w.heap.size 0 (by kernel_rfl) _ _ g.o ju rfl (by kernel_rfl) ?_)
   |(go_at_call 142;(with_reducible refine (c.o _).mono ?_);rintro e w2 ⟨rfl,hb⟩;have b:=yb (f.o.trans (hb.mono f.o.size));clear hb))
  go_ret
  exact ⟨rfl,b.o⟩
theorem Bn{ops:Array Oper}{rest:List Oper}{op:Oper}{a:Act}{w:World}{Q:QT}(hw:Region.wanted op (yielded ops a.tmps)=true)(ty:TypeId)(x:Operand)(f:op.op=.load ty x)
 (b o:Nat)(g:a.eval x=.pointer (some ⟨b,o,none⟩))(cs:LV)(d:TypeDesc)(hc:w.rangeAt b o cs)(e:prog.underlying ty=some d)(hd:d.isRow=true)(hi:(prog.info? ty).map (·.size)=some cs.length)
 (h:wpList prog ops Q rest (a.put op.dst (.agg cs.toArray)) w):wpList prog ops Q (op::rest) a w:=
 wpList_step λK c=>by rw[yz hw];exact xQ ty x f b o g cs d hc e hd hi (c _ _ h)
theorem Ko{a:Rt}(h:AJ a=true):1<=a.d/\a.d<=1073741824/\ -1073741824<=a.n/\a.n<=1073741824:=by
 unfold AJ Dv at h
 simp only[yw,yM] at h
 omega
theorem MQ(a b:Rt)(l:AJ a=true)(hb:AJ b=true)(w:World):Calls prog 144 #[.agg #[.int .i64 a.n,.int .i64 a.d],.agg #[.int .i64 b.n,.int .i64 b.d]] w λe w'=>e=.returned (.bool (decide (a.n*b.d < b.n*a.d)))/\Below w.heap.size w w':=by
 obtain ⟨m,r,a3,a4⟩:=Ko l
 obtain ⟨b1,b2,q,p⟩:=Ko hb
 obtain ⟨f,g⟩:=a
 obtain ⟨h,j⟩:=b
 dsimp only at m r a3 a4 b1 b2 q p |-
 have m1:=Jh (x:=f) (y:=j) (by omega) (by omega) (by omega) (by omega)
 have t:=Jh (x:=h) (y:=g) (by omega) (by omega) (by omega) (by omega)
 clear l hb m r a3 a4 b1 b2 q p
 have c:=yb (Jg w [iV f,iV g] [iV h,iV j] 58 58)
 go_enter func144,ntmps144
 go_upto_region 1 with fail
 generalize (w.alloc _).alloc _=W at c |-
 have k:=c.o.x
 have i:=c.o.y
 have x0:W.cell? (aV w.heap.size 0)=some (iV f):=by simp[World.cell?,k]
 have v:W.cell? (aV w.heap.size 1)=some (iV g):=by simp[World.cell?,k]
 have s:W.cell? (aV (w.heap.size+1) 0)=some (iV h):=by simp[World.cell?,i]
 have u:W.cell? (aV (w.heap.size+1) 1)=some (iV j):=by simp[World.cell?,i]
 clear k i
 go_wp2
 go_ret
 exact ⟨rfl,c.o.below⟩
theorem Sx(a b:Rt)(w:World):Calls prog 143 #[.agg #[.int .i64 a.n,.int .i64 a.d],.agg #[.int .i64 b.n,.int .i64 b.d]] w λe w'=>e=.returned (.bool (AJ a&&AJ b))/\Below w.heap.size w w':=by
 have j:=yb (λW:World=>IU a W)
 have i:=yb (λW:World=>IU b W)
 obtain ⟨k,l⟩:=a
 obtain ⟨m,p⟩:=b
 dsimp only at j i |-
 generalize AJ ⟨k,l⟩=q at*
 generalize AJ ⟨m,p⟩=r at*
 have c:=yb (Jg w [iV k,iV l] [iV m,iV p] 58 58)
 cases q
 ·go_enter func143,ntmps143
  go_upto_region 1 with fail
  generalize (w.alloc _).alloc _=W at c |-
  have h:=yb (Ae c.o.x)
  have f:=yb (Ae c.o.y)
  go_wp2_with (first
   |(with_reducible refine Bn (by kernel_rfl) 58 (.tmp 2) rfl w.heap.size 0 (by kernel_rfl) _ _ h.o ju rfl (by kernel_rfl) ?_)
   |(go_at_call 142;(with_reducible refine (j.o _).mono ?_);rintro e w2 ⟨rfl,hb⟩;have g:=yb (c.o.up hb);clear hb c;have c:=g;clear g f;have f:=yb (Ae c.o.y))
   |(go_at_call 142;(with_reducible refine (i.o _).mono ?_);rintro e w2 ⟨rfl,hb⟩;have g:=yb (c.o.up hb);clear hb c;have c:=g;clear g))
  go_ret
  exact ⟨rfl,c.o.below⟩
 go_enter func143,ntmps143
 go_upto_region 1 with fail
 generalize (w.alloc _).alloc _=W at c |-
 have h:=yb (Ae c.o.x)
 have f:=yb (Ae c.o.y)
 go_wp2_with (first
  |(with_reducible refine Bn (by kernel_rfl) 58 (.tmp 2) rfl w.heap.size 0 (by kernel_rfl) _ _ h.o ju rfl (by kernel_rfl) ?_)
  |(with_reducible refine Bn (by kernel_rfl) 58 (.tmp 3) rfl (w.heap.size+1) 0 (by kernel_rfl) _ _ f.o ju rfl (by kernel_rfl) ?_)
  |(go_at_call 142;(with_reducible refine (j.o _).mono ?_);rintro e w2 ⟨rfl,hb⟩;have g:=yb (c.o.up hb);clear hb c;have c:=g;clear g f;have f:=yb (Ae c.o.y))
  |(go_at_call 142;(with_reducible refine (i.o _).mono ?_);rintro e w2 ⟨rfl,hb⟩;have g:=yb (c.o.up hb);clear hb c;have c:=g;clear g))
 go_ret
 exact ⟨rfl,c.o.below⟩
def R4(a b:Rt):Int:=if decide (a.n*b.d < b.n*a.d)=true then -1 else if decide (b.n*a.d < a.n*b.d)=true then 1 else 0
theorem UN(a b:Rt)(k:AJ a=true)(hb:AJ b=true)(w:World):Calls prog 135 #[.agg #[.int .i64 a.n,.int .i64 a.d],.agg #[.int .i64 b.n,.int .i64 b.d]] w λe w'=>e=.returned (.tuple #[.int .i64 (R4 a b),.int .i64 0])/\Below w.heap.size w w':=by
 have q:=yb (λW:World=>Sx a b W)
 rw[k,hb] at q
 have i:=yb (λW:World=>MQ a b k hb W)
 have j:=yb (λW:World=>MQ b a hb k W)
 unfold R4
 clear k hb
 obtain ⟨l,m⟩:=a
 obtain ⟨p,r⟩:=b
 dsimp only [Bool.and_self] at q i j |-
 generalize decide (l*r < p*m)=t at*
 generalize decide (p*m < l*r)=s at*
 have c:=yb (Jg w [iV l,iV m] [iV p,iV r] 58 58)
 cases t<;>cases s
 all_goals
  go_enter func135,ntmps135
  go_upto_region 1 with fail
  generalize (w.alloc _).alloc _=W at c |-
  have f:=yb (Ae c.o.x)
  have g:=yb (Ae c.o.y)
  go_wp2_with (first
   |(with_reducible refine yj rfl 58 (.tmp 2) rfl w.heap.size 0 (by kernel_rfl) _ _ f.o ju rfl (by kernel_rfl) ?_)
   |(with_reducible refine yj rfl 58 (.tmp 3) rfl (w.heap.size+1) 0 (by kernel_rfl) _ _ g.o ju rfl (by kernel_rfl) ?_)
   |(go_at_call 143;(with_reducible refine (q.o _).mono ?_);rintro e w2 ⟨rfl,hb⟩;have h:=yb (c.o.up hb);clear hb c;have c:=h;clear h f g;have f:=yb (Ae c.o.x);have g:=yb (Ae c.o.y))
   |(go_at_call 144;(with_reducible refine (i.o _).mono ?_);rintro e w2 ⟨rfl,hb⟩;have h:=yb (c.o.up hb);clear hb c;have c:=h;clear h f g;have f:=yb (Ae c.o.x);have g:=yb (Ae c.o.y))
   |(go_at_call 144;(with_reducible refine (j.o _).mono ?_);rintro e w2 ⟨rfl,hb⟩;have h:=yb (c.o.up hb);clear hb c;have c:=h;clear h f g;have f:=yb (Ae c.o.x);have g:=yb (Ae c.o.y)))
  go_ret2
  exact ⟨rfl,c.o.below⟩
theorem ZO(a b c d e f:Bool):a=false\/(a=true/\b=false)\/(a=true/\b=true/\c=false)\/(a=true/\b=true/\c=true/\d=false)\/(a=true/\b=true/\c=true/\d=true/\e=false)\/(a=true/\b=true/\c=true/\d=true/\e=true/\f=false)\/(a=true/\b=true/\c=true/\d=true/\e=true/\f=true):=by
 cases a<;>cases b<;>cases c<;>cases d<;>cases e<;>cases f<;>simp
def ZP(rn fn a d c b:Nat):Bool:=decide ((rn:Int)<=100)&&(decide ((fn:Int)<=700)&&(decide ((a:Int)<=100)&&(decide ((d:Int)<=300)&&(decide ((c:Int)<=300)&&decide ((b:Int)<=100)))))
theorem WL(w:World)(c:ByteArray)(hours cap start:Int)(hr hf hc hg hd hw:AA):Calls prog 10 #[.agg (DW c hours cap start hr hf hc hg hd hw).toArray] w λe w'=>e=.returned (.bool (ZP hr.n hf.n hc.n hg.n hd.n hw.n))/\Below w.heap.size w w':=by
 obtain ⟨y,rn,rc⟩:=hr
 obtain ⟨z,fn,fc⟩:=hf
 obtain ⟨x,a,p⟩:=hc
 obtain ⟨t,m,gc⟩:=hg
 obtain ⟨r,l,s⟩:=hd
 obtain ⟨u,f,wc⟩:=hw
 unfold ZP DW AA.v
 dsimp only
 have C:=yb ((yg w.heap.size w).alloc (yi _) (.cells #[.string c,iV hours,iV cap,iV start,.slice y rn rc,.slice z fn fc,.slice x a p,.slice t m gc,.slice r l s,.slice u f wc] 31))
 have A:=World.alloc_heap_new w (.cells [.string c,iV hours,iV cap,iV start,.slice y rn rc,.slice z fn fc,.slice x a p,.slice t m gc,.slice r l s,.slice u f wc].toArray 31)
 obtain ⟨F,M,J,H,N,O,I,L,P,G⟩:=BV A
 clear A
 obtain ⟨b1,h⟩:∃b,decide ((rn:Int)<=100)=b:=⟨_,rfl⟩
 obtain ⟨b2,g⟩:∃b,decide ((fn:Int)<=700)=b:=⟨_,rfl⟩
 obtain ⟨E,k⟩:∃b,decide ((a:Int)<=100)=b:=⟨_,rfl⟩
 obtain ⟨D,d⟩:∃b,decide ((m:Int)<=300)=b:=⟨_,rfl⟩
 obtain ⟨B,j⟩:∃b,decide ((l:Int)<=300)=b:=⟨_,rfl⟩
 obtain ⟨b6,i⟩:∃b,decide ((f:Int)<=100)=b:=⟨_,rfl⟩
 rw[h,g,k,d,j,i]
 go_enter func10,ntmps10
 refine Ai λK q=>?_
 go_wp2
 refine q.o _ _ ?_
 clear q K
 generalize w.alloc _=W at*
 rcases ZO b1 b2 E D B b6 with rfl|⟨rfl,rfl⟩|⟨rfl,rfl,rfl⟩|⟨rfl,rfl,rfl,rfl⟩|⟨rfl,rfl,rfl,rfl,rfl⟩|⟨rfl,rfl,rfl,rfl,rfl,rfl⟩|⟨rfl,rfl,rfl,rfl,rfl,rfl⟩
 all_goals
  go_wp2
  go_ret
  exact ⟨rfl,C.o⟩
def DZ(n u:Int):Ex:=.mk 1 n u ⟨#[]⟩ 0 []
def Vl:Ex:=.mk 0 0 0 ⟨#[]⟩ 0 []
def SA(a b:Ex):Ex:=.mk 6 0 0 ⟨#[]⟩ 0 [a,b]
def SB:ByteArray:=⟨#[97,110,110]⟩
def SD:ByteArray:=⟨#[98,111,98]⟩
def He:ByteArray:=⟨#[109,97,105,110]⟩
def Rd:ByteArray:=⟨#[99,111,114,110]⟩
def OK:ByteArray:=⟨#[119,101,101,107]⟩
def TI:ByteArray:=⟨#[109,105,110,101]⟩
def SE:ByteArray:=⟨#[119,101,101,100,115]⟩
def s0:ByteArray:=⟨#[]⟩
def WN(start tt:Ex):AM:=⟨⟨#[119]⟩,DZ 20 3,DZ 2 2,start,[],[⟨Rd,SA (DZ 30 1) (DZ 2 5)⟩],[⟨He,⟨s0,0⟩,DZ 2 3,SA (DZ 90 1) (DZ 1 3),DZ 300 1,Vl,DZ 0 1,DZ 3 1,DZ 0 0,DZ 0 0⟩],
 [⟨SB,⟨He,0⟩,false,DZ 4 5,⟨Rd,0⟩⟩,⟨SD,⟨He,0⟩,true,Vl,⟨s0,0⟩⟩],[⟨OK,⟨He,0⟩,7,SA (DZ 40 1) (DZ 1 3),DZ 2 3,tt,[⟨⟨SB,0⟩,DZ 3 3⟩,⟨⟨SD,1⟩,DZ 1 3⟩]⟩],[⟨2,TI,⟨SD,1⟩,⟨He,0⟩,0,Vl,Vl,Vl,Vl,Vl⟩],[⟨SE,⟨SB,0⟩,⟨He,0⟩,DZ 0 4⟩]⟩
def LH:List CA:=[⟨OK,1,0,0,7,40,2,15,4,3⟩,⟨OK,1,1,0,7,40,5,15,4,1⟩,⟨TI,2,1,0,0,0,0,19,0,0⟩]
def Xk:Bk:=⟨⟨#[119]⟩,20,2000,500,[⟨He, -1,2,90,300,0,0,3,⟨0,1⟩,⟨0,1⟩⟩],[⟨SB,0,4,0⟩,⟨SD,0,0, -1⟩],[⟨Rd,15⟩],LH,[⟨SE,0,0,0⟩]⟩
def Pq:AM:=⟨s0,Vl,Vl,Vl,[],[],[],[],[],[],[]⟩
theorem ZR:CC (WN (DZ 500 1) (DZ 15 3))=(Xk,0):=by kernel_rfl
theorem Y2:CC (WN (DZ 500 1) (DZ 4 3))=(Cw,190):=by kernel_rfl
theorem Y3:CC (WN (SA (DZ 5 1) (DZ 2 0)) (DZ 15 3))=(Cw,190):=by kernel_rfl
theorem WO:CC Pq=(Cw,170):=by kernel_rfl
theorem WQ:F7 Xk=0:=by kernel_rfl

def LI{α:Type}(f:Jf α)(n:Nat):Prop:=∀v b v',f v=some (b,v')->∃u:List Rt,u.length=n/\v=u++v'/\∀w,f (u++w)=some (b,w)
theorem Ks{α β:Type}{f:Jf α}{g:α->Jf β}{n m:Nat}(hf:LI f n)(hg:∀a,LI (g a) m):LI (λv=>f v>>= λp=>g p.1 p.2) (n+m):=by
 intro v b v' h
 change (f v>>= λp=>g p.1 p.2)=some (b,v') at h
 cases c:f v with
 |none=>rw[c] at h;cases h
 |some p=>
  obtain ⟨a,i⟩:=p
  rw[c] at h
  obtain ⟨u,h1,rfl,h3⟩:=hf _ _ _ c
  obtain ⟨u2,d,rfl,e⟩:=hg a _ _ _ h
  refine ⟨u++u2,by rw[yn,h1,d],by rw[yX],λw=>?_⟩
  show (f (u++u2++w)>>= λp=>g p.1 p.2)=_
  rw[yX,h3]
  exact e w
theorem WW{α:Type}(a:α):LI (λv=>some (a,v)) 0:=λv b v' h=>by
 cases h
 exact ⟨[],rfl,rfl,λw=>rfl⟩
theorem Ri{α:Type}(n:Nat):LI (λ_=>(none:Option (α × List Rt))) n:=λv b v' h=>by cases h
theorem TN{α:Type}{c:Prop}[Decidable c]{f g:Jf α}{n:Nat}(hf:LI f n)(hg:LI g n):LI (λv=>if c then f v else g v) n:=by
 by_cases h:c
 ·simp only[yz h];exact hf
 simp only[ym h];exact hg
theorem TO:LI BE 1:=λv b v' h=>by
 cases v with
 |nil=>cases h
 |cons a r=>
  change (if a.d<=1 then some (a.n,r) else none)=some (b,v') at h
  by_cases hd:a.d<=1
  ·rw[yz hd] at h;cases h
   exact ⟨[a],rfl,rfl,λw=>by show (if a.d<=1 then some (a.n,w) else none)=_;rw[yz hd]⟩
  rw[ym hd] at h;cases h
theorem OL(fs:List BG)(x:Bq)(flow tq:Int):∀(l:List C6) (st:Int),LI (Cr fs x flow tq st l) l.length
 |[],st=>λv b v' h=>by
  rw[Cr] at h;cases h
  exact ⟨[],rfl,rfl,λw=>by rw[yS,Cr]⟩
 |t::r,st=>λv b v' h=>by
  rw[Cr] at h
  cases a:BE v with
  |none=>rw[a] at h;cases h
  |some p=>
   obtain ⟨n,e⟩:=p
   rw[a] at h
   dsimp only at h
   obtain ⟨u,h1,rfl,h3⟩:=TO _ _ _ a
   by_cases hc:1<=n/\(fs[t.farm.n.toNat]?).map (·.on.n)=some x.on.n
   ·rw[yz hc] at h
    cases hr:Cr fs x flow tq (st+n) r e with
    |none=>rw[hr] at h;cases h
    |some q=>
     obtain ⟨p,f⟩:=q
     rw[hr] at h
     cases h
     obtain ⟨u2,c,rfl,d⟩:=OL fs x flow tq r (st+n) _ _ _ hr
     refine ⟨u++u2,by simp[h1,c];omega,by rw[yX],λw=>?_⟩
     rw[Cr,yX,h3]
     dsimp only
     rw[yz hc,d]
   rw[ym hc] at h;cases h
theorem Yb(fs:List BG)(x:Bq):LI (Is fs x) (3+x.turns.length):=by
 have h:LI (Is fs x) (1+(1+(1+(x.turns.length+0)))):=
  Ks TO λflow=>Ks TO λfrm=>Ks TO λtq=>TN (c:=x.turns.length=0) (Ri _)
   (Ks (OL fs x flow tq x.turns frm) λq=>TN (c:=q.2<=tq+1) (WW (q.1.map (JQ (q.2 - frm)))) (Ri _))
 rw[show 3+x.turns.length=1+(1+(1+(x.turns.length+0))) by omega]
 exact h
theorem Pt{α β:Type}(f:α->List β):∀l:List α,(l.map λa=>(f a).length).sum=(l.flatMap f).length
 |[]=>rfl
 |a::r=>by rw[zN,List.sum_cons,yY,yn,Pt f r]
end Go.Proofs.YtbdfinegbjdblaaGreatDoor

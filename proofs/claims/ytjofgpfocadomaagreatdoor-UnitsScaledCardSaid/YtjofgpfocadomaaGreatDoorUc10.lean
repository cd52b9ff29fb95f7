/- units.of: constants. -/
import Derived.Test.YtjofgpfocadomaaGreatDoorUc0
import Derived.Test.YtjofgpfocadomaaGreatDoorUc9
import Derived.BigRegion
set_option maxRecDepth 100000
set_option maxHeartbeats 4000000
set_option linter.unusedSimpArgs false
namespace Go.Proofs.YtjofgpfocadomaaGreatDoor
open Go.RowKit
set_option linter.unusedSimpArgs false
theorem PT.get{w:World}{h:Aw}{c:List Kn}(g:PT w h c){i:Nat}(hi:i < c.length):∃b o,h.a=some ⟨b,o,none⟩∧b < w.heap.size∧w.rangeAt b (o+i*8) [.string c[i].name,.int .i64 c[i].q.dim.l,.int .i64 c[i].q.dim.h,.int .i64 c[i].q.dim.a,.int .i64 c[i].q.v.n,.int .i64 c[i].q.v.d,.int .i64 c[i].q.e,.bool c[i].ok]:=by
 obtain ⟨b,o,cs,h1,h2,h3,f,j⟩:=g.2.2 i hi
 exact ⟨b,o,h1,h2,by rw[j] at f;exact f⟩
theorem Qz{w:World}{b o:Nat}{x0 i e a g c d f:Value}(h:w.rangeAt b o [x0,i,e,a,g,c,d,f]):w.cell? ⟨b,o,none⟩=some x0∧w.cell? ⟨b,o+1,none⟩=some i∧w.cell? ⟨b,o+2,none⟩=some e∧w.cell? ⟨b,o+3,none⟩=some a∧w.cell? ⟨b,o+4,none⟩=some g∧w.cell? ⟨b,o+5,none⟩=some c∧w.cell? ⟨b,o+6,none⟩=some d∧w.cell? ⟨b,o+7,none⟩=some f:=
 ⟨h 0 _ rfl,h 1 _ rfl,h 2 _ rfl,h 3 _ rfl,h 4 _ rfl,h 5 _ rfl,h 6 _ rfl,h 7 _ rfl⟩
theorem PT.up{w w':World}{h:Aw}{a:List Kn}(c:PT w h a)(hb:Below w.heap.size w w'):PT w' h a:=by
 refine ⟨c.1,c.2.1,fun i hi=>?_⟩
 obtain ⟨b,o,cs,h1,h2,h3,e,d⟩:=c.2.2 i hi
 exact ⟨b,o,cs,h1,yt h2 hb.size,h3,A0 e (hb.block b h2),d⟩
theorem SE{a b:ByteArray}(h:a.toList=b.toList):a=b:=by
 rw[xy,xy] at h
 obtain ⟨⟨x⟩⟩:=a
 obtain ⟨⟨y⟩⟩:=b
 simp only at h
 rw[h]
theorem U8{a b:ByteArray}(h:¬ a=b):(a.toList==b.toList)=false:=by
 simpa using fun e=>h (SE e)
theorem Wz(known:List Kn)(h:Aw)(left:Int)(n u:Int)(rn:ByteArray)(ri:Int)(a:Option Addr)(m cap:Nat)(w:World)(hk:PT w h known):
  Calls Tryz.prog 38 #[h.v,.agg #[.int .i64 2,.int .i64 n,.int .i64 u,.string rn,.int .i64 ri,.slice a m cap],.int .i64 left] w (OW (if m=0∧n=0∧u=0 then Hg known rn ri else (Fx,false)) w):=by
 have HW:=yb (O6.new w [.int .i64 2,.int .i64 n,.int .i64 u,.string rn,.int .i64 ri,.slice a m cap])
 obtain ⟨res,hres⟩:∃res,res=if m=0∧n=0∧u=0 then Hg known rn ri else (Fx,false):=⟨_,rfl⟩
 rw[<-hres]
 have HRes:=yb hres
 have HK:=yb hk
 clear hres hk
 obtain ⟨ha,hn,hc⟩:=h
 unfold Aw.v
 dsimp only
 go_enter Tryz.func38,Tryz.ntmps38
 refine Ab fun K hK=>?_
 go_wp2
 refine hK.o _ _ ?_
 clear hK
 generalize (w.alloc (.cells #[.int .i64 2,.int .i64 n,.int .i64 u,.string rn,.int .i64 ri,.slice a m cap] 26)).alloc (.cells #[.int .i64 0,.int .i64 0,.int .i64 0,.int .i64 0,.int .i64 0,.int .i64 0] 70)=W at HW ⊢
 obtain ⟨x0,x1,x2,x3,x4,x5⟩:=Cg HW.o.x
 go_upto_region 11 with fail
 obtain ⟨bb,hbb⟩:∃bb:Bool,bb=true↔¬ (m=0∧n=0∧u=0∧0<=ri∧∃(i:Nat) (hi:i < known.length),ri=i∧known[i].name=rn):=by
  classical exact ⟨decide (¬ (m=0∧n=0∧u=0∧0<=ri∧∃(i:Nat) (hi:i < known.length),ri=i∧known[i].name=rn)),decide_eq_true_iff⟩
 have HBb:=yb hbb
 clear hbb
 go_cut [115] from 75 (fun c wx=>Hid (c=.bool bb∧wx=W.drew))
 case first=>
  by_cases h1:m=0
  rotate_left
  ·have e1:decide (0 < (m:Int))=true:=by simp<;>omega
   have f1:0 < m:=by omega
   have g1:¬ m=0:=h1
   have hb:Hid (bb=true):=yb (HBb.o.2 (fun h=>h1 h.1))
   clear h1
   go_big_region
   go_wp2
   go_meet
   case rel=>exact yb ⟨yD Value.bool hb.o.symm,rfl⟩
  subst h1
  by_cases h2:n=0
  rotate_left
  ·have e2:(n==0)=false:=by simpa using h2
   have f2:(n !=0)=true:=by simpa using h2
   have hb:Hid (bb=true):=yb (HBb.o.2 (fun h=>h2 h.2.1))
   clear h2
   go_big_region
   go_wp2
   go_meet
   case rel=>exact yb ⟨yD Value.bool hb.o.symm,rfl⟩
  subst h2
  by_cases h3:u=0
  rotate_left
  ·have e3:(u==0)=false:=by simpa using h3
   have f3:(u !=0)=true:=by simpa using h3
   have hb:Hid (bb=true):=yb (HBb.o.2 (fun h=>h3 h.2.2.1))
   clear h3
   go_big_region
   go_wp2
   go_meet
   case rel=>exact yb ⟨yD Value.bool hb.o.symm,rfl⟩
  subst h3
  by_cases h4:0<=ri
  rotate_left
  ·have e4:decide (ri < 0)=true:=by simp<;>omega
   have hb:Hid (bb=true):=yb (HBb.o.2 (fun h=>h4 h.2.2.2.1))
   clear h4
   go_big_region
   go_wp2
   go_meet
   case rel=>exact yb ⟨yD Value.bool hb.o.symm,rfl⟩
  obtain ⟨i,rfl⟩:∃i:Nat,ri=i:=⟨ri.toNat,by omega⟩
  have e4:decide ((i:Int) < 0)=false:=by simp<;>omega
  clear h4
  have hlen:=HK.o.1
  dsimp only at hlen
  by_cases h5:i < hn
  rotate_left
  ·have e5:decide ((hn:Int)<=(i:Int))=true:=by simp<;>omega
   have f5:hn<=i:=by omega
   have hb:Hid (bb=true):=yb (HBb.o.2 (fun h=>by obtain ⟨j,hj,e,_⟩:=h.2.2.2.2;omega))
   clear h5 hlen
   go_big_region
   go_wp2
   go_meet
   case rel=>exact yb ⟨yD Value.bool hb.o.symm,rfl⟩
  have hi:i < known.length:=by omega
  have e5:decide ((hn:Int)<=(i:Int))=false:=by simp<;>omega
  have f5:(i:Int) < (hn:Int):=by omega
  have f5n:i < hn:=by omega
  have f5m:¬ hn<=i:=by omega
  have f5k:decide (hn<=i)=false:=by simp<;>omega
  obtain ⟨b,o,rfl,hbl,hrg⟩:=(HK.o.up HW.o.below).get hi
  obtain ⟨k0,k1,k2,k3,k4,k5,k6,k7⟩:=Qz hrg
  clear hrg hlen
  by_cases h6:known[i].name=rn
  ·have hb:Hid (bb=false):=yb (by
    rw[<-Bool.not_eq_true]
    exact fun h=>(HBb.o.1 h) ⟨rfl,rfl,rfl,by omega,i,hi,rfl,h6⟩)
   generalize known[i].name=kn at*
   subst h6
   go_big_region
   go_wp2
   go_meet
   case rel=>exact yb ⟨yD Value.bool hb.o.symm,rfl⟩
  ·have hb:Hid (bb=true):=yb (HBb.o.2 (fun h=>by
    obtain ⟨j,hj,e,hn⟩:=h.2.2.2.2
    obtain rfl:i=j:=by omega
    exact h6 hn))
   generalize known[i].name=kn at*
   have f6:(kn.toList==rn.toList)=false:=U8 h6
   have e6:(kn==rn)=false:=by rw[beq_toListBytes];exact f6
   go_big_region
   go_wp2
   go_meet
   case rel=>exact yb ⟨yD Value.bool hb.o.symm,rfl⟩
 case rest=>
  obtain ⟨rfl,rfl⟩:=hcut.o
  clear hcut
  have HWd:=yb HW.o.drew
  clear HW x0 x1 x2 x3 x4 x5
  generalize W.drew=W at HWd ⊢
  have HW:=HWd
  clear HWd
  have hqr:W.heap[w.heap.size+1]?=some (.cells #[.int .i64 0,.int .i64 0,.int .i64 0,.int .i64 0,.int .i64 0,.int .i64 0] 70 (0,0)):=HW.o.q
  have HQR:=yb hqr
  obtain ⟨q0,q1,q2,q3,q4,q5⟩:=Cg hqr
  have qf:=fun k=>E4 (n:=k) hqr
  clear hqr
  cases bb with
  |true=>
   have hr:Hid (res=(Fx,false)):=yb (by
    rw[HRes.o]
    have hb:=HBb.o.1 rfl
    split
    ·rename_i h1
     unfold Hg
     split
     ·rename_i x hx
      rw[yq]
      intro h2
      obtain ⟨hj,e⟩:=yx.1 hx
      exact hb ⟨h1.1,h1.2.1,h1.2.2,h2.2,ri.toNat,hj,by omega,by rw[e];exact h2.1⟩
     ·rfl
    ·rfl)
   clear HRes HBb
   go_wp2
   have hwr:=Cv HQR.o (.int .i64 0) (.int .i64 0) (.int .i64 0) (.int .i64 0) (.int .i64 0) (.int .i64 0)
   exact A3 (c:=Fx.row) rfl rfl hwr.row ja rfl (by kernel_rfl) ⟨by rw[hr.o];rfl,hwr.below HW.o.below (by omega)⟩
  |false=>
   obtain ⟨h1,h2,h3,h4,i,hi,rfl,h6⟩:=Classical.not_not.1 (fun h=>by have:=HBb.o.2 h;cases this)
   have hr:Hid (res=(known[i].q,known[i].ok)):=yb (by
    rw[HRes.o,yw ⟨h1,h2,h3⟩]
    unfold Hg
    rw[Int.toNat_natCast,yk hi]
    simp only
    rw[yw ⟨h6,h4⟩])
   have hlen:=HK.o.1
   dsimp only at hlen
   have f5:(i:Int) < (hn:Int):=by omega
   have f5n:i < hn:=by omega
   have f5m:¬ hn<=i:=by omega
   obtain ⟨b,o,rfl,hbl,hrg⟩:=(HK.o.up HW.o.below).get hi
   obtain ⟨k0,k1,k2,k3,k4,k5,k6,k7⟩:=Qz hrg
   clear hrg hlen h1 h2 h3 h4 h6 HRes HBb HK k0
   generalize known[i]=kn at*
   obtain ⟨knm,⟨⟨dl,dh,da⟩,⟨vn,vd⟩,e⟩,ok⟩:=kn
   dsimp only at*
   have x4:=(Cg HW.o.x).2.2.2.2.1
   go_wp2
   go_big_region
   go_wp2
   have hwr:=Cv HQR.o (.int .i64 dl) (.int .i64 dh) (.int .i64 da) (.int .i64 vn) (.int .i64 vd) (.int .i64 e)
   exact A3 (c:=(⟨⟨dl,dh,da⟩,⟨vn,vd⟩,e⟩:Qn).row) rfl rfl hwr.row ja rfl (by kernel_rfl) ⟨by rw[hr.o];rfl,(hwr.below HW.o.below (by omega)).drew⟩
end Go.Proofs.YtjofgpfocadomaaGreatDoor

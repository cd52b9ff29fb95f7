/- units.of: constants. -/
import Derived.Test.YtbdfinegbjdblaaGreatDoorWq0
import Derived.Test.YtbdfinegbjdblaaGreatDoorWq10
import Derived.BigRegion
set_option maxRecDepth 100000
set_option maxHeartbeats 4000000
set_option linter.unusedSimpArgs false
namespace Go.Proofs.YtbdfinegbjdblaaGreatDoor
open Go.RowKit
theorem RG.get{w:World}{h:AA}{c:List Kn}(j:RG w h c){i:Nat}(hi:i < c.length):∃b o,h.a=some ⟨b,o,none⟩/\b < w.heap.size/\w.rangeAt b (o+i*8) [.string c[i].name,.int .i64 c[i].q.dim.l,.int .i64 c[i].q.dim.h,.int .i64 c[i].q.dim.a,.int .i64 c[i].q.v.n,.int .i64 c[i].q.v.d,.int .i64 c[i].q.e,.bool c[i].ok]:=by
 obtain ⟨b,o,cs,h1,h2,h3,f,g⟩:=j.2.2 i hi
 exact ⟨b,o,h1,h2,by rw[g] at f;exact f⟩
theorem St{w:World}{b o:Nat}{x0 e c d f g i a:Value}(h:w.rangeAt b o [x0,e,c,d,f,g,i,a]):w.cell? ⟨b,o,none⟩=some x0/\w.cell? ⟨b,o+1,none⟩=some e/\w.cell? ⟨b,o+2,none⟩=some c/\w.cell? ⟨b,o+3,none⟩=some d/\w.cell? ⟨b,o+4,none⟩=some f/\w.cell? ⟨b,o+5,none⟩=some g/\w.cell? ⟨b,o+6,none⟩=some i/\w.cell? ⟨b,o+7,none⟩=some a:=
 ⟨h 0 _ rfl,h 1 _ rfl,h 2 _ rfl,h 3 _ rfl,h 4 _ rfl,h 5 _ rfl,h 6 _ rfl,h 7 _ rfl⟩
theorem RG.up{w w':World}{h:AA}{a:List Kn}(c:RG w h a)(hb:Below w.heap.size w w'):RG w' h a:=by
 refine ⟨c.1,c.2.1,λi hi=>?_⟩
 obtain ⟨b,o,cs,h1,h2,h3,e,d⟩:=c.2.2 i hi
 exact ⟨b,o,cs,h1,yx h2 hb.size,h3,A8 e (hb.block b h2),d⟩
theorem UD{a b:ByteArray}(h:a.toList=b.toList):a=b:=by
 rw[xJ,xJ] at h
 obtain ⟨⟨x⟩⟩:=a
 obtain ⟨⟨y⟩⟩:=b
 simp only at h
 rw[h]
theorem Ww{a b:ByteArray}(h:¬ a=b):(a.toList==b.toList)=false:=by
 simpa using λe=>h (UD e)
theorem Z2(known:List Kn)(h:AA)(left:Int)(n u:Int)(rn:ByteArray)(ri:Int)(a:Option Addr)(m cap:Nat)(w:World)(hk:RG w h known):
  Calls Tryz.prog 41 #[h.v,.agg #[.int .i64 2,.int .i64 n,.int .i64 u,.string rn,.int .i64 ri,.slice a m cap],.int .i64 left] w (QQ (if m=0/\n=0/\u=0 then Jz known rn ri else (Ge,false)) w):=by
 have HW:=yb (PH.new w [.int .i64 2,.int .i64 n,.int .i64 u,.string rn,.int .i64 ri,.slice a m cap])
 obtain ⟨res,hres⟩:∃res,res=if m=0/\n=0/\u=0 then Jz known rn ri else (Ge,false):=⟨_,rfl⟩
 rw[<-hres]
 have HRes:=yb hres
 have HK:=yb hk
 clear hres hk
 obtain ⟨ha,hn,hc⟩:=h
 unfold AA.v
 dsimp only
 go_enter Tryz.func41,Tryz.ntmps41
 refine Ai λK hK=>?_
 go_wp2
 refine hK.o _ _ ?_
 clear hK
 generalize (w.alloc (.cells #[.int .i64 2,.int .i64 n,.int .i64 u,.string rn,.int .i64 ri,.slice a m cap] 40)).alloc (.cells #[.int .i64 0,.int .i64 0,.int .i64 0,.int .i64 0,.int .i64 0,.int .i64 0] 104)=W at HW |-
 obtain ⟨x0,x1,x2,x3,x4,x5⟩:=DX HW.o.x
 go_upto_region 11 with fail
 obtain ⟨bb,hbb⟩:∃bb:Bool,bb=true↔¬ (m=0/\n=0/\u=0/\0<=ri/\∃(i:Nat) (hi:i < known.length),ri=i/\known[i].name=rn):=by
  classical exact ⟨decide (¬ (m=0/\n=0/\u=0/\0<=ri/\∃(i:Nat) (hi:i < known.length),ri=i/\known[i].name=rn)),decide_eq_true_iff⟩
 have HBb:=yb hbb
 clear hbb
 go_cut [115] from 75 (λc wx=>Hid (c=.bool bb/\wx=W.drew))
 case first=>
  by_cases h1:m=0
  rotate_left
  ·have e1:decide (0 < (m:Int))=true:=by simp<;>omega
   have f1:0 < m:=by omega
   have g1:¬ m=0:=h1
   have hb:Hid (bb=true):=yb (HBb.o.2 (λh=>h1 h.1))
   clear h1
   go_big_region
   go_wp2
   go_meet
   exact yb ⟨yN Value.bool hb.o.symm,rfl⟩
  subst h1
  by_cases h2:n=0
  rotate_left
  ·have e2:(n==0)=false:=by simpa using h2
   have f2:(n !=0)=true:=by simpa using h2
   have hb:Hid (bb=true):=yb (HBb.o.2 (λh=>h2 h.2.1))
   clear h2
   go_big_region
   go_wp2
   go_meet
   exact yb ⟨yN Value.bool hb.o.symm,rfl⟩
  subst h2
  by_cases h3:u=0
  rotate_left
  ·have e3:(u==0)=false:=by simpa using h3
   have f3:(u !=0)=true:=by simpa using h3
   have hb:Hid (bb=true):=yb (HBb.o.2 (λh=>h3 h.2.2.1))
   clear h3
   go_big_region
   go_wp2
   go_meet
   exact yb ⟨yN Value.bool hb.o.symm,rfl⟩
  subst h3
  by_cases h4:0<=ri
  rotate_left
  ·have e4:decide (ri < 0)=true:=by simp<;>omega
   have hb:Hid (bb=true):=yb (HBb.o.2 (λh=>h4 h.2.2.2.1))
   clear h4
   go_big_region
   go_wp2
   go_meet
   exact yb ⟨yN Value.bool hb.o.symm,rfl⟩
  obtain ⟨i,rfl⟩:∃i:Nat,ri=i:=⟨ri.toNat,by omega⟩
  have e4:decide ((i:Int) < 0)=false:=by simp<;>omega
  clear h4
  have hlen:=HK.o.1
  dsimp only at hlen
  by_cases h5:i < hn
  rotate_left
  ·have e5:decide ((hn:Int)<=(i:Int))=true:=by simp<;>omega
   have f5:hn<=i:=by omega
   have hb:Hid (bb=true):=yb (HBb.o.2 (λh=>by obtain ⟨j,hj,e,_⟩:=h.2.2.2.2;omega))
   clear h5 hlen
   go_big_region
   go_wp2
   go_meet
   exact yb ⟨yN Value.bool hb.o.symm,rfl⟩
  have hi:i < known.length:=by omega
  have e5:decide ((hn:Int)<=(i:Int))=false:=by simp<;>omega
  have f5:(i:Int) < (hn:Int):=by omega
  have f5n:i < hn:=by omega
  have f5m:¬ hn<=i:=by omega
  have f5k:decide (hn<=i)=false:=by simp<;>omega
  obtain ⟨b,o,rfl,hbl,hrg⟩:=(HK.o.up HW.o.below).get hi
  obtain ⟨k0,k1,k2,k3,k4,k5,k6,k7⟩:=St hrg
  clear hrg hlen
  by_cases h6:known[i].name=rn
  ·have hb:Hid (bb=false):=yb (by
    rw[<-Bool.not_eq_true]
    exact λh=>(HBb.o.1 h) ⟨rfl,rfl,rfl,by omega,i,hi,rfl,h6⟩)
   generalize known[i].name=kn at*
   subst h6
   go_big_region
   go_wp2
   go_meet
   exact yb ⟨yN Value.bool hb.o.symm,rfl⟩
  have hb:Hid (bb=true):=yb (HBb.o.2 (λh=>by
   obtain ⟨j,hj,e,hn⟩:=h.2.2.2.2
   obtain rfl:i=j:=by omega
   exact h6 hn))
  generalize known[i].name=kn at*
  have f6:(kn.toList==rn.toList)=false:=Ww h6
  have e6:(kn==rn)=false:=by rw[beq_toListBytes];exact f6
  go_big_region
  go_wp2
  go_meet
  exact yb ⟨yN Value.bool hb.o.symm,rfl⟩
 obtain ⟨rfl,rfl⟩:=hcut.o
 clear hcut
 have HWd:=yb HW.o.drew
 clear HW x0 x1 x2 x3 x4 x5
 generalize W.drew=W at HWd |-
 have HW:=HWd
 clear HWd
 have hqr:W.heap[w.heap.size+1]?=some (.cells #[.int .i64 0,.int .i64 0,.int .i64 0,.int .i64 0,.int .i64 0,.int .i64 0] 104 (0,0)):=HW.o.q
 have HQR:=yb hqr
 obtain ⟨q0,q1,q2,q3,q4,q5⟩:=DX hqr
 have qf:=λk=>DO (n:=k) hqr
 clear hqr
 cases bb with
 |true=>
  have hr:Hid (res=(Ge,false)):=yb (by
   rw[HRes.o]
   have hb:=HBb.o.1 rfl
   split
   ·rename_i h1
    unfold Jz
    split
    ·rename_i x hx
     rw[ym]
     intro h2
     obtain ⟨hj,e⟩:=yF.1 hx
     exact hb ⟨h1.1,h1.2.1,h1.2.2,h2.2,ri.toNat,hj,by omega,by rw[e];exact h2.1⟩
    rfl
   rfl)
  clear HRes HBb
  go_wp2
  have hwr:=D8 HQR.o (.int .i64 0) (.int .i64 0) (.int .i64 0) (.int .i64 0) (.int .i64 0) (.int .i64 0)
  exact Ab (c:=Ge.row) rfl rfl hwr.row qV rfl (by kernel_rfl) ⟨by rw[hr.o];rfl,hwr.below HW.o.below (by omega)⟩
 |false=>
  obtain ⟨h1,h2,h3,h4,i,hi,rfl,h6⟩:=Classical.not_not.1 (λh=>by have:=HBb.o.2 h;cases this)
  have hr:Hid (res=(known[i].q,known[i].ok)):=yb (by
   rw[HRes.o,yz ⟨h1,h2,h3⟩]
   unfold Jz
   rw[Int.toNat_natCast,yk hi]
   simp only
   rw[yz ⟨h6,h4⟩])
  have hlen:=HK.o.1
  dsimp only at hlen
  have f5:(i:Int) < (hn:Int):=by omega
  have f5n:i < hn:=by omega
  have f5m:¬ hn<=i:=by omega
  obtain ⟨b,o,rfl,hbl,hrg⟩:=(HK.o.up HW.o.below).get hi
  obtain ⟨k0,k1,k2,k3,k4,k5,k6,k7⟩:=St hrg
  clear hrg hlen h1 h2 h3 h4 h6 HRes HBb HK k0
  generalize known[i]=kn at*
  obtain ⟨knm,⟨⟨dl,dh,da⟩,⟨vn,vd⟩,e⟩,ok⟩:=kn
  dsimp only at*
  have x4:=(DX HW.o.x).2.2.2.2.1
  go_wp2
  go_big_region
  go_wp2
  have hwr:=D8 HQR.o (.int .i64 dl) (.int .i64 dh) (.int .i64 da) (.int .i64 vn) (.int .i64 vd) (.int .i64 e)
  exact Ab (c:=(⟨⟨dl,dh,da⟩,⟨vn,vd⟩,e⟩:Qn).row) rfl rfl hwr.row qV rfl (by kernel_rfl) ⟨by rw[hr.o];rfl,(hwr.below HW.o.below (by omega)).drew⟩
end Go.Proofs.YtbdfinegbjdblaaGreatDoor

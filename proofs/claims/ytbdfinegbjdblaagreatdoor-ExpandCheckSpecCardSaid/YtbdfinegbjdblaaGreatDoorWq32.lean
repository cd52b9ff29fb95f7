/- ExpandCheckSpec: the walk. -/
import Derived.Test.YtbdfinegbjdblaaGreatDoorWq0
import Derived.Test.YtbdfinegbjdblaaGreatDoorWq24
import Derived.Test.YtbdfinegbjdblaaGreatDoorWq31
set_option maxRecDepth 100000
set_option maxHeartbeats 16000000
set_option linter.unusedSimpArgs false
namespace Go.Proofs.YtbdfinegbjdblaaGreatDoor
open Go.RowKit
section
variable{P:Program}{ops:Array Oper}{Q:QT}{md:Region.Mode}{T:World->Prop}{k i:Nat}{o:Oper}{fuel:Nat}{listed:Array Bool}{a:Act}{w:World}
theorem JZ(hr:Region.ready md ops listed=[i])(b:ops[i]?=some o)(hw:Region.wanted o (yielded ops a.tmps)=false)(d:T w)(h:BY P md ops Q T k fuel (listed.setIfInBounds i true) (a.put o.dst undef) w):BY P md ops Q T k (fuel+1) listed a w:=
 AO hr b λK c=>by rw[ym (by rw[hw];decide)];exact c.o _ _ (λ_=>d) h
theorem Ic(hr:Region.ready md ops listed=[i])(b:ops[i]?=some o)(hw:Region.wanted o (yielded ops a.tmps)=true)
 (h:∀K:Act->World->Prop,Hid (∀a w,((listed.setIfInBounds i true).getD k true=false->T w)->BY P md ops Q T k fuel (listed.setIfInBounds i true) a w->K a w)->Oper.wp P o a w K Q):BY P md ops Q T k (fuel+1) listed a w:=
 AO hr b λK c=>by rw[yz hw];exact h K c
end
theorem NU{N:NP}{w:World}{hr hf hc hg hd hw:AA}{cs:LV}{d:Bk}(h:Ij N w hr hf hc hg hd hw cs d)(hN:∀b,N b->b < w.heap.size)(k:GV w)(l:GU w):Calls Tryz.prog 3 #[.agg cs.toArray] w λe w'=>e=.returned (.bool true)/\Below w.heap.size w w':=by
 have p:Hid (∀W,Below w.heap.size w W->Calls Tryz.prog 9 #[] W λe w'=>e=.returned (.bool true)/\Below W.heap.size W w'):=yb (λW hb=>Xh (k.below hb k.1) (l.up hb))
 have q:Hid (∀W,Below w.heap.size w W->Calls Tryz.prog 11 #[.agg cs.toArray] W λe w'=>e=.returned (iV (F7 d))/\Below W.heap.size W w'):=yb (λW hb=>I2 (h.same (N':=λb=>b < W.heap.size) (λb g=>yx (hN b g) hb.size) (λb g=>hb.block b (hN b g))) (λ_ h=>h))
 have s:Hid (∀W,Below w.heap.size w W->Calls Tryz.prog 12 #[.agg cs.toArray] W λe w'=>e=.returned (iV (F7 d))/\Below W.heap.size W w'):=yb (λW hb=>Rc (h.same (N':=λb=>b < W.heap.size) (λb g=>yx (hN b g) hb.size) (λb g=>hb.block b (hN b g))) (λ_ h=>h))
 obtain ⟨few,t⟩:∃few,Hid (∀W,Calls Tryz.prog 10 #[.agg cs.toArray] W λe w'=>e=.returned (.bool few)/\Below W.heap.size W w'):=⟨_,yb (λW=>by rw[h.cells];exact WL W d.name d.hours d.cap d.start hr hf hc hg hd hw)⟩
 have j:cs.length=10:=by rw[h.cells];rfl
 have c:=yb (FM w cs 31)
 generalize F7 d=u at*
 have z:=yb j
 have n:Hid ((Tryz.prog.info? 31).map (·.size)=some cs.length):=yb (by rw[j];kernel_rfl)
 clear h hN k l j
 go_enter Tryz.func3,Tryz.ntmps3
 refine Ai λK a=>?_
 go_wp2_with (with_reducible refine SH rfl 31 _ rfl cs.toArray (by kernel_rfl) ?_)
 refine a.o _ _ ?_
 clear a K
 generalize w.alloc _=W at c |-
 go_upto_region 3 with (go_at_call 9;with_reducible refine (p.o _ c.o.below).mono ?_;rintro e w2 ⟨rfl,hb⟩;have f:=yb (c.o.up hb);clear hb c;have c:=f;clear f)
 have m:Hid (MJ w cs 31 w2.drew):=yb (c.o.up (yg _ _).drew)
 clear c
 have c:=m
 clear m
 refine Kq ?_
 refine Dl (by kernel_rfl) (λV=>V.rangeAt w.heap.size 0 cs) 7 ?_
 generalize w2.drew=wr at c |-
 refine Aq (i:=0) (by kernel_rfl) rfl rfl (λK a=>?_)
 refine xQ 31 (.tmp 1) rfl w.heap.size 0 (by kernel_rfl) cs _ (Ae c.o.x) jf rfl n.o (a.o _ _ (λ_=>Ae c.o.x) ?_)
 clear a K
 refine Aq (i:=1) (by kernel_rfl) rfl rfl (λK a=>?_)
 go_simp
 refine (t.o _).mono ?_
 rintro e y ⟨rfl,hb⟩
 have f:=yb (c.o.up hb)
 clear hb c
 have c:=f
 clear f
 cases few
 ·go_simp
  refine a.o _ _ (λ_=>Ae c.o.x) ?_
  clear a K
  refine Aq (i:=2) (by kernel_rfl) rfl rfl (λK a=>?_)
  go_simp
  refine a.o _ _ (λ_=>Ae c.o.x) ?_
  clear a K
  refine Aq (i:=3) (by kernel_rfl) rfl rfl (λK a=>?_)
  go_simp
  refine a.o _ _ (λ_=>Ae c.o.x) ?_
  clear a K
  refine Az (i:=6) (v:=undef) rfl (by kernel_rfl) (by kernel_rfl) (by kernel_rfl) (λ_ _ _ h=>by cases h.1) (by kernel_rfl) (.inr ⟨by kernel_rfl,rfl⟩) (λ_=>Ae c.o.x) ?_
  refine Az (i:=4) (v:=undef) rfl (by kernel_rfl) (by kernel_rfl) (by kernel_rfl) (λ_ _ _ h=>by cases h.1) (by kernel_rfl) (.inr ⟨by kernel_rfl,rfl⟩) (λ_=>Ae c.o.x) ?_
  refine JZ (i:=5) (by kernel_rfl) rfl (by kernel_rfl) (Ae c.o.x) ?_
  refine JZ (i:=7) (by kernel_rfl) rfl (by kernel_rfl) (Ae c.o.x) ?_
  refine JZ (i:=8) (by kernel_rfl) rfl (by kernel_rfl) (Ae c.o.x) ?_
  refine Aq (i:=9) (by kernel_rfl) rfl rfl (λK a=>?_)
  go_simp
  refine a.o _ _ (λ_=>Ae c.o.x) ?_
  clear a K
  refine Aq (i:=10) (by kernel_rfl) rfl rfl (λK a=>?_)
  go_simp
  refine a.o _ _ (λ_=>Ae c.o.x) ?_
  clear a K
  refine AP (by kernel_rfl) ?_
  refine ⟨rfl,?_⟩
  go_wp2
  go_ret
  exact ⟨rfl,c.o.below⟩
 go_simp
 refine a.o _ _ (λ_=>Ae c.o.x) ?_
 clear a K
 refine Aq (i:=2) (by kernel_rfl) rfl rfl (λK a=>?_)
 go_simp
 refine a.o _ _ (λ_=>Ae c.o.x) ?_
 clear a K
 refine Aq (i:=3) (by kernel_rfl) rfl rfl (λK a=>?_)
 go_simp
 refine a.o _ _ (λ_=>Ae c.o.x) ?_
 clear a K
 refine BR (i:=6) (v:=.agg cs.toArray) rfl (by kernel_rfl) (by kernel_rfl) (by kernel_rfl) (λ_ _ _ h=>by cases h.1) (by kernel_rfl) (.inl ⟨by kernel_rfl,λV r=>C1 31 (.tmp 1) rfl w.heap.size 0 (by kernel_rfl) cs _ r jf rfl n.o⟩) (Ae c.o.x) ?_
 refine Ic (i:=4) (by kernel_rfl) rfl (by kernel_rfl) (λK a=>?_)
 refine xQ 31 (.tmp 1) rfl w.heap.size 0 (by kernel_rfl) cs _ (Ae c.o.x) jf rfl n.o (a.o _ _ (λ_=>Ae c.o.x) ?_)
 clear a K
 refine Ic (i:=5) (by kernel_rfl) rfl (by kernel_rfl) (λK a=>?_)
 go_simp
 refine (q.o _ c.o.below).mono ?_
 rintro e w4 ⟨rfl,hb⟩
 have f:=yb (c.o.up hb)
 clear hb c
 have c:=f
 clear f
 refine a.o _ _ (λ_=>Ae c.o.x) ?_
 clear a K
 refine Ic (i:=7) (by kernel_rfl) rfl (by kernel_rfl) (λK a=>?_)
 go_simp
 refine (s.o _ c.o.below).mono ?_
 rintro e w4 ⟨rfl,hb⟩
 have f:=yb (c.o.up hb)
 clear hb c
 have c:=f
 clear f
 refine a.o _ _ (λ_=>Ae c.o.x) ?_
 clear a K
 refine Ic (i:=8) (by kernel_rfl) rfl (by kernel_rfl) (λK a=>?_)
 go_simp
 refine a.o _ _ (λ_=>Ae c.o.x) ?_
 clear a K
 refine Aq (i:=9) (by kernel_rfl) rfl rfl (λK a=>?_)
 go_simp
 refine a.o _ _ (λ_=>Ae c.o.x) ?_
 clear a K
 refine Aq (i:=10) (by kernel_rfl) rfl rfl (λK a=>?_)
 go_simp
 refine a.o _ _ (λ_=>Ae c.o.x) ?_
 clear a K
 refine AP (by kernel_rfl) ?_
 refine ⟨rfl,?_⟩
 go_wp2
 go_ret
 exact ⟨rfl,c.o.below⟩
end Go.Proofs.YtbdfinegbjdblaaGreatDoor

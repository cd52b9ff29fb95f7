/- NamesFewer: the walk (printed by gen_vf.py). -/
import Derived.Test.YtapejaabhkfhjaaMVe
namespace Go.Proofs.Ytapejaabhkfhjaa
open Go.RowKit

theorem wpList_skip {P : Program} {ops : Array Oper} {rest : List Oper} {o : Oper} {a : Act} {w : World} {Q : Exit → Act → World → Prop} (hw : Region.wanted o (yielded ops a.tmps) = false) (h : wpList P ops Q rest (a.put o.dst undef) w) : wpList P ops Q (o :: rest) a w :=
  wpList_step fun K hK => by rw [hw]; exact hK _ _ h
theorem setCell_below {B : Nat} {w W : World} (h : Below B w W) {g q : Nat} {v : Value} (hg : B ≤ g) : Below B w (W.setCell ⟨g, q, none⟩ v) :=
  h.trans ⟨rfl, rfl, rfl, by simp, fun k hk => heap_setCell_other _ _ _ _ (by simp only; omega)⟩
theorem cut_all (x : Src) : cutX x x.rights.length x.duties.length = x := by unfold cutX; rw [List.take_length, List.take_length]
theorem row_take {α : Type} {N : Nat → Prop} {w : World} {sz : Nat} {P : List Value → α → Prop} {h : Hdr} {l : List α} (hr : IsRow N w sz P h l) {n : Nat} (hn : n ≤ h.n) : IsRow N w sz P ⟨h.a, n, h.c⟩ (l.take n) := by
  obtain ⟨h1, h2, h3⟩ := hr
  have hl : (l.take n).length = n := by rw [List.length_take]; omega
  refine ⟨hl.symm, by omega, fun i hi => ?_⟩
  obtain ⟨b, o, cs, g⟩ := h3 i (by omega)
  exact ⟨b, o, cs, by simpa using g⟩
theorem src_cutD {N : Nat → Prop} {w : World} {L : Lay} {cs : List Value} {x : Src} (h : SrcV N w L cs x) {n : Nat} (hn : n ≤ L.duties.n) : SrcV N w { L with duties := ⟨L.duties.a, n, L.duties.c⟩ } (cs.set 25 (.slice L.duties.a n L.duties.c)) (cutX x x.rights.length n) := by
  have hd := row_take h.duties hn
  obtain ⟨c0, c1, c2, rfl, g0, g1, g2⟩ := h.cells
  refine ⟨h.name, ⟨c0, c1, c2, ?_, g0, g1, g2⟩, h.lets, h.crops, h.reaches, h.farms, h.rots, ?_, hd⟩
  · obtain ⟨a0, p0, rfl, e0⟩ := g0.cells
    obtain ⟨a1, p1, rfl, e1⟩ := g1.cells
    obtain ⟨a2, p2, rfl, e2⟩ := g2.cells
    rfl
  · have := h.rights; unfold cutX; simp only; rw [List.take_length]; exact this
theorem src_cutR {N : Nat → Prop} {w : World} {L : Lay} {cs : List Value} {x : Src} (h : SrcV N w L cs x) {n : Nat} (hn : n ≤ L.rights.n) : SrcV N w { L with rights := ⟨L.rights.a, n, L.rights.c⟩ } (cs.set 24 (.slice L.rights.a n L.rights.c)) (cutX x n x.duties.length) := by
  have hr := row_take h.rights hn
  obtain ⟨c0, c1, c2, rfl, g0, g1, g2⟩ := h.cells
  refine ⟨h.name, ⟨c0, c1, c2, ?_, g0, g1, g2⟩, h.lets, h.crops, h.reaches, h.farms, h.rots, hr, ?_⟩
  · obtain ⟨a0, p0, rfl, e0⟩ := g0.cells
    obtain ⟨a1, p1, rfl, e1⟩ := g1.cells
    obtain ⟨a2, p2, rfl, e2⟩ := g2.cells
    rfl
  · have := h.duties; unfold cutX; simp only; rw [List.take_length]; exact this
theorem slim_cut {x : Src} (h : Slim x) (a b : Nat) : Slim (cutX x a b) :=
  ⟨h.lets, h.crops, h.reaches, h.farms, h.rots, Nat.le_trans (by simp [cutX]; omega) h.rights, Nat.le_trans (by simp [cutX]; omega) h.duties, h.turns, fun e he => h.exprs e (allE_cut e he)⟩
set_option maxRecDepth 100000 in
set_option maxHeartbeats 32000000 in
theorem fewer_any {N : Nat → Prop} {w : World} {L : Lay} {cs : List Value} {x : Src} (h : SrcV N w L cs x) (hN : ∀ b, N b → b < w.heap.size) (hg : GV w) (hcd : L.duties.n ≤ L.duties.c) (hcr : L.rights.n ≤ L.rights.c) :
    Calls Try.prog 8 #[.agg cs.toArray] w fun e w' => e = .returned (.bool true) ∧ Below w.heap.size w w' := by
  have HCa := Lib.hid h.at
  have HCap := Lib.hid (And.intro hcd hcr)
  clear hcd hcr
  obtain ⟨w0, hw0⟩ : ∃ w0, w0 = w.alloc (.cells cs.toArray 35) := ⟨_, rfl⟩
  have hb0 : Below w.heap.size w w0 := by rw [hw0]; exact (Below.refl _ _).alloc (Nat.le_refl _) _
  have hz0 : w0.heap.size = w.heap.size + 1 := by rw [hw0]; simp
  have hbx : w0.heap[w.heap.size]? = some (.cells cs.toArray 35 (0, 0)) := by rw [hw0]; exact World.alloc_heap_new _ _
  have HB0 := Lib.hid hb0; have HZ0 := Lib.hid hz0; have HNw := Lib.hid hN; have HV := Lib.hid h
  have HBx := Lib.hid hbx
  have HSv : Hid (∀ W, Below w.heap.size w W → SrcV N W L cs x ∧ (∀ b, N b → b < W.heap.size) ∧ GV W) := Lib.hid (fun W hW => ⟨h.same (fun _ h => h) (fun b hb => hW.block b (hN b hb)), fun b hb => Nat.lt_of_lt_of_le (hN b hb) hW.size, hg.below hW hg.1⟩)
  have HRg : Hid (∀ W, Below (w.heap.size + 1) w0 W → W.rangeAt w.heap.size 0 cs) := Lib.hid (fun W hW => by
    have := World.rangeAt_of_block ((hW.block w.heap.size (Nat.lt_succ_self _)).trans hbx) 0 cs.length
    simpa using this)
  have hl26 : cs.length = 26 := by
    obtain ⟨c0, c1, c2, rfl, g0, g1, g2⟩ := h.cells
    obtain ⟨a0, p0, rfl, e0⟩ := g0.cells
    obtain ⟨a1, p1, rfl, e1⟩ := g1.cells
    obtain ⟨a2, p2, rfl, e2⟩ := g2.cells
    rfl
  have HL26 := Lib.hid hl26
  have HOne := Lib.hid (all_oneCell_toArray (one_src h))
  have H26 : Hid ((Try.prog.info? 35).map (·.size) = some cs.length) := Lib.hid (by rw [hl26]; kernel_rfl)
  have HW0 := Lib.hid hw0
  clear hb0 hz0 hbx hN hw0 hl26 hg
  obtain ⟨ks, hks⟩ : ∃ ks, ks = cs := ⟨_, rfl⟩
  rw [← hks] at HCa HV HBx HSv HRg HL26 HOne H26
  have HK := Lib.hid hks
  obtain ⟨q0, q1, q2, rfl, g0, g1, g2⟩ := h.cells
  obtain ⟨a0, p0, rfl, e0⟩ := g0.cells
  obtain ⟨a1, p1, rfl, e1⟩ := g1.cells
  obtain ⟨a2, p2, rfl, e2⟩ := g2.cells
  clear h g0 g1 g2 e0 e1 e2 hks
  unfold Hdr.v at HW0 HK ⊢
  simp only [List.cons_append, List.nil_append] at HW0 HK ⊢
  go_enter Try.func8, Try.ntmps8
  go_upto_region 1 with fail
  rw [← HW0.out, ← HK.out]
  go_upto_region 3 with (first | (go_at_call 9; refine (sane_any (HSv.out _ HB0.out).2.2).mono ?_; rintro e w1 ⟨rfl, hb1⟩; have HB1 := Lib.hid hb1; clear hb1))
  have HW1 := Lib.hid (HB0.out.trans (HB1.out.mono HB0.out.size))
  have HC1 : Hid (Below (w.heap.size + 1) w0 w1) := Lib.hid (HB1.out.mono (by rw [HZ0.out]; exact Nat.le_refl _))
  have HR1 := Lib.hid (HRg.out w1 HC1.out)
  refine wp_region_lit ?_
  refine wpList_load_mid_g (by kernel_rfl) 35 _ rfl w.heap.size 0 rfl ks _ HR1.out Try.underlying35 rfl H26.out ?_
  refine wpList_g (by kernel_rfl) fun K hK => ?_
  go_simp
  refine (few_any (HSv.out _ HW1.out).1 (HSv.out _ HW1.out).2.1).mono ?_
  rintro e w2 ⟨he2, hb2⟩
  have HW2 := Lib.hid (HW1.out.trans (hb2.mono HW1.out.size))
  have HC2 : Hid (Below (w.heap.size + 1) w0 w2) := Lib.hid (HC1.out.trans (hb2.mono (by have := HC1.out.size; have := HZ0.out; omega)))
  have HR2 := Lib.hid (HRg.out w2 HC2.out)
  clear hb2
  cases hf : fewB x with
  | false =>
    rw [hf] at he2
    subst he2
    refine hK _ _ ?_
    clear hK K
    refine wpList_g (by kernel_rfl) fun K hK => ?_
    go_simp
    refine hK _ _ ?_
    clear hK K
    refine wpList_g (by kernel_rfl) fun K hK => ?_
    go_simp
    refine hK _ _ ?_
    clear hK K
    refine wpList_skip (by kernel_rfl) ?_
    refine wpList_skip (by kernel_rfl) ?_
    refine wpList_skip (by kernel_rfl) ?_
    refine wpList_g (by kernel_rfl) fun K hK => ?_
    go_simp
    refine hK _ _ ?_
    clear hK K
    refine wpList_nil ?_
    go_wp2
    go_ret
    exact ⟨rfl, HW2.out⟩
  | true =>
    rw [hf] at he2
    subst he2
    obtain ⟨hslim, hdeep⟩ := few_slim hf
    have HSl := Lib.hid hslim; have HDp := Lib.hid hdeep
    clear hf hslim hdeep
    refine hK _ _ ?_
    clear hK K
    refine wpList_g (by kernel_rfl) fun K hK => ?_
    go_simp
    refine hK _ _ ?_
    clear hK K
    refine wpList_g (by kernel_rfl) fun K hK => ?_
    go_simp
    refine hK _ _ ?_
    clear hK K
    refine wpList_load_mid_g (by kernel_rfl) 35 _ rfl w.heap.size 0 rfl ks _ HR2.out Try.underlying35 rfl H26.out ?_
    refine wpList_g (by kernel_rfl) fun K hK => ?_
    go_simp
    refine (check_any (HSv.out _ HW2.out).1 (HSv.out _ HW2.out).2.1 HSl.out (HSv.out _ HW2.out).2.2 HDp.out).mono ?_
    rintro e w3 ⟨he3, hb3⟩
    subst he3
    have HW3 := Lib.hid (HW2.out.trans (hb3.mono HW2.out.size))
    have HC3 : Hid (Below (w.heap.size + 1) w0 w3) := Lib.hid (HC2.out.trans (hb3.mono (by have := HC2.out.size; have := HZ0.out; omega)))
    clear hb3
    refine hK _ _ ?_
    clear hK K
    by_cases hc : checkS x = 0
    · have HCut := Lib.hid (check_cut hc)
      rw [hc]
      clear hc
      refine wpList_g (by kernel_rfl) fun K hK => ?_
      go_simp
      refine hK _ _ ?_
      clear hK K
      refine wpList_g (by kernel_rfl) fun K hK => ?_
      go_simp
      refine hK _ _ ?_
      clear hK K
      refine wpList_nil ?_
      go_upto_region 5 with fail
      have HR3 := Lib.hid (HRg.out w3 HC3.out)
      refine reg5F (B := w.heap.size) (ks := ks) _ ?_ ?_ ?_ ?_ ?_ ?_ ?_ ?_
      · rfl
      · rfl
      · rfl
      · have := HC3.out.size; have := HZ0.out; omega
      · exact HR3.out
      · exact HL26.out
      · exact HOne.out
      · intro a w4 b c ha1 ha2 ha3 hne hb4 hc4 hbl
        have e : a = { tmps := #[.agg ks.toArray, .pointer (some ⟨w.heap.size, 0, none⟩), .bool false, (a.tmps.getD 3 undef), (a.tmps.getD 4 undef), undef, undef, .bool true, .bool false, .agg ks.toArray, .bool true, .bool false, .bool false, .agg ks.toArray, .int .i64 0, .bool false, .bool false, (a.tmps.getD 17 undef), (a.tmps.getD 18 undef), undef, undef, undef, undef, undef, undef, undef, undef, undef, undef, undef, undef, undef, undef, undef, undef, undef, undef, undef, undef, undef, undef, undef, undef, undef, undef, undef, undef, undef, undef], defers := [] } := (rebuild [3, 4, 17, 18] (ha1.trans rfl) ha2 (fun t ht => ha3 t ht)).trans (by kernel_rfl)
        rw [hb4.1, hc4.1] at e
        obtain ⟨v17, v18, rfl⟩ : ∃ v17 v18 : Value, a = { tmps := #[.agg ks.toArray, .pointer (some ⟨w.heap.size, 0, none⟩), .bool false, .pointer (some ⟨b, 0, none⟩), .pointer (some ⟨c, 0, none⟩), undef, undef, .bool true, .bool false, .agg ks.toArray, .bool true, .bool false, .bool false, .agg ks.toArray, .int .i64 0, .bool false, .bool false, v17, v18, undef, undef, undef, undef, undef, undef, undef, undef, undef, undef, undef, undef, undef, undef, undef, undef, undef, undef, undef, undef, undef, undef, undef, undef, undef, undef, undef, undef, undef, undef], defers := [] } := ⟨_, _, e⟩
        obtain ⟨_, gb, hbk⟩ := hb4
        obtain ⟨_, gc, hck⟩ := hc4
        have hz3 : w.heap.size + 1 ≤ w3.heap.size := by have := HC3.out.size; have := HZ0.out; omega
        obtain ⟨W5, hW5⟩ : ∃ W5, W5 = (w4.setRow b ks.toArray).setRow c ks.toArray := ⟨_, rfl⟩
        have fB : W5.heap[w.heap.size]? = some (.cells ks.toArray 35 (0, 0)) := by
          rw [hW5, setRow_other _ _ (by omega), setRow_other _ _ (by omega), hbl.block _ (by omega), HC3.out.block _ (Nat.lt_succ_self _)]
          exact HBx.out
        have fb : W5.heap[b]? = some (.cells ks.toArray 35 (0, 0)) := by
          rw [hW5, setRow_other _ _ hne]
          exact setRow_heap _ _ _ _ _ _ hbk
        have fc : W5.heap[c]? = some (.cells ks.toArray 35 (0, 0)) := by
          rw [hW5]
          exact setRow_heap _ _ _ _ _ _ ((setRow_other _ _ (fun e => hne e.symm)).trans hck)
        have HW5 : Hid (Below w.heap.size w W5) := Lib.hid (by
          refine ⟨?_, ?_, ?_, ?_, fun k hk => ?_⟩
          · rw [hW5]; exact hbl.os.trans HW3.out.os
          · rw [hW5]; exact hbl.tape.trans HW3.out.tape
          · rw [hW5]; exact hbl.output.trans HW3.out.output
          · rw [hW5, setRow_size, setRow_size]; exact Nat.le_trans HW3.out.size hbl.size
          · rw [hW5, setRow_other _ _ (by omega), setRow_other _ _ (by omega), hbl.block _ (by omega)]; exact HW3.out.block k hk)
        have HAr : Hid (w.heap.size < b ∧ w.heap.size < c ∧ b ≠ c) := Lib.hid ⟨by omega, by omega, hne⟩
        rw [← hW5]
        have Fb := Lib.hid fb; have Fc := Lib.hid fc
        have cell : ∀ {g q : Nat} {v : Value}, W5.heap[g]? = some (.cells ks.toArray 35 (0, 0)) → ks[q]? = some v → W5.cell? ⟨g, q, none⟩ = some v := fun hg hq => by simp only [World.cell?, hg]; simpa using hq
        have frz : ∀ {g q : Nat}, W5.heap[g]? = some (.cells ks.toArray 35 (0, 0)) → W5.frozen? ⟨g, q, none⟩ = false := fun {g q} hg => by unfold World.frozen?; rw [hg]; rfl
        have hd := HCa.out.duties
        have hr := HCa.out.rights
        have cB25 := cell fB hd; have cB24 := cell fB hr; have cb25 := cell fb hd; have cc24 := cell fc hr
        have zb := frz (q := 25) fb; have zc := frz (q := 24) fc
        have HDl := Lib.hid (HV.out.duties.1); have HRl := Lib.hid (HV.out.rights.1)
        have nd47 : L.duties.n ≤ 140737488355328 := HV.out.ok.duties.1
        have nr47 : L.rights.n ≤ 140737488355328 := HV.out.ok.rights.1
        unfold Hdr.v at cB25 cB24 cb25 cc24
        clear e ha1 ha2 ha3 hne hbl gb gc hbk hck hz3 hW5 fB fb fc cell frz hd hr
        by_cases hD : L.duties.n = 0
        · have tD : ¬ 0 < L.duties.n := by omega
          have HD := Lib.hid hD
          clear hD
          by_cases hR : L.rights.n = 0
          · have tR : ¬ 0 < L.rights.n := by omega
            have HR := Lib.hid hR
            clear hR
            go_upto_region 12 with fail
            have HSet : ∀ (W : World) (g q : Nat) (v : Value), W.heap[g]? = some (.cells ks.toArray 35 (0, 0)) → (W.setCell ⟨g, q, none⟩ v).heap[g]? = some (.cells (ks.set q v).toArray 35 (0, 0)) := fun W g q v h => by
              rw [heap_setCell_same W g q _ _ v h, List.setIfInBounds_toArray]
            have HLb : Hid (W5.heap[b]? = some (.cells ks.toArray 35 (0, 0))) := Lib.hid (Fb.out)
            have HLc : Hid (W5.heap[c]? = some (.cells ks.toArray 35 (0, 0))) := Lib.hid (Fc.out)
            have HLw : Hid (Below w.heap.size w W5) := Lib.hid (HW5.out)
            have HSD : Hid (SrcV N w _ ks (cutX x x.rights.length x.duties.length)) := Lib.hid (by rw [cut_all]; exact HV.out)
            have HSR : Hid (SrcV N w _ ks (cutX x x.rights.length x.duties.length)) := Lib.hid (by rw [cut_all]; exact HV.out)
            have h26D : ks.length = 26 := by exact HL26.out
            have h26R : ks.length = 26 := by exact HL26.out
            generalize W5 = W6 at HLb HLc HLw ⊢
            generalize ks = RD at HLb HSD h26D
            generalize ks = RR at HLc HSR h26R
            have HID : Hid ((Try.prog.info? 35).map (·.size) = some RD.length) := Lib.hid (by rw [h26D]; kernel_rfl)
            have HIR : Hid ((Try.prog.info? 35).map (·.size) = some RR.length) := Lib.hid (by rw [h26R]; kernel_rfl)
            have HRD : Hid (W6.rangeAt b 0 RD) := Lib.hid (by
              have := World.rangeAt_of_block HLb.out 0 RD.length
              simpa using this)
            have HRR : Hid (∀ W, Below W6.heap.size W6 W → W.rangeAt c 0 RR) := Lib.hid (fun W hW => by
              have := World.rangeAt_of_block ((hW.block c (Array.getElem?_eq_some_iff.1 HLc.out).1).trans HLc.out) 0 RR.length
              simpa using this)
            have HCkD : Hid (Calls Try.prog 14 #[.agg RD.toArray] W6 fun e w' => e = .returned (.int .i64 0) ∧ Below W6.heap.size W6 w') := Lib.hid (by
              have hB := HLw.out
              have h := check_any (HSD.out.same (fun _ h => h) (fun b hb => hB.block b (HNw.out b hb))) (fun b hb => Nat.lt_of_lt_of_le (HNw.out b hb) hB.size) (slim_cut HSl.out _ _) (HSv.out _ hB).2.2 (fun e he => HDp.out e (allE_cut e he))
              rw [HCut.out] at h
              exact h)
            have HCkR : Hid (∀ W, Below W6.heap.size W6 W → Calls Try.prog 14 #[.agg RR.toArray] W fun e w' => e = .returned (.int .i64 0) ∧ Below W.heap.size W w') := Lib.hid (fun W hW => by
              have hB := HLw.out.trans (hW.mono HLw.out.size)
              have h := check_any (HSR.out.same (fun _ h => h) (fun b hb => hB.block b (HNw.out b hb))) (fun b hb => Nat.lt_of_lt_of_le (HNw.out b hb) hB.size) (slim_cut HSl.out _ _) (HSv.out _ hB).2.2 (fun e he => HDp.out e (allE_cut e he))
              rw [HCut.out] at h
              exact h)
            have HWf := Lib.hid HLw.out
            clear HSet HLb HLc HLw HSD HSR h26D h26R cB25 cB24 cb25 cc24 zb zc nd47 nr47
            refine wp_region_lit ?_
            refine wpList_load_mid_g (by kernel_rfl) 35 _ rfl b 0 rfl RD _ HRD.out Try.underlying35 rfl HID.out ?_
            refine wpList_g (by kernel_rfl) fun K hK => ?_
            go_simp
            refine HCkD.out.mono ?_
            rintro e w7 ⟨rfl, hb7⟩
            have HB7 := Lib.hid hb7
            clear hb7
            refine hK _ _ ?_
            clear hK K
            refine wpList_g (by kernel_rfl) fun K hK => ?_
            go_simp
            refine hK _ _ ?_
            clear hK K
            refine wpList_g (by kernel_rfl) fun K hK => ?_
            go_simp
            refine hK _ _ ?_
            clear hK K
            refine wpList_load_mid_g (by kernel_rfl) 35 _ rfl c 0 rfl RR _ (HRR.out _ HB7.out) Try.underlying35 rfl HIR.out ?_
            refine wpList_g (by kernel_rfl) fun K hK => ?_
            go_simp
            refine (HCkR.out _ HB7.out).mono ?_
            rintro e w8 ⟨rfl, hb8⟩
            have HB8 := Lib.hid (HB7.out.trans (hb8.mono HB7.out.size))
            clear hb8
            refine hK _ _ ?_
            clear hK K
            refine wpList_g (by kernel_rfl) fun K hK => ?_
            go_simp
            refine hK _ _ ?_
            clear hK K
            refine wpList_g (by kernel_rfl) fun K hK => ?_
            go_simp
            refine hK _ _ ?_
            clear hK K
            refine wpList_g (by kernel_rfl) fun K hK => ?_
            go_simp
            refine hK _ _ ?_
            clear hK K
            refine wpList_nil ?_
            go_wp2
            go_ret
            exact ⟨rfl, HWf.out.trans (HB8.out.mono HWf.out.size)⟩
          · have pR : 0 < L.rights.n := by omega
            have kR : (1 : Int) ≤ (L.rights.n : Int) ∧ (L.rights.n : Int) - 1 ≤ (L.rights.c : Int) := by have := HCap.out.2; omega
            have HR := Lib.hid pR
            clear hR
            go_upto_region 12 with fail
            have HSet : ∀ (W : World) (g q : Nat) (v : Value), W.heap[g]? = some (.cells ks.toArray 35 (0, 0)) → (W.setCell ⟨g, q, none⟩ v).heap[g]? = some (.cells (ks.set q v).toArray 35 (0, 0)) := fun W g q v h => by
              rw [heap_setCell_same W g q _ _ v h, List.setIfInBounds_toArray]
            have HLb : Hid ((W5.setCell ⟨c, 24, none⟩ (.slice L.rights.a (L.rights.n - 1) L.rights.c)).heap[b]? = some (.cells ks.toArray 35 (0, 0))) := Lib.hid (((heap_setCell_other _ _ _ _ (by have := HAr.out; simp only; omega)).trans Fb.out))
            have HLc : Hid ((W5.setCell ⟨c, 24, none⟩ (.slice L.rights.a (L.rights.n - 1) L.rights.c)).heap[c]? = some (.cells (ks.set 24 (.slice L.rights.a (L.rights.n - 1) L.rights.c)).toArray 35 (0, 0))) := Lib.hid ((HSet _ _ _ _ Fc.out))
            have HLw : Hid (Below w.heap.size w (W5.setCell ⟨c, 24, none⟩ (.slice L.rights.a (L.rights.n - 1) L.rights.c))) := Lib.hid ((setCell_below HW5.out (by have := HAr.out; omega)))
            have HSD : Hid (SrcV N w _ ks (cutX x x.rights.length x.duties.length)) := Lib.hid (by rw [cut_all]; exact HV.out)
            have HSR : Hid (SrcV N w _ (ks.set 24 (.slice L.rights.a (L.rights.n - 1) L.rights.c)) (cutX x (L.rights.n - 1) x.duties.length)) := Lib.hid (src_cutR HV.out (n := L.rights.n - 1) (by omega))
            have h26D : ks.length = 26 := by exact HL26.out
            have h26R : (ks.set 24 (.slice L.rights.a (L.rights.n - 1) L.rights.c)).length = 26 := by rw [List.length_set]; exact HL26.out
            generalize (W5.setCell ⟨c, 24, none⟩ (.slice L.rights.a (L.rights.n - 1) L.rights.c)) = W6 at HLb HLc HLw ⊢
            generalize ks = RD at HLb HSD h26D
            generalize (ks.set 24 (.slice L.rights.a (L.rights.n - 1) L.rights.c)) = RR at HLc HSR h26R
            have HID : Hid ((Try.prog.info? 35).map (·.size) = some RD.length) := Lib.hid (by rw [h26D]; kernel_rfl)
            have HIR : Hid ((Try.prog.info? 35).map (·.size) = some RR.length) := Lib.hid (by rw [h26R]; kernel_rfl)
            have HRD : Hid (W6.rangeAt b 0 RD) := Lib.hid (by
              have := World.rangeAt_of_block HLb.out 0 RD.length
              simpa using this)
            have HRR : Hid (∀ W, Below W6.heap.size W6 W → W.rangeAt c 0 RR) := Lib.hid (fun W hW => by
              have := World.rangeAt_of_block ((hW.block c (Array.getElem?_eq_some_iff.1 HLc.out).1).trans HLc.out) 0 RR.length
              simpa using this)
            have HCkD : Hid (Calls Try.prog 14 #[.agg RD.toArray] W6 fun e w' => e = .returned (.int .i64 0) ∧ Below W6.heap.size W6 w') := Lib.hid (by
              have hB := HLw.out
              have h := check_any (HSD.out.same (fun _ h => h) (fun b hb => hB.block b (HNw.out b hb))) (fun b hb => Nat.lt_of_lt_of_le (HNw.out b hb) hB.size) (slim_cut HSl.out _ _) (HSv.out _ hB).2.2 (fun e he => HDp.out e (allE_cut e he))
              rw [HCut.out] at h
              exact h)
            have HCkR : Hid (∀ W, Below W6.heap.size W6 W → Calls Try.prog 14 #[.agg RR.toArray] W fun e w' => e = .returned (.int .i64 0) ∧ Below W.heap.size W w') := Lib.hid (fun W hW => by
              have hB := HLw.out.trans (hW.mono HLw.out.size)
              have h := check_any (HSR.out.same (fun _ h => h) (fun b hb => hB.block b (HNw.out b hb))) (fun b hb => Nat.lt_of_lt_of_le (HNw.out b hb) hB.size) (slim_cut HSl.out _ _) (HSv.out _ hB).2.2 (fun e he => HDp.out e (allE_cut e he))
              rw [HCut.out] at h
              exact h)
            have HWf := Lib.hid HLw.out
            clear HSet HLb HLc HLw HSD HSR h26D h26R cB25 cB24 cb25 cc24 zb zc nd47 nr47
            refine wp_region_lit ?_
            refine wpList_load_mid_g (by kernel_rfl) 35 _ rfl b 0 rfl RD _ HRD.out Try.underlying35 rfl HID.out ?_
            refine wpList_g (by kernel_rfl) fun K hK => ?_
            go_simp
            refine HCkD.out.mono ?_
            rintro e w7 ⟨rfl, hb7⟩
            have HB7 := Lib.hid hb7
            clear hb7
            refine hK _ _ ?_
            clear hK K
            refine wpList_g (by kernel_rfl) fun K hK => ?_
            go_simp
            refine hK _ _ ?_
            clear hK K
            refine wpList_g (by kernel_rfl) fun K hK => ?_
            go_simp
            refine hK _ _ ?_
            clear hK K
            refine wpList_load_mid_g (by kernel_rfl) 35 _ rfl c 0 rfl RR _ (HRR.out _ HB7.out) Try.underlying35 rfl HIR.out ?_
            refine wpList_g (by kernel_rfl) fun K hK => ?_
            go_simp
            refine (HCkR.out _ HB7.out).mono ?_
            rintro e w8 ⟨rfl, hb8⟩
            have HB8 := Lib.hid (HB7.out.trans (hb8.mono HB7.out.size))
            clear hb8
            refine hK _ _ ?_
            clear hK K
            refine wpList_g (by kernel_rfl) fun K hK => ?_
            go_simp
            refine hK _ _ ?_
            clear hK K
            refine wpList_g (by kernel_rfl) fun K hK => ?_
            go_simp
            refine hK _ _ ?_
            clear hK K
            refine wpList_g (by kernel_rfl) fun K hK => ?_
            go_simp
            refine hK _ _ ?_
            clear hK K
            refine wpList_nil ?_
            go_wp2
            go_ret
            exact ⟨rfl, HWf.out.trans (HB8.out.mono HWf.out.size)⟩
        · have pD : 0 < L.duties.n := by omega
          have kD : (1 : Int) ≤ (L.duties.n : Int) ∧ (L.duties.n : Int) - 1 ≤ (L.duties.c : Int) := by have := HCap.out.1; omega
          have HD := Lib.hid pD
          clear hD
          by_cases hR : L.rights.n = 0
          · have tR : ¬ 0 < L.rights.n := by omega
            have HR := Lib.hid hR
            clear hR
            go_upto_region 12 with fail
            have HSet : ∀ (W : World) (g q : Nat) (v : Value), W.heap[g]? = some (.cells ks.toArray 35 (0, 0)) → (W.setCell ⟨g, q, none⟩ v).heap[g]? = some (.cells (ks.set q v).toArray 35 (0, 0)) := fun W g q v h => by
              rw [heap_setCell_same W g q _ _ v h, List.setIfInBounds_toArray]
            have HLb : Hid ((W5.setCell ⟨b, 25, none⟩ (.slice L.duties.a (L.duties.n - 1) L.duties.c)).heap[b]? = some (.cells (ks.set 25 (.slice L.duties.a (L.duties.n - 1) L.duties.c)).toArray 35 (0, 0))) := Lib.hid ((HSet _ _ _ _ Fb.out))
            have HLc : Hid ((W5.setCell ⟨b, 25, none⟩ (.slice L.duties.a (L.duties.n - 1) L.duties.c)).heap[c]? = some (.cells ks.toArray 35 (0, 0))) := Lib.hid (((heap_setCell_other _ _ _ _ (by have := HAr.out; simp only; omega)).trans Fc.out))
            have HLw : Hid (Below w.heap.size w (W5.setCell ⟨b, 25, none⟩ (.slice L.duties.a (L.duties.n - 1) L.duties.c))) := Lib.hid ((setCell_below HW5.out (by have := HAr.out; omega)))
            have HSD : Hid (SrcV N w _ (ks.set 25 (.slice L.duties.a (L.duties.n - 1) L.duties.c)) (cutX x x.rights.length (L.duties.n - 1))) := Lib.hid (src_cutD HV.out (n := L.duties.n - 1) (by omega))
            have HSR : Hid (SrcV N w _ ks (cutX x x.rights.length x.duties.length)) := Lib.hid (by rw [cut_all]; exact HV.out)
            have h26D : (ks.set 25 (.slice L.duties.a (L.duties.n - 1) L.duties.c)).length = 26 := by rw [List.length_set]; exact HL26.out
            have h26R : ks.length = 26 := by exact HL26.out
            generalize (W5.setCell ⟨b, 25, none⟩ (.slice L.duties.a (L.duties.n - 1) L.duties.c)) = W6 at HLb HLc HLw ⊢
            generalize (ks.set 25 (.slice L.duties.a (L.duties.n - 1) L.duties.c)) = RD at HLb HSD h26D
            generalize ks = RR at HLc HSR h26R
            have HID : Hid ((Try.prog.info? 35).map (·.size) = some RD.length) := Lib.hid (by rw [h26D]; kernel_rfl)
            have HIR : Hid ((Try.prog.info? 35).map (·.size) = some RR.length) := Lib.hid (by rw [h26R]; kernel_rfl)
            have HRD : Hid (W6.rangeAt b 0 RD) := Lib.hid (by
              have := World.rangeAt_of_block HLb.out 0 RD.length
              simpa using this)
            have HRR : Hid (∀ W, Below W6.heap.size W6 W → W.rangeAt c 0 RR) := Lib.hid (fun W hW => by
              have := World.rangeAt_of_block ((hW.block c (Array.getElem?_eq_some_iff.1 HLc.out).1).trans HLc.out) 0 RR.length
              simpa using this)
            have HCkD : Hid (Calls Try.prog 14 #[.agg RD.toArray] W6 fun e w' => e = .returned (.int .i64 0) ∧ Below W6.heap.size W6 w') := Lib.hid (by
              have hB := HLw.out
              have h := check_any (HSD.out.same (fun _ h => h) (fun b hb => hB.block b (HNw.out b hb))) (fun b hb => Nat.lt_of_lt_of_le (HNw.out b hb) hB.size) (slim_cut HSl.out _ _) (HSv.out _ hB).2.2 (fun e he => HDp.out e (allE_cut e he))
              rw [HCut.out] at h
              exact h)
            have HCkR : Hid (∀ W, Below W6.heap.size W6 W → Calls Try.prog 14 #[.agg RR.toArray] W fun e w' => e = .returned (.int .i64 0) ∧ Below W.heap.size W w') := Lib.hid (fun W hW => by
              have hB := HLw.out.trans (hW.mono HLw.out.size)
              have h := check_any (HSR.out.same (fun _ h => h) (fun b hb => hB.block b (HNw.out b hb))) (fun b hb => Nat.lt_of_lt_of_le (HNw.out b hb) hB.size) (slim_cut HSl.out _ _) (HSv.out _ hB).2.2 (fun e he => HDp.out e (allE_cut e he))
              rw [HCut.out] at h
              exact h)
            have HWf := Lib.hid HLw.out
            clear HSet HLb HLc HLw HSD HSR h26D h26R cB25 cB24 cb25 cc24 zb zc nd47 nr47
            refine wp_region_lit ?_
            refine wpList_load_mid_g (by kernel_rfl) 35 _ rfl b 0 rfl RD _ HRD.out Try.underlying35 rfl HID.out ?_
            refine wpList_g (by kernel_rfl) fun K hK => ?_
            go_simp
            refine HCkD.out.mono ?_
            rintro e w7 ⟨rfl, hb7⟩
            have HB7 := Lib.hid hb7
            clear hb7
            refine hK _ _ ?_
            clear hK K
            refine wpList_g (by kernel_rfl) fun K hK => ?_
            go_simp
            refine hK _ _ ?_
            clear hK K
            refine wpList_g (by kernel_rfl) fun K hK => ?_
            go_simp
            refine hK _ _ ?_
            clear hK K
            refine wpList_load_mid_g (by kernel_rfl) 35 _ rfl c 0 rfl RR _ (HRR.out _ HB7.out) Try.underlying35 rfl HIR.out ?_
            refine wpList_g (by kernel_rfl) fun K hK => ?_
            go_simp
            refine (HCkR.out _ HB7.out).mono ?_
            rintro e w8 ⟨rfl, hb8⟩
            have HB8 := Lib.hid (HB7.out.trans (hb8.mono HB7.out.size))
            clear hb8
            refine hK _ _ ?_
            clear hK K
            refine wpList_g (by kernel_rfl) fun K hK => ?_
            go_simp
            refine hK _ _ ?_
            clear hK K
            refine wpList_g (by kernel_rfl) fun K hK => ?_
            go_simp
            refine hK _ _ ?_
            clear hK K
            refine wpList_g (by kernel_rfl) fun K hK => ?_
            go_simp
            refine hK _ _ ?_
            clear hK K
            refine wpList_nil ?_
            go_wp2
            go_ret
            exact ⟨rfl, HWf.out.trans (HB8.out.mono HWf.out.size)⟩
          · have pR : 0 < L.rights.n := by omega
            have kR : (1 : Int) ≤ (L.rights.n : Int) ∧ (L.rights.n : Int) - 1 ≤ (L.rights.c : Int) := by have := HCap.out.2; omega
            have HR := Lib.hid pR
            clear hR
            go_upto_region 12 with fail
            have HSet : ∀ (W : World) (g q : Nat) (v : Value), W.heap[g]? = some (.cells ks.toArray 35 (0, 0)) → (W.setCell ⟨g, q, none⟩ v).heap[g]? = some (.cells (ks.set q v).toArray 35 (0, 0)) := fun W g q v h => by
              rw [heap_setCell_same W g q _ _ v h, List.setIfInBounds_toArray]
            have HLb : Hid (((W5.setCell ⟨b, 25, none⟩ (.slice L.duties.a (L.duties.n - 1) L.duties.c)).setCell ⟨c, 24, none⟩ (.slice L.rights.a (L.rights.n - 1) L.rights.c)).heap[b]? = some (.cells (ks.set 25 (.slice L.duties.a (L.duties.n - 1) L.duties.c)).toArray 35 (0, 0))) := Lib.hid (((heap_setCell_other _ _ _ _ (by have := HAr.out; simp only; omega)).trans (HSet _ _ _ _ Fb.out)))
            have HLc : Hid (((W5.setCell ⟨b, 25, none⟩ (.slice L.duties.a (L.duties.n - 1) L.duties.c)).setCell ⟨c, 24, none⟩ (.slice L.rights.a (L.rights.n - 1) L.rights.c)).heap[c]? = some (.cells (ks.set 24 (.slice L.rights.a (L.rights.n - 1) L.rights.c)).toArray 35 (0, 0))) := Lib.hid ((HSet _ _ _ _ ((heap_setCell_other _ _ _ _ (by have := HAr.out; simp only; omega)).trans Fc.out)))
            have HLw : Hid (Below w.heap.size w ((W5.setCell ⟨b, 25, none⟩ (.slice L.duties.a (L.duties.n - 1) L.duties.c)).setCell ⟨c, 24, none⟩ (.slice L.rights.a (L.rights.n - 1) L.rights.c))) := Lib.hid ((setCell_below (setCell_below HW5.out (by have := HAr.out; omega)) (by have := HAr.out; omega)))
            have HSD : Hid (SrcV N w _ (ks.set 25 (.slice L.duties.a (L.duties.n - 1) L.duties.c)) (cutX x x.rights.length (L.duties.n - 1))) := Lib.hid (src_cutD HV.out (n := L.duties.n - 1) (by omega))
            have HSR : Hid (SrcV N w _ (ks.set 24 (.slice L.rights.a (L.rights.n - 1) L.rights.c)) (cutX x (L.rights.n - 1) x.duties.length)) := Lib.hid (src_cutR HV.out (n := L.rights.n - 1) (by omega))
            have h26D : (ks.set 25 (.slice L.duties.a (L.duties.n - 1) L.duties.c)).length = 26 := by rw [List.length_set]; exact HL26.out
            have h26R : (ks.set 24 (.slice L.rights.a (L.rights.n - 1) L.rights.c)).length = 26 := by rw [List.length_set]; exact HL26.out
            generalize ((W5.setCell ⟨b, 25, none⟩ (.slice L.duties.a (L.duties.n - 1) L.duties.c)).setCell ⟨c, 24, none⟩ (.slice L.rights.a (L.rights.n - 1) L.rights.c)) = W6 at HLb HLc HLw ⊢
            generalize (ks.set 25 (.slice L.duties.a (L.duties.n - 1) L.duties.c)) = RD at HLb HSD h26D
            generalize (ks.set 24 (.slice L.rights.a (L.rights.n - 1) L.rights.c)) = RR at HLc HSR h26R
            have HID : Hid ((Try.prog.info? 35).map (·.size) = some RD.length) := Lib.hid (by rw [h26D]; kernel_rfl)
            have HIR : Hid ((Try.prog.info? 35).map (·.size) = some RR.length) := Lib.hid (by rw [h26R]; kernel_rfl)
            have HRD : Hid (W6.rangeAt b 0 RD) := Lib.hid (by
              have := World.rangeAt_of_block HLb.out 0 RD.length
              simpa using this)
            have HRR : Hid (∀ W, Below W6.heap.size W6 W → W.rangeAt c 0 RR) := Lib.hid (fun W hW => by
              have := World.rangeAt_of_block ((hW.block c (Array.getElem?_eq_some_iff.1 HLc.out).1).trans HLc.out) 0 RR.length
              simpa using this)
            have HCkD : Hid (Calls Try.prog 14 #[.agg RD.toArray] W6 fun e w' => e = .returned (.int .i64 0) ∧ Below W6.heap.size W6 w') := Lib.hid (by
              have hB := HLw.out
              have h := check_any (HSD.out.same (fun _ h => h) (fun b hb => hB.block b (HNw.out b hb))) (fun b hb => Nat.lt_of_lt_of_le (HNw.out b hb) hB.size) (slim_cut HSl.out _ _) (HSv.out _ hB).2.2 (fun e he => HDp.out e (allE_cut e he))
              rw [HCut.out] at h
              exact h)
            have HCkR : Hid (∀ W, Below W6.heap.size W6 W → Calls Try.prog 14 #[.agg RR.toArray] W fun e w' => e = .returned (.int .i64 0) ∧ Below W.heap.size W w') := Lib.hid (fun W hW => by
              have hB := HLw.out.trans (hW.mono HLw.out.size)
              have h := check_any (HSR.out.same (fun _ h => h) (fun b hb => hB.block b (HNw.out b hb))) (fun b hb => Nat.lt_of_lt_of_le (HNw.out b hb) hB.size) (slim_cut HSl.out _ _) (HSv.out _ hB).2.2 (fun e he => HDp.out e (allE_cut e he))
              rw [HCut.out] at h
              exact h)
            have HWf := Lib.hid HLw.out
            clear HSet HLb HLc HLw HSD HSR h26D h26R cB25 cB24 cb25 cc24 zb zc nd47 nr47
            refine wp_region_lit ?_
            refine wpList_load_mid_g (by kernel_rfl) 35 _ rfl b 0 rfl RD _ HRD.out Try.underlying35 rfl HID.out ?_
            refine wpList_g (by kernel_rfl) fun K hK => ?_
            go_simp
            refine HCkD.out.mono ?_
            rintro e w7 ⟨rfl, hb7⟩
            have HB7 := Lib.hid hb7
            clear hb7
            refine hK _ _ ?_
            clear hK K
            refine wpList_g (by kernel_rfl) fun K hK => ?_
            go_simp
            refine hK _ _ ?_
            clear hK K
            refine wpList_g (by kernel_rfl) fun K hK => ?_
            go_simp
            refine hK _ _ ?_
            clear hK K
            refine wpList_load_mid_g (by kernel_rfl) 35 _ rfl c 0 rfl RR _ (HRR.out _ HB7.out) Try.underlying35 rfl HIR.out ?_
            refine wpList_g (by kernel_rfl) fun K hK => ?_
            go_simp
            refine (HCkR.out _ HB7.out).mono ?_
            rintro e w8 ⟨rfl, hb8⟩
            have HB8 := Lib.hid (HB7.out.trans (hb8.mono HB7.out.size))
            clear hb8
            refine hK _ _ ?_
            clear hK K
            refine wpList_g (by kernel_rfl) fun K hK => ?_
            go_simp
            refine hK _ _ ?_
            clear hK K
            refine wpList_g (by kernel_rfl) fun K hK => ?_
            go_simp
            refine hK _ _ ?_
            clear hK K
            refine wpList_g (by kernel_rfl) fun K hK => ?_
            go_simp
            refine hK _ _ ?_
            clear hK K
            refine wpList_nil ?_
            go_wp2
            go_ret
            exact ⟨rfl, HWf.out.trans (HB8.out.mono HWf.out.size)⟩
    · have hne : (checkS x != 0) = true := by simpa using hc
      clear hc
      refine wpList_g (by kernel_rfl) fun K hK => ?_
      go_simp
      refine hK _ _ ?_
      clear hK K
      refine wpList_g (by kernel_rfl) fun K hK => ?_
      go_simp
      refine hK _ _ ?_
      clear hK K
      refine wpList_nil ?_
      go_wp2
      go_ret
      exact ⟨rfl, HW3.out⟩

end Go.Proofs.Ytapejaabhkfhjaa

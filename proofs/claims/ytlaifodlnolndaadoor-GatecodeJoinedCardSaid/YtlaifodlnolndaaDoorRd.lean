/- PROVED HERE: the tied card of 'acequia/acequialaw31.GatecodeJoined': for every input, in every start that meets the row's condition on the listed package variables, the law returns true and each argument reads as it did. Its conditions are the given statement's own (Rows.GatecodeJoinedCardSaid), none more. -/
import Derived.Test.YtlaifodlnolndaaDoorMs
import Derived.Test.YtlaifodlnolndaaDoorMq
import Derived.Test.YtlaifodlnolndaaDoorMd
import Derived.Test.YtlaifodlnolndaaDoorMp
import Derived.Test.YtlaifodlnolndaaDoorCards
import Derived.SevenTiedAt
import Derived.Carry
/- The statement Joined: the walk. -/
namespace Go.Proofs.YtlaifodlnolndaaDoor
open Go.RowKit

theorem Keep.hold {w0 w : World} {l : List (Value × List Ln)} {c : List (Nat × Obj)} (h : Keep w0 l c w) {g : Nat} {o : Obj} (hg : w.heap[g]? = some o) : Keep w0 l ((g, o) :: c) w :=
  ⟨h.below, h.glob, h.lns, fun x hx => by
    rcases List.mem_cons.1 hx with rfl | hx
    · exact hg
    · exact h.vars x hx⟩
theorem run_joined (vs : List Int) {a b : List Ln} (ha : okC a = true) (hb : okC b = true) (hab : okC (a ++ b) = true) : ∃ (m n k : Int) (one two ok : Bool), runR vs a = .tuple #[.int .i64 m, .bool one, .int .i64 0] ∧ runR vs b = .tuple #[.int .i64 n, .bool two, .int .i64 0] ∧
    runR vs (a ++ b) = .tuple #[.int .i64 k, .bool ok, .int .i64 0] ∧ ok = (one || two) ∧ (k == if one then m else n) = true := by
  unfold runR
  rw [if_pos ha, if_pos hb, if_pos hab, runC_append]
  cases runC vs a with
  | some m =>
    cases runC vs b with
    | some n => exact ⟨m, n, m, true, true, true, rfl, rfl, rfl, rfl, by simp⟩
    | none => exact ⟨m, 0, m, true, false, true, rfl, rfl, rfl, rfl, by simp⟩
  | none =>
    cases runC vs b with
    | some n => exact ⟨0, n, n, false, true, true, rfl, rfl, rfl, rfl, by simp⟩
    | none => exact ⟨0, 0, 0, false, false, false, rfl, rfl, rfl, rfl, by simp⟩

set_option maxRecDepth 100000 in
set_option maxHeartbeats 16000000 in
theorem joined_any (v0 : Value) (ls0 : List Ln) (v1 : Value) (ls1 : List Ln) (a0 a1 a2 a3 a4 : Int) (w : World) (h0 : IsLns w v0 ls0) (h1 : IsLns w v1 ls1) (hG : Globals w) :
    Calls Tryd.prog 6 #[.agg #[v0], .agg #[v1], vsV a0 a1 a2 a3 a4] w fun e w' => e = .returned (.bool true) ∧ Below w.heap.size w w' := by
  obtain ⟨va, vca, rfl⟩ := h0.form
  obtain ⟨vb, vcb, rfl⟩ := h1.form
  obtain ⟨n0, hn0⟩ : ∃ n, n = ls0.length := ⟨_, rfl⟩
  obtain ⟨n1, hn1⟩ : ∃ n, n = ls1.length := ⟨_, rfl⟩
  rw [← hn0] at h0 ⊢
  rw [← hn1] at h1 ⊢
  have HK := Lib.hid ((((((⟨Below.refl _ _, hG, fun _ h => by simp at h, fun _ h => by simp at h⟩ : Keep w [] [] w).add h1).add h0).var (.slice va n0 vca)).var (.slice vb n1 vcb)).new #[.int .i64 a0, .int .i64 a1, .int .i64 a2, .int .i64 a3, .int .i64 a4] 25)
  have HN0 := Lib.hid hn0
  have HN1 := Lib.hid hn1
  clear hG h0 h1 hn0 hn1
  go_enter Tryd.func6, Tryd.ntmps6
  unfold vsV
  go_wp2_with fail
  refine (sane_any _ HK.out.glob).mono ?_
  rintro e w1 ⟨rfl, hb1⟩
  have HK1 := Lib.hid (HK.out.next hb1)
  clear hb1 HK
  have c0 := HK1.out.cell (b := w.heap.size) (v := .slice va n0 vca) (by simp)
  have c1 := HK1.out.cell (b := w.heap.size + 1) (v := .slice vb n1 vcb) (by simp)
  go_wp2_with fail
  refine (few_any _ ls0 w1 HK1.out.head).mono ?_
  rintro e w2 ⟨rfl, hb2⟩
  have HK2 := Lib.hid (HK1.out.next hb2)
  clear hb2 HK1 c0 c1
  have c0 := HK2.out.cell (b := w.heap.size) (v := .slice va n0 vca) (by simp)
  have c1 := HK2.out.cell (b := w.heap.size + 1) (v := .slice vb n1 vcb) (by simp)
  cases hf0 : fewC ls0
  · go_wp2
    go_ret
    exact ⟨rfl, HK2.out.below⟩
  clear hf0
  go_wp2_with fail
  refine (few_any _ ls1 w2 (HK2.out.lns (.slice vb n1 vcb, ls1) (by simp))).mono ?_
  rintro e w3 ⟨rfl, hb3⟩
  have HK3 := Lib.hid (HK2.out.next hb3)
  clear hb3 HK2 c0 c1
  have c0 := HK3.out.cell (b := w.heap.size) (v := .slice va n0 vca) (by simp)
  have c1 := HK3.out.cell (b := w.heap.size + 1) (v := .slice vb n1 vcb) (by simp)
  cases hf1 : fewC ls1
  · go_wp2
    go_ret
    exact ⟨rfl, HK3.out.below⟩
  clear hf1
  go_wp2_with fail
  refine (check_any _ ls0 w3 HK3.out.head).mono ?_
  rintro e w4 ⟨rfl, hb4⟩
  have HK4 := Lib.hid (HK3.out.next hb4)
  clear hb4 HK3 c0 c1
  have c0 := HK4.out.cell (b := w.heap.size) (v := .slice va n0 vca) (by simp)
  have c1 := HK4.out.cell (b := w.heap.size + 1) (v := .slice vb n1 vcb) (by simp)
  cases hk0 : okC ls0
  · rw [okE_no hk0]
    go_wp2
    go_ret
    exact ⟨rfl, HK4.out.below⟩
  rw [okE_yes hk0]
  have HO0 := Lib.hid hk0
  clear hk0
  go_wp2_with fail
  refine (check_any _ ls1 w4 (HK4.out.lns (.slice vb n1 vcb, ls1) (by simp))).mono ?_
  rintro e w5 ⟨rfl, hb5⟩
  have HK5 := Lib.hid (HK4.out.next hb5)
  clear hb5 HK4 c0 c1
  have c0 := HK5.out.cell (b := w.heap.size) (v := .slice va n0 vca) (by simp)
  have c1 := HK5.out.cell (b := w.heap.size + 1) (v := .slice vb n1 vcb) (by simp)
  cases hk1 : okC ls1
  · rw [okE_no hk1]
    go_wp2
    go_ret
    exact ⟨rfl, HK5.out.below⟩
  rw [okE_yes hk1]
  have HO1 := Lib.hid hk1
  clear hk1
  have hl0 : n0 ≤ 64 := by rw [HN0.out]; exact (okC_parts HO0.out).1
  have hl1 : n1 ≤ 64 := by rw [HN1.out]; exact (okC_parts HO1.out).1
  have hwr : wrap64 ((n0 : Int) + (n1 : Int)) = (n0 : Int) + (n1 : Int) := IntWalk.wrap64_in _ (by omega)
  by_cases hsum : n0 + n1 ≤ 64
  · have hd : decide (64 < (n0 : Int) + (n1 : Int)) = false := by simp; omega
    have hab := okC_append HO0.out HO1.out (by rw [← HN0.out, ← HN1.out]; exact hsum)
    have HAB := Lib.hid hab
    obtain ⟨m, n, k, one, two, ok, hr0, hr1, hr2, hok, hkk⟩ := run_joined [a0, a1, a2, a3, a4] HO0.out HO1.out hab
    have HR0 := Lib.hid hr0
    have HR1 := Lib.hid hr1
    have HR2 := Lib.hid hr2
    have HOK := Lib.hid hok
    have HKK := Lib.hid hkk
    obtain ⟨xs0, hx0, hc0, hi0⟩ := rows_of HK5.out.head
    obtain ⟨xs1, hx1, hc1, hi1⟩ := rows_of (show IsLns w5 (.slice vb n1 vcb) ls1 from HK5.out.lns (.slice vb n1 vcb, ls1) (by simp))
    have hxl0 : xs0.length = n0 := by rw [HN0.out, ← hx0]; simp
    have hxl1 : xs1.length = n1 := by rw [HN1.out, ← hx1]; simp
    rw [show ls0.length = xs0.length by rw [hxl0, HN0.out]] at hc0
    rw [show ls1.length = xs1.length by rw [hxl1, HN1.out]] at hc1
    have HC0 := Lib.hid (hc0 : RawCells w5 (.slice va n0 vca) xs0.length 2 (xs0.flatMap lnCells))
    have HC1 := Lib.hid (hc1 : RawCells w5 (.slice vb n1 vcb) xs1.length 2 (xs1.flatMap lnCells))
    have HI0 := Lib.hid hi0
    have HI1 := Lib.hid hi1
    have HL : Hid (xs0.length + xs1.length ≤ 64) := Lib.hid (by omega)
    have HX : Hid ((xs0 ++ xs1).map (·.2) = ls0 ++ ls1) := Lib.hid (by rw [List.map_append, hx0, hx1])
    clear hab hr0 hr1 hr2 hok hkk hx0 hx1 hc0 hc1 hi0 hi1 hxl0 hxl1
    go_wp2_with fail
    refine joined_region _ w5 _ w.heap.size (w.heap.size + 1) (.slice va n0 vca) (.slice vb n1 vcb) xs0 xs1 _ (by kernel_rfl) rfl rfl (by simp) c0 c1 HC0.out HC1.out (by have := HL.out; omega) ?_
    intro af w6 g u hsz hdf hfr h7 hg hrow hb6
    rw [rebuild (a := af) [7, 53, 54, 55, 56, 57, 58, 59, 60] (by exact hsz) hdf (fun k hk => hfr k (by simp at hk; omega) (by simp at hk; omega))]
    simp only [List.foldl_cons, List.foldl_nil]
    rw [h7]
    have hIs : IsLns w6 u (ls0 ++ ls1) := by
      rw [← HX.out]
      refine lines_back hrow (by have := HL.out; rw [List.length_append]; omega) (fun x hx => ?_)
      rcases List.mem_append.1 hx with hx | hx
      · exact (HI0.out x hx).below hb6
      · exact (HI1.out x hx).below hb6
    obtain ⟨ua, uc, rfl⟩ := hIs.form
    generalize (ls0 ++ ls1).length = nn at *
    have HK6 := Lib.hid (((HK5.out.next hb6).hold hg).add hIs)
    clear hsz hdf hfr h7 hg hrow hb6 hIs HK5 c0 c1
    generalize af.tmps.getD 53 undef = x53
    generalize af.tmps.getD 54 undef = x54
    generalize af.tmps.getD 55 undef = x55
    generalize af.tmps.getD 56 undef = x56
    generalize af.tmps.getD 57 undef = x57
    generalize af.tmps.getD 58 undef = x58
    generalize af.tmps.getD 59 undef = x59
    generalize af.tmps.getD 60 undef = x60
    clear af
    have c0 := HK6.out.cell (b := w.heap.size) (v := .slice va n0 vca) (by simp)
    have c1 := HK6.out.cell (b := w.heap.size + 1) (v := .slice vb n1 vcb) (by simp)
    have c2 := HK6.out.cell (b := g) (v := .slice ua nn uc) (by simp)
    obtain ⟨q0, q1, q2, q3, q4⟩ := HK6.out.five (b := w.heap.size + 1 + 1) (t := 25) (x0 := .int .i64 a0) (x1 := .int .i64 a1) (x2 := .int .i64 a2) (x3 := .int .i64 a3) (x4 := .int .i64 a4) (by simp)
    go_wp2_with fail
    refine (crun_any _ ls0 a0 a1 a2 a3 a4 w6 (show IsLns _ (.slice va n0 vca) ls0 from HK6.out.lns (.slice va n0 vca, ls0) (by simp))).mono ?_
    rw [HR0.out]
    rintro e w7 ⟨rfl, hb7⟩
    have HK7 := Lib.hid (HK6.out.next hb7)
    clear hb7 HK6 c0 c1 c2 q0 q1 q2 q3 q4
    have c0 := HK7.out.cell (b := w.heap.size) (v := .slice va n0 vca) (by simp)
    have c1 := HK7.out.cell (b := w.heap.size + 1) (v := .slice vb n1 vcb) (by simp)
    have c2 := HK7.out.cell (b := g) (v := .slice ua nn uc) (by simp)
    obtain ⟨q0, q1, q2, q3, q4⟩ := HK7.out.five (b := w.heap.size + 1 + 1) (t := 25) (x0 := .int .i64 a0) (x1 := .int .i64 a1) (x2 := .int .i64 a2) (x3 := .int .i64 a3) (x4 := .int .i64 a4) (by simp)
    go_wp2_with fail
    refine (crun_any _ ls1 a0 a1 a2 a3 a4 w7 (show IsLns _ (.slice vb n1 vcb) ls1 from HK7.out.lns (.slice vb n1 vcb, ls1) (by simp))).mono ?_
    rw [HR1.out]
    rintro e w8 ⟨rfl, hb8⟩
    have HK8 := Lib.hid (HK7.out.next hb8)
    clear hb8 HK7 c0 c1 c2 q0 q1 q2 q3 q4
    have c0 := HK8.out.cell (b := w.heap.size) (v := .slice va n0 vca) (by simp)
    have c1 := HK8.out.cell (b := w.heap.size + 1) (v := .slice vb n1 vcb) (by simp)
    have c2 := HK8.out.cell (b := g) (v := .slice ua nn uc) (by simp)
    obtain ⟨q0, q1, q2, q3, q4⟩ := HK8.out.five (b := w.heap.size + 1 + 1) (t := 25) (x0 := .int .i64 a0) (x1 := .int .i64 a1) (x2 := .int .i64 a2) (x3 := .int .i64 a3) (x4 := .int .i64 a4) (by simp)
    go_wp2_with fail
    refine (crun_any _ (ls0 ++ ls1) a0 a1 a2 a3 a4 w8 HK8.out.head).mono ?_
    rw [HR2.out]
    rintro e w9 ⟨rfl, hb9⟩
    have HK9 := Lib.hid (HK8.out.next hb9)
    clear hb9 HK8 c0 c1 c2 q0 q1 q2 q3 q4
    have c0 := HK9.out.cell (b := w.heap.size) (v := .slice va n0 vca) (by simp)
    have c1 := HK9.out.cell (b := w.heap.size + 1) (v := .slice vb n1 vcb) (by simp)
    have c2 := HK9.out.cell (b := g) (v := .slice ua nn uc) (by simp)
    obtain ⟨q0, q1, q2, q3, q4⟩ := HK9.out.five (b := w.heap.size + 1 + 1) (t := 25) (x0 := .int .i64 a0) (x1 := .int .i64 a1) (x2 := .int .i64 a2) (x3 := .int .i64 a3) (x4 := .int .i64 a4) (by simp)
    go_wp2_with fail
    refine (print_any _ ls0 w9 (show IsLns _ (.slice va n0 vca) ls0 from HK9.out.lns (.slice va n0 vca, ls0) (by simp)) HK9.out.glob).mono ?_
    rw [printR_yes HO0.out]
    rintro e w10 ⟨rfl, hb10⟩
    have HK10 := Lib.hid (HK9.out.next hb10)
    clear hb10 HK9 c0 c1 c2 q0 q1 q2 q3 q4
    have c0 := HK10.out.cell (b := w.heap.size) (v := .slice va n0 vca) (by simp)
    have c1 := HK10.out.cell (b := w.heap.size + 1) (v := .slice vb n1 vcb) (by simp)
    have c2 := HK10.out.cell (b := g) (v := .slice ua nn uc) (by simp)
    obtain ⟨q0, q1, q2, q3, q4⟩ := HK10.out.five (b := w.heap.size + 1 + 1) (t := 25) (x0 := .int .i64 a0) (x1 := .int .i64 a1) (x2 := .int .i64 a2) (x3 := .int .i64 a3) (x4 := .int .i64 a4) (by simp)
    go_wp2_with fail
    refine (print_any _ ls1 w10 (show IsLns _ (.slice vb n1 vcb) ls1 from HK10.out.lns (.slice vb n1 vcb, ls1) (by simp)) HK10.out.glob).mono ?_
    rw [printR_yes HO1.out]
    rintro e w11 ⟨rfl, hb11⟩
    have HK11 := Lib.hid (HK10.out.next hb11)
    clear hb11 HK10 c0 c1 c2 q0 q1 q2 q3 q4
    have c0 := HK11.out.cell (b := w.heap.size) (v := .slice va n0 vca) (by simp)
    have c1 := HK11.out.cell (b := w.heap.size + 1) (v := .slice vb n1 vcb) (by simp)
    have c2 := HK11.out.cell (b := g) (v := .slice ua nn uc) (by simp)
    obtain ⟨q0, q1, q2, q3, q4⟩ := HK11.out.five (b := w.heap.size + 1 + 1) (t := 25) (x0 := .int .i64 a0) (x1 := .int .i64 a1) (x2 := .int .i64 a2) (x3 := .int .i64 a3) (x4 := .int .i64 a4) (by simp)
    go_wp2_with fail
    refine (print_any _ (ls0 ++ ls1) w11 HK11.out.head HK11.out.glob).mono ?_
    rw [printR_yes HAB.out]
    rintro e w12 ⟨rfl, hb12⟩
    have HK12 := Lib.hid (HK11.out.next hb12)
    clear hb12 HK11 c0 c1 c2 q0 q1 q2 q3 q4
    have c0 := HK12.out.cell (b := w.heap.size) (v := .slice va n0 vca) (by simp)
    have c1 := HK12.out.cell (b := w.heap.size + 1) (v := .slice vb n1 vcb) (by simp)
    have c2 := HK12.out.cell (b := g) (v := .slice ua nn uc) (by simp)
    obtain ⟨q0, q1, q2, q3, q4⟩ := HK12.out.five (b := w.heap.size + 1 + 1) (t := 25) (x0 := .int .i64 a0) (x1 := .int .i64 a1) (x2 := .int .i64 a2) (x3 := .int .i64 a3) (x4 := .int .i64 a4) (by simp)
    have hz0 := print_short HO0.out
    have hz1 := print_short HO1.out
    have e0 : (⟨(printC ls0).toArray⟩ : ByteArray).size = (printC ls0).length := txt_size _
    have e1 : (⟨(printC ls1).toArray⟩ : ByteArray).size = (printC ls1).length := txt_size _
    have hzz : ¬ 9223372036854775807 < (⟨(printC ls0).toArray⟩ : ByteArray).size + (⟨(printC ls1).toArray⟩ : ByteArray).size := by omega
    have happ : (⟨(printC ls0).toArray⟩ : ByteArray) ++ ⟨(printC ls1).toArray⟩ = ⟨(printC (ls0 ++ ls1)).toArray⟩ := by
      rw [printC_append]
      exact text_is (by rw [str_app])
    generalize (⟨(printC ls0).toArray⟩ : ByteArray) = t0 at *
    generalize (⟨(printC ls1).toArray⟩ : ByteArray) = t1 at *
    generalize (⟨(printC (ls0 ++ ls1)).toArray⟩ : ByteArray) = t2 at *
    have hok := HOK.out
    have hkk := HKK.out
    have HBe := Lib.hid HK12.out.below
    clear hz0 hz1 e0 e1 c0 c1 c2 q0 q1 q2 q3 q4 HK12
    subst hok
    cases one
    · cases two
      all_goals
        go_wp2
        go_ret
        exact ⟨ret_bool (by simpa using hkk), HBe.out⟩
    · go_wp2
      go_ret
      exact ⟨ret_bool (by simpa using hkk), HBe.out⟩
  · have hd : decide (64 < (n0 : Int) + (n1 : Int)) = true := by simp; omega
    go_wp2
    go_ret
    exact ⟨rfl, HK5.out.below⟩

end Go.Proofs.YtlaifodlnolndaaDoor

/-
  PROVED HERE: the tied card of 'acequia/acequialaw31.GatecodeJoined': for every input, in every start that meets the row's condition on the listed package variables, the law returns true and each argument reads as it did. Its conditions are the given statement's own (Rows.GatecodeJoinedCardSaid), none more.
-/
namespace Go.Proofs.YtlaifodlnolndaaDoor
open Go.ChangeShapes Go.WideShapes Go.ChangeAt Go.WideMaps Go.WideElems Go.RowKit Go.ChangeMaps

set_option maxRecDepth 100000 in
theorem gatecodeJoined_lifted (os : Os) (started : os.Started) (H : Type) (enc : TypeId × Value → H) :
    ReturnsInHanded {} Tryd.checked os 6 .any (fun w args => (Rows.gatecodeJoinedSpec.pre enc Tryd.prog Tryd.f6 [] false w args ∧ laidMetH Tryd.prog laidAll w) ∧ sizedMet enc Tryd.prog Tryd.f6 (OpenSpec.ofChange Rows.gatecodeJoinedSpec) false w args)
      (Rows.gatecodeJoinedSpec.post enc Tryd.prog Tryd.f6 false true false false) := by
  refine returnsInHanded_of_change_and (C := Tryd.checked) (X := fun w _ => laidMetH Tryd.prog laidAll w) (fun _ _ _ hh h => h.of_heap hh) own started (by kernel_rfl) Tryd.func6
    (ChangeSpec.witness_shaped (enc := enc) (C := Tryd.checked) (os := os) (X := fun w _ => laidMetH Tryd.prog laidAll w) false (World.doorLaid Tryd.prog 400 os) #[.agg #[.slice none 0 0], .agg #[.slice none 0 0], .agg #[.int .i64 0, .int .i64 0, .int .i64 0, .int .i64 0, .int .i64 0]] 8 rfl (World.shaped_of_RefB (by kernel_rfl) (by kernel_rfl)) (by kernel_rfl) (by kernel_rfl) (by kernel_rfl) (door_met os _)) ?_
  intro W base args ds gs before hval0 hW _ hsz0 hL _
  have hsz : (DataW.weightsEach Tryd.prog (Tryd.f6.params.toList ++ Rows.gatecodeJoinedSpec.plain.varTypes Tryd.prog) (ds ++ gs)).all (· ≤ reachBytes) = true := hsz0
  have hval : ∀ (j : Nat) t v, Tryd.f6.params[j]? = some t → args[j]? = some v → Value.okWide Tryd.prog W .any base t v := hval0
  have hW' := hW
  obtain ⟨p, q, hA0, hV, rfl, hfz, hnd⟩ := hW
  have hA : DataW.TrodAll enc Tryd.prog W 0 (fun _ => true) true Tryd.f6.params.toList args.toList ds p := hA0
  rw [Tryd.params6] at hA hval hsz
  obtain ⟨v0, v1, v2, d0, d1, d2, p0, p1, p2, rfl, rfl, rfl, h0, h1, h2⟩ := trodAll_three hA
  obtain ⟨rfl, rfl⟩ := trodVars_none hV
  obtain ⟨c0, l0, rfl, hi0⟩ := open_code (hval 0 24 v0 rfl rfl) h0 (fun n hn => by simpa using List.all_eq_true.1 hsz n (DataW.weights_mem_each (j := 0) (t := 24) (d := d0) rfl rfl _ hn))
  obtain ⟨c1, l1, rfl, hi1⟩ := open_code (hval 1 24 v1 rfl rfl) h1 (fun n hn => by simpa using List.all_eq_true.1 hsz n (DataW.weights_mem_each (j := 1) (t := 24) (d := d1) rfl rfl _ hn))
  obtain ⟨a2, b2, c2, e2, f2, rfl⟩ := open_five (hval 2 25 v2 rfl rfl) h2
  clear hA0 hval0 hsz0
  refine (joined_any c0 l0 c1 l1 a2 b2 c2 e2 f2 W hi0 hi1 (globals_of_laid hL)).mono fun e W' ⟨he, hb⟩ => ?_
  subst he
  exact ⟨_, rfl, _, _, _, [], _, [], hW', trodAll_mk1 (shut_bool Tryd.underlying4 true), trodAll_mk3 (Below.trod laidOut (by kernel_rfl) (of_decide_eq_true (by kernel_rfl)) h0 hb (fun x hx => hW'.lt x (by simp [hx]))) (Below.trod laidOut (by kernel_rfl) (of_decide_eq_true (by kernel_rfl)) h1 hb (fun x hx => hW'.lt x (by simp [hx]))) (Below.trod laidOut (by kernel_rfl) (of_decide_eq_true (by kernel_rfl)) h2 hb (fun x hx => hW'.lt x (by simp [hx]))), rfl, hb.frame _, fun h => by cases h⟩

theorem gatecodeJoined_holds : Rows.GatecodeJoinedSaid :=
  OpenClaim.holds_of_wide 6 Tryd.f6 rfl rfl rfl rfl rfl rfl rfl ⟨rfl, rfl, rfl, rfl, rfl⟩ rfl rfl rfl rfl rfl (by kernel_rfl) Tryd.func6 (by kernel_rfl)
    (of_decide_eq_true (by kernel_rfl)) (by unfold Func.isWrapper; rw [if_neg (of_decide_eq_false (by kernel_rfl))]; exact ⟨rfl, rfl⟩)
    (fun os started H enc _ => gatecodeJoined_lifted os started H enc)

/-- The tied card. -/
theorem gatecodeJoinedCard_holds : Rows.GatecodeJoinedCardSaid :=
  Claim7.holds_tied_plain_at .later [] [.data, .data, .data, .sentinel, .sentinel] true (true, "e65092b6c8e12897320936d0b59b09d858db66b2193a5810b3c0cafb90844fc6") true
    gatecodeJoined_holds (fun _ h => by cases h) (by kernel_rfl) (fun _ h => by cases h) gatecodeJoined_row_tie rfl ⟨rfl, rfl⟩ (by kernel_rfl) rfl
    (fun f fn hf hfn => by
      obtain rfl : f = 6 := Option.some.inj ((show Tryd.prog.funcNamed "acequia/acequialaw31.GatecodeJoined" = some 6 by kernel_rfl).symm.trans hf) |>.symm
      obtain rfl : fn = Tryd.f6 := (Option.some.inj (Tryd.func6.symm.trans hfn)).symm
      exact ⟨by kernel_rfl, fun j t ht => by
        rw [Tryd.params6] at ht
        have hm : t ∈ [24, 24, 25] := by simpa using Array.mem_of_getElem? ht
        have hall : ([24, 24, 25].all fun u => !Tryd.prog.wantsStandIn u) = true := by kernel_rfl
        exact (show Tryd.prog.wantsStandIn t = false by simpa using List.all_eq_true.1 hall t hm)⟩)
    (by kernel_rfl)

end Go.Proofs.YtlaifodlnolndaaDoor

/- Few: tokens are few, and short. -/
import Derived.Test.YtkfbhegniobecaaDoorF
namespace Go.Proofs.YtkfbhegniobecaaDoor
open Go.RowKit

theorem IsToks.size {w : World} {v : Value} {ts : List Tok} (h : IsToks w v ts) : ∃ a cap, v = .slice a ts.length cap := by
  obtain ⟨_, _, ⟨rfl, a, c, rfl⟩ | ⟨b, o, c, rfl, _⟩⟩ := h
  · exact ⟨a, c, rfl⟩
  · exact ⟨_, _, rfl⟩

def sumT (ts : List Tok) : Nat := (ts.map (·.text.size)).sum
theorem sumT_step {xs : List Tok} {k : Nat} (hx : k < xs.length) : sumT (xs.take (k + 1)) = sumT (xs.take k) + xs[k].text.size := by
  unfold sumT
  rw [List.take_succ_eq_append_getElem hx]
  simp only [List.map_append, List.sum_append, List.map_cons, List.map_nil, List.sum_cons, List.sum_nil, Nat.add_zero]
theorem sumT_le {xs : List Tok} (B : Nat) (h : ∀ t ∈ xs, t.text.size ≤ B) : ∀ k, sumT (xs.take k) ≤ k * B := by
  intro k
  induction k with
  | zero => simp [sumT]
  | succ k ih =>
    by_cases hx : k < xs.length
    · rw [sumT_step hx]
      have := h _ (List.getElem_mem hx)
      rw [Nat.add_mul]; omega
    · rw [List.take_of_length_le (by omega)] at ih ⊢
      rw [Nat.add_mul]; omega

set_option maxHeartbeats 1000000 in
theorem few_row (b o c : Nat) (xs : List Tok) (w : World) (hm : xs.length ≤ 200) (hs : ∀ t ∈ xs, t.text.size ≤ 140737488355328) (h1 : RowToks w b o xs) :
    Calls Tryd.prog 15 #[.slice (some ⟨b, o, none⟩) xs.length c] w fun e w' => e = .returned (.bool (fewB xs)) ∧ w = w' := by
  have hsum := sumT_le 140737488355328 hs
  have hall : fewB xs = decide (sumT (xs.take xs.length) ≤ 2000) := by
    unfold fewB sumT
    rw [List.take_of_length_le (Nat.le_refl _), decide_eq_true hm, Bool.true_and]
  generalize fewB xs = N at hall ⊢
  have HN := Lib.hid hall; clear hall
  have H1 := Lib.hid h1; clear h1
  have HS := Lib.hid hs; clear hs
  have HU := Lib.hid hsum; clear hsum
  generalize hn : xs.length = n at hm HN ⊢
  have Hn := Lib.hid hn; clear hn
  go_enter Tryd.func15, Tryd.ntmps15
  go_wp2
  go_loop [3, 4] (fun m i => ∃ k q : Nat, k ≤ n ∧ i = .int .i64 k ∧ m = .int .i64 q ∧ q ≤ k * 140737488355328 ∧ Hid (q = sumT (xs.take k))) (fun _ i => n - (intOf i).toNat)
  case atStart => exact ⟨0, 0, by omega, rfl, rfl, by omega, rfl⟩
  case round =>
    obtain ⟨k, q, hk, rfl, rfl, hq, HQ⟩ := hrel
    by_cases hlt : k < n
    · have hx : k < xs.length := by rw [Hn.out]; exact hlt
      have hstep := sumT_step hx
      have hb := HS.out _ (List.getElem_mem hx)
      have hk1 := HU.out (k + 1)
      rw [hstep] at hk1
      obtain ⟨x0, x1, x2, x3⟩ := H1.out k hx
      generalize xs[k] = x at x0 x1 x2 x3 hstep hb hk1
      obtain ⟨xk, xt, xn, xa⟩ := x
      dsimp only at x0 x1 x2 x3 hstep hb hk1
      rw [← HQ.out] at hstep hk1
      have HS := Lib.hid hstep; clear hstep
      go_wp2
      exact ⟨⟨k + 1, q + xt.size, by omega, by go_num, by go_num, hk1, HS.out.symm⟩, by simp [intOf]; omega⟩
    · have hd200 : decide ((n : Int) ≤ 200) = true := by simp; omega
      go_wp2
      all_goals go_ret
      obtain rfl : k = n := by omega
      refine ⟨ret_bool ?_, rfl⟩
      rw [HN.out, ← HQ.out, Bool.eq_iff_iff]
      simp only [decide_eq_true_eq]
      omega

set_option maxHeartbeats 1000000 in
theorem few_big (b o c : Nat) (xs : List Tok) (w : World) (hm : 200 < xs.length) (hm2 : xs.length ≤ 9223372036854775807) (h1 : RowToks w b o xs) :
    Calls Tryd.prog 15 #[.slice (some ⟨b, o, none⟩) xs.length c] w fun e w' => e = .returned (.bool (fewB xs)) ∧ w = w' := by
  have hall : fewB xs = false := by
    unfold fewB
    rw [decide_eq_false (by omega), Bool.false_and]
  rw [hall]
  clear hall
  have H1 := Lib.hid h1; clear h1
  generalize hn : xs.length = n at hm hm2 ⊢
  have Hn := Lib.hid hn; clear hn
  go_enter Tryd.func15, Tryd.ntmps15
  go_wp2
  go_loop [3, 4] (fun m i => ∃ (k : Nat) (q : Int), k ≤ n ∧ i = .int .i64 k ∧ m = .int .i64 q) (fun _ i => n - (intOf i).toNat)
  case atStart => exact ⟨0, 0, by omega, rfl, rfl⟩
  case round =>
    obtain ⟨k, q, hk, rfl, rfl⟩ := hrel
    by_cases hlt : k < n
    · have hx : k < xs.length := by rw [Hn.out]; exact hlt
      obtain ⟨x0, x1, x2, x3⟩ := H1.out k hx
      generalize xs[k] = x at x0 x1 x2 x3
      obtain ⟨xk, xt, xn, xa⟩ := x
      dsimp only at x0 x1 x2 x3
      go_wp2
      exact ⟨⟨k + 1, _, by omega, by go_num, rfl⟩, by simp [intOf]; omega⟩
    · have hd200 : decide ((n : Int) ≤ 200) = false := by simp; omega
      go_wp2
      all_goals go_ret
      all_goals exact ⟨rfl, rfl⟩

set_option maxHeartbeats 1000000 in
theorem few_empty (a : Option Addr) (c : Nat) (w : World) :
    Calls Tryd.prog 15 #[.slice a 0 c] w fun e w' => e = .returned (.bool true) ∧ w = w' := by
  go_enter Tryd.func15, Tryd.ntmps15
  go_wp2
  refine wp_loop_rounds 1 ?_
  rw [rounds_succ]
  go_wp2
  go_ret
  exact ⟨rfl, rfl⟩

theorem few_any (v : Value) (xs : List Tok) (w : World) (h : IsToks w v xs) (hs : ∀ t ∈ xs, t.text.size ≤ 140737488355328) :
    Calls Tryd.prog 15 #[v] w fun e w' => e = .returned (.bool (fewB xs)) ∧ w = w' := by
  obtain ⟨m1, _, ⟨rfl, a, c, rfl⟩ | ⟨b, o, c, rfl, q1, r1⟩⟩ := h
  · exact few_empty a c w
  · by_cases hm : xs.length ≤ 200
    · exact few_row b o c xs w hm hs r1
    · exact few_big b o c xs w (by omega) m1 r1

end Go.Proofs.YtkfbhegniobecaaDoor

/- Lists of tokens: the document's Equal and Few. -/
import Derived.Test.YtkfbhegniobecaaDoorE
namespace Go.Proofs.YtkfbhegniobecaaDoor
open Go.RowKit

def atsB : List Tok → List Tok → Bool
  | a :: r, b :: q => a.at_ == b.at_ && atsB r q
  | _, _ => true
def equalB (xs ys : List Tok) : Bool := sameB xs ys && atsB xs ys
theorem atsB_step {xs ys : List Tok} {k : Nat} (hx : k < xs.length) (hy : k < ys.length) : atsB (xs.drop k) (ys.drop k) = (xs[k].at_ == ys[k].at_ && atsB (xs.drop (k + 1)) (ys.drop (k + 1))) := by
  rw [List.drop_eq_getElem_cons hx, List.drop_eq_getElem_cons hy, atsB]
theorem atsB_end {xs ys : List Tok} : atsB (xs.drop xs.length) (ys.drop xs.length) = true := by
  rw [List.drop_of_length_le (Nat.le_refl _)]; cases ys.drop xs.length <;> rfl
theorem sameB_length : ∀ {xs ys : List Tok}, sameB xs ys = true → xs.length = ys.length := by
  intro xs ys h
  apply Classical.byContradiction
  intro hne
  rw [sameB_len hne] at h
  simp at h

set_option maxHeartbeats 1000000 in
theorem equal_row (b1 o1 c1 b2 o2 c2 : Nat) (xs ys : List Tok) (w : World) (hs : sameB xs ys = true) (hm : xs.length ≤ 9223372036854775807) (h1 : RowToks w b1 o1 xs) (h2 : RowToks w b2 o2 ys) :
    Calls Tryd.prog 14 #[.slice (some ⟨b1, o1, none⟩) xs.length c1, .slice (some ⟨b2, o2, none⟩) ys.length c2] w fun e w' => e = .returned (.bool (atsB xs ys)) ∧ ∃ q, w' = w.drewN q := by
  have hl := sameB_length hs
  have hcall := refsame_row b1 o1 c1 b2 o2 c2 xs ys w hl hm h1 h2
  rw [hs] at hcall
  clear hs
  have hst : atsB xs ys = atsB (xs.drop 0) (ys.drop 0) := rfl
  generalize hN : atsB xs ys = N at hst ⊢
  have HN := Lib.hid hst; clear hst hN
  have H1 := Lib.hid h1; clear h1
  have H2 := Lib.hid h2; clear h2
  rw [← hl] at hcall ⊢
  have HL := Lib.hid hl; clear hl
  generalize hn : xs.length = n at hm hcall ⊢
  have Hn := Lib.hid hn; clear hn
  have Hc := Lib.hid hcall; clear hcall
  go_enter Tryd.func14, Tryd.ntmps14
  go_wp2_with (first | (go_at_call 19; refine Hc.out.mono ?_; rintro e w1 ⟨rfl, q0, rfl⟩))
  go_loopw [5] (fun i wr => ∃ k : Nat, k ≤ n ∧ i = .int .i64 k ∧ Hid (N = atsB (xs.drop k) (ys.drop k)) ∧ (∃ q, wr = w.drewN q)) (fun i _ => n - (intOf i).toNat)
  case atStart => exact ⟨0, by omega, rfl, HN, _, rfl⟩
  case round =>
    clear HN
    obtain ⟨k, hk, rfl, HN, q, rfl⟩ := hrel
    by_cases hlt : k < n
    · have hx : k < xs.length := by rw [Hn.out]; exact hlt
      have hy : k < ys.length := by rw [← HL.out]; exact hx
      have hstep := HN.out.trans (atsB_step hx hy)
      clear HN
      obtain ⟨x0, x1, x2, x3⟩ := H1.out k hx
      obtain ⟨y0, y1, y2, y3⟩ := H2.out k hy
      generalize xs[k] = x at x0 x1 x2 x3 hstep
      generalize ys[k] = y at y0 y1 y2 y3 hstep
      obtain ⟨xk, xt, xn, xa⟩ := x
      obtain ⟨yk, yt, yn, ya⟩ := y
      dsimp only at x0 x1 x2 x3 y0 y1 y2 y3 hstep
      have HS := Lib.hid hstep; clear hstep
      by_cases e0 : xa = ya
      · have d0 : (xa != ya) = false := by simpa using e0
        have E0 := Lib.hid e0; clear e0
        go_wp2
        go_quiet (fail)
        go_wp2
        exact ⟨⟨k + 1, by omega, by go_num, by rw [Hid, HS.out, E0.out]; simp, _, rfl⟩, by simp [intOf]; omega⟩
      · have d0 : (xa != ya) = true := by simpa using e0
        go_wp2
        go_quiet (fail)
        go_wp2
        go_ret
        refine ⟨ret_bool ?_, _, drewN_drewN _ _ _⟩
        rw [HS.out, beq_eq_false_iff_ne.2 e0]; simp
    · go_wp2
      go_ret
      obtain rfl : k = n := by omega
      exact ⟨ret_bool (by rw [HN.out, ← Hn.out, atsB_end]), _, rfl⟩

set_option maxHeartbeats 1000000 in
theorem equal_no (v1 v2 : Value) (xs ys : List Tok) (w : World) (h1 : IsToks w v1 xs) (h2 : IsToks w v2 ys) (hs : sameB xs ys = false) :
    Calls Tryd.prog 14 #[v1, v2] w fun e w' => e = .returned (.bool false) ∧ ∃ q, w' = w.drewN q := by
  have hcall := refsame_any v1 v2 xs ys w h1 h2
  rw [hs] at hcall
  have Hc := Lib.hid hcall; clear hcall h1 h2 hs
  go_enter Tryd.func14, Tryd.ntmps14
  go_wp2_with (first | (go_at_call 19; refine Hc.out.mono ?_; rintro e w1 ⟨rfl, q0, rfl⟩))
  go_ret
  exact ⟨rfl, _, rfl⟩

set_option maxHeartbeats 1000000 in
theorem equal_empty (a1 : Option Addr) (c1 : Nat) (a2 : Option Addr) (c2 : Nat) (w : World) :
    Calls Tryd.prog 14 #[.slice a1 0 c1, .slice a2 0 c2] w fun e w' => e = .returned (.bool true) ∧ w = w' := by
  have Hc := Lib.hid (refsame_empty a1 c1 a2 c2 w)
  go_enter Tryd.func14, Tryd.ntmps14
  go_wp2_with (first | (go_at_call 19; refine Hc.out.mono ?_; rintro e w1 ⟨rfl, rfl⟩))
  refine wp_loop_rounds 1 ?_
  rw [rounds_succ]
  go_wp2
  go_ret
  exact ⟨rfl, rfl⟩

theorem equal_any (v1 v2 : Value) (xs ys : List Tok) (w : World) (h1 : IsToks w v1 xs) (h2 : IsToks w v2 ys) :
    Calls Tryd.prog 14 #[v1, v2] w fun e w' => e = .returned (.bool (equalB xs ys)) ∧ ∃ q, w' = w.drewN q := by
  unfold equalB
  by_cases hs : sameB xs ys = true
  · rw [hs, Bool.true_and]
    have hl := sameB_length hs
    obtain ⟨m1, _, h1⟩ := h1
    obtain ⟨m2, _, h2⟩ := h2
    rcases h1 with ⟨rfl, a1, c1, rfl⟩ | ⟨b1, o1, c1, rfl, q1, r1⟩ <;> rcases h2 with ⟨rfl, a2, c2, rfl⟩ | ⟨b2, o2, c2, rfl, q2, r2⟩
    · exact (equal_empty _ _ _ _ w).mono fun _ _ h => ⟨h.1, 0, h.2.symm⟩
    · obtain rfl := List.length_eq_zero_iff.1 hl.symm
      exact (equal_empty _ _ _ _ w).mono fun _ _ h => ⟨h.1, 0, h.2.symm⟩
    · obtain rfl := List.length_eq_zero_iff.1 hl
      exact (equal_empty _ _ _ _ w).mono fun _ _ h => ⟨h.1, 0, h.2.symm⟩
    · exact equal_row _ _ _ _ _ _ xs ys w hs m1 r1 r2
  · rw [Bool.not_eq_true] at hs
    rw [hs, Bool.false_and]
    exact equal_no v1 v2 xs ys w h1 h2 hs

/- few, and short -/
def fewB (l : List Tok) : Bool := decide (l.length ≤ 200) && decide ((l.map (·.text.size)).sum ≤ 2000)

end Go.Proofs.YtkfbhegniobecaaDoor

/- PROVED HERE, in plain Lean with no program in sight: what 'scan' finds in a list that another follows, in a list cut at the place of an error, and in a token's own word. No condition. -/
import Derived.Test.YtkfbhegniobecaaDoorBa
namespace Go.Proofs.YtkfbhegniobecaaDoor
open Go.RowKit Lib

theorem preT_err {a : List Tok} {r : Except Nat (List Tok)} {k : Nat} (h : preT a r = .error k) : r = .error k := by cases r <;> simp_all [preT]
theorem preT_ok {a : List Tok} {r : Except Nat (List Tok)} {l : List Tok} (h : preT a r = .ok l) : ∃ q, r = .ok q ∧ l = a ++ q := by
  cases r with
  | error k => simp [preT] at h
  | ok q => simp only [preT, Except.ok.injEq] at h; exact ⟨q, rfl, h.symm⟩

theorem tw_not {p : UInt8 → Bool} : ∀ {l : List UInt8}, (l.takeWhile p).length = l.length → ∀ c ∈ l, p c = true
  | [], _, c, hc => by simp at hc
  | a :: r, h, c, hc => by
    rw [List.takeWhile_cons] at h
    by_cases ha : p a = true
    · rw [if_pos ha] at h
      rcases List.mem_cons.1 hc with rfl | hc
      · exact ha
      · exact tw_not (by simpa using h) c hc
    · rw [if_neg ha] at h; simp at h

theorem open_skip {c : UInt8} {r : List UInt8} (h : Open (c :: r)) : stepL (c :: r) = .skip (c :: r).length := by
  obtain ⟨c', r', e, h0, h1, h2⟩ := h
  obtain ⟨rfl, rfl⟩ := List.cons.inj e
  rw [stepL_cons, if_neg (by rw [h0]; simp), if_pos h1, h2]

/- an error stays an error, whatever follows behind white space -/
theorem scan_err_append (m : List UInt8) (hm : SpaceHead m) : ∀ (l : List UInt8) (i k : Nat), scan l i = .error k → scan (l ++ m) i = .error k := by
  intro l
  induction l using len_ind with
  | _ l ih =>
    intro i k h
    cases l with
    | nil => rw [scan_nil] at h; cases h
    | cons c r =>
      have hno : ¬ Open (c :: r) := fun ho => by
        rw [scan_stepL, open_skip ho] at h
        simp only [List.drop_length, scan_nil] at h
        cases h
      rw [scan_stepL] at h
      rw [List.cons_append, scan_stepL, ← List.cons_append, step_append hm (.inl hno)]
      cases hs : stepL (c :: r) with
      | bad => rw [hs] at h; exact h
      | skip n =>
        obtain ⟨h1, h2⟩ := step_pos.1 n hs
        rw [hs] at h
        simp only at h ⊢
        rw [List.drop_append_of_le_length h2]
        exact ih _ (by simp only [List.length_drop, List.length_cons] at *; omega) _ _ h
      | tok n kd tx v =>
        obtain ⟨h1, h2⟩ := step_pos.2 n kd tx v hs
        rw [hs] at h
        simp only at h ⊢
        rw [List.drop_append_of_le_length h2, ih _ (by simp only [List.length_drop, List.length_cons] at *; omega) _ _ (preT_err h)]
        rfl

/- tokens stay tokens, where a line feed follows -/
theorem scan_ok_append (m : List UInt8) : ∀ (l : List UInt8) (i : Nat) (ts : List Tok), scan l i = .ok ts → scan (l ++ 10 :: m) i = preT ts (scan m (i + l.length + 1)) := by
  intro l
  induction l using len_ind with
  | _ l ih =>
    intro i ts h
    cases l with
    | nil =>
      rw [scan_nil] at h; cases h
      rw [List.nil_append, scan_space i (by decide), preT_nil]; rfl
    | cons c r =>
      rw [scan_stepL] at h
      have hm : SpaceHead (10 :: m) := .inr ⟨10, m, rfl, by decide⟩
      rw [List.cons_append, scan_stepL, ← List.cons_append, step_append hm (.inr ⟨m, rfl⟩)]
      cases hs : stepL (c :: r) with
      | bad => rw [hs] at h; cases h
      | skip n =>
        obtain ⟨h1, h2⟩ := step_pos.1 n hs
        rw [hs] at h
        simp only at h ⊢
        rw [List.drop_append_of_le_length h2, ih _ (by simp only [List.length_drop, List.length_cons] at *; omega) _ _ h]
        congr 2
        simp only [List.length_drop, List.length_cons] at *; omega
      | tok n kd tx v =>
        obtain ⟨h1, h2⟩ := step_pos.2 n kd tx v hs
        rw [hs] at h
        simp only at h ⊢
        obtain ⟨q, hq, rfl⟩ := preT_ok h
        rw [List.drop_append_of_le_length h2, ih _ (by simp only [List.length_drop, List.length_cons] at *; omega) _ _ hq, preT_preT]
        congr 2
        simp only [List.length_drop, List.length_cons] at *; omega

/- a cut behind a step leaves the step -/
theorem tw_take {p : UInt8 → Bool} : ∀ {l : List UInt8} {j : Nat}, (l.takeWhile p).length ≤ j → (l.take j).takeWhile p = l.takeWhile p
  | [], _, _ => by simp
  | a :: r, 0, h => by
    have : ((a :: r).takeWhile p) = [] := List.eq_nil_of_length_eq_zero (by omega)
    rw [this]; rfl
  | a :: r, j + 1, h => by
    rw [List.take_succ_cons, List.takeWhile_cons, List.takeWhile_cons]
    by_cases ha : p a = true
    · rw [if_pos ha, if_pos ha]
      rw [List.takeWhile_cons, if_pos ha] at h
      rw [tw_take (by simpa using h)]
    · rw [if_neg ha, if_neg ha]
theorem tw_two {c : UInt8} {r : List UInt8} (h : c = 47 ∧ r.head? = some 47) : 2 ≤ ((c :: r).takeWhile notLf).length := by
  obtain ⟨rfl, h⟩ := h
  cases r with
  | nil => cases h
  | cons d q =>
    simp at h; subst h
    rw [List.takeWhile_cons, if_pos (by decide), List.takeWhile_cons, if_pos (by decide)]
    simp
theorem digit_letter (c : UInt8) : (!letterB c || partB c) = true := all_u8 (fun c => !letterB c || partB c) (by decide +kernel) c
theorem step_take {c : UInt8} {r : List UInt8} {j : Nat} (n : Nat) (hs : stepL (c :: r) = .skip n ∨ ∃ kd tx v, stepL (c :: r) = .tok n kd tx v) (hj : n ≤ j) : stepL ((c :: r).take j) = stepL (c :: r) := by
  have hn : 0 < n := by
    rcases hs with hs | ⟨kd, tx, v, hs⟩
    · exact (step_pos.1 n hs).1
    · exact (step_pos.2 n kd tx v hs).1
  obtain ⟨j, rfl⟩ : ∃ j', j = j' + 1 := ⟨j - 1, by omega⟩
  rw [List.take_succ_cons]
  rw [stepL_cons] at hs
  rw [stepL_cons, stepL_cons]
  by_cases h0 : spaceB c = true
  · simp [h0]
  · simp only [h0, Bool.false_eq_true, if_false] at hs ⊢
    by_cases h1 : c = 47 ∧ r.head? = some 47
    · rw [if_pos h1] at hs ⊢
      have h2 := tw_two h1
      have hn2 : ((c :: r).takeWhile notLf).length = n := by
        rcases hs with hs | ⟨kd, tx, v, hs⟩
        · simpa using hs
        · cases hs
      have h1' : c = 47 ∧ (r.take j).head? = some 47 := ⟨h1.1, by
        obtain ⟨j, rfl⟩ : ∃ j', j = j' + 1 := ⟨j - 1, by omega⟩
        cases r with
        | nil => exact h1.2
        | cons d q => exact h1.2⟩
      rw [if_pos h1']
      have := tw_take (p := notLf) (l := c :: r) (j := j + 1) (by omega)
      rw [List.take_succ_cons] at this
      rw [this]
    · rw [if_neg h1] at hs ⊢
      have h1' : ¬ (c = 47 ∧ (r.take j).head? = some 47) := fun h => h1 ⟨h.1, by
        cases j with
        | zero => simp at h
        | succ j =>
          cases r with
          | nil => simp at h
          | cons d q => exact h.2⟩
      rw [if_neg h1']
      by_cases h2 : letterB c = true
      · rw [if_pos h2] at hs ⊢
        rw [if_pos h2]
        have hle : ((c :: r).takeWhile partB).length ≤ j + 1 := by
          rcases hs with hs | ⟨kd, tx, v, hs⟩
          · split at hs <;> cases hs
          · split at hs
            · cases hs; omega
            · cases hs
        have := tw_take (p := partB) (l := c :: r) (j := j + 1) hle
        rw [List.take_succ_cons] at this
        rw [this]
      · rw [if_neg h2] at hs ⊢
        rw [if_neg h2]
        by_cases h3 : digitB c = true
        · rw [if_pos h3] at hs ⊢
          rw [if_pos h3]
          have hle : ((c :: r).takeWhile digitB).length ≤ j + 1 := by
            rcases hs with hs | ⟨kd, tx, v, hs⟩
            · split at hs <;> cases hs
            · split at hs
              · cases hs; omega
              · cases hs
          have := tw_take (p := digitB) (l := c :: r) (j := j + 1) hle
          rw [List.take_succ_cons] at this
          rw [this]
        · rw [if_neg h3, if_neg h3]

/- an error at place k: the list up to it has tokens; from it on there is an error at once -/
theorem scan_err_cut : ∀ (l : List UInt8) (i k : Nat), scan l i = .error k → ∃ d, k = i + d ∧ d < l.length ∧ (∃ ts, scan (l.take d) i = .ok ts) ∧ ∀ j, scan (l.drop d) j = .error j := by
  intro l
  induction l using len_ind with
  | _ l ih =>
    intro i k h
    cases l with
    | nil => rw [scan_nil] at h; cases h
    | cons c r =>
      rw [scan_stepL] at h
      cases hs : stepL (c :: r) with
      | bad =>
        rw [hs] at h; cases h
        refine ⟨0, rfl, by simp, ⟨[], scan_nil _⟩, fun j => ?_⟩
        rw [List.drop_zero, scan_stepL, hs]
      | skip n =>
        obtain ⟨h1, h2⟩ := step_pos.1 n hs
        rw [hs] at h
        simp only at h
        obtain ⟨d, rfl, hd, ⟨ts, ht⟩, he⟩ := ih _ (by simp only [List.length_drop, List.length_cons] at *; omega) _ _ h
        refine ⟨n + d, by omega, by simp only [List.length_drop, List.length_cons] at *; omega, ⟨ts, ?_⟩, ?_⟩
        · have hst := step_take (j := n + d) n (.inl hs) (by omega)
          obtain ⟨j, hj⟩ : ∃ j', n + d = j' + 1 := ⟨n + d - 1, by omega⟩
          rw [hj] at hst ⊢
          rw [List.take_succ_cons] at hst ⊢
          rw [scan_stepL, hst, hs]
          simp only
          rw [← List.take_succ_cons, ← hj, List.drop_take, Nat.add_sub_cancel_left]
          exact ht
        · rw [← List.drop_drop]; exact he
      | tok n kd tx v =>
        obtain ⟨h1, h2⟩ := step_pos.2 n kd tx v hs
        rw [hs] at h
        simp only at h
        obtain ⟨d, rfl, hd, ⟨ts, ht⟩, he⟩ := ih _ (by simp only [List.length_drop, List.length_cons] at *; omega) _ _ (preT_err h)
        refine ⟨n + d, by omega, by simp only [List.length_drop, List.length_cons] at *; omega, ⟨⟨kd, mk tx, v, i⟩ :: ts, ?_⟩, ?_⟩
        · have hst := step_take (j := n + d) n (.inr ⟨kd, tx, v, hs⟩) (by omega)
          obtain ⟨j, hj⟩ : ∃ j', n + d = j' + 1 := ⟨n + d - 1, by omega⟩
          rw [hj] at hst ⊢
          rw [List.take_succ_cons] at hst ⊢
          rw [scan_stepL, hst, hs]
          simp only
          rw [← List.take_succ_cons, ← hj, List.drop_take, Nat.add_sub_cancel_left, ht]
          rfl
        · rw [← List.drop_drop]; exact he

end Go.Proofs.YtkfbhegniobecaaDoor

/- Texts Ba Bb Bc Bd Be Pa Pb Pc in one: each says what it proves. -/
import Derived.Test.YtlaifodlnolndaaGreatDoorMd
/- PROVED HERE, in plain Lean with no program in sight: laws of 'scan' (what Lex computes): one step of it, what may follow, shifts, cuts, words. No condition. -/
namespace Go.Proofs.YtlaifodlnolndaaGreatDoor
open Go.RowKit Lib

/- one step of the scanner at a list that is not empty -/
inductive Step where
  | skip (n : Nat)
  | tok (n : Nat) (kd : Int) (tx : List UInt8) (v : Int)
  | bad
def stepL : List UInt8 → Step
  | [] => .skip 0
  | c :: r =>
    if spaceB c then .skip 1
    else if c = 47 ∧ r.head? = some 47 then .skip ((c :: r).takeWhile notLf).length
    else if letterB c then
      if nameB ((c :: r).takeWhile partB) then .tok ((c :: r).takeWhile partB).length 1 ((c :: r).takeWhile partB) 0 else .bad
    else if digitB c then
      if (refNumber ((c :: r).takeWhile digitB)).2 then .tok ((c :: r).takeWhile digitB).length 2 [] (refNumber ((c :: r).takeWhile digitB)).1 else .bad
    else if signB c then .tok 1 3 [c] 0
    else .bad

theorem stepL_cons (c : UInt8) (r : List UInt8) : stepL (c :: r) =
    (if spaceB c then .skip 1
    else if c = 47 ∧ r.head? = some 47 then .skip ((c :: r).takeWhile notLf).length
    else if letterB c then
      if nameB ((c :: r).takeWhile partB) then .tok ((c :: r).takeWhile partB).length 1 ((c :: r).takeWhile partB) 0 else .bad
    else if digitB c then
      if (refNumber ((c :: r).takeWhile digitB)).2 then .tok ((c :: r).takeWhile digitB).length 2 [] (refNumber ((c :: r).takeWhile digitB)).1 else .bad
    else if signB c then .tok 1 3 [c] 0
    else .bad) := rfl
theorem scan_stepL (c : UInt8) (r : List UInt8) (i : Nat) : scan (c :: r) i = match stepL (c :: r) with
    | .skip n => scan ((c :: r).drop n) (i + n)
    | .tok n kd tx v => preT [⟨kd, mk tx, v, i⟩] (scan ((c :: r).drop n) (i + n))
    | .bad => .error i := by
  rw [stepL_cons]
  by_cases h0 : spaceB c = true
  · rw [scan_space i h0]; simp [h0]
  · have h0' : spaceB c = false := by simpa using h0
    by_cases h1 : c = 47 ∧ r.head? = some 47
    · rw [scan_note i h0' h1]; simp only [h0', Bool.false_eq_true, if_false]; rw [if_pos h1]
    · by_cases h2 : letterB c = true
      · rw [scan_name i h0' h1 h2]; simp only [h0', Bool.false_eq_true, if_false]; rw [if_neg h1, if_pos h2]
        split <;> rfl
      · have h2' : letterB c = false := by simpa using h2
        by_cases h3 : digitB c = true
        · rw [scan_number i h0' h1 h2' h3]; simp only [h0', h2', Bool.false_eq_true, if_false]; rw [if_neg h1, if_pos h3]
          split <;> rfl
        · have h3' : digitB c = false := by simpa using h3
          by_cases h4 : signB c = true
          · rw [scan_sign i h0' h1 h2' h3' h4]; simp only [h0', h2', h3', Bool.false_eq_true, if_false]; rw [if_neg h1, if_pos h4]; rfl
          · have h4' : signB c = false := by simpa using h4
            rw [scan_wrong i h0' h1 h2' h3' h4']; simp only [h0', h2', h3', h4', Bool.false_eq_true, if_false]; rw [if_neg h1]

theorem step_pos {c : UInt8} {r : List UInt8} : (∀ n, stepL (c :: r) = .skip n → 0 < n ∧ n ≤ (c :: r).length) ∧ (∀ n kd tx v, stepL (c :: r) = .tok n kd tx v → 0 < n ∧ n ≤ (c :: r).length) := by
  rw [stepL_cons]
  have w1 := twl_le notLf (c :: r)
  have w2 := twl_le partB (c :: r)
  have w3 := twl_le digitB (c :: r)
  constructor
  · intro n h
    split at h
    · cases h; simp
    · split at h
      · rename_i h0 h1
        cases h
        exact ⟨twl_pos (by rw [h1.1]; rfl), w1⟩
      · split at h
        · split at h <;> cases h
        · split at h
          · split at h <;> cases h
          · split at h <;> cases h
  · intro n kd tx v h
    split at h
    · cases h
    · split at h
      · cases h
      · split at h
        · rename_i h2
          split at h
          · cases h
            exact ⟨twl_pos (by simp [partB, h2]), w2⟩
          · cases h
        · split at h
          · rename_i h3
            split at h
            · cases h
              exact ⟨twl_pos h3, w3⟩
            · cases h
          · split at h
            · cases h; simp
            · cases h

/- by induction on the length -/
theorem len_ind {P : List UInt8 → Prop} (h : ∀ l, (∀ m : List UInt8, m.length < l.length → P m) → P l) : ∀ l, P l := by
  intro l
  generalize hn : l.length = n
  induction n using Nat.strongRecOn generalizing l with
  | _ n ih => exact h l fun m hm => ih m.length (by omega) m rfl

/- the places moved -/
def Tok.later (d : Nat) (t : Tok) : Tok := { t with at_ := t.at_ + d }
def shiftR (d : Nat) : Except Nat (List Tok) → Except Nat (List Tok)
  | .ok l => .ok (l.map (Tok.later d))
  | .error k => .error (k + d)
theorem shift_pre (d : Nat) (a : List Tok) (r : Except Nat (List Tok)) : shiftR d (preT a r) = preT (a.map (Tok.later d)) (shiftR d r) := by cases r <;> simp [shiftR, preT]
theorem scan_shift (d : Nat) : ∀ (l : List UInt8) (i : Nat), scan l (i + d) = shiftR d (scan l i) := by
  intro l
  induction l using len_ind with
  | _ l ih =>
    intro i
    cases l with
    | nil => simp [scan_nil, shiftR]
    | cons c r =>
      rw [scan_stepL, scan_stepL c r i]
      cases hs : stepL (c :: r) with
      | bad => rfl
      | skip n =>
        obtain ⟨h1, h2⟩ := step_pos.1 n hs
        simp only
        rw [← ih _ (by simp only [List.length_drop, List.length_cons] at *; omega) (i + n)]
        congr 1; omega
      | tok n kd tx v =>
        obtain ⟨h1, h2⟩ := step_pos.2 n kd tx v hs
        simp only
        rw [shift_pre, ← ih _ (by simp only [List.length_drop, List.length_cons] at *; omega) (i + n)]
        have e1 : i + d + n = i + n + d := by omega
        rw [e1]
        congr 1

/- what may follow: nothing, or a byte of white space -/
def SpaceHead (m : List UInt8) : Prop := m = [] ∨ ∃ c q, m = c :: q ∧ spaceB c = true
theorem space_not (c : UInt8) : (!spaceB c || (!partB c && (!digitB c && (!letterB c && (c != 47 && !signB c))))) = true :=
  all_u8 (fun c => !spaceB c || (!partB c && (!digitB c && (!letterB c && (c != 47 && !signB c))))) (by decide +kernel) c
theorem tw_space {p : UInt8 → Bool} (hp : ∀ c, spaceB c = true → p c = false) {m : List UInt8} (hm : SpaceHead m) : ∀ l : List UInt8, (l ++ m).takeWhile p = l.takeWhile p
  | [] => by
    rcases hm with rfl | ⟨c, q, rfl, hc⟩
    · rfl
    · simp [hp c hc]
  | a :: r => by
    rw [List.cons_append, List.takeWhile_cons, List.takeWhile_cons, tw_space hp hm r]
theorem part_space (c : UInt8) (h : spaceB c = true) : partB c = false := by
  have := space_not c
  simp [h] at this
  exact this.1
theorem digit_space (c : UInt8) (h : spaceB c = true) : digitB c = false := by
  have := space_not c
  simp [h] at this
  exact this.2.1
theorem slash_space (c : UInt8) (h : spaceB c = true) : c ≠ 47 := by
  have := space_not c
  simp [h] at this
  exact this.2.2.2.1
theorem head_space {r m : List UInt8} (hm : SpaceHead m) : ((r ++ m).head? = some 47) ↔ (r.head? = some 47) := by
  cases r with
  | nil =>
    rcases hm with rfl | ⟨c, q, rfl, hc⟩
    · rfl
    · simp [slash_space c hc]
  | cons a r => simp

/- a comment that goes on to the end of the list -/
def Open (l : List UInt8) : Prop := ∃ c r, l = c :: r ∧ spaceB c = false ∧ (c = 47 ∧ r.head? = some 47) ∧ (l.takeWhile notLf).length = l.length
theorem tw_all {p : UInt8 → Bool} : ∀ {l m : List UInt8}, (l.takeWhile p).length < l.length → (l ++ m).takeWhile p = l.takeWhile p
  | [], _, h => by simp at h
  | a :: r, m, h => by
    rw [List.cons_append, List.takeWhile_cons, List.takeWhile_cons]
    by_cases ha : p a = true
    · rw [if_pos ha, if_pos ha]
      rw [List.takeWhile_cons, if_pos ha] at h
      rw [tw_all (m := m) (by simpa using h)]
    · rw [if_neg ha, if_neg ha]
theorem tw_full {p : UInt8 → Bool} : ∀ {l m : List UInt8}, (l.takeWhile p).length = l.length → (l ++ m).takeWhile p = l ++ m.takeWhile p
  | [], _, _ => rfl
  | a :: r, m, h => by
    rw [List.takeWhile_cons] at h
    by_cases ha : p a = true
    · rw [if_pos ha] at h
      rw [List.cons_append, List.takeWhile_cons, if_pos ha, tw_full (m := m) (by simpa using h)]; rfl
    · rw [if_neg ha] at h; simp at h
theorem step_append {c : UInt8} {r m : List UInt8} (hm : SpaceHead m) (ho : ¬ Open (c :: r) ∨ ∃ q, m = 10 :: q) : stepL (c :: r ++ m) = stepL (c :: r) := by
  have e2 : (c :: (r ++ m)).takeWhile partB = (c :: r).takeWhile partB := tw_space part_space hm (c :: r)
  have e3 : (c :: (r ++ m)).takeWhile digitB = (c :: r).takeWhile digitB := tw_space digit_space hm (c :: r)
  rw [List.cons_append, stepL_cons, stepL_cons, e2, e3]
  by_cases h0 : spaceB c = true
  · simp [h0]
  · by_cases h1 : c = 47 ∧ r.head? = some 47
    · have h1' : c = 47 ∧ (r ++ m).head? = some 47 := ⟨h1.1, (head_space hm).2 h1.2⟩
      simp only [h0, Bool.false_eq_true, if_false]
      rw [if_pos h1, if_pos h1']
      congr 1
      rcases Nat.lt_or_ge ((c :: r).takeWhile notLf).length (c :: r).length with hlt | hge
      · rw [show c :: (r ++ m) = (c :: r) ++ m from rfl, tw_all hlt]
      · have heq : ((c :: r).takeWhile notLf).length = (c :: r).length := Nat.le_antisymm (twl_le _ _) hge
        rcases ho with ho | ⟨q, rfl⟩
        · exact absurd ⟨c, r, rfl, by simpa using h0, h1, heq⟩ ho
        · rw [show c :: (r ++ 10 :: q) = (c :: r) ++ 10 :: q from rfl, tw_full heq]
          have e10 : ((10 : UInt8) :: q).takeWhile notLf = [] := by rw [List.takeWhile_cons, if_neg (by decide)]
          rw [e10, List.append_nil]; exact heq.symm
    · have h1' : ¬ (c = 47 ∧ (r ++ m).head? = some 47) := fun h => h1 ⟨h.1, (head_space hm).1 h.2⟩
      rw [if_neg h1, if_neg h1']

end Go.Proofs.YtlaifodlnolndaaGreatDoor

/- PROVED HERE, in plain Lean with no program in sight: what 'scan' finds in a list that another follows, in a list cut at the place of an error, and in a token's own word. No condition. -/
namespace Go.Proofs.YtlaifodlnolndaaGreatDoor
open Go.RowKit Lib

theorem preT_err {a : List Tok} {r : Except Nat (List Tok)} {k : Nat} (h : preT a r = .error k) : r = .error k := by cases r <;> simp_all [preT]
theorem preT_ok {a : List Tok} {r : Except Nat (List Tok)} {l : List Tok} (h : preT a r = .ok l) : ∃ q, r = .ok q ∧ l = a ++ q := by
  cases r with
  | error k => simp [preT] at h
  | ok q => simp only [preT, Except.ok.injEq] at h; exact ⟨q, rfl, h.symm⟩

theorem tw_not {p : UInt8 → Bool} : ∀ {l : List UInt8}, (l.takeWhile p).length = l.length → ∀ c ∈ l, p c = true
  | [], _, c, hc => by simp at hc
  | a :: r, h, c, hc => by
    rw [List.takeWhile_cons] at h
    by_cases ha : p a = true
    · rw [if_pos ha] at h
      rcases List.mem_cons.1 hc with rfl | hc
      · exact ha
      · exact tw_not (by simpa using h) c hc
    · rw [if_neg ha] at h; simp at h

theorem open_skip {c : UInt8} {r : List UInt8} (h : Open (c :: r)) : stepL (c :: r) = .skip (c :: r).length := by
  obtain ⟨c', r', e, h0, h1, h2⟩ := h
  obtain ⟨rfl, rfl⟩ := List.cons.inj e
  rw [stepL_cons, if_neg (by rw [h0]; simp), if_pos h1, h2]

/- an error stays an error, whatever follows behind white space -/
theorem scan_err_append (m : List UInt8) (hm : SpaceHead m) : ∀ (l : List UInt8) (i k : Nat), scan l i = .error k → scan (l ++ m) i = .error k := by
  intro l
  induction l using len_ind with
  | _ l ih =>
    intro i k h
    cases l with
    | nil => rw [scan_nil] at h; cases h
    | cons c r =>
      have hno : ¬ Open (c :: r) := fun ho => by
        rw [scan_stepL, open_skip ho] at h
        simp only [List.drop_length, scan_nil] at h
        cases h
      rw [scan_stepL] at h
      rw [List.cons_append, scan_stepL, ← List.cons_append, step_append hm (.inl hno)]
      cases hs : stepL (c :: r) with
      | bad => rw [hs] at h; exact h
      | skip n =>
        obtain ⟨h1, h2⟩ := step_pos.1 n hs
        rw [hs] at h
        simp only at h ⊢
        rw [List.drop_append_of_le_length h2]
        exact ih _ (by simp only [List.length_drop, List.length_cons] at *; omega) _ _ h
      | tok n kd tx v =>
        obtain ⟨h1, h2⟩ := step_pos.2 n kd tx v hs
        rw [hs] at h
        simp only at h ⊢
        rw [List.drop_append_of_le_length h2, ih _ (by simp only [List.length_drop, List.length_cons] at *; omega) _ _ (preT_err h)]
        rfl

/- tokens stay tokens, where a line feed follows -/
theorem scan_ok_append (m : List UInt8) : ∀ (l : List UInt8) (i : Nat) (ts : List Tok), scan l i = .ok ts → scan (l ++ 10 :: m) i = preT ts (scan m (i + l.length + 1)) := by
  intro l
  induction l using len_ind with
  | _ l ih =>
    intro i ts h
    cases l with
    | nil =>
      rw [scan_nil] at h; cases h
      rw [List.nil_append, scan_space i (by decide), preT_nil]; rfl
    | cons c r =>
      rw [scan_stepL] at h
      have hm : SpaceHead (10 :: m) := .inr ⟨10, m, rfl, by decide⟩
      rw [List.cons_append, scan_stepL, ← List.cons_append, step_append hm (.inr ⟨m, rfl⟩)]
      cases hs : stepL (c :: r) with
      | bad => rw [hs] at h; cases h
      | skip n =>
        obtain ⟨h1, h2⟩ := step_pos.1 n hs
        rw [hs] at h
        simp only at h ⊢
        rw [List.drop_append_of_le_length h2, ih _ (by simp only [List.length_drop, List.length_cons] at *; omega) _ _ h]
        congr 2
        simp only [List.length_drop, List.length_cons] at *; omega
      | tok n kd tx v =>
        obtain ⟨h1, h2⟩ := step_pos.2 n kd tx v hs
        rw [hs] at h
        simp only at h ⊢
        obtain ⟨q, hq, rfl⟩ := preT_ok h
        rw [List.drop_append_of_le_length h2, ih _ (by simp only [List.length_drop, List.length_cons] at *; omega) _ _ hq, preT_preT]
        congr 2
        simp only [List.length_drop, List.length_cons] at *; omega

/- a cut behind a step leaves the step -/
theorem tw_take {p : UInt8 → Bool} : ∀ {l : List UInt8} {j : Nat}, (l.takeWhile p).length ≤ j → (l.take j).takeWhile p = l.takeWhile p
  | [], _, _ => by simp
  | a :: r, 0, h => by
    have : ((a :: r).takeWhile p) = [] := List.eq_nil_of_length_eq_zero (by omega)
    rw [this]; rfl
  | a :: r, j + 1, h => by
    rw [List.take_succ_cons, List.takeWhile_cons, List.takeWhile_cons]
    by_cases ha : p a = true
    · rw [if_pos ha, if_pos ha]
      rw [List.takeWhile_cons, if_pos ha] at h
      rw [tw_take (by simpa using h)]
    · rw [if_neg ha, if_neg ha]
theorem tw_two {c : UInt8} {r : List UInt8} (h : c = 47 ∧ r.head? = some 47) : 2 ≤ ((c :: r).takeWhile notLf).length := by
  obtain ⟨rfl, h⟩ := h
  cases r with
  | nil => cases h
  | cons d q =>
    simp at h; subst h
    rw [List.takeWhile_cons, if_pos (by decide), List.takeWhile_cons, if_pos (by decide)]
    simp
theorem digit_letter (c : UInt8) : (!letterB c || partB c) = true := all_u8 (fun c => !letterB c || partB c) (by decide +kernel) c
theorem step_take {c : UInt8} {r : List UInt8} {j : Nat} (n : Nat) (hs : stepL (c :: r) = .skip n ∨ ∃ kd tx v, stepL (c :: r) = .tok n kd tx v) (hj : n ≤ j) : stepL ((c :: r).take j) = stepL (c :: r) := by
  have hn : 0 < n := by
    rcases hs with hs | ⟨kd, tx, v, hs⟩
    · exact (step_pos.1 n hs).1
    · exact (step_pos.2 n kd tx v hs).1
  obtain ⟨j, rfl⟩ : ∃ j', j = j' + 1 := ⟨j - 1, by omega⟩
  rw [List.take_succ_cons]
  rw [stepL_cons] at hs
  rw [stepL_cons, stepL_cons]
  by_cases h0 : spaceB c = true
  · simp [h0]
  · simp only [h0, Bool.false_eq_true, if_false] at hs ⊢
    by_cases h1 : c = 47 ∧ r.head? = some 47
    · rw [if_pos h1] at hs ⊢
      have h2 := tw_two h1
      have hn2 : ((c :: r).takeWhile notLf).length = n := by
        rcases hs with hs | ⟨kd, tx, v, hs⟩
        · simpa using hs
        · cases hs
      have h1' : c = 47 ∧ (r.take j).head? = some 47 := ⟨h1.1, by
        obtain ⟨j, rfl⟩ : ∃ j', j = j' + 1 := ⟨j - 1, by omega⟩
        cases r with
        | nil => exact h1.2
        | cons d q => exact h1.2⟩
      rw [if_pos h1']
      have := tw_take (p := notLf) (l := c :: r) (j := j + 1) (by omega)
      rw [List.take_succ_cons] at this
      rw [this]
    · rw [if_neg h1] at hs ⊢
      have h1' : ¬ (c = 47 ∧ (r.take j).head? = some 47) := fun h => h1 ⟨h.1, by
        cases j with
        | zero => simp at h
        | succ j =>
          cases r with
          | nil => simp at h
          | cons d q => exact h.2⟩
      rw [if_neg h1']
      by_cases h2 : letterB c = true
      · rw [if_pos h2] at hs ⊢
        rw [if_pos h2]
        have hle : ((c :: r).takeWhile partB).length ≤ j + 1 := by
          rcases hs with hs | ⟨kd, tx, v, hs⟩
          · split at hs <;> cases hs
          · split at hs
            · cases hs; omega
            · cases hs
        have := tw_take (p := partB) (l := c :: r) (j := j + 1) hle
        rw [List.take_succ_cons] at this
        rw [this]
      · rw [if_neg h2] at hs ⊢
        rw [if_neg h2]
        by_cases h3 : digitB c = true
        · rw [if_pos h3] at hs ⊢
          rw [if_pos h3]
          have hle : ((c :: r).takeWhile digitB).length ≤ j + 1 := by
            rcases hs with hs | ⟨kd, tx, v, hs⟩
            · split at hs <;> cases hs
            · split at hs
              · cases hs; omega
              · cases hs
          have := tw_take (p := digitB) (l := c :: r) (j := j + 1) hle
          rw [List.take_succ_cons] at this
          rw [this]
        · rw [if_neg h3, if_neg h3]

/- an error at place k: the list up to it has tokens; from it on there is an error at once -/
theorem scan_err_cut : ∀ (l : List UInt8) (i k : Nat), scan l i = .error k → ∃ d, k = i + d ∧ d < l.length ∧ (∃ ts, scan (l.take d) i = .ok ts) ∧ ∀ j, scan (l.drop d) j = .error j := by
  intro l
  induction l using len_ind with
  | _ l ih =>
    intro i k h
    cases l with
    | nil => rw [scan_nil] at h; cases h
    | cons c r =>
      rw [scan_stepL] at h
      cases hs : stepL (c :: r) with
      | bad =>
        rw [hs] at h; cases h
        refine ⟨0, rfl, by simp, ⟨[], scan_nil _⟩, fun j => ?_⟩
        rw [List.drop_zero, scan_stepL, hs]
      | skip n =>
        obtain ⟨h1, h2⟩ := step_pos.1 n hs
        rw [hs] at h
        simp only at h
        obtain ⟨d, rfl, hd, ⟨ts, ht⟩, he⟩ := ih _ (by simp only [List.length_drop, List.length_cons] at *; omega) _ _ h
        refine ⟨n + d, by omega, by simp only [List.length_drop, List.length_cons] at *; omega, ⟨ts, ?_⟩, ?_⟩
        · have hst := step_take (j := n + d) n (.inl hs) (by omega)
          obtain ⟨j, hj⟩ : ∃ j', n + d = j' + 1 := ⟨n + d - 1, by omega⟩
          rw [hj] at hst ⊢
          rw [List.take_succ_cons] at hst ⊢
          rw [scan_stepL, hst, hs]
          simp only
          rw [← List.take_succ_cons, ← hj, List.drop_take, Nat.add_sub_cancel_left]
          exact ht
        · rw [← List.drop_drop]; exact he
      | tok n kd tx v =>
        obtain ⟨h1, h2⟩ := step_pos.2 n kd tx v hs
        rw [hs] at h
        simp only at h
        obtain ⟨d, rfl, hd, ⟨ts, ht⟩, he⟩ := ih _ (by simp only [List.length_drop, List.length_cons] at *; omega) _ _ (preT_err h)
        refine ⟨n + d, by omega, by simp only [List.length_drop, List.length_cons] at *; omega, ⟨⟨kd, mk tx, v, i⟩ :: ts, ?_⟩, ?_⟩
        · have hst := step_take (j := n + d) n (.inr ⟨kd, tx, v, hs⟩) (by omega)
          obtain ⟨j, hj⟩ : ∃ j', n + d = j' + 1 := ⟨n + d - 1, by omega⟩
          rw [hj] at hst ⊢
          rw [List.take_succ_cons] at hst ⊢
          rw [scan_stepL, hst, hs]
          simp only
          rw [← List.take_succ_cons, ← hj, List.drop_take, Nat.add_sub_cancel_left, ht]
          rfl
        · rw [← List.drop_drop]; exact he

end Go.Proofs.YtlaifodlnolndaaGreatDoor

/- PROVED HERE, in plain Lean with no program in sight: a valid token's word is read back as that token; what 'scan' reads is valid, and its words stand at their places; the joined words of valid tokens are read back. No condition. -/
namespace Go.Proofs.YtlaifodlnolndaaGreatDoor
open Go.RowKit Lib

theorem dig_ok (n : Nat) (h : n < 10) : digitB (UInt8.ofNat (48 + n)) = true ∧ (UInt8.ofNat (48 + n)).toNat - 48 = n := by
  have : n ∈ List.range 10 := List.mem_range.2 h
  have hall : ((List.range 10).all fun n => digitB (UInt8.ofNat (48 + n)) && (UInt8.ofNat (48 + n)).toNat - 48 == n) = true := by decide +kernel
  have := List.all_eq_true.1 hall n this
  simp only [Bool.and_eq_true, beq_iff_eq] at this
  exact this
theorem dec_val : ∀ n : Nat, valD 0 (decDigits n) = n ∧ (decDigits n).all digitB = true := by
  intro n
  induction n using Nat.strongRecOn with
  | _ n ih =>
    obtain ⟨d1, d2⟩ := dig_ok (n % 10) (Nat.mod_lt _ (by decide))
    by_cases h : n < 10
    · rw [dec_lt h, valD_cons, valD_nil]
      refine ⟨by rw [d2]; omega, by rw [List.all_cons, d1]; rfl⟩
    · obtain ⟨i1, i2⟩ := ih (n / 10) (by omega)
      rw [dec_ge h, valD_snoc, i1, d2]
      refine ⟨by omega, ?_⟩
      rw [List.all_append, i2, List.all_cons, d1]; rfl
theorem ref_dec {N : Nat} (h : N ≤ 1099511627776) : refNumber (decDigits N) = ((N : Int), true) := by
  obtain ⟨h1, h2⟩ := dec_val N
  have hne : decDigits N ≠ [] := fun e => by have := dec_pos N; rw [e] at this; simp at this
  rw [ref_is hne h2, h1, if_pos h]; simp

theorem tw_id {p : UInt8 → Bool} : ∀ {l : List UInt8}, l.all p = true → l.takeWhile p = l
  | [], _ => rfl
  | a :: r, h => by
    simp only [List.all_cons, Bool.and_eq_true] at h
    rw [List.takeWhile_cons, if_pos h.1, tw_id h.2]
theorem tw_take_len {p : UInt8 → Bool} : ∀ l : List UInt8, l.take (l.takeWhile p).length = l.takeWhile p
  | [] => rfl
  | a :: r => by
    rw [List.takeWhile_cons]
    by_cases ha : p a = true
    · rw [if_pos ha, List.length_cons, List.take_succ_cons, tw_take_len r]
    · rw [if_neg ha]; rfl
theorem tw_all_p {p : UInt8 → Bool} : ∀ l : List UInt8, (l.takeWhile p).all p = true
  | [] => rfl
  | a :: r => by
    rw [List.takeWhile_cons]
    by_cases ha : p a = true
    · rw [if_pos ha, List.all_cons, ha, tw_all_p r]; rfl
    · rw [if_neg ha]; rfl
theorem class_of (c : UInt8) : ((!letterB c || (!spaceB c && c != 47)) && ((!digitB c || (!spaceB c && (!letterB c && c != 47))) && (!signB c || (!spaceB c && (!letterB c && !digitB c))))) = true :=
  all_u8 (fun c => (!letterB c || (!spaceB c && c != 47)) && ((!digitB c || (!spaceB c && (!letterB c && c != 47))) && (!signB c || (!spaceB c && (!letterB c && !digitB c))))) (by decide +kernel) c
theorem letter_ns {c : UInt8} (h : letterB c = true) : spaceB c = false ∧ c ≠ 47 := by
  have := class_of c; simp [h] at this; exact this.1
theorem digit_is {c : UInt8} (h : digitB c = true) : spaceB c = false ∧ letterB c = false ∧ c ≠ 47 := by
  have := class_of c; simp [h] at this; exact this.2.1
theorem sign_ns {c : UInt8} (h : signB c = true) : spaceB c = false ∧ letterB c = false ∧ digitB c = false := by
  have := class_of c; simp [h] at this; exact this.2.2

/- a name, a number, a sign: one step -/
theorem step_name {c : UInt8} {r : List UInt8} (h : nameB (c :: r) = true) : stepL (c :: r) = .tok (c :: r).length 1 (c :: r) 0 := by
  have h' := h
  simp only [nameB, Bool.and_eq_true] at h
  obtain ⟨a1, a2⟩ := letter_ns h.1.2
  rw [stepL_cons, if_neg (by rw [a1]; simp), if_neg (fun e => a2 e.1), if_pos h.1.2, tw_id h.2, if_pos h']
theorem step_number {N : Nat} (h : N ≤ 1099511627776) : stepL (decDigits N) = .tok (decDigits N).length 2 [] N := by
  have hr := ref_dec h
  obtain ⟨_, h2⟩ := dec_val N
  have hp := dec_pos N
  cases hd : decDigits N with
  | nil => rw [hd] at hp; simp at hp
  | cons c r =>
    rw [hd] at h2 hr
    have hc : digitB c = true := by simp only [List.all_cons, Bool.and_eq_true] at h2; exact h2.1
    obtain ⟨a1, a2, a3⟩ := digit_is hc
    rw [stepL_cons, if_neg (by rw [a1]; simp), if_neg (fun e => a3 e.1), if_neg (by rw [a2]; simp), if_pos hc, tw_id h2, hr, if_pos rfl]
theorem step_sign {c : UInt8} (h : signB c = true) : stepL [c] = .tok 1 3 [c] 0 := by
  obtain ⟨a1, a2, a3⟩ := sign_ns h
  rw [stepL_cons, if_neg (by rw [a1]; simp), if_neg (fun e => by simp at e), if_neg (by rw [a2]; simp), if_neg (by rw [a3]; simp), if_pos h]
theorem step_word {t : Tok} (hv : validB t = true) : stepL (wordOf t) = .tok (wordOf t).length t.kind t.text.data.toList t.n ∧ wordOf t ≠ [] := by
  unfold wordOf
  rcases valid_cases hv with ⟨h1, h2, h3⟩ | ⟨h1, h2, h3, h4⟩ | ⟨h1, ⟨c, h2, h4⟩, h3⟩
  · rw [if_neg (by omega), h1, h3]
    cases hl : t.text.data.toList with
    | nil => rw [hl] at h2; simp [nameB] at h2
    | cons c r => rw [hl] at h2; exact ⟨step_name h2, by simp⟩
  · rw [if_pos h1, h1, h2, step_number (by omega)]
    refine ⟨by congr 1; omega, fun e => by have := dec_pos t.n.toNat; rw [e] at this; simp at this⟩
  · rw [if_neg (by omega), h1, h3, h2]
    exact ⟨step_sign h4, by simp⟩
theorem scan_word {t : Tok} (hv : validB t = true) {m : List UInt8} (hm : SpaceHead m) (i : Nat) :
    scan (wordOf t ++ m) i = preT [⟨t.kind, t.text, t.n, i⟩] (scan m (i + (wordOf t).length)) := by
  obtain ⟨h1, h2⟩ := step_word hv
  cases hw : wordOf t with
  | nil => exact absurd hw h2
  | cons c r =>
    rw [hw] at h1
    rw [List.cons_append, scan_stepL, ← List.cons_append, step_append hm (.inl fun ho => by rw [open_skip ho] at h1; cases h1), h1]
    simp only [List.drop_left]
    congr 1

/- what a step reads is valid, and its word is what it read -/
theorem step_valid {c : UInt8} {r : List UInt8} {n : Nat} {kd : Int} {tx : List UInt8} {v : Int} (h : stepL (c :: r) = .tok n kd tx v) (i : Int) :
    wordOf ⟨kd, mk tx, v, i⟩ = (c :: r).take n ∧ validB ⟨kd, mk tx, v, i⟩ = true ∧ tx.length ≤ 32 := by
  rw [stepL_cons] at h
  split at h
  · cases h
  · split at h
    · cases h
    · split at h
      · split at h
        · rename_i hn
          cases h
          refine ⟨?_, ?_, name_len hn⟩
          · rw [show wordOf ⟨1, mk ((c :: r).takeWhile partB), 0, i⟩ = (c :: r).takeWhile partB from rfl, tw_take_len]
          · rw [valid_name (by rfl), mk_list, hn]; rfl
        · cases h
      · split at h
        · rename_i hc
          split at h
          · rename_i hn
            cases h
            have hd := tw_all_p (p := digitB) (c :: r)
            have hne : (c :: r).takeWhile digitB ≠ [] := fun e => by have := twl_pos (r := r) hc; rw [e] at this; simp at this
            rw [ref_is hne hd] at hn ⊢
            by_cases hb : valD 0 ((c :: r).takeWhile digitB) ≤ 1099511627776
            · rw [if_pos hb] at hn ⊢
              have hdd : decDigits (valD 0 ((c :: r).takeWhile digitB)) = (c :: r).takeWhile digitB := by simpa using hn
              refine ⟨?_, ?_, by simp⟩
              · unfold wordOf
                rw [if_pos rfl, tw_take_len]
                simp only [Int.toNat_natCast]
                exact hdd
              · rw [valid_number (by rfl) (by rfl), mk_list]
                simp; omega
            · rw [if_neg hb] at hn; simp at hn
          · cases h
        · split at h
          · rename_i hs
            cases h
            refine ⟨?_, ?_, by simp⟩
            · rw [show wordOf ⟨3, mk [c], 0, i⟩ = [c] from rfl]; rfl
            · rw [valid_sign (by rfl) (by rfl) (by rfl), mk_list]
              simp [signT, hs]
          · cases h

/- white space and comments, as the law of places reads them -/
def gapB : Bool → List UInt8 → Option Bool
  | cm, [] => some cm
  | cm, c :: r =>
    let cm' := c != 10 && (cm || (c == 47 && r.head? == some 47))
    if !cm' && !spaceB c then none else gapB cm' r
def Places : List UInt8 → Nat → List Tok → Prop
  | l, _, [] => ∃ cm, gapB false l = some cm
  | l, i, t :: ts => ∃ g rest, l = g ++ (wordOf t ++ rest) ∧ gapB false g = some false ∧ t.at_ = ((i + g.length : Nat) : Int) ∧ wordOf t ≠ [] ∧ validB t = true ∧ t.text.size ≤ 32 ∧ Places rest (i + g.length + (wordOf t).length) ts

theorem word_head {t : Tok} (hv : validB t = true) {q : List UInt8} : wordOf t ≠ 10 :: q := by
  intro e
  obtain ⟨h1, _⟩ := step_word hv
  rw [e, stepL_cons, if_pos (by decide)] at h1
  cases h1
theorem gap_note : ∀ l : List UInt8, (∀ c ∈ l, notLf c = true) → ∀ m : List UInt8, gapB true (l ++ m) = gapB true m
  | [], _, _ => rfl
  | c :: r, h, m => by
    have hc : (c != 10) = true := by
      have := h c (List.mem_cons_self)
      simp only [notLf, bne_iff_ne, ne_eq] at this ⊢
      intro e; subst e; exact this rfl
    rw [List.cons_append, gapB]
    simp only [hc, Bool.true_and, Bool.true_or, Bool.not_true, Bool.false_and, Bool.false_eq_true, if_false]
    exact gap_note r (fun c hc => h c (List.mem_cons_of_mem _ hc)) m
theorem gap_open {c d : UInt8} {r m : List UInt8} (hc : c = 47) (hd : d = 47) (h : ∀ x ∈ r, notLf x = true) : gapB false (c :: d :: r ++ m) = gapB true m := by
  subst hc; subst hd
  rw [List.cons_append, List.cons_append, gapB]
  rw [show ((47 : UInt8) != 10 && (false || ((47 : UInt8) == 47 && (47 :: (r ++ m)).head? == some 47))) = true from rfl]
  simp only [Bool.not_true, Bool.false_and, Bool.false_eq_true, if_false]
  exact gap_note (47 :: r) (fun x hx => by
    rcases List.mem_cons.1 hx with rfl | hx
    · decide
    · exact h x hx) m
theorem gap_lf (b : Bool) (r : List UInt8) : gapB b (10 :: r) = gapB false r := by
  rw [gapB]
  simp [spaceB]
theorem gap_space {c : UInt8} (h : spaceB c = true) (r : List UInt8) : gapB false (c :: r) = gapB false r := by
  have h47 := slash_space c h
  rw [gapB]
  have e : (c == 47) = false := by simpa using h47
  simp [e, h]
theorem drop_tw {p : UInt8 → Bool} : ∀ l : List UInt8, l.drop (l.takeWhile p).length = [] ∨ ∃ c q, l.drop (l.takeWhile p).length = c :: q ∧ p c = false
  | [] => .inl rfl
  | a :: r => by
    rw [List.takeWhile_cons]
    by_cases ha : p a = true
    · rw [if_pos ha]; exact drop_tw r
    · rw [if_neg ha]; exact .inr ⟨a, r, rfl, by simpa using ha⟩

theorem scan_places : ∀ (l : List UInt8) (i : Nat) (ts : List Tok), scan l i = .ok ts → Places l i ts := by
  intro l
  induction l using len_ind with
  | _ l ih =>
    intro i ts h
    cases l with
    | nil => rw [scan_nil] at h; cases h; exact ⟨false, rfl⟩
    | cons c r =>
      rw [scan_stepL] at h
      cases hs : stepL (c :: r) with
      | bad => rw [hs] at h; cases h
      | tok n kd tx v =>
        obtain ⟨h1, h2⟩ := step_pos.2 n kd tx v hs
        rw [hs] at h
        simp only at h
        obtain ⟨q, hq, rfl⟩ := preT_ok h
        obtain ⟨e1, e2, e3⟩ := step_valid hs i
        have hp := ih _ (by simp only [List.length_drop, List.length_cons] at *; omega) _ _ hq
        have hlen : (wordOf ⟨kd, mk tx, v, i⟩).length = n := by rw [e1, List.length_take]; omega
        refine ⟨[], (c :: r).drop n, ?_, rfl, by simp, fun e => ?_, e2, ?_, ?_⟩
        · rw [e1, List.nil_append, List.take_append_drop]
        · rw [e] at hlen; simp at hlen; omega
        · exact e3
        · rw [hlen]; exact hp
      | skip n =>
        obtain ⟨h1, h2⟩ := step_pos.1 n hs
        rw [hs] at h
        simp only at h
        have hp := ih _ (by simp only [List.length_drop, List.length_cons] at *; omega) _ _ h
        rw [stepL_cons] at hs
        by_cases h0 : spaceB c = true
        · rw [if_pos h0] at hs
          have hn : n = 1 := by injection hs with hs; omega
          subst hn
          simp only [List.drop_succ_cons, List.drop_zero] at hp
          cases ts with
          | nil =>
            obtain ⟨cm, hcm⟩ := hp
            exact ⟨cm, by rw [gap_space h0]; exact hcm⟩
          | cons t ts =>
            obtain ⟨g, rest, rfl, hg, ha, hr⟩ := hp
            refine ⟨c :: g, rest, rfl, by rw [gap_space h0]; exact hg, by rw [ha]; simp; omega, ?_⟩
            have e : i + (c :: g).length = i + 1 + g.length := by simp; omega
            rw [e]; exact hr
        · rw [if_neg h0] at hs
          by_cases h1' : c = 47 ∧ r.head? = some 47
          · rw [if_pos h1'] at hs
            have hn : n = ((c :: r).takeWhile notLf).length := by injection hs with hs; omega
            obtain ⟨hc47, hr47⟩ := h1'
            cases r with
            | nil => cases hr47
            | cons d r =>
              have hd : d = 47 := by simpa using hr47
              have hw : (c :: d :: r).takeWhile notLf = c :: d :: r.takeWhile notLf := by
                rw [List.takeWhile_cons, if_pos (by rw [hc47]; decide), List.takeWhile_cons, if_pos (by rw [hd]; decide)]
              have hall : ∀ x ∈ r.takeWhile notLf, notLf x = true := fun x hx => List.all_eq_true.1 (tw_all_p r) x hx
              have hsplit : c :: d :: r = (c :: d :: r.takeWhile notLf) ++ (c :: d :: r).drop n := by
                rw [← hw, ← tw_take_len (p := notLf) (c :: d :: r), ← hn, List.take_append_drop]
              have hln : (c :: d :: r.takeWhile notLf).length = n := by rw [hn, hw]
              have hdr := drop_tw (p := notLf) (c :: d :: r)
              rw [← hn] at hdr
              generalize (c :: d :: r).drop n = R at *
              rw [hsplit]
              cases ts with
              | nil =>
                rcases hdr with rfl | ⟨x, q, rfl, hx⟩
                · exact ⟨true, by rw [gap_open hc47 hd hall]; rfl⟩
                · have hx10 : x = 10 := by
                    have : x.toNat = 10 := by simpa [notLf] using hx
                    exact UInt8.toNat_inj.1 this
                  subst hx10
                  obtain ⟨cm, hcm⟩ := hp
                  exact ⟨cm, by rw [gap_open hc47 hd hall, gap_lf, ← gap_lf false]; exact hcm⟩
              | cons t ts =>
                obtain ⟨g, rest, hR, hg, ha, hne, hv, hsz, hr⟩ := hp
                rcases hdr with rfl | ⟨x, q, rfl, hx⟩
                · have := congrArg List.length hR
                  simp at this
                  exact absurd (List.eq_nil_of_length_eq_zero (by omega)) hne
                · have hx10 : x = 10 := by
                    have : x.toNat = 10 := by simpa [notLf] using hx
                    exact UInt8.toNat_inj.1 this
                  subst hx10
                  cases g with
                  | nil =>
                    exfalso
                    rw [List.nil_append] at hR
                    cases hwt : wordOf t with
                    | nil => exact hne hwt
                    | cons y z =>
                      rw [hwt] at hR
                      simp only [List.cons_append, List.cons.injEq] at hR
                      rw [← hR.1] at hwt
                      exact word_head hv hwt
                  | cons y g =>
                    have hy : y = 10 := by
                      simp only [List.cons_append, List.cons.injEq] at hR; exact hR.1.symm
                    subst hy
                    refine ⟨(c :: d :: r.takeWhile notLf) ++ 10 :: g, rest, ?_, ?_, ?_, hne, hv, hsz, ?_⟩
                    · rw [hR]; simp
                    · rw [gap_open hc47 hd hall, gap_lf, ← gap_lf false]; exact hg
                    · rw [ha, List.length_append, hln]; simp; omega
                    · rw [List.length_append, hln, show i + (n + (10 :: g).length) = i + n + (10 :: g).length from by omega]; exact hr
          · rw [if_neg h1'] at hs
            split at hs
            · split at hs <;> cases hs
            · split at hs
              · split at hs <;> cases hs
              · split at hs <;> cases hs

end Go.Proofs.YtlaifodlnolndaaGreatDoor

/- PROVED HERE, in plain Lean with no program in sight: the laws as the statements on Lex need them: joined words are read back, two sources with a line feed between them, a name is one token. No condition. -/
namespace Go.Proofs.YtlaifodlnolndaaGreatDoor
open Go.RowKit Lib

theorem joinTail_cons (x : List UInt8) (r : List (List UInt8)) : joinTail [32] (x :: r) = 32 :: (x ++ joinTail [32] r) := by
  unfold joinTail; simp
theorem tail_space (r : List (List UInt8)) : SpaceHead (joinTail [32] r) := by
  cases r with
  | nil => exact .inl rfl
  | cons x r => exact .inr ⟨32, _, joinTail_cons x r, by decide⟩
theorem joinW_cons (t : Tok) (ts : List Tok) : joinW (t :: ts) = wordOf t ++ joinTail [32] (ts.map wordOf) := by
  unfold joinW; rw [List.map_cons, join_cons]

theorem scan_tail : ∀ (ts : List Tok) (i : Nat), ts.all validB = true → ∃ ms, scan (joinTail [32] (ts.map wordOf)) i = .ok ms ∧ sameB ts ms = true
  | [], i, _ => ⟨[], by rw [List.map_nil]; exact scan_nil i, rfl⟩
  | t :: ts, i, h => by
    simp only [List.all_cons, Bool.and_eq_true] at h
    obtain ⟨ms, h1, h2⟩ := scan_tail ts (i + 1 + (wordOf t).length) h.2
    rw [List.map_cons, joinTail_cons, scan_space i (by decide), scan_word h.1 (tail_space _), h1]
    exact ⟨_, rfl, by simp [sameB, sameT, h2]⟩
theorem scan_join (ts : List Tok) (i : Nat) (h : ts.all validB = true) : ∃ ms, scan (joinW ts) i = .ok ms ∧ sameB ts ms = true := by
  cases ts with
  | nil => exact ⟨[], by unfold joinW; exact scan_nil i, rfl⟩
  | cons t ts =>
    simp only [List.all_cons, Bool.and_eq_true] at h
    obtain ⟨ms, h1, h2⟩ := scan_tail ts (i + (wordOf t).length) h.2
    rw [joinW_cons, scan_word h.1 (tail_space _), h1]
    exact ⟨_, rfl, by simp [sameB, sameT, h2]⟩

/- what stands at its places is valid, and its joined words are short -/
theorem places_valid : ∀ {ts : List Tok} {l : List UInt8} {i : Nat}, Places l i ts → ts.all validB = true ∧ (∀ t ∈ ts, t.text.size ≤ 32) ∧ (joinTail [32] (ts.map wordOf)).length ≤ 2 * l.length ∧ ts.length ≤ l.length
  | [], l, i, _ => ⟨rfl, by simp, by unfold joinTail; simp, by simp⟩
  | t :: ts, l, i, h => by
    obtain ⟨g, rest, rfl, _, _, hne, hv, hsz, hr⟩ := h
    obtain ⟨h1, h2, h3, h4⟩ := places_valid hr
    have hpos : 0 < (wordOf t).length := List.length_pos_iff.2 hne
    refine ⟨by rw [List.all_cons, hv, h1]; rfl, fun x hx => ?_, ?_, ?_⟩
    · rcases List.mem_cons.1 hx with rfl | hx
      · exact hsz
      · exact h2 x hx
    · rw [List.map_cons, joinTail_cons]
      simp only [List.length_cons, List.length_append]
      omega
    · simp only [List.length_cons, List.length_append]
      omega
theorem joinW_le (ts : List Tok) : (joinW ts).length ≤ (joinTail [32] (ts.map wordOf)).length := by
  cases ts with
  | nil => unfold joinW; simp [join_nil]
  | cons t ts => rw [joinW_cons, List.map_cons, joinTail_cons]; simp

/- of a source: what LexBack asks -/
theorem back_source {l : List UInt8} {ts : List Tok} (h : scan l 0 = .ok ts) :
    ts.all validB = true ∧ (joinW ts).length ≤ 2 * l.length ∧ ts.length ≤ l.length ∧ ∃ ms, scan (joinW ts) 0 = .ok ms ∧ sameB ts ms = true := by
  obtain ⟨h1, h2, h3, h4⟩ := places_valid (scan_places l 0 ts h)
  exact ⟨h1, Nat.le_trans (joinW_le ts) h3, h4, scan_join ts 0 h1⟩

/- two sources with a line feed between them: what LexJoined asks -/
theorem joined_err {a b : List UInt8} {k : Nat} (h : scan a 0 = .error k) : scan (a ++ 10 :: b) 0 = .error k := scan_err_append _ (.inr ⟨10, b, rfl, by decide⟩) a 0 k h
theorem joined_err2 {a b : List UInt8} {ts : List Tok} {k : Nat} (h : scan a 0 = .ok ts) (h2 : scan b 0 = .error k) : scan (a ++ 10 :: b) 0 = .error (k + (a.length + 1)) := by
  rw [scan_ok_append b a 0 ts h, show 0 + a.length + 1 = 0 + (a.length + 1) from by omega, scan_shift, h2]; rfl
theorem joined_ok {a b : List UInt8} {ts us : List Tok} (h : scan a 0 = .ok ts) (h2 : scan b 0 = .ok us) : scan (a ++ 10 :: b) 0 = .ok (ts ++ us.map (Tok.later (a.length + 1))) := by
  rw [scan_ok_append b a 0 ts h, show 0 + a.length + 1 = 0 + (a.length + 1) from by omega, scan_shift, h2]; rfl

/- what LexWrong asks -/
theorem wrong_law {l : List UInt8} {k : Nat} (h : scan l 0 = .error k) (more : List UInt8) :
    k < l.length ∧ (∃ ts, scan (l.take k) 0 = .ok ts) ∧ scan (l ++ 32 :: more) 0 = .error k ∧ scan (l.drop k) 0 = .error 0 := by
  obtain ⟨d, rfl, hd, ht, he⟩ := scan_err_cut l 0 k h
  rw [Nat.zero_add] at *
  exact ⟨hd, ht, scan_err_append _ (.inr ⟨32, more, rfl, by decide⟩) l 0 d h, he 0⟩

/- a name is one token: what LexNames asks -/
theorem name_scan {l : List UInt8} (h : nameB l = true) : scan l 0 = .ok [⟨1, mk l, 0, 0⟩] := by
  cases l with
  | nil => cases h
  | cons c r => rw [scan_stepL, step_name h]; simp only [List.drop_length, scan_nil]; rfl
theorem scan_name_not {l : List UInt8} (h : nameB l = false) {ts : List Tok} (hs : scan l 0 = .ok ts) (t : Tok) (ht : ts = [t]) : ¬ (t.kind = 1 ∧ t.text.data.toList = l) := by
  subst ht
  rintro ⟨h1, h2⟩
  obtain ⟨hv, _⟩ := places_valid (scan_places l 0 _ hs)
  simp only [List.all_cons, List.all_nil, Bool.and_true] at hv
  rcases valid_cases hv with ⟨_, h3, _⟩ | ⟨h3, _⟩ | ⟨h3, _⟩
  · rw [h2, h] at h3; cases h3
  · omega
  · omega

theorem sameB_refl (l : List Tok) : sameB l l = true := by
  induction l with
  | nil => rfl
  | cons t r ih => rw [sameB, ih]; simp [sameT]

end Go.Proofs.YtlaifodlnolndaaGreatDoor

/- PROVED HERE, in plain Lean with no program in sight: tokens written with white space and comments between them are read back. No condition. -/
namespace Go.Proofs.YtlaifodlnolndaaGreatDoor
open Go.RowKit Lib

/- a piece of white space and comments: what follows it is read as it stands alone -/
def GapL (g : List UInt8) : Prop := ∀ (m : List UInt8) (i : Nat), scan (g ++ m) i = scan m (i + g.length)
theorem gapL_nil : GapL [] := fun _ _ => rfl
theorem gapL_space {c : UInt8} {g : List UInt8} (hc : spaceB c = true) (h : GapL g) : GapL (c :: g) := fun m i => by
  rw [List.cons_append, scan_space i hc, h]
  congr 1
  simp; omega
theorem gapL_note {r g : List UInt8} (hr : r.all notLf = true) (h : GapL g) : GapL (47 :: 47 :: (r ++ 10 :: g)) := fun m i => by
  have e : (47 :: 47 :: (r ++ 10 :: g)) ++ m = 47 :: (47 :: (r ++ 10 :: (g ++ m))) := by simp
  have ht : ((47 : UInt8) :: (47 :: (r ++ 10 :: (g ++ m)))).takeWhile notLf = 47 :: 47 :: r := by
    rw [List.takeWhile_cons, if_pos (by decide), List.takeWhile_cons, if_pos (by decide)]
    congr 2
    rw [tw_full (by rw [tw_id hr]), List.takeWhile_cons, if_neg (by decide), List.append_nil]
  rw [e, scan_note i (by decide) ⟨rfl, rfl⟩, ht]
  have hd : (47 :: (47 :: (r ++ 10 :: (g ++ m)))).drop ((47 : UInt8) :: 47 :: r).length = 10 :: (g ++ m) := by simp
  rw [hd, scan_space _ (by decide), h]
  congr 1
  simp; omega

/- what is written of the first tokens -/
def Built (ts : List Tok) : Nat → List UInt8 → Prop
  | 0, l => l = [10]
  | k + 1, l => ∃ (h : k < ts.length) (q g : List UInt8), Built ts k q ∧ GapL g ∧ l = q ++ (wordOf ts[k] ++ [32] ++ g)
theorem built_scan {ts : List Tok} (hv : ts.all validB = true) : ∀ (k : Nat) (l : List UInt8), k ≤ ts.length → Built ts k l → ∃ ms, sameB (ts.take k) ms = true ∧ ∀ (m : List UInt8), scan (l ++ m) 0 = preT ms (scan m l.length)
  | 0, l, _, h => by
    have h' : l = [10] := h
    subst h'
    exact ⟨[], rfl, fun m => by rw [preT_nil]; exact scan_space 0 (by decide)⟩
  | k + 1, l, hk, h => by
    obtain ⟨hlt, q, g, hq, hg, rfl⟩ := h
    obtain ⟨ms, hs, hm⟩ := built_scan hv k q (by omega) hq
    have hvk := List.all_eq_true.1 hv _ (List.getElem_mem hlt)
    refine ⟨ms ++ [⟨ts[k].kind, ts[k].text, ts[k].n, q.length⟩], ?_, fun m => ?_⟩
    · rw [List.take_succ_eq_append_getElem hlt]
      clear hm hq
      generalize ts.take k = xs at hs
      clear hk
      induction xs generalizing ms with
      | nil =>
        cases ms with
        | nil => simp [sameB, sameT]
        | cons y ys => simp [sameB] at hs
      | cons x xs ih =>
        cases ms with
        | nil => simp [sameB] at hs
        | cons y ys =>
          simp only [sameB, Bool.and_eq_true] at hs
          simp only [List.cons_append, sameB, hs.1, Bool.true_and]
          exact ih ys hs.2
    · have e : q ++ (wordOf ts[k] ++ [32] ++ g) ++ m = q ++ (wordOf ts[k] ++ (32 :: (g ++ m))) := by simp
      rw [e, hm, scan_word hvk (.inr ⟨32, _, rfl, by decide⟩), scan_space _ (by decide), hg, preT_preT]
      congr 2
      simp only [List.length_append, List.length_cons, List.length_nil]; omega
theorem built_all {ts : List Tok} (hv : ts.all validB = true) {l : List UInt8} (h : Built ts ts.length l) : ∃ ms, scan l 0 = .ok ms ∧ sameB ts ms = true := by
  obtain ⟨ms, h1, h2⟩ := built_scan hv ts.length l (Nat.le_refl _) h
  have := h2 []
  rw [List.append_nil, scan_nil] at this
  rw [List.take_length] at h1
  exact ⟨ms, by rw [this]; simp [preT], h1⟩

end Go.Proofs.YtlaifodlnolndaaGreatDoor

/- What gate programs are, in plain Lean: reading them off tokens, writing them, running them. No program in sight. -/
namespace Go.Proofs.YtlaifodlnolndaaGreatDoor
open Go.RowKit

structure Cd where
  v : Int
  op : Int
  n : Int
structure Ln where
  conds : List Cd
  set : Int

def wLevel : List UInt8 := [108, 101, 118, 101, 108]
def wPosition : List UInt8 := [112, 111, 115, 105, 116, 105, 111, 110]
def wOrder : List UInt8 := [111, 114, 100, 101, 114]
def wAge : List UInt8 := [97, 103, 101]
def wFeed : List UInt8 := [102, 101, 101, 100]
def wBelow : List UInt8 := [98, 101, 108, 111, 119]
def wAtmost : List UInt8 := [97, 116, 109, 111, 115, 116]
def wIs : List UInt8 := [105, 115]
def wAtleast : List UInt8 := [97, 116, 108, 101, 97, 115, 116]
def wAbove : List UInt8 := [97, 98, 111, 118, 101]
def wAlways : List UInt8 := [97, 108, 119, 97, 121, 115]
def wWhen : List UInt8 := [119, 104, 101, 110]
def wAnd : List UInt8 := [97, 110, 100]
def wSet : List UInt8 := [115, 101, 116]
def varsW : List (List UInt8) := [wLevel, wPosition, wOrder, wAge, wFeed]
def opsW : List (List UInt8) := [wBelow, wAtmost, wIs, wAtleast, wAbove]

/- readers of one token -/
def word (w : List UInt8) (t : Tok) : Bool := t.kind == 1 && t.text.data.toList == w
def idxW (ws : List (List UInt8)) (s : List UInt8) : Option Nat := ws.findIdx? (· == s)
def varP (t : Tok) : Option Int := if t.kind == 1 then (idxW varsW t.text.data.toList).map (fun k : Nat => (k : Int)) else none
def opP (t : Tok) : Option Int := if t.kind == 1 then (idxW opsW t.text.data.toList).map (fun k : Nat => (k : Int) + 1) else none
def numP (t : Tok) : Option Int := if t.kind == 2 then some t.n else none
def startP (t : Tok) : Option Bool := if word wAlways t then some false else if word wWhen t then some true else none
def setP (t : Tok) : Option Unit := if word wSet t then some () else none
def semiP (t : Tok) : Option Unit := if t.kind == 3 && t.text.data.toList == [59] then some () else none
def andB (t : Tok) : Bool := word wAnd t

abbrev Res (α : Type) := Except (List Tok) (α × List Tok)
def need {α : Type} (p : Tok → Option α) : List Tok → Res α
  | [] => .error []
  | t :: r => match p t with
    | some a => .ok (a, r)
    | none => .error (t :: r)
def andThen {α β : Type} (x : Res α) (f : α → List Tok → Res β) : Res β :=
  match x with
  | .ok (a, r) => f a r
  | .error e => .error e
def headIs (p : Tok → Bool) : List Tok → Bool
  | [] => false
  | t :: _ => p t

def pCond (l : List Tok) : Res Cd :=
  andThen (need varP l) fun v r => andThen (need opP r) fun o r => andThen (need numP r) fun n r => .ok (⟨v, o, n⟩, r)
def pConds : Nat → List Tok → Res (List Cd)
  | 0, l => .ok ([], l)
  | k + 1, l => andThen (pCond l) fun c r =>
    if k ≠ 0 ∧ headIs andB r = true then andThen (pConds k r.tail) fun cs r => .ok (c :: cs, r) else .ok ([c], r)
def pLine (l : List Tok) : Res Ln :=
  andThen (need startP l) fun w r => andThen (if w then pConds 4 r else .ok ([], r)) fun cs r =>
    andThen (need setP r) fun _ r => andThen (need numP r) fun n r => andThen (need semiP r) fun _ r => .ok (⟨cs, n⟩, r)
def pLines : Nat → List Tok → Except (List Tok) (List Ln)
  | _, [] => .ok []
  | 0, t :: r => .error (t :: r)
  | k + 1, t :: r => match pLine (t :: r) with
    | .error e => .error e
    | .ok (x, q) => match pLines k q with
      | .error e => .error e
      | .ok ls => .ok (x :: ls)

/- valid programs -/
def inNum (n : Int) : Bool := decide (0 ≤ n) && decide (n ≤ 1099511627776)
def okCd (c : Cd) : Bool := (decide (0 ≤ c.v) && decide (c.v ≤ 4)) && ((decide (1 ≤ c.op) && decide (c.op ≤ 5)) && inNum c.n)
def okLn (x : Ln) : Bool := (decide (x.conds.length ≤ 4) && inNum x.set) && x.conds.all okCd
def okC (ls : List Ln) : Bool := decide (ls.length ≤ 64) && ls.all okLn

/- running -/
def holdsB (op a b : Int) : Bool :=
  if op = 1 then decide (a < b) else if op = 2 then decide (a ≤ b) else if op = 3 then decide (a = b) else if op = 4 then decide (b ≤ a) else decide (b < a)
def holdsCd (vs : List Int) (c : Cd) : Bool := holdsB c.op (vs.getD c.v.toNat 0) c.n
def runC (vs : List Int) : List Ln → Option Int
  | [] => none
  | x :: r => if x.conds.all (holdsCd vs) then some x.set else runC vs r

/- writing -/
def tokW (w : List UInt8) : Tok := ⟨1, mk w, 0, 0⟩
def tokN (n : Int) : Tok := ⟨2, mk [], n, 0⟩
def tokS : Tok := ⟨3, mk [59], 0, 0⟩
def condToks (first : Bool) (c : Cd) : List Tok := [tokW (if first then wWhen else wAnd), tokW (varsW.getD c.v.toNat []), tokW (opsW.getD (c.op - 1).toNat []), tokN c.n]
def condsToks : List Cd → List Tok
  | [] => [tokW wAlways]
  | c :: r => condToks true c ++ r.flatMap (condToks false)
def lineToks (x : Ln) : List Tok := condsToks x.conds ++ [tokW wSet, tokN x.set, tokS]
def printLn (x : Ln) : List UInt8 := joinW (lineToks x) ++ [10]
def printC (ls : List Ln) : List UInt8 := ls.flatMap printLn

/- what is equal -/
def sameCd (a b : Cd) : Bool := a.v == b.v && (a.op == b.op && a.n == b.n)
def sameCds : List Cd → List Cd → Bool
  | [], [] => true
  | a :: r, b :: q => sameCd a b && sameCds r q
  | _, _ => false
def sameLn (a b : Ln) : Bool := a.set == b.set && sameCds a.conds b.conds
def sameC : List Ln → List Ln → Bool
  | [], [] => true
  | a :: r, b :: q => sameLn a b && sameC r q
  | _, _ => false

end Go.Proofs.YtlaifodlnolndaaGreatDoor

/- Plain laws of reading gate programs: what is read goes one token at a time; what is written is read again. -/
namespace Go.Proofs.YtlaifodlnolndaaGreatDoor
open Go.RowKit

/- the reader as a machine of states -/
inductive GSt where
  | start (k : Nat)
  | var (k c : Nat)
  | op (k c : Nat)
  | num (k c : Nat)
  | after (k c : Nat)
  | set (k : Nat)
  | setn (k : Nat)
  | semi (k : Nat)
def gstep : GSt → Tok → Option GSt
  | .start 0, _ => none
  | .start (k + 1), t => (startP t).map fun w => if w then .var k 3 else .set k
  | .var k c, t => (varP t).map fun _ => .op k c
  | .op k c, t => (opP t).map fun _ => .num k c
  | .num k c, t => (numP t).map fun _ => .after k c
  | .after k c, t => if c ≠ 0 ∧ andB t = true then some (.var k (c - 1)) else (setP t).map fun _ => .setn k
  | .set k, t => (setP t).map fun _ => .setn k
  | .setn k, t => (numP t).map fun _ => .semi k
  | .semi k, t => (semiP t).map fun _ => .start k
def runS : GSt → List Tok → Option GSt
  | s, [] => some s
  | s, t :: r => match gstep s t with
    | some s' => runS s' r
    | none => none
theorem runS_append : ∀ (a b : List Tok) (s s' : GSt), runS s a = some s' → runS s (a ++ b) = runS s' b
  | [], b, s, s', h => by simp only [runS, Option.some.injEq] at h; subst h; rfl
  | t :: r, b, s, s', h => by
    rw [List.cons_append, runS]
    rw [runS] at h
    cases hs : gstep s t with
    | none => rw [hs] at h; cases h
    | some s1 => rw [hs] at h; exact runS_append r b s1 s' h
theorem runS_one {s s' : GSt} {t : Tok} (h : gstep s t = some s') : runS s [t] = some s' := by rw [runS, h]; rfl
theorem runS_stop {s : GSt} {t : Tok} (q : List Tok) (h : gstep s t = none) : runS s (t :: q) = none := by rw [runS, h]

def GStuck (s : GSt) (e : List Tok) : Prop := e = [] ∨ ∃ t q, e = t :: q ∧ gstep s t = none
def gStart : GSt → Bool
  | .start _ => true
  | _ => false
/- a reader of a part goes as the machine goes from a state; where it ends, a fact holds of what is left and the state -/
def Goes {α : Type} (s : GSt) (l : List Tok) (x : Res α) (F : α → List Tok → GSt → Prop) : Prop :=
  (∃ a r pre s', x = .ok (a, r) ∧ l = pre ++ r ∧ runS s pre = some s' ∧ F a r s') ∨
  (∃ pre e s', x = .error e ∧ l = pre ++ e ∧ runS s pre = some s' ∧ GStuck s' e ∧ gStart s' = false)
theorem Goes.need {α : Type} {p : Tok → Option α} {s : GSt} {f : α → GSt} (hs : ∀ t, gstep s t = (p t).map f) (hn : gStart s = false) (l : List Tok) :
    Goes s l (need p l) (fun a _ s' => s' = f a) := by
  cases l with
  | nil => exact .inr ⟨[], [], s, rfl, rfl, rfl, .inl rfl, hn⟩
  | cons t r =>
    cases hp : p t with
    | none =>
      refine .inr ⟨[], t :: r, s, ?_, rfl, rfl, .inr ⟨t, r, rfl, ?_⟩, hn⟩
      · rw [YtlaifodlnolndaaGreatDoor.need, hp]
      · rw [hs, hp]; rfl
    | some a =>
      refine .inl ⟨a, r, [t], f a, ?_, rfl, ?_, rfl⟩
      · rw [YtlaifodlnolndaaGreatDoor.need, hp]
      · exact runS_one (by rw [hs, hp]; rfl)
theorem Goes.andThen {α β : Type} {s : GSt} {l : List Tok} {x : Res α} {F : α → List Tok → GSt → Prop} {G : β → List Tok → GSt → Prop} {g : α → List Tok → Res β}
    (h : Goes s l x F) (hg : ∀ a r s', F a r s' → Goes s' r (g a r) G) : Goes s l (andThen x g) G := by
  rcases h with ⟨a, r, pre, s', rfl, hl, hr, hF⟩ | ⟨pre, e, s', rfl, hl, hr, hst, hn⟩
  · rcases hg a r s' hF with ⟨b, r2, pre2, s2, e2, hl2, hr2, hG⟩ | ⟨pre2, e2, s2, he, hl2, hr2, hst, hn⟩
    · exact .inl ⟨b, r2, pre ++ pre2, s2, e2, by rw [hl, hl2, List.append_assoc], by rw [runS_append _ _ _ _ hr]; exact hr2, hG⟩
    · exact .inr ⟨pre ++ pre2, e2, s2, he, by rw [hl, hl2, List.append_assoc], by rw [runS_append _ _ _ _ hr]; exact hr2, hst, hn⟩
  · exact .inr ⟨pre, e, s', rfl, hl, hr, hst, hn⟩
theorem Goes.ok {α : Type} {s : GSt} {l : List Tok} {a : α} {F : α → List Tok → GSt → Prop} (h : F a l s) : Goes s l (.ok (a, l)) F := .inl ⟨a, l, [], s, rfl, rfl, rfl, h⟩
theorem Goes.imp {α : Type} {s : GSt} {l : List Tok} {x : Res α} {F G : α → List Tok → GSt → Prop} (h : Goes s l x F) (hi : ∀ a r s', F a r s' → G a r s') : Goes s l x G := by
  rcases h with ⟨a, r, pre, s', h1, h2, h3, h4⟩ | h
  · exact .inl ⟨a, r, pre, s', h1, h2, h3, hi _ _ _ h4⟩
  · exact .inr h
theorem cond_goes (k c : Nat) (l : List Tok) : Goes (.var k c) l (pCond l) (fun _ _ s' => s' = .after k c) := by
  unfold pCond
  refine (Goes.need (f := fun _ => .op k c) (fun _ => rfl) rfl l).andThen fun v r s' h => ?_
  subst h
  refine (Goes.need (f := fun _ => .num k c) (fun _ => rfl) rfl r).andThen fun o r s' h => ?_
  subst h
  refine (Goes.need (f := fun _ => .after k c) (fun _ => rfl) rfl r).andThen fun n r s' h => ?_
  subst h
  exact Goes.ok rfl
/- behind the conditions: 'set' is what comes, as from the state 'set' -/
def AsSet (k : Nat) (r : List Tok) (s' : GSt) : Prop := s' = .set k ∨ ∃ c, s' = .after k c ∧ ¬ (c ≠ 0 ∧ headIs andB r = true)
theorem conds_goes (k : Nat) : ∀ (c : Nat) (l : List Tok), Goes (.var k c) l (pConds (c + 1) l) (fun _ r s' => AsSet k r s')
  | c, l => by
    rw [pConds]
    refine (cond_goes k c l).andThen fun x r s' h => ?_
    subst h
    by_cases hc : c ≠ 0 ∧ headIs andB r = true
    · rw [if_pos hc]
      obtain ⟨h0, h1⟩ := hc
      obtain ⟨c', rfl⟩ : ∃ c', c = c' + 1 := ⟨c - 1, by omega⟩
      cases r with
      | nil => cases h1
      | cons t q =>
        have hst : gstep (.after k (c' + 1)) t = some (.var k c') := by
          rw [gstep, if_pos ⟨h0, h1⟩]; rfl
        have ih := (conds_goes k c' q).andThen (g := fun cs r => .ok (x :: cs, r)) (G := fun _ r s' => AsSet k r s') fun a r s' h => Goes.ok h
        rcases ih with ⟨a, r, pre, s', e1, e2, e3, e4⟩ | ⟨pre, e, s', e1, e2, e3, e4⟩
        · exact .inl ⟨a, r, t :: pre, s', e1, by rw [e2]; rfl, by rw [runS, hst]; exact e3, e4⟩
        · exact .inr ⟨t :: pre, e, s', e1, by rw [e2]; rfl, by rw [runS, hst]; exact e3, e4⟩
    · rw [if_neg hc]
      exact Goes.ok (.inr ⟨c, rfl, hc⟩)
theorem set_goes (k : Nat) (l : List Tok) (s : GSt) (h : AsSet k l s) : Goes s l (need setP l) (fun _ _ s' => s' = .setn k) := by
  rcases h with rfl | ⟨c, rfl, hc⟩
  · exact Goes.need (f := fun _ => .setn k) (fun _ => rfl) rfl l
  · cases l with
    | nil => exact .inr ⟨[], [], _, rfl, rfl, rfl, .inl rfl, rfl⟩
    | cons t r =>
      have hst : gstep (.after k c) t = (setP t).map fun _ => .setn k := by rw [gstep, if_neg (show ¬ (c ≠ 0 ∧ andB t = true) from hc)]
      cases hp : setP t with
      | none =>
        refine .inr ⟨[], t :: r, _, ?_, rfl, rfl, .inr ⟨t, r, rfl, ?_⟩, rfl⟩
        · rw [need, hp]
        · rw [hst, hp]; rfl
      | some a =>
        refine .inl ⟨a, r, [t], .setn k, ?_, rfl, ?_, rfl⟩
        · rw [need, hp]
        · exact runS_one (by rw [hst, hp]; rfl)
/- a line: from the start; where the line does not begin as it should, the machine is stuck at the start -/
theorem line_goes (k : Nat) (t : Tok) (q : List Tok) :
    (∃ x r pre, pLine (t :: q) = .ok (x, r) ∧ t :: q = pre ++ r ∧ pre ≠ [] ∧ runS (.start (k + 1)) pre = some (.start k)) ∨
    (∃ pre e s', pLine (t :: q) = .error e ∧ t :: q = pre ++ e ∧ runS (.start (k + 1)) pre = some s' ∧ GStuck s' e ∧ (e = [] → gStart s' = false)) := by
  cases hp : startP t with
  | none =>
    refine .inr ⟨[], t :: q, _, ?_, rfl, rfl, .inr ⟨t, q, rfl, ?_⟩, fun h => by cases h⟩
    · rw [pLine, need, hp]; rfl
    · rw [gstep, hp]; rfl
  | some w =>
    have hst : gstep (.start (k + 1)) t = some (if w then .var k 3 else .set k) := by rw [gstep, hp]; rfl
    have hl : pLine (t :: q) = andThen (if w then pConds 4 q else .ok ([], q)) fun cs r =>
        andThen (need setP r) fun _ r => andThen (need numP r) fun n r => andThen (need semiP r) fun _ r => .ok (⟨cs, n⟩, r) := by
      rw [pLine, need, hp]; rfl
    have hb : Goes (if w then .var k 3 else .set k) q (if w then pConds 4 q else .ok ([], q)) (fun _ r s' => AsSet k r s') := by
      cases w
      · exact Goes.ok (.inl rfl)
      · exact conds_goes k 3 q
    have hg : Goes (if w then .var k 3 else .set k) q (pLine (t :: q)) (fun _ _ s' => s' = .start k) := by
      rw [hl]
      refine hb.andThen fun cs r s' h => ?_
      refine (set_goes k r s' h).andThen fun _ r s' h => ?_
      subst h
      refine (Goes.need (f := fun _ => .semi k) (fun _ => rfl) rfl r).andThen fun n r s' h => ?_
      subst h
      refine (Goes.need (f := fun _ => .start k) (fun _ => rfl) rfl r).andThen fun _ r s' h => ?_
      exact Goes.ok h
    rcases hg with ⟨a, r, pre, s', e1, e2, e3, rfl⟩ | ⟨pre, e, s', e1, e2, e3, e4, e5⟩
    · exact .inl ⟨a, r, t :: pre, e1, by rw [e2]; rfl, by simp, by rw [runS, hst]; exact e3⟩
    · exact .inr ⟨t :: pre, e, s', e1, by rw [e2]; rfl, by rw [runS, hst]; exact e3, e4, fun _ => e5⟩
theorem lines_goes : ∀ (k : Nat) (l : List Tok),
    (∃ ls k', pLines k l = .ok ls ∧ runS (.start k) l = some (.start k')) ∨
    (∃ pre e s', pLines k l = .error e ∧ l = pre ++ e ∧ runS (.start k) pre = some s' ∧ GStuck s' e ∧ (e = [] → gStart s' = false))
  | _, [] => .inl ⟨[], _, by rw [pLines], rfl⟩
  | 0, t :: r => .inr ⟨[], t :: r, _, by rw [pLines], rfl, rfl, .inr ⟨t, r, rfl, rfl⟩, fun h => by cases h⟩
  | k + 1, t :: r => by
    rcases line_goes k t r with ⟨x, q, pre, e1, e2, e3, e4⟩ | ⟨pre, e, s', e1, e2, e3, e4, e5⟩
    · rcases lines_goes k q with ⟨ls, k', h1, h2⟩ | ⟨pre2, e, s', h1, h2, h3, h4, h5⟩
      · exact .inl ⟨x :: ls, k', by rw [pLines, e1]; simp only [h1], by rw [e2, runS_append _ _ _ _ e4]; exact h2⟩
      · exact .inr ⟨pre ++ pre2, e, s', by rw [pLines, e1]; simp only [h1], by rw [e2, h2, List.append_assoc], by rw [runS_append _ _ _ _ e4]; exact h3, h4, h5⟩
    · exact .inr ⟨pre, e, s', by rw [pLines, e1], e2, e3, e4, e5⟩
/- what the machine takes whole is read; and the other way round -/
theorem lines_of_run {k k' : Nat} {l : List Tok} (h : runS (.start k) l = some (.start k')) : ∃ ls, pLines k l = .ok ls := by
  rcases lines_goes k l with ⟨ls, _, h1, _⟩ | ⟨pre, e, s', h1, rfl, h3, h4, h5⟩
  · exact ⟨ls, h1⟩
  · exfalso
    rw [runS_append _ _ _ _ h3] at h
    rcases h4 with rfl | ⟨t, q, rfl, hs⟩
    · have := h5 rfl
      simp only [runS, Option.some.injEq] at h
      subst h; cases this
    · rw [runS_stop _ hs] at h; cases h
theorem run_of_lines {k : Nat} {l : List Tok} {ls : List Ln} (h : pLines k l = .ok ls) : ∃ k', runS (.start k) l = some (.start k') := by
  rcases lines_goes k l with ⟨_, k', _, h2⟩ | ⟨pre, e, s', h1, _⟩
  · exact ⟨k', h2⟩
  · rw [h] at h1; cases h1
/- where the reader stops, no text that goes on with the token there is read -/
theorem lines_stop {k : Nat} {l e : List Tok} (h : pLines k l = .error e) : ∃ pre s', l = pre ++ e ∧ runS (.start k) pre = some s' ∧ ∀ t q, e = t :: q → ∀ m, ∃ e', pLines k (pre ++ t :: m) = .error e' := by
  rcases lines_goes k l with ⟨_, _, h1, _⟩ | ⟨pre, e', s', h1, h2, h3, h4, h5⟩
  · rw [h] at h1; cases h1
  · rw [h] at h1
    cases h1
    refine ⟨pre, s', h2, h3, fun t q he m => ?_⟩
    subst he
    rcases h4 with h4 | ⟨t', q', he, hs⟩
    · cases h4
    · cases he
      cases hp : pLines k (pre ++ t :: m) with
      | error e' => exact ⟨e', rfl⟩
      | ok ls =>
        obtain ⟨k', hr⟩ := run_of_lines hp
        rw [runS_append _ _ _ _ h3, runS_stop _ hs] at hr
        cases hr

/- the texts that complete -/
def wZero : Tok := tokN 0
def endsT : List (List Tok) :=
  [[], [tokW wSet, wZero, tokS], [wZero, tokS], [tokS], [tokW wLevel, tokW wIs, wZero, tokW wSet, wZero, tokS], [tokW wIs, wZero, tokW wSet, wZero, tokS], [wZero, tokW wSet, wZero, tokS]]
theorem complete (s : GSt) : ∃ e ∈ endsT, ∃ k', runS s e = some (.start k') := by
  cases s with
  | start k => exact ⟨[], by simp [endsT], k, rfl⟩
  | var k c => exact ⟨[tokW wLevel, tokW wIs, wZero, tokW wSet, wZero, tokS], by simp [endsT], k, by simp [runS, gstep, show varP (tokW wLevel) = some 0 from rfl, show opP (tokW wIs) = some 3 from rfl, show numP wZero = some 0 from rfl, show andB (tokW wSet) = false from rfl, show setP (tokW wSet) = some () from rfl, show semiP tokS = some () from rfl]⟩
  | op k c => exact ⟨[tokW wIs, wZero, tokW wSet, wZero, tokS], by simp [endsT], k, by simp [runS, gstep, show opP (tokW wIs) = some 3 from rfl, show numP wZero = some 0 from rfl, show andB (tokW wSet) = false from rfl, show setP (tokW wSet) = some () from rfl, show semiP tokS = some () from rfl]⟩
  | num k c => exact ⟨[wZero, tokW wSet, wZero, tokS], by simp [endsT], k, by simp [runS, gstep, show numP wZero = some 0 from rfl, show andB (tokW wSet) = false from rfl, show setP (tokW wSet) = some () from rfl, show semiP tokS = some () from rfl]⟩
  | after k c => exact ⟨[tokW wSet, wZero, tokS], by simp [endsT], k, by simp [runS, gstep, show numP wZero = some 0 from rfl, show andB (tokW wSet) = false from rfl, show setP (tokW wSet) = some () from rfl, show semiP tokS = some () from rfl]⟩
  | set k => exact ⟨[tokW wSet, wZero, tokS], by simp [endsT], k, by simp [runS, gstep, show numP wZero = some 0 from rfl, show setP (tokW wSet) = some () from rfl, show semiP tokS = some () from rfl]⟩
  | setn k => exact ⟨[wZero, tokS], by simp [endsT], k, by simp [runS, gstep, show numP wZero = some 0 from rfl, show semiP tokS = some () from rfl]⟩
  | semi k => exact ⟨[tokS], by simp [endsT], k, by simp [runS, gstep, show semiP tokS = some () from rfl]⟩

end Go.Proofs.YtlaifodlnolndaaGreatDoor

/- Plain laws of writing gate programs: what is written is read as the same program; what is read is valid. -/
namespace Go.Proofs.YtlaifodlnolndaaGreatDoor
open Go.RowKit

/- the words -/
theorem var_cases {v : Int} (h0 : 0 ≤ v) (h1 : v ≤ 4) : v = 0 ∨ v = 1 ∨ v = 2 ∨ v = 3 ∨ v = 4 := by omega
theorem op_cases {v : Int} (h0 : 1 ≤ v) (h1 : v ≤ 5) : v = 1 ∨ v = 2 ∨ v = 3 ∨ v = 4 ∨ v = 5 := by omega
theorem varP_tok {v : Int} (h0 : 0 ≤ v) (h1 : v ≤ 4) : varP (tokW (varsW.getD v.toNat [])) = some v := by
  rcases var_cases h0 h1 with rfl | rfl | rfl | rfl | rfl <;> rfl
theorem opP_tok {v : Int} (h0 : 1 ≤ v) (h1 : v ≤ 5) : opP (tokW (opsW.getD (v - 1).toNat [])) = some v := by
  rcases op_cases h0 h1 with rfl | rfl | rfl | rfl | rfl <;> rfl
theorem valid_var {v : Int} (h0 : 0 ≤ v) (h1 : v ≤ 4) : validB (tokW (varsW.getD v.toNat [])) = true := by
  rcases var_cases h0 h1 with rfl | rfl | rfl | rfl | rfl <;> decide +kernel
theorem valid_op {v : Int} (h0 : 1 ≤ v) (h1 : v ≤ 5) : validB (tokW (opsW.getD (v - 1).toNat [])) = true := by
  rcases op_cases h0 h1 with rfl | rfl | rfl | rfl | rfl <;> decide +kernel
theorem inNum_le {n : Int} (h : inNum n = true) : 0 ≤ n ∧ n ≤ 1099511627776 := by simpa [inNum] using h
theorem valid_num {n : Int} (h : inNum n = true) : validB (tokN n) = true := by
  obtain ⟨h0, h1⟩ := inNum_le h
  unfold tokN
  rw [valid_number (by rfl) (by rfl)]
  simp [h0, h1, mk]
theorem okCd_parts {c : Cd} (h : okCd c = true) : (0 ≤ c.v ∧ c.v ≤ 4) ∧ (1 ≤ c.op ∧ c.op ≤ 5) ∧ inNum c.n = true := by
  simp only [okCd, Bool.and_eq_true, decide_eq_true_eq] at h
  exact ⟨h.1, h.2.1, h.2.2⟩
theorem okLn_parts {x : Ln} (h : okLn x = true) : x.conds.length ≤ 4 ∧ inNum x.set = true ∧ ∀ c ∈ x.conds, okCd c = true := by
  simp only [okLn, Bool.and_eq_true, decide_eq_true_eq, List.all_eq_true] at h
  exact ⟨h.1.1, h.1.2, h.2⟩
theorem okC_parts {ls : List Ln} (h : okC ls = true) : ls.length ≤ 64 ∧ ∀ x ∈ ls, okLn x = true := by
  simp only [okC, Bool.and_eq_true, decide_eq_true_eq, List.all_eq_true] at h
  exact h

def bodyT (c : Cd) : List Tok := [tokW (varsW.getD c.v.toNat []), tokW (opsW.getD (c.op - 1).toNat []), tokN c.n]
theorem condToks_eq (b : Bool) (c : Cd) : condToks b c = tokW (if b then wWhen else wAnd) :: bodyT c := rfl
theorem pCond_body {c : Cd} (h : okCd c = true) (q : List Tok) : pCond (bodyT c ++ q) = .ok (c, q) := by
  obtain ⟨⟨a0, a1⟩, ⟨b0, b1⟩, hn⟩ := okCd_parts h
  simp only [bodyT, pCond, List.cons_append, List.nil_append, need, varP_tok a0 a1, opP_tok b0 b1, andThen]
  rfl
theorem pConds_body : ∀ (r : List Cd) (c : Cd) (k : Nat), r.length ≤ k → okCd c = true → (∀ x ∈ r, okCd x = true) → ∀ q, headIs andB q = false →
    pConds (k + 1) (bodyT c ++ (r.flatMap (condToks false) ++ q)) = .ok (c :: r, q)
  | [], c, k, hk, hc, hr, q, hq => by
    rw [pConds, pCond_body hc]
    simp only [andThen, List.flatMap_nil, List.nil_append]
    rw [if_neg (by rw [hq]; simp)]
  | d :: r, c, k, hk, hc, hr, q, hq => by
    rw [pConds, pCond_body hc]
    have hk' : r.length + 1 ≤ k := by simpa using hk
    obtain ⟨k', rfl⟩ : ∃ k', k = k' + 1 := ⟨k - 1, by omega⟩
    have hh : (d :: r).flatMap (condToks false) ++ q = tokW wAnd :: (bodyT d ++ (r.flatMap (condToks false) ++ q)) := by
      rw [List.flatMap_cons, condToks_eq]; simp
    rw [hh]
    simp only [andThen]
    rw [if_pos ⟨by omega, by rfl⟩, List.tail_cons, pConds_body r d k' (by omega) (hr d (by simp)) (fun x hx => hr x (by simp [hx])) q hq]
theorem pLine_toks {x : Ln} (h : okLn x = true) (q : List Tok) : pLine (lineToks x ++ q) = .ok (x, q) := by
  obtain ⟨h4, hs, hc⟩ := okLn_parts h
  obtain ⟨cs, n⟩ := x
  cases cs with
  | nil =>
    show pLine (tokW wAlways :: tokW wSet :: tokN n :: tokS :: q) = _
    simp only [pLine, need, show startP (tokW wAlways) = some false from rfl, andThen]
    rfl
  | cons c r =>
    have e : lineToks ⟨c :: r, n⟩ ++ q = tokW wWhen :: (bodyT c ++ (r.flatMap (condToks false) ++ (tokW wSet :: tokN n :: tokS :: q))) := by
      simp only [lineToks, condsToks, condToks_eq]; simp
    rw [e]
    simp only [List.length_cons] at h4
    have hb := pConds_body r c 3 (by omega) (hc c (by simp)) (fun x hx => hc x (by simp [hx])) (tokW wSet :: tokN n :: tokS :: q) rfl
    simp only [pLine, need, show startP (tokW wWhen) = some true from rfl, andThen, if_true, hb, show setP (tokW wSet) = some () from rfl, show numP (tokN n) = some n from rfl, show semiP tokS = some () from rfl]
theorem lineToks_cons (x : Ln) : ∃ t r, lineToks x = t :: r := by
  obtain ⟨cs, n⟩ := x
  cases cs with
  | nil => exact ⟨_, _, rfl⟩
  | cons c r => exact ⟨_, _, rfl⟩
theorem pLines_toks : ∀ (ls : List Ln) (k : Nat), ls.length ≤ k → (∀ x ∈ ls, okLn x = true) → pLines k (ls.flatMap lineToks) = .ok ls
  | [], k, _, _ => by rw [List.flatMap_nil, pLines]
  | x :: r, k, hk, hx => by
    have hk' : r.length + 1 ≤ k := by simpa using hk
    obtain ⟨k', rfl⟩ : ∃ k', k = k' + 1 := ⟨k - 1, by omega⟩
    rw [List.flatMap_cons]
    have hp := pLine_toks (hx x (by simp)) (r.flatMap lineToks)
    obtain ⟨t, q, e⟩ := lineToks_cons x
    rw [e] at hp ⊢
    rw [List.cons_append] at hp ⊢
    rw [pLines, hp]
    simp only [pLines_toks r k' (by omega) (fun y hy => hx y (by simp [hy]))]

/- tokens that are equal but for their places are read alike -/
def Tok.bare (t : Tok) : Tok := { t with at_ := 0 }
theorem same_bare {a b : Tok} (h : sameT a b = true) : a.bare = b.bare := by
  obtain ⟨k, ⟨⟨x⟩⟩, n, p⟩ := a
  obtain ⟨k', ⟨⟨x'⟩⟩, n', p'⟩ := b
  simp only [sameT, Bool.and_eq_true, beq_iff_eq] at h
  obtain ⟨rfl, rfl, rfl⟩ := h
  rfl
theorem sameB_bare : ∀ {a b : List Tok}, sameB a b = true → a.map Tok.bare = b.map Tok.bare
  | [], [], _ => rfl
  | [], _ :: _, h => by cases h
  | _ :: _, [], h => by cases h
  | a :: r, b :: q, h => by
    simp only [sameB, Bool.and_eq_true] at h
    rw [List.map_cons, List.map_cons, same_bare h.1, sameB_bare h.2]
def bareR {α : Type} : Res α → Res α
  | .ok (a, r) => .ok (a, r.map Tok.bare)
  | .error e => .error (e.map Tok.bare)
theorem need_bare {α : Type} {p : Tok → Option α} (hp : ∀ t, p t.bare = p t) (l : List Tok) : need p (l.map Tok.bare) = bareR (need p l) := by
  cases l with
  | nil => rfl
  | cons t r =>
    rw [List.map_cons, need, need, hp]
    cases p t <;> rfl
theorem andThen_bare {α β : Type} {x : Res α} {f g : α → List Tok → Res β} (h : ∀ a r, f a (r.map Tok.bare) = bareR (g a r)) : andThen (bareR x) f = bareR (andThen x g) := by
  cases x with
  | error e => rfl
  | ok y => exact h y.1 y.2
theorem pCond_bare (l : List Tok) : pCond (l.map Tok.bare) = bareR (pCond l) := by
  unfold pCond
  rw [need_bare (fun _ => rfl)]
  refine andThen_bare fun v r => ?_
  rw [need_bare (fun _ => rfl)]
  refine andThen_bare fun o r => ?_
  rw [need_bare (fun _ => rfl)]
  exact andThen_bare fun n r => rfl
theorem headIs_bare (l : List Tok) : headIs andB (l.map Tok.bare) = headIs andB l := by cases l <;> rfl
theorem pConds_bare : ∀ (k : Nat) (l : List Tok), pConds k (l.map Tok.bare) = bareR (pConds k l)
  | 0, l => rfl
  | k + 1, l => by
    rw [pConds, pConds, pCond_bare]
    refine andThen_bare fun c r => ?_
    rw [headIs_bare]
    by_cases h : k ≠ 0 ∧ headIs andB r = true
    · rw [if_pos h, if_pos h, ← List.map_tail, pConds_bare k]
      exact andThen_bare fun cs r => rfl
    · rw [if_neg h, if_neg h]; rfl
theorem pLine_bare (l : List Tok) : pLine (l.map Tok.bare) = bareR (pLine l) := by
  unfold pLine
  rw [need_bare (fun _ => rfl)]
  refine andThen_bare fun w r => ?_
  have h : (if w then pConds 4 (r.map Tok.bare) else .ok ([], r.map Tok.bare)) = bareR (if w then pConds 4 r else .ok ([], r)) := by
    cases w
    · rfl
    · exact pConds_bare 4 r
  rw [h]
  refine andThen_bare fun cs r => ?_
  rw [need_bare (fun _ => rfl)]
  refine andThen_bare fun _ r => ?_
  rw [need_bare (fun _ => rfl)]
  refine andThen_bare fun n r => ?_
  rw [need_bare (fun _ => rfl)]
  exact andThen_bare fun _ r => rfl
def bareE : Except (List Tok) (List Ln) → Except (List Tok) (List Ln)
  | .ok ls => .ok ls
  | .error e => .error (e.map Tok.bare)
theorem pLines_bare : ∀ (k : Nat) (l : List Tok), pLines k (l.map Tok.bare) = bareE (pLines k l)
  | _, [] => by rw [List.map_nil, pLines]; rfl
  | 0, t :: r => by rw [List.map_cons, pLines, pLines]; rfl
  | k + 1, t :: r => by
    have h := pLine_bare (t :: r)
    rw [List.map_cons] at h ⊢
    rw [pLines, pLines, h]
    cases pLine (t :: r) with
    | error e => rfl
    | ok y =>
      obtain ⟨x, q⟩ := y
      simp only [bareR]
      rw [pLines_bare k q]
      cases pLines k q <;> rfl
theorem lines_same {a b : List Tok} (h : sameB a b = true) (k : Nat) : bareE (pLines k a) = bareE (pLines k b) := by
  rw [← pLines_bare, ← pLines_bare, sameB_bare h]
theorem lines_same_ok {a b : List Tok} (h : sameB a b = true) {k : Nat} {ls : List Ln} (ha : pLines k a = .ok ls) : pLines k b = .ok ls := by
  have := lines_same h k
  rw [ha] at this
  cases hb : pLines k b with
  | ok m => rw [hb] at this; simp only [bareE, Except.ok.injEq] at this; rw [this]
  | error e => rw [hb] at this; simp [bareE] at this
theorem lines_same_err {a b : List Tok} (h : sameB a b = true) {k : Nat} {e : List Tok} (ha : pLines k a = .error e) : ∃ e', pLines k b = .error e' := by
  have := lines_same h k
  rw [ha] at this
  cases hb : pLines k b with
  | ok m => rw [hb] at this; simp [bareE] at this
  | error e => exact ⟨e, rfl⟩

/- what is written, as tokens, and as bytes -/
theorem lineToks_valid {x : Ln} (h : okLn x = true) : (lineToks x).all validB = true := by
  obtain ⟨h4, hs, hc⟩ := okLn_parts h
  have hb : ∀ c ∈ x.conds, ∀ t ∈ bodyT c, validB t = true := by
    intro c hcm t ht
    obtain ⟨⟨a0, a1⟩, ⟨b0, b1⟩, hn⟩ := okCd_parts (hc c hcm)
    simp only [bodyT, List.mem_cons, List.not_mem_nil, or_false] at ht
    rcases ht with rfl | rfl | rfl
    · exact valid_var a0 a1
    · exact valid_op b0 b1
    · exact valid_num hn
  have hw : ∀ c ∈ x.conds, ∀ b, ∀ t ∈ condToks b c, validB t = true := by
    intro c hcm b t ht
    rw [condToks_eq] at ht
    rcases List.mem_cons.1 ht with rfl | ht
    · cases b <;> decide +kernel
    · exact hb c hcm t ht
  rw [List.all_eq_true]
  intro t ht
  simp only [lineToks, List.mem_append] at ht
  rcases ht with ht | ht
  · obtain ⟨cs, n⟩ := x
    cases cs with
    | nil => simp only [condsToks, List.mem_singleton] at ht; subst ht; decide +kernel
    | cons c r =>
      simp only [condsToks, List.mem_append, List.mem_flatMap] at ht
      rcases ht with ht | ⟨d, hd, ht⟩
      · exact hw c (by simp) _ t ht
      · exact hw d (by simp [hd]) _ t ht
  · simp only [List.mem_cons, List.not_mem_nil, or_false] at ht
    rcases ht with rfl | rfl | rfl
    · decide +kernel
    · exact valid_num hs
    · decide +kernel
theorem same_app : ∀ {a b c d : List Tok}, sameB a b = true → sameB c d = true → sameB (a ++ c) (b ++ d) = true
  | [], [], _, _, _, h => h
  | [], _ :: _, _, _, h, _ => by cases h
  | _ :: _, [], _, _, h, _ => by cases h
  | a :: r, b :: q, c, d, h, h' => by
    simp only [sameB, Bool.and_eq_true] at h
    simp only [List.cons_append, sameB, Bool.and_eq_true]
    exact ⟨h.1, same_app h.2 h'⟩
theorem scan_print : ∀ (ls : List Ln) (i : Nat), (∀ x ∈ ls, okLn x = true) → ∃ ms, scan (printC ls) i = .ok ms ∧ sameB (ls.flatMap lineToks) ms = true
  | [], i, _ => ⟨[], scan_nil i, rfl⟩
  | x :: r, i, h => by
    obtain ⟨m1, h1, s1⟩ := scan_join (lineToks x) i (lineToks_valid (h x (by simp)))
    obtain ⟨m2, h2, s2⟩ := scan_print r (i + (joinW (lineToks x)).length + 1) (fun y hy => h y (by simp [hy]))
    refine ⟨m1 ++ m2, ?_, ?_⟩
    · show scan ((x :: r).flatMap printLn) i = _
      rw [List.flatMap_cons, printLn, List.append_assoc, List.singleton_append, scan_ok_append _ _ _ _ h1]
      show preT m1 (scan (printC r) _) = _
      rw [h2]; rfl
    · rw [List.flatMap_cons]
      exact same_app s1 s2
/-- What is written is read as the same program. -/
theorem print_back {ls : List Ln} (h : okC ls = true) : ∃ ms, scan (printC ls) 0 = .ok ms ∧ pLines 64 ms = .ok ls := by
  obtain ⟨h64, hx⟩ := okC_parts h
  obtain ⟨ms, h1, h2⟩ := scan_print ls 0 hx
  exact ⟨ms, h1, lines_same_ok h2 (pLines_toks ls 64 h64 hx)⟩

/- what is read is valid -/
theorem need_ok {α : Type} {p : Tok → Option α} {l r : List Tok} {a : α} (h : need p l = .ok (a, r)) : ∃ t, l = t :: r ∧ p t = some a := by
  cases l with
  | nil => cases h
  | cons t q =>
    rw [need] at h
    cases hp : p t with
    | none => rw [hp] at h; cases h
    | some b => rw [hp] at h; cases h; exact ⟨t, rfl, hp⟩
theorem andThen_ok {α β : Type} {x : Res α} {f : α → List Tok → Res β} {b : β} {r : List Tok} (h : andThen x f = .ok (b, r)) : ∃ a q, x = .ok (a, q) ∧ f a q = .ok (b, r) := by
  cases x with
  | error e => cases h
  | ok y => exact ⟨y.1, y.2, rfl, h⟩
theorem idxW_lt {ws : List (List UInt8)} {s : List UInt8} {k : Nat} (h : idxW ws s = some k) : k < ws.length := (List.findIdx?_eq_some_iff_getElem.1 h).1
theorem varP_in {t : Tok} {v : Int} (h : varP t = some v) : 0 ≤ v ∧ v ≤ 4 := by
  unfold varP at h
  split at h
  · cases hi : idxW varsW t.text.data.toList with
    | none => rw [hi] at h; cases h
    | some k =>
      rw [hi] at h
      have := idxW_lt hi
      have e : varsW.length = 5 := rfl
      simp only [Option.map_some, Option.some.injEq] at h
      omega
  · cases h
theorem opP_in {t : Tok} {v : Int} (h : opP t = some v) : 1 ≤ v ∧ v ≤ 5 := by
  unfold opP at h
  split at h
  · cases hi : idxW opsW t.text.data.toList with
    | none => rw [hi] at h; cases h
    | some k =>
      rw [hi] at h
      have := idxW_lt hi
      have e : opsW.length = 5 := rfl
      simp only [Option.map_some, Option.some.injEq] at h
      omega
  · cases h
theorem numP_in {t : Tok} (hv : validB t = true) {v : Int} (h : numP t = some v) : inNum v = true := by
  unfold numP at h
  split at h
  · rename_i hk
    have hk : t.kind = 2 := by simpa using hk
    rcases valid_cases hv with ⟨h1, _⟩ | ⟨_, _, h3, h4⟩ | ⟨h1, _⟩
    · omega
    · cases h; simp [inNum, h3, h4]
    · omega
  · cases h
theorem pCond_ok {l r : List Tok} {c : Cd} (hv : l.all validB = true) (h : pCond l = .ok (c, r)) : okCd c = true ∧ r.all validB = true := by
  unfold pCond at h
  obtain ⟨v, q, h1, ha⟩ := andThen_ok h
  clear h
  obtain ⟨o, q2, h2, hb⟩ := andThen_ok ha
  clear ha
  obtain ⟨n, q3, h3, hc⟩ := andThen_ok hb
  clear hb
  obtain ⟨t1, rfl, p1⟩ := need_ok h1
  obtain ⟨t2, rfl, p2⟩ := need_ok h2
  obtain ⟨t3, rfl, p3⟩ := need_ok h3
  simp only [Except.ok.injEq, Prod.mk.injEq] at hc
  obtain ⟨rfl, rfl⟩ := hc
  simp only [List.all_cons, Bool.and_eq_true] at hv
  obtain ⟨_, _, v3, vr⟩ := hv
  have a := varP_in p1
  have b := opP_in p2
  have c := numP_in v3 p3
  exact ⟨by simp [okCd, a, b, c], vr⟩
theorem pConds_ok : ∀ (k : Nat) {l r : List Tok} {cs : List Cd}, l.all validB = true → pConds k l = .ok (cs, r) → cs.length ≤ k ∧ (∀ c ∈ cs, okCd c = true) ∧ r.all validB = true
  | 0, l, r, cs, hv, h => by
    simp only [pConds, Except.ok.injEq, Prod.mk.injEq] at h
    obtain ⟨rfl, rfl⟩ := h
    exact ⟨Nat.le_refl _, by simp, hv⟩
  | k + 1, l, r, cs, hv, h => by
    rw [pConds] at h
    obtain ⟨c, q, h1, h⟩ := andThen_ok h
    obtain ⟨hc, hq⟩ := pCond_ok hv h1
    by_cases hh : k ≠ 0 ∧ headIs andB q = true
    · rw [if_pos hh] at h
      obtain ⟨ds, q2, h2, h⟩ := andThen_ok h
      simp only [Except.ok.injEq, Prod.mk.injEq] at h
      obtain ⟨rfl, rfl⟩ := h
      have hq' : q.tail.all validB = true := by
        cases q with
        | nil => rfl
        | cons t m => simp only [List.all_cons, Bool.and_eq_true] at hq; exact hq.2
      obtain ⟨g1, g2, g3⟩ := pConds_ok k hq' h2
      refine ⟨by simp; omega, fun x hx => ?_, g3⟩
      rcases List.mem_cons.1 hx with rfl | hx
      · exact hc
      · exact g2 x hx
    · rw [if_neg hh] at h
      simp only [Except.ok.injEq, Prod.mk.injEq] at h
      obtain ⟨rfl, rfl⟩ := h
      exact ⟨by simp, by simpa using hc, hq⟩
theorem pLine_ok {l r : List Tok} {x : Ln} (hv : l.all validB = true) (h : pLine l = .ok (x, r)) : okLn x = true ∧ r.all validB = true := by
  unfold pLine at h
  obtain ⟨w, q, h1, ha⟩ := andThen_ok h
  clear h
  obtain ⟨t1, rfl, p1⟩ := need_ok h1
  simp only [List.all_cons, Bool.and_eq_true] at hv
  obtain ⟨cs, q2, h2, hb⟩ := andThen_ok ha
  clear ha
  have hcs : cs.length ≤ 4 ∧ (∀ c ∈ cs, okCd c = true) ∧ q2.all validB = true := by
    cases w
    · simp only [Bool.false_eq_true, if_false, Except.ok.injEq, Prod.mk.injEq] at h2
      obtain ⟨rfl, rfl⟩ := h2
      exact ⟨by simp, by simp, hv.2⟩
    · exact pConds_ok 4 hv.2 h2
  clear h2
  obtain ⟨_, q3, h3, hc⟩ := andThen_ok hb
  clear hb
  obtain ⟨n, q4, h4, hd⟩ := andThen_ok hc
  clear hc
  obtain ⟨_, q5, h5, he⟩ := andThen_ok hd
  clear hd
  obtain ⟨t3, rfl, p3⟩ := need_ok h3
  obtain ⟨t4, rfl, p4⟩ := need_ok h4
  obtain ⟨t5, rfl, p5⟩ := need_ok h5
  simp only [Except.ok.injEq, Prod.mk.injEq] at he
  obtain ⟨rfl, rfl⟩ := he
  obtain ⟨c1, c2, c3⟩ := hcs
  simp only [List.all_cons, Bool.and_eq_true] at c3
  obtain ⟨_, v4, _, vr⟩ := c3
  have hn := numP_in v4 p4
  refine ⟨?_, vr⟩
  simp only [okLn, hn, Bool.and_true, Bool.and_eq_true, decide_eq_true_eq, List.all_eq_true]
  exact ⟨c1, c2⟩
theorem pLines_ok : ∀ (k : Nat) {l : List Tok} {ls : List Ln}, l.all validB = true → pLines k l = .ok ls → ls.length ≤ k ∧ ∀ x ∈ ls, okLn x = true
  | _, [], ls, _, h => by
    rw [pLines] at h
    simp only [Except.ok.injEq] at h
    subst h
    exact ⟨Nat.zero_le _, by simp⟩
  | 0, t :: r, ls, _, h => by rw [pLines] at h; cases h
  | k + 1, t :: r, ls, hv, h => by
    rw [pLines] at h
    cases hp : pLine (t :: r) with
    | error e => rw [hp] at h; cases h
    | ok y =>
      obtain ⟨x, q⟩ := y
      rw [hp] at h
      obtain ⟨hx, hq⟩ := pLine_ok hv hp
      simp only at h
      cases hm : pLines k q with
      | error e => rw [hm] at h; cases h
      | ok ms =>
        rw [hm] at h
        simp only [Except.ok.injEq] at h
        subst h
        obtain ⟨g1, g2⟩ := pLines_ok k hq hm
        refine ⟨by simp; omega, fun y hy => ?_⟩
        rcases List.mem_cons.1 hy with rfl | hy
        · exact hx
        · exact g2 y hy
theorem read_valid {l : List Tok} {ls : List Ln} (hv : l.all validB = true) (h : pLines 64 l = .ok ls) : okC ls = true := by
  obtain ⟨h1, h2⟩ := pLines_ok 64 hv h
  simp only [okC, Bool.and_eq_true, decide_eq_true_eq, List.all_eq_true]
  exact ⟨h1, h2⟩

/- the two programs one after the other -/
theorem runC_append (vs : List Int) : ∀ a b : List Ln, runC vs (a ++ b) = match runC vs a with
    | some n => some n
    | none => runC vs b
  | [], b => rfl
  | x :: r, b => by
    rw [List.cons_append, runC, runC]
    by_cases h : x.conds.all (holdsCd vs) = true
    · rw [if_pos h, if_pos h]
    · rw [if_neg h, if_neg h]; exact runC_append vs r b
theorem printC_append (a b : List Ln) : printC (a ++ b) = printC a ++ printC b := List.flatMap_append
theorem okC_append {a b : List Ln} (ha : okC a = true) (hb : okC b = true) (h : a.length + b.length ≤ 64) : okC (a ++ b) = true := by
  have h1 := (okC_parts ha).2
  have h2 := (okC_parts hb).2
  simp only [okC, Bool.and_eq_true, decide_eq_true_eq, List.all_eq_true, List.length_append]
  refine ⟨h, fun x hx => ?_⟩
  rcases List.mem_append.1 hx with hx | hx
  · exact h1 x hx
  · exact h2 x hx

end Go.Proofs.YtlaifodlnolndaaGreatDoor

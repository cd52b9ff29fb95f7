/- PROVED HERE, in plain Lean with no program in sight: laws of 'scan' (what Lex computes): one step of it, what may follow, shifts, cuts, words. No condition. -/
import Derived.Test.YtkfbhegniobecaaDoorW
namespace Go.Proofs.YtkfbhegniobecaaDoor
open Go.RowKit Lib

/- one step of the scanner at a list that is not empty -/
inductive Step where
  | skip (n : Nat)
  | tok (n : Nat) (kd : Int) (tx : List UInt8) (v : Int)
  | bad
def stepL : List UInt8 → Step
  | [] => .skip 0
  | c :: r =>
    if spaceB c then .skip 1
    else if c = 47 ∧ r.head? = some 47 then .skip ((c :: r).takeWhile notLf).length
    else if letterB c then
      if nameB ((c :: r).takeWhile partB) then .tok ((c :: r).takeWhile partB).length 1 ((c :: r).takeWhile partB) 0 else .bad
    else if digitB c then
      if (refNumber ((c :: r).takeWhile digitB)).2 then .tok ((c :: r).takeWhile digitB).length 2 [] (refNumber ((c :: r).takeWhile digitB)).1 else .bad
    else if signB c then .tok 1 3 [c] 0
    else .bad

theorem stepL_cons (c : UInt8) (r : List UInt8) : stepL (c :: r) =
    (if spaceB c then .skip 1
    else if c = 47 ∧ r.head? = some 47 then .skip ((c :: r).takeWhile notLf).length
    else if letterB c then
      if nameB ((c :: r).takeWhile partB) then .tok ((c :: r).takeWhile partB).length 1 ((c :: r).takeWhile partB) 0 else .bad
    else if digitB c then
      if (refNumber ((c :: r).takeWhile digitB)).2 then .tok ((c :: r).takeWhile digitB).length 2 [] (refNumber ((c :: r).takeWhile digitB)).1 else .bad
    else if signB c then .tok 1 3 [c] 0
    else .bad) := rfl
theorem scan_stepL (c : UInt8) (r : List UInt8) (i : Nat) : scan (c :: r) i = match stepL (c :: r) with
    | .skip n => scan ((c :: r).drop n) (i + n)
    | .tok n kd tx v => preT [⟨kd, mk tx, v, i⟩] (scan ((c :: r).drop n) (i + n))
    | .bad => .error i := by
  rw [stepL_cons]
  by_cases h0 : spaceB c = true
  · rw [scan_space i h0]; simp [h0]
  · have h0' : spaceB c = false := by simpa using h0
    by_cases h1 : c = 47 ∧ r.head? = some 47
    · rw [scan_note i h0' h1]; simp only [h0', Bool.false_eq_true, if_false]; rw [if_pos h1]
    · by_cases h2 : letterB c = true
      · rw [scan_name i h0' h1 h2]; simp only [h0', Bool.false_eq_true, if_false]; rw [if_neg h1, if_pos h2]
        split <;> rfl
      · have h2' : letterB c = false := by simpa using h2
        by_cases h3 : digitB c = true
        · rw [scan_number i h0' h1 h2' h3]; simp only [h0', h2', Bool.false_eq_true, if_false]; rw [if_neg h1, if_pos h3]
          split <;> rfl
        · have h3' : digitB c = false := by simpa using h3
          by_cases h4 : signB c = true
          · rw [scan_sign i h0' h1 h2' h3' h4]; simp only [h0', h2', h3', Bool.false_eq_true, if_false]; rw [if_neg h1, if_pos h4]; rfl
          · have h4' : signB c = false := by simpa using h4
            rw [scan_wrong i h0' h1 h2' h3' h4']; simp only [h0', h2', h3', h4', Bool.false_eq_true, if_false]; rw [if_neg h1]

theorem step_pos {c : UInt8} {r : List UInt8} : (∀ n, stepL (c :: r) = .skip n → 0 < n ∧ n ≤ (c :: r).length) ∧ (∀ n kd tx v, stepL (c :: r) = .tok n kd tx v → 0 < n ∧ n ≤ (c :: r).length) := by
  rw [stepL_cons]
  have w1 := twl_le notLf (c :: r)
  have w2 := twl_le partB (c :: r)
  have w3 := twl_le digitB (c :: r)
  constructor
  · intro n h
    split at h
    · cases h; simp
    · split at h
      · rename_i h0 h1
        cases h
        exact ⟨twl_pos (by rw [h1.1]; rfl), w1⟩
      · split at h
        · split at h <;> cases h
        · split at h
          · split at h <;> cases h
          · split at h <;> cases h
  · intro n kd tx v h
    split at h
    · cases h
    · split at h
      · cases h
      · split at h
        · rename_i h2
          split at h
          · cases h
            exact ⟨twl_pos (by simp [partB, h2]), w2⟩
          · cases h
        · split at h
          · rename_i h3
            split at h
            · cases h
              exact ⟨twl_pos h3, w3⟩
            · cases h
          · split at h
            · cases h; simp
            · cases h

/- by induction on the length -/
theorem len_ind {P : List UInt8 → Prop} (h : ∀ l, (∀ m : List UInt8, m.length < l.length → P m) → P l) : ∀ l, P l := by
  intro l
  generalize hn : l.length = n
  induction n using Nat.strongRecOn generalizing l with
  | _ n ih => exact h l fun m hm => ih m.length (by omega) m rfl

/- the places moved -/
def Tok.later (d : Nat) (t : Tok) : Tok := { t with at_ := t.at_ + d }
def shiftR (d : Nat) : Except Nat (List Tok) → Except Nat (List Tok)
  | .ok l => .ok (l.map (Tok.later d))
  | .error k => .error (k + d)
theorem shift_pre (d : Nat) (a : List Tok) (r : Except Nat (List Tok)) : shiftR d (preT a r) = preT (a.map (Tok.later d)) (shiftR d r) := by cases r <;> simp [shiftR, preT]
theorem scan_shift (d : Nat) : ∀ (l : List UInt8) (i : Nat), scan l (i + d) = shiftR d (scan l i) := by
  intro l
  induction l using len_ind with
  | _ l ih =>
    intro i
    cases l with
    | nil => simp [scan_nil, shiftR]
    | cons c r =>
      rw [scan_stepL, scan_stepL c r i]
      cases hs : stepL (c :: r) with
      | bad => rfl
      | skip n =>
        obtain ⟨h1, h2⟩ := step_pos.1 n hs
        simp only
        rw [← ih _ (by simp only [List.length_drop, List.length_cons] at *; omega) (i + n)]
        congr 1; omega
      | tok n kd tx v =>
        obtain ⟨h1, h2⟩ := step_pos.2 n kd tx v hs
        simp only
        rw [shift_pre, ← ih _ (by simp only [List.length_drop, List.length_cons] at *; omega) (i + n)]
        have e1 : i + d + n = i + n + d := by omega
        rw [e1]
        congr 1

/- what may follow: nothing, or a byte of white space -/
def SpaceHead (m : List UInt8) : Prop := m = [] ∨ ∃ c q, m = c :: q ∧ spaceB c = true
theorem space_not (c : UInt8) : (!spaceB c || (!partB c && (!digitB c && (!letterB c && (c != 47 && !signB c))))) = true :=
  all_u8 (fun c => !spaceB c || (!partB c && (!digitB c && (!letterB c && (c != 47 && !signB c))))) (by decide +kernel) c
theorem tw_space {p : UInt8 → Bool} (hp : ∀ c, spaceB c = true → p c = false) {m : List UInt8} (hm : SpaceHead m) : ∀ l : List UInt8, (l ++ m).takeWhile p = l.takeWhile p
  | [] => by
    rcases hm with rfl | ⟨c, q, rfl, hc⟩
    · rfl
    · simp [hp c hc]
  | a :: r => by
    rw [List.cons_append, List.takeWhile_cons, List.takeWhile_cons, tw_space hp hm r]
theorem part_space (c : UInt8) (h : spaceB c = true) : partB c = false := by
  have := space_not c
  simp [h] at this
  exact this.1
theorem digit_space (c : UInt8) (h : spaceB c = true) : digitB c = false := by
  have := space_not c
  simp [h] at this
  exact this.2.1
theorem slash_space (c : UInt8) (h : spaceB c = true) : c ≠ 47 := by
  have := space_not c
  simp [h] at this
  exact this.2.2.2.1
theorem head_space {r m : List UInt8} (hm : SpaceHead m) : ((r ++ m).head? = some 47) ↔ (r.head? = some 47) := by
  cases r with
  | nil =>
    rcases hm with rfl | ⟨c, q, rfl, hc⟩
    · rfl
    · simp [slash_space c hc]
  | cons a r => simp

/- a comment that goes on to the end of the list -/
def Open (l : List UInt8) : Prop := ∃ c r, l = c :: r ∧ spaceB c = false ∧ (c = 47 ∧ r.head? = some 47) ∧ (l.takeWhile notLf).length = l.length
theorem tw_all {p : UInt8 → Bool} : ∀ {l m : List UInt8}, (l.takeWhile p).length < l.length → (l ++ m).takeWhile p = l.takeWhile p
  | [], _, h => by simp at h
  | a :: r, m, h => by
    rw [List.cons_append, List.takeWhile_cons, List.takeWhile_cons]
    by_cases ha : p a = true
    · rw [if_pos ha, if_pos ha]
      rw [List.takeWhile_cons, if_pos ha] at h
      rw [tw_all (m := m) (by simpa using h)]
    · rw [if_neg ha, if_neg ha]
theorem tw_full {p : UInt8 → Bool} : ∀ {l m : List UInt8}, (l.takeWhile p).length = l.length → (l ++ m).takeWhile p = l ++ m.takeWhile p
  | [], _, _ => rfl
  | a :: r, m, h => by
    rw [List.takeWhile_cons] at h
    by_cases ha : p a = true
    · rw [if_pos ha] at h
      rw [List.cons_append, List.takeWhile_cons, if_pos ha, tw_full (m := m) (by simpa using h)]; rfl
    · rw [if_neg ha] at h; simp at h
theorem step_append {c : UInt8} {r m : List UInt8} (hm : SpaceHead m) (ho : ¬ Open (c :: r) ∨ ∃ q, m = 10 :: q) : stepL (c :: r ++ m) = stepL (c :: r) := by
  have e2 : (c :: (r ++ m)).takeWhile partB = (c :: r).takeWhile partB := tw_space part_space hm (c :: r)
  have e3 : (c :: (r ++ m)).takeWhile digitB = (c :: r).takeWhile digitB := tw_space digit_space hm (c :: r)
  rw [List.cons_append, stepL_cons, stepL_cons, e2, e3]
  by_cases h0 : spaceB c = true
  · simp [h0]
  · by_cases h1 : c = 47 ∧ r.head? = some 47
    · have h1' : c = 47 ∧ (r ++ m).head? = some 47 := ⟨h1.1, (head_space hm).2 h1.2⟩
      simp only [h0, Bool.false_eq_true, if_false]
      rw [if_pos h1, if_pos h1']
      congr 1
      rcases Nat.lt_or_ge ((c :: r).takeWhile notLf).length (c :: r).length with hlt | hge
      · rw [show c :: (r ++ m) = (c :: r) ++ m from rfl, tw_all hlt]
      · have heq : ((c :: r).takeWhile notLf).length = (c :: r).length := Nat.le_antisymm (twl_le _ _) hge
        rcases ho with ho | ⟨q, rfl⟩
        · exact absurd ⟨c, r, rfl, by simpa using h0, h1, heq⟩ ho
        · rw [show c :: (r ++ 10 :: q) = (c :: r) ++ 10 :: q from rfl, tw_full heq]
          have e10 : ((10 : UInt8) :: q).takeWhile notLf = [] := by rw [List.takeWhile_cons, if_neg (by decide)]
          rw [e10, List.append_nil]; exact heq.symm
    · have h1' : ¬ (c = 47 ∧ (r ++ m).head? = some 47) := fun h => h1 ⟨h.1, (head_space hm).1 h.2⟩
      rw [if_neg h1, if_neg h1']

end Go.Proofs.YtkfbhegniobecaaDoor

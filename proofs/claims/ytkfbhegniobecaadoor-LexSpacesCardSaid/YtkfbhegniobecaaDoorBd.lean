/- PROVED HERE, in plain Lean with no program in sight: the laws as the statements on Lex need them: joined words are read back, two sources with a line feed between them, a name is one token. No condition. -/
import Derived.Test.YtkfbhegniobecaaDoorBc
namespace Go.Proofs.YtkfbhegniobecaaDoor
open Go.RowKit Lib

theorem joinTail_cons (x : List UInt8) (r : List (List UInt8)) : joinTail [32] (x :: r) = 32 :: (x ++ joinTail [32] r) := by
  unfold joinTail; simp
theorem tail_space (r : List (List UInt8)) : SpaceHead (joinTail [32] r) := by
  cases r with
  | nil => exact .inl rfl
  | cons x r => exact .inr ⟨32, _, joinTail_cons x r, by decide⟩
theorem joinW_cons (t : Tok) (ts : List Tok) : joinW (t :: ts) = wordOf t ++ joinTail [32] (ts.map wordOf) := by
  unfold joinW; rw [List.map_cons, join_cons]

theorem scan_tail : ∀ (ts : List Tok) (i : Nat), ts.all validB = true → ∃ ms, scan (joinTail [32] (ts.map wordOf)) i = .ok ms ∧ sameB ts ms = true
  | [], i, _ => ⟨[], by rw [List.map_nil]; exact scan_nil i, rfl⟩
  | t :: ts, i, h => by
    simp only [List.all_cons, Bool.and_eq_true] at h
    obtain ⟨ms, h1, h2⟩ := scan_tail ts (i + 1 + (wordOf t).length) h.2
    rw [List.map_cons, joinTail_cons, scan_space i (by decide), scan_word h.1 (tail_space _), h1]
    exact ⟨_, rfl, by simp [sameB, sameT, h2]⟩
theorem scan_join (ts : List Tok) (i : Nat) (h : ts.all validB = true) : ∃ ms, scan (joinW ts) i = .ok ms ∧ sameB ts ms = true := by
  cases ts with
  | nil => exact ⟨[], by unfold joinW; exact scan_nil i, rfl⟩
  | cons t ts =>
    simp only [List.all_cons, Bool.and_eq_true] at h
    obtain ⟨ms, h1, h2⟩ := scan_tail ts (i + (wordOf t).length) h.2
    rw [joinW_cons, scan_word h.1 (tail_space _), h1]
    exact ⟨_, rfl, by simp [sameB, sameT, h2]⟩

/- what stands at its places is valid, and its joined words are short -/
theorem places_valid : ∀ {ts : List Tok} {l : List UInt8} {i : Nat}, Places l i ts → ts.all validB = true ∧ (∀ t ∈ ts, t.text.size ≤ 32) ∧ (joinTail [32] (ts.map wordOf)).length ≤ 2 * l.length ∧ ts.length ≤ l.length
  | [], l, i, _ => ⟨rfl, by simp, by unfold joinTail; simp, by simp⟩
  | t :: ts, l, i, h => by
    obtain ⟨g, rest, rfl, _, _, hne, hv, hsz, hr⟩ := h
    obtain ⟨h1, h2, h3, h4⟩ := places_valid hr
    have hpos : 0 < (wordOf t).length := List.length_pos_iff.2 hne
    refine ⟨by rw [List.all_cons, hv, h1]; rfl, fun x hx => ?_, ?_, ?_⟩
    · rcases List.mem_cons.1 hx with rfl | hx
      · exact hsz
      · exact h2 x hx
    · rw [List.map_cons, joinTail_cons]
      simp only [List.length_cons, List.length_append]
      omega
    · simp only [List.length_cons, List.length_append]
      omega
theorem joinW_le (ts : List Tok) : (joinW ts).length ≤ (joinTail [32] (ts.map wordOf)).length := by
  cases ts with
  | nil => unfold joinW; simp [join_nil]
  | cons t ts => rw [joinW_cons, List.map_cons, joinTail_cons]; simp

/- of a source: what LexBack asks -/
theorem back_source {l : List UInt8} {ts : List Tok} (h : scan l 0 = .ok ts) :
    ts.all validB = true ∧ (joinW ts).length ≤ 2 * l.length ∧ ts.length ≤ l.length ∧ ∃ ms, scan (joinW ts) 0 = .ok ms ∧ sameB ts ms = true := by
  obtain ⟨h1, h2, h3, h4⟩ := places_valid (scan_places l 0 ts h)
  exact ⟨h1, Nat.le_trans (joinW_le ts) h3, h4, scan_join ts 0 h1⟩

/- two sources with a line feed between them: what LexJoined asks -/
theorem joined_err {a b : List UInt8} {k : Nat} (h : scan a 0 = .error k) : scan (a ++ 10 :: b) 0 = .error k := scan_err_append _ (.inr ⟨10, b, rfl, by decide⟩) a 0 k h
theorem joined_err2 {a b : List UInt8} {ts : List Tok} {k : Nat} (h : scan a 0 = .ok ts) (h2 : scan b 0 = .error k) : scan (a ++ 10 :: b) 0 = .error (k + (a.length + 1)) := by
  rw [scan_ok_append b a 0 ts h, show 0 + a.length + 1 = 0 + (a.length + 1) from by omega, scan_shift, h2]; rfl
theorem joined_ok {a b : List UInt8} {ts us : List Tok} (h : scan a 0 = .ok ts) (h2 : scan b 0 = .ok us) : scan (a ++ 10 :: b) 0 = .ok (ts ++ us.map (Tok.later (a.length + 1))) := by
  rw [scan_ok_append b a 0 ts h, show 0 + a.length + 1 = 0 + (a.length + 1) from by omega, scan_shift, h2]; rfl

/- what LexWrong asks -/
theorem wrong_law {l : List UInt8} {k : Nat} (h : scan l 0 = .error k) (more : List UInt8) :
    k < l.length ∧ (∃ ts, scan (l.take k) 0 = .ok ts) ∧ scan (l ++ 32 :: more) 0 = .error k ∧ scan (l.drop k) 0 = .error 0 := by
  obtain ⟨d, rfl, hd, ht, he⟩ := scan_err_cut l 0 k h
  rw [Nat.zero_add] at *
  exact ⟨hd, ht, scan_err_append _ (.inr ⟨32, more, rfl, by decide⟩) l 0 d h, he 0⟩

/- a name is one token: what LexNames asks -/
theorem name_scan {l : List UInt8} (h : nameB l = true) : scan l 0 = .ok [⟨1, mk l, 0, 0⟩] := by
  cases l with
  | nil => cases h
  | cons c r => rw [scan_stepL, step_name h]; simp only [List.drop_length, scan_nil]; rfl
theorem scan_name_not {l : List UInt8} (h : nameB l = false) {ts : List Tok} (hs : scan l 0 = .ok ts) (t : Tok) (ht : ts = [t]) : ¬ (t.kind = 1 ∧ t.text.data.toList = l) := by
  subst ht
  rintro ⟨h1, h2⟩
  obtain ⟨hv, _⟩ := places_valid (scan_places l 0 _ hs)
  simp only [List.all_cons, List.all_nil, Bool.and_true] at hv
  rcases valid_cases hv with ⟨_, h3, _⟩ | ⟨h3, _⟩ | ⟨h3, _⟩
  · rw [h2, h] at h3; cases h3
  · omega
  · omega

theorem sameB_refl (l : List Tok) : sameB l l = true := by
  induction l with
  | nil => rfl
  | cons t r ih => rw [sameB, ih]; simp [sameT]

end Go.Proofs.YtkfbhegniobecaaDoor

/- PROVED HERE, in plain Lean with no program in sight: tokens written with white space and comments between them are read back. No condition. -/
import Derived.Test.YtkfbhegniobecaaDoorBd
namespace Go.Proofs.YtkfbhegniobecaaDoor
open Go.RowKit Lib

/- a piece of white space and comments: what follows it is read as it stands alone -/
def GapL (g : List UInt8) : Prop := ∀ (m : List UInt8) (i : Nat), scan (g ++ m) i = scan m (i + g.length)
theorem gapL_nil : GapL [] := fun _ _ => rfl
theorem gapL_space {c : UInt8} {g : List UInt8} (hc : spaceB c = true) (h : GapL g) : GapL (c :: g) := fun m i => by
  rw [List.cons_append, scan_space i hc, h]
  congr 1
  simp; omega
theorem gapL_note {r g : List UInt8} (hr : r.all notLf = true) (h : GapL g) : GapL (47 :: 47 :: (r ++ 10 :: g)) := fun m i => by
  have e : (47 :: 47 :: (r ++ 10 :: g)) ++ m = 47 :: (47 :: (r ++ 10 :: (g ++ m))) := by simp
  have ht : ((47 : UInt8) :: (47 :: (r ++ 10 :: (g ++ m)))).takeWhile notLf = 47 :: 47 :: r := by
    rw [List.takeWhile_cons, if_pos (by decide), List.takeWhile_cons, if_pos (by decide)]
    congr 2
    rw [tw_full (by rw [tw_id hr]), List.takeWhile_cons, if_neg (by decide), List.append_nil]
  rw [e, scan_note i (by decide) ⟨rfl, rfl⟩, ht]
  have hd : (47 :: (47 :: (r ++ 10 :: (g ++ m)))).drop ((47 : UInt8) :: 47 :: r).length = 10 :: (g ++ m) := by simp
  rw [hd, scan_space _ (by decide), h]
  congr 1
  simp; omega

/- what is written of the first tokens -/
def Built (ts : List Tok) : Nat → List UInt8 → Prop
  | 0, l => l = [10]
  | k + 1, l => ∃ (h : k < ts.length) (q g : List UInt8), Built ts k q ∧ GapL g ∧ l = q ++ (wordOf ts[k] ++ [32] ++ g)
theorem built_scan {ts : List Tok} (hv : ts.all validB = true) : ∀ (k : Nat) (l : List UInt8), k ≤ ts.length → Built ts k l → ∃ ms, sameB (ts.take k) ms = true ∧ ∀ (m : List UInt8), scan (l ++ m) 0 = preT ms (scan m l.length)
  | 0, l, _, h => by
    have h' : l = [10] := h
    subst h'
    exact ⟨[], rfl, fun m => by rw [preT_nil]; exact scan_space 0 (by decide)⟩
  | k + 1, l, hk, h => by
    obtain ⟨hlt, q, g, hq, hg, rfl⟩ := h
    obtain ⟨ms, hs, hm⟩ := built_scan hv k q (by omega) hq
    have hvk := List.all_eq_true.1 hv _ (List.getElem_mem hlt)
    refine ⟨ms ++ [⟨ts[k].kind, ts[k].text, ts[k].n, q.length⟩], ?_, fun m => ?_⟩
    · rw [List.take_succ_eq_append_getElem hlt]
      clear hm hq
      generalize ts.take k = xs at hs
      clear hk
      induction xs generalizing ms with
      | nil =>
        cases ms with
        | nil => simp [sameB, sameT]
        | cons y ys => simp [sameB] at hs
      | cons x xs ih =>
        cases ms with
        | nil => simp [sameB] at hs
        | cons y ys =>
          simp only [sameB, Bool.and_eq_true] at hs
          simp only [List.cons_append, sameB, hs.1, Bool.true_and]
          exact ih ys hs.2
    · have e : q ++ (wordOf ts[k] ++ [32] ++ g) ++ m = q ++ (wordOf ts[k] ++ (32 :: (g ++ m))) := by simp
      rw [e, hm, scan_word hvk (.inr ⟨32, _, rfl, by decide⟩), scan_space _ (by decide), hg, preT_preT]
      congr 2
      simp only [List.length_append, List.length_cons, List.length_nil]; omega
theorem built_all {ts : List Tok} (hv : ts.all validB = true) {l : List UInt8} (h : Built ts ts.length l) : ∃ ms, scan l 0 = .ok ms ∧ sameB ts ms = true := by
  obtain ⟨ms, h1, h2⟩ := built_scan hv ts.length l (Nat.le_refl _) h
  have := h2 []
  rw [List.append_nil, scan_nil] at this
  rw [List.take_length] at h1
  exact ⟨ms, by rw [this]; simp [preT], h1⟩

end Go.Proofs.YtkfbhegniobecaaDoor

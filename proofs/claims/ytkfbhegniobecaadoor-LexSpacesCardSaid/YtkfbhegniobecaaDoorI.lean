/- What Lex computes, as a Lean function on lists of bytes. -/
import Derived.Test.YtkfbhegniobecaaDoorH
namespace Go.Proofs.YtkfbhegniobecaaDoor
open Go.RowKit

def mk (l : List UInt8) : ByteArray := ⟨l.toArray⟩
theorem mk_list (l : List UInt8) : (mk l).data.toList = l := rfl
theorem mk_eq {s : ByteArray} {l : List UInt8} (h : s.data.toList = l) : s = mk l := by subst h; rfl

theorem twl_le (p : UInt8 → Bool) : ∀ l : List UInt8, (l.takeWhile p).length ≤ l.length
  | [] => Nat.le_refl _
  | c :: r => by
    rw [List.takeWhile_cons]; split
    · simp [twl_le p r]
    · simp
theorem twl_pos {p : UInt8 → Bool} {c : UInt8} {r : List UInt8} (h : p c = true) : 0 < ((c :: r).takeWhile p).length := by
  rw [List.takeWhile_cons, if_pos h]; simp

def preT (acc : List Tok) : Except Nat (List Tok) → Except Nat (List Tok)
  | .ok l => .ok (acc ++ l)
  | .error k => .error k
theorem preT_nil (r : Except Nat (List Tok)) : preT [] r = r := by cases r <;> rfl
theorem preT_preT (a b : List Tok) (r : Except Nat (List Tok)) : preT a (preT b r) = preT (a ++ b) r := by cases r <;> simp [preT]

def notLf (c : UInt8) : Bool := c.toNat != 10
def scan (l : List UInt8) (i : Nat) : Except Nat (List Tok) :=
  match h : l with
  | [] => .ok []
  | c :: r =>
    if spaceB c then scan r (i + 1)
    else if h1 : c = 47 ∧ r.head? = some 47 then scan ((c :: r).drop ((c :: r).takeWhile notLf).length) (i + ((c :: r).takeWhile notLf).length)
    else if h2 : letterB c = true then
      if nameB ((c :: r).takeWhile partB) then preT [⟨1, mk ((c :: r).takeWhile partB), 0, i⟩] (scan ((c :: r).drop ((c :: r).takeWhile partB).length) (i + ((c :: r).takeWhile partB).length))
      else .error i
    else if h3 : digitB c = true then
      if (refNumber ((c :: r).takeWhile digitB)).2 then preT [⟨2, mk [], (refNumber ((c :: r).takeWhile digitB)).1, i⟩] (scan ((c :: r).drop ((c :: r).takeWhile digitB).length) (i + ((c :: r).takeWhile digitB).length))
      else .error i
    else if signB c then preT [⟨3, mk [c], 0, i⟩] (scan r (i + 1))
    else .error i
  termination_by l.length
  decreasing_by
  · subst h; simp
  · subst h
    have := twl_pos (p := notLf) (c := c) (r := r) (by rw [h1.1]; rfl)
    simp only [List.length_drop, List.length_cons] at *; omega
  · subst h
    have := twl_pos (p := partB) (c := c) (r := r) (by simp [partB, h2])
    simp only [List.length_drop, List.length_cons] at *; omega
  · subst h
    have := twl_pos (p := digitB) (c := c) (r := r) h3
    simp only [List.length_drop, List.length_cons] at *; omega
  · subst h; simp

theorem scan_nil (i : Nat) : scan [] i = .ok [] := by rw [scan]
theorem scan_space {c : UInt8} {r : List UInt8} (i : Nat) (h : spaceB c = true) : scan (c :: r) i = scan r (i + 1) := by
  rw [scan]; simp only [h, if_true]
theorem scan_note {c : UInt8} {r : List UInt8} (i : Nat) (h0 : spaceB c = false) (h : c = 47 ∧ r.head? = some 47) :
    scan (c :: r) i = scan ((c :: r).drop ((c :: r).takeWhile notLf).length) (i + ((c :: r).takeWhile notLf).length) := by
  rw [scan]; simp only [h0, Bool.false_eq_true, if_false]; rw [dif_pos h]
theorem scan_name {c : UInt8} {r : List UInt8} (i : Nat) (h0 : spaceB c = false) (h1 : ¬ (c = 47 ∧ r.head? = some 47)) (h2 : letterB c = true) :
    scan (c :: r) i = if nameB ((c :: r).takeWhile partB) then preT [⟨1, mk ((c :: r).takeWhile partB), 0, i⟩] (scan ((c :: r).drop ((c :: r).takeWhile partB).length) (i + ((c :: r).takeWhile partB).length)) else .error i := by
  rw [scan]; simp only [h0, Bool.false_eq_true, if_false]; rw [dif_neg h1, dif_pos h2]
theorem scan_number {c : UInt8} {r : List UInt8} (i : Nat) (h0 : spaceB c = false) (h1 : ¬ (c = 47 ∧ r.head? = some 47)) (h2 : letterB c = false) (h3 : digitB c = true) :
    scan (c :: r) i = if (refNumber ((c :: r).takeWhile digitB)).2 then preT [⟨2, mk [], (refNumber ((c :: r).takeWhile digitB)).1, i⟩] (scan ((c :: r).drop ((c :: r).takeWhile digitB).length) (i + ((c :: r).takeWhile digitB).length)) else .error i := by
  rw [scan]; simp only [h0, Bool.false_eq_true, if_false]; rw [dif_neg h1, dif_neg (by rw [h2]; simp), dif_pos h3]
theorem scan_sign {c : UInt8} {r : List UInt8} (i : Nat) (h0 : spaceB c = false) (h1 : ¬ (c = 47 ∧ r.head? = some 47)) (h2 : letterB c = false) (h3 : digitB c = false) (h4 : signB c = true) :
    scan (c :: r) i = preT [⟨3, mk [c], 0, i⟩] (scan r (i + 1)) := by
  rw [scan]; simp only [h0, Bool.false_eq_true, if_false]; rw [dif_neg h1, dif_neg (by rw [h2]; simp), dif_neg (by rw [h3]; simp), if_pos h4]
theorem scan_wrong {c : UInt8} {r : List UInt8} (i : Nat) (h0 : spaceB c = false) (h1 : ¬ (c = 47 ∧ r.head? = some 47)) (h2 : letterB c = false) (h3 : digitB c = false) (h4 : signB c = false) :
    scan (c :: r) i = .error i := by
  rw [scan]; simp only [h0, Bool.false_eq_true, if_false]; rw [dif_neg h1, dif_neg (by rw [h2]; simp), dif_neg (by rw [h3]; simp), if_neg (by rw [h4]; simp)]

end Go.Proofs.YtkfbhegniobecaaDoor

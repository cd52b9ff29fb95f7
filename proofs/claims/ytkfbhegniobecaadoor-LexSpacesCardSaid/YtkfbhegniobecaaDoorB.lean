/- Names: the program's Name and the document's Name return what one Lean function computes. -/
import Derived.Test.YtkfbhegniobecaaDoorA
namespace Go.Proofs.YtkfbhegniobecaaDoor
open Go.RowKit

def nameB : List UInt8 → Bool
  | [] => false
  | c :: r => decide ((c :: r).length ≤ 32) && letterB c && (c :: r).all partB

theorem take_snoc (s : ByteArray) (k : Nat) (h : k < s.size) : s.data.toList.take (k + 1) = s.data.toList.take k ++ [s[k]] := by
  rw [List.take_succ_eq_append_getElem (by simpa using h)]; rfl
theorem length_toList (s : ByteArray) : s.data.toList.length = s.size := by simp
theorem nameB_of {s : ByteArray} (h : 0 < s.size) : nameB s.data.toList = (decide (s.size ≤ 32) && letterB (s[0]) && s.data.toList.all partB) := by
  obtain ⟨⟨l⟩⟩ := s
  cases l with
  | nil => simp [ByteArray.size] at h
  | cons c r => rfl
theorem nameB_empty {s : ByteArray} (h : ¬ 0 < s.size) : nameB s.data.toList = false := by
  obtain ⟨⟨l⟩⟩ := s
  cases l with
  | nil => rfl
  | cons c r => simp [ByteArray.size] at h
theorem nameB_long {s : ByteArray} (h0 : 0 < s.size) (h : ¬ s.size ≤ 32) : nameB s.data.toList = false := by rw [nameB_of h0]; simp [h]
theorem nameB_first {s : ByteArray} (h0 : 0 < s.size) (h : letterB s[0] = false) : nameB s.data.toList = false := by rw [nameB_of h0]; simp [h]
theorem nameB_part {s : ByteArray} {k : Nat} (hk : k < s.size) (h : partB s[k] = false) : nameB s.data.toList = false := by
  rw [nameB_of (by omega)]
  have : s.data.toList.all partB = false := by
    rw [List.all_eq_false]
    exact ⟨s[k], by rw [Array.mem_toList_iff]; exact Array.getElem_mem _, by simp [h]⟩
  rw [this]; simp
theorem nameB_yes {s : ByteArray} (h0 : 0 < s.size) (h32 : s.size ≤ 32) (h : letterB s[0] = true) (ha : (s.data.toList.take s.size).all partB = true) : nameB s.data.toList = true := by
  rw [List.take_of_length_le (by simp)] at ha
  rw [nameB_of h0, ha, h]; simp [h32]
theorem all_next {s : ByteArray} {k : Nat} (hk : k < s.size) (hn : (s.data.toList.take k).all partB = true) (h : partB s[k] = true) : (s.data.toList.take (k + 1)).all partB = true := by
  rw [take_snoc s k hk, List.all_append, hn]; simp [h]

set_option maxHeartbeats 1000000 in
theorem refname_any (s : ByteArray) (w : World) (hs : s.size ≤ maxLen) :
    Calls Tryd.prog 21 #[.string s] w fun e w' => e = .returned (.bool (nameB s.data.toList)) ∧ w = w' := by
  unfold maxLen at hs
  generalize hN : nameB s.data.toList = N
  have HN := Lib.hid hN; clear hN
  by_cases h0 : 0 < s.size
  · by_cases h32 : s.size ≤ 32
    · generalize hl : letterB s[0] = lb
      have Hl := Lib.hid hl; clear hl
      cases lb
      · go_enter Tryd.func21, Tryd.ntmps21
        go_wp2_with (first | (go_at_call 31; refine (letter_any _ _).mono ?_; rintro e w' ⟨rfl, rfl⟩; rw [Hl.out]))
        go_ret
        exact ⟨ret_bool (by rw [← HN.out, nameB_first h0 Hl.out]), rfl⟩
      · go_enter Tryd.func21, Tryd.ntmps21
        go_wp2_with (first | (go_at_call 31; refine (letter_any _ _).mono ?_; rintro e w' ⟨rfl, rfl⟩; rw [Hl.out]))
        go_loop [3] (fun i => ∃ k : Nat, k ≤ s.size ∧ i = .int .i64 k ∧ (s.data.toList.take k).all partB = true) (fun i => s.size - (intOf i).toNat)
        case atStart => exact ⟨0, by omega, rfl, rfl⟩
        case round =>
          obtain ⟨k, hk, rfl, hn⟩ := hrel
          have Hn := Lib.hid hn; clear hn
          by_cases hlt : k < s.size
          · generalize hp : partB s[k] = pb
            have Hp := Lib.hid hp; clear hp
            cases pb
            · go_wp2_with (first | (go_at_call 32; refine (part_any _ _).mono ?_; rintro e w' ⟨rfl, rfl⟩; rw [Hp.out]))
              go_ret
              exact ⟨ret_bool (by rw [← HN.out, nameB_part hlt Hp.out]), rfl⟩
            · go_wp2_with (first | (go_at_call 32; refine (part_any _ _).mono ?_; rintro e w' ⟨rfl, rfl⟩; rw [Hp.out]))
              exact ⟨⟨k + 1, by omega, by go_num, all_next hlt Hn.out Hp.out⟩, by simp [intOf]; omega⟩
          · go_wp2
            go_ret
            obtain rfl : k = s.size := by omega
            exact ⟨ret_bool (by rw [← HN.out, nameB_yes h0 h32 Hl.out Hn.out]), rfl⟩
    · go_enter Tryd.func21, Tryd.ntmps21
      go_wp2_with fail
      go_ret
      exact ⟨ret_bool (by rw [← HN.out, nameB_long h0 h32]), rfl⟩
  · go_enter Tryd.func21, Tryd.ntmps21
    go_wp2_with fail
    go_ret
    exact ⟨ret_bool (by rw [← HN.out, nameB_empty h0]), rfl⟩

/- the value of a row of digits, as the document reads it: none if it is greater than 2^40 -/
def numF : Nat → List UInt8 → Option Nat
  | n, [] => some n
  | n, c :: r => if 10 * n + (c.toNat - 48) > 1099511627776 then none else numF (10 * n + (c.toNat - 48)) r
def refNumber (l : List UInt8) : Int × Bool :=
  match numF 0 l with
  | none => (0, false)
  | some n => (n, decide (l.length = 1) || decide (l.head? ≠ some 48))

theorem drop_cons (s : ByteArray) (k : Nat) (h : k < s.size) : s.data.toList.drop k = s[k] :: s.data.toList.drop (k + 1) := by
  rw [List.drop_eq_getElem_cons (by simpa using h)]; rfl

theorem numF_big {s : ByteArray} {k n : Nat} (hk : k < s.size) (h : 10 * n + (s[k].toNat - 48) > 1099511627776) : numF n (s.data.toList.drop k) = none := by
  rw [drop_cons s k hk, numF, if_pos h]
theorem numF_next {s : ByteArray} {k n : Nat} (hk : k < s.size) (h : ¬ 10 * n + (s[k].toNat - 48) > 1099511627776) : numF n (s.data.toList.drop k) = numF (10 * n + (s[k].toNat - 48)) (s.data.toList.drop (k + 1)) := by
  rw [drop_cons s k hk, numF, if_neg h]
theorem digit_le {c : UInt8} (h : digitB c = true) : 48 ≤ c.toNat ∧ c.toNat ≤ 57 := by simpa [digitB] using h
theorem ref_none {l : List UInt8} (h : numF 0 l = none) : refNumber l = (0, false) := by unfold refNumber; rw [h]
theorem ref_some {l : List UInt8} {n : Nat} (h : numF 0 l = some n) : refNumber l = ((n : Int), decide (l.length = 1) || decide (l.head? ≠ some 48)) := by unfold refNumber; rw [h]

theorem ret_ib {a a' : Int} {b b' : Bool} (h : a = a') (h' : b = b') : Ending.returned (.tuple #[.int .i64 a, .bool b]) = .returned (.tuple #[.int .i64 a', .bool b']) := by rw [h, h']
theorem head_ne (s : ByteArray) (h : 0 < s.size) : decide (s.data.toList.head? ≠ some 48) = ((s[0].toNat : Int) != 48) := by
  obtain ⟨⟨l⟩⟩ := s
  cases l with
  | nil => simp [ByteArray.size] at h
  | cons c r =>
    show decide (some c ≠ some 48) = ((c.toNat : Int) != 48)
    rw [Bool.eq_iff_iff]
    simp only [ne_eq, Option.some.injEq, decide_eq_true_eq, bne_iff_ne]
    rw [← UInt8.toNat_inj]
    show ¬ c.toNat = 48 ↔ _
    omega

set_option maxHeartbeats 1000000 in
theorem number_any (s : ByteArray) (w : World) (hs : s.size ≤ maxLen) (h0 : 0 < s.size) (hd : ∀ k (h : k < s.size), digitB s[k] = true) :
    Calls Tryd.prog 34 #[.string s] w fun e w' => e = .returned (.tuple #[.int .i64 (refNumber s.data.toList).1, .bool (refNumber s.data.toList).2]) ∧ ∃ q, w' = w.drewN q := by
  unfold maxLen at hs
  have Hd := Lib.hid hd; clear hd
  generalize hN : refNumber s.data.toList = N
  have HN := Lib.hid hN; clear hN
  go_enter Tryd.func34, Tryd.ntmps34
  go_wp2
  go_loop [4, 5] (fun n i => ∃ k m : Nat, k ≤ s.size ∧ i = .int .i64 k ∧ n = .int .i64 m ∧ m ≤ 1099511627776 ∧ Hid (numF 0 s.data.toList = numF m (s.data.toList.drop k))) (fun _ i => s.size - (intOf i).toNat)
  case atStart => exact ⟨0, 0, by omega, rfl, rfl, by omega, rfl⟩
  case round =>
    obtain ⟨k, m, hk, rfl, rfl, hm, Hn⟩ := hrel
    by_cases hlt : k < s.size
    · obtain ⟨d0, d1⟩ := digit_le (Hd.out k hlt)
      by_cases hb : 10 * m + (s[k].toNat - 48) > 1099511627776
      · go_wp2
        go_ret2
        refine ⟨?_, 0, rfl⟩
        have e := HN.out.symm.trans (ref_none (Hn.out.trans (numF_big hlt hb)))
        rw [e]; rfl
      · go_wp2
        exact ⟨⟨k + 1, 10 * m + (s[k].toNat - 48), by omega, by go_num, congrArg (Value.int .i64) (by omega), by omega, Hn.out.trans (numF_next hlt hb)⟩, by simp [intOf]; omega⟩
    · have hkk : k = s.size := by omega
      have hfin : numF 0 s.data.toList = some m := by rw [Hn.out, List.drop_of_length_le (by simp; omega)]; rfl
      have Hfin := Lib.hid (HN.out.symm.trans (ref_some hfin)); clear hfin hkk
      by_cases h1 : s.size = 1
      · have hb1 : ((s.size : Int) == 1) = true := by simp; omega
        have Hb := Lib.hid h1
        clear h1
        go_wp2
        go_quiet (fail)
        go_wp2
        go_ret2
        refine ⟨?_, _, rfl⟩
        rw [Hfin.out]
        exact ret_ib rfl (by rw [length_toList, decide_eq_true (Hb.out)]; simp)
      · have hb1 : ((s.size : Int) == 1) = false := by simp; omega
        go_wp2
        go_quiet (fail)
        go_wp2
        go_ret2
        refine ⟨?_, _, rfl⟩
        rw [Hfin.out]
        exact ret_ib rfl (by rw [length_toList, ← head_ne s h0, decide_eq_false h1]; simp)

/- tokens -/
structure Tok where
  kind : Int
  text : ByteArray
  n : Int
  at_ : Int
def Tok.cells (t : Tok) : Array Value := #[.int .i64 t.kind, .string t.text, .int .i64 t.n, .int .i64 t.at_]
def Tok.i64 (t : Tok) : Prop := (-9223372036854775808 ≤ t.kind ∧ t.kind ≤ 9223372036854775807) ∧ (-9223372036854775808 ≤ t.n ∧ t.n ≤ 9223372036854775807) ∧ (-9223372036854775808 ≤ t.at_ ∧ t.at_ ≤ 9223372036854775807) ∧ t.text.size ≤ maxLen

def signT : List UInt8 → Bool
  | [c] => signB c
  | _ => false
theorem signT_yes {s : ByteArray} (h : (s.size : Int) = 1) : signT s.data.toList = signB (s[0]'(by omega)) := by
  obtain ⟨⟨l⟩⟩ := s
  match l, h with
  | [], h => simp [ByteArray.size] at h
  | [c], _ => rfl
  | _ :: _ :: _, h => simp [ByteArray.size] at h; omega
theorem signT_no {s : ByteArray} (h : ¬ (s.size : Int) = 1) : signT s.data.toList = false := by
  obtain ⟨⟨l⟩⟩ := s
  match l, h with
  | [], h => rfl
  | [c], h => simp [ByteArray.size] at h
  | _ :: _ :: _, h => rfl
def validB (t : Tok) : Bool :=
  if t.kind == 1 then nameB t.text.data.toList && t.n == 0
  else if t.kind == 2 then t.text.data.toList.isEmpty && (decide (0 ≤ t.n) && decide (t.n ≤ 1099511627776))
  else if t.kind == 3 then signT t.text.data.toList && t.n == 0
  else false
theorem valid_name {t : Tok} (h : (t.kind == 1) = true) : validB t = (nameB t.text.data.toList && t.n == 0) := by unfold validB; rw [if_pos h]
theorem valid_number {t : Tok} (h1 : (t.kind == 1) = false) (h : (t.kind == 2) = true) : validB t = (t.text.data.toList.isEmpty && (decide (0 ≤ t.n) && decide (t.n ≤ 1099511627776))) := by
  unfold validB; rw [if_neg (by rw [h1]; simp), if_pos h]
theorem valid_sign {t : Tok} (h1 : (t.kind == 1) = false) (h2 : (t.kind == 2) = false) (h : (t.kind == 3) = true) : validB t = (signT t.text.data.toList && t.n == 0) := by
  unfold validB; rw [if_neg (by rw [h1]; simp), if_neg (by rw [h2]; simp), if_pos h]
theorem valid_none {t : Tok} (h1 : (t.kind == 1) = false) (h2 : (t.kind == 2) = false) (h : (t.kind == 3) = false) : validB t = false := by
  unfold validB; rw [if_neg (by rw [h1]; simp), if_neg (by rw [h2]; simp), if_neg (by rw [h]; simp)]

set_option maxHeartbeats 1000000 in
theorem refvalid_any (t : Tok) (w : World) (ht : t.text.size ≤ maxLen) :
    Calls Tryd.prog 39 #[.agg t.cells] w fun e w' => e = .returned (.bool (validB t)) ∧ Below w.heap.size w w' := by
  obtain ⟨kd, tx, n, a⟩ := t
  unfold Tok.cells
  dsimp only at ht ⊢
  generalize hN : validB _ = N
  have HN := Lib.hid hN; clear hN
  go_enter Tryd.func39, Tryd.ntmps39
  go_wp2_with (first | (go_at_call 21; refine (refname_any _ _ ht).mono ?_; rintro e w' ⟨rfl, rfl⟩) | (go_at_call 35; refine (sign_any _ _).mono ?_; rintro e w' ⟨rfl, rfl⟩))
  all_goals go_ret
  all_goals
    refine ⟨ret_bool ?_, (Below.refl _ _).alloc (Nat.le_refl _) _⟩
    rw [← HN.out]
    try simp only [ByteArray.toList_eq] at *
    first
    | (rw [valid_name ‹_›]; simp [*]; done)
    | (rw [valid_number ‹_› ‹_›]; simp [*]; done)
    | (rw [valid_number ‹_› ‹_›]; simp [*]; omega)
    | (rw [valid_sign ‹_› ‹_› ‹_›, signT_yes ‹_›]; simp [*]; done)
    | (rw [valid_sign ‹_› ‹_› ‹_›, signT_no ‹_›]; simp [*]; done)
    | (rw [valid_none ‹_› ‹_› ‹_›]; done)
    | (rw [valid_number ‹_› ‹_›, List.isEmpty_eq_false_iff.2 ‹_›]; simp; done)

end Go.Proofs.YtkfbhegniobecaaDoor

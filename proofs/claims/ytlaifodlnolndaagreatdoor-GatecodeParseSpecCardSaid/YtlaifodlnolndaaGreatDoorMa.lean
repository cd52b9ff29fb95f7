/- Texts A B C D E F G H in one: each says what it proves. -/
import Derived.Test.YtlaifodlnolndaaGreatDoorShelf
import Derived.Lib.IndexAny
import Derived.WalkKit
import Derived.WalkLawsBesides
import Derived.Deep.QuietTactic
import Derived.BigQuiet
import Derived.Lib.Hide
import Derived.Lib.ItoaNum
import Derived.Lib.SmallJoins
/- The small classifiers of bytes: each function returns what its Lean counterpart computes. -/
namespace Go.Proofs.YtlaifodlnolndaaGreatDoor
open Go.RowKit

theorem ret_int {k : IntKind} {a b : Int} (h : a = b) : Ending.returned (.int k a) = .returned (.int k b) := by rw [h]
theorem ret_bool {a b : Bool} (h : a = b) : Ending.returned (.bool a) = .returned (.bool b) := by rw [h]

def letterB (c : UInt8) : Bool := (97 ≤ c.toNat && c.toNat ≤ 122) || (65 ≤ c.toNat && c.toNat ≤ 90)
def digitB (c : UInt8) : Bool := 48 ≤ c.toNat && c.toNat ≤ 57
def spaceB (c : UInt8) : Bool := c.toNat == 32 || c.toNat == 9 || c.toNat == 10 || c.toNat == 13
def partB (c : UInt8) : Bool := letterB c || digitB c || c.toNat == 95
def signs : List UInt8 := [123, 125, 40, 41, 59, 44, 61, 58, 46, 60, 62, 33, 43, 45, 42, 47]
def signB (c : UInt8) : Bool := signs.contains c

theorem u8_eq_of {a b : UInt8} (h : ((a.toNat : Int) == (b.toNat : Int)) = true) : a = b := by
  have := of_decide_eq_true h
  exact UInt8.toNat_inj.1 (by omega)
theorem u8_ne_of {a b : UInt8} (h : ((a.toNat : Int) == (b.toNat : Int)) = false) : a ≠ b := by
  intro e; subst e; simp at h
theorem sign_hit {c : UInt8} {k : Nat} (hk : k < 16) (h : (((({ data := #[123, 125, 40, 41, 59, 44, 61, 58, 46, 60, 62, 33, 43, 45, 42, 47] } : ByteArray)[k]'hk).toNat : Int) == (c.toNat : Int)) = true) : signB c = true := by
  have e := u8_eq_of h
  subst e
  show signs.contains (signs[k]'hk) = true
  rw [List.contains_iff_mem]
  exact List.getElem_mem _
theorem sign_next {c : UInt8} {k : Nat} (hk : k < 16) (hn : (signs.take k).contains c = false) (h : (((({ data := #[123, 125, 40, 41, 59, 44, 61, 58, 46, 60, 62, 33, 43, 45, 42, 47] } : ByteArray)[k]'hk).toNat : Int) == (c.toNat : Int)) = false) : (signs.take (k + 1)).contains c = false := by
  have e := u8_ne_of h
  rw [List.take_succ_eq_append_getElem (show k < signs.length from hk), List.contains_eq_mem]
  rw [List.contains_eq_mem] at hn
  simp only [List.mem_append, List.mem_singleton, decide_eq_false_iff_not, not_or] at hn ⊢
  exact ⟨hn, fun h' => e h'.symm⟩

/- the classes of bytes -/
def classF (c : UInt8) : Int := if letterB c then 2 else if digitB c then 3 else if c.toNat == 95 then 5 else if spaceB c then 1 else if signB c then 4 else 0

theorem class_letter {c : UInt8} (h : (97 ≤ c.toNat ∧ c.toNat ≤ 122) ∨ (65 ≤ c.toNat ∧ c.toNat ≤ 90)) : classF c = 2 := by
  have : letterB c = true := by simp [letterB]; omega
  simp [classF, this]
theorem nl {c : UInt8} (h : ¬ ((97 ≤ c.toNat ∧ c.toNat ≤ 122) ∨ (65 ≤ c.toNat ∧ c.toNat ≤ 90))) : letterB c = false := by
  rw [Bool.eq_false_iff]; simp [letterB]; omega
theorem class_digit {c : UInt8} (h : 48 ≤ c.toNat ∧ c.toNat ≤ 57) : classF c = 3 := by
  have : digitB c = true := by simp [digitB]; omega
  simp [classF, this, nl (c := c) (by omega)]
theorem nd {c : UInt8} (h : ¬ (48 ≤ c.toNat ∧ c.toNat ≤ 57)) : digitB c = false := by
  rw [Bool.eq_false_iff]; simp [digitB]; omega
theorem class_line {c : UInt8} (h : c.toNat = 95) : classF c = 5 := by
  simp [classF, nd (c := c) (by omega), nl (c := c) (by omega), h]
theorem class_space {c : UInt8} (h : c.toNat = 32 ∨ c.toNat = 9 ∨ c.toNat = 10 ∨ c.toNat = 13) : classF c = 1 := by
  have : spaceB c = true := by simp [spaceB]; omega
  have h2 : (c.toNat == 95) = false := by rw [Bool.eq_false_iff]; simp; omega
  simp [classF, nd (c := c) (by omega), nl (c := c) (by omega), h2, this]
theorem class_rest {c : UInt8} (h : ¬ ((97 ≤ c.toNat ∧ c.toNat ≤ 122) ∨ (65 ≤ c.toNat ∧ c.toNat ≤ 90))) (h1 : ¬ (48 ≤ c.toNat ∧ c.toNat ≤ 57)) (h2 : ¬ c.toNat = 95)
    (h3 : ¬ (c.toNat = 32 ∨ c.toNat = 9 ∨ c.toNat = 10 ∨ c.toNat = 13)) : classF c = if signB c then 4 else 0 := by
  have h4 : spaceB c = false := by rw [Bool.eq_false_iff]; simp [spaceB]; omega
  simp [classF, nd h1, nl h, h2, h4]

theorem idx_sign (c : UInt8) : (decide (0 ≤ Lib.indexByte signs ((c.toNat : Int)).toNat.toUInt8)) = signB c := by
  have : ((c.toNat : Int)).toNat.toUInt8 = c := by simp
  rw [this]; exact (Lib.contains_iff_indexByte signs c).symm
theorem index_sign (c : UInt8) (w : World) : Calls Tryz.prog 56 #[.string { data := #[123, 125, 40, 41, 59, 44, 61, 58, 46, 60, 62, 33, 43, 45, 42, 47] }, .int .u8 (c.toNat : Int)] w fun e w' => ∃ n : Int, e = .returned (.int .i64 n) ∧ decide (0 ≤ n) = signB c ∧ w = w' :=
  (Tryz.strings_IndexByte _ _ w).mono fun _ _ h => ⟨_, h.1, idx_sign c, h.2.symm⟩

set_option maxHeartbeats 1000000 in
theorem class_any (c : UInt8) (w : World) :
    Calls Tryz.prog 31 #[.int .u8 (c.toNat : Int)] w fun e w' => e = .returned (.int .i64 (classF c)) ∧ w = w' := by
  generalize hN : classF c = N
  have HN := Lib.hid hN; clear hN
  go_enter Tryz.func31, Tryz.ntmps31
  go_wp2_with (first | (go_at_call 56; refine (index_sign _ _).mono ?_; rintro e w' ⟨n, rfl, hn, rfl⟩; have Hn := Lib.hid hn; clear hn))
  all_goals
    go_ret
    refine ⟨ret_int ?_, rfl⟩
    rw [← HN.out]
    try simp only [beq_iff_eq, beq_eq_false_iff_ne, ne_eq] at *
    first
    | exact (class_letter (by omega)).symm
    | exact (class_digit (by omega)).symm
    | exact (class_line (by omega)).symm
    | exact (class_space (by omega)).symm
    | (rw [class_rest (by omega) (by omega) (by omega) (by omega), ← Hn.out]; simp [*])

end Go.Proofs.YtlaifodlnolndaaGreatDoor

/- Names: the program's Name and the document's Name return what one Lean function computes. -/
namespace Go.Proofs.YtlaifodlnolndaaGreatDoor
open Go.RowKit

def nameB : List UInt8 → Bool
  | [] => false
  | c :: r => decide ((c :: r).length ≤ 32) && letterB c && (c :: r).all partB

theorem take_snoc (s : ByteArray) (k : Nat) (h : k < s.size) : s.data.toList.take (k + 1) = s.data.toList.take k ++ [s[k]] := by
  rw [List.take_succ_eq_append_getElem (by simpa using h)]; rfl
theorem length_toList (s : ByteArray) : s.data.toList.length = s.size := by simp
theorem nameB_of {s : ByteArray} (h : 0 < s.size) : nameB s.data.toList = (decide (s.size ≤ 32) && letterB (s[0]) && s.data.toList.all partB) := by
  obtain ⟨⟨l⟩⟩ := s
  cases l with
  | nil => simp [ByteArray.size] at h
  | cons c r => rfl
theorem nameB_empty {s : ByteArray} (h : ¬ 0 < s.size) : nameB s.data.toList = false := by
  obtain ⟨⟨l⟩⟩ := s
  cases l with
  | nil => rfl
  | cons c r => simp [ByteArray.size] at h
theorem nameB_long {s : ByteArray} (h0 : 0 < s.size) (h : ¬ s.size ≤ 32) : nameB s.data.toList = false := by rw [nameB_of h0]; simp [h]
theorem nameB_first {s : ByteArray} (h0 : 0 < s.size) (h : letterB s[0] = false) : nameB s.data.toList = false := by rw [nameB_of h0]; simp [h]
theorem nameB_part {s : ByteArray} {k : Nat} (hk : k < s.size) (h : partB s[k] = false) : nameB s.data.toList = false := by
  rw [nameB_of (by omega)]
  have : s.data.toList.all partB = false := by
    rw [List.all_eq_false]
    exact ⟨s[k], by rw [Array.mem_toList_iff]; exact Array.getElem_mem _, by simp [h]⟩
  rw [this]; simp
theorem nameB_yes {s : ByteArray} (h0 : 0 < s.size) (h32 : s.size ≤ 32) (h : letterB s[0] = true) (ha : (s.data.toList.take s.size).all partB = true) : nameB s.data.toList = true := by
  rw [List.take_of_length_le (by simp)] at ha
  rw [nameB_of h0, ha, h]; simp [h32]
theorem all_next {s : ByteArray} {k : Nat} (hk : k < s.size) (hn : (s.data.toList.take k).all partB = true) (h : partB s[k] = true) : (s.data.toList.take (k + 1)).all partB = true := by
  rw [take_snoc s k hk, List.all_append, hn]; simp [h]

/- the value of a row of digits, as the document reads it: none if it is greater than 2^40 -/
def numF : Nat → List UInt8 → Option Nat
  | n, [] => some n
  | n, c :: r => if 10 * n + (c.toNat - 48) > 1099511627776 then none else numF (10 * n + (c.toNat - 48)) r
def refNumber (l : List UInt8) : Int × Bool :=
  match numF 0 l with
  | none => (0, false)
  | some n => (n, decide (l.length = 1) || decide (l.head? ≠ some 48))

theorem drop_cons (s : ByteArray) (k : Nat) (h : k < s.size) : s.data.toList.drop k = s[k] :: s.data.toList.drop (k + 1) := by
  rw [List.drop_eq_getElem_cons (by simpa using h)]; rfl

theorem numF_big {s : ByteArray} {k n : Nat} (hk : k < s.size) (h : 10 * n + (s[k].toNat - 48) > 1099511627776) : numF n (s.data.toList.drop k) = none := by
  rw [drop_cons s k hk, numF, if_pos h]
theorem numF_next {s : ByteArray} {k n : Nat} (hk : k < s.size) (h : ¬ 10 * n + (s[k].toNat - 48) > 1099511627776) : numF n (s.data.toList.drop k) = numF (10 * n + (s[k].toNat - 48)) (s.data.toList.drop (k + 1)) := by
  rw [drop_cons s k hk, numF, if_neg h]
theorem digit_le {c : UInt8} (h : digitB c = true) : 48 ≤ c.toNat ∧ c.toNat ≤ 57 := by simpa [digitB] using h
theorem ref_none {l : List UInt8} (h : numF 0 l = none) : refNumber l = (0, false) := by unfold refNumber; rw [h]
theorem ref_some {l : List UInt8} {n : Nat} (h : numF 0 l = some n) : refNumber l = ((n : Int), decide (l.length = 1) || decide (l.head? ≠ some 48)) := by unfold refNumber; rw [h]

theorem ret_ib {a a' : Int} {b b' : Bool} (h : a = a') (h' : b = b') : Ending.returned (.tuple #[.int .i64 a, .bool b]) = .returned (.tuple #[.int .i64 a', .bool b']) := by rw [h, h']
theorem head_ne (s : ByteArray) (h : 0 < s.size) : decide (s.data.toList.head? ≠ some 48) = ((s[0].toNat : Int) != 48) := by
  obtain ⟨⟨l⟩⟩ := s
  cases l with
  | nil => simp [ByteArray.size] at h
  | cons c r =>
    show decide (some c ≠ some 48) = ((c.toNat : Int) != 48)
    rw [Bool.eq_iff_iff]
    simp only [ne_eq, Option.some.injEq, decide_eq_true_eq, bne_iff_ne]
    rw [← UInt8.toNat_inj]
    show ¬ c.toNat = 48 ↔ _
    omega

/- tokens -/
structure Tok where
  kind : Int
  text : ByteArray
  n : Int
  at_ : Int
def Tok.cells (t : Tok) : Array Value := #[.int .i64 t.kind, .string t.text, .int .i64 t.n, .int .i64 t.at_]
def Tok.i64 (t : Tok) : Prop := (-9223372036854775808 ≤ t.kind ∧ t.kind ≤ 9223372036854775807) ∧ (-9223372036854775808 ≤ t.n ∧ t.n ≤ 9223372036854775807) ∧ (-9223372036854775808 ≤ t.at_ ∧ t.at_ ≤ 9223372036854775807) ∧ t.text.size ≤ maxLen

def signT : List UInt8 → Bool
  | [c] => signB c
  | _ => false
theorem signT_yes {s : ByteArray} (h : (s.size : Int) = 1) : signT s.data.toList = signB (s[0]'(by omega)) := by
  obtain ⟨⟨l⟩⟩ := s
  match l, h with
  | [], h => simp [ByteArray.size] at h
  | [c], _ => rfl
  | _ :: _ :: _, h => simp [ByteArray.size] at h; omega
theorem signT_no {s : ByteArray} (h : ¬ (s.size : Int) = 1) : signT s.data.toList = false := by
  obtain ⟨⟨l⟩⟩ := s
  match l, h with
  | [], h => rfl
  | [c], h => simp [ByteArray.size] at h
  | _ :: _ :: _, h => rfl
def validB (t : Tok) : Bool :=
  if t.kind == 1 then nameB t.text.data.toList && t.n == 0
  else if t.kind == 2 then t.text.data.toList.isEmpty && (decide (0 ≤ t.n) && decide (t.n ≤ 1099511627776))
  else if t.kind == 3 then signT t.text.data.toList && t.n == 0
  else false
theorem valid_name {t : Tok} (h : (t.kind == 1) = true) : validB t = (nameB t.text.data.toList && t.n == 0) := by unfold validB; rw [if_pos h]
theorem valid_number {t : Tok} (h1 : (t.kind == 1) = false) (h : (t.kind == 2) = true) : validB t = (t.text.data.toList.isEmpty && (decide (0 ≤ t.n) && decide (t.n ≤ 1099511627776))) := by
  unfold validB; rw [if_neg (by rw [h1]; simp), if_pos h]
theorem valid_sign {t : Tok} (h1 : (t.kind == 1) = false) (h2 : (t.kind == 2) = false) (h : (t.kind == 3) = true) : validB t = (signT t.text.data.toList && t.n == 0) := by
  unfold validB; rw [if_neg (by rw [h1]; simp), if_neg (by rw [h2]; simp), if_pos h]
theorem valid_none {t : Tok} (h1 : (t.kind == 1) = false) (h2 : (t.kind == 2) = false) (h : (t.kind == 3) = false) : validB t = false := by
  unfold validB; rw [if_neg (by rw [h1]; simp), if_neg (by rw [h2]; simp), if_neg (by rw [h]; simp)]

end Go.Proofs.YtlaifodlnolndaaGreatDoor

/- The program's Name and valid return what the document's do. -/
namespace Go.Proofs.YtlaifodlnolndaaGreatDoor
open Go.RowKit

theorem all_u8 (P : UInt8 → Bool) (h : (List.range 256).all (fun n => P n.toUInt8) = true) (c : UInt8) : P c = true := by
  have := List.all_eq_true.1 h c.toNat (by rw [List.mem_range]; exact c.toNat_lt)
  simpa using this
theorem class_2 (c : UInt8) : (classF c == 2) = letterB c := by
  have := all_u8 (fun c => (classF c == 2) == letterB c) (by decide +kernel) c
  simpa using this
theorem class_4 (c : UInt8) : (classF c == 4) = signB c := by
  have := all_u8 (fun c => (classF c == 4) == signB c) (by decide +kernel) c
  simpa using this
theorem class_3 (c : UInt8) : (classF c == 3) = digitB c := by
  have := all_u8 (fun c => (classF c == 3) == digitB c) (by decide +kernel) c
  simpa using this
theorem class_1 (c : UInt8) : (classF c == 1) = spaceB c := by
  have := all_u8 (fun c => (classF c == 1) == spaceB c) (by decide +kernel) c
  simpa using this
theorem class_p (c : UInt8) : (classF c == 2 || classF c == 3 || classF c == 5) = partB c := by
  have := all_u8 (fun c => (classF c == 2 || classF c == 3 || classF c == 5) == partB c) (by decide +kernel) c
  simpa using this
theorem class_range (c : UInt8) : 0 ≤ classF c ∧ classF c ≤ 5 := by
  have := all_u8 (fun c => decide (0 ≤ classF c) && decide (classF c ≤ 5)) (by decide +kernel) c
  simpa using this

theorem not_empty {s : ByteArray} (h : 0 < s.size) : s.toList.isEmpty = false := by
  rw [ByteArray.toList_eq, List.isEmpty_eq_false_iff]; intro e; have := length_toList s; rw [e] at this; simp at this; omega
theorem is_empty {s : ByteArray} (h : ¬ 0 < s.size) : s.toList.isEmpty = true := by
  rw [ByteArray.toList_eq, List.isEmpty_iff, ← List.length_eq_zero_iff, length_toList]; omega

/-- class, told with its value hidden -/
theorem class_ex (c : UInt8) (w : World) :
    Calls Tryz.prog 31 #[.int .u8 (c.toNat : Int)] w fun e w' => ∃ n : Int, Hid (classF c = n) ∧ e = .returned (.int .i64 n) ∧ w = w' :=
  (class_any c w).mono fun _ _ h => ⟨_, rfl, h⟩

theorem cl_first {c : UInt8} {n : Int} (h : Hid (classF c = n)) (h2 : (n != 2) = true) : letterB c = false := by
  have := class_2 c
  rw [h.out] at this
  rw [← this]
  simpa using h2
theorem cl_first' {c : UInt8} {n : Int} (h : Hid (classF c = n)) (h2 : (n != 2) = false) : letterB c = true := by
  have := class_2 c
  rw [h.out] at this
  rw [← this]
  simpa using h2
theorem cl_part {c : UInt8} {n : Int} (h : Hid (classF c = n)) (h2 : (n != 2) = true ∧ (n != 3) = true ∧ (n != 5) = true) : partB c = false := by
  have := class_p c
  rw [h.out] at this
  rw [← this]
  simpa [and_assoc] using h2
theorem cl_part' {c : UInt8} {n : Int} (h : Hid (classF c = n)) (h2 : n = 2 ∨ n = 3 ∨ n = 5) : partB c = true := by
  have := class_p c
  rw [h.out] at this
  rw [← this]
  simpa [or_assoc] using h2

theorem class_is (c : UInt8) (n : Int) (h : classF c = n) (w : World) :
    Calls Tryz.prog 31 #[.int .u8 (c.toNat : Int)] w fun e w' => e = .returned (.int .i64 n) ∧ w = w' := by
  rw [← h]; exact class_any c w
theorem cl_letter {c : UInt8} (h : letterB c = true) : classF c = 2 := by
  have := class_2 c
  rw [h] at this
  simpa using this
theorem class_noletter (c : UInt8) (h : letterB c = false) (w : World) :
    Calls Tryz.prog 31 #[.int .u8 (c.toNat : Int)] w fun e w' => ∃ n : Int, (n != 2) = true ∧ e = .returned (.int .i64 n) ∧ w = w' :=
  (class_any c w).mono fun _ _ hh => ⟨_, by have := class_2 c; rw [h] at this; simpa using this, hh⟩
theorem class_part (c : UInt8) (h : partB c = true) (w : World) :
    Calls Tryz.prog 31 #[.int .u8 (c.toNat : Int)] w fun e w' => ∃ n : Int, (n = 2 ∨ n = 3 ∨ n = 5) ∧ e = .returned (.int .i64 n) ∧ w = w' :=
  (class_any c w).mono fun _ _ hh => ⟨_, by have := class_p c; rw [h] at this; simpa [or_assoc] using this, hh⟩
theorem class_nopart (c : UInt8) (h : partB c = false) (w : World) :
    Calls Tryz.prog 31 #[.int .u8 (c.toNat : Int)] w fun e w' => ∃ n : Int, (n != 2) = true ∧ (n != 3) = true ∧ (n != 5) = true ∧ e = .returned (.int .i64 n) ∧ w = w' :=
  (class_any c w).mono fun _ _ hh => ⟨_, by have := class_p c; rw [h] at this; simp at this; simp [this], by have := class_p c; rw [h] at this; simp at this; simp [this], by have := class_p c; rw [h] at this; simp at this; simp [this], hh⟩

set_option maxHeartbeats 1000000 in
theorem name_any (s : ByteArray) (w : World) (hs : s.size ≤ maxLen) :
    Calls Tryz.prog 83 #[.string s] w fun e w' => e = .returned (.bool (nameB s.data.toList)) ∧ w = w' := by
  unfold maxLen at hs
  generalize hN : nameB s.data.toList = N
  have HN := Lib.hid hN; clear hN
  by_cases h0 : 0 < s.size
  · have hne := not_empty h0
    by_cases h32 : s.size ≤ 32
    · have hd32 : decide (32 < (s.size : Int)) = false := by simp; omega
      by_cases hl : letterB s[0] = true
      · have Hl := Lib.hid hl; clear hl
        go_enter Tryz.func83, Tryz.ntmps83
        go_wp2_with (first | (go_at_call 31; refine (class_is _ 2 (cl_letter Hl.out) _).mono ?_; rintro e w' ⟨rfl, rfl⟩))
        go_loop [3, 4, 20] (fun _ _ i => ∃ k : Nat, k ≤ s.size ∧ i = .int .i64 k ∧ (s.data.toList.take k).all partB = true) (fun _ _ i => s.size - (intOf i).toNat)
        case atStart => exact ⟨0, by omega, rfl, rfl⟩
        case round =>
          obtain ⟨k, hk, rfl, hn⟩ := hrel
          have Hn := Lib.hid hn; clear hn
          by_cases hlt : k < s.size
          · by_cases hp : partB s[k] = true
            · have Hp := Lib.hid hp; clear hp
              go_wp2_with (first | (go_at_call 31; refine (class_part _ Hp.out _).mono ?_; rintro e w' ⟨n1, (rfl | rfl | rfl), rfl, rfl⟩))
              all_goals exact ⟨⟨k + 1, by omega, by go_num, all_next hlt Hn.out Hp.out⟩, by simp [intOf]; omega⟩
            · have Hp := Lib.hid (Bool.eq_false_iff.2 hp); clear hp
              go_wp2_with (first | (go_at_call 31; refine (class_nopart _ Hp.out _).mono ?_; rintro e w' ⟨n1, c2, c3, c5, rfl, rfl⟩))
              go_ret
              exact ⟨ret_bool (by rw [← HN.out, nameB_part hlt Hp.out]), rfl⟩
          · go_wp2
            go_ret
            obtain rfl : k = s.size := by omega
            exact ⟨ret_bool (by rw [← HN.out, nameB_yes h0 h32 Hl.out Hn.out]), rfl⟩
      · have Hl := Lib.hid (Bool.eq_false_iff.2 hl); clear hl
        go_enter Tryz.func83, Tryz.ntmps83
        go_wp2_with (first | (go_at_call 31; refine (class_noletter _ Hl.out _).mono ?_; rintro e w' ⟨n0, hn0, rfl, rfl⟩))
        go_ret
        exact ⟨ret_bool (by rw [← HN.out, nameB_first h0 Hl.out]), rfl⟩
    · go_enter Tryz.func83, Tryz.ntmps83
      go_wp2_with fail
      go_ret
      exact ⟨ret_bool (by rw [← HN.out, nameB_long h0 h32]), rfl⟩
  · have hne := is_empty h0
    go_enter Tryz.func83, Tryz.ntmps83
    go_wp2_with fail
    go_ret
    exact ⟨ret_bool (by rw [← HN.out, nameB_empty h0]), rfl⟩

theorem class_sign (c : UInt8) (w : World) :
    Calls Tryz.prog 31 #[.int .u8 (c.toNat : Int)] w fun e w' => ∃ n : Int, (n == 4) = signB c ∧ e = .returned (.int .i64 n) ∧ w = w' :=
  (class_any c w).mono fun _ _ hh => ⟨_, class_4 c, hh⟩

set_option maxHeartbeats 1000000 in
theorem valid_any (t : Tok) (w : World) (ht : t.text.size ≤ maxLen) :
    Calls Tryz.prog 71 #[.agg t.cells] w fun e w' => e = .returned (.bool (validB t)) ∧ Below w.heap.size w w' := by
  obtain ⟨kd, tx, n, a⟩ := t
  unfold Tok.cells
  dsimp only at ht ⊢
  generalize hN : validB _ = N
  have HN := Lib.hid hN; clear hN
  go_enter Tryz.func71, Tryz.ntmps71
  go_wp2_with (first | (go_at_call 83; refine (name_any _ _ ht).mono ?_; rintro e w' ⟨rfl, rfl⟩) | (go_at_call 31; refine (class_sign _ _).mono ?_; rintro e w' ⟨n1, hn1, rfl, rfl⟩))
  all_goals go_ret
  all_goals
    refine ⟨ret_bool ?_, (Below.refl _ _).alloc (Nat.le_refl _) _⟩
    rw [← HN.out]
    try simp only [ByteArray.toList_eq] at *
    first
    | (rw [valid_name ‹_›]; simp [*]; done)
    | (rw [valid_number ‹_› ‹_›]; simp [*]; done)
    | (rw [valid_number ‹_› ‹_›]; simp [*]; omega)
    | (rw [valid_sign ‹_› ‹_› ‹_›, signT_yes ‹_›]; simp [*]; done)
    | (rw [valid_sign ‹_› ‹_› ‹_›, signT_no ‹_›]; simp [*]; done)
    | (rw [valid_none ‹_› ‹_› ‹_›]; done)
    | (rw [valid_number ‹_› ‹_›, List.isEmpty_eq_false_iff.2 ‹_›]; simp; done)

end Go.Proofs.YtlaifodlnolndaaGreatDoor

/- Lists of tokens: the comparisons. -/
namespace Go.Proofs.YtlaifodlnolndaaGreatDoor
open Go.RowKit

/- a slice of tokens that lies in memory from block b, offset off, on -/
def RowToks (w : World) (b off : Nat) (ts : List Tok) : Prop :=
  ∀ i (h : i < ts.length), w.cell? ⟨b, off + i * 4, none⟩ = some (.int .i64 ts[i].kind) ∧ w.cell? ⟨b, off + i * 4 + 1, none⟩ = some (.string ts[i].text) ∧
    w.cell? ⟨b, off + i * 4 + 2, none⟩ = some (.int .i64 ts[i].n) ∧ w.cell? ⟨b, off + i * 4 + 3, none⟩ = some (.int .i64 ts[i].at_)
def IsToks (w : World) (v : Value) (ts : List Tok) : Prop :=
  ts.length ≤ 9223372036854775807 ∧ (∀ t ∈ ts, t.text.size ≤ maxLen) ∧
  ((ts = [] ∧ ∃ a cap, v = .slice a 0 cap) ∨ ∃ b off cap, v = .slice (some ⟨b, off, none⟩) ts.length cap ∧ b < w.heap.size ∧ RowToks w b off ts)

def sameT (a b : Tok) : Bool := a.kind == b.kind && (a.text.data.toList == b.text.data.toList && a.n == b.n)
def sameB : List Tok → List Tok → Bool
  | [], [] => true
  | a :: r, b :: q => sameT a b && sameB r q
  | _, _ => false

theorem sameB_step {xs ys : List Tok} {k : Nat} (hx : k < xs.length) (hy : k < ys.length) : sameB (xs.drop k) (ys.drop k) = (sameT xs[k] ys[k] && sameB (xs.drop (k + 1)) (ys.drop (k + 1))) := by
  rw [List.drop_eq_getElem_cons hx, List.drop_eq_getElem_cons hy, sameB]
theorem sameB_end {xs ys : List Tok} (hl : xs.length = ys.length) : sameB (xs.drop xs.length) (ys.drop xs.length) = true := by
  rw [List.drop_of_length_le (Nat.le_refl _), List.drop_of_length_le (by omega)]; rfl
theorem sameB_len : ∀ {xs ys : List Tok}, xs.length ≠ ys.length → sameB xs ys = false
  | [], [], h => (h rfl).elim
  | [], _ :: _, _ => rfl
  | _ :: _, [], _ => rfl
  | _ :: r, _ :: q, h => by
    rw [sameB, sameB_len (by simpa using h)]; simp
theorem drewN_drewN (w : World) (a b : Nat) : (w.drewN a).drewN b = w.drewN (a + b) := by
  simp [World.drewN, Nat.add_assoc]

theorem text_ne {a b : ByteArray} (h : ¬ a = b) : (a.toList == b.toList) = false := by
  rw [beq_eq_false_iff_ne]
  intro e
  rw [ByteArray.toList_eq, ByteArray.toList_eq] at e
  exact h (ByteArray.ext (Array.toList_inj.1 e))

end Go.Proofs.YtlaifodlnolndaaGreatDoor

/- Lists of tokens: the program's Same, and the document's Equal and Few. -/
namespace Go.Proofs.YtlaifodlnolndaaGreatDoor
open Go.RowKit

end Go.Proofs.YtlaifodlnolndaaGreatDoor

/- Lists of tokens: the document's Equal and Few. -/
namespace Go.Proofs.YtlaifodlnolndaaGreatDoor
open Go.RowKit

def atsB : List Tok → List Tok → Bool
  | a :: r, b :: q => a.at_ == b.at_ && atsB r q
  | _, _ => true
def equalB (xs ys : List Tok) : Bool := sameB xs ys && atsB xs ys
theorem atsB_step {xs ys : List Tok} {k : Nat} (hx : k < xs.length) (hy : k < ys.length) : atsB (xs.drop k) (ys.drop k) = (xs[k].at_ == ys[k].at_ && atsB (xs.drop (k + 1)) (ys.drop (k + 1))) := by
  rw [List.drop_eq_getElem_cons hx, List.drop_eq_getElem_cons hy, atsB]
theorem atsB_end {xs ys : List Tok} : atsB (xs.drop xs.length) (ys.drop xs.length) = true := by
  rw [List.drop_of_length_le (Nat.le_refl _)]; cases ys.drop xs.length <;> rfl
theorem sameB_length : ∀ {xs ys : List Tok}, sameB xs ys = true → xs.length = ys.length := by
  intro xs ys h
  apply Classical.byContradiction
  intro hne
  rw [sameB_len hne] at h
  simp at h

/- few, and short -/
def fewB (l : List Tok) : Bool := decide (l.length ≤ 200) && decide ((l.map (·.text.size)).sum ≤ 2000)

end Go.Proofs.YtlaifodlnolndaaGreatDoor

/- Few: tokens are few, and short. -/
namespace Go.Proofs.YtlaifodlnolndaaGreatDoor
open Go.RowKit

theorem IsToks.size {w : World} {v : Value} {ts : List Tok} (h : IsToks w v ts) : ∃ a cap, v = .slice a ts.length cap := by
  obtain ⟨_, _, ⟨rfl, a, c, rfl⟩ | ⟨b, o, c, rfl, _⟩⟩ := h
  · exact ⟨a, c, rfl⟩
  · exact ⟨_, _, rfl⟩

def sumT (ts : List Tok) : Nat := (ts.map (·.text.size)).sum
theorem sumT_step {xs : List Tok} {k : Nat} (hx : k < xs.length) : sumT (xs.take (k + 1)) = sumT (xs.take k) + xs[k].text.size := by
  unfold sumT
  rw [List.take_succ_eq_append_getElem hx]
  simp only [List.map_append, List.sum_append, List.map_cons, List.map_nil, List.sum_cons, List.sum_nil, Nat.add_zero]
theorem sumT_le {xs : List Tok} (B : Nat) (h : ∀ t ∈ xs, t.text.size ≤ B) : ∀ k, sumT (xs.take k) ≤ k * B := by
  intro k
  induction k with
  | zero => simp [sumT]
  | succ k ih =>
    by_cases hx : k < xs.length
    · rw [sumT_step hx]
      have := h _ (List.getElem_mem hx)
      rw [Nat.add_mul]; omega
    · rw [List.take_of_length_le (by omega)] at ih ⊢
      rw [Nat.add_mul]; omega

end Go.Proofs.YtlaifodlnolndaaGreatDoor

/- The digits of a number: Decimal and spelled. -/
namespace Go.Proofs.YtlaifodlnolndaaGreatDoor
open Go.RowKit
open Go.Lib (decDigits)

theorem dec_lt {m : Nat} (h : m < 10) : decDigits m = [UInt8.ofNat (48 + m % 10)] := by
  rw [decDigits, dif_pos h, Nat.mod_eq_of_lt h]
theorem dec_ge {m : Nat} (h : ¬ m < 10) : decDigits m = decDigits (m / 10) ++ [UInt8.ofNat (48 + m % 10)] := by
  rw [decDigits, dif_neg h]
theorem dec_pos (m : Nat) : 0 < (decDigits m).length := by
  by_cases h : m < 10
  · rw [dec_lt h]; simp
  · rw [dec_ge h]; simp
theorem dec_len : ∀ (k m : Nat), m < 10 ^ (k + 1) → (decDigits m).length ≤ k + 1
  | 0, m, h => by rw [dec_lt (by omega)]; simp
  | k + 1, m, h => by
    by_cases h1 : m < 10
    · rw [dec_lt h1]; simp
    · rw [dec_ge h1]
      have := dec_len k (m / 10) (by rw [Nat.pow_succ] at h; omega)
      simp; omega

def oneB (n : Int) : ByteArray := ⟨#[UInt8.ofNat n.toNat]⟩
theorem oneB_size (n : Int) : (oneB n).size = 1 := rfl
theorem conv_one (w : World) (n : Int) : (convert 59 9 (.slice (some ⟨w.heap.size, 0, none⟩) 1 1)).run Tryz.prog (w.alloc (.cells #[.int .u8 n] 5)) = .ok (.string (oneB n)) (w.alloc (.cells #[.int .u8 n] 5)) := by
  have h := run_convert_bytes_arg (P := Tryz.prog) (w.alloc (.cells #[.int .u8 n] 5)) 59 5 Tryz.underlying59 Tryz.underlying5 w.heap.size 0 1 1 [n] rfl (fun i hi => by
    obtain rfl : i = 0 := by omega
    simp [go_sem]) 9 Tryz.underlying9
  rw [h]; rfl
theorem oneB_list (n : Int) : (oneB n).data.toList = [UInt8.ofNat n.toNat] := rfl
theorem dig_eq (m : Nat) : UInt8.ofNat ((48 + (m : Int) % 10).toNat) = UInt8.ofNat (48 + m % 10) := by
  congr 1

theorem data_app (a b : ByteArray) : (a ++ b).data.toList = a.data.toList ++ b.data.toList := by simp [ByteArray.data_append]
theorem ret_str {s : ByteArray} {l : List UInt8} (h : s.data.toList = l) : Ending.returned (.string s) = .returned (.string ⟨l.toArray⟩) := by
  subst h; rfl

end Go.Proofs.YtlaifodlnolndaaGreatDoor

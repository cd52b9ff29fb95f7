/- The program's lex.Name: what is a name. -/
import Derived.Test.YtapejaabhkfhjaaMShelf
import Derived.Test.YtapejaabhkfhjaaMNa
namespace Go.Proofs.Ytapejaabhkfhjaa
open Go.RowKit

def letterB (c : UInt8) : Bool := (97 ≤ c.toNat && c.toNat ≤ 122) || (65 ≤ c.toNat && c.toNat ≤ 90)
def digitB (c : UInt8) : Bool := 48 ≤ c.toNat && c.toNat ≤ 57
def spaceB (c : UInt8) : Bool := c.toNat == 32 || c.toNat == 9 || c.toNat == 10 || c.toNat == 13
def partB (c : UInt8) : Bool := letterB c || digitB c || c.toNat == 95
def signs : List UInt8 := [123, 125, 40, 41, 59, 44, 61, 58, 46, 60, 62, 33, 43, 45, 42, 47]
def signB (c : UInt8) : Bool := signs.contains c

/- the classes of bytes -/
def classF (c : UInt8) : Int := if letterB c then 2 else if digitB c then 3 else if c.toNat == 95 then 5 else if spaceB c then 1 else if signB c then 4 else 0

theorem class_letter {c : UInt8} (h : (97 ≤ c.toNat ∧ c.toNat ≤ 122) ∨ (65 ≤ c.toNat ∧ c.toNat ≤ 90)) : classF c = 2 := by
  have : letterB c = true := by simp [letterB]; omega
  simp [classF, this]
theorem nl {c : UInt8} (h : ¬ ((97 ≤ c.toNat ∧ c.toNat ≤ 122) ∨ (65 ≤ c.toNat ∧ c.toNat ≤ 90))) : letterB c = false := by
  rw [Bool.eq_false_iff]; simp [letterB]; omega
theorem class_digit {c : UInt8} (h : 48 ≤ c.toNat ∧ c.toNat ≤ 57) : classF c = 3 := by
  have : digitB c = true := by simp [digitB]; omega
  simp [classF, this, nl (c := c) (by omega)]
theorem nd {c : UInt8} (h : ¬ (48 ≤ c.toNat ∧ c.toNat ≤ 57)) : digitB c = false := by
  rw [Bool.eq_false_iff]; simp [digitB]; omega
theorem class_line {c : UInt8} (h : c.toNat = 95) : classF c = 5 := by
  simp [classF, nd (c := c) (by omega), nl (c := c) (by omega), h]
theorem class_space {c : UInt8} (h : c.toNat = 32 ∨ c.toNat = 9 ∨ c.toNat = 10 ∨ c.toNat = 13) : classF c = 1 := by
  have : spaceB c = true := by simp [spaceB]; omega
  have h2 : (c.toNat == 95) = false := by rw [Bool.eq_false_iff]; simp; omega
  simp [classF, nd (c := c) (by omega), nl (c := c) (by omega), h2, this]
theorem class_rest {c : UInt8} (h : ¬ ((97 ≤ c.toNat ∧ c.toNat ≤ 122) ∨ (65 ≤ c.toNat ∧ c.toNat ≤ 90))) (h1 : ¬ (48 ≤ c.toNat ∧ c.toNat ≤ 57)) (h2 : ¬ c.toNat = 95)
    (h3 : ¬ (c.toNat = 32 ∨ c.toNat = 9 ∨ c.toNat = 10 ∨ c.toNat = 13)) : classF c = if signB c then 4 else 0 := by
  have h4 : spaceB c = false := by rw [Bool.eq_false_iff]; simp [spaceB]; omega
  simp [classF, nd h1, nl h, h2, h4]

theorem idx_sign (c : UInt8) : (decide (0 ≤ Lib.indexByte signs ((c.toNat : Int)).toNat.toUInt8)) = signB c := by
  have : ((c.toNat : Int)).toNat.toUInt8 = c := by simp
  rw [this]; exact (Lib.contains_iff_indexByte signs c).symm
theorem index_sign (c : UInt8) (w : World) : Calls Try.prog 97 #[.string { data := #[123, 125, 40, 41, 59, 44, 61, 58, 46, 60, 62, 33, 43, 45, 42, 47] }, .int .u8 (c.toNat : Int)] w fun e w' => ∃ n : Int, e = .returned (.int .i64 n) ∧ decide (0 ≤ n) = signB c ∧ w = w' :=
  (Try.strings_IndexByte _ _ w).mono fun _ _ h => ⟨_, h.1, idx_sign c, h.2.symm⟩

set_option maxHeartbeats 1000000 in
theorem class_any (c : UInt8) (w : World) :
    Calls Try.prog 91 #[.int .u8 (c.toNat : Int)] w fun e w' => e = .returned (.int .i64 (classF c)) ∧ w = w' := by
  generalize hN : classF c = N
  have HN := Lib.hid hN; clear hN
  go_enter Try.func91, Try.ntmps91
  go_wp2_with (first | (go_at_call 97; refine (index_sign _ _).mono ?_; rintro e w' ⟨n, rfl, hn, rfl⟩; have Hn := Lib.hid hn; clear hn))
  all_goals
    go_ret
    refine ⟨ret_int ?_, rfl⟩
    rw [← HN.out]
    try simp only [beq_iff_eq, beq_eq_false_iff_ne, ne_eq] at *
    first
    | exact (class_letter (by omega)).symm
    | exact (class_digit (by omega)).symm
    | exact (class_line (by omega)).symm
    | exact (class_space (by omega)).symm
    | (rw [class_rest (by omega) (by omega) (by omega) (by omega), ← Hn.out]; simp [*])


def nameB : List UInt8 → Bool
  | [] => false
  | c :: r => decide ((c :: r).length ≤ 32) && letterB c && (c :: r).all partB

theorem take_snoc (s : ByteArray) (k : Nat) (h : k < s.size) : s.data.toList.take (k + 1) = s.data.toList.take k ++ [s[k]] := by
  rw [List.take_succ_eq_append_getElem (by simpa using h)]; rfl
theorem length_toList (s : ByteArray) : s.data.toList.length = s.size := by simp
theorem nameB_of {s : ByteArray} (h : 0 < s.size) : nameB s.data.toList = (decide (s.size ≤ 32) && letterB (s[0]) && s.data.toList.all partB) := by
  obtain ⟨⟨l⟩⟩ := s
  cases l with
  | nil => simp [ByteArray.size] at h
  | cons c r => rfl
theorem nameB_empty {s : ByteArray} (h : ¬ 0 < s.size) : nameB s.data.toList = false := by
  obtain ⟨⟨l⟩⟩ := s
  cases l with
  | nil => rfl
  | cons c r => simp [ByteArray.size] at h
theorem nameB_long {s : ByteArray} (h0 : 0 < s.size) (h : ¬ s.size ≤ 32) : nameB s.data.toList = false := by rw [nameB_of h0]; simp [h]
theorem nameB_first {s : ByteArray} (h0 : 0 < s.size) (h : letterB s[0] = false) : nameB s.data.toList = false := by rw [nameB_of h0]; simp [h]
theorem nameB_part {s : ByteArray} {k : Nat} (hk : k < s.size) (h : partB s[k] = false) : nameB s.data.toList = false := by
  rw [nameB_of (by omega)]
  have : s.data.toList.all partB = false := by
    rw [List.all_eq_false]
    exact ⟨s[k], by rw [Array.mem_toList_iff]; exact Array.getElem_mem _, by simp [h]⟩
  rw [this]; simp
theorem nameB_yes {s : ByteArray} (h0 : 0 < s.size) (h32 : s.size ≤ 32) (h : letterB s[0] = true) (ha : (s.data.toList.take s.size).all partB = true) : nameB s.data.toList = true := by
  rw [List.take_of_length_le (by simp)] at ha
  rw [nameB_of h0, ha, h]; simp [h32]
theorem all_next {s : ByteArray} {k : Nat} (hk : k < s.size) (hn : (s.data.toList.take k).all partB = true) (h : partB s[k] = true) : (s.data.toList.take (k + 1)).all partB = true := by
  rw [take_snoc s k hk, List.all_append, hn]; simp [h]

theorem all_u8 (P : UInt8 → Bool) (h : (List.range 256).all (fun n => P n.toUInt8) = true) (c : UInt8) : P c = true := by
  have := List.all_eq_true.1 h c.toNat (by rw [List.mem_range]; exact c.toNat_lt)
  simpa using this
theorem class_2 (c : UInt8) : (classF c == 2) = letterB c := by
  have := all_u8 (fun c => (classF c == 2) == letterB c) (by decide +kernel) c
  simpa using this
theorem class_4 (c : UInt8) : (classF c == 4) = signB c := by
  have := all_u8 (fun c => (classF c == 4) == signB c) (by decide +kernel) c
  simpa using this
theorem class_3 (c : UInt8) : (classF c == 3) = digitB c := by
  have := all_u8 (fun c => (classF c == 3) == digitB c) (by decide +kernel) c
  simpa using this
theorem class_1 (c : UInt8) : (classF c == 1) = spaceB c := by
  have := all_u8 (fun c => (classF c == 1) == spaceB c) (by decide +kernel) c
  simpa using this
theorem class_p (c : UInt8) : (classF c == 2 || classF c == 3 || classF c == 5) = partB c := by
  have := all_u8 (fun c => (classF c == 2 || classF c == 3 || classF c == 5) == partB c) (by decide +kernel) c
  simpa using this
theorem class_range (c : UInt8) : 0 ≤ classF c ∧ classF c ≤ 5 := by
  have := all_u8 (fun c => decide (0 ≤ classF c) && decide (classF c ≤ 5)) (by decide +kernel) c
  simpa using this

theorem not_empty {s : ByteArray} (h : 0 < s.size) : s.toList.isEmpty = false := by
  rw [ByteArray.toList_eq, List.isEmpty_eq_false_iff]; intro e; have := length_toList s; rw [e] at this; simp at this; omega
theorem is_empty {s : ByteArray} (h : ¬ 0 < s.size) : s.toList.isEmpty = true := by
  rw [ByteArray.toList_eq, List.isEmpty_iff, ← List.length_eq_zero_iff, length_toList]; omega

/-- class, told with its value hidden -/
theorem class_ex (c : UInt8) (w : World) :
    Calls Try.prog 91 #[.int .u8 (c.toNat : Int)] w fun e w' => ∃ n : Int, Hid (classF c = n) ∧ e = .returned (.int .i64 n) ∧ w = w' :=
  (class_any c w).mono fun _ _ h => ⟨_, rfl, h⟩

theorem cl_first {c : UInt8} {n : Int} (h : Hid (classF c = n)) (h2 : (n != 2) = true) : letterB c = false := by
  have := class_2 c
  rw [h.out] at this
  rw [← this]
  simpa using h2
theorem cl_first' {c : UInt8} {n : Int} (h : Hid (classF c = n)) (h2 : (n != 2) = false) : letterB c = true := by
  have := class_2 c
  rw [h.out] at this
  rw [← this]
  simpa using h2
theorem cl_part {c : UInt8} {n : Int} (h : Hid (classF c = n)) (h2 : (n != 2) = true ∧ (n != 3) = true ∧ (n != 5) = true) : partB c = false := by
  have := class_p c
  rw [h.out] at this
  rw [← this]
  simpa [and_assoc] using h2
theorem cl_part' {c : UInt8} {n : Int} (h : Hid (classF c = n)) (h2 : n = 2 ∨ n = 3 ∨ n = 5) : partB c = true := by
  have := class_p c
  rw [h.out] at this
  rw [← this]
  simpa [or_assoc] using h2

theorem class_is (c : UInt8) (n : Int) (h : classF c = n) (w : World) :
    Calls Try.prog 91 #[.int .u8 (c.toNat : Int)] w fun e w' => e = .returned (.int .i64 n) ∧ w = w' := by
  rw [← h]; exact class_any c w
theorem cl_letter {c : UInt8} (h : letterB c = true) : classF c = 2 := by
  have := class_2 c
  rw [h] at this
  simpa using this
theorem class_noletter (c : UInt8) (h : letterB c = false) (w : World) :
    Calls Try.prog 91 #[.int .u8 (c.toNat : Int)] w fun e w' => ∃ n : Int, (n != 2) = true ∧ e = .returned (.int .i64 n) ∧ w = w' :=
  (class_any c w).mono fun _ _ hh => ⟨_, by have := class_2 c; rw [h] at this; simpa using this, hh⟩
theorem class_part (c : UInt8) (h : partB c = true) (w : World) :
    Calls Try.prog 91 #[.int .u8 (c.toNat : Int)] w fun e w' => ∃ n : Int, (n = 2 ∨ n = 3 ∨ n = 5) ∧ e = .returned (.int .i64 n) ∧ w = w' :=
  (class_any c w).mono fun _ _ hh => ⟨_, by have := class_p c; rw [h] at this; simpa [or_assoc] using this, hh⟩
theorem class_nopart (c : UInt8) (h : partB c = false) (w : World) :
    Calls Try.prog 91 #[.int .u8 (c.toNat : Int)] w fun e w' => ∃ n : Int, (n != 2) = true ∧ (n != 3) = true ∧ (n != 5) = true ∧ e = .returned (.int .i64 n) ∧ w = w' :=
  (class_any c w).mono fun _ _ hh => ⟨_, by have := class_p c; rw [h] at this; simp at this; simp [this], by have := class_p c; rw [h] at this; simp at this; simp [this], by have := class_p c; rw [h] at this; simp at this; simp [this], hh⟩

set_option maxHeartbeats 1000000 in
theorem name_any (s : ByteArray) (w : World) (hs : s.size ≤ maxLen) :
    Calls Try.prog 69 #[.string s] w fun e w' => e = .returned (.bool (nameB s.data.toList)) ∧ w = w' := by
  unfold maxLen at hs
  generalize hN : nameB s.data.toList = N
  have HN := Lib.hid hN; clear hN
  by_cases h0 : 0 < s.size
  · have hne := not_empty h0
    by_cases h32 : s.size ≤ 32
    · have hd32 : decide (32 < (s.size : Int)) = false := by simp; omega
      by_cases hl : letterB s[0] = true
      · have Hl := Lib.hid hl; clear hl
        go_enter Try.func69, Try.ntmps69
        go_wp2_with (first | (go_at_call 91; refine (class_is _ 2 (cl_letter Hl.out) _).mono ?_; rintro e w' ⟨rfl, rfl⟩))
        go_loop [3, 4, 20] (fun _ _ i => ∃ k : Nat, k ≤ s.size ∧ i = .int .i64 k ∧ (s.data.toList.take k).all partB = true) (fun _ _ i => s.size - (intOf i).toNat)
        case atStart => exact ⟨0, by omega, rfl, rfl⟩
        case round =>
          obtain ⟨k, hk, rfl, hn⟩ := hrel
          have Hn := Lib.hid hn; clear hn
          by_cases hlt : k < s.size
          · by_cases hp : partB s[k] = true
            · have Hp := Lib.hid hp; clear hp
              go_wp2_with (first | (go_at_call 91; refine (class_part _ Hp.out _).mono ?_; rintro e w' ⟨n1, (rfl | rfl | rfl), rfl, rfl⟩))
              all_goals exact ⟨⟨k + 1, by omega, by go_num, all_next hlt Hn.out Hp.out⟩, by simp [intOf]; omega⟩
            · have Hp := Lib.hid (Bool.eq_false_iff.2 hp); clear hp
              go_wp2_with (first | (go_at_call 91; refine (class_nopart _ Hp.out _).mono ?_; rintro e w' ⟨n1, c2, c3, c5, rfl, rfl⟩))
              go_ret
              exact ⟨ret_bool (by rw [← HN.out, nameB_part hlt Hp.out]), rfl⟩
          · go_wp2
            go_ret
            obtain rfl : k = s.size := by omega
            exact ⟨ret_bool (by rw [← HN.out, nameB_yes h0 h32 Hl.out Hn.out]), rfl⟩
      · have Hl := Lib.hid (Bool.eq_false_iff.2 hl); clear hl
        go_enter Try.func69, Try.ntmps69
        go_wp2_with (first | (go_at_call 91; refine (class_noletter _ Hl.out _).mono ?_; rintro e w' ⟨n0, hn0, rfl, rfl⟩))
        go_ret
        exact ⟨ret_bool (by rw [← HN.out, nameB_first h0 Hl.out]), rfl⟩
    · go_enter Try.func69, Try.ntmps69
      go_wp2_with fail
      go_ret
      exact ⟨ret_bool (by rw [← HN.out, nameB_long h0 h32]), rfl⟩
  · have hne := is_empty h0
    go_enter Try.func69, Try.ntmps69
    go_wp2_with fail
    go_ret
    exact ⟨ret_bool (by rw [← HN.out, nameB_empty h0]), rfl⟩

end Go.Proofs.Ytapejaabhkfhjaa

/- The small classifiers of bytes: each function returns what its Lean counterpart computes. -/
import Derived.Test.YtkfbhegniobecaaDoorShelf
import Derived.Lib.IndexAny
import Derived.WalkKit
import Derived.WalkLawsBesides
import Derived.Deep.QuietTactic
import Derived.BigQuiet
import Derived.Lib.Hide
namespace Go.Proofs.YtkfbhegniobecaaDoor
open Go.RowKit

theorem ret_int {k : IntKind} {a b : Int} (h : a = b) : Ending.returned (.int k a) = .returned (.int k b) := by rw [h]
theorem ret_bool {a b : Bool} (h : a = b) : Ending.returned (.bool a) = .returned (.bool b) := by rw [h]

def letterB (c : UInt8) : Bool := (97 ≤ c.toNat && c.toNat ≤ 122) || (65 ≤ c.toNat && c.toNat ≤ 90)
def digitB (c : UInt8) : Bool := 48 ≤ c.toNat && c.toNat ≤ 57
def spaceB (c : UInt8) : Bool := c.toNat == 32 || c.toNat == 9 || c.toNat == 10 || c.toNat == 13
def partB (c : UInt8) : Bool := letterB c || digitB c || c.toNat == 95
def signs : List UInt8 := [123, 125, 40, 41, 59, 44, 61, 58, 46, 60, 62, 33, 43, 45, 42, 47]
def signB (c : UInt8) : Bool := signs.contains c

set_option maxHeartbeats 400000 in
theorem letter_any (c : UInt8) (w : World) :
    Calls Tryd.prog 31 #[.int .u8 (c.toNat : Int)] w fun e w' => e = .returned (.bool (letterB c)) ∧ w = w' := by
  go_enter Tryd.func31, Tryd.ntmps31
  go_wp2
  all_goals
    go_ret
    exact ⟨ret_bool (by rw [Bool.eq_iff_iff]; simp [letterB]; omega), rfl⟩

set_option maxHeartbeats 400000 in
theorem figure_any (c : UInt8) (w : World) :
    Calls Tryd.prog 33 #[.int .u8 (c.toNat : Int)] w fun e w' => e = .returned (.bool (digitB c)) ∧ w = w' := by
  go_enter Tryd.func33, Tryd.ntmps33
  go_wp2
  all_goals
    go_ret
    exact ⟨ret_bool (by rw [Bool.eq_iff_iff]; simp [digitB]; omega), rfl⟩

set_option maxHeartbeats 400000 in
theorem space_any (c : UInt8) (w : World) :
    Calls Tryd.prog 22 #[.int .u8 (c.toNat : Int)] w fun e w' => e = .returned (.bool (spaceB c)) ∧ w = w' := by
  go_enter Tryd.func22, Tryd.ntmps22
  go_wp2
  all_goals
    go_ret
    exact ⟨ret_bool (by rw [Bool.eq_iff_iff]; simp [spaceB]; omega), rfl⟩

set_option maxHeartbeats 400000 in
theorem part_any (c : UInt8) (w : World) :
    Calls Tryd.prog 32 #[.int .u8 (c.toNat : Int)] w fun e w' => e = .returned (.bool (partB c)) ∧ w = w' := by
  unfold partB
  generalize hl : letterB c = lb
  have Hl := Lib.hid hl; clear hl
  generalize hf : digitB c = fb
  have Hf := Lib.hid hf; clear hf
  go_enter Tryd.func32, Tryd.ntmps32
  go_wp2_with (first | (go_at_call 31; refine (letter_any _ _).mono ?_; rintro e w' ⟨rfl, rfl⟩; rw [Hl.out]) | (go_at_call 33; refine (figure_any _ _).mono ?_; rintro e w' ⟨rfl, rfl⟩; rw [Hf.out]))
  all_goals
    go_ret
    refine ⟨ret_bool ?_, rfl⟩
    first
    | (simp_all; done)
    | (rw [Bool.eq_iff_iff]; simp_all; omega)

theorem u8_eq_of {a b : UInt8} (h : ((a.toNat : Int) == (b.toNat : Int)) = true) : a = b := by
  have := of_decide_eq_true h
  exact UInt8.toNat_inj.1 (by omega)
theorem u8_ne_of {a b : UInt8} (h : ((a.toNat : Int) == (b.toNat : Int)) = false) : a ≠ b := by
  intro e; subst e; simp at h
theorem sign_hit {c : UInt8} {k : Nat} (hk : k < 16) (h : (((({ data := #[123, 125, 40, 41, 59, 44, 61, 58, 46, 60, 62, 33, 43, 45, 42, 47] } : ByteArray)[k]'hk).toNat : Int) == (c.toNat : Int)) = true) : signB c = true := by
  have e := u8_eq_of h
  subst e
  show signs.contains (signs[k]'hk) = true
  rw [List.contains_iff_mem]
  exact List.getElem_mem _
theorem sign_next {c : UInt8} {k : Nat} (hk : k < 16) (hn : (signs.take k).contains c = false) (h : (((({ data := #[123, 125, 40, 41, 59, 44, 61, 58, 46, 60, 62, 33, 43, 45, 42, 47] } : ByteArray)[k]'hk).toNat : Int) == (c.toNat : Int)) = false) : (signs.take (k + 1)).contains c = false := by
  have e := u8_ne_of h
  rw [List.take_succ_eq_append_getElem (show k < signs.length from hk), List.contains_eq_mem]
  rw [List.contains_eq_mem] at hn
  simp only [List.mem_append, List.mem_singleton, decide_eq_false_iff_not, not_or] at hn ⊢
  exact ⟨hn, fun h' => e h'.symm⟩

set_option maxHeartbeats 1000000 in
theorem sign_any (c : UInt8) (w : World) :
    Calls Tryd.prog 35 #[.int .u8 (c.toNat : Int)] w fun e w' => e = .returned (.bool (signB c)) ∧ w = w' := by
  go_enter Tryd.func35, Tryd.ntmps35
  go_wp2
  go_loop [4] (fun i => ∃ k : Nat, k ≤ 16 ∧ i = .int .i64 k ∧ (signs.take k).contains c = false) (fun i => 16 - (intOf i).toNat)
  case atStart => exact ⟨0, by omega, rfl, rfl⟩
  case round =>
    obtain ⟨k, hk, rfl, hn⟩ := hrel
    have Hn := Lib.hid hn; clear hn
    by_cases hlt : k < 16
    · go_wp2
      · go_ret
        exact ⟨ret_bool (sign_hit hlt ‹_›).symm, rfl⟩
      · exact ⟨⟨k + 1, by omega, by go_num, sign_next hlt Hn.out ‹_›⟩, by simp [intOf]; omega⟩
    · go_wp2
      go_ret
      have hk16 : k = 16 := by omega
      exact ⟨ret_bool (by have := Hn.out; rw [hk16] at this; exact this.symm), rfl⟩

/- the classes of bytes -/
def classF (c : UInt8) : Int := if letterB c then 2 else if digitB c then 3 else if c.toNat == 95 then 5 else if spaceB c then 1 else if signB c then 4 else 0

theorem class_letter {c : UInt8} (h : (97 ≤ c.toNat ∧ c.toNat ≤ 122) ∨ (65 ≤ c.toNat ∧ c.toNat ≤ 90)) : classF c = 2 := by
  have : letterB c = true := by simp [letterB]; omega
  simp [classF, this]
theorem nl {c : UInt8} (h : ¬ ((97 ≤ c.toNat ∧ c.toNat ≤ 122) ∨ (65 ≤ c.toNat ∧ c.toNat ≤ 90))) : letterB c = false := by
  rw [Bool.eq_false_iff]; simp [letterB]; omega
theorem class_digit {c : UInt8} (h : 48 ≤ c.toNat ∧ c.toNat ≤ 57) : classF c = 3 := by
  have : digitB c = true := by simp [digitB]; omega
  simp [classF, this, nl (c := c) (by omega)]
theorem nd {c : UInt8} (h : ¬ (48 ≤ c.toNat ∧ c.toNat ≤ 57)) : digitB c = false := by
  rw [Bool.eq_false_iff]; simp [digitB]; omega
theorem class_line {c : UInt8} (h : c.toNat = 95) : classF c = 5 := by
  simp [classF, nd (c := c) (by omega), nl (c := c) (by omega), h]
theorem class_space {c : UInt8} (h : c.toNat = 32 ∨ c.toNat = 9 ∨ c.toNat = 10 ∨ c.toNat = 13) : classF c = 1 := by
  have : spaceB c = true := by simp [spaceB]; omega
  have h2 : (c.toNat == 95) = false := by rw [Bool.eq_false_iff]; simp; omega
  simp [classF, nd (c := c) (by omega), nl (c := c) (by omega), h2, this]
theorem class_rest {c : UInt8} (h : ¬ ((97 ≤ c.toNat ∧ c.toNat ≤ 122) ∨ (65 ≤ c.toNat ∧ c.toNat ≤ 90))) (h1 : ¬ (48 ≤ c.toNat ∧ c.toNat ≤ 57)) (h2 : ¬ c.toNat = 95)
    (h3 : ¬ (c.toNat = 32 ∨ c.toNat = 9 ∨ c.toNat = 10 ∨ c.toNat = 13)) : classF c = if signB c then 4 else 0 := by
  have h4 : spaceB c = false := by rw [Bool.eq_false_iff]; simp [spaceB]; omega
  simp [classF, nd h1, nl h, h2, h4]

theorem idx_sign (c : UInt8) : (decide (0 ≤ Lib.indexByte signs ((c.toNat : Int)).toNat.toUInt8)) = signB c := by
  have : ((c.toNat : Int)).toNat.toUInt8 = c := by simp
  rw [this]; exact (Lib.contains_iff_indexByte signs c).symm
theorem index_sign (c : UInt8) (w : World) : Calls Tryd.prog 47 #[.string { data := #[123, 125, 40, 41, 59, 44, 61, 58, 46, 60, 62, 33, 43, 45, 42, 47] }, .int .u8 (c.toNat : Int)] w fun e w' => ∃ n : Int, e = .returned (.int .i64 n) ∧ decide (0 ≤ n) = signB c ∧ w = w' :=
  (Tryd.strings_IndexByte _ _ w).mono fun _ _ h => ⟨_, h.1, idx_sign c, h.2.symm⟩

set_option maxHeartbeats 1000000 in
theorem class_any (c : UInt8) (w : World) :
    Calls Tryd.prog 30 #[.int .u8 (c.toNat : Int)] w fun e w' => e = .returned (.int .i64 (classF c)) ∧ w = w' := by
  generalize hN : classF c = N
  have HN := Lib.hid hN; clear hN
  go_enter Tryd.func30, Tryd.ntmps30
  go_wp2_with (first | (go_at_call 47; refine (index_sign _ _).mono ?_; rintro e w' ⟨n, rfl, hn, rfl⟩; have Hn := Lib.hid hn; clear hn))
  all_goals
    go_ret
    refine ⟨ret_int ?_, rfl⟩
    rw [← HN.out]
    try simp only [beq_iff_eq, beq_eq_false_iff_ne, ne_eq] at *
    first
    | exact (class_letter (by omega)).symm
    | exact (class_digit (by omega)).symm
    | exact (class_line (by omega)).symm
    | exact (class_space (by omega)).symm
    | (rw [class_rest (by omega) (by omega) (by omega) (by omega), ← Hn.out]; simp [*])

end Go.Proofs.YtkfbhegniobecaaDoor

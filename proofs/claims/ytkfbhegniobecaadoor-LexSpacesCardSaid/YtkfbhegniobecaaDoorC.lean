/- The program's Name and valid return what the document's do. -/
import Derived.Test.YtkfbhegniobecaaDoorB
namespace Go.Proofs.YtkfbhegniobecaaDoor
open Go.RowKit

theorem all_u8 (P : UInt8 → Bool) (h : (List.range 256).all (fun n => P n.toUInt8) = true) (c : UInt8) : P c = true := by
  have := List.all_eq_true.1 h c.toNat (by rw [List.mem_range]; exact c.toNat_lt)
  simpa using this
theorem class_2 (c : UInt8) : (classF c == 2) = letterB c := by
  have := all_u8 (fun c => (classF c == 2) == letterB c) (by decide +kernel) c
  simpa using this
theorem class_4 (c : UInt8) : (classF c == 4) = signB c := by
  have := all_u8 (fun c => (classF c == 4) == signB c) (by decide +kernel) c
  simpa using this
theorem class_3 (c : UInt8) : (classF c == 3) = digitB c := by
  have := all_u8 (fun c => (classF c == 3) == digitB c) (by decide +kernel) c
  simpa using this
theorem class_1 (c : UInt8) : (classF c == 1) = spaceB c := by
  have := all_u8 (fun c => (classF c == 1) == spaceB c) (by decide +kernel) c
  simpa using this
theorem class_p (c : UInt8) : (classF c == 2 || classF c == 3 || classF c == 5) = partB c := by
  have := all_u8 (fun c => (classF c == 2 || classF c == 3 || classF c == 5) == partB c) (by decide +kernel) c
  simpa using this
theorem class_range (c : UInt8) : 0 ≤ classF c ∧ classF c ≤ 5 := by
  have := all_u8 (fun c => decide (0 ≤ classF c) && decide (classF c ≤ 5)) (by decide +kernel) c
  simpa using this

theorem not_empty {s : ByteArray} (h : 0 < s.size) : s.toList.isEmpty = false := by
  rw [ByteArray.toList_eq, List.isEmpty_eq_false_iff]; intro e; have := length_toList s; rw [e] at this; simp at this; omega
theorem is_empty {s : ByteArray} (h : ¬ 0 < s.size) : s.toList.isEmpty = true := by
  rw [ByteArray.toList_eq, List.isEmpty_iff, ← List.length_eq_zero_iff, length_toList]; omega

/-- class, told with its value hidden -/
theorem class_ex (c : UInt8) (w : World) :
    Calls Tryd.prog 30 #[.int .u8 (c.toNat : Int)] w fun e w' => ∃ n : Int, Hid (classF c = n) ∧ e = .returned (.int .i64 n) ∧ w = w' :=
  (class_any c w).mono fun _ _ h => ⟨_, rfl, h⟩

theorem cl_first {c : UInt8} {n : Int} (h : Hid (classF c = n)) (h2 : (n != 2) = true) : letterB c = false := by
  have := class_2 c
  rw [h.out] at this
  rw [← this]
  simpa using h2
theorem cl_first' {c : UInt8} {n : Int} (h : Hid (classF c = n)) (h2 : (n != 2) = false) : letterB c = true := by
  have := class_2 c
  rw [h.out] at this
  rw [← this]
  simpa using h2
theorem cl_part {c : UInt8} {n : Int} (h : Hid (classF c = n)) (h2 : (n != 2) = true ∧ (n != 3) = true ∧ (n != 5) = true) : partB c = false := by
  have := class_p c
  rw [h.out] at this
  rw [← this]
  simpa [and_assoc] using h2
theorem cl_part' {c : UInt8} {n : Int} (h : Hid (classF c = n)) (h2 : n = 2 ∨ n = 3 ∨ n = 5) : partB c = true := by
  have := class_p c
  rw [h.out] at this
  rw [← this]
  simpa [or_assoc] using h2

theorem class_is (c : UInt8) (n : Int) (h : classF c = n) (w : World) :
    Calls Tryd.prog 30 #[.int .u8 (c.toNat : Int)] w fun e w' => e = .returned (.int .i64 n) ∧ w = w' := by
  rw [← h]; exact class_any c w
theorem cl_letter {c : UInt8} (h : letterB c = true) : classF c = 2 := by
  have := class_2 c
  rw [h] at this
  simpa using this
theorem class_noletter (c : UInt8) (h : letterB c = false) (w : World) :
    Calls Tryd.prog 30 #[.int .u8 (c.toNat : Int)] w fun e w' => ∃ n : Int, (n != 2) = true ∧ e = .returned (.int .i64 n) ∧ w = w' :=
  (class_any c w).mono fun _ _ hh => ⟨_, by have := class_2 c; rw [h] at this; simpa using this, hh⟩
theorem class_part (c : UInt8) (h : partB c = true) (w : World) :
    Calls Tryd.prog 30 #[.int .u8 (c.toNat : Int)] w fun e w' => ∃ n : Int, (n = 2 ∨ n = 3 ∨ n = 5) ∧ e = .returned (.int .i64 n) ∧ w = w' :=
  (class_any c w).mono fun _ _ hh => ⟨_, by have := class_p c; rw [h] at this; simpa [or_assoc] using this, hh⟩
theorem class_nopart (c : UInt8) (h : partB c = false) (w : World) :
    Calls Tryd.prog 30 #[.int .u8 (c.toNat : Int)] w fun e w' => ∃ n : Int, (n != 2) = true ∧ (n != 3) = true ∧ (n != 5) = true ∧ e = .returned (.int .i64 n) ∧ w = w' :=
  (class_any c w).mono fun _ _ hh => ⟨_, by have := class_p c; rw [h] at this; simp at this; simp [this], by have := class_p c; rw [h] at this; simp at this; simp [this], by have := class_p c; rw [h] at this; simp at this; simp [this], hh⟩

set_option maxHeartbeats 1000000 in
theorem name_any (s : ByteArray) (w : World) (hs : s.size ≤ maxLen) :
    Calls Tryd.prog 20 #[.string s] w fun e w' => e = .returned (.bool (nameB s.data.toList)) ∧ w = w' := by
  unfold maxLen at hs
  generalize hN : nameB s.data.toList = N
  have HN := Lib.hid hN; clear hN
  by_cases h0 : 0 < s.size
  · have hne := not_empty h0
    by_cases h32 : s.size ≤ 32
    · have hd32 : decide (32 < (s.size : Int)) = false := by simp; omega
      by_cases hl : letterB s[0] = true
      · have Hl := Lib.hid hl; clear hl
        go_enter Tryd.func20, Tryd.ntmps20
        go_wp2_with (first | (go_at_call 30; refine (class_is _ 2 (cl_letter Hl.out) _).mono ?_; rintro e w' ⟨rfl, rfl⟩))
        go_loop [3, 4, 20] (fun _ _ i => ∃ k : Nat, k ≤ s.size ∧ i = .int .i64 k ∧ (s.data.toList.take k).all partB = true) (fun _ _ i => s.size - (intOf i).toNat)
        case atStart => exact ⟨0, by omega, rfl, rfl⟩
        case round =>
          obtain ⟨k, hk, rfl, hn⟩ := hrel
          have Hn := Lib.hid hn; clear hn
          by_cases hlt : k < s.size
          · by_cases hp : partB s[k] = true
            · have Hp := Lib.hid hp; clear hp
              go_wp2_with (first | (go_at_call 30; refine (class_part _ Hp.out _).mono ?_; rintro e w' ⟨n1, (rfl | rfl | rfl), rfl, rfl⟩))
              all_goals exact ⟨⟨k + 1, by omega, by go_num, all_next hlt Hn.out Hp.out⟩, by simp [intOf]; omega⟩
            · have Hp := Lib.hid (Bool.eq_false_iff.2 hp); clear hp
              go_wp2_with (first | (go_at_call 30; refine (class_nopart _ Hp.out _).mono ?_; rintro e w' ⟨n1, c2, c3, c5, rfl, rfl⟩))
              go_ret
              exact ⟨ret_bool (by rw [← HN.out, nameB_part hlt Hp.out]), rfl⟩
          · go_wp2
            go_ret
            obtain rfl : k = s.size := by omega
            exact ⟨ret_bool (by rw [← HN.out, nameB_yes h0 h32 Hl.out Hn.out]), rfl⟩
      · have Hl := Lib.hid (Bool.eq_false_iff.2 hl); clear hl
        go_enter Tryd.func20, Tryd.ntmps20
        go_wp2_with (first | (go_at_call 30; refine (class_noletter _ Hl.out _).mono ?_; rintro e w' ⟨n0, hn0, rfl, rfl⟩))
        go_ret
        exact ⟨ret_bool (by rw [← HN.out, nameB_first h0 Hl.out]), rfl⟩
    · go_enter Tryd.func20, Tryd.ntmps20
      go_wp2_with fail
      go_ret
      exact ⟨ret_bool (by rw [← HN.out, nameB_long h0 h32]), rfl⟩
  · have hne := is_empty h0
    go_enter Tryd.func20, Tryd.ntmps20
    go_wp2_with fail
    go_ret
    exact ⟨ret_bool (by rw [← HN.out, nameB_empty h0]), rfl⟩

theorem class_sign (c : UInt8) (w : World) :
    Calls Tryd.prog 30 #[.int .u8 (c.toNat : Int)] w fun e w' => ∃ n : Int, (n == 4) = signB c ∧ e = .returned (.int .i64 n) ∧ w = w' :=
  (class_any c w).mono fun _ _ hh => ⟨_, class_4 c, hh⟩

set_option maxHeartbeats 1000000 in
theorem valid_any (t : Tok) (w : World) (ht : t.text.size ≤ maxLen) :
    Calls Tryd.prog 36 #[.agg t.cells] w fun e w' => e = .returned (.bool (validB t)) ∧ Below w.heap.size w w' := by
  obtain ⟨kd, tx, n, a⟩ := t
  unfold Tok.cells
  dsimp only at ht ⊢
  generalize hN : validB _ = N
  have HN := Lib.hid hN; clear hN
  go_enter Tryd.func36, Tryd.ntmps36
  go_wp2_with (first | (go_at_call 20; refine (name_any _ _ ht).mono ?_; rintro e w' ⟨rfl, rfl⟩) | (go_at_call 30; refine (class_sign _ _).mono ?_; rintro e w' ⟨n1, hn1, rfl, rfl⟩))
  all_goals go_ret
  all_goals
    refine ⟨ret_bool ?_, (Below.refl _ _).alloc (Nat.le_refl _) _⟩
    rw [← HN.out]
    try simp only [ByteArray.toList_eq] at *
    first
    | (rw [valid_name ‹_›]; simp [*]; done)
    | (rw [valid_number ‹_› ‹_›]; simp [*]; done)
    | (rw [valid_number ‹_› ‹_›]; simp [*]; omega)
    | (rw [valid_sign ‹_› ‹_› ‹_›, signT_yes ‹_›]; simp [*]; done)
    | (rw [valid_sign ‹_› ‹_› ‹_›, signT_no ‹_›]; simp [*]; done)
    | (rw [valid_none ‹_› ‹_› ‹_›]; done)
    | (rw [valid_number ‹_› ‹_›, List.isEmpty_eq_false_iff.2 ‹_›]; simp; done)

end Go.Proofs.YtkfbhegniobecaaDoor

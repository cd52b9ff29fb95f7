/- The digits of a number: Decimal and spelled. -/
import Derived.Test.YtkfbhegniobecaaDoorG
import Derived.Lib.ItoaNum
import Derived.Lib.SmallJoins
namespace Go.Proofs.YtkfbhegniobecaaDoor
open Go.RowKit
open Go.Lib (decDigits)

theorem dec_lt {m : Nat} (h : m < 10) : decDigits m = [UInt8.ofNat (48 + m % 10)] := by
  rw [decDigits, dif_pos h, Nat.mod_eq_of_lt h]
theorem dec_ge {m : Nat} (h : ¬ m < 10) : decDigits m = decDigits (m / 10) ++ [UInt8.ofNat (48 + m % 10)] := by
  rw [decDigits, dif_neg h]
theorem dec_pos (m : Nat) : 0 < (decDigits m).length := by
  by_cases h : m < 10
  · rw [dec_lt h]; simp
  · rw [dec_ge h]; simp
theorem dec_len : ∀ (k m : Nat), m < 10 ^ (k + 1) → (decDigits m).length ≤ k + 1
  | 0, m, h => by rw [dec_lt (by omega)]; simp
  | k + 1, m, h => by
    by_cases h1 : m < 10
    · rw [dec_lt h1]; simp
    · rw [dec_ge h1]
      have := dec_len k (m / 10) (by rw [Nat.pow_succ] at h; omega)
      simp; omega

def oneB (n : Int) : ByteArray := ⟨#[UInt8.ofNat n.toNat]⟩
theorem oneB_size (n : Int) : (oneB n).size = 1 := rfl
theorem conv_one (w : World) (n : Int) : (convert 39 9 (.slice (some ⟨w.heap.size, 0, none⟩) 1 1)).run Tryd.prog (w.alloc (.cells #[.int .u8 n] 5)) = .ok (.string (oneB n)) (w.alloc (.cells #[.int .u8 n] 5)) := by
  have h := run_convert_bytes_arg (P := Tryd.prog) (w.alloc (.cells #[.int .u8 n] 5)) 39 5 Tryd.underlying39 Tryd.underlying5 w.heap.size 0 1 1 [n] rfl (fun i hi => by
    obtain rfl : i = 0 := by omega
    simp [go_sem]) 9 Tryd.underlying9
  rw [h]; rfl
theorem oneB_list (n : Int) : (oneB n).data.toList = [UInt8.ofNat n.toNat] := rfl
theorem dig_eq (m : Nat) : UInt8.ofNat ((48 + (m : Int) % 10).toNat) = UInt8.ofNat (48 + m % 10) := by
  congr 1

theorem data_app (a b : ByteArray) : (a ++ b).data.toList = a.data.toList ++ b.data.toList := by simp [ByteArray.data_append]
theorem ret_str {s : ByteArray} {l : List UInt8} (h : s.data.toList = l) : Ending.returned (.string s) = .returned (.string ⟨l.toArray⟩) := by
  subst h; rfl

set_option maxRecDepth 100000 in
set_option maxHeartbeats 1000000 in
theorem decimal_any (N : Nat) (w : World) (hN : N ≤ 1099511627776) :
    Calls Tryd.prog 40 #[.int .i64 N] w fun e w' => e = .returned (.string ⟨(decDigits N).toArray⟩) ∧ Below w.heap.size w w' := by
  have hlen := dec_len 12 N (by omega)
  generalize hL : decDigits N = D at hlen ⊢
  have HL := Lib.hid (show D = decDigits N ++ [] by rw [hL]; simp); clear hL
  have hc := conv_one
  have ho := oneB_size
  go_enter Tryd.func40, Tryd.ntmps40
  go_wp2
  have hlen1 : (oneB (48 + (N : Int) % 10)).data.toList = UInt8.ofNat (48 + N % 10) :: [] := by rw [oneB_list, dig_eq]
  have hsz1 := oneB_size (48 + (N : Int) % 10)
  generalize oneB (48 + (N : Int) % 10) = s0 at hlen1 hsz1 ⊢
  have HS1 := Lib.hid hlen1; clear hlen1
  have hsz2 : s0.size ≤ 14 := by omega
  clear hsz1
  go_loopw [0, 3] (fun mv sv wr => ∃ (m : Nat) (s : ByteArray) (R : List UInt8), mv = .int .i64 m ∧ sv = .string s ∧ m ≤ 1099511627776 ∧ s.size ≤ 14 ∧
      Hid (s.data.toList = UInt8.ofNat (48 + m % 10) :: R) ∧ Hid (D = decDigits m ++ R) ∧ Below w.heap.size w wr) (fun mv _ _ => (intOf mv).toNat)
  case atStart => exact ⟨N, s0, [], rfl, rfl, hN, hsz2, HS1, HL, (Below.refl _ _).alloc (Nat.le_refl _) _⟩
  case round =>
    clear HL HS1
    obtain ⟨m, s, R, rfl, rfl, hm, hs, HS, HD, hB⟩ := hrel
    by_cases h10 : 10 ≤ m
    · have hd1 : decDigits m = decDigits (m / 10) ++ [UInt8.ofNat (48 + m % 10)] := dec_ge (by omega)
      have hstep : D = decDigits (m / 10) ++ s.data.toList := by rw [HD.out, hd1, HS.out]; simp
      have hl2 := congrArg List.length hstep
      rw [List.length_append, length_toList] at hl2
      have hp := dec_pos (m / 10)
      have hs13 : 1 + s.size ≤ 14 := by omega
      have HD' := Lib.hid hstep
      clear hd1 hstep hl2 hp HD
      go_wp2
      have hnl : ∀ n : Int, (oneB n ++ s).data.toList = UInt8.ofNat n.toNat :: s.data.toList := fun n => by rw [data_app, oneB_list]; rfl
      exact ⟨⟨m / 10, _, _, rfl, rfl, by omega, by rw [ByteArray.size_append, ho]; exact hs13, (by rw [hnl]; congr 1), HD'.out, hB.alloc hB.size _⟩, by simp [intOf]; omega⟩
    · go_wp2
      go_ret
      exact ⟨ret_str (by rw [HS.out, HD.out, dec_lt (by omega)]; rfl), hB⟩

set_option maxRecDepth 100000 in
set_option maxHeartbeats 1000000 in
theorem spelled_text (kd : Int) (tx : ByteArray) (n a : Int) (w : World) (hk : (kd != 2) = true) :
    Calls Tryd.prog 23 #[.agg #[.int .i64 kd, .string tx, .int .i64 n, .int .i64 a]] w fun e w' => e = .returned (.string tx) ∧ Below w.heap.size w w' := by
  go_enter Tryd.func23, Tryd.ntmps23
  go_wp2
  go_ret
  exact ⟨rfl, (Below.refl _ _).alloc (Nat.le_refl _) _⟩

set_option maxRecDepth 100000 in
set_option maxHeartbeats 1000000 in
theorem spelled_number (tx : ByteArray) (N : Nat) (a : Int) (w : World) (hN : N ≤ 1099511627776) :
    Calls Tryd.prog 23 #[.agg #[.int .i64 2, .string tx, .int .i64 N, .int .i64 a]] w fun e w' => e = .returned (.string ⟨(decDigits N).toArray⟩) ∧ Below w.heap.size w w' := by
  have hlen := dec_len 12 N (by omega)
  generalize hL : decDigits N = D at hlen ⊢
  have HL := Lib.hid (show D = decDigits N ++ [] by rw [hL]; simp); clear hL
  have hc := conv_one
  have ho := oneB_size
  go_enter Tryd.func23, Tryd.ntmps23
  go_wp2
  go_loopw [3, 4] (fun sv mv wr => ∃ (m : Nat) (s : ByteArray), mv = .int .i64 m ∧ sv = .string s ∧ m ≤ 1099511627776 ∧ s.size ≤ 14 ∧
      Hid (D = decDigits m ++ s.data.toList) ∧ Below w.heap.size w wr) (fun _ mv _ => (intOf mv).toNat)
  case atStart => exact ⟨N, _, rfl, rfl, hN, Nat.zero_le _, HL, (Below.refl _ _).alloc (Nat.le_refl _) _⟩
  case round =>
    clear HL
    obtain ⟨m, s, rfl, rfl, hm, hs, HD, hB⟩ := hrel
    have hnl : ∀ n : Int, (oneB n ++ s).data.toList = UInt8.ofNat n.toNat :: s.data.toList := fun n => by rw [data_app, oneB_list]; rfl
    have Hnl := Lib.hid hnl
    clear hnl
    by_cases h10 : 10 ≤ m
    · have hd1 : decDigits m = decDigits (m / 10) ++ [UInt8.ofNat (48 + m % 10)] := dec_ge (by omega)
      have hstep : D = decDigits (m / 10) ++ (UInt8.ofNat (48 + m % 10) :: s.data.toList) := by rw [HD.out, hd1]; simp
      have hl2 := congrArg List.length hstep
      rw [List.length_append, List.length_cons, length_toList] at hl2
      have hs13 : 1 + s.size ≤ 14 := by omega
      have HD' := Lib.hid hstep
      clear hd1 hstep hl2 HD
      go_wp2
      exact ⟨⟨m / 10, _, rfl, rfl, by omega, by rw [ByteArray.size_append, ho]; exact hs13, (by rw [Hnl.out, dig_eq]; exact HD'.out), hB.alloc hB.size _⟩, by simp [intOf]; omega⟩
    · go_wp2
      go_ret
      exact ⟨ret_str (by rw [Hnl.out, dig_eq, HD.out, dec_lt (by omega)]; rfl), hB.alloc hB.size _⟩

end Go.Proofs.YtkfbhegniobecaaDoor

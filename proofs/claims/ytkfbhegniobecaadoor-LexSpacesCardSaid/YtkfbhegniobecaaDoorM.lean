/- The scanner: run, and the methods. -/
import Derived.Test.YtkfbhegniobecaaDoorL
namespace Go.Proofs.YtkfbhegniobecaaDoor
open Go.RowKit

def inB (zs : List Int) (c : UInt8) : Bool := zs.contains (classF c)

theorem contains_is (b off n c : Nat) (zs : List Int) (x : Int) (N : Bool) (hN : zs.contains x = N) (w : World) (hz : zs.length = n) (hbig : n ≤ 100) (hc : ∀ j, j < zs.length → w.cell? ⟨b, off + j, none⟩ = some (.int .i64 (zs.getD j 0))) :
    Calls Tryd.prog 52 #[.slice (some ⟨b, off, none⟩) n c, .int .i64 x] w fun e w' => e = .returned (.bool N) ∧ w = w' := by
  refine (Tryd.slices_Contains_int b off n c zs x w (by omega) (by omega) hc).mono fun _ _ h => ⟨?_, h.2.symm⟩
  rw [h.1, ← hz, List.take_of_length_le (Nat.le_refl _), hN]

/- the scanner's cells -/
def ScanCells (w : World) (p : Nat) (s : ByteArray) (i : Nat) (v : Value) : Prop := w.heap[p]? = some (.cells #[.string s, .int .i64 i, v] 49 (0, 0))

set_option maxRecDepth 100000 in
set_option maxHeartbeats 4000000 in
theorem run_any (p : Nat) (s : ByteArray) (i : Nat) (v : Value) (b : Nat) (n c : Nat) (zs : List Int) (w : World) (hs : s.size ≤ 65536) (hi : i ≤ s.size) (hp : ScanCells w p s i v)
    (hz : zs.length = n) (hbig : n ≤ 100) (hc : ∀ j, j < zs.length → w.cell? ⟨b, 0 + j, none⟩ = some (.int .i64 (zs.getD j 0))) :
    Calls Tryd.prog 43 #[.pointer (some ⟨p, 0, none⟩), .slice (some ⟨b, 0, none⟩) n c] w fun e w' => e = .returned (.string (s.extract i (i + spanL (inB zs) s i))) ∧ ∃ q, w' = w.drewN q := by
  have c0 : w.cell? ⟨p, 0, none⟩ = some (.string s) := by unfold ScanCells at hp; simp [World.cell?, hp]
  have c1 : w.cell? ⟨p, 1, none⟩ = some (.int .i64 i) := by unfold ScanCells at hp; simp [World.cell?, hp]
  have hle := span_le (inB zs) s i hi
  have HA := Lib.hid (fun j h1 h2 => span_at (p := inB zs) (s := s) (i := i) (j := j) h1 h2)
  have HO := Lib.hid (fun j h1 h2 => span_out (p := inB zs) (s := s) (i := i) (j := j) h1 h2)
  have HC := Lib.hid (fun x N h => contains_is b 0 n c zs x N h w hz hbig hc)
  clear hz hc hp
  generalize hT : spanL (inB zs) s i = T at hle HA HO ⊢
  clear hT
  go_enter Tryd.func43, Tryd.ntmps43
  go_wp2
  go_loop [5] (fun jv => ∃ j : Nat, jv = .int .i64 j ∧ i ≤ j ∧ j ≤ i + T) (fun jv => s.size - (intOf jv).toNat)
  case atStart => exact ⟨i, rfl, Nat.le_refl _, by omega⟩
  case round =>
    obtain ⟨j, rfl, hj1, hj2⟩ := hrel
    by_cases hjl : j < i + T
    · obtain ⟨hjs, hjp⟩ := HA.out j hj1 hjl
      have Hcl := Lib.hid (HC.out _ true hjp)
      clear hjp
      go_wp2_with (first | (go_at_call 30; refine (class_any _ _).mono ?_; rintro e w' ⟨rfl, rfl⟩) | (go_at_call 52; refine Hcl.out.mono ?_; rintro e w' ⟨rfl, rfl⟩))
      exact ⟨⟨j + 1, by go_num, by omega, by omega⟩, by simp [intOf]; omega⟩
    · have hje : j = i + T := by omega
      have HO' := Lib.hid (HO.out j hje)
      have hsl := slice_is s i j j rfl hj1 (by omega)
      have Hje := Lib.hid hje
      clear hje HO HA
      by_cases hjs : j < s.size
      · have Hcl := Lib.hid (HC.out _ false (HO'.out hjs))
        clear HO'
        go_wp2_with (first | (go_at_call 30; refine (class_any _ _).mono ?_; rintro e w' ⟨rfl, rfl⟩) | (go_at_call 52; refine Hcl.out.mono ?_; rintro e w' ⟨rfl, rfl⟩))
        go_quiet (fail)
        go_wp2
        go_ret
        exact ⟨by rw [← Hje.out]; rfl, _, rfl⟩
      · clear HO'
        go_wp2
        go_quiet (fail)
        go_wp2
        go_ret
        exact ⟨by rw [← Hje.out]; rfl, _, rfl⟩

end Go.Proofs.YtkfbhegniobecaaDoor

/- Lex at a source that is too long. -/
import Derived.Test.YtkfbhegniobecaaDoorU
namespace Go.Proofs.YtkfbhegniobecaaDoor
open Go.RowKit

set_option maxRecDepth 100000 in
set_option maxHeartbeats 4000000 in
theorem reflex_big (s : ByteArray) (w : World) (hs : 65536 < s.size) :
    Calls Tryd.prog 13 #[.string s] w fun e w' => e = .returned (.tuple #[.slice none 0 0, .int .i64 0, .int .i64 2]) ∧ w = w' := by
  have hd : decide (65536 < (s.size : Int)) = true := by simp; omega
  go_enter Tryd.func13, Tryd.ntmps13
  go_wp2
  go_ret3
  exact ⟨rfl, rfl⟩

set_option maxRecDepth 100000 in
set_option maxHeartbeats 4000000 in
theorem lex_big (s : ByteArray) (w : World) (hs : 65536 < s.size) :
    Calls Tryd.prog 12 #[.string s] w fun e w' => e = .returned (.tuple #[.slice none 0 0, .int .i64 0, .int .i64 2]) ∧ Below w.heap.size w w' := by
  have hd : decide (65536 < (s.size : Int)) = true := by simp; omega
  have hmf : ∀ (fn : Fn) (first cap : Array Value) (w : World), (Instr.makeFunc fn first cap).run Tryd.prog w = .ok (.func fn first cap) w := fun _ _ _ _ => rfl
  go_enter_defers Tryd.func12, Tryd.ntmps12
  go_wp2
  simp [bodyPostD, Leaves, results, Tryd.results12, go_sem]
  exact ((((Below.refl _ w).alloc (Nat.le_refl _) _).alloc (by simp) _).alloc (by simp; omega) _)

end Go.Proofs.YtkfbhegniobecaaDoor

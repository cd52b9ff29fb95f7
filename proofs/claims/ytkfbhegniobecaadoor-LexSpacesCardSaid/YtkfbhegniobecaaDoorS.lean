/- Lex: the deferred function that recovers. -/
import Derived.Test.YtkfbhegniobecaaDoorR
import Derived.Recover
namespace Go.Proofs.YtkfbhegniobecaaDoor
open Go.RowKit

set_option maxRecDepth 100000 in
set_option maxHeartbeats 4000000 in
theorem catch_panicking (b b1 b2 : Nat) (l1 : b < b1) (l2 : b1 < b2) (k : Int) (v0 v1 v2 : Value) (older : List PanicEntry) (w : World) (h0 : w.heap[b]? = some (.cells #[v0] 23 (0, 0))) (h1 : w.heap[b1]? = some (.cells #[v1] 3 (0, 0))) (h2 : w.heap[b2]? = some (.cells #[v2] 24 (0, 0))) :
    CallsD Tryd.prog 24 #[.pointer (some ⟨b, 0, none⟩), .pointer (some ⟨b1, 0, none⟩), .pointer (some ⟨b2, 0, none⟩)] (.panicking ({ v := .iface 42 (.int .i64 k), recovered := false } :: older)) w fun e u' w' =>
      e = .returned (.tuple #[]) ∧ u' = .panicking ({ v := .iface 42 (.int .i64 k), recovered := true } :: older) ∧ Below b w w' ∧
      w'.cell? ⟨b, 0, none⟩ = some (.slice none 0 0) ∧ w'.cell? ⟨b1, 0, none⟩ = some (.int .i64 k) ∧ w'.cell? ⟨b2, 0, none⟩ = some (.int .i64 30) := by
  have c0 : w.cell? ⟨b, 0, none⟩ = some v0 := by simp [World.cell?, h0]
  have c1 : w.cell? ⟨b1, 0, none⟩ = some v1 := by simp [World.cell?, h1]
  have c2 : w.cell? ⟨b2, 0, none⟩ = some v2 := by simp [World.cell?, h2]
  have f0 : w.frozen? ⟨b, 0, none⟩ = false := by simp [World.frozen?, h0]
  have f1 : w.frozen? ⟨b1, 0, none⟩ = false := by simp [World.frozen?, h1]
  have f2 : w.frozen? ⟨b2, 0, none⟩ = false := by simp [World.frozen?, h2]
  clear h0 h1 h2
  have n1 : ¬ b = b1 := by omega
  have n2 : ¬ b = b2 := by omega
  have n3 : ¬ b1 = b2 := by omega
  have n4 : ¬ b1 = b := by omega
  have n5 : ¬ b2 = b1 := by omega
  have n6 : ¬ b2 = b := by omega
  have hta : ∀ W : World, (Instr.typeAssert (.iface 42 (.int .i64 k)) 20 42 false).run Tryd.prog W = .ok (.int .i64 k) W := fun _ => by kernel_rfl
  refine callsD_of_wpS Tryd.func24 rfl fun c₀ cs hu => ?_
  apply wpS_seq
  apply wpS_region
  simp [wpOpsS, go_sem, recoverD, hu, Tryd.ntmps24, Exit.thenS]
  refine wpS_of_wp ?_
  generalize hQ : bodyPostS Tryd.prog Tryd.f24 c₀ cs _ = Q
  generalize hcs : (_ :: cs : List Frame) = cs'
  simp only [List.setIfInBounds_toArray, List.set_cons_zero, List.set_cons_succ, Array.replicate_succ, Array.replicate_zero, List.push_toArray, List.nil_append, List.cons_append, List.append_toArray]
  go_wp2
  go_region
  all_goals
    change Q _ _ cs' _
    rw [← hQ, ← hcs]
    refine ⟨rfl, _, rfl, _, results_none rfl _ _ _, rfl, rfl, ?_, ?_, ?_, ?_⟩
    · exact ((((Below.refl b w).setCell (p := ⟨b, 0, none⟩) (Nat.le_refl _) _).setCell (p := ⟨b1, 0, none⟩) (by show b ≤ b1; omega) _).setCell (p := ⟨b2, 0, none⟩) (by show b ≤ b2; omega) _).drew
    · simp [go_sem, c0]
    · simp [go_sem, c1]
    · simp [go_sem, c2]

set_option maxRecDepth 100000 in
theorem catch_idle (p0 p1 p2 : Addr) (w : World) :
    CallsD Tryd.prog 24 #[.pointer (some p0), .pointer (some p1), .pointer (some p2)] .returning w fun e u' w' => e = .returned (.tuple #[]) ∧ u' = .returning ∧ w' = w := by
  refine callsD_of_wpS Tryd.func24 rfl fun c₀ cs hu => ?_
  apply wpS_seq
  apply wpS_region
  simp [wpOpsS, go_sem, recoverD, hu, Tryd.ntmps24, Exit.thenS]
  refine wpS_of_wp ?_
  generalize hQ : bodyPostS Tryd.prog Tryd.f24 c₀ cs _ = Q
  simp only [List.setIfInBounds_toArray, List.set_cons_zero, List.set_cons_succ, Array.replicate_succ, Array.replicate_zero, List.push_toArray, List.nil_append, List.cons_append, List.append_toArray]
  go_wp2
  change Q _ _ (c₀ :: cs) _
  rw [← hQ]
  refine ⟨rfl, .returning, ?_, _, results_none rfl _ _ _, rfl, rfl, rfl⟩
  rw [← hu]

end Go.Proofs.YtkfbhegniobecaaDoor

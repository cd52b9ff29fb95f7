/- Resolve: the whole walk. -/
import Derived.Test.YtapejaabhkfhjaaMRp
namespace Go.Proofs.Ytapejaabhkfhjaa
open Go.RowKit

def in3 (w : World) (cs : List Value) : World := ((w.alloc (.cells cs.toArray 35)).alloc (.cells zeroCs.toArray 35)).alloc (.cells #[.int .i64 0] 38)
theorem rpre_in {w : World} {x : Src} {L : Lay} {cs : List Value} {N : Nat → Prop} (h : SrcV N w L cs x) (hN : ∀ b, N b → b < w.heap.size) (hsl : Slim x) : RPre w x L cs N (in3 w cs) := by
  unfold in3
  refine ⟨⟨(((Below.refl _ _).alloc (Nat.le_refl _) _).alloc (by simp) _).alloc (by simp; omega) _, ⟨zeroCs.toArray, rfl, ?_⟩, ⟨.int .i64 0, ?_⟩⟩, ?_, h, hN, hsl⟩
  · rw [Below.heap_alloc _ _ _ (by simp)]
    have := World.alloc_heap_new (w.alloc (.cells cs.toArray 35)) (.cells zeroCs.toArray 35)
    rwa [World.size_alloc] at this
  · have := World.alloc_heap_new ((w.alloc (.cells cs.toArray 35)).alloc (.cells zeroCs.toArray 35)) (.cells #[.int .i64 0] 38)
    rwa [World.size_alloc, World.size_alloc] at this
  · rw [Below.heap_alloc _ _ _ (by simp; omega), Below.heap_alloc _ _ _ (by simp)]
    exact World.alloc_heap_new _ _
set_option maxRecDepth 100000 in
set_option maxHeartbeats 16000000 in
theorem resolve_any {w : World} {x : Src} {L : Lay} {cs : List Value} {N : Nat → Prop} (h : SrcV N w L cs x) (hN : ∀ b, N b → b < w.heap.size) (hsl : Slim x) (hg : GV w) (hd : ∀ e ∈ allE x, depthE e.1 ≤ 1000000) :
    Calls Try.prog 11 #[.agg cs.toArray] w (ResPost w x) := by
  have hmf : ∀ (fn : Fn) (first cap : Array Value) (w : World), (Instr.makeFunc fn first cap).run Try.prog w = .ok (.func fn first cap) w := fun _ _ _ _ => rfl
  have HP := Lib.hid (rpre_in h hN hsl)
  have HG : Hid (GV (in3 w cs)) := Lib.hid (hg.below HP.out.amid.below hg.1)
  have HD := Lib.hid hd
  obtain ⟨c0, c1, c2, rfl, g0, g1, g2⟩ := h.cells
  obtain ⟨a0, p0, rfl, e0⟩ := g0.cells
  obtain ⟨a1, p1, rfl, e1⟩ := g1.cells
  obtain ⟨a2, p2, rfl, e2⟩ := g2.cells
  clear h hN hsl hg hd g0 g1 g2 e0 e1 e2
  unfold Hdr.v at *
  simp only [List.cons_append, List.nil_append] at HP HG ⊢
  refine calls_of_wpAt_marks (n := 10) Try.func11 rfl ?_
  have hQ := rpost_mk w x
  generalize bodyPostM Fence.wide 10 Try.prog Try.f11 (ResPost w x) = Q at hQ ⊢
  have HQ := Lib.hid hQ
  clear hQ
  simp only [Try.ntmps11, List.size_toArray, List.length_cons, List.length_nil, Nat.reduceAdd, Nat.reduceSub, Array.replicate_succ, Array.replicate_zero, List.push_toArray, List.append_toArray, List.nil_append, List.cons_append]
  refine wpAt_seq (wpAt_of_wp ?_)
  go_wp2
  refine wpAt_seq (wpAt_of_wp ?_)
  go_wp2
  exact res_a HQ.out HP.out HG.out HD.out _ _ _ _ _ _ _ _ _ _ _ _ _ _ _ _ _ _ _ _ _ _ _ _ _ _ _ _ _ _ _ _ _ _ _ _ _ _ _ _ _ _ _ _ _ _ _ _ _ _ _ _ _ _ _ _ _ _ _ _ _ _ _ _ _ _ _ _ _ _ _ _ _ _ _ _ _ _ _ _ _ _ _ _ _ _ _ _ _ _ _ _ _ _ _ _ _ _ _ _ _ _ _ _ _ _ _ _ _ _ _ _ _ _ _ _ _ _ _ _ _ _ _ _ _ _ _ _ _ _ _ _ _ _ _ _ _ _ _ _ _ _ _ _ _ _ _ _ _ _ _ _ _ _ _ _ _ _ _ _ _ _ _ _ _ _ _ _ _ _ _

end Go.Proofs.Ytapejaabhkfhjaa

/- PROVED HERE: a slice of bytes that comes in as an argument is a list of bytes. No condition beyond the row's. -/
import Derived.Test.YtkfbhegniobecaaDoorEa
namespace Go.Proofs.YtkfbhegniobecaaDoor
open Go.ChangeShapes Go.WideShapes Go.Deep

/- what a slice of bytes reads as -/
def IsBytes (w : World) (v : Value) (bs : List Int) : Prop :=
  bs.length ≤ 9223372036854775807 ∧ (∀ x ∈ bs, 0 ≤ x ∧ x ≤ 255) ∧
  ((bs = [] ∧ ∃ a cap, v = .slice a 0 cap) ∨ ∃ b off cap, v = .slice (some ⟨b, off, none⟩) bs.length cap ∧ b < w.heap.size ∧ ∀ i (h : i < bs.length), w.cell? ⟨b, off + i, none⟩ = some (.int .u8 bs[i]))

theorem cells5 : Tryd.prog.cellsOf 5 = 1 := by kernel_rfl
set_option maxRecDepth 100000 in
theorem open_bytes {H : Type} {enc : TypeId × Value → H} {W : World} {base : Nat} {v : Value} {d : DataW H} {ps : List MemPlace} (hval : Value.okWide Tryd.prog W .any base 39 v)
    (h : DataW.Trod enc Tryd.prog W 0 (fun _ => true) true 39 v d ps) : ∃ bs, IsBytes W v bs := by
  obtain ⟨a0, len, cap, rfl⟩ := okWide_slice Tryd.underlying39 hval
  obtain ⟨fuel, hf⟩ := h
  rcases open_slice Tryd.underlying39 hf with ⟨hcs, _⟩ | ⟨a, len', cap', m, n, D, Pl, hcs, _, hl, hm, hz, hx, hi⟩
  · simp only [Value.cells, List.cons.injEq, Value.slice.injEq, and_true] at hcs
    obtain ⟨rfl, rfl, rfl⟩ := hcs
    exact ⟨[], by simp, by simp, .inl ⟨rfl, _, _, rfl⟩⟩
  · simp only [Value.cells, List.cons.injEq, Value.slice.injEq, and_true] at hcs
    obtain ⟨rfl, rfl, rfl⟩ := hcs
    simp only [if_true] at hz
    have key : ∀ i, i < len → ∃ x : Int, W.cell? (a.add i) = some (.int .u8 x) ∧ 0 ≤ x ∧ x ≤ 255 := by
      intro i hil
      obtain ⟨cs, hc, ht⟩ := hi i (by omega)
      rw [cells5] at hc
      obtain ⟨_, hcl, hat⟩ := World.cells?_some hc
      match cs, hcl with
      | [x0], _ =>
      obtain ⟨k0, e0, _, hw⟩ := DataW.trod_int Tryd.underlying5 ht
      obtain rfl : x0 = .int .u8 k0 := (List.cons.inj (show [x0] = [_] from e0)).1
      have c0 := hat 0 (by decide)
      simp only [add_add, List.getElem?_cons_zero, Nat.mul_one, Nat.add_zero] at c0
      have hb : 0 ≤ k0 ∧ k0 ≤ 255 := by
        have hw' := hw
        simp only [Lit.wf, Bool.and_eq_true, decide_eq_true_eq] at hw'
        have e1 : IntKind.u8.min = 0 := by decide
        have e2 : IntKind.u8.max = 255 := by decide
        rw [e1, e2] at hw'
        exact hw'
      exact ⟨k0, c0, hb⟩
    by_cases h0 : len = 0
    · subst h0
      exact ⟨[], by simp, by simp, .inl ⟨rfl, _, _, rfl⟩⟩
    · obtain ⟨bs, hts, hp⟩ := list_of len key
      have hspot : a.spot = none := by
        obtain ⟨t, hc, _⟩ := key 0 (by omega)
        simpa [Addr.add] using World.cell?_spot hc
      obtain ⟨b, off, spot⟩ := a
      simp only at hspot
      subst hspot
      have hlt : b < W.heap.size := by
        obtain ⟨t, hc, _⟩ := key 0 (by omega)
        exact cell_in hc
      refine ⟨bs, by unfold maxLen at hm; omega, fun x hx => ?_, .inr ⟨b, off, cap, by rw [hts], hlt, fun i hil => ?_⟩⟩
      · obtain ⟨i, hil, rfl⟩ := List.getElem_of_mem hx
        exact (hp i hil).2
      · have hh := (hp i hil).1
        rw [add_plain] at hh
        exact hh

end Go.Proofs.YtkfbhegniobecaaDoor

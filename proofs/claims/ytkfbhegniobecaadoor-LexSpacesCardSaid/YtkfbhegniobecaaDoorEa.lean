/- PROVED HERE: a slice of tokens that comes in as an argument is a list of tokens, each text of it no longer than the row's size limit says; how it is given back. No condition beyond the row's. -/
import Derived.Test.YtkfbhegniobecaaDoorAa
import Derived.Deep.Slices
import Derived.Deep.Fields
import Derived.ChangeSame
namespace Go.Proofs.YtkfbhegniobecaaDoor
open Go.ChangeShapes Go.WideShapes Go.Deep

theorem list_of {α : Type} {P : Nat → α → Prop} : ∀ n : Nat, (∀ i, i < n → ∃ t, P i t) → ∃ ts : List α, ts.length = n ∧ ∀ i (h : i < ts.length), P i ts[i]
  | 0, _ => ⟨[], rfl, fun i h => by simp at h⟩
  | n + 1, h => by
    obtain ⟨ts, hl, hp⟩ := list_of n (fun i hi => h i (by omega))
    obtain ⟨t, ht⟩ := h n (by omega)
    refine ⟨ts ++ [t], by simp [hl], fun i hi => ?_⟩
    by_cases hin : i < ts.length
    · rw [List.getElem_append_left hin]; exact hp i hin
    · have e : i = ts.length := by simp at hi; omega
      subst e
      simp only [List.getElem_append_right (Nat.le_refl _), Nat.sub_self, List.getElem_cons_zero]
      rw [hl]; exact ht
theorem weightsAll_mem {H : Type} {P : Program} {e : TypeId} {d : DataW H} {n : Nat} : ∀ {l : List (DataW H)}, d ∈ l → n ∈ d.weights P e → n ∈ DataW.weightsAll P e l
  | [], h, _ => by simp at h
  | x :: r, h, hn => by
    simp only [DataW.weightsAll, List.mem_append]
    rcases List.mem_cons.1 h with rfl | h
    · exact .inl hn
    · exact .inr (weightsAll_mem h hn)

theorem cell_in {w : World} {a : Addr} {v : Value} (h : w.cell? a = some v) : a.block < w.heap.size := by
  rcases Nat.lt_or_ge a.block w.heap.size with h' | h'
  · exact h'
  · simp [World.cell?, Array.getElem?_eq_none h'] at h
theorem cells35 : Tryd.prog.cellsOf 35 = 4 := by kernel_rfl

set_option maxRecDepth 100000 in
theorem open_toks {H : Type} {enc : TypeId × Value → H} {W : World} {base : Nat} {v : Value} {d : DataW H} {ps : List MemPlace} (hval : Value.okWide Tryd.prog W .any base 23 v)
    (h : DataW.Trod enc Tryd.prog W 0 (fun _ => true) true 23 v d ps) : ∃ ts, IsToks W v ts ∧ ∀ t ∈ ts, t.text.size ∈ d.weights Tryd.prog 23 := by
  obtain ⟨a0, len, cap, rfl⟩ := okWide_slice Tryd.underlying23 hval
  obtain ⟨fuel, hf⟩ := h
  rcases open_slice Tryd.underlying23 hf with ⟨hcs, _⟩ | ⟨a, len', cap', m, n, D, Pl, hcs, _, hl, hm, hz, hx, hi⟩
  · simp only [Value.cells, List.cons.injEq, Value.slice.injEq, and_true] at hcs
    obtain ⟨rfl, rfl, rfl⟩ := hcs
    exact ⟨[], ⟨by simp, by simp, .inl ⟨rfl, _, _, rfl⟩⟩, by simp⟩
  · simp only [Value.cells, List.cons.injEq, Value.slice.injEq, and_true] at hcs
    obtain ⟨rfl, rfl, rfl⟩ := hcs
    simp only [if_true] at hz
    simp only [Prod.mk.injEq] at hx
    have key : ∀ i, i < len → ∃ t : Tok, (W.cell? (a.add (i * 4 + 0)) = some (.int .i64 t.kind) ∧ W.cell? (a.add (i * 4 + 1)) = some (.string t.text) ∧ W.cell? (a.add (i * 4 + 2)) = some (.int .i64 t.n) ∧ W.cell? (a.add (i * 4 + 3)) = some (.int .i64 t.at_)) ∧ t.text.size ≤ maxLen ∧ t.text.size ∈ d.weights Tryd.prog 23 := by
      intro i hil
      obtain ⟨cs, hc, ht⟩ := hi i (by omega)
      rw [cells35] at hc
      obtain ⟨ys, n', _, hy, hlen, hyl, hfld⟩ := DataW.trod_struct Tryd.underlying35 ht
      obtain ⟨_, hcl, hat⟩ := World.cells?_some hc
      simp only [Prod.mk.injEq] at hy
      match cs, hcl, ys, hyl with
      | [x0, x1, x2, x3], _, [q0, q1, q2, q3], _ =>
      have t0 := hfld 0 _ rfl
      have t1 := hfld 1 _ rfl
      have t2 := hfld 2 _ rfl
      have t3 := hfld 3 _ rfl
      simp only [List.getElem?_cons_zero, List.getElem?_cons_succ] at t0 t1 t2 t3
      have c0 := hat 0 (by decide)
      have c1 := hat 1 (by decide)
      have c2 := hat 2 (by decide)
      have c3 := hat 3 (by decide)
      simp only [add_add, List.getElem?_cons_zero, List.getElem?_cons_succ] at c0 c1 c2 c3
      obtain ⟨k0, e0, _, _⟩ := DataW.trod_int Tryd.underlying3 t0
      obtain ⟨s1, e1, hx1, z1⟩ := DataW.trod_string Tryd.underlying9 t1
      obtain ⟨k2, e2, _, _⟩ := DataW.trod_int Tryd.underlying3 t2
      obtain ⟨k3, e3, _, _⟩ := DataW.trod_int Tryd.underlying3 t3
      obtain rfl : x0 = .int .i64 k0 := (List.cons.inj (show [x0] = [_] from e0)).1
      obtain rfl : x1 = .string s1 := (List.cons.inj (show [x1] = [_] from e1)).1
      obtain rfl : x2 = .int .i64 k2 := (List.cons.inj (show [x2] = [_] from e2)).1
      obtain rfl : x3 = .int .i64 k3 := (List.cons.inj (show [x3] = [_] from e3)).1
      refine ⟨⟨k0, s1, k2, k3⟩, ⟨c0, c1, c2, c3⟩, z1, ?_⟩
      rw [hx.1]
      show s1.size ∈ DataW.weights Tryd.prog 23 (.slice ((List.range len).map D) _)
      rw [DataW.weights, Tryd.underlying23]
      refine List.mem_cons_of_mem _ (List.mem_append_left _ ?_)
      refine weightsAll_mem (d := D i) (List.mem_map.2 ⟨i, List.mem_range.2 hil, rfl⟩) ?_
      rw [hy.1, DataW.weights, Tryd.underlying35]
      refine DataW.weights_mem_each (j := 1) (t := 9) (d := q1.1) rfl rfl _ ?_
      rw [hx1]
      simp [DataW.weights]
    by_cases h0 : len = 0
    · subst h0
      exact ⟨[], ⟨by simp, by simp, .inl ⟨rfl, _, _, rfl⟩⟩, by simp⟩
    · obtain ⟨ts, hts, hp⟩ := list_of len key
      have hspot : a.spot = none := by
        obtain ⟨t, hc, _⟩ := key 0 (by omega)
        simpa [Addr.add] using World.cell?_spot hc.1
      obtain ⟨b, off, spot⟩ := a
      simp only at hspot
      subst hspot
      have hlt : b < W.heap.size := by
        obtain ⟨t, hc, _⟩ := key 0 (by omega)
        exact cell_in hc.1
      refine ⟨ts, ⟨by unfold maxLen at hm; omega, fun t ht => ?_, .inr ⟨b, off, cap, by rw [hts], hlt, fun i hil => ?_⟩⟩, fun t ht => ?_⟩
      · obtain ⟨i, hil, rfl⟩ := List.getElem_of_mem ht
        exact (hp i hil).2.1
      · have hh := (hp i hil).1
        simp only [add_plain] at hh
        simpa [Nat.add_assoc] using hh
      · obtain ⟨i, hil, rfl⟩ := List.getElem_of_mem ht
        exact (hp i hil).2.2

end Go.Proofs.YtkfbhegniobecaaDoor

/- PROVED HERE: the append of a whole slice of tokens to an own slice that is empty. No condition. -/
import Derived.Test.YtkfbhegniobecaaDoorCc
namespace Go.Proofs.YtkfbhegniobecaaDoor
open Go.RowKit

theorem flat_get : ∀ (ts : List Tok) (j : Nat) (u : Value), (ts.flatMap fun t => t.cells.toList)[j]? = some u → ∃ i r, ∃ h : i < ts.length, r < 4 ∧ j = i * 4 + r ∧ ts[i].cells.toList[r]? = some u
  | [], j, u, h => by simp at h
  | t :: ts, j, u, h => by
    rw [List.flatMap_cons] at h
    have h4 : t.cells.toList.length = 4 := rfl
    by_cases hj : j < 4
    · rw [List.getElem?_append_left (by omega)] at h
      exact ⟨0, j, by simp, hj, by omega, h⟩
    · rw [List.getElem?_append_right (by omega), h4] at h
      obtain ⟨i, r, hi, hr, e, hu⟩ := flat_get ts (j - 4) u h
      exact ⟨i + 1, r, by simp; omega, hr, by omega, by simpa using hu⟩

theorem flat_len : ∀ ts : List Tok, (ts.flatMap fun t => t.cells.toList).length = ts.length * 4
  | [] => rfl
  | t :: ts => by rw [List.flatMap_cons, List.length_append, flat_len ts, show t.cells.toList.length = 4 from rfl, List.length_cons]; omega
theorem run_append_empty (w : World) (ty : TypeId) (g : Nat) (a : Option Addr) (c : Nat) :
    (Builtin.append_ #[23, 23] ty #[.slice (some ⟨g, 0, none⟩) 0 0, .slice a 0 c]).run Tryd.prog w = .ok (.slice (some ⟨g, 0, none⟩) 0 0) w := by
  obtain ⟨i0, hi, _⟩ := info_parts Tryd.info35
  cases a <;> simp [Builtin.append_, run_underlying Tryd.underlying23, sizeOf, typeInfo, hi, Builtin.lenOf, Builtin.firstCells, storeCells, loadCells, loadCellsFrom]

theorem append_all {ops : Array Oper} {rest : List Oper} {o : Oper} {a : Act} {Q : Exit → Act → World → Prop} {w : World} (B : Nat) (hgd : o.guard = none) (s x : Operand)
    (ho : o.op = .call { callee := .builtin .append, args := #[s, x], argTypes := #[23, 23] }) (hB : B ≤ w.heap.size) (hs : a.eval s = .slice (some ⟨w.heap.size, 0, none⟩) 0 0)
    (X : Value) (ts : List Tok) (hx : a.eval x = X) (hX : IsToks w X ts) (hlen : ts.length ≤ 1000000000)
    (h : ∀ v' w', OwnToks B w' v' ts → Below w.heap.size w w' → wpList Tryd.prog ops Q rest (a.put o.dst v') w') : wpList Tryd.prog ops Q (o :: rest) a (w.alloc (.cells #[] 35)) := by
  have hown : OwnToks B (w.alloc (.cells #[] 35)) (.slice (some ⟨w.heap.size, 0, none⟩) 0 0) [] := World.ownsRow_made w #[] 0 hB (by unfold maxLen; omega) rfl
  have hb0 : Below w.heap.size w (w.alloc (.cells #[] 35)) := (Below.refl _ w).alloc (Nat.le_refl _) _
  have hX' := hX.below hb0
  obtain ⟨_, _, ⟨rfl, ad, c, rfl⟩ | ⟨b, off, c, rfl, hlt, hr⟩⟩ := hX'
  · refine wpList_plain hgd fun K hK => ?_
    have hrun := run_append_empty (w.alloc (.cells #[] 35)) o.type w.heap.size ad c
    unfold Oper.wp
    simp [execOp, ho, resolve, invoke, builtin, hs, hx, hrun, Result.andThen]
    exact hK _ _ (h _ _ hown hb0)
  · obtain ⟨i0, hi, hz0, hz1, hz2⟩ := info_parts Tryd.info35
    have hl := flat_len ts
    refine wpList_append_own _ hgd s x 23 ho B 35 i0 _ 4 40 Tryd.underlying23 hi hz0 hz1 hz2 rfl (by decide) _ 0 _ hs hown ⟨b, off, none⟩ ts.length c (ts.flatMap fun t => t.cells.toList) hx hl ?_ ?_ (by unfold maxLen; omega) (by omega) (by simp; omega) ?_
    · intro j u hj
      obtain ⟨i, r, hi, hr4, rfl, hu⟩ := flat_get ts j u hj
      obtain ⟨c0, c1, c2, c3⟩ := hr i hi
      unfold Tok.cells at hu
      match r, hr4, hu with
      | 0, _, hu => simp at hu; subst hu; rw [WideShapes.add_plain]; simpa using c0
      | 1, _, hu => simp at hu; subst hu; rw [WideShapes.add_plain]; simpa [Nat.add_assoc] using c1
      | 2, _, hu => simp at hu; subst hu; rw [WideShapes.add_plain]; simpa [Nat.add_assoc] using c2
      | 3, _, hu => simp at hu; subst hu; rw [WideShapes.add_plain]; simpa [Nat.add_assoc] using c3
    · intro u hu
      obtain ⟨t, _, hu⟩ := List.mem_flatMap.1 hu
      unfold Tok.cells at hu
      simp at hu
      rcases hu with rfl | rfl | rfl | rfl <;> rfl
    · intro v' w' hown' hg _
      refine h v' w' (by unfold OwnToks; simpa using hown') ?_
      exact hb0.grown hg (by simp) (fun k hk => by simp [Value.ownBlock] at hk; omega)

end Go.Proofs.YtkfbhegniobecaaDoor

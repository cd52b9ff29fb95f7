/- Texts Hua Hub in one: each says what it proves. -/
import Derived.Test.YtlaifodlnolndaaDoorMq
/- Appending a slice that came in to a row of the call's own: lines, conditions. -/
namespace Go.Proofs.YtlaifodlnolndaaDoor
open Go.RowKit

/- the cells of a slice -/
def RawCells (w : World) (X : Value) (n size : Nat) (cells : List Value) : Prop :=
  cells.length = n * size ∧ (∀ u ∈ cells, u.oneCell' = true) ∧ ∃ a cap, X = .slice a n cap ∧ (n = 0 ∨ ∃ b o, a = some ⟨b, o, none⟩ ∧ b < w.heap.size ∧ ∀ j u, cells[j]? = some u → w.cell? ⟨b, o + j, none⟩ = some u)
theorem run_append_zero {t e : TypeId} {i : TypeInfo} {size : Nat} (ht : Tryd.prog.underlying t = some (.slice e)) (hi : Tryd.prog.info? e = some i) (w : World) (B : Nat) (ty : TypeId) (v : Value) (n : Nat) (xs : List Value) (hown : w.ownsRow B e size v n xs) (a : Option Addr) (c : Nat) :
    (Builtin.append_ #[t, t] ty #[v, .slice a 0 c]).run Tryd.prog w = .ok v w := by
  rcases hown.2 with ⟨rfl, _⟩ | ⟨g, cap, cur, rfl, _, _, hnc, hcm, _⟩
  · cases a <;> simp [Builtin.append_, run_underlying ht, sizeOf, typeInfo, hi, Builtin.lenOf, Builtin.firstCells, loadCells, loadCellsFrom]
  · cases a <;> simp [Builtin.append_, run_underlying ht, sizeOf, typeInfo, hi, Builtin.lenOf, Builtin.firstCells, storeCells, loadCells, loadCellsFrom, hnc]
theorem step_append_raw {ops : Array Oper} {o : Oper} {a : Act} {K : Act → World → Prop} {Q : Exit → Act → World → Prop} {E : Prop} {W : World} {t e : TypeId} {i0 : TypeInfo} {z : Value} {size bytes : Nat} (ht : Tryd.prog.underlying t = some (.slice e)) (hi : Tryd.prog.info? e = some i0) (hz0 : i0.zero = some z) (hz1 : i0.size = size) (hz2 : i0.bytes = bytes) (hzc : z.cells.size = size) (hsz : 0 < size) (hby : bytes ≤ 64)
    (B : Nat) (hgd : o.guard = none) (s x : Operand) (ho : o.op = .call { callee := .builtin .append, args := #[s, x], argTypes := #[t, t] }) (v : Value) (n : Nat) (xs : List Value) (hs : a.eval s = v) (hown : W.ownsRow B e size v n xs)
    (X : Value) (m : Nat) (ys : List Value) (hx : a.eval x = X) (hX : RawCells W X m size ys) (hlen : n + m ≤ 1000000) (hbase : B ≤ W.heap.size)
    (h : ∀ (ad : Option Addr) (c : Nat) w', w'.ownsRow B e size (.slice ad (n + m) c) (n + m) (xs ++ ys) → W.grownBy w' v.ownBlock → K (a.put o.dst (.slice ad (n + m) c)) w') :
    if Region.wanted o (yielded ops a.tmps) = true then Oper.wp Tryd.prog o a W K Q else E := by
  have hw : Region.wanted o (yielded ops a.tmps) = true := by simp [Region.wanted, hgd]
  rw [if_pos hw]
  obtain ⟨hyl, hyc, ad, cap, rfl, hcases⟩ := hX
  by_cases hm : m = 0
  · subst hm
    obtain rfl : ys = [] := List.length_eq_zero_iff.1 (by simpa using hyl)
    have hrun := run_append_zero ht hi W B o.type v n xs hown ad cap
    obtain ⟨va, vc, rfl⟩ : ∃ a c, v = .slice a n c := by
      rcases hown.2 with ⟨rfl, hn⟩ | ⟨g, cap, cur, rfl, _⟩
      · exact ⟨none, 0, by rw [hn]⟩
      · exact ⟨_, _, rfl⟩
    unfold Oper.wp
    simp [execOp, ho, resolve, invoke, builtin, hs, hx, hrun, Result.andThen]
    have hh := h va vc W (by simpa using hown) ⟨rfl, rfl, rfl, Nat.le_refl _, fun _ _ _ => rfl⟩
    rw [Nat.add_zero] at hh
    exact hh
  · obtain ⟨b, off, rfl, hb, hc⟩ := hcases.resolve_left hm
    refine wp_append_own W s x t ho B e i0 z size bytes ht hi hz0 hz1 hz2 hzc hsz v n xs hs hown ⟨b, off, none⟩ m cap ys hx hyl (fun j u hj => ?_) hyc (by unfold maxLen; omega) (by
      have : (n + m) * bytes ≤ 1000000 * 64 := Nat.mul_le_mul hlen hby
      omega) hbase ?_
    · rw [WideShapes.add_plain]; exact hc j u hj
    · intro v' w' hown' hg _
      obtain ⟨va, vc, rfl⟩ : ∃ a c, v' = .slice a (n + m) c := by
        rcases hown'.2 with ⟨rfl, hn⟩ | ⟨g, cap, cur, rfl, _⟩
        · exact ⟨none, 0, by rw [hn]⟩
        · exact ⟨_, _, rfl⟩
      exact h va vc w' hown' hg

/- lines -/
theorem lines_get : ∀ (l : List (Value × Ln)) (j : Nat) (u : Value), (l.flatMap lnCells)[j]? = some u → ∃ i r, ∃ h : i < l.length, r < 2 ∧ j = i * 2 + r ∧ (lnCells l[i])[r]? = some u
  | [], j, u, h => by simp at h
  | t :: ts, j, u, h => by
    rw [List.flatMap_cons] at h
    have h4 : (lnCells t).length = 2 := rfl
    by_cases hj : j < 2
    · rw [List.getElem?_append_left (by omega)] at h
      exact ⟨0, j, by simp, hj, by omega, h⟩
    · rw [List.getElem?_append_right (by omega), h4] at h
      obtain ⟨i, r, hi, hr, e, hu⟩ := lines_get ts (j - 2) u h
      exact ⟨i + 1, r, by simp; omega, hr, by omega, by simpa using hu⟩
theorem lines_len : ∀ l : List (Value × Ln), (l.flatMap lnCells).length = l.length * 2
  | [] => rfl
  | t :: ts => by rw [List.flatMap_cons, List.length_append, lines_len ts, show (lnCells t).length = 2 from rfl, List.length_cons]; omega
theorem rows_of {w : World} {X : Value} {ls : List Ln} (h : IsLns w X ls) : ∃ xs : List (Value × Ln), xs.map (·.2) = ls ∧ RawCells w X ls.length 2 (xs.flatMap lnCells) ∧ ∀ x ∈ xs, IsCds w x.1 x.2.conds := by
  obtain ⟨hl, a, cap, rfl, hr⟩ := h
  have key : ∀ n, n ≤ ls.length → ∃ xs : List (Value × Ln), xs.map (·.2) = ls.take n ∧ ∀ i (hi : i < xs.length), ∃ b o, a = some ⟨b, o, none⟩ ∧ b < w.heap.size ∧ w.cell? ⟨b, o + i * 2, none⟩ = some xs[i].1 ∧ w.cell? ⟨b, o + i * 2 + 1, none⟩ = some (.int .i64 xs[i].2.set) ∧ IsCds w xs[i].1 xs[i].2.conds := by
    intro n
    induction n with
    | zero => intro _; exact ⟨[], by simp, fun i hi => by simp at hi⟩
    | succ n ih =>
      intro hn
      obtain ⟨xs, hm, hx⟩ := ih (by omega)
      have hxl : xs.length = n := by have := congrArg List.length hm; simp at this; omega
      obtain ⟨b, o, ha, hb, v, h1, h2, h3⟩ := hr n (by omega)
      refine ⟨xs ++ [(v, ls[n])], by rw [List.map_append, hm, List.take_succ_eq_append_getElem (by omega)]; rfl, fun i hi => ?_⟩
      by_cases hin : i < xs.length
      · rw [List.getElem_append_left hin]; exact hx i hin
      · have e : i = xs.length := by simp at hi; omega
        subst e
        simp only [List.getElem_append_right (Nat.le_refl _), Nat.sub_self, List.getElem_cons_zero]
        rw [hxl]
        exact ⟨b, o, ha, hb, h1, h3, h2⟩
  obtain ⟨xs, hm, hx⟩ := key ls.length (Nat.le_refl _)
  rw [List.take_length] at hm
  have hxl : xs.length = ls.length := by rw [← hm]; simp
  refine ⟨xs, hm, ⟨by rw [lines_len, hxl], fun u hu => ?_, a, cap, rfl, ?_⟩, fun x hxm => ?_⟩
  · obtain ⟨x, hxm, hu⟩ := List.mem_flatMap.1 hu
    obtain ⟨i, hi, rfl⟩ := List.getElem_of_mem hxm
    obtain ⟨_, _, _, _, _, _, ⟨_, ca, cc, hv, _⟩⟩ := hx i hi
    unfold lnCells at hu
    simp only [List.mem_cons, List.not_mem_nil, or_false] at hu
    rcases hu with rfl | rfl
    · rw [hv]; rfl
    · rfl
  · by_cases h0 : ls.length = 0
    · exact .inl h0
    · right
      obtain ⟨b, o, ha, hb, _⟩ := hx 0 (by omega)
      refine ⟨b, o, ha, hb, fun j u hj => ?_⟩
      obtain ⟨i, r, hi, hr2, rfl, hu⟩ := lines_get xs j u hj
      obtain ⟨b', o', ha', _, h1, h2, _⟩ := hx i hi
      obtain ⟨rfl, rfl⟩ : b = b' ∧ o = o' := by rw [ha] at ha'; simpa using ha'
      match r, hr2, hu with
      | 0, _, hu => simp [lnCells] at hu; subst hu; exact h1
      | 1, _, hu => simp [lnCells] at hu; subst hu; exact h2
  · obtain ⟨i, hi, rfl⟩ := List.getElem_of_mem hxm
    obtain ⟨_, _, _, _, _, _, h⟩ := hx i hi
    exact h
theorem lines_back {B : Nat} {w : World} {v : Value} {xs : List (Value × Ln)} (h : w.ownsRow B 48 2 v xs.length (xs.flatMap lnCells)) (hl : xs.length ≤ 1000000) (hc : ∀ x ∈ xs, IsCds w x.1 x.2.conds) : IsLns w v (xs.map (·.2)) := by
  have h0 := h
  rcases h.2 with ⟨rfl, hn⟩ | ⟨g, cap, cur, rfl, _, hg, _⟩
  · obtain rfl := List.length_eq_zero_iff.1 hn
    exact ⟨by simp, none, 0, rfl, fun i hi => by simp at hi⟩
  · refine ⟨by simp; omega, some ⟨g, 0, none⟩, cap, by rw [List.length_map], fun i hi => ⟨g, 0, rfl, (Array.getElem?_eq_some_iff.1 hg).1, ?_⟩⟩
    have hi' : i < xs.length := by simpa using hi
    have hcs := World.ownsRow.cells h0 (g := g) rfl
    have key : ∀ (l : List (Value × Ln)) (i : Nat) (h : i < l.length) (j : Nat), j < 2 → (l.flatMap lnCells)[i * 2 + j]? = (lnCells l[i])[j]? := by
      intro l
      induction l with
      | nil => intro i h; simp at h
      | cons t r ih =>
        intro i h j hj
        rw [List.flatMap_cons]
        cases i with
        | zero => rw [List.getElem?_append_left (by unfold lnCells; simp; omega)]; simp
        | succ i =>
          rw [List.getElem?_append_right (by unfold lnCells; simp; omega)]
          have : (i + 1) * 2 + j - (lnCells t).length = i * 2 + j := by unfold lnCells; simp; omega
          rw [this, ih i (by simpa using h) j hj]; rfl
    have addr : ∀ k, (⟨g, 0, none⟩ : Addr).add k = ⟨g, 0 + k, none⟩ := fun k => by unfold Addr.add; split <;> simp_all
    have e0 : (xs.map (·.2))[i]'hi = xs[i].2 := by simp
    rw [e0]
    refine ⟨xs[i].1, ?_, hc _ (List.getElem_mem hi'), ?_⟩
    · have := hcs (i * 2 + 0) _ ((key xs i hi' 0 (by omega)).trans rfl); rw [addr] at this; exact this
    · have := hcs (i * 2 + 1) _ ((key xs i hi' 1 (by omega)).trans rfl); rw [addr] at this; exact this

end Go.Proofs.YtlaifodlnolndaaDoor

/- Joined: the region that appends the lines of both programs to a new slice. -/
namespace Go.Proofs.YtlaifodlnolndaaDoor
open Go.RowKit

theorem RawCells.below {w w' : World} {X : Value} {n size : Nat} {cells : List Value} (h : RawCells w X n size cells) (hb : Below w.heap.size w w') : RawCells w' X n size cells := by
  obtain ⟨h1, h2, a, cap, hX, h3⟩ := h
  refine ⟨h1, h2, a, cap, hX, h3.imp id fun ⟨b, o, ha, hlt, hc⟩ => ⟨b, o, ha, Nat.lt_of_lt_of_le hlt hb.size, fun j u hj => (hb.cell (p := ⟨b, o + j, none⟩) hlt).trans (hc j u hj)⟩⟩
def RowIs (n0 : Nat) (w : World) (v : Value) (xs : List (Value × Ln)) : Prop := w.ownsRow n0 48 2 v xs.length (xs.flatMap lnCells)
theorem RowIs.form {n0 : Nat} {w : World} {v : Value} {xs : List (Value × Ln)} (h : RowIs n0 w v xs) : ∃ a c, v = .slice a xs.length c := by
  rcases h.2 with ⟨rfl, hn⟩ | ⟨g, cap, cur, rfl, _⟩
  · exact ⟨none, 0, by rw [hn]⟩
  · exact ⟨_, _, rfl⟩
theorem RowIs.below {n0 : Nat} {w w' : World} {v : Value} {xs : List (Value × Ln)} (h : RowIs n0 w v xs) (hb : Below w.heap.size w w') : RowIs n0 w' v xs :=
  World.ownsRow.kept h (grownBy_below hb none) (by cases hv : v.ownBlock with | none => exact .inl rfl | some b => exact .inr (by simp))
theorem RowIs.far {n0 g j : Nat} {w : World} {v u z : Value} {xs : List (Value × Ln)} (h : RowIs n0 w v xs) (hg : w.heap[g]? = some (.cells #[u] 24 (0, 0))) : RowIs n0 (w.setCell ⟨g, j, none⟩ z) v xs := by
  refine World.ownsRow.kept h (grown_set w g j z) ?_
  rcases h.2 with ⟨rfl, _⟩ | ⟨b, cap, cur, rfl, _, hb, _⟩
  · exact .inl rfl
  · refine .inr fun e => ?_
    simp only [Value.ownBlock, Option.some.injEq] at e
    subst e
    rw [hg] at hb
    simp at hb
theorem RowIs.block {n0 g : Nat} {w w' : World} {v u : Value} {xs : List (Value × Ln)} (h : RowIs n0 w v xs) (hg : w.heap[g]? = some (.cells #[u] 24 (0, 0))) (hw : w.grownBy w' v.ownBlock) : w'.heap[g]? = some (.cells #[u] 24 (0, 0)) := by
  rw [hw.block g (Array.getElem?_eq_some_iff.1 hg).1 ?_]
  · exact hg
  · intro e
    rcases h.2 with ⟨rfl, _⟩ | ⟨b, cap, cur, rfl, _, hb, _⟩
    · simp [Value.ownBlock] at e
    · simp only [Value.ownBlock, Option.some.injEq] at e
      subst e
      rw [hg] at hb
      simp at hb
theorem wp_append_lines {o : Oper} {a : Act} {K : Act → World → Prop} {Q : Exit → Act → World → Prop} (W : World) (B : Nat) (hgd : o.guard = none) (s x : Operand) (ho : o.op = .call { callee := .builtin .append, args := #[s, x], argTypes := #[22, 22] }) (v : Value) (xs : List (Value × Ln)) (hs : a.eval s = v) (hown : RowIs B W v xs)
    (X : Value) (ys : List (Value × Ln)) (hx : a.eval x = X) (hX : RawCells W X ys.length 2 (ys.flatMap lnCells)) (hlen : xs.length + ys.length ≤ 1000000) (hbase : B ≤ W.heap.size)
    (h : ∀ (ad : Option Addr) (n c : Nat) w', RowIs B w' (.slice ad n c) (xs ++ ys) → W.grownBy w' v.ownBlock → K (a.put o.dst (.slice ad n c)) w') : Oper.wp Tryd.prog o a W K Q := by
  obtain ⟨i0, hi, hz0, hz1, hz2⟩ := info_parts Tryd.info48
  have hh := step_append_raw (ops := #[]) (E := True) (Q := Q) Tryd.underlying22 hi hz0 hz1 hz2 rfl (by decide) (by decide) B hgd s x ho v xs.length _ hs hown X ys.length _ hx hX hlen hbase (K := K) (fun ad c w' hw hg => h ad _ c w' (by
    unfold RowIs
    rw [List.length_append, List.flatMap_append]
    exact hw) hg)
  rwa [if_pos (by simp [Region.wanted, hgd])] at hh

theorem cell_lt {w : World} {a : Addr} {v : Value} (h : w.cell? a = some v) : a.block < w.heap.size := by
  rcases Nat.lt_or_ge a.block w.heap.size with h' | h'
  · exact h'
  · simp [World.cell?, Array.getElem?_eq_none h'] at h
def joinP (A B : Nat) (V0 V1 : Value) (i : Nat) (v : Value) (_ : World) : Prop :=
  match i with
  | 1 => v = .pointer (some ⟨A, 0, none⟩)
  | 2 => v = V0
  | 4 => v = .pointer (some ⟨B, 0, none⟩)
  | 5 => v = V1
  | _ => True
section
variable (w0 : World) (xs0 xs1 : List (Value × Ln))
structure JExt (l : Array Bool) (tm : Array Value) (w : World) : Prop where
  below : Below w0.heap.size w0 w
  e0 : l.getD 0 false = true → l.getD 3 false = false → RowIs w0.heap.size w (tm.getD 53 undef) []
  e3 : l.getD 3 false = true → l.getD 6 false = false → RowIs w0.heap.size w (tm.getD 56 undef) xs0
  e6 : l.getD 6 false = true → RowIs w0.heap.size w (tm.getD 59 undef) (xs0 ++ xs1)
  e7 : l.getD 7 false = true → tm.getD 60 undef = .agg #[tm.getD 59 undef]
  e8 : l.getD 8 false = true → ∃ g u, tm.getD 7 undef = .pointer (some ⟨g, 0, none⟩) ∧ w0.heap.size ≤ g ∧ w.heap[g]? = some (.cells #[u] 24 (0, 0)) ∧ (l.getD 9 false = true → u = tm.getD 59 undef)
end
section
variable {w0 w w2 : World} {xs0 xs1 : List (Value × Ln)} {l : Array Bool} {tm : Array Value}
theorem JExt.quiet (h : JExt w0 xs0 xs1 l tm w) {i t : Nat} (hi : [0, 3, 6, 7, 8, 9].contains i = false) (ht : [53, 56, 59, 60, 7].contains t = false) (u : Value) : JExt w0 xs0 xs1 (l.setIfInBounds i true) (tm.setIfInBounds t u) w := by
  simp only [List.contains_cons, List.contains_nil, Bool.or_false, Bool.or_eq_false_iff, beq_eq_false_iff_ne] at hi ht
  obtain ⟨h0, h3, h6, h7, h8, h9⟩ := hi
  obtain ⟨t53, t56, t59, t60, t7⟩ := ht
  obtain ⟨b, e0, e3, e6, e7, e8⟩ := h
  refine ⟨b, ?_, ?_, ?_, ?_, ?_⟩
  · rw [set_other h0, set_other h3, tset_other t53]; exact e0
  · rw [set_other h3, set_other h6, tset_other t56]; exact e3
  · rw [set_other h6, tset_other t59]; exact e6
  · rw [set_other h7, tset_other t60, tset_other t59]; exact e7
  · rw [set_other h8, set_other h9, tset_other t7, tset_other t59]; exact e8
theorem JExt.grow (h : JExt w0 xs0 xs1 l tm w) (hb : Below w.heap.size w w2) : JExt w0 xs0 xs1 l tm w2 := by
  obtain ⟨b, e0, e3, e6, e7, e8⟩ := h
  refine ⟨b.trans (hb.mono b.size), fun a c => (e0 a c).below hb, fun a c => (e3 a c).below hb, fun a => (e6 a).below hb, e7, fun a => ?_⟩
  obtain ⟨g, u, h1, h2, h3, h4⟩ := e8 a
  exact ⟨g, u, h1, h2, (hb.block g (Array.getElem?_eq_some_iff.1 h3).1).trans h3, h4⟩
end
def slotIn5 (d : Option Tmp) : Bool := match d with
  | some k => (decide (53 ≤ k) && decide (k ≤ 60)) || decide (k = 7)
  | none => true

set_option maxRecDepth 100000 in
set_option maxHeartbeats 4000000 in
theorem joined_region (a₀ : Act) (w : World) (Q : Exit → Act → World → Prop) (A B : Nat) (V0 V1 : Value) (xs0 xs1 : List (Value × Ln)) (ops : Array Oper) (hops : regOf Tryd.f6 5 = some ops)
    (h3 : a₀.tmps.getD 3 undef = .pointer (some ⟨A, 0, none⟩)) (h4 : a₀.tmps.getD 4 undef = .pointer (some ⟨B, 0, none⟩)) (hz : a₀.tmps.size = 141)
    (cA : w.cell? ⟨A, 0, none⟩ = some V0) (cB : w.cell? ⟨B, 0, none⟩ = some V1) (r0 : RawCells w V0 xs0.length 2 (xs0.flatMap lnCells)) (r1 : RawCells w V1 xs1.length 2 (xs1.flatMap lnCells)) (hlen : xs0.length + xs1.length ≤ 100000)
    (hQ : ∀ (a : Act) (w' : World) g u, a.tmps.size = 141 → a.defers = a₀.defers → (∀ t, (t < 53 ∨ 60 < t) → t ≠ 7 → a.tmps.getD t undef = a₀.tmps.getD t undef) → a.tmps.getD 7 undef = .pointer (some ⟨g, 0, none⟩) →
      w'.heap[g]? = some (.cells #[u] 24 (0, 0)) → RowIs w.heap.size w' u (xs0 ++ xs1) → Below w.heap.size w w' → Q .normal a w') :
    (Code.region 5 ops true).wp Tryd.prog Q a₀ w := by
  obtain rfl := Option.some.inj ((rfl : regOf Tryd.f6 5 = some _).symm.trans hops)
  clear hops
  have hAw := cell_lt cA
  have hBw := cell_lt cB
  refine wp_region_mids (by kernel_rfl) (JExt w xs0 xs1) (joinP A B V0 V1) (fun _ _ _ => True) (by kernel_rfl) (by rw [hz]; kernel_rfl) (by kernel_rfl) (fun _ _ _ _ _ _ _ _ h => h) ?_ ?_ ?_
  · exact ⟨(Below.refl _ _).drew, fun h => (by cases h), fun h => (by cases h), fun h => (by cases h), fun h => (by cases h), fun h => (by cases h)⟩
  · intro i listed a w' hM hi o ho
    have HE := Lib.hid hM.ext
    have hlt := (Array.getElem?_eq_some_iff.1 ho).1
    have hsz := hM.size
    have HZT : Hid (a.tmps.size = 141) := Lib.hid (hM.tmps.trans hz)
    have hsw : w.heap.size ≤ w'.heap.size := HE.out.below.size
    match i, hlt with
    | 0, _ =>
      have n3 : listed.getD 3 false = false := by
        rw [Bool.eq_false_iff]; intro h
        have := anc_listed hM.down 5 3 0 (by kernel_rfl) h
        rw [hM.not_yet hi] at this; cases this
      have HG := Lib.hid (HE.out.grow ((Below.refl _ _).alloc (Nat.le_refl _) (.cells #[] 48)))
      have hrow : RowIs w.heap.size (w'.alloc (.cells #[] 48)) (.slice (some ⟨w'.heap.size, 0, none⟩) 0 0) [] := World.ownsRow_made w' #[] 0 hsw (by unfold maxLen; omega) rfl
      have HRow := Lib.hid hrow
      clear hrow
      obtain rfl := Option.some.inj ho
      go_simp
      refine ⟨.slice (some ⟨w'.heap.size, 0, none⟩) 0 0, rfl, ⟨HG.out.below, ?_, ?_, ?_, ?_, ?_⟩, trivial, trivial⟩
      · intro _ _
        show RowIs _ _ ((a.tmps.setIfInBounds 53 _).getD 53 undef) []
        rw [tset_same (by have := HZT.out; omega)]; exact HRow.out
      · rw [set_other (by decide), n3]; intro h; cases h
      · intro h; rw [set_other (by decide)] at h
        have := HG.out.e6 h
        show RowIs _ _ ((a.tmps.setIfInBounds 53 _).getD 59 undef) _
        rw [tset_other (by decide)]; exact this
      · intro h; rw [set_other (by decide)] at h
        show (a.tmps.setIfInBounds 53 _).getD 60 undef = .agg #[(a.tmps.setIfInBounds 53 _).getD 59 undef]
        rw [tset_other (by decide), tset_other (by decide)]; exact HG.out.e7 h
      · intro h; rw [set_other (by decide)] at h
        obtain ⟨g, u, h1, h2, h3, h4⟩ := HG.out.e8 h
        refine ⟨g, u, ?_, h2, h3, fun h9 => ?_⟩
        · show (a.tmps.setIfInBounds 53 _).getD 7 undef = _
          rw [tset_other (by decide)]; exact h1
        · rw [set_other (by decide)] at h9
          show u = (a.tmps.setIfInBounds 53 _).getD 59 undef
          rw [tset_other (by decide)]; exact h4 h9
    | 1, _ =>
      have d := hM.old hi 3 (by kernel_rfl) _ h3
      obtain rfl := Option.some.inj ho
      go_simp
      exact ⟨_, rfl, HE.out.quiet (by decide) (by decide) _, trivial, rfl⟩
    | 2, _ =>
      have d : a.tmps[54]?.getD undef = .pointer (some ⟨A, 0, none⟩) := hM.dep hi 1 54 (by kernel_rfl) (by kernel_rfl)
      have x := (HE.out.below.cell (p := ⟨A, 0, none⟩) hAw).trans cA
      obtain rfl := Option.some.inj ho
      go_simp
      exact ⟨_, rfl, HE.out.quiet (by decide) (by decide) _, trivial, rfl⟩
    | 3, _ =>
      have d1 : a.tmps[55]?.getD undef = V0 := hM.dep hi 2 55 (by kernel_rfl) (by kernel_rfl)
      have n0 := hM.came hi 0 (by kernel_rfl)
      have n3 := hM.not_yet hi
      have n6 : listed.getD 6 false = false := by
        rw [Bool.eq_false_iff]; intro h
        have := anc_listed hM.down 5 6 3 (by kernel_rfl) h
        rw [n3] at this; cases this
      have n7 : listed.getD 7 false = false := by
        rw [Bool.eq_false_iff]; intro h
        have := anc_listed hM.down 5 7 3 (by kernel_rfl) h
        rw [n3] at this; cases this
      have n9 : listed.getD 9 false = false := by
        rw [Bool.eq_false_iff]; intro h
        have := anc_listed hM.down 5 9 3 (by kernel_rfl) h
        rw [n3] at this; cases this
      have hrow := HE.out.e0 n0 n3
      obtain rfl := Option.some.inj ho
      refine wp_append_lines w' w.heap.size rfl (.tmp 53) (.tmp 55) rfl (a.tmps.getD 53 undef) [] (by simp [Act.eval]) hrow V0 xs0 (by rw [← d1]; simp [Act.eval]) (r0.below HE.out.below) (by simp; omega) hsw ?_
      intro ad n c w2 hr2 hg2
      refine ⟨_, rfl, ⟨HE.out.below.grown hg2 hsw (fun q hq => (World.ownsRow.lt hrow q hq).1), ?_, ?_, ?_, ?_, ?_⟩, trivial, trivial⟩
      · rw [set_same (by rw [hsz]; decide)]; intro _ h; cases h
      · intro _ _
        show RowIs _ _ ((a.tmps.setIfInBounds 56 _).getD 56 undef) xs0
        rw [tset_same (by have := HZT.out; omega)]; exact hr2
      · rw [set_other (by decide), n6]; intro h; cases h
      · rw [set_other (by decide), n7]; intro h; cases h
      · intro h; rw [set_other (by decide)] at h
        obtain ⟨g, u, h1, h2, h3, h4⟩ := HE.out.e8 h
        refine ⟨g, u, ?_, h2, hrow.block h3 hg2, fun h9 => ?_⟩
        · show (a.tmps.setIfInBounds 56 _).getD 7 undef = _
          rw [tset_other (by decide)]; exact h1
        · rw [set_other (by decide), n9] at h9; cases h9
    | 4, _ =>
      have d := hM.old hi 4 (by kernel_rfl) _ h4
      obtain rfl := Option.some.inj ho
      go_simp
      exact ⟨_, rfl, HE.out.quiet (by decide) (by decide) _, trivial, rfl⟩
    | 5, _ =>
      have d : a.tmps[57]?.getD undef = .pointer (some ⟨B, 0, none⟩) := hM.dep hi 4 57 (by kernel_rfl) (by kernel_rfl)
      have x := (HE.out.below.cell (p := ⟨B, 0, none⟩) hBw).trans cB
      obtain rfl := Option.some.inj ho
      go_simp
      exact ⟨_, rfl, HE.out.quiet (by decide) (by decide) _, trivial, rfl⟩
    | 6, _ =>
      have d1 : a.tmps[58]?.getD undef = V1 := hM.dep hi 5 58 (by kernel_rfl) (by kernel_rfl)
      have n3 := hM.came hi 3 (by kernel_rfl)
      have n6 := hM.not_yet hi
      have n7 : listed.getD 7 false = false := by
        rw [Bool.eq_false_iff]; intro h
        have := anc_listed hM.down 5 7 6 (by kernel_rfl) h
        rw [n6] at this; cases this
      have n9 : listed.getD 9 false = false := by
        rw [Bool.eq_false_iff]; intro h
        have := anc_listed hM.down 5 9 6 (by kernel_rfl) h
        rw [n6] at this; cases this
      have hrow := HE.out.e3 n3 n6
      obtain rfl := Option.some.inj ho
      refine wp_append_lines w' w.heap.size rfl (.tmp 56) (.tmp 58) rfl (a.tmps.getD 56 undef) xs0 (by simp [Act.eval]) hrow V1 xs1 (by rw [← d1]; simp [Act.eval]) (r1.below HE.out.below) (by omega) hsw ?_
      intro ad n c w2 hr2 hg2
      refine ⟨_, rfl, ⟨HE.out.below.grown hg2 hsw (fun q hq => (World.ownsRow.lt hrow q hq).1), ?_, ?_, ?_, ?_, ?_⟩, trivial, trivial⟩
      · rw [set_other (by decide), set_other (by decide), n3]; intro _ h; cases h
      · rw [set_other (by decide), set_same (by rw [hsz]; decide)]; intro _ h; cases h
      · intro _
        show RowIs _ _ ((a.tmps.setIfInBounds 59 _).getD 59 undef) _
        rw [tset_same (by have := HZT.out; omega)]; exact hr2
      · rw [set_other (by decide), n7]; intro h; cases h
      · intro h; rw [set_other (by decide)] at h
        obtain ⟨g, u, h1, h2, h3, h4⟩ := HE.out.e8 h
        refine ⟨g, u, ?_, h2, hrow.block h3 hg2, fun h9 => ?_⟩
        · show (a.tmps.setIfInBounds 59 _).getD 7 undef = _
          rw [tset_other (by decide)]; exact h1
        · rw [set_other (by decide), n9] at h9; cases h9
    | 7, _ =>
      have n6 := hM.came hi 6 (by kernel_rfl)
      have n3 := anc_listed hM.down 5 6 3 (by kernel_rfl) n6
      obtain ⟨b, e0, e3, e6, e7, e8⟩ := HE.out
      have hr := e6 n6
      obtain ⟨ad, c, hf⟩ := hr.form
      rw [Array.getD_eq_getD_getElem?] at hf
      generalize (xs0 ++ xs1).length = nn at hf
      obtain rfl := Option.some.inj ho
      go_simp
      refine ⟨_, rfl, ⟨b, ?_, ?_, ?_, ?_, ?_⟩, trivial, trivial⟩
      · rw [set_other (by decide), set_other (by decide), n3]; intro _ h; cases h
      · rw [set_other (by decide), set_other (by decide), n6]; intro _ h; cases h
      · intro _
        show RowIs _ _ ((a.tmps.setIfInBounds 60 _).getD 59 undef) _
        rw [tset_other (by decide)]; exact hr
      · intro _
        show (a.tmps.setIfInBounds 60 _).getD 60 undef = .agg #[(a.tmps.setIfInBounds 60 _).getD 59 undef]
        rw [tset_same (by have := HZT.out; omega), tset_other (by decide), Array.getD_eq_getD_getElem?, hf]
      · intro h; rw [set_other (by decide)] at h
        obtain ⟨g, u, h1, h2, h3, h4⟩ := e8 h
        refine ⟨g, u, ?_, h2, h3, fun h9 => ?_⟩
        · show (a.tmps.setIfInBounds 60 _).getD 7 undef = _
          rw [tset_other (by decide)]; exact h1
        · rw [set_other (by decide)] at h9
          show u = (a.tmps.setIfInBounds 60 _).getD 59 undef
          rw [tset_other (by decide)]; exact h4 h9
    | 8, _ =>
      have n9 : listed.getD 9 false = false := by
        rw [Bool.eq_false_iff]; intro h
        have := anc_listed hM.down 5 9 8 (by kernel_rfl) h
        rw [hM.not_yet hi] at this; cases this
      have HG := Lib.hid (HE.out.grow ((Below.refl _ _).alloc (Nat.le_refl _) (.cells #[.slice none 0 0] 24)))
      obtain rfl := Option.some.inj ho
      go_simp
      refine ⟨.pointer (some ⟨w'.heap.size, 0, none⟩), rfl, ⟨HG.out.below, ?_, ?_, ?_, ?_, ?_⟩, trivial, trivial⟩
      · intro h h'; rw [set_other (by decide)] at h h'
        show RowIs _ _ ((a.tmps.setIfInBounds 7 _).getD 53 undef) []
        rw [tset_other (by decide)]; exact HG.out.e0 h h'
      · intro h h'; rw [set_other (by decide)] at h h'
        show RowIs _ _ ((a.tmps.setIfInBounds 7 _).getD 56 undef) _
        rw [tset_other (by decide)]; exact HG.out.e3 h h'
      · intro h; rw [set_other (by decide)] at h
        show RowIs _ _ ((a.tmps.setIfInBounds 7 _).getD 59 undef) _
        rw [tset_other (by decide)]; exact HG.out.e6 h
      · intro h; rw [set_other (by decide)] at h
        show (a.tmps.setIfInBounds 7 _).getD 60 undef = .agg #[(a.tmps.setIfInBounds 7 _).getD 59 undef]
        rw [tset_other (by decide), tset_other (by decide)]; exact HG.out.e7 h
      · intro _
        refine ⟨w'.heap.size, .slice none 0 0, ?_, hsw, heap_new _ _ _ rfl, fun h9 => ?_⟩
        · show (a.tmps.setIfInBounds 7 _).getD 7 undef = _
          rw [tset_same (by have := HZT.out; omega)]
        · rw [set_other (by decide), n9] at h9; cases h9
    | 9, _ =>
      have n8 := hM.came hi 8 (by kernel_rfl)
      have n7 := hM.came hi 7 (by kernel_rfl)
      have n6 := anc_listed hM.down 5 7 6 (by kernel_rfl) n7
      have n3 := anc_listed hM.down 5 6 3 (by kernel_rfl) n6
      obtain ⟨b, e0, e3, e6, e7, e8⟩ := HE.out
      have hr := e6 n6
      have ha := e7 n7
      obtain ⟨g, u, h1, h2, h3, h4⟩ := e8 n8
      obtain ⟨ad, c, hf⟩ := hr.form
      rw [hf] at ha hr
      have d1 := h1
      rw [Array.getD_eq_getD_getElem?] at d1 ha
      have z1 : w'.cell? ⟨g, 0, none⟩ = some u := by simp [World.cell?, h3]
      have z2 : w'.frozen? ⟨g, 0, none⟩ = false := by simp [World.frozen?, h3]
      have HFar := Lib.hid (hr.far (j := 0) (z := .slice ad (xs0 ++ xs1).length c) h3)
      have HBl := Lib.hid (b.setCell (p := ⟨g, 0, none⟩) h2 (.slice ad (xs0 ++ xs1).length c))
      have HNew : Hid ((w'.setCell ⟨g, 0, none⟩ (.slice ad (xs0 ++ xs1).length c)).heap[g]? = some (.cells #[.slice ad (xs0 ++ xs1).length c] 24 (0, 0))) := Lib.hid (by simp [World.setCell, Array.getElem?_modify, h3])
      have HH := Lib.hid h1
      have HF2 := Lib.hid hf
      generalize (xs0 ++ xs1).length = nn at *
      clear e0 e3 e6 e7 e8 h3 h4 hr h1 hf b
      obtain rfl := Option.some.inj ho
      go_simp
      refine ⟨undef, rfl, ⟨HBl.out, ?_, ?_, ?_, ?_, ?_⟩, trivial, trivial⟩
      · rw [set_other (by decide), set_other (by decide), n3]; intro _ h; cases h
      · rw [set_other (by decide), set_other (by decide), n6]; intro _ h; cases h
      · intro _
        show RowIs _ _ (a.tmps.getD 59 undef) _
        rw [HF2.out]; exact HFar.out
      · intro _
        show a.tmps.getD 60 undef = .agg #[a.tmps.getD 59 undef]
        rw [HF2.out, Array.getD_eq_getD_getElem?]; exact ha
      · exact fun _ => ⟨g, _, HH.out, h2, HNew.out, fun _ => HF2.out.symm⟩
    | i + 10, h =>
      exact absurd (show i + 10 < 10 from h) (by omega)
  · intro listed a w' hall hM
    obtain ⟨b, e0, e3, e6, e7, e8⟩ := hM.ext
    obtain ⟨g, u, h1, h2, h3, h4⟩ := e8 (hall 8 (by decide))
    have hu := h4 (hall 9 (by decide))
    refine hQ a w' g u (hM.tmps.trans hz) hM.defers (fun t ht1 ht2 => hM.free t fun mm hmm o ho hd => ?_) h1 h3 (hu ▸ e6 (hall 6 (by decide))) b
    have hs : slotIn5 o.dst = true := all_get (p := fun o => slotIn5 o.dst) (by kernel_rfl) ho
    rw [hd] at hs
    simp only [slotIn5, Bool.or_eq_true, Bool.and_eq_true, decide_eq_true_eq] at hs
    exact (show ¬ ((53 ≤ t ∧ t ≤ 60) ∨ t = 7) from by omega) hs

end Go.Proofs.YtlaifodlnolndaaDoor

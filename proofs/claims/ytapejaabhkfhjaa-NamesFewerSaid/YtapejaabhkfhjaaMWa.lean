/- A source that comes in as an argument (printed by gen_wa.py). -/
import Derived.Test.YtapejaabhkfhjaaMNf
import Derived.Deep.Slices
import Derived.Deep.Fields
import Derived.ChangeSame
import Derived.OpenShut
import Derived.SizedLaws
namespace Go.Proofs.Ytapejaabhkfhjaa
open Go.RowKit Go.ChangeShapes Go.WideShapes Go.Deep

theorem list_of {α : Type} {P : Nat → α → Prop} : ∀ n : Nat, (∀ i, i < n → ∃ t, P i t) → ∃ ts : List α, ts.length = n ∧ ∀ i (h : i < ts.length), P i ts[i]
  | 0, _ => ⟨[], rfl, fun i h => by simp at h⟩
  | n + 1, h => by
    obtain ⟨ts, hl, hp⟩ := list_of n (fun i hi => h i (by omega))
    obtain ⟨t, ht⟩ := h n (by omega)
    refine ⟨ts ++ [t], by simp [hl], fun i hi => ?_⟩
    by_cases hin : i < ts.length
    · rw [List.getElem_append_left hin]; exact hp i hin
    · have e : i = ts.length := by simp at hi; omega
      subst e
      simp only [List.getElem_append_right (Nat.le_refl _), Nat.sub_self, List.getElem_cons_zero]
      rw [hl]; exact ht
theorem weightsAll_mem {H : Type} {P : Program} {e : TypeId} {d : DataW H} {n : Nat} : ∀ {l : List (DataW H)}, d ∈ l → n ∈ d.weights P e → n ∈ DataW.weightsAll P e l
  | [], h, _ => by simp at h
  | x :: r, h, hn => by
    simp only [DataW.weightsAll, List.mem_append]
    rcases List.mem_cons.1 h with rfl | h
    · exact .inl hn
    · exact .inr (weightsAll_mem h hn)
theorem cell_in {w : World} {a : Addr} {v : Value} (h : w.cell? a = some v) : a.block < w.heap.size := by
  rcases Nat.lt_or_ge a.block w.heap.size with h' | h'
  · exact h'
  · simp [World.cell?, Array.getElem?_eq_none h'] at h
theorem drop_split {α : Type} (l : List α) (o n : Nat) : l.drop o = (l.drop o).take n ++ l.drop (o + n) := by
  rw [← List.drop_drop]; exact (List.take_append_drop _ _).symm
theorem cells_string : Try.prog.cellsOf 9 = 1 := by kernel_rfl
theorem cells_int : Try.prog.cellsOf 3 = 1 := by kernel_rfl
theorem cells_bool : Try.prog.cellsOf 4 = 1 := by kernel_rfl
theorem cells_api_Ref : Try.prog.cellsOf 23 = 2 := by kernel_rfl
theorem cells__2_api_Expr : Try.prog.cellsOf 49 = 12 := by kernel_rfl
theorem cells_Expr : Try.prog.cellsOf 26 = 6 := by kernel_rfl
theorem cells_Source : Try.prog.cellsOf 35 = 26 := by kernel_rfl
theorem cells_LetDecl : Try.prog.cellsOf 55 = 7 := by kernel_rfl
theorem cells_CropDecl : Try.prog.cellsOf 57 = 7 := by kernel_rfl
theorem cells_ReachDecl : Try.prog.cellsOf 51 = 51 := by kernel_rfl
theorem cells_FarmDecl : Try.prog.cellsOf 59 = 12 := by kernel_rfl
theorem cells_TurnDecl : Try.prog.cellsOf 66 = 8 := by kernel_rfl
theorem cells_Rotation : Try.prog.cellsOf 64 = 23 := by kernel_rfl
theorem cells_RightDecl : Try.prog.cellsOf 68 = 37 := by kernel_rfl
theorem cells_DutyDecl : Try.prog.cellsOf 70 = 11 := by kernel_rfl
theorem cells___api_LetDecl : Try.prog.cellsOf 27 = 1 := by kernel_rfl
theorem cells___api_CropDecl : Try.prog.cellsOf 28 = 1 := by kernel_rfl
theorem cells___api_ReachDecl : Try.prog.cellsOf 29 = 1 := by kernel_rfl
theorem cells___api_FarmDecl : Try.prog.cellsOf 30 = 1 := by kernel_rfl
theorem cells___api_TurnDecl : Try.prog.cellsOf 62 = 1 := by kernel_rfl
theorem cells___api_Rotation : Try.prog.cellsOf 31 = 1 := by kernel_rfl
theorem cells___api_RightDecl : Try.prog.cellsOf 32 = 1 := by kernel_rfl
theorem cells___api_DutyDecl : Try.prog.cellsOf 33 = 1 := by kernel_rfl
theorem cells___api_Expr : Try.prog.cellsOf 24 = 1 := by kernel_rfl
theorem bytes_Expr : 0 < Try.prog.bytesOf 26 := of_decide_eq_true (by kernel_rfl)
theorem bytes_Let : 0 < Try.prog.bytesOf 55 := of_decide_eq_true (by kernel_rfl)
theorem bytes_Crop : 0 < Try.prog.bytesOf 57 := of_decide_eq_true (by kernel_rfl)
theorem bytes_Reach : 0 < Try.prog.bytesOf 51 := of_decide_eq_true (by kernel_rfl)
theorem bytes_Farm : 0 < Try.prog.bytesOf 59 := of_decide_eq_true (by kernel_rfl)
theorem bytes_Turn : 0 < Try.prog.bytesOf 66 := of_decide_eq_true (by kernel_rfl)
theorem bytes_Rot : 0 < Try.prog.bytesOf 64 := of_decide_eq_true (by kernel_rfl)
theorem bytes_Right : 0 < Try.prog.bytesOf 68 := of_decide_eq_true (by kernel_rfl)
theorem bytes_Duty : 0 < Try.prog.bytesOf 70 := of_decide_eq_true (by kernel_rfl)

section
variable {H : Type} {enc : TypeId × Value → H} {W : World}
/- what is read is not too large -/
def Wt (t : TypeId) (d : DataW H) : Prop := ∀ k ∈ d.weights Try.prog t, k ≤ reachBytes
def InW (W : World) (b : Nat) : Prop := b < W.heap.size
theorem open_row {α : Type} {t e : TypeId} {sz : Nat} {Pr : List Value → α → Prop} (ht : Try.prog.underlying t = some (.slice e)) (hce : Try.prog.cellsOf e = sz) (hb1 : 0 < Try.prog.bytesOf e) (hsz : 0 < sz) {fuel : Nat} {x0 : Value} {d : DataW H} {ps : List MemPlace}
    (hE : ∀ n, n < fuel → ∀ cs d ps, DataW.trod enc Try.prog W 0 (fun _ => true) true n e cs = some (d, ps) → Wt e d → cs.length = sz → ∃ x, Pr cs x)
    (h : DataW.trod enc Try.prog W 0 (fun _ => true) true fuel t [x0] = some (d, ps)) (hw : Wt t d) : ∃ (hd : Hdr) (l : List α), x0 = hd.v ∧ IsRow (InW W) W sz Pr hd l ∧ hd.n ≤ hd.c := by
  rcases DataW.trod_slice ht h with ⟨hcs, _⟩ | ⟨a, len, cap, elems, rest, n, hfu, hcs, hx, hb, hl, hm, hlen, hel, _, _⟩
  · obtain rfl : x0 = .slice none 0 0 := (List.cons.inj hcs).1
    exact ⟨⟨none, 0, 0⟩, [], rfl, ⟨rfl, by simp, fun i h => by simp at h⟩, Nat.le_refl _⟩
  · obtain rfl : x0 = .slice (some a) len cap := (List.cons.inj hcs).1
    simp only [Prod.mk.injEq] at hx
    have hl47 : len ≤ 140737488355328 := by
      have h1 := hw ((elems.length + rest.length) * Try.prog.bytesOf e) (by
        rw [hx.1, DataW.weights, ht]
        simp)
      have h2 : reachBytes < 2 ^ 47 := reachBytes_lt
      have h3 : elems.length + rest.length ≤ (elems.length + rest.length) * Try.prog.bytesOf e := Nat.le_mul_of_pos_right _ hb1
      omega
    have key : ∀ i, i < len → ∃ q : List Value × α, q.1.length = sz ∧ (∀ j, j < sz → W.cell? ((a.add (i * sz)).add j) = q.1[j]?) ∧ Pr q.1 q.2 := by
      intro i hi
      have h1 := hel i hi
      have h2 : elems[i]? = some (elems[i]'(by omega)) := List.getElem?_eq_getElem _
      rw [h2, hce] at h1
      obtain ⟨cs, hc, htr⟩ := Option.bind_eq_some_iff.1 h1
      obtain ⟨_, hcl, hat⟩ := World.cells?_some hc
      obtain ⟨x, hp⟩ := hE n (by omega) cs _ _ htr (fun k hk => hw k (by
        rw [hx.1, DataW.weights, ht]
        exact List.mem_cons_of_mem _ (List.mem_append.2 (.inl (weightsAll_mem (List.mem_map.2 ⟨_, List.getElem_mem (by omega), rfl⟩) hk))))) hcl
      exact ⟨(cs, x), hcl, hat, hp⟩
    by_cases h0 : len = 0
    · subst h0
      exact ⟨⟨some a, 0, cap⟩, [], rfl, ⟨rfl, by simp, fun i h => by simp at h⟩, hl⟩
    · obtain ⟨qs, hq, hp⟩ := list_of len key
      obtain ⟨q0, l0, c0, _⟩ := key 0 (by omega)
      have hc0 : W.cell? a = some (q0.1[0]'(by omega)) := by
        have := c0 0 hsz
        rw [List.getElem?_eq_getElem (by omega)] at this
        simpa [Addr.add] using this
      have hspot : a.spot = none := World.cell?_spot hc0
      have hlt : a.block < W.heap.size := cell_in hc0
      obtain ⟨b, off, spot⟩ := a
      simp only at hspot hlt
      subst hspot
      refine ⟨⟨some ⟨b, off, none⟩, len, cap⟩, qs.map (·.2), rfl, ⟨by simp [hq], by simp [hq]; omega, fun i hi => ?_⟩, hl⟩
      have hi' : i < qs.length := by simpa using hi
      obtain ⟨p1, p2, p3⟩ := hp i hi'
      refine ⟨b, off, (qs[i]).1, rfl, hlt, p1, fun j v hj => ?_, by simpa using p3⟩
      have hjl := (List.getElem?_eq_some_iff.1 hj).1
      have := p2 j (by omega)
      rw [hj] at this
      simpa [WideShapes.add_plain, Nat.add_assoc] using this
theorem rowV_of {a : Option Addr} : ∀ {l : List Ex} {k : Nat}, (∀ i (h : i < l.length), ∃ b o cs, a = some ⟨b, o, none⟩ ∧ InW W b ∧ W.rangeAt b (o + (k + i) * 6) cs ∧ ExV (InW W) W l[i] cs) → RowV (InW W) W a k l
  | [], _, _ => by rw [RowV]; trivial
  | e :: r, k, h => by
    rw [RowV]
    refine ⟨h 0 (by simp), rowV_of fun i hi => ?_⟩
    obtain ⟨b, o, cs, h1, h2, h3, h4⟩ := h (i + 1) (by simpa using hi)
    exact ⟨b, o, cs, h1, h2, by rw [show k + 1 + i = k + (i + 1) by omega]; exact h3, by simpa using h4⟩
theorem open_str {fuel : Nat} {cs : List Value} {d : DataW H} {ps : List MemPlace} (h : DataW.trod enc Try.prog W 0 (fun _ => true) true fuel 9 cs = some (d, ps)) : ∃ s : ByteArray, cs = [.string s] ∧ s.size ≤ maxLen := by
  obtain ⟨s, h1, _, h2⟩ := DataW.trod_string Try.underlying9 h
  exact ⟨s, h1, h2⟩
theorem open_int {fuel : Nat} {cs : List Value} {d : DataW H} {ps : List MemPlace} (h : DataW.trod enc Try.prog W 0 (fun _ => true) true fuel 3 cs = some (d, ps)) : ∃ z, cs = [.int .i64 z] := by
  obtain ⟨z, h1, _⟩ := DataW.trod_int Try.underlying3 h
  exact ⟨z, h1⟩
theorem open_bool {fuel : Nat} {cs : List Value} {d : DataW H} {ps : List MemPlace} (h : DataW.trod enc Try.prog W 0 (fun _ => true) true fuel 4 cs = some (d, ps)) : ∃ z, cs = [.bool z] := by
  obtain ⟨z, h1, _⟩ := DataW.trod_bool Try.underlying4 h
  exact ⟨z, h1⟩
set_option maxRecDepth 100000 in
theorem open_ref {fuel : Nat} {cs : List Value} {d : DataW H} {ps : List MemPlace} (h : DataW.trod enc Try.prog W 0 (fun _ => true) true fuel 23 cs = some (d, ps)) : ∃ r : Rf, cs = rfV r ∧ r.name.size ≤ maxLen := by
  obtain ⟨ys, n, _, hy, hlen, hyl, hfld⟩ := DataW.trod_struct Try.underlying23 h
  rw [cells_api_Ref] at hlen
  match cs, hlen, ys, hyl with
  | [x0, x1], _, [y0, y1], _ =>
    have t0 := hfld 0 _ rfl
    have t1 := hfld 1 _ rfl
    simp only [List.getElem?_cons_zero, List.getElem?_cons_succ] at t0 t1
    obtain ⟨s, e0, hs⟩ := open_str t0
    obtain ⟨z, e1⟩ := open_int t1
    obtain rfl : x0 = .string s := (List.cons.inj (show [x0] = [_] from e0)).1
    obtain rfl : x1 = .int .i64 z := (List.cons.inj (show [x1] = [_] from e1)).1
    exact ⟨⟨s, z⟩, rfl, hs⟩
set_option maxRecDepth 100000 in
theorem open_expr : ∀ (fuel : Nat) (cs : List Value) (d : DataW H) (ps : List MemPlace), DataW.trod enc Try.prog W 0 (fun _ => true) true fuel 26 cs = some (d, ps) → Wt 26 d → ∃ e : Ex, ExV (InW W) W e cs := by
  intro fuel
  induction fuel using Nat.strongRecOn with
  | ind fuel ih =>
    intro cs d ps h hw
    obtain ⟨ys, n, hfu, hy, hlen, hyl, hfld⟩ := DataW.trod_struct Try.underlying26 h
    rw [cells_Expr] at hlen
    simp only [Prod.mk.injEq] at hy
    match cs, hlen, ys, hyl with
    | [x0, x1, x2, x3, x4, x5], _, [y0, y1, y2, y3, y4], _ =>
      have t0 := hfld 0 _ rfl
      have t1 := hfld 1 _ rfl
      have t2 := hfld 2 _ rfl
      have t3 := hfld 3 _ rfl
      have t4 := hfld 4 _ rfl
      simp only [List.getElem?_cons_zero, List.getElem?_cons_succ] at t0 t1 t2 t3 t4
      obtain ⟨z0, e0⟩ := open_int t0
      obtain ⟨z1, e1⟩ := open_int t1
      obtain ⟨z2, e2⟩ := open_int t2
      obtain ⟨r, e3, hr⟩ := open_ref t3
      obtain rfl : x0 = .int .i64 z0 := (List.cons.inj (show [x0] = [_] from e0)).1
      obtain rfl : x1 = .int .i64 z1 := (List.cons.inj (show [x1] = [_] from e1)).1
      obtain rfl : x2 = .int .i64 z2 := (List.cons.inj (show [x2] = [_] from e2)).1
      have e3 : [x3, x4] = [Value.string r.name, .int .i64 r.n] := e3
      obtain ⟨rfl, e4⟩ := List.cons.inj e3
      obtain ⟨rfl, _⟩ := List.cons.inj e4
      obtain ⟨hd, l, e5, hrow, _⟩ := open_row (x0 := x5) (Pr := fun cs e => ExV (InW W) W e cs) Try.underlying24 cells_Expr bytes_Expr (by decide) (fun m hm cs d ps h hw _ => ih m (by omega) cs d ps h hw) (show DataW.trod enc Try.prog W 0 (fun _ => true) true n 24 [x5] = some (y4.1, y4.2) from t4) (fun k hk => hw k (by
        rw [hy.1, DataW.weights, Try.underlying26]
        exact DataW.weights_mem_each (j := 4) (t := 24) (d := y4.1) rfl rfl _ hk))
      subst e5
      refine ⟨.mk z0 z1 z2 r.name r.n l, ?_⟩
      rw [ExV]
      refine ⟨hd.a, hd.c, by unfold Hdr.v; rw [hrow.1], hrow.2.1, hr, rowV_of fun i hi => ?_⟩
      obtain ⟨b, o, cs, g1, g2, _, g4, g5⟩ := hrow.2.2 i hi
      exact ⟨b, o, cs, g1, g2, by rw [Nat.zero_add]; exact g4, g5⟩
set_option maxRecDepth 100000 in
theorem open_two {fuel : Nat} {cs : List Value} {d : DataW H} {ps : List MemPlace} (h : DataW.trod enc Try.prog W 0 (fun _ => true) true fuel 49 cs = some (d, ps)) (hw : Wt 49 d) : ∃ (e f : Ex) (c c' : List Value), cs = c ++ c' ∧ ExV (InW W) W e c ∧ ExV (InW W) W f c' := by
  obtain ⟨ys, n, hfu, hy, hlen, hyl, hfld⟩ := DataW.trod_array Try.underlying49 h
  simp only [Prod.mk.injEq] at hy
  rw [cells__2_api_Expr] at hlen
  match ys, hyl with
  | [y0, y1], _ =>
    have t0 : DataW.trod enc Try.prog W 0 (fun _ => true) true n 26 ((cs.drop (0 * Try.prog.cellsOf 26)).take (Try.prog.cellsOf 26)) = some (y0.1, y0.2) := hfld 0 (by decide)
    have t1 : DataW.trod enc Try.prog W 0 (fun _ => true) true n 26 ((cs.drop (1 * Try.prog.cellsOf 26)).take (Try.prog.cellsOf 26)) = some (y1.1, y1.2) := hfld 1 (by decide)
    rw [cells_Expr] at t0 t1
    obtain ⟨e, he⟩ := open_expr n _ _ _ t0 (fun k hk => hw k (by
      rw [hy.1, DataW.weights, Try.underlying49]
      exact weightsAll_mem (d := y0.1) (by simp) hk))
    obtain ⟨f, hf⟩ := open_expr n _ _ _ t1 (fun k hk => hw k (by
      rw [hy.1, DataW.weights, Try.underlying49]
      exact weightsAll_mem (d := y1.1) (by simp) hk))
    refine ⟨e, f, _, _, ?_, he, hf⟩
    have s0 := drop_split cs 0 6
    have s1 := drop_split cs 6 6
    have hend : cs.drop 12 = [] := by rw [← hlen]; exact List.drop_length
    simp only [Nat.reduceAdd, Nat.zero_mul, Nat.one_mul] at s0 s1 ⊢
    rw [hend, List.append_nil] at s1
    rw [List.drop_zero] at s0
    rw [← s1]
    rw [List.drop_zero]
    exact s0
set_option maxRecDepth 100000 in
theorem open_Let (fuel : Nat) (cs : List Value) (d : DataW H) (ps : List MemPlace) (h : DataW.trod enc Try.prog W 0 (fun _ => true) true fuel 55 cs = some (d, ps)) (hw : Wt 55 d) (hlen : cs.length = 7) : ∃ x : LetD, LetV (InW W) W cs x := by
  obtain ⟨ys, n, hfu, hy, _, hyl, hfld⟩ := DataW.trod_struct Try.underlying55 h
  simp only [Prod.mk.injEq] at hy
  have hyl : ys.length = 2 := hyl
  match ys, hyl with
  | [y0, y1], _ =>
    have t0 : DataW.trod enc Try.prog W 0 (fun _ => true) true n 9 ((cs.drop 0).take (Try.prog.cellsOf 9)) = some (y0.1, y0.2) := hfld 0 _ rfl
    rw [cells_string] at t0
    have t1 : DataW.trod enc Try.prog W 0 (fun _ => true) true n 26 ((cs.drop 1).take (Try.prog.cellsOf 26)) = some (y1.1, y1.2) := hfld 1 _ rfl
    rw [cells_Expr] at t1
    have hcs : cs = cs.drop 0 := rfl
    have s0 := drop_split cs 0 1
    obtain ⟨q0, hq0⟩ : ∃ q, q = (cs.drop 0).take 1 := ⟨_, rfl⟩
    rw [← hq0] at t0 s0
    have s1 := drop_split cs 1 6
    obtain ⟨q1, hq1⟩ : ∃ q, q = (cs.drop 1).take 6 := ⟨_, rfl⟩
    rw [← hq1] at t1 s1
    have hend : cs.drop 7 = [] := by rw [← hlen]; exact List.drop_length
    simp only [Nat.reduceAdd] at s0 s1
    rw [List.drop_zero] at s0
    rw [s1] at s0
    rw [hend] at s0
    clear hcs
    obtain ⟨v0, e0, z0⟩ := open_str t0
    obtain ⟨v1, e1⟩ := open_expr n q1 _ _ t1 (fun k hk => hw k (by
      rw [hy.1, DataW.weights, Try.underlying55]
      exact DataW.weights_mem_each (j := 1) (t := 26) (d := y1.1) rfl rfl _ hk))
    exact ⟨⟨v0, v1⟩, z0, q1, by rw [s0, e0]; simp, e1⟩
set_option maxRecDepth 100000 in
theorem open_Crop (fuel : Nat) (cs : List Value) (d : DataW H) (ps : List MemPlace) (h : DataW.trod enc Try.prog W 0 (fun _ => true) true fuel 57 cs = some (d, ps)) (hw : Wt 57 d) (hlen : cs.length = 7) : ∃ x : CropD, CropV (InW W) W cs x := by
  obtain ⟨ys, n, hfu, hy, _, hyl, hfld⟩ := DataW.trod_struct Try.underlying57 h
  simp only [Prod.mk.injEq] at hy
  have hyl : ys.length = 2 := hyl
  match ys, hyl with
  | [y0, y1], _ =>
    have t0 : DataW.trod enc Try.prog W 0 (fun _ => true) true n 9 ((cs.drop 0).take (Try.prog.cellsOf 9)) = some (y0.1, y0.2) := hfld 0 _ rfl
    rw [cells_string] at t0
    have t1 : DataW.trod enc Try.prog W 0 (fun _ => true) true n 26 ((cs.drop 1).take (Try.prog.cellsOf 26)) = some (y1.1, y1.2) := hfld 1 _ rfl
    rw [cells_Expr] at t1
    have hcs : cs = cs.drop 0 := rfl
    have s0 := drop_split cs 0 1
    obtain ⟨q0, hq0⟩ : ∃ q, q = (cs.drop 0).take 1 := ⟨_, rfl⟩
    rw [← hq0] at t0 s0
    have s1 := drop_split cs 1 6
    obtain ⟨q1, hq1⟩ : ∃ q, q = (cs.drop 1).take 6 := ⟨_, rfl⟩
    rw [← hq1] at t1 s1
    have hend : cs.drop 7 = [] := by rw [← hlen]; exact List.drop_length
    simp only [Nat.reduceAdd] at s0 s1
    rw [List.drop_zero] at s0
    rw [s1] at s0
    rw [hend] at s0
    clear hcs
    obtain ⟨v0, e0, z0⟩ := open_str t0
    obtain ⟨v1, e1⟩ := open_expr n q1 _ _ t1 (fun k hk => hw k (by
      rw [hy.1, DataW.weights, Try.underlying57]
      exact DataW.weights_mem_each (j := 1) (t := 26) (d := y1.1) rfl rfl _ hk))
    exact ⟨⟨v0, v1⟩, z0, q1, by rw [s0, e0]; simp, e1⟩
set_option maxRecDepth 100000 in
theorem open_Reach (fuel : Nat) (cs : List Value) (d : DataW H) (ps : List MemPlace) (h : DataW.trod enc Try.prog W 0 (fun _ => true) true fuel 51 cs = some (d, ps)) (hw : Wt 51 d) (hlen : cs.length = 51) : ∃ x : ReachD, ReachV (InW W) W cs x := by
  obtain ⟨ys, n, hfu, hy, _, hyl, hfld⟩ := DataW.trod_struct Try.underlying51 h
  simp only [Prod.mk.injEq] at hy
  have hyl : ys.length = 8 := hyl
  match ys, hyl with
  | [y0, y1, y2, y3, y4, y5, y6, y7], _ =>
    have t0 : DataW.trod enc Try.prog W 0 (fun _ => true) true n 9 ((cs.drop 0).take (Try.prog.cellsOf 9)) = some (y0.1, y0.2) := hfld 0 _ rfl
    rw [cells_string] at t0
    have t1 : DataW.trod enc Try.prog W 0 (fun _ => true) true n 23 ((cs.drop 1).take (Try.prog.cellsOf 23)) = some (y1.1, y1.2) := hfld 1 _ rfl
    rw [cells_api_Ref] at t1
    have t2 : DataW.trod enc Try.prog W 0 (fun _ => true) true n 26 ((cs.drop 3).take (Try.prog.cellsOf 26)) = some (y2.1, y2.2) := hfld 2 _ rfl
    rw [cells_Expr] at t2
    have t3 : DataW.trod enc Try.prog W 0 (fun _ => true) true n 26 ((cs.drop 9).take (Try.prog.cellsOf 26)) = some (y3.1, y3.2) := hfld 3 _ rfl
    rw [cells_Expr] at t3
    have t4 : DataW.trod enc Try.prog W 0 (fun _ => true) true n 26 ((cs.drop 15).take (Try.prog.cellsOf 26)) = some (y4.1, y4.2) := hfld 4 _ rfl
    rw [cells_Expr] at t4
    have t5 : DataW.trod enc Try.prog W 0 (fun _ => true) true n 26 ((cs.drop 21).take (Try.prog.cellsOf 26)) = some (y5.1, y5.2) := hfld 5 _ rfl
    rw [cells_Expr] at t5
    have t6 : DataW.trod enc Try.prog W 0 (fun _ => true) true n 49 ((cs.drop 27).take (Try.prog.cellsOf 49)) = some (y6.1, y6.2) := hfld 6 _ rfl
    rw [cells__2_api_Expr] at t6
    have t7 : DataW.trod enc Try.prog W 0 (fun _ => true) true n 49 ((cs.drop 39).take (Try.prog.cellsOf 49)) = some (y7.1, y7.2) := hfld 7 _ rfl
    rw [cells__2_api_Expr] at t7
    have hcs : cs = cs.drop 0 := rfl
    have s0 := drop_split cs 0 1
    obtain ⟨q0, hq0⟩ : ∃ q, q = (cs.drop 0).take 1 := ⟨_, rfl⟩
    rw [← hq0] at t0 s0
    have s1 := drop_split cs 1 2
    obtain ⟨q1, hq1⟩ : ∃ q, q = (cs.drop 1).take 2 := ⟨_, rfl⟩
    rw [← hq1] at t1 s1
    have s2 := drop_split cs 3 6
    obtain ⟨q2, hq2⟩ : ∃ q, q = (cs.drop 3).take 6 := ⟨_, rfl⟩
    rw [← hq2] at t2 s2
    have s3 := drop_split cs 9 6
    obtain ⟨q3, hq3⟩ : ∃ q, q = (cs.drop 9).take 6 := ⟨_, rfl⟩
    rw [← hq3] at t3 s3
    have s4 := drop_split cs 15 6
    obtain ⟨q4, hq4⟩ : ∃ q, q = (cs.drop 15).take 6 := ⟨_, rfl⟩
    rw [← hq4] at t4 s4
    have s5 := drop_split cs 21 6
    obtain ⟨q5, hq5⟩ : ∃ q, q = (cs.drop 21).take 6 := ⟨_, rfl⟩
    rw [← hq5] at t5 s5
    have s6 := drop_split cs 27 12
    obtain ⟨q6, hq6⟩ : ∃ q, q = (cs.drop 27).take 12 := ⟨_, rfl⟩
    rw [← hq6] at t6 s6
    have s7 := drop_split cs 39 12
    obtain ⟨q7, hq7⟩ : ∃ q, q = (cs.drop 39).take 12 := ⟨_, rfl⟩
    rw [← hq7] at t7 s7
    have hend : cs.drop 51 = [] := by rw [← hlen]; exact List.drop_length
    simp only [Nat.reduceAdd] at s0 s1 s2 s3 s4 s5 s6 s7
    rw [List.drop_zero] at s0
    rw [s1] at s0
    rw [s2] at s0
    rw [s3] at s0
    rw [s4] at s0
    rw [s5] at s0
    rw [s6] at s0
    rw [s7] at s0
    rw [hend] at s0
    clear hcs
    obtain ⟨v0, e0, z0⟩ := open_str t0
    obtain ⟨v1, e1, z1⟩ := open_ref t1
    obtain ⟨v2, e2⟩ := open_expr n q2 _ _ t2 (fun k hk => hw k (by
      rw [hy.1, DataW.weights, Try.underlying51]
      exact DataW.weights_mem_each (j := 2) (t := 26) (d := y2.1) rfl rfl _ hk))
    obtain ⟨v3, e3⟩ := open_expr n q3 _ _ t3 (fun k hk => hw k (by
      rw [hy.1, DataW.weights, Try.underlying51]
      exact DataW.weights_mem_each (j := 3) (t := 26) (d := y3.1) rfl rfl _ hk))
    obtain ⟨v4, e4⟩ := open_expr n q4 _ _ t4 (fun k hk => hw k (by
      rw [hy.1, DataW.weights, Try.underlying51]
      exact DataW.weights_mem_each (j := 4) (t := 26) (d := y4.1) rfl rfl _ hk))
    obtain ⟨v5, e5⟩ := open_expr n q5 _ _ t5 (fun k hk => hw k (by
      rw [hy.1, DataW.weights, Try.underlying51]
      exact DataW.weights_mem_each (j := 5) (t := 26) (d := y5.1) rfl rfl _ hk))
    obtain ⟨v6, u6, c6, r6, e6, g6, h6⟩ := open_two t6 (fun k hk => hw k (by
      rw [hy.1, DataW.weights, Try.underlying51]
      exact DataW.weights_mem_each (j := 6) (t := 49) (d := y6.1) rfl rfl _ hk))
    obtain ⟨v7, u7, c7, r7, e7, g7, h7⟩ := open_two t7 (fun k hk => hw k (by
      rw [hy.1, DataW.weights, Try.underlying51]
      exact DataW.weights_mem_each (j := 7) (t := 49) (d := y7.1) rfl rfl _ hk))
    exact ⟨⟨v0, v1, v2, v3, v4, v5, v6, u6, v7, u7⟩, z0, z1, q2, q3, q4, q5, c6, r6, c7, r7, by rw [s0, e0, e1, e6, e7]; simp, e2, e3, e4, e5, g6, h6, g7, h7⟩
set_option maxRecDepth 100000 in
theorem open_Farm (fuel : Nat) (cs : List Value) (d : DataW H) (ps : List MemPlace) (h : DataW.trod enc Try.prog W 0 (fun _ => true) true fuel 59 cs = some (d, ps)) (hw : Wt 59 d) (hlen : cs.length = 12) : ∃ x : FarmD, FarmV (InW W) W cs x := by
  obtain ⟨ys, n, hfu, hy, _, hyl, hfld⟩ := DataW.trod_struct Try.underlying59 h
  simp only [Prod.mk.injEq] at hy
  have hyl : ys.length = 5 := hyl
  match ys, hyl with
  | [y0, y1, y2, y3, y4], _ =>
    have t0 : DataW.trod enc Try.prog W 0 (fun _ => true) true n 9 ((cs.drop 0).take (Try.prog.cellsOf 9)) = some (y0.1, y0.2) := hfld 0 _ rfl
    rw [cells_string] at t0
    have t1 : DataW.trod enc Try.prog W 0 (fun _ => true) true n 23 ((cs.drop 1).take (Try.prog.cellsOf 23)) = some (y1.1, y1.2) := hfld 1 _ rfl
    rw [cells_api_Ref] at t1
    have t2 : DataW.trod enc Try.prog W 0 (fun _ => true) true n 4 ((cs.drop 3).take (Try.prog.cellsOf 4)) = some (y2.1, y2.2) := hfld 2 _ rfl
    rw [cells_bool] at t2
    have t3 : DataW.trod enc Try.prog W 0 (fun _ => true) true n 26 ((cs.drop 4).take (Try.prog.cellsOf 26)) = some (y3.1, y3.2) := hfld 3 _ rfl
    rw [cells_Expr] at t3
    have t4 : DataW.trod enc Try.prog W 0 (fun _ => true) true n 23 ((cs.drop 10).take (Try.prog.cellsOf 23)) = some (y4.1, y4.2) := hfld 4 _ rfl
    rw [cells_api_Ref] at t4
    have hcs : cs = cs.drop 0 := rfl
    have s0 := drop_split cs 0 1
    obtain ⟨q0, hq0⟩ : ∃ q, q = (cs.drop 0).take 1 := ⟨_, rfl⟩
    rw [← hq0] at t0 s0
    have s1 := drop_split cs 1 2
    obtain ⟨q1, hq1⟩ : ∃ q, q = (cs.drop 1).take 2 := ⟨_, rfl⟩
    rw [← hq1] at t1 s1
    have s2 := drop_split cs 3 1
    obtain ⟨q2, hq2⟩ : ∃ q, q = (cs.drop 3).take 1 := ⟨_, rfl⟩
    rw [← hq2] at t2 s2
    have s3 := drop_split cs 4 6
    obtain ⟨q3, hq3⟩ : ∃ q, q = (cs.drop 4).take 6 := ⟨_, rfl⟩
    rw [← hq3] at t3 s3
    have s4 := drop_split cs 10 2
    obtain ⟨q4, hq4⟩ : ∃ q, q = (cs.drop 10).take 2 := ⟨_, rfl⟩
    rw [← hq4] at t4 s4
    have hend : cs.drop 12 = [] := by rw [← hlen]; exact List.drop_length
    simp only [Nat.reduceAdd] at s0 s1 s2 s3 s4
    rw [List.drop_zero] at s0
    rw [s1] at s0
    rw [s2] at s0
    rw [s3] at s0
    rw [s4] at s0
    rw [hend] at s0
    clear hcs
    obtain ⟨v0, e0, z0⟩ := open_str t0
    obtain ⟨v1, e1, z1⟩ := open_ref t1
    obtain ⟨v2, e2⟩ := open_bool t2
    obtain ⟨v3, e3⟩ := open_expr n q3 _ _ t3 (fun k hk => hw k (by
      rw [hy.1, DataW.weights, Try.underlying59]
      exact DataW.weights_mem_each (j := 3) (t := 26) (d := y3.1) rfl rfl _ hk))
    obtain ⟨v4, e4, z4⟩ := open_ref t4
    exact ⟨⟨v0, v1, v2, v3, v4⟩, z0, z1, z4, q3, by rw [s0, e0, e1, e2, e4]; simp, e3⟩
set_option maxRecDepth 100000 in
theorem open_Turn (fuel : Nat) (cs : List Value) (d : DataW H) (ps : List MemPlace) (h : DataW.trod enc Try.prog W 0 (fun _ => true) true fuel 66 cs = some (d, ps)) (hw : Wt 66 d) (hlen : cs.length = 8) : ∃ x : TurnD, TurnV (InW W) W cs x := by
  obtain ⟨ys, n, hfu, hy, _, hyl, hfld⟩ := DataW.trod_struct Try.underlying66 h
  simp only [Prod.mk.injEq] at hy
  have hyl : ys.length = 2 := hyl
  match ys, hyl with
  | [y0, y1], _ =>
    have t0 : DataW.trod enc Try.prog W 0 (fun _ => true) true n 23 ((cs.drop 0).take (Try.prog.cellsOf 23)) = some (y0.1, y0.2) := hfld 0 _ rfl
    rw [cells_api_Ref] at t0
    have t1 : DataW.trod enc Try.prog W 0 (fun _ => true) true n 26 ((cs.drop 2).take (Try.prog.cellsOf 26)) = some (y1.1, y1.2) := hfld 1 _ rfl
    rw [cells_Expr] at t1
    have hcs : cs = cs.drop 0 := rfl
    have s0 := drop_split cs 0 2
    obtain ⟨q0, hq0⟩ : ∃ q, q = (cs.drop 0).take 2 := ⟨_, rfl⟩
    rw [← hq0] at t0 s0
    have s1 := drop_split cs 2 6
    obtain ⟨q1, hq1⟩ : ∃ q, q = (cs.drop 2).take 6 := ⟨_, rfl⟩
    rw [← hq1] at t1 s1
    have hend : cs.drop 8 = [] := by rw [← hlen]; exact List.drop_length
    simp only [Nat.reduceAdd] at s0 s1
    rw [List.drop_zero] at s0
    rw [s1] at s0
    rw [hend] at s0
    clear hcs
    obtain ⟨v0, e0, z0⟩ := open_ref t0
    obtain ⟨v1, e1⟩ := open_expr n q1 _ _ t1 (fun k hk => hw k (by
      rw [hy.1, DataW.weights, Try.underlying66]
      exact DataW.weights_mem_each (j := 1) (t := 26) (d := y1.1) rfl rfl _ hk))
    exact ⟨⟨v0, v1⟩, z0, q1, by rw [s0, e0]; simp, e1⟩
set_option maxRecDepth 100000 in
theorem open_Rot (fuel : Nat) (cs : List Value) (d : DataW H) (ps : List MemPlace) (h : DataW.trod enc Try.prog W 0 (fun _ => true) true fuel 64 cs = some (d, ps)) (hw : Wt 64 d) (hlen : cs.length = 23) : ∃ x : RotD × Hdr, RotV (InW W) W x.2 cs x.1 := by
  obtain ⟨ys, n, hfu, hy, _, hyl, hfld⟩ := DataW.trod_struct Try.underlying64 h
  simp only [Prod.mk.injEq] at hy
  have hyl : ys.length = 7 := hyl
  match ys, hyl with
  | [y0, y1, y2, y3, y4, y5, y6], _ =>
    have t0 : DataW.trod enc Try.prog W 0 (fun _ => true) true n 9 ((cs.drop 0).take (Try.prog.cellsOf 9)) = some (y0.1, y0.2) := hfld 0 _ rfl
    rw [cells_string] at t0
    have t1 : DataW.trod enc Try.prog W 0 (fun _ => true) true n 23 ((cs.drop 1).take (Try.prog.cellsOf 23)) = some (y1.1, y1.2) := hfld 1 _ rfl
    rw [cells_api_Ref] at t1
    have t2 : DataW.trod enc Try.prog W 0 (fun _ => true) true n 3 ((cs.drop 3).take (Try.prog.cellsOf 3)) = some (y2.1, y2.2) := hfld 2 _ rfl
    rw [cells_int] at t2
    have t3 : DataW.trod enc Try.prog W 0 (fun _ => true) true n 26 ((cs.drop 4).take (Try.prog.cellsOf 26)) = some (y3.1, y3.2) := hfld 3 _ rfl
    rw [cells_Expr] at t3
    have t4 : DataW.trod enc Try.prog W 0 (fun _ => true) true n 26 ((cs.drop 10).take (Try.prog.cellsOf 26)) = some (y4.1, y4.2) := hfld 4 _ rfl
    rw [cells_Expr] at t4
    have t5 : DataW.trod enc Try.prog W 0 (fun _ => true) true n 26 ((cs.drop 16).take (Try.prog.cellsOf 26)) = some (y5.1, y5.2) := hfld 5 _ rfl
    rw [cells_Expr] at t5
    have t6 : DataW.trod enc Try.prog W 0 (fun _ => true) true n 62 ((cs.drop 22).take (Try.prog.cellsOf 62)) = some (y6.1, y6.2) := hfld 6 _ rfl
    rw [cells___api_TurnDecl] at t6
    have hcs : cs = cs.drop 0 := rfl
    have s0 := drop_split cs 0 1
    obtain ⟨q0, hq0⟩ : ∃ q, q = (cs.drop 0).take 1 := ⟨_, rfl⟩
    rw [← hq0] at t0 s0
    have s1 := drop_split cs 1 2
    obtain ⟨q1, hq1⟩ : ∃ q, q = (cs.drop 1).take 2 := ⟨_, rfl⟩
    rw [← hq1] at t1 s1
    have s2 := drop_split cs 3 1
    obtain ⟨q2, hq2⟩ : ∃ q, q = (cs.drop 3).take 1 := ⟨_, rfl⟩
    rw [← hq2] at t2 s2
    have s3 := drop_split cs 4 6
    obtain ⟨q3, hq3⟩ : ∃ q, q = (cs.drop 4).take 6 := ⟨_, rfl⟩
    rw [← hq3] at t3 s3
    have s4 := drop_split cs 10 6
    obtain ⟨q4, hq4⟩ : ∃ q, q = (cs.drop 10).take 6 := ⟨_, rfl⟩
    rw [← hq4] at t4 s4
    have s5 := drop_split cs 16 6
    obtain ⟨q5, hq5⟩ : ∃ q, q = (cs.drop 16).take 6 := ⟨_, rfl⟩
    rw [← hq5] at t5 s5
    have s6 := drop_split cs 22 1
    obtain ⟨q6, hq6⟩ : ∃ q, q = (cs.drop 22).take 1 := ⟨_, rfl⟩
    rw [← hq6] at t6 s6
    have hend : cs.drop 23 = [] := by rw [← hlen]; exact List.drop_length
    simp only [Nat.reduceAdd] at s0 s1 s2 s3 s4 s5 s6
    rw [List.drop_zero] at s0
    rw [s1] at s0
    rw [s2] at s0
    rw [s3] at s0
    rw [s4] at s0
    rw [s5] at s0
    rw [s6] at s0
    rw [hend] at s0
    clear hcs
    obtain ⟨v0, e0, z0⟩ := open_str t0
    obtain ⟨v1, e1, z1⟩ := open_ref t1
    obtain ⟨v2, e2⟩ := open_int t2
    obtain ⟨v3, e3⟩ := open_expr n q3 _ _ t3 (fun k hk => hw k (by
      rw [hy.1, DataW.weights, Try.underlying64]
      exact DataW.weights_mem_each (j := 3) (t := 26) (d := y3.1) rfl rfl _ hk))
    obtain ⟨v4, e4⟩ := open_expr n q4 _ _ t4 (fun k hk => hw k (by
      rw [hy.1, DataW.weights, Try.underlying64]
      exact DataW.weights_mem_each (j := 4) (t := 26) (d := y4.1) rfl rfl _ hk))
    obtain ⟨v5, e5⟩ := open_expr n q5 _ _ t5 (fun k hk => hw k (by
      rw [hy.1, DataW.weights, Try.underlying64]
      exact DataW.weights_mem_each (j := 5) (t := 26) (d := y5.1) rfl rfl _ hk))
    obtain ⟨xv6, ex6⟩ : ∃ v, q6 = [v] := List.length_eq_one_iff.1 (by rw [hq6, List.length_take, List.length_drop, hlen]; rfl)
    rw [ex6] at t6
    obtain ⟨hd6, l6, e6, row6, cap6⟩ := open_row (Pr := fun cs x => TurnV (InW W) W cs x) Try.underlying62 cells_TurnDecl bytes_Turn (by decide) (fun m _ cs d ps h hw hl => open_Turn m cs d ps h hw hl) t6 (fun k hk => hw k (by
      rw [hy.1, DataW.weights, Try.underlying64]
      exact DataW.weights_mem_each (j := 6) (t := 62) (d := y6.1) rfl rfl _ hk))
    rw [e6] at ex6
    exact ⟨(⟨v0, v1, v2, v3, v4, v5, l6⟩, hd6), z0, z1, q3, q4, q5, by rw [s0, e0, e1, e2, ex6]; simp, e3, e4, e5, row6⟩
set_option maxRecDepth 100000 in
theorem open_Right (fuel : Nat) (cs : List Value) (d : DataW H) (ps : List MemPlace) (h : DataW.trod enc Try.prog W 0 (fun _ => true) true fuel 68 cs = some (d, ps)) (hw : Wt 68 d) (hlen : cs.length = 37) : ∃ x : RightD, RightV (InW W) W cs x := by
  obtain ⟨ys, n, hfu, hy, _, hyl, hfld⟩ := DataW.trod_struct Try.underlying68 h
  simp only [Prod.mk.injEq] at hy
  have hyl : ys.length = 10 := hyl
  match ys, hyl with
  | [y0, y1, y2, y3, y4, y5, y6, y7, y8, y9], _ =>
    have t0 : DataW.trod enc Try.prog W 0 (fun _ => true) true n 3 ((cs.drop 0).take (Try.prog.cellsOf 3)) = some (y0.1, y0.2) := hfld 0 _ rfl
    rw [cells_int] at t0
    have t1 : DataW.trod enc Try.prog W 0 (fun _ => true) true n 9 ((cs.drop 1).take (Try.prog.cellsOf 9)) = some (y1.1, y1.2) := hfld 1 _ rfl
    rw [cells_string] at t1
    have t2 : DataW.trod enc Try.prog W 0 (fun _ => true) true n 23 ((cs.drop 2).take (Try.prog.cellsOf 23)) = some (y2.1, y2.2) := hfld 2 _ rfl
    rw [cells_api_Ref] at t2
    have t3 : DataW.trod enc Try.prog W 0 (fun _ => true) true n 23 ((cs.drop 4).take (Try.prog.cellsOf 23)) = some (y3.1, y3.2) := hfld 3 _ rfl
    rw [cells_api_Ref] at t3
    have t4 : DataW.trod enc Try.prog W 0 (fun _ => true) true n 3 ((cs.drop 6).take (Try.prog.cellsOf 3)) = some (y4.1, y4.2) := hfld 4 _ rfl
    rw [cells_int] at t4
    have t5 : DataW.trod enc Try.prog W 0 (fun _ => true) true n 26 ((cs.drop 7).take (Try.prog.cellsOf 26)) = some (y5.1, y5.2) := hfld 5 _ rfl
    rw [cells_Expr] at t5
    have t6 : DataW.trod enc Try.prog W 0 (fun _ => true) true n 26 ((cs.drop 13).take (Try.prog.cellsOf 26)) = some (y6.1, y6.2) := hfld 6 _ rfl
    rw [cells_Expr] at t6
    have t7 : DataW.trod enc Try.prog W 0 (fun _ => true) true n 26 ((cs.drop 19).take (Try.prog.cellsOf 26)) = some (y7.1, y7.2) := hfld 7 _ rfl
    rw [cells_Expr] at t7
    have t8 : DataW.trod enc Try.prog W 0 (fun _ => true) true n 26 ((cs.drop 25).take (Try.prog.cellsOf 26)) = some (y8.1, y8.2) := hfld 8 _ rfl
    rw [cells_Expr] at t8
    have t9 : DataW.trod enc Try.prog W 0 (fun _ => true) true n 26 ((cs.drop 31).take (Try.prog.cellsOf 26)) = some (y9.1, y9.2) := hfld 9 _ rfl
    rw [cells_Expr] at t9
    have hcs : cs = cs.drop 0 := rfl
    have s0 := drop_split cs 0 1
    obtain ⟨q0, hq0⟩ : ∃ q, q = (cs.drop 0).take 1 := ⟨_, rfl⟩
    rw [← hq0] at t0 s0
    have s1 := drop_split cs 1 1
    obtain ⟨q1, hq1⟩ : ∃ q, q = (cs.drop 1).take 1 := ⟨_, rfl⟩
    rw [← hq1] at t1 s1
    have s2 := drop_split cs 2 2
    obtain ⟨q2, hq2⟩ : ∃ q, q = (cs.drop 2).take 2 := ⟨_, rfl⟩
    rw [← hq2] at t2 s2
    have s3 := drop_split cs 4 2
    obtain ⟨q3, hq3⟩ : ∃ q, q = (cs.drop 4).take 2 := ⟨_, rfl⟩
    rw [← hq3] at t3 s3
    have s4 := drop_split cs 6 1
    obtain ⟨q4, hq4⟩ : ∃ q, q = (cs.drop 6).take 1 := ⟨_, rfl⟩
    rw [← hq4] at t4 s4
    have s5 := drop_split cs 7 6
    obtain ⟨q5, hq5⟩ : ∃ q, q = (cs.drop 7).take 6 := ⟨_, rfl⟩
    rw [← hq5] at t5 s5
    have s6 := drop_split cs 13 6
    obtain ⟨q6, hq6⟩ : ∃ q, q = (cs.drop 13).take 6 := ⟨_, rfl⟩
    rw [← hq6] at t6 s6
    have s7 := drop_split cs 19 6
    obtain ⟨q7, hq7⟩ : ∃ q, q = (cs.drop 19).take 6 := ⟨_, rfl⟩
    rw [← hq7] at t7 s7
    have s8 := drop_split cs 25 6
    obtain ⟨q8, hq8⟩ : ∃ q, q = (cs.drop 25).take 6 := ⟨_, rfl⟩
    rw [← hq8] at t8 s8
    have s9 := drop_split cs 31 6
    obtain ⟨q9, hq9⟩ : ∃ q, q = (cs.drop 31).take 6 := ⟨_, rfl⟩
    rw [← hq9] at t9 s9
    have hend : cs.drop 37 = [] := by rw [← hlen]; exact List.drop_length
    simp only [Nat.reduceAdd] at s0 s1 s2 s3 s4 s5 s6 s7 s8 s9
    rw [List.drop_zero] at s0
    rw [s1] at s0
    rw [s2] at s0
    rw [s3] at s0
    rw [s4] at s0
    rw [s5] at s0
    rw [s6] at s0
    rw [s7] at s0
    rw [s8] at s0
    rw [s9] at s0
    rw [hend] at s0
    clear hcs
    obtain ⟨v0, e0⟩ := open_int t0
    obtain ⟨v1, e1, z1⟩ := open_str t1
    obtain ⟨v2, e2, z2⟩ := open_ref t2
    obtain ⟨v3, e3, z3⟩ := open_ref t3
    obtain ⟨v4, e4⟩ := open_int t4
    obtain ⟨v5, e5⟩ := open_expr n q5 _ _ t5 (fun k hk => hw k (by
      rw [hy.1, DataW.weights, Try.underlying68]
      exact DataW.weights_mem_each (j := 5) (t := 26) (d := y5.1) rfl rfl _ hk))
    obtain ⟨v6, e6⟩ := open_expr n q6 _ _ t6 (fun k hk => hw k (by
      rw [hy.1, DataW.weights, Try.underlying68]
      exact DataW.weights_mem_each (j := 6) (t := 26) (d := y6.1) rfl rfl _ hk))
    obtain ⟨v7, e7⟩ := open_expr n q7 _ _ t7 (fun k hk => hw k (by
      rw [hy.1, DataW.weights, Try.underlying68]
      exact DataW.weights_mem_each (j := 7) (t := 26) (d := y7.1) rfl rfl _ hk))
    obtain ⟨v8, e8⟩ := open_expr n q8 _ _ t8 (fun k hk => hw k (by
      rw [hy.1, DataW.weights, Try.underlying68]
      exact DataW.weights_mem_each (j := 8) (t := 26) (d := y8.1) rfl rfl _ hk))
    obtain ⟨v9, e9⟩ := open_expr n q9 _ _ t9 (fun k hk => hw k (by
      rw [hy.1, DataW.weights, Try.underlying68]
      exact DataW.weights_mem_each (j := 9) (t := 26) (d := y9.1) rfl rfl _ hk))
    exact ⟨⟨v0, v1, v2, v3, v4, v5, v6, v7, v8, v9⟩, z1, z2, z3, q5, q6, q7, q8, q9, by rw [s0, e0, e1, e2, e3, e4]; simp, e5, e6, e7, e8, e9⟩
set_option maxRecDepth 100000 in
theorem open_Duty (fuel : Nat) (cs : List Value) (d : DataW H) (ps : List MemPlace) (h : DataW.trod enc Try.prog W 0 (fun _ => true) true fuel 70 cs = some (d, ps)) (hw : Wt 70 d) (hlen : cs.length = 11) : ∃ x : DutyD, DutyV (InW W) W cs x := by
  obtain ⟨ys, n, hfu, hy, _, hyl, hfld⟩ := DataW.trod_struct Try.underlying70 h
  simp only [Prod.mk.injEq] at hy
  have hyl : ys.length = 4 := hyl
  match ys, hyl with
  | [y0, y1, y2, y3], _ =>
    have t0 : DataW.trod enc Try.prog W 0 (fun _ => true) true n 9 ((cs.drop 0).take (Try.prog.cellsOf 9)) = some (y0.1, y0.2) := hfld 0 _ rfl
    rw [cells_string] at t0
    have t1 : DataW.trod enc Try.prog W 0 (fun _ => true) true n 23 ((cs.drop 1).take (Try.prog.cellsOf 23)) = some (y1.1, y1.2) := hfld 1 _ rfl
    rw [cells_api_Ref] at t1
    have t2 : DataW.trod enc Try.prog W 0 (fun _ => true) true n 23 ((cs.drop 3).take (Try.prog.cellsOf 23)) = some (y2.1, y2.2) := hfld 2 _ rfl
    rw [cells_api_Ref] at t2
    have t3 : DataW.trod enc Try.prog W 0 (fun _ => true) true n 26 ((cs.drop 5).take (Try.prog.cellsOf 26)) = some (y3.1, y3.2) := hfld 3 _ rfl
    rw [cells_Expr] at t3
    have hcs : cs = cs.drop 0 := rfl
    have s0 := drop_split cs 0 1
    obtain ⟨q0, hq0⟩ : ∃ q, q = (cs.drop 0).take 1 := ⟨_, rfl⟩
    rw [← hq0] at t0 s0
    have s1 := drop_split cs 1 2
    obtain ⟨q1, hq1⟩ : ∃ q, q = (cs.drop 1).take 2 := ⟨_, rfl⟩
    rw [← hq1] at t1 s1
    have s2 := drop_split cs 3 2
    obtain ⟨q2, hq2⟩ : ∃ q, q = (cs.drop 3).take 2 := ⟨_, rfl⟩
    rw [← hq2] at t2 s2
    have s3 := drop_split cs 5 6
    obtain ⟨q3, hq3⟩ : ∃ q, q = (cs.drop 5).take 6 := ⟨_, rfl⟩
    rw [← hq3] at t3 s3
    have hend : cs.drop 11 = [] := by rw [← hlen]; exact List.drop_length
    simp only [Nat.reduceAdd] at s0 s1 s2 s3
    rw [List.drop_zero] at s0
    rw [s1] at s0
    rw [s2] at s0
    rw [s3] at s0
    rw [hend] at s0
    clear hcs
    obtain ⟨v0, e0, z0⟩ := open_str t0
    obtain ⟨v1, e1, z1⟩ := open_ref t1
    obtain ⟨v2, e2, z2⟩ := open_ref t2
    obtain ⟨v3, e3⟩ := open_expr n q3 _ _ t3 (fun k hk => hw k (by
      rw [hy.1, DataW.weights, Try.underlying70]
      exact DataW.weights_mem_each (j := 3) (t := 26) (d := y3.1) rfl rfl _ hk))
    exact ⟨⟨v0, v1, v2, v3⟩, z0, z1, z2, q3, by rw [s0, e0, e1, e2]; simp, e3⟩
set_option maxRecDepth 100000 in
theorem open_source {fuel : Nat} {cs : List Value} {d : DataW H} {ps : List MemPlace} (h : DataW.trod enc Try.prog W 0 (fun _ => true) true fuel 35 cs = some (d, ps)) (hw : Wt 35 d) (hlen : cs.length = 26) : ∃ (L : Lay) (x : Src), SrcV (InW W) W L cs x ∧ L.duties.n ≤ L.duties.c ∧ L.rights.n ≤ L.rights.c := by
  obtain ⟨ys, n, hfu, hy, _, hyl, hfld⟩ := DataW.trod_struct Try.underlying35 h
  simp only [Prod.mk.injEq] at hy
  have hyl : ys.length = 11 := hyl
  match ys, hyl with
  | [y0, y1, y2, y3, y4, y5, y6, y7, y8, y9, y10], _ =>
    have t0 : DataW.trod enc Try.prog W 0 (fun _ => true) true n 9 ((cs.drop 0).take (Try.prog.cellsOf 9)) = some (y0.1, y0.2) := hfld 0 _ rfl
    rw [cells_string] at t0
    have t1 : DataW.trod enc Try.prog W 0 (fun _ => true) true n 26 ((cs.drop 1).take (Try.prog.cellsOf 26)) = some (y1.1, y1.2) := hfld 1 _ rfl
    rw [cells_Expr] at t1
    have t2 : DataW.trod enc Try.prog W 0 (fun _ => true) true n 26 ((cs.drop 7).take (Try.prog.cellsOf 26)) = some (y2.1, y2.2) := hfld 2 _ rfl
    rw [cells_Expr] at t2
    have t3 : DataW.trod enc Try.prog W 0 (fun _ => true) true n 26 ((cs.drop 13).take (Try.prog.cellsOf 26)) = some (y3.1, y3.2) := hfld 3 _ rfl
    rw [cells_Expr] at t3
    have t4 : DataW.trod enc Try.prog W 0 (fun _ => true) true n 27 ((cs.drop 19).take (Try.prog.cellsOf 27)) = some (y4.1, y4.2) := hfld 4 _ rfl
    rw [cells___api_LetDecl] at t4
    have t5 : DataW.trod enc Try.prog W 0 (fun _ => true) true n 28 ((cs.drop 20).take (Try.prog.cellsOf 28)) = some (y5.1, y5.2) := hfld 5 _ rfl
    rw [cells___api_CropDecl] at t5
    have t6 : DataW.trod enc Try.prog W 0 (fun _ => true) true n 29 ((cs.drop 21).take (Try.prog.cellsOf 29)) = some (y6.1, y6.2) := hfld 6 _ rfl
    rw [cells___api_ReachDecl] at t6
    have t7 : DataW.trod enc Try.prog W 0 (fun _ => true) true n 30 ((cs.drop 22).take (Try.prog.cellsOf 30)) = some (y7.1, y7.2) := hfld 7 _ rfl
    rw [cells___api_FarmDecl] at t7
    have t8 : DataW.trod enc Try.prog W 0 (fun _ => true) true n 31 ((cs.drop 23).take (Try.prog.cellsOf 31)) = some (y8.1, y8.2) := hfld 8 _ rfl
    rw [cells___api_Rotation] at t8
    have t9 : DataW.trod enc Try.prog W 0 (fun _ => true) true n 32 ((cs.drop 24).take (Try.prog.cellsOf 32)) = some (y9.1, y9.2) := hfld 9 _ rfl
    rw [cells___api_RightDecl] at t9
    have t10 : DataW.trod enc Try.prog W 0 (fun _ => true) true n 33 ((cs.drop 25).take (Try.prog.cellsOf 33)) = some (y10.1, y10.2) := hfld 10 _ rfl
    rw [cells___api_DutyDecl] at t10
    have s0 := drop_split cs 0 1
    obtain ⟨q0, hq0⟩ : ∃ q, q = (cs.drop 0).take 1 := ⟨_, rfl⟩
    rw [← hq0] at t0 s0
    have s1 := drop_split cs 1 6
    obtain ⟨q1, hq1⟩ : ∃ q, q = (cs.drop 1).take 6 := ⟨_, rfl⟩
    rw [← hq1] at t1 s1
    have s2 := drop_split cs 7 6
    obtain ⟨q2, hq2⟩ : ∃ q, q = (cs.drop 7).take 6 := ⟨_, rfl⟩
    rw [← hq2] at t2 s2
    have s3 := drop_split cs 13 6
    obtain ⟨q3, hq3⟩ : ∃ q, q = (cs.drop 13).take 6 := ⟨_, rfl⟩
    rw [← hq3] at t3 s3
    have s4 := drop_split cs 19 1
    obtain ⟨q4, hq4⟩ : ∃ q, q = (cs.drop 19).take 1 := ⟨_, rfl⟩
    rw [← hq4] at t4 s4
    have s5 := drop_split cs 20 1
    obtain ⟨q5, hq5⟩ : ∃ q, q = (cs.drop 20).take 1 := ⟨_, rfl⟩
    rw [← hq5] at t5 s5
    have s6 := drop_split cs 21 1
    obtain ⟨q6, hq6⟩ : ∃ q, q = (cs.drop 21).take 1 := ⟨_, rfl⟩
    rw [← hq6] at t6 s6
    have s7 := drop_split cs 22 1
    obtain ⟨q7, hq7⟩ : ∃ q, q = (cs.drop 22).take 1 := ⟨_, rfl⟩
    rw [← hq7] at t7 s7
    have s8 := drop_split cs 23 1
    obtain ⟨q8, hq8⟩ : ∃ q, q = (cs.drop 23).take 1 := ⟨_, rfl⟩
    rw [← hq8] at t8 s8
    have s9 := drop_split cs 24 1
    obtain ⟨q9, hq9⟩ : ∃ q, q = (cs.drop 24).take 1 := ⟨_, rfl⟩
    rw [← hq9] at t9 s9
    have s10 := drop_split cs 25 1
    obtain ⟨q10, hq10⟩ : ∃ q, q = (cs.drop 25).take 1 := ⟨_, rfl⟩
    rw [← hq10] at t10 s10
    have hend : cs.drop 26 = [] := by rw [← hlen]; exact List.drop_length
    simp only [Nat.reduceAdd] at s0 s1 s2 s3 s4 s5 s6 s7 s8 s9 s10
    rw [List.drop_zero] at s0
    rw [s1] at s0
    rw [s2] at s0
    rw [s3] at s0
    rw [s4] at s0
    rw [s5] at s0
    rw [s6] at s0
    rw [s7] at s0
    rw [s8] at s0
    rw [s9] at s0
    rw [s10] at s0
    rw [hend] at s0
    obtain ⟨v0, e0, z0⟩ := open_str t0
    obtain ⟨v1, e1⟩ := open_expr n q1 _ _ t1 (fun k hk => hw k (by
      rw [hy.1, DataW.weights, Try.underlying35]
      exact DataW.weights_mem_each (j := 1) (t := 26) (d := y1.1) rfl rfl _ hk))
    obtain ⟨v2, e2⟩ := open_expr n q2 _ _ t2 (fun k hk => hw k (by
      rw [hy.1, DataW.weights, Try.underlying35]
      exact DataW.weights_mem_each (j := 2) (t := 26) (d := y2.1) rfl rfl _ hk))
    obtain ⟨v3, e3⟩ := open_expr n q3 _ _ t3 (fun k hk => hw k (by
      rw [hy.1, DataW.weights, Try.underlying35]
      exact DataW.weights_mem_each (j := 3) (t := 26) (d := y3.1) rfl rfl _ hk))
    obtain ⟨xv4, ex4⟩ : ∃ v, q4 = [v] := List.length_eq_one_iff.1 (by rw [hq4, List.length_take, List.length_drop, hlen]; rfl)
    rw [ex4] at t4
    obtain ⟨hd4, l4, e4, row4, cap4⟩ := open_row (Pr := fun cs x => LetV (InW W) W cs x) Try.underlying27 cells_LetDecl bytes_Let (by decide) (fun m _ cs d ps h hw hl => open_Let m cs d ps h hw hl) t4 (fun k hk => hw k (by
      rw [hy.1, DataW.weights, Try.underlying35]
      exact DataW.weights_mem_each (j := 4) (t := 27) (d := y4.1) rfl rfl _ hk))
    rw [e4] at ex4
    obtain ⟨xv5, ex5⟩ : ∃ v, q5 = [v] := List.length_eq_one_iff.1 (by rw [hq5, List.length_take, List.length_drop, hlen]; rfl)
    rw [ex5] at t5
    obtain ⟨hd5, l5, e5, row5, cap5⟩ := open_row (Pr := fun cs x => CropV (InW W) W cs x) Try.underlying28 cells_CropDecl bytes_Crop (by decide) (fun m _ cs d ps h hw hl => open_Crop m cs d ps h hw hl) t5 (fun k hk => hw k (by
      rw [hy.1, DataW.weights, Try.underlying35]
      exact DataW.weights_mem_each (j := 5) (t := 28) (d := y5.1) rfl rfl _ hk))
    rw [e5] at ex5
    obtain ⟨xv6, ex6⟩ : ∃ v, q6 = [v] := List.length_eq_one_iff.1 (by rw [hq6, List.length_take, List.length_drop, hlen]; rfl)
    rw [ex6] at t6
    obtain ⟨hd6, l6, e6, row6, cap6⟩ := open_row (Pr := fun cs x => ReachV (InW W) W cs x) Try.underlying29 cells_ReachDecl bytes_Reach (by decide) (fun m _ cs d ps h hw hl => open_Reach m cs d ps h hw hl) t6 (fun k hk => hw k (by
      rw [hy.1, DataW.weights, Try.underlying35]
      exact DataW.weights_mem_each (j := 6) (t := 29) (d := y6.1) rfl rfl _ hk))
    rw [e6] at ex6
    obtain ⟨xv7, ex7⟩ : ∃ v, q7 = [v] := List.length_eq_one_iff.1 (by rw [hq7, List.length_take, List.length_drop, hlen]; rfl)
    rw [ex7] at t7
    obtain ⟨hd7, l7, e7, row7, cap7⟩ := open_row (Pr := fun cs x => FarmV (InW W) W cs x) Try.underlying30 cells_FarmDecl bytes_Farm (by decide) (fun m _ cs d ps h hw hl => open_Farm m cs d ps h hw hl) t7 (fun k hk => hw k (by
      rw [hy.1, DataW.weights, Try.underlying35]
      exact DataW.weights_mem_each (j := 7) (t := 30) (d := y7.1) rfl rfl _ hk))
    rw [e7] at ex7
    obtain ⟨xv8, ex8⟩ : ∃ v, q8 = [v] := List.length_eq_one_iff.1 (by rw [hq8, List.length_take, List.length_drop, hlen]; rfl)
    rw [ex8] at t8
    obtain ⟨hd8, l8, e8, row8, cap8⟩ := open_row (Pr := fun cs (x : RotD × Hdr) => RotV (InW W) W x.2 cs x.1) Try.underlying31 cells_Rotation bytes_Rot (by decide) (fun m _ cs d ps h hw hl => open_Rot m cs d ps h hw hl) t8 (fun k hk => hw k (by
      rw [hy.1, DataW.weights, Try.underlying35]
      exact DataW.weights_mem_each (j := 8) (t := 31) (d := y8.1) rfl rfl _ hk))
    rw [e8] at ex8
    obtain ⟨xv9, ex9⟩ : ∃ v, q9 = [v] := List.length_eq_one_iff.1 (by rw [hq9, List.length_take, List.length_drop, hlen]; rfl)
    rw [ex9] at t9
    obtain ⟨hd9, l9, e9, row9, cap9⟩ := open_row (Pr := fun cs x => RightV (InW W) W cs x) Try.underlying32 cells_RightDecl bytes_Right (by decide) (fun m _ cs d ps h hw hl => open_Right m cs d ps h hw hl) t9 (fun k hk => hw k (by
      rw [hy.1, DataW.weights, Try.underlying35]
      exact DataW.weights_mem_each (j := 9) (t := 32) (d := y9.1) rfl rfl _ hk))
    rw [e9] at ex9
    obtain ⟨xv10, ex10⟩ : ∃ v, q10 = [v] := List.length_eq_one_iff.1 (by rw [hq10, List.length_take, List.length_drop, hlen]; rfl)
    rw [ex10] at t10
    obtain ⟨hd10, l10, e10, row10, cap10⟩ := open_row (Pr := fun cs x => DutyV (InW W) W cs x) Try.underlying33 cells_DutyDecl bytes_Duty (by decide) (fun m _ cs d ps h hw hl => open_Duty m cs d ps h hw hl) t10 (fun k hk => hw k (by
      rw [hy.1, DataW.weights, Try.underlying35]
      exact DataW.weights_mem_each (j := 10) (t := 33) (d := y10.1) rfl rfl _ hk))
    rw [e10] at ex10
    refine ⟨⟨0, hd4, hd5, hd6, hd7, hd8, hd9, hd10, l8.map (·.2)⟩, ⟨v0, v1, v2, v3, l4, l5, l6, l7, l8.map (·.1), l9, l10⟩, ⟨z0, ⟨q1, q2, q3, ?_, e1, e2, e3⟩, row4, row5, row6, row7, ⟨?_, ?_, fun i hi => ?_⟩, row9, row10⟩, cap10, cap9⟩
    · rw [s0, e0, ex4, ex5, ex6, ex7, ex8, ex9, ex10]; simp
    · rw [List.length_map]; exact row8.1
    · rw [List.length_map]; exact row8.2.1
    · have hi' : i < l8.length := by simpa using hi
      obtain ⟨b, o, c, g1, g2, g3, g4, g5⟩ := row8.2.2 i hi'
      refine ⟨b, o, c, g1, g2, g3, g4, ?_⟩
      have e : turnsOf ⟨0, hd4, hd5, hd6, hd7, hd8, hd9, hd10, l8.map (·.2)⟩ i = (l8[i]).2 := by
        unfold turnsOf; simp [List.getD_eq_getElem?_getD, hi']
      rw [e]
      simpa using g5
end

end Go.Proofs.Ytapejaabhkfhjaa

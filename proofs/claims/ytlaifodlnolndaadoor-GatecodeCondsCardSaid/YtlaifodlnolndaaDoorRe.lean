/- PROVED HERE: the tied card of 'acequia/acequialaw31.GatecodeConds': for every input, in every start that meets the row's condition on the listed package variables, the law returns true and each argument reads as it did. Its conditions are the given statement's own (Rows.GatecodeCondsCardSaid), none more. -/
import Derived.Test.YtlaifodlnolndaaDoorMs
import Derived.Test.YtlaifodlnolndaaDoorMq
import Derived.Deep.RegionHeld3
import Derived.Test.YtlaifodlnolndaaDoorMp
import Derived.Test.YtlaifodlnolndaaDoorMd
import Derived.Test.YtlaifodlnolndaaDoorCards
import Derived.SevenTiedAt
import Derived.Carry
/- The statement Conds: the walk. -/
namespace Go.Proofs.YtlaifodlnolndaaDoor
open Go.RowKit

theorem one_line {w : World} {g : Nat} {v : Value} {cs : List Cd} {st : Int} (hg : w.heap[g]? = some (.cells #[v, .int .i64 st] 48 (0, 0))) (hc : IsCds w v cs) : IsLns w (.slice (some ⟨g, 0, none⟩) 1 1) [⟨cs, st⟩] := by
  refine ⟨by simp, some ⟨g, 0, none⟩, 1, rfl, fun i hi => ⟨g, 0, rfl, (Array.getElem?_eq_some_iff.1 hg).1, ?_⟩⟩
  obtain rfl : i = 0 := by simp at hi; omega
  exact ⟨v, by simp [World.cell?, hg], hc, by simp [World.cell?, hg]⟩
/- what is run -/
theorem run_one (vs : List Int) (cs : List Cd) (st : Int) : runC vs [⟨cs, st⟩] = if cs.all (holdsCd vs) then some st else none := by
  rw [runC, runC]
theorem conds_law (vs : List Int) (c : Cd) (cs : List Cd) (st : Int) (h1 : okC [⟨cs, st⟩] = true) :
    ∃ (n : Int) (ok : Bool), runR vs [⟨cs, st⟩] = .tuple #[.int .i64 n, .bool ok, .int .i64 0] ∧ (cs = [] → ok = true ∧ n = st) ∧
      (∃ (m : Int) (is : Bool) (f : Int), runR vs [⟨c :: cs, st⟩] = .tuple #[.int .i64 m, .bool is, .int .i64 f] ∧ ((f = 0 ∧ (is = true → ok = true ∧ m = n)) ∨ (f = 310 ∧ is = false))) ∧
      (∀ ds : List Cd, okC [⟨ds, st⟩] = true → ds.all (holdsCd vs) = cs.all (holdsCd vs) → runR vs [⟨ds, st⟩] = .tuple #[.int .i64 n, .bool ok, .int .i64 0]) := by
  unfold runR
  rw [if_pos h1, run_one]
  cases ha : cs.all (holdsCd vs) with
  | true =>
    refine ⟨st, true, rfl, fun _ => ⟨rfl, rfl⟩, ?_, fun ds hd he => ?_⟩
    · cases ho : okC [⟨c :: cs, st⟩] with
      | true =>
        rw [if_pos rfl, run_one, List.all_cons, ha]
        cases holdsCd vs c
        · exact ⟨0, false, 0, rfl, .inl ⟨rfl, fun h => by cases h⟩⟩
        · exact ⟨st, true, 0, rfl, .inl ⟨rfl, fun _ => ⟨rfl, rfl⟩⟩⟩
      | false => exact ⟨0, false, 310, rfl, .inr ⟨rfl, rfl⟩⟩
    · rw [if_pos hd, run_one, he]; rfl
  | false =>
    refine ⟨0, false, rfl, fun h => by subst h; simp at ha, ?_, fun ds hd he => ?_⟩
    · cases ho : okC [⟨c :: cs, st⟩] with
      | true =>
        rw [if_pos rfl, run_one, List.all_cons, ha, Bool.and_false]
        exact ⟨0, false, 0, rfl, .inl ⟨rfl, fun h => by cases h⟩⟩
      | false => exact ⟨0, false, 310, rfl, .inr ⟨rfl, rfl⟩⟩
    · rw [if_pos hd, run_one, he]; rfl
theorem turned_all (f : Cd → Bool) (cs : List Cd) (k : Nat) (hk : k < cs.length) : (cs.drop k ++ cs.take k ++ [cs[k]]).all f = cs.all f := by
  rw [List.all_append, List.all_append]
  have h1 : cs.all f = ((cs.take k).all f && (cs.drop k).all f) := by rw [← List.all_append, List.take_append_drop]
  rw [h1]
  have h2 : (cs.drop k).all f = true → f cs[k] = true := fun h => List.all_eq_true.1 h _ (List.mem_drop_iff_getElem.2 ⟨0, by simpa using hk, by simp⟩)
  cases ha : (cs.drop k).all f
  · simp
  · simp [h2 ha]
theorem turned_ok {cs : List Cd} {st : Int} {k : Nat} (hk : k < cs.length) (h4 : cs.length < 4) (h : okC [⟨cs, st⟩] = true) : okC [⟨cs.drop k ++ cs.take k ++ [cs[k]], st⟩] = true := by
  obtain ⟨_, h2⟩ := okC_parts h
  obtain ⟨_, h5, h6⟩ := okLn_parts (h2 ⟨cs, st⟩ (by simp))
  refine okC_mk (by simp) (fun i hi => ?_)
  obtain rfl : i = 0 := by simp at hi; omega
  refine okLn_mk (by simp; omega) h5 (fun j hj => ?_)
  have hm := List.getElem_mem hj
  have : ∀ c ∈ cs.drop k ++ cs.take k ++ [cs[k]], okCd c = true := by
    intro c hc
    rcases List.mem_append.1 hc with hc | hc
    · rcases List.mem_append.1 hc with hc | hc
      · exact h6 c (List.mem_of_mem_drop hc)
      · exact h6 c (List.mem_of_mem_take hc)
    · obtain rfl := List.mem_singleton.1 hc
      exact h6 _ (List.getElem_mem hk)
  exact this _ hm

/- the cells of conditions -/
theorem conds_get : ∀ (l : List Cd) (j : Nat) (u : Value), (l.flatMap Cd.cells)[j]? = some u → ∃ i r, ∃ h : i < l.length, r < 3 ∧ j = i * 3 + r ∧ (l[i].cells)[r]? = some u
  | [], j, u, h => by simp at h
  | t :: ts, j, u, h => by
    rw [List.flatMap_cons] at h
    have h4 : t.cells.length = 3 := rfl
    by_cases hj : j < 3
    · rw [List.getElem?_append_left (by omega)] at h
      exact ⟨0, j, by simp, hj, by omega, h⟩
    · rw [List.getElem?_append_right (by omega), h4] at h
      obtain ⟨i, r, hi, hr, e, hu⟩ := conds_get ts (j - 3) u h
      exact ⟨i + 1, r, by simp; omega, hr, by omega, by simpa using hu⟩
theorem conds_len : ∀ l : List Cd, (l.flatMap Cd.cells).length = l.length * 3
  | [] => rfl
  | t :: ts => by rw [List.flatMap_cons, List.length_append, conds_len ts, show t.cells.length = 3 from rfl, List.length_cons]; omega
theorem raw_conds {w : World} {b o n cap : Nat} {cs : List Cd} (hn : n = cs.length) (hb : b < w.heap.size) (h : ∀ i (hi : i < cs.length), CdAt w b (o + i * 3) cs[i]) : RawCells w (.slice (some ⟨b, o, none⟩) n cap) n 3 (cs.flatMap Cd.cells) := by
  subst hn
  refine ⟨conds_len cs, fun u hu => ?_, some ⟨b, o, none⟩, cap, rfl, .inr ⟨b, o, rfl, hb, fun j u hj => ?_⟩⟩
  · obtain ⟨c, _, hu⟩ := List.mem_flatMap.1 hu
    unfold Cd.cells at hu
    simp only [List.mem_cons, List.not_mem_nil, or_false] at hu
    rcases hu with rfl | rfl | rfl <;> rfl
  · obtain ⟨i, r, hi, hr, rfl, hu⟩ := conds_get cs j u hj
    obtain ⟨h0, h1, h2⟩ := h i hi
    unfold Cd.cells at hu
    match r, hr, hu with
    | 0, _, hu => simp at hu; subst hu; exact h0
    | 1, _, hu => simp at hu; subst hu; exact h1
    | 2, _, hu => simp at hu; subst hu; exact h2
theorem raw_of {w : World} {v : Value} {cs : List Cd} (h : IsCds w v cs) : RawCells w v cs.length 3 (cs.flatMap Cd.cells) := by
  obtain ⟨_, a, cap, rfl, hr⟩ := h
  by_cases h0 : cs.length = 0
  · obtain rfl := List.length_eq_zero_iff.1 h0
    exact ⟨by simp, by simp, a, cap, rfl, .inl rfl⟩
  · obtain ⟨b, o, rfl, hb, _⟩ := hr 0 (by omega)
    refine raw_conds rfl hb fun i hi => ?_
    obtain ⟨b', o', e, _, hc⟩ := hr i hi
    obtain ⟨rfl, rfl⟩ : b = b' ∧ o = o' := by simpa using e
    exact hc

end Go.Proofs.YtlaifodlnolndaaDoor

/- The statement Conds: the walk, first half. -/
namespace Go.Proofs.YtlaifodlnolndaaDoor
open Go.RowKit

theorem wp_append_conds {o : Oper} {a : Act} {K : Act → World → Prop} {Q : Exit → Act → World → Prop} (W : World) (B : Nat) (hgd : o.guard = none) (s x : Operand) (ho : o.op = .call { callee := .builtin .append, args := #[s, x], argTypes := #[46, 46] }) (v : Value) (xs : List Cd) (hs : a.eval s = v) (hown : OwnCds B W v xs)
    (X : Value) (n : Nat) (ys : List Cd) (hn : n = ys.length) (hx : a.eval x = X) (hX : RawCells W X n 3 (ys.flatMap Cd.cells)) (hlen : xs.length + ys.length ≤ 1000000) (hbase : B ≤ W.heap.size)
    (h : ∀ (ad : Option Addr) (c : Nat) w', OwnCds B w' (.slice ad (xs.length + n) c) (xs ++ ys) → W.grownBy w' v.ownBlock → K (a.put o.dst (.slice ad (xs.length + n) c)) w') : Oper.wp Tryd.prog o a W K Q := by
  subst hn
  obtain ⟨i0, hi, hz0, hz1, hz2⟩ := info_parts Tryd.info50
  have hh := step_append_raw (ops := #[]) (E := True) (Q := Q) Tryd.underlying46 hi hz0 hz1 hz2 rfl (by decide) (by decide) B hgd s x ho v xs.length _ hs hown X ys.length _ hx hX hlen hbase (K := K) (fun ad c w' hw hg => h ad c w' (by
    unfold OwnCds
    rw [List.length_append, List.flatMap_append]
    exact hw) hg)
  rwa [if_pos (by simp [Region.wanted, hgd])] at hh
theorem Keep.two {w0 w : World} {l : List (Value × List Ln)} {c : List (Nat × Obj)} (h : Keep w0 l c w) {b : Nat} {x0 x1 : Value} {t : TypeId} (hx : (b, .cells #[x0, x1] t (0, 0)) ∈ c) : w.cell? ⟨b, 0, none⟩ = some x0 ∧ w.cell? ⟨b, 1, none⟩ = some x1 := by
  have := h.vars _ hx
  refine ⟨?_, ?_⟩ <;> simp [World.cell?, this]
theorem Keep.three {w0 w : World} {l : List (Value × List Ln)} {c : List (Nat × Obj)} (h : Keep w0 l c w) {b : Nat} {x0 x1 x2 : Value} {t : TypeId} (hx : (b, .cells #[x0, x1, x2] t (0, 0)) ∈ c) : w.cell? ⟨b, 0, none⟩ = some x0 ∧ w.cell? ⟨b, 1, none⟩ = some x1 ∧ w.cell? ⟨b, 2, none⟩ = some x2 := by
  have := h.vars _ hx
  refine ⟨?_, ?_, ?_⟩ <;> simp [World.cell?, this]

theorem after_block {W w6 : World} {g M : Nat} {o : Obj} (hg : W.grownBy w6 (some g)) (h : W.heap[M]? = some o) (hne : M ≠ g) : w6.heap[M]? = some o := (hg.block M (Array.getElem?_eq_some_iff.1 h).1 (by simpa using hne)).trans h
theorem Keep.after {w0 W w6 : World} {l : List (Value × List Ln)} {c c' : List (Nat × Obj)} (h : Keep w0 l c W) (hG0 : Globals w0) {g M : Nat} (hg : W.grownBy w6 (some g)) (hgn : w0.heap.size ≤ g) (hM : w0.heap.size ≤ M) (z : Value) (hc : ∀ x ∈ c', x ∈ c ∧ x.1 ≠ g ∧ x.1 ≠ M) : Keep w0 [] c' (w6.setCell ⟨M, 0, none⟩ z) := by
  have hb : Below w0.heap.size w0 w6 := h.below.grown hg h.below.size (fun q hq => by simp at hq; omega)
  have hb2 : Below w0.heap.size w0 (w6.setCell ⟨M, 0, none⟩ z) := hb.setCell (p := ⟨M, 0, none⟩) hM z
  have hgl : Globals (w6.setCell ⟨M, 0, none⟩ z) := hG0.next hb2
  refine ⟨hb2, hgl, fun x hx => by simp at hx, fun x hx => ?_⟩
  obtain ⟨h1, h2, h3⟩ := hc x hx
  have h4 := h.vars x h1
  rw [heap_setCell_other w6 ⟨M, 0, none⟩ x.1 z h3, hg.block x.1 (Array.getElem?_eq_some_iff.1 h4).1 (by simpa using h2)]
  exact h4

theorem conds_after {w W w6 : World} {l : List (Value × List Ln)} {c : List (Nat × Obj)} {M g X V : Nat} {v0 s0 : Value} {fv : Array Value} (h : Keep w l c W) (hG0 : Globals w) (hgn : w.heap.size ≤ g) (hMn : w.heap.size ≤ M) (hMg : M ≠ g) (hXM : X ≠ M) (hXg : X ≠ g) (hVM : V ≠ M) (hVg : V ≠ g)
    (mM : (M, .cells #[v0, s0] 48 (0, 0)) ∈ c) (mX : (X, .cells #[v0, s0] 48 (0, 0)) ∈ c) (mV : (V, .cells fv 25 (0, 0)) ∈ c) (hg : W.grownBy w6 (some g)) :
    w6.cell? ⟨M, 0, none⟩ = some v0 ∧ w6.cell? ⟨M, 1, none⟩ = some s0 ∧ w6.frozen? ⟨M, 0, none⟩ = false ∧ ∀ z, Keep w [] [(V, .cells fv 25 (0, 0)), (X, .cells #[v0, s0] 48 (0, 0))] (w6.setCell ⟨M, 0, none⟩ z) := by
  have hM6 := after_block hg (h.vars _ mM) hMg
  refine ⟨by simp [World.cell?, hM6], by simp [World.cell?, hM6], by simp [World.frozen?, hM6], fun z => h.after hG0 hg hgn hMn z fun x hx => ?_⟩
  rcases List.mem_cons.1 hx with rfl | hx
  · exact ⟨mV, hVg, hVM⟩
  · obtain rfl := List.mem_singleton.1 hx
    exact ⟨mX, hXg, hXM⟩

theorem Keep.grown {w0 W0 W W' : World} {l l0 : List (Value × List Ln)} {c : List (Nat × Obj)} {row : Option Nat} (h : Keep w0 l c W) (h0 : Keep w0 l0 c W0) (hG0 : Globals w0) (hg : W.grownBy W' row) (hr : ∀ q, row = some q → W0.heap.size ≤ q) : Keep w0 [] c W' := by
  have hb : Below w0.heap.size w0 W' := h.below.grown hg h.below.size (fun q hq => Nat.le_trans h0.below.size (hr q hq))
  refine ⟨hb, hG0.next hb, fun x hx => by simp at hx, fun x hx => ?_⟩
  have h4 := h.vars x hx
  have h5 := (Array.getElem?_eq_some_iff.1 (h0.vars x hx)).1
  rw [hg.block x.1 (Array.getElem?_eq_some_iff.1 h4).1 (fun e => by have := hr x.1 (by first | exact e | exact e.symm); omega)]
  exact h4
theorem Keep.put {w0 W : World} {l : List (Value × List Ln)} {c c' : List (Nat × Obj)} (h : Keep w0 l c W) (hG0 : Globals w0) {M : Nat} (hM : w0.heap.size ≤ M) (z : Value) (hc : ∀ x ∈ c', x ∈ c ∧ x.1 ≠ M) : Keep w0 [] c' (W.setCell ⟨M, 0, none⟩ z) := by
  have hb2 : Below w0.heap.size w0 (W.setCell ⟨M, 0, none⟩ z) := h.below.setCell (p := ⟨M, 0, none⟩) hM z
  refine ⟨hb2, hG0.next hb2, fun x hx => by simp at hx, fun x hx => ?_⟩
  obtain ⟨h1, h3⟩ := hc x hx
  rw [heap_setCell_other W ⟨M, 0, none⟩ x.1 z h3]
  exact h.vars x h1
theorem heap_put {W : World} {M : Nat} {x0 x1 z : Value} {t : TypeId} (h : W.heap[M]? = some (.cells #[x0, x1] t (0, 0))) : (W.setCell ⟨M, 0, none⟩ z).heap[M]? = some (.cells #[z, x1] t (0, 0)) := by
  simp [World.setCell, Array.getElem?_modify, h]
theorem cds_at {W : World} {b o n cap : Nat} {cs : List Cd} (h : IsCds W (.slice (some ⟨b, o, none⟩) n cap) cs) (i : Nat) (hi : i < cs.length) : b < W.heap.size ∧ CdAt W b (o + i * 3) cs[i] := by
  obtain ⟨_, a, c, e, hr⟩ := h
  obtain ⟨b', o', e2, h1, h2⟩ := hr i hi
  subst e2
  simp at e
  obtain ⟨⟨rfl, rfl⟩, _, _⟩ := e
  exact ⟨h1, h2⟩
theorem raw_drop {W : World} {b o n cap k : Nat} {cs : List Cd} (h : IsCds W (.slice (some ⟨b, o, none⟩) n cap) cs) (hn : n = cs.length) (hk : k < n) (c2 : Nat) : RawCells W (.slice (some ⟨b, o + k * 3, none⟩) (n - k) c2) (n - k) 3 ((cs.drop k).flatMap Cd.cells) := by
  refine raw_conds (by rw [List.length_drop, hn]) (cds_at h 0 (by omega)).1 fun i hi => ?_
  rw [List.length_drop] at hi
  have := (cds_at h (k + i) (by omega)).2
  rw [List.getElem_drop, show o + k * 3 + i * 3 = o + (k + i) * 3 by omega]
  exact this
theorem raw_take {W : World} {b o n cap k : Nat} {cs : List Cd} (h : IsCds W (.slice (some ⟨b, o, none⟩) n cap) cs) (hn : n = cs.length) (hk : k < n) (c2 : Nat) : RawCells W (.slice (some ⟨b, o, none⟩) k c2) k 3 ((cs.take k).flatMap Cd.cells) := by
  refine raw_conds (by rw [List.length_take]; omega) (cds_at h 0 (by omega)).1 fun i hi => ?_
  rw [List.length_take] at hi
  rw [List.getElem_take]
  exact (cds_at h i (by omega)).2

theorem own_turned {B : Nat} {W : World} {ad : Option Addr} {c2 n k : Nat} {cs : List Cd} (h : W.ownsRow B 50 3 (.slice ad (0 + (n - k) + k) c2) (0 + (n - k) + k) (([] ++ (cs.drop k).flatMap Cd.cells) ++ (cs.take k).flatMap Cd.cells)) (hn : n = cs.length) (hk : k < n) : OwnCds B W (.slice ad (n - k + k) c2) (cs.drop k ++ cs.take k) := by
  unfold OwnCds
  rw [Nat.zero_add, List.nil_append] at h
  rw [List.length_append, List.length_drop, List.length_take, List.flatMap_append, show cs.length - k + min k cs.length = n - k + k by omega]
  exact h
theorem own_raw {B : Nat} {W : World} {v : Value} {n k : Nat} {cs : List Cd} (h : OwnCds B W v (cs.drop k ++ cs.take k)) (hn : n = cs.length) (hk : k < n) : W.ownsRow B 50 3 v (n - k + k) ((cs.drop k ++ cs.take k).flatMap Cd.cells) := by
  unfold OwnCds at h
  rw [List.length_append, List.length_drop, List.length_take, show cs.length - k + min k cs.length = n - k + k by omega] at h
  exact h
theorem own_last {B : Nat} {W : World} {v : Value} {n k : Nat} {cs : List Cd} {e : Cd} (h : W.ownsRow B 50 3 v (n - k + k + 1) ((cs.drop k ++ cs.take k).flatMap Cd.cells ++ [e].flatMap Cd.cells)) (hn : n = cs.length) (hk : k < n) : OwnCds B W v (cs.drop k ++ cs.take k ++ [e]) := by
  unfold OwnCds
  rw [List.length_append, List.length_append, List.length_drop, List.length_take, List.length_singleton, List.flatMap_append, show cs.length - k + min k cs.length + 1 = n - k + k + 1 by omega]
  exact h
theorem one_own (W : World) (e : Cd) : OwnCds W.heap.size (W.drew.alloc (.cells #[.int .i64 e.v, .int .i64 e.op, .int .i64 e.n] 50)) (.slice (some ⟨W.heap.size, 0, none⟩) 1 1) [e] :=
  ⟨rfl, .inr ⟨W.heap.size, 1, _, rfl, Nat.le_refl _, heap_new _ _ _ rfl, Nat.le_refl _, by unfold maxLen; omega, rfl, rfl⟩⟩

set_option maxRecDepth 100000 in
set_option maxHeartbeats 16000000 in
theorem conds_any (v0 : Value) (cs : List Cd) (st : Int) (cv co cn : Int) (u : Nat) (a0 a1 a2 a3 a4 : Int) (w : World) (hcs : IsCds w v0 cs) (hcap : ∃ a c, v0 = .slice a cs.length c ∧ cs.length ≤ c) (hu : u ≤ 255) (hG : Globals w) :
    Calls Tryd.prog 7 #[.agg #[v0, .int .i64 st], .agg #[.int .i64 cv, .int .i64 co, .int .i64 cn], .int .u8 u, vsV a0 a1 a2 a3 a4] w fun e w' => e = .returned (.bool true) ∧ Below w.heap.size w w' := by
  obtain ⟨va, vc, rfl, hcap⟩ := hcap
  obtain ⟨n, hn⟩ : ∃ n, n = cs.length := ⟨_, rfl⟩
  rw [← hn] at hcs hcap ⊢
  have HCap := Lib.hid hcap
  have HK := Lib.hid ((((⟨Below.refl _ _, hG, fun _ h => by simp at h, fun _ h => by simp at h⟩ : Keep w [] [] w).new #[.slice va n vc, .int .i64 st] 48).new #[.int .i64 cv, .int .i64 co, .int .i64 cn] 50).new #[.int .i64 a0, .int .i64 a1, .int .i64 a2, .int .i64 a3, .int .i64 a4] 25)
  have HCS := Lib.hid hcs
  have HG0 := Lib.hid hG
  have HN := Lib.hid hn
  clear hG hcs hn hcap
  go_enter Tryd.func7, Tryd.ntmps7
  unfold vsV
  go_wp2_with fail
  refine (sane_any _ HK.out.glob).mono ?_
  rintro e w1 ⟨rfl, hb1⟩
  have HK1 := Lib.hid (HK.out.next hb1)
  clear hb1 HK
  obtain ⟨x0, x1⟩ := HK1.out.two (b := w.heap.size) (x0 := .slice va n vc) (x1 := .int .i64 st) (t := 48) (by simp)
  have HK2 := Lib.hid (((HK1.out.new #[.slice va n vc, .int .i64 st] 48).var (.slice (some ⟨w1.heap.size, 0, none⟩) 1 1)).add (one_line (g := w1.heap.size) (heap_old _ _ _ _ (heap_new _ _ _ rfl)) (HCS.out.below ((HK1.out.new #[.slice va n vc, .int .i64 st] 48).var (.slice (some ⟨w1.heap.size, 0, none⟩) 1 1)).below)))
  obtain ⟨y0, y1⟩ := HK2.out.two (b := w.heap.size) (x0 := .slice va n vc) (x1 := .int .i64 st) (t := 48) (by simp)
  by_cases h4 : 4 ≤ n
  · have hd : decide (4 ≤ n) = true := by simp; omega
    go_wp2
    go_ret
    exact ⟨rfl, HK2.out.below⟩
  have hd : decide (4 ≤ n) = false := by simp; omega
  go_wp2_with fail
  generalize hg1 : w1.heap.size = g1 at *
  have Hg1 := Lib.hid hg1
  clear hg1
  generalize ((w1.alloc (.cells #[.slice va n vc, .int .i64 st] 48)).alloc (.cells #[.slice (some ⟨g1, 0, none⟩) 1 1] 24)) = w2 at HK2 y0 y1 ⊢
  clear x0 x1
  refine (check_any _ _ w2 HK2.out.head).mono ?_
  rintro e w3 ⟨rfl, hb3⟩
  have HK3 := Lib.hid (HK2.out.next hb3)
  clear hb3 HK2
  cases hok : okC [⟨cs, st⟩] with
  | false =>
    rw [okE_no hok]
    go_wp2
    go_ret
    exact ⟨rfl, HK3.out.below⟩
  | true =>
    rw [okE_yes hok]
    obtain ⟨rn, rok, hr1, hnil, ⟨rm, ris, rf, hr2, hrel2⟩, hturn⟩ := conds_law [a0, a1, a2, a3, a4] ⟨cv, co, cn⟩ cs st hok
    have HR1 := Lib.hid hr1
    have HNil := Lib.hid hnil
    have HR2 := Lib.hid hr2
    have HRel := Lib.hid hrel2
    have HTurn := Lib.hid hturn
    have HOK := Lib.hid hok
    clear hr1 hnil hr2 hrel2 hturn hok
    have c1 := HK3.out.cell (b := g1 + 1) (v := .slice (some ⟨g1, 0, none⟩) 1 1) (by simp [Hg1.out])
    obtain ⟨q0, q1, q2, q3, q4⟩ := HK3.out.five (b := w.heap.size + 1 + 1) (t := 25) (x0 := .int .i64 a0) (x1 := .int .i64 a1) (x2 := .int .i64 a2) (x3 := .int .i64 a3) (x4 := .int .i64 a4) (by simp)
    go_wp2_with fail
    refine (crun_any _ _ a0 a1 a2 a3 a4 w3 HK3.out.head).mono ?_
    rw [HR1.out]
    rintro e w4 ⟨rfl, hb4⟩
    have HK4 := Lib.hid (HK3.out.next hb4)
    clear hb4 HK3 c1 q0 q1 q2 q3 q4 y0 y1
    obtain ⟨y0, y1⟩ := HK4.out.two (b := w.heap.size) (x0 := .slice va n vc) (x1 := .int .i64 st) (t := 48) (by simp)
    have HK5 := Lib.hid (HK4.out.new #[.slice va n vc, .int .i64 st] 48)
    obtain ⟨p0, p1, p2⟩ := HK5.out.three (b := w.heap.size + 1) (x0 := .int .i64 cv) (x1 := .int .i64 co) (x2 := .int .i64 cn) (t := 50) (by simp)
    have HK6 := Lib.hid (HK5.out.new #[.int .i64 cv, .int .i64 co, .int .i64 cn] 50)
    obtain ⟨y6, _⟩ := HK6.out.two (b := w.heap.size) (x0 := .slice va n vc) (x1 := .int .i64 st) (t := 48) (by simp)
    have hww : w.heap.size ≤ w4.heap.size := HK4.out.below.size
    have hww3 : w.heap.size + 3 ≤ w4.heap.size := by
      have := HK4.out.vars (w.heap.size + 1 + 1, .cells #[.int .i64 a0, .int .i64 a1, .int .i64 a2, .int .i64 a3, .int .i64 a4] 25 (0, 0)) (by simp)
      have := (Array.getElem?_eq_some_iff.1 this).1
      omega
    have hown : OwnCds (w4.heap.size + 1) ((w4.alloc (.cells #[.slice va n vc, .int .i64 st] 48)).alloc (.cells #[.int .i64 cv, .int .i64 co, .int .i64 cn] 50)) (.slice (some ⟨w4.heap.size + 1, 0, none⟩) 1 1) [⟨cv, co, cn⟩] :=
      ⟨rfl, .inr ⟨w4.heap.size + 1, 1, _, rfl, Nat.le_refl _, heap_new _ _ _ (by simp), Nat.le_refl _, by unfold maxLen; omega, rfl, rfl⟩⟩
    have HOwn := Lib.hid hown
    have HAf := Lib.hid (fun w6 hg => conds_after (w6 := w6) (M := w4.heap.size) (g := w4.heap.size + 1) (X := w.heap.size) (V := w.heap.size + 1 + 1) (v0 := .slice va n vc) (s0 := .int .i64 st) (fv := #[.int .i64 a0, .int .i64 a1, .int .i64 a2, .int .i64 a3, .int .i64 a4]) HK6.out HG0.out (by omega) hww (by omega) (by omega) (by omega) (by omega) (by omega) (by simp) (by simp) (by simp) hg)
    have HRaw := Lib.hid (raw_of (HCS.out.below HK6.out.below))
    have HZ : Hid (w4.heap.size + 1 ≤ ((w4.alloc (.cells #[.slice va n vc, .int .i64 st] 48)).alloc (.cells #[.int .i64 cv, .int .i64 co, .int .i64 cn] 50)).heap.size) := Lib.hid (by simp)
    have HL : Hid (([⟨cv, co, cn⟩] : List Cd).length + cs.length ≤ 1000000) := Lib.hid (by have := HN.out; simp; omega)
    have HRaw2 : Hid (RawCells ((w4.alloc (.cells #[.slice va n vc, .int .i64 st] 48)).alloc (.cells #[.int .i64 cv, .int .i64 co, .int .i64 cn] 50)) (.slice va n vc) n 3 (cs.flatMap Cd.cells)) := Lib.hid (by have := HRaw.out; rw [← HN.out] at this; exact this)
    clear hown HRaw
    go_wp2_with (at_builtin; (refine wpList_plain rfl fun K hK => ?_); (refine wp_append_conds _ (w4.heap.size + 1) rfl _ _ rfl (.slice (some ⟨w4.heap.size + 1, 0, none⟩) 1 1) [⟨cv, co, cn⟩] rfl HOwn.out (.slice va n vc) n cs HN.out rfl HRaw2.out HL.out HZ.out ?_); intro ad c6 w6 hown6 hg6; refine hK _ _ ?_; have HO6 := Lib.hid hown6; have HG6 := Lib.hid hg6; obtain ⟨m0, m1, mf, hK7⟩ := HAf.out w6 hg6; have HK7 := Lib.hid (hK7 (.slice ad (1 + n) c6)); have HK8 := Lib.hid ((hK7 (.slice ad (1 + n) c6)).new #[.slice ad (1 + n) c6, .int .i64 st] 48); obtain ⟨q0, q1, q2, q3, q4⟩ := HK8.out.five (b := w.heap.size + 1 + 1) (t := 25) (x0 := .int .i64 a0) (x1 := .int .i64 a1) (x2 := .int .i64 a2) (x3 := .int .i64 a3) (x4 := .int .i64 a4) (by simp); clear hown6 hg6 hK7)
    have hO8 : IsCds ((w6.setCell ⟨w4.heap.size, 0, none⟩ (.slice ad (1 + n) c6)).alloc (.cells #[.slice ad (1 + n) c6, .int .i64 st] 48)) (.slice ad (1 + n) c6) (⟨cv, co, cn⟩ :: cs) :=
      ((HO6.out.kept (grown_set w6 w4.heap.size 0 (.slice ad (1 + n) c6)) (fun q e => by simp at e; omega)).kept (grownBy_below ((Below.refl _ _).alloc (Nat.le_refl _) (.cells #[.slice ad (1 + n) c6, .int .i64 st] 48)) none) (fun q e => by cases e)).isCds (by have := HL.out; rw [List.length_append]; exact this)
    have HK9 := Lib.hid (HK8.out.add (one_line (g := w6.heap.size) (heap_new _ _ _ (by simp)) hO8))
    clear hO8
    refine (crun_any _ _ a0 a1 a2 a3 a4 _ HK9.out.head).mono ?_
    rw [HR2.out]
    rintro e w9 ⟨rfl, hb9⟩
    have HKa := Lib.hid (HK9.out.next hb9)
    clear hb9 HK9 HK8 HK7 q0 q1 q2 q3 q4
    obtain ⟨q0, q1, q2, q3, q4⟩ := HKa.out.five (b := w.heap.size + 1 + 1) (t := 25) (x0 := .int .i64 a0) (x1 := .int .i64 a1) (x2 := .int .i64 a2) (x3 := .int .i64 a3) (x4 := .int .i64 a4) (by simp)
    obtain ⟨z0, z1⟩ := HKa.out.two (b := w.heap.size) (x0 := .slice va n vc) (x1 := .int .i64 st) (t := 48) (by simp)
    have hrel : (rf = 0 ∧ ris = true ∧ rok = true ∧ rm = rn) ∨ (rf = 0 ∧ ris = false) ∨ (rf = 310 ∧ ris = false) := by
      rcases HRel.out with ⟨h1, h2⟩ | h
      · cases ris with
        | true => exact .inl ⟨h1, rfl, h2 rfl⟩
        | false => exact .inr (.inl ⟨h1, rfl⟩)
      · exact .inr (.inr h)
    clear HRel HR2 HR1
    by_cases hn0 : n = 0
    · obtain ⟨hk1, hk2⟩ := HNil.out (List.length_eq_zero_iff.1 (HN.out.symm.trans hn0))
      have hd0 : ((n : Int) == 0) = true := by simp [hn0]
      clear hn0
      rcases hrel with ⟨rfl, rfl, rfl, rfl⟩ | ⟨rfl, rfl⟩ | ⟨rfl, rfl⟩
      all_goals
        subst hk2
        first | subst hk1 | clear hk1
        go_wp2
        go_ret
        exact ⟨by simp, HKa.out.below⟩
    have hd0 : ((n : Int) == 0) = false := by simp [hn0]
    obtain ⟨b, o, rfl, _, _⟩ : ∃ b o, va = some ⟨b, o, none⟩ ∧ True ∧ True := by
      obtain ⟨_, a, c, e, hr⟩ := HCS.out
      obtain ⟨b, o, e2, _, _⟩ := hr 0 (by have := HN.out; omega)
      simp at e
      exact ⟨b, o, e.1.trans e2, trivial, trivial⟩
    obtain ⟨k, hk, hkn⟩ : ∃ k : Nat, (u : Int) % (n : Int) = (k : Int) ∧ k < n := ⟨u % n, (Int.natCast_emod u n).symm, Nat.mod_lt _ (by omega)⟩
    have HNZ := Lib.hid hn0
    have hvk : ¬ vc = k := by have := HCap.out; omega
    have hkz : (0 : Int) ≤ (k : Int) := by omega
    have hkl : (k : Int) ≤ (n : Int) := by omega
    have hkc : (k : Int) ≤ (vc : Int) := by have := HCap.out; omega
    have hnc : (n : Int) ≤ (vc : Int) := by have := HCap.out; omega
    have HKn := Lib.hid hkn
    have HKmod := Lib.hid hk
    have HKb := Lib.hid (HKa.out.new #[.slice (some ⟨b, o, none⟩) n vc, .int .i64 st] 48)
    have HS9 : Hid ((w9.alloc (.cells #[.slice (some ⟨b, o, none⟩) n vc, .int .i64 st] 48)).heap.size = w9.heap.size + 1) := Lib.hid (by simp)
    have HG9 : Hid (w.heap.size + 3 ≤ w9.heap.size) := Lib.hid (by
      have := HKa.out.vars (w.heap.size + 1 + 1, .cells #[.int .i64 a0, .int .i64 a1, .int .i64 a2, .int .i64 a3, .int .i64 a4] 25 (0, 0)) (by simp)
      have := (Array.getElem?_eq_some_iff.1 this).1
      omega)
    clear hn0 hkn hk
    rcases hrel with ⟨rfl, rfl, rfl, rfl⟩ | ⟨rfl, rfl⟩ | ⟨rfl, rfl⟩
    all_goals
      go_wp2_with fail
      rw [HKmod.out]
      generalize hg9 : w9.heap.size = g9 at *
      have Hg9 := Lib.hid hg9
      clear hg9 HKa
      generalize w9.alloc (.cells #[.slice (some ⟨b, o, none⟩) n vc, .int .i64 st] 48) = W9 at HKb HS9 ⊢
      have HX0 := Lib.hid (HKb.out.next (Below.refl _ _).drew)
      have HX1 := Lib.hid (HX0.out.next ((Below.refl _ _).alloc (Nat.le_refl _) (.cells #[] 50)))
      have hE : OwnCds W9.heap.size (W9.drew.alloc (.cells #[] 50)) (.slice (some ⟨W9.heap.size, 0, none⟩) 0 0) [] := World.ownsRow_made W9.drew #[] 0 (Nat.le_refl _) (by unfold maxLen; omega) rfl
      have HE := Lib.hid hE
      have HR1 := Lib.hid (raw_drop (HCS.out.below HX1.out.below) HN.out HKn.out (vc - k))
      have HSZ : Hid (W9.heap.size ≤ (W9.drew.alloc (.cells #[] 50)).heap.size) := Lib.hid (by show W9.heap.size ≤ (W9.heap.push _).size; rw [Array.size_push]; omega)
      have HL1 : Hid (0 + (n - k) ≤ 1000000) := Lib.hid (by simp at h4; omega)
      have HL2 : Hid (0 + (n - k) + k ≤ 1000000) := Lib.hid (by simp at h4; omega)
      clear hE
      obtain ⟨i0, hi, hz0, hz1, hz2⟩ := info_parts Tryd.info50
      have HI := Lib.hid hi
      have HZ0 := Lib.hid hz0
      have HZ1 := Lib.hid hz1
      have HZ2 := Lib.hid hz2
      clear hi hz0 hz1 hz2
      go_region_held3 (fun w' => w'.cell? ⟨w.heap.size, 0, none⟩ = some (.slice (some ⟨b, o, none⟩) n vc)) (first | exact (HX0.out.two (b := w.heap.size) (x0 := .slice (some ⟨b, o, none⟩) n vc) (x1 := .int .i64 st) (t := 48) (by simp)).1 | exact (HX1.out.two (b := w.heap.size) (x0 := .slice (some ⟨b, o, none⟩) n vc) (x1 := .int .i64 st) (t := 48) (by simp)).1 | exact (HX2.out.two (b := w.heap.size) (x0 := .slice (some ⟨b, o, none⟩) n vc) (x1 := .int .i64 st) (t := 48) (by simp)).1 | exact (HX3.out.two (b := w.heap.size) (x0 := .slice (some ⟨b, o, none⟩) n vc) (x1 := .int .i64 st) (t := 48) (by simp)).1 | exact (HX4.out.two (b := w.heap.size) (x0 := .slice (some ⟨b, o, none⟩) n vc) (x1 := .int .i64 st) (t := 48) (by simp)).1)
        (first
          | (refine step_append_raw Tryd.underlying46 HI.out HZ0.out HZ1.out HZ2.out rfl (by decide) (by decide) W9.heap.size rfl _ _ rfl (.slice (some ⟨W9.heap.size, 0, none⟩) 0 0) 0 [] rfl HE.out (.slice (some ⟨b, o + k * 3, none⟩) (n - k) (vc - k)) (n - k) ((cs.drop k).flatMap Cd.cells) rfl HR1.out HL1.out HSZ.out ?_
             intro ad1 c1 w10 hown1 hgr1
             have HO1 := Lib.hid hown1
             have HX2 := Lib.hid (HX1.out.grown HKb.out HG0.out hgr1 (fun q e => (World.ownsRow.lt HE.out q e).1))
             have HR2 := Lib.hid (raw_take (HCS.out.below HX2.out.below) HN.out HKn.out vc)
             have HZ10 := Lib.hid (Nat.le_trans HSZ.out hgr1.size)
             clear hown1 hgr1)
          | (refine step_append_raw Tryd.underlying46 HI.out HZ0.out HZ1.out HZ2.out rfl (by decide) (by decide) W9.heap.size rfl _ _ rfl (.slice ad1 (0 + (n - k)) c1) (0 + (n - k)) ([] ++ (cs.drop k).flatMap Cd.cells) rfl HO1.out (.slice (some ⟨b, o, none⟩) k vc) k ((cs.take k).flatMap Cd.cells) rfl HR2.out HL2.out HZ10.out ?_
             intro ad2 c2 w11 hown2 hgr2
             have HO2 := Lib.hid hown2
             have HX3 := Lib.hid (HX2.out.grown HKb.out HG0.out hgr2 (fun q e => (World.ownsRow.lt HO1.out q e).1))
             have HZ11 := Lib.hid (Nat.le_trans HZ10.out hgr2.size)
             have hG := HX3.out.vars (g9, .cells #[.slice (some ⟨b, o, none⟩) n vc, .int .i64 st] 48 (0, 0)) (by simp)
             have mG0 : w11.cell? ⟨g9, 0, none⟩ = some (.slice (some ⟨b, o, none⟩) n vc) := by simp [World.cell?, hG]
             have mGf : w11.frozen? ⟨g9, 0, none⟩ = false := by simp [World.frozen?, hG]
             have HG4 := Lib.hid (heap_put (z := .slice ad2 (n - k + k) c2) hG)
             have HX4 : Hid (Keep w [] [(w.heap.size + 1 + 1, .cells #[.int .i64 a0, .int .i64 a1, .int .i64 a2, .int .i64 a3, .int .i64 a4] 25 (0, 0)), (w.heap.size, .cells #[.slice (some ⟨b, o, none⟩) n vc, .int .i64 st] 48 (0, 0))] (w11.setCell ⟨g9, 0, none⟩ (.slice ad2 (n - k + k) c2))) := Lib.hid (HX3.out.put HG0.out (by have := HG9.out; omega) _ (fun x hx => by
               have := HG9.out
               rcases List.mem_cons.1 hx with rfl | hx
               · exact ⟨by simp, by show w.heap.size + 1 + 1 ≠ g9; omega⟩
               · obtain rfl := List.mem_singleton.1 hx
                 exact ⟨by simp, by show w.heap.size ≠ g9; omega⟩))
             clear hown2 hgr2 hG))
      have HO3 := Lib.hid ((own_turned HO2.out HN.out HKn.out).kept (grown_set w11 g9 0 (.slice ad2 (n - k + k) c2)) (fun q e => by have := HS9.out; have := Hg9.out; simp at e; omega))
      generalize w11.setCell ⟨g9, 0, none⟩ (.slice ad2 (n - k + k) c2) = W17 at *
      clear mG0 mGf
      go_wp2_with fail
      have hkc : k < cs.length := by have := HN.out; have := HKn.out; omega
      obtain ⟨e, he⟩ : ∃ e, e = cs[k] := ⟨_, rfl⟩
      have HEl := Lib.hid he
      clear he
      have HY0 := Lib.hid (HX4.out.next (Below.refl _ _).drew)
      have HY1 := Lib.hid (HY0.out.next ((Below.refl _ _).alloc (Nat.le_refl _) (.cells #[.int .i64 e.v, .int .i64 e.op, .int .i64 e.n] 50)))
      have HC0 : Hid (CdAt W17.drew b (o + k * 3) e) := Lib.hid (by have := (cds_at (HCS.out.below HY0.out.below) k hkc).2; rw [← HEl.out] at this; exact this)
      have HC1 : Hid (CdAt (W17.drew.alloc (.cells #[.int .i64 e.v, .int .i64 e.op, .int .i64 e.n] 50)) b (o + k * 3) e) := Lib.hid (by have := (cds_at (HCS.out.below HY1.out.below) k hkc).2; rw [← HEl.out] at this; exact this)
      have HGz : Hid (W17.drew.heap[g9]? = some (.cells #[.slice ad2 (n - k + k) c2, .int .i64 st] 48 (0, 0))) := Lib.hid (heap_at HG4.out (Below.refl _ _).drew (Array.getElem?_eq_some_iff.1 HG4.out).1)
      have HGy : Hid ((W17.drew.alloc (.cells #[.int .i64 e.v, .int .i64 e.op, .int .i64 e.n] 50)).heap[g9]? = some (.cells #[.slice ad2 (n - k + k) c2, .int .i64 st] 48 (0, 0))) := Lib.hid (heap_at HGz.out ((Below.refl _ _).alloc (Nat.le_refl _) _) (Array.getElem?_eq_some_iff.1 HGz.out).1)
      have gz : W17.drew.cell? ⟨g9, 0, none⟩ = some (.slice ad2 (n - k + k) c2) := by have := HGz.out; simp [World.cell?, this]
      have gy : (W17.drew.alloc (.cells #[.int .i64 e.v, .int .i64 e.op, .int .i64 e.n] 50)).cell? ⟨g9, 0, none⟩ = some (.slice ad2 (n - k + k) c2) := by have := HGy.out; simp [World.cell?, this]
      have gy2 : ((W17.alloc (.cells #[.int .i64 e.v, .int .i64 e.op, .int .i64 e.n] 50)).drew).cell? ⟨g9, 0, none⟩ = some (.slice ad2 (n - k + k) c2) := gy
      have gy3 : (W17.alloc (.cells #[.int .i64 e.v, .int .i64 e.op, .int .i64 e.n] 50)).cell? ⟨g9, 0, none⟩ = some (.slice ad2 (n - k + k) c2) := gy
      obtain ⟨ez0, ez1, ez2⟩ := HC0.out
      obtain ⟨ey0, ey1, ey2⟩ := HC1.out
      obtain ⟨xz, _⟩ := HY0.out.two (b := w.heap.size) (x0 := .slice (some ⟨b, o, none⟩) n vc) (x1 := .int .i64 st) (t := 48) (by simp)
      obtain ⟨xy, _⟩ := HY1.out.two (b := w.heap.size) (x0 := .slice (some ⟨b, o, none⟩) n vc) (x1 := .int .i64 st) (t := 48) (by simp)
      have HOy := Lib.hid (((HO3.out.kept (grownBy_below ((Below.refl W17.heap.size W17).drew) none) (fun q e => by cases e)).kept (grownBy_below ((Below.refl _ _).alloc (Nat.le_refl _) (.cells #[.int .i64 e.v, .int .i64 e.op, .int .i64 e.n] 50)) none) (fun q e => by cases e)))
      have HRy := Lib.hid (raw_of ((one_own W17 e).isCds (by simp)))
      have HLy : Hid (n - k + k + 1 ≤ 1000000) := Lib.hid (by simp at h4; omega)
      have HSy : Hid (W9.heap.size ≤ (W17.drew.alloc (.cells #[.int .i64 e.v, .int .i64 e.op, .int .i64 e.n] 50)).heap.size) := Lib.hid (by
        have h1 := (Array.getElem?_eq_some_iff.1 HGy.out).1
        have h2 := HS9.out
        omega)
      have HKv : Hid (Keep w [] [(w.heap.size + 1 + 1, .cells #[.int .i64 a0, .int .i64 a1, .int .i64 a2, .int .i64 a3, .int .i64 a4] 25 (0, 0)), (w.heap.size, .cells #[.slice (some ⟨b, o, none⟩) n vc, .int .i64 st] 48 (0, 0))] W9) := Lib.hid ⟨HKb.out.below, HKb.out.glob, (fun x hx => by simp at hx), fun x hx => HKb.out.vars x (by
        rcases List.mem_cons.1 hx with rfl | hx
        · simp
        · obtain rfl := List.mem_singleton.1 hx
          simp)⟩
      have hkl2 : (k : Int) < (n : Int) := by have := HKn.out; omega
      go_region_law (refine step_append_raw Tryd.underlying46 HI.out HZ0.out HZ1.out HZ2.out rfl (by decide) (by decide) W9.heap.size rfl _ _ rfl (.slice ad2 (n - k + k) c2) (n - k + k) ((cs.drop k ++ cs.take k).flatMap Cd.cells) rfl (own_raw HOy.out HN.out HKn.out) (.slice (some ⟨W17.heap.size, 0, none⟩) 1 1) 1 ([e].flatMap Cd.cells) rfl HRy.out HLy.out HSy.out ?_; intro ad3 c3 w12 hown3 hgr3; have HO4 := Lib.hid hown3; have HY2 := Lib.hid (HY1.out.grown HKv.out HG0.out hgr3 (fun q e => (World.ownsRow.lt HOy.out q e).1)); have hG := (hgr3.block g9 (Array.getElem?_eq_some_iff.1 HGy.out).1 (fun e => by have := (World.ownsRow.lt HOy.out g9 (by first | exact e | exact e.symm)).1; have := HS9.out; omega)).trans HGy.out; have mG0 : w12.cell? ⟨g9, 0, none⟩ = some (.slice ad2 (n - k + k) c2) := (by simp [World.cell?, hG]); have mGf : w12.frozen? ⟨g9, 0, none⟩ = false := (by simp [World.frozen?, hG]); have HG5 := Lib.hid hG; clear hown3 hgr3 hG)
      all_goals
        have HOw := Lib.hid (((own_last HO4.out HN.out HKn.out).kept (grown_set w12 g9 0 (.slice ad3 (n - k + k + 1) c3)) (fun q e => by have := HS9.out; simp at e; omega)).isCds (by rw [List.length_append, List.length_append, List.length_drop, List.length_take, List.length_singleton]; have := HLy.out; have := HN.out; have := HKn.out; omega))
        have HGw := Lib.hid (heap_put (z := .slice ad3 (n - k + k + 1) c3) HG5.out)
        have HY3 : Hid (Keep w [] [(w.heap.size + 1 + 1, .cells #[.int .i64 a0, .int .i64 a1, .int .i64 a2, .int .i64 a3, .int .i64 a4] 25 (0, 0)), (w.heap.size, .cells #[.slice (some ⟨b, o, none⟩) n vc, .int .i64 st] 48 (0, 0))] (w12.setCell ⟨g9, 0, none⟩ (.slice ad3 (n - k + k + 1) c3))) := Lib.hid (HY2.out.put HG0.out (by have := HG9.out; omega) _ (fun x hx => by
          have := HG9.out
          refine ⟨hx, ?_⟩
          rcases List.mem_cons.1 hx with rfl | hx
          · show w.heap.size + 1 + 1 ≠ g9; omega
          · obtain rfl := List.mem_singleton.1 hx
            show w.heap.size ≠ g9; omega))
        generalize w12.setCell ⟨g9, 0, none⟩ (.slice ad3 (n - k + k + 1) c3) = W18 at *
        have gc0 : W18.cell? ⟨g9, 0, none⟩ = some (.slice ad3 (n - k + k + 1) c3) := by have := HGw.out; simp [World.cell?, this]
        have gc1 : W18.cell? ⟨g9, 1, none⟩ = some (.int .i64 st) := by have := HGw.out; simp [World.cell?, this]
        clear q0 q1 q2 q3 q4 gz gy gy2 gy3 ez0 ez1 ez2 ey0 ey1 ey2 mG0 mGf
        have HZe := Lib.hid ((HY3.out.new #[.slice ad3 (n - k + k + 1) c3, .int .i64 st] 48).add (one_line (g := W18.heap.size) (heap_new _ _ _ rfl) (HOw.out.below ((Below.refl _ _).alloc (Nat.le_refl _) _))))
        obtain ⟨q0, q1, q2, q3, q4⟩ := HZe.out.five (b := w.heap.size + 1 + 1) (t := 25) (x0 := .int .i64 a0) (x1 := .int .i64 a1) (x2 := .int .i64 a2) (x3 := .int .i64 a3) (x4 := .int .i64 a4) (by simp)
        go_wp2_with fail
        refine (crun_any _ _ a0 a1 a2 a3 a4 _ HZe.out.head).mono ?_
        rw [HTurn.out _ (by have := turned_ok hkc (by simp at h4; have := HN.out; omega) HOK.out; rw [← HEl.out] at this; exact this) (by rw [HEl.out]; exact turned_all _ cs k hkc)]
        rintro e' w19 ⟨rfl, hb19⟩
        have HZf := Lib.hid (HZe.out.next hb19)
        clear hb19
        go_wp2
        go_ret
        exact ⟨by simp, HZf.out.below⟩

end Go.Proofs.YtlaifodlnolndaaDoor

/- PROVED HERE: a line, a condition and a byte that come in as arguments. No condition beyond the row's. -/
namespace Go.Proofs.YtlaifodlnolndaaDoor
open Go.ChangeShapes Go.WideShapes Go.Deep

section
variable {H : Type} {enc : TypeId × Value → H} {W : World}
set_option maxRecDepth 100000 in
theorem cap_conds {fuel : Nat} {x0 : Value} {d : DataW H} {ps : List MemPlace} (h : DataW.trod enc Tryd.prog W 0 (fun _ => true) true fuel 46 [x0] = some (d, ps)) : ∃ a len cap, x0 = .slice a len cap ∧ len ≤ cap := by
  rcases open_slice Tryd.underlying46 h with ⟨hcs, _⟩ | ⟨a, len, cap, m, n, D, Pl, hcs, _, hl, _⟩
  · exact ⟨none, 0, 0, (List.cons.inj hcs).1, Nat.le_refl _⟩
  · exact ⟨some a, len, cap, (List.cons.inj hcs).1, hl⟩
set_option maxRecDepth 100000 in
/- a line -/
theorem open_line {base : Nat} {v : Value} {d : DataW H} {ps : List MemPlace} (hval : Value.okWide Tryd.prog W .any base 48 v) (h : DataW.Trod enc Tryd.prog W 0 (fun _ => true) true 48 v d ps) (hw : ∀ n ∈ d.weights Tryd.prog 48, n ≤ reachBytes) :
    ∃ v1 cs st, v = .agg #[v1, .int .i64 st] ∧ IsCds W v1 cs ∧ ∃ a c, v1 = .slice a cs.length c ∧ cs.length ≤ c := by
  unfold Value.okWide at hval
  rw [Tryd.underlying48] at hval
  obtain ⟨cs, rfl, hsz, _⟩ := hval
  rw [cells48] at hsz
  obtain ⟨fuel, hf⟩ := h
  obtain ⟨ys, n', _, hy, hlen, hyl, hfld⟩ := DataW.trod_struct Tryd.underlying48 hf
  simp only [Prod.mk.injEq] at hy
  obtain ⟨l⟩ := cs
  match l, hsz, ys, hyl with
  | [x0, x1], _, [q0, q1], _ =>
    have t0 := hfld 0 _ rfl
    have t1 := hfld 1 _ rfl
    simp only [List.getElem?_cons_zero, List.getElem?_cons_succ] at t0 t1
    have t0' : DataW.trod enc Tryd.prog W 0 (fun _ => true) true n' 46 (([x0, x1].drop 0).take (Tryd.prog.cellsOf 46)) = some (q0.1, q0.2) := t0
    rw [cells46] at t0'
    obtain ⟨k1, e1, _, _⟩ := DataW.trod_int Tryd.underlying3 t1
    obtain rfl : x1 = .int .i64 k1 := (List.cons.inj (show [x1] = [_] from e1)).1
    obtain ⟨ds, hds⟩ := open_conds (x0 := x0) (d := q0.1) (ps := q0.2) t0' (fun n hn => hw n (by
      rw [hy.1, DataW.weights, Tryd.underlying48]
      exact DataW.weights_mem_each (j := 0) (t := 46) (d := q0.1) rfl rfl _ hn))
    obtain ⟨a, len, cap, e, hcap⟩ := cap_conds (x0 := x0) (d := q0.1) (ps := q0.2) t0'
    refine ⟨x0, ds, k1, rfl, hds, ?_⟩
    obtain ⟨_, a', c', e', _⟩ := hds
    rw [e] at e'
    simp only [Value.slice.injEq] at e'
    obtain ⟨rfl, rfl, rfl⟩ := e'
    exact ⟨a, cap, e, hcap⟩
set_option maxRecDepth 100000 in
/- a condition -/
theorem open_cond {base : Nat} {v : Value} {d : DataW H} {ps : List MemPlace} (hval : Value.okWide Tryd.prog W .any base 50 v) (h : DataW.Trod enc Tryd.prog W 0 (fun _ => true) true 50 v d ps) :
    ∃ a b c, v = .agg #[.int .i64 a, .int .i64 b, .int .i64 c] := by
  unfold Value.okWide at hval
  rw [Tryd.underlying50] at hval
  obtain ⟨cs, rfl, hsz, _⟩ := hval
  rw [cells50] at hsz
  obtain ⟨fuel, hf⟩ := h
  obtain ⟨ys, n', _, hy, hlen, hyl, hfld⟩ := DataW.trod_struct Tryd.underlying50 hf
  obtain ⟨l⟩ := cs
  match l, hsz, ys, hyl with
  | [x0, x1, x2], _, [q0, q1, q2], _ =>
    have t0 := hfld 0 _ rfl
    have t1 := hfld 1 _ rfl
    have t2 := hfld 2 _ rfl
    simp only [List.getElem?_cons_zero, List.getElem?_cons_succ] at t0 t1 t2
    obtain ⟨k0, e0, _, _⟩ := DataW.trod_int Tryd.underlying3 t0
    obtain ⟨k1, e1, _, _⟩ := DataW.trod_int Tryd.underlying3 t1
    obtain ⟨k2, e2, _, _⟩ := DataW.trod_int Tryd.underlying3 t2
    obtain rfl : x0 = .int .i64 k0 := (List.cons.inj (show [x0] = [_] from e0)).1
    obtain rfl : x1 = .int .i64 k1 := (List.cons.inj (show [x1] = [_] from e1)).1
    obtain rfl : x2 = .int .i64 k2 := (List.cons.inj (show [x2] = [_] from e2)).1
    exact ⟨k0, k1, k2, rfl⟩
set_option maxRecDepth 100000 in
/- a byte -/
theorem open_byte {base : Nat} {v : Value} {d : DataW H} {ps : List MemPlace} (hval : Value.okWide Tryd.prog W .any base 5 v) (h : DataW.Trod enc Tryd.prog W 0 (fun _ => true) true 5 v d ps) :
    ∃ u : Nat, v = .int .u8 u ∧ u ≤ 255 := by
  obtain ⟨x, rfl, rfl, rfl, hw⟩ := open_int Tryd.underlying5 hval h
  have hb : 0 ≤ x ∧ x ≤ 255 := by
    have hw' := hw
    simp only [Lit.wf, Bool.and_eq_true, decide_eq_true_eq] at hw'
    have e1 : IntKind.u8.min = 0 := by decide
    have e2 : IntKind.u8.max = 255 := by decide
    rw [e1, e2] at hw'
    exact hw'
  exact ⟨x.toNat, by rw [Int.toNat_of_nonneg hb.1], by omega⟩
end

end Go.Proofs.YtlaifodlnolndaaDoor

/-
  PROVED HERE: the tied card of 'acequia/acequialaw31.GatecodeConds': for every input, in every start that meets the row's condition on the listed package variables, the law returns true and each argument reads as it did. Its conditions are the given statement's own (Rows.GatecodeCondsCardSaid), none more.
-/
namespace Go.Proofs.YtlaifodlnolndaaDoor
open Go.ChangeShapes Go.WideShapes Go.ChangeAt Go.WideMaps Go.WideElems Go.RowKit Go.ChangeMaps

set_option maxRecDepth 100000 in
theorem gatecodeConds_lifted (os : Os) (started : os.Started) (H : Type) (enc : TypeId × Value → H) :
    ReturnsInHanded {} Tryd.checked os 7 .any (fun w args => (Rows.gatecodeCondsSpec.pre enc Tryd.prog Tryd.f7 [] false w args ∧ laidMetH Tryd.prog laidAll w) ∧ sizedMet enc Tryd.prog Tryd.f7 (OpenSpec.ofChange Rows.gatecodeCondsSpec) false w args)
      (Rows.gatecodeCondsSpec.post enc Tryd.prog Tryd.f7 false true false false) := by
  refine returnsInHanded_of_change_and (C := Tryd.checked) (X := fun w _ => laidMetH Tryd.prog laidAll w) (fun _ _ _ hh h => h.of_heap hh) own started (by kernel_rfl) Tryd.func7
    (ChangeSpec.witness_shaped (enc := enc) (C := Tryd.checked) (os := os) (X := fun w _ => laidMetH Tryd.prog laidAll w) false (World.doorLaid Tryd.prog 400 os) #[.agg #[.slice none 0 0, .int .i64 0], .agg #[.int .i64 0, .int .i64 0, .int .i64 0], .int .u8 0, .agg #[.int .i64 0, .int .i64 0, .int .i64 0, .int .i64 0, .int .i64 0]] 8 rfl (World.shaped_of_RefB (by kernel_rfl) (by kernel_rfl)) (by kernel_rfl) (by kernel_rfl) (by kernel_rfl) (door_met os _)) ?_
  intro W base args ds gs before hval0 hW _ hsz0 hL _
  have hsz : (DataW.weightsEach Tryd.prog (Tryd.f7.params.toList ++ Rows.gatecodeCondsSpec.plain.varTypes Tryd.prog) (ds ++ gs)).all (· ≤ reachBytes) = true := hsz0
  have hval : ∀ (j : Nat) t v, Tryd.f7.params[j]? = some t → args[j]? = some v → Value.okWide Tryd.prog W .any base t v := hval0
  have hW' := hW
  obtain ⟨p, q, hA0, hV, rfl, hfz, hnd⟩ := hW
  have hA : DataW.TrodAll enc Tryd.prog W 0 (fun _ => true) true Tryd.f7.params.toList args.toList ds p := hA0
  rw [Tryd.params7] at hA hval hsz
  obtain ⟨v0, v1, v2, v3, d0, d1, d2, d3, p0, p1, p2, p3, rfl, rfl, rfl, h0, h1, h2, h3⟩ := trodAll_four hA
  obtain ⟨rfl, rfl⟩ := trodVars_none hV
  obtain ⟨x0, c0, l0, rfl, hi0, hk0⟩ := open_line (hval 0 48 v0 rfl rfl) h0 (fun n hn => by simpa using List.all_eq_true.1 hsz n (DataW.weights_mem_each (j := 0) (t := 48) (d := d0) rfl rfl _ hn))
  obtain ⟨a1, b1, c1, rfl⟩ := open_cond (hval 1 50 v1 rfl rfl) h1
  obtain ⟨u2, rfl, hu2⟩ := open_byte (hval 2 5 v2 rfl rfl) h2
  obtain ⟨a3, b3, c3, e3, f3, rfl⟩ := open_five (hval 3 25 v3 rfl rfl) h3
  clear hA0 hval0 hsz0
  refine (conds_any x0 c0 l0 a1 b1 c1 u2 a3 b3 c3 e3 f3 W hi0 hk0 hu2 (globals_of_laid hL)).mono fun e W' ⟨he, hb⟩ => ?_
  subst he
  exact ⟨_, rfl, _, _, _, [], _, [], hW', trodAll_mk1 (shut_bool Tryd.underlying4 true), trodAll_mk4 (Below.trod laidOut (by kernel_rfl) (of_decide_eq_true (by kernel_rfl)) h0 hb (fun x hx => hW'.lt x (by simp [hx]))) (Below.trod laidOut (by kernel_rfl) (of_decide_eq_true (by kernel_rfl)) h1 hb (fun x hx => hW'.lt x (by simp [hx]))) (Below.trod laidOut (by kernel_rfl) (of_decide_eq_true (by kernel_rfl)) h2 hb (fun x hx => hW'.lt x (by simp [hx]))) (Below.trod laidOut (by kernel_rfl) (of_decide_eq_true (by kernel_rfl)) h3 hb (fun x hx => hW'.lt x (by simp [hx]))), rfl, hb.frame _, fun h => by cases h⟩

theorem gatecodeConds_holds : Rows.GatecodeCondsSaid :=
  OpenClaim.holds_of_wide 7 Tryd.f7 rfl rfl rfl rfl rfl rfl rfl ⟨rfl, rfl, rfl, rfl, rfl⟩ rfl rfl rfl rfl rfl (by kernel_rfl) Tryd.func7 (by kernel_rfl)
    (of_decide_eq_true (by kernel_rfl)) (by unfold Func.isWrapper; rw [if_neg (of_decide_eq_false (by kernel_rfl))]; exact ⟨rfl, rfl⟩)
    (fun os started H enc _ => gatecodeConds_lifted os started H enc)

/-- The tied card. -/
theorem gatecodeCondsCard_holds : Rows.GatecodeCondsCardSaid :=
  Claim7.holds_tied_plain_at .later [] [.data, .data, .data, .sentinel, .sentinel] true (true, "e65092b6c8e12897320936d0b59b09d858db66b2193a5810b3c0cafb90844fc6") true
    gatecodeConds_holds (fun _ h => by cases h) (by kernel_rfl) (fun _ h => by cases h) gatecodeConds_row_tie rfl ⟨rfl, rfl⟩ (by kernel_rfl) rfl
    (fun f fn hf hfn => by
      obtain rfl : f = 7 := Option.some.inj ((show Tryd.prog.funcNamed "acequia/acequialaw31.GatecodeConds" = some 7 by kernel_rfl).symm.trans hf) |>.symm
      obtain rfl : fn = Tryd.f7 := (Option.some.inj (Tryd.func7.symm.trans hfn)).symm
      exact ⟨by kernel_rfl, fun j t ht => by
        rw [Tryd.params7] at ht
        have hm : t ∈ [48, 50, 5, 25] := by simpa using Array.mem_of_getElem? ht
        have hall : ([48, 50, 5, 25].all fun u => !Tryd.prog.wantsStandIn u) = true := by kernel_rfl
        exact (show Tryd.prog.wantsStandIn t = false by simpa using List.all_eq_true.1 hall t hm)⟩)
    (by kernel_rfl)

end Go.Proofs.YtlaifodlnolndaaDoor

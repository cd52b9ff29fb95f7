/- Texts Oa in one: each says what it proves. -/
import Derived.Test.YtlaifodlnolndaaDoorMf
import Derived.Test.YtlaifodlnolndaaDoorMg
import Derived.Test.YtlaifodlnolndaaDoorMd
import Derived.Deep.Slices
import Derived.Deep.Fields
import Derived.ChangeSame
import Derived.OpenShut
/- PROVED HERE: a gate program that comes in as an argument is a list of lines, none longer than the row's size limit says; five numbers. No condition beyond the row's. -/
namespace Go.Proofs.YtlaifodlnolndaaDoor
open Go.ChangeShapes Go.WideShapes Go.Deep

theorem list_of {α : Type} {P : Nat → α → Prop} : ∀ n : Nat, (∀ i, i < n → ∃ t, P i t) → ∃ ts : List α, ts.length = n ∧ ∀ i (h : i < ts.length), P i ts[i]
  | 0, _ => ⟨[], rfl, fun i h => by simp at h⟩
  | n + 1, h => by
    obtain ⟨ts, hl, hp⟩ := list_of n (fun i hi => h i (by omega))
    obtain ⟨t, ht⟩ := h n (by omega)
    refine ⟨ts ++ [t], by simp [hl], fun i hi => ?_⟩
    by_cases hin : i < ts.length
    · rw [List.getElem_append_left hin]; exact hp i hin
    · have e : i = ts.length := by simp at hi; omega
      subst e
      simp only [List.getElem_append_right (Nat.le_refl _), Nat.sub_self, List.getElem_cons_zero]
      rw [hl]; exact ht
theorem weightsAll_mem {H : Type} {P : Program} {e : TypeId} {d : DataW H} {n : Nat} : ∀ {l : List (DataW H)}, d ∈ l → n ∈ d.weights P e → n ∈ DataW.weightsAll P e l
  | [], h, _ => by simp at h
  | x :: r, h, hn => by
    simp only [DataW.weightsAll, List.mem_append]
    rcases List.mem_cons.1 h with rfl | h
    · exact .inl hn
    · exact .inr (weightsAll_mem h hn)
theorem cell_in {w : World} {a : Addr} {v : Value} (h : w.cell? a = some v) : a.block < w.heap.size := by
  rcases Nat.lt_or_ge a.block w.heap.size with h' | h'
  · exact h'
  · simp [World.cell?, Array.getElem?_eq_none h'] at h
theorem cells50 : Tryd.prog.cellsOf 50 = 3 := by kernel_rfl
theorem cells48 : Tryd.prog.cellsOf 48 = 2 := by kernel_rfl
theorem cells24 : Tryd.prog.cellsOf 24 = 1 := by kernel_rfl
theorem cells25 : Tryd.prog.cellsOf 25 = 5 := by kernel_rfl
theorem cells22 : Tryd.prog.cellsOf 22 = 1 := by kernel_rfl
theorem cells46 : Tryd.prog.cellsOf 46 = 1 := by kernel_rfl
theorem cells3 : Tryd.prog.cellsOf 3 = 1 := by kernel_rfl
theorem bytes50 : Tryd.prog.bytesOf 50 = 24 := by kernel_rfl
theorem bytes48 : Tryd.prog.bytesOf 48 = 32 := by kernel_rfl

section
variable {H : Type} {enc : TypeId × Value → H} {W : World}
set_option maxRecDepth 100000 in
theorem open_conds {fuel : Nat} {x0 : Value} {d : DataW H} {ps : List MemPlace} (h : DataW.trod enc Tryd.prog W 0 (fun _ => true) true fuel 46 [x0] = some (d, ps)) (hw : ∀ n ∈ d.weights Tryd.prog 46, n ≤ reachBytes) : ∃ cs, IsCds W x0 cs := by
  rcases open_slice Tryd.underlying46 h with ⟨hcs, _⟩ | ⟨a, len, cap, m, n, D, Pl, hcs, _, hl, hm, hz, hx, hi⟩
  · obtain rfl : x0 = .slice none 0 0 := (List.cons.inj hcs).1
    exact ⟨[], by simp, none, 0, rfl, fun i h => by simp at h⟩
  · obtain rfl : x0 = .slice (some a) len cap := (List.cons.inj hcs).1
    simp only [if_true] at hz
    simp only [Prod.mk.injEq] at hx
    have hlen : len ≤ 140737488355328 := by
      have h1 := hw ((len + (m - len)) * 24) (by
        rw [hx.1, DataW.weights, Tryd.underlying46]
        simp only [List.length_map, List.length_range, bytes50]
        exact List.mem_cons_self)
      have h2 : reachBytes < 2 ^ 47 := reachBytes_lt
      omega
    have key : ∀ i, i < len → ∃ c : Cd, W.cell? (a.add (i * 3 + 0)) = some (.int .i64 c.v) ∧ W.cell? (a.add (i * 3 + 1)) = some (.int .i64 c.op) ∧ W.cell? (a.add (i * 3 + 2)) = some (.int .i64 c.n) := by
      intro i hil
      obtain ⟨cs, hc, ht⟩ := hi i (by omega)
      rw [cells50] at hc
      obtain ⟨ys, n', _, hy, hlen, hyl, hfld⟩ := DataW.trod_struct Tryd.underlying50 ht
      obtain ⟨_, hcl, hat⟩ := World.cells?_some hc
      match cs, hcl, ys, hyl with
      | [x0, x1, x2], _, [q0, q1, q2], _ =>
      have t0 := hfld 0 _ rfl
      have t1 := hfld 1 _ rfl
      have t2 := hfld 2 _ rfl
      simp only [List.getElem?_cons_zero, List.getElem?_cons_succ] at t0 t1 t2
      have c0 := hat 0 (by decide)
      have c1 := hat 1 (by decide)
      have c2 := hat 2 (by decide)
      simp only [add_add, List.getElem?_cons_zero, List.getElem?_cons_succ] at c0 c1 c2
      obtain ⟨k0, e0, _, _⟩ := DataW.trod_int Tryd.underlying3 t0
      obtain ⟨k1, e1, _, _⟩ := DataW.trod_int Tryd.underlying3 t1
      obtain ⟨k2, e2, _, _⟩ := DataW.trod_int Tryd.underlying3 t2
      obtain rfl : x0 = .int .i64 k0 := (List.cons.inj (show [x0] = [_] from e0)).1
      obtain rfl : x1 = .int .i64 k1 := (List.cons.inj (show [x1] = [_] from e1)).1
      obtain rfl : x2 = .int .i64 k2 := (List.cons.inj (show [x2] = [_] from e2)).1
      exact ⟨⟨k0, k1, k2⟩, c0, c1, c2⟩
    by_cases h0 : len = 0
    · subst h0
      exact ⟨[], by simp, some a, cap, rfl, fun i h => by simp at h⟩
    · obtain ⟨ts, hts, hp⟩ := list_of len key
      have hspot : a.spot = none := by
        obtain ⟨t, hc, _⟩ := key 0 (by omega)
        simpa [Addr.add] using World.cell?_spot hc
      obtain ⟨b, off, spot⟩ := a
      simp only at hspot
      subst hspot
      have hlt : b < W.heap.size := by
        obtain ⟨t, hc, _⟩ := key 0 (by omega)
        exact cell_in hc
      refine ⟨ts, by omega, some ⟨b, off, none⟩, cap, by rw [hts], fun i hil => ⟨b, off, rfl, hlt, ?_⟩⟩
      have hh := hp i hil
      simp only [add_plain] at hh
      simpa [Nat.add_assoc, CdAt] using hh
set_option maxRecDepth 100000 in
theorem open_lines {fuel : Nat} {x0 : Value} {d : DataW H} {ps : List MemPlace} (h : DataW.trod enc Tryd.prog W 0 (fun _ => true) true fuel 22 [x0] = some (d, ps)) (hw : ∀ n ∈ d.weights Tryd.prog 22, n ≤ reachBytes) : ∃ ls, IsLns W x0 ls := by
  rcases open_slice Tryd.underlying22 h with ⟨hcs, _⟩ | ⟨a, len, cap, m, n, D, Pl, hcs, _, hl, hm, hz, hx, hi⟩
  · obtain rfl : x0 = .slice none 0 0 := (List.cons.inj hcs).1
    exact ⟨[], by simp, none, 0, rfl, fun i h => by simp at h⟩
  · obtain rfl : x0 = .slice (some a) len cap := (List.cons.inj hcs).1
    simp only [if_true] at hz
    simp only [Prod.mk.injEq] at hx
    have hlen : len ≤ 140737488355328 := by
      have h1 := hw ((len + (m - len)) * 32) (by
        rw [hx.1, DataW.weights, Tryd.underlying22]
        simp only [List.length_map, List.length_range, bytes48]
        exact List.mem_cons_self)
      have h2 : reachBytes < 2 ^ 47 := reachBytes_lt
      omega
    have key : ∀ i, i < len → ∃ x : Ln, ∃ v, W.cell? (a.add (i * 2 + 0)) = some v ∧ IsCds W v x.conds ∧ W.cell? (a.add (i * 2 + 1)) = some (.int .i64 x.set) := by
      intro i hil
      obtain ⟨cs, hc, ht⟩ := hi i (by omega)
      rw [cells48] at hc
      obtain ⟨ys, n', _, hy, hlen, hyl, hfld⟩ := DataW.trod_struct Tryd.underlying48 ht
      obtain ⟨_, hcl, hat⟩ := World.cells?_some hc
      simp only [Prod.mk.injEq] at hy
      match cs, hcl, ys, hyl with
      | [x0, x1], _, [q0, q1], _ =>
      have t0 := hfld 0 _ rfl
      have t1 := hfld 1 _ rfl
      simp only [List.getElem?_cons_zero, List.getElem?_cons_succ] at t0 t1
      have t0' : DataW.trod enc Tryd.prog W 0 (fun _ => true) true n' 46 (([x0, x1].drop 0).take (Tryd.prog.cellsOf 46)) = some (q0.1, q0.2) := t0
      rw [cells46] at t0'
      have c0 := hat 0 (by decide)
      have c1 := hat 1 (by decide)
      simp only [add_add, List.getElem?_cons_zero, List.getElem?_cons_succ] at c0 c1
      obtain ⟨k1, e1, _, _⟩ := DataW.trod_int Tryd.underlying3 t1
      obtain rfl : x1 = .int .i64 k1 := (List.cons.inj (show [x1] = [_] from e1)).1
      obtain ⟨ds, hds⟩ := open_conds (x0 := x0) (d := q0.1) (ps := q0.2) t0' (fun n hn => hw n (by
        rw [hx.1, DataW.weights, Tryd.underlying22]
        refine List.mem_cons_of_mem _ (List.mem_append_left _ ?_)
        refine weightsAll_mem (d := D i) (List.mem_map.2 ⟨i, List.mem_range.2 hil, rfl⟩) ?_
        rw [hy.1, DataW.weights, Tryd.underlying48]
        exact DataW.weights_mem_each (j := 0) (t := 46) (d := q0.1) rfl rfl _ hn))
      exact ⟨⟨ds, k1⟩, x0, c0, hds, c1⟩
    by_cases h0 : len = 0
    · subst h0
      exact ⟨[], by simp, some a, cap, rfl, fun i h => by simp at h⟩
    · obtain ⟨ts, hts, hp⟩ := list_of len key
      have hspot : a.spot = none := by
        obtain ⟨t, v, hc, _⟩ := key 0 (by omega)
        simpa [Addr.add] using World.cell?_spot hc
      obtain ⟨b, off, spot⟩ := a
      simp only at hspot
      subst hspot
      have hlt : b < W.heap.size := by
        obtain ⟨t, v, hc, _⟩ := key 0 (by omega)
        exact cell_in hc
      refine ⟨ts, by omega, some ⟨b, off, none⟩, cap, by rw [hts], fun i hil => ⟨b, off, rfl, hlt, ?_⟩⟩
      obtain ⟨v, h1, h2, h3⟩ := hp i hil
      simp only [add_plain] at h1 h3
      exact ⟨v, by simpa [Nat.add_assoc] using h1, h2, by simpa [Nat.add_assoc] using h3⟩
set_option maxRecDepth 100000 in
/- a program -/
theorem open_code {base : Nat} {v : Value} {d : DataW H} {ps : List MemPlace} (hval : Value.okWide Tryd.prog W .any base 24 v) (h : DataW.Trod enc Tryd.prog W 0 (fun _ => true) true 24 v d ps) (hw : ∀ n ∈ d.weights Tryd.prog 24, n ≤ reachBytes) :
    ∃ v1 ls, v = .agg #[v1] ∧ IsLns W v1 ls := by
  unfold Value.okWide at hval
  rw [Tryd.underlying24] at hval
  obtain ⟨cs, rfl, hsz, _⟩ := hval
  rw [cells24] at hsz
  obtain ⟨fuel, hf⟩ := h
  obtain ⟨ys, n', _, hy, hlen, hyl, hfld⟩ := DataW.trod_struct Tryd.underlying24 hf
  simp only [Prod.mk.injEq] at hy
  obtain ⟨l⟩ := cs
  match l, hsz, ys, hyl with
  | [x0], _, [q0], _ =>
    have t0 := hfld 0 _ rfl
    simp only [List.getElem?_cons_zero] at t0
    have t0' : DataW.trod enc Tryd.prog W 0 (fun _ => true) true n' 22 (([x0].drop 0).take (Tryd.prog.cellsOf 22)) = some (q0.1, q0.2) := t0
    rw [cells22] at t0'
    obtain ⟨ls, hls⟩ := open_lines (x0 := x0) (d := q0.1) (ps := q0.2) t0' (fun n hn => hw n (by
      rw [hy.1, DataW.weights, Tryd.underlying24]
      exact DataW.weights_mem_each (j := 0) (t := 22) (d := q0.1) rfl rfl _ hn))
    exact ⟨x0, ls, rfl, hls⟩
set_option maxRecDepth 100000 in
/- five numbers -/
theorem open_five {base : Nat} {v : Value} {d : DataW H} {ps : List MemPlace} (hval : Value.okWide Tryd.prog W .any base 25 v) (h : DataW.Trod enc Tryd.prog W 0 (fun _ => true) true 25 v d ps) :
    ∃ a0 a1 a2 a3 a4, v = vsV a0 a1 a2 a3 a4 := by
  unfold Value.okWide at hval
  rw [Tryd.underlying25] at hval
  obtain ⟨cs, rfl, hsz, _⟩ := hval
  rw [cells25] at hsz
  obtain ⟨fuel, hf⟩ := h
  obtain ⟨ys, n', _, hy, hlen, hyl, hfld⟩ := DataW.trod_array Tryd.underlying25 hf
  obtain ⟨l⟩ := cs
  match l, hsz, ys, hyl with
  | [x0, x1, x2, x3, x4], _, [q0, q1, q2, q3, q4], _ =>
    have t0 := hfld 0 (by omega)
    have t1 := hfld 1 (by omega)
    have t2 := hfld 2 (by omega)
    have t3 := hfld 3 (by omega)
    have t4 := hfld 4 (by omega)
    simp only [cells3, List.getElem?_cons_zero, List.getElem?_cons_succ] at t0 t1 t2 t3 t4
    obtain ⟨k0, e0, _, _⟩ := DataW.trod_int Tryd.underlying3 t0
    obtain ⟨k1, e1, _, _⟩ := DataW.trod_int Tryd.underlying3 t1
    obtain ⟨k2, e2, _, _⟩ := DataW.trod_int Tryd.underlying3 t2
    obtain ⟨k3, e3, _, _⟩ := DataW.trod_int Tryd.underlying3 t3
    obtain ⟨k4, e4, _, _⟩ := DataW.trod_int Tryd.underlying3 t4
    obtain rfl : x0 = .int .i64 k0 := (List.cons.inj (show [x0] = [_] from e0)).1
    obtain rfl : x1 = .int .i64 k1 := (List.cons.inj (show [x1] = [_] from e1)).1
    obtain rfl : x2 = .int .i64 k2 := (List.cons.inj (show [x2] = [_] from e2)).1
    obtain rfl : x3 = .int .i64 k3 := (List.cons.inj (show [x3] = [_] from e3)).1
    obtain rfl : x4 = .int .i64 k4 := (List.cons.inj (show [x4] = [_] from e4)).1
    exact ⟨k0, k1, k2, k3, k4, rfl⟩
end

end Go.Proofs.YtlaifodlnolndaaDoor

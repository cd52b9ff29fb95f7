/- Texts Hj Hk Hl Hm Hna Hnb in one: each says what it proves. -/
import Derived.Test.YtlaifodlnolndaaGreatDoorMm
import Derived.Recover
import Derived.Deep.RegionLaw
/- Parse: the deferred function that recovers. -/
namespace Go.Proofs.YtlaifodlnolndaaGreatDoor
open Go.RowKit

/- the place in the text of a token, or the text's end -/
def placeT (ts : List Tok) (n : Nat) (k : Nat) : Int := match ts[k]? with
  | some t => t.at_
  | none => n

/- a block of one cell holds no token -/
theorem far_one {w : World} {b c i : Nat} {u z : Value} {t : TypeId} (h : w.heap[c]? = some (.cells #[u] t (0, 0))) (hc : w.cell? ⟨b, i + 1, none⟩ = some z) : c ≠ b := by
  rintro rfl
  simp [World.cell?, h] at hc
set_option maxRecDepth 100000 in
set_option maxHeartbeats 4000000 in
theorem wrong_panicking (b0 b1 b2 b3 b4 : Nat) (l2 : b1 < b2) (l3 : b2 < b3) (l4 : b3 < b4) (k : Nat) (hk : k ≤ 140737488355328) (s : ByteArray) (v v1 v2 v3 : Value) (ts : List Tok) (older : List PanicEntry) (w : World)
    (h0 : w.heap[b0]? = some (.cells #[.string s] 9 (0, 0))) (h1 : w.heap[b1]? = some (.cells #[v1] 25 (0, 0))) (h2 : w.heap[b2]? = some (.cells #[v2] 3 (0, 0))) (h3 : w.heap[b3]? = some (.cells #[v3] 26 (0, 0))) (h4 : w.heap[b4]? = some (.cells #[v] 42 (0, 0))) (ht : IsToks w v ts) :
    CallsD Tryz.prog 14 #[.pointer (some ⟨b0, 0, none⟩), .pointer (some ⟨b1, 0, none⟩), .pointer (some ⟨b2, 0, none⟩), .pointer (some ⟨b3, 0, none⟩), .pointer (some ⟨b4, 0, none⟩)] (.panicking ({ v := .iface 51 (.int .i64 k), recovered := false } :: older)) w fun e u' w' =>
      e = .returned (.tuple #[]) ∧ u' = .panicking ({ v := .iface 51 (.int .i64 k), recovered := true } :: older) ∧ Below b1 w w' ∧
      w'.cell? ⟨b1, 0, none⟩ = some (.slice none 0 0) ∧ w'.cell? ⟨b2, 0, none⟩ = some (.int .i64 (placeT ts s.size k)) ∧ w'.cell? ⟨b3, 0, none⟩ = some (.int .i64 310) := by
  have c0 : w.cell? ⟨b0, 0, none⟩ = some (.string s) := by simp [World.cell?, h0]
  have c1 : w.cell? ⟨b1, 0, none⟩ = some v1 := by simp [World.cell?, h1]
  have c2 : w.cell? ⟨b2, 0, none⟩ = some v2 := by simp [World.cell?, h2]
  have c3 : w.cell? ⟨b3, 0, none⟩ = some v3 := by simp [World.cell?, h3]
  have c4 : w.cell? ⟨b4, 0, none⟩ = some v := by simp [World.cell?, h4]
  have f1 : w.frozen? ⟨b1, 0, none⟩ = false := by simp [World.frozen?, h1]
  have f2 : w.frozen? ⟨b2, 0, none⟩ = false := by simp [World.frozen?, h2]
  have f3 : w.frozen? ⟨b3, 0, none⟩ = false := by simp [World.frozen?, h3]
  clear h0 h4
  have n1 : ¬ b1 = b2 := by omega
  have n2 : ¬ b1 = b3 := by omega
  have n3 : ¬ b2 = b3 := by omega
  have n4 : ¬ b2 = b1 := by omega
  have n5 : ¬ b3 = b1 := by omega
  have n6 : ¬ b3 = b2 := by omega
  have n7 : ¬ b1 = b4 := by omega
  have n8 : ¬ b2 = b4 := by omega
  have n9 : ¬ b3 = b4 := by omega
  have n10 : ¬ b4 = b1 := by omega
  have n11 : ¬ b4 = b2 := by omega
  have n12 : ¬ b4 = b3 := by omega
  have hta : ∀ W : World, (Instr.typeAssert (.iface 51 (.int .i64 k)) 20 51 true).run Tryz.prog W = .ok (.tuple #[.int .i64 k, .bool true]) W := fun _ => by kernel_rfl
  obtain ⟨a, cap, rfl⟩ : ∃ a cap, v = .slice a ts.length cap := by
    obtain ⟨_, _, ⟨rfl, a, c, rfl⟩ | ⟨b, o, c, rfl, _⟩⟩ := ht
    · exact ⟨a, c, rfl⟩
    · exact ⟨_, c, rfl⟩
  have hlm := ht.1
  have fin : ∀ z, Below b1 w (((w.setCell ⟨b1, 0, none⟩ (.slice none 0 0)).setCell ⟨b2, 0, none⟩ z).setCell ⟨b3, 0, none⟩ (.int .i64 310)) := fun z =>
    (((Below.refl b1 w).setCell (p := ⟨b1, 0, none⟩) (Nat.le_refl _) _).setCell (p := ⟨b2, 0, none⟩) (by show b1 ≤ b2; omega) _).setCell (p := ⟨b3, 0, none⟩) (by show b1 ≤ b3; omega) _
  have Fin := Lib.hid fin
  clear fin
  by_cases hkt : k < ts.length
  · obtain ⟨_, _, ⟨rfl, _⟩ | ⟨b, o, c, he, hb, hr⟩⟩ := ht
    · simp at hkt
    obtain ⟨rfl, rfl⟩ : a = some ⟨b, o, none⟩ ∧ cap = c := by simpa using he
    obtain ⟨_, d1, _, d3⟩ := hr k hkt
    have m1 := far_one h1 d1
    have m2 := far_one h2 d1
    have m3 := far_one h3 d1
    clear d1
    have hP : placeT ts s.size k = ts[k].at_ := by unfold placeT; rw [List.getElem?_eq_getElem hkt]
    rw [hP]
    generalize ts[k].at_ = z at d3 ⊢
    have m4 : ¬ b = b1 := Ne.symm m1
    have m5 : ¬ b = b2 := Ne.symm m2
    have m6 : ¬ b = b3 := Ne.symm m3
    clear hr he hP h1 h2 h3
    have hlt : decide (k < ts.length) = true := by simpa using hkt
    refine callsD_of_wpS Tryz.func14 rfl fun c₀ cs hu => ?_
    apply wpS_seq
    apply wpS_region
    simp [wpOpsS, go_sem, recoverD, hu, Tryz.ntmps14, Exit.thenS]
    refine wpS_of_wp ?_
    generalize hQ : bodyPostS Tryz.prog Tryz.f14 c₀ cs _ = Q
    generalize hcs : (_ :: cs : List Frame) = cs'
    simp only [List.setIfInBounds_toArray, List.set_cons_zero, List.set_cons_succ, Array.replicate_succ, Array.replicate_zero, List.push_toArray, List.nil_append, List.cons_append, List.append_toArray]
    go_wp2
    rw [← hQ, ← hcs]
    refine ⟨rfl, _, rfl, _, results_none rfl _ _ _, rfl, rfl, ?_, ?_, ?_, ?_⟩
    · exact (Fin.out _).setCell (p := ⟨b2, 0, none⟩) (by show b1 ≤ b2; omega) _
    · simp [go_sem, c1]
    · exact World.cell?_setCell_same' _ _ _ (by simp [go_sem, c2])
    · simp [go_sem, c3]
  · have hP : placeT ts s.size k = s.size := by unfold placeT; rw [List.getElem?_eq_none (by omega)]
    rw [hP]
    have hlt : decide (k < ts.length) = false := by simpa using hkt
    clear ht hP h1 h2 h3
    refine callsD_of_wpS Tryz.func14 rfl fun c₀ cs hu => ?_
    apply wpS_seq
    apply wpS_region
    simp [wpOpsS, go_sem, recoverD, hu, Tryz.ntmps14, Exit.thenS]
    refine wpS_of_wp ?_
    generalize hQ : bodyPostS Tryz.prog Tryz.f14 c₀ cs _ = Q
    generalize hcs : (_ :: cs : List Frame) = cs'
    simp only [List.setIfInBounds_toArray, List.set_cons_zero, List.set_cons_succ, Array.replicate_succ, Array.replicate_zero, List.push_toArray, List.nil_append, List.cons_append, List.append_toArray]
    go_wp2
    rw [← hQ, ← hcs]
    refine ⟨rfl, _, rfl, _, results_none rfl _ _ _, rfl, rfl, ?_, ?_, ?_, ?_⟩
    · exact Fin.out _
    · simp [go_sem, c1]
    · simp [go_sem, c2]
    · simp [go_sem, c3]

set_option maxRecDepth 100000 in
theorem wrong_idle (p0 p1 p2 p3 p4 : Addr) (w : World) :
    CallsD Tryz.prog 14 #[.pointer (some p0), .pointer (some p1), .pointer (some p2), .pointer (some p3), .pointer (some p4)] .returning w fun e u' w' => e = .returned (.tuple #[]) ∧ u' = .returning ∧ w' = w := by
  refine callsD_of_wpS Tryz.func14 rfl fun c₀ cs hu => ?_
  apply wpS_seq
  apply wpS_region
  simp [wpOpsS, go_sem, recoverD, hu, Tryz.ntmps14, Exit.thenS]
  refine wpS_of_wp ?_
  generalize hQ : bodyPostS Tryz.prog Tryz.f14 c₀ cs _ = Q
  simp only [List.setIfInBounds_toArray, List.set_cons_zero, List.set_cons_succ, Array.replicate_succ, Array.replicate_zero, List.push_toArray, List.nil_append, List.cons_append, List.append_toArray]
  go_wp2
  change Q _ _ (c₀ :: cs) _
  rw [← hQ]
  refine ⟨rfl, .returning, ?_, _, results_none rfl _ _ _, rfl, rfl, rfl⟩
  rw [← hu]

end Go.Proofs.YtlaifodlnolndaaGreatDoor

/- Lines of the call's own, as they are read. -/
namespace Go.Proofs.YtlaifodlnolndaaGreatDoor
open Go.RowKit

def lnCells (x : Value × Ln) : List Value := [x.1, .int .i64 x.2.set]
def OwnLns (B : Nat) (w : World) (v : Value) (ls : List Ln) : Prop :=
  ∃ xs : List (Value × Ln), ls = xs.map (·.2) ∧ w.ownsRow B 35 2 v xs.length (xs.flatMap lnCells) ∧ ∀ x ∈ xs, OwnCds B w x.1 x.2.conds
theorem own_far {B B' : Nat} {w : World} {v v' : Value} {n : Nat} {xs : List Value} {cs : List Cd} (h : w.ownsRow B 35 2 v n xs) (hc : OwnCds B' w v' cs) : v'.ownBlock = none ∨ v'.ownBlock ≠ v.ownBlock := by
  rcases hc.2 with ⟨rfl, _⟩ | ⟨g, cap, cur, rfl, _, hg, _⟩
  · exact .inl rfl
  · right
    intro e
    rcases h.2 with ⟨rfl, _⟩ | ⟨g', cap', cur', rfl, _, hg', _⟩
    · simp [Value.ownBlock] at e
    · simp only [Value.ownBlock, Option.some.injEq] at e
      subst e
      rw [hg] at hg'
      simp at hg'
theorem OwnLns.kept {B : Nat} {w w' : World} {v : Value} {ls : List Ln} (h : OwnLns B w v ls) {row : Option Nat} (hg : w.grownBy w' row) (hne : ∀ b, row = some b → b < B) : OwnLns B w' v ls := by
  obtain ⟨xs, h1, h2, h3⟩ := h
  refine ⟨xs, h1, World.ownsRow.kept h2 hg ?_, fun x hx => (h3 x hx).kept hg hne⟩
  cases hv : v.ownBlock with
  | none => exact .inl rfl
  | some b =>
    refine .inr fun e => ?_
    have := (World.ownsRow.lt h2 b hv).1
    have := hne b e.symm
    omega
theorem OwnLns.form {B : Nat} {w : World} {v : Value} {ls : List Ln} (h : OwnLns B w v ls) : ∃ a c, v = .slice a ls.length c := by
  obtain ⟨xs, rfl, h2, _⟩ := h
  rw [List.length_map]
  rcases h2.2 with ⟨rfl, hn⟩ | ⟨g, cap, cur, rfl, _⟩
  · exact ⟨none, 0, by rw [hn]⟩
  · exact ⟨_, _, rfl⟩
theorem OwnLns.lt {B : Nat} {w : World} {v : Value} {ls : List Ln} (h : OwnLns B w v ls) : ∀ k, v.ownBlock = some k → B ≤ k ∧ k < w.heap.size := by
  obtain ⟨xs, _, h2, _⟩ := h
  exact World.ownsRow.lt h2
theorem ownLns_nil (B : Nat) (w : World) : OwnLns B w (.slice none 0 0) [] := ⟨[], rfl, World.ownsRow_nil _ _ _ _, fun _ h => by simp at h⟩

theorem Tryz.info35 : (Tryz.prog.info? 35).map (fun i => (i.zero, i.size, i.bytes)) = some (some (.agg #[.slice none 0 0, .int .i64 0]), 2, 32) := by kernel_rfl
/- append of a line that lies in a block laid just now -/
theorem step_append_line {ops : Array Oper} {o : Oper} {a : Act} {K : Act → World → Prop} {Q : Exit → Act → World → Prop} {E : Prop} {W : World} (w : World) (B : Nat) (hgd : o.guard = none) (s x : Operand)
    (ho : o.op = .call { callee := .builtin .append, args := #[s, x], argTypes := #[23, 23] }) (v : Value) (ls : List Ln) (hs : a.eval s = v) (hown : OwnLns B w v ls)
    (vc : Value) (l : Ln) (hc : OwnCds B w vc l.conds) (b : Nat) (hb : b = w.heap.size) (hx : a.eval x = .slice (some ⟨b, 0, none⟩) 1 1) (hlen : ls.length ≤ 1000000) (hbase : B ≤ w.heap.size) (hW : W = w.alloc (.cells #[vc, .int .i64 l.set] 35))
    (h : ∀ (ad : Option Addr) (n c : Nat) w', OwnLns B w' (.slice ad n c) (ls ++ [l]) → (w.alloc (.cells #[vc, .int .i64 l.set] 35)).grownBy w' v.ownBlock → K (a.put o.dst (.slice ad n c)) w') :
    if Region.wanted o (yielded ops a.tmps) = true then Oper.wp Tryz.prog o a W K Q else E := by
  have hw : Region.wanted o (yielded ops a.tmps) = true := by simp [Region.wanted, hgd]
  rw [if_pos hw]
  subst hW hb
  obtain ⟨i0, hi, hz0, hz1, hz2⟩ := info_parts Tryz.info35
  have hal := World.grownBy_alloc w (.cells #[vc, .int .i64 l.set] 35) none
  obtain ⟨xs, rfl, h2, h3⟩ := hown.kept hal (fun b e => by cases e)
  have hc2 := hc.kept hal (fun b e => by cases e)
  rw [List.length_map] at hlen
  obtain ⟨vcs, vcn, vcc, rfl⟩ : ∃ a n c, vc = .slice a n c := by
    obtain ⟨a, c, rfl⟩ := hc.form
    exact ⟨_, _, _, rfl⟩
  refine wp_append_own (w.alloc (.cells #[.slice vcs vcn vcc, .int .i64 l.set] 35)) s x 23 ho B 35 i0 _ 2 32 Tryz.underlying23 hi hz0 hz1 hz2 rfl (by decide) v xs.length _ hs h2 ⟨w.heap.size, 0, none⟩ 1 1 [.slice vcs vcn vcc, .int .i64 l.set] hx rfl ?_ ?_ (by unfold maxLen; omega) (by omega) (by simp; omega) ?_
  · intro j u hj
    match j, hj with
    | 0, hj => simp at hj; subst hj; simp [Addr.add, go_sem]
    | 1, hj => simp at hj; subst hj; simp [Addr.add, go_sem]
    | j + 2, hj => simp at hj
  · intro u hu
    simp at hu
    rcases hu with rfl | rfl <;> rfl
  · intro v' w' hown' hg _
    have ho2 : OwnLns B w' v' (xs.map (·.2) ++ [l]) := by
      refine ⟨xs ++ [(.slice vcs vcn vcc, l)], by simp, ?_, fun y hy => ?_⟩
      · rw [List.length_append, List.flatMap_append]
        exact hown'
      · rcases List.mem_append.1 hy with hy | hy
        · exact World.ownsRow.kept (h3 y hy) hg (own_far h2 (h3 y hy))
        · obtain rfl := List.mem_singleton.1 hy
          exact World.ownsRow.kept hc2 hg (own_far h2 hc2)
    obtain ⟨ad, c, rfl⟩ := ho2.form
    exact h ad _ c w' ho2 ⟨hg.os, hg.tape, hg.output, hg.size, hg.block⟩

/- what has been read, as data in memory -/
theorem OwnCds.isCds {B : Nat} {w : World} {v : Value} {cs : List Cd} (h : OwnCds B w v cs) (hlen : cs.length ≤ 1000000) : IsCds w v cs := by
  refine ⟨by omega, ?_⟩
  obtain ⟨a, c, rfl⟩ := h.form
  refine ⟨a, c, rfl, fun i hi => ?_⟩
  have h0 := h
  rcases h.2 with ⟨e, hn⟩ | ⟨g, cap, cur, e, _, hg, _⟩
  · omega
  · obtain ⟨rfl, _, rfl⟩ : a = some ⟨g, 0, none⟩ ∧ True ∧ c = cap := by simpa using e
    refine ⟨g, 0, rfl, (Array.getElem?_eq_some_iff.1 hg).1, ?_⟩
    have hc := World.ownsRow.cells h0 (g := g) rfl
    have key : ∀ (l : List Cd) (i : Nat) (h : i < l.length) (j : Nat), j < 3 → (l.flatMap Cd.cells)[i * 3 + j]? = l[i].cells[j]? := by
      intro l
      induction l with
      | nil => intro i h; simp at h
      | cons t r ih =>
        intro i h j hj
        rw [List.flatMap_cons]
        cases i with
        | zero => rw [List.getElem?_append_left (by unfold Cd.cells; simp; omega)]; simp
        | succ i =>
          rw [List.getElem?_append_right (by unfold Cd.cells; simp; omega)]
          have : (i + 1) * 3 + j - t.cells.length = i * 3 + j := by unfold Cd.cells; simp; omega
          rw [this, ih i (by simpa using h) j hj]; rfl
    have addr : ∀ k, (⟨g, 0, none⟩ : Addr).add k = ⟨g, 0 + k, none⟩ := fun k => by unfold Addr.add; split <;> simp_all
    refine ⟨?_, ?_, ?_⟩
    · have := hc (i * 3 + 0) _ ((key cs i hi 0 (by omega)).trans rfl); rw [addr] at this; exact this
    · have := hc (i * 3 + 1) _ ((key cs i hi 1 (by omega)).trans rfl); rw [addr] at this; exact this
    · have := hc (i * 3 + 2) _ ((key cs i hi 2 (by omega)).trans rfl); rw [addr] at this; exact this
theorem OwnLns.isLns {B : Nat} {w : World} {v : Value} {ls : List Ln} (h : OwnLns B w v ls) (hlen : ls.length ≤ 1000000) (hcs : ∀ x ∈ ls, x.conds.length ≤ 1000000) : IsLns w v ls := by
  refine ⟨by omega, ?_⟩
  obtain ⟨a, c, rfl⟩ := h.form
  refine ⟨a, c, rfl, fun i hi => ?_⟩
  obtain ⟨xs, rfl, h2, h3⟩ := h
  rw [List.length_map] at hi h2
  rcases h2.2 with ⟨e, hn⟩ | ⟨g, cap, cur, e, _, hg, _⟩
  · omega
  · obtain ⟨rfl, rfl⟩ : a = some ⟨g, 0, none⟩ ∧ c = cap := by
      simp only [Value.slice.injEq] at e
      exact ⟨e.1, e.2.2⟩
    refine ⟨g, 0, rfl, (Array.getElem?_eq_some_iff.1 hg).1, ?_⟩
    have hc := World.ownsRow.cells h2 (g := g) rfl
    have key : ∀ (l : List (Value × Ln)) (i : Nat) (h : i < l.length) (j : Nat), j < 2 → (l.flatMap lnCells)[i * 2 + j]? = (lnCells l[i])[j]? := by
      intro l
      induction l with
      | nil => intro i h; simp at h
      | cons t r ih =>
        intro i h j hj
        rw [List.flatMap_cons]
        cases i with
        | zero => rw [List.getElem?_append_left (by unfold lnCells; simp; omega)]; simp
        | succ i =>
          rw [List.getElem?_append_right (by unfold lnCells; simp; omega)]
          have : (i + 1) * 2 + j - (lnCells t).length = i * 2 + j := by unfold lnCells; simp; omega
          rw [this, ih i (by simpa using h) j hj]; rfl
    have addr : ∀ k, (⟨g, 0, none⟩ : Addr).add k = ⟨g, 0 + k, none⟩ := fun k => by unfold Addr.add; split <;> simp_all
    have hm := List.getElem_mem hi
    have e0 : (xs.map (·.2))[i]'(by simpa using hi) = xs[i].2 := by simp
    rw [e0]
    refine ⟨xs[i].1, ?_, (h3 _ hm).isCds (hcs _ (List.mem_map.2 ⟨_, hm, rfl⟩)), ?_⟩
    · have := hc (i * 2 + 0) _ ((key xs i hi 0 (by omega)).trans rfl); rw [addr] at this; exact this
    · have := hc (i * 2 + 1) _ ((key xs i hi 1 (by omega)).trans rfl); rw [addr] at this; exact this

end Go.Proofs.YtlaifodlnolndaaGreatDoor

/- Parse: its plain meaning, the map of words as it is filled, the state of its loop. -/
namespace Go.Proofs.YtlaifodlnolndaaGreatDoor
open Go.RowKit Go.Maps Go.ChangeMaps Go.WideMaps

/- what Parse answers: lines, a place, an error -/
def parseR (s : List UInt8) : List Ln × Int × Int := match scan s 0 with
  | .error k => ([], (k : Int), 30)
  | .ok ts => match pLines 64 ts with
    | .ok ls => (ls, 0, 0)
    | .error q => ([], placeT ts s.length (ts.length - q.length), 310)
def linesThen (n : Nat) (ls : List Ln) (l : List Tok) : Except (List Tok) (List Ln) := match pLines n l with
  | .error e => .error e
  | .ok q => .ok (ls ++ q)
theorem linesThen_done {n : Nat} {ls : List Ln} {ts : List Tok} {k : Nat} (h : ¬ k < ts.length) : linesThen n ls (ts.drop k) = .ok ls := by
  rw [List.drop_eq_nil_of_le (by omega), linesThen, pLines]
  simp
theorem linesThen_full {ls : List Ln} {ts : List Tok} {k : Nat} (h : k < ts.length) : linesThen 0 ls (ts.drop k) = .error (ts.drop k) := by
  rw [List.drop_eq_getElem_cons h, linesThen, pLines]
theorem linesThen_err {n : Nat} {ls : List Ln} {ts q : List Tok} {k : Nat} (h : k < ts.length) (hp : pLine (ts.drop k) = .error q) : linesThen (n + 1) ls (ts.drop k) = .error q := by
  rw [List.drop_eq_getElem_cons h] at hp ⊢
  rw [linesThen, pLines, hp]
theorem linesThen_ok {n : Nat} {ls : List Ln} {ts q : List Tok} {x : Ln} {k : Nat} (h : k < ts.length) (hp : pLine (ts.drop k) = .ok (x, q)) : linesThen (n + 1) ls (ts.drop k) = linesThen n (ls ++ [x]) q := by
  rw [List.drop_eq_getElem_cons h] at hp ⊢
  simp only [linesThen, pLines, hp]
  cases pLines n q <;> simp

/- the map of words while it is filled -/
theorem wordsD_snoc : ∀ (l : List (List UInt8 × Int)) (x : List UInt8 × Int) (D : DataW Unit), wordsD (l ++ [x]) D = (wordsD l D).put (.string x.1) (.lit (.int .i64 x.2))
  | [], _, _ => rfl
  | _ :: r, x, _ => wordsD_snoc r x _
def MapN (w : World) (m j : Nat) : Prop := w.ownsMap Tryz.prog 9 (plainElem Tryz.prog 3) m j (wordsD (allWords.take j) (.map []))
theorem MapN.put {w : World} {m j : Nat} {x : List UInt8 × Int} (hx : allWords[j]? = some x) (h : w.ownsMap Tryz.prog 9 (plainElem Tryz.prog 3) m (j + 1) ((wordsD (allWords.take j) (.map [])).put (.string x.1) (.lit (.int .i64 x.2)))) : MapN w m (j + 1) := by
  unfold MapN
  obtain ⟨hlt, he⟩ := List.getElem?_eq_some_iff.1 hx
  rw [List.take_succ_eq_append_getElem hlt, wordsD_snoc, he]
  exact h

/- the tokens lie in a block below P -/
def TokB (P : Nat) (v : Value) (ts : List Tok) : Prop := ts = [] ∨ ∃ q o n c, v = .slice (some ⟨q, o, none⟩) n c ∧ q < P
theorem IsToks.tokB {w : World} {v : Value} {ts : List Tok} (h : IsToks w v ts) : TokB w.heap.size v ts := by
  obtain ⟨_, _, ⟨rfl, _⟩ | ⟨b, o, c, rfl, hlt, _⟩⟩ := h
  · exact .inl rfl
  · exact .inr ⟨b, o, _, c, rfl, hlt⟩
/- what holds while lines are read -/
structure PSt (w : World) (b L M P : Nat) (s : ByteArray) (v : Value) (ts : List Tok) (k : Nat) (ls : List Ln) (vl : Value) (wr : World) : Prop where
  below : Below b w wr
  src : wr.heap[b]? = some (.cells #[.string s] 9 (0, 0))
  code : wr.heap[b + 1]? = some (.cells #[vl] 25 (0, 0))
  at_ : wr.heap[b + 2]? = some (.cells #[.int .i64 0] 3 (0, 0))
  err : wr.heap[b + 3]? = some (.cells #[.int .i64 0] 26 (0, 0))
  toks : wr.heap[L]? = some (.cells #[v] 42 (0, 0))
  is : IsToks wr v ts
  map : MapW wr M
  par : PAt wr P v k
  own : OwnLns (P + 1) wr vl ls
  tb : TokB P v ts
theorem IsToks.kept1 {w w' : World} {P c : Nat} {u : Value} {t : TypeId} {v : Value} {ts : List Tok} (h : IsToks w v ts) (hB : TokB P v ts) (hc : w.heap[c]? = some (.cells #[u] t (0, 0))) (hz : w.heap.size ≤ w'.heap.size) (hs : ∀ q, q < P → q < w.heap.size → q ≠ c → w'.heap[q]? = w.heap[q]?) : IsToks w' v ts := by
  obtain ⟨h1, h2, h3 | ⟨b, o, cp, hv, hlt, hr⟩⟩ := h
  · exact ⟨h1, h2, .inl h3⟩
  · rcases hB with rfl | ⟨q, o', n', c', hv', hq⟩
    · exact ⟨h1, h2, .inl ⟨rfl, _, _, hv⟩⟩
    · cases ts with
      | nil => exact ⟨h1, h2, .inl ⟨rfl, _, _, hv⟩⟩
      | cons t0 r =>
        obtain rfl : b = q := by
          rw [hv] at hv'
          simp only [Value.slice.injEq, Option.some.injEq, Addr.mk.injEq] at hv'
          exact hv'.1.1
        have hne := far_one hc (hr 0 (by simp)).2.1
        have hb := hs b hq hlt (Ne.symm hne)
        refine ⟨h1, h2, .inr ⟨b, o, cp, hv, Nat.lt_of_lt_of_le hlt hz, fun i hi => ?_⟩⟩
        obtain ⟨a0, a1, a2, a3⟩ := hr i hi
        exact ⟨(World.cell?_of_block (a := ⟨b, _, none⟩) hb).trans a0, (World.cell?_of_block (a := ⟨b, _, none⟩) hb).trans a1, (World.cell?_of_block (a := ⟨b, _, none⟩) hb).trans a2, (World.cell?_of_block (a := ⟨b, _, none⟩) hb).trans a3⟩
section
variable {w wr w2 : World} {b L M P k k2 : Nat} {s : ByteArray} {v vl vl2 : Value} {ts : List Tok} {ls ls2 : List Ln}
theorem PSt.next (h : PSt w b L M P s v ts k ls vl wr) (h1 : b + 3 < L) (h2 : L < M) (h3 : M < P) (hp : PAt w2 P v k2) (hg : wr.grownBy w2 (some P)) : PSt w b L M P s v ts k2 ls vl w2 := by
  have blk : ∀ {c : Nat} {o : Obj}, c ≠ P → wr.heap[c]? = some o → w2.heap[c]? = some o := fun {c o} hc ho => (hg.block c (Array.getElem?_eq_some_iff.1 ho).1 (by simpa using hc)).trans ho
  have hbl := h.below
  refine ⟨⟨hg.os.trans hbl.os, hg.tape.trans hbl.tape, hg.output.trans hbl.output, Nat.le_trans hbl.size hg.size, fun i hi => ?_⟩, blk (by omega) h.src, blk (by omega) h.code, blk (by omega) h.at_, blk (by omega) h.err, blk (by omega) h.toks,
    h.is.kept h.par hg, World.ownsMap.kept h.map hg (by simp; omega), hp, h.own.kept hg (fun q e => by simp at e; omega), h.tb⟩
  have := (Array.getElem?_eq_some_iff.1 h.src).1
  rw [hg.block i (by omega) (by simp; omega)]
  exact hbl.block i hi
theorem PSt.grow (h : PSt w b L M P s v ts k ls vl wr) (h1 : b + 3 < L) (h2 : L < M) (h3 : M < P) (hb : Below wr.heap.size wr w2) : PSt w b L M P s v ts k ls vl w2 := h.next h1 h2 h3 (h.par.below hb) (grownBy_below hb _)
theorem PSt.append (h : PSt w b L M P s v ts k ls vl wr) (h1 : b + 3 < L) (h2 : L < M) (h3 : M < P) (ho : OwnLns (P + 1) w2 vl2 ls2) (hg : wr.grownBy w2 vl.ownBlock) : PSt w b L M P s v ts k ls2 vl2 (w2.setCell ⟨b + 1, 0, none⟩ vl2) := by
  have hown : ∀ q, vl.ownBlock = some q → P + 1 ≤ q := fun q hq => (h.own.lt q hq).1
  have hP := (Array.getElem?_eq_some_iff.1 h.par).1
  have blk : ∀ {c : Nat} {o : Obj}, c ≤ P → wr.heap[c]? = some o → w2.heap[c]? = some o := fun {c o} hc ho => (hg.block c (Array.getElem?_eq_some_iff.1 ho).1 (fun e => by have := hown c e.symm; omega)).trans ho
  have set : ∀ {c : Nat} {o : Obj}, c ≤ P → c ≠ b + 1 → wr.heap[c]? = some o → (w2.setCell ⟨b + 1, 0, none⟩ vl2).heap[c]? = some o := fun {c o} hc hn ho => (heap_setCell_other w2 ⟨b + 1, 0, none⟩ c vl2 hn).trans (blk hc ho)
  have hbl := h.below
  have hC := blk (by omega) h.code
  have hgs := grown_set w2 (b + 1) 0 vl2
  have same : ∀ q, q ≤ P → q < wr.heap.size → q ≠ b + 1 → (w2.setCell ⟨b + 1, 0, none⟩ vl2).heap[q]? = wr.heap[q]? := fun q h1 h2 h3 => (heap_setCell_other w2 ⟨b + 1, 0, none⟩ q vl2 h3).trans (hg.block q h2 (fun e => by have := hown q e.symm; omega))
  have hz : wr.heap.size ≤ (w2.setCell ⟨b + 1, 0, none⟩ vl2).heap.size := by have := hg.size; simpa using this
  refine ⟨⟨hg.os.trans hbl.os, hg.tape.trans hbl.tape, hg.output.trans hbl.output, Nat.le_trans hbl.size hz, fun i hi => ?_⟩, set (by omega) (by omega) h.src, ?_, set (by omega) (by omega) h.at_, set (by omega) (by omega) h.err, set (by omega) (by omega) h.toks,
    h.is.kept1 h.tb h.code hz (fun q h1 h2 h3 => same q (by omega) h2 h3), ?_, ?_, ho.kept hgs (fun q e => by simp at e; omega), h.tb⟩
  · have := (Array.getElem?_eq_some_iff.1 h.src).1
    rw [same i (by omega) (by omega) (by omega)]
    exact hbl.block i hi
  · simp [World.setCell, Array.getElem?_modify, hC]
  · refine World.ownsMap.kept (World.ownsMap.kept h.map hg fun e => ?_) hgs (by simp; omega)
    have := hown M e.symm; omega
  · exact set (Nat.le_refl _) (by omega) h.par
end

end Go.Proofs.YtlaifodlnolndaaGreatDoor

/- Parse: the walk where the text has an error of the scanner's. -/
namespace Go.Proofs.YtlaifodlnolndaaGreatDoor
open Go.RowKit Go.Maps Go.ChangeMaps Go.WideMaps

/- how Parse ends -/
def ParseEnd (w : World) (r : List Ln × Int × Int) (e : Ending) (w' : World) : Prop :=
  Below w.heap.size w w' ∧ ∃ v, e = .returned (.tuple #[.agg #[v], .int .i64 r.2.1, .int .i64 r.2.2]) ∧ IsLns w' v r.1
theorem isLns_nil (w : World) : IsLns w (.slice none 0 0) [] := ⟨by simp, none, 0, rfl, fun i h => by simp at h⟩
theorem four (w : World) (o0 o1 o2 o3 : Obj) :
    ((((w.alloc o0).alloc o1).alloc o2).alloc o3).heap[w.heap.size]? = some o0 ∧ ((((w.alloc o0).alloc o1).alloc o2).alloc o3).heap[w.heap.size + 1]? = some o1 ∧
    ((((w.alloc o0).alloc o1).alloc o2).alloc o3).heap[w.heap.size + 2]? = some o2 ∧ ((((w.alloc o0).alloc o1).alloc o2).alloc o3).heap[w.heap.size + 3]? = some o3 ∧
    Below w.heap.size w ((((w.alloc o0).alloc o1).alloc o2).alloc o3) ∧ ((((w.alloc o0).alloc o1).alloc o2).alloc o3).heap.size = w.heap.size + 4 := by
  refine ⟨?_, ?_, ?_, ?_, ?_, by simp⟩
  · exact heap_old _ _ _ _ (heap_old _ _ _ _ (heap_old _ _ _ _ (heap_new _ _ _ rfl)))
  · exact heap_old _ _ _ _ (heap_old _ _ _ _ (heap_new _ _ _ (by simp)))
  · exact heap_old _ _ _ _ (heap_new _ _ _ (by simp))
  · exact heap_new _ _ _ (by simp)
  · exact ((((Below.refl _ w).alloc (Nat.le_refl _) _).alloc (by simp) _).alloc (by simp; omega) _).alloc (by simp; omega) _

/- the variables of Parse's own -/
structure Four (b : Nat) (s : ByteArray) (vl va ve : Value) (w : World) : Prop where
  src : w.heap[b]? = some (.cells #[.string s] 9 (0, 0))
  code : w.heap[b + 1]? = some (.cells #[vl] 25 (0, 0))
  at_ : w.heap[b + 2]? = some (.cells #[va] 3 (0, 0))
  err : w.heap[b + 3]? = some (.cells #[ve] 26 (0, 0))
section
variable {b : Nat} {s : ByteArray} {vl va ve : Value} {w w' : World}
theorem Four.cells (h : Four b s vl va ve w) : w.cell? ⟨b, 0, none⟩ = some (.string s) ∧ w.cell? ⟨b + 1, 0, none⟩ = some vl ∧ w.cell? ⟨b + 2, 0, none⟩ = some va ∧ w.cell? ⟨b + 3, 0, none⟩ = some ve ∧
    w.frozen? ⟨b + 1, 0, none⟩ = false ∧ w.frozen? ⟨b + 2, 0, none⟩ = false ∧ w.frozen? ⟨b + 3, 0, none⟩ = false := by
  obtain ⟨h0, h1, h2, h3⟩ := h
  exact ⟨by simp [World.cell?, h0], by simp [World.cell?, h1], by simp [World.cell?, h2], by simp [World.cell?, h3], by simp [World.frozen?, h1], by simp [World.frozen?, h2], by simp [World.frozen?, h3]⟩
theorem Four.below {B : Nat} (h : Four b s vl va ve w) (hb : Below B w w') (hB : b + 4 ≤ B) : Four b s vl va ve w' :=
  ⟨heap_at h.src hb (by omega), heap_at h.code hb (by omega), heap_at h.at_ hb (by omega), heap_at h.err hb (by omega)⟩
theorem Four.set (h : Four b s vl va ve w) (ua ue : Value) : Four b s vl ua ue ((w.setCell ⟨b + 2, 0, none⟩ ua).setCell ⟨b + 3, 0, none⟩ ue) := by
  obtain ⟨h0, h1, h2, h3⟩ := h
  refine ⟨?_, ?_, ?_, ?_⟩ <;> simp [World.setCell, Array.getElem?_modify, *]
theorem Four.code1 (h : Four b s vl va ve w) (u : Value) : Four b s u va ve (w.setCell ⟨b + 1, 0, none⟩ u) := by
  obtain ⟨h0, h1, h2, h3⟩ := h
  refine ⟨?_, ?_, ?_, ?_⟩ <;> simp [World.setCell, Array.getElem?_modify, *]
theorem set_below (w : World) (ua ue : Value) : Below b w ((w.setCell ⟨b + 2, 0, none⟩ ua).setCell ⟨b + 3, 0, none⟩ ue) :=
  ((Below.refl b w).setCell (p := ⟨b + 2, 0, none⟩) (by show b ≤ b + 2; omega) _).setCell (p := ⟨b + 3, 0, none⟩) (by show b ≤ b + 3; omega) _
end

set_option maxRecDepth 100000 in
set_option maxHeartbeats 4000000 in
theorem parse_err (s : ByteArray) (k : Nat) (h : scan s.data.toList 0 = .error k) (w : World) (hs : s.size ≤ 65536) (hG : Globals w) :
    Calls Tryz.prog 5 #[.string s] w (ParseEnd w ([], (k : Int), 30)) := by
  have hmf : ∀ (fn : Fn) (first cap : Array Value) (w : World), (Instr.makeFunc fn first cap).run Tryz.prog w = .ok (.func fn first cap) w := fun _ _ _ _ => rfl
  have HG := Lib.hid hG
  have HL := Lib.hid (fun w => lex_err s k h w hs)
  clear hG h
  go_enter_defers Tryz.func5, Tryz.ntmps5
  go_wp2_with fail
  have h4 := four w (.cells #[.string s] 9) (.cells #[.slice none 0 0] 25) (.cells #[.int .i64 0] 3) (.cells #[.int .i64 0] 26)
  generalize ((((w.alloc (.cells #[.string s] 9)).alloc (.cells #[.slice none 0 0] 25)).alloc (.cells #[.int .i64 0] 3)).alloc (.cells #[.int .i64 0] 26)) = w0 at h4 ⊢
  obtain ⟨h0, h1, h2, h3, hb, hz⟩ := h4
  rw [show w.heap.size + 1 + 1 + 1 = w.heap.size + 3 from rfl, show w.heap.size + 1 + 1 = w.heap.size + 2 from rfl]
  with_reducible refine (HL.out w0 (HG.out.below hb (globals_size HG.out))).mono ?_
  rintro e w1 ⟨rfl, hb1⟩
  have hb3 : Below w0.heap.size w0 (w1.alloc (.cells #[.slice none 0 0] 42)) := hb1.alloc hb1.size _
  have HF1 := Lib.hid ((⟨h0, h1, h2, h3⟩ : Four w.heap.size s (.slice none 0 0) (.int .i64 0) (.int .i64 0) w0).below hb3 (by omega))
  have HB1 := Lib.hid (hb.trans (hb3.mono (by omega)))
  have hw1 : w.heap.size + 4 ≤ w1.heap.size := by have := hb1.size; omega
  have hn1 : w1.heap.size ≠ w.heap.size + 2 := by omega
  have hn2 : w1.heap.size ≠ w.heap.size + 3 := by omega
  clear h0 h1 h2 h3 hb hz hb1 hb3
  obtain ⟨c0, c1, c2, c3, f1, f2, f3⟩ := HF1.out.cells
  generalize hb : w.heap.size = b at *
  have Hb := Lib.hid hb
  clear hb
  have HF2 := Lib.hid (HF1.out.set (.int .i64 k) (.int .i64 30))
  have HB2 := Lib.hid (HB1.out.trans (set_below _ (.int .i64 k) (.int .i64 30)))
  obtain ⟨q0, q1, q2, q3, g1, g2, g3⟩ := HF2.out.cells
  go_wp2_with fail
  generalize (((w1.alloc (.cells #[.slice none 0 0] 42)).setCell ⟨b + 2, 0, none⟩ (.int .i64 k)).setCell ⟨b + 3, 0, none⟩ (.int .i64 30)) = w3 at HF2 HB2 q0 q1 q2 q3 g1 g2 g3 ⊢
  clear c0 c1 c2 c3 f1 f2 f3 HF1 HB1
  go_region
  all_goals
    go_wp2
    have HF4 := Lib.hid (((HF2.out.code1 (.slice none 0 0)).set (.int .i64 k) (.int .i64 30)))
    have HB4 := Lib.hid ((HB2.out.setCell (p := ⟨b + 1, 0, none⟩) (by show b ≤ b + 1; omega) (.slice none 0 0)).trans (set_below _ (.int .i64 k) (.int .i64 30)))
    obtain ⟨x0, x1, x2, x3, _⟩ := HF4.out.cells
    generalize (((w3.setCell ⟨b + 1, 0, none⟩ (.slice none 0 0)).setCell ⟨b + 2, 0, none⟩ (.int .i64 k)).setCell ⟨b + 3, 0, none⟩ (.int .i64 30)) = w4 at HF4 HB4 x0 x1 x2 x3 ⊢
    have hend : ParseEnd w ([], (k : Int), 30) (.returned (.tuple #[.agg #[.slice none 0 0], .int .i64 k, .int .i64 30])) w4.drew := ⟨by rw [Hb.out]; exact HB4.out.drew, _, rfl, isLns_nil _⟩
    have Hend := Lib.hid hend
    clear hend
    simp [bodyPostD, Leaves, results, Tryz.results5, go_sem, x1, x2, x3]
    exact Hend.out

end Go.Proofs.YtlaifodlnolndaaGreatDoor

/- Parse: what its walk leans on. -/
namespace Go.Proofs.YtlaifodlnolndaaGreatDoor
open Go.RowKit Go.Maps Go.ChangeMaps Go.WideMaps

theorem str_at {w w' : World} {n0 j M g : Nat} {ws : List (List UInt8)} {n c : Nat} (h : WordsB n0 w (.slice (some ⟨g, 0, none⟩) n c) ws) (hg : w.grownBy w' (some M)) (hM : M < n0) (hj : j < ws.length) : w'.cell? ⟨g, j, none⟩ = some (.string ⟨(ws[j]).toArray⟩) := by
  obtain ⟨b, hv, hb, hh⟩ := h
  obtain rfl : g = b := by
    simp only [Value.slice.injEq, Option.some.injEq, Addr.mk.injEq] at hv
    exact hv.1.1
  have := (hg.block g (Array.getElem?_eq_some_iff.1 hh).1 (by simp; omega)).trans hh
  unfold World.cell?
  rw [this]
  simp [hj, strV]
theorem small_str {l : List UInt8} (h : l.length ≤ 8) : (⟨l.toArray⟩ : ByteArray).size ≤ maxLen := by
  have e : (⟨l.toArray⟩ : ByteArray).size = l.length := by simp [ByteArray.size]
  unfold maxLen; omega
theorem wf_small {n : Int} (h0 : 0 ≤ n) (h1 : n ≤ 10) : (Lit.int .i64 n).wf = true := by
  have h : n = 0 ∨ n = 1 ∨ n = 2 ∨ n = 3 ∨ n = 4 ∨ n = 5 ∨ n = 6 ∨ n = 7 ∨ n = 8 ∨ n = 9 ∨ n = 10 := by omega
  rcases h with rfl | rfl | rfl | rfl | rfl | rfl | rfl | rfl | rfl | rfl | rfl <;> rfl
theorem str_cell {w w' : World} {n0 j M : Nat} {v : Value} {ws : List (List UInt8)} (h : WordsB n0 w v ws) (hg : w.grownBy w' (some M)) (hM : M < n0) (hj : j < ws.length) : ∃ g, v = .slice (some ⟨g, 0, none⟩) ws.length ws.length ∧ w'.cell? ⟨g, j, none⟩ = some (.string ⟨(ws[j]).toArray⟩) := by
  obtain ⟨b, hv, hb, hh⟩ := h
  refine ⟨b, hv, ?_⟩
  have := (hg.block b (Array.getElem?_eq_some_iff.1 hh).1 (by simp; omega)).trans hh
  unfold World.cell?
  rw [this]
  simp [hj, strV]
theorem allWords_var {j : Nat} (h : j < 5) : allWords[j]? = some (varsW[j], (j : Int)) := by
  obtain rfl | rfl | rfl | rfl | rfl : j = 0 ∨ j = 1 ∨ j = 2 ∨ j = 3 ∨ j = 4 := by omega
  all_goals rfl
theorem allWords_op {j : Nat} (h : j < 5) : allWords[5 + j]? = some (opsW[j], (j : Int) + 1) := by
  obtain rfl | rfl | rfl | rfl | rfl : j = 0 ∨ j = 1 ∨ j = 2 ∨ j = 3 ∨ j = 4 := by omega
  all_goals rfl
theorem word_small {ws : List (List UInt8)} (h : ws.all (fun x => decide (x.length ≤ 8)) = true) {j : Nat} (hj : j < ws.length) : ws[j].length ≤ 8 := by
  rw [List.all_eq_true] at h
  simpa using h _ (List.getElem_mem hj)
theorem toks_set {W : World} {b : Nat} {s : ByteArray} {v vl va ve : Value} {ts : List Tok} (h : IsToks W v ts) (hf : Four b s vl va ve W) (ua ue : Value) : IsToks ((W.setCell ⟨b + 2, 0, none⟩ ua).setCell ⟨b + 3, 0, none⟩ ue) v ts := by
  have h1 : IsToks (W.setCell ⟨b + 2, 0, none⟩ ua) v ts := h.kept1 h.tokB hf.at_ (by simp) (fun q _ _ hq => heap_setCell_other W ⟨b + 2, 0, none⟩ q ua hq)
  have h3 : (W.setCell ⟨b + 2, 0, none⟩ ua).heap[b + 3]? = some (.cells #[ve] 26 (0, 0)) := (heap_setCell_other W ⟨b + 2, 0, none⟩ (b + 3) ua (by show b + 3 ≠ b + 2; omega)).trans hf.err
  exact h1.kept1 h1.tokB h3 (by simp) (fun q _ _ hq => heap_setCell_other _ ⟨b + 3, 0, none⟩ q ue hq)
theorem far_set {W : World} {b c : Nat} {o : Obj} (h : W.heap[c]? = some o) (hc : b + 4 ≤ c) (ua ue : Value) : ((W.setCell ⟨b + 2, 0, none⟩ ua).setCell ⟨b + 3, 0, none⟩ ue).heap[c]? = some o := by
  rw [heap_setCell_other _ ⟨b + 3, 0, none⟩ c ue (by show c ≠ b + 3; omega), heap_setCell_other _ ⟨b + 2, 0, none⟩ c ua (by show c ≠ b + 2; omega)]
  exact h
/- what holds while the map of words is filled -/
structure MSt (w : World) (b L M : Nat) (s : ByteArray) (v : Value) (ts : List Tok) (j : Nat) (wr : World) : Prop where
  below : Below b w wr
  four : Four b s (.slice none 0 0) (.int .i64 0) (.int .i64 0) wr
  toks : wr.heap[L]? = some (.cells #[v] 42 (0, 0))
  is : IsToks wr v ts
  map : MapN wr M j
section
variable {w wr w2 : World} {b L M j j2 : Nat} {s : ByteArray} {v : Value} {ts : List Tok}
theorem MSt.next (h : MSt w b L M s v ts j wr) (h1 : b + 3 < L) (h2 : L < M) (hB : TokB M v ts) (hm : MapN w2 M j2) (hg : wr.grownBy w2 (some M)) : MSt w b L M s v ts j2 w2 := by
  have blk : ∀ {c : Nat} {o : Obj}, c < M → wr.heap[c]? = some o → w2.heap[c]? = some o := fun {c o} hc ho => (hg.block c (Array.getElem?_eq_some_iff.1 ho).1 (by simp; omega)).trans ho
  have hbl := h.below
  have hf := h.four
  refine ⟨⟨hg.os.trans hbl.os, hg.tape.trans hbl.tape, hg.output.trans hbl.output, Nat.le_trans hbl.size hg.size, fun i hi => ?_⟩, ⟨blk (by omega) hf.src, blk (by omega) hf.code, blk (by omega) hf.at_, blk (by omega) hf.err⟩, blk h2 h.toks, ?_, hm⟩
  · have := (Array.getElem?_eq_some_iff.1 hf.src).1
    rw [hg.block i (by omega) (by simp; omega)]
    exact hbl.block i hi
  · exact h.is.kept1 hB hf.src hg.size (fun q hq hq2 _ => hg.block q hq2 (by simp; omega))
theorem MSt.grow (h : MSt w b L M s v ts j wr) (h1 : b + 3 < L) (h2 : L < M) (hB : TokB M v ts) (hb : Below wr.heap.size wr w2) : MSt w b L M s v ts j w2 :=
  h.next h1 h2 hB (World.ownsMap.kept h.map (grownBy_below hb none) (by simp)) (grownBy_below hb _)
end
theorem linesThen_start (ts : List Tok) : linesThen (64 - ([] : List Ln).length) [] (ts.drop 0) = pLines 64 ts := by
  show linesThen 64 [] ts = _
  unfold linesThen
  cases pLines 64 ts <;> simp
theorem vars_len : varsW.length = 5 := rfl
theorem ops_len : opsW.length = 5 := rfl
theorem mapN_10 {w : World} {m : Nat} (h : MapN w m 10) : MapW w m := h
theorem mapN_0 (w : World) : MapN (w.alloc (.map #[] 0)) w.heap.size 0 := World.ownsMap_made w Tryz.prog 9 (plainElem Tryz.prog 3)
/- what Parse answers, by the lines that were read -/
def endR (ts : List Tok) (n : Nat) (q : Except (List Tok) (List Ln)) : List Ln × Int × Int := match q with
  | .ok ls => (ls, 0, 0)
  | .error e => ([], placeT ts n (ts.length - e.length), 310)
theorem parseR_ok {s : ByteArray} {ts : List Tok} (h : scan s.data.toList 0 = .ok ts) : parseR s.data.toList = endR ts s.size (pLines 64 ts) := by
  unfold parseR endR
  rw [h]
  first
  | (simp only [length_toList]; done)
  | (simp only [length_toList]; cases pLines 64 ts <;> rfl)
theorem endR_err {ts : List Tok} {n k : Nat} (hk : k ≤ ts.length) : endR ts n (.error (ts.drop k)) = ([], placeT ts n k, 310) := by
  simp only [endR, List.length_drop, show ts.length - (ts.length - k) = k by omega]
theorem valid_bare {ts : List Tok} (h : ts.all validB = true) : Bare ts := fun t ht hk => by
  have hv := List.all_eq_true.1 h t ht
  rw [valid_number (by rw [hk]; rfl) (by rw [hk]; rfl)] at hv
  simp only [Bool.and_eq_true, List.isEmpty_iff] at hv
  exact hv.1
section
variable {w wr : World} {b L M P k : Nat} {s : ByteArray} {v vl : Value} {ts : List Tok} {ls : List Ln}
theorem MSt.lines (h : MSt w b L M s v ts 10 wr) (h1 : b + 3 < L) (h2 : L < M) (hB : TokB M v ts) : PSt w b L M wr.heap.size s v ts 0 [] (.slice none 0 0) (wr.alloc (.cells #[v, .int .i64 0] 50)) := by
  have hb : Below wr.heap.size wr (wr.alloc (.cells #[v, .int .i64 0] 50)) := (Below.refl _ _).alloc (Nat.le_refl _) _
  have h3 := h.grow h1 h2 hB hb
  have hM := World.ownsMap.lt (mapN_10 h.map)
  exact ⟨h3.below, h3.four.src, h3.four.code, h3.four.at_, h3.four.err, h3.toks, h3.is, mapN_10 h3.map, heap_new _ _ _ rfl, ownLns_nil _ _, hB.imp id fun ⟨q, o, n, c, e, hq⟩ => ⟨q, o, n, c, e, by omega⟩⟩
theorem PSt.cells (h : PSt w b L M P s v ts k ls vl wr) : wr.cell? ⟨b + 1, 0, none⟩ = some vl ∧ wr.cell? ⟨b + 2, 0, none⟩ = some (.int .i64 0) ∧ wr.cell? ⟨b + 3, 0, none⟩ = some (.int .i64 0) ∧ wr.cell? ⟨L, 0, none⟩ = some v ∧
    wr.frozen? ⟨b + 1, 0, none⟩ = false ∧ wr.frozen? ⟨b + 2, 0, none⟩ = false ∧ wr.frozen? ⟨b + 3, 0, none⟩ = false := by
  obtain ⟨_, _, h1, h2, h3, h4, _⟩ := h
  exact ⟨by simp [World.cell?, h1], by simp [World.cell?, h2], by simp [World.cell?, h3], by simp [World.cell?, h4], by simp [World.frozen?, h1], by simp [World.frozen?, h2], by simp [World.frozen?, h3]⟩
end
theorem line_returns {ts : List Tok} {p k0 : Nat} {v u : Value} {w w' : World} (h : LineEnd ts p v k0 w (pLine (ts.drop k0)) (.returned u) w') :
    ∃ x k vc, k ≤ ts.length ∧ k0 < k ∧ pLine (ts.drop k0) = .ok (x, ts.drop k) ∧ u = .agg #[vc, .int .i64 x.set] ∧ OwnCds w.heap.size w' vc x.conds ∧ PAt w' p v k ∧ w.grownBy w' (some p) := by
  cases hp : pLine (ts.drop k0) with
  | error q => rw [hp] at h; obtain ⟨_, _, _, e, _⟩ := h; cases e
  | ok y =>
    obtain ⟨x, q⟩ := y
    rw [hp] at h
    obtain ⟨k, vc, h1, h2, rfl, e, h4, h5, h6⟩ := h
    cases e
    exact ⟨x, k, vc, h1, h2, rfl, rfl, h4, h5, h6⟩
theorem line_panics {ts : List Tok} {p k0 : Nat} {v : Value} {ch : List PanicEntry} {w w' : World} (h : LineEnd ts p v k0 w (pLine (ts.drop k0)) (.panicked ch) w') :
    ∃ k, k ≤ ts.length ∧ pLine (ts.drop k0) = .error (ts.drop k) ∧ ch = [{ v := .iface 51 (.int .i64 k), recovered := false }] ∧ w.grownBy w' (some p) := by
  cases hp : pLine (ts.drop k0) with
  | error q =>
    rw [hp] at h
    obtain ⟨k, h1, rfl, e, h2⟩ := h
    cases e
    exact ⟨k, h1, rfl, rfl, h2⟩
  | ok y =>
    obtain ⟨x, q⟩ := y
    rw [hp] at h
    obtain ⟨_, _, _, _, _, e, _⟩ := h
    cases e
theorem line_ends {ts : List Tok} {p k0 : Nat} {v : Value} {w w' : World} : ¬ LineEnd ts p v k0 w (pLine (ts.drop k0)) .outgrown w' := by
  intro h
  cases hp : pLine (ts.drop k0) with
  | error q => rw [hp] at h; obtain ⟨_, _, _, e, _⟩ := h; cases e
  | ok y =>
    obtain ⟨x, q⟩ := y
    rw [hp] at h
    obtain ⟨_, _, _, _, _, e, _⟩ := h
    cases e
/- a call in a region that draws its order, by its contract -/
theorem step_call {ops : Array Oper} {o : Oper} {a : Act} {K : Act → World → Prop} {Q : Exit → Act → World → Prop} {E : Prop} {W : World} {R : Ending → World → Prop} {tt : Array TypeId} {x y : Operand} {u v : Value} (hgd : o.guard = none)
    (ho : o.op = .call { callee := .value (.func 16), args := #[x, y], argTypes := tt }) (hx : a.eval x = u) (hy : a.eval y = v) (hc : Calls Tryz.prog 16 #[u, v] W R)
    (hO : ∀ w', ¬ R .outgrown w') (hP : ∀ ch w', R (.panicked ch) w' → Q (.panic ch) a w') (hK : ∀ v w', R (.returned v) w' → K (a.put o.dst v) w') :
    if Region.wanted o (yielded ops a.tmps) = true then Oper.wp Tryz.prog o a W K Q else E := by
  have hw : Region.wanted o (yielded ops a.tmps) = true := by simp [Region.wanted, hgd]
  rw [if_pos hw]
  have hrun : (execOp a.eval o).run Tryz.prog W = .ok (.enter 16 #[u, v]) W := by
    simp [execOp, ho, resolve, invoke, go_sem]
    exact ⟨by simpa [go_sem] using hx, by simpa [go_sem] using hy⟩
  unfold Oper.wp
  rw [hrun]
  refine hc.mono ?_
  rintro (z | ch | _) w' hh
  · exact hK z w' hh
  · exact hP ch w' hh
  · exact (hO w' hh).elim
theorem PSt.app_cells {w wr w2 : World} {b L M P k : Nat} {s : ByteArray} {v vl : Value} {ts : List Tok} {ls : List Ln} (h : PSt w b L M P s v ts k ls vl wr) (h1 : b + 3 < L) (h2 : L < M) (h3 : M < P) (hg : wr.grownBy w2 vl.ownBlock) :
    w2.cell? ⟨b + 1, 0, none⟩ = some vl ∧ w2.frozen? ⟨b + 1, 0, none⟩ = false := by
  have hX : w2.heap[b + 1]? = some (.cells #[vl] 25 (0, 0)) := (hg.block (b + 1) (Array.getElem?_eq_some_iff.1 h.code).1 (fun e => by have := (h.own.lt (b + 1) e.symm).1; omega)).trans h.code
  exact ⟨by simp [World.cell?, hX], by simp [World.frozen?, hX]⟩
/- what the deferred function wants -/
structure DSt (w : World) (b L : Nat) (s : ByteArray) (v : Value) (ts : List Tok) (vl : Value) (wr : World) : Prop where
  below : Below b w wr
  src : wr.heap[b]? = some (.cells #[.string s] 9 (0, 0))
  code : wr.heap[b + 1]? = some (.cells #[vl] 25 (0, 0))
  at_ : wr.heap[b + 2]? = some (.cells #[.int .i64 0] 3 (0, 0))
  err : wr.heap[b + 3]? = some (.cells #[.int .i64 0] 26 (0, 0))
  toks : wr.heap[L]? = some (.cells #[v] 42 (0, 0))
  is : IsToks wr v ts
theorem PSt.door {w wr w2 : World} {b L M P k : Nat} {s : ByteArray} {v vl : Value} {ts : List Tok} {ls : List Ln} (h : PSt w b L M P s v ts k ls vl wr) (h1 : b + 3 < L) (h2 : L < M) (h3 : M < P) (hg : wr.grownBy w2 (some P)) : DSt w b L s v ts vl w2 := by
  have blk : ∀ {c : Nat} {o : Obj}, c ≠ P → wr.heap[c]? = some o → w2.heap[c]? = some o := fun {c o} hc ho => (hg.block c (Array.getElem?_eq_some_iff.1 ho).1 (by simpa using hc)).trans ho
  have hbl := h.below
  refine ⟨⟨hg.os.trans hbl.os, hg.tape.trans hbl.tape, hg.output.trans hbl.output, Nat.le_trans hbl.size hg.size, fun i hi => ?_⟩, blk (by omega) h.src, blk (by omega) h.code, blk (by omega) h.at_, blk (by omega) h.err, blk (by omega) h.toks, h.is.kept h.par hg⟩
  have := (Array.getElem?_eq_some_iff.1 h.src).1
  rw [hg.block i (by omega) (by simp; omega)]
  exact hbl.block i hi
def doorD (b L : Nat) : List Deferred := [{ target := .fn (.func 14) #[.pointer (some ⟨b, 0, none⟩), .pointer (some ⟨b + 1, 0, none⟩), .pointer (some ⟨b + 2, 0, none⟩), .pointer (some ⟨b + 3, 0, none⟩), .pointer (some ⟨L, 0, none⟩)], args := #[] }]
set_option maxRecDepth 100000 in
/- a wrong token: through the deferred function -/
theorem parse_door {w W : World} {b L k : Nat} {s : ByteArray} {v vl : Value} {ts : List Tok} {r : List Ln × Int × Int} (h : DSt w b L s v ts vl W) (h1 : b + 3 < L) (hb : w.heap.size = b) (hlm : ts.length ≤ 65536) (hk : k ≤ ts.length) (hr : endR ts s.size (pLines 64 ts) = r)
    (he : pLines 64 ts = .error (ts.drop k)) (tm : Array Value) (t2 : tm.getD 2 undef = .pointer (some ⟨b + 1, 0, none⟩)) (t3 : tm.getD 3 undef = .pointer (some ⟨b + 2, 0, none⟩)) (t4 : tm.getD 4 undef = .pointer (some ⟨b + 3, 0, none⟩)) :
    bodyPostD Tryz.prog Tryz.f5 (ParseEnd w r) (.panic [{ v := .iface 51 (.int .i64 k), recovered := false }]) { tmps := tm, defers := doorD b L } W := by
  have hr2 : r = ([], placeT ts s.size k, 310) := by rw [← hr, he, endR_err hk]
  rw [hr2]
  have hbel := h.below
  refine leaves_cons (f := 14) (args := #[.pointer (some ⟨b, 0, none⟩), .pointer (some ⟨b + 1, 0, none⟩), .pointer (some ⟨b + 2, 0, none⟩), .pointer (some ⟨b + 3, 0, none⟩), .pointer (some ⟨L, 0, none⟩)]) (by simp) (by simp [go_sem]) ?_
  refine (wrong_panicking b (b + 1) (b + 2) (b + 3) L (by omega) (by omega) (by omega) k (by omega) s _ _ _ _ ts [] _ h.src h.code h.at_ h.err h.toks h.is).mono ?_
  rintro e u' w'' ⟨rfl, rfl, hB', e1, e2, e3⟩
  have hend : ParseEnd w ([], placeT ts s.size k, 310) (.returned (.tuple #[.agg #[.slice none 0 0], .int .i64 (placeT ts s.size k), .int .i64 310])) w'' := ⟨by rw [hb]; exact hbel.trans (hB'.mono (by omega)), _, rfl, isLns_nil _⟩
  have Hend := Lib.hid hend
  clear hend
  rw [Array.getD_eq_getD_getElem?] at t2 t3 t4
  simp [Leaves, settle, results, Tryz.results5, go_sem, e1, e2, e3, t2, t3, t4]
  exact Hend.out

end Go.Proofs.YtlaifodlnolndaaGreatDoor

/- Parse: the region that reads a line and appends it. -/
namespace Go.Proofs.YtlaifodlnolndaaGreatDoor
open Go.RowKit Go.Maps Go.ChangeMaps Go.WideMaps

theorem wp_append_line {o : Oper} {a : Act} {K : Act → World → Prop} {Q : Exit → Act → World → Prop} (w : World) (B : Nat) (s x : Operand)
    (ho : o.op = .call { callee := .builtin .append, args := #[s, x], argTypes := #[23, 23] }) (v : Value) (ls : List Ln) (hs : a.eval s = v) (hown : OwnLns B w v ls)
    (vc : Value) (l : Ln) (n0 : Nat) (hc : OwnCds n0 w vc l.conds) (hn0 : B ≤ n0) (g : Nat) (hx : a.eval x = .slice (some ⟨g, 0, none⟩) 1 1) (hg : w.heap[g]? = some (.cells #[vc, .int .i64 l.set] 35 (0, 0))) (hlen : ls.length ≤ 1000000) (hbase : B ≤ w.heap.size)
    (h : ∀ (ad : Option Addr) (c : Nat) w', OwnLns B w' (.slice ad (ls.length + 1) c) (ls ++ [l]) → w.grownBy w' v.ownBlock → K (a.put o.dst (.slice ad (ls.length + 1) c)) w') : o.wp Tryz.prog a w K Q := by
  obtain ⟨i0, hi, hz0, hz1, hz2⟩ := info_parts Tryz.info35
  obtain ⟨xs, rfl, h2, h3⟩ := hown
  rw [List.length_map] at hlen
  obtain ⟨vcs, vcn, vcc, rfl⟩ : ∃ a n c, vc = .slice a n c := by
    obtain ⟨a, c, rfl⟩ := hc.form
    exact ⟨_, _, _, rfl⟩
  refine wp_append_own w s x 23 ho B 35 i0 _ 2 32 Tryz.underlying23 hi hz0 hz1 hz2 rfl (by decide) v xs.length _ hs h2 ⟨g, 0, none⟩ 1 1 [.slice vcs vcn vcc, .int .i64 l.set] hx rfl ?_ ?_ (by unfold maxLen; omega) (by omega) hbase ?_
  · intro j u hj
    match j, hj with
    | 0, hj => simp at hj; subst hj; simp [Addr.add, World.cell?, hg]
    | 1, hj => simp at hj; subst hj; simp [Addr.add, World.cell?, hg]
    | j + 2, hj => simp at hj
  · intro u hu
    simp at hu
    rcases hu with rfl | rfl <;> rfl
  · intro v' w' hown' hg _
    have hc' : OwnCds B w (.slice vcs vcn vcc) l.conds := hc.mono hn0
    have ho2 : OwnLns B w' v' (xs.map (·.2) ++ [l]) := by
      refine ⟨xs ++ [(.slice vcs vcn vcc, l)], by simp, ?_, fun y hy => ?_⟩
      · rw [List.length_append, List.flatMap_append]
        exact hown'
      · rcases List.mem_append.1 hy with hy | hy
        · exact World.ownsRow.kept (h3 y hy) hg (own_far h2 (h3 y hy))
        · obtain rfl := List.mem_singleton.1 hy
          exact World.ownsRow.kept hc' hg (own_far h2 hc')
    obtain ⟨ad, c, e⟩ := ho2.form
    rw [List.length_append, List.length_singleton] at e
    subst e
    exact h ad c w' ho2 ⟨hg.os, hg.tape, hg.output, hg.size, hg.block⟩

/- what lies at or beyond n0 stays -/
def LeN (n0 : Nat) (w w' : World) : Prop := w.heap.size ≤ w'.heap.size ∧ ∀ c, n0 ≤ c → c < w.heap.size → w'.heap[c]? = w.heap[c]?
theorem OwnCds.le {n0 : Nat} {w w' : World} {v : Value} {cs : List Cd} (h : OwnCds n0 w v cs) (hl : LeN n0 w w') : OwnCds n0 w' v cs := by
  refine ⟨h.1, ?_⟩
  rcases h.2 with hn | ⟨g, cap, cur, hv, hb, hg, rest⟩
  · exact .inl hn
  · exact .inr ⟨g, cap, cur, hv, hb, (hl.2 g hb (Array.getElem?_eq_some_iff.1 hg).1).trans hg, rest⟩
theorem leN_grown {n0 : Nat} {w w' : World} {row : Option Nat} (hg : w.grownBy w' row) (hr : ∀ q, row = some q → q < n0) : LeN n0 w w' := ⟨hg.size, fun c hc hlt => hg.block c hlt (fun e => by have := hr c e.symm; omega)⟩
theorem leN_refl (n0 : Nat) (w : World) : LeN n0 w w := ⟨Nat.le_refl _, fun _ _ _ => rfl⟩

def moreP (n0 b P M : Nat) (vl : Value) (ts : List Tok) (k : Nat) (i : Nat) (v : Value) (w : World) : Prop :=
  match i with
  | 0 => v = .pointer (some ⟨b + 1, 0, none⟩)
  | 1 => v = vl
  | 2 => v = .pointer (some ⟨P, 0, none⟩)
  | 3 => v = .map (some M)
  | 4 => ∃ x q vc, pLine (ts.drop k) = .ok (x, q) ∧ v = .agg #[vc, .int .i64 x.set] ∧ OwnCds n0 w vc x.conds
  | 5 => ∃ x q vc g, pLine (ts.drop k) = .ok (x, q) ∧ v = .slice (some ⟨g, 0, none⟩) 1 1 ∧ n0 ≤ g ∧ w.heap[g]? = some (.cells #[vc, .int .i64 x.set] 35 (0, 0)) ∧ OwnCds n0 w vc x.conds
  | 7 => v = .pointer (some ⟨b + 1, 0, none⟩)
  | _ => True
theorem moreP_stable {n0 b P M : Nat} {vl : Value} {ts : List Tok} {k : Nat} (i : Nat) (v : Value) (w w' : World) (hl : LeN n0 w w') (h : moreP n0 b P M vl ts k i v w) : moreP n0 b P M vl ts k i v w' := by
  unfold moreP at h ⊢
  split at h
  case h_5 => obtain ⟨x, q, vc, h1, h2, h3⟩ := h; exact ⟨x, q, vc, h1, h2, h3.le hl⟩
  case h_6 => obtain ⟨x, q, vc, g, h1, h2, h3, h4, h5⟩ := h; exact ⟨x, q, vc, g, h1, h2, h3, (hl.2 g h3 (Array.getElem?_eq_some_iff.1 h4).1).trans h4, h5.le hl⟩
  all_goals exact h
section
variable (n0 : Nat) (w0 : World) (b L M P : Nat) (s : ByteArray) (v : Value) (ts : List Tok) (k : Nat) (ls : List Ln) (vl : Value)
/- what holds amid the region -/
structure MoreExt (l : Array Bool) (tm : Array Value) (w : World) : Prop where
  size : n0 ≤ w.heap.size
  one : l.getD 4 false = false → PSt w0 b L M P s v ts k ls vl w
  two : l.getD 4 false = true → l.getD 6 false = false → ∃ x k2, k < k2 ∧ k2 ≤ ts.length ∧ pLine (ts.drop k) = .ok (x, ts.drop k2) ∧ PSt w0 b L M P s v ts k2 ls vl w
  three : l.getD 6 false = true → l.getD 8 false = false → ∃ x k2 wp ad c, k < k2 ∧ k2 ≤ ts.length ∧ pLine (ts.drop k) = .ok (x, ts.drop k2) ∧ PSt w0 b L M P s v ts k2 ls vl wp ∧ wp.grownBy w vl.ownBlock ∧ tm.getD 70 undef = .slice ad (ls.length + 1) c ∧ OwnLns (P + 1) w (.slice ad (ls.length + 1) c) (ls ++ [x])
  four : l.getD 8 false = true → ∃ x k2 ad c, k < k2 ∧ k2 ≤ ts.length ∧ pLine (ts.drop k) = .ok (x, ts.drop k2) ∧ PSt w0 b L M P s v ts k2 (ls ++ [x]) (.slice ad (ls.length + 1) c) w
end
section
variable {n0 : Nat} {w0 w w2 : World} {b L M P : Nat} {s : ByteArray} {v : Value} {ts : List Tok} {k : Nat} {ls : List Ln} {vl : Value} {l : Array Bool} {tm : Array Value}
theorem MoreExt.quiet (h : MoreExt n0 w0 b L M P s v ts k ls vl l tm w) {i t : Nat} (hi : (i == 4 || (i == 6 || i == 8)) = false) (ht : t ≠ 70) (u : Value) : MoreExt n0 w0 b L M P s v ts k ls vl (l.setIfInBounds i true) (tm.setIfInBounds t u) w := by
  simp only [Bool.or_eq_false_iff, beq_eq_false_iff_ne] at hi
  obtain ⟨h4, h6, h8⟩ := hi
  obtain ⟨a0, a1, a2, a3, a4⟩ := h
  refine ⟨a0, ?_, ?_, ?_, ?_⟩
  · rw [set_other h4]; exact a1
  · rw [set_other h4, set_other h6]; exact a2
  · rw [set_other h6, set_other h8, tset_other ht]; exact a3
  · rw [set_other h8]; exact a4
theorem MoreExt.st (h : MoreExt n0 w0 b L M P s v ts k ls vl l tm w) (n6 : l.getD 6 false = false) : ∃ k2, PSt w0 b L M P s v ts k2 ls vl w := by
  cases h4 : l.getD 4 false with
  | false => exact ⟨k, h.one h4⟩
  | true => obtain ⟨_, k2, _, _, _, hp⟩ := h.two h4 n6; exact ⟨k2, hp⟩
end

def slotIn4 (d : Option Tmp) : Bool := match d with
  | some k => decide (64 ≤ k) && decide (k ≤ 71)
  | none => true
theorem mid_frame4 {ops : Array Oper} {a₀ : Act} {Ext : Array Bool → Array Value → World → Prop} {Pp : Nat → Value → World → Prop} {listed : Array Bool} {a : Act} {w' : World} (hop : ops.all (fun o => slotIn4 o.dst) = true) (hM : Mid ops a₀ Ext Pp listed a w') :
    ∀ t, (t < 64 ∨ 71 < t) → a.tmps.getD t undef = a₀.tmps.getD t undef := by
  intro t ht
  refine hM.free t fun mm hmm o ho hd => ?_
  have hs : slotIn4 o.dst = true := all_get (p := fun o => slotIn4 o.dst) hop ho
  rw [hd] at hs
  simp only [slotIn4, Bool.and_eq_true, decide_eq_true_eq] at hs
  exact (show ¬ (64 ≤ t ∧ t ≤ 71) from by omega) hs
set_option maxRecDepth 100000 in
set_option maxHeartbeats 4000000 in
theorem more_region (a₀ : Act) (w0 w : World) (Q : Exit → Act → World → Prop) (b L M P : Nat) (s : ByteArray) (v : Value) (ts : List Tok) (k : Nat) (ls : List Ln) (la : Option Addr) (lc : Nat) (ops : Array Oper) (hops : regOf Tryz.f5 19 = some ops)
    (h2 : a₀.tmps.getD 2 undef = .pointer (some ⟨b + 1, 0, none⟩)) (h6 : a₀.tmps.getD 6 undef = .map (some M)) (h11 : a₀.tmps.getD 11 undef = .pointer (some ⟨P, 0, none⟩)) (hz : a₀.tmps.size = 73)
    (hbL : b + 3 < L) (hLM : L < M) (hMP : M < P) (hk : k ≤ ts.length) (hbare : Bare ts) (hls : ls.length ≤ 64) (hS : PSt w0 b L M P s v ts k ls (.slice la ls.length lc) w)
    (hQ1 : ∀ k2, k2 ≤ ts.length → pLine (ts.drop k) = .error (ts.drop k2) → ∀ (a : Act) w', a.defers = a₀.defers → (∀ t, (t < 64 ∨ 71 < t) → a.tmps.getD t undef = a₀.tmps.getD t undef) → DSt w0 b L s v ts (.slice la ls.length lc) w' → Q (.panic [{ v := .iface 51 (.int .i64 k2), recovered := false }]) a w')
    (hQ2 : ∀ x k2, k < k2 → k2 ≤ ts.length → pLine (ts.drop k) = .ok (x, ts.drop k2) → ∀ (a : Act) (w' : World) ad c, a.tmps.size = 73 → a.defers = a₀.defers → (∀ t, (t < 64 ∨ 71 < t) → a.tmps.getD t undef = a₀.tmps.getD t undef) →
      PSt w0 b L M P s v ts k2 (ls ++ [x]) (.slice ad (ls.length + 1) c) w' → Q .normal a w') :
    (Code.region 19 ops true).wp Tryz.prog Q a₀ w := by
  obtain rfl := Option.some.inj ((rfl : regOf Tryz.f5 19 = some _).symm.trans hops)
  clear hops
  have hPw : P < w.heap.size := (Array.getElem?_eq_some_iff.1 hS.par).1
  have hrow : ∀ q, (Value.slice la ls.length lc).ownBlock = some q → P + 1 ≤ q ∧ q < w.heap.size := hS.own.lt
  refine wp_region_mids (by kernel_rfl) (MoreExt w.heap.size w0 b L M P s v ts k ls (.slice la ls.length lc)) (moreP w.heap.size b P M (.slice la ls.length lc) ts k) (fun _ => LeN w.heap.size) (by kernel_rfl) (by rw [hz]; kernel_rfl) (by kernel_rfl) (fun _ j v w w' _ _ => moreP_stable j v w w') ?_ ?_ ?_
  · exact ⟨Nat.le_refl _, fun _ => hS.grow hbL hLM hMP (Below.refl _ _).drew, fun h => (by cases h), fun h => (by cases h), fun h => (by cases h)⟩
  · intro i listed a w' hM hi o ho
    have HE := Lib.hid hM.ext
    have hlt := (Array.getElem?_eq_some_iff.1 ho).1
    have Le0 := Lib.hid (leN_refl w.heap.size w')
    have hsz := hM.size
    match i, hlt with
    | 0, _ =>
      have d := hM.old hi 2 (by kernel_rfl) _ h2
      obtain rfl := Option.some.inj ho
      go_simp
      exact ⟨_, rfl, HE.out.quiet (by decide) (by decide) _, Le0.out, rfl⟩
    | 1, _ =>
      have d : a.tmps[64]?.getD undef = .pointer (some ⟨b + 1, 0, none⟩) := hM.dep hi 0 64 (by kernel_rfl) (by kernel_rfl)
      have n6 : listed.getD 6 false = false := by
        rw [Bool.eq_false_iff]; intro h6
        have := anc_listed hM.down 5 6 1 (by kernel_rfl) h6
        rw [hM.not_yet hi] at this; cases this
      obtain ⟨k2, hp⟩ := HE.out.st n6
      obtain ⟨x1, _⟩ := hp.cells
      clear hp
      obtain rfl := Option.some.inj ho
      go_simp
      exact ⟨_, rfl, HE.out.quiet (by decide) (by decide) _, Le0.out, rfl⟩
    | 2, _ =>
      have d := hM.old hi 11 (by kernel_rfl) _ h11
      obtain rfl := Option.some.inj ho
      go_simp
      exact ⟨_, rfl, HE.out.quiet (by decide) (by decide) _, Le0.out, rfl⟩
    | 3, _ =>
      have d := hM.old hi 6 (by kernel_rfl) _ h6
      obtain rfl := Option.some.inj ho
      go_simp
      exact ⟨_, rfl, HE.out.quiet (by decide) (by decide) _, Le0.out, rfl⟩
    | 4, _ =>
      have d1 : a.tmps[66]?.getD undef = .pointer (some ⟨P, 0, none⟩) := hM.dep hi 2 66 (by kernel_rfl) (by kernel_rfl)
      have d2 : a.tmps[67]?.getD undef = .map (some M) := hM.dep hi 3 67 (by kernel_rfl) (by kernel_rfl)
      have n4 := hM.not_yet hi
      have n6 : listed.getD 6 false = false := by
        rw [Bool.eq_false_iff]; intro h6
        have := anc_listed hM.down 5 6 4 (by kernel_rfl) h6
        rw [n4] at this; cases this
      have n8 : listed.getD 8 false = false := by
        rw [Bool.eq_false_iff]; intro h8
        have := anc_listed hM.down 5 8 4 (by kernel_rfl) h8
        rw [n4] at this; cases this
      have hp := HE.out.one n4
      have hsw : w.heap.size ≤ w'.heap.size := hM.ext.size
      have hc := line_any P M v ts k w' hp.par hk hp.map (by omega) hp.is hbare
      have Hc := Lib.hid hc
      have HP := Lib.hid hp
      have HF := Lib.hid (mid_frame4 (by kernel_rfl) hM)
      have HDF := Lib.hid hM.defers
      clear hc hp
      obtain rfl := Option.some.inj ho
      go_simp
      refine Hc.out.mono ?_
      rintro (z | ch | _) w2 hh
      · obtain ⟨x, k2, vc, hk2, hkk, hpl, rfl, hc8, hp8, hg8⟩ := line_returns hh
        have HP8 := Lib.hid (HP.out.next hbL hLM hMP hp8 hg8)
        refine ⟨.agg #[vc, .int .i64 x.set], rfl, ⟨Nat.le_trans hsw hg8.size, ?_, ?_, ?_, ?_⟩, leN_grown hg8 (fun q e => by simp at e; omega), x, _, vc, hpl, rfl, hc8.mono hsw⟩
        · rw [set_same (by rw [hsz]; decide)]; intro h; cases h
        · exact fun _ _ => ⟨x, k2, hkk, hk2, hpl, HP8.out⟩
        · rw [set_other (by decide), n6]; intro h; cases h
        · rw [set_other (by decide), n8]; intro h; cases h
      · obtain ⟨k2, hk2, hpl, rfl, hg⟩ := line_panics hh
        exact hQ1 k2 hk2 hpl _ _ HDF.out HF.out (HP.out.door hbL hLM hMP hg)
      · exact (line_ends hh).elim
    | 5, _ =>
      obtain ⟨x, q, vc, hpl, d1, hc⟩ : ∃ x q vc, pLine (ts.drop k) = .ok (x, q) ∧ a.tmps[68]?.getD undef = .agg #[vc, .int .i64 x.set] ∧ OwnCds w.heap.size w' vc x.conds := hM.dep hi 4 68 (by kernel_rfl) (by kernel_rfl)
      have hsw : w.heap.size ≤ w'.heap.size := hM.ext.size
      have n4 := hM.came hi 4 (by kernel_rfl)
      have n6 : listed.getD 6 false = false := by
        rw [Bool.eq_false_iff]; intro h6
        have := anc_listed hM.down 5 6 5 (by kernel_rfl) h6
        rw [hM.not_yet hi] at this; cases this
      have n8 : listed.getD 8 false = false := by
        rw [Bool.eq_false_iff]; intro h8
        have := anc_listed hM.down 5 8 5 (by kernel_rfl) h8
        rw [hM.not_yet hi] at this; cases this
      obtain ⟨x2, k2, hkk, hk2, hpl2, hp⟩ := HE.out.two n4 n6
      have hb : Below w'.heap.size w' (w'.alloc (.cells #[vc, .int .i64 x.set] 35)) := (Below.refl _ _).alloc (Nat.le_refl _) _
      have HP := Lib.hid (hp.grow hbL hLM hMP hb)
      have Hle := Lib.hid (leN_grown (n0 := w.heap.size) (grownBy_below hb none) (fun q e => by cases e))
      have HC := Lib.hid (hc.le Hle.out)
      clear hp hb hc
      obtain ⟨vcs, vcn, vcc, rfl⟩ : ∃ a n c, vc = .slice a n c := by
        obtain ⟨a, c, rfl⟩ := HC.out.form
        exact ⟨_, _, _, rfl⟩
      obtain rfl := Option.some.inj ho
      go_simp
      refine ⟨_, rfl, ⟨Nat.le_trans hsw Hle.out.1, ?_, ?_, ?_, ?_⟩, Hle.out, x, q, _, w'.heap.size, hpl, rfl, hsw, heap_new _ _ _ rfl, HC.out⟩
      · rw [set_other (by decide), n4]; intro h; cases h
      · exact fun _ _ => ⟨x2, k2, hkk, hk2, hpl2, HP.out⟩
      · rw [set_other (by decide), n6]; intro h; cases h
      · rw [set_other (by decide), n8]; intro h; cases h
    | 6, _ =>
      obtain ⟨x, q, vc, g, hpl, d1, hgn, hg, hc⟩ : ∃ x q vc g, pLine (ts.drop k) = .ok (x, q) ∧ a.tmps[69]?.getD undef = .slice (some ⟨g, 0, none⟩) 1 1 ∧ w.heap.size ≤ g ∧ w'.heap[g]? = some (.cells #[vc, .int .i64 x.set] 35 (0, 0)) ∧ OwnCds w.heap.size w' vc x.conds := hM.dep hi 5 69 (by kernel_rfl) (by kernel_rfl)
      have d2 : a.tmps[65]?.getD undef = .slice la ls.length lc := hM.dep hi 1 65 (by kernel_rfl) (by kernel_rfl)
      have hsw : w.heap.size ≤ w'.heap.size := hM.ext.size
      have n6 := hM.not_yet hi
      have n4 := anc_listed hM.down 5 5 4 (by kernel_rfl) (hM.came hi 5 (by kernel_rfl))
      have n8 : listed.getD 8 false = false := by
        rw [Bool.eq_false_iff]; intro h8
        have := anc_listed hM.down 5 8 6 (by kernel_rfl) h8
        rw [n6] at this; cases this
      have hzt : a.tmps.size = 73 := hM.tmps.trans hz
      obtain ⟨x2, k2, hkk, hk2, hpl2, hp⟩ := HE.out.two n4 n6
      obtain ⟨rfl, rfl⟩ : x = x2 ∧ q = ts.drop k2 := by rw [hpl] at hpl2; simpa using hpl2
      obtain rfl := Option.some.inj ho
      refine wp_append_line w' (P + 1) (.tmp 65) (.tmp 69) rfl (.slice la ls.length lc) ls (by rw [← d2]; simp [Act.eval]) hp.own vc x w.heap.size hc (by omega) g (by rw [← d1]; simp [Act.eval]) hg (by omega) (by omega) ?_
      intro ad c w2 ho2 hg2
      refine ⟨_, rfl, ⟨Nat.le_trans hsw hg2.size, ?_, ?_, ?_, ?_⟩, leN_grown hg2 (fun q e => (hrow q e).2), trivial⟩
      · rw [set_other (by decide), n4]; intro h; cases h
      · rw [set_same (by rw [hsz]; decide)]; intro _ h; cases h
      · exact fun _ _ => ⟨x, k2, w', ad, c, hkk, hk2, hpl, hp, hg2, tset_same (by omega), ho2⟩
      · rw [set_other (by decide), n8]; intro h; cases h
    | 7, _ =>
      have d := hM.old hi 2 (by kernel_rfl) _ h2
      obtain rfl := Option.some.inj ho
      go_simp
      exact ⟨_, rfl, HE.out.quiet (by decide) (by decide) _, Le0.out, rfl⟩
    | 8, _ =>
      have d1 : a.tmps[71]?.getD undef = .pointer (some ⟨b + 1, 0, none⟩) := hM.dep hi 7 71 (by kernel_rfl) (by kernel_rfl)
      have hsw : w.heap.size ≤ w'.heap.size := hM.ext.size
      have n8 := hM.not_yet hi
      have n6 := hM.came hi 6 (by kernel_rfl)
      have n4 := anc_listed hM.down 5 6 4 (by kernel_rfl) n6
      obtain ⟨x, k2, wp, ad, c, hkk, hk2, hpl, hp, hg, d2, ho2⟩ := HE.out.three n6 n8
      rw [Array.getD_eq_getD_getElem?] at d2
      obtain ⟨z1, z2⟩ := hp.app_cells hbL hLM hMP hg
      have HP9 := Lib.hid (hp.append hbL hLM hMP ho2 hg)
      have hle : LeN w.heap.size w' (w'.setCell ⟨b + 1, 0, none⟩ (.slice ad (ls.length + 1) c)) := leN_grown (grown_set w' (b + 1) 0 _) (fun q e => by simp at e; omega)
      have Hle := Lib.hid hle
      clear hp hg ho2 hle
      obtain rfl := Option.some.inj ho
      go_simp
      refine ⟨undef, rfl, ⟨Nat.le_trans hsw Hle.out.1, ?_, ?_, ?_, ?_⟩, Hle.out, trivial⟩
      · rw [set_other (by decide), n4]; intro h; cases h
      · rw [set_other (by decide), set_other (by decide), n6]; intro _ h; cases h
      · rw [set_same (by rw [hsz]; decide)]; intro _ h; cases h
      · exact fun _ => ⟨x, k2, ad, c, hkk, hk2, hpl, HP9.out⟩
    | i + 9, h =>
      exact absurd (show i + 9 < 9 from h) (by omega)
  · intro listed a w' hall hM
    obtain ⟨x, k2, ad, c, hkk, hk2, hpl, hp⟩ := hM.ext.four (hall 8 (by decide))
    exact hQ2 x k2 hkk hk2 hpl a w' ad c (hM.tmps.trans hz) hM.defers (mid_frame4 (by kernel_rfl) hM) hp

end Go.Proofs.YtlaifodlnolndaaGreatDoor

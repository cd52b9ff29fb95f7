/- Texts Gf Gg in one: each says what it proves. -/
import Derived.Test.YtlaifodlnolndaaGreatDoorMg
import Derived.RangeFuncBox
import Derived.RangeFuncNested
import Derived.RangeFuncBound
import Derived.RangeFuncCalls
import Derived.RangeFuncLeaves
import Derived.OwnWalkIn
import Derived.TacticsInMore
import Derived.LoopNIn
import Derived.LoopIn
import Derived.RegionTactic
import Derived.ChangeAlike
/- Running a gate program: the iterator over the lines that hold. -/
namespace Go.Proofs.YtlaifodlnolndaaGreatDoor
open Go.RowKit

attribute [local go_sem] Oper.semAt_some

/- a line as it is handed to the loop's body -/
abbrev RowX := (Option Addr × Nat × Nat) × Int

/- what the lines that hold set -/
def hits (vs : List Int) (ls : List Ln) : List Int := (ls.filter fun x => x.conds.all (holdsCd vs)).map (·.set)
theorem hits_take {vs : List Int} {ls : List Ln} {k : Nat} (hk : k < ls.length) : hits vs (ls.take (k + 1)) = hits vs (ls.take k) ++ if ls[k].conds.all (holdsCd vs) then [ls[k].set] else [] := by
  rw [List.take_succ_eq_append_getElem hk]
  unfold hits
  rw [List.filter_append, List.map_append]
  by_cases h : ls[k].conds.all (holdsCd vs) = true
  · rw [if_pos h]; simp [h]
  · rw [if_neg h]; simp [h]
theorem hits_le {vs : List Int} {ls : List Ln} {k : Nat} : (hits vs (ls.take k)).length ≤ k := by
  unfold hits
  rw [List.length_map]
  exact Nat.le_trans (List.length_filter_le _ _) (by rw [List.length_take]; omega)
theorem runC_hits (vs : List Int) : ∀ ls : List Ln, runC vs ls = (hits vs ls).head?
  | [] => rfl
  | x :: r => by
    rw [runC]
    by_cases h : x.conds.all (holdsCd vs) = true
    · rw [if_pos h]; unfold hits; simp [h]
    · rw [if_neg h, runC_hits vs r]; unfold hits; simp [h]
theorem hits_split (vs : List Int) (ls : List Ln) (k : Nat) : hits vs ls = hits vs (ls.take k) ++ hits vs (ls.drop k) := by
  unfold hits
  rw [← List.map_append, ← List.filter_append, List.take_append_drop]

set_option maxRecDepth 100000 in
set_option maxHeartbeats 4000000 in
theorem hold1_in (n : Nat) (hn : 1 ≤ n) (l Bc Bo Bv : Nat) (sv : Value) (ls : List Ln) (a0 a1 a2 a3 a4 : Int) (hok : ∀ x ∈ ls, okLn x = true) (w0 : World) (hI : IsLns w0 sv ls) (ho : OpsAt w0 Bo) (hv : VarsAt w0 Bv a0 a1 a2 a3 a4)
    (hbc : Bc < w0.heap.size) (hbv : Bv < w0.heap.size) (hc : w0.cell? ⟨Bc, 0, none⟩ = some sv) (B : Nat) (J Jx : List RowX → World → Prop) (hJ : AbidesFrom B J)
    (hY : ∀ pre x W, J pre W → pre.length < ls.length → YieldAt Fence.wide (n - 1) Tryz.prog l #[.agg #[.slice x.1.1 x.1.2.1 x.1.2.2, .int .i64 x.2]] W fun e W' =>
      (e = .returned (.bool true) ∧ J (pre ++ [x]) W' ∧ Below w0.heap.size W W') ∨ (e = .returned (.bool false) ∧ Jx (pre ++ [x]) W'))
    (W : World) (hW : Below w0.heap.size w0 W) (h0 : J [] W) :
    CallsIn Fence.wide n Tryz.prog 49 #[.func (.yield l) #[] #[], .pointer (some ⟨Bc, 0, none⟩), .pointer (some ⟨Bo, 0, none⟩), .pointer (some ⟨Bv, 0, none⟩)] W fun e W' => (∃ v, e = .returned v) ∧
      ((∃ ys : List RowX, ys.map (·.2) = hits [a0, a1, a2, a3, a4] ls ∧ J ys W') ∨ (∃ pre : List RowX, (∃ k, pre.map (·.2) = hits [a0, a1, a2, a3, a4] (ls.take k)) ∧ Jx pre W')) := by
  have hmf : ∀ (fn : Fn) (first cap : Array Value) (w : World), (Instr.makeFunc fn first cap).run Tryz.prog w = .ok (.func fn first cap) w := fun _ _ _ _ => rfl
  have HI := Lib.hid hI
  obtain ⟨hl, a, cap, rfl, hr⟩ := hI
  have Hr := Lib.hid hr; clear hr
  have Hok := Lib.hid hok; clear hok
  have Ho := Lib.hid ho
  have hlo := ho.lt
  have Hv := Lib.hid hv
  have hcW := (hW.cell (p := ⟨Bc, 0, none⟩) hbc).trans hc
  have HJ := Lib.hid hJ
  have HY := Lib.hid hY
  have HW := Lib.hid hW
  have H0 := Lib.hid h0
  clear ho hv hc hJ hY hW h0
  generalize hN : ls.length = N at hl hcW HI HY ⊢
  have HN := Lib.hid hN; clear hN
  refine callsIn_of_wp Tryz.func49 rfl trivial ?_ rfl
  simp only [Tryz.ntmps49, List.size_toArray, List.length_cons, List.length_nil, Nat.reduceAdd, Nat.reduceSub, Array.replicate_succ, Array.replicate_zero, List.push_toArray, List.append_toArray, List.nil_append, List.cons_append]
  gi_wp2
  gi_loopw [11] (fun iv wr => ∃ (k : Nat) (pre : List RowX), k ≤ N ∧ iv = .int .i64 k ∧ Hid (J pre wr) ∧ Hid (pre.map (·.2) = hits [a0, a1, a2, a3, a4] (ls.take k)) ∧ Hid (Below w0.heap.size w0 wr))
    (fun i _ => N - (intOf i).toNat)
  case atStart => exact ⟨0, [], Nat.zero_le _, rfl, H0, rfl, HW⟩
  case round =>
    obtain ⟨k, pre, hk, rfl, HJk, Hp, HB⟩ := hrel
    clear hcW
    by_cases hlt : k < N
    · have hkl : k < ls.length := by rw [HN.out]; exact hlt
      obtain ⟨b, o, rfl, hbl, hln⟩ := Hr.out k hkl
      obtain ⟨vc, c0, hcds, c1⟩ := hln.below HB.out hbl
      have hbl2 := Nat.lt_of_lt_of_le hbl HB.out.size
      obtain ⟨ac, nc, capc, rfl⟩ : ∃ ac nc capc, vc = .slice ac nc capc := by obtain ⟨_, ac, capc, h, _⟩ := hcds; exact ⟨ac, _, capc, h⟩
      have Hcf := Lib.hid (fun (W : World) (hb : Below wr.heap.size wr W) => containsf_any (.slice ac nc capc) ls[k].conds Bo Bv a0 a1 a2 a3 a4 W (hcds.below hb) (okLn_parts (Hok.out _ (List.getElem_mem hkl))).2.2 ((Ho.out.below HB.out hlo).below hb (Nat.lt_of_lt_of_le hlo HB.out.size)) ((Hv.out.below HB.out hbv).below hb (Nat.lt_of_lt_of_le hbv HB.out.size)) (Nat.lt_of_lt_of_le hbv (Nat.le_trans HB.out.size hb.size)))
      have Htk := Lib.hid (hits_take (vs := [a0, a1, a2, a3, a4]) hkl)
      clear hln hcds
      generalize ls[k].conds.all (holdsCd [a0, a1, a2, a3, a4]) = q at Hcf Htk
      generalize ls[k] = x at *
      obtain ⟨cds, st⟩ := x
      dsimp only at c1 Htk
      have hb0 : Below wr.heap.size wr (wr.alloc (.cells #[.slice ac nc capc, .int .i64 st] 35)) := (Below.refl _ _).alloc (Nat.le_refl _) _
      have Hc := Lib.hid (Hcf.out _ hb0)
      obtain ⟨k0, k1⟩ := boxed2 (w := wr) (v := .slice ac nc capc) (u := .int .i64 st) (t := 35)
      have hz : wr.heap.size < (wr.alloc (.cells #[.slice ac nc capc, .int .i64 st] 35)).heap.size := by simp
      have HB0 := Lib.hid hb0
      have K0 := Lib.hid k0
      have K1 := Lib.hid k1
      clear Hcf hb0 k0 k1
      cases q
      · gi_wp2_with fail
        refine ⟨trivial, ?_⟩
        with_reducible refine (callsIn_wide.2 Hc.out).mono ?_
        rintro e w1 ⟨rfl, hb1⟩
        have hb2 := HB0.out.trans (hb1.mono (Nat.le_of_lt hz))
        have HB1 := Lib.hid (HB.out.trans (hb2.mono HB.out.size))
        have HJ1 := Lib.hid (HJ.out _ _ _ none HJk.out ⟨hb2.os, hb2.tape, hb2.output, hb2.size, fun k hk _ => hb2.block k hk⟩ (fun r e => by cases e))
        clear hb1 hb2
        gi_wp2
        refine ⟨fun _ h => (by cases h), ?_⟩
        gi_wp2
        exact ⟨⟨k + 1, pre, by omega, by go_num, HJ1, by rw [Hid, Hp.out, Htk.out]; simp, HB1⟩, by simp [intOf]; omega⟩
      · gi_wp2_with fail
        refine ⟨trivial, ?_⟩
        with_reducible refine (callsIn_wide.2 Hc.out).mono ?_
        rintro e w1 ⟨rfl, hb1⟩
        have hb2 := HB0.out.trans (hb1.mono (Nat.le_of_lt hz))
        have HB1 := Lib.hid (HB.out.trans (hb2.mono HB.out.size))
        have hJ1 := HJ.out _ _ _ none HJk.out ⟨hb2.os, hb2.tape, hb2.output, hb2.size, fun k hk _ => hb2.block k hk⟩ (fun r e => by cases e)
        have d0 := (hb1.cell (p := ⟨wr.heap.size, 0, none⟩) hz).trans K0.out
        have d1 := (hb1.cell (p := ⟨wr.heap.size, 1, none⟩) hz).trans K1.out
        have hlen : pre.length < N := by
          have := congrArg List.length Hp.out
          rw [List.length_map] at this
          have := hits_le (vs := [a0, a1, a2, a3, a4]) (ls := ls) (k := k)
          omega
        obtain ⟨fn, tmps, assign, body, hy, hR⟩ := HY.out pre ((ac, nc, capc), st) w1 hJ1 hlen
        dsimp only at hy
        have HR := Lib.hid hR
        clear hb1 hb2 hJ1 hlen hR
        gi_wp2
        refine HR.out.mono ?_
        rintro e W3 (⟨rfl, hJ3, hk3⟩ | ⟨rfl, hJx3⟩)
        · have HJ3 := Lib.hid hJ3
          have HB3 := Lib.hid (HB1.out.trans hk3)
          clear hJ3 hk3
          gi_wp2
          exact ⟨⟨k + 1, pre ++ [((ac, nc, capc), st)], by omega, by go_num, HJ3, by rw [Hid, Htk.out, List.map_append, Hp.out]; simp, HB3⟩, by simp [intOf]; omega⟩
        · have HJ3 := Lib.hid hJx3
          clear hJx3
          gi_wp2
          refine bodyPost_ret (results_none rfl _ _ _) rfl ?_
          exact ⟨⟨_, rfl⟩, .inr ⟨pre ++ [((ac, nc, capc), st)], ⟨k + 1, by rw [Htk.out, List.map_append, Hp.out]; simp⟩, HJ3.out⟩⟩
    · obtain rfl : k = N := by omega
      gi_wp2
      go_end0
      exact ⟨⟨_, rfl⟩, .inl ⟨pre, by rw [Hp.out, List.take_of_length_le (by rw [HN.out]; exact Nat.le_refl _)], HJk.out⟩⟩

end Go.Proofs.YtlaifodlnolndaaGreatDoor

/- Running a gate program: the program's Run. -/
namespace Go.Proofs.YtlaifodlnolndaaGreatDoor
open Go.RowKit

attribute [local go_sem] Oper.semAt_some

set_option maxHeartbeats 400000 in
theorem compare_any (w : World) : Calls Tryz.prog 48 #[] w fun e w' => e = .returned (.agg opsL) ∧ Below w.heap.size w w' := by
  go_enter Tryz.func48, Tryz.ntmps48
  go_wp2
  refine bodyPost_ret (v := .agg opsL) (by simp [results, Tryz.results48, go_sem, opsL]) rfl ⟨rfl, (Below.refl _ _).alloc (Nat.le_refl _) _⟩

set_option maxRecDepth 100000 in
set_option maxHeartbeats 1000000 in
theorem holding_any (sv : Value) (a0 a1 a2 a3 a4 : Int) (w : World) (hs : ∃ a n c, sv = .slice a n c) : Calls Tryz.prog 23 #[.agg #[sv], vsV a0 a1 a2 a3 a4] w fun e w' =>
    ∃ Bc Bo Bv, e = .returned (.func (.func 49) #[] #[.pointer (some ⟨Bc, 0, none⟩), .pointer (some ⟨Bo, 0, none⟩), .pointer (some ⟨Bv, 0, none⟩)]) ∧ Below w.heap.size w w' ∧ w'.cell? ⟨Bc, 0, none⟩ = some sv ∧ Bc < w'.heap.size ∧
      OpsAt w' Bo ∧ VarsAt w' Bv a0 a1 a2 a3 a4 ∧ Bv < w'.heap.size := by
  obtain ⟨a, n, cap, rfl⟩ := hs
  have hmf : ∀ (fn : Fn) (first cap : Array Value) (w : World), (Instr.makeFunc fn first cap).run Tryz.prog w = .ok (.func fn first cap) w := fun _ _ _ _ => rfl
  unfold vsV
  go_enter Tryz.func23, Tryz.ntmps23
  go_wp2_with fail
  obtain ⟨hbs, hz1, hk0, hk1⟩ := runStart w a n cap a0 a1 a2 a3 a4
  generalize ((w.alloc (.cells #[.slice a n cap] 25)).alloc (.cells #[.int .i64 a0, .int .i64 a1, .int .i64 a2, .int .i64 a3, .int .i64 a4] 40)) = wb at hbs hz1 hk0 hk1 ⊢
  have Hbs := Lib.hid hbs
  have Hk0 := Lib.hid hk0
  have Hk1 := Lib.hid hk1
  clear hbs hk0 hk1
  with_reducible refine (compare_any wb).mono ?_
  rintro e w1 ⟨rfl, hb⟩
  have hk0 := (hb.cell (p := ⟨w.heap.size, 0, none⟩) (by show w.heap.size < _; omega)).trans Hk0.out
  have hv : VarsAt w1 (w.heap.size + 1) a0 a1 a2 a3 a4 := VarsAt.below Hk1.out hb hz1
  have hz2 := Nat.lt_of_lt_of_le hz1 hb.size
  have HB := Lib.hid (Hbs.out.trans (hb.mono (by omega)))
  have K0 := Lib.hid hk0
  have K1 := Lib.hid hv
  clear hb hk0 hv
  unfold opsL
  go_wp2
  go_ret
  have hbb : Below w1.heap.size w1 (w1.alloc (.cells opsL 95)) := (Below.refl _ _).alloc (Nat.le_refl _) _
  refine ⟨_, _, _, rfl, HB.out.trans (hbb.mono (by omega)), (hbb.cell (p := ⟨w.heap.size, 0, none⟩) (by show w.heap.size < _; omega)).trans K0.out, ?_, heap_new _ _ _ rfl, K1.out.below hbb hz2, ?_⟩
  · simp; omega
  · simp; omega

/- the three results' cells -/
def Res3 (q2 q3 q4 : Nat) (W : World) (v2 v3 v4 : Value) : Prop :=
  (W.cell? ⟨q2, 0, none⟩ = some v2 ∧ W.frozen? ⟨q2, 0, none⟩ = false) ∧ (W.cell? ⟨q3, 0, none⟩ = some v3 ∧ W.frozen? ⟨q3, 0, none⟩ = false) ∧ W.cell? ⟨q4, 0, none⟩ = some v4 ∧ W.frozen? ⟨q4, 0, none⟩ = false
theorem Res3.kept {q2 q3 q4 : Nat} {W W' : World} {v2 v3 v4 : Value} {row : Option Nat} (h : Res3 q2 q3 q4 W v2 v3 v4) (hg : W.grownBy W' row) (hr : ∀ r, row = some r → ∃ o : Obj, W.heap[r]? = some o ∧ o.isCells = false) : Res3 q2 q3 q4 W' v2 v3 v4 := by
  obtain ⟨⟨a, b⟩, ⟨c, d⟩, e, f⟩ := h
  exact ⟨⟨cell_kept a hg hr, (frozen_kept a hg hr).trans b⟩, ⟨cell_kept c hg hr, (frozen_kept c hg hr).trans d⟩, cell_kept e hg hr, (frozen_kept e hg hr).trans f⟩

theorem hold_stops (n : Nat) (hn : 1 ≤ n) (Bc Bo Bv : Nat) (sv : Value) (ls : List Ln) (a0 a1 a2 a3 a4 : Int) (hok : ∀ x ∈ ls, okLn x = true) (w0 : World) (hI : IsLns w0 sv ls) (ho : OpsAt w0 Bo) (hv : VarsAt w0 Bv a0 a1 a2 a3 a4)
    (hbc : Bc < w0.heap.size) (hbv : Bv < w0.heap.size) (hc : w0.cell? ⟨Bc, 0, none⟩ = some sv) :
    SeqStopsK Fence.wide n Tryz.prog 49 #[.pointer (some ⟨Bc, 0, none⟩), .pointer (some ⟨Bo, 0, none⟩), .pointer (some ⟨Bv, 0, none⟩)] (fun x : RowX => #[.agg #[.slice x.1.1 x.1.2.1 x.1.2.2, .int .i64 x.2]]) (Below w0.heap.size)
      (fun ys => ys.map (·.2) = hits [a0, a1, a2, a3, a4] ls) (fun pre => ∃ k, pre.map (·.2) = hits [a0, a1, a2, a3, a4] (ls.take k)) ls.length w0 := fun l J Jx W hW hJ _ hY h0 =>
  hold1_in n hn l Bc Bo Bv sv ls a0 a1 a2 a3 a4 hok w0 hI ho hv hbc hbv hc _ J Jx hJ hY W hW h0

theorem runR_no {vs : List Int} {ls : List Ln} (h : okC ls = false) : runR vs ls = .tuple #[.int .i64 0, .bool false, .int .i64 310] := by unfold runR; rw [h]; rfl
theorem runR_none {vs : List Int} {ls : List Ln} (h : okC ls = true) (h2 : runC vs ls = none) : runR vs ls = .tuple #[.int .i64 0, .bool false, .int .i64 0] := by unfold runR; rw [h, h2]; rfl
theorem runR_some {vs : List Int} {ls : List Ln} {n : Int} (h : okC ls = true) (h2 : runC vs ls = some n) : runR vs ls = .tuple #[.int .i64 n, .bool true, .int .i64 0] := by unfold runR; rw [h, h2]; rfl

/- the five boxes of Run -/
def runW (w : World) (sv : Value) (a0 a1 a2 a3 a4 : Int) : World := ((((w.alloc (.cells #[sv] 25)).alloc (.cells #[.int .i64 a0, .int .i64 a1, .int .i64 a2, .int .i64 a3, .int .i64 a4] 40)).alloc (.cells #[.int .i64 0] 3)).alloc (.cells #[.bool false] 4)).alloc (.cells #[.int .i64 0] 26)
theorem runW_is (w : World) (sv : Value) (a0 a1 a2 a3 a4 : Int) : Below w.heap.size w (runW w sv a0 a1 a2 a3 a4) ∧ (runW w sv a0 a1 a2 a3 a4).heap.size = w.heap.size + 5 ∧
    (runW w sv a0 a1 a2 a3 a4).heap[w.heap.size]? = some (.cells #[sv] 25) ∧ (runW w sv a0 a1 a2 a3 a4).heap[w.heap.size + 1]? = some (.cells #[.int .i64 a0, .int .i64 a1, .int .i64 a2, .int .i64 a3, .int .i64 a4] 40) ∧
    (runW w sv a0 a1 a2 a3 a4).heap[w.heap.size + 2]? = some (.cells #[.int .i64 0] 3) ∧ (runW w sv a0 a1 a2 a3 a4).heap[w.heap.size + 3]? = some (.cells #[.bool false] 4) ∧ (runW w sv a0 a1 a2 a3 a4).heap[w.heap.size + 4]? = some (.cells #[.int .i64 0] 26) := by
  obtain ⟨h0, h1, h2, h3, h4, h5, h6⟩ := five w (.cells #[sv] 25) (.cells #[.int .i64 a0, .int .i64 a1, .int .i64 a2, .int .i64 a3, .int .i64 a4] 40) (.cells #[.int .i64 0] 3) (.cells #[.bool false] 4) (.cells #[.int .i64 0] 26)
  exact ⟨h5, h6, h0, h1, h2, h3, h4⟩

set_option maxRecDepth 100000 in
set_option maxHeartbeats 1000000 in
theorem run_no (sv : Value) (ls : List Ln) (a0 a1 a2 a3 a4 : Int) (w : World) (h : IsLns w sv ls) (hok : okC ls = false) : Calls Tryz.prog 9 #[.agg #[sv], vsV a0 a1 a2 a3 a4] w fun e w' => e = .returned (runR [a0, a1, a2, a3, a4] ls) ∧ Below w.heap.size w w' := by
  rw [runR_no hok]
  have HK := Lib.hid (okE_no hok)
  have H := Lib.hid h
  obtain ⟨a, n, cap, rfl⟩ : ∃ a n c, sv = .slice a n c := by obtain ⟨_, a, c, rfl, _⟩ := h; exact ⟨a, _, c, rfl⟩
  clear h hok
  unfold vsV
  go_enter Tryz.func9, Tryz.ntmps9
  go_wp2_with fail
  obtain ⟨hb, hz, h0, h1, h2, h3, h4⟩ := runW_is w (.slice a n cap) a0 a1 a2 a3 a4
  have hl := H.out.below hb
  change Calls Tryz.prog 10 _ (runW w (.slice a n cap) a0 a1 a2 a3 a4) _
  generalize runW w (.slice a n cap) a0 a1 a2 a3 a4 = wb at hb hz h0 h1 h2 h3 h4 hl ⊢
  obtain ⟨q2, hq2⟩ : ∃ q, q = w.heap.size + 1 + 1 := ⟨_, rfl⟩
  obtain ⟨q3, hq3⟩ : ∃ q, q = q2 + 1 := ⟨_, rfl⟩
  obtain ⟨q4, hq4⟩ : ∃ q, q = q3 + 1 := ⟨_, rfl⟩
  rw [show w.heap.size + 2 = q2 by omega] at h2
  rw [show w.heap.size + 3 = q3 by omega] at h3
  rw [show w.heap.size + 4 = q4 by omega] at h4
  rw [← hq2, ← hq3, ← hq4]
  have i2 : w.heap.size < q2 := by omega
  have i3 : q2 < q3 := by omega
  have i4 : q3 < q4 := by omega
  have i5 : q4 < wb.heap.size := by omega
  clear hq2 hq3 hq4
  with_reducible refine (check_any _ ls wb hl).mono ?_
  rintro e w1 ⟨rfl, hb1⟩
  rw [HK.out]
  have g2 := heap_at h2 hb1 (by omega)
  have g3 := heap_at h3 hb1 (by omega)
  have g4 := heap_at h4 hb1 (by omega)
  have HB := Lib.hid (hb.trans (hb1.mono (by omega)))
  have c2 : w1.cell? ⟨q2, 0, none⟩ = some (.int .i64 0) := by simp [World.cell?, g2]
  have c3 : w1.cell? ⟨q3, 0, none⟩ = some (.bool false) := by simp [World.cell?, g3]
  have c4 : w1.cell? ⟨q4, 0, none⟩ = some (.int .i64 0) := by simp [World.cell?, g4]
  have f2 : w1.frozen? ⟨q2, 0, none⟩ = false := by simp [World.frozen?, g2]
  have f3 : w1.frozen? ⟨q3, 0, none⟩ = false := by simp [World.frozen?, g3]
  have f4 : w1.frozen? ⟨q4, 0, none⟩ = false := by simp [World.frozen?, g4]
  have n1 : ¬ q2 = q3 := by omega
  have n2 : ¬ q2 = q4 := by omega
  have n3 : ¬ q3 = q4 := by omega
  have n4 : ¬ q3 = q2 := by omega
  have n5 : ¬ q4 = q2 := by omega
  have n6 : ¬ q4 = q3 := by omega
  clear hb hb1 h0 h1 h2 h3 h4 g2 g3 g4 hl hz
  go_wp2_with fail
  go_region
  all_goals
    go_wp2
    refine bodyPost_ret (v := .tuple #[.int .i64 0, .bool false, .int .i64 310]) (by simp [results, Tryz.results9, go_sem, c2, c3, c4]) rfl ⟨rfl, ?_⟩
    repeat first
    | exact HB.out
    | refine Below.drew ?_
    | refine Below.setCell ?_ (by first | (show w.heap.size ≤ q2; omega) | (show w.heap.size ≤ q3; omega) | (show w.heap.size ≤ q4; omega)) _

set_option maxRecDepth 100000 in
set_option maxHeartbeats 4000000 in
theorem run_yes (sv : Value) (ls : List Ln) (a0 a1 a2 a3 a4 : Int) (w : World) (h : IsLns w sv ls) (hok : okC ls = true) : Calls Tryz.prog 9 #[.agg #[sv], vsV a0 a1 a2 a3 a4] w fun e w' => e = .returned (runR [a0, a1, a2, a3, a4] ls) ∧ Below w.heap.size w w' := by
  generalize hR : runR [a0, a1, a2, a3, a4] ls = R
  have HR := Lib.hid hR; clear hR
  have HK := Lib.hid (okE_yes hok)
  have Hok := Lib.hid hok
  have H := Lib.hid h
  obtain ⟨a, n, cap, rfl⟩ : ∃ a n c, sv = .slice a n c := by obtain ⟨_, a, c, rfl, _⟩ := h; exact ⟨a, _, c, rfl⟩
  clear h hok
  refine (callsIn_wide (n := 6)).1 ?_
  have hh : vsV a0 a1 a2 a3 a4 = .agg #[.int .i64 a0, .int .i64 a1, .int .i64 a2, .int .i64 a3, .int .i64 a4] := rfl
  rw [hh]
  have HH := Lib.hid (fun W => holding_any (.slice a n cap) a0 a1 a2 a3 a4 W ⟨_, _, _, rfl⟩)
  rw [hh] at HH
  clear hh
  refine callsIn_of_wp_marks Tryz.func9 rfl trivial ?_ rfl
  simp only [Tryz.ntmps9, List.size_toArray, List.length_cons, List.length_nil, Nat.reduceAdd, Nat.reduceSub, Array.replicate_succ, Array.replicate_zero, List.push_toArray, List.append_toArray, List.nil_append, List.cons_append]
  gi_wp2_with fail
  refine ⟨trivial, ?_⟩
  obtain ⟨hb, hz, h0, h1, h2, h3, h4⟩ := runW_is w (.slice a n cap) a0 a1 a2 a3 a4
  have hl := H.out.below hb
  change CallsIn _ _ Tryz.prog 10 _ (runW w (.slice a n cap) a0 a1 a2 a3 a4) _
  generalize runW w (.slice a n cap) a0 a1 a2 a3 a4 = wb at hb hz h0 h1 h2 h3 h4 hl ⊢
  obtain ⟨q1, hq1⟩ : ∃ q, q = w.heap.size + 1 := ⟨_, rfl⟩
  obtain ⟨q2, hq2⟩ : ∃ q, q = q1 + 1 := ⟨_, rfl⟩
  obtain ⟨q3, hq3⟩ : ∃ q, q = q2 + 1 := ⟨_, rfl⟩
  obtain ⟨q4, hq4⟩ : ∃ q, q = q3 + 1 := ⟨_, rfl⟩
  rw [← hq1] at h1
  rw [show w.heap.size + 2 = q2 by omega] at h2
  rw [show w.heap.size + 3 = q3 by omega] at h3
  rw [show w.heap.size + 4 = q4 by omega] at h4
  rw [← hq1, ← hq2, ← hq3, ← hq4]
  have i1 : w.heap.size < q1 := by omega
  have i2 : q1 < q2 := by omega
  have i3 : q2 < q3 := by omega
  have i4 : q3 < q4 := by omega
  have i5 : q4 < wb.heap.size := by omega
  clear hq1 hq2 hq3 hq4
  with_reducible refine (callsIn_wide.2 (check_any _ ls wb hl)).mono ?_
  rintro e w1 ⟨rfl, hb1⟩
  rw [HK.out]
  have g0 := heap_at h0 hb1 (by omega)
  have g1 := heap_at h1 hb1 (by omega)
  have g2 := heap_at h2 hb1 (by omega)
  have g3 := heap_at h3 hb1 (by omega)
  have g4 := heap_at h4 hb1 (by omega)
  have hz1 := hb1.size
  have HB := Lib.hid (hb.trans (hb1.mono (by omega)))
  have c0 : w1.cell? ⟨w.heap.size, 0, none⟩ = some (.slice a n cap) := by simp [World.cell?, g0]
  have e0 : w1.cell? ⟨q1, 0, none⟩ = some (.int .i64 a0) := by simp [World.cell?, g1]
  have e1 : w1.cell? ⟨q1, 1, none⟩ = some (.int .i64 a1) := by simp [World.cell?, g1]
  have e2 : w1.cell? ⟨q1, 2, none⟩ = some (.int .i64 a2) := by simp [World.cell?, g1]
  have e3 : w1.cell? ⟨q1, 3, none⟩ = some (.int .i64 a3) := by simp [World.cell?, g1]
  have e4 : w1.cell? ⟨q1, 4, none⟩ = some (.int .i64 a4) := by simp [World.cell?, g1]
  have c4 : w1.cell? ⟨q4, 0, none⟩ = some (.int .i64 0) := by simp [World.cell?, g4]
  have f4 : w1.frozen? ⟨q4, 0, none⟩ = false := by simp [World.frozen?, g4]
  have n1 : ¬ q4 = w.heap.size := by omega
  have n2 : ¬ q4 = q1 := by omega
  have n3 : ¬ w.heap.size = q4 := by omega
  have n4 : ¬ q1 = q4 := by omega
  have n5 : ¬ q2 = q4 := by omega
  have n6 : ¬ q3 = q4 := by omega
  have G2 := Lib.hid g2
  have G3 := Lib.hid g3
  have G4 := Lib.hid g4
  clear hb hb1 h0 h1 h2 h3 h4 g0 g1 g2 g3 g4 hl hz
  gi_wp2_with fail
  refine ⟨trivial, ?_⟩
  have k2 : (w1.setCell ⟨q4, 0, none⟩ (.int .i64 0)).cell? ⟨q2, 0, none⟩ = some (.int .i64 0) := by
    rw [World.cell?_setCell_other _ _ _ _ (by simp [*])]; simp [World.cell?, G2.out]
  have k3 : (w1.setCell ⟨q4, 0, none⟩ (.int .i64 0)).cell? ⟨q3, 0, none⟩ = some (.bool false) := by
    rw [World.cell?_setCell_other _ _ _ _ (by simp [*])]; simp [World.cell?, G3.out]
  have k4 : (w1.setCell ⟨q4, 0, none⟩ (.int .i64 0)).cell? ⟨q4, 0, none⟩ = some (.int .i64 0) := World.cell?_setCell_same' _ _ _ (by rw [c4]; rfl)
  have l2 : (w1.setCell ⟨q4, 0, none⟩ (.int .i64 0)).frozen? ⟨q2, 0, none⟩ = false := by rw [World.frozen?_setCell]; simp [World.frozen?, G2.out]
  have l3 : (w1.setCell ⟨q4, 0, none⟩ (.int .i64 0)).frozen? ⟨q3, 0, none⟩ = false := by rw [World.frozen?_setCell]; simp [World.frozen?, G3.out]
  have l4 : (w1.setCell ⟨q4, 0, none⟩ (.int .i64 0)).frozen? ⟨q4, 0, none⟩ = false := by rw [World.frozen?_setCell]; exact f4
  have hBx := HB.out.setCell (p := ⟨q4, 0, none⟩) (by show w.heap.size ≤ q4; omega) (.int .i64 0)
  have hzx : (w1.setCell ⟨q4, 0, none⟩ (.int .i64 0)).heap.size = w1.heap.size := by simp
  generalize (w1.setCell ⟨q4, 0, none⟩ (.int .i64 0)) = wx at k2 k3 k4 l2 l3 l4 hBx hzx ⊢
  have hq4 : q4 < wx.heap.size := by omega
  clear c0 e0 e1 e2 e3 e4 c4 f4 n1 n2 n3 n4 n5 n6 G2 G3 G4 HB HK hzx
  with_reducible refine (callsIn_wide.2 (HH.out wx)).mono ?_
  rintro e w2 ⟨Bc, Bo, Bv, rfl, hb2, hc, hbc, ho, hv, hbv⟩
  have hI := (H.out.below hBx).below hb2
  have hq4' := Nat.lt_of_lt_of_le hq4 hb2.size
  have m2 := (hb2.cell (p := ⟨q2, 0, none⟩) (by show q2 < _; omega)).trans k2
  have m3 := (hb2.cell (p := ⟨q3, 0, none⟩) (by show q3 < _; omega)).trans k3
  have m4 := (hb2.cell (p := ⟨q4, 0, none⟩) hq4).trans k4
  have o2 := (hb2.frozen (p := ⟨q2, 0, none⟩) (by show q2 < _; omega)).trans l2
  have o3 := (hb2.frozen (p := ⟨q3, 0, none⟩) (by show q3 < _; omega)).trans l3
  have o4 := (hb2.frozen (p := ⟨q4, 0, none⟩) hq4).trans l4
  have hB2 := hBx.trans (hb2.mono (by omega))
  have hres : Res3 q2 q3 q4 w2 (.int .i64 0) (.bool false) (.int .i64 0) := ⟨⟨m2, o2⟩, ⟨m3, o3⟩, m4, o4⟩
  have hz2 : w.heap.size ≤ w2.heap.size := by omega
  have HB2 := Lib.hid hB2
  have HST := Lib.hid (hold_stops 5 (by omega) Bc Bo Bv (.slice a n cap) ls a0 a1 a2 a3 a4 (okC_parts Hok.out).2 w2 hI ho hv hbc hbv hc)
  clear k2 k3 k4 l2 l3 l4 hBx hb2 hc hbc ho hv hbv hI m2 m3 m4 o2 o3 o4 hB2 HH H
  gi_wp2_with fail
  refine wpIn_rangeFunc_ownH rfl (by omega) (gf := 49) (lb := #[.pointer (some ⟨Bc, 0, none⟩), .pointer (some ⟨Bo, 0, none⟩), .pointer (some ⟨Bv, 0, none⟩)]) rfl trivial (enters_of Tryz.func49 (by kernel_rfl) rfl)
    HST.out belowK_t (belowK_b (Nat.le_refl _)) (Below.refl _ _) (fun _ => rfl)
    (fun pre W => (pre = [] ∧ Res3 q2 q3 q4 W (.int .i64 0) (.bool false) (.int .i64 0)) ∧ Below w2.heap.size w2 W)
    (fun c pre W => (c = .ret ∧ ∃ x : RowX, pre = [x] ∧ Res3 q2 q3 q4 W (.int .i64 x.2) (.bool true) (.int .i64 0)) ∧ Below w.heap.size w W)
    (OwnFrom.and (Own.from (fun s A B row hs hg hr => ⟨hs.1, hs.2.kept hg hr⟩) _) (ownFrom_below (Nat.le_refl _) (Nat.le_refl _)))
    (fun c => OwnFrom.and (Own.from (fun s A B row hs hg hr => by obtain ⟨hc, x, e1, e2⟩ := hs; exact ⟨hc, x, e1, e2.kept hg hr⟩) _) (ownFrom_below (Nat.le_refl _) hz2))
    ⟨⟨rfl, hres⟩, Below.refl _ _⟩
    (fun x a' W => ∃ Bx, q4 < Bx ∧ W.cell? ⟨Bx, 1, none⟩ = some (.int .i64 x.2) ∧ a' = { tmps := #[.agg #[.slice a n cap], .agg #[.int .i64 a0, .int .i64 a1, .int .i64 a2, .int .i64 a3, .int .i64 a4], .pointer (some ⟨w.heap.size, 0, none⟩), .pointer (some ⟨q1, 0, none⟩), .pointer (some ⟨q2, 0, none⟩), .pointer (some ⟨q3, 0, none⟩), .pointer (some ⟨q4, 0, none⟩), .pointer (some ⟨Bx, 0, none⟩), .agg #[.slice a n cap], .int .i64 0, .int .i64 0, .bool false, undef, .agg #[.slice a n cap], .agg #[.int .i64 a0, .int .i64 a1, .int .i64 a2, .int .i64 a3, .int .i64 a4], .func (.func 49) #[] #[.pointer (some ⟨Bc, 0, none⟩), .pointer (some ⟨Bo, 0, none⟩), .pointer (some ⟨Bv, 0, none⟩)], .agg #[.slice x.1.1 x.1.2.1 x.1.2.2, .int .i64 x.2], undef, undef], defers := [] })
    (fun x a' => Own.from (fun s A B row hs hg hr => by obtain ⟨Bx, h1, h2, h3⟩ := hs; exact ⟨Bx, h1, cell_kept h2 hg hr, h3⟩) _) ?assign ?body ?done ?stop
  case assign =>
    rintro l pre x W K ⟨⟨hp, hr⟩, hB⟩ hK
    have HKK := Lib.hid hK
    have Hr := Lib.hid hr
    have HBW := Lib.hid hB
    clear hK hr hB hres HST
    gi_wp2
    have hgr : W.grownBy (W.alloc (.cells #[.slice x.1.1 x.1.2.1 x.1.2.2, .int .i64 x.2] 35)) none := World.grownBy_alloc W _ none
    exact HKK.out _ _ ((KeepsOthers.alloc _ _).from _) ((Below.refl _ W).alloc HBW.out.size _) ⟨⟨hp, Hr.out.kept hgr (fun r e => by cases e)⟩, HBW.out.alloc HBW.out.size _⟩
      ⟨W.heap.size, by have := HBW.out.size; omega, boxed2.2, rfl⟩
  case body =>
    rintro l pre x a' W hl hrec ⟨⟨rfl, hr⟩, hB⟩ ⟨Bx, hBx, bX, rfl⟩ hlt
    obtain ⟨⟨r2, s2⟩, ⟨r3, s3⟩, r4, s4⟩ := hr
    have HBW := Lib.hid hB
    have n1 : ¬ q2 = q3 := by omega
    have n2 : ¬ q2 = q4 := by omega
    have n3 : ¬ q3 = q4 := by omega
    have n4 : ¬ q3 = q2 := by omega
    have n5 : ¬ q4 = q2 := by omega
    have n6 : ¬ q4 = q3 := by omega
    have n7 : ¬ q2 = Bx := by omega
    have n8 : ¬ q3 = Bx := by omega
    have n9 : ¬ q4 = Bx := by omega
    clear hB hres HST hrec hlt
    gi_wp2
    refine ⟨(((KeepsOthers.setCell _ _ _).trans (KeepsOthers.setCell _ _ _)).trans (KeepsOthers.setCell _ _ _)).from _, ⟨rfl, x, rfl, ⟨?_, ?_⟩, ⟨?_, ?_⟩, ?_, ?_⟩, ?_⟩
    · simp [go_sem, r2]
    · simp [go_sem, s2]
    · simp [go_sem, r3]
    · simp [go_sem, s3]
    · simp [go_sem, r4]
    · simp [go_sem, s4]
    · exact (((HB2.out.trans (HBW.out.mono hz2)).setCell (p := ⟨q2, 0, none⟩) (by show w.heap.size ≤ q2; omega) _).setCell (p := ⟨q3, 0, none⟩) (by show w.heap.size ≤ q3; omega) _).setCell (p := ⟨q4, 0, none⟩) (by show w.heap.size ≤ q4; omega) _
  case done =>
    rintro D ys W hD hS ⟨⟨rfl, hr⟩, hB⟩ hK
    have HF := Lib.hid (HR.out.symm.trans (runR_none Hok.out (by rw [runC_hits, ← hS]; rfl)))
    obtain ⟨⟨r2, s2⟩, ⟨r3, s3⟩, r4, s4⟩ := hr
    have HBW := Lib.hid (HB2.out.trans (hB.mono hz2))
    have HKD := Lib.hid hK
    have n1 : ¬ q2 = q3 := by omega
    have n2 : ¬ q2 = q4 := by omega
    have n3 : ¬ q3 = q4 := by omega
    have n4 : ¬ q3 = q2 := by omega
    have n5 : ¬ q4 = q2 := by omega
    have n6 : ¬ q4 = q3 := by omega
    clear hB hres HST hS hK
    gi_wp2
    have hko := ((KeepsOthers.setCell W ⟨q2, 0, none⟩ (.int .i64 0)).trans (KeepsOthers.setCell _ ⟨q3, 0, none⟩ (.bool false))).trans (KeepsOthers.setCell _ ⟨q4, 0, none⟩ (.int .i64 0))
    have hK' := hko.same D _ HKD.out rfl
    have h3 : Res3 q2 q3 q4 (((W.setCell ⟨q2, 0, none⟩ (.int .i64 0)).setCell ⟨q3, 0, none⟩ (.bool false)).setCell ⟨q4, 0, none⟩ (.int .i64 0)) (.int .i64 0) (.bool false) (.int .i64 0) :=
      ⟨⟨by simp [go_sem, r2], by simp [go_sem, s2]⟩, ⟨by simp [go_sem, r3], by simp [go_sem, s3]⟩, by simp [go_sem, r4], by simp [go_sem, s4]⟩
    have hb5 := ((HBW.out.setCell (p := ⟨q2, 0, none⟩) (by show w.heap.size ≤ q2; omega) (.int .i64 0)).setCell (p := ⟨q3, 0, none⟩) (by show w.heap.size ≤ q3; omega) (.bool false)).setCell (p := ⟨q4, 0, none⟩) (by show w.heap.size ≤ q4; omega) (.int .i64 0)
    have h6 := h3.kept (grownBy_putObj' _ D (.deferred none)) (fun r e => by cases e; exact ⟨_, hK', rfl⟩)
    have hbk := belowK_b (w := w) (Nat.le_refl _) (((W.setCell ⟨q2, 0, none⟩ (.int .i64 0)).setCell ⟨q3, 0, none⟩ (.bool false)).setCell ⟨q4, 0, none⟩ (.int .i64 0)) D _ (.deferred none) (by omega) hK' rfl rfl
    obtain ⟨⟨x2, _⟩, ⟨x3, _⟩, x4, _⟩ := h6
    refine ⟨by simp, .inl ⟨_, _, rfl, run_takeDeferred hK', ?_⟩⟩
    refine ⟨.tuple #[.int .i64 0, .bool false, .int .i64 0], ?_, by rw [HF.out], hb5.trans hbk⟩
    simp [results, Tryz.f9, go_sem, x2, x3, x4]
  case stop =>
    rintro D c pre W hD ⟨k, hk⟩ ⟨⟨rfl, x, rfl, hr⟩, hB⟩ hK
    have HF := Lib.hid (HR.out.symm.trans (runR_some (n := x.2) Hok.out (by rw [runC_hits, hits_split _ ls k, ← hk]; rfl)))
    have h6 := hr.kept (grownBy_putObj' _ D (.deferred none)) (fun r e => by cases e; exact ⟨_, hK, rfl⟩)
    have hbk := belowK_b (w := w) (Nat.le_refl _) W D _ (.deferred none) (by omega) hK rfl rfl
    have HBW := Lib.hid hB
    have HKD := Lib.hid hK
    have H6 := Lib.hid h6
    clear hB hres HST hk hr hK h6
    gi_wp2
    obtain ⟨⟨x2, _⟩, ⟨x3, _⟩, x4, _⟩ := H6.out
    refine ⟨by simp, .inl ⟨_, _, rfl, run_takeDeferred HKD.out, ?_⟩⟩
    refine ⟨.tuple #[.int .i64 x.2, .bool true, .int .i64 0], ?_, by rw [HF.out], HBW.out.trans hbk⟩
    simp [results, Tryz.f9, go_sem, x2, x3, x4]

theorem crun_any (sv : Value) (ls : List Ln) (a0 a1 a2 a3 a4 : Int) (w : World) (h : IsLns w sv ls) : Calls Tryz.prog 9 #[.agg #[sv], vsV a0 a1 a2 a3 a4] w fun e w' => e = .returned (runR [a0, a1, a2, a3, a4] ls) ∧ Below w.heap.size w w' := by
  cases hok : okC ls
  · exact run_no sv ls a0 a1 a2 a3 a4 w h hok
  · exact run_yes sv ls a0 a1 a2 a3 a4 w h hok

end Go.Proofs.YtlaifodlnolndaaGreatDoor

/- Texts of tokens: the program's Text. -/
import Derived.Test.YtkfbhegniobecaaDoorW
import Derived.Deep.OwnRows
namespace Go.Proofs.YtkfbhegniobecaaDoor
open Go.RowKit Go.Deep
open Go.Lib (decDigits)

theorem Tryd.info9 : (Tryd.prog.info? 9).map (fun i => (i.zero, i.size, i.bytes)) = some (some (.string ⟨#[]⟩), 1, 16) := by kernel_rfl

/- the words that have been laid so far -/
def Words (w : World) (g n k : Nat) (ts : List Tok) : Prop :=
  ∃ (arr : Array Value) (xs : List ByteArray), w.heap[g]? = some (.cells arr 9 (0, 0)) ∧ arr.size = n ∧ xs.length = k ∧ (∀ (j : Nat) (x : ByteArray), xs[j]? = some x → arr[j]? = some (.string x)) ∧ xs.map (fun x => x.data.toList) = (ts.take k).map wordOf
theorem Words.cell {w : World} {g n k : Nat} {ts : List Tok} (h : Words w g n k ts) (hk : k < n) : (∃ u, w.cell? ⟨g, k, none⟩ = some u) ∧ w.frozen? ⟨g, k, none⟩ = false ∧ g < w.heap.size := by
  obtain ⟨arr, xs, hg, hs, _⟩ := h
  refine ⟨⟨arr[k], by simp [World.cell?, hg, Array.getElem?_eq_getElem (show k < arr.size by omega)]⟩, by simp [World.frozen?, hg], (Array.getElem?_eq_some_iff.1 hg).1⟩
theorem Words.below {w w' : World} {g n k : Nat} {ts : List Tok} (h : Words w g n k ts) (hb : Below w.heap.size w w') : Words w' g n k ts := by
  obtain ⟨arr, xs, hg, r⟩ := h
  exact ⟨arr, xs, (hb.block g (Array.getElem?_eq_some_iff.1 hg).1).trans hg, r⟩
theorem Words.put {w : World} {g n k : Nat} {ts : List Tok} (h : Words w g n k ts) (hk : k < n) (hx : k < ts.length) (x : ByteArray) (e : x.data.toList = wordOf ts[k]) : Words (w.setCell ⟨g, k, none⟩ (.string x)) g n (k + 1) ts := by
  obtain ⟨arr, xs, hg, hs, hl, hc, hm⟩ := h
  refine ⟨arr.setIfInBounds k (.string x), xs ++ [x], by simp [World.setCell, Array.getElem?_modify, hg], by simpa using hs, by simp [hl], ?_, ?_⟩
  · intro j y hj
    by_cases hjk : j < k
    · rw [List.getElem?_append_left (by omega)] at hj
      rw [Array.getElem?_setIfInBounds_ne (by omega)]
      exact hc j y hj
    · rw [List.getElem?_append_right (by omega)] at hj
      have h0 : j - xs.length = 0 := by
        rcases Nat.eq_zero_or_pos (j - xs.length) with h | h
        · exact h
        · rw [List.getElem?_eq_none (by simp; omega)] at hj; simp at hj
      rw [h0] at hj
      simp at hj
      subst hj
      obtain rfl : j = k := by omega
      rw [Array.getElem?_setIfInBounds_self_of_lt (by omega)]
  · rw [List.map_append, hm, List.take_succ_eq_append_getElem hx, List.map_append]
    simp [e]

theorem join_words {w : World} {g n : Nat} {ts : List Tok} (h : Words w g n n ts) (hn : ts.length = n) (hv : ∀ t ∈ ts, validB t = true) (hm : n ≤ 1000000) :
    Calls Tryd.prog 38 #[.slice (some ⟨g, 0, none⟩) n n, .string ⟨#[32]⟩] w fun e w' => e = .returned (.string (mk (joinW ts))) ∧ Below w.heap.size w w' := by
  obtain ⟨arr, xs, hg, hs, hl, hc, hmp⟩ := h
  rw [List.take_of_length_le (by omega)] at hmp
  have hlen := joinW_len (ts := ts) n (fun t ht => hv t (List.mem_of_mem_take ht))
  rw [List.take_of_length_le (by omega)] at hlen
  have hj : Lib.join (xs.map fun x => x.data.toList) [32] = joinW ts := by rw [hmp]; rfl
  have := Tryd.strings_Join g 0 n xs ⟨#[32]⟩ w (fun j x hj => by
    have := hc j x hj
    simp only [Nat.zero_add]
    simp [World.cell?, hg, this]) (Array.getElem?_eq_some_iff.1 hg).1 (by omega) (by omega) (by
      show (Lib.join (xs.map fun x => x.data.toList) [32]).length ≤ _
      rw [hj]; omega)
  rw [hl] at this
  refine this.mono fun e w' hh => ⟨?_, hh.2⟩
  rw [hh.1]
  show Ending.returned (.string (mk (Lib.join (xs.map fun x => x.data.toList) [32]))) = _
  rw [hj]

set_option maxRecDepth 100000 in
set_option maxHeartbeats 8000000 in
theorem text_row (b o c : Nat) (ts : List Tok) (w : World) (hm : ts.length ≤ 1000000) (hs : ∀ t ∈ ts, t.text.size ≤ maxLen) (hb : b < w.heap.size) (hG : Globals w) (h1 : RowToks w b o ts) :
    Calls Tryd.prog 16 #[.slice (some ⟨b, o, none⟩) ts.length c] w (TextEnd w ts) := by
  have H1 := Lib.hid h1; clear h1
  have HS := Lib.hid hs; clear hs
  have HG := Lib.hid hG
  have h4 := globals_size hG
  clear hG
  generalize hn : ts.length = n at hm ⊢
  have Hn := Lib.hid hn; clear hn
  have hmk := fun W => run_make_row' (P := Tryd.prog) 40 9 (.string ⟨#[]⟩) 16 Tryd.underlying40 Tryd.info9 rfl .i64 .i64 n (by omega) (by omega) W
  go_enter Tryd.func16, Tryd.ntmps16
  go_wp2
  have HW0 := Lib.hid (show Words (w.alloc (.cells (madeCells #[.string ⟨#[]⟩] n) 9)) w.heap.size n 0 ts from ⟨_, [], heap_new w _ _ rfl, size_madeCells _ _, rfl, fun j x h => by simp at h, rfl⟩)
  have HB0 := Lib.hid ((Below.refl w.heap.size w).alloc (Nat.le_refl _) (.cells (madeCells #[.string ⟨#[]⟩] n) 9))
  generalize w.alloc (.cells (madeCells #[.string ⟨#[]⟩] n) 9) = w0 at HW0 HB0 ⊢
  generalize hg : w.heap.size = g at *
  have Hg := Lib.hid hg
  clear hg hmk
  go_loopw [5, 6, 12] (fun _ _ i wr => ∃ (k : Nat), k ≤ n ∧ i = .int .i64 k ∧ Hid (∀ t ∈ ts.take k, validB t = true) ∧ Words wr g n k ts ∧ Below g w wr) (fun _ _ i _ => n - (intOf i).toNat)
  case atStart => exact ⟨0, by omega, rfl, fun t ht => by simp at ht, HW0.out, HB0.out⟩
  case round =>
    clear HW0 HB0
    obtain ⟨k, hk, rfl, HV, hW, hB⟩ := hrel
    have HW := Lib.hid hW
    clear hW
    by_cases hlt : k < n
    · have hx : k < ts.length := by rw [Hn.out]; exact hlt
      have hts := HS.out _ (List.getElem_mem hx)
      have hnext := all_take hx HV.out
      have hbad : validB ts[k] = false → ts.all validB = false := fun h => by
        rw [List.all_eq_false]; exact ⟨_, List.getElem_mem hx, by rw [h]; simp⟩
      have hput := fun W (hh : Words W g n k ts) y (e : y.data.toList = wordOf ts[k]) => hh.put hlt hx y e
      obtain ⟨x0, x1, x2, x3⟩ := H1.out k hx
      generalize ts[k] = x at x0 x1 x2 x3 hts hnext hbad hput
      obtain ⟨xk, xt, xn, xa⟩ := x
      dsimp only at x0 x1 x2 x3 hts
      have hbg : b < g := hb
      rw [← hB.cell hbg] at x0 x1 x2 x3
      obtain ⟨⟨u, hu⟩, hfu, hgz⟩ := HW.out.cell hlt
      have hbr : b < wr.heap.size := by omega
      have hG4 := Lib.hid (HG.out.below (hB.mono (by omega)) (by omega : 4 ≤ g))
      by_cases hv : validB ⟨xk, xt, xn, xa⟩ = true
      · have Hv := Lib.hid hv
        have Hnext := Lib.hid (hnext hv)
        have Hput := Lib.hid hput
        have hcases := valid_cases hv
        dsimp only at hcases
        clear hnext hbad hv hput
        by_cases hk2 : xk = 2
        · subst hk2
          obtain ⟨N, rfl, hN⟩ : ∃ N : Nat, xn = N ∧ N ≤ 1099511627776 := by
            rcases hcases with ⟨h, _⟩ | ⟨_, _, h3, h4⟩ | ⟨h, _⟩
            · omega
            · exact ⟨xn.toNat, by omega, by omega⟩
            · omega
          have Hy := Lib.hid (show (mk (decDigits N)).data.toList = wordOf ⟨2, xt, (N : Int), xa⟩ by unfold wordOf; rw [if_pos rfl]; rfl)
          have Hdec := Lib.hid (fun W hg => itoa_is N (by omega) W hg)
          generalize mk (decDigits N) = y at Hy Hdec
          clear hcases
          go_wp2_with (first | (go_at_call 36; refine (valid_is _ _ _ _ _ Hv.out hts _).mono ?_; rintro e w1 ⟨rfl, hb1⟩; obtain ⟨hc1, hf1⟩ := bcell hb1; have hz1 := hb1.size; simp only [World.size_alloc] at hz1))
          have hB1 : Below wr.heap.size wr w1 := ((Below.refl _ wr).alloc (Nat.le_refl _) _).trans (hb1.mono (by simp))
          refine (Hdec.out _ (hG4.out.below hB1 (by omega))).mono ?_
          rintro e w2 ⟨rfl, hb2⟩
          obtain ⟨hc2, hf2⟩ := bcell hb2
          have hB2 := hB1.trans (hb2.mono (by omega))
          have HW2 := Lib.hid (Hput.out w2 (HW.out.below hB2) y Hy.out)
          have hzz := hB2.size
          have hu2 := (hB2.cell (p := ⟨g, k, none⟩) hgz).trans hu
          have hfu2 := (hB2.frozen (p := ⟨g, k, none⟩) hgz).trans hfu
          clear hc2 hf2 hc1 hf1
          go_wp2
          exact ⟨⟨k + 1, by omega, by go_num, Hnext.out, HW2.out, (hB.trans (hB2.mono (by omega))).setCell (p := ⟨g, k, none⟩) (Nat.le_refl _) _⟩, by simp [intOf]; omega⟩
        · have Hy := Lib.hid (show xt.data.toList = wordOf ⟨xk, xt, xn, xa⟩ by unfold wordOf; rw [if_neg hk2])
          have hkb : (xk == 2) = false := by simp [hk2]
          clear hcases hk2
          go_wp2_with (first | (go_at_call 36; refine (valid_is _ _ _ _ _ Hv.out hts _).mono ?_; rintro e w1 ⟨rfl, hb1⟩; obtain ⟨hc1, hf1⟩ := bcell hb1; have hz1 := hb1.size; simp only [World.size_alloc] at hz1; have hB1 : Below wr.heap.size wr w1 := ((Below.refl _ wr).alloc (Nat.le_refl _) _).trans (hb1.mono (by simp)); have HW1 := Lib.hid (Hput.out w1 (HW.out.below hB1) xt Hy.out); have hu2 := (hB1.cell (p := ⟨g, k, none⟩) hgz).trans hu; have hfu2 := (hB1.frozen (p := ⟨g, k, none⟩) hgz).trans hfu))
          exact ⟨⟨k + 1, by omega, by go_num, Hnext.out, HW1.out, (hB.trans (hB1.mono (by omega))).setCell (p := ⟨g, k, none⟩) (Nat.le_refl _) _⟩, by simp [intOf]; omega⟩
      · rw [Bool.not_eq_true] at hv
        have Hbad := Lib.hid (hbad hv)
        have Hv := Lib.hid hv
        clear hnext hbad hv hput
        go_wp2_with (first | (go_at_call 36; refine (valid_is _ _ _ _ _ Hv.out hts _).mono ?_; rintro e w1 ⟨rfl, hb1⟩))
        go_ret2
        refine ⟨?_, ?_⟩
        · rw [Hg.out]; exact (hB.alloc (by omega) _).trans (hb1.mono (by simp; omega))
        · rw [Hbad.out]; rfl
    · obtain rfl : k = n := by omega
      have e1 : ts.take k = ts := List.take_of_length_le (Nat.le_of_eq Hn.out)
      have e2 := HV.out
      rw [e1] at e2
      have Hj := Lib.hid (join_words HW.out Hn.out e2 hm)
      have He := Lib.hid (List.all_eq_true.2 e2)
      have hz : g ≤ wr.heap.size := by have := hB.size; have := Hg.out; omega
      clear e1 e2
      go_wp2_with (first | (go_at_call 38; refine Hj.out.mono ?_; rintro e w1 ⟨rfl, hb1⟩))
      go_ret2
      refine ⟨?_, ?_⟩
      · rw [Hg.out]; exact hB.trans (hb1.mono hz)
      · rw [He.out]; rfl

set_option maxRecDepth 100000 in
set_option maxHeartbeats 1000000 in
theorem text_empty (a : Option Addr) (c : Nat) (w : World) :
    Calls Tryd.prog 16 #[.slice a 0 c] w (TextEnd w []) := by
  have hmk : ∀ W, (Instr.makeSlice 40 (.int .i64 0) (.int .i64 0)).run Tryd.prog W = .ok (.slice (some ⟨W.heap.size, 0, none⟩) 0 0) (W.alloc (.cells (madeCells #[.string ⟨#[]⟩] 0) 9)) := fun W => run_make_row' (P := Tryd.prog) 40 9 (.string ⟨#[]⟩) 16 Tryd.underlying40 Tryd.info9 rfl .i64 .i64 0 (by omega) (by omega) W
  go_enter Tryd.func16, Tryd.ntmps16
  go_wp2
  refine wp_loop_rounds 1 ?_
  rw [rounds_succ]
  go_wp2_with (first | (go_at_call 38; refine (Tryd.strings_Join_none _ _ _ _).mono ?_; rintro e w1 ⟨rfl, rfl⟩))
  go_ret2
  exact ⟨(Below.refl _ _).alloc (Nat.le_refl _) _, rfl⟩
theorem text_any (v : Value) (ts : List Tok) (w : World) (h : IsToks w v ts) (hm : ts.length ≤ 1000000) (hG : Globals w) :
    Calls Tryd.prog 16 #[v] w (TextEnd w ts) := by
  obtain ⟨_, hs, ⟨rfl, a, c, rfl⟩ | ⟨b, o, c, rfl, q1, r1⟩⟩ := h
  · exact text_empty a c w
  · exact text_row b o c ts w hm hs q1 hG r1

end Go.Proofs.YtkfbhegniobecaaDoor

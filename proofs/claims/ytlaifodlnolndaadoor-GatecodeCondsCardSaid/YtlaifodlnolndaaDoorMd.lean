/- Texts W X Y Z Sb Aa in one: each says what it proves. -/
import Derived.Test.YtlaifodlnolndaaDoorMc
import Derived.Lib.Join
import Derived.Deep.OwnRows
import Derived.KernelRfl
import Derived.Test.YtlaifodlnolndaaDoorShelf
import Derived.Test.YtlaifodlnolndaaDoorTie
import Derived.ProofKit
import Derived.LaidMore
import Derived.LaidLaws
import Derived.Stop.LaidErr
import Derived.Lib.LaidTab
/- Texts of tokens: the document's Text. -/
namespace Go.Proofs.YtlaifodlnolndaaDoor
open Go.RowKit
open Go.Lib (decDigits)

/- the text of a valid token, and of valid tokens -/
def wordOf (t : Tok) : List UInt8 := if t.kind = 2 then decDigits t.n.toNat else t.text.data.toList
def joinW (ts : List Tok) : List UInt8 := Lib.join (ts.map wordOf) [32]
theorem joinTail_snoc (sep : List UInt8) (r : List (List UInt8)) (x : List UInt8) : Lib.joinTail sep (r ++ [x]) = Lib.joinTail sep r ++ (sep ++ x) := by
  unfold Lib.joinTail; simp
theorem joinW_snoc (ts : List Tok) (t : Tok) : joinW (ts ++ [t]) = (if ts = [] then [] else joinW ts ++ [32]) ++ wordOf t := by
  unfold joinW
  cases ts with
  | nil => simp [Lib.join_one]
  | cons a r =>
    rw [if_neg (by simp), List.map_append, List.map_cons, List.map_cons, List.map_nil, List.cons_append, Lib.join_cons, Lib.join_cons, joinTail_snoc]
    simp
theorem joinW_step {ts : List Tok} {k : Nat} (h : k < ts.length) : joinW (ts.take (k + 1)) = (if k = 0 then [] else joinW (ts.take k) ++ [32]) ++ wordOf ts[k] := by
  rw [List.take_succ_eq_append_getElem h, joinW_snoc]
  by_cases hk : k = 0
  · subst hk; simp
  · rw [if_neg hk, if_neg]
    intro e
    have := congrArg List.length e
    rw [List.length_take, List.length_nil] at this; omega
theorem name_len {l : List UInt8} (h : nameB l = true) : l.length ≤ 32 := by
  cases l with
  | nil => simp
  | cons c r => simp only [nameB, Bool.and_eq_true, decide_eq_true_eq] at h; exact h.1.1
theorem valid_cases {t : Tok} (h : validB t = true) : (t.kind = 1 ∧ nameB t.text.data.toList = true ∧ t.n = 0) ∨ (t.kind = 2 ∧ t.text.data.toList = [] ∧ 0 ≤ t.n ∧ t.n ≤ 1099511627776) ∨ (t.kind = 3 ∧ (∃ c, t.text.data.toList = [c] ∧ signB c = true) ∧ t.n = 0) := by
  unfold validB at h
  split at h
  · left
    simp only [Bool.and_eq_true, beq_iff_eq] at *
    exact ⟨by assumption, h⟩
  · split at h
    · right; left
      simp only [Bool.and_eq_true, beq_iff_eq, decide_eq_true_eq, List.isEmpty_iff] at *
      exact ⟨by assumption, h⟩
    · split at h
      · right; right
        simp only [Bool.and_eq_true, beq_iff_eq] at *
        refine ⟨by assumption, ?_, h.2⟩
        match hl : t.text.data.toList, h with
        | [c], h => exact ⟨c, rfl, h.1⟩
        | [], h => simp [signT] at h
        | _ :: _ :: _, h => simp [signT] at h
      · simp at h
theorem word_len {t : Tok} (h : validB t = true) : (wordOf t).length ≤ 32 := by
  unfold wordOf
  rcases valid_cases h with ⟨h1, h2, _⟩ | ⟨h1, h2, h3, h4⟩ | ⟨h1, ⟨c, h2, _⟩, _⟩
  · rw [if_neg (by omega)]; exact name_len h2
  · rw [if_pos h1]
    have := dec_len 12 t.n.toNat (by omega)
    omega
  · rw [if_neg (by omega), h2]; simp
theorem joinW_len {ts : List Tok} : ∀ k, (∀ t ∈ ts.take k, validB t = true) → (joinW (ts.take k)).length ≤ 33 * k := by
  intro k
  induction k with
  | zero => intro _; simp [joinW, Lib.join_nil]
  | succ k ih =>
    intro hv
    by_cases h : k < ts.length
    · rw [joinW_step h]
      have hw := word_len (hv ts[k] (by rw [List.take_succ_eq_append_getElem h]; exact List.mem_append_right _ (by simp)))
      have hi := ih fun t ht => hv t (by rw [List.take_succ_eq_append_getElem h]; exact List.mem_append_left _ ht)
      split
      · simp; omega
      · simp only [List.length_append, List.length_cons, List.length_nil]; omega
    · rw [List.take_of_length_le (by omega)] at hv ⊢
      rw [List.take_of_length_le (by omega)] at ih
      have := ih hv
      omega

theorem valid_is (kd : Int) (tx : ByteArray) (n a : Int) (b : Bool) (h : validB ⟨kd, tx, n, a⟩ = b) (ht : tx.size ≤ maxLen) (w : World) :
    Calls Tryd.prog 46 #[.agg #[.int .i64 kd, .string tx, .int .i64 n, .int .i64 a]] w fun e w' => e = .returned (.bool b) ∧ Below w.heap.size w w' := by
  rw [← h]; exact valid_any ⟨kd, tx, n, a⟩ w ht

/- how Text ends -/
def TextEnd (w : World) (ts : List Tok) (e : Ending) (w' : World) : Prop :=
  Below w.heap.size w w' ∧ e = .returned (if ts.all validB then .tuple #[.string (mk (joinW ts)), .int .i64 0] else .tuple #[.string ⟨#[]⟩, .int .i64 30])

theorem all_take {ts : List Tok} {k : Nat} (h : k < ts.length) (hv : ∀ t ∈ ts.take k, validB t = true) (ht : validB ts[k] = true) : ∀ t ∈ ts.take (k + 1), validB t = true := by
  intro t hh
  rw [List.take_succ_eq_append_getElem h] at hh
  rcases List.mem_append.1 hh with hh | hh
  · exact hv t hh
  · simp at hh; subst hh; exact ht

end Go.Proofs.YtlaifodlnolndaaDoor

/- Texts of tokens: the program's Text. -/
namespace Go.Proofs.YtlaifodlnolndaaDoor
open Go.RowKit Go.Deep
open Go.Lib (decDigits)

theorem Tryd.info9 : (Tryd.prog.info? 9).map (fun i => (i.zero, i.size, i.bytes)) = some (some (.string ⟨#[]⟩), 1, 16) := by kernel_rfl

/- the words that have been laid so far -/
def Words (w : World) (g n k : Nat) (ts : List Tok) : Prop :=
  ∃ (arr : Array Value) (xs : List ByteArray), w.heap[g]? = some (.cells arr 9 (0, 0)) ∧ arr.size = n ∧ xs.length = k ∧ (∀ (j : Nat) (x : ByteArray), xs[j]? = some x → arr[j]? = some (.string x)) ∧ xs.map (fun x => x.data.toList) = (ts.take k).map wordOf
theorem Words.cell {w : World} {g n k : Nat} {ts : List Tok} (h : Words w g n k ts) (hk : k < n) : (∃ u, w.cell? ⟨g, k, none⟩ = some u) ∧ w.frozen? ⟨g, k, none⟩ = false ∧ g < w.heap.size := by
  obtain ⟨arr, xs, hg, hs, _⟩ := h
  refine ⟨⟨arr[k], by simp [World.cell?, hg, Array.getElem?_eq_getElem (show k < arr.size by omega)]⟩, by simp [World.frozen?, hg], (Array.getElem?_eq_some_iff.1 hg).1⟩
theorem Words.below {w w' : World} {g n k : Nat} {ts : List Tok} (h : Words w g n k ts) (hb : Below w.heap.size w w') : Words w' g n k ts := by
  obtain ⟨arr, xs, hg, r⟩ := h
  exact ⟨arr, xs, (hb.block g (Array.getElem?_eq_some_iff.1 hg).1).trans hg, r⟩
theorem Words.put {w : World} {g n k : Nat} {ts : List Tok} (h : Words w g n k ts) (hk : k < n) (hx : k < ts.length) (x : ByteArray) (e : x.data.toList = wordOf ts[k]) : Words (w.setCell ⟨g, k, none⟩ (.string x)) g n (k + 1) ts := by
  obtain ⟨arr, xs, hg, hs, hl, hc, hm⟩ := h
  refine ⟨arr.setIfInBounds k (.string x), xs ++ [x], by simp [World.setCell, Array.getElem?_modify, hg], by simpa using hs, by simp [hl], ?_, ?_⟩
  · intro j y hj
    by_cases hjk : j < k
    · rw [List.getElem?_append_left (by omega)] at hj
      rw [Array.getElem?_setIfInBounds_ne (by omega)]
      exact hc j y hj
    · rw [List.getElem?_append_right (by omega)] at hj
      have h0 : j - xs.length = 0 := by
        rcases Nat.eq_zero_or_pos (j - xs.length) with h | h
        · exact h
        · rw [List.getElem?_eq_none (by simp; omega)] at hj; simp at hj
      rw [h0] at hj
      simp at hj
      subst hj
      obtain rfl : j = k := by omega
      rw [Array.getElem?_setIfInBounds_self_of_lt (by omega)]
  · rw [List.map_append, hm, List.take_succ_eq_append_getElem hx, List.map_append]
    simp [e]

theorem join_words {w : World} {g n : Nat} {ts : List Tok} (h : Words w g n n ts) (hn : ts.length = n) (hv : ∀ t ∈ ts, validB t = true) (hm : n ≤ 1000000) :
    Calls Tryd.prog 26 #[.slice (some ⟨g, 0, none⟩) n n, .string ⟨#[32]⟩] w fun e w' => e = .returned (.string (mk (joinW ts))) ∧ Below w.heap.size w w' := by
  obtain ⟨arr, xs, hg, hs, hl, hc, hmp⟩ := h
  rw [List.take_of_length_le (by omega)] at hmp
  have hlen := joinW_len (ts := ts) n (fun t ht => hv t (List.mem_of_mem_take ht))
  rw [List.take_of_length_le (by omega)] at hlen
  have hj : Lib.join (xs.map fun x => x.data.toList) [32] = joinW ts := by rw [hmp]; rfl
  have := Tryd.strings_Join g 0 n xs ⟨#[32]⟩ w (fun j x hj => by
    have := hc j x hj
    simp only [Nat.zero_add]
    simp [World.cell?, hg, this]) (Array.getElem?_eq_some_iff.1 hg).1 (by omega) (by omega) (by
      show (Lib.join (xs.map fun x => x.data.toList) [32]).length ≤ _
      rw [hj]; omega)
  rw [hl] at this
  refine this.mono fun e w' hh => ⟨?_, hh.2⟩
  rw [hh.1]
  show Ending.returned (.string (mk (Lib.join (xs.map fun x => x.data.toList) [32]))) = _
  rw [hj]

set_option maxRecDepth 100000 in
set_option maxHeartbeats 8000000 in
theorem text_row (b o c : Nat) (ts : List Tok) (w : World) (hm : ts.length ≤ 1000000) (hs : ∀ t ∈ ts, t.text.size ≤ maxLen) (hb : b < w.heap.size) (hG : Globals w) (h1 : RowToks w b o ts) :
    Calls Tryd.prog 21 #[.slice (some ⟨b, o, none⟩) ts.length c] w (TextEnd w ts) := by
  have H1 := Lib.hid h1; clear h1
  have HS := Lib.hid hs; clear hs
  have HG := Lib.hid hG
  have h4 := globals_size hG
  clear hG
  generalize hn : ts.length = n at hm ⊢
  have Hn := Lib.hid hn; clear hn
  have hmk := fun W => run_make_row' (P := Tryd.prog) 58 9 (.string ⟨#[]⟩) 16 Tryd.underlying58 Tryd.info9 rfl .i64 .i64 n (by omega) (by omega) W
  go_enter Tryd.func21, Tryd.ntmps21
  go_wp2
  have HW0 := Lib.hid (show Words (w.alloc (.cells (madeCells #[.string ⟨#[]⟩] n) 9)) w.heap.size n 0 ts from ⟨_, [], heap_new w _ _ rfl, size_madeCells _ _, rfl, fun j x h => by simp at h, rfl⟩)
  have HB0 := Lib.hid ((Below.refl w.heap.size w).alloc (Nat.le_refl _) (.cells (madeCells #[.string ⟨#[]⟩] n) 9))
  generalize w.alloc (.cells (madeCells #[.string ⟨#[]⟩] n) 9) = w0 at HW0 HB0 ⊢
  generalize hg : w.heap.size = g at *
  have Hg := Lib.hid hg
  clear hg hmk
  go_loopw [5, 6, 12] (fun _ _ i wr => ∃ (k : Nat), k ≤ n ∧ i = .int .i64 k ∧ Hid (∀ t ∈ ts.take k, validB t = true) ∧ Words wr g n k ts ∧ Below g w wr) (fun _ _ i _ => n - (intOf i).toNat)
  case atStart => exact ⟨0, by omega, rfl, fun t ht => by simp at ht, HW0.out, HB0.out⟩
  case round =>
    clear HW0 HB0
    obtain ⟨k, hk, rfl, HV, hW, hB⟩ := hrel
    have HW := Lib.hid hW
    clear hW
    by_cases hlt : k < n
    · have hx : k < ts.length := by rw [Hn.out]; exact hlt
      have hts := HS.out _ (List.getElem_mem hx)
      have hnext := all_take hx HV.out
      have hbad : validB ts[k] = false → ts.all validB = false := fun h => by
        rw [List.all_eq_false]; exact ⟨_, List.getElem_mem hx, by rw [h]; simp⟩
      have hput := fun W (hh : Words W g n k ts) y (e : y.data.toList = wordOf ts[k]) => hh.put hlt hx y e
      obtain ⟨x0, x1, x2, x3⟩ := H1.out k hx
      generalize ts[k] = x at x0 x1 x2 x3 hts hnext hbad hput
      obtain ⟨xk, xt, xn, xa⟩ := x
      dsimp only at x0 x1 x2 x3 hts
      have hbg : b < g := hb
      rw [← hB.cell hbg] at x0 x1 x2 x3
      obtain ⟨⟨u, hu⟩, hfu, hgz⟩ := HW.out.cell hlt
      have hbr : b < wr.heap.size := by omega
      have hG4 := Lib.hid (HG.out.below (hB.mono (by omega)) (by omega : 4 ≤ g))
      by_cases hv : validB ⟨xk, xt, xn, xa⟩ = true
      · have Hv := Lib.hid hv
        have Hnext := Lib.hid (hnext hv)
        have Hput := Lib.hid hput
        have hcases := valid_cases hv
        dsimp only at hcases
        clear hnext hbad hv hput
        by_cases hk2 : xk = 2
        · subst hk2
          obtain ⟨N, rfl, hN⟩ : ∃ N : Nat, xn = N ∧ N ≤ 1099511627776 := by
            rcases hcases with ⟨h, _⟩ | ⟨_, _, h3, h4⟩ | ⟨h, _⟩
            · omega
            · exact ⟨xn.toNat, by omega, by omega⟩
            · omega
          have Hy := Lib.hid (show (mk (decDigits N)).data.toList = wordOf ⟨2, xt, (N : Int), xa⟩ by unfold wordOf; rw [if_pos rfl]; rfl)
          have Hdec := Lib.hid (fun W hg => itoa_is N (by omega) W hg)
          generalize mk (decDigits N) = y at Hy Hdec
          clear hcases
          go_wp2_with (first | (go_at_call 46; refine (valid_is _ _ _ _ _ Hv.out hts _).mono ?_; rintro e w1 ⟨rfl, hb1⟩; obtain ⟨hc1, hf1⟩ := bcell hb1; have hz1 := hb1.size; simp only [World.size_alloc] at hz1))
          have hB1 : Below wr.heap.size wr w1 := ((Below.refl _ wr).alloc (Nat.le_refl _) _).trans (hb1.mono (by simp))
          refine (Hdec.out _ (hG4.out.below hB1 (by omega))).mono ?_
          rintro e w2 ⟨rfl, hb2⟩
          obtain ⟨hc2, hf2⟩ := bcell hb2
          have hB2 := hB1.trans (hb2.mono (by omega))
          have HW2 := Lib.hid (Hput.out w2 (HW.out.below hB2) y Hy.out)
          have hzz := hB2.size
          have hu2 := (hB2.cell (p := ⟨g, k, none⟩) hgz).trans hu
          have hfu2 := (hB2.frozen (p := ⟨g, k, none⟩) hgz).trans hfu
          clear hc2 hf2 hc1 hf1
          go_wp2
          exact ⟨⟨k + 1, by omega, by go_num, Hnext.out, HW2.out, (hB.trans (hB2.mono (by omega))).setCell (p := ⟨g, k, none⟩) (Nat.le_refl _) _⟩, by simp [intOf]; omega⟩
        · have Hy := Lib.hid (show xt.data.toList = wordOf ⟨xk, xt, xn, xa⟩ by unfold wordOf; rw [if_neg hk2])
          have hkb : (xk == 2) = false := by simp [hk2]
          clear hcases hk2
          go_wp2_with (first | (go_at_call 46; refine (valid_is _ _ _ _ _ Hv.out hts _).mono ?_; rintro e w1 ⟨rfl, hb1⟩; obtain ⟨hc1, hf1⟩ := bcell hb1; have hz1 := hb1.size; simp only [World.size_alloc] at hz1; have hB1 : Below wr.heap.size wr w1 := ((Below.refl _ wr).alloc (Nat.le_refl _) _).trans (hb1.mono (by simp)); have HW1 := Lib.hid (Hput.out w1 (HW.out.below hB1) xt Hy.out); have hu2 := (hB1.cell (p := ⟨g, k, none⟩) hgz).trans hu; have hfu2 := (hB1.frozen (p := ⟨g, k, none⟩) hgz).trans hfu))
          exact ⟨⟨k + 1, by omega, by go_num, Hnext.out, HW1.out, (hB.trans (hB1.mono (by omega))).setCell (p := ⟨g, k, none⟩) (Nat.le_refl _) _⟩, by simp [intOf]; omega⟩
      · rw [Bool.not_eq_true] at hv
        have Hbad := Lib.hid (hbad hv)
        have Hv := Lib.hid hv
        clear hnext hbad hv hput
        go_wp2_with (first | (go_at_call 46; refine (valid_is _ _ _ _ _ Hv.out hts _).mono ?_; rintro e w1 ⟨rfl, hb1⟩))
        go_ret2
        refine ⟨?_, ?_⟩
        · rw [Hg.out]; exact (hB.alloc (by omega) _).trans (hb1.mono (by simp; omega))
        · rw [Hbad.out]; rfl
    · obtain rfl : k = n := by omega
      have e1 : ts.take k = ts := List.take_of_length_le (Nat.le_of_eq Hn.out)
      have e2 := HV.out
      rw [e1] at e2
      have Hj := Lib.hid (join_words HW.out Hn.out e2 hm)
      have He := Lib.hid (List.all_eq_true.2 e2)
      have hz : g ≤ wr.heap.size := by have := hB.size; have := Hg.out; omega
      clear e1 e2
      go_wp2_with (first | (go_at_call 26; refine Hj.out.mono ?_; rintro e w1 ⟨rfl, hb1⟩))
      go_ret2
      refine ⟨?_, ?_⟩
      · rw [Hg.out]; exact hB.trans (hb1.mono hz)
      · rw [He.out]; rfl

set_option maxRecDepth 100000 in
set_option maxHeartbeats 1000000 in
theorem text_empty (a : Option Addr) (c : Nat) (w : World) :
    Calls Tryd.prog 21 #[.slice a 0 c] w (TextEnd w []) := by
  have hmk : ∀ W, (Instr.makeSlice 58 (.int .i64 0) (.int .i64 0)).run Tryd.prog W = .ok (.slice (some ⟨W.heap.size, 0, none⟩) 0 0) (W.alloc (.cells (madeCells #[.string ⟨#[]⟩] 0) 9)) := fun W => run_make_row' (P := Tryd.prog) 58 9 (.string ⟨#[]⟩) 16 Tryd.underlying58 Tryd.info9 rfl .i64 .i64 0 (by omega) (by omega) W
  go_enter Tryd.func21, Tryd.ntmps21
  go_wp2
  refine wp_loop_rounds 1 ?_
  rw [rounds_succ]
  go_wp2_with (first | (go_at_call 26; refine (Tryd.strings_Join_none _ _ _ _).mono ?_; rintro e w1 ⟨rfl, rfl⟩))
  go_ret2
  exact ⟨(Below.refl _ _).alloc (Nat.le_refl _) _, rfl⟩
theorem text_any (v : Value) (ts : List Tok) (w : World) (h : IsToks w v ts) (hm : ts.length ≤ 1000000) (hG : Globals w) :
    Calls Tryd.prog 21 #[v] w (TextEnd w ts) := by
  obtain ⟨_, hs, ⟨rfl, a, c, rfl⟩ | ⟨b, o, c, rfl, q1, r1⟩⟩ := h
  · exact text_empty a c w
  · exact text_row b o c ts w hm hs q1 hG r1

end Go.Proofs.YtlaifodlnolndaaDoor

/- The examples with which each statement begins. -/
namespace Go.Proofs.YtlaifodlnolndaaDoor
open Go.RowKit

theorem sc1 : scan [115, 117, 109, 32, 51, 48, 59] 0 = .ok [⟨1, mk [115, 117, 109], 0, 0⟩, ⟨2, mk [], 30, 4⟩, ⟨3, mk [59], 0, 6⟩] := by kernel_rfl
theorem sc2 : scan [48, 48, 55] 0 = .error 0 := by kernel_rfl
theorem sc3 : scan [49, 48, 57, 57, 53, 49, 49, 54, 50, 55, 55, 55, 54] 0 = .ok [⟨2, mk [], 1099511627776, 0⟩] := by kernel_rfl
theorem sc4 : scan [97, 32, 47, 47, 32, 98] 0 = .ok [⟨1, mk [97], 0, 0⟩] := by kernel_rfl
theorem sc5 : scan [97, 32, 36] 0 = .error 2 := by kernel_rfl
theorem sc6 : scan [97, 61, 49] 0 = .ok [⟨1, mk [97], 0, 0⟩, ⟨3, mk [61], 0, 1⟩, ⟨2, mk [], 1, 2⟩] := by kernel_rfl
theorem sc7 : joinW [⟨1, mk [97], 0, 0⟩, ⟨3, mk [61], 0, 1⟩, ⟨2, mk [], 1, 2⟩] = [97, 32, 61, 32, 49] := by kernel_rfl

/- Lex, by its end -/
theorem lex_ok (s : ByteArray) (ts : List Tok) (h : scan s.data.toList 0 = .ok ts) (w : World) (hs : s.size ≤ 65536) (hG : Globals w) :
    Calls Tryd.prog 20 #[.string s] w fun e w' => ∃ v, e = .returned (.tuple #[v, .int .i64 0, .int .i64 0]) ∧ IsToks w' v ts ∧ Below w.heap.size w w' := by
  refine (lex_any s w hs hG).mono fun e w' hh => ?_
  obtain ⟨hb, hr⟩ := hh
  rw [h] at hr
  obtain ⟨v, he, hv⟩ := hr
  exact ⟨v, he, hv, hb⟩
theorem lex_err (s : ByteArray) (k : Nat) (h : scan s.data.toList 0 = .error k) (w : World) (hs : s.size ≤ 65536) (hG : Globals w) :
    Calls Tryd.prog 20 #[.string s] w fun e w' => e = .returned (.tuple #[.slice none 0 0, .int .i64 k, .int .i64 30]) ∧ Below w.heap.size w w' := by
  refine (lex_any s w hs hG).mono fun e w' hh => ?_
  obtain ⟨hb, hr⟩ := hh
  rw [h] at hr
  exact ⟨hr, hb⟩
theorem text_ok (v : Value) (ts : List Tok) (w : World) (h : IsToks w v ts) (hm : ts.length ≤ 1000000) (hG : Globals w) (hv : ts.all validB = true) :
    Calls Tryd.prog 21 #[v] w fun e w' => e = .returned (.tuple #[.string (mk (joinW ts)), .int .i64 0]) ∧ Below w.heap.size w w' := by
  refine (text_any v ts w h hm hG).mono fun e w' hh => ?_
  obtain ⟨hb, hr⟩ := hh
  rw [hv] at hr
  exact ⟨hr, hb⟩
theorem text_err (v : Value) (ts : List Tok) (w : World) (h : IsToks w v ts) (hm : ts.length ≤ 1000000) (hG : Globals w) (hv : ts.all validB = false) :
    Calls Tryd.prog 21 #[v] w fun e w' => e = .returned (.tuple #[.string ⟨#[]⟩, .int .i64 30]) ∧ Below w.heap.size w w' := by
  refine (text_any v ts w h hm hG).mono fun e w' hh => ?_
  obtain ⟨hb, hr⟩ := hh
  rw [hv] at hr
  exact ⟨hr, hb⟩
theorem IsToks.below {w w' : World} {v : Value} {ts : List Tok} (h : IsToks w v ts) (hb : Below w.heap.size w w') : IsToks w' v ts := by
  obtain ⟨h1, h2, h3 | ⟨b, o, c, hv, hlt, hr⟩⟩ := h
  · exact ⟨h1, h2, .inl h3⟩
  · refine ⟨h1, h2, .inr ⟨b, o, c, hv, Nat.lt_of_lt_of_le hlt hb.size, fun i hi => ?_⟩⟩
    obtain ⟨a0, a1, a2, a3⟩ := hr i hi
    exact ⟨(hb.cell (p := ⟨b, _, none⟩) hlt).trans a0, (hb.cell (p := ⟨b, _, none⟩) hlt).trans a1, (hb.cell (p := ⟨b, _, none⟩) hlt).trans a2, (hb.cell (p := ⟨b, _, none⟩) hlt).trans a3⟩
/- tokens in a block laid just now -/
theorem isToks_new (w : World) (ts : List Tok) (hne : 0 < ts.length) (hlen : ts.length ≤ 1000000) (ht : ∀ t ∈ ts, t.text.size ≤ maxLen) (arr : Array Value) (harr : arr = (ts.flatMap fun t => t.cells.toList).toArray) :
    IsToks (w.alloc (.cells arr 44)) (.slice (some ⟨w.heap.size, 0, none⟩) ts.length ts.length) ts := by
  refine OwnToks.isToks (B := 0) ?_ (by omega) ht
  have hl : (ts.flatMap fun t => t.cells.toList).length = ts.length * 4 := by
    clear hne hlen ht harr
    induction ts with
    | nil => rfl
    | cons t r ih => rw [List.flatMap_cons, List.length_append, ih]; unfold Tok.cells; simp; omega
  refine ⟨hl, .inr ⟨w.heap.size, ts.length, arr, rfl, Nat.zero_le _, heap_new w _ _ rfl, Nat.le_refl _, by unfold maxLen; omega, ?_, ?_⟩⟩
  · rw [harr]; simpa using hl
  · rw [harr]; exact List.take_of_length_le (Nat.le_of_eq hl)
theorem Globals.next {w1 w2 : World} (h : Globals w1) (hb : Below w1.heap.size w1 w2) : Globals w2 := h.below hb (globals_size h)
/- what a value reads as, and the library's variables, amid a call -/
def Has (w : World) (l : List (Value × List Tok)) : Prop := Globals w ∧ ∀ x ∈ l, IsToks w x.1 x.2
theorem Has.next {w1 w2 : World} {l : List (Value × List Tok)} (h : Has w1 l) (hb : Below w1.heap.size w1 w2) : Has w2 l := ⟨h.1.next hb, fun x hx => (h.2 x hx).below hb⟩
theorem Has.add {w : World} {l : List (Value × List Tok)} (h : Has w l) {v : Value} {ts : List Tok} (hv : IsToks w v ts) : Has w ((v, ts) :: l) := ⟨h.1, fun x hx => by
  rcases List.mem_cons.1 hx with rfl | hx
  · exact hv
  · exact h.2 x hx⟩

theorem IsToks.one {w : World} {v : Value} {t : Tok} (h : IsToks w v [t]) : ∃ b o c, v = .slice (some ⟨b, o, none⟩) 1 c := by
  obtain ⟨_, _, ⟨h, _⟩ | ⟨b, o, c, rfl, _⟩⟩ := h
  · simp at h
  · exact ⟨b, o, c, rfl⟩
theorem IsToks.cells1 {w : World} {b o c : Nat} {t : Tok} (h : IsToks w (.slice (some ⟨b, o, none⟩) 1 c) [t]) : w.cell? ⟨b, o + 2, none⟩ = some (.int .i64 t.n) ∧ w.cell? ⟨b, o + 1, none⟩ = some (.string t.text) := by
  obtain ⟨_, _, ⟨h, _⟩ | ⟨b', o', c', he, _, hr⟩⟩ := h
  · simp at h
  · obtain ⟨_, h1, h2, _⟩ := hr 0 (by simp)
    simp only [Value.slice.injEq, Option.some.injEq, Addr.mk.injEq] at he
    obtain ⟨⟨rfl, rfl, _⟩, _, rfl⟩ := he
    simpa using ⟨h2, h1⟩
theorem name_is (s : ByteArray) (b : Bool) (h : nameB s.data.toList = b) (w : World) (hs : s.size ≤ 1000000) : Calls Tryd.prog 62 #[.string s] w fun e w' => e = .returned (.bool b) ∧ w = w' := by
  rw [← h]; exact name_any s w (by unfold maxLen; omega)
theorem n1 : nameB (ByteArray.mk #[66, 95, 49, 50]).data.toList = true := by decide +kernel
theorem n2 : nameB (ByteArray.mk #[95, 49, 50]).data.toList = false := by decide +kernel

end Go.Proofs.YtlaifodlnolndaaDoor

/- The statements' walks: LexSpec. -/
namespace Go.Proofs.YtlaifodlnolndaaDoor
open Go.RowKit

theorem equalB_refl : ∀ l : List Tok, equalB l l = true := by
  intro l
  unfold equalB
  have h1 : sameB l l = true := by
    induction l with
    | nil => rfl
    | cons t r ih => rw [sameB, ih]; simp [sameT]
  have h2 : atsB l l = true := by
    induction l with
    | nil => rfl
    | cons t r ih => rw [atsB, ih (by rw [sameB] at h1; simp at h1; exact h1.2)]; simp
  rw [h1, h2]; rfl

theorem isToks_nil (w : World) : IsToks w (.slice none 0 0) [] := ⟨by simp, by simp, .inl ⟨rfl, _, _, rfl⟩⟩

end Go.Proofs.YtlaifodlnolndaaDoor

/- A builder's WriteString at this program: the library's contract, laid over the numbers of Join's laying. -/
namespace Go.Proofs
open Go.Shelf
theorem Tryd.lays166 : Go.Proofs.Lays.n166 Tryd.prog Tryd.lays156_ren := {
  mixed := Tryd.lays156.mixed,
  f166 := Tryd.lays156.f166,
  f240 := Tryd.lays156.f240,
  f276 := Tryd.lays156.f276,
  t0 := Tryd.lays156.t0,
  a0 := Tryd.lays156.a0,
  z0 := Tryd.lays156.z0,
  v0 := Tryd.lays156.v0,
  t3 := Tryd.lays156.t3,
  a3 := Tryd.lays156.a3,
  z3 := Tryd.lays156.z3,
  v3 := Tryd.lays156.v3,
  t4 := Tryd.lays156.t4,
  a4 := Tryd.lays156.a4,
  z4 := Tryd.lays156.z4,
  v4 := Tryd.lays156.v4,
  t9 := Tryd.lays156.t9,
  a9 := Tryd.lays156.a9,
  z9 := Tryd.lays156.z9,
  v9 := Tryd.lays156.v9,
  t20 := Tryd.lays156.t20,
  a20 := Tryd.lays156.a20,
  z20 := Tryd.lays156.z20,
  v20 := Tryd.lays156.v20,
  t37 := Tryd.lays156.t37,
  a37 := Tryd.lays156.a37,
  z37 := Tryd.lays156.z37,
  v37 := Tryd.lays156.v37,
  t70 := Tryd.lays156.t70,
  a70 := Tryd.lays156.a70,
  z70 := Tryd.lays156.z70,
  v70 := Tryd.lays156.v70,
  t72 := Tryd.lays156.t72,
  a72 := Tryd.lays156.a72,
  z72 := Tryd.lays156.z72,
  v72 := Tryd.lays156.v72,
  t75 := Tryd.lays156.t75,
  a75 := Tryd.lays156.a75,
  z75 := Tryd.lays156.z75,
  v75 := Tryd.lays156.v75,
  t164 := Tryd.lays156.t164,
  a164 := Tryd.lays156.a164,
  z164 := Tryd.lays156.z164,
  v164 := Tryd.lays156.v164 }
theorem Tryd.Builder_WriteString (B b : Nat) (bs : List Value) (s : ByteArray) (w : World) (h : Lib.IsBuilder 57 5 B b bs w) (hlen : bs.length + s.size ≤ 140737488355328) (hBw : B ≤ w.heap.size) :
    Calls Tryd.prog 25 #[.pointer (some ⟨b, 0, none⟩), .string s] w fun e w' => e = .returned (.tuple #[.int .i64 s.size, .nilIface]) ∧ (Lib.BuilderAt 57 5 B b (.pointer (some ⟨b, 0, none⟩)) (bs ++ Lib.strCells s) w' ∧ RowKit.Below B w w') := Any.Builder_WriteString Tryd.lays166 Tryd.Builder_Extra_156 B b bs s w h hlen hBw

end Go.Proofs

/-
  PROVED HERE: what the rows' condition on the listed package variables gives the walks ('globals_of_laid': strconv.ErrRange holds an error value, internal/strconv.uint64pow10 is the table of powers of ten), and that the door's own heap meets that condition ('door_met'). No condition beyond the row's.
-/
namespace Go.Proofs.YtlaifodlnolndaaDoor
open Go.ChangeShapes Go.WideShapes Go.RowKit

theorem own : ownKnob Tryd.prog.godebug = none := by kernel_rfl
theorem laidOut : laidOutB Tryd.prog = true := by kernel_rfl

/-- What the rows list. -/
def laidAll : List (String × DataW Unit) := [("math/bits.deBruijn32tab", Rows.laid_math_bits_deBruijn32tab), ("math/bits.deBruijn64tab", Rows.laid_math_bits_deBruijn64tab), ("internal/strconv.uint64pow10", Rows.laid_internal_strconv_uint64pow10), ("strconv.ErrRange", Rows.laid_strconv_ErrRange), ("strconv.ErrSyntax", Rows.laid_strconv_ErrSyntax)]

theorem gTab : Tryd.prog.globalNamed "internal/strconv.uint64pow10" = some 0 := by kernel_rfl
theorem gTabType : (Tryd.prog.globals[0]?).map (·.type) = some 130 := by kernel_rfl
theorem gErr : Tryd.prog.globalNamed "strconv.ErrRange" = some 3 := by kernel_rfl
theorem gErrType : (Tryd.prog.globals[3]?).map (·.type) = some 62 := by kernel_rfl
theorem cells130 : Tryd.prog.cellsOf 130 = 20 := by kernel_rfl
theorem cells114 : Tryd.prog.cellsOf 114 = 1 := by kernel_rfl
theorem cells145 : Tryd.prog.cellsOf 145 = 1 := by kernel_rfl
theorem cells9 : Tryd.prog.cellsOf 9 = 1 := by kernel_rfl
theorem starErr : "*" ++ "errors.errorString" = "*errors.errorString" := by decide
theorem row106 (u : TypeId) (h : Tryd.prog.typeName? 3 u = some "*errors.errorString") : u = 143 :=
  typeName_ptr_named (nm := "errors.errorString") (by rw [starErr]; kernel_rfl) (by kernel_rfl) (by decide) u (by rw [starErr]; exact h)
theorem powIs : (Rows.laid_internal_strconv_uint64pow10 : DataW Unit) = Lib.tabData .u64 Lib.pow10Tab := by kernel_rfl

/-- What the condition gives the walks. -/
theorem globals_of_laid {W : World} (h : laidMetH Tryd.prog laidAll W) : Globals W := by
  rw [MakeChecks.laidMetH_plain _ _ _ (by kernel_rfl)] at h
  have h3 := laidMet.tail (laidMet.tail h)
  rw [powIs] at h3
  refine ⟨?_, Lib.tabIs_of_head gTab gTabType Tryd.underlying130 Tryd.underlying114 cells114 cells130 h3⟩
  have h4 := laidMet.tail h3
  obtain ⟨a0, s0, hv0, -, -, -⟩ := laid_sentinel h4 gErr gErrType Tryd.underlying62 row106 Tryd.underlying143 Tryd.underlying145 rfl rfl Tryd.underlying9 cells145 cells9
  exact ⟨_, _, hv0⟩

/-- The door's own heap meets the condition. -/
theorem door_met (os : Os) (args : Array Value) : laidMetH Tryd.prog laidAll ((World.doorLaid Tryd.prog 400 os).forCall (fun _ _ => 0) ⟨#[], args, []⟩).memory :=
  laidMetH_of_parts3 (fuel := 8) (laidMet_of_run' 8 (by kernel_rfl) (by kernel_rfl)) (by kernel_rfl) (by kernel_rfl)

end Go.Proofs.YtlaifodlnolndaaDoor

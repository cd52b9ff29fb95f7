/- Texts of tokens: the document's Text. -/
import Derived.Test.YtkfbhegniobecaaDoorV
import Derived.Lib.Join
namespace Go.Proofs.YtkfbhegniobecaaDoor
open Go.RowKit
open Go.Lib (decDigits)

/- the text of a valid token, and of valid tokens -/
def wordOf (t : Tok) : List UInt8 := if t.kind = 2 then decDigits t.n.toNat else t.text.data.toList
def joinW (ts : List Tok) : List UInt8 := Lib.join (ts.map wordOf) [32]
theorem joinTail_snoc (sep : List UInt8) (r : List (List UInt8)) (x : List UInt8) : Lib.joinTail sep (r ++ [x]) = Lib.joinTail sep r ++ (sep ++ x) := by
  unfold Lib.joinTail; simp
theorem joinW_snoc (ts : List Tok) (t : Tok) : joinW (ts ++ [t]) = (if ts = [] then [] else joinW ts ++ [32]) ++ wordOf t := by
  unfold joinW
  cases ts with
  | nil => simp [Lib.join_one]
  | cons a r =>
    rw [if_neg (by simp), List.map_append, List.map_cons, List.map_cons, List.map_nil, List.cons_append, Lib.join_cons, Lib.join_cons, joinTail_snoc]
    simp
theorem joinW_step {ts : List Tok} {k : Nat} (h : k < ts.length) : joinW (ts.take (k + 1)) = (if k = 0 then [] else joinW (ts.take k) ++ [32]) ++ wordOf ts[k] := by
  rw [List.take_succ_eq_append_getElem h, joinW_snoc]
  by_cases hk : k = 0
  · subst hk; simp
  · rw [if_neg hk, if_neg]
    intro e
    have := congrArg List.length e
    rw [List.length_take, List.length_nil] at this; omega
theorem name_len {l : List UInt8} (h : nameB l = true) : l.length ≤ 32 := by
  cases l with
  | nil => simp
  | cons c r => simp only [nameB, Bool.and_eq_true, decide_eq_true_eq] at h; exact h.1.1
theorem valid_cases {t : Tok} (h : validB t = true) : (t.kind = 1 ∧ nameB t.text.data.toList = true ∧ t.n = 0) ∨ (t.kind = 2 ∧ t.text.data.toList = [] ∧ 0 ≤ t.n ∧ t.n ≤ 1099511627776) ∨ (t.kind = 3 ∧ (∃ c, t.text.data.toList = [c] ∧ signB c = true) ∧ t.n = 0) := by
  unfold validB at h
  split at h
  · left
    simp only [Bool.and_eq_true, beq_iff_eq] at *
    exact ⟨by assumption, h⟩
  · split at h
    · right; left
      simp only [Bool.and_eq_true, beq_iff_eq, decide_eq_true_eq, List.isEmpty_iff] at *
      exact ⟨by assumption, h⟩
    · split at h
      · right; right
        simp only [Bool.and_eq_true, beq_iff_eq] at *
        refine ⟨by assumption, ?_, h.2⟩
        match hl : t.text.data.toList, h with
        | [c], h => exact ⟨c, rfl, h.1⟩
        | [], h => simp [signT] at h
        | _ :: _ :: _, h => simp [signT] at h
      · simp at h
theorem word_len {t : Tok} (h : validB t = true) : (wordOf t).length ≤ 32 := by
  unfold wordOf
  rcases valid_cases h with ⟨h1, h2, _⟩ | ⟨h1, h2, h3, h4⟩ | ⟨h1, ⟨c, h2, _⟩, _⟩
  · rw [if_neg (by omega)]; exact name_len h2
  · rw [if_pos h1]
    have := dec_len 12 t.n.toNat (by omega)
    omega
  · rw [if_neg (by omega), h2]; simp
theorem joinW_len {ts : List Tok} : ∀ k, (∀ t ∈ ts.take k, validB t = true) → (joinW (ts.take k)).length ≤ 33 * k := by
  intro k
  induction k with
  | zero => intro _; simp [joinW, Lib.join_nil]
  | succ k ih =>
    intro hv
    by_cases h : k < ts.length
    · rw [joinW_step h]
      have hw := word_len (hv ts[k] (by rw [List.take_succ_eq_append_getElem h]; exact List.mem_append_right _ (by simp)))
      have hi := ih fun t ht => hv t (by rw [List.take_succ_eq_append_getElem h]; exact List.mem_append_left _ ht)
      split
      · simp; omega
      · simp only [List.length_append, List.length_cons, List.length_nil]; omega
    · rw [List.take_of_length_le (by omega)] at hv ⊢
      rw [List.take_of_length_le (by omega)] at ih
      have := ih hv
      omega

theorem refvalid_is (kd : Int) (tx : ByteArray) (n a : Int) (b : Bool) (h : validB ⟨kd, tx, n, a⟩ = b) (ht : tx.size ≤ maxLen) (w : World) :
    Calls Tryd.prog 39 #[.agg #[.int .i64 kd, .string tx, .int .i64 n, .int .i64 a]] w fun e w' => e = .returned (.bool b) ∧ Below w.heap.size w w' := by
  rw [← h]; exact refvalid_any ⟨kd, tx, n, a⟩ w ht
theorem valid_is (kd : Int) (tx : ByteArray) (n a : Int) (b : Bool) (h : validB ⟨kd, tx, n, a⟩ = b) (ht : tx.size ≤ maxLen) (w : World) :
    Calls Tryd.prog 36 #[.agg #[.int .i64 kd, .string tx, .int .i64 n, .int .i64 a]] w fun e w' => e = .returned (.bool b) ∧ Below w.heap.size w w' := by
  rw [← h]; exact valid_any ⟨kd, tx, n, a⟩ w ht

/- how Text ends -/
def TextEnd (w : World) (ts : List Tok) (e : Ending) (w' : World) : Prop :=
  Below w.heap.size w w' ∧ e = .returned (if ts.all validB then .tuple #[.string (mk (joinW ts)), .int .i64 0] else .tuple #[.string ⟨#[]⟩, .int .i64 30])

theorem all_take {ts : List Tok} {k : Nat} (h : k < ts.length) (hv : ∀ t ∈ ts.take k, validB t = true) (ht : validB ts[k] = true) : ∀ t ∈ ts.take (k + 1), validB t = true := by
  intro t hh
  rw [List.take_succ_eq_append_getElem h] at hh
  rcases List.mem_append.1 hh with hh | hh
  · exact hv t hh
  · simp at hh; subst hh; exact ht

set_option maxRecDepth 100000 in
set_option maxHeartbeats 8000000 in
theorem reftext_row (b o c : Nat) (ts : List Tok) (w : World) (hm : ts.length ≤ 1000000) (hs : ∀ t ∈ ts, t.text.size ≤ maxLen) (hb : b < w.heap.size) (h1 : RowToks w b o ts) :
    Calls Tryd.prog 17 #[.slice (some ⟨b, o, none⟩) ts.length c] w (TextEnd w ts) := by
  have H1 := Lib.hid h1; clear h1
  have HS := Lib.hid hs; clear hs
  generalize hn : ts.length = n at hm ⊢
  have Hn := Lib.hid hn; clear hn
  go_enter Tryd.func17, Tryd.ntmps17
  go_wp2
  go_loopw [4, 5] (fun sv i wr => ∃ (k : Nat) (s : ByteArray), k ≤ n ∧ i = .int .i64 k ∧ sv = .string s ∧ s.size ≤ 33 * k ∧ Hid (s.data.toList = joinW (ts.take k)) ∧ Hid (∀ t ∈ ts.take k, validB t = true) ∧ Below w.heap.size w wr) (fun _ i _ => n - (intOf i).toNat)
  case atStart => exact ⟨0, _, by omega, rfl, rfl, Nat.zero_le _, rfl, fun t ht => by simp at ht, Below.refl _ _⟩
  case round =>
    obtain ⟨k, s, hk, rfl, rfl, hsz, HJ, HV, hB⟩ := hrel
    by_cases hlt : k < n
    · have hx : k < ts.length := by rw [Hn.out]; exact hlt
      have hstep := joinW_step hx
      have hts := HS.out _ (List.getElem_mem hx)
      have hnext := all_take hx HV.out
      have hbad : validB ts[k] = false → ts.all validB = false := fun h => by
        rw [List.all_eq_false]; exact ⟨_, List.getElem_mem hx, by rw [h]; simp⟩
      have hwl := fun (hvv : validB ts[k] = true) => word_len hvv
      obtain ⟨x0, x1, x2, x3⟩ := H1.out k hx
      generalize ts[k] = x at x0 x1 x2 x3 hstep hts hnext hbad hwl
      obtain ⟨xk, xt, xn, xa⟩ := x
      dsimp only at x0 x1 x2 x3 hts
      rw [← hB.cell hb] at x0 x1 x2 x3
      have hz := hB.size
      have hbr : b < wr.heap.size := by omega
      rw [← HJ.out] at hstep
      by_cases hv : validB ⟨xk, xt, xn, xa⟩ = true
      · have Hv := Lib.hid hv
        have hw32 := hwl hv
        have Hnext := Lib.hid (hnext hv)
        have hcases := valid_cases hv
        dsimp only at hcases
        clear hnext hbad hwl hv
        unfold wordOf at hstep hw32
        dsimp only at hstep hw32
        by_cases hk2 : xk = 2
        · subst hk2
          obtain ⟨N, rfl, hN⟩ : ∃ N : Nat, xn = N ∧ N ≤ 1099511627776 := by
            rcases hcases with ⟨h, _⟩ | ⟨_, _, h3, h4⟩ | ⟨h, _⟩
            · omega
            · exact ⟨xn.toNat, by omega, by omega⟩
            · omega
          rw [if_pos rfl, Int.toNat_natCast] at hstep hw32
          have hyl : (mk (decDigits N)).data.toList = decDigits N := rfl
          have hysz : (mk (decDigits N)).size ≤ 32 := by rw [← length_toList, hyl]; exact hw32
          have Hdec := Lib.hid (fun W => decimal_any N W hN)
          change Hid (∀ W, Calls Tryd.prog 40 #[.int .i64 N] W fun e w' => e = .returned (.string (mk (decDigits N))) ∧ Below W.heap.size W w') at Hdec
          rw [← hyl] at hstep
          generalize mk (decDigits N) = y at hstep hysz Hdec
          have Hstep := Lib.hid hstep
          clear hstep hcases hw32 hyl hN
          by_cases hk0 : k = 0
          · have Hk0 := Lib.hid hk0
            have hkd : k < 1 := by omega
            clear hk0
            go_wp2_with (first | (go_at_call 39; refine (refvalid_is _ _ _ _ _ Hv.out hts _).mono ?_; rintro e w1 ⟨rfl, hb1⟩; obtain ⟨hc1, hf1⟩ := bcell hb1; have hz1 := hb1.size) | (go_at_call 40; refine (Hdec.out _).mono ?_; rintro e w2 ⟨rfl, hb2⟩))
            exact ⟨⟨k + 1, s ++ y, by omega, by go_num, rfl, by rw [ByteArray.size_append]; omega, (show (s ++ y).data.toList = _ by rw [data_app, Hstep.out, if_pos Hk0.out]; have := HJ.out; rw [Hk0.out] at this; rw [this]; rfl), Hnext.out, (hB.trans (hb1.mono hz)).trans (hb2.mono (by omega))⟩, by simp [intOf]; omega⟩
          · have Hk0 := Lib.hid hk0
            have hkd : 0 < k := by omega
            clear hk0
            go_wp2_with (first | (go_at_call 39; refine (refvalid_is _ _ _ _ _ Hv.out hts _).mono ?_; rintro e w1 ⟨rfl, hb1⟩; obtain ⟨hc1, hf1⟩ := bcell hb1; have hz1 := hb1.size) | (go_at_call 40; refine (Hdec.out _).mono ?_; rintro e w2 ⟨rfl, hb2⟩))
            exact ⟨⟨k + 1, _, by omega, by go_num, rfl, by rw [ByteArray.size_append, ByteArray.size_append]; show s.size + 1 + y.size ≤ _; omega, (show (s ++ ⟨#[32]⟩ ++ y).data.toList = _ by rw [data_app, data_app, Hstep.out, if_neg Hk0.out]), Hnext.out, (hB.trans (hb1.mono hz)).trans (hb2.mono (by omega))⟩, by simp [intOf]; omega⟩
        · rw [if_neg hk2] at hstep hw32
          have hxs : xt.size ≤ 32 := by rw [← length_toList]; exact hw32
          have hkb : (xk == 2) = false := by simp [hk2]
          have Hstep := Lib.hid hstep
          clear hstep hcases hw32 hk2
          by_cases hk0 : k = 0
          · have Hk0 := Lib.hid hk0
            have hkd : k < 1 := by omega
            clear hk0
            go_wp2_with (first | (go_at_call 39; refine (refvalid_is _ _ _ _ _ Hv.out hts _).mono ?_; rintro e w1 ⟨rfl, hb1⟩; obtain ⟨hc1, hf1⟩ := bcell hb1; have hz1 := hb1.size))
            exact ⟨⟨k + 1, s ++ xt, by omega, by go_num, rfl, by rw [ByteArray.size_append]; omega, (show (s ++ xt).data.toList = _ by rw [data_app, Hstep.out, if_pos Hk0.out]; have := HJ.out; rw [Hk0.out] at this; rw [this]; rfl), Hnext.out, hB.trans (hb1.mono hz)⟩, by simp [intOf]; omega⟩
          · have Hk0 := Lib.hid hk0
            have hkd : 0 < k := by omega
            clear hk0
            go_wp2_with (first | (go_at_call 39; refine (refvalid_is _ _ _ _ _ Hv.out hts _).mono ?_; rintro e w1 ⟨rfl, hb1⟩; obtain ⟨hc1, hf1⟩ := bcell hb1; have hz1 := hb1.size))
            exact ⟨⟨k + 1, _, by omega, by go_num, rfl, by rw [ByteArray.size_append, ByteArray.size_append]; show s.size + 1 + xt.size ≤ _; omega, (show (s ++ ⟨#[32]⟩ ++ xt).data.toList = _ by rw [data_app, data_app, Hstep.out, if_neg Hk0.out]), Hnext.out, hB.trans (hb1.mono hz)⟩, by simp [intOf]; omega⟩
      · rw [Bool.not_eq_true] at hv
        have Hbad := Lib.hid (hbad hv)
        have Hv := Lib.hid hv
        clear hstep hnext hbad hwl hv
        go_wp2_with (first | (go_at_call 39; refine (refvalid_is _ _ _ _ _ Hv.out hts _).mono ?_; rintro e w1 ⟨rfl, hb1⟩))
        go_ret2
        refine ⟨hB.trans (hb1.mono hz), ?_⟩
        rw [Hbad.out]; rfl
    · go_wp2
      go_ret2
      obtain rfl : k = n := by omega
      refine ⟨hB, ?_⟩
      have e1 : ts.take k = ts := List.take_of_length_le (Nat.le_of_eq Hn.out)
      have e2 := HV.out
      have e3 := HJ.out
      rw [e1] at e2 e3
      rw [if_pos (List.all_eq_true.2 e2), ← mk_eq e3]
      rfl

set_option maxRecDepth 100000 in
set_option maxHeartbeats 1000000 in
theorem reftext_empty (a : Option Addr) (c : Nat) (w : World) :
    Calls Tryd.prog 17 #[.slice a 0 c] w (TextEnd w []) := by
  go_enter Tryd.func17, Tryd.ntmps17
  go_wp2
  refine wp_loop_rounds 1 ?_
  rw [rounds_succ]
  go_wp2
  go_ret2
  exact ⟨Below.refl _ _, rfl⟩
theorem reftext_any (v : Value) (ts : List Tok) (w : World) (h : IsToks w v ts) (hm : ts.length ≤ 1000000) :
    Calls Tryd.prog 17 #[v] w (TextEnd w ts) := by
  obtain ⟨_, hs, ⟨rfl, a, c, rfl⟩ | ⟨b, o, c, rfl, q1, r1⟩⟩ := h
  · exact reftext_empty a c w
  · exact reftext_row b o c ts w hm hs q1 r1

end Go.Proofs.YtkfbhegniobecaaDoor

/- The scanner's methods: number. -/
import Derived.Test.YtkfbhegniobecaaDoorQ
import Derived.Lib.ItoaMem
import Derived.Lib.AtoiErrMem
namespace Go.Proofs.YtkfbhegniobecaaDoor
open Go.RowKit
open Go.Lib (decDigits parseUint10 parseMag atoiAll NumEnd itoa)

/- a scanner amid a call -/
structure St (p : Nat) (s : ByteArray) (i : Nat) (v : Value) (acc : List Tok) (w0 w : World) : Prop where
  cells : ScanCells w p s i v
  own : OwnToks (p + 1) w v acc
  below : Below p w0 w
  glob : Globals w
theorem ScanCells.below {w w' : World} {p : Nat} {s : ByteArray} {i : Nat} {v : Value} (h : ScanCells w p s i v) (hb : Below w.heap.size w w') : ScanCells w' p s i v := by
  have hlt := (scan_cell h).2.2.2.2.2
  unfold ScanCells at h ⊢
  rw [hb.block p hlt]; exact h
theorem St.next {p : Nat} {s : ByteArray} {i : Nat} {v : Value} {acc : List Tok} {w0 w w' : World} (h : St p s i v acc w0 w) (hp : 6 ≤ p) (hb : Below w.heap.size w w') : St p s i v acc w0 w' := by
  have hlt := (scan_cell h.cells).2.2.2.2.2
  exact ⟨h.cells.below hb, h.own.of_below hb, h.below.trans (hb.mono (by omega)), h.glob.below hb (by omega)⟩
theorem grow_below (w : World) (os : Array Obj) : Below w.heap.size w (Go.Sort.grow w os) := by
  refine ⟨rfl, rfl, rfl, by simp, fun k hk => ?_⟩
  show (w.heap ++ os)[k]? = _
  rw [Array.getElem?_append_left hk]

theorem atoi_ok (s : ByteArray) (n : Int) (h : atoiAll s.data.toList = .ok n) (w : World) (hs : s.size ≤ 65536) :
    Calls Tryd.prog 45 #[.string s] w fun e w' => e = .returned (.tuple #[.int .i64 n, .nilIface]) ∧ Below w.heap.size w w' := by
  refine (Tryd.strconv_Atoi_ok s (by omega) n h w).mono fun e w' hh => ⟨hh.1, ?_⟩
  rcases hh.2 with rfl | ⟨t, rfl⟩
  · exact Below.refl _ _
  · exact Lib.bytesWorld_below w 5 t
theorem atoi_range (s : ByteArray) (h : atoiAll s.data.toList = .range) (w : World) (hs : s.size ≤ 65536) (hg : Globals w) :
    Calls Tryd.prog 45 #[.string s] w fun e w' => ∃ (n : Int) (N : Nat), e = .returned (.tuple #[.int .i64 n, .iface 79 (.pointer (some ⟨N, 0, none⟩))]) ∧ Below w.heap.size w w' := by
  obtain ⟨⟨tp, p, hv⟩, _⟩ := hg
  exact (Tryd.strconv_Atoi_range_var s (by omega) h tp p w hv).mono fun e w' ⟨N, he, _, _, hb⟩ => ⟨_, N, he, hb⟩
theorem itoa_is (n : Nat) (hn : n < 9223372036854775808) (w : World) (hg : Globals w) :
    Calls Tryd.prog 37 #[.int .i64 n] w fun e w' => e = .returned (.string (mk (decDigits n))) ∧ Below w.heap.size w w' := by
  refine (Tryd.strconv_Itoa n (by omega) (by omega) w hg.2).mono fun e w' ⟨he, k, os, hw⟩ => ⟨?_, ?_⟩
  · rw [he, Lib.itoa_nonneg]; rfl
  · subst hw
    exact (below_drewN (Below.refl w.heap.size w) k).trans (grow_below (w.drewN k) os)

set_option maxRecDepth 100000 in
set_option maxHeartbeats 4000000 in
theorem number_step (p : Nat) (s : ByteArray) (i : Nat) (v : Value) (acc : List Tok) (w : World) (hp6 : 6 ≤ p) (hp : ScanCells w p s i v) (hown : OwnToks (p + 1) w v acc) (hG : Globals w) (hs : s.size ≤ 65536) (hi : i < s.size) (hd : digitB s[i] = true) (hacc : acc.length ≤ i) (r : Except Nat (Nat × List Tok))
    (hr : r = if (refNumber (s.extract i (i + spanL digitB s i)).data.toList).2 then .ok (i + spanL digitB s i, acc ++ [⟨2, ⟨#[]⟩, (refNumber (s.extract i (i + spanL digitB s i)).data.toList).1, i⟩]) else .error i) :
    Calls Tryd.prog 28 #[.pointer (some ⟨p, 0, none⟩)] w (Stepped p s w r) := by
  obtain ⟨c0, c1, c2, f1, f2, hlt⟩ := scan_cell hp
  have Hr := Lib.hid (run_any p s i v w.heap.size 1 1 [3] (w.alloc (.cells #[.int .i64 3] 3)) hs (by omega) (hp.alloc _) rfl (by omega) (fun j hj => by
    obtain rfl : j = 0 := by (simp at hj; omega)
    simp [go_sem]))
  rw [in_digit] at Hr
  have hle := span_le digitB s i (by omega)
  have hpos := span_pos (p := digitB) hi hd
  have hsz := extract_size (s := s) (show i ≤ i + spanL digitB s i by omega) hle
  have hl := span_take digitB s i
  have hall : (s.extract i (i + spanL digitB s i)).data.toList.all digitB = true := by
    rw [hl]; exact List.all_takeWhile
  clear hl
  generalize spanL digitB s i = T at Hr hle hsz hr hall hpos
  generalize s.extract i (i + T) = x at Hr hsz hr hall
  have hne : x.data.toList ≠ [] := by intro e; have := length_toList x; rw [e] at this; simp at this; omega
  have hT := Lib.hid (show i + T = i + x.size by omega)
  have hx1 : x.size ≤ 65536 := by omega
  have h0 : St p s i v acc w w := ⟨hp, hown, Below.refl _ _, hG⟩
  have H0 := Lib.hid h0
  have href := ref_is hne hall
  have hat := atoi_eq hne hall
  clear hsz hp hown hG h0 hall hne
  generalize valD 0 x.data.toList = V at href hat
  by_cases hbig : V < 9223372036854775808
  · rw [if_pos hbig] at hat
    have Hat := Lib.hid (fun W => atoi_ok x (V : Int) hat W hx1)
    have Hit := Lib.hid (fun W hg => itoa_is V hbig W hg)
    clear hat hd
    by_cases hback : decDigits V = x.data.toList
    · have hy : ((mk (decDigits V)).toList == x.toList) = true := by rw [beq_iff_eq, ByteArray.toList_eq, ByteArray.toList_eq]; exact hback
      by_cases h40 : V ≤ 1099511627776
      · rw [if_pos h40, decide_eq_true hback] at href
        rw [href] at hr
        simp only [if_true] at hr
        have Hrr := Lib.hid hr
        have Hv := Lib.hid (show validB ⟨2, ⟨#[]⟩, (V : Int), 0⟩ = true by rw [valid_number rfl rfl]; simp; omega)
        generalize mk (decDigits V) = y at Hit hy
        clear hr href hback
        go_enter Tryd.func28, Tryd.ntmps28
        go_wp2_with (first | (go_at_call 43; refine Hr.out.mono ?_; rintro e w1 ⟨rfl, q, rfl⟩))
        have H1 := Lib.hid (H0.out.next hp6 (w' := (w.alloc (.cells #[.int .i64 3] 3)).drewN q) (below_drewN ((Below.refl _ w).alloc (Nat.le_refl _) _) q))
        generalize ((w.alloc (.cells #[.int .i64 3] 3)).drewN q) = w1 at H1 ⊢
        refine (Hat.out _).mono ?_
        rintro e w2 ⟨rfl, hb⟩
        have H2 := Lib.hid (H1.out.next hp6 hb)
        clear hb
        go_wp2_with fail
        refine (Hit.out _ H2.out.glob).mono ?_
        rintro e w3 ⟨rfl, hb⟩
        have H3 := Lib.hid (H2.out.next hp6 hb)
        clear hb
        go_wp2_with fail
        refine (add_yes p s i v acc x 2 ⟨#[]⟩ V 0 w _ H3.out.below H3.out.cells H3.out.own (by omega) (by omega) (by omega) (Nat.zero_le _) Hv.out _ hT.out).mono ?_
        rintro e w4 ⟨rfl, hst⟩
        rw [← Hrr.out] at hst
        go_wp2
        go_end0
        exact hst
      · rw [if_neg h40] at href
        rw [href] at hr
        simp only [Bool.false_eq_true, if_false] at hr
        have Hrr := Lib.hid hr
        have Hv := Lib.hid (show validB ⟨2, ⟨#[]⟩, (V : Int), 0⟩ = false by rw [valid_number rfl rfl]; simp; omega)
        generalize mk (decDigits V) = y at Hit hy
        clear hr href hback
        go_enter Tryd.func28, Tryd.ntmps28
        go_wp2_with (first | (go_at_call 43; refine Hr.out.mono ?_; rintro e w1 ⟨rfl, q, rfl⟩))
        have H1 := Lib.hid (H0.out.next hp6 (w' := (w.alloc (.cells #[.int .i64 3] 3)).drewN q) (below_drewN ((Below.refl _ w).alloc (Nat.le_refl _) _) q))
        generalize ((w.alloc (.cells #[.int .i64 3] 3)).drewN q) = w1 at H1 ⊢
        refine (Hat.out _).mono ?_
        rintro e w2 ⟨rfl, hb⟩
        have H2 := Lib.hid (H1.out.next hp6 hb)
        clear hb
        go_wp2_with fail
        refine (Hit.out _ H2.out.glob).mono ?_
        rintro e w3 ⟨rfl, hb⟩
        have H3 := Lib.hid (H2.out.next hp6 hb)
        clear hb
        go_wp2_with fail
        refine (add_no p s i v x 2 ⟨#[]⟩ V 0 w _ H3.out.below H3.out.cells (Nat.zero_le _) Hv.out).mono ?_
        rintro e w4 ⟨rfl, hst⟩
        rw [← Hrr.out] at hst
        exact ⟨rfl, hst⟩
    · have hy : ((mk (decDigits V)).toList == x.toList) = false := by rw [beq_eq_false_iff_ne, ByteArray.toList_eq, ByteArray.toList_eq]; exact hback
      have h2 : (refNumber x.data.toList).2 = false := by
        rw [href]; split
        · exact decide_eq_false hback
        · rfl
      rw [h2] at hr
      simp only [Bool.false_eq_true, if_false] at hr
      have Hrr := Lib.hid hr
      generalize mk (decDigits V) = y at Hit hy
      clear hr href hback h2
      go_enter Tryd.func28, Tryd.ntmps28
      go_wp2_with (first | (go_at_call 43; refine Hr.out.mono ?_; rintro e w1 ⟨rfl, q, rfl⟩))
      have H1 := Lib.hid (H0.out.next hp6 (w' := (w.alloc (.cells #[.int .i64 3] 3)).drewN q) (below_drewN ((Below.refl _ w).alloc (Nat.le_refl _) _) q))
      generalize ((w.alloc (.cells #[.int .i64 3] 3)).drewN q) = w1 at H1 ⊢
      refine (Hat.out _).mono ?_
      rintro e w2 ⟨rfl, hb⟩
      have H2 := Lib.hid (H1.out.next hp6 hb)
      clear hb
      go_wp2_with fail
      refine (Hit.out _ H2.out.glob).mono ?_
      rintro e w3 ⟨rfl, hb⟩
      have H3 := Lib.hid (H2.out.next hp6 hb)
      clear hb c0 c1 c2 f1 f2 hlt
      obtain ⟨c0, c1, c2, f1, f2, hlt⟩ := scan_cell H3.out.cells
      go_wp2_with fail
      refine ⟨rfl, ?_⟩
      rw [Hrr.out]
      exact ⟨H3.out.below, rfl⟩
  · rw [if_neg hbig] at hat
    rw [if_neg (show ¬ V ≤ 1099511627776 by omega)] at href
    rw [href] at hr
    simp only [Bool.false_eq_true, if_false] at hr
    have Hrr := Lib.hid hr
    have Hat := Lib.hid (fun W hg => atoi_range x hat W hx1 hg)
    clear hr hat hbig href hd
    go_enter Tryd.func28, Tryd.ntmps28
    go_wp2_with (first | (go_at_call 43; refine Hr.out.mono ?_; rintro e w1 ⟨rfl, q, rfl⟩))
    have H1 := Lib.hid (H0.out.next hp6 (w' := (w.alloc (.cells #[.int .i64 3] 3)).drewN q) (below_drewN ((Below.refl _ w).alloc (Nat.le_refl _) _) q))
    generalize ((w.alloc (.cells #[.int .i64 3] 3)).drewN q) = w1 at H1 ⊢
    refine (Hat.out _ H1.out.glob).mono ?_
    rintro e w2 ⟨n, N, rfl, hb⟩
    have H2 := Lib.hid (H1.out.next hp6 hb)
    clear hb c0 c1 c2 f1 f2 hlt
    obtain ⟨c0, c1, c2, f1, f2, hlt⟩ := scan_cell H2.out.cells
    go_wp2_with fail
    refine ⟨rfl, ?_⟩
    rw [Hrr.out]
    exact ⟨H2.out.below, rfl⟩

end Go.Proofs.YtkfbhegniobecaaDoor

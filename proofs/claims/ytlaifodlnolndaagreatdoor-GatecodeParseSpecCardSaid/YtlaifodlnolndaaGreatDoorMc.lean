/- Texts Q R S T U V in one: each says what it proves. -/
import Derived.Test.YtlaifodlnolndaaGreatDoorMb
import Derived.Lib.ItoaMem
import Derived.Lib.AtoiErrMem
import Derived.Recover
import Derived.Laws.EntriesVeiled
/- Digits and numbers: the program reads a number by strconv, the document digit by digit. -/
namespace Go.Proofs.YtlaifodlnolndaaGreatDoor
open Go.RowKit
open Go.Lib (decDigits parseUint10 parseMag atoiAll NumEnd itoa)

def stepD (n : Nat) (c : UInt8) : Nat := 10 * n + (c.toNat - 48)
def valD (n : Nat) (l : List UInt8) : Nat := l.foldl stepD n
theorem valD_nil (n : Nat) : valD n [] = n := rfl
theorem valD_cons (n : Nat) (c : UInt8) (r : List UInt8) : valD n (c :: r) = valD (10 * n + (c.toNat - 48)) r := by simp only [valD, List.foldl_cons, stepD]
theorem valD_le : ∀ (l : List UInt8) (n : Nat), n ≤ valD n l
  | [], n => Nat.le_refl n
  | c :: r, n => by have := valD_le r (10 * n + (c.toNat - 48)); rw [valD_cons]; omega
theorem numF_eq : ∀ (l : List UInt8) (n : Nat), n ≤ 1099511627776 → numF n l = if valD n l ≤ 1099511627776 then some (valD n l) else none
  | [], n, h => by rw [numF, valD_nil, if_pos h]
  | c :: r, n, h => by
    rw [numF, valD_cons]
    by_cases hb : 10 * n + (c.toNat - 48) > 1099511627776
    · rw [if_pos hb, if_neg (by have := valD_le r (10 * n + (c.toNat - 48)); omega)]
    · rw [if_neg hb, numF_eq r _ (by omega)]
theorem parse_eq : ∀ (l : List UInt8) (n : Nat), l.all digitB = true → n < 18446744073709551616 → parseUint10 n l = if valD n l < 18446744073709551616 then .ok (valD n l) else .range
  | [], n, _, h => by rw [parseUint10, valD_nil, if_pos h]
  | c :: r, n, hd, h => by
    rw [List.all_cons, Bool.and_eq_true] at hd
    have hc := digit_le hd.1
    have hv := valD_le r (10 * n + (c.toNat - 48))
    have e : n * 10 + (c.toNat - 48) = 10 * n + (c.toNat - 48) := by omega
    rw [parseUint10, if_pos hc, valD_cons]
    by_cases h1 : 1844674407370955162 ≤ n
    · rw [if_pos h1, if_neg (by omega)]
    · rw [if_neg h1, e]
      by_cases h2 : 18446744073709551616 ≤ 10 * n + (c.toNat - 48)
      · rw [if_pos h2, if_neg (by omega)]
      · rw [if_neg h2, parse_eq r _ hd.2 (by omega)]
theorem atoi_eq {l : List UInt8} (hne : l ≠ []) (hd : l.all digitB = true) : atoiAll l = if valD 0 l < 9223372036854775808 then .ok (valD 0 l : Int) else .range := by
  cases l with
  | nil => exact (hne rfl).elim
  | cons c r =>
    have hc := digit_le ((List.all_eq_true.1 hd) c (by simp))
    unfold atoiAll
    simp only
    rw [if_neg (by omega)]
    unfold parseMag
    rw [if_neg hne, parse_eq _ _ hd (by omega)]
    by_cases h1 : valD 0 (c :: r) < 18446744073709551616
    · rw [if_pos h1]
      simp only
      by_cases h2 : valD 0 (c :: r) < 9223372036854775808
      · rw [if_pos h2, if_neg (by omega), if_neg (by omega), if_neg (by omega)]
      · rw [if_neg h2, if_pos (by omega)]
    · rw [if_neg h1, if_neg (by omega)]
theorem valD_snoc (l : List UInt8) (n : Nat) (c : UInt8) : valD n (l ++ [c]) = 10 * valD n l + (c.toNat - 48) := by
  simp only [valD, List.foldl_append, List.foldl_cons, List.foldl_nil, stepD]
theorem dec_snoc {m : Nat} (hm : 0 < m) {c : UInt8} (hc : digitB c = true) : decDigits (10 * m + (c.toNat - 48)) = decDigits m ++ [c] := by
  have h := digit_le hc
  rw [dec_ge (by omega), show (10 * m + (c.toNat - 48)) / 10 = m by omega, show (10 * m + (c.toNat - 48)) % 10 = c.toNat - 48 by omega, show 48 + (c.toNat - 48) = c.toNat by omega]
  congr 2
  simp
theorem valD_pos {c : UInt8} {r : List UInt8} (hc : digitB c = true) (h : c ≠ 48) : 0 < valD 0 (c :: r) := by
  have h1 := digit_le hc
  have h2 : c.toNat ≠ 48 := fun e => h (UInt8.toNat_inj.1 e)
  have := valD_le r (10 * 0 + (c.toNat - 48))
  rw [valD_cons]; omega
theorem dec_back (c : UInt8) (hc : digitB c = true) (h : c ≠ 48) : ∀ (n : Nat) (r : List UInt8), r.length = n → r.all digitB = true → decDigits (valD 0 (c :: r)) = c :: r
  | 0, r, hn, _ => by
    obtain rfl := List.length_eq_zero_iff.1 hn
    have h1 := digit_le hc
    rw [valD_cons, valD_nil, dec_lt (by omega)]
    congr 1
    rw [show 48 + (10 * 0 + (c.toNat - 48)) % 10 = c.toNat by omega]; simp
  | n + 1, r, hn, hr => by
    have hne : r ≠ [] := by intro e; subst e; simp at hn
    have e := (List.dropLast_concat_getLast hne).symm
    generalize r.dropLast = q at e
    generalize r.getLast hne = d at e
    subst e
    rw [List.all_append, Bool.and_eq_true] at hr
    have hd : digitB d = true := by simpa using hr.2
    rw [← List.cons_append, valD_snoc, dec_snoc (valD_pos hc h) hd, dec_back c hc h n q (by simpa using hn) hr.1]
theorem dec_head : ∀ (k n : Nat), n < 10 ^ (k + 1) → (decDigits n).head? = some 48 → n = 0
  | 0, n, hn, h => by
    rw [dec_lt (by omega)] at h
    have h1 : UInt8.ofNat (48 + n % 10) = 48 := by simpa only [List.head?_cons, Option.some.injEq] using h
    have h2 := UInt8.toNat_ofNat_of_lt (n := 48 + n % 10) (by simp only [UInt8.size]; omega)
    have h2' : (UInt8.ofNat (48 + n % 10)).toNat = 48 + n % 10 := h2
    rw [h1] at h2'
    have h3 : 48 = 48 + n % 10 := h2'
    omega
  | k + 1, n, hn, h => by
    by_cases h1 : n < 10
    · exact dec_head 0 n (by omega) h
    · have hp := dec_pos (n / 10)
      rw [dec_ge h1, List.head?_append] at h
      cases hq : decDigits (n / 10) with
      | nil => rw [hq] at hp; simp at hp
      | cons a q =>
      rw [hq] at h
      simp only [List.head?_cons, Option.some_or] at h
      have := dec_head k (n / 10) (by rw [Nat.pow_succ] at hn; omega) (by rw [hq]; exact h)
      omega
theorem dec_iff {l : List UInt8} (hne : l ≠ []) (hd : l.all digitB = true) : decDigits (valD 0 l) = l ↔ (l.length = 1 ∨ l.head? ≠ some 48) := by
  cases l with
  | nil => exact (hne rfl).elim
  | cons c r =>
    rw [List.all_cons, Bool.and_eq_true] at hd
    constructor
    · intro e
      by_cases hh : (c :: r).head? = some 48
      · left
        rw [← e] at hh
        have h0 := dec_head (valD 0 (c :: r)) (valD 0 (c :: r)) (Nat.lt_of_lt_of_le Nat.lt_two_pow_self (Nat.le_trans (Nat.pow_le_pow_left (by omega) _) (Nat.pow_le_pow_right (by omega) (by omega)))) hh
        rw [← e, h0, dec_lt (by omega)]; rfl
      · exact .inr hh
    · intro h
      by_cases hc : c = 48
      · rcases h with h | h
        · obtain rfl : r = [] := List.length_eq_zero_iff.1 (by simpa using h)
          subst hc; rw [valD_cons, valD_nil, dec_lt (by decide)]; rfl
        · exact (h (by rw [hc]; rfl)).elim
      · exact dec_back c hd.1 hc _ r rfl hd.2

/- the reading of a number by the document, in these words -/
theorem ref_is {l : List UInt8} (hne : l ≠ []) (hd : l.all digitB = true) : refNumber l = if valD 0 l ≤ 1099511627776 then ((valD 0 l : Int), decide (decDigits (valD 0 l) = l)) else (0, false) := by
  unfold refNumber
  rw [numF_eq l 0 (by omega)]
  by_cases h : valD 0 l ≤ 1099511627776
  · rw [if_pos h, if_pos h]
    simp only
    congr 1
    rw [Bool.eq_iff_iff]
    simp only [Bool.or_eq_true, decide_eq_true_eq]
    exact (dec_iff hne hd).symm
  · rw [if_neg h, if_neg h]

/- what the library's variables hold -/
def Globals (w : World) : Prop := (∃ tp p, w.var? Tryz.prog "strconv.ErrRange" = some #[.iface tp p]) ∧ Lib.TabIs Tryz.prog w "internal/strconv.uint64pow10" .u64 Lib.pow10Tab
theorem gRange : Tryz.prog.globalNamed "strconv.ErrRange" = some 3 := by kernel_rfl
theorem gPow : Tryz.prog.globalNamed "internal/strconv.uint64pow10" = some 0 := by kernel_rfl
theorem Globals.below {B : Nat} {w w' : World} (h : Globals w) (hb : Below B w w') (hB : 4 ≤ B) : Globals w' := by
  obtain ⟨⟨tp, p, h1⟩, h2⟩ := h
  exact ⟨⟨tp, p, var?_below hb gRange (by omega) h1⟩, var?_below hb gPow (by omega) h2⟩

end Go.Proofs.YtlaifodlnolndaaGreatDoor

/- The scanner's methods: number. -/
namespace Go.Proofs.YtlaifodlnolndaaGreatDoor
open Go.RowKit
open Go.Lib (decDigits parseUint10 parseMag atoiAll NumEnd itoa)

/- a scanner amid a call -/
structure St (p : Nat) (s : ByteArray) (i : Nat) (v : Value) (acc : List Tok) (w0 w : World) : Prop where
  cells : ScanCells w p s i v
  own : OwnToks (p + 1) w v acc
  below : Below p w0 w
  glob : Globals w
theorem ScanCells.below {w w' : World} {p : Nat} {s : ByteArray} {i : Nat} {v : Value} (h : ScanCells w p s i v) (hb : Below w.heap.size w w') : ScanCells w' p s i v := by
  have hlt := (scan_cell h).2.2.2.2.2
  unfold ScanCells at h ⊢
  rw [hb.block p hlt]; exact h
theorem St.next {p : Nat} {s : ByteArray} {i : Nat} {v : Value} {acc : List Tok} {w0 w w' : World} (h : St p s i v acc w0 w) (hp : 6 ≤ p) (hb : Below w.heap.size w w') : St p s i v acc w0 w' := by
  have hlt := (scan_cell h.cells).2.2.2.2.2
  exact ⟨h.cells.below hb, h.own.of_below hb, h.below.trans (hb.mono (by omega)), h.glob.below hb (by omega)⟩
theorem grow_below (w : World) (os : Array Obj) : Below w.heap.size w (Go.Sort.grow w os) := by
  refine ⟨rfl, rfl, rfl, by simp, fun k hk => ?_⟩
  show (w.heap ++ os)[k]? = _
  rw [Array.getElem?_append_left hk]

theorem atoi_ok (s : ByteArray) (n : Int) (h : atoiAll s.data.toList = .ok n) (w : World) (hs : s.size ≤ 65536) :
    Calls Tryz.prog 54 #[.string s] w fun e w' => e = .returned (.tuple #[.int .i64 n, .nilIface]) ∧ Below w.heap.size w w' := by
  refine (Tryz.strconv_Atoi_ok s (by omega) n h w).mono fun e w' hh => ⟨hh.1, ?_⟩
  rcases hh.2 with rfl | ⟨t, rfl⟩
  · exact Below.refl _ _
  · exact Lib.bytesWorld_below w 5 t
theorem atoi_range (s : ByteArray) (h : atoiAll s.data.toList = .range) (w : World) (hs : s.size ≤ 65536) (hg : Globals w) :
    Calls Tryz.prog 54 #[.string s] w fun e w' => ∃ (n : Int) (N : Nat), e = .returned (.tuple #[.int .i64 n, .iface 125 (.pointer (some ⟨N, 0, none⟩))]) ∧ Below w.heap.size w w' := by
  obtain ⟨⟨tp, p, hv⟩, _⟩ := hg
  exact (Tryz.strconv_Atoi_range_var s (by omega) h tp p w hv).mono fun e w' ⟨N, he, _, _, hb⟩ => ⟨_, N, he, hb⟩
theorem itoa_is (n : Nat) (hn : n < 9223372036854775808) (w : World) (hg : Globals w) :
    Calls Tryz.prog 19 #[.int .i64 n] w fun e w' => e = .returned (.string (mk (decDigits n))) ∧ Below w.heap.size w w' := by
  refine (Tryz.strconv_Itoa n (by omega) (by omega) w hg.2).mono fun e w' ⟨he, k, os, hw⟩ => ⟨?_, ?_⟩
  · rw [he, Lib.itoa_nonneg]; rfl
  · subst hw
    exact (below_drewN (Below.refl w.heap.size w) k).trans (grow_below (w.drewN k) os)

set_option maxRecDepth 100000 in
set_option maxHeartbeats 4000000 in
theorem number_step (p : Nat) (s : ByteArray) (i : Nat) (v : Value) (acc : List Tok) (w : World) (hp6 : 6 ≤ p) (hp : ScanCells w p s i v) (hown : OwnToks (p + 1) w v acc) (hG : Globals w) (hs : s.size ≤ 65536) (hi : i < s.size) (hd : digitB s[i] = true) (hacc : acc.length ≤ i) (r : Except Nat (Nat × List Tok))
    (hr : r = if (refNumber (s.extract i (i + spanL digitB s i)).data.toList).2 then .ok (i + spanL digitB s i, acc ++ [⟨2, ⟨#[]⟩, (refNumber (s.extract i (i + spanL digitB s i)).data.toList).1, i⟩]) else .error i) :
    Calls Tryz.prog 29 #[.pointer (some ⟨p, 0, none⟩)] w (Stepped p s w r) := by
  obtain ⟨c0, c1, c2, f1, f2, hlt⟩ := scan_cell hp
  have Hr := Lib.hid (run_any p s i v w.heap.size 1 1 [3] (w.alloc (.cells #[.int .i64 3] 3)) hs (by omega) (hp.alloc _) rfl (by omega) (fun j hj => by
    obtain rfl : j = 0 := by (simp at hj; omega)
    simp [go_sem]))
  rw [in_digit] at Hr
  have hle := span_le digitB s i (by omega)
  have hpos := span_pos (p := digitB) hi hd
  have hsz := extract_size (s := s) (show i ≤ i + spanL digitB s i by omega) hle
  have hl := span_take digitB s i
  have hall : (s.extract i (i + spanL digitB s i)).data.toList.all digitB = true := by
    rw [hl]; exact List.all_takeWhile
  clear hl
  generalize spanL digitB s i = T at Hr hle hsz hr hall hpos
  generalize s.extract i (i + T) = x at Hr hsz hr hall
  have hne : x.data.toList ≠ [] := by intro e; have := length_toList x; rw [e] at this; simp at this; omega
  have hT := Lib.hid (show i + T = i + x.size by omega)
  have hx1 : x.size ≤ 65536 := by omega
  have h0 : St p s i v acc w w := ⟨hp, hown, Below.refl _ _, hG⟩
  have H0 := Lib.hid h0
  have href := ref_is hne hall
  have hat := atoi_eq hne hall
  clear hsz hp hown hG h0 hall hne
  generalize valD 0 x.data.toList = V at href hat
  by_cases hbig : V < 9223372036854775808
  · rw [if_pos hbig] at hat
    have Hat := Lib.hid (fun W => atoi_ok x (V : Int) hat W hx1)
    have Hit := Lib.hid (fun W hg => itoa_is V hbig W hg)
    clear hat hd
    by_cases hback : decDigits V = x.data.toList
    · have hy : ((mk (decDigits V)).toList == x.toList) = true := by rw [beq_iff_eq, ByteArray.toList_eq, ByteArray.toList_eq]; exact hback
      by_cases h40 : V ≤ 1099511627776
      · rw [if_pos h40, decide_eq_true hback] at href
        rw [href] at hr
        simp only [if_true] at hr
        have Hrr := Lib.hid hr
        have Hv := Lib.hid (show validB ⟨2, ⟨#[]⟩, (V : Int), 0⟩ = true by rw [valid_number rfl rfl]; simp; omega)
        generalize mk (decDigits V) = y at Hit hy
        clear hr href hback
        go_enter Tryz.func29, Tryz.ntmps29
        go_wp2_with (first | (go_at_call 52; refine Hr.out.mono ?_; rintro e w1 ⟨rfl, q, rfl⟩))
        have H1 := Lib.hid (H0.out.next hp6 (w' := (w.alloc (.cells #[.int .i64 3] 3)).drewN q) (below_drewN ((Below.refl _ w).alloc (Nat.le_refl _) _) q))
        generalize ((w.alloc (.cells #[.int .i64 3] 3)).drewN q) = w1 at H1 ⊢
        refine (Hat.out _).mono ?_
        rintro e w2 ⟨rfl, hb⟩
        have H2 := Lib.hid (H1.out.next hp6 hb)
        clear hb
        go_wp2_with fail
        refine (Hit.out _ H2.out.glob).mono ?_
        rintro e w3 ⟨rfl, hb⟩
        have H3 := Lib.hid (H2.out.next hp6 hb)
        clear hb
        go_wp2_with fail
        refine (add_yes p s i v acc x 2 ⟨#[]⟩ V 0 w _ H3.out.below H3.out.cells H3.out.own (by omega) (by omega) (by omega) (Nat.zero_le _) Hv.out _ hT.out).mono ?_
        rintro e w4 ⟨rfl, hst⟩
        rw [← Hrr.out] at hst
        go_wp2
        go_end0
        exact hst
      · rw [if_neg h40] at href
        rw [href] at hr
        simp only [Bool.false_eq_true, if_false] at hr
        have Hrr := Lib.hid hr
        have Hv := Lib.hid (show validB ⟨2, ⟨#[]⟩, (V : Int), 0⟩ = false by rw [valid_number rfl rfl]; simp; omega)
        generalize mk (decDigits V) = y at Hit hy
        clear hr href hback
        go_enter Tryz.func29, Tryz.ntmps29
        go_wp2_with (first | (go_at_call 52; refine Hr.out.mono ?_; rintro e w1 ⟨rfl, q, rfl⟩))
        have H1 := Lib.hid (H0.out.next hp6 (w' := (w.alloc (.cells #[.int .i64 3] 3)).drewN q) (below_drewN ((Below.refl _ w).alloc (Nat.le_refl _) _) q))
        generalize ((w.alloc (.cells #[.int .i64 3] 3)).drewN q) = w1 at H1 ⊢
        refine (Hat.out _).mono ?_
        rintro e w2 ⟨rfl, hb⟩
        have H2 := Lib.hid (H1.out.next hp6 hb)
        clear hb
        go_wp2_with fail
        refine (Hit.out _ H2.out.glob).mono ?_
        rintro e w3 ⟨rfl, hb⟩
        have H3 := Lib.hid (H2.out.next hp6 hb)
        clear hb
        go_wp2_with fail
        refine (add_no p s i v x 2 ⟨#[]⟩ V 0 w _ H3.out.below H3.out.cells (Nat.zero_le _) Hv.out).mono ?_
        rintro e w4 ⟨rfl, hst⟩
        rw [← Hrr.out] at hst
        exact ⟨rfl, hst⟩
    · have hy : ((mk (decDigits V)).toList == x.toList) = false := by rw [beq_eq_false_iff_ne, ByteArray.toList_eq, ByteArray.toList_eq]; exact hback
      have h2 : (refNumber x.data.toList).2 = false := by
        rw [href]; split
        · exact decide_eq_false hback
        · rfl
      rw [h2] at hr
      simp only [Bool.false_eq_true, if_false] at hr
      have Hrr := Lib.hid hr
      generalize mk (decDigits V) = y at Hit hy
      clear hr href hback h2
      go_enter Tryz.func29, Tryz.ntmps29
      go_wp2_with (first | (go_at_call 52; refine Hr.out.mono ?_; rintro e w1 ⟨rfl, q, rfl⟩))
      have H1 := Lib.hid (H0.out.next hp6 (w' := (w.alloc (.cells #[.int .i64 3] 3)).drewN q) (below_drewN ((Below.refl _ w).alloc (Nat.le_refl _) _) q))
      generalize ((w.alloc (.cells #[.int .i64 3] 3)).drewN q) = w1 at H1 ⊢
      refine (Hat.out _).mono ?_
      rintro e w2 ⟨rfl, hb⟩
      have H2 := Lib.hid (H1.out.next hp6 hb)
      clear hb
      go_wp2_with fail
      refine (Hit.out _ H2.out.glob).mono ?_
      rintro e w3 ⟨rfl, hb⟩
      have H3 := Lib.hid (H2.out.next hp6 hb)
      clear hb c0 c1 c2 f1 f2 hlt
      obtain ⟨c0, c1, c2, f1, f2, hlt⟩ := scan_cell H3.out.cells
      go_wp2_with fail
      refine ⟨rfl, ?_⟩
      rw [Hrr.out]
      exact ⟨H3.out.below, rfl⟩
  · rw [if_neg hbig] at hat
    rw [if_neg (show ¬ V ≤ 1099511627776 by omega)] at href
    rw [href] at hr
    simp only [Bool.false_eq_true, if_false] at hr
    have Hrr := Lib.hid hr
    have Hat := Lib.hid (fun W hg => atoi_range x hat W hx1 hg)
    clear hr hat hbig href hd
    go_enter Tryz.func29, Tryz.ntmps29
    go_wp2_with (first | (go_at_call 52; refine Hr.out.mono ?_; rintro e w1 ⟨rfl, q, rfl⟩))
    have H1 := Lib.hid (H0.out.next hp6 (w' := (w.alloc (.cells #[.int .i64 3] 3)).drewN q) (below_drewN ((Below.refl _ w).alloc (Nat.le_refl _) _) q))
    generalize ((w.alloc (.cells #[.int .i64 3] 3)).drewN q) = w1 at H1 ⊢
    refine (Hat.out _ H1.out.glob).mono ?_
    rintro e w2 ⟨n, N, rfl, hb⟩
    have H2 := Lib.hid (H1.out.next hp6 hb)
    clear hb c0 c1 c2 f1 f2 hlt
    obtain ⟨c0, c1, c2, f1, f2, hlt⟩ := scan_cell H2.out.cells
    go_wp2_with fail
    refine ⟨rfl, ?_⟩
    rw [Hrr.out]
    exact ⟨H2.out.below, rfl⟩

end Go.Proofs.YtlaifodlnolndaaGreatDoor

/- Lex: the deferred function that recovers. -/
namespace Go.Proofs.YtlaifodlnolndaaGreatDoor
open Go.RowKit

set_option maxRecDepth 100000 in
set_option maxHeartbeats 4000000 in
theorem catch_panicking (b b1 b2 : Nat) (l1 : b < b1) (l2 : b1 < b2) (k : Int) (v0 v1 v2 : Value) (older : List PanicEntry) (w : World) (h0 : w.heap[b]? = some (.cells #[v0] 42 (0, 0))) (h1 : w.heap[b1]? = some (.cells #[v1] 3 (0, 0))) (h2 : w.heap[b2]? = some (.cells #[v2] 26 (0, 0))) :
    CallsD Tryz.prog 25 #[.pointer (some ⟨b, 0, none⟩), .pointer (some ⟨b1, 0, none⟩), .pointer (some ⟨b2, 0, none⟩)] (.panicking ({ v := .iface 73 (.int .i64 k), recovered := false } :: older)) w fun e u' w' =>
      e = .returned (.tuple #[]) ∧ u' = .panicking ({ v := .iface 73 (.int .i64 k), recovered := true } :: older) ∧ Below b w w' ∧
      w'.cell? ⟨b, 0, none⟩ = some (.slice none 0 0) ∧ w'.cell? ⟨b1, 0, none⟩ = some (.int .i64 k) ∧ w'.cell? ⟨b2, 0, none⟩ = some (.int .i64 30) := by
  have c0 : w.cell? ⟨b, 0, none⟩ = some v0 := by simp [World.cell?, h0]
  have c1 : w.cell? ⟨b1, 0, none⟩ = some v1 := by simp [World.cell?, h1]
  have c2 : w.cell? ⟨b2, 0, none⟩ = some v2 := by simp [World.cell?, h2]
  have f0 : w.frozen? ⟨b, 0, none⟩ = false := by simp [World.frozen?, h0]
  have f1 : w.frozen? ⟨b1, 0, none⟩ = false := by simp [World.frozen?, h1]
  have f2 : w.frozen? ⟨b2, 0, none⟩ = false := by simp [World.frozen?, h2]
  clear h0 h1 h2
  have n1 : ¬ b = b1 := by omega
  have n2 : ¬ b = b2 := by omega
  have n3 : ¬ b1 = b2 := by omega
  have n4 : ¬ b1 = b := by omega
  have n5 : ¬ b2 = b1 := by omega
  have n6 : ¬ b2 = b := by omega
  have hta : ∀ W : World, (Instr.typeAssert (.iface 73 (.int .i64 k)) 20 73 false).run Tryz.prog W = .ok (.int .i64 k) W := fun _ => by kernel_rfl
  refine callsD_of_wpS Tryz.func25 rfl fun c₀ cs hu => ?_
  apply wpS_seq
  apply wpS_region
  simp [wpOpsS, go_sem, recoverD, hu, Tryz.ntmps25, Exit.thenS]
  refine wpS_of_wp ?_
  generalize hQ : bodyPostS Tryz.prog Tryz.f25 c₀ cs _ = Q
  generalize hcs : (_ :: cs : List Frame) = cs'
  simp only [List.setIfInBounds_toArray, List.set_cons_zero, List.set_cons_succ, Array.replicate_succ, Array.replicate_zero, List.push_toArray, List.nil_append, List.cons_append, List.append_toArray]
  go_wp2
  go_region
  all_goals
    change Q _ _ cs' _
    rw [← hQ, ← hcs]
    refine ⟨rfl, _, rfl, _, results_none rfl _ _ _, rfl, rfl, ?_, ?_, ?_, ?_⟩
    · exact ((((Below.refl b w).setCell (p := ⟨b, 0, none⟩) (Nat.le_refl _) _).setCell (p := ⟨b1, 0, none⟩) (by show b ≤ b1; omega) _).setCell (p := ⟨b2, 0, none⟩) (by show b ≤ b2; omega) _).drew
    · simp [go_sem, c0]
    · simp [go_sem, c1]
    · simp [go_sem, c2]

set_option maxRecDepth 100000 in
theorem catch_idle (p0 p1 p2 : Addr) (w : World) :
    CallsD Tryz.prog 25 #[.pointer (some p0), .pointer (some p1), .pointer (some p2)] .returning w fun e u' w' => e = .returned (.tuple #[]) ∧ u' = .returning ∧ w' = w := by
  refine callsD_of_wpS Tryz.func25 rfl fun c₀ cs hu => ?_
  apply wpS_seq
  apply wpS_region
  simp [wpOpsS, go_sem, recoverD, hu, Tryz.ntmps25, Exit.thenS]
  refine wpS_of_wp ?_
  generalize hQ : bodyPostS Tryz.prog Tryz.f25 c₀ cs _ = Q
  simp only [List.setIfInBounds_toArray, List.set_cons_zero, List.set_cons_succ, Array.replicate_succ, Array.replicate_zero, List.push_toArray, List.nil_append, List.cons_append, List.append_toArray]
  go_wp2
  change Q _ _ (c₀ :: cs) _
  rw [← hQ]
  refine ⟨rfl, .returning, ?_, _, results_none rfl _ _ _, rfl, rfl, rfl⟩
  rw [← hu]

end Go.Proofs.YtlaifodlnolndaaGreatDoor

/- The program's Lex: the walk. -/
namespace Go.Proofs.YtlaifodlnolndaaGreatDoor
open Go.RowKit

theorem globals_size {w : World} (h : Globals w) : 4 ≤ w.heap.size := by
  obtain ⟨⟨tp, p, h1⟩, h2⟩ := h
  unfold Lib.TabIs at h2
  unfold World.var? at h1 h2
  rw [gPow, Option.bind_some] at h2
  rw [gRange, Option.bind_some] at h1
  rcases Nat.lt_or_ge 3 w.heap.size with hl | hl
  · exact hl
  · first
    | (rw [Array.getElem?_eq_none hl] at h1; simp at h1; done)
    | (rw [Array.getElem?_eq_none hl] at h2; simp at h2; done)

/- the place at which a scanner stands -/
def placeOf (p : Nat) (wr : World) : Nat := (intOf ((wr.cell? ⟨p, 1, none⟩).getD undef)).toNat
theorem placeOf_is {p : Nat} {s : ByteArray} {i : Nat} {v : Value} {wr : World} (h : ScanCells wr p s i v) : placeOf p wr = i := by
  unfold placeOf
  rw [(scan_cell h).2.1]
  simp [intOf]

theorem ScanAt.spaces {s : ByteArray} {r : Except Nat (List Tok)} {i : Nat} {acc : List Tok} (h : ScanAt s r i acc) : ScanAt s r (i + spanL spaceB s i) acc := by
  have key : ∀ k, k ≤ spanL spaceB s i → ScanAt s r (i + k) acc := by
    intro k
    induction k with
    | zero => intro _; exact h
    | succ k ih =>
      intro hk
      obtain ⟨hl, e⟩ := span_in (p := spaceB) (s := s) (i := i) (k := k) (by omega)
      exact (ih (by omega)).space hl e
  exact key _ (Nat.le_refl _)

/- what a step of the scanner leaves -/
theorem St.stepped {p : Nat} {s : ByteArray} {i j : Nat} {v : Value} {acc acc' : List Tok} {w0 w w' : World} {e : Ending} (h : St p s i v acc w0 w) (hp : 6 ≤ p) (hs : Stepped p s w (.ok (j, acc')) e w') : e = .returned (.tuple #[]) ∧ ∃ v', St p s j v' acc' w0 w' := by
  obtain ⟨hb, he, v', hc, ho⟩ := hs
  exact ⟨he, v', hc, ho, h.below.trans hb, h.glob.below hb (by omega)⟩

/- a step at a byte: by the scanning -/
theorem scan_step {s : ByteArray} {r : Except Nat (List Tok)} {i : Nat} {acc : List Tok} (h : ScanAt s r i acc) (hi : i < s.size) (hs : s.size ≤ 65536) (hacc : acc.length ≤ i) (p : Nat) (hp6 : 6 ≤ p) (w0 w : World) (v : Value) (hst : St p s i v acc w0 w) :
    ∃ f : Nat, (∀ W : World, Calls Tryz.prog 31 #[.int .u8 ((s[i]).toNat : Int)] W fun e w' => e = .returned (.int .i64 (classF s[i])) ∧ W = w') ∧
      (classF s[i] = 0 ∧ f = 26 ∨ classF s[i] = 1 ∧ f = 27 ∨ classF s[i] = 2 ∧ f = 28 ∨ classF s[i] = 3 ∧ f = 29 ∨ classF s[i] = 4 ∧ f = 30 ∨ classF s[i] = 5 ∧ f = 26) ∧
      Calls Tryz.prog f #[.pointer (some ⟨p, 0, none⟩)] w fun e w' =>
        (∃ j acc' v', e = .returned (.tuple #[]) ∧ St p s j v' acc' w0 w' ∧ ScanAt s r j acc' ∧ i < j ∧ j ≤ s.size ∧ acc'.length ≤ j) ∨
        (e = .panicked [{ v := .iface 73 (.int .i64 i), recovered := false }] ∧ Below p w0 w' ∧ r = .error i) := by
  have hcl := class_any s[i]
  have bad : ∀ (n : Int) (w' : World) (e : Ending), r = .error i → Stepped p s w (.error i) e w' → (∃ j acc' v', e = .returned (.tuple #[]) ∧ St p s j v' acc' w0 w' ∧ ScanAt s r j acc' ∧ i < j ∧ j ≤ s.size ∧ acc'.length ≤ j) ∨
        (e = .panicked [{ v := .iface 73 (.int .i64 i), recovered := false }] ∧ Below p w0 w' ∧ r = .error i) := fun n w' e hr hst' => .inr ⟨hst'.2, hst.below.trans hst'.1, hr⟩
  have good : ∀ (j : Nat) (acc' : List Tok) (w' : World) (e : Ending), ScanAt s r j acc' → i < j → j ≤ s.size → acc'.length ≤ j → Stepped p s w (.ok (j, acc')) e w' → (∃ j acc' v', e = .returned (.tuple #[]) ∧ St p s j v' acc' w0 w' ∧ ScanAt s r j acc' ∧ i < j ∧ j ≤ s.size ∧ acc'.length ≤ j) ∨
        (e = .panicked [{ v := .iface 73 (.int .i64 i), recovered := false }] ∧ Below p w0 w' ∧ r = .error i) := fun j acc' w' e h1 h2 h3 h4 hst' => by
    obtain ⟨he, v', hh⟩ := hst.stepped hp6 hst'
    exact .inl ⟨j, acc', v', he, hh, h1, h2, h3, h4⟩
  by_cases hl : letterB s[i] = true
  · have hc : classF s[i] = 2 := cl_letter hl
    have hsp : spaceB s[i] = false := by rw [← class_1, hc]; rfl
    have h47 : ¬ noteAt s i := by
      rintro ⟨_, e, _⟩
      rw [e] at hl; revert hl; decide
    refine ⟨28, hcl, by rw [hc]; decide, ?_⟩
    have hT := span_pos (p := partB) hi (by simp [partB, hl])
    have hle := span_le partB s i (by omega)
    refine (name_step p s i v acc w hst.cells hst.own hs (by omega) hacc _ rfl).mono fun e w' hst' => ?_
    cases hn : nameB (s.extract i (i + spanL partB s i)).data.toList with
    | true =>
      rw [hn, if_pos rfl] at hst'
      exact good _ _ _ _ (h.name hi hs hsp h47 hl rfl hn) (by omega) hle (by simp; omega) hst'
    | false =>
      rw [hn, if_neg (by simp)] at hst'
      exact bad 0 _ _ (h.noname hi hsp h47 hl rfl hn) hst'
  · rw [Bool.not_eq_true] at hl
    by_cases hdg : digitB s[i] = true
    · have hc : classF s[i] = 3 := by have := class_3 s[i]; rw [hdg] at this; simpa using this
      have hsp : spaceB s[i] = false := by rw [← class_1, hc]; rfl
      have h47 : ¬ noteAt s i := by
        rintro ⟨_, e, _⟩
        rw [e] at hdg; revert hdg; decide
      refine ⟨29, hcl, by rw [hc]; decide, ?_⟩
      have hT := span_pos (p := digitB) hi hdg
      have hle := span_le digitB s i (by omega)
      refine (number_step p s i v acc w hp6 hst.cells hst.own hst.glob hs hi hdg hacc _ rfl).mono fun e w' hst' => ?_
      generalize hn : refNumber (s.extract i (i + spanL digitB s i)).data.toList = nb at hst'
      obtain ⟨n, b⟩ := nb
      cases b with
      | true =>
        rw [if_pos rfl] at hst'
        exact good _ _ _ _ (h.number hi hsp h47 hl hdg rfl n hn) (by omega) hle (by simp; omega) hst'
      | false =>
        rw [if_neg (by simp)] at hst'
        exact bad 0 _ _ (h.nonumber hi hsp h47 hl hdg rfl n hn) hst'
    · rw [Bool.not_eq_true] at hdg
      by_cases hsp : spaceB s[i] = true
      · have hc : classF s[i] = 1 := by have := class_1 s[i]; rw [hsp] at this; simpa using this
        refine ⟨27, hcl, by rw [hc]; decide, ?_⟩
        have hT := span_pos (p := spaceB) hi hsp
        have hle := span_le spaceB s i (by omega)
        refine (space_step p s i v acc w hst.cells hst.own hs (by omega)).mono fun e w' hst' => ?_
        exact good _ _ _ _ h.spaces (by omega) hle (by omega) hst'
      · rw [Bool.not_eq_true] at hsp
        by_cases hsg : signB s[i] = true
        · have hc : classF s[i] = 4 := by have := class_4 s[i]; rw [hsg] at this; simpa using this
          refine ⟨30, hcl, by rw [hc]; decide, ?_⟩
          by_cases h47 : noteAt s i
          · have hT := span_pos (p := notLf) hi (by obtain ⟨_, e, _⟩ := h47; rw [e]; decide)
            have hle := span_le notLf s i (by omega)
            refine (sign_note p s i v acc w hst.cells hst.own hs hi h47).mono fun e w' hst' => ?_
            exact good _ _ _ _ (h.note hi hsp h47 rfl) (by omega) hle (by omega) hst'
          · refine (sign_plain p s i v acc w hst.cells hst.own hs hi hacc h47 hsg).mono fun e w' hst' => ?_
            exact good _ _ _ _ (h.sign hi hsp h47 hl hdg hsg) (by omega) (by omega) (by simp; omega) hst'
        · rw [Bool.not_eq_true] at hsg
          have h47 : ¬ noteAt s i := by
            rintro ⟨_, e, _⟩
            rw [e] at hsg; revert hsg; decide
          have hr := h.wrong hi hsp h47 hl hdg hsg
          refine ⟨26, hcl, ?_, ?_⟩
          · have a1 := class_1 s[i]; rw [hsp] at a1
            have a2 := class_2 s[i]; rw [hl] at a2
            have a3 := class_3 s[i]; rw [hdg] at a3
            have a4 := class_4 s[i]; rw [hsg] at a4
            have a5 := class_range s[i]
            simp only [beq_eq_false_iff_ne, ne_eq] at a1 a2 a3 a4
            omega
          · exact (wrong_any p s i v w hst.cells).mono fun e w' hst' => bad 0 _ _ hr hst'

end Go.Proofs.YtlaifodlnolndaaGreatDoor

/- The program's Lex: the walk. -/
namespace Go.Proofs.YtlaifodlnolndaaGreatDoor
open Go.RowKit

theorem heap_at {B : Nat} {w w' : World} {o : Obj} {b : Nat} (h : w.heap[b]? = some o) (hb : Below B w w') (hlt : b < B) : w'.heap[b]? = some o := (hb.block b hlt).trans h

theorem heap_new (w : World) (o : Obj) (n : Nat) (h : w.heap.size = n) : (w.alloc o).heap[n]? = some o := by
  subst h
  show (w.heap.push o)[w.heap.size]? = some o
  simp
theorem heap_old (w : World) (o o' : Obj) (n : Nat) (h : w.heap[n]? = some o') : (w.alloc o).heap[n]? = some o' := by
  rw [Below.heap_alloc w o n (Array.getElem?_eq_some_iff.1 h).1]; exact h
theorem five (w : World) (o0 o1 o2 o3 o4 : Obj) :
    (((((w.alloc o0).alloc o1).alloc o2).alloc o3).alloc o4).heap[w.heap.size]? = some o0 ∧ (((((w.alloc o0).alloc o1).alloc o2).alloc o3).alloc o4).heap[w.heap.size + 1]? = some o1 ∧
    (((((w.alloc o0).alloc o1).alloc o2).alloc o3).alloc o4).heap[w.heap.size + 1 + 1]? = some o2 ∧ (((((w.alloc o0).alloc o1).alloc o2).alloc o3).alloc o4).heap[w.heap.size + 1 + 1 + 1]? = some o3 ∧
    (((((w.alloc o0).alloc o1).alloc o2).alloc o3).alloc o4).heap[w.heap.size + 1 + 1 + 1 + 1]? = some o4 ∧
    Below w.heap.size w (((((w.alloc o0).alloc o1).alloc o2).alloc o3).alloc o4) ∧ (((((w.alloc o0).alloc o1).alloc o2).alloc o3).alloc o4).heap.size = w.heap.size + 1 + 1 + 1 + 1 + 1 := by
  refine ⟨?_, ?_, ?_, ?_, ?_, ?_, by simp⟩
  · exact heap_old _ _ _ _ (heap_old _ _ _ _ (heap_old _ _ _ _ (heap_old _ _ _ _ (heap_new _ _ _ rfl))))
  · exact heap_old _ _ _ _ (heap_old _ _ _ _ (heap_old _ _ _ _ (heap_new _ _ _ (by simp))))
  · exact heap_old _ _ _ _ (heap_old _ _ _ _ (heap_new _ _ _ (by simp)))
  · exact heap_old _ _ _ _ (heap_new _ _ _ (by simp))
  · exact heap_new _ _ _ (by simp)
  · exact (((((Below.refl _ w).alloc (Nat.le_refl _) _).alloc (by simp) _).alloc (by simp; omega) _).alloc (by simp; omega) _).alloc (by simp; omega) _

set_option maxRecDepth 100000 in
set_option maxHeartbeats 8000000 in
theorem lex_any (s : ByteArray) (w : World) (hs : s.size ≤ 65536) (hG : Globals w) :
    Calls Tryz.prog 11 #[.string s] w (LexEnd w (scan s.data.toList 0)) := by
  have hst : ScanAt s (scan s.data.toList 0) 0 [] := ⟨by rw [List.drop_zero, preT_nil], by simp⟩
  generalize scan s.data.toList 0 = r at hst ⊢
  have hd : decide (65536 < (s.size : Int)) = false := by simp; omega
  have hmf : ∀ (fn : Fn) (first cap : Array Value) (w : World), (Instr.makeFunc fn first cap).run Tryz.prog w = .ok (.func fn first cap) w := fun _ _ _ _ => rfl
  have hg4 := globals_size hG
  have HG := Lib.hid hG
  have Hst := Lib.hid hst
  clear hG hst
  go_enter_defers Tryz.func11, Tryz.ntmps11
  go_wp2
  have h5 := five w (.cells #[.slice none 0 0] 42) (.cells #[.int .i64 0] 3) (.cells #[.int .i64 0] 26) (.cells #[.func (.func 26) #[] #[], .func (.func 27) #[] #[], .func (.func 28) #[] #[], .func (.func 29) #[] #[], .func (.func 30) #[] #[], .func (.func 26) #[] #[]] 77) (.cells #[.string s, .int .i64 0, .slice none 0 0] 80)
  generalize (((((w.alloc (.cells #[.slice none 0 0] 42)).alloc (.cells #[.int .i64 0] 3)).alloc (.cells #[.int .i64 0] 26)).alloc (.cells #[.func (.func 26) #[] #[], .func (.func 27) #[] #[], .func (.func 28) #[] #[], .func (.func 29) #[] #[], .func (.func 30) #[] #[], .func (.func 26) #[] #[]] 77)).alloc (.cells #[.string s, .int .i64 0, .slice none 0 0] 80)) = w0 at h5 ⊢
  obtain ⟨hh0, hh1, hh2, hh3, hh4, hB0, hz0⟩ := h5
  generalize hb : w.heap.size = b at *
  have Hb := Lib.hid hb
  clear hb
  obtain ⟨b1, hb1⟩ : ∃ b1, b1 = b + 1 := ⟨_, rfl⟩
  obtain ⟨b2, hb2⟩ : ∃ b2, b2 = b1 + 1 := ⟨_, rfl⟩
  obtain ⟨b3, hb3⟩ : ∃ b3, b3 = b2 + 1 := ⟨_, rfl⟩
  obtain ⟨p, hp⟩ : ∃ p, p = b3 + 1 := ⟨_, rfl⟩
  have i1 : b < b1 := by omega
  have i2 : b1 < b2 := by omega
  have i3 : b2 < b3 := by omega
  have i4 : b3 < p := by omega
  have i6 : 6 ≤ p := by omega
  rw [← hb1, ← hb2, ← hb3, ← hp] at hh4 ⊢
  rw [← hb1, ← hb2, ← hb3] at hh3
  rw [← hb1, ← hb2] at hh2
  rw [← hb1] at hh1
  clear hb1 hb2 hb3 hp hz0
  have hown0 : OwnToks (p + 1) w0 (.slice none 0 0) [] := World.ownsRow_nil w0 (p + 1) 53 4
  have hG0 : Globals w0 := HG.out.below hB0 hg4
  have HB0 := Lib.hid hB0
  have H0 := Lib.hid hh0
  have H1 := Lib.hid hh1
  have H2 := Lib.hid hh2
  have H3 := Lib.hid hh3
  have HS := Lib.hid (show St p s 0 (.slice none 0 0) [] w0 w0 from ⟨hh4, hown0, Below.refl _ _, hG0⟩)
  clear hh0 hh1 hh2 hh3 hh4 hB0 hown0 hG0 HG
  go_loopw [16] (fun _ wr => ∃ (i : Nat) (acc : List Tok) (v : Value), St p s i v acc w0 wr ∧ i ≤ s.size ∧ acc.length ≤ i ∧ ScanAt s r i acc) (fun _ wr => s.size - placeOf p wr)
  case atStart => exact ⟨0, [], _, HS.out, Nat.zero_le _, Nat.le_refl _, Hst.out⟩
  case round =>
    obtain ⟨i, acc, v, hS, hi, hacc, hsc⟩ := hrel
    have Hpl := Lib.hid (placeOf_is hS.cells)
    obtain ⟨c0, c1, c2, f1, f2, hlt⟩ := scan_cell hS.cells
    have HSr := Lib.hid hS
    have Hsc := Lib.hid hsc
    clear hS hsc HS Hst
    by_cases hlt : i < s.size
    · obtain ⟨f, hcl, hcase, hstep⟩ := scan_step Hsc.out hlt hs hacc p i6 w0 wr v HSr.out
      have Hstep := Lib.hid hstep
      have h3 := heap_at H3.out HSr.out.below i4
      have d0 : wr.cell? ⟨b3, 0, none⟩ = some (.func (.func 26) #[] #[]) := by simp [World.cell?, h3]
      have d1 : wr.cell? ⟨b3, 1, none⟩ = some (.func (.func 27) #[] #[]) := by simp [World.cell?, h3]
      have d2 : wr.cell? ⟨b3, 2, none⟩ = some (.func (.func 28) #[] #[]) := by simp [World.cell?, h3]
      have d3 : wr.cell? ⟨b3, 3, none⟩ = some (.func (.func 29) #[] #[]) := by simp [World.cell?, h3]
      have d4 : wr.cell? ⟨b3, 4, none⟩ = some (.func (.func 30) #[] #[]) := by simp [World.cell?, h3]
      have d5 : wr.cell? ⟨b3, 5, none⟩ = some (.func (.func 26) #[] #[]) := by simp [World.cell?, h3]
      clear hstep h3
      rcases hcase with ⟨hc, rfl⟩ | ⟨hc, rfl⟩ | ⟨hc, rfl⟩ | ⟨hc, rfl⟩ | ⟨hc, rfl⟩ | ⟨hc, rfl⟩
      all_goals
        rw [hc] at hcl
        have Hcl := Lib.hid hcl
        clear hc hcl
        go_wp2_with (first | (go_at_call 31; refine (Hcl.out _).mono ?_; rintro e w' ⟨rfl, rfl⟩))
        refine Hstep.out.mono ?_
        rintro e w' (⟨j, acc', v', rfl, hS', hsc', hij, hjs, hacc'⟩ | ⟨rfl, hb, hr⟩)
        · have HS' := Lib.hid hS'
          have Hsc' := Lib.hid hsc'
          have Hpl' := Lib.hid (placeOf_is hS'.cells)
          clear hS' hsc'
          go_wp2
          exact ⟨⟨j, acc', v', HS'.out, hjs, hacc', Hsc'.out⟩, by rw [Hpl'.out, Hpl.out]; omega⟩
        · refine leaves_cons (f := 25) (args := #[.pointer (some ⟨b, 0, none⟩), .pointer (some ⟨b1, 0, none⟩), .pointer (some ⟨b2, 0, none⟩)]) (by simp) (by simp [go_sem]) ?_
          refine (catch_panicking b b1 b2 i1 i2 i _ _ _ [] _ (heap_at H0.out hb (by omega)) (heap_at H1.out hb (by omega)) (heap_at H2.out hb (by omega))).mono ?_
          rintro e u' w'' ⟨rfl, rfl, hB', e0, e1, e2⟩
          have hend : LexEnd w r (.returned (.tuple #[.slice none 0 0, .int .i64 i, .int .i64 30])) w'' := by
            refine ⟨?_, ?_⟩
            · rw [Hb.out]; exact (HB0.out.trans (hb.mono (by omega))).trans hB'
            · rw [hr]
          have Hend := Lib.hid hend
          clear hend hB' hb hr
          simp [Leaves, settle, results, Tryz.results11, go_sem, e0, e1, e2]
          exact Hend.out
    · have hd := Hsc.out.done hlt
      have k0 := heap_at H0.out HSr.out.below (by omega)
      have k1 := heap_at H1.out HSr.out.below (by omega)
      have k2 := heap_at H2.out HSr.out.below (by omega)
      have q0 : wr.cell? ⟨b, 0, none⟩ = some (.slice none 0 0) := by simp [World.cell?, k0]
      have q1 : wr.cell? ⟨b1, 0, none⟩ = some (.int .i64 0) := by simp [World.cell?, k1]
      have q2 : wr.cell? ⟨b2, 0, none⟩ = some (.int .i64 0) := by simp [World.cell?, k2]
      have g0 : wr.frozen? ⟨b, 0, none⟩ = false := by simp [World.frozen?, k0]
      have g1 : wr.frozen? ⟨b1, 0, none⟩ = false := by simp [World.frozen?, k1]
      have g2 : wr.frozen? ⟨b2, 0, none⟩ = false := by simp [World.frozen?, k2]
      have Hd := Lib.hid hd
      have n1 : ¬ b = b1 := by omega
      have n2 : ¬ b = b2 := by omega
      have n3 : ¬ b1 = b2 := by omega
      have n4 : ¬ b1 = b := by omega
      have n5 : ¬ b2 = b1 := by omega
      have n6 : ¬ b2 = b := by omega
      obtain ⟨va, vn, vc, rfl⟩ := HSr.out.own.form
      clear hd k0 k1 k2
      have Hown := Lib.hid HSr.out.own
      have HBr := Lib.hid HSr.out.below
      clear HSr
      go_wp2
      refine leaves_cons (f := 25) (args := #[.pointer (some ⟨b, 0, none⟩), .pointer (some ⟨b1, 0, none⟩), .pointer (some ⟨b2, 0, none⟩)]) (by simp) (by simp [go_sem]) ?_
      refine (catch_idle _ _ _ _).mono ?_
      rintro e u' w'' ⟨rfl, rfl, rfl⟩
      have hend : LexEnd w r (.returned (.tuple #[.slice va vn vc, .int .i64 0, .int .i64 0])) (((wr.setCell ⟨b, 0, none⟩ (.slice va vn vc)).setCell ⟨b1, 0, none⟩ (.int .i64 0)).setCell ⟨b2, 0, none⟩ (.int .i64 0)) := by
        refine ⟨?_, ?_⟩
        · rw [Hb.out]
          exact (((HB0.out.trans (HBr.out.mono (by omega))).setCell (p := ⟨b, 0, none⟩) (Nat.le_refl _) _).setCell (p := ⟨b1, 0, none⟩) (by show b ≤ b1; omega) _).setCell (p := ⟨b2, 0, none⟩) (by show b ≤ b2; omega) _
        · rw [Hd.out]
          exact ⟨_, rfl, (((Hown.out.of_other _ _ (by show b < p + 1; omega)).of_other _ _ (by show b1 < p + 1; omega)).of_other _ _ (by show b2 < p + 1; omega)).isToks (by omega) fun t ht => Nat.le_trans (Hsc.out.2 t ht) (by unfold maxLen; omega)⟩
      have Hend := Lib.hid hend
      clear hend
      simp [Leaves, settle, results, Tryz.results11, go_sem, q0, q1, q2]
      exact Hend.out

end Go.Proofs.YtlaifodlnolndaaGreatDoor

/- Lex at a source that is too long. -/
namespace Go.Proofs.YtlaifodlnolndaaGreatDoor
open Go.RowKit

set_option maxRecDepth 100000 in
set_option maxHeartbeats 4000000 in
theorem lex_big (s : ByteArray) (w : World) (hs : 65536 < s.size) :
    Calls Tryz.prog 11 #[.string s] w fun e w' => e = .returned (.tuple #[.slice none 0 0, .int .i64 0, .int .i64 2]) ∧ Below w.heap.size w w' := by
  have hd : decide (65536 < (s.size : Int)) = true := by simp; omega
  have hmf : ∀ (fn : Fn) (first cap : Array Value) (w : World), (Instr.makeFunc fn first cap).run Tryz.prog w = .ok (.func fn first cap) w := fun _ _ _ _ => rfl
  go_enter_defers Tryz.func11, Tryz.ntmps11
  go_wp2
  simp [bodyPostD, Leaves, results, Tryz.results11, go_sem]
  exact ((((Below.refl _ w).alloc (Nat.le_refl _) _).alloc (by simp) _).alloc (by simp; omega) _)

end Go.Proofs.YtlaifodlnolndaaGreatDoor

/- Digits and numbers: the program reads a number by strconv, the document digit by digit. -/
import Derived.Test.YtkfbhegniobecaaDoorP
namespace Go.Proofs.YtkfbhegniobecaaDoor
open Go.RowKit
open Go.Lib (decDigits parseUint10 parseMag atoiAll NumEnd itoa)

def stepD (n : Nat) (c : UInt8) : Nat := 10 * n + (c.toNat - 48)
def valD (n : Nat) (l : List UInt8) : Nat := l.foldl stepD n
theorem valD_nil (n : Nat) : valD n [] = n := rfl
theorem valD_cons (n : Nat) (c : UInt8) (r : List UInt8) : valD n (c :: r) = valD (10 * n + (c.toNat - 48)) r := by simp only [valD, List.foldl_cons, stepD]
theorem valD_le : ∀ (l : List UInt8) (n : Nat), n ≤ valD n l
  | [], n => Nat.le_refl n
  | c :: r, n => by have := valD_le r (10 * n + (c.toNat - 48)); rw [valD_cons]; omega
theorem numF_eq : ∀ (l : List UInt8) (n : Nat), n ≤ 1099511627776 → numF n l = if valD n l ≤ 1099511627776 then some (valD n l) else none
  | [], n, h => by rw [numF, valD_nil, if_pos h]
  | c :: r, n, h => by
    rw [numF, valD_cons]
    by_cases hb : 10 * n + (c.toNat - 48) > 1099511627776
    · rw [if_pos hb, if_neg (by have := valD_le r (10 * n + (c.toNat - 48)); omega)]
    · rw [if_neg hb, numF_eq r _ (by omega)]
theorem parse_eq : ∀ (l : List UInt8) (n : Nat), l.all digitB = true → n < 18446744073709551616 → parseUint10 n l = if valD n l < 18446744073709551616 then .ok (valD n l) else .range
  | [], n, _, h => by rw [parseUint10, valD_nil, if_pos h]
  | c :: r, n, hd, h => by
    rw [List.all_cons, Bool.and_eq_true] at hd
    have hc := digit_le hd.1
    have hv := valD_le r (10 * n + (c.toNat - 48))
    have e : n * 10 + (c.toNat - 48) = 10 * n + (c.toNat - 48) := by omega
    rw [parseUint10, if_pos hc, valD_cons]
    by_cases h1 : 1844674407370955162 ≤ n
    · rw [if_pos h1, if_neg (by omega)]
    · rw [if_neg h1, e]
      by_cases h2 : 18446744073709551616 ≤ 10 * n + (c.toNat - 48)
      · rw [if_pos h2, if_neg (by omega)]
      · rw [if_neg h2, parse_eq r _ hd.2 (by omega)]
theorem atoi_eq {l : List UInt8} (hne : l ≠ []) (hd : l.all digitB = true) : atoiAll l = if valD 0 l < 9223372036854775808 then .ok (valD 0 l : Int) else .range := by
  cases l with
  | nil => exact (hne rfl).elim
  | cons c r =>
    have hc := digit_le ((List.all_eq_true.1 hd) c (by simp))
    unfold atoiAll
    simp only
    rw [if_neg (by omega)]
    unfold parseMag
    rw [if_neg hne, parse_eq _ _ hd (by omega)]
    by_cases h1 : valD 0 (c :: r) < 18446744073709551616
    · rw [if_pos h1]
      simp only
      by_cases h2 : valD 0 (c :: r) < 9223372036854775808
      · rw [if_pos h2, if_neg (by omega), if_neg (by omega), if_neg (by omega)]
      · rw [if_neg h2, if_pos (by omega)]
    · rw [if_neg h1, if_neg (by omega)]
theorem valD_snoc (l : List UInt8) (n : Nat) (c : UInt8) : valD n (l ++ [c]) = 10 * valD n l + (c.toNat - 48) := by
  simp only [valD, List.foldl_append, List.foldl_cons, List.foldl_nil, stepD]
theorem dec_snoc {m : Nat} (hm : 0 < m) {c : UInt8} (hc : digitB c = true) : decDigits (10 * m + (c.toNat - 48)) = decDigits m ++ [c] := by
  have h := digit_le hc
  rw [dec_ge (by omega), show (10 * m + (c.toNat - 48)) / 10 = m by omega, show (10 * m + (c.toNat - 48)) % 10 = c.toNat - 48 by omega, show 48 + (c.toNat - 48) = c.toNat by omega]
  congr 2
  simp
theorem valD_pos {c : UInt8} {r : List UInt8} (hc : digitB c = true) (h : c ≠ 48) : 0 < valD 0 (c :: r) := by
  have h1 := digit_le hc
  have h2 : c.toNat ≠ 48 := fun e => h (UInt8.toNat_inj.1 e)
  have := valD_le r (10 * 0 + (c.toNat - 48))
  rw [valD_cons]; omega
theorem dec_back (c : UInt8) (hc : digitB c = true) (h : c ≠ 48) : ∀ (n : Nat) (r : List UInt8), r.length = n → r.all digitB = true → decDigits (valD 0 (c :: r)) = c :: r
  | 0, r, hn, _ => by
    obtain rfl := List.length_eq_zero_iff.1 hn
    have h1 := digit_le hc
    rw [valD_cons, valD_nil, dec_lt (by omega)]
    congr 1
    rw [show 48 + (10 * 0 + (c.toNat - 48)) % 10 = c.toNat by omega]; simp
  | n + 1, r, hn, hr => by
    have hne : r ≠ [] := by intro e; subst e; simp at hn
    have e := (List.dropLast_concat_getLast hne).symm
    generalize r.dropLast = q at e
    generalize r.getLast hne = d at e
    subst e
    rw [List.all_append, Bool.and_eq_true] at hr
    have hd : digitB d = true := by simpa using hr.2
    rw [← List.cons_append, valD_snoc, dec_snoc (valD_pos hc h) hd, dec_back c hc h n q (by simpa using hn) hr.1]
theorem dec_head : ∀ (k n : Nat), n < 10 ^ (k + 1) → (decDigits n).head? = some 48 → n = 0
  | 0, n, hn, h => by
    rw [dec_lt (by omega)] at h
    have h1 : UInt8.ofNat (48 + n % 10) = 48 := by simpa only [List.head?_cons, Option.some.injEq] using h
    have h2 := UInt8.toNat_ofNat_of_lt (n := 48 + n % 10) (by simp only [UInt8.size]; omega)
    have h2' : (UInt8.ofNat (48 + n % 10)).toNat = 48 + n % 10 := h2
    rw [h1] at h2'
    have h3 : 48 = 48 + n % 10 := h2'
    omega
  | k + 1, n, hn, h => by
    by_cases h1 : n < 10
    · exact dec_head 0 n (by omega) h
    · have hp := dec_pos (n / 10)
      rw [dec_ge h1, List.head?_append] at h
      cases hq : decDigits (n / 10) with
      | nil => rw [hq] at hp; simp at hp
      | cons a q =>
      rw [hq] at h
      simp only [List.head?_cons, Option.some_or] at h
      have := dec_head k (n / 10) (by rw [Nat.pow_succ] at hn; omega) (by rw [hq]; exact h)
      omega
theorem dec_iff {l : List UInt8} (hne : l ≠ []) (hd : l.all digitB = true) : decDigits (valD 0 l) = l ↔ (l.length = 1 ∨ l.head? ≠ some 48) := by
  cases l with
  | nil => exact (hne rfl).elim
  | cons c r =>
    rw [List.all_cons, Bool.and_eq_true] at hd
    constructor
    · intro e
      by_cases hh : (c :: r).head? = some 48
      · left
        rw [← e] at hh
        have h0 := dec_head (valD 0 (c :: r)) (valD 0 (c :: r)) (Nat.lt_of_lt_of_le Nat.lt_two_pow_self (Nat.le_trans (Nat.pow_le_pow_left (by omega) _) (Nat.pow_le_pow_right (by omega) (by omega)))) hh
        rw [← e, h0, dec_lt (by omega)]; rfl
      · exact .inr hh
    · intro h
      by_cases hc : c = 48
      · rcases h with h | h
        · obtain rfl : r = [] := List.length_eq_zero_iff.1 (by simpa using h)
          subst hc; rw [valD_cons, valD_nil, dec_lt (by decide)]; rfl
        · exact (h (by rw [hc]; rfl)).elim
      · exact dec_back c hd.1 hc _ r rfl hd.2

/- the reading of a number by the document, in these words -/
theorem ref_is {l : List UInt8} (hne : l ≠ []) (hd : l.all digitB = true) : refNumber l = if valD 0 l ≤ 1099511627776 then ((valD 0 l : Int), decide (decDigits (valD 0 l) = l)) else (0, false) := by
  unfold refNumber
  rw [numF_eq l 0 (by omega)]
  by_cases h : valD 0 l ≤ 1099511627776
  · rw [if_pos h, if_pos h]
    simp only
    congr 1
    rw [Bool.eq_iff_iff]
    simp only [Bool.or_eq_true, decide_eq_true_eq]
    exact (dec_iff hne hd).symm
  · rw [if_neg h, if_neg h]

/- what the library's variables hold -/
def Globals (w : World) : Prop := (∃ tp p, w.var? Tryd.prog "strconv.ErrRange" = some #[.iface tp p]) ∧ Lib.TabIs Tryd.prog w "internal/strconv.uint64pow10" .u64 Lib.pow10Tab
theorem gRange : Tryd.prog.globalNamed "strconv.ErrRange" = some 1 := by kernel_rfl
theorem gPow : Tryd.prog.globalNamed "internal/strconv.uint64pow10" = some 3 := by kernel_rfl
theorem Globals.below {B : Nat} {w w' : World} (h : Globals w) (hb : Below B w w') (hB : 4 ≤ B) : Globals w' := by
  obtain ⟨⟨tp, p, h1⟩, h2⟩ := h
  exact ⟨⟨tp, p, var?_below hb gRange (by omega) h1⟩, var?_below hb gPow (by omega) h2⟩

end Go.Proofs.YtkfbhegniobecaaDoor

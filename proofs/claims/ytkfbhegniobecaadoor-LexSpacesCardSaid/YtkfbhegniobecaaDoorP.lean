/- The scanner's methods: sign. -/
import Derived.Test.YtkfbhegniobecaaDoorO
namespace Go.Proofs.YtkfbhegniobecaaDoor
open Go.RowKit

theorem idx_lf : ∀ l : List UInt8, (Lib.indexByte l 10 = -1 ∧ (l.takeWhile notLf).length = l.length) ∨ (Lib.indexByte l 10 = (l.takeWhile notLf).length ∧ (l.takeWhile notLf).length < l.length)
  | [] => .inl ⟨rfl, rfl⟩
  | b :: l => by
    rw [Lib.indexByte, List.takeWhile_cons]
    by_cases hb : b = 10
    · subst hb
      right
      rw [if_pos (by decide), if_neg (by decide)]
      simp
    · have hn : notLf b = true := by
        simp only [notLf, bne_iff_ne, ne_eq]
        intro e; exact hb (UInt8.toNat_inj.1 e)
      rw [if_neg (by simpa using hb), if_pos hn]
      rcases idx_lf l with ⟨h1, h2⟩ | ⟨h1, h2⟩
      · left; rw [h1]; simp [h2]
      · right
        rw [h1, if_neg (by simp)]
        exact ⟨by simp only [List.length_cons]; omega, by simp only [List.length_cons]; omega⟩

theorem prefix_note (s : ByteArray) (i : Nat) (hi : i < s.size) : (Lib.hasPrefix (s.extract i s.size).data.toList [47, 47] = true) ↔ noteAt s i := by
  rw [Lib.extract_to_end, noteAt_iff hi, drop_cons s i hi]
  unfold Lib.hasPrefix
  rw [List.isPrefixOf]
  cases hd : s.data.toList.drop (i + 1) with
  | nil => simp [List.isPrefixOf]
  | cons c r =>
    simp only [List.isPrefixOf, Bool.and_eq_true, beq_iff_eq, and_true, List.head?_cons, Option.some.injEq]
    constructor <;> (rintro ⟨h1, h2⟩; exact ⟨h1.symm, h2.symm⟩)

theorem slice_from (s : ByteArray) (a : Nat) (h : a ≤ s.size) : ∀ wx, (Instr.slice 9 (.string s) (some (.int .i64 (a : Int))) none none).run Tryd.prog wx = .ok (.string (s.extract a s.size)) wx := by
  intro wx
  have := run_slice_string_l (P := Tryd.prog) (w := wx) (t := 9) (s := s) Tryd.underlying9 .i64 (a : Int) (by omega) (by omega)
  simpa using this

set_option maxRecDepth 100000 in
set_option maxHeartbeats 4000000 in
theorem sign_note (p : Nat) (s : ByteArray) (i : Nat) (v : Value) (acc : List Tok) (w : World) (hp : ScanCells w p s i v) (hown : OwnToks (p + 1) w v acc) (hs : s.size ≤ 65536) (hi : i < s.size) (hn : noteAt s i) :
    Calls Tryd.prog 29 #[.pointer (some ⟨p, 0, none⟩)] w (Stepped p s w (.ok (i + spanL notLf s i, acc))) := by
  obtain ⟨c0, c1, c2, f1, f2, hlt⟩ := scan_cell hp
  have Hp := Lib.hid hp
  have hpre : Lib.hasPrefix (s.extract i s.size).data.toList [47, 47] = true := (prefix_note s i hi).2 hn
  have Hpre := Lib.hid (fun wx => Tryd.strings_HasPrefix (s.extract i s.size) ⟨#[47, 47]⟩ wx)
  rw [show (ByteArray.mk #[47, 47]).data.toList = [47, 47] from rfl, hpre] at Hpre
  have Hidx := Lib.hid (fun wx => Tryd.strings_IndexByte (s.extract i s.size) 10 wx)
  rw [show ((10 : Int).toNat.toUInt8) = 10 from rfl, Lib.extract_to_end] at Hidx
  have hx := idx_lf (s.data.toList.drop i)
  have hle := span_le notLf s i (by omega)
  change (_ ∧ spanL notLf s i = _) ∨ (_ = ((spanL notLf s i : Nat) : Int) ∧ spanL notLf s i < _) at hx
  rw [List.length_drop, length_toList] at hx
  generalize spanL notLf s i = T at hx hle ⊢
  have hsl := slice_from s i (by omega)
  generalize Lib.indexByte (s.data.toList.drop i) 10 = ix at hx Hidx
  generalize s.extract i s.size = y at Hpre Hidx hsl
  clear hp hpre hn
  rcases hx with ⟨rfl, hT⟩ | ⟨rfl, hT⟩
  · have HT := Lib.hid (show ((s.size : Nat) : Int) = ((i + T : Nat) : Int) by omega)
    clear hT
    go_enter Tryd.func29, Tryd.ntmps29
    go_wp2_with fail
    go_quiet ((go_at_call 46; exact Calls.quiet_of_same (Hpre.out _)))
    have hB1 : Below p w (w.drewN nq) := below_drewN (Below.refl p w) nq
    have hp1 : ScanCells (w.drewN nq) p s i v := Hp.out.drewN nq
    have hown1 : OwnToks (p + 1) (w.drewN nq) v acc := hown.drewN nq
    clear c0 c1 c2 f1 f2 hlt Hp hown
    generalize w.drewN nq = w1 at hB1 hp1 hown1 ⊢
    obtain ⟨c0, c1, c2, f1, f2, hlt⟩ := scan_cell hp1
    have Hp := Lib.hid hp1
    clear hp1
    go_wp2_with fail
    go_quiet ((go_at_call 47; exact Calls.quiet_of_same (Hidx.out _)))
    go_wp2_with fail
    go_end0
    refine ⟨(below_drewN hB1 _).setCell (p := ⟨p, 1, none⟩) (Nat.le_refl _) _, rfl, v, (Hp.out.drewN _).set1 _ _ HT.out, (hown1.drewN _).of_other _ _ (Nat.lt_succ_self p)⟩
  · have hTn : 0 ≤ (T : Int) := by omega
    go_enter Tryd.func29, Tryd.ntmps29
    go_wp2_with fail
    go_quiet ((go_at_call 46; exact Calls.quiet_of_same (Hpre.out _)))
    have hB1 : Below p w (w.drewN nq) := below_drewN (Below.refl p w) nq
    have hp1 : ScanCells (w.drewN nq) p s i v := Hp.out.drewN nq
    have hown1 : OwnToks (p + 1) (w.drewN nq) v acc := hown.drewN nq
    clear c0 c1 c2 f1 f2 hlt Hp hown
    generalize w.drewN nq = w1 at hB1 hp1 hown1 ⊢
    obtain ⟨c0, c1, c2, f1, f2, hlt⟩ := scan_cell hp1
    have Hp := Lib.hid hp1
    clear hp1
    go_wp2_with fail
    go_quiet ((go_at_call 47; exact Calls.quiet_of_same (Hidx.out _)))
    go_wp2_with fail
    go_end0
    refine ⟨(below_drewN hB1 _).setCell (p := ⟨p, 1, none⟩) (Nat.le_refl _) _, rfl, v, (Hp.out.drewN _).set1 _ _ (by omega), (hown1.drewN _).of_other _ _ (Nat.lt_succ_self p)⟩

set_option maxRecDepth 100000 in
set_option maxHeartbeats 4000000 in
theorem sign_plain (p : Nat) (s : ByteArray) (i : Nat) (v : Value) (acc : List Tok) (w : World) (hp : ScanCells w p s i v) (hown : OwnToks (p + 1) w v acc) (hs : s.size ≤ 65536) (hi : i < s.size) (hacc : acc.length ≤ i) (hn : ¬ noteAt s i) (hsg : signB s[i] = true) :
    Calls Tryd.prog 29 #[.pointer (some ⟨p, 0, none⟩)] w (Stepped p s w (.ok (i + 1, acc ++ [⟨3, s.extract i (i + 1), 0, i⟩]))) := by
  obtain ⟨c0, c1, c2, f1, f2, hlt⟩ := scan_cell hp
  have Hp := Lib.hid hp
  have hpre : Lib.hasPrefix (s.extract i s.size).data.toList [47, 47] = false := Bool.eq_false_iff.2 fun h => hn ((prefix_note s i hi).1 h)
  have Hpre := Lib.hid (fun wx => Tryd.strings_HasPrefix (s.extract i s.size) ⟨#[47, 47]⟩ wx)
  rw [show (ByteArray.mk #[47, 47]).data.toList = [47, 47] from rfl, hpre] at Hpre
  have hsl := slice_from s i (by omega)
  have hsl2 := slice_is s i (i + 1) (i + 1) (by omega) (by omega) (by omega)
  have hsz := extract_size (s := s) (show i ≤ i + 1 by omega) (by omega)
  have Hv := Lib.hid (show validB ⟨3, s.extract i (i + 1), 0, 0⟩ = true by
    rw [valid_sign rfl rfl rfl, extract_one s i hi]; simp [signT, hsg])
  generalize s.extract i s.size = y at Hpre hsl
  generalize s.extract i (i + 1) = x at hsl2 hsz Hv ⊢
  have hx1 : x.size ≤ maxLen := by unfold maxLen; omega
  have hx2 : x.size ≤ 1000000 := by omega
  have Hx3 := Lib.hid (show i + 1 = i + x.size by omega)
  clear hp hpre hn hsg hsz
  go_enter Tryd.func29, Tryd.ntmps29
  go_wp2_with fail
  go_quiet ((go_at_call 46; exact Calls.quiet_of_same (Hpre.out _)))
  have hB1 : Below p w (w.drewN nq) := below_drewN (Below.refl p w) nq
  have hp1 : ScanCells (w.drewN nq) p s i v := Hp.out.drewN nq
  have hown1 : OwnToks (p + 1) (w.drewN nq) v acc := hown.drewN nq
  clear c0 c1 c2 f1 f2 hlt Hp hown
  generalize w.drewN nq = w1 at hB1 hp1 hown1 ⊢
  obtain ⟨c0, c1, c2, f1, f2, hlt⟩ := scan_cell hp1
  have Hp := Lib.hid hp1
  clear hp1
  go_wp2_with fail
  go_quiet (fail)
  go_wp2_with fail
  refine (add_yes p s i v acc x 3 x 0 0 w _ (below_drewN hB1 _) (Hp.out.drewN _) (hown1.drewN _) (by omega) (by omega) hx2 hx1 Hv.out _ Hx3.out).mono ?_
  rintro e w3 ⟨rfl, hst⟩
  go_wp2
  go_end0
  exact hst

end Go.Proofs.YtkfbhegniobecaaDoor

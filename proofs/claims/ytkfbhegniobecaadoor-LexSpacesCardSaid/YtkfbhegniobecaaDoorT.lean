/- The program's Lex: the walk. -/
import Derived.Test.YtkfbhegniobecaaDoorS
import Derived.Laws.EntriesVeiled
namespace Go.Proofs.YtkfbhegniobecaaDoor
open Go.RowKit

theorem globals_size {w : World} (h : Globals w) : 4 ≤ w.heap.size := by
  have h2 := h.2
  unfold Lib.TabIs World.var? at h2
  rw [gPow, Option.bind_some] at h2
  rcases Nat.lt_or_ge 3 w.heap.size with hl | hl
  · exact hl
  · rw [Array.getElem?_eq_none hl] at h2; simp at h2

/- the place at which a scanner stands -/
def placeOf (p : Nat) (wr : World) : Nat := (intOf ((wr.cell? ⟨p, 1, none⟩).getD undef)).toNat
theorem placeOf_is {p : Nat} {s : ByteArray} {i : Nat} {v : Value} {wr : World} (h : ScanCells wr p s i v) : placeOf p wr = i := by
  unfold placeOf
  rw [(scan_cell h).2.1]
  simp [intOf]

theorem ScanAt.spaces {s : ByteArray} {r : Except Nat (List Tok)} {i : Nat} {acc : List Tok} (h : ScanAt s r i acc) : ScanAt s r (i + spanL spaceB s i) acc := by
  have key : ∀ k, k ≤ spanL spaceB s i → ScanAt s r (i + k) acc := by
    intro k
    induction k with
    | zero => intro _; exact h
    | succ k ih =>
      intro hk
      obtain ⟨hl, e⟩ := span_in (p := spaceB) (s := s) (i := i) (k := k) (by omega)
      exact (ih (by omega)).space hl e
  exact key _ (Nat.le_refl _)

/- what a step of the scanner leaves -/
theorem St.stepped {p : Nat} {s : ByteArray} {i j : Nat} {v : Value} {acc acc' : List Tok} {w0 w w' : World} {e : Ending} (h : St p s i v acc w0 w) (hp : 6 ≤ p) (hs : Stepped p s w (.ok (j, acc')) e w') : e = .returned (.tuple #[]) ∧ ∃ v', St p s j v' acc' w0 w' := by
  obtain ⟨hb, he, v', hc, ho⟩ := hs
  exact ⟨he, v', hc, ho, h.below.trans hb, h.glob.below hb (by omega)⟩

/- a step at a byte: by the scanning -/
theorem scan_step {s : ByteArray} {r : Except Nat (List Tok)} {i : Nat} {acc : List Tok} (h : ScanAt s r i acc) (hi : i < s.size) (hs : s.size ≤ 65536) (hacc : acc.length ≤ i) (p : Nat) (hp6 : 6 ≤ p) (w0 w : World) (v : Value) (hst : St p s i v acc w0 w) :
    ∃ f : Nat, (∀ W : World, Calls Tryd.prog 30 #[.int .u8 ((s[i]).toNat : Int)] W fun e w' => e = .returned (.int .i64 (classF s[i])) ∧ W = w') ∧
      (classF s[i] = 0 ∧ f = 25 ∨ classF s[i] = 1 ∧ f = 26 ∨ classF s[i] = 2 ∧ f = 27 ∨ classF s[i] = 3 ∧ f = 28 ∨ classF s[i] = 4 ∧ f = 29 ∨ classF s[i] = 5 ∧ f = 25) ∧
      Calls Tryd.prog f #[.pointer (some ⟨p, 0, none⟩)] w fun e w' =>
        (∃ j acc' v', e = .returned (.tuple #[]) ∧ St p s j v' acc' w0 w' ∧ ScanAt s r j acc' ∧ i < j ∧ j ≤ s.size ∧ acc'.length ≤ j) ∨
        (e = .panicked [{ v := .iface 42 (.int .i64 i), recovered := false }] ∧ Below p w0 w' ∧ r = .error i) := by
  have hcl := class_any s[i]
  have bad : ∀ (n : Int) (w' : World) (e : Ending), r = .error i → Stepped p s w (.error i) e w' → (∃ j acc' v', e = .returned (.tuple #[]) ∧ St p s j v' acc' w0 w' ∧ ScanAt s r j acc' ∧ i < j ∧ j ≤ s.size ∧ acc'.length ≤ j) ∨
        (e = .panicked [{ v := .iface 42 (.int .i64 i), recovered := false }] ∧ Below p w0 w' ∧ r = .error i) := fun n w' e hr hst' => .inr ⟨hst'.2, hst.below.trans hst'.1, hr⟩
  have good : ∀ (j : Nat) (acc' : List Tok) (w' : World) (e : Ending), ScanAt s r j acc' → i < j → j ≤ s.size → acc'.length ≤ j → Stepped p s w (.ok (j, acc')) e w' → (∃ j acc' v', e = .returned (.tuple #[]) ∧ St p s j v' acc' w0 w' ∧ ScanAt s r j acc' ∧ i < j ∧ j ≤ s.size ∧ acc'.length ≤ j) ∨
        (e = .panicked [{ v := .iface 42 (.int .i64 i), recovered := false }] ∧ Below p w0 w' ∧ r = .error i) := fun j acc' w' e h1 h2 h3 h4 hst' => by
    obtain ⟨he, v', hh⟩ := hst.stepped hp6 hst'
    exact .inl ⟨j, acc', v', he, hh, h1, h2, h3, h4⟩
  by_cases hl : letterB s[i] = true
  · have hc : classF s[i] = 2 := cl_letter hl
    have hsp : spaceB s[i] = false := by rw [← class_1, hc]; rfl
    have h47 : ¬ noteAt s i := by
      rintro ⟨_, e, _⟩
      rw [e] at hl; revert hl; decide
    refine ⟨27, hcl, by rw [hc]; decide, ?_⟩
    have hT := span_pos (p := partB) hi (by simp [partB, hl])
    have hle := span_le partB s i (by omega)
    refine (name_step p s i v acc w hst.cells hst.own hs (by omega) hacc _ rfl).mono fun e w' hst' => ?_
    cases hn : nameB (s.extract i (i + spanL partB s i)).data.toList with
    | true =>
      rw [hn, if_pos rfl] at hst'
      exact good _ _ _ _ (h.name hi hs hsp h47 hl rfl hn) (by omega) hle (by simp; omega) hst'
    | false =>
      rw [hn, if_neg (by simp)] at hst'
      exact bad 0 _ _ (h.noname hi hsp h47 hl rfl hn) hst'
  · rw [Bool.not_eq_true] at hl
    by_cases hdg : digitB s[i] = true
    · have hc : classF s[i] = 3 := by have := class_3 s[i]; rw [hdg] at this; simpa using this
      have hsp : spaceB s[i] = false := by rw [← class_1, hc]; rfl
      have h47 : ¬ noteAt s i := by
        rintro ⟨_, e, _⟩
        rw [e] at hdg; revert hdg; decide
      refine ⟨28, hcl, by rw [hc]; decide, ?_⟩
      have hT := span_pos (p := digitB) hi hdg
      have hle := span_le digitB s i (by omega)
      refine (number_step p s i v acc w hp6 hst.cells hst.own hst.glob hs hi hdg hacc _ rfl).mono fun e w' hst' => ?_
      generalize hn : refNumber (s.extract i (i + spanL digitB s i)).data.toList = nb at hst'
      obtain ⟨n, b⟩ := nb
      cases b with
      | true =>
        rw [if_pos rfl] at hst'
        exact good _ _ _ _ (h.number hi hsp h47 hl hdg rfl n hn) (by omega) hle (by simp; omega) hst'
      | false =>
        rw [if_neg (by simp)] at hst'
        exact bad 0 _ _ (h.nonumber hi hsp h47 hl hdg rfl n hn) hst'
    · rw [Bool.not_eq_true] at hdg
      by_cases hsp : spaceB s[i] = true
      · have hc : classF s[i] = 1 := by have := class_1 s[i]; rw [hsp] at this; simpa using this
        refine ⟨26, hcl, by rw [hc]; decide, ?_⟩
        have hT := span_pos (p := spaceB) hi hsp
        have hle := span_le spaceB s i (by omega)
        refine (space_step p s i v acc w hst.cells hst.own hs (by omega)).mono fun e w' hst' => ?_
        exact good _ _ _ _ h.spaces (by omega) hle (by omega) hst'
      · rw [Bool.not_eq_true] at hsp
        by_cases hsg : signB s[i] = true
        · have hc : classF s[i] = 4 := by have := class_4 s[i]; rw [hsg] at this; simpa using this
          refine ⟨29, hcl, by rw [hc]; decide, ?_⟩
          by_cases h47 : noteAt s i
          · have hT := span_pos (p := notLf) hi (by obtain ⟨_, e, _⟩ := h47; rw [e]; decide)
            have hle := span_le notLf s i (by omega)
            refine (sign_note p s i v acc w hst.cells hst.own hs hi h47).mono fun e w' hst' => ?_
            exact good _ _ _ _ (h.note hi hsp h47 rfl) (by omega) hle (by omega) hst'
          · refine (sign_plain p s i v acc w hst.cells hst.own hs hi hacc h47 hsg).mono fun e w' hst' => ?_
            exact good _ _ _ _ (h.sign hi hsp h47 hl hdg hsg) (by omega) (by omega) (by simp; omega) hst'
        · rw [Bool.not_eq_true] at hsg
          have h47 : ¬ noteAt s i := by
            rintro ⟨_, e, _⟩
            rw [e] at hsg; revert hsg; decide
          have hr := h.wrong hi hsp h47 hl hdg hsg
          refine ⟨25, hcl, ?_, ?_⟩
          · have a1 := class_1 s[i]; rw [hsp] at a1
            have a2 := class_2 s[i]; rw [hl] at a2
            have a3 := class_3 s[i]; rw [hdg] at a3
            have a4 := class_4 s[i]; rw [hsg] at a4
            have a5 := class_range s[i]
            simp only [beq_eq_false_iff_ne, ne_eq] at a1 a2 a3 a4
            omega
          · exact (wrong_any p s i v w hst.cells).mono fun e w' hst' => bad 0 _ _ hr hst'

end Go.Proofs.YtkfbhegniobecaaDoor

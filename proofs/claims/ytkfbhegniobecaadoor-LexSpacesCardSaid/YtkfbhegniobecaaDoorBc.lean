/- PROVED HERE, in plain Lean with no program in sight: a valid token's word is read back as that token; what 'scan' reads is valid, and its words stand at their places; the joined words of valid tokens are read back. No condition. -/
import Derived.Test.YtkfbhegniobecaaDoorBb
namespace Go.Proofs.YtkfbhegniobecaaDoor
open Go.RowKit Lib

theorem dig_ok (n : Nat) (h : n < 10) : digitB (UInt8.ofNat (48 + n)) = true ∧ (UInt8.ofNat (48 + n)).toNat - 48 = n := by
  have : n ∈ List.range 10 := List.mem_range.2 h
  have hall : ((List.range 10).all fun n => digitB (UInt8.ofNat (48 + n)) && (UInt8.ofNat (48 + n)).toNat - 48 == n) = true := by decide +kernel
  have := List.all_eq_true.1 hall n this
  simp only [Bool.and_eq_true, beq_iff_eq] at this
  exact this
theorem dec_val : ∀ n : Nat, valD 0 (decDigits n) = n ∧ (decDigits n).all digitB = true := by
  intro n
  induction n using Nat.strongRecOn with
  | _ n ih =>
    obtain ⟨d1, d2⟩ := dig_ok (n % 10) (Nat.mod_lt _ (by decide))
    by_cases h : n < 10
    · rw [dec_lt h, valD_cons, valD_nil]
      refine ⟨by rw [d2]; omega, by rw [List.all_cons, d1]; rfl⟩
    · obtain ⟨i1, i2⟩ := ih (n / 10) (by omega)
      rw [dec_ge h, valD_snoc, i1, d2]
      refine ⟨by omega, ?_⟩
      rw [List.all_append, i2, List.all_cons, d1]; rfl
theorem ref_dec {N : Nat} (h : N ≤ 1099511627776) : refNumber (decDigits N) = ((N : Int), true) := by
  obtain ⟨h1, h2⟩ := dec_val N
  have hne : decDigits N ≠ [] := fun e => by have := dec_pos N; rw [e] at this; simp at this
  rw [ref_is hne h2, h1, if_pos h]; simp

theorem tw_id {p : UInt8 → Bool} : ∀ {l : List UInt8}, l.all p = true → l.takeWhile p = l
  | [], _ => rfl
  | a :: r, h => by
    simp only [List.all_cons, Bool.and_eq_true] at h
    rw [List.takeWhile_cons, if_pos h.1, tw_id h.2]
theorem tw_take_len {p : UInt8 → Bool} : ∀ l : List UInt8, l.take (l.takeWhile p).length = l.takeWhile p
  | [] => rfl
  | a :: r => by
    rw [List.takeWhile_cons]
    by_cases ha : p a = true
    · rw [if_pos ha, List.length_cons, List.take_succ_cons, tw_take_len r]
    · rw [if_neg ha]; rfl
theorem tw_all_p {p : UInt8 → Bool} : ∀ l : List UInt8, (l.takeWhile p).all p = true
  | [] => rfl
  | a :: r => by
    rw [List.takeWhile_cons]
    by_cases ha : p a = true
    · rw [if_pos ha, List.all_cons, ha, tw_all_p r]; rfl
    · rw [if_neg ha]; rfl
theorem class_of (c : UInt8) : ((!letterB c || (!spaceB c && c != 47)) && ((!digitB c || (!spaceB c && (!letterB c && c != 47))) && (!signB c || (!spaceB c && (!letterB c && !digitB c))))) = true :=
  all_u8 (fun c => (!letterB c || (!spaceB c && c != 47)) && ((!digitB c || (!spaceB c && (!letterB c && c != 47))) && (!signB c || (!spaceB c && (!letterB c && !digitB c))))) (by decide +kernel) c
theorem letter_ns {c : UInt8} (h : letterB c = true) : spaceB c = false ∧ c ≠ 47 := by
  have := class_of c; simp [h] at this; exact this.1
theorem digit_is {c : UInt8} (h : digitB c = true) : spaceB c = false ∧ letterB c = false ∧ c ≠ 47 := by
  have := class_of c; simp [h] at this; exact this.2.1
theorem sign_ns {c : UInt8} (h : signB c = true) : spaceB c = false ∧ letterB c = false ∧ digitB c = false := by
  have := class_of c; simp [h] at this; exact this.2.2

/- a name, a number, a sign: one step -/
theorem step_name {c : UInt8} {r : List UInt8} (h : nameB (c :: r) = true) : stepL (c :: r) = .tok (c :: r).length 1 (c :: r) 0 := by
  have h' := h
  simp only [nameB, Bool.and_eq_true] at h
  obtain ⟨a1, a2⟩ := letter_ns h.1.2
  rw [stepL_cons, if_neg (by rw [a1]; simp), if_neg (fun e => a2 e.1), if_pos h.1.2, tw_id h.2, if_pos h']
theorem step_number {N : Nat} (h : N ≤ 1099511627776) : stepL (decDigits N) = .tok (decDigits N).length 2 [] N := by
  have hr := ref_dec h
  obtain ⟨_, h2⟩ := dec_val N
  have hp := dec_pos N
  cases hd : decDigits N with
  | nil => rw [hd] at hp; simp at hp
  | cons c r =>
    rw [hd] at h2 hr
    have hc : digitB c = true := by simp only [List.all_cons, Bool.and_eq_true] at h2; exact h2.1
    obtain ⟨a1, a2, a3⟩ := digit_is hc
    rw [stepL_cons, if_neg (by rw [a1]; simp), if_neg (fun e => a3 e.1), if_neg (by rw [a2]; simp), if_pos hc, tw_id h2, hr, if_pos rfl]
theorem step_sign {c : UInt8} (h : signB c = true) : stepL [c] = .tok 1 3 [c] 0 := by
  obtain ⟨a1, a2, a3⟩ := sign_ns h
  rw [stepL_cons, if_neg (by rw [a1]; simp), if_neg (fun e => by simp at e), if_neg (by rw [a2]; simp), if_neg (by rw [a3]; simp), if_pos h]
theorem step_word {t : Tok} (hv : validB t = true) : stepL (wordOf t) = .tok (wordOf t).length t.kind t.text.data.toList t.n ∧ wordOf t ≠ [] := by
  unfold wordOf
  rcases valid_cases hv with ⟨h1, h2, h3⟩ | ⟨h1, h2, h3, h4⟩ | ⟨h1, ⟨c, h2, h4⟩, h3⟩
  · rw [if_neg (by omega), h1, h3]
    cases hl : t.text.data.toList with
    | nil => rw [hl] at h2; simp [nameB] at h2
    | cons c r => rw [hl] at h2; exact ⟨step_name h2, by simp⟩
  · rw [if_pos h1, h1, h2, step_number (by omega)]
    refine ⟨by congr 1; omega, fun e => by have := dec_pos t.n.toNat; rw [e] at this; simp at this⟩
  · rw [if_neg (by omega), h1, h3, h2]
    exact ⟨step_sign h4, by simp⟩
theorem scan_word {t : Tok} (hv : validB t = true) {m : List UInt8} (hm : SpaceHead m) (i : Nat) :
    scan (wordOf t ++ m) i = preT [⟨t.kind, t.text, t.n, i⟩] (scan m (i + (wordOf t).length)) := by
  obtain ⟨h1, h2⟩ := step_word hv
  cases hw : wordOf t with
  | nil => exact absurd hw h2
  | cons c r =>
    rw [hw] at h1
    rw [List.cons_append, scan_stepL, ← List.cons_append, step_append hm (.inl fun ho => by rw [open_skip ho] at h1; cases h1), h1]
    simp only [List.drop_left]
    congr 1

/- what a step reads is valid, and its word is what it read -/
theorem step_valid {c : UInt8} {r : List UInt8} {n : Nat} {kd : Int} {tx : List UInt8} {v : Int} (h : stepL (c :: r) = .tok n kd tx v) (i : Int) :
    wordOf ⟨kd, mk tx, v, i⟩ = (c :: r).take n ∧ validB ⟨kd, mk tx, v, i⟩ = true ∧ tx.length ≤ 32 := by
  rw [stepL_cons] at h
  split at h
  · cases h
  · split at h
    · cases h
    · split at h
      · split at h
        · rename_i hn
          cases h
          refine ⟨?_, ?_, name_len hn⟩
          · rw [show wordOf ⟨1, mk ((c :: r).takeWhile partB), 0, i⟩ = (c :: r).takeWhile partB from rfl, tw_take_len]
          · rw [valid_name (by rfl), mk_list, hn]; rfl
        · cases h
      · split at h
        · rename_i hc
          split at h
          · rename_i hn
            cases h
            have hd := tw_all_p (p := digitB) (c :: r)
            have hne : (c :: r).takeWhile digitB ≠ [] := fun e => by have := twl_pos (r := r) hc; rw [e] at this; simp at this
            rw [ref_is hne hd] at hn ⊢
            by_cases hb : valD 0 ((c :: r).takeWhile digitB) ≤ 1099511627776
            · rw [if_pos hb] at hn ⊢
              have hdd : decDigits (valD 0 ((c :: r).takeWhile digitB)) = (c :: r).takeWhile digitB := by simpa using hn
              refine ⟨?_, ?_, by simp⟩
              · unfold wordOf
                rw [if_pos rfl, tw_take_len]
                simp only [Int.toNat_natCast]
                exact hdd
              · rw [valid_number (by rfl) (by rfl), mk_list]
                simp; omega
            · rw [if_neg hb] at hn; simp at hn
          · cases h
        · split at h
          · rename_i hs
            cases h
            refine ⟨?_, ?_, by simp⟩
            · rw [show wordOf ⟨3, mk [c], 0, i⟩ = [c] from rfl]; rfl
            · rw [valid_sign (by rfl) (by rfl) (by rfl), mk_list]
              simp [signT, hs]
          · cases h

/- white space and comments, as the law of places reads them -/
def gapB : Bool → List UInt8 → Option Bool
  | cm, [] => some cm
  | cm, c :: r =>
    let cm' := c != 10 && (cm || (c == 47 && r.head? == some 47))
    if !cm' && !spaceB c then none else gapB cm' r
def Places : List UInt8 → Nat → List Tok → Prop
  | l, _, [] => ∃ cm, gapB false l = some cm
  | l, i, t :: ts => ∃ g rest, l = g ++ (wordOf t ++ rest) ∧ gapB false g = some false ∧ t.at_ = ((i + g.length : Nat) : Int) ∧ wordOf t ≠ [] ∧ validB t = true ∧ t.text.size ≤ 32 ∧ Places rest (i + g.length + (wordOf t).length) ts

theorem word_head {t : Tok} (hv : validB t = true) {q : List UInt8} : wordOf t ≠ 10 :: q := by
  intro e
  obtain ⟨h1, _⟩ := step_word hv
  rw [e, stepL_cons, if_pos (by decide)] at h1
  cases h1
theorem gap_note : ∀ l : List UInt8, (∀ c ∈ l, notLf c = true) → ∀ m : List UInt8, gapB true (l ++ m) = gapB true m
  | [], _, _ => rfl
  | c :: r, h, m => by
    have hc : (c != 10) = true := by
      have := h c (List.mem_cons_self)
      simp only [notLf, bne_iff_ne, ne_eq] at this ⊢
      intro e; subst e; exact this rfl
    rw [List.cons_append, gapB]
    simp only [hc, Bool.true_and, Bool.true_or, Bool.not_true, Bool.false_and, Bool.false_eq_true, if_false]
    exact gap_note r (fun c hc => h c (List.mem_cons_of_mem _ hc)) m
theorem gap_open {c d : UInt8} {r m : List UInt8} (hc : c = 47) (hd : d = 47) (h : ∀ x ∈ r, notLf x = true) : gapB false (c :: d :: r ++ m) = gapB true m := by
  subst hc; subst hd
  rw [List.cons_append, List.cons_append, gapB]
  rw [show ((47 : UInt8) != 10 && (false || ((47 : UInt8) == 47 && (47 :: (r ++ m)).head? == some 47))) = true from rfl]
  simp only [Bool.not_true, Bool.false_and, Bool.false_eq_true, if_false]
  exact gap_note (47 :: r) (fun x hx => by
    rcases List.mem_cons.1 hx with rfl | hx
    · decide
    · exact h x hx) m
theorem gap_lf (b : Bool) (r : List UInt8) : gapB b (10 :: r) = gapB false r := by
  rw [gapB]
  simp [spaceB]
theorem gap_space {c : UInt8} (h : spaceB c = true) (r : List UInt8) : gapB false (c :: r) = gapB false r := by
  have h47 := slash_space c h
  rw [gapB]
  have e : (c == 47) = false := by simpa using h47
  simp [e, h]
theorem drop_tw {p : UInt8 → Bool} : ∀ l : List UInt8, l.drop (l.takeWhile p).length = [] ∨ ∃ c q, l.drop (l.takeWhile p).length = c :: q ∧ p c = false
  | [] => .inl rfl
  | a :: r => by
    rw [List.takeWhile_cons]
    by_cases ha : p a = true
    · rw [if_pos ha]; exact drop_tw r
    · rw [if_neg ha]; exact .inr ⟨a, r, rfl, by simpa using ha⟩

theorem scan_places : ∀ (l : List UInt8) (i : Nat) (ts : List Tok), scan l i = .ok ts → Places l i ts := by
  intro l
  induction l using len_ind with
  | _ l ih =>
    intro i ts h
    cases l with
    | nil => rw [scan_nil] at h; cases h; exact ⟨false, rfl⟩
    | cons c r =>
      rw [scan_stepL] at h
      cases hs : stepL (c :: r) with
      | bad => rw [hs] at h; cases h
      | tok n kd tx v =>
        obtain ⟨h1, h2⟩ := step_pos.2 n kd tx v hs
        rw [hs] at h
        simp only at h
        obtain ⟨q, hq, rfl⟩ := preT_ok h
        obtain ⟨e1, e2, e3⟩ := step_valid hs i
        have hp := ih _ (by simp only [List.length_drop, List.length_cons] at *; omega) _ _ hq
        have hlen : (wordOf ⟨kd, mk tx, v, i⟩).length = n := by rw [e1, List.length_take]; omega
        refine ⟨[], (c :: r).drop n, ?_, rfl, by simp, fun e => ?_, e2, ?_, ?_⟩
        · rw [e1, List.nil_append, List.take_append_drop]
        · rw [e] at hlen; simp at hlen; omega
        · exact e3
        · rw [hlen]; exact hp
      | skip n =>
        obtain ⟨h1, h2⟩ := step_pos.1 n hs
        rw [hs] at h
        simp only at h
        have hp := ih _ (by simp only [List.length_drop, List.length_cons] at *; omega) _ _ h
        rw [stepL_cons] at hs
        by_cases h0 : spaceB c = true
        · rw [if_pos h0] at hs
          have hn : n = 1 := by injection hs with hs; omega
          subst hn
          simp only [List.drop_succ_cons, List.drop_zero] at hp
          cases ts with
          | nil =>
            obtain ⟨cm, hcm⟩ := hp
            exact ⟨cm, by rw [gap_space h0]; exact hcm⟩
          | cons t ts =>
            obtain ⟨g, rest, rfl, hg, ha, hr⟩ := hp
            refine ⟨c :: g, rest, rfl, by rw [gap_space h0]; exact hg, by rw [ha]; simp; omega, ?_⟩
            have e : i + (c :: g).length = i + 1 + g.length := by simp; omega
            rw [e]; exact hr
        · rw [if_neg h0] at hs
          by_cases h1' : c = 47 ∧ r.head? = some 47
          · rw [if_pos h1'] at hs
            have hn : n = ((c :: r).takeWhile notLf).length := by injection hs with hs; omega
            obtain ⟨hc47, hr47⟩ := h1'
            cases r with
            | nil => cases hr47
            | cons d r =>
              have hd : d = 47 := by simpa using hr47
              have hw : (c :: d :: r).takeWhile notLf = c :: d :: r.takeWhile notLf := by
                rw [List.takeWhile_cons, if_pos (by rw [hc47]; decide), List.takeWhile_cons, if_pos (by rw [hd]; decide)]
              have hall : ∀ x ∈ r.takeWhile notLf, notLf x = true := fun x hx => List.all_eq_true.1 (tw_all_p r) x hx
              have hsplit : c :: d :: r = (c :: d :: r.takeWhile notLf) ++ (c :: d :: r).drop n := by
                rw [← hw, ← tw_take_len (p := notLf) (c :: d :: r), ← hn, List.take_append_drop]
              have hln : (c :: d :: r.takeWhile notLf).length = n := by rw [hn, hw]
              have hdr := drop_tw (p := notLf) (c :: d :: r)
              rw [← hn] at hdr
              generalize (c :: d :: r).drop n = R at *
              rw [hsplit]
              cases ts with
              | nil =>
                rcases hdr with rfl | ⟨x, q, rfl, hx⟩
                · exact ⟨true, by rw [gap_open hc47 hd hall]; rfl⟩
                · have hx10 : x = 10 := by
                    have : x.toNat = 10 := by simpa [notLf] using hx
                    exact UInt8.toNat_inj.1 this
                  subst hx10
                  obtain ⟨cm, hcm⟩ := hp
                  exact ⟨cm, by rw [gap_open hc47 hd hall, gap_lf, ← gap_lf false]; exact hcm⟩
              | cons t ts =>
                obtain ⟨g, rest, hR, hg, ha, hne, hv, hsz, hr⟩ := hp
                rcases hdr with rfl | ⟨x, q, rfl, hx⟩
                · have := congrArg List.length hR
                  simp at this
                  exact absurd (List.eq_nil_of_length_eq_zero (by omega)) hne
                · have hx10 : x = 10 := by
                    have : x.toNat = 10 := by simpa [notLf] using hx
                    exact UInt8.toNat_inj.1 this
                  subst hx10
                  cases g with
                  | nil =>
                    exfalso
                    rw [List.nil_append] at hR
                    cases hwt : wordOf t with
                    | nil => exact hne hwt
                    | cons y z =>
                      rw [hwt] at hR
                      simp only [List.cons_append, List.cons.injEq] at hR
                      rw [← hR.1] at hwt
                      exact word_head hv hwt
                  | cons y g =>
                    have hy : y = 10 := by
                      simp only [List.cons_append, List.cons.injEq] at hR; exact hR.1.symm
                    subst hy
                    refine ⟨(c :: d :: r.takeWhile notLf) ++ 10 :: g, rest, ?_, ?_, ?_, hne, hv, hsz, ?_⟩
                    · rw [hR]; simp
                    · rw [gap_open hc47 hd hall, gap_lf, ← gap_lf false]; exact hg
                    · rw [ha, List.length_append, hln]; simp; omega
                    · rw [List.length_append, hln, show i + (n + (10 :: g).length) = i + n + (10 :: g).length from by omega]; exact hr
          · rw [if_neg h1'] at hs
            split at hs
            · split at hs <;> cases hs
            · split at hs
              · split at hs <;> cases hs
              · split at hs <;> cases hs

end Go.Proofs.YtkfbhegniobecaaDoor

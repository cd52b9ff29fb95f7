/- Texts Ja Xa Xb in one: each says what it proves. -/
import Derived.Test.YtlaifodlnolndaaGreatDoorMc
import Derived.Test.YtlaifodlnolndaaGreatDoorMi
import Derived.Test.YtlaifodlnolndaaGreatDoorMl
import Derived.Deep.RegionHeld3
/- The document's Lex: what it returns is what the Lean function scan computes. -/
namespace Go.Proofs.YtlaifodlnolndaaGreatDoor
open Go.RowKit

set_option maxHeartbeats 400000 in
theorem letter_any (c : UInt8) (w : World) :
    Calls Tryz.prog 36 #[.int .u8 (c.toNat : Int)] w fun e w' => e = .returned (.bool (letterB c)) ∧ w = w' := by
  go_enter Tryz.func36, Tryz.ntmps36
  go_wp2
  all_goals
    go_ret
    exact ⟨ret_bool (by rw [Bool.eq_iff_iff]; simp [letterB]; omega), rfl⟩

set_option maxHeartbeats 400000 in
theorem figure_any (c : UInt8) (w : World) :
    Calls Tryz.prog 39 #[.int .u8 (c.toNat : Int)] w fun e w' => e = .returned (.bool (digitB c)) ∧ w = w' := by
  go_enter Tryz.func39, Tryz.ntmps39
  go_wp2
  all_goals
    go_ret
    exact ⟨ret_bool (by rw [Bool.eq_iff_iff]; simp [digitB]; omega), rfl⟩

set_option maxHeartbeats 400000 in
theorem space_any (c : UInt8) (w : World) :
    Calls Tryz.prog 35 #[.int .u8 (c.toNat : Int)] w fun e w' => e = .returned (.bool (spaceB c)) ∧ w = w' := by
  go_enter Tryz.func35, Tryz.ntmps35
  go_wp2
  all_goals
    go_ret
    exact ⟨ret_bool (by rw [Bool.eq_iff_iff]; simp [spaceB]; omega), rfl⟩

set_option maxHeartbeats 400000 in
theorem part_any (c : UInt8) (w : World) :
    Calls Tryz.prog 37 #[.int .u8 (c.toNat : Int)] w fun e w' => e = .returned (.bool (partB c)) ∧ w = w' := by
  unfold partB
  generalize hl : letterB c = lb
  have Hl := Lib.hid hl; clear hl
  generalize hf : digitB c = fb
  have Hf := Lib.hid hf; clear hf
  go_enter Tryz.func37, Tryz.ntmps37
  go_wp2_with (first | (go_at_call 36; refine (letter_any _ _).mono ?_; rintro e w' ⟨rfl, rfl⟩; rw [Hl.out]) | (go_at_call 39; refine (figure_any _ _).mono ?_; rintro e w' ⟨rfl, rfl⟩; rw [Hf.out]))
  all_goals
    go_ret
    refine ⟨ret_bool ?_, rfl⟩
    first
    | (simp_all; done)
    | (rw [Bool.eq_iff_iff]; simp_all; omega)

set_option maxHeartbeats 1000000 in
theorem sign_any (c : UInt8) (w : World) :
    Calls Tryz.prog 41 #[.int .u8 (c.toNat : Int)] w fun e w' => e = .returned (.bool (signB c)) ∧ w = w' := by
  go_enter Tryz.func41, Tryz.ntmps41
  go_wp2
  go_loop [4] (fun i => ∃ k : Nat, k ≤ 16 ∧ i = .int .i64 k ∧ (signs.take k).contains c = false) (fun i => 16 - (intOf i).toNat)
  case atStart => exact ⟨0, by omega, rfl, rfl⟩
  case round =>
    obtain ⟨k, hk, rfl, hn⟩ := hrel
    have Hn := Lib.hid hn; clear hn
    by_cases hlt : k < 16
    · go_wp2
      · go_ret
        exact ⟨ret_bool (sign_hit hlt ‹_›).symm, rfl⟩
      · exact ⟨⟨k + 1, by omega, by go_num, sign_next hlt Hn.out ‹_›⟩, by simp [intOf]; omega⟩
    · go_wp2
      go_ret
      have hk16 : k = 16 := by omega
      exact ⟨ret_bool (by have := Hn.out; rw [hk16] at this; exact this.symm), rfl⟩

set_option maxHeartbeats 1000000 in
theorem refname_any (s : ByteArray) (w : World) (hs : s.size ≤ maxLen) :
    Calls Tryz.prog 38 #[.string s] w fun e w' => e = .returned (.bool (nameB s.data.toList)) ∧ w = w' := by
  unfold maxLen at hs
  generalize hN : nameB s.data.toList = N
  have HN := Lib.hid hN; clear hN
  by_cases h0 : 0 < s.size
  · by_cases h32 : s.size ≤ 32
    · generalize hl : letterB s[0] = lb
      have Hl := Lib.hid hl; clear hl
      cases lb
      · go_enter Tryz.func38, Tryz.ntmps38
        go_wp2_with (first | (go_at_call 36; refine (letter_any _ _).mono ?_; rintro e w' ⟨rfl, rfl⟩; rw [Hl.out]))
        go_ret
        exact ⟨ret_bool (by rw [← HN.out, nameB_first h0 Hl.out]), rfl⟩
      · go_enter Tryz.func38, Tryz.ntmps38
        go_wp2_with (first | (go_at_call 36; refine (letter_any _ _).mono ?_; rintro e w' ⟨rfl, rfl⟩; rw [Hl.out]))
        go_loop [3] (fun i => ∃ k : Nat, k ≤ s.size ∧ i = .int .i64 k ∧ (s.data.toList.take k).all partB = true) (fun i => s.size - (intOf i).toNat)
        case atStart => exact ⟨0, by omega, rfl, rfl⟩
        case round =>
          obtain ⟨k, hk, rfl, hn⟩ := hrel
          have Hn := Lib.hid hn; clear hn
          by_cases hlt : k < s.size
          · generalize hp : partB s[k] = pb
            have Hp := Lib.hid hp; clear hp
            cases pb
            · go_wp2_with (first | (go_at_call 37; refine (part_any _ _).mono ?_; rintro e w' ⟨rfl, rfl⟩; rw [Hp.out]))
              go_ret
              exact ⟨ret_bool (by rw [← HN.out, nameB_part hlt Hp.out]), rfl⟩
            · go_wp2_with (first | (go_at_call 37; refine (part_any _ _).mono ?_; rintro e w' ⟨rfl, rfl⟩; rw [Hp.out]))
              exact ⟨⟨k + 1, by omega, by go_num, all_next hlt Hn.out Hp.out⟩, by simp [intOf]; omega⟩
          · go_wp2
            go_ret
            obtain rfl : k = s.size := by omega
            exact ⟨ret_bool (by rw [← HN.out, nameB_yes h0 h32 Hl.out Hn.out]), rfl⟩
    · go_enter Tryz.func38, Tryz.ntmps38
      go_wp2_with fail
      go_ret
      exact ⟨ret_bool (by rw [← HN.out, nameB_long h0 h32]), rfl⟩
  · go_enter Tryz.func38, Tryz.ntmps38
    go_wp2_with fail
    go_ret
    exact ⟨ret_bool (by rw [← HN.out, nameB_empty h0]), rfl⟩

set_option maxHeartbeats 1000000 in
theorem number_any (s : ByteArray) (w : World) (hs : s.size ≤ maxLen) (h0 : 0 < s.size) (hd : ∀ k (h : k < s.size), digitB s[k] = true) :
    Calls Tryz.prog 40 #[.string s] w fun e w' => e = .returned (.tuple #[.int .i64 (refNumber s.data.toList).1, .bool (refNumber s.data.toList).2]) ∧ ∃ q, w' = w.drewN q := by
  unfold maxLen at hs
  have Hd := Lib.hid hd; clear hd
  generalize hN : refNumber s.data.toList = N
  have HN := Lib.hid hN; clear hN
  go_enter Tryz.func40, Tryz.ntmps40
  go_wp2
  go_loop [4, 5] (fun n i => ∃ k m : Nat, k ≤ s.size ∧ i = .int .i64 k ∧ n = .int .i64 m ∧ m ≤ 1099511627776 ∧ Hid (numF 0 s.data.toList = numF m (s.data.toList.drop k))) (fun _ i => s.size - (intOf i).toNat)
  case atStart => exact ⟨0, 0, by omega, rfl, rfl, by omega, rfl⟩
  case round =>
    obtain ⟨k, m, hk, rfl, rfl, hm, Hn⟩ := hrel
    by_cases hlt : k < s.size
    · obtain ⟨d0, d1⟩ := digit_le (Hd.out k hlt)
      by_cases hb : 10 * m + (s[k].toNat - 48) > 1099511627776
      · go_wp2
        go_ret2
        refine ⟨?_, 0, rfl⟩
        have e := HN.out.symm.trans (ref_none (Hn.out.trans (numF_big hlt hb)))
        rw [e]; rfl
      · go_wp2
        exact ⟨⟨k + 1, 10 * m + (s[k].toNat - 48), by omega, by go_num, congrArg (Value.int .i64) (by omega), by omega, Hn.out.trans (numF_next hlt hb)⟩, by simp [intOf]; omega⟩
    · have hkk : k = s.size := by omega
      have hfin : numF 0 s.data.toList = some m := by rw [Hn.out, List.drop_of_length_le (by simp; omega)]; rfl
      have Hfin := Lib.hid (HN.out.symm.trans (ref_some hfin)); clear hfin hkk
      by_cases h1 : s.size = 1
      · have hb1 : ((s.size : Int) == 1) = true := by simp; omega
        have Hb := Lib.hid h1
        clear h1
        go_wp2
        go_quiet (fail)
        go_wp2
        go_ret2
        refine ⟨?_, _, rfl⟩
        rw [Hfin.out]
        exact ret_ib rfl (by rw [length_toList, decide_eq_true (Hb.out)]; simp)
      · have hb1 : ((s.size : Int) == 1) = false := by simp; omega
        go_wp2
        go_quiet (fail)
        go_wp2
        go_ret2
        refine ⟨?_, _, rfl⟩
        rw [Hfin.out]
        exact ret_ib rfl (by rw [length_toList, ← head_ne s h0, decide_eq_false h1]; simp)

theorem letter_is (c : UInt8) (b : Bool) (h : letterB c = b) (w : World) : Calls Tryz.prog 36 #[.int .u8 (c.toNat : Int)] w fun e w' => e = .returned (.bool b) ∧ w = w' := by rw [← h]; exact letter_any c w

theorem part_is (c : UInt8) (b : Bool) (h : partB c = b) (w : World) : Calls Tryz.prog 37 #[.int .u8 (c.toNat : Int)] w fun e w' => e = .returned (.bool b) ∧ w = w' := by rw [← h]; exact part_any c w

theorem figure_is (c : UInt8) (b : Bool) (h : digitB c = b) (w : World) : Calls Tryz.prog 39 #[.int .u8 (c.toNat : Int)] w fun e w' => e = .returned (.bool b) ∧ w = w' := by rw [← h]; exact figure_any c w

theorem space_is (c : UInt8) (b : Bool) (h : spaceB c = b) (w : World) : Calls Tryz.prog 35 #[.int .u8 (c.toNat : Int)] w fun e w' => e = .returned (.bool b) ∧ w = w' := by rw [← h]; exact space_any c w

theorem sign_is (c : UInt8) (b : Bool) (h : signB c = b) (w : World) : Calls Tryz.prog 41 #[.int .u8 (c.toNat : Int)] w fun e w' => e = .returned (.bool b) ∧ w = w' := by rw [← h]; exact sign_any c w

theorem refname_is (s : ByteArray) (N : Bool) (h : nameB s.data.toList = N) (w : World) (hs : s.size ≤ maxLen) :
    Calls Tryz.prog 38 #[.string s] w fun e w' => e = .returned (.bool N) ∧ w = w' := by rw [← h]; exact refname_any s w hs

theorem number_ex (s : ByteArray) (w : World) (hs : s.size ≤ maxLen) (h0 : 0 < s.size) (hd : ∀ k (h : k < s.size), digitB s[k] = true) :
    Calls Tryz.prog 40 #[.string s] w fun e w' => ∃ (n : Int) (b : Bool), e = .returned (.tuple #[.int .i64 n, .bool b]) ∧ Hid (refNumber s.data.toList = (n, b)) ∧ ∃ q, w' = w.drewN q :=
  (number_any s w hs h0 hd).mono fun _ _ h => ⟨_, _, h.1, rfl, h.2⟩

set_option maxRecDepth 100000 in
set_option maxHeartbeats 8000000 in
theorem reflex_any (s : ByteArray) (w : World) (hs : s.size ≤ 65536) :
    Calls Tryz.prog 17 #[.string s] w (LexEnd w (scan s.data.toList 0)) := by
  have hst : ScanAt s (scan s.data.toList 0) 0 [] := ⟨by rw [List.drop_zero, preT_nil], by simp⟩
  generalize scan s.data.toList 0 = r at hst ⊢
  have hd : decide (65536 < (s.size : Int)) = false := by simp; omega
  go_enter Tryz.func17, Tryz.ntmps17
  go_wp2
  go_loopw [5, 6] (fun v iv wr => ∃ (i : Nat) (acc : List Tok), iv = .int .i64 i ∧ i ≤ s.size ∧ acc.length ≤ i ∧ OwnToks w.heap.size wr v acc ∧ ScanAt s r i acc ∧ Below w.heap.size w wr) (fun _ iv _ => s.size - (intOf iv).toNat)
  case atStart =>
    refine ⟨0, [], rfl, Nat.zero_le _, Nat.le_refl _, ?_, hst, (Below.refl _ _).alloc (Nat.le_refl _) _⟩
    exact World.ownsRow_made w #[] 0 (Nat.le_refl _) (by unfold maxLen; omega) rfl
  case round =>
    clear hst
    obtain ⟨i, acc, rfl, hi, hacc, hown, hsc, hB⟩ := hrel
    have hz := hB.size
    have hacc' : acc.length ≤ 1000000000000 := by omega
    by_cases hlt : i < s.size
    · by_cases hsp : spaceB s[i] = true
      · have hsc' := hsc.space hlt hsp
        clear hsc
        have Hsp := Lib.hid hsp; clear hsp
        go_wp2_with (first | (go_at_call 35; refine (space_is _ _ Hsp.out _).mono ?_; rintro e w' ⟨rfl, rfl⟩))
        exact ⟨⟨i + 1, acc, by go_num, by omega, by omega, hown, hsc', hB⟩, by simp [intOf]; omega⟩
      · rw [Bool.not_eq_true] at hsp
        have Hsp := Lib.hid hsp
        by_cases h47 : s[i].toNat = 47
        · have b1 : ((s[i].toNat : Int) == 47) = true := by simp [h47]
          have hl : letterB s[i] = false := nl (by omega)
          have hdg : digitB s[i] = false := nd (by omega)
          have hsg : signB s[i] = true := by
            have : s[i] = 47 := UInt8.toNat_inj.1 h47
            rw [this]; rfl
          by_cases hnx : i + 1 < s.size
          · by_cases h47' : s[i + 1].toNat = 47
            · -- a comment
              have b2 : ((s[i + 1].toNat : Int) == 47) = true := by simp [h47']
              have hno : noteAt s i := ⟨hnx, UInt8.toNat_inj.1 h47, UInt8.toNat_inj.1 h47'⟩
              have hsc' := fun j => hsc.note (j := j) hlt hsp hno
              have Hsc := Lib.hid hsc'
              have hp := span_pos (p := notLf) hlt (by simp [notLf, h47])
              have hle := span_le notLf s i hi
              have HA := Lib.hid (fun j h1 h2 => span_at (p := notLf) (s := s) (i := i) (j := j) h1 h2)
              have HO := Lib.hid (fun j h1 h2 => span_out (p := notLf) (s := s) (i := i) (j := j) h1 h2)
              clear hsc hsc' hsp h47 h47' hno hl hdg hsg
              generalize hT : spanL notLf s i = T at hp hle HA HO Hsc
              clear hT
              go_wp2_with (first | (go_at_call 35; refine (space_is _ _ Hsp.out _).mono ?_; rintro e w' ⟨rfl, rfl⟩))
              go_loop [6] (fun jv => ∃ j : Nat, jv = .int .i64 j ∧ i ≤ j ∧ j ≤ i + T) (fun jv => s.size - (intOf jv).toNat)
              case atStart => exact ⟨i, rfl, Nat.le_refl _, by omega⟩
              case round =>
                obtain ⟨j, rfl, hj1, hj2⟩ := hrel
                by_cases hjl : j < i + T
                · obtain ⟨hjs, hj10⟩ := HA.out j hj1 hjl
                  have b3 : ((s[j].toNat : Int) != 10) = true := by simp [notLf] at hj10; rw [bne_iff_ne]; omega
                  clear hj10
                  go_wp2
                  exact ⟨⟨j + 1, by go_num, by omega, by omega⟩, by simp [intOf]; omega⟩
                · have hje : j = i + T := by omega
                  have Hsc' := Lib.hid (Hsc.out j hje)
                  by_cases hjs : j < s.size
                  · have hj10 := HO.out j hje hjs
                    have b3 : ((s[j].toNat : Int) != 10) = false := by simp [notLf] at hj10; simp [hj10]
                    clear hj10 hje
                    go_wp2
                    exact ⟨⟨j, acc, rfl, by omega, by omega, hown, Hsc'.out, hB⟩, by simp [intOf]; omega⟩
                  · clear hje
                    go_wp2
                    exact ⟨⟨j, acc, rfl, by omega, by omega, hown, Hsc'.out, hB⟩, by simp [intOf]; omega⟩
            · -- a slash alone
              have b2 : ((s[i + 1].toNat : Int) == 47) = false := by rw [beq_eq_false_iff_ne]; omega
              have hno : ¬ noteAt s i := by
                rintro ⟨h, e1, e2⟩
                exact h47' (by rw [e2]; rfl)
              have hsc' := hsc.sign hlt hsp hno hl hdg hsg
              clear hno
              have Hsc := Lib.hid hsc'
              have Hl := Lib.hid hl
              have Hdg := Lib.hid hdg
              have Hsg := Lib.hid hsg
              clear hsc hsc' hsp h47 h47' hl hdg hsg
              have hsl := slice_is s i (i + 1) (i + 1) (by omega) (by omega) (by omega)
              go_wp2_with (first | (go_at_call 35; refine (space_is _ _ Hsp.out _).mono ?_; rintro e w' ⟨rfl, rfl⟩) | (go_at_call 36; refine (letter_is _ _ Hl.out _).mono ?_; rintro e w' ⟨rfl, rfl⟩) | (go_at_call 39; refine (figure_is _ _ Hdg.out _).mono ?_; rintro e w' ⟨rfl, rfl⟩) | (go_at_call 41; refine (sign_is _ _ Hsg.out _).mono ?_; rintro e w' ⟨rfl, rfl⟩) | (at_builtin; refine append_new w.heap.size rfl _ _ rfl _ acc rfl hown ⟨3, s.extract i (i + 1), 0, i⟩ rfl hacc' hz ?_; intro v' w1 hown' hgrow))
              exact ⟨⟨i + 1, _, by go_num, by omega, by simp; omega, hown', Hsc.out, grown_below hB hown hz hgrow⟩, by simp [intOf]; omega⟩
          · have hno : ¬ noteAt s i := by
              rintro ⟨h, e1, e2⟩
              exact hnx h
            have hsc' := hsc.sign hlt hsp hno hl hdg hsg
            clear hno
            have Hsc := Lib.hid hsc'
            have Hl := Lib.hid hl
            have Hdg := Lib.hid hdg
            have Hsg := Lib.hid hsg
            clear hsc hsc' hsp h47 hl hdg hsg
            have hsl := slice_is s i (i + 1) (i + 1) (by omega) (by omega) (by omega)
            go_wp2_with (first | (go_at_call 35; refine (space_is _ _ Hsp.out _).mono ?_; rintro e w' ⟨rfl, rfl⟩) | (go_at_call 36; refine (letter_is _ _ Hl.out _).mono ?_; rintro e w' ⟨rfl, rfl⟩) | (go_at_call 39; refine (figure_is _ _ Hdg.out _).mono ?_; rintro e w' ⟨rfl, rfl⟩) | (go_at_call 41; refine (sign_is _ _ Hsg.out _).mono ?_; rintro e w' ⟨rfl, rfl⟩) | (at_builtin; refine append_new w.heap.size rfl _ _ rfl _ acc rfl hown ⟨3, s.extract i (i + 1), 0, i⟩ rfl hacc' hz ?_; intro v' w1 hown' hgrow))
            exact ⟨⟨i + 1, _, by go_num, by omega, by simp; omega, hown', Hsc.out, grown_below hB hown hz hgrow⟩, by simp [intOf]; omega⟩
        · have b1 : ((s[i].toNat : Int) == 47) = false := by rw [beq_eq_false_iff_ne]; omega
          have hno : ¬ noteAt s i := by
            rintro ⟨h, e1, e2⟩
            exact h47 (by rw [e1]; rfl)
          by_cases hl : letterB s[i] = true
          · have hle := span_le partB s i hi
            have hp := span_pos (p := partB) hlt (by simp [partB, hl])
            have HA := Lib.hid (fun j h1 h2 => span_at (p := partB) (s := s) (i := i) (j := j) h1 h2)
            have HO := Lib.hid (fun j h1 h2 => span_out (p := partB) (s := s) (i := i) (j := j) h1 h2)
            have HY := Lib.hid (fun j h1 h2 => hsc.name (j := j) hlt hs hsp hno hl h1 h2)
            have HX := Lib.hid (fun j h1 h2 => hsc.noname (j := j) hlt hsp hno hl h1 h2)
            have Hl := Lib.hid hl
            clear hsc hsp h47 hl hno
            generalize hT : spanL partB s i = T at hp hle HA HO HY HX
            clear hT
            go_wp2_with (first | (go_at_call 35; refine (space_is _ _ Hsp.out _).mono ?_; rintro e w' ⟨rfl, rfl⟩) | (go_at_call 36; refine (letter_is _ _ Hl.out _).mono ?_; rintro e w' ⟨rfl, rfl⟩))
            go_loop [6] (fun jv => ∃ j : Nat, jv = .int .i64 j ∧ i ≤ j ∧ j ≤ i + T) (fun jv => s.size - (intOf jv).toNat)
            case atStart => exact ⟨i, rfl, Nat.le_refl _, by omega⟩
            case round =>
              obtain ⟨j, rfl, hj1, hj2⟩ := hrel
              by_cases hjl : j < i + T
              · obtain ⟨hjs, hjp⟩ := HA.out j hj1 hjl
                have Hjp := Lib.hid hjp; clear hjp
                go_wp2_with (first | (go_at_call 37; refine (part_is _ _ Hjp.out _).mono ?_; rintro e w' ⟨rfl, rfl⟩))
                exact ⟨⟨j + 1, by go_num, by omega, by omega⟩, by simp [intOf]; omega⟩
              · have hje : j = i + T := by omega
                have HO' := Lib.hid (HO.out j hje)
                have HY' := Lib.hid (HY.out j hje)
                have HX' := Lib.hid (HX.out j hje)
                have hsl := slice_is s i j j rfl hj1 (by omega)
                have hxs : (s.extract i j).size ≤ maxLen := by rw [extract_size hj1 (by omega)]; unfold maxLen; omega
                have Hxs := Lib.hid hxs
                have hij : i < j := by omega
                clear hje HO HY HX HA hxs
                by_cases hnm : nameB (s.extract i j).data.toList = true
                · have hsc' := HY'.out hnm
                  have Hsc := Lib.hid hsc'
                  have Hnm := Lib.hid hnm
                  clear hsc' hnm HY' HX'
                  by_cases hjs : j < s.size
                  · have Hjp := Lib.hid (HO'.out hjs)
                    clear HO'
                    go_wp2_with (first | (go_at_call 37; refine (part_is _ _ Hjp.out _).mono ?_; rintro e w' ⟨rfl, rfl⟩) | (go_at_call 38; refine (refname_is _ _ Hnm.out _ Hxs.out).mono ?_; rintro e w' ⟨rfl, rfl⟩) | (at_builtin; refine append_new w.heap.size rfl _ _ rfl _ acc rfl hown ⟨1, s.extract i j, 0, i⟩ rfl hacc' hz ?_; intro v' w1 hown' hgrow))
                    exact ⟨⟨j, _, rfl, by omega, by simp; omega, hown', Hsc.out, grown_below hB hown hz hgrow⟩, by simp [intOf]; omega⟩
                  · clear HO'
                    go_wp2_with (first | (go_at_call 38; refine (refname_is _ _ Hnm.out _ Hxs.out).mono ?_; rintro e w' ⟨rfl, rfl⟩) | (at_builtin; refine append_new w.heap.size rfl _ _ rfl _ acc rfl hown ⟨1, s.extract i j, 0, i⟩ rfl hacc' hz ?_; intro v' w1 hown' hgrow))
                    exact ⟨⟨j, _, rfl, by omega, by simp; omega, hown', Hsc.out, grown_below hB hown hz hgrow⟩, by simp [intOf]; omega⟩
                · rw [Bool.not_eq_true] at hnm
                  have Hr := Lib.hid (HX'.out hnm)
                  have Hnm := Lib.hid hnm
                  clear hnm HY' HX'
                  by_cases hjs : j < s.size
                  · have Hjp := Lib.hid (HO'.out hjs)
                    clear HO'
                    go_wp2_with (first | (go_at_call 37; refine (part_is _ _ Hjp.out _).mono ?_; rintro e w' ⟨rfl, rfl⟩) | (go_at_call 38; refine (refname_is _ _ Hnm.out _ Hxs.out).mono ?_; rintro e w' ⟨rfl, rfl⟩))
                    go_ret3
                    refine ⟨hB, ?_⟩
                    rw [Hr.out]
                    rfl
                  · clear HO'
                    go_wp2_with (first | (go_at_call 38; refine (refname_is _ _ Hnm.out _ Hxs.out).mono ?_; rintro e w' ⟨rfl, rfl⟩))
                    go_ret3
                    refine ⟨hB, ?_⟩
                    rw [Hr.out]
                    rfl
          · rw [Bool.not_eq_true] at hl
            by_cases hdg : digitB s[i] = true
            · have hle := span_le digitB s i hi
              have hp := span_pos (p := digitB) hlt hdg
              have HA := Lib.hid (fun j h1 h2 => span_at (p := digitB) (s := s) (i := i) (j := j) h1 h2)
              have HO := Lib.hid (fun j h1 h2 => span_out (p := digitB) (s := s) (i := i) (j := j) h1 h2)
              have HY := Lib.hid (fun j h1 n h2 => hsc.number (j := j) hlt hsp hno hl hdg h1 n h2)
              have HX := Lib.hid (fun j h1 n h2 => hsc.nonumber (j := j) hlt hsp hno hl hdg h1 n h2)
              have HD := Lib.hid (span_digits (s := s) hi)
              have Hl := Lib.hid hl
              have Hdg := Lib.hid hdg
              clear hsc hsp h47 hl hno hdg
              generalize hT : spanL digitB s i = T at hp hle HA HO HY HX HD
              clear hT
              go_wp2_with (first | (go_at_call 35; refine (space_is _ _ Hsp.out _).mono ?_; rintro e w' ⟨rfl, rfl⟩) | (go_at_call 36; refine (letter_is _ _ Hl.out _).mono ?_; rintro e w' ⟨rfl, rfl⟩) | (go_at_call 39; refine (figure_is _ _ Hdg.out _).mono ?_; rintro e w' ⟨rfl, rfl⟩))
              go_loop [6] (fun jv => ∃ j : Nat, jv = .int .i64 j ∧ i ≤ j ∧ j ≤ i + T) (fun jv => s.size - (intOf jv).toNat)
              case atStart => exact ⟨i, rfl, Nat.le_refl _, by omega⟩
              case round =>
                obtain ⟨j, rfl, hj1, hj2⟩ := hrel
                by_cases hjl : j < i + T
                · obtain ⟨hjs, hjp⟩ := HA.out j hj1 hjl
                  have Hjp := Lib.hid hjp; clear hjp
                  go_wp2_with (first | (go_at_call 39; refine (figure_is _ _ Hjp.out _).mono ?_; rintro e w' ⟨rfl, rfl⟩))
                  exact ⟨⟨j + 1, by go_num, by omega, by omega⟩, by simp [intOf]; omega⟩
                · have hje : j = i + T := by omega
                  have HO' := Lib.hid (HO.out j hje)
                  have HY' := Lib.hid (HY.out j hje)
                  have HX' := Lib.hid (HX.out j hje)
                  rw [← hje] at HD
                  have hsl := slice_is s i j j rfl hj1 (by omega)
                  have hij : i < j := by omega
                  have hxz := extract_size hj1 (show j ≤ s.size by omega)
                  have hxs : (s.extract i j).size ≤ maxLen := by rw [hxz]; unfold maxLen; omega
                  have hx0 : 0 < (s.extract i j).size := by rw [hxz]; omega
                  have Hcall := Lib.hid (fun wx => number_ex (s.extract i j) wx hxs hx0 HD.out)
                  clear hje HO HY HX HA hxs hx0 hxz HD
                  by_cases hjs : j < s.size
                  · have Hjp := Lib.hid (HO'.out hjs)
                    clear HO'
                    go_wp2_with (first | (go_at_call 39; refine (figure_is _ _ Hjp.out _).mono ?_; rintro e w' ⟨rfl, rfl⟩) | (go_at_call 40; refine (Hcall.out _).mono ?_; rintro e w2 ⟨n, b, rfl, Hn, hq⟩; have hown2 := own_quiet hown hq; have hB2 := below_quiet hB hq; have hz2 := hB2.size; clear hq) | (at_builtin; refine append_new w.heap.size rfl _ _ rfl _ acc rfl hown2 ⟨2, ⟨#[]⟩, n, i⟩ rfl hacc' hz2 ?_; intro v' w1 hown' hgrow))
                    · go_ret3
                      refine ⟨hB2, ?_⟩
                      have hb : b = false := by simpa using ‹(!b) = true›
                      rw [hb] at Hn
                      rw [HX'.out n Hn.out]
                      rfl
                    · have hb : b = true := by simpa using ‹(!b) = false›
                      rw [hb] at Hn
                      exact ⟨⟨j, _, rfl, by omega, by simp; omega, hown', HY'.out n Hn.out, grown_below hB2 hown2 hz2 hgrow⟩, by simp [intOf]; omega⟩
                  · clear HO'
                    go_wp2_with (first | (go_at_call 40; refine (Hcall.out _).mono ?_; rintro e w2 ⟨n, b, rfl, Hn, hq⟩; have hown2 := own_quiet hown hq; have hB2 := below_quiet hB hq; have hz2 := hB2.size; clear hq) | (at_builtin; refine append_new w.heap.size rfl _ _ rfl _ acc rfl hown2 ⟨2, ⟨#[]⟩, n, i⟩ rfl hacc' hz2 ?_; intro v' w1 hown' hgrow))
                    · go_ret3
                      refine ⟨hB2, ?_⟩
                      have hb : b = false := by simpa using ‹(!b) = true›
                      rw [hb] at Hn
                      rw [HX'.out n Hn.out]
                      rfl
                    · have hb : b = true := by simpa using ‹(!b) = false›
                      rw [hb] at Hn
                      exact ⟨⟨j, _, rfl, by omega, by simp; omega, hown', HY'.out n Hn.out, grown_below hB2 hown2 hz2 hgrow⟩, by simp [intOf]; omega⟩
            · rw [Bool.not_eq_true] at hdg
              by_cases hsg : signB s[i] = true
              · skip
                have hsc' := hsc.sign hlt hsp hno hl hdg hsg
                clear hno
                have Hsc := Lib.hid hsc'
                have Hl := Lib.hid hl
                have Hdg := Lib.hid hdg
                have Hsg := Lib.hid hsg
                clear hsc hsc' hsp h47 hl hdg hsg
                have hsl := slice_is s i (i + 1) (i + 1) (by omega) (by omega) (by omega)
                go_wp2_with (first | (go_at_call 35; refine (space_is _ _ Hsp.out _).mono ?_; rintro e w' ⟨rfl, rfl⟩) | (go_at_call 36; refine (letter_is _ _ Hl.out _).mono ?_; rintro e w' ⟨rfl, rfl⟩) | (go_at_call 39; refine (figure_is _ _ Hdg.out _).mono ?_; rintro e w' ⟨rfl, rfl⟩) | (go_at_call 41; refine (sign_is _ _ Hsg.out _).mono ?_; rintro e w' ⟨rfl, rfl⟩) | (at_builtin; refine append_new w.heap.size rfl _ _ rfl _ acc rfl hown ⟨3, s.extract i (i + 1), 0, i⟩ rfl hacc' hz ?_; intro v' w1 hown' hgrow))
                exact ⟨⟨i + 1, _, by go_num, by omega, by simp; omega, hown', Hsc.out, grown_below hB hown hz hgrow⟩, by simp [intOf]; omega⟩
              · rw [Bool.not_eq_true] at hsg
                have hr := hsc.wrong hlt hsp hno hl hdg hsg
                clear hno
                have Hr := Lib.hid hr
                have Hl := Lib.hid hl
                have Hdg := Lib.hid hdg
                have Hsg := Lib.hid hsg
                clear hsc hr hsp h47 hl hdg hsg
                go_wp2_with (first | (go_at_call 35; refine (space_is _ _ Hsp.out _).mono ?_; rintro e w' ⟨rfl, rfl⟩) | (go_at_call 36; refine (letter_is _ _ Hl.out _).mono ?_; rintro e w' ⟨rfl, rfl⟩) | (go_at_call 39; refine (figure_is _ _ Hdg.out _).mono ?_; rintro e w' ⟨rfl, rfl⟩) | (go_at_call 41; refine (sign_is _ _ Hsg.out _).mono ?_; rintro e w' ⟨rfl, rfl⟩))
                go_ret3
                refine ⟨hB, ?_⟩
                rw [Hr.out]
                rfl
    · have hd := hsc.done hlt
      have hall := hsc.2
      have Hall := Lib.hid hall
      clear hsc hall
      go_wp2
      go_ret3
      refine ⟨hB, ?_⟩
      rw [hd]
      exact ⟨_, rfl, hown.isToks (by omega) fun t ht => Nat.le_trans (Hall.out t ht) (by unfold maxLen; omega)⟩

end Go.Proofs.YtlaifodlnolndaaGreatDoor

/- The document's reader of gate programs: its small functions. -/
namespace Go.Proofs.YtlaifodlnolndaaGreatDoor
open Go.RowKit

def idxI (ws : List (List UInt8)) (s : List UInt8) : Int := match idxW ws s with
  | some k => (k : Int)
  | none => -1
theorem idx_hit {ws : List (List UInt8)} {s : List UInt8} {k : Nat} (hk : k < ws.length) (hn : ∀ j (_ : j < ws.length), j < k → ws[j] ≠ s) (he : ws[k] = s) : idxI ws s = (k : Int) := by
  unfold idxI idxW
  have h : ws.findIdx? (· == s) = some k := List.findIdx?_eq_some_iff_getElem.2 ⟨hk, by simp [he], fun j hj => by simp; exact hn j (by omega) hj⟩
  rw [h]
theorem idx_miss {ws : List (List UInt8)} {s : List UInt8} (hn : ∀ j (_ : j < ws.length), ws[j] ≠ s) : idxI ws s = -1 := by
  unfold idxI idxW
  have h : ws.findIdx? (· == s) = none := List.findIdx?_eq_none_iff.2 fun x hx => by
    obtain ⟨j, hj, rfl⟩ := List.getElem_of_mem hx
    simp; exact hn j hj
  rw [h]
theorem toks_form {w : World} {v : Value} {ts : List Tok} (ht : IsToks w v ts) : ∃ a cap, v = .slice a ts.length cap := by
  obtain ⟨_, _, ⟨rfl, a, c, rfl⟩ | ⟨b, o, c, rfl, _⟩⟩ := ht
  · exact ⟨a, c, rfl⟩
  · exact ⟨_, c, rfl⟩

set_option maxRecDepth 100000 in
set_option maxHeartbeats 2000000 in
theorem index_any (v : Value) (ws : List (List UInt8)) (tx : ByteArray) (w : World) (hw : WordsAt w v ws) (hws : ws.length ≤ 1000) :
    Calls Tryz.prog 58 #[v, .string tx] w fun e w' => e = .returned (.int .i64 (idxI ws tx.data.toList)) ∧ w' = w := by
  obtain ⟨g, rfl, hg, hwc⟩ := hw
  generalize hI : idxI ws tx.data.toList = I
  have HI := Lib.hid hI
  have Hc := Lib.hid hwc
  generalize hn : ws.length = n at hws ⊢
  have Hn := Lib.hid hn
  clear hI hwc hn
  go_enter Tryz.func58, Tryz.ntmps58
  go_wp2
  go_loop [5] (fun iv => ∃ k : Nat, k ≤ n ∧ iv = .int .i64 k ∧ Hid (∀ j (_ : j < ws.length), j < k → ws[j] ≠ tx.data.toList)) (fun iv => n - (intOf iv).toNat)
  case atStart => exact ⟨0, by omega, rfl, Lib.hid fun j _ h => by omega⟩
  case round =>
    obtain ⟨k, hk, rfl, HA⟩ := hrel
    by_cases hlt : k < n
    · have hkl : k < ws.length := by have := Hn.out; omega
      have c : w.cell? ⟨g, k, none⟩ = some (strV ws[k]) := Hc.out k hkl
      unfold strV at c
      have HH := Lib.hid (fun he => idx_hit (s := tx.data.toList) hkl HA.out he)
      have HM := Lib.hid (fun (he : ws[k] ≠ tx.data.toList) j (hj : j < ws.length) (hjk : j < k + 1) => if e : j = k then (by subst e; exact he) else HA.out j hj (by omega))
      generalize ws[k] = wd at c HH HM
      go_wp2
      · go_ret
        exact ⟨ret_int (by rw [← HI.out, HH.out (by rw [← Lib.toList_data]; simp_all)]), rfl⟩
      · exact ⟨⟨k + 1, by omega, by go_num, Lib.hid (HM.out (by rw [← Lib.toList_data]; simp_all))⟩, by simp [intOf]; omega⟩
    · go_wp2
      go_ret
      exact ⟨ret_int (by rw [← HI.out, idx_miss fun j hj => HA.out j hj (by have := Hn.out; omega)]), rfl⟩

def wordB (ts : List Tok) (k : Nat) (l : List UInt8) : Bool := match ts[k]? with
  | some t => word l t
  | none => false
def numB (ts : List Tok) (k : Nat) : Bool := match ts[k]? with
  | some t => t.kind == 2
  | none => false
theorem wordB_lt {ts : List Tok} {k : Nat} {l : List UInt8} (h : wordB ts k l = true) : k < ts.length := by
  rcases Nat.lt_or_ge k ts.length with hk | hk
  · exact hk
  · unfold wordB at h; rw [List.getElem?_eq_none hk] at h; cases h
theorem numB_lt {ts : List Tok} {k : Nat} (h : numB ts k = true) : k < ts.length := by
  rcases Nat.lt_or_ge k ts.length with hk | hk
  · exact hk
  · unfold numB at h; rw [List.getElem?_eq_none hk] at h; cases h

set_option maxRecDepth 100000 in
set_option maxHeartbeats 2000000 in
theorem word_any (v : Value) (ts : List Tok) (k : Nat) (l : ByteArray) (w : World) (ht : IsToks w v ts) :
    Calls Tryz.prog 42 #[v, .int .i64 k, .string l] w fun e w' => e = .returned (.bool (wordB ts k l.data.toList)) ∧ w' = w := by
  obtain ⟨a, cap, rfl⟩ := toks_form ht
  have hlm := ht.1
  by_cases hk : k < ts.length
  · obtain ⟨_, _, ⟨rfl, _⟩ | ⟨b, o, c, he, hb, hr⟩⟩ := ht
    · simp at hk
    obtain ⟨rfl, rfl⟩ : a = some ⟨b, o, none⟩ ∧ cap = c := by simpa using he
    obtain ⟨c0, c1, _⟩ := hr k hk
    have hlt2 : decide (k < ts.length) = true := by simp; omega
    have hI : wordB ts k l.data.toList = (ts[k].kind == 1 && ts[k].text.data.toList == l.data.toList) := by unfold wordB; rw [List.getElem?_eq_getElem hk]; rfl
    rw [hI]
    generalize ts[k] = t at *
    obtain ⟨tk, tx, tn, ta⟩ := t
    dsimp only at c0 c1 ⊢
    clear hr hI he
    generalize ts.length = n at *
    by_cases hkd : tk = 1
    · subst hkd
      go_enter Tryz.func42, Tryz.ntmps42
      go_wp2
      go_ret
      exact ⟨ret_bool (by rw [Bool.eq_iff_iff]; simp [Lib.toList_data]), rfl⟩
    · have hkd2 : (tk == 1) = false := by simpa using hkd
      rw [hkd2, Bool.false_and]
      go_enter Tryz.func42, Tryz.ntmps42
      go_wp2
      go_ret
      exact ⟨ret_bool (by simp), rfl⟩
  · have hlt2 : decide (k < ts.length) = false := by simp; omega
    have hI : wordB ts k l.data.toList = false := by unfold wordB; rw [List.getElem?_eq_none (by omega)]
    rw [hI]
    clear ht
    go_enter Tryz.func42, Tryz.ntmps42
    go_wp2
    go_ret
    exact ⟨ret_bool (by simp), rfl⟩
set_option maxRecDepth 100000 in
set_option maxHeartbeats 2000000 in
theorem refnum_any (v : Value) (ts : List Tok) (k : Nat) (w : World) (ht : IsToks w v ts) :
    Calls Tryz.prog 44 #[v, .int .i64 k] w fun e w' => e = .returned (.bool (numB ts k)) ∧ w' = w := by
  obtain ⟨a, cap, rfl⟩ := toks_form ht
  have hlm := ht.1
  by_cases hk : k < ts.length
  · obtain ⟨_, _, ⟨rfl, _⟩ | ⟨b, o, c, he, hb, hr⟩⟩ := ht
    · simp at hk
    obtain ⟨rfl, rfl⟩ : a = some ⟨b, o, none⟩ ∧ cap = c := by simpa using he
    obtain ⟨c0, c1, _⟩ := hr k hk
    have hlt2 : decide (k < ts.length) = true := by simp; omega
    have hI : numB ts k = (ts[k].kind == 2) := by unfold numB; rw [List.getElem?_eq_getElem hk]
    rw [hI]
    generalize ts[k] = t at *
    obtain ⟨tk, tx, tn, ta⟩ := t
    dsimp only at c0 c1 ⊢
    clear hr hI he
    generalize ts.length = n at *
    go_enter Tryz.func44, Tryz.ntmps44
    go_wp2
    go_ret
    exact ⟨rfl, rfl⟩
  · have hlt2 : decide (k < ts.length) = false := by simp; omega
    have hI : numB ts k = false := by unfold numB; rw [List.getElem?_eq_none (by omega)]
    rw [hI]
    clear ht
    go_enter Tryz.func44, Tryz.ntmps44
    go_wp2
    go_ret
    exact ⟨rfl, rfl⟩

end Go.Proofs.YtlaifodlnolndaaGreatDoor

/- The document's reader of gate programs: a condition. -/
namespace Go.Proofs.YtlaifodlnolndaaGreatDoor
open Go.RowKit

section
variable {ts : List Tok} {k : Nat}
theorem cond_no1 (h : tokAt varP ts k = none) : pCond (ts.drop k) = .error (ts.drop k) := by
  rw [pCond, need_no h]; rfl
theorem cond_no2 {x : Int} (h : tokAt varP ts k = some x) (h2 : tokAt opP ts (k + 1) = none) : pCond (ts.drop k) = .error (ts.drop (k + 1)) := by
  rw [pCond, need_yes h]
  simp only [andThen, need_no h2]
theorem cond_no3 {x y : Int} (h : tokAt varP ts k = some x) (h2 : tokAt opP ts (k + 1) = some y) (h3 : tokAt numP ts (k + 2) = none) : pCond (ts.drop k) = .error (ts.drop (k + 2)) := by
  rw [pCond, need_yes h]
  simp only [andThen, need_yes h2, need_no h3]
theorem cond_yes {x y z : Int} (h : tokAt varP ts k = some x) (h2 : tokAt opP ts (k + 1) = some y) (h3 : tokAt numP ts (k + 2) = some z) : pCond (ts.drop k) = .ok (⟨x, y, z⟩, ts.drop (k + 3)) := by
  rw [pCond, need_yes h]
  simp only [andThen, need_yes h2, need_yes h3]
theorem num_tok (h : k < ts.length) : tokAt numP ts k = if ts[k].kind == 2 then some ts[k].n else none := by
  unfold tokAt numP; rw [List.getElem?_eq_getElem h]; rfl
theorem numB_none (h : tokAt numP ts k = none) : numB ts k = false := by
  unfold numB
  rcases Nat.lt_or_ge k ts.length with hk | hk
  · rw [num_tok hk] at h
    rw [List.getElem?_eq_getElem hk]
    show (ts[k].kind == 2) = false
    cases e : (ts[k].kind == 2) with
    | false => rfl
    | true => rw [e, if_pos rfl] at h; cases h
  · rw [List.getElem?_eq_none hk]
theorem numB_some {z : Int} (h : tokAt numP ts k = some z) : numB ts k = true ∧ ∃ hk : k < ts.length, ts[k].n = z := by
  obtain ⟨hk, h⟩ := tokAt_lt h
  unfold numP at h; unfold numB
  rw [List.getElem?_eq_getElem hk]
  cases e : (ts[k].kind == 2) with
  | false => simp [e] at h
  | true => simp [e] at h; exact ⟨e, hk, h⟩
theorem var_idx (hk : k < ts.length) (hkd : ts[k].kind = 1) : (tokAt varP ts k = none ∧ idxI varsW ts[k].text.data.toList = -1) ∨ ∃ x : Nat, tokAt varP ts k = some (x : Int) ∧ idxI varsW ts[k].text.data.toList = (x : Int) := by
  unfold tokAt varP idxI
  rw [List.getElem?_eq_getElem hk]
  simp only [Option.bind_some, hkd, beq_self_eq_true, if_true]
  cases idxW varsW ts[k].text.data.toList with
  | none => exact .inl ⟨rfl, rfl⟩
  | some x => exact .inr ⟨x, rfl, rfl⟩
theorem op_idx (hk : k < ts.length) (hkd : ts[k].kind = 1) : (tokAt opP ts k = none ∧ (idxI refOpsW ts[k].text.data.toList = -1 ∨ idxI refOpsW ts[k].text.data.toList = 0)) ∨ ∃ x : Nat, tokAt opP ts k = some ((x : Int) + 1) ∧ idxI refOpsW ts[k].text.data.toList = (x : Int) + 1 := by
  unfold tokAt opP idxI idxW refOpsW
  rw [List.getElem?_eq_getElem hk]
  simp only [Option.bind_some, hkd, beq_self_eq_true, if_true, List.findIdx?_cons]
  by_cases he : ts[k].text.data.toList = []
  · rw [he]
    left
    exact ⟨by rfl, .inr (by rfl)⟩
  · have h0 : (([] : List UInt8) == ts[k].text.data.toList) = false := by
      cases h : ts[k].text.data.toList with
      | nil => exact absurd h he
      | cons a b => rfl
    rw [h0]
    cases opsW.findIdx? (· == ts[k].text.data.toList) with
    | none => exact .inl ⟨rfl, .inl rfl⟩
    | some x => exact .inr ⟨x, rfl, by simp⟩
theorem not_name {P : Tok → Option Int} (hP : ∀ t, t.kind ≠ 1 → P t = none) (h : k < ts.length → ts[k]?.map (·.kind) ≠ some 1) : tokAt P ts k = none := by
  unfold tokAt
  rcases Nat.lt_or_ge k ts.length with hk | hk
  · rw [List.getElem?_eq_getElem hk]
    exact hP _ (fun e => h hk (by rw [List.getElem?_eq_getElem hk]; simp [e]))
  · rw [List.getElem?_eq_none hk]; rfl
theorem varP_kind (t : Tok) (h : t.kind ≠ 1) : varP t = none := by unfold varP; simp [h]
theorem opP_kind (t : Tok) (h : t.kind ≠ 1) : opP t = none := by unfold opP; simp [h]
end

structure CSt (w : World) (a b c : Int) (wr : World) : Prop where
  below : Below w.heap.size w wr
  res : wr.heap[w.heap.size]? = some (.cells #[.int .i64 0, .int .i64 0, .int .i64 0] 32 (0, 0))
  cnd : wr.heap[w.heap.size + 1]? = some (.cells #[.int .i64 a, .int .i64 b, .int .i64 c] 32 (0, 0))
section
variable {w wr w2 : World} {a b c : Int}
theorem CSt.start (w : World) : CSt w 0 0 0 ((w.alloc (.cells #[.int .i64 0, .int .i64 0, .int .i64 0] 32)).alloc (.cells #[.int .i64 0, .int .i64 0, .int .i64 0] 32)) :=
  ⟨((Below.refl _ _).alloc (Nat.le_refl _) _).alloc (by simp) _, heap_old _ _ _ _ (heap_new _ _ _ rfl), heap_new _ _ _ (by simp)⟩
theorem CSt.next (h : CSt w a b c wr) (hb : Below wr.heap.size wr w2) : CSt w a b c w2 :=
  ⟨h.below.trans (hb.mono h.below.size), heap_at h.res hb (Array.getElem?_eq_some_iff.1 h.res).1, heap_at h.cnd hb (Array.getElem?_eq_some_iff.1 h.cnd).1⟩
theorem CSt.cells (h : CSt w a b c wr) : wr.cell? ⟨w.heap.size + 1, 0, none⟩ = some (.int .i64 a) ∧ wr.cell? ⟨w.heap.size + 1, 1, none⟩ = some (.int .i64 b) ∧ wr.cell? ⟨w.heap.size + 1, 2, none⟩ = some (.int .i64 c) := by
  have := h.cnd
  refine ⟨?_, ?_, ?_⟩ <;> simp [World.cell?, this]
theorem CSt.thaw (h : CSt w a b c wr) : wr.frozen? ⟨w.heap.size + 1, 0, none⟩ = false ∧ wr.frozen? ⟨w.heap.size + 1, 1, none⟩ = false ∧ wr.frozen? ⟨w.heap.size + 1, 2, none⟩ = false := by
  have := h.cnd
  refine ⟨?_, ?_, ?_⟩ <;> simp [World.frozen?, this]
theorem CSt.rcells (h : CSt w a b c wr) : (wr.cell? ⟨w.heap.size, 0, none⟩ = some (.int .i64 0) ∧ wr.cell? ⟨w.heap.size, 1, none⟩ = some (.int .i64 0) ∧ wr.cell? ⟨w.heap.size, 2, none⟩ = some (.int .i64 0)) ∧
    wr.frozen? ⟨w.heap.size, 0, none⟩ = false ∧ wr.frozen? ⟨w.heap.size, 1, none⟩ = false ∧ wr.frozen? ⟨w.heap.size, 2, none⟩ = false := by
  have := h.res
  refine ⟨⟨?_, ?_, ?_⟩, ?_, ?_, ?_⟩ <;> simp [World.cell?, World.frozen?, this]
theorem CSt.set0 (h : CSt w a b c wr) (x : Int) : CSt w x b c (wr.setCell ⟨w.heap.size + 1, 0, none⟩ (.int .i64 x)) :=
  ⟨h.below.setCell (p := ⟨w.heap.size + 1, 0, none⟩) (by show w.heap.size ≤ w.heap.size + 1; omega) _, (heap_setCell_other _ ⟨w.heap.size + 1, 0, none⟩ _ _ (by show w.heap.size ≠ w.heap.size + 1; omega)).trans h.res, by simp [World.setCell, Array.getElem?_modify, h.cnd]⟩
theorem CSt.set1 (h : CSt w a b c wr) (x : Int) : CSt w a x c (wr.setCell ⟨w.heap.size + 1, 1, none⟩ (.int .i64 x)) :=
  ⟨h.below.setCell (p := ⟨w.heap.size + 1, 1, none⟩) (by show w.heap.size ≤ w.heap.size + 1; omega) _, (heap_setCell_other _ ⟨w.heap.size + 1, 1, none⟩ _ _ (by show w.heap.size ≠ w.heap.size + 1; omega)).trans h.res, by simp [World.setCell, Array.getElem?_modify, h.cnd]⟩
theorem CSt.set2 (h : CSt w a b c wr) (x : Int) : CSt w a b x (wr.setCell ⟨w.heap.size + 1, 2, none⟩ (.int .i64 x)) :=
  ⟨h.below.setCell (p := ⟨w.heap.size + 1, 2, none⟩) (by show w.heap.size ≤ w.heap.size + 1; omega) _, (heap_setCell_other _ ⟨w.heap.size + 1, 2, none⟩ _ _ (by show w.heap.size ≠ w.heap.size + 1; omega)).trans h.res, by simp [World.setCell, Array.getElem?_modify, h.cnd]⟩
/- the world in which the result is read -/
theorem CSt.fin (h : CSt w a b c wr) (x y z : Int) : Below w.heap.size w (((wr.setCell ⟨w.heap.size, 0, none⟩ (.int .i64 x)).setCell ⟨w.heap.size, 1, none⟩ (.int .i64 y)).setCell ⟨w.heap.size, 2, none⟩ (.int .i64 z)) :=
  ((h.below.setCell (p := ⟨w.heap.size, 0, none⟩) (Nat.le_refl _) _).setCell (p := ⟨w.heap.size, 1, none⟩) (Nat.le_refl _) _).setCell (p := ⟨w.heap.size, 2, none⟩) (Nat.le_refl _) _
end

def CondEnd (ts : List Tok) (k : Nat) (w : World) (r : Res Cd) (e : Ending) (w' : World) : Prop :=
  Below w.heap.size w w' ∧ match r with
  | .error q => ∃ (k' : Nat) (x y z : Int), k' ≤ ts.length ∧ q = ts.drop k' ∧ e = .returned (.tuple #[.agg #[.int .i64 x, .int .i64 y, .int .i64 z], .int .i64 k', .bool false])
  | .ok (c, q) => ∃ k' : Nat, k < k' ∧ k' ≤ ts.length ∧ q = ts.drop k' ∧ e = .returned (.tuple #[.agg #[.int .i64 c.v, .int .i64 c.op, .int .i64 c.n], .int .i64 k', .bool true])
theorem cond_err {ts : List Tok} {k k' : Nat} {x y z : Int} {w w' : World} (hk : k' ≤ ts.length) (hb : Below w.heap.size w w') : CondEnd ts k w (.error (ts.drop k')) (.returned (.tuple #[.agg #[.int .i64 x, .int .i64 y, .int .i64 z], .int .i64 k', .bool false])) w' :=
  ⟨hb, k', x, y, z, hk, rfl, rfl⟩

set_option maxRecDepth 100000 in
set_option maxHeartbeats 16000000 in
theorem cond_any (v : Value) (ts : List Tok) (k : Nat) (w : World) (ht : IsToks w v ts) (hkl : k ≤ ts.length) :
    Calls Tryz.prog 43 #[v, .int .i64 k] w (CondEnd ts k w (pCond (ts.drop k))) := by
  obtain ⟨a, cap, rfl⟩ := toks_form ht
  have hlm := ht.1
  generalize hr : pCond (ts.drop k) = r
  have HR := Lib.hid hr
  have HT := Lib.hid ht
  have HS0 := Lib.hid (CSt.start w)
  have HKL := Lib.hid hkl
  have HTC : Hid (∀ j (hj : j < ts.length), ∃ b o, a = some ⟨b, o, none⟩ ∧ ∀ wx, Below w.heap.size w wx → wx.cell? ⟨b, o + j * 4, none⟩ = some (.int .i64 ts[j].kind) ∧ wx.cell? ⟨b, o + j * 4 + 1, none⟩ = some (.string ts[j].text) ∧ wx.cell? ⟨b, o + j * 4 + 2, none⟩ = some (.int .i64 ts[j].n)) := Lib.hid (fun j hj => by
    obtain ⟨_, _, ⟨rfl, _⟩ | ⟨b, o, c, he, hb, hrow⟩⟩ := ht
    · simp at hj
    obtain ⟨rfl, rfl⟩ : a = some ⟨b, o, none⟩ ∧ cap = c := by simpa using he
    refine ⟨b, o, rfl, fun wx hbx => ?_⟩
    obtain ⟨c0, c1, c2, _⟩ := hrow j hj
    exact ⟨(hbx.cell (p := ⟨b, _, none⟩) hb).trans c0, (hbx.cell (p := ⟨b, _, none⟩) hb).trans c1, (hbx.cell (p := ⟨b, _, none⟩) hb).trans c2⟩)
  clear hr ht hkl
  obtain ⟨n, hn⟩ : ∃ n, n = ts.length := ⟨_, rfl⟩
  have HN := Lib.hid hn
  rw [← hn] at hlm ⊢
  clear hn
  by_cases hk : k < n
  case neg =>
    have hlt2 : decide (n ≤ k) = true := by simp; omega
    have HRe := Lib.hid (HR.out.symm.trans (cond_no1 (not_name varP_kind (fun h => absurd h (by have := HN.out; omega)))))
    have HKE : Hid (k ≤ ts.length) := Lib.hid (by have := HN.out; have := HKL.out; omega)
    go_enter Tryz.func43, Tryz.ntmps43
    go_wp2_with fail
    generalize ((w.alloc (.cells #[.int .i64 0, .int .i64 0, .int .i64 0] 32)).alloc (.cells #[.int .i64 0, .int .i64 0, .int .i64 0] 32)) = w2 at HS0 ⊢
    go_quiet (fail)
    have HSd := Lib.hid (HS0.out.next (below_drewN (Below.refl _ _) nq))
    generalize World.drewN _ nq = w3 at HSd ⊢
    obtain ⟨⟨r0, r1, r2⟩, f0, f1, f2⟩ := HSd.out.rcells
    obtain ⟨x0, x1, x2⟩ := HSd.out.cells
    have HF := Lib.hid (HSd.out.fin 0 0 0)
    go_wp2
    refine bodyPost_ret (v := .tuple #[.agg #[.int .i64 0, .int .i64 0, .int .i64 0], .int .i64 k, .bool false]) ?_ rfl ?_
    · simp [results, Tryz.results43, go_sem, r0, r1, r2]
    · rw [HRe.out]; exact cond_err HKE.out HF.out
  case pos =>
    have hlt2 : decide (n ≤ k) = false := by simp; omega
    have hki : (k : Int) < (n : Int) := by omega
    have hkt : k < ts.length := by have := HN.out; omega
    have HKE : Hid (k ≤ ts.length) := Lib.hid (by omega)
    obtain ⟨b, o, rfl, htc⟩ := HTC.out k hkt
    by_cases hkd : ts[k].kind = 1
    case neg =>
      have HRe := Lib.hid (HR.out.symm.trans (cond_no1 (not_name varP_kind (fun h => by rw [List.getElem?_eq_getElem hkt]; simpa using hkd))))
      generalize ts[k].kind = kd at htc hkd
      have Htc := Lib.hid htc
      have hkd2 : (kd == 1) = false := by simpa using hkd
      have hkd3 : (kd != 1) = true := by simp [hkd]
      clear htc hkd
      go_enter Tryz.func43, Tryz.ntmps43
      go_wp2_with fail
      generalize ((w.alloc (.cells #[.int .i64 0, .int .i64 0, .int .i64 0] 32)).alloc (.cells #[.int .i64 0, .int .i64 0, .int .i64 0] 32)) = w2 at HS0 ⊢
      obtain ⟨c0, _, _⟩ := Htc.out _ HS0.out.below
      go_quiet (fail)
      have HSd := Lib.hid (HS0.out.next (below_drewN (Below.refl _ _) nq))
      clear c0
      generalize World.drewN _ nq = w3 at HSd ⊢
      obtain ⟨⟨r0, r1, r2⟩, f0, f1, f2⟩ := HSd.out.rcells
      obtain ⟨x0, x1, x2⟩ := HSd.out.cells
      have HF := Lib.hid (HSd.out.fin 0 0 0)
      go_wp2
      refine bodyPost_ret (v := .tuple #[.agg #[.int .i64 0, .int .i64 0, .int .i64 0], .int .i64 k, .bool false]) ?_ rfl ?_
      · simp [results, Tryz.results43, go_sem, r0, r1, r2]
      · rw [HRe.out]; exact cond_err HKE.out HF.out
    case pos =>
      rcases var_idx hkt hkd with ⟨hv, hi⟩ | ⟨x, hv1, hi⟩
      · have HRe := Lib.hid (HR.out.symm.trans (cond_no1 hv))
        rw [hkd] at htc
        generalize ts[k].text = tx at htc hi
        have Htc := Lib.hid htc
        have HI := Lib.hid hi
        clear htc hi hv hkd
        go_enter Tryz.func43, Tryz.ntmps43
        go_wp2_with fail
        generalize ((w.alloc (.cells #[.int .i64 0, .int .i64 0, .int .i64 0] 32)).alloc (.cells #[.int .i64 0, .int .i64 0, .int .i64 0] 32)) = w2 at HS0 ⊢
        have HSd := Lib.hid (HS0.out.next (Below.refl _ _).drew)
        go_region_held3 (fun w' => w'.cell? ⟨b, o + k * 4, none⟩ = some (.int .i64 1) ∧ w'.cell? ⟨b, o + k * 4 + 1, none⟩ = some (.string tx)) (first | exact ⟨(Htc.out _ HSd.out.below).1, (Htc.out _ HSd.out.below).2.1⟩ | exact ⟨(Htc.out _ HSv.out.below).1, (Htc.out _ HSv.out.below).2.1⟩)
          (first | (go_at_call 59; refine (refvars_any _).mono ?_; rintro e wv ⟨vv, rfl, hvv, hbv⟩; have HV := Lib.hid hvv; have HSv := Lib.hid (HSd.out.next hbv); clear hvv hbv) | (go_at_call 58; refine (index_any _ varsW tx _ HV.out (by decide)).mono ?_; rintro e wi ⟨rfl, rfl⟩; rw [HI.out]))
        obtain ⟨⟨r0, r1, r2⟩, f0, f1, f2⟩ := HSv.out.rcells
        obtain ⟨x0, x1, x2⟩ := HSv.out.cells
        have HF := Lib.hid (HSv.out.fin 0 0 0)
        go_wp2
        refine bodyPost_ret (v := .tuple #[.agg #[.int .i64 0, .int .i64 0, .int .i64 0], .int .i64 k, .bool false]) ?_ rfl ?_
        · simp [results, Tryz.results43, go_sem, r0, r1, r2]
        · rw [HRe.out]; exact cond_err HKE.out HF.out
      · rw [hkd] at htc
        generalize ts[k].text = tx0 at htc hi
        have Htc0 := Lib.hid htc
        have HI0 := Lib.hid hi
        clear htc hi hkd
        go_enter Tryz.func43, Tryz.ntmps43
        go_wp2_with fail
        generalize ((w.alloc (.cells #[.int .i64 0, .int .i64 0, .int .i64 0] 32)).alloc (.cells #[.int .i64 0, .int .i64 0, .int .i64 0] 32)) = w2 at HS0 ⊢
        have HSd0 := Lib.hid (HS0.out.next (Below.refl _ _).drew)
        go_region_held3 (fun w' => w'.cell? ⟨b, o + k * 4, none⟩ = some (.int .i64 1) ∧ w'.cell? ⟨b, o + k * 4 + 1, none⟩ = some (.string tx0)) (first | exact ⟨(Htc0.out _ HSd0.out.below).1, (Htc0.out _ HSd0.out.below).2.1⟩ | exact ⟨(Htc0.out _ HSv0.out.below).1, (Htc0.out _ HSv0.out.below).2.1⟩)
          (first | (go_at_call 59; refine (refvars_any _).mono ?_; rintro e wv ⟨vv, rfl, hvv, hbv⟩; have HV := Lib.hid hvv; have HSv0 := Lib.hid (HSd0.out.next hbv); clear hvv hbv) | (go_at_call 58; refine (index_any _ varsW tx0 _ HV.out (by decide)).mono ?_; rintro e wi ⟨rfl, rfl⟩; rw [HI0.out]))
        go_wp2_with fail
        have HSe0 := Lib.hid (HSv0.out.next (Below.refl _ _).drew)
        go_region_held3 (fun w' => w'.cell? ⟨b, o + k * 4 + 1, none⟩ = some (.string tx0)) (first | exact (Htc0.out _ HSe0.out.below).2.1 | exact (Htc0.out _ HSw0.out.below).2.1 | exact (Htc0.out _ HT0.out.below).2.1)
          (first | (go_at_call 59; refine (refvars_any _).mono ?_; rintro e wv ⟨vv, rfl, hvv, hbv⟩; have HV := Lib.hid hvv; have HSw0 := Lib.hid (HSe0.out.next hbv); clear hvv hbv) | (go_at_call 58; refine (index_any _ varsW tx0 _ HV.out (by decide)).mono ?_; rintro e wi ⟨rfl, rfl⟩; rw [HI0.out]; obtain ⟨y0, y1, y2⟩ := HSw0.out.cells; obtain ⟨g0, g1, g2⟩ := HSw0.out.thaw; have HT0 := Lib.hid (HSw0.out.set0 (x : Int))))
        clear y0 y1 y2 g0 g1 g2 HSe0 HSw0 HSv0 HSd0 hlt2
        generalize World.setCell _ ⟨w.heap.size + 1, 0, none⟩ (.int .i64 (x : Int)) = w3 at HT0 ⊢
        go_wp2_with fail
        obtain ⟨k1, hk1⟩ : ∃ k1 : Nat, k1 = k + 1 := ⟨_, rfl⟩
        rw [show (k : Int) + 1 = (k1 : Int) by omega]
        have HKL : Hid (k1 ≤ ts.length) := Lib.hid (by omega)
        have HK1 := Lib.hid hk1
        clear hk hki HKE hk1
        by_cases hk : k1 < n
        case neg =>
          have hlt2 : decide (n ≤ k1) = true := by simp; omega
          have HRe := Lib.hid (HR.out.symm.trans (cond_no2 hv1 (HK1.out ▸ not_name opP_kind (fun h => absurd h (by have := HN.out; omega)))))
          have HKE : Hid (k1 ≤ ts.length) := Lib.hid (by have := HN.out; have := HKL.out; omega)
          go_quiet (fail)
          have HSd := Lib.hid (HT0.out.next (below_drewN (Below.refl _ _) nq))
          generalize World.drewN _ nq = w3 at HSd ⊢
          obtain ⟨⟨r0, r1, r2⟩, f0, f1, f2⟩ := HSd.out.rcells
          obtain ⟨x0, x1, x2⟩ := HSd.out.cells
          have HF := Lib.hid (HSd.out.fin x 0 0)
          go_wp2
          refine bodyPost_ret (v := .tuple #[.agg #[.int .i64 x, .int .i64 0, .int .i64 0], .int .i64 k1, .bool false]) ?_ rfl ?_
          · simp [results, Tryz.results43, go_sem, r0, r1, r2]
          · rw [HRe.out]; rw [← HK1.out]; exact cond_err HKE.out HF.out
        case pos =>
          have hlt2 : decide (n ≤ k1) = false := by simp; omega
          have hki : (k1 : Int) < (n : Int) := by omega
          have hkt : k1 < ts.length := by have := HN.out; omega
          have HKE : Hid (k1 ≤ ts.length) := Lib.hid (by omega)
          obtain ⟨b2, o2, he2, htc⟩ := HTC.out k1 hkt
          obtain ⟨rfl, rfl⟩ : b = b2 ∧ o = o2 := by simpa using he2
          clear he2
          by_cases hkd : ts[k1].kind = 1
          case neg =>
            have HRe := Lib.hid (HR.out.symm.trans (cond_no2 hv1 (HK1.out ▸ not_name opP_kind (fun h => by rw [List.getElem?_eq_getElem hkt]; simpa using hkd))))
            generalize ts[k1].kind = kd at htc hkd
            have Htc := Lib.hid htc
            have hkd2 : (kd == 1) = false := by simpa using hkd
            have hkd3 : (kd != 1) = true := by simp [hkd]
            clear htc hkd
            obtain ⟨c0, _, _⟩ := Htc.out _ HT0.out.below
            go_quiet (fail)
            have HSd := Lib.hid (HT0.out.next (below_drewN (Below.refl _ _) nq))
            clear c0
            generalize World.drewN _ nq = w3 at HSd ⊢
            obtain ⟨⟨r0, r1, r2⟩, f0, f1, f2⟩ := HSd.out.rcells
            obtain ⟨x0, x1, x2⟩ := HSd.out.cells
            have HF := Lib.hid (HSd.out.fin x 0 0)
            go_wp2
            refine bodyPost_ret (v := .tuple #[.agg #[.int .i64 x, .int .i64 0, .int .i64 0], .int .i64 k1, .bool false]) ?_ rfl ?_
            · simp [results, Tryz.results43, go_sem, r0, r1, r2]
            · rw [HRe.out]; rw [← HK1.out]; exact cond_err HKE.out HF.out
          case pos =>
            rcases op_idx hkt hkd with ⟨hv, hi⟩ | ⟨y, hv2, hi⟩
            · have HRe := Lib.hid (HR.out.symm.trans (cond_no2 hv1 (HK1.out ▸ hv)))
              rw [hkd] at htc
              generalize ts[k1].text = tx at htc hi
              have Htc := Lib.hid htc
              clear htc hv hkd
              rcases hi with hi | hi
              all_goals
                have HI := Lib.hid hi
                clear hi
                have HSd := Lib.hid (HT0.out.next (Below.refl _ _).drew)
                go_region_held3 (fun w' => w'.cell? ⟨b, o + k1 * 4, none⟩ = some (.int .i64 1) ∧ w'.cell? ⟨b, o + k1 * 4 + 1, none⟩ = some (.string tx)) (first | exact ⟨(Htc.out _ HSd.out.below).1, (Htc.out _ HSd.out.below).2.1⟩ | exact ⟨(Htc.out _ HSv.out.below).1, (Htc.out _ HSv.out.below).2.1⟩)
                  (first | (go_at_call 60; refine (refops_any _).mono ?_; rintro e wv ⟨vv, rfl, hvv, hbv⟩; have HV := Lib.hid hvv; have HSv := Lib.hid (HSd.out.next hbv); clear hvv hbv) | (go_at_call 58; refine (index_any _ refOpsW tx _ HV.out (by decide)).mono ?_; rintro e wi ⟨rfl, rfl⟩; rw [HI.out]))
                obtain ⟨⟨r0, r1, r2⟩, f0, f1, f2⟩ := HSv.out.rcells
                obtain ⟨x0, x1, x2⟩ := HSv.out.cells
                have HF := Lib.hid (HSv.out.fin x 0 0)
                go_wp2
                refine bodyPost_ret (v := .tuple #[.agg #[.int .i64 x, .int .i64 0, .int .i64 0], .int .i64 k1, .bool false]) ?_ rfl ?_
                · simp [results, Tryz.results43, go_sem, r0, r1, r2]
                · rw [HRe.out]; rw [← HK1.out]; exact cond_err HKE.out HF.out
            · rw [hkd] at htc
              generalize ts[k1].text = tx1 at htc hi
              have Htc1 := Lib.hid htc
              have HI1 := Lib.hid hi
              clear htc hi hkd
              have HSd1 := Lib.hid (HT0.out.next (Below.refl _ _).drew)
              go_region_held3 (fun w' => w'.cell? ⟨b, o + k1 * 4, none⟩ = some (.int .i64 1) ∧ w'.cell? ⟨b, o + k1 * 4 + 1, none⟩ = some (.string tx1)) (first | exact ⟨(Htc1.out _ HSd1.out.below).1, (Htc1.out _ HSd1.out.below).2.1⟩ | exact ⟨(Htc1.out _ HSv1.out.below).1, (Htc1.out _ HSv1.out.below).2.1⟩)
                (first | (go_at_call 60; refine (refops_any _).mono ?_; rintro e wv ⟨vv, rfl, hvv, hbv⟩; have HV := Lib.hid hvv; have HSv1 := Lib.hid (HSd1.out.next hbv); clear hvv hbv) | (go_at_call 58; refine (index_any _ refOpsW tx1 _ HV.out (by decide)).mono ?_; rintro e wi ⟨rfl, rfl⟩; rw [HI1.out]))
              have hpos : decide ((y : Int) + 1 < 1) = false := by simp; omega
              go_wp2_with fail
              have HSe1 := Lib.hid (HSv1.out.next (Below.refl _ _).drew)
              go_region_held3 (fun w' => w'.cell? ⟨b, o + k1 * 4 + 1, none⟩ = some (.string tx1)) (first | exact (Htc1.out _ HSe1.out.below).2.1 | exact (Htc1.out _ HSw1.out.below).2.1 | exact (Htc1.out _ HT1.out.below).2.1)
                (first | (go_at_call 60; refine (refops_any _).mono ?_; rintro e wv ⟨vv, rfl, hvv, hbv⟩; have HV := Lib.hid hvv; have HSw1 := Lib.hid (HSe1.out.next hbv); clear hvv hbv) | (go_at_call 58; refine (index_any _ refOpsW tx1 _ HV.out (by decide)).mono ?_; rintro e wi ⟨rfl, rfl⟩; rw [HI1.out]; obtain ⟨y0, y1, y2⟩ := HSw1.out.cells; obtain ⟨g0, g1, g2⟩ := HSw1.out.thaw; have HT1 := Lib.hid (HSw1.out.set1 ((y : Int) + 1))))
              clear y0 y1 y2 g0 g1 g2 HSe1 HSw1 HSv1 HSd1 hlt2
              generalize World.setCell _ ⟨w.heap.size + 1, 1, none⟩ (.int .i64 ((y : Int) + 1)) = w4 at HT1 ⊢
              go_wp2_with fail
              obtain ⟨k2, hk2⟩ : ∃ k2 : Nat, k2 = k1 + 1 := ⟨_, rfl⟩
              rw [show (k1 : Int) + 1 = (k2 : Int) by omega]
              have HK2 : Hid (k + 2 = k2) := Lib.hid (by have := HK1.out; omega)
              clear hk2
              have HTt : Hid (IsToks w4 (.slice (some ⟨b, o, none⟩) n cap) ts) := Lib.hid (by have := HT.out.below HT1.out.below; rw [← HN.out] at this; exact this)
              with_reducible refine (refnum_any _ ts k2 _ HTt.out).mono ?_
              trace "A"
              rintro e w6 ⟨rfl, rfl⟩
              cases hv3 : tokAt numP ts (k + 2) with
              | none =>
                have HRe := Lib.hid (HR.out.symm.trans (cond_no3 hv1 (by rw [← HK1.out]; exact hv2) hv3))
                have hnb := numB_none hv3
                rw [HK2.out] at hnb
                rw [hnb]
                have HKE : Hid (k2 ≤ ts.length) := Lib.hid (by have := HN.out; have := HK2.out; have := HK1.out; omega)
                obtain ⟨⟨r0, r1, r2⟩, f0, f1, f2⟩ := HT1.out.rcells
                obtain ⟨x0, x1, x2⟩ := HT1.out.cells
                have HF := Lib.hid (HT1.out.fin x (y + 1) 0)
                go_wp2
                refine bodyPost_ret (v := .tuple #[.agg #[.int .i64 x, .int .i64 (y + 1), .int .i64 0], .int .i64 k2, .bool false]) ?_ rfl ?_
                · simp [results, Tryz.results43, go_sem, r0, r1, r2]
                · rw [HRe.out]; rw [HK2.out]; exact cond_err HKE.out HF.out
              | some z =>
                trace "B"
                have HRe := Lib.hid (HR.out.symm.trans (cond_yes hv1 (by rw [← HK1.out]; exact hv2) hv3))
                obtain ⟨hnb, hk3, hz⟩ := numB_some hv3
                rw [HK2.out] at hnb
                rw [hnb]
                obtain ⟨b2, o2, he2, htc⟩ := HTC.out (k + 2) hk3
                obtain ⟨rfl, rfl⟩ : b = b2 ∧ o = o2 := by simpa using he2
                replace htc := fun wx hbx => (htc wx hbx).2.2
                rw [hz, HK2.out] at htc
                have hki : (k2 : Int) < (n : Int) := by have := HN.out; have := HK2.out; omega
                have HKE : Hid (k2 + 1 ≤ ts.length) := Lib.hid (by have := HK2.out; omega)
                have c2 := htc _ HT1.out.below
                have HZ := Lib.hid (HT1.out.set2 z)
                have HSh := HK2
                clear htc he2 hz
                obtain ⟨y0, y1, y2⟩ := HT1.out.cells
                obtain ⟨g0, g1, g2⟩ := HT1.out.thaw
                obtain ⟨⟨r0, r1, r2⟩, f0, f1, f2⟩ := HZ.out.rcells
                obtain ⟨x0, x1, x2⟩ := HZ.out.cells
                have HF := Lib.hid (HZ.out.fin x (y + 1) z)
                go_wp2
                refine bodyPost_ret (v := .tuple #[.agg #[.int .i64 x, .int .i64 (y + 1), .int .i64 z], .int .i64 ((k2 : Int) + 1), .bool true]) ?_ rfl ?_
                · simp [results, Tryz.results43, go_sem, r0, r1, r2]
                · rw [HRe.out]; exact ⟨HF.out, k2 + 1, by have := HSh.out; omega, HKE.out, by rw [← HSh.out], rfl⟩

end Go.Proofs.YtlaifodlnolndaaGreatDoor

/- The document's Lex: the walk through its loops. -/
import Derived.Test.YtkfbhegniobecaaDoorK
namespace Go.Proofs.YtkfbhegniobecaaDoor
open Go.RowKit

theorem ret3 {v v' : Value} {a a' b b' : Int} (h0 : v = v') (h : a = a') (h' : b = b') : Ending.returned (.tuple #[v, .int .i64 a, .int .i64 b]) = .returned (.tuple #[v', .int .i64 a', .int .i64 b']) := by rw [h0, h, h']

theorem slice_is (s : ByteArray) (a b : Nat) (b' : Int) (hb : b' = b) (h1 : a ≤ b) (h2 : b ≤ s.size) : ∀ wx, (Instr.slice 9 (.string s) (some (.int .i64 (a : Int))) (some (.int .i64 b')) none).run Tryd.prog wx = .ok (.string (s.extract a b)) wx := by
  intro wx
  have := run_slice_string (P := Tryd.prog) wx 9 s .i64 .i64 (a : Int) (b : Int) Tryd.underlying9 (by omega) (by omega) (by omega)
  rw [hb]
  simpa using this

theorem own_quiet {B : Nat} {w w' : World} {v : Value} {acc : List Tok} (h : OwnToks B w v acc) (hq : ∃ q, w' = w.drewN q) : OwnToks B w' v acc := by
  obtain ⟨q, rfl⟩ := hq; exact h
theorem below_quiet {B : Nat} {w0 w w' : World} (h : Below B w0 w) (hq : ∃ q, w' = w.drewN q) : Below B w0 w' := by
  obtain ⟨q, rfl⟩ := hq; exact below_drewN h q

set_option maxRecDepth 100000 in
set_option maxHeartbeats 8000000 in
theorem reflex_any (s : ByteArray) (w : World) (hs : s.size ≤ 65536) :
    Calls Tryd.prog 13 #[.string s] w (LexEnd w (scan s.data.toList 0)) := by
  have hst : ScanAt s (scan s.data.toList 0) 0 [] := ⟨by rw [List.drop_zero, preT_nil], by simp⟩
  generalize scan s.data.toList 0 = r at hst ⊢
  have hd : decide (65536 < (s.size : Int)) = false := by simp; omega
  go_enter Tryd.func13, Tryd.ntmps13
  go_wp2
  go_loopw [5, 6] (fun v iv wr => ∃ (i : Nat) (acc : List Tok), iv = .int .i64 i ∧ i ≤ s.size ∧ acc.length ≤ i ∧ OwnToks w.heap.size wr v acc ∧ ScanAt s r i acc ∧ Below w.heap.size w wr) (fun _ iv _ => s.size - (intOf iv).toNat)
  case atStart =>
    refine ⟨0, [], rfl, Nat.zero_le _, Nat.le_refl _, ?_, hst, (Below.refl _ _).alloc (Nat.le_refl _) _⟩
    exact World.ownsRow_made w #[] 0 (Nat.le_refl _) (by unfold maxLen; omega) rfl
  case round =>
    clear hst
    obtain ⟨i, acc, rfl, hi, hacc, hown, hsc, hB⟩ := hrel
    have hz := hB.size
    have hacc' : acc.length ≤ 1000000000000 := by omega
    by_cases hlt : i < s.size
    · by_cases hsp : spaceB s[i] = true
      · have hsc' := hsc.space hlt hsp
        clear hsc
        have Hsp := Lib.hid hsp; clear hsp
        go_wp2_with (first | (go_at_call 22; refine (space_is _ _ Hsp.out _).mono ?_; rintro e w' ⟨rfl, rfl⟩))
        exact ⟨⟨i + 1, acc, by go_num, by omega, by omega, hown, hsc', hB⟩, by simp [intOf]; omega⟩
      · rw [Bool.not_eq_true] at hsp
        have Hsp := Lib.hid hsp
        by_cases h47 : s[i].toNat = 47
        · have b1 : ((s[i].toNat : Int) == 47) = true := by simp [h47]
          have hl : letterB s[i] = false := nl (by omega)
          have hdg : digitB s[i] = false := nd (by omega)
          have hsg : signB s[i] = true := by
            have : s[i] = 47 := UInt8.toNat_inj.1 h47
            rw [this]; rfl
          by_cases hnx : i + 1 < s.size
          · by_cases h47' : s[i + 1].toNat = 47
            · -- a comment
              have b2 : ((s[i + 1].toNat : Int) == 47) = true := by simp [h47']
              have hno : noteAt s i := ⟨hnx, UInt8.toNat_inj.1 h47, UInt8.toNat_inj.1 h47'⟩
              have hsc' := fun j => hsc.note (j := j) hlt hsp hno
              have Hsc := Lib.hid hsc'
              have hp := span_pos (p := notLf) hlt (by simp [notLf, h47])
              have hle := span_le notLf s i hi
              have HA := Lib.hid (fun j h1 h2 => span_at (p := notLf) (s := s) (i := i) (j := j) h1 h2)
              have HO := Lib.hid (fun j h1 h2 => span_out (p := notLf) (s := s) (i := i) (j := j) h1 h2)
              clear hsc hsc' hsp h47 h47' hno hl hdg hsg
              generalize hT : spanL notLf s i = T at hp hle HA HO Hsc
              clear hT
              go_wp2_with (first | (go_at_call 22; refine (space_is _ _ Hsp.out _).mono ?_; rintro e w' ⟨rfl, rfl⟩))
              go_loop [6] (fun jv => ∃ j : Nat, jv = .int .i64 j ∧ i ≤ j ∧ j ≤ i + T) (fun jv => s.size - (intOf jv).toNat)
              case atStart => exact ⟨i, rfl, Nat.le_refl _, by omega⟩
              case round =>
                obtain ⟨j, rfl, hj1, hj2⟩ := hrel
                by_cases hjl : j < i + T
                · obtain ⟨hjs, hj10⟩ := HA.out j hj1 hjl
                  have b3 : ((s[j].toNat : Int) != 10) = true := by simp [notLf] at hj10; rw [bne_iff_ne]; omega
                  clear hj10
                  go_wp2
                  exact ⟨⟨j + 1, by go_num, by omega, by omega⟩, by simp [intOf]; omega⟩
                · have hje : j = i + T := by omega
                  have Hsc' := Lib.hid (Hsc.out j hje)
                  by_cases hjs : j < s.size
                  · have hj10 := HO.out j hje hjs
                    have b3 : ((s[j].toNat : Int) != 10) = false := by simp [notLf] at hj10; simp [hj10]
                    clear hj10 hje
                    go_wp2
                    exact ⟨⟨j, acc, rfl, by omega, by omega, hown, Hsc'.out, hB⟩, by simp [intOf]; omega⟩
                  · clear hje
                    go_wp2
                    exact ⟨⟨j, acc, rfl, by omega, by omega, hown, Hsc'.out, hB⟩, by simp [intOf]; omega⟩
            · -- a slash alone
              have b2 : ((s[i + 1].toNat : Int) == 47) = false := by rw [beq_eq_false_iff_ne]; omega
              have hno : ¬ noteAt s i := by
                rintro ⟨h, e1, e2⟩
                exact h47' (by rw [e2]; rfl)
              have hsc' := hsc.sign hlt hsp hno hl hdg hsg
              clear hno
              have Hsc := Lib.hid hsc'
              have Hl := Lib.hid hl
              have Hdg := Lib.hid hdg
              have Hsg := Lib.hid hsg
              clear hsc hsc' hsp h47 h47' hl hdg hsg
              have hsl := slice_is s i (i + 1) (i + 1) (by omega) (by omega) (by omega)
              go_wp2_with (first | (go_at_call 22; refine (space_is _ _ Hsp.out _).mono ?_; rintro e w' ⟨rfl, rfl⟩) | (go_at_call 31; refine (letter_is _ _ Hl.out _).mono ?_; rintro e w' ⟨rfl, rfl⟩) | (go_at_call 33; refine (figure_is _ _ Hdg.out _).mono ?_; rintro e w' ⟨rfl, rfl⟩) | (go_at_call 35; refine (sign_is _ _ Hsg.out _).mono ?_; rintro e w' ⟨rfl, rfl⟩) | (at_builtin; refine append_new w.heap.size rfl _ _ rfl _ acc rfl hown ⟨3, s.extract i (i + 1), 0, i⟩ rfl hacc' hz ?_; intro v' w1 hown' hgrow))
              exact ⟨⟨i + 1, _, by go_num, by omega, by simp; omega, hown', Hsc.out, grown_below hB hown hz hgrow⟩, by simp [intOf]; omega⟩
          · have hno : ¬ noteAt s i := by
              rintro ⟨h, e1, e2⟩
              exact hnx h
            have hsc' := hsc.sign hlt hsp hno hl hdg hsg
            clear hno
            have Hsc := Lib.hid hsc'
            have Hl := Lib.hid hl
            have Hdg := Lib.hid hdg
            have Hsg := Lib.hid hsg
            clear hsc hsc' hsp h47 hl hdg hsg
            have hsl := slice_is s i (i + 1) (i + 1) (by omega) (by omega) (by omega)
            go_wp2_with (first | (go_at_call 22; refine (space_is _ _ Hsp.out _).mono ?_; rintro e w' ⟨rfl, rfl⟩) | (go_at_call 31; refine (letter_is _ _ Hl.out _).mono ?_; rintro e w' ⟨rfl, rfl⟩) | (go_at_call 33; refine (figure_is _ _ Hdg.out _).mono ?_; rintro e w' ⟨rfl, rfl⟩) | (go_at_call 35; refine (sign_is _ _ Hsg.out _).mono ?_; rintro e w' ⟨rfl, rfl⟩) | (at_builtin; refine append_new w.heap.size rfl _ _ rfl _ acc rfl hown ⟨3, s.extract i (i + 1), 0, i⟩ rfl hacc' hz ?_; intro v' w1 hown' hgrow))
            exact ⟨⟨i + 1, _, by go_num, by omega, by simp; omega, hown', Hsc.out, grown_below hB hown hz hgrow⟩, by simp [intOf]; omega⟩
        · have b1 : ((s[i].toNat : Int) == 47) = false := by rw [beq_eq_false_iff_ne]; omega
          have hno : ¬ noteAt s i := by
            rintro ⟨h, e1, e2⟩
            exact h47 (by rw [e1]; rfl)
          by_cases hl : letterB s[i] = true
          · have hle := span_le partB s i hi
            have hp := span_pos (p := partB) hlt (by simp [partB, hl])
            have HA := Lib.hid (fun j h1 h2 => span_at (p := partB) (s := s) (i := i) (j := j) h1 h2)
            have HO := Lib.hid (fun j h1 h2 => span_out (p := partB) (s := s) (i := i) (j := j) h1 h2)
            have HY := Lib.hid (fun j h1 h2 => hsc.name (j := j) hlt hs hsp hno hl h1 h2)
            have HX := Lib.hid (fun j h1 h2 => hsc.noname (j := j) hlt hsp hno hl h1 h2)
            have Hl := Lib.hid hl
            clear hsc hsp h47 hl hno
            generalize hT : spanL partB s i = T at hp hle HA HO HY HX
            clear hT
            go_wp2_with (first | (go_at_call 22; refine (space_is _ _ Hsp.out _).mono ?_; rintro e w' ⟨rfl, rfl⟩) | (go_at_call 31; refine (letter_is _ _ Hl.out _).mono ?_; rintro e w' ⟨rfl, rfl⟩))
            go_loop [6] (fun jv => ∃ j : Nat, jv = .int .i64 j ∧ i ≤ j ∧ j ≤ i + T) (fun jv => s.size - (intOf jv).toNat)
            case atStart => exact ⟨i, rfl, Nat.le_refl _, by omega⟩
            case round =>
              obtain ⟨j, rfl, hj1, hj2⟩ := hrel
              by_cases hjl : j < i + T
              · obtain ⟨hjs, hjp⟩ := HA.out j hj1 hjl
                have Hjp := Lib.hid hjp; clear hjp
                go_wp2_with (first | (go_at_call 32; refine (part_is _ _ Hjp.out _).mono ?_; rintro e w' ⟨rfl, rfl⟩))
                exact ⟨⟨j + 1, by go_num, by omega, by omega⟩, by simp [intOf]; omega⟩
              · have hje : j = i + T := by omega
                have HO' := Lib.hid (HO.out j hje)
                have HY' := Lib.hid (HY.out j hje)
                have HX' := Lib.hid (HX.out j hje)
                have hsl := slice_is s i j j rfl hj1 (by omega)
                have hxs : (s.extract i j).size ≤ maxLen := by rw [extract_size hj1 (by omega)]; unfold maxLen; omega
                have Hxs := Lib.hid hxs
                have hij : i < j := by omega
                clear hje HO HY HX HA hxs
                by_cases hnm : nameB (s.extract i j).data.toList = true
                · have hsc' := HY'.out hnm
                  have Hsc := Lib.hid hsc'
                  have Hnm := Lib.hid hnm
                  clear hsc' hnm HY' HX'
                  by_cases hjs : j < s.size
                  · have Hjp := Lib.hid (HO'.out hjs)
                    clear HO'
                    go_wp2_with (first | (go_at_call 32; refine (part_is _ _ Hjp.out _).mono ?_; rintro e w' ⟨rfl, rfl⟩) | (go_at_call 21; refine (refname_is _ _ Hnm.out _ Hxs.out).mono ?_; rintro e w' ⟨rfl, rfl⟩) | (at_builtin; refine append_new w.heap.size rfl _ _ rfl _ acc rfl hown ⟨1, s.extract i j, 0, i⟩ rfl hacc' hz ?_; intro v' w1 hown' hgrow))
                    exact ⟨⟨j, _, rfl, by omega, by simp; omega, hown', Hsc.out, grown_below hB hown hz hgrow⟩, by simp [intOf]; omega⟩
                  · clear HO'
                    go_wp2_with (first | (go_at_call 21; refine (refname_is _ _ Hnm.out _ Hxs.out).mono ?_; rintro e w' ⟨rfl, rfl⟩) | (at_builtin; refine append_new w.heap.size rfl _ _ rfl _ acc rfl hown ⟨1, s.extract i j, 0, i⟩ rfl hacc' hz ?_; intro v' w1 hown' hgrow))
                    exact ⟨⟨j, _, rfl, by omega, by simp; omega, hown', Hsc.out, grown_below hB hown hz hgrow⟩, by simp [intOf]; omega⟩
                · rw [Bool.not_eq_true] at hnm
                  have Hr := Lib.hid (HX'.out hnm)
                  have Hnm := Lib.hid hnm
                  clear hnm HY' HX'
                  by_cases hjs : j < s.size
                  · have Hjp := Lib.hid (HO'.out hjs)
                    clear HO'
                    go_wp2_with (first | (go_at_call 32; refine (part_is _ _ Hjp.out _).mono ?_; rintro e w' ⟨rfl, rfl⟩) | (go_at_call 21; refine (refname_is _ _ Hnm.out _ Hxs.out).mono ?_; rintro e w' ⟨rfl, rfl⟩))
                    go_ret3
                    refine ⟨hB, ?_⟩
                    rw [Hr.out]
                    rfl
                  · clear HO'
                    go_wp2_with (first | (go_at_call 21; refine (refname_is _ _ Hnm.out _ Hxs.out).mono ?_; rintro e w' ⟨rfl, rfl⟩))
                    go_ret3
                    refine ⟨hB, ?_⟩
                    rw [Hr.out]
                    rfl
          · rw [Bool.not_eq_true] at hl
            by_cases hdg : digitB s[i] = true
            · have hle := span_le digitB s i hi
              have hp := span_pos (p := digitB) hlt hdg
              have HA := Lib.hid (fun j h1 h2 => span_at (p := digitB) (s := s) (i := i) (j := j) h1 h2)
              have HO := Lib.hid (fun j h1 h2 => span_out (p := digitB) (s := s) (i := i) (j := j) h1 h2)
              have HY := Lib.hid (fun j h1 n h2 => hsc.number (j := j) hlt hsp hno hl hdg h1 n h2)
              have HX := Lib.hid (fun j h1 n h2 => hsc.nonumber (j := j) hlt hsp hno hl hdg h1 n h2)
              have HD := Lib.hid (span_digits (s := s) hi)
              have Hl := Lib.hid hl
              have Hdg := Lib.hid hdg
              clear hsc hsp h47 hl hno hdg
              generalize hT : spanL digitB s i = T at hp hle HA HO HY HX HD
              clear hT
              go_wp2_with (first | (go_at_call 22; refine (space_is _ _ Hsp.out _).mono ?_; rintro e w' ⟨rfl, rfl⟩) | (go_at_call 31; refine (letter_is _ _ Hl.out _).mono ?_; rintro e w' ⟨rfl, rfl⟩) | (go_at_call 33; refine (figure_is _ _ Hdg.out _).mono ?_; rintro e w' ⟨rfl, rfl⟩))
              go_loop [6] (fun jv => ∃ j : Nat, jv = .int .i64 j ∧ i ≤ j ∧ j ≤ i + T) (fun jv => s.size - (intOf jv).toNat)
              case atStart => exact ⟨i, rfl, Nat.le_refl _, by omega⟩
              case round =>
                obtain ⟨j, rfl, hj1, hj2⟩ := hrel
                by_cases hjl : j < i + T
                · obtain ⟨hjs, hjp⟩ := HA.out j hj1 hjl
                  have Hjp := Lib.hid hjp; clear hjp
                  go_wp2_with (first | (go_at_call 33; refine (figure_is _ _ Hjp.out _).mono ?_; rintro e w' ⟨rfl, rfl⟩))
                  exact ⟨⟨j + 1, by go_num, by omega, by omega⟩, by simp [intOf]; omega⟩
                · have hje : j = i + T := by omega
                  have HO' := Lib.hid (HO.out j hje)
                  have HY' := Lib.hid (HY.out j hje)
                  have HX' := Lib.hid (HX.out j hje)
                  rw [← hje] at HD
                  have hsl := slice_is s i j j rfl hj1 (by omega)
                  have hij : i < j := by omega
                  have hxz := extract_size hj1 (show j ≤ s.size by omega)
                  have hxs : (s.extract i j).size ≤ maxLen := by rw [hxz]; unfold maxLen; omega
                  have hx0 : 0 < (s.extract i j).size := by rw [hxz]; omega
                  have Hcall := Lib.hid (fun wx => number_ex (s.extract i j) wx hxs hx0 HD.out)
                  clear hje HO HY HX HA hxs hx0 hxz HD
                  by_cases hjs : j < s.size
                  · have Hjp := Lib.hid (HO'.out hjs)
                    clear HO'
                    go_wp2_with (first | (go_at_call 33; refine (figure_is _ _ Hjp.out _).mono ?_; rintro e w' ⟨rfl, rfl⟩) | (go_at_call 34; refine (Hcall.out _).mono ?_; rintro e w2 ⟨n, b, rfl, Hn, hq⟩; have hown2 := own_quiet hown hq; have hB2 := below_quiet hB hq; have hz2 := hB2.size; clear hq) | (at_builtin; refine append_new w.heap.size rfl _ _ rfl _ acc rfl hown2 ⟨2, ⟨#[]⟩, n, i⟩ rfl hacc' hz2 ?_; intro v' w1 hown' hgrow))
                    · go_ret3
                      refine ⟨hB2, ?_⟩
                      have hb : b = false := by simpa using ‹(!b) = true›
                      rw [hb] at Hn
                      rw [HX'.out n Hn.out]
                      rfl
                    · have hb : b = true := by simpa using ‹(!b) = false›
                      rw [hb] at Hn
                      exact ⟨⟨j, _, rfl, by omega, by simp; omega, hown', HY'.out n Hn.out, grown_below hB2 hown2 hz2 hgrow⟩, by simp [intOf]; omega⟩
                  · clear HO'
                    go_wp2_with (first | (go_at_call 34; refine (Hcall.out _).mono ?_; rintro e w2 ⟨n, b, rfl, Hn, hq⟩; have hown2 := own_quiet hown hq; have hB2 := below_quiet hB hq; have hz2 := hB2.size; clear hq) | (at_builtin; refine append_new w.heap.size rfl _ _ rfl _ acc rfl hown2 ⟨2, ⟨#[]⟩, n, i⟩ rfl hacc' hz2 ?_; intro v' w1 hown' hgrow))
                    · go_ret3
                      refine ⟨hB2, ?_⟩
                      have hb : b = false := by simpa using ‹(!b) = true›
                      rw [hb] at Hn
                      rw [HX'.out n Hn.out]
                      rfl
                    · have hb : b = true := by simpa using ‹(!b) = false›
                      rw [hb] at Hn
                      exact ⟨⟨j, _, rfl, by omega, by simp; omega, hown', HY'.out n Hn.out, grown_below hB2 hown2 hz2 hgrow⟩, by simp [intOf]; omega⟩
            · rw [Bool.not_eq_true] at hdg
              by_cases hsg : signB s[i] = true
              · skip
                have hsc' := hsc.sign hlt hsp hno hl hdg hsg
                clear hno
                have Hsc := Lib.hid hsc'
                have Hl := Lib.hid hl
                have Hdg := Lib.hid hdg
                have Hsg := Lib.hid hsg
                clear hsc hsc' hsp h47 hl hdg hsg
                have hsl := slice_is s i (i + 1) (i + 1) (by omega) (by omega) (by omega)
                go_wp2_with (first | (go_at_call 22; refine (space_is _ _ Hsp.out _).mono ?_; rintro e w' ⟨rfl, rfl⟩) | (go_at_call 31; refine (letter_is _ _ Hl.out _).mono ?_; rintro e w' ⟨rfl, rfl⟩) | (go_at_call 33; refine (figure_is _ _ Hdg.out _).mono ?_; rintro e w' ⟨rfl, rfl⟩) | (go_at_call 35; refine (sign_is _ _ Hsg.out _).mono ?_; rintro e w' ⟨rfl, rfl⟩) | (at_builtin; refine append_new w.heap.size rfl _ _ rfl _ acc rfl hown ⟨3, s.extract i (i + 1), 0, i⟩ rfl hacc' hz ?_; intro v' w1 hown' hgrow))
                exact ⟨⟨i + 1, _, by go_num, by omega, by simp; omega, hown', Hsc.out, grown_below hB hown hz hgrow⟩, by simp [intOf]; omega⟩
              · rw [Bool.not_eq_true] at hsg
                have hr := hsc.wrong hlt hsp hno hl hdg hsg
                clear hno
                have Hr := Lib.hid hr
                have Hl := Lib.hid hl
                have Hdg := Lib.hid hdg
                have Hsg := Lib.hid hsg
                clear hsc hr hsp h47 hl hdg hsg
                go_wp2_with (first | (go_at_call 22; refine (space_is _ _ Hsp.out _).mono ?_; rintro e w' ⟨rfl, rfl⟩) | (go_at_call 31; refine (letter_is _ _ Hl.out _).mono ?_; rintro e w' ⟨rfl, rfl⟩) | (go_at_call 33; refine (figure_is _ _ Hdg.out _).mono ?_; rintro e w' ⟨rfl, rfl⟩) | (go_at_call 35; refine (sign_is _ _ Hsg.out _).mono ?_; rintro e w' ⟨rfl, rfl⟩))
                go_ret3
                refine ⟨hB, ?_⟩
                rw [Hr.out]
                rfl
    · have hd := hsc.done hlt
      have hall := hsc.2
      have Hall := Lib.hid hall
      clear hsc hall
      go_wp2
      go_ret3
      refine ⟨hB, ?_⟩
      rw [hd]
      exact ⟨_, rfl, hown.isToks (by omega) fun t ht => Nat.le_trans (Hall.out t ht) (by unfold maxLen; omega)⟩

end Go.Proofs.YtkfbhegniobecaaDoor

/- PROVED HERE: the tied card of 'acequia/acequialaw31.GatecodeFirst': for every input, in every start that meets the row's condition on the listed package variables, the law returns true and each argument reads as it did. Its conditions are the given statement's own (Rows.GatecodeFirstCardSaid), none more. -/
import Derived.Test.YtlaifodlnolndaaDoorMr
import Derived.Test.YtlaifodlnolndaaDoorMd
import Derived.Test.YtlaifodlnolndaaDoorMp
import Derived.Test.YtlaifodlnolndaaDoorCards
import Derived.SevenTiedAt
import Derived.Carry
/- The statement First: the walk. -/
namespace Go.Proofs.YtlaifodlnolndaaDoor
open Go.RowKit

theorem first_head (s : ByteArray) (w : World) (hs : 8000 < s.size) (hs2 : s.size ≤ 140737488355328) (hG : Globals w) : Calls Tryd.prog 5 #[.string s] w fun e w' => e = .returned (.bool true) ∧ Below w.heap.size w w' := by
  have hlt : decide (8000 < (s.size : Int)) = true := by simp; omega
  go_enter Tryd.func5, Tryd.ntmps5
  go_wp2_with fail
  refine (sane_any _ hG).mono ?_
  rintro e w1 ⟨rfl, hb1⟩
  go_wp2
  go_ret
  exact ⟨rfl, hb1⟩
theorem take_ext (s : ByteArray) (n : Nat) : (s.extract 0 n).data.toList = s.data.toList.take n := by rw [Lib.extract_data]; simp

set_option maxRecDepth 100000 in
set_option maxHeartbeats 8000000 in
theorem first_any (s : ByteArray) (w : World) (hs2 : s.size ≤ 140737488355328) (hG : Globals w) : Calls Tryd.prog 5 #[.string s] w fun e w' => e = .returned (.bool true) ∧ Below w.heap.size w w' := by
  by_cases h8 : 8000 < s.size
  · exact first_head s w h8 hs2 hG
  have hlt : decide (8000 < (s.size : Int)) = false := by simp; omega
  have h60 : s.size ≤ 60000 := by omega
  have h65 : s.size ≤ 65536 := by omega
  have HG := Lib.hid hG
  clear hG hs2
  rcases parseR_cases s.data.toList with ⟨k, _, hR, _⟩ | ⟨ts, ls, hsc, hpl, hR, _⟩ | ⟨ts, q, hsc, hpl, hR⟩
  · have HV := Lib.hid (fun w hG => parse_gives s _ hR 0 rfl h65 w hG)
    go_enter Tryd.func5, Tryd.ntmps5
    go_wp2_with fail
    refine (sane_any _ HG.out).mono ?_
    rintro e w1 ⟨rfl, hb1⟩
    have HB1 := Lib.hid hb1
    have HG1 := Lib.hid (HG.out.next hb1)
    clear hb1 h8 h60 h65 hR
    go_wp2_with fail
    refine (HV.out w1 HG1.out).mono ?_
    rintro e w2 ⟨a2, m2, rfl, hv2, hb2⟩
    have HB2 := Lib.hid ((HB1.out.trans (hb2.mono HB1.out.size)).alloc (Nat.le_trans HB1.out.size hb2.size) (.cells #[.slice a2 0 m2] 24))
    clear hv2 hb2
    go_wp2
    go_ret
    exact ⟨rfl, HB2.out⟩
  · have HV := Lib.hid (fun w hG => parse_gives s _ hR _ rfl h65 w hG)
    have HBe := Lib.hid (first_ok hsc hpl)
    have HS60 := Lib.hid h60
    go_enter Tryd.func5, Tryd.ntmps5
    go_wp2_with fail
    refine (sane_any _ HG.out).mono ?_
    rintro e w1 ⟨rfl, hb1⟩
    have HB1 := Lib.hid hb1
    have HG1 := Lib.hid (HG.out.next hb1)
    clear hb1 h8 h60 h65 hR hsc hpl
    go_wp2_with fail
    refine (HV.out w1 HG1.out).mono ?_
    rintro e w2 ⟨a2, m2, rfl, hv2, hb2⟩
    have hb3 : Below w1.heap.size w1 (w2.alloc (.cells #[.slice a2 ls.length m2] 24)) := hb2.alloc hb2.size _
    have HB2 := Lib.hid (HB1.out.trans (hb3.mono HB1.out.size))
    have HG2 := Lib.hid (HG1.out.next hb3)
    clear hv2 hb2 hb3
    go_wp2_with fail
    refine (begins_any s _ HS60.out HG2.out).mono ?_
    rintro e w3 ⟨rfl, hb3⟩
    rw [HBe.out]
    go_wp2
    go_ret
    exact ⟨rfl, HB2.out.trans (hb3.mono HB2.out.size)⟩
  · obtain ⟨k, at1, hat, hatl, hbeg, huniq, hnext, hend⟩ := first_law hsc hpl
    rw [hat] at hR
    rw [length_toList] at hatl hend
    have HV := Lib.hid (fun w hG => parse_gives s _ hR 0 rfl h65 w hG)
    have HL := Lib.hid (fun w hG => lex_ok s ts hsc w h65 hG)
    have HS60 := Lib.hid h60
    have HBe := Lib.hid hbeg
    have HUn := Lib.hid huniq
    have HNx := Lib.hid hnext
    have HEn := Lib.hid hend
    have d1 : decide (((at1 : Nat) : Int) < 0) = false := by simp
    have d2 : decide (s.size < at1) = false := by simp; omega
    have hat2 : (at1 : Int) ≤ s.size := by omega
    have hat0 : (0 : Int) ≤ (at1 : Int) := by omega
    have hszx : Hid ((s.extract 0 at1).size ≤ 60000) := Lib.hid (by rw [ByteArray.size_extract]; omega)
    have hlen : Hid (ts.length ≤ 60000) := Lib.hid (by have := (back_source hsc).2.2.1; rw [length_toList] at this; omega)
    clear hbeg huniq hnext hend hsc hpl hR hat h8 h60 h65
    go_enter Tryd.func5, Tryd.ntmps5
    go_wp2_with fail
    refine (sane_any _ HG.out).mono ?_
    rintro e w1 ⟨rfl, hb1⟩
    have HB1 := Lib.hid hb1
    have HG1 := Lib.hid (HG.out.next hb1)
    clear hb1 HG
    go_wp2_with fail
    refine (HV.out w1 HG1.out).mono ?_
    rintro e w2 ⟨a2, m2, rfl, hv2, hb2⟩
    have hb3 : Below w1.heap.size w1 (w2.alloc (.cells #[.slice a2 0 m2] 24)) := hb2.alloc hb2.size _
    have HB2 := Lib.hid (HB1.out.trans (hb3.mono HB1.out.size))
    have HG2 := Lib.hid (HG1.out.next hb3)
    clear hv2 hb2 hb3 HB1 HG1 HV
    go_wp2_with fail
    refine (begins_any (s.extract 0 at1) _ hszx.out HG2.out).mono ?_
    rw [take_ext, HBe.out]
    rintro e w3 ⟨rfl, hb3⟩
    have HB3 := Lib.hid (HB2.out.trans (hb3.mono HB2.out.size))
    have HG3 := Lib.hid (HG2.out.next hb3)
    clear hb3 HB2 HG2
    go_wp2_with fail
    refine (HL.out w3 HG3.out).mono ?_
    rintro e w4 ⟨v, rfl, hv4, hb4⟩
    obtain ⟨va, vcap, rfl⟩ : ∃ a c, v = .slice a ts.length c := by
      obtain ⟨_, _, ⟨rfl, a, c, rfl⟩ | ⟨b, o, c, rfl, _⟩⟩ := hv4
      · exact ⟨a, c, rfl⟩
      · exact ⟨_, c, rfl⟩
    have HB4 := Lib.hid (HB3.out.trans (hb4.mono HB3.out.size))
    have HG4 := Lib.hid (HG3.out.next hb4)
    have HT4 := Lib.hid hv4
    clear hb4 hv4 HB3 HG3 HL
    go_wp2_with fail
    go_loopw [54] (fun iv wr => ∃ j : Nat, iv = .int .i64 j ∧ j ≤ ts.length ∧ Hid (Below w4.heap.size w4 wr) ∧ Hid (∀ i (h : i < ts.length), i < j → ts[i].at_ ≠ (at1 : Int))) (fun iv _ => ts.length - (intOf iv).toNat)
    case atStart => exact ⟨0, rfl, by omega, Lib.hid (Below.refl _ _), Lib.hid (fun i _ h => by omega)⟩
    case round =>
      obtain ⟨j, rfl, hj, HBr, HNo⟩ := hrel
      by_cases hlt2 : j < ts.length
      · have HTr := Lib.hid (HT4.out.below HBr.out)
        obtain ⟨_, _, ⟨hnil, _⟩ | ⟨tb, to, tc, hte, htb, hrow⟩⟩ := HTr.out
        · rw [hnil] at hlt2; simp at hlt2
        obtain ⟨rfl, rfl⟩ : va = some ⟨tb, to, none⟩ ∧ vcap = tc := by simpa using hte
        have HRow := Lib.hid hrow
        obtain ⟨c0, c1, c2, c3⟩ := hrow j hlt2
        have hdj : decide (j < ts.length) = true := by simpa using hlt2
        have hl60 := hlen.out
        clear hrow hte
        by_cases he : ts[j].at_ = (at1 : Int)
        · have hjk := HUn.out j hlt2 he
          obtain ⟨_, nx, hnx, hn1, hn2, hnb⟩ := HNx.out (hjk ▸ hlt2)
          subst hjk
          have hnx1 : (at1 : Int) ≤ (nx : Int) := by omega
          have hnx2 : (nx : Int) ≤ (s.size : Int) := by rw [length_toList] at hn2; omega
          have hnx3 : nx ≤ s.size := by omega
          have hszn : Hid ((s.extract 0 nx).size ≤ 60000) := Lib.hid (by have := HS60.out; rw [ByteArray.size_extract]; omega)
          have HNb := Lib.hid hnb
          rw [he] at c3
          have hwr : wrap64 ((j : Int) + 1) = (j : Int) + 1 := IntWalk.wrap64_in _ (by omega)
          have hb5 : Below wr.heap.size wr (wr.alloc (.cells #[.int .i64 ts[j].kind, .string ts[j].text, .int .i64 ts[j].n, .int .i64 at1] 44)) := (Below.refl _ _).alloc (Nat.le_refl _) _
          have HG5 := Lib.hid ((HG4.out.next HBr.out).next hb5)
          have HB6 := Lib.hid ((HB4.out.trans (HBr.out.mono HB4.out.size)).trans (hb5.mono (Nat.le_trans HB4.out.size HBr.out.size)))
          clear hnb hn1 hn2 HNo HUn HEn hb5
          by_cases hl2 : j + 1 < ts.length
          · rw [dif_pos hl2] at hnx
            obtain ⟨_, _, _, e3⟩ := HRow.out (j + 1) hl2
            rw [← hnx] at e3
            have hj1 : ((j : Int) + 1 < (ts.length : Int)) := by omega
            clear hnx HNx
            go_wp2_with fail
            refine (begins_any (s.extract 0 nx) _ hszn.out HG5.out).mono ?_
            rw [take_ext, HNb.out]
            rintro e w6 ⟨rfl, hb6⟩
            have HB7 := Lib.hid (HB6.out.trans (hb6.mono HB6.out.size))
            clear hb6
            go_wp2
            go_ret
            exact ⟨rfl, HB7.out⟩
          · rw [dif_neg hl2] at hnx
            have hj1 : ¬ ((j : Int) + 1 < (ts.length : Int)) := by omega
            rw [length_toList] at hnx
            obtain rfl : nx = s.size := by omega
            have HNb2 := Lib.hid (show beginsB s.data.toList = false by rw [← HNb.out, List.take_of_length_le (by rw [length_toList]; omega)])
            clear hnx HNx
            go_wp2_with fail
            refine (begins_any s _ HS60.out HG5.out).mono ?_
            rw [HNb2.out]
            rintro e w6 ⟨rfl, hb6⟩
            have HB7 := Lib.hid (HB6.out.trans (hb6.mono HB6.out.size))
            clear hb6
            go_wp2
            go_ret
            exact ⟨rfl, HB7.out⟩
        · have HNo2 := Lib.hid (fun i (h : i < ts.length) (hij : i < j + 1) => (show ts[i].at_ ≠ (at1 : Int) from by
            by_cases e : i = j
            · subst e; exact he
            · exact HNo.out i h (by omega)))
          clear HNo HNx HUn HEn
          have HB5 := Lib.hid (HBr.out.alloc HBr.out.size (.cells #[.int .i64 ts[j].kind, .string ts[j].text, .int .i64 ts[j].n, .int .i64 ts[j].at_] 44))
          go_wp2
          exact ⟨⟨j + 1, by go_num, by omega, HB5, HNo2⟩, by simp [intOf]; omega⟩
      · have hdj : decide (j < ts.length) = false := by simpa using hlt2
        have hjl : j = ts.length := by omega
        have heq : (at1 : Int) = (s.size : Int) := by
          have hnk : ¬ k < ts.length := fun hk => HNo.out k hk (by omega) (HNx.out hk).1
          have := HEn.out hnk
          omega
        have heq2 : at1 = s.size := by omega
        have HB5 := Lib.hid (HB4.out.trans (HBr.out.mono HB4.out.size))
        go_wp2
        go_ret
        exact ⟨rfl, HB5.out⟩

end Go.Proofs.YtlaifodlnolndaaDoor

/-
  PROVED HERE: the tied card of 'acequia/acequialaw31.GatecodeFirst': for every input, in every start that meets the row's condition on the listed package variables, the law returns true and each argument reads as it did. Its conditions are the given statement's own (Rows.GatecodeFirstCardSaid), none more.
-/
namespace Go.Proofs.YtlaifodlnolndaaDoor
open Go.ChangeShapes Go.WideShapes Go.ChangeAt Go.WideMaps Go.WideElems Go.RowKit Go.ChangeMaps

set_option maxRecDepth 100000 in
theorem gatecodeFirst_lifted (os : Os) (started : os.Started) (H : Type) (enc : TypeId × Value → H) :
    ReturnsInHanded {} Tryd.checked os 5 .any (fun w args => (Rows.gatecodeFirstSpec.pre enc Tryd.prog Tryd.f5 [] false w args ∧ laidMetH Tryd.prog laidAll w) ∧ sizedMet enc Tryd.prog Tryd.f5 (OpenSpec.ofChange Rows.gatecodeFirstSpec) false w args)
      (Rows.gatecodeFirstSpec.post enc Tryd.prog Tryd.f5 false true false false) := by
  refine returnsInHanded_of_change_and (C := Tryd.checked) (X := fun w _ => laidMetH Tryd.prog laidAll w) (fun _ _ _ hh h => h.of_heap hh) own started (by kernel_rfl) Tryd.func5
    (ChangeSpec.witness_shaped (enc := enc) (C := Tryd.checked) (os := os) (X := fun w _ => laidMetH Tryd.prog laidAll w) false (World.doorLaid Tryd.prog 400 os) #[.string ByteArray.empty] 8 rfl (World.shaped_of_RefB (by kernel_rfl) (by kernel_rfl)) (by kernel_rfl) (by kernel_rfl) (by kernel_rfl) (door_met os _)) ?_
  intro W base args ds gs before hval0 hW _ hsz0 hL _
  have hsz : (DataW.weightsEach Tryd.prog (Tryd.f5.params.toList ++ Rows.gatecodeFirstSpec.plain.varTypes Tryd.prog) (ds ++ gs)).all (· ≤ reachBytes) = true := hsz0
  have hval : ∀ (j : Nat) t v, Tryd.f5.params[j]? = some t → args[j]? = some v → Value.okWide Tryd.prog W .any base t v := hval0
  have hW' := hW
  obtain ⟨p, q, hA0, hV, rfl, hfz, hnd⟩ := hW
  have hA : DataW.TrodAll enc Tryd.prog W 0 (fun _ => true) true Tryd.f5.params.toList args.toList ds p := hA0
  rw [Tryd.params5] at hA hval hsz
  obtain ⟨v0, d0, rfl, rfl, h0⟩ := trodAll_one hA
  obtain ⟨rfl, rfl⟩ := trodVars_none hV
  obtain ⟨s0, rfl, rfl, rfl, hs0⟩ := open_string Tryd.underlying9 (hval 0 9 v0 rfl rfl) h0
  have hz0 : s0.size ≤ 140737488355328 := by
    have h1 : s0.data.toList.length ≤ reachBytes := sized_string hsz (j := 0) (t := 9) rfl rfl
    have h2 : s0.data.toList.length = s0.size := by simp
    have h3 : reachBytes < 2 ^ 47 := reachBytes_lt
    omega
  clear hA0 hval0 hsz0
  refine (first_any s0 W hz0 (globals_of_laid hL)).mono fun e W' ⟨he, hb⟩ => ?_
  subst he
  exact ⟨_, rfl, _, _, _, [], _, [], hW', trodAll_mk1 (shut_bool Tryd.underlying4 true), trodAll_mk1 (shut_string Tryd.underlying9 hs0), rfl, hb.frame _, fun h => by cases h⟩

theorem gatecodeFirst_holds : Rows.GatecodeFirstSaid :=
  OpenClaim.holds_of_wide 5 Tryd.f5 rfl rfl rfl rfl rfl rfl rfl ⟨rfl, rfl, rfl, rfl, rfl⟩ rfl rfl rfl rfl rfl (by kernel_rfl) Tryd.func5 (by kernel_rfl)
    (of_decide_eq_true (by kernel_rfl)) (by unfold Func.isWrapper; rw [if_neg (of_decide_eq_false (by kernel_rfl))]; exact ⟨rfl, rfl⟩)
    (fun os started H enc _ => gatecodeFirst_lifted os started H enc)

/-- The tied card. -/
theorem gatecodeFirstCard_holds : Rows.GatecodeFirstCardSaid :=
  Claim7.holds_tied_plain_at .later [] [.data, .data, .data, .sentinel, .sentinel] true (true, "e65092b6c8e12897320936d0b59b09d858db66b2193a5810b3c0cafb90844fc6") true
    gatecodeFirst_holds (fun _ h => by cases h) (by kernel_rfl) (fun _ h => by cases h) gatecodeFirst_row_tie rfl ⟨rfl, rfl⟩ (by kernel_rfl) rfl
    (fun f fn hf hfn => by
      obtain rfl : f = 5 := Option.some.inj ((show Tryd.prog.funcNamed "acequia/acequialaw31.GatecodeFirst" = some 5 by kernel_rfl).symm.trans hf) |>.symm
      obtain rfl : fn = Tryd.f5 := (Option.some.inj (Tryd.func5.symm.trans hfn)).symm
      exact ⟨by kernel_rfl, fun j t ht => by
        rw [Tryd.params5] at ht
        have hm : t ∈ [9] := by simpa using Array.mem_of_getElem? ht
        have hall : ([9].all fun u => !Tryd.prog.wantsStandIn u) = true := by kernel_rfl
        exact (show Tryd.prog.wantsStandIn t = false by simpa using List.all_eq_true.1 hall t hm)⟩)
    (by kernel_rfl)

end Go.Proofs.YtlaifodlnolndaaDoor

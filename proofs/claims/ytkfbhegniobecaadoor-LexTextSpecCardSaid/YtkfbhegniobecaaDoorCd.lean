/- PROVED HERE: the walk of 'acequialaw03.LexTextSpec': for every input of a size that a machine can hold the law returns true, where the listed variables hold what the row's condition says. -/
import Derived.Test.YtkfbhegniobecaaDoorCc
namespace Go.Proofs.YtkfbhegniobecaaDoor
open Go.RowKit

theorem refname_at (s : ByteArray) (b : Bool) (h : nameB s.data.toList = b) (w : World) (hs : s.size ≤ 1000000) : Calls Tryd.prog 21 #[.string s] w fun e w' => e = .returned (.bool b) ∧ w = w' := by
  rw [← h]; exact refname_any s w (by unfold maxLen; omega)

set_option maxRecDepth 100000 in
set_option maxHeartbeats 8000000 in
theorem lexTextSpec_any (v : Value) (ts : List Tok) (u : Value) (us : List Tok) (s : ByteArray) (w : World) (hv0 : IsToks w v ts) (hu0 : IsToks w u us) (_hs : s.size ≤ 140737488355328) (hts : ∀ t ∈ ts, t.text.size ≤ 140737488355328) (hus : ∀ t ∈ us, t.text.size ≤ 140737488355328) (hG : Globals w) :
    Calls Tryd.prog 4 #[v, u, .string s] w fun e w' => e = .returned (.bool true) ∧ Below w.heap.size w w' := by
  have Hs := Lib.hid (sane_any w hG)
  have H0 := Lib.hid (Amid.start hG [(v, ts), (u, us)] (fun x hx => by
    simp only [List.mem_cons, List.not_mem_nil, or_false] at hx
    rcases hx with rfl | rfl
    · exact hv0
    · exact hu0))
  clear hG hv0 hu0
  cases hf : fewB ts with
  | false =>
    have Hf := Lib.hid (fun W h => few_is (v := v) hf hts W h)
    clear hf hts hus
    go_enter Tryd.func4, Tryd.ntmps4
    go_wp2_with fail
    refine Hs.out.mono ?_
    rintro e w1 ⟨rfl, hb⟩
    have H1 := Lib.hid (H0.out.next hb)
    clear hb
    go_wp2_with fail
    refine (Hf.out _ (H1.out.1.2 (v, ts) (by simp))).mono ?_
    rintro e w2 ⟨rfl, rfl⟩
    go_wp2_with fail
    go_ret
    exact ⟨rfl, H1.out.2⟩
  | true =>
    have Hf := Lib.hid (fun W h => few_is (v := v) hf hts W h)
    have hlen := few_len hf
    clear hf hts
    cases hf2 : fewB us with
    | false =>
      have Hf2 := Lib.hid (fun W h => few_is (v := u) hf2 hus W h)
      clear hf2 hus hlen
      go_enter Tryd.func4, Tryd.ntmps4
      go_wp2_with fail
      refine Hs.out.mono ?_
      rintro e w1 ⟨rfl, hb⟩
      have H1 := Lib.hid (H0.out.next hb)
      clear hb
      go_wp2_with fail
      refine (Hf.out _ (H1.out.1.2 (v, ts) (by simp))).mono ?_
      rintro e w2 ⟨rfl, rfl⟩
      go_wp2_with fail
      refine (Hf2.out _ (H1.out.1.2 (u, us) (by simp))).mono ?_
      rintro e w2 ⟨rfl, rfl⟩
      go_wp2_with fail
      go_ret
      exact ⟨rfl, H1.out.2⟩
    | true =>
      have Hf2 := Lib.hid (fun W h => few_is (v := u) hf2 hus W h)
      clear hf2 hus
      by_cases h1 : (s.size : Int) > 1000
      · clear hlen
        go_enter Tryd.func4, Tryd.ntmps4
        go_wp2_with fail
        refine Hs.out.mono ?_
        rintro e w1 ⟨rfl, hb⟩
        have H1 := Lib.hid (H0.out.next hb)
        clear hb
        go_wp2_with fail
        refine (Hf.out _ (H1.out.1.2 (v, ts) (by simp))).mono ?_
        rintro e w2 ⟨rfl, rfl⟩
        go_wp2_with fail
        refine (Hf2.out _ (H1.out.1.2 (u, us) (by simp))).mono ?_
        rintro e w2 ⟨rfl, rfl⟩
        go_wp2_with fail
        go_ret
        exact ⟨rfl, H1.out.2⟩
      · have h1' : s.size ≤ 1000 := by omega
        obtain ⟨b2, hb2⟩ : ∃ b, sameB ts us = b := ⟨_, rfl⟩
        obtain ⟨b3, hb3⟩ : ∃ b, nameB s.data.toList = b := ⟨_, rfl⟩
        have Ha := Lib.hid (fun W h1 h2 => same_is hb2 v u W h1 h2)
        have Hb := Lib.hid (fun W h1 h2 => refsame_is hb2 v u W h1 h2)
        have Hc := Lib.hid (fun W h1 h2 => same_is (sameB_refl ts) v v W h1 h2)
        have Hd := Lib.hid (fun W => name_is s b3 hb3 W (by omega))
        have He := Lib.hid (fun W => refname_at s b3 hb3 W (by omega))
        have hq2 : (b2 == b2) = true := by simp
        have hq3 : (b3 == b3) = true := by simp
        clear hb2 hb3
        cases hva : ts.all validB with
        | false =>
          have Ht := Lib.hid (fun W hg h => text_err v ts W h (by omega) hg hva)
          have Hr := Lib.hid (fun W h => reftext_err v ts W h (by omega) hva)
          have hss := str_beq ⟨#[]⟩
          clear hva hlen h1'
          go_enter Tryd.func4, Tryd.ntmps4
          go_wp2_with fail
          refine Hs.out.mono ?_
          rintro e w1 ⟨rfl, hb⟩
          have H1 := Lib.hid (H0.out.next hb)
          clear hb
          go_wp2_with fail
          refine (Hf.out _ (H1.out.1.2 (v, ts) (by simp))).mono ?_
          rintro e w2 ⟨rfl, rfl⟩
          go_wp2_with fail
          refine (Hf2.out _ (H1.out.1.2 (u, us) (by simp))).mono ?_
          rintro e w2 ⟨rfl, rfl⟩
          go_wp2_with fail
          refine (Ht.out _ H1.out.g (H1.out.1.2 (v, ts) (by simp))).mono ?_
          rintro e w2 ⟨rfl, hb⟩
          have H2 := Lib.hid (H1.out.next hb)
          clear hb
          go_wp2_with fail
          refine (Hr.out _ (H2.out.1.2 (v, ts) (by simp))).mono ?_
          rintro e w3 ⟨rfl, hb⟩
          have H3 := Lib.hid (H2.out.next hb)
          clear hb
          go_wp2_with fail
          refine (Ha.out _ (H3.out.1.2 (v, ts) (by simp)) (H3.out.1.2 (u, us) (by simp))).mono ?_
          rintro e w4 ⟨rfl, hb⟩
          have H4 := Lib.hid (H3.out.next hb)
          clear hb
          go_wp2_with fail
          refine (Hb.out _ (H4.out.1.2 (v, ts) (by simp)) (H4.out.1.2 (u, us) (by simp))).mono ?_
          rintro e w5 ⟨rfl, hb⟩
          have H5 := Lib.hid (H4.out.next hb)
          clear hb
          go_wp2_with fail
          refine (Hc.out _ (H5.out.1.2 (v, ts) (by simp)) (H5.out.1.2 (v, ts) (by simp))).mono ?_
          rintro e w6 ⟨rfl, hb⟩
          have H6 := Lib.hid (H5.out.next hb)
          clear hb
          go_wp2_with fail
          refine (Hd.out _).mono ?_
          rintro e w7 ⟨rfl, rfl⟩
          go_wp2_with fail
          refine (He.out _).mono ?_
          rintro e w7 ⟨rfl, rfl⟩
          go_wp2_with fail
          go_ret
          exact ⟨rfl, H6.out.2⟩
        | true =>
          have Ht := Lib.hid (fun W hg h => text_ok v ts W h (by omega) hg hva)
          have Hr := Lib.hid (fun W h => reftext_ok v ts W h (by omega) hva)
          have hss := str_beq (mk (joinW ts))
          clear hva hlen h1'
          generalize mk (joinW ts) = x at Ht Hr hss
          go_enter Tryd.func4, Tryd.ntmps4
          go_wp2_with fail
          refine Hs.out.mono ?_
          rintro e w1 ⟨rfl, hb⟩
          have H1 := Lib.hid (H0.out.next hb)
          clear hb
          go_wp2_with fail
          refine (Hf.out _ (H1.out.1.2 (v, ts) (by simp))).mono ?_
          rintro e w2 ⟨rfl, rfl⟩
          go_wp2_with fail
          refine (Hf2.out _ (H1.out.1.2 (u, us) (by simp))).mono ?_
          rintro e w2 ⟨rfl, rfl⟩
          go_wp2_with fail
          refine (Ht.out _ H1.out.g (H1.out.1.2 (v, ts) (by simp))).mono ?_
          rintro e w2 ⟨rfl, hb⟩
          have H2 := Lib.hid (H1.out.next hb)
          clear hb
          go_wp2_with fail
          refine (Hr.out _ (H2.out.1.2 (v, ts) (by simp))).mono ?_
          rintro e w3 ⟨rfl, hb⟩
          have H3 := Lib.hid (H2.out.next hb)
          clear hb
          go_wp2_with fail
          refine (Ha.out _ (H3.out.1.2 (v, ts) (by simp)) (H3.out.1.2 (u, us) (by simp))).mono ?_
          rintro e w4 ⟨rfl, hb⟩
          have H4 := Lib.hid (H3.out.next hb)
          clear hb
          go_wp2_with fail
          refine (Hb.out _ (H4.out.1.2 (v, ts) (by simp)) (H4.out.1.2 (u, us) (by simp))).mono ?_
          rintro e w5 ⟨rfl, hb⟩
          have H5 := Lib.hid (H4.out.next hb)
          clear hb
          go_wp2_with fail
          refine (Hc.out _ (H5.out.1.2 (v, ts) (by simp)) (H5.out.1.2 (v, ts) (by simp))).mono ?_
          rintro e w6 ⟨rfl, hb⟩
          have H6 := Lib.hid (H5.out.next hb)
          clear hb
          go_wp2_with fail
          refine (Hd.out _).mono ?_
          rintro e w7 ⟨rfl, rfl⟩
          go_wp2_with fail
          refine (He.out _).mono ?_
          rintro e w7 ⟨rfl, rfl⟩
          go_wp2_with fail
          go_ret
          exact ⟨rfl, H6.out.2⟩

end Go.Proofs.YtkfbhegniobecaaDoor

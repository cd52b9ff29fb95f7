/- PROVED HERE: the walk of 'acequialaw03.LexNames': for every string of a size that a machine can hold the law returns true, where the listed variables hold what the row's condition says. -/
import Derived.Test.YtkfbhegniobecaaDoorCa
namespace Go.Proofs.YtkfbhegniobecaaDoor
open Go.RowKit

theorem IsToks.four {w : World} {b o c : Nat} {t : Tok} (h : IsToks w (.slice (some ⟨b, o, none⟩) 1 c) [t]) :
    w.cell? ⟨b, o, none⟩ = some (.int .i64 t.kind) ∧ w.cell? ⟨b, o + 1, none⟩ = some (.string t.text) ∧ w.cell? ⟨b, o + 2, none⟩ = some (.int .i64 t.n) ∧ w.cell? ⟨b, o + 3, none⟩ = some (.int .i64 t.at_) := by
  obtain ⟨_, _, ⟨h, _⟩ | ⟨b', o', c', he, _, hr⟩⟩ := h
  · simp at h
  · have hh := hr 0 (by simp)
    simp only [Value.slice.injEq, Option.some.injEq, Addr.mk.injEq] at he
    obtain ⟨⟨rfl, rfl, _⟩, _, rfl⟩ := he
    simpa using hh
theorem str_beq (a : ByteArray) : (a.toList == a.toList) = true := by simp
theorem one_name (w : World) (s : ByteArray) (hs : s.size ≤ 1000) : IsToks (w.alloc (.cells #[.int .i64 1, .string s, .int .i64 0, .int .i64 0] 35)) (.slice (some ⟨w.heap.size, 0, none⟩) 1 1) [⟨1, s, 0, 0⟩] :=
  isToks_new w [⟨1, s, 0, 0⟩] (by simp) (by simp) (by intro t ht; simp at ht; subst ht; show s.size ≤ maxLen; unfold maxLen; omega) _ rfl
theorem valid_one (s : ByteArray) : [(⟨1, s, 0, 0⟩ : Tok)].all validB = nameB s.data.toList := by
  rw [List.all_cons, List.all_nil, Bool.and_true, valid_name (by rfl)]; simp

set_option maxRecDepth 100000 in
set_option maxHeartbeats 8000000 in
theorem lexNames_any (s : ByteArray) (w : World) (hs : s.size ≤ 140737488355328) (hG : Globals w) :
    Calls Tryd.prog 10 #[.string s] w fun e w' => e = .returned (.bool true) ∧ Below w.heap.size w w' := by
  have Hs := Lib.hid (sane_any w hG)
  have H0 := Lib.hid (Amid.start hG [] (fun x hx => by simp at hx))
  clear hG
  by_cases h1 : (s.size : Int) > 1000
  · go_enter Tryd.func10, Tryd.ntmps10
    go_wp2_with fail
    refine Hs.out.mono ?_
    rintro e w1 ⟨rfl, hb⟩
    have HB := Lib.hid hb
    clear hb
    go_wp2_with fail
    go_ret
    exact ⟨rfl, HB.out⟩
  · have h1' : s.size ≤ 1000 := by omega
    have h65 : s.size ≤ 65536 := by omega
    have H1n := Lib.hid (fun W => one_name W s h1')
    cases hn : nameB s.data.toList with
    | true =>
      have hr := name_scan hn
      have hmk : mk s.data.toList = s := (mk_eq rfl).symm
      rw [hmk] at hr
      have Hl := Lib.hid (fun W hg => lex_ok s _ hr W h65 hg)
      have Hn := Lib.hid (fun W => name_is s true hn W (by omega))
      have Ht := Lib.hid (fun W hg v hv => text_ok v [⟨1, s, 0, 0⟩] W hv (by simp) hg (by rw [valid_one]; exact hn))
      clear hr hn hmk
      have hss := str_beq s
      go_enter Tryd.func10, Tryd.ntmps10
      go_wp2_with fail
      refine Hs.out.mono ?_
      rintro e w1 ⟨rfl, hb⟩
      have H1 := Lib.hid (H0.out.next hb)
      clear hb
      go_wp2_with fail
      refine (Hl.out _ H1.out.g).mono ?_
      rintro e w2 ⟨v2, rfl, hv, hb⟩
      have H2 := Lib.hid (H1.out.next hb)
      obtain ⟨b, o, c, rfl⟩ := hv.one
      obtain ⟨c0, c1, c2, c3⟩ := hv.four
      dsimp only at c0 c1 c2 c3
      clear hb hv
      go_wp2_with fail
      have H3 := Lib.hid (H2.out.next ((Below.refl _ w2).alloc (Nat.le_refl _) (.cells #[.int .i64 1, .string s, .int .i64 0, .int .i64 0] 35)))
      refine (Ht.out _ H3.out.g _ (H1n.out _)).mono ?_
      rintro e w4 ⟨rfl, hb⟩
      have H4 := Lib.hid (H3.out.next hb)
      clear hb
      go_wp2_with fail
      refine (Hn.out _).mono ?_
      rintro e w5 ⟨rfl, rfl⟩
      go_wp2_with fail
      go_ret
      exact ⟨rfl, H4.out.2⟩
    | false =>
      have Hn := Lib.hid (fun W => name_is s false hn W (by omega))
      have Ht := Lib.hid (fun W hg v hv => text_err v [⟨1, s, 0, 0⟩] W hv (by simp) hg (by rw [valid_one]; exact hn))
      cases hr : scan s.data.toList 0 with
      | error k =>
        have Hl := Lib.hid (fun W hg => lex_err s k hr W h65 hg)
        clear hr hn
        go_enter Tryd.func10, Tryd.ntmps10
        go_wp2_with fail
        refine Hs.out.mono ?_
        rintro e w1 ⟨rfl, hb⟩
        have H1 := Lib.hid (H0.out.next hb)
        clear hb
        go_wp2_with fail
        refine (Hl.out _ H1.out.g).mono ?_
        rintro e w2 ⟨rfl, hb⟩
        have H2 := Lib.hid (H1.out.next hb)
        clear hb
        go_wp2_with fail
        have H3 := Lib.hid (H2.out.next ((Below.refl _ w2).alloc (Nat.le_refl _) (.cells #[.int .i64 1, .string s, .int .i64 0, .int .i64 0] 35)))
        refine (Ht.out _ H3.out.g _ (H1n.out _)).mono ?_
        rintro e w4 ⟨rfl, hb⟩
        have H4 := Lib.hid (H3.out.next hb)
        clear hb
        go_wp2_with fail
        refine (Hn.out _).mono ?_
        rintro e w5 ⟨rfl, rfl⟩
        go_wp2_with fail
        go_ret
        exact ⟨rfl, H4.out.2⟩
      | ok ts =>
        have Hl := Lib.hid (fun W hg => lex_ok s ts hr W h65 hg)
        by_cases hlen : ts.length = 1
        · obtain ⟨t, rfl⟩ := List.length_eq_one_iff.1 hlen
          have hno := scan_name_not hn hr t rfl
          clear hr hn hlen
          by_cases hk : t.kind = 1
          · have htx : (t.text.toList == s.toList) = false := text_ne (fun e => hno ⟨hk, by rw [e]⟩)
            clear hno
            go_enter Tryd.func10, Tryd.ntmps10
            go_wp2_with fail
            refine Hs.out.mono ?_
            rintro e w1 ⟨rfl, hb⟩
            have H1 := Lib.hid (H0.out.next hb)
            clear hb
            go_wp2_with fail
            refine (Hl.out _ H1.out.g).mono ?_
            rintro e w2 ⟨v2, rfl, hv, hb⟩
            have H2 := Lib.hid (H1.out.next hb)
            obtain ⟨b, o, c, rfl⟩ := hv.one
            obtain ⟨c0, c1, c2, c3⟩ := hv.four
            rw [hk] at c0
            clear hb hv
            go_wp2_with fail
            have H3 := Lib.hid (H2.out.next ((Below.refl _ w2).alloc (Nat.le_refl _) (.cells #[.int .i64 1, .string s, .int .i64 0, .int .i64 0] 35)))
            refine (Ht.out _ H3.out.g _ (H1n.out _)).mono ?_
            rintro e w4 ⟨rfl, hb⟩
            have H4 := Lib.hid (H3.out.next hb)
            clear hb
            go_wp2_with fail
            refine (Hn.out _).mono ?_
            rintro e w5 ⟨rfl, rfl⟩
            go_wp2_with fail
            go_ret
            exact ⟨rfl, H4.out.2⟩
          · have hk' : (t.kind == 1) = false := by simpa using hk
            clear hno hk
            go_enter Tryd.func10, Tryd.ntmps10
            go_wp2_with fail
            refine Hs.out.mono ?_
            rintro e w1 ⟨rfl, hb⟩
            have H1 := Lib.hid (H0.out.next hb)
            clear hb
            go_wp2_with fail
            refine (Hl.out _ H1.out.g).mono ?_
            rintro e w2 ⟨v2, rfl, hv, hb⟩
            have H2 := Lib.hid (H1.out.next hb)
            obtain ⟨b, o, c, rfl⟩ := hv.one
            obtain ⟨c0, c1, c2, c3⟩ := hv.four
            clear hb hv
            go_wp2_with fail
            have H3 := Lib.hid (H2.out.next ((Below.refl _ w2).alloc (Nat.le_refl _) (.cells #[.int .i64 1, .string s, .int .i64 0, .int .i64 0] 35)))
            refine (Ht.out _ H3.out.g _ (H1n.out _)).mono ?_
            rintro e w4 ⟨rfl, hb⟩
            have H4 := Lib.hid (H3.out.next hb)
            clear hb
            go_wp2_with fail
            refine (Hn.out _).mono ?_
            rintro e w5 ⟨rfl, rfl⟩
            go_wp2_with fail
            go_ret
            exact ⟨rfl, H4.out.2⟩
        · have hl1 : ((ts.length : Int) == 1) = false := by simp; omega
          clear hr hn hlen
          generalize hN : ts.length = N at hl1
          have HN := Lib.hid hN
          clear hN
          go_enter Tryd.func10, Tryd.ntmps10
          go_wp2_with fail
          refine Hs.out.mono ?_
          rintro e w1 ⟨rfl, hb⟩
          have H1 := Lib.hid (H0.out.next hb)
          clear hb
          go_wp2_with fail
          refine (Hl.out _ H1.out.g).mono ?_
          rintro e w2 ⟨v2, rfl, hv, hb⟩
          have H2 := Lib.hid (H1.out.next hb)
          obtain ⟨a, c, rfl⟩ := hv.size
          rw [HN.out]
          clear hb hv
          go_wp2_with fail
          have H3 := Lib.hid (H2.out.next ((Below.refl _ w2).alloc (Nat.le_refl _) (.cells #[.int .i64 1, .string s, .int .i64 0, .int .i64 0] 35)))
          refine (Ht.out _ H3.out.g _ (H1n.out _)).mono ?_
          rintro e w4 ⟨rfl, hb⟩
          have H4 := Lib.hid (H3.out.next hb)
          clear hb
          go_wp2_with fail
          refine (Hn.out _).mono ?_
          rintro e w5 ⟨rfl, rfl⟩
          go_wp2_with fail
          go_ret
          exact ⟨rfl, H4.out.2⟩

end Go.Proofs.YtkfbhegniobecaaDoor

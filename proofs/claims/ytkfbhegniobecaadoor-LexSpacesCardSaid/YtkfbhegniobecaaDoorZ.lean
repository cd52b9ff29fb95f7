/- The statements' walks: LexSpec. -/
import Derived.Test.YtkfbhegniobecaaDoorY
namespace Go.Proofs.YtkfbhegniobecaaDoor
open Go.RowKit

theorem equalB_refl : ∀ l : List Tok, equalB l l = true := by
  intro l
  unfold equalB
  have h1 : sameB l l = true := by
    induction l with
    | nil => rfl
    | cons t r ih => rw [sameB, ih]; simp [sameT]
  have h2 : atsB l l = true := by
    induction l with
    | nil => rfl
    | cons t r ih => rw [atsB, ih (by rw [sameB] at h1; simp at h1; exact h1.2)]; simp
  rw [h1, h2]; rfl

theorem reflex_ok (s : ByteArray) (ts : List Tok) (h : scan s.data.toList 0 = .ok ts) (w : World) (hs : s.size ≤ 65536) :
    Calls Tryd.prog 13 #[.string s] w fun e w' => ∃ v, e = .returned (.tuple #[v, .int .i64 0, .int .i64 0]) ∧ IsToks w' v ts ∧ Below w.heap.size w w' := by
  refine (reflex_any s w hs).mono fun e w' hh => ?_
  obtain ⟨hb, hr⟩ := hh
  rw [h] at hr
  obtain ⟨v, he, hv⟩ := hr
  exact ⟨v, he, hv, hb⟩
theorem reflex_err (s : ByteArray) (k : Nat) (h : scan s.data.toList 0 = .error k) (w : World) (hs : s.size ≤ 65536) :
    Calls Tryd.prog 13 #[.string s] w fun e w' => e = .returned (.tuple #[.slice none 0 0, .int .i64 k, .int .i64 30]) ∧ Below w.heap.size w w' := by
  refine (reflex_any s w hs).mono fun e w' hh => ?_
  obtain ⟨hb, hr⟩ := hh
  rw [h] at hr
  exact ⟨hr, hb⟩
theorem isToks_nil (w : World) : IsToks w (.slice none 0 0) [] := ⟨by simp, by simp, .inl ⟨rfl, _, _, rfl⟩⟩

set_option maxRecDepth 100000 in
set_option maxHeartbeats 8000000 in
theorem lexSpec_any (s : ByteArray) (w : World) (hs : s.size ≤ 140737488355328) (hG : Globals w) :
    Calls Tryd.prog 3 #[.string s] w fun e w' => e = .returned (.bool true) ∧ Below w.heap.size w w' := by
  have Hs := Lib.hid (sane_any w hG)
  have HG := Lib.hid hG
  clear hG
  by_cases h7 : s.size ≤ 70000
  · by_cases h6 : s.size ≤ 65536
    · cases hr : scan s.data.toList 0 with
      | ok ts =>
        have Hl := Lib.hid (fun W hg => lex_ok s ts hr W h6 hg)
        have Hf := Lib.hid (fun W => reflex_ok s ts hr W h6)
        clear hr
        go_enter Tryd.func3, Tryd.ntmps3
        go_wp2_with fail
        refine Hs.out.mono ?_
        rintro e w1 ⟨rfl, hb1⟩
        have H1 := Lib.hid (show Has w1 [] from ⟨HG.out.next hb1, fun x hx => by simp at hx⟩)
        have HB1 := Lib.hid hb1
        clear hb1
        go_wp2_with fail
        refine (Hl.out _ H1.out.1).mono ?_
        rintro e w2 ⟨v2, rfl, hv, hb⟩
        have H2 := Lib.hid ((H1.out.next hb).add hv)
        have HB2 := Lib.hid (HB1.out.trans (hb.mono HB1.out.size))
        clear hv hb
        go_wp2_with fail
        refine (Hf.out _).mono ?_
        rintro e w3 ⟨v3, rfl, hv, hb⟩
        have H3 := Lib.hid ((H2.out.next hb).add hv)
        have HB3 := Lib.hid (HB2.out.trans (hb.mono HB2.out.size))
        clear hv hb
        go_wp2_with fail
        refine (equal_any v2 v3 ts ts w3 (H3.out.2 (v2, ts) (by simp)) (H3.out.2 (v3, ts) (by simp))).mono ?_
        rw [equalB_refl]
        rintro e w4 ⟨rfl, q, rfl⟩
        go_wp2_with fail
        go_ret
        exact ⟨rfl, below_drewN HB3.out q⟩
      | error k =>
        have Hl := Lib.hid (fun W hg => lex_err s k hr W h6 hg)
        have Hf := Lib.hid (fun W => reflex_err s k hr W h6)
        clear hr
        go_enter Tryd.func3, Tryd.ntmps3
        go_wp2_with fail
        refine Hs.out.mono ?_
        rintro e w1 ⟨rfl, hb1⟩
        have H1 := Lib.hid (show Has w1 [] from ⟨HG.out.next hb1, fun x hx => by simp at hx⟩)
        have HB1 := Lib.hid hb1
        clear hb1
        go_wp2_with fail
        refine (Hl.out _ H1.out.1).mono ?_
        rintro e w2 ⟨rfl, hb⟩
        have HB2 := Lib.hid (HB1.out.trans (hb.mono HB1.out.size))
        clear hb
        go_wp2_with fail
        refine (Hf.out _).mono ?_
        rintro e w3 ⟨rfl, hb⟩
        have HB3 := Lib.hid (HB2.out.trans (hb.mono HB2.out.size))
        clear hb
        go_wp2_with fail
        refine (equal_any _ _ [] [] w3 (isToks_nil _) (isToks_nil _)).mono ?_
        rw [equalB_refl]
        rintro e w4 ⟨rfl, q, rfl⟩
        go_wp2_with fail
        go_ret
        exact ⟨rfl, below_drewN HB3.out q⟩
    · have h6' : 65536 < s.size := by omega
      have Hl := Lib.hid (fun W => lex_big s W h6')
      have Hf := Lib.hid (fun W => reflex_big s W h6')
      go_enter Tryd.func3, Tryd.ntmps3
      go_wp2_with fail
      refine Hs.out.mono ?_
      rintro e w1 ⟨rfl, hb1⟩
      have HB1 := Lib.hid hb1
      clear hb1
      go_wp2_with fail
      refine (Hl.out _).mono ?_
      rintro e w2 ⟨rfl, hb⟩
      have HB2 := Lib.hid (HB1.out.trans (hb.mono HB1.out.size))
      clear hb
      go_wp2_with fail
      refine (Hf.out _).mono ?_
      rintro e w3 ⟨rfl, rfl⟩
      go_wp2_with fail
      refine (equal_any _ _ [] [] w2 (isToks_nil _) (isToks_nil _)).mono ?_
      rw [equalB_refl]
      rintro e w4 ⟨rfl, q, rfl⟩
      go_wp2_with fail
      go_ret
      exact ⟨rfl, below_drewN HB2.out q⟩
  · have h7' : 70000 < s.size := by omega
    go_enter Tryd.func3, Tryd.ntmps3
    go_wp2_with fail
    refine Hs.out.mono ?_
    rintro e w1 ⟨rfl, hb1⟩
    have HB1 := Lib.hid hb1
    clear hb1
    go_wp2_with fail
    go_ret
    exact ⟨rfl, HB1.out⟩

end Go.Proofs.YtkfbhegniobecaaDoor

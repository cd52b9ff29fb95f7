/- PROVED HERE: the walk of 'acequialaw03.LexJoined': for all strings of a size that a machine can hold the law returns true, where the listed variables hold what the row's condition says. -/
import Derived.Test.YtkfbhegniobecaaDoorCf
namespace Go.Proofs.YtkfbhegniobecaaDoor
open Go.RowKit

theorem places_le : ∀ {ts : List Tok} {l : List UInt8} {i : Nat}, Places l i ts → ∀ t ∈ ts, ∃ n : Nat, t.at_ = n ∧ n ≤ i + l.length
  | [], _, _, _, t, ht => by simp at ht
  | x :: ts, l, i, h, t, ht => by
    obtain ⟨g, rest, rfl, _, ha, _, _, _, hr⟩ := h
    rcases List.mem_cons.1 ht with rfl | ht
    · exact ⟨_, ha, by simp only [List.length_append]; omega⟩
    · obtain ⟨n, h1, h2⟩ := places_le hr t ht
      exact ⟨n, h1, by simp only [List.length_append]; omega⟩

set_option maxRecDepth 100000 in
set_option maxHeartbeats 8000000 in
theorem joined_bad (a b : ByteArray) (w : World) (hsz : a.size + b.size ≤ 3000) (k : Nat) (hr : scan a.data.toList 0 = .error k) (hG : Globals w) :
    Calls Tryd.prog 7 #[.string a, .string b] w fun e w' => e = .returned (.bool true) ∧ Below w.heap.size w w' := by
  have Hs := Lib.hid (sane_any w hG)
  have H0 := Lib.hid (Amid.start hG [] (fun x hx => by simp at hx))
  clear hG
  have Ha := Lib.hid (fun W hg => lex_err a k hr W (by omega) hg)
  have Hj := Lib.hid (fun W hg => lex_err (a ++ ⟨#[10]⟩ ++ b) k (by rw [data_app, data_app, List.append_assoc]; exact joined_err hr) W (by simp [ByteArray.size_append, show (ByteArray.mk #[10]).size = 1 from rfl]; omega) hg)
  have hkk : ((k : Int) == (k : Int)) = true := by simp
  clear hr
  have hn : ¬ ((a.size : Int) + b.size > 3000) := by omega
  cases hr2 : scan b.data.toList 0 with
  | error k2 =>
    have Hb := Lib.hid (fun W hg => lex_err b k2 hr2 W (by omega) hg)
    clear hr2
    go_enter Tryd.func7, Tryd.ntmps7
    go_wp2_with fail
    refine Hs.out.mono ?_
    rintro e w1 ⟨rfl, hb⟩
    have H1 := Lib.hid (H0.out.next hb)
    clear hb
    go_wp2_with fail
    refine (Ha.out _ H1.out.g).mono ?_
    rintro e w2 ⟨rfl, hb⟩
    have H2 := Lib.hid (H1.out.next hb)
    clear hb
    go_wp2_with fail
    refine (Hb.out _ H2.out.g).mono ?_
    rintro e w3 ⟨rfl, hb⟩
    have H3 := Lib.hid (H2.out.next hb)
    clear hb
    go_wp2_with fail
    refine (Hj.out _ H3.out.g).mono ?_
    rintro e w4 ⟨rfl, hb⟩
    have H4 := Lib.hid (H3.out.next hb)
    clear hb
    go_wp2_with fail
    go_ret
    exact ⟨rfl, H4.out.2⟩
  | ok us =>
    have Hb := Lib.hid (fun W hg => lex_ok b us hr2 W (by omega) hg)
    clear hr2
    go_enter Tryd.func7, Tryd.ntmps7
    go_wp2_with fail
    refine Hs.out.mono ?_
    rintro e w1 ⟨rfl, hb⟩
    have H1 := Lib.hid (H0.out.next hb)
    clear hb
    go_wp2_with fail
    refine (Ha.out _ H1.out.g).mono ?_
    rintro e w2 ⟨rfl, hb⟩
    have H2 := Lib.hid (H1.out.next hb)
    clear hb
    go_wp2_with fail
    refine (Hb.out _ H2.out.g).mono ?_
    rintro e w3 ⟨v3, rfl, -, hb⟩
    have H3 := Lib.hid (H2.out.next hb)
    clear hb
    go_wp2_with fail
    refine (Hj.out _ H3.out.g).mono ?_
    rintro e w4 ⟨rfl, hb⟩
    have H4 := Lib.hid (H3.out.next hb)
    clear hb
    go_wp2_with fail
    go_ret
    exact ⟨rfl, H4.out.2⟩

set_option maxRecDepth 100000 in
set_option maxHeartbeats 8000000 in
theorem joined_bad2 (a b : ByteArray) (w : World) (hsz : a.size + b.size ≤ 3000) (ts : List Tok) (k : Nat) (hr : scan a.data.toList 0 = .ok ts) (hr2 : scan b.data.toList 0 = .error k) (hG : Globals w) :
    Calls Tryd.prog 7 #[.string a, .string b] w fun e w' => e = .returned (.bool true) ∧ Below w.heap.size w w' := by
  have Hs := Lib.hid (sane_any w hG)
  have H0 := Lib.hid (Amid.start hG [] (fun x hx => by simp at hx))
  clear hG
  have hkb : k ≤ b.size := by
    obtain ⟨d, h1, h2, _⟩ := scan_err_cut _ _ _ hr2
    rw [length_toList] at h2; omega
  have Ha := Lib.hid (fun W hg => lex_ok a ts hr W (by omega) hg)
  have Hb := Lib.hid (fun W hg => lex_err b k hr2 W (by omega) hg)
  have hje := joined_err2 hr hr2
  rw [length_toList] at hje
  generalize hK : k + (a.size + 1) = K at hje
  have Hj := Lib.hid (fun W hg => lex_err (a ++ ⟨#[10]⟩ ++ b) K (by rw [data_app, data_app, List.append_assoc]; exact hje) W (by simp [ByteArray.size_append, show (ByteArray.mk #[10]).size = 1 from rfl]; omega) hg)
  have hkk : ((K : Int) == (k : Int) + (a.size : Int) + 1) = true := by simp; omega
  clear hr hr2 hje
  have hn : ¬ ((a.size : Int) + b.size > 3000) := by omega
  go_enter Tryd.func7, Tryd.ntmps7
  go_wp2_with fail
  refine Hs.out.mono ?_
  rintro e w1 ⟨rfl, hb⟩
  have H1 := Lib.hid (H0.out.next hb)
  clear hb
  go_wp2_with fail
  refine (Ha.out _ H1.out.g).mono ?_
  rintro e w2 ⟨v2, rfl, -, hb⟩
  have H2 := Lib.hid (H1.out.next hb)
  clear hb
  go_wp2_with fail
  refine (Hb.out _ H2.out.g).mono ?_
  rintro e w3 ⟨rfl, hb⟩
  have H3 := Lib.hid (H2.out.next hb)
  clear hb
  go_wp2_with fail
  refine (Hj.out _ H3.out.g).mono ?_
  rintro e w4 ⟨rfl, hb⟩
  have H4 := Lib.hid (H3.out.next hb)
  clear hb
  go_wp2_with fail
  go_ret
  exact ⟨rfl, H4.out.2⟩

end Go.Proofs.YtkfbhegniobecaaDoor

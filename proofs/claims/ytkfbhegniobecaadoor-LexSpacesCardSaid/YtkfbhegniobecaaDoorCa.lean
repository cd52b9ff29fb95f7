/- PROVED HERE: the walk of 'acequialaw03.LexWrong': for all strings of a size that a machine can hold the law returns true, where the listed variables hold what the row's condition says. -/
import Derived.Test.YtkfbhegniobecaaDoorZ
import Derived.Test.YtkfbhegniobecaaDoorBd
namespace Go.Proofs.YtkfbhegniobecaaDoor
open Go.RowKit

/- the state amid a law: what has been read since its start, and that nothing that was there has turned -/
def Amid (w0 w : World) (l : List (Value × List Tok)) : Prop := Has w l ∧ Below w0.heap.size w0 w
theorem Amid.start {w : World} (h : Globals w) (l : List (Value × List Tok)) (hl : ∀ x ∈ l, IsToks w x.1 x.2) : Amid w w l := ⟨⟨h, hl⟩, Below.refl _ _⟩
theorem Amid.next {w0 w1 w2 : World} {l : List (Value × List Tok)} (h : Amid w0 w1 l) (hb : Below w1.heap.size w1 w2) : Amid w0 w2 l := ⟨h.1.next hb, h.2.trans (hb.mono h.2.size)⟩
theorem Amid.add {w0 w : World} {l : List (Value × List Tok)} (h : Amid w0 w l) {v : Value} {ts : List Tok} (hv : IsToks w v ts) : Amid w0 w ((v, ts) :: l) := ⟨h.1.add hv, h.2⟩
theorem Amid.drew {w0 w : World} {l : List (Value × List Tok)} (h : Amid w0 w l) (q : Nat) : Amid w0 (w.drewN q) l := ⟨Has.next h.1 (below_drewN (Below.refl _ _) q), below_drewN h.2 q⟩
theorem Amid.g {w0 w : World} {l : List (Value × List Tok)} (h : Amid w0 w l) : Globals w := h.1.1

theorem extract_list (s : ByteArray) (a b : Nat) : (s.extract a b).data.toList = (s.data.toList.take b).drop a := by
  simp [ByteArray.data_extract, List.drop_take]
theorem extract_upto (s : ByteArray) (k : Nat) : (s.extract 0 k).data.toList = s.data.toList.take k := by rw [extract_list]; rfl
theorem extract_from (s : ByteArray) (k : Nat) : (s.extract k s.size).data.toList = s.data.toList.drop k := by
  rw [extract_list, List.take_of_length_le (by rw [length_toList]; exact Nat.le_refl _)]
theorem slice_upto (s : ByteArray) (b : Nat) (h : b ≤ s.size) : ∀ wx, (Instr.slice 9 (.string s) none (some (.int .i64 (b : Int))) none).run Tryd.prog wx = .ok (.string (s.extract 0 b)) wx := by
  intro wx
  have := run_slice_string_h (P := Tryd.prog) (w := wx) (t := 9) (s := s) Tryd.underlying9 .i64 (b : Int) (by omega) (by omega)
  simpa using this

set_option maxRecDepth 100000 in
set_option maxHeartbeats 8000000 in
theorem lexWrong_any (s m : ByteArray) (w : World) (hs : s.size ≤ 140737488355328) (hm : m.size ≤ 140737488355328) (hG : Globals w) :
    Calls Tryd.prog 9 #[.string s, .string m] w fun e w' => e = .returned (.bool true) ∧ Below w.heap.size w w' := by
  have Hs := Lib.hid (sane_any w hG)
  have H0 := Lib.hid (Amid.start hG [] (fun x hx => by simp at hx))
  clear hG
  by_cases h3 : (s.size : Int) + m.size > 3000
  · go_enter Tryd.func9, Tryd.ntmps9
    go_wp2_with fail
    refine Hs.out.mono ?_
    rintro e w1 ⟨rfl, hb⟩
    have HB := Lib.hid hb
    clear hb
    go_wp2_with fail
    go_ret
    exact ⟨rfl, HB.out⟩
  · have h3' : s.size + m.size ≤ 3000 := by omega
    have h65 : s.size ≤ 65536 := by omega
    cases hr : scan s.data.toList 0 with
    | ok ts =>
      have Hl := Lib.hid (fun W hg => lex_ok s ts hr W h65 hg)
      clear hr
      go_enter Tryd.func9, Tryd.ntmps9
      go_wp2_with fail
      refine Hs.out.mono ?_
      rintro e w1 ⟨rfl, hb⟩
      have H1 := Lib.hid (H0.out.next hb)
      clear hb
      go_wp2_with fail
      refine (Hl.out _ H1.out.g).mono ?_
      rintro e w2 ⟨v2, rfl, -, hb⟩
      have H2 := Lib.hid (H1.out.next hb)
      clear hb
      go_wp2_with fail
      go_ret
      exact ⟨rfl, H2.out.2⟩
    | error k =>
      obtain ⟨hk, ⟨ts, ht⟩, h1, h2⟩ := wrong_law hr m.data.toList
      rw [length_toList] at hk
      have Hl := Lib.hid (fun W hg => lex_err s k hr W h65 hg)
      have Ha := Lib.hid (fun W hg => lex_ok (s.extract 0 k) ts (by rw [extract_upto]; exact ht) W (by simp; omega) hg)
      have Hb := Lib.hid (fun W hg => lex_err (s ++ ⟨#[32]⟩ ++ m) k (by rw [data_app, data_app, List.append_assoc]; exact h1) W (by simp [ByteArray.size_append, show (ByteArray.mk #[32]).size = 1 from rfl]; omega) hg)
      have Hc := Lib.hid (fun W hg => lex_err (s.extract k s.size) 0 (by rw [extract_from]; exact h2) W (by simp; omega) hg)
      clear hr ht h1 h2
      have hsl := slice_upto s k (by omega)
      have hsf := slice_from s k (by omega)
      have hka : ¬ ((k : Int) < 0) := by omega
      have hkb : ¬ ((k : Int) ≥ s.size) := by omega
      go_enter Tryd.func9, Tryd.ntmps9
      go_wp2_with fail
      refine Hs.out.mono ?_
      rintro e w1 ⟨rfl, hb⟩
      have H1 := Lib.hid (H0.out.next hb)
      clear hb
      go_wp2_with fail
      refine (Hl.out _ H1.out.g).mono ?_
      rintro e w2 ⟨rfl, hb⟩
      have H2 := Lib.hid (H1.out.next hb)
      clear hb
      go_wp2_with fail
      refine (Ha.out _ H2.out.g).mono ?_
      rintro e w3 ⟨v3, rfl, -, hb⟩
      have H3 := Lib.hid (H2.out.next hb)
      clear hb
      go_wp2_with fail
      refine (Hb.out _ H3.out.g).mono ?_
      rintro e w4 ⟨rfl, hb⟩
      have H4 := Lib.hid (H3.out.next hb)
      clear hb
      go_wp2_with fail
      refine (Hc.out _ H4.out.g).mono ?_
      rintro e w5 ⟨rfl, hb⟩
      have H5 := Lib.hid (H4.out.next hb)
      clear hb
      go_wp2_with fail
      go_ret
      exact ⟨rfl, H5.out.2⟩

end Go.Proofs.YtkfbhegniobecaaDoor

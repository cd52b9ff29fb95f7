/- PROVED HERE: the walks of 'acequialaw03.LexBack' and 'acequialaw03.LexTextSpec': for every input of a size that a machine can hold the law returns true, where the listed variables hold what the row's condition says. -/
import Derived.Test.YtkfbhegniobecaaDoorCb
namespace Go.Proofs.YtkfbhegniobecaaDoor
open Go.RowKit

theorem few_is {v : Value} {ts : List Tok} {b : Bool} (h : fewB ts = b) (hs : ∀ t ∈ ts, t.text.size ≤ 140737488355328) (w : World) (hv : IsToks w v ts) :
    Calls Tryd.prog 15 #[v] w fun e w' => e = .returned (.bool b) ∧ w = w' := by rw [← h]; exact few_any v ts w hv hs
theorem same_is {x y : List Tok} {b : Bool} (h : sameB x y = b) (v1 v2 : Value) (w : World) (h1 : IsToks w v1 x) (h2 : IsToks w v2 y) :
    Calls Tryd.prog 18 #[v1, v2] w fun e w' => e = .returned (.bool b) ∧ Below w.heap.size w w' := by rw [← h]; exact same_any v1 v2 x y w h1 h2
theorem refsame_is {x y : List Tok} {b : Bool} (h : sameB x y = b) (v1 v2 : Value) (w : World) (h1 : IsToks w v1 x) (h2 : IsToks w v2 y) :
    Calls Tryd.prog 19 #[v1, v2] w fun e w' => e = .returned (.bool b) ∧ Below w.heap.size w w' := by
  rw [← h]
  refine (refsame_any v1 v2 x y w h1 h2).mono ?_
  rintro e w' ⟨rfl, q, rfl⟩
  exact ⟨rfl, below_drewN (Below.refl _ _) q⟩
theorem reftext_ok (v : Value) (ts : List Tok) (w : World) (h : IsToks w v ts) (hm : ts.length ≤ 1000000) (hv : ts.all validB = true) :
    Calls Tryd.prog 17 #[v] w fun e w' => e = .returned (.tuple #[.string (mk (joinW ts)), .int .i64 0]) ∧ Below w.heap.size w w' := by
  refine (reftext_any v ts w h hm).mono fun e w' hh => ?_
  obtain ⟨hb, he⟩ := hh
  rw [if_pos hv] at he
  exact ⟨he, hb⟩
theorem reftext_err (v : Value) (ts : List Tok) (w : World) (h : IsToks w v ts) (hm : ts.length ≤ 1000000) (hv : ts.all validB = false) :
    Calls Tryd.prog 17 #[v] w fun e w' => e = .returned (.tuple #[.string ⟨#[]⟩, .int .i64 30]) ∧ Below w.heap.size w w' := by
  refine (reftext_any v ts w h hm).mono fun e w' hh => ?_
  obtain ⟨hb, he⟩ := hh
  rw [if_neg (by rw [hv]; simp)] at he
  exact ⟨he, hb⟩
theorem few_len {ts : List Tok} (h : fewB ts = true) : ts.length ≤ 200 := by
  simp only [fewB, Bool.and_eq_true, decide_eq_true_eq] at h; omega
theorem join_few {ts : List Tok} (h : ts.length ≤ 200) (hv : ts.all validB = true) : (joinW ts).length ≤ 65536 := by
  have h1 := joinW_len (ts := ts) ts.length (fun t ht => List.all_eq_true.1 hv t (List.mem_of_mem_take ht))
  rw [List.take_length] at h1
  omega
theorem mk_size (l : List UInt8) : (mk l).size = l.length := rfl


set_option maxRecDepth 100000 in
set_option maxHeartbeats 8000000 in
theorem lexBack_any (v : Value) (ts : List Tok) (s : ByteArray) (w : World) (hv0 : IsToks w v ts) (hs : s.size ≤ 140737488355328) (hts : ∀ t ∈ ts, t.text.size ≤ 140737488355328) (hG : Globals w) :
    Calls Tryd.prog 5 #[v, .string s] w fun e w' => e = .returned (.bool true) ∧ Below w.heap.size w w' := by
  have Hs := Lib.hid (sane_any w hG)
  have H0 := Lib.hid (Amid.start hG [(v, ts)] (fun x hx => by simp at hx; subst hx; exact hv0))
  clear hG hv0
  cases hf : fewB ts with
  | false =>
    have Hf := Lib.hid (fun W h => few_is (v := v) hf hts W h)
    clear hf hts
    go_enter Tryd.func5, Tryd.ntmps5
    go_wp2_with fail
    refine Hs.out.mono ?_
    rintro e w1 ⟨rfl, hb⟩
    have H1 := Lib.hid (H0.out.next hb)
    clear hb
    go_wp2_with fail
    refine (Hf.out _ (H1.out.1.2 (v, ts) (by simp))).mono ?_
    rintro e w2 ⟨rfl, rfl⟩
    go_wp2_with fail
    go_ret
    exact ⟨rfl, H1.out.2⟩
  | true =>
    have Hf := Lib.hid (fun W h => few_is (v := v) hf hts W h)
    have hlen := few_len hf
    clear hf hts
    by_cases h3 : (s.size : Int) > 3000
    · clear hlen
      go_enter Tryd.func5, Tryd.ntmps5
      go_wp2_with fail
      refine Hs.out.mono ?_
      rintro e w1 ⟨rfl, hb⟩
      have H1 := Lib.hid (H0.out.next hb)
      clear hb
      go_wp2_with fail
      refine (Hf.out _ (H1.out.1.2 (v, ts) (by simp))).mono ?_
      rintro e w2 ⟨rfl, rfl⟩
      go_wp2_with fail
      go_ret
      exact ⟨rfl, H1.out.2⟩
    · have h3' : s.size ≤ 3000 := by omega
      have h65 : s.size ≤ 65536 := by omega
      cases hr : scan s.data.toList 0 with
      | error k =>
        have Hx := Lib.hid (fun W hg => lex_err s k hr W h65 hg)
        clear hr
        cases hva : ts.all validB with
        | false =>
          have Ht := Lib.hid (fun W hg h => text_err v ts W h (by omega) hg hva)
          clear hva hlen
          go_enter Tryd.func5, Tryd.ntmps5
          go_wp2_with fail
          refine Hs.out.mono ?_
          rintro e w1 ⟨rfl, hb⟩
          have H1 := Lib.hid (H0.out.next hb)
          clear hb
          go_wp2_with fail
          refine (Hf.out _ (H1.out.1.2 (v, ts) (by simp))).mono ?_
          rintro e w2 ⟨rfl, rfl⟩
          go_wp2_with fail
          refine (Ht.out _ H1.out.g (H1.out.1.2 (v, ts) (by simp))).mono ?_
          rintro e w2 ⟨rfl, hb⟩
          have H2 := Lib.hid (H1.out.next hb)
          clear hb
          go_wp2_with fail
          refine (Hx.out _ H2.out.g).mono ?_
          rintro e w3 ⟨rfl, hb⟩
          have H3 := Lib.hid (H2.out.next hb)
          clear hb
          go_wp2_with fail
          go_ret
          exact ⟨rfl, H3.out.2⟩
        | true =>
          have Ht := Lib.hid (fun W hg h => text_ok v ts W h (by omega) hg hva)
          obtain ⟨ms, hm1, hm2⟩ := scan_join ts 0 hva
          have hj := join_few hlen hva
          have Hl := Lib.hid (fun W hg => lex_ok (mk (joinW ts)) ms hm1 W (by rw [mk_size]; exact hj) hg)
          have Hm := Lib.hid (fun v1 v2 W h1 h2 => same_is hm2 v1 v2 W h1 h2)
          clear hva hlen hm1 hm2 hj
          go_enter Tryd.func5, Tryd.ntmps5
          go_wp2_with fail
          refine Hs.out.mono ?_
          rintro e w1 ⟨rfl, hb⟩
          have H1 := Lib.hid (H0.out.next hb)
          clear hb
          go_wp2_with fail
          refine (Hf.out _ (H1.out.1.2 (v, ts) (by simp))).mono ?_
          rintro e w2 ⟨rfl, rfl⟩
          go_wp2_with fail
          refine (Ht.out _ H1.out.g (H1.out.1.2 (v, ts) (by simp))).mono ?_
          rintro e w2 ⟨rfl, hb⟩
          have H2 := Lib.hid (H1.out.next hb)
          clear hb
          go_wp2_with fail
          refine (Hl.out _ H2.out.g).mono ?_
          rintro e w3 ⟨v3, rfl, hv, hb⟩
          have H3 := Lib.hid ((H2.out.next hb).add hv)
          clear hb hv
          go_wp2_with fail
          refine (Hm.out v v3 _ (H3.out.1.2 (v, ts) (by simp)) (H3.out.1.2 (v3, ms) (by simp))).mono ?_
          rintro e w4 ⟨rfl, hb⟩
          have H4 := Lib.hid (H3.out.next hb)
          clear hb
          go_wp2_with fail
          refine (Hx.out _ H4.out.g).mono ?_
          rintro e w5 ⟨rfl, hb⟩
          have H5 := Lib.hid (H4.out.next hb)
          clear hb
          go_wp2_with fail
          go_ret
          exact ⟨rfl, H5.out.2⟩
      | ok xs =>
        have Hx := Lib.hid (fun W hg => lex_ok s xs hr W h65 hg)
        obtain ⟨hxv, hxl, hxn, ys, hy1, hy2⟩ := back_source hr
        rw [length_toList] at hxl hxn
        have Hxt := Lib.hid (fun v1 W hg h => text_ok v1 xs W h (by omega) hg hxv)
        have Hxy := Lib.hid (fun W hg => lex_ok (mk (joinW xs)) ys hy1 W (by rw [mk_size]; omega) hg)
        have Hxs := Lib.hid (fun v1 v2 W h1 h2 => same_is hy2 v1 v2 W h1 h2)
        clear hr hxv hxl hxn hy1 hy2
        cases hva : ts.all validB with
        | false =>
          have Ht := Lib.hid (fun W hg h => text_err v ts W h (by omega) hg hva)
          clear hva hlen
          go_enter Tryd.func5, Tryd.ntmps5
          go_wp2_with fail
          refine Hs.out.mono ?_
          rintro e w1 ⟨rfl, hb⟩
          have H1 := Lib.hid (H0.out.next hb)
          clear hb
          go_wp2_with fail
          refine (Hf.out _ (H1.out.1.2 (v, ts) (by simp))).mono ?_
          rintro e w2 ⟨rfl, rfl⟩
          go_wp2_with fail
          refine (Ht.out _ H1.out.g (H1.out.1.2 (v, ts) (by simp))).mono ?_
          rintro e w2 ⟨rfl, hb⟩
          have H2 := Lib.hid (H1.out.next hb)
          clear hb
          go_wp2_with fail
          refine (Hx.out _ H2.out.g).mono ?_
          rintro e w5 ⟨v5, rfl, hv, hb⟩
          have H5 := Lib.hid ((H2.out.next hb).add hv)
          clear hb hv
          go_wp2_with fail
          refine (Hxt.out v5 _ H5.out.g (H5.out.1.2 (v5, xs) (by simp))).mono ?_
          rintro e w6 ⟨rfl, hb⟩
          have H6 := Lib.hid (H5.out.next hb)
          clear hb
          go_wp2_with fail
          refine (Hxy.out _ H6.out.g).mono ?_
          rintro e w7 ⟨v7, rfl, hv, hb⟩
          have H7 := Lib.hid ((H6.out.next hb).add hv)
          clear hb hv
          go_wp2_with fail
          refine (Hxs.out v5 v7 _ (H7.out.1.2 (v5, xs) (by simp)) (H7.out.1.2 (v7, ys) (by simp))).mono ?_
          rintro e w8 ⟨rfl, hb⟩
          have H8 := Lib.hid (H7.out.next hb)
          clear hb
          go_wp2_with fail
          go_ret
          exact ⟨rfl, H8.out.2⟩
        | true =>
          have Ht := Lib.hid (fun W hg h => text_ok v ts W h (by omega) hg hva)
          obtain ⟨ms, hm1, hm2⟩ := scan_join ts 0 hva
          have hj := join_few hlen hva
          have Hl := Lib.hid (fun W hg => lex_ok (mk (joinW ts)) ms hm1 W (by rw [mk_size]; exact hj) hg)
          have Hm := Lib.hid (fun v1 v2 W h1 h2 => same_is hm2 v1 v2 W h1 h2)
          clear hva hlen hm1 hm2 hj
          go_enter Tryd.func5, Tryd.ntmps5
          go_wp2_with fail
          refine Hs.out.mono ?_
          rintro e w1 ⟨rfl, hb⟩
          have H1 := Lib.hid (H0.out.next hb)
          clear hb
          go_wp2_with fail
          refine (Hf.out _ (H1.out.1.2 (v, ts) (by simp))).mono ?_
          rintro e w2 ⟨rfl, rfl⟩
          go_wp2_with fail
          refine (Ht.out _ H1.out.g (H1.out.1.2 (v, ts) (by simp))).mono ?_
          rintro e w2 ⟨rfl, hb⟩
          have H2 := Lib.hid (H1.out.next hb)
          clear hb
          go_wp2_with fail
          refine (Hl.out _ H2.out.g).mono ?_
          rintro e w3 ⟨v3, rfl, hv, hb⟩
          have H3 := Lib.hid ((H2.out.next hb).add hv)
          clear hb hv
          go_wp2_with fail
          refine (Hm.out v v3 _ (H3.out.1.2 (v, ts) (by simp)) (H3.out.1.2 (v3, ms) (by simp))).mono ?_
          rintro e w4 ⟨rfl, hb⟩
          have H4 := Lib.hid (H3.out.next hb)
          clear hb
          go_wp2_with fail
          refine (Hx.out _ H4.out.g).mono ?_
          rintro e w5 ⟨v5, rfl, hv, hb⟩
          have H5 := Lib.hid ((H4.out.next hb).add hv)
          clear hb hv
          go_wp2_with fail
          refine (Hxt.out v5 _ H5.out.g (H5.out.1.2 (v5, xs) (by simp))).mono ?_
          rintro e w6 ⟨rfl, hb⟩
          have H6 := Lib.hid (H5.out.next hb)
          clear hb
          go_wp2_with fail
          refine (Hxy.out _ H6.out.g).mono ?_
          rintro e w7 ⟨v7, rfl, hv, hb⟩
          have H7 := Lib.hid ((H6.out.next hb).add hv)
          clear hb hv
          go_wp2_with fail
          refine (Hxs.out v5 v7 _ (H7.out.1.2 (v5, xs) (by simp)) (H7.out.1.2 (v7, ys) (by simp))).mono ?_
          rintro e w8 ⟨rfl, hb⟩
          have H8 := Lib.hid (H7.out.next hb)
          clear hb
          go_wp2_with fail
          go_ret
          exact ⟨rfl, H8.out.2⟩

end Go.Proofs.YtkfbhegniobecaaDoor

/- The examples with which each statement begins. -/
import Derived.Test.YtkfbhegniobecaaDoorX
import Derived.KernelRfl
namespace Go.Proofs.YtkfbhegniobecaaDoor
open Go.RowKit

theorem sc1 : scan [115, 117, 109, 32, 51, 48, 59] 0 = .ok [⟨1, mk [115, 117, 109], 0, 0⟩, ⟨2, mk [], 30, 4⟩, ⟨3, mk [59], 0, 6⟩] := by kernel_rfl
theorem sc2 : scan [48, 48, 55] 0 = .error 0 := by kernel_rfl
theorem sc3 : scan [49, 48, 57, 57, 53, 49, 49, 54, 50, 55, 55, 55, 54] 0 = .ok [⟨2, mk [], 1099511627776, 0⟩] := by kernel_rfl
theorem sc4 : scan [97, 32, 47, 47, 32, 98] 0 = .ok [⟨1, mk [97], 0, 0⟩] := by kernel_rfl
theorem sc5 : scan [97, 32, 36] 0 = .error 2 := by kernel_rfl
theorem sc6 : scan [97, 61, 49] 0 = .ok [⟨1, mk [97], 0, 0⟩, ⟨3, mk [61], 0, 1⟩, ⟨2, mk [], 1, 2⟩] := by kernel_rfl
theorem sc7 : joinW [⟨1, mk [97], 0, 0⟩, ⟨3, mk [61], 0, 1⟩, ⟨2, mk [], 1, 2⟩] = [97, 32, 61, 32, 49] := by kernel_rfl

/- Lex, by its end -/
theorem lex_ok (s : ByteArray) (ts : List Tok) (h : scan s.data.toList 0 = .ok ts) (w : World) (hs : s.size ≤ 65536) (hG : Globals w) :
    Calls Tryd.prog 12 #[.string s] w fun e w' => ∃ v, e = .returned (.tuple #[v, .int .i64 0, .int .i64 0]) ∧ IsToks w' v ts ∧ Below w.heap.size w w' := by
  refine (lex_any s w hs hG).mono fun e w' hh => ?_
  obtain ⟨hb, hr⟩ := hh
  rw [h] at hr
  obtain ⟨v, he, hv⟩ := hr
  exact ⟨v, he, hv, hb⟩
theorem lex_err (s : ByteArray) (k : Nat) (h : scan s.data.toList 0 = .error k) (w : World) (hs : s.size ≤ 65536) (hG : Globals w) :
    Calls Tryd.prog 12 #[.string s] w fun e w' => e = .returned (.tuple #[.slice none 0 0, .int .i64 k, .int .i64 30]) ∧ Below w.heap.size w w' := by
  refine (lex_any s w hs hG).mono fun e w' hh => ?_
  obtain ⟨hb, hr⟩ := hh
  rw [h] at hr
  exact ⟨hr, hb⟩
theorem text_ok (v : Value) (ts : List Tok) (w : World) (h : IsToks w v ts) (hm : ts.length ≤ 1000000) (hG : Globals w) (hv : ts.all validB = true) :
    Calls Tryd.prog 16 #[v] w fun e w' => e = .returned (.tuple #[.string (mk (joinW ts)), .int .i64 0]) ∧ Below w.heap.size w w' := by
  refine (text_any v ts w h hm hG).mono fun e w' hh => ?_
  obtain ⟨hb, hr⟩ := hh
  rw [hv] at hr
  exact ⟨hr, hb⟩
theorem text_err (v : Value) (ts : List Tok) (w : World) (h : IsToks w v ts) (hm : ts.length ≤ 1000000) (hG : Globals w) (hv : ts.all validB = false) :
    Calls Tryd.prog 16 #[v] w fun e w' => e = .returned (.tuple #[.string ⟨#[]⟩, .int .i64 30]) ∧ Below w.heap.size w w' := by
  refine (text_any v ts w h hm hG).mono fun e w' hh => ?_
  obtain ⟨hb, hr⟩ := hh
  rw [hv] at hr
  exact ⟨hr, hb⟩
theorem IsToks.below {w w' : World} {v : Value} {ts : List Tok} (h : IsToks w v ts) (hb : Below w.heap.size w w') : IsToks w' v ts := by
  obtain ⟨h1, h2, h3 | ⟨b, o, c, hv, hlt, hr⟩⟩ := h
  · exact ⟨h1, h2, .inl h3⟩
  · refine ⟨h1, h2, .inr ⟨b, o, c, hv, Nat.lt_of_lt_of_le hlt hb.size, fun i hi => ?_⟩⟩
    obtain ⟨a0, a1, a2, a3⟩ := hr i hi
    exact ⟨(hb.cell (p := ⟨b, _, none⟩) hlt).trans a0, (hb.cell (p := ⟨b, _, none⟩) hlt).trans a1, (hb.cell (p := ⟨b, _, none⟩) hlt).trans a2, (hb.cell (p := ⟨b, _, none⟩) hlt).trans a3⟩
/- tokens in a block laid just now -/
theorem isToks_new (w : World) (ts : List Tok) (hne : 0 < ts.length) (hlen : ts.length ≤ 1000000) (ht : ∀ t ∈ ts, t.text.size ≤ maxLen) (arr : Array Value) (harr : arr = (ts.flatMap fun t => t.cells.toList).toArray) :
    IsToks (w.alloc (.cells arr 35)) (.slice (some ⟨w.heap.size, 0, none⟩) ts.length ts.length) ts := by
  refine OwnToks.isToks (B := 0) ?_ (by omega) ht
  have hl : (ts.flatMap fun t => t.cells.toList).length = ts.length * 4 := by
    clear hne hlen ht harr
    induction ts with
    | nil => rfl
    | cons t r ih => rw [List.flatMap_cons, List.length_append, ih]; unfold Tok.cells; simp; omega
  refine ⟨hl, .inr ⟨w.heap.size, ts.length, arr, rfl, Nat.zero_le _, heap_new w _ _ rfl, Nat.le_refl _, by unfold maxLen; omega, ?_, ?_⟩⟩
  · rw [harr]; simpa using hl
  · rw [harr]; exact List.take_of_length_le (Nat.le_of_eq hl)
theorem Globals.next {w1 w2 : World} (h : Globals w1) (hb : Below w1.heap.size w1 w2) : Globals w2 := h.below hb (globals_size h)
/- what a value reads as, and the library's variables, amid a call -/
def Has (w : World) (l : List (Value × List Tok)) : Prop := Globals w ∧ ∀ x ∈ l, IsToks w x.1 x.2
theorem Has.next {w1 w2 : World} {l : List (Value × List Tok)} (h : Has w1 l) (hb : Below w1.heap.size w1 w2) : Has w2 l := ⟨h.1.next hb, fun x hx => (h.2 x hx).below hb⟩
theorem Has.add {w : World} {l : List (Value × List Tok)} (h : Has w l) {v : Value} {ts : List Tok} (hv : IsToks w v ts) : Has w ((v, ts) :: l) := ⟨h.1, fun x hx => by
  rcases List.mem_cons.1 hx with rfl | hx
  · exact hv
  · exact h.2 x hx⟩

theorem IsToks.one {w : World} {v : Value} {t : Tok} (h : IsToks w v [t]) : ∃ b o c, v = .slice (some ⟨b, o, none⟩) 1 c := by
  obtain ⟨_, _, ⟨h, _⟩ | ⟨b, o, c, rfl, _⟩⟩ := h
  · simp at h
  · exact ⟨b, o, c, rfl⟩
theorem IsToks.cells1 {w : World} {b o c : Nat} {t : Tok} (h : IsToks w (.slice (some ⟨b, o, none⟩) 1 c) [t]) : w.cell? ⟨b, o + 2, none⟩ = some (.int .i64 t.n) ∧ w.cell? ⟨b, o + 1, none⟩ = some (.string t.text) := by
  obtain ⟨_, _, ⟨h, _⟩ | ⟨b', o', c', he, _, hr⟩⟩ := h
  · simp at h
  · obtain ⟨_, h1, h2, _⟩ := hr 0 (by simp)
    simp only [Value.slice.injEq, Option.some.injEq, Addr.mk.injEq] at he
    obtain ⟨⟨rfl, rfl, _⟩, _, rfl⟩ := he
    simpa using ⟨h2, h1⟩
theorem name_is (s : ByteArray) (b : Bool) (h : nameB s.data.toList = b) (w : World) (hs : s.size ≤ 1000000) : Calls Tryd.prog 20 #[.string s] w fun e w' => e = .returned (.bool b) ∧ w = w' := by
  rw [← h]; exact name_any s w (by unfold maxLen; omega)
theorem n1 : nameB (ByteArray.mk #[66, 95, 49, 50]).data.toList = true := by decide +kernel
theorem n2 : nameB (ByteArray.mk #[95, 49, 50]).data.toList = false := by decide +kernel

set_option maxRecDepth 100000 in
set_option maxHeartbeats 8000000 in
theorem sane_any (w : World) (hG : Globals w) :
    Calls Tryd.prog 11 #[] w fun e w' => e = .returned (.bool true) ∧ Below w.heap.size w w' := by
  have H := Lib.hid (show Has w [] from ⟨hG, fun x hx => by simp at hx⟩)
  have HB := Lib.hid (Below.refl w.heap.size w)
  clear hG
  go_enter Tryd.func11, Tryd.ntmps11
  go_wp2_with fail
  refine (lex_ok _ _ sc1 _ (by decide) H.out.1).mono ?_
  rintro e w1 ⟨v1, rfl, hv, hb⟩
  have HB' := Lib.hid (HB.out.trans (hb.mono HB.out.size))
  have H' := Lib.hid ((H.out.next hb).add hv)
  clear H HB hb hv
  rename Hid (Has w1 _) => H
  rename Hid (Below _ _ w1) => HB
  go_wp2_with fail
  have hb : Below w1.heap.size w1 (w1.alloc (.cells #[.int .i64 1, .string ⟨#[115, 117, 109]⟩, .int .i64 0, .int .i64 0, .int .i64 2, .string ⟨#[]⟩, .int .i64 30, .int .i64 4, .int .i64 3, .string ⟨#[59]⟩, .int .i64 0, .int .i64 6] 35)) := (Below.refl _ w1).alloc (Nat.le_refl _) _
  have hv := isToks_new w1 [⟨1, mk [115, 117, 109], 0, 0⟩, ⟨2, mk [], 30, 4⟩, ⟨3, mk [59], 0, 6⟩] (by decide) (by decide) (by decide) #[.int .i64 1, .string ⟨#[115, 117, 109]⟩, .int .i64 0, .int .i64 0, .int .i64 2, .string ⟨#[]⟩, .int .i64 30, .int .i64 4, .int .i64 3, .string ⟨#[59]⟩, .int .i64 0, .int .i64 6] rfl
  generalize (w1.alloc (.cells #[.int .i64 1, .string ⟨#[115, 117, 109]⟩, .int .i64 0, .int .i64 0, .int .i64 2, .string ⟨#[]⟩, .int .i64 30, .int .i64 4, .int .i64 3, .string ⟨#[59]⟩, .int .i64 0, .int .i64 6] 35)) = w2 at hb hv ⊢
  generalize (Value.slice (some ⟨w1.heap.size, 0, none⟩) 3 3) = v2 at hv ⊢
  have HB' := Lib.hid (HB.out.trans (hb.mono HB.out.size))
  have H' := Lib.hid ((H.out.next hb).add hv)
  clear H HB hb hv
  rename Hid (Has w2 _) => H
  rename Hid (Below _ _ w2) => HB
  go_wp2_with fail
  refine (lex_err _ _ sc2 _ (by decide) H.out.1).mono ?_
  rintro e w3 ⟨rfl, hb⟩
  have HB' := Lib.hid (HB.out.trans (hb.mono HB.out.size))
  have H' := Lib.hid (H.out.next hb)
  clear H HB hb
  rename Hid (Has w3 _) => H
  rename Hid (Below _ _ w3) => HB
  go_wp2_with fail
  refine (lex_ok _ _ sc3 _ (by decide) H.out.1).mono ?_
  rintro e w4 ⟨v4, rfl, hv, hb⟩
  obtain ⟨b4, o4, d4, rfl⟩ := hv.one
  have HB' := Lib.hid (HB.out.trans (hb.mono HB.out.size))
  have H' := Lib.hid ((H.out.next hb).add hv)
  clear H HB hb hv
  rename Hid (Has w4 _) => H
  rename Hid (Below _ _ w4) => HB
  go_wp2_with fail
  refine (lex_ok _ _ sc4 _ (by decide) H.out.1).mono ?_
  rintro e w5 ⟨v5, rfl, hv, hb⟩
  obtain ⟨b5, o5, d5, rfl⟩ := hv.one
  have HB' := Lib.hid (HB.out.trans (hb.mono HB.out.size))
  have H' := Lib.hid ((H.out.next hb).add hv)
  clear H HB hb hv
  rename Hid (Has w5 _) => H
  rename Hid (Below _ _ w5) => HB
  go_wp2_with fail
  refine (lex_err _ _ sc5 _ (by decide) H.out.1).mono ?_
  rintro e w6 ⟨rfl, hb⟩
  have HB' := Lib.hid (HB.out.trans (hb.mono HB.out.size))
  have H' := Lib.hid (H.out.next hb)
  clear H HB hb
  rename Hid (Has w6 _) => H
  rename Hid (Below _ _ w6) => HB
  go_wp2_with fail
  refine (lex_ok _ _ sc6 _ (by decide) H.out.1).mono ?_
  rintro e w7 ⟨v7, rfl, hv, hb⟩
  have HB' := Lib.hid (HB.out.trans (hb.mono HB.out.size))
  have H' := Lib.hid ((H.out.next hb).add hv)
  clear H HB hb hv
  rename Hid (Has w7 _) => H
  rename Hid (Below _ _ w7) => HB
  go_wp2_with fail
  refine (text_ok v7 [⟨1, mk [97], 0, 0⟩, ⟨3, mk [61], 0, 1⟩, ⟨2, mk [], 1, 2⟩] _ (H.out.2 (v7, [⟨1, mk [97], 0, 0⟩, ⟨3, mk [61], 0, 1⟩, ⟨2, mk [], 1, 2⟩]) (by simp)) (by decide) H.out.1 (by decide +kernel)).mono ?_
  rw [sc7]
  rintro e w8 ⟨rfl, hb⟩
  have HB' := Lib.hid (HB.out.trans (hb.mono HB.out.size))
  have H' := Lib.hid (H.out.next hb)
  clear H HB hb
  rename Hid (Has w8 _) => H
  rename Hid (Below _ _ w8) => HB
  go_wp2_with fail
  refine (lex_ok _ [] (scan_nil 0) _ (by decide) H.out.1).mono ?_
  rintro e w9 ⟨v9, rfl, hv, hb⟩
  obtain ⟨a9, d9, rfl⟩ := hv.size
  simp only [List.length_nil]
  have HB' := Lib.hid (HB.out.trans (hb.mono HB.out.size))
  have H' := Lib.hid (H.out.next hb)
  clear H HB hb
  rename Hid (Has w9 _) => H
  rename Hid (Below _ _ w9) => HB
  go_wp2_with fail
  have hb : Below w9.heap.size w9 (w9.alloc (.cells #[.int .i64 0, .string ⟨#[]⟩, .int .i64 0, .int .i64 0] 35)) := (Below.refl _ w9).alloc (Nat.le_refl _) _
  have hv := isToks_new w9 [⟨0, mk [], 0, 0⟩] (by decide) (by decide) (by decide) #[.int .i64 0, .string ⟨#[]⟩, .int .i64 0, .int .i64 0] rfl
  generalize (w9.alloc (.cells #[.int .i64 0, .string ⟨#[]⟩, .int .i64 0, .int .i64 0] 35)) = w10 at hb hv ⊢
  generalize (Value.slice (some ⟨w9.heap.size, 0, none⟩) 1 1) = v10 at hv ⊢
  have HB' := Lib.hid (HB.out.trans (hb.mono HB.out.size))
  have H' := Lib.hid ((H.out.next hb).add hv)
  clear H HB hb hv
  rename Hid (Has w10 _) => H
  rename Hid (Below _ _ w10) => HB
  go_wp2_with fail
  refine (text_err v10 [⟨0, mk [], 0, 0⟩] _ (H.out.2 (v10, [⟨0, mk [], 0, 0⟩]) (by simp)) (by decide) H.out.1 (by decide +kernel)).mono ?_
  rintro e w11 ⟨rfl, hb⟩
  have HB' := Lib.hid (HB.out.trans (hb.mono HB.out.size))
  have H' := Lib.hid (H.out.next hb)
  clear H HB hb
  rename Hid (Has w11 _) => H
  rename Hid (Below _ _ w11) => HB
  go_wp2_with fail
  have hv := H.out.2 (.slice (some ⟨b4, o4, none⟩) 1 d4, [⟨2, mk [], 1099511627776, 0⟩]) (by simp)
  have hv' := H.out.2 (.slice (some ⟨b5, o5, none⟩) 1 d5, [⟨1, mk [97], 0, 0⟩]) (by simp)
  have q4 := hv.cells1
  have q5 := hv'.cells1
  dsimp only at q4 q5
  have r4 := q4.1
  have r5 := q5.2
  clear q4 q5 hv hv'
  refine (equal_any v1 v2 _ _ _ (H.out.2 (v1, [⟨1, mk [115, 117, 109], 0, 0⟩, ⟨2, mk [], 30, 4⟩, ⟨3, mk [59], 0, 6⟩]) (by simp)) (H.out.2 (v2, [⟨1, mk [115, 117, 109], 0, 0⟩, ⟨2, mk [], 30, 4⟩, ⟨3, mk [59], 0, 6⟩]) (by simp))).mono ?_
  rw [show equalB [⟨1, mk [115, 117, 109], 0, 0⟩, ⟨2, mk [], 30, 4⟩, ⟨3, mk [59], 0, 6⟩] [⟨1, mk [115, 117, 109], 0, 0⟩, ⟨2, mk [], 30, 4⟩, ⟨3, mk [59], 0, 6⟩] = true by decide +kernel]
  rintro e w12 ⟨rfl, q, rfl⟩
  have m1 : (mk [97]).toList = [97] := by rw [ByteArray.toList_eq]; rfl
  have m2 : (mk [97, 32, 61, 32, 49]).toList = [97, 32, 61, 32, 49] := by rw [ByteArray.toList_eq]; rfl
  go_wp2_with fail
  refine (name_is _ true n1 _ (by decide)).mono ?_
  rintro e w' ⟨rfl, rfl⟩
  go_wp2_with fail
  refine (name_is _ false n2 _ (by decide)).mono ?_
  rintro e w' ⟨rfl, rfl⟩
  go_wp2_with fail
  have hq := Has.next H.out (w2 := w11.drewN q) (below_drewN (Below.refl _ _) q)
  have hbq : Below w.heap.size w (w11.drewN q) := below_drewN HB.out q
  clear H HB r4 r5
  generalize w11.drewN q = w12 at hq hbq ⊢
  have H := Lib.hid hq
  have HB := Lib.hid hbq
  clear hq hbq
  have hs := same_any (.slice (some ⟨b5, o5, none⟩) 1 d5) v7 _ _ w12 (H.out.2 (.slice (some ⟨b5, o5, none⟩) 1 d5, [⟨1, mk [97], 0, 0⟩]) (by simp)) (H.out.2 (v7, [⟨1, mk [97], 0, 0⟩, ⟨3, mk [61], 0, 1⟩, ⟨2, mk [], 1, 2⟩]) (by simp))
  rw [show sameB [⟨1, mk [97], 0, 0⟩] [⟨1, mk [97], 0, 0⟩, ⟨3, mk [61], 0, 1⟩, ⟨2, mk [], 1, 2⟩] = false by decide +kernel] at hs
  refine hs.mono ?_
  clear hs
  rintro e w13 ⟨rfl, hb⟩
  have HB' := Lib.hid (HB.out.trans (hb.mono HB.out.size))
  have H' := Lib.hid (H.out.next hb)
  clear H HB hb
  rename Hid (Has w13 _) => H
  rename Hid (Below _ _ w13) => HB
  go_wp2_with fail
  have hb : Below w13.heap.size w13 (w13.alloc (.cells #[.int .i64 1, .string ⟨#[97]⟩, .int .i64 0, .int .i64 9] 35)) := (Below.refl _ w13).alloc (Nat.le_refl _) _
  have hv := isToks_new w13 [⟨1, mk [97], 0, 9⟩] (by decide) (by decide) (by decide) #[.int .i64 1, .string ⟨#[97]⟩, .int .i64 0, .int .i64 9] rfl
  have hs := same_any (.slice (some ⟨b5, o5, none⟩) 1 d5) _ _ _ _ ((H.out.next hb).2 (.slice (some ⟨b5, o5, none⟩) 1 d5, [⟨1, mk [97], 0, 0⟩]) (by simp)) hv
  rw [show sameB [⟨1, mk [97], 0, 0⟩] [⟨1, mk [97], 0, 9⟩] = true by decide +kernel] at hs
  have hb2 := HB.out.trans (hb.mono HB.out.size)
  have HB2 := Lib.hid hb2
  clear hv hb2 hb H
  refine hs.mono ?_
  clear hs
  rintro e w14 ⟨rfl, hb⟩
  have HB3 := Lib.hid (HB2.out.trans (hb.mono HB2.out.size))
  clear hb
  go_wp2_with fail
  go_ret
  exact ⟨rfl, HB3.out⟩

end Go.Proofs.YtkfbhegniobecaaDoor

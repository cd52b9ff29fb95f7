/- Texts Hq Hra Hr in one: each says what it proves. -/
import Derived.Test.YtlaifodlnolndaaDoorMo
import Derived.Deep.RegionHeld3
/- The statement RunSpec: the walk. -/
namespace Go.Proofs.YtlaifodlnolndaaDoor
open Go.RowKit

theorem printR_is (ls : List Ln) : ∃ (s : ByteArray) (e : Int), printR ls = .tuple #[.string s, .int .i64 e] := by
  unfold printR; split <;> exact ⟨_, _, rfl⟩
theorem runR_is (vs : List Int) (ls : List Ln) : ∃ (n : Int) (b : Bool) (e : Int), runR vs ls = .tuple #[.int .i64 n, .bool b, .int .i64 e] := by
  unfold runR; split
  · split <;> exact ⟨_, _, _, rfl⟩
  · exact ⟨_, _, _, rfl⟩

set_option maxRecDepth 100000 in
set_option maxHeartbeats 8000000 in
theorem runSpec_any (v : Value) (ls : List Ln) (a0 a1 a2 a3 a4 : Int) (w : World) (h : IsLns w v ls) (hG : Globals w) :
    Calls Tryd.prog 3 #[.agg #[v], vsV a0 a1 a2 a3 a4] w fun e w' => e = .returned (.bool true) ∧ Below w.heap.size w w' := by
  obtain ⟨va, vc, rfl⟩ := h.form
  obtain ⟨n, hn⟩ : ∃ n, n = ls.length := ⟨_, rfl⟩
  rw [← hn] at h ⊢
  have HK := Lib.hid ((((⟨Below.refl _ _, hG, fun _ h => by simp at h, fun _ h => by simp at h⟩ : Keep w [] [] w).add h).var (.slice va n vc)).new #[.int .i64 a0, .int .i64 a1, .int .i64 a2, .int .i64 a3, .int .i64 a4] 25)
  obtain ⟨ps, pe, hp⟩ := printR_is ls
  obtain ⟨rn, rb, re, hr⟩ := runR_is [a0, a1, a2, a3, a4] ls
  have HPr := Lib.hid hp
  have HRr := Lib.hid hr
  clear hG h hn hp hr
  go_enter Tryd.func3, Tryd.ntmps3
  unfold vsV
  go_wp2_with fail
  refine (sane_any _ HK.out.glob).mono ?_
  rintro e w1 ⟨rfl, hb1⟩
  have HK1 := Lib.hid (HK.out.next hb1)
  clear hb1 HK
  have c0 := HK1.out.cell (b := w.heap.size) (v := (.slice va n vc)) (by simp)
  obtain ⟨q0, q1, q2, q3, q4⟩ := HK1.out.five (b := w.heap.size + 1) (t := 25) (x0 := .int .i64 a0) (x1 := .int .i64 a1) (x2 := .int .i64 a2) (x3 := .int .i64 a3) (x4 := .int .i64 a4) (by simp)
  go_wp2_with fail
  refine (few_any _ ls w1 (HK1.out.lns (_, ls) (List.mem_cons_self))).mono ?_
  rintro e w2 ⟨rfl, hb2⟩
  have HK2 := Lib.hid (HK1.out.next hb2)
  clear hb2 HK1 c0 q0 q1 q2 q3 q4
  have c0 := HK2.out.cell (b := w.heap.size) (v := (.slice va n vc)) (by simp)
  obtain ⟨q0, q1, q2, q3, q4⟩ := HK2.out.five (b := w.heap.size + 1) (t := 25) (x0 := .int .i64 a0) (x1 := .int .i64 a1) (x2 := .int .i64 a2) (x3 := .int .i64 a3) (x4 := .int .i64 a4) (by simp)
  cases hf : fewC ls
  · go_wp2
    go_ret
    exact ⟨rfl, HK2.out.below⟩
  · go_wp2_with fail
    refine (print_any _ ls w2 (HK2.out.lns (_, ls) (List.mem_cons_self)) HK2.out.glob).mono ?_
    rw [HPr.out]
    rintro e w3 ⟨rfl, hb3⟩
    have HK3 := Lib.hid (HK2.out.next hb3)
    clear hb3 HK2 c0 q0 q1 q2 q3 q4
    have c0 := HK3.out.cell (b := w.heap.size) (v := (.slice va n vc)) (by simp)
    obtain ⟨q0, q1, q2, q3, q4⟩ := HK3.out.five (b := w.heap.size + 1) (t := 25) (x0 := .int .i64 a0) (x1 := .int .i64 a1) (x2 := .int .i64 a2) (x3 := .int .i64 a3) (x4 := .int .i64 a4) (by simp)
    go_wp2_with fail
    refine (refprint_any _ ls w3 (HK3.out.lns (_, ls) (List.mem_cons_self))).mono ?_
    rw [HPr.out]
    rintro e w4 ⟨rfl, hb4⟩
    have HK4 := Lib.hid (HK3.out.next hb4)
    clear hb4 HK3 c0 q0 q1 q2 q3 q4
    have c0 := HK4.out.cell (b := w.heap.size) (v := (.slice va n vc)) (by simp)
    obtain ⟨q0, q1, q2, q3, q4⟩ := HK4.out.five (b := w.heap.size + 1) (t := 25) (x0 := .int .i64 a0) (x1 := .int .i64 a1) (x2 := .int .i64 a2) (x3 := .int .i64 a3) (x4 := .int .i64 a4) (by simp)
    go_wp2_with fail
    refine (crun_any _ ls a0 a1 a2 a3 a4 w4 (HK4.out.lns (_, ls) (List.mem_cons_self))).mono ?_
    rw [HRr.out]
    rintro e w5 ⟨rfl, hb5⟩
    have HK5 := Lib.hid (HK4.out.next hb5)
    clear hb5 HK4 c0 q0 q1 q2 q3 q4
    have c0 := HK5.out.cell (b := w.heap.size) (v := (.slice va n vc)) (by simp)
    obtain ⟨q0, q1, q2, q3, q4⟩ := HK5.out.five (b := w.heap.size + 1) (t := 25) (x0 := .int .i64 a0) (x1 := .int .i64 a1) (x2 := .int .i64 a2) (x3 := .int .i64 a3) (x4 := .int .i64 a4) (by simp)
    go_wp2_with fail
    refine (refrun_any _ ls a0 a1 a2 a3 a4 w5 (HK5.out.lns (_, ls) (List.mem_cons_self))).mono ?_
    rw [HRr.out]
    rintro e w6 ⟨rfl, hb6⟩
    have HK6 := Lib.hid (HK5.out.next hb6)
    clear hb6 HK5 c0 q0 q1 q2 q3 q4
    have c0 := HK6.out.cell (b := w.heap.size) (v := (.slice va n vc)) (by simp)
    obtain ⟨q0, q1, q2, q3, q4⟩ := HK6.out.five (b := w.heap.size + 1) (t := 25) (x0 := .int .i64 a0) (x1 := .int .i64 a1) (x2 := .int .i64 a2) (x3 := .int .i64 a3) (x4 := .int .i64 a4) (by simp)
    clear hf
    go_wp2_with fail
    have HX := Lib.hid (HK6.out.next (Below.refl _ _).drew)
    go_region_held3 (fun w' => w'.cell? ⟨w.heap.size, 0, none⟩ = some (.slice va n vc) ∧ Keep w [(.slice va n vc, ls)] [((w.alloc (.cells #[.slice va n vc] 24)).heap.size, .cells #[.int .i64 a0, .int .i64 a1, .int .i64 a2, .int .i64 a3, .int .i64 a4] 25 (0, 0)), (w.heap.size, .cells #[.slice va n vc] 24 (0, 0))] w') (first | exact ⟨HX.out.cell (by simp), HX.out⟩ | exact ⟨HK7.out.cell (by simp), HK7.out⟩ | exact ⟨HK8.out.cell (by simp), HK8.out⟩)
      (first | ((go_at_call 15; refine (check_any _ ls _ (HX.out.lns (_, ls) (List.mem_cons_self))).mono ?_; rintro e w7 ⟨rfl, hb7⟩; have HK7 := Lib.hid (HX.out.next hb7); clear hb7)) | ((go_at_call 16; refine (refcheck_any _ ls _ (HK7.out.lns (_, ls) (List.mem_cons_self))).mono ?_; rintro e w8 ⟨rfl, hb8⟩; have HK8 := Lib.hid (HK7.out.next hb8); clear hb8)))
    all_goals
      go_wp2
      go_ret
      exact ⟨rfl, HK8.out.below⟩

end Go.Proofs.YtlaifodlnolndaaDoor

/- What Parse answers, in plain Lean: where it refuses; what is printed is read back; what is read is valid. -/
namespace Go.Proofs.YtlaifodlnolndaaDoor
open Go.RowKit

theorem places_at : ∀ {ts : List Tok} {l : List UInt8} {i : Nat}, Places l i ts → ∀ t ∈ ts, (i : Int) ≤ t.at_ ∧ t.at_ < ((i + l.length : Nat) : Int)
  | [], _, _, _, t, ht => by simp at ht
  | t0 :: ts, l, i, h, t, ht => by
    obtain ⟨g, rest, rfl, _, ha, hne, _, _, hr⟩ := h
    have hpos : 0 < (wordOf t0).length := List.length_pos_iff.2 hne
    simp only [List.length_append]
    rcases List.mem_cons.1 ht with rfl | ht
    · omega
    · have := places_at hr t ht
      omega
theorem placeT_in {s : List UInt8} {ts : List Tok} (h : scan s 0 = .ok ts) (k : Nat) : 0 ≤ placeT ts s.length k ∧ placeT ts s.length k ≤ (s.length : Int) := by
  unfold placeT
  cases hk : ts[k]? with
  | none => constructor <;> simp
  | some t =>
    have := places_at (scan_places s 0 ts h) t (List.mem_of_getElem? hk)
    simp only [Nat.zero_add] at this
    constructor <;> simp only <;> omega
theorem parseR_cases (s : List UInt8) :
    (∃ k : Nat, scan s 0 = .error k ∧ parseR s = ([], (k : Int), 30) ∧ k ≤ s.length) ∨ (∃ ts ls, scan s 0 = .ok ts ∧ pLines 64 ts = .ok ls ∧ parseR s = (ls, 0, 0) ∧ okC ls = true) ∨
    (∃ ts q, scan s 0 = .ok ts ∧ pLines 64 ts = .error q ∧ parseR s = ([], placeT ts s.length (ts.length - q.length), 310)) := by
  cases h : scan s 0 with
  | error k =>
    left
    obtain ⟨d, hd, hl, _⟩ := scan_err_cut s 0 k h
    exact ⟨k, rfl, by unfold parseR; rw [h], by omega⟩
  | ok ts =>
    right
    cases hp : pLines 64 ts with
    | ok ls => exact .inl ⟨ts, ls, rfl, hp, by unfold parseR; simp only [h, hp], read_valid (back_source h).1 hp⟩
    | error q => exact .inr ⟨ts, q, rfl, hp, by unfold parseR; simp only [h, hp]⟩
theorem parseR_no {s : List UInt8} (h : (parseR s).2.2 ≠ 0) : (parseR s).1 = [] ∧ 0 ≤ (parseR s).2.1 ∧ (parseR s).2.1 ≤ (s.length : Int) := by
  rcases parseR_cases s with ⟨k, _, e, hk⟩ | ⟨ts, ls, _, _, e, _⟩ | ⟨ts, q, hs, _, e⟩
  · rw [e]; exact ⟨rfl, by show (0 : Int) ≤ k; omega, by show (k : Int) ≤ _; omega⟩
  · rw [e] at h; simp at h
  · rw [e]; exact ⟨rfl, placeT_in hs _⟩
theorem parseR_yes {s : List UInt8} (h : (parseR s).2.2 = 0) : (parseR s).2.1 = 0 ∧ okC (parseR s).1 = true := by
  rcases parseR_cases s with ⟨k, _, e, hk⟩ | ⟨ts, ls, _, _, e, hok⟩ | ⟨ts, q, hs, _, e⟩
  · rw [e] at h; simp at h
  · rw [e]; exact ⟨rfl, hok⟩
  · rw [e] at h; simp at h
theorem parseR_print {ls : List Ln} (h : okC ls = true) : parseR (printC ls) = (ls, 0, 0) := by
  obtain ⟨ms, h1, h2⟩ := print_back h
  unfold parseR
  simp only [h1, h2]
theorem print_short {ls : List Ln} (h : okC ls = true) : (printC ls).length ≤ 65536 := by
  obtain ⟨h1, h2⟩ := okC_parts h
  have := printC_len h2 ls.length
  rw [List.take_length] at this
  omega
theorem sameCds_refl : ∀ l : List Cd, sameCds l l = true
  | [] => rfl
  | c :: r => by simp [sameCds, sameCd, sameCds_refl r]
theorem sameC_refl : ∀ l : List Ln, sameC l l = true
  | [] => rfl
  | x :: r => by simp [sameC, sameLn, sameCds_refl, sameC_refl r]
/- Parse, by its answer -/
theorem parse_gives (s : ByteArray) (r : List Ln × Int × Int) (hr : parseR s.data.toList = r) (n : Nat) (hn : r.1.length = n) (hs : s.size ≤ 65536) (w : World) (hG : Globals w) :
    Calls Tryd.prog 17 #[.string s] w fun e w' => ∃ a c, e = .returned (.tuple #[.agg #[.slice a n c], .int .i64 r.2.1, .int .i64 r.2.2]) ∧ IsLns w' (.slice a n c) r.1 ∧ Below w.heap.size w w' := by
  refine (parse_any s w hs hG).mono fun e w' hh => ?_
  rw [hr] at hh
  subst hn
  obtain ⟨hb, v, he, hv⟩ := hh
  obtain ⟨a, c, rfl⟩ := hv.form
  exact ⟨a, c, he, hv, hb⟩
theorem Keep.head {w0 w : World} {v : Value} {ls : List Ln} {l : List (Value × List Ln)} {c : List (Nat × Obj)} (h : Keep w0 ((v, ls) :: l) c w) : IsLns w v ls := h.lns (v, ls) (List.mem_cons_self)

end Go.Proofs.YtlaifodlnolndaaDoor

/- The statement Back: the walk. -/
namespace Go.Proofs.YtlaifodlnolndaaDoor
open Go.RowKit

theorem txt_size (l : List UInt8) : (⟨l.toArray⟩ : ByteArray).size = l.length := by simp [ByteArray.size]
theorem printR_yes {ls : List Ln} (h : okC ls = true) : printR ls = .tuple #[.string ⟨(printC ls).toArray⟩, .int .i64 0] := by unfold printR; rw [if_pos h]
theorem printR_no {ls : List Ln} (h : okC ls = false) : printR ls = .tuple #[.string ⟨#[]⟩, .int .i64 310] := by unfold printR; rw [if_neg (by rw [h]; simp)]

set_option maxRecDepth 100000 in
set_option maxHeartbeats 8000000 in
theorem back_any (v : Value) (ls : List Ln) (s : ByteArray) (w : World) (h : IsLns w v ls) (hs : s.size ≤ 140737488355328) (hG : Globals w) :
    Calls Tryd.prog 4 #[.agg #[v], .string s] w fun e w' => e = .returned (.bool true) ∧ Below w.heap.size w w' := by
  obtain ⟨va, vc, rfl⟩ := h.form
  obtain ⟨n, hn⟩ : ∃ n, n = ls.length := ⟨_, rfl⟩
  rw [← hn] at h ⊢
  have HK := Lib.hid (((⟨Below.refl _ _, hG, fun _ h => by simp at h, fun _ h => by simp at h⟩ : Keep w [] [] w).add h).var (.slice va n vc))
  clear hG h hn
  go_enter Tryd.func4, Tryd.ntmps4
  go_wp2_with fail
  refine (sane_any _ HK.out.glob).mono ?_
  rintro e w1 ⟨rfl, hb1⟩
  have HK1 := Lib.hid (HK.out.next hb1)
  clear hb1 HK
  have c0 := HK1.out.cell (b := w.heap.size) (v := .slice va n vc) (by simp)
  go_wp2_with fail
  refine (few_any _ ls w1 HK1.out.head).mono ?_
  rintro e w2 ⟨rfl, hb2⟩
  have HK2 := Lib.hid (HK1.out.next hb2)
  clear hb2 HK1 c0
  have c0 := HK2.out.cell (b := w.heap.size) (v := .slice va n vc) (by simp)
  cases hf : fewC ls
  · go_wp2
    go_ret
    exact ⟨rfl, HK2.out.below⟩
  clear hf
  by_cases hlen : 8000 < s.size
  · have hlt : decide (8000 < (s.size : Int)) = true := by simp; omega
    go_wp2
    go_ret
    exact ⟨rfl, HK2.out.below⟩
  have hlt : decide (8000 < (s.size : Int)) = false := by simp; omega
  have hs16 : s.size ≤ 65536 := by omega
  have HS := Lib.hid hs16
  clear hs16 hs
  /- the text of the program -/
  obtain ⟨pt, pe, hpt⟩ := printR_is ls
  have HP := Lib.hid hpt
  go_wp2_with fail
  refine (print_any _ ls w2 HK2.out.head HK2.out.glob).mono ?_
  rw [HP.out]
  rintro e w3 ⟨rfl, hb3⟩
  have HK3 := Lib.hid (HK2.out.next hb3)
  clear hb3 HK2 c0 hpt
  have c0 := HK3.out.cell (b := w.heap.size) (v := .slice va n vc) (by simp)
  go_wp2_with fail
  refine (check_any _ ls w3 HK3.out.head).mono ?_
  rintro e w4 ⟨rfl, hb4⟩
  have HK4 := Lib.hid (HK3.out.next hb4)
  clear hb4 HK3 c0
  have c0 := HK4.out.cell (b := w.heap.size) (v := .slice va n vc) (by simp)
  cases hok : okC ls
  · have HE := Lib.hid (okE_no hok)
    have hpr := HP.out.symm.trans (printR_no hok)
    obtain ⟨rfl, rfl⟩ : pt = ⟨#[]⟩ ∧ pe = 310 := by simpa using hpr
    rw [HE.out]
    clear hpr hok
    go_wp2_with fail
    refine (parse_gives s _ rfl _ rfl HS.out w4 HK4.out.glob).mono ?_
    rintro e u1 ⟨a2, m2, rfl, hv2, hb2⟩
    have HL1 := Lib.hid (((HK4.out.next hb2).add hv2).var (.slice a2 (parseR s.data.toList).1.length m2))
    clear hv2 hb2 HK4 c0
    by_cases he : (parseR s.data.toList).2.2 = 0
    · obtain ⟨hat, hok⟩ := parseR_yes he
      have HB := Lib.hid (parseR_print hok)
      have HPS := Lib.hid (print_short hok)
      have HPY := Lib.hid (printR_yes hok)
      have HOK := Lib.hid (okE_yes hok)
      rw [he, hat]
      generalize (parseR s.data.toList).1 = ds at *
      clear he hat hok
      go_wp2_with fail
      have x1 := HL1.out.cell (b := u1.heap.size) (v := .slice a2 ds.length m2) (by simp)
      generalize (u1.alloc (.cells #[.slice a2 ds.length m2] 24)) = u2 at HL1 x1 ⊢
      go_wp2_with fail
      refine (print_any _ ds u2 HL1.out.head HL1.out.glob).mono ?_
      rw [HPY.out]
      rintro e u3 ⟨rfl, hb3⟩
      have HL3 := Lib.hid (HL1.out.next hb3)
      clear hb3 HL1 x1
      go_wp2_with fail
      refine (parse_gives ⟨(printC ds).toArray⟩ _ HB.out _ rfl (by rw [txt_size]; exact HPS.out) u3 HL3.out.glob).mono ?_
      rintro e u4 ⟨a4, m4, rfl, hv4, hb4⟩
      have HL4 := Lib.hid (((HL3.out.next hb4).add hv4).var (.slice a4 ds.length m4))
      clear hv4 hb4 HL3
      go_wp2_with fail
      have x4 := HL4.out.cell (b := u4.heap.size) (v := .slice a4 ds.length m4) (by simp)
      have y4 := HL4.out.cell (b := u1.heap.size) (v := .slice a2 ds.length m2) (by simp)
      generalize (u4.alloc (.cells #[.slice a4 ds.length m4] 24)) = u5 at HL4 x4 y4 ⊢
      go_wp2_with fail
      refine (print_any _ ds u5 HL4.out.head HL4.out.glob).mono ?_
      rw [HPY.out]
      rintro e u6 ⟨rfl, hb6⟩
      have HL6 := Lib.hid (HL4.out.next hb6)
      clear hb6 HL4 x4 y4
      have x4 := HL6.out.cell (b := u4.heap.size) (v := .slice a4 ds.length m4) (by simp)
      have y4 := HL6.out.cell (b := u1.heap.size) (v := .slice a2 ds.length m2) (by simp)
      go_wp2_with fail
      refine (check_any _ ds u6 (HL6.out.lns (.slice a2 ds.length m2, ds) (by simp))).mono ?_
      rw [HOK.out]
      rintro e u7 ⟨rfl, hb7⟩
      have HL7 := Lib.hid (HL6.out.next hb7)
      clear hb7 HL6 x4 y4
      have x4 := HL7.out.cell (b := u4.heap.size) (v := .slice a4 ds.length m4) (by simp)
      have y4 := HL7.out.cell (b := u1.heap.size) (v := .slice a2 ds.length m2) (by simp)
      go_wp2_with fail
      refine (same_any _ _ ds ds u7 (HL7.out.lns (.slice a4 ds.length m4, ds) (by simp)) (HL7.out.lns (.slice a2 ds.length m2, ds) (by simp))).mono ?_
      rw [sameC_refl]
      rintro e u8 ⟨rfl, hb8⟩
      have HL8 := Lib.hid (HL7.out.next hb8).below
      clear hb8 HL7 x4 y4
      go_wp2
      go_ret
      exact ⟨rfl, HL8.out⟩
    · obtain ⟨h1, h2, h3⟩ := parseR_no he
      rw [length_toList] at h3
      have h4 : (parseR s.data.toList).1.length = 0 := by rw [h1]; rfl
      rw [h4] at HL1 ⊢
      generalize (parseR s.data.toList).2.1 = at1 at h2 h3 ⊢
      generalize (parseR s.data.toList).2.2 = e1 at he ⊢
      generalize (parseR s.data.toList).1 = ds at HL1
      have HB1 := Lib.hid HL1.out.below
      clear h1 h4
      have d1 : decide (0 ≤ at1) = true := by simpa using h2
      have d2 : decide (at1 ≤ (s.size : Int)) = true := by simpa using h3
      go_wp2
      go_ret
      exact ⟨rfl, HB1.out⟩
  · have HE := Lib.hid (okE_yes hok)
    have hpr := HP.out.symm.trans (printR_yes hok)
    obtain ⟨rfl, rfl⟩ : pt = ⟨(printC ls).toArray⟩ ∧ pe = 0 := by simpa using hpr
    have HB0 := Lib.hid (parseR_print hok)
    have HPS0 := Lib.hid (print_short hok)
    rw [HE.out]
    clear hpr hok
    go_wp2_with fail
    refine (parse_gives ⟨(printC ls).toArray⟩ _ HB0.out _ rfl (by rw [txt_size]; exact HPS0.out) w4 HK4.out.glob).mono ?_
    rintro e t1 ⟨a5, m5, rfl, hv5, hb5⟩
    have HK5 := Lib.hid (((HK4.out.next hb5).add hv5).var (.slice a5 ls.length m5))
    clear hv5 hb5 HK4 c0
    have c0 := HK5.out.cell (b := w.heap.size) (v := .slice va n vc) (by simp)
    go_wp2_with fail
    generalize (t1.alloc (.cells #[.slice a5 ls.length m5] 24)) = t2 at HK5 c0 ⊢
    refine (same_any _ _ ls ls t2 (HK5.out.lns (.slice va n vc, ls) (by simp)) HK5.out.head).mono ?_
    rw [sameC_refl]
    rintro e w6 ⟨rfl, hb6⟩
    have HK6 := Lib.hid (HK5.out.next hb6)
    clear hb6 HK5 c0
    have c0 := HK6.out.cell (b := w.heap.size) (v := .slice va n vc) (by simp)
    go_wp2_with fail
    refine (parse_gives s _ rfl _ rfl HS.out w6 HK6.out.glob).mono ?_
    rintro e u1 ⟨a2, m2, rfl, hv2, hb2⟩
    have HL1 := Lib.hid (((HK6.out.next hb2).add hv2).var (.slice a2 (parseR s.data.toList).1.length m2))
    clear hv2 hb2 HK6 c0
    by_cases he : (parseR s.data.toList).2.2 = 0
    · obtain ⟨hat, hok⟩ := parseR_yes he
      have HB := Lib.hid (parseR_print hok)
      have HPS := Lib.hid (print_short hok)
      have HPY := Lib.hid (printR_yes hok)
      have HOK := Lib.hid (okE_yes hok)
      rw [he, hat]
      generalize (parseR s.data.toList).1 = ds at *
      clear he hat hok
      go_wp2_with fail
      have x1 := HL1.out.cell (b := u1.heap.size) (v := .slice a2 ds.length m2) (by simp)
      generalize (u1.alloc (.cells #[.slice a2 ds.length m2] 24)) = u2 at HL1 x1 ⊢
      go_wp2_with fail
      refine (print_any _ ds u2 HL1.out.head HL1.out.glob).mono ?_
      rw [HPY.out]
      rintro e u3 ⟨rfl, hb3⟩
      have HL3 := Lib.hid (HL1.out.next hb3)
      clear hb3 HL1 x1
      go_wp2_with fail
      refine (parse_gives ⟨(printC ds).toArray⟩ _ HB.out _ rfl (by rw [txt_size]; exact HPS.out) u3 HL3.out.glob).mono ?_
      rintro e u4 ⟨a4, m4, rfl, hv4, hb4⟩
      have HL4 := Lib.hid (((HL3.out.next hb4).add hv4).var (.slice a4 ds.length m4))
      clear hv4 hb4 HL3
      go_wp2_with fail
      have x4 := HL4.out.cell (b := u4.heap.size) (v := .slice a4 ds.length m4) (by simp)
      have y4 := HL4.out.cell (b := u1.heap.size) (v := .slice a2 ds.length m2) (by simp)
      generalize (u4.alloc (.cells #[.slice a4 ds.length m4] 24)) = u5 at HL4 x4 y4 ⊢
      go_wp2_with fail
      refine (print_any _ ds u5 HL4.out.head HL4.out.glob).mono ?_
      rw [HPY.out]
      rintro e u6 ⟨rfl, hb6⟩
      have HL6 := Lib.hid (HL4.out.next hb6)
      clear hb6 HL4 x4 y4
      have x4 := HL6.out.cell (b := u4.heap.size) (v := .slice a4 ds.length m4) (by simp)
      have y4 := HL6.out.cell (b := u1.heap.size) (v := .slice a2 ds.length m2) (by simp)
      go_wp2_with fail
      refine (check_any _ ds u6 (HL6.out.lns (.slice a2 ds.length m2, ds) (by simp))).mono ?_
      rw [HOK.out]
      rintro e u7 ⟨rfl, hb7⟩
      have HL7 := Lib.hid (HL6.out.next hb7)
      clear hb7 HL6 x4 y4
      have x4 := HL7.out.cell (b := u4.heap.size) (v := .slice a4 ds.length m4) (by simp)
      have y4 := HL7.out.cell (b := u1.heap.size) (v := .slice a2 ds.length m2) (by simp)
      go_wp2_with fail
      refine (same_any _ _ ds ds u7 (HL7.out.lns (.slice a4 ds.length m4, ds) (by simp)) (HL7.out.lns (.slice a2 ds.length m2, ds) (by simp))).mono ?_
      rw [sameC_refl]
      rintro e u8 ⟨rfl, hb8⟩
      have HL8 := Lib.hid (HL7.out.next hb8).below
      clear hb8 HL7 x4 y4
      go_wp2
      go_ret
      exact ⟨rfl, HL8.out⟩
    · obtain ⟨h1, h2, h3⟩ := parseR_no he
      rw [length_toList] at h3
      have h4 : (parseR s.data.toList).1.length = 0 := by rw [h1]; rfl
      rw [h4] at HL1 ⊢
      generalize (parseR s.data.toList).2.1 = at1 at h2 h3 ⊢
      generalize (parseR s.data.toList).2.2 = e1 at he ⊢
      generalize (parseR s.data.toList).1 = ds at HL1
      have HB1 := Lib.hid HL1.out.below
      clear h1 h4
      have d1 : decide (0 ≤ at1) = true := by simpa using h2
      have d2 : decide (at1 ≤ (s.size : Int)) = true := by simpa using h3
      go_wp2
      go_ret
      exact ⟨rfl, HB1.out⟩

end Go.Proofs.YtlaifodlnolndaaDoor

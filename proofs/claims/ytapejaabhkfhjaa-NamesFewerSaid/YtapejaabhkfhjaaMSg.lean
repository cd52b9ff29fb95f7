/- Check: the ranges over the references (printed by gen_sg.py). -/
import Derived.Test.YtapejaabhkfhjaaMSf
namespace Go.Proofs.Ytapejaabhkfhjaa
open Go.RowKit
attribute [local go_sem] Oper.semAt_some

theorem OwnRf.low {B B' : Nat} {w : World} {v : Value} {l : List Rf} (h : OwnRf B w v l) (hb : B' ≤ B) : OwnRf B' w v l := by
  obtain ⟨h1, h2⟩ := h
  refine ⟨h1, h2.imp id ?_⟩
  rintro ⟨g, cap, cur, e, h4, h5⟩
  exact ⟨g, cap, cur, e, by omega, h5⟩
theorem RefJ.below {W0 V V' : World} {Bx : Nat} {l : List Rf} {O : Nat → Prop} (h : RefJ W0 Bx l O V) (hb : Below V.heap.size V V') : RefJ W0 Bx l O V' := by
  obtain ⟨v, r1, r2, r3⟩ := h.row
  exact ⟨⟨hb.os.trans h.grown.os, hb.tape.trans h.grown.tape, hb.output.trans h.grown.output, Nat.le_trans h.grown.size hb.size, fun b hlt hne => (hb.block b (Nat.lt_of_lt_of_le hlt h.grown.size)).trans (h.grown.block b hlt hne)⟩, h.ownO, v, (hb.block _ (Array.getElem?_eq_some_iff.1 r1).1).trans r1, r2.up (fun g _ hlt => hb.block g hlt), r3⟩

set_option maxRecDepth 100000 in
set_option maxHeartbeats 16000000 in
theorem chk_b {Q : Exit → Act → World → Prop} {w V : World} {x : Src} {L1 L2 : Lay} {cs1 cs2 : List Value} {N1 N2 : Nat → Prop} {base B3 B4 B5 D1 : Nat} (hQ : CPost Q w x) (hw : wrongS x = 0)
    (h1 : Placed V w.heap.size B4 x L1 cs1 N1) (h2 : Placed V B3 B4 (resolved x) L2 cs2 N2) (h45 : B4 < B5) (h5 : B5 < base) (hb : Below w.heap.size w V) (hlow : base ≤ V.heap.size)
    (hra : ∃ va, V.heap[B4]? = some (.cells #[va] 127 (0, 0)) ∧ OwnRf base V va (refsU x)) (hrb : V.heap[B5]? = some (.cells #[.slice none 0 0] 127 (0, 0)))
    (hD1 : w.heap.size ≤ D1) (hd1 : V.heap[D1]? = some (.deferred (some []))) (hlen : (refsA x).length ≤ 900000000) (hlen2 : (refsA (resolved x)).length ≤ 900000000)
    (u0 u6 u7 u8 u9 u10 u11 u12 u13 u14 u15 u16 u17 u18 u19 u20 u21 u22 u23 u24 u25 u26 u27 u28 u29 u30 u31 u32 u33 u34 u35 u36 u37 u38 u39 u40 u41 u42 u43 u44 u45 u46 u47 u48 u49 u50 u51 u52 u53 u54 u55 u56 u57 u58 u59 u60 u61 u62 u63 : Value) :
    wpAt 14 Try.prog (tailC 5 (Try.f14.body.getD .skip)) Q { tmps := #[u0, .pointer (some ⟨w.heap.size, 0, none⟩), .int .i64 0, .pointer (some ⟨B3, 0, none⟩), .pointer (some ⟨B4, 0, none⟩), .pointer (some ⟨B5, 0, none⟩), u6, u7, u8, u9, u10, u11, u12, u13, u14, u15, u16, u17, u18, u19, u20, u21, u22, u23, u24, u25, u26, u27, u28, u29, u30, u31, u32, u33, u34, u35, u36, u37, u38, u39, u40, u41, u42, u43, u44, u45, u46, u47, u48, u49, u50, u51, u52, u53, u54, u55, u56, u57, u58, u59, u60, u61, u62, u63], defers := [coll D1] } V := by
  obtain ⟨x0, hx0⟩ : ∃ x0 : Src, x0 = resolved x := ⟨_, rfl⟩
  obtain ⟨L, cs, NN, hP⟩ : ∃ L cs NN, Placed V B3 B4 x0 L cs NN := by rw [hx0]; exact ⟨_, _, _, h2⟩
  have hfit : fitsAll x0 = true := by rw [hx0]; exact fits_mp (wrong_zero hw).1
  have hok : usesOk (Tb.of x) x0 = true := by rw [hx0]; exact usesOk_mp (wrong_zero hw).2.2.2.2
  have hl9 : (refsU x0).length ≤ 900000000 := by
    rw [hx0]; have := hlen2; unfold refsA at this; rw [List.length_append] at this; omega
  have hsB : B3 < B4 := hP.lt _ (.inl rfl)
  obtain ⟨W5, hW5⟩ : ∃ W5, W5 = (V.alloc (.cells #[.pointer (some ⟨B3, 0, none⟩)] 52)) := ⟨_, rfl⟩
  have hb5 : Below V.heap.size V W5 := by rw [hW5]; exact (Below.refl _ _).alloc (Nat.le_refl _) _
  have hz5 : W5.heap.size = V.heap.size + 1 := by rw [hW5]; simp
  have hP5 : Placed W5 B3 B4 x0 L cs NN := hP.up (fun b hb => hb5.block b (by omega))
  have hbx : W5.cell? ⟨V.heap.size, 0, none⟩ = some (.pointer (some ⟨L.s, 0, none⟩)) := by
    rw [hP.at0, hW5]
    have h := World.alloc_heap_new V (.cells #[.pointer (some ⟨B3, 0, none⟩)] 52)
    simp only [World.cell?, h]
    rfl
  have hrg : W5.rangeAt L.s 0 cs := by rw [hP.at0]; exact hP5.range
  have hU := usesC_ro hP5.src hrg hbx hfit
  obtain ⟨hR, hM⟩ := uses_refs hP5.src hrg
  have ho2 : (usesU W5 L x0).2 = true := ((allU_uses (Tb.of x) hU).2 hok).1
  have hM2 := hM ho2
  have hXl : (usesU W5 L x0).1.length = (refsU x0).length := by rw [← hM2, List.length_map]
  have hKs : ∀ k O U, RefJ W5 B5 ((refsU x0).take k) O U → ∀ b, (InS NN L.s b ∨ b = V.heap.size) → U.heap[b]? = W5.heap[b]? := fun k O U h b hb => by
    rcases hb with hb | rfl
    · rw [hP.at0] at hb
      have := hP.lt b hb
      exact h.same (by omega) (by omega)
    · exact h.same (by omega) (by omega)
  have HU := Lib.hid hU; have HR := Lib.hid hR; have HM := Lib.hid hM2; have HXl := Lib.hid hXl; have HKs := Lib.hid hKs; have HO2 := Lib.hid ho2; have HZ5 := Lib.hid hz5; have HB5 := Lib.hid hb5
  have HP := Lib.hid hP; have HL9 := Lib.hid hl9
  have HBx : Hid (B5 < V.heap.size ∧ ∃ u : Value, W5.heap[B5]? = some (.cells #[u] 127 (0, 0))) := Lib.hid ⟨by omega, by
    rw [hb5.block _ (by omega)]; exact ⟨_, hrb⟩⟩
  have HBlt : Hid (B5 < W5.heap.size) := Lib.hid (by omega)
  have HJ0 : Hid (RefJ W5 B5 ((refsU x0).take 0) (fun _ => False) W5) := Lib.hid (by
    rw [List.take_zero]
    exact RefJ.start W5 (by rw [hb5.block _ (by omega)]; exact hrb))
  have HW5 := Lib.hid hW5; have HX0 := Lib.hid hx0; have HsB := Lib.hid hsB
  have HAll := Lib.hid (And.intro hQ (And.intro hw (And.intro h1 (And.intro h2 (And.intro h45 (And.intro h5 (And.intro hb hlow)))))))
  have HMore := Lib.hid (And.intro hra (And.intro hrb (And.intro hD1 hd1)))
  have HLens := Lib.hid (And.intro hlen hlen2)
  clear hW5 hQ hw h1 h2 h45 h5 hb hlow hfit hok hl9 hsB hb5 hz5 hP5 hbx hrg hU hR hM hM2 ho2 hXl hKs hP hx0 hlen hlen2 hra hrb hD1 hd1
  unfold coll
  refine wpAt_seq (wpAt_seq (wpAt_of_wp ?_))
  go_wp2_with (first | (go_at_call 51; refine (uses_any _ _).mono ?_; rintro e w2 ⟨rfl, rfl⟩))
  rw [← HW5.out]
  refine wpAt_block ?_
  refine wpAt_rangeP (n := 10) Try.func14 rfl (fun _ _ => rfl) (uses_seq 9 (by omega) HU.out) (fun a ha => by
      obtain ⟨u, _, rfl⟩ := List.mem_map.1 ha
      rfl)
    (fun k O U => RefJ W5 B5 ((refsU x0).take k) O U) (fun _ _ _ => False) (fun _ _ _ => False)
    (fun k a O U => RefJ W5 B5 ((refsU x0).take k) O U ∧ ∃ (ub uo : Nat) (uto uat : Int) (unm : ByteArray) (un : Int) (g : Nat), (usesU W5 L x0).1[k]? = some ⟨ub, uo, uto, uat, unm, un⟩ ∧ ¬ O g ∧ g < U.heap.size ∧ U.heap[g]? = some (.cells #[.pointer (some ⟨ub, uo, none⟩), .int .i64 uto, .int .i64 uat] 106 (0, 0)) ∧ a = { tmps := #[u0, .pointer (some ⟨w.heap.size, 0, none⟩), .int .i64 0, .pointer (some ⟨B3, 0, none⟩), .pointer (some ⟨B4, 0, none⟩), .pointer (some ⟨B5, 0, none⟩), u6, .pointer (some ⟨g, 0, none⟩), u8, u9, u10, u11, u12, u13, u14, u15, u16, u17, u18, u19, u20, u21, u22, u23, u24, u25, .func (.func 81) #[] #[.pointer (some ⟨V.heap.size, 0, none⟩)], .agg #[.pointer (some ⟨ub, uo, none⟩), .int .i64 uto, .int .i64 uat], u28, u29, u30, u31, u32, u33, u34, u35, u36, u37, u38, u39, u40, u41, u42, u43, u44, u45, u46, u47, u48, u49, u50, u51, u52, u53, u54, u55, u56, u57, u58, u59, u60, u61, u62, u63], defers := [] })
    (RefJ.stays (W0 := W5) HBlt.out (fun k => (refsU x0).take k)) (fun _ _ _ _ _ _ h => h.elim) (fun _ _ _ _ _ _ h => h.elim) ?_ (fun k O U h => hdU_same (HKs.out k O U h)) (fun _ _ _ h => h.elim) ?_ HJ0.out ?_ ?_ ?_ (fun _ _ _ _ _ _ h => h.elim) (fun _ _ _ _ _ _ h => h.elim)
  · rintro a k O U O' U' ⟨h1, ub, uo, uto, uat, unm, un, g, h2, h3, h4, h5, h6⟩ hz ho ht hu hk hO
    exact ⟨RefJ.stays (W0 := W5) HBlt.out (fun k => (refsU x0).take k) k O U O' U' h1 hz ho ht hu hk hO, ub, uo, uto, uat, unm, un, g, h2, fun h => (hO g h).elim h3 (fun h => by omega), by omega, (hk g h3 h4).trans h5, h6⟩
  · intro ch he O U hJ
    rw [HO2.out] at he
    cases he
  · intro k hk O U lo hJ hO hl hOV
    have hk2 : k < (usesU W5 L x0).1.length := by rw [List.length_map] at hk; exact hk
    rw [List.getElem_map]
    have HUk := Lib.hid (List.getElem?_eq_getElem hk2)
    generalize (usesU W5 L x0).1[k] = u at HUk ⊢
    obtain ⟨ub, uo, uto, uat, unm, un⟩ := u
    have HJ := Lib.hid hJ; have HOV := Lib.hid hOV
    clear hJ hO hl hOV hk hk2
    unfold Us.v
    simp only
    gi_wp2
    have fin : Same O U (U.alloc (.cells #[.pointer (some ⟨ub, uo, none⟩), .int .i64 uto, .int .i64 uat] 106)) := ⟨by simp, fun b hb => Below.heap_alloc _ _ _ (HOV.out b hb)⟩
    have fin2 : RefJ W5 B5 ((refsU x0).take k) O (U.alloc (.cells #[.pointer (some ⟨ub, uo, none⟩), .int .i64 uto, .int .i64 uat] 106)) := HJ.out.below ((Below.refl U.heap.size U).alloc (Nat.le_refl _) _)
    have fin3 : ¬ O U.heap.size := fun h => Nat.lt_irrefl _ (HOV.out _ h)
    first
    | exact ⟨fin, fin2, ub, uo, uto, uat, unm, un, U.heap.size, HUk.out, fin3, by simp, World.alloc_heap_new _ _, rfl⟩
    | (rename_i hK; exact hK _ _ ⟨fin, fin2, ub, uo, uto, uat, unm, un, U.heap.size, HUk.out, fin3, by simp, World.alloc_heap_new _ _, rfl⟩)
    | (rename_i hK _; exact hK _ _ ⟨fin, fin2, ub, uo, uto, uat, unm, un, U.heap.size, HUk.out, fin3, by simp, World.alloc_heap_new _ _, rfl⟩)
    | fail
  · rintro k hk O U lo a1 hl hrec hOV ⟨hJ, ub, uo, uto, uat, unm, un, g, hu, hg1, hg2, hg3, rfl⟩
    have hmem := HR.out _ (List.mem_of_getElem? hu)
    have hub := HKs.out k O U hJ ub (.inl hmem.inS)
    have hrk : (refsU x0)[k]? = some (⟨unm, un⟩ : Rf) := by
      rw [← HM.out, List.getElem?_map, hu]; rfl
    obtain ⟨va, r1, r2, r3⟩ := hJ.row
    have HJ := Lib.hid hJ
    have HNx : Hid (∀ U', RefJ W5 B5 ((refsU x0).take k ++ [⟨unm, un⟩]) O U' → RefJ W5 B5 ((refsU x0).take (k + 1)) O U') := Lib.hid (fun U' h => by rw [take_next hrk] at h; exact h)
    have HLk : Hid (((refsU x0).take k).length + 1 ≤ 1000000000) := Lib.hid (by
      have := HL9.out
      rw [List.length_take]; omega)
    have HVa : Hid (U.cell? ⟨B5, 0, none⟩ = some va) := Lib.hid (by simp [World.cell?, r1])
    have HBox : Hid (∃ u, U.heap[B5]? = some (.cells #[u] 127 (0, 0))) := Lib.hid ⟨_, r1⟩
    have HOwn := Lib.hid r2
    have HUse : Hid (U.cell? ⟨g, 0, none⟩ = some (.pointer (some ⟨ub, uo, none⟩))) := Lib.hid (by simp [World.cell?, hg3])
    have HNm : Hid (U.cell? ⟨ub, uo, none⟩ = some (.string unm)) := Lib.hid ((cell_of_block hub).trans hmem.name)
    have HNn : Hid (U.cell? ⟨ub, uo + 1, none⟩ = some (.int .i64 un)) := Lib.hid ((cell_of_block hub).trans hmem.n)
    have HAr : Hid (B5 < W5.heap.size ∧ W5.heap.size ≤ U.heap.size ∧ g < U.heap.size ∧ ub < W5.heap.size) := Lib.hid ⟨HBlt.out, hJ.grown.size, hg2, by
      have h1 := hmem.inS
      rw [HP.out.at0] at h1
      have := HP.out.lt ub h1
      have := HBx.out.1
      have := HZ5.out
      have := HAll.out.2.2.2.2.1
      simp only at *
      omega⟩
    have HOV := Lib.hid hOV
    clear hmem hub hrk r1 r2 r3 hJ hu hg1 hg2 hg3 hl hrec hk hOV
    gi_wp2_with fail
    refine reg10 (W0 := U) (Bx := B5) (b6 := g) (ub := ub) (uo := uo) (base := W5.heap.size) (va := va) (ls := (refsU x0).take k) (r := ⟨unm, un⟩) _ ?_ ?_ ?_ ?_ ?_ ?_ ?_ ?_ ?_ ?_ ?_ ?_ ?_ ?_ ?_ ?_ ?_
    · rfl
    · rfl
    · rfl
    · rfl
    · have := HAr.out; omega
    · have := HAr.out; omega
    · have := HAr.out; omega
    · exact HBox.out
    · exact HVa.out
    · exact HUse.out
    · exact HNm.out
    · exact HNn.out
    · exact HOwn.out
    · exact HLk.out
    · exact HAr.out.2.1
    · exact HAr.out.1
    · intro a w1 v _ _ _ hp
      have h := HJ.out.put HBlt.out HOV.out HVa.out hp
      exact ⟨h.2, HNx.out _ h.1⟩
  · intro _ D O U hD hOD hJ hdf
    obtain ⟨hQ, hw, h1, h2, h45, h5, hb, hlow⟩ := HAll.out
    obtain ⟨hlen, hlen2⟩ := HLens.out
    have hz5 := HZ5.out
    have hb5 := HB5.out
    have hB4 := HsB.out
    have hBx := HBx.out.1
    have hJ2 : RefJ W5 B5 (refsU (resolved x)) O U := by
      have h := hJ
      rw [List.length_map, HXl.out, List.take_length, HX0.out] at h
      exact h
    obtain ⟨v2, q1, q2, q3⟩ := hJ2.row
    have hsm : ∀ b, b < V.heap.size → b ≠ B5 → U.heap[b]? = V.heap[b]? := fun b hlt hne => (hJ2.same (by omega) hne).trans (hb5.block b hlt)
    have hUz := hJ2.grown.size
    have hbU : Below w.heap.size w U := hb.trans ⟨hJ2.grown.os.trans hb5.os, hJ2.grown.tape.trans hb5.tape, hJ2.grown.output.trans hb5.output, by omega, fun b hlt => hsm b (by have := hb.size; omega) (by have := h1.lt _ (.inl rfl); omega)⟩
    have h1' := h1.up (fun b hlt => hsm b (by omega) (by omega))
    have h2' := h2.up (fun b hlt => hsm b (by omega) (by omega))
    obtain ⟨⟨va, p1, p2⟩, hrb, hD1, hd1⟩ := HMore.out
    have hne : D1 ≠ B5 := fun e => by rw [e, hrb] at hd1; cases hd1
    have hlt1 := (Array.getElem?_eq_some_iff.1 hd1).1
    have hL : Lists U base B4 B5 (refsU x) (refsU (resolved x)) U := ⟨rfl, rfl, rfl, Nat.le_refl _, by omega, fun _ _ _ _ h _ => h, fun _ _ _ _ => rfl, va, v2, (hsm B4 (by omega) (by omega)).trans p1, q1, Below.refl _ _, by omega, p2.up (fun g hg hlt => hsm g hlt (by have := (p2.lt hg).1; omega)), q2.low (by omega), fun g e1 e2 => by have := (p2.lt e1).2; have := (q2.lt e2).1; omega, fun _ _ h _ => h⟩
    exact chk_c (base := base) hQ hw h1' h2' h45 h5 hbU hL ⟨by omega, hD1, by have := hb.size; omega⟩ ((hsm D1 hlt1 hne).trans hd1) hdf hlen hlen2 _ _ _ _ _ _ _ _ _ _ _ _ _ _ _ _ _ _ _ _ _ _ _ _ _ _ _ _ _ _ _ _ _ _ _ _ _ _ _ _ _ _ _ _ _ _ _ _ _ _ _ _ _ _ _ _ _ _ _

set_option maxRecDepth 100000 in
set_option maxHeartbeats 16000000 in
theorem chk_a {Q : Exit → Act → World → Prop} {w V : World} {x : Src} {L1 L2 : Lay} {cs1 cs2 : List Value} {N1 N2 : Nat → Prop} {base B3 B4 B5 : Nat} (hQ : CPost Q w x) (hw : wrongS x = 0)
    (h1 : Placed V w.heap.size B4 x L1 cs1 N1) (h2 : Placed V B3 B4 (resolved x) L2 cs2 N2) (h45 : B4 < B5) (h5 : B5 < base) (hb : Below w.heap.size w V) (hlow : base ≤ V.heap.size)
    (hra : ∃ u : Value, V.heap[B4]? = some (.cells #[u] 127 (0, 0))) (hra0 : V.heap[B4]? = some (.cells #[.slice none 0 0] 127 (0, 0))) (hrb : V.heap[B5]? = some (.cells #[.slice none 0 0] 127 (0, 0)))
    (hlen : (refsA x).length ≤ 900000000) (hlen2 : (refsA (resolved x)).length ≤ 900000000)
    (u0 u6 u7 u8 u9 u10 u11 u12 u13 u14 u15 u16 u17 u18 u19 u20 u21 u22 u23 u24 u25 u26 u27 u28 u29 u30 u31 u32 u33 u34 u35 u36 u37 u38 u39 u40 u41 u42 u43 u44 u45 u46 u47 u48 u49 u50 u51 u52 u53 u54 u55 u56 u57 u58 u59 u60 u61 u62 u63 : Value) :
    wpAt 14 Try.prog (tailC 4 (Try.f14.body.getD .skip)) Q { tmps := #[u0, .pointer (some ⟨w.heap.size, 0, none⟩), .int .i64 0, .pointer (some ⟨B3, 0, none⟩), .pointer (some ⟨B4, 0, none⟩), .pointer (some ⟨B5, 0, none⟩), u6, u7, u8, u9, u10, u11, u12, u13, u14, u15, u16, u17, u18, u19, u20, u21, u22, u23, u24, u25, u26, u27, u28, u29, u30, u31, u32, u33, u34, u35, u36, u37, u38, u39, u40, u41, u42, u43, u44, u45, u46, u47, u48, u49, u50, u51, u52, u53, u54, u55, u56, u57, u58, u59, u60, u61, u62, u63], defers := [] } V := by
  obtain ⟨x0, hx0⟩ : ∃ x0 : Src, x0 = x := ⟨_, rfl⟩
  obtain ⟨L, cs, NN, hP⟩ : ∃ L cs NN, Placed V w.heap.size B4 x0 L cs NN := by rw [hx0]; exact ⟨_, _, _, h1⟩
  have hfit : fitsAll x0 = true := by rw [hx0]; exact (wrong_zero hw).1
  have hok : usesOk (Tb.of x) x0 = true := by rw [hx0]; exact (wrong_zero hw).2.2.2.2
  have hl9 : (refsU x0).length ≤ 900000000 := by
    rw [hx0]; have := hlen; unfold refsA at this; rw [List.length_append] at this; omega
  have hsB : w.heap.size < B4 := hP.lt _ (.inl rfl)
  obtain ⟨W5, hW5⟩ : ∃ W5, W5 = (V.alloc (.cells #[.pointer (some ⟨w.heap.size, 0, none⟩)] 52)) := ⟨_, rfl⟩
  have hb5 : Below V.heap.size V W5 := by rw [hW5]; exact (Below.refl _ _).alloc (Nat.le_refl _) _
  have hz5 : W5.heap.size = V.heap.size + 1 := by rw [hW5]; simp
  have hP5 : Placed W5 w.heap.size B4 x0 L cs NN := hP.up (fun b hb => hb5.block b (by omega))
  have hbx : W5.cell? ⟨V.heap.size, 0, none⟩ = some (.pointer (some ⟨L.s, 0, none⟩)) := by
    rw [hP.at0, hW5]
    have h := World.alloc_heap_new V (.cells #[.pointer (some ⟨w.heap.size, 0, none⟩)] 52)
    simp only [World.cell?, h]
    rfl
  have hrg : W5.rangeAt L.s 0 cs := by rw [hP.at0]; exact hP5.range
  have hU := usesC_ro hP5.src hrg hbx hfit
  obtain ⟨hR, hM⟩ := uses_refs hP5.src hrg
  have ho2 : (usesU W5 L x0).2 = true := ((allU_uses (Tb.of x) hU).2 hok).1
  have hM2 := hM ho2
  have hXl : (usesU W5 L x0).1.length = (refsU x0).length := by rw [← hM2, List.length_map]
  have hKs : ∀ k O U, RefJ W5 B4 ((refsU x0).take k) O U → ∀ b, (InS NN L.s b ∨ b = V.heap.size) → U.heap[b]? = W5.heap[b]? := fun k O U h b hb => by
    rcases hb with hb | rfl
    · rw [hP.at0] at hb
      have := hP.lt b hb
      exact h.same (by omega) (by omega)
    · exact h.same (by omega) (by omega)
  have HU := Lib.hid hU; have HR := Lib.hid hR; have HM := Lib.hid hM2; have HXl := Lib.hid hXl; have HKs := Lib.hid hKs; have HO2 := Lib.hid ho2; have HZ5 := Lib.hid hz5; have HB5 := Lib.hid hb5
  have HP := Lib.hid hP; have HL9 := Lib.hid hl9
  have HBx : Hid (B4 < V.heap.size ∧ ∃ u : Value, W5.heap[B4]? = some (.cells #[u] 127 (0, 0))) := Lib.hid ⟨by omega, by
    rw [hb5.block _ (by omega)]; exact hra⟩
  have HBlt : Hid (B4 < W5.heap.size) := Lib.hid (by omega)
  have HJ0 : Hid (RefJ W5 B4 ((refsU x0).take 0) (fun _ => False) W5) := Lib.hid (by
    rw [List.take_zero]
    exact RefJ.start W5 (by rw [hb5.block _ (by omega)]; exact hra0))
  have HW5 := Lib.hid hW5; have HX0 := Lib.hid hx0; have HsB := Lib.hid hsB
  have HAll := Lib.hid (And.intro hQ (And.intro hw (And.intro h1 (And.intro h2 (And.intro h45 (And.intro h5 (And.intro hb hlow)))))))
  have HMore := Lib.hid (And.intro hra0 hrb)
  have HLens := Lib.hid (And.intro hlen hlen2)
  clear hW5 hQ hw h1 h2 h45 h5 hb hlow hfit hok hl9 hsB hb5 hz5 hP5 hbx hrg hU hR hM hM2 ho2 hXl hKs hP hx0 hlen hlen2 hra hra0 hrb
  
  refine wpAt_seq (wpAt_seq (wpAt_of_wp ?_))
  go_wp2_with (first | (go_at_call 51; refine (uses_any _ _).mono ?_; rintro e w2 ⟨rfl, rfl⟩))
  rw [← HW5.out]
  refine wpAt_block ?_
  refine wpAt_rangeP (n := 10) Try.func14 rfl (fun _ _ => rfl) (uses_seq 9 (by omega) HU.out) (fun a ha => by
      obtain ⟨u, _, rfl⟩ := List.mem_map.1 ha
      rfl)
    (fun k O U => RefJ W5 B4 ((refsU x0).take k) O U) (fun _ _ _ => False) (fun _ _ _ => False)
    (fun k a O U => RefJ W5 B4 ((refsU x0).take k) O U ∧ ∃ (ub uo : Nat) (uto uat : Int) (unm : ByteArray) (un : Int) (g : Nat), (usesU W5 L x0).1[k]? = some ⟨ub, uo, uto, uat, unm, un⟩ ∧ ¬ O g ∧ g < U.heap.size ∧ U.heap[g]? = some (.cells #[.pointer (some ⟨ub, uo, none⟩), .int .i64 uto, .int .i64 uat] 106 (0, 0)) ∧ a = { tmps := #[u0, .pointer (some ⟨w.heap.size, 0, none⟩), .int .i64 0, .pointer (some ⟨B3, 0, none⟩), .pointer (some ⟨B4, 0, none⟩), .pointer (some ⟨B5, 0, none⟩), .pointer (some ⟨g, 0, none⟩), u7, u8, u9, u10, u11, u12, u13, u14, u15, u16, .func (.func 81) #[] #[.pointer (some ⟨V.heap.size, 0, none⟩)], .agg #[.pointer (some ⟨ub, uo, none⟩), .int .i64 uto, .int .i64 uat], u19, u20, u21, u22, u23, u24, u25, u26, u27, u28, u29, u30, u31, u32, u33, u34, u35, u36, u37, u38, u39, u40, u41, u42, u43, u44, u45, u46, u47, u48, u49, u50, u51, u52, u53, u54, u55, u56, u57, u58, u59, u60, u61, u62, u63], defers := [] })
    (RefJ.stays (W0 := W5) HBlt.out (fun k => (refsU x0).take k)) (fun _ _ _ _ _ _ h => h.elim) (fun _ _ _ _ _ _ h => h.elim) ?_ (fun k O U h => hdU_same (HKs.out k O U h)) (fun _ _ _ h => h.elim) ?_ HJ0.out ?_ ?_ ?_ (fun _ _ _ _ _ _ h => h.elim) (fun _ _ _ _ _ _ h => h.elim)
  · rintro a k O U O' U' ⟨h1, ub, uo, uto, uat, unm, un, g, h2, h3, h4, h5, h6⟩ hz ho ht hu hk hO
    exact ⟨RefJ.stays (W0 := W5) HBlt.out (fun k => (refsU x0).take k) k O U O' U' h1 hz ho ht hu hk hO, ub, uo, uto, uat, unm, un, g, h2, fun h => (hO g h).elim h3 (fun h => by omega), by omega, (hk g h3 h4).trans h5, h6⟩
  · intro ch he O U hJ
    rw [HO2.out] at he
    cases he
  · intro k hk O U lo hJ hO hl hOV
    have hk2 : k < (usesU W5 L x0).1.length := by rw [List.length_map] at hk; exact hk
    rw [List.getElem_map]
    have HUk := Lib.hid (List.getElem?_eq_getElem hk2)
    generalize (usesU W5 L x0).1[k] = u at HUk ⊢
    obtain ⟨ub, uo, uto, uat, unm, un⟩ := u
    have HJ := Lib.hid hJ; have HOV := Lib.hid hOV
    clear hJ hO hl hOV hk hk2
    unfold Us.v
    simp only
    gi_wp2
    have fin : Same O U (U.alloc (.cells #[.pointer (some ⟨ub, uo, none⟩), .int .i64 uto, .int .i64 uat] 106)) := ⟨by simp, fun b hb => Below.heap_alloc _ _ _ (HOV.out b hb)⟩
    have fin2 : RefJ W5 B4 ((refsU x0).take k) O (U.alloc (.cells #[.pointer (some ⟨ub, uo, none⟩), .int .i64 uto, .int .i64 uat] 106)) := HJ.out.below ((Below.refl U.heap.size U).alloc (Nat.le_refl _) _)
    have fin3 : ¬ O U.heap.size := fun h => Nat.lt_irrefl _ (HOV.out _ h)
    first
    | exact ⟨fin, fin2, ub, uo, uto, uat, unm, un, U.heap.size, HUk.out, fin3, by simp, World.alloc_heap_new _ _, rfl⟩
    | (rename_i hK; exact hK _ _ ⟨fin, fin2, ub, uo, uto, uat, unm, un, U.heap.size, HUk.out, fin3, by simp, World.alloc_heap_new _ _, rfl⟩)
    | (rename_i hK _; exact hK _ _ ⟨fin, fin2, ub, uo, uto, uat, unm, un, U.heap.size, HUk.out, fin3, by simp, World.alloc_heap_new _ _, rfl⟩)
    | fail
  · rintro k hk O U lo a1 hl hrec hOV ⟨hJ, ub, uo, uto, uat, unm, un, g, hu, hg1, hg2, hg3, rfl⟩
    have hmem := HR.out _ (List.mem_of_getElem? hu)
    have hub := HKs.out k O U hJ ub (.inl hmem.inS)
    have hrk : (refsU x0)[k]? = some (⟨unm, un⟩ : Rf) := by
      rw [← HM.out, List.getElem?_map, hu]; rfl
    obtain ⟨va, r1, r2, r3⟩ := hJ.row
    have HJ := Lib.hid hJ
    have HNx : Hid (∀ U', RefJ W5 B4 ((refsU x0).take k ++ [⟨unm, un⟩]) O U' → RefJ W5 B4 ((refsU x0).take (k + 1)) O U') := Lib.hid (fun U' h => by rw [take_next hrk] at h; exact h)
    have HLk : Hid (((refsU x0).take k).length + 1 ≤ 1000000000) := Lib.hid (by
      have := HL9.out
      rw [List.length_take]; omega)
    have HVa : Hid (U.cell? ⟨B4, 0, none⟩ = some va) := Lib.hid (by simp [World.cell?, r1])
    have HBox : Hid (∃ u, U.heap[B4]? = some (.cells #[u] 127 (0, 0))) := Lib.hid ⟨_, r1⟩
    have HOwn := Lib.hid r2
    have HUse : Hid (U.cell? ⟨g, 0, none⟩ = some (.pointer (some ⟨ub, uo, none⟩))) := Lib.hid (by simp [World.cell?, hg3])
    have HNm : Hid (U.cell? ⟨ub, uo, none⟩ = some (.string unm)) := Lib.hid ((cell_of_block hub).trans hmem.name)
    have HNn : Hid (U.cell? ⟨ub, uo + 1, none⟩ = some (.int .i64 un)) := Lib.hid ((cell_of_block hub).trans hmem.n)
    have HAr : Hid (B4 < W5.heap.size ∧ W5.heap.size ≤ U.heap.size ∧ g < U.heap.size ∧ ub < W5.heap.size) := Lib.hid ⟨HBlt.out, hJ.grown.size, hg2, by
      have h1 := hmem.inS
      rw [HP.out.at0] at h1
      have := HP.out.lt ub h1
      have := HBx.out.1
      have := HZ5.out
      have := HAll.out.2.2.2.2.1
      simp only at *
      omega⟩
    have HOV := Lib.hid hOV
    clear hmem hub hrk r1 r2 r3 hJ hu hg1 hg2 hg3 hl hrec hk hOV
    gi_wp2_with fail
    refine reg7 (W0 := U) (Bx := B4) (b6 := g) (ub := ub) (uo := uo) (base := W5.heap.size) (va := va) (ls := (refsU x0).take k) (r := ⟨unm, un⟩) _ ?_ ?_ ?_ ?_ ?_ ?_ ?_ ?_ ?_ ?_ ?_ ?_ ?_ ?_ ?_ ?_ ?_
    · rfl
    · rfl
    · rfl
    · rfl
    · have := HAr.out; omega
    · have := HAr.out; omega
    · have := HAr.out; omega
    · exact HBox.out
    · exact HVa.out
    · exact HUse.out
    · exact HNm.out
    · exact HNn.out
    · exact HOwn.out
    · exact HLk.out
    · exact HAr.out.2.1
    · exact HAr.out.1
    · intro a w1 v _ _ _ hp
      have h := HJ.out.put HBlt.out HOV.out HVa.out hp
      exact ⟨h.2, HNx.out _ h.1⟩
  · intro _ D O U hD hOD hJ hdf
    obtain ⟨hQ, hw, h1, h2, h45, h5, hb, hlow⟩ := HAll.out
    obtain ⟨hlen, hlen2⟩ := HLens.out
    have hz5 := HZ5.out
    have hb5 := HB5.out
    have hB4 := HsB.out
    have hBx := HBx.out.1
    have hJ2 : RefJ W5 B4 (refsU (x)) O U := by
      have h := hJ
      rw [List.length_map, HXl.out, List.take_length, HX0.out] at h
      exact h
    obtain ⟨v2, q1, q2, q3⟩ := hJ2.row
    have hsm : ∀ b, b < V.heap.size → b ≠ B4 → U.heap[b]? = V.heap[b]? := fun b hlt hne => (hJ2.same (by omega) hne).trans (hb5.block b hlt)
    have hUz := hJ2.grown.size
    have hbU : Below w.heap.size w U := hb.trans ⟨hJ2.grown.os.trans hb5.os, hJ2.grown.tape.trans hb5.tape, hJ2.grown.output.trans hb5.output, by omega, fun b hlt => hsm b (by have := hb.size; omega) (by have := h1.lt _ (.inl rfl); omega)⟩
    have h1' := h1.up (fun b hlt => hsm b (by omega) (by omega))
    have h2' := h2.up (fun b hlt => hsm b (by omega) (by omega))
    obtain ⟨hra0, hrb⟩ := HMore.out
    exact chk_b (base := base) (D1 := D) hQ hw h1' h2' h45 h5 hbU (by omega) ⟨v2, q1, q2.low (by omega)⟩ ((hsm B5 (by omega) (by omega)).trans hrb) (by have := hb.size; omega) hdf hlen hlen2 _ _ _ _ _ _ _ _ _ _ _ _ _ _ _ _ _ _ _ _ _ _ _ _ _ _ _ _ _ _ _ _ _ _ _ _ _ _ _ _ _ _ _ _ _ _ _ _ _ _ _ _ _ _ _ _ _ _ _

end Go.Proofs.Ytapejaabhkfhjaa

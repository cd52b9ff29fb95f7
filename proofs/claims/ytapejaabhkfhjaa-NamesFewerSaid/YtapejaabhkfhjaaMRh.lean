/- Resolve: the range over the references, and the end (printed by gen_rh.py). -/
import Derived.Test.YtapejaabhkfhjaaMRf
import Derived.BigFrameIn
namespace Go.Proofs.Ytapejaabhkfhjaa
open Go.RowKit
attribute [local go_sem] Oper.semAt_some

theorem empty_of {s : ByteArray} (h : s.toList = []) : s = ⟨#[]⟩ := by
  have h1 := (size_nil s).2 h
  have : s.data.size = 0 := h1
  cases s with
  | mk d => simp only at this; rw [Array.size_eq_zero_iff] at this; rw [this]
theorem posOf_lt {l : List ByteArray} {s : ByteArray} {i : Nat} (h : posOf l s = some i) : i < l.length := by
  by_cases hm : s ∈ l
  · obtain ⟨j, h1, h2, _⟩ := posOf_mem hm
    rw [h] at h1
    cases h1; exact h2
  · rw [posOf_none hm] at h; cases h
theorem okT_some {t : Tb} {to at_ : Int} {r : Rf} (h0 : to ≠ 0) (h : okT t to at_ r = true) : ∃ i : Nat, posOf (t.tab (catT to)) r.name = some i ∧ valT t (catT to) r.name = i ∧ (early to = true → (i : Int) < at_) ∧ i < (t.tab (catT to)).length := by
  unfold okT at h
  rw [if_neg h0] at h
  unfold valT
  cases hp : posOf (t.tab (catT to)) r.name with
  | none => rw [hp] at h; cases h
  | some i =>
    rw [hp] at h
    refine ⟨i, rfl, rfl, fun he => ?_, posOf_lt hp⟩
    simpa [he] using h
theorem okT_none {t : Tb} {to at_ : Int} {r : Rf} (h0 : to ≠ 0) (h : okT t to at_ r = false) : ∀ i : Nat, posOf (t.tab (catT to)) r.name = some i → early to = true ∧ ¬ (i : Int) < at_ := by
  intro i hp
  unfold okT at h
  rw [if_neg h0, hp] at h
  simp only [Bool.or_eq_false_iff, Bool.not_eq_false', decide_eq_false_iff_not] at h
  exact h
theorem map_len {m : Nat} {W : World} {es : Array MapEntry} {clock : Nat} (h : W.heap[m]? = some (.map es clock)) (ty : TypeId) : (Builtin.len_ #[90] ty #[.map (some m)]).run Try.prog W = .ok (.int .i64 (es.size : Int)) W := by
  simp [Builtin.len_, run_underlying Try.underlying90, MapKept.run_getObj_map h, goInt, Result.andThen]

set_option maxRecDepth 100000 in
set_option maxHeartbeats 16000000 in
theorem res_e {Q : Exit → Act → World → Prop} {w W W5 : World} {x : Src} {L : Lay} {N M : Nat → Prop} {bl bc br bf Bf : Nat} (hQ : RPost Q w x) (hC : RCtx w x W5 L N M bl bc br bf Bf W.heap.size)
    (hJ0 : RJ w.heap.size W5 (Tb.of x) (allX W5 L x) (reachX L x).length (fun _ => False) (W.alloc (.cells #[.pointer (some ⟨w.heap.size + 1, 0, none⟩)] 52)))
    (u0 u1 u8 u9 u10 u11 u12 u14 u15 u16 u17 u18 u19 u20 u21 u22 u23 u24 u25 u26 u27 u28 u29 u30 u31 u32 u33 u34 u35 u36 u37 u38 u39 u40 u41 u42 u43 u44 u45 u46 u47 u48 u49 u50 u51 u52 u53 u54 u55 u56 u57 u58 u59 u60 u61 u62 u63 u64 u65 u66 u67 u68 u69 u70 u71 u72 u73 u74 u75 u76 u77 u78 u79 u80 u81 u82 u83 u84 u85 u86 u87 u88 u89 u90 u91 u92 u93 u94 u95 u96 u97 u98 u99 u100 u101 u102 u103 u104 u105 u106 u107 u108 u109 u110 u111 u112 u113 u114 u115 u116 u117 u118 u119 u120 u121 u122 u123 u124 u125 u126 u127 u128 u129 u130 u131 u132 u133 u134 u135 u136 u137 u138 u139 u140 u141 u142 u143 u144 u145 u146 u147 u148 u149 u150 u151 u152 u153 u154 u155 u156 u157 u158 u159 u160 u161 u162 u163 u164 u165 u166 u167 u168 u169 u170 u171 u172 u173 : Value) :
    wpAt 11 Try.prog (tailC 20 (Try.f11.body.getD .skip)) Q { tmps := #[u0, u1, .pointer (some ⟨w.heap.size + 1, 0, none⟩), .pointer (some ⟨w.heap.size + 2, 0, none⟩), .pointer (some ⟨bl, 0, none⟩), .pointer (some ⟨bc, 0, none⟩), .pointer (some ⟨br, 0, none⟩), .pointer (some ⟨bf, 0, none⟩), u8, u9, u10, u11, u12, .pointer (some ⟨Bf, 0, none⟩), u14, u15, u16, u17, u18, u19, u20, u21, u22, u23, u24, u25, u26, u27, u28, u29, u30, u31, u32, u33, u34, u35, u36, u37, u38, u39, u40, u41, u42, u43, u44, u45, u46, u47, u48, u49, u50, u51, u52, u53, u54, u55, u56, u57, u58, u59, u60, u61, u62, u63, u64, u65, u66, u67, u68, u69, u70, u71, u72, u73, u74, u75, u76, u77, u78, u79, u80, u81, u82, u83, u84, u85, u86, u87, u88, u89, u90, u91, u92, u93, u94, u95, u96, u97, u98, u99, u100, u101, u102, u103, u104, u105, u106, u107, u108, u109, u110, u111, u112, u113, u114, u115, u116, u117, u118, u119, u120, u121, u122, u123, u124, u125, u126, u127, u128, u129, u130, u131, u132, u133, u134, u135, u136, u137, u138, u139, u140, u141, u142, u143, u144, u145, u146, u147, u148, u149, u150, u151, u152, u153, u154, u155, u156, u157, u158, u159, u160, u161, u162, u163, u164, u165, u166, u167, u168, u169, u170, u171, u172, u173], defers := [dfr w.heap.size] } W := by
  have HQ := Lib.hid hQ; have HC := Lib.hid hC; have HJ0 := Lib.hid hJ0
  clear hQ hC hJ0
  unfold dfr
  refine wpAt_seq (wpAt_seq (wpAt_of_wp ?_))
  go_wp2_with (first | (go_at_call 51; refine (uses_any _ _).mono ?_; rintro e w2 ⟨rfl, rfl⟩))
  refine wpAt_block ?_
  refine wpAt_rangeP (n := 10) Try.func11 rfl (fun _ _ => rfl) (uses_seq 9 (by omega) HC.out.uses) (fun a ha => by
      obtain ⟨u, _, rfl⟩ := List.mem_map.1 ha
      rfl)
    (fun k O V => RJ w.heap.size W5 (Tb.of x) (allX W5 L x) ((reachX L x).length + k) O V) (fun _ _ _ => False) (fun ch O V => ch = errP 170 ∧ wrongS x = 170 ∧ ∃ k, RJ w.heap.size W5 (Tb.of x) (allX W5 L x) k O V)
    (fun k a O V => RJ w.heap.size W5 (Tb.of x) (allX W5 L x) ((reachX L x).length + k) O V ∧ ∃ (ub uo : Nat) (uto uat : Int) (unm : ByteArray) (un : Int) (g : Nat), (usesU W5 L x).1[k]? = some ⟨ub, uo, uto, uat, unm, un⟩ ∧ ¬ O g ∧ g < V.heap.size ∧ V.heap[g]? = some (.cells #[.pointer (some ⟨ub, uo, none⟩), .int .i64 uto, .int .i64 uat] 106 (0, 0)) ∧ a = { tmps := #[u0, u1, .pointer (some ⟨w.heap.size + 1, 0, none⟩), .pointer (some ⟨w.heap.size + 2, 0, none⟩), .pointer (some ⟨bl, 0, none⟩), .pointer (some ⟨bc, 0, none⟩), .pointer (some ⟨br, 0, none⟩), .pointer (some ⟨bf, 0, none⟩), u8, u9, u10, u11, u12, .pointer (some ⟨Bf, 0, none⟩), u14, .pointer (some ⟨g, 0, none⟩), u16, u17, u18, u19, u20, u21, u22, u23, u24, u25, u26, u27, u28, u29, u30, u31, u32, u33, u34, u35, u36, u37, u38, u39, u40, u41, u42, u43, u44, u45, u46, u47, u48, u49, u50, u51, u52, u53, u54, u55, u56, u57, u58, u59, u60, u61, u62, u63, u64, u65, u66, u67, u68, u69, u70, u71, u72, u73, u74, u75, u76, u77, u78, u79, u80, u81, u82, u83, u84, u85, u86, u87, u88, u89, u90, u91, u92, u93, u94, u95, u96, u97, u98, u99, u100, u101, u102, u103, u104, u105, u106, u107, u108, u109, u110, u111, u112, u113, u114, .func (.func 81) #[] #[.pointer (some ⟨W.heap.size, 0, none⟩)], .agg #[.pointer (some ⟨ub, uo, none⟩), .int .i64 uto, .int .i64 uat], u117, u118, u119, u120, u121, u122, u123, u124, u125, u126, u127, u128, u129, u130, u131, u132, u133, u134, u135, u136, u137, u138, u139, u140, u141, u142, u143, u144, u145, u146, u147, u148, u149, u150, u151, u152, u153, u154, u155, u156, u157, u158, u159, u160, u161, u162, u163, u164, u165, u166, u167, u168, u169, u170, u171, u172, u173], defers := [] })
    (fun k => RJ.stays _) (fun _ _ _ _ _ _ h => h.elim) ?_ ?_ (fun k O V h => h.hd) (fun _ _ _ h => h.elim) ?_ HJ0.out ?_ ?_ ?_ (fun _ _ _ _ _ _ h => h.elim) ?_
  · exact fun ch _ O V O' V' h hz ho ht hu hk hO => ⟨h.1, h.2.1, h.2.2.imp fun k h => RJ.stays k O V O' V' h hz ho ht hu hk hO⟩
  · rintro a k O V O' V' ⟨h1, ub, uo, uto, uat, unm, un, g, h2, h3, h4, h5, h6⟩ hz ho ht hu hk hO
    exact ⟨RJ.stays _ O V O' V' h1 hz ho ht hu hk hO, ub, uo, uto, uat, unm, un, g, h2, fun h => (hO g h).elim h3 (fun h => by omega), by omega, (hk g h3 h4).trans h5, h6⟩
  · intro ch he O V hJ
    cases hx : (usesU W5 L x).2 with
    | true => rw [hx] at he; cases he
    | false =>
      rw [hx] at he
      cases he
      exact ⟨rfl, HC.out.bad2 hx, _, hJ⟩
  · intro k hk O V lo hJ hO hl hOV
    have hk2 : k < (usesU W5 L x).1.length := by rw [List.length_map] at hk; exact hk
    rw [List.getElem_map]
    have HU := Lib.hid (List.getElem?_eq_getElem hk2)
    generalize (usesU W5 L x).1[k] = u at HU ⊢
    obtain ⟨ub, uo, uto, uat, unm, un⟩ := u
    have HJ := Lib.hid hJ; have HOV := Lib.hid hOV
    clear hJ hO hl hOV hk hk2
    unfold Us.v
    simp only
    gi_wp2
    have fin : Same O V (V.alloc (.cells #[.pointer (some ⟨ub, uo, none⟩), .int .i64 uto, .int .i64 uat] 106)) := ⟨by simp, fun b hb => Below.heap_alloc _ _ _ (HOV.out b hb)⟩
    have fin2 : RJ w.heap.size W5 (Tb.of x) (allX W5 L x) ((reachX L x).length + k) O (V.alloc (.cells #[.pointer (some ⟨ub, uo, none⟩), .int .i64 uto, .int .i64 uat] 106)) := HJ.out.below ((Below.refl V.heap.size V).alloc (Nat.le_refl _) _) HJ.out.size
    have fin3 : ¬ O V.heap.size := fun h => Nat.lt_irrefl _ (HOV.out _ h)
    first
    | exact ⟨fin, fin2, ub, uo, uto, uat, unm, un, V.heap.size, HU.out, fin3, by simp, World.alloc_heap_new _ _, rfl⟩
    | (rename_i hK; exact hK _ _ ⟨fin, fin2, ub, uo, uto, uat, unm, un, V.heap.size, HU.out, fin3, by simp, World.alloc_heap_new _ _, rfl⟩)
    | (rename_i hK _; exact hK _ _ ⟨fin, fin2, ub, uo, uto, uat, unm, un, V.heap.size, HU.out, fin3, by simp, World.alloc_heap_new _ _, rfl⟩)
    | fail
  · rintro k hk O V lo a1 hl hrec hOV ⟨hJ, ub, uo, uto, uat, unm, un, g, hu, hg1, hg2, hg3, rfl⟩
    have hX : (allX W5 L x)[(reachX L x).length + k]? = some ⟨ub, uo, uto, uat, unm, un⟩ := by
      unfold allX
      rw [List.getElem?_append_right (by omega), Nat.add_sub_cancel_left]; exact hu
    have hmem : (⟨ub, uo, uto, uat, unm, un⟩ : Us) ∈ allX W5 L x := List.mem_of_getElem? hX
    have hok := HC.out.uok _ hmem
    obtain ⟨c0, ⟨z, c1, hz0⟩, cf⟩ := hJ.read hok
    have hto : uto = 0 ∨ uto = 1 ∨ uto = 2 ∨ uto = 3 ∨ uto = 4 ∨ uto = 5 := by
      have h6 := to_uses _ (List.mem_of_getElem? hu)
      have h7 := hok.to
      simp only at h6 h7
      omega
    have d0 : V.cell? ⟨g, 0, none⟩ = some (.pointer (some ⟨ub, uo, none⟩)) := by simp [World.cell?, hg3]
    have d1 : V.cell? ⟨g, 1, none⟩ = some (.int .i64 uto) := by simp [World.cell?, hg3]
    have d2 : V.cell? ⟨g, 2, none⟩ = some (.int .i64 uat) := by simp [World.cell?, hg3]
    have b13 : V.cell? ⟨Bf, 0, none⟩ = some (.func (.func 49) #[] #[]) := box_read HC.out.find (by simp) (cls_other (by decide)) hJ
    obtain ⟨ml, esl, ckl, bl0, bl1, bl2, bl3⟩ := HC.out.lets.read hJ
    obtain ⟨mc, esc, ckc, bc0, bc1, bc2, bc3⟩ := HC.out.crops.read hJ
    obtain ⟨mr, esr, ckr, br0, br1, br2, br3⟩ := HC.out.reaches.read hJ
    obtain ⟨mf, esf, ckf, bf0, bf1, bf2, bf3⟩ := HC.out.farms.read hJ
    have HX := Lib.hid hX; have HMem := Lib.hid hmem; have HOk := Lib.hid hok; have HJ := Lib.hid hJ; have HC1 := Lib.hid c1; have HCf := Lib.hid cf; have HC0 := Lib.hid c0; have HZ0 := Lib.hid hz0; have HOV := Lib.hid hOV
    have ML := Lib.hid bl1; have MC := Lib.hid bc1; have MR := Lib.hid br1; have MF := Lib.hid bf1
    have SL := Lib.hid bl3; have SC := Lib.hid bc3; have SR := Lib.hid br3; have SF := Lib.hid bf3
    have HLen : Hid (unm.size ≤ maxLen) := Lib.hid hok.len
    have HSame : Hid (∀ v, Same O V (V.setCell ⟨ub, uo + 1, none⟩ v)) := Lib.hid (fun v => ⟨by simp, fun b hb => heap_setCell_other V ⟨ub, uo + 1, none⟩ b v (fun e => by
      have h1 := hJ.own b hb
      have h2 := hok.lt
      simp only at e h2
      omega)⟩)
    clear hX hmem hok hJ c1 cf c0 hz0 hOV bl1 bc1 br1 bf1 bl3 bc3 br3 bf3 hu hg1 hg2 hg3 hl hrec hk
    rcases hto with rfl | rfl | rfl | rfl | rfl | rfl
    · have c0 := HC0.out; have c1 := HC1.out
      obtain rfl := HZ0.out rfl
      clear bl0 bl2 bc0 bc2 br0 br2 bf0 bf2
      clear d2 b13
      cases hb : okU (Tb.of x) ⟨ub, uo, 0, uat, unm, z⟩ with
      | true =>
        have HB := Lib.hid hb
        obtain ⟨hn1, hn2⟩ : unm.size = 0 ∧ z = 0 := by
          have h := hb
          unfold okU okT at h
          simpa using h
        have hn3 : unm = ⟨#[]⟩ := by
          have h := (size_nil unm).1 hn1
          exact empty_of h
        clear hb hn1
        subst hn2
        subst hn3
        gi_wp2_with fail
        refine ⟨trivial, CallsIn.mono (CallsIn.inRound lo (callsIn_wide.2 (need_yes _ _))) ?_⟩
        rintro e w4 ⟨rfl, hw4⟩
        obtain rfl := hw4.symm
        gi_wp2_with fail
        exact ⟨Same.refl _ _, HJ.out.skip HX.out rfl HB.out⟩
      | false =>
        have HB := Lib.hid hb
        have hno : ¬ (unm.size = 0 ∧ z = 0) := by
          have h := hb
          unfold okU okT at h
          simpa using h
        clear hb
        have HBad := Lib.hid (HC.out.bad HMem.out HB.out)
        have HNo := Lib.hid hno
        clear hno
        gi_wp2_with fail
        all_goals first
          | exact absurd ⟨(size_nil _).2 (by assumption), (by assumption)⟩ HNo.out
          | (refine ⟨trivial, CallsIn.mono (CallsIn.inRound lo (callsIn_wide.2 (need_no _ _))) ?_⟩
             rintro e w4 ⟨rfl, hw4⟩
             obtain rfl := hw4.symm
             try gi_wp2_with fail
             exact ⟨rfl, Same.refl _ _, rfl, HBad.out, _, HJ.out⟩)
    · have c0 := HC0.out; have c1 := HC1.out; have cf := HCf.out
      clear bc0 bc2 br0 br2 bf0 bf2
      clear d2
      clear c0 c1 cf
      cases hb : okU (Tb.of x) ⟨ub, uo, 1, uat, unm, un⟩ with
      | true =>
        obtain ⟨i, hp, hv, hlt, hil⟩ := okT_some (to := 1) (by decide) hb
        have HB := Lib.hid hb; have HV := Lib.hid hv
        have HY := Lib.hid (find_yes (most := (esl.size : Int)) HC0.out HC1.out HCf.out ML.out HLen.out hp (by rw [SL.out]; exact Int.ofNat_lt.2 hil))
        clear hb hp hv hlt hil
        have hlen : ∀ ty, (Builtin.len_ #[90] ty #[.map (some ml)]).run Try.prog V = .ok (.int .i64 (esl.size : Int)) V := fun ty => map_len bl2 ty
        gi_wp2_with fail
        refine ⟨trivial, CallsIn.mono (CallsIn.inRound lo (callsIn_wide.2 HY.out)) ?_⟩
        rintro e w4 ⟨rfl, rfl⟩
        gi_wp2_with fail
        exact ⟨HSame.out _, by have h := HJ.out.next HC.out.uok HX.out (show (1 : Int) ≠ 0 by decide) HB.out; rw [show valT (Tb.of x) (catT (⟨ub, uo, 1, uat, unm, un⟩ : Us).to) (⟨ub, uo, 1, uat, unm, un⟩ : Us).name = _ from HV.out] at h; exact h⟩
      | false =>
        have hn := okT_none (to := 1) (by decide) hb
        have HBad := Lib.hid (HC.out.bad HMem.out hb)
        have HY := Lib.hid (find_no (most := (esl.size : Int)) HC0.out ML.out HLen.out (fun i hp => absurd (hn i hp).1 (show ¬ early 1 = true by decide)))
        clear hb hn
        have hlen : ∀ ty, (Builtin.len_ #[90] ty #[.map (some ml)]).run Try.prog V = .ok (.int .i64 (esl.size : Int)) V := fun ty => map_len bl2 ty
        gi_wp2_with fail
        refine ⟨trivial, CallsIn.mono (CallsIn.inRound lo (callsIn_wide.2 HY.out)) ?_⟩
        rintro e w4 ⟨rfl, hw4⟩
        obtain rfl := hw4.symm
        try gi_wp2_with fail
        exact ⟨rfl, Same.refl _ _, rfl, HBad.out, _, HJ.out⟩
    · have c0 := HC0.out; have c1 := HC1.out; have cf := HCf.out
      clear bc0 bc2 br0 br2 bf0 bf2
      
      clear c0 c1 cf
      cases hb : okU (Tb.of x) ⟨ub, uo, 2, uat, unm, un⟩ with
      | true =>
        obtain ⟨i, hp, hv, hlt, hil⟩ := okT_some (to := 2) (by decide) hb
        have HB := Lib.hid hb; have HV := Lib.hid hv
        have HY := Lib.hid (find_yes (most := uat) HC0.out HC1.out HCf.out ML.out HLen.out hp (by simpa using hlt rfl))
        clear hb hp hv hlt hil
        
        gi_wp2_with fail
        refine ⟨trivial, CallsIn.mono (CallsIn.inRound lo (callsIn_wide.2 HY.out)) ?_⟩
        rintro e w4 ⟨rfl, rfl⟩
        gi_wp2_with fail
        exact ⟨HSame.out _, by have h := HJ.out.next HC.out.uok HX.out (show (2 : Int) ≠ 0 by decide) HB.out; rw [show valT (Tb.of x) (catT (⟨ub, uo, 2, uat, unm, un⟩ : Us).to) (⟨ub, uo, 2, uat, unm, un⟩ : Us).name = _ from HV.out] at h; exact h⟩
      | false =>
        have hn := okT_none (to := 2) (by decide) hb
        have HBad := Lib.hid (HC.out.bad HMem.out hb)
        have HY := Lib.hid (find_no (most := uat) HC0.out ML.out HLen.out (fun i hp => (hn i hp).2))
        clear hb hn
        
        gi_wp2_with fail
        refine ⟨trivial, CallsIn.mono (CallsIn.inRound lo (callsIn_wide.2 HY.out)) ?_⟩
        rintro e w4 ⟨rfl, hw4⟩
        obtain rfl := hw4.symm
        try gi_wp2_with fail
        exact ⟨rfl, Same.refl _ _, rfl, HBad.out, _, HJ.out⟩
    · have c0 := HC0.out; have c1 := HC1.out; have cf := HCf.out
      clear bl0 bl2 br0 br2 bf0 bf2
      clear d2
      clear c0 c1 cf
      cases hb : okU (Tb.of x) ⟨ub, uo, 3, uat, unm, un⟩ with
      | true =>
        obtain ⟨i, hp, hv, hlt, hil⟩ := okT_some (to := 3) (by decide) hb
        have HB := Lib.hid hb; have HV := Lib.hid hv
        have HY := Lib.hid (find_yes (most := (esc.size : Int)) HC0.out HC1.out HCf.out MC.out HLen.out hp (by rw [SC.out]; exact Int.ofNat_lt.2 hil))
        clear hb hp hv hlt hil
        have hlen : ∀ ty, (Builtin.len_ #[90] ty #[.map (some mc)]).run Try.prog V = .ok (.int .i64 (esc.size : Int)) V := fun ty => map_len bc2 ty
        gi_wp2_with fail
        refine ⟨trivial, CallsIn.mono (CallsIn.inRound lo (callsIn_wide.2 HY.out)) ?_⟩
        rintro e w4 ⟨rfl, rfl⟩
        gi_wp2_with fail
        exact ⟨HSame.out _, by have h := HJ.out.next HC.out.uok HX.out (show (3 : Int) ≠ 0 by decide) HB.out; rw [show valT (Tb.of x) (catT (⟨ub, uo, 3, uat, unm, un⟩ : Us).to) (⟨ub, uo, 3, uat, unm, un⟩ : Us).name = _ from HV.out] at h; exact h⟩
      | false =>
        have hn := okT_none (to := 3) (by decide) hb
        have HBad := Lib.hid (HC.out.bad HMem.out hb)
        have HY := Lib.hid (find_no (most := (esc.size : Int)) HC0.out MC.out HLen.out (fun i hp => absurd (hn i hp).1 (show ¬ early 3 = true by decide)))
        clear hb hn
        have hlen : ∀ ty, (Builtin.len_ #[90] ty #[.map (some mc)]).run Try.prog V = .ok (.int .i64 (esc.size : Int)) V := fun ty => map_len bc2 ty
        gi_wp2_with fail
        refine ⟨trivial, CallsIn.mono (CallsIn.inRound lo (callsIn_wide.2 HY.out)) ?_⟩
        rintro e w4 ⟨rfl, hw4⟩
        obtain rfl := hw4.symm
        try gi_wp2_with fail
        exact ⟨rfl, Same.refl _ _, rfl, HBad.out, _, HJ.out⟩
    · have c0 := HC0.out; have c1 := HC1.out; have cf := HCf.out
      clear bl0 bl2 bc0 bc2 bf0 bf2
      clear d2
      clear c0 c1 cf
      cases hb : okU (Tb.of x) ⟨ub, uo, 4, uat, unm, un⟩ with
      | true =>
        obtain ⟨i, hp, hv, hlt, hil⟩ := okT_some (to := 4) (by decide) hb
        have HB := Lib.hid hb; have HV := Lib.hid hv
        have HY := Lib.hid (find_yes (most := (esr.size : Int)) HC0.out HC1.out HCf.out MR.out HLen.out hp (by rw [SR.out]; exact Int.ofNat_lt.2 hil))
        clear hb hp hv hlt hil
        have hlen : ∀ ty, (Builtin.len_ #[90] ty #[.map (some mr)]).run Try.prog V = .ok (.int .i64 (esr.size : Int)) V := fun ty => map_len br2 ty
        gi_wp2_with fail
        refine ⟨trivial, CallsIn.mono (CallsIn.inRound lo (callsIn_wide.2 HY.out)) ?_⟩
        rintro e w4 ⟨rfl, rfl⟩
        gi_wp2_with fail
        exact ⟨HSame.out _, by have h := HJ.out.next HC.out.uok HX.out (show (4 : Int) ≠ 0 by decide) HB.out; rw [show valT (Tb.of x) (catT (⟨ub, uo, 4, uat, unm, un⟩ : Us).to) (⟨ub, uo, 4, uat, unm, un⟩ : Us).name = _ from HV.out] at h; exact h⟩
      | false =>
        have hn := okT_none (to := 4) (by decide) hb
        have HBad := Lib.hid (HC.out.bad HMem.out hb)
        have HY := Lib.hid (find_no (most := (esr.size : Int)) HC0.out MR.out HLen.out (fun i hp => absurd (hn i hp).1 (show ¬ early 4 = true by decide)))
        clear hb hn
        have hlen : ∀ ty, (Builtin.len_ #[90] ty #[.map (some mr)]).run Try.prog V = .ok (.int .i64 (esr.size : Int)) V := fun ty => map_len br2 ty
        gi_wp2_with fail
        refine ⟨trivial, CallsIn.mono (CallsIn.inRound lo (callsIn_wide.2 HY.out)) ?_⟩
        rintro e w4 ⟨rfl, hw4⟩
        obtain rfl := hw4.symm
        try gi_wp2_with fail
        exact ⟨rfl, Same.refl _ _, rfl, HBad.out, _, HJ.out⟩
    · have c0 := HC0.out; have c1 := HC1.out; have cf := HCf.out
      clear bl0 bl2 bc0 bc2 br0 br2
      clear d2
      clear c0 c1 cf
      cases hb : okU (Tb.of x) ⟨ub, uo, 5, uat, unm, un⟩ with
      | true =>
        obtain ⟨i, hp, hv, hlt, hil⟩ := okT_some (to := 5) (by decide) hb
        have HB := Lib.hid hb; have HV := Lib.hid hv
        have HY := Lib.hid (find_yes (most := (esf.size : Int)) HC0.out HC1.out HCf.out MF.out HLen.out hp (by rw [SF.out]; exact Int.ofNat_lt.2 hil))
        clear hb hp hv hlt hil
        have hlen : ∀ ty, (Builtin.len_ #[90] ty #[.map (some mf)]).run Try.prog V = .ok (.int .i64 (esf.size : Int)) V := fun ty => map_len bf2 ty
        gi_wp2_with fail
        refine ⟨trivial, CallsIn.mono (CallsIn.inRound lo (callsIn_wide.2 HY.out)) ?_⟩
        rintro e w4 ⟨rfl, rfl⟩
        gi_wp2_with fail
        exact ⟨HSame.out _, by have h := HJ.out.next HC.out.uok HX.out (show (5 : Int) ≠ 0 by decide) HB.out; rw [show valT (Tb.of x) (catT (⟨ub, uo, 5, uat, unm, un⟩ : Us).to) (⟨ub, uo, 5, uat, unm, un⟩ : Us).name = _ from HV.out] at h; exact h⟩
      | false =>
        have hn := okT_none (to := 5) (by decide) hb
        have HBad := Lib.hid (HC.out.bad HMem.out hb)
        have HY := Lib.hid (find_no (most := (esf.size : Int)) HC0.out MF.out HLen.out (fun i hp => absurd (hn i hp).1 (show ¬ early 5 = true by decide)))
        clear hb hn
        have hlen : ∀ ty, (Builtin.len_ #[90] ty #[.map (some mf)]).run Try.prog V = .ok (.int .i64 (esf.size : Int)) V := fun ty => map_len bf2 ty
        gi_wp2_with fail
        refine ⟨trivial, CallsIn.mono (CallsIn.inRound lo (callsIn_wide.2 HY.out)) ?_⟩
        rintro e w4 ⟨rfl, hw4⟩
        obtain rfl := hw4.symm
        try gi_wp2_with fail
        exact ⟨rfl, Same.refl _ _, rfl, HBad.out, _, HJ.out⟩
  · intro ho D O V hD hOD hJ hdf
    have hx : (usesU W5 L x).2 = true := by
      cases hx : (usesU W5 L x).2 with
      | true => rfl
      | false => rw [hx] at ho; cases ho
    have hJ2 : RJ w.heap.size W5 (Tb.of x) (allX W5 L x) (allX W5 L x).length O V := by
      have h : (reachX L x).length + ((usesU W5 L x).1.map Us.v).length = (allX W5 L x).length := by unfold allX; simp
      rw [← h]; exact hJ
    have hA := hJ2.amid HC.out.amid
    have hD3 : w.heap.size + 3 ≤ D := by
      obtain ⟨v, he⟩ := HC.out.amid.e
      have h1 := (Array.getElem?_eq_some_iff.1 he).1
      have h2 := HJ0.out.size
      omega
    obtain ⟨cs, hcl, hcr, hsv⟩ := HC.out.src hJ2 hx
    rw [HC.out.ls] at hcr
    obtain ⟨row, hr1, hr2⟩ := hA.x
    obtain ⟨ve, he⟩ := hA.e
    have hone := one_src hsv
    have c3 : (V.setRow (w.heap.size + 1) cs.toArray).cell? ⟨w.heap.size + 2, 0, none⟩ = some ve := by
      simp only [World.cell?, World.setRow, Array.getElem?_modify, if_neg (show ¬ w.heap.size + 1 = w.heap.size + 2 by omega)]
      simp [he]
    have f3 : (V.setRow (w.heap.size + 1) cs.toArray).frozen? ⟨w.heap.size + 2, 0, none⟩ = false := by
      simp only [World.frozen?, World.setRow, Array.getElem?_modify, if_neg (show ¬ w.heap.size + 1 = w.heap.size + 2 by omega)]
      simp [he]
    have H26 : Hid ((Try.prog.info? 35).map (·.size) = some cs.length) := Lib.hid (by rw [hcl]; kernel_rfl)
    have H26b : Hid ((Try.prog.info? 35).map (·.size) = some cs.toArray.size) := Lib.hid (by rw [List.size_toArray]; exact H26.out)
    have h0 := HC.out.good hJ2 hx
    have hbelow : Below w.heap.size w ((V.setRow (w.heap.size + 1) cs.toArray).setCell ⟨w.heap.size + 2, 0, none⟩ (.int .i64 0)) := hA.below.trans ⟨rfl, rfl, rfl, by simp [World.setRow], fun b hb => by
      rw [heap_setCell_other _ _ _ _ (by simp; omega)]
      simp only [World.setRow, Array.getElem?_modify, if_neg (show ¬ w.heap.size + 1 = b by omega)]⟩
    have hx1 : ((V.setRow (w.heap.size + 1) cs.toArray).setCell ⟨w.heap.size + 2, 0, none⟩ (.int .i64 0)).heap[w.heap.size + 1]? = some (.cells cs.toArray 35 (0, 0)) := by
      rw [heap_setCell_other _ _ _ _ (by simp)]
      simp [World.setRow, Array.getElem?_modify, hr2]
    have hx2 : ((V.setRow (w.heap.size + 1) cs.toArray).setCell ⟨w.heap.size + 2, 0, none⟩ (.int .i64 0)).heap[w.heap.size + 2]? = some (.cells #[.int .i64 0] 38 (0, 0)) := by
      have := heap_setCell_same (V.setRow (w.heap.size + 1) cs.toArray) (w.heap.size + 2) 0 #[ve] 38 (.int .i64 0) (by simp [World.setRow, Array.getElem?_modify, he])
      rw [this]; rfl
    have hoth : ∀ b, b ≠ w.heap.size + 1 → b ≠ w.heap.size + 2 → ((V.setRow (w.heap.size + 1) cs.toArray).setCell ⟨w.heap.size + 2, 0, none⟩ (.int .i64 0)).heap[b]? = V.heap[b]? := fun b h1 h2 => by
      rw [heap_setCell_other _ _ _ _ (by simpa using h2)]
      simp only [World.setRow, Array.getElem?_modify, if_neg (Ne.symm h1)]
    have hd6 := (hoth D (by omega) (by omega)).trans hdf
    have hDz : W5.heap.size ≤ D := by have := HJ0.out.size; omega
    have hsz := hJ2.size
    have hres : ResSrc w.heap.size (((V.setRow (w.heap.size + 1) cs.toArray).setCell ⟨w.heap.size + 2, 0, none⟩ (.int .i64 0)).putObj D (.deferred none)) cs (resolved x) := by
      refine ⟨L, _, hcl, hsv.same (fun _ h => h) (fun b hb => ?_), fun b hb => ⟨hb.1, ?_⟩⟩
      · obtain ⟨k1, k2, k3, k4⟩ := hb
        rw [World.putObj_heap_other (by omega), hoth b k3 k4]
      · obtain ⟨k1, k2, k3, k4⟩ := hb
        simp [World.setRow]; omega
    have HDone := Lib.hid (fun tm hv => HQ.out.done D tm _ cs hv hbelow hx1 hx2 h0 hD3 hd6 hres)
    have HCr := Lib.hid hcr; have HOne := Lib.hid hone; have HR2 := Lib.hid hr2; have HR1 : Hid (row.size = cs.toArray.size) := Lib.hid (by rw [hr1, List.size_toArray, hcl])
    clear hx hJ2 hA hD3 hcr hsv hr1 hr2 he hone h0 hbelow hx1 hx2 hoth hd6 hDz hsz hres hD hOD hJ hdf ho hcl
    simp only [Exit.inBlock, Exit.then]
    refine wpAt_seq (wpAt_of_wp ?_)
    go_wp2_with (first | (refine wpList_load_mid rfl 35 _ rfl (w.heap.size + 1) 0 rfl cs _ HCr.out Try.underlying35 rfl H26.out ?_) | (refine wpList_store_row rfl 35 _ _ rfl (w.heap.size + 1) cs.toArray rfl rfl 35 row HR2.out H26b.out HR1.out (all_oneCell_toArray HOne.out) ?_))
    refine wpAt_of_wp ?_
    go_wp2
    exact HDone.out _ ⟨rfl, rfl⟩
  · rintro D ch O V hD hOD ⟨rfl, h170, k, hJ⟩ hdf
    have hD3 : w.heap.size + 3 ≤ D := by
      obtain ⟨v, he⟩ := HC.out.amid.e
      have h1 := (Array.getElem?_eq_some_iff.1 he).1
      have h2 := HJ0.out.size
      omega
    simp only [Exit.inBlock, Exit.then]
    have h := fun tm hv => HQ.out.failD D tm V hv (hJ.amid HC.out.amid) (by rw [h170]; decide) hD3 hdf
    rw [h170] at h
    exact h _ ⟨rfl, rfl⟩

end Go.Proofs.Ytapejaabhkfhjaa

/- Resolve: the names of rotations and rights, the tables of rights and of duties (printed by gen_rn.py). -/
import Derived.Test.YtapejaabhkfhjaaMRl
import Derived.Test.YtapejaabhkfhjaaMRk
namespace Go.Proofs.Ytapejaabhkfhjaa
open Go.RowKit

theorem MapBox.up {V W : World} {b : Nat} {nms : List ByteArray} (h : MapBox V b nms) (hb : Below V.heap.size V W) : MapBox W b nms :=
  h.same fun c _ hc _ => hb.block c (Array.getElem?_eq_some_iff.1 hc).1
set_option maxRecDepth 100000 in
set_option maxHeartbeats 16000000 in
theorem res_c {Q : Exit → Act → World → Prop} {w V : World} {x : Src} {L : Lay} {cs : List Value} {N : Nat → Prop} {bl bc br bf : Nat} (hQ : RPost Q w x) (hP : RPre w x L cs N V)
    (h1 : MapBox V bl (x.lets.map (·.name))) (h2 : MapBox V bc (x.crops.map (·.name))) (h3 : MapBox V br (x.reaches.map (·.name))) (h4 : MapBox V bf (x.farms.map (·.name)))
    (hf : fitsAll x = true) (hw : wrongS x = if (rightNames x).Nodup ∧ (x.duties.map (·.name)).Nodup then (if reachOk (Tb.of x) x && usesOk (Tb.of x) x then 0 else 170) else 171)
    (u0 u8 u9 u10 u11 u12 u13 u14 u15 u16 u17 u18 u19 u20 u21 u22 u23 u24 u25 u26 u27 u28 u29 u30 u31 u32 u33 u34 u35 u36 u37 u38 u39 u40 u41 u42 u43 u44 u45 u46 u47 u48 u49 u50 u51 u52 u53 u54 u55 u56 u57 u58 u59 u60 u61 u62 u63 u64 u65 u66 u67 u68 u69 u70 u71 u72 u73 u74 u75 u76 u77 u78 u79 u80 u81 u82 u83 u84 u85 u86 u87 u88 u89 u90 u91 u92 u93 u94 u95 u96 u97 u98 u99 u100 u101 u102 u103 u104 u105 u106 u107 u108 u109 u110 u111 u112 u113 u114 u115 u116 u117 u118 u119 u120 u121 u122 u123 u124 u125 u126 u127 u128 u129 u130 u131 u132 u133 u134 u135 u136 u137 u138 u139 u140 u141 u142 u143 u144 u145 u146 u147 u148 u149 u150 u151 u152 u153 u154 u155 u156 u157 u158 u159 u160 u161 u162 u163 u164 u165 u166 u167 u168 u169 u170 u171 u172 u173 : Value) :
    wpAt 11 Try.prog (tailC 12 (Try.f11.body.getD .skip)) Q { tmps := #[u0, .pointer (some ⟨w.heap.size, 0, none⟩), .pointer (some ⟨w.heap.size + 1, 0, none⟩), .pointer (some ⟨w.heap.size + 2, 0, none⟩), .pointer (some ⟨bl, 0, none⟩), .pointer (some ⟨bc, 0, none⟩), .pointer (some ⟨br, 0, none⟩), .pointer (some ⟨bf, 0, none⟩), u8, u9, u10, u11, u12, u13, u14, u15, u16, u17, u18, u19, u20, u21, u22, u23, u24, u25, u26, u27, u28, u29, u30, u31, u32, u33, u34, u35, u36, u37, u38, u39, u40, u41, u42, u43, u44, u45, u46, u47, u48, u49, u50, u51, u52, u53, u54, u55, u56, u57, u58, u59, u60, u61, u62, u63, u64, u65, u66, u67, u68, u69, u70, u71, u72, u73, u74, u75, u76, u77, u78, u79, u80, u81, u82, u83, u84, u85, u86, u87, u88, u89, u90, u91, u92, u93, u94, u95, u96, u97, u98, u99, u100, u101, u102, u103, u104, u105, u106, u107, u108, u109, u110, u111, u112, u113, u114, u115, u116, u117, u118, u119, u120, u121, u122, u123, u124, u125, u126, u127, u128, u129, u130, u131, u132, u133, u134, u135, u136, u137, u138, u139, u140, u141, u142, u143, u144, u145, u146, u147, u148, u149, u150, u151, u152, u153, u154, u155, u156, u157, u158, u159, u160, u161, u162, u163, u164, u165, u166, u167, u168, u169, u170, u171, u172, u173], defers := [dfr w.heap.size] } V := by
  have HNm := Lib.hid (hP.at.nms fun _ h => h)
  have HCell := Lib.hid hP.cells
  have HZ : Hid (w.heap.size < V.heap.size) := Lib.hid (by have := hP.size; omega)
  have HQ := Lib.hid hQ; have HP := Lib.hid hP; have HSlim := Lib.hid hP.slim
  have HM1 := Lib.hid h1; have HM2 := Lib.hid h2; have HM3 := Lib.hid h3; have HM4 := Lib.hid h4; have HF := Lib.hid hf; have HW := Lib.hid hw
  have HFail : Hid (∀ tm wr, Vars w.heap.size tm → Below V.heap.size V wr → ¬ ((rightNames x).Nodup ∧ (x.duties.map (·.name)).Nodup) → Q (.panic (errP 171)) { tmps := tm, defers := [dfr w.heap.size] } wr) := Lib.hid (fun tm wr hv hb hn => by
    rw [if_neg hn] at hw
    have := hQ.fail tm wr hv (hP.up (hb.mono hP.size)).amid (by rw [hw]; decide)
    rw [hw] at this; exact this)
  have HO0 : Hid (OwnSt V.heap.size V (.slice none 0 0) ([] ++ (x.rots.map (fun d : RotD => d.name)).take 0)) := Lib.hid (ownSt_nil _ _)
  have HB0 := Lib.hid (Below.refl V.heap.size V)
  have hc : V.cell? ⟨w.heap.size, 23, none⟩ = some (.slice L.rots.a L.rots.n L.rots.c) := hP.cells.rots
  have hnr := HNm.out.rots
  generalize L.rots = rr at hc hnr
  obtain ⟨ra, rn, rc⟩ := rr
  have HRows := Lib.hid hnr.2.2
  have HRn := Lib.hid hnr.1
  have hn47 : rn ≤ 140737488355328 := by have := hnr.1; have := hnr.2.1; simp only at *; omega
  simp only at hc HRows HRn
  clear hQ hP h1 h2 h3 h4 hf hw hnr
  unfold dfr
  refine wpAt_seq (wpAt_of_wp ?_)
  go_wp2
  refine wpAt_seq (wpAt_of_wp ?_)
  go_wp2
  clear hc
  go_loopw [8, 58] (fun v8 iv wr => ∃ i : Nat, i ≤ rn ∧ iv = .int .i64 i ∧ Hid (OwnSt V.heap.size wr v8 ([] ++ (x.rots.map (fun d : RotD => d.name)).take i)) ∧ Hid (Below V.heap.size V wr)) (fun _ iv _ => rn - (intOf iv).toNat)
  case atStart => exact ⟨0, Nat.zero_le _, rfl, HO0, HB0⟩
  case round =>
    clear HO0 HB0
    obtain ⟨i, hi, rfl, HO, HB⟩ := hrel
    by_cases hlt : i < rn
    · obtain ⟨b, o, cs2, ha, hb, hlen, hra, hone, hnm, hmx⟩ := HRows.out i (by rw [← HRn.out]; exact hlt)
      subst ha
      have HL := Lib.hid hlen
      have HRA := Lib.hid (rangeAt_block hra (HB.out.block b hb))
      have HOne := Lib.hid (all_oneCell_toArray hone)
      have HSz : Hid ((Try.prog.info? 64).map (·.size) = some cs2.length) := Lib.hid (by rw [hlen]; kernel_rfl)
      have HSzb : Hid ((Try.prog.info? 64).map (·.size) = some cs2.toArray.size) := Lib.hid (by rw [List.size_toArray]; exact HSz.out)
      have hnl : i < (x.rots.map (fun d : RotD => d.name)).length := by rw [← HRn.out]; exact hlt
      generalize hgn : (x.rots.map (fun d : RotD => d.name))[i] = nm at hnm hmx
      have hc0 : (wr.alloc (.cells cs2.toArray 64)).cell? ⟨wr.heap.size, 0, none⟩ = some (.string nm) := by
        have h := World.alloc_heap_new wr (.cells cs2.toArray 64)
        simp only [World.cell?, h]
        simpa using hnm
      have HWb : Hid (Below wr.heap.size wr ((wr.alloc (.cells cs2.toArray 64)).alloc (.cells #[.string nm] 9))) := Lib.hid (((Below.refl _ _).alloc (Nat.le_refl _) _).alloc (by simp) _)
      have HOd := Lib.hid (HO.out.up HWb.out)
      have HBd := Lib.hid (HB.out.trans (HWb.out.mono HB.out.size))
      have HNew : Hid (((wr.alloc (.cells cs2.toArray 64)).alloc (.cells #[.string nm] 9)).heap[wr.heap.size + 1]? = some (.cells #[.string nm] 9 (0, 0))) := Lib.hid (by
        have h := World.alloc_heap_new (wr.alloc (.cells cs2.toArray 64)) (.cells #[.string nm] 9)
        simpa using h)
      have HMx := Lib.hid hmx
      have HLen : Hid (([] ++ (x.rots.map (fun d : RotD => d.name)).take i).length + 1 ≤ 1000000) := Lib.hid (by
        have h1 := HSlim.out.rots; have h2 := HSlim.out.rights
        simp only [List.length_append, List.length_take, List.length_map, List.length_nil] at hnl ⊢
        omega)
      have HBase : Hid (V.heap.size ≤ ((wr.alloc (.cells cs2.toArray 64)).alloc (.cells #[.string nm] 9)).heap.size) := Lib.hid (Nat.le_trans HB.out.size HWb.out.size)
      have HNext : Hid (([] ++ (x.rots.map (fun d : RotD => d.name)).take i) ++ [nm] = [] ++ (x.rots.map (fun d : RotD => d.name)).take (i + 1)) := Lib.hid (by
        rw [List.append_assoc, ← hgn, take_map_next hnl])
      have hki : (i : Int) < (rn : Int) := by omega
      generalize hls : [] ++ (x.rots.map (fun d : RotD => d.name)).take i = ls at HO HOd HLen HNext
      clear hlen hra hone hnm hmx hnl hgn hls hb
      go_wp2_with (first | (refine wpList_load_mid rfl 64 _ rfl b (o + i * 23) rfl cs2 _ HRA.out Try.underlying64 rfl HSz.out ?_) | (refine wpList_store_row rfl 64 _ _ rfl wr.heap.size cs2.toArray rfl rfl 64 _ (World.alloc_heap_new _ _) HSzb.out (by simp [HL.out]) HOne.out ?_; rw [World.setRow_alloc_new]) | (at_builtin; refine wpList_append_st V.heap.size rfl _ _ rfl u8 ls rfl HOd.out (wr.heap.size + 1) 1 nm rfl HNew.out HMx.out HLen.out HBase.out ?_; intro ad c w5 hown5 hg5; have HO5 := Lib.hid hown5; have HB5 := Lib.hid (below_st HBd.out HBase.out HOd.out hg5); clear hown5 hg5))
      exact ⟨⟨i + 1, by omega, by push_cast; rfl, Lib.hid (by rw [← HNext.out]; exact HO5.out), HB5⟩, by simp [intOf]; omega⟩
    · obtain rfl : i = rn := by omega
      have hki : decide ((i : Int) < (i : Int)) = false := by simp
      have HO2 : Hid (OwnSt V.heap.size wr u8 (x.rots.map (fun d : RotD => d.name) ++ (x.rights.map (fun d : RightD => d.name)).take 0)) := Lib.hid (by
        have h := HO.out
        rw [HRn.out, List.take_length] at h
        simpa using h)
      clear HO HRows HRn
      go_wp2
      have hc : wr.cell? ⟨w.heap.size, 24, none⟩ = some (.slice L.rights.a L.rights.n L.rights.c) := (HB.out.cell (p := ⟨w.heap.size, 24, none⟩) HZ.out).trans HCell.out.rights
      have hnr := HNm.out.rights
      generalize L.rights = rr at hc hnr
      obtain ⟨ra, rn, rc⟩ := rr
      have HRows := Lib.hid hnr.2.2
      have HRn := Lib.hid hnr.1
      have hn47b : rn ≤ 140737488355328 := by have := hnr.1; have := hnr.2.1; simp only at *; omega
      simp only at hc HRows HRn
      clear hnr hki
      refine wpAt_seq (wpAt_of_wp ?_)
      go_wp2
      clear hc
      obtain ⟨wo, rfl⟩ : ∃ z : World, z = wr := ⟨_, rfl⟩
      obtain ⟨vo, rfl⟩ : ∃ z : Value, z = u8 := ⟨_, rfl⟩
      have HO0 := HO2
      have HB0 := HB
      clear HO2 HB
      go_loopw [8, 71] (fun v8 iv wr => ∃ i : Nat, i ≤ rn ∧ iv = .int .i64 i ∧ Hid (OwnSt V.heap.size wr v8 ((x.rots.map (fun d : RotD => d.name)) ++ (x.rights.map (fun d : RightD => d.name)).take i)) ∧ Hid (Below V.heap.size V wr)) (fun _ iv _ => rn - (intOf iv).toNat)
      case atStart => exact ⟨0, Nat.zero_le _, rfl, HO0, HB0⟩
      case round =>
        clear HO0 HB0
        obtain ⟨i, hi, rfl, HO, HB⟩ := hrel
        by_cases hlt : i < rn
        · obtain ⟨b, o, cs2, ha, hb, hlen, hra, hone, hnm, hmx⟩ := HRows.out i (by rw [← HRn.out]; exact hlt)
          subst ha
          have HL := Lib.hid hlen
          have HRA := Lib.hid (rangeAt_block hra (HB.out.block b hb))
          have HOne := Lib.hid (all_oneCell_toArray hone)
          have HSz : Hid ((Try.prog.info? 68).map (·.size) = some cs2.length) := Lib.hid (by rw [hlen]; kernel_rfl)
          have HSzb : Hid ((Try.prog.info? 68).map (·.size) = some cs2.toArray.size) := Lib.hid (by rw [List.size_toArray]; exact HSz.out)
          have hnl : i < (x.rights.map (fun d : RightD => d.name)).length := by rw [← HRn.out]; exact hlt
          generalize hgn : (x.rights.map (fun d : RightD => d.name))[i] = nm at hnm hmx
          have hc0 : (wr.alloc (.cells cs2.toArray 68)).cell? ⟨wr.heap.size, 1, none⟩ = some (.string nm) := by
            have h := World.alloc_heap_new wr (.cells cs2.toArray 68)
            simp only [World.cell?, h]
            simpa using hnm
          have HWb : Hid (Below wr.heap.size wr ((wr.alloc (.cells cs2.toArray 68)).alloc (.cells #[.string nm] 9))) := Lib.hid (((Below.refl _ _).alloc (Nat.le_refl _) _).alloc (by simp) _)
          have HOd := Lib.hid (HO.out.up HWb.out)
          have HBd := Lib.hid (HB.out.trans (HWb.out.mono HB.out.size))
          have HNew : Hid (((wr.alloc (.cells cs2.toArray 68)).alloc (.cells #[.string nm] 9)).heap[wr.heap.size + 1]? = some (.cells #[.string nm] 9 (0, 0))) := Lib.hid (by
            have h := World.alloc_heap_new (wr.alloc (.cells cs2.toArray 68)) (.cells #[.string nm] 9)
            simpa using h)
          have HMx := Lib.hid hmx
          have HLen : Hid (((x.rots.map (fun d : RotD => d.name)) ++ (x.rights.map (fun d : RightD => d.name)).take i).length + 1 ≤ 1000000) := Lib.hid (by
            have h1 := HSlim.out.rots; have h2 := HSlim.out.rights
            simp only [List.length_append, List.length_take, List.length_map] at hnl ⊢
            omega)
          have HBase : Hid (V.heap.size ≤ ((wr.alloc (.cells cs2.toArray 68)).alloc (.cells #[.string nm] 9)).heap.size) := Lib.hid (Nat.le_trans HB.out.size HWb.out.size)
          have HNext : Hid (((x.rots.map (fun d : RotD => d.name)) ++ (x.rights.map (fun d : RightD => d.name)).take i) ++ [nm] = (x.rots.map (fun d : RotD => d.name)) ++ (x.rights.map (fun d : RightD => d.name)).take (i + 1)) := Lib.hid (by
            rw [List.append_assoc, ← hgn, take_map_next hnl])
          have hki : (i : Int) < (rn : Int) := by omega
          generalize hls : (x.rots.map (fun d : RotD => d.name)) ++ (x.rights.map (fun d : RightD => d.name)).take i = ls at HO HOd HLen HNext
          clear hlen hra hone hnm hmx hnl hgn hls hb
          go_wp2_with (first | (refine wpList_load_mid rfl 68 _ rfl b (o + i * 37) rfl cs2 _ HRA.out Try.underlying68 rfl HSz.out ?_) | (refine wpList_store_row rfl 68 _ _ rfl wr.heap.size cs2.toArray rfl rfl 68 _ (World.alloc_heap_new _ _) HSzb.out (by simp [HL.out]) HOne.out ?_; rw [World.setRow_alloc_new]) | (at_builtin; refine wpList_append_st V.heap.size rfl _ _ rfl u8 ls rfl HOd.out (wr.heap.size + 1) 1 nm rfl HNew.out HMx.out HLen.out HBase.out ?_; intro ad c w5 hown5 hg5; have HO5 := Lib.hid hown5; have HB5 := Lib.hid (below_st HBd.out HBase.out HOd.out hg5); clear hown5 hg5))
          exact ⟨⟨i + 1, by omega, by push_cast; rfl, Lib.hid (by rw [← HNext.out]; exact HO5.out), HB5⟩, by simp [intOf]; omega⟩
        · obtain rfl : i = rn := by omega
          have hki : decide ((i : Int) < (i : Int)) = false := by simp
          have HO2 : Hid (OwnSt V.heap.size wr u8 (rightNames x)) := Lib.hid (by
            have h := HO.out
            rw [HRn.out, List.take_length] at h
            exact h)
          clear HO HRows HRn
          go_wp2
          have hlr : (rightNames x).length ≤ 100000 := by
            obtain ⟨_, _, _, _, h1, h2, _⟩ := fits_all HF.out
            unfold rightNames
            simp only [List.length_append, List.length_map]
            omega
          obtain ⟨⟨sa, sn, sc⟩, hsv, hsn⟩ := HO2.out.nm (by omega)
          unfold Hdr.v at hsv
          simp only at hsv
          subst hsv
          have HSn := Lib.hid hsn
          have HLr := Lib.hid hlr
          have HLd : Hid ((x.duties.map (·.name)).length ≤ 100000) := Lib.hid (by rw [List.length_map]; exact HSlim.out.duties)
          clear HO2 hsn hlr hki
          by_cases hrn : (rightNames x).Nodup
          · have HR := Lib.hid hrn
            clear hrn
            refine wpAt_seq (wpAt_of_wp ?_)
            go_wp2_with (first | (go_at_call 46; refine (tb_yes (table_str (h := ⟨sa, sn, sc⟩) HSn.out HLr.out) HR.out).mono ?_; rintro e w2 ⟨⟨m, rfl⟩, hb2⟩; have HB2 := Lib.hid (HB.out.trans (hb2.mono HB.out.size)); clear hb2))
            have hc : w2.cell? ⟨w.heap.size, 25, none⟩ = some (.slice L.duties.a L.duties.n L.duties.c) := (HB2.out.cell (p := ⟨w.heap.size, 25, none⟩) HZ.out).trans HCell.out.duties
            have HDu := Lib.hid (HNm.out.duties.up HB2.out)
            by_cases hdn : (x.duties.map (·.name)).Nodup
            · have HD := Lib.hid hdn
              clear hdn
              refine wpAt_seq (wpAt_of_wp ?_)
              go_wp2_with (first | (go_at_call 47; refine (tb_yes (table_duty HDu.out HLd.out) HD.out).mono ?_; rintro e w3 ⟨⟨m3, rfl⟩, hb3⟩; have HB3 := Lib.hid (HB2.out.trans (hb3.mono HB2.out.size)); clear hb3))
              exact res_d1 HQ.out (HP.out.up (HB3.out.mono HP.out.size)) (HM1.out.up HB3.out) (HM2.out.up HB3.out) (HM3.out.up HB3.out) (HM4.out.up HB3.out) HF.out (by rw [HW.out, if_pos ⟨HR.out, HD.out⟩]) _ _ _ _ _ _ _ _ _ _ _ _ _ _ _ _ _ _ _ _ _ _ _ _ _ _ _ _ _ _ _ _ _ _ _ _ _ _ _ _ _ _ _ _ _ _ _ _ _ _ _ _ _ _ _ _ _ _ _ _ _ _ _ _ _ _ _ _ _ _ _ _ _ _ _ _ _ _ _ _ _ _ _ _ _ _ _ _ _ _ _ _ _ _ _ _ _ _ _ _ _ _ _ _ _ _ _ _ _ _ _ _ _ _ _ _ _ _ _ _ _ _ _ _ _ _ _ _ _ _ _ _ _ _ _ _ _ _ _ _ _ _ _ _ _ _ _ _ _ _ _ _ _ _ _ _ _ _ _ _ _ _ _ _ _ _ _
            · have HD := Lib.hid hdn
              clear hdn
              refine wpAt_seq (wpAt_of_wp ?_)
              go_wp2_with (first | (go_at_call 47; refine (tb_no (table_duty HDu.out HLd.out) HD.out).mono ?_; rintro e w3 ⟨rfl, hb3⟩; have HB3 := Lib.hid (HB2.out.trans (hb3.mono HB2.out.size)); clear hb3))
              exact HFail.out _ _ ⟨rfl, rfl⟩ HB3.out (fun h => HD.out h.2)
          · have HR := Lib.hid hrn
            clear hrn
            refine wpAt_seq (wpAt_of_wp ?_)
            go_wp2_with (first | (go_at_call 46; refine (tb_no (table_str (h := ⟨sa, sn, sc⟩) HSn.out HLr.out) HR.out).mono ?_; rintro e w2 ⟨rfl, hb2⟩; have HB2 := Lib.hid (HB.out.trans (hb2.mono HB.out.size)); clear hb2))
            exact HFail.out _ _ ⟨rfl, rfl⟩ HB2.out (fun h => HR.out h.1)



  end Go.Proofs.Ytapejaabhkfhjaa

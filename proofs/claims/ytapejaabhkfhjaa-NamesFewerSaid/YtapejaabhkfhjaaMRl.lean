/- Resolve: the copy of the source, and the closure find (printed by gen_rl.py). -/
import Derived.Test.YtapejaabhkfhjaaMRj
import Derived.Test.YtapejaabhkfhjaaMRk
namespace Go.Proofs.Ytapejaabhkfhjaa
open Go.RowKit

theorem MapBox.lt {W : World} {b : Nat} {nms : List ByteArray} (h : MapBox W b nms) : b < W.heap.size := by
  obtain ⟨m, h1, _⟩ := h
  exact (Array.getElem?_eq_some_iff.1 h1).1
set_option maxRecDepth 100000 in
set_option maxHeartbeats 16000000 in
theorem res_d1 {Q : Exit → Act → World → Prop} {w V : World} {x : Src} {L : Lay} {cs : List Value} {N : Nat → Prop} {bl bc br bf : Nat} (hQ : RPost Q w x) (hP : RPre w x L cs N V)
    (h1 : MapBox V bl (x.lets.map (·.name))) (h2 : MapBox V bc (x.crops.map (·.name))) (h3 : MapBox V br (x.reaches.map (·.name))) (h4 : MapBox V bf (x.farms.map (·.name)))
    (hf : fitsAll x = true) (hw : wrongS x = if reachOk (Tb.of x) x && usesOk (Tb.of x) x then 0 else 170)
    (u0 u8 u9 u10 u11 u12 u13 u14 u15 u16 u17 u18 u19 u20 u21 u22 u23 u24 u25 u26 u27 u28 u29 u30 u31 u32 u33 u34 u35 u36 u37 u38 u39 u40 u41 u42 u43 u44 u45 u46 u47 u48 u49 u50 u51 u52 u53 u54 u55 u56 u57 u58 u59 u60 u61 u62 u63 u64 u65 u66 u67 u68 u69 u70 u71 u72 u73 u74 u75 u76 u77 u78 u79 u80 u81 u82 u83 u84 u85 u86 u87 u88 u89 u90 u91 u92 u93 u94 u95 u96 u97 u98 u99 u100 u101 u102 u103 u104 u105 u106 u107 u108 u109 u110 u111 u112 u113 u114 u115 u116 u117 u118 u119 u120 u121 u122 u123 u124 u125 u126 u127 u128 u129 u130 u131 u132 u133 u134 u135 u136 u137 u138 u139 u140 u141 u142 u143 u144 u145 u146 u147 u148 u149 u150 u151 u152 u153 u154 u155 u156 u157 u158 u159 u160 u161 u162 u163 u164 u165 u166 u167 u168 u169 u170 u171 u172 u173 : Value) :
    wpAt 11 Try.prog (tailC 17 (Try.f11.body.getD .skip)) Q { tmps := #[u0, .pointer (some ⟨w.heap.size, 0, none⟩), .pointer (some ⟨w.heap.size + 1, 0, none⟩), .pointer (some ⟨w.heap.size + 2, 0, none⟩), .pointer (some ⟨bl, 0, none⟩), .pointer (some ⟨bc, 0, none⟩), .pointer (some ⟨br, 0, none⟩), .pointer (some ⟨bf, 0, none⟩), u8, u9, u10, u11, u12, u13, u14, u15, u16, u17, u18, u19, u20, u21, u22, u23, u24, u25, u26, u27, u28, u29, u30, u31, u32, u33, u34, u35, u36, u37, u38, u39, u40, u41, u42, u43, u44, u45, u46, u47, u48, u49, u50, u51, u52, u53, u54, u55, u56, u57, u58, u59, u60, u61, u62, u63, u64, u65, u66, u67, u68, u69, u70, u71, u72, u73, u74, u75, u76, u77, u78, u79, u80, u81, u82, u83, u84, u85, u86, u87, u88, u89, u90, u91, u92, u93, u94, u95, u96, u97, u98, u99, u100, u101, u102, u103, u104, u105, u106, u107, u108, u109, u110, u111, u112, u113, u114, u115, u116, u117, u118, u119, u120, u121, u122, u123, u124, u125, u126, u127, u128, u129, u130, u131, u132, u133, u134, u135, u136, u137, u138, u139, u140, u141, u142, u143, u144, u145, u146, u147, u148, u149, u150, u151, u152, u153, u154, u155, u156, u157, u158, u159, u160, u161, u162, u163, u164, u165, u166, u167, u168, u169, u170, u171, u172, u173], defers := [dfr w.heap.size] } V := by
  have H26 : Hid ((Try.prog.info? 35).map (·.size) = some cs.length) := Lib.hid (by rw [hP.len]; kernel_rfl)
  have HRng := Lib.hid hP.range
  have HAt := Lib.hid hP.at
  have HQ := Lib.hid hQ; have HP := Lib.hid hP
  have HM1 := Lib.hid h1; have HM2 := Lib.hid h2; have HM3 := Lib.hid h3; have HM4 := Lib.hid h4; have HF := Lib.hid hf; have HW := Lib.hid hw
  obtain ⟨row, hrow, hx⟩ := hP.amid.x
  have HX := Lib.hid hx; have HRow := Lib.hid hrow; have HZ := Lib.hid hP.size
  clear hQ hP h1 h2 h3 h4 hf hw hrow hx
  unfold dfr
  refine wpAt_seq (wpAt_of_wp ?_)
  go_upto_region 25 with fail
  refine wp_region_lit ?_
  refine wpList_load_mid rfl 35 _ rfl w.heap.size 0 rfl cs _ HRng.out Try.underlying35 rfl H26.out ?_
  refine wpList_plain rfl fun K hK => ?_
  go_simp
  refine (cloned_any HAt.out (fun _ h => h) HP.out.slim).mono ?_
  rintro e w2 ⟨L2, cs2, rfl, h26, hone, hb2, hs2, hr2, hp2⟩
  have HX2 := Lib.hid ((hb2.block _ (by have := HZ.out; omega)).trans HX.out)
  have HL2 := Lib.hid h26; have HOne := Lib.hid (all_oneCell_toArray hone); have HB2 := Lib.hid hb2; have HS2 := Lib.hid hs2; have HR2 := Lib.hid hr2; have HP2 := Lib.hid hp2
  clear h26 hone hb2 hs2 hr2 hp2
  refine hK _ _ ?_
  clear hK K
  refine wpList_store_row rfl 35 _ _ rfl (w.heap.size + 1) cs2.toArray rfl rfl 35 row HX2.out (by rw [List.size_toArray, HL2.out]; kernel_rfl) (by simp [HL2.out, HRow.out]) HOne.out ?_
  refine wpList_nil ?_
  simp only []
  refine wpAt_seq (wpAt_of_wp ?_)
  go_wp2
  have HC := ctx_mk HP.out HM1.out HM2.out HM3.out HM4.out HF.out HW.out HL2.out HB2.out HS2.out HR2.out HP2.out
  have hsz : (w2.setRow (w.heap.size + 1) cs2.toArray).heap.size = w2.heap.size := setRow_size _ _ _
  have hsz2 : ((w2.setRow (w.heap.size + 1) cs2.toArray).alloc fnBox).heap.size = w2.heap.size + 1 := by simp [hsz]
  have hz2 := HB2.out.size
  have hbr := HM3.out.lt
  rw [← hsz2] at HC
  exact res_d2 (V := (w2.setRow (w.heap.size + 1) cs2.toArray).alloc fnBox) (Bf := w2.heap.size) HQ.out HC ⟨rfl, RJ.start _ _ _ _⟩ (by omega) (by omega) (by simp) _ _ _ _ _ _ _ _ _ _ _ _ _ _ _ _ _ _ _ _ _ _ _ _ _ _ _ _ _ _ _ _ _ _ _ _ _ _ _ _ _ _ _ _ _ _ _ _ _ _ _ _ _ _ _ _ _ _ _ _ _ _ _ _ _ _ _ _ _ _ _ _ _ _ _ _ _ _ _ _ _ _ _ _ _ _ _ _ _ _ _ _ _ _ _ _ _ _ _ _ _ _ _ _ _ _ _ _ _ _ _ _ _ _ _ _ _ _ _ _ _ _ _ _ _ _ _ _ _ _ _ _ _ _ _ _ _ _ _ _ _ _ _ _ _ _ _ _ _ _ _ _ _ _ _ _ _ _ _ _ _ _ _ _ _ _ _

end Go.Proofs.Ytapejaabhkfhjaa

/- Resolve: the four tables (printed by gen_ro.py). -/
import Derived.Test.YtapejaabhkfhjaaMRn
namespace Go.Proofs.Ytapejaabhkfhjaa
open Go.RowKit

set_option maxRecDepth 100000 in
set_option maxHeartbeats 16000000 in
theorem res_b {Q : Exit → Act → World → Prop} {w V : World} {x : Src} {L : Lay} {cs : List Value} {N : Nat → Prop} (hQ : RPost Q w x) (hP : RPre w x L cs N V)
    (hf : fitsAll x = true) (hw : wrongS x = if onceOk x then (if reachOk (Tb.of x) x && usesOk (Tb.of x) x then 0 else 170) else 171)
    (u0 u4 u5 u6 u7 u8 u9 u10 u11 u12 u13 u14 u15 u16 u17 u18 u19 u20 u21 u22 u23 u24 u25 u26 u27 u28 u29 u30 u31 u32 u33 u34 u35 u36 u37 u38 u39 u40 u41 u42 u43 u44 u45 u46 u47 u48 u49 u50 u51 u52 u53 u54 u55 u56 u57 u58 u59 u60 u61 u62 u63 u64 u65 u66 u67 u68 u69 u70 u71 u72 u73 u74 u75 u76 u77 u78 u79 u80 u81 u82 u83 u84 u85 u86 u87 u88 u89 u90 u91 u92 u93 u94 u95 u96 u97 u98 u99 u100 u101 u102 u103 u104 u105 u106 u107 u108 u109 u110 u111 u112 u113 u114 u115 u116 u117 u118 u119 u120 u121 u122 u123 u124 u125 u126 u127 u128 u129 u130 u131 u132 u133 u134 u135 u136 u137 u138 u139 u140 u141 u142 u143 u144 u145 u146 u147 u148 u149 u150 u151 u152 u153 u154 u155 u156 u157 u158 u159 u160 u161 u162 u163 u164 u165 u166 u167 u168 u169 u170 u171 u172 u173 : Value) :
    wpAt 11 Try.prog (tailC 11 (Try.f11.body.getD .skip)) Q { tmps := #[u0, .pointer (some ⟨w.heap.size, 0, none⟩), .pointer (some ⟨w.heap.size + 1, 0, none⟩), .pointer (some ⟨w.heap.size + 2, 0, none⟩), u4, u5, u6, u7, u8, u9, u10, u11, u12, u13, u14, u15, u16, u17, u18, u19, u20, u21, u22, u23, u24, u25, u26, u27, u28, u29, u30, u31, u32, u33, u34, u35, u36, u37, u38, u39, u40, u41, u42, u43, u44, u45, u46, u47, u48, u49, u50, u51, u52, u53, u54, u55, u56, u57, u58, u59, u60, u61, u62, u63, u64, u65, u66, u67, u68, u69, u70, u71, u72, u73, u74, u75, u76, u77, u78, u79, u80, u81, u82, u83, u84, u85, u86, u87, u88, u89, u90, u91, u92, u93, u94, u95, u96, u97, u98, u99, u100, u101, u102, u103, u104, u105, u106, u107, u108, u109, u110, u111, u112, u113, u114, u115, u116, u117, u118, u119, u120, u121, u122, u123, u124, u125, u126, u127, u128, u129, u130, u131, u132, u133, u134, u135, u136, u137, u138, u139, u140, u141, u142, u143, u144, u145, u146, u147, u148, u149, u150, u151, u152, u153, u154, u155, u156, u157, u158, u159, u160, u161, u162, u163, u164, u165, u166, u167, u168, u169, u170, u171, u172, u173], defers := [dfr w.heap.size] } V := by
  have HNm := Lib.hid (hP.at.nms fun _ h => h)
  have HCell := Lib.hid hP.cells
  have HZ : Hid (w.heap.size < V.heap.size) := Lib.hid (by have := hP.size; omega)
  have HQ := Lib.hid hQ; have HP := Lib.hid hP; have HSlim := Lib.hid hP.slim
  have HF := Lib.hid hf; have HW := Lib.hid hw
  have HFail : Hid (∀ tm wr, Vars w.heap.size tm → Below V.heap.size V wr → ¬ onceOk x → Q (.panic (errP 171)) { tmps := tm, defers := [dfr w.heap.size] } wr) := Lib.hid (fun tm wr hv hb hn => by
    rw [if_neg hn] at hw
    have := hQ.fail tm wr hv (hP.up (hb.mono hP.size)).amid (by rw [hw]; decide)
    rw [hw] at this; exact this)
  clear hQ hP hf hw
  unfold dfr
  refine wpAt_seq (wpAt_of_wp ?_)
  go_wp2_with fail
  refine reg11 (B := w.heap.size) (h0 := L.lets) (h1 := L.crops) (h2 := L.reaches) (h3 := L.farms) (n0s := x.lets.map (·.name)) (n1s := x.crops.map (·.name)) (n2s := x.reaches.map (·.name)) (n3s := x.farms.map (·.name)) _ ?_ ?_ ?_ ?_ ?_ ?_ ?_ ?_ ?_ ?_ ?_ ?_ ?_ ?_
  · rfl
  · rfl
  · rfl
  · exact fun W hb => ⟨(hb.cell (p := ⟨w.heap.size, 19, none⟩) HZ.out).trans HCell.out.lets, (hb.cell (p := ⟨w.heap.size, 20, none⟩) HZ.out).trans HCell.out.crops, (hb.cell (p := ⟨w.heap.size, 21, none⟩) HZ.out).trans HCell.out.reaches, (hb.cell (p := ⟨w.heap.size, 22, none⟩) HZ.out).trans HCell.out.farms⟩
  · exact fun W hb => HNm.out.lets.up hb
  · exact fun W hb => HNm.out.crops.up hb
  · exact fun W hb => HNm.out.reaches.up hb
  · exact fun W hb => HNm.out.farms.up hb
  · rw [List.length_map]; exact HSlim.out.lets
  · rw [List.length_map]; exact HSlim.out.crops
  · rw [List.length_map]; exact HSlim.out.reaches
  · rw [List.length_map]; exact HSlim.out.farms
  · intro a W ha2 ha3 hb hn
    obtain ⟨tm, df⟩ := a
    obtain rfl : df = [dfr w.heap.size] := ha2
    exact HFail.out tm W ⟨(ha3 2 (by omega)).trans rfl, (ha3 3 (by omega)).trans rfl⟩ hb (fun h => hn ⟨h.1, h.2.1, h.2.2.1, h.2.2.2.1⟩)
  · intro a W bl bc br bf ha1 ha2 ha3 g4 g5 g6 g7 m4 m5 m6 m7 b4 b5 b6 b7 hb hn
    have e : a = { tmps := #[u0, .pointer (some ⟨w.heap.size, 0, none⟩), .pointer (some ⟨w.heap.size + 1, 0, none⟩), .pointer (some ⟨w.heap.size + 2, 0, none⟩), (a.tmps.getD 4 undef), (a.tmps.getD 5 undef), (a.tmps.getD 6 undef), (a.tmps.getD 7 undef), u8, u9, u10, u11, u12, u13, u14, u15, u16, u17, u18, u19, u20, u21, u22, u23, u24, u25, u26, u27, u28, u29, u30, u31, u32, u33, u34, u35, u36, u37, u38, u39, u40, u41, u42, (a.tmps.getD 43 undef), (a.tmps.getD 44 undef), (a.tmps.getD 45 undef), (a.tmps.getD 46 undef), (a.tmps.getD 47 undef), (a.tmps.getD 48 undef), (a.tmps.getD 49 undef), (a.tmps.getD 50 undef), (a.tmps.getD 51 undef), (a.tmps.getD 52 undef), (a.tmps.getD 53 undef), (a.tmps.getD 54 undef), u55, u56, u57, u58, u59, u60, u61, u62, u63, u64, u65, u66, u67, u68, u69, u70, u71, u72, u73, u74, u75, u76, u77, u78, u79, u80, u81, u82, u83, u84, u85, u86, u87, u88, u89, u90, u91, u92, u93, u94, u95, u96, u97, u98, u99, u100, u101, u102, u103, u104, u105, u106, u107, u108, u109, u110, u111, u112, u113, u114, u115, u116, u117, u118, u119, u120, u121, u122, u123, u124, u125, u126, u127, u128, u129, u130, u131, u132, u133, u134, u135, u136, u137, u138, u139, u140, u141, u142, u143, u144, u145, u146, u147, u148, u149, u150, u151, u152, u153, u154, u155, u156, u157, u158, u159, u160, u161, u162, u163, u164, u165, u166, u167, u168, u169, u170, u171, u172, u173], defers := [dfr w.heap.size] } := (rebuild [4, 5, 6, 7, 43, 44, 45, 46, 47, 48, 49, 50, 51, 52, 53, 54] (ha1.trans rfl) ha2 (fun t ht => ha3 t ht)).trans (by kernel_rfl)
    rw [g4, g5, g6, g7] at e
    obtain ⟨v43, v44, v45, v46, v47, v48, v49, v50, v51, v52, v53, v54, rfl⟩ : ∃ v43 v44 v45 v46 v47 v48 v49 v50 v51 v52 v53 v54 : Value, a = { tmps := #[u0, .pointer (some ⟨w.heap.size, 0, none⟩), .pointer (some ⟨w.heap.size + 1, 0, none⟩), .pointer (some ⟨w.heap.size + 2, 0, none⟩), .pointer (some ⟨bl, 0, none⟩), .pointer (some ⟨bc, 0, none⟩), .pointer (some ⟨br, 0, none⟩), .pointer (some ⟨bf, 0, none⟩), u8, u9, u10, u11, u12, u13, u14, u15, u16, u17, u18, u19, u20, u21, u22, u23, u24, u25, u26, u27, u28, u29, u30, u31, u32, u33, u34, u35, u36, u37, u38, u39, u40, u41, u42, v43, v44, v45, v46, v47, v48, v49, v50, v51, v52, v53, v54, u55, u56, u57, u58, u59, u60, u61, u62, u63, u64, u65, u66, u67, u68, u69, u70, u71, u72, u73, u74, u75, u76, u77, u78, u79, u80, u81, u82, u83, u84, u85, u86, u87, u88, u89, u90, u91, u92, u93, u94, u95, u96, u97, u98, u99, u100, u101, u102, u103, u104, u105, u106, u107, u108, u109, u110, u111, u112, u113, u114, u115, u116, u117, u118, u119, u120, u121, u122, u123, u124, u125, u126, u127, u128, u129, u130, u131, u132, u133, u134, u135, u136, u137, u138, u139, u140, u141, u142, u143, u144, u145, u146, u147, u148, u149, u150, u151, u152, u153, u154, u155, u156, u157, u158, u159, u160, u161, u162, u163, u164, u165, u166, u167, u168, u169, u170, u171, u172, u173], defers := [dfr w.heap.size] } := ⟨_, _, _, _, _, _, _, _, _, _, _, _, e⟩
    have hw2 : wrongS x = if (rightNames x).Nodup ∧ (x.duties.map (·.name)).Nodup then (if reachOk (Tb.of x) x && usesOk (Tb.of x) x then 0 else 170) else 171 := by
      rw [HW.out]
      by_cases h : onceOk x
      · rw [if_pos h]; exact (if_pos ⟨h.2.2.2.2.1, h.2.2.2.2.2⟩).symm
      · rw [if_neg h]; exact (if_neg (fun k => h ⟨hn.1, hn.2.1, hn.2.2.1, hn.2.2.2, k.1, k.2⟩)).symm
    exact res_c HQ.out (HP.out.up (hb.mono HP.out.size)) m4 m5 m6 m7 HF.out hw2 _ _ _ _ _ _ _ _ _ _ _ _ _ _ _ _ _ _ _ _ _ _ _ _ _ _ _ _ _ _ _ _ _ _ _ _ _ _ _ _ _ _ _ _ _ _ _ _ _ _ _ _ _ _ _ _ _ _ _ _ _ _ _ _ _ _ _ _ _ _ _ _ _ _ _ _ _ _ _ _ _ _ _ _ _ _ _ _ _ _ _ _ _ _ _ _ _ _ _ _ _ _ _ _ _ _ _ _ _ _ _ _ _ _ _ _ _ _ _ _ _ _ _ _ _ _ _ _ _ _ _ _ _ _ _ _ _ _ _ _ _ _ _ _ _ _ _ _ _ _ _ _ _ _ _ _ _ _ _ _ _ _ _ _ _ _ _

end Go.Proofs.Ytapejaabhkfhjaa

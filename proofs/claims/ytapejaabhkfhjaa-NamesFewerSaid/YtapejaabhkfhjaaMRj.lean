/- Resolve: the loop over the reaches (printed by gen_rj.py). -/
import Derived.Test.YtapejaabhkfhjaaMRh
import Derived.Test.YtapejaabhkfhjaaMRf
import Derived.Test.YtapejaabhkfhjaaMRs
namespace Go.Proofs.Ytapejaabhkfhjaa
open Go.RowKit

set_option maxRecDepth 100000 in
set_option maxHeartbeats 16000000 in
theorem res_d2 {Q : Exit → Act → World → Prop} {w V W5 : World} {x : Src} {L : Lay} {N M : Nat → Prop} {bl bc br bf Bf : Nat} (hQ : RPost Q w x) (hC : RCtx w x W5 L N M bl bc br bf Bf V.heap.size)
    (hJ0 : RL w.heap.size W5 (Tb.of x) (allX W5 L x) V.heap.size (.cells #[.pointer (some ⟨w.heap.size + 1, 0, none⟩)] 52) 0 V) (hbf : Bf < V.heap.size) (hbr : br < V.heap.size) (hW5 : W5.heap.size = V.heap.size + 1)
    (u0 u1 u8 u9 u10 u11 u12 u14 u15 u16 u17 u18 u19 u20 u21 u22 u23 u24 u25 u26 u27 u28 u29 u30 u31 u32 u33 u34 u35 u36 u37 u38 u39 u40 u41 u42 u43 u44 u45 u46 u47 u48 u49 u50 u51 u52 u53 u54 u55 u56 u57 u58 u59 u60 u61 u62 u63 u64 u65 u66 u67 u68 u69 u70 u71 u72 u73 u74 u75 u76 u77 u78 u79 u80 u81 u82 u83 u84 u85 u86 u87 u88 u89 u90 u91 u92 u93 u94 u95 u96 u97 u98 u99 u100 u101 u102 u103 u104 u105 u106 u107 u108 u109 u110 u111 u112 u113 u114 u115 u116 u117 u118 u119 u120 u121 u122 u123 u124 u125 u126 u127 u128 u129 u130 u131 u132 u133 u134 u135 u136 u137 u138 u139 u140 u141 u142 u143 u144 u145 u146 u147 u148 u149 u150 u151 u152 u153 u154 u155 u156 u157 u158 u159 u160 u161 u162 u163 u164 u165 u166 u167 u168 u169 u170 u171 u172 u173 : Value) :
    wpAt 11 Try.prog (tailC 19 (Try.f11.body.getD .skip)) Q { tmps := #[u0, u1, .pointer (some ⟨w.heap.size + 1, 0, none⟩), .pointer (some ⟨w.heap.size + 2, 0, none⟩), .pointer (some ⟨bl, 0, none⟩), .pointer (some ⟨bc, 0, none⟩), .pointer (some ⟨br, 0, none⟩), .pointer (some ⟨bf, 0, none⟩), u8, u9, u10, u11, u12, .pointer (some ⟨Bf, 0, none⟩), u14, u15, u16, u17, u18, u19, u20, u21, u22, u23, u24, u25, u26, u27, u28, u29, u30, u31, u32, u33, u34, u35, u36, u37, u38, u39, u40, u41, u42, u43, u44, u45, u46, u47, u48, u49, u50, u51, u52, u53, u54, u55, u56, u57, u58, u59, u60, u61, u62, u63, u64, u65, u66, u67, u68, u69, u70, u71, u72, u73, u74, u75, u76, u77, u78, u79, u80, u81, u82, u83, u84, u85, u86, u87, u88, u89, u90, u91, u92, u93, u94, u95, u96, u97, u98, u99, u100, u101, u102, u103, u104, u105, u106, u107, u108, u109, u110, u111, u112, u113, u114, u115, u116, u117, u118, u119, u120, u121, u122, u123, u124, u125, u126, u127, u128, u129, u130, u131, u132, u133, u134, u135, u136, u137, u138, u139, u140, u141, u142, u143, u144, u145, u146, u147, u148, u149, u150, u151, u152, u153, u154, u155, u156, u157, u158, u159, u160, u161, u162, u163, u164, u165, u166, u167, u168, u169, u170, u171, u172, u173], defers := [dfr w.heap.size] } V := by
  have hls := hC.ls
  have hb3 : w.heap.size + 3 ≤ V.heap.size := by
    obtain ⟨v, he⟩ := hC.amid.e
    have h1 := (Array.getElem?_eq_some_iff.1 he).1
    rcases Nat.lt_or_ge (w.heap.size + 2) V.heap.size with h | h
    · omega
    · have h2 : w.heap.size + 2 = V.heap.size := by omega
      rw [h2, hC.box] at he
      cases he
  have hreach : L.reaches.ok := hC.ps.reaches.ok
  have hhd : ∀ k wr, RL w.heap.size W5 (Tb.of x) (allX W5 L x) V.heap.size (.cells #[.pointer (some ⟨w.heap.size + 1, 0, none⟩)] 52) k wr → wr.cell? ⟨w.heap.size + 1, 21, none⟩ = some L.reaches.v := fun k wr h => by
    rw [← h.cell (by omega), h.2.cells _ _ (by omega) (notNum_P ⟨_, hls ▸ hC.ps.ty, rfl⟩), ← hls]
    exact hC.ps.hreaches
  have hn47 : L.reaches.n ≤ 140737488355328 := hreach.1
  have hnl : L.reaches.n = x.reaches.length := hC.ps.reaches.1
  have hfind : ∀ k wr, RL w.heap.size W5 (Tb.of x) (allX W5 L x) V.heap.size (.cells #[.pointer (some ⟨w.heap.size + 1, 0, none⟩)] 52) k wr → wr.cell? ⟨Bf, 0, none⟩ = some (.func (.func 49) #[] #[]) := fun k wr h => by
    rw [← h.cell hbf]; exact box_read hC.find (by simp) (cls_other (by decide)) h.2
  obtain ⟨mr, hmr⟩ : ∃ mr, ∀ k wr, RL w.heap.size W5 (Tb.of x) (allX W5 L x) V.heap.size (.cells #[.pointer (some ⟨w.heap.size + 1, 0, none⟩)] 52) k wr → wr.cell? ⟨br, 0, none⟩ = some (.map (some mr)) ∧ MapIs wr mr (x.reaches.map (·.name)) := by
    obtain ⟨m, h1, h2⟩ := hC.reaches
    obtain ⟨es, clock, h3, _⟩ := h2.size
    have hml : m < V.heap.size := by
      rcases Nat.lt_or_ge m V.heap.size with h | h
      · exact h
      · have h4 : m = V.heap.size := by have := h2.lt; omega
        rw [h4, hC.box] at h3; cases h3
    refine ⟨m, fun k wr h => ⟨?_, ?_⟩⟩
    · rw [← h.cell hbr]; exact box_read h1 (by simp) (cls_other (by decide)) h.2
    · refine h2.block ?_
      rw [← h.heap hml]
      exact h.2.same m h2.lt (obj_notNum fun t ⟨c, hc⟩ => by rw [h3] at hc; cases hc)
  have HHd := Lib.hid hhd; have HFind := Lib.hid hfind; have HMr := Lib.hid hmr
  have HQ := Lib.hid hQ; have HC := Lib.hid hC; have HB3 := Lib.hid hb3; have HW5 := Lib.hid hW5; have HN := Lib.hid hnl
  have HR0 := Lib.hid hJ0
  have HFail : Hid (∀ k tm wr, RL w.heap.size W5 (Tb.of x) (allX W5 L x) V.heap.size (.cells #[.pointer (some ⟨w.heap.size + 1, 0, none⟩)] 52) k wr → Vars w.heap.size tm → wrongS x = 170 → Q (.panic (errP 170)) { tmps := tm, defers := [dfr w.heap.size] } wr) := Lib.hid (fun k tm wr h hv h170 => by
    have := hQ.fail tm wr hv (RL.amid hC.amid h hb3) (by rw [h170]; decide)
    rw [h170] at this; exact this)
  have hc21 := hhd 0 V hJ0
  have hra := hC.ps.reaches.2.2
  have HRa := Lib.hid hra
  generalize hrr : L.reaches = rr at hc21 hn47 hnl
  obtain ⟨ra, rn, rc⟩ := rr
  have HRr := Lib.hid hrr
  unfold Hdr.v at hc21
  simp only at hc21 hn47
  clear hls hb3 hreach hhd hnl hfind hmr hQ hC hJ0 hbf hbr hW5 hra hrr
  unfold dfr
  refine wpAt_seq (wpAt_of_wp ?_)
  go_wp2
  clear hc21
  go_loopw [91] (fun iv wr => ∃ i : Nat, iv = .int .i64 i ∧ i ≤ rn ∧ Hid (RL w.heap.size W5 (Tb.of x) (allX W5 L x) V.heap.size (.cells #[.pointer (some ⟨w.heap.size + 1, 0, none⟩)] 52) i wr)) (fun iv _ => rn - (intOf iv).toNat)
  case atStart => exact ⟨0, rfl, Nat.zero_le _, HR0⟩
  case round =>
    obtain ⟨i, rfl, hi, HR⟩ := hrel
    by_cases hlt : i < rn
    · have hl : i < x.reaches.length := by rw [← HN.out, HRr.out]; exact hlt
      obtain ⟨g, ha, hg, ty, hrest⟩ := HRa.out i hl
      rw [HRr.out] at ha
      simp only at ha
      subst ha
      have hX := allX_reach HC.out.ps hl (by rw [HRr.out])
      have hmem := List.mem_of_getElem? hX
      have hok := HC.out.uok _ hmem
      have hgV : g < V.heap.size := by
        have h1 := (HC.out.hN g hg).2
        rcases Nat.lt_or_ge g V.heap.size with h | h
        · exact h
        · have h4 : g = V.heap.size := by have := HW5.out; omega
          obtain ⟨c, hc⟩ := ty
          rw [h4, HC.out.box] at hc; cases hc
      have hnm : (x.reaches[i].frm.name).size ≤ maxLen := hok.len
      generalize x.reaches[i].frm.name = nm at hX hmem hok hnm
      generalize x.reaches[i].frm.n = un at hX hmem hok
      have HX := Lib.hid hX; have HMem := Lib.hid hmem; have HOk := Lib.hid hok; have HgV := Lib.hid hgV; have HLen := Lib.hid hnm
      have hki : (i : Int) < (rn : Int) := by omega
      have HIl : Hid (i < (x.reaches.map (·.name)).length) := Lib.hid (by rw [List.length_map]; exact hl)
      clear hX hmem hok hgV hnm hg ty hrest hl
      by_cases h0 : i = 0
      · subst h0
        obtain ⟨c0, ⟨z, c1, hz0⟩, cf⟩ := HR.out.read HOk.out HgV.out
        simp only [Nat.zero_mul, Nat.zero_add] at c0 c1 hz0
        obtain rfl := hz0 (by simp)
        have c21 : wr.cell? ⟨w.heap.size + 1, 21, none⟩ = some (.slice (some ⟨g, 0, none⟩) rn rc) := by
          have h := HHd.out _ _ HR.out
          rw [HRr.out] at h; exact h
        clear cf hz0
        cases hb : okU (Tb.of x) ⟨g, 0 * 51 + 1, if (0 : Nat) = 0 then 0 else 6, (0 : Nat), nm, z⟩ with
        | true =>
          have HB := Lib.hid hb
          obtain ⟨hn1, hn2⟩ : nm.size = 0 ∧ z = 0 := by
            have h := hb
            unfold okU okT at h
            simpa using h
          have hn3 : nm = ⟨#[]⟩ := empty_of ((size_nil nm).1 hn1)
          clear hb hn1
          subst hn2
          subst hn3
          go_wp2_with (first | (go_at_call 50; refine (need_yes _ _).mono ?_; rintro e w5 ⟨rfl, hw5⟩; obtain rfl := hw5.symm))
          exact ⟨⟨1, rfl, by omega, Lib.hid (HR.out.skip HX.out (by simp) HB.out)⟩, by simp [intOf]; omega⟩
        | false =>
          have HBad := Lib.hid (HC.out.bad HMem.out hb)
          have hno : ¬ (nm.size = 0 ∧ z = 0) := by
            have h := hb
            unfold okU okT at h
            simpa using h
          have HNo := Lib.hid hno
          clear hb hno
          go_wp2_with (first | (exact absurd ⟨(size_nil _).2 (by assumption), (by assumption)⟩ HNo.out) | (go_at_call 50; refine (need_no _ _).mono ?_; rintro e w5 ⟨rfl, hw5⟩; obtain rfl := hw5.symm))
          all_goals first
            | exact HFail.out _ _ _ HR.out ⟨rfl, rfl⟩ HBad.out
            | fail
      · have HRd := Lib.hid HR.out.drew
        have h6 : (if i = 0 then (0 : Int) else 6) = 6 := by rw [if_neg h0]
        have hS : ∀ W, RL w.heap.size W5 (Tb.of x) (allX W5 L x) V.heap.size (.cells #[.pointer (some ⟨w.heap.size + 1, 0, none⟩)] 52) i W → W.cell? ⟨Bf, 0, none⟩ = some (.func (.func 49) #[] #[]) ∧ W.cell? ⟨w.heap.size + 1, 21, none⟩ = some (.slice (some ⟨g, 0, none⟩) rn rc) ∧ W.cell? ⟨br, 0, none⟩ = some (.map (some mr)) := fun W h => ⟨HFind.out _ _ h, by have h := HHd.out _ _ h; rw [HRr.out] at h; exact h, (HMr.out _ _ h).1⟩
        have HS := Lib.hid hS
        have hi0 : ((i : Int) == 0) = false := by simp; omega
        have HH6 := Lib.hid h6
        have HIlt := Lib.hid hlt
        cases hb : okU (Tb.of x) ⟨g, i * 51 + 1, if i = 0 then 0 else 6, (i : Int), nm, un⟩ with
        | true =>
          have HB := Lib.hid hb
          rw [h6] at hb
          obtain ⟨j, hp, hv, hlj, hil⟩ := okT_some (to := 6) (by decide) hb
          have HCall : Hid (∀ W, RL w.heap.size W5 (Tb.of x) (allX W5 L x) V.heap.size (.cells #[.pointer (some ⟨w.heap.size + 1, 0, none⟩)] 52) i W → Calls Try.prog 49 #[.pointer (some ⟨g, i * 51 + 1, none⟩), .map (some mr), .int .i64 i] W fun e w' => (e = .returned (.tuple #[]) ∧ RL w.heap.size W5 (Tb.of x) (allX W5 L x) V.heap.size (.cells #[.pointer (some ⟨w.heap.size + 1, 0, none⟩)] 52) (i + 1) w') ∨ (e = .panicked (errP 170) ∧ False)) := Lib.hid (fun W h => by
            obtain ⟨c0, ⟨z, c1, hz0⟩, cf⟩ := h.read HOk.out HgV.out
            refine (find_yes (most := (i : Int)) c0 c1 cf (HMr.out _ _ h).2 HLen.out hp (hlj rfl)).mono ?_
            rintro e w2 ⟨rfl, rfl⟩
            refine .inl ⟨rfl, ?_⟩
            have h := h.next HC.out.uok HX.out HgV.out (by simp only; rw [h6]; decide) HB.out
            simp only [h6] at h
            rw [show valT (Tb.of x) (catT 6) nm = _ from hv] at h
            exact h)
          clear hb hp hv hlj hil h6 hS h0
          go_wp2_with fail
          refine reg32 (B := w.heap.size) (Bf := Bf) (g := g) (rn := rn) (rc := rc) (br := br) (mr := mr) (i := i) (R1 := fun W => RL w.heap.size W5 (Tb.of x) (allX W5 L x) V.heap.size (.cells #[.pointer (some ⟨w.heap.size + 1, 0, none⟩)] 52) i W) (R2 := fun W => RL w.heap.size W5 (Tb.of x) (allX W5 L x) V.heap.size (.cells #[.pointer (some ⟨w.heap.size + 1, 0, none⟩)] 52) (i + 1) W) (R3 := fun _ => False) _ ?_ ?_ ?_ ?_ ?_ ?_ ?_ ?_ ?_ ?_ ?_ ?_
          · rfl
          · rfl
          · rfl
          · rfl
          · rfl
          · rfl
          · exact HIlt.out
          · exact HRd.out
          · exact HS.out
          · exact HCall.out
          · exact fun _ _ _ _ h => h.elim
          · intro a W ha1 ha2 ha3 hr2
            have HR2 := Lib.hid hr2
            obtain ⟨v105, v106, v107, v108, v109, v110, v111, v112, v113, rfl⟩ : ∃ v105 v106 v107 v108 v109 v110 v111 v112 v113 : Value, a = { tmps := #[u0, u1, .pointer (some ⟨w.heap.size + 1, 0, none⟩), .pointer (some ⟨w.heap.size + 2, 0, none⟩), .pointer (some ⟨bl, 0, none⟩), .pointer (some ⟨bc, 0, none⟩), .pointer (some ⟨br, 0, none⟩), .pointer (some ⟨bf, 0, none⟩), u8, u9, u10, u11, u12, .pointer (some ⟨Bf, 0, none⟩), .int .i64 i, u15, u16, u17, u18, u19, u20, u21, u22, u23, u24, u25, u26, u27, u28, u29, u30, u31, u32, u33, u34, u35, u36, u37, u38, u39, u40, u41, u42, u43, u44, u45, u46, u47, u48, u49, u50, u51, u52, u53, u54, u55, u56, u57, u58, u59, u60, u61, u62, u63, u64, u65, u66, u67, u68, u69, u70, u71, u72, u73, u74, u75, u76, u77, u78, u79, u80, u81, u82, u83, u84, u85, u86, u87, .pointer (some ⟨w.heap.size + 1, 21, none⟩), .slice (some ⟨g, 0, none⟩) rn rc, .int .i64 rn, .int .i64 i, .bool true, .int .i64 i, .int .i64 i, .bool false, u96, u97, u98, u99, u100, u101, u102, u103, u104, v105, v106, v107, v108, v109, v110, v111, v112, v113, u114, u115, u116, u117, u118, u119, u120, u121, u122, u123, u124, u125, u126, u127, u128, u129, u130, u131, u132, u133, u134, u135, u136, u137, u138, u139, u140, u141, u142, u143, u144, u145, u146, u147, u148, u149, u150, u151, u152, u153, u154, u155, u156, u157, u158, u159, u160, u161, u162, u163, u164, u165, u166, u167, u168, u169, u170, u171, u172, u173], defers := [dfr w.heap.size] } := by
              refine ⟨a.tmps.getD 105 undef, a.tmps.getD 106 undef, a.tmps.getD 107 undef, a.tmps.getD 108 undef, a.tmps.getD 109 undef, a.tmps.getD 110 undef, a.tmps.getD 111 undef, a.tmps.getD 112 undef, a.tmps.getD 113 undef, (rebuild [105, 106, 107, 108, 109, 110, 111, 112, 113] (ha1.trans rfl) ha2 (fun t ht => ha3 t ?_)).trans (by kernel_rfl)⟩
              simp at ht; omega
            clear ha1 ha2 ha3 hr2
            unfold dfr
            go_wp2
            exact ⟨⟨i + 1, by push_cast; rfl, by omega, HR2⟩, by simp [intOf]; omega⟩
        | false =>
          have HBad := Lib.hid (HC.out.bad HMem.out hb)
          rw [h6] at hb
          have hn := okT_none (to := 6) (by decide) hb
          have HCall : Hid (∀ W, RL w.heap.size W5 (Tb.of x) (allX W5 L x) V.heap.size (.cells #[.pointer (some ⟨w.heap.size + 1, 0, none⟩)] 52) i W → Calls Try.prog 49 #[.pointer (some ⟨g, i * 51 + 1, none⟩), .map (some mr), .int .i64 i] W fun e w' => (e = .returned (.tuple #[]) ∧ False) ∨ (e = .panicked (errP 170) ∧ RL w.heap.size W5 (Tb.of x) (allX W5 L x) V.heap.size (.cells #[.pointer (some ⟨w.heap.size + 1, 0, none⟩)] 52) i w')) := Lib.hid (fun W h => by
            obtain ⟨c0, ⟨z, c1, hz0⟩, cf⟩ := h.read HOk.out HgV.out
            refine (find_no (most := (i : Int)) c0 (HMr.out _ _ h).2 HLen.out (fun j hp => (hn j hp).2)).mono ?_
            rintro e w2 ⟨rfl, rfl⟩
            exact .inr ⟨rfl, h⟩)
          clear hb hn h6 hS h0
          go_wp2_with fail
          refine reg32 (B := w.heap.size) (Bf := Bf) (g := g) (rn := rn) (rc := rc) (br := br) (mr := mr) (i := i) (R1 := fun W => RL w.heap.size W5 (Tb.of x) (allX W5 L x) V.heap.size (.cells #[.pointer (some ⟨w.heap.size + 1, 0, none⟩)] 52) i W) (R2 := fun _ => False) (R3 := fun W => RL w.heap.size W5 (Tb.of x) (allX W5 L x) V.heap.size (.cells #[.pointer (some ⟨w.heap.size + 1, 0, none⟩)] 52) i W) _ ?_ ?_ ?_ ?_ ?_ ?_ ?_ ?_ ?_ ?_ ?_ ?_
          · rfl
          · rfl
          · rfl
          · rfl
          · rfl
          · rfl
          · exact HIlt.out
          · exact HRd.out
          · exact HS.out
          · exact HCall.out
          · intro a W ha2 ha3 hr
            obtain ⟨tm, df⟩ := a
            obtain rfl : df = [dfr w.heap.size] := ha2
            exact HFail.out i tm W hr ⟨(ha3 2 (by omega)).trans rfl, (ha3 3 (by omega)).trans rfl⟩ HBad.out
          · exact fun _ _ _ _ _ h => h.elim
    · obtain rfl : i = rn := by omega
      have hki : decide ((i : Int) < (i : Int)) = false := by simp
      have HC2 : Hid (RCtx w x W5 L N M bl bc br bf Bf wr.heap.size) := Lib.hid (by rw [HR.out.1]; exact HC.out)
      have HJ2 : Hid (RJ w.heap.size W5 (Tb.of x) (allX W5 L x) (reachX L x).length (fun _ => False) (wr.alloc (.cells #[.pointer (some ⟨w.heap.size + 1, 0, none⟩)] 52))) := Lib.hid (by
        rw [reachX_len HC.out.ps, ← HN.out, HRr.out]
        exact HR.out.2)
      go_wp2
      exact res_e HQ.out HC2.out HJ2.out _ _ _ _ _ _ _ _ _ _ _ _ _ _ _ _ _ _ _ _ _ _ _ _ _ _ _ _ _ _ _ _ _ _ _ _ _ _ _ _ _ _ _ _ _ _ _ _ _ _ _ _ _ _ _ _ _ _ _ _ _ _ _ _ _ _ _ _ _ _ _ _ _ _ _ _ _ _ _ _ _ _ _ _ _ _ _ _ _ _ _ _ _ _ _ _ _ _ _ _ _ _ _ _ _ _ _ _ _ _ _ _ _ _ _ _ _ _ _ _ _ _ _ _ _ _ _ _ _ _ _ _ _ _ _ _ _ _ _ _ _ _ _ _ _ _ _ _ _ _ _ _ _ _ _ _ _ _ _ _ _ _ _ _ _ _ _

end Go.Proofs.Ytapejaabhkfhjaa

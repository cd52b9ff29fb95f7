/- Resolve: the lengths and the names (printed by gen_rp.py). -/
import Derived.Test.YtapejaabhkfhjaaMRo
namespace Go.Proofs.Ytapejaabhkfhjaa
open Go.RowKit

theorem nm_one {w : World} {nm : ByteArray} (hn : nm.size ≤ maxLen) : NmRow (w.alloc (.cells #[.string nm] 9)) ⟨some ⟨w.heap.size, 0, none⟩, 1, 1⟩ 1 0 [nm] := by
  refine ⟨rfl, by simp, fun i hi => ?_⟩
  obtain rfl : i = 0 := by simpa using hi
  have h := World.alloc_heap_new w (.cells #[.string nm] 9)
  refine ⟨w.heap.size, 0, [.string nm], rfl, by simp, rfl, range_one ?_, by simp [Value.oneCell'], rfl, hn⟩
  simp only [World.cell?, h]
  rfl
theorem sp_yes {f : FuncId} {args : Array Value} {w : World} {b : Bool} (h : Calls Try.prog f args w (SpPost w b)) (hb : b = true) : Calls Try.prog f args w fun e w' => e = .returned (.tuple #[]) ∧ Below w.heap.size w w' :=
  h.mono fun e w' hp => by rw [hb] at hp; exact ⟨hp.2, hp.1⟩
theorem sp_no {f : FuncId} {args : Array Value} {w : World} {b : Bool} (h : Calls Try.prog f args w (SpPost w b)) (hb : b = false) : Calls Try.prog f args w fun e w' => e = .panicked (errP 170) ∧ Below w.heap.size w w' :=
  h.mono fun e w' hp => by rw [hb] at hp; exact ⟨hp.2, hp.1⟩
theorem len_is {f : FuncId} {args : Array Value} {w : World} {b c : Bool} (h : Calls Try.prog f args w (LenPost w b)) (hb : b = c) : Calls Try.prog f args w (LenPost w c) := hb ▸ h
set_option maxRecDepth 100000 in
set_option maxHeartbeats 16000000 in
theorem res_a {Q : Exit → Act → World → Prop} {w V : World} {x : Src} {L : Lay} {cs : List Value} {N : Nat → Prop} (hQ : RPost Q w x) (hP : RPre w x L cs N V) (hg : GV V) (hd : ∀ e ∈ allE x, depthE e.1 ≤ 1000000)
    (u0 u4 u5 u6 u7 u8 u9 u10 u11 u12 u13 u14 u15 u16 u17 u18 u19 u20 u21 u22 u23 u24 u25 u26 u27 u28 u29 u30 u31 u32 u33 u34 u35 u36 u37 u38 u39 u40 u41 u42 u43 u44 u45 u46 u47 u48 u49 u50 u51 u52 u53 u54 u55 u56 u57 u58 u59 u60 u61 u62 u63 u64 u65 u66 u67 u68 u69 u70 u71 u72 u73 u74 u75 u76 u77 u78 u79 u80 u81 u82 u83 u84 u85 u86 u87 u88 u89 u90 u91 u92 u93 u94 u95 u96 u97 u98 u99 u100 u101 u102 u103 u104 u105 u106 u107 u108 u109 u110 u111 u112 u113 u114 u115 u116 u117 u118 u119 u120 u121 u122 u123 u124 u125 u126 u127 u128 u129 u130 u131 u132 u133 u134 u135 u136 u137 u138 u139 u140 u141 u142 u143 u144 u145 u146 u147 u148 u149 u150 u151 u152 u153 u154 u155 u156 u157 u158 u159 u160 u161 u162 u163 u164 u165 u166 u167 u168 u169 u170 u171 u172 u173 : Value) :
    wpAt 11 Try.prog (tailC 2 (Try.f11.body.getD .skip)) Q { tmps := #[u0, .pointer (some ⟨w.heap.size, 0, none⟩), .pointer (some ⟨w.heap.size + 1, 0, none⟩), .pointer (some ⟨w.heap.size + 2, 0, none⟩), u4, u5, u6, u7, u8, u9, u10, u11, u12, u13, u14, u15, u16, u17, u18, u19, u20, u21, u22, u23, u24, u25, u26, u27, u28, u29, u30, u31, u32, u33, u34, u35, u36, u37, u38, u39, u40, u41, u42, u43, u44, u45, u46, u47, u48, u49, u50, u51, u52, u53, u54, u55, u56, u57, u58, u59, u60, u61, u62, u63, u64, u65, u66, u67, u68, u69, u70, u71, u72, u73, u74, u75, u76, u77, u78, u79, u80, u81, u82, u83, u84, u85, u86, u87, u88, u89, u90, u91, u92, u93, u94, u95, u96, u97, u98, u99, u100, u101, u102, u103, u104, u105, u106, u107, u108, u109, u110, u111, u112, u113, u114, u115, u116, u117, u118, u119, u120, u121, u122, u123, u124, u125, u126, u127, u128, u129, u130, u131, u132, u133, u134, u135, u136, u137, u138, u139, u140, u141, u142, u143, u144, u145, u146, u147, u148, u149, u150, u151, u152, u153, u154, u155, u156, u157, u158, u159, u160, u161, u162, u163, u164, u165, u166, u167, u168, u169, u170, u171, u172, u173], defers := [dfr w.heap.size] } V := by
  have HNm := Lib.hid (hP.at.nms fun _ h => h)
  have HCell := Lib.hid hP.cells
  have HZ : Hid (w.heap.size < V.heap.size) := Lib.hid (by have := hP.size; omega)
  have HQ := Lib.hid hQ; have HP := Lib.hid hP; have HG := Lib.hid hg
  have HS : Hid (SrcV (fun b => b < V.heap.size) V { L with s := w.heap.size } cs x) := Lib.hid (by have h := hP.at; exact ⟨h.name, h.cells, h.lets, h.crops, h.reaches, h.farms, h.rots, h.rights, h.duties⟩)
  have HRng := Lib.hid hP.range
  have HD := Lib.hid hd
  have HName : Hid (x.name.size ≤ maxLen) := Lib.hid hP.src.name
  have HFail : Hid (∀ (c : Int) tm wr, Vars w.heap.size tm → Below V.heap.size V wr → wrongS x = c → c ≠ 0 → Q (.panic (errP c)) { tmps := tm, defers := [dfr w.heap.size] } wr) := Lib.hid (fun c tm wr hv hb hc hn => by
    subst hc
    exact hQ.fail tm wr hv (hP.up (hb.mono hP.size)).amid hn)
  clear hQ hP hg hd
  unfold dfr
  cases hf : fitsAll x with
  | false =>
    have HF := Lib.hid hf
    clear hf
    refine wpAt_seq (wpAt_of_wp ?_)
    go_wp2_with (first | (go_at_call 25; refine (len_is (lengths_any HS.out HRng.out (fun _ h => h) HZ.out HD.out) HF.out).mono ?_; rintro e w2 ⟨hb2, rfl⟩; have HB2 := Lib.hid hb2; clear hb2))
    exact HFail.out 2 _ _ ⟨rfl, rfl⟩ HB2.out (by unfold wrongS; rw [HF.out]; rfl) (by decide)
  | true =>
    have HF := Lib.hid hf
    clear hf
    have HFail2 : Hid (∀ tm wr, Vars w.heap.size tm → Below V.heap.size V wr → namesOk x = false → Q (.panic (errP 170)) { tmps := tm, defers := [dfr w.heap.size] } wr) := Lib.hid (fun tm wr hv hb hn => HFail.out 170 tm wr hv hb (by unfold wrongS; rw [HF.out, hn]; rfl) (by decide))
    refine wpAt_seq (wpAt_of_wp ?_)
    go_wp2_with (first | (go_at_call 25; refine (len_is (lengths_any HS.out HRng.out (fun _ h => h) HZ.out HD.out) HF.out).mono ?_; rintro e w2 ⟨hb2, rfl⟩; have HB2 := Lib.hid hb2; clear hb2))
    have hc : w2.cell? ⟨w.heap.size, 0, none⟩ = some (.string x.name) := (HB2.out.cell (p := ⟨w.heap.size, 0, none⟩) HZ.out).trans HCell.out.name
    have HNr : Hid (NmRow (w2.alloc (.cells #[.string x.name] 9)) ⟨some ⟨w2.heap.size, 0, none⟩, 1, 1⟩ 1 0 [x.name]) := Lib.hid (nm_one HName.out)
    have HBa : Hid (Below V.heap.size V (w2.alloc (.cells #[.string x.name] 9))) := Lib.hid (HB2.out.alloc HB2.out.size _)
    have HGa : Hid (GV (w2.alloc (.cells #[.string x.name] 9))) := Lib.hid (HG.out.below HBa.out HG.out.1)
    cases hk0 : nameOk x.name with
    | false =>
      have HOk0 := Lib.hid hk0
      clear hk0
      refine wpAt_seq (wpAt_of_wp ?_)
      go_wp2_with (first | (go_at_call 26; refine (sp_no (spelt_str (h := ⟨some ⟨w2.heap.size, 0, none⟩, 1, 1⟩) HNr.out HGa.out) (by simp [HOk0.out])).mono ?_; rintro e w3 ⟨rfl, hb3⟩; have HB3 := Lib.hid (HBa.out.trans (hb3.mono HBa.out.size)); clear hb3))
      exact HFail2.out _ _ ⟨rfl, rfl⟩ HB3.out (by unfold namesOk; rw [HOk0.out]; simp)
    | true =>
      have HOk0 := Lib.hid hk0
      clear hk0
      refine wpAt_seq (wpAt_of_wp ?_)
      go_wp2_with (first | (go_at_call 26; refine (sp_yes (spelt_str (h := ⟨some ⟨w2.heap.size, 0, none⟩, 1, 1⟩) HNr.out HGa.out) (by simp [HOk0.out])).mono ?_; rintro e w3 ⟨rfl, hb3⟩; have HB3 := Lib.hid (HBa.out.trans (hb3.mono HBa.out.size)); clear hb3))
      clear hc
      have hc : w3.cell? ⟨w.heap.size, 19, none⟩ = some (.slice L.lets.a L.lets.n L.lets.c) := (HB3.out.cell (p := ⟨w.heap.size, 19, none⟩) HZ.out).trans HCell.out.lets
      have HNr1 := Lib.hid (HNm.out.lets.up HB3.out)
      have HG1 : Hid (GV w3) := Lib.hid (HG.out.below HB3.out HG.out.1)
      cases hk : (x.lets.map (·.name)).all nameOk with
      | false =>
        have HOk1 := Lib.hid hk
        clear hk
        refine wpAt_seq (wpAt_of_wp ?_)
        go_wp2_with (first | (go_at_call 28; refine (sp_no (spelt_let HNr1.out HG1.out) HOk1.out).mono ?_; rintro e w4 ⟨rfl, hb4⟩; have HB4 := Lib.hid (HB3.out.trans (hb4.mono HB3.out.size)); clear hb4))
        exact HFail2.out _ _ ⟨rfl, rfl⟩ HB4.out (by unfold namesOk; rw [HOk1.out]; simp)
      | true =>
        have HOk1 := Lib.hid hk
        clear hk
        refine wpAt_seq (wpAt_of_wp ?_)
        go_wp2_with (first | (go_at_call 28; refine (sp_yes (spelt_let HNr1.out HG1.out) HOk1.out).mono ?_; rintro e w4 ⟨rfl, hb4⟩; have HB4 := Lib.hid (HB3.out.trans (hb4.mono HB3.out.size)); clear hb4))
        clear hc
        have hc : w4.cell? ⟨w.heap.size, 20, none⟩ = some (.slice L.crops.a L.crops.n L.crops.c) := (HB4.out.cell (p := ⟨w.heap.size, 20, none⟩) HZ.out).trans HCell.out.crops
        have HNr2 := Lib.hid (HNm.out.crops.up HB4.out)
        have HG2 : Hid (GV w4) := Lib.hid (HG.out.below HB4.out HG.out.1)
        cases hk : (x.crops.map (·.name)).all nameOk with
        | false =>
          have HOk2 := Lib.hid hk
          clear hk
          refine wpAt_seq (wpAt_of_wp ?_)
          go_wp2_with (first | (go_at_call 30; refine (sp_no (spelt_crop HNr2.out HG2.out) HOk2.out).mono ?_; rintro e w5 ⟨rfl, hb5⟩; have HB5 := Lib.hid (HB4.out.trans (hb5.mono HB4.out.size)); clear hb5))
          exact HFail2.out _ _ ⟨rfl, rfl⟩ HB5.out (by unfold namesOk; rw [HOk2.out]; simp)
        | true =>
          have HOk2 := Lib.hid hk
          clear hk
          refine wpAt_seq (wpAt_of_wp ?_)
          go_wp2_with (first | (go_at_call 30; refine (sp_yes (spelt_crop HNr2.out HG2.out) HOk2.out).mono ?_; rintro e w5 ⟨rfl, hb5⟩; have HB5 := Lib.hid (HB4.out.trans (hb5.mono HB4.out.size)); clear hb5))
          clear hc
          have hc : w5.cell? ⟨w.heap.size, 21, none⟩ = some (.slice L.reaches.a L.reaches.n L.reaches.c) := (HB5.out.cell (p := ⟨w.heap.size, 21, none⟩) HZ.out).trans HCell.out.reaches
          have HNr3 := Lib.hid (HNm.out.reaches.up HB5.out)
          have HG3 : Hid (GV w5) := Lib.hid (HG.out.below HB5.out HG.out.1)
          cases hk : (x.reaches.map (·.name)).all nameOk with
          | false =>
            have HOk3 := Lib.hid hk
            clear hk
            refine wpAt_seq (wpAt_of_wp ?_)
            go_wp2_with (first | (go_at_call 32; refine (sp_no (spelt_reach HNr3.out HG3.out) HOk3.out).mono ?_; rintro e w6 ⟨rfl, hb6⟩; have HB6 := Lib.hid (HB5.out.trans (hb6.mono HB5.out.size)); clear hb6))
            exact HFail2.out _ _ ⟨rfl, rfl⟩ HB6.out (by unfold namesOk; rw [HOk3.out]; simp)
          | true =>
            have HOk3 := Lib.hid hk
            clear hk
            refine wpAt_seq (wpAt_of_wp ?_)
            go_wp2_with (first | (go_at_call 32; refine (sp_yes (spelt_reach HNr3.out HG3.out) HOk3.out).mono ?_; rintro e w6 ⟨rfl, hb6⟩; have HB6 := Lib.hid (HB5.out.trans (hb6.mono HB5.out.size)); clear hb6))
            clear hc
            have hc : w6.cell? ⟨w.heap.size, 22, none⟩ = some (.slice L.farms.a L.farms.n L.farms.c) := (HB6.out.cell (p := ⟨w.heap.size, 22, none⟩) HZ.out).trans HCell.out.farms
            have HNr4 := Lib.hid (HNm.out.farms.up HB6.out)
            have HG4 : Hid (GV w6) := Lib.hid (HG.out.below HB6.out HG.out.1)
            cases hk : (x.farms.map (·.name)).all nameOk with
            | false =>
              have HOk4 := Lib.hid hk
              clear hk
              refine wpAt_seq (wpAt_of_wp ?_)
              go_wp2_with (first | (go_at_call 34; refine (sp_no (spelt_farm HNr4.out HG4.out) HOk4.out).mono ?_; rintro e w7 ⟨rfl, hb7⟩; have HB7 := Lib.hid (HB6.out.trans (hb7.mono HB6.out.size)); clear hb7))
              exact HFail2.out _ _ ⟨rfl, rfl⟩ HB7.out (by unfold namesOk; rw [HOk4.out]; simp)
            | true =>
              have HOk4 := Lib.hid hk
              clear hk
              refine wpAt_seq (wpAt_of_wp ?_)
              go_wp2_with (first | (go_at_call 34; refine (sp_yes (spelt_farm HNr4.out HG4.out) HOk4.out).mono ?_; rintro e w7 ⟨rfl, hb7⟩; have HB7 := Lib.hid (HB6.out.trans (hb7.mono HB6.out.size)); clear hb7))
              clear hc
              have hc : w7.cell? ⟨w.heap.size, 23, none⟩ = some (.slice L.rots.a L.rots.n L.rots.c) := (HB7.out.cell (p := ⟨w.heap.size, 23, none⟩) HZ.out).trans HCell.out.rots
              have HNr5 := Lib.hid (HNm.out.rots.up HB7.out)
              have HG5 : Hid (GV w7) := Lib.hid (HG.out.below HB7.out HG.out.1)
              cases hk : (x.rots.map (·.name)).all nameOk with
              | false =>
                have HOk5 := Lib.hid hk
                clear hk
                refine wpAt_seq (wpAt_of_wp ?_)
                go_wp2_with (first | (go_at_call 36; refine (sp_no (spelt_rot HNr5.out HG5.out) HOk5.out).mono ?_; rintro e w8 ⟨rfl, hb8⟩; have HB8 := Lib.hid (HB7.out.trans (hb8.mono HB7.out.size)); clear hb8))
                exact HFail2.out _ _ ⟨rfl, rfl⟩ HB8.out (by unfold namesOk; rw [HOk5.out]; simp)
              | true =>
                have HOk5 := Lib.hid hk
                clear hk
                refine wpAt_seq (wpAt_of_wp ?_)
                go_wp2_with (first | (go_at_call 36; refine (sp_yes (spelt_rot HNr5.out HG5.out) HOk5.out).mono ?_; rintro e w8 ⟨rfl, hb8⟩; have HB8 := Lib.hid (HB7.out.trans (hb8.mono HB7.out.size)); clear hb8))
                clear hc
                have hc : w8.cell? ⟨w.heap.size, 24, none⟩ = some (.slice L.rights.a L.rights.n L.rights.c) := (HB8.out.cell (p := ⟨w.heap.size, 24, none⟩) HZ.out).trans HCell.out.rights
                have HNr6 := Lib.hid (HNm.out.rights.up HB8.out)
                have HG6 : Hid (GV w8) := Lib.hid (HG.out.below HB8.out HG.out.1)
                cases hk : (x.rights.map (·.name)).all nameOk with
                | false =>
                  have HOk6 := Lib.hid hk
                  clear hk
                  refine wpAt_seq (wpAt_of_wp ?_)
                  go_wp2_with (first | (go_at_call 38; refine (sp_no (spelt_right HNr6.out HG6.out) HOk6.out).mono ?_; rintro e w9 ⟨rfl, hb9⟩; have HB9 := Lib.hid (HB8.out.trans (hb9.mono HB8.out.size)); clear hb9))
                  exact HFail2.out _ _ ⟨rfl, rfl⟩ HB9.out (by unfold namesOk; rw [HOk6.out]; simp)
                | true =>
                  have HOk6 := Lib.hid hk
                  clear hk
                  refine wpAt_seq (wpAt_of_wp ?_)
                  go_wp2_with (first | (go_at_call 38; refine (sp_yes (spelt_right HNr6.out HG6.out) HOk6.out).mono ?_; rintro e w9 ⟨rfl, hb9⟩; have HB9 := Lib.hid (HB8.out.trans (hb9.mono HB8.out.size)); clear hb9))
                  clear hc
                  have hc : w9.cell? ⟨w.heap.size, 25, none⟩ = some (.slice L.duties.a L.duties.n L.duties.c) := (HB9.out.cell (p := ⟨w.heap.size, 25, none⟩) HZ.out).trans HCell.out.duties
                  have HNr7 := Lib.hid (HNm.out.duties.up HB9.out)
                  have HG7 : Hid (GV w9) := Lib.hid (HG.out.below HB9.out HG.out.1)
                  cases hk : (x.duties.map (·.name)).all nameOk with
                  | false =>
                    have HOk7 := Lib.hid hk
                    clear hk
                    refine wpAt_seq (wpAt_of_wp ?_)
                    go_wp2_with (first | (go_at_call 40; refine (sp_no (spelt_duty HNr7.out HG7.out) HOk7.out).mono ?_; rintro e w10 ⟨rfl, hb10⟩; have HB10 := Lib.hid (HB9.out.trans (hb10.mono HB9.out.size)); clear hb10))
                    exact HFail2.out _ _ ⟨rfl, rfl⟩ HB10.out (by unfold namesOk; rw [HOk7.out]; simp)
                  | true =>
                    have HOk7 := Lib.hid hk
                    clear hk
                    refine wpAt_seq (wpAt_of_wp ?_)
                    go_wp2_with (first | (go_at_call 40; refine (sp_yes (spelt_duty HNr7.out HG7.out) HOk7.out).mono ?_; rintro e w10 ⟨rfl, hb10⟩; have HB10 := Lib.hid (HB9.out.trans (hb10.mono HB9.out.size)); clear hb10))
                    clear hc
                    have hn : namesOk x = true := by
                      unfold namesOk
                      rw [HOk0.out, HOk1.out, HOk2.out, HOk3.out, HOk4.out, HOk5.out, HOk6.out, HOk7.out]
                      rfl
                    exact res_b HQ.out (HP.out.up (HB10.out.mono HP.out.size)) HF.out (by unfold wrongS; rw [HF.out, hn]; rfl) _ _ _ _ _ _ _ _ _ _ _ _ _ _ _ _ _ _ _ _ _ _ _ _ _ _ _ _ _ _ _ _ _ _ _ _ _ _ _ _ _ _ _ _ _ _ _ _ _ _ _ _ _ _ _ _ _ _ _ _ _ _ _ _ _ _ _ _ _ _ _ _ _ _ _ _ _ _ _ _ _ _ _ _ _ _ _ _ _ _ _ _ _ _ _ _ _ _ _ _ _ _ _ _ _ _ _ _ _ _ _ _ _ _ _ _ _ _ _ _ _ _ _ _ _ _ _ _ _ _ _ _ _ _ _ _ _ _ _ _ _ _ _ _ _ _ _ _ _ _ _ _ _ _ _ _ _ _ _ _ _ _ _ _ _ _ _ _ _ _ _

end Go.Proofs.Ytapejaabhkfhjaa

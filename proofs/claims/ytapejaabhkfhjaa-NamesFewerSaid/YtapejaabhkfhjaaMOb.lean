/- The program's spelt: all names are names, and no words of the grammar (printed by gen_ob.py). -/
import Derived.Test.YtapejaabhkfhjaaMOa
import Derived.Test.YtapejaabhkfhjaaMNf
import Derived.Deep.WholeRow
namespace Go.Proofs.Ytapejaabhkfhjaa
open Go.RowKit

/- rows of elements of sz cells, each with its name in cell j -/
def NmRow (w : World) (h : Hdr) (sz j : Nat) (nms : List ByteArray) : Prop :=
  h.n = nms.length ∧ nms.length ≤ 140737488355328 ∧ ∀ i (hi : i < nms.length), ∃ b o cs, h.a = some ⟨b, o, none⟩ ∧ b < w.heap.size ∧ cs.length = sz ∧ w.rangeAt b (o + i * sz) cs ∧ (∀ v ∈ cs, v.oneCell' = true) ∧ cs[j]? = some (.string nms[i]) ∧ nms[i].size ≤ maxLen
/- the words of the grammar, as the program has them -/
def wordsB : ByteArray := { data := #[32, 100, 105, 115, 116, 114, 105, 99, 116, 32, 115, 101, 97, 115, 111, 110, 32, 114, 101, 115, 101, 114, 118, 111, 105, 114, 32, 104, 111, 108, 100, 115, 32, 108, 101, 116, 32, 99, 114, 111, 112, 32, 110, 101, 101, 100, 115, 32, 114, 101, 97, 99, 104, 32, 102, 114, 111, 109, 32, 100, 101, 108, 97, 121, 32, 99, 97, 112, 97, 99, 105, 116, 121, 32, 98, 97, 110, 107, 32, 115, 105, 112, 104, 111, 110, 32, 101, 118, 97, 112, 111, 114, 97, 116, 105, 111, 110, 32, 116, 111, 32, 115, 101, 101, 112, 97, 103, 101, 32, 102, 97, 114, 109, 32, 111, 110, 32, 114, 105, 118, 101, 114, 32, 97, 114, 101, 97, 32, 114, 111, 116, 97, 116, 105, 111, 110, 32, 114, 97, 110, 107, 32, 102, 108, 111, 119, 32, 116, 117, 114, 110, 32, 102, 111, 114, 32, 116, 97, 107, 101, 32, 111, 102, 32, 101, 118, 101, 114, 121, 32, 111, 119, 110, 32, 101, 97, 115, 101, 109, 101, 110, 116, 32, 100, 117, 116, 121, 32, 98, 121, 32, 108, 32, 109, 51, 32, 104, 32, 100, 32, 97, 32] }
def wordB (s : ByteArray) : Bool := Lib.contains wordsB.data.toList ((({ data := #[32] } : ByteArray) ++ s) ++ ({ data := #[32] } : ByteArray)).data.toList
def nameOk (s : ByteArray) : Bool := nameB s.data.toList && !wordB s
def errP (n : Int) : List PanicEntry := [{ v := .iface 38 (.int .i64 n), recovered := false }]
/- the library's variable -/
def GV (w : World) : Prop := 0 < w.heap.size ∧ ∃ m, w.cell? ⟨0, 0, none⟩ = some (.int .i64 m)
theorem GV.below {w w' : World} {B : Nat} (h : GV w) (hb : Below B w w') (hB : 0 < B) : GV w' := by
  obtain ⟨h1, m, h2⟩ := h
  exact ⟨Nat.lt_of_lt_of_le h1 hb.size, m, (hb.cell (p := ⟨0, 0, none⟩) hB).trans h2⟩
theorem name_is {s : ByteArray} {b : Bool} (h : nameB s.data.toList = b) (w : World) (hs : s.size ≤ maxLen) : Calls Try.prog 69 #[.string s] w fun e w' => e = .returned (.bool b) ∧ w = w' := by
  rw [← h]; exact name_any s w hs
theorem word_is {s : ByteArray} {b : Bool} (h : wordB s = b) (w : World) (hg : GV w) : Calls Try.prog 70 #[.string wordsB, .string (({ data := #[32] } : ByteArray) ++ s ++ ({ data := #[32] } : ByteArray))] w fun e w' => e = .returned (.bool b) ∧ w' = w := by
  obtain ⟨_, m, hm⟩ := hg
  rw [← h]
  exact Try.strings_Contains _ _ m w (of_decide_eq_true (by kernel_rfl)) hm
theorem name_len {s : ByteArray} (h : nameB s.data.toList = true) : s.size ≤ 32 := by
  by_cases h0 : 0 < s.size
  · rw [nameB_of h0] at h
    simp at h
    exact h.1.1
  · omega
def SpPost (w : World) (ok : Bool) (e : Ending) (w' : World) : Prop := Below w.heap.size w w' ∧ e = if ok then .returned (.tuple #[]) else .panicked (errP 170)


theorem nameof_let (cs : List Value) (nm : ByteArray) (w : World) (hl : cs.length = 7) (hn : cs[0]? = some (.string nm)) :
    Calls Try.prog 29 #[.agg cs.toArray] w fun e w' => e = .returned (.string nm) ∧ Below w.heap.size w w' := by
  have he : cs[0] = .string nm := (List.getElem?_eq_some_iff.1 hn).2
  go_enter Try.func29, Try.ntmps29
  go_wp2
  go_ret
  exact ⟨rfl, (Below.refl _ _).alloc (Nat.le_refl _) _⟩


set_option maxRecDepth 100000 in
set_option maxHeartbeats 4000000 in
theorem spelt_let {w : World} {h : Hdr} {nms : List ByteArray} (hr : NmRow w h 7 0 nms) (hg : GV w) :
    Calls Try.prog 28 #[h.v, .func (.func 29) #[] #[]] w (SpPost w (nms.all nameOk)) := by
  have HR := Lib.hid hr.2.2
  have HG := Lib.hid hg
  have HN := Lib.hid hr.1
  have hn47 : h.n ≤ 140737488355328 := by rw [hr.1]; exact hr.2.1
  obtain ⟨ha, hn, hc⟩ := h
  unfold Hdr.v
  simp only at HN HR hn47
  clear hr hg
  go_enter Try.func28, Try.ntmps28
  go_wp2
  go_loopw [9] (fun iv wr => ∃ i : Nat, iv = .int .i64 i ∧ i ≤ hn ∧ Hid ((nms.take i).all nameOk = true) ∧ Hid (Below w.heap.size w wr)) (fun iv _ => hn - (intOf iv).toNat)
  case atStart => exact ⟨0, rfl, Nat.zero_le _, by simp [Lib.hid], Lib.hid (Below.refl _ _)⟩
  case round =>
    obtain ⟨i, rfl, hi, HA, HB⟩ := hrel
    by_cases hlt : i < hn
    · have hil : i < nms.length := by rw [← HN.out]; exact hlt
      obtain ⟨b, o, cs, rfl, hb, hl, hra, hone, hnm, hsz⟩ := HR.out i hil
      have HRA := Lib.hid (rangeAt_block hra (HB.out.block b hb))
      have HOne := Lib.hid (all_oneCell_toArray hone)
      have HL : Hid ((Try.prog.info? 55).map (·.size) = some cs.length) := Lib.hid (by rw [hl]; kernel_rfl)
      have HLb : Hid ((Try.prog.info? 55).map (·.size) = some cs.toArray.size) := Lib.hid (by rw [List.size_toArray]; exact HL.out)
      have HLn := Lib.hid hl
      have HNm := Lib.hid hnm
      have hki : (i : Int) < (hn : Int) := by omega
      have HSz := Lib.hid hsz
      have HT : Hid ((nms.take (i + 1)).all nameOk = nameOk nms[i]) := Lib.hid (by
        rw [List.take_succ_eq_append_getElem hil, List.all_append, HA.out]; simp)
      have HAll : Hid (nameOk nms[i] = false → nms.all nameOk = false) := Lib.hid (fun h => by
        rw [List.all_eq_false]; exact ⟨_, List.getElem_mem hil, by simp [h]⟩)
      generalize nms[i] = nm at HNm HSz HT HAll
      have HNew : Hid ((wr.alloc (.cells cs.toArray 55)).rangeAt wr.heap.size 0 cs) := Lib.hid (by
        have := World.rangeAt_of_block (World.alloc_heap_new wr (.cells cs.toArray 55)) 0 cs.length
        simpa using this)
      clear hra hone hnm hl hsz
      cases hnb : nameB nm.data.toList with
      | false =>
        have HNb := Lib.hid hnb
        have HF := Lib.hid (HAll.out (by unfold nameOk; rw [hnb]; rfl))
        clear hnb
        go_wp2_with (first | (refine wpList_load_mid rfl 55 _ rfl b (o + i * 7) rfl cs _ HRA.out Try.underlying55 rfl HL.out ?_) | (refine wpList_store_row rfl 55 _ _ rfl wr.heap.size cs.toArray rfl rfl 55 _ (World.alloc_heap_new _ _) HLb.out (by simp [HLn.out]) HOne.out ?_; rw [World.setRow_alloc_new]) | (refine wpList_load_mid rfl 55 _ rfl wr.heap.size 0 rfl cs _ HNew.out Try.underlying55 rfl HL.out ?_) | (go_at_call 29; refine (nameof_let cs nm _ HLn.out HNm.out).mono ?_; rintro e w2 ⟨rfl, hb2⟩; have HB2 := Lib.hid ((HB.out.alloc HB.out.size (.cells cs.toArray 55)).trans (hb2.mono (by have := HB.out.size; simp; omega))); clear hb2) | (go_at_call 69; refine (name_is HNb.out _ HSz.out).mono ?_; rintro e w3 ⟨rfl, rfl⟩) | (go_at_call 50; refine (need_no _ _).mono ?_; rintro e w5 ⟨rfl, rfl⟩))
        exact ⟨rfl, HB2.out, by rw [HF.out]; rfl⟩
      | true =>
        have HNb := Lib.hid hnb
        have hs32 := name_len hnb
        have hml : nm.size + 2 ≤ maxLen := by unfold maxLen; omega
        cases hwb : wordB nm with
        | true =>
          have HWb := Lib.hid hwb
          have HF := Lib.hid (HAll.out (by unfold nameOk; rw [hnb, hwb]; rfl))
          clear hnb hwb
          go_wp2_with (first | (refine wpList_load_mid rfl 55 _ rfl b (o + i * 7) rfl cs _ HRA.out Try.underlying55 rfl HL.out ?_) | (refine wpList_store_row rfl 55 _ _ rfl wr.heap.size cs.toArray rfl rfl 55 _ (World.alloc_heap_new _ _) HLb.out (by simp [HLn.out]) HOne.out ?_; rw [World.setRow_alloc_new]) | (refine wpList_load_mid rfl 55 _ rfl wr.heap.size 0 rfl cs _ HNew.out Try.underlying55 rfl HL.out ?_) | (go_at_call 29; refine (nameof_let cs nm _ HLn.out HNm.out).mono ?_; rintro e w2 ⟨rfl, hb2⟩; have HB2 := Lib.hid ((HB.out.alloc HB.out.size (.cells cs.toArray 55)).trans (hb2.mono (by have := HB.out.size; simp; omega))); clear hb2) | (go_at_call 69; refine (name_is HNb.out _ HSz.out).mono ?_; rintro e w3 ⟨rfl, rfl⟩) | (go_at_call 70; refine (word_is HWb.out _ (HG.out.below HB2.out HG.out.1)).mono ?_; rintro e w4 ⟨rfl, rfl⟩) | (go_at_call 50; refine (need_no _ _).mono ?_; rintro e w5 ⟨rfl, rfl⟩))
          exact ⟨rfl, HB2.out, by rw [HF.out]; rfl⟩
        | false =>
          have HWb := Lib.hid hwb
          have HT2 : Hid ((nms.take (i + 1)).all nameOk = true) := Lib.hid (by rw [HT.out]; unfold nameOk; rw [hnb, hwb]; rfl)
          clear hnb hwb
          go_wp2_with (first | (refine wpList_load_mid rfl 55 _ rfl b (o + i * 7) rfl cs _ HRA.out Try.underlying55 rfl HL.out ?_) | (refine wpList_store_row rfl 55 _ _ rfl wr.heap.size cs.toArray rfl rfl 55 _ (World.alloc_heap_new _ _) HLb.out (by simp [HLn.out]) HOne.out ?_; rw [World.setRow_alloc_new]) | (refine wpList_load_mid rfl 55 _ rfl wr.heap.size 0 rfl cs _ HNew.out Try.underlying55 rfl HL.out ?_) | (go_at_call 29; refine (nameof_let cs nm _ HLn.out HNm.out).mono ?_; rintro e w2 ⟨rfl, hb2⟩; have HB2 := Lib.hid ((HB.out.alloc HB.out.size (.cells cs.toArray 55)).trans (hb2.mono (by have := HB.out.size; simp; omega))); clear hb2) | (go_at_call 69; refine (name_is HNb.out _ HSz.out).mono ?_; rintro e w3 ⟨rfl, rfl⟩) | (go_at_call 70; refine (word_is HWb.out _ (HG.out.below HB2.out HG.out.1)).mono ?_; rintro e w4 ⟨rfl, rfl⟩) | (go_at_call 50; refine (need_yes _ _).mono ?_; rintro e w5 ⟨rfl, rfl⟩))
          exact ⟨⟨i + 1, by push_cast; rfl, by omega, HT2, HB2⟩, by simp [intOf]; omega⟩
    · obtain rfl : i = hn := by omega
      have hki : decide ((i : Int) < (i : Int)) = false := by simp
      have HF : Hid (nms.all nameOk = true) := Lib.hid (by have := HA.out; rw [HN.out, List.take_length] at this; exact this)
      go_wp2
      go_end0
      exact ⟨HB.out, by rw [HF.out]; rfl⟩

theorem nameof_crop (cs : List Value) (nm : ByteArray) (w : World) (hl : cs.length = 7) (hn : cs[0]? = some (.string nm)) :
    Calls Try.prog 31 #[.agg cs.toArray] w fun e w' => e = .returned (.string nm) ∧ Below w.heap.size w w' := by
  have he : cs[0] = .string nm := (List.getElem?_eq_some_iff.1 hn).2
  go_enter Try.func31, Try.ntmps31
  go_wp2
  go_ret
  exact ⟨rfl, (Below.refl _ _).alloc (Nat.le_refl _) _⟩


set_option maxRecDepth 100000 in
set_option maxHeartbeats 4000000 in
theorem spelt_crop {w : World} {h : Hdr} {nms : List ByteArray} (hr : NmRow w h 7 0 nms) (hg : GV w) :
    Calls Try.prog 30 #[h.v, .func (.func 31) #[] #[]] w (SpPost w (nms.all nameOk)) := by
  have HR := Lib.hid hr.2.2
  have HG := Lib.hid hg
  have HN := Lib.hid hr.1
  have hn47 : h.n ≤ 140737488355328 := by rw [hr.1]; exact hr.2.1
  obtain ⟨ha, hn, hc⟩ := h
  unfold Hdr.v
  simp only at HN HR hn47
  clear hr hg
  go_enter Try.func30, Try.ntmps30
  go_wp2
  go_loopw [9] (fun iv wr => ∃ i : Nat, iv = .int .i64 i ∧ i ≤ hn ∧ Hid ((nms.take i).all nameOk = true) ∧ Hid (Below w.heap.size w wr)) (fun iv _ => hn - (intOf iv).toNat)
  case atStart => exact ⟨0, rfl, Nat.zero_le _, by simp [Lib.hid], Lib.hid (Below.refl _ _)⟩
  case round =>
    obtain ⟨i, rfl, hi, HA, HB⟩ := hrel
    by_cases hlt : i < hn
    · have hil : i < nms.length := by rw [← HN.out]; exact hlt
      obtain ⟨b, o, cs, rfl, hb, hl, hra, hone, hnm, hsz⟩ := HR.out i hil
      have HRA := Lib.hid (rangeAt_block hra (HB.out.block b hb))
      have HOne := Lib.hid (all_oneCell_toArray hone)
      have HL : Hid ((Try.prog.info? 57).map (·.size) = some cs.length) := Lib.hid (by rw [hl]; kernel_rfl)
      have HLb : Hid ((Try.prog.info? 57).map (·.size) = some cs.toArray.size) := Lib.hid (by rw [List.size_toArray]; exact HL.out)
      have HLn := Lib.hid hl
      have HNm := Lib.hid hnm
      have hki : (i : Int) < (hn : Int) := by omega
      have HSz := Lib.hid hsz
      have HT : Hid ((nms.take (i + 1)).all nameOk = nameOk nms[i]) := Lib.hid (by
        rw [List.take_succ_eq_append_getElem hil, List.all_append, HA.out]; simp)
      have HAll : Hid (nameOk nms[i] = false → nms.all nameOk = false) := Lib.hid (fun h => by
        rw [List.all_eq_false]; exact ⟨_, List.getElem_mem hil, by simp [h]⟩)
      generalize nms[i] = nm at HNm HSz HT HAll
      have HNew : Hid ((wr.alloc (.cells cs.toArray 57)).rangeAt wr.heap.size 0 cs) := Lib.hid (by
        have := World.rangeAt_of_block (World.alloc_heap_new wr (.cells cs.toArray 57)) 0 cs.length
        simpa using this)
      clear hra hone hnm hl hsz
      cases hnb : nameB nm.data.toList with
      | false =>
        have HNb := Lib.hid hnb
        have HF := Lib.hid (HAll.out (by unfold nameOk; rw [hnb]; rfl))
        clear hnb
        go_wp2_with (first | (refine wpList_load_mid rfl 57 _ rfl b (o + i * 7) rfl cs _ HRA.out Try.underlying57 rfl HL.out ?_) | (refine wpList_store_row rfl 57 _ _ rfl wr.heap.size cs.toArray rfl rfl 57 _ (World.alloc_heap_new _ _) HLb.out (by simp [HLn.out]) HOne.out ?_; rw [World.setRow_alloc_new]) | (refine wpList_load_mid rfl 57 _ rfl wr.heap.size 0 rfl cs _ HNew.out Try.underlying57 rfl HL.out ?_) | (go_at_call 31; refine (nameof_crop cs nm _ HLn.out HNm.out).mono ?_; rintro e w2 ⟨rfl, hb2⟩; have HB2 := Lib.hid ((HB.out.alloc HB.out.size (.cells cs.toArray 57)).trans (hb2.mono (by have := HB.out.size; simp; omega))); clear hb2) | (go_at_call 69; refine (name_is HNb.out _ HSz.out).mono ?_; rintro e w3 ⟨rfl, rfl⟩) | (go_at_call 50; refine (need_no _ _).mono ?_; rintro e w5 ⟨rfl, rfl⟩))
        exact ⟨rfl, HB2.out, by rw [HF.out]; rfl⟩
      | true =>
        have HNb := Lib.hid hnb
        have hs32 := name_len hnb
        have hml : nm.size + 2 ≤ maxLen := by unfold maxLen; omega
        cases hwb : wordB nm with
        | true =>
          have HWb := Lib.hid hwb
          have HF := Lib.hid (HAll.out (by unfold nameOk; rw [hnb, hwb]; rfl))
          clear hnb hwb
          go_wp2_with (first | (refine wpList_load_mid rfl 57 _ rfl b (o + i * 7) rfl cs _ HRA.out Try.underlying57 rfl HL.out ?_) | (refine wpList_store_row rfl 57 _ _ rfl wr.heap.size cs.toArray rfl rfl 57 _ (World.alloc_heap_new _ _) HLb.out (by simp [HLn.out]) HOne.out ?_; rw [World.setRow_alloc_new]) | (refine wpList_load_mid rfl 57 _ rfl wr.heap.size 0 rfl cs _ HNew.out Try.underlying57 rfl HL.out ?_) | (go_at_call 31; refine (nameof_crop cs nm _ HLn.out HNm.out).mono ?_; rintro e w2 ⟨rfl, hb2⟩; have HB2 := Lib.hid ((HB.out.alloc HB.out.size (.cells cs.toArray 57)).trans (hb2.mono (by have := HB.out.size; simp; omega))); clear hb2) | (go_at_call 69; refine (name_is HNb.out _ HSz.out).mono ?_; rintro e w3 ⟨rfl, rfl⟩) | (go_at_call 70; refine (word_is HWb.out _ (HG.out.below HB2.out HG.out.1)).mono ?_; rintro e w4 ⟨rfl, rfl⟩) | (go_at_call 50; refine (need_no _ _).mono ?_; rintro e w5 ⟨rfl, rfl⟩))
          exact ⟨rfl, HB2.out, by rw [HF.out]; rfl⟩
        | false =>
          have HWb := Lib.hid hwb
          have HT2 : Hid ((nms.take (i + 1)).all nameOk = true) := Lib.hid (by rw [HT.out]; unfold nameOk; rw [hnb, hwb]; rfl)
          clear hnb hwb
          go_wp2_with (first | (refine wpList_load_mid rfl 57 _ rfl b (o + i * 7) rfl cs _ HRA.out Try.underlying57 rfl HL.out ?_) | (refine wpList_store_row rfl 57 _ _ rfl wr.heap.size cs.toArray rfl rfl 57 _ (World.alloc_heap_new _ _) HLb.out (by simp [HLn.out]) HOne.out ?_; rw [World.setRow_alloc_new]) | (refine wpList_load_mid rfl 57 _ rfl wr.heap.size 0 rfl cs _ HNew.out Try.underlying57 rfl HL.out ?_) | (go_at_call 31; refine (nameof_crop cs nm _ HLn.out HNm.out).mono ?_; rintro e w2 ⟨rfl, hb2⟩; have HB2 := Lib.hid ((HB.out.alloc HB.out.size (.cells cs.toArray 57)).trans (hb2.mono (by have := HB.out.size; simp; omega))); clear hb2) | (go_at_call 69; refine (name_is HNb.out _ HSz.out).mono ?_; rintro e w3 ⟨rfl, rfl⟩) | (go_at_call 70; refine (word_is HWb.out _ (HG.out.below HB2.out HG.out.1)).mono ?_; rintro e w4 ⟨rfl, rfl⟩) | (go_at_call 50; refine (need_yes _ _).mono ?_; rintro e w5 ⟨rfl, rfl⟩))
          exact ⟨⟨i + 1, by push_cast; rfl, by omega, HT2, HB2⟩, by simp [intOf]; omega⟩
    · obtain rfl : i = hn := by omega
      have hki : decide ((i : Int) < (i : Int)) = false := by simp
      have HF : Hid (nms.all nameOk = true) := Lib.hid (by have := HA.out; rw [HN.out, List.take_length] at this; exact this)
      go_wp2
      go_end0
      exact ⟨HB.out, by rw [HF.out]; rfl⟩

theorem nameof_reach (cs : List Value) (nm : ByteArray) (w : World) (hl : cs.length = 51) (hn : cs[0]? = some (.string nm)) :
    Calls Try.prog 33 #[.agg cs.toArray] w fun e w' => e = .returned (.string nm) ∧ Below w.heap.size w w' := by
  have he : cs[0] = .string nm := (List.getElem?_eq_some_iff.1 hn).2
  go_enter Try.func33, Try.ntmps33
  go_wp2
  go_ret
  exact ⟨rfl, (Below.refl _ _).alloc (Nat.le_refl _) _⟩


set_option maxRecDepth 100000 in
set_option maxHeartbeats 4000000 in
theorem spelt_reach {w : World} {h : Hdr} {nms : List ByteArray} (hr : NmRow w h 51 0 nms) (hg : GV w) :
    Calls Try.prog 32 #[h.v, .func (.func 33) #[] #[]] w (SpPost w (nms.all nameOk)) := by
  have HR := Lib.hid hr.2.2
  have HG := Lib.hid hg
  have HN := Lib.hid hr.1
  have hn47 : h.n ≤ 140737488355328 := by rw [hr.1]; exact hr.2.1
  obtain ⟨ha, hn, hc⟩ := h
  unfold Hdr.v
  simp only at HN HR hn47
  clear hr hg
  go_enter Try.func32, Try.ntmps32
  go_wp2
  go_loopw [9] (fun iv wr => ∃ i : Nat, iv = .int .i64 i ∧ i ≤ hn ∧ Hid ((nms.take i).all nameOk = true) ∧ Hid (Below w.heap.size w wr)) (fun iv _ => hn - (intOf iv).toNat)
  case atStart => exact ⟨0, rfl, Nat.zero_le _, by simp [Lib.hid], Lib.hid (Below.refl _ _)⟩
  case round =>
    obtain ⟨i, rfl, hi, HA, HB⟩ := hrel
    by_cases hlt : i < hn
    · have hil : i < nms.length := by rw [← HN.out]; exact hlt
      obtain ⟨b, o, cs, rfl, hb, hl, hra, hone, hnm, hsz⟩ := HR.out i hil
      have HRA := Lib.hid (rangeAt_block hra (HB.out.block b hb))
      have HOne := Lib.hid (all_oneCell_toArray hone)
      have HL : Hid ((Try.prog.info? 51).map (·.size) = some cs.length) := Lib.hid (by rw [hl]; kernel_rfl)
      have HLb : Hid ((Try.prog.info? 51).map (·.size) = some cs.toArray.size) := Lib.hid (by rw [List.size_toArray]; exact HL.out)
      have HLn := Lib.hid hl
      have HNm := Lib.hid hnm
      have hki : (i : Int) < (hn : Int) := by omega
      have HSz := Lib.hid hsz
      have HT : Hid ((nms.take (i + 1)).all nameOk = nameOk nms[i]) := Lib.hid (by
        rw [List.take_succ_eq_append_getElem hil, List.all_append, HA.out]; simp)
      have HAll : Hid (nameOk nms[i] = false → nms.all nameOk = false) := Lib.hid (fun h => by
        rw [List.all_eq_false]; exact ⟨_, List.getElem_mem hil, by simp [h]⟩)
      generalize nms[i] = nm at HNm HSz HT HAll
      have HNew : Hid ((wr.alloc (.cells cs.toArray 51)).rangeAt wr.heap.size 0 cs) := Lib.hid (by
        have := World.rangeAt_of_block (World.alloc_heap_new wr (.cells cs.toArray 51)) 0 cs.length
        simpa using this)
      clear hra hone hnm hl hsz
      cases hnb : nameB nm.data.toList with
      | false =>
        have HNb := Lib.hid hnb
        have HF := Lib.hid (HAll.out (by unfold nameOk; rw [hnb]; rfl))
        clear hnb
        go_wp2_with (first | (refine wpList_load_mid rfl 51 _ rfl b (o + i * 51) rfl cs _ HRA.out Try.underlying51 rfl HL.out ?_) | (refine wpList_store_row rfl 51 _ _ rfl wr.heap.size cs.toArray rfl rfl 51 _ (World.alloc_heap_new _ _) HLb.out (by simp [HLn.out]) HOne.out ?_; rw [World.setRow_alloc_new]) | (refine wpList_load_mid rfl 51 _ rfl wr.heap.size 0 rfl cs _ HNew.out Try.underlying51 rfl HL.out ?_) | (go_at_call 33; refine (nameof_reach cs nm _ HLn.out HNm.out).mono ?_; rintro e w2 ⟨rfl, hb2⟩; have HB2 := Lib.hid ((HB.out.alloc HB.out.size (.cells cs.toArray 51)).trans (hb2.mono (by have := HB.out.size; simp; omega))); clear hb2) | (go_at_call 69; refine (name_is HNb.out _ HSz.out).mono ?_; rintro e w3 ⟨rfl, rfl⟩) | (go_at_call 50; refine (need_no _ _).mono ?_; rintro e w5 ⟨rfl, rfl⟩))
        exact ⟨rfl, HB2.out, by rw [HF.out]; rfl⟩
      | true =>
        have HNb := Lib.hid hnb
        have hs32 := name_len hnb
        have hml : nm.size + 2 ≤ maxLen := by unfold maxLen; omega
        cases hwb : wordB nm with
        | true =>
          have HWb := Lib.hid hwb
          have HF := Lib.hid (HAll.out (by unfold nameOk; rw [hnb, hwb]; rfl))
          clear hnb hwb
          go_wp2_with (first | (refine wpList_load_mid rfl 51 _ rfl b (o + i * 51) rfl cs _ HRA.out Try.underlying51 rfl HL.out ?_) | (refine wpList_store_row rfl 51 _ _ rfl wr.heap.size cs.toArray rfl rfl 51 _ (World.alloc_heap_new _ _) HLb.out (by simp [HLn.out]) HOne.out ?_; rw [World.setRow_alloc_new]) | (refine wpList_load_mid rfl 51 _ rfl wr.heap.size 0 rfl cs _ HNew.out Try.underlying51 rfl HL.out ?_) | (go_at_call 33; refine (nameof_reach cs nm _ HLn.out HNm.out).mono ?_; rintro e w2 ⟨rfl, hb2⟩; have HB2 := Lib.hid ((HB.out.alloc HB.out.size (.cells cs.toArray 51)).trans (hb2.mono (by have := HB.out.size; simp; omega))); clear hb2) | (go_at_call 69; refine (name_is HNb.out _ HSz.out).mono ?_; rintro e w3 ⟨rfl, rfl⟩) | (go_at_call 70; refine (word_is HWb.out _ (HG.out.below HB2.out HG.out.1)).mono ?_; rintro e w4 ⟨rfl, rfl⟩) | (go_at_call 50; refine (need_no _ _).mono ?_; rintro e w5 ⟨rfl, rfl⟩))
          exact ⟨rfl, HB2.out, by rw [HF.out]; rfl⟩
        | false =>
          have HWb := Lib.hid hwb
          have HT2 : Hid ((nms.take (i + 1)).all nameOk = true) := Lib.hid (by rw [HT.out]; unfold nameOk; rw [hnb, hwb]; rfl)
          clear hnb hwb
          go_wp2_with (first | (refine wpList_load_mid rfl 51 _ rfl b (o + i * 51) rfl cs _ HRA.out Try.underlying51 rfl HL.out ?_) | (refine wpList_store_row rfl 51 _ _ rfl wr.heap.size cs.toArray rfl rfl 51 _ (World.alloc_heap_new _ _) HLb.out (by simp [HLn.out]) HOne.out ?_; rw [World.setRow_alloc_new]) | (refine wpList_load_mid rfl 51 _ rfl wr.heap.size 0 rfl cs _ HNew.out Try.underlying51 rfl HL.out ?_) | (go_at_call 33; refine (nameof_reach cs nm _ HLn.out HNm.out).mono ?_; rintro e w2 ⟨rfl, hb2⟩; have HB2 := Lib.hid ((HB.out.alloc HB.out.size (.cells cs.toArray 51)).trans (hb2.mono (by have := HB.out.size; simp; omega))); clear hb2) | (go_at_call 69; refine (name_is HNb.out _ HSz.out).mono ?_; rintro e w3 ⟨rfl, rfl⟩) | (go_at_call 70; refine (word_is HWb.out _ (HG.out.below HB2.out HG.out.1)).mono ?_; rintro e w4 ⟨rfl, rfl⟩) | (go_at_call 50; refine (need_yes _ _).mono ?_; rintro e w5 ⟨rfl, rfl⟩))
          exact ⟨⟨i + 1, by push_cast; rfl, by omega, HT2, HB2⟩, by simp [intOf]; omega⟩
    · obtain rfl : i = hn := by omega
      have hki : decide ((i : Int) < (i : Int)) = false := by simp
      have HF : Hid (nms.all nameOk = true) := Lib.hid (by have := HA.out; rw [HN.out, List.take_length] at this; exact this)
      go_wp2
      go_end0
      exact ⟨HB.out, by rw [HF.out]; rfl⟩

theorem nameof_farm (cs : List Value) (nm : ByteArray) (w : World) (hl : cs.length = 12) (hn : cs[0]? = some (.string nm)) :
    Calls Try.prog 35 #[.agg cs.toArray] w fun e w' => e = .returned (.string nm) ∧ Below w.heap.size w w' := by
  have he : cs[0] = .string nm := (List.getElem?_eq_some_iff.1 hn).2
  go_enter Try.func35, Try.ntmps35
  go_wp2
  go_ret
  exact ⟨rfl, (Below.refl _ _).alloc (Nat.le_refl _) _⟩


set_option maxRecDepth 100000 in
set_option maxHeartbeats 4000000 in
theorem spelt_farm {w : World} {h : Hdr} {nms : List ByteArray} (hr : NmRow w h 12 0 nms) (hg : GV w) :
    Calls Try.prog 34 #[h.v, .func (.func 35) #[] #[]] w (SpPost w (nms.all nameOk)) := by
  have HR := Lib.hid hr.2.2
  have HG := Lib.hid hg
  have HN := Lib.hid hr.1
  have hn47 : h.n ≤ 140737488355328 := by rw [hr.1]; exact hr.2.1
  obtain ⟨ha, hn, hc⟩ := h
  unfold Hdr.v
  simp only at HN HR hn47
  clear hr hg
  go_enter Try.func34, Try.ntmps34
  go_wp2
  go_loopw [9] (fun iv wr => ∃ i : Nat, iv = .int .i64 i ∧ i ≤ hn ∧ Hid ((nms.take i).all nameOk = true) ∧ Hid (Below w.heap.size w wr)) (fun iv _ => hn - (intOf iv).toNat)
  case atStart => exact ⟨0, rfl, Nat.zero_le _, by simp [Lib.hid], Lib.hid (Below.refl _ _)⟩
  case round =>
    obtain ⟨i, rfl, hi, HA, HB⟩ := hrel
    by_cases hlt : i < hn
    · have hil : i < nms.length := by rw [← HN.out]; exact hlt
      obtain ⟨b, o, cs, rfl, hb, hl, hra, hone, hnm, hsz⟩ := HR.out i hil
      have HRA := Lib.hid (rangeAt_block hra (HB.out.block b hb))
      have HOne := Lib.hid (all_oneCell_toArray hone)
      have HL : Hid ((Try.prog.info? 59).map (·.size) = some cs.length) := Lib.hid (by rw [hl]; kernel_rfl)
      have HLb : Hid ((Try.prog.info? 59).map (·.size) = some cs.toArray.size) := Lib.hid (by rw [List.size_toArray]; exact HL.out)
      have HLn := Lib.hid hl
      have HNm := Lib.hid hnm
      have hki : (i : Int) < (hn : Int) := by omega
      have HSz := Lib.hid hsz
      have HT : Hid ((nms.take (i + 1)).all nameOk = nameOk nms[i]) := Lib.hid (by
        rw [List.take_succ_eq_append_getElem hil, List.all_append, HA.out]; simp)
      have HAll : Hid (nameOk nms[i] = false → nms.all nameOk = false) := Lib.hid (fun h => by
        rw [List.all_eq_false]; exact ⟨_, List.getElem_mem hil, by simp [h]⟩)
      generalize nms[i] = nm at HNm HSz HT HAll
      have HNew : Hid ((wr.alloc (.cells cs.toArray 59)).rangeAt wr.heap.size 0 cs) := Lib.hid (by
        have := World.rangeAt_of_block (World.alloc_heap_new wr (.cells cs.toArray 59)) 0 cs.length
        simpa using this)
      clear hra hone hnm hl hsz
      cases hnb : nameB nm.data.toList with
      | false =>
        have HNb := Lib.hid hnb
        have HF := Lib.hid (HAll.out (by unfold nameOk; rw [hnb]; rfl))
        clear hnb
        go_wp2_with (first | (refine wpList_load_mid rfl 59 _ rfl b (o + i * 12) rfl cs _ HRA.out Try.underlying59 rfl HL.out ?_) | (refine wpList_store_row rfl 59 _ _ rfl wr.heap.size cs.toArray rfl rfl 59 _ (World.alloc_heap_new _ _) HLb.out (by simp [HLn.out]) HOne.out ?_; rw [World.setRow_alloc_new]) | (refine wpList_load_mid rfl 59 _ rfl wr.heap.size 0 rfl cs _ HNew.out Try.underlying59 rfl HL.out ?_) | (go_at_call 35; refine (nameof_farm cs nm _ HLn.out HNm.out).mono ?_; rintro e w2 ⟨rfl, hb2⟩; have HB2 := Lib.hid ((HB.out.alloc HB.out.size (.cells cs.toArray 59)).trans (hb2.mono (by have := HB.out.size; simp; omega))); clear hb2) | (go_at_call 69; refine (name_is HNb.out _ HSz.out).mono ?_; rintro e w3 ⟨rfl, rfl⟩) | (go_at_call 50; refine (need_no _ _).mono ?_; rintro e w5 ⟨rfl, rfl⟩))
        exact ⟨rfl, HB2.out, by rw [HF.out]; rfl⟩
      | true =>
        have HNb := Lib.hid hnb
        have hs32 := name_len hnb
        have hml : nm.size + 2 ≤ maxLen := by unfold maxLen; omega
        cases hwb : wordB nm with
        | true =>
          have HWb := Lib.hid hwb
          have HF := Lib.hid (HAll.out (by unfold nameOk; rw [hnb, hwb]; rfl))
          clear hnb hwb
          go_wp2_with (first | (refine wpList_load_mid rfl 59 _ rfl b (o + i * 12) rfl cs _ HRA.out Try.underlying59 rfl HL.out ?_) | (refine wpList_store_row rfl 59 _ _ rfl wr.heap.size cs.toArray rfl rfl 59 _ (World.alloc_heap_new _ _) HLb.out (by simp [HLn.out]) HOne.out ?_; rw [World.setRow_alloc_new]) | (refine wpList_load_mid rfl 59 _ rfl wr.heap.size 0 rfl cs _ HNew.out Try.underlying59 rfl HL.out ?_) | (go_at_call 35; refine (nameof_farm cs nm _ HLn.out HNm.out).mono ?_; rintro e w2 ⟨rfl, hb2⟩; have HB2 := Lib.hid ((HB.out.alloc HB.out.size (.cells cs.toArray 59)).trans (hb2.mono (by have := HB.out.size; simp; omega))); clear hb2) | (go_at_call 69; refine (name_is HNb.out _ HSz.out).mono ?_; rintro e w3 ⟨rfl, rfl⟩) | (go_at_call 70; refine (word_is HWb.out _ (HG.out.below HB2.out HG.out.1)).mono ?_; rintro e w4 ⟨rfl, rfl⟩) | (go_at_call 50; refine (need_no _ _).mono ?_; rintro e w5 ⟨rfl, rfl⟩))
          exact ⟨rfl, HB2.out, by rw [HF.out]; rfl⟩
        | false =>
          have HWb := Lib.hid hwb
          have HT2 : Hid ((nms.take (i + 1)).all nameOk = true) := Lib.hid (by rw [HT.out]; unfold nameOk; rw [hnb, hwb]; rfl)
          clear hnb hwb
          go_wp2_with (first | (refine wpList_load_mid rfl 59 _ rfl b (o + i * 12) rfl cs _ HRA.out Try.underlying59 rfl HL.out ?_) | (refine wpList_store_row rfl 59 _ _ rfl wr.heap.size cs.toArray rfl rfl 59 _ (World.alloc_heap_new _ _) HLb.out (by simp [HLn.out]) HOne.out ?_; rw [World.setRow_alloc_new]) | (refine wpList_load_mid rfl 59 _ rfl wr.heap.size 0 rfl cs _ HNew.out Try.underlying59 rfl HL.out ?_) | (go_at_call 35; refine (nameof_farm cs nm _ HLn.out HNm.out).mono ?_; rintro e w2 ⟨rfl, hb2⟩; have HB2 := Lib.hid ((HB.out.alloc HB.out.size (.cells cs.toArray 59)).trans (hb2.mono (by have := HB.out.size; simp; omega))); clear hb2) | (go_at_call 69; refine (name_is HNb.out _ HSz.out).mono ?_; rintro e w3 ⟨rfl, rfl⟩) | (go_at_call 70; refine (word_is HWb.out _ (HG.out.below HB2.out HG.out.1)).mono ?_; rintro e w4 ⟨rfl, rfl⟩) | (go_at_call 50; refine (need_yes _ _).mono ?_; rintro e w5 ⟨rfl, rfl⟩))
          exact ⟨⟨i + 1, by push_cast; rfl, by omega, HT2, HB2⟩, by simp [intOf]; omega⟩
    · obtain rfl : i = hn := by omega
      have hki : decide ((i : Int) < (i : Int)) = false := by simp
      have HF : Hid (nms.all nameOk = true) := Lib.hid (by have := HA.out; rw [HN.out, List.take_length] at this; exact this)
      go_wp2
      go_end0
      exact ⟨HB.out, by rw [HF.out]; rfl⟩

theorem nameof_rot (cs : List Value) (nm : ByteArray) (w : World) (hl : cs.length = 23) (hn : cs[0]? = some (.string nm)) :
    Calls Try.prog 37 #[.agg cs.toArray] w fun e w' => e = .returned (.string nm) ∧ Below w.heap.size w w' := by
  have he : cs[0] = .string nm := (List.getElem?_eq_some_iff.1 hn).2
  go_enter Try.func37, Try.ntmps37
  go_wp2
  go_ret
  exact ⟨rfl, (Below.refl _ _).alloc (Nat.le_refl _) _⟩


set_option maxRecDepth 100000 in
set_option maxHeartbeats 4000000 in
theorem spelt_rot {w : World} {h : Hdr} {nms : List ByteArray} (hr : NmRow w h 23 0 nms) (hg : GV w) :
    Calls Try.prog 36 #[h.v, .func (.func 37) #[] #[]] w (SpPost w (nms.all nameOk)) := by
  have HR := Lib.hid hr.2.2
  have HG := Lib.hid hg
  have HN := Lib.hid hr.1
  have hn47 : h.n ≤ 140737488355328 := by rw [hr.1]; exact hr.2.1
  obtain ⟨ha, hn, hc⟩ := h
  unfold Hdr.v
  simp only at HN HR hn47
  clear hr hg
  go_enter Try.func36, Try.ntmps36
  go_wp2
  go_loopw [9] (fun iv wr => ∃ i : Nat, iv = .int .i64 i ∧ i ≤ hn ∧ Hid ((nms.take i).all nameOk = true) ∧ Hid (Below w.heap.size w wr)) (fun iv _ => hn - (intOf iv).toNat)
  case atStart => exact ⟨0, rfl, Nat.zero_le _, by simp [Lib.hid], Lib.hid (Below.refl _ _)⟩
  case round =>
    obtain ⟨i, rfl, hi, HA, HB⟩ := hrel
    by_cases hlt : i < hn
    · have hil : i < nms.length := by rw [← HN.out]; exact hlt
      obtain ⟨b, o, cs, rfl, hb, hl, hra, hone, hnm, hsz⟩ := HR.out i hil
      have HRA := Lib.hid (rangeAt_block hra (HB.out.block b hb))
      have HOne := Lib.hid (all_oneCell_toArray hone)
      have HL : Hid ((Try.prog.info? 64).map (·.size) = some cs.length) := Lib.hid (by rw [hl]; kernel_rfl)
      have HLb : Hid ((Try.prog.info? 64).map (·.size) = some cs.toArray.size) := Lib.hid (by rw [List.size_toArray]; exact HL.out)
      have HLn := Lib.hid hl
      have HNm := Lib.hid hnm
      have hki : (i : Int) < (hn : Int) := by omega
      have HSz := Lib.hid hsz
      have HT : Hid ((nms.take (i + 1)).all nameOk = nameOk nms[i]) := Lib.hid (by
        rw [List.take_succ_eq_append_getElem hil, List.all_append, HA.out]; simp)
      have HAll : Hid (nameOk nms[i] = false → nms.all nameOk = false) := Lib.hid (fun h => by
        rw [List.all_eq_false]; exact ⟨_, List.getElem_mem hil, by simp [h]⟩)
      generalize nms[i] = nm at HNm HSz HT HAll
      have HNew : Hid ((wr.alloc (.cells cs.toArray 64)).rangeAt wr.heap.size 0 cs) := Lib.hid (by
        have := World.rangeAt_of_block (World.alloc_heap_new wr (.cells cs.toArray 64)) 0 cs.length
        simpa using this)
      clear hra hone hnm hl hsz
      cases hnb : nameB nm.data.toList with
      | false =>
        have HNb := Lib.hid hnb
        have HF := Lib.hid (HAll.out (by unfold nameOk; rw [hnb]; rfl))
        clear hnb
        go_wp2_with (first | (refine wpList_load_mid rfl 64 _ rfl b (o + i * 23) rfl cs _ HRA.out Try.underlying64 rfl HL.out ?_) | (refine wpList_store_row rfl 64 _ _ rfl wr.heap.size cs.toArray rfl rfl 64 _ (World.alloc_heap_new _ _) HLb.out (by simp [HLn.out]) HOne.out ?_; rw [World.setRow_alloc_new]) | (refine wpList_load_mid rfl 64 _ rfl wr.heap.size 0 rfl cs _ HNew.out Try.underlying64 rfl HL.out ?_) | (go_at_call 37; refine (nameof_rot cs nm _ HLn.out HNm.out).mono ?_; rintro e w2 ⟨rfl, hb2⟩; have HB2 := Lib.hid ((HB.out.alloc HB.out.size (.cells cs.toArray 64)).trans (hb2.mono (by have := HB.out.size; simp; omega))); clear hb2) | (go_at_call 69; refine (name_is HNb.out _ HSz.out).mono ?_; rintro e w3 ⟨rfl, rfl⟩) | (go_at_call 50; refine (need_no _ _).mono ?_; rintro e w5 ⟨rfl, rfl⟩))
        exact ⟨rfl, HB2.out, by rw [HF.out]; rfl⟩
      | true =>
        have HNb := Lib.hid hnb
        have hs32 := name_len hnb
        have hml : nm.size + 2 ≤ maxLen := by unfold maxLen; omega
        cases hwb : wordB nm with
        | true =>
          have HWb := Lib.hid hwb
          have HF := Lib.hid (HAll.out (by unfold nameOk; rw [hnb, hwb]; rfl))
          clear hnb hwb
          go_wp2_with (first | (refine wpList_load_mid rfl 64 _ rfl b (o + i * 23) rfl cs _ HRA.out Try.underlying64 rfl HL.out ?_) | (refine wpList_store_row rfl 64 _ _ rfl wr.heap.size cs.toArray rfl rfl 64 _ (World.alloc_heap_new _ _) HLb.out (by simp [HLn.out]) HOne.out ?_; rw [World.setRow_alloc_new]) | (refine wpList_load_mid rfl 64 _ rfl wr.heap.size 0 rfl cs _ HNew.out Try.underlying64 rfl HL.out ?_) | (go_at_call 37; refine (nameof_rot cs nm _ HLn.out HNm.out).mono ?_; rintro e w2 ⟨rfl, hb2⟩; have HB2 := Lib.hid ((HB.out.alloc HB.out.size (.cells cs.toArray 64)).trans (hb2.mono (by have := HB.out.size; simp; omega))); clear hb2) | (go_at_call 69; refine (name_is HNb.out _ HSz.out).mono ?_; rintro e w3 ⟨rfl, rfl⟩) | (go_at_call 70; refine (word_is HWb.out _ (HG.out.below HB2.out HG.out.1)).mono ?_; rintro e w4 ⟨rfl, rfl⟩) | (go_at_call 50; refine (need_no _ _).mono ?_; rintro e w5 ⟨rfl, rfl⟩))
          exact ⟨rfl, HB2.out, by rw [HF.out]; rfl⟩
        | false =>
          have HWb := Lib.hid hwb
          have HT2 : Hid ((nms.take (i + 1)).all nameOk = true) := Lib.hid (by rw [HT.out]; unfold nameOk; rw [hnb, hwb]; rfl)
          clear hnb hwb
          go_wp2_with (first | (refine wpList_load_mid rfl 64 _ rfl b (o + i * 23) rfl cs _ HRA.out Try.underlying64 rfl HL.out ?_) | (refine wpList_store_row rfl 64 _ _ rfl wr.heap.size cs.toArray rfl rfl 64 _ (World.alloc_heap_new _ _) HLb.out (by simp [HLn.out]) HOne.out ?_; rw [World.setRow_alloc_new]) | (refine wpList_load_mid rfl 64 _ rfl wr.heap.size 0 rfl cs _ HNew.out Try.underlying64 rfl HL.out ?_) | (go_at_call 37; refine (nameof_rot cs nm _ HLn.out HNm.out).mono ?_; rintro e w2 ⟨rfl, hb2⟩; have HB2 := Lib.hid ((HB.out.alloc HB.out.size (.cells cs.toArray 64)).trans (hb2.mono (by have := HB.out.size; simp; omega))); clear hb2) | (go_at_call 69; refine (name_is HNb.out _ HSz.out).mono ?_; rintro e w3 ⟨rfl, rfl⟩) | (go_at_call 70; refine (word_is HWb.out _ (HG.out.below HB2.out HG.out.1)).mono ?_; rintro e w4 ⟨rfl, rfl⟩) | (go_at_call 50; refine (need_yes _ _).mono ?_; rintro e w5 ⟨rfl, rfl⟩))
          exact ⟨⟨i + 1, by push_cast; rfl, by omega, HT2, HB2⟩, by simp [intOf]; omega⟩
    · obtain rfl : i = hn := by omega
      have hki : decide ((i : Int) < (i : Int)) = false := by simp
      have HF : Hid (nms.all nameOk = true) := Lib.hid (by have := HA.out; rw [HN.out, List.take_length] at this; exact this)
      go_wp2
      go_end0
      exact ⟨HB.out, by rw [HF.out]; rfl⟩

theorem nameof_right (cs : List Value) (nm : ByteArray) (w : World) (hl : cs.length = 37) (hn : cs[1]? = some (.string nm)) :
    Calls Try.prog 39 #[.agg cs.toArray] w fun e w' => e = .returned (.string nm) ∧ Below w.heap.size w w' := by
  have he : cs[1] = .string nm := (List.getElem?_eq_some_iff.1 hn).2
  go_enter Try.func39, Try.ntmps39
  go_wp2
  go_ret
  exact ⟨rfl, (Below.refl _ _).alloc (Nat.le_refl _) _⟩


set_option maxRecDepth 100000 in
set_option maxHeartbeats 4000000 in
theorem spelt_right {w : World} {h : Hdr} {nms : List ByteArray} (hr : NmRow w h 37 1 nms) (hg : GV w) :
    Calls Try.prog 38 #[h.v, .func (.func 39) #[] #[]] w (SpPost w (nms.all nameOk)) := by
  have HR := Lib.hid hr.2.2
  have HG := Lib.hid hg
  have HN := Lib.hid hr.1
  have hn47 : h.n ≤ 140737488355328 := by rw [hr.1]; exact hr.2.1
  obtain ⟨ha, hn, hc⟩ := h
  unfold Hdr.v
  simp only at HN HR hn47
  clear hr hg
  go_enter Try.func38, Try.ntmps38
  go_wp2
  go_loopw [9] (fun iv wr => ∃ i : Nat, iv = .int .i64 i ∧ i ≤ hn ∧ Hid ((nms.take i).all nameOk = true) ∧ Hid (Below w.heap.size w wr)) (fun iv _ => hn - (intOf iv).toNat)
  case atStart => exact ⟨0, rfl, Nat.zero_le _, by simp [Lib.hid], Lib.hid (Below.refl _ _)⟩
  case round =>
    obtain ⟨i, rfl, hi, HA, HB⟩ := hrel
    by_cases hlt : i < hn
    · have hil : i < nms.length := by rw [← HN.out]; exact hlt
      obtain ⟨b, o, cs, rfl, hb, hl, hra, hone, hnm, hsz⟩ := HR.out i hil
      have HRA := Lib.hid (rangeAt_block hra (HB.out.block b hb))
      have HOne := Lib.hid (all_oneCell_toArray hone)
      have HL : Hid ((Try.prog.info? 68).map (·.size) = some cs.length) := Lib.hid (by rw [hl]; kernel_rfl)
      have HLb : Hid ((Try.prog.info? 68).map (·.size) = some cs.toArray.size) := Lib.hid (by rw [List.size_toArray]; exact HL.out)
      have HLn := Lib.hid hl
      have HNm := Lib.hid hnm
      have hki : (i : Int) < (hn : Int) := by omega
      have HSz := Lib.hid hsz
      have HT : Hid ((nms.take (i + 1)).all nameOk = nameOk nms[i]) := Lib.hid (by
        rw [List.take_succ_eq_append_getElem hil, List.all_append, HA.out]; simp)
      have HAll : Hid (nameOk nms[i] = false → nms.all nameOk = false) := Lib.hid (fun h => by
        rw [List.all_eq_false]; exact ⟨_, List.getElem_mem hil, by simp [h]⟩)
      generalize nms[i] = nm at HNm HSz HT HAll
      have HNew : Hid ((wr.alloc (.cells cs.toArray 68)).rangeAt wr.heap.size 0 cs) := Lib.hid (by
        have := World.rangeAt_of_block (World.alloc_heap_new wr (.cells cs.toArray 68)) 0 cs.length
        simpa using this)
      clear hra hone hnm hl hsz
      cases hnb : nameB nm.data.toList with
      | false =>
        have HNb := Lib.hid hnb
        have HF := Lib.hid (HAll.out (by unfold nameOk; rw [hnb]; rfl))
        clear hnb
        go_wp2_with (first | (refine wpList_load_mid rfl 68 _ rfl b (o + i * 37) rfl cs _ HRA.out Try.underlying68 rfl HL.out ?_) | (refine wpList_store_row rfl 68 _ _ rfl wr.heap.size cs.toArray rfl rfl 68 _ (World.alloc_heap_new _ _) HLb.out (by simp [HLn.out]) HOne.out ?_; rw [World.setRow_alloc_new]) | (refine wpList_load_mid rfl 68 _ rfl wr.heap.size 0 rfl cs _ HNew.out Try.underlying68 rfl HL.out ?_) | (go_at_call 39; refine (nameof_right cs nm _ HLn.out HNm.out).mono ?_; rintro e w2 ⟨rfl, hb2⟩; have HB2 := Lib.hid ((HB.out.alloc HB.out.size (.cells cs.toArray 68)).trans (hb2.mono (by have := HB.out.size; simp; omega))); clear hb2) | (go_at_call 69; refine (name_is HNb.out _ HSz.out).mono ?_; rintro e w3 ⟨rfl, rfl⟩) | (go_at_call 50; refine (need_no _ _).mono ?_; rintro e w5 ⟨rfl, rfl⟩))
        exact ⟨rfl, HB2.out, by rw [HF.out]; rfl⟩
      | true =>
        have HNb := Lib.hid hnb
        have hs32 := name_len hnb
        have hml : nm.size + 2 ≤ maxLen := by unfold maxLen; omega
        cases hwb : wordB nm with
        | true =>
          have HWb := Lib.hid hwb
          have HF := Lib.hid (HAll.out (by unfold nameOk; rw [hnb, hwb]; rfl))
          clear hnb hwb
          go_wp2_with (first | (refine wpList_load_mid rfl 68 _ rfl b (o + i * 37) rfl cs _ HRA.out Try.underlying68 rfl HL.out ?_) | (refine wpList_store_row rfl 68 _ _ rfl wr.heap.size cs.toArray rfl rfl 68 _ (World.alloc_heap_new _ _) HLb.out (by simp [HLn.out]) HOne.out ?_; rw [World.setRow_alloc_new]) | (refine wpList_load_mid rfl 68 _ rfl wr.heap.size 0 rfl cs _ HNew.out Try.underlying68 rfl HL.out ?_) | (go_at_call 39; refine (nameof_right cs nm _ HLn.out HNm.out).mono ?_; rintro e w2 ⟨rfl, hb2⟩; have HB2 := Lib.hid ((HB.out.alloc HB.out.size (.cells cs.toArray 68)).trans (hb2.mono (by have := HB.out.size; simp; omega))); clear hb2) | (go_at_call 69; refine (name_is HNb.out _ HSz.out).mono ?_; rintro e w3 ⟨rfl, rfl⟩) | (go_at_call 70; refine (word_is HWb.out _ (HG.out.below HB2.out HG.out.1)).mono ?_; rintro e w4 ⟨rfl, rfl⟩) | (go_at_call 50; refine (need_no _ _).mono ?_; rintro e w5 ⟨rfl, rfl⟩))
          exact ⟨rfl, HB2.out, by rw [HF.out]; rfl⟩
        | false =>
          have HWb := Lib.hid hwb
          have HT2 : Hid ((nms.take (i + 1)).all nameOk = true) := Lib.hid (by rw [HT.out]; unfold nameOk; rw [hnb, hwb]; rfl)
          clear hnb hwb
          go_wp2_with (first | (refine wpList_load_mid rfl 68 _ rfl b (o + i * 37) rfl cs _ HRA.out Try.underlying68 rfl HL.out ?_) | (refine wpList_store_row rfl 68 _ _ rfl wr.heap.size cs.toArray rfl rfl 68 _ (World.alloc_heap_new _ _) HLb.out (by simp [HLn.out]) HOne.out ?_; rw [World.setRow_alloc_new]) | (refine wpList_load_mid rfl 68 _ rfl wr.heap.size 0 rfl cs _ HNew.out Try.underlying68 rfl HL.out ?_) | (go_at_call 39; refine (nameof_right cs nm _ HLn.out HNm.out).mono ?_; rintro e w2 ⟨rfl, hb2⟩; have HB2 := Lib.hid ((HB.out.alloc HB.out.size (.cells cs.toArray 68)).trans (hb2.mono (by have := HB.out.size; simp; omega))); clear hb2) | (go_at_call 69; refine (name_is HNb.out _ HSz.out).mono ?_; rintro e w3 ⟨rfl, rfl⟩) | (go_at_call 70; refine (word_is HWb.out _ (HG.out.below HB2.out HG.out.1)).mono ?_; rintro e w4 ⟨rfl, rfl⟩) | (go_at_call 50; refine (need_yes _ _).mono ?_; rintro e w5 ⟨rfl, rfl⟩))
          exact ⟨⟨i + 1, by push_cast; rfl, by omega, HT2, HB2⟩, by simp [intOf]; omega⟩
    · obtain rfl : i = hn := by omega
      have hki : decide ((i : Int) < (i : Int)) = false := by simp
      have HF : Hid (nms.all nameOk = true) := Lib.hid (by have := HA.out; rw [HN.out, List.take_length] at this; exact this)
      go_wp2
      go_end0
      exact ⟨HB.out, by rw [HF.out]; rfl⟩

theorem nameof_duty (cs : List Value) (nm : ByteArray) (w : World) (hl : cs.length = 11) (hn : cs[0]? = some (.string nm)) :
    Calls Try.prog 41 #[.agg cs.toArray] w fun e w' => e = .returned (.string nm) ∧ Below w.heap.size w w' := by
  have he : cs[0] = .string nm := (List.getElem?_eq_some_iff.1 hn).2
  go_enter Try.func41, Try.ntmps41
  go_wp2
  go_ret
  exact ⟨rfl, (Below.refl _ _).alloc (Nat.le_refl _) _⟩


set_option maxRecDepth 100000 in
set_option maxHeartbeats 4000000 in
theorem spelt_duty {w : World} {h : Hdr} {nms : List ByteArray} (hr : NmRow w h 11 0 nms) (hg : GV w) :
    Calls Try.prog 40 #[h.v, .func (.func 41) #[] #[]] w (SpPost w (nms.all nameOk)) := by
  have HR := Lib.hid hr.2.2
  have HG := Lib.hid hg
  have HN := Lib.hid hr.1
  have hn47 : h.n ≤ 140737488355328 := by rw [hr.1]; exact hr.2.1
  obtain ⟨ha, hn, hc⟩ := h
  unfold Hdr.v
  simp only at HN HR hn47
  clear hr hg
  go_enter Try.func40, Try.ntmps40
  go_wp2
  go_loopw [9] (fun iv wr => ∃ i : Nat, iv = .int .i64 i ∧ i ≤ hn ∧ Hid ((nms.take i).all nameOk = true) ∧ Hid (Below w.heap.size w wr)) (fun iv _ => hn - (intOf iv).toNat)
  case atStart => exact ⟨0, rfl, Nat.zero_le _, by simp [Lib.hid], Lib.hid (Below.refl _ _)⟩
  case round =>
    obtain ⟨i, rfl, hi, HA, HB⟩ := hrel
    by_cases hlt : i < hn
    · have hil : i < nms.length := by rw [← HN.out]; exact hlt
      obtain ⟨b, o, cs, rfl, hb, hl, hra, hone, hnm, hsz⟩ := HR.out i hil
      have HRA := Lib.hid (rangeAt_block hra (HB.out.block b hb))
      have HOne := Lib.hid (all_oneCell_toArray hone)
      have HL : Hid ((Try.prog.info? 70).map (·.size) = some cs.length) := Lib.hid (by rw [hl]; kernel_rfl)
      have HLb : Hid ((Try.prog.info? 70).map (·.size) = some cs.toArray.size) := Lib.hid (by rw [List.size_toArray]; exact HL.out)
      have HLn := Lib.hid hl
      have HNm := Lib.hid hnm
      have hki : (i : Int) < (hn : Int) := by omega
      have HSz := Lib.hid hsz
      have HT : Hid ((nms.take (i + 1)).all nameOk = nameOk nms[i]) := Lib.hid (by
        rw [List.take_succ_eq_append_getElem hil, List.all_append, HA.out]; simp)
      have HAll : Hid (nameOk nms[i] = false → nms.all nameOk = false) := Lib.hid (fun h => by
        rw [List.all_eq_false]; exact ⟨_, List.getElem_mem hil, by simp [h]⟩)
      generalize nms[i] = nm at HNm HSz HT HAll
      have HNew : Hid ((wr.alloc (.cells cs.toArray 70)).rangeAt wr.heap.size 0 cs) := Lib.hid (by
        have := World.rangeAt_of_block (World.alloc_heap_new wr (.cells cs.toArray 70)) 0 cs.length
        simpa using this)
      clear hra hone hnm hl hsz
      cases hnb : nameB nm.data.toList with
      | false =>
        have HNb := Lib.hid hnb
        have HF := Lib.hid (HAll.out (by unfold nameOk; rw [hnb]; rfl))
        clear hnb
        go_wp2_with (first | (refine wpList_load_mid rfl 70 _ rfl b (o + i * 11) rfl cs _ HRA.out Try.underlying70 rfl HL.out ?_) | (refine wpList_store_row rfl 70 _ _ rfl wr.heap.size cs.toArray rfl rfl 70 _ (World.alloc_heap_new _ _) HLb.out (by simp [HLn.out]) HOne.out ?_; rw [World.setRow_alloc_new]) | (refine wpList_load_mid rfl 70 _ rfl wr.heap.size 0 rfl cs _ HNew.out Try.underlying70 rfl HL.out ?_) | (go_at_call 41; refine (nameof_duty cs nm _ HLn.out HNm.out).mono ?_; rintro e w2 ⟨rfl, hb2⟩; have HB2 := Lib.hid ((HB.out.alloc HB.out.size (.cells cs.toArray 70)).trans (hb2.mono (by have := HB.out.size; simp; omega))); clear hb2) | (go_at_call 69; refine (name_is HNb.out _ HSz.out).mono ?_; rintro e w3 ⟨rfl, rfl⟩) | (go_at_call 50; refine (need_no _ _).mono ?_; rintro e w5 ⟨rfl, rfl⟩))
        exact ⟨rfl, HB2.out, by rw [HF.out]; rfl⟩
      | true =>
        have HNb := Lib.hid hnb
        have hs32 := name_len hnb
        have hml : nm.size + 2 ≤ maxLen := by unfold maxLen; omega
        cases hwb : wordB nm with
        | true =>
          have HWb := Lib.hid hwb
          have HF := Lib.hid (HAll.out (by unfold nameOk; rw [hnb, hwb]; rfl))
          clear hnb hwb
          go_wp2_with (first | (refine wpList_load_mid rfl 70 _ rfl b (o + i * 11) rfl cs _ HRA.out Try.underlying70 rfl HL.out ?_) | (refine wpList_store_row rfl 70 _ _ rfl wr.heap.size cs.toArray rfl rfl 70 _ (World.alloc_heap_new _ _) HLb.out (by simp [HLn.out]) HOne.out ?_; rw [World.setRow_alloc_new]) | (refine wpList_load_mid rfl 70 _ rfl wr.heap.size 0 rfl cs _ HNew.out Try.underlying70 rfl HL.out ?_) | (go_at_call 41; refine (nameof_duty cs nm _ HLn.out HNm.out).mono ?_; rintro e w2 ⟨rfl, hb2⟩; have HB2 := Lib.hid ((HB.out.alloc HB.out.size (.cells cs.toArray 70)).trans (hb2.mono (by have := HB.out.size; simp; omega))); clear hb2) | (go_at_call 69; refine (name_is HNb.out _ HSz.out).mono ?_; rintro e w3 ⟨rfl, rfl⟩) | (go_at_call 70; refine (word_is HWb.out _ (HG.out.below HB2.out HG.out.1)).mono ?_; rintro e w4 ⟨rfl, rfl⟩) | (go_at_call 50; refine (need_no _ _).mono ?_; rintro e w5 ⟨rfl, rfl⟩))
          exact ⟨rfl, HB2.out, by rw [HF.out]; rfl⟩
        | false =>
          have HWb := Lib.hid hwb
          have HT2 : Hid ((nms.take (i + 1)).all nameOk = true) := Lib.hid (by rw [HT.out]; unfold nameOk; rw [hnb, hwb]; rfl)
          clear hnb hwb
          go_wp2_with (first | (refine wpList_load_mid rfl 70 _ rfl b (o + i * 11) rfl cs _ HRA.out Try.underlying70 rfl HL.out ?_) | (refine wpList_store_row rfl 70 _ _ rfl wr.heap.size cs.toArray rfl rfl 70 _ (World.alloc_heap_new _ _) HLb.out (by simp [HLn.out]) HOne.out ?_; rw [World.setRow_alloc_new]) | (refine wpList_load_mid rfl 70 _ rfl wr.heap.size 0 rfl cs _ HNew.out Try.underlying70 rfl HL.out ?_) | (go_at_call 41; refine (nameof_duty cs nm _ HLn.out HNm.out).mono ?_; rintro e w2 ⟨rfl, hb2⟩; have HB2 := Lib.hid ((HB.out.alloc HB.out.size (.cells cs.toArray 70)).trans (hb2.mono (by have := HB.out.size; simp; omega))); clear hb2) | (go_at_call 69; refine (name_is HNb.out _ HSz.out).mono ?_; rintro e w3 ⟨rfl, rfl⟩) | (go_at_call 70; refine (word_is HWb.out _ (HG.out.below HB2.out HG.out.1)).mono ?_; rintro e w4 ⟨rfl, rfl⟩) | (go_at_call 50; refine (need_yes _ _).mono ?_; rintro e w5 ⟨rfl, rfl⟩))
          exact ⟨⟨i + 1, by push_cast; rfl, by omega, HT2, HB2⟩, by simp [intOf]; omega⟩
    · obtain rfl : i = hn := by omega
      have hki : decide ((i : Int) < (i : Int)) = false := by simp
      have HF : Hid (nms.all nameOk = true) := Lib.hid (by have := HA.out; rw [HN.out, List.take_length] at this; exact this)
      go_wp2
      go_end0
      exact ⟨HB.out, by rw [HF.out]; rfl⟩

theorem nameof_str (nm : ByteArray) (w : World) : Calls Try.prog 27 #[.string nm] w fun e w' => e = .returned (.string nm) ∧ Below w.heap.size w w' := by
  go_enter Try.func27, Try.ntmps27
  go_wp2
  go_ret
  exact ⟨rfl, Below.refl _ _⟩

set_option maxRecDepth 100000 in
set_option maxHeartbeats 4000000 in
theorem spelt_str {w : World} {h : Hdr} {nms : List ByteArray} (hr : NmRow w h 1 0 nms) (hg : GV w) :
    Calls Try.prog 26 #[h.v, .func (.func 27) #[] #[]] w (SpPost w (nms.all nameOk)) := by
  have HR := Lib.hid hr.2.2
  have HG := Lib.hid hg
  have HN := Lib.hid hr.1
  have hn47 : h.n ≤ 140737488355328 := by rw [hr.1]; exact hr.2.1
  obtain ⟨ha, hn, hc⟩ := h
  unfold Hdr.v
  simp only at HN HR hn47
  clear hr hg
  go_enter Try.func26, Try.ntmps26
  go_wp2
  go_loopw [9] (fun iv wr => ∃ i : Nat, iv = .int .i64 i ∧ i ≤ hn ∧ Hid ((nms.take i).all nameOk = true) ∧ Hid (Below w.heap.size w wr)) (fun iv _ => hn - (intOf iv).toNat)
  case atStart => exact ⟨0, rfl, Nat.zero_le _, by simp [Lib.hid], Lib.hid (Below.refl _ _)⟩
  case round =>
    obtain ⟨i, rfl, hi, HA, HB⟩ := hrel
    by_cases hlt : i < hn
    · have hil : i < nms.length := by rw [← HN.out]; exact hlt
      obtain ⟨b, o, cs, rfl, hb, hl, hra, hone, hnm, hsz⟩ := HR.out i hil
      have c0 : wr.cell? ⟨b, o + i, none⟩ = some (.string nms[i]) := by
        have := rangeAt_block hra (HB.out.block b hb) 0 _ hnm
        simpa using this
      have hki : (i : Int) < (hn : Int) := by omega
      have HSz := Lib.hid hsz
      have HT : Hid ((nms.take (i + 1)).all nameOk = nameOk nms[i]) := Lib.hid (by
        rw [List.take_succ_eq_append_getElem hil, List.all_append, HA.out]; simp)
      have HAll : Hid (nameOk nms[i] = false → nms.all nameOk = false) := Lib.hid (fun h => by
        rw [List.all_eq_false]; exact ⟨_, List.getElem_mem hil, by simp [h]⟩)
      generalize nms[i] = nm at c0 HSz HT HAll
      clear hra hone hnm hl hsz
      cases hnb : nameB nm.data.toList with
      | false =>
        have HNb := Lib.hid hnb
        have HF := Lib.hid (HAll.out (by unfold nameOk; rw [hnb]; rfl))
        clear hnb
        go_wp2_with (first | (go_at_call 27; refine (nameof_str nm _).mono ?_; rintro e w2 ⟨rfl, hb2⟩; have HB2 := Lib.hid (HB.out.trans (hb2.mono HB.out.size)); clear hb2) | (go_at_call 69; refine (name_is HNb.out _ HSz.out).mono ?_; rintro e w3 ⟨rfl, rfl⟩) | (go_at_call 50; refine (need_no _ _).mono ?_; rintro e w5 ⟨rfl, rfl⟩))
        exact ⟨rfl, HB2.out, by rw [HF.out]; rfl⟩
      | true =>
        have HNb := Lib.hid hnb
        have hs32 := name_len hnb
        have hml : nm.size + 2 ≤ maxLen := by unfold maxLen; omega
        cases hwb : wordB nm with
        | true =>
          have HWb := Lib.hid hwb
          have HF := Lib.hid (HAll.out (by unfold nameOk; rw [hnb, hwb]; rfl))
          clear hnb hwb
          go_wp2_with (first | (go_at_call 27; refine (nameof_str nm _).mono ?_; rintro e w2 ⟨rfl, hb2⟩; have HB2 := Lib.hid (HB.out.trans (hb2.mono HB.out.size)); clear hb2) | (go_at_call 69; refine (name_is HNb.out _ HSz.out).mono ?_; rintro e w3 ⟨rfl, rfl⟩) | (go_at_call 70; refine (word_is HWb.out _ (HG.out.below HB2.out HG.out.1)).mono ?_; rintro e w4 ⟨rfl, rfl⟩) | (go_at_call 50; refine (need_no _ _).mono ?_; rintro e w5 ⟨rfl, rfl⟩))
          exact ⟨rfl, HB2.out, by rw [HF.out]; rfl⟩
        | false =>
          have HWb := Lib.hid hwb
          have HT2 : Hid ((nms.take (i + 1)).all nameOk = true) := Lib.hid (by rw [HT.out]; unfold nameOk; rw [hnb, hwb]; rfl)
          clear hnb hwb
          go_wp2_with (first | (go_at_call 27; refine (nameof_str nm _).mono ?_; rintro e w2 ⟨rfl, hb2⟩; have HB2 := Lib.hid (HB.out.trans (hb2.mono HB.out.size)); clear hb2) | (go_at_call 69; refine (name_is HNb.out _ HSz.out).mono ?_; rintro e w3 ⟨rfl, rfl⟩) | (go_at_call 70; refine (word_is HWb.out _ (HG.out.below HB2.out HG.out.1)).mono ?_; rintro e w4 ⟨rfl, rfl⟩) | (go_at_call 50; refine (need_yes _ _).mono ?_; rintro e w5 ⟨rfl, rfl⟩))
          exact ⟨⟨i + 1, by push_cast; rfl, by omega, HT2, HB2⟩, by simp [intOf]; omega⟩
    · obtain rfl : i = hn := by omega
      have hki : decide ((i : Int) < (i : Int)) = false := by simp
      have HF : Hid (nms.all nameOk = true) := Lib.hid (by have := HA.out; rw [HN.out, List.take_length] at this; exact this)
      go_wp2
      go_end0
      exact ⟨HB.out, by rw [HF.out]; rfl⟩


end Go.Proofs.Ytapejaabhkfhjaa

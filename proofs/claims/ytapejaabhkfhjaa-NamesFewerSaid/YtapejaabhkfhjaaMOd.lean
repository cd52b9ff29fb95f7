/- The program's table: a map from names to their places, if no name stands twice (printed by gen_od.py). -/
import Derived.Test.YtapejaabhkfhjaaMOb
import Derived.Test.YtapejaabhkfhjaaMOc
namespace Go.Proofs.Ytapejaabhkfhjaa
open Go.RowKit

theorem below_of_grown {B M : Nat} {w w' : World} (h : w.grownBy w' (some M)) (hB : B ≤ M) (hz : B ≤ w.heap.size) : Below B w w' :=
  ⟨h.os, h.tape, h.output, h.size, fun b hb => h.block b (by omega) (fun e => by cases e; omega)⟩
theorem wpList_put (w : World) {ops : Array Oper} {rest : List Oper} {o : Oper} {a : Act} {Q : Exit → Act → World → Prop} (hg : o.guard = none) (m x v : Operand) (hop : o.op = Op.mapUpdate 90 m x v)
    (M : Nat) (nms : List ByteArray) (s : ByteArray) (hM : MapIs w M nms) (hm : a.eval m = .map (some M)) (hx : a.eval x = .string s) (hv : a.eval v = .int .i64 (nms.length : Int)) (hs : s.size ≤ maxLen) (hn : s ∉ nms) (hz : nms.length < 1000000)
    (hK : ∀ w', MapIs w' M (nms ++ [s]) → w.grownBy w' (some M) → wpList Try.prog ops Q rest (a.put o.dst undef) w') : wpList Try.prog ops Q (o :: rest) a w := by
  refine wpList_plain hg fun K' hK' => ?_
  obtain ⟨w', hrun, r1, r2⟩ := hM.put s hs hn hz
  unfold Oper.wp
  simp [execOp, hop, hm, hx, hv, hrun, Result.andThen]
  exact hK' _ _ (hK w' r1 r2)
def TbPost (w : World) (nms : List ByteArray) (e : Ending) (w' : World) : Prop := Below w.heap.size w w' ∧ ((nms.Nodup ∧ ∃ m, e = .returned (.map (some m)) ∧ w.heap.size ≤ m ∧ MapIs w' m nms) ∨ (¬ nms.Nodup ∧ e = .panicked (errP 171)))
theorem take_nodup {l : List ByteArray} {i : Nat} (h : i < l.length) (hn : (l.take i).Nodup) (hi : l[i] ∉ l.take i) : (l.take (i + 1)).Nodup := by
  rw [List.take_succ_eq_append_getElem h, List.nodup_append]
  exact ⟨hn, by simp, fun a ha b hb => by simp at hb; subst hb; exact fun e => hi (e ▸ ha)⟩
theorem not_nodup {l : List ByteArray} {i : Nat} (h : i < l.length) (hi : l[i] ∈ l.take i) : ¬ l.Nodup := by
  intro hn
  have h2 : (l.take (i + 1)).Nodup := hn.sublist (List.take_sublist _ _)
  rw [List.take_succ_eq_append_getElem h, List.nodup_append] at h2
  exact h2.2.2 _ hi _ (by simp) rfl

set_option maxRecDepth 100000 in
set_option maxHeartbeats 4000000 in
theorem table_let {w : World} {h : Hdr} {nms : List ByteArray} (hr : NmRow w h 7 0 nms) (hz : nms.length ≤ 100000) :
    Calls Try.prog 42 #[h.v, .func (.func 29) #[] #[]] w (TbPost w nms) := by
  have HR := Lib.hid hr.2.2
  have HN := Lib.hid hr.1
  have hn47 : h.n ≤ 100000 := by rw [hr.1]; exact hz
  obtain ⟨ha, hn, hc⟩ := h
  unfold Hdr.v
  simp only at HN HR hn47
  clear hr hz
  have hmk : ∀ W : World, (Instr.makeMap 90 none).run Try.prog W = .ok (.map (some W.heap.size)) (W.alloc (.map #[] 0)) := fun W => by kernel_rfl
  go_enter Try.func42, Try.ntmps42
  go_wp2
  go_loopw [14] (fun iv wr => ∃ i : Nat, iv = .int .i64 i ∧ i ≤ hn ∧ Hid ((nms.take i).Nodup) ∧ Hid (Below w.heap.size w wr) ∧ Hid (MapIs wr w.heap.size (nms.take i))) (fun iv _ => hn - (intOf iv).toNat)
  case atStart => exact ⟨0, rfl, Nat.zero_le _, by simp [Lib.hid], Lib.hid ((Below.refl _ _).alloc (Nat.le_refl _) _), Lib.hid (mapIs_made w)⟩
  case round =>
    obtain ⟨i, rfl, hi, HA, HB, HM⟩ := hrel
    by_cases hlt : i < hn
    · have hil : i < nms.length := by rw [← HN.out]; exact hlt
      obtain ⟨b, o, cs, rfl, hb, hl, hra, hone, hnm, hsz⟩ := HR.out i hil
      have HRA := Lib.hid (rangeAt_block hra (HB.out.block b hb))
      have HOne := Lib.hid (all_oneCell_toArray hone)
      have HL : Hid ((Try.prog.info? 55).map (·.size) = some cs.length) := Lib.hid (by rw [hl]; kernel_rfl)
      have HLb : Hid ((Try.prog.info? 55).map (·.size) = some cs.toArray.size) := Lib.hid (by rw [List.size_toArray]; exact HL.out)
      have HLn := Lib.hid hl
      have HNm := Lib.hid hnm
      have hki : (i : Int) < (hn : Int) := by omega
      have HSz := Lib.hid hsz
      have HT := Lib.hid (take_nodup hil HA.out)
      have HD := Lib.hid (not_nodup hil)
      have HTk := Lib.hid (List.take_succ_eq_append_getElem hil)
      have HLi : Hid ((nms.take i).length = i) := Lib.hid (by rw [List.length_take]; omega)
      generalize nms[i] = nm at HNm HSz HT HD HTk
      have HNew : Hid ((wr.alloc (.cells cs.toArray 55)).rangeAt wr.heap.size 0 cs) := Lib.hid (by
        have := World.rangeAt_of_block (World.alloc_heap_new wr (.cells cs.toArray 55)) 0 cs.length
        simpa using this)
      have HB1 := Lib.hid (HB.out.alloc HB.out.size (.cells cs.toArray 55))
      have HM1 : Hid (∀ W, Below wr.heap.size wr W → MapIs W w.heap.size (nms.take i)) := Lib.hid (fun W hW => HM.out.block (hW.block _ HM.out.lt))
      have HLe : Hid (wr.heap.size ≤ (wr.alloc (.cells cs.toArray 55)).heap.size) := Lib.hid (by simp)
      have HBa := Lib.hid ((Below.refl wr.heap.size wr).alloc (Nat.le_refl _) (.cells cs.toArray 55))
      clear hra hone hnm hl hsz
      cases hp : posOf (nms.take i) nm with
      | some k =>
        have HF : Hid (¬ nms.Nodup) := Lib.hid (HD.out (by
          by_cases hm : nm ∈ nms.take i
          · exact hm
          · rw [posOf_none hm] at hp; cases hp))
        have HP := Lib.hid hp
        clear hp
        go_wp2_with (first | (refine wpList_load_mid rfl 55 _ rfl b (o + i * 7) rfl cs _ HRA.out Try.underlying55 rfl HL.out ?_) | (refine wpList_store_row rfl 55 _ _ rfl wr.heap.size cs.toArray rfl rfl 55 _ (World.alloc_heap_new _ _) HLb.out (by simp [HLn.out]) HOne.out ?_; rw [World.setRow_alloc_new]) | (refine wpList_load_mid rfl 55 _ rfl wr.heap.size 0 rfl cs _ HNew.out Try.underlying55 rfl HL.out ?_) | (go_at_call 29; refine (nameof_let cs nm _ HLn.out HNm.out).mono ?_; rintro e w2 ⟨rfl, hb2⟩; have HB2 := Lib.hid (HB1.out.trans (hb2.mono (Nat.le_trans HB.out.size HLe.out))); have HM2 := Lib.hid (HM1.out _ (HBa.out.trans (hb2.mono HLe.out))); have hlk := HM2.out.look nm HSz.out; simp only [lookV, HP.out] at hlk; clear hb2) | (go_at_call 50; refine (need_no _ _).mono ?_; rintro e w5 ⟨rfl, rfl⟩))
        exact ⟨rfl, HB2.out, .inr ⟨HF.out, rfl⟩⟩
      | none =>
        have HF : Hid (nm ∉ nms.take i) := Lib.hid (fun hm => by
          obtain ⟨k, h1, _⟩ := posOf_mem hm
          rw [h1] at hp; cases hp)
        have HP := Lib.hid hp
        clear hp
        go_wp2_with (first | (refine wpList_load_mid rfl 55 _ rfl b (o + i * 7) rfl cs _ HRA.out Try.underlying55 rfl HL.out ?_) | (refine wpList_store_row rfl 55 _ _ rfl wr.heap.size cs.toArray rfl rfl 55 _ (World.alloc_heap_new _ _) HLb.out (by simp [HLn.out]) HOne.out ?_; rw [World.setRow_alloc_new]) | (refine wpList_load_mid rfl 55 _ rfl wr.heap.size 0 rfl cs _ HNew.out Try.underlying55 rfl HL.out ?_) | (go_at_call 29; refine (nameof_let cs nm _ HLn.out HNm.out).mono ?_; rintro e w2 ⟨rfl, hb2⟩; have HB2 := Lib.hid (HB1.out.trans (hb2.mono (Nat.le_trans HB.out.size HLe.out))); have HM2 := Lib.hid (HM1.out _ (HBa.out.trans (hb2.mono HLe.out))); have hlk := HM2.out.look nm HSz.out; simp only [lookV, HP.out] at hlk; clear hb2) | (go_at_call 50; refine (need_yes _ _).mono ?_; rintro e w5 ⟨rfl, rfl⟩) | (at_mapUpdate; refine wpList_put _ rfl _ _ _ rfl w.heap.size (nms.take i) nm HM2.out rfl rfl (by rw [HLi.out]; rfl) HSz.out HF.out (by rw [HLi.out]; omega) ?_; intro w6 hm6 hg6; have HM5 := Lib.hid hm6; have HB5 := Lib.hid (HB2.out.trans (below_of_grown hg6 (Nat.le_refl _) HB2.out.size)); clear hm6 hg6))
        exact ⟨⟨i + 1, by push_cast; rfl, by omega, Lib.hid (HT.out HF.out), HB5, Lib.hid (by rw [HTk.out]; exact HM5.out)⟩, by simp [intOf]; omega⟩
    · obtain rfl : i = hn := by omega
      have hki : decide ((i : Int) < (i : Int)) = false := by simp
      have HF : Hid (nms.Nodup) := Lib.hid (by have := HA.out; rw [HN.out, List.take_length] at this; exact this)
      have HM9 : Hid (MapIs wr w.heap.size nms) := Lib.hid (by have := HM.out; rw [HN.out, List.take_length] at this; exact this)
      go_wp2
      go_ret
      exact ⟨HB.out, .inl ⟨HF.out, _, rfl, Nat.le_refl _, HM9.out⟩⟩

set_option maxRecDepth 100000 in
set_option maxHeartbeats 4000000 in
theorem table_crop {w : World} {h : Hdr} {nms : List ByteArray} (hr : NmRow w h 7 0 nms) (hz : nms.length ≤ 100000) :
    Calls Try.prog 43 #[h.v, .func (.func 31) #[] #[]] w (TbPost w nms) := by
  have HR := Lib.hid hr.2.2
  have HN := Lib.hid hr.1
  have hn47 : h.n ≤ 100000 := by rw [hr.1]; exact hz
  obtain ⟨ha, hn, hc⟩ := h
  unfold Hdr.v
  simp only at HN HR hn47
  clear hr hz
  have hmk : ∀ W : World, (Instr.makeMap 90 none).run Try.prog W = .ok (.map (some W.heap.size)) (W.alloc (.map #[] 0)) := fun W => by kernel_rfl
  go_enter Try.func43, Try.ntmps43
  go_wp2
  go_loopw [14] (fun iv wr => ∃ i : Nat, iv = .int .i64 i ∧ i ≤ hn ∧ Hid ((nms.take i).Nodup) ∧ Hid (Below w.heap.size w wr) ∧ Hid (MapIs wr w.heap.size (nms.take i))) (fun iv _ => hn - (intOf iv).toNat)
  case atStart => exact ⟨0, rfl, Nat.zero_le _, by simp [Lib.hid], Lib.hid ((Below.refl _ _).alloc (Nat.le_refl _) _), Lib.hid (mapIs_made w)⟩
  case round =>
    obtain ⟨i, rfl, hi, HA, HB, HM⟩ := hrel
    by_cases hlt : i < hn
    · have hil : i < nms.length := by rw [← HN.out]; exact hlt
      obtain ⟨b, o, cs, rfl, hb, hl, hra, hone, hnm, hsz⟩ := HR.out i hil
      have HRA := Lib.hid (rangeAt_block hra (HB.out.block b hb))
      have HOne := Lib.hid (all_oneCell_toArray hone)
      have HL : Hid ((Try.prog.info? 57).map (·.size) = some cs.length) := Lib.hid (by rw [hl]; kernel_rfl)
      have HLb : Hid ((Try.prog.info? 57).map (·.size) = some cs.toArray.size) := Lib.hid (by rw [List.size_toArray]; exact HL.out)
      have HLn := Lib.hid hl
      have HNm := Lib.hid hnm
      have hki : (i : Int) < (hn : Int) := by omega
      have HSz := Lib.hid hsz
      have HT := Lib.hid (take_nodup hil HA.out)
      have HD := Lib.hid (not_nodup hil)
      have HTk := Lib.hid (List.take_succ_eq_append_getElem hil)
      have HLi : Hid ((nms.take i).length = i) := Lib.hid (by rw [List.length_take]; omega)
      generalize nms[i] = nm at HNm HSz HT HD HTk
      have HNew : Hid ((wr.alloc (.cells cs.toArray 57)).rangeAt wr.heap.size 0 cs) := Lib.hid (by
        have := World.rangeAt_of_block (World.alloc_heap_new wr (.cells cs.toArray 57)) 0 cs.length
        simpa using this)
      have HB1 := Lib.hid (HB.out.alloc HB.out.size (.cells cs.toArray 57))
      have HM1 : Hid (∀ W, Below wr.heap.size wr W → MapIs W w.heap.size (nms.take i)) := Lib.hid (fun W hW => HM.out.block (hW.block _ HM.out.lt))
      have HLe : Hid (wr.heap.size ≤ (wr.alloc (.cells cs.toArray 57)).heap.size) := Lib.hid (by simp)
      have HBa := Lib.hid ((Below.refl wr.heap.size wr).alloc (Nat.le_refl _) (.cells cs.toArray 57))
      clear hra hone hnm hl hsz
      cases hp : posOf (nms.take i) nm with
      | some k =>
        have HF : Hid (¬ nms.Nodup) := Lib.hid (HD.out (by
          by_cases hm : nm ∈ nms.take i
          · exact hm
          · rw [posOf_none hm] at hp; cases hp))
        have HP := Lib.hid hp
        clear hp
        go_wp2_with (first | (refine wpList_load_mid rfl 57 _ rfl b (o + i * 7) rfl cs _ HRA.out Try.underlying57 rfl HL.out ?_) | (refine wpList_store_row rfl 57 _ _ rfl wr.heap.size cs.toArray rfl rfl 57 _ (World.alloc_heap_new _ _) HLb.out (by simp [HLn.out]) HOne.out ?_; rw [World.setRow_alloc_new]) | (refine wpList_load_mid rfl 57 _ rfl wr.heap.size 0 rfl cs _ HNew.out Try.underlying57 rfl HL.out ?_) | (go_at_call 31; refine (nameof_crop cs nm _ HLn.out HNm.out).mono ?_; rintro e w2 ⟨rfl, hb2⟩; have HB2 := Lib.hid (HB1.out.trans (hb2.mono (Nat.le_trans HB.out.size HLe.out))); have HM2 := Lib.hid (HM1.out _ (HBa.out.trans (hb2.mono HLe.out))); have hlk := HM2.out.look nm HSz.out; simp only [lookV, HP.out] at hlk; clear hb2) | (go_at_call 50; refine (need_no _ _).mono ?_; rintro e w5 ⟨rfl, rfl⟩))
        exact ⟨rfl, HB2.out, .inr ⟨HF.out, rfl⟩⟩
      | none =>
        have HF : Hid (nm ∉ nms.take i) := Lib.hid (fun hm => by
          obtain ⟨k, h1, _⟩ := posOf_mem hm
          rw [h1] at hp; cases hp)
        have HP := Lib.hid hp
        clear hp
        go_wp2_with (first | (refine wpList_load_mid rfl 57 _ rfl b (o + i * 7) rfl cs _ HRA.out Try.underlying57 rfl HL.out ?_) | (refine wpList_store_row rfl 57 _ _ rfl wr.heap.size cs.toArray rfl rfl 57 _ (World.alloc_heap_new _ _) HLb.out (by simp [HLn.out]) HOne.out ?_; rw [World.setRow_alloc_new]) | (refine wpList_load_mid rfl 57 _ rfl wr.heap.size 0 rfl cs _ HNew.out Try.underlying57 rfl HL.out ?_) | (go_at_call 31; refine (nameof_crop cs nm _ HLn.out HNm.out).mono ?_; rintro e w2 ⟨rfl, hb2⟩; have HB2 := Lib.hid (HB1.out.trans (hb2.mono (Nat.le_trans HB.out.size HLe.out))); have HM2 := Lib.hid (HM1.out _ (HBa.out.trans (hb2.mono HLe.out))); have hlk := HM2.out.look nm HSz.out; simp only [lookV, HP.out] at hlk; clear hb2) | (go_at_call 50; refine (need_yes _ _).mono ?_; rintro e w5 ⟨rfl, rfl⟩) | (at_mapUpdate; refine wpList_put _ rfl _ _ _ rfl w.heap.size (nms.take i) nm HM2.out rfl rfl (by rw [HLi.out]; rfl) HSz.out HF.out (by rw [HLi.out]; omega) ?_; intro w6 hm6 hg6; have HM5 := Lib.hid hm6; have HB5 := Lib.hid (HB2.out.trans (below_of_grown hg6 (Nat.le_refl _) HB2.out.size)); clear hm6 hg6))
        exact ⟨⟨i + 1, by push_cast; rfl, by omega, Lib.hid (HT.out HF.out), HB5, Lib.hid (by rw [HTk.out]; exact HM5.out)⟩, by simp [intOf]; omega⟩
    · obtain rfl : i = hn := by omega
      have hki : decide ((i : Int) < (i : Int)) = false := by simp
      have HF : Hid (nms.Nodup) := Lib.hid (by have := HA.out; rw [HN.out, List.take_length] at this; exact this)
      have HM9 : Hid (MapIs wr w.heap.size nms) := Lib.hid (by have := HM.out; rw [HN.out, List.take_length] at this; exact this)
      go_wp2
      go_ret
      exact ⟨HB.out, .inl ⟨HF.out, _, rfl, Nat.le_refl _, HM9.out⟩⟩

set_option maxRecDepth 100000 in
set_option maxHeartbeats 4000000 in
theorem table_reach {w : World} {h : Hdr} {nms : List ByteArray} (hr : NmRow w h 51 0 nms) (hz : nms.length ≤ 100000) :
    Calls Try.prog 44 #[h.v, .func (.func 33) #[] #[]] w (TbPost w nms) := by
  have HR := Lib.hid hr.2.2
  have HN := Lib.hid hr.1
  have hn47 : h.n ≤ 100000 := by rw [hr.1]; exact hz
  obtain ⟨ha, hn, hc⟩ := h
  unfold Hdr.v
  simp only at HN HR hn47
  clear hr hz
  have hmk : ∀ W : World, (Instr.makeMap 90 none).run Try.prog W = .ok (.map (some W.heap.size)) (W.alloc (.map #[] 0)) := fun W => by kernel_rfl
  go_enter Try.func44, Try.ntmps44
  go_wp2
  go_loopw [14] (fun iv wr => ∃ i : Nat, iv = .int .i64 i ∧ i ≤ hn ∧ Hid ((nms.take i).Nodup) ∧ Hid (Below w.heap.size w wr) ∧ Hid (MapIs wr w.heap.size (nms.take i))) (fun iv _ => hn - (intOf iv).toNat)
  case atStart => exact ⟨0, rfl, Nat.zero_le _, by simp [Lib.hid], Lib.hid ((Below.refl _ _).alloc (Nat.le_refl _) _), Lib.hid (mapIs_made w)⟩
  case round =>
    obtain ⟨i, rfl, hi, HA, HB, HM⟩ := hrel
    by_cases hlt : i < hn
    · have hil : i < nms.length := by rw [← HN.out]; exact hlt
      obtain ⟨b, o, cs, rfl, hb, hl, hra, hone, hnm, hsz⟩ := HR.out i hil
      have HRA := Lib.hid (rangeAt_block hra (HB.out.block b hb))
      have HOne := Lib.hid (all_oneCell_toArray hone)
      have HL : Hid ((Try.prog.info? 51).map (·.size) = some cs.length) := Lib.hid (by rw [hl]; kernel_rfl)
      have HLb : Hid ((Try.prog.info? 51).map (·.size) = some cs.toArray.size) := Lib.hid (by rw [List.size_toArray]; exact HL.out)
      have HLn := Lib.hid hl
      have HNm := Lib.hid hnm
      have hki : (i : Int) < (hn : Int) := by omega
      have HSz := Lib.hid hsz
      have HT := Lib.hid (take_nodup hil HA.out)
      have HD := Lib.hid (not_nodup hil)
      have HTk := Lib.hid (List.take_succ_eq_append_getElem hil)
      have HLi : Hid ((nms.take i).length = i) := Lib.hid (by rw [List.length_take]; omega)
      generalize nms[i] = nm at HNm HSz HT HD HTk
      have HNew : Hid ((wr.alloc (.cells cs.toArray 51)).rangeAt wr.heap.size 0 cs) := Lib.hid (by
        have := World.rangeAt_of_block (World.alloc_heap_new wr (.cells cs.toArray 51)) 0 cs.length
        simpa using this)
      have HB1 := Lib.hid (HB.out.alloc HB.out.size (.cells cs.toArray 51))
      have HM1 : Hid (∀ W, Below wr.heap.size wr W → MapIs W w.heap.size (nms.take i)) := Lib.hid (fun W hW => HM.out.block (hW.block _ HM.out.lt))
      have HLe : Hid (wr.heap.size ≤ (wr.alloc (.cells cs.toArray 51)).heap.size) := Lib.hid (by simp)
      have HBa := Lib.hid ((Below.refl wr.heap.size wr).alloc (Nat.le_refl _) (.cells cs.toArray 51))
      clear hra hone hnm hl hsz
      cases hp : posOf (nms.take i) nm with
      | some k =>
        have HF : Hid (¬ nms.Nodup) := Lib.hid (HD.out (by
          by_cases hm : nm ∈ nms.take i
          · exact hm
          · rw [posOf_none hm] at hp; cases hp))
        have HP := Lib.hid hp
        clear hp
        go_wp2_with (first | (refine wpList_load_mid rfl 51 _ rfl b (o + i * 51) rfl cs _ HRA.out Try.underlying51 rfl HL.out ?_) | (refine wpList_store_row rfl 51 _ _ rfl wr.heap.size cs.toArray rfl rfl 51 _ (World.alloc_heap_new _ _) HLb.out (by simp [HLn.out]) HOne.out ?_; rw [World.setRow_alloc_new]) | (refine wpList_load_mid rfl 51 _ rfl wr.heap.size 0 rfl cs _ HNew.out Try.underlying51 rfl HL.out ?_) | (go_at_call 33; refine (nameof_reach cs nm _ HLn.out HNm.out).mono ?_; rintro e w2 ⟨rfl, hb2⟩; have HB2 := Lib.hid (HB1.out.trans (hb2.mono (Nat.le_trans HB.out.size HLe.out))); have HM2 := Lib.hid (HM1.out _ (HBa.out.trans (hb2.mono HLe.out))); have hlk := HM2.out.look nm HSz.out; simp only [lookV, HP.out] at hlk; clear hb2) | (go_at_call 50; refine (need_no _ _).mono ?_; rintro e w5 ⟨rfl, rfl⟩))
        exact ⟨rfl, HB2.out, .inr ⟨HF.out, rfl⟩⟩
      | none =>
        have HF : Hid (nm ∉ nms.take i) := Lib.hid (fun hm => by
          obtain ⟨k, h1, _⟩ := posOf_mem hm
          rw [h1] at hp; cases hp)
        have HP := Lib.hid hp
        clear hp
        go_wp2_with (first | (refine wpList_load_mid rfl 51 _ rfl b (o + i * 51) rfl cs _ HRA.out Try.underlying51 rfl HL.out ?_) | (refine wpList_store_row rfl 51 _ _ rfl wr.heap.size cs.toArray rfl rfl 51 _ (World.alloc_heap_new _ _) HLb.out (by simp [HLn.out]) HOne.out ?_; rw [World.setRow_alloc_new]) | (refine wpList_load_mid rfl 51 _ rfl wr.heap.size 0 rfl cs _ HNew.out Try.underlying51 rfl HL.out ?_) | (go_at_call 33; refine (nameof_reach cs nm _ HLn.out HNm.out).mono ?_; rintro e w2 ⟨rfl, hb2⟩; have HB2 := Lib.hid (HB1.out.trans (hb2.mono (Nat.le_trans HB.out.size HLe.out))); have HM2 := Lib.hid (HM1.out _ (HBa.out.trans (hb2.mono HLe.out))); have hlk := HM2.out.look nm HSz.out; simp only [lookV, HP.out] at hlk; clear hb2) | (go_at_call 50; refine (need_yes _ _).mono ?_; rintro e w5 ⟨rfl, rfl⟩) | (at_mapUpdate; refine wpList_put _ rfl _ _ _ rfl w.heap.size (nms.take i) nm HM2.out rfl rfl (by rw [HLi.out]; rfl) HSz.out HF.out (by rw [HLi.out]; omega) ?_; intro w6 hm6 hg6; have HM5 := Lib.hid hm6; have HB5 := Lib.hid (HB2.out.trans (below_of_grown hg6 (Nat.le_refl _) HB2.out.size)); clear hm6 hg6))
        exact ⟨⟨i + 1, by push_cast; rfl, by omega, Lib.hid (HT.out HF.out), HB5, Lib.hid (by rw [HTk.out]; exact HM5.out)⟩, by simp [intOf]; omega⟩
    · obtain rfl : i = hn := by omega
      have hki : decide ((i : Int) < (i : Int)) = false := by simp
      have HF : Hid (nms.Nodup) := Lib.hid (by have := HA.out; rw [HN.out, List.take_length] at this; exact this)
      have HM9 : Hid (MapIs wr w.heap.size nms) := Lib.hid (by have := HM.out; rw [HN.out, List.take_length] at this; exact this)
      go_wp2
      go_ret
      exact ⟨HB.out, .inl ⟨HF.out, _, rfl, Nat.le_refl _, HM9.out⟩⟩

set_option maxRecDepth 100000 in
set_option maxHeartbeats 4000000 in
theorem table_farm {w : World} {h : Hdr} {nms : List ByteArray} (hr : NmRow w h 12 0 nms) (hz : nms.length ≤ 100000) :
    Calls Try.prog 45 #[h.v, .func (.func 35) #[] #[]] w (TbPost w nms) := by
  have HR := Lib.hid hr.2.2
  have HN := Lib.hid hr.1
  have hn47 : h.n ≤ 100000 := by rw [hr.1]; exact hz
  obtain ⟨ha, hn, hc⟩ := h
  unfold Hdr.v
  simp only at HN HR hn47
  clear hr hz
  have hmk : ∀ W : World, (Instr.makeMap 90 none).run Try.prog W = .ok (.map (some W.heap.size)) (W.alloc (.map #[] 0)) := fun W => by kernel_rfl
  go_enter Try.func45, Try.ntmps45
  go_wp2
  go_loopw [14] (fun iv wr => ∃ i : Nat, iv = .int .i64 i ∧ i ≤ hn ∧ Hid ((nms.take i).Nodup) ∧ Hid (Below w.heap.size w wr) ∧ Hid (MapIs wr w.heap.size (nms.take i))) (fun iv _ => hn - (intOf iv).toNat)
  case atStart => exact ⟨0, rfl, Nat.zero_le _, by simp [Lib.hid], Lib.hid ((Below.refl _ _).alloc (Nat.le_refl _) _), Lib.hid (mapIs_made w)⟩
  case round =>
    obtain ⟨i, rfl, hi, HA, HB, HM⟩ := hrel
    by_cases hlt : i < hn
    · have hil : i < nms.length := by rw [← HN.out]; exact hlt
      obtain ⟨b, o, cs, rfl, hb, hl, hra, hone, hnm, hsz⟩ := HR.out i hil
      have HRA := Lib.hid (rangeAt_block hra (HB.out.block b hb))
      have HOne := Lib.hid (all_oneCell_toArray hone)
      have HL : Hid ((Try.prog.info? 59).map (·.size) = some cs.length) := Lib.hid (by rw [hl]; kernel_rfl)
      have HLb : Hid ((Try.prog.info? 59).map (·.size) = some cs.toArray.size) := Lib.hid (by rw [List.size_toArray]; exact HL.out)
      have HLn := Lib.hid hl
      have HNm := Lib.hid hnm
      have hki : (i : Int) < (hn : Int) := by omega
      have HSz := Lib.hid hsz
      have HT := Lib.hid (take_nodup hil HA.out)
      have HD := Lib.hid (not_nodup hil)
      have HTk := Lib.hid (List.take_succ_eq_append_getElem hil)
      have HLi : Hid ((nms.take i).length = i) := Lib.hid (by rw [List.length_take]; omega)
      generalize nms[i] = nm at HNm HSz HT HD HTk
      have HNew : Hid ((wr.alloc (.cells cs.toArray 59)).rangeAt wr.heap.size 0 cs) := Lib.hid (by
        have := World.rangeAt_of_block (World.alloc_heap_new wr (.cells cs.toArray 59)) 0 cs.length
        simpa using this)
      have HB1 := Lib.hid (HB.out.alloc HB.out.size (.cells cs.toArray 59))
      have HM1 : Hid (∀ W, Below wr.heap.size wr W → MapIs W w.heap.size (nms.take i)) := Lib.hid (fun W hW => HM.out.block (hW.block _ HM.out.lt))
      have HLe : Hid (wr.heap.size ≤ (wr.alloc (.cells cs.toArray 59)).heap.size) := Lib.hid (by simp)
      have HBa := Lib.hid ((Below.refl wr.heap.size wr).alloc (Nat.le_refl _) (.cells cs.toArray 59))
      clear hra hone hnm hl hsz
      cases hp : posOf (nms.take i) nm with
      | some k =>
        have HF : Hid (¬ nms.Nodup) := Lib.hid (HD.out (by
          by_cases hm : nm ∈ nms.take i
          · exact hm
          · rw [posOf_none hm] at hp; cases hp))
        have HP := Lib.hid hp
        clear hp
        go_wp2_with (first | (refine wpList_load_mid rfl 59 _ rfl b (o + i * 12) rfl cs _ HRA.out Try.underlying59 rfl HL.out ?_) | (refine wpList_store_row rfl 59 _ _ rfl wr.heap.size cs.toArray rfl rfl 59 _ (World.alloc_heap_new _ _) HLb.out (by simp [HLn.out]) HOne.out ?_; rw [World.setRow_alloc_new]) | (refine wpList_load_mid rfl 59 _ rfl wr.heap.size 0 rfl cs _ HNew.out Try.underlying59 rfl HL.out ?_) | (go_at_call 35; refine (nameof_farm cs nm _ HLn.out HNm.out).mono ?_; rintro e w2 ⟨rfl, hb2⟩; have HB2 := Lib.hid (HB1.out.trans (hb2.mono (Nat.le_trans HB.out.size HLe.out))); have HM2 := Lib.hid (HM1.out _ (HBa.out.trans (hb2.mono HLe.out))); have hlk := HM2.out.look nm HSz.out; simp only [lookV, HP.out] at hlk; clear hb2) | (go_at_call 50; refine (need_no _ _).mono ?_; rintro e w5 ⟨rfl, rfl⟩))
        exact ⟨rfl, HB2.out, .inr ⟨HF.out, rfl⟩⟩
      | none =>
        have HF : Hid (nm ∉ nms.take i) := Lib.hid (fun hm => by
          obtain ⟨k, h1, _⟩ := posOf_mem hm
          rw [h1] at hp; cases hp)
        have HP := Lib.hid hp
        clear hp
        go_wp2_with (first | (refine wpList_load_mid rfl 59 _ rfl b (o + i * 12) rfl cs _ HRA.out Try.underlying59 rfl HL.out ?_) | (refine wpList_store_row rfl 59 _ _ rfl wr.heap.size cs.toArray rfl rfl 59 _ (World.alloc_heap_new _ _) HLb.out (by simp [HLn.out]) HOne.out ?_; rw [World.setRow_alloc_new]) | (refine wpList_load_mid rfl 59 _ rfl wr.heap.size 0 rfl cs _ HNew.out Try.underlying59 rfl HL.out ?_) | (go_at_call 35; refine (nameof_farm cs nm _ HLn.out HNm.out).mono ?_; rintro e w2 ⟨rfl, hb2⟩; have HB2 := Lib.hid (HB1.out.trans (hb2.mono (Nat.le_trans HB.out.size HLe.out))); have HM2 := Lib.hid (HM1.out _ (HBa.out.trans (hb2.mono HLe.out))); have hlk := HM2.out.look nm HSz.out; simp only [lookV, HP.out] at hlk; clear hb2) | (go_at_call 50; refine (need_yes _ _).mono ?_; rintro e w5 ⟨rfl, rfl⟩) | (at_mapUpdate; refine wpList_put _ rfl _ _ _ rfl w.heap.size (nms.take i) nm HM2.out rfl rfl (by rw [HLi.out]; rfl) HSz.out HF.out (by rw [HLi.out]; omega) ?_; intro w6 hm6 hg6; have HM5 := Lib.hid hm6; have HB5 := Lib.hid (HB2.out.trans (below_of_grown hg6 (Nat.le_refl _) HB2.out.size)); clear hm6 hg6))
        exact ⟨⟨i + 1, by push_cast; rfl, by omega, Lib.hid (HT.out HF.out), HB5, Lib.hid (by rw [HTk.out]; exact HM5.out)⟩, by simp [intOf]; omega⟩
    · obtain rfl : i = hn := by omega
      have hki : decide ((i : Int) < (i : Int)) = false := by simp
      have HF : Hid (nms.Nodup) := Lib.hid (by have := HA.out; rw [HN.out, List.take_length] at this; exact this)
      have HM9 : Hid (MapIs wr w.heap.size nms) := Lib.hid (by have := HM.out; rw [HN.out, List.take_length] at this; exact this)
      go_wp2
      go_ret
      exact ⟨HB.out, .inl ⟨HF.out, _, rfl, Nat.le_refl _, HM9.out⟩⟩

set_option maxRecDepth 100000 in
set_option maxHeartbeats 4000000 in
theorem table_duty {w : World} {h : Hdr} {nms : List ByteArray} (hr : NmRow w h 11 0 nms) (hz : nms.length ≤ 100000) :
    Calls Try.prog 47 #[h.v, .func (.func 41) #[] #[]] w (TbPost w nms) := by
  have HR := Lib.hid hr.2.2
  have HN := Lib.hid hr.1
  have hn47 : h.n ≤ 100000 := by rw [hr.1]; exact hz
  obtain ⟨ha, hn, hc⟩ := h
  unfold Hdr.v
  simp only at HN HR hn47
  clear hr hz
  have hmk : ∀ W : World, (Instr.makeMap 90 none).run Try.prog W = .ok (.map (some W.heap.size)) (W.alloc (.map #[] 0)) := fun W => by kernel_rfl
  go_enter Try.func47, Try.ntmps47
  go_wp2
  go_loopw [14] (fun iv wr => ∃ i : Nat, iv = .int .i64 i ∧ i ≤ hn ∧ Hid ((nms.take i).Nodup) ∧ Hid (Below w.heap.size w wr) ∧ Hid (MapIs wr w.heap.size (nms.take i))) (fun iv _ => hn - (intOf iv).toNat)
  case atStart => exact ⟨0, rfl, Nat.zero_le _, by simp [Lib.hid], Lib.hid ((Below.refl _ _).alloc (Nat.le_refl _) _), Lib.hid (mapIs_made w)⟩
  case round =>
    obtain ⟨i, rfl, hi, HA, HB, HM⟩ := hrel
    by_cases hlt : i < hn
    · have hil : i < nms.length := by rw [← HN.out]; exact hlt
      obtain ⟨b, o, cs, rfl, hb, hl, hra, hone, hnm, hsz⟩ := HR.out i hil
      have HRA := Lib.hid (rangeAt_block hra (HB.out.block b hb))
      have HOne := Lib.hid (all_oneCell_toArray hone)
      have HL : Hid ((Try.prog.info? 70).map (·.size) = some cs.length) := Lib.hid (by rw [hl]; kernel_rfl)
      have HLb : Hid ((Try.prog.info? 70).map (·.size) = some cs.toArray.size) := Lib.hid (by rw [List.size_toArray]; exact HL.out)
      have HLn := Lib.hid hl
      have HNm := Lib.hid hnm
      have hki : (i : Int) < (hn : Int) := by omega
      have HSz := Lib.hid hsz
      have HT := Lib.hid (take_nodup hil HA.out)
      have HD := Lib.hid (not_nodup hil)
      have HTk := Lib.hid (List.take_succ_eq_append_getElem hil)
      have HLi : Hid ((nms.take i).length = i) := Lib.hid (by rw [List.length_take]; omega)
      generalize nms[i] = nm at HNm HSz HT HD HTk
      have HNew : Hid ((wr.alloc (.cells cs.toArray 70)).rangeAt wr.heap.size 0 cs) := Lib.hid (by
        have := World.rangeAt_of_block (World.alloc_heap_new wr (.cells cs.toArray 70)) 0 cs.length
        simpa using this)
      have HB1 := Lib.hid (HB.out.alloc HB.out.size (.cells cs.toArray 70))
      have HM1 : Hid (∀ W, Below wr.heap.size wr W → MapIs W w.heap.size (nms.take i)) := Lib.hid (fun W hW => HM.out.block (hW.block _ HM.out.lt))
      have HLe : Hid (wr.heap.size ≤ (wr.alloc (.cells cs.toArray 70)).heap.size) := Lib.hid (by simp)
      have HBa := Lib.hid ((Below.refl wr.heap.size wr).alloc (Nat.le_refl _) (.cells cs.toArray 70))
      clear hra hone hnm hl hsz
      cases hp : posOf (nms.take i) nm with
      | some k =>
        have HF : Hid (¬ nms.Nodup) := Lib.hid (HD.out (by
          by_cases hm : nm ∈ nms.take i
          · exact hm
          · rw [posOf_none hm] at hp; cases hp))
        have HP := Lib.hid hp
        clear hp
        go_wp2_with (first | (refine wpList_load_mid rfl 70 _ rfl b (o + i * 11) rfl cs _ HRA.out Try.underlying70 rfl HL.out ?_) | (refine wpList_store_row rfl 70 _ _ rfl wr.heap.size cs.toArray rfl rfl 70 _ (World.alloc_heap_new _ _) HLb.out (by simp [HLn.out]) HOne.out ?_; rw [World.setRow_alloc_new]) | (refine wpList_load_mid rfl 70 _ rfl wr.heap.size 0 rfl cs _ HNew.out Try.underlying70 rfl HL.out ?_) | (go_at_call 41; refine (nameof_duty cs nm _ HLn.out HNm.out).mono ?_; rintro e w2 ⟨rfl, hb2⟩; have HB2 := Lib.hid (HB1.out.trans (hb2.mono (Nat.le_trans HB.out.size HLe.out))); have HM2 := Lib.hid (HM1.out _ (HBa.out.trans (hb2.mono HLe.out))); have hlk := HM2.out.look nm HSz.out; simp only [lookV, HP.out] at hlk; clear hb2) | (go_at_call 50; refine (need_no _ _).mono ?_; rintro e w5 ⟨rfl, rfl⟩))
        exact ⟨rfl, HB2.out, .inr ⟨HF.out, rfl⟩⟩
      | none =>
        have HF : Hid (nm ∉ nms.take i) := Lib.hid (fun hm => by
          obtain ⟨k, h1, _⟩ := posOf_mem hm
          rw [h1] at hp; cases hp)
        have HP := Lib.hid hp
        clear hp
        go_wp2_with (first | (refine wpList_load_mid rfl 70 _ rfl b (o + i * 11) rfl cs _ HRA.out Try.underlying70 rfl HL.out ?_) | (refine wpList_store_row rfl 70 _ _ rfl wr.heap.size cs.toArray rfl rfl 70 _ (World.alloc_heap_new _ _) HLb.out (by simp [HLn.out]) HOne.out ?_; rw [World.setRow_alloc_new]) | (refine wpList_load_mid rfl 70 _ rfl wr.heap.size 0 rfl cs _ HNew.out Try.underlying70 rfl HL.out ?_) | (go_at_call 41; refine (nameof_duty cs nm _ HLn.out HNm.out).mono ?_; rintro e w2 ⟨rfl, hb2⟩; have HB2 := Lib.hid (HB1.out.trans (hb2.mono (Nat.le_trans HB.out.size HLe.out))); have HM2 := Lib.hid (HM1.out _ (HBa.out.trans (hb2.mono HLe.out))); have hlk := HM2.out.look nm HSz.out; simp only [lookV, HP.out] at hlk; clear hb2) | (go_at_call 50; refine (need_yes _ _).mono ?_; rintro e w5 ⟨rfl, rfl⟩) | (at_mapUpdate; refine wpList_put _ rfl _ _ _ rfl w.heap.size (nms.take i) nm HM2.out rfl rfl (by rw [HLi.out]; rfl) HSz.out HF.out (by rw [HLi.out]; omega) ?_; intro w6 hm6 hg6; have HM5 := Lib.hid hm6; have HB5 := Lib.hid (HB2.out.trans (below_of_grown hg6 (Nat.le_refl _) HB2.out.size)); clear hm6 hg6))
        exact ⟨⟨i + 1, by push_cast; rfl, by omega, Lib.hid (HT.out HF.out), HB5, Lib.hid (by rw [HTk.out]; exact HM5.out)⟩, by simp [intOf]; omega⟩
    · obtain rfl : i = hn := by omega
      have hki : decide ((i : Int) < (i : Int)) = false := by simp
      have HF : Hid (nms.Nodup) := Lib.hid (by have := HA.out; rw [HN.out, List.take_length] at this; exact this)
      have HM9 : Hid (MapIs wr w.heap.size nms) := Lib.hid (by have := HM.out; rw [HN.out, List.take_length] at this; exact this)
      go_wp2
      go_ret
      exact ⟨HB.out, .inl ⟨HF.out, _, rfl, Nat.le_refl _, HM9.out⟩⟩

set_option maxRecDepth 100000 in
set_option maxHeartbeats 4000000 in
theorem table_str {w : World} {h : Hdr} {nms : List ByteArray} (hr : NmRow w h 1 0 nms) (hz : nms.length ≤ 100000) :
    Calls Try.prog 46 #[h.v, .func (.func 27) #[] #[]] w (TbPost w nms) := by
  have HR := Lib.hid hr.2.2
  have HN := Lib.hid hr.1
  have hn47 : h.n ≤ 100000 := by rw [hr.1]; exact hz
  obtain ⟨ha, hn, hc⟩ := h
  unfold Hdr.v
  simp only at HN HR hn47
  clear hr hz
  have hmk : ∀ W : World, (Instr.makeMap 90 none).run Try.prog W = .ok (.map (some W.heap.size)) (W.alloc (.map #[] 0)) := fun W => by kernel_rfl
  go_enter Try.func46, Try.ntmps46
  go_wp2
  go_loopw [14] (fun iv wr => ∃ i : Nat, iv = .int .i64 i ∧ i ≤ hn ∧ Hid ((nms.take i).Nodup) ∧ Hid (Below w.heap.size w wr) ∧ Hid (MapIs wr w.heap.size (nms.take i))) (fun iv _ => hn - (intOf iv).toNat)
  case atStart => exact ⟨0, rfl, Nat.zero_le _, by simp [Lib.hid], Lib.hid ((Below.refl _ _).alloc (Nat.le_refl _) _), Lib.hid (mapIs_made w)⟩
  case round =>
    obtain ⟨i, rfl, hi, HA, HB, HM⟩ := hrel
    by_cases hlt : i < hn
    · have hil : i < nms.length := by rw [← HN.out]; exact hlt
      obtain ⟨b, o, cs, rfl, hb, hl, hra, hone, hnm, hsz⟩ := HR.out i hil
      have c0 : wr.cell? ⟨b, o + i, none⟩ = some (.string nms[i]) := by
        have := rangeAt_block hra (HB.out.block b hb) 0 _ hnm
        simpa using this
      have hki : (i : Int) < (hn : Int) := by omega
      have HSz := Lib.hid hsz
      have HT := Lib.hid (take_nodup hil HA.out)
      have HD := Lib.hid (not_nodup hil)
      have HTk := Lib.hid (List.take_succ_eq_append_getElem hil)
      have HLi : Hid ((nms.take i).length = i) := Lib.hid (by rw [List.length_take]; omega)
      generalize nms[i] = nm at c0 HSz HT HD HTk
      have HM1 : Hid (∀ W, Below wr.heap.size wr W → MapIs W w.heap.size (nms.take i)) := Lib.hid (fun W hW => HM.out.block (hW.block _ HM.out.lt))
      clear hra hone hnm hl hsz
      cases hp : posOf (nms.take i) nm with
      | some k =>
        have HF : Hid (¬ nms.Nodup) := Lib.hid (HD.out (by
          by_cases hm : nm ∈ nms.take i
          · exact hm
          · rw [posOf_none hm] at hp; cases hp))
        have HP := Lib.hid hp
        clear hp
        go_wp2_with (first | (go_at_call 27; refine (nameof_str nm _).mono ?_; rintro e w2 ⟨rfl, hb2⟩; have HB2 := Lib.hid (HB.out.trans (hb2.mono HB.out.size)); have HM2 := Lib.hid (HM1.out _ hb2); have hlk := HM2.out.look nm HSz.out; simp only [lookV, HP.out] at hlk; clear hb2) | (go_at_call 50; refine (need_no _ _).mono ?_; rintro e w5 ⟨rfl, rfl⟩))
        exact ⟨rfl, HB2.out, .inr ⟨HF.out, rfl⟩⟩
      | none =>
        have HF : Hid (nm ∉ nms.take i) := Lib.hid (fun hm => by
          obtain ⟨k, h1, _⟩ := posOf_mem hm
          rw [h1] at hp; cases hp)
        have HP := Lib.hid hp
        clear hp
        go_wp2_with (first | (go_at_call 27; refine (nameof_str nm _).mono ?_; rintro e w2 ⟨rfl, hb2⟩; have HB2 := Lib.hid (HB.out.trans (hb2.mono HB.out.size)); have HM2 := Lib.hid (HM1.out _ hb2); have hlk := HM2.out.look nm HSz.out; simp only [lookV, HP.out] at hlk; clear hb2) | (go_at_call 50; refine (need_yes _ _).mono ?_; rintro e w5 ⟨rfl, rfl⟩) | (at_mapUpdate; refine wpList_put _ rfl _ _ _ rfl w.heap.size (nms.take i) nm HM2.out rfl rfl (by rw [HLi.out]; rfl) HSz.out HF.out (by rw [HLi.out]; omega) ?_; intro w6 hm6 hg6; have HM5 := Lib.hid hm6; have HB5 := Lib.hid (HB2.out.trans (below_of_grown hg6 (Nat.le_refl _) HB2.out.size)); clear hm6 hg6))
        exact ⟨⟨i + 1, by push_cast; rfl, by omega, Lib.hid (HT.out HF.out), HB5, Lib.hid (by rw [HTk.out]; exact HM5.out)⟩, by simp [intOf]; omega⟩
    · obtain rfl : i = hn := by omega
      have hki : decide ((i : Int) < (i : Int)) = false := by simp
      have HF : Hid (nms.Nodup) := Lib.hid (by have := HA.out; rw [HN.out, List.take_length] at this; exact this)
      have HM9 : Hid (MapIs wr w.heap.size nms) := Lib.hid (by have := HM.out; rw [HN.out, List.take_length] at this; exact this)
      go_wp2
      go_ret
      exact ⟨HB.out, .inl ⟨HF.out, _, rfl, Nat.le_refl _, HM9.out⟩⟩


end Go.Proofs.Ytapejaabhkfhjaa

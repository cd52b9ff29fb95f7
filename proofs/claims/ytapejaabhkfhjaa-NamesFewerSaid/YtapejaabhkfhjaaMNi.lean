/- The program's lengths: the walk. -/
import Derived.Test.YtapejaabhkfhjaaMNf
import Derived.BigFrameIn
namespace Go.Proofs.Ytapejaabhkfhjaa
open Go.RowKit
attribute [local go_sem] Oper.semAt_some

def fits0 (x : Src) : Bool := decide (x.lets.length ≤ 64) && (decide (x.crops.length ≤ 32) && (decide (x.reaches.length ≤ 64) && (decide (x.farms.length ≤ 600) && (decide (x.rots.length ≤ 64) && (decide (x.rights.length ≤ 256) && decide (x.duties.length ≤ 256))))))
def fitsT (l : List RotD) : Bool := l.all fun d => decide (d.turns.length ≤ 64)
def deepOk (x : Src) : Bool := (allE x).all fun e => decide (depthE e.1 ≤ 8)

def LenPost (w : World) (ok : Bool) (e : Ending) (w' : World) : Prop := Below w.heap.size w w' ∧ e = if ok then .returned (.tuple #[]) else .panicked [{ v := .iface 38 (.int .i64 2), recovered := false }]
def LJ (Bs : Nat) (W1 : World) (p : Nat → Prop) (k : Nat) (O : Nat → Prop) (W : World) : Prop := (∀ b, O b → Bs < b) ∧ Below (Bs + 1) W1 W ∧ p k
theorem LJ.stays {Bs : Nat} {W1 : World} {p : Nat → Prop} (hz : W1.heap.size = Bs + 1) : Stays (LJ Bs W1 p) := by
  intro k O W O' W' hJ hsz hos htp hout hkeep hO'
  have hs := hJ.2.1.size
  refine ⟨fun b hb => (hO' b hb).elim (hJ.1 b) (fun h => by omega), hJ.2.1.trans ⟨hos, htp, hout, hsz, fun b hb => hkeep b (fun ho => ?_) (by omega)⟩, hJ.2.2⟩
  have := hJ.1 b ho
  omega
def DeepTo (x : Src) (k : Nat) : Prop := ∀ j (h : j < (allE x).length), j < k → depthE (allE x)[j].1 ≤ 8
def PtK (N : Nat → Prop) (s : Nat) (w : World) (x : Src) (k b o : Nat) : Prop := ∃ (h : k < (allE x).length) (cs : List Value), (b = s ∨ N b) ∧ w.rangeAt b o cs ∧ ExV N w (allE x)[k].1 cs
theorem put_below {B : Nat} {a w : World} (h : Below B a w) {g : Nat} (hg : B ≤ g) (o : Obj) : Below B a (w.putObj g o) :=
  h.trans ⟨rfl, rfl, rfl, by simp, fun k hk => World.putObj_heap_other (by omega)⟩
theorem setRow_below {B : Nat} {a w : World} (h : Below B a w) {g : Nat} (hg : B ≤ g) (row : Array Value) : Below B a (w.setRow g row) :=
  h.trans ⟨rfl, rfl, rfl, by simp [World.setRow], fun k hk => by simp [World.setRow, Array.getElem?_modify, show g ≠ k by omega]⟩
section
variable {N : Nat → Prop} {w : World}
theorem exV_one {e : Ex} {c : List Value} (h : ExV N w e c) : ∀ v ∈ c, v.oneCell' = true := by
  obtain ⟨a, cap, rfl, _⟩ := h.cells
  intro v hv
  simp at hv
  rcases hv with rfl | rfl | rfl | rfl | rfl | rfl <;> rfl
theorem rotV_one {t : Hdr} {cs : List Value} {d : RotD} (h : RotV N w t cs d) : ∀ v ∈ cs, v.oneCell' = true := by
  obtain ⟨_, _, c0, c1, c2, rfl, g0, g1, g2, _⟩ := h
  intro v hv
  simp only [rfV, List.mem_cons, List.mem_append, List.not_mem_nil, or_false] at hv
  rcases hv with rfl | (rfl | rfl) | rfl | h | h | h | rfl
  · rfl
  · rfl
  · rfl
  · rfl
  · exact exV_one g0 v h
  · exact exV_one g1 v h
  · exact exV_one g2 v h
  · rfl
theorem rotV_last {t : Hdr} {cs : List Value} {d : RotD} (h : RotV N w t cs d) (_ : cs.length = 23) : cs[22]? = some (.slice t.a t.n t.c) := by
  obtain ⟨_, _, c0, c1, c2, rfl, g0, g1, g2, _⟩ := h
  obtain ⟨_, _, rfl, _⟩ := g0.cells
  obtain ⟨_, _, rfl, _⟩ := g1.cells
  obtain ⟨_, _, rfl, _⟩ := g2.cells
  rfl
theorem rotV_turns {t : Hdr} {cs : List Value} {d : RotD} (h : RotV N w t cs d) : t.n = d.turns.length := by
  obtain ⟨_, _, _, _, _, _, _, _, _, h, _⟩ := h
  exact h
end

def LenCut (s : Nat) (F : Bool) (w : World) (a : Act) (w2 : World) : Prop := w2 = w ∧ ∃ u6 u7 u8 u9 u10 u11 u12 u13 u14 u15 u16 u17 u18 u19 u20 u21 u22 u23 u24 u25 u26 u27 u28 u29 u30 u31 u32 u33 u34 u35 u36 u37 u38 u39 u40 u41 u42 u43 u44 u45 u46 u47 u48 u49 u50 u51 u52 u53 u54 u55 u56 u57 u58 u59, a = { tmps := #[.pointer (some ⟨s, 0, none⟩), undef, .bool F, undef, undef, undef, u6, u7, u8, u9, u10, u11, u12, u13, u14, u15, u16, u17, u18, u19, u20, u21, u22, u23, u24, u25, u26, u27, u28, u29, u30, u31, u32, u33, u34, u35, u36, u37, u38, u39, u40, u41, u42, u43, u44, u45, u46, u47, u48, u49, u50, u51, u52, u53, u54, u55, u56, u57, u58, u59, undef, undef, undef, undef, undef, undef, undef, undef, undef, undef, undef, undef, undef, undef, undef, undef, undef, undef, undef, undef, undef, undef, undef, undef, undef, undef, undef, undef, undef], defers := [] }
set_option maxRecDepth 100000 in
set_option maxHeartbeats 4000000 in
theorem lengths_any {N : Nat → Prop} {w : World} {L : Lay} {cs : List Value} {x : Src} (h : SrcV N w L cs x) (hr : w.rangeAt L.s 0 cs) (hN : ∀ b, N b → b < w.heap.size) (hs : L.s < w.heap.size) (hd : ∀ e ∈ allE x, depthE e.1 ≤ 1000000) :
    Calls Try.prog 25 #[.pointer (some ⟨L.s, 0, none⟩)] w (LenPost w (fits0 x && (fitsT x.rots && deepOk x))) := by
  have HV := Lib.hid h
  have HRg := Lib.hid hr
  have HN := Lib.hid hN
  have HD := Lib.hid hd
  have HH := Lib.hid (heads_of (Bs := w.heap.size) (h.same (fun b h => h) (same_below hN ((Below.refl _ _).alloc (Nat.le_refl _) (.cells #[.pointer (some ⟨L.s, 0, none⟩)] 0)))) (rangeAt_block hr (((Below.refl _ _).alloc (Nat.le_refl _) (.cells #[.pointer (some ⟨L.s, 0, none⟩)] 0)).block _ hs)) (by
    have : (w.alloc (.cells #[.pointer (some ⟨L.s, 0, none⟩)] 0)).heap[w.heap.size]? = some (.cells #[.pointer (some ⟨L.s, 0, none⟩)] 0 (0, 0)) := World.alloc_heap_new _ _
    simp only [World.cell?, this]; simp))
  have hc19 : w.cell? ⟨L.s, 19, none⟩ = some L.lets.v := (((Below.refl w.heap.size w).alloc (Nat.le_refl _) (.cells #[.pointer (some ⟨L.s, 0, none⟩)] 0)).cell (p := ⟨L.s, 19, none⟩) hs).symm.trans HH.out.lets
  have hc20 : w.cell? ⟨L.s, 20, none⟩ = some L.crops.v := (((Below.refl w.heap.size w).alloc (Nat.le_refl _) (.cells #[.pointer (some ⟨L.s, 0, none⟩)] 0)).cell (p := ⟨L.s, 20, none⟩) hs).symm.trans HH.out.crops
  have hc21 : w.cell? ⟨L.s, 21, none⟩ = some L.reaches.v := (((Below.refl w.heap.size w).alloc (Nat.le_refl _) (.cells #[.pointer (some ⟨L.s, 0, none⟩)] 0)).cell (p := ⟨L.s, 21, none⟩) hs).symm.trans HH.out.reaches
  have hc22 : w.cell? ⟨L.s, 22, none⟩ = some L.farms.v := (((Below.refl w.heap.size w).alloc (Nat.le_refl _) (.cells #[.pointer (some ⟨L.s, 0, none⟩)] 0)).cell (p := ⟨L.s, 22, none⟩) hs).symm.trans HH.out.farms
  have hc23 : w.cell? ⟨L.s, 23, none⟩ = some L.rots.v := (((Below.refl w.heap.size w).alloc (Nat.le_refl _) (.cells #[.pointer (some ⟨L.s, 0, none⟩)] 0)).cell (p := ⟨L.s, 23, none⟩) hs).symm.trans HH.out.rots
  have hc24 : w.cell? ⟨L.s, 24, none⟩ = some L.rights.v := (((Below.refl w.heap.size w).alloc (Nat.le_refl _) (.cells #[.pointer (some ⟨L.s, 0, none⟩)] 0)).cell (p := ⟨L.s, 24, none⟩) hs).symm.trans HH.out.rights
  have hc25 : w.cell? ⟨L.s, 25, none⟩ = some L.duties.v := (((Below.refl w.heap.size w).alloc (Nat.le_refl _) (.cells #[.pointer (some ⟨L.s, 0, none⟩)] 0)).cell (p := ⟨L.s, 25, none⟩) hs).symm.trans HH.out.duties
  unfold Hdr.v at hc19 hc20 hc21 hc22 hc23 hc24 hc25
  have n1 := h.lets.1; have n2 := h.crops.1; have n3 := h.reaches.1; have n4 := h.farms.1; have n5 := h.rots.1; have n6 := h.rights.1; have n7 := h.duties.1
  have hF : fits0 x = (decide (L.lets.n ≤ 64) && (decide (L.crops.n ≤ 32) && (decide (L.reaches.n ≤ 64) && (decide (L.farms.n ≤ 600) && (decide (L.rots.n ≤ 64) && (decide (L.rights.n ≤ 256) && decide (L.duties.n ≤ 256))))))) := by unfold fits0; rw [n1, n2, n3, n4, n5, n6, n7]
  have HF := Lib.hid hF
  have N5 := Lib.hid n5
  clear h hr hN hd HH n1 n2 n3 n4 n5 n6 n7 hF
  refine calls_of_wpAt_marks (n := 10) Try.func25 rfl ?_
  simp only [Try.ntmps25, List.size_toArray, List.length_cons, List.length_nil, Nat.reduceAdd, Nat.reduceSub, Array.replicate_succ, Array.replicate_zero, List.push_toArray, List.append_toArray, List.nil_append, List.cons_append]
  generalize hFF : fits0 x = F at HF ⊢
  clear hFF
  refine wpAt_seq (wpAt_of_wp (Code.wp_mono (Q := Exit.then (LenCut L.s F w) (fun _ _ _ => False)) ?_ ?_))
  rotate_left
  · go_wp2
    all_goals
      first
      | (obtain rfl : F = false := by rw [HF.out]; simp only [Bool.and_eq_false_iff, decide_eq_false_iff_not]; omega
         exact ⟨rfl, _, _, _, _, _, _, _, _, _, _, _, _, _, _, _, _, _, _, _, _, _, _, _, _, _, _, _, _, _, _, _, _, _, _, _, _, _, _, _, _, _, _, _, _, _, _, _, _, _, _, _, _, _, _, rfl⟩)
      | (obtain rfl : F = decide ((L.duties.n : Int) ≤ 256) := by rw [HF.out, Bool.eq_iff_iff]; simp only [Bool.and_eq_true, decide_eq_true_eq]; omega
         exact ⟨rfl, _, _, _, _, _, _, _, _, _, _, _, _, _, _, _, _, _, _, _, _, _, _, _, _, _, _, _, _, _, _, _, _, _, _, _, _, _, _, _, _, _, _, _, _, _, _, _, _, _, _, _, _, _, _, rfl⟩)
  rintro (_ | id | l | _ | ch | _) a' w' h
  rotate_left
  · exact h.elim
  · exact h.elim
  · exact h.elim
  · exact h.elim
  · exact h.elim
  obtain ⟨rfl, u6, u7, u8, u9, u10, u11, u12, u13, u14, u15, u16, u17, u18, u19, u20, u21, u22, u23, u24, u25, u26, u27, u28, u29, u30, u31, u32, u33, u34, u35, u36, u37, u38, u39, u40, u41, u42, u43, u44, u45, u46, u47, u48, u49, u50, u51, u52, u53, u54, u55, u56, u57, u58, u59, rfl⟩ := h
  clear hc19 hc20 hc21 hc22 hc24 hc25
  refine wpAt_seq (wpAt_of_wp ?_)
  go_wp2
  go_loopw [2, 65] (fun fv iv wr => ∃ i : Nat, i ≤ L.rots.n ∧ iv = .int .i64 i ∧ fv = .bool (F && fitsT (x.rots.take i)) ∧ Hid (Below w'.heap.size w' wr)) (fun _ iv _ => L.rots.n - (intOf iv).toNat)
  case atStart => exact ⟨0, Nat.zero_le _, rfl, by simp [fitsT], Lib.hid (Below.refl _ _)⟩
  case round =>
    obtain ⟨i, hi, rfl, rfl, HB⟩ := hrel
    by_cases hlt : i < L.rots.n
    · have hil : i < x.rots.length := by rw [← N5.out]; exact hlt
      obtain ⟨b, o, cs2, he, hNb, hl23, hra, hrv⟩ := HV.out.rots.2.2 i hil
      have hra := rangeAt_block hra (HB.out.block b (HN.out b hNb))
      have hone := rotV_one hrv
      have hlast := rotV_last hrv hl23
      have hrow := rotV_turns hrv
      have ht : fitsT (x.rots.take (i + 1)) = (fitsT (x.rots.take i) && decide ((turnsOf L i).n ≤ 64)) := by
        rw [List.take_succ_eq_append_getElem hil]
        unfold fitsT
        rw [List.all_append, hrow]
        simp
      have HT := Lib.hid ht
      have hki : (i : Int) < (L.rots.n : Int) := by omega
      have hn47 : L.rots.n ≤ 140737488355328 := by have := HV.out.rots.2.1; have := N5.out; omega
      have HRA := Lib.hid hra
      have HOne := Lib.hid (all_oneCell_toArray hone)
      have H23 : Hid ((Try.prog.info? 64).map (·.size) = some cs2.length) := Lib.hid (by rw [hl23]; kernel_rfl)
      have H23b : Hid ((Try.prog.info? 64).map (·.size) = some cs2.toArray.size) := Lib.hid (by rw [List.size_toArray]; exact H23.out)
      have HL23 := Lib.hid hl23
      rw [he] at *
      have hrd : ((wr.alloc (.cells #[.string ⟨#[]⟩, .string ⟨#[]⟩, .int .i64 0, .int .i64 0, .int .i64 0, .int .i64 0, .int .i64 0, .string ⟨#[]⟩, .int .i64 0, .slice none 0 0, .int .i64 0, .int .i64 0, .int .i64 0, .string ⟨#[]⟩, .int .i64 0, .slice none 0 0, .int .i64 0, .int .i64 0, .int .i64 0, .string ⟨#[]⟩, .int .i64 0, .slice none 0 0, .slice none 0 0] 64)).setRow wr.heap.size cs2.toArray).cell? ⟨wr.heap.size, 22, none⟩ = some (.slice (turnsOf L i).a (turnsOf L i).n (turnsOf L i).c) := by
        have hs2 : (wr.alloc (.cells #[.string ⟨#[]⟩, .string ⟨#[]⟩, .int .i64 0, .int .i64 0, .int .i64 0, .int .i64 0, .int .i64 0, .string ⟨#[]⟩, .int .i64 0, .slice none 0 0, .int .i64 0, .int .i64 0, .int .i64 0, .string ⟨#[]⟩, .int .i64 0, .slice none 0 0, .int .i64 0, .int .i64 0, .int .i64 0, .string ⟨#[]⟩, .int .i64 0, .slice none 0 0, .slice none 0 0] 64)).heap[wr.heap.size]? = some (.cells #[.string ⟨#[]⟩, .string ⟨#[]⟩, .int .i64 0, .int .i64 0, .int .i64 0, .int .i64 0, .int .i64 0, .string ⟨#[]⟩, .int .i64 0, .slice none 0 0, .int .i64 0, .int .i64 0, .int .i64 0, .string ⟨#[]⟩, .int .i64 0, .slice none 0 0, .int .i64 0, .int .i64 0, .int .i64 0, .string ⟨#[]⟩, .int .i64 0, .slice none 0 0, .slice none 0 0] 64 (0, 0)) := World.alloc_heap_new _ _
        simp only [World.cell?, World.setRow, Array.getElem?_modify, hs2]
        simp [hlast]
      clear hra hrow ht hl23 he hone hrv
      generalize fitsT (x.rots.take i) = G at HT ⊢
      cases hFG : (F && G) with
      | false =>
        go_wp2_with (first | (refine wpList_load_mid rfl 64 _ rfl b (o + i * 23) rfl cs2 _ HRA.out Try.underlying64 rfl H23.out ?_) | (refine wpList_store_row rfl 64 _ _ rfl wr.heap.size cs2.toArray rfl rfl 64 _ (World.alloc_heap_new _ _) H23b.out (by simp [HL23.out]) HOne.out ?_))
        refine ⟨⟨i + 1, by omega, by push_cast; rfl, by rw [HT.out]; revert hFG; cases F <;> cases G <;> simp <;> omega, Lib.hid (setRow_below (HB.out.alloc HB.out.size _) HB.out.size _)⟩, by simp [intOf]; omega⟩
      | true =>
        go_wp2_with (first | (refine wpList_load_mid rfl 64 _ rfl b (o + i * 23) rfl cs2 _ HRA.out Try.underlying64 rfl H23.out ?_) | (refine wpList_store_row rfl 64 _ _ rfl wr.heap.size cs2.toArray rfl rfl 64 _ (World.alloc_heap_new _ _) H23b.out (by simp [HL23.out]) HOne.out ?_))
        refine ⟨⟨i + 1, by omega, by push_cast; rfl, by rw [HT.out]; revert hFG; cases F <;> cases G <;> simp <;> omega, Lib.hid (setRow_below (HB.out.alloc HB.out.size _) HB.out.size _)⟩, by simp [intOf]; omega⟩
    · obtain rfl : i = L.rots.n := by omega
      have hki : decide ((L.rots.n : Int) < (L.rots.n : Int)) = false := by simp
      have hrt : x.rots.take L.rots.n = x.rots := by rw [N5.out]; exact List.take_length
      rw [hrt]
      clear hrt
      go_wp2
      cases hok : (F && fitsT x.rots) with
      | false =>
        have hfin : (F && (fitsT x.rots && deepOk x)) = false := by rw [← Bool.and_assoc, hok]; rfl
        rw [hfin]
        clear hfin
        refine wpAt_seq (wpAt_of_wp ?_)
        go_wp2_with (first | (go_at_call 50; refine (need_no _ _).mono ?_; rintro e w2 ⟨rfl, rfl⟩))
        exact ⟨HB.out, rfl⟩
      | true =>
        have hfin : (F && (fitsT x.rots && deepOk x)) = deepOk x := by rw [← Bool.and_assoc, hok]; rfl
        rw [hfin]
        clear hfin
        refine wpAt_seq (wpAt_of_wp ?_)
        go_wp2_with (first | (go_at_call 50; refine (need_yes _ _).mono ?_; rintro e w2 ⟨rfl, rfl⟩))
        refine wpAt_seq (wpAt_of_wp ?_)
        go_wp2_with (first | (go_at_call 67; refine (expressions_any _ _).mono ?_; rintro e w2 ⟨rfl, rfl⟩))
        refine wpAt_block ?_
        have HE := Lib.hid (exprs_all2 HV.out HRg.out)
        have hb2 : Below w'.heap.size w' (w2.alloc (.cells #[.pointer (some ⟨L.s, 0, none⟩)] 52)) := HB.out.alloc HB.out.size _
        have HB2 := Lib.hid hb2
        have hbox : (w2.alloc (.cells #[.pointer (some ⟨L.s, 0, none⟩)] 52)).cell? ⟨w2.heap.size, 0, none⟩ = some (.pointer (some ⟨L.s, 0, none⟩)) := by
          have : (w2.alloc (.cells #[.pointer (some ⟨L.s, 0, none⟩)] 52)).heap[w2.heap.size]? = some (.cells #[.pointer (some ⟨L.s, 0, none⟩)] 52 (0, 0)) := World.alloc_heap_new _ _
          simp only [World.cell?, this]; simp
        have hz2 : (w2.alloc (.cells #[.pointer (some ⟨L.s, 0, none⟩)] 52)).heap.size = w2.heap.size + 1 := by simp
        have HBox := Lib.hid hbox
        have HZ2 := Lib.hid hz2
        clear hbox hz2 hb2
        have hAt : ∀ W, Below (w2.heap.size + 1) (w2.alloc (.cells #[.pointer (some ⟨L.s, 0, none⟩)] 52)) W → Below w'.heap.size w' W := fun W hW => HB2.out.trans (hW.mono (Nat.le_succ_of_le HB.out.size))
        have HAt := Lib.hid hAt
        clear hAt
        have HS2 : Hid (w'.heap.size ≤ w2.heap.size) := Lib.hid HB.out.size
        clear HB
        generalize hW1 : w2.alloc (.cells #[.pointer (some ⟨L.s, 0, none⟩)] 52) = W1 at *
        refine wpAt_rangeP (n := 10) Try.func25 rfl (fun _ _ => rfl) (expr_seq 9 (by omega) w2.heap.size L HV.out.ok) (fun a ha => by
            obtain ⟨i, hi, rfl⟩ := List.mem_iff_getElem.1 ha
            obtain ⟨b, o, c, h1, _⟩ := HE.out.get i hi (by rw [← HE.out.length]; exact hi)
            rw [h1]; rfl)
          (LJ w2.heap.size W1 (DeepTo x)) (fun _ _ _ => False) (fun ch => LJ w2.heap.size W1 (fun _ => ch = [{ v := .iface 38 (.int .i64 2), recovered := false }] ∧ deepOk x = false) 0)
          (fun k a => (LJ w2.heap.size W1 fun k => DeepTo x k ∧ ∃ b o lt, PtK N L.s w' x k b o ∧ a = { tmps := #[.pointer (some ⟨L.s, 0, none⟩), undef, .bool true, undef, u4, .pointer (some ⟨b, o, none⟩), u6, u7, u8, u9, u10, u11, u12, u13, u14, u15, u16, u17, u18, u19, u20, u21, u22, u23, u24, u25, u26, u27, u28, u29, u30, u31, u32, u33, u34, u35, u36, u37, u38, u39, u40, u41, u42, u43, u44, u45, u46, u47, u48, u49, u50, u51, u52, u53, u54, u55, u56, u57, u58, u59, .pointer (some ⟨L.s, 0, none⟩), .pointer (some ⟨L.s, 0, none⟩), .pointer (some ⟨L.s, 23, none⟩), .slice L.rots.a L.rots.n L.rots.c, .int .i64 L.rots.n, .int .i64 L.rots.n, .bool false, u67, u68, u69, u70, u71, u72, u73, u74, u75, u76, .bool true, .tuple #[], .pointer (some ⟨L.s, 0, none⟩), .func (.func 89) #[] #[.pointer (some ⟨w2.heap.size, 0, none⟩)], .pointer (some ⟨b, o, none⟩), .int .i64 lt, undef, undef, undef, undef, undef, undef], defers := [] }) k) ?_ (fun _ _ _ _ _ _ h => h.elim) (fun _ _ O W O' W' h => LJ.stays HZ2.out 0 O W O' W' h) ?_ ?_ (fun _ _ _ h => h.elim) (fun _ h => by cases h) ?_ ?_ ?_ ?_ (fun _ _ _ _ _ _ h => h.elim) ?_
        · exact LJ.stays HZ2.out
        · exact fun a => LJ.stays HZ2.out
        · rintro k O W ⟨hO, hb, hp⟩
          exact heads_of (HV.out.same (fun b h => h) (same_below HN.out (HAt.out W hb))) (rangeAt_block HRg.out ((HAt.out W hb).block _ hs)) ((hb.cell (p := ⟨w2.heap.size, 0, none⟩) (Nat.lt_succ_self _)).trans HBox.out)
        · exact ⟨fun _ h => h.elim, Below.refl _ _, fun j _ hj => absurd hj (by omega)⟩
        · intro k hk O W l hj hO hl _
          obtain ⟨b, o, cs2, h1, h2, h3, h4⟩ := HE.out.get k hk (by rw [← HE.out.length]; exact hk)
          have hk2 : k < (allE x).length := by rw [← HE.out.length]; exact hk
          rw [h1]
          generalize (allE x)[k].2 = lt
          have HJ := Lib.hid hj
          have HP : Hid (PtK N L.s w' x k b o) := Lib.hid ⟨hk2, cs2, h2, h3, h4⟩
          clear hj hO hl h1 h2 h3 h4
          gi_wp2
          first
          | exact ⟨Same.refl _ _, HJ.out.1, HJ.out.2.1, HJ.out.2.2, b, o, lt, HP.out, rfl⟩
          | (rename_i hK; exact hK _ _ ⟨Same.refl _ _, HJ.out.1, HJ.out.2.1, HJ.out.2.2, b, o, lt, HP.out, rfl⟩)
          | (rename_i hK _; exact hK _ _ ⟨Same.refl _ _, HJ.out.1, HJ.out.2.1, HJ.out.2.2, b, o, lt, HP.out, rfl⟩)
          | fail
        · rintro k hk O W l a1 hl hrec hOW ⟨hO, hb, hd, b, o, lt, ⟨hk2, cs2, h1, h2, h3⟩, rfl⟩
          obtain ⟨ea, ecap, rfl, e1, e2, e3⟩ := h3.cells
          have hbl : b < w'.heap.size := by
            rcases h1 with rfl | h1
            · exact hs
            · exact HN.out b h1
          obtain ⟨c0, c1, c2, c3, c4, c5⟩ := rangeAt6 (rangeAt_block h2 ((HAt.out W hb).block b hbl))
          have hw : ExV N W (allE x)[k].1 _ := h3.same (fun b h => h) (same_below HN.out (HAt.out W hb))
          have HDep := Lib.hid (depth_any (allE x)[k].1 hw (fun b hb2 => Nat.lt_of_lt_of_le (HN.out b hb2) (HAt.out W hb).size) (HD.out _ (List.getElem_mem hk2)))
          have HO := Lib.hid hO
          have HOW := Lib.hid hOW
          have hsz := HZ2.out
          have HSZ : Hid (w2.heap.size + 1 ≤ W.heap.size) := Lib.hid (by rw [← hsz]; exact hb.size)
          clear hsz
          have HBW := Lib.hid hb
          have HDT := Lib.hid hd
          have HK := Lib.hid hk2
          have hX : Hid (∀ d, d = depthE (allE x)[k].1 → (d ≤ 8 → DeepTo x (k + 1)) ∧ (8 < d → deepOk x = false)) := Lib.hid fun d hd8 => by
            refine ⟨fun h j hj hjk => ?_, fun h => ?_⟩
            · rcases Nat.lt_or_ge j k with h9 | h9
              · exact HDT.out j hj h9
              · obtain rfl : j = k := by omega
                omega
            · unfold deepOk
              rw [List.all_eq_false]
              exact ⟨_, List.getElem_mem HK.out, by simp; omega⟩
          clear hOW hw hO hb hd hl hrec h2 h3 e1 e2 e3 h1 hbl
          by_cases h8 : depthE (allE x)[k].1 ≤ 8
          · have HT := Lib.hid ((hX.out _ rfl).1 h8)
            have hdec : decide ((depthE (allE x)[k].1 : Int) ≤ 8) = true := by simp; omega
            clear h8 hX
            generalize depthE (allE x)[k].1 = dd at HDep hdec
            gi_wp2_with fail
            refine ⟨trivial, CallsIn.mono (CallsIn.inRound l (callsIn_wide.2 HDep.out)) ?_⟩
            rintro e w3 ⟨rfl, hw3⟩
            gi_wp2_with fail
            refine ⟨trivial, CallsIn.mono (CallsIn.inRound l (callsIn_wide.2 (need_yes _ _))) ?_⟩
            rintro e w4 ⟨rfl, rfl⟩
            try gi_wp2_with fail
            exact ⟨⟨hw3.size, fun b hb => hw3.block b (HOW.out b hb)⟩, HO.out, HBW.out.trans (hw3.mono HSZ.out), HT.out⟩
          · have HT := Lib.hid ((hX.out _ rfl).2 (by omega))
            have hdec : decide ((depthE (allE x)[k].1 : Int) ≤ 8) = false := by simp; omega
            clear h8 hX
            generalize depthE (allE x)[k].1 = dd at HDep hdec
            gi_wp2_with fail
            refine ⟨trivial, CallsIn.mono (CallsIn.inRound l (callsIn_wide.2 HDep.out)) ?_⟩
            rintro e w3 ⟨rfl, hw3⟩
            gi_wp2_with fail
            refine ⟨trivial, CallsIn.mono (CallsIn.inRound l (callsIn_wide.2 (need_no _ _))) ?_⟩
            rintro e w4 ⟨rfl, rfl⟩
            try gi_wp2_with fail
            exact ⟨rfl, ⟨hw3.size, fun b hb => hw3.block b (HOW.out b hb)⟩, HO.out, HBW.out.trans (hw3.mono HSZ.out), rfl, HT.out⟩
        · rintro - D O W hD - hj hdf
          have hdeep : deepOk x = true := by
            unfold deepOk
            rw [List.all_eq_true]
            intro e he
            obtain ⟨j, hj2, rfl⟩ := List.mem_iff_getElem.1 he
            simp only [decide_eq_true_eq]
            exact hj.2.2 j hj2 (by rw [HE.out.length]; exact hj2)
          rw [hdeep]
          exact ⟨by simp, .inl ⟨_, _, rfl, run_takeDeferred hdf, ⟨_, results_none rfl _ _ _, put_below (HAt.out W hj.2.1) (by have := HZ2.out; have := HS2.out; omega) _, rfl⟩⟩⟩
        · rintro D ch O W hD - ⟨-, hb, rfl, hd⟩ hdf
          rw [hd]
          exact ⟨by simp, .inl ⟨_, _, rfl, run_takeDeferred hdf, ⟨put_below (HAt.out W hb) (by have := HZ2.out; have := HS2.out; omega) _, rfl⟩⟩⟩

end Go.Proofs.Ytapejaabhkfhjaa

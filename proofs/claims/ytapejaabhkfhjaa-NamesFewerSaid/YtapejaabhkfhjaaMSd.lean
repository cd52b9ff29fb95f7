/- Texts Sd Se in one: each says what it proves. -/
import Derived.Test.YtapejaabhkfhjaaMSc
/- slices.Equal of references. -/
namespace Go.Proofs.Ytapejaabhkfhjaa
open Go.RowKit

def RfRow (w : World) (h : Hdr) (l : List Rf) : Prop := h.n = l.length ∧ l.length ≤ 140737488355328 ∧ ∀ i (hi : i < l.length), ∃ b o, h.a = some ⟨b, o, none⟩ ∧ b < w.heap.size ∧ w.cell? ⟨b, o + i * 2, none⟩ = some (.string l[i].name) ∧ w.cell? ⟨b, o + i * 2 + 1, none⟩ = some (.int .i64 l[i].n)
theorem toList_inj {a b : ByteArray} (h : a.toList = b.toList) : a = b := by
  rw [ByteArray.toList_eq, ByteArray.toList_eq] at h
  cases a; cases b; simpa using h
set_option maxHeartbeats 4000000 in
theorem equal_refs {w : World} {h1 h2 : Hdr} {l1 l2 : List Rf} (r1 : RfRow w h1 l1) (r2 : RfRow w h2 l2) :
    Calls Try.prog 64 #[h1.v, h2.v] w fun e w' => e = .returned (.bool (decide (l1 = l2))) ∧ Below w.heap.size w w' := by
  obtain ⟨a1, n1, c1⟩ := h1
  obtain ⟨a2, n2, c2⟩ := h2
  have R1 := Lib.hid r1.2.2; have R2 := Lib.hid r2.2.2
  have N1 := Lib.hid r1.1; have N2 := Lib.hid r2.1
  have hn47 : n1 ≤ 140737488355328 := by have := r1.1; have := r1.2.1; simp only at *; omega
  have hn47b : n2 ≤ 140737488355328 := by have := r2.1; have := r2.2.1; simp only at *; omega
  unfold Hdr.v
  simp only at R1 R2 N1 N2 ⊢
  clear r1 r2
  by_cases hn : n1 = n2
  · subst hn
    have hne : ((n1 : Int) != (n1 : Int)) = false := by simp
    go_enter Try.func64, Try.ntmps64
    go_wp2
    have HB0 := Lib.hid (Below.refl w.heap.size w)
    go_loopw [13] (fun iv wr => ∃ i : Nat, i ≤ n1 ∧ iv = .int .i64 i ∧ Hid (l1.take i = l2.take i) ∧ Hid (Below w.heap.size w wr)) (fun iv _ => n1 - (intOf iv).toNat)
    case atStart => exact ⟨0, Nat.zero_le _, rfl, Lib.hid (by simp), HB0⟩
    case round =>
      obtain ⟨i, hi, rfl, HE, HB⟩ := hrel
      by_cases hlt : i < n1
      · have hki : (i : Int) < (n1 : Int) := by omega
        have hl1 : i < l1.length := by rw [← N1.out]; exact hlt
        have hl2 : i < l2.length := by rw [← N2.out]; exact hlt
        obtain ⟨b1, o1, rfl, hb1, x1, y1⟩ := R1.out i hl1
        obtain ⟨b2, o2, rfl, hb2, x2, y2⟩ := R2.out i hl2
        have HT : Hid (l1[i] = l2[i] → l1.take (i + 1) = l2.take (i + 1)) := Lib.hid (fun e => by
          rw [List.take_succ_eq_append_getElem hl1, List.take_succ_eq_append_getElem hl2, HE.out, e])
        have HF : Hid (l1[i] ≠ l2[i] → decide (l1 = l2) = false) := Lib.hid (fun e => decide_eq_false (fun h => e (by subst h; rfl)))
        generalize l1[i] = d1 at x1 y1 HT HF
        generalize l2[i] = d2 at x2 y2 HT HF
        obtain ⟨m1, k1⟩ := d1
        obtain ⟨m2, k2⟩ := d2
        have c1x : wr.cell? ⟨b1, o1 + i * 2, none⟩ = some (.string m1) := (HB.out.cell (p := ⟨b1, _, none⟩) hb1).trans x1
        have c1y : wr.cell? ⟨b1, o1 + i * 2 + 1, none⟩ = some (.int .i64 k1) := (HB.out.cell (p := ⟨b1, _, none⟩) hb1).trans y1
        have c2x : wr.cell? ⟨b2, o2 + i * 2, none⟩ = some (.string m2) := (HB.out.cell (p := ⟨b2, _, none⟩) hb2).trans x2
        have c2y : wr.cell? ⟨b2, o2 + i * 2 + 1, none⟩ = some (.int .i64 k2) := (HB.out.cell (p := ⟨b2, _, none⟩) hb2).trans y2
        clear x1 y1 x2 y2 hl1 hl2 hb1 hb2
        by_cases hm : m1.toList = m2.toList
        · obtain rfl : m1 = m2 := toList_inj hm
          clear hm
          by_cases hk : k1 = k2
          · subst hk
            have HT2 := Lib.hid (HT.out rfl)
            clear HT HF
            go_wp2_with fail
            go_region
            go_wp2
            exact ⟨⟨i + 1, by omega, by push_cast; rfl, HT2, Lib.hid HB.out.drew⟩, by simp [intOf]; omega⟩
          · have HF2 := Lib.hid (HF.out (fun h => hk (Rf.mk.inj h).2))
            clear HT HF
            go_wp2_with fail
            go_region
            go_wp2
            go_ret
            exact ⟨by rw [HF2.out]; rfl, HB.out.drew⟩
        · have HF2 := Lib.hid (HF.out (fun h => hm (by rw [(Rf.mk.inj h).1])))
          clear HT HF
          go_wp2_with fail
          go_region
          go_wp2
          go_ret
          exact ⟨by rw [HF2.out]; rfl, HB.out.drew⟩
      · obtain rfl : i = n1 := by omega
        have hki : decide ((i : Int) < (i : Int)) = false := by simp
        go_wp2
        go_ret
        have he : l1 = l2 := by
          have h1 := HE.out
          rw [N1.out, List.take_length, ← N1.out, N2.out, List.take_length] at h1
          exact h1
        exact ⟨by rw [decide_eq_true he]; rfl, HB.out⟩
  · have hne : ((n1 : Int) != (n2 : Int)) = true := by simp; omega
    go_enter Try.func64, Try.ntmps64
    go_wp2
    go_ret
    exact ⟨by rw [decide_eq_false (fun h => hn (by rw [N1.out, N2.out, h]))]; rfl, Below.refl _ _⟩

end Go.Proofs.Ytapejaabhkfhjaa

/- Check: the state while references are listed; the resolved source is as right as the source. -/
namespace Go.Proofs.Ytapejaabhkfhjaa
open Go.RowKit

/- while references are listed in the variable at Bx -/
structure RefJ (W0 : World) (Bx : Nat) (l : List Rf) (O : Nat → Prop) (V : World) : Prop where
  grown : W0.grownBy V (some Bx)
  ownO : ∀ b, O b → W0.heap.size ≤ b
  row : ∃ v, V.heap[Bx]? = some (.cells #[v] 127 (0, 0)) ∧ OwnRf W0.heap.size V v l ∧ ∀ g, v.ownBlock = some g → ¬ O g
section
variable {W0 V w1 : World} {Bx : Nat} {l : List Rf} {O : Nat → Prop}
theorem RefJ.stays (hB : Bx < W0.heap.size) (f : Nat → List Rf) : Stays (fun k => RefJ W0 Bx (f k)) := by
  intro k O W O' W' h hz ho ht hu hk hO
  obtain ⟨v, r1, r2, r3⟩ := h.row
  have hzz := h.grown.size
  have hB2 : W'.heap[Bx]? = W.heap[Bx]? := hk Bx (fun hb => by have := h.ownO Bx hb; omega) (by omega)
  refine ⟨⟨ho.trans h.grown.os, ht.trans h.grown.tape, hu.trans h.grown.output, Nat.le_trans hzz hz, fun b hb hne => (hk b (fun hb' => by have := h.ownO b hb'; omega) (by omega)).trans (h.grown.block b hb hne)⟩, fun b hb => ?_, v, hB2.trans r1, r2.up (fun g hg hlt => hk g (r3 g hg) hlt), fun g hg hO' => ?_⟩
  · rcases hO b hb with h1 | h1
    · exact h.ownO b h1
    · omega
  · rcases hO g hO' with h1 | h1
    · exact r3 g hg h1
    · have := (r2.lt hg).2; omega
theorem RefJ.same (h : RefJ W0 Bx l O V) {b : Nat} (hb : b < W0.heap.size) (hne : b ≠ Bx) : V.heap[b]? = W0.heap[b]? := h.grown.block b hb (fun e => hne (Option.some.inj e))
theorem RefJ.start (W0 : World) (hb : W0.heap[Bx]? = some (.cells #[.slice none 0 0] 127 (0, 0))) : RefJ W0 Bx [] (fun _ => False) W0 :=
  ⟨⟨rfl, rfl, rfl, Nat.le_refl _, fun _ _ _ => rfl⟩, fun _ h => h.elim, _, hb, ownRf_nil _ _, fun g hg => by cases hg⟩
theorem RefJ.put (h : RefJ W0 Bx l O V) (hB : Bx < W0.heap.size) (hO : ∀ b, O b → b < V.heap.size) {va v : Value} {r : Rf} (hva : V.cell? ⟨Bx, 0, none⟩ = some va) (hp : Put1 V W0.heap.size va l r w1 v) : RefJ W0 Bx (l ++ [r]) O (w1.setCell ⟨Bx, 0, none⟩ v) ∧ Same O V (w1.setCell ⟨Bx, 0, none⟩ v) := by
  obtain ⟨v0, r1, r2, r3⟩ := h.row
  obtain rfl : va = v0 := by
    have e : V.cell? ⟨Bx, 0, none⟩ = some v0 := by simp [World.cell?, r1]
    rw [hva] at e; exact Option.some.inj e
  have hown : ∀ g, va.ownBlock = some g → W0.heap.size ≤ g := fun g hg => (r2.lt hg).1
  have hB1 : w1.heap[Bx]? = V.heap[Bx]? := hp.grown.block Bx (by have := h.grown.size; omega) (fun e => by have := hown _ e.symm; omega)
  have hz := h.grown.size
  have hz1 := hp.grown.size
  have hset : ∀ b, b ≠ Bx → (w1.setCell ⟨Bx, 0, none⟩ v).heap[b]? = w1.heap[b]? := fun b hne => heap_setCell_other _ _ _ _ hne
  have hother : ∀ b, b ≠ Bx → b < V.heap.size → va.ownBlock ≠ some b → (w1.setCell ⟨Bx, 0, none⟩ v).heap[b]? = V.heap[b]? := fun b hne hlt hw => (hset b hne).trans (hp.grown.block b hlt (fun e => hw e.symm))
  refine ⟨⟨⟨hp.grown.os.trans h.grown.os, hp.grown.tape.trans h.grown.tape, hp.grown.output.trans h.grown.output, by simp; omega, fun b hb hne => ?_⟩, h.ownO, v, ?_, hp.own.up (fun g hg _ => hset g (fun e => by have := (hp.own.lt hg).1; omega)), fun g hg hOg => ?_⟩, by simp; omega, fun b hb => ?_⟩
  · rw [hother b (fun e => hne (by rw [e])) (by omega) (fun e => by have := hown _ e; omega)]
    exact h.grown.block b hb hne
  · have := heap_setCell_same w1 Bx 0 #[va] 127 v (hB1.trans r1)
    rw [this]; rfl
  · rcases hp.blk with e | ⟨g', e, hge⟩
    · rw [e] at hg; exact r3 g hg hOg
    · rw [e] at hg; cases hg
      have := hO g hOg; omega
  · exact hother b (fun e => by have := h.ownO b hb; omega) (hO b hb) (fun e => r3 b e hb)
end

/- plain: what is mapped -/
section
variable {f : Int → Ex → Ex} {g : Int → Rf → Rf}
def exM (f : Int → Ex → Ex) (e : ExI) : ExI := (f e.2 e.1, e.2)
theorem zipIdx_mapIdx {α β : Type} (F : Nat → α → β) (l : List α) : (l.mapIdx F).zipIdx = l.zipIdx.map fun p => (F p.2 p.1, p.2) := by
  apply List.ext_getElem
  · simp
  · intro i h1 h2; simp
theorem letsE_mp (l : List LetD) : letsE (l.mapIdx (LetD.mp f)) = (letsE l).map (exM f) := by
  unfold letsE; rw [zipIdx_mapIdx, List.flatMap_map, List.map_flatMap]; rfl
theorem cropsE_mp (l : List CropD) : cropsE (l.mapIdx (CropD.mp f)) = (cropsE l).map (exM f) := by
  unfold cropsE; rw [zipIdx_mapIdx, List.flatMap_map, List.map_flatMap]; rfl
theorem reachesE_mp (l : List ReachD) : reachesE (l.mapIdx (ReachD.mp f g)) = (reachesE l).map (exM f) := by
  unfold reachesE; rw [zipIdx_mapIdx, List.flatMap_map, List.map_flatMap]; rfl
theorem farmsE_mp (l : List FarmD) : farmsE (l.mapIdx (FarmD.mp f g)) = (farmsE l).map (exM f) := by
  unfold farmsE; rw [zipIdx_mapIdx, List.flatMap_map, List.map_flatMap]; rfl
theorem turnsE_mp (l : List TurnD) : turnsE (l.mapIdx (TurnD.mp f g)) = (turnsE l).map (exM f) := by
  unfold turnsE; rw [zipIdx_mapIdx, List.flatMap_map, List.map_flatMap]; rfl
theorem rotsE_mp (l : List RotD) : rotsE (l.mapIdx (RotD.mp f g)) = (rotsE l).map (exM f) := by
  unfold rotsE; rw [zipIdx_mapIdx, List.flatMap_map, List.map_flatMap]
  congr 1
  funext p
  rw [List.map_append, ← turnsE_mp (g := g)]
  rfl
theorem rightsE_mp (l : List RightD) : rightsE (l.mapIdx (RightD.mp f g)) = (rightsE l).map (exM f) := by
  unfold rightsE; rw [zipIdx_mapIdx, List.flatMap_map, List.map_flatMap]; rfl
theorem dutiesE_mp (l : List DutyD) : dutiesE (l.mapIdx (DutyD.mp f g)) = (dutiesE l).map (exM f) := by
  unfold dutiesE; rw [zipIdx_mapIdx, List.flatMap_map, List.map_flatMap]; rfl
theorem allE_mp (x : Src) : allE (x.mp f g) = (allE x).map (exM f) := by
  unfold allE Src.mp
  simp only [List.map_append, ← letsE_mp, ← cropsE_mp, ← reachesE_mp (g := g), ← farmsE_mp (g := g), ← rotsE_mp (g := g), ← rightsE_mp (g := g), ← dutiesE_mp (g := g)]
  rfl
theorem all_mapIdx {α β : Type} {F : Nat → α → β} {l : List α} {p : β → Bool} {q : α → Bool} (h : l.all q = true) (hF : ∀ i d, q d = true → p (F i d) = true) : (l.mapIdx F).all p = true := by
  rw [List.all_eq_true] at h ⊢
  intro b hb
  obtain ⟨i, hi, rfl⟩ := List.mem_iff_getElem.1 hb
  rw [List.getElem_mapIdx]
  exact hF i _ (h _ (List.getElem_mem _))
end
section
variable {t : Tb}
theorem mapL_length (l : List Ex) : (mapL t l).length = l.length := by rw [mapL_eq]; simp
mutual
theorem depth_mapE : ∀ e : Ex, depthE (mapE t e) = depthE e
  | .mk op n u rn ri args => by rw [mapE, depthE, depthE, depth_mapL args]
theorem depth_mapL : ∀ l : List Ex, depthL (mapL t l) = depthL l
  | [] => rfl
  | e :: r => by rw [mapL, depthL, depthL, depth_mapE e, depth_mapL r]
end
theorem left_mapE (e : Ex) : leftE (mapE t e) = leftE e := by
  cases e with
  | mk op n u rn ri args =>
    rw [mapE]
    unfold leftE leftC
    simp only [Ex.op, Ex.n, Ex.u, Ex.rn, Ex.ri, Ex.args, mapL_length]
    by_cases h : op = 2
    · subst h; simp
    · rw [if_neg h]; rfl
theorem okT_gT {to at_ : Int} {r : Rf} (h : okT t to at_ r = true) : okT t to at_ (gT t to r) = true := by
  unfold gT
  by_cases h0 : to = 0
  · rw [if_pos h0]; exact h
  · rw [if_neg h0]
    unfold okT at h ⊢
    rw [if_neg h0] at h ⊢
    exact h
theorem okT_n {to at_ : Int} {rn : ByteArray} {ri rj : Int} (h0 : to ≠ 0) : okT t to at_ ⟨rn, ri⟩ = okT t to at_ ⟨rn, rj⟩ := by
  unfold okT; rw [if_neg h0, if_neg h0]
mutual
theorem ok_mapE (lt : Int) : ∀ e : Ex, okE t lt (mapE t e) = okE t lt e
  | .mk op n u rn ri args => by
    rw [mapE, okE, okE, mapL_length, ok_mapL lt args]
    by_cases h : op = 2
    · rw [if_pos h, okT_n (rj := ri) (by unfold toE; rw [if_pos h]; split <;> decide)]
    · rw [if_neg h]
theorem ok_mapL (lt : Int) : ∀ l : List Ex, okL t lt (mapL t l) = okL t lt l
  | [] => rfl
  | e :: r => by rw [mapL, okL, okL, ok_mapE lt e, ok_mapL lt r]
end
theorem fine_fT (e : ExI) : fineE t (exM (fT t) e) = fineE t e := by
  unfold fineE exM fT
  simp only
  by_cases h : leftE e.1 = true
  · simp [h]
  · rw [if_neg h, left_mapE, ok_mapE]
theorem depth_fT (lt : Int) (e : Ex) : depthE (fT t lt e) = depthE e := by
  unfold fT; split
  · rfl
  · exact depth_mapE e
theorem usesOk_mp {x : Src} (h : usesOk t x = true) : usesOk t (x.mp (fT t) (gT t)) = true := by
  unfold usesOk at h ⊢
  simp only [Bool.and_eq_true] at h ⊢
  obtain ⟨h1, h2, h3, h4, h5, h6⟩ := h
  refine ⟨?_, ?_, ?_, ?_, ?_, ?_⟩
  · rw [allE_mp, List.all_map]
    rw [List.all_eq_true] at h1 ⊢
    intro e he
    have := h1 e he
    simp only [Function.comp, fine_fT]; exact this
  · unfold kindsOk at h2 ⊢
    exact all_mapIdx h2 fun _ _ h => h
  · refine all_mapIdx h3 fun i d h => ?_
    unfold okFarm at h ⊢
    simp only [Bool.and_eq_true] at h ⊢
    exact ⟨okT_gT h.1, okT_gT h.2⟩
  · refine all_mapIdx h4 fun i d h => ?_
    unfold okRot at h ⊢
    simp only [Bool.and_eq_true] at h ⊢
    exact ⟨okT_gT h.1, all_mapIdx h.2 fun _ _ h => okT_gT h⟩
  · refine all_mapIdx h5 fun i d h => ?_
    unfold okRight at h ⊢
    simp only [Bool.and_eq_true] at h ⊢
    exact ⟨okT_gT h.1, okT_gT h.2⟩
  · refine all_mapIdx h6 fun i d h => ?_
    unfold okDuty at h ⊢
    simp only [Bool.and_eq_true] at h ⊢
    exact ⟨okT_gT h.1, okT_gT h.2⟩
theorem fits_mp {x : Src} (h : fitsAll x = true) : fitsAll (x.mp (fT t) (gT t)) = true := by
  unfold fitsAll at h ⊢
  simp only [Bool.and_eq_true] at h ⊢
  obtain ⟨h1, h2, h3⟩ := h
  refine ⟨?_, ?_, ?_⟩
  · unfold fits0 at h1 ⊢
    simpa [Src.mp] using h1
  · unfold fitsT at h2 ⊢
    refine all_mapIdx h2 fun i d h => ?_
    simpa [RotD.mp] using h
  · unfold deepOk at h3 ⊢
    rw [allE_mp, List.all_map]
    rw [List.all_eq_true] at h3 ⊢
    intro e he
    simpa [exM, depth_fT] using h3 e he
end
theorem wrong_zero {x : Src} (h : wrongS x = 0) : fitsAll x = true ∧ namesOk x = true ∧ onceOk x ∧ reachOk (Tb.of x) x = true ∧ usesOk (Tb.of x) x = true := by
  unfold wrongS at h
  by_cases h1 : fitsAll x = true
  · rw [if_pos h1] at h
    by_cases h2 : namesOk x = true
    · rw [if_pos h2] at h
      by_cases h3 : onceOk x
      · rw [if_pos h3] at h
        by_cases h4 : (reachOk (Tb.of x) x && usesOk (Tb.of x) x) = true
        · rw [Bool.and_eq_true] at h4; exact ⟨h1, h2, h3, h4⟩
        · rw [if_neg h4] at h; cases h
      · rw [if_neg h3] at h; cases h
    · rw [if_neg h2] at h; cases h
  · rw [if_neg h1] at h; cases h
theorem reaches_len (x : Src) : (resolved x).reaches.length = x.reaches.length := by unfold resolved Src.mp; simp

end Go.Proofs.Ytapejaabhkfhjaa

/- Texts Si Vd in one: each says what it proves. -/
import Derived.Test.YtapejaabhkfhjaaMSh
/- Check: the whole walk. -/
namespace Go.Proofs.Ytapejaabhkfhjaa
open Go.RowKit

def in1 (w : World) (cs : List Value) : World := w.alloc (.cells cs.toArray 35)
theorem chk_in {w w1 w2 : World} {x y : Src} {L L2 : Lay} {ks rs : List Value} {N N2 : Nat → Prop} (hb1 : Below w.heap.size w w1) (hz1 : w1.heap.size = w.heap.size + 1) (hs : SrcV N w1 L ks x) (hr : w1.rangeAt w.heap.size 0 ks) (hN : ∀ b, N b → b < w.heap.size) (hb2 : Below w1.heap.size w1 w2) (hs2 : SrcV N2 w2 L2 rs y) (hN2 : ∀ b, N2 b → b < w2.heap.size) :
    Placed (((w2.alloc (.cells rs.toArray 35)).alloc (.cells #[.slice none 0 0] 127)).alloc (.cells #[.slice none 0 0] 127)) w.heap.size (w2.heap.size + 1) x { L with s := w.heap.size } ks N ∧
    Placed (((w2.alloc (.cells rs.toArray 35)).alloc (.cells #[.slice none 0 0] 127)).alloc (.cells #[.slice none 0 0] 127)) w2.heap.size (w2.heap.size + 1) y { L2 with s := w2.heap.size } rs N2 ∧
    Below w.heap.size w (((w2.alloc (.cells rs.toArray 35)).alloc (.cells #[.slice none 0 0] 127)).alloc (.cells #[.slice none 0 0] 127)) ∧
    (((w2.alloc (.cells rs.toArray 35)).alloc (.cells #[.slice none 0 0] 127)).alloc (.cells #[.slice none 0 0] 127)).heap[w2.heap.size + 1]? = some (.cells #[.slice none 0 0] 127 (0, 0)) ∧
    (((w2.alloc (.cells rs.toArray 35)).alloc (.cells #[.slice none 0 0] 127)).alloc (.cells #[.slice none 0 0] 127)).heap[w2.heap.size + 2]? = some (.cells #[.slice none 0 0] 127 (0, 0)) := by
  have hz2 := hb2.size
  have q0 : (w2.alloc (.cells rs.toArray 35)).heap.size = w2.heap.size + 1 := by simp
  have q1 : ((w2.alloc (.cells rs.toArray 35)).alloc (.cells #[.slice none 0 0] 127)).heap.size = w2.heap.size + 2 := by simp
  obtain ⟨W, hW⟩ : ∃ W, W = ((w2.alloc (.cells rs.toArray 35)).alloc (.cells #[.slice none 0 0] 127)).alloc (.cells #[.slice none 0 0] 127) := ⟨_, rfl⟩
  rw [← hW]
  have hbW : Below w2.heap.size w2 W := by
    rw [hW]; exact (((Below.refl _ _).alloc (Nat.le_refl _) _).alloc (by simp) _).alloc (by simp; omega) _
  have h3 : W.heap[w2.heap.size]? = some (.cells rs.toArray 35 (0, 0)) := by
    rw [hW, Below.heap_alloc _ _ _ (by omega), Below.heap_alloc _ _ _ (by omega)]
    exact World.alloc_heap_new _ _
  have h4 : W.heap[w2.heap.size + 1]? = some (.cells #[.slice none 0 0] 127 (0, 0)) := by
    rw [hW, Below.heap_alloc _ _ _ (by omega)]
    have := World.alloc_heap_new (w2.alloc (.cells rs.toArray 35)) (.cells #[.slice none 0 0] 127)
    rwa [q0] at this
  have h5 : W.heap[w2.heap.size + 2]? = some (.cells #[.slice none 0 0] 127 (0, 0)) := by
    rw [hW]
    have := World.alloc_heap_new ((w2.alloc (.cells rs.toArray 35)).alloc (.cells #[.slice none 0 0] 127)) (.cells #[.slice none 0 0] 127)
    rwa [q1] at this
  have hbl : ∀ b, b < w1.heap.size → W.heap[b]? = w1.heap[b]? := fun b hb => (hbW.block b (by omega)).trans (hb2.block b hb)
  have hr3 : W.rangeAt w2.heap.size 0 rs := by
    have := World.rangeAt_of_block h3 0 rs.length
    simpa using this
  refine ⟨⟨?_, rfl, rangeAt_block hr (hbl _ (by omega)), fun b hb => ?_⟩, ⟨?_, rfl, hr3, fun b hb => ?_⟩, ?_, h4, h5⟩
  · have h := hs.same (N' := N) (w' := W) (fun _ h => h) (fun b hb => hbl b (by have := hN b hb; omega))
    exact ⟨h.name, h.cells, h.lets, h.crops, h.reaches, h.farms, h.rots, h.rights, h.duties⟩
  · rcases hb with rfl | hb
    · omega
    · have := hN b hb; omega
  · have h := hs2.same (N' := N2) (w' := W) (fun _ h => h) (fun b hb => hbW.block b (hN2 b hb))
    exact ⟨h.name, h.cells, h.lets, h.crops, h.reaches, h.farms, h.rots, h.rights, h.duties⟩
  · rcases hb with rfl | hb
    · omega
    · have := hN2 b hb; omega
  · exact (hb1.trans (hb2.mono (by omega))).trans (hbW.mono (by omega))
set_option maxRecDepth 100000 in
set_option maxHeartbeats 16000000 in
theorem check_any {w : World} {x : Src} {L : Lay} {cs : List Value} {N : Nat → Prop} (h : SrcV N w L cs x) (hN : ∀ b, N b → b < w.heap.size) (hsl : Slim x) (hg : GV w) (hd : ∀ e ∈ allE x, depthE e.1 ≤ 1000000) :
    Calls Try.prog 14 #[.agg cs.toArray] w fun e w' => e = .returned (.int .i64 (checkS x)) ∧ Below w.heap.size w w' := by
  obtain ⟨w1, hw1⟩ : ∃ w1, w1 = in1 w cs := ⟨_, rfl⟩
  have hb1 : Below w.heap.size w w1 := by rw [hw1]; exact (Below.refl _ _).alloc (Nat.le_refl _) _
  have hz1 : w1.heap.size = w.heap.size + 1 := by rw [hw1]; simp [in1]
  have hr1 : w1.rangeAt w.heap.size 0 cs := by
    rw [hw1]; unfold in1
    have := World.rangeAt_of_block (World.alloc_heap_new w (.cells cs.toArray 35)) 0 cs.length
    simpa using this
  have hs1 : SrcV N w1 L cs x := h.same (fun _ h => h) (fun b hb => hb1.block b (hN b hb))
  have HB1 := Lib.hid hb1; have HZ1 := Lib.hid hz1; have HR1 := Lib.hid hr1; have HS1 := Lib.hid hs1; have HN := Lib.hid hN
  have HRes := Lib.hid (resolve_any hs1 (fun b hb => by have := hN b hb; omega) hsl (hg.below hb1 hg.1) hd)
  have H26 : Hid ((Try.prog.info? 35).map (·.size) = some cs.length) := Lib.hid (by
    obtain ⟨c0, c1, c2, rfl, g0, g1, g2⟩ := h.cells
    obtain ⟨a0, p0, rfl, e0⟩ := g0.cells
    obtain ⟨a1, p1, rfl, e1⟩ := g1.cells
    obtain ⟨a2, p2, rfl, e2⟩ := g2.cells
    kernel_rfl)
  have HW1 := Lib.hid hw1
  clear hw1 hb1 hz1 hr1 hs1 hN hsl hg hd
  obtain ⟨ks, hks⟩ : ∃ ks, ks = cs := ⟨_, rfl⟩
  rw [← hks] at HR1 HS1 HRes H26
  have HK := Lib.hid hks
  obtain ⟨c0, c1, c2, rfl, g0, g1, g2⟩ := h.cells
  obtain ⟨a0, p0, rfl, e0⟩ := g0.cells
  obtain ⟨a1, p1, rfl, e1⟩ := g1.cells
  obtain ⟨a2, p2, rfl, e2⟩ := g2.cells
  clear h g0 g1 g2 e0 e1 e2 hks
  unfold Hdr.v at *
  simp only [List.cons_append, List.nil_append] at HW1 HK ⊢
  refine calls_of_wpAt_marks (n := 10) Try.func14 rfl ?_
  have hQ := cpost_mk w x
  generalize bodyPostM Fence.wide 10 Try.prog Try.f14 _ = Q at hQ ⊢
  have HQ := Lib.hid hQ
  clear hQ
  simp only [Try.ntmps14, List.size_toArray, List.length_cons, List.length_nil, Nat.reduceAdd, Nat.reduceSub, Array.replicate_succ, Array.replicate_zero, List.push_toArray, List.append_toArray, List.nil_append, List.cons_append]
  refine wpAt_seq (wpAt_of_wp ?_)
  go_wp2
  have e1 := HW1.out
  unfold in1 at e1
  rw [← e1, ← HK.out]
  clear e1
  refine wpAt_seq (wpAt_of_wp ?_)
  go_upto_region 1 with fail
  refine wp_region_lit ?_
  refine wpList_load_mid rfl 35 _ rfl w.heap.size 0 rfl ks _ HR1.out Try.underlying35 rfl H26.out ?_
  refine wpList_plain rfl fun K hK => ?_
  go_simp
  refine HRes.out.mono ?_
  intro e w2 hres
  obtain ⟨rs, rfl, h26, hone, hb2, hsr⟩ := res_row hres
  clear hres
  refine hK _ _ ?_
  clear hK K
  have HL26 := Lib.hid h26; have HOne := Lib.hid (all_oneCell_toArray hone); have HB2 := Lib.hid hb2; have HSr := Lib.hid hsr
  clear h26 hone hb2 hsr
  refine wpList_plain rfl fun K hK => ?_
  go_simp
  refine hK _ _ ?_
  clear hK K
  refine wpList_plain rfl fun K hK => ?_
  go_simp
  refine hK _ _ ?_
  clear hK K
  refine wpList_plain rfl fun K hK => ?_
  go_simp
  refine hK _ _ ?_
  clear hK K
  refine wpList_plain rfl fun K hK => ?_
  go_simp
  refine hK _ _ ?_
  clear hK K
  refine wpList_store_row rfl 35 _ _ rfl w2.heap.size rs.toArray rfl rfl 35 _ (World.alloc_heap_new _ _) (by rw [List.size_toArray, HL26.out]; kernel_rfl) (by simp [HL26.out]) HOne.out ?_
  rw [World.setRow_alloc_new]
  refine wpList_plain rfl fun K hK => ?_
  go_simp
  refine hK _ _ ?_
  clear hK K
  refine wpList_nil ?_
  by_cases hc : wrongS x = 0
  · have HSr2 := Lib.hid (HSr.out hc)
    have HC0 := Lib.hid hc
    simp only [hc]
    clear hc
    refine wpAt_seq (wpAt_of_wp ?_)
    go_wp2
    refine wpAt_seq (wpAt_of_wp ?_)
    go_wp2
    obtain ⟨L2, N2, s2, n2⟩ := HSr2.out
    obtain ⟨k1, k2, k3, k4, k5⟩ := chk_in HB1.out HZ1.out HS1.out HR1.out HN.out HB2.out s2 (fun b hb => (n2 b hb).2)
    obtain ⟨z1, _, _, _, z5⟩ := wrong_zero HC0.out
    exact chk_a (base := w2.heap.size + 3) HQ.out HC0.out k1 k2 (by omega) (by omega) k3 (by simp) ⟨_, k4⟩ k4 k5 (refsA_le z1 z5) (refsA_le (fits_mp z1) (usesOk_mp z5)) _ _ _ _ _ _ _ _ _ _ _ _ _ _ _ _ _ _ _ _ _ _ _ _ _ _ _ _ _ _ _ _ _ _ _ _ _ _ _ _ _ _ _ _ _ _ _ _ _ _ _ _ _ _ _ _ _ _ _
  · have HCk : Hid (checkS x = wrongS x) := Lib.hid (by unfold checkS; rw [if_neg hc])
    generalize wrongS x = c at hc HCk ⊢
    have hne : (c != 0) = true := by simpa using hc
    refine wpAt_seq (wpAt_of_wp ?_)
    go_wp2
    exact HQ.out.early c _ _ rfl ((HB1.out.trans (HB2.out.mono (by have := HZ1.out; omega))).alloc (by have := HB2.out.size; have := HZ1.out; omega) _) HCk.out

end Go.Proofs.Ytapejaabhkfhjaa

/- A source without its last rights and duties is as right as the source. -/
namespace Go.Proofs.Ytapejaabhkfhjaa
open Go.RowKit

def cutX (x : Src) (a b : Nat) : Src := { x with rights := x.rights.take a, duties := x.duties.take b }
section
variable {f : Int → Ex → Ex} {g : Int → Rf → Rf}
theorem zip_take {α : Type} (l : List α) (n : Nat) : (l.take n).zipIdx = l.zipIdx.take n := by
  apply List.ext_getElem
  · simp
  · intro i h1 h2; simp
theorem mem_flat_take {α β : Type} {l : List α} {n : Nat} {h : α → List β} {b : β} (hb : b ∈ (l.take n).flatMap h) : b ∈ l.flatMap h := by
  obtain ⟨a, ha, hb⟩ := List.mem_flatMap.1 hb
  exact List.mem_flatMap.2 ⟨a, List.mem_of_mem_take ha, hb⟩
theorem allE_cut {x : Src} {a b : Nat} : ∀ e ∈ allE (cutX x a b), e ∈ allE x := by
  intro e he
  unfold allE at he ⊢
  simp only [List.mem_append] at he ⊢
  rcases he with h | h | h | h | h | h | h | h
  · exact .inl h
  · exact .inr (.inl h)
  · exact .inr (.inr (.inl h))
  · exact .inr (.inr (.inr (.inl h)))
  · exact .inr (.inr (.inr (.inr (.inl h))))
  · exact .inr (.inr (.inr (.inr (.inr (.inl h)))))
  · refine .inr (.inr (.inr (.inr (.inr (.inr (.inl ?_))))))
    unfold rightsE at h ⊢
    unfold cutX at h
    rw [zip_take] at h
    exact mem_flat_take h
  · refine .inr (.inr (.inr (.inr (.inr (.inr (.inr ?_))))))
    unfold dutiesE at h ⊢
    unfold cutX at h
    rw [zip_take] at h
    exact mem_flat_take h
theorem all_sub {α : Type} {l m : List α} {p : α → Bool} (h : l.all p = true) (hs : ∀ a ∈ m, a ∈ l) : m.all p = true := by
  rw [List.all_eq_true] at h ⊢
  exact fun a ha => h a (hs a ha)
theorem take_sub {α : Type} {l : List α} {n : Nat} : ∀ a ∈ l.take n, a ∈ l := fun _ h => List.mem_of_mem_take h
theorem map_take_sub {α β : Type} {l : List α} {n : Nat} {h : α → β} : ∀ b ∈ (l.take n).map h, b ∈ l.map h := by
  intro b hb
  obtain ⟨a, ha, rfl⟩ := List.mem_map.1 hb
  exact List.mem_map.2 ⟨a, List.mem_of_mem_take ha, rfl⟩
theorem wrong_cut {x : Src} (h : wrongS x = 0) (a b : Nat) : wrongS (cutX x a b) = 0 := by
  obtain ⟨h1, h2, h3, h4, h5⟩ := wrong_zero h
  have k1 : fitsAll (cutX x a b) = true := by
    unfold fitsAll at h1 ⊢
    simp only [Bool.and_eq_true] at h1 ⊢
    refine ⟨?_, h1.2.1, ?_⟩
    · have h := h1.1
      unfold fits0 at h ⊢
      simp only [Bool.and_eq_true, decide_eq_true_eq] at h ⊢
      have e1 : (cutX x a b).rights.length ≤ x.rights.length := by simp [cutX]; omega
      have e2 : (cutX x a b).duties.length ≤ x.duties.length := by simp [cutX]; omega
      exact ⟨h.1, h.2.1, h.2.2.1, h.2.2.2.1, h.2.2.2.2.1, Nat.le_trans e1 h.2.2.2.2.2.1, Nat.le_trans e2 h.2.2.2.2.2.2⟩
    · exact all_sub h1.2.2 allE_cut
  have k2 : namesOk (cutX x a b) = true := by
    unfold namesOk at h2 ⊢
    simp only [Bool.and_eq_true] at h2 ⊢
    obtain ⟨a0, a1, a2, a3, a4, a5, a6, a7⟩ := h2
    exact ⟨a0, a1, a2, a3, a4, a5, all_sub a6 map_take_sub, all_sub a7 map_take_sub⟩
  have k3 : onceOk (cutX x a b) := by
    obtain ⟨a1, a2, a3, a4, a5, a6⟩ := h3
    refine ⟨a1, a2, a3, a4, ?_, ?_⟩
    · unfold rightNames at a5 ⊢
      refine a5.sublist (List.Sublist.append (List.Sublist.refl _) ?_)
      exact (List.take_sublist _ _).map _
    · exact a6.sublist ((List.take_sublist _ _).map _)
  have k5 : usesOk (Tb.of x) (cutX x a b) = true := by
    unfold usesOk at h5 ⊢
    simp only [Bool.and_eq_true] at h5 ⊢
    obtain ⟨b1, b2, b3, b4, b5, b6⟩ := h5
    exact ⟨all_sub b1 allE_cut, all_sub b2 take_sub, b3, b4, all_sub b5 take_sub, all_sub b6 take_sub⟩
  unfold wrongS
  have e : Tb.of (cutX x a b) = Tb.of x := rfl
  have e4 : reachOk (Tb.of x) (cutX x a b) = true := h4
  rw [if_pos k1, if_pos k2, if_pos k3, e, e4, k5]
  rfl
/- the references agree -/
theorem flat_eq {α β : Type} {p q : α → List β} : ∀ {l : List α}, (∀ a ∈ l, (p a).length = (q a).length) → l.flatMap p = l.flatMap q → ∀ a ∈ l, p a = q a
  | [], _, _ => by simp
  | a :: l, hl, h => by
    rw [List.flatMap_cons, List.flatMap_cons] at h
    obtain ⟨h1, h2⟩ := List.append_inj h (hl a (by simp))
    intro b hb
    rcases List.mem_cons.1 hb with rfl | hb
    · exact h1
    · exact flat_eq (fun c hc => hl c (by simp [hc])) h2 b hb
theorem flat_len_eq {α β : Type} {p q : α → List β} : ∀ {l : List α}, (∀ a ∈ l, (p a).length = (q a).length) → (l.flatMap p).length = (l.flatMap q).length
  | [], _ => rfl
  | a :: l, hl => by
    rw [List.flatMap_cons, List.flatMap_cons, List.length_append, List.length_append, hl a (by simp), flat_len_eq fun c hc => hl c (by simp [hc])]
theorem flat_congr {α β : Type} {p q : α → List β} : ∀ {l : List α}, (∀ a ∈ l, p a = q a) → l.flatMap p = l.flatMap q
  | [], _ => rfl
  | a :: l, h => by rw [List.flatMap_cons, List.flatMap_cons, h a (by simp), flat_congr fun c hc => h c (by simp [hc])]
theorem mapIdx_flat {α β : Type} {F : Nat → α → α} {h : α → List β} (hF : ∀ i d, F i d = F 0 d) : ∀ l : List α, (l.mapIdx F).flatMap h = l.flatMap fun d => h (F 0 d) := by
  intro l
  have e : l.mapIdx F = l.map (F 0) := by
    apply List.ext_getElem
    · simp
    · intro i h1 h2; simp; exact hF i _
  rw [e, List.flatMap_map]
end
section
variable {t : Tb}
mutual
theorem refs_lenE : ∀ e : Ex, (refsE (mapE t e)).length = (refsE e).length
  | .mk op n u rn ri args => by rw [mapE, refsE, refsE, List.length_cons, List.length_cons, refs_lenL args]
theorem refs_lenL : ∀ l : List Ex, (refsEL (mapL t l)).length = (refsEL l).length
  | [] => rfl
  | e :: r => by rw [mapL, refsEL, refsEL, List.length_append, List.length_append, refs_lenE e, refs_lenL r]
end
theorem refs_lenT (e : ExI) : (refsTop (exM (fT t) e)).length = (refsTop e).length := by
  unfold refsTop exM fT
  simp only
  by_cases h : leftE e.1 = true
  · simp [h]
  · rw [if_neg h, left_mapE, if_neg h, if_neg h, refs_lenE]
structure Agree (t : Tb) (x : Src) : Prop where
  exprs : ∀ e ∈ allE x, refsTop e = refsTop (exM (fT t) e)
  farms : x.farms.flatMap refsFarm = x.farms.flatMap fun d => refsFarm (FarmD.mp (fT t) (gT t) 0 d)
  rots : x.rots.flatMap refsRot = x.rots.flatMap fun d => refsRot (RotD.mp (fT t) (gT t) 0 d)
  rights : ∀ d ∈ x.rights, refsRight d = refsRight (RightD.mp (fT t) (gT t) 0 d)
  duties : ∀ d ∈ x.duties, refsDuty d = refsDuty (DutyD.mp (fT t) (gT t) 0 d)
  reaches : x.reaches.map (·.frm) = (x.reaches.mapIdx (ReachD.mp (fT t) (gT t))).map (·.frm)
theorem refsA_mp (x : Src) : refsA (x.mp (fT t) (gT t)) = ((allE x).flatMap fun e => refsTop (exM (fT t) e)) ++ (((x.farms.flatMap fun d => refsFarm (FarmD.mp (fT t) (gT t) 0 d)) ++ (x.rots.flatMap fun d => refsRot (RotD.mp (fT t) (gT t) 0 d))) ++ (x.rights.flatMap fun d => refsRight (RightD.mp (fT t) (gT t) 0 d)) ++ (x.duties.flatMap fun d => refsDuty (DutyD.mp (fT t) (gT t) 0 d))) ++ (x.reaches.mapIdx (ReachD.mp (fT t) (gT t))).map (·.frm) := by
  unfold refsA refsU
  rw [allE_mp, List.flatMap_map]
  unfold Src.mp
  simp only
  rw [mapIdx_flat (fun _ _ => rfl) x.farms, mapIdx_flat (fun _ _ => rfl) x.rots, mapIdx_flat (fun _ _ => rfl) x.rights, mapIdx_flat (fun _ _ => rfl) x.duties]
theorem refs_lenRot (d : RotD) : (refsRot d).length = (refsRot (RotD.mp (fT t) (gT t) 0 d)).length := by
  unfold refsRot RotD.mp
  simp only [List.length_cons]
  rw [mapIdx_flat (fun _ _ => rfl) d.turns, flat_len_eq (p := fun k : TurnD => [k.farm]) (q := fun k => [(TurnD.mp (fT t) (gT t) 0 k).farm]) (fun _ _ => rfl)]
theorem agree_iff (x : Src) : refsA x = refsA (x.mp (fT t) (gT t)) ↔ Agree t x := by
  constructor
  · intro h
    rw [refsA_mp] at h
    unfold refsA refsU at h
    have l0 : ((allE x).flatMap refsTop).length = ((allE x).flatMap fun e => refsTop (exM (fT t) e)).length := flat_len_eq fun e _ => (refs_lenT e).symm
    have l1 : (x.farms.flatMap refsFarm).length = (x.farms.flatMap fun d => refsFarm (FarmD.mp (fT t) (gT t) 0 d)).length := flat_len_eq fun _ _ => rfl
    have l2 : (x.rots.flatMap refsRot).length = (x.rots.flatMap fun d => refsRot (RotD.mp (fT t) (gT t) 0 d)).length := flat_len_eq fun d _ => refs_lenRot d
    have l3 : (x.rights.flatMap refsRight).length = (x.rights.flatMap fun d => refsRight (RightD.mp (fT t) (gT t) 0 d)).length := flat_len_eq fun _ _ => rfl
    have l4 : (x.duties.flatMap refsDuty).length = (x.duties.flatMap fun d => refsDuty (DutyD.mp (fT t) (gT t) 0 d)).length := flat_len_eq fun _ _ => rfl
    obtain ⟨h1, h6⟩ := List.append_inj h (by simp only [List.length_append, l0, l1, l2, l3, l4])
    obtain ⟨h1, h2⟩ := List.append_inj h1 l0
    obtain ⟨h2, h5⟩ := List.append_inj h2 (by simp only [List.length_append, l1, l2, l3])
    obtain ⟨h2, h4⟩ := List.append_inj h2 (by simp only [List.length_append, l1, l2])
    obtain ⟨h2, h3⟩ := List.append_inj h2 l1
    exact ⟨flat_eq (fun e _ => (refs_lenT e).symm) h1, h2, h3, flat_eq (fun _ _ => rfl) h4, flat_eq (fun _ _ => rfl) h5, h6⟩
  · intro h
    rw [refsA_mp]
    unfold refsA refsU
    rw [flat_congr h.exprs, h.farms, h.rots, flat_congr h.rights, flat_congr h.duties, h.reaches]
end
theorem check_cut {x : Src} (h : checkS x = 0) (a b : Nat) : checkS (cutX x a b) = 0 := by
  unfold checkS at h ⊢
  by_cases h0 : wrongS x = 0
  · rw [if_pos h0] at h
    rw [if_pos (wrong_cut h0 a b)]
    by_cases hr : refsA x = refsA (resolved x)
    · have hA := (agree_iff (t := Tb.of x) x).1 hr
      have : refsA (cutX x a b) = refsA (resolved (cutX x a b)) := by
        show refsA (cutX x a b) = refsA ((cutX x a b).mp (fT (Tb.of x)) (gT (Tb.of x)))
        exact (agree_iff (t := Tb.of x) (cutX x a b)).2 ⟨fun e he => hA.exprs e (allE_cut e he), hA.farms, hA.rots, fun d hd => hA.rights d (List.mem_of_mem_take hd), fun d hd => hA.duties d (List.mem_of_mem_take hd), hA.reaches⟩
      rw [if_pos this]
    · rw [if_neg hr] at h; cases h
  · rw [if_neg h0] at h; exact absurd h h0

end Go.Proofs.Ytapejaabhkfhjaa

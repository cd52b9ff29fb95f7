/- The reference's Few (printed by gen_vc.py). -/
import Derived.Test.YtapejaabhkfhjaaMVb
namespace Go.Proofs.Ytapejaabhkfhjaa
open Go.RowKit

def fewN : List Ex → Int → Int
  | [], n => n
  | e :: r, n => if n ≤ 5000 then fewN r (n + szE e 5001) else n
def lensB (x : Src) : Bool := decide (x.lets.length ≤ 100) && (decide (x.crops.length ≤ 100) && (decide (x.reaches.length ≤ 100) && (decide (x.farms.length ≤ 100) && (decide (x.rots.length ≤ 70) && (decide (x.rights.length ≤ 300) && decide (x.duties.length ≤ 300))))))
def turnsB (l : List RotD) : Bool := l.all fun d => decide (d.turns.length ≤ 70)
def fewB (x : Src) : Bool := lensB x && (turnsB x.rots && decide (fewN (topE x) 0 ≤ 5000))
theorem fewN_le : ∀ (l : List Ex) (n : Int), n ≤ fewN l n
  | [], n => by rw [fewN]; omega
  | e :: r, n => by
    rw [fewN]
    split
    · have h1 := (szE_le e 5001).1
      have h2 := fewN_le r (n + szE e 5001)
      omega
    · omega
theorem fewN_all : ∀ (l : List Ex) (n : Int), 0 ≤ n → fewN l n ≤ 5000 → ∀ e ∈ l, szE e 5001 < 5001
  | [], n, _, _ => by simp
  | e :: r, n, hn, h => by
    rw [fewN] at h
    split at h
    · have h1 := (szE_le e 5001).1
      have h2 := fewN_le r (n + szE e 5001)
      intro d hd
      rcases List.mem_cons.1 hd with rfl | hd
      · omega
      · exact fewN_all r _ (by omega) h d hd
    · omega
theorem top_mem (x : Src) : ∀ p ∈ allE x, p.1 ∈ topE x := by
  intro p hp
  unfold topE top7 top6 top5 top4 top3 top2 top1
  unfold allE letsE cropsE reachesE farmsE rotsE turnsE rightsE dutiesE at hp
  have zi : ∀ {α : Type} {l : List α} {a : α} {i : Nat}, (a, i) ∈ l.zipIdx → a ∈ l := fun h => by
    obtain ⟨_, h2, h3⟩ := List.mem_zipIdx h
    exact h3 ▸ List.getElem_mem _
  simp only [List.mem_append, List.mem_flatMap, List.mem_cons, List.not_mem_nil, or_false, Prod.exists] at hp ⊢
  rcases hp with (rfl | rfl | rfl) | ⟨d, i, hm, rfl⟩ | ⟨d, i, hm, rfl⟩ | ⟨d, i, hm, h⟩ | ⟨d, i, hm, rfl⟩ | ⟨d, i, hm, h⟩ | ⟨d, i, hm, h⟩ | ⟨d, i, hm, rfl⟩
  · simp
  · simp
  · simp
  · exact .inl (.inl (.inl (.inl (.inl (.inl (.inl ⟨d, zi hm, rfl⟩))))))
  · exact .inl (.inl (.inl (.inl (.inl (.inr ⟨d, zi hm, rfl⟩)))))
  · refine .inl (.inl (.inl (.inl (.inr ⟨d, zi hm, ?_⟩))))
    unfold reach8
    rcases h with rfl | rfl | rfl | rfl | rfl | rfl | rfl | rfl <;> simp
  · exact .inl (.inl (.inl (.inr ⟨d, zi hm, rfl⟩)))
  · refine .inl (.inl (.inr ⟨d, zi hm, ?_⟩))
    unfold rotT
    simp only [List.mem_append, List.mem_flatMap, List.mem_cons, List.not_mem_nil, or_false]
    rcases h with (rfl | rfl | rfl) | ⟨k, j, hk, rfl⟩
    · simp
    · simp
    · simp
    · exact .inr ⟨k, zi hk, rfl⟩
  · refine .inl (.inr ⟨d, zi hm, ?_⟩)
    unfold right5
    rcases h with rfl | rfl | rfl | rfl | rfl <;> simp
  · exact .inr ⟨d, zi hm, rfl⟩
theorem few_fw {x : Src} (h : lensB x = true) (ht : turnsB x.rots = true) : Fw x := by
  unfold lensB at h
  simp only [Bool.and_eq_true, decide_eq_true_eq] at h
  unfold turnsB at ht
  rw [List.all_eq_true] at ht
  obtain ⟨h1, h2, h3, h4, h5, h6, h7⟩ := h
  exact ⟨h1, h2, h3, h4, h5, h6, h7, fun d hd => by simpa using ht d hd⟩
/- what Few makes sure of -/
theorem few_slim {x : Src} (h : fewB x = true) : Slim x ∧ ∀ e ∈ allE x, depthE e.1 ≤ 1000000 := by
  unfold fewB at h
  simp only [Bool.and_eq_true, decide_eq_true_eq] at h
  obtain ⟨h1, h2, h3⟩ := h
  have hf := few_fw h1 h2
  have ha := fewN_all (topE x) 0 (by omega) h3
  refine ⟨⟨by have := hf.lets; omega, by have := hf.crops; omega, by have := hf.reaches; omega, by have := hf.farms; omega, by have := hf.rots; omega, by have := hf.rights; omega, by have := hf.duties; omega, fun d hd => by have := hf.turns d hd; omega, fun e he => ?_⟩, fun e he => ?_⟩
  · exact szE_slim e.1 5001 (by omega) (ha _ (top_mem x e he))
  · have h1 := ha _ (top_mem x e he)
    have h2 := szE_deep e.1 5001 h1
    omega

set_option maxRecDepth 100000 in
set_option maxHeartbeats 32000000 in
theorem few_any {N : Nat → Prop} {w : World} {L : Lay} {cs : List Value} {x : Src} (h : SrcV N w L cs x) (hN : ∀ b, N b → b < w.heap.size) :
    Calls Try.prog 10 #[.agg cs.toArray] w fun e w' => e = .returned (.bool (fewB x)) ∧ Below w.heap.size w w' := by
  have HLn : Hid (Lens L x) := Lib.hid ⟨h.lets.1, h.crops.1, h.reaches.1, h.farms.1, h.rots.1, h.rights.1, h.duties.1⟩
  have hok := h.ok
  have HCa := h.at
  obtain ⟨w0, hw0⟩ : ∃ w0, w0 = w.alloc (.cells cs.toArray 35) := ⟨_, rfl⟩
  have hb0 : Below w.heap.size w w0 := by rw [hw0]; exact (Below.refl _ _).alloc (Nat.le_refl _) _
  have hz0 : w0.heap.size = w.heap.size + 1 := by rw [hw0]; simp
  have hbx : w0.heap[w.heap.size]? = some (.cells cs.toArray 35 (0, 0)) := by rw [hw0]; exact World.alloc_heap_new _ _
  have h0 : SrcV N w0 L cs x := h.same (fun _ h => h) (fun b hb => hb0.block b (hN b hb))
  have HS0 := Lib.hid h0
  have HB0 := Lib.hid hb0; have HZ0 := Lib.hid hz0; have HNw := Lib.hid hN; have HOk := Lib.hid hok
  have HR0 : Hid (w0.rangeAt w.heap.size 0 cs) := Lib.hid (by
    have := World.rangeAt_of_block hbx 0 cs.length
    simpa using this)
  have hcell : ∀ q v, cs[q]? = some v → w0.cell? ⟨w.heap.size, q, none⟩ = some v := fun q v hq => by
    simp only [World.cell?, hbx]; simpa using hq
  have H26 : Hid ((Try.prog.info? 35).map (·.size) = some cs.length) := Lib.hid (by
    obtain ⟨c0, c1, c2, rfl, g0, g1, g2⟩ := h.cells
    obtain ⟨a0, p0, rfl, e0⟩ := g0.cells
    obtain ⟨a1, p1, rfl, e1⟩ := g1.cells
    obtain ⟨a2, p2, rfl, e2⟩ := g2.cells
    kernel_rfl)
  have c4 : w0.cell? ⟨w.heap.size, 19, none⟩ = some (.slice L.lets.a L.lets.n L.lets.c) := hcell _ _ HCa.lets
  have c5 : w0.cell? ⟨w.heap.size, 20, none⟩ = some (.slice L.crops.a L.crops.n L.crops.c) := hcell _ _ HCa.crops
  have c6 : w0.cell? ⟨w.heap.size, 21, none⟩ = some (.slice L.reaches.a L.reaches.n L.reaches.c) := hcell _ _ HCa.reaches
  have c7 : w0.cell? ⟨w.heap.size, 22, none⟩ = some (.slice L.farms.a L.farms.n L.farms.c) := hcell _ _ HCa.farms
  have c8 : w0.cell? ⟨w.heap.size, 23, none⟩ = some (.slice L.rots.a L.rots.n L.rots.c) := hcell _ _ HCa.rots
  have c9 : w0.cell? ⟨w.heap.size, 24, none⟩ = some (.slice L.rights.a L.rights.n L.rights.c) := hcell _ _ HCa.rights
  have c10 : w0.cell? ⟨w.heap.size, 25, none⟩ = some (.slice L.duties.a L.duties.n L.duties.c) := hcell _ _ HCa.duties
  have HC8 := Lib.hid c8
  have l4 : L.lets.n ≤ 140737488355328 := hok.lets.1
  have l5 : L.crops.n ≤ 140737488355328 := hok.crops.1
  have l6 : L.reaches.n ≤ 140737488355328 := hok.reaches.1
  have l7 : L.farms.n ≤ 140737488355328 := hok.farms.1
  have l8 : L.rots.n ≤ 140737488355328 := hok.rots.1
  have l9 : L.rights.n ≤ 140737488355328 := hok.rights.1
  have l10 : L.duties.n ≤ 140737488355328 := hok.duties.1
  have HW0 := Lib.hid hw0
  clear hb0 hz0 hbx h0 hN hw0 HCa hok hcell
  obtain ⟨ks, hks⟩ : ∃ ks, ks = cs := ⟨_, rfl⟩
  rw [← hks] at HS0 HR0 H26
  have HK := Lib.hid hks
  obtain ⟨q0, q1, q2, rfl, g0, g1, g2⟩ := h.cells
  obtain ⟨a0, p0, rfl, e0⟩ := g0.cells
  obtain ⟨a1, p1, rfl, e1⟩ := g1.cells
  obtain ⟨a2, p2, rfl, e2⟩ := g2.cells
  clear h g0 g1 g2 e0 e1 e2 hks
  unfold Hdr.v at *
  simp only [List.cons_append, List.nil_append] at HW0 HK ⊢
  go_enter Try.func10, Try.ntmps10
  go_upto_region 1 with fail
  rw [← HW0.out]
  by_cases hk0 : L.lets.n ≤ 100
  · have hd0 : decide ((L.lets.n : Int) > 100) = false := by simp; omega
    by_cases hk1 : L.crops.n ≤ 100
    · have hd1 : decide ((L.crops.n : Int) > 100) = false := by simp; omega
      by_cases hk2 : L.reaches.n ≤ 100
      · have hd2 : decide ((L.reaches.n : Int) > 100) = false := by simp; omega
        by_cases hk3 : L.farms.n ≤ 100
        · have hd3 : decide ((L.farms.n : Int) > 100) = false := by simp; omega
          by_cases hk4 : L.rots.n ≤ 70
          · have hd4 : decide ((L.rots.n : Int) > 70) = false := by simp; omega
            by_cases hk5 : L.rights.n ≤ 300
            · have hd5 : decide ((L.rights.n : Int) > 300) = false := by simp; omega
              by_cases hk6 : L.duties.n ≤ 300
              · have hd6 : decide ((L.duties.n : Int) > 300) = false := by simp; omega
                have HLB : Hid (lensB x = true) := Lib.hid (by
                  have h1 := HLn.out.lets; have h2 := HLn.out.crops; have h3 := HLn.out.reaches; have h4 := HLn.out.farms; have h5 := HLn.out.rots; have h6 := HLn.out.rights; have h7 := HLn.out.duties
                  unfold lensB
                  simp only [Bool.and_eq_true, decide_eq_true_eq]
                  omega)
                clear hk0 hk1 hk2 hk3 hk4 hk5 hk6
                go_upto_region 3 with fail
                clear hd0 hd1 hd2 hd3 hd4 hd5 hd6 c4 c5 c6 c7 c8 c9 c10
                go_wp2
                have HT0 : Hid (turnsB (x.rots.take 0) = true) := Lib.hid (by simp [turnsB])
                have HBr0 := Lib.hid (Below.refl w0.heap.size w0)
                go_loopw [3] (fun iv wr => ∃ i : Nat, i ≤ L.rots.n ∧ iv = .int .i64 i ∧ Hid (turnsB (x.rots.take i) = true) ∧ Hid (Below w0.heap.size w0 wr)) (fun iv _ => L.rots.n - (intOf iv).toNat)
                case atStart => exact ⟨0, Nat.zero_le _, rfl, HT0, HBr0⟩
                case round =>
                  clear HT0 HBr0
                  obtain ⟨i, hi, rfl, HT, HBr⟩ := hrel
                  have hf : wr.cell? ⟨w.heap.size, 23, none⟩ = some (.slice L.rots.a L.rots.n L.rots.c) := (HBr.out.cell (p := ⟨w.heap.size, 23, none⟩) (by rw [HZ0.out]; exact Nat.lt_succ_self _)).trans HC8.out
                  by_cases hlt : i < L.rots.n
                  · have hil : i < x.rots.length := by rw [← HLn.out.rots]; exact hlt
                    have hki : (i : Int) < (L.rots.n : Int) := by omega
                    obtain ⟨b, o, R, he, hNb, hRl, hra, hv⟩ := HS0.out.rots.2.2 i hil
                    have hra' := rangeAt_block hra (HBr.out.block b (by have := HNw.out b hNb; have := HZ0.out; omega))
                    have hz : R[22]? = some (turnsOf L i).v ∧ (turnsOf L i).n = x.rots[i].turns.length ∧ x.rots[i].turns.length ≤ 140737488355328 := by
                      obtain ⟨_, _, d0, d1, d2, rfl, k0, k1, k2, ht⟩ := hv
                      have l0 := k0.len; have l1 := k1.len; have l2 := k2.len
                      refine ⟨?_, ht.1, ht.2.1⟩
                      have e : (Value.string x.rots[i].name :: (rfV x.rots[i].on ++ (.int .i64 x.rots[i].rank :: (d0 ++ (d1 ++ (d2 ++ [(turnsOf L i).v])))))) = (Value.string x.rots[i].name :: (rfV x.rots[i].on ++ (.int .i64 x.rots[i].rank :: (d0 ++ (d1 ++ d2))))) ++ [(turnsOf L i).v] := by simp
                      rw [e, List.getElem?_append_right (by simp [rfV_len, l0, l1, l2])]
                      simp [rfV_len, l0, l1, l2]
                    have ct : wr.cell? ⟨b, o + i * 23 + 22, none⟩ = some (.slice (turnsOf L i).a (turnsOf L i).n (turnsOf L i).c) := hra' 22 _ hz.1
                    have lt : (turnsOf L i).n ≤ 140737488355328 := by rw [hz.2.1]; exact hz.2.2
                    rw [he] at hf
                    by_cases hk : (turnsOf L i).n ≤ 70
                    · have hdt : decide (((turnsOf L i).n : Int) > 70) = false := by simp; omega
                      have HT2 : Hid (turnsB (x.rots.take (i + 1)) = true) := Lib.hid (by
                        have h := HT.out
                        unfold turnsB at h ⊢
                        rw [List.take_succ_eq_append_getElem hil, List.all_append, h]
                        have : x.rots[i].turns.length ≤ 70 := by rw [← hz.2.1]; exact hk
                        simp [this])
                      clear hk hra hra' hz he hv hRl hNb
                      go_wp2
                      exact ⟨⟨i + 1, by omega, by push_cast; rfl, HT2, HBr⟩, by simp [intOf]; omega⟩
                    · have hdt : decide (((turnsOf L i).n : Int) > 70) = true := by simp; omega
                      have HF : Hid (fewB x = false) := Lib.hid (by
                        have e : turnsB x.rots = false := by
                          unfold turnsB
                          rw [List.all_eq_false]
                          exact ⟨x.rots[i], List.getElem_mem hil, by rw [← hz.2.1]; simpa using hk⟩
                        unfold fewB
                        rw [e]; simp)
                      clear hk hra hra' hz he hv hRl hNb
                      go_wp2
                      go_ret
                      exact ⟨ret_bool HF.out.symm, HB0.out.trans (HBr.out.mono HB0.out.size)⟩
                  · obtain rfl : i = L.rots.n := by omega
                    have hki : decide ((L.rots.n : Int) < (L.rots.n : Int)) = false := by simp
                    have HTB : Hid (turnsB x.rots = true) := Lib.hid (by
                      have h := HT.out
                      rw [HLn.out.rots, List.take_length] at h
                      exact h)
                    have HRg := Lib.hid (rangeAt_block HR0.out (HBr.out.block w.heap.size (by rw [HZ0.out]; exact Nat.lt_succ_self _)))
                    have HSr : Hid (SrcV N wr L ks x) := Lib.hid (HS0.out.same (fun _ h => h) (fun b hb => HBr.out.block b (by have := HNw.out b hb; have := HZ0.out; omega)))
                    have HNr : Hid (∀ b, N b → b < wr.heap.size) := Lib.hid (fun b hb => by have := HNw.out b hb; have := HZ0.out; have := HBr.out.size; omega)
                    go_wp2_with (first | (refine wpList_load_mid rfl 35 _ rfl w.heap.size 0 rfl ks _ HRg.out Try.underlying35 rfl H26.out ?_) | (go_at_call 22; refine (top_any HSr.out HNr.out (few_fw HLB.out HTB.out)).mono ?_; rintro e w2 ⟨v2, rfl, hL2⟩; have HL2 := Lib.hid hL2; clear hL2))
                    obtain ⟨rows, hown, hall⟩ := HL2.out.own
                    have hrl : rows.length = (topE x).length := hall.length
                    have htl := (few_fw HLB.out HTB.out).top.tE
                    have hpos : 3 ≤ (topE x).length := by
                      unfold topE top7 top6 top5 top4 top3 top2
                      simp only [List.length_append, List.length_cons, List.length_nil]
                      omega
                    rcases hown with ⟨hfl, ⟨_, h3⟩ | ⟨g, cap, cur, rfl, hge, hgb, hnc, hcm, hcs, htk⟩⟩
                    · omega
                    have hcell : ∀ j u, rows.flatten[j]? = some u → w2.cell? ⟨g, j, none⟩ = some u := fun j u hj => by
                      rw [← htk] at hj
                      have hlt := (List.getElem?_eq_some_iff.1 hj).1
                      rw [List.length_take] at hlt
                      rw [List.getElem?_take, if_pos (by omega)] at hj
                      simp only [World.cell?, hgb]
                      simpa using hj
                    have HRow : Hid (∀ i (hi : i < (topE x).length), ∃ c, w2.rangeAt g (i * 6) c ∧ ExV N wr (topE x)[i] c) := Lib.hid (fun i hi => by
                      have hir : i < rows.length := by omega
                      refine ⟨rows[i], fun j u hj => hcell _ _ ?_, hall.get i hir hi⟩
                      have hlen : ∀ (l : List (List Value)) (k : Nat) (hk : k < l.length), (∀ r ∈ l, r.length = 6) → ∀ j u, (l[k])[j]? = some u → l.flatten[k * 6 + j]? = some u := by
                        intro l
                        induction l with
                        | nil => intro k hk; simp at hk
                        | cons r t ih =>
                          intro k hk h6 j u hu
                          have hr6 := h6 r (by simp)
                          cases k with
                          | zero =>
                            have hu' : r[j]? = some u := hu
                            have hjl := (List.getElem?_eq_some_iff.1 hu').1
                            simp only [List.flatten_cons, Nat.zero_mul, Nat.zero_add]
                            rw [List.getElem?_append_left hjl]
                            exact hu'
                          | succ k =>
                            simp only [List.flatten_cons]
                            rw [List.getElem?_append_right (by omega), hr6, show (k + 1) * 6 + j - 6 = k * 6 + j by omega]
                            exact ih k (by simpa using hk) (fun r hr => h6 r (by simp [hr])) j u (by simpa using hu)
                      refine hlen rows i hir (fun r hr => ?_) j u hj
                      obtain ⟨k, hk, rfl⟩ := List.mem_iff_getElem.1 hr
                      exact (hall.get k hk (by omega)).len)
                    have HTp : Hid (rows.length = (topE x).length) := Lib.hid hrl
                    have hm47 : rows.length ≤ 140737488355328 := by omega
                    have HWr : Hid (Below w.heap.size w w2) := Lib.hid ((HB0.out.trans (HBr.out.mono HB0.out.size)).trans (HL2.out.below.mono (Nat.le_trans HB0.out.size HBr.out.size)))
                    have HG2 : Hid (g < w2.heap.size) := Lib.hid (Array.getElem?_eq_some_iff.1 hgb).1
                    have HN2 : Hid (∀ W, Below w2.heap.size w2 W → ∀ b, N b → W.heap[b]? = wr.heap[b]? ∧ b < W.heap.size) := Lib.hid (fun W hW b hb => by
                      have h1 := HNr.out b hb
                      have h2 := HL2.out.below.size
                      have h3 := hW.size
                      exact ⟨(hW.block b (by omega)).trans (HL2.out.below.block b h1), by omega⟩)
                    have HF : Hid (fewB x = decide (fewN (topE x) 0 ≤ 5000)) := Lib.hid (by unfold fewB; rw [HLB.out, HTB.out]; rfl)
                    generalize hS : fewN (topE x) 0 = S at HF
                    have HS1 : Hid (fewN ((topE x).drop 0) 0 = S) := Lib.hid hS
                    have HBr1 := Lib.hid (Below.refl w2.heap.size w2)
                    generalize hmm : rows.length = m at HTp hm47
                    clear hS hfl hgb hnc hcm hcs htk hcell hall hrl hpos htl hf hki hge hmm HT
                    go_wp2
                    go_loopw [4, 6] (fun nv iv wr => ∃ (i : Nat) (n : Int), nv = .int .i64 n ∧ iv = .int .i64 i ∧ i ≤ m ∧ 0 ≤ n ∧ n ≤ 10001 ∧ Hid (fewN ((topE x).drop i) n = S) ∧ Hid (Below w2.heap.size w2 wr)) (fun _ iv _ => m - (intOf iv).toNat)
                    case atStart => exact ⟨0, 0, rfl, rfl, Nat.zero_le _, by omega, by omega, HS1, HBr1⟩
                    case round =>
                      clear HS1 HBr1
                      obtain ⟨i, n, rfl, rfl, hi, hn1, hn2, HS, HBw⟩ := hrel
                      by_cases hlt : i < m
                      · have hil : i < (topE x).length := by rw [← HTp.out]; exact hlt
                        have hki : (i : Int) < (m : Int) := by omega
                        by_cases hnm : n ≤ 5000
                        · obtain ⟨c, hra, hex⟩ := HRow.out i hil
                          have HRa := Lib.hid (rangeAt_block hra (HBw.out.block g HG2.out))
                          have HC := Lib.hid (size_any (topE x)[i] (w := wr) (most := 5001) (ExV.same (fun b h => h) (fun b hb => (HN2.out wr HBw.out b hb).1) hex) (fun b hb => (HN2.out wr HBw.out b hb).2) (by omega) (by omega))
                          have HNx : Hid (fewN ((topE x).drop (i + 1)) (n + szE (topE x)[i] 5001) = S) := Lib.hid (by
                            have h := HS.out
                            rw [drop_cons hil, fewN, if_pos hnm] at h
                            exact h)
                          have hsz := szE_le (topE x)[i] 5001
                          generalize (topE x)[i] = E at hex HC HNx hsz
                          generalize szE E 5001 = s at HC HNx hsz
                          have hs1 : 1 ≤ s := hsz.1
                          have hs2 : s ≤ 5001 := by omega
                          obtain ⟨a', p', rfl, _⟩ := hex.cells
                          clear hra hex hsz
                          go_wp2_with (first | (refine wpList_load_mid rfl 26 _ rfl g (i * 6) (by simp [Act.eval]) [.int .i64 E.op, .int .i64 E.n, .int .i64 E.u, .string E.rn, .int .i64 E.ri, .slice a' E.args.length p'] _ HRa.out Try.underlying26 rfl (by kernel_rfl) ?_) | (go_at_call 23; refine HC.out.mono ?_; rintro e w3 ⟨rfl, hb3⟩; have HB3 := Lib.hid (HBw.out.trans (hb3.mono HBw.out.size)); clear hb3))
                          exact ⟨⟨i + 1, n + s, rfl, by go_num, by omega, by omega, by omega, HNx, HB3⟩, by simp [intOf]; omega⟩
                        · have HFn : Hid (n = S) := Lib.hid (by
                            have h := HS.out
                            rw [drop_cons hil, fewN, if_neg hnm] at h
                            exact h)
                          go_wp2
                          go_ret
                          exact ⟨ret_bool (by rw [HF.out, ← HFn.out]; exact (decide_eq_false (by omega)).symm), HWr.out.trans (HBw.out.mono HWr.out.size)⟩
                      · obtain rfl : i = m := by omega
                        have HFn : Hid (n = S) := Lib.hid (by
                          have h := HS.out
                          rw [HTp.out, List.drop_length, fewN] at h
                          exact h)
                        have hki : decide ((i : Int) < (i : Int)) = false := by simp
                        go_wp2
                        go_ret
                        exact ⟨ret_bool (by rw [HF.out, ← HFn.out]), HWr.out.trans (HBw.out.mono HWr.out.size)⟩
              · have hd6 : decide ((L.duties.n : Int) > 300) = true := by simp; omega
                have HF : Hid (fewB x = false) := Lib.hid (by
                  have h := HLn.out.duties
                  have e : decide (x.duties.length ≤ 300) = false := by simp; omega
                  unfold fewB lensB
                  rw [e]; simp)
                clear hk6
                go_wp2
                go_ret
                exact ⟨ret_bool HF.out.symm, HB0.out⟩
            · have hd5 : decide ((L.rights.n : Int) > 300) = true := by simp; omega
              have HF : Hid (fewB x = false) := Lib.hid (by
                have h := HLn.out.rights
                have e : decide (x.rights.length ≤ 300) = false := by simp; omega
                unfold fewB lensB
                rw [e]; simp)
              clear hk5
              go_wp2
              go_ret
              exact ⟨ret_bool HF.out.symm, HB0.out⟩
          · have hd4 : decide ((L.rots.n : Int) > 70) = true := by simp; omega
            have HF : Hid (fewB x = false) := Lib.hid (by
              have h := HLn.out.rots
              have e : decide (x.rots.length ≤ 70) = false := by simp; omega
              unfold fewB lensB
              rw [e]; simp)
            clear hk4
            go_wp2
            go_ret
            exact ⟨ret_bool HF.out.symm, HB0.out⟩
        · have hd3 : decide ((L.farms.n : Int) > 100) = true := by simp; omega
          have HF : Hid (fewB x = false) := Lib.hid (by
            have h := HLn.out.farms
            have e : decide (x.farms.length ≤ 100) = false := by simp; omega
            unfold fewB lensB
            rw [e]; simp)
          clear hk3
          go_wp2
          go_ret
          exact ⟨ret_bool HF.out.symm, HB0.out⟩
      · have hd2 : decide ((L.reaches.n : Int) > 100) = true := by simp; omega
        have HF : Hid (fewB x = false) := Lib.hid (by
          have h := HLn.out.reaches
          have e : decide (x.reaches.length ≤ 100) = false := by simp; omega
          unfold fewB lensB
          rw [e]; simp)
        clear hk2
        go_wp2
        go_ret
        exact ⟨ret_bool HF.out.symm, HB0.out⟩
    · have hd1 : decide ((L.crops.n : Int) > 100) = true := by simp; omega
      have HF : Hid (fewB x = false) := Lib.hid (by
        have h := HLn.out.crops
        have e : decide (x.crops.length ≤ 100) = false := by simp; omega
        unfold fewB lensB
        rw [e]; simp)
      clear hk1
      go_wp2
      go_ret
      exact ⟨ret_bool HF.out.symm, HB0.out⟩
  · have hd0 : decide ((L.lets.n : Int) > 100) = true := by simp; omega
    have HF : Hid (fewB x = false) := Lib.hid (by
      have h := HLn.out.lets
      have e : decide (x.lets.length ≤ 100) = false := by simp; omega
      unfold fewB lensB
      rw [e]; simp)
    clear hk0
    go_wp2
    go_ret
    exact ⟨ret_bool HF.out.symm, HB0.out⟩

end Go.Proofs.Ytapejaabhkfhjaa

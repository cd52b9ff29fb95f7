/- Check: how many references there are. -/
import Derived.Test.YtapejaabhkfhjaaMSg
namespace Go.Proofs.Ytapejaabhkfhjaa
open Go.RowKit

theorem flatc_len {α β : Type} {f : α → List β} {c : Nat} : ∀ {l : List α}, (∀ a ∈ l, (f a).length ≤ c) → (l.flatMap f).length ≤ l.length * c
  | [], _ => by simp
  | a :: l, h => by
    rw [List.flatMap_cons, List.length_append, List.length_cons, Nat.succ_mul]
    have := h a (by simp)
    have := flatc_len (l := l) (fun b hb => h b (by simp [hb]))
    omega
theorem flat_idx {α β : Type} {f : α × Nat → List β} {c : Nat} {l : List α} (h : ∀ a ∈ l, ∀ i, (f (a, i)).length ≤ c) : (l.zipIdx.flatMap f).length ≤ l.length * c := by
  have := flatc_len (l := l.zipIdx) (f := f) (c := c) (fun p hp => by
    obtain ⟨a, i⟩ := p
    obtain ⟨_, h2, h3⟩ := List.mem_zipIdx (x := a) (i := i) hp
    exact h a (h3 ▸ List.getElem_mem _) i)
  rwa [List.length_zipIdx] at this
section
variable {t : Tb}
mutual
theorem refsE_le (lt : Int) : ∀ e : Ex, okE t lt e = true → (refsE e).length + 1 ≤ 2 ^ (depthE e + 1)
  | .mk op n u rn ri args, h => by
    rw [okE, Bool.and_eq_true, Bool.and_eq_true] at h
    obtain ⟨h1, _, h3⟩ := h
    have ih := refsEL_le lt args h3
    rw [refsE, depthE, List.length_cons]
    unfold okS at h1
    simp only [Bool.and_eq_true, decide_eq_true_eq] at h1
    obtain ⟨_, _, h2⟩ := h1
    rw [Nat.pow_succ]
    split at h2
    · have h2 : args.length = 2 := of_decide_eq_true h2
      rw [h2] at ih; omega
    · have h2 : args.length = 0 := of_decide_eq_true h2
      obtain rfl := List.length_eq_zero_iff.1 h2
      simp [refsEL, depthL]
theorem refsEL_le (lt : Int) : ∀ l : List Ex, okL t lt l = true → (refsEL l).length + l.length ≤ l.length * 2 ^ depthL l
  | [], _ => by simp [refsEL]
  | e :: r, h => by
    rw [okL, Bool.and_eq_true] at h
    have i1 := refsE_le lt e h.1
    have i2 := refsEL_le lt r h.2
    rw [refsEL, depthL, List.length_append, List.length_cons]
    have e1 : 2 ^ (depthE e + 1) ≤ 2 ^ max (1 + depthE e) (depthL r) := Nat.pow_le_pow_right (by omega) (by omega)
    have e2 : r.length * 2 ^ depthL r ≤ r.length * 2 ^ max (1 + depthE e) (depthL r) := Nat.mul_le_mul_left _ (Nat.pow_le_pow_right (by omega) (by omega))
    rw [Nat.succ_mul]
    omega
end
theorem allE_le {x : Src} (hf : fitsAll x = true) : (allE x).length ≤ 20000 := by
  obtain ⟨f1, f2, f3, f4, f5, f6, f7, f8, _⟩ := fits_all hf
  unfold allE letsE cropsE reachesE farmsE rightsE dutiesE
  have e1 : (x.lets.zipIdx.flatMap fun p => [(p.1.value, 1 + (p.2 : Int))]).length ≤ x.lets.length * 1 := flat_idx fun _ _ _ => by simp
  have e2 : (x.crops.zipIdx.flatMap fun p => [(p.1.need, (0 : Int))]).length ≤ x.crops.length * 1 := flat_idx fun _ _ _ => by simp
  have e3 : (x.reaches.zipIdx.flatMap fun p => [(p.1.delay, (0 : Int)), (p.1.cap, 0), (p.1.bank, 0), (p.1.siphon, 0), (p.1.evap0, 0), (p.1.evap1, 0), (p.1.seep0, 0), (p.1.seep1, 0)]).length ≤ x.reaches.length * 8 := flat_idx fun _ _ _ => by simp
  have e4 : (x.farms.zipIdx.flatMap fun p => [(p.1.area, (0 : Int))]).length ≤ x.farms.length * 1 := flat_idx fun _ _ _ => by simp
  have e5 : (rotsE x.rots).length ≤ x.rots.length * 67 := by
    unfold rotsE
    refine flat_idx fun d hd i => ?_
    have h1 : (turnsE d.turns).length ≤ d.turns.length * 1 := by unfold turnsE; exact flat_idx fun _ _ _ => by simp
    have := f8 d hd
    simp only [List.length_append, List.length_cons, List.length_nil]
    omega
  have e6 : (x.rights.zipIdx.flatMap fun p => [(p.1.flow, (0 : Int)), (p.1.frm, 0), (p.1.to, 0), (p.1.every, 0), (p.1.len, 0)]).length ≤ x.rights.length * 5 := flat_idx fun _ _ _ => by simp
  have e7 : (x.duties.zipIdx.flatMap fun p => [(p.1.due, (0 : Int))]).length ≤ x.duties.length * 1 := flat_idx fun _ _ _ => by simp
  simp only [List.length_append, List.length_cons, List.length_nil]
  omega
theorem refsA_le {x : Src} (hf : fitsAll x = true) (hu : usesOk t x = true) : (refsA x).length ≤ 900000000 := by
  obtain ⟨f1, f2, f3, f4, f5, f6, f7, f8, f9⟩ := fits_all hf
  have ha := allE_le hf
  unfold usesOk at hu
  simp only [Bool.and_eq_true] at hu
  have h1 := hu.1
  rw [List.all_eq_true] at h1
  have e0 : ((allE x).flatMap refsTop).length ≤ (allE x).length * 511 := flatc_len fun e he => by
    unfold refsTop
    split
    · simp
    · rename_i hl
      have h2 := h1 e he
      unfold fineE at h2
      rw [Bool.or_eq_true, or_iff_right hl] at h2
      have h3 := refsE_le e.2 e.1 h2
      have h4 : 2 ^ (depthE e.1 + 1) ≤ 2 ^ 9 := Nat.pow_le_pow_right (by omega) (by have := f9 e he; omega)
      omega
  have e1 : (x.farms.flatMap refsFarm).length ≤ x.farms.length * 2 := flatc_len fun _ _ => by simp [refsFarm]
  have e2 : (x.rots.flatMap refsRot).length ≤ x.rots.length * 65 := flatc_len fun d hd => by
    have h1 : (d.turns.flatMap fun k : TurnD => [k.farm]).length ≤ d.turns.length * 1 := flatc_len fun _ _ => by simp
    have := f8 d hd
    unfold refsRot
    rw [List.length_cons]; omega
  have e3 : (x.rights.flatMap refsRight).length ≤ x.rights.length * 2 := flatc_len fun _ _ => by simp [refsRight]
  have e4 : (x.duties.flatMap refsDuty).length ≤ x.duties.length * 2 := flatc_len fun _ _ => by simp [refsDuty]
  unfold refsA refsU
  simp only [List.length_append, List.length_map]
  omega
end
/- what Resolve answers, for its caller -/
theorem res_row {w w' : World} {x : Src} {e : Ending} (h : ResPost w x e w') : ∃ cs : List Value, e = .returned (.tuple #[.agg cs.toArray, .int .i64 (wrongS x)]) ∧ cs.length = 26 ∧ (∀ v ∈ cs, v.oneCell' = true) ∧ Below w.heap.size w w' ∧ (wrongS x = 0 → ∃ (L : Lay) (N : Nat → Prop), SrcV N w' L cs (resolved x) ∧ ∀ b, N b → w.heap.size ≤ b ∧ b < w'.heap.size) := by
  obtain ⟨hb, ⟨h0, rfl⟩ | ⟨h0, cs, rfl, L, N, hl, hs, hN⟩⟩ := h
  · exact ⟨zeroCs, rfl, rfl, fun v hv => List.all_eq_true.1 (show zeroCs.all (fun v => v.oneCell') = true from rfl) v hv, hb, fun h => absurd h h0⟩
  · exact ⟨cs, by rw [h0], hl, one_src hs, hb, fun _ => ⟨L, N, hs, hN⟩⟩

end Go.Proofs.Ytapejaabhkfhjaa

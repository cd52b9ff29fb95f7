/- Texts Sa Sq in one: each says what it proves. -/
import Derived.Test.YtapejaabhkfhjaaMRr
import Derived.Test.YtapejaabhkfhjaaMRq
import Derived.OrdersIn
import Derived.TacticsIn
import Derived.ControlIn
/- Check as plain data; what the iterator over references may read where nothing is written. -/
namespace Go.Proofs.Ytapejaabhkfhjaa
open Go.RowKit

instance : DecidableEq Rf := fun a b => decidable_of_iff (a.name = b.name ∧ a.n = b.n) (by cases a; cases b; simp)
def rfOf (u : Us) : Rf := ⟨u.name, u.n⟩
mutual
def refsE : Ex → List Rf
  | .mk _ _ _ rn ri args => ⟨rn, ri⟩ :: refsEL args
def refsEL : List Ex → List Rf
  | [] => []
  | e :: r => refsE e ++ refsEL r
end
def refsTop (e : ExI) : List Rf := if leftE e.1 then [] else refsE e.1
def refsFarm (d : FarmD) : List Rf := [d.on, d.crop]
def refsRot (d : RotD) : List Rf := d.on :: d.turns.flatMap fun k => [k.farm]
def refsRight (d : RightD) : List Rf := [d.farm, d.reach]
def refsDuty (d : DutyD) : List Rf := [d.farm, d.reach]
def refsU (x : Src) : List Rf := (allE x).flatMap refsTop ++ (((x.farms.flatMap refsFarm ++ x.rots.flatMap refsRot) ++ x.rights.flatMap refsRight) ++ x.duties.flatMap refsDuty)
def refsA (x : Src) : List Rf := refsU x ++ x.reaches.map (·.frm)
def checkS (x : Src) : Int := if wrongS x = 0 then (if refsA x = refsA (resolved x) then 0 else 170) else wrongS x

def InS (N : Nat → Prop) (s b : Nat) : Prop := b = s ∨ N b
structure RefAt (N : Nat → Prop) (s : Nat) (w : World) (u : Us) : Prop where
  inS : InS N s u.b
  name : w.cell? ⟨u.b, u.o, none⟩ = some (.string u.name)
  n : w.cell? ⟨u.b, u.o + 1, none⟩ = some (.int .i64 u.n)
def CB (K : Nat → Prop) (p : Addr) : Prop := ∃ b q, p = ⟨b, q, none⟩ ∧ K b
def DB (K : Nat → Prop) (w : World) (p : Addr) : Prop := ∃ b q, p = ⟨b, q, none⟩ ∧ K b ∧ ∃ z, w.cell? ⟨b, q, none⟩ = some (.int .i64 z)
theorem hdU_same {K : Nat → Prop} {w V : World} (h : ∀ b, K b → V.heap[b]? = w.heap[b]?) : HdU w (CB K) (DB K w) V := by
  constructor
  · rintro p ⟨b, q, rfl, hk⟩; exact cell_of_block (h b hk)
  · rintro p ⟨b, q, rfl, hk, z, hz⟩; exact ⟨z, (cell_of_block (h b hk)).trans hz⟩

section
variable {N K : Nat → Prop} {w : World} {s : Nat}
mutual
theorem refs_preE (lt : Int) : ∀ (e : Ex) (b o : Nat) (cs : List Value), InS N s b → ExV N w e cs → w.rangeAt b o cs → (∀ u ∈ (preE w lt e b o).1, RefAt N s w u) ∧ ((preE w lt e b o).2 = true → (preE w lt e b o).1.map rfOf = refsE e)
  | .mk op n u rn ri args, b, o, cs, hb, hv, hr => by
    rw [ExV] at hv
    obtain ⟨a, cap, rfl, h2, h3, h4⟩ := hv
    obtain ⟨r0, r1, r2, r3, r4, r5⟩ := rangeAt6 hr
    obtain ⟨i1, i2⟩ := refs_preL lt args a args.length cap 0 h4
    rw [preE]
    by_cases hs : okS op args.length = true
    · rw [if_pos hs, r5]
      refine ⟨fun v hm => ?_, fun ho => ?_⟩
      · rcases List.mem_cons.1 hm with rfl | hm
        · exact ⟨hb, r3, r4⟩
        · exact i1 v hm
      · rw [refsE, List.map_cons, i2 ho]; rfl
    · rw [if_neg hs]
      exact ⟨fun v hm => (by cases hm), fun ho => (by cases ho)⟩
theorem refs_preL (lt : Int) : ∀ (l : List Ex) (a : Option Addr) (n cap i : Nat), RowV N w a i l → (∀ u ∈ (preL w lt l (some (.slice a n cap)) i).1, RefAt N s w u) ∧ ((preL w lt l (some (.slice a n cap)) i).2 = true → (preL w lt l (some (.slice a n cap)) i).1.map rfOf = refsEL l)
  | [], a, n, cap, i, h => by rw [preL]; exact ⟨fun v hm => (by cases hm), fun _ => rfl⟩
  | e :: r, a, n, cap, i, h => by
    rw [RowV] at h
    obtain ⟨⟨b, o, cs, rfl, h1, h2, h3⟩, h5⟩ := h
    obtain ⟨e1, e2⟩ := refs_preE lt e b (o + i * 6) cs (.inr h1) h3 h2
    obtain ⟨l1, l2⟩ := refs_preL lt r (some ⟨b, o, none⟩) n cap (i + 1) h5
    rw [preL]
    by_cases hk : (preE w lt e b (o + i * 6)).2 = true
    · simp only [hk, if_true]
      refine ⟨fun v hm => (List.mem_append.1 hm).elim (e1 v) (l1 v), fun ho => ?_⟩
      rw [List.map_append, e2 hk, l2 ho, refsEL]
    · simp only [hk]
      refine ⟨fun v hm => e1 v (by simpa using hm), fun ho => absurd ho (by simp)⟩
end
mutual
theorem exR_ro (hN : ∀ b, N b → K b) : ∀ (e : Ex) (b o : Nat) (cs : List Value), K b → ExV N w e cs → w.rangeAt b o cs → ExR w (CB K) e b o
  | .mk op n u rn ri args, b, o, cs, hb, hv, hr => by
    rw [ExV] at hv
    obtain ⟨a, cap, rfl, h2, h3, h4⟩ := hv
    obtain ⟨r0, r1, r2, r3, r4, r5⟩ := rangeAt6 hr
    rw [ExR]
    exact ⟨a, cap, ⟨r0, _, _, rfl, hb⟩, ⟨r5, _, _, rfl, hb⟩, h2, rowR_ro hN args a 0 h4⟩
theorem rowR_ro (hN : ∀ b, N b → K b) : ∀ (l : List Ex) (a : Option Addr) (i : Nat), RowV N w a i l → RowR w (CB K) a i l
  | [], a, i, h => by rw [RowR]; trivial
  | e :: r, a, i, h => by
    rw [RowV] at h
    rw [RowR]
    obtain ⟨⟨b, o, cs, rfl, h1, h2, h3⟩, h5⟩ := h
    exact ⟨⟨b, o, rfl, exR_ro hN e b (o + i * 6) cs (hN b h1) h3 h2⟩, rowR_ro hN r _ (i + 1) h5⟩
end
end
theorem seqU_flat : ∀ {l : List (List Us × Bool)}, (seqU l).2 = true → (seqU l).1 = l.flatMap (·.1) ∧ ∀ p ∈ l, p.2 = true
  | [], _ => by simp [seqU]
  | y :: r, h => by
    have e : seqU (y :: r) = if y.2 then (y.1 ++ (seqU r).1, (seqU r).2) else (y.1, false) := rfl
    rw [e] at h ⊢
    by_cases h1 : y.2 = true
    · rw [if_pos h1] at h ⊢
      obtain ⟨i1, i2⟩ := seqU_flat h
      exact ⟨by rw [List.flatMap_cons, ← i1], fun p hp => (List.mem_cons.1 hp).elim (fun e => e ▸ h1) (i2 p)⟩
    · rw [if_neg h1] at h; cases h
theorem range_refs {α : Type} {l : List α} {n : Nat} (hn : n = l.length) {F : Nat → List Us} {f : α → List Rf} (h : ∀ i (hi : i < l.length), (F i).map rfOf = f l[i]) : ((List.range n).flatMap F).map rfOf = l.flatMap f := by
  have key : ∀ k, k ≤ l.length → ((List.range k).flatMap F).map rfOf = (l.take k).flatMap f := by
    intro k
    induction k with
    | zero => simp
    | succ k ih =>
      intro hk
      rw [range_flatMap_succ, List.map_append, ih (by omega), h k (by omega), List.take_succ_eq_append_getElem (by omega), List.flatMap_append]
      simp
  rw [hn, key _ (Nat.le_refl _), List.take_length]
section
variable {N : Nat → Prop} {w : World} {L : Lay} {cs : List Value} {x : Src}
theorem zip_refs {s : Nat} : ∀ {l : List (Array Value)} {m : List ExI}, All2 (PtE N s w) l m → (∀ p ∈ List.zipWith (topPart w) l m, ∀ u ∈ p.1, RefAt N s w u) ∧ ((∀ p ∈ List.zipWith (topPart w) l m, p.2 = true) → ((List.zipWith (topPart w) l m).flatMap (·.1)).map rfOf = m.flatMap refsTop)
  | [], [], _ => ⟨fun p hp => (by cases hp), fun _ => rfl⟩
  | a :: l, e :: m, hA => by
    rw [All2] at hA
    obtain ⟨⟨b, o, c, rfl, hb, hr, hv⟩, h2⟩ := hA
    obtain ⟨i1, i2⟩ := zip_refs h2
    obtain ⟨e1, e2⟩ := refs_preE e.2 e.1 b o c hb hv hr
    have key : (∀ u ∈ (topPart w #[.pointer (some ⟨b, o, none⟩), .int .i64 e.2] e).1, RefAt N s w u) ∧ ((topPart w #[.pointer (some ⟨b, o, none⟩), .int .i64 e.2] e).2 = true → (topPart w #[.pointer (some ⟨b, o, none⟩), .int .i64 e.2] e).1.map rfOf = refsTop e) := by
      unfold topPart refsTop
      by_cases hl : leftE e.1 = true
      · simp [hl]
      · rw [if_neg hl, if_neg hl]; exact ⟨e1, e2⟩
    rw [List.zipWith_cons_cons]
    refine ⟨fun p hp => (List.mem_cons.1 hp).elim (fun h => h ▸ key.1) (i1 p), fun ho => ?_⟩
    rw [List.flatMap_cons, List.map_append, key.2 (ho _ (by simp)), i2 (fun p hp => ho p (by simp [hp])), List.flatMap_cons]
  | [], _ :: _, hA => by simp [All2] at hA
  | _ :: _, [], hA => by simp [All2] at hA
theorem refAt_mk {h : Hdr} {b o sz i off : Nat} {cs0 p q : List Value} {r : Rf} {s : Nat} (to at_ : Int) (ha : h.a = some ⟨b, o, none⟩) (hN : N b) (hr : w.rangeAt b (o + i * sz) cs0) (hc : cs0 = p ++ (rfV r ++ q)) (hp : p.length = off) : RefAt N s w (usAt (h.at sz i off) to at_ r) := by
  subst hc
  have h1 := range_mid hr
  rw [hp] at h1
  unfold usAt
  rw [hat_of ha]
  exact ⟨.inr hN, h1 0 _ rfl, h1 1 _ rfl⟩
theorem listU_refs (h : SrcV N w L cs x) : (∀ u ∈ listU L x, RefAt N L.s w u) ∧ (listU L x).map rfOf = ((x.farms.flatMap refsFarm ++ x.rots.flatMap refsRot) ++ x.rights.flatMap refsRight) ++ x.duties.flatMap refsDuty := by
  constructor
  · intro u hu
    unfold listU at hu
    simp only [List.mem_append] at hu
    rcases hu with ((hu | hu) | hu) | hu
    · obtain ⟨i, hi, hu⟩ := List.mem_flatMap.1 hu
      have hl : i < x.farms.length := by rw [← h.farms.1]; exact List.mem_range.1 hi
      obtain ⟨b, o, c, g1, g2, g3, g4, _, _, _, c1, rfl, g5⟩ := h.farms.2.2 i hl
      unfold farmU at hu
      rw [List.getElem?_eq_getElem hl] at hu
      simp only [List.mem_cons, List.not_mem_nil, or_false] at hu
      generalize x.farms[i] = d at *
      rcases hu with rfl | rfl
      · exact refAt_mk (p := [.string d.name]) _ _ g1 g2 g4 rfl rfl
      · exact refAt_mk (p := .string d.name :: (rfV d.on ++ (.bool d.river :: c1))) (q := []) _ _ g1 g2 g4 (by simp) (by simp [rfV_len, g5.len])
    · obtain ⟨i, hi, hu⟩ := List.mem_flatMap.1 hu
      have hl : i < x.rots.length := by rw [← h.rots.1]; exact List.mem_range.1 hi
      obtain ⟨b, o, c, g1, g2, g3, g4, _, _, c0, c1, c2, rfl, k0, k1, k2, ht⟩ := h.rots.2.2 i hl
      unfold rotU at hu
      rw [List.getElem?_eq_getElem hl] at hu
      generalize x.rots[i] = d at *
      rcases List.mem_cons.1 hu with rfl | hu
      · exact refAt_mk (p := [.string d.name]) _ _ g1 g2 g4 rfl rfl
      · obtain ⟨k, hk, hu⟩ := List.mem_flatMap.1 hu
        have hkl : k < d.turns.length := by rw [← ht.1]; exact List.mem_range.1 hk
        obtain ⟨b, o, c, g1, g2, g3, g4, _, c1, rfl, g5⟩ := ht.2.2 k hkl
        unfold turnU at hu
        rw [List.getElem?_eq_getElem hkl] at hu
        simp only [List.mem_cons, List.not_mem_nil, or_false] at hu
        rw [hu]
        exact refAt_mk (p := []) _ _ g1 g2 g4 rfl rfl
    · obtain ⟨i, hi, hu⟩ := List.mem_flatMap.1 hu
      have hl : i < x.rights.length := by rw [← h.rights.1]; exact List.mem_range.1 hi
      obtain ⟨b, o, c, g1, g2, g3, g4, _, _, _, c0, c1, c2, c3, c4, rfl, _⟩ := h.rights.2.2 i hl
      unfold rightU at hu
      rw [List.getElem?_eq_getElem hl] at hu
      simp only [List.mem_cons, List.not_mem_nil, or_false] at hu
      generalize x.rights[i] = d at *
      rcases hu with rfl | rfl
      · exact refAt_mk (p := [.int .i64 d.kind, .string d.name]) _ _ g1 g2 g4 rfl rfl
      · exact refAt_mk (p := .int .i64 d.kind :: .string d.name :: rfV d.farm) _ _ g1 g2 g4 rfl rfl
    · obtain ⟨i, hi, hu⟩ := List.mem_flatMap.1 hu
      have hl : i < x.duties.length := by rw [← h.duties.1]; exact List.mem_range.1 hi
      obtain ⟨b, o, c, g1, g2, g3, g4, _, _, _, c0, rfl, _⟩ := h.duties.2.2 i hl
      unfold dutyU at hu
      rw [List.getElem?_eq_getElem hl] at hu
      simp only [List.mem_cons, List.not_mem_nil, or_false] at hu
      generalize x.duties[i] = d at *
      rcases hu with rfl | rfl
      · exact refAt_mk (p := [.string d.name]) _ _ g1 g2 g4 rfl rfl
      · exact refAt_mk (p := .string d.name :: rfV d.farm) _ _ g1 g2 g4 rfl rfl
  · unfold listU
    rw [List.map_append, List.map_append, List.map_append, range_refs h.farms.1 (f := refsFarm) fun i hi => ?_, range_refs h.rots.1 (f := refsRot) fun i hi => ?_, range_refs h.rights.1 (f := refsRight) fun i hi => ?_, range_refs h.duties.1 (f := refsDuty) fun i hi => ?_]
    · unfold dutyU; rw [List.getElem?_eq_getElem hi]; rfl
    · unfold rightU; rw [List.getElem?_eq_getElem hi]; rfl
    · obtain ⟨_, _, _, _, _, _, _, _, _, _, _, _, _, _, _, _, ht⟩ := h.rots.2.2 i hi
      unfold rotU; rw [List.getElem?_eq_getElem hi]
      simp only [List.map_cons]
      rw [range_refs ht.1 (f := fun k : TurnD => [k.farm]) fun k hk => ?_]
      · rfl
      · unfold turnU; rw [List.getElem?_eq_getElem hk]; rfl
    · unfold farmU; rw [List.getElem?_eq_getElem hi]; rfl
theorem uses_refs (h : SrcV N w L cs x) (hr : w.rangeAt L.s 0 cs) : (∀ u ∈ (usesU w L x).1, RefAt N L.s w u) ∧ ((usesU w L x).2 = true → (usesU w L x).1.map rfOf = refsU x) := by
  obtain ⟨z1, z2⟩ := zip_refs (exprs_all2 h hr)
  obtain ⟨l1, l2⟩ := listU_refs h
  constructor
  · intro u hu
    obtain ⟨p, hp, hu⟩ := mem_seqU hu
    unfold partsU at hp
    rcases List.mem_append.1 hp with hp | hp
    · exact z1 p hp u hu
    · simp only [List.mem_singleton] at hp
      rw [hp] at hu
      simp only at hu
      split at hu
      · exact l1 u hu
      · cases hu
  · intro ho
    obtain ⟨s1, s2⟩ := seqU_flat ho
    unfold usesU
    rw [s1]
    unfold partsU
    have hk : kindsOk x = true := by
      have := s2 (if kindsOk x then listU L x else [], kindsOk x) (by unfold partsU; simp)
      exact this
    rw [List.flatMap_append, List.map_append]
    unfold topParts
    rw [z2 (fun p hp => s2 p (by unfold partsU topParts; simp [hp]))]
    simp only [List.flatMap_cons, List.flatMap_nil, List.append_nil, hk, if_true]
    rw [l2]; rfl
theorem listU_short2 (h : SrcV N w L cs x) (hf : fitsAll x = true) : (listU L x).length ≤ 1000000 := by
  obtain ⟨f1, f2, f3, f4, f5, f6, f7, f8, _⟩ := fits_all hf
  unfold listU
  simp only [List.length_append]
  have e1 : ((List.range L.farms.n).flatMap (farmU L.farms x.farms)).length ≤ L.farms.n * 2 := flat_le _ fun i => by unfold farmU; split <;> simp
  have e2 : ((List.range L.rots.n).flatMap (rotU L x.rots)).length ≤ L.rots.n * 66 := flat_leN _ fun i hi => by
    have hl : i < x.rots.length := by rw [← h.rots.1]; exact hi
    obtain ⟨_, _, _, _, _, _, _, _, _, _, _, _, _, _, _, _, ht⟩ := h.rots.2.2 i hl
    have e3 : ((List.range (turnsOf L i).n).flatMap (turnU (turnsOf L i) (x.rots[i]).turns)).length ≤ (turnsOf L i).n * 1 := flat_le _ fun k => by unfold turnU; split <;> simp
    have := f8 _ (List.getElem_mem hl)
    have := ht.1
    unfold rotU
    rw [List.getElem?_eq_getElem hl]
    simp only [List.length_cons]
    omega
  have e3 : ((List.range L.rights.n).flatMap (rightU L.rights x.rights)).length ≤ L.rights.n * 2 := flat_le _ fun i => by unfold rightU; split <;> simp
  have e4 : ((List.range L.duties.n).flatMap (dutyU L.duties x.duties)).length ≤ L.duties.n * 2 := flat_le _ fun i => by unfold dutyU; split <;> simp
  have := h.farms.1; have := h.rots.1; have := h.rights.1; have := h.duties.1
  omega
theorem usesC_ro (h : SrcV N w L cs x) (hr : w.rangeAt L.s 0 cs) {Bu : Nat} (hbox : w.cell? ⟨Bu, 0, none⟩ = some (.pointer (some ⟨L.s, 0, none⟩))) (hf : fitsAll x = true) : UsesC N w (CB fun b => InS N L.s b ∨ b = Bu) (DB (fun b => InS N L.s b ∨ b = Bu) w) Bu L x := by
  refine ⟨h.ok, heads_of h hr hbox, ⟨Bu, 0, rfl, .inr rfl⟩, fun j _ _ => ⟨L.s, j, rfl, .inl (.inl rfl)⟩, fun i hi => ?_, fun i hi => ?_, fun i hi => ?_, ?_, h.farms.1, h.rots.1, fun i hi => ?_, h.rights.1, h.duties.1, allE_few (fits_all hf).1, listU_short2 h hf⟩
  · obtain ⟨b, o, c, g1, g2, _⟩ := h.rots.2.2 i (by rw [← h.rots.1]; exact hi)
    rw [hat_of g1]
    exact ⟨_, _, rfl, .inl (.inr g2)⟩
  · obtain ⟨b, o, c, g1, g2, g3, g4, _, _, _, c1, rfl, g5⟩ := h.farms.2.2 i hi
    rw [hat_of g1]
    exact ⟨⟨_, _, rfl, .inl (.inr g2)⟩, g4 3 _ rfl⟩
  · obtain ⟨b, o, c, g1, g2, g3, g4, _, _, _, c0, c1, c2, c3, c4, rfl, _⟩ := h.rights.2.2 i hi
    rw [hat_of g1]
    exact ⟨⟨_, _, rfl, .inl (.inr g2)⟩, g4 0 _ rfl⟩
  · refine All2.mono (fun a e hA => ?_) (exprs_all2 h hr)
    obtain ⟨b, o, c, rfl, hb, hc1, hv⟩ := hA
    have hx := exR_ro (K := fun b => InS N L.s b ∨ b = Bu) (fun b hb => .inl (.inr hb)) e.1 b o c (.inl hb) hv hc1
    obtain ⟨a, cap, rfl, e1, e2, e3⟩ := hv.cells
    obtain ⟨r0, r1, r2, r3, r4, r5⟩ := rangeAt6 hc1
    exact ⟨b, o, _, rfl, hc1, hv, hx, ⟨_, _, rfl, .inl hb⟩, ⟨_, _, rfl, .inl hb⟩, ⟨_, _, rfl, .inl hb⟩, ⟨_, _, rfl, .inl hb, _, r4⟩, fun _ => ⟨_, _, rfl, .inl hb⟩⟩
  · obtain ⟨_, _, _, _, _, _, _, _, _, _, _, _, _, _, _, _, ht⟩ := h.rots.2.2 i hi
    exact ht.1
end

end Go.Proofs.Ytapejaabhkfhjaa

/- A region whose order is drawn, inside a round of a range over a function. -/
namespace Go.Proofs.Ytapejaabhkfhjaa
open Go

theorem wpIn_round {P : Program} {o : Oper} {a : Act} {w : World} {K : Act → World → Prop} {Q : Exit → Act → World → Prop} {l n : Nat} (hd : ∀ c, o.op ≠ .defer c) (h : Oper.wp P o a w K Q) : Oper.wpIn (Fence.wide.inRound l) n P o a w K Q := by
  refine ⟨fun _ _ => trivial, ?_⟩
  rw [Fence.inRound_round, Oper.semAt_some l a.eval o hd]
  unfold Oper.wp at h
  generalize (execOp a.eval o).run P w = r at h ⊢
  cases r with
  | ok x w' =>
    cases x with
    | value v => exact h
    | skip => exact h
    | defer d => exact h
    | enter f args => exact ⟨fun h => (by cases h), callsIn_wide.2 h⟩
    | row r args => exact ⟨fun h => (by cases h), fun c cs _ => let ⟨v, w2, q, s⟩ := h c cs; ⟨v, w2, q, stepsIn_wide.2 s⟩⟩
    | _ => exact h.elim
  | halt x w' => cases x <;> exact h
def calmB (ops : Array Oper) : Bool := ops.all fun o => match o.op with
  | .defer _ => false
  | _ => true
section
variable {F : Fence} {n : Nat} {P : Program} {ops : Array Oper} {Q : Exit → Act → World → Prop}
theorem wpAnyIn_mid {a₀ : Act} {Ext : Array Bool → Array Value → World → Prop} {Pp : Nat → Value → World → Prop} {Le : Nat → World → World → Prop} (hap : apartB ops = true) (hsl : slotsB a₀.tmps.size ops = true)
    (hst : ∀ i j v w w', j ≠ i → (∀ f, ancB ops f j i = false) → Le i w w' → Pp j v w → Pp j v w')
    (hstep : ∀ i listed a w, Mid ops a₀ Ext Pp listed a w → i ∈ Region.ready .any ops listed → ∀ o, ops[i]? = some o → wpOpIn F n P ops Q i (fun a' w' => ∃ v, a' = a.put o.dst v ∧ Ext (listed.setIfInBounds i true) (a.put o.dst v).tmps w' ∧ Le i w w' ∧ Pp i v w') a w)
    (hend : ∀ listed a w, (∀ i, i < ops.size → listed.getD i false = true) → Mid ops a₀ Ext Pp listed a w → Q .normal a w) :
    ∀ (fuel : Nat) (listed : Array Bool) (a : Act) (w : World), (∀ i, i < ops.size → listed.getD i false = true) ∨ ((List.range ops.size).filter fun i => !listed.getD i false).length ≤ fuel → Mid ops a₀ Ext Pp listed a w → wpAnyIn F n P .any ops Q fuel listed a w := by
  intro fuel
  induction fuel with
  | zero =>
    intro listed a w hf hM
    have hall : ∀ i, i < ops.size → listed.getD i false = true := by
      rcases hf with hf | hf
      · exact hf
      · intro i hi
        have h0 := List.length_eq_zero_iff.1 (Nat.le_zero.1 hf)
        have := List.filter_eq_nil_iff.1 h0 i (List.mem_range.2 hi)
        simpa using this
    refine ⟨?_, hend _ _ _ hall hM⟩
    cases hr : Region.ready .any ops listed with
    | nil => rfl
    | cons i r =>
      exfalso
      have hi : i ∈ Region.ready .any ops listed := by rw [hr]; simp
      obtain ⟨hun, o, ho, _⟩ := mem_ready.1 hi
      have hlt := (Array.getElem?_eq_some_iff.1 ho).1
      have := hall i hlt
      have hls : i < listed.size := by rw [hM.size]; exact hlt
      simp [hls] at hun this
      rw [this] at hun; cases hun
  | succ fuel ih =>
    intro listed a w hf hM
    refine ⟨fun hr => hend _ _ _ (ready_some hap hM.size hr) hM, fun i hi => ?_⟩
    obtain ⟨hun, o, ho, _⟩ := mem_ready.1 hi
    have hlt := (Array.getElem?_eq_some_iff.1 ho).1
    have hls : i < listed.size := by rw [hM.size]; exact hlt
    have hnot : listed.getD i false = false := by simp [hls] at hun ⊢; exact hun
    refine wpOpIn_mono (fun a' w' hh => ?_) (hstep i listed a w hM hi o ho)
    obtain ⟨v, rfl, he, hle, hv⟩ := hh
    refine ih _ _ _ (.inr ?_) (hM.next hap hsl hst hi ho he hle hv)
    have hf' := hf.resolve_left (fun h => by rw [h i hlt] at hnot; cases hnot)
    have hsub : ((List.range ops.size).filter fun j => !(listed.setIfInBounds i true).getD j false) = ((List.range ops.size).filter fun j => !listed.getD j false).filter fun j => decide (j ≠ i) := by
      rw [List.filter_filter]
      refine List.filter_congr fun j _ => ?_
      by_cases e : i = j
      · subst e; simp [hls]
      · rw [getD_set_ne false e]; simp [Ne.symm e]
    rw [hsub]
    have hlt' := (List.length_filter_lt_length_iff_exists (p := fun j => decide (j ≠ i)) (l := (List.range ops.size).filter fun j => !listed.getD j false)).2 ⟨i, List.mem_filter.2 ⟨List.mem_range.2 hlt, by rw [hnot]; rfl⟩, by simp⟩
    omega

theorem wpIn_region_mid {id : Nat} {a₀ : Act} {w₀ : World} (hm : P.follows .mixedOrders = true) (Ext : Array Bool → Array Value → World → Prop) (Pp : Nat → Value → World → Prop) (Le : Nat → World → World → Prop) (hap : apartB ops = true) (hsl : slotsB a₀.tmps.size ops = true)
    (hst : ∀ i j v w w', j ≠ i → (∀ f, ancB ops f j i = false) → Le i w w' → Pp j v w → Pp j v w') (h0 : Ext (Array.replicate ops.size false) a₀.tmps w₀.drew)
    (hstep : ∀ i listed a w, Mid ops a₀ Ext Pp listed a w → i ∈ Region.ready .any ops listed → ∀ o, ops[i]? = some o → wpOpIn F n P ops Q i (fun a' w' => ∃ v, a' = a.put o.dst v ∧ Ext (listed.setIfInBounds i true) (a.put o.dst v).tmps w' ∧ Le i w w' ∧ Pp i v w') a w)
    (hend : ∀ listed a w, (∀ i, i < ops.size → listed.getD i false = true) → Mid ops a₀ Ext Pp listed a w → Q .normal a w) : (Code.region id ops true).wpIn F n P Q a₀ w₀ := by
  refine wpIn_region_any hm ?_
  have hrep : ∀ i, (Array.replicate ops.size false).getD i false = false := fun i => by
    simp [Array.getElem?_replicate]; split <;> rfl
  refine wpAnyIn_mid hap hsl hst hstep hend ops.size _ a₀ _ (.inr ?_) ⟨by simp, fun m hm' => ?_, h0, rfl, rfl, fun m hm' => ?_, fun _ _ => rfl⟩
  · exact Nat.le_trans (List.length_filter_le _ _) (by simp)
  · rw [hrep] at hm'; cases hm'
  · rw [hrep] at hm'; cases hm'

end
section
variable {n : Nat} {P : Program} {ops : Array Oper} {Q : Exit → Act → World → Prop}
theorem wpIn_region_mids {id l : Nat} {a₀ : Act} {w₀ : World} (hm : P.follows .mixedOrders = true) (Ext : Array Bool → Array Value → World → Prop) (Pp : Nat → Value → World → Prop) (Le : Nat → World → World → Prop) (hap : apartB ops = true) (hsl : slotsB a₀.tmps.size ops = true)
    (hpl : plainB ops = true) (hdf : calmB ops = true) (hst : ∀ i j v w w', j ≠ i → (∀ f, ancB ops f j i = false) → Le i w w' → Pp j v w → Pp j v w') (h0 : Ext (Array.replicate ops.size false) a₀.tmps w₀.drew)
    (hstep : ∀ i listed a w, Mid ops a₀ Ext Pp listed a w → i ∈ Region.ready .any ops listed → ∀ o, ops[i]? = some o → o.wp P a w (StepTo (Ext (listed.setIfInBounds i true)) (Le i) (Pp i) o.dst a w) Q)
    (hend : ∀ listed a w, (∀ i, i < ops.size → listed.getD i false = true) → Mid ops a₀ Ext Pp listed a w → Q .normal a w) : (Code.region id ops true).wpIn (Fence.wide.inRound l) n P Q a₀ w₀ := by
  refine wpIn_region_mid hm Ext Pp Le hap hsl hst h0 (fun i listed a w hM hi o ho => ?_) hend
  unfold wpOpIn
  rw [ho]
  have hg : o.guard = none := by
    unfold plainB at hpl
    rw [Array.all_eq_true_iff_forall_mem] at hpl
    simpa using hpl o (Array.mem_of_getElem? ho)
  have hw : Region.wanted o (yielded ops a.tmps) = true := by simp [Region.wanted, hg]
  simp only [hw, if_true]
  refine wpIn_round (fun c hc => ?_) (hstep i listed a w hM hi o ho)
  unfold calmB at hdf
  rw [Array.all_eq_true_iff_forall_mem] at hdf
  have h2 := hdf o (Array.mem_of_getElem? ho)
  rw [hc] at h2
  cases h2

end

end Go.Proofs.Ytapejaabhkfhjaa

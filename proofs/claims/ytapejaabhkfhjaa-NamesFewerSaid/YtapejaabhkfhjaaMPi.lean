/- Texts Pi Pj Pk in one: each says what it proves. -/
import Derived.Test.YtapejaabhkfhjaaMQa
import Derived.Test.YtapejaabhkfhjaaMPd
/- Sources piece by piece: what holds of the expressions in the iterator's order holds of the pieces. -/
namespace Go.Proofs.Ytapejaabhkfhjaa
open Go.RowKit

theorem All2.split {α β : Type} {R : α → β → Prop} : ∀ {l : List α} {m : List β} {l' : List α} {m' : List β}, l.length = m.length → All2 R (l ++ l') (m ++ m') → All2 R l m ∧ All2 R l' m'
  | [], [], _, _, _, h => ⟨trivial, h⟩
  | _ :: _, _ :: _, _, _, hl, h => by
    obtain ⟨h1, h2⟩ := All2.split (by simpa using hl) h.2
    exact ⟨⟨h.1, h1⟩, h2⟩
  | [], _ :: _, _, _, hl, _ => by simp at hl
  | _ :: _, [], _, _, hl, _ => by simp at hl
theorem all2_from_inv {α β γ : Type} {R : α → β → Prop} (f : Nat → List α) (g : Nat → γ → List β) : ∀ (l : List γ) (k : Nat), (∀ i (h : i < l.length), (f (k + i)).length = (g (k + i) l[i]).length) →
    All2 R ((List.range' k l.length).flatMap f) ((l.zipIdx k).flatMap fun p => g p.2 p.1) → ∀ i (h : i < l.length), All2 R (f (k + i)) (g (k + i) l[i])
  | [], _, _, _, i, h => by simp at h
  | x :: r, k, hl, hA, i, h => by
    rw [List.length_cons, List.range'_succ, List.flatMap_cons, List.zipIdx_cons, List.flatMap_cons] at hA
    obtain ⟨h1, h2⟩ := All2.split (hl 0 (by simp)) hA
    cases i with
    | zero => exact h1
    | succ i =>
      have := all2_from_inv f g r (k + 1) (fun i hi => by have := hl (i + 1) (by simpa using hi); rw [show k + 1 + i = k + (i + 1) by omega]; simpa using this) h2 i (by simpa using h)
      rw [show k + 1 + i = k + (i + 1) by omega] at this
      simpa using this
theorem all2_range_inv {α β γ : Type} {R : α → β → Prop} (f : Nat → List α) (g : Nat → γ → List β) (l : List γ) (n : Nat) (hn : n = l.length) (hl : ∀ i (h : i < l.length), (f i).length = (g i l[i]).length) (hA : All2 R ((List.range n).flatMap f) (l.zipIdx.flatMap fun p => g p.2 p.1)) : ∀ i (h : i < l.length), All2 R (f i) (g i l[i]) := by
  subst hn
  rw [List.range_eq_range'] at hA
  intro i h
  have := all2_from_inv f g l 0 (fun i hi => by rw [Nat.zero_add]; exact hl i hi) hA i h
  rwa [Nat.zero_add] at this
theorem flat_len {α β γ : Type} (f : Nat → List α) (g : Nat → γ → List β) (l : List γ) (n : Nat) (hn : n = l.length) (hl : ∀ i (h : i < l.length), (f i).length = (g i l[i]).length) : ((List.range n).flatMap f).length = (l.zipIdx.flatMap fun p => g p.2 p.1).length :=
  All2.length (R := fun _ _ => True) (all2_range f g l n hn (fun i h => by
    have : ∀ (a : List α) (b : List β), a.length = b.length → All2 (fun _ _ => True) a b := by
      intro a
      induction a with
      | nil => intro b hb; cases b with
        | nil => trivial
        | cons => simp at hb
      | cons x r ih => intro b hb; cases b with
        | nil => simp at hb
        | cons y s => exact ⟨trivial, ih s (by simpa using hb)⟩
    exact this _ _ (hl i h)))
/- what is told of an expression that is handed on -/
def Told (E : Int → Ex → Nat → Nat → Prop) (a : Array Value) (e : ExI) : Prop := ∃ b o, a = #[.pointer (some ⟨b, o, none⟩), .int .i64 e.2] ∧ E e.2 e.1 b o
section
variable {N : Nat → Prop} {E E' : Int → Ex → Nat → Nat → Prop} {R : Int → Rf → Nat → Nat → Prop} {w : World}
theorem told_at {h : Hdr} {g sz i off : Nat} {e : Ex} {lt : Int} (hg : h.a = some ⟨g, 0, none⟩) (ht : Told E' #[h.ptr sz i off, .int .i64 lt] (e, lt)) : E' lt e g (i * sz + off) := by
  obtain ⟨b, o, h1, h2⟩ := ht
  unfold Hdr.ptr at h1
  rw [hat_of hg, Nat.zero_add] at h1
  simp only [Array.mk.injEq, List.cons.injEq, Value.pointer.injEq, Option.some.injEq, Addr.mk.injEq, and_true] at h1
  obtain ⟨rfl, rfl⟩ := h1
  exact h2
theorem told_src {s off b o : Nat} {lt : Int} {e : Ex} (h1 : (#[.pointer (some ⟨s, off, none⟩), .int .i64 lt] : Array Value) = #[.pointer (some ⟨b, o, none⟩), .int .i64 lt]) (h2 : E' lt e b o) : E' lt e s off := by
  simp only [Array.mk.injEq, List.cons.injEq, Value.pointer.injEq, Option.some.injEq, Addr.mk.injEq, and_true] at h1
  obtain ⟨rfl, rfl⟩ := h1
  exact h2
theorem PSrc.told {L : Lay} {x : Src} (h : PSrc N E R w L x) (hA : All2 (Told E') (exprX L) (allE x)) : PSrc N E' R w L x := by
  unfold exprX allE at hA
  obtain ⟨A0, hA⟩ := All2.split (l := many (headPs L.s)) (m := [(x.season, (0 : Int)), (x.cap, 0), (x.start, 0)]) rfl hA
  obtain ⟨A1, hA⟩ := All2.split (flat_len _ (fun i (d : LetD) => [(d.value, 1 + (i : Int))]) x.lets _ h.lets.1 (fun _ _ => rfl)) hA
  obtain ⟨A2, hA⟩ := All2.split (flat_len _ (fun i (d : CropD) => [(d.need, (0 : Int))]) x.crops _ h.crops.1 (fun _ _ => rfl)) hA
  obtain ⟨A3, hA⟩ := All2.split (flat_len _ (fun i (d : ReachD) => [(d.delay, (0 : Int)), (d.cap, 0), (d.bank, 0), (d.siphon, 0), (d.evap0, 0), (d.evap1, 0), (d.seep0, 0), (d.seep1, 0)]) x.reaches _ h.reaches.1 (fun _ _ => rfl)) hA
  obtain ⟨A4, hA⟩ := All2.split (flat_len _ (fun i (d : FarmD) => [(d.area, (0 : Int))]) x.farms _ h.farms.1 (fun _ _ => rfl)) hA
  have hrl : ∀ i (hi : i < x.rots.length), (many (rotPs L.rots i) ++ turnsX (turnsOf L i) (turnsOf L i).n).length = ([(x.rots[i].flow, (0 : Int)), (x.rots[i].frm, 0), (x.rots[i].to, 0)] ++ turnsE x.rots[i].turns).length := fun i hi => by
    obtain ⟨g, g1, g0, ty, _, _, _, _, _, _, _, ht⟩ := h.rots.2.2 i hi
    rw [List.length_append, List.length_append]
    congr 1
    exact flat_len _ (fun k (d : TurnD) => [(d.len, (0 : Int))]) x.rots[i].turns _ ht.1 (fun _ _ => rfl)
  obtain ⟨A5, hA⟩ := All2.split (flat_len _ (fun i (d : RotD) => [(d.flow, (0 : Int)), (d.frm, 0), (d.to, 0)] ++ turnsE d.turns) x.rots _ h.rots.1 hrl) hA
  obtain ⟨A6, A7⟩ := All2.split (flat_len _ (fun i (d : RightD) => [(d.flow, (0 : Int)), (d.frm, 0), (d.to, 0), (d.every, 0), (d.len, 0)]) x.rights _ h.rights.1 (fun _ _ => rfl)) hA
  have B1 := all2_range_inv _ (fun i (d : LetD) => [(d.value, 1 + (i : Int))]) x.lets _ h.lets.1 (fun _ _ => rfl) A1
  have B2 := all2_range_inv _ (fun i (d : CropD) => [(d.need, (0 : Int))]) x.crops _ h.crops.1 (fun _ _ => rfl) A2
  have B3 := all2_range_inv _ (fun i (d : ReachD) => [(d.delay, (0 : Int)), (d.cap, 0), (d.bank, 0), (d.siphon, 0), (d.evap0, 0), (d.evap1, 0), (d.seep0, 0), (d.seep1, 0)]) x.reaches _ h.reaches.1 (fun _ _ => rfl) A3
  have B4 := all2_range_inv _ (fun i (d : FarmD) => [(d.area, (0 : Int))]) x.farms _ h.farms.1 (fun _ _ => rfl) A4
  have B5 := all2_range_inv _ (fun i (d : RotD) => [(d.flow, (0 : Int)), (d.frm, 0), (d.to, 0)] ++ turnsE d.turns) x.rots _ h.rots.1 hrl A5
  have B6 := all2_range_inv _ (fun i (d : RightD) => [(d.flow, (0 : Int)), (d.frm, 0), (d.to, 0), (d.every, 0), (d.len, 0)]) x.rights _ h.rights.1 (fun _ _ => rfl) A6
  have B7 := all2_range_inv _ (fun i (d : DutyD) => [(d.due, (0 : Int))]) x.duties _ h.duties.1 (fun _ _ => rfl) A7
  obtain ⟨⟨b0, o0, t0, s0⟩, ⟨b1, o1, t1, s1⟩, ⟨b2, o2, t2, s2⟩, _⟩ := A0
  refine ⟨h.ty, h.name, told_src t0 s0, told_src t1 s1, told_src t2 s2, h.hlets, h.hcrops, h.hreaches, h.hfarms, h.hrots, h.hrights, h.hduties, ⟨h.lets.1, h.lets.2.1, fun i hi => ?_⟩, ⟨h.crops.1, h.crops.2.1, fun i hi => ?_⟩, ⟨h.reaches.1, h.reaches.2.1, fun i hi => ?_⟩, ⟨h.farms.1, h.farms.2.1, fun i hi => ?_⟩, ⟨h.rots.1, h.rots.2.1, fun i hi => ?_⟩, ⟨h.rights.1, h.rights.2.1, fun i hi => ?_⟩, ⟨h.duties.1, h.duties.2.1, fun i hi => ?_⟩⟩
  · obtain ⟨g, g1, g0, ty, g2, _⟩ := h.lets.2.2 i hi
    exact ⟨g, g1, g0, ty, g2, told_at g1 (B1 i hi).1⟩
  · obtain ⟨g, g1, g0, ty, g2, _⟩ := h.crops.2.2 i hi
    exact ⟨g, g1, g0, ty, g2, told_at g1 (B2 i hi).1⟩
  · obtain ⟨g, g1, g0, ty, g2, g3, _⟩ := h.reaches.2.2 i hi
    obtain ⟨k0, k1, k2, k3, k4, k5, k6, k7, _⟩ := B3 i hi
    exact ⟨g, g1, g0, ty, g2, g3, told_at g1 k0, told_at g1 k1, told_at g1 k2, told_at g1 k3, told_at g1 k4, told_at g1 k5, told_at g1 k6, told_at g1 k7⟩
  · obtain ⟨g, g1, g0, ty, g2, g3, g4, _, g5⟩ := h.farms.2.2 i hi
    exact ⟨g, g1, g0, ty, g2, g3, g4, told_at g1 (B4 i hi).1, g5⟩
  · obtain ⟨g, g1, g0, ty, g2, g3, g4, _, _, _, g5, ht⟩ := h.rots.2.2 i hi
    obtain ⟨k0, hk⟩ := All2.split (l := many (rotPs L.rots i)) (m := [(x.rots[i].flow, (0 : Int)), (x.rots[i].frm, 0), (x.rots[i].to, 0)]) rfl (B5 i hi)
    obtain ⟨k0, k1, k2, _⟩ := k0
    have C := all2_range_inv _ (fun k (d : TurnD) => [(d.len, (0 : Int))]) x.rots[i].turns _ ht.1 (fun _ _ => rfl) hk
    refine ⟨g, g1, g0, ty, g2, g3, g4, told_at g1 k0, told_at g1 k1, told_at g1 k2, g5, ht.1, ht.2.1, fun k hk => ?_⟩
    obtain ⟨g, g1, g0, ty, g2, _⟩ := ht.2.2 k hk
    exact ⟨g, g1, g0, ty, g2, told_at g1 (C k hk).1⟩
  · obtain ⟨g, g1, g0, ty, g2, g3, g4, g5, g6, _⟩ := h.rights.2.2 i hi
    obtain ⟨k0, k1, k2, k3, k4, _⟩ := B6 i hi
    exact ⟨g, g1, g0, ty, g2, g3, g4, g5, g6, told_at g1 k0, told_at g1 k1, told_at g1 k2, told_at g1 k3, told_at g1 k4⟩
  · obtain ⟨g, g1, g0, ty, g2, g3, g4, _⟩ := h.duties.2.2 i hi
    exact ⟨g, g1, g0, ty, g2, g3, g4, told_at g1 (B7 i hi).1⟩
end

end Go.Proofs.Ytapejaabhkfhjaa

/- The program's cloned: what holds while the expressions are copied. -/
namespace Go.Proofs.Ytapejaabhkfhjaa
open Go.RowKit

/- the k-th expression that is handed on lies at o of block b -/
def posK (L : Lay) (k b o : Nat) (lt : Int) : Prop := (exprX L)[k]? = some #[.pointer (some ⟨b, o, none⟩), .int .i64 lt]
/- the world at the start: where the expressions lie -/
structure ClCtx (N : Nat → Prop) (W4 : World) (L : Lay) (x : Src) : Prop where
  epos : ∀ j b o lt, posK L j b o lt → EPos W4 b o
  old : ∀ b, N b → b < W4.heap.size ∧ ∀ j o lt, ¬ posK L j b o lt
  val : ∀ j b o lt, posK L j b o lt → ∀ h : j < (allE x).length, ∃ c, W4.rangeAt b o c ∧ ExV N W4 (allE x)[j].1 c
structure ClJ (W4 : World) (L : Lay) (x : Src) (k : Nat) (O : Nat → Prop) (W : World) : Prop where
  os : W.os = W4.os
  tape : W.tape = W4.tape
  output : W.output = W4.output
  size : W4.heap.size ≤ W.heap.size
  own : ∀ b, O b → W4.heap.size ≤ b
  cells : ∀ b q, b < W4.heap.size → (∀ j o lt, j < k → posK L j b o lt → q ≠ o + 5) → W.cell? ⟨b, q, none⟩ = W4.cell? ⟨b, q, none⟩
  ty : ∀ b t, Ty W4 b t → Ty W b t
  old : ∀ b, b < W4.heap.size → (∀ j o lt, j < k → ¬ posK L j b o lt) → W.heap[b]? = W4.heap[b]?
  done : ∃ M : Nat → Prop, (∀ b, M b → ¬ O b ∧ W4.heap.size ≤ b ∧ b < W.heap.size) ∧ ∀ j b o lt, j < k → posK L j b o lt → ∀ h : j < (allE x).length, b < W4.heap.size ∧ ∃ a c, W.cell? ⟨b, o + 5, none⟩ = some (.slice a ((allE x)[j].1).args.length c) ∧ RowT W M a 0 ((allE x)[j].1).args
section
variable {N : Nat → Prop} {W4 W w' : World} {L : Lay} {x : Src} {k b o : Nat} {lt : Int} {O : Nat → Prop}
theorem ClJ.start (W4 : World) (L : Lay) (x : Src) : ClJ W4 L x 0 (fun _ => False) W4 :=
  ⟨rfl, rfl, rfl, Nat.le_refl _, fun _ h => h.elim, fun _ _ _ _ => rfl, fun _ _ h => h, fun _ _ _ => rfl, fun _ => False, fun _ h => h.elim, fun j _ _ _ hj => by omega⟩
theorem ClJ.stays : Stays (ClJ W4 L x) := by
  intro k O W O' W' h hz ho ht hu hk hO
  have hold : ∀ b, b < W4.heap.size → W'.heap[b]? = W.heap[b]? := fun b hb => hk b (fun hOb => by have := h.own b hOb; omega) (Nat.lt_of_lt_of_le hb h.size)
  obtain ⟨M, m1, m2⟩ := h.done
  refine ⟨ho.trans h.os, ht.trans h.tape, hu.trans h.output, Nat.le_trans h.size hz, fun b hb => ?_, fun b q hb hq => (cell_of_block (hold b hb)).trans (h.cells b q hb hq), fun b t hb => (h.ty b t hb).same (hold b hb.lt), fun b hb hq => (hold b hb).trans (h.old b hb hq), M, fun b hb => ?_, fun j b o lt hj hp hl => ?_⟩
  · rcases hO b hb with h1 | h1
    · exact h.own b h1
    · have := h.size; omega
  · obtain ⟨n1, n2, n3⟩ := m1 b hb
    refine ⟨fun hOb => ?_, n2, by omega⟩
    rcases hO b hOb with h1 | h1
    · exact n1 h1
    · omega
  · obtain ⟨hbl, a, c, d1, d2⟩ := m2 j b o lt hj hp hl
    exact ⟨hbl, a, c, (cell_of_block (hold b hbl)).trans d1, d2.same (fun _ h _ => h) (fun c hc hcl => hk c (m1 c hc).1 hcl)⟩
theorem ClJ.read (hc : ClCtx N W4 L x) (h : ClJ W4 L x k O W) (hp : posK L k b o lt) (hl : k < (allE x).length) :
    ∃ M : Nat → Prop, (∀ c, M c → N c ∨ (W4.heap.size ≤ c ∧ c < W.heap.size)) ∧ ∃ cs, W.rangeAt b o cs ∧ ExV M W (allE x)[k].1 cs := by
  obtain ⟨c, c1, c2⟩ := hc.val k b o lt hp hl
  obtain ⟨a, cap, rfl, e1, e2, e3⟩ := c2.cells
  obtain ⟨r0, r1, r2, r3, r4, r5⟩ := rangeAt6 c1
  have hbl := (hc.epos k b o lt hp).lt
  have hN : ∀ c, N c → W.heap[c]? = W4.heap[c]? := fun c hcn => h.old c (hc.old c hcn).1 (fun j o lt _ => (hc.old c hcn).2 j o lt)
  have hcell : ∀ i, i < 5 → W.cell? ⟨b, o + i, none⟩ = W4.cell? ⟨b, o + i, none⟩ := fun i hi => h.cells b _ hbl (fun j o' lt' _ hp' he => by
    have := (hc.epos k b o lt hp).uniq (hc.epos j b o' lt' hp') (j := i) (j' := 5) (by omega) (by omega) he
    omega)
  obtain ⟨M, m1, m2⟩ := h.done
  by_cases hex : ∃ j lt', j < k ∧ posK L j b o lt'
  · obtain ⟨j, lt', hj, hp'⟩ := hex
    have hjl : j < (allE x).length := by omega
    obtain ⟨_, a', cap', d1, d2⟩ := m2 j b o lt' hj hp' hjl
    obtain ⟨c', c1', c2'⟩ := hc.val j b o lt' hp' hjl
    have hcc : c' = [.int .i64 (allE x)[k].1.op, .int .i64 (allE x)[k].1.n, .int .i64 (allE x)[k].1.u, .string (allE x)[k].1.rn, .int .i64 (allE x)[k].1.ri, .slice a (allE x)[k].1.args.length cap] := by
      refine List.ext_getElem (by rw [c2'.len]; rfl) fun q hq hq' => ?_
      have h1 := c1' q _ (List.getElem?_eq_getElem hq)
      have h2 := c1 q _ (List.getElem?_eq_getElem hq')
      rw [h1] at h2
      exact Option.some.inj h2
    subst hcc
    have he : (allE x)[j].1 = (allE x)[k].1 := exV_inj _ c2' c2
    rw [he] at d1 d2
    refine ⟨fun c => N c ∨ M c, fun c hc => hc.imp id (fun hm => (m1 c hm).2), _, range_cons ((hcell 0 (by omega)).trans r0) (range_cons ((hcell 1 (by omega)).trans r1) (range_cons ((hcell 2 (by omega)).trans r2) (range_cons ((hcell 3 (by omega)).trans r3) (range_cons ((hcell 4 (by omega)).trans r4) (range_one d1))))), ExV.mk' e1 e2 (d2.rowV (fun c hm _ => .inr hm))⟩
  · have h5 : W.cell? ⟨b, o + 5, none⟩ = W4.cell? ⟨b, o + 5, none⟩ := h.cells b _ hbl (fun j o' lt' hj hp' he => by
      have := (hc.epos k b o lt hp).uniq (hc.epos j b o' lt' hp') (j := 5) (j' := 5) (by omega) (by omega) he
      obtain ⟨_, rfl⟩ := this
      exact hex ⟨j, lt', hj, hp'⟩)
    exact ⟨N, fun c hc => .inl hc, _, range_cons ((hcell 0 (by omega)).trans r0) (range_cons ((hcell 1 (by omega)).trans r1) (range_cons ((hcell 2 (by omega)).trans r2) (range_cons ((hcell 3 (by omega)).trans r3) (range_cons ((hcell 4 (by omega)).trans r4) (range_one (h5.trans r5)))))), c2.same (fun _ h => h) hN⟩
theorem ClJ.next (hc : ClCtx N W4 L x) (h : ClJ W4 L x k O W) (hp : posK L k b o lt) (hl : k < (allE x).length) (hOW : ∀ b, O b → b < W.heap.size) (hcl : ClE W b o (allE x)[k].1.args w') : ClJ W4 L x (k + 1) O w' ∧ Same O W w' := by
  obtain ⟨s1, s2, s3, a, cap, s4, s5⟩ := hcl
  have hbl := (hc.epos k b o lt hp).lt
  have hz := h.size
  have hne : ∀ c, W4.heap.size ≤ c → c < W.heap.size → w'.heap[c]? = W.heap[c]? := fun c h1 h2 => s1.block c h2 (fun e => by cases e; omega)
  obtain ⟨M, m1, m2⟩ := h.done
  refine ⟨⟨s1.os.trans h.os, s1.tape.trans h.tape, s1.output.trans h.output, Nat.le_trans hz s1.size, h.own, fun c q hcl hq => ?_, fun c t ht => ?_, fun c hcl hq => ?_, fun c => M c ∨ (W.heap.size ≤ c ∧ c < w'.heap.size), fun c hm => ?_, fun j b' o' lt' hj hp' hjl => ?_⟩, s1.size, fun c hO => hne c (h.own c hO) (hOW c hO)⟩
  · by_cases hcb : c = b
    · subst hcb
      rw [s2 q (hq k o lt (by omega) hp), h.cells c q hcl (fun j o lt hj => hq j o lt (by omega))]
    · rw [cell_far s1 (by omega) hcb, h.cells c q hcl (fun j o lt hj => hq j o lt (by omega))]
  · by_cases hcb : c = b
    · subst hcb; exact s3 t (h.ty c t ht)
    · exact (h.ty c t ht).same (s1.block c (h.ty c t ht).lt (fun e => hcb (by cases e; rfl)))
  · have hcb : c ≠ b := fun e => hq k o lt (by omega) (e ▸ hp)
    rw [s1.block c (by omega) (fun e => hcb (by cases e; rfl)), h.old c hcl (fun j o lt hj => hq j o lt (by omega))]
  · rcases hm with hm | hm
    · obtain ⟨n1, n2, n3⟩ := m1 c hm
      exact ⟨n1, n2, by have := s1.size; omega⟩
    · exact ⟨fun hO => by have := hOW c hO; omega, by omega, hm.2⟩
  · have hnew : RowT w' (fun c => M c ∨ (W.heap.size ≤ c ∧ c < w'.heap.size)) a 0 (allE x)[k].1.args := s5.same (fun c h1 h2 => .inr ⟨h1, h2⟩) (fun _ _ _ => rfl)
    by_cases hsame : b' = b ∧ o' = o
    · obtain ⟨rfl, rfl⟩ := hsame
      obtain ⟨c, c1, c2⟩ := hc.val k b' o' lt hp hl
      obtain ⟨c', c1', c2'⟩ := hc.val j b' o' lt' hp' hjl
      have hcc : c' = c := by
        refine List.ext_getElem (by rw [c2'.len, c2.len]) fun q hq hq' => ?_
        have h1 := c1' q _ (List.getElem?_eq_getElem hq)
        have h2 := c1 q _ (List.getElem?_eq_getElem hq')
        rw [h1] at h2
        exact Option.some.inj h2
      subst hcc
      have he : (allE x)[j].1 = (allE x)[k].1 := exV_inj _ c2' c2
      rw [he]
      exact ⟨hbl, a, cap, s4, hnew⟩
    · have hjk : j < k := by
        rcases Nat.lt_or_ge j k with h9 | h9
        · exact h9
        · exfalso
          obtain rfl : j = k := by omega
          unfold posK at hp hp'
          rw [hp] at hp'
          simp only [Option.some.injEq, Array.mk.injEq, List.cons.injEq, Value.pointer.injEq, Addr.mk.injEq, and_true] at hp'
          exact hsame ⟨hp'.1.1.symm, hp'.1.2.symm⟩
      obtain ⟨hbl', a', cap', d1, d2⟩ := m2 j b' o' lt' hjk hp' hjl
      refine ⟨hbl', a', cap', ?_, d2.same (fun c hm _ => .inl hm) (fun c hm hcl => hne c (m1 c hm).2.1 hcl)⟩
      by_cases hbb : b' = b
      · subst hbb
        rw [s2 _ (fun e => hsame ⟨rfl, by omega⟩)]; exact d1
      · rw [cell_far s1 (by have := (hc.epos j b' o' lt' hp').lt; omega) hbb]; exact d1
end

end Go.Proofs.Ytapejaabhkfhjaa

/- Sources piece by piece: headers, cells. -/
namespace Go.Proofs.Ytapejaabhkfhjaa
open Go.RowKit
section
variable {N : Nat → Prop} {E : Int → Ex → Nat → Nat → Prop} {R : Int → Rf → Nat → Nat → Prop} {w W : World} {L : Lay} {x : Src}
theorem PSrc.ok (h : PSrc N E R w L x) : L.Ok := by
  refine ⟨h.lets.ok, h.crops.ok, h.reaches.ok, h.farms.ok, h.rots.ok, h.rights.ok, h.duties.ok, fun i hi => ?_⟩
  obtain ⟨_, _, _, _, _, _, _, _, _, _, _, ht⟩ := h.rots.2.2 i (by rw [← h.rots.1]; exact hi)
  exact ht.ok
theorem PSrc.heads (h : PSrc N E R w L x) {Bs : Nat} (hp : ∀ b o, PPos w b o → W.cell? ⟨b, o, none⟩ = w.cell? ⟨b, o, none⟩) (hbox : W.cell? ⟨Bs, 0, none⟩ = some (.pointer (some ⟨L.s, 0, none⟩))) : Heads L Bs W := by
  have P0 : ∀ o, cls 35 o = 0 → W.cell? ⟨L.s, o, none⟩ = w.cell? ⟨L.s, o, none⟩ := fun o ho => hp _ _ ⟨_, h.ty, ho⟩
  refine ⟨hbox, (P0 _ rfl).trans h.hlets, (P0 _ rfl).trans h.hcrops, (P0 _ rfl).trans h.hreaches, (P0 _ rfl).trans h.hfarms, (P0 _ rfl).trans h.hrots, (P0 _ rfl).trans h.hrights, (P0 _ rfl).trans h.hduties, fun i hi => ?_⟩
  obtain ⟨g, g1, _, ty, _, _, _, _, _, _, hc, _⟩ := h.rots.2.2 i (by rw [← h.rots.1]; exact hi)
  rw [hat_of g1, Nat.zero_add]
  exact (hp _ _ (ppos_row ty isRot i 22 rfl)).trans hc
theorem one_src {cs : List Value} (h : SrcV N w L cs x) : ∀ v ∈ cs, v.oneCell' = true := by
  obtain ⟨c0, c1, c2, rfl, g0, g1, g2⟩ := h.cells
  refine one_cons rfl (one_app (one_ex g0) (one_app (one_ex g1) (one_app (one_ex g2) ?_)))
  intro v hv
  simp at hv
  rcases hv with rfl | rfl | rfl | rfl | rfl | rfl | rfl <;> rfl
/- the expressions' places -/
theorem posK_at (h : All2 (AtE N E w) (exprX L) (allE x)) {j b o : Nat} {lt : Int} (hp : posK L j b o lt) : N b ∧ EPos w b o ∧ ∀ hj : j < (allE x).length, E (allE x)[j].2 (allE x)[j].1 b o := by
  unfold posK at hp
  obtain ⟨hl, he⟩ := List.getElem?_eq_some_iff.1 hp
  have hl2 : j < (allE x).length := by rw [← h.length]; exact hl
  obtain ⟨b', o', h1, h2, h3, h4⟩ := h.get j hl hl2
  rw [he] at h1
  simp only [Array.mk.injEq, List.cons.injEq, Value.pointer.injEq, Option.some.injEq, Addr.mk.injEq, and_true] at h1
  obtain ⟨⟨rfl, rfl⟩, _⟩ := h1
  exact ⟨h2, h3, fun _ => h4⟩
theorem posK_get (h : All2 (AtE N E w) (exprX L) (allE x)) {j : Nat} (hj : j < (exprX L).length) : ∃ b o lt, posK L j b o lt := by
  obtain ⟨b, o, h1, _⟩ := h.get j hj (by rw [← h.length]; exact hj)
  exact ⟨b, o, _, by unfold posK; rw [List.getElem?_eq_getElem hj, h1]⟩
/- at the end: all copies are told -/
theorem told_of {W4 : World} {O : Nat → Prop} {B : Nat → Prop} {Nx : Nat → Prop} (h : All2 (AtE N E W4) (exprX L) (allE x)) (hc : ClCtx Nx W4 L x) (hJ : ClJ W4 L x (exprX L).length O W) (hB : ∀ b, W4.heap.size ≤ b → ¬ O b → B b) :
    All2 (Told fun (_ : Int) e b o => ∃ c, W.rangeAt b o c ∧ ExT W B e c) (exprX L) (allE x) := by
  have key : ∀ (l : List (Array Value)) (m : List ExI), l.length = m.length → (∀ i (h1 : i < l.length) (h2 : i < m.length), Told (fun (_ : Int) e b o => ∃ c, W.rangeAt b o c ∧ ExT W B e c) l[i] m[i]) → All2 (Told fun (_ : Int) e b o => ∃ c, W.rangeAt b o c ∧ ExT W B e c) l m := by
    intro l
    induction l with
    | nil => intro m hm _; cases m with
      | nil => trivial
      | cons => simp at hm
    | cons a l ih => intro m hm hh; cases m with
      | nil => simp at hm
      | cons e m => exact ⟨hh 0 (by simp) (by simp), ih m (by simpa using hm) (fun i h1 h2 => hh (i + 1) (by simpa using h1) (by simpa using h2))⟩
  refine key _ _ h.length fun i h1 h2 => ?_
  obtain ⟨b, o, k1, k2, k3, k4⟩ := h.get i h1 h2
  have hp : posK L i b o (allE x)[i].2 := by unfold posK; rw [List.getElem?_eq_getElem h1, k1]
  obtain ⟨M, m1, m2⟩ := hJ.done
  obtain ⟨hbl, a, cap, d1, d2⟩ := m2 i b o _ h1 hp h2
  obtain ⟨c, c1, c2⟩ := hc.val i b o _ hp h2
  obtain ⟨a0, cap0, rfl, e1, e2, e3⟩ := c2.cells
  obtain ⟨r0, r1, r2, r3, r4, r5⟩ := rangeAt6 c1
  have hcell : ∀ q, q < 5 → W.cell? ⟨b, o + q, none⟩ = W4.cell? ⟨b, o + q, none⟩ := fun q hq => hJ.cells b _ hbl (fun j o' lt' _ hp' he => by
    have := (hc.epos i b o _ hp).uniq (hc.epos j b o' lt' hp') (j := q) (j' := 5) (by omega) (by omega) he
    omega)
  exact ⟨b, o, k1, _, range_cons ((hcell 0 (by omega)).trans r0) (range_cons ((hcell 1 (by omega)).trans r1) (range_cons ((hcell 2 (by omega)).trans r2) (range_cons ((hcell 3 (by omega)).trans r3) (range_cons ((hcell 4 (by omega)).trans r4) (range_one d1))))), ExT.mk' e1 e2 (d2.same (fun b hb _ => hB b (m1 b hb).2.1 (m1 b hb).1) (fun _ _ _ => rfl))⟩
theorem ppos_stay {Nx : Nat → Prop} {W4 : World} {k : Nat} {O : Nat → Prop} (hc : ClCtx Nx W4 L x) (hJ : ClJ W4 L x k O W) {b q : Nat} {t : Nat} (ty : Ty W4 b t) (hcl : cls t q ≠ 1) : W.cell? ⟨b, q, none⟩ = W4.cell? ⟨b, q, none⟩ :=
  hJ.cells b q ty.lt (fun j o lt _ hp he => by
    obtain ⟨t', h1, h2⟩ := hc.epos j b o lt hp
    obtain rfl := ty.inj h1
    exact hcl (by rw [he]; exact (h2 5 (by omega)).1))
end

end Go.Proofs.Ytapejaabhkfhjaa

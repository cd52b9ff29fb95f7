/- NamesFewer: the region that copies the source twice. -/
import Derived.Test.YtapejaabhkfhjaaMVc
import Derived.Test.YtapejaabhkfhjaaMSi
import Derived.Test.YtapejaabhkfhjaaMUf
namespace Go.Proofs.Ytapejaabhkfhjaa
open Go.RowKit

def IsBox (W w : World) (v : Value) (b : Nat) : Prop := v = .pointer (some ⟨b, 0, none⟩) ∧ W.heap.size ≤ b ∧ w.heap[b]? = some (.cells zeroCs.toArray 35 (0, 0))
structure F5Ext (W : World) (R : Array Value) (l : Array Bool) (tm : Array Value) (w : World) : Prop where
  one : l.getD 4 false = false → Below W.heap.size W w ∧ (l.getD 2 false = true → ∃ b, IsBox W w (tm.getD 3 undef) b) ∧ (l.getD 3 false = true → ∃ c, IsBox W w (tm.getD 4 undef) c) ∧ (l.getD 2 false = true → l.getD 3 false = true → tm.getD 3 undef ≠ tm.getD 4 undef)
  two : l.getD 4 false = true → l.getD 5 false = false → ∃ w1 b c, b ≠ c ∧ IsBox W w1 (tm.getD 3 undef) b ∧ IsBox W w1 (tm.getD 4 undef) c ∧ Below W.heap.size W w1 ∧ w = w1.setRow b R
  three : l.getD 5 false = true → ∃ w1 b c, b ≠ c ∧ IsBox W w1 (tm.getD 3 undef) b ∧ IsBox W w1 (tm.getD 4 undef) c ∧ Below W.heap.size W w1 ∧ w = (w1.setRow b R).setRow c R
def f5P (R : Array Value) (j : Nat) (v : Value) (_ : World) : Prop := match j with
  | 0 => v = .agg R
  | 1 => v = .agg R
  | _ => True
theorem F5Ext.quiet {W w : World} {R : Array Value} {l : Array Bool} {tm : Array Value} {i t : Nat} {v : Value} (h : F5Ext W R l tm w) (hi : i = 0 ∨ i = 1) (ht : t ≠ 3 ∧ t ≠ 4) : F5Ext W R (l.setIfInBounds i true) (tm.setIfInBounds t v) w := by
  have e : ∀ j, j ≠ 0 → j ≠ 1 → (l.setIfInBounds i true).getD j false = l.getD j false := fun j h0 h1 => set_other (by omega)
  refine ⟨?_, ?_, ?_⟩
  · rw [e 4 (by decide) (by decide), e 2 (by decide) (by decide), e 3 (by decide) (by decide), tset_other ht.1, tset_other ht.2]; exact h.one
  · rw [e 4 (by decide) (by decide), e 5 (by decide) (by decide), tset_other ht.1, tset_other ht.2]; exact h.two
  · rw [e 5 (by decide) (by decide), tset_other ht.1, tset_other ht.2]; exact h.three
theorem IsBox.up {W w w' : World} {v : Value} {b : Nat} (h : IsBox W w v b) (hb : Below w.heap.size w w') : IsBox W w' v b := ⟨h.1, h.2.1, (hb.block b (Array.getElem?_eq_some_iff.1 h.2.2).1).trans h.2.2⟩
set_option maxRecDepth 100000 in
set_option maxHeartbeats 8000000 in
theorem reg5F {a₀ : Act} {W0 : World} {Q : Exit → Act → World → Prop} {B : Nat} {ks : List Value} (ops : Array Oper) (hops : regOf Try.f8 5 = some ops)
    (ht1 : a₀.tmps.getD 1 undef = .pointer (some ⟨B, 0, none⟩)) (hz : a₀.tmps.size = 49) (hBlt : B < W0.heap.size) (hr : W0.rangeAt B 0 ks) (h26 : ks.length = 26) (hone : ks.toArray.all (·.oneCell') = true)
    (hQ : ∀ (a : Act) w1 b c, a.tmps.size = 49 → a.defers = a₀.defers → (∀ t, t ∉ [3, 4, 17, 18] → a.tmps.getD t undef = a₀.tmps.getD t undef) → b ≠ c → IsBox W0 w1 (a.tmps.getD 3 undef) b → IsBox W0 w1 (a.tmps.getD 4 undef) c → Below W0.heap.size W0 w1 → Q .normal a ((w1.setRow b ks.toArray).setRow c ks.toArray)) :
    (Code.region 5 ops true).wp Try.prog Q a₀ W0 := by
  obtain rfl := Option.some.inj ((rfl : regOf Try.f8 5 = some _).symm.trans hops)
  clear hops
  have hinfo : (Try.prog.info? 35).map (·.size) = some ks.length := by rw [h26]; kernel_rfl
  have hinfo2 : (Try.prog.info? 35).map (·.size) = some ks.toArray.size := by rw [List.size_toArray]; exact hinfo
  have hz26 : zeroCs.toArray.size = ks.toArray.size := by rw [List.size_toArray, List.size_toArray, h26]; rfl
  refine wp_region_mids (by kernel_rfl) (F5Ext W0 ks.toArray) (f5P ks.toArray) (fun _ _ _ => True) (by kernel_rfl) (by rw [hz]; kernel_rfl) (by kernel_rfl) (fun _ j v w w' _ _ _ h => by unfold f5P at h ⊢; exact h) ⟨fun _ => ⟨(Below.refl _ _).drew, fun h => (by cases h), fun h => (by cases h), fun h => (by cases h)⟩, fun h => (by cases h), fun h => (by cases h)⟩ ?_ ?_
  · intro ix listed a w' hM hix o ho
    have HE := Lib.hid hM.ext
    have hlt := (Array.getElem?_eq_some_iff.1 ho).1
    have hsz := hM.size
    match ix, hlt with
    | 0, _ =>
      have d := hM.old hix 1 (by kernel_rfl) _ ht1
      have n4 : listed.getD 4 false = false := by
        rw [Bool.eq_false_iff]; intro h6
        have := anc_listed hM.down 6 4 0 (by kernel_rfl) h6
        rw [hM.not_yet hix] at this; cases this
      have HRd := Lib.hid (rangeAt_block hr ((HE.out.one n4).1.block _ hBlt))
      obtain rfl := Option.some.inj ho
      refine wp_load_mid 35 _ rfl B 0 (by simpa [Act.eval] using d) ks _ HRd.out Try.underlying35 rfl hinfo ?_
      exact ⟨_, rfl, HE.out.quiet (.inl rfl) (by decide), trivial, rfl⟩
    | 1, _ =>
      have d := hM.old hix 1 (by kernel_rfl) _ ht1
      have n5 : listed.getD 5 false = false := by
        rw [Bool.eq_false_iff]; intro h6
        have := anc_listed hM.down 6 5 1 (by kernel_rfl) h6
        rw [hM.not_yet hix] at this; cases this
      have hrd : w'.rangeAt B 0 ks := by
        cases h4 : listed.getD 4 false with
        | false => exact rangeAt_block hr ((HE.out.one h4).1.block _ hBlt)
        | true =>
          obtain ⟨w1, b, c, _, hb, _, hbl, rfl⟩ := HE.out.two h4 n5
          exact rangeAt_block hr ((setRow_other _ _ (by have := hb.2.1; omega)).trans (hbl.block _ hBlt))
      have HRd := Lib.hid hrd
      obtain rfl := Option.some.inj ho
      refine wp_load_mid 35 _ rfl B 0 (by simpa [Act.eval] using d) ks _ HRd.out Try.underlying35 rfl hinfo ?_
      exact ⟨_, rfl, HE.out.quiet (.inr rfl) (by decide), trivial, rfl⟩
    | 2, _ =>
      have n4 : listed.getD 4 false = false := by
        rw [Bool.eq_false_iff]; intro h6
        have := anc_listed hM.down 6 4 2 (by kernel_rfl) h6
        rw [hM.not_yet hix] at this; cases this
      have n5 : listed.getD 5 false = false := by
        rw [Bool.eq_false_iff]; intro h6
        have := anc_listed hM.down 6 5 4 (by kernel_rfl) h6
        rw [n4] at this; cases this
      have HN4 := Lib.hid n4; have HN5 := Lib.hid n5
      have HT : Hid (3 < a.tmps.size) := Lib.hid (by rw [hM.tmps, hz]; decide)
      obtain ⟨q1, q2, q3, q4⟩ := HE.out.one n4
      have HQ1 := Lib.hid q1; have HQ3 := Lib.hid q3
      clear n4 n5 q1 q2 q3 q4 hr hone hinfo hinfo2 hz26
      obtain rfl := Option.some.inj ho
      go_simp
      have hup : Below w'.heap.size w' (w'.alloc (.cells zeroCs.toArray 35)) := (Below.refl _ _).alloc (Nat.le_refl _) _
      have hnew : (w'.alloc (.cells zeroCs.toArray 35)).heap[w'.heap.size]? = some (.cells zeroCs.toArray 35 (0, 0)) := World.alloc_heap_new _ _
      have es : ∀ v : Value, (a.put (some 3) v).tmps.getD 3 undef = v := fun v => put_getD_same _ HT.out
      have eo : ∀ v : Value, (a.put (some 3) v).tmps.getD 4 undef = a.tmps.getD 4 undef := fun v => put_getD_other _ (by decide)
      refine ⟨_, rfl, ⟨fun _ => ⟨HQ1.out.alloc HQ1.out.size _, fun _ => ⟨w'.heap.size, (es _), HQ1.out.size, hnew⟩, fun h3 => ?_, fun _ h3 => ?_⟩, fun h4 => ?_, fun h5 => ?_⟩, trivial, trivial⟩
      · rw [set_other (by decide)] at h3
        obtain ⟨c, hc⟩ := HQ3.out h3
        refine ⟨c, ?_⟩
        show IsBox W0 _ ((a.put (some 3) _).tmps.getD 4 undef) c
        rw [eo]; exact hc.up hup
      · rw [set_other (by decide)] at h3
        obtain ⟨c, hc⟩ := HQ3.out h3
        show (a.put (some 3) _).tmps.getD 3 undef ≠ (a.put (some 3) _).tmps.getD 4 undef
        rw [es, eo, hc.1]
        intro e
        have hlt := (Array.getElem?_eq_some_iff.1 hc.2.2).1
        have e2 := congrArg (fun v => match v with | Value.pointer (some a) => a.block | _ => 0) e
        simp only at e2
        omega
      · rw [set_other (by decide), HN4.out] at h4; cases h4
      · rw [set_other (by decide), HN5.out] at h5; cases h5
    | 3, _ =>
      have n4 : listed.getD 4 false = false := by
        rw [Bool.eq_false_iff]; intro h6
        have := anc_listed hM.down 6 4 3 (by kernel_rfl) h6
        rw [hM.not_yet hix] at this; cases this
      have n5 : listed.getD 5 false = false := by
        rw [Bool.eq_false_iff]; intro h6
        have := anc_listed hM.down 6 5 4 (by kernel_rfl) h6
        rw [n4] at this; cases this
      have HN4 := Lib.hid n4; have HN5 := Lib.hid n5
      have HT : Hid (4 < a.tmps.size) := Lib.hid (by rw [hM.tmps, hz]; decide)
      obtain ⟨q1, q2, q3, q4⟩ := HE.out.one n4
      have HQ1 := Lib.hid q1; have HQ2 := Lib.hid q2
      clear n4 n5 q1 q2 q3 q4 hr hone hinfo hinfo2 hz26
      obtain rfl := Option.some.inj ho
      go_simp
      have hup : Below w'.heap.size w' (w'.alloc (.cells zeroCs.toArray 35)) := (Below.refl _ _).alloc (Nat.le_refl _) _
      have hnew : (w'.alloc (.cells zeroCs.toArray 35)).heap[w'.heap.size]? = some (.cells zeroCs.toArray 35 (0, 0)) := World.alloc_heap_new _ _
      have es : ∀ v : Value, (a.put (some 4) v).tmps.getD 4 undef = v := fun v => put_getD_same _ HT.out
      have eo : ∀ v : Value, (a.put (some 4) v).tmps.getD 3 undef = a.tmps.getD 3 undef := fun v => put_getD_other _ (by decide)
      refine ⟨_, rfl, ⟨fun _ => ⟨HQ1.out.alloc HQ1.out.size _, fun h3 => ?_, fun _ => ⟨w'.heap.size, (es _), HQ1.out.size, hnew⟩, fun h3 _ => ?_⟩, fun h4 => ?_, fun h5 => ?_⟩, trivial, trivial⟩
      · rw [set_other (by decide)] at h3
        obtain ⟨c, hc⟩ := HQ2.out h3
        refine ⟨c, ?_⟩
        show IsBox W0 _ ((a.put (some 4) _).tmps.getD 3 undef) c
        rw [eo]; exact hc.up hup
      · rw [set_other (by decide)] at h3
        obtain ⟨c, hc⟩ := HQ2.out h3
        show (a.put (some 4) _).tmps.getD 3 undef ≠ (a.put (some 4) _).tmps.getD 4 undef
        rw [es, eo, hc.1]
        intro e
        have hlt := (Array.getElem?_eq_some_iff.1 hc.2.2).1
        have e2 := congrArg (fun v => match v with | Value.pointer (some a) => a.block | _ => 0) e
        simp only at e2
        omega
      · rw [set_other (by decide), HN4.out] at h4; cases h4
      · rw [set_other (by decide), HN5.out] at h5; cases h5
    | 4, _ =>
      have n4 := hM.not_yet hix
      have n5 : listed.getD 5 false = false := by
        rw [Bool.eq_false_iff]; intro h6
        have := anc_listed hM.down 6 5 4 (by kernel_rfl) h6
        rw [n4] at this; cases this
      have l2 : listed.getD 2 false = true := hM.came hix 2 (by kernel_rfl)
      have l3 : listed.getD 3 false = true := hM.came hix 3 (by kernel_rfl)
      have d0 := hM.dep hix 0 17 (by kernel_rfl) (by kernel_rfl)
      unfold f5P at d0
      simp only at d0
      obtain ⟨q1, q2, q3, q4⟩ := HE.out.one n4
      obtain ⟨b, hb⟩ := q2 l2
      obtain ⟨c, hc⟩ := q3 l3
      have hne : b ≠ c := fun e => q4 l2 l3 (by rw [hb.1, hc.1, e])
      have HL : Hid (4 < listed.size) := Lib.hid (by rw [hsz]; show 4 < 6; omega)
      have d3 := hb.1
      rw [Array.getD_eq_getD_getElem?] at d3
      refine wp_store_row 35 (.tmp 3) (.tmp 17) (by obtain rfl := Option.some.inj ho; rfl) b ks.toArray (by simpa [Act.eval] using d3) (by simpa [Act.eval] using d0) 35 zeroCs.toArray hb.2.2 hinfo2 hz26 hone ?_
      obtain rfl := Option.some.inj ho
      refine ⟨undef, rfl, ⟨fun h4 => ?_, fun _ _ => ⟨w', b, c, hne, hb, hc, q1, rfl⟩, fun h5 => ?_⟩, trivial, trivial⟩
      · simp [HL.out] at h4
      · rw [set_other (by decide), n5] at h5; cases h5
    | 5, _ =>
      have n5 := hM.not_yet hix
      have l4 : listed.getD 4 false = true := hM.came hix 4 (by kernel_rfl)
      have d1 := hM.dep hix 1 18 (by kernel_rfl) (by kernel_rfl)
      unfold f5P at d1
      simp only at d1
      obtain ⟨w1, b, c, hne, hb, hc, hbl, rfl⟩ := HE.out.two l4 n5
      have HL : Hid (5 < listed.size) := Lib.hid (by rw [hsz]; show 5 < 6; omega)
      have d4 := hc.1
      rw [Array.getD_eq_getD_getElem?] at d4
      refine wp_store_row 35 (.tmp 4) (.tmp 18) (by obtain rfl := Option.some.inj ho; rfl) c ks.toArray (by simpa [Act.eval] using d4) (by simpa [Act.eval] using d1) 35 zeroCs.toArray ((setRow_other _ _ (fun e => hne e.symm)).trans hc.2.2) hinfo2 hz26 hone ?_
      obtain rfl := Option.some.inj ho
      refine ⟨undef, rfl, ⟨fun h4 => ?_, fun _ h5 => ?_, fun _ => ⟨w1, b, c, hne, hb, hc, hbl, rfl⟩⟩, trivial, trivial⟩
      · rw [set_other (by decide), l4] at h4; cases h4
      · simp [HL.out] at h5
  · intro listed a w' hall hM
    obtain ⟨w1, b, c, hne, hb, hc, hbl, rfl⟩ := hM.ext.three (hall 5 (show 5 < 6 by omega))
    refine hQ a w1 b c (hM.tmps.trans hz) hM.defers (fun t ht => hM.free t fun mm hmm o ho hd => ht ?_) hne hb hc hbl
    have hs := all_get (ops := (Try.f8.body.bind (findReg 5)).getD #[]) (p := fun o => match o.dst with | some k => decide (k ∈ [3, 4, 17, 18]) | none => true) (by kernel_rfl) ho
    rw [hd] at hs
    exact of_decide_eq_true hs

end Go.Proofs.Ytapejaabhkfhjaa

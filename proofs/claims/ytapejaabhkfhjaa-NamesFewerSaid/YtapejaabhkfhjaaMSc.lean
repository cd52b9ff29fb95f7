/- Check: the region that appends to both lists (printed by gen_sc.py). -/
import Derived.Test.YtapejaabhkfhjaaMSb
namespace Go.Proofs.Ytapejaabhkfhjaa
open Go.RowKit

/- both lists -/
structure Two (W0 : World) (base : Nat) (w : World) (va : Value) (la : List Rf) (vb : Value) (lb : List Rf) : Prop where
  below : Below base W0 w
  size : base ≤ w.heap.size
  a : OwnRf base w va la
  b : OwnRf base w vb lb
  apart : ∀ g, va.ownBlock = some g → vb.ownBlock ≠ some g
  keep : ∀ (k : Nat) (o : Obj), W0.heap[k]? = some o → (∀ c f, o ≠ Obj.cells c 23 f) → w.heap[k]? = some o
theorem OwnRf.not {w : World} {base : Nat} {v : Value} {l : List Rf} (h : OwnRf base w v l) {g : Nat} {o : Obj} (hg : v.ownBlock = some g) (ho : w.heap[g]? = some o) (hn : ∀ c f, o ≠ Obj.cells c 23 f) : False := by
  rcases h.2 with ⟨rfl, _⟩ | ⟨k, cap, cur, rfl, _, hk, _⟩
  · cases hg
  · cases hg
    rw [ho] at hk
    exact hn _ _ (Option.some.inj hk)
theorem Two.up {W0 w w' : World} {base : Nat} {va vb : Value} {la lb : List Rf} (h : Two W0 base w va la vb lb) (hb : Below w.heap.size w w') : Two W0 base w' va la vb lb :=
  ⟨h.below.trans (hb.mono h.size), Nat.le_trans h.size hb.size, h.a.up (fun g _ hlt => hb.block g hlt), h.b.up (fun g _ hlt => hb.block g hlt), h.apart, fun k o ho hn => by
    have := h.keep k o ho hn
    rw [hb.block k (Array.getElem?_eq_some_iff.1 this).1]; exact this⟩
theorem OwnRf.lt {w : World} {base : Nat} {v : Value} {l : List Rf} (h : OwnRf base w v l) {g : Nat} (hg : v.ownBlock = some g) : base ≤ g ∧ g < w.heap.size := World.ownsRow.lt h g hg
theorem Two.putA {W0 w w' : World} {base : Nat} {va vb va' : Value} {la lb la' : List Rf} (h : Two W0 base w va la vb lb) (hown : OwnRf base w' va' la') (hg : w.grownBy w' va.ownBlock) (hk : va'.ownBlock = va.ownBlock ∨ va'.ownBlock = some w.heap.size) : Two W0 base w' va' la' vb lb := by
  refine ⟨h.below.trans ⟨hg.os, hg.tape, hg.output, hg.size, fun k hlt => hg.block k (Nat.lt_of_lt_of_le hlt h.size) (fun e => ?_)⟩, Nat.le_trans h.size hg.size, hown, h.b.up (fun g hgb hlt => hg.block g hlt (fun e => h.apart g e.symm hgb)), fun g h1 h2 => ?_, fun k o ho hn => ?_⟩
  · have := (h.a.lt e.symm).1; omega
  · rcases hk with hk | hk
    · rw [hk] at h1; exact h.apart g h1 h2
    · rw [hk] at h1; cases h1
      have := (h.b.lt h2).2; omega
  · have h1 := h.keep k o ho hn
    rw [hg.block k (Array.getElem?_eq_some_iff.1 h1).1 (fun e => h.a.not e.symm h1 hn)]; exact h1
theorem Two.swap {W0 w : World} {base : Nat} {va vb : Value} {la lb : List Rf} (h : Two W0 base w va la vb lb) : Two W0 base w vb lb va la := ⟨h.below, h.size, h.b, h.a, fun g h1 h2 => h.apart g h2 h1, h.keep⟩
def AtFree (w : World) (va vb v : Value) (r : Rf) : Prop := ∃ g, v = .slice (some ⟨g, 0, none⟩) 1 1 ∧ w.heap[g]? = some (.cells #[.string r.name, .int .i64 r.n] 23 (0, 0)) ∧ va.ownBlock ≠ some g ∧ vb.ownBlock ≠ some g
theorem AtFree.up {w w' : World} {va vb v : Value} {r : Rf} (h : AtFree w va vb v r) (hb : Below w.heap.size w w') : AtFree w' va vb v r := by
  obtain ⟨g, h1, h2, h3⟩ := h
  exact ⟨g, h1, (hb.block g (Array.getElem?_eq_some_iff.1 h2).1).trans h2, h3⟩
theorem AtFree.grown {w w' : World} {va vb v va' : Value} {r : Rf} (h : AtFree w va vb v r) (hg : w.grownBy w' va.ownBlock) (hk : va'.ownBlock = va.ownBlock ∨ va'.ownBlock = some w.heap.size) : AtFree w' va' vb v r := by
  obtain ⟨g, h1, h2, h3, h4⟩ := h
  have hlt := (Array.getElem?_eq_some_iff.1 h2).1
  refine ⟨g, h1, (hg.block g hlt (fun e => h3 e.symm)).trans h2, fun e => ?_, h4⟩
  rcases hk with hk | hk
  · exact h3 (hk ▸ e)
  · rw [hk] at e; cases e; exact Nat.lt_irrefl _ hlt
theorem atFree_new {W0 w : World} {base : Nat} {va vb : Value} {la lb : List Rf} (h : Two W0 base w va la vb lb) (r : Rf) : AtFree (w.alloc (.cells #[.string r.name, .int .i64 r.n] 23)) va vb (.slice (some ⟨w.heap.size, 0, none⟩) 1 1) r :=
  ⟨w.heap.size, rfl, World.alloc_heap_new _ _, fun e => by have := (h.a.lt e).2; omega, fun e => by have := (h.b.lt e).2; omega⟩
/- what holds amid the region -/
structure TwoExt (W0 : World) (base B4 B5 : Nat) (va : Value) (la : List Rf) (vb : Value) (lb : List Rf) (r1 r2 : Rf) (l : Array Bool) (tm : Array Value) (w : World) : Prop where
  p00 : l.getD 8 false = false → Two W0 base w va la vb lb ∧ (l.getD 7 false = true → AtFree w va vb (tm.getD 48 undef) r1) ∧ (l.getD 16 false = true → AtFree w va vb (tm.getD 57 undef) r2)
  p10 : l.getD 8 false = true → l.getD 17 false = false → Two W0 base w (tm.getD 49 undef) (la ++ [r1]) vb lb ∧ (l.getD 16 false = true → AtFree w (tm.getD 49 undef) vb (tm.getD 57 undef) r2)
  p11 : l.getD 17 false = true → l.getD 18 false = false → Two W0 base w (tm.getD 49 undef) (la ++ [r1]) (tm.getD 58 undef) (lb ++ [r2])
  p18 : l.getD 18 false = true → l.getD 19 false = false → ∃ w1, Two W0 base w1 (tm.getD 49 undef) (la ++ [r1]) (tm.getD 58 undef) (lb ++ [r2]) ∧ w = w1.setCell ⟨B4, 0, none⟩ (tm.getD 49 undef)
  p19 : l.getD 19 false = true → ∃ w1 v1 v2, Two W0 base w1 v1 (la ++ [r1]) v2 (lb ++ [r2]) ∧ w = (w1.setCell ⟨B4, 0, none⟩ v1).setCell ⟨B5, 0, none⟩ v2
/- an operation that reads only, ahead of the second append -/
theorem TwoExt.quiet {W0 : World} {base B4 B5 : Nat} {va vb : Value} {la lb : List Rf} {r1 r2 : Rf} {l : Array Bool} {tm : Array Value} {w : World} {i t : Nat} {v : Value} (h : TwoExt W0 base B4 B5 va la vb lb r1 r2 l tm w) (n17 : l.getD 17 false = false) (n18 : l.getD 18 false = false) (n19 : l.getD 19 false = false)
    (hi : i ≠ 7 ∧ i ≠ 8 ∧ i ≠ 16 ∧ i ≠ 17 ∧ i ≠ 18 ∧ i ≠ 19) (ht : t ≠ 48 ∧ t ≠ 49 ∧ t ≠ 57) : TwoExt W0 base B4 B5 va la vb lb r1 r2 (l.setIfInBounds i true) (tm.setIfInBounds t v) w := by
  obtain ⟨i7, i8, i16, i17, i18, i19⟩ := hi
  obtain ⟨t48, t49, t57⟩ := ht
  refine ⟨fun h8 => ?_, fun h8 _ => ?_, fun h => ?_, fun h => ?_, fun h => ?_⟩
  · rw [set_other i8] at h8
    obtain ⟨k1, k2, k3⟩ := h.p00 h8
    rw [set_other i7, set_other i16, tset_other t48, tset_other t57]
    exact ⟨k1, k2, k3⟩
  · rw [set_other i8] at h8
    obtain ⟨k1, k3⟩ := h.p10 h8 n17
    rw [set_other i16, tset_other t49, tset_other t57]
    exact ⟨k1, k3⟩
  · rw [set_other i17, n17] at h; cases h
  · rw [set_other i18, n18] at h; cases h
  · rw [set_other i19, n19] at h; cases h
/- what is below both lists is as it was -/
theorem TwoExt.below {W0 : World} {base B4 B5 : Nat} {va vb : Value} {la lb : List Rf} {r1 r2 : Rf} {l : Array Bool} {tm : Array Value} {w : World} (h : TwoExt W0 base B4 B5 va la vb lb r1 r2 l tm w) (n17 : l.getD 17 false = false) : Below base W0 w ∧ base ≤ w.heap.size := by
  cases h8 : l.getD 8 false with
  | false => exact ⟨(h.p00 h8).1.below, (h.p00 h8).1.size⟩
  | true => exact ⟨(h.p10 h8 n17).1.below, (h.p10 h8 n17).1.size⟩
def twoP (va vb : Value) (B B3 b1 o1 n1 c1 b2 o2 n2 c2 i : Nat) (r1 r2 : Rf) (j : Nat) (v : Value) (_ : World) : Prop := match j with
  | 0 => v = va
  | 1 => v = .pointer (some ⟨B, 21, none⟩)
  | 2 => v = .slice (some ⟨b1, o1, none⟩) n1 c1
  | 3 => v = .int .i64 i
  | 4 => v = .pointer (some ⟨b1, o1 + i * 51, none⟩)
  | 5 => v = .pointer (some ⟨b1, o1 + i * 51 + 1, none⟩)
  | 6 => v = .agg #[.string r1.name, .int .i64 r1.n]
  | 9 => v = vb
  | 10 => v = .pointer (some ⟨B3, 21, none⟩)
  | 11 => v = .slice (some ⟨b2, o2, none⟩) n2 c2
  | 12 => v = .int .i64 i
  | 13 => v = .pointer (some ⟨b2, o2 + i * 51, none⟩)
  | 14 => v = .pointer (some ⟨b2, o2 + i * 51 + 1, none⟩)
  | 15 => v = .agg #[.string r2.name, .int .i64 r2.n]
  | _ => True

set_option maxRecDepth 100000 in
set_option maxHeartbeats 8000000 in
theorem reg14 {a₀ : Act} {W0 : World} {Q : Exit → Act → World → Prop} {base B B3 B4 B5 b1 o1 n1 c1 b2 o2 n2 c2 i : Nat} {va vb : Value} {la lb : List Rf} {r1 r2 : Rf} (ops : Array Oper) (hops : regOf Try.f14 14 = some ops)
    (ht1 : a₀.tmps.getD 1 undef = .pointer (some ⟨B, 0, none⟩)) (ht3 : a₀.tmps.getD 3 undef = .pointer (some ⟨B3, 0, none⟩)) (ht4 : a₀.tmps.getD 4 undef = .pointer (some ⟨B4, 0, none⟩)) (ht5 : a₀.tmps.getD 5 undef = .pointer (some ⟨B5, 0, none⟩)) (ht8 : a₀.tmps.getD 8 undef = .int .i64 i) (hz : a₀.tmps.size = 64)
    (hB : B < base) (hB3 : B3 < base) (hB4 : B4 < base) (hB5 : B5 < base) (hb1 : b1 < base) (hb2 : b2 < base) (h45 : B4 ≠ B5) (hi1 : i < n1) (hi2 : i < n2)
    (hbx4 : ∃ u, W0.heap[B4]? = some (.cells #[u] 127 (0, 0))) (hbx5 : ∃ u, W0.heap[B5]? = some (.cells #[u] 127 (0, 0))) (hva : W0.cell? ⟨B4, 0, none⟩ = some va) (hvb : W0.cell? ⟨B5, 0, none⟩ = some vb)
    (hh1 : W0.cell? ⟨B, 21, none⟩ = some (.slice (some ⟨b1, o1, none⟩) n1 c1)) (hh2 : W0.cell? ⟨B3, 21, none⟩ = some (.slice (some ⟨b2, o2, none⟩) n2 c2))
    (hx1 : W0.cell? ⟨b1, o1 + i * 51 + 1, none⟩ = some (.string r1.name)) (hm1 : W0.cell? ⟨b1, o1 + i * 51 + 1 + 1, none⟩ = some (.int .i64 r1.n)) (hx2 : W0.cell? ⟨b2, o2 + i * 51 + 1, none⟩ = some (.string r2.name)) (hm2 : W0.cell? ⟨b2, o2 + i * 51 + 1 + 1, none⟩ = some (.int .i64 r2.n))
    (h2 : Two W0 base W0 va la vb lb) (hla : la.length + 1 ≤ 1000000000) (hlb : lb.length + 1 ≤ 1000000000)
    (hQ : ∀ (a : Act) w1 v1 v2, a.tmps.size = 64 → a.defers = a₀.defers → (∀ t, (t < 41 ∨ 58 < t) → a.tmps.getD t undef = a₀.tmps.getD t undef) → Two W0 base w1 v1 (la ++ [r1]) v2 (lb ++ [r2]) → Q .normal a ((w1.setCell ⟨B4, 0, none⟩ v1).setCell ⟨B5, 0, none⟩ v2)) :
    (Code.region 14 ops true).wp Try.prog Q a₀ W0 := by
  obtain rfl := Option.some.inj ((rfl : regOf Try.f14 14 = some _).symm.trans hops)
  clear hops
  refine wp_region_mids (by kernel_rfl) (TwoExt W0 base B4 B5 va la vb lb r1 r2) (twoP va vb B B3 b1 o1 n1 c1 b2 o2 n2 c2 i r1 r2) (fun _ _ _ => True) (by kernel_rfl) (by rw [hz]; kernel_rfl) (by kernel_rfl) (fun _ j v w w' _ _ _ h => by unfold twoP at h ⊢; exact h) ⟨fun _ => ⟨h2.up (Below.refl _ _).drew, fun h => (by cases h), fun h => (by cases h)⟩, fun h => (by cases h), fun h => (by cases h), fun h => (by cases h), fun h => (by cases h)⟩ ?_ ?_
  · clear h2
    intro ix listed a w' hM hix o ho
    have HE := Lib.hid hM.ext
    have hlt := (Array.getElem?_eq_some_iff.1 ho).1
    have hsz := hM.size
    have nn : listed.getD 17 false = false → listed.getD 18 false = false ∧ listed.getD 19 false = false := fun n => by
      constructor
      · rw [Bool.eq_false_iff]; intro h7
        have := anc_listed hM.down 20 18 17 (by kernel_rfl) h7
        rw [n] at this; cases this
      · rw [Bool.eq_false_iff]; intro h7
        have := anc_listed hM.down 20 19 17 (by kernel_rfl) h7
        rw [n] at this; cases this
    match ix, hlt with
    | 0, _ =>
      have d := hM.old hix 4 (by kernel_rfl) _ ht4
      have n17 : listed.getD 17 false = false := by
        rw [Bool.eq_false_iff]; intro h6
        have := anc_listed hM.down 20 17 0 (by kernel_rfl) h6
        rw [hM.not_yet hix] at this; cases this
      obtain ⟨n18, n19⟩ := nn n17
      have hb := (HE.out.below n17).1
      have HN17 := Lib.hid n17; have HN18 := Lib.hid n18; have HN19 := Lib.hid n19
      clear n17 n18 n19
      have c := (hb.cell (p := ⟨B4, 0, none⟩) hB4).trans hva
      clear hva hvb hh1 hh2 hx1 hx2 hm1 hm2 hi1 hi2 nn hb
      obtain rfl := Option.some.inj ho
      go_simp
      exact ⟨_, rfl, HE.out.quiet HN17.out HN18.out HN19.out (by decide) (by decide), trivial, rfl⟩
    | 1, _ =>
      have d := hM.old hix 1 (by kernel_rfl) _ ht1
      have n17 : listed.getD 17 false = false := by
        rw [Bool.eq_false_iff]; intro h6
        have := anc_listed hM.down 20 17 1 (by kernel_rfl) h6
        rw [hM.not_yet hix] at this; cases this
      obtain ⟨n18, n19⟩ := nn n17
      have hb := (HE.out.below n17).1
      have HN17 := Lib.hid n17; have HN18 := Lib.hid n18; have HN19 := Lib.hid n19
      clear n17 n18 n19
      clear hva hvb hh1 hh2 hx1 hx2 hm1 hm2 hi1 hi2 nn hb
      obtain rfl := Option.some.inj ho
      go_simp
      exact ⟨_, rfl, HE.out.quiet HN17.out HN18.out HN19.out (by decide) (by decide), trivial, rfl⟩
    | 2, _ =>
      have d : a.tmps[42]?.getD undef = .pointer (some ⟨B, 21, none⟩) := hM.dep hix 1 42 (by kernel_rfl) (by kernel_rfl)
      have n17 : listed.getD 17 false = false := by
        rw [Bool.eq_false_iff]; intro h6
        have := anc_listed hM.down 20 17 2 (by kernel_rfl) h6
        rw [hM.not_yet hix] at this; cases this
      obtain ⟨n18, n19⟩ := nn n17
      have hb := (HE.out.below n17).1
      have HN17 := Lib.hid n17; have HN18 := Lib.hid n18; have HN19 := Lib.hid n19
      clear n17 n18 n19
      have c := (hb.cell (p := ⟨B, 21, none⟩) hB).trans hh1
      clear hva hvb hh1 hh2 hx1 hx2 hm1 hm2 hi1 hi2 nn hb
      obtain rfl := Option.some.inj ho
      go_simp
      exact ⟨_, rfl, HE.out.quiet HN17.out HN18.out HN19.out (by decide) (by decide), trivial, rfl⟩
    | 3, _ =>
      have d := hM.old hix 8 (by kernel_rfl) _ ht8
      have n17 : listed.getD 17 false = false := by
        rw [Bool.eq_false_iff]; intro h6
        have := anc_listed hM.down 20 17 3 (by kernel_rfl) h6
        rw [hM.not_yet hix] at this; cases this
      obtain ⟨n18, n19⟩ := nn n17
      have hb := (HE.out.below n17).1
      have HN17 := Lib.hid n17; have HN18 := Lib.hid n18; have HN19 := Lib.hid n19
      clear n17 n18 n19
      clear hva hvb hh1 hh2 hx1 hx2 hm1 hm2 hi1 hi2 nn hb
      obtain rfl := Option.some.inj ho
      go_simp
      exact ⟨_, rfl, HE.out.quiet HN17.out HN18.out HN19.out (by decide) (by decide), trivial, rfl⟩
    | 4, _ =>
      have d1 : a.tmps[43]?.getD undef = .slice (some ⟨b1, o1, none⟩) n1 c1 := hM.dep hix 2 43 (by kernel_rfl) (by kernel_rfl)
      have d2 : a.tmps[44]?.getD undef = .int .i64 i := hM.dep hix 3 44 (by kernel_rfl) (by kernel_rfl)
      have hki : (i : Int) < (n1 : Int) := by omega
      have n17 : listed.getD 17 false = false := by
        rw [Bool.eq_false_iff]; intro h6
        have := anc_listed hM.down 20 17 4 (by kernel_rfl) h6
        rw [hM.not_yet hix] at this; cases this
      obtain ⟨n18, n19⟩ := nn n17
      have hb := (HE.out.below n17).1
      have HN17 := Lib.hid n17; have HN18 := Lib.hid n18; have HN19 := Lib.hid n19
      clear n17 n18 n19
      clear hva hvb hh1 hh2 hx1 hx2 hm1 hm2 hi1 hi2 nn hb
      obtain rfl := Option.some.inj ho
      go_simp
      exact ⟨_, rfl, HE.out.quiet HN17.out HN18.out HN19.out (by decide) (by decide), trivial, rfl⟩
    | 5, _ =>
      have d : a.tmps[45]?.getD undef = .pointer (some ⟨b1, o1 + i * 51, none⟩) := hM.dep hix 4 45 (by kernel_rfl) (by kernel_rfl)
      have n17 : listed.getD 17 false = false := by
        rw [Bool.eq_false_iff]; intro h6
        have := anc_listed hM.down 20 17 5 (by kernel_rfl) h6
        rw [hM.not_yet hix] at this; cases this
      obtain ⟨n18, n19⟩ := nn n17
      have hb := (HE.out.below n17).1
      have HN17 := Lib.hid n17; have HN18 := Lib.hid n18; have HN19 := Lib.hid n19
      clear n17 n18 n19
      clear hva hvb hh1 hh2 hx1 hx2 hm1 hm2 hi1 hi2 nn hb
      obtain rfl := Option.some.inj ho
      go_simp
      exact ⟨_, rfl, HE.out.quiet HN17.out HN18.out HN19.out (by decide) (by decide), trivial, rfl⟩
    | 6, _ =>
      have d : a.tmps[46]?.getD undef = .pointer (some ⟨b1, o1 + i * 51 + 1, none⟩) := hM.dep hix 5 46 (by kernel_rfl) (by kernel_rfl)
      have n17 : listed.getD 17 false = false := by
        rw [Bool.eq_false_iff]; intro h6
        have := anc_listed hM.down 20 17 6 (by kernel_rfl) h6
        rw [hM.not_yet hix] at this; cases this
      obtain ⟨n18, n19⟩ := nn n17
      have hb := (HE.out.below n17).1
      have HN17 := Lib.hid n17; have HN18 := Lib.hid n18; have HN19 := Lib.hid n19
      clear n17 n18 n19
      have c := (hb.cell (p := ⟨b1, o1 + i * 51 + 1, none⟩) hb1).trans hx1
      have c1 := (hb.cell (p := ⟨b1, o1 + i * 51 + 1 + 1, none⟩) hb1).trans hm1
      clear hva hvb hh1 hh2 hx1 hx2 hm1 hm2 hi1 hi2 nn hb
      obtain rfl := Option.some.inj ho
      go_simp
      exact ⟨_, rfl, HE.out.quiet HN17.out HN18.out HN19.out (by decide) (by decide), trivial, rfl⟩
    | 7, _ =>
      have d : a.tmps[47]?.getD undef = .agg #[.string r1.name, .int .i64 r1.n] := hM.dep hix 6 47 (by kernel_rfl) (by kernel_rfl)
      have n17 : listed.getD 17 false = false := by
        rw [Bool.eq_false_iff]; intro h6
        have := anc_listed hM.down 20 17 7 (by kernel_rfl) h6
        rw [hM.not_yet hix] at this; cases this
      obtain ⟨n18, n19⟩ := nn n17
      have hb := (HE.out.below n17).1
      have HN17 := Lib.hid n17; have HN18 := Lib.hid n18; have HN19 := Lib.hid n19
      clear n17 n18 n19
      have n8 : listed.getD 8 false = false := by
        rw [Bool.eq_false_iff]; intro h6
        have := anc_listed hM.down 20 8 7 (by kernel_rfl) h6
        rw [hM.not_yet hix] at this; cases this
      have HN8 := Lib.hid n8
      have HP := Lib.hid (HE.out.p00 n8)
      have HT : Hid (48 < a.tmps.size) := Lib.hid (by rw [hM.tmps, hz]; decide)
      clear n8
      clear hva hvb hh1 hh2 hx1 hx2 hm1 hm2 hi1 hi2 nn hb
      obtain rfl := Option.some.inj ho
      go_simp
      have hup : Below w'.heap.size w' (w'.alloc (.cells #[.string r1.name, .int .i64 r1.n] 23)) := (Below.refl _ _).alloc (Nat.le_refl _) _
      refine ⟨_, rfl, ⟨fun _ => ⟨HP.out.1.up hup, fun _ => ?_, fun h16 => ?_⟩, fun h8 => ?_, fun h => ?_, fun h => ?_, fun h => ?_⟩, trivial, trivial⟩
      · rw [put_getD_same _ HT.out]; exact atFree_new HP.out.1 r1
      · rw [set_other (by decide)] at h16
        rw [put_getD_other _ (by decide)]
        exact (HP.out.2.2 h16).up hup
      · rw [set_other (by decide), HN8.out] at h8; cases h8
      · rw [set_other (by decide), HN17.out] at h; cases h
      · rw [set_other (by decide), HN18.out] at h; cases h
      · rw [set_other (by decide), HN19.out] at h; cases h
    | 8, _ =>
      have d : a.tmps[41]?.getD undef = va := hM.dep hix 0 41 (by kernel_rfl) (by kernel_rfl)
      have n17 : listed.getD 17 false = false := by
        rw [Bool.eq_false_iff]; intro h6
        have := anc_listed hM.down 20 17 8 (by kernel_rfl) h6
        rw [hM.not_yet hix] at this; cases this
      obtain ⟨n18, n19⟩ := nn n17
      have hb := (HE.out.below n17).1
      have HN17 := Lib.hid n17; have HN18 := Lib.hid n18; have HN19 := Lib.hid n19
      clear n17 n18 n19
      have n8 := hM.not_yet hix
      have l7 : listed.getD 7 false = true := hM.came hix 7 (by kernel_rfl)
      obtain ⟨k1, k2, k3⟩ := HE.out.p00 n8
      obtain ⟨g, d48, hg, _, _⟩ := k2 l7
      have HL : Hid (8 < listed.size) := Lib.hid (by rw [hsz]; show 8 < 20; omega)
      have HT : Hid (49 < a.tmps.size) := Lib.hid (by rw [hM.tmps, hz]; decide)
      rw [Array.getD_eq_getD_getElem?] at d48
      refine wp_append_rf2 base (.tmp 41) (.tmp 48) (by obtain rfl := Option.some.inj ho; rfl) va la (by simpa [Act.eval] using d) k1.a r1 g 1 (by simpa [Act.eval] using d48) hg hla k1.size ?_
      intro v' w5 hown5 hg5 hk5
      obtain rfl := Option.some.inj ho
      refine ⟨v', rfl, ⟨fun h8 => ?_, fun _ _ => ⟨?_, fun h16 => ?_⟩, fun h => ?_, fun h => ?_, fun h => ?_⟩, trivial, trivial⟩
      · simp [HL.out] at h8
      · show Two W0 base w5 ((a.put (some 49) v').tmps.getD 49 undef) _ vb lb
        rw [put_getD_same _ HT.out]; exact k1.putA hown5 hg5 hk5
      · rw [set_other (by decide)] at h16
        show AtFree w5 ((a.put (some 49) v').tmps.getD 49 undef) vb ((a.put (some 49) v').tmps.getD 57 undef) r2
        rw [put_getD_same _ HT.out, put_getD_other _ (by decide)]
        exact (k3 h16).grown hg5 hk5
      · rw [set_other (by decide), HN17.out] at h; cases h
      · rw [set_other (by decide), HN18.out] at h; cases h
      · rw [set_other (by decide), HN19.out] at h; cases h
    | 9, _ =>
      have d := hM.old hix 5 (by kernel_rfl) _ ht5
      have n17 : listed.getD 17 false = false := by
        rw [Bool.eq_false_iff]; intro h6
        have := anc_listed hM.down 20 17 9 (by kernel_rfl) h6
        rw [hM.not_yet hix] at this; cases this
      obtain ⟨n18, n19⟩ := nn n17
      have hb := (HE.out.below n17).1
      have HN17 := Lib.hid n17; have HN18 := Lib.hid n18; have HN19 := Lib.hid n19
      clear n17 n18 n19
      have c := (hb.cell (p := ⟨B5, 0, none⟩) hB5).trans hvb
      clear hva hvb hh1 hh2 hx1 hx2 hm1 hm2 hi1 hi2 nn hb
      obtain rfl := Option.some.inj ho
      go_simp
      exact ⟨_, rfl, HE.out.quiet HN17.out HN18.out HN19.out (by decide) (by decide), trivial, rfl⟩
    | 10, _ =>
      have d := hM.old hix 3 (by kernel_rfl) _ ht3
      have n17 : listed.getD 17 false = false := by
        rw [Bool.eq_false_iff]; intro h6
        have := anc_listed hM.down 20 17 10 (by kernel_rfl) h6
        rw [hM.not_yet hix] at this; cases this
      obtain ⟨n18, n19⟩ := nn n17
      have hb := (HE.out.below n17).1
      have HN17 := Lib.hid n17; have HN18 := Lib.hid n18; have HN19 := Lib.hid n19
      clear n17 n18 n19
      clear hva hvb hh1 hh2 hx1 hx2 hm1 hm2 hi1 hi2 nn hb
      obtain rfl := Option.some.inj ho
      go_simp
      exact ⟨_, rfl, HE.out.quiet HN17.out HN18.out HN19.out (by decide) (by decide), trivial, rfl⟩
    | 11, _ =>
      have d : a.tmps[51]?.getD undef = .pointer (some ⟨B3, 21, none⟩) := hM.dep hix 10 51 (by kernel_rfl) (by kernel_rfl)
      have n17 : listed.getD 17 false = false := by
        rw [Bool.eq_false_iff]; intro h6
        have := anc_listed hM.down 20 17 11 (by kernel_rfl) h6
        rw [hM.not_yet hix] at this; cases this
      obtain ⟨n18, n19⟩ := nn n17
      have hb := (HE.out.below n17).1
      have HN17 := Lib.hid n17; have HN18 := Lib.hid n18; have HN19 := Lib.hid n19
      clear n17 n18 n19
      have c := (hb.cell (p := ⟨B3, 21, none⟩) hB3).trans hh2
      clear hva hvb hh1 hh2 hx1 hx2 hm1 hm2 hi1 hi2 nn hb
      obtain rfl := Option.some.inj ho
      go_simp
      exact ⟨_, rfl, HE.out.quiet HN17.out HN18.out HN19.out (by decide) (by decide), trivial, rfl⟩
    | 12, _ =>
      have d := hM.old hix 8 (by kernel_rfl) _ ht8
      have n17 : listed.getD 17 false = false := by
        rw [Bool.eq_false_iff]; intro h6
        have := anc_listed hM.down 20 17 12 (by kernel_rfl) h6
        rw [hM.not_yet hix] at this; cases this
      obtain ⟨n18, n19⟩ := nn n17
      have hb := (HE.out.below n17).1
      have HN17 := Lib.hid n17; have HN18 := Lib.hid n18; have HN19 := Lib.hid n19
      clear n17 n18 n19
      clear hva hvb hh1 hh2 hx1 hx2 hm1 hm2 hi1 hi2 nn hb
      obtain rfl := Option.some.inj ho
      go_simp
      exact ⟨_, rfl, HE.out.quiet HN17.out HN18.out HN19.out (by decide) (by decide), trivial, rfl⟩
    | 13, _ =>
      have d1 : a.tmps[52]?.getD undef = .slice (some ⟨b2, o2, none⟩) n2 c2 := hM.dep hix 11 52 (by kernel_rfl) (by kernel_rfl)
      have d2 : a.tmps[53]?.getD undef = .int .i64 i := hM.dep hix 12 53 (by kernel_rfl) (by kernel_rfl)
      have hki : (i : Int) < (n2 : Int) := by omega
      have n17 : listed.getD 17 false = false := by
        rw [Bool.eq_false_iff]; intro h6
        have := anc_listed hM.down 20 17 13 (by kernel_rfl) h6
        rw [hM.not_yet hix] at this; cases this
      obtain ⟨n18, n19⟩ := nn n17
      have hb := (HE.out.below n17).1
      have HN17 := Lib.hid n17; have HN18 := Lib.hid n18; have HN19 := Lib.hid n19
      clear n17 n18 n19
      clear hva hvb hh1 hh2 hx1 hx2 hm1 hm2 hi1 hi2 nn hb
      obtain rfl := Option.some.inj ho
      go_simp
      exact ⟨_, rfl, HE.out.quiet HN17.out HN18.out HN19.out (by decide) (by decide), trivial, rfl⟩
    | 14, _ =>
      have d : a.tmps[54]?.getD undef = .pointer (some ⟨b2, o2 + i * 51, none⟩) := hM.dep hix 13 54 (by kernel_rfl) (by kernel_rfl)
      have n17 : listed.getD 17 false = false := by
        rw [Bool.eq_false_iff]; intro h6
        have := anc_listed hM.down 20 17 14 (by kernel_rfl) h6
        rw [hM.not_yet hix] at this; cases this
      obtain ⟨n18, n19⟩ := nn n17
      have hb := (HE.out.below n17).1
      have HN17 := Lib.hid n17; have HN18 := Lib.hid n18; have HN19 := Lib.hid n19
      clear n17 n18 n19
      clear hva hvb hh1 hh2 hx1 hx2 hm1 hm2 hi1 hi2 nn hb
      obtain rfl := Option.some.inj ho
      go_simp
      exact ⟨_, rfl, HE.out.quiet HN17.out HN18.out HN19.out (by decide) (by decide), trivial, rfl⟩
    | 15, _ =>
      have d : a.tmps[55]?.getD undef = .pointer (some ⟨b2, o2 + i * 51 + 1, none⟩) := hM.dep hix 14 55 (by kernel_rfl) (by kernel_rfl)
      have n17 : listed.getD 17 false = false := by
        rw [Bool.eq_false_iff]; intro h6
        have := anc_listed hM.down 20 17 15 (by kernel_rfl) h6
        rw [hM.not_yet hix] at this; cases this
      obtain ⟨n18, n19⟩ := nn n17
      have hb := (HE.out.below n17).1
      have HN17 := Lib.hid n17; have HN18 := Lib.hid n18; have HN19 := Lib.hid n19
      clear n17 n18 n19
      have c := (hb.cell (p := ⟨b2, o2 + i * 51 + 1, none⟩) hb2).trans hx2
      have c1 := (hb.cell (p := ⟨b2, o2 + i * 51 + 1 + 1, none⟩) hb2).trans hm2
      clear hva hvb hh1 hh2 hx1 hx2 hm1 hm2 hi1 hi2 nn hb
      obtain rfl := Option.some.inj ho
      go_simp
      exact ⟨_, rfl, HE.out.quiet HN17.out HN18.out HN19.out (by decide) (by decide), trivial, rfl⟩
    | 16, _ =>
      have d : a.tmps[56]?.getD undef = .agg #[.string r2.name, .int .i64 r2.n] := hM.dep hix 15 56 (by kernel_rfl) (by kernel_rfl)
      have n17 : listed.getD 17 false = false := by
        rw [Bool.eq_false_iff]; intro h6
        have := anc_listed hM.down 20 17 16 (by kernel_rfl) h6
        rw [hM.not_yet hix] at this; cases this
      obtain ⟨n18, n19⟩ := nn n17
      have hb := (HE.out.below n17).1
      have HN17 := Lib.hid n17; have HN18 := Lib.hid n18; have HN19 := Lib.hid n19
      clear n17 n18 n19
      have HT : Hid (57 < a.tmps.size) := Lib.hid (by rw [hM.tmps, hz]; decide)
      clear hva hvb hh1 hh2 hx1 hx2 hm1 hm2 hi1 hi2 nn hb
      obtain rfl := Option.some.inj ho
      go_simp
      have hup : Below w'.heap.size w' (w'.alloc (.cells #[.string r2.name, .int .i64 r2.n] 23)) := (Below.refl _ _).alloc (Nat.le_refl _) _
      refine ⟨_, rfl, ⟨fun h8 => ?_, fun h8 _ => ?_, fun h => ?_, fun h => ?_, fun h => ?_⟩, trivial, trivial⟩
      · rw [set_other (by decide)] at h8
        obtain ⟨k1, k2, k3⟩ := HE.out.p00 h8
        refine ⟨k1.up hup, fun h7 => ?_, fun _ => ?_⟩
        · rw [set_other (by decide)] at h7
          rw [put_getD_other _ (by decide)]
          exact (k2 h7).up hup
        · rw [put_getD_same _ HT.out]; exact atFree_new k1 r2
      · rw [set_other (by decide)] at h8
        obtain ⟨k1, k3⟩ := HE.out.p10 h8 HN17.out
        rw [put_getD_other _ (by decide), put_getD_same _ HT.out]
        exact ⟨k1.up hup, fun _ => atFree_new k1 r2⟩
      · rw [set_other (by decide), HN17.out] at h; cases h
      · rw [set_other (by decide), HN18.out] at h; cases h
      · rw [set_other (by decide), HN19.out] at h; cases h
    | 17, _ =>
      have d : a.tmps[50]?.getD undef = vb := hM.dep hix 9 50 (by kernel_rfl) (by kernel_rfl)
      have n17 := hM.not_yet hix
      obtain ⟨n18, n19⟩ := nn n17
      have l8 : listed.getD 8 false = true := hM.came hix 8 (by kernel_rfl)
      have l16 : listed.getD 16 false = true := hM.came hix 16 (by kernel_rfl)
      obtain ⟨k1, k3⟩ := HE.out.p10 l8 n17
      obtain ⟨g, d57, hg, _, _⟩ := k3 l16
      have HL : Hid (17 < listed.size) := Lib.hid (by rw [hsz]; show 17 < 20; omega)
      have HT : Hid (58 < a.tmps.size) := Lib.hid (by rw [hM.tmps, hz]; decide)
      rw [Array.getD_eq_getD_getElem?] at d57
      refine wp_append_rf2 base (.tmp 50) (.tmp 57) (by obtain rfl := Option.some.inj ho; rfl) vb lb (by simpa [Act.eval] using d) k1.b r2 g 1 (by simpa [Act.eval] using d57) hg hlb k1.size ?_
      intro v' w5 hown5 hg5 hk5
      obtain rfl := Option.some.inj ho
      refine ⟨v', rfl, ⟨fun h8 => ?_, fun _ h17 => ?_, fun _ _ => ?_, fun h => ?_, fun h => ?_⟩, trivial, trivial⟩
      · rw [set_other (by decide), l8] at h8; cases h8
      · simp [HL.out] at h17
      · show Two W0 base w5 ((a.put (some 58) v').tmps.getD 49 undef) _ ((a.put (some 58) v').tmps.getD 58 undef) _
        rw [put_getD_same _ HT.out, put_getD_other _ (by decide)]
        exact (k1.swap.putA hown5 hg5 hk5).swap
      · rw [set_other (by decide), n18] at h; cases h
      · rw [set_other (by decide), n19] at h; cases h
    | 18, _ =>
      have d := hM.old hix 4 (by kernel_rfl) _ ht4
      have l17 : listed.getD 17 false = true := hM.came hix 17 (by kernel_rfl)
      have nk := hM.not_yet hix
      have n19 : listed.getD 19 false = false := by
        rw [Bool.eq_false_iff]; intro h6
        have := anc_listed hM.down 20 19 18 (by kernel_rfl) h6
        rw [nk] at this; cases this
      have HP := Lib.hid (HE.out.p11 l17 nk)
      have HN19 := Lib.hid n19; have HL17 := Lib.hid l17
      have hv : ∃ ad n c, a.tmps[49]?.getD undef = .slice ad n c := by
        rw [← Array.getD_eq_getD_getElem?]
        rcases HP.out.a.2 with ⟨e, _⟩ | ⟨_, _, _, e, _⟩
        · exact ⟨_, _, _, e⟩
        · exact ⟨_, _, _, e⟩
      have hBb : w'.heap[B4]? = W0.heap[B4]? := HP.out.below.block B4 hB4
      have l8 : listed.getD 8 false = true := anc_listed hM.down 20 17 8 (by kernel_rfl) l17
      have HL8 := Lib.hid l8
      obtain ⟨ad, nv, cv, dv⟩ := hv
      have HV := Lib.hid dv
      obtain ⟨u0, hu0⟩ := hbx4
      have fz : w'.frozen? ⟨B4, 0, none⟩ = false := by unfold World.frozen?; rw [hBb, hu0]; rfl
      have c2 : w'.cell? ⟨B4, 0, none⟩ = some u0 := by simp [World.cell?, hBb, hu0]
      have HL : Hid (18 < listed.size) := Lib.hid (by rw [hsz]; show 18 < 20; omega)
      clear hva hvb hh1 hh2 hx1 hx2 hm1 hm2 hi1 hi2 nn hBb hu0 l8 l17
      obtain rfl := Option.some.inj ho
      go_simp
      refine ⟨undef, rfl, ⟨fun h8 => ?_, fun _ h17 => ?_, fun _ h18 => ?_, fun _ _ => ⟨w', HP.out, ?_⟩, fun h => ?_⟩, trivial, trivial⟩
      · rw [set_other (by decide), HL8.out] at h8; cases h8
      · rw [set_other (by decide), HL17.out] at h17; cases h17
      · simp [HL.out] at h18
      · rw [Array.getD_eq_getD_getElem?]; show w'.setCell _ _ = w'.setCell _ (a.tmps[49]?.getD undef); rw [HV.out]
      · rw [set_other (by decide), HN19.out] at h; cases h
    | 19, _ =>
      have d := hM.old hix 5 (by kernel_rfl) _ ht5
      have l18 : listed.getD 18 false = true := hM.came hix 18 (by kernel_rfl)
      have l17 : listed.getD 17 false = true := anc_listed hM.down 20 18 17 (by kernel_rfl) l18
      have nk := hM.not_yet hix
      obtain ⟨w1, hp, hw1⟩ := HE.out.p18 l18 nk
      have HP := Lib.hid hp; have HW1 := Lib.hid hw1; have HL17 := Lib.hid l17; have HL18 := Lib.hid l18
      have hv : ∃ ad n c, a.tmps[58]?.getD undef = .slice ad n c := by
        rw [← Array.getD_eq_getD_getElem?]
        rcases HP.out.b.2 with ⟨e, _⟩ | ⟨_, _, _, e, _⟩
        · exact ⟨_, _, _, e⟩
        · exact ⟨_, _, _, e⟩
      have hBb : w'.heap[B5]? = W0.heap[B5]? := by
        rw [hw1, heap_setCell_other _ _ _ _ (fun e => h45 e.symm)]; exact HP.out.below.block B5 hB5
      clear hw1 hp
      have l8 : listed.getD 8 false = true := anc_listed hM.down 20 17 8 (by kernel_rfl) l17
      have HL8 := Lib.hid l8
      obtain ⟨ad, nv, cv, dv⟩ := hv
      have HV := Lib.hid dv
      obtain ⟨u0, hu0⟩ := hbx5
      have fz : w'.frozen? ⟨B5, 0, none⟩ = false := by unfold World.frozen?; rw [hBb, hu0]; rfl
      have c2 : w'.cell? ⟨B5, 0, none⟩ = some u0 := by simp [World.cell?, hBb, hu0]
      have HL : Hid (19 < listed.size) := Lib.hid (by rw [hsz]; show 19 < 20; omega)
      clear hva hvb hh1 hh2 hx1 hx2 hm1 hm2 hi1 hi2 nn hBb hu0 l8 l17
      obtain rfl := Option.some.inj ho
      go_simp
      refine ⟨undef, rfl, ⟨fun h8 => ?_, fun _ h17 => ?_, fun _ h18 => ?_, fun _ h19 => ?_, fun _ => ⟨w1, _, _, HP.out, ?_⟩⟩, trivial, trivial⟩
      · rw [set_other (by decide), HL8.out] at h8; cases h8
      · rw [set_other (by decide), HL17.out] at h17; cases h17
      · rw [set_other (by decide), HL18.out] at h18; cases h18
      · simp [HL.out] at h19
      · rw [← HW1.out, Array.getD_eq_getD_getElem?]; show w'.setCell _ _ = w'.setCell _ (a.tmps[58]?.getD undef); rw [HV.out]
  · intro listed a w' hall hM
    obtain ⟨w1, v1, v2, hp, rfl⟩ := hM.ext.p19 (hall 19 (show 19 < 20 by omega))
    exact hQ a w1 v1 v2 (hM.tmps.trans hz) hM.defers (mid_frame (lo := 41) (hi := 58) (by kernel_rfl) hM) hp

end Go.Proofs.Ytapejaabhkfhjaa

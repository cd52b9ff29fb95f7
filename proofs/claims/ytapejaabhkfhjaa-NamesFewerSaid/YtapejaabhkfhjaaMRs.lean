/- Resolve: the regions that draw their order (printed by gen_rs.py). -/
import Derived.Test.YtapejaabhkfhjaaMRq
import Derived.Test.YtapejaabhkfhjaaMRf
namespace Go.Proofs.Ytapejaabhkfhjaa
open Go.RowKit

theorem all_get {ops : Array Oper} {p : Oper → Bool} {i : Nat} {o : Oper} (h : ops.all p = true) (ho : ops[i]? = some o) : p o = true := by
  rw [Array.all_eq_true_iff_forall_mem] at h
  exact h o (Array.mem_of_getElem? ho)
theorem set_other {l : Array Bool} {i j : Nat} (h : i ≠ j) : (l.setIfInBounds i true).getD j false = l.getD j false := getD_set_ne false h
theorem tset_other {l : Array Value} {i j : Nat} {v : Value} (h : i ≠ j) : (l.setIfInBounds i v).getD j undef = l.getD j undef := by simp [h]
def slotIn (lo hi : Nat) (d : Option Tmp) : Bool := match d with
  | some k => decide (lo ≤ k) && decide (k ≤ hi)
  | none => true
theorem mid_frame {lo hi : Nat} {ops : Array Oper} {a₀ : Act} {Ext : Array Bool → Array Value → World → Prop} {Pp : Nat → Value → World → Prop} {listed : Array Bool} {a : Act} {w' : World} (hop : ops.all (fun o => slotIn lo hi o.dst) = true) (hM : Mid ops a₀ Ext Pp listed a w') :
    ∀ t, (t < lo ∨ hi < t) → a.tmps.getD t undef = a₀.tmps.getD t undef := by
  intro t ht
  refine hM.free t fun mm hmm o ho hd => ?_
  have hs : slotIn lo hi o.dst = true := all_get (p := fun o => slotIn lo hi o.dst) hop ho
  rw [hd] at hs
  simp only [slotIn, Bool.and_eq_true, decide_eq_true_eq] at hs
  exact (show ¬ (lo ≤ t ∧ t ≤ hi) from by omega) hs


/- what the steps of region 32 lay -/
def findP (B g rn rc mr i : Nat) (j : Nat) (v : Value) (_ : World) : Prop := match j with
  | 0 => v = .func (.func 49) #[] #[]
  | 1 => v = .pointer (some ⟨B + 1, 21, none⟩)
  | 2 => v = .slice (some ⟨g, 0, none⟩) rn rc
  | 3 => v = .int .i64 i
  | 4 => v = .pointer (some ⟨g, i * 51, none⟩)
  | 5 => v = .pointer (some ⟨g, i * 51 + 1, none⟩)
  | 6 => v = .map (some mr)
  | 7 => v = .int .i64 i
  | _ => True
structure FindExt (R1 R2 : World → Prop) (l : Array Bool) (_ : Array Value) (w : World) : Prop where
  one : l.getD 8 false = false → R1 w
  two : l.getD 8 false = true → R2 w
theorem FindExt.quiet {R1 R2 : World → Prop} {l : Array Bool} {tm tm' : Array Value} {w : World} {i : Nat} (h : FindExt R1 R2 l tm w) (hi : i ≠ 8) : FindExt R1 R2 (l.setIfInBounds i true) tm' w :=
  ⟨fun k => h.one (by rw [set_other hi] at k; exact k), fun k => h.two (by rw [set_other hi] at k; exact k)⟩
set_option maxRecDepth 100000 in
set_option maxHeartbeats 4000000 in
theorem reg32 {a₀ : Act} {wr : World} {Q : Exit → Act → World → Prop} {B Bf g rn rc br mr i : Nat} {R1 R2 R3 : World → Prop} (ops : Array Oper) (hops : regOf Try.f11 32 = some ops)
    (h2 : a₀.tmps.getD 2 undef = .pointer (some ⟨B + 1, 0, none⟩)) (h6 : a₀.tmps.getD 6 undef = .pointer (some ⟨br, 0, none⟩)) (h13 : a₀.tmps.getD 13 undef = .pointer (some ⟨Bf, 0, none⟩)) (h14 : a₀.tmps.getD 14 undef = .int .i64 i) (hz : a₀.tmps.size = 174)
    (hi : i < rn) (h0 : R1 wr.drew)
    (hS : ∀ W, R1 W → W.cell? ⟨Bf, 0, none⟩ = some (.func (.func 49) #[] #[]) ∧ W.cell? ⟨B + 1, 21, none⟩ = some (.slice (some ⟨g, 0, none⟩) rn rc) ∧ W.cell? ⟨br, 0, none⟩ = some (.map (some mr)))
    (hcall : ∀ W, R1 W → Calls Try.prog 49 #[.pointer (some ⟨g, i * 51 + 1, none⟩), .map (some mr), .int .i64 i] W fun e w' => (e = .returned (.tuple #[]) ∧ R2 w') ∨ (e = .panicked (errP 170) ∧ R3 w'))
    (hQ1 : ∀ (a : Act) W, a.defers = a₀.defers → (∀ t, (t < 105 ∨ 113 < t) → a.tmps.getD t undef = a₀.tmps.getD t undef) → R3 W → Q (.panic (errP 170)) a W)
    (hQ2 : ∀ (a : Act) W, a.tmps.size = 174 → a.defers = a₀.defers → (∀ t, (t < 105 ∨ 113 < t) → a.tmps.getD t undef = a₀.tmps.getD t undef) → R2 W → Q .normal a W) :
    (Code.region 32 ops true).wp Try.prog Q a₀ wr := by
  obtain rfl := Option.some.inj ((rfl : regOf Try.f11 32 = some _).symm.trans hops)
  clear hops
  refine wp_region_mids (by kernel_rfl) (FindExt R1 R2) (findP B g rn rc mr i) (fun _ _ _ => True) (by kernel_rfl) (by rw [hz]; kernel_rfl) (by kernel_rfl) (fun _ j v w w' _ _ _ h => by unfold findP at h ⊢; exact h) ⟨fun _ => h0, fun h => (by cases h)⟩ ?_ ?_
  · intro ix listed a w' hM hix o ho
    have HE := Lib.hid hM.ext
    have hlt := (Array.getElem?_eq_some_iff.1 ho).1
    have hsz := hM.size
    have HI := Lib.hid hi
    have hki : (i : Int) < (rn : Int) := by omega
    match ix, hlt with
    | 0, _ =>
      have d := hM.old hix 13 (by kernel_rfl) _ h13
      have n8 : listed.getD 8 false = false := by
        rw [Bool.eq_false_iff]; intro h8
        have := anc_listed hM.down 8 8 0 (by kernel_rfl) h8
        rw [hM.not_yet hix] at this; cases this
      obtain ⟨x1, x2, x3⟩ := hS _ (HE.out.one n8)
      clear hi
      obtain rfl := Option.some.inj ho
      go_simp
      exact ⟨_, rfl, HE.out.quiet (by decide), trivial, rfl⟩
    | 1, _ =>
      have d := hM.old hix 2 (by kernel_rfl) _ h2
      clear hi
      obtain rfl := Option.some.inj ho
      go_simp
      exact ⟨_, rfl, HE.out.quiet (by decide), trivial, rfl⟩
    | 2, _ =>
      have d : a.tmps[106]?.getD undef = .pointer (some ⟨B + 1, 21, none⟩) := hM.dep hix 1 106 (by kernel_rfl) (by kernel_rfl)
      have n8 : listed.getD 8 false = false := by
        rw [Bool.eq_false_iff]; intro h8
        have := anc_listed hM.down 8 8 2 (by kernel_rfl) h8
        rw [hM.not_yet hix] at this; cases this
      obtain ⟨x1, x2, x3⟩ := hS _ (HE.out.one n8)
      clear hi
      obtain rfl := Option.some.inj ho
      go_simp
      exact ⟨_, rfl, HE.out.quiet (by decide), trivial, rfl⟩
    | 3, _ =>
      have d := hM.old hix 14 (by kernel_rfl) _ h14
      clear hi
      obtain rfl := Option.some.inj ho
      go_simp
      exact ⟨_, rfl, HE.out.quiet (by decide), trivial, rfl⟩
    | 4, _ =>
      have d1 : a.tmps[107]?.getD undef = .slice (some ⟨g, 0, none⟩) rn rc := hM.dep hix 2 107 (by kernel_rfl) (by kernel_rfl)
      have d2 : a.tmps[108]?.getD undef = .int .i64 i := hM.dep hix 3 108 (by kernel_rfl) (by kernel_rfl)
      clear hi
      obtain rfl := Option.some.inj ho
      go_simp
      exact ⟨_, rfl, HE.out.quiet (by decide), trivial, rfl⟩
    | 5, _ =>
      have d : a.tmps[109]?.getD undef = .pointer (some ⟨g, i * 51, none⟩) := hM.dep hix 4 109 (by kernel_rfl) (by kernel_rfl)
      clear hi
      obtain rfl := Option.some.inj ho
      go_simp
      exact ⟨_, rfl, HE.out.quiet (by decide), trivial, rfl⟩
    | 6, _ =>
      have d := hM.old hix 6 (by kernel_rfl) _ h6
      have n8 : listed.getD 8 false = false := by
        rw [Bool.eq_false_iff]; intro h8
        have := anc_listed hM.down 8 8 6 (by kernel_rfl) h8
        rw [hM.not_yet hix] at this; cases this
      obtain ⟨x1, x2, x3⟩ := hS _ (HE.out.one n8)
      clear hi
      obtain rfl := Option.some.inj ho
      go_simp
      exact ⟨_, rfl, HE.out.quiet (by decide), trivial, rfl⟩
    | 7, _ =>
      have d := hM.old hix 14 (by kernel_rfl) _ h14
      clear hi
      obtain rfl := Option.some.inj ho
      go_simp
      exact ⟨_, rfl, HE.out.quiet (by decide), trivial, rfl⟩
    | 8, _ =>
      have d1 : a.tmps[105]?.getD undef = .func (.func 49) #[] #[] := hM.dep hix 0 105 (by kernel_rfl) (by kernel_rfl)
      have d2 : a.tmps[110]?.getD undef = .pointer (some ⟨g, i * 51 + 1, none⟩) := hM.dep hix 5 110 (by kernel_rfl) (by kernel_rfl)
      have d3 : a.tmps[111]?.getD undef = .map (some mr) := hM.dep hix 6 111 (by kernel_rfl) (by kernel_rfl)
      have d4 : a.tmps[112]?.getD undef = .int .i64 i := hM.dep hix 7 112 (by kernel_rfl) (by kernel_rfl)
      have hr1 := HE.out.one (hM.not_yet hix)
      have HC := Lib.hid (hcall _ hr1)
      have HF := Lib.hid (mid_frame (lo := 105) (hi := 113) (by kernel_rfl) hM)
      have HDF := Lib.hid hM.defers
      have HL : Hid (8 < listed.size) := Lib.hid (by rw [hsz]; show 8 < 9; omega)
      clear hi
      obtain rfl := Option.some.inj ho
      go_simp
      refine HC.out.mono ?_
      rintro e w2 (⟨rfl, hr2⟩ | ⟨rfl, hr2⟩)
      · exact ⟨_, rfl, ⟨fun h => (by simp [HL.out] at h), fun _ => hr2⟩, trivial, trivial⟩
      · exact hQ1 _ _ HDF.out HF.out hr2
  · intro listed a w' hall hM
    exact hQ2 a w' (hM.tmps.trans hz) hM.defers (mid_frame (lo := 105) (hi := 113) (by kernel_rfl) hM) (hM.ext.two (hall 8 (show 8 < 9 by omega)))


/- what region 11's steps leave as it is -/
def LeB (n0 : Nat) (w w' : World) : Prop := w.heap.size ≤ w'.heap.size ∧ ∀ (b : Nat) (o : Obj), n0 ≤ b → w.heap[b]? = some o → w'.heap[b]? = some o ∨ ∃ z z' : Value, o = .cells #[z] 90 (0, 0) ∧ w'.heap[b]? = some (.cells #[z'] 90 (0, 0))
theorem LeB.refl (n0 : Nat) (w : World) : LeB n0 w w := ⟨Nat.le_refl _, fun _ _ _ h => .inl h⟩
theorem LeB.below {n0 : Nat} {w w' : World} (h : Below w.heap.size w w') : LeB n0 w w' := ⟨h.size, fun b _ _ hb => .inl ((h.block b (Array.getElem?_eq_some_iff.1 hb).1).trans hb)⟩
theorem MapIs.leB {n0 : Nat} {w w' : World} {m : Nat} {nms : List ByteArray} (h : MapIs w m nms) (hl : LeB n0 w w') (hm : n0 ≤ m) : MapIs w' m nms := by
  obtain ⟨es, clock, h1, h2⟩ := h
  rcases hl.2 m _ hm h1 with h3 | ⟨z, z', h3, _⟩
  · exact ⟨es, clock, h3, h2⟩
  · cases h3
/- a box that an alloc laid -/
def BoxAt (n0 : Nat) (v : Value) (w : World) : Prop := ∃ b z, v = .pointer (some ⟨b, 0, none⟩) ∧ n0 ≤ b ∧ w.heap[b]? = some (.cells #[z] 90 (0, 0))
theorem BoxAt.leB {n0 : Nat} {v : Value} {w w' : World} (h : BoxAt n0 v w) (hl : LeB n0 w w') : BoxAt n0 v w' := by
  obtain ⟨b, z, h1, h2, h3⟩ := h
  rcases hl.2 b _ h2 h3 with h4 | ⟨_, z', _, h4⟩
  · exact ⟨b, z, h1, h2, h4⟩
  · exact ⟨b, z', h1, h2, h4⟩
def TabAt (n0 : Nat) (v : Value) (nms : List ByteArray) (w : World) : Prop := ∃ m, v = .map (some m) ∧ n0 ≤ m ∧ MapIs w m nms ∧ nms.Nodup
theorem TabAt.leB {n0 : Nat} {v : Value} {nms : List ByteArray} {w w' : World} (h : TabAt n0 v nms w) (hl : LeB n0 w w') : TabAt n0 v nms w' := by
  obtain ⟨m, h1, h2, h3, h4⟩ := h
  exact ⟨m, h1, h2, h3.leB hl h2, h4⟩
def tabP (n0 B : Nat) (h0 h1 h2 h3 : Hdr) (n0s n1s n2s n3s : List ByteArray) (j : Nat) (v : Value) (w : World) : Prop := match j with
  | 0 => v = .pointer (some ⟨B, 19, none⟩)
  | 1 => v = .slice h0.a h0.n h0.c
  | 2 => TabAt n0 v n0s w
  | 3 => v = .pointer (some ⟨B, 20, none⟩)
  | 4 => v = .slice h1.a h1.n h1.c
  | 5 => TabAt n0 v n1s w
  | 6 => v = .pointer (some ⟨B, 21, none⟩)
  | 7 => v = .slice h2.a h2.n h2.c
  | 8 => TabAt n0 v n2s w
  | 9 => v = .pointer (some ⟨B, 22, none⟩)
  | 10 => v = .slice h3.a h3.n h3.c
  | 11 => TabAt n0 v n3s w
  | 12 | 13 | 14 | 15 => BoxAt n0 v w
  | _ => True
theorem tabP_stable {n0 B : Nat} {h0 h1 h2 h3 : Hdr} {n0s n1s n2s n3s : List ByteArray} (j : Nat) (v : Value) (w w' : World) (hl : LeB n0 w w') (h : tabP n0 B h0 h1 h2 h3 n0s n1s n2s n3s j v w) : tabP n0 B h0 h1 h2 h3 n0s n1s n2s n3s j v w' := by
  unfold tabP at h ⊢
  split at h
  all_goals first | exact h | exact h.leB hl
/- a box with its table -/
def FullAt (n0 : Nat) (v : Value) (nms : List ByteArray) (w : World) : Prop := ∃ b, v = .pointer (some ⟨b, 0, none⟩) ∧ n0 ≤ b ∧ b < w.heap.size ∧ MapBox w b nms
def FullK (n0 : Nat) (n0s n1s n2s n3s : List ByteArray) (l : Array Bool) (tm : Array Value) (w : World) (q : Nat) : Prop := l.getD (16 + q) false = true → FullAt n0 (tm.getD (4 + q) undef) ((([n0s, n1s, n2s, n3s] : List (List ByteArray)))[q]?.getD []) w
structure TabExt (n0 : Nat) (V : World) (n0s n1s n2s n3s : List ByteArray) (l : Array Bool) (tm : Array Value) (w : World) : Prop where
  below : Below n0 V w
  apart : ∀ p q, p < 4 → q < 4 → p ≠ q → l.getD (12 + p) false = true → l.getD (12 + q) false = true → tm.getD (4 + p) undef ≠ tm.getD (4 + q) undef
  full : ∀ q, q < 4 → FullK n0 n0s n1s n2s n3s l tm w q
section
variable {n0 : Nat} {V w w' : World} {n0s n1s n2s n3s : List ByteArray} {l : Array Bool} {tm : Array Value}
theorem MapBox.below {b : Nat} {nms : List ByteArray} (h : MapBox w b nms) (hb : Below w.heap.size w w') : MapBox w' b nms := by
  obtain ⟨m, h1, h2⟩ := h
  exact ⟨m, (hb.block b (Array.getElem?_eq_some_iff.1 h1).1).trans h1, h2.block (hb.block m h2.lt)⟩
theorem TabExt.quiet (h : TabExt n0 V n0s n1s n2s n3s l tm w) {i t : Nat} {v : Value} (hi : i < 12) (ht : 7 < t) (hz : n0 ≤ w.heap.size) (hb : Below w.heap.size w w') : TabExt n0 V n0s n1s n2s n3s (l.setIfInBounds i true) (tm.setIfInBounds t v) w' := by
  refine ⟨h.below.trans (hb.mono hz), fun p q hp hq hne k1 k2 => ?_, fun q hq k => ?_⟩
  · rw [set_other (by omega)] at k1 k2
    rw [tset_other (by omega), tset_other (by omega)]
    exact h.apart p q hp hq hne k1 k2
  · rw [set_other (by omega)] at k
    rw [tset_other (by omega)]
    obtain ⟨b, h1, h2, h3, h4⟩ := h.full q hq k
    exact ⟨b, h1, h2, Nat.lt_of_lt_of_le h3 hb.size, h4.below hb⟩
theorem TabExt.alloc (h : TabExt n0 V n0s n1s n2s n3s l tm w) {q : Nat} (hq : q < 4) (hz : n0 ≤ w.heap.size) (htm : tm.size = 174) (hbox : ∀ p, p < 4 → l.getD (12 + p) false = true → BoxAt n0 (tm.getD (4 + p) undef) w) (h16 : l.getD (16 + q) false = false) (z : Value) :
    TabExt n0 V n0s n1s n2s n3s (l.setIfInBounds (12 + q) true) (tm.setIfInBounds (4 + q) (.pointer (some ⟨w.heap.size, 0, none⟩))) (w.alloc (.cells #[z] 90)) := by
  have hb : Below w.heap.size w (w.alloc (.cells #[z] 90)) := (Below.refl _ _).alloc (Nat.le_refl _) _
  have hsame : (tm.setIfInBounds (4 + q) (.pointer (some ⟨w.heap.size, 0, none⟩))).getD (4 + q) undef = .pointer (some ⟨w.heap.size, 0, none⟩) := by simp [htm, show 4 + q < 174 by omega]
  have hold : ∀ p, p < 4 → p ≠ q → (l.setIfInBounds (12 + q) true).getD (12 + p) false = true → ∃ b, tm.getD (4 + p) undef = .pointer (some ⟨b, 0, none⟩) ∧ b < w.heap.size := fun p hp hne k => by
    rw [set_other (by omega)] at k
    obtain ⟨b, z, h1, _, h3⟩ := hbox p hp k
    exact ⟨b, h1, (Array.getElem?_eq_some_iff.1 h3).1⟩
  refine ⟨h.below.trans (hb.mono hz), fun p r hp hr hne k1 k2 => ?_, fun p hp k => ?_⟩
  · by_cases e1 : p = q
    · subst e1
      obtain ⟨b, h1, h2⟩ := hold r hr (Ne.symm hne) k2
      rw [hsame, tset_other (by omega), h1]
      intro e; simp at e <;> omega
    · obtain ⟨b, h1, h2⟩ := hold p hp e1 k1
      by_cases e2 : r = q
      · subst e2
        rw [hsame, tset_other (by omega), h1]
        intro e; simp at e <;> omega
      · rw [tset_other (by omega), tset_other (by omega)]
        rw [set_other (by omega)] at k1 k2
        exact h.apart p r hp hr hne k1 k2
  · rw [set_other (by omega)] at k
    by_cases e1 : p = q
    · subst e1; rw [h16] at k; cases k
    · rw [tset_other (by omega)]
      obtain ⟨b, h1, h2, h3, h4⟩ := h.full p hp k
      exact ⟨b, h1, h2, Nat.lt_of_lt_of_le h3 hb.size, h4.below hb⟩
theorem TabExt.store (h : TabExt n0 V n0s n1s n2s n3s l tm w) {q b m : Nat} {z : Value} (hq : q < 4) (hz : n0 ≤ b) (hb : w.heap[b]? = some (.cells #[z] 90 (0, 0))) (htq : tm.getD (4 + q) undef = .pointer (some ⟨b, 0, none⟩))
    (hm : MapIs w m ((([n0s, n1s, n2s, n3s] : List (List ByteArray)))[q]?.getD [])) (h12 : l.getD (12 + q) false = true) (hdown : ∀ p, p < 4 → l.getD (16 + p) false = true → l.getD (12 + p) false = true) :
    TabExt n0 V n0s n1s n2s n3s (l.setIfInBounds (16 + q) true) tm (w.setCell ⟨b, 0, none⟩ (.map (some m))) ∧ LeB n0 w (w.setCell ⟨b, 0, none⟩ (.map (some m))) := by
  have hsame : (w.setCell ⟨b, 0, none⟩ (.map (some m))).heap[b]? = some (.cells #[.map (some m)] 90 (0, 0)) := by
    have := heap_setCell_same w b 0 #[z] 90 (.map (some m)) hb
    rw [this]; rfl
  have hoth : ∀ c, c ≠ b → (w.setCell ⟨b, 0, none⟩ (.map (some m))).heap[c]? = w.heap[c]? := fun c hc => heap_setCell_other w ⟨b, 0, none⟩ c _ hc
  have hmap : ∀ m' nms, MapIs w m' nms → MapIs (w.setCell ⟨b, 0, none⟩ (.map (some m))) m' nms := fun m' nms h => by
    obtain ⟨es, clock, h1, _⟩ := h.size
    exact h.block (hoth m' (fun e => by rw [e, hb] at h1; cases h1))
  refine ⟨⟨?_, fun p r hp hr hne k1 k2 => ?_, fun p hp k => ?_⟩, by simp, fun c o hc ho => ?_⟩
  · exact h.below.trans ⟨rfl, rfl, rfl, by simp, fun c hc => hoth c (by omega)⟩
  · rw [set_other (by omega)] at k1 k2
    exact h.apart p r hp hr hne k1 k2
  · by_cases e1 : p = q
    · subst e1
      exact ⟨b, htq, hz, by simpa using (Array.getElem?_eq_some_iff.1 hb).1, m, hsame, hmap _ _ hm⟩
    · rw [set_other (by omega)] at k
      obtain ⟨b', h1, h2, h3, m', h4, h5⟩ := h.full p hp k
      have hne : b' ≠ b := fun e => h.apart p q hp hq e1 (hdown p hp k) h12 (by rw [h1, htq, e])
      exact ⟨b', h1, h2, by simpa using h3, m', (hoth b' hne).trans h4, hmap _ _ h5⟩
  · by_cases e : c = b
    · subst e
      rw [hb] at ho
      exact .inr ⟨z, .map (some m), (Option.some.inj ho).symm, hsame⟩
    · exact .inl ((hoth c e).trans ho)
end


set_option maxRecDepth 100000 in
set_option maxHeartbeats 8000000 in
theorem reg11 {a₀ : Act} {V : World} {Q : Exit → Act → World → Prop} {B : Nat} {h0 h1 h2 h3 : Hdr} {n0s n1s n2s n3s : List ByteArray} (ops : Array Oper) (hops : regOf Try.f11 11 = some ops)
    (ht1 : a₀.tmps.getD 1 undef = .pointer (some ⟨B, 0, none⟩)) (hz : a₀.tmps.size = 174)
    (hc : ∀ W, Below V.heap.size V W → W.cell? ⟨B, 19, none⟩ = some (.slice h0.a h0.n h0.c) ∧ W.cell? ⟨B, 20, none⟩ = some (.slice h1.a h1.n h1.c) ∧ W.cell? ⟨B, 21, none⟩ = some (.slice h2.a h2.n h2.c) ∧ W.cell? ⟨B, 22, none⟩ = some (.slice h3.a h3.n h3.c))
    (hr0 : ∀ W, Below V.heap.size V W → NmRow W h0 7 0 n0s) (hr1 : ∀ W, Below V.heap.size V W → NmRow W h1 7 0 n1s) (hr2 : ∀ W, Below V.heap.size V W → NmRow W h2 51 0 n2s) (hr3 : ∀ W, Below V.heap.size V W → NmRow W h3 12 0 n3s)
    (hz0 : n0s.length ≤ 100000) (hz1 : n1s.length ≤ 100000) (hz2 : n2s.length ≤ 100000) (hz3 : n3s.length ≤ 100000)
    (hQ1 : ∀ (a : Act) W, a.defers = a₀.defers → (∀ t, (t < 4 ∨ 54 < t) → a.tmps.getD t undef = a₀.tmps.getD t undef) → Below V.heap.size V W → ¬ (n0s.Nodup ∧ n1s.Nodup ∧ n2s.Nodup ∧ n3s.Nodup) → Q (.panic (errP 171)) a W)
    (hQ2 : ∀ (a : Act) W (bl bc br bf : Nat), a.tmps.size = 174 → a.defers = a₀.defers → (∀ t, t ∉ [4, 5, 6, 7, 43, 44, 45, 46, 47, 48, 49, 50, 51, 52, 53, 54] → a.tmps.getD t undef = a₀.tmps.getD t undef) →
      a.tmps.getD 4 undef = .pointer (some ⟨bl, 0, none⟩) → a.tmps.getD 5 undef = .pointer (some ⟨bc, 0, none⟩) → a.tmps.getD 6 undef = .pointer (some ⟨br, 0, none⟩) → a.tmps.getD 7 undef = .pointer (some ⟨bf, 0, none⟩) →
      MapBox W bl n0s → MapBox W bc n1s → MapBox W br n2s → MapBox W bf n3s → (V.heap.size ≤ bl ∧ bl < W.heap.size) → (V.heap.size ≤ bc ∧ bc < W.heap.size) → (V.heap.size ≤ br ∧ br < W.heap.size) → (V.heap.size ≤ bf ∧ bf < W.heap.size) → Below V.heap.size V W → (n0s.Nodup ∧ n1s.Nodup ∧ n2s.Nodup ∧ n3s.Nodup) → Q .normal a W) :
    (Code.region 11 ops true).wp Try.prog Q a₀ V := by
  obtain rfl := Option.some.inj ((rfl : regOf Try.f11 11 = some _).symm.trans hops)
  clear hops
  have hdst : ∀ {Ext : Array Bool → Array Value → World → Prop} {Pp : Nat → Value → World → Prop} {listed : Array Bool} {a : Act} {w' : World}, Mid _ a₀ Ext Pp listed a w' → ∀ t, t ∉ [4, 5, 6, 7, 43, 44, 45, 46, 47, 48, 49, 50, 51, 52, 53, 54] → a.tmps.getD t undef = a₀.tmps.getD t undef := fun hM t ht => by
    refine hM.free t fun mm hmm o ho hd => ht ?_
    have hs := all_get (ops := (Try.f11.body.bind (findReg 11)).getD #[]) (p := fun o => match o.dst with | some k => decide (k ∈ [4, 5, 6, 7, 43, 44, 45, 46, 47, 48, 49, 50, 51, 52, 53, 54]) | none => true) (by kernel_rfl) ho
    rw [hd] at hs
    exact of_decide_eq_true hs
  refine wp_region_mids (by kernel_rfl) (TabExt V.heap.size V n0s n1s n2s n3s) (tabP V.heap.size B h0 h1 h2 h3 n0s n1s n2s n3s) (fun _ => LeB V.heap.size) (by kernel_rfl) (by rw [hz]; kernel_rfl) (by kernel_rfl) (fun _ j v w w' _ _ hl h => tabP_stable j v w w' hl h) ?_ ?_ ?_
  · refine ⟨(Below.refl _ _).drew, fun p q hp hq hne k1 k2 => ?_, fun q hq k => ?_⟩
    · exfalso
      match p, hp with
      | 0, _ => cases k1
      | 1, _ => cases k1
      | 2, _ => cases k1
      | 3, _ => cases k1
    · exfalso
      match q, hq with
      | 0, _ => cases k
      | 1, _ => cases k
      | 2, _ => cases k
      | 3, _ => cases k
  · intro ix listed a w' hM hix o ho
    have HE := Lib.hid hM.ext
    have hlt := (Array.getElem?_eq_some_iff.1 ho).1
    have hsz : V.heap.size ≤ w'.heap.size := hM.ext.below.size
    have HSz := Lib.hid hsz
    have HTz : Hid (a.tmps.size = 174) := Lib.hid (hM.tmps.trans hz)
    have HF := Lib.hid (hdst hM)
    have HDF := Lib.hid hM.defers
    have HBox : Hid (∀ p, p < 4 → listed.getD (12 + p) false = true → BoxAt V.heap.size (a.tmps.getD (4 + p) undef) w') := Lib.hid (fun p hp k => by
      match p, hp with
      | 0, _ => exact hM.done 12 k _ 4 rfl rfl
      | 1, _ => exact hM.done 13 k _ 5 rfl rfl
      | 2, _ => exact hM.done 14 k _ 6 rfl rfl
      | 3, _ => exact hM.done 15 k _ 7 rfl rfl)
    clear hsz
    match ix, hlt with
    | 0, _ =>
      have d := hM.old hix 1 (by kernel_rfl) _ ht1
      obtain rfl := Option.some.inj ho
      go_simp
      exact ⟨_, rfl, HE.out.quiet (by decide) (by decide) HSz.out (Below.refl _ _), LeB.refl _ _, rfl⟩
    | 1, _ =>
      have d : a.tmps[43]?.getD undef = .pointer (some ⟨B, 19, none⟩) := hM.dep hix 0 43 (by kernel_rfl) (by kernel_rfl)
      obtain ⟨x0, x1, x2, x3⟩ := hc _ HE.out.below
      obtain rfl := Option.some.inj ho
      go_simp
      exact ⟨_, rfl, HE.out.quiet (by decide) (by decide) HSz.out (Below.refl _ _), LeB.refl _ _, rfl⟩
    | 2, _ =>
      have d : a.tmps[44]?.getD undef = .slice h0.a h0.n h0.c := hM.dep hix 1 44 (by kernel_rfl) (by kernel_rfl)
      have HC := Lib.hid (table_let (hr0 _ HE.out.below) hz0)
      unfold Hdr.v at HC
      obtain rfl := Option.some.inj ho
      go_simp
      refine HC.out.mono ?_
      rintro e w2 ⟨hb2, ⟨hnd, m, rfl, hm, hmi⟩ | ⟨hnd, rfl⟩⟩
      · exact ⟨_, rfl, HE.out.quiet (by decide) (by decide) HSz.out hb2, LeB.below hb2, m, rfl, Nat.le_trans HSz.out hm, hmi, hnd⟩
      · exact hQ1 _ _ HDF.out (fun t ht => HF.out t (by simp; omega)) (HE.out.below.trans (hb2.mono HSz.out)) (fun h => hnd h.1)
    | 3, _ =>
      have d := hM.old hix 1 (by kernel_rfl) _ ht1
      obtain rfl := Option.some.inj ho
      go_simp
      exact ⟨_, rfl, HE.out.quiet (by decide) (by decide) HSz.out (Below.refl _ _), LeB.refl _ _, rfl⟩
    | 4, _ =>
      have d : a.tmps[46]?.getD undef = .pointer (some ⟨B, 20, none⟩) := hM.dep hix 3 46 (by kernel_rfl) (by kernel_rfl)
      obtain ⟨x0, x1, x2, x3⟩ := hc _ HE.out.below
      obtain rfl := Option.some.inj ho
      go_simp
      exact ⟨_, rfl, HE.out.quiet (by decide) (by decide) HSz.out (Below.refl _ _), LeB.refl _ _, rfl⟩
    | 5, _ =>
      have d : a.tmps[47]?.getD undef = .slice h1.a h1.n h1.c := hM.dep hix 4 47 (by kernel_rfl) (by kernel_rfl)
      have HC := Lib.hid (table_crop (hr1 _ HE.out.below) hz1)
      unfold Hdr.v at HC
      obtain rfl := Option.some.inj ho
      go_simp
      refine HC.out.mono ?_
      rintro e w2 ⟨hb2, ⟨hnd, m, rfl, hm, hmi⟩ | ⟨hnd, rfl⟩⟩
      · exact ⟨_, rfl, HE.out.quiet (by decide) (by decide) HSz.out hb2, LeB.below hb2, m, rfl, Nat.le_trans HSz.out hm, hmi, hnd⟩
      · exact hQ1 _ _ HDF.out (fun t ht => HF.out t (by simp; omega)) (HE.out.below.trans (hb2.mono HSz.out)) (fun h => hnd h.2.1)
    | 6, _ =>
      have d := hM.old hix 1 (by kernel_rfl) _ ht1
      obtain rfl := Option.some.inj ho
      go_simp
      exact ⟨_, rfl, HE.out.quiet (by decide) (by decide) HSz.out (Below.refl _ _), LeB.refl _ _, rfl⟩
    | 7, _ =>
      have d : a.tmps[49]?.getD undef = .pointer (some ⟨B, 21, none⟩) := hM.dep hix 6 49 (by kernel_rfl) (by kernel_rfl)
      obtain ⟨x0, x1, x2, x3⟩ := hc _ HE.out.below
      obtain rfl := Option.some.inj ho
      go_simp
      exact ⟨_, rfl, HE.out.quiet (by decide) (by decide) HSz.out (Below.refl _ _), LeB.refl _ _, rfl⟩
    | 8, _ =>
      have d : a.tmps[50]?.getD undef = .slice h2.a h2.n h2.c := hM.dep hix 7 50 (by kernel_rfl) (by kernel_rfl)
      have HC := Lib.hid (table_reach (hr2 _ HE.out.below) hz2)
      unfold Hdr.v at HC
      obtain rfl := Option.some.inj ho
      go_simp
      refine HC.out.mono ?_
      rintro e w2 ⟨hb2, ⟨hnd, m, rfl, hm, hmi⟩ | ⟨hnd, rfl⟩⟩
      · exact ⟨_, rfl, HE.out.quiet (by decide) (by decide) HSz.out hb2, LeB.below hb2, m, rfl, Nat.le_trans HSz.out hm, hmi, hnd⟩
      · exact hQ1 _ _ HDF.out (fun t ht => HF.out t (by simp; omega)) (HE.out.below.trans (hb2.mono HSz.out)) (fun h => hnd h.2.2.1)
    | 9, _ =>
      have d := hM.old hix 1 (by kernel_rfl) _ ht1
      obtain rfl := Option.some.inj ho
      go_simp
      exact ⟨_, rfl, HE.out.quiet (by decide) (by decide) HSz.out (Below.refl _ _), LeB.refl _ _, rfl⟩
    | 10, _ =>
      have d : a.tmps[52]?.getD undef = .pointer (some ⟨B, 22, none⟩) := hM.dep hix 9 52 (by kernel_rfl) (by kernel_rfl)
      obtain ⟨x0, x1, x2, x3⟩ := hc _ HE.out.below
      obtain rfl := Option.some.inj ho
      go_simp
      exact ⟨_, rfl, HE.out.quiet (by decide) (by decide) HSz.out (Below.refl _ _), LeB.refl _ _, rfl⟩
    | 11, _ =>
      have d : a.tmps[53]?.getD undef = .slice h3.a h3.n h3.c := hM.dep hix 10 53 (by kernel_rfl) (by kernel_rfl)
      have HC := Lib.hid (table_farm (hr3 _ HE.out.below) hz3)
      unfold Hdr.v at HC
      obtain rfl := Option.some.inj ho
      go_simp
      refine HC.out.mono ?_
      rintro e w2 ⟨hb2, ⟨hnd, m, rfl, hm, hmi⟩ | ⟨hnd, rfl⟩⟩
      · exact ⟨_, rfl, HE.out.quiet (by decide) (by decide) HSz.out hb2, LeB.below hb2, m, rfl, Nat.le_trans HSz.out hm, hmi, hnd⟩
      · exact hQ1 _ _ HDF.out (fun t ht => HF.out t (by simp; omega)) (HE.out.below.trans (hb2.mono HSz.out)) (fun h => hnd h.2.2.2)
    | 12, _ =>
      have h16 : listed.getD (16 + 0) false = false := by
        rw [Bool.eq_false_iff]; intro h8
        have := anc_listed hM.down 8 16 12 (by kernel_rfl) h8
        rw [hM.not_yet hix] at this; cases this
      have H16 := Lib.hid h16
      clear h16
      obtain rfl := Option.some.inj ho
      go_simp
      exact ⟨_, rfl, HE.out.alloc (q := 0) (by decide) HSz.out HTz.out HBox.out H16.out _, LeB.below ((Below.refl _ _).alloc (Nat.le_refl _) _), _, _, rfl, HSz.out, World.alloc_heap_new _ _⟩
    | 13, _ =>
      have h16 : listed.getD (16 + 1) false = false := by
        rw [Bool.eq_false_iff]; intro h8
        have := anc_listed hM.down 8 17 13 (by kernel_rfl) h8
        rw [hM.not_yet hix] at this; cases this
      have H16 := Lib.hid h16
      clear h16
      obtain rfl := Option.some.inj ho
      go_simp
      exact ⟨_, rfl, HE.out.alloc (q := 1) (by decide) HSz.out HTz.out HBox.out H16.out _, LeB.below ((Below.refl _ _).alloc (Nat.le_refl _) _), _, _, rfl, HSz.out, World.alloc_heap_new _ _⟩
    | 14, _ =>
      have h16 : listed.getD (16 + 2) false = false := by
        rw [Bool.eq_false_iff]; intro h8
        have := anc_listed hM.down 8 18 14 (by kernel_rfl) h8
        rw [hM.not_yet hix] at this; cases this
      have H16 := Lib.hid h16
      clear h16
      obtain rfl := Option.some.inj ho
      go_simp
      exact ⟨_, rfl, HE.out.alloc (q := 2) (by decide) HSz.out HTz.out HBox.out H16.out _, LeB.below ((Below.refl _ _).alloc (Nat.le_refl _) _), _, _, rfl, HSz.out, World.alloc_heap_new _ _⟩
    | 15, _ =>
      have h16 : listed.getD (16 + 3) false = false := by
        rw [Bool.eq_false_iff]; intro h8
        have := anc_listed hM.down 8 19 15 (by kernel_rfl) h8
        rw [hM.not_yet hix] at this; cases this
      have H16 := Lib.hid h16
      clear h16
      obtain rfl := Option.some.inj ho
      go_simp
      exact ⟨_, rfl, HE.out.alloc (q := 3) (by decide) HSz.out HTz.out HBox.out H16.out _, LeB.below ((Below.refl _ _).alloc (Nat.le_refl _) _), _, _, rfl, HSz.out, World.alloc_heap_new _ _⟩
    | 16, _ =>
      have hb : BoxAt V.heap.size (a.tmps[4]?.getD undef) w' := hM.dep hix 12 4 (by kernel_rfl) (by kernel_rfl)
      have hm : TabAt V.heap.size (a.tmps[45]?.getD undef) n0s w' := hM.dep hix 2 45 (by kernel_rfl) (by kernel_rfl)
      obtain ⟨b, z, d1, hb1, hb2⟩ := hb
      obtain ⟨m, d2, hm1, hm2, hm3⟩ := hm
      have hdn : ∀ p, p < 4 → listed.getD (16 + p) false = true → listed.getD (12 + p) false = true := fun p hp k => by
        match p, hp with
        | 0, _ => exact anc_listed hM.down 8 16 12 (by kernel_rfl) k
        | 1, _ => exact anc_listed hM.down 8 17 13 (by kernel_rfl) k
        | 2, _ => exact anc_listed hM.down 8 18 14 (by kernel_rfl) k
        | 3, _ => exact anc_listed hM.down 8 19 15 (by kernel_rfl) k
      have HSt := Lib.hid (HE.out.store (q := 0) (m := m) (by decide) hb1 hb2 (by rw [Array.getD_eq_getD_getElem?]; exact d1) hm2 (hM.came hix 12 (by kernel_rfl)) hdn)
      have c1 : w'.cell? ⟨b, 0, none⟩ = some z := by simp [World.cell?, hb2]
      have c2 : w'.frozen? ⟨b, 0, none⟩ = false := by simp [World.frozen?, hb2]
      clear hb1 hb2 hm1 hm2 hm3 hdn
      obtain rfl := Option.some.inj ho
      go_simp
      exact ⟨undef, rfl, HSt.out.1, HSt.out.2, trivial⟩
    | 17, _ =>
      have hb : BoxAt V.heap.size (a.tmps[5]?.getD undef) w' := hM.dep hix 13 5 (by kernel_rfl) (by kernel_rfl)
      have hm : TabAt V.heap.size (a.tmps[48]?.getD undef) n1s w' := hM.dep hix 5 48 (by kernel_rfl) (by kernel_rfl)
      obtain ⟨b, z, d1, hb1, hb2⟩ := hb
      obtain ⟨m, d2, hm1, hm2, hm3⟩ := hm
      have hdn : ∀ p, p < 4 → listed.getD (16 + p) false = true → listed.getD (12 + p) false = true := fun p hp k => by
        match p, hp with
        | 0, _ => exact anc_listed hM.down 8 16 12 (by kernel_rfl) k
        | 1, _ => exact anc_listed hM.down 8 17 13 (by kernel_rfl) k
        | 2, _ => exact anc_listed hM.down 8 18 14 (by kernel_rfl) k
        | 3, _ => exact anc_listed hM.down 8 19 15 (by kernel_rfl) k
      have HSt := Lib.hid (HE.out.store (q := 1) (m := m) (by decide) hb1 hb2 (by rw [Array.getD_eq_getD_getElem?]; exact d1) hm2 (hM.came hix 13 (by kernel_rfl)) hdn)
      have c1 : w'.cell? ⟨b, 0, none⟩ = some z := by simp [World.cell?, hb2]
      have c2 : w'.frozen? ⟨b, 0, none⟩ = false := by simp [World.frozen?, hb2]
      clear hb1 hb2 hm1 hm2 hm3 hdn
      obtain rfl := Option.some.inj ho
      go_simp
      exact ⟨undef, rfl, HSt.out.1, HSt.out.2, trivial⟩
    | 18, _ =>
      have hb : BoxAt V.heap.size (a.tmps[6]?.getD undef) w' := hM.dep hix 14 6 (by kernel_rfl) (by kernel_rfl)
      have hm : TabAt V.heap.size (a.tmps[51]?.getD undef) n2s w' := hM.dep hix 8 51 (by kernel_rfl) (by kernel_rfl)
      obtain ⟨b, z, d1, hb1, hb2⟩ := hb
      obtain ⟨m, d2, hm1, hm2, hm3⟩ := hm
      have hdn : ∀ p, p < 4 → listed.getD (16 + p) false = true → listed.getD (12 + p) false = true := fun p hp k => by
        match p, hp with
        | 0, _ => exact anc_listed hM.down 8 16 12 (by kernel_rfl) k
        | 1, _ => exact anc_listed hM.down 8 17 13 (by kernel_rfl) k
        | 2, _ => exact anc_listed hM.down 8 18 14 (by kernel_rfl) k
        | 3, _ => exact anc_listed hM.down 8 19 15 (by kernel_rfl) k
      have HSt := Lib.hid (HE.out.store (q := 2) (m := m) (by decide) hb1 hb2 (by rw [Array.getD_eq_getD_getElem?]; exact d1) hm2 (hM.came hix 14 (by kernel_rfl)) hdn)
      have c1 : w'.cell? ⟨b, 0, none⟩ = some z := by simp [World.cell?, hb2]
      have c2 : w'.frozen? ⟨b, 0, none⟩ = false := by simp [World.frozen?, hb2]
      clear hb1 hb2 hm1 hm2 hm3 hdn
      obtain rfl := Option.some.inj ho
      go_simp
      exact ⟨undef, rfl, HSt.out.1, HSt.out.2, trivial⟩
    | 19, _ =>
      have hb : BoxAt V.heap.size (a.tmps[7]?.getD undef) w' := hM.dep hix 15 7 (by kernel_rfl) (by kernel_rfl)
      have hm : TabAt V.heap.size (a.tmps[54]?.getD undef) n3s w' := hM.dep hix 11 54 (by kernel_rfl) (by kernel_rfl)
      obtain ⟨b, z, d1, hb1, hb2⟩ := hb
      obtain ⟨m, d2, hm1, hm2, hm3⟩ := hm
      have hdn : ∀ p, p < 4 → listed.getD (16 + p) false = true → listed.getD (12 + p) false = true := fun p hp k => by
        match p, hp with
        | 0, _ => exact anc_listed hM.down 8 16 12 (by kernel_rfl) k
        | 1, _ => exact anc_listed hM.down 8 17 13 (by kernel_rfl) k
        | 2, _ => exact anc_listed hM.down 8 18 14 (by kernel_rfl) k
        | 3, _ => exact anc_listed hM.down 8 19 15 (by kernel_rfl) k
      have HSt := Lib.hid (HE.out.store (q := 3) (m := m) (by decide) hb1 hb2 (by rw [Array.getD_eq_getD_getElem?]; exact d1) hm2 (hM.came hix 15 (by kernel_rfl)) hdn)
      have c1 : w'.cell? ⟨b, 0, none⟩ = some z := by simp [World.cell?, hb2]
      have c2 : w'.frozen? ⟨b, 0, none⟩ = false := by simp [World.frozen?, hb2]
      clear hb1 hb2 hm1 hm2 hm3 hdn
      obtain rfl := Option.some.inj ho
      go_simp
      exact ⟨undef, rfl, HSt.out.1, HSt.out.2, trivial⟩
  · intro listed a w' hall hM
    obtain ⟨bl, l1, l2, l3, l4⟩ := hM.ext.full 0 (by decide) (hall 16 (show 16 < 20 by omega))
    obtain ⟨bc, c1, c2, c3, c4⟩ := hM.ext.full 1 (by decide) (hall 17 (show 17 < 20 by omega))
    obtain ⟨br, r1, r2, r3, r4⟩ := hM.ext.full 2 (by decide) (hall 18 (show 18 < 20 by omega))
    obtain ⟨bf, f1, f2, f3, f4⟩ := hM.ext.full 3 (by decide) (hall 19 (show 19 < 20 by omega))
    obtain ⟨_, _, _, _, g0⟩ : TabAt V.heap.size _ n0s w' := hM.done 2 (hall 2 (show 2 < 20 by omega)) _ 45 rfl rfl
    obtain ⟨_, _, _, _, g1⟩ : TabAt V.heap.size _ n1s w' := hM.done 5 (hall 5 (show 5 < 20 by omega)) _ 48 rfl rfl
    obtain ⟨_, _, _, _, g2⟩ : TabAt V.heap.size _ n2s w' := hM.done 8 (hall 8 (show 8 < 20 by omega)) _ 51 rfl rfl
    obtain ⟨_, _, _, _, g3⟩ : TabAt V.heap.size _ n3s w' := hM.done 11 (hall 11 (show 11 < 20 by omega)) _ 54 rfl rfl
    exact hQ2 a w' bl bc br bf (hM.tmps.trans hz) hM.defers (hdst hM) l1 c1 r1 f1 l4 c4 r4 f4 ⟨l2, l3⟩ ⟨c2, c3⟩ ⟨r2, r3⟩ ⟨f2, f3⟩ hM.ext.below ⟨g0, g1, g2, g3⟩

end Go.Proofs.Ytapejaabhkfhjaa

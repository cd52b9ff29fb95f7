/- Texts Hg Hh in one: each says what it proves. -/
import Derived.Test.YtlaifodlnolndaaGreatDoorMk
import Derived.Test.YtlaifodlnolndaaGreatDoorMj
/- Reading a line: the region that reads a variable and an operator. -/
namespace Go.Proofs.YtlaifodlnolndaaGreatDoor
open Go.RowKit Go.Maps Go.ChangeMaps Go.WideMaps

/- words in a block of strings at or beyond n0 -/
def WordsB (n0 : Nat) (w : World) (v : Value) (ws : List (List UInt8)) : Prop := ∃ b, v = .slice (some ⟨b, 0, none⟩) ws.length ws.length ∧ n0 ≤ b ∧ w.heap[b]? = some (.cells (ws.map strV).toArray 9 (0, 0))
theorem WordsB.at {n0 : Nat} {w : World} {v : Value} {ws : List (List UInt8)} (h : WordsB n0 w v ws) : WordsAt w v ws := by
  obtain ⟨b, hv, _, hh⟩ := h
  refine ⟨b, hv, (Array.getElem?_eq_some_iff.1 hh).1, fun i hi => ?_⟩
  unfold World.cell?
  rw [hh]
  simp [hi]
theorem WordsB.mono {n0 n1 : Nat} {w : World} {v : Value} {ws : List (List UInt8)} (h : WordsB n0 w v ws) (hn : n1 ≤ n0) : WordsB n1 w v ws := by
  obtain ⟨b, hv, hb, hh⟩ := h
  exact ⟨b, hv, Nat.le_trans hn hb, hh⟩
set_option maxHeartbeats 400000 in
theorem variables_b (w : World) : Calls Tryz.prog 12 #[] w fun e w' => ∃ v, e = .returned v ∧ WordsB w.heap.size w' v varsW ∧ Below w.heap.size w w' := by
  go_enter Tryz.func12, Tryz.ntmps12
  go_wp2
  go_ret
  exact ⟨_, rfl, ⟨_, rfl, Nat.le_refl _, heap_new _ _ _ rfl⟩, (Below.refl _ _).alloc (Nat.le_refl _) _⟩
set_option maxHeartbeats 400000 in
theorem comparisons_b (w : World) : Calls Tryz.prog 13 #[] w fun e w' => ∃ v, e = .returned v ∧ WordsB w.heap.size w' v opsW ∧ Below w.heap.size w w' := by
  go_enter Tryz.func13, Tryz.ntmps13
  go_wp2
  go_ret
  exact ⟨_, rfl, ⟨_, rfl, Nat.le_refl _, heap_new _ _ _ rfl⟩, (Below.refl _ _).alloc (Nat.le_refl _) _⟩
/- blocks of strings stay -/
def LeS (n0 : Nat) (w w' : World) : Prop := ∀ b arr, n0 ≤ b → w.heap[b]? = some (.cells arr 9 (0, 0)) → w'.heap[b]? = some (.cells arr 9 (0, 0))
theorem WordsB.le {n0 : Nat} {w w' : World} {v : Value} {ws : List (List UInt8)} (h : WordsB n0 w v ws) (hl : LeS n0 w w') : WordsB n0 w' v ws := by
  obtain ⟨b, hv, hb, hh⟩ := h
  exact ⟨b, hv, hb, hl b _ hb hh⟩
theorem leS_grown {n0 p : Nat} {w w' : World} (hp : p < n0) (hg : w.grownBy w' (some p)) : LeS n0 w w' := fun b arr hb hh => by
  rw [hg.block b (Array.getElem?_eq_some_iff.1 hh).1 (by simp; omega)]; exact hh
theorem IsToks.kept {w w' : World} {p j : Nat} {v v' : Value} {ts : List Tok} (h : IsToks w v ts) (hp : PAt w p v' j) (hg : w.grownBy w' (some p)) : IsToks w' v ts := by
  obtain ⟨h1, h2, h3 | ⟨b, o, c, hv, hlt, hr⟩⟩ := h
  · exact ⟨h1, h2, .inl h3⟩
  · cases ts with
    | nil => exact ⟨h1, h2, .inl ⟨rfl, _, _, hv⟩⟩
    | cons t r =>
      have hne := tok_far (k := 0) hp hr (by simp)
      have hb := hg.block b hlt (by simpa using hne)
      refine ⟨h1, h2, .inr ⟨b, o, c, hv, Nat.lt_of_lt_of_le hlt hg.size, fun i hi => ?_⟩⟩
      obtain ⟨a0, a1, a2, a3⟩ := hr i hi
      exact ⟨(World.cell?_of_block (a := ⟨b, _, none⟩) hb).trans a0, (World.cell?_of_block (a := ⟨b, _, none⟩) hb).trans a1, (World.cell?_of_block (a := ⟨b, _, none⟩) hb).trans a2, (World.cell?_of_block (a := ⟨b, _, none⟩) hb).trans a3⟩

/- a value that is the text of a token that a reader takes as one of some words -/
def IsWord (P : Tok → Option Int) (W : List (List UInt8)) (d : Int) (ts : List Tok) (k : Nat) (v : Value) : Prop :=
  ∃ (x : Int) (j : Nat) (s : ByteArray), tokAt P ts k = some x ∧ j < 5 ∧ x = (j : Int) + d ∧ v = .string s ∧ s.size ≤ maxLen ∧ s.data.toList = W.getD j []
def readP (n0 p m : Nat) (ts : List Tok) (k : Nat) (i : Nat) (v : Value) (w : World) : Prop :=
  match i with
  | 0 => v = .map (some m)
  | 1 => v = .pointer (some ⟨p, 0, none⟩)
  | 2 => WordsB n0 w v varsW
  | 3 => IsWord varP varsW 0 ts k v
  | 4 => ∃ x, tokAt varP ts k = some x ∧ v = .int .i64 x
  | 5 => v = .map (some m)
  | 6 => v = .pointer (some ⟨p, 0, none⟩)
  | 7 => WordsB n0 w v opsW
  | 8 => IsWord opP opsW 1 ts (k + 1) v
  | 9 => ∃ x, tokAt opP ts (k + 1) = some x ∧ v = .int .i64 x
  | 10 => ∃ x y, tokAt varP ts k = some x ∧ tokAt opP ts (k + 1) = some y ∧ v = .agg #[.int .i64 x, .int .i64 y, .int .i64 0]
  | _ => True
theorem readP_stable {n0 p m : Nat} {ts : List Tok} {k : Nat} (i : Nat) (v : Value) (w w' : World) (hb : LeS n0 w w') (h : readP n0 p m ts k i v w) : readP n0 p m ts k i v w' := by
  unfold readP at h ⊢
  split at h <;> first | exact h | exact WordsB.le h hb
/- what holds amid the region -/
def zeroC : Array Value := #[.int .i64 0, .int .i64 0, .int .i64 0]
def ReadExt (w0 : World) (p : Nat) (v : Value) (ts : List Tok) (k : Nat) (l : Array Bool) (tm : Array Value) (w : World) : Prop :=
  w0.grownBy w (some p) ∧ PAt w p v (k + (if l.getD 3 false then 1 else 0) + (if l.getD 8 false then 1 else 0)) ∧
  (l.getD 11 false = true → ∃ b, tm.getD 6 undef = .pointer (some ⟨b, 0, none⟩) ∧ w0.heap.size ≤ b ∧ ∃ arr, w.heap[b]? = some (.cells arr 32 (0, 0)) ∧
    if l.getD 12 false then ∃ x y, tokAt varP ts k = some x ∧ tokAt opP ts (k + 1) = some y ∧ arr = #[.int .i64 x, .int .i64 y, .int .i64 0] else arr = zeroC)
theorem set_other {l : Array Bool} {i j : Nat} (h : i ≠ j) : (l.setIfInBounds i true).getD j false = l.getD j false := getD_set_ne false h
theorem tset_other {l : Array Value} {i j : Nat} {v : Value} (h : i ≠ j) : (l.setIfInBounds i v).getD j undef = l.getD j undef := by simp [h]
theorem tset_same {l : Array Value} {i : Nat} {v : Value} (h : i < l.size) : (l.setIfInBounds i v).getD i undef = v := by simp [h]
theorem set_same {l : Array Bool} {i : Nat} (h : i < l.size) : (l.setIfInBounds i true).getD i false = true := by simp [h]
section
variable {w0 w w2 : World} {p k : Nat} {v : Value} {ts : List Tok} {l : Array Bool} {tm : Array Value}
theorem ReadExt.quiet (h : ReadExt w0 p v ts k l tm w) {i t : Nat} (hi : (i == 3 || (i == 8 || (i == 11 || i == 12))) = false) (ht : t ≠ 6) (u : Value) : ReadExt w0 p v ts k (l.setIfInBounds i true) (tm.setIfInBounds t u) w := by
  simp only [Bool.or_eq_false_iff, beq_eq_false_iff_ne] at hi
  obtain ⟨h3, h8, h11, h12⟩ := hi
  unfold ReadExt
  rw [set_other h3, set_other h8, set_other h11, set_other h12, tset_other ht]
  exact h
theorem ReadExt.below (h : ReadExt w0 p v ts k l tm w) (_ : p < w0.heap.size) (hb : Below w.heap.size w w2) : ReadExt w0 p v ts k l tm w2 := by
  obtain ⟨h1, h2, h3⟩ := h
  refine ⟨h1.trans (grownBy_below hb _), h2.below hb, fun hl => ?_⟩
  obtain ⟨b, e1, e2, arr, e3, e4⟩ := h3 hl
  exact ⟨b, e1, e2, arr, (hb.block b (Array.getElem?_eq_some_iff.1 e3).1).trans e3, e4⟩
theorem ReadExt.blk (h : ReadExt w0 p v ts k l tm w) (hpw : p < w0.heap.size) (hg : w.grownBy w2 (some p)) :
    (l.getD 11 false = true → ∃ b, tm.getD 6 undef = .pointer (some ⟨b, 0, none⟩) ∧ w0.heap.size ≤ b ∧ ∃ arr, w2.heap[b]? = some (.cells arr 32 (0, 0)) ∧
    if l.getD 12 false then ∃ x y, tokAt varP ts k = some x ∧ tokAt opP ts (k + 1) = some y ∧ arr = #[.int .i64 x, .int .i64 y, .int .i64 0] else arr = zeroC) := by
  obtain ⟨h1, h2, h3⟩ := h
  intro hl
  obtain ⟨b, e1, e2, arr, e3, e4⟩ := h3 hl
  exact ⟨b, e1, e2, arr, (hg.block b (Array.getElem?_eq_some_iff.1 e3).1 (by simp; omega)).trans e3, e4⟩
theorem ReadExt.place3 (h : ReadExt w0 p v ts k l tm w) (n3 : l.getD 3 false = false) (n8 : l.getD 8 false = false) : PAt w p v k := by
  have := h.2.1
  rw [n3, n8] at this
  exact this
theorem ReadExt.place8 (h : ReadExt w0 p v ts k l tm w) (n3 : l.getD 3 false = true) (n8 : l.getD 8 false = false) : PAt w p v (k + 1) := by
  have := h.2.1
  rw [n3, n8] at this
  exact this
theorem ReadExt.first (h : ReadExt w0 p v ts k l tm w) (hpw : p < w0.heap.size) (hs : l.size = 13) (_ : l.getD 3 false = false) (n8 : l.getD 8 false = false) (hp : PAt w2 p v (k + 1)) (hg : w.grownBy w2 (some p)) {u : Value} :
    ReadExt w0 p v ts k (l.setIfInBounds 3 true) (tm.setIfInBounds 16 u) w2 := by
  have hb := h.blk hpw hg
  unfold ReadExt
  rw [set_same (by omega), set_other (by decide), set_other (by decide), set_other (by decide), tset_other (by decide), n8]
  exact ⟨h.1.trans hg, hp, hb⟩
theorem ReadExt.second (h : ReadExt w0 p v ts k l tm w) (hpw : p < w0.heap.size) (hs : l.size = 13) (n3 : l.getD 3 false = true) (_ : l.getD 8 false = false) (hp : PAt w2 p v (k + 1 + 1)) (hg : w.grownBy w2 (some p)) {u : Value} :
    ReadExt w0 p v ts k (l.setIfInBounds 8 true) (tm.setIfInBounds 21 u) w2 := by
  have hb := h.blk hpw hg
  unfold ReadExt
  rw [set_other (by decide), set_same (by omega), set_other (by decide), set_other (by decide), tset_other (by decide), n3]
  exact ⟨h.1.trans hg, hp, hb⟩
theorem ReadExt.made (h : ReadExt w0 p v ts k l tm w) (_ : p < w0.heap.size) (hs : l.size = 13) (n12 : l.getD 12 false = false) (ht : 6 < tm.size) :
    ReadExt w0 p v ts k (l.setIfInBounds 11 true) (tm.setIfInBounds 6 (.pointer (some ⟨w.heap.size, 0, none⟩))) (w.alloc (.cells #[.int .i64 0, .int .i64 0, .int .i64 0] 32)) := by
  have hb : Below w.heap.size w (w.alloc (.cells #[.int .i64 0, .int .i64 0, .int .i64 0] 32)) := (Below.refl _ _).alloc (Nat.le_refl _) _
  unfold ReadExt
  rw [set_other (by decide), set_other (by decide), set_same (by omega), set_other (by decide), tset_same ht, n12]
  exact ⟨h.1.trans (grownBy_below hb _), h.2.1.below hb, fun _ => ⟨_, rfl, h.1.size, _, heap_new _ _ _ rfl, rfl⟩⟩
theorem ReadExt.block (h : ReadExt w0 p v ts k l tm w) (n11 : l.getD 11 false = true) (n12 : l.getD 12 false = false) :
    ∃ b, tm[6]?.getD undef = .pointer (some ⟨b, 0, none⟩) ∧ w0.heap.size ≤ b ∧ w.heap[b]? = some (.cells #[.int .i64 0, .int .i64 0, .int .i64 0] 32 (0, 0)) := by
  obtain ⟨b, e1, e2, arr, e3, e4⟩ := h.2.2 n11
  rw [n12] at e4
  obtain rfl : arr = zeroC := e4
  exact ⟨b, by rw [← Array.getD_eq_getD_getElem?]; exact e1, e2, e3⟩
end
/- three stores into one block -/
theorem set3_heap {w : World} {b : Nat} {z0 z1 z2 : Value} {t : TypeId} (h : w.heap[b]? = some (.cells #[z0, z1, z2] t (0, 0))) (x y z : Value) :
    (((w.setCell ⟨b, 0, none⟩ x).setCell ⟨b, 1, none⟩ y).setCell ⟨b, 2, none⟩ z).heap[b]? = some (.cells #[x, y, z] t (0, 0)) := by
  simp [World.setCell, Array.getElem?_modify, h]
theorem set3_grown {w : World} (b : Nat) (x y z : Value) : w.grownBy (((w.setCell ⟨b, 0, none⟩ x).setCell ⟨b, 1, none⟩ y).setCell ⟨b, 2, none⟩ z) (some b) := by
  refine ⟨rfl, rfl, rfl, by simp, fun i hi hne => ?_⟩
  have hne' : i ≠ b := fun e => hne (by rw [e])
  rw [heap_setCell_other _ ⟨b, 2, none⟩ i z hne', heap_setCell_other _ ⟨b, 1, none⟩ i y hne', heap_setCell_other _ ⟨b, 0, none⟩ i x hne']
theorem leS_set3 {n0 b : Nat} {w : World} {z0 z1 z2 x y z : Value} (_ : n0 ≤ b) (h : w.heap[b]? = some (.cells #[z0, z1, z2] 32 (0, 0))) : LeS n0 w (((w.setCell ⟨b, 0, none⟩ x).setCell ⟨b, 1, none⟩ y).setCell ⟨b, 2, none⟩ z) := by
  intro b' arr _ hh
  by_cases e : b' = b
  · subst e; rw [h] at hh; simp at hh
  · rw [(set3_grown b x y z).block b' (Array.getElem?_eq_some_iff.1 hh).1 (by simpa using e)]; exact hh
theorem ReadExt.stored {w0 w : World} {p k b : Nat} {v : Value} {ts : List Tok} {l : Array Bool} {tm : Array Value} {x y : Int} (h : ReadExt w0 p v ts k l tm w) (hpw : p < w0.heap.size) (hs : l.size = 13) (d : tm[6]?.getD undef = .pointer (some ⟨b, 0, none⟩)) (hb : w0.heap.size ≤ b)
    (hh : w.heap[b]? = some (.cells #[.int .i64 0, .int .i64 0, .int .i64 0] 32 (0, 0))) (hx : tokAt varP ts k = some x) (hy : tokAt opP ts (k + 1) = some y) :
    ReadExt w0 p v ts k (l.setIfInBounds 12 true) tm (((w.setCell ⟨b, 0, none⟩ (.int .i64 x)).setCell ⟨b, 1, none⟩ (.int .i64 y)).setCell ⟨b, 2, none⟩ (.int .i64 0)) := by
  have hg := set3_grown (w := w) b (.int .i64 x) (.int .i64 y) (.int .i64 0)
  have hne : p ≠ b := by omega
  unfold ReadExt
  rw [set_other (by decide), set_other (by decide), set_other (by decide), set_same (by omega)]
  refine ⟨?_, ?_, fun _ => ⟨b, by rw [Array.getD_eq_getD_getElem?]; exact d, hb, _, set3_heap hh _ _ _, ?_⟩⟩
  · have h1 := h.1
    refine ⟨hg.os.trans h1.os, hg.tape.trans h1.tape, hg.output.trans h1.output, Nat.le_trans h1.size hg.size, fun i hi hn => ?_⟩
    rw [hg.block i (Nat.lt_of_lt_of_le hi h1.size) (by simp; omega)]
    exact h1.block i hi hn
  · have hp := h.2.1
    unfold PAt at hp ⊢
    rw [hg.block p (Array.getElem?_eq_some_iff.1 hp).1 (by simpa using hne)]; exact hp
  · exact ⟨x, y, hx, hy, rfl⟩

def slotIn3 (d : Option Tmp) : Bool := match d with
  | some k => (decide (13 ≤ k) && decide (k ≤ 23)) || decide (k = 6)
  | none => true
set_option maxRecDepth 100000 in
set_option maxHeartbeats 4000000 in
theorem read_region (a₀ : Act) (w : World) (Q : Exit → Act → World → Prop) (p m : Nat) (v : Value) (ts : List Tok) (k : Nat) (ops : Array Oper) (hops : regOf Tryz.f16 3 = some ops)
    (h0 : a₀.tmps.getD 0 undef = .pointer (some ⟨p, 0, none⟩)) (h1 : a₀.tmps.getD 1 undef = .map (some m)) (hz : a₀.tmps.size = 60)
    (hp : PAt w p v k) (hm : MapW w m) (hmp : m ≠ p) (ht : IsToks w v ts)
    (hQ1 : tokAt varP ts k = none → ∀ (a : Act) w', a.defers = a₀.defers → w.grownBy w' (some p) → Q (.panic [{ v := .iface 51 (.int .i64 k), recovered := false }]) a w')
    (hQ2 : ∀ x, tokAt varP ts k = some x → tokAt opP ts (k + 1) = none → ∀ (a : Act) w', a.defers = a₀.defers → w.grownBy w' (some p) → Q (.panic [{ v := .iface 51 (.int .i64 (k + 1 : Nat)), recovered := false }]) a w')
    (hQ3 : ∀ x y, tokAt varP ts k = some x → tokAt opP ts (k + 1) = some y → ∀ (a : Act) (w' : World) (b : Nat), a.tmps.size = 60 → a.defers = a₀.defers → (∀ t, (t < 13 ∨ 23 < t) → t ≠ 6 → a.tmps.getD t undef = a₀.tmps.getD t undef) →
      a.tmps.getD 6 undef = .pointer (some ⟨b, 0, none⟩) → w.heap.size ≤ b → w'.heap[b]? = some (.cells #[.int .i64 x, .int .i64 y, .int .i64 0] 32 (0, 0)) → PAt w' p v (k + 2) → w.grownBy w' (some p) → Q .normal a w') :
    (Code.region 3 ops true).wp Tryz.prog Q a₀ w := by
  obtain rfl := Option.some.inj ((rfl : regOf Tryz.f16 3 = some _).symm.trans hops)
  clear hops
  have hpw : p < w.heap.size := hp.cells.2.2.2
  refine wp_region_mids (by kernel_rfl) (ReadExt w p v ts k) (readP w.heap.size p m ts k) (fun _ => LeS w.heap.size) (by kernel_rfl) (by rw [hz]; kernel_rfl) (by kernel_rfl) (fun _ j v w w' _ _ => readP_stable j v w w') ?_ ?_ ?_
  · exact ⟨grownBy_below (Below.refl _ _).drew _, hp, fun h => by cases h⟩
  · intro i listed a w' hM hi o ho
    have hE := hM.ext
    have hlt := (Array.getElem?_eq_some_iff.1 ho).1
    have HE := Lib.hid hE
    have HM := Lib.hid (World.ownsMap.kept hm hE.1 (by simpa using hmp) : MapW w' m)
    have HT := Lib.hid (ht.kept hp hE.1)
    have Le0 := Lib.hid (fun b arr _ h => h : LeS w.heap.size w' w')
    have LeB := Lib.hid (fun w2 hb => leS_grown hpw (grownBy_below hb _) : ∀ w2, Below w'.heap.size w' w2 → LeS w.heap.size w' w2)
    have LeG := Lib.hid (fun w2 hb => leS_grown hpw hb : ∀ w2, w'.grownBy w2 (some p) → LeS w.heap.size w' w2)
    clear hE
    match i, hlt with
    | 0, _ =>
      have d := hM.old hi 1 (by kernel_rfl) _ h1
      obtain rfl := Option.some.inj ho
      go_simp
      exact ⟨_, rfl, HE.out.quiet (by decide) (by decide) _, Le0.out, rfl⟩
    | 1, _ =>
      have d := hM.old hi 0 (by kernel_rfl) _ h0
      obtain rfl := Option.some.inj ho
      go_simp
      exact ⟨_, rfl, HE.out.quiet (by decide) (by decide) _, Le0.out, rfl⟩
    | 2, _ =>
      obtain rfl := Option.some.inj ho
      go_simp
      refine (variables_b _).mono ?_
      rintro e w2 ⟨wv, rfl, hw, hb⟩
      exact ⟨wv, rfl, (HE.out.below hpw hb).quiet (by decide) (by decide) _, LeB.out _ hb, hw.mono HE.out.1.size⟩
    | 3, _ =>
      have d1 : a.tmps[14]?.getD undef = .pointer (some ⟨p, 0, none⟩) := hM.dep hi 1 14 (by kernel_rfl) (by kernel_rfl)
      have hwd : WordsB w.heap.size w' (a.tmps[15]?.getD undef) varsW := hM.dep hi 2 15 (by kernel_rfl) (by kernel_rfl)
      have hwa := hwd.at
      obtain ⟨wb, d2, _⟩ := hwd
      have n3 := hM.not_yet hi
      have n8 : listed.getD 8 false = false := by
        rw [Bool.eq_false_iff]; intro h8
        have := anc_listed hM.down 5 8 3 (by kernel_rfl) h8
        rw [n3] at this; cases this
      have hpl : PAt w' p v k := HE.out.place3 n3 n8
      have HP := Lib.hid hpl
      rw [d2] at hwa
      have HW := Lib.hid hwa
      clear hwa hpl
      simp only [show varsW.length = 5 from rfl] at d2
      cases hv : tokAt varP ts (k) with
      | none =>
        obtain rfl := Option.some.inj ho
        go_simp
        refine (skip_no p v _ ts (k) 1 varsW w' HP.out HT.out HW.out (by decide) (isB_no hv (fun t _ => var_is t))).mono ?_
        rintro e w2 ⟨rfl, hb⟩
        exact (hQ1 hv) _ _ hM.defers (HE.out.1.trans (grownBy_below hb _))
      | some x =>
        obtain ⟨hk, hx⟩ := tokAt_lt hv
        obtain ⟨j, hj, hxj, htx⟩ := var_word hx
        have htl := HT.out.2.1 _ (List.getElem_mem hk)
        obtain rfl := Option.some.inj ho
        go_simp
        refine (skip_yes p v _ ts (k) 1 varsW w' HP.out HT.out HW.out (by decide) (isB_yes hv (fun t _ => var_is t)) hk).mono ?_
        rintro e w2 ⟨rfl, hp2, hg2⟩
        exact ⟨_, rfl, HE.out.first hpw hM.size n3 n8 hp2 hg2, LeG.out _ hg2, x, j, ts[k].text, hv, hj, hxj, rfl, htl, htx⟩
    | 4, _ =>
      have d1 : a.tmps[13]?.getD undef = .map (some m) := hM.dep hi 0 13 (by kernel_rfl) (by kernel_rfl)
      obtain ⟨x, j, s, hv, hj, hx, d2, hs, hsl⟩ : IsWord varP varsW 0 ts k (a.tmps[16]?.getD undef) := hM.dep hi 3 16 (by kernel_rfl) (by kernel_rfl)
      have hrun := look_word HM.out s hs _ (hsl ▸ var_at hj)
      have e : ((j : Int)) = x := hx.symm
      rw [e] at hrun
      clear hx hsl hs e
      obtain rfl := Option.some.inj ho
      go_simp
      exact ⟨_, rfl, HE.out.quiet (by decide) (by decide) _, Le0.out, x, hv, rfl⟩
    | 5, _ =>
      have d := hM.old hi 1 (by kernel_rfl) _ h1
      obtain rfl := Option.some.inj ho
      go_simp
      exact ⟨_, rfl, HE.out.quiet (by decide) (by decide) _, Le0.out, rfl⟩
    | 6, _ =>
      have d := hM.old hi 0 (by kernel_rfl) _ h0
      obtain rfl := Option.some.inj ho
      go_simp
      exact ⟨_, rfl, HE.out.quiet (by decide) (by decide) _, Le0.out, rfl⟩
    | 7, _ =>
      obtain rfl := Option.some.inj ho
      go_simp
      refine (comparisons_b _).mono ?_
      rintro e w2 ⟨wv, rfl, hw, hb⟩
      exact ⟨wv, rfl, (HE.out.below hpw hb).quiet (by decide) (by decide) _, LeB.out _ hb, hw.mono HE.out.1.size⟩
    | 8, _ =>
      have d1 : a.tmps[19]?.getD undef = .pointer (some ⟨p, 0, none⟩) := hM.dep hi 6 19 (by kernel_rfl) (by kernel_rfl)
      have hwd : WordsB w.heap.size w' (a.tmps[20]?.getD undef) opsW := hM.dep hi 7 20 (by kernel_rfl) (by kernel_rfl)
      have hwa := hwd.at
      obtain ⟨wb, d2, _⟩ := hwd
      have n8 := hM.not_yet hi
      have n3 : listed.getD 3 false = true := anc_listed hM.down 5 7 3 (by kernel_rfl) (hM.came hi 7 (by kernel_rfl))
      have hpl : PAt w' p v (k + 1) := HE.out.place8 n3 n8
      obtain ⟨x0, j0, s0, hv0, _⟩ : IsWord varP varsW 0 ts k (a.tmps.getD 16 undef) := hM.done 3 n3 _ 16 rfl rfl
      have HP := Lib.hid hpl
      rw [d2] at hwa
      have HW := Lib.hid hwa
      clear hwa hpl
      simp only [show opsW.length = 5 from rfl] at d2
      cases hv : tokAt opP ts (k + 1) with
      | none =>
        obtain rfl := Option.some.inj ho
        go_simp
        refine (skip_no p v _ ts (k + 1) 1 opsW w' HP.out HT.out HW.out (by decide) (isB_no hv (fun t _ => op_is t))).mono ?_
        rintro e w2 ⟨rfl, hb⟩
        exact (hQ2 _ hv0 hv) _ _ hM.defers (HE.out.1.trans (grownBy_below hb _))
      | some x =>
        obtain ⟨hk, hx⟩ := tokAt_lt hv
        obtain ⟨j, hj, hxj, htx⟩ := op_word hx
        have htl := HT.out.2.1 _ (List.getElem_mem hk)
        obtain rfl := Option.some.inj ho
        go_simp
        refine (skip_yes p v _ ts (k + 1) 1 opsW w' HP.out HT.out HW.out (by decide) (isB_yes hv (fun t _ => op_is t)) hk).mono ?_
        rintro e w2 ⟨rfl, hp2, hg2⟩
        exact ⟨_, rfl, HE.out.second hpw hM.size n3 n8 hp2 hg2, LeG.out _ hg2, x, j, ts[k + 1].text, hv, hj, hxj, rfl, htl, htx⟩
    | 9, _ =>
      have d1 : a.tmps[18]?.getD undef = .map (some m) := hM.dep hi 5 18 (by kernel_rfl) (by kernel_rfl)
      obtain ⟨x, j, s, hv, hj, hx, d2, hs, hsl⟩ : IsWord opP opsW 1 ts (k + 1) (a.tmps[21]?.getD undef) := hM.dep hi 8 21 (by kernel_rfl) (by kernel_rfl)
      have hrun := look_word HM.out s hs _ (hsl ▸ op_at hj)
      have e : ((j : Int) + 1) = x := hx.symm
      rw [e] at hrun
      clear hx hsl hs e
      obtain rfl := Option.some.inj ho
      go_simp
      exact ⟨_, rfl, HE.out.quiet (by decide) (by decide) _, Le0.out, x, hv, rfl⟩
    | 10, _ =>
      obtain ⟨x, hx, d1⟩ : ∃ x, tokAt varP ts k = some x ∧ a.tmps[17]?.getD undef = .int .i64 x := hM.dep hi 4 17 (by kernel_rfl) (by kernel_rfl)
      obtain ⟨y, hy, d2⟩ : ∃ y, tokAt opP ts (k + 1) = some y ∧ a.tmps[22]?.getD undef = .int .i64 y := hM.dep hi 9 22 (by kernel_rfl) (by kernel_rfl)
      obtain rfl := Option.some.inj ho
      go_simp
      exact ⟨_, rfl, HE.out.quiet (by decide) (by decide) _, Le0.out, x, y, hx, hy, rfl⟩
    | 11, _ =>
      have n12 : listed.getD 12 false = false := by
        have n11 := hM.not_yet hi
        rw [Bool.eq_false_iff]; intro h
        have := anc_listed hM.down 5 12 11 (by kernel_rfl) h
        rw [n11] at this; cases this
      have hz : a.tmps.size = 60 := hM.tmps.trans hz
      have hsz := hM.size
      clear hM
      obtain rfl := Option.some.inj ho
      go_simp
      exact ⟨_, rfl, HE.out.made hpw hsz n12 (by rw [hz]; decide), LeB.out _ ((Below.refl _ _).alloc (Nat.le_refl _) _), trivial⟩
    | 12, _ =>
      obtain ⟨x, y, hx, hy, d1⟩ : ∃ x y, tokAt varP ts k = some x ∧ tokAt opP ts (k + 1) = some y ∧ a.tmps[23]?.getD undef = .agg #[.int .i64 x, .int .i64 y, .int .i64 0] := hM.dep hi 10 23 (by kernel_rfl) (by kernel_rfl)
      have n11 := hM.came hi 11 (by kernel_rfl)
      have n12 := hM.not_yet hi
      obtain ⟨b, d2, hbn, hblk⟩ := HE.out.block n11 n12
      have hsz := hM.size
      have HB := Lib.hid hblk
      have z0 : w'.cell? ⟨b, 0, none⟩ = some (.int .i64 0) := by simp [World.cell?, hblk]
      have z1 : w'.cell? ⟨b, 1, none⟩ = some (.int .i64 0) := by simp [World.cell?, hblk]
      have z2 : w'.cell? ⟨b, 2, none⟩ = some (.int .i64 0) := by simp [World.cell?, hblk]
      have y0 : w'.frozen? ⟨b, 0, none⟩ = false := by simp [World.frozen?, hblk]
      have y1 : w'.frozen? ⟨b, 1, none⟩ = false := by simp [World.frozen?, hblk]
      have y2 : w'.frozen? ⟨b, 2, none⟩ = false := by simp [World.frozen?, hblk]
      clear hblk
      obtain rfl := Option.some.inj ho
      go_simp
      exact ⟨undef, rfl, HE.out.stored (b := b) hpw hsz (show a.tmps[6]?.getD undef = _ from d2) hbn HB.out hx hy, leS_set3 (b := b) hbn HB.out, trivial⟩
    | i + 13, h =>
      exact absurd (show i + 13 < 13 from h) (by omega)
  · intro listed a w' hall hM
    obtain ⟨h1', h2', h3'⟩ := hM.ext
    rw [hall 3 (by decide), hall 8 (by decide)] at h2'
    obtain ⟨b, e1, e2, arr, e3, e4⟩ := h3' (hall 11 (by decide))
    rw [hall 12 (by decide)] at e4
    obtain ⟨x, y, hx, hy, rfl⟩ := e4
    refine hQ3 x y hx hy a w' b (hM.tmps.trans hz) hM.defers (fun t ht1 ht2 => hM.free t fun mm hmm o ho hd => ?_) e1 e2 e3 h2' h1'
    have hs : slotIn3 o.dst = true := all_get (p := fun o => slotIn3 o.dst) (by kernel_rfl) ho
    rw [hd] at hs
    simp only [slotIn3, Bool.or_eq_true, Bool.and_eq_true, decide_eq_true_eq] at hs
    exact (show ¬ ((13 ≤ t ∧ t ≤ 23) ∨ t = 6) from by omega) hs

end Go.Proofs.YtlaifodlnolndaaGreatDoor

/- Reading a line, in plain Lean: by places. -/
namespace Go.Proofs.YtlaifodlnolndaaGreatDoor
open Go.RowKit

def lineTail (cs : List Cd) (r : List Tok) : Res Ln := andThen (need setP r) fun _ r => andThen (need numP r) fun n r => andThen (need semiP r) fun _ r => .ok (⟨cs, n⟩, r)
def condsThen (n : Nat) (acc : List Cd) (r : List Tok) : Res Ln := andThen (pConds n r) fun cs r => lineTail (acc ++ cs) r
variable {ts : List Tok} {k n : Nat} {acc : List Cd}
theorem line_no (h : tokAt startP ts k = none) : pLine (ts.drop k) = .error (ts.drop k) := by
  rw [pLine, need_no h]; rfl
theorem line_plain (h : tokAt startP ts k = some false) : pLine (ts.drop k) = lineTail [] (ts.drop (k + 1)) := by
  rw [pLine, need_yes h]; rfl
theorem line_conds (h : tokAt startP ts k = some true) : pLine (ts.drop k) = condsThen 4 [] (ts.drop (k + 1)) := by
  rw [pLine, need_yes h]; rfl
theorem conds_no1 (h : tokAt varP ts k = none) : condsThen (n + 1) acc (ts.drop k) = .error (ts.drop k) := by
  rw [condsThen, pConds, pCond, need_no h]; rfl
theorem conds_no2 {x : Int} (h : tokAt varP ts k = some x) (h2 : tokAt opP ts (k + 1) = none) : condsThen (n + 1) acc (ts.drop k) = .error (ts.drop (k + 1)) := by
  rw [condsThen, pConds, pCond, need_yes h]
  simp only [andThen, need_no h2]
theorem conds_no3 {x y : Int} (h : tokAt varP ts k = some x) (h2 : tokAt opP ts (k + 1) = some y) (h3 : tokAt numP ts (k + 2) = none) : condsThen (n + 1) acc (ts.drop k) = .error (ts.drop (k + 2)) := by
  rw [condsThen, pConds, pCond, need_yes h]
  simp only [andThen, need_yes h2, need_no h3]
theorem conds_one {x y z : Int} (h : tokAt varP ts k = some x) (h2 : tokAt opP ts (k + 1) = some y) (h3 : tokAt numP ts (k + 2) = some z) : condsThen (n + 1) acc (ts.drop k) =
    if n ≠ 0 ∧ isB ts (k + 3) 1 [wAnd] = true then condsThen n (acc ++ [⟨x, y, z⟩]) (ts.drop (k + 4)) else lineTail (acc ++ [⟨x, y, z⟩]) (ts.drop (k + 3)) := by
  rw [condsThen, pConds, pCond, need_yes h]
  simp only [andThen, need_yes h2, need_yes h3, and_is]
  by_cases hc : n ≠ 0 ∧ headIs andB (ts.drop (k + 3)) = true
  · rw [if_pos hc, if_pos hc, List.tail_drop]
    unfold condsThen
    cases pConds n (ts.drop (k + 3 + 1)) with
    | error e => rfl
    | ok q => simp only [andThen, List.append_assoc]; rfl
  · rw [if_neg hc, if_neg hc]
theorem tail_no1 (h : tokAt setP ts k = none) : lineTail acc (ts.drop k) = .error (ts.drop k) := by
  rw [lineTail, need_no h]; rfl
theorem tail_no2 (h : tokAt setP ts k = some ()) (h2 : tokAt numP ts (k + 1) = none) : lineTail acc (ts.drop k) = .error (ts.drop (k + 1)) := by
  rw [lineTail, need_yes h]
  simp only [andThen, need_no h2]
theorem tail_no3 {z : Int} (h : tokAt setP ts k = some ()) (h2 : tokAt numP ts (k + 1) = some z) (h3 : tokAt semiP ts (k + 2) = none) : lineTail acc (ts.drop k) = .error (ts.drop (k + 2)) := by
  rw [lineTail, need_yes h]
  simp only [andThen, need_yes h2, need_no h3]
theorem tail_yes {z : Int} (h : tokAt setP ts k = some ()) (h2 : tokAt numP ts (k + 1) = some z) (h3 : tokAt semiP ts (k + 2) = some ()) : lineTail acc (ts.drop k) = .ok (⟨acc, z⟩, ts.drop (k + 3)) := by
  rw [lineTail, need_yes h]
  simp only [andThen, need_yes h2, need_yes h3]

/- conditions of the call's own; a line as it ends -/
def Cd.cells (c : Cd) : List Value := [.int .i64 c.v, .int .i64 c.op, .int .i64 c.n]
def OwnCds (B : Nat) (w : World) (v : Value) (cs : List Cd) : Prop := w.ownsRow B 32 3 v cs.length (cs.flatMap Cd.cells)
def LineEnd (ts : List Tok) (p : Nat) (v : Value) (k0 : Nat) (w : World) (r : Res Ln) (e : Ending) (w' : World) : Prop :=
  match r with
  | .error q => ∃ k, k ≤ ts.length ∧ q = ts.drop k ∧ e = .panicked [{ v := .iface 51 (.int .i64 k), recovered := false }] ∧ w.grownBy w' (some p)
  | .ok (x, q) => ∃ k vc, k ≤ ts.length ∧ k0 < k ∧ q = ts.drop k ∧ e = .returned (.agg #[vc, .int .i64 x.set]) ∧ OwnCds w.heap.size w' vc x.conds ∧ PAt w' p v k ∧ w.grownBy w' (some p)

theorem Tryz.info32 : (Tryz.prog.info? 32).map (fun i => (i.zero, i.size, i.bytes)) = some (some (.agg #[.int .i64 0, .int .i64 0, .int .i64 0]), 3, 24) := by kernel_rfl
theorem append_cond {ops : Array Oper} {rest : List Oper} {o : Oper} {a : Act} {Q : Exit → Act → World → Prop} {w : World} (B : Nat) (hgd : o.guard = none) (s x : Operand)
    (ho : o.op = .call { callee := .builtin .append, args := #[s, x], argTypes := #[33, 33] }) (v : Value) (acc : List Cd) (hs : a.eval s = v) (hown : OwnCds B w v acc)
    (c : Cd) (g : Nat) (hx : a.eval x = .slice (some ⟨g, 0, none⟩) 1 1) (c0 : w.cell? ⟨g, 0, none⟩ = some (.int .i64 c.v)) (c1 : w.cell? ⟨g, 1, none⟩ = some (.int .i64 c.op)) (c2 : w.cell? ⟨g, 2, none⟩ = some (.int .i64 c.n))
    (hlen : acc.length ≤ 1000000) (hbase : B ≤ w.heap.size)
    (h : ∀ v' w', OwnCds B w' v' (acc ++ [c]) → w.grownBy w' v.ownBlock → wpList Tryz.prog ops Q rest (a.put o.dst v') w') : wpList Tryz.prog ops Q (o :: rest) a w := by
  obtain ⟨i0, hi, hz0, hz1, hz2⟩ := info_parts Tryz.info32
  refine wpList_append_own w hgd s x 33 ho B 32 i0 _ 3 24 Tryz.underlying33 hi hz0 hz1 hz2 rfl (by decide) v acc.length _ hs hown ⟨g, 0, none⟩ 1 1 c.cells hx rfl ?_ ?_ (by unfold maxLen; omega) (by omega) hbase ?_
  · intro j u hj
    unfold Cd.cells at hj
    match j, hj with
    | 0, hj => simp at hj; subst hj; simpa [Addr.add] using c0
    | 1, hj => simp at hj; subst hj; simpa [Addr.add] using c1
    | 2, hj => simp at hj; subst hj; simpa [Addr.add] using c2
    | j + 3, hj => simp at hj
  · intro u hu
    unfold Cd.cells at hu
    simp at hu
    rcases hu with rfl | rfl | rfl <;> rfl
  · intro v' w' hown' hg _
    refine h v' w' ?_ hg
    unfold OwnCds
    rw [List.flatMap_append]
    simpa using hown'

end Go.Proofs.YtlaifodlnolndaaGreatDoor

/- The scanner: add. -/
import Derived.Test.YtkfbhegniobecaaDoorM
import Derived.Deep.RegionLaw
namespace Go.Proofs.YtkfbhegniobecaaDoor
open Go.RowKit

theorem OwnToks.form {B : Nat} {w : World} {v : Value} {acc : List Tok} (h : OwnToks B w v acc) : ∃ a n c, v = .slice a n c := by
  rcases h.2 with ⟨rfl, _⟩ | ⟨g, cap, cur, rfl, _⟩ <;> exact ⟨_, _, _, rfl⟩
theorem step_append_new {ops : Array Oper} {o : Oper} {a : Act} {K : Act → World → Prop} {Q : Exit → Act → World → Prop} {E : Prop} {W : World} (w : World) (B : Nat) (hgd : o.guard = none) (s x : Operand)
    (ho : o.op = .call { callee := .builtin .append, args := #[s, x], argTypes := #[23, 23] }) (v : Value) (acc : List Tok) (hs : a.eval s = v) (hown : OwnToks B w v acc)
    (t : Tok) (hx : a.eval x = .slice (some ⟨w.heap.size, 0, none⟩) 1 1) (hlen : acc.length ≤ 1000000000000) (hbase : B ≤ w.heap.size) (hW : W = (w.alloc (.cells t.cells 35)).drew)
    (h : ∀ (ad : Option Addr) (n c : Nat) w', OwnToks B w' (.slice ad n c) (acc ++ [t]) → (w.alloc (.cells t.cells 35)).grownBy w' v.ownBlock → K (a.put o.dst (.slice ad n c)) w') :
    if Region.wanted o (yielded ops a.tmps) = true then Oper.wp Tryd.prog o a W K Q else E := by
  have hw : Region.wanted o (yielded ops a.tmps) = true := by simp [Region.wanted, hgd]
  rw [if_pos hw]
  subst hW
  obtain ⟨i0, hi, hz0, hz1, hz2⟩ := info_parts Tryd.info35
  refine wp_append_own (w.alloc (.cells t.cells 35)).drew s x 23 ho B 35 i0 _ 4 40 Tryd.underlying23 hi hz0 hz1 hz2 rfl (by decide) v acc.length _ hs (show OwnToks B _ v acc from hown.alloc _) ⟨w.heap.size, 0, none⟩ 1 1 t.cells.toList hx rfl ?_ ?_ (by unfold maxLen; omega) (by omega) (by simp; omega) ?_
  · intro j u hj
    unfold Tok.cells at hj ⊢
    match j, hj with
    | 0, hj => simp at hj; subst hj; simp [Addr.add, go_sem]
    | 1, hj => simp at hj; subst hj; simp [Addr.add, go_sem]
    | 2, hj => simp at hj; subst hj; simp [Addr.add, go_sem]
    | 3, hj => simp at hj; subst hj; simp [Addr.add, go_sem]
    | j + 4, hj => simp at hj
  · intro u hu
    unfold Tok.cells at hu
    simp at hu
    rcases hu with rfl | rfl | rfl | rfl <;> rfl
  · intro v' w' hown' hg _
    have ho2 : OwnToks B w' v' (acc ++ [t]) := by
      unfold OwnToks
      rw [List.flatMap_append]
      simpa using hown'
    obtain ⟨ad, n, c, rfl⟩ := ho2.form
    exact h ad n c w' ho2 ⟨hg.os, hg.tape, hg.output, hg.size, hg.block⟩

theorem bcell {W w1 : World} (hb : Below W.heap.size W w1) : (∀ b o, b < W.heap.size → w1.cell? ⟨b, o, none⟩ = W.cell? ⟨b, o, none⟩) ∧ (∀ b o, b < W.heap.size → w1.frozen? ⟨b, o, none⟩ = W.frozen? ⟨b, o, none⟩) :=
  ⟨fun b o h => hb.cell (p := ⟨b, o, none⟩) h, fun b o h => hb.frozen (p := ⟨b, o, none⟩) h⟩

theorem scan_cell {w : World} {p : Nat} {s : ByteArray} {i : Nat} {v : Value} (h : ScanCells w p s i v) : w.cell? ⟨p, 0, none⟩ = some (.string s) ∧ w.cell? ⟨p, 1, none⟩ = some (.int .i64 i) ∧ w.cell? ⟨p, 2, none⟩ = some v ∧
    w.frozen? ⟨p, 1, none⟩ = false ∧ w.frozen? ⟨p, 2, none⟩ = false ∧ p < w.heap.size := by
  unfold ScanCells at h
  refine ⟨by simp [World.cell?, h], by simp [World.cell?, h], by simp [World.cell?, h], by simp [World.frozen?, h], by simp [World.frozen?, h], (Array.getElem?_eq_some_iff.1 h).1⟩

theorem OwnToks.of_below {B : Nat} {w w' : World} {v : Value} {acc : List Tok} (h : OwnToks B w v acc) (hb : Below w.heap.size w w') : OwnToks B w' v acc := by
  have hlt := h.lt
  unfold OwnToks at h ⊢
  refine ⟨h.1, ?_⟩
  rcases h.2 with hn | ⟨g, cap, cur, hv, hg, hh, rest⟩
  · exact .inl hn
  · exact .inr ⟨g, cap, cur, hv, hg, by rw [hb.block g (Array.getElem?_eq_some_iff.1 hh).1]; exact hh, rest⟩
theorem OwnToks.of_other {B : Nat} {w : World} {v : Value} {acc : List Tok} (h : OwnToks B w v acc) (a : Addr) (u : Value) (ha : a.block < B) : OwnToks B (w.setCell a u) v acc :=
  ownsRow_setCell_below h ha u

theorem _root_.Go.World.grownBy.cell_of {w w' : World} {o : Obj} {row : Option Nat} (hg : (w.alloc o).grownBy w' row) {p j : Nat} (hr : row ≠ some p) (hlt : p < w.heap.size) {u : Value} (h : w.cell? ⟨p, j, none⟩ = some u) : w'.cell? ⟨p, j, none⟩ = some u := by
  have hb := (hg.block p (by simp; omega) (Ne.symm hr)).trans (Below.heap_alloc w o p hlt)
  rw [World.cell?_of_block (a := ⟨p, j, none⟩) hb]; exact h
theorem _root_.Go.World.grownBy.frozen_of {w w' : World} {o : Obj} {row : Option Nat} (hg : (w.alloc o).grownBy w' row) {p j : Nat} (hr : row ≠ some p) (hlt : p < w.heap.size) {u : Bool} (h : w.frozen? ⟨p, j, none⟩ = u) : w'.frozen? ⟨p, j, none⟩ = u := by
  have hb := (hg.block p (by simp; omega) (Ne.symm hr)).trans (Below.heap_alloc w o p hlt)
  rw [World.frozen?_of_block (a := ⟨p, j, none⟩) hb]; exact h

theorem ScanCells.of_grown {w w4 w5 : World} {p : Nat} {s : ByteArray} {i : Nat} {v : Value} {o : Obj} {row : Option Nat} (h : ScanCells w p s i v) (hb : Below w.heap.size w w4) (hlt : p < w.heap.size) (hr : row ≠ some p) (hg : (w4.alloc o).grownBy w5 row) : ScanCells w5 p s i v := by
  have hz := hb.size
  have e := (hg.block p (by simp; omega) (Ne.symm hr)).trans (Below.heap_alloc w4 o p (by omega))
  unfold ScanCells at h ⊢
  rw [e, hb.block p hlt]; exact h
theorem ScanCells.set2 {w : World} {p : Nat} {s : ByteArray} {i : Nat} {v : Value} (h : ScanCells w p s i v) (v' : Value) : ScanCells (w.setCell ⟨p, 2, none⟩ v') p s i v' := by
  unfold ScanCells at h ⊢
  simp [World.setCell, Array.getElem?_modify, h]
theorem ScanCells.set1 {w : World} {p : Nat} {s : ByteArray} {i : Nat} {v : Value} (h : ScanCells w p s i v) (n : Int) (j : Nat) (hj : n = j) : ScanCells (w.setCell ⟨p, 1, none⟩ (.int .i64 n)) p s j v := by
  subst hj
  unfold ScanCells at h ⊢
  simp [World.setCell, Array.getElem?_modify, h]

/- how a method of the scanner ends: it goes on at place j, or an error is told -/
def Stepped (p : Nat) (s : ByteArray) (w : World) (r : Except Nat (Nat × List Tok)) (e : Ending) (w' : World) : Prop :=
  Below p w w' ∧ match r with
  | .ok (j, acc) => e = .returned (.tuple #[]) ∧ ∃ v, ScanCells w' p s j v ∧ OwnToks (p + 1) w' v acc
  | .error k => e = .panicked [{ v := .iface 42 (.int .i64 k), recovered := false }]

set_option maxRecDepth 100000 in
set_option maxHeartbeats 4000000 in
theorem add_bad (p : Nat) (s : ByteArray) (i : Nat) (v : Value) (tx : ByteArray) (t : Tok) (w : World) (hp : ScanCells w p s i v) (ht : t.text.size ≤ maxLen) (hv : validB t = false) :
    Calls Tryd.prog 44 #[.pointer (some ⟨p, 0, none⟩), .string tx, .agg t.cells] w (Stepped p s w (.error i)) := by
  obtain ⟨c0, c1, c2, f1, f2, hlt⟩ := scan_cell hp
  have Hv := Lib.hid (fun wx => valid_any t wx ht)
  obtain ⟨kd, x, n, a⟩ := t
  unfold Tok.cells at Hv ⊢
  dsimp only at ht Hv ⊢
  rw [hv] at Hv
  clear hp hv
  go_enter Tryd.func44, Tryd.ntmps44
  go_wp2_with (first | (go_at_call 36; refine (Hv.out _).mono ?_; rintro e w1 ⟨rfl, hb⟩; obtain ⟨hc, hf⟩ := bcell hb))
  exact ⟨rfl, (((Below.refl p w).alloc (by omega) _).trans (hb.mono (by simp; omega))), rfl⟩

set_option maxRecDepth 100000 in
set_option maxHeartbeats 4000000 in
theorem add_good (p : Nat) (s : ByteArray) (i : Nat) (v : Value) (acc : List Tok) (tx : ByteArray) (t : Tok) (w : World) (hp : ScanCells w p s i v) (hown : OwnToks (p + 1) w v acc) (hacc : acc.length ≤ 1000000) (hi : i ≤ 1000000) (htx : tx.size ≤ 1000000)
    (ht : t.text.size ≤ maxLen) (hv : validB t = true) :
    Calls Tryd.prog 44 #[.pointer (some ⟨p, 0, none⟩), .string tx, .agg t.cells] w (Stepped p s w (.ok (i + tx.size, acc ++ [{ t with at_ := i }]))) := by
  obtain ⟨c0, c1, c2, f1, f2, hlt⟩ := scan_cell hp
  have Hv := Lib.hid (fun wx => valid_any t wx ht)
  obtain ⟨kd, x, n, a⟩ := t
  unfold Tok.cells at Hv ⊢
  dsimp only at ht Hv ⊢
  rw [hv] at Hv
  have Hp := Lib.hid hp
  clear hp hv
  go_enter Tryd.func44, Tryd.ntmps44
  go_wp2_with (first | (go_at_call 36; refine (Hv.out _).mono ?_; rintro e w1 ⟨rfl, hb⟩; obtain ⟨hc, hf⟩ := bcell hb))
  have hB1 : Below w.heap.size w w1 := ((Below.refl _ w).alloc (Nat.le_refl _) _).trans (hb.mono (by simp))
  have hz1 : w.heap.size + 1 ≤ w1.heap.size := by have := hb.size; simpa using this
  have e0 : w1.cell? ⟨w.heap.size, 0, none⟩ = some (.int .i64 kd) := by rw [hc _ _ (by simp)]; simp [go_sem]
  have e1 : w1.cell? ⟨w.heap.size, 1, none⟩ = some (.string x) := by rw [hc _ _ (by simp)]; simp [go_sem]
  have e2 : w1.cell? ⟨w.heap.size, 2, none⟩ = some (.int .i64 n) := by rw [hc _ _ (by simp)]; simp [go_sem]
  have e3 : w1.cell? ⟨w.heap.size, 3, none⟩ = some (.int .i64 a) := by rw [hc _ _ (by simp)]; simp [go_sem]
  have hB4 := hB1.setCell (p := ⟨w.heap.size, 3, none⟩) (Nat.le_refl _) (.int .i64 i)
  have g0 : (w1.setCell ⟨w.heap.size, 3, none⟩ (.int .i64 i)).cell? ⟨w.heap.size, 0, none⟩ = some (.int .i64 kd) := by simp [go_sem, e0]
  have g1 : (w1.setCell ⟨w.heap.size, 3, none⟩ (.int .i64 i)).cell? ⟨w.heap.size, 1, none⟩ = some (.string x) := by simp [go_sem, e1]
  have g2 : (w1.setCell ⟨w.heap.size, 3, none⟩ (.int .i64 i)).cell? ⟨w.heap.size, 2, none⟩ = some (.int .i64 n) := by simp [go_sem, e2]
  have g3 : (w1.setCell ⟨w.heap.size, 3, none⟩ (.int .i64 i)).cell? ⟨w.heap.size, 3, none⟩ = some (.int .i64 i) := by simp [go_sem, e3]
  have hz4 : (w1.setCell ⟨w.heap.size, 3, none⟩ (.int .i64 i)).heap.size = w1.heap.size := by simp
  generalize (w1.setCell ⟨w.heap.size, 3, none⟩ (.int .i64 i)) = w4 at hB4 g0 g1 g2 g3 hz4 ⊢
  rw [← hz4] at hz1
  clear hz4 hc hf hb hB1 e0 e1 e2 e3 Hv
  rw [← hB4.cell (p := ⟨p, 0, none⟩) hlt] at c0
  rw [← hB4.cell (p := ⟨p, 1, none⟩) hlt] at c1
  rw [← hB4.cell (p := ⟨p, 2, none⟩) hlt] at c2
  rw [← hB4.frozen (p := ⟨p, 1, none⟩) hlt] at f1
  rw [← hB4.frozen (p := ⟨p, 2, none⟩) hlt] at f2
  have hown4 := hown.of_below hB4
  have hp4 : p + 1 ≤ w4.heap.size := by omega
  have hacc' : acc.length ≤ 1000000000000 := by omega
  have ho1 : v.ownBlock ≠ some p := fun e => by have := hown4.lt p e; omega
  have hlt4 : p < w4.heap.size := by omega
  go_region_law (refine step_append_new w4 (p + 1) rfl _ _ rfl v acc rfl hown4 ⟨kd, x, n, i⟩ rfl hacc' hp4 rfl ?_; intro ad n' c' w5 hown5 hg5; have k0 := (hg5.cell_of ho1 hlt4 c0); have k1 := (hg5.cell_of ho1 hlt4 c1); have k2 := (hg5.cell_of ho1 hlt4 c2); have k3 := (hg5.frozen_of ho1 hlt4 f1); have k4 := (hg5.frozen_of ho1 hlt4 f2); have Hp5 := Lib.hid (Hp.out.of_grown hB4 hlt ho1 hg5); clear c0 c1 c2 f1 f2)
  all_goals
    go_wp2
    go_end0
    refine ⟨?_, rfl, _, ((Hp5.out.set2 _).set1 _ _ rfl), (hown5.of_other _ _ (by simp)).of_other _ _ (by simp)⟩
    exact (((grown_below (hB4.mono (by omega)) hown4 hp4 hg5).mono (Nat.le_succ p)).setCell (p := ⟨p, 2, none⟩) (Nat.le_refl _) _).setCell (p := ⟨p, 1, none⟩) (Nat.le_refl _) _

end Go.Proofs.YtkfbhegniobecaaDoor

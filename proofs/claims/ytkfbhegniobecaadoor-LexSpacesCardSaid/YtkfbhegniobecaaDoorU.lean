/- The program's Lex: the walk. -/
import Derived.Test.YtkfbhegniobecaaDoorT
namespace Go.Proofs.YtkfbhegniobecaaDoor
open Go.RowKit

theorem heap_at {B : Nat} {w w' : World} {o : Obj} {b : Nat} (h : w.heap[b]? = some o) (hb : Below B w w') (hlt : b < B) : w'.heap[b]? = some o := (hb.block b hlt).trans h

theorem heap_new (w : World) (o : Obj) (n : Nat) (h : w.heap.size = n) : (w.alloc o).heap[n]? = some o := by
  subst h
  show (w.heap.push o)[w.heap.size]? = some o
  simp
theorem heap_old (w : World) (o o' : Obj) (n : Nat) (h : w.heap[n]? = some o') : (w.alloc o).heap[n]? = some o' := by
  rw [Below.heap_alloc w o n (Array.getElem?_eq_some_iff.1 h).1]; exact h
theorem five (w : World) (o0 o1 o2 o3 o4 : Obj) :
    (((((w.alloc o0).alloc o1).alloc o2).alloc o3).alloc o4).heap[w.heap.size]? = some o0 ∧ (((((w.alloc o0).alloc o1).alloc o2).alloc o3).alloc o4).heap[w.heap.size + 1]? = some o1 ∧
    (((((w.alloc o0).alloc o1).alloc o2).alloc o3).alloc o4).heap[w.heap.size + 1 + 1]? = some o2 ∧ (((((w.alloc o0).alloc o1).alloc o2).alloc o3).alloc o4).heap[w.heap.size + 1 + 1 + 1]? = some o3 ∧
    (((((w.alloc o0).alloc o1).alloc o2).alloc o3).alloc o4).heap[w.heap.size + 1 + 1 + 1 + 1]? = some o4 ∧
    Below w.heap.size w (((((w.alloc o0).alloc o1).alloc o2).alloc o3).alloc o4) ∧ (((((w.alloc o0).alloc o1).alloc o2).alloc o3).alloc o4).heap.size = w.heap.size + 1 + 1 + 1 + 1 + 1 := by
  refine ⟨?_, ?_, ?_, ?_, ?_, ?_, by simp⟩
  · exact heap_old _ _ _ _ (heap_old _ _ _ _ (heap_old _ _ _ _ (heap_old _ _ _ _ (heap_new _ _ _ rfl))))
  · exact heap_old _ _ _ _ (heap_old _ _ _ _ (heap_old _ _ _ _ (heap_new _ _ _ (by simp))))
  · exact heap_old _ _ _ _ (heap_old _ _ _ _ (heap_new _ _ _ (by simp)))
  · exact heap_old _ _ _ _ (heap_new _ _ _ (by simp))
  · exact heap_new _ _ _ (by simp)
  · exact (((((Below.refl _ w).alloc (Nat.le_refl _) _).alloc (by simp) _).alloc (by simp; omega) _).alloc (by simp; omega) _).alloc (by simp; omega) _

set_option maxRecDepth 100000 in
set_option maxHeartbeats 8000000 in
theorem lex_any (s : ByteArray) (w : World) (hs : s.size ≤ 65536) (hG : Globals w) :
    Calls Tryd.prog 12 #[.string s] w (LexEnd w (scan s.data.toList 0)) := by
  have hst : ScanAt s (scan s.data.toList 0) 0 [] := ⟨by rw [List.drop_zero, preT_nil], by simp⟩
  generalize scan s.data.toList 0 = r at hst ⊢
  have hd : decide (65536 < (s.size : Int)) = false := by simp; omega
  have hmf : ∀ (fn : Fn) (first cap : Array Value) (w : World), (Instr.makeFunc fn first cap).run Tryd.prog w = .ok (.func fn first cap) w := fun _ _ _ _ => rfl
  have hg4 := globals_size hG
  have HG := Lib.hid hG
  have Hst := Lib.hid hst
  clear hG hst
  go_enter_defers Tryd.func12, Tryd.ntmps12
  go_wp2
  have h5 := five w (.cells #[.slice none 0 0] 23) (.cells #[.int .i64 0] 3) (.cells #[.int .i64 0] 24) (.cells #[.func (.func 25) #[] #[], .func (.func 26) #[] #[], .func (.func 27) #[] #[], .func (.func 28) #[] #[], .func (.func 29) #[] #[], .func (.func 25) #[] #[]] 46) (.cells #[.string s, .int .i64 0, .slice none 0 0] 49)
  generalize (((((w.alloc (.cells #[.slice none 0 0] 23)).alloc (.cells #[.int .i64 0] 3)).alloc (.cells #[.int .i64 0] 24)).alloc (.cells #[.func (.func 25) #[] #[], .func (.func 26) #[] #[], .func (.func 27) #[] #[], .func (.func 28) #[] #[], .func (.func 29) #[] #[], .func (.func 25) #[] #[]] 46)).alloc (.cells #[.string s, .int .i64 0, .slice none 0 0] 49)) = w0 at h5 ⊢
  obtain ⟨hh0, hh1, hh2, hh3, hh4, hB0, hz0⟩ := h5
  generalize hb : w.heap.size = b at *
  have Hb := Lib.hid hb
  clear hb
  obtain ⟨b1, hb1⟩ : ∃ b1, b1 = b + 1 := ⟨_, rfl⟩
  obtain ⟨b2, hb2⟩ : ∃ b2, b2 = b1 + 1 := ⟨_, rfl⟩
  obtain ⟨b3, hb3⟩ : ∃ b3, b3 = b2 + 1 := ⟨_, rfl⟩
  obtain ⟨p, hp⟩ : ∃ p, p = b3 + 1 := ⟨_, rfl⟩
  have i1 : b < b1 := by omega
  have i2 : b1 < b2 := by omega
  have i3 : b2 < b3 := by omega
  have i4 : b3 < p := by omega
  have i6 : 6 ≤ p := by omega
  rw [← hb1, ← hb2, ← hb3, ← hp] at hh4 ⊢
  rw [← hb1, ← hb2, ← hb3] at hh3
  rw [← hb1, ← hb2] at hh2
  rw [← hb1] at hh1
  clear hb1 hb2 hb3 hp hz0
  have hown0 : OwnToks (p + 1) w0 (.slice none 0 0) [] := World.ownsRow_nil w0 (p + 1) 35 4
  have hG0 : Globals w0 := HG.out.below hB0 hg4
  have HB0 := Lib.hid hB0
  have H0 := Lib.hid hh0
  have H1 := Lib.hid hh1
  have H2 := Lib.hid hh2
  have H3 := Lib.hid hh3
  have HS := Lib.hid (show St p s 0 (.slice none 0 0) [] w0 w0 from ⟨hh4, hown0, Below.refl _ _, hG0⟩)
  clear hh0 hh1 hh2 hh3 hh4 hB0 hown0 hG0 HG
  go_loopw [16] (fun _ wr => ∃ (i : Nat) (acc : List Tok) (v : Value), St p s i v acc w0 wr ∧ i ≤ s.size ∧ acc.length ≤ i ∧ ScanAt s r i acc) (fun _ wr => s.size - placeOf p wr)
  case atStart => exact ⟨0, [], _, HS.out, Nat.zero_le _, Nat.le_refl _, Hst.out⟩
  case round =>
    obtain ⟨i, acc, v, hS, hi, hacc, hsc⟩ := hrel
    have Hpl := Lib.hid (placeOf_is hS.cells)
    obtain ⟨c0, c1, c2, f1, f2, hlt⟩ := scan_cell hS.cells
    have HSr := Lib.hid hS
    have Hsc := Lib.hid hsc
    clear hS hsc HS Hst
    by_cases hlt : i < s.size
    · obtain ⟨f, hcl, hcase, hstep⟩ := scan_step Hsc.out hlt hs hacc p i6 w0 wr v HSr.out
      have Hstep := Lib.hid hstep
      have h3 := heap_at H3.out HSr.out.below i4
      have d0 : wr.cell? ⟨b3, 0, none⟩ = some (.func (.func 25) #[] #[]) := by simp [World.cell?, h3]
      have d1 : wr.cell? ⟨b3, 1, none⟩ = some (.func (.func 26) #[] #[]) := by simp [World.cell?, h3]
      have d2 : wr.cell? ⟨b3, 2, none⟩ = some (.func (.func 27) #[] #[]) := by simp [World.cell?, h3]
      have d3 : wr.cell? ⟨b3, 3, none⟩ = some (.func (.func 28) #[] #[]) := by simp [World.cell?, h3]
      have d4 : wr.cell? ⟨b3, 4, none⟩ = some (.func (.func 29) #[] #[]) := by simp [World.cell?, h3]
      have d5 : wr.cell? ⟨b3, 5, none⟩ = some (.func (.func 25) #[] #[]) := by simp [World.cell?, h3]
      clear hstep h3
      rcases hcase with ⟨hc, rfl⟩ | ⟨hc, rfl⟩ | ⟨hc, rfl⟩ | ⟨hc, rfl⟩ | ⟨hc, rfl⟩ | ⟨hc, rfl⟩
      all_goals
        rw [hc] at hcl
        have Hcl := Lib.hid hcl
        clear hc hcl
        go_wp2_with (first | (go_at_call 30; refine (Hcl.out _).mono ?_; rintro e w' ⟨rfl, rfl⟩))
        refine Hstep.out.mono ?_
        rintro e w' (⟨j, acc', v', rfl, hS', hsc', hij, hjs, hacc'⟩ | ⟨rfl, hb, hr⟩)
        · have HS' := Lib.hid hS'
          have Hsc' := Lib.hid hsc'
          have Hpl' := Lib.hid (placeOf_is hS'.cells)
          clear hS' hsc'
          go_wp2
          exact ⟨⟨j, acc', v', HS'.out, hjs, hacc', Hsc'.out⟩, by rw [Hpl'.out, Hpl.out]; omega⟩
        · refine leaves_cons (f := 24) (args := #[.pointer (some ⟨b, 0, none⟩), .pointer (some ⟨b1, 0, none⟩), .pointer (some ⟨b2, 0, none⟩)]) (by simp) (by simp [go_sem]) ?_
          refine (catch_panicking b b1 b2 i1 i2 i _ _ _ [] _ (heap_at H0.out hb (by omega)) (heap_at H1.out hb (by omega)) (heap_at H2.out hb (by omega))).mono ?_
          rintro e u' w'' ⟨rfl, rfl, hB', e0, e1, e2⟩
          have hend : LexEnd w r (.returned (.tuple #[.slice none 0 0, .int .i64 i, .int .i64 30])) w'' := by
            refine ⟨?_, ?_⟩
            · rw [Hb.out]; exact (HB0.out.trans (hb.mono (by omega))).trans hB'
            · rw [hr]
          have Hend := Lib.hid hend
          clear hend hB' hb hr
          simp [Leaves, settle, results, Tryd.results12, go_sem, e0, e1, e2]
          exact Hend.out
    · have hd := Hsc.out.done hlt
      have k0 := heap_at H0.out HSr.out.below (by omega)
      have k1 := heap_at H1.out HSr.out.below (by omega)
      have k2 := heap_at H2.out HSr.out.below (by omega)
      have q0 : wr.cell? ⟨b, 0, none⟩ = some (.slice none 0 0) := by simp [World.cell?, k0]
      have q1 : wr.cell? ⟨b1, 0, none⟩ = some (.int .i64 0) := by simp [World.cell?, k1]
      have q2 : wr.cell? ⟨b2, 0, none⟩ = some (.int .i64 0) := by simp [World.cell?, k2]
      have g0 : wr.frozen? ⟨b, 0, none⟩ = false := by simp [World.frozen?, k0]
      have g1 : wr.frozen? ⟨b1, 0, none⟩ = false := by simp [World.frozen?, k1]
      have g2 : wr.frozen? ⟨b2, 0, none⟩ = false := by simp [World.frozen?, k2]
      have Hd := Lib.hid hd
      have n1 : ¬ b = b1 := by omega
      have n2 : ¬ b = b2 := by omega
      have n3 : ¬ b1 = b2 := by omega
      have n4 : ¬ b1 = b := by omega
      have n5 : ¬ b2 = b1 := by omega
      have n6 : ¬ b2 = b := by omega
      obtain ⟨va, vn, vc, rfl⟩ := HSr.out.own.form
      clear hd k0 k1 k2
      have Hown := Lib.hid HSr.out.own
      have HBr := Lib.hid HSr.out.below
      clear HSr
      go_wp2
      refine leaves_cons (f := 24) (args := #[.pointer (some ⟨b, 0, none⟩), .pointer (some ⟨b1, 0, none⟩), .pointer (some ⟨b2, 0, none⟩)]) (by simp) (by simp [go_sem]) ?_
      refine (catch_idle _ _ _ _).mono ?_
      rintro e u' w'' ⟨rfl, rfl, rfl⟩
      have hend : LexEnd w r (.returned (.tuple #[.slice va vn vc, .int .i64 0, .int .i64 0])) (((wr.setCell ⟨b, 0, none⟩ (.slice va vn vc)).setCell ⟨b1, 0, none⟩ (.int .i64 0)).setCell ⟨b2, 0, none⟩ (.int .i64 0)) := by
        refine ⟨?_, ?_⟩
        · rw [Hb.out]
          exact (((HB0.out.trans (HBr.out.mono (by omega))).setCell (p := ⟨b, 0, none⟩) (Nat.le_refl _) _).setCell (p := ⟨b1, 0, none⟩) (by show b ≤ b1; omega) _).setCell (p := ⟨b2, 0, none⟩) (by show b ≤ b2; omega) _
        · rw [Hd.out]
          exact ⟨_, rfl, (((Hown.out.of_other _ _ (by show b < p + 1; omega)).of_other _ _ (by show b1 < p + 1; omega)).of_other _ _ (by show b2 < p + 1; omega)).isToks (by omega) fun t ht => Nat.le_trans (Hsc.out.2 t ht) (by unfold maxLen; omega)⟩
      have Hend := Lib.hid hend
      clear hend
      simp [Leaves, settle, results, Tryd.results12, go_sem, q0, q1, q2]
      exact Hend.out

end Go.Proofs.YtkfbhegniobecaaDoor

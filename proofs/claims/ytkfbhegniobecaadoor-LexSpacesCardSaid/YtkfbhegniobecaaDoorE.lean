/- Lists of tokens: the program's Same, and the document's Equal and Few. -/
import Derived.Test.YtkfbhegniobecaaDoorD
namespace Go.Proofs.YtkfbhegniobecaaDoor
open Go.RowKit

set_option maxHeartbeats 1000000 in
theorem same1_any (x y : Tok) (w : World) :
    Calls Tryd.prog 42 #[.agg x.cells, .agg y.cells] w fun e w' => e = .returned (.bool (sameT x y)) ∧ Below w.heap.size w w' := by
  obtain ⟨xk, xt, xn, xa⟩ := x
  obtain ⟨yk, yt, yn, ya⟩ := y
  unfold Tok.cells
  dsimp only
  generalize hN : sameT _ _ = N
  unfold sameT at hN
  have HN := Lib.hid hN; clear hN
  go_enter Tryd.func42, Tryd.ntmps42
  go_wp2
  all_goals go_ret
  all_goals
    refine ⟨ret_bool ?_, ((Below.refl _ _).alloc (Nat.le_refl _) _).alloc (by simp) _⟩
    try simp only [ByteArray.toList_eq] at *
    rw [← HN.out]
    first
    | (simp [*]; done)
    | (rw [(beq_eq_false_iff_ne (a := xt.data.toList)).2 ‹_›]; simp)

theorem same1_cells (xk : Int) (xt : ByteArray) (xn xa yk : Int) (yt : ByteArray) (yn ya : Int) (w : World) (N : Bool) (h : Hid (sameT ⟨xk, xt, xn, xa⟩ ⟨yk, yt, yn, ya⟩ = N)) :
    Calls Tryd.prog 42 #[.agg #[.int .i64 xk, .string xt, .int .i64 xn, .int .i64 xa], .agg #[.int .i64 yk, .string yt, .int .i64 yn, .int .i64 ya]] w fun e w' => e = .returned (.bool N) ∧ Below w.heap.size w w' := by
  rw [← h.out]
  exact same1_any ⟨xk, xt, xn, xa⟩ ⟨yk, yt, yn, ya⟩ w

set_option maxHeartbeats 1000000 in
theorem eqfunc_row (b1 o1 c1 b2 o2 c2 : Nat) (xs ys : List Tok) (w : World) (hl : xs.length = ys.length) (hm : xs.length ≤ 9223372036854775807) (h1 : RowToks w b1 o1 xs) (h2 : RowToks w b2 o2 ys) (hb1 : b1 < w.heap.size) (hb2 : b2 < w.heap.size) :
    Calls Tryd.prog 41 #[.slice (some ⟨b1, o1, none⟩) xs.length c1, .slice (some ⟨b2, o2, none⟩) ys.length c2, .func (.func 42) #[] #[]] w fun e w' => e = .returned (.bool (sameB xs ys)) ∧ Below w.heap.size w w' := by
  have hst : sameB xs ys = sameB (xs.drop 0) (ys.drop 0) := rfl
  generalize hN : sameB xs ys = N at hst ⊢
  have HN := Lib.hid hst; clear hst hN
  have H1 := Lib.hid h1; clear h1
  have H2 := Lib.hid h2; clear h2
  rw [← hl]
  have HL := Lib.hid hl; clear hl
  generalize hn : xs.length = n at hm ⊢
  have Hn := Lib.hid hn; clear hn
  go_enter Tryd.func41, Tryd.ntmps41
  go_wp2
  go_loopw [7, 8, 9, 17] (fun _ _ _ i wr => ∃ k : Nat, k ≤ n ∧ i = .int .i64 k ∧ Hid (N = sameB (xs.drop k) (ys.drop k)) ∧ Below w.heap.size w wr) (fun _ _ _ i _ => n - (intOf i).toNat)
  case atStart => exact ⟨0, by omega, rfl, HN, Below.refl _ _⟩
  case round =>
    clear HN
    obtain ⟨k, hk, rfl, HN, hB⟩ := hrel
    by_cases hlt : k < n
    · have hx : k < xs.length := by rw [Hn.out]; exact hlt
      have hy : k < ys.length := by rw [← HL.out]; exact hx
      have hstep := HN.out.trans (sameB_step hx hy)
      clear HN
      obtain ⟨x0, x1, x2, x3⟩ := H1.out k hx
      obtain ⟨y0, y1, y2, y3⟩ := H2.out k hy
      generalize xs[k] = x at x0 x1 x2 x3 hstep
      generalize ys[k] = y at y0 y1 y2 y3 hstep
      obtain ⟨xk, xt, xn, xa⟩ := x
      obtain ⟨yk, yt, yn, ya⟩ := y
      dsimp only at x0 x1 x2 x3 y0 y1 y2 y3 hstep
      generalize hsN : sameT _ _ = sN at hstep
      have HsN := Lib.hid hsN; clear hsN
      have HS := Lib.hid hstep; clear hstep
      rw [← hB.cell hb1] at x0 x1 x2 x3
      rw [← hB.cell hb2] at y0 y1 y2 y3
      have hz := hB.size
      have hr1 : b1 < wr.heap.size := by omega
      have hr2 : b2 < wr.heap.size := by omega
      cases sN
      · go_wp2_with fail
        refine (same1_cells xk xt xn xa yk yt yn ya _ _ HsN).mono ?_
        rintro e w1 ⟨rfl, hb⟩
        have hb' := hb.mono (B' := w.heap.size) (by simp; omega)
        clear hb
        go_wp2_with fail
        go_ret
        refine ⟨ret_bool ?_, ?_⟩
        · rw [HS.out]; simp
        · exact ((hB.alloc hz _).alloc (by simp; omega) _).trans hb'
      · go_wp2_with fail
        refine (same1_cells xk xt xn xa yk yt yn ya _ _ HsN).mono ?_
        rintro e w1 ⟨rfl, hb⟩
        have hb' := hb.mono (B' := w.heap.size) (by simp; omega)
        clear hb
        go_wp2_with fail
        exact ⟨⟨k + 1, by omega, by go_num, by rw [Hid, HS.out]; simp, ((hB.alloc hz _).alloc (by simp; omega) _).trans hb'⟩, by simp [intOf]; omega⟩
    · go_wp2
      go_ret
      obtain rfl : k = n := by omega
      exact ⟨ret_bool (by rw [HN.out, ← Hn.out, sameB_end HL.out]), hB⟩

set_option maxHeartbeats 1000000 in
theorem eqfunc_len (a1 : Option Addr) (n1 c1 : Nat) (a2 : Option Addr) (n2 c2 : Nat) (w : World) (h : n1 ≠ n2) :
    Calls Tryd.prog 41 #[.slice a1 n1 c1, .slice a2 n2 c2, .func (.func 42) #[] #[]] w fun e w' => e = .returned (.bool false) ∧ w = w' := by
  have hb : ((n1 : Int) != n2) = true := by rw [bne_iff_ne]; omega
  go_enter Tryd.func41, Tryd.ntmps41
  go_wp2
  go_ret
  exact ⟨rfl, rfl⟩
set_option maxHeartbeats 1000000 in
theorem eqfunc_empty (a1 : Option Addr) (c1 : Nat) (a2 : Option Addr) (c2 : Nat) (w : World) :
    Calls Tryd.prog 41 #[.slice a1 0 c1, .slice a2 0 c2, .func (.func 42) #[] #[]] w fun e w' => e = .returned (.bool true) ∧ w = w' := by
  go_enter Tryd.func41, Tryd.ntmps41
  go_wp2
  refine wp_loop_rounds 1 ?_
  rw [rounds_succ]
  go_wp2
  go_ret
  exact ⟨rfl, rfl⟩
theorem eqfunc_any (v1 v2 : Value) (xs ys : List Tok) (w : World) (h1 : IsToks w v1 xs) (h2 : IsToks w v2 ys) :
    Calls Tryd.prog 41 #[v1, v2, .func (.func 42) #[] #[]] w fun e w' => e = .returned (.bool (sameB xs ys)) ∧ Below w.heap.size w w' := by
  obtain ⟨m1, _, h1⟩ := h1
  obtain ⟨m2, _, h2⟩ := h2
  rcases h1 with ⟨rfl, a1, c1, rfl⟩ | ⟨b1, o1, c1, rfl, q1, r1⟩ <;> rcases h2 with ⟨rfl, a2, c2, rfl⟩ | ⟨b2, o2, c2, rfl, q2, r2⟩
  · exact (eqfunc_empty _ _ _ _ w).mono fun _ _ h => ⟨h.1, h.2 ▸ Below.refl _ _⟩
  · by_cases e : ys.length = 0
    · rw [e]
      obtain rfl := List.length_eq_zero_iff.1 e
      exact (eqfunc_empty _ _ _ _ w).mono fun _ _ h => ⟨h.1, h.2 ▸ Below.refl _ _⟩
    · refine (eqfunc_len _ _ _ _ _ _ w (Ne.symm e)).mono fun _ _ h => ⟨?_, h.2 ▸ Below.refl _ _⟩
      rw [sameB_len (by simpa using Ne.symm e)]; exact h.1
  · by_cases e : xs.length = 0
    · rw [e]
      obtain rfl := List.length_eq_zero_iff.1 e
      exact (eqfunc_empty _ _ _ _ w).mono fun _ _ h => ⟨h.1, h.2 ▸ Below.refl _ _⟩
    · refine (eqfunc_len _ _ _ _ _ _ w e).mono fun _ _ h => ⟨?_, h.2 ▸ Below.refl _ _⟩
      rw [sameB_len (by simpa using e)]; exact h.1
  · by_cases e : xs.length = ys.length
    · exact eqfunc_row _ _ _ _ _ _ xs ys w e m1 r1 r2 q1 q2
    · refine (eqfunc_len _ _ _ _ _ _ w e).mono fun _ _ h => ⟨?_, h.2 ▸ Below.refl _ _⟩
      rw [sameB_len e]; exact h.1

set_option maxHeartbeats 1000000 in
theorem same_any (v1 v2 : Value) (xs ys : List Tok) (w : World) (h1 : IsToks w v1 xs) (h2 : IsToks w v2 ys) :
    Calls Tryd.prog 18 #[v1, v2] w fun e w' => e = .returned (.bool (sameB xs ys)) ∧ Below w.heap.size w w' := by
  have h := eqfunc_any v1 v2 xs ys w h1 h2
  generalize sameB xs ys = N at h ⊢
  have H := Lib.hid h; clear h h1 h2
  go_enter Tryd.func18, Tryd.ntmps18
  go_wp2_with fail
  refine H.out.mono ?_
  rintro e w1 ⟨rfl, hb⟩
  go_wp2_with fail
  go_ret
  exact ⟨rfl, hb⟩

end Go.Proofs.YtkfbhegniobecaaDoor

/- Lists of tokens: the comparisons. -/
import Derived.Test.YtkfbhegniobecaaDoorC
namespace Go.Proofs.YtkfbhegniobecaaDoor
open Go.RowKit

/- a slice of tokens that lies in memory from block b, offset off, on -/
def RowToks (w : World) (b off : Nat) (ts : List Tok) : Prop :=
  ∀ i (h : i < ts.length), w.cell? ⟨b, off + i * 4, none⟩ = some (.int .i64 ts[i].kind) ∧ w.cell? ⟨b, off + i * 4 + 1, none⟩ = some (.string ts[i].text) ∧
    w.cell? ⟨b, off + i * 4 + 2, none⟩ = some (.int .i64 ts[i].n) ∧ w.cell? ⟨b, off + i * 4 + 3, none⟩ = some (.int .i64 ts[i].at_)
def IsToks (w : World) (v : Value) (ts : List Tok) : Prop :=
  ts.length ≤ 9223372036854775807 ∧ (∀ t ∈ ts, t.text.size ≤ maxLen) ∧
  ((ts = [] ∧ ∃ a cap, v = .slice a 0 cap) ∨ ∃ b off cap, v = .slice (some ⟨b, off, none⟩) ts.length cap ∧ b < w.heap.size ∧ RowToks w b off ts)

def sameT (a b : Tok) : Bool := a.kind == b.kind && (a.text.data.toList == b.text.data.toList && a.n == b.n)
def sameB : List Tok → List Tok → Bool
  | [], [] => true
  | a :: r, b :: q => sameT a b && sameB r q
  | _, _ => false

theorem sameB_step {xs ys : List Tok} {k : Nat} (hx : k < xs.length) (hy : k < ys.length) : sameB (xs.drop k) (ys.drop k) = (sameT xs[k] ys[k] && sameB (xs.drop (k + 1)) (ys.drop (k + 1))) := by
  rw [List.drop_eq_getElem_cons hx, List.drop_eq_getElem_cons hy, sameB]
theorem sameB_end {xs ys : List Tok} (hl : xs.length = ys.length) : sameB (xs.drop xs.length) (ys.drop xs.length) = true := by
  rw [List.drop_of_length_le (Nat.le_refl _), List.drop_of_length_le (by omega)]; rfl
theorem sameB_len : ∀ {xs ys : List Tok}, xs.length ≠ ys.length → sameB xs ys = false
  | [], [], h => (h rfl).elim
  | [], _ :: _, _ => rfl
  | _ :: _, [], _ => rfl
  | _ :: r, _ :: q, h => by
    rw [sameB, sameB_len (by simpa using h)]; simp
theorem drewN_drewN (w : World) (a b : Nat) : (w.drewN a).drewN b = w.drewN (a + b) := by
  simp [World.drewN, Nat.add_assoc]

theorem text_ne {a b : ByteArray} (h : ¬ a = b) : (a.toList == b.toList) = false := by
  rw [beq_eq_false_iff_ne]
  intro e
  rw [ByteArray.toList_eq, ByteArray.toList_eq] at e
  exact h (ByteArray.ext (Array.toList_inj.1 e))

set_option maxHeartbeats 2000000 in
theorem refsame_row (b1 o1 c1 b2 o2 c2 : Nat) (xs ys : List Tok) (w : World) (hl : xs.length = ys.length) (hm : xs.length ≤ 9223372036854775807) (h1 : RowToks w b1 o1 xs) (h2 : RowToks w b2 o2 ys) :
    Calls Tryd.prog 19 #[.slice (some ⟨b1, o1, none⟩) xs.length c1, .slice (some ⟨b2, o2, none⟩) ys.length c2] w fun e w' => e = .returned (.bool (sameB xs ys)) ∧ ∃ q, w' = w.drewN q := by
  have hst : sameB xs ys = sameB (xs.drop 0) (ys.drop 0) := rfl
  generalize hN : sameB xs ys = N at hst ⊢
  have HN := Lib.hid hst; clear hst hN
  have H1 := Lib.hid h1; clear h1
  have H2 := Lib.hid h2; clear h2
  rw [← hl]
  have HL := Lib.hid hl; clear hl
  generalize hn : xs.length = n at hm ⊢
  have Hn := Lib.hid hn; clear hn
  go_enter Tryd.func19, Tryd.ntmps19
  go_wp2
  go_loopw [5] (fun i wr => ∃ k : Nat, k ≤ n ∧ i = .int .i64 k ∧ Hid (N = sameB (xs.drop k) (ys.drop k)) ∧ (∃ q, wr = w.drewN q)) (fun i _ => n - (intOf i).toNat)
  case atStart => exact ⟨0, by omega, rfl, HN, 0, rfl⟩
  case round =>
    clear HN
    obtain ⟨k, hk, rfl, HN, q, rfl⟩ := hrel
    by_cases hlt : k < n
    · have hx : k < xs.length := by rw [Hn.out]; exact hlt
      have hy : k < ys.length := by rw [← HL.out]; exact hx
      have hstep := HN.out.trans (sameB_step hx hy)
      clear HN
      obtain ⟨x0, x1, x2, x3⟩ := H1.out k hx
      obtain ⟨y0, y1, y2, y3⟩ := H2.out k hy
      generalize xs[k] = x at x0 x1 x2 x3 hstep
      generalize ys[k] = y at y0 y1 y2 y3 hstep
      obtain ⟨xk, xt, xn, xa⟩ := x
      obtain ⟨yk, yt, yn, ya⟩ := y
      dsimp only at x0 x1 x2 x3 y0 y1 y2 y3 hstep
      unfold sameT at hstep
      dsimp only at hstep
      have HS := Lib.hid hstep; clear hstep
      by_cases e0 : xk = yk
      · have d0 : (xk != yk) = false := by simpa using e0
        have E0 := Lib.hid e0; clear e0
        by_cases e1 : xt = yt
        · subst e1
          by_cases e2 : xn = yn
          · have d2 : (xn != yn) = false := by simpa using e2
            have E2 := Lib.hid e2; clear e2
            go_wp2
            go_quiet (fail)
            go_wp2
            exact ⟨⟨k + 1, by omega, by go_num, by rw [Hid, HS.out, E0.out, E2.out]; simp, _, rfl⟩, by simp [intOf]; omega⟩
          · have d2 : (xn != yn) = true := by simpa using e2
            go_wp2
            go_quiet (fail)
            go_wp2
            go_ret
            refine ⟨ret_bool ?_, _, drewN_drewN _ _ _⟩
            rw [HS.out, beq_eq_false_iff_ne.2 e2]; simp
        · have d1 : (xt.toList == yt.toList) = false := text_ne e1
          go_wp2
          go_quiet (fail)
          go_wp2
          go_ret
          refine ⟨ret_bool ?_, _, drewN_drewN _ _ _⟩
          rw [HS.out, ← ByteArray.toList_eq, ← ByteArray.toList_eq, d1]; simp
      · have d0 : (xk != yk) = true := by simpa using e0
        go_wp2
        go_quiet (fail)
        go_wp2
        go_ret
        refine ⟨ret_bool ?_, _, drewN_drewN _ _ _⟩
        rw [HS.out, beq_eq_false_iff_ne.2 e0]; simp
    · go_wp2
      go_ret
      obtain rfl : k = n := by omega
      exact ⟨ret_bool (by rw [HN.out, ← Hn.out, sameB_end HL.out]), _, rfl⟩

set_option maxHeartbeats 1000000 in
theorem refsame_len (a1 : Option Addr) (n1 c1 : Nat) (a2 : Option Addr) (n2 c2 : Nat) (w : World) (h : n1 ≠ n2) :
    Calls Tryd.prog 19 #[.slice a1 n1 c1, .slice a2 n2 c2] w fun e w' => e = .returned (.bool false) ∧ w = w' := by
  have hb : ((n1 : Int) != n2) = true := by rw [bne_iff_ne]; omega
  go_enter Tryd.func19, Tryd.ntmps19
  go_wp2
  go_ret
  exact ⟨rfl, rfl⟩
set_option maxHeartbeats 1000000 in
theorem refsame_empty (a1 : Option Addr) (c1 : Nat) (a2 : Option Addr) (c2 : Nat) (w : World) :
    Calls Tryd.prog 19 #[.slice a1 0 c1, .slice a2 0 c2] w fun e w' => e = .returned (.bool true) ∧ w = w' := by
  go_enter Tryd.func19, Tryd.ntmps19
  go_wp2
  refine wp_loop_rounds 1 ?_
  rw [rounds_succ]
  go_wp2
  go_ret
  exact ⟨rfl, rfl⟩
theorem refsame_any (v1 v2 : Value) (xs ys : List Tok) (w : World) (h1 : IsToks w v1 xs) (h2 : IsToks w v2 ys) :
    Calls Tryd.prog 19 #[v1, v2] w fun e w' => e = .returned (.bool (sameB xs ys)) ∧ ∃ q, w' = w.drewN q := by
  obtain ⟨m1, _, h1⟩ := h1
  obtain ⟨m2, _, h2⟩ := h2
  rcases h1 with ⟨rfl, a1, c1, rfl⟩ | ⟨b1, o1, c1, rfl, _, r1⟩ <;> rcases h2 with ⟨rfl, a2, c2, rfl⟩ | ⟨b2, o2, c2, rfl, _, r2⟩
  · exact (refsame_empty _ _ _ _ w).mono fun _ _ h => ⟨h.1, 0, h.2.symm⟩
  · by_cases e : ys.length = 0
    · rw [e]
      obtain rfl := List.length_eq_zero_iff.1 e
      exact (refsame_empty _ _ _ _ w).mono fun _ _ h => ⟨h.1, 0, h.2.symm⟩
    · refine (refsame_len _ _ _ _ _ _ w (Ne.symm e)).mono fun _ _ h => ⟨?_, 0, h.2.symm⟩
      rw [sameB_len (by simpa using Ne.symm e)]; exact h.1
  · by_cases e : xs.length = 0
    · rw [e]
      obtain rfl := List.length_eq_zero_iff.1 e
      exact (refsame_empty _ _ _ _ w).mono fun _ _ h => ⟨h.1, 0, h.2.symm⟩
    · refine (refsame_len _ _ _ _ _ _ w e).mono fun _ _ h => ⟨?_, 0, h.2.symm⟩
      rw [sameB_len (by simpa using e)]; exact h.1
  · by_cases e : xs.length = ys.length
    · exact refsame_row _ _ _ _ _ _ xs ys w e m1 r1 r2
    · refine (refsame_len _ _ _ _ _ _ w e).mono fun _ _ h => ⟨?_, 0, h.2.symm⟩
      rw [sameB_len e]; exact h.1

end Go.Proofs.YtkfbhegniobecaaDoor

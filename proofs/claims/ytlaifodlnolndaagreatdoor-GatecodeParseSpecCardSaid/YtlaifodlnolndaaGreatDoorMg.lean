/- Texts Gd Ge in one: each says what it proves. -/
import Derived.Test.YtlaifodlnolndaaGreatDoorMf
import Derived.Deep.RegionLaw
import Derived.Deep.RegionWith
/- Running a gate program: the document's. -/
namespace Go.Proofs.YtlaifodlnolndaaGreatDoor
open Go.RowKit

def vsV (a0 a1 a2 a3 a4 : Int) : Value := .agg #[.int .i64 a0, .int .i64 a1, .int .i64 a2, .int .i64 a3, .int .i64 a4]

theorem holdsCd_at (a0 a1 a2 a3 a4 : Int) (c : Cd) (k : Nat) (h : c.v = k) : holdsCd [a0, a1, a2, a3, a4] c = holdsB c.op ([a0, a1, a2, a3, a4].getD k 0) c.n := by
  unfold holdsCd; rw [h]; simp
theorem all_take_succ {xs : List Cd} {f : Cd → Bool} {k : Nat} (h : k < xs.length) : (xs.take (k + 1)).all f = ((xs.take k).all f && f xs[k]) := by
  rw [List.take_succ_eq_append_getElem h, List.all_append]; simp
theorem all_take_end {xs : List Cd} {f : Cd → Bool} {k : Nat} (h : k = xs.length) : (xs.take k).all f = xs.all f := by
  subst h; rw [List.take_length]
theorem runC_skip {vs : List Int} {ls : List Ln} {i : Nat} (hi : i < ls.length) (h : ls[i].conds.all (holdsCd vs) = false) : runC vs (ls.drop i) = runC vs (ls.drop (i + 1)) := by
  rw [List.drop_eq_getElem_cons hi, runC, h]; rfl
theorem runC_hit {vs : List Int} {ls : List Ln} {i : Nat} (hi : i < ls.length) (h : ls[i].conds.all (holdsCd vs) = true) : runC vs (ls.drop i) = some ls[i].set := by
  rw [List.drop_eq_getElem_cons hi, runC, h]; rfl
theorem runC_end {vs : List Int} {ls : List Ln} {i : Nat} (hi : i = ls.length) : runC vs (ls.drop i) = none := by
  subst hi; rw [List.drop_length]; rfl

theorem runStart (w : World) (a : Option Addr) (n cap : Nat) (a0 a1 a2 a3 a4 : Int) : Below w.heap.size w ((w.alloc (.cells #[.slice a n cap] 25)).alloc (.cells #[.int .i64 a0, .int .i64 a1, .int .i64 a2, .int .i64 a3, .int .i64 a4] 40)) ∧
    w.heap.size + 1 < ((w.alloc (.cells #[.slice a n cap] 25)).alloc (.cells #[.int .i64 a0, .int .i64 a1, .int .i64 a2, .int .i64 a3, .int .i64 a4] 40)).heap.size ∧
    ((w.alloc (.cells #[.slice a n cap] 25)).alloc (.cells #[.int .i64 a0, .int .i64 a1, .int .i64 a2, .int .i64 a3, .int .i64 a4] 40)).cell? ⟨w.heap.size, 0, none⟩ = some (.slice a n cap) ∧
    ∀ j, j < 5 → ((w.alloc (.cells #[.slice a n cap] 25)).alloc (.cells #[.int .i64 a0, .int .i64 a1, .int .i64 a2, .int .i64 a3, .int .i64 a4] 40)).cell? ⟨w.heap.size + 1, j, none⟩ = some (.int .i64 ([a0, a1, a2, a3, a4].getD j 0)) := by
  refine ⟨((Below.refl _ _).alloc (Nat.le_refl _) _).alloc (by simp) _, by simp, by simp [go_sem], fun j hj => ?_⟩
  match j, hj with
  | 0, _ => simp [go_sem]
  | 1, _ => simp [go_sem]
  | 2, _ => simp [go_sem]
  | 3, _ => simp [go_sem]
  | 4, _ => simp [go_sem]

/- what running returns -/
def runR (vs : List Int) (ls : List Ln) : Value :=
  if okC ls then match runC vs ls with
    | some n => .tuple #[.int .i64 n, .bool true, .int .i64 0]
    | none => .tuple #[.int .i64 0, .bool false, .int .i64 0]
  else .tuple #[.int .i64 0, .bool false, .int .i64 310]

end Go.Proofs.YtlaifodlnolndaaGreatDoor

/- Running a gate program: the program's conditions. -/
namespace Go.Proofs.YtlaifodlnolndaaGreatDoor
open Go.RowKit

set_option maxHeartbeats 400000 in
theorem cmp1_any (a b : Int) (w : World) : Calls Tryz.prog 64 #[.int .i64 a, .int .i64 b] w fun e w' => e = .returned (.bool (holdsB 1 a b)) ∧ w = w' := by
  go_enter Tryz.func64, Tryz.ntmps64
  go_wp2
  go_ret
  exact ⟨rfl, rfl⟩
set_option maxHeartbeats 400000 in
theorem cmp2_any (a b : Int) (w : World) : Calls Tryz.prog 65 #[.int .i64 a, .int .i64 b] w fun e w' => e = .returned (.bool (holdsB 2 a b)) ∧ w = w' := by
  go_enter Tryz.func65, Tryz.ntmps65
  go_wp2
  go_ret
  exact ⟨rfl, rfl⟩
set_option maxHeartbeats 400000 in
theorem cmp3_any (a b : Int) (w : World) : Calls Tryz.prog 66 #[.int .i64 a, .int .i64 b] w fun e w' => e = .returned (.bool (holdsB 3 a b)) ∧ w = w' := by
  go_enter Tryz.func66, Tryz.ntmps66
  go_wp2
  go_ret
  exact ⟨ret_bool (by rw [Bool.eq_iff_iff]; simp [holdsB]), rfl⟩
set_option maxHeartbeats 400000 in
theorem cmp4_any (a b : Int) (w : World) : Calls Tryz.prog 67 #[.int .i64 a, .int .i64 b] w fun e w' => e = .returned (.bool (holdsB 4 a b)) ∧ w = w' := by
  go_enter Tryz.func67, Tryz.ntmps67
  go_wp2
  go_ret
  exact ⟨rfl, rfl⟩
set_option maxHeartbeats 400000 in
theorem cmp5_any (a b : Int) (w : World) : Calls Tryz.prog 68 #[.int .i64 a, .int .i64 b] w fun e w' => e = .returned (.bool (holdsB 5 a b)) ∧ w = w' := by
  go_enter Tryz.func68, Tryz.ntmps68
  go_wp2
  go_ret
  exact ⟨rfl, rfl⟩

/- the operators' functions, and the variables, in their boxes -/
def opsL : Array Value := #[.nilFunc, .func (.func 64) #[] #[], .func (.func 65) #[] #[], .func (.func 66) #[] #[], .func (.func 67) #[] #[], .func (.func 68) #[] #[]]
def OpsAt (w : World) (b : Nat) : Prop := w.heap[b]? = some (.cells opsL 95 (0, 0))
def VarsAt (w : World) (b : Nat) (a0 a1 a2 a3 a4 : Int) : Prop := ∀ j, j < 5 → w.cell? ⟨b, j, none⟩ = some (.int .i64 ([a0, a1, a2, a3, a4].getD j 0))
theorem OpsAt.cells {w : World} {b : Nat} (h : OpsAt w b) : w.cell? ⟨b, 1, none⟩ = some (.func (.func 64) #[] #[]) ∧ w.cell? ⟨b, 2, none⟩ = some (.func (.func 65) #[] #[]) ∧ w.cell? ⟨b, 3, none⟩ = some (.func (.func 66) #[] #[]) ∧
    w.cell? ⟨b, 4, none⟩ = some (.func (.func 67) #[] #[]) ∧ w.cell? ⟨b, 5, none⟩ = some (.func (.func 68) #[] #[]) := by
  unfold OpsAt at h
  refine ⟨?_, ?_, ?_, ?_, ?_⟩ <;> simp [World.cell?, h, opsL]
theorem OpsAt.lt {w : World} {b : Nat} (h : OpsAt w b) : b < w.heap.size := (Array.getElem?_eq_some_iff.1 h).1
theorem OpsAt.below {B : Nat} {w w' : World} {b : Nat} (h : OpsAt w b) (hb : Below B w w') (hlt : b < B) : OpsAt w' b := (hb.block b hlt).trans h
theorem VarsAt.below {B : Nat} {w w' : World} {b : Nat} {a0 a1 a2 a3 a4 : Int} (h : VarsAt w b a0 a1 a2 a3 a4) (hb : Below B w w') (hlt : b < B) : VarsAt w' b a0 a1 a2 a3 a4 := fun j hj => (hb.cell (p := ⟨b, j, none⟩) hlt).trans (h j hj)

set_option maxRecDepth 100000 in
set_option maxHeartbeats 2000000 in
theorem fails_any (c : Cd) (bo bv : Nat) (a0 a1 a2 a3 a4 : Int) (w : World) (hc : okCd c = true) (ho : OpsAt w bo) (hv : VarsAt w bv a0 a1 a2 a3 a4) (hbv : bv < w.heap.size) :
    Calls Tryz.prog 51 #[.agg #[.int .i64 c.v, .int .i64 c.op, .int .i64 c.n], .pointer (some ⟨bo, 0, none⟩), .pointer (some ⟨bv, 0, none⟩)] w
      fun e w' => e = .returned (.bool (!holdsCd [a0, a1, a2, a3, a4] c)) ∧ Below w.heap.size w w' := by
  have hlt := ho.lt
  obtain ⟨⟨v0, v4⟩, ⟨o1, o5⟩, _⟩ := okCd_parts hc
  obtain ⟨v, op, n⟩ := c
  dsimp only at v0 v4 o1 o5 ⊢
  obtain ⟨j, rfl⟩ : ∃ j : Nat, v = (j : Int) := ⟨v.toNat, by omega⟩
  have hj5 : j < 5 := by omega
  have hj6 : (j : Int) < 5 := by omega
  rw [holdsCd_at a0 a1 a2 a3 a4 ⟨(j : Int), op, n⟩ j rfl]
  dsimp only
  have e0 := hv j hj5
  generalize [a0, a1, a2, a3, a4].getD j 0 = av at e0 ⊢
  obtain ⟨f1, f2, f3, f4, f5⟩ := ho.cells
  clear ho hv hc
  rcases op_cases o1 o5 with rfl | rfl | rfl | rfl | rfl
  · generalize hr : holdsB 1 av n = r
    have Hc := Lib.hid (fun W => cmp1_any av n W)
    rw [hr] at Hc
    clear hr
    go_enter Tryz.func51, Tryz.ntmps51
    go_wp2_with fail
    go_quiet ((go_at_call 64; exact Calls.quiet_of_same ((Hc.out _).mono fun _ _ h => ⟨h.1, h.2.symm⟩)))
    go_wp2
    go_ret
    exact ⟨rfl, below_drewN ((Below.refl _ _).alloc (Nat.le_refl _) _) _⟩
  · generalize hr : holdsB 2 av n = r
    have Hc := Lib.hid (fun W => cmp2_any av n W)
    rw [hr] at Hc
    clear hr
    go_enter Tryz.func51, Tryz.ntmps51
    go_wp2_with fail
    go_quiet ((go_at_call 65; exact Calls.quiet_of_same ((Hc.out _).mono fun _ _ h => ⟨h.1, h.2.symm⟩)))
    go_wp2
    go_ret
    exact ⟨rfl, below_drewN ((Below.refl _ _).alloc (Nat.le_refl _) _) _⟩
  · generalize hr : holdsB 3 av n = r
    have Hc := Lib.hid (fun W => cmp3_any av n W)
    rw [hr] at Hc
    clear hr
    go_enter Tryz.func51, Tryz.ntmps51
    go_wp2_with fail
    go_quiet ((go_at_call 66; exact Calls.quiet_of_same ((Hc.out _).mono fun _ _ h => ⟨h.1, h.2.symm⟩)))
    go_wp2
    go_ret
    exact ⟨rfl, below_drewN ((Below.refl _ _).alloc (Nat.le_refl _) _) _⟩
  · generalize hr : holdsB 4 av n = r
    have Hc := Lib.hid (fun W => cmp4_any av n W)
    rw [hr] at Hc
    clear hr
    go_enter Tryz.func51, Tryz.ntmps51
    go_wp2_with fail
    go_quiet ((go_at_call 67; exact Calls.quiet_of_same ((Hc.out _).mono fun _ _ h => ⟨h.1, h.2.symm⟩)))
    go_wp2
    go_ret
    exact ⟨rfl, below_drewN ((Below.refl _ _).alloc (Nat.le_refl _) _) _⟩
  · generalize hr : holdsB 5 av n = r
    have Hc := Lib.hid (fun W => cmp5_any av n W)
    rw [hr] at Hc
    clear hr
    go_enter Tryz.func51, Tryz.ntmps51
    go_wp2_with fail
    go_quiet ((go_at_call 68; exact Calls.quiet_of_same ((Hc.out _).mono fun _ _ h => ⟨h.1, h.2.symm⟩)))
    go_wp2
    go_ret
    exact ⟨rfl, below_drewN ((Below.refl _ _).alloc (Nat.le_refl _) _) _⟩

/- the first condition that fails -/
theorem all_from {xs : List Cd} {f : Cd → Bool} {k : Nat} (hk : k < xs.length) (h : f xs[k] = false) : xs.all f = false := by
  rw [Bool.eq_false_iff]; intro hc
  rw [List.all_eq_true] at hc
  have := hc _ (List.getElem_mem hk)
  rw [h] at this; cases this
theorem all_mk {xs : List Cd} {f : Cd → Bool} (h : ∀ k (hk : k < xs.length), f xs[k] = true) : xs.all f = true := by
  rw [List.all_eq_true]
  intro c hc
  obtain ⟨k, hk, rfl⟩ := List.getElem_of_mem hc
  exact h k hk

set_option maxRecDepth 100000 in
set_option maxHeartbeats 2000000 in
theorem indexf_any (v : Value) (cs : List Cd) (bo bv : Nat) (a0 a1 a2 a3 a4 : Int) (w : World) (h : IsCds w v cs) (hok : ∀ c ∈ cs, okCd c = true) (ho : OpsAt w bo) (hv : VarsAt w bv a0 a1 a2 a3 a4) (hbv : bv < w.heap.size) :
    Calls Tryz.prog 69 #[v, .func (.func 51) #[] #[.pointer (some ⟨bo, 0, none⟩), .pointer (some ⟨bv, 0, none⟩)]] w
      fun e w' => ∃ n : Int, e = .returned (.int .i64 n) ∧ decide (0 ≤ n) = !cs.all (holdsCd [a0, a1, a2, a3, a4]) ∧ Below w.heap.size w w' := by
  obtain ⟨hl, a, cap, rfl, hr⟩ := h
  have Hr := Lib.hid hr; clear hr
  have Hok := Lib.hid hok; clear hok
  have Ho := Lib.hid ho
  have hlo := ho.lt
  have Hv := Lib.hid hv
  clear ho hv
  generalize hE : cs.all (holdsCd [a0, a1, a2, a3, a4]) = E
  have HE := Lib.hid hE; clear hE
  generalize hn : cs.length = n at hl ⊢
  have Hn := Lib.hid hn; clear hn
  go_enter Tryz.func69, Tryz.ntmps69
  go_wp2
  go_loopw [8] (fun iv wr => ∃ i : Nat, iv = .int .i64 i ∧ i ≤ n ∧ Hid (∀ j (h : j < cs.length), j < i → holdsCd [a0, a1, a2, a3, a4] cs[j] = true) ∧ Hid (Below w.heap.size w wr)) (fun iv _ => n - (intOf iv).toNat)
  case atStart => exact ⟨0, rfl, Nat.zero_le _, fun j _ h => by omega, Below.refl _ _⟩
  case round =>
    obtain ⟨i, rfl, hi, HA, HB⟩ := hrel
    by_cases hlt : i < n
    · have hil : i < cs.length := by rw [Hn.out]; exact hlt
      obtain ⟨b, o, rfl, hbl, hcd⟩ := Hr.out i hil
      obtain ⟨d0, d1, d2⟩ := hcd.below HB.out hbl
      have Hf := Lib.hid (fails_any cs[i] bo bv a0 a1 a2 a3 a4 wr (Hok.out _ (List.getElem_mem hil)) (Ho.out.below HB.out hlo) (Hv.out.below HB.out hbv) (Nat.lt_of_lt_of_le hbv HB.out.size))
      have HN := Lib.hid (show holdsCd [a0, a1, a2, a3, a4] cs[i] = false → E = false from fun h => by rw [← HE.out, all_from hil h])
      have HY := Lib.hid (show holdsCd [a0, a1, a2, a3, a4] cs[i] = true → ∀ j (h : j < cs.length), j < i + 1 → holdsCd [a0, a1, a2, a3, a4] cs[j] = true from fun h j hj hji => by
        by_cases e : j = i
        · subst e; exact h
        · exact HA.out j hj (by omega))
      clear hcd HA
      generalize holdsCd [a0, a1, a2, a3, a4] cs[i] = q at Hf HN HY
      generalize cs[i] = y at *
      obtain ⟨yv, yo, yn⟩ := y
      dsimp only at d0 d1 d2 Hf
      cases q
      · go_wp2_with fail
        with_reducible refine Hf.out.mono ?_
        rintro e w1 ⟨rfl, hb⟩
        have HB1 := Lib.hid (HB.out.trans (hb.mono HB.out.size))
        clear hb
        go_wp2
        go_ret
        exact ⟨_, rfl, by rw [HN.out (by simp)]; simp, HB1.out⟩
      · go_wp2_with fail
        with_reducible refine Hf.out.mono ?_
        rintro e w1 ⟨rfl, hb⟩
        have HB1 := Lib.hid (HB.out.trans (hb.mono HB.out.size))
        clear hb
        go_wp2
        exact ⟨⟨i + 1, by go_num, by omega, HY.out (by simp), HB1.out⟩, by simp [intOf]; omega⟩
    · go_wp2
      go_ret
      exact ⟨_, rfl, by rw [← HE.out, all_mk (fun j hj => HA.out j hj (by rw [Hn.out] at hj; omega))]; rfl, HB.out⟩

set_option maxHeartbeats 1000000 in
theorem containsf_any (v : Value) (cs : List Cd) (bo bv : Nat) (a0 a1 a2 a3 a4 : Int) (w : World) (h : IsCds w v cs) (hok : ∀ c ∈ cs, okCd c = true) (ho : OpsAt w bo) (hv : VarsAt w bv a0 a1 a2 a3 a4) (hbv : bv < w.heap.size) :
    Calls Tryz.prog 50 #[v, .func (.func 51) #[] #[.pointer (some ⟨bo, 0, none⟩), .pointer (some ⟨bv, 0, none⟩)]] w
      fun e w' => e = .returned (.bool (!cs.all (holdsCd [a0, a1, a2, a3, a4]))) ∧ Below w.heap.size w w' := by
  have Hi := Lib.hid (indexf_any v cs bo bv a0 a1 a2 a3 a4 w h hok ho hv hbv)
  clear h hok ho hv
  generalize (!cs.all (holdsCd [a0, a1, a2, a3, a4])) = q at *
  go_enter Tryz.func50, Tryz.ntmps50
  go_wp2_with fail
  with_reducible refine Hi.out.mono ?_
  rintro e w1 ⟨n, rfl, hn, hb⟩
  have Hn := Lib.hid hn
  have HB := Lib.hid hb
  clear hn hb
  go_wp2
  all_goals
    go_ret
    exact ⟨ret_bool (by rw [← Hn.out]), HB.out⟩

end Go.Proofs.YtlaifodlnolndaaGreatDoor

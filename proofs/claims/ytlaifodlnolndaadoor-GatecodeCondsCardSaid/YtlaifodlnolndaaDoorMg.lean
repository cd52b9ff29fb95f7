/- Texts Gd Ge in one: each says what it proves. -/
import Derived.Test.YtlaifodlnolndaaDoorMf
import Derived.Deep.RegionLaw
import Derived.Deep.RegionWith
/- Running a gate program: the document's. -/
namespace Go.Proofs.YtlaifodlnolndaaDoor
open Go.RowKit

def vsV (a0 a1 a2 a3 a4 : Int) : Value := .agg #[.int .i64 a0, .int .i64 a1, .int .i64 a2, .int .i64 a3, .int .i64 a4]

set_option maxHeartbeats 1000000 in
theorem holds_any (c : Cd) (n : Int) (w : World) :
    Calls Tryd.prog 32 #[.agg #[.int .i64 c.v, .int .i64 c.op, .int .i64 c.n], .int .i64 n] w fun e w' => e = .returned (.bool (holdsB c.op n c.n)) ∧ Below w.heap.size w w' := by
  obtain ⟨v, op, m⟩ := c
  dsimp only
  generalize hb : holdsB op n m = r
  have Hb := Lib.hid hb; clear hb
  go_enter Tryd.func32, Tryd.ntmps32
  go_wp2
  all_goals
    go_ret
    refine ⟨ret_bool ?_, (Below.refl _ _).alloc (Nat.le_refl _) _⟩
    rw [← Hb.out]
    simp only [beq_iff_eq, beq_eq_false_iff_ne, ne_eq] at *
    unfold holdsB
    simp [*]
    try (rw [Bool.eq_iff_iff]; simp; done)

theorem holdsCd_at (a0 a1 a2 a3 a4 : Int) (c : Cd) (k : Nat) (h : c.v = k) : holdsCd [a0, a1, a2, a3, a4] c = holdsB c.op ([a0, a1, a2, a3, a4].getD k 0) c.n := by
  unfold holdsCd; rw [h]; simp
theorem all_take_succ {xs : List Cd} {f : Cd → Bool} {k : Nat} (h : k < xs.length) : (xs.take (k + 1)).all f = ((xs.take k).all f && f xs[k]) := by
  rw [List.take_succ_eq_append_getElem h, List.all_append]; simp
theorem all_take_end {xs : List Cd} {f : Cd → Bool} {k : Nat} (h : k = xs.length) : (xs.take k).all f = xs.all f := by
  subst h; rw [List.take_length]
theorem runC_skip {vs : List Int} {ls : List Ln} {i : Nat} (hi : i < ls.length) (h : ls[i].conds.all (holdsCd vs) = false) : runC vs (ls.drop i) = runC vs (ls.drop (i + 1)) := by
  rw [List.drop_eq_getElem_cons hi, runC, h]; rfl
theorem runC_hit {vs : List Int} {ls : List Ln} {i : Nat} (hi : i < ls.length) (h : ls[i].conds.all (holdsCd vs) = true) : runC vs (ls.drop i) = some ls[i].set := by
  rw [List.drop_eq_getElem_cons hi, runC, h]; rfl
theorem runC_end {vs : List Int} {ls : List Ln} {i : Nat} (hi : i = ls.length) : runC vs (ls.drop i) = none := by
  subst hi; rw [List.drop_length]; rfl

theorem runStart (w : World) (a : Option Addr) (n cap : Nat) (a0 a1 a2 a3 a4 : Int) : Below w.heap.size w ((w.alloc (.cells #[.slice a n cap] 24)).alloc (.cells #[.int .i64 a0, .int .i64 a1, .int .i64 a2, .int .i64 a3, .int .i64 a4] 25)) ∧
    w.heap.size + 1 < ((w.alloc (.cells #[.slice a n cap] 24)).alloc (.cells #[.int .i64 a0, .int .i64 a1, .int .i64 a2, .int .i64 a3, .int .i64 a4] 25)).heap.size ∧
    ((w.alloc (.cells #[.slice a n cap] 24)).alloc (.cells #[.int .i64 a0, .int .i64 a1, .int .i64 a2, .int .i64 a3, .int .i64 a4] 25)).cell? ⟨w.heap.size, 0, none⟩ = some (.slice a n cap) ∧
    ∀ j, j < 5 → ((w.alloc (.cells #[.slice a n cap] 24)).alloc (.cells #[.int .i64 a0, .int .i64 a1, .int .i64 a2, .int .i64 a3, .int .i64 a4] 25)).cell? ⟨w.heap.size + 1, j, none⟩ = some (.int .i64 ([a0, a1, a2, a3, a4].getD j 0)) := by
  refine ⟨((Below.refl _ _).alloc (Nat.le_refl _) _).alloc (by simp) _, by simp, by simp [go_sem], fun j hj => ?_⟩
  match j, hj with
  | 0, _ => simp [go_sem]
  | 1, _ => simp [go_sem]
  | 2, _ => simp [go_sem]
  | 3, _ => simp [go_sem]
  | 4, _ => simp [go_sem]

/- what running returns -/
def runR (vs : List Int) (ls : List Ln) : Value :=
  if okC ls then match runC vs ls with
    | some n => .tuple #[.int .i64 n, .bool true, .int .i64 0]
    | none => .tuple #[.int .i64 0, .bool false, .int .i64 0]
  else .tuple #[.int .i64 0, .bool false, .int .i64 310]

set_option maxRecDepth 100000 in
set_option maxHeartbeats 800000 in
theorem refrun_any (v : Value) (ls : List Ln) (a0 a1 a2 a3 a4 : Int) (w : World) (h : IsLns w v ls) :
    Calls Tryd.prog 14 #[.agg #[v], vsV a0 a1 a2 a3 a4] w fun e w' => e = .returned (runR [a0, a1, a2, a3, a4] ls) ∧ Below w.heap.size w w' := by
  generalize hE : runR [a0, a1, a2, a3, a4] ls = E
  have HE := Lib.hid hE; clear hE
  have H := Lib.hid h
  obtain ⟨hl, a, cap, rfl, hr⟩ := h
  have Hr := Lib.hid hr; clear hr
  unfold vsV
  cases hok : okC ls
  · have HE2 := Lib.hid (HE.out.symm.trans (show runR [a0, a1, a2, a3, a4] ls = .tuple #[.int .i64 0, .bool false, .int .i64 310] by unfold runR; rw [hok]; rfl))
    have HK := Lib.hid (okE_no hok)
    clear hok
    generalize ls.length = n at hl H ⊢
    go_enter Tryd.func14, Tryd.ntmps14
    go_wp2_with fail
    obtain ⟨hbs, hz1, -, -⟩ := runStart w a n cap a0 a1 a2 a3 a4
    generalize ((w.alloc (.cells #[.slice a n cap] 24)).alloc (.cells #[.int .i64 a0, .int .i64 a1, .int .i64 a2, .int .i64 a3, .int .i64 a4] 25)) = wb at hbs hz1 ⊢
    with_reducible refine (refcheck_any _ ls wb (H.out.below hbs)).mono ?_
    rintro e w1 ⟨rfl, hb⟩
    rw [HK.out]
    have HB := Lib.hid (hbs.trans (hb.mono (by omega)))
    clear hb
    go_wp2_with fail
    go_ret3
    exact ⟨by rw [HE2.out]; rfl, HB.out⟩
  · have HE2 := Lib.hid (HE.out.symm.trans (show runR [a0, a1, a2, a3, a4] ls = match runC [a0, a1, a2, a3, a4] ls with
      | some n => .tuple #[.int .i64 n, .bool true, .int .i64 0]
      | none => .tuple #[.int .i64 0, .bool false, .int .i64 0] by unfold runR; rw [hok]; rfl))
    have HK := Lib.hid (okE_yes hok)
    have hin := (okC_parts hok).2
    have Hin := Lib.hid hin
    clear hok hin HE
    generalize hn : ls.length = n at hl H ⊢
    have Hn := Lib.hid hn; clear hn
    go_enter Tryd.func14, Tryd.ntmps14
    go_wp2_with fail
    obtain ⟨hbs, hz1, hk0, hk1⟩ := runStart w a n cap a0 a1 a2 a3 a4
    generalize ((w.alloc (.cells #[.slice a n cap] 24)).alloc (.cells #[.int .i64 a0, .int .i64 a1, .int .i64 a2, .int .i64 a3, .int .i64 a4] 25)) = wb at hbs hz1 hk0 hk1 ⊢
    with_reducible refine (refcheck_any _ ls wb (H.out.below hbs)).mono ?_
    rintro e w1 ⟨rfl, hb⟩
    rw [HK.out]
    have HB0 := Lib.hid (hbs.trans (hb.mono (by omega)))
    replace hk0 : w1.cell? ⟨w.heap.size, 0, none⟩ = some (.slice a n cap) := (hb.cell (p := ⟨w.heap.size, 0, none⟩) (by show w.heap.size < _; omega)).trans hk0
    replace hk1 : ∀ j, j < 5 → w1.cell? ⟨w.heap.size + 1, j, none⟩ = some (.int .i64 ([a0, a1, a2, a3, a4].getD j 0)) := fun j hj => (hb.cell (p := ⟨w.heap.size + 1, j, none⟩) (by show w.heap.size + 1 < _; omega)).trans (hk1 j hj)
    have hz0 : w.heap.size + 1 < w1.heap.size := by have := hb.size; omega
    have K0 := Lib.hid hk0
    have K1 := Lib.hid hk1
    clear hb hk0 hk1 hbs hz1
    go_wp2_with fail
    go_loopw [8] (fun iv wr => ∃ i : Nat, iv = .int .i64 i ∧ i ≤ n ∧ Hid (runC [a0, a1, a2, a3, a4] (ls.drop i) = runC [a0, a1, a2, a3, a4] ls) ∧ Hid (Below w1.heap.size w1 wr)) (fun iv _ => n - (intOf iv).toNat)
    case atStart => exact ⟨0, rfl, Nat.zero_le _, rfl, Below.refl _ _⟩
    case round =>
      obtain ⟨i, rfl, hi, HA, HB1⟩ := hrel
      obtain ⟨wo, rfl⟩ : ∃ wo : World, wo = wr := ⟨_, rfl⟩
      have HB := Lib.hid (HB0.out.trans (HB1.out.mono (by omega)))
      have cB := (HB1.out.cell (p := ⟨w.heap.size, 0, none⟩) (by show w.heap.size < _; omega)).trans K0.out
      have hlw := Nat.lt_of_lt_of_le hz0 HB1.out.size
      by_cases hlt : i < n
      · have hil : i < ls.length := by rw [Hn.out]; exact hlt
        obtain ⟨b, o, rfl, hbl, hln⟩ := Hr.out i hil
        have hbw1 : b < w1.heap.size := by omega
        have Hln := Lib.hid (hln.below HB0.out hbl)
        have HX := Lib.hid (show ls[i].conds.all (holdsCd [a0, a1, a2, a3, a4]) = false → runC [a0, a1, a2, a3, a4] (ls.drop (i + 1)) = runC [a0, a1, a2, a3, a4] ls from fun h => by rw [← HA.out, runC_skip hil h])
        have HX2 := Lib.hid (show ls[i].conds.all (holdsCd [a0, a1, a2, a3, a4]) = true → runC [a0, a1, a2, a3, a4] ls = some ls[i].set from fun h => by rw [← HA.out, runC_hit hil h])
        have Hok := Lib.hid (okLn_parts (Hin.out _ (List.getElem_mem hil))).2.2
        obtain ⟨_, _, ⟨hml, _⟩, _⟩ := id hln
        clear hln HA
        generalize ls[i] = x at *
        obtain ⟨cds, st⟩ := x
        dsimp only at hml
        generalize hm : cds.length = m at hml
        have Hm := Lib.hid hm; clear hm
        go_wp2
        go_loopw [9, 10] (fun av kv wk => ∃ (A : Bool) (k : Nat), av = .bool A ∧ kv = .int .i64 k ∧ k ≤ m ∧ Hid (A = (cds.take k).all (holdsCd [a0, a1, a2, a3, a4])) ∧ Hid (Below wo.heap.size wo wk)) (fun _ kv _ => m - (intOf kv).toNat)
        case atStart => exact ⟨true, 0, rfl, rfl, Nat.zero_le _, rfl, Below.refl _ _⟩
        case round =>
          obtain ⟨A, k, rfl, rfl, hk, HC, HBk⟩ := hrel
          clear cB
          have HB2 := Lib.hid (HB1.out.trans (HBk.out.mono HB1.out.size))
          have cB := (HB2.out.cell (p := ⟨w.heap.size, 0, none⟩) (by show w.heap.size < _; omega)).trans K0.out
          have hlk := Nat.lt_of_lt_of_le hz0 HB2.out.size
          obtain ⟨vc, c0, ⟨_, ac, capc, hvc, hcr⟩, c1⟩ := Hln.out.below HB2.out hbw1
          have hbk := Nat.lt_of_lt_of_le hbw1 HB2.out.size
          dsimp only at hvc hcr c1
          rw [Hm.out] at hvc
          subst hvc
          have Hcr := Lib.hid hcr; clear hcr
          by_cases hkt : k < m
          · have hkl : k < cds.length := by rw [Hm.out]; exact hkt
            obtain ⟨b2, o2, rfl, hb2, d0, d1, d2⟩ := Hcr.out k hkl
            have hy := okCd_parts (Hok.out _ (List.getElem_mem hkl))
            have HA1 := Lib.hid (all_take_succ (f := holdsCd [a0, a1, a2, a3, a4]) hkl)
            have Hat := Lib.hid (fun j => holdsCd_at a0 a1 a2 a3 a4 cds[k] j)
            generalize cds[k] = y at *
            obtain ⟨yv, yo, yn⟩ := y
            dsimp only at d0 d1 d2 hy
            obtain ⟨j, hj⟩ : ∃ j : Nat, yv = (j : Int) := ⟨yv.toNat, by omega⟩
            subst hj
            have hj5 : j < 5 := by omega
            have hj6 : (j : Int) < 5 := by omega
            have e0 := (HB2.out.cell (p := ⟨w.heap.size + 1, j, none⟩) hz0).trans (K1.out j hj5)
            have hat := Hat.out j rfl
            dsimp only at hat
            have hsucc := HA1.out
            rw [hat, ← HC.out] at hsucc
            generalize [a0, a1, a2, a3, a4].getD j 0 = av at e0 hsucc
            have Hs := Lib.hid hsucc
            have Hh := Lib.hid (fun W => holds_any ⟨(j : Int), yo, yn⟩ av W)
            clear hy hat hsucc Hat HA1
            cases A
            · go_wp2_with fail
              go_quiet (fail)
              go_wp2
              exact ⟨⟨false, k + 1, rfl, by go_num, by omega, Hs.out.symm, below_drewN (HBk.out.alloc HBk.out.size _) _⟩, by simp [intOf]; omega⟩
            · go_wp2_with fail
              go_region_law (go_simp; go_at_call 32; refine (Hh.out _).mono ?_; rintro e w2 ⟨rfl, hbb⟩)
              all_goals
                have HB5 := Lib.hid ((HBk.out.alloc HBk.out.size (.cells #[.int .i64 (j : Int), .int .i64 yo, .int .i64 yn] 50)).drew.trans (hbb.mono (Nat.le_trans HBk.out.size (by simp))))
                go_wp2
                exact ⟨⟨_, k + 1, rfl, by go_num, by omega, Hs.out.symm, HB5.out⟩, by simp [intOf]; omega⟩
          · have hall := HC.out.trans (all_take_end (f := holdsCd [a0, a1, a2, a3, a4]) (by rw [Hm.out]; omega))
            clear HC
            cases A
            · have HF := Lib.hid (HX.out hall.symm)
              clear hall
              go_wp2
              exact ⟨⟨i + 1, by go_num, by omega, HF.out, HB2.out⟩, by simp [intOf]; omega⟩
            · have HF := Lib.hid (HE2.out.trans (by rw [HX2.out hall.symm]))
              clear hall
              go_wp2
              go_ret3
              exact ⟨congrArg _ HF.out.symm, HB0.out.trans (HB2.out.mono (by omega))⟩
      · go_wp2
        go_ret3
        have hin : i = n := by omega
        exact ⟨by rw [HE2.out, ← HA.out, runC_end (by rw [Hn.out]; exact hin)]; rfl, HB.out⟩

end Go.Proofs.YtlaifodlnolndaaDoor

/- Running a gate program: the program's conditions. -/
namespace Go.Proofs.YtlaifodlnolndaaDoor
open Go.RowKit

set_option maxHeartbeats 400000 in
theorem cmp1_any (a b : Int) (w : World) : Calls Tryd.prog 66 #[.int .i64 a, .int .i64 b] w fun e w' => e = .returned (.bool (holdsB 1 a b)) ∧ w = w' := by
  go_enter Tryd.func66, Tryd.ntmps66
  go_wp2
  go_ret
  exact ⟨rfl, rfl⟩
set_option maxHeartbeats 400000 in
theorem cmp2_any (a b : Int) (w : World) : Calls Tryd.prog 67 #[.int .i64 a, .int .i64 b] w fun e w' => e = .returned (.bool (holdsB 2 a b)) ∧ w = w' := by
  go_enter Tryd.func67, Tryd.ntmps67
  go_wp2
  go_ret
  exact ⟨rfl, rfl⟩
set_option maxHeartbeats 400000 in
theorem cmp3_any (a b : Int) (w : World) : Calls Tryd.prog 68 #[.int .i64 a, .int .i64 b] w fun e w' => e = .returned (.bool (holdsB 3 a b)) ∧ w = w' := by
  go_enter Tryd.func68, Tryd.ntmps68
  go_wp2
  go_ret
  exact ⟨ret_bool (by rw [Bool.eq_iff_iff]; simp [holdsB]), rfl⟩
set_option maxHeartbeats 400000 in
theorem cmp4_any (a b : Int) (w : World) : Calls Tryd.prog 69 #[.int .i64 a, .int .i64 b] w fun e w' => e = .returned (.bool (holdsB 4 a b)) ∧ w = w' := by
  go_enter Tryd.func69, Tryd.ntmps69
  go_wp2
  go_ret
  exact ⟨rfl, rfl⟩
set_option maxHeartbeats 400000 in
theorem cmp5_any (a b : Int) (w : World) : Calls Tryd.prog 70 #[.int .i64 a, .int .i64 b] w fun e w' => e = .returned (.bool (holdsB 5 a b)) ∧ w = w' := by
  go_enter Tryd.func70, Tryd.ntmps70
  go_wp2
  go_ret
  exact ⟨rfl, rfl⟩

/- the operators' functions, and the variables, in their boxes -/
def opsL : Array Value := #[.nilFunc, .func (.func 66) #[] #[], .func (.func 67) #[] #[], .func (.func 68) #[] #[], .func (.func 69) #[] #[], .func (.func 70) #[] #[]]
def OpsAt (w : World) (b : Nat) : Prop := w.heap[b]? = some (.cells opsL 93 (0, 0))
def VarsAt (w : World) (b : Nat) (a0 a1 a2 a3 a4 : Int) : Prop := ∀ j, j < 5 → w.cell? ⟨b, j, none⟩ = some (.int .i64 ([a0, a1, a2, a3, a4].getD j 0))
theorem OpsAt.cells {w : World} {b : Nat} (h : OpsAt w b) : w.cell? ⟨b, 1, none⟩ = some (.func (.func 66) #[] #[]) ∧ w.cell? ⟨b, 2, none⟩ = some (.func (.func 67) #[] #[]) ∧ w.cell? ⟨b, 3, none⟩ = some (.func (.func 68) #[] #[]) ∧
    w.cell? ⟨b, 4, none⟩ = some (.func (.func 69) #[] #[]) ∧ w.cell? ⟨b, 5, none⟩ = some (.func (.func 70) #[] #[]) := by
  unfold OpsAt at h
  refine ⟨?_, ?_, ?_, ?_, ?_⟩ <;> simp [World.cell?, h, opsL]
theorem OpsAt.lt {w : World} {b : Nat} (h : OpsAt w b) : b < w.heap.size := (Array.getElem?_eq_some_iff.1 h).1
theorem OpsAt.below {B : Nat} {w w' : World} {b : Nat} (h : OpsAt w b) (hb : Below B w w') (hlt : b < B) : OpsAt w' b := (hb.block b hlt).trans h
theorem VarsAt.below {B : Nat} {w w' : World} {b : Nat} {a0 a1 a2 a3 a4 : Int} (h : VarsAt w b a0 a1 a2 a3 a4) (hb : Below B w w') (hlt : b < B) : VarsAt w' b a0 a1 a2 a3 a4 := fun j hj => (hb.cell (p := ⟨b, j, none⟩) hlt).trans (h j hj)

set_option maxRecDepth 100000 in
set_option maxHeartbeats 2000000 in
theorem fails_any (c : Cd) (bo bv : Nat) (a0 a1 a2 a3 a4 : Int) (w : World) (hc : okCd c = true) (ho : OpsAt w bo) (hv : VarsAt w bv a0 a1 a2 a3 a4) (hbv : bv < w.heap.size) :
    Calls Tryd.prog 53 #[.agg #[.int .i64 c.v, .int .i64 c.op, .int .i64 c.n], .pointer (some ⟨bo, 0, none⟩), .pointer (some ⟨bv, 0, none⟩)] w
      fun e w' => e = .returned (.bool (!holdsCd [a0, a1, a2, a3, a4] c)) ∧ Below w.heap.size w w' := by
  have hlt := ho.lt
  obtain ⟨⟨v0, v4⟩, ⟨o1, o5⟩, _⟩ := okCd_parts hc
  obtain ⟨v, op, n⟩ := c
  dsimp only at v0 v4 o1 o5 ⊢
  obtain ⟨j, rfl⟩ : ∃ j : Nat, v = (j : Int) := ⟨v.toNat, by omega⟩
  have hj5 : j < 5 := by omega
  have hj6 : (j : Int) < 5 := by omega
  rw [holdsCd_at a0 a1 a2 a3 a4 ⟨(j : Int), op, n⟩ j rfl]
  dsimp only
  have e0 := hv j hj5
  generalize [a0, a1, a2, a3, a4].getD j 0 = av at e0 ⊢
  obtain ⟨f1, f2, f3, f4, f5⟩ := ho.cells
  clear ho hv hc
  rcases op_cases o1 o5 with rfl | rfl | rfl | rfl | rfl
  · generalize hr : holdsB 1 av n = r
    have Hc := Lib.hid (fun W => cmp1_any av n W)
    rw [hr] at Hc
    clear hr
    go_enter Tryd.func53, Tryd.ntmps53
    go_wp2_with fail
    go_quiet ((go_at_call 66; exact Calls.quiet_of_same ((Hc.out _).mono fun _ _ h => ⟨h.1, h.2.symm⟩)))
    go_wp2
    go_ret
    exact ⟨rfl, below_drewN ((Below.refl _ _).alloc (Nat.le_refl _) _) _⟩
  · generalize hr : holdsB 2 av n = r
    have Hc := Lib.hid (fun W => cmp2_any av n W)
    rw [hr] at Hc
    clear hr
    go_enter Tryd.func53, Tryd.ntmps53
    go_wp2_with fail
    go_quiet ((go_at_call 67; exact Calls.quiet_of_same ((Hc.out _).mono fun _ _ h => ⟨h.1, h.2.symm⟩)))
    go_wp2
    go_ret
    exact ⟨rfl, below_drewN ((Below.refl _ _).alloc (Nat.le_refl _) _) _⟩
  · generalize hr : holdsB 3 av n = r
    have Hc := Lib.hid (fun W => cmp3_any av n W)
    rw [hr] at Hc
    clear hr
    go_enter Tryd.func53, Tryd.ntmps53
    go_wp2_with fail
    go_quiet ((go_at_call 68; exact Calls.quiet_of_same ((Hc.out _).mono fun _ _ h => ⟨h.1, h.2.symm⟩)))
    go_wp2
    go_ret
    exact ⟨rfl, below_drewN ((Below.refl _ _).alloc (Nat.le_refl _) _) _⟩
  · generalize hr : holdsB 4 av n = r
    have Hc := Lib.hid (fun W => cmp4_any av n W)
    rw [hr] at Hc
    clear hr
    go_enter Tryd.func53, Tryd.ntmps53
    go_wp2_with fail
    go_quiet ((go_at_call 69; exact Calls.quiet_of_same ((Hc.out _).mono fun _ _ h => ⟨h.1, h.2.symm⟩)))
    go_wp2
    go_ret
    exact ⟨rfl, below_drewN ((Below.refl _ _).alloc (Nat.le_refl _) _) _⟩
  · generalize hr : holdsB 5 av n = r
    have Hc := Lib.hid (fun W => cmp5_any av n W)
    rw [hr] at Hc
    clear hr
    go_enter Tryd.func53, Tryd.ntmps53
    go_wp2_with fail
    go_quiet ((go_at_call 70; exact Calls.quiet_of_same ((Hc.out _).mono fun _ _ h => ⟨h.1, h.2.symm⟩)))
    go_wp2
    go_ret
    exact ⟨rfl, below_drewN ((Below.refl _ _).alloc (Nat.le_refl _) _) _⟩

/- the first condition that fails -/
theorem all_from {xs : List Cd} {f : Cd → Bool} {k : Nat} (hk : k < xs.length) (h : f xs[k] = false) : xs.all f = false := by
  rw [Bool.eq_false_iff]; intro hc
  rw [List.all_eq_true] at hc
  have := hc _ (List.getElem_mem hk)
  rw [h] at this; cases this
theorem all_mk {xs : List Cd} {f : Cd → Bool} (h : ∀ k (hk : k < xs.length), f xs[k] = true) : xs.all f = true := by
  rw [List.all_eq_true]
  intro c hc
  obtain ⟨k, hk, rfl⟩ := List.getElem_of_mem hc
  exact h k hk

set_option maxRecDepth 100000 in
set_option maxHeartbeats 2000000 in
theorem indexf_any (v : Value) (cs : List Cd) (bo bv : Nat) (a0 a1 a2 a3 a4 : Int) (w : World) (h : IsCds w v cs) (hok : ∀ c ∈ cs, okCd c = true) (ho : OpsAt w bo) (hv : VarsAt w bv a0 a1 a2 a3 a4) (hbv : bv < w.heap.size) :
    Calls Tryd.prog 71 #[v, .func (.func 53) #[] #[.pointer (some ⟨bo, 0, none⟩), .pointer (some ⟨bv, 0, none⟩)]] w
      fun e w' => ∃ n : Int, e = .returned (.int .i64 n) ∧ decide (0 ≤ n) = !cs.all (holdsCd [a0, a1, a2, a3, a4]) ∧ Below w.heap.size w w' := by
  obtain ⟨hl, a, cap, rfl, hr⟩ := h
  have Hr := Lib.hid hr; clear hr
  have Hok := Lib.hid hok; clear hok
  have Ho := Lib.hid ho
  have hlo := ho.lt
  have Hv := Lib.hid hv
  clear ho hv
  generalize hE : cs.all (holdsCd [a0, a1, a2, a3, a4]) = E
  have HE := Lib.hid hE; clear hE
  generalize hn : cs.length = n at hl ⊢
  have Hn := Lib.hid hn; clear hn
  go_enter Tryd.func71, Tryd.ntmps71
  go_wp2
  go_loopw [8] (fun iv wr => ∃ i : Nat, iv = .int .i64 i ∧ i ≤ n ∧ Hid (∀ j (h : j < cs.length), j < i → holdsCd [a0, a1, a2, a3, a4] cs[j] = true) ∧ Hid (Below w.heap.size w wr)) (fun iv _ => n - (intOf iv).toNat)
  case atStart => exact ⟨0, rfl, Nat.zero_le _, fun j _ h => by omega, Below.refl _ _⟩
  case round =>
    obtain ⟨i, rfl, hi, HA, HB⟩ := hrel
    by_cases hlt : i < n
    · have hil : i < cs.length := by rw [Hn.out]; exact hlt
      obtain ⟨b, o, rfl, hbl, hcd⟩ := Hr.out i hil
      obtain ⟨d0, d1, d2⟩ := hcd.below HB.out hbl
      have Hf := Lib.hid (fails_any cs[i] bo bv a0 a1 a2 a3 a4 wr (Hok.out _ (List.getElem_mem hil)) (Ho.out.below HB.out hlo) (Hv.out.below HB.out hbv) (Nat.lt_of_lt_of_le hbv HB.out.size))
      have HN := Lib.hid (show holdsCd [a0, a1, a2, a3, a4] cs[i] = false → E = false from fun h => by rw [← HE.out, all_from hil h])
      have HY := Lib.hid (show holdsCd [a0, a1, a2, a3, a4] cs[i] = true → ∀ j (h : j < cs.length), j < i + 1 → holdsCd [a0, a1, a2, a3, a4] cs[j] = true from fun h j hj hji => by
        by_cases e : j = i
        · subst e; exact h
        · exact HA.out j hj (by omega))
      clear hcd HA
      generalize holdsCd [a0, a1, a2, a3, a4] cs[i] = q at Hf HN HY
      generalize cs[i] = y at *
      obtain ⟨yv, yo, yn⟩ := y
      dsimp only at d0 d1 d2 Hf
      cases q
      · go_wp2_with fail
        with_reducible refine Hf.out.mono ?_
        rintro e w1 ⟨rfl, hb⟩
        have HB1 := Lib.hid (HB.out.trans (hb.mono HB.out.size))
        clear hb
        go_wp2
        go_ret
        exact ⟨_, rfl, by rw [HN.out (by simp)]; simp, HB1.out⟩
      · go_wp2_with fail
        with_reducible refine Hf.out.mono ?_
        rintro e w1 ⟨rfl, hb⟩
        have HB1 := Lib.hid (HB.out.trans (hb.mono HB.out.size))
        clear hb
        go_wp2
        exact ⟨⟨i + 1, by go_num, by omega, HY.out (by simp), HB1.out⟩, by simp [intOf]; omega⟩
    · go_wp2
      go_ret
      exact ⟨_, rfl, by rw [← HE.out, all_mk (fun j hj => HA.out j hj (by rw [Hn.out] at hj; omega))]; rfl, HB.out⟩

set_option maxHeartbeats 1000000 in
theorem containsf_any (v : Value) (cs : List Cd) (bo bv : Nat) (a0 a1 a2 a3 a4 : Int) (w : World) (h : IsCds w v cs) (hok : ∀ c ∈ cs, okCd c = true) (ho : OpsAt w bo) (hv : VarsAt w bv a0 a1 a2 a3 a4) (hbv : bv < w.heap.size) :
    Calls Tryd.prog 52 #[v, .func (.func 53) #[] #[.pointer (some ⟨bo, 0, none⟩), .pointer (some ⟨bv, 0, none⟩)]] w
      fun e w' => e = .returned (.bool (!cs.all (holdsCd [a0, a1, a2, a3, a4]))) ∧ Below w.heap.size w w' := by
  have Hi := Lib.hid (indexf_any v cs bo bv a0 a1 a2 a3 a4 w h hok ho hv hbv)
  clear h hok ho hv
  generalize (!cs.all (holdsCd [a0, a1, a2, a3, a4])) = q at *
  go_enter Tryd.func52, Tryd.ntmps52
  go_wp2_with fail
  with_reducible refine Hi.out.mono ?_
  rintro e w1 ⟨n, rfl, hn, hb⟩
  have Hn := Lib.hid hn
  have HB := Lib.hid hb
  clear hn hb
  go_wp2
  all_goals
    go_ret
    exact ⟨ret_bool (by rw [← Hn.out]), HB.out⟩

end Go.Proofs.YtlaifodlnolndaaDoor

/- Texts Ga Gb Gc in one: each says what it proves. -/
import Derived.Test.YtlaifodlnolndaaGreatDoorMe
import Derived.Test.YtlaifodlnolndaaGreatDoorMd
/- Gate programs in memory; Check, the program's and the document's. -/
namespace Go.Proofs.YtlaifodlnolndaaGreatDoor
open Go.RowKit

/- how a gate program lies in memory -/
def CdAt (w : World) (b o : Nat) (c : Cd) : Prop :=
  w.cell? ⟨b, o, none⟩ = some (.int .i64 c.v) ∧ w.cell? ⟨b, o + 1, none⟩ = some (.int .i64 c.op) ∧ w.cell? ⟨b, o + 2, none⟩ = some (.int .i64 c.n)
def IsCds (w : World) (v : Value) (cs : List Cd) : Prop :=
  cs.length ≤ 140737488355328 ∧ ∃ a cap, v = .slice a cs.length cap ∧ ∀ i (h : i < cs.length), ∃ b o, a = some ⟨b, o, none⟩ ∧ b < w.heap.size ∧ CdAt w b (o + i * 3) cs[i]
def LnAt (w : World) (b o : Nat) (x : Ln) : Prop :=
  ∃ v, w.cell? ⟨b, o, none⟩ = some v ∧ IsCds w v x.conds ∧ w.cell? ⟨b, o + 1, none⟩ = some (.int .i64 x.set)
def IsLns (w : World) (v : Value) (ls : List Ln) : Prop :=
  ls.length ≤ 140737488355328 ∧ ∃ a cap, v = .slice a ls.length cap ∧ ∀ i (h : i < ls.length), ∃ b o, a = some ⟨b, o, none⟩ ∧ b < w.heap.size ∧ LnAt w b (o + i * 2) ls[i]
theorem CdAt.below {B : Nat} {w w' : World} {b o : Nat} {c : Cd} (h : CdAt w b o c) (hb : Below B w w') (hlt : b < B) : CdAt w' b o c := by
  obtain ⟨h0, h1, h2⟩ := h
  exact ⟨(hb.cell (p := ⟨b, _, none⟩) hlt).trans h0, (hb.cell (p := ⟨b, _, none⟩) hlt).trans h1, (hb.cell (p := ⟨b, _, none⟩) hlt).trans h2⟩
theorem IsCds.below {w w' : World} {v : Value} {cs : List Cd} (h : IsCds w v cs) (hb : Below w.heap.size w w') : IsCds w' v cs := by
  obtain ⟨hl, a, cap, hv, hr⟩ := h
  refine ⟨hl, a, cap, hv, fun i hi => ?_⟩
  obtain ⟨b, o, ha, hlt, hc⟩ := hr i hi
  exact ⟨b, o, ha, Nat.lt_of_lt_of_le hlt hb.size, hc.below hb hlt⟩
theorem LnAt.below {w w' : World} {b o : Nat} {x : Ln} (h : LnAt w b o x) (hb : Below w.heap.size w w') (hlt : b < w.heap.size) : LnAt w' b o x := by
  obtain ⟨v, h0, h1, h2⟩ := h
  exact ⟨v, (hb.cell (p := ⟨b, _, none⟩) hlt).trans h0, h1.below hb, (hb.cell (p := ⟨b, _, none⟩) hlt).trans h2⟩
theorem IsLns.below {w w' : World} {v : Value} {ls : List Ln} (h : IsLns w v ls) (hb : Below w.heap.size w w') : IsLns w' v ls := by
  obtain ⟨hl, a, cap, hv, hr⟩ := h
  refine ⟨hl, a, cap, hv, fun i hi => ?_⟩
  obtain ⟨b, o, ha, hlt, hc⟩ := hr i hi
  exact ⟨b, o, ha, Nat.lt_of_lt_of_le hlt hb.size, hc.below hb hlt⟩

/- Check -/
def withinB (n lo hi : Int) : Bool := decide (lo ≤ n) && decide (n ≤ hi)
def okE (ls : List Ln) : Int := if okC ls then 0 else 310
theorem okE_no {ls : List Ln} (h : okC ls = false) : okE ls = 310 := by unfold okE; rw [h]; rfl
theorem okE_yes {ls : List Ln} (h : okC ls = true) : okE ls = 0 := by unfold okE; rw [h]; rfl
theorem okC_long {ls : List Ln} (h : ¬ ls.length ≤ 64) : okC ls = false := by simp [okC, h]
theorem okC_line {ls : List Ln} {i : Nat} (hi : i < ls.length) (h : okLn ls[i] = false) : okC ls = false := by
  rw [Bool.eq_false_iff]; intro hc
  have := (okC_parts hc).2 _ (List.getElem_mem hi)
  rw [h] at this; cases this
theorem okLn_long {x : Ln} (h : ¬ x.conds.length ≤ 4) : okLn x = false := by simp [okLn, h]
theorem okLn_set {x : Ln} (h : inNum x.set = false) : okLn x = false := by simp [okLn, h]
theorem okLn_cond {x : Ln} {k : Nat} (hk : k < x.conds.length) (h : okCd x.conds[k] = false) : okLn x = false := by
  rw [Bool.eq_false_iff]; intro hc
  have := (okLn_parts hc).2.2 _ (List.getElem_mem hk)
  rw [h] at this; cases this
theorem okLn_mk {x : Ln} (h1 : x.conds.length ≤ 4) (h2 : inNum x.set = true) (h3 : ∀ k (h : k < x.conds.length), okCd x.conds[k] = true) : okLn x = true := by
  simp only [okLn, h2, Bool.and_true, Bool.and_eq_true, decide_eq_true_eq, List.all_eq_true]
  refine ⟨h1, fun c hc => ?_⟩
  obtain ⟨k, hk, rfl⟩ := List.getElem_of_mem hc
  exact h3 k hk
theorem okC_mk {ls : List Ln} (h1 : ls.length ≤ 64) (h3 : ∀ k (h : k < ls.length), okLn ls[k] = true) : okC ls = true := by
  simp only [okC, Bool.and_eq_true, decide_eq_true_eq, List.all_eq_true]
  refine ⟨h1, fun c hc => ?_⟩
  obtain ⟨k, hk, rfl⟩ := List.getElem_of_mem hc
  exact h3 k hk

set_option maxHeartbeats 400000 in
theorem within_any (n lo hi : Int) (w : World) :
    Calls Tryz.prog 24 #[.int .i64 n, .int .i64 lo, .int .i64 hi] w fun e w' => e = .returned (.bool (withinB n lo hi)) ∧ w = w' := by
  go_enter Tryz.func24, Tryz.ntmps24
  go_wp2
  all_goals
    go_ret
    exact ⟨ret_bool (by rw [Bool.eq_iff_iff]; simp [withinB, *]; try omega), rfl⟩
theorem okCd_eq (c : Cd) : okCd c = (withinB c.v 0 4 && (withinB c.op 1 5 && withinB c.n 0 1099511627776)) := rfl
theorem inNum_eq (n : Int) : inNum n = withinB n 0 1099511627776 := rfl

set_option maxRecDepth 100000 in
set_option maxHeartbeats 4000000 in
theorem check_any (v : Value) (ls : List Ln) (w : World) (h : IsLns w v ls) :
    Calls Tryz.prog 10 #[.agg #[v]] w fun e w' => e = .returned (.int .i64 (okE ls)) ∧ Below w.heap.size w w' := by
  obtain ⟨hl, a, cap, rfl, hr⟩ := h
  have Hr := Lib.hid hr; clear hr
  generalize hn : ls.length = n at hl ⊢
  have Hn := Lib.hid hn; clear hn
  generalize hE : okE ls = E
  have HE := Lib.hid hE; clear hE
  by_cases h64 : n ≤ 64
  · go_enter Tryz.func10, Tryz.ntmps10
    go_wp2
    have hB0 : Below w.heap.size w (w.alloc (.cells #[.slice a n cap] 25)) := (Below.refl _ _).alloc (Nat.le_refl _) _
    go_loopw [15] (fun iv wr => ∃ i : Nat, iv = .int .i64 i ∧ i ≤ n ∧ Hid (∀ j (h : j < ls.length), j < i → okLn ls[j] = true) ∧ Hid (Below w.heap.size w wr)) (fun iv _ => n - (intOf iv).toNat)
    case atStart => exact ⟨0, rfl, Nat.zero_le _, fun j _ h => by omega, hB0⟩
    case round =>
      obtain ⟨i, rfl, hi, HA, HB⟩ := hrel
      by_cases hlt : i < n
      · have hil : i < ls.length := by rw [Hn.out]; exact hlt
        obtain ⟨b, o, rfl, hbl, hln⟩ := Hr.out i hil
        obtain ⟨vc, c0, ⟨hcl, ac, capc, rfl, hcr⟩, c1⟩ := hln.below HB.out hbl
        have hbl2 := Nat.lt_of_lt_of_le hbl HB.out.size
        have HX := Lib.hid (show okLn ls[i] = false → E = 310 from fun h => by rw [← HE.out, okE_no (okC_line hil h)])
        have HX2 := Lib.hid (show okLn ls[i] = true → ∀ j (h : j < ls.length), j < i + 1 → okLn ls[j] = true from fun h j hj hji => by
          by_cases e : j = i
          · subst e; exact h
          · exact HA.out j hj (by omega))
        clear hln HA
        generalize ls[i] = x at *
        obtain ⟨cds, st⟩ := x
        dsimp only at c0 c1 hcl hcr
        have Hcr := Lib.hid hcr; clear hcr
        generalize hm : cds.length = m at hcl c0
        have Hm := Lib.hid hm; clear hm
        by_cases h4 : m ≤ 4
        · generalize hs : withinB st 0 1099511627776 = sb
          cases sb
          · go_wp2_with (first | (go_at_call 24; refine (within_any _ _ _ _).mono ?_; rintro e w' ⟨rfl, rfl⟩))
            go_ret
            exact ⟨ret_int (HX.out (okLn_set (by rw [inNum_eq]; exact hs))).symm, HB.out.alloc HB.out.size _⟩
          · go_wp2_with (first | (go_at_call 24; refine (within_any _ _ _ _).mono ?_; rintro e w' ⟨rfl, rfl⟩))
            have HB2 := Lib.hid ((Below.refl wr.heap.size wr).alloc (Nat.le_refl _) (.cells #[.slice ac m capc, .int .i64 st] 35))
            generalize (wr.alloc (.cells #[.slice ac m capc, .int .i64 st] 35)) = wi at HB2 ⊢
            go_loopw [33] (fun kv wk => ∃ k : Nat, kv = .int .i64 k ∧ k ≤ m ∧ Hid (∀ j (h : j < cds.length), j < k → okCd cds[j] = true) ∧ Hid (Below wr.heap.size wr wk)) (fun kv _ => m - (intOf kv).toNat)
            case atStart => exact ⟨0, rfl, Nat.zero_le _, fun j _ h => by omega, HB2⟩
            case round =>
              obtain ⟨k, rfl, hk, HC, HBk⟩ := hrel
              clear HB2
              by_cases hkt : k < m
              · have hkl : k < cds.length := by rw [Hm.out]; exact hkt
                obtain ⟨b2, o2, rfl, hb2, hcd⟩ := Hcr.out k hkl
                obtain ⟨d0, d1, d2⟩ := hcd.below HBk.out hb2
                have hb3 := Nat.lt_of_lt_of_le hb2 HBk.out.size
                have HY := Lib.hid (show okCd cds[k] = false → E = 310 from fun h => HX.out (okLn_cond (x := ⟨cds, st⟩) hkl h))
                have HY2 := Lib.hid (show okCd cds[k] = true → ∀ j (h : j < cds.length), j < k + 1 → okCd cds[j] = true from fun h j hj hjk => by
                  by_cases e : j = k
                  · subst e; exact h
                  · exact HC.out j hj (by omega))
                clear hcd HC
                generalize cds[k] = y at *
                obtain ⟨yv, yo, yn⟩ := y
                dsimp only at d0 d1 d2
                generalize h1 : withinB yv 0 4 = q1
                generalize h2 : withinB yo 1 5 = q2
                generalize h3 : withinB yn 0 1099511627776 = q3
                have hy : okCd ⟨yv, yo, yn⟩ = (q1 && (q2 && q3)) := by rw [okCd_eq]; simp only [h1, h2, h3]
                have Hy := Lib.hid hy; clear hy
                cases q1
                · go_wp2_with (first | (go_at_call 24; refine (within_any _ _ _ _).mono ?_; rintro e w' ⟨rfl, rfl⟩))
                  go_ret
                  exact ⟨ret_int (HY.out Hy.out).symm, (HB.out.trans (HBk.out.mono HB.out.size)).alloc (Nat.le_trans HB.out.size HBk.out.size) _⟩
                · cases q2
                  · go_wp2_with (first | (go_at_call 24; refine (within_any _ _ _ _).mono ?_; rintro e w' ⟨rfl, rfl⟩))
                    go_ret
                    exact ⟨ret_int (HY.out Hy.out).symm, (HB.out.trans (HBk.out.mono HB.out.size)).alloc (Nat.le_trans HB.out.size HBk.out.size) _⟩
                  · cases q3
                    · go_wp2_with (first | (go_at_call 24; refine (within_any _ _ _ _).mono ?_; rintro e w' ⟨rfl, rfl⟩))
                      go_ret
                      exact ⟨ret_int (HY.out Hy.out).symm, (HB.out.trans (HBk.out.mono HB.out.size)).alloc (Nat.le_trans HB.out.size HBk.out.size) _⟩
                    · go_wp2_with (first | (go_at_call 24; refine (within_any _ _ _ _).mono ?_; rintro e w' ⟨rfl, rfl⟩))
                      exact ⟨⟨k + 1, by go_num, by omega, HY2.out Hy.out, HBk.out.alloc HBk.out.size _⟩, by simp [intOf]; omega⟩
              · go_wp2
                have hkm : k = m := by omega
                have hok : okLn ⟨cds, st⟩ = true := okLn_mk (by rw [Hm.out]; exact h4) (by rw [inNum_eq]; exact hs) (fun j hj => HC.out j hj (by rw [Hm.out] at hj; omega))
                exact ⟨⟨i + 1, by go_num, by omega, HX2.out hok, HB.out.trans (HBk.out.mono HB.out.size)⟩, by simp [intOf]; omega⟩
        · go_wp2
          go_ret
          exact ⟨ret_int (HX.out (okLn_long (by rw [Hm.out]; exact h4))).symm, HB.out.alloc HB.out.size _⟩
      · go_wp2
        go_ret
        exact ⟨ret_int (by rw [← HE.out, okE_yes (okC_mk (by rw [Hn.out]; exact h64) (fun j hj => HA.out j hj (by rw [Hn.out] at hj; omega)))]), HB.out⟩
  · go_enter Tryz.func10, Tryz.ntmps10
    go_wp2
    go_ret
    exact ⟨ret_int (by rw [← HE.out, okE_no (okC_long (by rw [Hn.out]; exact h64))]), (Below.refl _ _).alloc (Nat.le_refl _) _⟩

end Go.Proofs.YtlaifodlnolndaaGreatDoor

/- Check of the document; Few. -/
namespace Go.Proofs.YtlaifodlnolndaaGreatDoor
open Go.RowKit

theorem boxed {w : World} {v : Value} {t : TypeId} : (w.alloc (.cells #[v] t)).cell? ⟨w.heap.size, 0, none⟩ = some v := by simp [go_sem]
def okV (n : Int) : Bool := decide (0 ≤ n) && decide (n ≤ 4)
def okO (n : Int) : Bool := decide (1 ≤ n) && decide (n ≤ 5)
theorem okCd_eq2 (c : Cd) : okCd c = (okV c.v && (okO c.op && inNum c.n)) := rfl
theorem boxed2 {w : World} {v u : Value} {t : TypeId} : (w.alloc (.cells #[v, u] t)).cell? ⟨w.heap.size, 0, none⟩ = some v ∧ (w.alloc (.cells #[v, u] t)).cell? ⟨w.heap.size, 1, none⟩ = some u := by simp [go_sem]

end Go.Proofs.YtlaifodlnolndaaGreatDoor

/- Few and Same of the document. -/
namespace Go.Proofs.YtlaifodlnolndaaGreatDoor
open Go.RowKit

def fewC (ls : List Ln) : Bool := decide (ls.length ≤ 100) && ls.all fun x => decide (x.conds.length ≤ 20)
theorem few_long {ls : List Ln} (h : ¬ ls.length ≤ 100) : fewC ls = false := by simp [fewC, h]
theorem few_line {ls : List Ln} {i : Nat} (hi : i < ls.length) (h : ¬ ls[i].conds.length ≤ 20) : fewC ls = false := by
  rw [Bool.eq_false_iff]; intro hc
  simp only [fewC, Bool.and_eq_true, List.all_eq_true, decide_eq_true_eq] at hc
  exact h (hc.2 _ (List.getElem_mem hi))
theorem few_mk {ls : List Ln} (h1 : ls.length ≤ 100) (h3 : ∀ k (h : k < ls.length), ls[k].conds.length ≤ 20) : fewC ls = true := by
  simp only [fewC, Bool.and_eq_true, decide_eq_true_eq, List.all_eq_true]
  refine ⟨h1, fun c hc => ?_⟩
  obtain ⟨k, hk, rfl⟩ := List.getElem_of_mem hc
  exact h3 k hk

/- Same -/
theorem sameCds_step {xs ys : List Cd} {k : Nat} (hx : k < xs.length) (hy : k < ys.length) : sameCds (xs.drop k) (ys.drop k) = (sameCd xs[k] ys[k] && sameCds (xs.drop (k + 1)) (ys.drop (k + 1))) := by
  rw [List.drop_eq_getElem_cons hx, List.drop_eq_getElem_cons hy, sameCds]
theorem sameCds_len : ∀ {xs ys : List Cd}, xs.length ≠ ys.length → sameCds xs ys = false
  | [], [], h => (h rfl).elim
  | [], _ :: _, _ => rfl
  | _ :: _, [], _ => rfl
  | _ :: r, _ :: q, h => by
    rw [sameCds, sameCds_len (by simpa using h)]; simp
theorem sameC_step {xs ys : List Ln} {k : Nat} (hx : k < xs.length) (hy : k < ys.length) : sameC (xs.drop k) (ys.drop k) = (sameLn xs[k] ys[k] && sameC (xs.drop (k + 1)) (ys.drop (k + 1))) := by
  rw [List.drop_eq_getElem_cons hx, List.drop_eq_getElem_cons hy, sameC]
theorem sameC_len : ∀ {xs ys : List Ln}, xs.length ≠ ys.length → sameC xs ys = false
  | [], [], h => (h rfl).elim
  | [], _ :: _, _ => rfl
  | _ :: _, [], _ => rfl
  | _ :: r, _ :: q, h => by
    rw [sameC, sameC_len (by simpa using h)]; simp
theorem sameCds_end {xs ys : List Cd} (hl : xs.length = ys.length) {k : Nat} (hk : k = xs.length) : sameCds (xs.drop k) (ys.drop k) = true := by
  subst hk
  rw [List.drop_of_length_le (Nat.le_refl _), List.drop_of_length_le (by omega)]; rfl
theorem sameC_end {xs ys : List Ln} (hl : xs.length = ys.length) {k : Nat} (hk : k = xs.length) : sameC (xs.drop k) (ys.drop k) = true := by
  subst hk
  rw [List.drop_of_length_le (Nat.le_refl _), List.drop_of_length_le (by omega)]; rfl

set_option maxRecDepth 100000 in
set_option maxHeartbeats 8000000 in
theorem same_any (v1 v2 : Value) (ls ms : List Ln) (w : World) (h1 : IsLns w v1 ls) (h2 : IsLns w v2 ms) :
    Calls Tryz.prog 7 #[.agg #[v1], .agg #[v2]] w fun e w' => e = .returned (.bool (sameC ls ms)) ∧ Below w.heap.size w w' := by
  obtain ⟨hl1, a1, cap1, rfl, hr1⟩ := h1
  obtain ⟨hl2, a2, cap2, rfl, hr2⟩ := h2
  have Hr1 := Lib.hid hr1; clear hr1
  have Hr2 := Lib.hid hr2; clear hr2
  generalize hE : sameC ls ms = E
  have HE := Lib.hid hE; clear hE
  by_cases hll : ls.length = ms.length
  · generalize hn2 : ms.length = n2 at hl2 hll ⊢
    have Hn2 := Lib.hid hn2; clear hn2
    subst hll
    generalize hn : ls.length = n at hl1 Hn2 ⊢
    have Hn := Lib.hid hn; clear hn
    go_enter Tryz.func7, Tryz.ntmps7
    go_wp2
    have hB0 : Below w.heap.size w ((w.alloc (.cells #[.slice a1 n cap1] 25)).alloc (.cells #[.slice a2 n cap2] 25)) := ((Below.refl _ _).alloc (Nat.le_refl _) _).alloc (by simp) _
    have hc0 : ((w.alloc (.cells #[.slice a1 n cap1] 25)).alloc (.cells #[.slice a2 n cap2] 25)).cell? ⟨w.heap.size, 0, none⟩ = some (.slice a1 n cap1) := by simp [go_sem]
    have hc1 : ((w.alloc (.cells #[.slice a1 n cap1] 25)).alloc (.cells #[.slice a2 n cap2] 25)).cell? ⟨w.heap.size + 1, 0, none⟩ = some (.slice a2 n cap2) := by simp [go_sem]
    have hz0 : w.heap.size + 1 < ((w.alloc (.cells #[.slice a1 n cap1] 25)).alloc (.cells #[.slice a2 n cap2] 25)).heap.size := by simp
    generalize ((w.alloc (.cells #[.slice a1 n cap1] 25)).alloc (.cells #[.slice a2 n cap2] 25)) = w1 at hB0 hc0 hc1 hz0 ⊢
    have H0 := Lib.hid hc0
    have H1 := Lib.hid hc1
    have HB0 := Lib.hid hB0
    clear hc0 hB0 hc1
    go_loopw [5] (fun iv wr => ∃ i : Nat, iv = .int .i64 i ∧ i ≤ n ∧ Hid (sameC (ls.drop i) (ms.drop i) = E) ∧ Hid (Below w1.heap.size w1 wr)) (fun iv _ => n - (intOf iv).toNat)
    case atStart => exact ⟨0, rfl, Nat.zero_le _, HE.out, Below.refl _ _⟩
    case round =>
      obtain ⟨i, rfl, hi, HA, HB1⟩ := hrel
      obtain ⟨wo, rfl⟩ : ∃ wo : World, wo = wr := ⟨_, rfl⟩
      have HB := Lib.hid (HB0.out.trans (HB1.out.mono (by omega)))
      have cB := (HB1.out.cell (p := ⟨w.heap.size, 0, none⟩) (by show w.heap.size < _; omega)).trans H0.out
      have cB2 := (HB1.out.cell (p := ⟨w.heap.size + 1, 0, none⟩) hz0).trans H1.out
      have hlw := Nat.lt_of_lt_of_le hz0 HB1.out.size
      by_cases hlt : i < n
      · have hil : i < ls.length := by rw [Hn.out]; exact hlt
        have him : i < ms.length := by rw [Hn2.out]; exact hlt
        obtain ⟨b1, o1, rfl, hb1, hln1⟩ := Hr1.out i hil
        obtain ⟨b2, o2, rfl, hb2, hln2⟩ := Hr2.out i him
        obtain ⟨vc1, c0, ⟨hcl1, ac1, capc1, rfl, hcr1⟩, c1⟩ := hln1.below HB.out hb1
        obtain ⟨vc2, e0, ⟨hcl2, ac2, capc2, rfl, hcr2⟩, e1⟩ := hln2.below HB.out hb2
        have hbl1 := Nat.lt_of_lt_of_le hb1 HB.out.size
        have hbl2 := Nat.lt_of_lt_of_le hb2 HB.out.size
        have hstep := (sameC_step hil him).symm.trans HA.out
        clear hln1 hln2 HA
        generalize ls[i] = x at *
        generalize ms[i] = y at *
        obtain ⟨xc, xs⟩ := x
        obtain ⟨yc, ys⟩ := y
        dsimp only at c0 c1 hcl1 hcr1 e0 e1 hcl2 hcr2
        have Hcr1 := Lib.hid hcr1; clear hcr1
        have Hcr2 := Lib.hid hcr2; clear hcr2
        have hst : ((xs == ys) && sameCds xc yc) = false → E = false := fun h => by rw [← hstep]; unfold sameLn; dsimp only; rw [h]; rfl
        have hst2 : ((xs == ys) && sameCds xc yc) = true → sameC (ls.drop (i + 1)) (ms.drop (i + 1)) = E := fun h => by rw [← hstep]; unfold sameLn; dsimp only; rw [h]; rfl
        have Hst := Lib.hid hst; clear hst
        have Hst2 := Lib.hid hst2; clear hst2 hstep
        by_cases hs : xs = ys
        · subst hs
          have d0 : (xs != xs) = false := by simp
          by_cases hlen : xc.length = yc.length
          · generalize hm2 : yc.length = m2 at hlen hcl2 e0
            have Hm2 := Lib.hid hm2; clear hm2
            subst hlen
            generalize hm : xc.length = m at hcl1 hcl2 Hm2 c0 e0
            have Hm := Lib.hid hm; clear hm
            have d1 : ((m : Int) != m) = false := by simp
            go_wp2
            have HB2 := Lib.hid (((Below.refl wo.heap.size wo).alloc (Nat.le_refl _) (.cells #[.slice ac1 m capc1, .int .i64 xs] 35)).alloc (by simp) (.cells #[.slice ac2 m capc2, .int .i64 xs] 35))
            have HB3 := Lib.hid ((HB1.out.alloc HB1.out.size (.cells #[.slice ac1 m capc1, .int .i64 xs] 35)).alloc (by have := HB1.out.size; simp; omega) (.cells #[.slice ac2 m capc2, .int .i64 xs] 35))
            have hk0 : ((wo.alloc (.cells #[.slice ac1 m capc1, .int .i64 xs] 35)).alloc (.cells #[.slice ac2 m capc2, .int .i64 xs] 35)).cell? ⟨wo.heap.size, 0, none⟩ = some (.slice ac1 m capc1) := by simp [go_sem]
            have hk1 : ((wo.alloc (.cells #[.slice ac1 m capc1, .int .i64 xs] 35)).alloc (.cells #[.slice ac2 m capc2, .int .i64 xs] 35)).cell? ⟨wo.heap.size + 1, 0, none⟩ = some (.slice ac2 m capc2) := by simp [go_sem]
            have hz1 : wo.heap.size + 1 < ((wo.alloc (.cells #[.slice ac1 m capc1, .int .i64 xs] 35)).alloc (.cells #[.slice ac2 m capc2, .int .i64 xs] 35)).heap.size := by simp
            generalize ((wo.alloc (.cells #[.slice ac1 m capc1, .int .i64 xs] 35)).alloc (.cells #[.slice ac2 m capc2, .int .i64 xs] 35)) = wi at HB2 HB3 hk0 hk1 hz1 ⊢
            have K0 := Lib.hid hk0
            have K1 := Lib.hid hk1
            clear hk0 hk1
            have HC0 := Lib.hid (show sameCds xc yc = true → sameC (ls.drop (i + 1)) (ms.drop (i + 1)) = E from fun h => Hst2.out (by simp [h]))
            have HC1 := Lib.hid (show sameCds xc yc = false → E = false from fun h => Hst.out (by simp [h]))
            clear Hst Hst2
            go_loopw [8] (fun kv wk => ∃ k : Nat, kv = .int .i64 k ∧ k ≤ m ∧ Hid (sameCds (xc.drop k) (yc.drop k) = sameCds xc yc) ∧ Hid (Below wi.heap.size wi wk)) (fun kv _ => m - (intOf kv).toNat)
            case atStart => exact ⟨0, rfl, Nat.zero_le _, rfl, Below.refl _ _⟩
            case round =>
              obtain ⟨k, rfl, hk, HC, HBi⟩ := hrel
              have HBk := Lib.hid (HB2.out.trans (HBi.out.mono (by omega)))
              have cI := (HBi.out.cell (p := ⟨wo.heap.size, 0, none⟩) (by show wo.heap.size < _; omega)).trans K0.out
              have cI2 := (HBi.out.cell (p := ⟨wo.heap.size + 1, 0, none⟩) hz1).trans K1.out
              have hli := Nat.lt_of_lt_of_le hz1 HBi.out.size
              have fin : ∀ W, Below wr.heap.size wr W → Below w.heap.size w W := fun W hW => (HB.out.trans (HBk.out.mono HB.out.size)).trans (hW.mono (Nat.le_trans HB.out.size HBk.out.size))
              have Fin := Lib.hid fin; clear fin
              clear cB cB2 c0 c1 e0 e1
              by_cases hkt : k < m
              · have hkl : k < xc.length := by rw [Hm.out]; exact hkt
                have hkm : k < yc.length := by rw [Hm2.out]; exact hkt
                obtain ⟨b3, o3, rfl, hb3, hcd3⟩ := Hcr1.out k hkl
                obtain ⟨b4, o4, rfl, hb4, hcd4⟩ := Hcr2.out k hkm
                obtain ⟨x0, x1, x2⟩ := hcd3.below HBk.out hb3
                obtain ⟨y0, y1, y2⟩ := hcd4.below HBk.out hb4
                have hb3' := Nat.lt_of_lt_of_le hb3 HBk.out.size
                have hb4' := Nat.lt_of_lt_of_le hb4 HBk.out.size
                have hcs := (sameCds_step hkl hkm).symm.trans HC.out
                clear hcd3 hcd4 HC
                generalize xc[k] = p at *
                generalize yc[k] = q at *
                obtain ⟨pv, po, pn⟩ := p
                obtain ⟨qv, qo, qn⟩ := q
                dsimp only at x0 x1 x2 y0 y1 y2
                have hno : sameCd ⟨pv, po, pn⟩ ⟨qv, qo, qn⟩ = false → sameCds xc yc = false := fun h => by rw [← hcs, h]; rfl
                have Hno := Lib.hid (fun h => HC1.out (hno h))
                have Hyes := Lib.hid (show sameCd ⟨pv, po, pn⟩ ⟨qv, qo, qn⟩ = true → sameCds (xc.drop (k + 1)) (yc.drop (k + 1)) = sameCds xc yc from fun h => by rw [← hcs, h]; rfl)
                clear hcs hno
                by_cases ev : pv = qv
                · subst ev
                  by_cases eo : po = qo
                  · subst eo
                    by_cases en : pn = qn
                    · subst en
                      have HY := Lib.hid (Hyes.out (by simp [sameCd]))
                      clear Hyes Hno
                      go_wp2
                      go_quiet (fail)
                      go_wp2
                      exact ⟨⟨k + 1, by go_num, by omega, HY.out, below_drewN HBi.out _⟩, by simp [intOf]; omega⟩
                    · have HN := Lib.hid (Hno.out (by simp [sameCd, en]))
                      clear Hyes Hno
                      go_wp2
                      go_quiet (fail)
                      go_wp2
                      go_ret
                      exact ⟨ret_bool HN.out.symm, Fin.out _ (below_drewN (Below.refl _ _) _)⟩
                  · have HN := Lib.hid (Hno.out (by simp [sameCd, eo]))
                    clear Hyes Hno
                    go_wp2
                    go_quiet (fail)
                    go_wp2
                    go_ret
                    exact ⟨ret_bool HN.out.symm, Fin.out _ (below_drewN (Below.refl _ _) _)⟩
                · have HN := Lib.hid (Hno.out (by simp [sameCd, ev]))
                  clear Hyes Hno
                  go_wp2
                  go_quiet (fail)
                  go_wp2
                  go_ret
                  exact ⟨ret_bool HN.out.symm, Fin.out _ (below_drewN (Below.refl _ _) _)⟩
              · have hkm : k = m := by omega
                have hfin := HC0.out (by rw [← HC.out]; exact sameCds_end (by rw [Hm.out, Hm2.out]) (by rw [Hm.out]; exact hkm))
                have HF := Lib.hid hfin; clear hfin
                go_wp2
                exact ⟨⟨i + 1, by go_num, by omega, HF.out, HB3.out.trans (HBi.out.mono HB3.out.size)⟩, by simp [intOf]; omega⟩
          · have d1 : ((xc.length : Int) != yc.length) = true := by rw [bne_iff_ne]; omega
            have hfin := Hst.out (by rw [sameCds_len hlen]; simp)
            have HF := Lib.hid hfin; clear hfin Hst Hst2
            go_wp2
            go_ret
            exact ⟨ret_bool HF.out.symm, (HB.out.alloc HB.out.size _).alloc (by have := HB.out.size; simp; omega) _⟩
        · have d0 : (xs != ys) = true := by simpa using hs
          have hfin := Hst.out (by rw [beq_eq_false_iff_ne.2 hs]; rfl)
          have HF := Lib.hid hfin; clear hfin Hst Hst2
          go_wp2
          go_ret
          exact ⟨ret_bool HF.out.symm, (HB.out.alloc HB.out.size _).alloc (by have := HB.out.size; simp; omega) _⟩
      · go_wp2
        go_ret
        have hin : i = n := by omega
        exact ⟨ret_bool (by rw [← HA.out, sameC_end (by rw [Hn.out, Hn2.out]) (by rw [Hn.out]; exact hin)]), HB.out⟩
  · have hb : ((ls.length : Int) != ms.length) = true := by rw [bne_iff_ne]; omega
    have hfin := HE.out.symm.trans (sameC_len hll)
    have HF := Lib.hid hfin; clear hfin
    go_enter Tryz.func7, Tryz.ntmps7
    go_wp2
    go_ret
    exact ⟨ret_bool HF.out.symm, ((Below.refl _ _).alloc (Nat.le_refl _) _).alloc (by simp) _⟩

end Go.Proofs.YtlaifodlnolndaaGreatDoor

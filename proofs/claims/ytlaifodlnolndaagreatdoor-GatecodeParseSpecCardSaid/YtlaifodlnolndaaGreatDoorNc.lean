/- PROVED HERE: the tied card of 'acequia/acequialaw31.GatecodeParseSpec': for every input, in every start that meets the row's condition on the listed package variables, the law returns true and each argument reads as it did. Its conditions are the given statement's own (Rows.GatecodeParseSpecCardSaid), none more. -/
import Derived.Test.YtlaifodlnolndaaGreatDoorNb
import Derived.Test.YtlaifodlnolndaaGreatDoorMn
import Derived.Test.YtlaifodlnolndaaGreatDoorMo
import Derived.Test.YtlaifodlnolndaaGreatDoorMd
import Derived.Test.YtlaifodlnolndaaGreatDoorCards
import Derived.SevenTiedAt
import Derived.Carry
/- The document's reader of gate programs: Parse. -/
namespace Go.Proofs.YtlaifodlnolndaaGreatDoor
open Go.RowKit

structure RSt (w : World) (C : Nat) (v : Value) (ts : List Tok) (ls : List Ln) (vl : Value) (wr : World) : Prop where
  below : Below w.heap.size w wr
  res : wr.heap[w.heap.size]? = some (.cells #[.slice none 0 0] 25 (0, 0))
  cod : wr.heap[C]? = some (.cells #[vl] 25 (0, 0))
  is : IsToks wr v ts
  tb : TokB C v ts
  own : OwnLns (C + 1) wr vl ls
  lt : w.heap.size < C
section
variable {w wr w2 : World} {C : Nat} {v vl vl2 : Value} {ts : List Tok} {ls ls2 : List Ln}
theorem RSt.next (h : RSt w C v ts ls vl wr) (hb : Below wr.heap.size wr w2) : RSt w C v ts ls vl w2 :=
  ⟨h.below.trans (hb.mono h.below.size), heap_at h.res hb (Array.getElem?_eq_some_iff.1 h.res).1, heap_at h.cod hb (Array.getElem?_eq_some_iff.1 h.cod).1, h.is.below hb, h.tb, h.own.kept (grownBy_below hb none) (fun q e => by cases e), h.lt⟩
theorem RSt.size (h : RSt w C v ts ls vl wr) : C + 1 ≤ wr.heap.size := (Array.getElem?_eq_some_iff.1 h.cod).1
theorem RSt.cells (h : RSt w C v ts ls vl wr) : wr.cell? ⟨C, 0, none⟩ = some vl ∧ wr.frozen? ⟨C, 0, none⟩ = false ∧ wr.cell? ⟨w.heap.size, 0, none⟩ = some (.slice none 0 0) ∧ wr.frozen? ⟨w.heap.size, 0, none⟩ = false := by
  have h1 := h.cod
  have h2 := h.res
  refine ⟨?_, ?_, ?_, ?_⟩ <;> simp [World.cell?, World.frozen?, h1, h2]
theorem RSt.app_cells (h : RSt w C v ts ls vl wr) (hg : wr.grownBy w2 vl.ownBlock) : w2.cell? ⟨C, 0, none⟩ = some vl ∧ w2.frozen? ⟨C, 0, none⟩ = false := by
  have hb := (hg.block C (Array.getElem?_eq_some_iff.1 h.cod).1 (fun e => by have := (h.own.lt _ e.symm).1; omega)).trans h.cod
  exact ⟨by simp [World.cell?, hb], by simp [World.frozen?, hb]⟩
theorem RSt.append (h : RSt w C v ts ls vl wr) (ho : OwnLns (C + 1) w2 vl2 ls2) (hg : wr.grownBy w2 vl.ownBlock) : RSt w C v ts ls2 vl2 (w2.setCell ⟨C, 0, none⟩ vl2) := by
  have hl := h.lt
  have hc := (hg.block C (Array.getElem?_eq_some_iff.1 h.cod).1 (fun e => by have := (h.own.lt _ e.symm).1; omega)).trans h.cod
  have hr := (hg.block w.heap.size (Array.getElem?_eq_some_iff.1 h.res).1 (fun e => by have := (h.own.lt _ e.symm).1; omega)).trans h.res
  have hb : Below w.heap.size w w2 := h.below.grown hg h.below.size (fun q e => by have := (h.own.lt _ e).1; omega)
  have hz : wr.heap.size ≤ (w2.setCell ⟨C, 0, none⟩ vl2).heap.size := by have := hg.size; simpa using this
  refine ⟨hb.setCell (p := ⟨C, 0, none⟩) (by show w.heap.size ≤ C; omega) _, (heap_setCell_other _ ⟨C, 0, none⟩ _ _ (by show w.heap.size ≠ C; omega)).trans hr, by simp [World.setCell, Array.getElem?_modify, hc], ?_, h.tb, ho.kept (grown_set w2 C 0 vl2) (fun q e => by simp at e; omega), h.lt⟩
  exact h.is.kept1 h.tb h.res hz (fun q h1 h2 h3 => (heap_setCell_other w2 ⟨C, 0, none⟩ q vl2 (by show q ≠ C; omega)).trans (hg.block q h2 (fun e => by have := (h.own.lt _ e.symm).1; omega)))
/- the world in which the result is read -/
theorem RSt.fin (h : RSt w C v ts ls vl wr) (x : Value) : Below w.heap.size w (wr.setCell ⟨w.heap.size, 0, none⟩ x) ∧ OwnLns (C + 1) (wr.setCell ⟨w.heap.size, 0, none⟩ x) vl ls := by
  have := h.lt
  exact ⟨h.below.setCell (p := ⟨w.heap.size, 0, none⟩) (Nat.le_refl _) _, h.own.kept (grown_set wr w.heap.size 0 x) (fun q e => by simp at e; omega)⟩
end

set_option maxRecDepth 100000 in
set_option maxHeartbeats 4000000 in
theorem refparse_err (s : ByteArray) (k : Nat) (h : scan s.data.toList 0 = .error k) (w : World) (hs : s.size ≤ 65536) :
    Calls Tryz.prog 6 #[.string s] w (ParseEnd w ([], (k : Int), 30)) := by
  have HL := Lib.hid (fun w => h ▸ reflex_any s w hs)
  clear h
  go_enter Tryz.func6, Tryz.ntmps6
  go_wp2_with fail
  refine (HL.out _).mono ?_
  rintro e w1 ⟨hb1, rfl⟩
  have hr : w1.heap[w.heap.size]? = some (.cells #[.slice none 0 0] 25 (0, 0)) := heap_at (heap_new w _ _ rfl) hb1 (by simp)
  have c0 : w1.cell? ⟨w.heap.size, 0, none⟩ = some (.slice none 0 0) := by simp [World.cell?, hr]
  have f0 : w1.frozen? ⟨w.heap.size, 0, none⟩ = false := by simp [World.frozen?, hr]
  have HB := Lib.hid ((((Below.refl w.heap.size w).alloc (Nat.le_refl _) (.cells #[.slice none 0 0] 25)).trans (hb1.mono (by simp))).setCell (p := ⟨w.heap.size, 0, none⟩) (Nat.le_refl _) (.slice none 0 0))
  clear hr hb1
  go_wp2
  have c1 : (w1.setCell ⟨w.heap.size, 0, none⟩ (.slice none 0 0)).cell? ⟨w.heap.size, 0, none⟩ = some (.slice none 0 0) := World.cell?_setCell_same' _ _ _ (by simp [c0])
  refine bodyPost_ret (v := .tuple #[.agg #[.slice none 0 0], .int .i64 k, .int .i64 30]) ?_ rfl ?_
  · simp [results, Tryz.results6, go_sem, c1]
  · exact ⟨HB.out, _, rfl, isLns_nil _⟩

theorem place_cells {w : World} {a : Option Addr} {cap : Nat} {ts : List Tok} (ht : IsToks w (.slice a ts.length cap) ts) (j : Nat) (hj : j < ts.length) : ∃ b o, a = some ⟨b, o, none⟩ ∧ w.cell? ⟨b, o + j * 4 + 3, none⟩ = some (.int .i64 ts[j].at_) := by
  obtain ⟨_, _, ⟨rfl, _⟩ | ⟨b, o, c, he, hb, hrow⟩⟩ := ht
  · simp at hj
  obtain ⟨rfl, rfl⟩ : a = some ⟨b, o, none⟩ ∧ cap = c := by simpa using he
  exact ⟨b, o, rfl, (hrow j hj).2.2.2⟩

set_option maxRecDepth 100000 in
set_option maxHeartbeats 8000000 in
theorem refparse_ok (s : ByteArray) (ts : List Tok) (h : scan s.data.toList 0 = .ok ts) (w : World) (hs : s.size ≤ 65536) :
    Calls Tryz.prog 6 #[.string s] w (ParseEnd w (parseR s.data.toList)) := by
  generalize hr : parseR s.data.toList = r
  have HR := Lib.hid ((parseR_ok h).symm.trans hr)
  have HL := Lib.hid (fun w => h ▸ reflex_any s w hs)
  have HPB := Lib.hid (fun ls (hp : pLines 64 ts = .ok ls) => okC_parts (read_valid (back_source h).1 hp))
  clear h hr
  go_enter Tryz.func6, Tryz.ntmps6
  go_wp2_with fail
  refine (HL.out _).mono ?_
  rintro e w1 ⟨hb1, v, rfl, hv1⟩
  obtain ⟨va, vcap, rfl⟩ := toks_form hv1
  have hlm := hv1.1
  have hr1 : w1.heap[w.heap.size]? = some (.cells #[.slice none 0 0] 25 (0, 0)) := heap_at (heap_new w _ _ rfl) hb1 (by simp)
  have hbw : Below w.heap.size w w1 := ((Below.refl w.heap.size w).alloc (Nat.le_refl _) (.cells #[.slice none 0 0] 25)).trans (hb1.mono (by simp))
  have hlt : w.heap.size < w1.heap.size := (Array.getElem?_eq_some_iff.1 hr1).1
  have hba : Below w1.heap.size w1 (w1.alloc (.cells #[.slice none 0 0] 25)) := (Below.refl _ _).alloc (Nat.le_refl _) _
  have HS0 : Hid (RSt w w1.heap.size (.slice va ts.length vcap) ts [] (.slice none 0 0) (w1.alloc (.cells #[.slice none 0 0] 25))) := Lib.hid ⟨hbw.alloc hbw.size _, heap_at hr1 hba hlt, heap_new _ _ _ rfl, hv1.below hba, hv1.tokB, ownLns_nil _ _, hlt⟩
  clear hr1 hbw hba hb1 hv1 hlt
  obtain ⟨n, hn⟩ : ∃ n, n = ts.length := ⟨_, rfl⟩
  have HN := Lib.hid hn
  rw [← hn] at hlm HS0 ⊢
  clear hn
  dsimp only
  go_wp2_with fail
  generalize w1.alloc (.cells #[.slice none 0 0] 25) = w2 at HS0 ⊢
  generalize w1.heap.size = C at HS0 ⊢
  go_loopw [9] (fun iv wr => ∃ (k : Nat) (ls : List Ln) (la : Option Addr) (lc : Nat), iv = .int .i64 k ∧ k ≤ n ∧ ls.length ≤ 64 ∧ Hid (RSt w C (.slice va n vcap) ts ls (.slice la ls.length lc) wr) ∧ Hid (linesThen (64 - ls.length) ls (ts.drop k) = pLines 64 ts)) (fun iv _ => n - (intOf iv).toNat)
  case atStart => exact ⟨0, [], none, 0, rfl, by omega, by decide, HS0, Lib.hid (linesThen_start _)⟩
  case round =>
    clear HS0
    obtain ⟨k, ls, la, lc, rfl, hk, h64, HS, HQ⟩ := hrel
    by_cases hkn : k < n
    · have hkt : k < ts.length := by have := HN.out; omega
      by_cases hfull : ls.length < 64
      · obtain ⟨m, hm⟩ : ∃ m, 64 - ls.length = m + 1 := ⟨63 - ls.length, by omega⟩
        rw [hm] at HQ
        have HM := Lib.hid hm
        have hd : decide ((ls.length : Int) < 64) = true := by simp; omega
        have HS1 := Lib.hid (HS.out.next ((Below.refl _ _).alloc (Nat.le_refl _) (.cells #[.slice none 0 0, .int .i64 0] 35)))
        have HX1 : Hid ((wr.alloc (.cells #[.slice none 0 0, .int .i64 0] 35)).heap[wr.heap.size]? = some (.cells #[.slice none 0 0, .int .i64 0] 35 (0, 0))) := Lib.hid (heap_new _ _ _ rfl)
        obtain ⟨x0, x1, y0, y1⟩ := HS1.out.cells
        clear hm
        go_wp2_with fail
        generalize hw1' : wr.alloc (.cells #[.slice none 0 0, .int .i64 0] 35) = w3 at HS1 HX1 x0 x1 y0 y1 ⊢
        generalize hX : wr.heap.size = X at HX1 ⊢
        have HXe := Lib.hid hX
        have hXC : C < X := by have := HS.out.size; omega
        have HBX : Hid (Below X wr w3) := Lib.hid (by rw [← hX, ← hw1']; exact (Below.refl _ _).alloc (Nat.le_refl _) _)
        clear hX hw1'
        have hT3 : IsToks w3 (.slice va ts.length vcap) ts := by have := HS1.out.is; rw [HN.out] at this; exact this
        have HL3 := Lib.hid (refline_any (.slice va ts.length vcap) ts k w3 hT3 (by omega))
        rw [← HN.out] at HL3
        refine HL3.out.mono ?_
        intro e w4 hend
        obtain ⟨hb4, hmt⟩ := hend
        have HS4 := Lib.hid (HS1.out.next hb4)
        have hX4 := heap_at HX1.out hb4 (Array.getElem?_eq_some_iff.1 HX1.out).1
        have q0 : w4.cell? ⟨X, 0, none⟩ = some (.slice none 0 0) := by simp [World.cell?, hX4]
        have q1 : w4.cell? ⟨X, 1, none⟩ = some (.int .i64 0) := by simp [World.cell?, hX4]
        have qf0 : w4.frozen? ⟨X, 0, none⟩ = false := by simp [World.frozen?, hX4]
        have qf1 : w4.frozen? ⟨X, 1, none⟩ = false := by simp [World.frozen?, hX4]
        have hXw3 : X < w3.heap.size := (Array.getElem?_eq_some_iff.1 HX1.out).1
        have HB4 : Hid (Below X wr w4) := Lib.hid (HBX.out.trans (hb4.mono (by omega)))
        have HX4 := Lib.hid hX4
        have HXw3 := Lib.hid hXw3
        clear hb4 HX1 x0 x1 y0 y1 hT3 HL3 HBX hX4 hXw3
        cases hp : pLine (ts.drop k) with
        | error q =>
          rw [hp] at hmt
          obtain ⟨k', xa, xn, xc, y, hk', rfl, rfl⟩ := hmt
          have HPL := Lib.hid (HQ.out.symm.trans (linesThen_err hkt hp))
          have HS5 : Hid (RSt w C (.slice va n vcap) ts ls (.slice la ls.length lc) ((w4.setCell ⟨X, 0, none⟩ (.slice xa xn xc)).setCell ⟨X, 1, none⟩ (.int .i64 y))) := Lib.hid (HS.out.next (by rw [HXe.out]; exact (HB4.out.setCell (p := ⟨X, 0, none⟩) (Nat.le_refl _) _).setCell (p := ⟨X, 1, none⟩) (Nat.le_refl _) _))
          have HK' := Lib.hid hk'
          obtain ⟨m0, m1, m2, m3⟩ := HS5.out.cells
          clear hp hk'
          dsimp only
          have hN0 : (k' : Int) = (n : Int) ↔ k' = n := by omega
          by_cases hkn' : k' = n
          · have hd : ((k' : Int) == (n : Int)) = true := by simp [hkn']
            have HRe := Lib.hid (HR.out.symm.trans (by rw [HPL.out]; exact endR_err HK'.out : endR ts s.size (pLines 64 ts) = ([], placeT ts s.size k', 310)))
            have HPl : Hid (placeT ts s.size k' = s.size) := Lib.hid (by unfold placeT; rw [List.getElem?_eq_none (by have := HN.out; omega)])
            have HF := Lib.hid (HS5.out.fin (.slice none 0 0))
            clear hkn' hN0
            go_wp2
            have m4 : (((w4.setCell ⟨X, 0, none⟩ (.slice xa xn xc)).setCell ⟨X, 1, none⟩ (.int .i64 y)).setCell ⟨w.heap.size, 0, none⟩ (.slice none 0 0)).cell? ⟨w.heap.size, 0, none⟩ = some (.slice none 0 0) := World.cell?_setCell_same' _ _ _ (by simp [m2])
            refine bodyPost_ret (v := .tuple #[.agg #[.slice none 0 0], .int .i64 s.size, .int .i64 310]) ?_ rfl ?_
            · simp [results, Tryz.results6, go_sem, m4]
            · rw [HRe.out, HPl.out]
              exact ⟨HF.out.1, _, rfl, isLns_nil _⟩
          · have hd : ((k' : Int) == (n : Int)) = false := by simp [hN0, hkn']
            have hkt' : k' < ts.length := by have := HK'.out; have := HN.out; omega
            have HRe := Lib.hid (HR.out.symm.trans (by rw [HPL.out]; exact endR_err HK'.out : endR ts s.size (pLines 64 ts) = ([], placeT ts s.size k', 310)))
            clear hN0 hkn'
            go_wp2_with fail
            generalize ((w4.setCell ⟨X, 0, none⟩ (.slice xa xn xc)).setCell ⟨X, 1, none⟩ (.int .i64 y)) = w5 at HS5 m0 m1 m2 m3 ⊢
            obtain ⟨b, o, rfl, hcell⟩ := place_cells (by have := HS5.out.is; rw [HN.out] at this; exact this) k' hkt'
            have HPl : Hid (placeT ts s.size k' = ts[k'].at_) := Lib.hid (by unfold placeT; rw [List.getElem?_eq_getElem hkt'])
            have hki : (k' : Int) < (n : Int) := by have := HN.out; omega
            generalize ts[k'].at_ = pl at hcell HPl
            have HF := Lib.hid (HS5.out.fin (.slice none 0 0))
            go_region
            go_wp2
            have m4 : ((w5.setCell ⟨w.heap.size, 0, none⟩ (.slice none 0 0)).drew).cell? ⟨w.heap.size, 0, none⟩ = some (.slice none 0 0) := World.cell?_setCell_same' _ _ _ (by simp [m2])
            refine bodyPost_ret (v := .tuple #[.agg #[.slice none 0 0], .int .i64 pl, .int .i64 310]) ?_ rfl ?_
            · simp [results, Tryz.results6, go_sem, m2]
            · rw [HRe.out, HPl.out]
              exact ⟨HF.out.1.drew, _, rfl, isLns_nil _⟩
        | ok cq =>
          obtain ⟨x, q⟩ := cq
          rw [hp] at hmt
          obtain ⟨k', vc, hk', hlt', rfl, rfl, hoc⟩ := hmt
          obtain ⟨ca, cc, rfl⟩ := hoc.form
          have HQ2 := Lib.hid ((linesThen_ok hkt hp).symm.trans HQ.out)
          have hkn' : k' ≤ n := by have := HN.out; omega
          have HLt := Lib.hid hlt'
          have HOC := Lib.hid (((hoc.kept (grown_set w4 X 0 (.slice ca x.conds.length cc)) (fun q e => by have := HXw3.out; simp at e; omega)).kept (grown_set _ X 1 (.int .i64 x.set)) (fun q e => by have := HXw3.out; simp at e; omega)).kept (grownBy_below ((Below.refl _ _).alloc (Nat.le_refl _) (.cells #[.slice ca x.conds.length cc, .int .i64 x.set] 35)) none) (fun q e => by cases e))
          have HB5 := Lib.hid ((HB4.out.setCell (p := ⟨X, 0, none⟩) (Nat.le_refl _) (.slice ca x.conds.length cc)).setCell (p := ⟨X, 1, none⟩) (Nat.le_refl _) (.int .i64 x.set))
          have HS6 : Hid (RSt w C (.slice va n vcap) ts ls (.slice la ls.length lc) (((w4.setCell ⟨X, 0, none⟩ (.slice ca x.conds.length cc)).setCell ⟨X, 1, none⟩ (.int .i64 x.set)).alloc (.cells #[.slice ca x.conds.length cc, .int .i64 x.set] 35))) := Lib.hid (HS.out.next (by rw [HXe.out]; exact HB5.out.alloc (by have := HB5.out.size; have := HXe.out; omega) _))
          have HS5 : Hid (RSt w C (.slice va n vcap) ts ls (.slice la ls.length lc) ((w4.setCell ⟨X, 0, none⟩ (.slice ca x.conds.length cc)).setCell ⟨X, 1, none⟩ (.int .i64 x.set))) := Lib.hid (HS.out.next (by rw [HXe.out]; exact HB5.out))
          obtain ⟨m0, m1, m2, m3⟩ := HS5.out.cells
          have HA : Hid (ls.length ≤ 1000000) := Lib.hid (by omega)
          have HZ : Hid (C + 1 ≤ (((w4.setCell ⟨X, 0, none⟩ (.slice ca x.conds.length cc)).setCell ⟨X, 1, none⟩ (.int .i64 x.set)).alloc (.cells #[.slice ca x.conds.length cc, .int .i64 x.set] 35)).heap.size) := Lib.hid HS6.out.size
          have HGn : Hid ((((w4.setCell ⟨X, 0, none⟩ (.slice ca x.conds.length cc)).setCell ⟨X, 1, none⟩ (.int .i64 x.set)).alloc (.cells #[.slice ca x.conds.length cc, .int .i64 x.set] 35)).heap[w4.heap.size]? = some (.cells #[.slice ca x.conds.length cc, .int .i64 x.set] 35 (0, 0))) := Lib.hid (heap_new _ _ _ (by simp))
          have HC3 : Hid (C + 1 ≤ w3.heap.size) := Lib.hid (by have := HXw3.out; omega)
          clear hp hk' hlt' hoc
          dsimp only
          go_wp2_with (at_builtin; (refine wpList_plain rfl fun K hK => ?_); (refine wp_append_line _ (C + 1) _ _ rfl (.slice la ls.length lc) ls rfl HS6.out.own (.slice ca x.conds.length cc) x w3.heap.size HOC.out HC3.out w4.heap.size rfl HGn.out HA.out HZ.out ?_); intro ad c7 w7 hown7 hg7; refine hK _ _ ?_; obtain ⟨z0, zf⟩ := HS6.out.app_cells hg7; have HS8 := Lib.hid (HS6.out.append hown7 hg7); clear hown7 hg7)
          have hll : (ls ++ [x]).length = ls.length + 1 := by simp
          have HS9 : Hid (RSt w C (.slice va n vcap) ts (ls ++ [x]) (.slice ad (ls ++ [x]).length c7) (w7.setCell ⟨C, 0, none⟩ (.slice ad (ls.length + 1) c7))) := Lib.hid (by have := HS8.out; rw [hll]; exact this)
          have HM2 := HM.out
          exact ⟨⟨k', ls ++ [x], ad, c7, rfl, hkn', by omega, HS9, Lib.hid (by have := HQ2.out; rw [show 64 - (ls ++ [x]).length = m by omega]; exact this)⟩, by simp [intOf]; have := HLt.out; omega⟩
      · have hl : ls.length = 64 := by omega
        have hd0 : decide ((ls.length : Int) < 64) = false := by simp; omega
        have hQ := HQ.out
        rw [hl] at hQ
        have HPL := Lib.hid (hQ.symm.trans (linesThen_full hkt))
        have HRe := Lib.hid (HR.out.symm.trans (by rw [HPL.out]; exact endR_err (by omega) : endR ts s.size (pLines 64 ts) = ([], placeT ts s.size k, 310)))
        have hd : ((k : Int) == (n : Int)) = false := by simp; omega
        have HS5 := Lib.hid (HS.out.next ((Below.refl _ _).alloc (Nat.le_refl _) (.cells #[.slice none 0 0, .int .i64 0] 35)))
        obtain ⟨m0, m1, m2, m3⟩ := HS5.out.cells
        clear hl hQ hfull
        go_wp2_with fail
        generalize wr.alloc (.cells #[.slice none 0 0, .int .i64 0] 35) = w5 at HS5 m0 m1 m2 m3 ⊢
        obtain ⟨b, o, rfl, hcell⟩ := place_cells (by have := HS5.out.is; rw [HN.out] at this; exact this) k hkt
        have HPl : Hid (placeT ts s.size k = ts[k].at_) := Lib.hid (by unfold placeT; rw [List.getElem?_eq_getElem hkt])
        have hki : (k : Int) < (n : Int) := by omega
        generalize ts[k].at_ = pl at hcell HPl
        have HF := Lib.hid (HS5.out.fin (.slice none 0 0))
        go_region
        go_wp2
        have m4 : ((w5.setCell ⟨w.heap.size, 0, none⟩ (.slice none 0 0)).drew).cell? ⟨w.heap.size, 0, none⟩ = some (.slice none 0 0) := World.cell?_setCell_same' _ _ _ (by simp [m2])
        refine bodyPost_ret (v := .tuple #[.agg #[.slice none 0 0], .int .i64 pl, .int .i64 310]) ?_ rfl ?_
        · simp [results, Tryz.results6, go_sem, m2]
        · rw [HRe.out, HPl.out]
          exact ⟨HF.out.1.drew, _, rfl, isLns_nil _⟩
    · have hpl := (linesThen_done (n := 64 - ls.length) (ls := ls) (show ¬ k < ts.length by have := HN.out; omega)).symm.trans HQ.out
      have HE := Lib.hid (HR.out.symm.trans (by rw [← hpl]; rfl : endR ts s.size (pLines 64 ts) = (ls, 0, 0)))
      have HI := Lib.hid (HS.out.fin (.slice la ls.length lc))
      have HLn := Lib.hid (HI.out.2.isLns (by omega) (fun x hx => by have := (okLn_parts ((HPB.out ls hpl.symm).2 x hx)).1; omega))
      clear hpl
      obtain ⟨m0, m1, m2, m3⟩ := HS.out.cells
      go_wp2
      have m4 : (wr.setCell ⟨w.heap.size, 0, none⟩ (.slice la ls.length lc)).cell? ⟨w.heap.size, 0, none⟩ = some (.slice la ls.length lc) := World.cell?_setCell_same' _ _ _ (by simp [m2])
      refine bodyPost_ret (v := .tuple #[.agg #[.slice la ls.length lc], .int .i64 0, .int .i64 0]) ?_ rfl ?_
      · simp [results, Tryz.results6, go_sem, m4]
      · rw [HE.out]
        exact ⟨HI.out.1, _, rfl, HLn.out⟩

theorem refparse_any (s : ByteArray) (w : World) (hs : s.size ≤ 65536) : Calls Tryz.prog 6 #[.string s] w (ParseEnd w (parseR s.data.toList)) := by
  cases h : scan s.data.toList 0 with
  | error k =>
    have e : parseR s.data.toList = ([], (k : Int), 30) := by unfold parseR; rw [h]
    rw [e]
    exact refparse_err s k h w hs
  | ok ts => exact refparse_ok s ts h w hs

end Go.Proofs.YtlaifodlnolndaaGreatDoor

/- The statement ParseSpec: the walk. -/
namespace Go.Proofs.YtlaifodlnolndaaGreatDoor
open Go.RowKit

theorem sameCds_self : ∀ cs : List Cd, sameCds cs cs = true
  | [] => rfl
  | c :: r => by simp [sameCds, sameCd, sameCds_self r]
theorem sameC_self : ∀ ls : List Ln, sameC ls ls = true
  | [] => rfl
  | x :: r => by simp [sameC, sameLn, sameCds_self, sameC_self r]

set_option maxRecDepth 100000 in
set_option maxHeartbeats 4000000 in
theorem parseSpec_any (s : ByteArray) (w : World) (hs2 : s.size ≤ 140737488355328) (hG : Globals w) : Calls Tryz.prog 3 #[.string s] w fun e w' => e = .returned (.bool true) ∧ Below w.heap.size w w' := by
  have HG := Lib.hid hG
  by_cases h8 : 8000 < s.size
  · have hlt : decide (8000 < (s.size : Int)) = true := by simp; omega
    clear hG hs2
    go_enter Tryz.func3, Tryz.ntmps3
    go_wp2_with fail
    refine (sane_any _ HG.out).mono ?_
    rintro e w1 ⟨rfl, hb1⟩
    go_wp2
    go_ret
    exact ⟨rfl, hb1⟩
  have hlt : decide (8000 < (s.size : Int)) = false := by simp; omega
  have h65 : s.size ≤ 65536 := by omega
  obtain ⟨ls, a, e0, hR⟩ : ∃ ls a e, parseR s.data.toList = (ls, a, e) := ⟨_, _, _, rfl⟩
  have HP := Lib.hid (fun w hG => hR ▸ parse_any s w h65 hG)
  have HQ := Lib.hid (fun w => hR ▸ refparse_any s w h65)
  clear hG hR hs2
  go_enter Tryz.func3, Tryz.ntmps3
  go_wp2_with fail
  refine (sane_any _ HG.out).mono ?_
  rintro e w1 ⟨rfl, hb1⟩
  have HB1 := Lib.hid hb1
  have HG1 := Lib.hid (HG.out.next hb1)
  clear hb1 h8
  go_wp2_with fail
  refine (HP.out w1 HG1.out).mono ?_
  rintro e w2 ⟨hb2, v1, rfl, hv1⟩
  obtain ⟨a1, c1, rfl⟩ := hv1.form
  have HB2 := Lib.hid ((HB1.out.trans (hb2.mono HB1.out.size)).alloc (Nat.le_trans HB1.out.size hb2.size) (.cells #[.slice a1 ls.length c1] 25))
  have HV1 := Lib.hid (hv1.below ((Below.refl _ _).alloc (Nat.le_refl _) (.cells #[.slice a1 ls.length c1] 25)))
  have HC1 : Hid ((w2.alloc (.cells #[.slice a1 ls.length c1] 25)).heap[w2.heap.size]? = some (.cells #[.slice a1 ls.length c1] 25 (0, 0))) := Lib.hid (heap_new _ _ _ rfl)
  clear hb2 hv1
  dsimp only
  go_wp2_with fail
  generalize hw3 : (w2.alloc (.cells #[.slice a1 ls.length c1] 25)) = w3 at HB2 HV1 HC1 ⊢
  clear hw3
  refine (HQ.out w3).mono ?_
  rintro e w4 ⟨hb4, v2, rfl, hv2⟩
  obtain ⟨a2, c2, rfl⟩ := hv2.form
  have HB4 := Lib.hid ((HB2.out.trans (hb4.mono HB2.out.size)).alloc (Nat.le_trans HB2.out.size hb4.size) (.cells #[.slice a2 ls.length c2] 25))
  have HV2 := Lib.hid (hv2.below ((Below.refl _ _).alloc (Nat.le_refl _) (.cells #[.slice a2 ls.length c2] 25)))
  have HV3 := Lib.hid (HV1.out.below (hb4.alloc hb4.size (.cells #[.slice a2 ls.length c2] 25)))
  have hc := heap_at HC1.out (hb4.alloc hb4.size (.cells #[.slice a2 ls.length c2] 25)) (Array.getElem?_eq_some_iff.1 HC1.out).1
  have c0 : (w4.alloc (.cells #[.slice a2 ls.length c2] 25)).cell? ⟨w2.heap.size, 0, none⟩ = some (.slice a1 ls.length c1) := by simp only [World.cell?, hc]; simp
  clear hb4 hv2 hc
  dsimp only
  go_wp2_with fail
  refine (same_any _ _ ls ls _ HV3.out HV2.out).mono ?_
  rintro e w5 ⟨rfl, hb5⟩
  rw [sameC_self]
  have HB5 := Lib.hid (HB4.out.trans (hb5.mono HB4.out.size))
  clear hb5
  go_wp2
  go_ret
  exact ⟨ret_bool (by simp), HB5.out⟩

end Go.Proofs.YtlaifodlnolndaaGreatDoor

/-
  PROVED HERE: the tied card of 'acequia/acequialaw31.GatecodeParseSpec': for every input, in every start that meets the row's condition on the listed package variables, the law returns true and each argument reads as it did. Its conditions are the given statement's own (Rows.GatecodeParseSpecCardSaid), none more.
-/
namespace Go.Proofs.YtlaifodlnolndaaGreatDoor
open Go.ChangeShapes Go.WideShapes Go.ChangeAt Go.WideMaps Go.WideElems Go.RowKit Go.ChangeMaps

set_option maxRecDepth 100000 in
theorem gatecodeParseSpec_lifted (os : Os) (started : os.Started) (H : Type) (enc : TypeId × Value → H) :
    ReturnsInHanded {} Tryz.checked os 3 .any (fun w args => (Rows.gatecodeParseSpecSpec.pre enc Tryz.prog Tryz.f3 [] false w args ∧ laidMetH Tryz.prog laidAll w) ∧ sizedMet enc Tryz.prog Tryz.f3 (OpenSpec.ofChange Rows.gatecodeParseSpecSpec) false w args)
      (Rows.gatecodeParseSpecSpec.post enc Tryz.prog Tryz.f3 false true false false) := by
  refine returnsInHanded_of_change_and (C := Tryz.checked) (X := fun w _ => laidMetH Tryz.prog laidAll w) (fun _ _ _ hh h => h.of_heap hh) own started (by kernel_rfl) Tryz.func3
    (ChangeSpec.witness_shaped (enc := enc) (C := Tryz.checked) (os := os) (X := fun w _ => laidMetH Tryz.prog laidAll w) false (World.doorLaid Tryz.prog 400 os) #[.string ByteArray.empty] 8 rfl (World.shaped_of_RefB (by kernel_rfl) (by kernel_rfl)) (by kernel_rfl) (by kernel_rfl) (by kernel_rfl) (door_met os _)) ?_
  intro W base args ds gs before hval0 hW _ hsz0 hL _
  have hsz : (DataW.weightsEach Tryz.prog (Tryz.f3.params.toList ++ Rows.gatecodeParseSpecSpec.plain.varTypes Tryz.prog) (ds ++ gs)).all (· ≤ reachBytes) = true := hsz0
  have hval : ∀ (j : Nat) t v, Tryz.f3.params[j]? = some t → args[j]? = some v → Value.okWide Tryz.prog W .any base t v := hval0
  have hW' := hW
  obtain ⟨p, q, hA0, hV, rfl, hfz, hnd⟩ := hW
  have hA : DataW.TrodAll enc Tryz.prog W 0 (fun _ => true) true Tryz.f3.params.toList args.toList ds p := hA0
  rw [Tryz.params3] at hA hval hsz
  obtain ⟨v0, d0, rfl, rfl, h0⟩ := trodAll_one hA
  obtain ⟨rfl, rfl⟩ := trodVars_none hV
  obtain ⟨s0, rfl, rfl, rfl, hs0⟩ := open_string Tryz.underlying9 (hval 0 9 v0 rfl rfl) h0
  have hz0 : s0.size ≤ 140737488355328 := by
    have h1 : s0.data.toList.length ≤ reachBytes := sized_string hsz (j := 0) (t := 9) rfl rfl
    have h2 : s0.data.toList.length = s0.size := by simp
    have h3 : reachBytes < 2 ^ 47 := reachBytes_lt
    omega
  clear hA0 hval0 hsz0
  refine (parseSpec_any s0 W hz0 (globals_of_laid hL)).mono fun e W' ⟨he, hb⟩ => ?_
  subst he
  exact ⟨_, rfl, _, _, _, [], _, [], hW', trodAll_mk1 (shut_bool Tryz.underlying4 true), trodAll_mk1 (shut_string Tryz.underlying9 hs0), rfl, hb.frame _, fun h => by cases h⟩

theorem gatecodeParseSpec_holds : Rows.GatecodeParseSpecSaid :=
  OpenClaim.holds_of_wide 3 Tryz.f3 rfl rfl rfl rfl rfl rfl rfl ⟨rfl, rfl, rfl, rfl, rfl⟩ rfl rfl rfl rfl rfl (by kernel_rfl) Tryz.func3 (by kernel_rfl)
    (of_decide_eq_true (by kernel_rfl)) (by unfold Func.isWrapper; rw [if_neg (of_decide_eq_false (by kernel_rfl))]; exact ⟨rfl, rfl⟩)
    (fun os started H enc _ => gatecodeParseSpec_lifted os started H enc)

/-- The tied card. -/
theorem gatecodeParseSpecCard_holds : Rows.GatecodeParseSpecCardSaid :=
  Claim7.holds_tied_plain_at .later [] [.data, .data, .data, .sentinel, .sentinel] true (true, "bf64538d2753e478aafc0977a7107f007134e901e4c25a5dea8c71eac6e194ed") true
    gatecodeParseSpec_holds (fun _ h => by cases h) (by kernel_rfl) (fun _ h => by cases h) gatecodeParseSpec_row_tie rfl ⟨rfl, rfl⟩ (by kernel_rfl) rfl
    (fun f fn hf hfn => by
      obtain rfl : f = 3 := Option.some.inj ((show Tryz.prog.funcNamed "acequia/acequialaw31.GatecodeParseSpec" = some 3 by kernel_rfl).symm.trans hf) |>.symm
      obtain rfl : fn = Tryz.f3 := (Option.some.inj (Tryz.func3.symm.trans hfn)).symm
      exact ⟨by kernel_rfl, fun j t ht => by
        rw [Tryz.params3] at ht
        have hm : t ∈ [9] := by simpa using Array.mem_of_getElem? ht
        have hall : ([9].all fun u => !Tryz.prog.wantsStandIn u) = true := by kernel_rfl
        exact (show Tryz.prog.wantsStandIn t = false by simpa using List.all_eq_true.1 hall t hm)⟩)
    (by kernel_rfl)

end Go.Proofs.YtlaifodlnolndaaGreatDoor

/- Check: own rows of references; the rounds' regions (printed by gen_sb.py). -/
import Derived.Test.YtapejaabhkfhjaaMSa
import Derived.Test.YtapejaabhkfhjaaMRs
namespace Go.Proofs.Ytapejaabhkfhjaa
open Go.RowKit

/- a slice of references of its own -/
def OwnRf (B : Nat) (w : World) (v : Value) (l : List Rf) : Prop := w.ownsRow B 23 2 v l.length (l.flatMap rfV)
theorem ownRf_nil (B : Nat) (w : World) : OwnRf B w (.slice none 0 0) [] := ⟨rfl, .inl ⟨rfl, rfl⟩⟩
theorem OwnRf.up {B : Nat} {w w' : World} {v : Value} {l : List Rf} (h : OwnRf B w v l) (hb : ∀ g, v.ownBlock = some g → g < w.heap.size → w'.heap[g]? = w.heap[g]?) : OwnRf B w' v l := by
  obtain ⟨h1, h2⟩ := h
  refine ⟨h1, h2.imp id ?_⟩
  rintro ⟨g, cap, cur, rfl, h4, h5, h6⟩
  exact ⟨g, cap, cur, rfl, h4, (hb g rfl (Array.getElem?_eq_some_iff.1 h5).1).trans h5, h6⟩
theorem rfV_flat : ∀ l : List Rf, (l.flatMap rfV).length = l.length * 2
  | [] => rfl
  | x :: r => by rw [List.flatMap_cons, List.length_append, rfV_flat r, List.length_cons]; simp only [rfV, List.length_cons, List.length_nil]; omega
theorem append_block {B : Nat} {W : World} {v : Value} {l : List Rf} (hown : OwnRf B W v l) (r : Rf) (ty : TypeId) (g c : Nat) (hg : W.heap[g]? = some (.cells #[.string r.name, .int .i64 r.n] 23 (0, 0))) (hlen : l.length + 1 ≤ 1000000000) {v' : Value} {w' : World}
    (hrun : (Builtin.append_ #[127, 127] ty #[v, .slice (some ⟨g, 0, none⟩) 1 c]).run Try.prog W = .ok v' w') : v'.ownBlock = v.ownBlock ∨ v'.ownBlock = some W.heap.size := by
  have hinfo : (Try.prog.info? 23).map (fun i => (i.zero, i.size, i.bytes)) = some (some (.agg #[.string ⟨#[]⟩, .int .i64 0]), 2, 24) := by kernel_rfl
  obtain ⟨i0, hi, hz0, hz1, hz2⟩ := info_parts hinfo
  have hnews : ∀ j u, (rfV r)[j]? = some u → W.cell? ((⟨g, 0, none⟩ : Addr).add j) = some u := fun j u hj => by
    rw [WideShapes.add_plain]
    simp only [World.cell?, hg]
    unfold rfV at hj
    simpa using hj
  have hl : (rfV r).length = 1 * i0.size := by rw [hz1]; rfl
  rcases hown.2 with ⟨rfl, hn⟩ | ⟨k, cap, cur, rfl, hbg, hk, hnc, hcm, hcs, htake⟩
  · rw [run_append_nil W 127 ty 23 i0 _ Try.underlying127 hi hz0 ⟨g, 0, none⟩ 1 c (rfV r) hl hnews (by omega) (by omega) (by rw [hz2]; omega)] at hrun
    cases hrun
    exact .inr rfl
  · by_cases hroom : l.length + 1 ≤ cap
    · rw [run_append_room W 127 ty 23 i0 Try.underlying127 hi k l.length cap cur hk ⟨g, 0, none⟩ 1 c (rfV r) hl hnews (one_rf r) hroom (by rw [hz1, hcs]; show l.length * 2 + 2 ≤ cap * 2; omega)] at hrun
      cases hrun
      exact .inl rfl
    · have holds : ∀ j u, (l.flatMap rfV)[j]? = some u → W.cell? ((⟨k, 0, none⟩ : Addr).add j) = some u := World.ownsRow.cells hown (g := k) rfl
      rw [run_append_grow W 127 ty 23 i0 _ Try.underlying127 hi hz0 ⟨k, 0, none⟩ l.length cap (l.flatMap rfV) (by rw [hz1]; exact hown.1) holds ⟨g, 0, none⟩ 1 c (rfV r) hl hnews (by omega) (by omega) (growslice_fits (by omega) (by rw [hz2]; omega))] at hrun
      cases hrun
      exact .inr rfl
theorem wp_append_rf2 {o : Oper} {a : Act} {K : Act → World → Prop} {Q : Exit → Act → World → Prop} {W : World} (B : Nat) (s x : Operand) (ho : o.op = .call { callee := .builtin .append, args := #[s, x], argTypes := #[127, 127] })
    (v : Value) (l : List Rf) (hs : a.eval s = v) (hown : OwnRf B W v l) (r : Rf) (g c : Nat) (hx : a.eval x = .slice (some ⟨g, 0, none⟩) 1 c) (hg : W.heap[g]? = some (.cells #[.string r.name, .int .i64 r.n] 23 (0, 0))) (hlen : l.length + 1 ≤ 1000000000) (hbase : B ≤ W.heap.size)
    (h : ∀ v' w', OwnRf B w' v' (l ++ [r]) → W.grownBy w' v.ownBlock → (v'.ownBlock = v.ownBlock ∨ v'.ownBlock = some W.heap.size) → K (a.put o.dst v') w') : Oper.wp Try.prog o a W K Q := by
  have hinfo : (Try.prog.info? 23).map (fun i => (i.zero, i.size, i.bytes)) = some (some (.agg #[.string ⟨#[]⟩, .int .i64 0]), 2, 24) := by kernel_rfl
  obtain ⟨i0, hi, hz0, hz1, hz2⟩ := info_parts hinfo
  have hnews : ∀ j u, (rfV r)[j]? = some u → W.cell? ((⟨g, 0, none⟩ : Addr).add j) = some u := fun j u hj => by
    rw [WideShapes.add_plain]
    simp only [World.cell?, hg]
    unfold rfV at hj
    simpa using hj
  obtain ⟨v', w', hr, h2, h3, _⟩ := run_append_own (P := Try.prog) W B 127 o.type 23 i0 _ 2 24 Try.underlying127 hi hz0 hz1 hz2 rfl (by decide) v l.length _ hown ⟨g, 0, none⟩ 1 c (rfV r) rfl hnews (one_rf r) (by unfold maxLen; omega) (by omega) hbase
  have hb := append_block hown r o.type g c hg hlen hr
  unfold Oper.wp
  simp [execOp, ho, resolve, invoke, builtin, hs, hx, hr, Result.andThen]
  refine h v' w' ?_ h3 hb
  unfold OwnRf
  rw [List.length_append, List.flatMap_append]
  simpa using h2
/- what an append has left -/
structure Put1 (W : World) (base : Nat) (va : Value) (ls : List Rf) (r : Rf) (w1 : World) (v : Value) : Prop where
  own : OwnRf base w1 v (ls ++ [r])
  grown : W.grownBy w1 va.ownBlock
  blk : v.ownBlock = va.ownBlock ∨ ∃ g, v.ownBlock = some g ∧ W.heap.size ≤ g
def AtSl (w : World) (v : Value) (r : Rf) : Prop := ∃ g, v = .slice (some ⟨g, 0, none⟩) 1 1 ∧ w.heap[g]? = some (.cells #[.string r.name, .int .i64 r.n] 23 (0, 0))
theorem AtSl.up {w w' : World} {v : Value} {r : Rf} (h : AtSl w v r) (hb : Below w.heap.size w w') : AtSl w' v r := by
  obtain ⟨g, h1, h2⟩ := h
  exact ⟨g, h1, (hb.block g (Array.getElem?_eq_some_iff.1 h2).1).trans h2⟩
structure RfExt (W : World) (base : Nat) (va : Value) (ls : List Rf) (r : Rf) (Bx s24 s25 : Nat) (l : Array Bool) (tm : Array Value) (w : World) : Prop where
  one : l.getD 6 false = false → Below W.heap.size W w ∧ (l.getD 5 false = true → AtSl w (tm.getD s24 undef) r)
  two : l.getD 6 false = true → l.getD 7 false = false → Put1 W base va ls r w (tm.getD s25 undef)
  three : l.getD 7 false = true → ∃ w1 v, Put1 W base va ls r w1 v ∧ w = w1.setCell ⟨Bx, 0, none⟩ v
theorem RfExt.quiet {W : World} {base : Nat} {va : Value} {ls : List Rf} {r : Rf} {Bx s24 s25 : Nat} {l : Array Bool} {tm : Array Value} {w w2 : World} {i t : Nat} {v : Value} (h : RfExt W base va ls r Bx s24 s25 l tm w) (n6 : l.getD 6 false = false) (n7 : l.getD 7 false = false) (hi5 : i ≠ 5) (hi6 : i ≠ 6) (hi7 : i ≠ 7) (ht : t < s24) (hb : Below w.heap.size w w2) : RfExt W base va ls r Bx s24 s25 (l.setIfInBounds i true) (tm.setIfInBounds t v) w2 := by
  obtain ⟨h1, h2⟩ := h.one n6
  refine ⟨fun _ => ⟨h1.trans (hb.mono h1.size), fun h5 => ?_⟩, fun h6 => ?_, fun h7 => ?_⟩
  · rw [set_other hi5] at h5
    rw [tset_other (Nat.ne_of_lt ht)]
    exact (h2 h5).up hb
  · rw [set_other hi6, n6] at h6; cases h6
  · rw [set_other hi7, n7] at h7; cases h7

def rfP7 (va : Value) (b6 ub uo : Nat) (r : Rf) (j : Nat) (v : Value) (_ : World) : Prop := match j with
  | 0 => v = va
  | 1 => v = .pointer (some ⟨b6, 0, none⟩)
  | 2 => v = .pointer (some ⟨ub, uo, none⟩)
  | 3 => v = .pointer (some ⟨ub, uo, none⟩)
  | 4 => v = .agg #[.string r.name, .int .i64 r.n]
  | _ => True
set_option maxRecDepth 100000 in
set_option maxHeartbeats 4000000 in
theorem reg7 {a₀ : Act} {W0 : World} {Q : Exit → Act → World → Prop} {l n Bx b6 ub uo base : Nat} {va : Value} {ls : List Rf} {r : Rf} (ops : Array Oper) (hops : regOf Try.f14 7 = some ops)
    (ht4 : a₀.tmps.getD 4 undef = .pointer (some ⟨Bx, 0, none⟩)) (ht6 : a₀.tmps.getD 6 undef = .pointer (some ⟨b6, 0, none⟩)) (hz : a₀.tmps.size = 64)
    (hBx : Bx < W0.heap.size) (hb6 : b6 < W0.heap.size) (hub : ub < W0.heap.size) (hbox : ∃ u, W0.heap[Bx]? = some (.cells #[u] 127 (0, 0))) (hva : W0.cell? ⟨Bx, 0, none⟩ = some va) (hu : W0.cell? ⟨b6, 0, none⟩ = some (.pointer (some ⟨ub, uo, none⟩)))
    (hnm : W0.cell? ⟨ub, uo, none⟩ = some (.string r.name)) (hn : W0.cell? ⟨ub, uo + 1, none⟩ = some (.int .i64 r.n)) (hown : OwnRf base W0 va ls) (hlen : ls.length + 1 ≤ 1000000000) (hbase : base ≤ W0.heap.size) (hlow : Bx < base)
    (hQ : ∀ (a : Act) w1 v, a.tmps.size = 64 → a.defers = a₀.defers → (∀ t, (t < 19 ∨ 25 < t) → a.tmps.getD t undef = a₀.tmps.getD t undef) → Put1 W0 base va ls r w1 v → Q .normal a (w1.setCell ⟨Bx, 0, none⟩ v)) :
    (Code.region 7 ops true).wpIn (Fence.wide.inRound l) n Try.prog Q a₀ W0 := by
  obtain rfl := Option.some.inj ((rfl : regOf Try.f14 7 = some _).symm.trans hops)
  clear hops
  refine wpIn_region_mids (by kernel_rfl) (RfExt W0 base va ls r Bx 24 25) (rfP7 va b6 ub uo r) (fun _ _ _ => True) (by kernel_rfl) (by rw [hz]; kernel_rfl) (by kernel_rfl) (by kernel_rfl) (fun _ j v w w' _ _ _ h => by unfold rfP7 at h ⊢; exact h) ⟨fun _ => ⟨(Below.refl _ _).drew, fun h => (by cases h)⟩, fun h => (by cases h), fun h => (by cases h)⟩ ?_ ?_
  · intro ix listed a w' hM hix o ho
    have HE := Lib.hid hM.ext
    have hlt := (Array.getElem?_eq_some_iff.1 ho).1
    have hsz := hM.size
    have n7 : listed.getD 6 false = false → listed.getD 7 false = false := fun n6 => by
      rw [Bool.eq_false_iff]; intro h7
      have := anc_listed hM.down 8 7 6 (by kernel_rfl) h7
      rw [n6] at this; cases this
    match ix, hlt with
    | 0, _ =>
      have d := hM.old hix 4 (by kernel_rfl) _ ht4
      have n6 : listed.getD 6 false = false := by
        rw [Bool.eq_false_iff]; intro h6
        have := anc_listed hM.down 8 6 0 (by kernel_rfl) h6
        rw [hM.not_yet hix] at this; cases this
      have hb := (HE.out.one n6).1
      have HN6 := Lib.hid n6
      have HN7 := Lib.hid (n7 n6)
      clear n6
      have c := (hb.cell (p := ⟨Bx, 0, none⟩) hBx).trans hva
      clear hva hnm hn hu
      obtain rfl := Option.some.inj ho
      go_simp
      exact ⟨_, rfl, HE.out.quiet HN6.out HN7.out (by decide) (by decide) (by decide) (by decide) (Below.refl _ _), trivial, rfl⟩
    | 1, _ =>
      have d := hM.old hix 6 (by kernel_rfl) _ ht6
      have n6 : listed.getD 6 false = false := by
        rw [Bool.eq_false_iff]; intro h6
        have := anc_listed hM.down 8 6 1 (by kernel_rfl) h6
        rw [hM.not_yet hix] at this; cases this
      have hb := (HE.out.one n6).1
      have HN6 := Lib.hid n6
      have HN7 := Lib.hid (n7 n6)
      clear n6
      clear hva hnm hn hu
      obtain rfl := Option.some.inj ho
      go_simp
      exact ⟨_, rfl, HE.out.quiet HN6.out HN7.out (by decide) (by decide) (by decide) (by decide) (Below.refl _ _), trivial, rfl⟩
    | 2, _ =>
      have d : a.tmps[20]?.getD undef = .pointer (some ⟨b6, 0, none⟩) := hM.dep hix 1 20 (by kernel_rfl) (by kernel_rfl)
      have n6 : listed.getD 6 false = false := by
        rw [Bool.eq_false_iff]; intro h6
        have := anc_listed hM.down 8 6 2 (by kernel_rfl) h6
        rw [hM.not_yet hix] at this; cases this
      have hb := (HE.out.one n6).1
      have HN6 := Lib.hid n6
      have HN7 := Lib.hid (n7 n6)
      clear n6
      have c := (hb.cell (p := ⟨b6, 0, none⟩) hb6).trans hu
      clear hva hnm hn hu
      obtain rfl := Option.some.inj ho
      go_simp
      exact ⟨_, rfl, HE.out.quiet HN6.out HN7.out (by decide) (by decide) (by decide) (by decide) (Below.refl _ _), trivial, rfl⟩
    | 3, _ =>
      have d : a.tmps[21]?.getD undef = .pointer (some ⟨ub, uo, none⟩) := hM.dep hix 2 21 (by kernel_rfl) (by kernel_rfl)
      have n6 : listed.getD 6 false = false := by
        rw [Bool.eq_false_iff]; intro h6
        have := anc_listed hM.down 8 6 3 (by kernel_rfl) h6
        rw [hM.not_yet hix] at this; cases this
      have hb := (HE.out.one n6).1
      have HN6 := Lib.hid n6
      have HN7 := Lib.hid (n7 n6)
      clear n6
      clear hva hnm hn hu
      obtain rfl := Option.some.inj ho
      go_simp
      exact ⟨_, rfl, HE.out.quiet HN6.out HN7.out (by decide) (by decide) (by decide) (by decide) (Below.refl _ _), trivial, rfl⟩
    | 4, _ =>
      have d : a.tmps[22]?.getD undef = .pointer (some ⟨ub, uo, none⟩) := hM.dep hix 3 22 (by kernel_rfl) (by kernel_rfl)
      have n6 : listed.getD 6 false = false := by
        rw [Bool.eq_false_iff]; intro h6
        have := anc_listed hM.down 8 6 4 (by kernel_rfl) h6
        rw [hM.not_yet hix] at this; cases this
      have hb := (HE.out.one n6).1
      have HN6 := Lib.hid n6
      have HN7 := Lib.hid (n7 n6)
      clear n6
      have c := (hb.cell (p := ⟨ub, uo, none⟩) hub).trans hnm
      have c1 := (hb.cell (p := ⟨ub, uo + 1, none⟩) hub).trans hn
      clear hva hnm hn hu
      obtain rfl := Option.some.inj ho
      go_simp
      exact ⟨_, rfl, HE.out.quiet HN6.out HN7.out (by decide) (by decide) (by decide) (by decide) (Below.refl _ _), trivial, rfl⟩
    | 5, _ =>
      have d : a.tmps[23]?.getD undef = .agg #[.string r.name, .int .i64 r.n] := hM.dep hix 4 23 (by kernel_rfl) (by kernel_rfl)
      have n6 : listed.getD 6 false = false := by
        rw [Bool.eq_false_iff]; intro h6
        have := anc_listed hM.down 8 6 5 (by kernel_rfl) h6
        rw [hM.not_yet hix] at this; cases this
      have hb := (HE.out.one n6).1
      have HN6 := Lib.hid n6
      have HN7 := Lib.hid (n7 n6)
      clear n6
      have HB := Lib.hid hb
      have HL : Hid (5 < listed.size) := Lib.hid (by rw [hsz]; show 5 < 8; omega)
      have HT : Hid (24 < a.tmps.size) := Lib.hid (by rw [hM.tmps, hz]; decide)
      clear hva hnm hn hu hb
      obtain rfl := Option.some.inj ho
      go_simp
      refine ⟨_, rfl, ⟨fun _ => ⟨HB.out.alloc HB.out.size _, fun _ => ⟨w'.heap.size, ?_, World.alloc_heap_new _ _⟩⟩, fun h6 => ?_, fun h7 => ?_⟩, trivial, trivial⟩
      · show (a.put (some 24) (.slice (some ⟨w'.heap.size, 0, none⟩) 1 1)).tmps.getD 24 undef = _
        exact put_getD_same _ HT.out
      · rw [set_other (by decide), HN6.out] at h6; cases h6
      · rw [set_other (by decide), HN7.out] at h7; cases h7
    | 6, _ =>
      have d : a.tmps[19]?.getD undef = va := hM.dep hix 0 19 (by kernel_rfl) (by kernel_rfl)
      have n6 := hM.not_yet hix
      have l5 : listed.getD 5 false = true := hM.came hix 5 (by kernel_rfl)
      obtain ⟨g, d24, hg⟩ := (HE.out.one n6).2 l5
      have hb := (HE.out.one n6).1
      have HL : Hid (6 < listed.size) := Lib.hid (by rw [hsz]; show 6 < 8; omega)
      have HT : Hid (25 < a.tmps.size) := Lib.hid (by rw [hM.tmps, hz]; decide)
      have HN7 := Lib.hid (n7 n6)
      rw [Array.getD_eq_getD_getElem?] at d24
      refine wp_append_rf2 base (.tmp 19) (.tmp 24) (by obtain rfl := Option.some.inj ho; rfl) va ls (by simpa [Act.eval] using d) (hown.up fun k hk hlt => hb.block k hlt) r g 1 (by simpa [Act.eval] using d24) hg hlen (Nat.le_trans hbase hb.size) ?_
      intro v' w5 hown5 hg5 hk5
      obtain rfl := Option.some.inj ho
      refine ⟨v', rfl, ⟨fun h6 => ?_, fun _ _ => ⟨?_, ?_, ?_⟩, fun h7 => ?_⟩, trivial, trivial⟩
      · simp [HL.out] at h6
      · show OwnRf base w5 ((a.put (some 25) v').tmps.getD 25 undef) _
        rw [put_getD_same _ HT.out]; exact hown5
      · exact ⟨hg5.os.trans hb.os, hg5.tape.trans hb.tape, hg5.output.trans hb.output, Nat.le_trans hb.size hg5.size, fun k hk hne => (hg5.block k (Nat.lt_of_lt_of_le hk hb.size) hne).trans (hb.block k hk)⟩
      · show ((a.put (some 25) v').tmps.getD 25 undef).ownBlock = _ ∨ ∃ g, ((a.put (some 25) v').tmps.getD 25 undef).ownBlock = some g ∧ _
        rw [put_getD_same _ HT.out]
        exact hk5.imp id (fun h => ⟨_, h, hb.size⟩)
      · rw [set_other (by decide), HN7.out] at h7; cases h7
    | 7, _ =>
      have d := hM.old hix 4 (by kernel_rfl) _ ht4
      have l6 : listed.getD 6 false = true := hM.came hix 6 (by kernel_rfl)
      have n7' := hM.not_yet hix
      have hp := HE.out.two l6 n7'
      have hBb : w'.heap[Bx]? = W0.heap[Bx]? := hp.grown.block Bx hBx (fun e => by
        have := (hown.lt Bx e.symm).1; omega)
      obtain ⟨u0, hu0⟩ := hbox
      have c := cell_of_block (o := 0) hBb
      have fz : w'.frozen? ⟨Bx, 0, none⟩ = false := by unfold World.frozen?; rw [hBb, hu0]; rfl
      have c2 : w'.cell? ⟨Bx, 0, none⟩ = some va := c.trans hva
      obtain ⟨v, hv⟩ : ∃ v, v = a.tmps.getD 25 undef := ⟨_, rfl⟩
      rw [← hv] at hp
      have HP := Lib.hid hp
      rw [Array.getD_eq_getD_getElem?] at hv
      replace hv := hv.symm
      have HL : Hid (7 < listed.size) := Lib.hid (by rw [hsz]; show 7 < 8; omega)
      have HL6 := Lib.hid l6
      obtain ⟨ad, nn, cc, rfl⟩ : ∃ ad n c, v = .slice ad n c := by
        rcases hp.own.2 with ⟨rfl, _⟩ | ⟨_, _, _, rfl, _⟩
        · exact ⟨_, _, _, rfl⟩
        · exact ⟨_, _, _, rfl⟩
      clear hva hnm hn hu hp c hBb hu0 l6
      obtain rfl := Option.some.inj ho
      go_simp
      refine ⟨undef, rfl, ⟨fun h6 => ?_, fun _ h7 => ?_, fun _ => ⟨w', _, HP.out, rfl⟩⟩, trivial, trivial⟩
      · rw [set_other (by decide), HL6.out] at h6; cases h6
      · simp [HL.out] at h7
  · intro listed a w' hall hM
    obtain ⟨w1, v, hp, rfl⟩ := hM.ext.three (hall 7 (show 7 < 8 by omega))
    exact hQ a w1 v (hM.tmps.trans hz) hM.defers (mid_frame (lo := 19) (hi := 25) (by kernel_rfl) hM) hp

def rfP10 (va : Value) (b6 ub uo : Nat) (r : Rf) (j : Nat) (v : Value) (_ : World) : Prop := match j with
  | 0 => v = va
  | 1 => v = .pointer (some ⟨b6, 0, none⟩)
  | 2 => v = .pointer (some ⟨ub, uo, none⟩)
  | 3 => v = .pointer (some ⟨ub, uo, none⟩)
  | 4 => v = .agg #[.string r.name, .int .i64 r.n]
  | _ => True
set_option maxRecDepth 100000 in
set_option maxHeartbeats 4000000 in
theorem reg10 {a₀ : Act} {W0 : World} {Q : Exit → Act → World → Prop} {l n Bx b6 ub uo base : Nat} {va : Value} {ls : List Rf} {r : Rf} (ops : Array Oper) (hops : regOf Try.f14 10 = some ops)
    (ht4 : a₀.tmps.getD 5 undef = .pointer (some ⟨Bx, 0, none⟩)) (ht6 : a₀.tmps.getD 7 undef = .pointer (some ⟨b6, 0, none⟩)) (hz : a₀.tmps.size = 64)
    (hBx : Bx < W0.heap.size) (hb6 : b6 < W0.heap.size) (hub : ub < W0.heap.size) (hbox : ∃ u, W0.heap[Bx]? = some (.cells #[u] 127 (0, 0))) (hva : W0.cell? ⟨Bx, 0, none⟩ = some va) (hu : W0.cell? ⟨b6, 0, none⟩ = some (.pointer (some ⟨ub, uo, none⟩)))
    (hnm : W0.cell? ⟨ub, uo, none⟩ = some (.string r.name)) (hn : W0.cell? ⟨ub, uo + 1, none⟩ = some (.int .i64 r.n)) (hown : OwnRf base W0 va ls) (hlen : ls.length + 1 ≤ 1000000000) (hbase : base ≤ W0.heap.size) (hlow : Bx < base)
    (hQ : ∀ (a : Act) w1 v, a.tmps.size = 64 → a.defers = a₀.defers → (∀ t, (t < 28 ∨ 34 < t) → a.tmps.getD t undef = a₀.tmps.getD t undef) → Put1 W0 base va ls r w1 v → Q .normal a (w1.setCell ⟨Bx, 0, none⟩ v)) :
    (Code.region 10 ops true).wpIn (Fence.wide.inRound l) n Try.prog Q a₀ W0 := by
  obtain rfl := Option.some.inj ((rfl : regOf Try.f14 10 = some _).symm.trans hops)
  clear hops
  refine wpIn_region_mids (by kernel_rfl) (RfExt W0 base va ls r Bx 33 34) (rfP10 va b6 ub uo r) (fun _ _ _ => True) (by kernel_rfl) (by rw [hz]; kernel_rfl) (by kernel_rfl) (by kernel_rfl) (fun _ j v w w' _ _ _ h => by unfold rfP10 at h ⊢; exact h) ⟨fun _ => ⟨(Below.refl _ _).drew, fun h => (by cases h)⟩, fun h => (by cases h), fun h => (by cases h)⟩ ?_ ?_
  · intro ix listed a w' hM hix o ho
    have HE := Lib.hid hM.ext
    have hlt := (Array.getElem?_eq_some_iff.1 ho).1
    have hsz := hM.size
    have n7 : listed.getD 6 false = false → listed.getD 7 false = false := fun n6 => by
      rw [Bool.eq_false_iff]; intro h7
      have := anc_listed hM.down 8 7 6 (by kernel_rfl) h7
      rw [n6] at this; cases this
    match ix, hlt with
    | 0, _ =>
      have d := hM.old hix 5 (by kernel_rfl) _ ht4
      have n6 : listed.getD 6 false = false := by
        rw [Bool.eq_false_iff]; intro h6
        have := anc_listed hM.down 8 6 0 (by kernel_rfl) h6
        rw [hM.not_yet hix] at this; cases this
      have hb := (HE.out.one n6).1
      have HN6 := Lib.hid n6
      have HN7 := Lib.hid (n7 n6)
      clear n6
      have c := (hb.cell (p := ⟨Bx, 0, none⟩) hBx).trans hva
      clear hva hnm hn hu
      obtain rfl := Option.some.inj ho
      go_simp
      exact ⟨_, rfl, HE.out.quiet HN6.out HN7.out (by decide) (by decide) (by decide) (by decide) (Below.refl _ _), trivial, rfl⟩
    | 1, _ =>
      have d := hM.old hix 7 (by kernel_rfl) _ ht6
      have n6 : listed.getD 6 false = false := by
        rw [Bool.eq_false_iff]; intro h6
        have := anc_listed hM.down 8 6 1 (by kernel_rfl) h6
        rw [hM.not_yet hix] at this; cases this
      have hb := (HE.out.one n6).1
      have HN6 := Lib.hid n6
      have HN7 := Lib.hid (n7 n6)
      clear n6
      clear hva hnm hn hu
      obtain rfl := Option.some.inj ho
      go_simp
      exact ⟨_, rfl, HE.out.quiet HN6.out HN7.out (by decide) (by decide) (by decide) (by decide) (Below.refl _ _), trivial, rfl⟩
    | 2, _ =>
      have d : a.tmps[29]?.getD undef = .pointer (some ⟨b6, 0, none⟩) := hM.dep hix 1 29 (by kernel_rfl) (by kernel_rfl)
      have n6 : listed.getD 6 false = false := by
        rw [Bool.eq_false_iff]; intro h6
        have := anc_listed hM.down 8 6 2 (by kernel_rfl) h6
        rw [hM.not_yet hix] at this; cases this
      have hb := (HE.out.one n6).1
      have HN6 := Lib.hid n6
      have HN7 := Lib.hid (n7 n6)
      clear n6
      have c := (hb.cell (p := ⟨b6, 0, none⟩) hb6).trans hu
      clear hva hnm hn hu
      obtain rfl := Option.some.inj ho
      go_simp
      exact ⟨_, rfl, HE.out.quiet HN6.out HN7.out (by decide) (by decide) (by decide) (by decide) (Below.refl _ _), trivial, rfl⟩
    | 3, _ =>
      have d : a.tmps[30]?.getD undef = .pointer (some ⟨ub, uo, none⟩) := hM.dep hix 2 30 (by kernel_rfl) (by kernel_rfl)
      have n6 : listed.getD 6 false = false := by
        rw [Bool.eq_false_iff]; intro h6
        have := anc_listed hM.down 8 6 3 (by kernel_rfl) h6
        rw [hM.not_yet hix] at this; cases this
      have hb := (HE.out.one n6).1
      have HN6 := Lib.hid n6
      have HN7 := Lib.hid (n7 n6)
      clear n6
      clear hva hnm hn hu
      obtain rfl := Option.some.inj ho
      go_simp
      exact ⟨_, rfl, HE.out.quiet HN6.out HN7.out (by decide) (by decide) (by decide) (by decide) (Below.refl _ _), trivial, rfl⟩
    | 4, _ =>
      have d : a.tmps[31]?.getD undef = .pointer (some ⟨ub, uo, none⟩) := hM.dep hix 3 31 (by kernel_rfl) (by kernel_rfl)
      have n6 : listed.getD 6 false = false := by
        rw [Bool.eq_false_iff]; intro h6
        have := anc_listed hM.down 8 6 4 (by kernel_rfl) h6
        rw [hM.not_yet hix] at this; cases this
      have hb := (HE.out.one n6).1
      have HN6 := Lib.hid n6
      have HN7 := Lib.hid (n7 n6)
      clear n6
      have c := (hb.cell (p := ⟨ub, uo, none⟩) hub).trans hnm
      have c1 := (hb.cell (p := ⟨ub, uo + 1, none⟩) hub).trans hn
      clear hva hnm hn hu
      obtain rfl := Option.some.inj ho
      go_simp
      exact ⟨_, rfl, HE.out.quiet HN6.out HN7.out (by decide) (by decide) (by decide) (by decide) (Below.refl _ _), trivial, rfl⟩
    | 5, _ =>
      have d : a.tmps[32]?.getD undef = .agg #[.string r.name, .int .i64 r.n] := hM.dep hix 4 32 (by kernel_rfl) (by kernel_rfl)
      have n6 : listed.getD 6 false = false := by
        rw [Bool.eq_false_iff]; intro h6
        have := anc_listed hM.down 8 6 5 (by kernel_rfl) h6
        rw [hM.not_yet hix] at this; cases this
      have hb := (HE.out.one n6).1
      have HN6 := Lib.hid n6
      have HN7 := Lib.hid (n7 n6)
      clear n6
      have HB := Lib.hid hb
      have HL : Hid (5 < listed.size) := Lib.hid (by rw [hsz]; show 5 < 8; omega)
      have HT : Hid (33 < a.tmps.size) := Lib.hid (by rw [hM.tmps, hz]; decide)
      clear hva hnm hn hu hb
      obtain rfl := Option.some.inj ho
      go_simp
      refine ⟨_, rfl, ⟨fun _ => ⟨HB.out.alloc HB.out.size _, fun _ => ⟨w'.heap.size, ?_, World.alloc_heap_new _ _⟩⟩, fun h6 => ?_, fun h7 => ?_⟩, trivial, trivial⟩
      · show (a.put (some 33) (.slice (some ⟨w'.heap.size, 0, none⟩) 1 1)).tmps.getD 33 undef = _
        exact put_getD_same _ HT.out
      · rw [set_other (by decide), HN6.out] at h6; cases h6
      · rw [set_other (by decide), HN7.out] at h7; cases h7
    | 6, _ =>
      have d : a.tmps[28]?.getD undef = va := hM.dep hix 0 28 (by kernel_rfl) (by kernel_rfl)
      have n6 := hM.not_yet hix
      have l5 : listed.getD 5 false = true := hM.came hix 5 (by kernel_rfl)
      obtain ⟨g, d24, hg⟩ := (HE.out.one n6).2 l5
      have hb := (HE.out.one n6).1
      have HL : Hid (6 < listed.size) := Lib.hid (by rw [hsz]; show 6 < 8; omega)
      have HT : Hid (34 < a.tmps.size) := Lib.hid (by rw [hM.tmps, hz]; decide)
      have HN7 := Lib.hid (n7 n6)
      rw [Array.getD_eq_getD_getElem?] at d24
      refine wp_append_rf2 base (.tmp 28) (.tmp 33) (by obtain rfl := Option.some.inj ho; rfl) va ls (by simpa [Act.eval] using d) (hown.up fun k hk hlt => hb.block k hlt) r g 1 (by simpa [Act.eval] using d24) hg hlen (Nat.le_trans hbase hb.size) ?_
      intro v' w5 hown5 hg5 hk5
      obtain rfl := Option.some.inj ho
      refine ⟨v', rfl, ⟨fun h6 => ?_, fun _ _ => ⟨?_, ?_, ?_⟩, fun h7 => ?_⟩, trivial, trivial⟩
      · simp [HL.out] at h6
      · show OwnRf base w5 ((a.put (some 34) v').tmps.getD 34 undef) _
        rw [put_getD_same _ HT.out]; exact hown5
      · exact ⟨hg5.os.trans hb.os, hg5.tape.trans hb.tape, hg5.output.trans hb.output, Nat.le_trans hb.size hg5.size, fun k hk hne => (hg5.block k (Nat.lt_of_lt_of_le hk hb.size) hne).trans (hb.block k hk)⟩
      · show ((a.put (some 34) v').tmps.getD 34 undef).ownBlock = _ ∨ ∃ g, ((a.put (some 34) v').tmps.getD 34 undef).ownBlock = some g ∧ _
        rw [put_getD_same _ HT.out]
        exact hk5.imp id (fun h => ⟨_, h, hb.size⟩)
      · rw [set_other (by decide), HN7.out] at h7; cases h7
    | 7, _ =>
      have d := hM.old hix 5 (by kernel_rfl) _ ht4
      have l6 : listed.getD 6 false = true := hM.came hix 6 (by kernel_rfl)
      have n7' := hM.not_yet hix
      have hp := HE.out.two l6 n7'
      have hBb : w'.heap[Bx]? = W0.heap[Bx]? := hp.grown.block Bx hBx (fun e => by
        have := (hown.lt Bx e.symm).1; omega)
      obtain ⟨u0, hu0⟩ := hbox
      have c := cell_of_block (o := 0) hBb
      have fz : w'.frozen? ⟨Bx, 0, none⟩ = false := by unfold World.frozen?; rw [hBb, hu0]; rfl
      have c2 : w'.cell? ⟨Bx, 0, none⟩ = some va := c.trans hva
      obtain ⟨v, hv⟩ : ∃ v, v = a.tmps.getD 34 undef := ⟨_, rfl⟩
      rw [← hv] at hp
      have HP := Lib.hid hp
      rw [Array.getD_eq_getD_getElem?] at hv
      replace hv := hv.symm
      have HL : Hid (7 < listed.size) := Lib.hid (by rw [hsz]; show 7 < 8; omega)
      have HL6 := Lib.hid l6
      obtain ⟨ad, nn, cc, rfl⟩ : ∃ ad n c, v = .slice ad n c := by
        rcases hp.own.2 with ⟨rfl, _⟩ | ⟨_, _, _, rfl, _⟩
        · exact ⟨_, _, _, rfl⟩
        · exact ⟨_, _, _, rfl⟩
      clear hva hnm hn hu hp c hBb hu0 l6
      obtain rfl := Option.some.inj ho
      go_simp
      refine ⟨undef, rfl, ⟨fun h6 => ?_, fun _ h7 => ?_, fun _ => ⟨w', _, HP.out, rfl⟩⟩, trivial, trivial⟩
      · rw [set_other (by decide), HL6.out] at h6; cases h6
      · simp [HL.out] at h7
  · intro listed a w' hall hM
    obtain ⟨w1, v, hp, rfl⟩ := hM.ext.three (hall 7 (show 7 < 8 by omega))
    exact hQ a w1 v (hM.tmps.trans hz) hM.defers (mid_frame (lo := 28) (hi := 34) (by kernel_rfl) hM) hp

end Go.Proofs.Ytapejaabhkfhjaa

/- Check: the end of the walk (printed by gen_sf.py). -/
import Derived.Test.YtapejaabhkfhjaaMSd
import Derived.BigFrameIn
namespace Go.Proofs.Ytapejaabhkfhjaa
open Go.RowKit

/- a source that lies in block s and in blocks below top -/
structure Placed (W : World) (s top : Nat) (x : Src) (L : Lay) (cs : List Value) (N : Nat → Prop) : Prop where
  src : SrcV N W L cs x
  at0 : L.s = s
  range : W.rangeAt s 0 cs
  lt : ∀ b, InS N s b → b < top
section
variable {W W' : World} {s top : Nat} {x : Src} {L : Lay} {cs : List Value} {N : Nat → Prop}
theorem Placed.up (h : Placed W s top x L cs N) (hb : ∀ b, b < top → W'.heap[b]? = W.heap[b]?) : Placed W' s top x L cs N :=
  ⟨h.src.same (fun _ h => h) (fun b hN => hb b (h.lt b (.inr hN))), h.at0, rangeAt_block h.range (hb s (h.lt s (.inl rfl))), h.lt⟩
theorem Placed.head (h : Placed W s top x L cs N) : W.cell? ⟨s, 21, none⟩ = some (.slice L.reaches.a L.reaches.n L.reaches.c) := by
  have := h.range 21 _ h.src.at.reaches
  rw [Nat.zero_add] at this; exact this
theorem Placed.frm (h : Placed W s top x L cs N) {i : Nat} (hi : i < x.reaches.length) : ∃ b o, L.reaches.a = some ⟨b, o, none⟩ ∧ b < top ∧ W.cell? ⟨b, o + i * 51 + 1, none⟩ = some (.string x.reaches[i].frm.name) ∧ W.cell? ⟨b, o + i * 51 + 1 + 1, none⟩ = some (.int .i64 x.reaches[i].frm.n) := by
  obtain ⟨b, o, c, g1, g2, g3, g4, _, _, c0, c1, c2, c3, c4, c5, c6, c7, rfl, _⟩ := h.src.reaches.2.2 i hi
  exact ⟨b, o, g1, h.lt b (.inr g2), g4 1 _ rfl, g4 2 _ rfl⟩
end
/- how Check ends -/
structure CPost (Q : Exit → Act → World → Prop) (w : World) (x : Src) : Prop where
  early : ∀ (c : Int) tm W, tm.getD 2 undef = .int .i64 c → Below w.heap.size w W → checkS x = c → Q .ret { tmps := tm, defers := [] } W
  done : ∀ (c : Int) D1 D2 tm W, tm.getD 2 undef = .int .i64 c → Below w.heap.size w W → checkS x = c → D1 ≠ D2 → w.heap.size ≤ D1 → w.heap.size ≤ D2 → W.heap[D1]? = some (.deferred (some [])) → W.heap[D2]? = some (.deferred (some [])) → Q .ret { tmps := tm, defers := [coll D2, coll D1] } W
theorem cpost_mk (w : World) (x : Src) : CPost (bodyPostM Fence.wide 10 Try.prog Try.f14 (fun e w' => e = .returned (.int .i64 (checkS x)) ∧ Below w.heap.size w w')) w x := by
  have hres : ∀ (tm : Array Value) (c : Int) (W : World), tm.getD 2 undef = .int .i64 c → (results Try.f14 tm).run Try.prog W = .ok (.int .i64 c) W := fun tm c W h => by
    rw [Array.getD_eq_getD_getElem?] at h
    simp [results, Try.results14, h]
  refine ⟨fun c tm W h2 hb hc => ?_, fun c D1 D2 tm W h2 hb hc hne h1 h2' hd1 hd2 => ?_⟩
  · subst hc
    exact ⟨_, hres tm _ W h2, rfl, hb⟩
  · subst hc
    have e1 : (W.putObj D2 (.deferred none)).heap[D1]? = some (.deferred (some [])) := (World.putObj_heap_other hne).trans hd1
    refine ⟨by simp, .inl ⟨_, _, rfl, run_takeDeferred hd2, ⟨by simp, .inl ⟨_, _, rfl, run_takeDeferred e1, ⟨_, hres tm _ _ h2, rfl, hb.trans ⟨rfl, rfl, rfl, by simp, fun b hb => ?_⟩⟩⟩⟩⟩⟩
    rw [World.putObj_heap_other (by omega), World.putObj_heap_other (by omega)]
/- both lists, in their variables -/
structure Lists (V : World) (base B4 B5 : Nat) (la lb : List Rf) (wr : World) : Prop where
  os : wr.os = V.os
  tape : wr.tape = V.tape
  output : wr.output = V.output
  size : V.heap.size ≤ wr.heap.size
  low : base ≤ V.heap.size
  keep : ∀ (k : Nat) (o : Obj), k ≠ B4 → k ≠ B5 → V.heap[k]? = some o → (∀ c f, o ≠ Obj.cells c 23 f) → wr.heap[k]? = some o
  block : ∀ b, b < base → b ≠ B4 → b ≠ B5 → wr.heap[b]? = V.heap[b]?
  rows : ∃ va vb, wr.heap[B4]? = some (.cells #[va] 127 (0, 0)) ∧ wr.heap[B5]? = some (.cells #[vb] 127 (0, 0)) ∧ Two wr base wr va la vb lb
theorem Lists.put {V wr w1 : World} {base B4 B5 : Nat} {la lb : List Rf} (h : Lists V base B4 B5 la lb wr) (h4 : B4 < base) (h5 : B5 < base) (h45 : B4 ≠ B5) {v1 v2 : Value} {r1 r2 : Rf} (hp : Two wr base w1 v1 (la ++ [r1]) v2 (lb ++ [r2])) : Lists V base B4 B5 (la ++ [r1]) (lb ++ [r2]) ((w1.setCell ⟨B4, 0, none⟩ v1).setCell ⟨B5, 0, none⟩ v2) := by
  obtain ⟨va, vb, r4, r5, hT⟩ := h.rows
  have e4 : w1.heap[B4]? = some (.cells #[va] 127 (0, 0)) := (hp.below.block B4 h4).trans r4
  have e5 : w1.heap[B5]? = some (.cells #[vb] 127 (0, 0)) := (hp.below.block B5 h5).trans r5
  have hset : ∀ b, b ≠ B4 → b ≠ B5 → ((w1.setCell ⟨B4, 0, none⟩ v1).setCell ⟨B5, 0, none⟩ v2).heap[b]? = w1.heap[b]? := fun b n4 n5 => (heap_setCell_other _ _ _ _ n5).trans (heap_setCell_other _ _ _ _ n4)
  have hu : ∀ {v : Value} {l : List Rf}, OwnRf base w1 v l → OwnRf base ((w1.setCell ⟨B4, 0, none⟩ v1).setCell ⟨B5, 0, none⟩ v2) v l := fun ho => ho.up (fun g hg _ => by
    have := (ho.lt hg).1
    exact hset g (by omega) (by omega))
  have hsz : ((w1.setCell ⟨B4, 0, none⟩ v1).setCell ⟨B5, 0, none⟩ v2).heap.size = w1.heap.size := by simp
  refine ⟨hp.below.os.trans h.os, hp.below.tape.trans h.tape, hp.below.output.trans h.output, by rw [hsz]; exact Nat.le_trans h.size hp.below.size, h.low, fun k o n4 n5 ho hn => (hset k n4 n5).trans (hp.keep k o (h.keep k o n4 n5 ho hn) hn), fun b hb n4 n5 => ?_, v1, v2, ?_, ?_, Below.refl _ _, by rw [hsz]; exact hp.size, hu hp.a, hu hp.b, hp.apart, fun _ _ h _ => h⟩
  · rw [hset b n4 n5, hp.below.block b hb]; exact h.block b hb n4 n5
  · rw [heap_setCell_other _ _ _ _ h45, heap_setCell_same w1 B4 0 #[va] 127 v1 e4]; rfl
  · have e : (w1.setCell ⟨B4, 0, none⟩ v1).heap[B5]? = some (.cells #[vb] 127 (0, 0)) := (heap_setCell_other _ _ _ _ (fun e => h45 e.symm)).trans e5
    rw [heap_setCell_same (w1.setCell ⟨B4, 0, none⟩ v1) B5 0 #[vb] 127 v2 e]; rfl
theorem Lists.drew {V wr : World} {base B4 B5 : Nat} {la lb : List Rf} (h : Lists V base B4 B5 la lb wr) : Lists V base B4 B5 la lb wr.drew := by
  obtain ⟨va, vb, r4, r5, hT⟩ := h.rows
  exact ⟨h.os, h.tape, h.output, h.size, h.low, h.keep, h.block, va, vb, r4, r5, Below.refl _ _, hT.size, hT.a, hT.b, hT.apart, fun _ _ h _ => h⟩
theorem OwnRf.rf {B : Nat} {w : World} {v : Value} {l : List Rf} (h : OwnRf B w v l) (hl : l.length ≤ 1000000000) : ∃ h : Hdr, v = h.v ∧ RfRow w h l := by
  obtain ⟨h1, ⟨rfl, h2⟩ | ⟨g, cap, cur, rfl, h4, h5, h6, h7, h8, h9⟩⟩ := h
  · obtain rfl := List.length_eq_zero_iff.1 h2
    exact ⟨⟨none, 0, 0⟩, rfl, rfl, by simp, fun i hi => absurd hi (by simp)⟩
  · have hc : ∀ j u, (l.flatMap rfV)[j]? = some u → w.cell? ⟨g, j, none⟩ = some u := by
      intro j u hj
      rw [← h9] at hj
      have hlt := (List.getElem?_eq_some_iff.1 hj).1
      rw [List.length_take] at hlt
      rw [List.getElem?_take, if_pos (by omega)] at hj
      simp only [World.cell?, h5]
      simpa using hj
    have hg : ∀ (l : List Rf) (i : Nat) (hi : i < l.length), (l.flatMap rfV)[i * 2]? = some (.string l[i].name) ∧ (l.flatMap rfV)[i * 2 + 1]? = some (.int .i64 l[i].n) := by
      intro l
      induction l with
      | nil => intro i hi; simp at hi
      | cons x r ih =>
        intro i hi
        cases i with
        | zero => exact ⟨rfl, rfl⟩
        | succ i =>
          have := ih i (by simpa using hi)
          have e : ((x :: r).flatMap rfV) = rfV x ++ r.flatMap rfV := rfl
          rw [e, List.getElem?_append_right (by simp [rfV]; omega), List.getElem?_append_right (by simp [rfV]; omega)]
          have hl : (rfV x).length = 2 := rfl
          rw [hl, show (i + 1) * 2 - 2 = i * 2 by omega, show (i + 1) * 2 + 1 - 2 = i * 2 + 1 by omega]
          exact this
    refine ⟨⟨some ⟨g, 0, none⟩, l.length, cap⟩, rfl, rfl, by omega, fun i hi => ?_⟩
    obtain ⟨g0, g1⟩ := hg l i hi
    refine ⟨g, 0, rfl, (Array.getElem?_eq_some_iff.1 h5).1, ?_, ?_⟩
    · rw [Nat.zero_add]; exact hc _ _ g0
    · rw [Nat.zero_add]; exact hc _ _ g1
theorem take_next {α : Type} {l : List α} {i : Nat} {a : α} (h : l[i]? = some a) : l.take i ++ [a] = l.take (i + 1) := by
  rw [List.take_add_one, h]; rfl

set_option maxRecDepth 100000 in
set_option maxHeartbeats 16000000 in
theorem chk_c {Q : Exit → Act → World → Prop} {w V : World} {x : Src} {L1 L2 : Lay} {cs1 cs2 : List Value} {N1 N2 : Nat → Prop} {base B3 B4 B5 D1 D2 : Nat} (hQ : CPost Q w x) (hw : wrongS x = 0)
    (h1 : Placed V w.heap.size B4 x L1 cs1 N1) (h2 : Placed V B3 B4 (resolved x) L2 cs2 N2) (h45 : B4 < B5) (h5 : B5 < base) (hb : Below w.heap.size w V) (hL : Lists V base B4 B5 (refsU x) (refsU (resolved x)) V)
    (hD : D1 ≠ D2 ∧ w.heap.size ≤ D1 ∧ w.heap.size ≤ D2) (hd1 : V.heap[D1]? = some (.deferred (some []))) (hd2 : V.heap[D2]? = some (.deferred (some []))) (hlen : (refsA x).length ≤ 900000000) (hlen2 : (refsA (resolved x)).length ≤ 900000000)
    (u0 u6 u7 u8 u9 u10 u11 u12 u13 u14 u15 u16 u17 u18 u19 u20 u21 u22 u23 u24 u25 u26 u27 u28 u29 u30 u31 u32 u33 u34 u35 u36 u37 u38 u39 u40 u41 u42 u43 u44 u45 u46 u47 u48 u49 u50 u51 u52 u53 u54 u55 u56 u57 u58 u59 u60 u61 u62 u63 : Value) :
    wpAt 14 Try.prog (tailC 6 (Try.f14.body.getD .skip)) Q { tmps := #[u0, .pointer (some ⟨w.heap.size, 0, none⟩), .int .i64 0, .pointer (some ⟨B3, 0, none⟩), .pointer (some ⟨B4, 0, none⟩), .pointer (some ⟨B5, 0, none⟩), u6, u7, u8, u9, u10, u11, u12, u13, u14, u15, u16, u17, u18, u19, u20, u21, u22, u23, u24, u25, u26, u27, u28, u29, u30, u31, u32, u33, u34, u35, u36, u37, u38, u39, u40, u41, u42, u43, u44, u45, u46, u47, u48, u49, u50, u51, u52, u53, u54, u55, u56, u57, u58, u59, u60, u61, u62, u63], defers := [coll D2, coll D1] } V := by
  have hlt0 : w.heap.size < B4 := h1.lt _ (.inl rfl)
  have hlt3 : B3 < B4 := h2.lt _ (.inl rfl)
  have hlow := hL.low
  have HBl : Hid (∀ la lb wr, Lists V base B4 B5 la lb wr → ∀ b, b < B4 → wr.heap[b]? = V.heap[b]?) := Lib.hid (fun la lb wr h b hb => h.block b (by omega) (by omega) (by omega))
  have HDD : Hid (∀ la lb wr, Lists V base B4 B5 la lb wr → wr.heap[D1]? = some (.deferred (some [])) ∧ wr.heap[D2]? = some (.deferred (some []))) := Lib.hid (fun la lb wr h => by
    obtain ⟨va, vb, r4, r5, _⟩ := hL.rows
    exact ⟨h.keep D1 _ (fun e => by rw [e, r4] at hd1; cases hd1) (fun e => by rw [e, r5] at hd1; cases hd1) hd1 (fun _ _ e => by cases e), h.keep D2 _ (fun e => by rw [e, r4] at hd2; cases hd2) (fun e => by rw [e, r5] at hd2; cases hd2) hd2 (fun _ _ e => by cases e)⟩)
  have HBw : Hid (∀ la lb wr, Lists V base B4 B5 la lb wr → Below w.heap.size w wr) := Lib.hid (fun la lb wr h => hb.trans ⟨h.os, h.tape, h.output, h.size, fun b hlt => h.block b (by omega) (by omega) (by omega)⟩)
  have hc := h1.head
  have HH2 := Lib.hid h2.head
  have HF1 : Hid (∀ i (hi : i < x.reaches.length), ∃ b o, L1.reaches.a = some ⟨b, o, none⟩ ∧ b < B4 ∧ V.cell? ⟨b, o + i * 51 + 1, none⟩ = some (.string x.reaches[i].frm.name) ∧ V.cell? ⟨b, o + i * 51 + 1 + 1, none⟩ = some (.int .i64 x.reaches[i].frm.n)) := Lib.hid (fun i hi => h1.frm hi)
  have HF2 : Hid (∀ i (hi : i < (resolved x).reaches.length), ∃ b o, L2.reaches.a = some ⟨b, o, none⟩ ∧ b < B4 ∧ V.cell? ⟨b, o + i * 51 + 1, none⟩ = some (.string (resolved x).reaches[i].frm.name) ∧ V.cell? ⟨b, o + i * 51 + 1 + 1, none⟩ = some (.int .i64 (resolved x).reaches[i].frm.n)) := Lib.hid (fun i hi => h2.frm hi)
  have HN1 : Hid (L1.reaches.n = x.reaches.length) := Lib.hid h1.src.reaches.1
  have HN2 : Hid (L2.reaches.n = x.reaches.length) := Lib.hid (h2.src.reaches.1.trans (reaches_len x))
  have hn47 : L1.reaches.n ≤ 140737488355328 := by rw [HN1.out]; exact h1.src.reaches.2.1
  have HH1 := Lib.hid hc
  have HQ := Lib.hid hQ
  have HArith : Hid (w.heap.size < B4 ∧ B3 < B4 ∧ B4 < B5 ∧ B5 < base ∧ base ≤ V.heap.size) := Lib.hid ⟨hlt0, hlt3, h45, h5, hlow⟩
  have HD := Lib.hid hD
  have HLen := Lib.hid hlen; have HLen2 := Lib.hid hlen2
  have HC : Hid (checkS x = if refsA x = refsA (resolved x) then 0 else 170) := Lib.hid (by unfold checkS; rw [if_pos hw])
  have HL0 : Hid (Lists V base B4 B5 (refsU x ++ (x.reaches.map fun d : ReachD => d.frm).take 0) (refsU (resolved x) ++ ((resolved x).reaches.map fun d : ReachD => d.frm).take 0) V) := Lib.hid (by rw [List.take_zero, List.take_zero, List.append_nil, List.append_nil]; exact hL)
  generalize L1.reaches = rr1 at hc HF1 HN1 hn47 HH1
  obtain ⟨ra, rn, rc⟩ := rr1
  generalize L2.reaches = rr2 at HH2 HF2 HN2
  obtain ⟨ra2, rn2, rc2⟩ := rr2
  simp only at hc HF1 HN1 hn47 HH1 HH2 HF2 HN2
  clear hQ hw h1 h2 h45 h5 hb hL hD hd1 hd2 hlen hlen2 hlt0 hlt3 hlow
  unfold coll
  refine wpAt_seq (wpAt_of_wp ?_)
  go_wp2
  clear hc
  go_loopw [38] (fun iv wr => ∃ i : Nat, iv = .int .i64 i ∧ i ≤ rn ∧ Hid (Lists V base B4 B5 (refsU x ++ (x.reaches.map fun d : ReachD => d.frm).take i) (refsU (resolved x) ++ ((resolved x).reaches.map fun d : ReachD => d.frm).take i) wr)) (fun iv _ => rn - (intOf iv).toNat)
  case atStart => exact ⟨0, rfl, Nat.zero_le _, HL0⟩
  case round =>
    clear HL0
    obtain ⟨i, rfl, hi, HL⟩ := hrel
    by_cases hlt : i < rn
    · have hki : (i : Int) < (rn : Int) := by omega
      have hl1 : i < x.reaches.length := by rw [← HN1.out]; exact hlt
      have hl2 : i < (resolved x).reaches.length := by rw [reaches_len]; exact hl1
      obtain ⟨b1, o1, rfl, g1, x1, y1⟩ := HF1.out i hl1
      obtain ⟨b2, o2, rfl, g2, x2, y2⟩ := HF2.out i hl2
      have hmL : (x.reaches.map fun d : ReachD => d.frm)[i]? = some x.reaches[i].frm := by simp [hl1]
      have hmR : ((resolved x).reaches.map fun d : ReachD => d.frm)[i]? = some (resolved x).reaches[i].frm := by simp [hl2]
      have HNext : Hid (∀ wr, Lists V base B4 B5 ((refsU x ++ (x.reaches.map fun d : ReachD => d.frm).take i) ++ [x.reaches[i].frm]) ((refsU (resolved x) ++ ((resolved x).reaches.map fun d : ReachD => d.frm).take i) ++ [(resolved x).reaches[i].frm]) wr → Lists V base B4 B5 (refsU x ++ (x.reaches.map fun d : ReachD => d.frm).take (i + 1)) (refsU (resolved x) ++ ((resolved x).reaches.map fun d : ReachD => d.frm).take (i + 1)) wr) := Lib.hid (fun wr h => by
        rw [List.append_assoc, List.append_assoc] at h
        rw [take_next hmL, take_next hmR] at h
        exact h)
      have HLa : Hid ((refsU x ++ (x.reaches.map fun d : ReachD => d.frm).take i).length + 1 ≤ 1000000000) := Lib.hid (by
        have := HLen.out
        unfold refsA at this
        simp only [List.length_append, List.length_take, List.length_map] at this ⊢
        omega)
      have HLb : Hid ((refsU (resolved x) ++ ((resolved x).reaches.map fun d : ReachD => d.frm).take i).length + 1 ≤ 1000000000) := Lib.hid (by
        have := HLen2.out
        unfold refsA at this
        simp only [List.length_append, List.length_take, List.length_map] at this ⊢
        omega)
      generalize x.reaches[i].frm = r1 at x1 y1 HNext
      generalize (resolved x).reaches[i].frm = r2 at x2 y2 HNext
      obtain ⟨va, vb, q4, q5, hT⟩ := HL.out.rows
      have HT := Lib.hid hT; have HQ4 := Lib.hid q4; have HQ5 := Lib.hid q5
      have HX1 : Hid (wr.cell? ⟨b1, o1 + i * 51 + 1, none⟩ = some (.string r1.name)) := Lib.hid ((cell_of_block (HBl.out _ _ _ HL.out b1 g1)).trans x1)
      have HY1 : Hid (wr.cell? ⟨b1, o1 + i * 51 + 1 + 1, none⟩ = some (.int .i64 r1.n)) := Lib.hid ((cell_of_block (HBl.out _ _ _ HL.out b1 g1)).trans y1)
      have HX2 : Hid (wr.cell? ⟨b2, o2 + i * 51 + 1, none⟩ = some (.string r2.name)) := Lib.hid ((cell_of_block (HBl.out _ _ _ HL.out b2 g2)).trans x2)
      have HY2 : Hid (wr.cell? ⟨b2, o2 + i * 51 + 1 + 1, none⟩ = some (.int .i64 r2.n)) := Lib.hid ((cell_of_block (HBl.out _ _ _ HL.out b2 g2)).trans y2)
      have HG : Hid (b1 < B4 ∧ b2 < B4 ∧ i < rn ∧ i < rn2) := Lib.hid ⟨g1, g2, hlt, by rw [HN2.out]; exact hl1⟩
      clear hl1 hl2 x1 y1 x2 y2 hmL hmR q4 q5 hT g1 g2
      go_wp2_with fail
      refine reg14 (base := base) (B := w.heap.size) (B3 := B3) (B4 := B4) (B5 := B5) (b1 := b1) (o1 := o1) (n1 := rn) (c1 := rc) (b2 := b2) (o2 := o2) (n2 := rn2) (c2 := rc2) (i := i) (va := va) (vb := vb) (la := refsU x ++ (x.reaches.map fun d : ReachD => d.frm).take i) (lb := refsU (resolved x) ++ ((resolved x).reaches.map fun d : ReachD => d.frm).take i) (r1 := r1) (r2 := r2) _ ?_ ?_ ?_ ?_ ?_ ?_ ?_ ?_ ?_ ?_ ?_ ?_ ?_ ?_ ?_ ?_ ?_ ?_ ?_ ?_ ?_ ?_ ?_ ?_ ?_ ?_ ?_ ?_ ?_ ?_
      · rfl
      · rfl
      · rfl
      · rfl
      · rfl
      · rfl
      · rfl
      · have := HArith.out; omega
      · have := HArith.out; omega
      · have := HArith.out; omega
      · have := HArith.out; omega
      · have := HArith.out; have := HG.out; omega
      · have := HArith.out; have := HG.out; omega
      · have := HArith.out; omega
      · exact HG.out.2.2.1
      · exact HG.out.2.2.2
      · exact ⟨_, HQ4.out⟩
      · exact ⟨_, HQ5.out⟩
      · simp [World.cell?, HQ4.out]
      · simp [World.cell?, HQ5.out]
      · exact (cell_of_block (HBl.out _ _ _ HL.out _ HArith.out.1)).trans HH1.out
      · exact (cell_of_block (HBl.out _ _ _ HL.out _ HArith.out.2.1)).trans HH2.out
      · exact HX1.out
      · exact HY1.out
      · exact HX2.out
      · exact HY2.out
      · exact HT.out
      · exact HLa.out
      · exact HLb.out
      · intro a w1 v1 v2 ha1 ha2 ha3 hp
        have HL2 := Lib.hid (HNext.out _ (HL.out.put (by have := HArith.out; omega) HArith.out.2.2.2.1 (by have := HArith.out; omega) hp))
        obtain ⟨v41, v42, v43, v44, v45, v46, v47, v48, v49, v50, v51, v52, v53, v54, v55, v56, v57, v58, rfl⟩ : ∃ v41 v42 v43 v44 v45 v46 v47 v48 v49 v50 v51 v52 v53 v54 v55 v56 v57 v58 : Value, a = { tmps := #[u0, .pointer (some ⟨w.heap.size, 0, none⟩), .int .i64 0, .pointer (some ⟨B3, 0, none⟩), .pointer (some ⟨B4, 0, none⟩), .pointer (some ⟨B5, 0, none⟩), u6, u7, .int .i64 i, u9, u10, u11, u12, u13, u14, u15, u16, u17, u18, u19, u20, u21, u22, u23, u24, u25, u26, u27, u28, u29, u30, u31, u32, u33, u34, .pointer (some ⟨w.heap.size, 21, none⟩), .slice (some ⟨b1, o1, none⟩) rn rc, .int .i64 rn, .int .i64 i, .bool true, .int .i64 i, v41, v42, v43, v44, v45, v46, v47, v48, v49, v50, v51, v52, v53, v54, v55, v56, v57, v58, u59, u60, u61, u62, u63], defers := [coll D2, coll D1] } := by
          refine ⟨a.tmps.getD 41 undef, a.tmps.getD 42 undef, a.tmps.getD 43 undef, a.tmps.getD 44 undef, a.tmps.getD 45 undef, a.tmps.getD 46 undef, a.tmps.getD 47 undef, a.tmps.getD 48 undef, a.tmps.getD 49 undef, a.tmps.getD 50 undef, a.tmps.getD 51 undef, a.tmps.getD 52 undef, a.tmps.getD 53 undef, a.tmps.getD 54 undef, a.tmps.getD 55 undef, a.tmps.getD 56 undef, a.tmps.getD 57 undef, a.tmps.getD 58 undef, (rebuild [41, 42, 43, 44, 45, 46, 47, 48, 49, 50, 51, 52, 53, 54, 55, 56, 57, 58] (ha1.trans rfl) ha2 (fun t ht => ha3 t ?_)).trans (by kernel_rfl)⟩
          simp at ht; omega
        clear ha1 ha2 ha3 hp
        unfold coll
        go_wp2
        exact ⟨⟨i + 1, by push_cast; rfl, by omega, HL2⟩, by simp [intOf]; omega⟩
    · obtain rfl : i = rn := by omega
      have hki : decide ((i : Int) < (i : Int)) = false := by simp
      have HLf : Hid (Lists V base B4 B5 (refsA x) (refsA (resolved x)) wr) := Lib.hid (by
        have h := HL.out
        rw [HN1.out] at h
        have e1 : (x.reaches.map fun d : ReachD => d.frm).take x.reaches.length = x.reaches.map fun d : ReachD => d.frm := by
          rw [List.take_of_length_le (by simp)]
        have e2 : ((resolved x).reaches.map fun d : ReachD => d.frm).take x.reaches.length = (resolved x).reaches.map fun d : ReachD => d.frm := by
          rw [List.take_of_length_le (by rw [List.length_map, reaches_len]; exact Nat.le_refl _)]
        rw [e1, e2] at h
        exact h)
      obtain ⟨va, vb, q4, q5, hT⟩ := HLf.out.rows
      obtain ⟨⟨a1, n1, k1⟩, ea, ra1⟩ := hT.a.rf (by have := HLen.out; omega)
      obtain ⟨⟨a2, n2, k2⟩, eb, ra2⟩ := hT.b.rf (by have := HLen2.out; omega)
      unfold Hdr.v at ea eb
      simp only at ea eb
      subst ea eb
      have RA := Lib.hid ra1; have RB := Lib.hid ra2
      have c4 : wr.cell? ⟨B4, 0, none⟩ = some (.slice a1 n1 k1) := by simp [World.cell?, q4]
      have c5 : wr.cell? ⟨B5, 0, none⟩ = some (.slice a2 n2 k2) := by simp [World.cell?, q5]
      clear q4 q5 hT ra1 ra2 HL
      go_wp2
      by_cases he : refsA x = refsA (resolved x)
      · have HDe : Hid (decide (refsA x = refsA (resolved x)) = true) := Lib.hid (decide_eq_true he)
        have HCk : Hid (checkS x = 0) := Lib.hid (by rw [HC.out, if_pos he])
        clear he
        refine wpAt_seq (wpAt_of_wp ?_)
        go_wp2_with (first | (go_at_call 64; refine (equal_refs (h1 := ⟨a1, n1, k1⟩) (h2 := ⟨a2, n2, k2⟩) RA.out RB.out).mono ?_; rintro e w5 ⟨he5, hb5⟩; rw [HDe.out] at he5; subst he5; have HB5 := Lib.hid hb5; clear hb5))
        refine wpAt_of_wp ?_
        go_wp2
        exact HQ.out.done 0 D1 D2 _ _ rfl ((HBw.out _ _ _ HLf.out).trans (HB5.out.mono (HBw.out _ _ _ HLf.out).size)) HCk.out HD.out.1 HD.out.2.1 HD.out.2.2 ((HB5.out.block _ (Array.getElem?_eq_some_iff.1 (HDD.out _ _ _ HLf.out).1).1).trans (HDD.out _ _ _ HLf.out).1) ((HB5.out.block _ (Array.getElem?_eq_some_iff.1 (HDD.out _ _ _ HLf.out).2).1).trans (HDD.out _ _ _ HLf.out).2)
      · have HDe : Hid (decide (refsA x = refsA (resolved x)) = false) := Lib.hid (decide_eq_false he)
        have HCk : Hid (checkS x = 170) := Lib.hid (by rw [HC.out, if_neg he])
        clear he
        refine wpAt_seq (wpAt_of_wp ?_)
        go_wp2_with (first | (go_at_call 64; refine (equal_refs (h1 := ⟨a1, n1, k1⟩) (h2 := ⟨a2, n2, k2⟩) RA.out RB.out).mono ?_; rintro e w5 ⟨he5, hb5⟩; rw [HDe.out] at he5; subst he5; have HB5 := Lib.hid hb5; clear hb5))
        exact HQ.out.done 170 D1 D2 _ _ rfl ((HBw.out _ _ _ HLf.out).trans (HB5.out.mono (HBw.out _ _ _ HLf.out).size)) HCk.out HD.out.1 HD.out.2.1 HD.out.2.2 ((HB5.out.block _ (Array.getElem?_eq_some_iff.1 (HDD.out _ _ _ HLf.out).1).1).trans (HDD.out _ _ _ HLf.out).1) ((HB5.out.block _ (Array.getElem?_eq_some_iff.1 (HDD.out _ _ _ HLf.out).2).1).trans (HDD.out _ _ _ HLf.out).2)

end Go.Proofs.Ytapejaabhkfhjaa

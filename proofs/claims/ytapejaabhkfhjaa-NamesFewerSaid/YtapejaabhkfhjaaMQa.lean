/- Texts Qa Pg Ph in one: each says what it proves. -/
import Derived.Test.YtapejaabhkfhjaaMOb
import Derived.Test.YtapejaabhkfhjaaMOc
import Derived.Test.YtapejaabhkfhjaaMPd
/- The program's Resolve: its find; what is deferred. -/
namespace Go.Proofs.Ytapejaabhkfhjaa
open Go.RowKit

set_option maxHeartbeats 2000000 in
theorem find_yes {W : World} {b o m i : Nat} {s : ByteArray} {z most : Int} {nms : List ByteArray} (h0 : W.cell? ⟨b, o, none⟩ = some (.string s)) (h1 : W.cell? ⟨b, o + 1, none⟩ = some (.int .i64 z)) (hf : W.frozen? ⟨b, o + 1, none⟩ = false) (hm : MapIs W m nms) (hs : s.size ≤ maxLen) (hp : posOf nms s = some i) (hi : (i : Int) < most) :
    Calls Try.prog 49 #[.pointer (some ⟨b, o, none⟩), .map (some m), .int .i64 most] W fun e w' => e = .returned (.tuple #[]) ∧ w' = W.setCell ⟨b, o + 1, none⟩ (.int .i64 (i : Int)) := by
  have hlk := hm.look s hs
  simp only [lookV, hp] at hlk
  have HP := Lib.hid hp
  clear hp hm
  go_enter Try.func49, Try.ntmps49
  go_wp2_with (first | (go_at_call 50; refine (need_yes _ _).mono ?_; rintro e w5 ⟨rfl, rfl⟩))
  go_end0
  exact ⟨rfl, rfl⟩
set_option maxHeartbeats 2000000 in
theorem find_no {W : World} {b o m : Nat} {s : ByteArray} {most : Int} {nms : List ByteArray} (h0 : W.cell? ⟨b, o, none⟩ = some (.string s)) (hm : MapIs W m nms) (hs : s.size ≤ maxLen) (hp : ∀ i, posOf nms s = some i → ¬ (i : Int) < most) :
    Calls Try.prog 49 #[.pointer (some ⟨b, o, none⟩), .map (some m), .int .i64 most] W fun e w' => e = .panicked (errP 170) ∧ w' = W := by
  have hlk := hm.look s hs
  cases hq : posOf nms s with
  | none =>
    simp only [lookV, hq] at hlk
    have HP := Lib.hid hp; have HQ := Lib.hid hq
    clear hp hm hq
    go_enter Try.func49, Try.ntmps49
    go_wp2_with (first | (go_at_call 50; refine (need_no _ _).mono ?_; rintro e w5 ⟨rfl, rfl⟩))
    exact ⟨rfl, rfl, rfl⟩
  | some i =>
    have hi := hp i hq
    simp only [lookV, hq] at hlk
    have HQ := Lib.hid hq
    clear hp hm hq
    go_enter Try.func49, Try.ntmps49
    go_wp2_with (first | (go_at_call 50; refine (need_no _ _).mono ?_; rintro e w5 ⟨rfl, rfl⟩))
    exact ⟨rfl, rfl, rfl⟩

end Go.Proofs.Ytapejaabhkfhjaa

/- Cloned rows, piece by piece. -/
namespace Go.Proofs.Ytapejaabhkfhjaa
open Go.RowKit

/- cloned rows -/
def ClR {α : Type} (B : Nat) (W : World) (t sz : Nat) (Q : List Value → α → Prop) (h : Hdr) (l : List α) : Prop :=
  h.n = l.length ∧ ∀ i (hi : i < l.length), ∃ g cs, h.a = some ⟨g, 0, none⟩ ∧ B ≤ g ∧ Ty W g t ∧ cs.length = sz ∧ W.rangeAt g (i * sz) cs ∧ Q cs l[i]
theorem ClR.of {α : Type} {B B' : Nat} {W : World} {t sz : Nat} {Q : List Value → α → Prop} {h : Hdr} {l : List α} (hn : h.n = l.length) (hB : B ≤ B') (hr : ∀ i (hi : i < l.length), ∃ g cs, h.a = some ⟨g, 0, none⟩ ∧ B' ≤ g ∧ Ty W g t ∧ cs.length = sz ∧ W.rangeAt g (i * sz) cs ∧ Q cs l[i]) : ClR B W t sz Q h l :=
  ⟨hn, fun i hi => by
    obtain ⟨g, cs, h1, h2, h3⟩ := hr i hi
    exact ⟨g, cs, h1, Nat.le_trans hB h2, h3⟩⟩
theorem ClR.up {α : Type} {B : Nat} {W W' : World} {t sz : Nat} {Q : List Value → α → Prop} {h : Hdr} {l : List α} (hr : ClR B W t sz Q h l) (hb : ∀ b, B ≤ b → b < W.heap.size → W'.heap[b]? = W.heap[b]?) : ClR B W' t sz Q h l :=
  ⟨hr.1, fun i hi => by
    obtain ⟨g, cs, h1, h2, h3, h4, h5, h6⟩ := hr.2 i hi
    exact ⟨g, cs, h1, h2, h3.same (hb g h2 h3.lt), h4, rangeAt_block h5 (hb g h2 h3.lt), h6⟩⟩
theorem ClR.upT {α : Type} {B : Nat} {W W' : World} {t sz : Nat} {Q : List Value → α → Prop} {h : Hdr} {l : List α} (hr : ClR B W t sz Q h l) (hb : ∀ b, B ≤ b → Ty W b t → W'.heap[b]? = W.heap[b]?) : ClR B W' t sz Q h l :=
  ⟨hr.1, fun i hi => by
    obtain ⟨g, cs, h1, h2, h3, h4, h5, h6⟩ := hr.2 i hi
    exact ⟨g, cs, h1, h2, h3.same (hb g h2 h3), h4, rangeAt_block h5 (hb g h2 h3), h6⟩⟩

theorem split_cons {w : World} {b o : Nat} {v : Value} {l : List Value} (h : w.rangeAt b o (v :: l)) : w.cell? ⟨b, o, none⟩ = some v ∧ w.rangeAt b (o + 1) l :=
  ⟨h 0 v rfl, fun j u hu => by have := h (j + 1) u (by simpa using hu); rw [show o + 1 + j = o + (j + 1) by omega]; exact this⟩
theorem split_app {w : World} {b o : Nat} {l m : List Value} (h : w.rangeAt b o (l ++ m)) : w.rangeAt b o l ∧ w.rangeAt b (o + l.length) m :=
  ⟨fun j u hu => h j u (by rw [List.getElem?_append_left (List.getElem?_eq_some_iff.1 hu).1]; exact hu), fun j u hu => by
    have := h (l.length + j) u (by rw [List.getElem?_append_right (by omega), Nat.add_sub_cancel_left]; exact hu)
    rw [show o + l.length + j = o + (l.length + j) by omega]; exact this⟩
theorem split_exp {w : World} {b o : Nat} {c l : List Value} (hc : c.length = 6) (h : w.rangeAt b o (c ++ l)) : w.rangeAt b o c ∧ w.rangeAt b (o + 6) l := by
  have := split_app h
  rw [hc] at this; exact this
theorem split_rf {w : World} {b o : Nat} {r : Rf} {l : List Value} (hs : r.name.size ≤ maxLen) (to : Int) (h : w.rangeAt b o (rfV r ++ l)) : RV w to r b o ∧ w.rangeAt b (o + 2) l := by
  obtain ⟨h1, h2⟩ := split_app h
  exact ⟨⟨hs, h1 0 _ rfl, h1 1 _ rfl⟩, h2⟩
section
variable {N N' : Nat → Prop} {w W : World} {B : Nat} {h : Hdr}
theorem ev_of (hb : ∀ b, N b → W.heap[b]? = w.heap[b]?) {e : Ex} {c : List Value} {b o : Nat} (lt : Int) (hv : ExV N w e c) (hr : W.rangeAt b o c) : EV N W lt e b o := ⟨c, hr, hv.same (fun _ h => h) hb⟩
theorem rows_of {α : Type} {t sz : Nat} {Q : List Value → α → Prop} {P : Nat → Nat → Nat → α → Prop} {l : List α} (hr : ClR B W t sz Q h l) (hl : l.length ≤ 100000) (hN : ∀ g, B ≤ g → N' g) (hp : ∀ i (_ : i < l.length) g cs, h.a = some ⟨g, 0, none⟩ → W.rangeAt g (i * sz) cs → Q cs l[i] → P i g (i * sz) l[i]) : RowsP N' W t sz P h l :=
  ⟨hr.1, by omega, fun i hi => by
    obtain ⟨g, cs, h1, h2, h3, h4, h5, h6⟩ := hr.2 i hi
    exact ⟨g, h1, hN g h2, h3, hp i hi g cs h1 h5 h6⟩⟩
variable (hb : ∀ b, N b → W.heap[b]? = w.heap[b]?)
include hb
theorem piece_let (i g o : Nat) (cs : List Value) (d : LetD) (hr : W.rangeAt g o cs) (h : LetV N w cs d) : LetP (EV N W) W i g o d := by
  obtain ⟨h1, c, rfl, h2⟩ := h
  obtain ⟨r0, r1⟩ := split_cons hr
  exact ⟨⟨h1, r0⟩, ev_of hb _ h2 r1⟩
theorem piece_crop (i g o : Nat) (cs : List Value) (d : CropD) (hr : W.rangeAt g o cs) (h : CropV N w cs d) : CropP (EV N W) W i g o d := by
  obtain ⟨h1, c, rfl, h2⟩ := h
  obtain ⟨r0, r1⟩ := split_cons hr
  exact ⟨⟨h1, r0⟩, ev_of hb _ h2 r1⟩
theorem piece_reach (i g o : Nat) (cs : List Value) (d : ReachD) (hr : W.rangeAt g o cs) (h : ReachV N w cs d) : ReachP (EV N W) (RV W) W i g o d := by
  obtain ⟨h1, h2, c0, c1, c2, c3, c4, c5, c6, c7, rfl, g0, g1, g2, g3, g4, g5, g6, g7⟩ := h
  obtain ⟨r0, r⟩ := split_cons hr
  obtain ⟨f, r⟩ := split_rf h2 (if i = 0 then 0 else 6) r
  obtain ⟨s0, r⟩ := split_exp g0.len r
  obtain ⟨s1, r⟩ := split_exp g1.len r
  obtain ⟨s2, r⟩ := split_exp g2.len r
  obtain ⟨s3, r⟩ := split_exp g3.len r
  obtain ⟨s4, r⟩ := split_exp g4.len r
  obtain ⟨s5, r⟩ := split_exp g5.len r
  obtain ⟨s6, s7⟩ := split_exp g6.len r
  exact ⟨⟨h1, r0⟩, f, ev_of hb _ g0 s0, ev_of hb _ g1 s1, ev_of hb _ g2 s2, ev_of hb _ g3 s3, ev_of hb _ g4 s4, ev_of hb _ g5 s5, ev_of hb _ g6 s6, ev_of hb _ g7 s7⟩
theorem piece_farm (i g o : Nat) (cs : List Value) (d : FarmD) (hr : W.rangeAt g o cs) (h : FarmV N w cs d) : FarmP (EV N W) (RV W) W i g o d := by
  obtain ⟨h1, h2, h3, c0, rfl, g0⟩ := h
  obtain ⟨r0, r⟩ := split_cons hr
  obtain ⟨f, r⟩ := split_rf h2 4 r
  obtain ⟨v, r⟩ := split_cons r
  obtain ⟨s0, r⟩ := split_exp g0.len r
  obtain ⟨f2, _⟩ := split_rf (l := []) h3 (if d.river then 0 else 3) (by rw [List.append_nil]; exact r)
  exact ⟨⟨h1, r0⟩, f, v, ev_of hb _ g0 s0, f2⟩
theorem piece_turn (i g o : Nat) (cs : List Value) (d : TurnD) (hr : W.rangeAt g o cs) (h : TurnV N w cs d) : TurnP (EV N W) (RV W) i g o d := by
  obtain ⟨h1, c0, rfl, g0⟩ := h
  obtain ⟨f, r⟩ := split_rf h1 5 hr
  exact ⟨f, ev_of hb _ g0 r⟩
theorem piece_right (i g o : Nat) (cs : List Value) (d : RightD) (hr : W.rangeAt g o cs) (h : RightV N w cs d) : RightP (EV N W) (RV W) W i g o d := by
  obtain ⟨h1, h2, h3, c0, c1, c2, c3, c4, rfl, g0, g1, g2, g3, g4⟩ := h
  obtain ⟨k, r⟩ := split_cons hr
  obtain ⟨r0, r⟩ := split_cons r
  obtain ⟨f, r⟩ := split_rf h2 5 r
  obtain ⟨f2, r⟩ := split_rf h3 (if d.kind = 1 then 0 else 4) r
  obtain ⟨v, r⟩ := split_cons r
  obtain ⟨s0, r⟩ := split_exp g0.len r
  obtain ⟨s1, r⟩ := split_exp g1.len r
  obtain ⟨s2, r⟩ := split_exp g2.len r
  obtain ⟨s3, s4⟩ := split_exp g3.len r
  exact ⟨k, ⟨h1, r0⟩, f, f2, v, ev_of hb _ g0 s0, ev_of hb _ g1 s1, ev_of hb _ g2 s2, ev_of hb _ g3 s3, ev_of hb _ g4 s4⟩
theorem piece_duty (i g o : Nat) (cs : List Value) (d : DutyD) (hr : W.rangeAt g o cs) (h : DutyV N w cs d) : DutyP (EV N W) (RV W) W i g o d := by
  obtain ⟨h1, h2, h3, c0, rfl, g0⟩ := h
  obtain ⟨r0, r⟩ := split_cons hr
  obtain ⟨f, r⟩ := split_rf h2 5 r
  obtain ⟨f2, r⟩ := split_rf h3 4 r
  exact ⟨⟨h1, r0⟩, f, f2, ev_of hb _ g0 r⟩
end

/- the lists of a source are not too long -/
structure Slim (x : Src) : Prop where
  lets : x.lets.length ≤ 100000
  crops : x.crops.length ≤ 100000
  reaches : x.reaches.length ≤ 100000
  farms : x.farms.length ≤ 100000
  rots : x.rots.length ≤ 100000
  rights : x.rights.length ≤ 100000
  duties : x.duties.length ≤ 100000
  turns : ∀ d ∈ x.rots, d.turns.length ≤ 100000
  exprs : ∀ e ∈ allE x, slimE e.1
/- the rotations' rows: all cells but the last are the clone's, the last is the header of the cloned turns -/
theorem rows_rot {N N' : Nat → Prop} {w U W : World} {B : Nat} {L L' : Lay} {l : List RotD} (hb : ∀ b, N b → W.heap[b]? = w.heap[b]?) (hr : ClR B U 64 23 (fun cs (d : RotD × Nat) => RotV N w (turnsOf L d.2) cs d.1) L'.rots l.zipIdx) (hN : ∀ g, B ≤ g → N' g) (hl : l.length ≤ 100000)
    (hlt : ∀ d ∈ l, d.turns.length ≤ 100000) (hty : ∀ g, L'.rots.a = some ⟨g, 0, none⟩ → Ty U g 64 → Ty W g 64) (hc : ∀ g, L'.rots.a = some ⟨g, 0, none⟩ → ∀ i q, q < 22 → W.cell? ⟨g, i * 23 + q, none⟩ = U.cell? ⟨g, i * 23 + q, none⟩)
    (hh : ∀ i (_ : i < l.length) g, L'.rots.a = some ⟨g, 0, none⟩ → W.cell? ⟨g, i * 23 + 22, none⟩ = some (turnsOf L' i).v) (ht : ∀ i (h : i < l.length), ClR B W 66 8 (TurnV N w) (turnsOf L' i) l[i].turns) :
    RowsP N' W 64 23 (RotP N' (EV N W) (RV W) W (turnsOf L')) L'.rots l := by
  refine ⟨by have := hr.1; rwa [List.length_zipIdx] at this, by omega, fun i hi => ?_⟩
  obtain ⟨g, cs, k1, k2, k3, k4, k5, k6⟩ := hr.2 i (by rw [List.length_zipIdx]; exact hi)
  rw [List.getElem_zipIdx] at k6
  simp only [Nat.zero_add] at k6
  refine ⟨g, k1, hN g k2, hty g k1 k3, ?_⟩
  obtain ⟨h1, h2, c0, c1, c2, rfl, g0, g1, g2, _⟩ := k6
  have hfr : W.rangeAt g (i * 23) (.string l[i].name :: (rfV l[i].on ++ (.int .i64 l[i].rank :: (c0 ++ (c1 ++ c2))))) := fun j u hj => by
    have hjl := (List.getElem?_eq_some_iff.1 hj).1
    have hlen : (Value.string l[i].name :: (rfV l[i].on ++ (.int .i64 l[i].rank :: (c0 ++ (c1 ++ c2))))).length = 22 := by simp [rfV_len, g0.len, g1.len, g2.len]
    rw [hlen] at hjl
    rw [hc g k1 i j hjl]
    refine k5 j u ?_
    have e : (Value.string l[i].name :: (rfV l[i].on ++ (.int .i64 l[i].rank :: (c0 ++ (c1 ++ (c2 ++ [(turnsOf L i).v])))))) = (Value.string l[i].name :: (rfV l[i].on ++ (.int .i64 l[i].rank :: (c0 ++ (c1 ++ c2))))) ++ [(turnsOf L i).v] := by simp
    rw [e, List.getElem?_append_left (by omega)]
    exact hj
  obtain ⟨r0, r⟩ := split_cons hfr
  obtain ⟨f, r⟩ := split_rf h2 4 r
  obtain ⟨v, r⟩ := split_cons r
  obtain ⟨s0, r⟩ := split_exp g0.len r
  obtain ⟨s1, s2⟩ := split_exp g1.len r
  exact ⟨⟨h1, r0⟩, f, v, ev_of hb _ g0 s0, ev_of hb _ g1 s1, ev_of hb _ g2 s2, hh i hi g k1, rows_of (ht i hi) (hlt _ (List.getElem_mem hi)) hN (fun k hk g cs _ hra hq => piece_turn hb k g (k * 8) cs _ hra hq)⟩
/- all pieces together -/
theorem clone_psrc {N N' : Nat → Prop} {w W : World} {B : Nat} {L : Lay} {x : Src} {a0 a1 a2 : Option Addr} {p0 p1 p2 : Nat} (hb : ∀ b, N b → W.heap[b]? = w.heap[b]?) (hN : ∀ g, B ≤ g → N' g) (hs : Slim x)
    (hc : W.heap[L.s]? = some (.cells #[.string x.name, .int .i64 x.season.op, .int .i64 x.season.n, .int .i64 x.season.u, .string x.season.rn, .int .i64 x.season.ri, .slice a0 x.season.args.length p0, .int .i64 x.cap.op, .int .i64 x.cap.n, .int .i64 x.cap.u, .string x.cap.rn, .int .i64 x.cap.ri, .slice a1 x.cap.args.length p1, .int .i64 x.start.op, .int .i64 x.start.n, .int .i64 x.start.u, .string x.start.rn, .int .i64 x.start.ri, .slice a2 x.start.args.length p2, L.lets.v, L.crops.v, L.reaches.v, L.farms.v, L.rots.v, L.rights.v, L.duties.v] 35 (0, 0))) (hn : x.name.size ≤ maxLen) (h0 : ExV N w x.season [.int .i64 x.season.op, .int .i64 x.season.n, .int .i64 x.season.u, .string x.season.rn, .int .i64 x.season.ri, .slice a0 x.season.args.length p0]) (h1 : ExV N w x.cap [.int .i64 x.cap.op, .int .i64 x.cap.n, .int .i64 x.cap.u, .string x.cap.rn, .int .i64 x.cap.ri, .slice a1 x.cap.args.length p1]) (h2 : ExV N w x.start [.int .i64 x.start.op, .int .i64 x.start.n, .int .i64 x.start.u, .string x.start.rn, .int .i64 x.start.ri, .slice a2 x.start.args.length p2])
    (rl : ClR B W 55 7 (LetV N w) L.lets x.lets) (rc : ClR B W 57 7 (CropV N w) L.crops x.crops) (re : ClR B W 51 51 (ReachV N w) L.reaches x.reaches) (rf : ClR B W 59 12 (FarmV N w) L.farms x.farms)
    (rr : RowsP N' W 64 23 (RotP N' (EV N W) (RV W) W (turnsOf L)) L.rots x.rots) (ri : ClR B W 68 37 (RightV N w) L.rights x.rights) (rd : ClR B W 70 11 (DutyV N w) L.duties x.duties) : PSrc N' (EV N W) (RV W) W L x := by
  have cell : ∀ j v, #[.string x.name, .int .i64 x.season.op, .int .i64 x.season.n, .int .i64 x.season.u, .string x.season.rn, .int .i64 x.season.ri, .slice a0 x.season.args.length p0, .int .i64 x.cap.op, .int .i64 x.cap.n, .int .i64 x.cap.u, .string x.cap.rn, .int .i64 x.cap.ri, .slice a1 x.cap.args.length p1, .int .i64 x.start.op, .int .i64 x.start.n, .int .i64 x.start.u, .string x.start.rn, .int .i64 x.start.ri, .slice a2 x.start.args.length p2, L.lets.v, L.crops.v, L.reaches.v, L.farms.v, L.rots.v, L.rights.v, L.duties.v][j]? = some v → W.cell? ⟨L.s, j, none⟩ = some v := fun j v hj => by simp only [World.cell?, hc]; simpa using hj
  refine ⟨⟨_, hc⟩, ⟨hn, cell 0 _ rfl⟩, ?_, ?_, ?_, cell 19 _ rfl, cell 20 _ rfl, cell 21 _ rfl, cell 22 _ rfl, cell 23 _ rfl, cell 24 _ rfl, cell 25 _ rfl, ?_, ?_, ?_, ?_, rr, ?_, ?_⟩
  · exact ev_of hb 0 h0 (range_cons (cell 1 _ rfl) (range_cons (cell 2 _ rfl) (range_cons (cell 3 _ rfl) (range_cons (cell 4 _ rfl) (range_cons (cell 5 _ rfl) (range_one (cell 6 _ rfl)))))))
  · exact ev_of hb 0 h1 (range_cons (cell 7 _ rfl) (range_cons (cell 8 _ rfl) (range_cons (cell 9 _ rfl) (range_cons (cell 10 _ rfl) (range_cons (cell 11 _ rfl) (range_one (cell 12 _ rfl)))))))
  · exact ev_of hb 0 h2 (range_cons (cell 13 _ rfl) (range_cons (cell 14 _ rfl) (range_cons (cell 15 _ rfl) (range_cons (cell 16 _ rfl) (range_cons (cell 17 _ rfl) (range_one (cell 18 _ rfl)))))))
  · exact rows_of rl hs.lets hN (fun i _ g cs _ hr hq => piece_let hb i g _ cs _ hr hq)
  · exact rows_of rc hs.crops hN (fun i _ g cs _ hr hq => piece_crop hb i g _ cs _ hr hq)
  · exact rows_of re hs.reaches hN (fun i _ g cs _ hr hq => piece_reach hb i g _ cs _ hr hq)
  · exact rows_of rf hs.farms hN (fun i _ g cs _ hr hq => piece_farm hb i g _ cs _ hr hq)
  · exact rows_of ri hs.rights hN (fun i _ g cs _ hr hq => piece_right hb i g _ cs _ hr hq)
  · exact rows_of rd hs.duties hN (fun i _ g cs _ hr hq => piece_duty hb i g _ cs _ hr hq)

end Go.Proofs.Ytapejaabhkfhjaa

/- Sources piece by piece: the same source in another world. -/
namespace Go.Proofs.Ytapejaabhkfhjaa
open Go.RowKit

theorem mapIdx_same {α : Type} {f : Nat → α → α} (h : ∀ i a, f i a = a) (l : List α) : l.mapIdx f = l := by
  refine List.ext_getElem (by simp) fun i h1 h2 => ?_
  rw [List.getElem_mapIdx]; exact h _ _
theorem mp_id (x : Src) : x.mp (fun _ e => e) (fun _ r => r) = x := by
  unfold Src.mp
  have h1 := mapIdx_same (f := LetD.mp fun _ e => e) (fun _ _ => rfl) x.lets
  have h2 := mapIdx_same (f := CropD.mp fun _ e => e) (fun _ _ => rfl) x.crops
  have h3 := mapIdx_same (f := ReachD.mp (fun _ e => e) fun _ r => r) (fun _ _ => rfl) x.reaches
  have h4 := mapIdx_same (f := FarmD.mp (fun _ e => e) fun _ r => r) (fun _ _ => rfl) x.farms
  have h5 := mapIdx_same (f := RotD.mp (fun _ e => e) fun _ r => r) (fun _ d => by
    unfold RotD.mp
    rw [mapIdx_same (f := TurnD.mp (fun _ e => e) fun _ r => r) (fun _ _ => rfl) d.turns]) x.rots
  have h6 := mapIdx_same (f := RightD.mp (fun _ e => e) fun _ r => r) (fun _ _ => rfl) x.rights
  have h7 := mapIdx_same (f := DutyD.mp (fun _ e => e) fun _ r => r) (fun _ _ => rfl) x.duties
  rw [h1, h2, h3, h4, h5, h6, h7]
section
variable {N : Nat → Prop} {E E' : Int → Ex → Nat → Nat → Prop} {R R' : Int → Rf → Nat → Nat → Prop} {w w' : World} {L : Lay} {x : Src}
theorem PSrc.imp (h : PSrc N E R w L x) (ht : ∀ b t, (N b ∨ b = L.s) → Ty w b t → Ty w' b t) (hp : ∀ b o, (N b ∨ b = L.s) → PPos w b o → w'.cell? ⟨b, o, none⟩ = w.cell? ⟨b, o, none⟩)
    (he : ∀ lt e b o, (N b ∨ b = L.s) → EPos w b o → E lt e b o → E' lt e b o) (hr : ∀ to r b o, (N b ∨ b = L.s) → RPos w b o → R to r b o → R' to r b o) : PSrc N E' R' w' L x := by
  have := h.map (f := fun _ e => e) (g := fun _ r => r) ht hp he hr
  rwa [mp_id] at this
theorem cell_of_block {w w' : World} {b o : Nat} (h : w'.heap[b]? = w.heap[b]?) : w'.cell? ⟨b, o, none⟩ = w.cell? ⟨b, o, none⟩ := by
  unfold World.cell?; rw [h]
theorem EPos.lt {b o : Nat} (h : EPos w b o) : b < w.heap.size := by obtain ⟨t, h, _⟩ := h; exact h.lt
theorem RPos.lt {b o : Nat} (h : RPos w b o) : b < w.heap.size := by obtain ⟨t, h, _⟩ := h; exact h.lt
theorem PPos.lt {b o : Nat} (h : PPos w b o) : b < w.heap.size := by obtain ⟨t, h, _⟩ := h; exact h.lt
theorem PSrc.up {M : Nat → Prop} (h : PSrc N (EV M w) (RV w) w L x) (hM : ∀ b, M b → b < w.heap.size) (hb : Below w.heap.size w w') : PSrc N (EV M w') (RV w') w' L x := by
  refine h.imp (fun b t _ ht => ht.same (hb.block b ht.lt)) (fun b o _ hp => cell_of_block (hb.block b hp.lt)) (fun lt e b o _ hp he => ?_) (fun to r b o _ hp hr => ?_)
  · obtain ⟨c, h1, h2⟩ := he
    exact ⟨c, rangeAt_block h1 (hb.block b hp.lt), h2.same (fun _ h => h) (fun b hb' => hb.block b (hM b hb'))⟩
  · exact ⟨hr.1, (cell_of_block (hb.block b hp.lt)).trans hr.2.1, (cell_of_block (hb.block b hp.lt)).trans hr.2.2⟩
end

end Go.Proofs.Ytapejaabhkfhjaa

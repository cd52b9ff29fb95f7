/- The program's cloned: the walk. -/
import Derived.Test.YtapejaabhkfhjaaMPi
import Derived.BigFrameIn
import Derived.Test.YtapejaabhkfhjaaMPe
import Derived.Test.YtapejaabhkfhjaaMNi
namespace Go.Proofs.Ytapejaabhkfhjaa
open Go.RowKit
attribute [local go_sem] Oper.semAt_some

/- an expression whose arguments lie in typed blocks from B on -/
def ET (B : Nat → Prop) (w : World) (_ : Int) (e : Ex) (b o : Nat) : Prop := ∃ c, w.rangeAt b o c ∧ ExT w B e c
theorem results_cell {fn : Func} {t : Tmp} {ty : TypeId} {tmps : Array Value} {P : Program} {w : World} {p : Addr} {v : Value} (h : fn.results = #[.cell t ty]) (hp : tmps.getD t undef = .pointer (some p)) (hl : (loadVar ty p).run P w = .ok v w) : (results fn tmps).run P w = .ok v w := by
  rw [Array.getD_eq_getD_getElem?] at hp
  simp [results, h, hp, asAddr, hl]
/- what the copy of a source is: it lies in blocks of its own; L.s is the block that holds its cells -/
def ClonePost (w : World) (x : Src) (e : Ending) (w' : World) : Prop :=
  ∃ (L : Lay) (cs : List Value), e = .returned (.agg cs.toArray) ∧ cs.length = 26 ∧ (∀ v ∈ cs, v.oneCell' = true) ∧ Below w.heap.size w w' ∧ L.s = w.heap.size ∧ w'.rangeAt L.s 0 cs ∧ PSrc (fun g => w.heap.size ≤ g ∧ g ≠ w.heap.size + 1) (ET (fun g => w.heap.size + 2 ≤ g) w') (RV w') w' L x
theorem grown_refl (W : World) (r : Option Nat) : W.grownBy W r := ⟨rfl, rfl, rfl, Nat.le_refl _, fun _ _ _ => rfl⟩
theorem grown_drew {W V : World} {r : Option Nat} (h : W.grownBy V r) : W.grownBy V.drew r := ⟨h.os, h.tape, h.output, h.size, h.block⟩
theorem grown_trans {W V U : World} {r : Option Nat} (h : W.grownBy V r) (k : V.grownBy U r) : W.grownBy U r :=
  ⟨k.os.trans h.os, k.tape.trans h.tape, k.output.trans h.output, Nat.le_trans h.size k.size, fun b hb hne => (k.block b (Nat.lt_of_lt_of_le hb h.size) hne).trans (h.block b hb hne)⟩
theorem grown_of_below {V U : World} {r : Option Nat} (h : Below V.heap.size V U) : V.grownBy U r := ⟨h.os, h.tape, h.output, h.size, fun b hb _ => h.block b hb⟩
/- the block of the rotations, if there are any -/
def rowOf {α : Type} : List α → Option Addr → Option Nat
  | [], _ => none
  | _ :: _, a => a.map (·.block)
theorem rowOf_some {α : Type} {l : List α} {i g : Nat} (h : i < l.length) : rowOf l (some ⟨g, 0, none⟩) = some g := by
  cases l with
  | nil => simp at h
  | cons x r => rfl
/- what holds while the turns' lists are cloned -/
structure TnI (U : World) (a : Option Addr) (N : Nat → Prop) (w : World) (l : List RotD) (hs : List Hdr) (wr : World) : Prop where
  grown : U.grownBy wr (rowOf l a)
  len : hs.length ≤ l.length
  ty : ∀ g, a = some ⟨g, 0, none⟩ → ∀ t, Ty U g t → Ty wr g t
  cells : ∀ g, a = some ⟨g, 0, none⟩ → ∀ q, (∀ j, j < hs.length → q ≠ j * 23 + 22) → wr.cell? ⟨g, q, none⟩ = U.cell? ⟨g, q, none⟩
  done : ∀ j (_ : j < hs.length) (_ : j < l.length), ClR U.heap.size wr 66 8 (TurnV N w) hs[j] l[j].turns ∧ ∀ g, a = some ⟨g, 0, none⟩ → wr.cell? ⟨g, j * 23 + 22, none⟩ = some hs[j].v
theorem rowOf_pos {α : Type} {l : List α} {a : Option Addr} {b : Nat} (h : some b = rowOf l a) : 0 < l.length := by
  cases l with
  | nil => cases h
  | cons x r => simp
theorem TnI.next {U : World} {a : Option Addr} {N : Nat → Prop} {w : World} {l : List RotD} {hs : List Hdr} {wr V V2 : World} {g : Nat} {h' : Hdr} {u : Value} (hI : TnI U a N w l hs wr) (hi : hs.length < l.length) (ha : a = some ⟨g, 0, none⟩) (hg : g < U.heap.size) (hb : Below wr.heap.size wr V)
    (hc : V.cell? ⟨g, hs.length * 23 + 22, none⟩ = some u) (hr : ClR wr.heap.size V 66 8 (TurnV N w) h' l[hs.length].turns) (hV : V2 = V.setCell ⟨g, hs.length * 23 + 22, none⟩ h'.v) : TnI U a N w l (hs ++ [h']) V2 := by
  obtain ⟨s1, s2, s3, s4⟩ := set_facts h'.v hc
  rw [← hV] at s1 s2 s3 s4
  have hz := hI.grown.size
  have hvz := hb.size
  have hgb : V.heap[g]? = wr.heap[g]? := hb.block g (by omega)
  have hcell : ∀ q, V.cell? ⟨g, q, none⟩ = wr.cell? ⟨g, q, none⟩ := fun q => by unfold World.cell?; rw [hgb]
  have ham : rowOf l a = some g := by rw [ha]; exact rowOf_some hi
  refine ⟨?_, by simp; omega, fun g' hg' t ht => ?_, fun g' hg' q hq => ?_, fun j hj hl => ?_⟩
  · rw [ham]
    have h0 := hI.grown
    rw [ham] at h0
    exact grown_trans (grown_trans h0 (grown_of_below hb)) s1
  · rw [ha] at hg'; cases hg'
    exact s3 t ((hI.ty g ha t ht).same hgb)
  · rw [ha] at hg'; cases hg'
    rw [s2 q (hq hs.length (by simp)), hcell, hI.cells g ha q (fun j hj => hq j (by simp; omega))]
  · by_cases hji : j = hs.length
    · subst hji
      rw [List.getElem_append_right (Nat.le_refl _)]
      simp only [Nat.sub_self, List.getElem_cons_zero]
      exact ⟨ClR.of (hr.up (fun b hB hlt => s1.block b hlt (fun e => by cases e; omega))).1 hz (hr.up (fun b hB hlt => s1.block b hlt (fun e => by cases e; omega))).2, fun g' hg' => by rw [ha] at hg'; cases hg'; exact s4⟩
    · have hj' : j < hs.length := by simp at hj; omega
      rw [List.getElem_append_left hj']
      obtain ⟨d1, d2⟩ := hI.done j hj' hl
      refine ⟨d1.up (fun b hB hlt => (s1.block b (by omega) (fun e => by cases e; omega)).trans (hb.block b hlt)), fun g' hg' => ?_⟩
      rw [ha] at hg'; cases hg'
      rw [s2 _ (by omega), hcell, d2 g ha]
theorem rotV_row {N : Nat → Prop} {w : World} {t : Hdr} {cs : List Value} {d : RotD} (h : RotV N w t cs d) : IsRow N w 8 (TurnV N w) t d.turns := by
  obtain ⟨_, _, _, _, _, _, _, _, _, h⟩ := h
  exact h
theorem one_rotI {N : Nat → Prop} {w : World} {L : Lay} (cs : List Value) (d : RotD × Nat) (h : RotV N w (turnsOf L d.2) cs d.1) : ∀ v ∈ cs, v.oneCell' = true := rotV_one h
theorem rots_row {N : Nat → Prop} {w W : World} {L : Lay} {l : List RotD} (h : L.rots.n = l.length ∧ l.length ≤ 140737488355328 ∧ ∀ i (hi : i < l.length), ∃ b o cs, L.rots.a = some ⟨b, o, none⟩ ∧ N b ∧ cs.length = 23 ∧ w.rangeAt b (o + i * 23) cs ∧ RotV N w (turnsOf L i) cs l[i]) (hb : ∀ b, N b → W.heap[b]? = w.heap[b]?) :
    IsRow N W 23 (fun cs (d : RotD × Nat) => RotV N w (turnsOf L d.2) cs d.1) L.rots l.zipIdx := by
  obtain ⟨h1, h2, h3⟩ := h
  refine ⟨by rw [List.length_zipIdx]; exact h1, by rw [List.length_zipIdx]; exact h2, fun i hi => ?_⟩
  rw [List.length_zipIdx] at hi
  obtain ⟨b, o, cs, g1, g2, g3, g4, g5⟩ := h3 i hi
  refine ⟨b, o, cs, g1, g2, g3, rangeAt_block g4 (hb b g2), ?_⟩
  rw [List.getElem_zipIdx]
  simpa using g5

set_option maxRecDepth 100000 in
set_option maxHeartbeats 16000000 in
theorem cloned_any {N : Nat → Prop} {w : World} {L : Lay} {cs : List Value} {x : Src} (h : SrcV N w L cs x) (hN : ∀ b, N b → b < w.heap.size) (hsl : Slim x) :
    Calls Try.prog 48 #[.agg cs.toArray] w (ClonePost w x) := by
  obtain ⟨c0, c1, c2, rfl, g0, g1, g2⟩ := h.cells
  obtain ⟨a0, p0, rfl, e0⟩ := g0.cells
  obtain ⟨a1, p1, rfl, e1⟩ := g1.cells
  obtain ⟨a2, p2, rfl, e2⟩ := g2.cells
  have HV := Lib.hid h
  have HN := Lib.hid hN
  have HSl := Lib.hid hsl
  have HG0 := Lib.hid g0; have HG1 := Lib.hid g1; have HG2 := Lib.hid g2
  clear h hN hsl g0 g1 g2 e0 e1 e2
  unfold Hdr.v
  simp only [List.cons_append, List.nil_append]
  refine calls_of_wpAt_marks (n := 10) Try.func48 rfl ?_
  simp only [Try.ntmps48, List.size_toArray, List.length_cons, List.length_nil, Nat.reduceAdd, Nat.reduceSub, Array.replicate_succ, Array.replicate_zero, List.push_toArray, List.append_toArray, List.nil_append, List.cons_append]
  refine wpAt_seq (wpAt_of_wp ?_)
  go_wp2
  have hb0 : Below w.heap.size w ((w.alloc (.cells #[.string x.name, .int .i64 x.season.op, .int .i64 x.season.n, .int .i64 x.season.u, .string x.season.rn, .int .i64 x.season.ri, .slice a0 x.season.args.length p0, .int .i64 x.cap.op, .int .i64 x.cap.n, .int .i64 x.cap.u, .string x.cap.rn, .int .i64 x.cap.ri, .slice a1 x.cap.args.length p1, .int .i64 x.start.op, .int .i64 x.start.n, .int .i64 x.start.u, .string x.start.rn, .int .i64 x.start.ri, .slice a2 x.start.args.length p2, .slice L.lets.a L.lets.n L.lets.c, .slice L.crops.a L.crops.n L.crops.c, .slice L.reaches.a L.reaches.n L.reaches.c, .slice L.farms.a L.farms.n L.farms.c, .slice L.rots.a L.rots.n L.rots.c, .slice L.rights.a L.rights.n L.rights.c, .slice L.duties.a L.duties.n L.duties.c] 35)).alloc (.cells #[.string ⟨#[]⟩, .int .i64 0, .int .i64 0, .int .i64 0, .string ⟨#[]⟩, .int .i64 0, .slice none 0 0, .int .i64 0, .int .i64 0, .int .i64 0, .string ⟨#[]⟩, .int .i64 0, .slice none 0 0, .int .i64 0, .int .i64 0, .int .i64 0, .string ⟨#[]⟩, .int .i64 0, .slice none 0 0, .slice none 0 0, .slice none 0 0, .slice none 0 0, .slice none 0 0, .slice none 0 0, .slice none 0 0, .slice none 0 0] 35)) := ((Below.refl _ _).alloc (Nat.le_refl _) _).alloc (by simp) _
  have hs0 : ((w.alloc (.cells #[.string x.name, .int .i64 x.season.op, .int .i64 x.season.n, .int .i64 x.season.u, .string x.season.rn, .int .i64 x.season.ri, .slice a0 x.season.args.length p0, .int .i64 x.cap.op, .int .i64 x.cap.n, .int .i64 x.cap.u, .string x.cap.rn, .int .i64 x.cap.ri, .slice a1 x.cap.args.length p1, .int .i64 x.start.op, .int .i64 x.start.n, .int .i64 x.start.u, .string x.start.rn, .int .i64 x.start.ri, .slice a2 x.start.args.length p2, .slice L.lets.a L.lets.n L.lets.c, .slice L.crops.a L.crops.n L.crops.c, .slice L.reaches.a L.reaches.n L.reaches.c, .slice L.farms.a L.farms.n L.farms.c, .slice L.rots.a L.rots.n L.rots.c, .slice L.rights.a L.rights.n L.rights.c, .slice L.duties.a L.duties.n L.duties.c] 35)).alloc (.cells #[.string ⟨#[]⟩, .int .i64 0, .int .i64 0, .int .i64 0, .string ⟨#[]⟩, .int .i64 0, .slice none 0 0, .int .i64 0, .int .i64 0, .int .i64 0, .string ⟨#[]⟩, .int .i64 0, .slice none 0 0, .int .i64 0, .int .i64 0, .int .i64 0, .string ⟨#[]⟩, .int .i64 0, .slice none 0 0, .slice none 0 0, .slice none 0 0, .slice none 0 0, .slice none 0 0, .slice none 0 0, .slice none 0 0, .slice none 0 0] 35)).heap[w.heap.size]? = some (.cells #[.string x.name, .int .i64 x.season.op, .int .i64 x.season.n, .int .i64 x.season.u, .string x.season.rn, .int .i64 x.season.ri, .slice a0 x.season.args.length p0, .int .i64 x.cap.op, .int .i64 x.cap.n, .int .i64 x.cap.u, .string x.cap.rn, .int .i64 x.cap.ri, .slice a1 x.cap.args.length p1, .int .i64 x.start.op, .int .i64 x.start.n, .int .i64 x.start.u, .string x.start.rn, .int .i64 x.start.ri, .slice a2 x.start.args.length p2, .slice L.lets.a L.lets.n L.lets.c, .slice L.crops.a L.crops.n L.crops.c, .slice L.reaches.a L.reaches.n L.reaches.c, .slice L.farms.a L.farms.n L.farms.c, .slice L.rots.a L.rots.n L.rots.c, .slice L.rights.a L.rights.n L.rights.c, .slice L.duties.a L.duties.n L.duties.c] 35 (0, 0)) := (Below.heap_alloc _ _ _ (by simp)).trans (World.alloc_heap_new w _)
  have hr0 : ((w.alloc (.cells #[.string x.name, .int .i64 x.season.op, .int .i64 x.season.n, .int .i64 x.season.u, .string x.season.rn, .int .i64 x.season.ri, .slice a0 x.season.args.length p0, .int .i64 x.cap.op, .int .i64 x.cap.n, .int .i64 x.cap.u, .string x.cap.rn, .int .i64 x.cap.ri, .slice a1 x.cap.args.length p1, .int .i64 x.start.op, .int .i64 x.start.n, .int .i64 x.start.u, .string x.start.rn, .int .i64 x.start.ri, .slice a2 x.start.args.length p2, .slice L.lets.a L.lets.n L.lets.c, .slice L.crops.a L.crops.n L.crops.c, .slice L.reaches.a L.reaches.n L.reaches.c, .slice L.farms.a L.farms.n L.farms.c, .slice L.rots.a L.rots.n L.rots.c, .slice L.rights.a L.rights.n L.rights.c, .slice L.duties.a L.duties.n L.duties.c] 35)).alloc (.cells #[.string ⟨#[]⟩, .int .i64 0, .int .i64 0, .int .i64 0, .string ⟨#[]⟩, .int .i64 0, .slice none 0 0, .int .i64 0, .int .i64 0, .int .i64 0, .string ⟨#[]⟩, .int .i64 0, .slice none 0 0, .int .i64 0, .int .i64 0, .int .i64 0, .string ⟨#[]⟩, .int .i64 0, .slice none 0 0, .slice none 0 0, .slice none 0 0, .slice none 0 0, .slice none 0 0, .slice none 0 0, .slice none 0 0, .slice none 0 0] 35)).heap[w.heap.size + 1]? = some (.cells #[.string ⟨#[]⟩, .int .i64 0, .int .i64 0, .int .i64 0, .string ⟨#[]⟩, .int .i64 0, .slice none 0 0, .int .i64 0, .int .i64 0, .int .i64 0, .string ⟨#[]⟩, .int .i64 0, .slice none 0 0, .int .i64 0, .int .i64 0, .int .i64 0, .string ⟨#[]⟩, .int .i64 0, .slice none 0 0, .slice none 0 0, .slice none 0 0, .slice none 0 0, .slice none 0 0, .slice none 0 0, .slice none 0 0, .slice none 0 0] 35 (0, 0)) := by
    have := World.alloc_heap_new (w.alloc (.cells #[.string x.name, .int .i64 x.season.op, .int .i64 x.season.n, .int .i64 x.season.u, .string x.season.rn, .int .i64 x.season.ri, .slice a0 x.season.args.length p0, .int .i64 x.cap.op, .int .i64 x.cap.n, .int .i64 x.cap.u, .string x.cap.rn, .int .i64 x.cap.ri, .slice a1 x.cap.args.length p1, .int .i64 x.start.op, .int .i64 x.start.n, .int .i64 x.start.u, .string x.start.rn, .int .i64 x.start.ri, .slice a2 x.start.args.length p2, .slice L.lets.a L.lets.n L.lets.c, .slice L.crops.a L.crops.n L.crops.c, .slice L.reaches.a L.reaches.n L.reaches.c, .slice L.farms.a L.farms.n L.farms.c, .slice L.rots.a L.rots.n L.rots.c, .slice L.rights.a L.rights.n L.rights.c, .slice L.duties.a L.duties.n L.duties.c] 35)) (.cells #[.string ⟨#[]⟩, .int .i64 0, .int .i64 0, .int .i64 0, .string ⟨#[]⟩, .int .i64 0, .slice none 0 0, .int .i64 0, .int .i64 0, .int .i64 0, .string ⟨#[]⟩, .int .i64 0, .slice none 0 0, .int .i64 0, .int .i64 0, .int .i64 0, .string ⟨#[]⟩, .int .i64 0, .slice none 0 0, .slice none 0 0, .slice none 0 0, .slice none 0 0, .slice none 0 0, .slice none 0 0, .slice none 0 0, .slice none 0 0] 35)
    rwa [World.size_alloc] at this
  have hz0 : ((w.alloc (.cells #[.string x.name, .int .i64 x.season.op, .int .i64 x.season.n, .int .i64 x.season.u, .string x.season.rn, .int .i64 x.season.ri, .slice a0 x.season.args.length p0, .int .i64 x.cap.op, .int .i64 x.cap.n, .int .i64 x.cap.u, .string x.cap.rn, .int .i64 x.cap.ri, .slice a1 x.cap.args.length p1, .int .i64 x.start.op, .int .i64 x.start.n, .int .i64 x.start.u, .string x.start.rn, .int .i64 x.start.ri, .slice a2 x.start.args.length p2, .slice L.lets.a L.lets.n L.lets.c, .slice L.crops.a L.crops.n L.crops.c, .slice L.reaches.a L.reaches.n L.reaches.c, .slice L.farms.a L.farms.n L.farms.c, .slice L.rots.a L.rots.n L.rots.c, .slice L.rights.a L.rights.n L.rights.c, .slice L.duties.a L.duties.n L.duties.c] 35)).alloc (.cells #[.string ⟨#[]⟩, .int .i64 0, .int .i64 0, .int .i64 0, .string ⟨#[]⟩, .int .i64 0, .slice none 0 0, .int .i64 0, .int .i64 0, .int .i64 0, .string ⟨#[]⟩, .int .i64 0, .slice none 0 0, .int .i64 0, .int .i64 0, .int .i64 0, .string ⟨#[]⟩, .int .i64 0, .slice none 0 0, .slice none 0 0, .slice none 0 0, .slice none 0 0, .slice none 0 0, .slice none 0 0, .slice none 0 0, .slice none 0 0] 35)).heap.size = w.heap.size + 2 := by simp
  generalize (w.alloc (.cells #[.string x.name, .int .i64 x.season.op, .int .i64 x.season.n, .int .i64 x.season.u, .string x.season.rn, .int .i64 x.season.ri, .slice a0 x.season.args.length p0, .int .i64 x.cap.op, .int .i64 x.cap.n, .int .i64 x.cap.u, .string x.cap.rn, .int .i64 x.cap.ri, .slice a1 x.cap.args.length p1, .int .i64 x.start.op, .int .i64 x.start.n, .int .i64 x.start.u, .string x.start.rn, .int .i64 x.start.ri, .slice a2 x.start.args.length p2, .slice L.lets.a L.lets.n L.lets.c, .slice L.crops.a L.crops.n L.crops.c, .slice L.reaches.a L.reaches.n L.reaches.c, .slice L.farms.a L.farms.n L.farms.c, .slice L.rots.a L.rots.n L.rots.c, .slice L.rights.a L.rights.n L.rights.c, .slice L.duties.a L.duties.n L.duties.c] 35)).alloc (.cells #[.string ⟨#[]⟩, .int .i64 0, .int .i64 0, .int .i64 0, .string ⟨#[]⟩, .int .i64 0, .slice none 0 0, .int .i64 0, .int .i64 0, .int .i64 0, .string ⟨#[]⟩, .int .i64 0, .slice none 0 0, .int .i64 0, .int .i64 0, .int .i64 0, .string ⟨#[]⟩, .int .i64 0, .slice none 0 0, .slice none 0 0, .slice none 0 0, .slice none 0 0, .slice none 0 0, .slice none 0 0, .slice none 0 0, .slice none 0 0] 35) = W1 at *
  have HB0 := Lib.hid hb0; have HS0 := Lib.hid hs0; have HR0 := Lib.hid hr0; have HZ0 := Lib.hid hz0
  clear hb0 hs0 hr0 hz0
  have HNw : Hid (∀ W, W1.grownBy W (some w.heap.size) → ∀ b, N b → W.heap[b]? = w.heap[b]?) := Lib.hid (fun W hW b hb => (hW.block b (by have := HN.out b hb; have := HZ0.out; omega) (fun e => by cases e; have := HN.out _ hb; omega)).trans (HB0.out.block b (HN.out b hb)))
  have HNz : Hid (∀ W, W1.grownBy W (some w.heap.size) → ∀ b, N b → b < W.heap.size) := Lib.hid (fun W hW b hb => by have := HN.out b hb; have := HZ0.out; have := hW.size; omega)
  have HW11 : Hid (W1.grownBy W1 (some w.heap.size)) := Lib.hid (grown_refl _ _)
  refine wpAt_seq (wpAt_of_wp ?_)
  refine wp_region_noPanic ?_
  have T10 : W1.drew.heap[w.heap.size]? = some (.cells #[.string x.name, .int .i64 x.season.op, .int .i64 x.season.n, .int .i64 x.season.u, .string x.season.rn, .int .i64 x.season.ri, .slice a0 x.season.args.length p0, .int .i64 x.cap.op, .int .i64 x.cap.n, .int .i64 x.cap.u, .string x.cap.rn, .int .i64 x.cap.ri, .slice a1 x.cap.args.length p1, .int .i64 x.start.op, .int .i64 x.start.n, .int .i64 x.start.u, .string x.start.rn, .int .i64 x.start.ri, .slice a2 x.start.args.length p2, .slice L.lets.a L.lets.n L.lets.c, .slice L.crops.a L.crops.n L.crops.c, .slice L.reaches.a L.reaches.n L.reaches.c, .slice L.farms.a L.farms.n L.farms.c, .slice L.rots.a L.rots.n L.rots.c, .slice L.rights.a L.rights.n L.rights.c, .slice L.duties.a L.duties.n L.duties.c] 35 (0, 0)) := HS0.out
  have HT1 := Lib.hid T10
  clear T10
  refine wp_region_K (by kernel_rfl) (fun W => W.heap[w.heap.size]? = some (.cells #[.string x.name, .int .i64 x.season.op, .int .i64 x.season.n, .int .i64 x.season.u, .string x.season.rn, .int .i64 x.season.ri, .slice a0 x.season.args.length p0, .int .i64 x.cap.op, .int .i64 x.cap.n, .int .i64 x.cap.u, .string x.cap.rn, .int .i64 x.cap.ri, .slice a1 x.cap.args.length p1, .int .i64 x.start.op, .int .i64 x.start.n, .int .i64 x.start.u, .string x.start.rn, .int .i64 x.start.ri, .slice a2 x.start.args.length p2, .slice L.lets.a L.lets.n L.lets.c, .slice L.crops.a L.crops.n L.crops.c, .slice L.reaches.a L.reaches.n L.reaches.c, .slice L.farms.a L.farms.n L.farms.c, .slice L.rots.a L.rots.n L.rots.c, .slice L.rights.a L.rights.n L.rights.c, .slice L.duties.a L.duties.n L.duties.c] 35 (0, 0))) 13 ?_
  refine wpAnyK_take' (i := 0) (v := .pointer (some ⟨w.heap.size, 19, none⟩)) rfl (by kernel_rfl) (by kernel_rfl) (by kernel_rfl) (fun _ _ _ h => h) (by kernel_rfl) (Or.inl ⟨by rfl, ?_⟩) (fun _ => HT1.out) ?_
  · intro w _; go_simp
  refine wpAnyK_take (i := 1) (v := .slice L.lets.a L.lets.n L.lets.c) rfl (by kernel_rfl) (by kernel_rfl) (by kernel_rfl) (fun _ _ _ h => h) (by kernel_rfl) (Or.inl ⟨by rfl, ?_⟩) HT1.out ?_
  · intro W hW
    have hc : W.cell? ⟨w.heap.size, 19, none⟩ = some (.slice L.lets.a L.lets.n L.lets.c) := by simp only [World.cell?, hW]; rfl
    clear hW
    go_simp
  refine wpAnyK_take' (i := 3) (v := .pointer (some ⟨w.heap.size, 20, none⟩)) rfl (by kernel_rfl) (by kernel_rfl) (by kernel_rfl) (fun _ _ _ h => h) (by kernel_rfl) (Or.inl ⟨by rfl, ?_⟩) (fun _ => HT1.out) ?_
  · intro w _; go_simp
  refine wpAnyK_take (i := 4) (v := .slice L.crops.a L.crops.n L.crops.c) rfl (by kernel_rfl) (by kernel_rfl) (by kernel_rfl) (fun _ _ _ h => h) (by kernel_rfl) (Or.inl ⟨by rfl, ?_⟩) HT1.out ?_
  · intro W hW
    have hc : W.cell? ⟨w.heap.size, 20, none⟩ = some (.slice L.crops.a L.crops.n L.crops.c) := by simp only [World.cell?, hW]; rfl
    clear hW
    go_simp
  refine wpAnyK_take' (i := 6) (v := .pointer (some ⟨w.heap.size, 21, none⟩)) rfl (by kernel_rfl) (by kernel_rfl) (by kernel_rfl) (fun _ _ _ h => h) (by kernel_rfl) (Or.inl ⟨by rfl, ?_⟩) (fun _ => HT1.out) ?_
  · intro w _; go_simp
  refine wpAnyK_take (i := 7) (v := .slice L.reaches.a L.reaches.n L.reaches.c) rfl (by kernel_rfl) (by kernel_rfl) (by kernel_rfl) (fun _ _ _ h => h) (by kernel_rfl) (Or.inl ⟨by rfl, ?_⟩) HT1.out ?_
  · intro W hW
    have hc : W.cell? ⟨w.heap.size, 21, none⟩ = some (.slice L.reaches.a L.reaches.n L.reaches.c) := by simp only [World.cell?, hW]; rfl
    clear hW
    go_simp
  refine wpAnyK_take' (i := 9) (v := .pointer (some ⟨w.heap.size, 22, none⟩)) rfl (by kernel_rfl) (by kernel_rfl) (by kernel_rfl) (fun _ _ _ h => h) (by kernel_rfl) (Or.inl ⟨by rfl, ?_⟩) (fun _ => HT1.out) ?_
  · intro w _; go_simp
  refine wpAnyK_take (i := 10) (v := .slice L.farms.a L.farms.n L.farms.c) rfl (by kernel_rfl) (by kernel_rfl) (by kernel_rfl) (fun _ _ _ h => h) (by kernel_rfl) (Or.inl ⟨by rfl, ?_⟩) HT1.out ?_
  · intro W hW
    have hc : W.cell? ⟨w.heap.size, 22, none⟩ = some (.slice L.farms.a L.farms.n L.farms.c) := by simp only [World.cell?, hW]; rfl
    clear hW
    go_simp
  have HB1x0 : Hid (W1.grownBy W1.drew (some w.heap.size)) := Lib.hid (grown_drew HW11.out)
  refine wpAnyK_one (i := 2) (by kernel_rfl) rfl (fun K hK => ?_)
  go_simp
  refine (clone_let (HV.out.lets.same (fun _ h => h) (HNw.out _ HB1x0.out) (fun _ _ h => h)) (HNz.out _ HB1x0.out) one_let HSl.out.lets).mono ?_
  rintro e V10 ⟨⟨alets, nlets, clets⟩, rfl, hnlets, hblets, hrowlets⟩
  rw [show Hdr.v ⟨alets, nlets, clets⟩ = Value.slice alets nlets clets from rfl]
  simp only at hnlets hrowlets
  have HB1x1 : Hid (W1.grownBy V10 (some w.heap.size)) := Lib.hid (grown_trans HB1x0.out (grown_of_below hblets))
  have HSx10 : Hid (V10.heap[w.heap.size]? = some (.cells #[.string x.name, .int .i64 x.season.op, .int .i64 x.season.n, .int .i64 x.season.u, .string x.season.rn, .int .i64 x.season.ri, .slice a0 x.season.args.length p0, .int .i64 x.cap.op, .int .i64 x.cap.n, .int .i64 x.cap.u, .string x.cap.rn, .int .i64 x.cap.ri, .slice a1 x.cap.args.length p1, .int .i64 x.start.op, .int .i64 x.start.n, .int .i64 x.start.u, .string x.start.rn, .int .i64 x.start.ri, .slice a2 x.start.args.length p2, .slice L.lets.a L.lets.n L.lets.c, .slice L.crops.a L.crops.n L.crops.c, .slice L.reaches.a L.reaches.n L.reaches.c, .slice L.farms.a L.farms.n L.farms.c, .slice L.rots.a L.rots.n L.rots.c, .slice L.rights.a L.rights.n L.rights.c, .slice L.duties.a L.duties.n L.duties.c] 35 (0, 0))) := Lib.hid ((hblets.block _ (by have := HB1x0.out.size; have := HZ0.out; omega)).trans HT1.out)
  have HRwlets : Hid (ClR W1.heap.size V10 55 7 (LetV N w) ⟨alets, nlets, clets⟩ x.lets) := Lib.hid (ClR.of hnlets (by exact HB1x0.out.size) hrowlets)
  clear hnlets hblets hrowlets
  refine hK.out _ _ (fun _ => HSx10.out) ?_
  clear hK K
  refine wpAnyK_one (i := 5) (by kernel_rfl) rfl (fun K hK => ?_)
  go_simp
  refine (clone_crop (HV.out.crops.same (fun _ h => h) (HNw.out _ HB1x1.out) (fun _ _ h => h)) (HNz.out _ HB1x1.out) one_crop HSl.out.crops).mono ?_
  rintro e V11 ⟨⟨acrops, ncrops, ccrops⟩, rfl, hncrops, hbcrops, hrowcrops⟩
  rw [show Hdr.v ⟨acrops, ncrops, ccrops⟩ = Value.slice acrops ncrops ccrops from rfl]
  simp only at hncrops hrowcrops
  have HB1x2 : Hid (W1.grownBy V11 (some w.heap.size)) := Lib.hid (grown_trans HB1x1.out (grown_of_below hbcrops))
  have HSx11 : Hid (V11.heap[w.heap.size]? = some (.cells #[.string x.name, .int .i64 x.season.op, .int .i64 x.season.n, .int .i64 x.season.u, .string x.season.rn, .int .i64 x.season.ri, .slice a0 x.season.args.length p0, .int .i64 x.cap.op, .int .i64 x.cap.n, .int .i64 x.cap.u, .string x.cap.rn, .int .i64 x.cap.ri, .slice a1 x.cap.args.length p1, .int .i64 x.start.op, .int .i64 x.start.n, .int .i64 x.start.u, .string x.start.rn, .int .i64 x.start.ri, .slice a2 x.start.args.length p2, .slice L.lets.a L.lets.n L.lets.c, .slice L.crops.a L.crops.n L.crops.c, .slice L.reaches.a L.reaches.n L.reaches.c, .slice L.farms.a L.farms.n L.farms.c, .slice L.rots.a L.rots.n L.rots.c, .slice L.rights.a L.rights.n L.rights.c, .slice L.duties.a L.duties.n L.duties.c] 35 (0, 0))) := Lib.hid ((hbcrops.block _ (by have := HB1x1.out.size; have := HZ0.out; omega)).trans HSx10.out)
  replace HRwlets := Lib.hid (HRwlets.out.up (fun b _ hlt => hbcrops.block b hlt))
  have HRwcrops : Hid (ClR W1.heap.size V11 57 7 (CropV N w) ⟨acrops, ncrops, ccrops⟩ x.crops) := Lib.hid (ClR.of hncrops (by exact HB1x1.out.size) hrowcrops)
  clear hncrops hbcrops hrowcrops
  refine hK.out _ _ (fun _ => HSx11.out) ?_
  clear hK K
  refine wpAnyK_one (i := 8) (by kernel_rfl) rfl (fun K hK => ?_)
  go_simp
  refine (clone_reach (HV.out.reaches.same (fun _ h => h) (HNw.out _ HB1x2.out) (fun _ _ h => h)) (HNz.out _ HB1x2.out) one_reach HSl.out.reaches).mono ?_
  rintro e V12 ⟨⟨areaches, nreaches, creaches⟩, rfl, hnreaches, hbreaches, hrowreaches⟩
  rw [show Hdr.v ⟨areaches, nreaches, creaches⟩ = Value.slice areaches nreaches creaches from rfl]
  simp only at hnreaches hrowreaches
  have HB1x3 : Hid (W1.grownBy V12 (some w.heap.size)) := Lib.hid (grown_trans HB1x2.out (grown_of_below hbreaches))
  have HSx12 : Hid (V12.heap[w.heap.size]? = some (.cells #[.string x.name, .int .i64 x.season.op, .int .i64 x.season.n, .int .i64 x.season.u, .string x.season.rn, .int .i64 x.season.ri, .slice a0 x.season.args.length p0, .int .i64 x.cap.op, .int .i64 x.cap.n, .int .i64 x.cap.u, .string x.cap.rn, .int .i64 x.cap.ri, .slice a1 x.cap.args.length p1, .int .i64 x.start.op, .int .i64 x.start.n, .int .i64 x.start.u, .string x.start.rn, .int .i64 x.start.ri, .slice a2 x.start.args.length p2, .slice L.lets.a L.lets.n L.lets.c, .slice L.crops.a L.crops.n L.crops.c, .slice L.reaches.a L.reaches.n L.reaches.c, .slice L.farms.a L.farms.n L.farms.c, .slice L.rots.a L.rots.n L.rots.c, .slice L.rights.a L.rights.n L.rights.c, .slice L.duties.a L.duties.n L.duties.c] 35 (0, 0))) := Lib.hid ((hbreaches.block _ (by have := HB1x2.out.size; have := HZ0.out; omega)).trans HSx11.out)
  replace HRwlets := Lib.hid (HRwlets.out.up (fun b _ hlt => hbreaches.block b hlt))
  replace HRwcrops := Lib.hid (HRwcrops.out.up (fun b _ hlt => hbreaches.block b hlt))
  have HRwreaches : Hid (ClR W1.heap.size V12 51 51 (ReachV N w) ⟨areaches, nreaches, creaches⟩ x.reaches) := Lib.hid (ClR.of hnreaches (by exact HB1x2.out.size) hrowreaches)
  clear hnreaches hbreaches hrowreaches
  refine hK.out _ _ (fun _ => HSx12.out) ?_
  clear hK K
  refine wpAnyK_one (i := 11) (by kernel_rfl) rfl (fun K hK => ?_)
  go_simp
  refine (clone_farm (HV.out.farms.same (fun _ h => h) (HNw.out _ HB1x3.out) (fun _ _ h => h)) (HNz.out _ HB1x3.out) one_farm HSl.out.farms).mono ?_
  rintro e V13 ⟨⟨afarms, nfarms, cfarms⟩, rfl, hnfarms, hbfarms, hrowfarms⟩
  rw [show Hdr.v ⟨afarms, nfarms, cfarms⟩ = Value.slice afarms nfarms cfarms from rfl]
  simp only at hnfarms hrowfarms
  have HB1x4 : Hid (W1.grownBy V13 (some w.heap.size)) := Lib.hid (grown_trans HB1x3.out (grown_of_below hbfarms))
  have HSx13 : Hid (V13.heap[w.heap.size]? = some (.cells #[.string x.name, .int .i64 x.season.op, .int .i64 x.season.n, .int .i64 x.season.u, .string x.season.rn, .int .i64 x.season.ri, .slice a0 x.season.args.length p0, .int .i64 x.cap.op, .int .i64 x.cap.n, .int .i64 x.cap.u, .string x.cap.rn, .int .i64 x.cap.ri, .slice a1 x.cap.args.length p1, .int .i64 x.start.op, .int .i64 x.start.n, .int .i64 x.start.u, .string x.start.rn, .int .i64 x.start.ri, .slice a2 x.start.args.length p2, .slice L.lets.a L.lets.n L.lets.c, .slice L.crops.a L.crops.n L.crops.c, .slice L.reaches.a L.reaches.n L.reaches.c, .slice L.farms.a L.farms.n L.farms.c, .slice L.rots.a L.rots.n L.rots.c, .slice L.rights.a L.rights.n L.rights.c, .slice L.duties.a L.duties.n L.duties.c] 35 (0, 0))) := Lib.hid ((hbfarms.block _ (by have := HB1x3.out.size; have := HZ0.out; omega)).trans HSx12.out)
  replace HRwlets := Lib.hid (HRwlets.out.up (fun b _ hlt => hbfarms.block b hlt))
  replace HRwcrops := Lib.hid (HRwcrops.out.up (fun b _ hlt => hbfarms.block b hlt))
  replace HRwreaches := Lib.hid (HRwreaches.out.up (fun b _ hlt => hbfarms.block b hlt))
  have HRwfarms : Hid (ClR W1.heap.size V13 59 12 (FarmV N w) ⟨afarms, nfarms, cfarms⟩ x.farms) := Lib.hid (ClR.of hnfarms (by exact HB1x3.out.size) hrowfarms)
  clear hnfarms hbfarms hrowfarms
  refine hK.out _ _ (fun _ => HSx13.out) ?_
  clear hK K
  refine wpAnyK_take' (i := 12) (v := .pointer (some ⟨w.heap.size, 19, none⟩)) rfl (by kernel_rfl) (by kernel_rfl) (by kernel_rfl) (fun _ _ _ h => h) (by kernel_rfl) (Or.inl ⟨by rfl, ?_⟩) (by first | exact fun _ => HSx13.out | (intro h; cases h)) ?_
  · intro w _; go_simp
  refine wpAnyK_one (i := 13) (by kernel_rfl) rfl (fun K hK => ?_)
  have hc : V13.cell? ⟨w.heap.size, 19, none⟩ = some (.slice L.lets.a L.lets.n L.lets.c) := by simp only [World.cell?, HSx13.out]; rfl
  have hf : V13.frozen? ⟨w.heap.size, 19, none⟩ = false := by simp [World.frozen?, HSx13.out]
  go_simp
  have HQ10 : Hid ((V13.setCell ⟨w.heap.size, 19, none⟩ (.slice alets nlets clets)).heap[w.heap.size]? = some (.cells #[.string x.name, .int .i64 x.season.op, .int .i64 x.season.n, .int .i64 x.season.u, .string x.season.rn, .int .i64 x.season.ri, .slice a0 x.season.args.length p0, .int .i64 x.cap.op, .int .i64 x.cap.n, .int .i64 x.cap.u, .string x.cap.rn, .int .i64 x.cap.ri, .slice a1 x.cap.args.length p1, .int .i64 x.start.op, .int .i64 x.start.n, .int .i64 x.start.u, .string x.start.rn, .int .i64 x.start.ri, .slice a2 x.start.args.length p2, .slice alets nlets clets, .slice L.crops.a L.crops.n L.crops.c, .slice L.reaches.a L.reaches.n L.reaches.c, .slice L.farms.a L.farms.n L.farms.c, .slice L.rots.a L.rots.n L.rots.c, .slice L.rights.a L.rights.n L.rights.c, .slice L.duties.a L.duties.n L.duties.c] 35 (0, 0))) := Lib.hid (by
    have := heap_setCell_same V13 w.heap.size 19 _ _ (.slice alets nlets clets) HSx13.out
    rw [this]; rfl)
  replace HRwlets := Lib.hid (HRwlets.out.up (fun b hB hlt => (set_facts (.slice alets nlets clets) hc).1.block b hlt (fun e => by cases e; have := HZ0.out; omega)))
  replace HRwcrops := Lib.hid (HRwcrops.out.up (fun b hB hlt => (set_facts (.slice alets nlets clets) hc).1.block b hlt (fun e => by cases e; have := HZ0.out; omega)))
  replace HRwreaches := Lib.hid (HRwreaches.out.up (fun b hB hlt => (set_facts (.slice alets nlets clets) hc).1.block b hlt (fun e => by cases e; have := HZ0.out; omega)))
  replace HRwfarms := Lib.hid (HRwfarms.out.up (fun b hB hlt => (set_facts (.slice alets nlets clets) hc).1.block b hlt (fun e => by cases e; have := HZ0.out; omega)))
  have HP10 := Lib.hid (grown_trans HB1x4.out (set_facts (.slice alets nlets clets) hc).1)
  clear hc hf
  generalize V13.setCell ⟨w.heap.size, 19, none⟩ (.slice alets nlets clets) = U10 at *
  refine hK.out _ _ (by first | (intro h; cases h; done) | exact fun _ => HSx13.out) ?_
  clear hK K
  refine wpAnyK_take' (i := 14) (v := .pointer (some ⟨w.heap.size, 20, none⟩)) rfl (by kernel_rfl) (by kernel_rfl) (by kernel_rfl) (fun _ _ _ h => h) (by kernel_rfl) (Or.inl ⟨by rfl, ?_⟩) (by first | exact fun _ => HQ10.out | (intro h; cases h)) ?_
  · intro w _; go_simp
  refine wpAnyK_one (i := 15) (by kernel_rfl) rfl (fun K hK => ?_)
  have hc : U10.cell? ⟨w.heap.size, 20, none⟩ = some (.slice L.crops.a L.crops.n L.crops.c) := by simp only [World.cell?, HQ10.out]; rfl
  have hf : U10.frozen? ⟨w.heap.size, 20, none⟩ = false := by simp [World.frozen?, HQ10.out]
  go_simp
  have HQ11 : Hid ((U10.setCell ⟨w.heap.size, 20, none⟩ (.slice acrops ncrops ccrops)).heap[w.heap.size]? = some (.cells #[.string x.name, .int .i64 x.season.op, .int .i64 x.season.n, .int .i64 x.season.u, .string x.season.rn, .int .i64 x.season.ri, .slice a0 x.season.args.length p0, .int .i64 x.cap.op, .int .i64 x.cap.n, .int .i64 x.cap.u, .string x.cap.rn, .int .i64 x.cap.ri, .slice a1 x.cap.args.length p1, .int .i64 x.start.op, .int .i64 x.start.n, .int .i64 x.start.u, .string x.start.rn, .int .i64 x.start.ri, .slice a2 x.start.args.length p2, .slice alets nlets clets, .slice acrops ncrops ccrops, .slice L.reaches.a L.reaches.n L.reaches.c, .slice L.farms.a L.farms.n L.farms.c, .slice L.rots.a L.rots.n L.rots.c, .slice L.rights.a L.rights.n L.rights.c, .slice L.duties.a L.duties.n L.duties.c] 35 (0, 0))) := Lib.hid (by
    have := heap_setCell_same U10 w.heap.size 20 _ _ (.slice acrops ncrops ccrops) HQ10.out
    rw [this]; rfl)
  replace HRwlets := Lib.hid (HRwlets.out.up (fun b hB hlt => (set_facts (.slice acrops ncrops ccrops) hc).1.block b hlt (fun e => by cases e; have := HZ0.out; omega)))
  replace HRwcrops := Lib.hid (HRwcrops.out.up (fun b hB hlt => (set_facts (.slice acrops ncrops ccrops) hc).1.block b hlt (fun e => by cases e; have := HZ0.out; omega)))
  replace HRwreaches := Lib.hid (HRwreaches.out.up (fun b hB hlt => (set_facts (.slice acrops ncrops ccrops) hc).1.block b hlt (fun e => by cases e; have := HZ0.out; omega)))
  replace HRwfarms := Lib.hid (HRwfarms.out.up (fun b hB hlt => (set_facts (.slice acrops ncrops ccrops) hc).1.block b hlt (fun e => by cases e; have := HZ0.out; omega)))
  have HP11 := Lib.hid (grown_trans HP10.out (set_facts (.slice acrops ncrops ccrops) hc).1)
  clear hc hf
  generalize U10.setCell ⟨w.heap.size, 20, none⟩ (.slice acrops ncrops ccrops) = U11 at *
  refine hK.out _ _ (by first | (intro h; cases h; done) | exact fun _ => HQ10.out) ?_
  clear hK K
  refine wpAnyK_take' (i := 16) (v := .pointer (some ⟨w.heap.size, 21, none⟩)) rfl (by kernel_rfl) (by kernel_rfl) (by kernel_rfl) (fun _ _ _ h => h) (by kernel_rfl) (Or.inl ⟨by rfl, ?_⟩) (by first | exact fun _ => HQ11.out | (intro h; cases h)) ?_
  · intro w _; go_simp
  refine wpAnyK_one (i := 17) (by kernel_rfl) rfl (fun K hK => ?_)
  have hc : U11.cell? ⟨w.heap.size, 21, none⟩ = some (.slice L.reaches.a L.reaches.n L.reaches.c) := by simp only [World.cell?, HQ11.out]; rfl
  have hf : U11.frozen? ⟨w.heap.size, 21, none⟩ = false := by simp [World.frozen?, HQ11.out]
  go_simp
  have HQ12 : Hid ((U11.setCell ⟨w.heap.size, 21, none⟩ (.slice areaches nreaches creaches)).heap[w.heap.size]? = some (.cells #[.string x.name, .int .i64 x.season.op, .int .i64 x.season.n, .int .i64 x.season.u, .string x.season.rn, .int .i64 x.season.ri, .slice a0 x.season.args.length p0, .int .i64 x.cap.op, .int .i64 x.cap.n, .int .i64 x.cap.u, .string x.cap.rn, .int .i64 x.cap.ri, .slice a1 x.cap.args.length p1, .int .i64 x.start.op, .int .i64 x.start.n, .int .i64 x.start.u, .string x.start.rn, .int .i64 x.start.ri, .slice a2 x.start.args.length p2, .slice alets nlets clets, .slice acrops ncrops ccrops, .slice areaches nreaches creaches, .slice L.farms.a L.farms.n L.farms.c, .slice L.rots.a L.rots.n L.rots.c, .slice L.rights.a L.rights.n L.rights.c, .slice L.duties.a L.duties.n L.duties.c] 35 (0, 0))) := Lib.hid (by
    have := heap_setCell_same U11 w.heap.size 21 _ _ (.slice areaches nreaches creaches) HQ11.out
    rw [this]; rfl)
  replace HRwlets := Lib.hid (HRwlets.out.up (fun b hB hlt => (set_facts (.slice areaches nreaches creaches) hc).1.block b hlt (fun e => by cases e; have := HZ0.out; omega)))
  replace HRwcrops := Lib.hid (HRwcrops.out.up (fun b hB hlt => (set_facts (.slice areaches nreaches creaches) hc).1.block b hlt (fun e => by cases e; have := HZ0.out; omega)))
  replace HRwreaches := Lib.hid (HRwreaches.out.up (fun b hB hlt => (set_facts (.slice areaches nreaches creaches) hc).1.block b hlt (fun e => by cases e; have := HZ0.out; omega)))
  replace HRwfarms := Lib.hid (HRwfarms.out.up (fun b hB hlt => (set_facts (.slice areaches nreaches creaches) hc).1.block b hlt (fun e => by cases e; have := HZ0.out; omega)))
  have HP12 := Lib.hid (grown_trans HP11.out (set_facts (.slice areaches nreaches creaches) hc).1)
  clear hc hf
  generalize U11.setCell ⟨w.heap.size, 21, none⟩ (.slice areaches nreaches creaches) = U12 at *
  refine hK.out _ _ (by first | (intro h; cases h; done) | exact fun _ => HQ11.out) ?_
  clear hK K
  refine wpAnyK_take' (i := 18) (v := .pointer (some ⟨w.heap.size, 22, none⟩)) rfl (by kernel_rfl) (by kernel_rfl) (by kernel_rfl) (fun _ _ _ h => h) (by kernel_rfl) (Or.inl ⟨by rfl, ?_⟩) (by first | exact fun _ => HQ12.out | (intro h; cases h)) ?_
  · intro w _; go_simp
  refine wpAnyK_one (i := 19) (by kernel_rfl) rfl (fun K hK => ?_)
  have hc : U12.cell? ⟨w.heap.size, 22, none⟩ = some (.slice L.farms.a L.farms.n L.farms.c) := by simp only [World.cell?, HQ12.out]; rfl
  have hf : U12.frozen? ⟨w.heap.size, 22, none⟩ = false := by simp [World.frozen?, HQ12.out]
  go_simp
  have HQ13 : Hid ((U12.setCell ⟨w.heap.size, 22, none⟩ (.slice afarms nfarms cfarms)).heap[w.heap.size]? = some (.cells #[.string x.name, .int .i64 x.season.op, .int .i64 x.season.n, .int .i64 x.season.u, .string x.season.rn, .int .i64 x.season.ri, .slice a0 x.season.args.length p0, .int .i64 x.cap.op, .int .i64 x.cap.n, .int .i64 x.cap.u, .string x.cap.rn, .int .i64 x.cap.ri, .slice a1 x.cap.args.length p1, .int .i64 x.start.op, .int .i64 x.start.n, .int .i64 x.start.u, .string x.start.rn, .int .i64 x.start.ri, .slice a2 x.start.args.length p2, .slice alets nlets clets, .slice acrops ncrops ccrops, .slice areaches nreaches creaches, .slice afarms nfarms cfarms, .slice L.rots.a L.rots.n L.rots.c, .slice L.rights.a L.rights.n L.rights.c, .slice L.duties.a L.duties.n L.duties.c] 35 (0, 0))) := Lib.hid (by
    have := heap_setCell_same U12 w.heap.size 22 _ _ (.slice afarms nfarms cfarms) HQ12.out
    rw [this]; rfl)
  replace HRwlets := Lib.hid (HRwlets.out.up (fun b hB hlt => (set_facts (.slice afarms nfarms cfarms) hc).1.block b hlt (fun e => by cases e; have := HZ0.out; omega)))
  replace HRwcrops := Lib.hid (HRwcrops.out.up (fun b hB hlt => (set_facts (.slice afarms nfarms cfarms) hc).1.block b hlt (fun e => by cases e; have := HZ0.out; omega)))
  replace HRwreaches := Lib.hid (HRwreaches.out.up (fun b hB hlt => (set_facts (.slice afarms nfarms cfarms) hc).1.block b hlt (fun e => by cases e; have := HZ0.out; omega)))
  replace HRwfarms := Lib.hid (HRwfarms.out.up (fun b hB hlt => (set_facts (.slice afarms nfarms cfarms) hc).1.block b hlt (fun e => by cases e; have := HZ0.out; omega)))
  have HP13 := Lib.hid (grown_trans HP12.out (set_facts (.slice afarms nfarms cfarms) hc).1)
  clear hc hf
  generalize U12.setCell ⟨w.heap.size, 22, none⟩ (.slice afarms nfarms cfarms) = U13 at *
  refine hK.out _ _ (by first | (intro h; cases h; done) | exact fun _ => HQ12.out) ?_
  clear hK K
  refine wpAnyK_done (by kernel_rfl) ?_
  refine NoPanic.normal ?_
  simp only [Exit.then]
  refine wpAt_seq (wpAt_of_wp ?_)
  refine wp_region_noPanic ?_
  have T20 : U13.drew.heap[w.heap.size]? = some (.cells #[.string x.name, .int .i64 x.season.op, .int .i64 x.season.n, .int .i64 x.season.u, .string x.season.rn, .int .i64 x.season.ri, .slice a0 x.season.args.length p0, .int .i64 x.cap.op, .int .i64 x.cap.n, .int .i64 x.cap.u, .string x.cap.rn, .int .i64 x.cap.ri, .slice a1 x.cap.args.length p1, .int .i64 x.start.op, .int .i64 x.start.n, .int .i64 x.start.u, .string x.start.rn, .int .i64 x.start.ri, .slice a2 x.start.args.length p2, .slice alets nlets clets, .slice acrops ncrops ccrops, .slice areaches nreaches creaches, .slice afarms nfarms cfarms, .slice L.rots.a L.rots.n L.rots.c, .slice L.rights.a L.rights.n L.rights.c, .slice L.duties.a L.duties.n L.duties.c] 35 (0, 0)) := HQ13.out
  have HT2 := Lib.hid T20
  clear T20
  refine wp_region_K (by kernel_rfl) (fun W => W.heap[w.heap.size]? = some (.cells #[.string x.name, .int .i64 x.season.op, .int .i64 x.season.n, .int .i64 x.season.u, .string x.season.rn, .int .i64 x.season.ri, .slice a0 x.season.args.length p0, .int .i64 x.cap.op, .int .i64 x.cap.n, .int .i64 x.cap.u, .string x.cap.rn, .int .i64 x.cap.ri, .slice a1 x.cap.args.length p1, .int .i64 x.start.op, .int .i64 x.start.n, .int .i64 x.start.u, .string x.start.rn, .int .i64 x.start.ri, .slice a2 x.start.args.length p2, .slice alets nlets clets, .slice acrops ncrops ccrops, .slice areaches nreaches creaches, .slice afarms nfarms cfarms, .slice L.rots.a L.rots.n L.rots.c, .slice L.rights.a L.rights.n L.rights.c, .slice L.duties.a L.duties.n L.duties.c] 35 (0, 0))) 10 ?_
  refine wpAnyK_take' (i := 0) (v := .pointer (some ⟨w.heap.size, 23, none⟩)) rfl (by kernel_rfl) (by kernel_rfl) (by kernel_rfl) (fun _ _ _ h => h) (by kernel_rfl) (Or.inl ⟨by rfl, ?_⟩) (fun _ => HT2.out) ?_
  · intro w _; go_simp
  refine wpAnyK_take (i := 1) (v := .slice L.rots.a L.rots.n L.rots.c) rfl (by kernel_rfl) (by kernel_rfl) (by kernel_rfl) (fun _ _ _ h => h) (by kernel_rfl) (Or.inl ⟨by rfl, ?_⟩) HT2.out ?_
  · intro W hW
    have hc : W.cell? ⟨w.heap.size, 23, none⟩ = some (.slice L.rots.a L.rots.n L.rots.c) := by simp only [World.cell?, hW]; rfl
    clear hW
    go_simp
  refine wpAnyK_take' (i := 3) (v := .pointer (some ⟨w.heap.size, 24, none⟩)) rfl (by kernel_rfl) (by kernel_rfl) (by kernel_rfl) (fun _ _ _ h => h) (by kernel_rfl) (Or.inl ⟨by rfl, ?_⟩) (fun _ => HT2.out) ?_
  · intro w _; go_simp
  refine wpAnyK_take (i := 4) (v := .slice L.rights.a L.rights.n L.rights.c) rfl (by kernel_rfl) (by kernel_rfl) (by kernel_rfl) (fun _ _ _ h => h) (by kernel_rfl) (Or.inl ⟨by rfl, ?_⟩) HT2.out ?_
  · intro W hW
    have hc : W.cell? ⟨w.heap.size, 24, none⟩ = some (.slice L.rights.a L.rights.n L.rights.c) := by simp only [World.cell?, hW]; rfl
    clear hW
    go_simp
  refine wpAnyK_take' (i := 6) (v := .pointer (some ⟨w.heap.size, 25, none⟩)) rfl (by kernel_rfl) (by kernel_rfl) (by kernel_rfl) (fun _ _ _ h => h) (by kernel_rfl) (Or.inl ⟨by rfl, ?_⟩) (fun _ => HT2.out) ?_
  · intro w _; go_simp
  refine wpAnyK_take (i := 7) (v := .slice L.duties.a L.duties.n L.duties.c) rfl (by kernel_rfl) (by kernel_rfl) (by kernel_rfl) (fun _ _ _ h => h) (by kernel_rfl) (Or.inl ⟨by rfl, ?_⟩) HT2.out ?_
  · intro W hW
    have hc : W.cell? ⟨w.heap.size, 25, none⟩ = some (.slice L.duties.a L.duties.n L.duties.c) := by simp only [World.cell?, hW]; rfl
    clear hW
    go_simp
  have HB2x0 : Hid (W1.grownBy U13.drew (some w.heap.size)) := Lib.hid (grown_drew HP13.out)
  refine wpAnyK_one (i := 2) (by kernel_rfl) rfl (fun K hK => ?_)
  go_simp
  refine (clone_rot (Q := (fun cs (d : RotD × Nat) => RotV N w (turnsOf L d.2) cs d.1)) (rots_row (HV.out.rots) (HNw.out _ HB2x0.out)) (HNz.out _ HB2x0.out) one_rotI (by rw [List.length_zipIdx]; exact HSl.out.rots)).mono ?_
  rintro e V20 ⟨⟨arots, nrots, crots⟩, rfl, hnrots, hbrots, hrowrots⟩
  rw [show Hdr.v ⟨arots, nrots, crots⟩ = Value.slice arots nrots crots from rfl]
  simp only at hnrots hrowrots
  have HB2x1 : Hid (W1.grownBy V20 (some w.heap.size)) := Lib.hid (grown_trans HB2x0.out (grown_of_below hbrots))
  have HSx20 : Hid (V20.heap[w.heap.size]? = some (.cells #[.string x.name, .int .i64 x.season.op, .int .i64 x.season.n, .int .i64 x.season.u, .string x.season.rn, .int .i64 x.season.ri, .slice a0 x.season.args.length p0, .int .i64 x.cap.op, .int .i64 x.cap.n, .int .i64 x.cap.u, .string x.cap.rn, .int .i64 x.cap.ri, .slice a1 x.cap.args.length p1, .int .i64 x.start.op, .int .i64 x.start.n, .int .i64 x.start.u, .string x.start.rn, .int .i64 x.start.ri, .slice a2 x.start.args.length p2, .slice alets nlets clets, .slice acrops ncrops ccrops, .slice areaches nreaches creaches, .slice afarms nfarms cfarms, .slice L.rots.a L.rots.n L.rots.c, .slice L.rights.a L.rights.n L.rights.c, .slice L.duties.a L.duties.n L.duties.c] 35 (0, 0))) := Lib.hid ((hbrots.block _ (by have := HB2x0.out.size; have := HZ0.out; omega)).trans HT2.out)
  replace HRwlets := Lib.hid (HRwlets.out.up (fun b _ hlt => hbrots.block b hlt))
  replace HRwcrops := Lib.hid (HRwcrops.out.up (fun b _ hlt => hbrots.block b hlt))
  replace HRwreaches := Lib.hid (HRwreaches.out.up (fun b _ hlt => hbrots.block b hlt))
  replace HRwfarms := Lib.hid (HRwfarms.out.up (fun b _ hlt => hbrots.block b hlt))
  have HRwrots : Hid (ClR W1.heap.size V20 64 23 (fun cs (d : RotD × Nat) => RotV N w (turnsOf L d.2) cs d.1) ⟨arots, nrots, crots⟩ x.rots.zipIdx) := Lib.hid (ClR.of hnrots (by exact HB2x0.out.size) hrowrots)
  clear hnrots hbrots hrowrots
  refine hK.out _ _ (fun _ => HSx20.out) ?_
  clear hK K
  refine wpAnyK_one (i := 5) (by kernel_rfl) rfl (fun K hK => ?_)
  go_simp
  refine (clone_right (HV.out.rights.same (fun _ h => h) (HNw.out _ HB2x1.out) (fun _ _ h => h)) (HNz.out _ HB2x1.out) one_right HSl.out.rights).mono ?_
  rintro e V21 ⟨⟨arights, nrights, crights⟩, rfl, hnrights, hbrights, hrowrights⟩
  rw [show Hdr.v ⟨arights, nrights, crights⟩ = Value.slice arights nrights crights from rfl]
  simp only at hnrights hrowrights
  have HB2x2 : Hid (W1.grownBy V21 (some w.heap.size)) := Lib.hid (grown_trans HB2x1.out (grown_of_below hbrights))
  have HSx21 : Hid (V21.heap[w.heap.size]? = some (.cells #[.string x.name, .int .i64 x.season.op, .int .i64 x.season.n, .int .i64 x.season.u, .string x.season.rn, .int .i64 x.season.ri, .slice a0 x.season.args.length p0, .int .i64 x.cap.op, .int .i64 x.cap.n, .int .i64 x.cap.u, .string x.cap.rn, .int .i64 x.cap.ri, .slice a1 x.cap.args.length p1, .int .i64 x.start.op, .int .i64 x.start.n, .int .i64 x.start.u, .string x.start.rn, .int .i64 x.start.ri, .slice a2 x.start.args.length p2, .slice alets nlets clets, .slice acrops ncrops ccrops, .slice areaches nreaches creaches, .slice afarms nfarms cfarms, .slice L.rots.a L.rots.n L.rots.c, .slice L.rights.a L.rights.n L.rights.c, .slice L.duties.a L.duties.n L.duties.c] 35 (0, 0))) := Lib.hid ((hbrights.block _ (by have := HB2x1.out.size; have := HZ0.out; omega)).trans HSx20.out)
  replace HRwlets := Lib.hid (HRwlets.out.up (fun b _ hlt => hbrights.block b hlt))
  replace HRwcrops := Lib.hid (HRwcrops.out.up (fun b _ hlt => hbrights.block b hlt))
  replace HRwreaches := Lib.hid (HRwreaches.out.up (fun b _ hlt => hbrights.block b hlt))
  replace HRwfarms := Lib.hid (HRwfarms.out.up (fun b _ hlt => hbrights.block b hlt))
  replace HRwrots := Lib.hid (HRwrots.out.up (fun b _ hlt => hbrights.block b hlt))
  have HRwrights : Hid (ClR W1.heap.size V21 68 37 (RightV N w) ⟨arights, nrights, crights⟩ x.rights) := Lib.hid (ClR.of hnrights (by exact HB2x1.out.size) hrowrights)
  clear hnrights hbrights hrowrights
  refine hK.out _ _ (fun _ => HSx21.out) ?_
  clear hK K
  refine wpAnyK_one (i := 8) (by kernel_rfl) rfl (fun K hK => ?_)
  go_simp
  refine (clone_duty (HV.out.duties.same (fun _ h => h) (HNw.out _ HB2x2.out) (fun _ _ h => h)) (HNz.out _ HB2x2.out) one_duty HSl.out.duties).mono ?_
  rintro e V22 ⟨⟨aduties, nduties, cduties⟩, rfl, hnduties, hbduties, hrowduties⟩
  rw [show Hdr.v ⟨aduties, nduties, cduties⟩ = Value.slice aduties nduties cduties from rfl]
  simp only at hnduties hrowduties
  have HB2x3 : Hid (W1.grownBy V22 (some w.heap.size)) := Lib.hid (grown_trans HB2x2.out (grown_of_below hbduties))
  have HSx22 : Hid (V22.heap[w.heap.size]? = some (.cells #[.string x.name, .int .i64 x.season.op, .int .i64 x.season.n, .int .i64 x.season.u, .string x.season.rn, .int .i64 x.season.ri, .slice a0 x.season.args.length p0, .int .i64 x.cap.op, .int .i64 x.cap.n, .int .i64 x.cap.u, .string x.cap.rn, .int .i64 x.cap.ri, .slice a1 x.cap.args.length p1, .int .i64 x.start.op, .int .i64 x.start.n, .int .i64 x.start.u, .string x.start.rn, .int .i64 x.start.ri, .slice a2 x.start.args.length p2, .slice alets nlets clets, .slice acrops ncrops ccrops, .slice areaches nreaches creaches, .slice afarms nfarms cfarms, .slice L.rots.a L.rots.n L.rots.c, .slice L.rights.a L.rights.n L.rights.c, .slice L.duties.a L.duties.n L.duties.c] 35 (0, 0))) := Lib.hid ((hbduties.block _ (by have := HB2x2.out.size; have := HZ0.out; omega)).trans HSx21.out)
  replace HRwlets := Lib.hid (HRwlets.out.up (fun b _ hlt => hbduties.block b hlt))
  replace HRwcrops := Lib.hid (HRwcrops.out.up (fun b _ hlt => hbduties.block b hlt))
  replace HRwreaches := Lib.hid (HRwreaches.out.up (fun b _ hlt => hbduties.block b hlt))
  replace HRwfarms := Lib.hid (HRwfarms.out.up (fun b _ hlt => hbduties.block b hlt))
  replace HRwrots := Lib.hid (HRwrots.out.up (fun b _ hlt => hbduties.block b hlt))
  replace HRwrights := Lib.hid (HRwrights.out.up (fun b _ hlt => hbduties.block b hlt))
  have HRwduties : Hid (ClR W1.heap.size V22 70 11 (DutyV N w) ⟨aduties, nduties, cduties⟩ x.duties) := Lib.hid (ClR.of hnduties (by exact HB2x2.out.size) hrowduties)
  clear hnduties hbduties hrowduties
  refine hK.out _ _ (fun _ => HSx22.out) ?_
  clear hK K
  refine wpAnyK_take' (i := 9) (v := .pointer (some ⟨w.heap.size, 23, none⟩)) rfl (by kernel_rfl) (by kernel_rfl) (by kernel_rfl) (fun _ _ _ h => h) (by kernel_rfl) (Or.inl ⟨by rfl, ?_⟩) (by first | exact fun _ => HSx22.out | (intro h; cases h)) ?_
  · intro w _; go_simp
  refine wpAnyK_one (i := 10) (by kernel_rfl) rfl (fun K hK => ?_)
  have hc : V22.cell? ⟨w.heap.size, 23, none⟩ = some (.slice L.rots.a L.rots.n L.rots.c) := by simp only [World.cell?, HSx22.out]; rfl
  have hf : V22.frozen? ⟨w.heap.size, 23, none⟩ = false := by simp [World.frozen?, HSx22.out]
  go_simp
  have HQ20 : Hid ((V22.setCell ⟨w.heap.size, 23, none⟩ (.slice arots nrots crots)).heap[w.heap.size]? = some (.cells #[.string x.name, .int .i64 x.season.op, .int .i64 x.season.n, .int .i64 x.season.u, .string x.season.rn, .int .i64 x.season.ri, .slice a0 x.season.args.length p0, .int .i64 x.cap.op, .int .i64 x.cap.n, .int .i64 x.cap.u, .string x.cap.rn, .int .i64 x.cap.ri, .slice a1 x.cap.args.length p1, .int .i64 x.start.op, .int .i64 x.start.n, .int .i64 x.start.u, .string x.start.rn, .int .i64 x.start.ri, .slice a2 x.start.args.length p2, .slice alets nlets clets, .slice acrops ncrops ccrops, .slice areaches nreaches creaches, .slice afarms nfarms cfarms, .slice arots nrots crots, .slice L.rights.a L.rights.n L.rights.c, .slice L.duties.a L.duties.n L.duties.c] 35 (0, 0))) := Lib.hid (by
    have := heap_setCell_same V22 w.heap.size 23 _ _ (.slice arots nrots crots) HSx22.out
    rw [this]; rfl)
  replace HRwlets := Lib.hid (HRwlets.out.up (fun b hB hlt => (set_facts (.slice arots nrots crots) hc).1.block b hlt (fun e => by cases e; have := HZ0.out; omega)))
  replace HRwcrops := Lib.hid (HRwcrops.out.up (fun b hB hlt => (set_facts (.slice arots nrots crots) hc).1.block b hlt (fun e => by cases e; have := HZ0.out; omega)))
  replace HRwreaches := Lib.hid (HRwreaches.out.up (fun b hB hlt => (set_facts (.slice arots nrots crots) hc).1.block b hlt (fun e => by cases e; have := HZ0.out; omega)))
  replace HRwfarms := Lib.hid (HRwfarms.out.up (fun b hB hlt => (set_facts (.slice arots nrots crots) hc).1.block b hlt (fun e => by cases e; have := HZ0.out; omega)))
  replace HRwrots := Lib.hid (HRwrots.out.up (fun b hB hlt => (set_facts (.slice arots nrots crots) hc).1.block b hlt (fun e => by cases e; have := HZ0.out; omega)))
  replace HRwrights := Lib.hid (HRwrights.out.up (fun b hB hlt => (set_facts (.slice arots nrots crots) hc).1.block b hlt (fun e => by cases e; have := HZ0.out; omega)))
  replace HRwduties := Lib.hid (HRwduties.out.up (fun b hB hlt => (set_facts (.slice arots nrots crots) hc).1.block b hlt (fun e => by cases e; have := HZ0.out; omega)))
  have HP20 := Lib.hid (grown_trans HB2x3.out (set_facts (.slice arots nrots crots) hc).1)
  clear hc hf
  generalize V22.setCell ⟨w.heap.size, 23, none⟩ (.slice arots nrots crots) = U20 at *
  refine hK.out _ _ (by first | (intro h; cases h; done) | exact fun _ => HSx22.out) ?_
  clear hK K
  refine wpAnyK_take' (i := 11) (v := .pointer (some ⟨w.heap.size, 24, none⟩)) rfl (by kernel_rfl) (by kernel_rfl) (by kernel_rfl) (fun _ _ _ h => h) (by kernel_rfl) (Or.inl ⟨by rfl, ?_⟩) (by first | exact fun _ => HQ20.out | (intro h; cases h)) ?_
  · intro w _; go_simp
  refine wpAnyK_one (i := 12) (by kernel_rfl) rfl (fun K hK => ?_)
  have hc : U20.cell? ⟨w.heap.size, 24, none⟩ = some (.slice L.rights.a L.rights.n L.rights.c) := by simp only [World.cell?, HQ20.out]; rfl
  have hf : U20.frozen? ⟨w.heap.size, 24, none⟩ = false := by simp [World.frozen?, HQ20.out]
  go_simp
  have HQ21 : Hid ((U20.setCell ⟨w.heap.size, 24, none⟩ (.slice arights nrights crights)).heap[w.heap.size]? = some (.cells #[.string x.name, .int .i64 x.season.op, .int .i64 x.season.n, .int .i64 x.season.u, .string x.season.rn, .int .i64 x.season.ri, .slice a0 x.season.args.length p0, .int .i64 x.cap.op, .int .i64 x.cap.n, .int .i64 x.cap.u, .string x.cap.rn, .int .i64 x.cap.ri, .slice a1 x.cap.args.length p1, .int .i64 x.start.op, .int .i64 x.start.n, .int .i64 x.start.u, .string x.start.rn, .int .i64 x.start.ri, .slice a2 x.start.args.length p2, .slice alets nlets clets, .slice acrops ncrops ccrops, .slice areaches nreaches creaches, .slice afarms nfarms cfarms, .slice arots nrots crots, .slice arights nrights crights, .slice L.duties.a L.duties.n L.duties.c] 35 (0, 0))) := Lib.hid (by
    have := heap_setCell_same U20 w.heap.size 24 _ _ (.slice arights nrights crights) HQ20.out
    rw [this]; rfl)
  replace HRwlets := Lib.hid (HRwlets.out.up (fun b hB hlt => (set_facts (.slice arights nrights crights) hc).1.block b hlt (fun e => by cases e; have := HZ0.out; omega)))
  replace HRwcrops := Lib.hid (HRwcrops.out.up (fun b hB hlt => (set_facts (.slice arights nrights crights) hc).1.block b hlt (fun e => by cases e; have := HZ0.out; omega)))
  replace HRwreaches := Lib.hid (HRwreaches.out.up (fun b hB hlt => (set_facts (.slice arights nrights crights) hc).1.block b hlt (fun e => by cases e; have := HZ0.out; omega)))
  replace HRwfarms := Lib.hid (HRwfarms.out.up (fun b hB hlt => (set_facts (.slice arights nrights crights) hc).1.block b hlt (fun e => by cases e; have := HZ0.out; omega)))
  replace HRwrots := Lib.hid (HRwrots.out.up (fun b hB hlt => (set_facts (.slice arights nrights crights) hc).1.block b hlt (fun e => by cases e; have := HZ0.out; omega)))
  replace HRwrights := Lib.hid (HRwrights.out.up (fun b hB hlt => (set_facts (.slice arights nrights crights) hc).1.block b hlt (fun e => by cases e; have := HZ0.out; omega)))
  replace HRwduties := Lib.hid (HRwduties.out.up (fun b hB hlt => (set_facts (.slice arights nrights crights) hc).1.block b hlt (fun e => by cases e; have := HZ0.out; omega)))
  have HP21 := Lib.hid (grown_trans HP20.out (set_facts (.slice arights nrights crights) hc).1)
  clear hc hf
  generalize U20.setCell ⟨w.heap.size, 24, none⟩ (.slice arights nrights crights) = U21 at *
  refine hK.out _ _ (by first | (intro h; cases h; done) | exact fun _ => HQ20.out) ?_
  clear hK K
  refine wpAnyK_take' (i := 13) (v := .pointer (some ⟨w.heap.size, 25, none⟩)) rfl (by kernel_rfl) (by kernel_rfl) (by kernel_rfl) (fun _ _ _ h => h) (by kernel_rfl) (Or.inl ⟨by rfl, ?_⟩) (by first | exact fun _ => HQ21.out | (intro h; cases h)) ?_
  · intro w _; go_simp
  refine wpAnyK_one (i := 14) (by kernel_rfl) rfl (fun K hK => ?_)
  have hc : U21.cell? ⟨w.heap.size, 25, none⟩ = some (.slice L.duties.a L.duties.n L.duties.c) := by simp only [World.cell?, HQ21.out]; rfl
  have hf : U21.frozen? ⟨w.heap.size, 25, none⟩ = false := by simp [World.frozen?, HQ21.out]
  go_simp
  have HQ22 : Hid ((U21.setCell ⟨w.heap.size, 25, none⟩ (.slice aduties nduties cduties)).heap[w.heap.size]? = some (.cells #[.string x.name, .int .i64 x.season.op, .int .i64 x.season.n, .int .i64 x.season.u, .string x.season.rn, .int .i64 x.season.ri, .slice a0 x.season.args.length p0, .int .i64 x.cap.op, .int .i64 x.cap.n, .int .i64 x.cap.u, .string x.cap.rn, .int .i64 x.cap.ri, .slice a1 x.cap.args.length p1, .int .i64 x.start.op, .int .i64 x.start.n, .int .i64 x.start.u, .string x.start.rn, .int .i64 x.start.ri, .slice a2 x.start.args.length p2, .slice alets nlets clets, .slice acrops ncrops ccrops, .slice areaches nreaches creaches, .slice afarms nfarms cfarms, .slice arots nrots crots, .slice arights nrights crights, .slice aduties nduties cduties] 35 (0, 0))) := Lib.hid (by
    have := heap_setCell_same U21 w.heap.size 25 _ _ (.slice aduties nduties cduties) HQ21.out
    rw [this]; rfl)
  replace HRwlets := Lib.hid (HRwlets.out.up (fun b hB hlt => (set_facts (.slice aduties nduties cduties) hc).1.block b hlt (fun e => by cases e; have := HZ0.out; omega)))
  replace HRwcrops := Lib.hid (HRwcrops.out.up (fun b hB hlt => (set_facts (.slice aduties nduties cduties) hc).1.block b hlt (fun e => by cases e; have := HZ0.out; omega)))
  replace HRwreaches := Lib.hid (HRwreaches.out.up (fun b hB hlt => (set_facts (.slice aduties nduties cduties) hc).1.block b hlt (fun e => by cases e; have := HZ0.out; omega)))
  replace HRwfarms := Lib.hid (HRwfarms.out.up (fun b hB hlt => (set_facts (.slice aduties nduties cduties) hc).1.block b hlt (fun e => by cases e; have := HZ0.out; omega)))
  replace HRwrots := Lib.hid (HRwrots.out.up (fun b hB hlt => (set_facts (.slice aduties nduties cduties) hc).1.block b hlt (fun e => by cases e; have := HZ0.out; omega)))
  replace HRwrights := Lib.hid (HRwrights.out.up (fun b hB hlt => (set_facts (.slice aduties nduties cduties) hc).1.block b hlt (fun e => by cases e; have := HZ0.out; omega)))
  replace HRwduties := Lib.hid (HRwduties.out.up (fun b hB hlt => (set_facts (.slice aduties nduties cduties) hc).1.block b hlt (fun e => by cases e; have := HZ0.out; omega)))
  have HP22 := Lib.hid (grown_trans HP21.out (set_facts (.slice aduties nduties cduties) hc).1)
  clear hc hf
  generalize U21.setCell ⟨w.heap.size, 25, none⟩ (.slice aduties nduties cduties) = U22 at *
  refine hK.out _ _ (by first | (intro h; cases h; done) | exact fun _ => HQ21.out) ?_
  clear hK K
  refine wpAnyK_done (by kernel_rfl) ?_
  refine NoPanic.normal ?_
  simp only [Exit.then]
  obtain ⟨U, rfl⟩ : ∃ z : World, z = U22 := ⟨_, rfl⟩
  have HQ := Lib.hid HQ22.out
  have HP := Lib.hid HP22.out
  have hnr : nrots = x.rots.length := by have := HRwrots.out.1; simp only [List.length_zipIdx] at this; exact this
  have hnr47 : nrots ≤ 100000 := by rw [hnr]; exact HSl.out.rots
  have HNr := Lib.hid hnr
  clear hnr
  have ck : U.cell? ⟨w.heap.size, 23, none⟩ = some (.slice arots nrots crots) := by simp only [World.cell?, HQ.out]; rfl
  refine wpAt_seq (wpAt_of_wp ?_)
  go_wp2
  clear ck
  go_loopw [37] (fun iv wr => ∃ hs : List Hdr, hs.length ≤ nrots ∧ iv = .int .i64 (hs.length : Int) ∧ Hid (TnI U arots N w x.rots hs wr)) (fun iv _ => nrots - (intOf iv).toNat)
  case atStart => exact ⟨[], Nat.zero_le _, rfl, Lib.hid ⟨grown_refl _ _, Nat.zero_le _, fun _ _ _ h => h, fun _ _ _ _ => rfl, fun j hj => by simp at hj⟩⟩
  case round =>
    obtain ⟨hs, hi, rfl, HIr⟩ := hrel
    obtain ⟨i, hii⟩ : ∃ i, i = hs.length := ⟨_, rfl⟩
    rw [← hii] at hi ⊢
    by_cases hlt : i < nrots
    · have hil : i < x.rots.zipIdx.length := by rw [List.length_zipIdx, ← HNr.out]; exact hlt
      have hil2 : i < x.rots.length := by rw [← HNr.out]; exact hlt
      obtain ⟨g, cs, ha, hgB, hgT, hcl, hra, hrv⟩ := HRwrots.out.2 i hil
      simp only at ha
      subst ha
      rw [List.getElem_zipIdx] at hrv
      simp only [Nat.zero_add] at hrv
      have hlast := rotV_last hrv hcl
      have hz := HZ0.out
      have c22 : wr.cell? ⟨g, i * 23 + 22, none⟩ = some (.slice (turnsOf L i).a (turnsOf L i).n (turnsOf L i).c) := (HIr.out.cells g rfl _ (fun j hj => by omega)).trans (hra 22 _ hlast)
      have hbs : wr.heap[w.heap.size]? = some (.cells #[.string x.name, .int .i64 x.season.op, .int .i64 x.season.n, .int .i64 x.season.u, .string x.season.rn, .int .i64 x.season.ri, .slice a0 x.season.args.length p0, .int .i64 x.cap.op, .int .i64 x.cap.n, .int .i64 x.cap.u, .string x.cap.rn, .int .i64 x.cap.ri, .slice a1 x.cap.args.length p1, .int .i64 x.start.op, .int .i64 x.start.n, .int .i64 x.start.u, .string x.start.rn, .int .i64 x.start.ri, .slice a2 x.start.args.length p2, .slice alets nlets clets, .slice acrops ncrops ccrops, .slice areaches nreaches creaches, .slice afarms nfarms cfarms, .slice (some ⟨g, 0, none⟩) nrots crots, .slice arights nrights crights, .slice aduties nduties cduties] 35 (0, 0)) := (HIr.out.grown.block _ (by have := HP.out.size; omega) (fun e => by rw [rowOf_some hil2] at e; cases e; omega)).trans HQ.out
      have hfz : ∀ V : World, Below wr.heap.size wr V → V.frozen? ⟨g, i * 23 + 22, none⟩ = false := fun V hV => (Ty.same (HIr.out.ty g rfl _ hgT) (hV.block g (Nat.lt_of_lt_of_le hgT.lt HIr.out.grown.size))).frozen
      have hturn := rotV_row hrv
      have hNV : ∀ b, N b → wr.heap[b]? = w.heap[b]? := fun b hb => (HIr.out.grown.block b (HNz.out _ HP.out b hb) (fun e => by rw [rowOf_some hil2] at e; cases e; have := HN.out _ hb; omega)).trans (HNw.out _ HP.out b hb)
      have hNz : ∀ b, N b → b < wr.drew.heap.size := fun b hb => Nat.lt_of_lt_of_le (HNz.out _ HP.out b hb) HIr.out.grown.size
      have HCl := Lib.hid (clone_turn (w := wr.drew) (hturn.same (fun _ h => h) hNV (fun _ _ h => h)) hNz one_turn (HSl.out.turns _ (List.getElem_mem hil2)))
      have HTn : Hid (wr.drew.heap[w.heap.size]? = some (.cells #[.string x.name, .int .i64 x.season.op, .int .i64 x.season.n, .int .i64 x.season.u, .string x.season.rn, .int .i64 x.season.ri, .slice a0 x.season.args.length p0, .int .i64 x.cap.op, .int .i64 x.cap.n, .int .i64 x.cap.u, .string x.cap.rn, .int .i64 x.cap.ri, .slice a1 x.cap.args.length p1, .int .i64 x.start.op, .int .i64 x.start.n, .int .i64 x.start.u, .string x.start.rn, .int .i64 x.start.ri, .slice a2 x.start.args.length p2, .slice alets nlets clets, .slice acrops ncrops ccrops, .slice areaches nreaches creaches, .slice afarms nfarms cfarms, .slice (some ⟨g, 0, none⟩) nrots crots, .slice arights nrights crights, .slice aduties nduties cduties] 35 (0, 0)) ∧ wr.drew.cell? ⟨g, i * 23 + 22, none⟩ = some (.slice (turnsOf L i).a (turnsOf L i).n (turnsOf L i).c)) := Lib.hid ⟨hbs, c22⟩
      have HFz := Lib.hid hfz
      have HGl : Hid (g < U.heap.size) := Lib.hid hgT.lt
      have HGw : Hid (g < wr.heap.size ∧ w.heap.size < wr.heap.size) := Lib.hid ⟨Nat.lt_of_lt_of_le hgT.lt HIr.out.grown.size, by have := HP.out.size; have := HIr.out.grown.size; omega⟩
      have HII := Lib.hid hii
      have HIL := Lib.hid hil2
      have hki : (i : Int) < (nrots : Int) := by omega
      clear hgB hgT hcl hra hrv hlast hbs hfz hturn hNV hNz hii hz c22
      go_upto_region 6 with fail
      refine wp_region_noPanic ?_
      refine wp_region_K (by kernel_rfl) (fun W => W.heap[w.heap.size]? = some (.cells #[.string x.name, .int .i64 x.season.op, .int .i64 x.season.n, .int .i64 x.season.u, .string x.season.rn, .int .i64 x.season.ri, .slice a0 x.season.args.length p0, .int .i64 x.cap.op, .int .i64 x.cap.n, .int .i64 x.cap.u, .string x.cap.rn, .int .i64 x.cap.ri, .slice a1 x.cap.args.length p1, .int .i64 x.start.op, .int .i64 x.start.n, .int .i64 x.start.u, .string x.start.rn, .int .i64 x.start.ri, .slice a2 x.start.args.length p2, .slice alets nlets clets, .slice acrops ncrops ccrops, .slice areaches nreaches creaches, .slice afarms nfarms cfarms, .slice (some ⟨g, 0, none⟩) nrots crots, .slice arights nrights crights, .slice aduties nduties cduties] 35 (0, 0)) ∧ W.cell? ⟨g, i * 23 + 22, none⟩ = some (.slice (turnsOf L i).a (turnsOf L i).n (turnsOf L i).c)) 12 ?_
      refine wpAnyK_take' (i := 0) (v := .pointer (some ⟨w.heap.size, 23, none⟩)) rfl (by kernel_rfl) (by kernel_rfl) (by kernel_rfl) (fun _ _ _ h => h) (by kernel_rfl) (Or.inl ⟨by rfl, ?_⟩) (fun _ => HTn.out) ?_
      · intro w _; go_simp
      refine wpAnyK_take (i := 1) (v := .slice (some ⟨g, 0, none⟩) nrots crots) rfl (by kernel_rfl) (by kernel_rfl) (by kernel_rfl) (fun _ _ _ h => h) (by kernel_rfl) (Or.inl ⟨by rfl, ?_⟩) HTn.out ?_
      · rintro W ⟨hW, hW2⟩
        have hc : W.cell? ⟨w.heap.size, 23, none⟩ = some (.slice (some ⟨g, 0, none⟩) nrots crots) := by simp only [World.cell?, hW]; rfl
        clear hW
        go_simp
      refine wpAnyK_take' (i := 2) (v := .int .i64 (i : Int)) rfl (by kernel_rfl) (by kernel_rfl) (by kernel_rfl) (fun _ _ _ h => h) (by kernel_rfl) (Or.inl ⟨by rfl, ?_⟩) (fun _ => HTn.out) ?_
      · intro w _; go_simp
      refine wpAnyK_take' (i := 3) (v := .pointer (some ⟨w.heap.size, 23, none⟩)) rfl (by kernel_rfl) (by kernel_rfl) (by kernel_rfl) (fun _ _ _ h => h) (by kernel_rfl) (Or.inl ⟨by rfl, ?_⟩) (fun _ => HTn.out) ?_
      · intro w _; go_simp
      refine wpAnyK_take (i := 4) (v := .slice (some ⟨g, 0, none⟩) nrots crots) rfl (by kernel_rfl) (by kernel_rfl) (by kernel_rfl) (fun _ _ _ h => h) (by kernel_rfl) (Or.inl ⟨by rfl, ?_⟩) HTn.out ?_
      · rintro W ⟨hW, hW2⟩
        have hc : W.cell? ⟨w.heap.size, 23, none⟩ = some (.slice (some ⟨g, 0, none⟩) nrots crots) := by simp only [World.cell?, hW]; rfl
        clear hW
        go_simp
      refine wpAnyK_take' (i := 5) (v := .int .i64 (i : Int)) rfl (by kernel_rfl) (by kernel_rfl) (by kernel_rfl) (fun _ _ _ h => h) (by kernel_rfl) (Or.inl ⟨by rfl, ?_⟩) (fun _ => HTn.out) ?_
      · intro w _; go_simp
      refine wpAnyK_take' (i := 6) (v := .pointer (some ⟨g, i * 23, none⟩)) rfl (by kernel_rfl) (by kernel_rfl) (by kernel_rfl) (fun _ _ _ h => h) (by kernel_rfl) (Or.inl ⟨by rfl, ?_⟩) (fun _ => HTn.out) ?_
      · intro w _; go_simp
      refine wpAnyK_take' (i := 7) (v := .pointer (some ⟨g, i * 23 + 22, none⟩)) rfl (by kernel_rfl) (by kernel_rfl) (by kernel_rfl) (fun _ _ _ h => h) (by kernel_rfl) (Or.inl ⟨by rfl, ?_⟩) (fun _ => HTn.out) ?_
      · intro w _; go_simp
      refine wpAnyK_take (i := 8) (v := .slice (turnsOf L i).a (turnsOf L i).n (turnsOf L i).c) rfl (by kernel_rfl) (by kernel_rfl) (by kernel_rfl) (fun _ _ _ h => h) (by kernel_rfl) (Or.inl ⟨by rfl, ?_⟩) HTn.out ?_
      · rintro W ⟨hW, hW2⟩
        have hc : W.cell? ⟨w.heap.size, 23, none⟩ = some (.slice (some ⟨g, 0, none⟩) nrots crots) := by simp only [World.cell?, hW]; rfl
        clear hW
        go_simp
      refine wpAnyK_one (i := 9) (by kernel_rfl) rfl (fun K hK => ?_)
      go_simp
      refine HCl.out.mono ?_
      rintro e V ⟨⟨ta, tn, tc⟩, rfl, hn', hb', hrow'⟩
      rw [show Hdr.v ⟨ta, tn, tc⟩ = Value.slice ta tn tc from rfl]
      simp only at hn' hrow'
      have HTc : Hid (ClR wr.heap.size V 66 8 (TurnV N w) ⟨ta, tn, tc⟩ (x.rots[i]'HIL.out).turns) := Lib.hid (ClR.of hn' (Nat.le_refl _) hrow')
      have HBb : Hid (Below wr.heap.size wr V) := Lib.hid ((Below.refl _ _).drew.trans hb')
      have HTv : Hid (V.heap[w.heap.size]? = some (.cells #[.string x.name, .int .i64 x.season.op, .int .i64 x.season.n, .int .i64 x.season.u, .string x.season.rn, .int .i64 x.season.ri, .slice a0 x.season.args.length p0, .int .i64 x.cap.op, .int .i64 x.cap.n, .int .i64 x.cap.u, .string x.cap.rn, .int .i64 x.cap.ri, .slice a1 x.cap.args.length p1, .int .i64 x.start.op, .int .i64 x.start.n, .int .i64 x.start.u, .string x.start.rn, .int .i64 x.start.ri, .slice a2 x.start.args.length p2, .slice alets nlets clets, .slice acrops ncrops ccrops, .slice areaches nreaches creaches, .slice afarms nfarms cfarms, .slice (some ⟨g, 0, none⟩) nrots crots, .slice arights nrights crights, .slice aduties nduties cduties] 35 (0, 0)) ∧ V.cell? ⟨g, i * 23 + 22, none⟩ = some (.slice (turnsOf L i).a (turnsOf L i).n (turnsOf L i).c)) := Lib.hid ⟨(hb'.block _ HGw.out.2).trans HTn.out.1, (hb'.cell (p := ⟨g, i * 23 + 22, none⟩) HGw.out.1).trans HTn.out.2⟩
      clear hn' hb' hrow'
      refine hK.out _ _ (fun _ => HTv.out) ?_
      clear hK K
      refine wpAnyK_take' (i := 10) (v := .pointer (some ⟨g, i * 23, none⟩)) rfl (by kernel_rfl) (by kernel_rfl) (by kernel_rfl) (fun _ _ _ h => h) (by kernel_rfl) (Or.inl ⟨by rfl, ?_⟩) (fun _ => HTv.out) ?_
      · intro w _; go_simp
      refine wpAnyK_take' (i := 11) (v := .pointer (some ⟨g, i * 23 + 22, none⟩)) rfl (by kernel_rfl) (by kernel_rfl) (by kernel_rfl) (fun _ _ _ h => h) (by kernel_rfl) (Or.inl ⟨by rfl, ?_⟩) (fun _ => HTv.out) ?_
      · intro w _; go_simp
      refine wpAnyK_one (i := 12) (by kernel_rfl) rfl (fun K hK => ?_)
      have hc := HTv.out.2
      have hf := HFz.out V HBb.out
      go_simp
      have HNx : Hid (TnI U (some ⟨g, 0, none⟩) N w x.rots (hs ++ [⟨ta, tn, tc⟩]) (V.setCell ⟨g, i * 23 + 22, none⟩ (.slice ta tn tc))) := Lib.hid (by
        obtain rfl := HII.out
        exact HIr.out.next HIL.out rfl HGl.out HBb.out hc HTc.out rfl)
      clear hc hf
      generalize V.setCell ⟨g, i * 23 + 22, none⟩ (.slice ta tn tc) = V2 at *
      refine hK.out _ _ (by intro h; cases h) ?_
      clear hK K
      refine wpAnyK_done (by kernel_rfl) ?_
      refine NoPanic.normal ?_
      go_wp2
      exact ⟨⟨hs ++ [⟨ta, tn, tc⟩], by simp; have := HII.out; omega, by simp; have := HII.out; omega, HNx⟩, by simp [intOf]; omega⟩
    · have hin : i = nrots := by omega
      have hki : decide ((i : Int) < (nrots : Int)) = false := by simp; omega
      have hz := HZ0.out
      have hus := HP.out.size
      have hrow0 : ∀ b, b < W1.heap.size → some b ≠ rowOf x.rots arots := fun b hb e => by
        have h0 := rowOf_pos e
        obtain ⟨g, cs, ha, hgB, _⟩ := HRwrots.out.2 0 (by rw [List.length_zipIdx]; exact h0)
        simp only at ha
        rw [ha, rowOf_some h0] at e
        cases e; omega
      have hrowT : ∀ b t, Ty U b t → t ≠ 64 → some b ≠ rowOf x.rots arots := fun b t ht hne e => by
        have h0 := rowOf_pos e
        obtain ⟨g, cs, ha, _, hgT, _⟩ := HRwrots.out.2 0 (by rw [List.length_zipIdx]; exact h0)
        simp only at ha
        rw [ha, rowOf_some h0] at e
        cases e
        exact hne (ht.inj hgT)
      have hbN : ∀ b, N b → wr.heap[b]? = w.heap[b]? := fun b hb => (HIr.out.grown.block b (HNz.out _ HP.out b hb) (hrow0 b (by have := HN.out b hb; omega))).trans (HNw.out _ HP.out b hb)
      have hcS : wr.heap[w.heap.size]? = some (.cells #[.string x.name, .int .i64 x.season.op, .int .i64 x.season.n, .int .i64 x.season.u, .string x.season.rn, .int .i64 x.season.ri, .slice a0 x.season.args.length p0, .int .i64 x.cap.op, .int .i64 x.cap.n, .int .i64 x.cap.u, .string x.cap.rn, .int .i64 x.cap.ri, .slice a1 x.cap.args.length p1, .int .i64 x.start.op, .int .i64 x.start.n, .int .i64 x.start.u, .string x.start.rn, .int .i64 x.start.ri, .slice a2 x.start.args.length p2, .slice alets nlets clets, .slice acrops ncrops ccrops, .slice areaches nreaches creaches, .slice afarms nfarms cfarms, .slice arots nrots crots, .slice arights nrights crights, .slice aduties nduties cduties] 35 (0, 0)) := (HIr.out.grown.block _ (by omega) (hrow0 _ (by omega))).trans HQ.out
      have hcR : wr.heap[w.heap.size + 1]? = some (.cells #[.string ⟨#[]⟩, .int .i64 0, .int .i64 0, .int .i64 0, .string ⟨#[]⟩, .int .i64 0, .slice none 0 0, .int .i64 0, .int .i64 0, .int .i64 0, .string ⟨#[]⟩, .int .i64 0, .slice none 0 0, .int .i64 0, .int .i64 0, .int .i64 0, .string ⟨#[]⟩, .int .i64 0, .slice none 0 0, .slice none 0 0, .slice none 0 0, .slice none 0 0, .slice none 0 0, .slice none 0 0, .slice none 0 0, .slice none 0 0] 35 (0, 0)) := (HIr.out.grown.block _ (by omega) (hrow0 _ (by omega))).trans ((HP.out.block _ (by omega) (fun e => by simp at e)).trans HR0.out)
      have hgrow : ∀ b t, Ty U b t → t ≠ 64 → wr.heap[b]? = U.heap[b]? := fun b t ht hne => HIr.out.grown.block b ht.lt (hrowT b t ht hne)
      have htu : ∀ i (h : i < hs.length), turnsOf (⟨w.heap.size, ⟨alets, nlets, clets⟩, ⟨acrops, ncrops, ccrops⟩, ⟨areaches, nreaches, creaches⟩, ⟨afarms, nfarms, cfarms⟩, ⟨arots, nrots, crots⟩, ⟨arights, nrights, crights⟩, ⟨aduties, nduties, cduties⟩, hs⟩ : Lay) i = hs[i] := fun i h => by unfold turnsOf; simp [h]
      have hPS : PSrc (fun g => w.heap.size ≤ g ∧ g ≠ w.heap.size + 1) (EV N wr) (RV wr) wr (⟨w.heap.size, ⟨alets, nlets, clets⟩, ⟨acrops, ncrops, ccrops⟩, ⟨areaches, nreaches, creaches⟩, ⟨afarms, nfarms, cfarms⟩, ⟨arots, nrots, crots⟩, ⟨arights, nrights, crights⟩, ⟨aduties, nduties, cduties⟩, hs⟩ : Lay) x := by
        refine clone_psrc (B := W1.heap.size) hbN (fun g hg => by omega) HSl.out hcS HV.out.name HG0.out HG1.out HG2.out (HRwlets.out.upT fun b _ ht => hgrow b _ ht (by decide)) (HRwcrops.out.upT fun b _ ht => hgrow b _ ht (by decide)) (HRwreaches.out.upT fun b _ ht => hgrow b _ ht (by decide)) (HRwfarms.out.upT fun b _ ht => hgrow b _ ht (by decide)) ?_ (HRwrights.out.upT fun b _ ht => hgrow b _ ht (by decide)) (HRwduties.out.upT fun b _ ht => hgrow b _ ht (by decide))
        refine rows_rot (L := L) (L' := (⟨w.heap.size, ⟨alets, nlets, clets⟩, ⟨acrops, ncrops, ccrops⟩, ⟨areaches, nreaches, creaches⟩, ⟨afarms, nfarms, cfarms⟩, ⟨arots, nrots, crots⟩, ⟨arights, nrights, crights⟩, ⟨aduties, nduties, cduties⟩, hs⟩ : Lay)) hbN HRwrots.out (fun g hg => by omega) HSl.out.rots HSl.out.turns (fun g hg ht => HIr.out.ty g hg _ ht) (fun g hg i q hq => HIr.out.cells g hg _ (fun j _ => by omega)) (fun k hk g hg => ?_) (fun k hk => ?_)
        · have hkl : k < hs.length := by rw [← hii, hin, HNr.out]; exact hk
          rw [htu k hkl]
          exact (HIr.out.done k hkl hk).2 g hg
        · have hkl : k < hs.length := by rw [← hii, hin, HNr.out]; exact hk
          rw [htu k hkl]
          exact ClR.of (HIr.out.done k hkl hk).1.1 hus (HIr.out.done k hkl hk).1.2
      have hbw : Below w.heap.size w wr := ⟨HIr.out.grown.os.trans (HP.out.os.trans HB0.out.os), HIr.out.grown.tape.trans (HP.out.tape.trans HB0.out.tape), HIr.out.grown.output.trans (HP.out.output.trans HB0.out.output), by have := HIr.out.grown.size; omega, fun b hb => (HIr.out.grown.block b (by omega) (hrow0 b (by omega))).trans ((HP.out.block b (by omega) (fun e => by cases e; omega)).trans (HB0.out.block b hb))⟩
      have hnz : ∀ b, N b → b < w.heap.size ∧ b < wr.heap.size := fun b hb => ⟨HN.out b hb, by have := HN.out b hb; have := hbw.size; omega⟩
      generalize hLc : (⟨w.heap.size, ⟨alets, nlets, clets⟩, ⟨acrops, ncrops, ccrops⟩, ⟨areaches, nreaches, creaches⟩, ⟨afarms, nfarms, cfarms⟩, ⟨arots, nrots, crots⟩, ⟨arights, nrights, crights⟩, ⟨aduties, nduties, cduties⟩, hs⟩ : Lay) = Lc at hPS htu
      have hLs : Lc.s = w.heap.size := by rw [← hLc]
      have HPS := Lib.hid hPS; have HBw := Lib.hid hbw; have HNn := Lib.hid hnz; have HCS := Lib.hid hcS; have HCR := Lib.hid hcR; have HLs := Lib.hid hLs
      have HHl := Lib.hid HSl.out.exprs
      clear hPS hbw hnz hcS hcR hLs hLc htu hgrow hbN hrow0 hrowT hz hus hin hii
      go_wp2
      refine wpAt_seq (wpAt_of_wp ?_)
      go_wp2
      refine wpAt_seq (wpAt_of_wp ?_)
      have hmf : ∀ (fn : Fn) (first cap : Array Value) (w : World), (Instr.makeFunc fn first cap).run Try.prog w = .ok (.func fn first cap) w := fun _ _ _ _ => rfl
      go_wp2
      refine wpAt_seq (wpAt_seq (wpAt_of_wp ?_))
      go_wp2_with (first | (go_at_call 67; refine (expressions_any _ _).mono ?_; rintro e w2 ⟨rfl, rfl⟩))
      have hb4 : Below wr.heap.size wr ((wr.alloc (.cells #[.func (.func 79) #[] #[.pointer (some ⟨wr.heap.size, 0, none⟩)]] 146)).alloc (.cells #[.pointer (some ⟨w.heap.size, 0, none⟩)] 52)) := ((Below.refl _ _).alloc (Nat.le_refl _) _).alloc (by simp) _
      have hx4 : ((wr.alloc (.cells #[.func (.func 79) #[] #[.pointer (some ⟨wr.heap.size, 0, none⟩)]] 146)).alloc (.cells #[.pointer (some ⟨w.heap.size, 0, none⟩)] 52)).cell? ⟨wr.heap.size, 0, none⟩ = some (.func (.func 79) #[] #[.pointer (some ⟨wr.heap.size, 0, none⟩)]) := by
        refine Lib.cell?_alloc_some _ ?_
        have := World.alloc_heap_new wr (.cells #[.func (.func 79) #[] #[.pointer (some ⟨wr.heap.size, 0, none⟩)]] 146)
        simp only [World.cell?, this]; simp
      have hs4 : ((wr.alloc (.cells #[.func (.func 79) #[] #[.pointer (some ⟨wr.heap.size, 0, none⟩)]] 146)).alloc (.cells #[.pointer (some ⟨w.heap.size, 0, none⟩)] 52)).cell? ⟨wr.heap.size + 1, 0, none⟩ = some (.pointer (some ⟨w.heap.size, 0, none⟩)) := by
        have := World.alloc_heap_new (wr.alloc (.cells #[.func (.func 79) #[] #[.pointer (some ⟨wr.heap.size, 0, none⟩)]] 146)) (.cells #[.pointer (some ⟨w.heap.size, 0, none⟩)] 52)
        rw [World.size_alloc] at this
        simp only [World.cell?, this]; simp
      have hz4 : ((wr.alloc (.cells #[.func (.func 79) #[] #[.pointer (some ⟨wr.heap.size, 0, none⟩)]] 146)).alloc (.cells #[.pointer (some ⟨w.heap.size, 0, none⟩)] 52)).heap.size = wr.heap.size + 2 := by simp
      generalize (wr.alloc (.cells #[.func (.func 79) #[] #[.pointer (some ⟨wr.heap.size, 0, none⟩)]] 146)).alloc (.cells #[.pointer (some ⟨w.heap.size, 0, none⟩)] 52) = W4 at *
      have HB4 := Lib.hid hb4; have HX4 := Lib.hid hx4; have HS4 := Lib.hid hs4; have HZ4 := Lib.hid hz4
      have hP4 := HPS.out.up (fun b hb => (HNn.out b hb).2) hb4
      have hsz := HBw.out.size
      have hw2 : w.heap.size + 2 ≤ wr.heap.size := by
        have h1 := (Array.getElem?_eq_some_iff.1 HCR.out).1
        omega
      have hA := hP4.all2 (by rw [HLs.out]; exact ⟨Nat.le_refl _, by omega⟩)
      have hAr := HPS.out.all2 (by rw [HLs.out]; exact ⟨Nat.le_refl _, by omega⟩)
      have hctx : ClCtx N W4 Lc x := ⟨fun j b o lt hp => (posK_at hA hp).2.1, fun b hb => ⟨by have := (HNn.out b hb).2; omega, fun j o lt hp => by have h1 := (posK_at hA hp).1.1; have h2 := (HNn.out b hb).1; omega⟩, fun j b o lt hp hj => (posK_at hA hp).2.2 hj⟩
      have hfar : ∀ j b o lt, posK Lc j b o lt → w.heap.size ≤ b ∧ b < wr.heap.size := fun j b o lt hp => ⟨(posK_at hAr hp).1.1, (posK_at hAr hp).2.1.lt⟩
      have HP4 := Lib.hid hP4; have HA := Lib.hid hA; have HCtx := Lib.hid hctx; have HFar := Lib.hid hfar; have HW2 := Lib.hid hw2
      clear hb4 hx4 hs4 hz4 hP4 hA hAr hctx hfar hsz hw2 hmf
      refine wpAt_block ?_
      refine wpAt_rangeP (n := 10) Try.func48 rfl (fun _ _ => rfl) (expr_seq 9 (by omega) (wr.heap.size + 1) Lc HPS.out.ok) (fun a ha => by
          obtain ⟨i, hi, rfl⟩ := List.mem_iff_getElem.1 ha
          obtain ⟨b, o, h1, _⟩ := HA.out.get i hi (by rw [← HA.out.length]; exact hi)
          rw [h1]; rfl)
        (ClJ W4 Lc x) (fun _ _ _ => False) (fun _ _ _ => False)
        (fun k a O W => ClJ W4 Lc x k O W ∧ ∃ (b o : Nat) (lt : Int), posK Lc k b o lt ∧ a = { tmps := #[.agg #[.string x.name, .int .i64 x.season.op, .int .i64 x.season.n, .int .i64 x.season.u, .string x.season.rn, .int .i64 x.season.ri, .slice a0 x.season.args.length p0, .int .i64 x.cap.op, .int .i64 x.cap.n, .int .i64 x.cap.u, .string x.cap.rn, .int .i64 x.cap.ri, .slice a1 x.cap.args.length p1, .int .i64 x.start.op, .int .i64 x.start.n, .int .i64 x.start.u, .string x.start.rn, .int .i64 x.start.ri, .slice a2 x.start.args.length p2, .slice L.lets.a L.lets.n L.lets.c, .slice L.crops.a L.crops.n L.crops.c, .slice L.reaches.a L.reaches.n L.reaches.c, .slice L.farms.a L.farms.n L.farms.c, .slice L.rots.a L.rots.n L.rots.c, .slice L.rights.a L.rights.n L.rights.c, .slice L.duties.a L.duties.n L.duties.c], .pointer (some ⟨w.heap.size, 0, none⟩), .pointer (some ⟨w.heap.size + 1, 0, none⟩), u3, .pointer (some ⟨wr.heap.size, 0, none⟩), .pointer (some ⟨b, o, none⟩), .pointer (some ⟨w.heap.size, 19, none⟩), .slice L.lets.a L.lets.n L.lets.c, .slice alets nlets clets, .pointer (some ⟨w.heap.size, 20, none⟩), .slice L.crops.a L.crops.n L.crops.c, .slice acrops ncrops ccrops, .pointer (some ⟨w.heap.size, 21, none⟩), .slice L.reaches.a L.reaches.n L.reaches.c, .slice areaches nreaches creaches, .pointer (some ⟨w.heap.size, 22, none⟩), .slice L.farms.a L.farms.n L.farms.c, .slice afarms nfarms cfarms, .pointer (some ⟨w.heap.size, 19, none⟩), .pointer (some ⟨w.heap.size, 20, none⟩), .pointer (some ⟨w.heap.size, 21, none⟩), .pointer (some ⟨w.heap.size, 22, none⟩), .pointer (some ⟨w.heap.size, 23, none⟩), .slice L.rots.a L.rots.n L.rots.c, .slice arots nrots crots, .pointer (some ⟨w.heap.size, 24, none⟩), .slice L.rights.a L.rights.n L.rights.c, .slice arights nrights crights, .pointer (some ⟨w.heap.size, 25, none⟩), .slice L.duties.a L.duties.n L.duties.c, .slice aduties nduties cduties, .pointer (some ⟨w.heap.size, 23, none⟩), .pointer (some ⟨w.heap.size, 24, none⟩), .pointer (some ⟨w.heap.size, 25, none⟩), .pointer (some ⟨w.heap.size, 23, none⟩), .slice arots nrots crots, .int .i64 (nrots : Int), .int .i64 (i : Int), .bool false, u39, u40, u41, u42, u43, u44, u45, u46, u47, u48, u49, u50, u51, u52, .func (.func 79) #[] #[.pointer (some ⟨wr.heap.size, 0, none⟩)], .func (.func 89) #[] #[.pointer (some ⟨wr.heap.size + 1, 0, none⟩)], .pointer (some ⟨b, o, none⟩), .int .i64 lt, undef, undef, undef, undef], defers := [] })
        ClJ.stays (fun _ _ _ _ _ _ h => h.elim) (fun _ _ _ _ _ _ h => h.elim) ?_ ?_ (fun _ _ _ h => h.elim) (fun _ h => by cases h) (ClJ.start W4 Lc x) ?_ ?_ ?_ (fun _ _ _ _ _ _ h => h.elim) (fun _ _ _ _ _ _ h => h.elim)
      · exact fun a k O W O' W' h hz ho ht hu hk hO => ⟨ClJ.stays k O W O' W' h.1 hz ho ht hu hk hO, h.2⟩
      · intro k O W hJ
        refine HP4.out.heads (fun b q hq => by obtain ⟨t, ty, hcl⟩ := hq; exact ppos_stay HCtx.out hJ ty (by rw [hcl]; decide)) ?_
        rw [HLs.out, cell_of_block (hJ.old _ (by have := HZ4.out; omega) (fun j o lt _ hp => by have := (HFar.out j _ o lt hp).2; omega))]
        exact HS4.out
      · intro k hk O W lo hJ hO hl _
        obtain ⟨b, o, lt, hp⟩ := posK_get HA.out hk
        have he : (exprX Lc)[k] = #[.pointer (some ⟨b, o, none⟩), .int .i64 lt] := by
          unfold posK at hp
          rw [List.getElem?_eq_getElem hk] at hp
          exact Option.some.inj hp
        rw [he]
        have HJk := Lib.hid hJ; have HPk := Lib.hid hp
        clear hJ hO hl hp he
        gi_wp2
        first
        | exact ⟨Same.refl _ _, HJk.out, b, o, lt, HPk.out, rfl⟩
        | (rename_i hK; exact hK _ _ ⟨Same.refl _ _, HJk.out, b, o, lt, HPk.out, rfl⟩)
        | (rename_i hK _; exact hK _ _ ⟨Same.refl _ _, HJk.out, b, o, lt, HPk.out, rfl⟩)
      · rintro k hk O W lo a1 hl hrec hOW ⟨hJ, b, o, lt, hp, rfl⟩
        have hk2 : k < (allE x).length := by rw [← HA.out.length]; exact hk
        obtain ⟨M, hM, cs, hr, hv⟩ := hJ.read HCtx.out hp hk2
        obtain ⟨t, ht, _⟩ := HCtx.out.epos k b o lt hp
        have hf := HFar.out k b o lt hp
        have hz4 := HZ4.out
        have bx : W.cell? ⟨wr.heap.size, 0, none⟩ = some (.func (.func 79) #[] #[.pointer (some ⟨wr.heap.size, 0, none⟩)]) := (cell_of_block (hJ.old _ (by omega) (fun j o lt _ hp => by have := (HFar.out j _ o lt hp).2; omega))).trans HX4.out
        have hcp := copy_any M wr.heap.size (allE x)[k].1 b o t cs W hv hr (hJ.ty b t ht) (HHl.out _ (List.getElem_mem hk2)) (fun c hc => by
          rcases hM c hc with h1 | h1
          · have h2 := (HNn.out c h1); have h3 := hJ.size; omega
          · omega) (by omega) bx
        have HCp := Lib.hid hcp
        have HNx := Lib.hid (fun w3 => ClJ.next (w' := w3) HCtx.out hJ hp hk2 hOW)
        clear hM hr hv ht hf hz4 hcp hJ hp hOW hl hrec
        gi_wp2_with fail
        refine ⟨trivial, CallsIn.mono (CallsIn.inRound lo (callsIn_wide.2 HCp.out)) ?_⟩
        rintro e w3 ⟨rfl, hcl⟩
        have HC3 := Lib.hid (HNx.out w3 hcl)
        clear hcl
        gi_wp2_with fail
        first
        | exact ⟨HC3.out.2, HC3.out.1⟩
        | fail
      · rintro - D O W hD hOD hJ hdf
        simp only [Exit.inBlock, Exit.then]
        have hz4 := HZ4.out
        have hw2 := HW2.out
        have hJz := hJ.size
        have hPW : PSrc (fun g => w.heap.size ≤ g ∧ g ≠ w.heap.size + 1) (fun _ _ _ _ => True) (RV W) W Lc x := HP4.out.imp (fun b t _ ht => hJ.ty b t ht) (fun b q _ hq => by obtain ⟨t, ty, hcl⟩ := hq; exact ppos_stay HCtx.out hJ ty (by rw [hcl]; decide)) (fun _ _ _ _ _ _ _ => trivial) (fun to r b q _ hq hr => by
          obtain ⟨t, ty, h1, h2⟩ := hq
          exact ⟨hr.1, (ppos_stay HCtx.out hJ ty (by rw [h1]; decide)).trans hr.2.1, (ppos_stay HCtx.out hJ ty (by rw [h2]; decide)).trans hr.2.2⟩)
        have hPT := hPW.told (told_of (B := fun b => w.heap.size + 2 ≤ b ∧ b ≠ D) HA.out HCtx.out hJ (fun b hb hO => ⟨by omega, fun e => hO (e ▸ hOD)⟩))
        have hPE : PSrc (fun g => w.heap.size ≤ g ∧ g ≠ w.heap.size + 1) (EV (fun g => w.heap.size ≤ g ∧ g ≠ w.heap.size + 1) W) (RV W) W Lc x := hPT.imp (fun _ _ _ h => h) (fun _ _ _ _ => rfl) (fun lt e b o _ _ hE => by obtain ⟨c, h1, h2⟩ := hE; exact ⟨c, h1, h2.exV (fun b hb _ => by have h3 := hb.1; exact ⟨by omega, by omega⟩)⟩) (fun _ _ _ _ _ _ h => h)
        obtain ⟨cs, hcl, hcr, hcv⟩ := hPE.srcV
        rw [HLs.out] at hcr
        have hone := one_src hcv
        have hfar2 : ∀ j o lt, ¬ posK Lc j (w.heap.size + 1) o lt := fun j o lt hp => (posK_at HA.out hp).1.2 rfl
        have hWR : W.heap[w.heap.size + 1]? = some (.cells #[.string ⟨#[]⟩, .int .i64 0, .int .i64 0, .int .i64 0, .string ⟨#[]⟩, .int .i64 0, .slice none 0 0, .int .i64 0, .int .i64 0, .int .i64 0, .string ⟨#[]⟩, .int .i64 0, .slice none 0 0, .int .i64 0, .int .i64 0, .int .i64 0, .string ⟨#[]⟩, .int .i64 0, .slice none 0 0, .slice none 0 0, .slice none 0 0, .slice none 0 0, .slice none 0 0, .slice none 0 0, .slice none 0 0, .slice none 0 0] 35 (0, 0)) := (hJ.old _ (by omega) (fun j o lt _ => hfar2 j o lt)).trans ((HB4.out.block _ (by omega)).trans HCR.out)
        have H26 : Hid ((Try.prog.info? 35).map (·.size) = some cs.length) := Lib.hid (by rw [hcl]; kernel_rfl)
        have H26b : Hid ((Try.prog.info? 35).map (·.size) = some cs.toArray.size) := Lib.hid (by rw [List.size_toArray]; exact H26.out)
        have HCl := Lib.hid hcl; have HCr := Lib.hid hcr; have HOne := Lib.hid hone; have HWR := Lib.hid hWR; have HPT := Lib.hid hPT; have HDf := Lib.hid hdf; have HD := Lib.hid hD; have HJJ := Lib.hid hJ
        clear hPW hPT hPE hcl hcr hcv hone hfar2 hWR hdf hD hJ hOD hz4 hw2 hJz
        refine wpAt_seq (wpAt_of_wp ?_)
        go_wp2_with (first | (refine wpList_load_mid rfl 35 _ rfl w.heap.size 0 rfl cs _ HCr.out Try.underlying35 rfl H26.out ?_) | (refine wpList_store_row rfl 35 _ _ rfl (w.heap.size + 1) cs.toArray rfl rfl 35 _ HWR.out H26b.out (by simp [HCl.out]) (all_oneCell_toArray HOne.out) ?_))
        refine wpAt_of_wp ?_
        go_wp2
        have hne : D ≠ w.heap.size + 1 := by have := HD.out; have := HZ4.out; have := HW2.out; omega
        have hd6 : (W.setRow (w.heap.size + 1) cs.toArray).heap[D]? = some (.deferred (some [])) := by
          simp only [World.setRow, Array.getElem?_modify, if_neg (Ne.symm hne)]
          exact HDf.out
        have hB6 : ∀ ob b, b ≠ w.heap.size + 1 → b ≠ D → ((W.setRow (w.heap.size + 1) cs.toArray).putObj D ob).heap[b]? = W.heap[b]? := fun ob b h1 h2 => by
          rw [World.putObj_heap_other h2]
          simp only [World.setRow, Array.getElem?_modify, if_neg (Ne.symm h1)]
        have hR6 : ∀ ob, ((W.setRow (w.heap.size + 1) cs.toArray).putObj D ob).heap[w.heap.size + 1]? = some (.cells cs.toArray 35 (0, 0)) := fun ob => by
          rw [World.putObj_heap_other (Ne.symm hne)]
          simp [World.setRow, Array.getElem?_modify, HWR.out]
        have hg6 : ∀ ob, ((W.setRow (w.heap.size + 1) cs.toArray).putObj D ob).rangeAt (w.heap.size + 1) 0 cs := fun ob => by
          have := World.rangeAt_of_block (hR6 ob) 0 cs.length
          simpa using this
        have hpost : ∀ ob, ClonePost w x (.returned (.agg cs.toArray)) ((W.setRow (w.heap.size + 1) cs.toArray).putObj D ob) := fun ob => by
          have hwD := HD.out
          have hz4 := HZ4.out
          have hw2 := HW2.out
          have hty : ∀ b t, b ≠ w.heap.size + 1 → Ty W b t → b ≠ D := fun b t _ ht e => by
            obtain ⟨c, hc⟩ := ht
            rw [e, HDf.out] at hc
            cases hc
          refine ⟨Lc, cs, rfl, HCl.out, HOne.out, ⟨HJJ.out.os.trans (HB4.out.os.trans HBw.out.os), HJJ.out.tape.trans (HB4.out.tape.trans HBw.out.tape), HJJ.out.output.trans (HB4.out.output.trans HBw.out.output), ?_, fun b hb => ?_⟩, HLs.out, ?_, ?_⟩
          · have h1 := HJJ.out.size
            have h2 : ((W.setRow (w.heap.size + 1) cs.toArray).putObj D ob).heap.size = W.heap.size := by simp [World.setRow]
            omega
          · rw [hB6 ob b (by omega) (by omega), HJJ.out.old b (by omega) (fun j o lt _ hp => by have := (HFar.out j b o lt hp).1; omega), HB4.out.block b (by omega)]
            exact HBw.out.block b hb
          · rw [HLs.out]
            exact rangeAt_block HCr.out (hB6 ob _ (by omega) (by omega))
          · refine HPT.out.imp (fun b t hq ht => ?_) (fun b q hq hp => ?_) (fun lt e b o hq hp hE => ?_) (fun to r b o hq hp hr => ?_)
            · have h1 : b ≠ w.heap.size + 1 := by rcases hq with hq | hq; exact hq.2; have := HLs.out; omega
              exact ht.same (hB6 ob b h1 (hty b t h1 ht))
            · have h1 : b ≠ w.heap.size + 1 := by rcases hq with hq | hq; exact hq.2; have := HLs.out; omega
              obtain ⟨t, ty, _⟩ := hp
              exact cell_of_block (hB6 ob b h1 (hty b t h1 ty))
            · have h1 : b ≠ w.heap.size + 1 := by rcases hq with hq | hq; exact hq.2; have := HLs.out; omega
              obtain ⟨t, ty, _⟩ := hp
              obtain ⟨c, c1, c2⟩ := hE
              exact ⟨c, rangeAt_block c1 (hB6 ob b h1 (hty b t h1 ty)), c2.same (fun b hb _ => hb.1) (fun b hb _ => hB6 ob b (by have := hb.1; omega) hb.2)⟩
            · have h1 : b ≠ w.heap.size + 1 := by rcases hq with hq | hq; exact hq.2; have := HLs.out; omega
              obtain ⟨t, ty, _⟩ := hp
              have h2 := hB6 ob b h1 (hty b t h1 ty)
              exact ⟨hr.1, (cell_of_block h2).trans hr.2.1, (cell_of_block h2).trans hr.2.2⟩
        exact ⟨by simp, .inl ⟨_, _, rfl, run_takeDeferred hd6, ⟨_, results_cell rfl rfl (run_loadVar_mid _ (w.heap.size + 1) 0 35 cs _ (hg6 _) Try.underlying35 rfl H26.out), hpost _⟩⟩⟩

end Go.Proofs.Ytapejaabhkfhjaa

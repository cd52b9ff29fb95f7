/- Texts Pd Va in one: each says what it proves. -/
import Derived.Test.YtapejaabhkfhjaaMPc
import Derived.Deep.RegionHeld3
import Derived.Test.YtapejaabhkfhjaaMNa
/- The program's cloned: the deep copy of an expression's arguments. -/
namespace Go.Proofs.Ytapejaabhkfhjaa
open Go.RowKit

/- arguments in typed blocks from B on, deep down -/
mutual
def ExT (w : World) (B : Nat → Prop) : Ex → List Value → Prop
  | .mk op n u rn ri args, cs => ∃ a cap, cs = [.int .i64 op, .int .i64 n, .int .i64 u, .string rn, .int .i64 ri, .slice a args.length cap] ∧ args.length ≤ 140737488355328 ∧ rn.size ≤ maxLen ∧ RowT w B a 0 args
def RowT (w : World) (B : Nat → Prop) (a : Option Addr) : Nat → List Ex → Prop
  | _, [] => True
  | i, e :: r => (∃ g cs, a = some ⟨g, 0, none⟩ ∧ B g ∧ Ty w g 26 ∧ w.rangeAt g (i * 6) cs ∧ ExT w B e cs) ∧ RowT w B a (i + 1) r
end
theorem rowT_mk {w : World} {B : Nat → Prop} {a : Option Addr} : ∀ {l : List Ex} {k : Nat}, (∀ i (h : i < l.length), ∃ g cs, a = some ⟨g, 0, none⟩ ∧ B g ∧ Ty w g 26 ∧ w.rangeAt g ((k + i) * 6) cs ∧ ExT w B l[i] cs) → RowT w B a k l
  | [], _, _ => by rw [RowT]; trivial
  | e :: r, k, h => by
    rw [RowT]
    refine ⟨h 0 (by simp), rowT_mk fun i hi => ?_⟩
    obtain ⟨g, cs, h1, h2, h3, h4, h5⟩ := h (i + 1) (by simpa using hi)
    exact ⟨g, cs, h1, h2, h3, by rw [show k + 1 + i = k + (i + 1) by omega]; exact h4, by simpa using h5⟩
theorem Ty.same {w w' : World} {b t : Nat} (h : Ty w b t) (hb : w'.heap[b]? = w.heap[b]?) : Ty w' b t := by
  obtain ⟨c, e⟩ := h
  exact ⟨c, hb.trans e⟩
mutual
theorem ExT.same {w w' : World} {B B' : Nat → Prop} (hB : ∀ b, B b → b < w.heap.size → B' b) (hb : ∀ b, B b → b < w.heap.size → w'.heap[b]? = w.heap[b]?) : ∀ {e : Ex} {cs : List Value}, ExT w B e cs → ExT w' B' e cs
  | .mk _ _ _ _ _ args, _, h => by
    rw [ExT] at h ⊢
    obtain ⟨a, cap, h1, h2, h3, h4⟩ := h
    exact ⟨a, cap, h1, h2, h3, RowT.same hB hb h4⟩
theorem RowT.same {w w' : World} {B B' : Nat → Prop} (hB : ∀ b, B b → b < w.heap.size → B' b) {a : Option Addr} (hb : ∀ b, B b → b < w.heap.size → w'.heap[b]? = w.heap[b]?) : ∀ {l : List Ex} {k : Nat}, RowT w B a k l → RowT w' B' a k l
  | [], _, h => by rw [RowT]; trivial
  | e :: r, k, h => by
    rw [RowT] at h ⊢
    obtain ⟨⟨g, cs, h1, h2, h3, h4, h5⟩, h6⟩ := h
    exact ⟨⟨g, cs, h1, hB g h2 h3.lt, h3.same (hb g h2 h3.lt), rangeAt_block h4 (hb g h2 h3.lt), ExT.same hB hb h5⟩, RowT.same hB hb h6⟩
end
theorem ExT.mk' {w : World} {B : Nat → Prop} {e : Ex} {a : Option Addr} {cap : Nat} (h1 : e.args.length ≤ 140737488355328) (h2 : e.rn.size ≤ maxLen) (h3 : RowT w B a 0 e.args) :
    ExT w B e [.int .i64 e.op, .int .i64 e.n, .int .i64 e.u, .string e.rn, .int .i64 e.ri, .slice a e.args.length cap] := by
  cases e
  rw [ExT]
  exact ⟨a, cap, rfl, h1, h2, h3⟩
/- the deep copy of the arguments of the expression at o of block b -/
def ClE (W : World) (b o : Nat) (args : List Ex) (w' : World) : Prop :=
  W.grownBy w' (some b) ∧ (∀ p, p ≠ o + 5 → w'.cell? ⟨b, p, none⟩ = W.cell? ⟨b, p, none⟩) ∧ (∀ t, Ty W b t → Ty w' b t) ∧ ∃ a cap, w'.cell? ⟨b, o + 5, none⟩ = some (.slice a args.length cap) ∧ RowT w' (fun b => W.heap.size ≤ b) a 0 args

/- sizes: no expression has too many arguments -/
mutual
def slimE : Ex → Prop
  | .mk _ _ _ _ _ args => args.length ≤ 100000 ∧ slimL args
def slimL : List Ex → Prop
  | [] => True
  | e :: r => slimE e ∧ slimL r
end
theorem slimL_get : ∀ {l : List Ex}, slimL l → ∀ i (h : i < l.length), slimE l[i]
  | [], _, i, h => by simp at h
  | e :: r, hl, 0, _ => by rw [slimL] at hl; exact hl.1
  | e :: r, hl, i + 1, h => by rw [slimL] at hl; exact slimL_get hl.2 i (by simpa using h)

theorem cell_far {W w' : World} {b c p : Nat} (h : W.grownBy w' (some b)) (hc : c < W.heap.size) (hne : c ≠ b) : w'.cell? ⟨c, p, none⟩ = W.cell? ⟨c, p, none⟩ := by
  unfold World.cell?
  rw [h.block c hc (fun e => hne (by cases e; rfl))]
theorem Ty.frozen {w : World} {b t p : Nat} (h : Ty w b t) : w.frozen? ⟨b, p, none⟩ = false := by
  obtain ⟨c, e⟩ := h
  simp [World.frozen?, e]

theorem set_facts {W : World} {b p : Nat} {u : Value} (v : Value) (hc : W.cell? ⟨b, p, none⟩ = some u) :
    W.grownBy (W.setCell ⟨b, p, none⟩ v) (some b) ∧ (∀ q, q ≠ p → (W.setCell ⟨b, p, none⟩ v).cell? ⟨b, q, none⟩ = W.cell? ⟨b, q, none⟩) ∧ (∀ t, Ty W b t → Ty (W.setCell ⟨b, p, none⟩ v) b t) ∧ (W.setCell ⟨b, p, none⟩ v).cell? ⟨b, p, none⟩ = some v := by
  refine ⟨⟨rfl, rfl, rfl, by simp, fun i _ hne => heap_setCell_other W ⟨b, p, none⟩ i v (fun e => hne (by rw [e]))⟩, fun q hq => World.cell?_setCell_other _ _ _ _ (fun e => hq (by cases e; rfl)), ?_, World.cell?_setCell_same _ _ _ hc⟩
  rintro t ⟨c, e⟩
  exact ⟨_, heap_setCell_same W b p c t v e⟩
/- what holds while the arguments are copied: i of them are done -/
structure CpI (W : World) (N : Nat → Prop) (b o : Nat) (a : Option Addr) (c : Nat) (args : List Ex) (i : Nat) (wr : World) : Prop where
  grown : W.grownBy wr (some b)
  cells : ∀ p, p ≠ o + 5 → wr.cell? ⟨b, p, none⟩ = W.cell? ⟨b, p, none⟩
  hdr : wr.cell? ⟨b, o + 5, none⟩ = some (.slice a args.length c)
  ty : ∀ t, Ty W b t → Ty wr b t
  rows : ∀ j (h : j < args.length), ∃ g cs, a = some ⟨g, 0, none⟩ ∧ W.heap.size ≤ g ∧ Ty wr g 26 ∧ wr.rangeAt g (j * 6) cs ∧ ((j < i ∧ ExT wr (fun b => g + 1 ≤ b) args[j] cs) ∨ (i ≤ j ∧ ExV N wr args[j] cs))
theorem CpI.drew {W : World} {N : Nat → Prop} {b o : Nat} {a : Option Addr} {c : Nat} {args : List Ex} {i : Nat} {wr : World} (h : CpI W N b o a c args i wr) : CpI W N b o a c args i wr.drew := by
  refine ⟨⟨h.grown.os, h.grown.tape, h.grown.output, h.grown.size, h.grown.block⟩, h.cells, h.hdr, h.ty, fun j hj => ?_⟩
  obtain ⟨g, cs, h1, h2, h3, h4, h5⟩ := h.rows j hj
  refine ⟨g, cs, h1, h2, h3, h4, h5.imp (fun h => ⟨h.1, ExT.same (w := wr) (w' := wr.drew) (fun _ h _ => h) (fun _ _ _ => rfl) h.2⟩) (fun h => ⟨h.1, ExV.same (w := wr) (w' := wr.drew) (fun _ h => h) (fun _ _ => rfl) h.2⟩)⟩
theorem CpI.next {W : World} {N : Nat → Prop} {b o : Nat} {a : Option Addr} {c : Nat} {args : List Ex} {i : Nat} {wr w4 : World} (h : CpI W N b o a c args i wr) (hi : i < args.length) (hb : b < W.heap.size) (hN : ∀ c, N c → c < W.heap.size ∧ c ≠ b) {g : Nat} (hg : a = some ⟨g, 0, none⟩)
    (hcl : ClE wr g (i * 6) args[i].args w4) : CpI W N b o a c args (i + 1) w4 := by
  obtain ⟨k1, k2, k3, a', cap', k4, k5⟩ := hcl
  obtain ⟨g0, cs, h1, h2, h3, h4, h5⟩ := h.rows i hi
  obtain rfl : g = g0 := by rw [hg] at h1; cases h1; rfl
  have hz := h.grown.size
  have hbg : b ≠ g := by omega
  have hgl := h3.lt
  have kb : w4.heap[b]? = wr.heap[b]? := k1.block b (by omega) (fun e => hbg (by cases e; rfl))
  have kc : ∀ p, w4.cell? ⟨b, p, none⟩ = wr.cell? ⟨b, p, none⟩ := fun p => by unfold World.cell?; rw [kb]
  refine ⟨⟨k1.os.trans h.grown.os, k1.tape.trans h.grown.tape, k1.output.trans h.grown.output, Nat.le_trans hz k1.size, fun q hq hne => (k1.block q (by omega) (fun e => by cases e; omega)).trans (h.grown.block q hq hne)⟩, fun p hp => (kc p).trans (h.cells p hp), (kc _).trans h.hdr, fun t ht => (h.ty t ht).same kb, fun j hj => ?_⟩
  obtain ⟨g1, cj, q1, q2, q3, q4, q5⟩ := h.rows j hj
  obtain rfl : g = g1 := by rw [hg] at q1; cases q1; rfl
  by_cases hji : j = i
  · subst hji
    rcases q5 with ⟨q5, _⟩ | ⟨_, q5⟩
    · omega
    obtain ⟨a0, cap0, rfl, e1, e2, e3⟩ := q5.cells
    obtain ⟨r0, r1, r2, r3, r4, r5⟩ := rangeAt6 q4
    refine ⟨g, _, q1, q2, k3 _ q3, range_cons ((k2 _ (by omega)).trans r0) (range_cons ((k2 _ (by omega)).trans r1) (range_cons ((k2 _ (by omega)).trans r2) (range_cons ((k2 _ (by omega)).trans r3) (range_cons ((k2 _ (by omega)).trans r4) (range_one k4))))), .inl ⟨by omega, ExT.mk' e1 e2 (k5.same (fun x hx _ => by have : wr.heap.size ≤ x := hx; show g + 1 ≤ x; omega) (fun _ _ _ => rfl))⟩⟩
  · refine ⟨g, cj, q1, q2, k3 _ q3, fun k v hv => ?_, ?_⟩
    · have hl : k < 6 := by
        have h1 := (List.getElem?_eq_some_iff.1 hv).1
        rcases q5 with ⟨_, q5⟩ | ⟨_, q5⟩
        · cases he : args[j] with
          | mk => rw [he, ExT] at q5; obtain ⟨_, _, rfl, _⟩ := q5; simpa using h1
        · rw [q5.len] at h1; exact h1
      exact (k2 _ (by omega)).trans (q4 k v hv)
    · rcases q5 with ⟨q5, q6⟩ | ⟨q5, q6⟩
      · exact .inl ⟨by omega, q6.same (fun _ h _ => h) (fun x hx hxl => k1.block x hxl (fun e => by cases e; have : g + 1 ≤ g := hx; omega))⟩
      · exact .inr ⟨by omega, q6.same (fun _ h => h) (fun x hx => k1.block x (by have := (hN x hx).1; omega) (fun e => by cases e; have := (hN g hx).1; omega))⟩

set_option maxRecDepth 100000 in
set_option maxHeartbeats 8000000 in
theorem copy_any (N : Nat → Prop) (Bx : Nat) : ∀ (e : Ex) (b o t : Nat) (cs : List Value) (W : World), ExV N W e cs → W.rangeAt b o cs → Ty W b t → slimE e → (∀ c, N c → c < W.heap.size ∧ c ≠ b) → Bx ≠ b → W.cell? ⟨Bx, 0, none⟩ = some (.func (.func 79) #[] #[.pointer (some ⟨Bx, 0, none⟩)]) →
    Calls Try.prog 79 #[.pointer (some ⟨b, o, none⟩), .pointer (some ⟨Bx, 0, none⟩)] W fun x w' => x = .returned (.tuple #[]) ∧ ClE W b o e.args w' := by
  refine ex_ind fun op nn u rn ri args ih => ?_
  intro b o t cs W hv hra ty hsl hN hBx hbox
  rw [ExV] at hv
  obtain ⟨a, cap, rfl, hl, hr, hrow⟩ := hv
  rw [slimE] at hsl
  obtain ⟨-, -, -, -, -, c5⟩ := rangeAt6 hra
  have hIs : IsRow N W 6 (fun c d => ExV N W d c) ⟨a, args.length, cap⟩ args := ⟨rfl, hl, fun i hi => by
    obtain ⟨b', o', c, g1, g2, g3, g4⟩ := rowV_get hrow i hi
    exact ⟨b', o', c, g1, g2, g4.len, by rw [Nat.zero_add] at g3; exact g3, g4⟩⟩
  have hcl := clone_expr hIs (fun c hc => (hN c hc).1) (fun c d h => one_ex h) hsl.1
  have HCl := Lib.hid hcl
  have IH := Lib.hid ih
  have HN := Lib.hid hN
  have HTy := Lib.hid ty
  have HSl := Lib.hid hsl.2
  have HLn := Lib.hid hsl.1
  have HBx := Lib.hid (World.block_lt_of_cell? W _ hbox)
  have HBb := Lib.hid (World.block_lt_of_cell? W _ c5)
  have HNe := Lib.hid hBx
  have hbox2 := Lib.hid hbox
  show Calls _ _ _ _ (fun x w' => x = .returned (.tuple #[]) ∧ ClE W b o args w')
  clear hIs hcl ih hN ty hsl hra hrow hbox hBx hl hr
  go_enter Try.func79, Try.ntmps79
  go_wp2_with (first | (go_at_call 80; refine HCl.out.mono ?_; rintro e w1 ⟨⟨ha', n', hc'⟩, rfl, hn', hb1, hrows⟩; rw [show Hdr.v ⟨ha', n', hc'⟩ = Value.slice ha' n' hc' from rfl]; simp only at hn' hrows; have d5 := (hb1.cell (p := ⟨b, o + 5, none⟩) HBb.out).trans c5; have df := (Ty.same HTy.out (hb1.block b HBb.out)).frozen (p := o + 5); have HB1 := Lib.hid hb1; have HN' := Lib.hid hn'; have HRows := Lib.hid hrows; clear hb1 hn' hrows))
  obtain rfl := HN'.out.symm
  have hI : CpI W N b o ha' hc' args 0 (w1.setCell ⟨b, o + 5, none⟩ (.slice ha' args.length hc')) := by
    obtain ⟨s1, s2, s3, s4⟩ := set_facts (.slice ha' args.length hc') d5
    have hsz := HB1.out.size
    refine ⟨⟨s1.os.trans HB1.out.os, s1.tape.trans HB1.out.tape, s1.output.trans HB1.out.output, Nat.le_trans hsz s1.size, fun q hq hne => (s1.block q (by omega) hne).trans (HB1.out.block q hq)⟩, fun p hp => (s2 p hp).trans (HB1.out.cell (p := ⟨b, p, none⟩) HBb.out), s4, fun t ht => s3 t (ht.same (HB1.out.block b HBb.out)), fun j hj => ?_⟩
    obtain ⟨g, cs, q1, q2, q3, q4, q5, q6⟩ := HRows.out j hj
    have hbg : g ≠ b := by have := HBb.out; omega
    have hg : (w1.setCell ⟨b, o + 5, none⟩ (.slice ha' args.length hc')).heap[g]? = w1.heap[g]? := s1.block g q3.lt (fun e => hbg (by cases e; rfl))
    refine ⟨g, cs, q1, q2, q3.same hg, rangeAt_block q5 hg, .inr ⟨Nat.zero_le _, q6.same (fun _ h => h) (fun x hx => ?_)⟩⟩
    have hx1 := HN.out x hx
    exact (s1.block x (by omega) (fun e => hx1.2 (by cases e; rfl))).trans (HB1.out.block x hx1.1)
  have HI0 := Lib.hid hI
  have hm47 : args.length ≤ 100000 := HLn.out
  clear hI d5 df c5
  generalize w1.setCell ⟨b, o + 5, none⟩ (.slice ha' args.length hc') = w2 at *
  have e5 := HI0.out.hdr
  clear HB1 HRows HN'
  go_wp2
  clear e5
  go_loopw [17] (fun iv wr => ∃ i : Nat, i ≤ args.length ∧ iv = .int .i64 i ∧ Hid (CpI W N b o ha' hc' args i wr)) (fun iv _ => args.length - (intOf iv).toNat)
  case atStart => exact ⟨0, Nat.zero_le _, rfl, HI0⟩
  case round =>
    obtain ⟨i, hi, rfl, HIr⟩ := hrel
    by_cases hlt : i < args.length
    · obtain ⟨g, cs, rfl, q2, q3, q4, q5⟩ := HIr.out.drew.rows i hlt
      have hv : ExV N wr.drew args[i] cs := q5.elim (fun h => by omega) (fun h => h.2)
      have hz := HIr.out.grown.size
      have hbl := HBb.out
      have hxl := HBx.out
      have hbw : wr.drew.cell? ⟨Bx, 0, none⟩ = some (.func (.func 79) #[] #[.pointer (some ⟨Bx, 0, none⟩)]) := (cell_far HIr.out.grown hxl HNe.out).trans hbox2.out
      have hcal := IH.out args[i] (List.getElem_mem hlt) g (i * 6) 26 cs wr.drew hv q4 q3 (slimL_get HSl.out i hlt) (fun c hc => by have := HN.out c hc; show c < wr.heap.size ∧ _; omega) (by omega) hbw
      have HCal := Lib.hid hcal
      have hki : (i : Int) < (args.length : Int) := by omega
      have hnx := fun w4 => HIr.out.drew.next (w4 := w4) hlt hbl HN.out rfl
      have HNx := Lib.hid hnx
      have e5 := HIr.out.hdr
      have eB : wr.cell? ⟨Bx, 0, none⟩ = some (.func (.func 79) #[] #[.pointer (some ⟨Bx, 0, none⟩)]) := hbw
      have HS1 : Hid (wr.drew.cell? ⟨Bx, 0, none⟩ = some (.func (.func 79) #[] #[.pointer (some ⟨Bx, 0, none⟩)]) ∧ wr.drew.cell? ⟨b, o + 5, none⟩ = some (.slice (some ⟨g, 0, none⟩) args.length hc')) := Lib.hid ⟨hbw, e5⟩
      have HQ : Hid (∀ w4, CpI W N b o (some ⟨g, 0, none⟩) hc' args (i + 1) w4 → w4.cell? ⟨Bx, 0, none⟩ = some (.func (.func 79) #[] #[.pointer (some ⟨Bx, 0, none⟩)]) ∧ w4.cell? ⟨b, o + 5, none⟩ = some (.slice (some ⟨g, 0, none⟩) args.length hc')) := Lib.hid (fun w4 h => ⟨(cell_far h.grown hxl HNe.out).trans hbox2.out, h.hdr⟩)
      clear hv q2 q3 q4 q5 hz hbl hxl hbw hcal hnx
      go_wp2_with fail
      go_region_held3 (fun w' => w'.cell? ⟨Bx, 0, none⟩ = some (.func (.func 79) #[] #[.pointer (some ⟨Bx, 0, none⟩)]) ∧ w'.cell? ⟨b, o + 5, none⟩ = some (.slice (some ⟨g, 0, none⟩) args.length hc')) (first | exact HS1.out | exact HS2.out)
        (first | (go_at_call 79; refine HCal.out.mono ?_; rintro e w4 ⟨rfl, hcl⟩; have HC4 := Lib.hid (HNx.out w4 hcl); have HS2 := Lib.hid (HQ.out w4 HC4.out); clear hcl))
      go_wp2
      exact ⟨⟨i + 1, by omega, by push_cast; rfl, HC4⟩, by simp [intOf]; omega⟩
    · obtain rfl : i = args.length := by omega
      have hki : decide ((args.length : Int) < (args.length : Int)) = false := by simp
      go_wp2
      go_end0
      refine ⟨rfl, HIr.out.grown, HIr.out.cells, HIr.out.ty, ha', hc', HIr.out.hdr, rowT_mk fun j hj => ?_⟩
      obtain ⟨g, cs, q1, q2, q3, q4, q5⟩ := HIr.out.rows j hj
      rw [Nat.zero_add]
      exact ⟨g, cs, q1, q2, q3, q4, q5.elim (fun h => h.2.same (fun x hx _ => by have : g + 1 ≤ x := hx; show W.heap.size ≤ x; omega) (fun _ _ _ => rfl)) (fun h => by omega)⟩

/- cells tell which expression lies there -/
theorem exV_inj : ∀ (e : Ex) {N N' : Nat → Prop} {w : World} {e' : Ex} {cs : List Value}, ExV N w e cs → ExV N' w e' cs → e = e' := by
  refine ex_ind fun op nn u rn ri args ih => ?_
  intro N N' w e' cs h h'
  cases e' with
  | mk op' nn' u' rn' ri' args' =>
    rw [ExV] at h h'
    obtain ⟨a, cap, rfl, _, _, hr⟩ := h
    obtain ⟨a', cap', he, _, _, hr'⟩ := h'
    simp only [List.cons.injEq, Value.int.injEq, Value.string.injEq, Value.slice.injEq, true_and, and_true] at he
    obtain ⟨rfl, rfl, rfl, rfl, rfl, rfl, hl, rfl⟩ := he
    have : args = args' := by
      refine List.ext_getElem hl fun i hi hi' => ?_
      obtain ⟨b, o, c, g1, _, g3, g4⟩ := rowV_get hr i hi
      obtain ⟨b', o', c', k1, _, k3, k4⟩ := rowV_get hr' i hi'
      rw [g1] at k1
      cases k1
      have hc : c = c' := by
        refine List.ext_getElem (by rw [g4.len, k4.len]) fun j hj hj' => ?_
        have h1 := g3 j _ (List.getElem?_eq_getElem hj)
        have h2 := k3 j _ (List.getElem?_eq_getElem hj')
        rw [h1] at h2
        exact Option.some.inj h2
      subst hc
      exact ih _ (List.getElem_mem hi) g4 k4
    rw [this]
/- typed arguments are arguments -/
mutual
theorem ExT.exV {w : World} {M N : Nat → Prop} (hM : ∀ b, M b → b < w.heap.size → N b) : ∀ {e : Ex} {cs : List Value}, ExT w M e cs → ExV N w e cs
  | .mk _ _ _ _ _ args, _, h => by
    rw [ExT] at h
    rw [ExV]
    obtain ⟨a, cap, h1, h2, h3, h4⟩ := h
    exact ⟨a, cap, h1, h2, h3, RowT.rowV hM h4⟩
theorem RowT.rowV {w : World} {M N : Nat → Prop} {a : Option Addr} (hM : ∀ b, M b → b < w.heap.size → N b) : ∀ {l : List Ex} {k : Nat}, RowT w M a k l → RowV N w a k l
  | [], _, h => by rw [RowV]; trivial
  | e :: r, k, h => by
    rw [RowT] at h
    rw [RowV]
    obtain ⟨⟨g, cs, h1, h2, h3, h4, h5⟩, h6⟩ := h
    exact ⟨⟨g, 0, cs, h1, hM g h2 h3.lt, by rw [Nat.zero_add]; exact h4, ExT.exV hM h5⟩, RowT.rowV hM h6⟩
end

end Go.Proofs.Ytapejaabhkfhjaa

/- The reference's size: how many expressions there are in one, at most so many. -/
namespace Go.Proofs.Ytapejaabhkfhjaa
open Go.RowKit

mutual
def szE : Ex → Int → Int
  | .mk _ _ _ _ _ args, most => szL args most 1
def szL : List Ex → Int → Int → Int
  | [], _, n => n
  | e :: r, most, n => if n < most then szL r most (n + szE e (most - n)) else n
end
mutual
theorem szE_le : ∀ (e : Ex) (most : Int), 1 ≤ szE e most ∧ szE e most ≤ max 1 most
  | .mk _ _ _ _ _ args, most => by rw [szE]; exact szL_le args most 1
theorem szL_le : ∀ (l : List Ex) (most n : Int), n ≤ szL l most n ∧ szL l most n ≤ max n most
  | [], most, n => by rw [szL]; omega
  | e :: r, most, n => by
    rw [szL]
    split
    · have h1 := szE_le e (most - n)
      have h2 := szL_le r most (n + szE e (most - n))
      omega
    · omega
end
mutual
theorem szE_deep : ∀ (e : Ex) (most : Int), szE e most < most → (depthE e : Int) + 1 ≤ szE e most
  | .mk _ _ _ _ _ args, most, h => by
    rw [szE] at h ⊢
    rw [depthE]
    have := (szL_deep args most 1 (by omega) h).1
    omega
theorem szL_deep : ∀ (l : List Ex) (most n : Int), 1 ≤ n → szL l most n < most → (depthL l : Int) + n ≤ szL l most n ∧ n + l.length ≤ szL l most n
  | [], most, n, _, h => by rw [szL, depthL]; simp
  | e :: r, most, n, hn, h => by
    rw [szL] at h ⊢
    split at h
    · rename_i hlt
      rw [if_pos hlt]
      have h1 := szE_le e (most - n)
      have h2 := szL_le r most (n + szE e (most - n))
      obtain ⟨h3, h4⟩ := szL_deep r most (n + szE e (most - n)) (by omega) h
      have h5 := szE_deep e (most - n) (by omega)
      rw [depthL, List.length_cons]
      omega
    · omega
end
mutual
theorem szE_slim : ∀ (e : Ex) (most : Int), most ≤ 5001 → szE e most < most → slimE e
  | .mk _ _ _ _ _ args, most, h0, h => by
    rw [szE] at h
    rw [slimE]
    have := (szL_deep args most 1 (by omega) h).2
    exact ⟨by omega, szL_slim args most 1 (by omega) h0 h⟩
theorem szL_slim : ∀ (l : List Ex) (most n : Int), 1 ≤ n → most ≤ 5001 → szL l most n < most → slimL l
  | [], most, n, _, _, h => by rw [slimL]; trivial
  | e :: r, most, n, hn, h0, h => by
    rw [szL] at h
    rw [slimL]
    split at h
    · rename_i hlt
      have h1 := szE_le e (most - n)
      have h2 := szL_le r most (n + szE e (most - n))
      exact ⟨szE_slim e (most - n) (by omega) (by omega), szL_slim r most (n + szE e (most - n)) (by omega) h0 h⟩
    · omega
end
theorem drop_cons {α : Type} {l : List α} {i : Nat} (h : i < l.length) : l.drop i = l[i] :: l.drop (i + 1) := List.drop_eq_getElem_cons h
set_option maxRecDepth 100000 in
set_option maxHeartbeats 8000000 in
theorem size_any : ∀ (e : Ex) {N : Nat → Prop} {w : World} {cs : List Value} {most : Int}, ExV N w e cs → (∀ b, N b → b < w.heap.size) → 1 ≤ most → most ≤ 5001 →
    Calls Try.prog 23 #[.agg cs.toArray, .int .i64 most] w fun x w' => x = .returned (.int .i64 (szE e most)) ∧ Below w.heap.size w w' := by
  refine ex_ind fun op nn u rn ri args ih => ?_
  intro N w cs most h hN hm1 hm2
  rw [ExV] at h
  obtain ⟨a, cap, rfl, hl, hr, hrow⟩ := h
  have Hrow := Lib.hid hrow
  have HN := Lib.hid hN
  have IH := Lib.hid ih
  have hE : szE (.mk op nn u rn ri args) most = szL args most 1 := rfl
  rw [hE]
  generalize hm : args.length = m at hl ⊢
  have Hm := Lib.hid hm
  generalize hS : szL args most 1 = S
  have HS0 : Hid (szL (args.drop 0) most 1 = S) := Lib.hid hS
  clear hrow hN ih hE hm hS
  go_enter Try.func23, Try.ntmps23
  go_wp2
  have HB0 := Lib.hid ((Below.refl w.heap.size w).alloc (Nat.le_refl _) (.cells #[.int .i64 op, .int .i64 nn, .int .i64 u, .string rn, .int .i64 ri, .slice a m cap] 26))
  have HBx : Hid ((w.alloc (.cells #[.int .i64 op, .int .i64 nn, .int .i64 u, .string rn, .int .i64 ri, .slice a m cap] 26)).cell? ⟨w.heap.size, 5, none⟩ = some (.slice a m cap)) := Lib.hid (by
    have h := World.alloc_heap_new w (.cells #[.int .i64 op, .int .i64 nn, .int .i64 u, .string rn, .int .i64 ri, .slice a m cap] 26)
    simp only [World.cell?, h]; rfl)
  obtain ⟨w0, hw0⟩ : ∃ w0, w0 = w.alloc (.cells #[.int .i64 op, .int .i64 nn, .int .i64 u, .string rn, .int .i64 ri, .slice a m cap] 26) := ⟨_, rfl⟩
  rw [← hw0] at HB0 HBx ⊢
  have HZ : Hid (w0.heap.size = w.heap.size + 1) := Lib.hid (by rw [hw0]; simp)
  clear hw0
  have HR0 := Lib.hid (Below.refl w0.heap.size w0)
  go_loopw [5, 6] (fun nv iv wr => ∃ (i : Nat) (n : Int), nv = .int .i64 n ∧ iv = .int .i64 i ∧ i ≤ m ∧ 1 ≤ n ∧ n ≤ max 1 most ∧ Hid (szL (args.drop i) most n = S) ∧ Hid (Below w0.heap.size w0 wr)) (fun _ iv _ => m - (intOf iv).toNat)
  case atStart => exact ⟨0, 1, rfl, rfl, Nat.zero_le _, by omega, by omega, HS0, HR0⟩
  case round =>
    clear HS0 HR0
    obtain ⟨i, n, rfl, rfl, hi, hn1, hn2, HS, HB⟩ := hrel
    have hbx : wr.cell? ⟨w.heap.size, 5, none⟩ = some (.slice a m cap) := (HB.out.cell (p := ⟨w.heap.size, 5, none⟩) (by rw [HZ.out]; exact Nat.lt_succ_self _)).trans HBx.out
    by_cases hlt : i < m
    · have hil : i < args.length := by rw [Hm.out]; exact hlt
      have hki : (i : Int) < (m : Int) := by omega
      by_cases hnm : n < most
      · obtain ⟨b, o, cs, rfl, hNb, hra, hex⟩ := rowV_get Hrow.out i hil
        have hBw := HB0.out.trans (HB.out.mono HB0.out.size)
        have hra' := rangeAt_block hra (hBw.block b (HN.out b hNb))
        obtain ⟨a', cap', rfl, _⟩ := hex.cells
        rw [Nat.zero_add] at hra'
        obtain ⟨c0, c1, c2, c3, c4, c5⟩ := rangeAt6 hra'
        have HC := Lib.hid (IH.out args[i] (List.getElem_mem hil) (w := wr) (most := most - n) (ExV.same (fun b h => h) (same_below HN.out hBw) hex) (fun b h => Nat.lt_of_lt_of_le (HN.out b h) hBw.size) (by omega) (by omega))
        have HNx : Hid (szL (args.drop (i + 1)) most (n + szE args[i] (most - n)) = S) := Lib.hid (by
          have h := HS.out
          rw [drop_cons hil, szL, if_pos hnm] at h
          exact h)
        have hsz := szE_le args[i] (most - n)
        generalize args[i] = x at *
        generalize szE x (most - n) = s at hsz HC HNx
        have hs1 : 1 ≤ s := hsz.1
        have hs2 : s ≤ most - n := by omega
        clear hex hra hra' hsz hBw
        go_wp2_with (first | (go_at_call 23; refine HC.out.mono ?_; rintro e w2 ⟨rfl, hb2⟩; have HB2 := Lib.hid (HB.out.trans (hb2.mono HB.out.size)); clear hb2))
        exact ⟨⟨i + 1, n + s, rfl, by go_num, by omega, by omega, by omega, HNx, HB2⟩, by simp [intOf]; omega⟩
      · have HF : Hid (n = S) := Lib.hid (by
          have h := HS.out
          rw [drop_cons hil, szL, if_neg hnm] at h
          exact h)
        go_wp2
        go_ret
        exact ⟨ret_int HF.out, HB0.out.trans (HB.out.mono HB0.out.size)⟩
    · obtain rfl : i = m := by omega
      have HF : Hid (n = S) := Lib.hid (by
        have h := HS.out
        rw [← Hm.out, List.drop_length, szL] at h
        exact h)
      have hki : decide ((i : Int) < (i : Int)) = false := by simp
      go_wp2
      go_ret
      exact ⟨ret_int HF.out, HB0.out.trans (HB.out.mono HB0.out.size)⟩

end Go.Proofs.Ytapejaabhkfhjaa

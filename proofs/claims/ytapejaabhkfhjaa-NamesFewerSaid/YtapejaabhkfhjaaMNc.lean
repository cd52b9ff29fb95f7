/- Texts Nc Nd in one: each says what it proves. -/
import Derived.Test.YtapejaabhkfhjaaMNa
import Derived.OwnWalkIn
import Derived.TacticsInMore
import Derived.LoopNIn
import Derived.LoopIn
/- The iterator over a source's expressions: the function that hands on some pointers. -/
namespace Go.Proofs.Ytapejaabhkfhjaa
open Go.RowKit

attribute [local go_sem] Oper.semAt_some

/- how a part of an iterator's work ends -/
def PartEnd (J : Nat → (Nat → Prop) → World → Prop) (Jx : (Nat → Prop) → World → Prop) (Jp : List PanicEntry → (Nat → Prop) → World → Prop) (O : Nat → Prop) (k : Nat) (W : World) (e : Ending) (W' : World) : Prop :=
  (e = .returned (.bool true) ∧ J k O W' ∧ Same O W W') ∨ (e = .returned (.bool false) ∧ Jx O W' ∧ Same O W W') ∨ ∃ ch, e = .panicked ch ∧ Jp ch O W' ∧ Same O W W'

theorem same_cell {O : Nat → Prop} {W W' : World} (h : Same O W W') {b o : Nat} (hb : O b) {v : Value} (hc : W.cell? ⟨b, o, none⟩ = some v) : W'.cell? ⟨b, o, none⟩ = some v := by
  unfold World.cell? at hc ⊢
  rw [h.2 b hb]; exact hc

set_option maxRecDepth 100000 in
set_option maxHeartbeats 4000000 in
theorem each_in (n : Nat) (hn : 1 ≤ n) (l Bc g : Nat) (lt : Int) (ps : List Value) (k0 : Nat) (O : Nat → Prop) (J : Nat → (Nat → Prop) → World → Prop) (Jx : (Nat → Prop) → World → Prop) (Jp : List PanicEntry → (Nat → Prop) → World → Prop) (W : World)
    (hB : O Bc) (hg : O g) (hps : ps.length ≤ 100) (hc : W.cell? ⟨Bc, 0, none⟩ = some (.func (.yield l) #[] #[])) (hcs : ∀ i (h : i < ps.length), W.cell? ⟨g, i, none⟩ = some ps[i]) (hone : ∀ i (h : i < ps.length), ∃ p, ps[i] = .pointer (some p))
    (hY : ∀ i (h : i < ps.length) W1, J (k0 + i) O W1 → Same O W W1 → YieldAt Fence.wide (n - 1) Try.prog l #[ps[i], .int .i64 lt] W1 (PartEnd J Jx Jp O (k0 + i + 1) W1))
    (h0 : J k0 O W) :
    CallsIn Fence.wide n Try.prog 90 #[.int .i64 lt, .slice (some ⟨g, 0, none⟩) ps.length ps.length, .pointer (some ⟨Bc, 0, none⟩)] W (PartEnd J Jx Jp O (k0 + ps.length) W) := by
  have Hc := Lib.hid hc
  have Hcs := Lib.hid hcs
  have HY := Lib.hid hY
  have H0 := Lib.hid h0
  have HO := Lib.hid hB
  have HO2 := Lib.hid hg
  have HOne := Lib.hid hone
  generalize hN : ps.length = N at hps ⊢
  have HN := Lib.hid hN
  clear hc hcs hY h0 hN hB hg hone
  refine callsIn_of_wp Try.func90 rfl trivial ?_ rfl
  simp only [Try.ntmps90, List.size_toArray, List.length_cons, List.length_nil, Nat.reduceAdd, Nat.reduceSub, Array.replicate_succ, Array.replicate_zero, List.push_toArray, List.append_toArray, List.nil_append, List.cons_append]
  gi_wp2
  gi_loopw [10] (fun iv wr => ∃ i : Nat, i ≤ N ∧ iv = .int .i64 i ∧ Hid (J (k0 + i) O wr) ∧ Hid (Same O W wr)) (fun iv _ => N - (intOf iv).toNat)
  case atStart => exact ⟨0, Nat.zero_le _, rfl, H0, Lib.hid (Same.refl _ _)⟩
  case round =>
    obtain ⟨i, hi, rfl, HJ, HS⟩ := hrel
    by_cases hlt : i < N
    · have hil : i < ps.length := by rw [HN.out]; exact hlt
      have c0 := same_cell HS.out HO.out Hc.out
      have c1 := same_cell HS.out HO2.out (Hcs.out i hil)
      obtain ⟨p, hp⟩ := HOne.out i hil
      obtain ⟨fn, tmps, assign, body, hy, hR⟩ := HY.out i hil wr HJ.out HS.out
      rw [hp] at c1 hy
      have HR := Lib.hid hR
      have hki : (i : Int) < (N : Int) := by omega
      clear hR hp
      gi_wp2
      refine HR.out.mono ?_
      rintro e W3 (⟨rfl, hj, hs⟩ | ⟨rfl, hx, hs⟩ | ⟨ch, rfl, hp, hs⟩)
      · have HJ3 := Lib.hid hj
        have HS3 := Lib.hid (HS.out.trans hs)
        clear hj hs
        gi_wp2
        exact ⟨⟨i + 1, by omega, by go_num, HJ3, HS3⟩, by simp [intOf]; omega⟩
      · have HX3 := Lib.hid hx
        have HS3 := Lib.hid (HS.out.trans hs)
        clear hx hs
        gi_wp2
        go_ret
        exact .inr (.inl ⟨rfl, HX3.out, HS3.out⟩)
      · exact ⟨rfl, .inr (.inr ⟨ch, rfl, hp, HS.out.trans hs⟩)⟩
    · obtain rfl : i = N := by omega
      gi_wp2
      go_ret
      exact .inl ⟨rfl, HJ.out, HS.out⟩

end Go.Proofs.Ytapejaabhkfhjaa

/- The iterator over a source's expressions: where the expressions lie; its state. -/
namespace Go.Proofs.Ytapejaabhkfhjaa
open Go.RowKit

/- a slice's header -/
structure Hdr where
  a : Option Addr
  n : Nat
  c : Nat
def Hdr.v (h : Hdr) : Value := .slice h.a h.n h.c
/- the address of cell 'off' of element i, each element of 'sz' cells -/
def Hdr.at (h : Hdr) (sz i off : Nat) : Addr := match h.a with
  | some ⟨b, o, _⟩ => ⟨b, o + i * sz + off, none⟩
  | none => ⟨0, 0, none⟩
def Hdr.ptr (h : Hdr) (sz i off : Nat) : Value := .pointer (some (h.at sz i off))
def Hdr.ok (h : Hdr) : Prop := h.n ≤ 140737488355328 ∧ (0 < h.n → ∃ b o, h.a = some ⟨b, o, none⟩)
theorem Hdr.ok.get {h : Hdr} (hk : h.ok) {i : Nat} (hi : i < h.n) : ∃ b o, h.a = some ⟨b, o, none⟩ ∧ ∀ sz i off, h.at sz i off = ⟨b, o + i * sz + off, none⟩ := by
  obtain ⟨b, o, he⟩ := hk.2 (by omega)
  exact ⟨b, o, he, fun sz i off => by unfold Hdr.at; rw [he]⟩

/- where the lists of a source lie -/
structure Lay where
  s : Nat
  lets : Hdr
  crops : Hdr
  reaches : Hdr
  farms : Hdr
  rots : Hdr
  rights : Hdr
  duties : Hdr
  turns : List Hdr

def one (p : Value) (lt : Int) : List (Array Value) := [#[p, .int .i64 lt]]
def many (ps : List Value) : List (Array Value) := ps.map fun p => #[p, .int .i64 0]
def headPs (s : Nat) : List Value := [.pointer (some ⟨s, 1, none⟩), .pointer (some ⟨s, 7, none⟩), .pointer (some ⟨s, 13, none⟩)]
def reachPs (h : Hdr) (i : Nat) : List Value := [h.ptr 51 i 3, h.ptr 51 i 9, h.ptr 51 i 15, h.ptr 51 i 21, h.ptr 51 i 27, h.ptr 51 i 33, h.ptr 51 i 39, h.ptr 51 i 45]
def rotPs (h : Hdr) (i : Nat) : List Value := [h.ptr 23 i 4, h.ptr 23 i 10, h.ptr 23 i 16]
def rightPs (h : Hdr) (i : Nat) : List Value := [h.ptr 37 i 7, h.ptr 37 i 13, h.ptr 37 i 19, h.ptr 37 i 25, h.ptr 37 i 31]
def turnsOf (L : Lay) (i : Nat) : Hdr := L.turns.getD i ⟨none, 0, 0⟩
def letsX (L : Lay) (n : Nat) : List (Array Value) := (List.range n).flatMap fun i => [#[L.lets.ptr 7 i 1, .int .i64 (1 + (i : Int))]]
def cropsX (L : Lay) (n : Nat) : List (Array Value) := (List.range n).flatMap fun i => many [L.crops.ptr 7 i 1]
def reachesX (L : Lay) (n : Nat) : List (Array Value) := (List.range n).flatMap fun i => many (reachPs L.reaches i)
def farmsX (L : Lay) (n : Nat) : List (Array Value) := (List.range n).flatMap fun i => many [L.farms.ptr 12 i 4]
def turnsX (h : Hdr) (n : Nat) : List (Array Value) := (List.range n).flatMap fun k => many [h.ptr 8 k 2]
def rotsX (L : Lay) (n : Nat) : List (Array Value) := (List.range n).flatMap fun i => many (rotPs L.rots i) ++ turnsX (turnsOf L i) (turnsOf L i).n
def rightsX (L : Lay) (n : Nat) : List (Array Value) := (List.range n).flatMap fun i => many (rightPs L.rights i)
def dutiesX (L : Lay) (n : Nat) : List (Array Value) := (List.range n).flatMap fun i => many [L.duties.ptr 11 i 5]
/- what the iterator hands on, in order -/
def exprX (L : Lay) : List (Array Value) :=
  many (headPs L.s) ++ (letsX L L.lets.n ++ (cropsX L L.crops.n ++ (reachesX L L.reaches.n ++ (farmsX L L.farms.n ++ (rotsX L L.rots.n ++ (rightsX L L.rights.n ++ dutiesX L L.duties.n))))))

/- the headers lie in memory; Bs is the box that holds the source's address -/
structure Heads (L : Lay) (Bs : Nat) (W : World) : Prop where
  box : W.cell? ⟨Bs, 0, none⟩ = some (.pointer (some ⟨L.s, 0, none⟩))
  lets : W.cell? ⟨L.s, 19, none⟩ = some L.lets.v
  crops : W.cell? ⟨L.s, 20, none⟩ = some L.crops.v
  reaches : W.cell? ⟨L.s, 21, none⟩ = some L.reaches.v
  farms : W.cell? ⟨L.s, 22, none⟩ = some L.farms.v
  rots : W.cell? ⟨L.s, 23, none⟩ = some L.rots.v
  rights : W.cell? ⟨L.s, 24, none⟩ = some L.rights.v
  duties : W.cell? ⟨L.s, 25, none⟩ = some L.duties.v
  turns : ∀ i, i < L.rots.n → W.cell? (L.rots.at 23 i 22) = some (turnsOf L i).v
structure Lay.Ok (L : Lay) : Prop where
  lets : L.lets.ok
  crops : L.crops.ok
  reaches : L.reaches.ok
  farms : L.farms.ok
  rots : L.rots.ok
  rights : L.rights.ok
  duties : L.duties.ok
  turns : ∀ i, i < L.rots.n → (turnsOf L i).ok

theorem range_flatMap {α : Type} (f : Nat → List α) {n i : Nat} (h : i < n) : ∃ post, (List.range n).flatMap f = (List.range i).flatMap f ++ (f i ++ post) := by
  obtain ⟨m, rfl⟩ : ∃ m, n = (i + 1) + m := ⟨n - (i + 1), by omega⟩
  rw [List.range_add, List.flatMap_append, List.range_succ, List.flatMap_append]
  exact ⟨_, by simp [List.append_assoc]; rfl⟩
theorem range_flatMap_succ {α : Type} (f : Nat → List α) (i : Nat) : (List.range (i + 1)).flatMap f = (List.range i).flatMap f ++ f i := by
  rw [List.range_succ, List.flatMap_append]; simp

/- what the caller of an iterator promises -/
structure Ctx (n l : Nat) (P : Program) (xs : List (Array Value)) (Hd : World → Prop) (J : Nat → (Nat → Prop) → World → Prop) (Jx : (Nat → Prop) → World → Prop) (Jp : List PanicEntry → (Nat → Prop) → World → Prop) (W0 : World) : Prop where
  stays : Stays J
  staysx : Stays (fun (_ : Unit) => Jx)
  hd : ∀ k O W, J k O W → Hd W
  hdx : ∀ O W, Jx O W → Hd W
  round : ∀ k (hk : k < xs.length) O W1, J k O W1 → W0.heap.size ≤ W1.heap.size → (∀ b, O b → W0.heap.size ≤ b ∧ b < W1.heap.size) → YieldAt Fence.wide n P l xs[k] W1 (PartEnd J Jx Jp O (k + 1) W1)
/- the state of an iterator that has handed on k values; Bc is the box that holds yield -/
structure ISt (J : Nat → (Nat → Prop) → World → Prop) (W0 : World) (l Bc k : Nat) (O : Nat → Prop) (wr : World) : Prop where
  j : J k O wr
  bc : O Bc
  box : wr.cell? ⟨Bc, 0, none⟩ = some (.func (.yield l) #[] #[])
  size : W0.heap.size ≤ wr.heap.size
  own : ∀ b, O b → W0.heap.size ≤ b ∧ b < wr.heap.size

section
variable {n l Bc k : Nat} {P : Program} {xs : List (Array Value)} {Hd : World → Prop} {J : Nat → (Nat → Prop) → World → Prop} {Jx : (Nat → Prop) → World → Prop} {Jp : List PanicEntry → (Nat → Prop) → World → Prop} {W0 wr w2 : World} {O : Nat → Prop}
theorem stays_below {β : Type} {J : β → (Nat → Prop) → World → Prop} (h : Stays J) {s : β} {O : Nat → Prop} {W W' : World} (hj : J s O W) (hb : Below W.heap.size W W') : J s (fun b => O b ∨ (W.heap.size ≤ b ∧ b < W'.heap.size)) W' :=
  h s O W _ W' hj hb.size hb.os hb.tape hb.output (fun b _ hlt => hb.block b hlt) (fun _ hb' => hb'.elim .inl (fun h => .inr h.1))
theorem ISt.below (hc : Ctx n l P xs Hd J Jx Jp W0) (h : ISt J W0 l Bc k O wr) (hb : Below wr.heap.size wr w2) : ISt J W0 l Bc k (fun b => O b ∨ (wr.heap.size ≤ b ∧ b < w2.heap.size)) w2 :=
  ⟨stays_below hc.stays h.j hb, .inl h.bc, (hb.cell (p := ⟨Bc, 0, none⟩) (h.own _ h.bc).2).trans h.box, Nat.le_trans h.size hb.size, fun b hb' => by
    rcases hb' with hb' | hb'
    · have := h.own b hb'; have := hb.size; omega
    · have := h.size; omega⟩
/- how a part of the iterator's work ends, seen from the iterator -/
def Part (J : Nat → (Nat → Prop) → World → Prop) (Jx : (Nat → Prop) → World → Prop) (Jp : List PanicEntry → (Nat → Prop) → World → Prop) (W0 : World) (l Bc k : Nat) (e : Ending) (W' : World) : Prop :=
  (∃ r : Bool, e = .returned (.bool r) ∧ ((r = true ∧ ∃ O', ISt J W0 l Bc k O' W') ∨ (r = false ∧ ∃ O', Jx O' W'))) ∨ ∃ ch, e = .panicked ch ∧ ∃ O', Jp ch O' W'
theorem each_call (hc : Ctx (n - 1) l Try.prog xs Hd J Jx Jp W0) (hn : 1 ≤ n) {pre : List (Array Value)} (h : ISt J W0 l Bc pre.length O wr) (lt : Int) (arr : Array Value) (N : Nat) (hN : arr.size = N) (t : TypeId) (hx : ∃ post, xs = pre ++ (arr.toList.map (fun p => #[p, .int .i64 lt]) ++ post)) (hps : N ≤ 100) (hone : ∀ p ∈ arr.toList, ∃ q, p = .pointer (some q)) (g : Nat) (hg : g = wr.heap.size) :
    Calls Try.prog 90 #[.int .i64 lt, .slice (some ⟨g, 0, none⟩) N N, .pointer (some ⟨Bc, 0, none⟩)] (wr.alloc (.cells arr t)) (Part J Jx Jp W0 l Bc (pre.length + N)) := by
  subst hN hg
  have hb : Below wr.heap.size wr (wr.alloc (.cells arr t)) := (Below.refl _ _).alloc (Nat.le_refl _) _
  have h2 := h.below hc hb
  have hlen : arr.toList.length = arr.size := by simp
  refine callsIn_wide.1 ((each_in n hn l Bc wr.heap.size lt arr.toList pre.length _ J Jx Jp _ h2.bc (.inr ⟨Nat.le_refl _, by simp⟩) (by rw [hlen]; exact hps) h2.box (fun i hi => ?_) (fun i hi => hone _ (List.getElem_mem hi)) (fun i hi W1 hj hs => ?_) h2.j).mono ?_)
  · have : (wr.alloc (.cells arr t)).heap[wr.heap.size]? = some (.cells arr t (0, 0)) := World.alloc_heap_new _ _
    simp only [World.cell?, this]
    simp [hlen ▸ hi]
  · obtain ⟨post, hx⟩ := hx
    have hk : pre.length + i < xs.length := by rw [hx]; simp; simp at hi; omega
    have he : xs[pre.length + i] = #[arr.toList[i], .int .i64 lt] := by
      subst hx
      rw [List.getElem_append_right (by omega)]
      simp only [Nat.add_sub_cancel_left]
      rw [List.getElem_append_left (by simpa using hi), List.getElem_map]
    have := hc.round (pre.length + i) hk _ W1 hj (Nat.le_trans h2.size hs.1) (fun b hb => by have := h2.own b hb; have := hs.1; omega)
    rw [he] at this
    exact this
  · rintro e W' (⟨rfl, hj, hs⟩ | ⟨rfl, hx', hs⟩ | ⟨ch, rfl, hp, _⟩)
    · rw [hlen] at hj
      exact .inl ⟨true, rfl, .inl ⟨rfl, _, hj, h2.bc, same_cell hs h2.bc h2.box, Nat.le_trans h2.size hs.1, fun b hb => by have := h2.own b hb; have := hs.1; omega⟩⟩
    · exact .inl ⟨false, rfl, .inr ⟨rfl, _, hx'⟩⟩
    · exact .inr ⟨ch, rfl, _, hp⟩
end

end Go.Proofs.Ytapejaabhkfhjaa

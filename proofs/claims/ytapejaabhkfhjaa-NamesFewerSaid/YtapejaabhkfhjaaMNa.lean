/- Texts Na Nb in one: each says what it proves. -/
import Derived.Test.YtapejaabhkfhjaaMLa
import Derived.Test.YtapejaabhkfhjaaProg
import Derived.WalkKit
import Derived.WalkSpells
import Derived.Below
import Derived.Deep.MidRow
import Derived.Laws.EntriesVeiled
import Derived.WalkLawsBesides
import Derived.Deep.QuietTactic
import Derived.BigQuiet
import Derived.Lib.Hide
import Derived.Lib.IndexAny
/- Sources as plain data, and how they lie in memory: expressions. -/
namespace Go.Proofs.Ytapejaabhkfhjaa
open Go.RowKit

/- an expression with units -/
inductive Ex where
  | mk (op n u : Int) (rn : ByteArray) (ri : Int) (args : List Ex)
namespace Ex
def op : Ex → Int | .mk o _ _ _ _ _ => o
def n : Ex → Int | .mk _ n _ _ _ _ => n
def u : Ex → Int | .mk _ _ u _ _ _ => u
def rn : Ex → ByteArray | .mk _ _ _ r _ _ => r
def ri : Ex → Int | .mk _ _ _ _ i _ => i
def args : Ex → List Ex | .mk _ _ _ _ _ l => l
end Ex

/- what an expression's six cells are: N are the blocks in which its arguments may lie -/
mutual
def ExV (N : Nat → Prop) (w : World) : Ex → List Value → Prop
  | .mk op n u rn ri args, cs => ∃ a cap, cs = [.int .i64 op, .int .i64 n, .int .i64 u, .string rn, .int .i64 ri, .slice a args.length cap] ∧ args.length ≤ 140737488355328 ∧ rn.size ≤ maxLen ∧ RowV N w a 0 args
def RowV (N : Nat → Prop) (w : World) (a : Option Addr) : Nat → List Ex → Prop
  | _, [] => True
  | i, e :: r => (∃ b o cs, a = some ⟨b, o, none⟩ ∧ N b ∧ w.rangeAt b (o + i * 6) cs ∧ ExV N w e cs) ∧ RowV N w a (i + 1) r
end
/- a slice of expressions -/
def IsExs (N : Nat → Prop) (w : World) (v : Value) (l : List Ex) : Prop := ∃ a cap, v = .slice a l.length cap ∧ l.length ≤ 140737488355328 ∧ RowV N w a 0 l

theorem rowV_get {N : Nat → Prop} {w : World} {a : Option Addr} : ∀ {l : List Ex} {k : Nat}, RowV N w a k l → ∀ i (h : i < l.length), ∃ b o cs, a = some ⟨b, o, none⟩ ∧ N b ∧ w.rangeAt b (o + (k + i) * 6) cs ∧ ExV N w l[i] cs
  | [], _, _, i, h => by simp at h
  | e :: r, k, hr, i, h => by
    rw [RowV] at hr
    cases i with
    | zero => exact hr.1
    | succ i =>
      obtain ⟨b, o, cs, h1, h2, h3, h4⟩ := rowV_get hr.2 i (by simpa using h)
      exact ⟨b, o, cs, h1, h2, by rw [show k + (i + 1) = k + 1 + i by omega]; exact h3, by simpa using h4⟩
theorem rowV_mk {N : Nat → Prop} {w : World} {a : Option Addr} : ∀ {l : List Ex} {k : Nat}, (∀ i (h : i < l.length), ∃ b o cs, a = some ⟨b, o, none⟩ ∧ N b ∧ w.rangeAt b (o + (k + i) * 6) cs ∧ ExV N w l[i] cs) → RowV N w a k l
  | [], _, _ => by rw [RowV]; trivial
  | e :: r, k, h => by
    rw [RowV]
    refine ⟨h 0 (by simp), rowV_mk fun i hi => ?_⟩
    obtain ⟨b, o, cs, h1, h2, h3, h4⟩ := h (i + 1) (by simpa using hi)
    exact ⟨b, o, cs, h1, h2, by rw [show k + 1 + i = k + (i + 1) by omega]; exact h3, by simpa using h4⟩
theorem rangeAt_block {w w' : World} {b o : Nat} {cs : List Value} (h : w.rangeAt b o cs) (hb : w'.heap[b]? = w.heap[b]?) : w'.rangeAt b o cs := fun j v hv => by
  have := h j v hv
  unfold World.cell? at this ⊢
  rw [hb]; exact this

mutual
theorem ExV.same {N N' : Nat → Prop} {w w' : World} (hn : ∀ b, N b → N' b) (hb : ∀ b, N b → w'.heap[b]? = w.heap[b]?) : ∀ {e : Ex} {cs : List Value}, ExV N w e cs → ExV N' w' e cs
  | .mk _ _ _ _ _ args, _, h => by
    rw [ExV] at h ⊢
    obtain ⟨a, cap, h1, h2, h3, h4⟩ := h
    exact ⟨a, cap, h1, h2, h3, RowV.same hn hb h4⟩
theorem RowV.same {N N' : Nat → Prop} {w w' : World} {a : Option Addr} (hn : ∀ b, N b → N' b) (hb : ∀ b, N b → w'.heap[b]? = w.heap[b]?) : ∀ {l : List Ex} {k : Nat}, RowV N w a k l → RowV N' w' a k l
  | [], _, h => by rw [RowV]; trivial
  | e :: r, k, h => by
    rw [RowV] at h ⊢
    obtain ⟨⟨b, o, cs, h1, h2, h3, h4⟩, h5⟩ := h
    exact ⟨⟨b, o, cs, h1, hn b h2, rangeAt_block h3 (hb b h2), ExV.same hn hb h4⟩, RowV.same hn hb h5⟩
end
theorem IsExs.same {N N' : Nat → Prop} {w w' : World} {v : Value} {l : List Ex} (hn : ∀ b, N b → N' b) (hb : ∀ b, N b → w'.heap[b]? = w.heap[b]?) (h : IsExs N w v l) : IsExs N' w' v l := by
  obtain ⟨a, cap, h1, h2, h3⟩ := h
  exact ⟨a, cap, h1, h2, RowV.same hn hb h3⟩

/- the depth of an expression -/
mutual
def depthE : Ex → Nat
  | .mk _ _ _ _ _ args => depthL args
def depthL : List Ex → Nat
  | [] => 0
  | e :: r => max (1 + depthE e) (depthL r)
end

mutual
theorem ex_ind {P : Ex → Prop} (h : ∀ op n u rn ri args, (∀ e ∈ args, P e) → P (.mk op n u rn ri args)) : ∀ e, P e
  | .mk op n u rn ri args => h op n u rn ri args (exs_ind h args)
theorem exs_ind {P : Ex → Prop} (h : ∀ op n u rn ri args, (∀ e ∈ args, P e) → P (.mk op n u rn ri args)) : ∀ l : List Ex, ∀ e ∈ l, P e
  | [] => fun _ he => by simp at he
  | x :: r => fun e he => (List.mem_cons.1 he).elim (fun q => q ▸ ex_ind h x) (exs_ind h r e)
end
theorem depthL_snoc : ∀ (l : List Ex) (e : Ex), depthL (l ++ [e]) = max (depthL l) (1 + depthE e)
  | [], e => by simp [depthL]
  | x :: r, e => by
    rw [List.cons_append, depthL, depthL, depthL_snoc r e, Nat.max_assoc]
theorem depthL_take {l : List Ex} {i : Nat} (h : i < l.length) : depthL (l.take (i + 1)) = max (depthL (l.take i)) (1 + depthE l[i]) := by
  rw [List.take_succ_eq_append_getElem h, depthL_snoc]
theorem depthL_le : ∀ (l : List Ex) (i : Nat), depthL (l.take i) ≤ depthL l
  | [], i => by simp
  | x :: r, 0 => by simp [depthL]
  | x :: r, i + 1 => by
    rw [List.take_succ_cons, depthL, depthL]
    have := depthL_le r i
    omega
theorem depthL_get {l : List Ex} {i : Nat} (h : i < l.length) : 1 + depthE l[i] ≤ depthL l := by
  have h1 := depthL_take h
  have h2 := depthL_le l (i + 1)
  omega
/- the six cells of an expression that lies in memory -/
theorem ExV.cells {N : Nat → Prop} {w : World} {e : Ex} {cs : List Value} (h : ExV N w e cs) : ∃ a cap, cs = [.int .i64 e.op, .int .i64 e.n, .int .i64 e.u, .string e.rn, .int .i64 e.ri, .slice a e.args.length cap] ∧ e.args.length ≤ 140737488355328 ∧ e.rn.size ≤ maxLen ∧ RowV N w a 0 e.args := by
  cases e
  rw [ExV] at h
  exact h
theorem ExV.mk' {N : Nat → Prop} {w : World} {e : Ex} {a : Option Addr} {cap : Nat} (h1 : e.args.length ≤ 140737488355328) (h2 : e.rn.size ≤ maxLen) (h3 : RowV N w a 0 e.args) :
    ExV N w e [.int .i64 e.op, .int .i64 e.n, .int .i64 e.u, .string e.rn, .int .i64 e.ri, .slice a e.args.length cap] := by
  cases e
  rw [ExV]
  exact ⟨a, cap, rfl, h1, h2, h3⟩
theorem rangeAt6 {w : World} {b o : Nat} {x0 x1 x2 x3 x4 x5 : Value} (h : w.rangeAt b o [x0, x1, x2, x3, x4, x5]) : w.cell? ⟨b, o, none⟩ = some x0 ∧ w.cell? ⟨b, o + 1, none⟩ = some x1 ∧ w.cell? ⟨b, o + 2, none⟩ = some x2 ∧ w.cell? ⟨b, o + 3, none⟩ = some x3 ∧ w.cell? ⟨b, o + 4, none⟩ = some x4 ∧ w.cell? ⟨b, o + 5, none⟩ = some x5 :=
  ⟨h 0 _ rfl, h 1 _ rfl, h 2 _ rfl, h 3 _ rfl, h 4 _ rfl, h 5 _ rfl⟩
/- what lies below stays -/
theorem same_below {N : Nat → Prop} {B : Nat} {w w' : World} (hN : ∀ b, N b → b < B) (hb : Below B w w') : ∀ b, N b → w'.heap[b]? = w.heap[b]? := fun b h => hb.block b (hN b h)

end Go.Proofs.Ytapejaabhkfhjaa

/- The program's need and depth; whether an expression is left out. -/
namespace Go.Proofs.Ytapejaabhkfhjaa
open Go.RowKit


theorem ret_int {k : IntKind} {a b : Int} (h : a = b) : Ending.returned (.int k a) = .returned (.int k b) := by rw [h]
theorem ret_bool {a b : Bool} (h : a = b) : Ending.returned (.bool a) = .returned (.bool b) := by rw [h]
theorem need_yes (e : Int) (w : World) : Calls Try.prog 50 #[.bool true, .int .i64 e] w fun x w' => x = .returned (.tuple #[]) ∧ w' = w := by
  go_enter Try.func50, Try.ntmps50
  go_wp2
  go_end0
  exact ⟨rfl, rfl⟩
theorem need_no (e : Int) (w : World) : Calls Try.prog 50 #[.bool false, .int .i64 e] w fun x w' => x = .panicked [{ v := .iface 38 (.int .i64 e), recovered := false }] ∧ w' = w := by
  go_enter Try.func50, Try.ntmps50
  go_wp2
  exact ⟨rfl, rfl, rfl⟩

set_option maxRecDepth 100000 in
set_option maxHeartbeats 2000000 in
theorem depth_any : ∀ (e : Ex) {N : Nat → Prop} {w : World} {cs : List Value}, ExV N w e cs → (∀ b, N b → b < w.heap.size) → depthE e ≤ 1000000 →
    Calls Try.prog 68 #[.agg cs.toArray] w fun x w' => x = .returned (.int .i64 (depthE e)) ∧ Below w.heap.size w w' := by
  refine ex_ind fun op nn u rn ri args ih => ?_
  intro N w cs h hN hd
  rw [ExV] at h
  obtain ⟨a, cap, rfl, hl, hr, hrow⟩ := h
  have Hrow := Lib.hid hrow
  have HN := Lib.hid hN
  have IH := Lib.hid ih
  have hE : depthE (.mk op nn u rn ri args) = depthL args := rfl
  rw [hE] at hd ⊢
  have HD := Lib.hid hd
  generalize hm : args.length = m at hl ⊢
  have Hm := Lib.hid hm
  clear hrow hN ih hE hd hm
  go_enter Try.func68, Try.ntmps68
  go_wp2
  go_loopw [2, 8] (fun nv iv wr => ∃ i : Nat, nv = .int .i64 (depthL (args.take i)) ∧ iv = .int .i64 i ∧ i ≤ m ∧ Hid (Below w.heap.size w wr)) (fun _ iv _ => m - (intOf iv).toNat)
  case atStart => exact ⟨0, by simp [depthL], rfl, Nat.zero_le _, Lib.hid ((Below.refl _ _).alloc (Nat.le_refl _) _)⟩
  case round =>
    obtain ⟨i, rfl, rfl, hi, HB⟩ := hrel
    by_cases hlt : i < m
    · have hil : i < args.length := by rw [Hm.out]; exact hlt
      obtain ⟨b, o, cs, rfl, hNb, hra, hex⟩ := rowV_get Hrow.out i hil
      have hex' := ExV.same (fun b h => h) (same_below HN.out HB.out) hex
      have hra' := rangeAt_block hra (HB.out.block b (HN.out b hNb))
      obtain ⟨a', cap', rfl, _⟩ := hex.cells
      rw [Nat.zero_add] at hra'
      obtain ⟨c0, c1, c2, c3, c4, c5⟩ := rangeAt6 hra'
      have hd1 := depthL_get hil
      have hd2 := depthL_take hil
      have hd3 := depthL_le args (i + 1)
      have HC := Lib.hid (fun (W : World) (hW : Below w.heap.size w W) => IH.out args[i] (List.getElem_mem hil) (ExV.same (fun b h => h) (same_below HN.out hW) hex) (fun b h => Nat.lt_of_lt_of_le (HN.out b h) hW.size) (by have := HD.out; omega))
      generalize args[i] = x at *
      have HB1 := Lib.hid (HB.out.alloc HB.out.size (.cells #[.int .i64 x.op, .int .i64 x.n, .int .i64 x.u, .string x.rn, .int .i64 x.ri, .slice a' x.args.length cap'] 26))
      have hki : (i : Int) < (m : Int) := by omega
      generalize hdx : depthE x = dx at hd1 hd2 HC ⊢
      have Hdx := Lib.hid hdx
      generalize hdi : depthL (args.take i) = di at hd2 ⊢
      have Hd2 := Lib.hid hd2
      have h1 : (dx : Int) ≤ 1000000 := by have := HD.out; omega
      have h2 : (di : Int) ≤ 1000000 := by have := HD.out; omega
      clear hex hex' hra hra' hdx hdi hd1 hd2 hd3
      go_wp2_with fail
      refine (HC.out _ HB1.out).mono ?_
      rintro e w2 ⟨rfl, hb2⟩
      have HB2 := Lib.hid (HB1.out.trans (hb2.mono HB1.out.size))
      clear hb2
      go_wp2
      refine ⟨⟨i + 1, ?_, by go_num, by omega, HB2⟩, by simp [intOf]; omega⟩
      rw [Hd2.out]
      congr 1
      split <;> omega
    · obtain rfl : i = m := by omega
      go_wp2
      go_ret
      refine ⟨ret_int (by rw [← Hm.out, List.take_length]), HB.out⟩

end Go.Proofs.Ytapejaabhkfhjaa

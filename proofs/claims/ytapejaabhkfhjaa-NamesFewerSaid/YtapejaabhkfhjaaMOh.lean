/- The iterator over a source's references: what it hands on. -/
import Derived.Test.YtapejaabhkfhjaaMOe
namespace Go.Proofs.Ytapejaabhkfhjaa
open Go.RowKit

/- parts, one after the other, up to the first that ends in a panic -/
def seqU : List (List Us × Bool) → List Us × Bool
  | [] => ([], true)
  | x :: r => if x.2 then (x.1 ++ (seqU r).1, (seqU r).2) else (x.1, false)
theorem seqU_append : ∀ (l m : List (List Us × Bool)), seqU (l ++ m) = if (seqU l).2 then ((seqU l).1 ++ (seqU m).1, (seqU m).2) else seqU l
  | [], m => by simp [seqU]
  | x :: r, m => by
    simp only [List.cons_append, seqU, seqU_append r m]
    by_cases h1 : x.2 = true
    · by_cases h2 : (seqU r).2 = true
      · simp [h1, h2]
      · simp [h1, h2]
    · simp [h1]
theorem seqU_next {l : List (List Us × Bool)} {k : Nat} (h : k < l.length) (hok : (seqU (l.take k)).2 = true) : seqU (l.take (k + 1)) = ((seqU (l.take k)).1 ++ l[k].1, l[k].2) := by
  rw [List.take_succ_eq_append_getElem h, seqU_append, hok, if_pos rfl]
  simp only [seqU]
  by_cases h1 : l[k].2 = true
  · simp [h1]
  · simp [h1]
theorem seqU_pre (l : List (List Us × Bool)) (k : Nat) : ∃ post, (seqU l).1 = (seqU (l.take k)).1 ++ post := by
  have h := seqU_append (l.take k) (l.drop k)
  rw [List.take_append_drop] at h
  rw [h]
  by_cases h1 : (seqU (l.take k)).2 = true
  · rw [if_pos h1]; exact ⟨_, rfl⟩
  · rw [if_neg h1]; exact ⟨[], by simp⟩
theorem seqU_stop {l : List (List Us × Bool)} {k : Nat} (h : (seqU (l.take k)).2 = false) : seqU l = seqU (l.take k) := by
  have h2 := seqU_append (l.take k) (l.drop k)
  rw [List.take_append_drop, h] at h2
  exact h2

def leftE (e : Ex) : Bool := leftC e.op e.n e.u e.rn e.ri e.args.length
def ptrOf (a : Array Value) : Addr := match a.getD 0 undef with
  | .pointer (some p) => p
  | _ => ⟨0, 0, none⟩
def topPart (w : World) (a : Array Value) (e : ExI) : List Us × Bool := if leftE e.1 then ([], true) else preE w e.2 e.1 (ptrOf a).block (ptrOf a).off
def topParts (w : World) (L : Lay) (x : Src) : List (List Us × Bool) := List.zipWith (topPart w) (exprX L) (allE x)
def usAt (a : Addr) (to at_ : Int) (r : Rf) : Us := ⟨a.block, a.off, to, at_, r.name, r.n⟩
def farmU (h : Hdr) (l : List FarmD) (i : Nat) : List Us := match l[i]? with
  | some d => [usAt (h.at 12 i 1) 4 0 d.on, usAt (h.at 12 i 10) (if d.river then 0 else 3) 0 d.crop]
  | none => []
def turnU (h : Hdr) (l : List TurnD) (i : Nat) : List Us := match l[i]? with
  | some d => [usAt (h.at 8 i 0) 5 0 d.farm]
  | none => []
def rotU (L : Lay) (l : List RotD) (i : Nat) : List Us := match l[i]? with
  | some d => usAt (L.rots.at 23 i 1) 4 0 d.on :: (List.range (turnsOf L i).n).flatMap (turnU (turnsOf L i) d.turns)
  | none => []
def rightU (h : Hdr) (l : List RightD) (i : Nat) : List Us := match l[i]? with
  | some d => [usAt (h.at 37 i 2) 5 0 d.farm, usAt (h.at 37 i 4) (if d.kind = 1 then 0 else 4) 0 d.reach]
  | none => []
def dutyU (h : Hdr) (l : List DutyD) (i : Nat) : List Us := match l[i]? with
  | some d => [usAt (h.at 11 i 1) 5 0 d.farm, usAt (h.at 11 i 3) 4 0 d.reach]
  | none => []
def kindOk (k : Int) : Bool := decide (1 ≤ k) && decide (k ≤ 3)
def kindsOk (x : Src) : Bool := x.rights.all fun d => kindOk d.kind
def listU (L : Lay) (x : Src) : List Us :=
  (((List.range L.farms.n).flatMap (farmU L.farms x.farms) ++ (List.range L.rots.n).flatMap (rotU L x.rots)) ++ (List.range L.rights.n).flatMap (rightU L.rights x.rights)) ++ (List.range L.duties.n).flatMap (dutyU L.duties x.duties)
def partsU (w : World) (L : Lay) (x : Src) : List (List Us × Bool) := topParts w L x ++ [(if kindsOk x then listU L x else [], kindsOk x)]
/- the references that are handed on; whether all is right -/
def usesU (w : World) (L : Lay) (x : Src) : List Us × Bool := seqU (partsU w L x)

/- the iterator may read an expression in cells of C; a reference's number is in a cell of D -/
def TopC (N : Nat → Prop) (w : World) (C D : Addr → Prop) (a : Array Value) (e : ExI) : Prop :=
  ∃ b o cs, a = #[.pointer (some ⟨b, o, none⟩), .int .i64 e.2] ∧ w.rangeAt b o cs ∧ ExV N w e.1 cs ∧ ExR w C e.1 b o ∧ C ⟨b, o + 1, none⟩ ∧ C ⟨b, o + 2, none⟩ ∧ C ⟨b, o + 3, none⟩ ∧ D ⟨b, o + 4, none⟩ ∧ (e.1.op = 0 → C ⟨b, o + 4, none⟩)
/- what the iterator reads of a source lies in cells of C -/
structure UsesC (N : Nat → Prop) (w : World) (C D : Addr → Prop) (Bu : Nat) (L : Lay) (x : Src) : Prop where
  ok : L.Ok
  heads : Heads L Bu w
  box : C ⟨Bu, 0, none⟩
  src : ∀ j, 19 ≤ j → j ≤ 25 → C ⟨L.s, j, none⟩
  turns : ∀ i, i < L.rots.n → C (L.rots.at 23 i 22)
  river : ∀ i (h : i < x.farms.length), C (L.farms.at 12 i 3) ∧ w.cell? (L.farms.at 12 i 3) = some (.bool x.farms[i].river)
  kind : ∀ i (h : i < x.rights.length), C (L.rights.at 37 i 0) ∧ w.cell? (L.rights.at 37 i 0) = some (.int .i64 x.rights[i].kind)
  top : All2 (TopC N w C D) (exprX L) (allE x)
  nfarms : L.farms.n = x.farms.length
  nrots : L.rots.n = x.rots.length
  nturns : ∀ i (h : i < x.rots.length), (turnsOf L i).n = x.rots[i].turns.length
  nrights : L.rights.n = x.rights.length
  nduties : L.duties.n = x.duties.length
  few : ∀ e ∈ allE x, 0 ≤ e.2 ∧ e.2 ≤ 1000000
  short : (listU L x).length ≤ 1000000
/- what holds of the world while the references are handed on -/
def HdU (w0 : World) (C D : Addr → Prop) (W : World) : Prop := (∀ p, C p → W.cell? p = w0.cell? p) ∧ ∀ p, D p → ∃ z, W.cell? p = some (.int .i64 z)

theorem topParts_length {N : Nat → Prop} {w : World} {C D : Addr → Prop} {Bu : Nat} {L : Lay} {x : Src} (h : UsesC N w C D Bu L x) : (topParts w L x).length = (exprX L).length := by
  unfold topParts
  rw [List.length_zipWith, ← h.top.length]; simp

end Go.Proofs.Ytapejaabhkfhjaa

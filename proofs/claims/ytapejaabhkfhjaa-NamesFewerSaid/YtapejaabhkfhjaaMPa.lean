/- Texts Pa Pb in one: each says what it proves. -/
import Derived.Test.YtapejaabhkfhjaaMNf
/- Sources that lie in typed blocks of their own: piece by piece. -/
namespace Go.Proofs.Ytapejaabhkfhjaa
open Go.RowKit

/- block b holds a row of elements of type t -/
def Ty (w : World) (b t : Nat) : Prop := ∃ c, w.heap[b]? = some (.cells c t (0, 0))
theorem Ty.inj {w : World} {b t t' : Nat} (h : Ty w b t) (h' : Ty w b t') : t = t' := by
  obtain ⟨c, e⟩ := h
  obtain ⟨c', e'⟩ := h'
  rw [e] at e'
  cases e'; rfl
theorem Ty.lt {w : World} {b t : Nat} (h : Ty w b t) : b < w.heap.size := by
  obtain ⟨c, e⟩ := h
  exact (Array.getElem?_eq_some_iff.1 e).1
/- what lies at an offset: 0 a plain cell, 1 a cell of an expression, 2 the number of a reference -/
def cls (t o : Nat) : Nat :=
  if t = 35 then (if o = 0 then 0 else if o < 19 then 1 else 0)
  else if t = 55 then (if o % 7 = 0 then 0 else 1)
  else if t = 57 then (if o % 7 = 0 then 0 else 1)
  else if t = 51 then (if o % 51 < 2 then 0 else if o % 51 = 2 then 2 else 1)
  else if t = 59 then (if o % 12 = 2 then 2 else if o % 12 = 11 then 2 else if o % 12 < 4 then 0 else if o % 12 = 10 then 0 else 1)
  else if t = 64 then (if o % 23 = 2 then 2 else if o % 23 < 4 then 0 else if o % 23 = 22 then 0 else 1)
  else if t = 66 then (if o % 8 = 0 then 0 else if o % 8 = 1 then 2 else 1)
  else if t = 68 then (if o % 37 = 3 then 2 else if o % 37 = 5 then 2 else if o % 37 < 7 then 0 else 1)
  else if t = 70 then (if o % 11 = 2 then 2 else if o % 11 = 4 then 2 else if o % 11 < 5 then 0 else 1)
  else 1
/- where in an expression a cell of class 1 stands -/
def eoff (t o : Nat) : Nat :=
  if t = 35 then (o + 5) % 6
  else if t = 55 then (o % 7 + 5) % 6
  else if t = 57 then (o % 7 + 5) % 6
  else if t = 51 then (o % 51 + 3) % 6
  else if t = 59 then (o % 12 + 2) % 6
  else if t = 64 then (o % 23 + 2) % 6
  else if t = 66 then (o % 8 + 4) % 6
  else if t = 68 then (o % 37 + 5) % 6
  else if t = 70 then (o % 11 + 1) % 6
  else o % 6
/- an expression begins at o -/
def EPos (w : World) (b o : Nat) : Prop := ∃ t, Ty w b t ∧ ∀ j, j < 6 → cls t (o + j) = 1 ∧ eoff t (o + j) = j
theorem EPos.uniq {w : World} {b o o' j j' : Nat} (h : EPos w b o) (h' : EPos w b o') (hj : j < 6) (hj' : j' < 6) (he : o + j = o' + j') : j = j' ∧ o = o' := by
  obtain ⟨t, h1, h2⟩ := h
  obtain ⟨t', h1', h2'⟩ := h'
  obtain rfl := h1.inj h1'
  have e1 := (h2 j hj).2
  have e2 := (h2' j' hj').2
  rw [he, e2] at e1
  omega
/- a reference begins at o -/
def RPos (w : World) (b o : Nat) : Prop := ∃ t, Ty w b t ∧ cls t o = 0 ∧ cls t (o + 1) = 2
/- a plain cell -/
def PPos (w : World) (b o : Nat) : Prop := ∃ t, Ty w b t ∧ cls t o = 0

/- rows of elements of one type, from the head of a block on -/
def RowsP {α : Type} (N : Nat → Prop) (w : World) (t sz : Nat) (P : Nat → Nat → Nat → α → Prop) (h : Hdr) (l : List α) : Prop :=
  h.n = l.length ∧ l.length ≤ 140737488355328 ∧ ∀ i (hi : i < l.length), ∃ g, h.a = some ⟨g, 0, none⟩ ∧ N g ∧ Ty w g t ∧ P i g (i * sz) l[i]
theorem RowsP.ok {α : Type} {N : Nat → Prop} {w : World} {t sz : Nat} {P : Nat → Nat → Nat → α → Prop} {h : Hdr} {l : List α} (hr : RowsP N w t sz P h l) : h.ok := by
  obtain ⟨h1, h2, h3⟩ := hr
  refine ⟨by omega, fun hp => ?_⟩
  obtain ⟨g, g1, _⟩ := h3 0 (by omega)
  exact ⟨g, 0, g1⟩
theorem RowsP.map {α : Type} {N : Nat → Prop} {w w' : World} {t sz : Nat} {P P' : Nat → Nat → Nat → α → Prop} {h : Hdr} {l : List α} {f : Nat → α → α} (hr : RowsP N w t sz P h l) (ht : ∀ b, N b → Ty w b t → Ty w' b t) (hp : ∀ i g d, N g → Ty w g t → P i g (i * sz) d → P' i g (i * sz) (f i d)) : RowsP N w' t sz P' h (l.mapIdx f) := by
  obtain ⟨h1, h2, h3⟩ := hr
  refine ⟨by rw [List.length_mapIdx]; exact h1, by rw [List.length_mapIdx]; exact h2, fun i hi => ?_⟩
  rw [List.length_mapIdx] at hi
  obtain ⟨g, g1, g0, g2, g3⟩ := h3 i hi
  refine ⟨g, g1, g0, ht g g0 g2, ?_⟩
  rw [List.getElem_mapIdx]
  exact hp i g _ g0 g2 g3
section
variable (N : Nat → Prop) (E : Int → Ex → Nat → Nat → Prop) (R : Int → Rf → Nat → Nat → Prop) (w : World)
def StrP (s : ByteArray) (g o : Nat) : Prop := s.size ≤ maxLen ∧ w.cell? ⟨g, o, none⟩ = some (.string s)
def LetP (i g o : Nat) (d : LetD) : Prop := StrP w d.name g o ∧ E (1 + (i : Int)) d.value g (o + 1)
def CropP (_ g o : Nat) (d : CropD) : Prop := StrP w d.name g o ∧ E 0 d.need g (o + 1)
def ReachP (i g o : Nat) (d : ReachD) : Prop := StrP w d.name g o ∧ R (if i = 0 then 0 else 6) d.frm g (o + 1) ∧ E 0 d.delay g (o + 3) ∧ E 0 d.cap g (o + 9) ∧ E 0 d.bank g (o + 15) ∧ E 0 d.siphon g (o + 21) ∧ E 0 d.evap0 g (o + 27) ∧ E 0 d.evap1 g (o + 33) ∧ E 0 d.seep0 g (o + 39) ∧ E 0 d.seep1 g (o + 45)
def FarmP (_ g o : Nat) (d : FarmD) : Prop := StrP w d.name g o ∧ R 4 d.on g (o + 1) ∧ w.cell? ⟨g, o + 3, none⟩ = some (.bool d.river) ∧ E 0 d.area g (o + 4) ∧ R (if d.river then 0 else 3) d.crop g (o + 10)
def TurnP (_ g o : Nat) (d : TurnD) : Prop := R 5 d.farm g o ∧ E 0 d.len g (o + 2)
def RotP (h : Nat → Hdr) (i g o : Nat) (d : RotD) : Prop := StrP w d.name g o ∧ R 4 d.on g (o + 1) ∧ w.cell? ⟨g, o + 3, none⟩ = some (.int .i64 d.rank) ∧ E 0 d.flow g (o + 4) ∧ E 0 d.frm g (o + 10) ∧ E 0 d.to g (o + 16) ∧ w.cell? ⟨g, o + 22, none⟩ = some (h i).v ∧ RowsP N w 66 8 (TurnP E R) (h i) d.turns
def RightP (_ g o : Nat) (d : RightD) : Prop := w.cell? ⟨g, o, none⟩ = some (.int .i64 d.kind) ∧ StrP w d.name g (o + 1) ∧ R 5 d.farm g (o + 2) ∧ R (if d.kind = 1 then 0 else 4) d.reach g (o + 4) ∧ w.cell? ⟨g, o + 6, none⟩ = some (.int .i64 d.rank) ∧ E 0 d.flow g (o + 7) ∧ E 0 d.frm g (o + 13) ∧ E 0 d.to g (o + 19) ∧ E 0 d.every g (o + 25) ∧ E 0 d.len g (o + 31)
def DutyP (_ g o : Nat) (d : DutyD) : Prop := StrP w d.name g o ∧ R 5 d.farm g (o + 1) ∧ R 4 d.reach g (o + 3) ∧ E 0 d.due g (o + 5)
/- a source, piece by piece: E of its expressions, R of its references beside those of expressions -/
structure PSrc (L : Lay) (x : Src) : Prop where
  ty : Ty w L.s 35
  name : StrP w x.name L.s 0
  season : E 0 x.season L.s 1
  cap : E 0 x.cap L.s 7
  start : E 0 x.start L.s 13
  hlets : w.cell? ⟨L.s, 19, none⟩ = some L.lets.v
  hcrops : w.cell? ⟨L.s, 20, none⟩ = some L.crops.v
  hreaches : w.cell? ⟨L.s, 21, none⟩ = some L.reaches.v
  hfarms : w.cell? ⟨L.s, 22, none⟩ = some L.farms.v
  hrots : w.cell? ⟨L.s, 23, none⟩ = some L.rots.v
  hrights : w.cell? ⟨L.s, 24, none⟩ = some L.rights.v
  hduties : w.cell? ⟨L.s, 25, none⟩ = some L.duties.v
  lets : RowsP N w 55 7 (LetP E w) L.lets x.lets
  crops : RowsP N w 57 7 (CropP E w) L.crops x.crops
  reaches : RowsP N w 51 51 (ReachP E R w) L.reaches x.reaches
  farms : RowsP N w 59 12 (FarmP E R w) L.farms x.farms
  rots : RowsP N w 64 23 (RotP N E R w (turnsOf L)) L.rots x.rots
  rights : RowsP N w 68 37 (RightP E R w) L.rights x.rights
  duties : RowsP N w 70 11 (DutyP E R w) L.duties x.duties
end

/- a source with other expressions and references -/
section
variable (f : Int → Ex → Ex) (g : Int → Rf → Rf)
def LetD.mp (i : Nat) (d : LetD) : LetD := { d with value := f (1 + (i : Int)) d.value }
def CropD.mp (_ : Nat) (d : CropD) : CropD := { d with need := f 0 d.need }
def ReachD.mp (i : Nat) (d : ReachD) : ReachD := { d with frm := g (if i = 0 then 0 else 6) d.frm, delay := f 0 d.delay, cap := f 0 d.cap, bank := f 0 d.bank, siphon := f 0 d.siphon, evap0 := f 0 d.evap0, evap1 := f 0 d.evap1, seep0 := f 0 d.seep0, seep1 := f 0 d.seep1 }
def FarmD.mp (_ : Nat) (d : FarmD) : FarmD := { d with on := g 4 d.on, area := f 0 d.area, crop := g (if d.river then 0 else 3) d.crop }
def TurnD.mp (_ : Nat) (d : TurnD) : TurnD := { farm := g 5 d.farm, len := f 0 d.len }
def RotD.mp (_ : Nat) (d : RotD) : RotD := { d with on := g 4 d.on, flow := f 0 d.flow, frm := f 0 d.frm, to := f 0 d.to, turns := d.turns.mapIdx (TurnD.mp f g) }
def RightD.mp (_ : Nat) (d : RightD) : RightD := { d with farm := g 5 d.farm, reach := g (if d.kind = 1 then 0 else 4) d.reach, flow := f 0 d.flow, frm := f 0 d.frm, to := f 0 d.to, every := f 0 d.every, len := f 0 d.len }
def DutyD.mp (_ : Nat) (d : DutyD) : DutyD := { d with farm := g 5 d.farm, reach := g 4 d.reach, due := f 0 d.due }
def Src.mp (x : Src) : Src :=
  { x with season := f 0 x.season, cap := f 0 x.cap, start := f 0 x.start, lets := x.lets.mapIdx (LetD.mp f), crops := x.crops.mapIdx (CropD.mp f), reaches := x.reaches.mapIdx (ReachD.mp f g), farms := x.farms.mapIdx (FarmD.mp f g), rots := x.rots.mapIdx (RotD.mp f g), rights := x.rights.mapIdx (RightD.mp f g), duties := x.duties.mapIdx (DutyD.mp f g) }
end

/- rows of sz cells of type t -/
def IsT (t sz : Nat) : Prop := (t = 55 ∧ sz = 7) ∨ (t = 57 ∧ sz = 7) ∨ (t = 51 ∧ sz = 51) ∨ (t = 59 ∧ sz = 12) ∨ (t = 64 ∧ sz = 23) ∨ (t = 66 ∧ sz = 8) ∨ (t = 68 ∧ sz = 37) ∨ (t = 70 ∧ sz = 11)
theorem cls_row {t sz : Nat} (h : IsT t sz) (i c : Nat) : cls t (i * sz + c) = cls t c ∧ eoff t (i * sz + c) = eoff t c := by
  rcases h with ⟨rfl, rfl⟩ | ⟨rfl, rfl⟩ | ⟨rfl, rfl⟩ | ⟨rfl, rfl⟩ | ⟨rfl, rfl⟩ | ⟨rfl, rfl⟩ | ⟨rfl, rfl⟩ | ⟨rfl, rfl⟩
  · have e : (i * 7 + c) % 7 = c % 7 := by omega
    simp [cls, eoff, e]
  · have e : (i * 7 + c) % 7 = c % 7 := by omega
    simp [cls, eoff, e]
  · have e : (i * 51 + c) % 51 = c % 51 := by omega
    simp [cls, eoff, e]
  · have e : (i * 12 + c) % 12 = c % 12 := by omega
    simp [cls, eoff, e]
  · have e : (i * 23 + c) % 23 = c % 23 := by omega
    simp [cls, eoff, e]
  · have e : (i * 8 + c) % 8 = c % 8 := by omega
    simp [cls, eoff, e]
  · have e : (i * 37 + c) % 37 = c % 37 := by omega
    simp [cls, eoff, e]
  · have e : (i * 11 + c) % 11 = c % 11 := by omega
    simp [cls, eoff, e]
theorem epos_row {w : World} {g t sz : Nat} (h : Ty w g t) (hr : IsT t sz) (i c : Nat) (h1 : ∀ j, j < 6 → cls t (c + j) = 1 ∧ eoff t (c + j) = j) : EPos w g (i * sz + c) :=
  ⟨t, h, fun j hj => by rw [Nat.add_assoc, (cls_row hr i (c + j)).1, (cls_row hr i (c + j)).2]; exact h1 j hj⟩
theorem ppos_row {w : World} {g t sz : Nat} (h : Ty w g t) (hr : IsT t sz) (i c : Nat) (h1 : cls t c = 0) : PPos w g (i * sz + c) := ⟨t, h, by rw [(cls_row hr i c).1]; exact h1⟩
theorem ppos_row0 {w : World} {g t sz : Nat} (h : Ty w g t) (hr : IsT t sz) (i : Nat) (h1 : cls t 0 = 0) : PPos w g (i * sz) := ppos_row h hr i 0 h1
theorem rpos_row {w : World} {g t sz : Nat} (h : Ty w g t) (hr : IsT t sz) (i c : Nat) (h1 : cls t c = 0) (h2 : cls t (c + 1) = 2) : RPos w g (i * sz + c) :=
  ⟨t, h, by rw [(cls_row hr i c).1]; exact h1, by rw [Nat.add_assoc, (cls_row hr i (c + 1)).1]; exact h2⟩
theorem rpos_row0 {w : World} {g t sz : Nat} (h : Ty w g t) (hr : IsT t sz) (i : Nat) (h1 : cls t 0 = 0) (h2 : cls t 1 = 2) : RPos w g (i * sz) := rpos_row h hr i 0 h1 h2
theorem isLet : IsT 55 7 := .inl ⟨rfl, rfl⟩
theorem isCrop : IsT 57 7 := .inr (.inl ⟨rfl, rfl⟩)
theorem isReach : IsT 51 51 := .inr (.inr (.inl ⟨rfl, rfl⟩))
theorem isFarm : IsT 59 12 := .inr (.inr (.inr (.inl ⟨rfl, rfl⟩)))
theorem isRot : IsT 64 23 := .inr (.inr (.inr (.inr (.inl ⟨rfl, rfl⟩))))
theorem isTurn : IsT 66 8 := .inr (.inr (.inr (.inr (.inr (.inl ⟨rfl, rfl⟩)))))
theorem isRight : IsT 68 37 := .inr (.inr (.inr (.inr (.inr (.inr (.inl ⟨rfl, rfl⟩))))))
theorem isDuty : IsT 70 11 := .inr (.inr (.inr (.inr (.inr (.inr (.inr ⟨rfl, rfl⟩))))))

section
variable {N : Nat → Prop} {E E' : Int → Ex → Nat → Nat → Prop} {R R' : Int → Rf → Nat → Nat → Prop} {w w' : World} {f : Int → Ex → Ex} {g : Int → Rf → Rf}
theorem StrP.same {s : ByteArray} {b o : Nat} (h : StrP w s b o) (hp : w'.cell? ⟨b, o, none⟩ = w.cell? ⟨b, o, none⟩) : StrP w' s b o := ⟨h.1, hp.trans h.2⟩
theorem PSrc.map {L : Lay} {x : Src} (h : PSrc N E R w L x) (ht : ∀ b t, (N b ∨ b = L.s) → Ty w b t → Ty w' b t) (hp : ∀ b o, (N b ∨ b = L.s) → PPos w b o → w'.cell? ⟨b, o, none⟩ = w.cell? ⟨b, o, none⟩)
    (he : ∀ lt e b o, (N b ∨ b = L.s) → EPos w b o → E lt e b o → E' lt (f lt e) b o) (hr : ∀ to r b o, (N b ∨ b = L.s) → RPos w b o → R to r b o → R' to (g to r) b o) : PSrc N E' R' w' L (x.mp f g) := by
  have P0 : ∀ o, cls 35 o = 0 → w'.cell? ⟨L.s, o, none⟩ = w.cell? ⟨L.s, o, none⟩ := fun o ho => hp _ _ (.inr rfl) ⟨_, h.ty, ho⟩
  have E0 : ∀ lt e o, (∀ j, j < 6 → cls 35 (o + j) = 1 ∧ eoff 35 (o + j) = j) → E lt e L.s o → E' lt (f lt e) L.s o := fun lt e o ho => he lt e _ _ (.inr rfl) ⟨_, h.ty, ho⟩
  refine ⟨ht _ _ (.inr rfl) h.ty, h.name.same (P0 0 rfl), E0 _ _ _ (by decide) h.season, E0 _ _ _ (by decide) h.cap, E0 _ _ _ (by decide) h.start, (P0 _ rfl).trans h.hlets, (P0 _ rfl).trans h.hcrops, (P0 _ rfl).trans h.hreaches, (P0 _ rfl).trans h.hfarms, (P0 _ rfl).trans h.hrots, (P0 _ rfl).trans h.hrights, (P0 _ rfl).trans h.hduties, ?_, ?_, ?_, ?_, ?_, ?_, ?_⟩
  · refine h.lets.map (fun b hb => ht b _ (.inl hb)) fun i b d hb ty ⟨h1, h2⟩ => ?_
    exact ⟨h1.same (hp _ _ (.inl hb) (ppos_row0 ty isLet i rfl)), he _ _ _ _ (.inl hb) (epos_row ty isLet i 1 (by decide)) h2⟩
  · refine h.crops.map (fun b hb => ht b _ (.inl hb)) fun i b d hb ty ⟨h1, h2⟩ => ?_
    exact ⟨h1.same (hp _ _ (.inl hb) (ppos_row0 ty isCrop i rfl)), he _ _ _ _ (.inl hb) (epos_row ty isCrop i 1 (by decide)) h2⟩
  · refine h.reaches.map (fun b hb => ht b _ (.inl hb)) fun i b d hb ty ⟨h1, h2, k0, k1, k2, k3, k4, k5, k6, k7⟩ => ?_
    exact ⟨h1.same (hp _ _ (.inl hb) (ppos_row0 ty isReach i rfl)), hr _ _ _ _ (.inl hb) (rpos_row ty isReach i 1 rfl rfl) h2,
      he _ _ _ _ (.inl hb) (epos_row ty isReach i 3 (by decide)) k0, he _ _ _ _ (.inl hb) (epos_row ty isReach i 9 (by decide)) k1, he _ _ _ _ (.inl hb) (epos_row ty isReach i 15 (by decide)) k2, he _ _ _ _ (.inl hb) (epos_row ty isReach i 21 (by decide)) k3,
      he _ _ _ _ (.inl hb) (epos_row ty isReach i 27 (by decide)) k4, he _ _ _ _ (.inl hb) (epos_row ty isReach i 33 (by decide)) k5, he _ _ _ _ (.inl hb) (epos_row ty isReach i 39 (by decide)) k6, he _ _ _ _ (.inl hb) (epos_row ty isReach i 45 (by decide)) k7⟩
  · refine h.farms.map (fun b hb => ht b _ (.inl hb)) fun i b d hb ty ⟨h1, h2, h3, h4, h5⟩ => ?_
    exact ⟨h1.same (hp _ _ (.inl hb) (ppos_row0 ty isFarm i rfl)), hr _ _ _ _ (.inl hb) (rpos_row ty isFarm i 1 rfl rfl) h2, (hp _ _ (.inl hb) (ppos_row ty isFarm i 3 rfl)).trans h3,
      he _ _ _ _ (.inl hb) (epos_row ty isFarm i 4 (by decide)) h4, hr _ _ _ _ (.inl hb) (rpos_row ty isFarm i 10 rfl rfl) h5⟩
  · refine h.rots.map (fun b hb => ht b _ (.inl hb)) fun i b d hb ty ⟨h1, h2, h3, k0, k1, k2, h4, h5⟩ => ?_
    refine ⟨h1.same (hp _ _ (.inl hb) (ppos_row0 ty isRot i rfl)), hr _ _ _ _ (.inl hb) (rpos_row ty isRot i 1 rfl rfl) h2, (hp _ _ (.inl hb) (ppos_row ty isRot i 3 rfl)).trans h3,
      he _ _ _ _ (.inl hb) (epos_row ty isRot i 4 (by decide)) k0, he _ _ _ _ (.inl hb) (epos_row ty isRot i 10 (by decide)) k1, he _ _ _ _ (.inl hb) (epos_row ty isRot i 16 (by decide)) k2, (hp _ _ (.inl hb) (ppos_row ty isRot i 22 rfl)).trans h4, ?_⟩
    refine h5.map (fun b hb => ht b _ (.inl hb)) fun i b d hb ty ⟨h1, h2⟩ => ?_
    exact ⟨hr _ _ _ _ (.inl hb) (rpos_row0 ty isTurn i rfl rfl) h1, he _ _ _ _ (.inl hb) (epos_row ty isTurn i 2 (by decide)) h2⟩
  · refine h.rights.map (fun b hb => ht b _ (.inl hb)) fun i b d hb ty ⟨h0, h1, h2, h3, h4, k0, k1, k2, k3, k4⟩ => ?_
    exact ⟨(hp _ _ (.inl hb) (ppos_row0 ty isRight i rfl)).trans h0, h1.same (hp _ _ (.inl hb) (ppos_row ty isRight i 1 rfl)), hr _ _ _ _ (.inl hb) (rpos_row ty isRight i 2 rfl rfl) h2, hr _ _ _ _ (.inl hb) (rpos_row ty isRight i 4 rfl rfl) h3,
      (hp _ _ (.inl hb) (ppos_row ty isRight i 6 rfl)).trans h4, he _ _ _ _ (.inl hb) (epos_row ty isRight i 7 (by decide)) k0, he _ _ _ _ (.inl hb) (epos_row ty isRight i 13 (by decide)) k1, he _ _ _ _ (.inl hb) (epos_row ty isRight i 19 (by decide)) k2, he _ _ _ _ (.inl hb) (epos_row ty isRight i 25 (by decide)) k3, he _ _ _ _ (.inl hb) (epos_row ty isRight i 31 (by decide)) k4⟩
  · refine h.duties.map (fun b hb => ht b _ (.inl hb)) fun i b d hb ty ⟨h1, h2, h3, h4⟩ => ?_
    exact ⟨h1.same (hp _ _ (.inl hb) (ppos_row0 ty isDuty i rfl)), hr _ _ _ _ (.inl hb) (rpos_row ty isDuty i 1 rfl rfl) h2, hr _ _ _ _ (.inl hb) (rpos_row ty isDuty i 3 rfl rfl) h3, he _ _ _ _ (.inl hb) (epos_row ty isDuty i 5 (by decide)) h4⟩
end

end Go.Proofs.Ytapejaabhkfhjaa

/- Sources piece by piece: their expressions in the order of the iterator; back to whole rows. -/
namespace Go.Proofs.Ytapejaabhkfhjaa
open Go.RowKit

/- an expression that the iterator hands on -/
def AtE (N : Nat → Prop) (E : Int → Ex → Nat → Nat → Prop) (w : World) (a : Array Value) (e : ExI) : Prop := ∃ b o, a = #[.pointer (some ⟨b, o, none⟩), .int .i64 e.2] ∧ N b ∧ EPos w b o ∧ E e.2 e.1 b o
section
variable {N : Nat → Prop} {E : Int → Ex → Nat → Nat → Prop} {R : Int → Rf → Nat → Nat → Prop} {w : World}
theorem atE_mk {h : Hdr} {g sz i off t : Nat} {e : Ex} {lt : Int} (hg : h.a = some ⟨g, 0, none⟩) (hN : N g) (ty : Ty w g t) (hr : IsT t sz) (h1 : ∀ j, j < 6 → cls t (off + j) = 1 ∧ eoff t (off + j) = j) (he : E lt e g (i * sz + off)) : AtE N E w #[h.ptr sz i off, .int .i64 lt] (e, lt) :=
  ⟨g, i * sz + off, by unfold Hdr.ptr; rw [hat_of hg, Nat.zero_add], hN, epos_row ty hr i off h1, he⟩
theorem PSrc.all2 {L : Lay} {x : Src} (h : PSrc N E R w L x) (hs : N L.s) : All2 (AtE N E w) (exprX L) (allE x) := by
  refine All2.append ?_ (All2.append ?_ (All2.append ?_ (All2.append ?_ (All2.append ?_ (All2.append ?_ (All2.append ?_ ?_))))))
  · exact ⟨⟨L.s, 1, rfl, hs, ⟨_, h.ty, by decide⟩, h.season⟩, ⟨L.s, 7, rfl, hs, ⟨_, h.ty, by decide⟩, h.cap⟩, ⟨L.s, 13, rfl, hs, ⟨_, h.ty, by decide⟩, h.start⟩, trivial⟩
  · obtain ⟨h1, h2, h3⟩ := h.lets
    refine all2_range _ (fun i (d : LetD) => [(d.value, 1 + (i : Int))]) x.lets _ h1 fun i hi => ?_
    obtain ⟨g, g1, g0, ty, g2, g3⟩ := h3 i hi
    exact ⟨atE_mk g1 g0 ty isLet (by decide) g3, trivial⟩
  · obtain ⟨h1, h2, h3⟩ := h.crops
    refine all2_range _ (fun i (d : CropD) => [(d.need, 0)]) x.crops _ h1 fun i hi => ?_
    obtain ⟨g, g1, g0, ty, g2, g3⟩ := h3 i hi
    exact ⟨atE_mk g1 g0 ty isCrop (by decide) g3, trivial⟩
  · obtain ⟨h1, h2, h3⟩ := h.reaches
    refine all2_range _ (fun i (d : ReachD) => [(d.delay, 0), (d.cap, 0), (d.bank, 0), (d.siphon, 0), (d.evap0, 0), (d.evap1, 0), (d.seep0, 0), (d.seep1, 0)]) x.reaches _ h1 fun i hi => ?_
    obtain ⟨g, g1, g0, ty, g2, g3, k0, k1, k2, k3, k4, k5, k6, k7⟩ := h3 i hi
    exact ⟨atE_mk g1 g0 ty isReach (by decide) k0, atE_mk g1 g0 ty isReach (by decide) k1, atE_mk g1 g0 ty isReach (by decide) k2, atE_mk g1 g0 ty isReach (by decide) k3, atE_mk g1 g0 ty isReach (by decide) k4, atE_mk g1 g0 ty isReach (by decide) k5, atE_mk g1 g0 ty isReach (by decide) k6, atE_mk g1 g0 ty isReach (by decide) k7, trivial⟩
  · obtain ⟨h1, h2, h3⟩ := h.farms
    refine all2_range _ (fun i (d : FarmD) => [(d.area, 0)]) x.farms _ h1 fun i hi => ?_
    obtain ⟨g, g1, g0, ty, _, _, _, k0, _⟩ := h3 i hi
    exact ⟨atE_mk g1 g0 ty isFarm (by decide) k0, trivial⟩
  · obtain ⟨h1, h2, h3⟩ := h.rots
    refine all2_range _ (fun i (d : RotD) => [(d.flow, 0), (d.frm, 0), (d.to, 0)] ++ turnsE d.turns) x.rots _ h1 fun i hi => ?_
    obtain ⟨g, g1, g0, ty, _, _, _, k0, k1, k2, _, hl, hc, ht⟩ := h3 i hi
    refine All2.append ⟨atE_mk g1 g0 ty isRot (by decide) k0, atE_mk g1 g0 ty isRot (by decide) k1, atE_mk g1 g0 ty isRot (by decide) k2, trivial⟩ ?_
    refine all2_range _ (fun k (d : TurnD) => [(d.len, 0)]) (x.rots[i]).turns _ hl fun k hk => ?_
    obtain ⟨g, g1, g0, ty, _, k0⟩ := ht k hk
    exact ⟨atE_mk g1 g0 ty isTurn (by decide) k0, trivial⟩
  · obtain ⟨h1, h2, h3⟩ := h.rights
    refine all2_range _ (fun i (d : RightD) => [(d.flow, 0), (d.frm, 0), (d.to, 0), (d.every, 0), (d.len, 0)]) x.rights _ h1 fun i hi => ?_
    obtain ⟨g, g1, g0, ty, _, _, _, _, _, k0, k1, k2, k3, k4⟩ := h3 i hi
    exact ⟨atE_mk g1 g0 ty isRight (by decide) k0, atE_mk g1 g0 ty isRight (by decide) k1, atE_mk g1 g0 ty isRight (by decide) k2, atE_mk g1 g0 ty isRight (by decide) k3, atE_mk g1 g0 ty isRight (by decide) k4, trivial⟩
  · obtain ⟨h1, h2, h3⟩ := h.duties
    refine all2_range _ (fun i (d : DutyD) => [(d.due, 0)]) x.duties _ h1 fun i hi => ?_
    obtain ⟨g, g1, g0, ty, _, _, _, k0⟩ := h3 i hi
    exact ⟨atE_mk g1 g0 ty isDuty (by decide) k0, trivial⟩
end

/- the plain reading of an expression and of a reference -/
def EV (N : Nat → Prop) (w : World) (_ : Int) (e : Ex) (b o : Nat) : Prop := ∃ c, w.rangeAt b o c ∧ ExV N w e c
def RV (w : World) (_ : Int) (r : Rf) (b o : Nat) : Prop := r.name.size ≤ maxLen ∧ w.cell? ⟨b, o, none⟩ = some (.string r.name) ∧ w.cell? ⟨b, o + 1, none⟩ = some (.int .i64 r.n)
theorem range_cons {w : World} {b o : Nat} {v : Value} {l : List Value} (h : w.cell? ⟨b, o, none⟩ = some v) (hl : w.rangeAt b (o + 1) l) : w.rangeAt b o (v :: l) := fun j u hu => by
  cases j with
  | zero => simp at hu; subst hu; exact h
  | succ j => have := hl j u (by simpa using hu); rw [show o + (j + 1) = o + 1 + j by omega]; exact this
theorem range_append {w : World} {b o : Nat} {l m : List Value} (h : w.rangeAt b o l) (hm : w.rangeAt b (o + l.length) m) : w.rangeAt b o (l ++ m) := fun j u hu => by
  rcases Nat.lt_or_ge j l.length with hj | hj
  · rw [List.getElem?_append_left hj] at hu; exact h j u hu
  · rw [List.getElem?_append_right hj] at hu
    have := hm (j - l.length) u hu
    rw [show o + l.length + (j - l.length) = o + j by omega] at this; exact this
theorem range_nil (w : World) (b o : Nat) : w.rangeAt b o [] := fun j u hu => by simp at hu
theorem range_one {w : World} {b o : Nat} {v : Value} (h : w.cell? ⟨b, o, none⟩ = some v) : w.rangeAt b o [v] := range_cons h (range_nil _ _ _)
theorem range_ref {w : World} {to : Int} {r : Rf} {b o : Nat} (h : RV w to r b o) : w.rangeAt b o (rfV r) := range_cons h.2.1 (range_one h.2.2)
theorem range_exp {w : World} {b o : Nat} {c l : List Value} (hc : c.length = 6) (h : w.rangeAt b o c) (hl : w.rangeAt b (o + 6) l) : w.rangeAt b o (c ++ l) := range_append h (by rw [hc]; exact hl)
theorem range_rf {w : World} {to : Int} {r : Rf} {b o : Nat} {l : List Value} (h : RV w to r b o) (hl : w.rangeAt b (o + 2) l) : w.rangeAt b o (rfV r ++ l) := range_append (range_ref h) hl

theorem RowsP.isRow {α : Type} {N : Nat → Prop} {w : World} {t sz : Nat} {P : Nat → Nat → Nat → α → Prop} {h : Hdr} {l : List α} {Q : List Value → α → Prop} (hr : RowsP N w t sz P h l) (hq : ∀ i g d, P i g (i * sz) d → ∃ cs, cs.length = sz ∧ w.rangeAt g (i * sz) cs ∧ Q cs d) : IsRow N w sz Q h l := by
  obtain ⟨h1, h2, h3⟩ := hr
  refine ⟨h1, h2, fun i hi => ?_⟩
  obtain ⟨g, g1, g0, ty, g2⟩ := h3 i hi
  obtain ⟨cs, q1, q2, q3⟩ := hq i g _ g2
  exact ⟨g, 0, cs, g1, g0, q1, by rw [Nat.zero_add]; exact q2, q3⟩
/- a source piece by piece is a source in whole rows -/
theorem PSrc.srcV {N : Nat → Prop} {w : World} {L : Lay} {x : Src} (h : PSrc N (EV N w) (RV w) w L x) : ∃ cs, cs.length = 26 ∧ w.rangeAt L.s 0 cs ∧ SrcV N w L cs x := by
  obtain ⟨c0, r0, v0⟩ := h.season
  obtain ⟨c1, r1, v1⟩ := h.cap
  obtain ⟨c2, r2, v2⟩ := h.start
  have l0 := v0.len; have l1 := v1.len; have l2 := v2.len
  refine ⟨.string x.name :: (c0 ++ (c1 ++ (c2 ++ [L.lets.v, L.crops.v, L.reaches.v, L.farms.v, L.rots.v, L.rights.v, L.duties.v]))), by simp [l0, l1, l2], ?_, ?_⟩
  · exact range_cons h.name.2 (range_exp l0 r0 (range_exp l1 r1 (range_exp l2 r2 (range_cons h.hlets (range_cons h.hcrops (range_cons h.hreaches (range_cons h.hfarms (range_cons h.hrots (range_cons h.hrights (range_one h.hduties))))))))))
  refine ⟨h.name.1, ⟨c0, c1, c2, rfl, v0, v1, v2⟩, ?_, ?_, ?_, ?_, ?_, ?_, ?_⟩
  · refine h.lets.isRow fun i g d ⟨h1, c0, r0, v0⟩ => ?_
    have l0 := v0.len
    exact ⟨.string d.name :: c0, by simp [l0], range_cons h1.2 r0, h1.1, c0, rfl, v0⟩
  · refine h.crops.isRow fun i g d ⟨h1, c0, r0, v0⟩ => ?_
    have l0 := v0.len
    exact ⟨.string d.name :: c0, by simp [l0], range_cons h1.2 r0, h1.1, c0, rfl, v0⟩
  · refine h.reaches.isRow fun i g d ⟨h1, hf, ⟨c0, r0, v0⟩, ⟨c1, r1, v1⟩, ⟨c2, r2, v2⟩, ⟨c3, r3, v3⟩, ⟨c4, r4, v4⟩, ⟨c5, r5, v5⟩, ⟨c6, r6, v6⟩, ⟨c7, r7, v7⟩⟩ => ?_
    have l0 := v0.len; have l1 := v1.len; have l2 := v2.len; have l3 := v3.len; have l4 := v4.len; have l5 := v5.len; have l6 := v6.len; have l7 := v7.len
    exact ⟨.string d.name :: (rfV d.frm ++ (c0 ++ (c1 ++ (c2 ++ (c3 ++ (c4 ++ (c5 ++ (c6 ++ c7)))))))), by simp [rfV_len, l0, l1, l2, l3, l4, l5, l6, l7],
      range_cons h1.2 (range_rf hf (range_exp l0 r0 (range_exp l1 r1 (range_exp l2 r2 (range_exp l3 r3 (range_exp l4 r4 (range_exp l5 r5 (range_exp l6 r6 r7)))))))), h1.1, hf.1, c0, c1, c2, c3, c4, c5, c6, c7, rfl, v0, v1, v2, v3, v4, v5, v6, v7⟩
  · refine h.farms.isRow fun i g d ⟨h1, hf, hv, ⟨c0, r0, v0⟩, hc⟩ => ?_
    have l0 := v0.len
    exact ⟨.string d.name :: (rfV d.on ++ (.bool d.river :: (c0 ++ rfV d.crop))), by simp [rfV_len, l0], range_cons h1.2 (range_rf hf (range_cons hv (range_exp l0 r0 (range_ref hc)))), h1.1, hf.1, hc.1, c0, rfl, v0⟩
  · obtain ⟨h1, h2, h3⟩ := h.rots
    refine ⟨h1, h2, fun i hi => ?_⟩
    obtain ⟨g, g1, g0, ty, k1, hf, hv, ⟨c0, r0, v0⟩, ⟨c1, r1, v1⟩, ⟨c2, r2, v2⟩, hh, ht⟩ := h3 i hi
    have l0 := v0.len; have l1 := v1.len; have l2 := v2.len
    refine ⟨g, 0, .string (x.rots[i]).name :: (rfV (x.rots[i]).on ++ (.int .i64 (x.rots[i]).rank :: (c0 ++ (c1 ++ (c2 ++ [(turnsOf L i).v]))))), g1, g0, by simp [rfV_len, l0, l1, l2], ?_, k1.1, hf.1, c0, c1, c2, rfl, v0, v1, v2, ?_⟩
    · rw [Nat.zero_add]
      exact range_cons k1.2 (range_rf hf (range_cons hv (range_exp l0 r0 (range_exp l1 r1 (range_exp l2 r2 (range_one hh))))))
    · refine ht.isRow fun i g d ⟨hf, c0, r0, v0⟩ => ?_
      have l0 := v0.len
      exact ⟨rfV d.farm ++ c0, by simp [rfV_len, l0], range_rf hf r0, hf.1, c0, rfl, v0⟩
  · refine h.rights.isRow fun i g d ⟨h0, h1, hf, hc, hv, ⟨c0, r0, v0⟩, ⟨c1, r1, v1⟩, ⟨c2, r2, v2⟩, ⟨c3, r3, v3⟩, ⟨c4, r4, v4⟩⟩ => ?_
    have l0 := v0.len; have l1 := v1.len; have l2 := v2.len; have l3 := v3.len; have l4 := v4.len
    exact ⟨.int .i64 d.kind :: .string d.name :: (rfV d.farm ++ (rfV d.reach ++ (.int .i64 d.rank :: (c0 ++ (c1 ++ (c2 ++ (c3 ++ c4))))))), by simp [rfV_len, l0, l1, l2, l3, l4],
      range_cons h0 (range_cons h1.2 (range_rf hf (range_rf hc (range_cons hv (range_exp l0 r0 (range_exp l1 r1 (range_exp l2 r2 (range_exp l3 r3 r4)))))))), h1.1, hf.1, hc.1, c0, c1, c2, c3, c4, rfl, v0, v1, v2, v3, v4⟩
  · refine h.duties.isRow fun i g d ⟨h1, hf, hc, ⟨c0, r0, v0⟩⟩ => ?_
    have l0 := v0.len
    exact ⟨.string d.name :: (rfV d.farm ++ (rfV d.reach ++ c0)), by simp [rfV_len, l0], range_cons h1.2 (range_rf hf (range_rf hc r0)), h1.1, hf.1, hc.1, c0, rfl, v0⟩

end Go.Proofs.Ytapejaabhkfhjaa

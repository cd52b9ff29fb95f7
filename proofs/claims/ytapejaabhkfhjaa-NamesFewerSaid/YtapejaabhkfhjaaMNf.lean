/- Texts Nf Ng Nh in one: each says what it proves. -/
import Derived.Test.YtapejaabhkfhjaaMNc
import Derived.Test.YtapejaabhkfhjaaMNe
/- Sources as plain data, and how they lie in memory: declarations. -/
namespace Go.Proofs.Ytapejaabhkfhjaa
open Go.RowKit

structure Rf where
  name : ByteArray
  n : Int
structure LetD where
  name : ByteArray
  value : Ex
structure CropD where
  name : ByteArray
  need : Ex
structure ReachD where
  name : ByteArray
  frm : Rf
  delay : Ex
  cap : Ex
  bank : Ex
  siphon : Ex
  evap0 : Ex
  evap1 : Ex
  seep0 : Ex
  seep1 : Ex
structure FarmD where
  name : ByteArray
  on : Rf
  river : Bool
  area : Ex
  crop : Rf
structure TurnD where
  farm : Rf
  len : Ex
structure RotD where
  name : ByteArray
  on : Rf
  rank : Int
  flow : Ex
  frm : Ex
  to : Ex
  turns : List TurnD
structure RightD where
  kind : Int
  name : ByteArray
  farm : Rf
  reach : Rf
  rank : Int
  flow : Ex
  frm : Ex
  to : Ex
  every : Ex
  len : Ex
structure DutyD where
  name : ByteArray
  farm : Rf
  reach : Rf
  due : Ex
structure Src where
  name : ByteArray
  season : Ex
  cap : Ex
  start : Ex
  lets : List LetD
  crops : List CropD
  reaches : List ReachD
  farms : List FarmD
  rots : List RotD
  rights : List RightD
  duties : List DutyD

/- a list that lies in a row of elements of sz cells -/
def IsRow {α : Type} (N : Nat → Prop) (w : World) (sz : Nat) (P : List Value → α → Prop) (h : Hdr) (l : List α) : Prop :=
  h.n = l.length ∧ l.length ≤ 140737488355328 ∧ ∀ i (hi : i < l.length), ∃ b o cs, h.a = some ⟨b, o, none⟩ ∧ N b ∧ cs.length = sz ∧ w.rangeAt b (o + i * sz) cs ∧ P cs l[i]
def rfV (r : Rf) : List Value := [.string r.name, .int .i64 r.n]
section
variable (N : Nat → Prop) (w : World)
def LetV (cs : List Value) (d : LetD) : Prop := d.name.size ≤ maxLen ∧ ∃ c, cs = .string d.name :: c ∧ ExV N w d.value c
def CropV (cs : List Value) (d : CropD) : Prop := d.name.size ≤ maxLen ∧ ∃ c, cs = .string d.name :: c ∧ ExV N w d.need c
def ReachV (cs : List Value) (d : ReachD) : Prop := d.name.size ≤ maxLen ∧ d.frm.name.size ≤ maxLen ∧ ∃ c0 c1 c2 c3 c4 c5 c6 c7, cs = .string d.name :: (rfV d.frm ++ (c0 ++ (c1 ++ (c2 ++ (c3 ++ (c4 ++ (c5 ++ (c6 ++ c7)))))))) ∧
  ExV N w d.delay c0 ∧ ExV N w d.cap c1 ∧ ExV N w d.bank c2 ∧ ExV N w d.siphon c3 ∧ ExV N w d.evap0 c4 ∧ ExV N w d.evap1 c5 ∧ ExV N w d.seep0 c6 ∧ ExV N w d.seep1 c7
def FarmV (cs : List Value) (d : FarmD) : Prop := d.name.size ≤ maxLen ∧ d.on.name.size ≤ maxLen ∧ d.crop.name.size ≤ maxLen ∧ ∃ c, cs = .string d.name :: (rfV d.on ++ (.bool d.river :: (c ++ rfV d.crop))) ∧ ExV N w d.area c
def TurnV (cs : List Value) (d : TurnD) : Prop := d.farm.name.size ≤ maxLen ∧ ∃ c, cs = rfV d.farm ++ c ∧ ExV N w d.len c
def RotV (h : Hdr) (cs : List Value) (d : RotD) : Prop := d.name.size ≤ maxLen ∧ d.on.name.size ≤ maxLen ∧ ∃ c0 c1 c2, cs = .string d.name :: (rfV d.on ++ (.int .i64 d.rank :: (c0 ++ (c1 ++ (c2 ++ [h.v]))))) ∧
  ExV N w d.flow c0 ∧ ExV N w d.frm c1 ∧ ExV N w d.to c2 ∧ IsRow N w 8 (TurnV N w) h d.turns
def RightV (cs : List Value) (d : RightD) : Prop := d.name.size ≤ maxLen ∧ d.farm.name.size ≤ maxLen ∧ d.reach.name.size ≤ maxLen ∧ ∃ c0 c1 c2 c3 c4, cs = .int .i64 d.kind :: .string d.name :: (rfV d.farm ++ (rfV d.reach ++ (.int .i64 d.rank :: (c0 ++ (c1 ++ (c2 ++ (c3 ++ c4))))))) ∧
  ExV N w d.flow c0 ∧ ExV N w d.frm c1 ∧ ExV N w d.to c2 ∧ ExV N w d.every c3 ∧ ExV N w d.len c4
def DutyV (cs : List Value) (d : DutyD) : Prop := d.name.size ≤ maxLen ∧ d.farm.name.size ≤ maxLen ∧ d.reach.name.size ≤ maxLen ∧ ∃ c, cs = .string d.name :: (rfV d.farm ++ (rfV d.reach ++ c)) ∧ ExV N w d.due c
/- a source's 26 cells; L: where its lists lie (L.s is not looked at) -/
structure SrcV (L : Lay) (cs : List Value) (x : Src) : Prop where
  name : x.name.size ≤ maxLen
  cells : ∃ c0 c1 c2, cs = .string x.name :: (c0 ++ (c1 ++ (c2 ++ [L.lets.v, L.crops.v, L.reaches.v, L.farms.v, L.rots.v, L.rights.v, L.duties.v]))) ∧ ExV N w x.season c0 ∧ ExV N w x.cap c1 ∧ ExV N w x.start c2
  lets : IsRow N w 7 (LetV N w) L.lets x.lets
  crops : IsRow N w 7 (CropV N w) L.crops x.crops
  reaches : IsRow N w 51 (ReachV N w) L.reaches x.reaches
  farms : IsRow N w 12 (FarmV N w) L.farms x.farms
  rots : L.rots.n = x.rots.length ∧ x.rots.length ≤ 140737488355328 ∧ ∀ i (hi : i < x.rots.length), ∃ b o cs, L.rots.a = some ⟨b, o, none⟩ ∧ N b ∧ cs.length = 23 ∧ w.rangeAt b (o + i * 23) cs ∧ RotV N w (turnsOf L i) cs x.rots[i]
  rights : IsRow N w 37 (RightV N w) L.rights x.rights
  duties : IsRow N w 11 (DutyV N w) L.duties x.duties
end

section
variable {N N' : Nat → Prop} {w w' : World}
theorem IsRow.same {α : Type} {sz : Nat} {P P' : List Value → α → Prop} {h : Hdr} {l : List α} (hn : ∀ b, N b → N' b) (hb : ∀ b, N b → w'.heap[b]? = w.heap[b]?) (hp : ∀ cs d, P cs d → P' cs d) (hr : IsRow N w sz P h l) : IsRow N' w' sz P' h l := by
  obtain ⟨h1, h2, h3⟩ := hr
  refine ⟨h1, h2, fun i hi => ?_⟩
  obtain ⟨b, o, cs, g1, g2, g3, g4, g5⟩ := h3 i hi
  exact ⟨b, o, cs, g1, hn b g2, g3, rangeAt_block g4 (hb b g2), hp _ _ g5⟩
theorem IsRow.ok {α : Type} {sz : Nat} {P : List Value → α → Prop} {h : Hdr} {l : List α} (hr : IsRow N w sz P h l) : h.ok := by
  obtain ⟨h1, h2, h3⟩ := hr
  refine ⟨by omega, fun hp => ?_⟩
  obtain ⟨b, o, _, g1, _⟩ := h3 0 (by omega)
  exact ⟨b, o, g1⟩
theorem LetV.same (hn : ∀ b, N b → N' b) (hb : ∀ b, N b → w'.heap[b]? = w.heap[b]?) {cs : List Value} {d : LetD} (h : LetV N w cs d) : LetV N' w' cs d := by
  obtain ⟨h1, c, h2, h3⟩ := h
  exact ⟨h1, c, h2, h3.same hn hb⟩
theorem CropV.same (hn : ∀ b, N b → N' b) (hb : ∀ b, N b → w'.heap[b]? = w.heap[b]?) {cs : List Value} {d : CropD} (h : CropV N w cs d) : CropV N' w' cs d := by
  obtain ⟨h1, c, h2, h3⟩ := h
  exact ⟨h1, c, h2, h3.same hn hb⟩
theorem ReachV.same (hn : ∀ b, N b → N' b) (hb : ∀ b, N b → w'.heap[b]? = w.heap[b]?) {cs : List Value} {d : ReachD} (h : ReachV N w cs d) : ReachV N' w' cs d := by
  obtain ⟨h1, h2, c0, c1, c2, c3, c4, c5, c6, c7, h3, g0, g1, g2, g3, g4, g5, g6, g7⟩ := h
  exact ⟨h1, h2, c0, c1, c2, c3, c4, c5, c6, c7, h3, g0.same hn hb, g1.same hn hb, g2.same hn hb, g3.same hn hb, g4.same hn hb, g5.same hn hb, g6.same hn hb, g7.same hn hb⟩
theorem FarmV.same (hn : ∀ b, N b → N' b) (hb : ∀ b, N b → w'.heap[b]? = w.heap[b]?) {cs : List Value} {d : FarmD} (h : FarmV N w cs d) : FarmV N' w' cs d := by
  obtain ⟨h1, h2, h3, c, h4, g⟩ := h
  exact ⟨h1, h2, h3, c, h4, g.same hn hb⟩
theorem TurnV.same (hn : ∀ b, N b → N' b) (hb : ∀ b, N b → w'.heap[b]? = w.heap[b]?) {cs : List Value} {d : TurnD} (h : TurnV N w cs d) : TurnV N' w' cs d := by
  obtain ⟨h1, c, h2, g⟩ := h
  exact ⟨h1, c, h2, g.same hn hb⟩
theorem RotV.same (hn : ∀ b, N b → N' b) (hb : ∀ b, N b → w'.heap[b]? = w.heap[b]?) {t : Hdr} {cs : List Value} {d : RotD} (h : RotV N w t cs d) : RotV N' w' t cs d := by
  obtain ⟨h1, h2, c0, c1, c2, h3, g0, g1, g2, g3⟩ := h
  exact ⟨h1, h2, c0, c1, c2, h3, g0.same hn hb, g1.same hn hb, g2.same hn hb, g3.same hn hb (fun _ _ h => h.same hn hb)⟩
theorem RightV.same (hn : ∀ b, N b → N' b) (hb : ∀ b, N b → w'.heap[b]? = w.heap[b]?) {cs : List Value} {d : RightD} (h : RightV N w cs d) : RightV N' w' cs d := by
  obtain ⟨h1, h2, h3, c0, c1, c2, c3, c4, h4, g0, g1, g2, g3, g4⟩ := h
  exact ⟨h1, h2, h3, c0, c1, c2, c3, c4, h4, g0.same hn hb, g1.same hn hb, g2.same hn hb, g3.same hn hb, g4.same hn hb⟩
theorem DutyV.same (hn : ∀ b, N b → N' b) (hb : ∀ b, N b → w'.heap[b]? = w.heap[b]?) {cs : List Value} {d : DutyD} (h : DutyV N w cs d) : DutyV N' w' cs d := by
  obtain ⟨h1, h2, h3, c, h4, g⟩ := h
  exact ⟨h1, h2, h3, c, h4, g.same hn hb⟩
theorem SrcV.same (hn : ∀ b, N b → N' b) (hb : ∀ b, N b → w'.heap[b]? = w.heap[b]?) {L : Lay} {cs : List Value} {x : Src} (h : SrcV N w L cs x) : SrcV N' w' L cs x := by
  refine ⟨h.name, ?_, h.lets.same hn hb (fun _ _ h => h.same hn hb), h.crops.same hn hb (fun _ _ h => h.same hn hb), h.reaches.same hn hb (fun _ _ h => h.same hn hb), h.farms.same hn hb (fun _ _ h => h.same hn hb), ?_, h.rights.same hn hb (fun _ _ h => h.same hn hb), h.duties.same hn hb (fun _ _ h => h.same hn hb)⟩
  · obtain ⟨c0, c1, c2, h1, g0, g1, g2⟩ := h.cells
    exact ⟨c0, c1, c2, h1, g0.same hn hb, g1.same hn hb, g2.same hn hb⟩
  · obtain ⟨h1, h2, h3⟩ := h.rots
    refine ⟨h1, h2, fun i hi => ?_⟩
    obtain ⟨b, o, cs, g1, g2, g3, g4, g5⟩ := h3 i hi
    exact ⟨b, o, cs, g1, hn b g2, g3, rangeAt_block g4 (hb b g2), g5.same hn hb⟩
theorem SrcV.ok {L : Lay} {cs : List Value} {x : Src} (h : SrcV N w L cs x) : L.Ok := by
  obtain ⟨h1, h2, h3⟩ := h.rots
  refine ⟨h.lets.ok, h.crops.ok, h.reaches.ok, h.farms.ok, ⟨by omega, fun hp => ?_⟩, h.rights.ok, h.duties.ok, fun i hi => ?_⟩
  · obtain ⟨b, o, _, g1, _⟩ := h3 0 (by omega)
    exact ⟨b, o, g1⟩
  · obtain ⟨_, _, _, _, _, _, _, g⟩ := h3 i (by omega)
    obtain ⟨_, _, _, _, _, _, _, _, _, g⟩ := g
    exact g.ok
end

end Go.Proofs.Ytapejaabhkfhjaa

/- The expressions of a source that lies in memory: what the iterator hands on. -/
namespace Go.Proofs.Ytapejaabhkfhjaa
open Go.RowKit

def All2 {α β : Type} (R : α → β → Prop) : List α → List β → Prop
  | [], [] => True
  | a :: l, b :: m => R a b ∧ All2 R l m
  | _, _ => False
section
variable {α β : Type} {R : α → β → Prop}
theorem All2.append : ∀ {l : List α} {m : List β} {l' : List α} {m' : List β}, All2 R l m → All2 R l' m' → All2 R (l ++ l') (m ++ m')
  | [], [], _, _, _, h => h
  | _ :: _, _ :: _, _, _, h, h' => ⟨h.1, h.2.append h'⟩
  | [], _ :: _, _, _, h, _ => h.elim
  | _ :: _, [], _, _, h, _ => h.elim
theorem All2.length : ∀ {l : List α} {m : List β}, All2 R l m → l.length = m.length
  | [], [], _ => rfl
  | _ :: _, _ :: _, h => by simp [h.2.length]
  | [], _ :: _, h => h.elim
  | _ :: _, [], h => h.elim
theorem All2.get : ∀ {l : List α} {m : List β}, All2 R l m → ∀ i (h : i < l.length) (h' : i < m.length), R l[i] m[i]
  | [], _, _, i, h, _ => by simp at h
  | _ :: _, _ :: _, h, 0, _, _ => h.1
  | _ :: _, _ :: _, h, i + 1, h1, h2 => h.2.get i (by simpa using h1) (by simpa using h2)
  | _ :: _, [], h, _, _, _ => h.elim
theorem All2.mono {R' : α → β → Prop} (hr : ∀ a b, R a b → R' a b) : ∀ {l : List α} {m : List β}, All2 R l m → All2 R' l m
  | [], [], h => h
  | _ :: _, _ :: _, h => ⟨hr _ _ h.1, h.2.mono hr⟩
  | [], _ :: _, h => h.elim
  | _ :: _, [], h => h.elim
theorem all2_from {γ : Type} (f : Nat → List α) (g : Nat → γ → List β) : ∀ (l : List γ) (k : Nat), (∀ i (h : i < l.length), All2 R (f (k + i)) (g (k + i) l[i])) → All2 R ((List.range' k l.length).flatMap f) ((l.zipIdx k).flatMap fun p => g p.2 p.1)
  | [], _, _ => by simp [All2]
  | x :: r, k, h => by
    rw [List.length_cons, List.range'_succ, List.flatMap_cons, List.zipIdx_cons, List.flatMap_cons]
    refine (h 0 (by simp)).append (all2_from f g r (k + 1) fun i hi => ?_)
    have := h (i + 1) (by simpa using hi)
    rw [show k + 1 + i = k + (i + 1) by omega]
    simpa using this
theorem all2_range {γ : Type} (f : Nat → List α) (g : Nat → γ → List β) (l : List γ) (n : Nat) (hn : n = l.length) (h : ∀ i (h : i < l.length), All2 R (f i) (g i l[i])) : All2 R ((List.range n).flatMap f) (l.zipIdx.flatMap fun p => g p.2 p.1) := by
  subst hn
  rw [List.range_eq_range']
  exact all2_from f g l 0 (fun i hi => by rw [Nat.zero_add]; exact h i hi)
end

/- the expressions of a source, in the order in which the iterator hands them on, each with 1 plus the index of the constant in whose value it is -/
abbrev ExI := Ex × Int
def letsE (l : List LetD) : List ExI := l.zipIdx.flatMap fun p => [(p.1.value, 1 + (p.2 : Int))]
def cropsE (l : List CropD) : List ExI := l.zipIdx.flatMap fun p => [(p.1.need, 0)]
def reachesE (l : List ReachD) : List ExI := l.zipIdx.flatMap fun p => [(p.1.delay, 0), (p.1.cap, 0), (p.1.bank, 0), (p.1.siphon, 0), (p.1.evap0, 0), (p.1.evap1, 0), (p.1.seep0, 0), (p.1.seep1, 0)]
def farmsE (l : List FarmD) : List ExI := l.zipIdx.flatMap fun p => [(p.1.area, 0)]
def turnsE (l : List TurnD) : List ExI := l.zipIdx.flatMap fun p => [(p.1.len, 0)]
def rotsE (l : List RotD) : List ExI := l.zipIdx.flatMap fun p => [(p.1.flow, 0), (p.1.frm, 0), (p.1.to, 0)] ++ turnsE p.1.turns
def rightsE (l : List RightD) : List ExI := l.zipIdx.flatMap fun p => [(p.1.flow, 0), (p.1.frm, 0), (p.1.to, 0), (p.1.every, 0), (p.1.len, 0)]
def dutiesE (l : List DutyD) : List ExI := l.zipIdx.flatMap fun p => [(p.1.due, 0)]
def allE (x : Src) : List ExI :=
  [(x.season, 0), (x.cap, 0), (x.start, 0)] ++ (letsE x.lets ++ (cropsE x.crops ++ (reachesE x.reaches ++ (farmsE x.farms ++ (rotsE x.rots ++ (rightsE x.rights ++ dutiesE x.duties))))))

/- a pointer to an expression -/
def PtE (N : Nat → Prop) (s : Nat) (w : World) (a : Array Value) (e : ExI) : Prop :=
  ∃ b o cs, a = #[.pointer (some ⟨b, o, none⟩), .int .i64 e.2] ∧ (b = s ∨ N b) ∧ w.rangeAt b o cs ∧ ExV N w e.1 cs
theorem range_mid {w : World} {b o : Nat} {p c q : List Value} (h : w.rangeAt b o (p ++ (c ++ q))) : w.rangeAt b (o + p.length) c := fun j v hv => by
  have hj := (List.getElem?_eq_some_iff.1 hv).1
  have := h (p.length + j) v (by rw [List.getElem?_append_right (by omega), Nat.add_sub_cancel_left, List.getElem?_append_left hj]; exact hv)
  rw [show o + p.length + j = o + (p.length + j) by omega]; exact this
theorem ExV.len {N : Nat → Prop} {w : World} {e : Ex} {c : List Value} (h : ExV N w e c) : c.length = 6 := by
  obtain ⟨a, cap, rfl, _⟩ := h.cells; rfl
theorem ptE_mk {N : Nat → Prop} {s : Nat} {w : World} {h : Hdr} {b o sz i off : Nat} {p c q : List Value} {e : Ex} (lt : Int) (hat : ∀ sz i off, h.at sz i off = ⟨b, o + i * sz + off, none⟩) (hb : b = s ∨ N b) {cs : List Value} (hr : w.rangeAt b (o + i * sz) cs) (hc : cs = p ++ (c ++ q)) (hp : p.length = off) (he : ExV N w e c) :
    PtE N s w #[h.ptr sz i off, .int .i64 lt] (e, lt) := by
  subst hc
  refine ⟨b, o + i * sz + off, c, ?_, hb, ?_, he⟩
  · unfold Hdr.ptr; rw [hat]
  · have := range_mid hr
    rw [hp] at this; exact this
theorem hat_of {h : Hdr} {b o : Nat} (ha : h.a = some ⟨b, o, none⟩) : ∀ sz i off, h.at sz i off = ⟨b, o + i * sz + off, none⟩ := fun sz i off => by unfold Hdr.at; rw [ha]
theorem rfV_len (r : Rf) : (rfV r).length = 2 := rfl

section
variable {N : Nat → Prop} {w : World} {L : Lay} {cs : List Value} {x : Src}
theorem exprs_all2 (h : SrcV N w L cs x) (hr : w.rangeAt L.s 0 cs) : All2 (PtE N L.s w) (exprX L) (allE x) := by
  refine All2.append ?_ (All2.append ?_ (All2.append ?_ (All2.append ?_ (All2.append ?_ (All2.append ?_ (All2.append ?_ ?_))))))
  · obtain ⟨c0, c1, c2, rfl, g0, g1, g2⟩ := h.cells
    have l0 := g0.len
    have l1 := g1.len
    refine ⟨⟨L.s, 1, c0, rfl, .inl rfl, ?_, g0⟩, ⟨L.s, 7, c1, rfl, .inl rfl, ?_, g1⟩, ⟨L.s, 13, c2, rfl, .inl rfl, ?_, g2⟩, trivial⟩
    · exact range_mid (p := [.string x.name]) (o := 0) hr
    · have := range_mid (p := .string x.name :: c0) (c := c1) (q := c2 ++ [L.lets.v, L.crops.v, L.reaches.v, L.farms.v, L.rots.v, L.rights.v, L.duties.v]) (o := 0) (b := L.s) (w := w) (by simpa using hr)
      simpa [l0] using this
    · have := range_mid (p := .string x.name :: (c0 ++ c1)) (c := c2) (q := [L.lets.v, L.crops.v, L.reaches.v, L.farms.v, L.rots.v, L.rights.v, L.duties.v]) (o := 0) (b := L.s) (w := w) (by simpa using hr)
      simpa [l0, l1] using this
  · obtain ⟨h1, h2, h3⟩ := h.lets
    refine all2_range _ (fun i (d : LetD) => [(d.value, 1 + (i : Int))]) x.lets _ h1 fun i hi => ?_
    obtain ⟨b, o, cs, g1, g2, g3, g4, _, c, rfl, g5⟩ := h3 i hi
    exact ⟨ptE_mk (p := [.string (x.lets[i]).name]) (q := []) _ (hat_of g1) (.inr g2) g4 (by simp) rfl g5, trivial⟩
  · obtain ⟨h1, h2, h3⟩ := h.crops
    refine all2_range _ (fun i (d : CropD) => [(d.need, 0)]) x.crops _ h1 fun i hi => ?_
    obtain ⟨b, o, cs, g1, g2, g3, g4, _, c, rfl, g5⟩ := h3 i hi
    exact ⟨ptE_mk (p := [.string (x.crops[i]).name]) (q := []) _ (hat_of g1) (.inr g2) g4 (by simp) rfl g5, trivial⟩
  · obtain ⟨h1, h2, h3⟩ := h.reaches
    refine all2_range _ (fun i (d : ReachD) => [(d.delay, 0), (d.cap, 0), (d.bank, 0), (d.siphon, 0), (d.evap0, 0), (d.evap1, 0), (d.seep0, 0), (d.seep1, 0)]) x.reaches _ h1 fun i hi => ?_
    obtain ⟨b, o, cs, g1, g2, g3, g4, _, _, c0, c1, c2, c3, c4, c5, c6, c7, rfl, k0, k1, k2, k3, k4, k5, k6, k7⟩ := h3 i hi
    generalize x.reaches[i] = d at *
    have l0 := k0.len; have l1 := k1.len; have l2 := k2.len; have l3 := k3.len; have l4 := k4.len; have l5 := k5.len; have l6 := k6.len
    refine ⟨?_, ?_, ?_, ?_, ?_, ?_, ?_, ?_, trivial⟩
    · exact ptE_mk (p := .string d.name :: rfV d.frm) _ (hat_of g1) (.inr g2) g4 (by simp; rfl) rfl k0
    · exact ptE_mk (p := .string d.name :: (rfV d.frm ++ c0)) _ (hat_of g1) (.inr g2) g4 (by simp; rfl) (by simp [rfV_len, l0]) k1
    · exact ptE_mk (p := .string d.name :: (rfV d.frm ++ (c0 ++ c1))) _ (hat_of g1) (.inr g2) g4 (by simp; rfl) (by simp [rfV_len, l0, l1]) k2
    · exact ptE_mk (p := .string d.name :: (rfV d.frm ++ (c0 ++ (c1 ++ c2)))) _ (hat_of g1) (.inr g2) g4 (by simp; rfl) (by simp [rfV_len, l0, l1, l2]) k3
    · exact ptE_mk (p := .string d.name :: (rfV d.frm ++ (c0 ++ (c1 ++ (c2 ++ c3))))) _ (hat_of g1) (.inr g2) g4 (by simp; rfl) (by simp [rfV_len, l0, l1, l2, l3]) k4
    · exact ptE_mk (p := .string d.name :: (rfV d.frm ++ (c0 ++ (c1 ++ (c2 ++ (c3 ++ c4)))))) _ (hat_of g1) (.inr g2) g4 (by simp; rfl) (by simp [rfV_len, l0, l1, l2, l3, l4]) k5
    · exact ptE_mk (p := .string d.name :: (rfV d.frm ++ (c0 ++ (c1 ++ (c2 ++ (c3 ++ (c4 ++ c5))))))) _ (hat_of g1) (.inr g2) g4 (by simp; rfl) (by simp [rfV_len, l0, l1, l2, l3, l4, l5]) k6
    · exact ptE_mk (p := .string d.name :: (rfV d.frm ++ (c0 ++ (c1 ++ (c2 ++ (c3 ++ (c4 ++ (c5 ++ c6)))))))) (q := []) _ (hat_of g1) (.inr g2) g4 (by simp) (by simp [rfV_len, l0, l1, l2, l3, l4, l5, l6]) k7
  · obtain ⟨h1, h2, h3⟩ := h.farms
    refine all2_range _ (fun i (d : FarmD) => [(d.area, 0)]) x.farms _ h1 fun i hi => ?_
    obtain ⟨b, o, cs, g1, g2, g3, g4, _, _, _, c, rfl, g5⟩ := h3 i hi
    generalize x.farms[i] = d at *
    exact ⟨ptE_mk (p := .string d.name :: (rfV d.on ++ [.bool d.river])) _ (hat_of g1) (.inr g2) g4 (by simp; rfl) rfl g5, trivial⟩
  · obtain ⟨h1, h2, h3⟩ := h.rots
    refine all2_range _ (fun i (d : RotD) => [(d.flow, 0), (d.frm, 0), (d.to, 0)] ++ turnsE d.turns) x.rots _ h1 fun i hi => ?_
    obtain ⟨b, o, cs, g1, g2, g3, g4, _, _, c0, c1, c2, rfl, k0, k1, k2, ht⟩ := h3 i hi
    generalize x.rots[i] = d at *
    have l0 := k0.len; have l1 := k1.len
    refine All2.append ⟨?_, ?_, ?_, trivial⟩ ?_
    · exact ptE_mk (p := .string d.name :: (rfV d.on ++ [.int .i64 d.rank])) _ (hat_of g1) (.inr g2) g4 (by simp; rfl) rfl k0
    · exact ptE_mk (p := .string d.name :: (rfV d.on ++ (.int .i64 d.rank :: c0))) _ (hat_of g1) (.inr g2) g4 (by simp; rfl) (by simp [rfV_len, l0]) k1
    · exact ptE_mk (p := .string d.name :: (rfV d.on ++ (.int .i64 d.rank :: (c0 ++ c1)))) _ (hat_of g1) (.inr g2) g4 (by simp; rfl) (by simp [rfV_len, l0, l1]) k2
    · obtain ⟨h1, h2, h3⟩ := ht
      refine all2_range _ (fun k (d : TurnD) => [(d.len, 0)]) d.turns _ h1 fun k hk => ?_
      obtain ⟨b, o, cs, g1, g2, g3, g4, _, c, rfl, g5⟩ := h3 k hk
      exact ⟨ptE_mk (p := rfV (d.turns[k]).farm) (q := []) _ (hat_of g1) (.inr g2) g4 (by simp) rfl g5, trivial⟩
  · obtain ⟨h1, h2, h3⟩ := h.rights
    refine all2_range _ (fun i (d : RightD) => [(d.flow, 0), (d.frm, 0), (d.to, 0), (d.every, 0), (d.len, 0)]) x.rights _ h1 fun i hi => ?_
    obtain ⟨b, o, cs, g1, g2, g3, g4, _, _, _, c0, c1, c2, c3, c4, rfl, k0, k1, k2, k3, k4⟩ := h3 i hi
    generalize x.rights[i] = d at *
    have l0 := k0.len; have l1 := k1.len; have l2 := k2.len; have l3 := k3.len
    refine ⟨?_, ?_, ?_, ?_, ?_, trivial⟩
    · exact ptE_mk (p := .int .i64 d.kind :: .string d.name :: (rfV d.farm ++ (rfV d.reach ++ [.int .i64 d.rank]))) _ (hat_of g1) (.inr g2) g4 (by simp; rfl) rfl k0
    · exact ptE_mk (p := .int .i64 d.kind :: .string d.name :: (rfV d.farm ++ (rfV d.reach ++ (.int .i64 d.rank :: c0)))) _ (hat_of g1) (.inr g2) g4 (by simp; rfl) (by simp [rfV_len, l0]) k1
    · exact ptE_mk (p := .int .i64 d.kind :: .string d.name :: (rfV d.farm ++ (rfV d.reach ++ (.int .i64 d.rank :: (c0 ++ c1))))) _ (hat_of g1) (.inr g2) g4 (by simp; rfl) (by simp [rfV_len, l0, l1]) k2
    · exact ptE_mk (p := .int .i64 d.kind :: .string d.name :: (rfV d.farm ++ (rfV d.reach ++ (.int .i64 d.rank :: (c0 ++ (c1 ++ c2)))))) _ (hat_of g1) (.inr g2) g4 (by simp; rfl) (by simp [rfV_len, l0, l1, l2]) k3
    · exact ptE_mk (p := .int .i64 d.kind :: .string d.name :: (rfV d.farm ++ (rfV d.reach ++ (.int .i64 d.rank :: (c0 ++ (c1 ++ (c2 ++ c3))))))) (q := []) _ (hat_of g1) (.inr g2) g4 (by simp) (by simp [rfV_len, l0, l1, l2, l3]) k4
  · obtain ⟨h1, h2, h3⟩ := h.duties
    refine all2_range _ (fun i (d : DutyD) => [(d.due, 0)]) x.duties _ h1 fun i hi => ?_
    obtain ⟨b, o, cs, g1, g2, g3, g4, _, _, _, c, rfl, g5⟩ := h3 i hi
    generalize x.duties[i] = d at *
    exact ⟨ptE_mk (p := .string d.name :: (rfV d.farm ++ rfV d.reach)) (q := []) _ (hat_of g1) (.inr g2) g4 (by simp) rfl g5, trivial⟩
/- the headers of a source that lies in a block of its own -/
theorem heads_of (h : SrcV N w L cs x) (hr : w.rangeAt L.s 0 cs) {Bs : Nat} (hbox : w.cell? ⟨Bs, 0, none⟩ = some (.pointer (some ⟨L.s, 0, none⟩))) : Heads L Bs w := by
  obtain ⟨c0, c1, c2, rfl, g0, g1, g2⟩ := h.cells
  have l0 := g0.len; have l1 := g1.len; have l2 := g2.len
  have hh := range_mid (p := .string x.name :: (c0 ++ (c1 ++ c2))) (c := [L.lets.v, L.crops.v, L.reaches.v, L.farms.v, L.rots.v, L.rights.v, L.duties.v]) (q := []) (o := 0) (b := L.s) (w := w) (by simpa using hr)
  have hl : (Value.string x.name :: (c0 ++ (c1 ++ c2))).length = 19 := by simp [l0, l1, l2]
  rw [hl] at hh
  refine ⟨hbox, hh 0 _ rfl, hh 1 _ rfl, hh 2 _ rfl, hh 3 _ rfl, hh 4 _ rfl, hh 5 _ rfl, hh 6 _ rfl, fun i hi => ?_⟩
  obtain ⟨h1, h2, h3⟩ := h.rots
  obtain ⟨b, o, cs, k1, k2, k3, k4, _, _, d0, d1, d2, rfl, e0, e1, e2, _⟩ := h3 i (by omega)
  rw [hat_of k1]
  have := range_mid (p := .string (x.rots[i]'(by omega)).name :: (rfV (x.rots[i]'(by omega)).on ++ (.int .i64 (x.rots[i]'(by omega)).rank :: (d0 ++ (d1 ++ d2))))) (c := [(turnsOf L i).v]) (q := []) (o := o + i * 23) (b := b) (w := w) (by simpa using k4)
  have hl : (Value.string (x.rots[i]'(by omega)).name :: (rfV (x.rots[i]'(by omega)).on ++ (.int .i64 (x.rots[i]'(by omega)).rank :: (d0 ++ (d1 ++ d2))))).length = 22 := by simp [rfV_len, e0.len, e1.len, e2.len]
  rw [hl] at this
  exact this 0 _ rfl
end

end Go.Proofs.Ytapejaabhkfhjaa

/- The iterator over a source's expressions as a sequence; the function that gives it. -/
namespace Go.Proofs.Ytapejaabhkfhjaa
open Go.RowKit

theorem expr_seq (n : Nat) (hn : 1 ≤ n) (Bs : Nat) (L : Lay) (hL : L.Ok) : SeqP Fence.wide n Try.prog 89 #[.pointer (some ⟨Bs, 0, none⟩)] (Heads L Bs) (exprX L) none := by
  intro l J Jx Jp W hJ hJx _ hHd hHdx _ hround h0
  refine (callsIn_wide.2 (exprs1_any n hn l Bs L hL J Jx Jp W ⟨hJ, hJx, hHd, hHdx, fun k hk O W1 hj hz hO => hround k hk O W1 hj hz hO⟩ h0)).mono ?_
  rintro e W' (⟨hv, h | h⟩ | h)
  · exact .inl ⟨hv, .inl ⟨rfl, h⟩⟩
  · exact .inl ⟨hv, .inr h⟩
  · exact .inr h
theorem expressions_any (s : Nat) (w : World) : Calls Try.prog 67 #[.pointer (some ⟨s, 0, none⟩)] w fun x w' => x = .returned (.func (.func 89) #[] #[.pointer (some ⟨w.heap.size, 0, none⟩)]) ∧ w' = w.alloc (.cells #[.pointer (some ⟨s, 0, none⟩)] 52) := by
  have hmf : ∀ (fn : Fn) (first cap : Array Value) (w : World), (Instr.makeFunc fn first cap).run Try.prog w = .ok (.func fn first cap) w := fun _ _ _ _ => rfl
  go_enter Try.func67, Try.ntmps67
  go_wp2
  go_ret
  exact ⟨rfl, rfl⟩

end Go.Proofs.Ytapejaabhkfhjaa

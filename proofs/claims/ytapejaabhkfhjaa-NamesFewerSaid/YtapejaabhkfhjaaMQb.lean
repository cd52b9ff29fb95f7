/- Texts Qb Ra Rb in one: each says what it proves. -/
import Derived.Test.YtapejaabhkfhjaaMQa
import Derived.Test.YtapejaabhkfhjaaMPf
import Derived.RecoverIn
import Derived.Test.YtapejaabhkfhjaaMOi
import Derived.Test.YtapejaabhkfhjaaMOd
/- Resolve: the deferred function that recovers. -/
namespace Go.Proofs.Ytapejaabhkfhjaa
open Go.RowKit

/- the cells of a source without anything -/
def zeroCs : List Value := [.string ⟨#[]⟩, .int .i64 0, .int .i64 0, .int .i64 0, .string ⟨#[]⟩, .int .i64 0, .slice none 0 0, .int .i64 0, .int .i64 0, .int .i64 0, .string ⟨#[]⟩, .int .i64 0, .slice none 0 0, .int .i64 0, .int .i64 0, .int .i64 0, .string ⟨#[]⟩, .int .i64 0, .slice none 0 0, .slice none 0 0, .slice none 0 0, .slice none 0 0, .slice none 0 0, .slice none 0 0, .slice none 0 0, .slice none 0 0]

set_option maxRecDepth 100000 in
set_option maxHeartbeats 4000000 in
theorem rec_panicking (n Bx Be : Nat) (hne : Bx ≠ Be) (c : Int) (row : Array Value) (v : Value) (w : World) (hx : w.heap[Bx]? = some (.cells row 35 (0, 0))) (h26 : row.size = 26) (he : w.heap[Be]? = some (.cells #[v] 38 (0, 0))) :
    CallsDIn Fence.wide n Try.prog 24 #[.pointer (some ⟨Bx, 0, none⟩), .pointer (some ⟨Be, 0, none⟩)] (.panicking [{ v := .iface 38 (.int .i64 c), recovered := false }]) w fun e u' w' =>
      e = .returned (.tuple #[]) ∧ u' = .panicking [{ v := .iface 38 (.int .i64 c), recovered := true }] ∧ w' = (w.setRow Bx zeroCs.toArray).setCell ⟨Be, 0, none⟩ (.int .i64 c) := by
  have hta : ∀ W : World, (Instr.typeAssert (.iface 38 (.int .i64 c)) 20 38 true).run Try.prog W = .ok (.tuple #[.int .i64 c, .bool true]) W := fun _ => by kernel_rfl
  have c1 : (w.setRow Bx zeroCs.toArray).cell? ⟨Be, 0, none⟩ = some v := by
    simp only [World.cell?, World.setRow, Array.getElem?_modify, if_neg hne]
    simp [he]
  have f1 : (w.setRow Bx zeroCs.toArray).frozen? ⟨Be, 0, none⟩ = false := by
    simp only [World.frozen?, World.setRow, Array.getElem?_modify, if_neg hne]
    simp [he]
  have HX := Lib.hid hx
  have H26 : Hid ((Try.prog.info? 35).map (·.size) = some row.size) := Lib.hid (by rw [h26]; kernel_rfl)
  have HOne : Hid (∀ v ∈ zeroCs, v.oneCell' = true) := Lib.hid (fun v hv => List.all_eq_true.1 (show zeroCs.all (fun v => v.oneCell') = true from rfl) v hv)
  clear hx he
  refine callsDIn_of_wpSIn Try.func24 rfl trivial fun c₀ cs hu => ?_
  apply wpSIn_seq
  apply wpSIn_region
  simp [wpOpsSIn, go_sem, recoverD, hu, Try.ntmps24, Exit.thenS]
  refine wpSIn_of_wpIn rfl ?_
  generalize hQ : bodyPostS Try.prog Try.f24 c₀ cs _ = Q
  generalize hcs : (_ :: cs : List Frame) = cs'
  simp only [List.setIfInBounds_toArray, List.set_cons_zero, List.set_cons_succ, Array.replicate_succ, Array.replicate_zero, List.push_toArray, List.nil_append, List.cons_append, List.append_toArray]
  refine wpIn_wide.2 ?_
  go_upto_region 7 with fail
  refine wp_region_lit ?_
  refine wpList_plain rfl fun K hK => ?_
  go_simp
  refine hK _ _ ?_
  clear hK K
  refine wpList_plain rfl fun K hK => ?_
  go_simp
  refine hK _ _ ?_
  clear hK K
  refine wpList_store_row rfl 35 _ _ rfl Bx zeroCs.toArray rfl rfl 35 row HX.out (by kernel_rfl) h26 (all_oneCell_toArray HOne.out) ?_
  refine wpList_plain rfl fun K hK => ?_
  go_simp
  refine hK _ _ ?_
  clear hK K
  refine wpList_nil ?_
  simp only [Exit.inBlock]
  show Q _ _ cs' _
  rw [← hQ, ← hcs]
  exact ⟨rfl, _, rfl, _, results_none rfl _ _ _, rfl, rfl, rfl⟩

set_option maxRecDepth 100000 in
theorem rec_idle (n : Nat) (p0 p1 : Addr) (w : World) :
    CallsDIn Fence.wide n Try.prog 24 #[.pointer (some p0), .pointer (some p1)] .returning w fun e u' w' => e = .returned (.tuple #[]) ∧ u' = .returning ∧ w' = w := by
  refine callsDIn_of_wpSIn Try.func24 rfl trivial fun c₀ cs hu => ?_
  apply wpSIn_seq
  apply wpSIn_region
  simp [wpOpsSIn, go_sem, recoverD, hu, Try.ntmps24, Exit.thenS]
  refine wpSIn_of_wpIn rfl ?_
  generalize hQ : bodyPostS Try.prog Try.f24 c₀ cs _ = Q
  simp only [List.setIfInBounds_toArray, List.set_cons_zero, List.set_cons_succ, Array.replicate_succ, Array.replicate_zero, List.push_toArray, List.nil_append, List.cons_append, List.append_toArray]
  refine wpIn_wide.2 ?_
  go_wp2
  change Q _ _ (c₀ :: cs) _
  rw [← hQ]
  refine ⟨rfl, .returning, ?_, _, results_none rfl _ _ _, rfl, rfl, rfl⟩
  rw [← hu]

end Go.Proofs.Ytapejaabhkfhjaa

/- Resolve as plain data. -/
namespace Go.Proofs.Ytapejaabhkfhjaa
open Go.RowKit

/- the names that can be referred to -/
structure Tb where
  lets : List ByteArray
  crops : List ByteArray
  reaches : List ByteArray
  farms : List ByteArray
def Tb.of (x : Src) : Tb := ⟨x.lets.map (·.name), x.crops.map (·.name), x.reaches.map (·.name), x.farms.map (·.name)⟩
def Tb.tab (t : Tb) (c : Int) : List ByteArray := if c = 3 then t.crops else if c = 4 then t.reaches else if c = 6 then t.reaches else if c = 5 then t.farms else t.lets
/- what a reference refers to, without its place -/
def catT (to : Int) : Int := if to = 2 then 1 else to
def early (to : Int) : Bool := decide (to = 2) || decide (to = 6)
def okT (t : Tb) (to at_ : Int) (r : Rf) : Bool :=
  if to = 0 then decide (r.name.size = 0 ∧ r.n = 0) else match posOf (t.tab (catT to)) r.name with
    | some i => !early to || decide ((i : Int) < at_)
    | none => false
def valT (t : Tb) (c : Int) (s : ByteArray) : Int := match posOf (t.tab c) s with
  | some i => (i : Int)
  | none => 0
def gT (t : Tb) (to : Int) (r : Rf) : Rf := if to = 0 then r else { r with n := valT t (catT to) r.name }
mutual
def mapE (t : Tb) : Ex → Ex
  | .mk op n u rn ri args => .mk op n u rn (if op = 2 then valT t 1 rn else ri) (mapL t args)
def mapL (t : Tb) : List Ex → List Ex
  | [] => []
  | e :: r => mapE t e :: mapL t r
end
theorem mapL_eq (t : Tb) : ∀ l : List Ex, mapL t l = l.map (mapE t)
  | [] => rfl
  | e :: r => by rw [mapL, mapL_eq t r]; rfl
def fT (t : Tb) (_ : Int) (e : Ex) : Ex := if leftE e then e else mapE t e
mutual
def okE (t : Tb) (lt : Int) : Ex → Bool
  | .mk op _ _ rn ri args => okS op args.length && (okT t (toE op lt) (atE op lt) ⟨rn, ri⟩ && okL t lt args)
def okL (t : Tb) (lt : Int) : List Ex → Bool
  | [] => true
  | e :: r => okE t lt e && okL t lt r
end
def fineE (t : Tb) (e : ExI) : Bool := leftE e.1 || okE t e.2 e.1
def okFarm (t : Tb) (d : FarmD) : Bool := okT t 4 0 d.on && okT t (if d.river then 0 else 3) 0 d.crop
def okRot (t : Tb) (d : RotD) : Bool := okT t 4 0 d.on && d.turns.all fun k => okT t 5 0 k.farm
def okRight (t : Tb) (d : RightD) : Bool := okT t 5 0 d.farm && okT t (if d.kind = 1 then 0 else 4) 0 d.reach
def okDuty (t : Tb) (d : DutyD) : Bool := okT t 5 0 d.farm && okT t 4 0 d.reach
def usesOk (t : Tb) (x : Src) : Bool := (allE x).all (fineE t) && (kindsOk x && (x.farms.all (okFarm t) && (x.rots.all (okRot t) && (x.rights.all (okRight t) && x.duties.all (okDuty t)))))
def okReach (t : Tb) (p : ReachD × Nat) : Bool := okT t (if p.2 = 0 then 0 else 6) p.2 p.1.frm
def reachOk (t : Tb) (x : Src) : Bool := x.reaches.zipIdx.all (okReach t)
def fitsAll (x : Src) : Bool := fits0 x && (fitsT x.rots && deepOk x)
def rightNames (x : Src) : List ByteArray := x.rots.map (·.name) ++ x.rights.map (·.name)
def namesOk (x : Src) : Bool := nameOk x.name && ((x.lets.map (·.name)).all nameOk && ((x.crops.map (·.name)).all nameOk && ((x.reaches.map (·.name)).all nameOk && ((x.farms.map (·.name)).all nameOk && ((x.rots.map (·.name)).all nameOk && ((x.rights.map (·.name)).all nameOk && (x.duties.map (·.name)).all nameOk))))))
def onceOk (x : Src) : Prop := (x.lets.map (·.name)).Nodup ∧ (x.crops.map (·.name)).Nodup ∧ (x.reaches.map (·.name)).Nodup ∧ (x.farms.map (·.name)).Nodup ∧ (rightNames x).Nodup ∧ (x.duties.map (·.name)).Nodup
instance (x : Src) : Decidable (onceOk x) := by unfold onceOk; infer_instance
def resolved (x : Src) : Src := x.mp (fT (Tb.of x)) (gT (Tb.of x))
/- what is wrong with a source; 0: nothing -/
def wrongS (x : Src) : Int :=
  if fitsAll x then (if namesOk x then (if onceOk x then (if reachOk (Tb.of x) x && usesOk (Tb.of x) x then 0 else 170) else 171) else 170) else 2

/- a reference that is handed on is right -/
def okU (t : Tb) (u : Us) : Bool := okT t u.to u.at_ ⟨u.name, u.n⟩
def AllU (t : Tb) (p : List Us × Bool) : Prop := p.2 = true ∧ ∀ u ∈ p.1, okU t u = true
theorem allU_seq (t : Tb) : ∀ l : List (List Us × Bool), AllU t (seqU l) ↔ ∀ p ∈ l, AllU t p
  | [] => by simp [AllU, seqU]
  | x :: r => by
    have ih := allU_seq t r
    simp only [List.forall_mem_cons, ← ih]
    have e : seqU (x :: r) = if x.2 then (x.1 ++ (seqU r).1, (seqU r).2) else (x.1, false) := rfl
    rw [e]
    unfold AllU
    by_cases h : x.2 = true
    · simp only [h, if_true, List.mem_append, true_and]
      constructor
      · rintro ⟨h1, h2⟩; exact ⟨fun u hu => h2 u (.inl hu), h1, fun u hu => h2 u (.inr hu)⟩
      · rintro ⟨h1, h2, h3⟩; exact ⟨h2, fun u hu => hu.elim (h1 u) (h3 u)⟩
    · simp [h]
mutual
theorem allU_preE (t : Tb) {w : World} {C : Addr → Prop} (lt : Int) : ∀ (e : Ex) (b o : Nat), ExR w C e b o → (AllU t (preE w lt e b o) ↔ okE t lt e = true)
  | .mk op n u rn ri args, b, o, h => by
    rw [ExR] at h
    obtain ⟨a, cap, h1, h2, h3, h4⟩ := h
    rw [preE, okE]
    by_cases hs : okS op args.length = true
    · rw [if_pos hs, hs, h2.1]
      have ih := allU_preL t lt args a args.length cap 0 h4
      unfold AllU at ih ⊢
      simp only [List.forall_mem_cons, Bool.true_and, Bool.and_eq_true, ← ih, okU]
      constructor
      · rintro ⟨k1, k2, k3⟩; exact ⟨k2, k1, k3⟩
      · rintro ⟨k2, k1, k3⟩; exact ⟨k1, k2, k3⟩
    · rw [if_neg hs]
      simp [AllU, hs]
theorem allU_preL (t : Tb) {w : World} {C : Addr → Prop} (lt : Int) : ∀ (l : List Ex) (a : Option Addr) (n cap i : Nat), RowR w C a i l → (AllU t (preL w lt l (some (.slice a n cap)) i) ↔ okL t lt l = true)
  | [], a, n, cap, i, h => by simp [preL, okL, AllU]
  | e :: r, a, n, cap, i, h => by
    rw [RowR] at h
    obtain ⟨⟨b, o, rfl, h1⟩, h2⟩ := h
    have i1 := allU_preE t lt e b (o + i * 6) h1
    have i2 := allU_preL t lt r (some ⟨b, o, none⟩) n cap (i + 1) h2
    rw [preL, okL, Bool.and_eq_true, ← i1, ← i2]
    unfold AllU
    by_cases hp : (preE w lt e b (o + i * 6)).2 = true
    · simp only [hp, if_true, true_and, List.mem_append]
      constructor
      · rintro ⟨k1, k2⟩; exact ⟨fun u hu => k2 u (.inl hu), k1, fun u hu => k2 u (.inr hu)⟩
      · rintro ⟨k1, k2, k3⟩; exact ⟨k2, fun u hu => hu.elim (k1 u) (k3 u)⟩
    · simp [hp]
end
theorem all2_zip {α β γ : Type} {R : α → β → Prop} {f : α → β → γ} {p : γ → Prop} {q : β → Prop} (h : ∀ a b, R a b → (p (f a b) ↔ q b)) : ∀ {l : List α} {m : List β}, All2 R l m → ((∀ c ∈ List.zipWith f l m, p c) ↔ ∀ b ∈ m, q b)
  | [], [], _ => by simp
  | a :: l, b :: m, hA => by
    rw [All2] at hA
    simp only [List.zipWith_cons_cons, List.forall_mem_cons, h a b hA.1, all2_zip h hA.2]
  | [], b :: m, hA => by simp [All2] at hA
  | a :: l, [], hA => by simp [All2] at hA
theorem allU_top {N : Nat → Prop} {w : World} {C D : Addr → Prop} (t : Tb) (a : Array Value) (e : ExI) (h : TopC N w C D a e) : AllU t (topPart w a e) ↔ fineE t e = true := by
  obtain ⟨b, o, cs, rfl, _, _, hr, _⟩ := h
  unfold topPart fineE
  by_cases hl : leftE e.1 = true
  · simp [hl, AllU]
  · rw [if_neg hl, Bool.or_eq_true, or_iff_right hl]
    exact allU_preE t e.2 e.1 b o hr
theorem mem_range {f : Nat → List Us} {n : Nat} {p : Us → Prop} : (∀ u ∈ (List.range n).flatMap f, p u) ↔ ∀ i, i < n → ∀ u ∈ f i, p u := by
  constructor
  · intro h i hi u hu; exact h u (List.mem_flatMap.2 ⟨i, List.mem_range.2 hi, hu⟩)
  · intro h u hu
    obtain ⟨i, hi, hu⟩ := List.mem_flatMap.1 hu
    exact h i (List.mem_range.1 hi) u hu
theorem range_all {α : Type} {l : List α} {n : Nat} (hn : n = l.length) {f : Nat → List Us} {p : Us → Prop} {q : α → Bool} (h : ∀ i (hi : i < l.length), (∀ u ∈ f i, p u) ↔ q l[i] = true) : (∀ u ∈ (List.range n).flatMap f, p u) ↔ l.all q = true := by
  rw [mem_range, List.all_eq_true]
  constructor
  · intro k d hd
    obtain ⟨i, hi, rfl⟩ := List.mem_iff_getElem.1 hd
    exact (h i hi).1 (k i (by omega))
  · intro k i hi
    exact (h i (by omega)).2 (k _ (List.getElem_mem (by omega)))
theorem allU_uses {N : Nat → Prop} {w : World} {C D : Addr → Prop} {Bu : Nat} {L : Lay} {x : Src} (t : Tb) (h : UsesC N w C D Bu L x) : AllU t (usesU w L x) ↔ usesOk t x = true := by
  unfold usesU partsU usesOk
  rw [allU_seq]
  simp only [List.mem_append, List.mem_singleton, or_imp, forall_and, forall_eq, Bool.and_eq_true]
  refine and_congr ?_ ?_
  · rw [List.all_eq_true]
    exact all2_zip (allU_top t) h.top
  · unfold AllU
    simp only
    refine and_congr_right fun hk => ?_
    rw [if_pos hk]
    unfold listU
    simp only [List.mem_append, or_imp, forall_and]
    rw [range_all h.nfarms (q := okFarm t) fun i hi => ?_, range_all h.nrots (q := okRot t) fun i hi => ?_, range_all h.nrights (q := okRight t) fun i hi => ?_, range_all h.nduties (q := okDuty t) fun i hi => ?_]
    · simp only [and_assoc]
    · unfold dutyU; rw [List.getElem?_eq_getElem hi]; simp [okDuty, okU, usAt]
    · unfold rightU; rw [List.getElem?_eq_getElem hi]; simp [okRight, okU, usAt]
    · unfold rotU; rw [List.getElem?_eq_getElem hi]
      simp only [List.forall_mem_cons, okRot, Bool.and_eq_true, okU, usAt]
      refine and_congr Iff.rfl ?_
      refine range_all (h.nturns i hi) fun k hk => ?_
      unfold turnU; rw [List.getElem?_eq_getElem hk]; simp [usAt]
    · unfold farmU; rw [List.getElem?_eq_getElem hi]; simp [okFarm, okU, usAt]

end Go.Proofs.Ytapejaabhkfhjaa

/- Resolve: what holds while references get their numbers. -/
namespace Go.Proofs.Ytapejaabhkfhjaa
open Go.RowKit

def tyAt (W : World) (b : Nat) : Nat := match W.heap[b]? with
  | some (.cells _ t _) => t
  | _ => 0
theorem tyAt_of {W : World} {b t : Nat} (h : Ty W b t) : tyAt W b = t := by
  obtain ⟨c, e⟩ := h
  unfold tyAt; rw [e]
/- what the reference at o of block b refers to, as the memory tells -/
def catM (W : World) (b o : Nat) : Int :=
  if cls (tyAt W b) (o + 1) = 1 then (match W.cell? ⟨b, o - 3, none⟩ with
    | some (.int _ z) => if z = 2 then 1 else 0
    | _ => 0)
  else if tyAt W b = 51 then (if o < 51 then 0 else 6)
  else if tyAt W b = 59 then (if o % 12 = 1 then 4 else match W.cell? ⟨b, o - 7, none⟩ with
    | some (.bool r) => if r then 0 else 3
    | _ => 3)
  else if tyAt W b = 64 then 4
  else if tyAt W b = 66 then 5
  else if tyAt W b = 68 then (if o % 37 = 2 then 5 else match W.cell? ⟨b, o - 4, none⟩ with
    | some (.int _ z) => if z = 1 then 0 else 4
    | _ => 4)
  else (if o % 11 = 1 then 5 else 4)
/- the number of a reference -/
def Num (t q : Nat) : Prop := cls t q = 2 ∨ (cls t q = 1 ∧ eoff t q = 4)
/- a number that is written -/
def NumC (B : Nat) (W : World) (b q : Nat) : Prop := B ≤ b ∧ ∃ o t, q = o + 1 ∧ Ty W b t ∧ Num t (o + 1) ∧ catM W b o ≠ 0
structure UOk (B : Nat) (W : World) (u : Us) : Prop where
  base : B ≤ u.b
  t : ∃ t, Ty W u.b t ∧ Num t (u.o + 1) ∧ ¬ Num t u.o
  name : W.cell? ⟨u.b, u.o, none⟩ = some (.string u.name)
  len : u.name.size ≤ maxLen
  n : W.cell? ⟨u.b, u.o + 1, none⟩ = some (.int .i64 u.n)
  cat : catM W u.b u.o = catT u.to
  to : u.to = 0 ∨ u.to = 1 ∨ u.to = 2 ∨ u.to = 3 ∨ u.to = 4 ∨ u.to = 5 ∨ u.to = 6
theorem catT_zero {u : Us} : catT u.to = 0 ↔ u.to = 0 := by
  unfold catT; split <;> omega
/- X: all references; k of them are done -/
structure RJ (B : Nat) (W4 : World) (t : Tb) (X : List Us) (k : Nat) (O : Nat → Prop) (W : World) : Prop where
  os : W.os = W4.os
  tape : W.tape = W4.tape
  output : W.output = W4.output
  size : W4.heap.size ≤ W.heap.size
  own : ∀ b, O b → W4.heap.size ≤ b
  ty : ∀ (b : Nat) (c : Array Value) (t : TypeId), W4.heap[b]? = some (.cells c t (0, 0)) → ∃ c' : Array Value, c'.size = c.size ∧ W.heap[b]? = some (.cells c' t (0, 0))
  same : ∀ b : Nat, b < W4.heap.size → (∀ q, ¬ NumC B W4 b q) → W.heap[b]? = W4.heap[b]?
  cells : ∀ b q, b < W4.heap.size → ¬ NumC B W4 b q → W.cell? ⟨b, q, none⟩ = W4.cell? ⟨b, q, none⟩
  nums : ∀ b q, NumC B W4 b q → (∃ z, W4.cell? ⟨b, q, none⟩ = some (.int .i64 z)) → ∃ z, W.cell? ⟨b, q, none⟩ = some (.int .i64 z)
  done : ∀ j (h : j < X.length), j < k → okU t X[j] = true ∧ (X[j].to ≠ 0 → X[j].b < W4.heap.size ∧ W.cell? ⟨X[j].b, X[j].o + 1, none⟩ = some (.int .i64 (valT t (catT X[j].to) X[j].name)))
section
variable {B : Nat} {W4 W w' : World} {t : Tb} {X : List Us} {k : Nat} {O : Nat → Prop}
theorem RJ.start (B : Nat) (W4 : World) (t : Tb) (X : List Us) : RJ B W4 t X 0 (fun _ => False) W4 :=
  ⟨rfl, rfl, rfl, Nat.le_refl _, fun _ h => h.elim, fun _ c _ h => ⟨c, rfl, h⟩, fun _ _ _ => rfl, fun _ _ _ _ => rfl, fun _ _ _ h => h, fun _ _ h => by omega⟩
theorem RJ.tyT (h : RJ B W4 t X k O W) {b ty : Nat} (hb : Ty W4 b ty) : Ty W b ty := by
  obtain ⟨c, e⟩ := hb
  obtain ⟨c', _, e'⟩ := h.ty b c ty e
  exact ⟨c', e'⟩
theorem RJ.move {O' : Nat → Prop} (h : RJ B W4 t X k O W) (hz : W.heap.size ≤ w'.heap.size) (ho : w'.os = W.os) (ht : w'.tape = W.tape) (hu : w'.output = W.output) (hk : ∀ b, b < W4.heap.size → w'.heap[b]? = W.heap[b]?) (hO : ∀ b, O' b → W4.heap.size ≤ b) : RJ B W4 t X k O' w' := by
  refine ⟨ho.trans h.os, ht.trans h.tape, hu.trans h.output, Nat.le_trans h.size hz, hO, fun b c ty hb => ?_, fun b hb hq => (hk b hb).trans (h.same b hb hq), fun b q hb hq => (cell_of_block (hk b hb)).trans (h.cells b q hb hq), fun b q hq hi => ?_, fun j hj hjk => ?_⟩
  · obtain ⟨c', e1, e2⟩ := h.ty b c ty hb
    exact ⟨c', e1, (hk b (Array.getElem?_eq_some_iff.1 hb).1).trans e2⟩
  · obtain ⟨z, hz'⟩ := h.nums b q hq hi
    obtain ⟨_, _, ty, _, h1, _⟩ := hq
    exact ⟨z, (cell_of_block (hk b h1.lt)).trans hz'⟩
  · obtain ⟨h1, h2⟩ := h.done j hj hjk
    refine ⟨h1, fun h3 => ?_⟩
    have h4 := h2 h3
    exact ⟨h4.1, (cell_of_block (hk _ h4.1)).trans h4.2⟩
theorem RJ.stays : Stays (RJ B W4 t X) := by
  intro k O W O' W' h hz ho ht hu hk hO
  refine h.move hz ho ht hu (fun b hb => hk b (fun hOb => by have := h.own b hOb; omega) (Nat.lt_of_lt_of_le hb h.size)) (fun b hb => ?_)
  rcases hO b hb with h1 | h1
  · exact h.own b h1
  · have := h.size; omega
theorem RJ.below {B' : Nat} (h : RJ B W4 t X k O W) (hb : Below B' W w') (hB : W4.heap.size ≤ B') : RJ B W4 t X k O w' :=
  h.move hb.size hb.os hb.tape hb.output (fun b hlt => hb.block b (by omega)) h.own
theorem UOk.notName {u : Us} (h : UOk B W4 u) : ¬ NumC B W4 u.b u.o := by
  rintro ⟨_, o, ty, e, h1, h2, _⟩
  obtain ⟨ty', k1, k2, k3⟩ := h.t
  obtain rfl := h1.inj k1
  rw [← e] at h2
  exact k3 h2
theorem UOk.lt {u : Us} (h : UOk B W4 u) : u.b < W4.heap.size := by
  obtain ⟨ty', k1, k2, k3⟩ := h.t
  exact k1.lt
theorem UOk.num {u : Us} (h : UOk B W4 u) (h0 : u.to ≠ 0) : NumC B W4 u.b (u.o + 1) := by
  obtain ⟨ty', k1, k2, k3⟩ := h.t
  exact ⟨h.base, u.o, ty', rfl, k1, k2, by rw [h.cat]; exact fun e => h0 (catT_zero.1 e)⟩
theorem UOk.notNum {u : Us} (h : UOk B W4 u) (h0 : u.to = 0) : ¬ NumC B W4 u.b (u.o + 1) := by
  rintro ⟨_, o, ty, e, h1, h2, h3⟩
  obtain rfl : o = u.o := by omega
  rw [h.cat] at h3
  exact h3 (catT_zero.2 h0)
/- what is read of a reference -/
theorem RJ.read {u : Us} (h : RJ B W4 t X k O W) (hu : UOk B W4 u) : W.cell? ⟨u.b, u.o, none⟩ = some (.string u.name) ∧ (∃ z, W.cell? ⟨u.b, u.o + 1, none⟩ = some (.int .i64 z) ∧ (u.to = 0 → z = u.n)) ∧ W.frozen? ⟨u.b, u.o + 1, none⟩ = false := by
  refine ⟨(h.cells _ _ hu.lt hu.notName).trans hu.name, ?_, ?_⟩
  · by_cases h0 : u.to = 0
    · exact ⟨u.n, (h.cells _ _ hu.lt (hu.notNum h0)).trans hu.n, fun _ => rfl⟩
    · obtain ⟨z, hz⟩ := h.nums _ _ (hu.num h0) ⟨_, hu.n⟩
      exact ⟨z, hz, fun e => absurd e h0⟩
  · obtain ⟨ty', k1, k2, k3⟩ := hu.t
    exact (h.tyT k1).frozen
/- a reference that is checked only -/
theorem RJ.skip {u : Us} (h : RJ B W4 t X k O W) (hk : X[k]? = some u) (h0 : u.to = 0) (hok : okU t u = true) : RJ B W4 t X (k + 1) O W := by
  obtain ⟨hl, rfl⟩ := List.getElem?_eq_some_iff.1 hk
  refine ⟨h.os, h.tape, h.output, h.size, h.own, h.ty, h.same, h.cells, h.nums, fun j hj hjk => ?_⟩
  by_cases e : j = k
  · subst e; exact ⟨hok, fun h => absurd h0 h⟩
  · exact h.done j hj (by omega)
/- a reference that gets its number -/
theorem RJ.next {u : Us} (h : RJ B W4 t X k O W) (hX : ∀ u ∈ X, UOk B W4 u) (hk : X[k]? = some u) (h0 : u.to ≠ 0) (hok : okU t u = true) : RJ B W4 t X (k + 1) O (W.setCell ⟨u.b, u.o + 1, none⟩ (.int .i64 (valT t (catT u.to) u.name))) := by
  obtain ⟨hl, rfl⟩ := List.getElem?_eq_some_iff.1 hk
  have hu := hX _ (List.getElem_mem hl)
  obtain ⟨_, ⟨z, hz, _⟩, _⟩ := h.read hu
  obtain ⟨s1, s2, s3, s4⟩ := set_facts (.int .i64 (valT t (catT X[k].to) X[k].name)) hz
  have hn := hu.num h0
  have hother : ∀ b q, (b ≠ X[k].b ∨ q ≠ X[k].o + 1) → (W.setCell ⟨X[k].b, X[k].o + 1, none⟩ (.int .i64 (valT t (catT X[k].to) X[k].name))).cell? ⟨b, q, none⟩ = W.cell? ⟨b, q, none⟩ := fun b q hq =>
    World.cell?_setCell_other _ _ _ _ (fun e => by cases e; simp at hq)
  refine ⟨s1.os.trans h.os, s1.tape.trans h.tape, s1.output.trans h.output, Nat.le_trans h.size s1.size, h.own, fun b c ty hb => ?_, fun b hb hq => ?_, fun b q hb hq => ?_, fun b q hq hi => ?_, fun j hj hjk => ?_⟩
  · obtain ⟨c', e1, e2⟩ := h.ty b c ty hb
    by_cases he : b = X[k].b
    · subst he
      exact ⟨_, by rw [Array.size_setIfInBounds]; exact e1, heap_setCell_same W _ _ c' ty _ e2⟩
    · exact ⟨c', e1, (heap_setCell_other W _ b _ he).trans e2⟩
  · have he : b ≠ X[k].b := fun e => hq _ (e ▸ hn)
    exact (heap_setCell_other W _ b _ he).trans (h.same b hb hq)
  · rw [hother b q (by by_cases e : b = X[k].b; exact .inr (fun e2 => hq (by rw [e, e2]; exact hn)); exact .inl e)]
    exact h.cells b q hb hq
  · by_cases e : b = X[k].b ∧ q = X[k].o + 1
    · obtain ⟨rfl, rfl⟩ := e
      exact ⟨_, s4⟩
    · rw [hother b q (by by_cases e2 : b = X[k].b; exact .inr (fun e3 => e ⟨e2, e3⟩); exact .inl e2)]
      exact h.nums b q hq hi
  · by_cases e : j = k
    · subst e; exact ⟨hok, fun _ => ⟨hu.lt, s4⟩⟩
    · obtain ⟨d1, d2⟩ := h.done j hj (by omega)
      refine ⟨d1, fun h3 => ?_⟩
      have huj := hX _ (List.getElem_mem hj)
      by_cases e : X[j].b = X[k].b ∧ X[j].o + 1 = X[k].o + 1
      · obtain ⟨e1, e2⟩ := e
        have e2 : X[j].o = X[k].o := by omega
        have hc : catT X[j].to = catT X[k].to := by rw [← huj.cat, ← hu.cat, e1, e2]
        have hnm : X[j].name = X[k].name := by
          have h1 := huj.name
          rw [e1, e2, hu.name] at h1
          exact (Value.string.inj (Option.some.inj h1)).symm
        refine ⟨huj.lt, ?_⟩
        rw [e1, e2, hc, hnm]; exact s4
      · rw [hother _ _ (by by_cases e2 : X[j].b = X[k].b; exact .inr (fun e3 => e ⟨e2, e3⟩); exact .inl e2)]
        exact d2 h3
end

end Go.Proofs.Ytapejaabhkfhjaa

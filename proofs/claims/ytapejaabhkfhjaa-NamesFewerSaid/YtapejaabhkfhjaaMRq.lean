/- A region whose order is drawn, by what holds amid it: each operation is met once, whatever has come ahead of it. -/
import Derived.Orders
import Derived.WalkKit
namespace Go.Proofs.Ytapejaabhkfhjaa
open Go

/- what holds amid the region: which operations have been carried out; what their values are good for -/
structure Mid (ops : Array Oper) (a₀ : Act) (Ext : Array Bool → Array Value → World → Prop) (Pp : Nat → Value → World → Prop) (listed : Array Bool) (a : Act) (w : World) : Prop where
  size : listed.size = ops.size
  down : ∀ m, listed.getD m false = true → ∀ o, ops[m]? = some o → ∀ e ∈ o.after, Region.binds .any e = true → listed.getD e.on false = true
  ext : Ext listed a.tmps w
  defers : a.defers = a₀.defers
  tmps : a.tmps.size = a₀.tmps.size
  done : ∀ i, listed.getD i false = true → ∀ o t, ops[i]? = some o → o.dst = some t → Pp i (a.tmps.getD t undef) w
  free : ∀ k, (∀ i, listed.getD i false = true → ∀ o, ops[i]? = some o → o.dst ≠ some k) → a.tmps.getD k undef = a₀.tmps.getD k undef

theorem put_getD_same {a : Act} {t : Nat} (v : Value) (h : t < a.tmps.size) : (a.put (some t) v).tmps.getD t undef = v := by
  simp [Act.put, h]
theorem put_getD_other {a : Act} {t k : Nat} (v : Value) (h : t ≠ k) : (a.put (some t) v).tmps.getD k undef = a.tmps.getD k undef := by
  simp [Act.put, h]

/- the operations' slots are apart, and each waits only for what stands ahead of it -/
def apartB (ops : Array Oper) : Bool := (ops.toList.filterMap (·.dst)).Nodup && (List.range ops.size).all fun i => (ops[i]?).all fun o => o.after.all fun e => decide (e.on < i) || !Region.binds .any e
def slotsB (n : Nat) (ops : Array Oper) : Bool := ops.all fun o => o.dst.all fun t => decide (t < n)

theorem dst_inj : ∀ {l : List Oper}, (l.filterMap (·.dst)).Nodup → ∀ {i j : Nat} {oi oj : Oper} {t : Tmp}, l[i]? = some oi → l[j]? = some oj → oi.dst = some t → oj.dst = some t → i = j
  | [], _, i, _, _, _, _, h, _, _, _ => by simp at h
  | x :: r, hn, i, j, oi, oj, t, hi, hj, di, dj => by
    have hr : (r.filterMap (·.dst)).Nodup := by
      rw [List.filterMap_cons] at hn
      split at hn
      · exact hn
      · exact (List.nodup_cons.1 hn).2
    have key : ∀ {k : Nat} {o : Oper}, r[k]? = some o → o.dst = some t → x.dst ≠ some t := by
      intro k o hk hd hx
      rw [List.filterMap_cons, hx] at hn
      exact (List.nodup_cons.1 hn).1 (List.mem_filterMap.2 ⟨o, List.mem_of_getElem? hk, hd⟩)
    cases i with
    | zero =>
      cases j with
      | zero => rfl
      | succ j =>
        simp only [List.getElem?_cons_zero, Option.some.injEq] at hi
        subst hi
        exact (key (by simpa using hj) dj di).elim
    | succ i =>
      cases j with
      | zero =>
        simp only [List.getElem?_cons_zero, Option.some.injEq] at hj
        subst hj
        exact (key (by simpa using hi) di dj).elim
      | succ j => exact congrArg (· + 1) (dst_inj hr (by simpa using hi) (by simpa using hj) di dj)

variable {P : Program} {ops : Array Oper} {Q : Exit → Act → World → Prop}

theorem getD_true_lt {l : Array Bool} {i : Nat} (h : l.getD i false = true) : i < l.size := by
  rcases Nat.lt_or_ge i l.size with h' | h'
  · exact h'
  · simp [Array.getElem?_eq_none h'] at h

/- does one operation wait for another, straight or through others? -/
def ancB (ops : Array Oper) : Nat → Nat → Nat → Bool
  | 0, _, _ => false
  | f + 1, j, i => (ops[j]?).any fun o => o.after.any fun e => Region.binds .any e && (e.on == i || ancB ops f e.on i)
theorem anc_listed {listed : Array Bool} (hd : ∀ m, listed.getD m false = true → ∀ o, ops[m]? = some o → ∀ e ∈ o.after, Region.binds .any e = true → listed.getD e.on false = true) :
    ∀ (f j i : Nat), ancB ops f j i = true → listed.getD j false = true → listed.getD i false = true
  | 0, _, _, h, _ => by cases h
  | f + 1, j, i, h, hj => by
    rw [ancB] at h
    cases ho : ops[j]? with
    | none => rw [ho] at h; cases h
    | some o =>
      rw [ho, Option.any_some, Array.any_eq_true'] at h
      obtain ⟨e, he, hee⟩ := h
      simp only [Bool.and_eq_true, Bool.or_eq_true, beq_iff_eq] at hee
      have hl := hd j hj o ho e he hee.1
      rcases hee.2 with h2 | h2
      · rw [← h2]; exact hl
      · exact anc_listed hd f e.on i h2 hl
theorem Mid.next {a₀ : Act} {Ext : Array Bool → Array Value → World → Prop} {Pp : Nat → Value → World → Prop} {Le : Nat → World → World → Prop} (hap : apartB ops = true) (hsl : slotsB a₀.tmps.size ops = true)
    (hst : ∀ i j v w w', j ≠ i → (∀ f, ancB ops f j i = false) → Le i w w' → Pp j v w → Pp j v w') {listed : Array Bool} {a : Act} {w : World} (h : Mid ops a₀ Ext Pp listed a w) {i : Nat} {o : Oper} (hi : i ∈ Region.ready .any ops listed) (ho : ops[i]? = some o)
    {v : Value} {w' : World} (he : Ext (listed.setIfInBounds i true) (a.put o.dst v).tmps w') (hle : Le i w w') (hv : Pp i v w') : Mid ops a₀ Ext Pp (listed.setIfInBounds i true) (a.put o.dst v) w' := by
  obtain ⟨hun, o', ho', hall⟩ := mem_ready.1 hi
  obtain rfl : o' = o := Option.some.inj (ho'.symm.trans ho)
  have hlt : i < listed.size := by rw [h.size]; exact (Array.getElem?_eq_some_iff.1 ho).1
  have hset : ∀ {m : Nat}, (listed.setIfInBounds i true).getD m false = true → m = i ∨ listed.getD m false = true := by
    intro m hm
    by_cases e : i = m
    · exact .inl e.symm
    · rw [getD_set_ne false e] at hm; exact .inr hm
  unfold apartB at hap
  rw [Bool.and_eq_true, decide_eq_true_eq] at hap
  have hinj : ∀ {i j : Nat} {oi oj : Oper} {t : Tmp}, ops[i]? = some oi → ops[j]? = some oj → oi.dst = some t → oj.dst = some t → i = j := fun hi hj di dj =>
    dst_inj hap.1 (by simpa using hi) (by simpa using hj) di dj
  have hsz : ∀ {i : Nat} {o : Oper} {t : Tmp}, ops[i]? = some o → o.dst = some t → t < a₀.tmps.size := by
    intro i o t ho hd
    unfold slotsB at hsl
    rw [Array.all_eq_true_iff_forall_mem] at hsl
    have := hsl o (Array.mem_of_getElem? ho)
    rw [hd] at this
    simpa using this
  refine ⟨by simp [h.size], ?_, he, ?_, ?_, ?_, ?_⟩
  · intro m hm om hom e hem hb
    rcases hset hm with rfl | hm
    · obtain rfl := Option.some.inj (hom.symm.trans ho)
      exact getD_set_true (hall e hem hb)
    · exact getD_set_true (h.down m hm om hom e hem hb)
  · rw [← h.defers]; unfold Act.put; cases o'.dst <;> rfl
  · rw [← h.tmps]; unfold Act.put; cases o'.dst <;> simp
  · intro m hm om t hom hd
    by_cases e : m = i
    · subst e
      obtain rfl := Option.some.inj (hom.symm.trans ho)
      rw [hd, put_getD_same _ (by rw [h.tmps]; exact hsz ho hd)]
      exact hv
    · have hm' := (hset hm).resolve_left e
      have hnd : ∀ f, ancB ops f m i = false := by
        intro f
        rw [Bool.eq_false_iff]
        intro hb
        have hli := anc_listed h.down f m i hb hm'
        simp [hlt] at hun hli
        rw [hli] at hun; cases hun
      have hold := hst _ _ _ _ _ e hnd hle (h.done m hm' om t hom hd)
      cases hdo : o'.dst with
      | none => exact hold
      | some u =>
        rw [put_getD_other _ (fun eu => e (hinj hom ho hd (by rw [hdo, eu])))]
        exact hold
  · intro k hk
    have hk' := h.free k (fun m hm om hom => hk m (getD_set_true hm) om hom)
    rw [← hk']
    cases hdo : o'.dst with
    | none => rfl
    | some u =>
      refine put_getD_other _ (fun eu => ?_)
      refine hk i ?_ o' ho (by rw [hdo, eu])
      simp [hlt]

/- while something is still to come, something may come -/
theorem ready_some (hap : apartB ops = true) {listed : Array Bool} (hs : listed.size = ops.size) (h : Region.ready .any ops listed = []) : ∀ i, i < ops.size → listed.getD i false = true := by
  intro i
  induction i using Nat.strongRecOn with
  | ind i ih =>
    intro hi
    by_cases hl : listed.getD i false = true
    · exact hl
    · exfalso
      have hun : listed.getD i true = false := by
        have : i < listed.size := by omega
        simp [this] at hl ⊢
        exact hl
      have hmem : i ∈ Region.ready .any ops listed := by
        refine mem_ready.2 ⟨hun, ops[i], by simp [hi], fun e he hbd => ?_⟩
        have hlt : e.on < i := by
          unfold apartB at hap
          rw [Bool.and_eq_true, List.all_eq_true] at hap
          have h1 := hap.2 i (List.mem_range.2 hi)
          simp only [Array.getElem?_eq_getElem hi, Option.all_some, Array.all_eq_true_iff_forall_mem] at h1
          have h2 := h1 e he
          rw [hbd] at h2
          simpa using h2
        exact ih e.on hlt (by omega)
      rw [h] at hmem
      cases hmem

theorem wpAny_mid {a₀ : Act} {Ext : Array Bool → Array Value → World → Prop} {Pp : Nat → Value → World → Prop} {Le : Nat → World → World → Prop} (hap : apartB ops = true) (hsl : slotsB a₀.tmps.size ops = true)
    (hst : ∀ i j v w w', j ≠ i → (∀ f, ancB ops f j i = false) → Le i w w' → Pp j v w → Pp j v w')
    (hstep : ∀ i listed a w, Mid ops a₀ Ext Pp listed a w → i ∈ Region.ready .any ops listed → ∀ o, ops[i]? = some o → wpOp P ops Q i (fun a' w' => ∃ v, a' = a.put o.dst v ∧ Ext (listed.setIfInBounds i true) (a.put o.dst v).tmps w' ∧ Le i w w' ∧ Pp i v w') a w)
    (hend : ∀ listed a w, (∀ i, i < ops.size → listed.getD i false = true) → Mid ops a₀ Ext Pp listed a w → Q .normal a w) :
    ∀ (fuel : Nat) (listed : Array Bool) (a : Act) (w : World), (∀ i, i < ops.size → listed.getD i false = true) ∨ ((List.range ops.size).filter fun i => !listed.getD i false).length ≤ fuel → Mid ops a₀ Ext Pp listed a w → wpAny P .any ops Q fuel listed a w := by
  intro fuel
  induction fuel with
  | zero =>
    intro listed a w hf hM
    have hall : ∀ i, i < ops.size → listed.getD i false = true := by
      rcases hf with hf | hf
      · exact hf
      · intro i hi
        have h0 := List.length_eq_zero_iff.1 (Nat.le_zero.1 hf)
        have := List.filter_eq_nil_iff.1 h0 i (List.mem_range.2 hi)
        simpa using this
    refine ⟨?_, hend _ _ _ hall hM⟩
    cases hr : Region.ready .any ops listed with
    | nil => rfl
    | cons i r =>
      exfalso
      have hi : i ∈ Region.ready .any ops listed := by rw [hr]; simp
      obtain ⟨hun, o, ho, _⟩ := mem_ready.1 hi
      have hlt := (Array.getElem?_eq_some_iff.1 ho).1
      have := hall i hlt
      have hls : i < listed.size := by rw [hM.size]; exact hlt
      simp [hls] at hun this
      rw [this] at hun; cases hun
  | succ fuel ih =>
    intro listed a w hf hM
    refine ⟨fun hr => hend _ _ _ (ready_some hap hM.size hr) hM, fun i hi => ?_⟩
    obtain ⟨hun, o, ho, _⟩ := mem_ready.1 hi
    have hlt := (Array.getElem?_eq_some_iff.1 ho).1
    have hls : i < listed.size := by rw [hM.size]; exact hlt
    have hnot : listed.getD i false = false := by simp [hls] at hun ⊢; exact hun
    refine wpOp_mono (fun a' w' hh => ?_) (hstep i listed a w hM hi o ho)
    obtain ⟨v, rfl, he, hle, hv⟩ := hh
    refine ih _ _ _ (.inr ?_) (hM.next hap hsl hst hi ho he hle hv)
    have hf' := hf.resolve_left (fun h => by rw [h i hlt] at hnot; cases hnot)
    have hsub : ((List.range ops.size).filter fun j => !(listed.setIfInBounds i true).getD j false) = ((List.range ops.size).filter fun j => !listed.getD j false).filter fun j => decide (j ≠ i) := by
      rw [List.filter_filter]
      refine List.filter_congr fun j _ => ?_
      by_cases e : i = j
      · subst e; simp [hls]
      · rw [getD_set_ne false e]; simp [Ne.symm e]
    rw [hsub]
    have hlt' := (List.length_filter_lt_length_iff_exists (p := fun j => decide (j ≠ i)) (l := (List.range ops.size).filter fun j => !listed.getD j false)).2 ⟨i, List.mem_filter.2 ⟨List.mem_range.2 hlt, by rw [hnot]; rfl⟩, by simp⟩
    omega

/-- The law. -/
theorem wp_region_mid {id : Nat} {a₀ : Act} {w₀ : World} (hm : P.follows .mixedOrders = true) (Ext : Array Bool → Array Value → World → Prop) (Pp : Nat → Value → World → Prop) (Le : Nat → World → World → Prop) (hap : apartB ops = true) (hsl : slotsB a₀.tmps.size ops = true)
    (hst : ∀ i j v w w', j ≠ i → (∀ f, ancB ops f j i = false) → Le i w w' → Pp j v w → Pp j v w') (h0 : Ext (Array.replicate ops.size false) a₀.tmps w₀.drew)
    (hstep : ∀ i listed a w, Mid ops a₀ Ext Pp listed a w → i ∈ Region.ready .any ops listed → ∀ o, ops[i]? = some o → wpOp P ops Q i (fun a' w' => ∃ v, a' = a.put o.dst v ∧ Ext (listed.setIfInBounds i true) (a.put o.dst v).tmps w' ∧ Le i w w' ∧ Pp i v w') a w)
    (hend : ∀ listed a w, (∀ i, i < ops.size → listed.getD i false = true) → Mid ops a₀ Ext Pp listed a w → Q .normal a w) : (Code.region id ops true).wp P Q a₀ w₀ := by
  refine wp_region_any hm ?_
  have hrep : ∀ i, (Array.replicate ops.size false).getD i false = false := fun i => by
    simp [Array.getElem?_replicate]; split <;> rfl
  refine wpAny_mid hap hsl hst hstep hend ops.size _ a₀ _ (.inr ?_) ⟨by simp, fun m hm' => ?_, h0, rfl, rfl, fun m hm' => ?_, fun _ _ => rfl⟩
  · exact Nat.le_trans (List.length_filter_le _ _) (by simp)
  · rw [hrep] at hm'; cases hm'
  · rw [hrep] at hm'; cases hm'

def findReg (id : Nat) : Code → Option (Array Oper)
  | .region i ops _ => if i = id then some ops else none
  | .seq x y => (findReg id x).or (findReg id y)
  | .cond _ x y => (findReg id x).or (findReg id y)
  | .block _ x => findReg id x
  | .loop x => findReg id x
  | .rangeFunc _ _ x y => (findReg id x).or (findReg id y)
  | .scope x => findReg id x
  | _ => none
/- the operations of a region of a function's body -/
def regOf (f : Func) (id : Nat) : Option (Array Oper) := f.body.bind (findReg id)
/- where a step leads -/
def StepTo (Ext : Array Value → World → Prop) (Le : World → World → Prop) (Pp : Value → World → Prop) (dst : Option Tmp) (a : Act) (w : World) (a' : Act) (w' : World) : Prop :=
  ∃ v, a' = a.put dst v ∧ Ext (a.put dst v).tmps w' ∧ Le w w' ∧ Pp v w'
def plainB (ops : Array Oper) : Bool := ops.all fun o => o.guard.isNone
/-- The law where no operation is guarded, its facts by steps. -/
theorem wp_region_mids {id : Nat} {a₀ : Act} {w₀ : World} (hm : P.follows .mixedOrders = true) (Ext : Array Bool → Array Value → World → Prop) (Pp : Nat → Value → World → Prop) (Le : Nat → World → World → Prop) (hap : apartB ops = true) (hsl : slotsB a₀.tmps.size ops = true)
    (hpl : plainB ops = true) (hst : ∀ i j v w w', j ≠ i → (∀ f, ancB ops f j i = false) → Le i w w' → Pp j v w → Pp j v w') (h0 : Ext (Array.replicate ops.size false) a₀.tmps w₀.drew)
    (hstep : ∀ i listed a w, Mid ops a₀ Ext Pp listed a w → i ∈ Region.ready .any ops listed → ∀ o, ops[i]? = some o → o.wp P a w (StepTo (Ext (listed.setIfInBounds i true)) (Le i) (Pp i) o.dst a w) Q)
    (hend : ∀ listed a w, (∀ i, i < ops.size → listed.getD i false = true) → Mid ops a₀ Ext Pp listed a w → Q .normal a w) : (Code.region id ops true).wp P Q a₀ w₀ := by
  refine wp_region_mid hm Ext Pp Le hap hsl hst h0 (fun i listed a w hM hi o ho => ?_) hend
  unfold wpOp
  rw [ho]
  have hg : o.guard = none := by
    unfold plainB at hpl
    rw [Array.all_eq_true_iff_forall_mem] at hpl
    simpa using hpl o (Array.mem_of_getElem? ho)
  have hw : Region.wanted o (yielded ops a.tmps) = true := by simp [Region.wanted, hg]
  simp only [hw, if_true]
  exact .inl (hstep i listed a w hM hi o ho)

/-- The law where no operation is guarded. -/
theorem wp_region_mid' {id : Nat} {a₀ : Act} {w₀ : World} (hm : P.follows .mixedOrders = true) (Ext : World → Prop) (Pp : Nat → Value → World → Prop) (Le : World → World → Prop) (hap : apartB ops = true) (hsl : slotsB a₀.tmps.size ops = true)
    (hpl : plainB ops = true) (hst : ∀ i v w w', Le w w' → Pp i v w → Pp i v w') (h0 : Ext w₀.drew)
    (hstep : ∀ i listed a w, Mid ops a₀ (fun _ _ => Ext) Pp listed a w → i ∈ Region.ready .any ops listed → ∀ o, ops[i]? = some o → o.wp P a w (StepTo (fun _ => Ext) Le (Pp i) o.dst a w) Q)
    (hend : ∀ listed a w, (∀ i, i < ops.size → listed.getD i false = true) → Mid ops a₀ (fun _ _ => Ext) Pp listed a w → Q .normal a w) : (Code.region id ops true).wp P Q a₀ w₀ :=
  wp_region_mids hm (fun _ _ => Ext) Pp (fun _ => Le) hap hsl hpl (fun _ j v w w' _ _ => hst j v w w') h0 hstep hend

/- how a step reads what has come: an operation that it waits for; a slot that nobody has written -/
theorem Mid.dep {a₀ : Act} {Ext : Array Bool → Array Value → World → Prop} {Pp : Nat → Value → World → Prop} {listed : Array Bool} {a : Act} {w : World} (h : Mid ops a₀ Ext Pp listed a w) {i : Nat} (hi : i ∈ Region.ready .any ops listed)
    (j : Nat) (t : Tmp) (hb : ((ops[i]?).any fun o => o.after.any fun e => e.on == j && Region.binds .any e) = true) (hd : (ops[j]?).bind (·.dst) = some t) : Pp j (a.tmps[t]?.getD undef) w := by
  rw [← Array.getD_eq_getD_getElem?]
  obtain ⟨_, o, ho, hall⟩ := mem_ready.1 hi
  rw [ho, Option.any_some, Array.any_eq_true'] at hb
  obtain ⟨e, he, hee⟩ := hb
  simp only [Bool.and_eq_true, beq_iff_eq] at hee
  obtain ⟨rfl, hbd⟩ := hee
  cases hj : ops[e.on]? with
  | none => rw [hj] at hd; cases hd
  | some oj =>
    rw [hj, Option.bind_some] at hd
    exact h.done e.on (hall e he hbd) oj t hj hd
theorem Mid.came {a₀ : Act} {Ext : Array Bool → Array Value → World → Prop} {Pp : Nat → Value → World → Prop} {listed : Array Bool} {a : Act} {w : World} (_ : Mid ops a₀ Ext Pp listed a w) {i : Nat} (hi : i ∈ Region.ready .any ops listed)
    (j : Nat) (hb : ((ops[i]?).any fun o => o.after.any fun e => e.on == j && Region.binds .any e) = true) : listed.getD j false = true := by
  obtain ⟨_, o, ho, hall⟩ := mem_ready.1 hi
  rw [ho, Option.any_some, Array.any_eq_true'] at hb
  obtain ⟨e, he, hee⟩ := hb
  simp only [Bool.and_eq_true, beq_iff_eq] at hee
  rw [← hee.1]
  exact hall e he hee.2
theorem Mid.not_yet {a₀ : Act} {Ext : Array Bool → Array Value → World → Prop} {Pp : Nat → Value → World → Prop} {listed : Array Bool} {a : Act} {w : World} (h : Mid ops a₀ Ext Pp listed a w) {i : Nat} (hi : i ∈ Region.ready .any ops listed) : listed.getD i false = false := by
  obtain ⟨hun, o, ho, _⟩ := mem_ready.1 hi
  have hls : i < listed.size := by rw [h.size]; exact (Array.getElem?_eq_some_iff.1 ho).1
  simp [hls] at hun ⊢
  exact hun
theorem Mid.old {a₀ : Act} {Ext : Array Bool → Array Value → World → Prop} {Pp : Nat → Value → World → Prop} {listed : Array Bool} {a : Act} {w : World} (h : Mid ops a₀ Ext Pp listed a w) {i : Nat} (hi : i ∈ Region.ready .any ops listed)
    (k : Tmp) (hb : (ops.all fun o => o.dst != some k || o.after.any fun e => e.on == i && Region.binds .any e) = true) (v : Value) (hv : a₀.tmps.getD k undef = v) : a.tmps[k]?.getD undef = v := by
  rw [← Array.getD_eq_getD_getElem?, ← hv]
  refine h.free k fun m hm om hom hd => ?_
  rw [Array.all_eq_true_iff_forall_mem] at hb
  have := hb om (Array.mem_of_getElem? hom)
  rw [hd] at this
  simp only [bne_self_eq_false, Bool.false_or, Array.any_eq_true'] at this
  obtain ⟨e, he, hee⟩ := this
  simp only [Bool.and_eq_true, beq_iff_eq] at hee
  have hli := h.down m hm om hom e he hee.2
  rw [hee.1] at hli
  have hun := (mem_ready.1 hi).1
  have hlt := getD_true_lt hli
  simp [hlt] at hun hli
  rw [hli] at hun; cases hun

/-- What a region leaves, written out: the old frame with the region's slots set. -/
theorem rebuild {a a₀ : Act} (D : List Nat) (hs : a.tmps.size = a₀.tmps.size) (hd : a.defers = a₀.defers) (hf : ∀ k, k ∉ D → a.tmps.getD k undef = a₀.tmps.getD k undef) :
    a = { tmps := D.foldl (fun t k => t.setIfInBounds k (a.tmps.getD k undef)) a₀.tmps, defers := a₀.defers } := by
  have key : ∀ (D : List Nat) (t : Array Value), t.size = a.tmps.size → (∀ k, k ∉ D → a.tmps.getD k undef = t.getD k undef) → a.tmps = D.foldl (fun t k => t.setIfInBounds k (a.tmps.getD k undef)) t := by
    intro D
    induction D with
    | nil =>
      intro t ht h
      apply Array.ext ht.symm
      intro i h1 h2
      have := h i (by simp)
      simpa [h1, h2] using this
    | cons x r ih =>
      intro t ht h
      rw [List.foldl_cons]
      refine ih _ (by simp [ht]) fun k hk => ?_
      by_cases e : x = k
      · subst e
        by_cases hx : x < t.size
        · simp [hx]
        · simp [Array.getElem?_eq_none (show a.tmps.size ≤ x by omega)]
      · rw [h k (by simp [hk, Ne.symm e])]
        simp [e]
  obtain ⟨t, d⟩ := a
  simp only at hd
  subst hd
  exact congrArg (fun t => ({ tmps := t, defers := a₀.defers } : Act)) (key D a₀.tmps hs.symm hf)

end Go.Proofs.Ytapejaabhkfhjaa

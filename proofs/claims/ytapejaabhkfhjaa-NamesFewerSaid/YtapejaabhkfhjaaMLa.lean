/- A range over a function whose rounds may panic: the round's law and the statement's law, of our own. -/
import Derived.RangeFuncNested
import Derived.RangeFuncCalls
import Derived.RangeFuncLeaves
namespace Go.Proofs.Ytapejaabhkfhjaa
open Go.RowKit

variable {F : Fence} {n : Nat} {P : Program}

/- how a round's body may be left: a panic too -/
def roundPostP (P : Program) (l : Nat) (R : Ending → World → Prop) : Exit → Act → World → Prop
  | .normal, _, w => ∃ v w', (Instr.endRound l none).run P w = .ok v w' ∧ R (.returned v) w'
  | .ret, _, w => ∃ v w', (Instr.endRound l (some .ret)).run P w = .ok v w' ∧ R (.returned v) w'
  | .exit id, _, w => ∃ v w', (Instr.endRound l (some (.exit id))).run P w = .ok v w' ∧ R (.returned v) w'
  | .goto t, _, w => ∃ v w', (Instr.endRound l (some (.goto t))).run P w = .ok v w' ∧ R (.returned v) w'
  | .panic chain, a, w => a.defers = [] ∧ R (.panicked chain) w
  | .outgrown, _, _ => False

theorem roundIn_of_wpInP {l : Nat} {f : FuncId} {fn : Func} (hfn : P.funcs[f]? = some fn) {tmps : Array Value} {assign body : Code} {w : World} {R : Ending → World → Prop} (hF : F.fn f)
    (h : assign.wpIn (F.inRound l) n P (Exit.then (fun a₁ w₁ => ∃ w₂, (Instr.beginRound l).run P w₁ = .ok () w₂ ∧ body.wpIn (F.inRound l) n P (roundPostP P l R) a₁ w₂) (fun _ _ _ => False))
      { tmps := tmps, defers := [] } w) :
    RoundIn F n P l f tmps assign body w R := by
  refine ⟨hF, fun c cs hr => ?_⟩
  let b : Frame := { (default : Frame) with fn := f, kind := .normal, roundOf := some l }
  have hb0 : Frame.round l f tmps assign body .normal = b.atR { tmps := tmps, defers := [] } [.code assign, .beginRound, .code body] := by
    simp [Frame.round, Frame.atR, b]
  have hr' : (F.inRound l).room ((c :: cs).length + 1 + n) := hr
  have hF' : (F.inRound l).fn b.fn := hF
  obtain ⟨e, a₁, w₁, hq, harr⟩ := h b [.beginRound, .code body] (c :: cs) rfl hF' hr'
  rw [← hb0] at harr
  cases e with
  | normal =>
    obtain ⟨w₂, hbr, hbody⟩ := hq
    have s1 : StepsIn (Machine.fenced P (F.inRound l)) P (lone (b.atR a₁ [.beginRound, .code body]) (c :: cs) w₁) (lone (b.atR a₁ [.code body]) (c :: cs) w₂) :=
      .one (fenced_calm (fr := b.atR a₁ [.beginRound, .code body]) hF' hr' rfl) (stepR_beginRound rfl hbr)
    obtain ⟨e₂, a₂, w₃, hq₂, harr₂⟩ := hbody b [] (c :: cs) rfl hF' hr'
    cases e₂ with
    | normal =>
      obtain ⟨v, w₄, hend, hR⟩ := hq₂
      exact ⟨.returned v, w₄, hR, (StepsIn.trans harr s1).trans (StepsIn.trans harr₂ (.one (fenced_calm (fr := b.atR a₂ []) hF' hr' rfl) (stepR_round_end rfl rfl hend)))⟩
    | ret =>
      obtain ⟨v, w₄, hend, hR⟩ := hq₂
      obtain ⟨k₁, hs⟩ := harr₂.2 rfl
      exact ⟨.returned v, w₄, hR, (StepsIn.trans harr s1).trans (StepsIn.trans hs (.one (fenced_calm (fr := b.atR a₂ (.code .ret :: k₁)) hF' hr' rfl) (stepR_round_ret rfl rfl hend)))⟩
    | exit id =>
      obtain ⟨v, w₄, hend, hR⟩ := hq₂
      obtain ⟨k₁, hk, hs⟩ := harr₂.2 rfl rfl
      exact ⟨.returned v, w₄, hR, (StepsIn.trans harr s1).trans (StepsIn.trans hs (.one (fenced_calm (fr := b.atR a₂ (.code (.exit id) :: k₁)) hF' hr' rfl) (stepR_round_exit rfl rfl hk hend)))⟩
    | goto t =>
      obtain ⟨v, w₄, hend, hR⟩ := hq₂
      obtain ⟨k₁, hk, hs⟩ := harr₂.2 rfl rfl
      exact ⟨.returned v, w₄, hR, (StepsIn.trans harr s1).trans (StepsIn.trans hs (.one (fenced_calm (fr := b.atR a₂ (.code (.goto t) :: k₁)) hF' hr' rfl) (stepR_round_goto rfl rfl hk hend)))⟩
    | panic chain =>
      obtain ⟨hd, hR⟩ := hq₂
      obtain ⟨todo, hs⟩ := harr₂
      have hl : Frame.leaving P { b.atR a₂ todo with mode := .panicking chain } w₃ (.panicked chain) := ⟨rfl, hd, fn, hfn⟩
      exact ⟨.panicked chain, w₃, hR, (StepsIn.trans harr s1).trans (StepsIn.trans hs (.one (fenced_leaving (fr := { b.atR a₂ todo with mode := .panicking chain }) hF' hr' hl) (step_leave_panicked hl)))⟩
    | outgrown => exact hq₂.elim
  | exit id => exact hq.elim
  | goto t => exact hq.elim
  | ret => exact hq.elim
  | panic chain => exact hq.elim
  | outgrown => exact hq.elim

/- the blocks that a round must leave as they are -/
def Same (O : Nat → Prop) (W W' : World) : Prop := W.heap.size ≤ W'.heap.size ∧ ∀ b, O b → W'.heap[b]? = W.heap[b]?
theorem Same.refl (O : Nat → Prop) (W : World) : Same O W W := ⟨Nat.le_refl _, fun _ _ => rfl⟩
theorem Same.trans {O : Nat → Prop} {A B C : World} (h : Same O A B) (k : Same O B C) : Same O A C := ⟨Nat.le_trans h.1 k.1, fun b hb => (k.2 b hb).trans (h.2 b hb)⟩
theorem Same.sub {O O' : Nat → Prop} {A B : World} (h : Same O A B) (hs : ∀ b, O' b → O b) : Same O' A B := ⟨h.1, fun b hb => h.2 b (hs b hb)⟩

/- what an iterator may do between two rounds: O are its own blocks -/
def Stays {β : Type} (J : β → (Nat → Prop) → World → Prop) : Prop :=
  ∀ s O W O' W', J s O W → W.heap.size ≤ W'.heap.size → W'.os = W.os → W'.tape = W.tape → W'.output = W.output → (∀ b, ¬ O b → b < W.heap.size → W'.heap[b]? = W.heap[b]?) → (∀ b, O' b → O b ∨ W.heap.size ≤ b) → J s O' W'

/- an iterator that hands on the values xs, one by one: whatever the rounds do, they leave its own blocks as they are; a round may end it, by false or by a panic; it may end in a panic of its own (Pp: at the place k) -/
def SeqP (F : Fence) (n : Nat) (P : Program) (g : Nat) (lb : Array Value) (Hd : World → Prop) (xs : List (Array Value)) (own : Option (List PanicEntry)) : Prop :=
  ∀ (l : Nat) (J : Nat → (Nat → Prop) → World → Prop) (Jx : (Nat → Prop) → World → Prop) (Jp : List PanicEntry → (Nat → Prop) → World → Prop) (W : World),
    Stays J → Stays (fun (_ : Unit) => Jx) → (∀ ch, Stays (fun (_ : Unit) => Jp ch)) → (∀ k O W, J k O W → Hd W) → (∀ O W, Jx O W → Hd W) → (∀ ch, own = some ch → ∀ O W, J xs.length O W → Jp ch O W) →
    (∀ k (hk : k < xs.length) O W1, J k O W1 → W.heap.size ≤ W1.heap.size → (∀ b, O b → W.heap.size ≤ b ∧ b < W1.heap.size) → YieldAt F (n - 1) P l xs[k] W1 fun e W' =>
      (e = .returned (.bool true) ∧ J (k + 1) O W' ∧ Same O W1 W') ∨ (e = .returned (.bool false) ∧ Jx O W' ∧ Same O W1 W') ∨ (∃ ch, e = .panicked ch ∧ Jp ch O W' ∧ Same O W1 W')) →
    J 0 (fun _ => False) W →
    CallsIn F n P g (#[.func (.yield l) #[] #[]] ++ lb) W fun e W' =>
      ((∃ v, e = .returned v) ∧ ((own = none ∧ ∃ O, J xs.length O W') ∨ ∃ O, Jx O W')) ∨ ∃ ch, e = .panicked ch ∧ ∃ O, Jp ch O W'

/- the walk in the frames of one function alone -/
def wpAt (f : FuncId) (P : Program) (c : Code) (Q : Exit → Act → World → Prop) (a : Act) (w : World) : Prop :=
  ∀ (b : Frame) (k : List Item) (cs : List Frame), b.roundOf = none → b.fn = f →
    ∃ e a' w', Q e a' w' ∧ ArrivesIn (Machine.fenced P Fence.wide) P (lone (b.atR a (.code c :: k)) cs w) b k cs e a' w'
section
variable {f : FuncId} {Q : Exit → Act → World → Prop} {a : Act} {w : World}
theorem wpAt_of {c : Code} (h : c.wpIn Fence.wide n P Q a w) : wpAt f P c Q a w := fun b k cs hro _ => h b k cs hro trivial (room_wide _)
theorem wpAt_of_wp {c : Code} (h : c.wp P Q a w) : wpAt f P c Q a w := wpAt_of (n := 0) (wpIn_wide.2 h)
theorem wpAt_seq {x y : Code} (h : wpAt f P x (Exit.then (wpAt f P y Q) Q) a w) : wpAt f P (Code.seq x y) Q a w := by
  intro b k cs hro hb
  have h0 : (lone (b.atR a (.code (.seq x y) :: k)) cs w).fenced P Fence.wide := fenced_wide _ _
  obtain ⟨e, a₁, w₁, hq, harr⟩ := h b (.code y :: k) cs hro hb
  cases e with
  | normal =>
    obtain ⟨e₂, a₂, w₂, hq₂, harr₂⟩ := hq b k cs hro hb
    exact ⟨e₂, a₂, w₂, hq₂, .of_steps (.head h0 stepR_seq harr) harr₂⟩
  | exit id => exact ⟨_, a₁, w₁, hq, .of_steps (.one h0 stepR_seq) (.pass (x := .code y) rfl (fun _ _ => .inl (by simp)) harr)⟩
  | goto l => exact ⟨_, a₁, w₁, hq, .of_steps (.one h0 stepR_seq) (.pass (x := .code y) rfl (fun _ _ => .inl (by simp)) harr)⟩
  | ret => exact ⟨_, a₁, w₁, hq, .of_steps (.one h0 stepR_seq) (.pass (x := .code y) rfl (fun _ _ => .inl (by simp)) harr)⟩
  | panic ch => exact ⟨_, a₁, w₁, hq, .of_steps (.one h0 stepR_seq) (.pass (x := .code y) rfl (fun _ _ => .inl (by simp)) harr)⟩
  | outgrown => exact ⟨_, a₁, w₁, hq, .of_steps (.one h0 stepR_seq) (.pass (x := .code y) rfl (fun _ _ => .inl (by simp)) harr)⟩
theorem wpAt_block {id : Nat} {c : Code} (h : wpAt f P c (Exit.inBlock id Q) a w) : wpAt f P (Code.block id c) Q a w := by
  intro b k cs hro hb
  have h0 : (lone (b.atR a (.code (.block id c) :: k)) cs w).fenced P Fence.wide := fenced_wide _ _
  obtain ⟨e, a₁, w₁, hq, harr⟩ := h b (.inBlock id :: k) cs hro hb
  cases e with
  | normal => exact ⟨.normal, a₁, w₁, hq, .head h0 stepR_block (StepsIn.trans harr (.one (fenced_wide _ _) stepR_inBlock))⟩
  | exit id' =>
    by_cases hid : id' = id
    · simp only [Exit.inBlock, hid, if_true] at hq
      exact ⟨.normal, a₁, w₁, hq, .head h0 stepR_block (harr.1 k (by simp [exitTo, hid]))⟩
    · simp only [Exit.inBlock, hid, if_false] at hq
      have this : (id == id') = false := by simp; exact fun h => hid h.symm
      have hx : exitTo id' (.inBlock id :: k) = exitTo id' k := by simp [exitTo, this]
      exact ⟨.exit id', a₁, w₁, hq, fun k' hk => .head h0 stepR_block (harr.1 k' (by rw [hx]; exact hk)),
        fun hr' hk => let ⟨k₁, h1, h2⟩ := harr.2 hr' (by rw [hx]; exact hk); ⟨k₁, h1, .head h0 stepR_block h2⟩⟩
  | goto l =>
    have hx : gotoIn l (.inBlock id :: k) = gotoIn l k := by simp [gotoIn]
    exact ⟨_, a₁, w₁, hq, fun k' hk => .head h0 stepR_block (harr.1 k' (by rw [hx]; exact hk)),
      fun hr' hk => let ⟨k₁, h1, h2⟩ := harr.2 hr' (by rw [hx]; exact hk); ⟨k₁, h1, .head h0 stepR_block h2⟩⟩
  | ret => exact ⟨_, a₁, w₁, hq, .of_steps (.one h0 stepR_block) harr⟩
  | panic ch => exact ⟨_, a₁, w₁, hq, .of_steps (.one h0 stepR_block) harr⟩
  | outgrown => exact ⟨_, a₁, w₁, hq, .of_steps (.one h0 stepR_block) harr⟩
theorem wpAt_mono {c : Code} {Q' : Exit → Act → World → Prop} (h : wpAt f P c Q a w) (hq : ∀ e a w, Q e a w → Q' e a w) : wpAt f P c Q' a w :=
  fun b k cs hro hb => let ⟨e, a', w', q, r⟩ := h b k cs hro hb; ⟨e, a', w', hq _ _ _ q, r⟩
end
theorem calls_of_wpAt {f : FuncId} {fn : Func} {c : Code} {args : Array Value} {w : World} {R : Ending → World → Prop} (hf : P.funcs[f]? = some fn) (hb : fn.body = some c)
    (h : wpAt f P c (bodyPost P fn R) { tmps := args ++ Array.replicate (fn.ntmps - args.size) undef, defers := [] } w) : Calls P f args w R := by
  refine (callsIn_wide (n := 0)).1 ⟨trivial, fun cs hr => ?_⟩
  let b : Frame := { (default : Frame) with fn := f, kind := .normal, roundOf := none }
  have henter : Frame.enter P f args .normal =
      b.atR { tmps := args ++ Array.replicate (fn.ntmps - args.size) undef, defers := [] } [.code c] := by
    simp [Frame.enter, Frame.atR, hf, hb, b]
  obtain ⟨e, a', w', hq, harr⟩ := h b [] cs rfl rfl
  rw [← henter] at harr
  cases e with
  | normal =>
    obtain ⟨hd, v, hr', hR⟩ := hq
    exact ⟨.returned v, w', _, hR, StepsIn.trans harr (.one (fenced_wide _ _) (stepR_end rfl)), rfl, rfl, hd, rfl, fn, hf, hr'⟩
  | ret =>
    obtain ⟨hd, v, hr', hR⟩ := hq
    obtain ⟨todo, hs⟩ := harr.1 rfl
    exact ⟨.returned v, w', _, hR, hs, rfl, rfl, hd, rfl, fn, hf, hr'⟩
  | panic chain =>
    obtain ⟨hd, hR⟩ := hq
    obtain ⟨todo, hs⟩ := harr
    exact ⟨.panicked chain, w', _, hR, hs, rfl, rfl, hd, fn, hf⟩
  | exit id => exact hq.elim
  | goto l => exact hq.elim
  | outgrown => exact ⟨.outgrown, w', b, hq, harr.resolve_left (by simp [b]), rfl, trivial⟩

/- how the body of a round may be left -/
def postP (O : Nat → Prop) (J : Nat → (Nat → Prop) → World → Prop) (Jx : Code → (Nat → Prop) → World → Prop) (Jp : List PanicEntry → (Nat → Prop) → World → Prop) (k : Nat) (W : World) : Exit → Act → World → Prop
  | .normal, _, W' => Same O W W' ∧ J (k + 1) O W'
  | .ret, _, W' => Same O W W' ∧ Jx .ret O W'
  | .exit id, _, W' => Same O W W' ∧ Jx (.exit id) O W'
  | .goto t, _, W' => Same O W W' ∧ Jx (.goto t) O W'
  | .panic ch, a, W' => a.defers = [] ∧ Same O W W' ∧ Jp ch O W'
  | .outgrown, _, _ => False

theorem Stays.put {β : Type} {J : β → (Nat → Prop) → World → Prop} (h : Stays J) {s : β} {O : Nat → Prop} {W : World} {l : Nat} (hl : O l) (o : Obj) (hs : J s O W) : J s O (W.putObj l o) :=
  h s O W O _ hs (by simp) rfl rfl rfl (fun b hb _ => World.putObj_heap_other (fun e => hb (e ▸ hl))) (fun b hb => .inl hb)

theorem wpAt_rangeFunc {f : FuncId} {g : Operand} {ps : Array Tmp} {assign body : Code} {Q : Exit → Act → World → Prop} {a : Act} {w : World}
    (h : ∃ (l : Nat) (mark : List Deferred) (w₁ : World) (d : Deferred) (w₁' : World) (gf : FuncId) (args : Array Value) (w₂ : World),
      (Instr.enterLoop f a.tmps ps assign body none).run P w = .ok (l, mark) w₁ ∧
      (resolve a.eval (rangeCall g l) 0).run P w₁ = .ok d w₁' ∧
      (invoke d.target d.args).run P w₁' = .ok (.enter gf args) w₂ ∧
      CallsIn Fence.wide (n - 1) P gf args w₂ (rangePost Fence.wide n P l Q { a with defers := mark ++ a.defers })) :
    wpAt f P (Code.rangeFunc g ps assign body) Q a w := by
  intro b k cs hro hb
  obtain ⟨l, mark, w₁, d, w₁', gf, args, w₂, he, hres, hinv, hF, hcall⟩ := h
  rw [← hro, ← hb] at he
  have henter := stepR_rangeFunc (P := P) (b := b) (a := a) (k := k) (cs := cs) (w := w) he hres hinv
  obtain ⟨e, w₃, fr, hR, hsteps, hfn, hleave⟩ := hcall (b.atR { a with defers := mark ++ a.defers } (.inRangeFunc l :: k) :: cs) (room_wide _)
  cases e with
  | outgrown =>
    obtain ⟨a₀, w₀, hq⟩ := hR
    exact ⟨.outgrown, a₀, w₀, hq, .inr (Outgrown.of_steps (.one henter) hsteps)⟩
  | returned v =>
    obtain ⟨jump, w₄, hend, hj⟩ := hR
    have sback : StepsIn (Machine.fenced P Fence.wide) P (lone (b.atR a (.code (.rangeFunc g ps assign body) :: k)) cs w) (lone (b.atR { a with defers := mark ++ a.defers } ((jump.map Item.code).toList ++ k)) cs w₄) := by
      refine .head (fenced_wide _ _) henter (StepsIn.trans hsteps (.head (fenced_wide _ _) ?_ (.one (fenced_wide _ _) (stepR_endRangeFunc hend))))
      rw [← finish_atR_inRangeFunc l v]; exact step_leave_returned hleave
    cases jump with
    | none => exact ⟨.normal, _, w₄, hj, sback⟩
    | some c =>
      obtain ⟨e', a'', w₅, hq, harr⟩ := hj b k cs hro trivial (room_wide _)
      exact ⟨e', a'', w₅, hq, .of_steps sback harr⟩
  | panicked chain =>
    refine ⟨.panic chain, _, w₃, hR, .inRangeFunc l :: k, .head (fenced_wide _ _) henter (StepsIn.trans hsteps (.one (fenced_wide _ _) ?_))⟩
    rw [← Frame.raise_atR]; exact step_leave_panicked hleave

theorem wpAt_rangeP {f : FuncId} {fn : Func} (hf : P.funcs[f]? = some fn) {g : Operand} {ps : Array Tmp} {assign body : Code} {Q : Exit → Act → World → Prop} {a : Act} {w : World}
    {gf : Nat} {lb : Array Value} (hg : a.eval g = .func (.func gf) #[] lb) (eg : ∀ args w, (callFunc gf args).run P w = .ok (.enter gf args) w)
    {Hd : World → Prop} {xs : List (Array Value)} {own : Option (List PanicEntry)} (hseq : SeqP Fence.wide (n - 1) P gf lb Hd xs own) (hps : ∀ x ∈ xs, x.size = ps.size)
    (J : Nat → (Nat → Prop) → World → Prop) (Jx : Code → (Nat → Prop) → World → Prop) (Jp : List PanicEntry → (Nat → Prop) → World → Prop) (A : Nat → Act → (Nat → Prop) → World → Prop)
    (hJ : Stays J) (hJx : ∀ c, Stays (fun (_ : Unit) => Jx c)) (hJp : ∀ ch, Stays (fun (_ : Unit) => Jp ch)) (hA : ∀ a, Stays (fun k => A k a)) (hHd : ∀ k O W, J k O W → Hd W) (hHdx : ∀ c O W, Jx c O W → Hd W) (hown : ∀ ch, own = some ch → ∀ O W, J xs.length O W → Jp ch O W)
    (h0 : J 0 (fun _ => False) w)
    (hassign : ∀ k (hk : k < xs.length) O W l, J k O W → O l → (∃ r, W.heap[l]? = some (.loop r)) → (∀ b, O b → b < W.heap.size) → assign.wpIn (Fence.wide.inRound l) (n - 1 - 1) P (Exit.then (fun a₁ W₁ => Same O W W₁ ∧ A k a₁ O W₁) (fun _ _ _ => False))
      { tmps := (ps.zip xs[k]).foldl (fun t (p, v) => t.setIfInBounds p v) a.tmps, defers := [] } W)
    (hbody : ∀ k (_ : k < xs.length) O W l a₁, O l → (∃ r, W.heap[l]? = some (.loop r)) → (∀ b, O b → b < W.heap.size) → A k a₁ O W → body.wpIn (Fence.wide.inRound l) (n - 1 - 1) P (postP O J Jx Jp k W) a₁ W)
    (hdone : own = none → ∀ D O W, w.heap.size ≤ D → O D → J xs.length O W → W.heap[D]? = some (.deferred (some [])) → Q .normal { a with defers := { target := .collected D, args := #[] } :: a.defers } W)
    (hstop : ∀ D c O W, w.heap.size ≤ D → O D → Jx c O W → W.heap[D]? = some (.deferred (some [])) → c.wpIn Fence.wide n P Q { a with defers := { target := .collected D, args := #[] } :: a.defers } W)
    (hpanic : ∀ D ch O W, w.heap.size ≤ D → O D → Jp ch O W → W.heap[D]? = some (.deferred (some [])) → Q (.panic ch) { a with defers := { target := .collected D, args := #[] } :: a.defers } W) :
    wpAt f P (Code.rangeFunc g ps assign body) Q a w := by
  refine wpAt_rangeFunc (n := n) ?_
  obtain ⟨rec, hrec⟩ : ∃ rec : LoopState → Option Code → Loop, rec = fun st pe => { state := st, pending := pe, fn := f, tmps := a.tmps, params := ps, assign, body, defers := w.heap.size } := ⟨_, rfl⟩
  obtain ⟨W1, hW1⟩ : ∃ W1, (w.alloc (.deferred (some []))).alloc (.loop (rec .ready none)) = W1 := ⟨_, rfl⟩
  have hz1 : W1.heap.size = w.heap.size + 2 := by rw [← hW1]; simp
  have hL1 : W1.heap[w.heap.size + 1]? = some (.loop (rec .ready none)) := by
    rw [← hW1]; have := World.alloc_heap_new (w.alloc (.deferred (some []))) (.loop (rec .ready none)); rwa [World.size_alloc] at this
  have hK1 : W1.heap[w.heap.size]? = some (.deferred (some [])) := by
    rw [← hW1]; exact (Below.heap_alloc _ _ _ (by simp)).trans (World.alloc_heap_new w _)
  have hJ1 : J 0 (fun b => False ∨ b = w.heap.size ∨ b = w.heap.size + 1) W1 := by
    rw [← hW1]
    refine hJ 0 _ w _ _ h0 (by simp; omega) rfl rfl rfl (fun b _ hb => ?_) (fun b hb => .inr ?_)
    · rw [Below.heap_alloc _ _ _ (by simp; omega), Below.heap_alloc _ _ _ hb]
    · rcases hb with hb | rfl | rfl
      · exact hb.elim
      · exact Nat.le_refl _
      · omega
  refine ⟨w.heap.size + 1, [{ target := .collected w.heap.size, args := #[] }], W1, { target := .fn (.func gf) lb, args := #[.func (.yield (w.heap.size + 1)) #[] #[]] }, W1, gf,
    #[.func (.yield (w.heap.size + 1)) #[] #[]] ++ lb, W1, ?_, ?_, ?_, ?_⟩
  · rw [← hW1, hrec]; exact run_enterLoop_outer _ _ _ _ _
  · simp only [resolve, hg]
    simp [go_sem]
  · simp [invoke, go_sem, eg]
  generalize hD : w.heap.size = D at *
  generalize hl : D + 1 = l at *
  have hDl : D < l := by omega
  refine (hseq l
    (fun k O W => J k (fun b => O b ∨ b = D ∨ b = l) W ∧ W.heap[l]? = some (.loop (rec .ready none)) ∧ W.heap[D]? = some (.deferred (some [])) ∧ (∀ b, O b → W1.heap.size ≤ b) ∧ W1.heap.size ≤ W.heap.size)
    (fun O W => ∃ c, Jx c (fun b => O b ∨ b = D ∨ b = l) W ∧ W.heap[l]? = some (.loop (rec .done (some c))) ∧ W.heap[D]? = some (.deferred (some [])) ∧ (∀ b, O b → W1.heap.size ≤ b) ∧ W1.heap.size ≤ W.heap.size)
    (fun ch O W => Jp ch (fun b => O b ∨ b = D ∨ b = l) W ∧ W.heap[D]? = some (.deferred (some [])) ∧ (∀ b, O b → W1.heap.size ≤ b) ∧ W1.heap.size ≤ W.heap.size) W1 ?_ ?_ ?_ ?_ ?_ ?_ ?_ ⟨hJ1, hL1, hK1, fun b hb => hb.elim, Nat.le_refl _⟩).mono ?_
  · rintro k O W O' W' ⟨h1, h2, h3, h4, h5⟩ hz ho ht hu hsame hO
    refine ⟨hJ k _ W _ W' h1 hz ho ht hu (fun b hb hlt => hsame b (fun h => hb (.inl h)) hlt) (fun b hb => ?_), ?_, ?_, fun b hb => ?_, by omega⟩
    · rcases hb with hb | hb
      · rcases hO b hb with h | h
        · exact .inl (.inl h)
        · exact .inr h
      · exact .inl (.inr hb)
    · exact (hsame l (fun h => by have := h4 l h; omega) (Array.getElem?_eq_some_iff.1 h2).1).trans h2
    · exact (hsame D (fun h => by have := h4 D h; omega) (Array.getElem?_eq_some_iff.1 h3).1).trans h3
    · rcases hO b hb with h | h
      · exact h4 b h
      · omega
  · rintro _ O W O' W' ⟨c, h1, h2, h3, h4, h5⟩ hz ho ht hu hsame hO
    refine ⟨c, hJx c () _ W _ W' h1 hz ho ht hu (fun b hb hlt => hsame b (fun h => hb (.inl h)) hlt) (fun b hb => ?_), ?_, ?_, fun b hb => ?_, by omega⟩
    · rcases hb with hb | hb
      · rcases hO b hb with h | h
        · exact .inl (.inl h)
        · exact .inr h
      · exact .inl (.inr hb)
    · exact (hsame l (fun h => by have := h4 l h; omega) (Array.getElem?_eq_some_iff.1 h2).1).trans h2
    · exact (hsame D (fun h => by have := h4 D h; omega) (Array.getElem?_eq_some_iff.1 h3).1).trans h3
    · rcases hO b hb with h | h
      · exact h4 b h
      · omega
  · rintro ch _ O W O' W' ⟨h1, h3, h4, h5⟩ hz ho ht hu hsame hO
    refine ⟨hJp ch () _ W _ W' h1 hz ho ht hu (fun b hb hlt => hsame b (fun h => hb (.inl h)) hlt) (fun b hb => ?_), ?_, fun b hb => ?_, by omega⟩
    · rcases hb with hb | hb
      · rcases hO b hb with h | h
        · exact .inl (.inl h)
        · exact .inr h
      · exact .inl (.inr hb)
    · exact (hsame D (fun h => by have := h4 D h; omega) (Array.getElem?_eq_some_iff.1 h3).1).trans h3
    · rcases hO b hb with h | h
      · exact h4 b h
      · omega
  · exact fun k O W h => hHd k _ W h.1
  · exact fun O W h => h.elim fun c h => hHdx c _ W h.1
  · exact fun ch he O W h => ⟨hown ch he _ W h.1, h.2.2.1, h.2.2.2.1, h.2.2.2.2⟩
  · -- one round
    rintro k hk O W ⟨h1, h2, h3, h4, h5⟩ hz hOr
    have hy := run_yield (P := P) (args := xs[k]) h2 (by rw [hrec]; exact hps _ (List.getElem_mem hk))
    rw [hrec] at hy
    have hOW : ∀ b, (O b ∨ b = D ∨ b = l) → b < W.heap.size := fun b hb => by
      rcases hb with hb | hb | hb
      · exact (hOr b hb).2
      · rw [hb]; exact (Array.getElem?_eq_some_iff.1 h3).1
      · rw [hb]; exact (Array.getElem?_eq_some_iff.1 h2).1
    refine ⟨f, _, assign, body, hy, roundIn_of_wpInP hf trivial (wpIn_mono (hassign k hk _ W l h1 (.inr (.inr rfl)) ⟨_, h2⟩ hOW) ?_)⟩
    clear hy
    rintro e a₁ Wa hp
    cases e with
    | normal =>
      obtain ⟨hs, hax⟩ := hp
      have g2 := (hs.2 l (.inr (.inr rfl))).trans h2
      have g3 := (hs.2 D (.inr (.inl rfl))).trans h3
      have hlt := (Array.getElem?_eq_some_iff.1 g2).1
      refine ⟨_, run_beginRound g2 (by rw [hrec]), ?_⟩
      have hl2 : (Wa.putObj l (.loop { rec .ready none with state := .busy })).heap[l]? = some (.loop { rec .ready none with state := .busy }) := World.putObj_heap_same hlt
      have hk2 : (Wa.putObj l (.loop { rec .ready none with state := .busy })).heap[D]? = some (.deferred (some [])) := (World.putObj_heap_other (by omega)).trans g3
      refine wpIn_mono (hbody k hk _ _ l a₁ (.inr (.inr rfl)) ⟨_, hl2⟩ (fun b hb => by have := hOW b hb; have := hs.1; simp; omega) ((hA a₁).put (.inr (.inr rfl)) _ hax)) ?_
      have fin : ∀ (jump : Option Code) (W3 : World), Same (fun b => O b ∨ b = D ∨ b = l) (Wa.putObj l (.loop { rec .ready none with state := .busy })) W3 →
          (Instr.endRound l jump).run P W3 = .ok (.bool jump.isNone) (W3.putObj l (.loop (rec (if jump.isNone then .ready else .done) jump))) ∧
          (W3.putObj l (.loop (rec (if jump.isNone then .ready else .done) jump))).heap[l]? = some (.loop (rec (if jump.isNone then .ready else .done) jump)) ∧
          (W3.putObj l (.loop (rec (if jump.isNone then .ready else .done) jump))).heap[D]? = some (.deferred (some [])) ∧
          W1.heap.size ≤ (W3.putObj l (.loop (rec (if jump.isNone then .ready else .done) jump))).heap.size ∧
          Same O W (W3.putObj l (.loop (rec (if jump.isNone then .ready else .done) jump))) := fun jump W3 hk3 => by
        have hl3 := (hk3.2 l (.inr (.inr rfl))).trans hl2
        have hr := run_endRound (P := P) jump hl3
        rw [hrec] at hr ⊢
        have z1 := hs.1
        have z3 : Wa.heap.size ≤ W3.heap.size := by have := hk3.1; simpa using this
        refine ⟨hr, World.putObj_heap_same (Array.getElem?_eq_some_iff.1 hl3).1, (World.putObj_heap_other (by omega)).trans ((hk3.2 D (.inr (.inl rfl))).trans hk2), by simp; omega, by simp; omega, fun b hb => ?_⟩
        have hbl : b ≠ l := fun e => by have := h4 b hb; subst e; omega
        rw [World.putObj_heap_other hbl, hk3.2 b (.inl hb), World.putObj_heap_other hbl, hs.2 b (.inl hb)]
      rintro e a3 W3 hp
      cases e with
      | normal =>
        obtain ⟨hk3, hj3⟩ := hp
        obtain ⟨hr, g1, g2, g3, g4⟩ := fin none W3 hk3
        exact ⟨_, _, hr, .inl ⟨rfl, ⟨hJ.put (.inr (.inr rfl)) _ hj3, g1, g2, h4, g3⟩, g4⟩⟩
      | ret =>
        obtain ⟨hk3, hj3⟩ := hp
        obtain ⟨hr, g1, g2, g3, g4⟩ := fin (some .ret) W3 hk3
        exact ⟨_, _, hr, .inr (.inl ⟨rfl, ⟨.ret, (hJx .ret).put (s := ()) (.inr (.inr rfl)) _ hj3, g1, g2, h4, g3⟩, g4⟩)⟩
      | exit id =>
        obtain ⟨hk3, hj3⟩ := hp
        obtain ⟨hr, g1, g2, g3, g4⟩ := fin (some (.exit id)) W3 hk3
        exact ⟨_, _, hr, .inr (.inl ⟨rfl, ⟨.exit id, (hJx (.exit id)).put (s := ()) (.inr (.inr rfl)) _ hj3, g1, g2, h4, g3⟩, g4⟩)⟩
      | goto t =>
        obtain ⟨hk3, hj3⟩ := hp
        obtain ⟨hr, g1, g2, g3, g4⟩ := fin (some (.goto t)) W3 hk3
        exact ⟨_, _, hr, .inr (.inl ⟨rfl, ⟨.goto t, (hJx (.goto t)).put (s := ()) (.inr (.inr rfl)) _ hj3, g1, g2, h4, g3⟩, g4⟩)⟩
      | panic ch =>
        obtain ⟨hd, hk3, hj3⟩ := hp
        have z1 := hs.1
        have z3 : Wa.heap.size ≤ W3.heap.size := by have := hk3.1; simpa using this
        refine ⟨hd, .inr (.inr ⟨ch, rfl, ⟨hj3, (hk3.2 D (.inr (.inl rfl))).trans hk2, h4, by omega⟩, by omega, fun b hb => ?_⟩)⟩
        have hbl : b ≠ l := fun e => by have := h4 b hb; subst e; omega
        rw [hk3.2 b (.inl hb), World.putObj_heap_other hbl, hs.2 b (.inl hb)]
      | outgrown => exact hp.elim
    | exit id => exact hp.elim
    | goto t => exact hp.elim
    | ret => exact hp.elim
    | panic ch => exact hp.elim
    | outgrown => exact hp.elim
  · -- behind the iterator
    rintro e W2 (⟨⟨v, rfl⟩, (⟨ho, O, h1, h2, h3, h4, h5⟩ | ⟨O, c, h1, h2, h3, h4, h5⟩)⟩ | ⟨ch, rfl, O, h1, h2, h4, h5⟩)
    · exact ⟨none, _, by have := run_endLoop (P := P) h2 (by rw [hrec]; simp); rw [hrec] at this; exact this, hdone ho D _ _ (Nat.le_refl _) (.inr (.inl rfl)) (hJ.put (.inr (.inr rfl)) _ h1) ((World.putObj_heap_other (by omega)).trans h3)⟩
    · exact ⟨some c, _, by have := run_endLoop (P := P) h2 (by rw [hrec]; simp); rw [hrec] at this; exact this, hstop D c _ _ (Nat.le_refl _) (.inr (.inl rfl)) ((hJx c).put (s := ()) (.inr (.inr rfl)) _ h1) ((World.putObj_heap_other (by omega)).trans h3)⟩
    · exact hpanic D ch _ W2 (Nat.le_refl _) (.inr (.inl rfl)) h1 h2


/- a function that holds such a range: its contract from its body -/
theorem calls_of_wpAt_marks {f : FuncId} {fn : Func} {c : Code} {args : Array Value} {w : World} {R : Ending → World → Prop} (hf : P.funcs[f]? = some fn) (hb : fn.body = some c)
    (h : wpAt f P c (bodyPostM Fence.wide n P fn R) { tmps := args ++ Array.replicate (fn.ntmps - args.size) undef, defers := [] } w) : Calls P f args w R := by
  refine (callsIn_wide (n := n)).1 ⟨trivial, fun cs hr => ?_⟩
  let b : Frame := { (default : Frame) with fn := f, kind := .normal, roundOf := none }
  have henter : Frame.enter P f args .normal =
      b.atR { tmps := args ++ Array.replicate (fn.ntmps - args.size) undef, defers := [] } [.code c] := by
    simp [Frame.enter, Frame.atR, hf, hb, b]
  obtain ⟨e, a', w', hq, harr⟩ := h b [] cs rfl rfl
  rw [← henter] at harr
  cases e with
  | normal =>
    obtain ⟨e', w'', fr', hR, hs, hfn, hl⟩ := leaves_stepsInM a'.defers .returning w' { b.atR a' [] with mode := .returning } cs rfl rfl rfl hf rfl trivial hr hq
    exact ⟨e', w'', fr', hR, ComesIn.of_steps (StepsIn.trans harr (.one (fenced_wide _ _) (stepR_end rfl))) hs, hfn, hl⟩
  | ret =>
    obtain ⟨todo, hs₀⟩ := harr.1 rfl
    obtain ⟨e', w'', fr', hR, hs, hfn, hl⟩ := leaves_stepsInM a'.defers .returning w' { b.atR a' todo with mode := .returning } cs rfl rfl rfl hf rfl trivial hr hq
    exact ⟨e', w'', fr', hR, ComesIn.of_steps hs₀ hs, hfn, hl⟩
  | panic chain =>
    obtain ⟨todo, hs₀⟩ := harr
    obtain ⟨e', w'', fr', hR, hs, hfn, hl⟩ := leaves_stepsInM a'.defers (.panicking chain) w' { b.atR a' todo with mode := .panicking chain } cs rfl rfl rfl hf rfl trivial hr hq
    exact ⟨e', w'', fr', hR, ComesIn.of_steps hs₀ hs, hfn, hl⟩
  | exit id => exact hq.elim
  | goto l => exact hq.elim
  | outgrown => exact ⟨.outgrown, w', b, hq, harr.resolve_left (by simp [b]), rfl, trivial⟩

end Go.Proofs.Ytapejaabhkfhjaa

/- Texts Oe Of Og in one: each says what it proves. -/
import Derived.Test.YtapejaabhkfhjaaMNf
import Derived.Test.YtapejaabhkfhjaaMOb
import Derived.Deep.Cut
import Derived.Deep.RegionHeld2
import Derived.StillTailTactics
/- The iterator over a source's references: what it hands on from an expression. -/
namespace Go.Proofs.Ytapejaabhkfhjaa
open Go.RowKit

/- a reference that is handed on: where it lies, what it refers to, and what it is -/
structure Us where
  b : Nat
  o : Nat
  to : Int
  at_ : Int
  name : ByteArray
  n : Int
def Us.v (u : Us) : Array Value := #[.agg #[.pointer (some ⟨u.b, u.o, none⟩), .int .i64 u.to, .int .i64 u.at_]]

def okS (op : Int) (len : Nat) : Bool := decide (1 ≤ op) && (decide (op ≤ 6) && (if 3 ≤ op then decide (len = 2) else decide (len = 0)))
def toE (op lt : Int) : Int := if op = 2 then (if 0 < lt then 2 else 1) else 0
def atE (op lt : Int) : Int := if op = 2 then (if 0 < lt then lt - 1 else 0) else 0
mutual
def preE (w : World) (lt : Int) : Ex → Nat → Nat → List Us × Bool
  | .mk op _ _ rn ri args, b, o => if okS op args.length then (⟨b, o + 3, toE op lt, atE op lt, rn, ri⟩ :: (preL w lt args (w.cell? ⟨b, o + 5, none⟩) 0).1, (preL w lt args (w.cell? ⟨b, o + 5, none⟩) 0).2) else ([], false)
def preL (w : World) (lt : Int) : List Ex → Option Value → Nat → List Us × Bool
  | [], _, _ => ([], true)
  | e :: r, v, i => match v with
    | some (.slice (some ⟨b, o, none⟩) _ _) => if (preE w lt e b (o + i * 6)).2 then ((preE w lt e b (o + i * 6)).1 ++ (preL w lt r v (i + 1)).1, (preL w lt r v (i + 1)).2) else ((preE w lt e b (o + i * 6)).1, false)
    | _ => ([], false)
end
theorem preL_snoc {w : World} {lt : Int} {b o n c : Nat} {e : Ex} : ∀ (l : List Ex) (i : Nat), preL w lt (l ++ [e]) (some (.slice (some ⟨b, o, none⟩) n c)) i =
    if (preL w lt l (some (.slice (some ⟨b, o, none⟩) n c)) i).2 then ((preL w lt l (some (.slice (some ⟨b, o, none⟩) n c)) i).1 ++ (preE w lt e b (o + (i + l.length) * 6)).1, (preE w lt e b (o + (i + l.length) * 6)).2) else preL w lt l (some (.slice (some ⟨b, o, none⟩) n c)) i
  | [], i => by
    simp only [List.nil_append, preL, List.length_nil, Nat.add_zero, if_true]
    split
    · rename_i h; simp [h]
    · rename_i h; simp [h]
  | x :: r, i => by
    simp only [List.cons_append, preL, preL_snoc r (i + 1), List.length_cons]
    rw [show i + (r.length + 1) = i + 1 + r.length by omega]
    by_cases h1 : (preE w lt x b (o + i * 6)).2 = true
    · simp only [h1, if_true]
      by_cases h2 : (preL w lt r (some (.slice (some ⟨b, o, none⟩) n c)) (i + 1)).2 = true
      · simp [h2]
      · simp [h2]
    · simp [h1]
theorem preL_stop {w : World} {lt : Int} {b o n c : Nat} : ∀ (l m : List Ex) (i : Nat), (preL w lt l (some (.slice (some ⟨b, o, none⟩) n c)) i).2 = false → preL w lt (l ++ m) (some (.slice (some ⟨b, o, none⟩) n c)) i = preL w lt l (some (.slice (some ⟨b, o, none⟩) n c)) i
  | [], m, i, h => by simp [preL] at h
  | x :: r, m, i, h => by
    simp only [preL, List.cons_append] at h ⊢
    by_cases h1 : (preE w lt x b (o + i * 6)).2 = true
    · simp only [h1, if_true] at h ⊢
      rw [preL_stop r m (i + 1) h]
    · simp [h1]
/- the first arguments' references are a beginning of all -/
theorem preL_pre {w : World} {lt : Int} {b o n c : Nat} : ∀ (l m : List Ex) (i : Nat), ∃ post, (preL w lt (l ++ m) (some (.slice (some ⟨b, o, none⟩) n c)) i).1 = (preL w lt l (some (.slice (some ⟨b, o, none⟩) n c)) i).1 ++ post
  | [], m, i => ⟨_, rfl⟩
  | x :: r, m, i => by
    simp only [preL, List.cons_append]
    by_cases h1 : (preE w lt x b (o + i * 6)).2 = true
    · simp only [h1, if_true]
      obtain ⟨post, hp⟩ := preL_pre r m (i + 1)
      exact ⟨post, by rw [hp]; simp⟩
    · simp only [h1]
      exact ⟨[], by simp⟩

/- what the iterator reads of an expression lies in cells of C -/
mutual
def ExR (w : World) (C : Addr → Prop) : Ex → Nat → Nat → Prop
  | .mk op _ _ _ _ args, b, o => ∃ a cap, (w.cell? ⟨b, o, none⟩ = some (.int .i64 op) ∧ C ⟨b, o, none⟩) ∧ (w.cell? ⟨b, o + 5, none⟩ = some (.slice a args.length cap) ∧ C ⟨b, o + 5, none⟩) ∧ args.length ≤ 140737488355328 ∧ RowR w C a 0 args
def RowR (w : World) (C : Addr → Prop) (a : Option Addr) : Nat → List Ex → Prop
  | _, [] => True
  | i, e :: r => (∃ b o, a = some ⟨b, o, none⟩ ∧ ExR w C e b (o + i * 6)) ∧ RowR w C a (i + 1) r
end
theorem rowR_get {w : World} {C : Addr → Prop} {a : Option Addr} : ∀ {l : List Ex} {k : Nat}, RowR w C a k l → ∀ i (h : i < l.length), ∃ b o, a = some ⟨b, o, none⟩ ∧ ExR w C l[i] b (o + (k + i) * 6)
  | [], _, _, i, h => by simp at h
  | e :: r, k, hr, i, h => by
    rw [RowR] at hr
    cases i with
    | zero => exact hr.1
    | succ i =>
      obtain ⟨b, o, h1, h2⟩ := rowR_get hr.2 i (by simpa using h)
      exact ⟨b, o, h1, by rw [show k + (i + 1) = k + 1 + i by omega]; simpa using h2⟩
/- one argument more -/
theorem preL_next {w : World} {lt : Int} {b o n c : Nat} {l : List Ex} {i : Nat} (h : i < l.length) (hok : (preL w lt (l.take i) (some (.slice (some ⟨b, o, none⟩) n c)) 0).2 = true) :
    preL w lt (l.take (i + 1)) (some (.slice (some ⟨b, o, none⟩) n c)) 0 = ((preL w lt (l.take i) (some (.slice (some ⟨b, o, none⟩) n c)) 0).1 ++ (preE w lt l[i] b (o + i * 6)).1, (preE w lt l[i] b (o + i * 6)).2) := by
  have hl : (l.take i).length = i := by rw [List.length_take]; omega
  rw [List.take_succ_eq_append_getElem h, preL_snoc, hok, if_pos rfl, hl, Nat.zero_add]

/- the state of the iterator within an expression: By, Bi are the boxes of yield and of the function itself -/
structure InSt (J : Nat → (Nat → Prop) → World → Prop) (O : Nat → Prop) (B0 l By Bi k : Nat) (W : World) : Prop where
  j : J k O W
  size : B0 ≤ W.heap.size
  own : ∀ b, O b → b < W.heap.size
  y : O By ∧ W.cell? ⟨By, 0, none⟩ = some (.func (.yield l) #[] #[])
  i : O Bi ∧ W.cell? ⟨Bi, 0, none⟩ = some (.func (.func 82) #[] #[.pointer (some ⟨By, 0, none⟩), .pointer (some ⟨Bi, 0, none⟩)])
section
variable {J : Nat → (Nat → Prop) → World → Prop} {Jx : (Nat → Prop) → World → Prop} {Jp : List PanicEntry → (Nat → Prop) → World → Prop} {O : Nat → Prop} {B0 l By Bi k k' : Nat} {W W' : World}
theorem InSt.below (hJ : Stays J) (h : InSt J O B0 l By Bi k W) (hb : Below W.heap.size W W') : InSt J O B0 l By Bi k W' :=
  ⟨hJ k O W O W' h.j hb.size hb.os hb.tape hb.output (fun b _ hlt => hb.block b hlt) (fun _ => .inl), Nat.le_trans h.size hb.size, fun b hb' => Nat.lt_of_lt_of_le (h.own b hb') hb.size,
    ⟨h.y.1, (hb.cell (p := ⟨By, 0, none⟩) (h.own _ h.y.1)).trans h.y.2⟩, ⟨h.i.1, (hb.cell (p := ⟨Bi, 0, none⟩) (h.own _ h.i.1)).trans h.i.2⟩⟩
theorem InSt.same (h : InSt J O B0 l By Bi k W) (hj : J k' O W') (hs : Same O W W') : InSt J O B0 l By Bi k' W' :=
  ⟨hj, Nat.le_trans h.size hs.1, fun b hb' => Nat.lt_of_lt_of_le (h.own b hb') hs.1, ⟨h.y.1, same_cell hs h.y.1 h.y.2⟩, ⟨h.i.1, same_cell hs h.i.1 h.i.2⟩⟩
theorem InSt.sameBelow (h : InSt J O B0 l By Bi k W) (hb : Below W.heap.size W W') : Same O W W' := ⟨hb.size, fun b hO => hb.block b (h.own b hO)⟩
/- how it ends -/
def InEnd (J : Nat → (Nat → Prop) → World → Prop) (Jx : (Nat → Prop) → World → Prop) (Jp : List PanicEntry → (Nat → Prop) → World → Prop) (O : Nat → Prop) (k : Nat) (ok : Bool) (W : World) (e : Ending) (W' : World) : Prop :=
  (∃ r : Bool, e = .returned (.bool r) ∧ Same O W W' ∧ ((r = true ∧ ok = true ∧ J k O W') ∨ (r = false ∧ Jx O W'))) ∨ ∃ ch, e = .panicked ch ∧ Jp ch O W' ∧ Same O W W'
theorem InEnd.from (hs : Same O W W') {e : Ending} {W2 : World} {ok : Bool} (h : InEnd J Jx Jp O k ok W' e W2) : InEnd J Jx Jp O k ok W e W2 := by
  rcases h with ⟨r, h1, h2, h3⟩ | h
  · exact .inl ⟨r, h1, hs.trans h2, h3⟩
  · obtain ⟨ch, h1, h2, h3⟩ := h
    exact .inr ⟨ch, h1, h2, hs.trans h3⟩
end

end Go.Proofs.Ytapejaabhkfhjaa

/- The iterator over a source's references: the walk of an expression. -/
namespace Go.Proofs.Ytapejaabhkfhjaa
open Go.RowKit

/- what the caller of the iterator promises -/
structure InCtx (n l By Bi B0 : Nat) (O : Nat → Prop) (X : List Us) (w0 : World) (C : Addr → Prop) (J : Nat → (Nat → Prop) → World → Prop) (Jx : (Nat → Prop) → World → Prop) (Jp : List PanicEntry → (Nat → Prop) → World → Prop) : Prop where
  stays : Stays J
  hd : ∀ k O W, J k O W → ∀ p, C p → W.cell? p = w0.cell? p
  hdx : ∀ O W, Jx O W → ∀ p, C p → W.cell? p = w0.cell? p
  round : ∀ k (hk : k < X.length) W, InSt J O B0 l By Bi k W → YieldAt Fence.wide (n - 1) Try.prog l X[k].v W (PartEnd J Jx Jp O (k + 1) W)

set_option maxRecDepth 100000 in
set_option maxHeartbeats 8000000 in
theorem inside_any (n : Nat) (hn : 1 ≤ n) (l By Bi B0 : Nat) (lt : Int) (hlt : 0 ≤ lt ∧ lt ≤ 1000000) (O : Nat → Prop) (X : List Us) (w0 : World) (C : Addr → Prop) (J : Nat → (Nat → Prop) → World → Prop) (Jx : (Nat → Prop) → World → Prop) (Jp : List PanicEntry → (Nat → Prop) → World → Prop)
    (hc : InCtx n l By Bi B0 O X w0 C J Jx Jp) : ∀ (e : Ex) (b o : Nat) (pre : List Us) (W : World), InSt J O B0 l By Bi pre.length W → ExR w0 C e b o → (∃ post, X = pre ++ ((preE w0 lt e b o).1 ++ post)) →
      ((preE w0 lt e b o).2 = false → ∀ W', J (pre.length + (preE w0 lt e b o).1.length) O W' → Jp (errP 170) O W') →
      Calls Try.prog 82 #[.pointer (some ⟨b, o, none⟩), .int .i64 lt, .pointer (some ⟨By, 0, none⟩), .pointer (some ⟨Bi, 0, none⟩)] W (InEnd J Jx Jp O (pre.length + (preE w0 lt e b o).1.length) (preE w0 lt e b o).2 W) := by
  refine ex_ind fun op nn u rn ri args ih => ?_
  intro b o pre W hi hR hX hbad
  rw [ExR] at hR
  obtain ⟨a, cap, ⟨c0, C0⟩, ⟨c5, C5⟩, hl, hrow⟩ := hR
  have HC := Lib.hid hc
  have HI := Lib.hid hi
  have HX := Lib.hid hX
  have HBad := Lib.hid hbad
  have IH := Lib.hid ih
  have HRow := Lib.hid hrow
  have HC5 := Lib.hid C5
  have w0c := (hc.hd _ _ _ hi.j _ C0).trans c0
  have w5c := (hc.hd _ _ _ hi.j _ C5).trans c5
  have y0 := hi.y.2
  have H5 := Lib.hid c5
  have a0 : (W.alloc (.cells #[.pointer (some ⟨b, o + 3, none⟩), .int .i64 0, .int .i64 0] 106)).cell? ⟨b, o, none⟩ = some (.int .i64 op) := ((Below.refl W.heap.size W).alloc (Nat.le_refl _) _).cell (p := ⟨b, o, none⟩) (World.block_lt_of_cell? W _ w0c) |>.trans w0c
  have HE : Hid (preE w0 lt (.mk op nn u rn ri args) b o = if okS op args.length then (⟨b, o + 3, toE op lt, atE op lt, rn, ri⟩ :: (preL w0 lt args (some (.slice a args.length cap)) 0).1, (preL w0 lt args (some (.slice a args.length cap)) 0).2) else ([], false)) := Lib.hid (by rw [preE, c5])
  generalize hP : preE w0 lt (.mk op nn u rn ri args) b o = P at *
  clear hP
  generalize hm : args.length = m at *
  have Hm := Lib.hid hm
  clear hm hc hi hX hbad ih hrow C0 C5 c0 c5
  by_cases h1 : 1 ≤ op
  rotate_left
  · have HF : Hid (P = ([], false)) := Lib.hid (by rw [HE.out]; simp [okS, h1])
    go_enter Try.func82, Try.ntmps82
    go_wp2_with (first | (go_at_call 50; refine (need_no _ _).mono ?_; rintro e w5 ⟨rfl, rfl⟩))
    exact ⟨rfl, .inr ⟨_, rfl, HBad.out (by rw [HF.out]) _ (by rw [HF.out]; exact HI.out.j), Same.refl _ _⟩⟩
  by_cases h6 : op ≤ 6
  rotate_left
  · have HF : Hid (P = ([], false)) := Lib.hid (by rw [HE.out]; simp [okS, h6])
    go_enter Try.func82, Try.ntmps82
    go_wp2_with (first | (go_at_call 50; refine (need_no _ _).mono ?_; rintro e w5 ⟨rfl, rfl⟩))
    exact ⟨rfl, .inr ⟨_, rfl, HBad.out (by rw [HF.out]) _ (by rw [HF.out]; exact HI.out.j), Same.refl _ _⟩⟩
  go_enter Try.func82, Try.ntmps82
  go_upto_if 30 with (first | (go_at_call 50; refine (need_yes _ _).mono ?_; rintro e w5 ⟨rfl, rfl⟩))
  go_cut [31] from 22 (fun _ w' => Hid (Below w5.heap.size w5 w' ∧ w'.heap[w5.heap.size]? = some (.cells #[.pointer (some ⟨b, o + 3, none⟩), .int .i64 (toE op lt), .int .i64 (atE op lt)] 106 (0, 0))))
  case first =>
    go_wp2
    all_goals
      go_meet
      case rel => exact Lib.hid ⟨(Below.refl _ _).alloc (Nat.le_refl _) _, by rw [World.alloc_heap_new]; simp_all [toE, atE] <;> omega⟩
  clear a0
  have HBc := Lib.hid hcut.out.1
  have HUc := Lib.hid hcut.out.2
  have b0 := (HBc.out.cell (p := ⟨b, o, none⟩) (World.block_lt_of_cell? w5 _ w0c)).trans w0c
  have b5 := (HBc.out.cell (p := ⟨b, o + 5, none⟩) (World.block_lt_of_cell? w5 _ w5c)).trans w5c
  have HIc := Lib.hid (HI.out.below HC.out.stays HBc.out)
  clear hcut w0c w5c
  go_upto_if 42 with fail
  go_cut [31] from 22 (fun _ w' => Hid (w' = wc ∧ okS op m = true))
  case first =>
    by_cases h3 : 3 ≤ op
    · by_cases h2 : m = 2
      · have hb2 : ((m : Int) == 2) = true := by simp; omega
        have HOk : Hid (okS op m = true) := Lib.hid (by simp [okS, h1, h6, h3, h2])
        clear h2
        go_wp2_with (first | (go_at_call 50; refine (need_yes _ _).mono ?_; rintro e w6 ⟨rfl, rfl⟩))
        go_meet
        case rel => exact Lib.hid ⟨rfl, HOk.out⟩
      · have hb2 : ((m : Int) == 2) = false := by simp; omega
        have HF : Hid (P = ([], false)) := Lib.hid (by rw [HE.out]; simp [okS, h3, h2])
        clear h2
        go_wp2_with (first | (go_at_call 50; refine (need_no _ _).mono ?_; rintro e w6 ⟨rfl, rfl⟩))
        exact ⟨rfl, .inr ⟨_, rfl, HBad.out (by rw [HF.out]) _ (by rw [HF.out]; exact HIc.out.j), HI.out.sameBelow HBc.out⟩⟩
    · by_cases h2 : m = 0
      · have hb2 : ((m : Int) == 0) = true := by simp; omega
        have HOk : Hid (okS op m = true) := Lib.hid (by simp [okS, h1, h6, h3, h2])
        clear h2
        go_wp2_with (first | (go_at_call 50; refine (need_yes _ _).mono ?_; rintro e w6 ⟨rfl, rfl⟩))
        go_meet
        case rel => exact Lib.hid ⟨rfl, HOk.out⟩
      · have hb2 : ((m : Int) == 0) = false := by simp; omega
        have HF : Hid (P = ([], false)) := Lib.hid (by rw [HE.out]; simp [okS, h3, h2])
        clear h2
        go_wp2_with (first | (go_at_call 50; refine (need_no _ _).mono ?_; rintro e w6 ⟨rfl, rfl⟩))
        exact ⟨rfl, .inr ⟨_, rfl, HBad.out (by rw [HF.out]) _ (by rw [HF.out]; exact HIc.out.j), HI.out.sameBelow HBc.out⟩⟩
  obtain ⟨rfl, hok⟩ := hcut.out
  have HP : Hid (P = (⟨b, o + 3, toE op lt, atE op lt, rn, ri⟩ :: (preL w0 lt args (some (.slice a m cap)) 0).1, (preL w0 lt args (some (.slice a m cap)) 0).2)) := Lib.hid (by rw [HE.out, hok]; rfl)
  have hk : pre.length < X.length := by
    obtain ⟨post, hx⟩ := HX.out
    rw [hx, HP.out]; simp
  have hxk : X[pre.length].v = #[.agg #[.pointer (some ⟨b, o + 3, none⟩), .int .i64 (toE op lt), .int .i64 (atE op lt)]] := by
    obtain ⟨post, hx⟩ := HX.out
    have : X[pre.length]? = some ⟨b, o + 3, toE op lt, atE op lt, rn, ri⟩ := by rw [hx, HP.out]; simp
    rw [List.getElem?_eq_getElem hk] at this
    rw [Option.some.inj this]; rfl
  obtain ⟨yfn, ytmps, yassign, ybody, hy, hyR⟩ := HC.out.round pre.length hk _ HIc.out
  rw [hxk] at hy
  have HyR := Lib.hid hyR
  have q0 : wc.cell? ⟨w5.heap.size, 0, none⟩ = some (.pointer (some ⟨b, o + 3, none⟩)) := by simp [World.cell?, HUc.out]
  have q1 : wc.cell? ⟨w5.heap.size, 1, none⟩ = some (.int .i64 (toE op lt)) := by simp [World.cell?, HUc.out]
  have q2 : wc.cell? ⟨w5.heap.size, 2, none⟩ = some (.int .i64 (atE op lt)) := by simp [World.cell?, HUc.out]
  have q3 := HIc.out.y.2
  clear hk hxk hyR hcut hok
  go_upto_region 10 with fail
  refine (wpIn_wide (n := n)).1 ?_
  gi_wp2
  refine HyR.out.mono ?_
  rintro e W3 (⟨rfl, hj, hs⟩ | ⟨rfl, hx, hs⟩ | ⟨ch, rfl, hp, hs⟩)
  rotate_left
  · have HX3 := Lib.hid hx
    have HS3 := Lib.hid ((HI.out.sameBelow HBc.out).trans hs)
    clear hx hs q0 q1 q2 q3 hy b0 b5
    gi_wp2
    go_wp2
    go_ret
    exact .inl ⟨false, rfl, HS3.out, .inr ⟨rfl, HX3.out⟩⟩
  · exact ⟨rfl, .inr ⟨ch, rfl, hp, (HI.out.sameBelow HBc.out).trans hs⟩⟩
  have HI3 := Lib.hid (HIc.out.same hj hs)
  have HS3 := Lib.hid ((HI.out.sameBelow HBc.out).trans hs)
  have d5 := (HC.out.hd _ _ _ hj _ HC5.out).trans H5.out
  clear hj hs q0 q1 q2 q3 hy b0 b5
  gi_wp2
  go_wp2
  clear d5
  go_loopw [66] (fun iv wr => ∃ i : Nat, iv = .int .i64 i ∧ i ≤ m ∧ Hid (InSt J O B0 l By Bi (pre.length + 1 + (preL w0 lt (args.take i) (some (.slice a m cap)) 0).1.length) wr) ∧ Hid (Same O w5 wr) ∧ Hid ((preL w0 lt (args.take i) (some (.slice a m cap)) 0).2 = true)) (fun iv _ => m - (intOf iv).toNat)
  case atStart => exact ⟨0, rfl, Nat.zero_le _, HI3, HS3, Lib.hid rfl⟩
  case round =>
    obtain ⟨i, rfl, hi, HIr, HSr, HOr⟩ := hrel
    by_cases hlt : i < m
    · have hil : i < args.length := by rw [Hm.out]; exact hlt
      obtain ⟨b', o', rfl, hex⟩ := rowR_get HRow.out i hil
      rw [Nat.zero_add] at hex
      have hn1 := preL_next hil HOr.out
      have HNx := Lib.hid hn1
      have HXs : Hid (∃ post, X = (pre ++ (⟨b, o + 3, toE op lt, atE op lt, rn, ri⟩ :: (preL w0 lt (args.take i) (some (.slice (some ⟨b', o', none⟩) m cap)) 0).1)) ++ ((preE w0 lt args[i] b' (o' + i * 6)).1 ++ post)) := Lib.hid (by
        obtain ⟨post, hx⟩ := HX.out
        obtain ⟨post2, hp2⟩ := preL_pre (w := w0) (lt := lt) (b := b') (o := o') (n := m) (c := cap) (args.take (i + 1)) (args.drop (i + 1)) 0
        rw [List.take_append_drop, hn1] at hp2
        refine ⟨post2 ++ post, ?_⟩
        rw [hx, HP.out]
        simp only [hp2]
        simp)
      have HBs : Hid ((preE w0 lt args[i] b' (o' + i * 6)).2 = false → ∀ W', J ((pre ++ (⟨b, o + 3, toE op lt, atE op lt, rn, ri⟩ :: (preL w0 lt (args.take i) (some (.slice (some ⟨b', o', none⟩) m cap)) 0).1)).length + (preE w0 lt args[i] b' (o' + i * 6)).1.length) O W' → Jp (errP 170) O W') := Lib.hid (fun hf W' hj => by
        have hst := preL_stop (w := w0) (lt := lt) (b := b') (o := o') (n := m) (c := cap) (args.take (i + 1)) (args.drop (i + 1)) 0 (by rw [hn1]; exact hf)
        rw [List.take_append_drop, hn1] at hst
        refine HBad.out (by rw [HP.out]; simp only [hst]; exact hf) W' ?_
        rw [HP.out]
        simp only [hst]
        have e1 : pre.length + (⟨b, o + 3, toE op lt, atE op lt, rn, ri⟩ :: ((preL w0 lt (args.take i) (some (.slice (some ⟨b', o', none⟩) m cap)) 0).1 ++ (preE w0 lt args[i] b' (o' + i * 6)).1)).length = (pre ++ (⟨b, o + 3, toE op lt, atE op lt, rn, ri⟩ :: (preL w0 lt (args.take i) (some (.slice (some ⟨b', o', none⟩) m cap)) 0).1)).length + (preE w0 lt args[i] b' (o' + i * 6)).1.length := by simp; omega
        rw [e1]; exact hj)
      have HCl := Lib.hid (fun (W : World) (hW : InSt J O B0 l By Bi (pre.length + 1 + (preL w0 lt (args.take i) (some (.slice (some ⟨b', o', none⟩) m cap)) 0).1.length) W) => IH.out args[i] (List.getElem_mem hil) b' (o' + i * 6) (pre ++ (⟨b, o + 3, toE op lt, atE op lt, rn, ri⟩ :: (preL w0 lt (args.take i) (some (.slice (some ⟨b', o', none⟩) m cap)) 0).1)) W (by
        have e1 : (pre ++ (⟨b, o + 3, toE op lt, atE op lt, rn, ri⟩ :: (preL w0 lt (args.take i) (some (.slice (some ⟨b', o', none⟩) m cap)) 0).1)).length = pre.length + 1 + (preL w0 lt (args.take i) (some (.slice (some ⟨b', o', none⟩) m cap)) 0).1.length := by simp; omega
        rw [e1]; exact hW) hex HXs.out HBs.out)
      have HNl : Hid ((pre ++ (⟨b, o + 3, toE op lt, atE op lt, rn, ri⟩ :: (preL w0 lt (args.take i) (some (.slice (some ⟨b', o', none⟩) m cap)) 0).1)).length + (preE w0 lt args[i] b' (o' + i * 6)).1.length = pre.length + 1 + (preL w0 lt (args.take (i + 1)) (some (.slice (some ⟨b', o', none⟩) m cap)) 0).1.length) := Lib.hid (by rw [hn1]; simp; omega)
      have HNo : Hid ((preL w0 lt (args.take (i + 1)) (some (.slice (some ⟨b', o', none⟩) m cap)) 0).2 = (preE w0 lt args[i] b' (o' + i * 6)).2) := Lib.hid (by rw [hn1])
      have HIr1 := Lib.hid (HIr.out.below HC.out.stays ((Below.refl wr.heap.size wr).drew))
      have hki : (i : Int) < (m : Int) := by omega
      have e5 := (HC.out.hd _ _ _ HIr.out.j _ HC5.out).trans H5.out
      have eB := HIr.out.i.2
      have HS1 : Hid (wr.drew.cell? ⟨Bi, 0, none⟩ = some (.func (.func 82) #[] #[.pointer (some ⟨By, 0, none⟩), .pointer (some ⟨Bi, 0, none⟩)]) ∧ wr.drew.cell? ⟨b, o + 5, none⟩ = some (.slice (some ⟨b', o', none⟩) m cap)) := Lib.hid ⟨HIr1.out.i.2, (HC.out.hd _ _ _ HIr1.out.j _ HC5.out).trans H5.out⟩
      have HSd := Lib.hid (HSr.out.trans (HIr.out.sameBelow ((Below.refl wr.heap.size wr).drew)))
      clear hn1 hex
      go_wp2_with fail
      go_region_held2 (fun w' => w'.cell? ⟨Bi, 0, none⟩ = some (.func (.func 82) #[] #[.pointer (some ⟨By, 0, none⟩), .pointer (some ⟨Bi, 0, none⟩)]) ∧ w'.cell? ⟨b, o + 5, none⟩ = some (.slice (some ⟨b', o', none⟩) m cap)) (first | exact HS1.out | exact HS2.out)
        (first | (go_at_call 82; refine (HCl.out _ HIr1.out).mono ?_; rintro e w2 (⟨r, rfl, hs2, hr⟩ | ⟨ch, rfl, hp, hs2⟩); rotate_left; exact ⟨rfl, .inr ⟨ch, rfl, hp, HSd.out.trans hs2⟩⟩; have HS2 := Lib.hid (And.intro (same_cell hs2 HIr1.out.i.1 HIr1.out.i.2) (hr.elim (fun h => (HC.out.hd _ _ _ h.2.2 _ HC5.out).trans H5.out) (fun h => (HC.out.hdx _ _ h.2 _ HC5.out).trans H5.out))); have HR := Lib.hid hr; have HSw := Lib.hid hs2; clear hr hs2))
      rcases HR.out with ⟨rfl, hok2, hj2⟩ | ⟨rfl, hx2⟩
      · have HJ2 := Lib.hid hj2
        have HO2 := Lib.hid hok2
        clear hok2 hj2 HR e5 eB
        go_wp2
        exact ⟨⟨i + 1, by push_cast; rfl, by omega, Lib.hid (by rw [← HNl.out]; exact HIr1.out.same HJ2.out HSw.out), Lib.hid (HSd.out.trans HSw.out), Lib.hid (by rw [HNo.out]; exact HO2.out)⟩, by simp [intOf]; omega⟩
      · have HX2 := Lib.hid hx2
        clear hx2 HR e5 eB
        go_wp2
        go_ret
        exact .inl ⟨false, rfl, HSd.out.trans HSw.out, .inr ⟨rfl, HX2.out⟩⟩
    · obtain rfl : i = m := by omega
      have HFin : Hid (P.2 = true ∧ J (pre.length + P.1.length) O wr) := Lib.hid (by
        have h1 := HOr.out
        have h2 := HIr.out.j
        rw [← Hm.out, List.take_length] at h1 h2
        rw [HP.out]
        simp only [List.length_cons]
        rw [Hm.out] at h1 h2
        exact ⟨h1, by rw [show pre.length + ((preL w0 lt args (some (.slice a i cap)) 0).1.length + 1) = pre.length + 1 + (preL w0 lt args (some (.slice a i cap)) 0).1.length by omega]; exact h2⟩)
      have hki : decide ((i : Int) < (i : Int)) = false := by simp
      go_wp2
      go_ret
      exact .inl ⟨true, rfl, HSr.out, .inl ⟨rfl, HFin.out.1, HFin.out.2⟩⟩

end Go.Proofs.Ytapejaabhkfhjaa

/- The program's leftOut; appending to a slice of the iterator's own. -/
namespace Go.Proofs.Ytapejaabhkfhjaa
open Go.RowKit

def leftC (op n u : Int) (rn : ByteArray) (ri : Int) (m : Nat) : Bool := decide (op = 0) && (decide (n = 0) && (decide (u = 0) && (decide (rn.size = 0 ∧ ri = 0) && decide (m = 0))))
theorem size_nil (s : ByteArray) : s.size = 0 ↔ s.toList = [] := by
  rw [ByteArray.toList_eq, ← List.length_eq_zero_iff, length_toList]
set_option maxHeartbeats 2000000 in
theorem leftOut_any (op nn u : Int) (rn : ByteArray) (ri : Int) (a : Option Addr) (m cap : Nat) (w : World) :
    Calls Try.prog 83 #[.agg #[.int .i64 op, .int .i64 nn, .int .i64 u, .string rn, .int .i64 ri, .slice a m cap]] w fun e w' => e = .returned (.bool (leftC op nn u rn ri m)) ∧ Below w.heap.size w w' := by
  by_cases h0 : op = 0
  · by_cases h1 : nn = 0
    · by_cases h2 : u = 0
      · subst h0 h1 h2
        go_enter Try.func83, Try.ntmps83
        go_wp2
        · rename_i h1 h2
          go_ret
          refine ⟨ret_bool ?_, (Below.refl _ _).alloc (Nat.le_refl _) _⟩
          simp only [leftC, decide_eq_true (show rn.size = 0 ∧ ri = 0 from ⟨(size_nil rn).2 h1, h2⟩)]
          rw [Bool.eq_iff_iff]; simp
        · rename_i h1 h2
          go_ret
          refine ⟨ret_bool ?_, (Below.refl _ _).alloc (Nat.le_refl _) _⟩
          simp only [leftC, decide_eq_false (show ¬ (rn.size = 0 ∧ ri = 0) from fun h => h2 h.2)]
          simp
        · rename_i h1
          go_ret
          refine ⟨ret_bool ?_, (Below.refl _ _).alloc (Nat.le_refl _) _⟩
          simp only [leftC, decide_eq_false (show ¬ (rn.size = 0 ∧ ri = 0) from fun h => h1 ((size_nil rn).1 h.1))]
          simp
      · have hu : (u == 0) = false := by simpa using h2
        subst h0 h1
        go_enter Try.func83, Try.ntmps83
        go_wp2
        go_ret
        exact ⟨ret_bool (by simp [leftC, h2]), (Below.refl _ _).alloc (Nat.le_refl _) _⟩
    · have hu : (nn == 0) = false := by simpa using h1
      subst h0
      go_enter Try.func83, Try.ntmps83
      go_wp2
      go_ret
      exact ⟨ret_bool (by simp [leftC, h1]), (Below.refl _ _).alloc (Nat.le_refl _) _⟩
  · have hu : (op == 0) = false := by simpa using h0
    go_enter Try.func83, Try.ntmps83
    go_wp2
    go_ret
    exact ⟨ret_bool (by simp [leftC, h0]), (Below.refl _ _).alloc (Nat.le_refl _) _⟩

/- the cells of a slice -/
def RawCells (w : World) (X : Value) (n size : Nat) (cells : List Value) : Prop :=
  cells.length = n * size ∧ (∀ u ∈ cells, u.oneCell' = true) ∧ ∃ a cap, X = .slice a n cap ∧ (n = 0 ∨ ∃ b o, a = some ⟨b, o, none⟩ ∧ b < w.heap.size ∧ ∀ j u, cells[j]? = some u → w.cell? ⟨b, o + j, none⟩ = some u)
theorem run_append_zero {t e : TypeId} {i : TypeInfo} {size : Nat} (ht : Try.prog.underlying t = some (.slice e)) (hi : Try.prog.info? e = some i) (w : World) (B : Nat) (ty : TypeId) (v : Value) (n : Nat) (xs : List Value) (hown : w.ownsRow B e size v n xs) (a : Option Addr) (c : Nat) :
    (Builtin.append_ #[t, t] ty #[v, .slice a 0 c]).run Try.prog w = .ok v w := by
  rcases hown.2 with ⟨rfl, _⟩ | ⟨g, cap, cur, rfl, _, _, hnc, hcm, _⟩
  · cases a <;> simp [Builtin.append_, run_underlying ht, sizeOf, typeInfo, hi, Builtin.lenOf, Builtin.firstCells, loadCells, loadCellsFrom]
  · cases a <;> simp [Builtin.append_, run_underlying ht, sizeOf, typeInfo, hi, Builtin.lenOf, Builtin.firstCells, storeCells, loadCells, loadCellsFrom, hnc]
theorem step_append_raw {ops : Array Oper} {o : Oper} {a : Act} {K : Act → World → Prop} {Q : Exit → Act → World → Prop} {E : Prop} {W : World} {t e : TypeId} {i0 : TypeInfo} {z : Value} {size bytes : Nat} (ht : Try.prog.underlying t = some (.slice e)) (hi : Try.prog.info? e = some i0) (hz0 : i0.zero = some z) (hz1 : i0.size = size) (hz2 : i0.bytes = bytes) (hzc : z.cells.size = size) (hsz : 0 < size) (hby : bytes ≤ 64)
    (B : Nat) (hgd : o.guard = none) (s x : Operand) (ho : o.op = .call { callee := .builtin .append, args := #[s, x], argTypes := #[t, t] }) (v : Value) (n : Nat) (xs : List Value) (hs : a.eval s = v) (hown : W.ownsRow B e size v n xs)
    (X : Value) (m : Nat) (ys : List Value) (hx : a.eval x = X) (hX : RawCells W X m size ys) (hlen : n + m ≤ 1000000) (hbase : B ≤ W.heap.size)
    (h : ∀ (ad : Option Addr) (c : Nat) w', w'.ownsRow B e size (.slice ad (n + m) c) (n + m) (xs ++ ys) → W.grownBy w' v.ownBlock → K (a.put o.dst (.slice ad (n + m) c)) w') :
    if Region.wanted o (yielded ops a.tmps) = true then Oper.wp Try.prog o a W K Q else E := by
  have hw : Region.wanted o (yielded ops a.tmps) = true := by simp [Region.wanted, hgd]
  rw [if_pos hw]
  obtain ⟨hyl, hyc, ad, cap, rfl, hcases⟩ := hX
  by_cases hm : m = 0
  · subst hm
    obtain rfl : ys = [] := List.length_eq_zero_iff.1 (by simpa using hyl)
    have hrun := run_append_zero ht hi W B o.type v n xs hown ad cap
    obtain ⟨va, vc, rfl⟩ : ∃ a c, v = .slice a n c := by
      rcases hown.2 with ⟨rfl, hn⟩ | ⟨g, cap, cur, rfl, _⟩
      · exact ⟨none, 0, by rw [hn]⟩
      · exact ⟨_, _, rfl⟩
    unfold Oper.wp
    simp [execOp, ho, resolve, invoke, builtin, hs, hx, hrun, Result.andThen]
    have hh := h va vc W (by simpa using hown) ⟨rfl, rfl, rfl, Nat.le_refl _, fun _ _ _ => rfl⟩
    rw [Nat.add_zero] at hh
    exact hh
  · obtain ⟨b, off, rfl, hb, hc⟩ := hcases.resolve_left hm
    refine wp_append_own W s x t ho B e i0 z size bytes ht hi hz0 hz1 hz2 hzc hsz v n xs hs hown ⟨b, off, none⟩ m cap ys hx hyl (fun j u hj => ?_) hyc (by unfold maxLen; omega) (by
      have : (n + m) * bytes ≤ 1000000 * 64 := Nat.mul_le_mul hlen hby
      omega) hbase ?_
    · rw [WideShapes.add_plain]; exact hc j u hj
    · intro v' w' hown' hg _
      obtain ⟨va, vc, rfl⟩ : ∃ a c, v' = .slice a (n + m) c := by
        rcases hown'.2 with ⟨rfl, hn⟩ | ⟨g, cap, cur, rfl, _⟩
        · exact ⟨none, 0, by rw [hn]⟩
        · exact ⟨_, _, rfl⟩
      exact h va vc w' hown' hg


/- a slice of uses of the iterator's own -/
def useCells (u : Us) : List Value := [.pointer (some ⟨u.b, u.o, none⟩), .int .i64 u.to, .int .i64 u.at_]
def OwnUs (B : Nat) (w : World) (v : Value) (us : List Us) : Prop := w.ownsRow B 106 3 v us.length (us.flatMap useCells)
theorem ownUs_nil (B : Nat) (w : World) : OwnUs B w (.slice none 0 0) [] := ⟨rfl, .inl ⟨rfl, rfl⟩⟩
theorem step_append_us {ops : Array Oper} {o : Oper} {a : Act} {K : Act → World → Prop} {Q : Exit → Act → World → Prop} {E : Prop} {W : World} (B : Nat) (hgd : o.guard = none) (s x : Operand) (ho : o.op = .call { callee := .builtin .append, args := #[s, x], argTypes := #[151, 151] })
    (v : Value) (us : List Us) (hs : a.eval s = v) (hown : OwnUs B W v us) (X : Value) (ys : List Us) (hx : a.eval x = X) (hX : RawCells W X ys.length 3 (ys.flatMap useCells)) (hlen : us.length + ys.length ≤ 1000000) (hbase : B ≤ W.heap.size)
    (h : ∀ (ad : Option Addr) (c : Nat) w', OwnUs B w' (.slice ad (us.length + ys.length) c) (us ++ ys) → W.grownBy w' v.ownBlock → K (a.put o.dst (.slice ad (us.length + ys.length) c)) w') :
    if Region.wanted o (yielded ops a.tmps) = true then Oper.wp Try.prog o a W K Q else E := by
  have hinfo : (Try.prog.info? 106).map (fun i => (i.zero, i.size, i.bytes)) = some (some (.agg #[.pointer none, .int .i64 0, .int .i64 0]), 3, 24) := by kernel_rfl
  obtain ⟨i0, hi, hz0, hz1, hz2⟩ := info_parts hinfo
  exact step_append_raw Try.underlying151 hi hz0 hz1 hz2 rfl (by decide) (by decide) B hgd s x ho v us.length _ hs hown X ys.length _ hx hX hlen hbase (fun ad c w' hw hg => h ad c w' (by
    unfold OwnUs
    rw [List.length_append, List.flatMap_append]
    exact hw) hg)
theorem wp_append_us {o : Oper} {a : Act} {K : Act → World → Prop} {Q : Exit → Act → World → Prop} {W : World} (B : Nat) (hgd : o.guard = none) (s x : Operand) (ho : o.op = .call { callee := .builtin .append, args := #[s, x], argTypes := #[151, 151] })
    (v : Value) (us : List Us) (hs : a.eval s = v) (hown : OwnUs B W v us) (X : Value) (ys : List Us) (hx : a.eval x = X) (hX : RawCells W X ys.length 3 (ys.flatMap useCells)) (hlen : us.length + ys.length ≤ 1000000) (hbase : B ≤ W.heap.size)
    (h : ∀ (ad : Option Addr) (c : Nat) w', OwnUs B w' (.slice ad (us.length + ys.length) c) (us ++ ys) → W.grownBy w' v.ownBlock → K (a.put o.dst (.slice ad (us.length + ys.length) c)) w') : Oper.wp Try.prog o a W K Q := by
  have hh := step_append_us (ops := #[]) (E := True) (Q := Q) B hgd s x ho v us hs hown X ys hx hX hlen hbase h
  rwa [if_pos (by simp [Region.wanted, hgd])] at hh
theorem useCells_len : ∀ us : List Us, (us.flatMap useCells).length = us.length * 3
  | [] => rfl
  | x :: r => by rw [List.flatMap_cons, List.length_append, useCells_len r, List.length_cons]; simp only [useCells, List.length_cons, List.length_nil]; omega
/- the new block that is appended -/
theorem raw_new {w' : World} {us : List Us} {b : Nat} (hb : w'.heap[b]? = some (.cells (us.flatMap useCells).toArray 106 (0, 0))) (c : Nat) : RawCells w' (.slice (some ⟨b, 0, none⟩) us.length c) us.length 3 (us.flatMap useCells) := by
  refine ⟨?_, ?_, some ⟨b, 0, none⟩, c, rfl, .inr ⟨b, 0, rfl, (Array.getElem?_eq_some_iff.1 hb).1, fun j u hj => ?_⟩⟩
  · exact useCells_len us
  · intro u hu
    obtain ⟨x, _, hx⟩ := List.mem_flatMap.1 hu
    simp [useCells] at hx
    rcases hx with rfl | rfl | rfl <;> rfl
  · simp only [World.cell?, hb]
    simpa using hj

end Go.Proofs.Ytapejaabhkfhjaa

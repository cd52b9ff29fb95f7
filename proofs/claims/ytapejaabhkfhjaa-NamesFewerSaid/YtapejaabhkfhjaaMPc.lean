/- slices.Clone at the types of a source's lists (printed by gen_pc.py). -/
import Derived.Test.YtapejaabhkfhjaaMPa
import Derived.Test.YtapejaabhkfhjaaMOe
import Derived.Lib.SliceRun
namespace Go.Proofs.Ytapejaabhkfhjaa
open Go.RowKit

theorem step_append_big {ops : Array Oper} {o : Oper} {a : Act} {K : Act → World → Prop} {Q : Exit → Act → World → Prop} {E : Prop} {W : World} {t e : TypeId} {i0 : TypeInfo} {z : Value} {size bytes : Nat} (ht : Try.prog.underlying t = some (.slice e)) (hi : Try.prog.info? e = some i0) (hz0 : i0.zero = some z) (hz1 : i0.size = size) (hz2 : i0.bytes = bytes) (hzc : z.cells.size = size) (hsz : 0 < size) (hby : bytes ≤ 10000)
    (B : Nat) (hgd : o.guard = none) (s x : Operand) (ho : o.op = .call { callee := .builtin .append, args := #[s, x], argTypes := #[t, t] }) (v : Value) (n : Nat) (xs : List Value) (hs : a.eval s = v) (hown : W.ownsRow B e size v n xs)
    (X : Value) (m : Nat) (ys : List Value) (hx : a.eval x = X) (hX : RawCells W X m size ys) (hlen : n + m ≤ 1000000) (hbase : B ≤ W.heap.size)
    (h : ∀ (ad : Option Addr) (c : Nat) w', w'.ownsRow B e size (.slice ad (n + m) c) (n + m) (xs ++ ys) → W.grownBy w' v.ownBlock → K (a.put o.dst (.slice ad (n + m) c)) w') :
    if Region.wanted o (yielded ops a.tmps) = true then Oper.wp Try.prog o a W K Q else E := by
  have hw : Region.wanted o (yielded ops a.tmps) = true := by simp [Region.wanted, hgd]
  rw [if_pos hw]
  obtain ⟨hyl, hyc, ad, cap, rfl, hcases⟩ := hX
  by_cases hm : m = 0
  · subst hm
    obtain rfl : ys = [] := List.length_eq_zero_iff.1 (by simpa using hyl)
    have hrun := run_append_zero ht hi W B o.type v n xs hown ad cap
    obtain ⟨va, vc, rfl⟩ : ∃ a c, v = .slice a n c := by
      rcases hown.2 with ⟨rfl, hn⟩ | ⟨g, cap, cur, rfl, _⟩
      · exact ⟨none, 0, by rw [hn]⟩
      · exact ⟨_, _, rfl⟩
    unfold Oper.wp
    simp [execOp, ho, resolve, invoke, builtin, hs, hx, hrun, Result.andThen]
    have hh := h va vc W (by simpa using hown) ⟨rfl, rfl, rfl, Nat.le_refl _, fun _ _ _ => rfl⟩
    rw [Nat.add_zero] at hh
    exact hh
  · obtain ⟨b, off, rfl, hb, hc⟩ := hcases.resolve_left hm
    refine wp_append_own W s x t ho B e i0 z size bytes ht hi hz0 hz1 hz2 hzc hsz v n xs hs hown ⟨b, off, none⟩ m cap ys hx hyl (fun j u hj => ?_) hyc (by unfold maxLen; omega) (by
      have : (n + m) * bytes ≤ 1000000 * 10000 := Nat.mul_le_mul hlen hby
      omega) hbase ?_
    · rw [WideShapes.add_plain]; exact hc j u hj
    · intro v' w' hown' hg _
      obtain ⟨va, vc, rfl⟩ : ∃ a c, v' = .slice a (n + m) c := by
        rcases hown'.2 with ⟨rfl, hn⟩ | ⟨g, cap, cur, rfl, _⟩
        · exact ⟨none, 0, by rw [hn]⟩
        · exact ⟨_, _, rfl⟩
      exact h va vc w' hown' hg


theorem wpList_append_big {ops : Array Oper} {o : Oper} {a : Act} {rest : List Oper} {Q : Exit → Act → World → Prop} {W : World} {t e : TypeId} {i0 : TypeInfo} {z : Value} {size bytes : Nat} (ht : Try.prog.underlying t = some (.slice e)) (hi : Try.prog.info? e = some i0) (hz0 : i0.zero = some z) (hz1 : i0.size = size) (hz2 : i0.bytes = bytes) (hzc : z.cells.size = size) (hsz : 0 < size) (hby : bytes ≤ 10000)
    (B : Nat) (hgd : o.guard = none) (s x : Operand) (ho : o.op = .call { callee := .builtin .append, args := #[s, x], argTypes := #[t, t] }) (v : Value) (n : Nat) (xs : List Value) (hs : a.eval s = v) (hown : W.ownsRow B e size v n xs)
    (X : Value) (m : Nat) (ys : List Value) (hx : a.eval x = X) (hX : RawCells W X m size ys) (hlen : n + m ≤ 1000000) (hbase : B ≤ W.heap.size)
    (h : ∀ (ad : Option Addr) (c : Nat) w', w'.ownsRow B e size (.slice ad (n + m) c) (n + m) (xs ++ ys) → W.grownBy w' v.ownBlock → wpList Try.prog ops Q rest (a.put o.dst (.slice ad (n + m) c)) w') : wpList Try.prog ops Q (o :: rest) a W :=
  wpList_plain hgd fun K hK => by
    have hh := step_append_big (ops := ops) (E := True) (K := K) (Q := Q) ht hi hz0 hz1 hz2 hzc hsz hby B hgd s x ho v n xs hs hown X m ys hx hX hlen hbase (fun ad c w' h1 h2 => hK _ _ (h ad c w' h1 h2))
    rwa [if_pos (by simp [Region.wanted, hgd])] at hh


/- rows that a slice holds -/
theorem flat_get : ∀ (css : List (List Value)) (sz : Nat), (∀ cs ∈ css, cs.length = sz) → css.flatten.length = css.length * sz ∧ ∀ i (h : i < css.length) j, j < sz → css.flatten[i * sz + j]? = css[i][j]?
  | [], sz, _ => ⟨by simp, fun i h => by simp at h⟩
  | c :: r, sz, h => by
    obtain ⟨h1, h2⟩ := flat_get r sz (fun cs hc => h cs (List.mem_cons_of_mem _ hc))
    have hc := h c List.mem_cons_self
    refine ⟨by rw [List.flatten_cons, List.length_append, h1, hc, List.length_cons, Nat.add_mul]; omega, fun i hi j hj => ?_⟩
    cases i with
    | zero => rw [List.flatten_cons, Nat.zero_mul, Nat.zero_add, List.getElem?_append_left (by omega)]; rfl
    | succ i =>
      rw [List.flatten_cons, List.getElem?_append_right (by rw [hc, Nat.add_mul]; omega), hc, show (i + 1) * sz + j - sz = i * sz + j by rw [Nat.add_mul]; omega]
      exact h2 i (by simpa using hi) j hj
theorem isRow_raw {α : Type} {N : Nat → Prop} {w : World} {sz : Nat} {Q : List Value → α → Prop} {h : Hdr} {l : List α} (hr : IsRow N w sz Q h l) (hN : ∀ b, N b → b < w.heap.size) (hone : ∀ cs d, Q cs d → ∀ v ∈ cs, v.oneCell' = true) :
    ∃ css : List (List Value), css.length = l.length ∧ (∀ i (hi : i < css.length) (hi' : i < l.length), css[i].length = sz ∧ Q css[i] l[i]) ∧ (∀ cs ∈ css, cs.length = sz) ∧ RawCells w h.v h.n sz css.flatten := by
  obtain ⟨h1, h2, h3⟩ := hr
  have hch : ∀ i, ∃ cs : List Value, ∀ (hi : i < l.length), cs.length = sz ∧ Q cs l[i] ∧ ∃ b o, h.a = some ⟨b, o, none⟩ ∧ N b ∧ w.rangeAt b (o + i * sz) cs := fun i => by
    by_cases hi : i < l.length
    · obtain ⟨b, o, cs, g1, g2, g3, g4, g5⟩ := h3 i hi
      exact ⟨cs, fun _ => ⟨g3, g5, b, o, g1, g2, g4⟩⟩
    · exact ⟨[], fun h => absurd h hi⟩
  obtain ⟨F, hF⟩ := Classical.axiomOfChoice hch
  have hl : ((List.range l.length).map F).length = l.length := by simp
  have hg : ∀ i (hi : i < ((List.range l.length).map F).length), ((List.range l.length).map F)[i] = F i := fun i hi => by simp
  have hsz : ∀ cs ∈ (List.range l.length).map F, cs.length = sz := fun cs hc => by
    obtain ⟨i, hi, rfl⟩ := List.mem_map.1 hc
    exact (hF i (List.mem_range.1 hi)).1
  obtain ⟨f1, f2⟩ := flat_get _ sz hsz
  refine ⟨(List.range l.length).map F, hl, fun i hi hi' => by rw [hg i hi]; exact ⟨(hF i hi').1, (hF i hi').2.1⟩, hsz, ⟨by rw [f1, hl, h1], fun u hu => ?_, h.a, h.c, rfl, ?_⟩⟩
  · obtain ⟨cs, hc, hu⟩ := List.mem_flatten.1 hu
    obtain ⟨i, hi, rfl⟩ := List.mem_map.1 hc
    exact hone _ _ (hF i (List.mem_range.1 hi)).2.1 u hu
  · by_cases h0 : h.n = 0
    · exact .inl h0
    · obtain ⟨_, _, b, o, ha, hb, _⟩ := hF 0 (by omega)
      refine .inr ⟨b, o, ha, hN b hb, fun j u hj => ?_⟩
      have hjl := (List.getElem?_eq_some_iff.1 hj).1
      rw [f1, hl] at hjl
      have hsz0 : 0 < sz := by
        rcases Nat.eq_zero_or_pos sz with h | h
        · subst h; omega
        · exact h
      have hi : j / sz < l.length := (Nat.div_lt_iff_lt_mul hsz0).2 hjl
      have hm : j % sz < sz := Nat.mod_lt _ hsz0
      have he : j / sz * sz + j % sz = j := by rw [Nat.mul_comm]; exact Nat.div_add_mod j sz
      have hx := f2 (j / sz) (by rw [hl]; exact hi) (j % sz) hm
      rw [he, hj, hg] at hx
      obtain ⟨_, _, b', o', ha', _, hra⟩ := hF (j / sz) hi
      rw [ha] at ha'
      cases ha'
      have := hra (j % sz) u hx.symm
      rw [show o + j / sz * sz + j % sz = o + j by omega] at this
      exact this
/- what a clone is -/
def ClPost {α : Type} (w : World) (t sz : Nat) (Q : List Value → α → Prop) (l : List α) (e : Ending) (w' : World) : Prop :=
  ∃ h : Hdr, e = .returned h.v ∧ h.n = l.length ∧ Below w.heap.size w w' ∧ ∀ i (hi : i < l.length), ∃ g cs, h.a = some ⟨g, 0, none⟩ ∧ w.heap.size ≤ g ∧ Ty w' g t ∧ cs.length = sz ∧ w'.rangeAt g (i * sz) cs ∧ Q cs l[i]
theorem clPost_mk {α : Type} {w w1 w' : World} {t sz : Nat} {Q : List Value → α → Prop} {l : List α} {css : List (List Value)} (hl : css.length = l.length) (hq : ∀ i (hi : i < css.length) (hi' : i < l.length), css[i].length = sz ∧ Q css[i] l[i]) (hsz : ∀ cs ∈ css, cs.length = sz)
    {a : Option Addr} {n c : Nat} (hn : n = l.length) (hown : w'.ownsRow w.heap.size t sz (.slice a (0 + n) c) (0 + n) ([] ++ css.flatten)) (hb : Below w.heap.size w w1) (hg : w1.grownBy w' (some w.heap.size)) (hz : w.heap.size ≤ w1.heap.size) : ClPost w t sz Q l (.returned (.slice a (0 + n) c)) w' := by
  rw [Nat.zero_add, List.nil_append] at hown
  refine ⟨⟨a, n, c⟩, by rw [Nat.zero_add]; rfl, hn, hb.trans ⟨hg.os, hg.tape, hg.output, hg.size, fun b hb' => hg.block b (by omega) (fun e => by cases e; omega)⟩, fun i hi => ?_⟩
  obtain ⟨f1, f2⟩ := flat_get css sz hsz
  have hic : i < css.length := by omega
  obtain ⟨q1, q2⟩ := hq i hic hi
  rcases hown.2 with ⟨_, h0⟩ | ⟨g, cap, cur, he, hge, hh, _, _, _, ht⟩
  · omega
  · simp only [Value.slice.injEq, true_and] at he
    obtain ⟨rfl, rfl⟩ := he
    refine ⟨g, css[i], rfl, hge, ⟨_, hh⟩, q1, fun j u hj => ?_, q2⟩
    have hjl := (List.getElem?_eq_some_iff.1 hj).1
    rw [q1] at hjl
    have hx := (f2 i hic j hjl).trans hj
    rw [← ht] at hx
    have hlt := (List.getElem?_eq_some_iff.1 hx).1
    rw [List.length_take] at hlt
    rw [List.getElem?_take, if_pos (by omega)] at hx
    simp only [World.cell?, hh]
    simpa using hx
section
variable {N : Nat → Prop} {w : World}
theorem one_rf (r : Rf) : ∀ v ∈ rfV r, v.oneCell' = true := by intro v hv; simp [rfV] at hv; rcases hv with rfl | rfl <;> rfl
theorem one_cons {v : Value} {l : List Value} (h : v.oneCell' = true) (hl : ∀ u ∈ l, u.oneCell' = true) : ∀ u ∈ v :: l, u.oneCell' = true := fun u hu => (List.mem_cons.1 hu).elim (fun e => e ▸ h) (hl u)
theorem one_app {l m : List Value} (h : ∀ u ∈ l, u.oneCell' = true) (hl : ∀ u ∈ m, u.oneCell' = true) : ∀ u ∈ l ++ m, u.oneCell' = true := fun u hu => (List.mem_append.1 hu).elim (h u) (hl u)
theorem one_ex {e : Ex} {c : List Value} (h : ExV N w e c) : ∀ v ∈ c, v.oneCell' = true := by
  obtain ⟨a, cap, rfl, _⟩ := h.cells
  intro v hv
  simp at hv
  rcases hv with rfl | rfl | rfl | rfl | rfl | rfl <;> rfl
theorem one_let (cs : List Value) (d : LetD) (h : LetV N w cs d) : ∀ v ∈ cs, v.oneCell' = true := by
  obtain ⟨_, c, rfl, g⟩ := h; exact one_cons rfl (one_ex g)
theorem one_crop (cs : List Value) (d : CropD) (h : CropV N w cs d) : ∀ v ∈ cs, v.oneCell' = true := by
  obtain ⟨_, c, rfl, g⟩ := h; exact one_cons rfl (one_ex g)
theorem one_reach (cs : List Value) (d : ReachD) (h : ReachV N w cs d) : ∀ v ∈ cs, v.oneCell' = true := by
  obtain ⟨_, _, c0, c1, c2, c3, c4, c5, c6, c7, rfl, g0, g1, g2, g3, g4, g5, g6, g7⟩ := h
  exact one_cons rfl (one_app (one_rf _) (one_app (one_ex g0) (one_app (one_ex g1) (one_app (one_ex g2) (one_app (one_ex g3) (one_app (one_ex g4) (one_app (one_ex g5) (one_app (one_ex g6) (one_ex g7)))))))))
theorem one_farm (cs : List Value) (d : FarmD) (h : FarmV N w cs d) : ∀ v ∈ cs, v.oneCell' = true := by
  obtain ⟨_, _, _, c, rfl, g⟩ := h; exact one_cons rfl (one_app (one_rf _) (one_cons rfl (one_app (one_ex g) (one_rf _))))
theorem one_turn (cs : List Value) (d : TurnD) (h : TurnV N w cs d) : ∀ v ∈ cs, v.oneCell' = true := by
  obtain ⟨_, c, rfl, g⟩ := h; exact one_app (one_rf _) (one_ex g)
theorem one_right (cs : List Value) (d : RightD) (h : RightV N w cs d) : ∀ v ∈ cs, v.oneCell' = true := by
  obtain ⟨_, _, _, c0, c1, c2, c3, c4, rfl, g0, g1, g2, g3, g4⟩ := h
  exact one_cons rfl (one_cons rfl (one_app (one_rf _) (one_app (one_rf _) (one_cons rfl (one_app (one_ex g0) (one_app (one_ex g1) (one_app (one_ex g2) (one_app (one_ex g3) (one_ex g4)))))))))
theorem one_duty (cs : List Value) (d : DutyD) (h : DutyV N w cs d) : ∀ v ∈ cs, v.oneCell' = true := by
  obtain ⟨_, _, _, c, rfl, g⟩ := h; exact one_cons rfl (one_app (one_rf _) (one_app (one_rf _) (one_ex g)))
end

set_option maxRecDepth 100000 in
set_option maxHeartbeats 4000000 in
theorem clone_let {α : Type} {N : Nat → Prop} {w : World} {Q : List Value → α → Prop} {h : Hdr} {l : List α} (hr : IsRow N w 7 Q h l) (hN : ∀ b, N b → b < w.heap.size) (hone : ∀ cs d, Q cs d → ∀ v ∈ cs, v.oneCell' = true) (hn : l.length ≤ 100000) :
    Calls Try.prog 71 #[h.v] w (ClPost w 55 7 Q l) := by
  obtain ⟨css, hl, hq, hsz, hraw⟩ := isRow_raw hr hN hone
  have hnl := hr.1
  have hinfo : (Try.prog.info? 55).map (fun i => (i.zero, i.size, i.bytes)) = some (some (.agg #[.string ⟨#[]⟩, .int .i64 0, .int .i64 0, .int .i64 0, .string ⟨#[]⟩, .int .i64 0, .slice none 0 0]), 7, 88) := by kernel_rfl
  have q : ∀ (w : World) (a : Option Addr) (n c n' c' : Nat), (binOp .eql 27 (.slice a n c) (.slice none n' c')).run Try.prog w = .ok (.bool a.isNone) w := fun w a n c n' c' => Lib.run_eql_slice_nil w _ _ a n c n' c' Try.underlying27
  obtain ⟨a, n, c⟩ := h
  unfold Hdr.v at hraw ⊢
  simp only at hnl hraw
  cases a with
  | none =>
    have hn0 : l.length = 0 := by
      rcases Nat.eq_zero_or_pos l.length with h | h
      · exact h
      · obtain ⟨_, _, _, h1, _⟩ := hr.2.2 0 h; cases h1
    clear hr hN hone hq hsz hraw
    have HN0 := Lib.hid hn0
    clear hn0 hnl hl hn
    go_enter Try.func71, Try.ntmps71
    go_wp2
    go_ret
    exact ⟨⟨none, 0, 0⟩, rfl, HN0.out.symm, Below.refl _ _, fun i hi => by have := HN0.out; omega⟩
  | some a =>
    obtain ⟨i0, hi, hz0, hz1, hz2⟩ := info_parts hinfo
    have hwa : Below w.heap.size w (w.alloc (.cells #[] 55)) := (Below.refl _ _).alloc (Nat.le_refl _) _
    have HB := Lib.hid hwa
    have HRaw : Hid (RawCells (w.alloc (.cells #[] 55)) (.slice (some a) n c) n 7 css.flatten) := Lib.hid (by
      obtain ⟨r1, r2, a', c', r3, r4⟩ := hraw
      refine ⟨r1, r2, a', c', r3, r4.imp id ?_⟩
      rintro ⟨b, o, e, hb, hc⟩
      exact ⟨b, o, e, Nat.lt_of_lt_of_le hb hwa.size, fun j u hj => (hwa.cell (p := ⟨b, o + j, none⟩) hb).trans (hc j u hj)⟩)
    have HOwn : Hid ((w.alloc (.cells #[] 55)).ownsRow w.heap.size 55 7 (.slice (some ⟨w.heap.size, 0, none⟩) 0 0) 0 []) := Lib.hid ⟨rfl, .inr ⟨w.heap.size, 0, #[], rfl, Nat.le_refl _, World.alloc_heap_new _ _, Nat.le_refl _, Nat.zero_le _, rfl, rfl⟩⟩
    have HLen : Hid (0 + n ≤ 1000000) := Lib.hid (by omega)
    have HSz : Hid (w.heap.size ≤ (w.alloc (.cells #[] 55)).heap.size) := Lib.hid hwa.size
    have HL := Lib.hid hl
    have HQ := Lib.hid hq
    have HS := Lib.hid hsz
    have HNl := Lib.hid hnl
    have HI := Lib.hid hi; have HZ0 := Lib.hid hz0; have HZ1 := Lib.hid hz1; have HZ2 := Lib.hid hz2
    clear hwa hraw hl hq hsz hnl hr hN hone hn hinfo hi hz0 hz1 hz2
    go_enter Try.func71, Try.ntmps71
    go_wp2_with (first | (at_builtin; refine wpList_append_big Try.underlying27 HI.out HZ0.out HZ1.out HZ2.out rfl (by decide) (by decide) w.heap.size rfl _ _ rfl (.slice (some ⟨w.heap.size, 0, none⟩) 0 0) 0 [] rfl HOwn.out (.slice (some a) n c) n css.flatten rfl HRaw.out HLen.out HSz.out ?_; intro ad c2 w5 hown5 hg5; have HO5 := Lib.hid hown5; have HG5 := Lib.hid hg5; clear hown5 hg5))
    go_ret
    have := clPost_mk (a := ad) (c := c2) HL.out HQ.out HS.out HNl.out HO5.out HB.out HG5.out HSz.out
    simpa using this

set_option maxRecDepth 100000 in
set_option maxHeartbeats 4000000 in
theorem clone_crop {α : Type} {N : Nat → Prop} {w : World} {Q : List Value → α → Prop} {h : Hdr} {l : List α} (hr : IsRow N w 7 Q h l) (hN : ∀ b, N b → b < w.heap.size) (hone : ∀ cs d, Q cs d → ∀ v ∈ cs, v.oneCell' = true) (hn : l.length ≤ 100000) :
    Calls Try.prog 72 #[h.v] w (ClPost w 57 7 Q l) := by
  obtain ⟨css, hl, hq, hsz, hraw⟩ := isRow_raw hr hN hone
  have hnl := hr.1
  have hinfo : (Try.prog.info? 57).map (fun i => (i.zero, i.size, i.bytes)) = some (some (.agg #[.string ⟨#[]⟩, .int .i64 0, .int .i64 0, .int .i64 0, .string ⟨#[]⟩, .int .i64 0, .slice none 0 0]), 7, 88) := by kernel_rfl
  have q : ∀ (w : World) (a : Option Addr) (n c n' c' : Nat), (binOp .eql 28 (.slice a n c) (.slice none n' c')).run Try.prog w = .ok (.bool a.isNone) w := fun w a n c n' c' => Lib.run_eql_slice_nil w _ _ a n c n' c' Try.underlying28
  obtain ⟨a, n, c⟩ := h
  unfold Hdr.v at hraw ⊢
  simp only at hnl hraw
  cases a with
  | none =>
    have hn0 : l.length = 0 := by
      rcases Nat.eq_zero_or_pos l.length with h | h
      · exact h
      · obtain ⟨_, _, _, h1, _⟩ := hr.2.2 0 h; cases h1
    clear hr hN hone hq hsz hraw
    have HN0 := Lib.hid hn0
    clear hn0 hnl hl hn
    go_enter Try.func72, Try.ntmps72
    go_wp2
    go_ret
    exact ⟨⟨none, 0, 0⟩, rfl, HN0.out.symm, Below.refl _ _, fun i hi => by have := HN0.out; omega⟩
  | some a =>
    obtain ⟨i0, hi, hz0, hz1, hz2⟩ := info_parts hinfo
    have hwa : Below w.heap.size w (w.alloc (.cells #[] 57)) := (Below.refl _ _).alloc (Nat.le_refl _) _
    have HB := Lib.hid hwa
    have HRaw : Hid (RawCells (w.alloc (.cells #[] 57)) (.slice (some a) n c) n 7 css.flatten) := Lib.hid (by
      obtain ⟨r1, r2, a', c', r3, r4⟩ := hraw
      refine ⟨r1, r2, a', c', r3, r4.imp id ?_⟩
      rintro ⟨b, o, e, hb, hc⟩
      exact ⟨b, o, e, Nat.lt_of_lt_of_le hb hwa.size, fun j u hj => (hwa.cell (p := ⟨b, o + j, none⟩) hb).trans (hc j u hj)⟩)
    have HOwn : Hid ((w.alloc (.cells #[] 57)).ownsRow w.heap.size 57 7 (.slice (some ⟨w.heap.size, 0, none⟩) 0 0) 0 []) := Lib.hid ⟨rfl, .inr ⟨w.heap.size, 0, #[], rfl, Nat.le_refl _, World.alloc_heap_new _ _, Nat.le_refl _, Nat.zero_le _, rfl, rfl⟩⟩
    have HLen : Hid (0 + n ≤ 1000000) := Lib.hid (by omega)
    have HSz : Hid (w.heap.size ≤ (w.alloc (.cells #[] 57)).heap.size) := Lib.hid hwa.size
    have HL := Lib.hid hl
    have HQ := Lib.hid hq
    have HS := Lib.hid hsz
    have HNl := Lib.hid hnl
    have HI := Lib.hid hi; have HZ0 := Lib.hid hz0; have HZ1 := Lib.hid hz1; have HZ2 := Lib.hid hz2
    clear hwa hraw hl hq hsz hnl hr hN hone hn hinfo hi hz0 hz1 hz2
    go_enter Try.func72, Try.ntmps72
    go_wp2_with (first | (at_builtin; refine wpList_append_big Try.underlying28 HI.out HZ0.out HZ1.out HZ2.out rfl (by decide) (by decide) w.heap.size rfl _ _ rfl (.slice (some ⟨w.heap.size, 0, none⟩) 0 0) 0 [] rfl HOwn.out (.slice (some a) n c) n css.flatten rfl HRaw.out HLen.out HSz.out ?_; intro ad c2 w5 hown5 hg5; have HO5 := Lib.hid hown5; have HG5 := Lib.hid hg5; clear hown5 hg5))
    go_ret
    have := clPost_mk (a := ad) (c := c2) HL.out HQ.out HS.out HNl.out HO5.out HB.out HG5.out HSz.out
    simpa using this

set_option maxRecDepth 100000 in
set_option maxHeartbeats 4000000 in
theorem clone_reach {α : Type} {N : Nat → Prop} {w : World} {Q : List Value → α → Prop} {h : Hdr} {l : List α} (hr : IsRow N w 51 Q h l) (hN : ∀ b, N b → b < w.heap.size) (hone : ∀ cs d, Q cs d → ∀ v ∈ cs, v.oneCell' = true) (hn : l.length ≤ 100000) :
    Calls Try.prog 73 #[h.v] w (ClPost w 51 51 Q l) := by
  obtain ⟨css, hl, hq, hsz, hraw⟩ := isRow_raw hr hN hone
  have hnl := hr.1
  have hinfo : (Try.prog.info? 51).map (fun i => (i.zero, i.size, i.bytes)) = some (some (.agg #[.string ⟨#[]⟩, .string ⟨#[]⟩, .int .i64 0, .int .i64 0, .int .i64 0, .int .i64 0, .string ⟨#[]⟩, .int .i64 0, .slice none 0 0, .int .i64 0, .int .i64 0, .int .i64 0, .string ⟨#[]⟩, .int .i64 0, .slice none 0 0, .int .i64 0, .int .i64 0, .int .i64 0, .string ⟨#[]⟩, .int .i64 0, .slice none 0 0, .int .i64 0, .int .i64 0, .int .i64 0, .string ⟨#[]⟩, .int .i64 0, .slice none 0 0, .int .i64 0, .int .i64 0, .int .i64 0, .string ⟨#[]⟩, .int .i64 0, .slice none 0 0, .int .i64 0, .int .i64 0, .int .i64 0, .string ⟨#[]⟩, .int .i64 0, .slice none 0 0, .int .i64 0, .int .i64 0, .int .i64 0, .string ⟨#[]⟩, .int .i64 0, .slice none 0 0, .int .i64 0, .int .i64 0, .int .i64 0, .string ⟨#[]⟩, .int .i64 0, .slice none 0 0]), 51, 616) := by kernel_rfl
  have q : ∀ (w : World) (a : Option Addr) (n c n' c' : Nat), (binOp .eql 29 (.slice a n c) (.slice none n' c')).run Try.prog w = .ok (.bool a.isNone) w := fun w a n c n' c' => Lib.run_eql_slice_nil w _ _ a n c n' c' Try.underlying29
  obtain ⟨a, n, c⟩ := h
  unfold Hdr.v at hraw ⊢
  simp only at hnl hraw
  cases a with
  | none =>
    have hn0 : l.length = 0 := by
      rcases Nat.eq_zero_or_pos l.length with h | h
      · exact h
      · obtain ⟨_, _, _, h1, _⟩ := hr.2.2 0 h; cases h1
    clear hr hN hone hq hsz hraw
    have HN0 := Lib.hid hn0
    clear hn0 hnl hl hn
    go_enter Try.func73, Try.ntmps73
    go_wp2
    go_ret
    exact ⟨⟨none, 0, 0⟩, rfl, HN0.out.symm, Below.refl _ _, fun i hi => by have := HN0.out; omega⟩
  | some a =>
    obtain ⟨i0, hi, hz0, hz1, hz2⟩ := info_parts hinfo
    have hwa : Below w.heap.size w (w.alloc (.cells #[] 51)) := (Below.refl _ _).alloc (Nat.le_refl _) _
    have HB := Lib.hid hwa
    have HRaw : Hid (RawCells (w.alloc (.cells #[] 51)) (.slice (some a) n c) n 51 css.flatten) := Lib.hid (by
      obtain ⟨r1, r2, a', c', r3, r4⟩ := hraw
      refine ⟨r1, r2, a', c', r3, r4.imp id ?_⟩
      rintro ⟨b, o, e, hb, hc⟩
      exact ⟨b, o, e, Nat.lt_of_lt_of_le hb hwa.size, fun j u hj => (hwa.cell (p := ⟨b, o + j, none⟩) hb).trans (hc j u hj)⟩)
    have HOwn : Hid ((w.alloc (.cells #[] 51)).ownsRow w.heap.size 51 51 (.slice (some ⟨w.heap.size, 0, none⟩) 0 0) 0 []) := Lib.hid ⟨rfl, .inr ⟨w.heap.size, 0, #[], rfl, Nat.le_refl _, World.alloc_heap_new _ _, Nat.le_refl _, Nat.zero_le _, rfl, rfl⟩⟩
    have HLen : Hid (0 + n ≤ 1000000) := Lib.hid (by omega)
    have HSz : Hid (w.heap.size ≤ (w.alloc (.cells #[] 51)).heap.size) := Lib.hid hwa.size
    have HL := Lib.hid hl
    have HQ := Lib.hid hq
    have HS := Lib.hid hsz
    have HNl := Lib.hid hnl
    have HI := Lib.hid hi; have HZ0 := Lib.hid hz0; have HZ1 := Lib.hid hz1; have HZ2 := Lib.hid hz2
    clear hwa hraw hl hq hsz hnl hr hN hone hn hinfo hi hz0 hz1 hz2
    go_enter Try.func73, Try.ntmps73
    go_wp2_with (first | (at_builtin; refine wpList_append_big Try.underlying29 HI.out HZ0.out HZ1.out HZ2.out rfl (by decide) (by decide) w.heap.size rfl _ _ rfl (.slice (some ⟨w.heap.size, 0, none⟩) 0 0) 0 [] rfl HOwn.out (.slice (some a) n c) n css.flatten rfl HRaw.out HLen.out HSz.out ?_; intro ad c2 w5 hown5 hg5; have HO5 := Lib.hid hown5; have HG5 := Lib.hid hg5; clear hown5 hg5))
    go_ret
    have := clPost_mk (a := ad) (c := c2) HL.out HQ.out HS.out HNl.out HO5.out HB.out HG5.out HSz.out
    simpa using this

set_option maxRecDepth 100000 in
set_option maxHeartbeats 4000000 in
theorem clone_farm {α : Type} {N : Nat → Prop} {w : World} {Q : List Value → α → Prop} {h : Hdr} {l : List α} (hr : IsRow N w 12 Q h l) (hN : ∀ b, N b → b < w.heap.size) (hone : ∀ cs d, Q cs d → ∀ v ∈ cs, v.oneCell' = true) (hn : l.length ≤ 100000) :
    Calls Try.prog 74 #[h.v] w (ClPost w 59 12 Q l) := by
  obtain ⟨css, hl, hq, hsz, hraw⟩ := isRow_raw hr hN hone
  have hnl := hr.1
  have hinfo : (Try.prog.info? 59).map (fun i => (i.zero, i.size, i.bytes)) = some (some (.agg #[.string ⟨#[]⟩, .string ⟨#[]⟩, .int .i64 0, .bool false, .int .i64 0, .int .i64 0, .int .i64 0, .string ⟨#[]⟩, .int .i64 0, .slice none 0 0, .string ⟨#[]⟩, .int .i64 0]), 12, 144) := by kernel_rfl
  have q : ∀ (w : World) (a : Option Addr) (n c n' c' : Nat), (binOp .eql 30 (.slice a n c) (.slice none n' c')).run Try.prog w = .ok (.bool a.isNone) w := fun w a n c n' c' => Lib.run_eql_slice_nil w _ _ a n c n' c' Try.underlying30
  obtain ⟨a, n, c⟩ := h
  unfold Hdr.v at hraw ⊢
  simp only at hnl hraw
  cases a with
  | none =>
    have hn0 : l.length = 0 := by
      rcases Nat.eq_zero_or_pos l.length with h | h
      · exact h
      · obtain ⟨_, _, _, h1, _⟩ := hr.2.2 0 h; cases h1
    clear hr hN hone hq hsz hraw
    have HN0 := Lib.hid hn0
    clear hn0 hnl hl hn
    go_enter Try.func74, Try.ntmps74
    go_wp2
    go_ret
    exact ⟨⟨none, 0, 0⟩, rfl, HN0.out.symm, Below.refl _ _, fun i hi => by have := HN0.out; omega⟩
  | some a =>
    obtain ⟨i0, hi, hz0, hz1, hz2⟩ := info_parts hinfo
    have hwa : Below w.heap.size w (w.alloc (.cells #[] 59)) := (Below.refl _ _).alloc (Nat.le_refl _) _
    have HB := Lib.hid hwa
    have HRaw : Hid (RawCells (w.alloc (.cells #[] 59)) (.slice (some a) n c) n 12 css.flatten) := Lib.hid (by
      obtain ⟨r1, r2, a', c', r3, r4⟩ := hraw
      refine ⟨r1, r2, a', c', r3, r4.imp id ?_⟩
      rintro ⟨b, o, e, hb, hc⟩
      exact ⟨b, o, e, Nat.lt_of_lt_of_le hb hwa.size, fun j u hj => (hwa.cell (p := ⟨b, o + j, none⟩) hb).trans (hc j u hj)⟩)
    have HOwn : Hid ((w.alloc (.cells #[] 59)).ownsRow w.heap.size 59 12 (.slice (some ⟨w.heap.size, 0, none⟩) 0 0) 0 []) := Lib.hid ⟨rfl, .inr ⟨w.heap.size, 0, #[], rfl, Nat.le_refl _, World.alloc_heap_new _ _, Nat.le_refl _, Nat.zero_le _, rfl, rfl⟩⟩
    have HLen : Hid (0 + n ≤ 1000000) := Lib.hid (by omega)
    have HSz : Hid (w.heap.size ≤ (w.alloc (.cells #[] 59)).heap.size) := Lib.hid hwa.size
    have HL := Lib.hid hl
    have HQ := Lib.hid hq
    have HS := Lib.hid hsz
    have HNl := Lib.hid hnl
    have HI := Lib.hid hi; have HZ0 := Lib.hid hz0; have HZ1 := Lib.hid hz1; have HZ2 := Lib.hid hz2
    clear hwa hraw hl hq hsz hnl hr hN hone hn hinfo hi hz0 hz1 hz2
    go_enter Try.func74, Try.ntmps74
    go_wp2_with (first | (at_builtin; refine wpList_append_big Try.underlying30 HI.out HZ0.out HZ1.out HZ2.out rfl (by decide) (by decide) w.heap.size rfl _ _ rfl (.slice (some ⟨w.heap.size, 0, none⟩) 0 0) 0 [] rfl HOwn.out (.slice (some a) n c) n css.flatten rfl HRaw.out HLen.out HSz.out ?_; intro ad c2 w5 hown5 hg5; have HO5 := Lib.hid hown5; have HG5 := Lib.hid hg5; clear hown5 hg5))
    go_ret
    have := clPost_mk (a := ad) (c := c2) HL.out HQ.out HS.out HNl.out HO5.out HB.out HG5.out HSz.out
    simpa using this

set_option maxRecDepth 100000 in
set_option maxHeartbeats 4000000 in
theorem clone_rot {α : Type} {N : Nat → Prop} {w : World} {Q : List Value → α → Prop} {h : Hdr} {l : List α} (hr : IsRow N w 23 Q h l) (hN : ∀ b, N b → b < w.heap.size) (hone : ∀ cs d, Q cs d → ∀ v ∈ cs, v.oneCell' = true) (hn : l.length ≤ 100000) :
    Calls Try.prog 75 #[h.v] w (ClPost w 64 23 Q l) := by
  obtain ⟨css, hl, hq, hsz, hraw⟩ := isRow_raw hr hN hone
  have hnl := hr.1
  have hinfo : (Try.prog.info? 64).map (fun i => (i.zero, i.size, i.bytes)) = some (some (.agg #[.string ⟨#[]⟩, .string ⟨#[]⟩, .int .i64 0, .int .i64 0, .int .i64 0, .int .i64 0, .int .i64 0, .string ⟨#[]⟩, .int .i64 0, .slice none 0 0, .int .i64 0, .int .i64 0, .int .i64 0, .string ⟨#[]⟩, .int .i64 0, .slice none 0 0, .int .i64 0, .int .i64 0, .int .i64 0, .string ⟨#[]⟩, .int .i64 0, .slice none 0 0, .slice none 0 0]), 23, 288) := by kernel_rfl
  have q : ∀ (w : World) (a : Option Addr) (n c n' c' : Nat), (binOp .eql 31 (.slice a n c) (.slice none n' c')).run Try.prog w = .ok (.bool a.isNone) w := fun w a n c n' c' => Lib.run_eql_slice_nil w _ _ a n c n' c' Try.underlying31
  obtain ⟨a, n, c⟩ := h
  unfold Hdr.v at hraw ⊢
  simp only at hnl hraw
  cases a with
  | none =>
    have hn0 : l.length = 0 := by
      rcases Nat.eq_zero_or_pos l.length with h | h
      · exact h
      · obtain ⟨_, _, _, h1, _⟩ := hr.2.2 0 h; cases h1
    clear hr hN hone hq hsz hraw
    have HN0 := Lib.hid hn0
    clear hn0 hnl hl hn
    go_enter Try.func75, Try.ntmps75
    go_wp2
    go_ret
    exact ⟨⟨none, 0, 0⟩, rfl, HN0.out.symm, Below.refl _ _, fun i hi => by have := HN0.out; omega⟩
  | some a =>
    obtain ⟨i0, hi, hz0, hz1, hz2⟩ := info_parts hinfo
    have hwa : Below w.heap.size w (w.alloc (.cells #[] 64)) := (Below.refl _ _).alloc (Nat.le_refl _) _
    have HB := Lib.hid hwa
    have HRaw : Hid (RawCells (w.alloc (.cells #[] 64)) (.slice (some a) n c) n 23 css.flatten) := Lib.hid (by
      obtain ⟨r1, r2, a', c', r3, r4⟩ := hraw
      refine ⟨r1, r2, a', c', r3, r4.imp id ?_⟩
      rintro ⟨b, o, e, hb, hc⟩
      exact ⟨b, o, e, Nat.lt_of_lt_of_le hb hwa.size, fun j u hj => (hwa.cell (p := ⟨b, o + j, none⟩) hb).trans (hc j u hj)⟩)
    have HOwn : Hid ((w.alloc (.cells #[] 64)).ownsRow w.heap.size 64 23 (.slice (some ⟨w.heap.size, 0, none⟩) 0 0) 0 []) := Lib.hid ⟨rfl, .inr ⟨w.heap.size, 0, #[], rfl, Nat.le_refl _, World.alloc_heap_new _ _, Nat.le_refl _, Nat.zero_le _, rfl, rfl⟩⟩
    have HLen : Hid (0 + n ≤ 1000000) := Lib.hid (by omega)
    have HSz : Hid (w.heap.size ≤ (w.alloc (.cells #[] 64)).heap.size) := Lib.hid hwa.size
    have HL := Lib.hid hl
    have HQ := Lib.hid hq
    have HS := Lib.hid hsz
    have HNl := Lib.hid hnl
    have HI := Lib.hid hi; have HZ0 := Lib.hid hz0; have HZ1 := Lib.hid hz1; have HZ2 := Lib.hid hz2
    clear hwa hraw hl hq hsz hnl hr hN hone hn hinfo hi hz0 hz1 hz2
    go_enter Try.func75, Try.ntmps75
    go_wp2_with (first | (at_builtin; refine wpList_append_big Try.underlying31 HI.out HZ0.out HZ1.out HZ2.out rfl (by decide) (by decide) w.heap.size rfl _ _ rfl (.slice (some ⟨w.heap.size, 0, none⟩) 0 0) 0 [] rfl HOwn.out (.slice (some a) n c) n css.flatten rfl HRaw.out HLen.out HSz.out ?_; intro ad c2 w5 hown5 hg5; have HO5 := Lib.hid hown5; have HG5 := Lib.hid hg5; clear hown5 hg5))
    go_ret
    have := clPost_mk (a := ad) (c := c2) HL.out HQ.out HS.out HNl.out HO5.out HB.out HG5.out HSz.out
    simpa using this

set_option maxRecDepth 100000 in
set_option maxHeartbeats 4000000 in
theorem clone_right {α : Type} {N : Nat → Prop} {w : World} {Q : List Value → α → Prop} {h : Hdr} {l : List α} (hr : IsRow N w 37 Q h l) (hN : ∀ b, N b → b < w.heap.size) (hone : ∀ cs d, Q cs d → ∀ v ∈ cs, v.oneCell' = true) (hn : l.length ≤ 100000) :
    Calls Try.prog 76 #[h.v] w (ClPost w 68 37 Q l) := by
  obtain ⟨css, hl, hq, hsz, hraw⟩ := isRow_raw hr hN hone
  have hnl := hr.1
  have hinfo : (Try.prog.info? 68).map (fun i => (i.zero, i.size, i.bytes)) = some (some (.agg #[.int .i64 0, .string ⟨#[]⟩, .string ⟨#[]⟩, .int .i64 0, .string ⟨#[]⟩, .int .i64 0, .int .i64 0, .int .i64 0, .int .i64 0, .int .i64 0, .string ⟨#[]⟩, .int .i64 0, .slice none 0 0, .int .i64 0, .int .i64 0, .int .i64 0, .string ⟨#[]⟩, .int .i64 0, .slice none 0 0, .int .i64 0, .int .i64 0, .int .i64 0, .string ⟨#[]⟩, .int .i64 0, .slice none 0 0, .int .i64 0, .int .i64 0, .int .i64 0, .string ⟨#[]⟩, .int .i64 0, .slice none 0 0, .int .i64 0, .int .i64 0, .int .i64 0, .string ⟨#[]⟩, .int .i64 0, .slice none 0 0]), 37, 440) := by kernel_rfl
  have q : ∀ (w : World) (a : Option Addr) (n c n' c' : Nat), (binOp .eql 32 (.slice a n c) (.slice none n' c')).run Try.prog w = .ok (.bool a.isNone) w := fun w a n c n' c' => Lib.run_eql_slice_nil w _ _ a n c n' c' Try.underlying32
  obtain ⟨a, n, c⟩ := h
  unfold Hdr.v at hraw ⊢
  simp only at hnl hraw
  cases a with
  | none =>
    have hn0 : l.length = 0 := by
      rcases Nat.eq_zero_or_pos l.length with h | h
      · exact h
      · obtain ⟨_, _, _, h1, _⟩ := hr.2.2 0 h; cases h1
    clear hr hN hone hq hsz hraw
    have HN0 := Lib.hid hn0
    clear hn0 hnl hl hn
    go_enter Try.func76, Try.ntmps76
    go_wp2
    go_ret
    exact ⟨⟨none, 0, 0⟩, rfl, HN0.out.symm, Below.refl _ _, fun i hi => by have := HN0.out; omega⟩
  | some a =>
    obtain ⟨i0, hi, hz0, hz1, hz2⟩ := info_parts hinfo
    have hwa : Below w.heap.size w (w.alloc (.cells #[] 68)) := (Below.refl _ _).alloc (Nat.le_refl _) _
    have HB := Lib.hid hwa
    have HRaw : Hid (RawCells (w.alloc (.cells #[] 68)) (.slice (some a) n c) n 37 css.flatten) := Lib.hid (by
      obtain ⟨r1, r2, a', c', r3, r4⟩ := hraw
      refine ⟨r1, r2, a', c', r3, r4.imp id ?_⟩
      rintro ⟨b, o, e, hb, hc⟩
      exact ⟨b, o, e, Nat.lt_of_lt_of_le hb hwa.size, fun j u hj => (hwa.cell (p := ⟨b, o + j, none⟩) hb).trans (hc j u hj)⟩)
    have HOwn : Hid ((w.alloc (.cells #[] 68)).ownsRow w.heap.size 68 37 (.slice (some ⟨w.heap.size, 0, none⟩) 0 0) 0 []) := Lib.hid ⟨rfl, .inr ⟨w.heap.size, 0, #[], rfl, Nat.le_refl _, World.alloc_heap_new _ _, Nat.le_refl _, Nat.zero_le _, rfl, rfl⟩⟩
    have HLen : Hid (0 + n ≤ 1000000) := Lib.hid (by omega)
    have HSz : Hid (w.heap.size ≤ (w.alloc (.cells #[] 68)).heap.size) := Lib.hid hwa.size
    have HL := Lib.hid hl
    have HQ := Lib.hid hq
    have HS := Lib.hid hsz
    have HNl := Lib.hid hnl
    have HI := Lib.hid hi; have HZ0 := Lib.hid hz0; have HZ1 := Lib.hid hz1; have HZ2 := Lib.hid hz2
    clear hwa hraw hl hq hsz hnl hr hN hone hn hinfo hi hz0 hz1 hz2
    go_enter Try.func76, Try.ntmps76
    go_wp2_with (first | (at_builtin; refine wpList_append_big Try.underlying32 HI.out HZ0.out HZ1.out HZ2.out rfl (by decide) (by decide) w.heap.size rfl _ _ rfl (.slice (some ⟨w.heap.size, 0, none⟩) 0 0) 0 [] rfl HOwn.out (.slice (some a) n c) n css.flatten rfl HRaw.out HLen.out HSz.out ?_; intro ad c2 w5 hown5 hg5; have HO5 := Lib.hid hown5; have HG5 := Lib.hid hg5; clear hown5 hg5))
    go_ret
    have := clPost_mk (a := ad) (c := c2) HL.out HQ.out HS.out HNl.out HO5.out HB.out HG5.out HSz.out
    simpa using this

set_option maxRecDepth 100000 in
set_option maxHeartbeats 4000000 in
theorem clone_duty {α : Type} {N : Nat → Prop} {w : World} {Q : List Value → α → Prop} {h : Hdr} {l : List α} (hr : IsRow N w 11 Q h l) (hN : ∀ b, N b → b < w.heap.size) (hone : ∀ cs d, Q cs d → ∀ v ∈ cs, v.oneCell' = true) (hn : l.length ≤ 100000) :
    Calls Try.prog 77 #[h.v] w (ClPost w 70 11 Q l) := by
  obtain ⟨css, hl, hq, hsz, hraw⟩ := isRow_raw hr hN hone
  have hnl := hr.1
  have hinfo : (Try.prog.info? 70).map (fun i => (i.zero, i.size, i.bytes)) = some (some (.agg #[.string ⟨#[]⟩, .string ⟨#[]⟩, .int .i64 0, .string ⟨#[]⟩, .int .i64 0, .int .i64 0, .int .i64 0, .int .i64 0, .string ⟨#[]⟩, .int .i64 0, .slice none 0 0]), 11, 136) := by kernel_rfl
  have q : ∀ (w : World) (a : Option Addr) (n c n' c' : Nat), (binOp .eql 33 (.slice a n c) (.slice none n' c')).run Try.prog w = .ok (.bool a.isNone) w := fun w a n c n' c' => Lib.run_eql_slice_nil w _ _ a n c n' c' Try.underlying33
  obtain ⟨a, n, c⟩ := h
  unfold Hdr.v at hraw ⊢
  simp only at hnl hraw
  cases a with
  | none =>
    have hn0 : l.length = 0 := by
      rcases Nat.eq_zero_or_pos l.length with h | h
      · exact h
      · obtain ⟨_, _, _, h1, _⟩ := hr.2.2 0 h; cases h1
    clear hr hN hone hq hsz hraw
    have HN0 := Lib.hid hn0
    clear hn0 hnl hl hn
    go_enter Try.func77, Try.ntmps77
    go_wp2
    go_ret
    exact ⟨⟨none, 0, 0⟩, rfl, HN0.out.symm, Below.refl _ _, fun i hi => by have := HN0.out; omega⟩
  | some a =>
    obtain ⟨i0, hi, hz0, hz1, hz2⟩ := info_parts hinfo
    have hwa : Below w.heap.size w (w.alloc (.cells #[] 70)) := (Below.refl _ _).alloc (Nat.le_refl _) _
    have HB := Lib.hid hwa
    have HRaw : Hid (RawCells (w.alloc (.cells #[] 70)) (.slice (some a) n c) n 11 css.flatten) := Lib.hid (by
      obtain ⟨r1, r2, a', c', r3, r4⟩ := hraw
      refine ⟨r1, r2, a', c', r3, r4.imp id ?_⟩
      rintro ⟨b, o, e, hb, hc⟩
      exact ⟨b, o, e, Nat.lt_of_lt_of_le hb hwa.size, fun j u hj => (hwa.cell (p := ⟨b, o + j, none⟩) hb).trans (hc j u hj)⟩)
    have HOwn : Hid ((w.alloc (.cells #[] 70)).ownsRow w.heap.size 70 11 (.slice (some ⟨w.heap.size, 0, none⟩) 0 0) 0 []) := Lib.hid ⟨rfl, .inr ⟨w.heap.size, 0, #[], rfl, Nat.le_refl _, World.alloc_heap_new _ _, Nat.le_refl _, Nat.zero_le _, rfl, rfl⟩⟩
    have HLen : Hid (0 + n ≤ 1000000) := Lib.hid (by omega)
    have HSz : Hid (w.heap.size ≤ (w.alloc (.cells #[] 70)).heap.size) := Lib.hid hwa.size
    have HL := Lib.hid hl
    have HQ := Lib.hid hq
    have HS := Lib.hid hsz
    have HNl := Lib.hid hnl
    have HI := Lib.hid hi; have HZ0 := Lib.hid hz0; have HZ1 := Lib.hid hz1; have HZ2 := Lib.hid hz2
    clear hwa hraw hl hq hsz hnl hr hN hone hn hinfo hi hz0 hz1 hz2
    go_enter Try.func77, Try.ntmps77
    go_wp2_with (first | (at_builtin; refine wpList_append_big Try.underlying33 HI.out HZ0.out HZ1.out HZ2.out rfl (by decide) (by decide) w.heap.size rfl _ _ rfl (.slice (some ⟨w.heap.size, 0, none⟩) 0 0) 0 [] rfl HOwn.out (.slice (some a) n c) n css.flatten rfl HRaw.out HLen.out HSz.out ?_; intro ad c2 w5 hown5 hg5; have HO5 := Lib.hid hown5; have HG5 := Lib.hid hg5; clear hown5 hg5))
    go_ret
    have := clPost_mk (a := ad) (c := c2) HL.out HQ.out HS.out HNl.out HO5.out HB.out HG5.out HSz.out
    simpa using this

set_option maxRecDepth 100000 in
set_option maxHeartbeats 4000000 in
theorem clone_turn {α : Type} {N : Nat → Prop} {w : World} {Q : List Value → α → Prop} {h : Hdr} {l : List α} (hr : IsRow N w 8 Q h l) (hN : ∀ b, N b → b < w.heap.size) (hone : ∀ cs d, Q cs d → ∀ v ∈ cs, v.oneCell' = true) (hn : l.length ≤ 100000) :
    Calls Try.prog 78 #[h.v] w (ClPost w 66 8 Q l) := by
  obtain ⟨css, hl, hq, hsz, hraw⟩ := isRow_raw hr hN hone
  have hnl := hr.1
  have hinfo : (Try.prog.info? 66).map (fun i => (i.zero, i.size, i.bytes)) = some (some (.agg #[.string ⟨#[]⟩, .int .i64 0, .int .i64 0, .int .i64 0, .int .i64 0, .string ⟨#[]⟩, .int .i64 0, .slice none 0 0]), 8, 96) := by kernel_rfl
  have q : ∀ (w : World) (a : Option Addr) (n c n' c' : Nat), (binOp .eql 62 (.slice a n c) (.slice none n' c')).run Try.prog w = .ok (.bool a.isNone) w := fun w a n c n' c' => Lib.run_eql_slice_nil w _ _ a n c n' c' Try.underlying62
  obtain ⟨a, n, c⟩ := h
  unfold Hdr.v at hraw ⊢
  simp only at hnl hraw
  cases a with
  | none =>
    have hn0 : l.length = 0 := by
      rcases Nat.eq_zero_or_pos l.length with h | h
      · exact h
      · obtain ⟨_, _, _, h1, _⟩ := hr.2.2 0 h; cases h1
    clear hr hN hone hq hsz hraw
    have HN0 := Lib.hid hn0
    clear hn0 hnl hl hn
    go_enter Try.func78, Try.ntmps78
    go_wp2
    go_ret
    exact ⟨⟨none, 0, 0⟩, rfl, HN0.out.symm, Below.refl _ _, fun i hi => by have := HN0.out; omega⟩
  | some a =>
    obtain ⟨i0, hi, hz0, hz1, hz2⟩ := info_parts hinfo
    have hwa : Below w.heap.size w (w.alloc (.cells #[] 66)) := (Below.refl _ _).alloc (Nat.le_refl _) _
    have HB := Lib.hid hwa
    have HRaw : Hid (RawCells (w.alloc (.cells #[] 66)) (.slice (some a) n c) n 8 css.flatten) := Lib.hid (by
      obtain ⟨r1, r2, a', c', r3, r4⟩ := hraw
      refine ⟨r1, r2, a', c', r3, r4.imp id ?_⟩
      rintro ⟨b, o, e, hb, hc⟩
      exact ⟨b, o, e, Nat.lt_of_lt_of_le hb hwa.size, fun j u hj => (hwa.cell (p := ⟨b, o + j, none⟩) hb).trans (hc j u hj)⟩)
    have HOwn : Hid ((w.alloc (.cells #[] 66)).ownsRow w.heap.size 66 8 (.slice (some ⟨w.heap.size, 0, none⟩) 0 0) 0 []) := Lib.hid ⟨rfl, .inr ⟨w.heap.size, 0, #[], rfl, Nat.le_refl _, World.alloc_heap_new _ _, Nat.le_refl _, Nat.zero_le _, rfl, rfl⟩⟩
    have HLen : Hid (0 + n ≤ 1000000) := Lib.hid (by omega)
    have HSz : Hid (w.heap.size ≤ (w.alloc (.cells #[] 66)).heap.size) := Lib.hid hwa.size
    have HL := Lib.hid hl
    have HQ := Lib.hid hq
    have HS := Lib.hid hsz
    have HNl := Lib.hid hnl
    have HI := Lib.hid hi; have HZ0 := Lib.hid hz0; have HZ1 := Lib.hid hz1; have HZ2 := Lib.hid hz2
    clear hwa hraw hl hq hsz hnl hr hN hone hn hinfo hi hz0 hz1 hz2
    go_enter Try.func78, Try.ntmps78
    go_wp2_with (first | (at_builtin; refine wpList_append_big Try.underlying62 HI.out HZ0.out HZ1.out HZ2.out rfl (by decide) (by decide) w.heap.size rfl _ _ rfl (.slice (some ⟨w.heap.size, 0, none⟩) 0 0) 0 [] rfl HOwn.out (.slice (some a) n c) n css.flatten rfl HRaw.out HLen.out HSz.out ?_; intro ad c2 w5 hown5 hg5; have HO5 := Lib.hid hown5; have HG5 := Lib.hid hg5; clear hown5 hg5))
    go_ret
    have := clPost_mk (a := ad) (c := c2) HL.out HQ.out HS.out HNl.out HO5.out HB.out HG5.out HSz.out
    simpa using this

set_option maxRecDepth 100000 in
set_option maxHeartbeats 4000000 in
theorem clone_expr {α : Type} {N : Nat → Prop} {w : World} {Q : List Value → α → Prop} {h : Hdr} {l : List α} (hr : IsRow N w 6 Q h l) (hN : ∀ b, N b → b < w.heap.size) (hone : ∀ cs d, Q cs d → ∀ v ∈ cs, v.oneCell' = true) (hn : l.length ≤ 100000) :
    Calls Try.prog 80 #[h.v] w (ClPost w 26 6 Q l) := by
  obtain ⟨css, hl, hq, hsz, hraw⟩ := isRow_raw hr hN hone
  have hnl := hr.1
  have hinfo : (Try.prog.info? 26).map (fun i => (i.zero, i.size, i.bytes)) = some (some (.agg #[.int .i64 0, .int .i64 0, .int .i64 0, .string ⟨#[]⟩, .int .i64 0, .slice none 0 0]), 6, 72) := by kernel_rfl
  have q : ∀ (w : World) (a : Option Addr) (n c n' c' : Nat), (binOp .eql 24 (.slice a n c) (.slice none n' c')).run Try.prog w = .ok (.bool a.isNone) w := fun w a n c n' c' => Lib.run_eql_slice_nil w _ _ a n c n' c' Try.underlying24
  obtain ⟨a, n, c⟩ := h
  unfold Hdr.v at hraw ⊢
  simp only at hnl hraw
  cases a with
  | none =>
    have hn0 : l.length = 0 := by
      rcases Nat.eq_zero_or_pos l.length with h | h
      · exact h
      · obtain ⟨_, _, _, h1, _⟩ := hr.2.2 0 h; cases h1
    clear hr hN hone hq hsz hraw
    have HN0 := Lib.hid hn0
    clear hn0 hnl hl hn
    go_enter Try.func80, Try.ntmps80
    go_wp2
    go_ret
    exact ⟨⟨none, 0, 0⟩, rfl, HN0.out.symm, Below.refl _ _, fun i hi => by have := HN0.out; omega⟩
  | some a =>
    obtain ⟨i0, hi, hz0, hz1, hz2⟩ := info_parts hinfo
    have hwa : Below w.heap.size w (w.alloc (.cells #[] 26)) := (Below.refl _ _).alloc (Nat.le_refl _) _
    have HB := Lib.hid hwa
    have HRaw : Hid (RawCells (w.alloc (.cells #[] 26)) (.slice (some a) n c) n 6 css.flatten) := Lib.hid (by
      obtain ⟨r1, r2, a', c', r3, r4⟩ := hraw
      refine ⟨r1, r2, a', c', r3, r4.imp id ?_⟩
      rintro ⟨b, o, e, hb, hc⟩
      exact ⟨b, o, e, Nat.lt_of_lt_of_le hb hwa.size, fun j u hj => (hwa.cell (p := ⟨b, o + j, none⟩) hb).trans (hc j u hj)⟩)
    have HOwn : Hid ((w.alloc (.cells #[] 26)).ownsRow w.heap.size 26 6 (.slice (some ⟨w.heap.size, 0, none⟩) 0 0) 0 []) := Lib.hid ⟨rfl, .inr ⟨w.heap.size, 0, #[], rfl, Nat.le_refl _, World.alloc_heap_new _ _, Nat.le_refl _, Nat.zero_le _, rfl, rfl⟩⟩
    have HLen : Hid (0 + n ≤ 1000000) := Lib.hid (by omega)
    have HSz : Hid (w.heap.size ≤ (w.alloc (.cells #[] 26)).heap.size) := Lib.hid hwa.size
    have HL := Lib.hid hl
    have HQ := Lib.hid hq
    have HS := Lib.hid hsz
    have HNl := Lib.hid hnl
    have HI := Lib.hid hi; have HZ0 := Lib.hid hz0; have HZ1 := Lib.hid hz1; have HZ2 := Lib.hid hz2
    clear hwa hraw hl hq hsz hnl hr hN hone hn hinfo hi hz0 hz1 hz2
    go_enter Try.func80, Try.ntmps80
    go_wp2_with (first | (at_builtin; refine wpList_append_big Try.underlying24 HI.out HZ0.out HZ1.out HZ2.out rfl (by decide) (by decide) w.heap.size rfl _ _ rfl (.slice (some ⟨w.heap.size, 0, none⟩) 0 0) 0 [] rfl HOwn.out (.slice (some a) n c) n css.flatten rfl HRaw.out HLen.out HSz.out ?_; intro ad c2 w5 hown5 hg5; have HO5 := Lib.hid hown5; have HG5 := Lib.hid hg5; clear hown5 hg5))
    go_ret
    have := clPost_mk (a := ad) (c := c2) HL.out HQ.out HS.out HNl.out HO5.out HB.out HG5.out HSz.out
    simpa using this


end Go.Proofs.Ytapejaabhkfhjaa

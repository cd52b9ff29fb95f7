/- The iterator over a source's references: the walk. -/
import Derived.Test.YtapejaabhkfhjaaMOh
import Derived.Test.YtapejaabhkfhjaaMNi
import Derived.Deep.RegionHeld3
namespace Go.Proofs.Ytapejaabhkfhjaa
open Go.RowKit
attribute [local go_sem] Oper.semAt_some

/- the blocks that the iterator makes ahead of its range: from B0 to B1 -/
def Mine (B0 B1 : Nat) (O : Nat → Prop) (b : Nat) : Prop := O b ∨ (B0 ≤ b ∧ b < B1)
structure UBox (l By Bi Bs s : Nat) (W : World) : Prop where
  y : W.cell? ⟨By, 0, none⟩ = some (.func (.yield l) #[] #[])
  i : W.cell? ⟨Bi, 0, none⟩ = some (.func (.func 82) #[] #[.pointer (some ⟨By, 0, none⟩), .pointer (some ⟨Bi, 0, none⟩)])
  s : W.cell? ⟨Bs, 0, none⟩ = some (.pointer (some ⟨s, 0, none⟩))
theorem UBox.same {l By Bi Bs s : Nat} {W W' : World} (h : UBox l By Bi Bs s W) (h1 : W'.heap[By]? = W.heap[By]?) (h2 : W'.heap[Bi]? = W.heap[Bi]?) (h3 : W'.heap[Bs]? = W.heap[Bs]?) : UBox l By Bi Bs s W' := by
  obtain ⟨a, b, c⟩ := h
  unfold World.cell? at a b c
  exact ⟨by unfold World.cell?; rw [h1]; exact a, by unfold World.cell?; rw [h2]; exact b, by unfold World.cell?; rw [h3]; exact c⟩
/- what holds between two rounds of the range over the expressions: J of the caller at the place that f tells -/
structure URound {β : Type} (J : β → (Nat → Prop) → World → Prop) (B0 B1 l By Bi Bs s : Nat) (p : β → Prop) (k : β) (O : Nat → Prop) (W : World) : Prop where
  j : J k (Mine B0 B1 O) W
  own : ∀ b, O b → B1 ≤ b
  size : B1 ≤ W.heap.size
  box : UBox l By Bi Bs s W
  p : p k
section
variable {β : Type} {J : β → (Nat → Prop) → World → Prop} {B0 B1 l By Bi Bs s : Nat} {p : β → Prop}
theorem URound.stays (hJ : Stays J) (hB : (B0 ≤ By ∧ By < B1) ∧ (B0 ≤ Bi ∧ Bi < B1) ∧ (B0 ≤ Bs ∧ Bs < B1)) : Stays (URound J B0 B1 l By Bi Bs s p) := by
  intro k O W O' W' h hz ho ht hu hk hO
  have hne : ∀ b, b < B1 → W'.heap[b]? = W.heap[b]? := fun b hb => hk b (fun hOb => by have := h.own b hOb; omega) (Nat.lt_of_lt_of_le hb h.size)
  refine ⟨hJ k _ W _ W' h.j hz ho ht hu (fun b hb hlt => hk b (fun hOb => hb (.inl hOb)) hlt) (fun b hb => ?_), fun b hb => ?_, Nat.le_trans h.size hz, h.box.same (hne _ hB.1.2) (hne _ hB.2.1.2) (hne _ hB.2.2.2), h.p⟩
  · rcases hb with hb | hb
    · rcases hO b hb with h1 | h1
      · exact .inl (.inl h1)
      · exact .inr h1
    · exact .inl (.inr hb)
  · rcases hO b hb with h1 | h1
    · exact h.own b h1
    · have := h.size; omega
end
/- the source's headers, whatever box holds its address -/
theorem Heads.at {N : Nat → Prop} {w0 W : World} {C D : Addr → Prop} {Bu Bs : Nat} {L : Lay} {x : Src} (hU : UsesC N w0 C D Bu L x) (hd : HdU w0 C D W) (hb : W.cell? ⟨Bs, 0, none⟩ = some (.pointer (some ⟨L.s, 0, none⟩))) : Heads L Bs W :=
  ⟨hb, (hd.1 _ (hU.src 19 (by omega) (by omega))).trans hU.heads.lets, (hd.1 _ (hU.src 20 (by omega) (by omega))).trans hU.heads.crops, (hd.1 _ (hU.src 21 (by omega) (by omega))).trans hU.heads.reaches, (hd.1 _ (hU.src 22 (by omega) (by omega))).trans hU.heads.farms,
    (hd.1 _ (hU.src 23 (by omega) (by omega))).trans hU.heads.rots, (hd.1 _ (hU.src 24 (by omega) (by omega))).trans hU.heads.rights, (hd.1 _ (hU.src 25 (by omega) (by omega))).trans hU.heads.duties, fun i hi => (hd.1 _ (hU.turns i hi)).trans (hU.heads.turns i hi)⟩

theorem OwnUs.up {B : Nat} {w w' : World} {v : Value} {us : List Us} (h : OwnUs B w v us) (hb : Below w.heap.size w w') : OwnUs B w' v us := by
  obtain ⟨h1, h2⟩ := h
  refine ⟨h1, h2.imp id ?_⟩
  rintro ⟨g, cap, cur, h3, h4, h5, h6⟩
  exact ⟨g, cap, cur, h3, h4, (hb.block g (Array.getElem?_eq_some_iff.1 h5).1).trans h5, h6⟩
/- what an own slice's writing leaves -/
theorem below_own {B : Nat} {w0 w w' : World} {v : Value} {us : List Us} (hB : Below B w0 w) (hz : B ≤ w.heap.size) (ho : OwnUs B w v us) (hg : w.grownBy w' v.ownBlock) : Below B w0 w' := by
  refine hB.trans ⟨hg.os, hg.tape, hg.output, hg.size, fun b hb => hg.block b (by omega) (fun e => ?_)⟩
  rcases ho.2 with ⟨rfl, _⟩ | ⟨g, cap, cur, rfl, h4, _⟩
  · cases e
  · simp only [Value.ownBlock, Option.some.injEq] at e
    omega
theorem own_cell {B : Nat} {w : World} {v : Value} {us : List Us} (h : OwnUs B w v us) {i : Nat} (hi : i < us.length) :
    ∃ g c, v = .slice (some ⟨g, 0, none⟩) us.length c ∧ B ≤ g ∧ g < w.heap.size ∧ us.length ≤ maxLen ∧ w.cell? ⟨g, i * 3, none⟩ = some (.pointer (some ⟨us[i].b, us[i].o, none⟩)) ∧ w.cell? ⟨g, i * 3 + 1, none⟩ = some (.int .i64 us[i].to) ∧ w.cell? ⟨g, i * 3 + 2, none⟩ = some (.int .i64 us[i].at_) := by
  obtain ⟨h1, ⟨rfl, h2⟩ | ⟨g, cap, cur, rfl, h4, h5, h6, h7, h8, h9⟩⟩ := h
  · omega
  · have hc : ∀ j u, (us.flatMap useCells)[j]? = some u → w.cell? ⟨g, j, none⟩ = some u := by
      intro j u hj
      rw [← h9] at hj
      have hlt := (List.getElem?_eq_some_iff.1 hj).1
      rw [List.length_take] at hlt
      rw [List.getElem?_take, if_pos (by omega)] at hj
      simp only [World.cell?, h5]
      simpa using hj
    have hg : ∀ (us : List Us) (i : Nat) (hi : i < us.length), (us.flatMap useCells)[i * 3]? = some (.pointer (some ⟨us[i].b, us[i].o, none⟩)) ∧ (us.flatMap useCells)[i * 3 + 1]? = some (.int .i64 us[i].to) ∧ (us.flatMap useCells)[i * 3 + 2]? = some (.int .i64 us[i].at_) := by
      intro us
      induction us with
      | nil => intro i hi; simp at hi
      | cons x r ih =>
        intro i hi
        cases i with
        | zero => exact ⟨rfl, rfl, rfl⟩
        | succ i =>
          have := ih i (by simpa using hi)
          have e : ((x :: r).flatMap useCells) = useCells x ++ r.flatMap useCells := rfl
          rw [e, List.getElem?_append_right (by simp [useCells]; omega), List.getElem?_append_right (by simp [useCells]; omega), List.getElem?_append_right (by simp [useCells]; omega)]
          have hl : (useCells x).length = 3 := rfl
          rw [hl, show (i + 1) * 3 - 3 = i * 3 by omega, show (i + 1) * 3 + 1 - 3 = i * 3 + 1 by omega, show (i + 1) * 3 + 2 - 3 = i * 3 + 2 by omega]
          exact this
    obtain ⟨g0, g1, g2⟩ := hg us i hi
    exact ⟨g, cap, rfl, h4, (Array.getElem?_eq_some_iff.1 h5).1, by omega, hc _ _ g0, hc _ _ g1, hc _ _ g2⟩
theorem own_nil {B : Nat} {w : World} {v : Value} {us : List Us} (h : OwnUs B w v us) : ∃ a c, v = .slice a us.length c ∧ us.length ≤ maxLen := by
  obtain ⟨h1, ⟨rfl, h2⟩ | ⟨g, cap, cur, rfl, h4, h5, h6, h7, h8, h9⟩⟩ := h
  · exact ⟨none, 0, by rw [h2], by rw [h2]; exact Nat.zero_le _⟩
  · exact ⟨_, _, rfl, by omega⟩
theorem range_len {f : Nat → List Us} {n i : Nat} (h : i < n) : ((List.range i).flatMap f).length + (f i).length ≤ ((List.range n).flatMap f).length := by
  obtain ⟨post, hp⟩ := range_flatMap f h
  rw [hp]; simp only [List.length_append]; omega
theorem wpList_append_us {ops : Array Oper} {rest : List Oper} {o : Oper} {a : Act} {Q : Exit → Act → World → Prop} {W : World} (B : Nat) (hgd : o.guard = none) (s x : Operand) (ho : o.op = .call { callee := .builtin .append, args := #[s, x], argTypes := #[151, 151] })
    (v : Value) (us : List Us) (hs : a.eval s = v) (hown : OwnUs B W v us) (X : Value) (ys : List Us) (hx : a.eval x = X) (hX : RawCells W X ys.length 3 (ys.flatMap useCells)) (hlen : us.length + ys.length ≤ 1000000) (hbase : B ≤ W.heap.size)
    (h : ∀ (ad : Option Addr) (c : Nat) w', OwnUs B w' (.slice ad (us.length + ys.length) c) (us ++ ys) → W.grownBy w' v.ownBlock → wpList Try.prog ops Q rest (a.put o.dst (.slice ad (us.length + ys.length) c)) w') : wpList Try.prog ops Q (o :: rest) a W :=
  wpList_plain hgd fun _ hK => wp_append_us B hgd s x ho v us hs hown X ys hx hX hlen hbase (fun ad c w' h1 h2 => hK _ _ (h ad c w' h1 h2))
/- the references beside those of expressions, as far as a loop has come -/
def lst1 (L : Lay) (x : Src) (i : Nat) : List Us := (List.range i).flatMap (farmU L.farms x.farms)
def lst2 (L : Lay) (x : Src) (i : Nat) : List Us := lst1 L x L.farms.n ++ (List.range i).flatMap (rotU L x.rots)
def lst3 (L : Lay) (x : Src) (i : Nat) : List Us := lst2 L x L.rots.n ++ (List.range i).flatMap (rightU L.rights x.rights)
def lst4 (L : Lay) (x : Src) (i : Nat) : List Us := lst3 L x L.rights.n ++ (List.range i).flatMap (dutyU L.duties x.duties)
theorem lst4_all (L : Lay) (x : Src) : lst4 L x L.duties.n = listU L x := rfl
theorem lst1_next (L : Lay) (x : Src) (i : Nat) : lst1 L x (i + 1) = lst1 L x i ++ farmU L.farms x.farms i := range_flatMap_succ _ i
theorem lst2_next (L : Lay) (x : Src) (i : Nat) : lst2 L x (i + 1) = lst2 L x i ++ rotU L x.rots i := by unfold lst2; rw [range_flatMap_succ, List.append_assoc]
theorem lst3_next (L : Lay) (x : Src) (i : Nat) : lst3 L x (i + 1) = lst3 L x i ++ rightU L.rights x.rights i := by unfold lst3; rw [range_flatMap_succ, List.append_assoc]
theorem lst4_next (L : Lay) (x : Src) (i : Nat) : lst4 L x (i + 1) = lst4 L x i ++ dutyU L.duties x.duties i := by unfold lst4; rw [range_flatMap_succ, List.append_assoc]
theorem lst3_le (L : Lay) (x : Src) : (lst3 L x L.rights.n).length ≤ (listU L x).length := by rw [← lst4_all]; unfold lst4; simp
theorem lst2_le (L : Lay) (x : Src) : (lst2 L x L.rots.n).length ≤ (listU L x).length := Nat.le_trans (by unfold lst3; simp) (lst3_le L x)
theorem lst1_le (L : Lay) (x : Src) : (lst1 L x L.farms.n).length ≤ (listU L x).length := Nat.le_trans (by unfold lst2; simp) (lst2_le L x)
theorem lst1_len {L : Lay} {x : Src} {i : Nat} (h : i < L.farms.n) : (lst1 L x i).length + (farmU L.farms x.farms i).length ≤ (listU L x).length := Nat.le_trans (range_len h) (lst1_le L x)
theorem lst2_len {L : Lay} {x : Src} {i : Nat} (h : i < L.rots.n) : (lst2 L x i).length + (rotU L x.rots i).length ≤ (listU L x).length := Nat.le_trans (by have := range_len (f := rotU L x.rots) h; unfold lst2; simp only [List.length_append]; omega) (lst2_le L x)
theorem lst3_len {L : Lay} {x : Src} {i : Nat} (h : i < L.rights.n) : (lst3 L x i).length + (rightU L.rights x.rights i).length ≤ (listU L x).length := Nat.le_trans (by have := range_len (f := rightU L.rights x.rights) h; unfold lst3; simp only [List.length_append]; omega) (lst3_le L x)
theorem lst4_len {L : Lay} {x : Src} {i : Nat} (h : i < L.duties.n) : (lst4 L x i).length + (dutyU L.duties x.duties i).length ≤ (listU L x).length := by
  have := range_len (f := dutyU L.duties x.duties) h
  rw [← lst4_all]; unfold lst4; simp only [List.length_append]; omega
theorem exR_top {w : World} {C : Addr → Prop} {e : Ex} {b o : Nat} (h : ExR w C e b o) : C ⟨b, o, none⟩ ∧ C ⟨b, o + 5, none⟩ := by
  cases e
  rw [ExR] at h
  obtain ⟨_, _, h1, h2, _⟩ := h
  exact ⟨h1.2, h2.2⟩
theorem left_eq {e : Ex} {z : Int} (h : e.op = 0 → z = e.ri) : leftC e.op e.n e.u e.rn z e.args.length = leftE e := by
  unfold leftE
  by_cases h0 : e.op = 0
  · rw [h h0]
  · simp [leftC, h0]

set_option maxRecDepth 100000 in
set_option maxHeartbeats 16000000 in
theorem uses_seq (n : Nat) (hn : 1 ≤ n) {N : Nat → Prop} {w0 : World} {C D : Addr → Prop} {Bu : Nat} {L : Lay} {x : Src} (hU : UsesC N w0 C D Bu L x) :
    SeqP Fence.wide n Try.prog 81 #[.pointer (some ⟨Bu, 0, none⟩)] (HdU w0 C D) ((usesU w0 L x).1.map Us.v) (if (usesU w0 L x).2 then none else some (errP 170)) := by
  intro l J Jx Jp W hJ hJx hJp hHd hHdx hown hround h0
  have hmf : ∀ (fn : Fn) (first cap : Array Value) (w : World), (Instr.makeFunc fn first cap).run Try.prog w = .ok (.func fn first cap) w := fun _ _ _ _ => rfl
  obtain ⟨X, hX⟩ : ∃ X, X = usesU w0 L x := ⟨_, rfl⟩
  rw [← hX] at hown hround ⊢
  have HU := Lib.hid hU
  have HX := Lib.hid hX
  have H0 := Lib.hid h0
  have HJ := Lib.hid hJ
  have HJx := Lib.hid hJx
  have HJp := Lib.hid hJp
  have HHd := Lib.hid hHd
  have HHdx := Lib.hid hHdx
  have HOwn := Lib.hid hown
  have HRound := Lib.hid hround
  have cB := ((hHd _ _ _ h0).1 _ hU.box).trans hU.heads.box
  have HBu := Lib.hid (World.block_lt_of_cell? W _ cB)
  have dB : ∀ (o o' : Obj), ((W.alloc o).alloc o').cell? ⟨Bu, 0, none⟩ = some (.pointer (some ⟨L.s, 0, none⟩)) := fun o o' => ((((Below.refl W.heap.size W).alloc (Nat.le_refl _) o).alloc (by simp) o').cell (p := ⟨Bu, 0, none⟩) HBu.out).trans cB
  clear hU hX h0 hJ hJx hJp hHd hHdx hown hround cB
  refine callsIn_wide.2 (calls_of_wpAt_marks (n := 10) Try.func81 rfl ?_)
  simp only [Try.ntmps81, List.size_toArray, List.length_cons, List.length_nil, Nat.reduceAdd, Nat.reduceSub, Array.replicate_succ, Array.replicate_zero, List.push_toArray, List.append_toArray, List.nil_append, List.cons_append]
  refine wpAt_seq (wpAt_of_wp ?_)
  go_wp2
  refine wpAt_seq (wpAt_of_wp ?_)
  go_wp2
  refine wpAt_seq (wpAt_of_wp ?_)
  go_wp2
  refine wpAt_seq (wpAt_seq (wpAt_of_wp ?_))
  go_wp2_with (first | (go_at_call 67; refine (expressions_any _ _).mono ?_; rintro e w2 ⟨rfl, rfl⟩))
  have hW1b : Below W.heap.size W (((W.alloc (.cells #[.func (.yield l) #[] #[]] 148)).alloc (.cells #[.func (.func 82) #[] #[.pointer (some ⟨W.heap.size, 0, none⟩), .pointer (some ⟨W.heap.size + 1, 0, none⟩)]] 149)).alloc (.cells #[.pointer (some ⟨L.s, 0, none⟩)] 52)) := (((Below.refl _ _).alloc (Nat.le_refl _) _).alloc (by simp) _).alloc (by simp; omega) _
  have hW1x : UBox l W.heap.size (W.heap.size + 1) (W.heap.size + 1 + 1) L.s (((W.alloc (.cells #[.func (.yield l) #[] #[]] 148)).alloc (.cells #[.func (.func 82) #[] #[.pointer (some ⟨W.heap.size, 0, none⟩), .pointer (some ⟨W.heap.size + 1, 0, none⟩)]] 149)).alloc (.cells #[.pointer (some ⟨L.s, 0, none⟩)] 52)) := by
    refine ⟨?_, ?_, ?_⟩
    · refine Lib.cell?_alloc_some _ (Lib.cell?_alloc_some _ ?_)
      have := World.alloc_heap_new W (.cells #[.func (.yield l) #[] #[]] 148)
      simp only [World.cell?, this]; simp
    · refine Lib.cell?_alloc_some _ ?_
      have := World.alloc_heap_new (W.alloc (.cells #[.func (.yield l) #[] #[]] 148)) (.cells #[.func (.func 82) #[] #[.pointer (some ⟨W.heap.size, 0, none⟩), .pointer (some ⟨W.heap.size + 1, 0, none⟩)]] 149)
      rw [World.size_alloc] at this
      simp only [World.cell?, this]; simp
    · have := World.alloc_heap_new ((W.alloc (.cells #[.func (.yield l) #[] #[]] 148)).alloc (.cells #[.func (.func 82) #[] #[.pointer (some ⟨W.heap.size, 0, none⟩), .pointer (some ⟨W.heap.size + 1, 0, none⟩)]] 149)) (.cells #[.pointer (some ⟨L.s, 0, none⟩)] 52)
      rw [World.size_alloc, World.size_alloc] at this
      simp only [World.cell?, this]; simp
  have hW1z : (((W.alloc (.cells #[.func (.yield l) #[] #[]] 148)).alloc (.cells #[.func (.func 82) #[] #[.pointer (some ⟨W.heap.size, 0, none⟩), .pointer (some ⟨W.heap.size + 1, 0, none⟩)]] 149)).alloc (.cells #[.pointer (some ⟨L.s, 0, none⟩)] 52)).heap.size = W.heap.size + 3 := by simp
  have HB1 := Lib.hid hW1b
  have HX1 := Lib.hid hW1x
  have HZ1 := Lib.hid hW1z
  clear hW1b hW1x hW1z dB hmf
  generalize ((W.alloc (.cells #[.func (.yield l) #[] #[]] 148)).alloc (.cells #[.func (.func 82) #[] #[.pointer (some ⟨W.heap.size, 0, none⟩), .pointer (some ⟨W.heap.size + 1, 0, none⟩)]] 149)).alloc (.cells #[.pointer (some ⟨L.s, 0, none⟩)] 52) = W1 at *
  obtain ⟨parts, hparts⟩ : ∃ parts, parts = partsU w0 L x := ⟨_, rfl⟩
  have hPl : parts.length = (exprX L).length + 1 := by rw [hparts]; unfold partsU; rw [List.length_append, topParts_length HU.out]; rfl
  have hPk : ∀ k (hk : k < (exprX L).length) (hk2 : k < (allE x).length) (hk3 : k < parts.length), parts[k] = topPart w0 (exprX L)[k] (allE x)[k] := by
    intro k hk hk2 hk3
    apply Option.some.inj
    rw [← List.getElem?_eq_getElem hk3, hparts]
    unfold partsU
    rw [List.getElem?_append_left (by rw [topParts_length HU.out]; exact hk)]
    unfold topParts
    rw [List.getElem?_zipWith, List.getElem?_eq_getElem hk, List.getElem?_eq_getElem hk2]
  have HXp : Hid (X = seqU parts) := Lib.hid (by rw [HX.out, hparts]; rfl)
  have HPl := Lib.hid hPl
  have HPk := Lib.hid hPk
  have HPt := Lib.hid hparts
  have HJk : Hid (Stays (fun k => J (seqU (parts.take k)).1.length)) := Lib.hid (fun k O W O' W' h hz ho ht hu hk hO => HJ.out _ O W O' W' h hz ho ht hu hk hO)
  have hBB : (W.heap.size ≤ W.heap.size ∧ W.heap.size < W.heap.size + 3) ∧ (W.heap.size ≤ W.heap.size + 1 ∧ W.heap.size + 1 < W.heap.size + 3) ∧ (W.heap.size ≤ W.heap.size + 1 + 1 ∧ W.heap.size + 1 + 1 < W.heap.size + 3) := by omega
  have HBB := Lib.hid hBB
  clear hPl hPk hparts hBB
  refine wpAt_block ?_
  refine wpAt_rangeP (n := 10) Try.func81 rfl (fun _ _ => rfl) (expr_seq 9 (by omega) (W.heap.size + 1 + 1) L HU.out.ok) (fun a ha => by
      obtain ⟨i, hi, rfl⟩ := List.mem_iff_getElem.1 ha
      obtain ⟨b, o, c, h1, _⟩ := HU.out.top.get i hi (by rw [← HU.out.top.length]; exact hi)
      rw [h1]; rfl)
    (URound (fun k => J (seqU (parts.take k)).1.length) W.heap.size (W.heap.size + 3) l W.heap.size (W.heap.size + 1) (W.heap.size + 1 + 1) L.s (fun k => (seqU (parts.take k)).2 = true))
    (fun c O w => c = .ret ∧ URound (fun (_ : Unit) => Jx) W.heap.size (W.heap.size + 3) l W.heap.size (W.heap.size + 1) (W.heap.size + 1 + 1) L.s (fun _ => True) () O w)
    (fun ch => URound (fun (_ : Unit) => Jp ch) W.heap.size (W.heap.size + 3) l W.heap.size (W.heap.size + 1) (W.heap.size + 1 + 1) L.s (fun _ => True) ())
    (fun k a => URound (fun k => J (seqU (parts.take k)).1.length) W.heap.size (W.heap.size + 3) l W.heap.size (W.heap.size + 1) (W.heap.size + 1 + 1) L.s (fun k => (seqU (parts.take k)).2 = true ∧ ∃ (b o : Nat) (lt : Int) (hk : k < (exprX L).length), (exprX L)[k]'hk = #[.pointer (some ⟨b, o, none⟩), .int .i64 lt] ∧ a = { tmps := #[.func (.yield l) #[] #[], .pointer (some ⟨Bu, 0, none⟩), .pointer (some ⟨W.heap.size, 0, none⟩), .pointer (some ⟨W.heap.size + 1, 0, none⟩), .pointer (some ⟨b, o, none⟩), .int .i64 lt, undef, undef, undef, undef, undef, undef, undef, undef, undef, undef, undef, undef, undef, undef, .func (.func 82) #[] #[.pointer (some ⟨W.heap.size, 0, none⟩), .pointer (some ⟨W.heap.size + 1, 0, none⟩)], .pointer (some ⟨L.s, 0, none⟩), .func (.func 89) #[] #[.pointer (some ⟨W.heap.size + 1 + 1, 0, none⟩)], .pointer (some ⟨b, o, none⟩), .int .i64 lt, undef, undef, undef, undef, undef, undef, undef, undef, undef, undef, undef, undef, undef, undef, undef, undef, undef, undef, undef, undef, undef, undef, undef, undef, undef, undef, undef, undef, undef, undef, undef, undef, undef, undef, undef, undef, undef, undef, undef, undef, undef, undef, undef, undef, undef, undef, undef, undef, undef, undef, undef, undef, undef, undef, undef, undef, undef, undef, undef, undef, undef, undef, undef, undef, undef, undef, undef, undef, undef, undef, undef, undef, undef, undef, undef, undef, undef, undef, undef, undef, undef, undef, undef, undef, undef, undef, undef, undef, undef, undef, undef, undef, undef, undef, undef, undef, undef, undef, undef, undef, undef, undef, undef, undef, undef, undef, undef, undef, undef, undef, undef, undef, undef, undef, undef, undef, undef, undef, undef, undef, undef, undef, undef, undef, undef, undef, undef, undef, undef, undef, undef, undef, undef, undef, undef, undef, undef, undef, undef, undef, undef, undef, undef, undef, undef, undef, undef, undef, undef, undef, undef, undef, undef, undef, undef, undef, undef, undef, undef, undef, undef, undef, undef, undef, undef, undef, undef], defers := [] }) k)
    ?_ ?_ ?_ ?_ ?_ ?_ (fun _ h => by cases h) ?_ ?_ ?_ ?_ ?_ ?_
  · exact URound.stays HJk.out HBB.out
  · rintro c _ O w O' w' ⟨h1, h2⟩ hz ho ht hu hk hO
    exact ⟨h1, URound.stays HJx.out HBB.out () O w O' w' h2 hz ho ht hu hk hO⟩
  · exact fun ch _ O w O' w' h hz ho ht hu hk hO => URound.stays (HJp.out ch) HBB.out () O w O' w' h hz ho ht hu hk hO
  · exact fun a => URound.stays HJk.out HBB.out
  · exact fun k O w h => Heads.at HU.out (HHd.out _ _ _ h.j) h.box.s
  · exact fun c O w h => Heads.at HU.out (HHdx.out _ _ h.2.j) h.2.box.s
  · refine ⟨HJ.out 0 _ W _ W1 H0.out (by rw [HZ1.out]; omega) HB1.out.os HB1.out.tape HB1.out.output (fun b _ hlt => HB1.out.block b hlt) (fun b hb => ?_), fun _ h => h.elim, by rw [HZ1.out]; omega, HX1.out, rfl⟩
    rcases hb with hb | hb
    · exact hb.elim
    · exact .inr hb.1
  · intro k hk O w lo hI hO hl _
    obtain ⟨b, o, cs2, h1, _⟩ := HU.out.top.get k hk (by rw [← HU.out.top.length]; exact hk)
    have hk2 : k < (allE x).length := by rw [← HU.out.top.length]; exact hk
    rw [h1]
    generalize ((allE x)[k]'hk2).2 = lt at h1
    have HI := Lib.hid hI
    have HE := Lib.hid h1
    clear hI hO hl h1
    gi_wp2
    first
    | exact ⟨Same.refl _ _, HI.out.j, HI.out.own, HI.out.size, HI.out.box, HI.out.p, b, o, lt, hk, HE.out, rfl⟩
    | (rename_i hK; exact hK _ _ ⟨Same.refl _ _, HI.out.j, HI.out.own, HI.out.size, HI.out.box, HI.out.p, b, o, lt, hk, HE.out, rfl⟩)
    | (rename_i hK _; exact hK _ _ ⟨Same.refl _ _, HI.out.j, HI.out.own, HI.out.size, HI.out.box, HI.out.p, b, o, lt, hk, HE.out, rfl⟩)
    | fail
  · rintro k hk O w lo a1 hl hrec hOW ⟨hj, hown, hsz, hbox, hp, b, o, lt, hk', hx, rfl⟩
    obtain ⟨b', o', cs, h1, h2, h3, h4, h5, h6, h7, h8, h9⟩ := HU.out.top.get k hk (by rw [← HU.out.top.length]; exact hk)
    rw [hx] at h1
    have hk2 : k < (allE x).length := by rw [← HU.out.top.length]; exact hk
    have hk3 : k < parts.length := by rw [HPl.out]; omega
    have hpk := HPk.out k hk hk2 hk3
    have hfew := HU.out.few _ (List.getElem_mem hk2)
    rcases hee : (allE x)[k] with ⟨ex, lt2⟩
    simp only [hee] at h1 h3 h4 h9 hpk hfew
    simp only [Array.mk.injEq, List.cons.injEq, Value.pointer.injEq, Option.some.injEq, Addr.mk.injEq, Value.int.injEq, true_and, and_true] at h1
    obtain ⟨⟨rfl, rfl⟩, rfl⟩ := h1
    obtain ⟨ea, ecap, rfl, e1, e2, e3⟩ := h3.cells
    obtain ⟨r0, r1, r2, r3, r4, r5⟩ := rangeAt6 h2
    have hdU := HHd.out _ _ _ hj
    have hC := exR_top h4
    have c0 := (hdU.1 _ hC.1).trans r0
    have c1 := (hdU.1 _ h5).trans r1
    have c2 := (hdU.1 _ h6).trans r2
    have c3 := (hdU.1 _ h7).trans r3
    obtain ⟨z, c4⟩ := hdU.2 _ h8
    have c5 := (hdU.1 _ hC.2).trans r5
    have hleft : leftC ex.op ex.n ex.u ex.rn z ex.args.length = leftE ex := left_eq (fun h0 => by
      have := (hdU.1 _ (h9 h0)).symm.trans c4
      rw [r4] at this
      simp only [Option.some.injEq, Value.int.injEq, true_and] at this
      exact this.symm)
    have HLeft := Lib.hid hleft
    have hin : InSt J (Mine W.heap.size (W.heap.size + 3) O) W.heap.size l W.heap.size (W.heap.size + 1) (seqU (parts.take k)).1.length w := ⟨hj, by omega, fun b hb => hb.elim (hOW b) (fun h => by omega), ⟨.inr (by omega), hbox.y⟩, ⟨.inr (by omega), hbox.i⟩⟩
    have HIn := Lib.hid hin
    have hctx : InCtx n l W.heap.size (W.heap.size + 1) W.heap.size (Mine W.heap.size (W.heap.size + 3) O) X.1 w0 C J Jx Jp := ⟨HJ.out, fun k O W h => (HHd.out k O W h).1, fun O W h => (HHdx.out O W h).1, fun k hk W' hs => by
      have := HRound.out k (by simpa using hk) _ W' hs.j hs.size (fun b hb => ⟨hb.elim (fun h => by have := hown b h; omega) (fun h => h.1), hs.own b hb⟩)
      rw [List.getElem_map] at this
      exact this⟩
    have hout : leftE ex = true → seqU (parts.take (k + 1)) = ((seqU (parts.take k)).1 ++ [], true) := fun hl => by
      rw [seqU_next hk3 hp, hpk]; simp [topPart, hl]
    have hpar : leftE ex = false → parts[k] = preE w0 lt ex b o := fun hl => by
      rw [hpk]; simp [topPart, hl, hx, ptrOf]
    have HOut := Lib.hid hout
    have hnx : leftE ex = false → seqU (parts.take (k + 1)) = ((seqU (parts.take k)).1 ++ (preE w0 lt ex b o).1, (preE w0 lt ex b o).2) := fun hl => by
      rw [seqU_next hk3 hp, hpar hl]
    have HNx := Lib.hid hnx
    have hcall : leftE ex = false → ∀ w3, Below w.heap.size w w3 → Calls Try.prog 82 #[.pointer (some ⟨b, o, none⟩), .int .i64 lt, .pointer (some ⟨W.heap.size, 0, none⟩), .pointer (some ⟨W.heap.size + 1, 0, none⟩)] w3
        (InEnd J Jx Jp (Mine W.heap.size (W.heap.size + 3) O) ((seqU (parts.take k)).1.length + (preE w0 lt ex b o).1.length) (preE w0 lt ex b o).2 w3) := fun hl w3 hw3 => by
      refine inside_any n hn l W.heap.size (W.heap.size + 1) W.heap.size lt hfew (Mine W.heap.size (W.heap.size + 3) O) X.1 w0 C J Jx Jp hctx ex b o (seqU (parts.take k)).1 w3 (hin.below HJ.out hw3) h4 ?_ ?_
      · obtain ⟨post, hpost⟩ := seqU_pre parts (k + 1)
        rw [hnx hl] at hpost
        exact ⟨post, by rw [HXp.out, hpost]; simp⟩
      · intro hf W' hj'
        have hst := seqU_stop (l := parts) (k := k + 1) (by rw [hnx hl]; exact hf)
        rw [hnx hl] at hst
        refine HOwn.out (errP 170) (by rw [HXp.out, hst]; simp [hf]) _ W' ?_
        rw [HXp.out, hst]
        simpa using hj'
    have HCall := Lib.hid hcall
    have HOb := Lib.hid hown
    have HBox := Lib.hid hbox
    have HSz := Lib.hid hsz
    have bi := hbox.i
    have HBi := Lib.hid (World.block_lt_of_cell? w _ bi)
    have HOW := Lib.hid hOW
    have HP := Lib.hid hp
    have hm47 := e1
    clear h2 h3 h4 h5 h6 h7 h8 h9 e2 e3 r0 r1 r2 r3 r4 r5 hdU hC hleft hin hctx hout hnx hcall hown hbox hsz hOW hp hpk hpar hj hx hee hl hrec hk' hk2 hk3 hfew e1
    generalize ex.args.length = em at *
    generalize hLE : leftE ex = LE at *
    clear hLE
    cases LE with
    | true =>
      gi_wp2_with fail
      refine ⟨trivial, CallsIn.mono (CallsIn.inRound lo (callsIn_wide.2 (leftOut_any _ _ _ _ _ _ _ _ _))) ?_⟩
      rintro e w3 ⟨rfl, hw3⟩
      rw [HLeft.out]
      gi_wp2_with fail
      repeat (refine ⟨fun _ h => (by cases h), ?_⟩; gi_wp2_with fail)
      refine ⟨⟨hw3.size, fun b hb => hw3.block b (HOW.out b hb)⟩, ?_, HOb.out, Nat.le_trans HSz.out hw3.size, ?_, ?_⟩
      · have := (HIn.out.below HJ.out hw3).j
        rw [HOut.out (by simp), List.append_nil]; exact this
      · have hB := HBB.out
        exact HBox.out.same (hw3.block _ (by have := HSz.out; omega)) (hw3.block _ (by have := HSz.out; omega)) (hw3.block _ (by have := HSz.out; omega))
      · rw [HOut.out (by simp)]
    | false =>
      gi_wp2_with fail
      refine ⟨trivial, CallsIn.mono (CallsIn.inRound lo (callsIn_wide.2 (leftOut_any _ _ _ _ _ _ _ _ _))) ?_⟩
      rintro e w3 ⟨rfl, hw3⟩
      rw [HLeft.out]
      have bi3 := (hw3.cell (p := ⟨W.heap.size + 1, 0, none⟩) HBi.out).trans bi
      have HW3 := Lib.hid hw3
      clear hw3
      gi_wp2_with fail
      refine ⟨trivial, CallsIn.mono (CallsIn.inRound lo (callsIn_wide.2 (HCall.out (by simp) w3 HW3.out))) ?_⟩
      rintro e w4 (⟨r, rfl, hs4, (⟨rfl, hok, hj4⟩ | ⟨rfl, hx4⟩)⟩ | ⟨ch, rfl, hp4, hs4⟩)
      · have HS4 := Lib.hid ((HIn.out.sameBelow HW3.out).trans hs4)
        have HJ4 := Lib.hid hj4
        have HOk := Lib.hid hok
        clear hs4 hj4 hok bi bi3
        gi_wp2_with fail
        refine ⟨HS4.out.sub (fun b hb => .inl hb), ?_, HOb.out, Nat.le_trans HSz.out HS4.out.1, ?_, ?_⟩
        · rw [HNx.out (by simp)]
          simp only [List.length_append]
          exact HJ4.out
        · exact HBox.out.same (HS4.out.2 _ (.inr (by omega))) (HS4.out.2 _ (.inr (by omega))) (HS4.out.2 _ (.inr (by omega)))
        · rw [HNx.out (by simp)]; exact HOk.out
      · have HS4 := Lib.hid ((HIn.out.sameBelow HW3.out).trans hs4)
        have HX4 := Lib.hid hx4
        clear hs4 hx4 bi bi3
        gi_wp2_with fail
        exact ⟨HS4.out.sub (fun b hb => .inl hb), rfl, HX4.out, HOb.out, Nat.le_trans HSz.out HS4.out.1, HBox.out.same (HS4.out.2 _ (.inr (by omega))) (HS4.out.2 _ (.inr (by omega))) (HS4.out.2 _ (.inr (by omega))), trivial⟩
      · have HS4 := Lib.hid ((HIn.out.sameBelow HW3.out).trans hs4)
        exact ⟨rfl, HS4.out.sub (fun b hb => .inl hb), hp4, HOb.out, Nat.le_trans HSz.out HS4.out.1, HBox.out.same (HS4.out.2 _ (.inr (by omega))) (HS4.out.2 _ (.inr (by omega))) (HS4.out.2 _ (.inr (by omega))), trivial⟩
  · rintro - Dd O w hD hOD hI hdf
    have hT : (topParts w0 L x).length = (exprX L).length := topParts_length HU.out
    have hTk : parts.take (exprX L).length = topParts w0 L x := by rw [HPt.out]; unfold partsU; rw [← hT, List.take_left']; rfl
    have hpT := hI.p
    have hjT := hI.j
    simp only [hTk] at hpT hjT
    obtain ⟨K0, hK0⟩ : ∃ K0, K0 = (seqU (topParts w0 L x)).1 := ⟨_, rfl⟩
    have hXX : X = (K0 ++ (if kindsOk x then listU L x else []), kindsOk x) := by
      rw [HXp.out, HPt.out]; unfold partsU
      rw [seqU_append, hpT, if_pos rfl, hK0]
      simp only [seqU]
      cases kindsOk x <;> simp
    rw [← hK0] at hjT
    have hj2 : J K0.length (fun b => Mine W.heap.size (W.heap.size + 3) O b ∧ b < w.heap.size) w := HJ.out _ _ _ _ _ hjT (Nat.le_refl _) rfl rfl rfl (fun _ _ _ => rfl) (fun b hb => .inl hb.1)
    have hDl : Dd < w.heap.size := (Array.getElem?_eq_some_iff.1 hdf).1
    have hlow : ∀ b, Mine W.heap.size (W.heap.size + 3) O b → W.heap.size ≤ b := fun b hb => hb.elim (fun h => by have := hI.own b h; omega) (fun h => h.1)
    have hrd : ∀ wr, Below w.heap.size w wr → ∀ p, C p → wr.cell? p = w0.cell? p := fun wr hb => (HHd.out _ _ _ (stays_below HJ.out hj2 hb)).1
    have HRd := Lib.hid hrd
    have HJ2 := Lib.hid hj2
    have HXX := Lib.hid hXX
    have HLow := Lib.hid hlow
    have HDl := Lib.hid hDl
    have HDo := Lib.hid hOD
    have HDf := Lib.hid hdf
    have HBoxw := Lib.hid hI.box
    have HSzw := Lib.hid hI.size
    have bx : w.cell? ⟨Bu, 0, none⟩ = some (.pointer (some ⟨L.s, 0, none⟩)) := (hrd w (Below.refl _ _) _ HU.out.box).trans HU.out.heads.box
    have hf : w.cell? ⟨L.s, 22, none⟩ = some (.slice L.farms.a L.farms.n L.farms.c) := (hrd w (Below.refl _ _) _ (HU.out.src 22 (by omega) (by omega))).trans HU.out.heads.farms
    have hn47 : L.farms.n ≤ 140737488355328 := HU.out.ok.farms.1
    clear hT hTk hpT hjT hK0 hXX hj2 hDl hlow hrd hOD hdf hI hD
    simp only [Exit.inBlock, Exit.then]
    refine wpAt_of_wp ?_
    go_wp2
    clear bx hf
    go_loopw [6, 42] (fun v6 iv wr => ∃ (i : Nat) (us : List Us), i ≤ L.farms.n ∧ iv = .int .i64 i ∧ Hid (us = lst1 L x i) ∧ Hid (Below w.heap.size w wr) ∧ Hid (OwnUs w.heap.size wr v6 us)) (fun _ iv _ => L.farms.n - (intOf iv).toNat)
    case atStart => exact ⟨0, [], Nat.zero_le _, rfl, Lib.hid rfl, Lib.hid (Below.refl _ _), Lib.hid (ownUs_nil _ _)⟩
    case round =>
      obtain ⟨i, us, hi, rfl, HUs, HBr, HOr⟩ := hrel
      by_cases hlt : i < L.farms.n
      · obtain ⟨b, o, he, hat⟩ := HU.out.ok.farms.get hlt
        have hil : i < x.farms.length := by rw [← HU.out.nfarms]; exact hlt
        have bx := (HRd.out wr HBr.out _ HU.out.box).trans HU.out.heads.box
        have hf : wr.cell? ⟨L.s, 22, none⟩ = some (.slice L.farms.a L.farms.n L.farms.c) := (HRd.out wr HBr.out _ (HU.out.src 22 (by omega) (by omega))).trans HU.out.heads.farms
        have hr := (HRd.out wr HBr.out _ (HU.out.river i hil).1).trans (HU.out.river i hil).2
        rw [hat] at hr
        rw [he] at hf
        clear he
        have hfu : farmU L.farms x.farms i = [⟨b, o + i * 12 + 1, 4, 0, x.farms[i].on.name, x.farms[i].on.n⟩, ⟨b, o + i * 12 + 10, if x.farms[i].river then 0 else 3, 0, x.farms[i].crop.name, x.farms[i].crop.n⟩] := by
          unfold farmU; rw [List.getElem?_eq_getElem hil]; simp [usAt, hat]
        have hki : (i : Int) < (L.farms.n : Int) := by omega
        cases hrv : x.farms[i].river with
        | true =>
          rw [hrv] at hr hfu
          simp only [if_true] at hfu
          have HFu := Lib.hid hfu
          clear hfu hrv
          have HWb : Hid (Below wr.heap.size wr (wr.drew.alloc (.cells #[.pointer (some ⟨b, o + i * 12 + 1, none⟩), .int .i64 4, .int .i64 0, .pointer (some ⟨b, o + i * 12 + 10, none⟩), .int .i64 0, .int .i64 0] 106))) := Lib.hid ((Below.refl _ _).drew.alloc (Nat.le_refl _) _)
          have HOd := Lib.hid (OwnUs.up HOr.out HWb.out)
          have HRaw : Hid (RawCells (wr.drew.alloc (.cells #[.pointer (some ⟨b, o + i * 12 + 1, none⟩), .int .i64 4, .int .i64 0, .pointer (some ⟨b, o + i * 12 + 10, none⟩), .int .i64 0, .int .i64 0] 106)) (.slice (some ⟨wr.heap.size, 0, none⟩) 2 2) 2 3 ([(⟨b, o + i * 12 + 1, 4, 0, x.farms[i].on.name, x.farms[i].on.n⟩ : Us), (⟨b, o + i * 12 + 10, 0, 0, x.farms[i].crop.name, x.farms[i].crop.n⟩ : Us)].flatMap useCells)) := Lib.hid (raw_new (us := [(⟨b, o + i * 12 + 1, 4, 0, x.farms[i].on.name, x.farms[i].on.n⟩ : Us), (⟨b, o + i * 12 + 10, 0, 0, x.farms[i].crop.name, x.farms[i].crop.n⟩ : Us)]) (World.alloc_heap_new wr.drew _) 2)
          have HLen : Hid (us.length + 2 ≤ 1000000) := Lib.hid (by have h1 := lst1_len (x := x) hlt; have h2 := HU.out.short; have h3 := HFu.out; have h4 := HUs.out; rw [h3] at h1; rw [h4]; simp only [List.length_cons, List.length_nil] at h1 ⊢; omega)
          have HSz : Hid (w.heap.size ≤ (wr.drew.alloc (.cells #[.pointer (some ⟨b, o + i * 12 + 1, none⟩), .int .i64 4, .int .i64 0, .pointer (some ⟨b, o + i * 12 + 10, none⟩), .int .i64 0, .int .i64 0] 106)).heap.size) := Lib.hid (Nat.le_trans HBr.out.size HWb.out.size)
          have HBd := Lib.hid (HBr.out.trans (HWb.out.mono HBr.out.size))
          go_wp2_with fail
          go_region_held3 (fun _ => True) (trivial) (first | (refine step_append_us w.heap.size rfl _ _ rfl u6 us rfl HOd.out (.slice (some ⟨wr.heap.size, 0, none⟩) 2 2) [(⟨b, o + i * 12 + 1, 4, 0, x.farms[i].on.name, x.farms[i].on.n⟩ : Us), (⟨b, o + i * 12 + 10, 0, 0, x.farms[i].crop.name, x.farms[i].crop.n⟩ : Us)] rfl HRaw.out HLen.out HSz.out ?_; intro ad c w5 hown5 hg5; have HO5 := Lib.hid hown5; have HB5 := Lib.hid (below_own HBd.out HSz.out HOd.out hg5); clear hown5 hg5))
          go_wp2
          exact ⟨⟨i + 1, _, by omega, by push_cast; rfl, Lib.hid (by rw [HUs.out, lst1_next, HFu.out]), HB5, HO5⟩, by simp [intOf]; omega⟩
        | false =>
          rw [hrv] at hr hfu
          simp only [Bool.false_eq_true, if_false] at hfu
          have HFu := Lib.hid hfu
          clear hfu hrv
          have HWb : Hid (Below wr.heap.size wr (wr.drew.alloc (.cells #[.pointer (some ⟨b, o + i * 12 + 1, none⟩), .int .i64 4, .int .i64 0, .pointer (some ⟨b, o + i * 12 + 10, none⟩), .int .i64 3, .int .i64 0] 106))) := Lib.hid ((Below.refl _ _).drew.alloc (Nat.le_refl _) _)
          have HOd := Lib.hid (OwnUs.up HOr.out HWb.out)
          have HRaw : Hid (RawCells (wr.drew.alloc (.cells #[.pointer (some ⟨b, o + i * 12 + 1, none⟩), .int .i64 4, .int .i64 0, .pointer (some ⟨b, o + i * 12 + 10, none⟩), .int .i64 3, .int .i64 0] 106)) (.slice (some ⟨wr.heap.size, 0, none⟩) 2 2) 2 3 ([(⟨b, o + i * 12 + 1, 4, 0, x.farms[i].on.name, x.farms[i].on.n⟩ : Us), (⟨b, o + i * 12 + 10, 3, 0, x.farms[i].crop.name, x.farms[i].crop.n⟩ : Us)].flatMap useCells)) := Lib.hid (raw_new (us := [(⟨b, o + i * 12 + 1, 4, 0, x.farms[i].on.name, x.farms[i].on.n⟩ : Us), (⟨b, o + i * 12 + 10, 3, 0, x.farms[i].crop.name, x.farms[i].crop.n⟩ : Us)]) (World.alloc_heap_new wr.drew _) 2)
          have HLen : Hid (us.length + 2 ≤ 1000000) := Lib.hid (by have h1 := lst1_len (x := x) hlt; have h2 := HU.out.short; have h3 := HFu.out; have h4 := HUs.out; rw [h3] at h1; rw [h4]; simp only [List.length_cons, List.length_nil] at h1 ⊢; omega)
          have HSz : Hid (w.heap.size ≤ (wr.drew.alloc (.cells #[.pointer (some ⟨b, o + i * 12 + 1, none⟩), .int .i64 4, .int .i64 0, .pointer (some ⟨b, o + i * 12 + 10, none⟩), .int .i64 3, .int .i64 0] 106)).heap.size) := Lib.hid (Nat.le_trans HBr.out.size HWb.out.size)
          have HBd := Lib.hid (HBr.out.trans (HWb.out.mono HBr.out.size))
          go_wp2_with fail
          go_region_held3 (fun _ => True) (trivial) (first | (refine step_append_us w.heap.size rfl _ _ rfl u6 us rfl HOd.out (.slice (some ⟨wr.heap.size, 0, none⟩) 2 2) [(⟨b, o + i * 12 + 1, 4, 0, x.farms[i].on.name, x.farms[i].on.n⟩ : Us), (⟨b, o + i * 12 + 10, 3, 0, x.farms[i].crop.name, x.farms[i].crop.n⟩ : Us)] rfl HRaw.out HLen.out HSz.out ?_; intro ad c w5 hown5 hg5; have HO5 := Lib.hid hown5; have HB5 := Lib.hid (below_own HBd.out HSz.out HOd.out hg5); clear hown5 hg5))
          go_wp2
          exact ⟨⟨i + 1, _, by omega, by push_cast; rfl, Lib.hid (by rw [HUs.out, lst1_next, HFu.out]), HB5, HO5⟩, by simp [intOf]; omega⟩
      · obtain rfl : i = L.farms.n := by omega
        have bx := (HRd.out wr HBr.out _ HU.out.box).trans HU.out.heads.box
        have hf : wr.cell? ⟨L.s, 23, none⟩ = some (.slice L.rots.a L.rots.n L.rots.c) := (HRd.out wr HBr.out _ (HU.out.src 23 (by omega) (by omega))).trans HU.out.heads.rots
        have hn47 : L.rots.n ≤ 140737488355328 := HU.out.ok.rots.1
        go_wp2
        clear bx hf
        obtain ⟨wf1, rfl⟩ : ∃ z : World, z = wr := ⟨_, rfl⟩
        obtain ⟨vf1, rfl⟩ : ∃ z : Value, z = u6 := ⟨_, rfl⟩
        go_loopw [6, 73] (fun v6 iv wr => ∃ (i : Nat) (us : List Us), i ≤ L.rots.n ∧ iv = .int .i64 i ∧ Hid (us = lst2 L x i) ∧ Hid (Below w.heap.size w wr) ∧ Hid (OwnUs w.heap.size wr v6 us)) (fun _ iv _ => L.rots.n - (intOf iv).toNat)
        case atStart => exact ⟨0, us, Nat.zero_le _, rfl, Lib.hid (by rw [HUs.out]; simp [lst2]), HBr, HOr⟩
        case round =>
          clear HUs HBr HOr
          obtain ⟨i, us, hi, rfl, HUs, HBr, HOr⟩ := hrel
          by_cases hlt : i < L.rots.n
          · obtain ⟨b, o, he, hat⟩ := HU.out.ok.rots.get hlt
            have hil : i < x.rots.length := by rw [← HU.out.nrots]; exact hlt
            have bx := (HRd.out wr HBr.out _ HU.out.box).trans HU.out.heads.box
            have hf : wr.cell? ⟨L.s, 23, none⟩ = some (.slice L.rots.a L.rots.n L.rots.c) := (HRd.out wr HBr.out _ (HU.out.src 23 (by omega) (by omega))).trans HU.out.heads.rots
            rw [he] at hf
            clear he
            have HTn := Lib.hid (HU.out.nturns i hil)
            have HTok := Lib.hid (HU.out.ok.turns i hlt)
            have HTc : Hid (∀ W, Below w.heap.size w W → W.cell? ⟨b, o + i * 23 + 22, none⟩ = some (.slice (turnsOf L i).a (turnsOf L i).n (turnsOf L i).c)) := Lib.hid (fun W hW => by
              have h1 := (HRd.out W hW _ (HU.out.turns i hlt)).trans (HU.out.heads.turns i hlt)
              rw [hat] at h1; exact h1)
            have HFu : Hid (rotU L x.rots i = ⟨b, o + i * 23 + 1, 4, 0, x.rots[i].on.name, x.rots[i].on.n⟩ :: (List.range (turnsOf L i).n).flatMap (turnU (turnsOf L i) x.rots[i].turns)) := Lib.hid (by
              unfold rotU; rw [List.getElem?_eq_getElem hil]; simp [usAt, hat])
            have hki : (i : Int) < (L.rots.n : Int) := by omega
            have htn47 : (turnsOf L i).n ≤ 140737488355328 := HTok.out.1
            have ht5 : ∀ w5 : World, Below w.heap.size w w5 → True := fun _ _ => trivial
            clear ht5
            have HWb : Hid (Below wr.heap.size wr (wr.alloc (.cells #[.pointer (some ⟨b, o + i * 23 + 1, none⟩), .int .i64 4, .int .i64 0] 106))) := Lib.hid ((Below.refl _ _).alloc (Nat.le_refl _) _)
            have HOd := Lib.hid (OwnUs.up HOr.out HWb.out)
            have HRaw : Hid (RawCells (wr.alloc (.cells #[.pointer (some ⟨b, o + i * 23 + 1, none⟩), .int .i64 4, .int .i64 0] 106)) (.slice (some ⟨wr.heap.size, 0, none⟩) 1 1) 1 3 ([(⟨b, o + i * 23 + 1, 4, 0, x.rots[i].on.name, x.rots[i].on.n⟩ : Us)].flatMap useCells)) := Lib.hid (raw_new (us := [(⟨b, o + i * 23 + 1, 4, 0, x.rots[i].on.name, x.rots[i].on.n⟩ : Us)]) (World.alloc_heap_new wr _) 1)
            have HLen : Hid (us.length + 1 ≤ 1000000) := Lib.hid (by have h1 := lst2_len (x := x) hlt; have h2 := HU.out.short; have h3 := HFu.out; have h4 := HUs.out; rw [h3] at h1; rw [h4]; simp only [List.length_cons] at h1; omega)
            have HSz : Hid (w.heap.size ≤ (wr.alloc (.cells #[.pointer (some ⟨b, o + i * 23 + 1, none⟩), .int .i64 4, .int .i64 0] 106)).heap.size) := Lib.hid (Nat.le_trans HBr.out.size HWb.out.size)
            have HBd := Lib.hid (HBr.out.trans (HWb.out.mono HBr.out.size))
            go_wp2_with (first | (at_builtin; refine wpList_append_us w.heap.size rfl _ _ rfl u6 us rfl HOd.out (.slice (some ⟨wr.heap.size, 0, none⟩) 1 1) [(⟨b, o + i * 23 + 1, 4, 0, x.rots[i].on.name, x.rots[i].on.n⟩ : Us)] rfl HRaw.out HLen.out HSz.out ?_; intro ad c w5 hown5 hg5; have HO5 := Lib.hid hown5; have HB5 := Lib.hid (below_own HBd.out HSz.out HOd.out hg5); have ht := HTc.out w5 HB5.out; clear hown5 hg5))
            clear bx hf ht
            obtain ⟨wg, rfl⟩ : ∃ z : World, z = wr := ⟨_, rfl⟩
            obtain ⟨vg, rfl⟩ : ∃ z : Value, z = u6 := ⟨_, rfl⟩
            go_loopw [6, 94] (fun v6 iv wr => ∃ (k : Nat) (us2 : List Us), k ≤ (turnsOf L i).n ∧ iv = .int .i64 k ∧ Hid (us2 = us ++ (⟨b, o + i * 23 + 1, 4, 0, x.rots[i].on.name, x.rots[i].on.n⟩ :: (List.range k).flatMap (turnU (turnsOf L i) x.rots[i].turns))) ∧ Hid (Below w.heap.size w wr) ∧ Hid (OwnUs w.heap.size wr v6 us2)) (fun _ iv _ => (turnsOf L i).n - (intOf iv).toNat)
            case atStart => exact ⟨0, _, Nat.zero_le _, rfl, Lib.hid (by simp), HB5, HO5⟩
            case round =>
              clear HBr HOr HB5 HO5
              obtain ⟨k, us2, hk, rfl, HUs2, HBr, HOr⟩ := hrel
              by_cases hlt2 : k < (turnsOf L i).n
              · obtain ⟨b2, o2, he2, hat2⟩ := HTok.out.get hlt2
                have hkl : k < x.rots[i].turns.length := by rw [← HTn.out]; exact hlt2
                have ht := HTc.out wr HBr.out
                rw [he2] at ht
                clear he2
                have HTu : Hid (turnU (turnsOf L i) x.rots[i].turns k = [⟨b2, o2 + k * 8, 5, 0, (x.rots[i].turns[k]).farm.name, (x.rots[i].turns[k]).farm.n⟩]) := Lib.hid (by
                  unfold turnU; rw [List.getElem?_eq_getElem hkl]; simp [usAt, hat2])
                have hkk : (k : Int) < ((turnsOf L i).n : Int) := by omega
                have HWb : Hid (Below wr.heap.size wr (wr.alloc (.cells #[.pointer (some ⟨b2, o2 + k * 8, none⟩), .int .i64 5, .int .i64 0] 106))) := Lib.hid ((Below.refl _ _).alloc (Nat.le_refl _) _)
                have HOd := Lib.hid (OwnUs.up HOr.out HWb.out)
                have HRaw : Hid (RawCells (wr.alloc (.cells #[.pointer (some ⟨b2, o2 + k * 8, none⟩), .int .i64 5, .int .i64 0] 106)) (.slice (some ⟨wr.heap.size, 0, none⟩) 1 1) 1 3 ([(⟨b2, o2 + k * 8, 5, 0, (x.rots[i].turns[k]).farm.name, (x.rots[i].turns[k]).farm.n⟩ : Us)].flatMap useCells)) := Lib.hid (raw_new (us := [(⟨b2, o2 + k * 8, 5, 0, (x.rots[i].turns[k]).farm.name, (x.rots[i].turns[k]).farm.n⟩ : Us)]) (World.alloc_heap_new wr _) 1)
                have HLen : Hid (us2.length + 1 ≤ 1000000) := Lib.hid (by have h1 := lst2_len (x := x) hlt; have h2 := HU.out.short; have h3 := HFu.out; have h4 := HUs.out; have h5 := range_len (f := turnU (turnsOf L i) x.rots[i].turns) hlt2; have h6 := HTu.out; rw [h6] at h5; rw [h3] at h1; rw [HUs2.out, h4]; simp only [List.length_cons, List.length_append, List.length_nil] at h1 h5 ⊢; omega)
                have HSz : Hid (w.heap.size ≤ (wr.alloc (.cells #[.pointer (some ⟨b2, o2 + k * 8, none⟩), .int .i64 5, .int .i64 0] 106)).heap.size) := Lib.hid (Nat.le_trans HBr.out.size HWb.out.size)
                have HBd := Lib.hid (HBr.out.trans (HWb.out.mono HBr.out.size))
                go_wp2_with (first | (at_builtin; refine wpList_append_us w.heap.size rfl _ _ rfl u6 us2 rfl HOd.out (.slice (some ⟨wr.heap.size, 0, none⟩) 1 1) [(⟨b2, o2 + k * 8, 5, 0, (x.rots[i].turns[k]).farm.name, (x.rots[i].turns[k]).farm.n⟩ : Us)] rfl HRaw.out HLen.out HSz.out ?_; intro ad c w5 hown5 hg5; have HO5 := Lib.hid hown5; have HB5 := Lib.hid (below_own HBd.out HSz.out HOd.out hg5); clear hown5 hg5))
                exact ⟨⟨k + 1, _, by omega, by push_cast; rfl, Lib.hid (by rw [HUs2.out, range_flatMap_succ, HTu.out]; simp), HB5, HO5⟩, by simp [intOf]; omega⟩
              · obtain rfl : k = (turnsOf L i).n := by omega
                have hkk : decide (((turnsOf L i).n : Int) < ((turnsOf L i).n : Int)) = false := by simp
                go_wp2
                exact ⟨⟨i + 1, us2, by omega, by push_cast; rfl, Lib.hid (by rw [HUs2.out, HUs.out, lst2_next, HFu.out]), HBr, HOr⟩, by simp [intOf]; omega⟩
          · obtain rfl : i = L.rots.n := by omega
            have bx := (HRd.out wr HBr.out _ HU.out.box).trans HU.out.heads.box
            have hf : wr.cell? ⟨L.s, 24, none⟩ = some (.slice L.rights.a L.rights.n L.rights.c) := (HRd.out wr HBr.out _ (HU.out.src 24 (by omega) (by omega))).trans HU.out.heads.rights
            have hn47 : L.rights.n ≤ 140737488355328 := HU.out.ok.rights.1
            go_wp2
            clear bx hf
            obtain ⟨wf2, rfl⟩ : ∃ z : World, z = wr := ⟨_, rfl⟩
            obtain ⟨vf2, rfl⟩ : ∃ z : Value, z = u6 := ⟨_, rfl⟩
            go_loopw [6, 115] (fun v6 iv wr => ∃ (i : Nat) (us : List Us), i ≤ L.rights.n ∧ iv = .int .i64 i ∧ Hid (us = lst3 L x i) ∧ Hid (Below w.heap.size w wr) ∧ Hid (OwnUs w.heap.size wr v6 us) ∧ Hid (∀ j (h : j < x.rights.length), j < i → kindOk x.rights[j].kind = true)) (fun _ iv _ => L.rights.n - (intOf iv).toNat)
            case atStart => exact ⟨0, us, Nat.zero_le _, rfl, Lib.hid (by rw [HUs.out]; simp [lst3]), HBr, HOr, Lib.hid (fun j _ hj => by omega)⟩
            case round =>
              clear HUs HBr HOr
              obtain ⟨i, us, hi, rfl, HUs, HBr, HOr, HK⟩ := hrel
              by_cases hlt : i < L.rights.n
              · obtain ⟨b, o, he, hat⟩ := HU.out.ok.rights.get hlt
                have hil : i < x.rights.length := by rw [← HU.out.nrights]; exact hlt
                have bx := (HRd.out wr HBr.out _ HU.out.box).trans HU.out.heads.box
                have hf : wr.cell? ⟨L.s, 24, none⟩ = some (.slice L.rights.a L.rights.n L.rights.c) := (HRd.out wr HBr.out _ (HU.out.src 24 (by omega) (by omega))).trans HU.out.heads.rights
                have hr := (HRd.out wr HBr.out _ (HU.out.kind i hil).1).trans (HU.out.kind i hil).2
                rw [hat, Nat.add_zero] at hr
                rw [he] at hf
                clear he
                have hfu : rightU L.rights x.rights i = [⟨b, o + i * 37 + 2, 5, 0, x.rights[i].farm.name, x.rights[i].farm.n⟩, ⟨b, o + i * 37 + 4, if x.rights[i].kind = 1 then 0 else 4, 0, x.rights[i].reach.name, x.rights[i].reach.n⟩] := by
                  unfold rightU; rw [List.getElem?_eq_getElem hil]; simp [usAt, hat]
                have hki : (i : Int) < (L.rights.n : Int) := by omega
                have HKk : Hid (kindOk x.rights[i].kind = true → ∀ j (h : j < x.rights.length), j < i + 1 → kindOk x.rights[j].kind = true) := Lib.hid (fun h j hj hji => by
                  rcases Nat.lt_or_ge j i with h9 | h9
                  · exact HK.out j hj h9
                  · obtain rfl : j = i := by omega
                    exact h)
                have HKb : Hid (kindOk x.rights[i].kind = false → kindsOk x = false) := Lib.hid (fun h => by
                  unfold kindsOk; rw [List.all_eq_false]; exact ⟨_, List.getElem_mem hil, by simp [h]⟩)
                by_cases hk : kindOk x.rights[i].kind = true
                · have HKn := Lib.hid (HKk.out hk)
                  simp only [kindOk, Bool.and_eq_true, decide_eq_true_eq] at hk
                  obtain ⟨k1, k3⟩ := hk
                  by_cases hk1 : x.rights[i].kind = 1
                  · rw [if_pos hk1] at hfu
                    have HFu := Lib.hid hfu
                    clear hfu HKk HKb
                    have hbk : (x.rights[i].kind == 1) = true := by simpa using hk1
                    have HWb : Hid (Below wr.heap.size wr (wr.drew.alloc (.cells #[.pointer (some ⟨b, o + i * 37 + 2, none⟩), .int .i64 5, .int .i64 0, .pointer (some ⟨b, o + i * 37 + 4, none⟩), .int .i64 0, .int .i64 0] 106))) := Lib.hid ((Below.refl _ _).drew.alloc (Nat.le_refl _) _)
                    have HOd := Lib.hid (OwnUs.up HOr.out HWb.out)
                    have HRaw : Hid (RawCells (wr.drew.alloc (.cells #[.pointer (some ⟨b, o + i * 37 + 2, none⟩), .int .i64 5, .int .i64 0, .pointer (some ⟨b, o + i * 37 + 4, none⟩), .int .i64 0, .int .i64 0] 106)) (.slice (some ⟨wr.heap.size, 0, none⟩) 2 2) 2 3 ([(⟨b, o + i * 37 + 2, 5, 0, x.rights[i].farm.name, x.rights[i].farm.n⟩ : Us), (⟨b, o + i * 37 + 4, 0, 0, x.rights[i].reach.name, x.rights[i].reach.n⟩ : Us)].flatMap useCells)) := Lib.hid (raw_new (us := [(⟨b, o + i * 37 + 2, 5, 0, x.rights[i].farm.name, x.rights[i].farm.n⟩ : Us), (⟨b, o + i * 37 + 4, 0, 0, x.rights[i].reach.name, x.rights[i].reach.n⟩ : Us)]) (World.alloc_heap_new wr.drew _) 2)
                    have HLen : Hid (us.length + 2 ≤ 1000000) := Lib.hid (by have h1 := lst3_len (x := x) hlt; have h2 := HU.out.short; have h3 := HFu.out; have h4 := HUs.out; rw [h3] at h1; rw [h4]; simp only [List.length_cons, List.length_nil] at h1 ⊢; omega)
                    have HSz : Hid (w.heap.size ≤ (wr.drew.alloc (.cells #[.pointer (some ⟨b, o + i * 37 + 2, none⟩), .int .i64 5, .int .i64 0, .pointer (some ⟨b, o + i * 37 + 4, none⟩), .int .i64 0, .int .i64 0] 106)).heap.size) := Lib.hid (Nat.le_trans HBr.out.size HWb.out.size)
                    have HBd := Lib.hid (HBr.out.trans (HWb.out.mono HBr.out.size))
                    go_wp2_with (first | (go_at_call 50; refine (need_yes _ _).mono ?_; rintro e w6 ⟨rfl, hw6⟩; obtain rfl := hw6.symm))
                    go_region_held3 (fun _ => True) (trivial) (first | (refine step_append_us w.heap.size rfl _ _ rfl u6 us rfl HOd.out (.slice (some ⟨wr.heap.size, 0, none⟩) 2 2) [(⟨b, o + i * 37 + 2, 5, 0, x.rights[i].farm.name, x.rights[i].farm.n⟩ : Us), (⟨b, o + i * 37 + 4, 0, 0, x.rights[i].reach.name, x.rights[i].reach.n⟩ : Us)] rfl HRaw.out HLen.out HSz.out ?_; intro ad c w5 hown5 hg5; have HO5 := Lib.hid hown5; have HB5 := Lib.hid (below_own HBd.out HSz.out HOd.out hg5); clear hown5 hg5))
                    go_wp2
                    exact ⟨⟨i + 1, _, by omega, by push_cast; rfl, Lib.hid (by rw [HUs.out, lst3_next, HFu.out]), HB5, HO5, HKn⟩, by simp [intOf]; omega⟩
                  · rw [if_neg hk1] at hfu
                    have HFu := Lib.hid hfu
                    clear hfu HKk HKb
                    have hbk : (x.rights[i].kind == 1) = false := by simpa using hk1
                    have HWb : Hid (Below wr.heap.size wr (wr.drew.alloc (.cells #[.pointer (some ⟨b, o + i * 37 + 2, none⟩), .int .i64 5, .int .i64 0, .pointer (some ⟨b, o + i * 37 + 4, none⟩), .int .i64 4, .int .i64 0] 106))) := Lib.hid ((Below.refl _ _).drew.alloc (Nat.le_refl _) _)
                    have HOd := Lib.hid (OwnUs.up HOr.out HWb.out)
                    have HRaw : Hid (RawCells (wr.drew.alloc (.cells #[.pointer (some ⟨b, o + i * 37 + 2, none⟩), .int .i64 5, .int .i64 0, .pointer (some ⟨b, o + i * 37 + 4, none⟩), .int .i64 4, .int .i64 0] 106)) (.slice (some ⟨wr.heap.size, 0, none⟩) 2 2) 2 3 ([(⟨b, o + i * 37 + 2, 5, 0, x.rights[i].farm.name, x.rights[i].farm.n⟩ : Us), (⟨b, o + i * 37 + 4, 4, 0, x.rights[i].reach.name, x.rights[i].reach.n⟩ : Us)].flatMap useCells)) := Lib.hid (raw_new (us := [(⟨b, o + i * 37 + 2, 5, 0, x.rights[i].farm.name, x.rights[i].farm.n⟩ : Us), (⟨b, o + i * 37 + 4, 4, 0, x.rights[i].reach.name, x.rights[i].reach.n⟩ : Us)]) (World.alloc_heap_new wr.drew _) 2)
                    have HLen : Hid (us.length + 2 ≤ 1000000) := Lib.hid (by have h1 := lst3_len (x := x) hlt; have h2 := HU.out.short; have h3 := HFu.out; have h4 := HUs.out; rw [h3] at h1; rw [h4]; simp only [List.length_cons, List.length_nil] at h1 ⊢; omega)
                    have HSz : Hid (w.heap.size ≤ (wr.drew.alloc (.cells #[.pointer (some ⟨b, o + i * 37 + 2, none⟩), .int .i64 5, .int .i64 0, .pointer (some ⟨b, o + i * 37 + 4, none⟩), .int .i64 4, .int .i64 0] 106)).heap.size) := Lib.hid (Nat.le_trans HBr.out.size HWb.out.size)
                    have HBd := Lib.hid (HBr.out.trans (HWb.out.mono HBr.out.size))
                    go_wp2_with (first | (go_at_call 50; refine (need_yes _ _).mono ?_; rintro e w6 ⟨rfl, hw6⟩; obtain rfl := hw6.symm))
                    go_region_held3 (fun _ => True) (trivial) (first | (refine step_append_us w.heap.size rfl _ _ rfl u6 us rfl HOd.out (.slice (some ⟨wr.heap.size, 0, none⟩) 2 2) [(⟨b, o + i * 37 + 2, 5, 0, x.rights[i].farm.name, x.rights[i].farm.n⟩ : Us), (⟨b, o + i * 37 + 4, 4, 0, x.rights[i].reach.name, x.rights[i].reach.n⟩ : Us)] rfl HRaw.out HLen.out HSz.out ?_; intro ad c w5 hown5 hg5; have HO5 := Lib.hid hown5; have HB5 := Lib.hid (below_own HBd.out HSz.out HOd.out hg5); clear hown5 hg5))
                    go_wp2
                    exact ⟨⟨i + 1, _, by omega, by push_cast; rfl, Lib.hid (by rw [HUs.out, lst3_next, HFu.out]), HB5, HO5, HKn⟩, by simp [intOf]; omega⟩
                · have HKf := Lib.hid (HKb.out (by simpa using hk))
                  clear HKb HKk hfu
                  have HEnd : Hid (∀ W', Below w.heap.size w W' → ∀ ob, ∃ O, Jp (errP 170) O (W'.putObj Dd ob)) := Lib.hid (fun W' hW ob => by
                    have hX := HXX.out
                    rw [HKf.out] at hX
                    have hj := stays_below HJ.out HJ2.out hW
                    refine ⟨_, (HJp.out (errP 170)).put (s := ()) ?_ _ (HOwn.out (errP 170) (by rw [hX]; rfl) _ W' (by rw [hX]; simpa using hj))⟩
                    exact .inl ⟨.inl HDo.out, HDl.out⟩)
                  by_cases hk1 : 1 ≤ x.rights[i].kind
                  · have hk3 : ¬ x.rights[i].kind ≤ 3 := fun h => hk (by simp [kindOk, hk1, h])
                    clear hk
                    go_wp2_with (first | (go_at_call 50; refine (need_no _ _).mono ?_; rintro e w6 ⟨rfl, rfl⟩))
                    exact ⟨by simp, .inl ⟨_, _, rfl, run_takeDeferred ((HBr.out.block Dd HDl.out).trans HDf.out), .inr ⟨_, rfl, HEnd.out _ HBr.out _⟩⟩⟩
                  · clear hk
                    go_wp2_with (first | (go_at_call 50; refine (need_no _ _).mono ?_; rintro e w6 ⟨rfl, rfl⟩))
                    exact ⟨by simp, .inl ⟨_, _, rfl, run_takeDeferred ((HBr.out.block Dd HDl.out).trans HDf.out), .inr ⟨_, rfl, HEnd.out _ HBr.out _⟩⟩⟩
              · obtain rfl : i = L.rights.n := by omega
                have HKs : Hid (kindsOk x = true) := Lib.hid (by
                  unfold kindsOk; rw [List.all_eq_true]; intro d hd
                  obtain ⟨j, hj, rfl⟩ := List.mem_iff_getElem.1 hd
                  exact HK.out j hj (by rw [HU.out.nrights]; exact hj))
                have bx := (HRd.out wr HBr.out _ HU.out.box).trans HU.out.heads.box
                have hf : wr.cell? ⟨L.s, 25, none⟩ = some (.slice L.duties.a L.duties.n L.duties.c) := (HRd.out wr HBr.out _ (HU.out.src 25 (by omega) (by omega))).trans HU.out.heads.duties
                have hn47 : L.duties.n ≤ 140737488355328 := HU.out.ok.duties.1
                go_wp2
                clear bx hf
                obtain ⟨wf3, rfl⟩ : ∃ z : World, z = wr := ⟨_, rfl⟩
                obtain ⟨vf3, rfl⟩ : ∃ z : Value, z = u6 := ⟨_, rfl⟩
                go_loopw [6, 160] (fun v6 iv wr => ∃ (i : Nat) (us : List Us), i ≤ L.duties.n ∧ iv = .int .i64 i ∧ Hid (us = lst4 L x i) ∧ Hid (Below w.heap.size w wr) ∧ Hid (OwnUs w.heap.size wr v6 us)) (fun _ iv _ => L.duties.n - (intOf iv).toNat)
                case atStart => exact ⟨0, us, Nat.zero_le _, rfl, Lib.hid (by rw [HUs.out]; simp [lst4]), HBr, HOr⟩
                case round =>
                  clear HUs HBr HOr
                  obtain ⟨i, us, hi, rfl, HUs, HBr, HOr⟩ := hrel
                  by_cases hlt : i < L.duties.n
                  · obtain ⟨b, o, he, hat⟩ := HU.out.ok.duties.get hlt
                    have hil : i < x.duties.length := by rw [← HU.out.nduties]; exact hlt
                    have bx := (HRd.out wr HBr.out _ HU.out.box).trans HU.out.heads.box
                    have hf : wr.cell? ⟨L.s, 25, none⟩ = some (.slice L.duties.a L.duties.n L.duties.c) := (HRd.out wr HBr.out _ (HU.out.src 25 (by omega) (by omega))).trans HU.out.heads.duties
                    rw [he] at hf
                    clear he
                    have HFu : Hid (dutyU L.duties x.duties i = [⟨b, o + i * 11 + 1, 5, 0, x.duties[i].farm.name, x.duties[i].farm.n⟩, ⟨b, o + i * 11 + 3, 4, 0, x.duties[i].reach.name, x.duties[i].reach.n⟩]) := Lib.hid (by
                      unfold dutyU; rw [List.getElem?_eq_getElem hil]; simp [usAt, hat])
                    have hki : (i : Int) < (L.duties.n : Int) := by omega
                    have HWb : Hid (Below wr.heap.size wr (wr.drew.alloc (.cells #[.pointer (some ⟨b, o + i * 11 + 1, none⟩), .int .i64 5, .int .i64 0, .pointer (some ⟨b, o + i * 11 + 3, none⟩), .int .i64 4, .int .i64 0] 106))) := Lib.hid ((Below.refl _ _).drew.alloc (Nat.le_refl _) _)
                    have HOd := Lib.hid (OwnUs.up HOr.out HWb.out)
                    have HRaw : Hid (RawCells (wr.drew.alloc (.cells #[.pointer (some ⟨b, o + i * 11 + 1, none⟩), .int .i64 5, .int .i64 0, .pointer (some ⟨b, o + i * 11 + 3, none⟩), .int .i64 4, .int .i64 0] 106)) (.slice (some ⟨wr.heap.size, 0, none⟩) 2 2) 2 3 ([(⟨b, o + i * 11 + 1, 5, 0, x.duties[i].farm.name, x.duties[i].farm.n⟩ : Us), (⟨b, o + i * 11 + 3, 4, 0, x.duties[i].reach.name, x.duties[i].reach.n⟩ : Us)].flatMap useCells)) := Lib.hid (raw_new (us := [(⟨b, o + i * 11 + 1, 5, 0, x.duties[i].farm.name, x.duties[i].farm.n⟩ : Us), (⟨b, o + i * 11 + 3, 4, 0, x.duties[i].reach.name, x.duties[i].reach.n⟩ : Us)]) (World.alloc_heap_new wr.drew _) 2)
                    have HLen : Hid (us.length + 2 ≤ 1000000) := Lib.hid (by have h1 := lst4_len (x := x) hlt; have h2 := HU.out.short; have h3 := HFu.out; have h4 := HUs.out; rw [h3] at h1; rw [h4]; simp only [List.length_cons, List.length_nil] at h1 ⊢; omega)
                    have HSz : Hid (w.heap.size ≤ (wr.drew.alloc (.cells #[.pointer (some ⟨b, o + i * 11 + 1, none⟩), .int .i64 5, .int .i64 0, .pointer (some ⟨b, o + i * 11 + 3, none⟩), .int .i64 4, .int .i64 0] 106)).heap.size) := Lib.hid (Nat.le_trans HBr.out.size HWb.out.size)
                    have HBd := Lib.hid (HBr.out.trans (HWb.out.mono HBr.out.size))
                    go_wp2_with fail
                    go_region_held3 (fun _ => True) (trivial) (first | (refine step_append_us w.heap.size rfl _ _ rfl u6 us rfl HOd.out (.slice (some ⟨wr.heap.size, 0, none⟩) 2 2) [(⟨b, o + i * 11 + 1, 5, 0, x.duties[i].farm.name, x.duties[i].farm.n⟩ : Us), (⟨b, o + i * 11 + 3, 4, 0, x.duties[i].reach.name, x.duties[i].reach.n⟩ : Us)] rfl HRaw.out HLen.out HSz.out ?_; intro ad c w5 hown5 hg5; have HO5 := Lib.hid hown5; have HB5 := Lib.hid (below_own HBd.out HSz.out HOd.out hg5); clear hown5 hg5))
                    go_wp2
                    exact ⟨⟨i + 1, _, by omega, by push_cast; rfl, Lib.hid (by rw [HUs.out, lst4_next, HFu.out]), HB5, HO5⟩, by simp [intOf]; omega⟩
                  · obtain rfl : i = L.duties.n := by omega
                    have HL1 : Hid (us = listU L x) := Lib.hid (by rw [HUs.out]; exact lst4_all L x)
                    have HX2 : Hid (X = (K0 ++ us, true)) := Lib.hid (by rw [HXX.out, HKs.out, HL1.out]; rfl)
                    have hul : us.length ≤ 1000000 := by rw [HL1.out]; exact HU.out.short
                    obtain ⟨va, vc, rfl, -⟩ := own_nil HOr.out
                    obtain ⟨wl, rfl⟩ : ∃ z : World, z = wr := ⟨_, rfl⟩
                    obtain ⟨O3, hO3⟩ : ∃ O3 : Nat → Prop, O3 = fun b => (Mine W.heap.size (W.heap.size + 3) O b ∧ b < w.heap.size) ∨ (w.heap.size ≤ b ∧ b < wl.heap.size) := ⟨_, rfl⟩
                    have hJ3 : J K0.length O3 wl := by rw [hO3]; exact stays_below HJ.out HJ2.out HBr.out
                    have hw3 : ∀ b, O3 b → W.heap.size ≤ b ∧ b < wl.heap.size := fun b hb => by
                      rw [hO3] at hb
                      rcases hb with hb | hb
                      · exact ⟨HLow.out b hb.1, Nat.lt_of_lt_of_le hb.2 HBr.out.size⟩
                      · have := HSzw.out; omega
                    have hD3 : O3 Dd := by rw [hO3]; exact .inl ⟨.inl HDo.out, HDl.out⟩
                    have hY3 : O3 W.heap.size ∧ wl.cell? ⟨W.heap.size, 0, none⟩ = some (.func (.yield l) #[] #[]) := by
                      have h1 := HSzw.out
                      refine ⟨by rw [hO3]; exact .inl ⟨.inr ⟨Nat.le_refl _, by omega⟩, by omega⟩, (HBr.out.cell (p := ⟨W.heap.size, 0, none⟩) (by show W.heap.size < w.heap.size; omega)).trans HBoxw.out.y⟩
                    have hg3 : ∀ g, w.heap.size ≤ g → g < wl.heap.size → O3 g := fun g h1 h2 => by rw [hO3]; exact .inr ⟨h1, h2⟩
                    have HDf3 := Lib.hid ((HBr.out.block Dd HDl.out).trans HDf.out)
                    have HG3 := Lib.hid hg3
                    have HJ3 := Lib.hid hJ3
                    have HW3 := Lib.hid hw3
                    have HD3 := Lib.hid hD3
                    have HY3 := Lib.hid hY3
                    clear hO3 hJ3 hw3 hD3 hY3 hg3
                    go_wp2
                    go_loopw [183] (fun iv wr => ∃ i : Nat, i ≤ us.length ∧ iv = .int .i64 i ∧ Hid (J (K0.length + i) O3 wr) ∧ Hid (Same O3 wl wr)) (fun iv _ => us.length - (intOf iv).toNat)
                    case atStart => exact ⟨0, Nat.zero_le _, rfl, HJ3, Lib.hid (Same.refl _ _)⟩
                    case round =>
                      obtain ⟨i, hi, rfl, HJr, HSr⟩ := hrel
                      by_cases hlt : i < us.length
                      · obtain ⟨g, c, hv, hg1, hg2, hmx, c0, c1, c2⟩ := own_cell HOr.out hlt
                        simp only [Value.slice.injEq, true_and] at hv
                        obtain ⟨rfl, rfl⟩ := hv
                        have d0 := same_cell HSr.out (HG3.out g hg1 hg2) c0
                        have d1 := same_cell HSr.out (HG3.out g hg1 hg2) c1
                        have d2 := same_cell HSr.out (HG3.out g hg1 hg2) c2
                        have hk : K0.length + i < (X.1.map Us.v).length := by rw [HX2.out]; simp; exact hlt
                        have hxk : (X.1.map Us.v)[K0.length + i] = us[i].v := by
                          rw [List.getElem_map]
                          have h1 : X.1[K0.length + i]? = some us[i] := by rw [HX2.out]; simp [List.getElem?_append_right, List.getElem?_eq_getElem hlt]
                          obtain ⟨h2, h3⟩ := List.getElem?_eq_some_iff.1 h1
                          rw [h3]
                        generalize us[i] = u at *
                        have hal : Below wr.heap.size wr (wr.alloc (.cells #[.pointer (some ⟨u.b, u.o, none⟩), .int .i64 u.to, .int .i64 u.at_] 106)) := (Below.refl _ _).alloc (Nat.le_refl _) _
                        have hsa : Same O3 wr (wr.alloc (.cells #[.pointer (some ⟨u.b, u.o, none⟩), .int .i64 u.to, .int .i64 u.at_] 106)) := ⟨hal.size, fun b hb => hal.block b (Nat.lt_of_lt_of_le (HW3.out b hb).2 HSr.out.1)⟩
                        have hja : J (K0.length + i) O3 (wr.alloc (.cells #[.pointer (some ⟨u.b, u.o, none⟩), .int .i64 u.to, .int .i64 u.at_] 106)) := HJ.out _ _ _ _ _ HJr.out hal.size hal.os hal.tape hal.output (fun b _ hl => hal.block b hl) (fun b hb => .inl hb)
                        have HSa := Lib.hid (HSr.out.trans hsa)
                        obtain ⟨yfn, ytmps, yassign, ybody, hy, hyR⟩ := HRound.out (K0.length + i) hk O3 _ hja (Nat.le_trans (by have := (HW3.out _ HY3.out.1).2; omega) HSa.out.1) (fun b hb => ⟨(HW3.out b hb).1, Nat.lt_of_lt_of_le (HW3.out b hb).2 HSa.out.1⟩)
                        rw [hxk] at hy
                        unfold Us.v at hy
                        have HyR := Lib.hid hyR
                        have q3 := same_cell HSa.out HY3.out.1 HY3.out.2
                        have hki : (i : Int) < (us.length : Int) := by omega
                        have hmx' := hmx
                        clear hk hxk hyR hal hsa hja c0 c1 c2 hmx
                        go_upto_region 47 with fail
                        refine (wpIn_wide (n := n)).1 ?_
                        gi_wp2
                        refine HyR.out.mono ?_
                        rintro e W6 (⟨rfl, hj, hs⟩ | ⟨rfl, hx, hs⟩ | ⟨ch, rfl, hp, hs⟩)
                        · have HJ6 := Lib.hid hj
                          have HS6 := Lib.hid (HSa.out.trans hs)
                          clear hj hs hy q3 d0 d1 d2
                          gi_wp2
                          go_wp2
                          exact ⟨⟨i + 1, by omega, by push_cast; rfl, HJ6, HS6⟩, by simp [intOf]; omega⟩
                        · have HX6 := Lib.hid hx
                          have HS6 := Lib.hid (HSa.out.trans hs)
                          clear hx hs hy q3 d0 d1 d2
                          gi_wp2
                          go_wp2
                          exact ⟨by simp, .inl ⟨_, _, rfl, run_takeDeferred ((HS6.out.2 Dd HD3.out).trans HDf3.out), ⟨_, results_none rfl _ _ _, .inl ⟨⟨_, rfl⟩, .inr ⟨O3, HJx.out.put (s := ()) HD3.out _ HX6.out⟩⟩⟩⟩⟩
                        · have HS6 := Lib.hid (HSa.out.trans hs)
                          exact ⟨by simp, .inl ⟨_, _, rfl, run_takeDeferred ((HS6.out.2 Dd HD3.out).trans HDf3.out), .inr ⟨ch, rfl, O3, (HJp.out ch).put (s := ()) HD3.out _ hp⟩⟩⟩
                      · obtain rfl : i = us.length := by omega
                        have hki : decide ((us.length : Int) < (us.length : Int)) = false := by simp
                        have HEn : Hid (X.2 = true ∧ J X.1.length O3 wr) := Lib.hid (by rw [HX2.out]; exact ⟨rfl, by rw [List.length_append]; exact HJr.out⟩)
                        go_wp2
                        exact ⟨by simp, .inl ⟨_, _, rfl, run_takeDeferred ((HSr.out.2 Dd HD3.out).trans HDf3.out), ⟨_, results_none rfl _ _ _, .inl ⟨⟨_, rfl⟩, .inl ⟨by simp [HEn.out.1], O3, HJ.out.put HD3.out _ HEn.out.2⟩⟩⟩⟩⟩
  · rintro D c O w hD hOD ⟨rfl, hI⟩ hdf
    gi_wp2
    refine ⟨by simp, .inl ⟨_, _, rfl, run_takeDeferred hdf, ⟨_, results_none rfl _ _ _, .inl ⟨⟨_, rfl⟩, .inr ⟨Mine W.heap.size (W.heap.size + 3) O, ?_⟩⟩⟩⟩⟩
    exact HJx.out.put (s := ()) (.inl hOD) _ hI.j
  · rintro D ch O w hD hOD hI hdf
    exact ⟨by simp, .inl ⟨_, _, rfl, run_takeDeferred hdf, .inr ⟨ch, rfl, Mine W.heap.size (W.heap.size + 3) O, (HJp.out ch).put (s := ()) (.inl hOD) _ hI.j⟩⟩⟩

end Go.Proofs.Ytapejaabhkfhjaa

/- The reference's Top: the expressions that are no argument (printed by gen_vb.py). -/
import Derived.Test.YtapejaabhkfhjaaMPd
import Derived.Test.YtapejaabhkfhjaaMRk
import Derived.Test.YtapejaabhkfhjaaMSh
namespace Go.Proofs.Ytapejaabhkfhjaa
open Go.RowKit

/- a slice of expressions of its own -/
def OwnEx (B : Nat) (w : World) (v : Value) (rows : List (List Value)) : Prop := w.ownsRow B 26 6 v rows.length rows.flatten
theorem ownEx_nil (B : Nat) (w : World) : OwnEx B w (.slice none 0 0) [] := ⟨rfl, .inl ⟨rfl, rfl⟩⟩
theorem OwnEx.up {B : Nat} {w w' : World} {v : Value} {l : List (List Value)} (h : OwnEx B w v l) (hb : Below w.heap.size w w') : OwnEx B w' v l := by
  obtain ⟨h1, h2⟩ := h
  refine ⟨h1, h2.imp id ?_⟩
  rintro ⟨g, cap, cur, h3, h4, h5, h6⟩
  exact ⟨g, cap, cur, h3, h4, (hb.block g (Array.getElem?_eq_some_iff.1 h5).1).trans h5, h6⟩
theorem below_ex {B : Nat} {w0 w w' : World} {v : Value} {l : List (List Value)} (hB : Below B w0 w) (hz : B ≤ w.heap.size) (ho : OwnEx B w v l) (hg : w.grownBy w' v.ownBlock) : Below B w0 w' := by
  refine hB.trans ⟨hg.os, hg.tape, hg.output, hg.size, fun b hb => hg.block b (by omega) (fun e => ?_)⟩
  rcases ho.2 with ⟨rfl, _⟩ | ⟨g, cap, cur, rfl, h4, _⟩
  · cases e
  · simp only [Value.ownBlock, Option.some.injEq] at e
    omega
theorem wpList_append_ex {ops : Array Oper} {rest : List Oper} {o : Oper} {a : Act} {Q : Exit → Act → World → Prop} {W : World} (B : Nat) (hgd : o.guard = none) (s x : Operand) (ho : o.op = .call { callee := .builtin .append, args := #[s, x], argTypes := #[24, 24] })
    (v : Value) (rows : List (List Value)) (hs : a.eval s = v) (hown : OwnEx B W v rows) (g m c : Nat) (ys : List (List Value)) (row : Array Value) (hx : a.eval x = .slice (some ⟨g, 0, none⟩) m c) (hm : m = ys.length) (hg : W.heap[g]? = some (.cells row 26 (0, 0))) (hrow : row.toList = ys.flatten) (hone : ∀ u ∈ row.toList, u.oneCell' = true) (hl6 : row.toList.length = ys.length * 6)
    (hlen : rows.length + ys.length ≤ 1000000000) (hbase : B ≤ W.heap.size)
    (h : ∀ (ad : Option Addr) (n c : Nat) w', OwnEx B w' (.slice ad n c) (rows ++ ys) → W.grownBy w' v.ownBlock → wpList Try.prog ops Q rest (a.put o.dst (.slice ad n c)) w') : wpList Try.prog ops Q (o :: rest) a W := by
  subst hm
  refine wpList_plain hgd fun K hK => ?_
  have hinfo : (Try.prog.info? 26).map (fun i => (i.zero, i.size, i.bytes)) = some (some (.agg #[.int .i64 0, .int .i64 0, .int .i64 0, .string ⟨#[]⟩, .int .i64 0, .slice none 0 0]), 6, 72) := by kernel_rfl
  obtain ⟨i0, hi, hz0, hz1, hz2⟩ := info_parts hinfo
  by_cases h0 : ys = []
  · subst h0
    have hrun := run_append_zero Try.underlying24 hi W B o.type v rows.length _ (by have := hown; unfold OwnEx at this; rw [← hz1] at this; exact this) (some ⟨g, 0, none⟩) c
    obtain ⟨va, vn, vc, rfl⟩ : ∃ a n c, v = .slice a n c := by
      rcases hown.2 with ⟨rfl, hn⟩ | ⟨g, cap, cur, rfl, _⟩
      · exact ⟨_, _, _, rfl⟩
      · exact ⟨_, _, _, rfl⟩
    unfold Oper.wp
    simp only [List.length_nil] at hx
    simp [execOp, ho, resolve, invoke, builtin, hs, hx, hrun, Result.andThen]
    exact hK _ _ (h va vn vc W (by simpa using hown) ⟨rfl, rfl, rfl, Nat.le_refl _, fun _ _ _ => rfl⟩)
  · have hcell : ∀ j u, ys.flatten[j]? = some u → W.cell? ((⟨g, 0, none⟩ : Addr).add j) = some u := fun j u hj => by
      rw [WideShapes.add_plain, ← hrow] at *
      simp only [World.cell?, hg]
      simpa using hj
    refine wp_append_own W s x 24 ho B 26 i0 _ 6 72 Try.underlying24 hi hz0 hz1 hz2 rfl (by decide) v rows.length _ hs hown ⟨g, 0, none⟩ ys.length c ys.flatten hx (by rw [← hrow]; exact hl6) hcell (by rw [← hrow]; exact hone) (by unfold maxLen; omega) (by omega) hbase ?_
    intro v' w' hown' hgr _
    obtain ⟨va, vn, vc, rfl⟩ : ∃ a n c, v' = .slice a n c := by
      rcases hown'.2 with ⟨rfl, hn⟩ | ⟨g, cap, cur, rfl, _⟩
      · exact ⟨_, _, _, rfl⟩
      · exact ⟨_, _, _, rfl⟩
    exact hK _ _ (h va vn vc w' (by unfold OwnEx; rw [List.length_append, List.flatten_append]; exact hown') hgr)
/- the expressions in order -/
def reach8 (d : ReachD) : List Ex := [d.delay, d.cap, d.bank, d.siphon, d.evap0, d.evap1, d.seep0, d.seep1]
def rotT (d : RotD) : List Ex := [d.flow, d.frm, d.to] ++ d.turns.flatMap fun k => [k.len]
def right5 (d : RightD) : List Ex := [d.flow, d.frm, d.to, d.every, d.len]
def top1 (x : Src) : List Ex := x.lets.flatMap fun d => [d.value]
def top2 (x : Src) : List Ex := top1 x ++ [x.season, x.cap, x.start]
def top3 (x : Src) : List Ex := top2 x ++ x.crops.flatMap fun d => [d.need]
def top4 (x : Src) : List Ex := top3 x ++ x.reaches.flatMap reach8
def top5 (x : Src) : List Ex := top4 x ++ x.farms.flatMap fun d => [d.area]
def top6 (x : Src) : List Ex := top5 x ++ x.rots.flatMap rotT
def top7 (x : Src) : List Ex := top6 x ++ x.rights.flatMap right5
def topE (x : Src) : List Ex := top7 x ++ x.duties.flatMap fun d => [d.due]
theorem flat_next {α β : Type} {l : List α} {f : α → List β} {i : Nat} (h : i < l.length) : (l.take (i + 1)).flatMap f = (l.take i).flatMap f ++ f l[i] := by
  rw [List.take_succ_eq_append_getElem h, List.flatMap_append]; simp
theorem take_len {α β : Type} {l : List α} {f : α → List β} {c i : Nat} (h : ∀ a ∈ l, (f a).length ≤ c) : ((l.take i).flatMap f).length ≤ l.length * c := by
  have h1 := flatc_len (l := l.take i) (f := f) (c := c) (fun a ha => h a (List.mem_of_mem_take ha))
  have h2 : (l.take i).length ≤ l.length := by simp; omega
  exact Nat.le_trans h1 (Nat.mul_le_mul_right _ h2)
/- what Few has made sure of -/
structure Fw (x : Src) : Prop where
  lets : x.lets.length ≤ 100
  crops : x.crops.length ≤ 100
  reaches : x.reaches.length ≤ 100
  farms : x.farms.length ≤ 100
  rots : x.rots.length ≤ 70
  rights : x.rights.length ≤ 300
  duties : x.duties.length ≤ 300
  turns : ∀ d ∈ x.rots, d.turns.length ≤ 70
structure TopL (x : Src) : Prop where
  t1 : (top1 x).length ≤ 100
  t2 : (top2 x).length ≤ 103
  t3 : (top3 x).length ≤ 203
  t4 : (top4 x).length ≤ 1003
  t5 : (top5 x).length ≤ 1103
  t6 : (top6 x).length ≤ 6213
  t7 : (top7 x).length ≤ 7713
  tE : (topE x).length ≤ 8013
theorem Fw.top {x : Src} (h : Fw x) : TopL x := by
  have e1 : (top1 x).length ≤ x.lets.length * 1 := flatc_len fun _ _ => by simp
  have e3 : (x.crops.flatMap fun d => [d.need]).length ≤ x.crops.length * 1 := flatc_len fun _ _ => by simp
  have e4 : (x.reaches.flatMap reach8).length ≤ x.reaches.length * 8 := flatc_len fun _ _ => by simp [reach8]
  have e5 : (x.farms.flatMap fun d => [d.area]).length ≤ x.farms.length * 1 := flatc_len fun _ _ => by simp
  have e6 : (x.rots.flatMap rotT).length ≤ x.rots.length * 73 := flatc_len fun d hd => by
    have h1 : (d.turns.flatMap fun k : TurnD => [k.len]).length ≤ d.turns.length * 1 := flatc_len fun _ _ => by simp
    have := h.turns d hd
    simp only [rotT, List.length_append, List.length_cons, List.length_nil]; omega
  have e7 : (x.rights.flatMap right5).length ≤ x.rights.length * 5 := flatc_len fun _ _ => by simp [right5]
  have e8 : (x.duties.flatMap fun d => [d.due]).length ≤ x.duties.length * 1 := flatc_len fun _ _ => by simp
  have := h.lets; have := h.crops; have := h.reaches; have := h.farms; have := h.rots; have := h.rights; have := h.duties
  have q2 : (top2 x).length = (top1 x).length + 3 := by unfold top2; simp
  have q3 : (top3 x).length = (top2 x).length + (x.crops.flatMap fun d => [d.need]).length := by unfold top3; rw [List.length_append]
  have q4 : (top4 x).length = (top3 x).length + (x.reaches.flatMap reach8).length := by unfold top4; rw [List.length_append]
  have q5 : (top5 x).length = (top4 x).length + (x.farms.flatMap fun d => [d.area]).length := by unfold top5; rw [List.length_append]
  have q6 : (top6 x).length = (top5 x).length + (x.rots.flatMap rotT).length := by unfold top6; rw [List.length_append]
  have q7 : (top7 x).length = (top6 x).length + (x.rights.flatMap right5).length := by unfold top7; rw [List.length_append]
  have q8 : (topE x).length = (top7 x).length + (x.duties.flatMap fun d => [d.due]).length := by unfold topE; rw [List.length_append]
  constructor <;> omega
/- the list as far as it has come -/
structure Lst (B : Nat) (N : Nat → Prop) (w0 : World) (es : List Ex) (wr : World) (v : Value) : Prop where
  below : Below B w0 wr
  size : B ≤ wr.heap.size
  own : ∃ rows, OwnEx B wr v rows ∧ All2 (fun cs e => ExV N w0 e cs) rows es
theorem All2.len {α β : Type} {R : α → β → Prop} {l : List α} {m : List β} (h : All2 R l m) : l.length = m.length := h.length
def AtEx (N : Nat → Prop) (w : World) (b o : Nat) (e : Ex) : Prop := N b ∧ ∃ c, w.rangeAt b o c ∧ ExV N w e c
theorem atEx_mk {N : Nat → Prop} {w : World} {b o : Nat} {p c q : List Value} {e : Ex} {off : Nat} (hN : N b) (hr : w.rangeAt b o (p ++ (c ++ q))) (hp : p.length = off) (he : ExV N w e c) : AtEx N w b (o + off) e := by
  have := range_mid hr
  rw [hp] at this
  exact ⟨hN, c, this, he⟩
structure Tops (N : Nat → Prop) (w : World) (L : Lay) (x : Src) : Prop where
  lets : ∀ i (hi : i < x.lets.length), ∃ b o, L.lets.a = some ⟨b, o, none⟩ ∧ AtEx N w b (o + i * 7 + 1) x.lets[i].value
  crops : ∀ i (hi : i < x.crops.length), ∃ b o, L.crops.a = some ⟨b, o, none⟩ ∧ AtEx N w b (o + i * 7 + 1) x.crops[i].need
  farms : ∀ i (hi : i < x.farms.length), ∃ b o, L.farms.a = some ⟨b, o, none⟩ ∧ AtEx N w b (o + i * 12 + 4) x.farms[i].area
  duties : ∀ i (hi : i < x.duties.length), ∃ b o, L.duties.a = some ⟨b, o, none⟩ ∧ AtEx N w b (o + i * 11 + 5) x.duties[i].due
theorem SrcV.tops {N : Nat → Prop} {w : World} {L : Lay} {cs : List Value} {x : Src} (h : SrcV N w L cs x) : Tops N w L x := by
  refine ⟨fun i hi => ?_, fun i hi => ?_, fun i hi => ?_, fun i hi => ?_⟩
  · obtain ⟨b, o, c, g1, g2, g3, g4, _, c1, rfl, g5⟩ := h.lets.2.2 i hi
    exact ⟨b, o, g1, atEx_mk (p := [.string (x.lets[i]).name]) (q := []) g2 (by simpa using g4) rfl g5⟩
  · obtain ⟨b, o, c, g1, g2, g3, g4, _, c1, rfl, g5⟩ := h.crops.2.2 i hi
    exact ⟨b, o, g1, atEx_mk (p := [.string (x.crops[i]).name]) (q := []) g2 (by simpa using g4) rfl g5⟩
  · obtain ⟨b, o, c, g1, g2, g3, g4, _, _, _, c1, rfl, g5⟩ := h.farms.2.2 i hi
    exact ⟨b, o, g1, atEx_mk (p := .string (x.farms[i]).name :: (rfV (x.farms[i]).on ++ [.bool (x.farms[i]).river])) (q := rfV (x.farms[i]).crop) g2 (by simpa using g4) rfl g5⟩
  · obtain ⟨b, o, c, g1, g2, g3, g4, _, _, _, c1, rfl, g5⟩ := h.duties.2.2 i hi
    exact ⟨b, o, g1, atEx_mk (p := .string (x.duties[i]).name :: (rfV (x.duties[i]).farm ++ rfV (x.duties[i]).reach)) (q := []) g2 (by simpa using g4) rfl g5⟩
/- parts of a row that lies in memory -/
def InEx (N : Nat → Prop) (w W : World) (b o : Nat) (e : Ex) : Prop := ∃ c, W.rangeAt b o c ∧ ExV N w e c
theorem inEx_mk {N : Nat → Prop} {w W : World} {b o : Nat} {p c q : List Value} {e : Ex} (off : Nat) (hr : W.rangeAt b o (p ++ (c ++ q))) (hp : p.length = off) (he : ExV N w e c) : InEx N w W b (o + off) e := by
  have := range_mid hr
  rw [hp] at this
  exact ⟨c, this, he⟩
theorem reach_parts {N : Nat → Prop} {w W : World} {b : Nat} {R : List Value} {d : ReachD} (hr : W.rangeAt b 0 R) (hv : ReachV N w R d) : InEx N w W b 3 d.delay ∧ InEx N w W b 9 d.cap ∧ InEx N w W b 15 d.bank ∧ InEx N w W b 21 d.siphon ∧ InEx N w W b 27 d.evap0 ∧ InEx N w W b 33 d.evap1 ∧ InEx N w W b 39 d.seep0 ∧ InEx N w W b 45 d.seep1 := by
  obtain ⟨_, _, c0, c1, c2, c3, c4, c5, c6, c7, rfl, k0, k1, k2, k3, k4, k5, k6, k7⟩ := hv
  have l0 := k0.len; have l1 := k1.len; have l2 := k2.len; have l3 := k3.len; have l4 := k4.len; have l5 := k5.len; have l6 := k6.len
  have z : ∀ {k : Nat} {e : Ex}, InEx N w W b (0 + k) e → InEx N w W b k e := fun h => by rwa [Nat.zero_add] at h
  refine ⟨z ?_, z ?_, z ?_, z ?_, z ?_, z ?_, z ?_, z ?_⟩
  · exact inEx_mk (p := .string d.name :: rfV d.frm) _ (by simpa using hr) rfl k0
  · exact inEx_mk (p := .string d.name :: (rfV d.frm ++ c0)) _ (by simpa using hr) (by simp [rfV_len, l0]) k1
  · exact inEx_mk (p := .string d.name :: (rfV d.frm ++ (c0 ++ c1))) _ (by simpa using hr) (by simp [rfV_len, l0, l1]) k2
  · exact inEx_mk (p := .string d.name :: (rfV d.frm ++ (c0 ++ (c1 ++ c2)))) _ (by simpa using hr) (by simp [rfV_len, l0, l1, l2]) k3
  · exact inEx_mk (p := .string d.name :: (rfV d.frm ++ (c0 ++ (c1 ++ (c2 ++ c3))))) _ (by simpa using hr) (by simp [rfV_len, l0, l1, l2, l3]) k4
  · exact inEx_mk (p := .string d.name :: (rfV d.frm ++ (c0 ++ (c1 ++ (c2 ++ (c3 ++ c4)))))) _ (by simpa using hr) (by simp [rfV_len, l0, l1, l2, l3, l4]) k5
  · exact inEx_mk (p := .string d.name :: (rfV d.frm ++ (c0 ++ (c1 ++ (c2 ++ (c3 ++ (c4 ++ c5))))))) _ (by simpa using hr) (by simp [rfV_len, l0, l1, l2, l3, l4, l5]) k6
  · exact inEx_mk (p := .string d.name :: (rfV d.frm ++ (c0 ++ (c1 ++ (c2 ++ (c3 ++ (c4 ++ (c5 ++ c6)))))))) (q := []) _ (by simpa using hr) (by simp [rfV_len, l0, l1, l2, l3, l4, l5, l6]) k7
theorem right_parts {N : Nat → Prop} {w W : World} {b : Nat} {R : List Value} {d : RightD} (hr : W.rangeAt b 0 R) (hv : RightV N w R d) : InEx N w W b 7 d.flow ∧ InEx N w W b 13 d.frm ∧ InEx N w W b 19 d.to ∧ InEx N w W b 25 d.every ∧ InEx N w W b 31 d.len := by
  obtain ⟨_, _, _, c0, c1, c2, c3, c4, rfl, k0, k1, k2, k3, k4⟩ := hv
  have l0 := k0.len; have l1 := k1.len; have l2 := k2.len; have l3 := k3.len
  have z : ∀ {k : Nat} {e : Ex}, InEx N w W b (0 + k) e → InEx N w W b k e := fun h => by rwa [Nat.zero_add] at h
  refine ⟨z ?_, z ?_, z ?_, z ?_, z ?_⟩
  · exact inEx_mk (p := .int .i64 d.kind :: .string d.name :: (rfV d.farm ++ (rfV d.reach ++ [.int .i64 d.rank]))) _ (by simpa using hr) rfl k0
  · exact inEx_mk (p := .int .i64 d.kind :: .string d.name :: (rfV d.farm ++ (rfV d.reach ++ (.int .i64 d.rank :: c0)))) _ (by simpa using hr) (by simp [rfV_len, l0]) k1
  · exact inEx_mk (p := .int .i64 d.kind :: .string d.name :: (rfV d.farm ++ (rfV d.reach ++ (.int .i64 d.rank :: (c0 ++ c1))))) _ (by simpa using hr) (by simp [rfV_len, l0, l1]) k2
  · exact inEx_mk (p := .int .i64 d.kind :: .string d.name :: (rfV d.farm ++ (rfV d.reach ++ (.int .i64 d.rank :: (c0 ++ (c1 ++ c2)))))) _ (by simpa using hr) (by simp [rfV_len, l0, l1, l2]) k3
  · exact inEx_mk (p := .int .i64 d.kind :: .string d.name :: (rfV d.farm ++ (rfV d.reach ++ (.int .i64 d.rank :: (c0 ++ (c1 ++ (c2 ++ c3))))))) (q := []) _ (by simpa using hr) (by simp [rfV_len, l0, l1, l2, l3]) k4
theorem rot_parts {N : Nat → Prop} {w W : World} {b : Nat} {R : List Value} {h : Hdr} {d : RotD} (hr : W.rangeAt b 0 R) (hv : RotV N w h R d) : InEx N w W b 4 d.flow ∧ InEx N w W b 10 d.frm ∧ InEx N w W b 16 d.to ∧ R[22]? = some h.v ∧ IsRow N w 8 (TurnV N w) h d.turns := by
  obtain ⟨_, _, c0, c1, c2, rfl, k0, k1, k2, ht⟩ := hv
  have l0 := k0.len; have l1 := k1.len; have l2 := k2.len
  have z : ∀ {k : Nat} {e : Ex}, InEx N w W b (0 + k) e → InEx N w W b k e := fun h => by rwa [Nat.zero_add] at h
  have hlast : (Value.string d.name :: (rfV d.on ++ (.int .i64 d.rank :: (c0 ++ (c1 ++ (c2 ++ [h.v]))))))[22]? = some h.v := by
    have e : (Value.string d.name :: (rfV d.on ++ (.int .i64 d.rank :: (c0 ++ (c1 ++ (c2 ++ [h.v])))))) = (Value.string d.name :: (rfV d.on ++ (.int .i64 d.rank :: (c0 ++ (c1 ++ c2))))) ++ [h.v] := by simp
    rw [e, List.getElem?_append_right (by simp [rfV_len, l0, l1, l2])]
    simp [rfV_len, l0, l1, l2]
  refine ⟨z ?_, z ?_, z ?_, hlast, ht⟩
  · exact inEx_mk (p := .string d.name :: (rfV d.on ++ [.int .i64 d.rank])) _ (by simpa using hr) rfl k0
  · exact inEx_mk (p := .string d.name :: (rfV d.on ++ (.int .i64 d.rank :: c0))) _ (by simpa using hr) (by simp [rfV_len, l0]) k1
  · exact inEx_mk (p := .string d.name :: (rfV d.on ++ (.int .i64 d.rank :: (c0 ++ c1)))) _ (by simpa using hr) (by simp [rfV_len, l0, l1]) k2
theorem head_parts {N : Nat → Prop} {w W : World} {L : Lay} {b : Nat} {R : List Value} {x : Src} (hr : W.rangeAt b 0 R) (hv : SrcV N w L R x) : InEx N w W b 1 x.season ∧ InEx N w W b 7 x.cap ∧ InEx N w W b 13 x.start := by
  obtain ⟨c0, c1, c2, rfl, k0, k1, k2⟩ := hv.cells
  have l0 := k0.len; have l1 := k1.len
  have z : ∀ {k : Nat} {e : Ex}, InEx N w W b (0 + k) e → InEx N w W b k e := fun h => by rwa [Nat.zero_add] at h
  refine ⟨z ?_, z ?_, z ?_⟩
  · exact inEx_mk (p := [.string x.name]) _ (by simpa using hr) rfl k0
  · exact inEx_mk (p := .string x.name :: c0) _ (by simpa using hr) (by simp [l0]) k1
  · exact inEx_mk (p := .string x.name :: (c0 ++ c1)) _ (by simpa using hr) (by simp [l0, l1]) k2
theorem ex_not {B : Nat} {w : World} {v : Value} {rows : List (List Value)} (h : OwnEx B w v rows) {g : Nat} {c : Array Value} {ty : TypeId} (hg : w.heap[g]? = some (.cells c ty (0, 0))) (ht : ty ≠ 26) : v.ownBlock ≠ some g := fun e => by
  rcases h.2 with ⟨rfl, _⟩ | ⟨k, cap, cur, rfl, _, hk, _⟩
  · cases e
  · cases e
    rw [hg] at hk
    cases hk
    exact ht rfl
theorem ownEx_low {B B' : Nat} {w : World} {v : Value} {l : List (List Value)} (h : OwnEx B w v l) (hb : B' ≤ B) : OwnEx B' w v l := by
  obtain ⟨h1, h2⟩ := h
  refine ⟨h1, h2.imp id ?_⟩
  rintro ⟨g, cap, cur, e, h4, h5⟩
  exact ⟨g, cap, cur, e, by omega, h5⟩

structure Lens (L : Lay) (x : Src) : Prop where
  lets : L.lets.n = x.lets.length
  crops : L.crops.n = x.crops.length
  reaches : L.reaches.n = x.reaches.length
  farms : L.farms.n = x.farms.length
  rots : L.rots.n = x.rots.length
  rights : L.rights.n = x.rights.length
  duties : L.duties.n = x.duties.length
set_option maxRecDepth 100000 in
set_option maxHeartbeats 32000000 in
theorem top_any {N : Nat → Prop} {w : World} {L : Lay} {cs : List Value} {x : Src} (h : SrcV N w L cs x) (hN : ∀ b, N b → b < w.heap.size) (hfw : Fw x) :
    Calls Try.prog 22 #[.agg cs.toArray] w fun e w' => ∃ v, e = .returned v ∧ Lst w.heap.size N w (topE x) w' v := by
  have HLn : Hid (Lens L x) := Lib.hid ⟨h.lets.1, h.crops.1, h.reaches.1, h.farms.1, h.rots.1, h.rights.1, h.duties.1⟩
  have HOk := Lib.hid h.ok
  have HTL := Lib.hid hfw.top
  have HFw := Lib.hid hfw
  have HCa := Lib.hid h.at
  obtain ⟨w0, hw0⟩ : ∃ w0, w0 = w.alloc (.cells cs.toArray 35) := ⟨_, rfl⟩
  have hb0 : Below w.heap.size w w0 := by rw [hw0]; exact (Below.refl _ _).alloc (Nat.le_refl _) _
  have hz0 : w0.heap.size = w.heap.size + 1 := by rw [hw0]; simp
  have hbx : w0.heap[w.heap.size]? = some (.cells cs.toArray 35 (0, 0)) := by rw [hw0]; exact World.alloc_heap_new _ _
  have h0 : SrcV N w0 L cs x := h.same (fun _ h => h) (fun b hb => hb0.block b (hN b hb))
  have HTp := Lib.hid h0.tops
  have HS0 := Lib.hid h0
  have HB0 := Lib.hid hb0; have HZ0 := Lib.hid hz0; have HNw := Lib.hid hN
  have HHd : Hid (∀ wr, Below (w.heap.size + 1) w0 wr → ∀ q v, cs[q]? = some v → wr.cell? ⟨w.heap.size, q, none⟩ = some v) := Lib.hid (fun wr hwr q v hq => by
    have e := hwr.block w.heap.size (by omega)
    simp only [World.cell?, e, hbx]
    simpa using hq)
  have HBl : Hid (∀ wr, Below (w.heap.size + 1) w0 wr → ∀ b, N b → wr.heap[b]? = w0.heap[b]?) := Lib.hid (fun wr hwr b hb => hwr.block b (by have := hN b hb; omega))
  have HR0 : Hid (w0.rangeAt w.heap.size 0 cs) := Lib.hid (by
    have := World.rangeAt_of_block hbx 0 cs.length
    simpa using this)
  have HL0 : Hid (Lst (w.heap.size + 1) N w0 ([] ++ (x.lets.take 0).flatMap (fun d => [d.value])) w0 (.slice none 0 0)) := Lib.hid ⟨Below.refl _ _, by omega, [], ownEx_nil _ _, trivial⟩
  have HW0 := Lib.hid hw0
  clear hb0 hz0 hbx h0 hN hfw hw0
  obtain ⟨ks, hks⟩ : ∃ ks, ks = cs := ⟨_, rfl⟩
  rw [← hks] at HCa HS0 HHd HR0
  have HK := Lib.hid hks
  obtain ⟨c0, c1, c2, rfl, g0, g1, g2⟩ := h.cells
  obtain ⟨a0, p0, rfl, e0⟩ := g0.cells
  obtain ⟨a1, p1, rfl, e1⟩ := g1.cells
  obtain ⟨a2, p2, rfl, e2⟩ := g2.cells
  clear h g0 g1 g2 e0 e1 e2 hks
  unfold Hdr.v at *
  simp only [List.cons_append, List.nil_append] at HW0 HK ⊢
  go_enter Try.func22, Try.ntmps22
  go_upto_region 2 with fail
  rw [← HW0.out]
  go_wp2
  go_loopw [3, 4] (fun v3 iv wr => ∃ i : Nat, i ≤ L.lets.n ∧ iv = .int .i64 i ∧ Hid (Lst (w.heap.size + 1) N w0 (([] : List Ex) ++ (x.lets.take i).flatMap (fun d => [d.value])) wr v3)) (fun _ iv _ => L.lets.n - (intOf iv).toNat)
  case atStart => exact ⟨0, Nat.zero_le _, rfl, HL0⟩
  case round =>
    clear HL0
    obtain ⟨i, hi, rfl, HL⟩ := hrel
    have hf : wr.cell? ⟨w.heap.size, 19, none⟩ = some (.slice L.lets.a L.lets.n L.lets.c) := HHd.out wr HL.out.below 19 _ HCa.out.lets
    have hn47 : L.lets.n ≤ 140737488355328 := HOk.out.lets.1
    by_cases hlt : i < L.lets.n
    · have hil : i < x.lets.length := by rw [← HLn.out.lets]; exact hlt
      have hki : (i : Int) < (L.lets.n : Int) := by omega
      obtain ⟨b, o, he, hNb, c, hra, hex⟩ := HTp.out.lets i hil
      rw [he] at hf
      have HNext : Hid (([] : List Ex) ++ (x.lets.take (i + 1)).flatMap (fun d => [d.value]) = (([] : List Ex) ++ (x.lets.take i).flatMap (fun d => [d.value])) ++ [x.lets[i].value]) := Lib.hid (by rw [flat_next hil, List.append_assoc])
      have hle : (([] : List Ex) ++ (x.lets.take i).flatMap (fun d => [d.value])).length ≤ 20000 := by
        have h1 := take_len (l := x.lets) (f := (fun d => [d.value])) (c := 1) (i := i) (fun _ _ => by simp)
        have h2 := HTL.out.t1; have h3 := HFw.out.lets
        rw [List.length_append]
        simp only [List.length_nil]
        omega
      generalize x.lets[i].value = E at hex HNext
      have HEx := Lib.hid hex
      obtain ⟨a', p', rfl, _⟩ := hex.cells
      have HRa := Lib.hid (rangeAt_block hra ((HBl.out wr HL.out.below) b hNb))
      obtain ⟨rows, hown, hall⟩ := HL.out.own
      have HOwn := Lib.hid hown; have HAll := Lib.hid hall
      have HLen : Hid (rows.length + 1 ≤ 1000000000) := Lib.hid (by rw [hall.length]; omega)
      clear hra hex he hown hall hle hNb
      have HWb : Hid (Below wr.heap.size wr (wr.alloc (.cells #[.int .i64 E.op, .int .i64 E.n, .int .i64 E.u, .string E.rn, .int .i64 E.ri, .slice a' E.args.length p'] 26))) := Lib.hid ((Below.refl _ _).alloc (Nat.le_refl _) _)
      have HOd := Lib.hid (HOwn.out.up HWb.out)
      have HBd := Lib.hid (HL.out.below.trans (HWb.out.mono HL.out.size))
      have HNew : Hid ((wr.alloc (.cells #[.int .i64 E.op, .int .i64 E.n, .int .i64 E.u, .string E.rn, .int .i64 E.ri, .slice a' E.args.length p'] 26)).heap[wr.heap.size]? = some (.cells #[.int .i64 E.op, .int .i64 E.n, .int .i64 E.u, .string E.rn, .int .i64 E.ri, .slice a' E.args.length p'] 26 (0, 0))) := Lib.hid (by
        have h := World.alloc_heap_new wr (.cells #[.int .i64 E.op, .int .i64 E.n, .int .i64 E.u, .string E.rn, .int .i64 E.ri, .slice a' E.args.length p'] 26)
        exact h)
      have HBase : Hid ((w.heap.size + 1) ≤ (wr.alloc (.cells #[.int .i64 E.op, .int .i64 E.n, .int .i64 E.u, .string E.rn, .int .i64 E.ri, .slice a' E.args.length p'] 26)).heap.size) := Lib.hid (Nat.le_trans HL.out.size HWb.out.size)
      go_wp2_with (first | (refine wpList_load_mid rfl 26 _ rfl b (o + i * 7 + 1) rfl [.int .i64 E.op, .int .i64 E.n, .int .i64 E.u, .string E.rn, .int .i64 E.ri, .slice a' E.args.length p'] _ HRa.out Try.underlying26 rfl (by kernel_rfl) ?_) | (at_builtin; refine wpList_append_ex (w.heap.size + 1) rfl _ _ rfl u3 rows rfl HOd.out (wr.heap.size) 1 1 [[.int .i64 E.op, .int .i64 E.n, .int .i64 E.u, .string E.rn, .int .i64 E.ri, .slice a' E.args.length p']] #[.int .i64 E.op, .int .i64 E.n, .int .i64 E.u, .string E.rn, .int .i64 E.ri, .slice a' E.args.length p'] rfl rfl HNew.out rfl (by simp [Value.oneCell']) rfl HLen.out HBase.out ?_; intro ad5 n5 c5 w5 hown5 hg5; have HO5 := Lib.hid hown5; have HB5 := Lib.hid (below_ex HBd.out HBase.out HOd.out hg5); have HZ5 : Hid ((w.heap.size + 1) ≤ w5.heap.size) := Lib.hid (Nat.le_trans HBase.out hg5.size); have HG5 := Lib.hid hg5; clear hown5 hg5))
      exact ⟨⟨i + 1, by omega, by push_cast; rfl, Lib.hid ⟨HB5.out, HZ5.out, _, HO5.out, by rw [HNext.out]; exact HAll.out.append ⟨HEx.out, trivial⟩⟩⟩, by simp [intOf]; omega⟩
    · obtain rfl : i = L.lets.n := by omega
      have hki : decide ((L.lets.n : Int) < (L.lets.n : Int)) = false := by simp
      have HLe : Hid (Lst (w.heap.size + 1) N w0 (([] : List Ex) ++ x.lets.flatMap (fun d => [d.value])) wr u3) := Lib.hid (by
        have h := HL.out
        rw [HLn.out.lets, List.take_length] at h
        exact h)
      obtain ⟨⟨C0, r0, k0⟩, ⟨C1, r1, k1⟩, ⟨C2, r2, k2⟩⟩ := head_parts (W := wr) (rangeAt_block HR0.out (HLe.out.below.block _ (Nat.lt_succ_self _))) HS0.out
      have HSe : Hid (top2 x = top1 x ++ [x.season, x.cap, x.start]) := Lib.hid rfl
      generalize x.season = E0 at k0 HSe
      generalize x.cap = E1 at k1 HSe
      generalize x.start = E2 at k2 HSe
      have HEx0 := Lib.hid k0; have HEx1 := Lib.hid k1; have HEx2 := Lib.hid k2
      obtain ⟨a0, p0, rfl, _⟩ := k0.cells
      obtain ⟨a1, p1, rfl, _⟩ := k1.cells
      obtain ⟨a2, p2, rfl, _⟩ := k2.cells
      have HRa0 := Lib.hid r0; have HRa1 := Lib.hid r1; have HRa2 := Lib.hid r2
      obtain ⟨rows, hown, hall⟩ := HLe.out.own
      have HOwn := Lib.hid hown; have HAll := Lib.hid hall
      have HLen : Hid (rows.length + 3 ≤ 1000000000) := Lib.hid (by
        have h2 := HTL.out.t1
        have h3 : rows.length = (top1 x).length := hall.length
        omega)
      clear r0 r1 r2 hown hall
      have HWb : Hid (Below wr.heap.size wr (wr.alloc (.cells #[.int .i64 E0.op, .int .i64 E0.n, .int .i64 E0.u, .string E0.rn, .int .i64 E0.ri, .slice a0 E0.args.length p0, .int .i64 E1.op, .int .i64 E1.n, .int .i64 E1.u, .string E1.rn, .int .i64 E1.ri, .slice a1 E1.args.length p1, .int .i64 E2.op, .int .i64 E2.n, .int .i64 E2.u, .string E2.rn, .int .i64 E2.ri, .slice a2 E2.args.length p2] 26))) := Lib.hid ((Below.refl _ _).alloc (Nat.le_refl _) _)
      have HOd := Lib.hid (HOwn.out.up HWb.out)
      have HBd := Lib.hid (HLe.out.below.trans (HWb.out.mono HLe.out.size))
      have HNew : Hid ((wr.alloc (.cells #[.int .i64 E0.op, .int .i64 E0.n, .int .i64 E0.u, .string E0.rn, .int .i64 E0.ri, .slice a0 E0.args.length p0, .int .i64 E1.op, .int .i64 E1.n, .int .i64 E1.u, .string E1.rn, .int .i64 E1.ri, .slice a1 E1.args.length p1, .int .i64 E2.op, .int .i64 E2.n, .int .i64 E2.u, .string E2.rn, .int .i64 E2.ri, .slice a2 E2.args.length p2] 26)).heap[wr.heap.size]? = some (.cells #[.int .i64 E0.op, .int .i64 E0.n, .int .i64 E0.u, .string E0.rn, .int .i64 E0.ri, .slice a0 E0.args.length p0, .int .i64 E1.op, .int .i64 E1.n, .int .i64 E1.u, .string E1.rn, .int .i64 E1.ri, .slice a1 E1.args.length p1, .int .i64 E2.op, .int .i64 E2.n, .int .i64 E2.u, .string E2.rn, .int .i64 E2.ri, .slice a2 E2.args.length p2] 26 (0, 0))) := Lib.hid (by
        have h := World.alloc_heap_new wr (.cells #[.int .i64 E0.op, .int .i64 E0.n, .int .i64 E0.u, .string E0.rn, .int .i64 E0.ri, .slice a0 E0.args.length p0, .int .i64 E1.op, .int .i64 E1.n, .int .i64 E1.u, .string E1.rn, .int .i64 E1.ri, .slice a1 E1.args.length p1, .int .i64 E2.op, .int .i64 E2.n, .int .i64 E2.u, .string E2.rn, .int .i64 E2.ri, .slice a2 E2.args.length p2] 26)
        exact h)
      have HBase : Hid ((w.heap.size + 1) ≤ (wr.alloc (.cells #[.int .i64 E0.op, .int .i64 E0.n, .int .i64 E0.u, .string E0.rn, .int .i64 E0.ri, .slice a0 E0.args.length p0, .int .i64 E1.op, .int .i64 E1.n, .int .i64 E1.u, .string E1.rn, .int .i64 E1.ri, .slice a1 E1.args.length p1, .int .i64 E2.op, .int .i64 E2.n, .int .i64 E2.u, .string E2.rn, .int .i64 E2.ri, .slice a2 E2.args.length p2] 26)).heap.size) := Lib.hid (Nat.le_trans HLe.out.size HWb.out.size)
      go_wp2_with (first | (refine wpList_load_mid rfl 26 _ rfl w.heap.size (1) rfl [.int .i64 E0.op, .int .i64 E0.n, .int .i64 E0.u, .string E0.rn, .int .i64 E0.ri, .slice a0 E0.args.length p0] _ HRa0.out Try.underlying26 rfl (by kernel_rfl) ?_) | (refine wpList_load_mid rfl 26 _ rfl w.heap.size (7) rfl [.int .i64 E1.op, .int .i64 E1.n, .int .i64 E1.u, .string E1.rn, .int .i64 E1.ri, .slice a1 E1.args.length p1] _ HRa1.out Try.underlying26 rfl (by kernel_rfl) ?_) | (refine wpList_load_mid rfl 26 _ rfl w.heap.size (13) rfl [.int .i64 E2.op, .int .i64 E2.n, .int .i64 E2.u, .string E2.rn, .int .i64 E2.ri, .slice a2 E2.args.length p2] _ HRa2.out Try.underlying26 rfl (by kernel_rfl) ?_) | (at_builtin; refine wpList_append_ex (w.heap.size + 1) rfl _ _ rfl u3 rows rfl HOd.out (wr.heap.size) 3 3 [[.int .i64 E0.op, .int .i64 E0.n, .int .i64 E0.u, .string E0.rn, .int .i64 E0.ri, .slice a0 E0.args.length p0], [.int .i64 E1.op, .int .i64 E1.n, .int .i64 E1.u, .string E1.rn, .int .i64 E1.ri, .slice a1 E1.args.length p1], [.int .i64 E2.op, .int .i64 E2.n, .int .i64 E2.u, .string E2.rn, .int .i64 E2.ri, .slice a2 E2.args.length p2]] #[.int .i64 E0.op, .int .i64 E0.n, .int .i64 E0.u, .string E0.rn, .int .i64 E0.ri, .slice a0 E0.args.length p0, .int .i64 E1.op, .int .i64 E1.n, .int .i64 E1.u, .string E1.rn, .int .i64 E1.ri, .slice a1 E1.args.length p1, .int .i64 E2.op, .int .i64 E2.n, .int .i64 E2.u, .string E2.rn, .int .i64 E2.ri, .slice a2 E2.args.length p2] rfl rfl HNew.out rfl (by simp [Value.oneCell']) rfl HLen.out HBase.out ?_; intro ad5 n5 c5 w5 hown5 hg5; have HO5 := Lib.hid hown5; have HB5 := Lib.hid (below_ex HBd.out HBase.out HOd.out hg5); have HZ5 : Hid ((w.heap.size + 1) ≤ w5.heap.size) := Lib.hid (Nat.le_trans HBase.out hg5.size); have HG5 := Lib.hid hg5; clear hown5 hg5))
      have HL0 : Hid (Lst (w.heap.size + 1) N w0 (top2 x ++ (x.crops.take 0).flatMap (fun d => [d.need])) w5 (.slice ad5 n5 c5)) := Lib.hid ⟨HB5.out, HZ5.out, _, HO5.out, by
        rw [List.take_zero, List.flatMap_nil, List.append_nil, HSe.out]
        exact HAll.out.append ⟨HEx0.out, HEx1.out, HEx2.out, trivial⟩⟩
      clear hf hki HL HLe HO5 HB5 HZ5 HG5 HAll HOwn HLen HNew HBase HBd HOd HWb
      go_loopw [3, 5] (fun v3 iv wr => ∃ i : Nat, i ≤ L.crops.n ∧ iv = .int .i64 i ∧ Hid (Lst (w.heap.size + 1) N w0 (top2 x ++ (x.crops.take i).flatMap (fun d => [d.need])) wr v3)) (fun _ iv _ => L.crops.n - (intOf iv).toNat)
      case atStart => exact ⟨0, Nat.zero_le _, rfl, HL0⟩
      case round =>
        clear HL0
        obtain ⟨i, hi, rfl, HL⟩ := hrel
        have hf : wr.cell? ⟨w.heap.size, 20, none⟩ = some (.slice L.crops.a L.crops.n L.crops.c) := HHd.out wr HL.out.below 20 _ HCa.out.crops
        have hn47 : L.crops.n ≤ 140737488355328 := HOk.out.crops.1
        by_cases hlt : i < L.crops.n
        · have hil : i < x.crops.length := by rw [← HLn.out.crops]; exact hlt
          have hki : (i : Int) < (L.crops.n : Int) := by omega
          obtain ⟨b, o, he, hNb, c, hra, hex⟩ := HTp.out.crops i hil
          rw [he] at hf
          have HNext : Hid (top2 x ++ (x.crops.take (i + 1)).flatMap (fun d => [d.need]) = (top2 x ++ (x.crops.take i).flatMap (fun d => [d.need])) ++ [x.crops[i].need]) := Lib.hid (by rw [flat_next hil, List.append_assoc])
          have hle : (top2 x ++ (x.crops.take i).flatMap (fun d => [d.need])).length ≤ 20000 := by
            have h1 := take_len (l := x.crops) (f := (fun d => [d.need])) (c := 1) (i := i) (fun _ _ => by simp)
            have h2 := HTL.out.t2; have h3 := HFw.out.crops
            rw [List.length_append]
            skip
            omega
          generalize x.crops[i].need = E at hex HNext
          have HEx := Lib.hid hex
          obtain ⟨a', p', rfl, _⟩ := hex.cells
          have HRa := Lib.hid (rangeAt_block hra ((HBl.out wr HL.out.below) b hNb))
          obtain ⟨rows, hown, hall⟩ := HL.out.own
          have HOwn := Lib.hid hown; have HAll := Lib.hid hall
          have HLen : Hid (rows.length + 1 ≤ 1000000000) := Lib.hid (by rw [hall.length]; omega)
          clear hra hex he hown hall hle hNb
          have HWb : Hid (Below wr.heap.size wr (wr.alloc (.cells #[.int .i64 E.op, .int .i64 E.n, .int .i64 E.u, .string E.rn, .int .i64 E.ri, .slice a' E.args.length p'] 26))) := Lib.hid ((Below.refl _ _).alloc (Nat.le_refl _) _)
          have HOd := Lib.hid (HOwn.out.up HWb.out)
          have HBd := Lib.hid (HL.out.below.trans (HWb.out.mono HL.out.size))
          have HNew : Hid ((wr.alloc (.cells #[.int .i64 E.op, .int .i64 E.n, .int .i64 E.u, .string E.rn, .int .i64 E.ri, .slice a' E.args.length p'] 26)).heap[wr.heap.size]? = some (.cells #[.int .i64 E.op, .int .i64 E.n, .int .i64 E.u, .string E.rn, .int .i64 E.ri, .slice a' E.args.length p'] 26 (0, 0))) := Lib.hid (by
            have h := World.alloc_heap_new wr (.cells #[.int .i64 E.op, .int .i64 E.n, .int .i64 E.u, .string E.rn, .int .i64 E.ri, .slice a' E.args.length p'] 26)
            exact h)
          have HBase : Hid ((w.heap.size + 1) ≤ (wr.alloc (.cells #[.int .i64 E.op, .int .i64 E.n, .int .i64 E.u, .string E.rn, .int .i64 E.ri, .slice a' E.args.length p'] 26)).heap.size) := Lib.hid (Nat.le_trans HL.out.size HWb.out.size)
          go_wp2_with (first | (refine wpList_load_mid rfl 26 _ rfl b (o + i * 7 + 1) rfl [.int .i64 E.op, .int .i64 E.n, .int .i64 E.u, .string E.rn, .int .i64 E.ri, .slice a' E.args.length p'] _ HRa.out Try.underlying26 rfl (by kernel_rfl) ?_) | (at_builtin; refine wpList_append_ex (w.heap.size + 1) rfl _ _ rfl u3 rows rfl HOd.out (wr.heap.size) 1 1 [[.int .i64 E.op, .int .i64 E.n, .int .i64 E.u, .string E.rn, .int .i64 E.ri, .slice a' E.args.length p']] #[.int .i64 E.op, .int .i64 E.n, .int .i64 E.u, .string E.rn, .int .i64 E.ri, .slice a' E.args.length p'] rfl rfl HNew.out rfl (by simp [Value.oneCell']) rfl HLen.out HBase.out ?_; intro ad5 n5 c5 w5 hown5 hg5; have HO5 := Lib.hid hown5; have HB5 := Lib.hid (below_ex HBd.out HBase.out HOd.out hg5); have HZ5 : Hid ((w.heap.size + 1) ≤ w5.heap.size) := Lib.hid (Nat.le_trans HBase.out hg5.size); have HG5 := Lib.hid hg5; clear hown5 hg5))
          exact ⟨⟨i + 1, by omega, by push_cast; rfl, Lib.hid ⟨HB5.out, HZ5.out, _, HO5.out, by rw [HNext.out]; exact HAll.out.append ⟨HEx.out, trivial⟩⟩⟩, by simp [intOf]; omega⟩
        · obtain rfl : i = L.crops.n := by omega
          have hki : decide ((L.crops.n : Int) < (L.crops.n : Int)) = false := by simp
          have HLe : Hid (Lst (w.heap.size + 1) N w0 (top2 x ++ x.crops.flatMap (fun d => [d.need])) wr u3) := Lib.hid (by
            have h := HL.out
            rw [HLn.out.crops, List.take_length] at h
            exact h)
          go_wp2
          obtain ⟨wf1, rfl⟩ : ∃ z : World, z = wr := ⟨_, rfl⟩
          obtain ⟨vf1, rfl⟩ : ∃ z : Value, z = u3 := ⟨_, rfl⟩
          have HL0 : Hid (Lst (w.heap.size + 1) N w0 (top3 x ++ (x.reaches.take 0).flatMap reach8) wf1 vf1) := Lib.hid (by
            rw [List.take_zero, List.flatMap_nil, List.append_nil]; exact HLe.out)
          clear hf hki HL HLe
          go_loopw [3, 6] (fun v3 iv wr => ∃ i : Nat, i ≤ L.reaches.n ∧ iv = .int .i64 i ∧ Hid (Lst (w.heap.size + 1) N w0 (top3 x ++ (x.reaches.take i).flatMap reach8) wr v3)) (fun _ iv _ => L.reaches.n - (intOf iv).toNat)
          case atStart => exact ⟨0, Nat.zero_le _, rfl, HL0⟩
          case round =>
            clear HL0
            obtain ⟨i, hi, rfl, HL⟩ := hrel
            have hf : wr.cell? ⟨w.heap.size, 21, none⟩ = some (.slice L.reaches.a L.reaches.n L.reaches.c) := HHd.out wr HL.out.below 21 _ HCa.out.reaches
            have hn47 : L.reaches.n ≤ 140737488355328 := HOk.out.reaches.1
            by_cases hlt : i < L.reaches.n
            · have hil : i < x.reaches.length := by rw [← HLn.out.reaches]; exact hlt
              have hki : (i : Int) < (L.reaches.n : Int) := by omega
              obtain ⟨b, o, R, he, hNb, hRl, hra, hv⟩ := HS0.out.reaches.2.2 i hil
              rw [he] at hf
              have HNext : Hid (top3 x ++ (x.reaches.take (i + 1)).flatMap reach8 = (top3 x ++ (x.reaches.take i).flatMap reach8) ++ [x.reaches[i].delay, x.reaches[i].cap, x.reaches[i].bank, x.reaches[i].siphon, x.reaches[i].evap0, x.reaches[i].evap1, x.reaches[i].seep0, x.reaches[i].seep1]) := Lib.hid (by rw [flat_next hil, List.append_assoc]; rfl)
              have hle : (top3 x ++ (x.reaches.take i).flatMap reach8).length ≤ 20000 := by
                have h1 := take_len (l := x.reaches) (f := reach8) (c := 8) (i := i) (fun _ _ => by simp [reach8])
                have h2 := HTL.out.t3; have h3 := HFw.out.reaches
                rw [List.length_append]
                omega
              have HRow := Lib.hid (rangeAt_block hra ((HBl.out wr HL.out.below) b hNb))
              have HOneR := Lib.hid (all_oneCell_toArray (one_reach _ _ hv))
              have H51 : Hid ((Try.prog.info? 51).map (·.size) = some R.length) := Lib.hid (by rw [hRl]; kernel_rfl)
              have H51b : Hid ((Try.prog.info? 51).map (·.size) = some R.toArray.size) := Lib.hid (by rw [List.size_toArray]; exact H51.out)
              have HRl := Lib.hid hRl
              have hnr : (wr.alloc (.cells R.toArray 51)).rangeAt wr.heap.size 0 R := by
                have := World.rangeAt_of_block (World.alloc_heap_new wr (.cells R.toArray 51)) 0 R.length
                simpa using this
              obtain ⟨⟨C0, r0, k0⟩, ⟨C1, r1, k1⟩, ⟨C2, r2, k2⟩, ⟨C3, r3, k3⟩, ⟨C4, r4, k4⟩, ⟨C5, r5, k5⟩, ⟨C6, r6, k6⟩, ⟨C7, r7, k7⟩⟩ := reach_parts hnr hv
              generalize x.reaches[i].delay = E0 at k0 HNext
              generalize x.reaches[i].cap = E1 at k1 HNext
              generalize x.reaches[i].bank = E2 at k2 HNext
              generalize x.reaches[i].siphon = E3 at k3 HNext
              generalize x.reaches[i].evap0 = E4 at k4 HNext
              generalize x.reaches[i].evap1 = E5 at k5 HNext
              generalize x.reaches[i].seep0 = E6 at k6 HNext
              generalize x.reaches[i].seep1 = E7 at k7 HNext
              have HEx0 := Lib.hid k0
              have HEx1 := Lib.hid k1
              have HEx2 := Lib.hid k2
              have HEx3 := Lib.hid k3
              have HEx4 := Lib.hid k4
              have HEx5 := Lib.hid k5
              have HEx6 := Lib.hid k6
              have HEx7 := Lib.hid k7
              obtain ⟨a0, p0, rfl, _⟩ := k0.cells
              obtain ⟨a1, p1, rfl, _⟩ := k1.cells
              obtain ⟨a2, p2, rfl, _⟩ := k2.cells
              obtain ⟨a3, p3, rfl, _⟩ := k3.cells
              obtain ⟨a4, p4, rfl, _⟩ := k4.cells
              obtain ⟨a5, p5, rfl, _⟩ := k5.cells
              obtain ⟨a6, p6, rfl, _⟩ := k6.cells
              obtain ⟨a7, p7, rfl, _⟩ := k7.cells
              have HRa0 := Lib.hid r0
              have HRa1 := Lib.hid r1
              have HRa2 := Lib.hid r2
              have HRa3 := Lib.hid r3
              have HRa4 := Lib.hid r4
              have HRa5 := Lib.hid r5
              have HRa6 := Lib.hid r6
              have HRa7 := Lib.hid r7
              obtain ⟨rows, hown, hall⟩ := HL.out.own
              have HAll := Lib.hid hall
              have HLen : Hid (rows.length + 8 ≤ 1000000000) := Lib.hid (by rw [hall.length]; omega)
              have HWa : Hid (Below wr.heap.size wr (wr.alloc (.cells R.toArray 51))) := Lib.hid ((Below.refl _ _).alloc (Nat.le_refl _) _)
              have HOwn := Lib.hid (hown.up HWa.out)
              have HBa := Lib.hid (HL.out.below.trans (HWa.out.mono HL.out.size))
              have HZa : Hid ((w.heap.size + 1) ≤ (wr.alloc (.cells R.toArray 51)).heap.size) := Lib.hid (Nat.le_trans HL.out.size HWa.out.size)
              clear hra he hown hall hle hNb hRl hv hnr r0 r1 r2 r3 r4 r5 r6 r7
              have HWb : Hid (Below (wr.alloc (.cells R.toArray 51)).heap.size (wr.alloc (.cells R.toArray 51)) ((wr.alloc (.cells R.toArray 51)).alloc (.cells #[.int .i64 E0.op, .int .i64 E0.n, .int .i64 E0.u, .string E0.rn, .int .i64 E0.ri, .slice a0 E0.args.length p0, .int .i64 E1.op, .int .i64 E1.n, .int .i64 E1.u, .string E1.rn, .int .i64 E1.ri, .slice a1 E1.args.length p1, .int .i64 E2.op, .int .i64 E2.n, .int .i64 E2.u, .string E2.rn, .int .i64 E2.ri, .slice a2 E2.args.length p2, .int .i64 E3.op, .int .i64 E3.n, .int .i64 E3.u, .string E3.rn, .int .i64 E3.ri, .slice a3 E3.args.length p3, .int .i64 E4.op, .int .i64 E4.n, .int .i64 E4.u, .string E4.rn, .int .i64 E4.ri, .slice a4 E4.args.length p4, .int .i64 E5.op, .int .i64 E5.n, .int .i64 E5.u, .string E5.rn, .int .i64 E5.ri, .slice a5 E5.args.length p5, .int .i64 E6.op, .int .i64 E6.n, .int .i64 E6.u, .string E6.rn, .int .i64 E6.ri, .slice a6 E6.args.length p6, .int .i64 E7.op, .int .i64 E7.n, .int .i64 E7.u, .string E7.rn, .int .i64 E7.ri, .slice a7 E7.args.length p7] 26))) := Lib.hid ((Below.refl _ _).alloc (Nat.le_refl _) _)
              have HOd := Lib.hid (HOwn.out.up HWb.out)
              have HBd := Lib.hid (HBa.out.trans (HWb.out.mono HZa.out))
              have HNew : Hid (((wr.alloc (.cells R.toArray 51)).alloc (.cells #[.int .i64 E0.op, .int .i64 E0.n, .int .i64 E0.u, .string E0.rn, .int .i64 E0.ri, .slice a0 E0.args.length p0, .int .i64 E1.op, .int .i64 E1.n, .int .i64 E1.u, .string E1.rn, .int .i64 E1.ri, .slice a1 E1.args.length p1, .int .i64 E2.op, .int .i64 E2.n, .int .i64 E2.u, .string E2.rn, .int .i64 E2.ri, .slice a2 E2.args.length p2, .int .i64 E3.op, .int .i64 E3.n, .int .i64 E3.u, .string E3.rn, .int .i64 E3.ri, .slice a3 E3.args.length p3, .int .i64 E4.op, .int .i64 E4.n, .int .i64 E4.u, .string E4.rn, .int .i64 E4.ri, .slice a4 E4.args.length p4, .int .i64 E5.op, .int .i64 E5.n, .int .i64 E5.u, .string E5.rn, .int .i64 E5.ri, .slice a5 E5.args.length p5, .int .i64 E6.op, .int .i64 E6.n, .int .i64 E6.u, .string E6.rn, .int .i64 E6.ri, .slice a6 E6.args.length p6, .int .i64 E7.op, .int .i64 E7.n, .int .i64 E7.u, .string E7.rn, .int .i64 E7.ri, .slice a7 E7.args.length p7] 26)).heap[wr.heap.size + 1]? = some (.cells #[.int .i64 E0.op, .int .i64 E0.n, .int .i64 E0.u, .string E0.rn, .int .i64 E0.ri, .slice a0 E0.args.length p0, .int .i64 E1.op, .int .i64 E1.n, .int .i64 E1.u, .string E1.rn, .int .i64 E1.ri, .slice a1 E1.args.length p1, .int .i64 E2.op, .int .i64 E2.n, .int .i64 E2.u, .string E2.rn, .int .i64 E2.ri, .slice a2 E2.args.length p2, .int .i64 E3.op, .int .i64 E3.n, .int .i64 E3.u, .string E3.rn, .int .i64 E3.ri, .slice a3 E3.args.length p3, .int .i64 E4.op, .int .i64 E4.n, .int .i64 E4.u, .string E4.rn, .int .i64 E4.ri, .slice a4 E4.args.length p4, .int .i64 E5.op, .int .i64 E5.n, .int .i64 E5.u, .string E5.rn, .int .i64 E5.ri, .slice a5 E5.args.length p5, .int .i64 E6.op, .int .i64 E6.n, .int .i64 E6.u, .string E6.rn, .int .i64 E6.ri, .slice a6 E6.args.length p6, .int .i64 E7.op, .int .i64 E7.n, .int .i64 E7.u, .string E7.rn, .int .i64 E7.ri, .slice a7 E7.args.length p7] 26 (0, 0))) := Lib.hid (by
                have h := World.alloc_heap_new (wr.alloc (.cells R.toArray 51)) (.cells #[.int .i64 E0.op, .int .i64 E0.n, .int .i64 E0.u, .string E0.rn, .int .i64 E0.ri, .slice a0 E0.args.length p0, .int .i64 E1.op, .int .i64 E1.n, .int .i64 E1.u, .string E1.rn, .int .i64 E1.ri, .slice a1 E1.args.length p1, .int .i64 E2.op, .int .i64 E2.n, .int .i64 E2.u, .string E2.rn, .int .i64 E2.ri, .slice a2 E2.args.length p2, .int .i64 E3.op, .int .i64 E3.n, .int .i64 E3.u, .string E3.rn, .int .i64 E3.ri, .slice a3 E3.args.length p3, .int .i64 E4.op, .int .i64 E4.n, .int .i64 E4.u, .string E4.rn, .int .i64 E4.ri, .slice a4 E4.args.length p4, .int .i64 E5.op, .int .i64 E5.n, .int .i64 E5.u, .string E5.rn, .int .i64 E5.ri, .slice a5 E5.args.length p5, .int .i64 E6.op, .int .i64 E6.n, .int .i64 E6.u, .string E6.rn, .int .i64 E6.ri, .slice a6 E6.args.length p6, .int .i64 E7.op, .int .i64 E7.n, .int .i64 E7.u, .string E7.rn, .int .i64 E7.ri, .slice a7 E7.args.length p7] 26)
                rw [World.size_alloc] at h; exact h)
              have HBase : Hid ((w.heap.size + 1) ≤ ((wr.alloc (.cells R.toArray 51)).alloc (.cells #[.int .i64 E0.op, .int .i64 E0.n, .int .i64 E0.u, .string E0.rn, .int .i64 E0.ri, .slice a0 E0.args.length p0, .int .i64 E1.op, .int .i64 E1.n, .int .i64 E1.u, .string E1.rn, .int .i64 E1.ri, .slice a1 E1.args.length p1, .int .i64 E2.op, .int .i64 E2.n, .int .i64 E2.u, .string E2.rn, .int .i64 E2.ri, .slice a2 E2.args.length p2, .int .i64 E3.op, .int .i64 E3.n, .int .i64 E3.u, .string E3.rn, .int .i64 E3.ri, .slice a3 E3.args.length p3, .int .i64 E4.op, .int .i64 E4.n, .int .i64 E4.u, .string E4.rn, .int .i64 E4.ri, .slice a4 E4.args.length p4, .int .i64 E5.op, .int .i64 E5.n, .int .i64 E5.u, .string E5.rn, .int .i64 E5.ri, .slice a5 E5.args.length p5, .int .i64 E6.op, .int .i64 E6.n, .int .i64 E6.u, .string E6.rn, .int .i64 E6.ri, .slice a6 E6.args.length p6, .int .i64 E7.op, .int .i64 E7.n, .int .i64 E7.u, .string E7.rn, .int .i64 E7.ri, .slice a7 E7.args.length p7] 26)).heap.size) := Lib.hid (Nat.le_trans HZa.out HWb.out.size)
              go_wp2_with (first | (refine wpList_load_mid rfl 51 _ rfl b (o + i * 51) rfl R _ HRow.out Try.underlying51 rfl H51.out ?_) | (refine wpList_store_row rfl 51 _ _ rfl wr.heap.size R.toArray rfl rfl 51 _ (World.alloc_heap_new _ _) H51b.out (by simp [HRl.out]) HOneR.out ?_; rw [World.setRow_alloc_new]) | (refine wpList_load_mid rfl 26 _ rfl wr.heap.size (3) rfl [.int .i64 E0.op, .int .i64 E0.n, .int .i64 E0.u, .string E0.rn, .int .i64 E0.ri, .slice a0 E0.args.length p0] _ HRa0.out Try.underlying26 rfl (by kernel_rfl) ?_) | (refine wpList_load_mid rfl 26 _ rfl wr.heap.size (9) rfl [.int .i64 E1.op, .int .i64 E1.n, .int .i64 E1.u, .string E1.rn, .int .i64 E1.ri, .slice a1 E1.args.length p1] _ HRa1.out Try.underlying26 rfl (by kernel_rfl) ?_) | (refine wpList_load_mid rfl 26 _ rfl wr.heap.size (15) rfl [.int .i64 E2.op, .int .i64 E2.n, .int .i64 E2.u, .string E2.rn, .int .i64 E2.ri, .slice a2 E2.args.length p2] _ HRa2.out Try.underlying26 rfl (by kernel_rfl) ?_) | (refine wpList_load_mid rfl 26 _ rfl wr.heap.size (21) rfl [.int .i64 E3.op, .int .i64 E3.n, .int .i64 E3.u, .string E3.rn, .int .i64 E3.ri, .slice a3 E3.args.length p3] _ HRa3.out Try.underlying26 rfl (by kernel_rfl) ?_) | (refine wpList_load_mid rfl 26 _ rfl wr.heap.size (27) rfl [.int .i64 E4.op, .int .i64 E4.n, .int .i64 E4.u, .string E4.rn, .int .i64 E4.ri, .slice a4 E4.args.length p4] _ HRa4.out Try.underlying26 rfl (by kernel_rfl) ?_) | (refine wpList_load_mid rfl 26 _ rfl wr.heap.size (33) rfl [.int .i64 E5.op, .int .i64 E5.n, .int .i64 E5.u, .string E5.rn, .int .i64 E5.ri, .slice a5 E5.args.length p5] _ HRa5.out Try.underlying26 rfl (by kernel_rfl) ?_) | (refine wpList_load_mid rfl 26 _ rfl wr.heap.size (39) rfl [.int .i64 E6.op, .int .i64 E6.n, .int .i64 E6.u, .string E6.rn, .int .i64 E6.ri, .slice a6 E6.args.length p6] _ HRa6.out Try.underlying26 rfl (by kernel_rfl) ?_) | (refine wpList_load_mid rfl 26 _ rfl wr.heap.size (45) rfl [.int .i64 E7.op, .int .i64 E7.n, .int .i64 E7.u, .string E7.rn, .int .i64 E7.ri, .slice a7 E7.args.length p7] _ HRa7.out Try.underlying26 rfl (by kernel_rfl) ?_) | (at_builtin; refine wpList_append_ex (w.heap.size + 1) rfl _ _ rfl u3 rows rfl HOd.out (wr.heap.size + 1) 8 8 [[.int .i64 E0.op, .int .i64 E0.n, .int .i64 E0.u, .string E0.rn, .int .i64 E0.ri, .slice a0 E0.args.length p0], [.int .i64 E1.op, .int .i64 E1.n, .int .i64 E1.u, .string E1.rn, .int .i64 E1.ri, .slice a1 E1.args.length p1], [.int .i64 E2.op, .int .i64 E2.n, .int .i64 E2.u, .string E2.rn, .int .i64 E2.ri, .slice a2 E2.args.length p2], [.int .i64 E3.op, .int .i64 E3.n, .int .i64 E3.u, .string E3.rn, .int .i64 E3.ri, .slice a3 E3.args.length p3], [.int .i64 E4.op, .int .i64 E4.n, .int .i64 E4.u, .string E4.rn, .int .i64 E4.ri, .slice a4 E4.args.length p4], [.int .i64 E5.op, .int .i64 E5.n, .int .i64 E5.u, .string E5.rn, .int .i64 E5.ri, .slice a5 E5.args.length p5], [.int .i64 E6.op, .int .i64 E6.n, .int .i64 E6.u, .string E6.rn, .int .i64 E6.ri, .slice a6 E6.args.length p6], [.int .i64 E7.op, .int .i64 E7.n, .int .i64 E7.u, .string E7.rn, .int .i64 E7.ri, .slice a7 E7.args.length p7]] #[.int .i64 E0.op, .int .i64 E0.n, .int .i64 E0.u, .string E0.rn, .int .i64 E0.ri, .slice a0 E0.args.length p0, .int .i64 E1.op, .int .i64 E1.n, .int .i64 E1.u, .string E1.rn, .int .i64 E1.ri, .slice a1 E1.args.length p1, .int .i64 E2.op, .int .i64 E2.n, .int .i64 E2.u, .string E2.rn, .int .i64 E2.ri, .slice a2 E2.args.length p2, .int .i64 E3.op, .int .i64 E3.n, .int .i64 E3.u, .string E3.rn, .int .i64 E3.ri, .slice a3 E3.args.length p3, .int .i64 E4.op, .int .i64 E4.n, .int .i64 E4.u, .string E4.rn, .int .i64 E4.ri, .slice a4 E4.args.length p4, .int .i64 E5.op, .int .i64 E5.n, .int .i64 E5.u, .string E5.rn, .int .i64 E5.ri, .slice a5 E5.args.length p5, .int .i64 E6.op, .int .i64 E6.n, .int .i64 E6.u, .string E6.rn, .int .i64 E6.ri, .slice a6 E6.args.length p6, .int .i64 E7.op, .int .i64 E7.n, .int .i64 E7.u, .string E7.rn, .int .i64 E7.ri, .slice a7 E7.args.length p7] rfl rfl HNew.out rfl (by simp [Value.oneCell']) rfl HLen.out HBase.out ?_; intro ad5 n5 c5 w5 hown5 hg5; have HO5 := Lib.hid hown5; have HB5 := Lib.hid (below_ex HBd.out HBase.out HOd.out hg5); have HZ5 : Hid ((w.heap.size + 1) ≤ w5.heap.size) := Lib.hid (Nat.le_trans HBase.out hg5.size); have HG5 := Lib.hid hg5; clear hown5 hg5))
              exact ⟨⟨i + 1, by omega, by push_cast; rfl, Lib.hid ⟨HB5.out, HZ5.out, _, HO5.out, by rw [HNext.out]; exact HAll.out.append ⟨HEx0.out, HEx1.out, HEx2.out, HEx3.out, HEx4.out, HEx5.out, HEx6.out, HEx7.out, trivial⟩⟩⟩, by simp [intOf]; omega⟩
            · obtain rfl : i = L.reaches.n := by omega
              have hki : decide ((L.reaches.n : Int) < (L.reaches.n : Int)) = false := by simp
              have HLe : Hid (Lst (w.heap.size + 1) N w0 (top3 x ++ x.reaches.flatMap reach8) wr u3) := Lib.hid (by
                have h := HL.out
                rw [HLn.out.reaches, List.take_length] at h
                exact h)
              go_wp2
              obtain ⟨wf2, rfl⟩ : ∃ z : World, z = wr := ⟨_, rfl⟩
              obtain ⟨vf2, rfl⟩ : ∃ z : Value, z = u3 := ⟨_, rfl⟩
              have HL0 : Hid (Lst (w.heap.size + 1) N w0 (top4 x ++ (x.farms.take 0).flatMap (fun d => [d.area])) wf2 vf2) := Lib.hid (by
                rw [List.take_zero, List.flatMap_nil, List.append_nil]; exact HLe.out)
              clear hf hki HL HLe
              go_loopw [3, 8] (fun v3 iv wr => ∃ i : Nat, i ≤ L.farms.n ∧ iv = .int .i64 i ∧ Hid (Lst (w.heap.size + 1) N w0 (top4 x ++ (x.farms.take i).flatMap (fun d => [d.area])) wr v3)) (fun _ iv _ => L.farms.n - (intOf iv).toNat)
              case atStart => exact ⟨0, Nat.zero_le _, rfl, HL0⟩
              case round =>
                clear HL0
                obtain ⟨i, hi, rfl, HL⟩ := hrel
                have hf : wr.cell? ⟨w.heap.size, 22, none⟩ = some (.slice L.farms.a L.farms.n L.farms.c) := HHd.out wr HL.out.below 22 _ HCa.out.farms
                have hn47 : L.farms.n ≤ 140737488355328 := HOk.out.farms.1
                by_cases hlt : i < L.farms.n
                · have hil : i < x.farms.length := by rw [← HLn.out.farms]; exact hlt
                  have hki : (i : Int) < (L.farms.n : Int) := by omega
                  obtain ⟨b, o, he, hNb, c, hra, hex⟩ := HTp.out.farms i hil
                  rw [he] at hf
                  have HNext : Hid (top4 x ++ (x.farms.take (i + 1)).flatMap (fun d => [d.area]) = (top4 x ++ (x.farms.take i).flatMap (fun d => [d.area])) ++ [x.farms[i].area]) := Lib.hid (by rw [flat_next hil, List.append_assoc])
                  have hle : (top4 x ++ (x.farms.take i).flatMap (fun d => [d.area])).length ≤ 20000 := by
                    have h1 := take_len (l := x.farms) (f := (fun d => [d.area])) (c := 1) (i := i) (fun _ _ => by simp)
                    have h2 := HTL.out.t4; have h3 := HFw.out.farms
                    rw [List.length_append]
                    skip
                    omega
                  generalize x.farms[i].area = E at hex HNext
                  have HEx := Lib.hid hex
                  obtain ⟨a', p', rfl, _⟩ := hex.cells
                  have HRa := Lib.hid (rangeAt_block hra ((HBl.out wr HL.out.below) b hNb))
                  obtain ⟨rows, hown, hall⟩ := HL.out.own
                  have HOwn := Lib.hid hown; have HAll := Lib.hid hall
                  have HLen : Hid (rows.length + 1 ≤ 1000000000) := Lib.hid (by rw [hall.length]; omega)
                  clear hra hex he hown hall hle hNb
                  have HWb : Hid (Below wr.heap.size wr (wr.alloc (.cells #[.int .i64 E.op, .int .i64 E.n, .int .i64 E.u, .string E.rn, .int .i64 E.ri, .slice a' E.args.length p'] 26))) := Lib.hid ((Below.refl _ _).alloc (Nat.le_refl _) _)
                  have HOd := Lib.hid (HOwn.out.up HWb.out)
                  have HBd := Lib.hid (HL.out.below.trans (HWb.out.mono HL.out.size))
                  have HNew : Hid ((wr.alloc (.cells #[.int .i64 E.op, .int .i64 E.n, .int .i64 E.u, .string E.rn, .int .i64 E.ri, .slice a' E.args.length p'] 26)).heap[wr.heap.size]? = some (.cells #[.int .i64 E.op, .int .i64 E.n, .int .i64 E.u, .string E.rn, .int .i64 E.ri, .slice a' E.args.length p'] 26 (0, 0))) := Lib.hid (by
                    have h := World.alloc_heap_new wr (.cells #[.int .i64 E.op, .int .i64 E.n, .int .i64 E.u, .string E.rn, .int .i64 E.ri, .slice a' E.args.length p'] 26)
                    exact h)
                  have HBase : Hid ((w.heap.size + 1) ≤ (wr.alloc (.cells #[.int .i64 E.op, .int .i64 E.n, .int .i64 E.u, .string E.rn, .int .i64 E.ri, .slice a' E.args.length p'] 26)).heap.size) := Lib.hid (Nat.le_trans HL.out.size HWb.out.size)
                  go_wp2_with (first | (refine wpList_load_mid rfl 26 _ rfl b (o + i * 12 + 4) rfl [.int .i64 E.op, .int .i64 E.n, .int .i64 E.u, .string E.rn, .int .i64 E.ri, .slice a' E.args.length p'] _ HRa.out Try.underlying26 rfl (by kernel_rfl) ?_) | (at_builtin; refine wpList_append_ex (w.heap.size + 1) rfl _ _ rfl u3 rows rfl HOd.out (wr.heap.size) 1 1 [[.int .i64 E.op, .int .i64 E.n, .int .i64 E.u, .string E.rn, .int .i64 E.ri, .slice a' E.args.length p']] #[.int .i64 E.op, .int .i64 E.n, .int .i64 E.u, .string E.rn, .int .i64 E.ri, .slice a' E.args.length p'] rfl rfl HNew.out rfl (by simp [Value.oneCell']) rfl HLen.out HBase.out ?_; intro ad5 n5 c5 w5 hown5 hg5; have HO5 := Lib.hid hown5; have HB5 := Lib.hid (below_ex HBd.out HBase.out HOd.out hg5); have HZ5 : Hid ((w.heap.size + 1) ≤ w5.heap.size) := Lib.hid (Nat.le_trans HBase.out hg5.size); have HG5 := Lib.hid hg5; clear hown5 hg5))
                  exact ⟨⟨i + 1, by omega, by push_cast; rfl, Lib.hid ⟨HB5.out, HZ5.out, _, HO5.out, by rw [HNext.out]; exact HAll.out.append ⟨HEx.out, trivial⟩⟩⟩, by simp [intOf]; omega⟩
                · obtain rfl : i = L.farms.n := by omega
                  have hki : decide ((L.farms.n : Int) < (L.farms.n : Int)) = false := by simp
                  have HLe : Hid (Lst (w.heap.size + 1) N w0 (top4 x ++ x.farms.flatMap (fun d => [d.area])) wr u3) := Lib.hid (by
                    have h := HL.out
                    rw [HLn.out.farms, List.take_length] at h
                    exact h)
                  go_wp2
                  obtain ⟨wf3, rfl⟩ : ∃ z : World, z = wr := ⟨_, rfl⟩
                  obtain ⟨vf3, rfl⟩ : ∃ z : Value, z = u3 := ⟨_, rfl⟩
                  have HL0 : Hid (Lst (w.heap.size + 1) N w0 (top5 x ++ (x.rots.take 0).flatMap rotT) wf3 vf3) := Lib.hid (by
                    rw [List.take_zero, List.flatMap_nil, List.append_nil]; exact HLe.out)
                  clear hf hki HL HLe
                  go_loopw [3, 9] (fun v3 iv wr => ∃ i : Nat, i ≤ L.rots.n ∧ iv = .int .i64 i ∧ Hid (Lst (w.heap.size + 1) N w0 (top5 x ++ (x.rots.take i).flatMap rotT) wr v3)) (fun _ iv _ => L.rots.n - (intOf iv).toNat)
                  case atStart => exact ⟨0, Nat.zero_le _, rfl, HL0⟩
                  case round =>
                    clear HL0
                    obtain ⟨i, hi, rfl, HL⟩ := hrel
                    have hf : wr.cell? ⟨w.heap.size, 23, none⟩ = some (.slice L.rots.a L.rots.n L.rots.c) := HHd.out wr HL.out.below 23 _ HCa.out.rots
                    have hn47 : L.rots.n ≤ 140737488355328 := HOk.out.rots.1
                    by_cases hlt : i < L.rots.n
                    · have hil : i < x.rots.length := by rw [← HLn.out.rots]; exact hlt
                      have hki : (i : Int) < (L.rots.n : Int) := by omega
                      obtain ⟨b, o, R, he, hNb, hRl, hra, hv⟩ := HS0.out.rots.2.2 i hil
                      rw [he] at hf
                      have HNext : Hid (top5 x ++ (x.rots.take (i + 1)).flatMap rotT = (top5 x ++ (x.rots.take i).flatMap rotT) ++ ([x.rots[i].flow, x.rots[i].frm, x.rots[i].to] ++ x.rots[i].turns.flatMap (fun k : TurnD => [k.len]))) := Lib.hid (by rw [flat_next hil, List.append_assoc]; rfl)
                      have hle : (top5 x ++ (x.rots.take i).flatMap rotT).length ≤ 20000 := by
                        have h1 := take_len (l := x.rots) (f := rotT) (c := 73) (i := i) (fun d hd => by
                          have h1 : (d.turns.flatMap (fun k : TurnD => [k.len])).length ≤ d.turns.length * 1 := flatc_len fun _ _ => by simp
                          have := HFw.out.turns d hd
                          simp only [rotT, List.length_append, List.length_cons, List.length_nil]; omega)
                        have h2 := HTL.out.t5; have h3 := HFw.out.rots
                        rw [List.length_append]
                        omega
                      have hdt : x.rots[i].turns.length ≤ 70 := HFw.out.turns _ (List.getElem_mem hil)
                      have HRow := Lib.hid (rangeAt_block hra ((HBl.out wr HL.out.below) b hNb))
                      have HOneR := Lib.hid (all_oneCell_toArray (rotV_one hv))
                      have H51 : Hid ((Try.prog.info? 64).map (·.size) = some R.length) := Lib.hid (by rw [hRl]; kernel_rfl)
                      have H51b : Hid ((Try.prog.info? 64).map (·.size) = some R.toArray.size) := Lib.hid (by rw [List.size_toArray]; exact H51.out)
                      have HRl := Lib.hid hRl
                      have hnr : (wr.alloc (.cells R.toArray 64)).rangeAt wr.heap.size 0 R := by
                        have := World.rangeAt_of_block (World.alloc_heap_new wr (.cells R.toArray 64)) 0 R.length
                        simpa using this
                      obtain ⟨⟨C0, r0, k0⟩, ⟨C1, r1, k1⟩, ⟨C2, r2, k2⟩, h22, hts⟩ := rot_parts hnr hv
                      have H22 := Lib.hid h22
                      have HTs := Lib.hid hts
                      have hok : (turnsOf L i).n ≤ 140737488355328 := by rw [hts.1]; exact hts.2.1
                      generalize x.rots[i].flow = E0 at k0 HNext
                      generalize x.rots[i].frm = E1 at k1 HNext
                      generalize x.rots[i].to = E2 at k2 HNext
                      generalize x.rots[i].turns = D at HTs hdt HNext
                      have HEx0 := Lib.hid k0; have HEx1 := Lib.hid k1; have HEx2 := Lib.hid k2
                      obtain ⟨a0, p0, rfl, _⟩ := k0.cells
                      obtain ⟨a1, p1, rfl, _⟩ := k1.cells
                      obtain ⟨a2, p2, rfl, _⟩ := k2.cells
                      have HRa0 := Lib.hid r0; have HRa1 := Lib.hid r1; have HRa2 := Lib.hid r2
                      obtain ⟨rows, hown, hall⟩ := HL.out.own
                      have HAll := Lib.hid hall
                      have HLen : Hid (rows.length + 3 ≤ 1000000000) := Lib.hid (by rw [hall.length]; omega)
                      have HWa : Hid (Below wr.heap.size wr (wr.alloc (.cells R.toArray 64))) := Lib.hid ((Below.refl _ _).alloc (Nat.le_refl _) _)
                      have HOwn := Lib.hid (hown.up HWa.out)
                      have HBa := Lib.hid (HL.out.below.trans (HWa.out.mono HL.out.size))
                      have HZa : Hid ((w.heap.size + 1) ≤ (wr.alloc (.cells R.toArray 64)).heap.size) := Lib.hid (Nat.le_trans HL.out.size HWa.out.size)
                      have HBoxA : Hid ((wr.alloc (.cells R.toArray 64)).heap[wr.heap.size]? = some (.cells R.toArray 64 (0, 0))) := Lib.hid (World.alloc_heap_new _ _)
                      have HDt := Lib.hid hdt; have HLe2 := Lib.hid hle
                      clear hra he hown hall hle hNb hRl hv hnr r0 r1 r2 h22 hts hdt
                      obtain ⟨gb, hgb⟩ : ∃ gb, gb = wr.heap.size := ⟨_, rfl⟩
                      have HGb := Lib.hid hgb
                      clear hgb
                      have HWb : Hid (Below (wr.alloc (.cells R.toArray 64)).heap.size (wr.alloc (.cells R.toArray 64)) ((wr.alloc (.cells R.toArray 64)).alloc (.cells #[.int .i64 E0.op, .int .i64 E0.n, .int .i64 E0.u, .string E0.rn, .int .i64 E0.ri, .slice a0 E0.args.length p0, .int .i64 E1.op, .int .i64 E1.n, .int .i64 E1.u, .string E1.rn, .int .i64 E1.ri, .slice a1 E1.args.length p1, .int .i64 E2.op, .int .i64 E2.n, .int .i64 E2.u, .string E2.rn, .int .i64 E2.ri, .slice a2 E2.args.length p2] 26))) := Lib.hid ((Below.refl _ _).alloc (Nat.le_refl _) _)
                      have HOd := Lib.hid (HOwn.out.up HWb.out)
                      have HBd := Lib.hid (HBa.out.trans (HWb.out.mono HZa.out))
                      have HNew : Hid (((wr.alloc (.cells R.toArray 64)).alloc (.cells #[.int .i64 E0.op, .int .i64 E0.n, .int .i64 E0.u, .string E0.rn, .int .i64 E0.ri, .slice a0 E0.args.length p0, .int .i64 E1.op, .int .i64 E1.n, .int .i64 E1.u, .string E1.rn, .int .i64 E1.ri, .slice a1 E1.args.length p1, .int .i64 E2.op, .int .i64 E2.n, .int .i64 E2.u, .string E2.rn, .int .i64 E2.ri, .slice a2 E2.args.length p2] 26)).heap[wr.heap.size + 1]? = some (.cells #[.int .i64 E0.op, .int .i64 E0.n, .int .i64 E0.u, .string E0.rn, .int .i64 E0.ri, .slice a0 E0.args.length p0, .int .i64 E1.op, .int .i64 E1.n, .int .i64 E1.u, .string E1.rn, .int .i64 E1.ri, .slice a1 E1.args.length p1, .int .i64 E2.op, .int .i64 E2.n, .int .i64 E2.u, .string E2.rn, .int .i64 E2.ri, .slice a2 E2.args.length p2] 26 (0, 0))) := Lib.hid (by
                        have h := World.alloc_heap_new (wr.alloc (.cells R.toArray 64)) (.cells #[.int .i64 E0.op, .int .i64 E0.n, .int .i64 E0.u, .string E0.rn, .int .i64 E0.ri, .slice a0 E0.args.length p0, .int .i64 E1.op, .int .i64 E1.n, .int .i64 E1.u, .string E1.rn, .int .i64 E1.ri, .slice a1 E1.args.length p1, .int .i64 E2.op, .int .i64 E2.n, .int .i64 E2.u, .string E2.rn, .int .i64 E2.ri, .slice a2 E2.args.length p2] 26)
                        rw [World.size_alloc] at h; exact h)
                      have HBase : Hid ((w.heap.size + 1) ≤ ((wr.alloc (.cells R.toArray 64)).alloc (.cells #[.int .i64 E0.op, .int .i64 E0.n, .int .i64 E0.u, .string E0.rn, .int .i64 E0.ri, .slice a0 E0.args.length p0, .int .i64 E1.op, .int .i64 E1.n, .int .i64 E1.u, .string E1.rn, .int .i64 E1.ri, .slice a1 E1.args.length p1, .int .i64 E2.op, .int .i64 E2.n, .int .i64 E2.u, .string E2.rn, .int .i64 E2.ri, .slice a2 E2.args.length p2] 26)).heap.size) := Lib.hid (Nat.le_trans HZa.out HWb.out.size)
                      go_wp2_with (first | (refine wpList_load_mid rfl 64 _ rfl b (o + i * 23) rfl R _ HRow.out Try.underlying64 rfl H51.out ?_) | (refine wpList_store_row rfl 64 _ _ rfl wr.heap.size R.toArray rfl rfl 64 _ (World.alloc_heap_new _ _) H51b.out (by simp [HRl.out]) HOneR.out ?_; rw [World.setRow_alloc_new]) | (refine wpList_load_mid rfl 26 _ rfl wr.heap.size (4) rfl [.int .i64 E0.op, .int .i64 E0.n, .int .i64 E0.u, .string E0.rn, .int .i64 E0.ri, .slice a0 E0.args.length p0] _ HRa0.out Try.underlying26 rfl (by kernel_rfl) ?_) | (refine wpList_load_mid rfl 26 _ rfl wr.heap.size (10) rfl [.int .i64 E1.op, .int .i64 E1.n, .int .i64 E1.u, .string E1.rn, .int .i64 E1.ri, .slice a1 E1.args.length p1] _ HRa1.out Try.underlying26 rfl (by kernel_rfl) ?_) | (refine wpList_load_mid rfl 26 _ rfl wr.heap.size (16) rfl [.int .i64 E2.op, .int .i64 E2.n, .int .i64 E2.u, .string E2.rn, .int .i64 E2.ri, .slice a2 E2.args.length p2] _ HRa2.out Try.underlying26 rfl (by kernel_rfl) ?_) | (at_builtin; refine wpList_append_ex (w.heap.size + 1) rfl _ _ rfl u3 rows rfl HOd.out (wr.heap.size + 1) 3 3 [[.int .i64 E0.op, .int .i64 E0.n, .int .i64 E0.u, .string E0.rn, .int .i64 E0.ri, .slice a0 E0.args.length p0], [.int .i64 E1.op, .int .i64 E1.n, .int .i64 E1.u, .string E1.rn, .int .i64 E1.ri, .slice a1 E1.args.length p1], [.int .i64 E2.op, .int .i64 E2.n, .int .i64 E2.u, .string E2.rn, .int .i64 E2.ri, .slice a2 E2.args.length p2]] #[.int .i64 E0.op, .int .i64 E0.n, .int .i64 E0.u, .string E0.rn, .int .i64 E0.ri, .slice a0 E0.args.length p0, .int .i64 E1.op, .int .i64 E1.n, .int .i64 E1.u, .string E1.rn, .int .i64 E1.ri, .slice a1 E1.args.length p1, .int .i64 E2.op, .int .i64 E2.n, .int .i64 E2.u, .string E2.rn, .int .i64 E2.ri, .slice a2 E2.args.length p2] rfl rfl HNew.out rfl (by simp [Value.oneCell']) rfl HLen.out HBase.out ?_; intro ad5 n5 c5 w5 hown5 hg5; have HO5 := Lib.hid hown5; have HB5 := Lib.hid (below_ex HBd.out HBase.out HOd.out hg5); have HZ5 : Hid ((w.heap.size + 1) ≤ w5.heap.size) := Lib.hid (Nat.le_trans HBase.out hg5.size); have HG5 := Lib.hid hg5; clear hown5 hg5))
                      have HKeep : Hid (w5.heap[wr.heap.size]? = some (.cells R.toArray 64 (0, 0))) := Lib.hid (by
                        have e1 : ((wr.alloc (.cells R.toArray 64)).alloc (.cells #[.int .i64 E0.op, .int .i64 E0.n, .int .i64 E0.u, .string E0.rn, .int .i64 E0.ri, .slice a0 E0.args.length p0, .int .i64 E1.op, .int .i64 E1.n, .int .i64 E1.u, .string E1.rn, .int .i64 E1.ri, .slice a1 E1.args.length p1, .int .i64 E2.op, .int .i64 E2.n, .int .i64 E2.u, .string E2.rn, .int .i64 E2.ri, .slice a2 E2.args.length p2] 26)).heap[wr.heap.size]? = some (.cells R.toArray 64 (0, 0)) := (HWb.out.block _ (by simp)).trans HBoxA.out
                        exact (HG5.out.block _ (Array.getElem?_eq_some_iff.1 e1).1 (fun e => ex_not HOd.out e1 (by decide) e.symm)).trans e1)
                      have HLi : Hid (Lst (w.heap.size + 1) N w0 ((top5 x ++ (x.rots.take i).flatMap rotT) ++ ([E0, E1, E2] ++ (D.take 0).flatMap (fun k : TurnD => [k.len]))) w5 (.slice ad5 n5 c5)) := Lib.hid ⟨HB5.out, HZ5.out, _, HO5.out, by
                        rw [List.take_zero, List.flatMap_nil, List.append_nil]
                        exact HAll.out.append ⟨HEx0.out, HEx1.out, HEx2.out, trivial⟩⟩
                      clear HO5 HB5 HZ5 HG5 HAll HOwn HLen HNew HBase HBd HOd HWb HBa HZa HWa HBoxA HL hf
                      obtain ⟨wo, rfl⟩ : ∃ z : World, z = wr := ⟨_, rfl⟩
                      obtain ⟨vo, rfl⟩ : ∃ z : Value, z = u3 := ⟨_, rfl⟩
                      go_loopw [3, 11] (fun v3 iv wr => ∃ k : Nat, k ≤ (turnsOf L i).n ∧ iv = .int .i64 k ∧ Hid (Lst (w.heap.size + 1) N w0 ((top5 x ++ (x.rots.take i).flatMap rotT) ++ ([E0, E1, E2] ++ (D.take k).flatMap (fun k : TurnD => [k.len]))) wr v3) ∧ Hid (wr.heap[wo.heap.size]? = some (.cells R.toArray 64 (0, 0)))) (fun _ iv _ => (turnsOf L i).n - (intOf iv).toNat)
                      case atStart => exact ⟨0, Nat.zero_le _, rfl, HLi, HKeep⟩
                      case round =>
                        clear HLi HKeep
                        obtain ⟨k, hk, rfl, HLk, HKp⟩ := hrel
                        have hf2 : wr.cell? ⟨wo.heap.size, 22, none⟩ = some (.slice (turnsOf L i).a (turnsOf L i).n (turnsOf L i).c) := by
                          simp only [World.cell?, HKp.out]
                          have h := H22.out
                          unfold Hdr.v at h
                          simpa using h
                        by_cases hkl : k < (turnsOf L i).n
                        · have hkd : k < D.length := by rw [← HTs.out.1]; exact hkl
                          have hkk : (k : Int) < ((turnsOf L i).n : Int) := by omega
                          obtain ⟨b2, o2, c2, he2, hN2, hl2, hra2, hsz2, ct, rfl, hex2⟩ := HTs.out.2.2 k hkd
                          rw [he2] at hf2
                          have hr2 : w0.rangeAt b2 (o2 + k * 8 + 2) ct := by
                            have := range_mid (p := rfV D[k].farm) (c := ct) (q := []) (by simpa using hra2)
                            exact this
                          have HNx2 : Hid (((top5 x ++ (x.rots.take i).flatMap rotT) ++ ([E0, E1, E2] ++ (D.take (k + 1)).flatMap (fun k : TurnD => [k.len]))) = ((top5 x ++ (x.rots.take i).flatMap rotT) ++ ([E0, E1, E2] ++ (D.take k).flatMap (fun k : TurnD => [k.len]))) ++ [D[k].len]) := Lib.hid (by rw [flat_next hkd]; simp only [List.append_assoc])
                          generalize D[k].len = E3 at hex2 HNx2
                          have HEx3 := Lib.hid hex2
                          obtain ⟨a3, p3, rfl, _⟩ := hex2.cells
                          have HRa3 := Lib.hid (rangeAt_block hr2 ((HBl.out wr HLk.out.below) b2 hN2))
                          obtain ⟨rows2, hown2, hall2⟩ := HLk.out.own
                          have HOwn2 := Lib.hid hown2; have HAll2 := Lib.hid hall2
                          have HLen : Hid (rows2.length + 1 ≤ 1000000000) := Lib.hid (by
                            have h1 := take_len (l := D) (f := (fun k : TurnD => [k.len])) (c := 1) (i := k) (fun _ _ => by simp)
                            have h2 := HDt.out; have h3 := HLe2.out
                            rw [hall2.length]
                            simp only [List.length_append, List.length_cons, List.length_nil] at h3 ⊢
                            omega)
                          clear hra2 hr2 hown2 hall2 hN2 hl2 hsz2 he2
                          have HWb : Hid (Below wr.heap.size wr (wr.alloc (.cells #[.int .i64 E3.op, .int .i64 E3.n, .int .i64 E3.u, .string E3.rn, .int .i64 E3.ri, .slice a3 E3.args.length p3] 26))) := Lib.hid ((Below.refl _ _).alloc (Nat.le_refl _) _)
                          have HOd := Lib.hid (HOwn2.out.up HWb.out)
                          have HBd := Lib.hid (HLk.out.below.trans (HWb.out.mono HLk.out.size))
                          have HNew : Hid ((wr.alloc (.cells #[.int .i64 E3.op, .int .i64 E3.n, .int .i64 E3.u, .string E3.rn, .int .i64 E3.ri, .slice a3 E3.args.length p3] 26)).heap[wr.heap.size]? = some (.cells #[.int .i64 E3.op, .int .i64 E3.n, .int .i64 E3.u, .string E3.rn, .int .i64 E3.ri, .slice a3 E3.args.length p3] 26 (0, 0))) := Lib.hid (by
                            have h := World.alloc_heap_new wr (.cells #[.int .i64 E3.op, .int .i64 E3.n, .int .i64 E3.u, .string E3.rn, .int .i64 E3.ri, .slice a3 E3.args.length p3] 26)
                            exact h)
                          have HBase : Hid ((w.heap.size + 1) ≤ (wr.alloc (.cells #[.int .i64 E3.op, .int .i64 E3.n, .int .i64 E3.u, .string E3.rn, .int .i64 E3.ri, .slice a3 E3.args.length p3] 26)).heap.size) := Lib.hid (Nat.le_trans HLk.out.size HWb.out.size)
                          go_wp2_with (first | (refine wpList_load_mid rfl 26 _ rfl b2 (o2 + k * 8 + 2) rfl [.int .i64 E3.op, .int .i64 E3.n, .int .i64 E3.u, .string E3.rn, .int .i64 E3.ri, .slice a3 E3.args.length p3] _ HRa3.out Try.underlying26 rfl (by kernel_rfl) ?_) | (at_builtin; refine wpList_append_ex (w.heap.size + 1) rfl _ _ rfl u3 rows2 rfl HOd.out (wr.heap.size) 1 1 [[.int .i64 E3.op, .int .i64 E3.n, .int .i64 E3.u, .string E3.rn, .int .i64 E3.ri, .slice a3 E3.args.length p3]] #[.int .i64 E3.op, .int .i64 E3.n, .int .i64 E3.u, .string E3.rn, .int .i64 E3.ri, .slice a3 E3.args.length p3] rfl rfl HNew.out rfl (by simp [Value.oneCell']) rfl HLen.out HBase.out ?_; intro ad6 n6 c6 w6 hown5 hg5; have HO6 := Lib.hid hown5; have HB6 := Lib.hid (below_ex HBd.out HBase.out HOd.out hg5); have HZ6 : Hid ((w.heap.size + 1) ≤ w6.heap.size) := Lib.hid (Nat.le_trans HBase.out hg5.size); have HG6 := Lib.hid hg5; clear hown5 hg5))
                          have HKeep : Hid (w6.heap[wo.heap.size]? = some (.cells R.toArray 64 (0, 0))) := Lib.hid (by
                            have e1 := (HWb.out.block _ (Array.getElem?_eq_some_iff.1 HKp.out).1).trans HKp.out
                            exact (HG6.out.block _ (Array.getElem?_eq_some_iff.1 e1).1 (fun e => ex_not HOd.out e1 (by decide) e.symm)).trans e1)
                          exact ⟨⟨k + 1, by omega, by push_cast; rfl, Lib.hid ⟨HB6.out, HZ6.out, _, HO6.out, by rw [HNx2.out]; exact HAll2.out.append ⟨HEx3.out, trivial⟩⟩, HKeep⟩, by simp [intOf]; omega⟩
                        · obtain rfl : k = (turnsOf L i).n := by omega
                          have hkk : decide (((turnsOf L i).n : Int) < ((turnsOf L i).n : Int)) = false := by simp
                          have HFin : Hid (Lst (w.heap.size + 1) N w0 (top5 x ++ (x.rots.take (i + 1)).flatMap rotT) wr u3) := Lib.hid (by
                            rw [HNext.out]
                            have h := HLk.out
                            rw [HTs.out.1, List.take_length] at h
                            exact h)
                          go_wp2
                          exact ⟨⟨i + 1, by omega, by push_cast; rfl, HFin⟩, by simp [intOf]; omega⟩
                    · obtain rfl : i = L.rots.n := by omega
                      have hki : decide ((L.rots.n : Int) < (L.rots.n : Int)) = false := by simp
                      have HLe : Hid (Lst (w.heap.size + 1) N w0 (top5 x ++ x.rots.flatMap rotT) wr u3) := Lib.hid (by
                        have h := HL.out
                        rw [HLn.out.rots, List.take_length] at h
                        exact h)
                      go_wp2
                      obtain ⟨wf4, rfl⟩ : ∃ z : World, z = wr := ⟨_, rfl⟩
                      obtain ⟨vf4, rfl⟩ : ∃ z : Value, z = u3 := ⟨_, rfl⟩
                      have HL0 : Hid (Lst (w.heap.size + 1) N w0 (top6 x ++ (x.rights.take 0).flatMap right5) wf4 vf4) := Lib.hid (by
                        rw [List.take_zero, List.flatMap_nil, List.append_nil]; exact HLe.out)
                      clear hf hki HL HLe
                      go_loopw [3, 12] (fun v3 iv wr => ∃ i : Nat, i ≤ L.rights.n ∧ iv = .int .i64 i ∧ Hid (Lst (w.heap.size + 1) N w0 (top6 x ++ (x.rights.take i).flatMap right5) wr v3)) (fun _ iv _ => L.rights.n - (intOf iv).toNat)
                      case atStart => exact ⟨0, Nat.zero_le _, rfl, HL0⟩
                      case round =>
                        clear HL0
                        obtain ⟨i, hi, rfl, HL⟩ := hrel
                        have hf : wr.cell? ⟨w.heap.size, 24, none⟩ = some (.slice L.rights.a L.rights.n L.rights.c) := HHd.out wr HL.out.below 24 _ HCa.out.rights
                        have hn47 : L.rights.n ≤ 140737488355328 := HOk.out.rights.1
                        by_cases hlt : i < L.rights.n
                        · have hil : i < x.rights.length := by rw [← HLn.out.rights]; exact hlt
                          have hki : (i : Int) < (L.rights.n : Int) := by omega
                          obtain ⟨b, o, R, he, hNb, hRl, hra, hv⟩ := HS0.out.rights.2.2 i hil
                          rw [he] at hf
                          have HNext : Hid (top6 x ++ (x.rights.take (i + 1)).flatMap right5 = (top6 x ++ (x.rights.take i).flatMap right5) ++ [x.rights[i].flow, x.rights[i].frm, x.rights[i].to, x.rights[i].every, x.rights[i].len]) := Lib.hid (by rw [flat_next hil, List.append_assoc]; rfl)
                          have hle : (top6 x ++ (x.rights.take i).flatMap right5).length ≤ 20000 := by
                            have h1 := take_len (l := x.rights) (f := right5) (c := 5) (i := i) (fun _ _ => by simp [right5])
                            have h2 := HTL.out.t6; have h3 := HFw.out.rights
                            rw [List.length_append]
                            omega
                          have HRow := Lib.hid (rangeAt_block hra ((HBl.out wr HL.out.below) b hNb))
                          have HOneR := Lib.hid (all_oneCell_toArray (one_right _ _ hv))
                          have H51 : Hid ((Try.prog.info? 68).map (·.size) = some R.length) := Lib.hid (by rw [hRl]; kernel_rfl)
                          have H51b : Hid ((Try.prog.info? 68).map (·.size) = some R.toArray.size) := Lib.hid (by rw [List.size_toArray]; exact H51.out)
                          have HRl := Lib.hid hRl
                          have hnr : (wr.alloc (.cells R.toArray 68)).rangeAt wr.heap.size 0 R := by
                            have := World.rangeAt_of_block (World.alloc_heap_new wr (.cells R.toArray 68)) 0 R.length
                            simpa using this
                          obtain ⟨⟨C0, r0, k0⟩, ⟨C1, r1, k1⟩, ⟨C2, r2, k2⟩, ⟨C3, r3, k3⟩, ⟨C4, r4, k4⟩⟩ := right_parts hnr hv
                          generalize x.rights[i].flow = E0 at k0 HNext
                          generalize x.rights[i].frm = E1 at k1 HNext
                          generalize x.rights[i].to = E2 at k2 HNext
                          generalize x.rights[i].every = E3 at k3 HNext
                          generalize x.rights[i].len = E4 at k4 HNext
                          have HEx0 := Lib.hid k0
                          have HEx1 := Lib.hid k1
                          have HEx2 := Lib.hid k2
                          have HEx3 := Lib.hid k3
                          have HEx4 := Lib.hid k4
                          obtain ⟨a0, p0, rfl, _⟩ := k0.cells
                          obtain ⟨a1, p1, rfl, _⟩ := k1.cells
                          obtain ⟨a2, p2, rfl, _⟩ := k2.cells
                          obtain ⟨a3, p3, rfl, _⟩ := k3.cells
                          obtain ⟨a4, p4, rfl, _⟩ := k4.cells
                          have HRa0 := Lib.hid r0
                          have HRa1 := Lib.hid r1
                          have HRa2 := Lib.hid r2
                          have HRa3 := Lib.hid r3
                          have HRa4 := Lib.hid r4
                          obtain ⟨rows, hown, hall⟩ := HL.out.own
                          have HAll := Lib.hid hall
                          have HLen : Hid (rows.length + 5 ≤ 1000000000) := Lib.hid (by rw [hall.length]; omega)
                          have HWa : Hid (Below wr.heap.size wr (wr.alloc (.cells R.toArray 68))) := Lib.hid ((Below.refl _ _).alloc (Nat.le_refl _) _)
                          have HOwn := Lib.hid (hown.up HWa.out)
                          have HBa := Lib.hid (HL.out.below.trans (HWa.out.mono HL.out.size))
                          have HZa : Hid ((w.heap.size + 1) ≤ (wr.alloc (.cells R.toArray 68)).heap.size) := Lib.hid (Nat.le_trans HL.out.size HWa.out.size)
                          clear hra he hown hall hle hNb hRl hv hnr r0 r1 r2 r3 r4
                          have HWb : Hid (Below (wr.alloc (.cells R.toArray 68)).heap.size (wr.alloc (.cells R.toArray 68)) ((wr.alloc (.cells R.toArray 68)).alloc (.cells #[.int .i64 E0.op, .int .i64 E0.n, .int .i64 E0.u, .string E0.rn, .int .i64 E0.ri, .slice a0 E0.args.length p0, .int .i64 E1.op, .int .i64 E1.n, .int .i64 E1.u, .string E1.rn, .int .i64 E1.ri, .slice a1 E1.args.length p1, .int .i64 E2.op, .int .i64 E2.n, .int .i64 E2.u, .string E2.rn, .int .i64 E2.ri, .slice a2 E2.args.length p2, .int .i64 E3.op, .int .i64 E3.n, .int .i64 E3.u, .string E3.rn, .int .i64 E3.ri, .slice a3 E3.args.length p3, .int .i64 E4.op, .int .i64 E4.n, .int .i64 E4.u, .string E4.rn, .int .i64 E4.ri, .slice a4 E4.args.length p4] 26))) := Lib.hid ((Below.refl _ _).alloc (Nat.le_refl _) _)
                          have HOd := Lib.hid (HOwn.out.up HWb.out)
                          have HBd := Lib.hid (HBa.out.trans (HWb.out.mono HZa.out))
                          have HNew : Hid (((wr.alloc (.cells R.toArray 68)).alloc (.cells #[.int .i64 E0.op, .int .i64 E0.n, .int .i64 E0.u, .string E0.rn, .int .i64 E0.ri, .slice a0 E0.args.length p0, .int .i64 E1.op, .int .i64 E1.n, .int .i64 E1.u, .string E1.rn, .int .i64 E1.ri, .slice a1 E1.args.length p1, .int .i64 E2.op, .int .i64 E2.n, .int .i64 E2.u, .string E2.rn, .int .i64 E2.ri, .slice a2 E2.args.length p2, .int .i64 E3.op, .int .i64 E3.n, .int .i64 E3.u, .string E3.rn, .int .i64 E3.ri, .slice a3 E3.args.length p3, .int .i64 E4.op, .int .i64 E4.n, .int .i64 E4.u, .string E4.rn, .int .i64 E4.ri, .slice a4 E4.args.length p4] 26)).heap[wr.heap.size + 1]? = some (.cells #[.int .i64 E0.op, .int .i64 E0.n, .int .i64 E0.u, .string E0.rn, .int .i64 E0.ri, .slice a0 E0.args.length p0, .int .i64 E1.op, .int .i64 E1.n, .int .i64 E1.u, .string E1.rn, .int .i64 E1.ri, .slice a1 E1.args.length p1, .int .i64 E2.op, .int .i64 E2.n, .int .i64 E2.u, .string E2.rn, .int .i64 E2.ri, .slice a2 E2.args.length p2, .int .i64 E3.op, .int .i64 E3.n, .int .i64 E3.u, .string E3.rn, .int .i64 E3.ri, .slice a3 E3.args.length p3, .int .i64 E4.op, .int .i64 E4.n, .int .i64 E4.u, .string E4.rn, .int .i64 E4.ri, .slice a4 E4.args.length p4] 26 (0, 0))) := Lib.hid (by
                            have h := World.alloc_heap_new (wr.alloc (.cells R.toArray 68)) (.cells #[.int .i64 E0.op, .int .i64 E0.n, .int .i64 E0.u, .string E0.rn, .int .i64 E0.ri, .slice a0 E0.args.length p0, .int .i64 E1.op, .int .i64 E1.n, .int .i64 E1.u, .string E1.rn, .int .i64 E1.ri, .slice a1 E1.args.length p1, .int .i64 E2.op, .int .i64 E2.n, .int .i64 E2.u, .string E2.rn, .int .i64 E2.ri, .slice a2 E2.args.length p2, .int .i64 E3.op, .int .i64 E3.n, .int .i64 E3.u, .string E3.rn, .int .i64 E3.ri, .slice a3 E3.args.length p3, .int .i64 E4.op, .int .i64 E4.n, .int .i64 E4.u, .string E4.rn, .int .i64 E4.ri, .slice a4 E4.args.length p4] 26)
                            rw [World.size_alloc] at h; exact h)
                          have HBase : Hid ((w.heap.size + 1) ≤ ((wr.alloc (.cells R.toArray 68)).alloc (.cells #[.int .i64 E0.op, .int .i64 E0.n, .int .i64 E0.u, .string E0.rn, .int .i64 E0.ri, .slice a0 E0.args.length p0, .int .i64 E1.op, .int .i64 E1.n, .int .i64 E1.u, .string E1.rn, .int .i64 E1.ri, .slice a1 E1.args.length p1, .int .i64 E2.op, .int .i64 E2.n, .int .i64 E2.u, .string E2.rn, .int .i64 E2.ri, .slice a2 E2.args.length p2, .int .i64 E3.op, .int .i64 E3.n, .int .i64 E3.u, .string E3.rn, .int .i64 E3.ri, .slice a3 E3.args.length p3, .int .i64 E4.op, .int .i64 E4.n, .int .i64 E4.u, .string E4.rn, .int .i64 E4.ri, .slice a4 E4.args.length p4] 26)).heap.size) := Lib.hid (Nat.le_trans HZa.out HWb.out.size)
                          go_wp2_with (first | (refine wpList_load_mid rfl 68 _ rfl b (o + i * 37) rfl R _ HRow.out Try.underlying68 rfl H51.out ?_) | (refine wpList_store_row rfl 68 _ _ rfl wr.heap.size R.toArray rfl rfl 68 _ (World.alloc_heap_new _ _) H51b.out (by simp [HRl.out]) HOneR.out ?_; rw [World.setRow_alloc_new]) | (refine wpList_load_mid rfl 26 _ rfl wr.heap.size (7) rfl [.int .i64 E0.op, .int .i64 E0.n, .int .i64 E0.u, .string E0.rn, .int .i64 E0.ri, .slice a0 E0.args.length p0] _ HRa0.out Try.underlying26 rfl (by kernel_rfl) ?_) | (refine wpList_load_mid rfl 26 _ rfl wr.heap.size (13) rfl [.int .i64 E1.op, .int .i64 E1.n, .int .i64 E1.u, .string E1.rn, .int .i64 E1.ri, .slice a1 E1.args.length p1] _ HRa1.out Try.underlying26 rfl (by kernel_rfl) ?_) | (refine wpList_load_mid rfl 26 _ rfl wr.heap.size (19) rfl [.int .i64 E2.op, .int .i64 E2.n, .int .i64 E2.u, .string E2.rn, .int .i64 E2.ri, .slice a2 E2.args.length p2] _ HRa2.out Try.underlying26 rfl (by kernel_rfl) ?_) | (refine wpList_load_mid rfl 26 _ rfl wr.heap.size (25) rfl [.int .i64 E3.op, .int .i64 E3.n, .int .i64 E3.u, .string E3.rn, .int .i64 E3.ri, .slice a3 E3.args.length p3] _ HRa3.out Try.underlying26 rfl (by kernel_rfl) ?_) | (refine wpList_load_mid rfl 26 _ rfl wr.heap.size (31) rfl [.int .i64 E4.op, .int .i64 E4.n, .int .i64 E4.u, .string E4.rn, .int .i64 E4.ri, .slice a4 E4.args.length p4] _ HRa4.out Try.underlying26 rfl (by kernel_rfl) ?_) | (at_builtin; refine wpList_append_ex (w.heap.size + 1) rfl _ _ rfl u3 rows rfl HOd.out (wr.heap.size + 1) 5 5 [[.int .i64 E0.op, .int .i64 E0.n, .int .i64 E0.u, .string E0.rn, .int .i64 E0.ri, .slice a0 E0.args.length p0], [.int .i64 E1.op, .int .i64 E1.n, .int .i64 E1.u, .string E1.rn, .int .i64 E1.ri, .slice a1 E1.args.length p1], [.int .i64 E2.op, .int .i64 E2.n, .int .i64 E2.u, .string E2.rn, .int .i64 E2.ri, .slice a2 E2.args.length p2], [.int .i64 E3.op, .int .i64 E3.n, .int .i64 E3.u, .string E3.rn, .int .i64 E3.ri, .slice a3 E3.args.length p3], [.int .i64 E4.op, .int .i64 E4.n, .int .i64 E4.u, .string E4.rn, .int .i64 E4.ri, .slice a4 E4.args.length p4]] #[.int .i64 E0.op, .int .i64 E0.n, .int .i64 E0.u, .string E0.rn, .int .i64 E0.ri, .slice a0 E0.args.length p0, .int .i64 E1.op, .int .i64 E1.n, .int .i64 E1.u, .string E1.rn, .int .i64 E1.ri, .slice a1 E1.args.length p1, .int .i64 E2.op, .int .i64 E2.n, .int .i64 E2.u, .string E2.rn, .int .i64 E2.ri, .slice a2 E2.args.length p2, .int .i64 E3.op, .int .i64 E3.n, .int .i64 E3.u, .string E3.rn, .int .i64 E3.ri, .slice a3 E3.args.length p3, .int .i64 E4.op, .int .i64 E4.n, .int .i64 E4.u, .string E4.rn, .int .i64 E4.ri, .slice a4 E4.args.length p4] rfl rfl HNew.out rfl (by simp [Value.oneCell']) rfl HLen.out HBase.out ?_; intro ad5 n5 c5 w5 hown5 hg5; have HO5 := Lib.hid hown5; have HB5 := Lib.hid (below_ex HBd.out HBase.out HOd.out hg5); have HZ5 : Hid ((w.heap.size + 1) ≤ w5.heap.size) := Lib.hid (Nat.le_trans HBase.out hg5.size); have HG5 := Lib.hid hg5; clear hown5 hg5))
                          exact ⟨⟨i + 1, by omega, by push_cast; rfl, Lib.hid ⟨HB5.out, HZ5.out, _, HO5.out, by rw [HNext.out]; exact HAll.out.append ⟨HEx0.out, HEx1.out, HEx2.out, HEx3.out, HEx4.out, trivial⟩⟩⟩, by simp [intOf]; omega⟩
                        · obtain rfl : i = L.rights.n := by omega
                          have hki : decide ((L.rights.n : Int) < (L.rights.n : Int)) = false := by simp
                          have HLe : Hid (Lst (w.heap.size + 1) N w0 (top6 x ++ x.rights.flatMap right5) wr u3) := Lib.hid (by
                            have h := HL.out
                            rw [HLn.out.rights, List.take_length] at h
                            exact h)
                          go_wp2
                          obtain ⟨wf5, rfl⟩ : ∃ z : World, z = wr := ⟨_, rfl⟩
                          obtain ⟨vf5, rfl⟩ : ∃ z : Value, z = u3 := ⟨_, rfl⟩
                          have HL0 : Hid (Lst (w.heap.size + 1) N w0 (top7 x ++ (x.duties.take 0).flatMap (fun d => [d.due])) wf5 vf5) := Lib.hid (by
                            rw [List.take_zero, List.flatMap_nil, List.append_nil]; exact HLe.out)
                          clear hf hki HL HLe
                          go_loopw [3, 14] (fun v3 iv wr => ∃ i : Nat, i ≤ L.duties.n ∧ iv = .int .i64 i ∧ Hid (Lst (w.heap.size + 1) N w0 (top7 x ++ (x.duties.take i).flatMap (fun d => [d.due])) wr v3)) (fun _ iv _ => L.duties.n - (intOf iv).toNat)
                          case atStart => exact ⟨0, Nat.zero_le _, rfl, HL0⟩
                          case round =>
                            clear HL0
                            obtain ⟨i, hi, rfl, HL⟩ := hrel
                            have hf : wr.cell? ⟨w.heap.size, 25, none⟩ = some (.slice L.duties.a L.duties.n L.duties.c) := HHd.out wr HL.out.below 25 _ HCa.out.duties
                            have hn47 : L.duties.n ≤ 140737488355328 := HOk.out.duties.1
                            by_cases hlt : i < L.duties.n
                            · have hil : i < x.duties.length := by rw [← HLn.out.duties]; exact hlt
                              have hki : (i : Int) < (L.duties.n : Int) := by omega
                              obtain ⟨b, o, he, hNb, c, hra, hex⟩ := HTp.out.duties i hil
                              rw [he] at hf
                              have HNext : Hid (top7 x ++ (x.duties.take (i + 1)).flatMap (fun d => [d.due]) = (top7 x ++ (x.duties.take i).flatMap (fun d => [d.due])) ++ [x.duties[i].due]) := Lib.hid (by rw [flat_next hil, List.append_assoc])
                              have hle : (top7 x ++ (x.duties.take i).flatMap (fun d => [d.due])).length ≤ 20000 := by
                                have h1 := take_len (l := x.duties) (f := (fun d => [d.due])) (c := 1) (i := i) (fun _ _ => by simp)
                                have h2 := HTL.out.t7; have h3 := HFw.out.duties
                                rw [List.length_append]
                                skip
                                omega
                              generalize x.duties[i].due = E at hex HNext
                              have HEx := Lib.hid hex
                              obtain ⟨a', p', rfl, _⟩ := hex.cells
                              have HRa := Lib.hid (rangeAt_block hra ((HBl.out wr HL.out.below) b hNb))
                              obtain ⟨rows, hown, hall⟩ := HL.out.own
                              have HOwn := Lib.hid hown; have HAll := Lib.hid hall
                              have HLen : Hid (rows.length + 1 ≤ 1000000000) := Lib.hid (by rw [hall.length]; omega)
                              clear hra hex he hown hall hle hNb
                              have HWb : Hid (Below wr.heap.size wr (wr.alloc (.cells #[.int .i64 E.op, .int .i64 E.n, .int .i64 E.u, .string E.rn, .int .i64 E.ri, .slice a' E.args.length p'] 26))) := Lib.hid ((Below.refl _ _).alloc (Nat.le_refl _) _)
                              have HOd := Lib.hid (HOwn.out.up HWb.out)
                              have HBd := Lib.hid (HL.out.below.trans (HWb.out.mono HL.out.size))
                              have HNew : Hid ((wr.alloc (.cells #[.int .i64 E.op, .int .i64 E.n, .int .i64 E.u, .string E.rn, .int .i64 E.ri, .slice a' E.args.length p'] 26)).heap[wr.heap.size]? = some (.cells #[.int .i64 E.op, .int .i64 E.n, .int .i64 E.u, .string E.rn, .int .i64 E.ri, .slice a' E.args.length p'] 26 (0, 0))) := Lib.hid (by
                                have h := World.alloc_heap_new wr (.cells #[.int .i64 E.op, .int .i64 E.n, .int .i64 E.u, .string E.rn, .int .i64 E.ri, .slice a' E.args.length p'] 26)
                                exact h)
                              have HBase : Hid ((w.heap.size + 1) ≤ (wr.alloc (.cells #[.int .i64 E.op, .int .i64 E.n, .int .i64 E.u, .string E.rn, .int .i64 E.ri, .slice a' E.args.length p'] 26)).heap.size) := Lib.hid (Nat.le_trans HL.out.size HWb.out.size)
                              go_wp2_with (first | (refine wpList_load_mid rfl 26 _ rfl b (o + i * 11 + 5) rfl [.int .i64 E.op, .int .i64 E.n, .int .i64 E.u, .string E.rn, .int .i64 E.ri, .slice a' E.args.length p'] _ HRa.out Try.underlying26 rfl (by kernel_rfl) ?_) | (at_builtin; refine wpList_append_ex (w.heap.size + 1) rfl _ _ rfl u3 rows rfl HOd.out (wr.heap.size) 1 1 [[.int .i64 E.op, .int .i64 E.n, .int .i64 E.u, .string E.rn, .int .i64 E.ri, .slice a' E.args.length p']] #[.int .i64 E.op, .int .i64 E.n, .int .i64 E.u, .string E.rn, .int .i64 E.ri, .slice a' E.args.length p'] rfl rfl HNew.out rfl (by simp [Value.oneCell']) rfl HLen.out HBase.out ?_; intro ad5 n5 c5 w5 hown5 hg5; have HO5 := Lib.hid hown5; have HB5 := Lib.hid (below_ex HBd.out HBase.out HOd.out hg5); have HZ5 : Hid ((w.heap.size + 1) ≤ w5.heap.size) := Lib.hid (Nat.le_trans HBase.out hg5.size); have HG5 := Lib.hid hg5; clear hown5 hg5))
                              exact ⟨⟨i + 1, by omega, by push_cast; rfl, Lib.hid ⟨HB5.out, HZ5.out, _, HO5.out, by rw [HNext.out]; exact HAll.out.append ⟨HEx.out, trivial⟩⟩⟩, by simp [intOf]; omega⟩
                            · obtain rfl : i = L.duties.n := by omega
                              have hki : decide ((L.duties.n : Int) < (L.duties.n : Int)) = false := by simp
                              have HLe : Hid (Lst (w.heap.size + 1) N w0 (top7 x ++ x.duties.flatMap (fun d => [d.due])) wr u3) := Lib.hid (by
                                have h := HL.out
                                rw [HLn.out.duties, List.take_length] at h
                                exact h)
                              go_wp2
                              go_ret
                              refine ⟨_, rfl, ⟨HB0.out.trans (HLe.out.below.mono (by have := HZ0.out; omega)), by have := HLe.out.size; omega, ?_⟩⟩
                              obtain ⟨rows, hown, hall⟩ := HLe.out.own
                              exact ⟨rows, ownEx_low hown (by omega), All2.mono (fun cs e hE => hE.same (fun _ h => h) (fun b hb => (HB0.out.block b (HNw.out b hb)).symm)) hall⟩


end Go.Proofs.Ytapejaabhkfhjaa

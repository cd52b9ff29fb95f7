/- Texts Ud Ue in one: each says what it proves. -/
import Derived.Test.YtapejaabhkfhjaaMUb
/- The law's examples lie in memory as plain data. -/
namespace Go.Proofs.Ytapejaabhkfhjaa
open Go.RowKit

theorem range_sub {w : World} {g : Nat} {row : Array Value} {ty : TypeId} (hg : w.heap[g]? = some (.cells row ty (0, 0))) (o : Nat) {cs : List Value} (h : (row.toList.drop o).take cs.length = cs) : w.rangeAt g o cs := fun j v hv => by
  have hj := (List.getElem?_eq_some_iff.1 hv).1
  rw [← h, List.getElem?_take, if_pos hj, List.getElem?_drop] at hv
  simp only [World.cell?, hg]
  simpa using hv
def exC (op n u : Int) (rn : ByteArray) (ri : Int) : List Value := [.int .i64 op, .int .i64 n, .int .i64 u, .string rn, .int .i64 ri, .slice none 0 0]
section
variable {N : Nat → Prop} {w : World}
theorem ev_flat (op n u : Int) (rn : ByteArray) (ri : Int) (h : rn.size ≤ maxLen) : ExV N w (.mk op n u rn ri []) (exC op n u rn ri) := by
  rw [ExV]; exact ⟨none, 0, rfl, by simp, h, by rw [RowV]; trivial⟩
theorem ev_z : ExV N w exZ (exC 0 0 0 bN 0) := ev_flat 0 0 0 bN 0 (of_decide_eq_true (by kernel_rfl))
theorem mx (s : ByteArray) (h : s.size ≤ 1000) : s.size ≤ maxLen := Nat.le_trans h (by unfold maxLen; omega)
theorem row_nil {α : Type} {sz : Nat} {P : List Value → α → Prop} : IsRow N w sz P ⟨none, 0, 0⟩ [] := ⟨rfl, by simp, fun i hi => absurd hi (by simp)⟩
end
/- a source without rows but crops -/
def emptyL (c : Hdr) : Lay := { s := 0, lets := ⟨none, 0, 0⟩, crops := c, reaches := ⟨none, 0, 0⟩, farms := ⟨none, 0, 0⟩, rots := ⟨none, 0, 0⟩, rights := ⟨none, 0, 0⟩, duties := ⟨none, 0, 0⟩, turns := [] }
def emptyCs (nm : ByteArray) (c : Hdr) : List Value := .string nm :: (exC 0 0 0 bN 0 ++ (exC 0 0 0 bN 0 ++ (exC 0 0 0 bN 0 ++ [.slice none 0 0, c.v, .slice none 0 0, .slice none 0 0, .slice none 0 0, .slice none 0 0, .slice none 0 0])))
theorem empty_src {N : Nat → Prop} {w : World} {nm : ByteArray} {c : Hdr} {l : List CropD} (hn : nm.size ≤ 1000) (hr : IsRow N w 7 (CropV N w) c l) : SrcV N w (emptyL c) (emptyCs nm c) (emptyX nm l) :=
  ⟨mx _ hn, ⟨_, _, _, rfl, ev_z, ev_z, ev_z⟩, row_nil, hr, row_nil, row_nil, ⟨rfl, Nat.zero_le _, fun i hi => absurd hi (by simp [emptyX])⟩, row_nil, row_nil⟩
set_option maxRecDepth 100000 in
theorem small_src {B : Nat} {w : World} {cells : Array Value} (h : smallP B 37 (.agg cells) w) : ∃ (L : Lay) (cs : List Value), cells = cs.toArray ∧ SrcV (fun b => B < b ∧ b < w.heap.size) w L cs smallX := by
  unfold smallP at h
  simp only at h
  obtain ⟨g14, g17, g20, g24, g30, g34, g36, g40, g44, h0, b14, b17, b20, b24, b30, b34, b36, b40, b44⟩ := h
  have hN : ∀ {g : Nat} {row : Array Value} {ty : TypeId}, Bk B w g row ty → B < g ∧ g < w.heap.size := fun h => ⟨h.1, (Array.getElem?_eq_some_iff.1 h.2).1⟩
  have z : ∀ {N : Nat → Prop}, ExV N w exZ (exC 0 0 0 bN 0) := ev_z
  refine ⟨⟨0, ⟨some ⟨g17, 0, none⟩, 2, 2⟩, ⟨some ⟨g20, 0, none⟩, 2, 2⟩, ⟨some ⟨g24, 0, none⟩, 2, 2⟩, ⟨some ⟨g30, 0, none⟩, 2, 2⟩, ⟨some ⟨g36, 0, none⟩, 1, 1⟩, ⟨some ⟨g40, 0, none⟩, 1, 1⟩, ⟨some ⟨g44, 0, none⟩, 1, 1⟩, [⟨some ⟨g34, 0, none⟩, 1, 1⟩]⟩,
    .string bVega :: (exC 1 2 4 bN 0 ++ (exC 0 0 0 bN 0 ++ (exC 0 0 0 bN 0 ++ [.slice (some ⟨g17, 0, none⟩) 2 2, .slice (some ⟨g20, 0, none⟩) 2 2, .slice (some ⟨g24, 0, none⟩) 2 2, .slice (some ⟨g30, 0, none⟩) 2 2, .slice (some ⟨g36, 0, none⟩) 1 1, .slice (some ⟨g40, 0, none⟩) 1 1, .slice (some ⟨g44, 0, none⟩) 1 1]))), ?_, ?_⟩
  · cases h0; rfl
  clear h0
  refine ⟨mx _ (of_decide_eq_true rfl), ⟨exC 1 2 4 bN 0, exC 0 0 0 bN 0, exC 0 0 0 bN 0, rfl, ev_flat 1 2 4 bN 0 (mx _ (of_decide_eq_true rfl)), z, z⟩, ⟨rfl, by simp [smallX], fun i hi => ?_⟩, ⟨rfl, by simp [smallX], fun i hi => ?_⟩, ⟨rfl, by simp [smallX], fun i hi => ?_⟩, ⟨rfl, by simp [smallX], fun i hi => ?_⟩, ⟨rfl, by simp [smallX], fun i hi => ?_⟩, ⟨rfl, by simp [smallX], fun i hi => ?_⟩, ⟨rfl, by simp [smallX], fun i hi => ?_⟩⟩
  · match i, hi with
    | 0, _ => exact ⟨g17, 0, .string bT :: exC 1 3 1 bN 0, rfl, hN b17, rfl, range_sub b17.2 _ rfl, mx _ (of_decide_eq_true rfl), _, rfl, ev_flat 1 3 1 bN 0 (mx _ (of_decide_eq_true rfl))⟩
    | 1, _ =>
      refine ⟨g17, 0, .string bU :: [.int .i64 3, .int .i64 0, .int .i64 0, .string bN, .int .i64 0, .slice (some ⟨g14, 0, none⟩) 2 2], rfl, hN b17, rfl, range_sub b17.2 _ rfl, mx _ (of_decide_eq_true rfl), _, rfl, ?_⟩
      show ExV _ w (.mk 3 0 0 bN 0 [letE bT, numE 1 1]) _
      rw [ExV]
      refine ⟨some ⟨g14, 0, none⟩, 2, rfl, by simp, mx _ (of_decide_eq_true rfl), ?_⟩
      rw [RowV, RowV, RowV]
      exact ⟨⟨g14, 0, exC 2 0 0 bT 0, rfl, hN b14, range_sub b14.2 _ rfl, ev_flat 2 0 0 bT 0 (mx _ (of_decide_eq_true rfl))⟩, ⟨g14, 0, exC 1 1 1 bN 0, rfl, hN b14, range_sub b14.2 _ rfl, ev_flat 1 1 1 bN 0 (mx _ (of_decide_eq_true rfl))⟩, trivial⟩
  · match i, hi with
    | 0, _ => exact ⟨g20, 0, .string bCorn :: exC 0 0 0 bN 0, rfl, hN b20, rfl, range_sub b20.2 _ rfl, mx _ (of_decide_eq_true rfl), _, rfl, z⟩
    | 1, _ => exact ⟨g20, 0, .string bRice :: exC 0 0 0 bN 0, rfl, hN b20, rfl, range_sub b20.2 _ rfl, mx _ (of_decide_eq_true rfl), _, rfl, z⟩
  · match i, hi with
    | 0, _ => exact ⟨g24, 0, .string bHead :: (rfV ⟨bN, 0⟩ ++ (exC 1 1 3 bN 0 ++ (exC 2 0 0 bU 0 ++ (exC 0 0 0 bN 0 ++ (exC 0 0 0 bN 0 ++ (exC 0 0 0 bN 0 ++ (exC 0 0 0 bN 0 ++ (exC 0 0 0 bN 0 ++ exC 0 0 0 bN 0)))))))), rfl, hN b24, rfl, range_sub b24.2 _ rfl, mx _ (of_decide_eq_true rfl), mx _ (of_decide_eq_true rfl), _, _, _, _, _, _, _, _, rfl, ev_flat 1 1 3 bN 0 (mx _ (of_decide_eq_true rfl)), ev_flat 2 0 0 bU 0 (mx _ (of_decide_eq_true rfl)), z, z, z, z, z, z⟩
    | 1, _ => exact ⟨g24, 0, .string bTail :: (rfV ⟨bHead, 0⟩ ++ (exC 0 0 0 bN 0 ++ (exC 0 0 0 bN 0 ++ (exC 0 0 0 bN 0 ++ (exC 0 0 0 bN 0 ++ (exC 0 0 0 bN 0 ++ (exC 0 0 0 bN 0 ++ (exC 0 0 0 bN 0 ++ exC 0 0 0 bN 0)))))))), rfl, hN b24, rfl, range_sub b24.2 _ rfl, mx _ (of_decide_eq_true rfl), mx _ (of_decide_eq_true rfl), _, _, _, _, _, _, _, _, rfl, z, z, z, z, z, z, z, z⟩
  · match i, hi with
    | 0, _ => exact ⟨g30, 0, .string bAna :: (rfV ⟨bTail, 0⟩ ++ (.bool false :: (exC 0 0 0 bN 0 ++ rfV ⟨bRice, 0⟩))), rfl, hN b30, rfl, range_sub b30.2 _ rfl, mx _ (of_decide_eq_true rfl), mx _ (of_decide_eq_true rfl), mx _ (of_decide_eq_true rfl), _, rfl, z⟩
    | 1, _ => exact ⟨g30, 0, .string bBea :: (rfV ⟨bHead, 0⟩ ++ (.bool true :: (exC 0 0 0 bN 0 ++ rfV ⟨bN, 0⟩))), rfl, hN b30, rfl, range_sub b30.2 _ rfl, mx _ (of_decide_eq_true rfl), mx _ (of_decide_eq_true rfl), mx _ (of_decide_eq_true rfl), _, rfl, z⟩
  · match i, hi with
    | 0, _ =>
      refine ⟨g36, 0, .string bTurns :: (rfV ⟨bTail, 0⟩ ++ (.int .i64 0 :: (exC 0 0 0 bN 0 ++ (exC 0 0 0 bN 0 ++ (exC 0 0 0 bN 0 ++ [.slice (some ⟨g34, 0, none⟩) 1 1]))))), rfl, hN b36, rfl, range_sub b36.2 _ rfl, mx _ (of_decide_eq_true rfl), mx _ (of_decide_eq_true rfl), _, _, _, rfl, z, z, z, rfl, by simp [smallX], fun k hk => ?_⟩
      match k, hk with
      | 0, _ => exact ⟨g34, 0, rfV ⟨bAna, 0⟩ ++ exC 0 0 0 bN 0, rfl, hN b34, rfl, range_sub b34.2 _ rfl, mx _ (of_decide_eq_true rfl), _, rfl, z⟩
  · match i, hi with
    | 0, _ => exact ⟨g40, 0, .int .i64 2 :: .string bMine :: (rfV ⟨bBea, 0⟩ ++ (rfV ⟨bTail, 0⟩ ++ (.int .i64 0 :: (exC 0 0 0 bN 0 ++ (exC 0 0 0 bN 0 ++ (exC 0 0 0 bN 0 ++ (exC 0 0 0 bN 0 ++ exC 0 0 0 bN 0))))))), rfl, hN b40, rfl, range_sub b40.2 _ rfl, mx _ (of_decide_eq_true rfl), mx _ (of_decide_eq_true rfl), mx _ (of_decide_eq_true rfl), _, _, _, _, _, rfl, z, z, z, z, z⟩
  · match i, hi with
    | 0, _ => exact ⟨g44, 0, .string bClean :: (rfV ⟨bBea, 0⟩ ++ (rfV ⟨bTail, 0⟩ ++ exC 0 0 0 bN 0)), rfl, hN b44, rfl, range_sub b44.2 _ rfl, mx _ (of_decide_eq_true rfl), mx _ (of_decide_eq_true rfl), mx _ (of_decide_eq_true rfl), _, rfl, z⟩

end Go.Proofs.Ytapejaabhkfhjaa

/- The resolved example lies in memory. -/
namespace Go.Proofs.Ytapejaabhkfhjaa
open Go.RowKit

def smallR : Src :=
  { name := bVega, season := numE 2 4, cap := exZ, start := exZ, lets := [⟨bT, numE 3 1⟩, ⟨bU, .mk 3 0 0 bN 0 [letE bT, numE 1 1]⟩], crops := [⟨bCorn, exZ⟩, ⟨bRice, exZ⟩],
    reaches := [⟨bHead, ⟨bN, 0⟩, numE 1 3, .mk 2 0 0 bU 1 [], exZ, exZ, exZ, exZ, exZ, exZ⟩, ⟨bTail, ⟨bHead, 0⟩, exZ, exZ, exZ, exZ, exZ, exZ, exZ, exZ⟩],
    farms := [⟨bAna, ⟨bTail, 1⟩, false, exZ, ⟨bRice, 1⟩⟩, ⟨bBea, ⟨bHead, 0⟩, true, exZ, ⟨bN, 0⟩⟩], rots := [⟨bTurns, ⟨bTail, 1⟩, 0, exZ, exZ, exZ, [⟨⟨bAna, 0⟩, exZ⟩]⟩],
    rights := [⟨2, bMine, ⟨bBea, 1⟩, ⟨bTail, 1⟩, 0, exZ, exZ, exZ, exZ, exZ⟩], duties := [⟨bClean, ⟨bBea, 1⟩, ⟨bTail, 1⟩, exZ⟩] }
theorem res_small : resolved smallX = smallR := by kernel_rfl
structure SmFacts (w : World) (B : Nat) (b1 o1 c1 b2 o2 c2 b3 o3 c3 b4 o4 c4 b5 o5 c5 b6 o6 c6 b7 o7 c7 b8 o8 c8 : Nat) : Prop where
  lets : w.cell? ⟨B, 19, none⟩ = some (.slice (some ⟨b1, o1, none⟩) 2 c1)
  args : w.cell? ⟨b1, o1 + 7 + 1 + 5, none⟩ = some (.slice (some ⟨b2, o2, none⟩) 2 c2)
  arg0 : w.cell? ⟨b2, o2 + 3 + 1, none⟩ = some (.int .i64 0)
  reaches : w.cell? ⟨B, 21, none⟩ = some (.slice (some ⟨b3, o3, none⟩) 2 c3)
  cap : w.cell? ⟨b3, o3 + 9 + 3 + 1, none⟩ = some (.int .i64 1)
  farms : w.cell? ⟨B, 22, none⟩ = some (.slice (some ⟨b4, o4, none⟩) 2 c4)
  on0 : w.cell? ⟨b4, o4 + 1 + 1, none⟩ = some (.int .i64 1)
  crop0 : w.cell? ⟨b4, o4 + 10 + 1, none⟩ = some (.int .i64 1)
  on1 : w.cell? ⟨b4, o4 + 12 + 1 + 1, none⟩ = some (.int .i64 0)
  rots : w.cell? ⟨B, 23, none⟩ = some (.slice (some ⟨b5, o5, none⟩) 1 c5)
  turns : w.cell? ⟨b5, o5 + 22, none⟩ = some (.slice (some ⟨b6, o6, none⟩) 1 c6)
  turn0 : w.cell? ⟨b6, o6 + 1, none⟩ = some (.int .i64 0)
  rights : w.cell? ⟨B, 24, none⟩ = some (.slice (some ⟨b7, o7, none⟩) 1 c7)
  right0 : w.cell? ⟨b7, o7 + 2 + 1, none⟩ = some (.int .i64 1)
  duties : w.cell? ⟨B, 25, none⟩ = some (.slice (some ⟨b8, o8, none⟩) 1 c8)
  duty0 : w.cell? ⟨b8, o8 + 3 + 1, none⟩ = some (.int .i64 1)
set_option maxRecDepth 100000 in
theorem small_facts {N : Nat → Prop} {w : World} {L : Lay} {cs : List Value} {B : Nat} (h : SrcV N w L cs smallR) (hr : w.rangeAt B 0 cs) : ∃ b1 o1 c1 b2 o2 c2 b3 o3 c3 b4 o4 c4 b5 o5 c5 b6 o6 c6 b7 o7 c7 b8 o8 c8 : Nat, SmFacts w B b1 o1 c1 b2 o2 c2 b3 o3 c3 b4 o4 c4 b5 o5 c5 b6 o6 c6 b7 o7 c7 b8 o8 c8 := by
  have hc := h.at
  have hat : ∀ {q : Nat} {v : Value}, cs[q]? = some v → w.cell? ⟨B, q, none⟩ = some v := fun {q v} hq => by have := hr q v hq; rwa [Nat.zero_add] at this
  obtain ⟨n1, _, r1⟩ := h.lets
  obtain ⟨n3, _, r3⟩ := h.reaches
  obtain ⟨n4, _, r4⟩ := h.farms
  obtain ⟨n5, _, r5⟩ := h.rots
  obtain ⟨n7, _, r7⟩ := h.rights
  obtain ⟨n8, _, r8⟩ := h.duties
  have k1 := hat hc.lets; have k3 := hat hc.reaches; have k4 := hat hc.farms; have k5 := hat hc.rots; have k7 := hat hc.rights; have k8 := hat hc.duties
  unfold Hdr.v at k1 k3 k4 k5 k7 k8
  obtain ⟨b1, o1, q1, e1, _, _, g1, _, t1, rfl, v1⟩ := r1 1 (show 1 < 2 by omega)
  have v1 : ExV N w (.mk 3 0 0 bN 0 [letE bT, numE 1 1]) t1 := v1
  rw [ExV] at v1
  obtain ⟨a2, c2, rfl, _, _, v2⟩ := v1
  rw [RowV] at v2
  obtain ⟨⟨b2, o2, q2, rfl, _, g2, v2⟩, _⟩ := v2
  have v2 : ExV N w (.mk 2 0 0 bT 0 []) q2 := v2
  rw [ExV] at v2
  obtain ⟨_, _, rfl, _⟩ := v2
  obtain ⟨b3, o3, q3, e3, _, _, g3, _, _, x0, x1, x2, x3, x4, x5, x6, x7, rfl, y0, y1, _⟩ := r3 0 (show 0 < 2 by omega)
  have y0 : ExV N w (.mk 1 1 3 bN 0 []) x0 := y0
  have y1 : ExV N w (.mk 2 0 0 bU 1 []) x1 := y1
  rw [ExV] at y0 y1
  obtain ⟨_, _, rfl, _⟩ := y0
  obtain ⟨_, _, rfl, _⟩ := y1
  obtain ⟨b4, o4, q4, e4, _, _, g4, _, _, _, x8, rfl, y8⟩ := r4 0 (show 0 < 2 by omega)
  have y8 : ExV N w (.mk 0 0 0 bN 0 []) x8 := y8
  rw [ExV] at y8
  obtain ⟨_, _, rfl, _⟩ := y8
  obtain ⟨b4', o4', q4', e4', _, _, g4', _, _, _, x9, rfl, _⟩ := r4 1 (show 1 < 2 by omega)
  rw [e4] at e4'
  cases e4'
  obtain ⟨b5, o5, q5, e5, _, _, g5, _, _, z0, z1, z2, rfl, w0, w1, w2, n6, _, r6⟩ := r5 0 (show 0 < 1 by omega)
  have l0 := w0.len; have l1 := w1.len; have l2 := w2.len
  obtain ⟨b6, o6, q6, e6, _, _, g6, _, z3, rfl, _⟩ := r6 0 (show 0 < 1 by omega)
  obtain ⟨b7, o7, q7, e7, _, _, g7, _, _, _, _, _, _, _, _, rfl, _⟩ := r7 0 (show 0 < 1 by omega)
  obtain ⟨b8, o8, q8, e8, _, _, g8, _, _, _, _, rfl, _⟩ := r8 0 (show 0 < 1 by omega)
  rw [n1, e1] at k1; rw [n3, e3] at k3; rw [n4, e4] at k4; rw [n5, e5] at k5; rw [n7, e7] at k7; rw [n8, e8] at k8
  simp only [Nat.zero_mul, Nat.add_zero, Nat.one_mul] at g1 g2 g3 g4 g4' g5 g6 g7 g8
  have ht := range_mid (p := .string (smallR.rots[0]'(show 0 < 1 by omega)).name :: (rfV (smallR.rots[0]'(show 0 < 1 by omega)).on ++ (.int .i64 (smallR.rots[0]'(show 0 < 1 by omega)).rank :: (z0 ++ (z1 ++ z2))))) (c := [(turnsOf L 0).v]) (q := []) (o := o5) (b := b5) (w := w) (by simpa using g5)
  have hl : (Value.string (smallR.rots[0]'(show 0 < 1 by omega)).name :: (rfV (smallR.rots[0]'(show 0 < 1 by omega)).on ++ (.int .i64 (smallR.rots[0]'(show 0 < 1 by omega)).rank :: (z0 ++ (z1 ++ z2))))).length = 22 := by simp [rfV_len, l0, l1, l2]
  rw [hl] at ht
  have kt := ht 0 _ rfl
  unfold Hdr.v at kt
  rw [n6, e6] at kt
  exact ⟨b1, o1, _, b2, o2, c2, b3, o3, _, b4, o4, _, b5, o5, _, b6, o6, _, b7, o7, _, b8, o8, _, k1, g1 6 _ rfl, g2 4 _ rfl, k3, g3 13 _ rfl, k4, g4 2 _ rfl, g4 11 _ rfl, g4' 2 _ rfl, k5, kt, g6 1 _ rfl, k7, g7 3 _ rfl, k8, g8 4 _ rfl⟩

end Go.Proofs.Ytapejaabhkfhjaa

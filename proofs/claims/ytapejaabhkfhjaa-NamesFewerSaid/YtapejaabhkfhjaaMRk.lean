/- Texts Rk Rm in one: each says what it proves. -/
import Derived.Test.YtapejaabhkfhjaaMRf
/- Resolve: before the copy is made, and when it lies in the result's variable. -/
namespace Go.Proofs.Ytapejaabhkfhjaa
open Go.RowKit

/- before the copy is made -/
structure RPre (w : World) (x : Src) (L : Lay) (cs : List Value) (N : Nat → Prop) (V : World) : Prop where
  amid : Amid w V
  par : V.heap[w.heap.size]? = some (.cells cs.toArray 35 (0, 0))
  src : SrcV N w L cs x
  hN : ∀ b, N b → b < w.heap.size
  slim : Slim x
section
variable {w V V' w' : World} {x : Src} {L L0 : Lay} {cs cs0 : List Value} {N : Nat → Prop}
theorem RPre.up (h : RPre w x L cs N V) (hb : Below (w.heap.size + 3) V V') : RPre w x L cs N V' :=
  ⟨h.amid.up hb, (hb.block _ (by omega)).trans h.par, h.src, h.hN, h.slim⟩
theorem RPre.size (h : RPre w x L cs N V) : w.heap.size + 3 ≤ V.heap.size := by
  obtain ⟨v, he⟩ := h.amid.e
  have := (Array.getElem?_eq_some_iff.1 he).1
  omega
theorem RPre.at (h : RPre w x L cs N V) : SrcV (fun b => b < V.heap.size) V L cs x := by
  have hz := h.size
  exact h.src.same (fun b hb => by have := h.hN b hb; omega) (fun b hb => h.amid.below.block b (h.hN b hb))
theorem RPre.len (h : RPre w x L cs N V) : cs.length = 26 := by
  obtain ⟨c0, c1, c2, rfl, g0, g1, g2⟩ := h.src.cells
  obtain ⟨a0, p0, rfl, e0⟩ := g0.cells
  obtain ⟨a1, p1, rfl, e1⟩ := g1.cells
  obtain ⟨a2, p2, rfl, e2⟩ := g2.cells
  rfl
theorem RPre.range (h : RPre w x L cs N V) : V.rangeAt w.heap.size 0 cs := by
  have := World.rangeAt_of_block h.par 0 cs.length
  simpa using this
theorem setRow_other (W : World) {b c : Nat} (row : Array Value) (h : c ≠ b) : (W.setRow b row).heap[c]? = W.heap[c]? := by
  simp only [World.setRow, Array.getElem?_modify, if_neg (Ne.symm h)]
theorem setRow_size (W : World) (b : Nat) (row : Array Value) : (W.setRow b row).heap.size = W.heap.size := by simp [World.setRow]
def fnBox : Obj := .cells #[.func (.func 49) #[] #[]] 100
def ptBox (b : Nat) : Obj := .cells #[.pointer (some ⟨b, 0, none⟩)] 52
theorem ctx_mk (h : RPre w x L0 cs0 N V) {bl bc br bf : Nat} (h1 : MapBox V bl (x.lets.map (·.name))) (h2 : MapBox V bc (x.crops.map (·.name))) (h3 : MapBox V br (x.reaches.map (·.name))) (h4 : MapBox V bf (x.farms.map (·.name)))
    (hf : fitsAll x = true) (hw : wrongS x = if reachOk (Tb.of x) x && usesOk (Tb.of x) x then 0 else 170)
    (h26 : cs.length = 26) (hb : Below V.heap.size V w') (hs : L.s = V.heap.size) (hr : w'.rangeAt L.s 0 cs) (hp : PSrc (fun g => V.heap.size ≤ g ∧ g ≠ V.heap.size + 1) (ET (fun g => V.heap.size + 2 ≤ g) w') (RV w') w' L x) :
    RCtx w x (((w'.setRow (w.heap.size + 1) cs.toArray).alloc fnBox).alloc (ptBox (w.heap.size + 1))) { L with s := w.heap.size + 1 } (fun g => (V.heap.size ≤ g ∧ g ≠ V.heap.size + 1 ∧ g < w'.heap.size) ∨ g = w.heap.size + 1) (fun g => V.heap.size + 2 ≤ g ∧ g < w'.heap.size) bl bc br bf w'.heap.size (w'.heap.size + 1) := by
  have hz := h.size
  have hz2 := hb.size
  obtain ⟨row, hrow, hx0⟩ := h.amid.x
  obtain ⟨ve, he0⟩ := h.amid.e
  have hx : w'.heap[w.heap.size + 1]? = some (.cells row 35 (0, 0)) := (hb.block _ (by omega)).trans hx0
  generalize hW : ((w'.setRow (w.heap.size + 1) cs.toArray).alloc fnBox).alloc (ptBox (w.heap.size + 1)) = W5
  have hsz1 : (w'.setRow (w.heap.size + 1) cs.toArray).heap.size = w'.heap.size := setRow_size _ _ _
  have hsz : W5.heap.size = w'.heap.size + 2 := by rw [← hW]; simp [hsz1]
  have k1 : ∀ b, b < w'.heap.size → b ≠ w.heap.size + 1 → W5.heap[b]? = w'.heap[b]? := fun b hlt hne => by
    rw [← hW, Below.heap_alloc _ _ _ (by simp [hsz1]; omega), Below.heap_alloc _ _ _ (by rw [hsz1]; omega), setRow_other _ _ hne]
  have k2 : W5.heap[w.heap.size + 1]? = some (.cells cs.toArray 35 (0, 0)) := by
    rw [← hW, Below.heap_alloc _ _ _ (by simp [hsz1]; omega), Below.heap_alloc _ _ _ (by rw [hsz1]; omega)]
    exact setRow_heap _ _ _ _ _ _ hx
  have k3 : W5.heap[w'.heap.size]? = some fnBox := by
    rw [← hW, Below.heap_alloc _ _ _ (by simp [hsz1])]
    have := World.alloc_heap_new (w'.setRow (w.heap.size + 1) cs.toArray) fnBox
    rwa [hsz1] at this
  have k4 : W5.heap[w'.heap.size + 1]? = some (ptBox (w.heap.size + 1)) := by
    rw [← hW]
    have := World.alloc_heap_new ((w'.setRow (w.heap.size + 1) cs.toArray).alloc fnBox) (ptBox (w.heap.size + 1))
    have hs2 : ((w'.setRow (w.heap.size + 1) cs.toArray).alloc fnBox).heap.size = w'.heap.size + 1 := by simp [hsz1]
    rwa [hs2] at this
  have k5 : W5.os = w'.os ∧ W5.tape = w'.tape ∧ W5.output = w'.output := by rw [← hW]; exact ⟨rfl, rfl, rfl⟩
  clear hW hsz1
  have hbel : Below w.heap.size w W5 := by
    have h0 := h.amid.below.trans (hb.mono (by omega))
    exact ⟨k5.1.trans h0.os, k5.2.1.trans h0.tape, k5.2.2.trans h0.output, by omega, fun b hlt => (k1 b (by omega) (by omega)).trans (h0.block b hlt)⟩
  have hmap : ∀ (c : Nat) (o : Obj), V.heap[c]? = some o → (∀ row : Array Value, o ≠ Obj.cells row 35 (0, 0)) → W5.heap[c]? = V.heap[c]? := fun c o hc ho => by
    have hlt := (Array.getElem?_eq_some_iff.1 hc).1
    have hne : c ≠ w.heap.size + 1 := fun e => by
      rw [e, hx0] at hc
      exact ho row (Option.some.inj hc).symm
    rw [k1 c (by omega) hne, hb.block c hlt]
  have hcell : ∀ q, q < 26 → W5.cell? ⟨w.heap.size + 1, q, none⟩ = W5.cell? ⟨L.s, q, none⟩ := fun q hq => by
    have e1 : W5.cell? ⟨L.s, q, none⟩ = w'.cell? ⟨L.s, q, none⟩ := cell_of_block (k1 _ hp.ty.lt (by omega))
    have e2 := hr q cs[q] (List.getElem?_eq_getElem (by omega))
    rw [Nat.zero_add] at e2
    rw [e1, e2]
    simp [World.cell?, k2, h26, hq]
  refine ⟨⟨hbel, ⟨_, by simp [h26], k2⟩, ⟨ve, (k1 _ (by omega) (by omega)).trans ((hb.block _ (by omega)).trans he0)⟩⟩, h1.same hmap, h2.same hmap, h3.same hmap, h4.same hmap, k3, k4, ?_, fun g hg => ?_, fun g hg => ?_, .inr rfl, rfl, hf, hw⟩
  · have p1 : PSrc (fun g => V.heap.size ≤ g ∧ g ≠ V.heap.size + 1 ∧ g < w'.heap.size) (ET (fun g => V.heap.size + 2 ≤ g) w') (RV w') w' L x := hp.ren fun g t hg ht _ _ => ⟨hg.1, hg.2, ht.lt⟩
    have hk : ∀ b, (V.heap.size ≤ b ∧ b ≠ V.heap.size + 1 ∧ b < w'.heap.size) ∨ b = L.s → W5.heap[b]? = w'.heap[b]? := fun b hb' => by
      rcases hb' with hb' | rfl
      · exact k1 b hb'.2.2 (by omega)
      · exact k1 _ hp.ty.lt (by omega)
    have p2 : PSrc (fun g => V.heap.size ≤ g ∧ g ≠ V.heap.size + 1 ∧ g < w'.heap.size) (ET (fun g => V.heap.size + 2 ≤ g ∧ g < w'.heap.size) W5) (RV W5) W5 L x := by
      refine p1.imp (fun b t hb' ht => ht.same (hk b hb')) (fun b o hb' _ => cell_of_block (hk b hb')) (fun lt e b o hb' _ hE => ?_) (fun to r b o hb' _ hR => ⟨hR.1, (cell_of_block (hk b hb')).trans hR.2.1, (cell_of_block (hk b hb')).trans hR.2.2⟩)
      obtain ⟨c, c1, c2⟩ := hE
      exact ⟨c, rangeAt_block c1 (hk b hb'), c2.same (fun g hg hlt => ⟨hg, hlt⟩) (fun g hg hlt => k1 g hlt (by omega))⟩
    exact (p2.moved ⟨_, k2⟩ hcell (fun lt e o ho hE => et_moved hcell lt e o ho hE)).ren fun g t hg _ _ _ => .inl hg
  · rcases hg with hg | rfl
    · exact ⟨by omega, by omega⟩
    · exact ⟨by omega, by omega⟩
  · exact ⟨by omega, by omega⟩
end

end Go.Proofs.Ytapejaabhkfhjaa

/- Resolve: the parameter's names; a slice of names of its own. -/
namespace Go.Proofs.Ytapejaabhkfhjaa
open Go.RowKit

theorem nm_row {α : Type} {w : World} {sz j : Nat} {f : α → ByteArray} {h : Hdr} {l : List α} (h1 : h.n = l.length) (h2 : l.length ≤ 140737488355328)
    (h3 : ∀ i (hi : i < l.length), ∃ b o cs, h.a = some ⟨b, o, none⟩ ∧ b < w.heap.size ∧ cs.length = sz ∧ w.rangeAt b (o + i * sz) cs ∧ (∀ v ∈ cs, v.oneCell' = true) ∧ cs[j]? = some (.string (f l[i])) ∧ (f l[i]).size ≤ maxLen) : NmRow w h sz j (l.map f) := by
  refine ⟨by rw [List.length_map]; exact h1, by rw [List.length_map]; exact h2, fun i hi => ?_⟩
  have hi' : i < l.length := by simpa using hi
  obtain ⟨b, o, cs, k1, k2, k3, k4, k5, k6, k7⟩ := h3 i hi'
  rw [List.getElem_map]
  exact ⟨b, o, cs, k1, k2, k3, k4, k5, k6, k7⟩
theorem nm_is {α : Type} {N : Nat → Prop} {w : World} {sz j : Nat} {P : List Value → α → Prop} {f : α → ByteArray} {h : Hdr} {l : List α} (hr : IsRow N w sz P h l) (hN : ∀ b, N b → b < w.heap.size)
    (hP : ∀ cs d, P cs d → (∀ v ∈ cs, v.oneCell' = true) ∧ cs[j]? = some (.string (f d)) ∧ (f d).size ≤ maxLen) : NmRow w h sz j (l.map f) := by
  obtain ⟨h1, h2, h3⟩ := hr
  refine nm_row h1 h2 fun i hi => ?_
  obtain ⟨b, o, cs, k1, k2, k3, k4, k5⟩ := h3 i hi
  obtain ⟨q1, q2, q3⟩ := hP _ _ k5
  exact ⟨b, o, cs, k1, hN b k2, k3, k4, q1, q2, q3⟩
structure NmAll (w : World) (L : Lay) (x : Src) : Prop where
  lets : NmRow w L.lets 7 0 (x.lets.map (·.name))
  crops : NmRow w L.crops 7 0 (x.crops.map (·.name))
  reaches : NmRow w L.reaches 51 0 (x.reaches.map (·.name))
  farms : NmRow w L.farms 12 0 (x.farms.map (·.name))
  rots : NmRow w L.rots 23 0 (x.rots.map (·.name))
  rights : NmRow w L.rights 37 1 (x.rights.map (·.name))
  duties : NmRow w L.duties 11 0 (x.duties.map (·.name))
theorem SrcV.nms {N : Nat → Prop} {w : World} {L : Lay} {cs : List Value} {x : Src} (h : SrcV N w L cs x) (hN : ∀ b, N b → b < w.heap.size) : NmAll w L x := by
  refine ⟨nm_is h.lets hN fun cs d hd => ⟨one_let cs d hd, ?_⟩, nm_is h.crops hN fun cs d hd => ⟨one_crop cs d hd, ?_⟩, nm_is h.reaches hN fun cs d hd => ⟨one_reach cs d hd, ?_⟩, nm_is h.farms hN fun cs d hd => ⟨one_farm cs d hd, ?_⟩, ?_, nm_is h.rights hN fun cs d hd => ⟨one_right cs d hd, ?_⟩, nm_is h.duties hN fun cs d hd => ⟨one_duty cs d hd, ?_⟩⟩
  · obtain ⟨h1, c, rfl, _⟩ := hd; exact ⟨rfl, h1⟩
  · obtain ⟨h1, c, rfl, _⟩ := hd; exact ⟨rfl, h1⟩
  · obtain ⟨h1, _, c0, c1, c2, c3, c4, c5, c6, c7, rfl, _⟩ := hd; exact ⟨rfl, h1⟩
  · obtain ⟨h1, _, _, c, rfl, _⟩ := hd; exact ⟨rfl, h1⟩
  · obtain ⟨h1, h2, h3⟩ := h.rots
    refine nm_row h1 h2 fun i hi => ?_
    obtain ⟨b, o, cs, k1, k2, k3, k4, k5⟩ := h3 i hi
    have ho := rotV_one k5
    obtain ⟨q1, _, c0, c1, c2, rfl, _⟩ := k5
    exact ⟨b, o, _, k1, hN b k2, k3, k4, ho, rfl, q1⟩
  · obtain ⟨h1, _, _, c0, c1, c2, c3, c4, rfl, _⟩ := hd; exact ⟨rfl, h1⟩
  · obtain ⟨h1, _, _, c, rfl, _⟩ := hd; exact ⟨rfl, h1⟩
theorem NmRow.up {w w' : World} {h : Hdr} {sz j : Nat} {nms : List ByteArray} (hr : NmRow w h sz j nms) (hb : Below w.heap.size w w') : NmRow w' h sz j nms := by
  obtain ⟨h1, h2, h3⟩ := hr
  refine ⟨h1, h2, fun i hi => ?_⟩
  obtain ⟨b, o, cs, k1, k2, k3, k4, k5⟩ := h3 i hi
  exact ⟨b, o, cs, k1, Nat.lt_of_lt_of_le k2 hb.size, k3, rangeAt_block k4 (hb.block b k2), k5⟩
/- a source's cells -/
structure CellsAt (L : Lay) (x : Src) (c : Nat → Option Value) : Prop where
  name : c 0 = some (.string x.name)
  lets : c 19 = some L.lets.v
  crops : c 20 = some L.crops.v
  reaches : c 21 = some L.reaches.v
  farms : c 22 = some L.farms.v
  rots : c 23 = some L.rots.v
  rights : c 24 = some L.rights.v
  duties : c 25 = some L.duties.v
theorem SrcV.at {N : Nat → Prop} {w : World} {L : Lay} {cs : List Value} {x : Src} (h : SrcV N w L cs x) : CellsAt L x (cs[·]?) := by
  obtain ⟨c0, c1, c2, rfl, g0, g1, g2⟩ := h.cells
  obtain ⟨a0, p0, rfl, e0⟩ := g0.cells
  obtain ⟨a1, p1, rfl, e1⟩ := g1.cells
  obtain ⟨a2, p2, rfl, e2⟩ := g2.cells
  exact ⟨rfl, rfl, rfl, rfl, rfl, rfl, rfl, rfl⟩
theorem RPre.cells {w V : World} {x : Src} {L : Lay} {cs : List Value} {N : Nat → Prop} (h : RPre w x L cs N V) : CellsAt L x (fun q => V.cell? ⟨w.heap.size, q, none⟩) := by
  have e : ∀ q, V.cell? ⟨w.heap.size, q, none⟩ = cs[q]? := fun q => by simp [World.cell?, h.par]
  have := h.src.at
  simp only [e]
  exact this

/- a slice of names of its own -/
def OwnSt (B : Nat) (w : World) (v : Value) (l : List ByteArray) : Prop := w.ownsRow B 9 1 v l.length (l.map .string) ∧ ∀ s ∈ l, s.size ≤ maxLen
theorem ownSt_nil (B : Nat) (w : World) : OwnSt B w (.slice none 0 0) [] := ⟨⟨rfl, .inl ⟨rfl, rfl⟩⟩, by simp⟩
theorem OwnSt.up {B : Nat} {w w' : World} {v : Value} {l : List ByteArray} (h : OwnSt B w v l) (hb : Below w.heap.size w w') : OwnSt B w' v l := by
  obtain ⟨⟨h1, h2⟩, h0⟩ := h
  refine ⟨⟨h1, h2.imp id ?_⟩, h0⟩
  rintro ⟨g, cap, cur, h3, h4, h5, h6⟩
  exact ⟨g, cap, cur, h3, h4, (hb.block g (Array.getElem?_eq_some_iff.1 h5).1).trans h5, h6⟩
theorem below_st {B : Nat} {w0 w w' : World} {v : Value} {l : List ByteArray} (hB : Below B w0 w) (hz : B ≤ w.heap.size) (ho : OwnSt B w v l) (hg : w.grownBy w' v.ownBlock) : Below B w0 w' := by
  refine hB.trans ⟨hg.os, hg.tape, hg.output, hg.size, fun b hb => hg.block b (by omega) (fun e => ?_)⟩
  rcases ho.1.2 with ⟨rfl, _⟩ | ⟨g, cap, cur, rfl, h4, _⟩
  · cases e
  · simp only [Value.ownBlock, Option.some.injEq] at e
    omega
theorem OwnSt.nm {B : Nat} {w : World} {v : Value} {l : List ByteArray} (h : OwnSt B w v l) (hl : l.length ≤ 140737488355328) : ∃ h : Hdr, v = h.v ∧ NmRow w h 1 0 l := by
  obtain ⟨⟨h1, ⟨rfl, h2⟩ | ⟨g, cap, cur, rfl, h4, h5, h6, h7, h8, h9⟩⟩, h0⟩ := h
  · obtain rfl := List.length_eq_zero_iff.1 h2
    exact ⟨⟨none, 0, 0⟩, rfl, rfl, by simp, fun i hi => absurd hi (by simp)⟩
  · refine ⟨⟨some ⟨g, 0, none⟩, l.length, cap⟩, rfl, rfl, hl, fun i hi => ⟨g, 0, [.string l[i]], rfl, (Array.getElem?_eq_some_iff.1 h5).1, rfl, ?_, by simp [Value.oneCell'], rfl, h0 _ (List.getElem_mem hi)⟩⟩
    refine range_one ?_
    have hj : (l.map Value.string)[i]? = some (.string l[i]) := by simp [hi]
    rw [← h9, List.getElem?_take, if_pos (by omega)] at hj
    simp only [World.cell?, h5]
    simpa using hj
theorem wpList_append_st {ops : Array Oper} {rest : List Oper} {o : Oper} {a : Act} {Q : Exit → Act → World → Prop} {W : World} (B : Nat) (hgd : o.guard = none) (s x : Operand) (ho : o.op = .call { callee := .builtin .append, args := #[s, x], argTypes := #[43, 43] })
    (v : Value) (l : List ByteArray) (hs : a.eval s = v) (hown : OwnSt B W v l) (b c : Nat) (nm : ByteArray) (hx : a.eval x = .slice (some ⟨b, 0, none⟩) 1 c) (hb : W.heap[b]? = some (.cells #[.string nm] 9 (0, 0))) (hm : nm.size ≤ maxLen) (hlen : l.length + 1 ≤ 1000000) (hbase : B ≤ W.heap.size)
    (h : ∀ (ad : Option Addr) (c : Nat) w', OwnSt B w' (.slice ad (l.length + 1) c) (l ++ [nm]) → W.grownBy w' v.ownBlock → wpList Try.prog ops Q rest (a.put o.dst (.slice ad (l.length + 1) c)) w') : wpList Try.prog ops Q (o :: rest) a W := by
  refine wpList_plain hgd fun K hK => ?_
  have hinfo : (Try.prog.info? 9).map (fun i => (i.zero, i.size, i.bytes)) = some (some (.string ⟨#[]⟩), 1, 16) := by kernel_rfl
  obtain ⟨i0, hi, hz0, hz1, hz2⟩ := info_parts hinfo
  have hX : RawCells W (.slice (some ⟨b, 0, none⟩) 1 c) 1 1 [.string nm] := by
    refine ⟨rfl, by simp [Value.oneCell'], _, _, rfl, .inr ⟨b, 0, rfl, (Array.getElem?_eq_some_iff.1 hb).1, fun j u hj => ?_⟩⟩
    cases j with
    | zero => cases hj; simp [World.cell?, hb]
    | succ j => simp at hj
  have hh := step_append_raw (ops := #[]) (E := True) (Q := Q) (K := K) (o := o) Try.underlying43 hi hz0 hz1 hz2 rfl (by decide) (by decide) B hgd s x ho v l.length _ hs hown.1 _ 1 [.string nm] hx hX hlen hbase (fun ad c w' hw hg => hK _ _ (h ad c w' ⟨by
    rw [List.length_append, List.map_append]
    exact hw, fun u hu => by
    rcases List.mem_append.1 hu with hu | hu
    · exact hown.2 u hu
    · rw [List.mem_singleton.1 hu]; exact hm⟩ hg))
  rwa [if_pos (by simp [Region.wanted, hgd])] at hh
theorem take_map_next {α : Type} {l : List α} {i : Nat} (h : i < l.length) : l.take i ++ [l[i]] = l.take (i + 1) := (List.take_succ_eq_append_getElem h).symm
theorem tb_yes {f : FuncId} {args : Array Value} {w : World} {nms : List ByteArray} (h : Calls Try.prog f args w (TbPost w nms)) (hn : nms.Nodup) : Calls Try.prog f args w fun e w' => (∃ m, e = .returned (.map (some m))) ∧ Below w.heap.size w w' :=
  h.mono fun e w' hp => by
    obtain ⟨h1, ⟨_, m, h2, _⟩ | ⟨h2, _⟩⟩ := hp
    · exact ⟨⟨m, h2⟩, h1⟩
    · exact absurd hn h2
theorem tb_no {f : FuncId} {args : Array Value} {w : World} {nms : List ByteArray} (h : Calls Try.prog f args w (TbPost w nms)) (hn : ¬ nms.Nodup) : Calls Try.prog f args w fun e w' => e = .panicked (errP 171) ∧ Below w.heap.size w w' :=
  h.mono fun e w' hp => by
    obtain ⟨h1, ⟨h2, _⟩ | ⟨_, h2⟩⟩ := hp
    · exact absurd h2 hn
    · exact ⟨h2, h1⟩

end Go.Proofs.Ytapejaabhkfhjaa

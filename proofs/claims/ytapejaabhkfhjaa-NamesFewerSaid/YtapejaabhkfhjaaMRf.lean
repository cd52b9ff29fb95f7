/- Texts Rf Rg Ri in one: each says what it proves. -/
import Derived.Test.YtapejaabhkfhjaaMRc
import Derived.BigFrameIn
/- Resolve: how it ends. -/
namespace Go.Proofs.Ytapejaabhkfhjaa
open Go.RowKit
attribute [local go_sem] Oper.semAt_some

/- what is deferred -/
def dfr (B : Nat) : Deferred := { target := .fn (.func 24) #[.pointer (some ⟨B + 1, 0, none⟩), .pointer (some ⟨B + 2, 0, none⟩)], args := #[] }
def coll (D : Nat) : Deferred := { target := .collected D, args := #[] }
/- how a source in a result is -/
def ResSrc (B : Nat) (w' : World) (cs : List Value) (x : Src) : Prop := ∃ (L : Lay) (N : Nat → Prop), cs.length = 26 ∧ SrcV N w' L cs x ∧ ∀ b, N b → B ≤ b ∧ b < w'.heap.size
/- what Resolve does -/
def ResPost (w : World) (x : Src) (e : Ending) (w' : World) : Prop :=
  Below w.heap.size w w' ∧ ((wrongS x ≠ 0 ∧ e = .returned (.tuple #[.agg zeroCs.toArray, .int .i64 (wrongS x)])) ∨ (wrongS x = 0 ∧ ∃ cs, e = .returned (.tuple #[.agg cs.toArray, .int .i64 0]) ∧ ResSrc w.heap.size w' cs (resolved x)))
/- while it works -/
structure Amid (w W : World) : Prop where
  below : Below w.heap.size w W
  x : ∃ row : Array Value, row.size = 26 ∧ W.heap[w.heap.size + 1]? = some (.cells row 35 (0, 0))
  e : ∃ v : Value, W.heap[w.heap.size + 2]? = some (.cells #[v] 38 (0, 0))
theorem Amid.up {w W W' : World} (h : Amid w W) (hb : Below (w.heap.size + 3) W W') : Amid w W' := by
  obtain ⟨row, h1, h2⟩ := h.x
  obtain ⟨v, h3⟩ := h.e
  exact ⟨h.below.trans (hb.mono (by omega)), ⟨row, h1, (hb.block _ (by omega)).trans h2⟩, ⟨v, (hb.block _ (by omega)).trans h3⟩⟩
/- the result variables -/
def Vars (B : Nat) (tm : Array Value) : Prop := tm.getD 2 undef = .pointer (some ⟨B + 1, 0, none⟩) ∧ tm.getD 3 undef = .pointer (some ⟨B + 2, 0, none⟩)
structure RPost (Q : Exit → Act → World → Prop) (w : World) (x : Src) : Prop where
  fail : ∀ tm W, Vars w.heap.size tm → Amid w W → wrongS x ≠ 0 → Q (.panic (errP (wrongS x))) { tmps := tm, defers := [dfr w.heap.size] } W
  failD : ∀ D tm W, Vars w.heap.size tm → Amid w W → wrongS x ≠ 0 → w.heap.size + 3 ≤ D → W.heap[D]? = some (.deferred (some [])) → Q (.panic (errP (wrongS x))) { tmps := tm, defers := [coll D, dfr w.heap.size] } W
  done : ∀ D tm W cs, Vars w.heap.size tm → Below w.heap.size w W → W.heap[w.heap.size + 1]? = some (.cells cs.toArray 35 (0, 0)) → W.heap[w.heap.size + 2]? = some (.cells #[.int .i64 0] 38 (0, 0)) → wrongS x = 0 → w.heap.size + 3 ≤ D → W.heap[D]? = some (.deferred (some [])) →
    ResSrc w.heap.size (W.putObj D (.deferred none)) cs (resolved x) → Q .ret { tmps := tm, defers := [coll D, dfr w.heap.size] } W
theorem results2 {W : World} {tm : Array Value} {B : Nat} {cs : List Value} {z : Int} (hv : Vars B tm) (h1 : W.heap[B + 1]? = some (.cells cs.toArray 35 (0, 0))) (h26 : cs.length = 26) (h2 : W.heap[B + 2]? = some (.cells #[.int .i64 z] 38 (0, 0))) :
    (results Try.f11 tm).run Try.prog W = .ok (.tuple #[.agg cs.toArray, .int .i64 z]) W := by
  obtain ⟨v1, v2⟩ := hv
  rw [Array.getD_eq_getD_getElem?] at v1 v2
  have hr : W.rangeAt (B + 1) 0 cs := by
    have := World.rangeAt_of_block h1 0 cs.length
    simpa using this
  have l1 := run_loadVar_mid (P := Try.prog) W (B + 1) 0 35 cs _ hr Try.underlying35 rfl (by rw [h26]; kernel_rfl)
  have c2 : W.cell? ⟨B + 2, 0, none⟩ = some (.int .i64 z) := by simp [World.cell?, h2]
  have l2 : (loadVar 38 ⟨B + 2, 0, none⟩).run Try.prog W = .ok (.int .i64 z) W := by
    have ha : (isAgg 38).run Try.prog W = .ok false W := by kernel_rfl
    simp [loadVar, ha, go_sem, c2]
  simp [results, Try.results11, v1, v2, asAddr, l1, l2]
set_option maxRecDepth 100000 in
theorem leaves_fail {w W : World} {x : Src} {tm : Array Value} (hv : Vars w.heap.size tm) (hA : Amid w W) (h0 : wrongS x ≠ 0) : LeavesInM Fence.wide 10 Try.prog Try.f11 tm (ResPost w x) [dfr w.heap.size] (.panicking (errP (wrongS x))) W := by
  obtain ⟨row, hr1, hr2⟩ := hA.x
  obtain ⟨v, he⟩ := hA.e
  refine ⟨by simp, .inr ⟨by simp [Fence.wide], _, _, _, _, rfl, by rfl, fun _ _ => trivial, ?_⟩⟩
  refine (rec_panicking 9 (w.heap.size + 1) (w.heap.size + 2) (by omega) (wrongS x) row v W hr2 hr1 he).mono ?_
  rintro e u' w' ⟨rfl, rfl, rfl⟩
  have e1 : ((W.setRow (w.heap.size + 1) zeroCs.toArray).setCell ⟨w.heap.size + 2, 0, none⟩ (.int .i64 (wrongS x))).heap[w.heap.size + 1]? = some (.cells zeroCs.toArray 35 (0, 0)) := by
    rw [heap_setCell_other _ _ _ _ (by simp)]
    simp [World.setRow, Array.getElem?_modify, hr2]
  have e2 : ((W.setRow (w.heap.size + 1) zeroCs.toArray).setCell ⟨w.heap.size + 2, 0, none⟩ (.int .i64 (wrongS x))).heap[w.heap.size + 2]? = some (.cells #[.int .i64 (wrongS x)] 38 (0, 0)) := by
    have := heap_setCell_same (W.setRow (w.heap.size + 1) zeroCs.toArray) (w.heap.size + 2) 0 #[v] 38 (.int .i64 (wrongS x)) (by simp [World.setRow, Array.getElem?_modify, he])
    rw [this]; rfl
  refine ⟨_, results2 hv e1 rfl e2, ?_, .inl ⟨h0, rfl⟩⟩
  refine hA.below.trans ⟨rfl, rfl, rfl, by simp [World.setRow], fun b hb => ?_⟩
  rw [heap_setCell_other _ _ _ _ (by simp; omega)]
  simp only [World.setRow, Array.getElem?_modify, if_neg (show ¬ w.heap.size + 1 = b by omega)]
set_option maxRecDepth 100000 in
theorem rpost_mk (w : World) (x : Src) : RPost (bodyPostM Fence.wide 10 Try.prog Try.f11 (ResPost w x)) w x := by
  refine ⟨fun tm W hv hA h0 => leaves_fail hv hA h0, fun D tm W hv hA h0 hD hd => ?_, fun D tm W cs hv hb h1 h2 h0 hD hd hs => ?_⟩
  · refine ⟨by simp, .inl ⟨D, _, rfl, run_takeDeferred hd, leaves_fail hv (hA.up ⟨rfl, rfl, rfl, by simp, fun b hb => World.putObj_heap_other (by omega)⟩) h0⟩⟩
  · refine ⟨by simp, .inl ⟨D, _, rfl, run_takeDeferred hd, ?_⟩⟩
    refine ⟨by simp, .inr ⟨by simp [Fence.wide], _, _, _, _, rfl, by rfl, fun _ _ => trivial, ?_⟩⟩
    refine (rec_idle 9 _ _ _).mono ?_
    rintro e u' w' ⟨rfl, rfl, rfl⟩
    have hs' := hs
    obtain ⟨L, N, h26, _⟩ := hs'
    exact ⟨_, results2 hv ((World.putObj_heap_other (by omega)).trans h1) h26 ((World.putObj_heap_other (by omega)).trans h2), hb.trans ⟨rfl, rfl, rfl, by simp, fun b hb => World.putObj_heap_other (by omega)⟩, .inr ⟨h0, cs, rfl, hs⟩⟩

/- the code behind the first k parts -/
def seqR : Code → Code
  | .seq _ y => y
  | c => c
def tailC : Nat → Code → Code
  | 0, c => c
  | k + 1, c => tailC k (seqR c)

end Go.Proofs.Ytapejaabhkfhjaa

/- Resolve: the references are all right, or not: what is known while they get their numbers. -/
namespace Go.Proofs.Ytapejaabhkfhjaa
open Go.RowKit

theorem uses_any (s : Nat) (w : World) : Calls Try.prog 51 #[.pointer (some ⟨s, 0, none⟩)] w fun x w' => x = .returned (.func (.func 81) #[] #[.pointer (some ⟨w.heap.size, 0, none⟩)]) ∧ w' = w.alloc (.cells #[.pointer (some ⟨s, 0, none⟩)] 52) := by
  have hmf : ∀ (fn : Fn) (first cap : Array Value) (w : World), (Instr.makeFunc fn first cap).run Try.prog w = .ok (.func fn first cap) w := fun _ _ _ _ => rfl
  go_enter Try.func51, Try.ntmps51
  go_wp2
  go_ret
  exact ⟨rfl, rfl⟩

section
variable {B : Nat} {W W' : World} {N N' M : Nat → Prop} {E : Int → Ex → Nat → Nat → Prop} {R : Int → Rf → Nat → Nat → Prop} {L : Lay} {x : Src}
theorem PSrc.ren (h : PSrc N E R W L x) (hN : ∀ g t, N g → Ty W g t → t ≠ 35 → t ≠ 38 → N' g) : PSrc N' E R W L x := by
  refine ⟨h.ty, h.name, h.season, h.cap, h.start, h.hlets, h.hcrops, h.hreaches, h.hfarms, h.hrots, h.hrights, h.hduties, ⟨h.lets.1, h.lets.2.1, fun i hi => ?_⟩, ⟨h.crops.1, h.crops.2.1, fun i hi => ?_⟩, ⟨h.reaches.1, h.reaches.2.1, fun i hi => ?_⟩, ⟨h.farms.1, h.farms.2.1, fun i hi => ?_⟩, ⟨h.rots.1, h.rots.2.1, fun i hi => ?_⟩, ⟨h.rights.1, h.rights.2.1, fun i hi => ?_⟩, ⟨h.duties.1, h.duties.2.1, fun i hi => ?_⟩⟩
  · obtain ⟨g, ha, hg, ty, h1⟩ := h.lets.2.2 i hi
    exact ⟨g, ha, hN g _ hg ty (by decide) (by decide), ty, h1⟩
  · obtain ⟨g, ha, hg, ty, h1⟩ := h.crops.2.2 i hi
    exact ⟨g, ha, hN g _ hg ty (by decide) (by decide), ty, h1⟩
  · obtain ⟨g, ha, hg, ty, h1⟩ := h.reaches.2.2 i hi
    exact ⟨g, ha, hN g _ hg ty (by decide) (by decide), ty, h1⟩
  · obtain ⟨g, ha, hg, ty, h1⟩ := h.farms.2.2 i hi
    exact ⟨g, ha, hN g _ hg ty (by decide) (by decide), ty, h1⟩
  · obtain ⟨g, ha, hg, ty, h1, h2, h3, h4, h5, h6, h7, ht⟩ := h.rots.2.2 i hi
    refine ⟨g, ha, hN g _ hg ty (by decide) (by decide), ty, h1, h2, h3, h4, h5, h6, h7, ht.1, ht.2.1, fun k hk => ?_⟩
    obtain ⟨g, ha, hg, ty, h1⟩ := ht.2.2 k hk
    exact ⟨g, ha, hN g _ hg ty (by decide) (by decide), ty, h1⟩
  · obtain ⟨g, ha, hg, ty, h1⟩ := h.rights.2.2 i hi
    exact ⟨g, ha, hN g _ hg ty (by decide) (by decide), ty, h1⟩
  · obtain ⟨g, ha, hg, ty, h1⟩ := h.duties.2.2 i hi
    exact ⟨g, ha, hN g _ hg ty (by decide) (by decide), ty, h1⟩
/- a box of one cell that holds no number -/
theorem box_notNum {b ty : Nat} {v : Value} (h : W.heap[b]? = some (.cells #[v] ty (0, 0))) (hv : ∀ k z, v ≠ .int k z) (hall : ∀ q, cls ty q = 1 ∧ eoff ty q = q % 6) (q : Nat) : ¬ NumC B W b q := by
  rintro ⟨_, o, ty', rfl, h1, h2, h3⟩
  have hty : Ty W b ty := ⟨_, h⟩
  obtain rfl := hty.inj h1
  apply h3
  unfold catM
  rw [tyAt_of hty, (hall _).1, if_pos rfl]
  rcases h2 with h2 | h2
  · rw [(hall _).1] at h2; cases h2
  · rw [(hall _).2] at h2
    by_cases h5 : o - 3 = 0
    · rw [h5]
      simp only [World.cell?, h]
      simp
      cases v <;> simp_all
    · have : W.cell? ⟨b, o - 3, none⟩ = none := by
        simp only [World.cell?, h]
        simp; omega
      rw [this]
theorem obj_notNum {b : Nat} (h : ∀ t, ¬ Ty W b t) (q : Nat) : ¬ NumC B W b q := by
  rintro ⟨_, o, ty', rfl, h1, h2, h3⟩
  exact h _ h1
/- a variable that holds a table -/
def MapBox (W : World) (b : Nat) (nms : List ByteArray) : Prop := ∃ m, W.heap[b]? = some (.cells #[.map (some m)] 90 (0, 0)) ∧ MapIs W m nms
theorem cls_other {t : Nat} (h : t ≠ 35 ∧ t ≠ 55 ∧ t ≠ 57 ∧ t ≠ 51 ∧ t ≠ 59 ∧ t ≠ 64 ∧ t ≠ 66 ∧ t ≠ 68 ∧ t ≠ 70) (q : Nat) : cls t q = 1 ∧ eoff t q = q % 6 := by
  obtain ⟨h1, h2, h3, h4, h5, h6, h7, h8, h9⟩ := h
  unfold cls eoff
  rw [if_neg h1, if_neg h1, if_neg h2, if_neg h2, if_neg h3, if_neg h3, if_neg h4, if_neg h4, if_neg h5, if_neg h5, if_neg h6, if_neg h6, if_neg h7, if_neg h7, if_neg h8, if_neg h8, if_neg h9, if_neg h9]
  exact ⟨rfl, rfl⟩
theorem MapBox.read {t : Tb} {X : List Us} {k b : Nat} {O : Nat → Prop} {nms : List ByteArray} (h : MapBox W b nms) (hJ : RJ B W t X k O W') : ∃ m es clock, W'.cell? ⟨b, 0, none⟩ = some (.map (some m)) ∧ MapIs W' m nms ∧ W'.heap[m]? = some (.map es clock) ∧ es.size = nms.length := by
  obtain ⟨m, h1, h2⟩ := h
  have e1 : W'.heap[b]? = W.heap[b]? := hJ.same b (Array.getElem?_eq_some_iff.1 h1).1 (box_notNum h1 (by simp) (cls_other (by decide)))
  obtain ⟨es, clock, h3, h4⟩ := h2.size
  have e2 : W'.heap[m]? = W.heap[m]? := hJ.same m h2.lt (obj_notNum fun t ⟨c, hc⟩ => by rw [h3] at hc; cases hc)
  exact ⟨m, es, clock, by simp [World.cell?, e1, h1], h2.block e2, e2.trans h3, h4⟩
theorem box_read {t : Tb} {X : List Us} {k b ty : Nat} {v : Value} {O : Nat → Prop} (h : W.heap[b]? = some (.cells #[v] ty (0, 0))) (hv : ∀ k z, v ≠ .int k z) (ht : ∀ q, cls ty q = 1 ∧ eoff ty q = q % 6) (hJ : RJ B W t X k O W') : W'.cell? ⟨b, 0, none⟩ = some v := by
  have e1 : W'.heap[b]? = W.heap[b]? := hJ.same b (Array.getElem?_eq_some_iff.1 h).1 (box_notNum h hv ht)
  simp [World.cell?, e1, h]
mutual
theorem to_preE (lt : Int) : ∀ (e : Ex) (b o : Nat), ∀ u ∈ (preE W lt e b o).1, u.to ≠ 6
  | .mk op n u rn ri args, b, o => by
    intro v hm
    rw [preE] at hm
    by_cases hs : okS op args.length = true
    · rw [if_pos hs] at hm
      rcases List.mem_cons.1 hm with rfl | hm
      · simp only; unfold toE; split
        · split <;> decide
        · decide
      · exact to_preL lt args _ 0 v hm
    · rw [if_neg hs] at hm; cases hm
theorem to_preL (lt : Int) : ∀ (l : List Ex) (a : Option Value) (i : Nat), ∀ u ∈ (preL W lt l a i).1, u.to ≠ 6
  | [], a, i => by intro v hm; rw [preL] at hm; cases hm
  | e :: r, a, i => by
    intro v hm
    by_cases ha : ∃ b o n c, a = some (.slice (some ⟨b, o, none⟩) n c)
    · obtain ⟨b, o, n, c, rfl⟩ := ha
      rw [preL] at hm
      split at hm
      · rcases List.mem_append.1 hm with hm | hm
        · exact to_preE lt e _ _ v hm
        · exact to_preL lt r _ _ v hm
      · exact to_preE lt e _ _ v hm
    · have e0 : preL W lt (e :: r) a i = ([], false) := by
        rw [preL]
        intro b o n c h
        exact ha ⟨b, o, n, c, h⟩
      rw [e0] at hm; cases hm
end
theorem to_uses : ∀ u ∈ (usesU W L x).1, u.to ≠ 6 := by
  intro u hu
  obtain ⟨p, hp, hu⟩ := mem_seqU hu
  unfold partsU at hp
  rcases List.mem_append.1 hp with hp | hp
  · obtain ⟨i, hi, rfl⟩ := List.mem_iff_getElem.1 hp
    simp only [topParts, List.getElem_zipWith] at hu
    unfold topPart at hu
    split at hu
    · cases hu
    · exact to_preE _ _ _ _ u hu
  · simp only [List.mem_singleton] at hp
    rw [hp] at hu
    simp only at hu
    split at hu
    · unfold listU at hu
      simp only [List.mem_append] at hu
      rcases hu with ((hu | hu) | hu) | hu
      · obtain ⟨i, hi, hu⟩ := List.mem_flatMap.1 hu
        unfold farmU at hu
        split at hu
        · simp only [usAt, List.mem_cons, List.not_mem_nil, or_false] at hu
          rcases hu with rfl | rfl
          · simp
          · simp only; split <;> simp
        · cases hu
      · obtain ⟨i, hi, hu⟩ := List.mem_flatMap.1 hu
        unfold rotU at hu
        split at hu
        · simp only [usAt, List.mem_cons] at hu
          rcases hu with rfl | hu
          · simp
          · obtain ⟨k, hk, hu⟩ := List.mem_flatMap.1 hu
            unfold turnU at hu
            split at hu
            · simp only [usAt, List.mem_singleton] at hu
              rw [hu]; simp
            · cases hu
        · cases hu
      · obtain ⟨i, hi, hu⟩ := List.mem_flatMap.1 hu
        unfold rightU at hu
        split at hu
        · simp only [usAt, List.mem_cons, List.not_mem_nil, or_false] at hu
          rcases hu with rfl | rfl
          · simp
          · simp only; split <;> simp
        · cases hu
      · obtain ⟨i, hi, hu⟩ := List.mem_flatMap.1 hu
        unfold dutyU at hu
        split at hu
        · simp only [usAt, List.mem_cons, List.not_mem_nil, or_false] at hu
          rcases hu with rfl | rfl <;> simp
        · cases hu
    · cases hu
end
/- what is known when the references are about to get their numbers: W5 is the world then, with the iterator's box Bu -/
structure RCtx (w : World) (x : Src) (W5 : World) (L : Lay) (N M : Nat → Prop) (bl bc br bf Bf Bu : Nat) : Prop where
  amid : Amid w W5
  lets : MapBox W5 bl (x.lets.map (·.name))
  crops : MapBox W5 bc (x.crops.map (·.name))
  reaches : MapBox W5 br (x.reaches.map (·.name))
  farms : MapBox W5 bf (x.farms.map (·.name))
  find : W5.heap[Bf]? = some (.cells #[.func (.func 49) #[] #[]] 100 (0, 0))
  box : W5.heap[Bu]? = some (.cells #[.pointer (some ⟨L.s, 0, none⟩)] 52 (0, 0))
  ps : PSrc N (ET M W5) (RV W5) W5 L x
  hN : ∀ g, N g → w.heap.size ≤ g ∧ g < W5.heap.size
  hM : ∀ g, M g → w.heap.size + 3 ≤ g ∧ g < W5.heap.size
  hs : N L.s
  ls : L.s = w.heap.size + 1
  fits : fitsAll x = true
  wr : wrongS x = if reachOk (Tb.of x) x && usesOk (Tb.of x) x then 0 else 170
section
variable {w W5 W : World} {x : Src} {L : Lay} {N M : Nat → Prop} {bl bc br bf Bf Bu k : Nat} {t : Tb} {X : List Us} {O : Nat → Prop}
theorem RJ.amid (hA : Amid w W5) (h : RJ w.heap.size W5 t X k O W) : Amid w W := by
  refine ⟨hA.below.trans ⟨h.os, h.tape, h.output, h.size, fun b hb => h.same b (by have := hA.below.size; omega) (fun q hq => by have := hq.1; omega)⟩, ?_, ?_⟩
  · obtain ⟨row, h1, h2⟩ := hA.x
    obtain ⟨c', e1, e2⟩ := h.ty _ _ _ h2
    exact ⟨c', by omega, e2⟩
  · obtain ⟨v, h2⟩ := hA.e
    obtain ⟨c', e1, e2⟩ := h.ty _ _ _ h2
    obtain ⟨v', rfl⟩ : ∃ v', c' = #[v'] := by
      have : c'.size = 1 := e1
      exact ⟨c'[0], by ext i h1 h2; omega; simp at h2; subst h2; rfl⟩
    exact ⟨v', e2⟩
theorem RCtx.uok (h : RCtx w x W5 L N M bl bc br bf Bf Bu) : ∀ u ∈ allX W5 L x, UOk w.heap.size W5 u := uok_all (fun g hg => (h.hN g hg).1) (fun g hg => by have := (h.hM g hg).1; omega) h.hs h.ps
theorem RCtx.uses (h : RCtx w x W5 L N M bl bc br bf Bf Bu) : UsesC M W5 (CR w.heap.size W5) (DR W5) Bu L x :=
  usesC_of h.hs h.ps (Array.getElem?_eq_some_iff.1 h.box).1 (by simp [World.cell?, h.box]) h.fits
/- a reference is wrong -/
theorem RCtx.bad (h : RCtx w x W5 L N M bl bc br bf Bf Bu) {u : Us} (hu : u ∈ allX W5 L x) (hb : okU (Tb.of x) u = false) : wrongS x = 170 := by
  rw [h.wr]
  rcases List.mem_append.1 hu with hu | hu
  · have : reachOk (Tb.of x) x = false := by
      obtain ⟨i, hi, hu⟩ := List.mem_flatMap.1 hu
      have hl : i < x.reaches.length := by rw [← h.ps.reaches.1]; exact List.mem_range.1 hi
      unfold reachU at hu
      rw [List.getElem?_eq_getElem hl] at hu
      simp only [List.mem_singleton] at hu
      unfold reachOk
      rw [List.all_eq_false]
      refine ⟨(x.reaches[i], i), List.mem_iff_getElem.2 ⟨i, by simpa using hl, by simp⟩, ?_⟩
      rw [hu] at hb
      unfold okU at hb
      unfold okReach
      rw [hb]; simp
    rw [this]; rfl
  · have : usesOk (Tb.of x) x = false := by
      rw [Bool.eq_false_iff]
      intro he
      have := ((allU_uses (Tb.of x) h.uses).2 he).2 u hu
      rw [hb] at this; cases this
    rw [this]; simp
theorem RCtx.bad2 (h : RCtx w x W5 L N M bl bc br bf Bf Bu) (hb : (usesU W5 L x).2 = false) : wrongS x = 170 := by
  rw [h.wr]
  have : usesOk (Tb.of x) x = false := by
    rw [Bool.eq_false_iff]
    intro he
    have := ((allU_uses (Tb.of x) h.uses).2 he).1
    rw [hb] at this; cases this
  rw [this]; simp
theorem RCtx.good (h : RCtx w x W5 L N M bl bc br bf Bf Bu) (hJ : RJ w.heap.size W5 (Tb.of x) (allX W5 L x) (allX W5 L x).length O W) (ho : (usesU W5 L x).2 = true) : wrongS x = 0 := by
  have hall : ∀ u ∈ allX W5 L x, okU (Tb.of x) u = true := fun u hu => by
    obtain ⟨j, hj, rfl⟩ := List.mem_iff_getElem.1 hu
    exact (hJ.done j hj hj).1
  rw [h.wr, (allU_uses (Tb.of x) h.uses).1 ⟨ho, fun u hu => hall u (List.mem_append.2 (.inr hu))⟩]
  have : reachOk (Tb.of x) x = true := by
    unfold reachOk
    rw [List.all_eq_true]
    intro p hp
    obtain ⟨i, hi, rfl⟩ := List.mem_iff_getElem.1 hp
    have hl : i < x.reaches.length := by simpa using hi
    have := hall ⟨(L.reaches.at 51 i 1).block, (L.reaches.at 51 i 1).off, if i = 0 then 0 else 6, i, x.reaches[i].frm.name, x.reaches[i].frm.n⟩ (List.mem_append.2 (.inl (mem_range1 (i := i) (by rw [h.ps.reaches.1]; exact hl) (by unfold reachU; rw [List.getElem?_eq_getElem hl]; simp))))
    rw [List.getElem_zipIdx]
    unfold okU at this
    simpa [okReach] using this
  rw [this]; rfl
theorem RCtx.src (h : RCtx w x W5 L N M bl bc br bf Bf Bu) (hJ : RJ w.heap.size W5 (Tb.of x) (allX W5 L x) (allX W5 L x).length O W) (ho : (usesU W5 L x).2 = true) :
    ∃ cs, cs.length = 26 ∧ W.rangeAt L.s 0 cs ∧ SrcV (fun g => w.heap.size ≤ g ∧ g < W5.heap.size ∧ g ≠ w.heap.size + 1 ∧ g ≠ w.heap.size + 2) W L cs (resolved x) := by
  have h1 := psrc_done (fun g hg => (h.hN g hg).1) (fun g hg => by have := (h.hM g hg).1; omega) h.hs h.ps hJ ho
  have hA := hJ.amid h.amid
  obtain ⟨row, _, hx⟩ := hA.x
  obtain ⟨v, he⟩ := hA.e
  refine PSrc.srcV ((h1.imp (E' := EV (fun g => w.heap.size ≤ g ∧ g < W5.heap.size ∧ g ≠ w.heap.size + 1 ∧ g ≠ w.heap.size + 2) W) (fun _ _ _ h => h) (fun _ _ _ _ => rfl) (fun lt e b o _ _ hE => ?_) (fun _ _ _ _ _ _ h => h)).ren fun g ty hg hty n1 n2 => ?_)
  · obtain ⟨c, c1, c2⟩ := hE
    exact ⟨c, c1, c2.exV (fun b hb _ => by have := h.hM b hb; refine ⟨?_, ?_, ?_, ?_⟩ <;> omega)⟩
  · obtain ⟨k1, k2⟩ := h.hN g hg
    refine ⟨k1, k2, fun e => ?_, fun e => ?_⟩
    · subst e; exact n1 (hty.inj ⟨_, hx⟩)
    · subst e; exact n2 (hty.inj ⟨_, he⟩)
end

end Go.Proofs.Ytapejaabhkfhjaa

/- Resolve: the copy is moved into the result variable; the reaches' references. -/
namespace Go.Proofs.Ytapejaabhkfhjaa
open Go.RowKit

section
variable {N : Nat → Prop} {E E' : Int → Ex → Nat → Nat → Prop} {R R' : Int → Rf → Nat → Nat → Prop} {w W : World} {L : Lay} {x : Src}
theorem PSrc.moved (h : PSrc N E R W L x) {Bx : Nat} (hty : Ty W Bx 35) (hrow : ∀ q, q < 26 → W.cell? ⟨Bx, q, none⟩ = W.cell? ⟨L.s, q, none⟩) (hE : ∀ lt e o, o + 6 ≤ 26 → E lt e L.s o → E lt e Bx o) : PSrc N E R W { L with s := Bx } x :=
  ⟨hty, ⟨h.name.1, (hrow 0 (by omega)).trans h.name.2⟩, hE _ _ _ (by omega) h.season, hE _ _ _ (by omega) h.cap, hE _ _ _ (by omega) h.start, (hrow _ (by omega)).trans h.hlets, (hrow _ (by omega)).trans h.hcrops, (hrow _ (by omega)).trans h.hreaches, (hrow _ (by omega)).trans h.hfarms, (hrow _ (by omega)).trans h.hrots, (hrow _ (by omega)).trans h.hrights, (hrow _ (by omega)).trans h.hduties, h.lets, h.crops, h.reaches, h.farms, h.rots, h.rights, h.duties⟩
theorem et_moved {M : Nat → Prop} {Bx s : Nat} (hrow : ∀ q, q < 26 → W.cell? ⟨Bx, q, none⟩ = W.cell? ⟨s, q, none⟩) (lt : Int) (e : Ex) (o : Nat) (ho : o + 6 ≤ 26) (h : ET M W lt e s o) : ET M W lt e Bx o := by
  obtain ⟨c, h1, h2⟩ := h
  obtain ⟨a, cap, rfl, _⟩ := (h2.exV (N := M) (fun _ h _ => h)).cells
  refine ⟨_, fun j v hv => ?_, h2⟩
  have hj := (List.getElem?_eq_some_iff.1 hv).1
  simp only [List.length_cons, List.length_nil] at hj
  rw [hrow _ (by omega)]
  exact h1 j v hv
theorem MapBox.same {b : Nat} {nms : List ByteArray} {w' : World} (h : MapBox w b nms) (hb : ∀ (c : Nat) (o : Obj), w.heap[c]? = some o → (∀ row : Array Value, o ≠ Obj.cells row 35 (0, 0)) → w'.heap[c]? = w.heap[c]?) : MapBox w' b nms := by
  obtain ⟨m, h1, h2⟩ := h
  obtain ⟨es, clock, h3, _⟩ := h2.size
  exact ⟨m, (hb b _ h1 (by rintro row e; cases e)).trans h1, h2.block (hb m _ h3 (by rintro row e; cases e))⟩
end
/- while the reaches' references get their numbers -/
def RL (B : Nat) (W5 : World) (t : Tb) (X : List Us) (n : Nat) (o : Obj) (k : Nat) (wr : World) : Prop := wr.heap.size = n ∧ RJ B W5 t X k (fun _ => False) (wr.alloc o)
section
variable {B : Nat} {W5 wr w' : World} {t : Tb} {X : List Us} {n k : Nat} {o : Obj}
theorem RL.heap (h : RL B W5 t X n o k wr) {b : Nat} (hb : b < n) : (wr.alloc o).heap[b]? = wr.heap[b]? := Below.heap_alloc _ _ _ (by rw [h.1]; exact hb)
theorem RL.cell (h : RL B W5 t X n o k wr) {b q : Nat} (hb : b < n) : (wr.alloc o).cell? ⟨b, q, none⟩ = wr.cell? ⟨b, q, none⟩ := cell_of_block (h.heap hb)
theorem RL.drew (h : RL B W5 t X n o k wr) : RL B W5 t X n o k wr.drew := ⟨h.1, h.2.move (Nat.le_refl _) rfl rfl rfl (fun _ _ => rfl) (fun _ h => h.elim)⟩
theorem setCell_alloc {b q : Nat} {v : Value} (hb : b < wr.heap.size) : (wr.setCell ⟨b, q, none⟩ v).alloc o = (wr.alloc o).setCell ⟨b, q, none⟩ v := by
  unfold World.setCell World.alloc
  simp only [World.mk.injEq, and_true]
  apply Array.ext_getElem?
  intro i
  simp only [Array.getElem?_push, Array.getElem?_modify, Array.size_modify]
  by_cases h1 : i = wr.heap.size
  · subst h1; simp [show ¬ b = wr.heap.size by omega]
  · simp [h1]
theorem RL.next {u : Us} (h : RL B W5 t X n o k wr) (hX : ∀ u ∈ X, UOk B W5 u) (hk : X[k]? = some u) (hb : u.b < n) (h0 : u.to ≠ 0) (hok : okU t u = true) : RL B W5 t X n o (k + 1) (wr.setCell ⟨u.b, u.o + 1, none⟩ (.int .i64 (valT t (catT u.to) u.name))) := by
  refine ⟨by simpa using h.1, ?_⟩
  rw [setCell_alloc (by rw [h.1]; exact hb)]
  exact h.2.next hX hk h0 hok
theorem RL.skip {u : Us} (h : RL B W5 t X n o k wr) (hk : X[k]? = some u) (h0 : u.to = 0) (hok : okU t u = true) : RL B W5 t X n o (k + 1) wr := ⟨h.1, h.2.skip hk h0 hok⟩
theorem RL.read {u : Us} (h : RL B W5 t X n o k wr) (hu : UOk B W5 u) (hb : u.b < n) : wr.cell? ⟨u.b, u.o, none⟩ = some (.string u.name) ∧ (∃ z, wr.cell? ⟨u.b, u.o + 1, none⟩ = some (.int .i64 z) ∧ (u.to = 0 → z = u.n)) ∧ wr.frozen? ⟨u.b, u.o + 1, none⟩ = false := by
  obtain ⟨h1, h2, h3⟩ := h.2.read hu
  rw [h.cell hb] at h1 h2
  refine ⟨h1, h2, ?_⟩
  unfold World.frozen? at h3 ⊢
  rw [h.heap hb] at h3
  exact h3
end

section
variable {w W5 wr : World} {x : Src} {L : Lay} {N M : Nat → Prop} {bl bc br bf Bf Bu k n : Nat} {t : Tb} {X : List Us} {o : Obj}
theorem RL.amid (hA : Amid w W5) (h : RL w.heap.size W5 t X n o k wr) (hn : w.heap.size + 3 ≤ n) : Amid w wr := by
  have hA2 := RJ.amid hA h.2
  obtain ⟨row, h1, h2⟩ := hA2.x
  obtain ⟨v, h3⟩ := hA2.e
  rw [h.heap (by omega)] at h2 h3
  refine ⟨⟨hA2.below.os, hA2.below.tape, hA2.below.output, by rw [h.1]; omega, fun b hb => ?_⟩, ⟨row, h1, h2⟩, ⟨v, h3⟩⟩
  rw [← h.heap (by omega)]
  exact hA2.below.block b hb
theorem flat_one {f : Nat → List Us} {g : Nat → Us} : ∀ n, (∀ i, i < n → f i = [g i]) → (List.range n).flatMap f = (List.range n).map g
  | 0, _ => rfl
  | n + 1, h => by rw [range_flatMap_succ, flat_one n (fun i hi => h i (by omega)), h n (by omega), List.range_succ]; simp
theorem reachX_len {E : Int → Ex → Nat → Nat → Prop} {R : Int → Rf → Nat → Nat → Prop} (h : PSrc N E R W5 L x) : (reachX L x).length = x.reaches.length := by
  unfold reachX
  rw [flat_one (g := fun i => ⟨(L.reaches.at 51 i 1).block, (L.reaches.at 51 i 1).off, if i = 0 then 0 else 6, i, (x.reaches.map (·.frm.name)).getD i ⟨#[]⟩, (x.reaches.map (·.frm.n)).getD i 0⟩) _ (fun i hi => by
    have hl : i < x.reaches.length := by rw [← h.reaches.1]; exact hi
    unfold reachU; rw [List.getElem?_eq_getElem hl]; simp [List.getD_eq_getElem?_getD, hl])]
  simp [h.reaches.1]
theorem allX_reach {E : Int → Ex → Nat → Nat → Prop} {R : Int → Rf → Nat → Nat → Prop} (h : PSrc N E R W5 L x) {i g : Nat} (hi : i < x.reaches.length) (ha : L.reaches.a = some ⟨g, 0, none⟩) : (allX W5 L x)[i]? = some ⟨g, i * 51 + 1, if i = 0 then 0 else 6, i, x.reaches[i].frm.name, x.reaches[i].frm.n⟩ := by
  unfold allX
  rw [List.getElem?_append_left (by rw [reachX_len h]; exact hi)]
  unfold reachX
  rw [flat_one (g := fun i => ⟨(L.reaches.at 51 i 1).block, (L.reaches.at 51 i 1).off, if i = 0 then 0 else 6, i, (x.reaches.map (·.frm.name)).getD i ⟨#[]⟩, (x.reaches.map (·.frm.n)).getD i 0⟩) _ (fun i hi => by
    have hl : i < x.reaches.length := by rw [← h.reaches.1]; exact hi
    unfold reachU; rw [List.getElem?_eq_getElem hl]; simp [List.getD_eq_getElem?_getD, hl])]
  rw [List.getElem?_map, List.getElem?_range (by rw [h.reaches.1]; exact hi)]
  simp [List.getD_eq_getElem?_getD, hi, hat_of ha]
end

end Go.Proofs.Ytapejaabhkfhjaa

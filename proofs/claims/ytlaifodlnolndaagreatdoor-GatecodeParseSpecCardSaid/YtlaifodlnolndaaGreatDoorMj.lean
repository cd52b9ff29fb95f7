/- Texts Gk Glp Gl in one: each says what it proves. -/
import Derived.Test.YtlaifodlnolndaaGreatDoorMi
import Derived.IntWalk
import Derived.Lib.AppendIntMem
/- Writing a condition: the program's region. -/
namespace Go.Proofs.YtlaifodlnolndaaGreatDoor
open Go.RowKit

theorem Tryz.info9' : (Tryz.prog.info? 9).map (fun i => (i.zero, i.size, i.bytes)) = some (some (.string ⟨#[]⟩), 1, 16) := by kernel_rfl
/- a slice of strings of the call's own -/
def OwnStrs (Bs : Nat) (w : World) (v : Value) (acc : List (List UInt8)) : Prop := w.ownsRow Bs 9 1 v acc.length (acc.map strV)
/- words in a block at or beyond n0 -/
def WordsFr (n0 : Nat) (w : World) (v : Value) (ws : List (List UInt8)) : Prop := ∃ b, v = .slice (some ⟨b, 0, none⟩) ws.length ws.length ∧ n0 ≤ b ∧ b < w.heap.size ∧ ∀ i (h : i < ws.length), w.cell? ⟨b, i, none⟩ = some (strV ws[i])
def WordFr (n0 : Nat) (w : World) (v : Value) (k : Nat) (l : List UInt8) : Prop := ∃ b, v = .pointer (some ⟨b, k, none⟩) ∧ n0 ≤ b ∧ b < w.heap.size ∧ w.cell? ⟨b, k, none⟩ = some (strV l)
/- what lies at or beyond n0 stays -/
def LeT (n0 : Nat) (w w' : World) : Prop := w.heap.size ≤ w'.heap.size ∧ ∀ b, n0 ≤ b → b < w.heap.size → w'.heap[b]? = w.heap[b]?
theorem LeT.of_below {n0 : Nat} {w w' : World} (h : Below w.heap.size w w') : LeT n0 w w' := ⟨h.size, fun b _ hl => h.block b hl⟩
theorem WordsFr.le {n0 : Nat} {w w' : World} {v : Value} {ws : List (List UInt8)} (h : WordsFr n0 w v ws) (hl : LeT n0 w w') : WordsFr n0 w' v ws := by
  obtain ⟨b, h1, h2, h3, h4⟩ := h
  exact ⟨b, h1, h2, Nat.lt_of_lt_of_le h3 hl.1, fun i hi => (World.cell?_of_block (a := ⟨b, i, none⟩) (hl.2 b h2 h3)).trans (h4 i hi)⟩
theorem WordFr.le {n0 : Nat} {w w' : World} {v : Value} {k : Nat} {l : List UInt8} (h : WordFr n0 w v k l) (hl : LeT n0 w w') : WordFr n0 w' v k l := by
  obtain ⟨b, h1, h2, h3, h4⟩ := h
  exact ⟨b, h1, h2, Nat.lt_of_lt_of_le h3 hl.1, (World.cell?_of_block (a := ⟨b, k, none⟩) (hl.2 b h2 h3)).trans h4⟩
theorem wordsFr_new {n0 : Nat} (w : World) (ws : List (List UInt8)) (t : TypeId) (arr : Array Value) (ha : arr = (ws.map strV).toArray) (hn : n0 ≤ w.heap.size) : WordsFr n0 (w.alloc (.cells arr t)) (.slice (some ⟨w.heap.size, 0, none⟩) ws.length ws.length) ws := by
  refine ⟨_, rfl, hn, by simp, fun i hi => ?_⟩
  have : (w.alloc (.cells arr t)).heap[w.heap.size]? = some (.cells arr t) := heap_new _ _ _ rfl
  unfold World.cell?
  rw [this, ha]
  simp [hi]
/- words in a block made just now -/
def WordsNew (w w' : World) (v : Value) (ws : List (List UInt8)) : Prop := WordsFr w.heap.size w' v ws
theorem WordsNew.fr {n0 : Nat} {w w' : World} {v : Value} {ws : List (List UInt8)} (h : WordsNew w w' v ws) (hn : n0 ≤ w.heap.size) : WordsFr n0 w' v ws := by
  obtain ⟨b, h1, h2, h3, h4⟩ := h
  exact ⟨b, h1, Nat.le_trans hn h2, h3, h4⟩
set_option maxHeartbeats 400000 in
theorem variables_fr (w : World) : Calls Tryz.prog 12 #[] w fun e w' => ∃ v, e = .returned v ∧ WordsNew w w' v varsW ∧ Below w.heap.size w w' := by
  go_enter Tryz.func12, Tryz.ntmps12
  go_wp2
  go_ret
  exact ⟨_, rfl, wordsFr_new w varsW 9 _ rfl (Nat.le_refl _), (Below.refl _ _).alloc (Nat.le_refl _) _⟩
set_option maxHeartbeats 400000 in
theorem comparisons_fr (w : World) : Calls Tryz.prog 13 #[] w fun e w' => ∃ v, e = .returned v ∧ WordsNew w w' v opsW ∧ Below w.heap.size w w' := by
  go_enter Tryz.func13, Tryz.ntmps13
  go_wp2
  go_ret
  exact ⟨_, rfl, wordsFr_new w opsW 9 _ rfl (Nat.le_refl _), (Below.refl _ _).alloc (Nat.le_refl _) _⟩
theorem getD_is' {l : List (List UInt8)} {i : Nat} (h : i < l.length) : some (strV l[i]) = some (strV (l.getD i [])) := getD_is h
theorem word2_is (k : Nat) (h : (if k = 0 then 0 else 1 : Nat) < 2) : some (strV ([wWhen, wAnd][(if k = 0 then 0 else 1 : Nat)]'h)) = some (strV (if k = 0 then wWhen else wAnd)) := by
  cases k <;> rfl
theorem min_is (k : Nat) : Value.int .i64 (if (k : Int) ≤ 1 then (k : Int) else 1) = .int .i64 ((if k = 0 then 0 else 1 : Nat) : Int) := by
  cases k with
  | zero => rfl
  | succ k => congr 1; simp; omega

def slotIn2 (d : Option Tmp) : Bool := match d with
  | some k => (decide (35 ≤ k) && decide (k ≤ 56)) || decide (k = 7)
  | none => false
def condP (n0 Bs B : Nat) (v0 : Value) (acc : List (List UInt8)) (k j m N : Nat) (i : Nat) (v : Value) (w : World) : Prop :=
  match i with
  | 0 => v = v0
  | 1 => WordsFr n0 w v [wWhen, wAnd]
  | 2 => v = .int .i64 (k : Int)
  | 3 => v = .int .i64 ((if k = 0 then 0 else 1 : Nat) : Int)
  | 4 => WordFr n0 w v (if k = 0 then 0 else 1) (if k = 0 then wWhen else wAnd)
  | 5 => v = strV (if k = 0 then wWhen else wAnd)
  | 6 => WordsFr n0 w v varsW
  | 7 => v = .pointer (some ⟨B, 0, none⟩)
  | 8 => v = .int .i64 (j : Int)
  | 9 => WordFr n0 w v j (varsW.getD j [])
  | 10 => v = strV (varsW.getD j [])
  | 11 => WordsFr n0 w v opsW
  | 12 => v = .pointer (some ⟨B, 1, none⟩)
  | 13 => v = .int .i64 ((m : Int) + 1)
  | 14 => v = .int .i64 (m : Int)
  | 15 => WordFr n0 w v m (opsW.getD m [])
  | 16 => v = strV (opsW.getD m [])
  | 17 => v = .pointer (some ⟨B, 2, none⟩)
  | 18 => v = .int .i64 (N : Int)
  | 19 => v = strV (Lib.decDigits N)
  | 20 => WordsFr n0 w v [(if k = 0 then wWhen else wAnd), (varsW.getD j []), (opsW.getD m []), (Lib.decDigits N)]
  | 21 => OwnStrs Bs w v (acc ++ [(if k = 0 then wWhen else wAnd), (varsW.getD j []), (opsW.getD m []), (Lib.decDigits N)])
  | 22 => OwnStrs Bs w v (acc ++ [(if k = 0 then wWhen else wAnd), (varsW.getD j []), (opsW.getD m []), (Lib.decDigits N)])
  | _ => True
/- a step leaves what has come: ahead of the append, what lies beyond n0; the append is the last but one -/
def condLe (n0 : Nat) (i : Nat) (w w' : World) : Prop := LeT n0 w w' ∧ (21 < i → w = w')
def condExt (w0 : World) (v0 : Value) (listed : Array Bool) (w : World) : Prop := w0.grownBy w v0.ownBlock ∧ (listed.getD 21 false = false → Below w0.heap.size w0 w)

theorem condExt_of {w w2 : World} {v0 : Value} {l : Array Bool} (h : Below w.heap.size w w2) : condExt w v0 l w2 := ⟨⟨h.os, h.tape, h.output, h.size, fun k hk _ => h.block k hk⟩, fun _ => h⟩
theorem cond_pack {ops : Array Oper} {a₀ : Act} {w : World} {v0 : Value} {Pp : Nat → Value → World → Prop} {listed : Array Bool} {a : Act} {w' : World} {i B : Nat} {c : Cd} (hM : Mid ops a₀ (fun l _ => condExt w v0 l) Pp listed a w') (hi : i ∈ Region.ready .any ops listed) (ha : ancB ops 8 21 i = true) (hn : i < 22)
    (hB : B < w.heap.size) (hc : CdAt w B 0 c) (hG : Globals w) :
    Below w.heap.size w w' ∧ w'.cell? ⟨B, 0, none⟩ = some (.int .i64 c.v) ∧ w'.cell? ⟨B, 1, none⟩ = some (.int .i64 c.op) ∧ w'.cell? ⟨B, 2, none⟩ = some (.int .i64 c.n) ∧ Hid (w.heap.size ≤ w'.heap.size) ∧
    Hid (condExt w v0 (listed.setIfInBounds i true) w') ∧ Hid (condLe w.heap.size i w' w') ∧ Hid (∀ w2, Below w'.heap.size w' w2 → condExt w v0 (listed.setIfInBounds i true) w2) ∧
    Hid (∀ w2, Below w'.heap.size w' w2 → condLe w.heap.size i w' w2) ∧ Hid (Globals w') := by
  have hun : listed.getD 21 false = false := by
    rw [Bool.eq_false_iff]
    intro h
    have hl := anc_listed hM.down 8 21 i ha h
    have hu := (mem_ready.1 hi).1
    have hlt := getD_true_lt hl
    simp [hlt] at hu hl
    rw [hl] at hu; cases hu
  have hlow := hM.ext.2 hun
  refine ⟨hlow, (hlow.cell (p := ⟨B, 0, none⟩) hB).trans hc.1, (hlow.cell (p := ⟨B, 1, none⟩) hB).trans hc.2.1, (hlow.cell (p := ⟨B, 2, none⟩) hB).trans hc.2.2, hlow.size, condExt_of hlow, ⟨LeT.of_below (Below.refl _ _), fun _ => rfl⟩,
    fun w2 h => condExt_of (hlow.trans (h.mono hlow.size)), fun w2 h => ⟨LeT.of_below h, fun h => by omega⟩, hG.below hlow (globals_size hG)⟩
theorem cond_stable {ops : Array Oper} {n0 Bs B : Nat} {v0 : Value} {acc : List (List UInt8)} {k j m N : Nat} (hA : ((List.range 21).all fun i => ancB ops 8 21 i) = true) (hB : ((List.range 22).all fun i => ancB ops 8 22 i) = true) :
    ∀ i i2 v w1 w2, i2 ≠ i → (∀ f, ancB ops f i2 i = false) → condLe n0 i w1 w2 → condP n0 Bs B v0 acc k j m N i2 v w1 → condP n0 Bs B v0 acc k j m N i2 v w2 := by
  intro i i2 v w1 w2 hne hanc hle hp
  by_cases h22 : 21 < i
  · rw [← hle.2 h22]; exact hp
  · have hl := hle.1
    rw [List.all_eq_true] at hA hB
    by_cases e21 : i2 = 21
    · subst e21
      exfalso; have := hA i (List.mem_range.2 (by omega)); rw [hanc 8] at this; cases this
    by_cases e22 : i2 = 22
    · subst e22
      exfalso; have := hB i (List.mem_range.2 (by omega)); rw [hanc 8] at this; cases this
    match i2, e21, e22, hp with
    | 0, _, _, hp => exact hp
    | 1, _, _, hp => exact WordsFr.le hp hl
    | 2, _, _, hp => exact hp
    | 3, _, _, hp => exact hp
    | 4, _, _, hp => exact WordFr.le hp hl
    | 5, _, _, hp => exact hp
    | 6, _, _, hp => exact WordsFr.le hp hl
    | 7, _, _, hp => exact hp
    | 8, _, _, hp => exact hp
    | 9, _, _, hp => exact WordFr.le hp hl
    | 10, _, _, hp => exact hp
    | 11, _, _, hp => exact WordsFr.le hp hl
    | 12, _, _, hp => exact hp
    | 13, _, _, hp => exact hp
    | 14, _, _, hp => exact hp
    | 15, _, _, hp => exact WordFr.le hp hl
    | 16, _, _, hp => exact hp
    | 17, _, _, hp => exact hp
    | 18, _, _, hp => exact hp
    | 19, _, _, hp => exact hp
    | 20, _, _, hp => exact WordsFr.le hp hl
    | 21, e, _, _ => exact absurd rfl e
    | 22, _, e, _ => exact absurd rfl e
    | q + 23, _, _, _ => simp [condP]

set_option maxRecDepth 100000 in
set_option maxHeartbeats 8000000 in
theorem cond_region (a₀ : Act) (w : World) (Q : Exit → Act → World → Prop) (B Bs : Nat) (v0 : Value) (acc : List (List UInt8)) (k j m N : Nat) (hj : j < 5) (hm : m < 5) (hN : N ≤ 1099511627776) (hG : Globals w) (ops : Array Oper) (hops : regOf Tryz.f8 14 = some ops)
    (h7 : a₀.tmps.getD 7 undef = v0) (h8 : a₀.tmps.getD 8 undef = .int .i64 (k : Int)) (h9 : a₀.tmps.getD 9 undef = .pointer (some ⟨B, 0, none⟩)) (hB : B < w.heap.size) (hown : OwnStrs Bs w v0 acc) (hBs : Bs ≤ w.heap.size) (hacc : acc.length ≤ 1000)
    (hc : CdAt w B 0 ⟨j, (m : Int) + 1, N⟩) (hz : a₀.tmps.size = 70)
    (hQ : ∀ (a : Act) (w' : World) (v' : Value), a.tmps.size = 70 → a.defers = a₀.defers → (∀ k, (k < 35 ∨ 56 < k) → k ≠ 7 → a.tmps.getD k undef = a₀.tmps.getD k undef) → a.tmps.getD 7 undef = v' → OwnStrs Bs w' v' (acc ++ [(if k = 0 then wWhen else wAnd), (varsW.getD j []), (opsW.getD m []), (Lib.decDigits N)]) → w.grownBy w' v0.ownBlock → Q .normal a w') :
    (Code.region 14 ops true).wp Tryz.prog Q a₀ w := by
  obtain rfl := Option.some.inj ((rfl : regOf Tryz.f8 14 = some _).symm.trans hops)
  clear hops
  have hj' : (j : Int) < 5 := by omega
  have hm' : (m : Int) < 5 := by omega
  have hzz := Lib.hid hz
  refine wp_region_mids (by kernel_rfl) (fun l _ => condExt w v0 l) (condP w.heap.size Bs B v0 acc k j m N) (condLe w.heap.size) (by kernel_rfl) (by rw [hz]; kernel_rfl) (by kernel_rfl) ?_ ?_ ?_ ?_
  · exact cond_stable (by kernel_rfl) (by kernel_rfl)
  · exact condExt_of (Below.refl _ _).drew
  · intro i listed a w' hM hi o ho
    have hlt := (Array.getElem?_eq_some_iff.1 ho).1
    have hE := hM.ext
    match i, hlt with
    | 0, _ =>
      obtain ⟨hlow, c0, c1, c2, hz, Ext, Le0, ExtB, LeB, HG⟩ := cond_pack hM hi (by kernel_rfl) (by decide) hB hc hG
      have d := hM.old hi 7 (by kernel_rfl) _ h7
      obtain rfl := Option.some.inj ho
      go_simp
      exact ⟨_, rfl, Ext.out, Le0.out, rfl⟩
    | 1, _ =>
      obtain ⟨hlow, c0, c1, c2, hz, Ext, Le0, ExtB, LeB, HG⟩ := cond_pack hM hi (by kernel_rfl) (by decide) hB hc hG
      obtain rfl := Option.some.inj ho
      go_simp
      exact ⟨_, rfl, ExtB.out _ ((Below.refl _ _).alloc (Nat.le_refl _) _), LeB.out _ ((Below.refl _ _).alloc (Nat.le_refl _) _), wordsFr_new _ [wWhen, wAnd] 9 _ rfl hz.out⟩
    | 2, _ =>
      obtain ⟨hlow, c0, c1, c2, hz, Ext, Le0, ExtB, LeB, HG⟩ := cond_pack hM hi (by kernel_rfl) (by decide) hB hc hG
      have d := hM.old hi 8 (by kernel_rfl) _ h8
      obtain rfl := Option.some.inj ho
      go_simp
      exact ⟨_, rfl, Ext.out, Le0.out, rfl⟩
    | 3, _ =>
      obtain ⟨hlow, c0, c1, c2, hz, Ext, Le0, ExtB, LeB, HG⟩ := cond_pack hM hi (by kernel_rfl) (by decide) hB hc hG
      have d1 : a.tmps[37]?.getD undef = .int .i64 (k : Int) := hM.dep hi 2 37 (by kernel_rfl) (by kernel_rfl)
      obtain rfl := Option.some.inj ho
      go_simp
      exact ⟨_, rfl, Ext.out, Le0.out, min_is k⟩
    | 4, _ =>
      obtain ⟨hlow, c0, c1, c2, hz, Ext, Le0, ExtB, LeB, HG⟩ := cond_pack hM hi (by kernel_rfl) (by decide) hB hc hG
      obtain ⟨b, d1, hn, hl, hcc⟩ : WordsFr w.heap.size w' (a.tmps[36]?.getD undef) [wWhen, wAnd] := hM.dep hi 1 36 (by kernel_rfl) (by kernel_rfl)
      have d2 : a.tmps[38]?.getD undef = .int .i64 ((if k = 0 then 0 else 1 : Nat) : Int) := hM.dep hi 3 38 (by kernel_rfl) (by kernel_rfl)
      have hk2 : (if k = 0 then 0 else 1 : Nat) < 2 := by split <;> omega
      have Hcell := Lib.hid ((hcc _ hk2).trans (word2_is k hk2))
      clear hcc
      simp only [show [wWhen, wAnd].length = 2 from rfl] at d1
      generalize hkk : (if k = 0 then 0 else 1 : Nat) = kk at d2 hk2 Hcell
      have Hkk := Lib.hid hkk
      clear hkk
      have hk3 : (kk : Int) < 2 := by omega
      obtain rfl := Option.some.inj ho
      go_simp
      exact ⟨_, rfl, Ext.out, Le0.out, b, by rw [Hkk.out], hn, hl, by rw [Hkk.out]; exact Hcell.out⟩
    | 5, _ =>
      obtain ⟨hlow, c0, c1, c2, hz, Ext, Le0, ExtB, LeB, HG⟩ := cond_pack hM hi (by kernel_rfl) (by decide) hB hc hG
      obtain ⟨b, d1, hn, hl, hcc⟩ : WordFr w.heap.size w' (a.tmps[39]?.getD undef) (if k = 0 then 0 else 1) (if k = 0 then wWhen else wAnd) := hM.dep hi 4 39 (by kernel_rfl) (by kernel_rfl)
      obtain rfl := Option.some.inj ho
      go_simp
      exact ⟨_, rfl, Ext.out, Le0.out, rfl⟩
    | 6, _ =>
      obtain ⟨hlow, c0, c1, c2, hz, Ext, Le0, ExtB, LeB, HG⟩ := cond_pack hM hi (by kernel_rfl) (by decide) hB hc hG
      obtain rfl := Option.some.inj ho
      go_simp
      refine (variables_fr _).mono ?_
      rintro e w2 ⟨v, rfl, hv, hb⟩
      exact ⟨v, rfl, ExtB.out _ hb, LeB.out _ hb, hv.fr hz.out⟩
    | 7, _ =>
      obtain ⟨hlow, c0, c1, c2, hz, Ext, Le0, ExtB, LeB, HG⟩ := cond_pack hM hi (by kernel_rfl) (by decide) hB hc hG
      have d := hM.old hi 9 (by kernel_rfl) _ h9
      obtain rfl := Option.some.inj ho
      go_simp
      exact ⟨_, rfl, Ext.out, Le0.out, rfl⟩
    | 8, _ =>
      obtain ⟨hlow, c0, c1, c2, hz, Ext, Le0, ExtB, LeB, HG⟩ := cond_pack hM hi (by kernel_rfl) (by decide) hB hc hG
      have d1 : a.tmps[42]?.getD undef = .pointer (some ⟨B, 0, none⟩) := hM.dep hi 7 42 (by kernel_rfl) (by kernel_rfl)
      obtain rfl := Option.some.inj ho
      go_simp
      exact ⟨_, rfl, Ext.out, Le0.out, rfl⟩
    | 9, _ =>
      obtain ⟨hlow, c0, c1, c2, hz, Ext, Le0, ExtB, LeB, HG⟩ := cond_pack hM hi (by kernel_rfl) (by decide) hB hc hG
      obtain ⟨b, d1, hn, hl, hcc⟩ : WordsFr w.heap.size w' (a.tmps[41]?.getD undef) varsW := hM.dep hi 6 41 (by kernel_rfl) (by kernel_rfl)
      have d2 : a.tmps[43]?.getD undef = .int .i64 (j : Int) := hM.dep hi 8 43 (by kernel_rfl) (by kernel_rfl)
      have Hcell := Lib.hid (hcc j hj)
      clear hcc
      simp only [show varsW.length = 5 from rfl] at d1
      obtain rfl := Option.some.inj ho
      go_simp
      exact ⟨_, rfl, Ext.out, Le0.out, b, rfl, hn, hl, Hcell.out.trans (getD_is' hj)⟩
    | 10, _ =>
      obtain ⟨hlow, c0, c1, c2, hz, Ext, Le0, ExtB, LeB, HG⟩ := cond_pack hM hi (by kernel_rfl) (by decide) hB hc hG
      obtain ⟨b, d1, hn, hl, hcc⟩ : WordFr w.heap.size w' (a.tmps[44]?.getD undef) j (varsW.getD j []) := hM.dep hi 9 44 (by kernel_rfl) (by kernel_rfl)
      obtain rfl := Option.some.inj ho
      go_simp
      exact ⟨_, rfl, Ext.out, Le0.out, rfl⟩
    | 11, _ =>
      obtain ⟨hlow, c0, c1, c2, hz, Ext, Le0, ExtB, LeB, HG⟩ := cond_pack hM hi (by kernel_rfl) (by decide) hB hc hG
      obtain rfl := Option.some.inj ho
      go_simp
      refine (comparisons_fr _).mono ?_
      rintro e w2 ⟨v, rfl, hv, hb⟩
      exact ⟨v, rfl, ExtB.out _ hb, LeB.out _ hb, hv.fr hz.out⟩
    | 12, _ =>
      obtain ⟨hlow, c0, c1, c2, hz, Ext, Le0, ExtB, LeB, HG⟩ := cond_pack hM hi (by kernel_rfl) (by decide) hB hc hG
      have d := hM.old hi 9 (by kernel_rfl) _ h9
      obtain rfl := Option.some.inj ho
      go_simp
      exact ⟨_, rfl, Ext.out, Le0.out, rfl⟩
    | 13, _ =>
      obtain ⟨hlow, c0, c1, c2, hz, Ext, Le0, ExtB, LeB, HG⟩ := cond_pack hM hi (by kernel_rfl) (by decide) hB hc hG
      have d1 : a.tmps[47]?.getD undef = .pointer (some ⟨B, 1, none⟩) := hM.dep hi 12 47 (by kernel_rfl) (by kernel_rfl)
      obtain rfl := Option.some.inj ho
      go_simp
      exact ⟨_, rfl, Ext.out, Le0.out, rfl⟩
    | 14, _ =>
      obtain ⟨hlow, c0, c1, c2, hz, Ext, Le0, ExtB, LeB, HG⟩ := cond_pack hM hi (by kernel_rfl) (by decide) hB hc hG
      have d1 : a.tmps[48]?.getD undef = .int .i64 ((m : Int) + 1) := hM.dep hi 13 48 (by kernel_rfl) (by kernel_rfl)
      obtain rfl := Option.some.inj ho
      go_simp
      exact ⟨_, rfl, Ext.out, Le0.out, congrArg (Value.int .i64) (IntWalk.i64_in _ (by omega))⟩
    | 15, _ =>
      obtain ⟨hlow, c0, c1, c2, hz, Ext, Le0, ExtB, LeB, HG⟩ := cond_pack hM hi (by kernel_rfl) (by decide) hB hc hG
      obtain ⟨b, d1, hn, hl, hcc⟩ : WordsFr w.heap.size w' (a.tmps[46]?.getD undef) opsW := hM.dep hi 11 46 (by kernel_rfl) (by kernel_rfl)
      have d2 : a.tmps[49]?.getD undef = .int .i64 (m : Int) := hM.dep hi 14 49 (by kernel_rfl) (by kernel_rfl)
      have Hcell := Lib.hid (hcc m hm)
      clear hcc
      simp only [show opsW.length = 5 from rfl] at d1
      obtain rfl := Option.some.inj ho
      go_simp
      exact ⟨_, rfl, Ext.out, Le0.out, b, rfl, hn, hl, Hcell.out.trans (getD_is' hm)⟩
    | 16, _ =>
      obtain ⟨hlow, c0, c1, c2, hz, Ext, Le0, ExtB, LeB, HG⟩ := cond_pack hM hi (by kernel_rfl) (by decide) hB hc hG
      obtain ⟨b, d1, hn, hl, hcc⟩ : WordFr w.heap.size w' (a.tmps[50]?.getD undef) m (opsW.getD m []) := hM.dep hi 15 50 (by kernel_rfl) (by kernel_rfl)
      obtain rfl := Option.some.inj ho
      go_simp
      exact ⟨_, rfl, Ext.out, Le0.out, rfl⟩
    | 17, _ =>
      obtain ⟨hlow, c0, c1, c2, hz, Ext, Le0, ExtB, LeB, HG⟩ := cond_pack hM hi (by kernel_rfl) (by decide) hB hc hG
      have d := hM.old hi 9 (by kernel_rfl) _ h9
      obtain rfl := Option.some.inj ho
      go_simp
      exact ⟨_, rfl, Ext.out, Le0.out, rfl⟩
    | 18, _ =>
      obtain ⟨hlow, c0, c1, c2, hz, Ext, Le0, ExtB, LeB, HG⟩ := cond_pack hM hi (by kernel_rfl) (by decide) hB hc hG
      have d1 : a.tmps[52]?.getD undef = .pointer (some ⟨B, 2, none⟩) := hM.dep hi 17 52 (by kernel_rfl) (by kernel_rfl)
      obtain rfl := Option.some.inj ho
      go_simp
      exact ⟨_, rfl, Ext.out, Le0.out, rfl⟩
    | 19, _ =>
      obtain ⟨hlow, c0, c1, c2, hz, Ext, Le0, ExtB, LeB, HG⟩ := cond_pack hM hi (by kernel_rfl) (by decide) hB hc hG
      have d1 : a.tmps[53]?.getD undef = .int .i64 (N : Int) := hM.dep hi 18 53 (by kernel_rfl) (by kernel_rfl)
      obtain rfl := Option.some.inj ho
      go_simp
      refine (itoa_is N (by omega) _ HG.out).mono ?_
      rintro e w2 ⟨rfl, hb⟩
      exact ⟨_, rfl, ExtB.out _ hb, LeB.out _ hb, rfl⟩
    | 20, _ =>
      obtain ⟨hlow, c0, c1, c2, hz, Ext, Le0, ExtB, LeB, HG⟩ := cond_pack hM hi (by kernel_rfl) (by decide) hB hc hG
      have d1 : a.tmps[40]?.getD undef = strV (if k = 0 then wWhen else wAnd) := hM.dep hi 5 40 (by kernel_rfl) (by kernel_rfl)
      have d2 : a.tmps[45]?.getD undef = strV (varsW.getD j []) := hM.dep hi 10 45 (by kernel_rfl) (by kernel_rfl)
      have d3 : a.tmps[51]?.getD undef = strV (opsW.getD m []) := hM.dep hi 16 51 (by kernel_rfl) (by kernel_rfl)
      have d4 : a.tmps[54]?.getD undef = strV (Lib.decDigits N) := hM.dep hi 19 54 (by kernel_rfl) (by kernel_rfl)
      unfold strV at d1 d2 d3 d4
      obtain rfl := Option.some.inj ho
      go_simp
      exact ⟨_, rfl, ExtB.out _ ((Below.refl _ _).alloc (Nat.le_refl _) _), LeB.out _ ((Below.refl _ _).alloc (Nat.le_refl _) _), wordsFr_new _ [(if k = 0 then wWhen else wAnd), (varsW.getD j []), (opsW.getD m []), (Lib.decDigits N)] 9 _ rfl hz.out⟩
    | 21, _ =>
      have d1 : a.tmps[35]?.getD undef = v0 := hM.dep hi 0 35 (by kernel_rfl) (by kernel_rfl)
      obtain ⟨b, d2, hn, hl, hcc⟩ : WordsFr w.heap.size w' (a.tmps[55]?.getD undef) [(if k = 0 then wWhen else wAnd), (varsW.getD j []), (opsW.getD m []), (Lib.decDigits N)] := hM.dep hi 20 55 (by kernel_rfl) (by kernel_rfl)
      have hun : listed.getD 21 false = false := by
        have hu := (mem_ready.1 hi).1
        rw [Bool.eq_false_iff]; intro hl
        have hlt := getD_true_lt hl
        simp [hlt] at hu hl
        rw [hl] at hu; cases hu
      have hlow := hM.ext.2 hun
      obtain rfl := Option.some.inj ho
      obtain ⟨i0, hi0, hz0, hz1, hz2⟩ := info_parts Tryz.info9'
      have hown' : OwnStrs Bs w' v0 acc := by
        exact World.ownsRow.kept (w := w) (row := none) hown ⟨hlow.os, hlow.tape, hlow.output, hlow.size, fun k hk _ => hlow.block k hk⟩ (by cases v0.ownBlock <;> simp)
      refine wp_append_own w' (.tmp 35) (.tmp 55) 46 rfl Bs 9 i0 _ 1 16 Tryz.underlying46 hi0 hz0 hz1 hz2 rfl (by decide) v0 acc.length _ (by simpa [Act.eval] using d1) hown' ⟨b, 0, none⟩ 4 4 ([(if k = 0 then wWhen else wAnd), (varsW.getD j []), (opsW.getD m []), (Lib.decDigits N)].map strV) (by simpa [Act.eval] using d2) rfl ?_ ?_ (by unfold maxLen; omega) (by omega) (by have := hlow.size; omega) ?_
      · intro q u hq
        have hql : q < [(if k = 0 then wWhen else wAnd), (varsW.getD j []), (opsW.getD m []), (Lib.decDigits N)].length := by
          have := (List.getElem?_eq_some_iff.1 hq).1
          simpa using this
        have he : strV ([(if k = 0 then wWhen else wAnd), (varsW.getD j []), (opsW.getD m []), (Lib.decDigits N)][q]'hql) = u := by
          rw [List.getElem?_map, List.getElem?_eq_getElem hql] at hq
          simpa using hq
        have := hcc q hql
        rw [he] at this
        have e : (⟨b, 0, none⟩ : Addr).add q = ⟨b, q, none⟩ := by unfold Addr.add; split <;> simp_all
        rw [e]; exact this
      · intro u hu
        simp only [List.map_cons, List.map_nil, List.mem_cons, List.not_mem_nil, or_false] at hu
        rcases hu with rfl | rfl | rfl | rfl <;> rfl
      · intro v' w2 hown2 hg _
        refine ⟨v', rfl, ⟨⟨hg.os.trans hlow.os, hg.tape.trans hlow.tape, hg.output.trans hlow.output, Nat.le_trans hlow.size hg.size, fun q hq hne => (hg.block q (Nat.lt_of_lt_of_le hq hlow.size) hne).trans (hlow.block q hq)⟩, fun h => ?_⟩, ⟨⟨hg.size, fun q hq hl2 => hg.block q hl2 (fun e => ?_)⟩, fun h => by omega⟩, ?_⟩
        · exfalso
          have hs := hM.size
          simp [hs] at h
        · have := (World.ownsRow.lt hown q e.symm).2
          omega
        · unfold condP OwnStrs
          rw [List.map_append, List.length_append]
          exact hown2
    | 22, _ =>
      have d1 : OwnStrs Bs w' (a.tmps[56]?.getD undef) (acc ++ [(if k = 0 then wWhen else wAnd), (varsW.getD j []), (opsW.getD m []), (Lib.decDigits N)]) := hM.dep hi 21 56 (by kernel_rfl) (by kernel_rfl)
      obtain rfl := Option.some.inj ho
      go_simp
      refine ⟨_, rfl, ⟨hM.ext.1, fun h => hM.ext.2 ?_⟩, ⟨LeT.of_below (Below.refl _ _), fun _ => rfl⟩, d1⟩
      rw [getD_set_ne false (by decide)] at h
      exact h
    | i + 23, h => exact absurd (show i + 23 < 23 from h) (by omega)
  · intro listed a w' hall hM
    have d1 : OwnStrs Bs w' (a.tmps.getD 7 undef) (acc ++ [(if k = 0 then wWhen else wAnd), (varsW.getD j []), (opsW.getD m []), (Lib.decDigits N)]) := hM.done 22 (hall 22 (by decide)) _ 7 rfl rfl
    refine hQ a w' _ (hM.tmps.trans hz) hM.defers (fun k hk hk5 => hM.free k fun m hm o ho hd => ?_) rfl d1 hM.ext.1
    have hs : slotIn2 o.dst = true := all_get (p := fun o => slotIn2 o.dst) (by kernel_rfl) ho
    rw [hd] at hs
    simp only [slotIn2, Bool.or_eq_true, Bool.and_eq_true, decide_eq_true_eq] at hs
    exact (show ¬ ((35 ≤ k ∧ k ≤ 56) ∨ k = 7) from by omega) hs

end Go.Proofs.YtlaifodlnolndaaGreatDoor

/- The words that the program's Print writes: plain Lean. -/
namespace Go.Proofs.YtlaifodlnolndaaGreatDoor
open Go.RowKit

def condWs (b : Bool) (c : Cd) : List (List UInt8) := [if b then wWhen else wAnd, varsW.getD c.v.toNat [], opsW.getD (c.op - 1).toNat [], Lib.decDigits c.n.toNat]
def wordsTo : Bool → List Cd → List (List UInt8)
  | _, [] => []
  | b, c :: r => condWs b c ++ wordsTo false r
theorem wordsTo_snoc : ∀ (r : List Cd) (b : Bool) (c : Cd), wordsTo b (r ++ [c]) = wordsTo b r ++ condWs (b && r.isEmpty) c
  | [], b, c => by simp [wordsTo]
  | d :: r, b, c => by rw [List.cons_append, wordsTo, wordsTo_snoc r false c, wordsTo]; simp
theorem wordsTo_step {cs : List Cd} {k : Nat} (h : k < cs.length) : wordsTo true (cs.take (k + 1)) = wordsTo true (cs.take k) ++ condWs (k == 0) cs[k] := by
  rw [List.take_succ_eq_append_getElem h, wordsTo_snoc]
  congr 2
  cases k with
  | zero => rfl
  | succ k =>
    cases cs with
    | nil => simp at h
    | cons c r => rfl
theorem wordsTo_len : ∀ (r : List Cd) (b : Bool), (wordsTo b r).length = 4 * r.length
  | [], _ => rfl
  | c :: r, b => by rw [wordsTo, List.length_append, wordsTo_len r false]; simp [condWs]; omega
theorem condWs_is (b : Bool) (j m N : Nat) : condWs b ⟨j, (m : Int) + 1, N⟩ = [if b then wWhen else wAnd, varsW.getD j [], opsW.getD m [], Lib.decDigits N] := by
  unfold condWs
  have e : (((m : Int) + 1 - 1).toNat) = m := by omega
  simp only [e, Int.toNat_natCast]
theorem printC_step {ls : List Ln} {i : Nat} (h : i < ls.length) : printC (ls.take (i + 1)) = printC (ls.take i) ++ printLn ls[i] := by
  rw [List.take_succ_eq_append_getElem h, printC_append]
  simp [printC]
/- the words of a line's conditions -/
def lineWs (cs : List Cd) : List (List UInt8) := if cs = [] then [wAlways] else wordsTo true cs
theorem wordsTo_map : ∀ r : List Cd, (r.flatMap (condToks false)).map wordOf = wordsTo false r
  | [] => rfl
  | c :: r => by
    rw [List.flatMap_cons, List.map_append, wordsTo_map r, wordsTo]
    rfl
theorem line_words (cs : List Cd) : (condsToks cs).map wordOf = lineWs cs := by
  unfold lineWs
  cases cs with
  | nil => simp [condsToks, tokW, wordOf, mk]
  | cons c r =>
    rw [if_neg (by simp), condsToks, List.map_append, wordsTo_map r, wordsTo]
    rfl
theorem line_join (x : Ln) : Lib.join (lineWs x.conds ++ [wSet, Lib.decDigits x.set.toNat, [59]]) [32] = joinW (lineToks x) := by
  unfold joinW lineToks
  rw [List.map_append, line_words]
  simp [tokW, tokN, tokS, wordOf, mk]
theorem word_short {t : Tok} (h : validB t = true) : (wordOf t).length ≤ 32 := by
  unfold wordOf
  by_cases h2 : t.kind = 2
  · rw [if_pos h2]
    have h1 : (t.kind == 1) = false := by rw [h2]; rfl
    rw [valid_number h1 (by rw [h2]; rfl)] at h
    simp only [Bool.and_eq_true, decide_eq_true_eq] at h
    exact Nat.le_trans (dec_len 13 _ (by omega)) (by decide)
  · rw [if_neg h2]
    by_cases h1 : (t.kind == 1) = true
    · rw [valid_name h1] at h
      simp only [Bool.and_eq_true] at h
      have hn := h.1
      generalize t.text.data.toList = l at hn ⊢
      cases l with
      | nil => simp
      | cons c r =>
        simp only [nameB, Bool.and_eq_true, decide_eq_true_eq] at hn
        exact hn.1.1
    · unfold validB at h
      rw [if_neg h1, if_neg (by simpa using h2)] at h
      split at h
      · simp only [Bool.and_eq_true] at h
        have hn := h.1
        generalize t.text.data.toList = l at hn ⊢
        match l, hn with
        | [c], _ => simp
      · cases h
theorem tail_short : ∀ ts : List Tok, (∀ t ∈ ts, (wordOf t).length ≤ 32) → (Lib.joinTail [32] (ts.map wordOf)).length ≤ 33 * ts.length
  | [], _ => by simp [Lib.joinTail]
  | t :: r, h => by
    rw [List.map_cons, joinTail_cons, List.length_cons, List.length_append, List.length_cons]
    have h1 := h t (by simp)
    have h2 := tail_short r (fun u hu => h u (by simp [hu]))
    omega
theorem condsToks_count (cs : List Cd) : (condsToks cs).length ≤ 4 * cs.length + 1 := by
  have := congrArg List.length (line_words cs)
  rw [List.length_map] at this
  rw [this]
  unfold lineWs
  split
  · simp
  · rw [wordsTo_len]; omega
theorem line_len {x : Ln} (h : okLn x = true) : (joinW (lineToks x)).length ≤ 700 := by
  have h1 := joinW_le (lineToks x)
  have h2 := tail_short (lineToks x) (fun t ht => word_short (List.all_eq_true.1 (lineToks_valid h) t ht))
  have h3 := condsToks_count x.conds
  have h4 := (okLn_parts h).1
  have h5 : (lineToks x).length = (condsToks x.conds).length + 3 := by unfold lineToks; simp
  omega

theorem printC_len {ls : List Ln} (h : ∀ x ∈ ls, okLn x = true) : ∀ i, (printC (ls.take i)).length ≤ 701 * i
  | 0 => by simp [printC]
  | i + 1 => by
    by_cases hi : i < ls.length
    · rw [printC_step hi, List.length_append]
      have h1 := printC_len h i
      have h2 := line_len (h _ (List.getElem_mem hi))
      unfold printLn
      rw [List.length_append]
      simp only [List.length_cons, List.length_nil]
      omega
    · have : ls.take (i + 1) = ls.take i := by rw [List.take_of_length_le (by omega), List.take_of_length_le (by omega)]
      rw [this]
      have := printC_len h i
      omega

end Go.Proofs.YtlaifodlnolndaaGreatDoor

/- Writing a gate program: the program's Print. -/
namespace Go.Proofs.YtlaifodlnolndaaGreatDoor
open Go.RowKit

theorem new3 (w : World) (a b c : List UInt8) : ∀ i (h : i < [a, b, c].length), (w.alloc (.cells #[.string ⟨a.toArray⟩, .string ⟨b.toArray⟩, .string ⟨c.toArray⟩] 9)).cell? ⟨w.heap.size, i, none⟩ = some (strV ([a, b, c][i]'h)) := by
  intro i h
  match i, h with
  | 0, _ => simp [go_sem, strV]
  | 1, _ => simp [go_sem, strV]
  | 2, _ => simp [go_sem, strV]
theorem append_words {ops : Array Oper} {rest : List Oper} {o : Oper} {a : Act} {Q : Exit → Act → World → Prop} {w : World} (B : Nat) (hgd : o.guard = none) (s x : Operand)
    (ho : o.op = .call { callee := .builtin .append, args := #[s, x], argTypes := #[46, 46] }) (v : Value) (acc : List (List UInt8)) (hs : a.eval s = v) (hown : OwnStrs B w v acc)
    (ws : List (List UInt8)) (g : Nat) (hx : a.eval x = .slice (some ⟨g, 0, none⟩) ws.length ws.length) (hc : ∀ i (h : i < ws.length), w.cell? ⟨g, i, none⟩ = some (strV ws[i])) (hlen : acc.length + ws.length ≤ 1000000) (hbase : B ≤ w.heap.size)
    (h : ∀ v' w', OwnStrs B w' v' (acc ++ ws) → w.grownBy w' v.ownBlock → wpList Tryz.prog ops Q rest (a.put o.dst v') w') : wpList Tryz.prog ops Q (o :: rest) a w := by
  obtain ⟨i0, hi, hz0, hz1, hz2⟩ := info_parts Tryz.info9'
  refine wpList_append_own w hgd s x 46 ho B 9 i0 _ 1 16 Tryz.underlying46 hi hz0 hz1 hz2 rfl (by decide) v acc.length _ hs hown ⟨g, 0, none⟩ ws.length ws.length (ws.map strV) hx (by simp) ?_ ?_ (by unfold maxLen; omega) (by omega) hbase ?_
  · intro q u hq
    have hql : q < ws.length := by
      have := (List.getElem?_eq_some_iff.1 hq).1
      simpa using this
    have he : strV (ws[q]'hql) = u := by
      rw [List.getElem?_map, List.getElem?_eq_getElem hql] at hq
      simpa using hq
    have := hc q hql
    rw [he] at this
    have e : (⟨g, 0, none⟩ : Addr).add q = ⟨g, q, none⟩ := by unfold Addr.add; split <;> simp_all
    rw [e]; exact this
  · intro u hu
    obtain ⟨l, _, rfl⟩ := List.mem_map.1 hu
    rfl
  · intro v' w' hown' hg _
    refine h v' w' ?_ hg
    unfold OwnStrs
    rw [List.map_append, List.length_append]
    exact hown'
/- the words of a slice of the call's own, joined -/
theorem join_own {B : Nat} {w : World} {v : Value} {acc : List (List UInt8)} (h : OwnStrs B w v acc) (hne : 0 < acc.length) (hlen : (Lib.join acc [32]).length ≤ 140737488355328) (hn : acc.length ≤ 1000000) :
    Calls Tryz.prog 21 #[v, .string ⟨#[32]⟩] w fun e w' => e = .returned (.string ⟨(Lib.join acc [32]).toArray⟩) ∧ Below w.heap.size w w' := by
  have h' := h
  unfold OwnStrs at h'
  rcases h'.2 with ⟨_, h0⟩ | ⟨g, cap, cur, rfl, hb, hg, hcap, _⟩
  · omega
  · have hcells := World.ownsRow.cells h (g := g) rfl
    have hmap : (acc.map fun l => (⟨l.toArray⟩ : ByteArray)).map (·.data.toList) = acc := by
      rw [List.map_map]; exact List.map_id'' (fun _ => rfl) _
    have := Tryz.strings_Join g 0 cap (acc.map fun l => (⟨l.toArray⟩ : ByteArray)) ⟨#[32]⟩ w (fun j x hx => by
      rw [List.getElem?_map] at hx
      have := hcells j (.string x) (by rw [List.getElem?_map]; cases hj : acc[j]? with
        | none => rw [hj] at hx; cases hx
        | some l => rw [hj] at hx; cases hx; rfl)
      have e : (⟨g, 0, none⟩ : Addr).add j = ⟨g, 0 + j, none⟩ := by unfold Addr.add; split <;> simp_all
      rw [e] at this; exact this) (Array.getElem?_eq_some_iff.1 hg).1 (by simp; omega) (by simpa using hcap) (by rw [hmap]; exact hlen)
    rw [hmap, List.length_map] at this
    exact this
theorem IsBuilder.below {T e : TypeId} {B b : Nat} {bs : List Value} {w w' : World} (h : Lib.IsBuilder T e B b bs w) (hb : Below w.heap.size w w') : Lib.IsBuilder T e B b bs w' := by
  have key : ∀ p, Lib.BuilderAt T e B b p bs w → Lib.BuilderAt T e B b p bs w' := by
    intro p hp
    have hlt := hp.lt
    obtain ⟨h1, v, h2, h3, h4⟩ := hp
    exact ⟨h1, v, (hb.block b hlt).trans h2, World.ownsRow.kept (row := none) h3 ⟨hb.os, hb.tape, hb.output, hb.size, fun k hk _ => hb.block k hk⟩ (by cases v.ownBlock <;> simp), h4⟩
  exact h.imp (key _) (key _)

set_option maxRecDepth 100000 in
set_option maxHeartbeats 2000000 in
theorem print_yes (v : Value) (ls : List Ln) (w : World) (h : IsLns w v ls) (hok : okC ls = true) (hG : Globals w) :
    Calls Tryz.prog 8 #[.agg #[v]] w fun e w' => e = .returned (.tuple #[.string ⟨(printC ls).toArray⟩, .int .i64 0]) ∧ Below w.heap.size w w' := by
  have H := Lib.hid h
  have HK := Lib.hid (okE_yes hok)
  have h64 := (okC_parts hok).1
  have Hin := Lib.hid (okC_parts hok).2
  have HG := Lib.hid hG
  obtain ⟨hl, a, cap, rfl, hr⟩ := h
  have Hr := Lib.hid hr; clear hr hok hG
  generalize hn : ls.length = n at hl h64 H ⊢
  have Hn := Lib.hid hn; clear hn
  go_enter Tryz.func8, Tryz.ntmps8
  go_wp2_with fail
  have hB0 : Below w.heap.size w (w.alloc (.cells #[.slice a n cap] 25)) := (Below.refl _ _).alloc (Nat.le_refl _) _
  have hc0 : (w.alloc (.cells #[.slice a n cap] 25)).cell? ⟨w.heap.size, 0, none⟩ = some (.slice a n cap) := boxed
  have hz0 : w.heap.size < (w.alloc (.cells #[.slice a n cap] 25)).heap.size := by simp
  generalize (w.alloc (.cells #[.slice a n cap] 25)) = wb at hB0 hc0 hz0 ⊢
  with_reducible refine (check_any _ ls wb (H.out.below hB0)).mono ?_
  rintro e w1 ⟨rfl, hb⟩
  rw [HK.out]
  have HB0 := Lib.hid (hB0.trans (hb.mono (by omega)))
  have cB := (hb.cell (p := ⟨w.heap.size, 0, none⟩) hz0).trans hc0
  have hz1 := Nat.lt_of_lt_of_le hz0 hb.size
  clear hB0 hc0 hz0 hb H
  go_wp2_with fail
  have hbl0 : Lib.IsBuilder 61 5 w.heap.size w1.heap.size (Lib.byteCells []) (w1.alloc (.cells #[.pointer none, .slice none 0 0] 61)) :=
    .inl ⟨by omega, .slice none 0 0, heap_new _ _ _ rfl, World.ownsRow_nil _ _ _ _, by simp [Value.ownBlock]⟩
  have HBl := Lib.hid hbl0
  have HB1 := Lib.hid (HB0.out.alloc (by omega) (.cells #[.pointer none, .slice none 0 0] 61))
  have hz2 : w1.heap.size < (w1.alloc (.cells #[.pointer none, .slice none 0 0] 61)).heap.size := by simp
  generalize (w1.alloc (.cells #[.pointer none, .slice none 0 0] 61)) = ws at HBl HB1 hz2 ⊢
  clear hbl0
  go_loopw [18] (fun iv wr => ∃ (i : Nat), iv = .int .i64 i ∧ i ≤ n ∧ w1.heap.size < wr.heap.size ∧ Hid (Lib.IsBuilder 61 5 w.heap.size w1.heap.size (Lib.byteCells (printC (ls.take i))) wr) ∧ Hid (Below w.heap.size w wr)) (fun iv _ => n - (intOf iv).toNat)
  case atStart => exact ⟨0, rfl, Nat.zero_le _, hz2, HBl, HB1⟩
  case round =>
    obtain ⟨i, rfl, hi, hzr, HBi, HB⟩ := hrel
    obtain ⟨wo, rfl⟩ : ∃ wo : World, wo = wr := ⟨_, rfl⟩
    clear HBl HB1
    by_cases hlt : i < n
    · have hil : i < ls.length := by rw [Hn.out]; exact hlt
      obtain ⟨b, o, rfl, hbl, hln⟩ := Hr.out i hil
      obtain ⟨vc, c0, ⟨hcl, ac, capc, rfl, hcr⟩, c1⟩ := hln.below HB.out hbl
      have hbl2 := Nat.lt_of_lt_of_le hbl HB.out.size
      have Hok := Lib.hid (okLn_parts (Hin.out _ (List.getElem_mem hil)))
      have HX := Lib.hid (printC_step hil)
      have HokL := Lib.hid (Hin.out _ (List.getElem_mem hil))
      have HGr := Lib.hid (HG.out.below HB.out (globals_size HG.out))
      clear hln
      generalize ls[i] = x at *
      obtain ⟨cds, st⟩ := x
      dsimp only at c0 c1 hcl hcr
      have Hcr := Lib.hid hcr; clear hcr
      have h4 := Hok.out.1
      dsimp only at h4
      generalize hm : cds.length = m at hcl c0 h4
      have Hm := Lib.hid hm; clear hm
      have HB2 := Lib.hid ((Below.refl wo.heap.size wo).alloc (Nat.le_refl _) (.cells #[.slice ac m capc, .int .i64 st] 35))
      have K1 := Lib.hid (boxed2 (w := wo) (v := .slice ac m capc) (u := .int .i64 st) (t := 35)).2
      by_cases hm0 : m = 0
      · have hmp : ¬ 0 < m := by omega
        rw [hm0] at HB2 K1
        go_wp2_with fail
        have hza : wo.heap.size < (wo.alloc (.cells #[.slice ac 0 capc, .int .i64 st] 35)).heap.size := by simp
        have HBa := Lib.hid ((Below.refl (wo.heap.size + 1) (wo.alloc (.cells #[.slice ac 0 capc, .int .i64 st] 35))).alloc (by simp) (.cells #[.string ⟨#[97, 108, 119, 97, 121, 115]⟩] 9))
        have HOwn : Hid (OwnStrs (wo.heap.size + 1) ((wo.alloc (.cells #[.slice ac 0 capc, .int .i64 st] 35)).alloc (.cells #[.string ⟨#[97, 108, 119, 97, 121, 115]⟩] 9)) (.slice (some ⟨wo.heap.size + 1, 0, none⟩) 1 1) ([wAlways] ++ wordsTo true (cds.take 0))) :=
          ⟨rfl, .inr ⟨wo.heap.size + 1, 1, #[.string ⟨#[97, 108, 119, 97, 121, 115]⟩], rfl, Nat.le_refl _, heap_new _ _ _ (by simp), Nat.le_refl 1, by decide, rfl, rfl⟩⟩
        generalize ((wo.alloc (.cells #[.slice ac 0 capc, .int .i64 st] 35)).alloc (.cells #[.string ⟨#[97, 108, 119, 97, 121, 115]⟩] 9)) = wi at HBa HOwn ⊢
        generalize (wo.alloc (.cells #[.slice ac 0 capc, .int .i64 st] 35)) = wa at HB2 K1 hza HBa
        clear c0 cB
        go_loopw [7, 30] (fun vv kv wk => ∃ (v' : Value) (k : Nat), v' = vv ∧ kv = .int .i64 k ∧ k ≤ m ∧ Hid (OwnStrs (wo.heap.size + 1) wk v' ([wAlways] ++ wordsTo true (cds.take k))) ∧ Hid (Below (wo.heap.size + 1) wa wk)) (fun _ kv _ => m - (intOf kv).toNat)
        case atStart => exact ⟨_, 0, rfl, rfl, Nat.zero_le _, HOwn, HBa⟩
        case round =>
          obtain ⟨v', k, rfl, rfl, hk, HO, HBk⟩ := hrel
          have HBw := Lib.hid (HB2.out.trans (HBk.out.mono (Nat.le_succ _)))
          have k1 := (HBk.out.cell (p := ⟨wo.heap.size, 1, none⟩) (Nat.lt_succ_self _)).trans K1.out
          have hzk : wo.heap.size + 1 ≤ wr.heap.size := Nat.le_trans hza HBk.out.size
          by_cases hkt : k < m
          · exact absurd hkt (by omega)
          · have hkm : k = m := by omega
            have hfull : wordsTo true (cds.take k) = wordsTo true cds := by rw [List.take_of_length_le (l := cds) (by rw [Hm.out]; omega)]
            rw [hfull] at HO
            have hlen : ([wAlways] ++ wordsTo true cds).length ≤ 1000 := by
              have := wordsTo_len cds true
              rw [Hm.out] at this
              rw [List.length_append]; simp; omega
            clear hfull
            obtain ⟨jn, rfl⟩ : ∃ j : Nat, st = (j : Int) := ⟨st.toNat, by have := inNum_le (show inNum st = true from Hok.out.2.1); omega⟩
            have q3 : jn ≤ 1099511627776 := by have := inNum_le (show inNum (jn : Int) = true from Hok.out.2.1); omega
            have Hit := Lib.hid (fun W hg => itoa_is jn (by omega) W hg)
            have HG2 := Lib.hid (HGr.out.next HBw.out)
            go_wp2_with fail
            refine (Hit.out _ HG2.out).mono ?_
            rintro e w2 ⟨rfl, hb2⟩
            have HB5 := Lib.hid hb2
            have hO2 : OwnStrs (wo.heap.size + 1) w2 v' ([wAlways] ++ wordsTo true cds) := World.ownsRow.kept (row := none) HO.out ⟨hb2.os, hb2.tape, hb2.output, hb2.size, fun q hq _ => hb2.block q hq⟩ (by cases v'.ownBlock <;> simp)
            have HO2 := Lib.hid hO2
            have hzz := Nat.le_trans hzk hb2.size
            clear hb2 hO2
            unfold mk
            go_wp2_with (at_builtin; (refine append_words (wo.heap.size + 1) rfl _ _ rfl v' _ rfl (World.ownsRow.alloc HO2.out _) [wSet, Lib.decDigits jn, [59]] w2.heap.size rfl (new3 w2 _ _ _) (Nat.le_trans (Nat.add_le_add_right hlen 3) (by decide)) (by simp; omega) ?_); intro v3 w3 hown3 hg3)
            have hwords : [wAlways] ++ wordsTo true cds = lineWs cds := by have e : cds = [] := List.eq_nil_of_length_eq_zero (Hm.out.trans hm0); rw [e]; rfl
            rw [hwords] at hown3
            have hjl : Lib.join (lineWs cds ++ [wSet, Lib.decDigits jn, [59]]) [32] = joinW (lineToks ⟨cds, (jn : Int)⟩) := line_join ⟨cds, (jn : Int)⟩
            have hjn := line_len HokL.out
            have hbT : Below wo.heap.size wo w3 := (((HBw.out.trans (HB5.out.mono (by omega))).alloc (by omega) _)).grown hg3 (by simp; omega) (fun q hq => by have := (World.ownsRow.lt HO2.out q hq).1; omega)
            refine (join_own hown3 (by simp) (by rw [hjl]; omega) (by rw [← hwords, List.length_append]; exact Nat.le_trans (Nat.add_le_add_right hlen 3) (by decide))).mono ?_
            rw [hjl]
            rintro e w4 ⟨rfl, hb4⟩
            have HP := Lib.hid (show joinW (lineToks ⟨cds, (jn : Int)⟩) ++ [10] = printLn ⟨cds, (jn : Int)⟩ from rfl)
            generalize joinW (lineToks ⟨cds, (jn : Int)⟩) = J at hjn hjl HP ⊢
            have hzJ : ¬ 9223372036854775807 < J.length + 1 := by omega
            have hBl4 := IsBuilder.below HBi.out (hbT.trans (hb4.mono hbT.size))
            have HBl4 := Lib.hid hBl4
            have HB6 := Lib.hid (HB.out.trans ((hbT.trans (hb4.mono hbT.size)).mono HB.out.size))
            have hplen : (Lib.byteCells (printC (ls.take i))).length ≤ 701 * i := by
              unfold Lib.byteCells
              rw [List.length_map]
              exact printC_len Hin.out i
            have hz4 : w1.heap.size < w4.heap.size := Nat.lt_of_lt_of_le hzr (Nat.le_trans hbT.size hb4.size)
            clear hwords hjl hbT hb4 hBl4 hown3 hg3
            go_wp2_with fail
            refine (Tryz.Builder_WriteString w.heap.size w1.heap.size _ _ _ HBl4.out ?_ (by omega)).mono ?_
            · rw [ByteArray.size_append]
              show _ + (J.length + 1) ≤ _
              omega
            rintro e w5 ⟨rfl, hbl5, hb5⟩
            have hbs : Lib.byteCells (printC (ls.take i)) ++ Lib.strCells ((⟨J.toArray⟩ : ByteArray) ++ ⟨#[10]⟩) = Lib.byteCells (printC (ls.take (i + 1))) := by
              rw [HX.out, ← HP.out, Lib.byteCells_append, Lib.strCells_eq, str_app]
            rw [hbs] at hbl5
            have HBl5 := Lib.hid hbl5
            have HB7 := Lib.hid (HB6.out.trans hb5)
            have hz5 : w1.heap.size < w5.heap.size := Nat.lt_of_lt_of_le hz4 hb5.size
            clear hbl5 hb5 hbs hplen
            go_wp2
            exact ⟨⟨i + 1, by go_num, by omega, hz5, .inr HBl5.out, HB7⟩, by simp [intOf]; omega⟩
      · have hmp : 0 < m := by omega
        go_wp2_with fail
        have hza : wo.heap.size < (wo.alloc (.cells #[.slice ac m capc, .int .i64 st] 35)).heap.size := by simp
        have HBa := Lib.hid ((Below.refl (wo.heap.size + 1) (wo.alloc (.cells #[.slice ac m capc, .int .i64 st] 35))).alloc (by simp) (.cells #[.string ⟨#[97, 108, 119, 97, 121, 115]⟩] 9))
        have HOwn : Hid (OwnStrs (wo.heap.size + 1) ((wo.alloc (.cells #[.slice ac m capc, .int .i64 st] 35)).alloc (.cells #[.string ⟨#[97, 108, 119, 97, 121, 115]⟩] 9)) (.slice none 0 0) ([] ++ wordsTo true (cds.take 0))) := World.ownsRow_nil _ _ _ _
        generalize ((wo.alloc (.cells #[.slice ac m capc, .int .i64 st] 35)).alloc (.cells #[.string ⟨#[97, 108, 119, 97, 121, 115]⟩] 9)) = wi at HBa HOwn ⊢
        generalize (wo.alloc (.cells #[.slice ac m capc, .int .i64 st] 35)) = wa at HB2 K1 hza HBa
        clear c0 cB
        go_loopw [7, 30] (fun vv kv wk => ∃ (v' : Value) (k : Nat), v' = vv ∧ kv = .int .i64 k ∧ k ≤ m ∧ Hid (OwnStrs (wo.heap.size + 1) wk v' (([] : List (List UInt8)) ++ wordsTo true (cds.take k))) ∧ Hid (Below (wo.heap.size + 1) wa wk)) (fun _ kv _ => m - (intOf kv).toNat)
        case atStart => exact ⟨_, 0, rfl, rfl, Nat.zero_le _, HOwn, HBa⟩
        case round =>
          obtain ⟨v', k, rfl, rfl, hk, HO, HBk⟩ := hrel
          have HBw := Lib.hid (HB2.out.trans (HBk.out.mono (Nat.le_succ _)))
          have k1 := (HBk.out.cell (p := ⟨wo.heap.size, 1, none⟩) (Nat.lt_succ_self _)).trans K1.out
          have hzk : wo.heap.size + 1 ≤ wr.heap.size := Nat.le_trans hza HBk.out.size
          by_cases hkt : k < m
          · have hkl : k < cds.length := by rw [Hm.out]; exact hkt
            obtain ⟨b2, o2, rfl, hb2, hcd⟩ := Hcr.out k hkl
            obtain ⟨e0, e1, e2⟩ := hcd.below HBw.out hb2
            have hb3 := Nat.lt_of_lt_of_le hb2 HBw.out.size
            have hy := Lib.hid (Hok.out.2.2 _ (List.getElem_mem hkl))
            have HT := Lib.hid (wordsTo_step hkl)
            have hacc : (([] : List (List UInt8)) ++ wordsTo true (cds.take k)).length ≤ 1000 := by
              have := wordsTo_len (cds.take k) true
              rw [List.length_take] at this
              rw [List.length_append]; simp; omega
            clear hcd
            generalize cds[k] = y at *
            obtain ⟨yv, yo, yn⟩ := y
            dsimp only at e0 e1 e2
            obtain ⟨jv, rfl⟩ : ∃ j : Nat, yv = (j : Int) := ⟨yv.toNat, by have := (okCd_parts hy.out).1; simp at this; omega⟩
            obtain ⟨jo, rfl⟩ : ∃ j : Nat, yo = (j : Int) + 1 := ⟨(yo - 1).toNat, by have := (okCd_parts hy.out).2.1; simp at this; omega⟩
            obtain ⟨jx, rfl⟩ : ∃ j : Nat, yn = (j : Int) := ⟨yn.toNat, by have := inNum_le (okCd_parts hy.out).2.2; simp at this; omega⟩
            have q1 : jv < 5 := by have := (okCd_parts hy.out).1; simp at this; omega
            have q2 : jo < 5 := by have := (okCd_parts hy.out).2.1; simp at this; omega
            have q4 : jx ≤ 1099511627776 := by have := inNum_le (okCd_parts hy.out).2.2; simp at this; omega
            have HT2 := Lib.hid (HT.out.trans (by rw [condWs_is (k == 0) jv jo jx]))
            have HG2 := Lib.hid (HGr.out.next HBw.out)
            clear HT hy
            go_wp2_with fail
            refine cond_region _ _ _ wr.heap.size (wo.heap.size + 1) v' _ k jv jo jx q1 q2 q4 (HG2.out.next ((Below.refl _ _).alloc (Nat.le_refl _) _)) _ (by kernel_rfl) rfl rfl rfl (by simp) (World.ownsRow.alloc HO.out _) (by simp; omega) hacc ⟨by simp [go_sem], by simp [go_sem], by simp [go_sem]⟩ rfl ?_
            intro af w2 v2 hsz hdf hfr h7 hown2 hg2
            rw [rebuild (a := af) [7, 35, 36, 37, 38, 39, 40, 41, 42, 43, 44, 45, 46, 47, 48, 49, 50, 51, 52, 53, 54, 55, 56] (by exact hsz) hdf (fun k hk => hfr k (by simp at hk; omega) (by simp at hk; omega))]
            simp only [List.foldl_cons, List.foldl_nil]
            rw [h7]
            have hown3 : OwnStrs (wo.heap.size + 1) w2 v2 (([] : List (List UInt8)) ++ wordsTo true (cds.take (k + 1))) := by
              rw [HT2.out, ← List.append_assoc]
              by_cases hk0 : k = 0
              · subst hk0; exact hown2
              · have e : (k == 0) = false := by simpa using hk0
                rw [if_neg hk0] at hown2
                rw [e]; exact hown2
            have hb3 : Below (wo.heap.size + 1) wa w2 := (HBk.out.alloc hzk _).grown hg2 (by simp; omega) (fun q hq => (World.ownsRow.lt HO.out q hq).1)
            have HO3 := Lib.hid hown3
            have HB3 := Lib.hid hb3
            clear hown3 hb3 hown2 hg2 hfr h7 hdf hsz
            generalize af.tmps.getD 35 undef = x35
            generalize af.tmps.getD 36 undef = x36
            generalize af.tmps.getD 37 undef = x37
            generalize af.tmps.getD 38 undef = x38
            generalize af.tmps.getD 39 undef = x39
            generalize af.tmps.getD 40 undef = x40
            generalize af.tmps.getD 41 undef = x41
            generalize af.tmps.getD 42 undef = x42
            generalize af.tmps.getD 43 undef = x43
            generalize af.tmps.getD 44 undef = x44
            generalize af.tmps.getD 45 undef = x45
            generalize af.tmps.getD 46 undef = x46
            generalize af.tmps.getD 47 undef = x47
            generalize af.tmps.getD 48 undef = x48
            generalize af.tmps.getD 49 undef = x49
            generalize af.tmps.getD 50 undef = x50
            generalize af.tmps.getD 51 undef = x51
            generalize af.tmps.getD 52 undef = x52
            generalize af.tmps.getD 53 undef = x53
            generalize af.tmps.getD 54 undef = x54
            generalize af.tmps.getD 55 undef = x55
            generalize af.tmps.getD 56 undef = x56
            clear af
            go_wp2
            exact ⟨⟨v2, k + 1, rfl, by go_num, by omega, HO3, HB3⟩, by simp [intOf]; omega⟩
          · have hkm : k = m := by omega
            have hfull : wordsTo true (cds.take k) = wordsTo true cds := by rw [List.take_of_length_le (l := cds) (by rw [Hm.out]; omega)]
            rw [hfull] at HO
            have hlen : (([] : List (List UInt8)) ++ wordsTo true cds).length ≤ 1000 := by
              have := wordsTo_len cds true
              rw [Hm.out] at this
              rw [List.length_append]; simp; omega
            clear hfull
            obtain ⟨jn, rfl⟩ : ∃ j : Nat, st = (j : Int) := ⟨st.toNat, by have := inNum_le (show inNum st = true from Hok.out.2.1); omega⟩
            have q3 : jn ≤ 1099511627776 := by have := inNum_le (show inNum (jn : Int) = true from Hok.out.2.1); omega
            have Hit := Lib.hid (fun W hg => itoa_is jn (by omega) W hg)
            have HG2 := Lib.hid (HGr.out.next HBw.out)
            go_wp2_with fail
            refine (Hit.out _ HG2.out).mono ?_
            rintro e w2 ⟨rfl, hb2⟩
            have HB5 := Lib.hid hb2
            have hO2 : OwnStrs (wo.heap.size + 1) w2 v' (([] : List (List UInt8)) ++ wordsTo true cds) := World.ownsRow.kept (row := none) HO.out ⟨hb2.os, hb2.tape, hb2.output, hb2.size, fun q hq _ => hb2.block q hq⟩ (by cases v'.ownBlock <;> simp)
            have HO2 := Lib.hid hO2
            have hzz := Nat.le_trans hzk hb2.size
            clear hb2 hO2
            unfold mk
            go_wp2_with (at_builtin; (refine append_words (wo.heap.size + 1) rfl _ _ rfl v' _ rfl (World.ownsRow.alloc HO2.out _) [wSet, Lib.decDigits jn, [59]] w2.heap.size rfl (new3 w2 _ _ _) (Nat.le_trans (Nat.add_le_add_right hlen 3) (by decide)) (by simp; omega) ?_); intro v3 w3 hown3 hg3)
            have hwords : ([] : List (List UInt8)) ++ wordsTo true cds = lineWs cds := by unfold lineWs; rw [if_neg (fun h => hm0 (by rw [← Hm.out, h]; rfl))]; rfl
            rw [hwords] at hown3
            have hjl : Lib.join (lineWs cds ++ [wSet, Lib.decDigits jn, [59]]) [32] = joinW (lineToks ⟨cds, (jn : Int)⟩) := line_join ⟨cds, (jn : Int)⟩
            have hjn := line_len HokL.out
            have hbT : Below wo.heap.size wo w3 := (((HBw.out.trans (HB5.out.mono (by omega))).alloc (by omega) _)).grown hg3 (by simp; omega) (fun q hq => by have := (World.ownsRow.lt HO2.out q hq).1; omega)
            refine (join_own hown3 (by simp) (by rw [hjl]; omega) (by rw [← hwords, List.length_append]; exact Nat.le_trans (Nat.add_le_add_right hlen 3) (by decide))).mono ?_
            rw [hjl]
            rintro e w4 ⟨rfl, hb4⟩
            have HP := Lib.hid (show joinW (lineToks ⟨cds, (jn : Int)⟩) ++ [10] = printLn ⟨cds, (jn : Int)⟩ from rfl)
            generalize joinW (lineToks ⟨cds, (jn : Int)⟩) = J at hjn hjl HP ⊢
            have hzJ : ¬ 9223372036854775807 < J.length + 1 := by omega
            have hBl4 := IsBuilder.below HBi.out (hbT.trans (hb4.mono hbT.size))
            have HBl4 := Lib.hid hBl4
            have HB6 := Lib.hid (HB.out.trans ((hbT.trans (hb4.mono hbT.size)).mono HB.out.size))
            have hplen : (Lib.byteCells (printC (ls.take i))).length ≤ 701 * i := by
              unfold Lib.byteCells
              rw [List.length_map]
              exact printC_len Hin.out i
            have hz4 : w1.heap.size < w4.heap.size := Nat.lt_of_lt_of_le hzr (Nat.le_trans hbT.size hb4.size)
            clear hwords hjl hbT hb4 hBl4 hown3 hg3
            go_wp2_with fail
            refine (Tryz.Builder_WriteString w.heap.size w1.heap.size _ _ _ HBl4.out ?_ (by omega)).mono ?_
            · rw [ByteArray.size_append]
              show _ + (J.length + 1) ≤ _
              omega
            rintro e w5 ⟨rfl, hbl5, hb5⟩
            have hbs : Lib.byteCells (printC (ls.take i)) ++ Lib.strCells ((⟨J.toArray⟩ : ByteArray) ++ ⟨#[10]⟩) = Lib.byteCells (printC (ls.take (i + 1))) := by
              rw [HX.out, ← HP.out, Lib.byteCells_append, Lib.strCells_eq, str_app]
            rw [hbs] at hbl5
            have HBl5 := Lib.hid hbl5
            have HB7 := Lib.hid (HB6.out.trans hb5)
            have hz5 : w1.heap.size < w5.heap.size := Nat.lt_of_lt_of_le hz4 hb5.size
            clear hbl5 hb5 hbs hplen
            go_wp2
            exact ⟨⟨i + 1, by go_num, by omega, hz5, .inr HBl5.out, HB7⟩, by simp [intOf]; omega⟩
    · obtain rfl : i = n := by omega
      have hall : ls.take i = ls := by rw [← Hn.out]; exact List.take_length
      have hbi := HBi.out
      rw [hall] at hbi
      have HBi2 := Lib.hid hbi
      clear hbi hall
      go_wp2_with fail
      refine (Tryz.Builder_String_any w.heap.size w1.heap.size (printC ls) _ HBi2.out HB.out.size).mono ?_
      rintro e w2 ⟨rfl, hb2⟩
      have HB9 := Lib.hid (HB.out.trans hb2)
      clear hb2
      go_wp2_with fail
      go_ret2
      exact ⟨rfl, HB9.out⟩

theorem print_no (v : Value) (ls : List Ln) (w : World) (h : IsLns w v ls) (hok : okC ls = false) :
    Calls Tryz.prog 8 #[.agg #[v]] w fun e w' => e = .returned (.tuple #[.string ⟨#[]⟩, .int .i64 310]) ∧ Below w.heap.size w w' := by
  have H := Lib.hid h
  have HK := Lib.hid (okE_no hok)
  obtain ⟨hl, a, cap, rfl, hr⟩ := h
  clear hr hok
  generalize ls.length = n at hl H ⊢
  go_enter Tryz.func8, Tryz.ntmps8
  go_wp2_with fail
  have hB0 : Below w.heap.size w (w.alloc (.cells #[.slice a n cap] 25)) := (Below.refl _ _).alloc (Nat.le_refl _) _
  generalize (w.alloc (.cells #[.slice a n cap] 25)) = wb at hB0 ⊢
  with_reducible refine (check_any _ ls wb (H.out.below hB0)).mono ?_
  rintro e w1 ⟨rfl, hb⟩
  rw [HK.out]
  have HB0 := Lib.hid (hB0.trans (hb.mono hB0.size))
  clear hB0 hb H
  go_wp2_with fail
  go_ret2
  exact ⟨rfl, HB0.out⟩

/- the program's Print, whatever the program's text is -/
theorem print_any (v : Value) (ls : List Ln) (w : World) (h : IsLns w v ls) (hG : Globals w) : Calls Tryz.prog 8 #[.agg #[v]] w fun e w' => e = .returned (printR ls) ∧ Below w.heap.size w w' := by
  unfold printR
  cases hok : okC ls
  · exact print_no v ls w h hok
  · exact print_yes v ls w h hok hG

end Go.Proofs.YtlaifodlnolndaaGreatDoor

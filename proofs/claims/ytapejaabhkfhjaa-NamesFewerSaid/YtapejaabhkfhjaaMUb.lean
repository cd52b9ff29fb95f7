/- Texts Ub Uc in one: each says what it proves. -/
import Derived.Test.YtapejaabhkfhjaaMUa
/- The law's examples: small (printed by gen_ub.py). -/
namespace Go.Proofs.Ytapejaabhkfhjaa
open Go.RowKit

def zeroReach : Array Value := #[.string ⟨#[]⟩, .string ⟨#[]⟩, .int .i64 0, .int .i64 0, .int .i64 0, .int .i64 0, .string ⟨#[]⟩, .int .i64 0, .slice none 0 0, .int .i64 0, .int .i64 0, .int .i64 0, .string ⟨#[]⟩, .int .i64 0, .slice none 0 0, .int .i64 0, .int .i64 0, .int .i64 0, .string ⟨#[]⟩, .int .i64 0, .slice none 0 0, .int .i64 0, .int .i64 0, .int .i64 0, .string ⟨#[]⟩, .int .i64 0, .slice none 0 0, .int .i64 0, .int .i64 0, .int .i64 0, .string ⟨#[]⟩, .int .i64 0, .slice none 0 0, .int .i64 0, .int .i64 0, .int .i64 0, .string ⟨#[]⟩, .int .i64 0, .slice none 0 0, .int .i64 0, .int .i64 0, .int .i64 0, .string ⟨#[]⟩, .int .i64 0, .slice none 0 0, .int .i64 0, .int .i64 0, .int .i64 0, .string ⟨#[]⟩, .int .i64 0, .slice none 0 0]
structure Sm2Ext (W : World) (l : Array Bool) (tm : Array Value) (w : World) : Prop where
  one : l.getD 4 false = false → Below W.heap.size W w ∧ (l.getD 3 false = true → ∃ b, tm.getD 2 undef = .pointer (some ⟨b, 0, none⟩) ∧ W.heap.size ≤ b ∧ w.heap[b]? = some (.cells zeroReach 51 (0, 0)))
  two : l.getD 4 false = true → ∃ w1 b, tm.getD 2 undef = .pointer (some ⟨b, 0, none⟩) ∧ Below W.heap.size W w1 ∧ W.heap.size ≤ b ∧ w1.heap[b]? = some (.cells zeroReach 51 (0, 0)) ∧ w = w1.setRow b headCs.toArray
theorem Sm2Ext.quiet {W : World} {l : Array Bool} {tm : Array Value} {w w2 : World} {i t : Nat} {v : Value} (h : Sm2Ext W l tm w) (n : l.getD 4 false = false) (hi : i ≠ 4 ∧ i ≠ 3) (ht : t ≠ 2) (hb : Below w.heap.size w w2) : Sm2Ext W (l.setIfInBounds i true) (tm.setIfInBounds t v) w2 := by
  obtain ⟨h1, h2⟩ := h.one n
  refine ⟨fun _ => ⟨h1.trans (hb.mono h1.size), fun h3 => ?_⟩, fun h8 => by rw [set_other hi.1, n] at h8; cases h8⟩
  rw [set_other hi.2] at h3
  obtain ⟨b, k1, k2, k3⟩ := h2 h3
  exact ⟨b, by rw [tset_other ht]; exact k1, k2, (hb.block b (Array.getElem?_eq_some_iff.1 k3).1).trans k3⟩
def sm2P (j : Nat) (v : Value) (_ : World) : Prop := match j with
  | 0 => v = .agg #[.int .i64 1, .int .i64 1, .int .i64 3, .string ⟨#[]⟩, .int .i64 0, .slice none 0 0]
  | 1 => v = .agg #[.int .i64 2, .int .i64 0, .int .i64 0, .string ⟨#[117]⟩, .int .i64 0, .slice none 0 0]
  | 2 => v = .agg headCs.toArray
  | 3 => ∃ b, v = .pointer (some ⟨b, 0, none⟩)
  | _ => True
set_option maxRecDepth 100000 in
set_option maxHeartbeats 4000000 in
theorem reg_small2 {a₀ : Act} {W0 : World} {Q : Exit → Act → World → Prop} {B1 : Nat} (ops : Array Oper) (hops : regOf Try.f21 2 = some ops)
    (ht1 : a₀.tmps.getD 1 undef = .pointer (some ⟨B1, 0, none⟩)) (hz : a₀.tmps.size = 46) (h1lt : B1 < W0.heap.size) (hr1 : W0.rangeAt B1 0 [.int .i64 2, .int .i64 0, .int .i64 0, .string ⟨#[117]⟩, .int .i64 0, .slice none 0 0])
    (hQ : ∀ (a : Act) w1 b, a.tmps.size = 46 → a.defers = a₀.defers → (∀ t, t ∉ [2, 5, 6, 7] → a.tmps.getD t undef = a₀.tmps.getD t undef) → a.tmps.getD 2 undef = .pointer (some ⟨b, 0, none⟩) → Below W0.heap.size W0 w1 → W0.heap.size ≤ b → w1.heap[b]? = some (.cells zeroReach 51 (0, 0)) → Q .normal a (w1.setRow b headCs.toArray)) :
    (Code.region 2 ops true).wp Try.prog Q a₀ W0 := by
  obtain rfl := Option.some.inj ((rfl : regOf Try.f21 2 = some _).symm.trans hops)
  clear hops
  refine wp_region_mids (by kernel_rfl) (Sm2Ext W0) sm2P (fun _ _ _ => True) (by kernel_rfl) (by rw [hz]; kernel_rfl) (by kernel_rfl) (fun _ j v w w' _ _ _ h => by unfold sm2P at h ⊢; exact h) ⟨fun _ => ⟨(Below.refl _ _).drew, fun h => (by cases h)⟩, fun h => (by cases h)⟩ ?_ ?_
  · intro ix listed a w' hM hix o ho
    have HE := Lib.hid hM.ext
    have hlt := (Array.getElem?_eq_some_iff.1 ho).1
    have hsz := hM.size
    match ix, hlt with
    | 0, _ =>
      have n4 : listed.getD 4 false = false := by
        rw [Bool.eq_false_iff]; intro h6
        have := anc_listed hM.down 6 4 0 (by kernel_rfl) h6
        rw [hM.not_yet hix] at this; cases this
      have HN := Lib.hid n4
      clear n4
      clear hr1
      obtain rfl := Option.some.inj ho
      go_simp
      refine (num_any 1 3 _).mono ?_
      rintro e w2 ⟨rfl, hb2⟩
      exact ⟨_, rfl, HE.out.quiet HN.out (by decide) (by decide) hb2, trivial, rfl⟩
    | 1, _ =>
      have n4 : listed.getD 4 false = false := by
        rw [Bool.eq_false_iff]; intro h6
        have := anc_listed hM.down 6 4 1 (by kernel_rfl) h6
        rw [hM.not_yet hix] at this; cases this
      have HN := Lib.hid n4
      clear n4
      have d := hM.old hix 1 (by kernel_rfl) _ ht1
      have HRd := Lib.hid (rangeAt_block hr1 ((HE.out.one HN.out).1.block _ h1lt))
      clear hr1
      obtain rfl := Option.some.inj ho
      refine wp_load_mid 26 _ rfl B1 0 (by simpa [Act.eval] using d) _ _ HRd.out Try.underlying26 rfl (by kernel_rfl) ?_
      exact ⟨_, rfl, HE.out.quiet HN.out (by decide) (by decide) (Below.refl _ _), trivial, rfl⟩
    | 2, _ =>
      have n4 : listed.getD 4 false = false := by
        rw [Bool.eq_false_iff]; intro h6
        have := anc_listed hM.down 6 4 2 (by kernel_rfl) h6
        rw [hM.not_yet hix] at this; cases this
      have HN := Lib.hid n4
      clear n4
      have d0 := hM.dep hix 0 5 (by kernel_rfl) (by kernel_rfl)
      have d1 := hM.dep hix 1 6 (by kernel_rfl) (by kernel_rfl)
      unfold sm2P at d0 d1
      simp only at d0 d1
      clear hr1
      obtain rfl := Option.some.inj ho
      go_simp
      exact ⟨_, rfl, HE.out.quiet HN.out (by decide) (by decide) (Below.refl _ _), trivial, rfl⟩
    | 3, _ =>
      have n4 : listed.getD 4 false = false := by
        rw [Bool.eq_false_iff]; intro h6
        have := anc_listed hM.down 6 4 3 (by kernel_rfl) h6
        rw [hM.not_yet hix] at this; cases this
      have HN := Lib.hid n4
      clear n4
      have HL : Hid (3 < listed.size) := Lib.hid (by rw [hsz]; show 3 < 5; omega)
      have HT : Hid (2 < a.tmps.size) := Lib.hid (by rw [hM.tmps, hz]; decide)
      clear hr1
      obtain rfl := Option.some.inj ho
      go_simp
      refine ⟨_, rfl, ⟨fun _ => ⟨(HE.out.one HN.out).1.alloc (HE.out.one HN.out).1.size _, fun _ => ⟨w'.heap.size, ?_, (HE.out.one HN.out).1.size, World.alloc_heap_new _ _⟩⟩, fun h4 => ?_⟩, trivial, _, rfl⟩
      · show (a.put (some 2) (.pointer (some ⟨w'.heap.size, 0, none⟩))).tmps.getD 2 undef = _
        exact put_getD_same _ HT.out
      · rw [set_other (by decide), HN.out] at h4; cases h4
    | 4, _ =>
      have n4 := hM.not_yet hix
      have l3 : listed.getD 3 false = true := hM.came hix 3 (by kernel_rfl)
      obtain ⟨hb, h3⟩ := HE.out.one n4
      obtain ⟨b, d2, hge, hbk⟩ := h3 l3
      have d7 := hM.dep hix 2 7 (by kernel_rfl) (by kernel_rfl)
      unfold sm2P at d7
      simp only at d7
      have HL : Hid (4 < listed.size) := Lib.hid (by rw [hsz]; show 4 < 5; omega)
      have d2' := d2
      rw [Array.getD_eq_getD_getElem?] at d2
      refine wp_store_row 51 (.tmp 2) (.tmp 7) (by obtain rfl := Option.some.inj ho; rfl) b headCs.toArray (by simpa [Act.eval] using d2) (by simpa [Act.eval] using d7) 51 zeroReach hbk (by kernel_rfl) (by kernel_rfl) (by simp [headCs, Value.oneCell']) ?_
      obtain rfl := Option.some.inj ho
      refine ⟨undef, rfl, ⟨fun h6 => ?_, fun _ => ⟨w', b, d2', hb, hge, hbk, rfl⟩⟩, trivial, trivial⟩
      simp [HL.out] at h6
  · intro listed a w' hall hM
    obtain ⟨w1, b, k1, k2, k3, k4, rfl⟩ := hM.ext.two (hall 4 (show 4 < 5 by omega))
    refine hQ a w1 b (hM.tmps.trans hz) hM.defers (fun t ht => hM.free t fun mm hmm o ho hd => ht ?_) k1 k2 k3 k4
    have hs := all_get (ops := (Try.f21.body.bind (findReg 2)).getD #[]) (p := fun o => match o.dst with | some k => decide (k ∈ [2, 5, 6, 7]) | none => true) (by kernel_rfl) ho
    rw [hd] at hs
    exact of_decide_eq_true hs

theorem sm_size : (zeroReach.size = 51) ∧ headCs.length = 51 := ⟨rfl, rfl⟩
set_option maxRecDepth 100000 in
set_option maxHeartbeats 8000000 in
theorem small_raw (w : World) : Calls Try.prog 21 #[] w fun e w' => ∃ cells : Array Value, e = .returned (.agg cells) ∧ cells.size = 26 ∧ Below w.heap.size w w' ∧ smallP w.heap.size 37 (.agg cells) w' := by
  go_enter Try.func21, Try.ntmps21
  go_wp2_with fail
  have HC : Hid (∀ (cells : Array Value) (U : World), smallP w.heap.size 37 (.agg cells) U → cells.size = 26) := Lib.hid (fun cells U h => by
    unfold smallP at h
    simp only at h
    obtain ⟨_, _, _, _, _, _, _, _, _, h, _⟩ := h
    cases h; rfl)
  refine reg_small2 (B1 := w.heap.size + 1) _ ?_ ?_ ?_ ?_ ?_ ?_
  · rfl
  · rfl
  · rfl
  · simp
  · have h := World.rangeAt_of_block (World.alloc_heap_new (w.alloc (.cells zeroCs.toArray 35)) (.cells #[.int .i64 2, .int .i64 0, .int .i64 0, .string ⟨#[117]⟩, .int .i64 0, .slice none 0 0] 26)) 0 6
    rw [World.size_alloc] at h
    exact h
  · intro a w1 b ha1 ha2 ha3 g2 hb hge hbk
    have e : a = { tmps := #[.pointer (some ⟨w.heap.size, 0, none⟩), .pointer (some ⟨w.heap.size + 1, 0, none⟩), (a.tmps.getD 2 undef), .agg #[.string ⟨#[117]⟩, .int .i64 0], .agg #[.int .i64 2, .int .i64 0, .int .i64 0, .string ⟨#[117]⟩, .int .i64 0, .slice none 0 0], (a.tmps.getD 5 undef), (a.tmps.getD 6 undef), (a.tmps.getD 7 undef), undef, undef, undef, undef, undef, undef, undef, undef, undef, undef, undef, undef, undef, undef, undef, undef, undef, undef, undef, undef, undef, undef, undef, undef, undef, undef, undef, undef, undef, undef, undef, undef, undef, undef, undef, undef, undef, undef], defers := [] } := (rebuild [2, 5, 6, 7] (ha1.trans rfl) ha2 (fun t ht => ha3 t ht)).trans (by kernel_rfl)
    rw [g2] at e
    obtain ⟨v5, v6, v7, rfl⟩ : ∃ v5 v6 v7 : Value, a = { tmps := #[.pointer (some ⟨w.heap.size, 0, none⟩), .pointer (some ⟨w.heap.size + 1, 0, none⟩), .pointer (some ⟨b, 0, none⟩), .agg #[.string ⟨#[117]⟩, .int .i64 0], .agg #[.int .i64 2, .int .i64 0, .int .i64 0, .string ⟨#[117]⟩, .int .i64 0, .slice none 0 0], v5, v6, v7, undef, undef, undef, undef, undef, undef, undef, undef, undef, undef, undef, undef, undef, undef, undef, undef, undef, undef, undef, undef, undef, undef, undef, undef, undef, undef, undef, undef, undef, undef, undef, undef, undef, undef, undef, undef, undef, undef], defers := [] } := ⟨_, _, _, e⟩
    clear e ha1 ha2 ha3 g2
    have hz1 : ((w.alloc (.cells zeroCs.toArray 35)).alloc (.cells #[.int .i64 2, .int .i64 0, .int .i64 0, .string ⟨#[117]⟩, .int .i64 0, .slice none 0 0] 26)).heap.size = w.heap.size + 2 := by simp
    have hb' : Below ((w.alloc (.cells zeroCs.toArray 35)).alloc (.cells #[.int .i64 2, .int .i64 0, .int .i64 0, .string ⟨#[117]⟩, .int .i64 0, .slice none 0 0] 26)).heap.size ((w.alloc (.cells zeroCs.toArray 35)).alloc (.cells #[.int .i64 2, .int .i64 0, .int .i64 0, .string ⟨#[117]⟩, .int .i64 0, .slice none 0 0] 26)) w1 := hb
    have hge' : w.heap.size + 2 ≤ b := by rw [← hz1]; exact hge
    have hlt := (Array.getElem?_eq_some_iff.1 hbk).1
    have hw0 : w1.heap[w.heap.size]? = some (.cells zeroCs.toArray 35 (0, 0)) := by
      rw [hb'.block _ (by omega), Below.heap_alloc _ _ _ (by simp)]
      exact World.alloc_heap_new _ _
    have hbw : Below w.heap.size w w1 := (((Below.refl _ _).alloc (Nat.le_refl _) _).alloc (by simp) _).trans (hb'.mono (by omega))
    have HS := Lib.hid (show (w1.setRow b headCs.toArray).heap.size = w1.heap.size from setRow_size _ _ _)
    have HBk := Lib.hid hbk; have HW0 := Lib.hid hw0; have HBw := Lib.hid hbw; have HAr : Hid (w.heap.size + 2 ≤ b ∧ b < w1.heap.size) := Lib.hid ⟨hge', hlt⟩
    clear hb hge hbk hz1 hb' hge' hlt hw0 hbw
    go_wp2_with fail
    refine reg_small3 (B := w.heap.size) (B2 := b) (row0 := zeroCs.toArray) _ ?_ ?_ ?_ ?_ ?_ ?_ ?_ ?_ ?_ ?_
    · rfl
    · rfl
    · rfl
    · rfl
    · rw [HS.out]; have := HAr.out; omega
    · rw [HS.out]; exact HAr.out.2
    · rw [setRow_other _ _ (by have := HAr.out; omega)]; exact HW0.out
    · rfl
    · have h := World.rangeAt_of_block (setRow_heap w1 b _ headCs.toArray _ _ HBk.out) 0 headCs.length
      simpa using h
    · intro a w2 cells ha1 ha2 ha3 hp hb2
      obtain ⟨tm, df⟩ := a
      obtain rfl : df = [] := ha2
      have h0 : tm.getD 0 undef = .pointer (some ⟨w.heap.size, 0, none⟩) := (ha3 0 (by omega)).trans rfl
      have h26 := HC.out cells w2 hp
      have hsz := HS.out
      have har := HAr.out
      have hrow : w2.heap[w.heap.size]? = some (.cells zeroCs.toArray 35 (0, 0)) := by
        rw [hb2.block _ (by omega), setRow_other _ _ (by omega)]; exact HW0.out
      have hfin := setRow_heap w2 w.heap.size _ cells _ _ hrow
      have hrange : (w2.setRow w.heap.size cells).rangeAt w.heap.size 0 cells.toList := by
        have h := World.rangeAt_of_block hfin 0 cells.toList.length
        simpa using h
      have hbel : Below w.heap.size w (w2.setRow w.heap.size cells) := by
        refine ⟨hb2.os.trans HBw.out.os, hb2.tape.trans HBw.out.tape, hb2.output.trans HBw.out.output, ?_, fun k hk => ?_⟩
        · have := hb2.size; rw [setRow_size]; omega
        · rw [setRow_other _ _ (by omega), hb2.block _ (by omega), setRow_other _ _ (by omega)]; exact HBw.out.block k hk
      have hpp : smallP w.heap.size 37 (.agg cells) (w2.setRow w.heap.size cells) := smallP_le _ _ _ _ (fun k o hk ho => by rw [setRow_other _ _ (by omega)]; exact ho) hp
      have hl := run_loadVar_mid (P := Try.prog) (w2.setRow w.heap.size cells) w.heap.size 0 35 cells.toList _ hrange Try.underlying35 rfl (by rw [Array.length_toList, h26]; kernel_rfl)
      rw [Array.toArray_toList] at hl
      have HFin : Hid (bodyPost Try.prog Try.f21 (fun e w' => ∃ cells : Array Value, e = .returned (.agg cells) ∧ cells.size = 26 ∧ Below w.heap.size w w' ∧ smallP w.heap.size 37 (.agg cells) w') .ret { tmps := tm, defers := [] } (w2.setRow w.heap.size cells)) := Lib.hid ⟨rfl, _, results_cell rfl h0 hl, cells, rfl, h26, hbel, hpp⟩
      clear h0 h26 hrow hfin hrange hbel hpp hl hp hb2 ha1 ha3 hsz har
      first
      | exact HFin.out
      | (go_wp2; exact HFin.out)
      | fail

end Go.Proofs.Ytapejaabhkfhjaa

/- The law's examples as plain data. -/
namespace Go.Proofs.Ytapejaabhkfhjaa
open Go.RowKit

def exZ : Ex := .mk 0 0 0 ⟨#[]⟩ 0 []
def numE (n u : Int) : Ex := .mk 1 n u ⟨#[]⟩ 0 []
def letE (s : ByteArray) : Ex := .mk 2 0 0 s 0 []
def bT : ByteArray := ⟨#[116]⟩
def bU : ByteArray := ⟨#[117]⟩
def bCorn : ByteArray := ⟨#[99, 111, 114, 110]⟩
def bRice : ByteArray := ⟨#[114, 105, 99, 101]⟩
def bHead : ByteArray := ⟨#[104, 101, 97, 100]⟩
def bTail : ByteArray := ⟨#[116, 97, 105, 108]⟩
def bAna : ByteArray := ⟨#[97, 110, 97]⟩
def bBea : ByteArray := ⟨#[98, 101, 97]⟩
def bTurns : ByteArray := ⟨#[116, 117, 114, 110, 115]⟩
def bMine : ByteArray := ⟨#[109, 105, 110, 101]⟩
def bClean : ByteArray := ⟨#[99, 108, 101, 97, 110]⟩
def bVega : ByteArray := ⟨#[118, 101, 103, 97]⟩
def bRiver : ByteArray := ⟨#[114, 105, 118, 101, 114]⟩
def bC : ByteArray := ⟨#[99]⟩
def bN : ByteArray := ⟨#[]⟩
def smallX : Src :=
  { name := bVega, season := numE 2 4, cap := exZ, start := exZ, lets := [⟨bT, numE 3 1⟩, ⟨bU, .mk 3 0 0 bN 0 [letE bT, numE 1 1]⟩], crops := [⟨bCorn, exZ⟩, ⟨bRice, exZ⟩],
    reaches := [⟨bHead, ⟨bN, 0⟩, numE 1 3, letE bU, exZ, exZ, exZ, exZ, exZ, exZ⟩, ⟨bTail, ⟨bHead, 0⟩, exZ, exZ, exZ, exZ, exZ, exZ, exZ, exZ⟩],
    farms := [⟨bAna, ⟨bTail, 0⟩, false, exZ, ⟨bRice, 0⟩⟩, ⟨bBea, ⟨bHead, 0⟩, true, exZ, ⟨bN, 0⟩⟩], rots := [⟨bTurns, ⟨bTail, 0⟩, 0, exZ, exZ, exZ, [⟨⟨bAna, 0⟩, exZ⟩]⟩],
    rights := [⟨2, bMine, ⟨bBea, 0⟩, ⟨bTail, 0⟩, 0, exZ, exZ, exZ, exZ, exZ⟩], duties := [⟨bClean, ⟨bBea, 0⟩, ⟨bTail, 0⟩, exZ⟩] }
def emptyX (nm : ByteArray) (crops : List CropD) : Src := { name := nm, season := exZ, cap := exZ, start := exZ, lets := [], crops := crops, reaches := [], farms := [], rots := [], rights := [], duties := [] }
theorem wrong0 : wrongS (emptyX bN []) = 170 := by kernel_rfl
theorem wrong1 : wrongS (emptyX bRiver []) = 170 := by kernel_rfl
theorem wrong2 : wrongS (emptyX bVega [⟨bC, exZ⟩, ⟨bC, exZ⟩]) = 171 := by kernel_rfl
theorem wrong3 : wrongS smallX = 0 := by kernel_rfl
theorem check3 : checkS smallX = 170 := by kernel_rfl
theorem check4 : checkS (resolved smallX) = 0 := by kernel_rfl

end Go.Proofs.Ytapejaabhkfhjaa

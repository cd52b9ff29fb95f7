/- Texts Ha Hb Hc Hd He Hf in one: each says what it proves. -/
import Derived.Test.YtlaifodlnolndaaGreatDoorMj
import Derived.Maps.AppendAt
import Derived.Maps.Own
/- The parser of the program: its object, and whether the token at its place is one of some words. -/
namespace Go.Proofs.YtlaifodlnolndaaGreatDoor
open Go.RowKit

/- the parser: a block with the tokens and the place -/
def PAt (w : World) (p : Nat) (v : Value) (k : Nat) : Prop := w.heap[p]? = some (.cells #[v, .int .i64 k] 50 (0, 0))
theorem PAt.cells {w : World} {p : Nat} {v : Value} {k : Nat} (h : PAt w p v k) : w.cell? ⟨p, 0, none⟩ = some v ∧ w.cell? ⟨p, 1, none⟩ = some (.int .i64 k) ∧ w.frozen? ⟨p, 1, none⟩ = false ∧ p < w.heap.size := by
  unfold PAt at h
  exact ⟨by simp [World.cell?, h], by simp [World.cell?, h], by simp [World.frozen?, h], (Array.getElem?_eq_some_iff.1 h).1⟩
theorem PAt.below {w w' : World} {p : Nat} {v : Value} {k : Nat} (h : PAt w p v k) (hb : Below w.heap.size w w') : PAt w' p v k := by
  have hlt := h.cells.2.2.2
  exact (hb.block p hlt).trans h
theorem PAt.next {w : World} {p : Nat} {v : Value} {k : Nat} (h : PAt w p v k) (n : Int) (j : Nat) (hj : n = j) : PAt (w.setCell ⟨p, 1, none⟩ (.int .i64 n)) p v j := by
  subst hj
  unfold PAt at h ⊢
  simp [World.setCell, Array.getElem?_modify, h]
def isB (ts : List Tok) (k : Nat) (kind : Int) (ws : List (List UInt8)) : Bool := match ts[k]? with
  | some t => t.kind == kind && ws.contains t.text.data.toList
  | none => false

theorem contains_words (ws : List (List UInt8)) (tx : ByteArray) : Lib.containsS (ws.map fun l => (⟨l.toArray⟩ : ByteArray)) tx = ws.contains tx.data.toList := by
  rw [Bool.eq_iff_iff, Lib.containsS_iff, List.contains_iff_mem, List.mem_map]
  constructor
  · rintro ⟨l, hl, rfl⟩; exact hl
  · intro h; exact ⟨_, h, rfl⟩
theorem words_contain (g : Nat) (ws : List (List UInt8)) (tx : ByteArray) (w : World) (hws : ws.length ≤ 1000) (hwc : ∀ i (h : i < ws.length), w.cell? ⟨g, i, none⟩ = some (strV ws[i])) :
    Calls Tryz.prog 57 #[.slice (some ⟨g, 0, none⟩) ws.length ws.length, .string tx] w fun e w' => e = .returned (.bool (ws.contains tx.data.toList)) ∧ w' = w := by
  have := Tryz.slices_Contains_string g 0 ws.length ws.length (ws.map fun l => ⟨l.toArray⟩) tx w (by simp) (by omega) (fun j hj => by
    rw [Nat.zero_add, List.getD_eq_getElem?_getD, List.getElem?_eq_getElem hj, List.getElem_map]
    exact hwc j (by simpa using hj))
  rw [List.take_of_length_le (by simp), contains_words] at this
  exact this
set_option maxRecDepth 100000 in
set_option maxHeartbeats 4000000 in
theorem is_any (p : Nat) (v wv : Value) (ts : List Tok) (k : Nat) (kind : Int) (ws : List (List UInt8)) (w : World) (hp : PAt w p v k) (ht : IsToks w v ts) (hw : WordsAt w wv ws) (hws : ws.length ≤ 1000) :
    Calls Tryz.prog 34 #[.pointer (some ⟨p, 0, none⟩), .int .i64 kind, wv] w fun e w' => e = .returned (.bool (isB ts k kind ws)) ∧ Below w.heap.size w w' := by
  obtain ⟨h0, h1, _, hlt⟩ := hp.cells
  clear hp
  obtain ⟨a, cap, rfl⟩ : ∃ a cap, v = .slice a ts.length cap := by
    obtain ⟨_, _, ⟨rfl, a, c, rfl⟩ | ⟨b, o, c, rfl, _⟩⟩ := ht
    · exact ⟨a, c, rfl⟩
    · exact ⟨_, c, rfl⟩
  have hlm := ht.1
  by_cases hk : k < ts.length
  · obtain ⟨_, _, ⟨rfl, _⟩ | ⟨b, o, c, he, hb, hr⟩⟩ := ht
    · simp at hk
    obtain ⟨rfl, rfl⟩ : a = some ⟨b, o, none⟩ ∧ cap = c := by simpa using he
    obtain ⟨c0, c1, _⟩ := hr k hk
    have hlt2 : decide (k < ts.length) = true := by simp; omega
    have hI : isB ts k kind ws = (ts[k].kind == kind && ws.contains ts[k].text.data.toList) := by unfold isB; rw [List.getElem?_eq_getElem hk]
    rw [hI]
    generalize ts[k] = t at *
    obtain ⟨tk, tx, tn, ta⟩ := t
    dsimp only at c0 c1 ⊢
    clear hr hI he
    generalize ts.length = n at *
    by_cases hkd : tk = kind
    · subst hkd
      obtain ⟨g, rfl, hg, hwc⟩ := hw
      have hn := (fun n => words_contain g ws tx (w.drewN n) hws (fun i h => ((below_drewN (Below.refl w.heap.size w) n).cell (p := ⟨g, i, none⟩) hg).trans (hwc i h)))
      clear hwc
      rw [show (tk == tk) = true from by simp]
      rw [Bool.true_and]
      generalize ws.contains tx.data.toList = r at hn ⊢
      have Hn := Lib.hid hn
      clear hn
      go_enter Tryz.func34, Tryz.ntmps34
      go_wp2_with fail
      go_quiet (first | (go_at_call 57; refine Calls.quiet_of_same (Hn.out _)))
      go_wp2
      go_ret
      exact ⟨rfl, below_drewN (Below.refl _ _) _⟩
    · have hkd2 : (tk == kind) = false := by simpa using hkd
      rw [hkd2, Bool.false_and]
      go_enter Tryz.func34, Tryz.ntmps34
      go_wp2_with fail
      go_quiet (fail)
      go_wp2
      go_ret
      exact ⟨rfl, below_drewN (Below.refl _ _) _⟩
  · have hlt2 : decide (k < ts.length) = false := by simp; omega
    have hI : isB ts k kind ws = false := by unfold isB; rw [List.getElem?_eq_none (by omega)]
    rw [hI]
    clear ht
    go_enter Tryz.func34, Tryz.ntmps34
    go_wp2_with fail
    go_quiet (fail)
    go_wp2
    go_ret
    exact ⟨rfl, below_drewN (Below.refl _ _) _⟩

end Go.Proofs.YtlaifodlnolndaaGreatDoor

/- The parser of the program: demand. -/
namespace Go.Proofs.YtlaifodlnolndaaGreatDoor
open Go.RowKit

theorem demand_yes (p : Nat) (w : World) : Calls Tryz.prog 15 #[.pointer (some ⟨p, 0, none⟩), .bool true] w fun e w' => e = .returned (.tuple #[]) ∧ w' = w := by
  go_enter Tryz.func15, Tryz.ntmps15
  go_wp2
  go_end0
  exact ⟨rfl, rfl⟩
theorem demand_no (p : Nat) (v : Value) (k : Nat) (w : World) (hp : PAt w p v k) : Calls Tryz.prog 15 #[.pointer (some ⟨p, 0, none⟩), .bool false] w fun e w' => e = .panicked [{ v := .iface 51 (.int .i64 k), recovered := false }] ∧ w' = w := by
  obtain ⟨h0, h1, _, hlt⟩ := hp.cells
  clear hp
  go_enter Tryz.func15, Tryz.ntmps15
  go_wp2
  exact ⟨rfl, rfl, rfl⟩

end Go.Proofs.YtlaifodlnolndaaGreatDoor

/- The parser of the program: skip. -/
namespace Go.Proofs.YtlaifodlnolndaaGreatDoor
open Go.RowKit

theorem grownBy_next {w w2 : World} {p : Nat} (hb : Below w.heap.size w w2) (u : Value) : w.grownBy (w2.setCell ⟨p, 1, none⟩ u) (some p) :=
  ⟨hb.os, hb.tape, hb.output, by simpa using hb.size, fun i hi hne => (heap_setCell_other w2 ⟨p, 1, none⟩ i u (fun e => hne (by rw [e]))).trans (hb.block i hi)⟩
theorem grownBy_below {w w' : World} (hb : Below w.heap.size w w') (row : Option Nat) : w.grownBy w' row := ⟨hb.os, hb.tape, hb.output, hb.size, fun q hq _ => hb.block q hq⟩

theorem tok_far {w : World} {p b o j k : Nat} {v : Value} {ts : List Tok} (hp : PAt w p v j) (hr : RowToks w b o ts) (hk : k < ts.length) : b ≠ p := by
  rintro rfl
  have h := (hr k hk).2.1
  unfold PAt at hp
  rcases Nat.eq_zero_or_pos (o + k * 4) with e | e
  · rw [e] at h
    simp [World.cell?, hp] at h
  · have : ¬ (o + k * 4 + 1 < 2) := by omega
    simp [World.cell?, hp, this] at h

set_option maxRecDepth 100000 in
set_option maxHeartbeats 2000000 in
theorem skip_no (p : Nat) (v wv : Value) (ts : List Tok) (k : Nat) (kind : Int) (ws : List (List UInt8)) (w : World) (hp : PAt w p v k) (ht : IsToks w v ts) (hw : WordsAt w wv ws) (hws : ws.length ≤ 1000) (hn : isB ts k kind ws = false) :
    Calls Tryz.prog 33 #[.pointer (some ⟨p, 0, none⟩), .int .i64 kind, wv] w fun e w' => e = .panicked [{ v := .iface 51 (.int .i64 k), recovered := false }] ∧ Below w.heap.size w w' := by
  have H := Lib.hid (is_any p v wv ts k kind ws w hp ht hw hws)
  have HN := Lib.hid hn
  clear hn hw ht
  have Hp := Lib.hid hp
  clear hp
  go_enter Tryz.func33, Tryz.ntmps33
  go_wp2_with fail
  with_reducible refine H.out.mono ?_
  rintro e w1 ⟨rfl, hb⟩
  rw [HN.out]
  go_wp2_with fail
  with_reducible refine (demand_no p v k w1 (Hp.out.below hb)).mono ?_
  rintro e w2 ⟨rfl, rfl⟩
  go_wp2
  exact ⟨rfl, rfl, hb⟩

set_option maxRecDepth 100000 in
set_option maxHeartbeats 2000000 in
theorem skip_yes (p : Nat) (v wv : Value) (ts : List Tok) (k : Nat) (kind : Int) (ws : List (List UInt8)) (w : World) (hp : PAt w p v k) (ht : IsToks w v ts) (hw : WordsAt w wv ws) (hws : ws.length ≤ 1000) (hn : isB ts k kind ws = true) (hk : k < ts.length) :
    Calls Tryz.prog 33 #[.pointer (some ⟨p, 0, none⟩), .int .i64 kind, wv] w fun e w' => e = .returned (.string ts[k].text) ∧ PAt w' p v (k + 1) ∧ w.grownBy w' (some p) := by
  have H := Lib.hid (is_any p v wv ts k kind ws w hp ht hw hws)
  have HN := Lib.hid hn
  have HT := Lib.hid ht
  clear hn hw ht
  have Hp := Lib.hid hp
  clear hp
  go_enter Tryz.func33, Tryz.ntmps33
  go_wp2_with fail
  with_reducible refine H.out.mono ?_
  rintro e w1 ⟨rfl, hb⟩
  rw [HN.out]
  have Hp1 := Lib.hid (Hp.out.below hb)
  have HT1 := Lib.hid (HT.out.below hb)
  have HB := Lib.hid hb
  clear hb
  obtain ⟨c0, c1, f1, hlt⟩ := Hp1.out.cells
  have hlm := HT1.out.1
  obtain ⟨_, _, ⟨rfl, _⟩ | ⟨b, o, c, rfl, hbl, hr⟩⟩ := HT1.out
  · simp at hk
  have hne := tok_far Hp1.out hr hk
  obtain ⟨_, d1, _⟩ := hr k hk
  clear hr
  have hw1 : IntKind.i64.wrap ((k : Int) + 1) = ((k + 1 : Nat) : Int) := by rw [IntWalk.i64_in _ (by omega)]; omega
  go_wp2_with fail
  with_reducible refine (demand_yes p w1).mono ?_
  rintro e w2 ⟨rfl, rfl⟩
  go_wp2_with fail
  have e1 : PAt (w2.setCell ⟨p, 1, none⟩ (.int .i64 (k + 1))) p (.slice (some ⟨b, o, none⟩) ts.length c) (k + 1) := Hp1.out.next _ _ (by omega)
  have d2 : (w2.setCell ⟨p, 1, none⟩ (.int .i64 (k + 1))).cell? ⟨b, o + k * 4 + 1, none⟩ = some (.string ts[k].text) := by
    have := heap_setCell_other w2 ⟨p, 1, none⟩ b (.int .i64 (k + 1)) hne
    unfold World.cell? at d1 ⊢
    dsimp only at d1 ⊢
    rw [this]; exact d1
  have G := Lib.hid (grownBy_next (p := p) HB.out (.int .i64 (k + 1)))
  obtain ⟨c0', c1', _, hlt'⟩ := e1.cells
  have E1 := Lib.hid e1
  clear e1 d1 c0 c1 f1 hlt
  generalize (w2.setCell ⟨p, 1, none⟩ (.int .i64 (k + 1))) = w3 at *
  have hkk : ((k + 1 : Nat) : Int) - 1 = (k : Int) := by omega
  go_quiet (fail)
  go_wp2
  go_ret
  exact ⟨rfl, E1.out, G.out.trans (grownBy_below (below_drewN (Below.refl _ _) _) _)⟩

end Go.Proofs.YtlaifodlnolndaaGreatDoor

/- The parser of the program: number. -/
namespace Go.Proofs.YtlaifodlnolndaaGreatDoor
open Go.RowKit

theorem words1 (w : World) (l : List UInt8) : WordsAt (w.alloc (.cells #[.string ⟨l.toArray⟩] 9)) (.slice (some ⟨w.heap.size, 0, none⟩) 1 1) [l] :=
  wordsAt_new w [l] 9 _ rfl

set_option maxRecDepth 100000 in
set_option maxHeartbeats 2000000 in
theorem number_no (p : Nat) (v : Value) (ts : List Tok) (k : Nat) (w : World) (hp : PAt w p v k) (ht : IsToks w v ts) (hn : isB ts k 2 [[]] = false) :
    Calls Tryz.prog 32 #[.pointer (some ⟨p, 0, none⟩)] w fun e w' => e = .panicked [{ v := .iface 51 (.int .i64 k), recovered := false }] ∧ Below w.heap.size w w' := by
  have hb0 : Below w.heap.size w (w.alloc (.cells #[.string ⟨#[]⟩] 9)) := (Below.refl _ _).alloc (Nat.le_refl _) _
  have H := Lib.hid (skip_no p v _ ts k 2 [[]] _ (hp.below hb0) (ht.below hb0) (words1 w []) (by decide) hn)
  have HB := Lib.hid hb0
  clear hp ht hn hb0
  go_enter Tryz.func32, Tryz.ntmps32
  go_wp2_with fail
  refine H.out.mono ?_
  rintro e w1 ⟨rfl, hb⟩
  go_wp2
  exact ⟨rfl, rfl, HB.out.trans (hb.mono HB.out.size)⟩

set_option maxRecDepth 100000 in
set_option maxHeartbeats 2000000 in
theorem number_yes (p : Nat) (v : Value) (ts : List Tok) (k : Nat) (w : World) (hp : PAt w p v k) (ht : IsToks w v ts) (hn : isB ts k 2 [[]] = true) (hk : k < ts.length) :
    Calls Tryz.prog 32 #[.pointer (some ⟨p, 0, none⟩)] w fun e w' => e = .returned (.int .i64 ts[k].n) ∧ PAt w' p v (k + 1) ∧ w.grownBy w' (some p) := by
  have hb0 : Below w.heap.size w (w.alloc (.cells #[.string ⟨#[]⟩] 9)) := (Below.refl _ _).alloc (Nat.le_refl _) _
  have H := Lib.hid (skip_yes p v _ ts k 2 [[]] _ (hp.below hb0) (ht.below hb0) (words1 w []) (by decide) hn hk)
  have HB := Lib.hid hb0
  have hlm := ht.1
  obtain ⟨_, _, ⟨rfl, _⟩ | ⟨b, o, c, rfl, hbl, hr⟩⟩ := ht
  · simp at hk
  have hne := tok_far hp hr hk
  obtain ⟨_, _, d1, _⟩ := hr k hk
  clear hp hn hb0 hr
  go_enter Tryz.func32, Tryz.ntmps32
  go_wp2_with fail
  refine H.out.mono ?_
  rintro e w1 ⟨rfl, hp1, hg⟩
  have HG := Lib.hid ((grownBy_below HB.out (some p)).trans hg)
  have d2 := HG.out.cell (a := ⟨b, _, none⟩) d1 (fun e => hne (by simpa using e))
  obtain ⟨c0, c1, _, hlt⟩ := hp1.cells
  have E1 := Lib.hid hp1
  clear hp1 hg d1
  have hkk : ((k + 1 : Nat) : Int) - 1 = (k : Int) := by omega
  go_wp2_with fail
  go_quiet (fail)
  go_wp2
  go_ret
  exact ⟨rfl, E1.out, HG.out.trans (grownBy_below (below_drewN (Below.refl _ _) _) _)⟩

end Go.Proofs.YtlaifodlnolndaaGreatDoor

/- The parser's words: a map from the words of variables and operators to their numbers. -/
namespace Go.Proofs.YtlaifodlnolndaaGreatDoor
open Go.RowKit Go.Maps Go.ChangeMaps Go.WideMaps

theorem keys9 : Keyed Tryz.prog 9 := string_keyed Tryz.underlying9
theorem zero3 (w : World) : (zeroValue 3).run Tryz.prog w = .ok (.int .i64 0) w := by kernel_rfl
def kl (l : List UInt8) : Lit := .string l
/- the map while it is filled -/
def wordsD : List (List UInt8 × Int) → DataW Unit → DataW Unit
  | [], D => D
  | x :: r, D => wordsD r (D.put (.string x.1) (.lit (.int .i64 x.2)))
def allWords : List (List UInt8 × Int) := [(wLevel, 0), (wPosition, 1), (wOrder, 2), (wAge, 3), (wFeed, 4), (wBelow, 1), (wAtmost, 2), (wIs, 3), (wAtleast, 4), (wAbove, 5)]
def MapW (w : World) (m : Nat) : Prop := w.ownsMap Tryz.prog 9 (plainElem Tryz.prog 3) m 10 (wordsD allWords (.map []))
theorem var_at {j : Nat} (h : j < 5) : (wordsD allWords (.map [])).atKey (.string (varsW.getD j [])) (.lit (.int .i64 0)) = .lit (.int .i64 (j : Int)) := by
  obtain rfl | rfl | rfl | rfl | rfl : j = 0 ∨ j = 1 ∨ j = 2 ∨ j = 3 ∨ j = 4 := by omega
  all_goals kernel_rfl
theorem op_at {j : Nat} (h : j < 5) : (wordsD allWords (.map [])).atKey (.string (opsW.getD j [])) (.lit (.int .i64 0)) = .lit (.int .i64 ((j : Int) + 1)) := by
  obtain rfl | rfl | rfl | rfl | rfl : j = 0 ∨ j = 1 ∨ j = 2 ∨ j = 3 ∨ j = 4 := by omega
  all_goals kernel_rfl
theorem look_word {w : World} {m : Nat} (h : MapW w m) (s : ByteArray) (hs : s.size ≤ maxLen) (c : Int) (hc : (wordsD allWords (.map [])).atKey (.string s.data.toList) (.lit (.int .i64 0)) = .lit (.int .i64 c)) :
    (Instr.lookup 45 (.map (some m)) (.string s) false).run Tryz.prog w = .ok (.int .i64 c) w := by
  obtain ⟨c', hrun, hat, _⟩ := World.ownsMap.lookup_int (t := 45) (q := .i64) h keys9 Tryz.underlying45 Tryz.underlying3 (zero3 w) (keyOf_string_mk Tryz.underlying9 hs)
  rw [hc] at hat
  simp only [DataW.lit.injEq, Lit.int.injEq, true_and] at hat
  rw [hrun, ← hat]

end Go.Proofs.YtlaifodlnolndaaGreatDoor

/- The reader of gate programs by places: what it does at the token at a place. -/
namespace Go.Proofs.YtlaifodlnolndaaGreatDoor
open Go.RowKit

/- numbers bear no text -/
def Bare (ts : List Tok) : Prop := ∀ t ∈ ts, t.kind = 2 → t.text.data.toList = []
def tokAt {α : Type} (p : Tok → Option α) (ts : List Tok) (k : Nat) : Option α := ts[k]?.bind p
theorem tokAt_lt {α : Type} {p : Tok → Option α} {ts : List Tok} {k : Nat} {a : α} (h : tokAt p ts k = some a) : ∃ hk : k < ts.length, p ts[k] = some a := by
  unfold tokAt at h
  rcases Nat.lt_or_ge k ts.length with hk | hk
  · rw [List.getElem?_eq_getElem hk] at h
    exact ⟨hk, h⟩
  · rw [List.getElem?_eq_none hk] at h; cases h
theorem need_yes {α : Type} {p : Tok → Option α} {ts : List Tok} {k : Nat} {a : α} (h : tokAt p ts k = some a) : need p (ts.drop k) = .ok (a, ts.drop (k + 1)) := by
  obtain ⟨hk, hp⟩ := tokAt_lt h
  rw [List.drop_eq_getElem_cons hk, need, hp]
theorem need_no {α : Type} {p : Tok → Option α} {ts : List Tok} {k : Nat} (h : tokAt p ts k = none) : need p (ts.drop k) = .error (ts.drop k) := by
  rcases Nat.lt_or_ge k ts.length with hk | hk
  · unfold tokAt at h
    rw [List.getElem?_eq_getElem hk] at h
    rw [List.drop_eq_getElem_cons hk, need, show p ts[k] = none from h]
  · rw [List.drop_eq_nil_of_le hk, need]
theorem isB_yes {α : Type} {p : Tok → Option α} {ts : List Tok} {k : Nat} {a : α} {kind : Int} {ws : List (List UInt8)} (h : tokAt p ts k = some a)
    (hp : ∀ t ∈ ts, (p t).isSome = (t.kind == kind && ws.contains t.text.data.toList)) : isB ts k kind ws = true := by
  obtain ⟨hk, h⟩ := tokAt_lt h
  unfold isB
  rw [List.getElem?_eq_getElem hk]
  show (ts[k].kind == kind && ws.contains ts[k].text.data.toList) = true
  rw [← hp _ (List.getElem_mem hk), h]; rfl
theorem isB_no {α : Type} {p : Tok → Option α} {ts : List Tok} {k : Nat} {kind : Int} {ws : List (List UInt8)} (h : tokAt p ts k = none)
    (hp : ∀ t ∈ ts, (p t).isSome = (t.kind == kind && ws.contains t.text.data.toList)) : isB ts k kind ws = false := by
  unfold isB
  rcases Nat.lt_or_ge k ts.length with hk | hk
  · unfold tokAt at h
    rw [List.getElem?_eq_getElem hk] at h ⊢
    show (ts[k].kind == kind && ws.contains ts[k].text.data.toList) = false
    rw [← hp _ (List.getElem_mem hk), show p ts[k] = none from h]; rfl
  · rw [List.getElem?_eq_none hk]

theorem idx_some (ws : List (List UInt8)) (s : List UInt8) : (idxW ws s).isSome = ws.contains s := by
  unfold idxW
  rw [Bool.eq_iff_iff, List.findIdx?_isSome, List.any_eq_true, List.contains_iff_mem]
  constructor
  · rintro ⟨x, hx, e⟩; rw [beq_iff_eq] at e; subst e; exact hx
  · intro h; exact ⟨s, h, beq_self_eq_true s⟩
theorem start_is (t : Tok) : (startP t).isSome = (t.kind == 1 && [wAlways, wWhen].contains t.text.data.toList) := by
  unfold startP word
  cases t.kind == 1
  · rfl
  · simp only [Bool.true_and, List.contains_cons, List.contains_nil, Bool.or_false]
    cases h1 : t.text.data.toList == wAlways <;> cases h2 : t.text.data.toList == wWhen <;> rfl
theorem var_is (t : Tok) : (varP t).isSome = (t.kind == 1 && varsW.contains t.text.data.toList) := by
  unfold varP
  rw [← idx_some]
  cases h : t.kind == 1
  · simp
  · simp
theorem op_is (t : Tok) : (opP t).isSome = (t.kind == 1 && opsW.contains t.text.data.toList) := by
  unfold opP
  rw [← idx_some]
  cases h : t.kind == 1
  · simp
  · simp
theorem num_is {ts : List Tok} (hb : Bare ts) (t : Tok) (ht : t ∈ ts) : (numP t).isSome = (t.kind == 2 && [[]].contains t.text.data.toList) := by
  unfold numP
  cases h : t.kind == 2
  · rw [Bool.false_and, if_neg (by simp)]; rfl
  · rw [if_pos (by simp), hb t ht (by simpa using h)]; rfl
theorem set_is (t : Tok) : (setP t).isSome = (t.kind == 1 && [wSet].contains t.text.data.toList) := by
  unfold setP word
  cases t.kind == 1
  · rfl
  · simp only [Bool.true_and, List.contains_cons, List.contains_nil, Bool.or_false]
    cases t.text.data.toList == wSet <;> rfl
theorem semi_is (t : Tok) : (semiP t).isSome = (t.kind == 3 && [[59]].contains t.text.data.toList) := by
  unfold semiP
  cases t.kind == 3
  · rfl
  · simp only [Bool.true_and, List.contains_cons, List.contains_nil, Bool.or_false]
    cases h : t.text.data.toList == [59] <;> rfl
theorem and_is (ts : List Tok) (k : Nat) : isB ts k 1 [wAnd] = headIs andB (ts.drop k) := by
  unfold isB
  rcases Nat.lt_or_ge k ts.length with hk | hk
  · rw [List.getElem?_eq_getElem hk, List.drop_eq_getElem_cons hk]
    show (ts[k].kind == 1 && [wAnd].contains ts[k].text.data.toList) = word wAnd ts[k]
    unfold word
    simp only [List.contains_cons, List.contains_nil, Bool.or_false]
  · rw [List.getElem?_eq_none hk, List.drop_eq_nil_of_le hk]; rfl

/- the words of a variable and of an operator, and what the map holds for them -/
theorem var_word {t : Tok} {v : Int} (h : varP t = some v) : ∃ j : Nat, j < 5 ∧ v = (j : Int) ∧ t.text.data.toList = varsW.getD j [] := by
  unfold varP at h
  split at h
  · obtain ⟨j, hj, rfl⟩ := Option.map_eq_some_iff.1 h
    unfold idxW at hj
    rw [List.findIdx?_eq_some_iff_getElem] at hj
    obtain ⟨hlt, he, _⟩ := hj
    refine ⟨j, hlt, rfl, ?_⟩
    rw [List.getD_eq_getElem?_getD, List.getElem?_eq_getElem hlt, Option.getD_some]
    exact (beq_iff_eq.1 he).symm
  · cases h
theorem op_word {t : Tok} {v : Int} (h : opP t = some v) : ∃ j : Nat, j < 5 ∧ v = (j : Int) + 1 ∧ t.text.data.toList = opsW.getD j [] := by
  unfold opP at h
  split at h
  · obtain ⟨j, hj, rfl⟩ := Option.map_eq_some_iff.1 h
    unfold idxW at hj
    rw [List.findIdx?_eq_some_iff_getElem] at hj
    obtain ⟨hlt, he, _⟩ := hj
    refine ⟨j, hlt, rfl, ?_⟩
    rw [List.getD_eq_getElem?_getD, List.getElem?_eq_getElem hlt, Option.getD_some]
    exact (beq_iff_eq.1 he).symm
  · cases h
theorem num_val {t : Tok} {v : Int} (h : numP t = some v) : v = t.n := by
  unfold numP at h; split at h
  · exact (Option.some.inj h).symm
  · cases h
theorem start_word {t : Tok} {b : Bool} (h : startP t = some b) : t.text.data.toList = if b then wWhen else wAlways := by
  unfold startP word at h
  split at h
  · rename_i hw; obtain rfl := Option.some.inj h; simp only [Bool.and_eq_true, beq_iff_eq] at hw; exact hw.2
  · split at h
    · rename_i hw; obtain rfl := Option.some.inj h; simp only [Bool.and_eq_true, beq_iff_eq] at hw; exact hw.2
    · cases h

end Go.Proofs.YtlaifodlnolndaaGreatDoor

/- Texts Hi in one: each says what it proves. -/
import Derived.Test.YtlaifodlnolndaaGreatDoorMl
import Derived.Deep.RegionWith
/- Reading a line: the walk. -/
namespace Go.Proofs.YtlaifodlnolndaaGreatDoor
open Go.RowKit Go.Maps Go.ChangeMaps Go.WideMaps

theorem text_is {t : ByteArray} {l : List UInt8} (h : t.data.toList = l) : t = ⟨l.toArray⟩ := by subst h; rfl
theorem wordsAt_in (w : World) (ws : List (List UInt8)) (t : TypeId) (arr : Array Value) (ha : arr = (ws.map strV).toArray) (b : Nat) (hb : b = w.heap.size) : WordsAt (w.alloc (.cells arr t)) (.slice (some ⟨b, 0, none⟩) ws.length ws.length) ws := by
  subst hb; exact wordsAt_new w ws t arr ha
/- what holds while a line is read: p the parser, X the line's own variable -/
structure LineSt (w : World) (p X : Nat) (v : Value) (k : Nat) (acc : List Cd) (vc : Value) (st : Int) (wr : World) : Prop where
  grown : w.grownBy wr (some p)
  at_ : PAt wr p v k
  cell : wr.heap[X]? = some (.cells #[vc, .int .i64 st] 35 (0, 0))
  own : OwnCds (X + 1) wr vc acc
theorem OwnCds.kept {B : Nat} {w w' : World} {v : Value} {acc : List Cd} (h : OwnCds B w v acc) {row : Option Nat} (hg : w.grownBy w' row) (hne : ∀ b, row = some b → b < B) : OwnCds B w' v acc := by
  refine World.ownsRow.kept h hg ?_
  cases hv : v.ownBlock with
  | none => exact .inl rfl
  | some b =>
    refine .inr fun e => ?_
    have := (World.ownsRow.lt h b hv).1
    have := hne b e.symm
    omega
theorem grown_refl (w : World) {row : Option Nat} : w.grownBy w row := ⟨rfl, rfl, rfl, Nat.le_refl _, fun _ _ _ => rfl⟩
theorem OwnCds.mono {B B' : Nat} {w : World} {v : Value} {acc : List Cd} (h : OwnCds B w v acc) (hb : B' ≤ B) : OwnCds B' w v acc := by
  refine ⟨h.1, ?_⟩
  rcases h.2 with hn | ⟨g, cap, cur, hv, hg, rest⟩
  · exact .inl hn
  · exact .inr ⟨g, cap, cur, hv, Nat.le_trans hb hg, rest⟩
section
variable {w wr w2 : World} {p X k k2 : Nat} {v vc vc2 : Value} {acc acc2 : List Cd} {st : Int}
theorem LineSt.next (h : LineSt w p X v k acc vc st wr) (hpX : p < X) (hp : PAt w2 p v k2) (hg : wr.grownBy w2 (some p)) : LineSt w p X v k2 acc vc st w2 :=
  ⟨h.grown.trans hg, hp, (hg.block X (Array.getElem?_eq_some_iff.1 h.cell).1 (by simp; omega)).trans h.cell, h.own.kept hg (fun b e => by simp at e; omega)⟩
theorem LineSt.below (h : LineSt w p X v k acc vc st wr) (hpX : p < X) (hb : Below wr.heap.size wr w2) : LineSt w p X v k acc vc st w2 := h.next hpX (h.at_.below hb) (grownBy_below hb _)
theorem LineSt.cells (h : LineSt w p X v k acc vc st wr) : wr.cell? ⟨X, 0, none⟩ = some vc ∧ wr.cell? ⟨X, 1, none⟩ = some (.int .i64 st) ∧ wr.frozen? ⟨X, 0, none⟩ = false ∧ wr.frozen? ⟨X, 1, none⟩ = false ∧ X < wr.heap.size := by
  have hh := h.cell
  exact ⟨by simp [World.cell?, hh], by simp [World.cell?, hh], by simp [World.frozen?, hh], by simp [World.frozen?, hh], (Array.getElem?_eq_some_iff.1 hh).1⟩
theorem LineSt.append (h : LineSt w p X v k acc vc st wr) (hpX : p < X) (hwX : w.heap.size ≤ X) (ho : OwnCds (X + 1) w2 vc2 acc2) (hg : wr.grownBy w2 vc.ownBlock) : LineSt w p X v k acc2 vc2 st (w2.setCell ⟨X, 0, none⟩ vc2) := by
  have hlt := Array.getElem?_eq_some_iff.1 h.cell |>.1
  have hown : ∀ b, vc.ownBlock = some b → X + 1 ≤ b := fun b hb => (World.ownsRow.lt h.own b hb).1
  have hX : w2.heap[X]? = some (.cells #[vc, .int .i64 st] 35 (0, 0)) := (hg.block X hlt (fun e => by have := hown X e.symm; omega)).trans h.cell
  have hp : PAt w2 p v k := by
    have := h.at_
    unfold PAt at this ⊢
    rw [hg.block p (Array.getElem?_eq_some_iff.1 this).1 (fun e => by have := hown p e.symm; omega)]; exact this
  refine ⟨?_, ?_, ?_, ?_⟩
  · have hs := h.grown.size
    refine ⟨hg.os.trans h.grown.os, hg.tape.trans h.grown.tape, hg.output.trans h.grown.output, by have := hg.size; simp; omega, fun i hi hne => ?_⟩
    rw [heap_setCell_other w2 ⟨X, 0, none⟩ i vc2 (by show i ≠ X; omega), hg.block i (by omega) (fun e => by have := hown i e.symm; omega)]
    exact h.grown.block i hi hne
  · unfold PAt at hp ⊢
    rw [heap_setCell_other w2 ⟨X, 0, none⟩ p vc2 (by show p ≠ X; omega)]; exact hp
  · simp [World.setCell, Array.getElem?_modify, hX]
  · exact ownsRow_setCell_below ho (by show X < X + 1; omega) vc2
theorem LineSt.setn (h : LineSt w p X v k acc vc st wr) (hpX : p < X) (hwX : w.heap.size ≤ X) (z : Int) : LineSt w p X v k acc vc z (wr.setCell ⟨X, 1, none⟩ (.int .i64 z)) := by
  refine ⟨?_, ?_, ?_, ownsRow_setCell_below h.own (by show X < X + 1; omega) _⟩
  · have hs := h.grown.size
    refine ⟨h.grown.os, h.grown.tape, h.grown.output, by simp; omega, fun i hi hne => ?_⟩
    rw [heap_setCell_other wr ⟨X, 1, none⟩ i _ (by show i ≠ X; omega)]
    exact h.grown.block i hi hne
  · have hp := h.at_
    unfold PAt at hp ⊢
    rw [heap_setCell_other wr ⟨X, 1, none⟩ p _ (by show p ≠ X; omega)]; exact hp
  · simp [World.setCell, Array.getElem?_modify, h.cell]
theorem grown_set (w : World) (b j : Nat) (u : Value) : w.grownBy (w.setCell ⟨b, j, none⟩ u) (some b) := ⟨rfl, rfl, rfl, by simp, fun i _ hne => heap_setCell_other w ⟨b, j, none⟩ i u (fun e => hne (by rw [e]))⟩
theorem LineSt.far (h : LineSt w p X v k acc vc st wr) {b j : Nat} {u : Value} (hX : X < b) (hpX : p < X) (hwX : w.heap.size ≤ X) (hnb : ∀ q, vc.ownBlock = some q → q ≠ b) : LineSt w p X v k acc vc st (wr.setCell ⟨b, j, none⟩ u) := by
  have hg := grown_set wr b j u
  refine ⟨?_, ?_, ?_, ?_⟩
  · have hs := h.grown.size
    refine ⟨h.grown.os, h.grown.tape, h.grown.output, by simp; omega, fun i hi hne => ?_⟩
    rw [heap_setCell_other wr ⟨b, j, none⟩ i _ (by show i ≠ b; omega)]
    exact h.grown.block i hi hne
  · have hp := h.at_
    unfold PAt at hp ⊢
    rw [heap_setCell_other wr ⟨b, j, none⟩ p _ (by show p ≠ b; omega)]; exact hp
  · rw [heap_setCell_other wr ⟨b, j, none⟩ X _ (by show X ≠ b; omega)]; exact h.cell
  · refine World.ownsRow.kept h.own hg ?_
    cases hv : vc.ownBlock with
    | none => exact .inl rfl
    | some q => exact .inr fun e => hnb q hv (by simpa using e)
theorem LineSt.app_cells (h : LineSt w p X v k acc vc st wr) (hg : wr.grownBy w2 vc.ownBlock) : w2.cell? ⟨X, 0, none⟩ = some vc ∧ w2.frozen? ⟨X, 0, none⟩ = false := by
  have hlt := Array.getElem?_eq_some_iff.1 h.cell |>.1
  have hX : w2.heap[X]? = some (.cells #[vc, .int .i64 st] 35 (0, 0)) := (hg.block X hlt (fun e => by have := (World.ownsRow.lt h.own X e.symm).1; omega)).trans h.cell
  exact ⟨by simp [World.cell?, hX], by simp [World.frozen?, hX]⟩
theorem OwnCds.form {B : Nat} {w : World} {v : Value} {acc : List Cd} (h : OwnCds B w v acc) : ∃ a c, v = .slice a acc.length c := by
  rcases h.2 with ⟨rfl, hn⟩ | ⟨g, cap, cur, rfl, _⟩
  · exact ⟨none, 0, by rw [hn]⟩
  · exact ⟨_, _, rfl⟩
end
theorem isB_lt {ts : List Tok} {k : Nat} {kd : Int} {ws : List (List UInt8)} (h : isB ts k kd ws = true) : k < ts.length := by
  rcases Nat.lt_or_ge k ts.length with hk | hk
  · exact hk
  · unfold isB at h; rw [List.getElem?_eq_none hk] at h; cases h
/- the parser's place -/
def spotOf (p : Nat) (w : World) : Nat := match w.cell? ⟨p, 1, none⟩ with
  | some (.int _ n) => n.toNat
  | _ => 0
theorem spotOf_is {w : World} {p k : Nat} {v : Value} (h : PAt w p v k) : spotOf p w = k := by
  unfold spotOf
  rw [h.cells.2.1]
  simp

set_option maxRecDepth 100000 in
set_option maxHeartbeats 4000000 in
theorem line_any (p m : Nat) (v : Value) (ts : List Tok) (k0 : Nat) (w : World) (hp : PAt w p v k0) (hk : k0 ≤ ts.length) (hm : MapW w m) (hmp : m ≠ p) (ht : IsToks w v ts) (hb : Bare ts) :
    Calls Tryz.prog 16 #[.pointer (some ⟨p, 0, none⟩), .map (some m)] w (LineEnd ts p v k0 w (pLine (ts.drop k0))) := by
  have hmf : ∀ (fn : Fn) (first cap : Array Value) (w : World), (Instr.makeFunc fn first cap).run Tryz.prog w = .ok (.func fn first cap) w := fun _ _ _ _ => rfl
  generalize hr : pLine (ts.drop k0) = r
  have hpX := hp.cells.2.2.2
  have Hp := Lib.hid hp
  have HM := Lib.hid hm
  have HT := Lib.hid ht
  have HR := Lib.hid hr
  have hb1 : Below w.heap.size w (w.alloc (.cells #[.slice none 0 0, .int .i64 0] 35)) := (Below.refl _ _).alloc (Nat.le_refl _) _
  have HS0 := Lib.hid (⟨grownBy_below hb1 _, hp.below hb1, heap_new _ _ _ rfl, World.ownsRow_nil _ _ _ _⟩ : LineSt w p w.heap.size v k0 [] (.slice none 0 0) 0 (w.alloc (.cells #[.slice none 0 0, .int .i64 0] 35)))
  have hb2 : Below (w.alloc (.cells #[.slice none 0 0, .int .i64 0] 35)).heap.size (w.alloc (.cells #[.slice none 0 0, .int .i64 0] 35)) ((w.alloc (.cells #[.slice none 0 0, .int .i64 0] 35)).alloc (.cells #[.string ⟨#[97, 108, 119, 97, 121, 115]⟩, .string ⟨#[119, 104, 101, 110]⟩] 9)) := (Below.refl _ _).alloc (Nat.le_refl _) _
  have HS1 := Lib.hid (HS0.out.below hpX hb2)
  have HT1 := Lib.hid (HT.out.kept Hp.out HS1.out.grown)
  have HW1 : Hid (WordsAt ((w.alloc (.cells #[.slice none 0 0, .int .i64 0] 35)).alloc (.cells #[.string ⟨#[97, 108, 119, 97, 121, 115]⟩, .string ⟨#[119, 104, 101, 110]⟩] 9)) (.slice (some ⟨w.heap.size + 1, 0, none⟩) 2 2) [wAlways, wWhen]) := Lib.hid (wordsAt_in (w.alloc (.cells #[.slice none 0 0, .int .i64 0] 35)) [wAlways, wWhen] 9 _ rfl (w.heap.size + 1) (by simp))
  clear hp hm ht hr hb1 hb2 HS0
  cases hs : tokAt startP ts k0 with
  | none =>
    have HRe := Lib.hid (HR.out.symm.trans (line_no hs))
    go_enter Tryz.func16, Tryz.ntmps16
    go_wp2_with fail
    with_reducible refine (skip_no p v _ ts k0 1 [wAlways, wWhen] _ HS1.out.at_ HT1.out HW1.out (by decide) (isB_no hs (fun t _ => start_is t))).mono ?_
    rintro e w2 ⟨rfl, hb2⟩
    rw [HRe.out]
    exact ⟨rfl, k0, hk, rfl, rfl, HS1.out.grown.trans (grownBy_below hb2 _)⟩
  | some b0 =>
    obtain ⟨hk0, hs0⟩ := tokAt_lt hs
    have htx := text_is (start_word hs0)
    clear hs0
    generalize hX : w.heap.size = X at hpX HS1 HT1 HW1 ⊢
    have hwX := Nat.le_of_eq hX
    cases b0
    · have htx2 : ts[k0].text = ⟨#[97, 108, 119, 97, 121, 115]⟩ := htx
      have HR := Lib.hid ((line_plain hs).symm.trans HR.out)
      clear htx
      go_enter Tryz.func16, Tryz.ntmps16
      go_wp2_with fail
      with_reducible refine (skip_yes p v _ ts k0 1 [wAlways, wWhen] _ HS1.out.at_ HT1.out HW1.out (by decide) (isB_yes hs (fun t _ => start_is t)) hk0).mono ?_
      rintro e wr ⟨rfl, hp2, hg2⟩
      rw [htx2]
      have HS := Lib.hid (HS1.out.next hpX hp2 hg2)
      clear hp2 hg2 HS1 HT1 HW1 htx2 hs
      have HX := Lib.hid HS.out.cells
      have hb5 : Below wr.heap.size wr (wr.alloc (.cells #[.string ⟨#[115, 101, 116]⟩] 9)) := (Below.refl _ _).alloc (Nat.le_refl _) _
      have HS5 := Lib.hid (HS.out.below hpX hb5)
      have HT5 := Lib.hid (HT.out.kept Hp.out HS5.out.grown)
      have HW5 : Hid (WordsAt (wr.alloc (.cells #[.string ⟨#[115, 101, 116]⟩] 9)) (.slice (some ⟨wr.heap.size, 0, none⟩) 1 1) [wSet]) := Lib.hid (wordsAt_in wr [wSet] 9 _ rfl _ rfl)
      clear hb5 HX
      cases h1 : tokAt setP ts (k0 + 1) with
      | none =>
        have HRe := Lib.hid (HR.out.symm.trans (tail_no1 h1))
        go_wp2_with fail
        with_reducible refine (skip_no p v _ ts (k0 + 1) 1 [wSet] _ HS5.out.at_ HT5.out HW5.out (by decide) (isB_no h1 (fun t _ => set_is t))).mono ?_
        rintro e w2 ⟨rfl, hb2⟩
        exact ⟨rfl, (by rw [HRe.out]; exact ⟨k0 + 1, by omega, rfl, rfl, HS5.out.grown.trans (grownBy_below hb2 _)⟩ : LineEnd ts p v k0 w r _ _)⟩
      | some u =>
        obtain rfl : u = () := rfl
        obtain ⟨hk1, _⟩ := tokAt_lt h1
        go_wp2_with fail
        with_reducible refine (skip_yes p v _ ts (k0 + 1) 1 [wSet] _ HS5.out.at_ HT5.out HW5.out (by decide) (isB_yes h1 (fun t _ => set_is t)) hk1).mono ?_
        rintro e w2 ⟨rfl, hp2, hg2⟩
        have HS6 := Lib.hid (HS5.out.next hpX hp2 hg2)
        have HT6 := Lib.hid (HT.out.kept Hp.out HS6.out.grown)
        clear hp2 hg2 HS5 HT5 HW5
        obtain ⟨x0, x1, y0, y1, hXl⟩ := HS6.out.cells
        cases h2 : tokAt numP ts (k0 + 1 + 1) with
        | none =>
          have HRe := Lib.hid (HR.out.symm.trans (tail_no2 h1 h2))
          go_wp2_with fail
          with_reducible refine (number_no p v ts (k0 + 1 + 1) _ HS6.out.at_ HT6.out (isB_no h2 (num_is hb))).mono ?_
          rintro e w3 ⟨rfl, hb3⟩
          exact ⟨rfl, (by rw [HRe.out]; exact ⟨k0 + 1 + 1, by omega, rfl, rfl, HS6.out.grown.trans (grownBy_below hb3 _)⟩ : LineEnd ts p v k0 w r _ _)⟩
        | some z =>
          obtain ⟨hk2, hz2⟩ := tokAt_lt h2
          go_wp2_with fail
          with_reducible refine (number_yes p v ts (k0 + 1 + 1) _ HS6.out.at_ HT6.out (isB_yes h2 (num_is hb)) hk2).mono ?_
          rintro e w3 ⟨rfl, hp3, hg3⟩
          rw [← num_val hz2]
          have HS7 := Lib.hid (HS6.out.next hpX hp3 hg3)
          clear hp3 hg3 HS6 HT6 x0 x1 y0 y1 hXl hz2
          obtain ⟨x0, x1, y0, y1, hXl⟩ := HS7.out.cells
          go_wp2_with fail
          have hw8 : Hid (WordsAt ((w3.setCell ⟨X, 1, none⟩ (.int .i64 z)).alloc (.cells #[.string ⟨#[59]⟩] 9)) (.slice (some ⟨w3.heap.size, 0, none⟩) 1 1) [[59]]) := Lib.hid (wordsAt_in (w3.setCell ⟨X, 1, none⟩ (.int .i64 z)) [[59]] 9 _ rfl _ (by simp))
          have HS8 := Lib.hid ((HS7.out.setn hpX hwX z).below hpX ((Below.refl _ _).alloc (Nat.le_refl _) (.cells #[.string ⟨#[59]⟩] 9)))
          have HT8 := Lib.hid (HT.out.kept Hp.out HS8.out.grown)
          cases h3 : tokAt semiP ts (k0 + 1 + 2) with
          | none =>
            have HRe := Lib.hid (HR.out.symm.trans (tail_no3 h1 h2 h3))
            with_reducible refine (skip_no p v _ ts (k0 + 1 + 2) 3 [[59]] _ HS8.out.at_ HT8.out hw8.out (by decide) (isB_no h3 (fun t _ => semi_is t))).mono ?_
            rintro e w4 ⟨rfl, hb4⟩
            exact ⟨rfl, (by rw [HRe.out]; exact ⟨k0 + 1 + 2, by omega, rfl, rfl, HS8.out.grown.trans (grownBy_below hb4 _)⟩ : LineEnd ts p v k0 w r _ _)⟩
          | some u =>
            obtain rfl : u = () := rfl
            obtain ⟨hk3, _⟩ := tokAt_lt h3
            have HRe := Lib.hid (HR.out.symm.trans (tail_yes h1 h2 h3))
            with_reducible refine (skip_yes p v _ ts (k0 + 1 + 2) 3 [[59]] _ HS8.out.at_ HT8.out hw8.out (by decide) (isB_yes h3 (fun t _ => semi_is t)) hk3).mono ?_
            rintro e w4 ⟨rfl, hp4, hg4⟩
            have HS9 := Lib.hid (HS8.out.next hpX hp4 hg4)
            clear hp4 hg4 HS8 HT8 hw8 HS7 x0 x1 y0 y1 hXl
            obtain ⟨x0, x1, y0, y1, hXl⟩ := HS9.out.cells
            go_wp2
            have HS10 := Lib.hid ((HS9.out.append hpX hwX HS9.out.own (grown_refl w4)).setn hpX hwX z)
            clear HS9 x0 x1 y0 y1 hXl
            obtain ⟨x0, x1, y0, y1, hXl⟩ := HS10.out.cells
            generalize ((w4.setCell ⟨X, 0, none⟩ (.slice none 0 0)).setCell ⟨X, 1, none⟩ (.int .i64 z)) = w5 at HS10 x0 x1 y0 y1 hXl ⊢
            refine bodyPost_ret (v := .agg #[(.slice none 0 0), .int .i64 z]) ?_ rfl ?_
            · simp [results, Tryz.results16, go_sem, x0, x1]
            · rw [HRe.out]
              exact ⟨k0 + 1 + 3, (.slice none 0 0), by omega, by omega, rfl, rfl, HS10.out.own.mono (by omega), HS10.out.at_, HS10.out.grown⟩
    · have htx2 : ts[k0].text = ⟨#[119, 104, 101, 110]⟩ := htx
      have HR := Lib.hid ((line_conds hs).symm.trans HR.out)
      clear htx
      go_enter Tryz.func16, Tryz.ntmps16
      go_wp2_with fail
      with_reducible refine (skip_yes p v _ ts k0 1 [wAlways, wWhen] _ HS1.out.at_ HT1.out HW1.out (by decide) (isB_yes hs (fun t _ => start_is t)) hk0).mono ?_
      rintro e wr ⟨rfl, hp2, hg2⟩
      rw [htx2]
      have HS := Lib.hid (HS1.out.next hpX hp2 hg2)
      clear hp2 hg2 HS1 HT1 HW1 htx2 hs
      go_wp2_with fail
      go_loopw [6] (fun _ wr => ∃ k acc va vn vc, Hid (LineSt w p X v k acc (.slice va vn vc) 0 wr) ∧ k ≤ ts.length ∧ k0 < k ∧ acc.length < 4 ∧ Hid (condsThen (4 - acc.length) acc (ts.drop k) = r)) (fun _ wr => ts.length - spotOf p wr)
      case atStart => exact ⟨k0 + 1, [], none, 0, 0, HS, by omega, by omega, by decide, HR⟩
      case round =>
        clear HR HS
        rename_i wq
        clear wq
        obtain ⟨k, acc, va, vn, vc, HS, hkl, hk0k, h4, HR⟩ := hrel
        obtain ⟨n, hn⟩ : ∃ n, 4 - acc.length = n + 1 := ⟨3 - acc.length, by omega⟩
        rw [hn] at HR
        have HMr := Lib.hid (World.ownsMap.kept HM.out HS.out.grown (by simpa using hmp) : MapW wr m)
        have HTr := Lib.hid (HT.out.kept Hp.out HS.out.grown)
        have Hspot := Lib.hid (spotOf_is HS.out.at_)
        go_wp2_with fail
        trace_state
        refine read_region _ _ _ p m v ts k _ (by kernel_rfl) rfl rfl (by simp) HS.out.at_ HMr.out hmp HTr.out ?_ ?_ ?_
        · intro hv a w' hd hg
          have HRe := Lib.hid (HR.out.symm.trans (conds_no1 hv))
          exact ⟨hd, (by rw [HRe.out]; exact ⟨k, hkl, rfl, rfl, HS.out.grown.trans hg⟩ : LineEnd ts p v k0 w r _ _)⟩
        · intro x hv hv2 a w' hd hg
          have HRe := Lib.hid (HR.out.symm.trans (conds_no2 hv hv2))
          obtain ⟨hlt, _⟩ := tokAt_lt hv
          exact ⟨hd, (by rw [HRe.out]; exact ⟨k + 1, by omega, rfl, rfl, HS.out.grown.trans hg⟩ : LineEnd ts p v k0 w r _ _)⟩
        · intro x y hv hv2 af w2 b hsz hdf hfr h6 hb0 hblk hp2 hg2
          obtain ⟨hlt1, _⟩ := tokAt_lt hv
          obtain ⟨hlt2, _⟩ := tokAt_lt hv2
          rw [rebuild (a := af) [6, 13, 14, 15, 16, 17, 18, 19, 20, 21, 22, 23] (by exact hsz) hdf (fun k hk => hfr k (by simp at hk; omega) (by simp at hk; omega))]
          simp only [List.foldl_cons, List.foldl_nil]
          rw [h6]
          have HS2 := Lib.hid (HS.out.next hpX hp2 hg2)
          have hbs : wr.heap.size ≤ b := hb0
          have hXw := HS.out.cells.2.2.2.2
          have hXb : X < b := by omega
          have hnb : ∀ q, (Value.slice va vn vc).ownBlock = some q → q ≠ b := fun q hq => by have := (World.ownsRow.lt HS.out.own q hq).2; omega
          have HB := Lib.hid hblk
          clear hsz hdf hfr h6 hg2 HMr HTr HS hp2 hblk hb0
          generalize af.tmps.getD 13 undef = x13
          generalize af.tmps.getD 14 undef = x14
          generalize af.tmps.getD 15 undef = x15
          generalize af.tmps.getD 16 undef = x16
          generalize af.tmps.getD 17 undef = x17
          generalize af.tmps.getD 18 undef = x18
          generalize af.tmps.getD 19 undef = x19
          generalize af.tmps.getD 20 undef = x20
          generalize af.tmps.getD 21 undef = x21
          generalize af.tmps.getD 22 undef = x22
          generalize af.tmps.getD 23 undef = x23
          clear af
          have HT2 := Lib.hid (HT.out.kept Hp.out HS2.out.grown)
          cases hv3 : tokAt numP ts (k + 2) with
          | none =>
            have HRe := Lib.hid (HR.out.symm.trans (conds_no3 hv hv2 hv3))
            go_wp2_with fail
            with_reducible refine (number_no p v ts (k + 2) _ HS2.out.at_ HT2.out (isB_no hv3 (num_is hb))).mono ?_
            rintro e w3 ⟨rfl, hb3⟩
            exact ⟨rfl, (by rw [HRe.out]; exact ⟨k + 2, by omega, rfl, rfl, HS2.out.grown.trans (grownBy_below hb3 _)⟩ : LineEnd ts p v k0 w r _ _)⟩
          | some z =>
            obtain ⟨hlt3, hz3⟩ := tokAt_lt hv3
            go_wp2_with fail
            with_reducible refine (number_yes p v ts (k + 2) _ HS2.out.at_ HT2.out (isB_yes hv3 (num_is hb)) hlt3).mono ?_
            rintro e w3 ⟨rfl, hp3, hg3⟩
            rw [← num_val hz3]
            have HS3 := Lib.hid (HS2.out.next (k2 := k + 3) hpX hp3 hg3)
            have HB3 := Lib.hid ((hg3.block b (Array.getElem?_eq_some_iff.1 HB.out).1 (by simp; omega)).trans HB.out)
            clear hp3 hg3 HS2 HT2 HB hz3
            obtain ⟨x0, x1, y0, y1, hXl⟩ := HS3.out.cells
            have z0 : w3.cell? ⟨b, 0, none⟩ = some (.int .i64 x) := by simp [World.cell?, HB3.out]
            have z1 : w3.cell? ⟨b, 1, none⟩ = some (.int .i64 y) := by simp [World.cell?, HB3.out]
            have z2 : w3.cell? ⟨b, 2, none⟩ = some (.int .i64 0) := by simp [World.cell?, HB3.out]
            have q2 : w3.frozen? ⟨b, 2, none⟩ = false := by simp [World.frozen?, HB3.out]
            have HS4 := Lib.hid (HS3.out.far (j := 2) (u := .int .i64 z) hXb hpX hwX hnb)
            have HS5 := Lib.hid (HS4.out.below hpX ((Below.refl _ _).alloc (Nat.le_refl _) (.cells #[.int .i64 x, .int .i64 y, .int .i64 z] 32)))
            have HZ : Hid (X + 1 ≤ ((w3.setCell ⟨b, 2, none⟩ (.int .i64 z)).alloc (.cells #[.int .i64 x, .int .i64 y, .int .i64 z] 32)).heap.size) := Lib.hid (by have := HS3.out.cells.2.2.2.2; simp; omega)
            have HA : Hid (acc.length ≤ 1000000) := Lib.hid (by omega)
            rcases n with _ | n
            · have hq : ((acc.length : Int) + 1 == 4) = true := by simp; omega
              have HR := Lib.hid ((if_neg (by simp)).symm.trans ((conds_one hv hv2 hv3).symm.trans HR.out) : lineTail (acc ++ [⟨x, y, z⟩]) (ts.drop (k + 3)) = r)
              go_wp2_with (at_builtin; (refine append_cond (X + 1) rfl _ _ rfl (.slice va vn vc) acc rfl HS5.out.own ⟨x, y, z⟩ w3.heap.size rfl (by simp [go_sem]) (by simp [go_sem]) (by simp [go_sem]) HA.out HZ.out ?_); intro v6 w6 hown6 hg6; have HO6 := Lib.hid hown6; have HX6 := HS5.out.app_cells hg6; have HS7 := Lib.hid (HS5.out.append hpX hwX hown6 hg6); obtain ⟨va6, vc6, rfl⟩ := HO6.out.form; rw [List.length_append, List.length_singleton] at HS7; obtain ⟨x6, y6⟩ := HX6; clear hown6 hg6 HO6)
              have hsz7 : w6.heap.size = (w6.setCell ⟨X, 0, none⟩ (.slice va6 (acc.length + 1) vc6)).heap.size := by simp
              generalize (w6.setCell ⟨X, 0, none⟩ (.slice va6 (acc.length + 1) vc6)) = w7 at HS7 hsz7 ⊢
              have HSZ := Lib.hid hsz7
              have HS := HS7
              clear hsz7 x6 y6 HS7 HS4 HS5 HZ HA HS3 HB3 z0 z1 z2 q2 x0 x1 y0 y1 hXl hq
              have HX := Lib.hid HS.out.cells
              have hb5 : Below w7.heap.size w7 (w7.alloc (.cells #[.string ⟨#[115, 101, 116]⟩] 9)) := (Below.refl _ _).alloc (Nat.le_refl _) _
              have HS5 := Lib.hid (HS.out.below hpX hb5)
              have HT5 := Lib.hid (HT.out.kept Hp.out HS5.out.grown)
              have HW5 : Hid (WordsAt (w7.alloc (.cells #[.string ⟨#[115, 101, 116]⟩] 9)) (.slice (some ⟨w6.heap.size, 0, none⟩) 1 1) [wSet]) := Lib.hid (wordsAt_in w7 [wSet] 9 _ rfl _ HSZ.out)
              clear hb5 HX
              cases h1 : tokAt setP ts (k + 3) with
              | none =>
                have HRe := Lib.hid (HR.out.symm.trans (tail_no1 h1))
                skip
                with_reducible refine (skip_no p v _ ts (k + 3) 1 [wSet] _ HS5.out.at_ HT5.out HW5.out (by decide) (isB_no h1 (fun t _ => set_is t))).mono ?_
                rintro e w2 ⟨rfl, hb2⟩
                exact ⟨rfl, (by rw [HRe.out]; exact ⟨k + 3, by omega, rfl, rfl, HS5.out.grown.trans (grownBy_below hb2 _)⟩ : LineEnd ts p v k0 w r _ _)⟩
              | some u =>
                obtain rfl : u = () := rfl
                obtain ⟨hk1, _⟩ := tokAt_lt h1
                skip
                with_reducible refine (skip_yes p v _ ts (k + 3) 1 [wSet] _ HS5.out.at_ HT5.out HW5.out (by decide) (isB_yes h1 (fun t _ => set_is t)) hk1).mono ?_
                rintro e w2 ⟨rfl, hp2, hg2⟩
                have HS6 := Lib.hid (HS5.out.next hpX hp2 hg2)
                have HT6 := Lib.hid (HT.out.kept Hp.out HS6.out.grown)
                clear hp2 hg2 HS5 HT5 HW5
                obtain ⟨x0, x1, y0, y1, hXl⟩ := HS6.out.cells
                cases h2 : tokAt numP ts (k + 3 + 1) with
                | none =>
                  have HRe := Lib.hid (HR.out.symm.trans (tail_no2 h1 h2))
                  go_wp2_with fail
                  with_reducible refine (number_no p v ts (k + 3 + 1) _ HS6.out.at_ HT6.out (isB_no h2 (num_is hb))).mono ?_
                  rintro e w3 ⟨rfl, hb3⟩
                  exact ⟨rfl, (by rw [HRe.out]; exact ⟨k + 3 + 1, by omega, rfl, rfl, HS6.out.grown.trans (grownBy_below hb3 _)⟩ : LineEnd ts p v k0 w r _ _)⟩
                | some z =>
                  obtain ⟨hk2, hz2⟩ := tokAt_lt h2
                  go_wp2_with fail
                  with_reducible refine (number_yes p v ts (k + 3 + 1) _ HS6.out.at_ HT6.out (isB_yes h2 (num_is hb)) hk2).mono ?_
                  rintro e w3 ⟨rfl, hp3, hg3⟩
                  rw [← num_val hz2]
                  have HS7 := Lib.hid (HS6.out.next hpX hp3 hg3)
                  clear hp3 hg3 HS6 HT6 x0 x1 y0 y1 hXl hz2
                  obtain ⟨x0, x1, y0, y1, hXl⟩ := HS7.out.cells
                  go_wp2_with fail
                  have hw8 : Hid (WordsAt ((w3.setCell ⟨X, 1, none⟩ (.int .i64 z)).alloc (.cells #[.string ⟨#[59]⟩] 9)) (.slice (some ⟨w3.heap.size, 0, none⟩) 1 1) [[59]]) := Lib.hid (wordsAt_in (w3.setCell ⟨X, 1, none⟩ (.int .i64 z)) [[59]] 9 _ rfl _ (by simp))
                  have HS8 := Lib.hid ((HS7.out.setn hpX hwX z).below hpX ((Below.refl _ _).alloc (Nat.le_refl _) (.cells #[.string ⟨#[59]⟩] 9)))
                  have HT8 := Lib.hid (HT.out.kept Hp.out HS8.out.grown)
                  cases h3 : tokAt semiP ts (k + 3 + 2) with
                  | none =>
                    have HRe := Lib.hid (HR.out.symm.trans (tail_no3 h1 h2 h3))
                    with_reducible refine (skip_no p v _ ts (k + 3 + 2) 3 [[59]] _ HS8.out.at_ HT8.out hw8.out (by decide) (isB_no h3 (fun t _ => semi_is t))).mono ?_
                    rintro e w4 ⟨rfl, hb4⟩
                    exact ⟨rfl, (by rw [HRe.out]; exact ⟨k + 3 + 2, by omega, rfl, rfl, HS8.out.grown.trans (grownBy_below hb4 _)⟩ : LineEnd ts p v k0 w r _ _)⟩
                  | some u =>
                    obtain rfl : u = () := rfl
                    obtain ⟨hk3, _⟩ := tokAt_lt h3
                    have HRe := Lib.hid (HR.out.symm.trans (tail_yes h1 h2 h3))
                    with_reducible refine (skip_yes p v _ ts (k + 3 + 2) 3 [[59]] _ HS8.out.at_ HT8.out hw8.out (by decide) (isB_yes h3 (fun t _ => semi_is t)) hk3).mono ?_
                    rintro e w4 ⟨rfl, hp4, hg4⟩
                    have HS9 := Lib.hid (HS8.out.next hpX hp4 hg4)
                    clear hp4 hg4 HS8 HT8 hw8 HS7 x0 x1 y0 y1 hXl
                    obtain ⟨x0, x1, y0, y1, hXl⟩ := HS9.out.cells
                    go_wp2
                    have HS10 := Lib.hid ((HS9.out.append hpX hwX HS9.out.own (grown_refl w4)).setn hpX hwX z)
                    clear HS9 x0 x1 y0 y1 hXl
                    obtain ⟨x0, x1, y0, y1, hXl⟩ := HS10.out.cells
                    generalize ((w4.setCell ⟨X, 0, none⟩ (.slice va6 (acc.length + 1) vc6)).setCell ⟨X, 1, none⟩ (.int .i64 z)) = w5 at HS10 x0 x1 y0 y1 hXl ⊢
                    refine bodyPost_ret (v := .agg #[(.slice va6 (acc.length + 1) vc6), .int .i64 z]) ?_ rfl ?_
                    · simp [results, Tryz.results16, go_sem, x0, x1]
                    · rw [HRe.out]
                      exact ⟨k + 3 + 3, (.slice va6 (acc.length + 1) vc6), by omega, by omega, rfl, rfl, HS10.out.own.mono (by omega), HS10.out.at_, HS10.out.grown⟩
            · have hq : ((acc.length : Int) + 1 == 4) = false := by simp; omega
              go_wp2_with (at_builtin; (refine append_cond (X + 1) rfl _ _ rfl (.slice va vn vc) acc rfl HS5.out.own ⟨x, y, z⟩ w3.heap.size rfl (by simp [go_sem]) (by simp [go_sem]) (by simp [go_sem]) HA.out HZ.out ?_); intro v6 w6 hown6 hg6; have HO6 := Lib.hid hown6; have HX6 := HS5.out.app_cells hg6; have HS7 := Lib.hid (HS5.out.append hpX hwX hown6 hg6); obtain ⟨va6, vc6, rfl⟩ := HO6.out.form; rw [List.length_append, List.length_singleton] at HS7; obtain ⟨x6, y6⟩ := HX6; clear hown6 hg6 HO6)
              have hsz7 : w6.heap.size = (w6.setCell ⟨X, 0, none⟩ (.slice va6 (acc.length + 1) vc6)).heap.size := by simp
              generalize (w6.setCell ⟨X, 0, none⟩ (.slice va6 (acc.length + 1) vc6)) = w7 at HS7 hsz7 ⊢
              have HW8 : Hid (WordsAt (w7.alloc (.cells #[.string ⟨#[97, 110, 100]⟩] 9)) (.slice (some ⟨w6.heap.size, 0, none⟩) 1 1) [wAnd]) := Lib.hid (wordsAt_in w7 [wAnd] 9 _ rfl _ hsz7)
              have HS8 := Lib.hid (HS7.out.below hpX ((Below.refl _ _).alloc (Nat.le_refl _) (.cells #[.string ⟨#[97, 110, 100]⟩] 9)))
              have HT8 := Lib.hid (HT.out.kept Hp.out HS8.out.grown)
              clear hsz7 x6 y6 HS7 HS4 HS5 HZ HA HS3 HB3 z0 z1 z2 q2 x0 x1 y0 y1 hXl
              with_reducible refine (is_any p v _ ts (k + 3) 1 [wAnd] _ HS8.out.at_ HT8.out HW8.out (by decide)).mono ?_
              rintro e w9 ⟨rfl, hb9⟩
              have HS := Lib.hid (HS8.out.below hpX hb9)
              clear hb9 HS8 HT8 HW8
              have HC := Lib.hid ((conds_one (acc := acc) (n := n + 1) hv hv2 hv3).symm.trans HR.out)
              cases hand : isB ts (k + 3) 1 [wAnd]
              · rw [hand] at HC
                have HR := Lib.hid ((if_neg (by simp)).symm.trans HC.out : lineTail (acc ++ [⟨x, y, z⟩]) (ts.drop (k + 3)) = r)
                clear HC hand
                have HX := Lib.hid HS.out.cells
                have hb5 : Below w9.heap.size w9 (w9.alloc (.cells #[.string ⟨#[115, 101, 116]⟩] 9)) := (Below.refl _ _).alloc (Nat.le_refl _) _
                have HS5 := Lib.hid (HS.out.below hpX hb5)
                have HT5 := Lib.hid (HT.out.kept Hp.out HS5.out.grown)
                have HW5 : Hid (WordsAt (w9.alloc (.cells #[.string ⟨#[115, 101, 116]⟩] 9)) (.slice (some ⟨w9.heap.size, 0, none⟩) 1 1) [wSet]) := Lib.hid (wordsAt_in w9 [wSet] 9 _ rfl _ rfl)
                clear hb5 HX
                cases h1 : tokAt setP ts (k + 3) with
                | none =>
                  have HRe := Lib.hid (HR.out.symm.trans (tail_no1 h1))
                  go_wp2_with fail
                  with_reducible refine (skip_no p v _ ts (k + 3) 1 [wSet] _ HS5.out.at_ HT5.out HW5.out (by decide) (isB_no h1 (fun t _ => set_is t))).mono ?_
                  rintro e w2 ⟨rfl, hb2⟩
                  exact ⟨rfl, (by rw [HRe.out]; exact ⟨k + 3, by omega, rfl, rfl, HS5.out.grown.trans (grownBy_below hb2 _)⟩ : LineEnd ts p v k0 w r _ _)⟩
                | some u =>
                  obtain rfl : u = () := rfl
                  obtain ⟨hk1, _⟩ := tokAt_lt h1
                  go_wp2_with fail
                  with_reducible refine (skip_yes p v _ ts (k + 3) 1 [wSet] _ HS5.out.at_ HT5.out HW5.out (by decide) (isB_yes h1 (fun t _ => set_is t)) hk1).mono ?_
                  rintro e w2 ⟨rfl, hp2, hg2⟩
                  have HS6 := Lib.hid (HS5.out.next hpX hp2 hg2)
                  have HT6 := Lib.hid (HT.out.kept Hp.out HS6.out.grown)
                  clear hp2 hg2 HS5 HT5 HW5
                  obtain ⟨x0, x1, y0, y1, hXl⟩ := HS6.out.cells
                  cases h2 : tokAt numP ts (k + 3 + 1) with
                  | none =>
                    have HRe := Lib.hid (HR.out.symm.trans (tail_no2 h1 h2))
                    go_wp2_with fail
                    with_reducible refine (number_no p v ts (k + 3 + 1) _ HS6.out.at_ HT6.out (isB_no h2 (num_is hb))).mono ?_
                    rintro e w3 ⟨rfl, hb3⟩
                    exact ⟨rfl, (by rw [HRe.out]; exact ⟨k + 3 + 1, by omega, rfl, rfl, HS6.out.grown.trans (grownBy_below hb3 _)⟩ : LineEnd ts p v k0 w r _ _)⟩
                  | some z =>
                    obtain ⟨hk2, hz2⟩ := tokAt_lt h2
                    go_wp2_with fail
                    with_reducible refine (number_yes p v ts (k + 3 + 1) _ HS6.out.at_ HT6.out (isB_yes h2 (num_is hb)) hk2).mono ?_
                    rintro e w3 ⟨rfl, hp3, hg3⟩
                    rw [← num_val hz2]
                    have HS7 := Lib.hid (HS6.out.next hpX hp3 hg3)
                    clear hp3 hg3 HS6 HT6 x0 x1 y0 y1 hXl hz2
                    obtain ⟨x0, x1, y0, y1, hXl⟩ := HS7.out.cells
                    go_wp2_with fail
                    have hw8 : Hid (WordsAt ((w3.setCell ⟨X, 1, none⟩ (.int .i64 z)).alloc (.cells #[.string ⟨#[59]⟩] 9)) (.slice (some ⟨w3.heap.size, 0, none⟩) 1 1) [[59]]) := Lib.hid (wordsAt_in (w3.setCell ⟨X, 1, none⟩ (.int .i64 z)) [[59]] 9 _ rfl _ (by simp))
                    have HS8 := Lib.hid ((HS7.out.setn hpX hwX z).below hpX ((Below.refl _ _).alloc (Nat.le_refl _) (.cells #[.string ⟨#[59]⟩] 9)))
                    have HT8 := Lib.hid (HT.out.kept Hp.out HS8.out.grown)
                    cases h3 : tokAt semiP ts (k + 3 + 2) with
                    | none =>
                      have HRe := Lib.hid (HR.out.symm.trans (tail_no3 h1 h2 h3))
                      with_reducible refine (skip_no p v _ ts (k + 3 + 2) 3 [[59]] _ HS8.out.at_ HT8.out hw8.out (by decide) (isB_no h3 (fun t _ => semi_is t))).mono ?_
                      rintro e w4 ⟨rfl, hb4⟩
                      exact ⟨rfl, (by rw [HRe.out]; exact ⟨k + 3 + 2, by omega, rfl, rfl, HS8.out.grown.trans (grownBy_below hb4 _)⟩ : LineEnd ts p v k0 w r _ _)⟩
                    | some u =>
                      obtain rfl : u = () := rfl
                      obtain ⟨hk3, _⟩ := tokAt_lt h3
                      have HRe := Lib.hid (HR.out.symm.trans (tail_yes h1 h2 h3))
                      with_reducible refine (skip_yes p v _ ts (k + 3 + 2) 3 [[59]] _ HS8.out.at_ HT8.out hw8.out (by decide) (isB_yes h3 (fun t _ => semi_is t)) hk3).mono ?_
                      rintro e w4 ⟨rfl, hp4, hg4⟩
                      have HS9 := Lib.hid (HS8.out.next hpX hp4 hg4)
                      clear hp4 hg4 HS8 HT8 hw8 HS7 x0 x1 y0 y1 hXl
                      obtain ⟨x0, x1, y0, y1, hXl⟩ := HS9.out.cells
                      go_wp2
                      have HS10 := Lib.hid ((HS9.out.append hpX hwX HS9.out.own (grown_refl w4)).setn hpX hwX z)
                      clear HS9 x0 x1 y0 y1 hXl
                      obtain ⟨x0, x1, y0, y1, hXl⟩ := HS10.out.cells
                      generalize ((w4.setCell ⟨X, 0, none⟩ (.slice va6 (acc.length + 1) vc6)).setCell ⟨X, 1, none⟩ (.int .i64 z)) = w5 at HS10 x0 x1 y0 y1 hXl ⊢
                      refine bodyPost_ret (v := .agg #[(.slice va6 (acc.length + 1) vc6), .int .i64 z]) ?_ rfl ?_
                      · simp [results, Tryz.results16, go_sem, x0, x1]
                      · rw [HRe.out]
                        exact ⟨k + 3 + 3, (.slice va6 (acc.length + 1) vc6), by omega, by omega, rfl, rfl, HS10.out.own.mono (by omega), HS10.out.at_, HS10.out.grown⟩
              · rw [hand] at HC
                have HR := Lib.hid ((if_pos ⟨by omega, rfl⟩).symm.trans HC.out : condsThen (n + 1) (acc ++ [⟨x, y, z⟩]) (ts.drop (k + 4)) = r)
                obtain ⟨p0, p1, pf, pl⟩ := HS.out.at_.cells
                have hk4 := isB_lt hand
                have hwr : wrap64 ((k : Int) + 3 + 1) = (k : Int) + 4 := by have := HT.out.1; exact (IntWalk.wrap64_in _ (by omega)).trans (by omega)
                have H4l := Lib.hid (show (acc ++ [(⟨x, y, z⟩ : Cd)]).length < 4 by simp; omega)
                have HL4 := Lib.hid (show 4 - (acc ++ [(⟨x, y, z⟩ : Cd)]).length = n + 1 by simp; omega)
                have HS10 := Lib.hid (HS.out.next hpX (HS.out.at_.next ((k : Int) + 4) (k + 4) (by omega)) (grownBy_next (Below.refl _ _) _))
                have Hsp := Lib.hid (spotOf_is HS10.out.at_)
                clear HC hand hmp hq hXb hXw hbs hnb h4 hn
                go_wp2
                exact ⟨⟨k + 4, _, va6, acc.length + 1, vc6, HS10, by omega, by omega, H4l.out, by rw [HL4.out]; exact HR⟩, by rw [Hsp.out, Hspot.out]; omega⟩

end Go.Proofs.YtlaifodlnolndaaGreatDoor

/- Texts Xc in one: each says what it proves. -/
import Derived.Test.YtlaifodlnolndaaGreatDoorNa
import Derived.Test.YtlaifodlnolndaaGreatDoorMn
/- The document's reader of gate programs: a line. -/
namespace Go.Proofs.YtlaifodlnolndaaGreatDoor
open Go.RowKit

section
variable {ts : List Tok} {k n : Nat} {acc : List Cd}
theorem conds_err {l q : List Tok} (h : pCond l = .error q) : condsThen (n + 1) acc l = .error q := by
  rw [condsThen, pConds, h]; rfl
theorem head_and (ts : List Tok) (k : Nat) : headIs andB (ts.drop k) = wordB ts k wAnd := by
  unfold wordB
  rcases Nat.lt_or_ge k ts.length with hk | hk
  · rw [List.getElem?_eq_getElem hk, List.drop_eq_getElem_cons hk]; rfl
  · rw [List.getElem?_eq_none hk, List.drop_eq_nil_of_le hk]; rfl
theorem conds_ok {l : List Tok} {c : Cd} (h : pCond l = .ok (c, ts.drop k)) : condsThen (n + 1) acc l =
    if n ≠ 0 ∧ wordB ts k wAnd = true then condsThen n (acc ++ [c]) (ts.drop (k + 1)) else lineTail (acc ++ [c]) (ts.drop k) := by
  rw [condsThen, pConds, h]
  simp only [andThen, head_and]
  by_cases hc : n ≠ 0 ∧ wordB ts k wAnd = true
  · rw [if_pos hc, if_pos hc, List.tail_drop]
    unfold condsThen
    cases pConds n (ts.drop (k + 1)) with
    | error e => rfl
    | ok q => simp only [andThen, List.append_assoc]; rfl
  · rw [if_neg hc, if_neg hc]
theorem semi_end (h : ¬ k < ts.length) : tokAt semiP ts k = none := by
  unfold tokAt; rw [List.getElem?_eq_none (by omega)]; rfl
theorem semi_at (h : k < ts.length) : tokAt semiP ts k = if ts[k].kind == 3 && ts[k].text.data.toList == [59] then some () else none := by
  unfold tokAt semiP; rw [List.getElem?_eq_getElem h]; rfl
theorem set_none (h : wordB ts k wSet = false) : tokAt setP ts k = none := by
  unfold wordB at h; unfold tokAt setP
  rcases Nat.lt_or_ge k ts.length with hk | hk
  · rw [List.getElem?_eq_getElem hk] at h ⊢
    simp only [Option.bind_some]
    rw [if_neg (by simp at h; simp [h])]
  · rw [List.getElem?_eq_none hk]; rfl
theorem set_some (h : wordB ts k wSet = true) : tokAt setP ts k = some () := by
  have hk := wordB_lt h
  unfold wordB at h; unfold tokAt setP
  rw [List.getElem?_eq_getElem hk] at h ⊢
  simp only [Option.bind_some]
  rw [if_pos h]
theorem start_when (h : wordB ts k wAlways = false) (h2 : wordB ts k wWhen = true) : tokAt startP ts k = some true := by
  have hk := wordB_lt h2
  unfold wordB at h h2; unfold tokAt startP
  rw [List.getElem?_eq_getElem hk] at h h2 ⊢
  simp only [Option.bind_some]
  rw [if_neg (by simp at h; simp [h]), if_pos h2]
theorem start_always (h : wordB ts k wAlways = true) : tokAt startP ts k = some false := by
  have hk := wordB_lt h
  unfold wordB at h; unfold tokAt startP
  rw [List.getElem?_eq_getElem hk] at h ⊢
  simp only [Option.bind_some]
  rw [if_pos h]
theorem start_none (h : wordB ts k wAlways = false) (h2 : wordB ts k wWhen = false) : tokAt startP ts k = none := by
  unfold wordB at h h2; unfold tokAt startP
  rcases Nat.lt_or_ge k ts.length with hk | hk
  · rw [List.getElem?_eq_getElem hk] at h h2 ⊢
    simp only [Option.bind_some]
    rw [if_neg (by simp at h; simp [h]), if_neg (by simp at h2; simp [h2])]
  · rw [List.getElem?_eq_none hk]; rfl
end

structure LSt (w : World) (acc : List Cd) (vc : Value) (st : Int) (wr : World) : Prop where
  below : Below w.heap.size w wr
  res : wr.heap[w.heap.size]? = some (.cells #[.slice none 0 0, .int .i64 0] 35 (0, 0))
  lin : wr.heap[w.heap.size + 1]? = some (.cells #[vc, .int .i64 st] 35 (0, 0))
  own : OwnCds (w.heap.size + 2) wr vc acc
section
variable {w wr w2 : World} {acc acc2 : List Cd} {vc vc2 : Value} {st : Int}
theorem LSt.start (w : World) : LSt w [] (.slice none 0 0) 0 ((w.alloc (.cells #[.slice none 0 0, .int .i64 0] 35)).alloc (.cells #[.slice none 0 0, .int .i64 0] 35)) :=
  ⟨((Below.refl _ _).alloc (Nat.le_refl _) _).alloc (by simp) _, heap_old _ _ _ _ (heap_new _ _ _ rfl), heap_new _ _ _ (by simp), World.ownsRow_nil _ _ _ _⟩
theorem LSt.next (h : LSt w acc vc st wr) (hb : Below wr.heap.size wr w2) : LSt w acc vc st w2 :=
  ⟨h.below.trans (hb.mono h.below.size), heap_at h.res hb (Array.getElem?_eq_some_iff.1 h.res).1, heap_at h.lin hb (Array.getElem?_eq_some_iff.1 h.lin).1, h.own.kept (grownBy_below hb none) (fun q e => by cases e)⟩
theorem LSt.cells (h : LSt w acc vc st wr) : wr.cell? ⟨w.heap.size + 1, 0, none⟩ = some vc ∧ wr.cell? ⟨w.heap.size + 1, 1, none⟩ = some (.int .i64 st) ∧ wr.frozen? ⟨w.heap.size + 1, 0, none⟩ = false ∧ wr.frozen? ⟨w.heap.size + 1, 1, none⟩ = false := by
  have := h.lin
  refine ⟨?_, ?_, ?_, ?_⟩ <;> simp [World.cell?, World.frozen?, this]
theorem LSt.rcells (h : LSt w acc vc st wr) : wr.cell? ⟨w.heap.size, 0, none⟩ = some (.slice none 0 0) ∧ wr.cell? ⟨w.heap.size, 1, none⟩ = some (.int .i64 0) ∧ wr.frozen? ⟨w.heap.size, 0, none⟩ = false ∧ wr.frozen? ⟨w.heap.size, 1, none⟩ = false := by
  have := h.res
  refine ⟨?_, ?_, ?_, ?_⟩ <;> simp [World.cell?, World.frozen?, this]
theorem LSt.size (h : LSt w acc vc st wr) : w.heap.size + 2 ≤ wr.heap.size := (Array.getElem?_eq_some_iff.1 h.lin).1
theorem LSt.app_cells (h : LSt w acc vc st wr) (hg : wr.grownBy w2 vc.ownBlock) : w2.cell? ⟨w.heap.size + 1, 0, none⟩ = some vc ∧ w2.frozen? ⟨w.heap.size + 1, 0, none⟩ = false := by
  have hb := (hg.block (w.heap.size + 1) (Array.getElem?_eq_some_iff.1 h.lin).1 (fun e => by have := (World.ownsRow.lt h.own _ e.symm).1; omega)).trans h.lin
  exact ⟨by simp [World.cell?, hb], by simp [World.frozen?, hb]⟩
theorem LSt.append (h : LSt w acc vc st wr) (ho : OwnCds (w.heap.size + 2) w2 vc2 acc2) (hg : wr.grownBy w2 vc.ownBlock) : LSt w acc2 vc2 st (w2.setCell ⟨w.heap.size + 1, 0, none⟩ vc2) := by
  have hr := (hg.block w.heap.size (Array.getElem?_eq_some_iff.1 h.res).1 (fun e => by have := (World.ownsRow.lt h.own _ e.symm).1; omega)).trans h.res
  have hl := (hg.block (w.heap.size + 1) (Array.getElem?_eq_some_iff.1 h.lin).1 (fun e => by have := (World.ownsRow.lt h.own _ e.symm).1; omega)).trans h.lin
  have hb : Below w.heap.size w w2 := h.below.grown hg h.below.size (fun q e => by have := (World.ownsRow.lt h.own _ e).1; omega)
  refine ⟨hb.setCell (p := ⟨w.heap.size + 1, 0, none⟩) (by show w.heap.size ≤ w.heap.size + 1; omega) _, (heap_setCell_other _ ⟨w.heap.size + 1, 0, none⟩ _ _ (by show w.heap.size ≠ w.heap.size + 1; omega)).trans hr, by simp [World.setCell, Array.getElem?_modify, hl], ho.kept (grown_set w2 (w.heap.size + 1) 0 vc2) (fun q e => by simp at e; omega)⟩
theorem LSt.setn (h : LSt w acc vc st wr) (x : Int) : LSt w acc vc x (wr.setCell ⟨w.heap.size + 1, 1, none⟩ (.int .i64 x)) :=
  ⟨h.below.setCell (p := ⟨w.heap.size + 1, 1, none⟩) (by show w.heap.size ≤ w.heap.size + 1; omega) _, (heap_setCell_other _ ⟨w.heap.size + 1, 1, none⟩ _ _ (by show w.heap.size ≠ w.heap.size + 1; omega)).trans h.res, by simp [World.setCell, Array.getElem?_modify, h.lin], h.own.kept (grown_set wr (w.heap.size + 1) 1 _) (fun q e => by simp at e; omega)⟩
/- the world in which the result is read -/
theorem LSt.fin (h : LSt w acc vc st wr) (x y : Value) : Below w.heap.size w ((wr.setCell ⟨w.heap.size, 0, none⟩ x).setCell ⟨w.heap.size, 1, none⟩ y) ∧ OwnCds w.heap.size ((wr.setCell ⟨w.heap.size, 0, none⟩ x).setCell ⟨w.heap.size, 1, none⟩ y) vc acc :=
  ⟨(h.below.setCell (p := ⟨w.heap.size, 0, none⟩) (Nat.le_refl _) _).setCell (p := ⟨w.heap.size, 1, none⟩) (Nat.le_refl _) _,
   ((h.own.kept (grown_set wr w.heap.size 0 x) (fun q e => by simp at e; omega)).kept (grown_set _ w.heap.size 1 y) (fun q e => by simp at e; omega)).mono (by omega)⟩
end

def RLineEnd (ts : List Tok) (k0 : Nat) (w : World) (r : Res Ln) (e : Ending) (w' : World) : Prop :=
  Below w.heap.size w w' ∧ match r with
  | .error q => ∃ (k : Nat) (xa : Option Addr) (xn xc : Nat) (y : Int), k ≤ ts.length ∧ q = ts.drop k ∧ e = .returned (.tuple #[.agg #[.slice xa xn xc, .int .i64 y], .int .i64 k, .bool false])
  | .ok (x, q) => ∃ (k : Nat) (vc : Value), k ≤ ts.length ∧ k0 < k ∧ q = ts.drop k ∧ e = .returned (.tuple #[.agg #[vc, .int .i64 x.set], .int .i64 k, .bool true]) ∧ OwnCds w.heap.size w' vc x.conds
/- what holds at the head of the loop -/
def Inv (ts : List Tok) (r : Res Ln) (k : Nat) (more : Bool) (acc : List Cd) : Prop :=
  if more = true then k + 1 ≤ ts.length ∧ ∃ n, acc.length + n + 1 = 4 ∧ condsThen (n + 1) acc (ts.drop (k + 1)) = r else lineTail acc (ts.drop k) = r
theorem toks_cells {w : World} {a : Option Addr} {cap : Nat} {ts : List Tok} (ht : IsToks w (.slice a ts.length cap) ts) : ∀ j (hj : j < ts.length), ∃ b o, a = some ⟨b, o, none⟩ ∧ b < w.heap.size ∧ ∀ wx, Below w.heap.size w wx → wx.cell? ⟨b, o + j * 4, none⟩ = some (.int .i64 ts[j].kind) ∧ wx.cell? ⟨b, o + j * 4 + 1, none⟩ = some (.string ts[j].text) ∧ wx.cell? ⟨b, o + j * 4 + 2, none⟩ = some (.int .i64 ts[j].n) := fun j hj => by
  obtain ⟨_, _, ⟨rfl, _⟩ | ⟨b, o, c, he, hb, hrow⟩⟩ := ht
  · simp at hj
  obtain ⟨rfl, rfl⟩ : a = some ⟨b, o, none⟩ ∧ cap = c := by simpa using he
  refine ⟨b, o, rfl, hb, fun wx hbx => ?_⟩
  obtain ⟨c0, c1, c2, _⟩ := hrow j hj
  exact ⟨(hbx.cell (p := ⟨b, _, none⟩) hb).trans c0, (hbx.cell (p := ⟨b, _, none⟩) hb).trans c1, (hbx.cell (p := ⟨b, _, none⟩) hb).trans c2⟩

set_option maxRecDepth 100000 in
set_option maxHeartbeats 16000000 in
theorem refline_any (v : Value) (ts : List Tok) (k0 : Nat) (w : World) (ht : IsToks w v ts) (hkl : k0 ≤ ts.length) :
    Calls Tryz.prog 18 #[v, .int .i64 k0] w (RLineEnd ts k0 w (pLine (ts.drop k0))) := by
  obtain ⟨a, cap, rfl⟩ := toks_form ht
  have hlm := ht.1
  generalize hr : pLine (ts.drop k0) = r
  have HR := Lib.hid hr
  have HS0 := Lib.hid (LSt.start w)
  have HKL := Lib.hid hkl
  have HTC : Hid (∀ j (hj : j < ts.length), ∃ b o, a = some ⟨b, o, none⟩ ∧ b < w.heap.size ∧ ∀ wx, Below w.heap.size w wx → wx.cell? ⟨b, o + j * 4, none⟩ = some (.int .i64 ts[j].kind) ∧ wx.cell? ⟨b, o + j * 4 + 1, none⟩ = some (.string ts[j].text) ∧ wx.cell? ⟨b, o + j * 4 + 2, none⟩ = some (.int .i64 ts[j].n)) := Lib.hid (toks_cells ht)
  obtain ⟨n, hn⟩ : ∃ n, n = ts.length := ⟨_, rfl⟩
  have HN := Lib.hid hn
  have HT : Hid (∀ wx, Below w.heap.size w wx → IsToks wx (.slice a n cap) ts) := Lib.hid (fun wx hb => by rw [hn]; exact ht.below hb)
  rw [← hn] at hlm ⊢
  clear hr ht hkl hn
  go_enter Tryz.func18, Tryz.ntmps18
  go_wp2_with fail
  generalize ((w.alloc (.cells #[.slice none 0 0, .int .i64 0] 35)).alloc (.cells #[.slice none 0 0, .int .i64 0] 35)) = w2 at HS0 ⊢
  have HTw := Lib.hid (HT.out _ HS0.out.below)
  with_reducible refine (word_any _ ts k0 _ _ HTw.out).mono ?_
  rintro e w3 ⟨rfl, rfl⟩
  cases h0 : wordB ts k0 wAlways with
  | true =>
    have HI := Lib.hid ((line_plain (start_always h0)).symm.trans HR.out)
    have hkn : k0 < n := by have := wordB_lt h0; have := HN.out; omega
    rw [show wordB ts k0 (ByteArray.mk #[97, 108, 119, 97, 121, 115]).data.toList = true from h0]
    clear h0
    go_wp2_with fail
    obtain ⟨k, hk⟩ : ∃ k : Nat, k = k0 + 1 := ⟨_, rfl⟩
    rw [show (k0 : Int) + 1 = (k : Int) by omega]
    have HK := Lib.hid hk
    rw [← HK.out] at HI
    have hkn2 : k ≤ n := by omega
    have HK0 : Hid (k0 ≤ k) := Lib.hid (by omega)
    clear hk hkn
    have HTa := Lib.hid (HT.out _ HS0.out.below)
    with_reducible refine (word_any _ ts k _ _ HTa.out).mono ?_
    rintro e wt ⟨rfl, rfl⟩
    cases h1 : wordB ts k wSet with
    | false =>
      have HRe := Lib.hid (HI.out.symm.trans (tail_no1 (set_none h1)))
      rw [show wordB ts k (ByteArray.mk #[115, 101, 116]).data.toList = false from h1]
      have HKE : Hid (k ≤ ts.length) := Lib.hid (by have := HN.out; omega)
      obtain ⟨x0, x1, y0, y1⟩ := HS0.out.cells
      obtain ⟨r0, r1, f0, f1⟩ := HS0.out.rcells
      have HF := Lib.hid (HS0.out.fin (.slice none 0 0) (.int .i64 0))
      go_wp2
      refine bodyPost_ret (v := .tuple #[.agg #[(.slice none 0 0), .int .i64 0], .int .i64 k, .bool false]) ?_ rfl ?_
      · simp [results, Tryz.results18, go_sem, r0, r1]
      · rw [HRe.out]; exact ⟨HF.out.1, k, _, _, _, _, HKE.out, rfl, rfl⟩
    | true =>
      have H1 := Lib.hid h1
      have hkl := wordB_lt h1
      rw [show wordB ts k (ByteArray.mk #[115, 101, 116]).data.toList = true from h1]
      clear h1
      have hkn : k < n := by have := HN.out; omega
      go_wp2_with fail
      obtain ⟨k1, hk1⟩ : ∃ k1 : Nat, k1 = k + 1 := ⟨_, rfl⟩
      rw [show (k : Int) + 1 = (k1 : Int) by omega]
      have HK1 := Lib.hid hk1
      have hk1n : k1 ≤ n := by omega
      clear hk1 hkl hkn
      with_reducible refine (refnum_any _ ts k1 _ HTa.out).mono ?_
      rintro e wt2 ⟨rfl, rfl⟩
      cases h2 : tokAt numP ts k1 with
      | none =>
        have HRe := Lib.hid (HI.out.symm.trans (tail_no2 (set_some H1.out) (by rw [← HK1.out]; exact h2)))
        rw [← HK1.out] at HRe
        rw [numB_none h2]
        have HKE : Hid (k1 ≤ ts.length) := Lib.hid (by have := HN.out; omega)
        obtain ⟨x0, x1, y0, y1⟩ := HS0.out.cells
        obtain ⟨r0, r1, f0, f1⟩ := HS0.out.rcells
        have HF := Lib.hid (HS0.out.fin (.slice none 0 0) (.int .i64 0))
        go_wp2
        refine bodyPost_ret (v := .tuple #[.agg #[(.slice none 0 0), .int .i64 0], .int .i64 k1, .bool false]) ?_ rfl ?_
        · simp [results, Tryz.results18, go_sem, r0, r1]
        · rw [HRe.out]; exact ⟨HF.out.1, k1, _, _, _, _, HKE.out, rfl, rfl⟩
      | some z =>
        obtain ⟨hnb, hk3, hz⟩ := numB_some h2
        have H2 := Lib.hid h2
        rw [hnb]
        obtain ⟨b, o, rfl, hbw, htc⟩ := HTC.out k1 hk3
        replace htc := fun wx hbx => (htc wx hbx).2.2
        rw [hz] at htc
        have c2 := htc _ HS0.out.below
        have hki : (k1 : Int) < (n : Int) := by have := HN.out; omega
        have hne1 : ¬ b = w.heap.size + 1 := by omega
        have hne2 : ¬ w.heap.size + 1 = b := by omega
        obtain ⟨x0, x1, y0, y1⟩ := HS0.out.cells
        have HSz := Lib.hid (HS0.out.setn z)
        clear h2 hnb hk3 hz htc hbw
        by_cases hk2 : k1 + 1 < ts.length
        · obtain ⟨b', o', he, _, htc⟩ := HTC.out (k1 + 1) hk2
          obtain ⟨rfl, rfl⟩ : b = b' ∧ o = o' := by simpa using he
          obtain ⟨c3, c4, _⟩ := htc _ HS0.out.below
          have hs := semi_at hk2
          have hk2n : (k1 : Int) + 1 < (n : Int) := by have := HN.out; omega
          have hd2 : decide ((n : Int) ≤ (k1 : Int) + 1) = false := by simp; omega
          have HKE : Hid (k1 + 1 ≤ ts.length) := Lib.hid (by omega)
          have HKF : Hid (k1 + 2 ≤ ts.length) := Lib.hid (by omega)
          generalize ts[k1 + 1].kind = kd at c3 hs
          generalize ts[k1 + 1].text = tx at c4 hs
          clear htc he
          by_cases hkd : kd = 3
          · subst hkd
            by_cases htx : tx.data.toList = [59]
            · obtain rfl := text_is htx
              have HRe := Lib.hid (HI.out.symm.trans (tail_yes (set_some H1.out) (by rw [← HK1.out]; exact H2.out) (by rw [show k + 2 = k1 + 1 by have := HK1.out; omega, hs]; rfl)))
              clear hs htx
              obtain ⟨r0, r1, f0, f1⟩ := HSz.out.rcells
              obtain ⟨z0, z1, _, _⟩ := HSz.out.cells
              have HF := Lib.hid (HSz.out.fin (.slice none 0 0) (.int .i64 z))
              go_wp2
              refine bodyPost_ret (v := .tuple #[.agg #[(.slice none 0 0), .int .i64 z], .int .i64 ((k1 : Int) + 1 + 1), .bool true]) ?_ rfl ?_
              · simp [results, Tryz.results18, go_sem, r0, r1]
              · rw [HRe.out]
                exact ⟨HF.out.1, k1 + 2, _, HKF.out, by have := HK0.out; have := HK1.out; omega, by rw [show k1 + 2 = k + 3 by have := HK1.out; omega], rfl, HF.out.2⟩
            · have HRe := Lib.hid (HI.out.symm.trans (tail_no3 (set_some H1.out) (by rw [← HK1.out]; exact H2.out) (by rw [show k + 2 = k1 + 1 by have := HK1.out; omega, hs]; simp [htx])))
              have htx2 : (tx.toList == [59]) = false := by rw [Lib.toList_data]; simpa using htx
              clear hs htx
              obtain ⟨r0, r1, f0, f1⟩ := HSz.out.rcells
              obtain ⟨z0, z1, _, _⟩ := HSz.out.cells
              have HF := Lib.hid (HSz.out.fin (.slice none 0 0) (.int .i64 z))
              go_wp2
              refine bodyPost_ret (v := .tuple #[.agg #[(.slice none 0 0), .int .i64 z], .int .i64 ((k1 : Int) + 1), .bool false]) ?_ rfl ?_
              · simp [results, Tryz.results18, go_sem, r0, r1]
              · rw [HRe.out]
                exact ⟨HF.out.1, k1 + 1, _, _, _, _, HKE.out, by rw [show k1 + 1 = k + 2 by have := HK1.out; omega], rfl⟩
          · have HRe := Lib.hid (HI.out.symm.trans (tail_no3 (set_some H1.out) (by rw [← HK1.out]; exact H2.out) (by rw [show k + 2 = k1 + 1 by have := HK1.out; omega, hs]; simp [hkd])))
            have hkd2 : (kd == 3) = false := by simpa using hkd
            have hkd3 : (kd != 3) = true := by simp [hkd]
            clear hs hkd
            obtain ⟨r0, r1, f0, f1⟩ := HSz.out.rcells
            obtain ⟨z0, z1, _, _⟩ := HSz.out.cells
            have HF := Lib.hid (HSz.out.fin (.slice none 0 0) (.int .i64 z))
            go_wp2
            refine bodyPost_ret (v := .tuple #[.agg #[(.slice none 0 0), .int .i64 z], .int .i64 ((k1 : Int) + 1), .bool false]) ?_ rfl ?_
            · simp [results, Tryz.results18, go_sem, r0, r1]
            · rw [HRe.out]
              exact ⟨HF.out.1, k1 + 1, _, _, _, _, HKE.out, by rw [show k1 + 1 = k + 2 by have := HK1.out; omega], rfl⟩
        · have HRe := Lib.hid (HI.out.symm.trans (tail_no3 (set_some H1.out) (by rw [← HK1.out]; exact H2.out) (by rw [show k + 2 = k1 + 1 by have := HK1.out; omega]; exact semi_end hk2)))
          have hd2 : decide ((n : Int) ≤ (k1 : Int) + 1) = true := by have := HN.out; simp; omega
          have HKE : Hid (k1 + 1 ≤ ts.length) := Lib.hid (by have := HN.out; omega)
          clear hk2
          obtain ⟨r0, r1, f0, f1⟩ := HSz.out.rcells
          obtain ⟨z0, z1, _, _⟩ := HSz.out.cells
          have HF := Lib.hid (HSz.out.fin (.slice none 0 0) (.int .i64 z))
          go_wp2
          refine bodyPost_ret (v := .tuple #[.agg #[(.slice none 0 0), .int .i64 z], .int .i64 ((k1 : Int) + 1), .bool false]) ?_ rfl ?_
          · simp [results, Tryz.results18, go_sem, r0, r1]
          · rw [HRe.out]
            exact ⟨HF.out.1, k1 + 1, _, _, _, _, HKE.out, by rw [show k1 + 1 = k + 2 by have := HK1.out; omega], rfl⟩
  | false =>
    have H0 := Lib.hid h0
    rw [show wordB ts k0 (ByteArray.mk #[97, 108, 119, 97, 121, 115]).data.toList = false from h0]
    clear h0
    go_wp2_with fail
    with_reducible refine (word_any _ ts k0 _ _ HTw.out).mono ?_
    rintro e w4 ⟨rfl, rfl⟩
    cases h1 : wordB ts k0 wWhen with
    | false =>
      have HRe := Lib.hid (HR.out.symm.trans (line_no (start_none H0.out h1)))
      rw [show wordB ts k0 (ByteArray.mk #[119, 104, 101, 110]).data.toList = false from h1]
      have HKE := HKL
      obtain ⟨x0, x1, y0, y1⟩ := HS0.out.cells
      obtain ⟨r0, r1, f0, f1⟩ := HS0.out.rcells
      have HF := Lib.hid (HS0.out.fin (.slice none 0 0) (.int .i64 0))
      go_wp2
      refine bodyPost_ret (v := .tuple #[.agg #[(.slice none 0 0), .int .i64 0], .int .i64 k0, .bool false]) ?_ rfl ?_
      · simp [results, Tryz.results18, go_sem, r0, r1]
      · rw [HRe.out]; exact ⟨HF.out.1, k0, _, _, _, _, HKE.out, rfl, rfl⟩
    | true =>
      have HC := Lib.hid ((line_conds (start_when H0.out h1)).symm.trans HR.out)
      have hkn : k0 + 1 ≤ ts.length := wordB_lt h1
      have HKN := Lib.hid hkn
      have HI0 : Hid (Inv ts r k0 true []) := Lib.hid ⟨hkn, 3, rfl, HC.out⟩
      rw [show wordB ts k0 (ByteArray.mk #[119, 104, 101, 110]).data.toList = true from h1]
      clear h1 hkn
      go_wp2_with fail
      go_loopw [1, 8] (fun kv mv wr => ∃ (k : Nat) (more : Bool) (acc : List Cd) (va : Option Addr) (vc : Nat), kv = .int .i64 k ∧ mv = .bool more ∧ k ≤ n ∧ acc.length ≤ 4 ∧ Hid (k0 ≤ k) ∧ Hid (LSt w acc (.slice va acc.length vc) 0 wr) ∧ Hid (Inv ts r k more acc)) (fun kv _ _ => n - (intOf kv).toNat)
      case atStart => exact ⟨k0, true, [], none, 0, rfl, rfl, by have := HKL.out; have := HN.out; omega, by decide, Lib.hid (Nat.le_refl _), HS0, HI0⟩
      case round =>
        clear HI0 HC H0 HTw HS0
        obtain ⟨k, more, acc, va, vc, rfl, rfl, hkn, h4, HK0, HS, HV⟩ := hrel
        cases more with
        | false =>
          have HI : Hid (lineTail acc (ts.drop k) = r) := Lib.hid (by have := HV.out; unfold Inv at this; simpa using this)
          go_wp2_with fail
          have HTa := Lib.hid (HT.out _ HS.out.below)
          with_reducible refine (word_any _ ts k _ _ HTa.out).mono ?_
          rintro e wt ⟨rfl, rfl⟩
          cases h1 : wordB ts k wSet with
          | false =>
            have HRe := Lib.hid (HI.out.symm.trans (tail_no1 (set_none h1)))
            rw [show wordB ts k (ByteArray.mk #[115, 101, 116]).data.toList = false from h1]
            have HKE : Hid (k ≤ ts.length) := Lib.hid (by have := HN.out; omega)
            obtain ⟨x0, x1, y0, y1⟩ := HS.out.cells
            obtain ⟨r0, r1, f0, f1⟩ := HS.out.rcells
            have HF := Lib.hid (HS.out.fin (.slice va acc.length vc) (.int .i64 0))
            go_wp2
            refine bodyPost_ret (v := .tuple #[.agg #[(.slice va acc.length vc), .int .i64 0], .int .i64 k, .bool false]) ?_ rfl ?_
            · simp [results, Tryz.results18, go_sem, r0, r1]
            · rw [HRe.out]; exact ⟨HF.out.1, k, _, _, _, _, HKE.out, rfl, rfl⟩
          | true =>
            have H1 := Lib.hid h1
            have hkl := wordB_lt h1
            rw [show wordB ts k (ByteArray.mk #[115, 101, 116]).data.toList = true from h1]
            clear h1
            have hkn : k < n := by have := HN.out; omega
            go_wp2_with fail
            obtain ⟨k1, hk1⟩ : ∃ k1 : Nat, k1 = k + 1 := ⟨_, rfl⟩
            rw [show (k : Int) + 1 = (k1 : Int) by omega]
            have HK1 := Lib.hid hk1
            have hk1n : k1 ≤ n := by omega
            clear hk1 hkl hkn
            with_reducible refine (refnum_any _ ts k1 _ HTa.out).mono ?_
            rintro e wt2 ⟨rfl, rfl⟩
            cases h2 : tokAt numP ts k1 with
            | none =>
              have HRe := Lib.hid (HI.out.symm.trans (tail_no2 (set_some H1.out) (by rw [← HK1.out]; exact h2)))
              rw [← HK1.out] at HRe
              rw [numB_none h2]
              have HKE : Hid (k1 ≤ ts.length) := Lib.hid (by have := HN.out; omega)
              obtain ⟨x0, x1, y0, y1⟩ := HS.out.cells
              obtain ⟨r0, r1, f0, f1⟩ := HS.out.rcells
              have HF := Lib.hid (HS.out.fin (.slice va acc.length vc) (.int .i64 0))
              go_wp2
              refine bodyPost_ret (v := .tuple #[.agg #[(.slice va acc.length vc), .int .i64 0], .int .i64 k1, .bool false]) ?_ rfl ?_
              · simp [results, Tryz.results18, go_sem, r0, r1]
              · rw [HRe.out]; exact ⟨HF.out.1, k1, _, _, _, _, HKE.out, rfl, rfl⟩
            | some z =>
              obtain ⟨hnb, hk3, hz⟩ := numB_some h2
              have H2 := Lib.hid h2
              rw [hnb]
              obtain ⟨b, o, rfl, hbw, htc⟩ := HTC.out k1 hk3
              replace htc := fun wx hbx => (htc wx hbx).2.2
              rw [hz] at htc
              have c2 := htc _ HS.out.below
              have hki : (k1 : Int) < (n : Int) := by have := HN.out; omega
              have hne1 : ¬ b = w.heap.size + 1 := by omega
              have hne2 : ¬ w.heap.size + 1 = b := by omega
              obtain ⟨x0, x1, y0, y1⟩ := HS.out.cells
              have HSz := Lib.hid (HS.out.setn z)
              clear h2 hnb hk3 hz htc hbw
              by_cases hk2 : k1 + 1 < ts.length
              · obtain ⟨b', o', he, _, htc⟩ := HTC.out (k1 + 1) hk2
                obtain ⟨rfl, rfl⟩ : b = b' ∧ o = o' := by simpa using he
                obtain ⟨c3, c4, _⟩ := htc _ HS.out.below
                have hs := semi_at hk2
                have hk2n : (k1 : Int) + 1 < (n : Int) := by have := HN.out; omega
                have hd2 : decide ((n : Int) ≤ (k1 : Int) + 1) = false := by simp; omega
                have HKE : Hid (k1 + 1 ≤ ts.length) := Lib.hid (by omega)
                have HKF : Hid (k1 + 2 ≤ ts.length) := Lib.hid (by omega)
                generalize ts[k1 + 1].kind = kd at c3 hs
                generalize ts[k1 + 1].text = tx at c4 hs
                clear htc he
                by_cases hkd : kd = 3
                · subst hkd
                  by_cases htx : tx.data.toList = [59]
                  · obtain rfl := text_is htx
                    have HRe := Lib.hid (HI.out.symm.trans (tail_yes (set_some H1.out) (by rw [← HK1.out]; exact H2.out) (by rw [show k + 2 = k1 + 1 by have := HK1.out; omega, hs]; rfl)))
                    clear hs htx
                    obtain ⟨r0, r1, f0, f1⟩ := HSz.out.rcells
                    obtain ⟨z0, z1, _, _⟩ := HSz.out.cells
                    have HF := Lib.hid (HSz.out.fin (.slice va acc.length vc) (.int .i64 z))
                    go_wp2
                    refine bodyPost_ret (v := .tuple #[.agg #[(.slice va acc.length vc), .int .i64 z], .int .i64 ((k1 : Int) + 1 + 1), .bool true]) ?_ rfl ?_
                    · simp [results, Tryz.results18, go_sem, r0, r1]
                    · rw [HRe.out]
                      exact ⟨HF.out.1, k1 + 2, _, HKF.out, by have := HK0.out; have := HK1.out; omega, by rw [show k1 + 2 = k + 3 by have := HK1.out; omega], rfl, HF.out.2⟩
                  · have HRe := Lib.hid (HI.out.symm.trans (tail_no3 (set_some H1.out) (by rw [← HK1.out]; exact H2.out) (by rw [show k + 2 = k1 + 1 by have := HK1.out; omega, hs]; simp [htx])))
                    have htx2 : (tx.toList == [59]) = false := by rw [Lib.toList_data]; simpa using htx
                    clear hs htx
                    obtain ⟨r0, r1, f0, f1⟩ := HSz.out.rcells
                    obtain ⟨z0, z1, _, _⟩ := HSz.out.cells
                    have HF := Lib.hid (HSz.out.fin (.slice va acc.length vc) (.int .i64 z))
                    go_wp2
                    refine bodyPost_ret (v := .tuple #[.agg #[(.slice va acc.length vc), .int .i64 z], .int .i64 ((k1 : Int) + 1), .bool false]) ?_ rfl ?_
                    · simp [results, Tryz.results18, go_sem, r0, r1]
                    · rw [HRe.out]
                      exact ⟨HF.out.1, k1 + 1, _, _, _, _, HKE.out, by rw [show k1 + 1 = k + 2 by have := HK1.out; omega], rfl⟩
                · have HRe := Lib.hid (HI.out.symm.trans (tail_no3 (set_some H1.out) (by rw [← HK1.out]; exact H2.out) (by rw [show k + 2 = k1 + 1 by have := HK1.out; omega, hs]; simp [hkd])))
                  have hkd2 : (kd == 3) = false := by simpa using hkd
                  have hkd3 : (kd != 3) = true := by simp [hkd]
                  clear hs hkd
                  obtain ⟨r0, r1, f0, f1⟩ := HSz.out.rcells
                  obtain ⟨z0, z1, _, _⟩ := HSz.out.cells
                  have HF := Lib.hid (HSz.out.fin (.slice va acc.length vc) (.int .i64 z))
                  go_wp2
                  refine bodyPost_ret (v := .tuple #[.agg #[(.slice va acc.length vc), .int .i64 z], .int .i64 ((k1 : Int) + 1), .bool false]) ?_ rfl ?_
                  · simp [results, Tryz.results18, go_sem, r0, r1]
                  · rw [HRe.out]
                    exact ⟨HF.out.1, k1 + 1, _, _, _, _, HKE.out, by rw [show k1 + 1 = k + 2 by have := HK1.out; omega], rfl⟩
              · have HRe := Lib.hid (HI.out.symm.trans (tail_no3 (set_some H1.out) (by rw [← HK1.out]; exact H2.out) (by rw [show k + 2 = k1 + 1 by have := HK1.out; omega]; exact semi_end hk2)))
                have hd2 : decide ((n : Int) ≤ (k1 : Int) + 1) = true := by have := HN.out; simp; omega
                have HKE : Hid (k1 + 1 ≤ ts.length) := Lib.hid (by have := HN.out; omega)
                clear hk2
                obtain ⟨r0, r1, f0, f1⟩ := HSz.out.rcells
                obtain ⟨z0, z1, _, _⟩ := HSz.out.cells
                have HF := Lib.hid (HSz.out.fin (.slice va acc.length vc) (.int .i64 z))
                go_wp2
                refine bodyPost_ret (v := .tuple #[.agg #[(.slice va acc.length vc), .int .i64 z], .int .i64 ((k1 : Int) + 1), .bool false]) ?_ rfl ?_
                · simp [results, Tryz.results18, go_sem, r0, r1]
                · rw [HRe.out]
                  exact ⟨HF.out.1, k1 + 1, _, _, _, _, HKE.out, by rw [show k1 + 1 = k + 2 by have := HK1.out; omega], rfl⟩
        | true =>
          obtain ⟨hk1, m, hm, hc⟩ : k + 1 ≤ ts.length ∧ ∃ n, acc.length + n + 1 = 4 ∧ condsThen (n + 1) acc (ts.drop (k + 1)) = r := HV.out
          have HM := Lib.hid hm
          have HC := Lib.hid hc
          have hkn2 : k + 1 ≤ n := by have := HN.out; omega
          clear hc hm
          go_wp2_with fail
          obtain ⟨k1, hk1e⟩ : ∃ k1 : Nat, k1 = k + 1 := ⟨_, rfl⟩
          rw [show (k : Int) + 1 = (k1 : Int) by omega]
          rw [← hk1e] at hk1 HC
          have HK1 := Lib.hid hk1e
          clear hk1e
          have HTr := Lib.hid (HT.out _ HS.out.below)
          with_reducible refine (cond_any _ ts k1 _ HTr.out hk1).mono ?_
          intro e w4 hend
          obtain ⟨hb4, hmt⟩ := hend
          cases hp : pCond (ts.drop k1) with
          | error q =>
            rw [hp] at hmt
            obtain ⟨k', x, y, z, hk', rfl, rfl⟩ := hmt
            have HRe := Lib.hid (HC.out.symm.trans (conds_err hp))
            have HKE := Lib.hid hk'
            have HS4 := Lib.hid ((HS.out.next hb4).next ((Below.refl _ _).alloc (Nat.le_refl _) (.cells #[.int .i64 x, .int .i64 y, .int .i64 z] 32)))
            clear hp hk' hb4
            dsimp only
            obtain ⟨x0, x1, y0, y1⟩ := HS4.out.cells
            obtain ⟨r0, r1, f0, f1⟩ := HS4.out.rcells
            have HF := Lib.hid (HS4.out.fin (.slice va acc.length vc) (.int .i64 0))
            go_wp2
            refine bodyPost_ret (v := .tuple #[.agg #[(.slice va acc.length vc), .int .i64 0], .int .i64 k', .bool false]) ?_ rfl ?_
            · simp [results, Tryz.results18, go_sem, r0, r1]
            · rw [HRe.out]; exact ⟨HF.out.1, k', _, _, _, _, HKE.out, rfl, rfl⟩
          | ok cq =>
            obtain ⟨c, q⟩ := cq
            rw [hp] at hmt
            obtain ⟨k', hlt', hk', rfl, rfl⟩ := hmt
            have HRc := Lib.hid ((conds_ok (n := m) (acc := acc) hp).symm.trans HC.out)
            have HS4 := Lib.hid ((HS.out.next hb4).next ((Below.refl _ _).alloc (Nat.le_refl _) (.cells #[.int .i64 c.v, .int .i64 c.op, .int .i64 c.n] 32)))
            have HS5 := Lib.hid (HS4.out.next ((Below.refl _ _).alloc (Nat.le_refl _) (.cells #[.int .i64 c.v, .int .i64 c.op, .int .i64 c.n] 32)))
            have HKE := Lib.hid hk'
            have HLt := Lib.hid hlt'
            have hA : Hid (acc.length ≤ 1000000) := Lib.hid (by omega)
            have hZ : Hid (w.heap.size + 2 ≤ ((w4.alloc (.cells #[.int .i64 c.v, .int .i64 c.op, .int .i64 c.n] 32)).alloc (.cells #[.int .i64 c.v, .int .i64 c.op, .int .i64 c.n] 32)).heap.size) := Lib.hid HS5.out.size
            clear hp hk' hb4 hlt'
            obtain ⟨x0, x1, y0, y1⟩ := HS4.out.cells
            dsimp only
            go_wp2_with (at_builtin; (refine append_cond (w.heap.size + 2) rfl _ _ rfl (.slice va acc.length vc) acc rfl HS5.out.own c (w4.heap.size + 1) rfl (by simp [go_sem]) (by simp [go_sem]) (by simp [go_sem]) hA.out hZ.out ?_); intro v6 w6 hown6 hg6; obtain ⟨x6, y6⟩ := HS5.out.app_cells hg6; have HS7 := Lib.hid (HS5.out.append hown6 hg6); obtain ⟨va6, vc6, rfl⟩ := OwnCds.form hown6; rw [List.length_append, List.length_singleton] at HS7; clear hown6 hg6; rw [List.length_append, List.length_singleton])
            generalize (w6.setCell ⟨w.heap.size + 1, 0, none⟩ (.slice va6 (acc.length + 1) vc6)) = w7 at HS7 ⊢
            clear x6 y6 x0 x1 y0 y1 HS4 HS5 hZ hA
            have HT7 := Lib.hid (HT.out _ HS7.out.below)
            with_reducible refine (word_any _ ts k' _ _ HT7.out).mono ?_
            rintro e w8 ⟨rfl, rfl⟩
            obtain ⟨x0, x1, y0, y1⟩ := HS7.out.cells
            have hkn' : k' ≤ n := by have := HKE.out; have := HN.out; omega
            have HK0' : Hid (k0 ≤ k') := Lib.hid (by have := HK0.out; have := HK1.out; have := HLt.out; omega)
            have HS8 : Hid (LSt w (acc ++ [c]) (.slice va6 (acc ++ [c]).length vc6) 0 w8) := Lib.hid (by rw [List.length_append, List.length_singleton]; exact HS7.out)
            cases hw : wordB ts k' wAnd with
            | false =>
              have HV' : Hid (Inv ts r k' false (acc ++ [c])) := Lib.hid (by have := HRc.out; rw [if_neg (by simp [hw])] at this; exact this)
              rw [show wordB ts k' (ByteArray.mk #[97, 110, 100]).data.toList = false from hw]
              clear hw
              go_wp2
              exact ⟨⟨k', false, acc ++ [c], va6, vc6, rfl, rfl, hkn', by simp; have := HM.out; omega, HK0', HS8, HV'⟩, by simp [intOf]; have := HLt.out; have := HK1.out; omega⟩
            | true =>
              rw [show wordB ts k' (ByteArray.mk #[97, 110, 100]).data.toList = true from hw]
              by_cases hm0 : m = 0
              · have hd : decide ((acc.length : Int) + 1 < 4) = false := by have := HM.out; simp; omega
                have HV' : Hid (Inv ts r k' false (acc ++ [c])) := Lib.hid (by have := HRc.out; rw [if_neg (by simp [hm0])] at this; exact this)
                clear hw hm0
                go_wp2
                exact ⟨⟨k', false, acc ++ [c], va6, vc6, rfl, rfl, hkn', by simp; have := HM.out; omega, HK0', HS8, HV'⟩, by simp [intOf]; have := HLt.out; have := HK1.out; omega⟩
              · have hd : decide ((acc.length : Int) + 1 < 4) = true := by have := HM.out; simp; omega
                have HV' : Hid (Inv ts r k' true (acc ++ [c])) := Lib.hid (by
                  have := HRc.out
                  rw [if_pos ⟨hm0, hw⟩] at this
                  obtain ⟨m', rfl⟩ : ∃ m', m = m' + 1 := ⟨m - 1, by omega⟩
                  exact ⟨wordB_lt hw, m', by have := HM.out; simp; omega, this⟩)
                clear hw hm0
                go_wp2
                exact ⟨⟨k', true, acc ++ [c], va6, vc6, rfl, rfl, hkn', by simp; have := HM.out; omega, HK0', HS8, HV'⟩, by simp [intOf]; have := HLt.out; have := HK1.out; omega⟩

end Go.Proofs.YtlaifodlnolndaaGreatDoor

/- PROVED HERE: the tied card of 'acequia/acequialaw31.GatecodeBlank': for every input, in every start that meets the row's condition on the listed package variables, the law returns true and each argument reads as it did. Its conditions are the given statement's own (Rows.GatecodeBlankCardSaid), none more. -/
import Derived.Test.YtlaifodlnolndaaDoorMp
import Derived.Test.YtlaifodlnolndaaDoorMq
import Derived.Test.YtlaifodlnolndaaDoorMd
import Derived.Test.YtlaifodlnolndaaDoorCards
import Derived.SevenTiedAt
import Derived.Carry
/- PROVED HERE: a slice of bytes that comes in as an argument is a list of bytes. No condition beyond the row's. -/
namespace Go.Proofs.YtlaifodlnolndaaDoor
open Go.ChangeShapes Go.WideShapes Go.Deep

/- what a slice of bytes reads as -/
def IsBytes (w : World) (v : Value) (bs : List Int) : Prop :=
  bs.length ≤ 9223372036854775807 ∧ (∀ x ∈ bs, 0 ≤ x ∧ x ≤ 255) ∧
  ∃ a cap, v = .slice a bs.length cap ∧ (bs = [] ∨ ∃ b off, a = some ⟨b, off, none⟩ ∧ b < w.heap.size ∧ ∀ i (h : i < bs.length), w.cell? ⟨b, off + i, none⟩ = some (.int .u8 bs[i]))
theorem cells5 : Tryd.prog.cellsOf 5 = 1 := by kernel_rfl
set_option maxRecDepth 100000 in
theorem open_bytes {H : Type} {enc : TypeId × Value → H} {W : World} {base : Nat} {v : Value} {d : DataW H} {ps : List MemPlace} (hval : Value.okWide Tryd.prog W .any base 52 v)
    (h : DataW.Trod enc Tryd.prog W 0 (fun _ => true) true 52 v d ps) : ∃ bs, IsBytes W v bs := by
  obtain ⟨a0, len, cap, rfl⟩ := okWide_slice Tryd.underlying52 hval
  obtain ⟨fuel, hf⟩ := h
  rcases open_slice Tryd.underlying52 hf with ⟨hcs, _⟩ | ⟨a, len', cap', m, n, D, Pl, hcs, _, hl, hm, hz, hx, hi⟩
  · simp only [Value.cells, List.cons.injEq, Value.slice.injEq, and_true] at hcs
    obtain ⟨rfl, rfl, rfl⟩ := hcs
    exact ⟨[], by simp, by simp, none, 0, rfl, .inl rfl⟩
  · simp only [Value.cells, List.cons.injEq, Value.slice.injEq, and_true] at hcs
    obtain ⟨rfl, rfl, rfl⟩ := hcs
    simp only [if_true] at hz
    have key : ∀ i, i < len → ∃ x : Int, W.cell? (a.add i) = some (.int .u8 x) ∧ 0 ≤ x ∧ x ≤ 255 := by
      intro i hil
      obtain ⟨cs, hc, ht⟩ := hi i (by omega)
      rw [cells5] at hc
      obtain ⟨_, hcl, hat⟩ := World.cells?_some hc
      match cs, hcl with
      | [x0], _ =>
      obtain ⟨k0, e0, _, hw⟩ := DataW.trod_int Tryd.underlying5 ht
      obtain rfl : x0 = .int .u8 k0 := (List.cons.inj (show [x0] = [_] from e0)).1
      have c0 := hat 0 (by decide)
      simp only [add_add, List.getElem?_cons_zero, Nat.mul_one, Nat.add_zero] at c0
      have hb : 0 ≤ k0 ∧ k0 ≤ 255 := by
        have hw' := hw
        simp only [Lit.wf, Bool.and_eq_true, decide_eq_true_eq] at hw'
        have e1 : IntKind.u8.min = 0 := by decide
        have e2 : IntKind.u8.max = 255 := by decide
        rw [e1, e2] at hw'
        exact hw'
      exact ⟨k0, c0, hb⟩
    by_cases h0 : len = 0
    · subst h0
      exact ⟨[], by simp, by simp, some a, cap, rfl, .inl rfl⟩
    · obtain ⟨bs, hts, hp⟩ := list_of len key
      have hspot : a.spot = none := by
        obtain ⟨t, hc, _⟩ := key 0 (by omega)
        simpa [Addr.add] using World.cell?_spot hc
      obtain ⟨b, off, spot⟩ := a
      simp only at hspot
      subst hspot
      have hlt : b < W.heap.size := by
        obtain ⟨t, hc, _⟩ := key 0 (by omega)
        exact cell_in hc
      refine ⟨bs, by unfold maxLen at hm; omega, fun x hx => ?_, some ⟨b, off, none⟩, cap, by rw [hts], .inr ⟨b, off, rfl, hlt, fun i hil => ?_⟩⟩
      · obtain ⟨i, hil, rfl⟩ := List.getElem_of_mem hx
        exact (hp i hil).2
      · have hh := (hp i hil).1
        rw [add_plain] at hh
        exact hh

end Go.Proofs.YtlaifodlnolndaaDoor

/- Blank, in plain Lean: tokens with white space and comments ahead of each. -/
namespace Go.Proofs.YtlaifodlnolndaaDoor
open Go.RowKit

def gapOf (k : Nat) : List UInt8 := if k = 0 then [32] else if k = 1 then [9, 13, 10] else if k = 2 then [32, 47, 47, 32, 115, 101, 116, 32, 57, 59, 32, 36, 10] else [10, 10]
theorem gapOf_gap (k : Nat) : GapL (gapOf k) := by
  unfold gapOf
  split
  · exact gapL_space (by decide) gapL_nil
  · split
    · exact gapL_space (by decide) (gapL_space (by decide) (gapL_space (by decide) gapL_nil))
    · split
      · exact gapL_space (by decide) (gapL_note (r := [32, 115, 101, 116, 32, 57, 59, 32, 36]) (by decide) gapL_nil)
      · exact gapL_space (by decide) (gapL_space (by decide) gapL_nil)
theorem gapOf_head (k : Nat) : ∃ c q, gapOf k = c :: q ∧ spaceB c = true := by
  unfold gapOf
  split
  · exact ⟨_, _, rfl, by decide⟩
  · split
    · exact ⟨_, _, rfl, by decide⟩
    · split
      · exact ⟨_, _, rfl, by decide⟩
      · exact ⟨_, _, rfl, by decide⟩
theorem gapOf_len (k : Nat) : (gapOf k).length ≤ 13 := by
  unfold gapOf
  split
  · decide
  · split
    · decide
    · split <;> decide
/- what is written ahead of the first tokens -/
def Blanked (ts : List Tok) : Nat → List UInt8 → Prop
  | 0, l => l = []
  | k + 1, l => ∃ (h : k < ts.length) (q : List UInt8) (g : Nat), Blanked ts k q ∧ l = q ++ gapOf g ++ wordOf ts[k]
theorem sameB_snoc {a b : List Tok} {t u : Tok} (h : sameB a b = true) (ht : sameT t u = true) : sameB (a ++ [t]) (b ++ [u]) = true :=
  same_app h (by simp [sameB, ht])
theorem blanked_scan {ts : List Tok} (hv : ts.all validB = true) : ∀ (k : Nat) (l : List UInt8), k ≤ ts.length → Blanked ts k l → ∃ ms, sameB (ts.take k) ms = true ∧ ∀ (m : List UInt8), SpaceHead m → scan (l ++ m) 0 = preT ms (scan m l.length)
  | 0, l, _, h => by
    have h' : l = [] := h
    subst h'
    exact ⟨[], rfl, fun m _ => by rw [preT_nil]; rfl⟩
  | k + 1, l, hk, h => by
    obtain ⟨hlt, q, g, hq, rfl⟩ := h
    obtain ⟨ms, hs, hm⟩ := blanked_scan hv k q (by omega) hq
    have hvk := List.all_eq_true.1 hv _ (List.getElem_mem hlt)
    refine ⟨ms ++ [⟨ts[k].kind, ts[k].text, ts[k].n, ((q ++ gapOf g).length : Nat)⟩], ?_, fun m hm2 => ?_⟩
    · rw [List.take_succ_eq_append_getElem hlt]
      exact sameB_snoc hs (by simp [sameT])
    · obtain ⟨c, r, hg, hc⟩ := gapOf_head g
      have e : q ++ gapOf g ++ wordOf ts[k] ++ m = q ++ (gapOf g ++ (wordOf ts[k] ++ m)) := by simp
      rw [e, hm _ (.inr ⟨c, _, by rw [hg]; rfl, hc⟩), gapOf_gap g, scan_word hvk hm2, preT_preT]
      congr 2
      · simp
      · simp only [List.length_append]
theorem blanked_all {ts : List Tok} (hv : ts.all validB = true) {l : List UInt8} (h : Blanked ts ts.length l) : ∃ ms, scan l 0 = .ok ms ∧ sameB ts ms = true := by
  obtain ⟨ms, h1, h2⟩ := blanked_scan hv ts.length l (Nat.le_refl _) h
  have := h2 [] (.inl rfl)
  rw [List.append_nil, scan_nil] at this
  rw [List.take_length] at h1
  exact ⟨ms, by rw [this]; simp [preT], h1⟩
theorem blanked_len {ts : List Tok} (hv : ts.all validB = true) : ∀ (k : Nat) (l : List UInt8), k ≤ ts.length → Blanked ts k l → l.length ≤ 45 * k
  | 0, l, _, h => by
    have h' : l = [] := h
    subst h'; simp
  | k + 1, l, hk, h => by
    obtain ⟨hlt, q, g, hq, rfl⟩ := h
    have h1 := blanked_len hv k q (by omega) hq
    have h2 := gapOf_len g
    have h3 := word_short (List.all_eq_true.1 hv _ (List.getElem_mem hlt))
    simp only [List.length_append]
    omega
theorem parse_same {s t : List UInt8} {ts ms : List Tok} (hs : scan s 0 = .ok ts) (ht : scan t 0 = .ok ms) (h : sameB ts ms = true) : (parseR s).1 = (parseR t).1 ∧ (parseR s).2.2 = (parseR t).2.2 := by
  unfold parseR
  rw [hs, ht]
  cases hp : pLines 64 ts with
  | ok ls => simp [hp, lines_same_ok h hp]
  | error q =>
    obtain ⟨q', hq⟩ := lines_same_err h hp
    simp [hp, hq]

end Go.Proofs.YtlaifodlnolndaaDoor

/- The statement Blank: the walk. -/
namespace Go.Proofs.YtlaifodlnolndaaDoor
open Go.RowKit

theorem join_one (t : Tok) : joinW [t] = wordOf t := by rw [joinW_cons, List.map_nil]; simp [Lib.joinTail]
theorem text_one (v : Value) (t : Tok) (w : World) (h : IsToks w v [t]) (hG : Globals w) (hv : validB t = true) :
    Calls Tryd.prog 21 #[v] w fun e w' => e = .returned (.tuple #[.string ⟨(wordOf t).toArray⟩, .int .i64 0]) ∧ Below w.heap.size w w' := by
  have := text_ok v [t] w h (by simp) hG (by simp [hv])
  rw [join_one] at this
  exact this
theorem tmod_nat (a b : Nat) : Int.tmod (a : Int) (b : Int) = ((a % b : Nat) : Int) := rfl

set_option maxRecDepth 100000 in
set_option maxHeartbeats 8000000 in
theorem blank_any (s : ByteArray) (v : Value) (bs : List Int) (w : World) (hs : s.size ≤ 140737488355328) (hB : IsBytes w v bs) (hG : Globals w) :
    Calls Tryd.prog 8 #[.string s, v] w fun e w' => e = .returned (.bool true) ∧ Below w.heap.size w w' := by
  obtain ⟨hbl, hbr, ba, bcap, rfl, hbc⟩ := hB
  have HG := Lib.hid hG
  have HBR := Lib.hid hbr
  have HBC := Lib.hid hbc
  obtain ⟨bn, hbn⟩ : ∃ n, n = bs.length := ⟨_, rfl⟩
  have HBN := Lib.hid hbn
  rw [← hbn] at hbl ⊢
  have HBL := Lib.hid hbl
  clear hG hbr hbc hbn hbl
  by_cases h8 : 8000 < s.size
  · have hlt : decide (8000 < (s.size : Int)) = true := by simp; omega
    go_enter Tryd.func8, Tryd.ntmps8
    go_wp2_with fail
    refine (sane_any _ HG.out).mono ?_
    rintro e w1 ⟨rfl, hb1⟩
    go_wp2
    go_ret
    exact ⟨rfl, hb1⟩
  have hlt : decide (8000 < (s.size : Int)) = false := by simp; omega
  have HS65 := Lib.hid (show s.size ≤ 65536 by omega)
  cases hsc : scan s.data.toList 0 with
  | error k =>
    go_enter Tryd.func8, Tryd.ntmps8
    go_wp2_with fail
    refine (sane_any _ HG.out).mono ?_
    rintro e w1 ⟨rfl, hb1⟩
    have HG1 := Lib.hid (HG.out.next hb1)
    have HB1 := Lib.hid hb1
    clear hb1
    go_wp2_with fail
    refine (lex_err s k hsc w1 HS65.out HG1.out).mono ?_
    rintro e w2 ⟨rfl, hb2⟩
    go_wp2
    go_ret
    exact ⟨rfl, HB1.out.trans (hb2.mono HB1.out.size)⟩
  | ok ts =>
    have HV := Lib.hid (back_source hsc).1
    have HLN : Hid (ts.length ≤ 8000) := Lib.hid (by have := (back_source hsc).2.2.1; rw [length_toList] at this; omega)
    have HSC := Lib.hid hsc
    have HL := Lib.hid (fun w hG => lex_ok s ts hsc w HS65.out hG)
    clear hsc h8 hs
    go_enter Tryd.func8, Tryd.ntmps8
    go_wp2_with fail
    refine (sane_any _ HG.out).mono ?_
    rintro e w1 ⟨rfl, hb1⟩
    have HG1 := Lib.hid (HG.out.next hb1)
    have HB1 := Lib.hid hb1
    clear hb1
    go_wp2_with fail
    refine (HL.out w1 HG1.out).mono ?_
    rintro e w2 ⟨tv, rfl, hv2, hb2⟩
    obtain ⟨va, vcap, rfl⟩ : ∃ a c, tv = .slice a ts.length c := by
      obtain ⟨_, _, ⟨rfl, a, c, rfl⟩ | ⟨b, o, c, rfl, _⟩⟩ := hv2
      · exact ⟨a, c, rfl⟩
      · exact ⟨_, c, rfl⟩
    have HB2 := Lib.hid (HB1.out.trans (hb2.mono HB1.out.size))
    have HG2 := Lib.hid (HG1.out.next hb2)
    have HT2 := Lib.hid hv2
    clear hv2 hb2 HB1 HG1 HL
    go_wp2_with fail
    go_loopw [35, 8] (fun iv sv wr => ∃ (j : Nat) (q : ByteArray), iv = .int .i64 j ∧ sv = .string q ∧ j ≤ ts.length ∧ Hid (Blanked ts j q.data.toList) ∧ Hid (Below w2.heap.size w2 wr)) (fun iv _ _ => ts.length - (intOf iv).toNat)
    case atStart => exact ⟨0, ⟨#[]⟩, rfl, rfl, by omega, Lib.hid rfl, Lib.hid (Below.refl _ _)⟩
    case round =>
      obtain ⟨j, q, rfl, rfl, hj, HQ, HBr⟩ := hrel
      have HQL : Hid (q.size ≤ 360000) := Lib.hid (by have := blanked_len HV.out j _ hj HQ.out; have := HLN.out; rw [length_toList] at *; omega)
      by_cases hlt2 : j < ts.length
      · have HTr := Lib.hid (HT2.out.below HBr.out)
        obtain ⟨_, htx, ⟨hnil, _⟩ | ⟨tb, to, tc, hte, htb, hrow⟩⟩ := HTr.out
        · rw [hnil] at hlt2; simp at hlt2
        obtain ⟨rfl, rfl⟩ : va = some ⟨tb, to, none⟩ ∧ vcap = tc := by simpa using hte
        obtain ⟨c0, c1, c2, c3⟩ := hrow j hlt2
        have HTX := Lib.hid (htx _ (List.getElem_mem hlt2))
        have HVj := Lib.hid (List.all_eq_true.1 HV.out _ (List.getElem_mem hlt2))
        have HNx := Lib.hid (fun (g : Nat) (l : List UInt8) (e : l = q.data.toList ++ gapOf g ++ wordOf ts[j]) => (⟨hlt2, q.data.toList, g, HQ.out, e⟩ : Blanked ts (j + 1) l))
        have HWL := Lib.hid (word_short HVj.out)
        have hdj : decide (j < ts.length) = true := by simpa using hlt2
        clear hrow hte htx HTr
        generalize ts[j] = t at *
        obtain ⟨tk, tx, tn, ta⟩ := t
        dsimp only at c0 c1 c2 c3
        have hA : Below wr.heap.size wr (wr.alloc (.cells #[.int .i64 tk, .string tx, .int .i64 tn, .int .i64 ta] 44)) := (Below.refl _ _).alloc (Nat.le_refl _) _
        have hA2 : Below wr.heap.size wr ((wr.alloc (.cells #[.int .i64 tk, .string tx, .int .i64 tn, .int .i64 ta] 44)).alloc (.cells #[.int .i64 tk, .string tx, .int .i64 tn, .int .i64 ta] 44)) := hA.alloc hA.size _
        have HG3 := Lib.hid ((HG2.out.next HBr.out).next hA2)
        have HB3 := Lib.hid (HBr.out.trans (hA2.mono HBr.out.size))
        have HTk : Hid (IsToks ((wr.alloc (.cells #[.int .i64 tk, .string tx, .int .i64 tn, .int .i64 ta] 44)).alloc (.cells #[.int .i64 tk, .string tx, .int .i64 tn, .int .i64 ta] 44)) (.slice (some ⟨wr.heap.size + 1, 0, none⟩) 1 1) [⟨tk, tx, tn, ta⟩]) := Lib.hid (by
          have := isToks_new (wr.alloc (.cells #[.int .i64 tk, .string tx, .int .i64 tn, .int .i64 ta] 44)) [⟨tk, tx, tn, ta⟩] (by simp) (by simp) (fun t ht => by obtain rfl := List.mem_singleton.1 ht; exact HTX.out) _ rfl
          simpa [Tok.cells] using this)
        clear hA hA2
        go_wp2_with fail
        refine (text_one _ _ _ HTk.out HG3.out HVj.out).mono ?_
        rintro e w4 ⟨rfl, hb4⟩
        have HB4 := Lib.hid (HB3.out.trans (hb4.mono HB3.out.size))
        clear hb4 HTk HG3 HB3 c0 c1 c2 c3
        generalize hw : wordOf ⟨tk, tx, tn, ta⟩ = wd at HNx HWL ⊢
        have hwz : (⟨wd.toArray⟩ : ByteArray).size = wd.length := txt_size wd
        have fin : ∀ (g : Nat) (gb : ByteArray), gb.data.toList = gapOf g → Hid (Blanked ts (j + 1) (q ++ gb ++ (⟨wd.toArray⟩ : ByteArray)).data.toList) := fun g gb hg => Lib.hid (HNx.out g _ (by rw [str_app, str_app, hg]))
        have Fin := Lib.hid fin
        have hqz := HQL.out
        have hwl := HWL.out
        clear fin HNx HWL HQ HQL hw
        by_cases hb0 : bn = 0
        · have hd0 : decide (0 < bn) = false := by simp; omega
          have HE := Lib.hid (Fin.out 0 ⟨#[32]⟩ rfl).out
          have z1 : ¬ 9223372036854775807 < q.size + 1 := by omega
          clear hb0
          go_wp2
          exact ⟨⟨j + 1, _, by go_num, rfl, by omega, HE, HB4⟩, by simp [intOf]; omega⟩
        · have hd0 : decide (0 < bn) = true := by simp; omega
          have hbl : bn ≤ 9223372036854775807 := HBL.out
          have hlt3 : j % bn < bn := Nat.mod_lt _ (by omega)
          obtain ⟨bb, bo, rfl, hbb, hcell⟩ : ∃ bb bo, ba = some ⟨bb, bo, none⟩ ∧ bb < w.heap.size ∧ ∀ i (h : i < bs.length), w.cell? ⟨bb, bo + i, none⟩ = some (.int .u8 bs[i]) := by
            rcases HBC.out with h | ⟨b, o, h1, h2, h3⟩
            · rw [HBN.out, h] at hb0; simp at hb0
            · exact ⟨b, o, h1, h2, h3⟩
          have hjb : j % bn < bs.length := by rw [← HBN.out]; exact hlt3
          have hcj := hcell (j % bn) hjb
          have hrange := HBR.out _ (List.getElem_mem hjb)
          have hc4 : w4.cell? ⟨bb, bo + j % bn, none⟩ = some (.int .u8 bs[j % bn]) := ((HB2.out.trans (HB4.out.mono HB2.out.size)).cell (p := ⟨bb, bo + j % bn, none⟩) hbb).trans hcj
          generalize bs[j % bn] = x at hcj hrange hc4
          obtain ⟨xn, rfl⟩ : ∃ n : Nat, x = (n : Int) := ⟨x.toNat, by omega⟩
          clear hcj hcell
          have hcases : xn % 4 = 0 ∨ xn % 4 = 1 ∨ xn % 4 = 2 ∨ xn % 4 = 3 := by omega
          have hjm : Int.tmod (j : Int) (bn : Int) = ((j % bn : Nat) : Int) := rfl
          have hbnz : ¬ (bn : Int) = 0 := by omega
          clear hb0
          rcases hcases with h4 | h4 | h4 | h4
          · have hm4 : (xn : Int) % 4 = 0 := by omega
            have HE := Lib.hid (Fin.out 0 ⟨#[32]⟩ rfl).out
            have z1 : ¬ 9223372036854775807 < q.size + 1 := by omega
            clear HBC HBN
            go_wp2
            exact ⟨⟨j + 1, _, by go_num, rfl, by omega, HE, HB4⟩, by simp [intOf]; omega⟩
          · have hm4 : (xn : Int) % 4 = 1 := by omega
            have HE := Lib.hid (Fin.out 1 ⟨#[9, 13, 10]⟩ rfl).out
            have z1 : ¬ 9223372036854775807 < q.size + 3 := by omega
            clear HBC HBN
            go_wp2
            exact ⟨⟨j + 1, _, by go_num, rfl, by omega, HE, HB4⟩, by simp [intOf]; omega⟩
          · have hm4 : (xn : Int) % 4 = 2 := by omega
            have HE := Lib.hid (Fin.out 2 ⟨#[32, 47, 47, 32, 115, 101, 116, 32, 57, 59, 32, 36, 10]⟩ rfl).out
            have z1 : ¬ 9223372036854775807 < q.size + 13 := by omega
            clear HBC HBN
            go_wp2
            exact ⟨⟨j + 1, _, by go_num, rfl, by omega, HE, HB4⟩, by simp [intOf]; omega⟩
          · have hm4 : (xn : Int) % 4 = 3 := by omega
            have HE := Lib.hid (Fin.out 3 ⟨#[10, 10]⟩ rfl).out
            have z1 : ¬ 9223372036854775807 < q.size + 2 := by omega
            clear HBC HBN
            go_wp2
            exact ⟨⟨j + 1, _, by go_num, rfl, by omega, HE, HB4⟩, by simp [intOf]; omega⟩
      · have hdj : decide (j < ts.length) = false := by simpa using hlt2
        have hjl : j = ts.length := by omega
        obtain ⟨ms, hms, hsame⟩ := blanked_all HV.out (hjl ▸ HQ.out)
        have HBw := Lib.hid (HB2.out.trans (HBr.out.mono HB2.out.size))
        have HGr := Lib.hid (HG2.out.next HBr.out)
        have HP := Lib.hid (parse_same HSC.out hms hsame)
        clear hms hsame hjl HQ
        by_cases hbig : 65536 < q.size
        · have hd : decide (65536 < (q.size : Int)) = true := by simp; omega
          go_wp2
          go_ret
          exact ⟨rfl, HBw.out⟩
        · have hd : decide (65536 < (q.size : Int)) = false := by simp; omega
          have HV1 := Lib.hid (fun w hG => parse_gives s _ rfl _ rfl HS65.out w hG)
          have HV2 := Lib.hid (fun w hG => parse_gives q _ rfl _ rfl (by omega) w hG)
          obtain ⟨hp1, hp2⟩ := HP.out
          generalize parseR s.data.toList = r1 at hp1 hp2 HV1 HP
          generalize parseR q.data.toList = r2 at hp1 hp2 HV2 HP
          obtain ⟨l1, p1, e1⟩ := r1
          obtain ⟨l2, p2, e2⟩ := r2
          dsimp only at hp1 hp2
          subst hp1 hp2
          clear HP hbig
          go_wp2_with fail
          refine (HV1.out wr HGr.out).mono ?_
          rintro e w5 ⟨a5, m5, rfl, hv5, hb5⟩
          have HK5 := Lib.hid ((((⟨Below.refl _ _, HGr.out, fun _ h => by simp at h, fun _ h => by simp at h⟩ : Keep wr [] [] wr).next hb5).add hv5).var (.slice a5 l1.length m5))
          clear hv5 hb5
          go_wp2_with fail
          refine (HV2.out _ HK5.out.glob).mono ?_
          rintro e w6 ⟨a6, m6, rfl, hv6, hb6⟩
          have HK6 := Lib.hid (((HK5.out.next hb6).add hv6).var (.slice a6 l1.length m6))
          clear hv6 hb6
          have x5 := HK6.out.cell (b := w5.heap.size) (v := .slice a5 l1.length m5) (by simp)
          have x6 := HK6.out.cell (b := w6.heap.size) (v := .slice a6 l1.length m6) (by simp)
          go_wp2_with fail
          generalize (w6.alloc (.cells #[.slice a6 l1.length m6] 24)) = w7 at HK6 x5 x6 ⊢
          refine (same_any _ _ l1 l1 w7 (HK6.out.lns (.slice a5 l1.length m5, l1) (by simp)) (HK6.out.lns (.slice a6 l1.length m6, l1) (by simp))).mono ?_
          rw [sameC_refl]
          rintro e w8 ⟨rfl, hb8⟩
          have HB8 := Lib.hid (HBw.out.trans ((HK6.out.next hb8).below.mono HBw.out.size))
          clear hb8 HK6 HK5 x5 x6
          go_wp2
          go_ret
          exact ⟨rfl, HB8.out⟩

end Go.Proofs.YtlaifodlnolndaaDoor

/-
  PROVED HERE: the tied card of 'acequia/acequialaw31.GatecodeBlank': for every input, in every start that meets the row's condition on the listed package variables, the law returns true and each argument reads as it did. Its conditions are the given statement's own (Rows.GatecodeBlankCardSaid), none more.
-/
namespace Go.Proofs.YtlaifodlnolndaaDoor
open Go.ChangeShapes Go.WideShapes Go.ChangeAt Go.WideMaps Go.WideElems Go.RowKit Go.ChangeMaps

set_option maxRecDepth 100000 in
theorem gatecodeBlank_lifted (os : Os) (started : os.Started) (H : Type) (enc : TypeId × Value → H) :
    ReturnsInHanded {} Tryd.checked os 8 .any (fun w args => (Rows.gatecodeBlankSpec.pre enc Tryd.prog Tryd.f8 [] false w args ∧ laidMetH Tryd.prog laidAll w) ∧ sizedMet enc Tryd.prog Tryd.f8 (OpenSpec.ofChange Rows.gatecodeBlankSpec) false w args)
      (Rows.gatecodeBlankSpec.post enc Tryd.prog Tryd.f8 false true false false) := by
  refine returnsInHanded_of_change_and (C := Tryd.checked) (X := fun w _ => laidMetH Tryd.prog laidAll w) (fun _ _ _ hh h => h.of_heap hh) own started (by kernel_rfl) Tryd.func8
    (ChangeSpec.witness_shaped (enc := enc) (C := Tryd.checked) (os := os) (X := fun w _ => laidMetH Tryd.prog laidAll w) false (World.doorLaid Tryd.prog 400 os) #[.string ByteArray.empty, .slice none 0 0] 8 rfl (World.shaped_of_RefB (by kernel_rfl) (by kernel_rfl)) (by kernel_rfl) (by kernel_rfl) (by kernel_rfl) (door_met os _)) ?_
  intro W base args ds gs before hval0 hW _ hsz0 hL _
  have hsz : (DataW.weightsEach Tryd.prog (Tryd.f8.params.toList ++ Rows.gatecodeBlankSpec.plain.varTypes Tryd.prog) (ds ++ gs)).all (· ≤ reachBytes) = true := hsz0
  have hval : ∀ (j : Nat) t v, Tryd.f8.params[j]? = some t → args[j]? = some v → Value.okWide Tryd.prog W .any base t v := hval0
  have hW' := hW
  obtain ⟨p, q, hA0, hV, rfl, hfz, hnd⟩ := hW
  have hA : DataW.TrodAll enc Tryd.prog W 0 (fun _ => true) true Tryd.f8.params.toList args.toList ds p := hA0
  rw [Tryd.params8] at hA hval hsz
  obtain ⟨v0, v1, d0, d1, p0, p1, rfl, rfl, rfl, h0, h1⟩ := trodAll_two hA
  obtain ⟨rfl, rfl⟩ := trodVars_none hV
  obtain ⟨s0, rfl, rfl, rfl, hs0⟩ := open_string Tryd.underlying9 (hval 0 9 v0 rfl rfl) h0
  obtain ⟨b1, hi1⟩ := open_bytes (hval 1 52 v1 rfl rfl) h1
  have hz0 : s0.size ≤ 140737488355328 := by
    have h1 : s0.data.toList.length ≤ reachBytes := sized_string hsz (j := 0) (t := 9) rfl rfl
    have h2 : s0.data.toList.length = s0.size := by simp
    have h3 : reachBytes < 2 ^ 47 := reachBytes_lt
    omega
  clear hA0 hval0 hsz0
  refine (blank_any s0 v1 b1 W hz0 hi1 (globals_of_laid hL)).mono fun e W' ⟨he, hb⟩ => ?_
  subst he
  exact ⟨_, rfl, _, _, _, [], _, [], hW', trodAll_mk1 (shut_bool Tryd.underlying4 true), trodAll_mk2 (shut_string Tryd.underlying9 hs0) (Below.trod laidOut (by kernel_rfl) (of_decide_eq_true (by kernel_rfl)) h1 hb (fun x hx => hW'.lt x (by simp [hx]))), rfl, hb.frame _, fun h => by cases h⟩

theorem gatecodeBlank_holds : Rows.GatecodeBlankSaid :=
  OpenClaim.holds_of_wide 8 Tryd.f8 rfl rfl rfl rfl rfl rfl rfl ⟨rfl, rfl, rfl, rfl, rfl⟩ rfl rfl rfl rfl rfl (by kernel_rfl) Tryd.func8 (by kernel_rfl)
    (of_decide_eq_true (by kernel_rfl)) (by unfold Func.isWrapper; rw [if_neg (of_decide_eq_false (by kernel_rfl))]; exact ⟨rfl, rfl⟩)
    (fun os started H enc _ => gatecodeBlank_lifted os started H enc)

/-- The tied card. -/
theorem gatecodeBlankCard_holds : Rows.GatecodeBlankCardSaid :=
  Claim7.holds_tied_plain_at .later [] [.data, .data, .data, .sentinel, .sentinel] true (true, "e65092b6c8e12897320936d0b59b09d858db66b2193a5810b3c0cafb90844fc6") true
    gatecodeBlank_holds (fun _ h => by cases h) (by kernel_rfl) (fun _ h => by cases h) gatecodeBlank_row_tie rfl ⟨rfl, rfl⟩ (by kernel_rfl) rfl
    (fun f fn hf hfn => by
      obtain rfl : f = 8 := Option.some.inj ((show Tryd.prog.funcNamed "acequia/acequialaw31.GatecodeBlank" = some 8 by kernel_rfl).symm.trans hf) |>.symm
      obtain rfl : fn = Tryd.f8 := (Option.some.inj (Tryd.func8.symm.trans hfn)).symm
      exact ⟨by kernel_rfl, fun j t ht => by
        rw [Tryd.params8] at ht
        have hm : t ∈ [9, 52] := by simpa using Array.mem_of_getElem? ht
        have hall : ([9, 52].all fun u => !Tryd.prog.wantsStandIn u) = true := by kernel_rfl
        exact (show Tryd.prog.wantsStandIn t = false by simpa using List.all_eq_true.1 hall t hm)⟩)
    (by kernel_rfl)

end Go.Proofs.YtlaifodlnolndaaDoor

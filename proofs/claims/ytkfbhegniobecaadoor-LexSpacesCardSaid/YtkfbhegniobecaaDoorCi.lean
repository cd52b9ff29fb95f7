/- PROVED HERE: the walk of 'acequialaw03.LexSpaces': for every input of a size that a machine can hold the law returns true, where the listed variables hold what the row's condition says. -/
import Derived.Test.YtkfbhegniobecaaDoorCe
import Derived.Test.YtkfbhegniobecaaDoorCc
import Derived.Test.YtkfbhegniobecaaDoorBe
import Derived.Test.YtkfbhegniobecaaDoorEb
namespace Go.Proofs.YtkfbhegniobecaaDoor
open Go.RowKit

theorem one_valid {t : Tok} {b : Bool} (h : validB t = b) : [t].all validB = b := by simp [h]
theorem join_single (t : Tok) : joinW [t] = wordOf t := by unfold joinW; exact Lib.join_one _ _

/- the eight pieces of white space -/
def gaps (x : ByteArray) : List ByteArray := [⟨#[32]⟩, ⟨#[9]⟩, ⟨#[10]⟩, ⟨#[13, 10]⟩, ⟨#[32, 32]⟩, ⟨#[47, 47]⟩ ++ x ++ ⟨#[10]⟩, ⟨#[32, 47, 47, 32, 10]⟩, ⟨#[10, 47, 47, 10]⟩]
theorem gaps_at (x : ByteArray) (hx : x.data.toList.all notLf = true) (hs : x.size ≤ 100) (j : Nat) (hj : j < 8) : ∃ y, (gaps x)[j]? = some y ∧ GapL y.data.toList ∧ y.size ≤ 103 := by
  match j, hj with
  | 0, _ => exact ⟨_, rfl, gapL_space (by decide) gapL_nil, by decide⟩
  | 1, _ => exact ⟨_, rfl, gapL_space (by decide) gapL_nil, by decide⟩
  | 2, _ => exact ⟨_, rfl, gapL_space (by decide) gapL_nil, by decide⟩
  | 3, _ => exact ⟨_, rfl, gapL_space (by decide) (gapL_space (by decide) gapL_nil), by decide⟩
  | 4, _ => exact ⟨_, rfl, gapL_space (by decide) (gapL_space (by decide) gapL_nil), by decide⟩
  | 5, _ =>
    refine ⟨_, rfl, ?_, ?_⟩
    · have e : (⟨#[47, 47]⟩ ++ x ++ ⟨#[10]⟩ : ByteArray).data.toList = 47 :: 47 :: (x.data.toList ++ 10 :: []) := by rw [data_app, data_app]; simp
      rw [e]; exact gapL_note hx gapL_nil
    · rw [ByteArray.size_append, ByteArray.size_append, show (ByteArray.mk #[47, 47]).size = 2 from rfl, show (ByteArray.mk #[10]).size = 1 from rfl]; omega
  | 6, _ => exact ⟨_, rfl, gapL_space (by decide) (gapL_note (r := [32]) (by decide) gapL_nil), by decide⟩
  | 7, _ => exact ⟨_, rfl, gapL_space (by decide) (gapL_note (r := []) (by decide) gapL_nil), by decide⟩

theorem one_tok (w : World) (C : Array Value) (t : Tok) (ht : t.text.size ≤ maxLen) : IsToks ((w.alloc (.cells C 35)).alloc (.cells t.cells 35)) (.slice (some ⟨w.heap.size + 1, 0, none⟩) 1 1) [t] := by
  have e : (w.alloc (.cells C 35)).heap.size = w.heap.size + 1 := by simp
  have := isToks_new (w.alloc (.cells C 35)) [t] (by simp) (by simp) (by intro x hx; simp at hx; subst hx; exact ht) t.cells (by simp [Tok.cells])
  rw [e] at this
  exact this

theorem IsBytes.size {w : World} {v : Value} {bs : List Int} (h : IsBytes w v bs) : ∃ a cap, v = .slice a bs.length cap := by
  obtain ⟨_, _, ⟨rfl, a, c, rfl⟩ | ⟨b, o, c, rfl, _⟩⟩ := h
  · exact ⟨_, _, rfl⟩
  · exact ⟨_, _, rfl⟩
theorem IsBytes.at_ {w w' : World} {a : Option Addr} {n c k : Nat} {bs : List Int} (h : IsBytes w (.slice a n c) bs) (hk : k < bs.length) (hb : Below w.heap.size w w') :
    ∃ b o, ∃ x : Int, a = some ⟨b, o, none⟩ ∧ w'.cell? ⟨b, o + k, none⟩ = some (.int .u8 x) ∧ 0 ≤ x ∧ x ≤ 255 := by
  obtain ⟨_, hr, ⟨h, _⟩ | ⟨b, o, c', he, hlt, hc⟩⟩ := h
  · rw [h] at hk; simp at hk
  · simp only [Value.slice.injEq] at he
    obtain ⟨rfl, _, _⟩ := he
    refine ⟨b, o, bs[k], rfl, ?_, hr _ (List.getElem_mem hk)⟩
    rw [hb.cell (p := ⟨b, o + k, none⟩) hlt]
    exact hc k hk

set_option maxRecDepth 100000 in
set_option maxHeartbeats 8000000 in
theorem lexSpaces_any (v : Value) (ts : List Tok) (u : Value) (bs : List Int) (s : ByteArray) (w : World) (hv0 : IsToks w v ts) (hu0 : IsBytes w u bs) (hs : s.size ≤ 140737488355328) (hts : ∀ t ∈ ts, t.text.size ≤ 140737488355328) (hG : Globals w) :
    Calls Tryd.prog 8 #[v, u, .string s] w fun e w' => e = .returned (.bool true) ∧ Below w.heap.size w w' := by
  have Hs := Lib.hid (sane_any w hG)
  have H0 := Lib.hid (Amid.start hG [(v, ts)] (fun x hx => by simp at hx; subst hx; exact hv0))
  have Hu := Lib.hid hu0
  clear hG hv0 hu0
  cases hf : fewB ts with
  | false =>
    have Hf := Lib.hid (fun W h => few_is (v := v) hf hts W h)
    clear hf hts
    go_enter Tryd.func8, Tryd.ntmps8
    go_wp2_with fail
    refine Hs.out.mono ?_
    rintro e w1 ⟨rfl, hb⟩
    have H1 := Lib.hid (H0.out.next hb)
    clear hb
    go_wp2_with fail
    refine (Hf.out _ (H1.out.1.2 (v, ts) (by simp))).mono ?_
    rintro e w2 ⟨rfl, rfl⟩
    go_wp2_with fail
    go_ret
    exact ⟨rfl, H1.out.2⟩
  | true =>
    have Hf := Lib.hid (fun W h => few_is (v := v) hf hts W h)
    have hlen := few_len hf
    clear hf hts
    by_cases h3 : (s.size : Int) > 100
    · clear hlen
      go_enter Tryd.func8, Tryd.ntmps8
      go_wp2_with fail
      refine Hs.out.mono ?_
      rintro e w1 ⟨rfl, hb⟩
      have H1 := Lib.hid (H0.out.next hb)
      clear hb
      go_wp2_with fail
      refine (Hf.out _ (H1.out.1.2 (v, ts) (by simp))).mono ?_
      rintro e w2 ⟨rfl, rfl⟩
      go_wp2_with fail
      go_ret
      exact ⟨rfl, H1.out.2⟩
    · have h3' : s.size ≤ 100 := by omega
      obtain ⟨a0, c0, hv⟩ := IsToks.size (w := w) (v := v) (ts := ts) (H0.out.1.2 (v, ts) (by simp))
      subst hv
      obtain ⟨a1, c1, hu⟩ := Hu.out.size
      subst hu
      go_enter Tryd.func8, Tryd.ntmps8
      go_wp2_with fail
      refine Hs.out.mono ?_
      rintro e w1 ⟨rfl, hb⟩
      have H1 := Lib.hid (H0.out.next hb)
      have HB1 := Lib.hid hb
      clear hb
      go_wp2_with fail
      refine (Hf.out _ (H1.out.1.2 (.slice a0 ts.length c0, ts) (by simp))).mono ?_
      rintro e w2 ⟨rfl, rfl⟩
      go_wp2_with fail
      go_loop [7, 8] (fun xv kv => ∃ (k : Nat) (x : ByteArray), kv = .int .i64 k ∧ k ≤ s.size ∧ xv = .string x ∧ x.size ≤ k ∧ Hid (x.data.toList.all notLf = true)) (fun _ kv => s.size - (intOf kv).toNat)
      case atStart => exact ⟨0, _, rfl, Nat.zero_le _, rfl, Nat.le_refl _, rfl⟩
      case round =>
        obtain ⟨k, x, rfl, hk, rfl, hxk, HX⟩ := hrel
        by_cases hlt : k < s.size
        · have hsl := slice_is s k (k + 1) ((k : Int) + 1) (by omega) (by omega) (by omega)
          by_cases h10 : s[k].toNat = 10
          · have b1 : ((s[k].toNat : Int) != 10) = false := by simp [h10]
            clear h10
            go_wp2
            exact ⟨⟨k + 1, x, by go_num, by omega, rfl, by omega, HX⟩, by simp [intOf]; omega⟩
          · have b1 : ((s[k].toNat : Int) != 10) = true := by rw [bne_iff_ne]; omega
            have HY : Hid ((x ++ s.extract k (k + 1)).data.toList.all notLf = true) := Lib.hid (by
              rw [data_app, List.all_append, HX.out, extract_list, drop_take_cons s (Nat.lt_succ_self k) (by omega)]
              rw [List.drop_eq_nil_of_le (by rw [List.length_take]; omega)]
              simp [notLf, h10])
            have hyz : (s.extract k (k + 1)).size = 1 := by simp; omega
            clear h10
            go_wp2
            exact ⟨⟨k + 1, x ++ s.extract k (k + 1), by go_num, by omega, rfl, by rw [ByteArray.size_append, hyz]; omega, HY⟩, by simp [intOf]; omega⟩
        · have HN9 : ts.length ≤ 200 := hlen
          generalize hN : ts.length = N at hlen H1
          have HN := Lib.hid hN
          clear hN HN9
          have hx100 : x.size ≤ 100 := by omega
          have hgb := gaps_at x HX.out hx100
          have hb1 : Below w1.heap.size w1 (w1.alloc (.cells (((gaps x).map Value.string).toArray) 9)) := (Below.refl _ w1).alloc (Nat.le_refl _) _
          have HC : ∀ (j : Nat), j < 8 → ∃ y : ByteArray, (w1.alloc (.cells (((gaps x).map Value.string).toArray) 9)).cell? ⟨w1.heap.size, j, none⟩ = some (.string y) ∧ GapL y.data.toList ∧ y.size ≤ 103 := fun j hj => by
            obtain ⟨y, h1, h2, h3⟩ := hgb j hj
            refine ⟨y, ?_, h2, h3⟩
            rw [World.cell?_alloc_new]
            simp [h1]
          have HC := Lib.hid HC
          clear hgb
          go_wp2_with fail
          go_loopw [10, 11, 12, 13, 14, 17, 54] (fun sv _ _ _ _ _ kv wr => ∃ (k : Nat) (y : ByteArray), kv = .int .i64 k ∧ k ≤ N ∧ sv = .string y ∧ y.size ≤ 1 + 200 * k ∧ Hid (Built ts k y.data.toList) ∧ Hid (∀ t ∈ ts.take k, validB t = true) ∧ Hid (Below (w1.heap.size + 1) (w1.alloc (.cells (((gaps x).map Value.string).toArray) 9)) wr)) (fun _ _ _ _ _ _ kv _ => N - (intOf kv).toNat)
          case atStart =>
            refine ⟨0, _, rfl, Nat.zero_le _, rfl, by decide, rfl, fun t ht => by simp at ht, ?_⟩
            exact Below.refl _ _
          case round =>
            obtain ⟨k, y, rfl, hk, rfl, hyz, HBt, HV, HW⟩ := hrel
            have hsz1 : (w1.alloc (.cells (((gaps x).map Value.string).toArray) 9)).heap.size = w1.heap.size + 1 := by simp
            have hW : Below (w1.alloc (.cells (((gaps x).map Value.string).toArray) 9)).heap.size (w1.alloc (.cells (((gaps x).map Value.string).toArray) 9)) wr := by rw [hsz1]; exact HW.out
            have H2 := Lib.hid ((H1.out.next hb1).next hW)
            have hzr := hW.size
            rw [hsz1] at hzr
            by_cases hltk : k < N
            · have hx : k < ts.length := by rw [HN.out]; exact hltk
              have hI : IsToks wr (.slice a0 N c0) ts := H2.out.1.2 (.slice a0 N c0, ts) (by simp)
              have htx := hI.2.1 _ (List.getElem_mem hx)
              obtain ⟨b0, o0, rfl, x0, x1, x2, x3⟩ := hI.row hx
              have hnot : validB ts[k] = false → ts.all validB = false := fun h => by
                rw [List.all_eq_false]; exact ⟨_, List.getElem_mem hx, by rw [h]; simp⟩
              have hbuilt : ∀ g, GapL g → Built ts (k + 1) (y.data.toList ++ (wordOf ts[k] ++ [32] ++ g)) := fun g hg => ⟨hx, _, g, HBt.out, hg, rfl⟩
              have hvn := fun (h : validB ts[k] = true) => all_take hx HV.out h
              have hwl := fun (h : validB ts[k] = true) => word_len h
              generalize ts[k] = t at x0 x1 x2 x3 htx hnot hbuilt hvn hwl
              obtain ⟨kd, tx, nn, aa⟩ := t
              dsimp only at x0 x1 x2 x3 htx
              have Hone := Lib.hid (one_tok wr #[.int .i64 kd, .string tx, .int .i64 nn, .int .i64 aa] ⟨kd, tx, nn, aa⟩ htx)
              clear hI
              cases hvb : validB ⟨kd, tx, nn, aa⟩ with
              | false =>
                have Ht := Lib.hid (fun v W hg h => text_err v [⟨kd, tx, nn, aa⟩] W h (by simp) hg (one_valid hvb))
                have Hta := Lib.hid (fun W hg h => text_err (.slice (some ⟨b0, o0, none⟩) N c0) ts W h (by rw [HN.out]; omega) hg (hnot hvb))
                clear hvb hnot hbuilt hvn hwl
                go_wp2_with fail
                have H3 := Lib.hid ((H2.out.next ((Below.refl _ wr).alloc (Nat.le_refl _) (.cells #[.int .i64 kd, .string tx, .int .i64 nn, .int .i64 aa] 35))).next ((Below.refl _ _).alloc (Nat.le_refl _) (.cells #[.int .i64 kd, .string tx, .int .i64 nn, .int .i64 aa] 35)))
                refine (Ht.out _ _ H3.out.g Hone.out).mono ?_
                rintro e w3 ⟨rfl, hb⟩
                have H4 := Lib.hid (H3.out.next hb)
                clear hb
                go_wp2_with fail
                refine (Hta.out _ H4.out.g (H4.out.1.2 (.slice (some ⟨b0, o0, none⟩) N c0, ts) (by simp))).mono ?_
                rintro e w4 ⟨rfl, hb⟩
                have H5 := Lib.hid (H4.out.next hb)
                clear hb
                go_wp2_with fail
                go_ret
                exact ⟨rfl, H5.out.2⟩
              | true =>
                have Ht := Lib.hid (fun v W hg h => text_ok v [⟨kd, tx, nn, aa⟩] W h (by simp) hg (one_valid hvb))
                rw [join_single] at Ht
                have hw32 := hwl hvb
                have Hvn := Lib.hid (hvn hvb)
                clear hvb hnot hvn hwl
                by_cases hkb : k < bs.length
                · have hkb' : ((k : Int) < (bs.length : Int)) := by omega
                  go_wp2_with fail
                  have H3 := Lib.hid ((H2.out.next ((Below.refl _ wr).alloc (Nat.le_refl _) (.cells #[.int .i64 kd, .string tx, .int .i64 nn, .int .i64 aa] 35))).next ((Below.refl _ _).alloc (Nat.le_refl _) (.cells #[.int .i64 kd, .string tx, .int .i64 nn, .int .i64 aa] 35)))
                  have hzz : (mk (wordOf ⟨kd, tx, nn, aa⟩)).size ≤ 32 := hw32
                  have Hbuilt := Lib.hid hbuilt
                  rw [← mk_list (wordOf ⟨kd, tx, nn, aa⟩)] at Hbuilt
                  generalize mk (wordOf ⟨kd, tx, nn, aa⟩) = z at Ht Hbuilt hzz
                  clear hbuilt hw32
                  refine (Ht.out _ _ H3.out.g Hone.out).mono ?_
                  rintro e w3 ⟨rfl, hb⟩
                  have hz2 := hb.size
                  have hb' := ((HW.out.alloc (by omega) (.cells #[.int .i64 kd, .string tx, .int .i64 nn, .int .i64 aa] 35)).alloc (by simp; omega) (.cells #[.int .i64 kd, .string tx, .int .i64 nn, .int .i64 aa] 35)).trans (hb.mono (by simp; omega))
                  have HW' := Lib.hid hb'
                  have H4 := Lib.hid (H3.out.next hb)
                  clear hb hb'
                  obtain ⟨b5, o5, xx, rfl, hcx, hx0, hx1⟩ := IsBytes.at_ Hu.out hkb H4.out.2
                  obtain ⟨gg, hg1, hg2, hg3⟩ := HC.out (xx % 8).toNat (by omega)
                  have hcg : w3.cell? ⟨w1.heap.size, (xx % 8).toNat, none⟩ = some (.string gg) := by
                    rw [HW'.out.cell (p := ⟨w1.heap.size, (xx % 8).toNat, none⟩) (Nat.lt_succ_self _)]
                    exact hg1
                  have HB2 := Lib.hid (Hbuilt.out _ hg2)
                  clear hg1 hg2 Hbuilt
                  go_wp2_with fail
                  refine ⟨⟨k + 1, _, by go_num, by omega, rfl, ?_, ?_, Hvn, HW'⟩, by simp [intOf]; omega⟩
                  · simp only [ByteArray.size_append, show (ByteArray.mk #[32]).size = 1 from rfl]; omega
                  · show Hid (Built ts (k + 1) (y ++ (z ++ ⟨#[32]⟩ ++ gg)).data.toList)
                    rw [show (y ++ (z ++ ⟨#[32]⟩ ++ gg)).data.toList = y.data.toList ++ (z.data.toList ++ [32] ++ gg.data.toList) from by simp only [data_app]]
                    exact HB2
                · have hkb' : ¬ ((k : Int) < (bs.length : Int)) := by omega
                  have HB2 := Lib.hid (hbuilt [32] (gapL_space (by decide) gapL_nil))
                  have hzz : (mk (wordOf ⟨kd, tx, nn, aa⟩)).size ≤ 32 := hw32
                  rw [← mk_list (wordOf ⟨kd, tx, nn, aa⟩)] at HB2
                  generalize mk (wordOf ⟨kd, tx, nn, aa⟩) = z at Ht HB2 hzz
                  clear hbuilt hw32
                  go_wp2_with fail
                  have H3 := Lib.hid ((H2.out.next ((Below.refl _ wr).alloc (Nat.le_refl _) (.cells #[.int .i64 kd, .string tx, .int .i64 nn, .int .i64 aa] 35))).next ((Below.refl _ _).alloc (Nat.le_refl _) (.cells #[.int .i64 kd, .string tx, .int .i64 nn, .int .i64 aa] 35)))
                  refine (Ht.out _ _ H3.out.g Hone.out).mono ?_
                  rintro e w3 ⟨rfl, hb⟩
                  have hz2 := hb.size
                  have hb' := ((HW.out.alloc (by omega) (.cells #[.int .i64 kd, .string tx, .int .i64 nn, .int .i64 aa] 35)).alloc (by simp; omega) (.cells #[.int .i64 kd, .string tx, .int .i64 nn, .int .i64 aa] 35)).trans (hb.mono (by simp; omega))
                  have HW' := Lib.hid hb'
                  clear hb hb'
                  go_wp2_with fail
                  refine ⟨⟨k + 1, _, by go_num, by omega, rfl, ?_, ?_, Hvn, HW'⟩, by simp [intOf]; omega⟩
                  · simp only [ByteArray.size_append, show (ByteArray.mk #[32]).size = 1 from rfl]; omega
                  · show Hid (Built ts (k + 1) (y ++ (z ++ ⟨#[32]⟩ ++ ⟨#[32]⟩)).data.toList)
                    rw [show (y ++ (z ++ ⟨#[32]⟩ ++ ⟨#[32]⟩)).data.toList = y.data.toList ++ (z.data.toList ++ [32] ++ [32]) from by simp only [data_app]]
                    exact HB2
            · have hke : k = N := by omega
              subst hke
              have hall := HV.out
              rw [List.take_of_length_le (show ts.length ≤ k by rw [HN.out]; exact Nat.le_refl _)] at hall
              have hva : ts.all validB = true := List.all_eq_true.2 hall
              have hbl := HBt.out
              rw [← HN.out] at hbl
              obtain ⟨ms, hm1, hm2⟩ := built_all hva hbl
              have Hl := Lib.hid (fun W hg => lex_ok y ms hm1 W (by omega) hg)
              have Hm := Lib.hid (fun v1 v2 W h1 h2 => same_is hm2 v1 v2 W h1 h2)
              clear hall hva hbl hm1 hm2
              go_wp2_with fail
              refine (Hl.out _ H2.out.g).mono ?_
              rintro e w3 ⟨v3, rfl, hv3, hb⟩
              have H3 := Lib.hid ((H2.out.next hb).add hv3)
              clear hb hv3
              go_wp2_with fail
              refine (Hm.out _ v3 _ (H3.out.1.2 (.slice a0 k c0, ts) (by simp)) (H3.out.1.2 (v3, ms) (by simp))).mono ?_
              rintro e w4 ⟨rfl, hb⟩
              have H4 := Lib.hid (H3.out.next hb)
              clear hb
              go_wp2_with fail
              go_ret
              exact ⟨rfl, H4.out.2⟩

end Go.Proofs.YtkfbhegniobecaaDoor

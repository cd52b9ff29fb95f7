/- Texts Hn Ho Hp in one: each says what it proves. -/
import Derived.Test.YtlaifodlnolndaaGreatDoorMn
import Derived.Test.YtlaifodlnolndaaGreatDoorMj
import Derived.Test.YtlaifodlnolndaaGreatDoorMi
import Derived.Test.YtlaifodlnolndaaGreatDoorMh
import Derived.KernelRfl
/- Parse: the walk where the text has tokens. -/
namespace Go.Proofs.YtlaifodlnolndaaGreatDoor
open Go.RowKit Go.Maps Go.ChangeMaps Go.WideMaps

set_option maxRecDepth 100000 in
set_option maxHeartbeats 8000000 in
theorem parse_ok (s : ByteArray) (ts : List Tok) (h : scan s.data.toList 0 = .ok ts) (w : World) (hs : s.size ≤ 65536) (hG : Globals w) :
    Calls Tryz.prog 5 #[.string s] w (ParseEnd w (parseR s.data.toList)) := by
  have hmf : ∀ (fn : Fn) (first cap : Array Value) (w : World), (Instr.makeFunc fn first cap).run Tryz.prog w = .ok (.func fn first cap) w := fun _ _ _ _ => rfl
  have hmk : ∀ W : World, (Instr.makeMap 45 none).run Tryz.prog W = .ok (.map (some W.heap.size)) (W.alloc (.map #[] 0)) := fun W => by kernel_rfl
  generalize hr : parseR s.data.toList = r
  have HR := Lib.hid ((parseR_ok h).symm.trans hr)
  have HG := Lib.hid hG
  have HL := Lib.hid (fun w => lex_ok s ts h w hs)
  have HV := Lib.hid (valid_bare (back_source h).1)
  have HL65 : Hid (ts.length ≤ 65536) := Lib.hid (by have := (back_source h).2.2.1; rw [length_toList] at this; omega)
  have HPB := Lib.hid (fun ls (hp : pLines 64 ts = .ok ls) => okC_parts (read_valid (back_source h).1 hp))
  clear hG h hr
  go_enter_defers Tryz.func5, Tryz.ntmps5
  go_wp2_with fail
  have h4 := four w (.cells #[.string s] 9) (.cells #[.slice none 0 0] 25) (.cells #[.int .i64 0] 3) (.cells #[.int .i64 0] 26)
  generalize ((((w.alloc (.cells #[.string s] 9)).alloc (.cells #[.slice none 0 0] 25)).alloc (.cells #[.int .i64 0] 3)).alloc (.cells #[.int .i64 0] 26)) = w0 at h4 ⊢
  obtain ⟨h0, h1, h2, h3, hb, hz⟩ := h4
  rw [show w.heap.size + 1 + 1 + 1 = w.heap.size + 3 from rfl, show w.heap.size + 1 + 1 = w.heap.size + 2 from rfl]
  with_reducible refine (HL.out w0 (HG.out.below hb (globals_size HG.out))).mono ?_
  rintro e w1 ⟨v, rfl, hv1, hb1⟩
  obtain ⟨va, vcap, rfl⟩ : ∃ a c, v = .slice a ts.length c := by
    obtain ⟨_, _, ⟨rfl, a, c, rfl⟩ | ⟨b, o, c, rfl, _⟩⟩ := hv1
    · exact ⟨a, c, rfl⟩
    · exact ⟨_, c, rfl⟩
  have hb3 : Below w0.heap.size w0 (w1.alloc (.cells #[.slice va ts.length vcap] 42)) := hb1.alloc hb1.size _
  have HF1 := Lib.hid ((⟨h0, h1, h2, h3⟩ : Four w.heap.size s (.slice none 0 0) (.int .i64 0) (.int .i64 0) w0).below hb3 (by omega))
  have HB1 := Lib.hid (hb.trans (hb3.mono (by omega)))
  have hw1 : w.heap.size + 4 ≤ w1.heap.size := by have := hb1.size; omega
  have hn1 : w1.heap.size ≠ w.heap.size + 2 := by omega
  have hn2 : w1.heap.size ≠ w.heap.size + 3 := by omega
  have HT1 := Lib.hid (hv1.below (w' := w1.alloc (.cells #[.slice va ts.length vcap] 42)) ((Below.refl _ _).alloc (Nat.le_refl _) _))
  have HTB := Lib.hid hv1.tokB
  have HL1 : Hid ((w1.alloc (.cells #[.slice va ts.length vcap] 42)).heap[w1.heap.size]? = some (.cells #[.slice va ts.length vcap] 42 (0, 0))) := Lib.hid (heap_new _ _ _ rfl)
  clear h0 h1 h2 h3 hb hz hb1 hb3 hv1
  obtain ⟨c0, c1, c2, c3, f1, f2, f3⟩ := HF1.out.cells
  generalize hb : w.heap.size = b at *
  have Hb := Lib.hid hb
  clear hb
  have HF2 := Lib.hid (HF1.out.set (.int .i64 0) (.int .i64 0))
  have HB2 := Lib.hid (HB1.out.trans (set_below _ (.int .i64 0) (.int .i64 0)))
  have HT2 := Lib.hid (toks_set HT1.out HF1.out (.int .i64 0) (.int .i64 0))
  have HL2 := Lib.hid (far_set (b := b) HL1.out hw1 (.int .i64 0) (.int .i64 0))
  have Hz2 : Hid (w1.heap.size + 1 = (((w1.alloc (.cells #[.slice va ts.length vcap] 42)).setCell ⟨b + 2, 0, none⟩ (.int .i64 0)).setCell ⟨b + 3, 0, none⟩ (.int .i64 0)).heap.size) := Lib.hid (by simp)
  go_wp2_with fail
  generalize (((w1.alloc (.cells #[.slice va ts.length vcap] 42)).setCell ⟨b + 2, 0, none⟩ (.int .i64 0)).setCell ⟨b + 3, 0, none⟩ (.int .i64 0)) = w2 at HF2 HB2 HT2 HL2 Hz2 ⊢
  generalize w1.heap.size = L at *
  obtain ⟨M, hM⟩ : ∃ M, M = L + 1 := ⟨_, rfl⟩
  rw [← hM] at Hz2 ⊢
  have hbL : b + 3 < L := by omega
  have hLM : L < M := by omega
  have HB : Hid (TokB M (.slice va ts.length vcap) ts) := Lib.hid (HTB.out.imp id fun ⟨q, o, n, c, e, hq⟩ => ⟨q, o, n, c, e, by omega⟩)
  have hbm : Below w2.heap.size w2 (w2.alloc (.map #[] 0)) := (Below.refl _ _).alloc (Nat.le_refl _) _
  have hS0 : MSt w b L M s (.slice va ts.length vcap) ts 0 (w2.alloc (.map #[] 0)) := ⟨HB2.out.alloc (by have := Hz2.out; omega) _, HF2.out.below hbm (by have := Hz2.out; omega), heap_at HL2.out hbm (by have := Hz2.out; omega), HT2.out.below hbm, by have := mapN_0 w2; rw [← Hz2.out] at this; exact this⟩
  have HS0 := Lib.hid hS0
  clear hS0 hbm HF2 HB2 HT2 HL2 HTB HT1 HL1 HB1 HF1 c0 c1 c2 c3 f1 f2 f3 hn1 hn2
  with_reducible refine (variables_b _).mono ?_
  rintro e w3 ⟨v3, rfl, hv3, hb3⟩
  have HS := Lib.hid (HS0.out.grow hbL hLM HB.out hb3)
  have hMn : M < (w2.alloc (.map #[] 0)).heap.size := by have := Hz2.out; simp; omega
  have HW := Lib.hid hv3
  obtain ⟨g, rfl, _⟩ := hv3
  clear HS0 hb3
  rw [vars_len]
  have HME := Lib.hid hM
  clear hM
  go_wp2_with fail
  go_loopw [26] (fun iv wr => ∃ j : Nat, iv = .int .i64 j ∧ j ≤ 5 ∧ Hid (MSt w b L M s (.slice va ts.length vcap) ts j wr) ∧ Hid (w3.grownBy wr (some M))) (fun iv _ => 5 - (intOf iv).toNat)
  case atStart => exact ⟨0, rfl, by omega, HS, Lib.hid (grown_refl _)⟩
  case round =>
    obtain ⟨j, rfl, hj, HSr, HGr⟩ := hrel
    clear HS
    by_cases hlt : j < 5
    · have Hcell := Lib.hid (str_at HW.out HGr.out hMn (show j < varsW.length from hlt))
      have Hsz := Lib.hid (small_str (word_small (ws := varsW) (by decide) (show j < varsW.length from hlt)))
      have Hall := Lib.hid (allWords_var hlt)
      generalize (varsW[j]'hlt) = wd at Hcell Hsz Hall
      have HMn := Lib.hid HSr.out.map
      have Hwf := Lib.hid (wf_small (n := (j : Int)) (by omega) (by omega))
      have HLT : Hid (j < maxLen) := Lib.hid (by unfold maxLen; omega)
      have c9 := Hcell.out
      have hj2 : (j : Int) < 5 := by omega
      skip
      go_wp2_with (at_mapUpdate; refine wpList_mapUpdate_own _ rfl _ _ _ 45 rfl 9 3 keys9 Tryz.underlying45 (plainElem Tryz.prog 3) M j (wordsD (allWords.take (j)) (.map [])) rfl HMn.out HLT.out (.string ⟨wd.toArray⟩) (.int .i64 (j : Int)) (.string wd) rfl rfl (by have := keyOf_string_mk (s := ⟨wd.toArray⟩) Tryz.underlying9 (Hsz.out); simpa using this) (.lit (.int .i64 (j : Int))) [] (plainElem_int Tryz.underlying3 Hwf.out) ?_; intro w5 hmap hg5; have HM5 := Lib.hid hmap; have HG5 := Lib.hid hg5; clear hmap hg5)
      have HS5 := Lib.hid (HSr.out.next hbL hLM HB.out (MapN.put (j := j) Hall.out HM5.out) HG5.out)
      have HG6 := Lib.hid (HGr.out.trans HG5.out)
      clear HSr HGr HM5 HG5 c9 Hcell HMn
      go_wp2
      exact ⟨⟨j + 1, by go_num, by omega, HS5, HG6⟩, by simp [intOf]; omega⟩
    · have hj5 : j = 5 := by omega
      subst hj5

      go_wp2_with fail
      have HS0 := HSr
      clear HSr HGr HW hMn
      with_reducible refine (comparisons_b _).mono ?_
      rintro e w5 ⟨v5, rfl, hv5, hb5⟩
      have HS := Lib.hid (HS0.out.grow hbL hLM HB.out hb5)
      have hMn := World.ownsMap.lt HS0.out.map
      have HW := Lib.hid hv5
      obtain ⟨g5, rfl, _⟩ := hv5
      clear HS0 hb5
      rw [ops_len]
      go_wp2_with fail
      go_loopw [37] (fun iv wr => ∃ j : Nat, iv = .int .i64 j ∧ j ≤ 5 ∧ Hid (MSt w b L M s (.slice va ts.length vcap) ts (5 + j) wr) ∧ Hid (w5.grownBy wr (some M))) (fun iv _ => 5 - (intOf iv).toNat)
      case atStart => exact ⟨0, rfl, by omega, HS, Lib.hid (grown_refl _)⟩
      case round =>
        obtain ⟨j, rfl, hj, HSr, HGr⟩ := hrel
        clear HS
        by_cases hlt : j < 5
        · have Hcell := Lib.hid (str_at HW.out HGr.out hMn (show j < opsW.length from hlt))
          have Hsz := Lib.hid (small_str (word_small (ws := opsW) (by decide) (show j < opsW.length from hlt)))
          have Hall := Lib.hid (allWords_op hlt)
          generalize (opsW[j]'hlt) = wd at Hcell Hsz Hall
          have HMn := Lib.hid HSr.out.map
          have Hwf := Lib.hid (wf_small (n := ((j : Int) + 1)) (by omega) (by omega))
          have HLT : Hid ((5 + j) < maxLen) := Lib.hid (by unfold maxLen; omega)
          have c9 := Hcell.out
          have hj2 : (j : Int) < 5 := by omega
          have hwr : wrap64 ((j : Int) + 1) = (j : Int) + 1 := IntWalk.wrap64_in _ (by omega)
          go_wp2_with (at_mapUpdate; refine wpList_mapUpdate_own _ rfl _ _ _ 45 rfl 9 3 keys9 Tryz.underlying45 (plainElem Tryz.prog 3) M (5 + j) (wordsD (allWords.take ((5 + j))) (.map [])) rfl HMn.out HLT.out (.string ⟨wd.toArray⟩) (.int .i64 ((j : Int) + 1)) (.string wd) rfl rfl (by have := keyOf_string_mk (s := ⟨wd.toArray⟩) Tryz.underlying9 (Hsz.out); simpa using this) (.lit (.int .i64 ((j : Int) + 1))) [] (plainElem_int Tryz.underlying3 Hwf.out) ?_; intro w5 hmap hg5; have HM5 := Lib.hid hmap; have HG5 := Lib.hid hg5; clear hmap hg5)
          have HS5 := Lib.hid (HSr.out.next hbL hLM HB.out (MapN.put (j := (5 + j)) Hall.out HM5.out) HG5.out)
          have HG6 := Lib.hid (HGr.out.trans HG5.out)
          clear HSr HGr HM5 HG5 c9 Hcell HMn
          go_wp2
          exact ⟨⟨j + 1, by go_num, by omega, HS5, HG6⟩, by simp [intOf]; omega⟩
        · have hj5 : j = 5 := by omega
          subst hj5

          have cL : wr.cell? ⟨L, 0, none⟩ = some (.slice va ts.length vcap) := by have := HSr.out.toks; simp [World.cell?, this]
          have HP0 := Lib.hid (HSr.out.lines hbL hLM HB.out)
          have hMP := World.ownsMap.lt HSr.out.map
          clear HSr HGr HW hMn
          go_wp2_with fail
          generalize (wr.alloc (.cells #[.slice va ts.length vcap, .int .i64 0] 50)) = w6 at HP0 ⊢
          clear cL
          generalize wr.heap.size = P at HP0 hMP ⊢
          go_loopw [57] (fun _ wz => ∃ k ls la lc, Hid (PSt w b L M P s (.slice va ts.length vcap) ts k ls (.slice la ls.length lc) wz) ∧ k ≤ ts.length ∧ ls.length ≤ 64 ∧ Hid (linesThen (64 - ls.length) ls (ts.drop k) = pLines 64 ts)) (fun _ wz => ts.length - spotOf P wz)
          case atStart => exact ⟨0, [], none, 0, HP0, by omega, by decide, Lib.hid (linesThen_start _)⟩
          case round =>
            obtain ⟨k, ls, la, lc, HP, hk, hl64, HQ⟩ := hrel
            clear HP0
            obtain ⟨x1, x2, x3, xL, y1, y2, y3⟩ := HP.out.cells
            obtain ⟨p0, p1, pf, pl⟩ := HP.out.par.cells
            have Hsp := Lib.hid (spotOf_is HP.out.par)
            by_cases hkt : k < ts.length
            · have hlt : decide (k < ts.length) = true := by simpa using hkt
              by_cases hfull : ls.length < 64
              · obtain ⟨n, hn⟩ : ∃ n, 64 - ls.length = n + 1 := ⟨63 - ls.length, by omega⟩
                rw [hn] at HQ
                have hfull2 : decide ((ls.length : Int) < 64) = true := by simp; omega
                go_wp2_with fail
                go_quiet (fail)
                have HPd := Lib.hid (HP.out.grow hbL hLM hMP (below_drewN (Below.refl _ _) nq))
                clear x1 x2 x3 xL y1 y2 y3 p0 p1 pf pl HP
                generalize wr.drewN nq = wd at HPd ⊢
                obtain ⟨x1, x2, x3, xL, y1, y2, y3⟩ := HPd.out.cells
                obtain ⟨p0, p1, pf, pl⟩ := HPd.out.par.cells
                go_wp2_with fail
                with_reducible refine (demand_yes P _).mono ?_
                rintro e w7 ⟨rfl, rfl⟩
                go_wp2_with fail
                refine more_region _ w _ _ b L M P s _ ts k ls la lc _ (by kernel_rfl) rfl rfl rfl (by simp) hbL hLM hMP hk HV.out hl64 HPd.out ?_ ?_
                · intro k2 hk2 hpl a w8 hd hfr hD
                  obtain ⟨tm, df⟩ := a
                  obtain rfl : df = doorD b L := hd
                  exact parse_door hD hbL Hb.out HL65.out hk2 HR.out (HQ.out.symm.trans (linesThen_err hkt hpl)) tm ((hfr 2 (by omega)).trans rfl) ((hfr 3 (by omega)).trans rfl) ((hfr 4 (by omega)).trans rfl)
                · intro x k2 hkk hk2 hpl af w9 ad c hsz hdf hfr hP9
                  rw [rebuild (a := af) [64, 65, 66, 67, 68, 69, 70, 71] (by exact hsz) hdf (fun k hk => hfr k (by simp at hk; omega))]
                  simp only [List.foldl_cons, List.foldl_nil]
                  have hll : (ls ++ [x]).length = ls.length + 1 := by simp
                  have HQ2 := Lib.hid ((linesThen_ok hkt hpl).symm.trans HQ.out)
                  have Hn2 : Hid (n = 64 - (ls ++ [x]).length) := Lib.hid (by omega)
                  rw [Hn2.out, hll] at HQ2
                  rw [← hll] at hP9
                  have HP9 := Lib.hid hP9
                  have Hsp2 := Lib.hid (spotOf_is hP9.par)
                  clear hP9 hfr hdf hsz
                  generalize af.tmps.getD 64 undef = x64
                  generalize af.tmps.getD 65 undef = x65
                  generalize af.tmps.getD 66 undef = x66
                  generalize af.tmps.getD 67 undef = x67
                  generalize af.tmps.getD 68 undef = x68
                  generalize af.tmps.getD 69 undef = x69
                  generalize af.tmps.getD 70 undef = x70
                  generalize af.tmps.getD 71 undef = x71
                  clear af
                  simp only [List.setIfInBounds_toArray, List.set_cons_zero, List.set_cons_succ]
                  go_wp2
                  exact ⟨⟨k2, ls ++ [x], ad, c, HP9, hk2, by omega, by rw [hll]; exact HQ2⟩, by rw [Hsp2.out, Hsp.out]; omega⟩
              · have hl : ls.length = 64 := by omega
                have hfull2 : decide ((ls.length : Int) < 64) = false := by simp; omega
                go_wp2_with fail
                go_quiet (fail)
                have HPd := Lib.hid (HP.out.grow hbL hLM hMP (below_drewN (Below.refl _ _) nq))
                clear x1 x2 x3 xL y1 y2 y3 p0 p1 pf pl HP
                generalize wr.drewN nq = wd at HPd ⊢
                obtain ⟨x1, x2, x3, xL, y1, y2, y3⟩ := HPd.out.cells
                obtain ⟨p0, p1, pf, pl⟩ := HPd.out.par.cells
                go_wp2_with fail
                with_reducible refine (demand_no P _ k _ HPd.out.par).mono ?_
                rintro e w7 ⟨rfl, rfl⟩
                have hQ := HQ.out
                rw [hl] at hQ
                exact parse_door (HPd.out.door hbL hLM hMP (grown_refl _)) hbL Hb.out HL65.out hk HR.out (hQ.symm.trans (linesThen_full hkt)) _ rfl rfl rfl
            · have hlt : decide (k < ts.length) = false := by simpa using hkt
              go_wp2_with fail
              go_quiet (fail)
              have HPd := Lib.hid (HP.out.grow hbL hLM hMP (below_drewN (Below.refl _ _) nq))
              clear x1 x2 x3 xL y1 y2 y3 p0 p1 pf pl HP
              generalize wr.drewN nq = wd at HPd ⊢
              obtain ⟨x1, x2, x3, xL, y1, y2, y3⟩ := HPd.out.cells
              have hpl := (linesThen_done hkt).symm.trans HQ.out
              have HR2 := Lib.hid (HR.out.symm.trans (show endR ts s.size (pLines 64 ts) = (ls, 0, 0) by rw [← hpl]; rfl))
              have HF := Lib.hid (((⟨HPd.out.src, HPd.out.code, HPd.out.at_, HPd.out.err⟩ : Four b s _ _ _ wd).code1 (.slice la ls.length lc)).set (.int .i64 0) (.int .i64 0))
              have HBe := Lib.hid ((HPd.out.below.setCell (p := ⟨b + 1, 0, none⟩) (by show b ≤ b + 1; omega) (.slice la ls.length lc)).trans (set_below _ (.int .i64 0) (.int .i64 0)))
              have HO := Lib.hid (((HPd.out.own.kept (grown_set wd (b + 1) 0 (.slice la ls.length lc)) (fun q e => by simp at e; omega)).kept (grown_set _ (b + 2) 0 (.int .i64 0)) (fun q e => by simp at e; omega)).kept (grown_set _ (b + 3) 0 (.int .i64 0)) (fun q e => by simp at e; omega))
              have HI := Lib.hid (HO.out.isLns (by omega) (fun x hx => by have := (okLn_parts ((HPB.out ls hpl.symm).2 x hx)).1; omega))
              clear hpl
              go_wp2
              obtain ⟨e0, e1, e2, e3, _⟩ := HF.out.cells
              generalize (((wd.setCell ⟨b + 1, 0, none⟩ (.slice la ls.length lc)).setCell ⟨b + 2, 0, none⟩ (.int .i64 0)).setCell ⟨b + 3, 0, none⟩ (.int .i64 0)) = we at HF HBe HO HI e0 e1 e2 e3 ⊢
              refine leaves_cons (f := 14) (args := #[.pointer (some ⟨b, 0, none⟩), .pointer (some ⟨b + 1, 0, none⟩), .pointer (some ⟨b + 2, 0, none⟩), .pointer (some ⟨b + 3, 0, none⟩), .pointer (some ⟨L, 0, none⟩)]) (by simp) (by simp [go_sem]) ?_
              refine (wrong_idle _ _ _ _ _ _).mono ?_
              rintro e u' w'' ⟨rfl, rfl, rfl⟩
              have hend : ParseEnd w r (.returned (.tuple #[.agg #[.slice la ls.length lc], .int .i64 0, .int .i64 0])) w'' := by
                rw [HR2.out]
                exact ⟨by rw [Hb.out]; exact HBe.out, _, rfl, HI.out⟩
              have Hend := Lib.hid hend
              clear hend
              simp [Leaves, settle, results, Tryz.results5, go_sem, e1, e2, e3]
              exact Hend.out

end Go.Proofs.YtlaifodlnolndaaGreatDoor

/- Parse, whole. -/
namespace Go.Proofs.YtlaifodlnolndaaGreatDoor
open Go.RowKit

theorem parse_any (s : ByteArray) (w : World) (hs : s.size ≤ 65536) (hG : Globals w) : Calls Tryz.prog 5 #[.string s] w (ParseEnd w (parseR s.data.toList)) := by
  cases h : scan s.data.toList 0 with
  | error k =>
    have e : parseR s.data.toList = ([], (k : Int), 30) := by unfold parseR; rw [h]
    rw [e]
    exact parse_err s k h w hs hG
  | ok ts => exact parse_ok s ts h w hs hG

end Go.Proofs.YtlaifodlnolndaaGreatDoor

/- The examples with which each statement begins: what they answer. -/
namespace Go.Proofs.YtlaifodlnolndaaGreatDoor
open Go.RowKit

def wantL : List Ln := [⟨[⟨0, 5, 9⟩, ⟨3, 3, 0⟩], 3⟩, ⟨[], 1⟩]
def badL : List Ln := [⟨[⟨5, 3, 0⟩], 0⟩]
def src1 : List UInt8 := [119, 104, 101, 110, 32, 108, 101, 118, 101, 108, 32, 97, 98, 111, 118, 101, 32, 57, 32, 97, 110, 100, 32, 97, 103, 101, 32, 105, 115, 32, 48, 32, 115, 101, 116, 32, 51, 59, 32, 97, 108, 119, 97, 121, 115, 32, 115, 101, 116, 32, 49, 59]
def src2 : List UInt8 := [119, 104, 101, 110, 32, 108, 101, 118, 101, 108, 32, 97, 98, 111, 118, 101, 32, 57, 32, 115, 101, 116, 32, 51, 59, 32, 97, 108, 119, 97, 121, 115, 32, 115, 101, 116, 59]
def src3 : List UInt8 := [97, 108, 119, 97, 121, 115, 32, 115, 101, 116, 32, 52]
theorem ex1 : parseR src1 = (wantL, 0, 0) := by kernel_rfl
theorem ex2 : parseR src2 = ([], 36, 310) := by kernel_rfl
theorem ex3 : parseR src3 = ([], 12, 310) := by kernel_rfl
theorem ex4 : parseR [36] = ([], 0, 30) := by kernel_rfl
theorem ex5 : sameC wantL wantL = true := by kernel_rfl
theorem ex6 : okE badL = 310 := by kernel_rfl

theorem ex7 : printR wantL = .tuple #[.string ⟨#[119, 104, 101, 110, 32, 108, 101, 118, 101, 108, 32, 97, 98, 111, 118, 101, 32, 57, 32, 97, 110, 100, 32, 97, 103, 101, 32, 105, 115, 32, 48, 32, 115, 101, 116, 32, 51, 32, 59, 10, 97, 108, 119, 97, 121, 115, 32, 115, 101, 116, 32, 49, 32, 59, 10]⟩, .int .i64 0] := by kernel_rfl
theorem ex8 : runR [10, 0, 0, 0, 0] wantL = .tuple #[.int .i64 3, .bool true, .int .i64 0] := by kernel_rfl
theorem ex9 : runR [10, 0, 0, 1, 0] wantL = .tuple #[.int .i64 1, .bool true, .int .i64 0] := by kernel_rfl
theorem ex10 : runR [0, 0, 0, 0, 0] [] = .tuple #[.int .i64 0, .bool false, .int .i64 0] := by kernel_rfl

/- what holds amid a statement: programs that values read as, variables of the type Code -/
structure Keep (w0 : World) (l : List (Value × List Ln)) (c : List (Nat × Obj)) (w : World) : Prop where
  below : Below w0.heap.size w0 w
  glob : Globals w
  lns : ∀ x ∈ l, IsLns w x.1 x.2
  vars : ∀ x ∈ c, w.heap[x.1]? = some x.2
section
variable {w0 w w2 : World} {l : List (Value × List Ln)} {c : List (Nat × Obj)} {v : Value} {ls : List Ln}
theorem Keep.next (h : Keep w0 l c w) (hb : Below w.heap.size w w2) : Keep w0 l c w2 :=
  ⟨h.below.trans (hb.mono h.below.size), h.glob.next hb, fun x hx => (h.lns x hx).below hb, fun x hx => heap_at (h.vars x hx) hb (Array.getElem?_eq_some_iff.1 (h.vars x hx)).1⟩
theorem Keep.add (h : Keep w0 l c w) (hv : IsLns w v ls) : Keep w0 ((v, ls) :: l) c w := ⟨h.below, h.glob, fun x hx => by
  rcases List.mem_cons.1 hx with rfl | hx
  · exact hv
  · exact h.lns x hx, h.vars⟩
theorem Keep.new (h : Keep w0 l c w) (arr : Array Value) (t : TypeId) : Keep w0 l ((w.heap.size, .cells arr t (0, 0)) :: c) (w.alloc (.cells arr t)) := by
  have h2 := h.next ((Below.refl _ _).alloc (Nat.le_refl _) (.cells arr t))
  exact ⟨h2.below, h2.glob, h2.lns, fun x hx => by
    rcases List.mem_cons.1 hx with rfl | hx
    · exact heap_new _ _ _ rfl
    · exact h2.vars x hx⟩
theorem Keep.var (h : Keep w0 l c w) (v : Value) : Keep w0 l ((w.heap.size, .cells #[v] 25 (0, 0)) :: c) (w.alloc (.cells #[v] 25)) := h.new _ _
theorem Keep.cell (h : Keep w0 l c w) {b : Nat} (hx : (b, .cells #[v] 25 (0, 0)) ∈ c) : w.cell? ⟨b, 0, none⟩ = some v := by
  have := h.vars _ hx
  simp [World.cell?, this]
theorem Keep.five (h : Keep w0 l c w) {b : Nat} {x0 x1 x2 x3 x4 : Value} {t : TypeId} (hx : (b, .cells #[x0, x1, x2, x3, x4] t (0, 0)) ∈ c) : w.cell? ⟨b, 0, none⟩ = some x0 ∧ w.cell? ⟨b, 1, none⟩ = some x1 ∧ w.cell? ⟨b, 2, none⟩ = some x2 ∧ w.cell? ⟨b, 3, none⟩ = some x3 ∧ w.cell? ⟨b, 4, none⟩ = some x4 := by
  have := h.vars _ hx
  refine ⟨?_, ?_, ?_, ?_, ?_⟩ <;> simp [World.cell?, this]
end
theorem IsLns.form {w : World} {v : Value} {ls : List Ln} (h : IsLns w v ls) : ∃ a c, v = .slice a ls.length c := by
  obtain ⟨_, a, c, rfl, _⟩ := h
  exact ⟨a, c, rfl⟩
theorem parse_is (s : List UInt8) (r : List Ln × Int × Int) (n : Nat) (hr : parseR s = r) (hn : r.1.length = n) (hs : s.length ≤ 65536) (w : World) (hG : Globals w) :
    Calls Tryz.prog 5 #[.string ⟨s.toArray⟩] w fun e w' => ∃ a c, e = .returned (.tuple #[.agg #[.slice a n c], .int .i64 r.2.1, .int .i64 r.2.2]) ∧ IsLns w' (.slice a n c) r.1 ∧ Below w.heap.size w w' := by
  have e : (⟨s.toArray⟩ : ByteArray).size = s.length := by simp [ByteArray.size]
  refine (parse_any ⟨s.toArray⟩ w (by omega) hG).mono fun e w' hh => ?_
  subst hn
  have hr2 : parseR (⟨s.toArray⟩ : ByteArray).data.toList = r := hr
  rw [hr2] at hh
  obtain ⟨hb, v, he, hv⟩ := hh
  obtain ⟨a, c, rfl⟩ := hv.form
  exact ⟨a, c, he, hv, hb⟩
/- programs in blocks laid just now -/
theorem want_at {w : World} {b b2 : Nat} (h1 : w.heap[b]? = some (.cells #[.int .i64 0, .int .i64 5, .int .i64 9, .int .i64 3, .int .i64 3, .int .i64 0] 32 (0, 0))) (h2 : w.heap[b2]? = some (.cells #[.slice (some ⟨b, 0, none⟩) 2 2, .int .i64 3, .slice none 0 0, .int .i64 1] 35 (0, 0))) :
    IsLns w (.slice (some ⟨b2, 0, none⟩) 2 2) wantL := by
  have l1 := (Array.getElem?_eq_some_iff.1 h1).1
  have l2 := (Array.getElem?_eq_some_iff.1 h2).1
  refine ⟨by decide, some ⟨b2, 0, none⟩, 2, rfl, fun i hi => ⟨b2, 0, rfl, l2, ?_⟩⟩
  match i, hi with
  | 0, _ =>
    refine ⟨.slice (some ⟨b, 0, none⟩) 2 2, by simp [World.cell?, h2], ⟨by simp [wantL], some ⟨b, 0, none⟩, 2, rfl, fun j hj => ⟨b, 0, rfl, l1, ?_⟩⟩, by simp [World.cell?, h2, wantL]⟩
    match j, hj with
    | 0, _ => exact ⟨by simp [World.cell?, h1, wantL], by simp [World.cell?, h1, wantL], by simp [World.cell?, h1, wantL]⟩
    | 1, _ => exact ⟨by simp [World.cell?, h1, wantL], by simp [World.cell?, h1, wantL], by simp [World.cell?, h1, wantL]⟩
  | 1, _ => exact ⟨.slice none 0 0, by simp [World.cell?, h2], ⟨by simp [wantL], none, 0, rfl, fun j hj => absurd hj (by simp [wantL])⟩, by simp [World.cell?, h2, wantL]⟩
theorem bad_at {w : World} {b b2 : Nat} (h1 : w.heap[b]? = some (.cells #[.int .i64 5, .int .i64 3, .int .i64 0] 32 (0, 0))) (h2 : w.heap[b2]? = some (.cells #[.slice (some ⟨b, 0, none⟩) 1 1, .int .i64 0] 35 (0, 0))) :
    IsLns w (.slice (some ⟨b2, 0, none⟩) 1 1) badL := by
  have l1 := (Array.getElem?_eq_some_iff.1 h1).1
  have l2 := (Array.getElem?_eq_some_iff.1 h2).1
  refine ⟨by decide, some ⟨b2, 0, none⟩, 1, rfl, fun i hi => ⟨b2, 0, rfl, l2, ?_⟩⟩
  match i, hi with
  | 0, _ =>
    refine ⟨.slice (some ⟨b, 0, none⟩) 1 1, by simp [World.cell?, h2], ⟨by simp [badL], some ⟨b, 0, none⟩, 1, rfl, fun j hj => ⟨b, 0, rfl, l1, ?_⟩⟩, by simp [World.cell?, h2, badL]⟩
    match j, hj with
    | 0, _ => exact ⟨by simp [World.cell?, h1, badL], by simp [World.cell?, h1, badL], by simp [World.cell?, h1, badL]⟩

set_option maxRecDepth 100000 in
set_option maxHeartbeats 8000000 in
theorem sane_any (w : World) (hG : Globals w) : Calls Tryz.prog 4 #[] w fun e w' => e = .returned (.bool true) ∧ Below w.heap.size w w' := by
  have HK := Lib.hid (⟨Below.refl _ _, hG, fun _ h => by simp at h, fun _ h => by simp at h⟩ : Keep w [] [] w)
  clear hG
  go_enter Tryz.func4, Tryz.ntmps4
  go_wp2_with fail
  refine (parse_is src1 _ 2 ex1 rfl (by decide) w HK.out.glob).mono ?_
  rintro e w1 ⟨a1, n1, rfl, hv1, hb1⟩
  have HK1 := Lib.hid (((HK.out.next hb1).add hv1).var (.slice a1 2 n1))
  clear hv1 hb1 HK
  go_wp2_with fail
  refine (parse_is src2 _ 0 ex2 rfl (by decide) _ HK1.out.glob).mono ?_
  rintro e w2 ⟨a2, n2, rfl, hv2, hb2⟩
  have HK2 := Lib.hid (((HK1.out.next hb2).add hv2).var (.slice a2 0 n2))
  clear hv2 hb2 HK1
  go_wp2_with fail
  refine (parse_is src3 _ 0 ex3 rfl (by decide) _ HK2.out.glob).mono ?_
  rintro e w3 ⟨a3, n3, rfl, hv3, hb3⟩
  have HK3 := Lib.hid (((HK2.out.next hb3).add hv3).var (.slice a3 0 n3))
  clear hv3 hb3 HK2
  go_wp2_with fail
  refine (parse_is [36] _ 0 ex4 rfl (by decide) _ HK3.out.glob).mono ?_
  rintro e w4 ⟨a4, n4, rfl, hv4, hb4⟩
  have HK4 := Lib.hid (((HK3.out.next hb4).add hv4).var (.slice a4 0 n4))
  clear hv4 hb4 HK3
  have HK5 := Lib.hid ((((HK4.out.next ((Below.refl _ _).alloc (Nat.le_refl _) (.cells #[.int .i64 0, .int .i64 5, .int .i64 9, .int .i64 3, .int .i64 3, .int .i64 0] 32))).next ((Below.refl _ _).alloc (Nat.le_refl _) (.cells #[.slice (some ⟨w4.heap.size + 1, 0, none⟩) 2 2, .int .i64 3, .slice none 0 0, .int .i64 1] 35))).var (.slice (some ⟨w4.heap.size + 1 + 1, 0, none⟩) 2 2)).add
    (want_at (b := w4.heap.size + 1) (b2 := w4.heap.size + 1 + 1) (heap_old _ _ _ _ (heap_old _ _ _ _ (heap_new _ _ _ (by simp)))) (heap_old _ _ _ _ (heap_new _ _ _ (by simp)))))
  have x1 := HK5.out.cell (b := w1.heap.size) (v := .slice a1 2 n1) (by simp)
  go_wp2_with fail
  generalize hW : ((((w4.alloc (.cells #[.slice a4 0 n4] 25)).alloc (.cells #[.int .i64 0, .int .i64 5, .int .i64 9, .int .i64 3, .int .i64 3, .int .i64 0] 32)).alloc (.cells #[.slice (some ⟨w4.heap.size + 1, 0, none⟩) 2 2, .int .i64 3, .slice none 0 0, .int .i64 1] 35)).alloc (.cells #[.slice (some ⟨w4.heap.size + 1 + 1, 0, none⟩) 2 2] 25)) = w5 at HK5 x1 ⊢
  clear hW x1
  refine (same_any _ _ wantL wantL w5 (HK5.out.lns (.slice a1 2 n1, wantL) (by simp)) (HK5.out.lns (_, wantL) (List.mem_cons_self))).mono ?_
  rw [ex5]
  rintro e w6 ⟨rfl, hb6⟩
  have HK6 := Lib.hid (HK5.out.next hb6)
  clear hb6 HK5 HK4
  have y1 := HK6.out.cell (b := w4.heap.size + 1 + 1 + 1) (v := .slice (some ⟨w4.heap.size + 1 + 1, 0, none⟩) 2 2) (by simp)
  go_wp2_with fail
  refine (print_any _ wantL w6 (HK6.out.lns (_, wantL) (List.mem_cons_self)) HK6.out.glob).mono ?_
  rw [ex7]
  rintro e w7 ⟨rfl, hb7⟩
  have HK7 := Lib.hid (HK6.out.next hb7)
  clear hb7 HK6 y1
  have y1 := HK7.out.cell (b := w4.heap.size + 1 + 1 + 1) (v := .slice (some ⟨w4.heap.size + 1 + 1, 0, none⟩) 2 2) (by simp)
  go_wp2_with fail
  refine (crun_any _ wantL 10 0 0 0 0 w7 (HK7.out.lns (_, wantL) (List.mem_cons_self))).mono ?_
  rw [ex8]
  rintro e w8 ⟨rfl, hb8⟩
  have HK8 := Lib.hid (HK7.out.next hb8)
  clear hb8 HK7 y1
  have y1 := HK8.out.cell (b := w4.heap.size + 1 + 1 + 1) (v := .slice (some ⟨w4.heap.size + 1 + 1, 0, none⟩) 2 2) (by simp)
  go_wp2_with fail
  refine (crun_any _ wantL 10 0 0 1 0 w8 (HK8.out.lns (_, wantL) (List.mem_cons_self))).mono ?_
  rw [ex9]
  rintro e w9 ⟨rfl, hb9⟩
  have HK9 := Lib.hid (HK8.out.next hb9)
  clear hb9 HK8 y1
  go_wp2_with fail
  refine (crun_any _ [] 0 0 0 0 0 w9 (isLns_nil _)).mono ?_
  rw [ex10]
  rintro e w10 ⟨rfl, hb10⟩
  have HKa := Lib.hid (HK9.out.next hb10)
  clear hb10 HK9
  have HKb := Lib.hid ((((HKa.out.next ((Below.refl _ _).alloc (Nat.le_refl _) (.cells #[.int .i64 5, .int .i64 3, .int .i64 0] 32))).next ((Below.refl _ _).alloc (Nat.le_refl _) (.cells #[.slice (some ⟨w10.heap.size, 0, none⟩) 1 1, .int .i64 0] 35))).var (.slice (some ⟨w10.heap.size + 1, 0, none⟩) 1 1)).add
    (bad_at (b := w10.heap.size) (b2 := w10.heap.size + 1) (heap_old _ _ _ _ (heap_old _ _ _ _ (heap_new _ _ _ rfl))) (heap_old _ _ _ _ (heap_new _ _ _ (by simp)))))
  go_wp2_with fail
  refine (check_any _ badL _ (HKb.out.lns (_, badL) (List.mem_cons_self))).mono ?_
  rw [ex6]
  rintro e w11 ⟨rfl, hb11⟩
  have HKc := Lib.hid (HKb.out.next hb11).below
  clear hb11 HKb HKa
  go_wp2
  go_ret
  exact ⟨rfl, HKc.out⟩

end Go.Proofs.YtlaifodlnolndaaGreatDoor

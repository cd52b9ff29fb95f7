/- PROVED HERE: the walk of 'acequialaw03.LexPlaces': for every string of a size that a machine can hold the law returns true, where the listed variables hold what the row's condition says. -/
import Derived.Test.YtkfbhegniobecaaDoorCb
namespace Go.Proofs.YtkfbhegniobecaaDoor
open Go.RowKit

theorem drop_take_cons (s : ByteArray) {i to : Nat} (hi : i < to) (ht : to ≤ s.size) : (s.data.toList.take to).drop i = (s[i]'(by omega)) :: (s.data.toList.take to).drop (i + 1) := by
  rw [List.drop_eq_getElem_cons (by rw [List.length_take, length_toList]; omega)]
  congr 1
  rw [List.getElem_take]; rfl
theorem head_at (s : ByteArray) {i to : Nat} (ht : to ≤ s.size) (h : ((s.data.toList.take to).drop (i + 1)).head? = some 47) : ∃ h : i + 1 < to, (s[i + 1]'(by omega)).toNat = 47 := by
  by_cases hlt : i + 1 < to
  · rw [drop_take_cons s hlt ht] at h
    simp only [List.head?_cons, Option.some.injEq] at h
    exact ⟨hlt, by rw [h]; rfl⟩
  · rw [List.drop_eq_nil_of_le (by rw [List.length_take]; omega)] at h
    cases h
/- one byte of a gap -/
theorem gap_step {s : ByteArray} {i to : Nat} {c cm : Bool} (hi : i < to) (ht : to ≤ s.size) (h : gapB c ((s.data.toList.take to).drop i) = some cm) :
    ((s[i]'(by omega)).toNat = 10 ∧ spaceB (s[i]'(by omega)) = true ∧ gapB false ((s.data.toList.take to).drop (i + 1)) = some cm) ∨
    ((s[i]'(by omega)).toNat ≠ 10 ∧ c = true ∧ gapB true ((s.data.toList.take to).drop (i + 1)) = some cm) ∨
    ((s[i]'(by omega)).toNat ≠ 10 ∧ c = false ∧ (s[i]'(by omega)).toNat ≠ 47 ∧ spaceB (s[i]'(by omega)) = true ∧ gapB false ((s.data.toList.take to).drop (i + 1)) = some cm) ∨
    ((s[i]'(by omega)).toNat = 47 ∧ c = false ∧ (∃ h : i + 1 < to, (s[i + 1]'(by omega)).toNat = 47) ∧ gapB true ((s.data.toList.take to).drop (i + 1)) = some cm) := by
  rw [drop_take_cons s hi ht, gapB] at h
  have hh := fun e => head_at s (i := i) ht e
  generalize (s.data.toList.take to).drop (i + 1) = r at h hh ⊢
  generalize (s[i]'(by omega)) = x at h ⊢
  by_cases h10 : x = 10
  · subst h10
    left
    refine ⟨rfl, by decide, ?_⟩
    simpa [spaceB] using h
  · have e10 : (x != 10) = true := by simpa using h10
    have hn10 : x.toNat ≠ 10 := fun e => h10 (UInt8.toNat_inj.1 e)
    right
    cases c with
    | true =>
      left
      simp only [e10, Bool.true_and, Bool.true_or, Bool.not_true, Bool.false_and, Bool.false_eq_true, if_false] at h
      exact ⟨hn10, rfl, h⟩
    | false =>
      right
      by_cases h47 : x = 47
      · subst h47
        right
        by_cases hd : r.head? = some 47
        · refine ⟨rfl, rfl, hh hd, ?_⟩
          have ed : (r.head? == some 47) = true := by rw [hd]; rfl
          simp only [e10, ed, Bool.true_and, Bool.false_or, Bool.and_true] at h
          simpa using h
        · have ed : (r.head? == some 47) = false := by simpa using hd
          simp only [ed, Bool.and_false, Bool.or_false] at h
          rw [if_pos (by decide)] at h
          cases h
      · left
        have e47 : (x == 47) = false := by simpa using h47
        simp only [e47, Bool.false_and, Bool.or_false, Bool.and_false, Bool.not_false, Bool.true_and] at h
        have hn47 : x.toNat ≠ 47 := fun e => h47 (UInt8.toNat_inj.1 e)
        by_cases hs : spaceB x = true
        · rw [hs] at h
          simp only [Bool.not_true, Bool.false_eq_true, if_false] at h
          exact ⟨hn10, rfl, hn47, hs, h⟩
        · rw [if_pos (by simpa using hs)] at h
          cases h

/- one token at its place -/
theorem places_at {s : ByteArray} {ts : List Tok} {i k : Nat} (hk : k < ts.length) (hi : i ≤ s.size) (h : Places (s.data.toList.drop i) i (ts.drop k)) :
    ∃ to n : Nat, i ≤ to ∧ ts[k].at_ = (to : Int) ∧ to + n ≤ s.size ∧ 0 < n ∧ mk (wordOf ts[k]) = s.extract to (to + n) ∧ gapB false ((s.data.toList.take to).drop i) = some false ∧ validB ts[k] = true ∧
      Places (s.data.toList.drop (to + n)) (to + n) (ts.drop (k + 1)) := by
  rw [List.drop_eq_getElem_cons hk] at h
  obtain ⟨g, rest, hl, hg, ha, hne, hv, _, hr⟩ := h
  have hlen := congrArg List.length hl
  rw [List.length_drop, length_toList, List.length_append, List.length_append] at hlen
  have hw : 0 < (wordOf ts[k]).length := List.length_pos_iff.2 hne
  have htake : (s.data.toList.take (i + g.length)).drop i = g := by
    rw [List.drop_take, hl, Nat.add_sub_cancel_left, List.take_left]
  have hdrop : s.data.toList.drop (i + g.length) = wordOf ts[k] ++ rest := by
    rw [← List.drop_drop, hl, List.drop_left]
  refine ⟨i + g.length, (wordOf ts[k]).length, Nat.le_add_right _ _, ha, by omega, hw, ?_, by rw [htake]; exact hg, hv, ?_⟩
  · symm
    apply mk_eq
    rw [extract_list, List.drop_take, hdrop, Nat.add_sub_cancel_left, List.take_left]
  · rw [← List.drop_drop, hdrop, List.drop_left]; exact hr
theorem spelled_is {t : Tok} (hv : validB t = true) (w : World) :
    Calls Tryd.prog 23 #[.agg #[.int .i64 t.kind, .string t.text, .int .i64 t.n, .int .i64 t.at_]] w fun e w' => e = .returned (.string (mk (wordOf t))) ∧ Below w.heap.size w w' := by
  obtain ⟨kd, tx, n, a⟩ := t
  rcases valid_cases hv with ⟨h1, _⟩ | ⟨h1, _, h3, h4⟩ | ⟨h1, _⟩
  · have : wordOf ⟨kd, tx, n, a⟩ = tx.data.toList := by unfold wordOf; rw [if_neg (by omega)]
    rw [this]
    dsimp only at h1
    exact spelled_text kd tx n a w (by rw [h1]; rfl)
  · dsimp only at h1 h3 h4
    subst h1
    obtain ⟨N, rfl⟩ : ∃ N : Nat, n = N := ⟨n.toNat, by omega⟩
    have : wordOf ⟨2, tx, (N : Int), a⟩ = Lib.decDigits N := by unfold wordOf; rw [if_pos rfl]; simp
    rw [this]
    exact spelled_number tx N a w (by omega)
  · have : wordOf ⟨kd, tx, n, a⟩ = tx.data.toList := by unfold wordOf; rw [if_neg (by omega)]
    rw [this]
    dsimp only at h1
    exact spelled_text kd tx n a w (by rw [h1]; rfl)
theorem IsToks.row {w : World} {a : Option Addr} {n c k : Nat} {ts : List Tok} (h : IsToks w (.slice a n c) ts) (hk : k < ts.length) :
    ∃ b o, a = some ⟨b, o, none⟩ ∧ w.cell? ⟨b, o + k * 4, none⟩ = some (.int .i64 ts[k].kind) ∧ w.cell? ⟨b, o + k * 4 + 1, none⟩ = some (.string ts[k].text) ∧ w.cell? ⟨b, o + k * 4 + 2, none⟩ = some (.int .i64 ts[k].n) ∧ w.cell? ⟨b, o + k * 4 + 3, none⟩ = some (.int .i64 ts[k].at_) := by
  obtain ⟨_, _, ⟨h, _⟩ | ⟨b', o', c', he, _, hr⟩⟩ := h
  · rw [h] at hk; simp at hk
  · simp only [Value.slice.injEq] at he
    obtain ⟨rfl, _, _⟩ := he
    exact ⟨b', o', rfl, hr k hk⟩

set_option maxRecDepth 100000 in
set_option maxHeartbeats 8000000 in
theorem lexPlaces_any (s : ByteArray) (w : World) (hs : s.size ≤ 140737488355328) (hG : Globals w) :
    Calls Tryd.prog 6 #[.string s] w fun e w' => e = .returned (.bool true) ∧ Below w.heap.size w w' := by
  have Hs := Lib.hid (sane_any w hG)
  have H0 := Lib.hid (Amid.start hG [] (fun x hx => by simp at hx))
  clear hG
  by_cases h3 : (s.size : Int) > 3000
  · go_enter Tryd.func6, Tryd.ntmps6
    go_wp2_with fail
    refine Hs.out.mono ?_
    rintro e w1 ⟨rfl, hb⟩
    have HB := Lib.hid hb
    clear hb
    go_wp2_with fail
    go_ret
    exact ⟨rfl, HB.out⟩
  · have h3' : s.size ≤ 3000 := by omega
    have h65 : s.size ≤ 65536 := by omega
    cases hr : scan s.data.toList 0 with
    | error k =>
      have Hl := Lib.hid (fun W hg => lex_err s k hr W h65 hg)
      clear hr
      go_enter Tryd.func6, Tryd.ntmps6
      go_wp2_with fail
      refine Hs.out.mono ?_
      rintro e w1 ⟨rfl, hb⟩
      have H1 := Lib.hid (H0.out.next hb)
      clear hb
      go_wp2_with fail
      refine (Hl.out _ H1.out.g).mono ?_
      rintro e w2 ⟨rfl, hb⟩
      have H2 := Lib.hid (H1.out.next hb)
      clear hb
      go_wp2_with fail
      go_ret
      exact ⟨rfl, H2.out.2⟩
    | ok ts =>
      have Hl := Lib.hid (fun W hg => lex_ok s ts hr W h65 hg)
      have hp := scan_places _ _ _ hr
      obtain ⟨_, _, _, hn3⟩ := places_valid hp
      rw [length_toList] at hn3
      have HP := Lib.hid hp
      clear hr hp
      go_enter Tryd.func6, Tryd.ntmps6
      go_wp2_with fail
      refine Hs.out.mono ?_
      rintro e w1 ⟨rfl, hb⟩
      have H1 := Lib.hid (H0.out.next hb)
      clear hb
      go_wp2_with fail
      refine (Hl.out _ H1.out.g).mono ?_
      rintro e w2 ⟨v2, rfl, hv, hb⟩
      have H2 := Lib.hid ((H1.out.next hb).add hv)
      obtain ⟨a, cap, rfl⟩ := hv.size
      clear hb hv
      generalize hN : ts.length = N at hn3 H2
      have HN := Lib.hid hN
      clear hN Hl H1
      go_wp2_with fail
      go_loopw [6, 7] (fun iv kv wr => ∃ i k : Nat, iv = .int .i64 i ∧ kv = .int .i64 k ∧ i ≤ s.size ∧ k ≤ N ∧ Hid (Places (s.data.toList.drop i) i (ts.drop k)) ∧ Hid (Amid w wr [(.slice a N cap, ts)])) (fun _ kv _ => N + 1 - (intOf kv).toNat)
      case atStart => exact ⟨0, 0, rfl, rfl, Nat.zero_le _, Nat.zero_le _, HP, H2⟩
      case round =>
        obtain ⟨i, k, rfl, rfl, hi, hk, HPl, HA⟩ := hrel
        by_cases hlt : k < N
        · have hx : k < ts.length := by rw [HN.out]; exact hlt
          obtain ⟨to, n, hito, hat, hton, hn, hword, hgap, hval, hnext⟩ := places_at hx hi HPl.out
          obtain ⟨b, o, rfl, c0, c1, c2, c3⟩ := (HA.out.1.2 _ (List.mem_singleton.2 rfl)).row hx
          have Hsp := Lib.hid (fun W => spelled_is hval W)
          rw [hword] at Hsp
          have Hgap := Lib.hid hgap
          have Hnext := Lib.hid hnext
          have hsl := slice_is s to (to + n) ((to : Int) + n) (by omega) (by omega) hton
          have hysz : (s.extract to (to + n)).size = n := by simp; omega
          generalize ts[k] = t at c0 c1 c2 c3 hat Hsp
          obtain ⟨kd, tx, nn, aa⟩ := t
          dsimp only at c0 c1 c2 c3 hat Hsp
          subst hat
          generalize s.extract to (to + n) = y at hsl hysz Hsp
          have hss := str_beq y
          have hsn : (y.toList != y.toList) = false := by simp
          clear hval hword hgap hnext HPl
          have d1 : decide (to < i) = false := by simp; omega
          have d2 : decide (s.size < to) = false := by simp; omega
          have d3 : ((n : Int) == 0) = false := by simp; omega
          have d4 : decide ((s.size : Int) < (to : Int) + (n : Int)) = false := by simp; omega
          go_wp2_with fail
          go_loop [6, 9] (fun jv cv => ∃ (j : Nat) (c : Bool), jv = .int .i64 j ∧ cv = .bool c ∧ i ≤ j ∧ j ≤ to ∧ Hid (gapB c ((s.data.toList.take to).drop j) = some false)) (fun jv _ => to - (intOf jv).toNat)
          case atStart => exact ⟨i, false, rfl, rfl, Nat.le_refl _, hito, Hgap⟩
          case round =>
            obtain ⟨j, c, rfl, rfl, hj1, hj2, HG⟩ := hrel
            by_cases hjt : j < to
            · rcases gap_step hjt (by omega) HG.out with ⟨e1, e2, e3⟩ | ⟨e1, e2, e3⟩ | ⟨e1, e2, e4, e5, e3⟩ | ⟨e1, e2, ⟨e4, e5⟩, e3⟩
              · have HG' := Lib.hid e3
                have Hspc := Lib.hid e2
                have b1 : ((s[j].toNat : Int) != 10) = false := by simp [e1]
                clear e1 e2 e3 HG
                go_wp2_with (first | (go_at_call 22; refine (space_is _ _ Hspc.out _).mono ?_; rintro e w' ⟨rfl, rfl⟩))
                exact ⟨⟨j + 1, false, by go_num, rfl, by omega, by omega, HG'⟩, by simp [intOf]; omega⟩
              · subst e2
                have HG' := Lib.hid e3
                have b1 : ((s[j].toNat : Int) != 10) = true := by rw [bne_iff_ne]; omega
                clear e1 e3 HG
                go_wp2
                exact ⟨⟨j + 1, true, by go_num, rfl, by omega, by omega, HG'⟩, by simp [intOf]; omega⟩
              · subst e2
                have HG' := Lib.hid e3
                have Hspc := Lib.hid e5
                have b1 : ((s[j].toNat : Int) != 10) = true := by rw [bne_iff_ne]; omega
                have b2 : ((s[j].toNat : Int) == 47) = false := by rw [beq_eq_false_iff_ne]; omega
                clear e1 e3 e4 e5 HG
                go_wp2_with (first | (go_at_call 22; refine (space_is _ _ Hspc.out _).mono ?_; rintro e w' ⟨rfl, rfl⟩))
                exact ⟨⟨j + 1, false, by go_num, rfl, by omega, by omega, HG'⟩, by simp [intOf]; omega⟩
              · subst e2
                have HG' := Lib.hid e3
                have b1 : ((s[j].toNat : Int) != 10) = true := by rw [bne_iff_ne]; omega
                have b2 : ((s[j].toNat : Int) == 47) = true := by simp [e1]
                have b3 : ((s[j + 1].toNat : Int) == 47) = true := by simp [e5]
                clear e1 e3 e5 HG
                go_wp2
                exact ⟨⟨j + 1, true, by go_num, rfl, by omega, by omega, HG'⟩, by simp [intOf]; omega⟩
            · have hje : j = to := by omega
              subst hje
              have hc := HG.out
              rw [List.drop_eq_nil_of_le (by rw [List.length_take]; omega)] at hc
              simp only [gapB, Option.some.injEq] at hc
              subst hc
              clear HG
              go_wp2_with (first | (go_at_call 23; refine (Hsp.out _).mono ?_; rintro e w3 ⟨rfl, hb3⟩))
              exact ⟨⟨j + n, k + 1, by go_num, by go_num, by omega, by omega, Hnext, Lib.hid (HA.out.next hb3)⟩, by simp [intOf]; omega⟩
        · have hke : k = N := by omega
          subst hke
          have hgap := HPl.out
          rw [List.drop_eq_nil_of_le (show ts.length ≤ k by rw [HN.out]; exact Nat.le_refl _)] at hgap
          obtain ⟨cm, hcm⟩ := hgap
          rw [← List.take_of_length_le (l := s.data.toList) (i := s.size) (by rw [length_toList]; exact Nat.le_refl _)] at hcm
          have Hgap := Lib.hid hcm
          clear hcm HPl
          have d1 : decide (s.size < i) = false := by simp; omega
          go_wp2_with fail
          go_loop [6, 9] (fun jv cv => ∃ (j : Nat) (c : Bool), jv = .int .i64 j ∧ cv = .bool c ∧ i ≤ j ∧ j ≤ s.size ∧ Hid (gapB c ((s.data.toList.take s.size).drop j) = some cm)) (fun jv _ => s.size - (intOf jv).toNat)
          case atStart => exact ⟨i, false, rfl, rfl, Nat.le_refl _, hi, Hgap⟩
          case round =>
            obtain ⟨j, c, rfl, rfl, hj1, hj2, HG⟩ := hrel
            by_cases hjt : j < s.size
            · rcases gap_step hjt (Nat.le_refl _) HG.out with ⟨e1, e2, e3⟩ | ⟨e1, e2, e3⟩ | ⟨e1, e2, e4, e5, e3⟩ | ⟨e1, e2, ⟨e4, e5⟩, e3⟩
              · have HG' := Lib.hid e3
                have Hspc := Lib.hid e2
                have b1 : ((s[j].toNat : Int) != 10) = false := by simp [e1]
                clear e1 e2 e3 HG
                go_wp2_with (first | (go_at_call 22; refine (space_is _ _ Hspc.out _).mono ?_; rintro e w' ⟨rfl, rfl⟩))
                exact ⟨⟨j + 1, false, by go_num, rfl, by omega, by omega, HG'⟩, by simp [intOf]; omega⟩
              · subst e2
                have HG' := Lib.hid e3
                have b1 : ((s[j].toNat : Int) != 10) = true := by rw [bne_iff_ne]; omega
                clear e1 e3 HG
                go_wp2
                exact ⟨⟨j + 1, true, by go_num, rfl, by omega, by omega, HG'⟩, by simp [intOf]; omega⟩
              · subst e2
                have HG' := Lib.hid e3
                have Hspc := Lib.hid e5
                have b1 : ((s[j].toNat : Int) != 10) = true := by rw [bne_iff_ne]; omega
                have b2 : ((s[j].toNat : Int) == 47) = false := by rw [beq_eq_false_iff_ne]; omega
                clear e1 e3 e4 e5 HG
                go_wp2_with (first | (go_at_call 22; refine (space_is _ _ Hspc.out _).mono ?_; rintro e w' ⟨rfl, rfl⟩))
                exact ⟨⟨j + 1, false, by go_num, rfl, by omega, by omega, HG'⟩, by simp [intOf]; omega⟩
              · subst e2
                have HG' := Lib.hid e3
                have b1 : ((s[j].toNat : Int) != 10) = true := by rw [bne_iff_ne]; omega
                have b2 : ((s[j].toNat : Int) == 47) = true := by simp [e1]
                have b3 : ((s[j + 1].toNat : Int) == 47) = true := by simp [e5]
                clear e1 e3 e5 HG
                go_wp2
                exact ⟨⟨j + 1, true, by go_num, rfl, by omega, by omega, HG'⟩, by simp [intOf]; omega⟩
            · clear HG
              go_wp2_with fail
              go_ret
              exact ⟨rfl, HA.out.2⟩

end Go.Proofs.YtkfbhegniobecaaDoor

/- Texts Hsa Hsb Hs in one: each says what it proves. -/
import Derived.Test.YtlaifodlnolndaaDoorMq
/- First, in plain Lean: prefixes of a text, beginnings of programs. -/
namespace Go.Proofs.YtlaifodlnolndaaDoor
open Go.RowKit

/- what stands ahead of a token scans to the tokens ahead of it -/
theorem scan_low : ∀ (l : List UInt8) (i : Nat) (ts : List Tok), scan l i = .ok ts → ∀ t ∈ ts, (i : Int) ≤ t.at_ := fun l i ts h t ht => (places_at (scan_places l i ts h) t ht).1
theorem scan_prefix : ∀ (l : List UInt8) (i : Nat) (ts : List Tok), scan l i = .ok ts → ∀ (k : Nat) (hk : k < ts.length) (j : Nat), ts[k].at_ = ((i + j : Nat) : Int) → scan (l.take j) i = .ok (ts.take k) := by
  intro l
  induction l using len_ind with
  | h l ih =>
    intro i ts h k hk j hj
    cases l with
    | nil => rw [scan_nil] at h; cases h; simp at hk
    | cons c r =>
      rw [scan_stepL] at h
      have hpos := step_pos (c := c) (r := r)
      cases hs : stepL (c :: r) with
      | skip n =>
        rw [hs] at h
        obtain ⟨h0, h1⟩ := hpos.1 n hs
        have hlow := scan_low _ _ _ h _ (List.getElem_mem hk)
        have hnj : n ≤ j := by omega
        have hst := step_take (c := c) (r := r) (j := j) n (.inl hs) hnj
        have hj0 : 0 < j := by omega
        obtain ⟨j', rfl⟩ : ∃ j', j = j' + 1 := ⟨j - 1, by omega⟩
        rw [List.take_succ_cons] at hst ⊢
        rw [scan_stepL, hst, hs]
        have := ih ((c :: r).drop n) (by simp only [List.length_drop]; simp only [List.length_cons] at h1 ⊢; omega) (i + n) ts h k hk (j' + 1 - n) (by rw [hj]; omega)
        have e : (c :: List.take j' r).drop n = ((c :: r).drop n).take (j' + 1 - n) := by rw [← List.take_succ_cons, List.drop_take]
        show scan ((c :: List.take j' r).drop n) (i + n) = _
        rw [e]
        exact this
      | tok n kd tx v =>
        rw [hs] at h
        obtain ⟨h0, h1⟩ := hpos.2 n kd tx v hs
        obtain ⟨q, hq, rfl⟩ := preT_ok h
        cases k with
        | zero =>
          have : j = 0 := by
            simp only [List.cons_append, List.nil_append, List.getElem_cons_zero] at hj
            omega
          subst this
          rw [List.take_zero, scan_nil]; rfl
        | succ k =>
          simp only [List.cons_append, List.nil_append, List.getElem_cons_succ, List.length_cons] at hj hk
          have hk' : k < q.length := by omega
          have hlow := scan_low _ _ _ hq _ (List.getElem_mem hk')
          have hnj : n ≤ j := by omega
          have hst := step_take (c := c) (r := r) (j := j) n (.inr ⟨kd, tx, v, hs⟩) hnj
          obtain ⟨j', rfl⟩ : ∃ j', j = j' + 1 := ⟨j - 1, by omega⟩
          rw [List.take_succ_cons] at hst ⊢
          rw [scan_stepL, hst, hs]
          have := ih ((c :: r).drop n) (by simp only [List.length_drop]; simp only [List.length_cons] at h1 ⊢; omega) (i + n) q hq k hk' (j' + 1 - n) (by rw [hj]; omega)
          have e : (c :: List.take j' r).drop n = ((c :: r).drop n).take (j' + 1 - n) := by rw [← List.take_succ_cons, List.drop_take]
          show preT _ (scan ((c :: List.take j' r).drop n) (i + n)) = _
          rw [e, this]
          rfl
      | bad => rw [hs] at h; cases h

end Go.Proofs.YtlaifodlnolndaaDoor

/- First, in plain Lean: what begins a program. -/
namespace Go.Proofs.YtlaifodlnolndaaDoor
open Go.RowKit

def endsL : List (List UInt8) := [[], [115, 101, 116, 32, 48, 59], [48, 59], [59], [108, 101, 118, 101, 108, 32, 105, 115, 32, 48, 32, 115, 101, 116, 32, 48, 59], [105, 115, 32, 48, 32, 115, 101, 116, 32, 48, 59], [48, 32, 115, 101, 116, 32, 48, 59]]
def beginsB (s : List UInt8) : Bool := endsL.any fun e => (parseR (s ++ 10 :: e)).2.2 == 0
def scanIs (x : List UInt8) (e : List Tok) : Bool := match scan x 0 with
  | .ok ms => sameB e ms
  | .error _ => false
theorem ends_scan : (endsT.all fun e => endsL.any fun x => scanIs x e) = true := by decide +kernel
theorem later_same (d : Nat) : ∀ a b : List Tok, sameB a b = true → sameB a (b.map (Tok.later d)) = true
  | [], [], _ => rfl
  | [], _ :: _, h => by cases h
  | _ :: _, [], h => by cases h
  | a :: r, b :: q, h => by
    simp only [sameB, Bool.and_eq_true, List.map_cons] at h ⊢
    exact ⟨h.1, later_same d r q h.2⟩
theorem parse_zero {s : List UInt8} {ts : List Tok} {ls : List Ln} (h : scan s 0 = .ok ts) (hp : pLines 64 ts = .ok ls) : (parseR s).2.2 = 0 := by
  unfold parseR; simp only [h, hp]
theorem begins_yes {l : List UInt8} {us : List Tok} {s' : GSt} (h : scan l 0 = .ok us) (hr : runS (.start 64) us = some s') : beginsB l = true := by
  obtain ⟨e, he, k', hk'⟩ := complete s'
  have := List.all_eq_true.1 ends_scan e he
  obtain ⟨x, hx, hsc⟩ := List.any_eq_true.1 this
  unfold scanIs at hsc
  cases hx0 : scan x 0 with
  | error k => rw [hx0] at hsc; cases hsc
  | ok ms =>
    rw [hx0] at hsc
    have h1 : scan (l ++ 10 :: x) 0 = .ok (us ++ ms.map (Tok.later (l.length + 1))) := joined_ok h hx0
    have h2 : runS (.start 64) (us ++ e) = some (.start k') := by rw [runS_append us e _ _ hr]; exact hk'
    obtain ⟨ls, hls⟩ := lines_of_run h2
    have h3 := lines_same_ok (same_app (sameB_refl us) (later_same (l.length + 1) e ms hsc)) hls
    unfold beginsB
    rw [List.any_eq_true]
    exact ⟨x, hx, by rw [parse_zero h1 h3]; rfl⟩
theorem begins_no {l : List UInt8} {us : List Tok} (h : scan l 0 = .ok us) (hn : ∀ m, ∃ e', pLines 64 (us ++ m) = .error e') : beginsB l = false := by
  rw [Bool.eq_false_iff]
  intro hb
  unfold beginsB at hb
  obtain ⟨x, hx, hz⟩ := List.any_eq_true.1 hb
  have hz : (parseR (l ++ 10 :: x)).2.2 = 0 := by simpa using hz
  cases hx0 : scan x 0 with
  | error k =>
    have h1 := joined_err2 h hx0
    unfold parseR at hz
    rw [h1] at hz
    simp at hz
  | ok ms =>
    have h1 := joined_ok h hx0
    obtain ⟨e', he⟩ := hn (ms.map (Tok.later (l.length + 1)))
    unfold parseR at hz
    simp only [h1, he] at hz
    simp at hz
theorem places_lt : ∀ {ts : List Tok} {l : List UInt8} {i : Nat}, Places l i ts → ∀ a b (ha : a < ts.length) (hb : b < ts.length), a < b → ts[a].at_ < ts[b].at_
  | [], _, _, _, a, b, ha, _, _ => by simp at ha
  | t0 :: ts, l, i, h, a, b, ha, hb, hab => by
    obtain ⟨g, rest, rfl, _, hat, hne, _, _, hr⟩ := h
    have hpos : 0 < (wordOf t0).length := List.length_pos_iff.2 hne
    obtain ⟨b, rfl⟩ : ∃ b', b = b' + 1 := ⟨b - 1, by omega⟩
    have hb' : b < ts.length := by simpa using hb
    have h1 := (places_at hr _ (List.getElem_mem hb')).1
    cases a with
    | zero => simp only [List.getElem_cons_zero, List.getElem_cons_succ]; omega
    | succ a => simp only [List.getElem_cons_succ]; exact places_lt hr a b (by simpa using ha) hb' (by omega)

/- the law -/
theorem first_law {s : List UInt8} {ts q : List Tok} (hs : scan s 0 = .ok ts) (hp : pLines 64 ts = .error q) :
    ∃ (k at1 : Nat), placeT ts s.length (ts.length - q.length) = (at1 : Int) ∧ at1 ≤ s.length ∧ beginsB (s.take at1) = true ∧
      (∀ j (hj : j < ts.length), ts[j].at_ = (at1 : Int) → j = k) ∧ (∀ (hk : k < ts.length), ts[k].at_ = (at1 : Int) ∧ ∃ next : Nat, (next : Int) = (if h : k + 1 < ts.length then ts[k + 1].at_ else (s.length : Int)) ∧ at1 ≤ next ∧ next ≤ s.length ∧ beginsB (s.take next) = false) ∧
      (¬ k < ts.length → at1 = s.length) := by
  obtain ⟨pre, s', rfl, hrun, herr⟩ := lines_stop hp
  have hpl := scan_places s 0 _ hs
  have hk0 : (pre ++ q).length - q.length = pre.length := by simp
  rw [hk0]
  cases q with
  | nil =>
    refine ⟨pre.length, s.length, ?_, Nat.le_refl _, ?_, ?_, ?_, fun _ => rfl⟩
    · unfold placeT; simp
    · rw [List.take_length]
      rw [List.append_nil] at hs
      exact begins_yes hs hrun
    · intro j hj hat
      have := (places_at hpl _ (List.getElem_mem hj)).2
      omega
    · intro hk; simp at hk
  | cons t r =>
    have hkl : pre.length < (pre ++ t :: r).length := by simp
    have hget : (pre ++ t :: r)[pre.length] = t := by simp
    have hin := places_at hpl _ (List.getElem_mem hkl)
    rw [hget] at hin
    obtain ⟨at1, hat1⟩ : ∃ n : Nat, t.at_ = (n : Int) := ⟨t.at_.toNat, by omega⟩
    have hpre : scan (s.take at1) 0 = .ok pre := by
      have := scan_prefix s 0 _ hs pre.length hkl at1 (by rw [hget, hat1]; simp)
      rwa [List.take_left] at this
    refine ⟨pre.length, at1, ?_, by omega, begins_yes hpre hrun, ?_, ?_, fun h => absurd hkl h⟩
    · unfold placeT; simp [hat1]
    · intro j hj hat
      rcases Nat.lt_trichotomy j pre.length with h | h | h
      · have := places_lt hpl j pre.length hj hkl h
        rw [hget] at this; omega
      · exact h
      · have := places_lt hpl pre.length j hkl hj h
        rw [hget] at this; omega
    · intro hk
      refine ⟨by rw [hget, hat1], ?_⟩
      by_cases h2 : pre.length + 1 < (pre ++ t :: r).length
      · rw [dif_pos h2]
        have hin2 := places_at hpl _ (List.getElem_mem h2)
        have hlt := places_lt hpl pre.length (pre.length + 1) hkl h2 (by omega)
        rw [hget] at hlt
        obtain ⟨nx, hnx⟩ : ∃ n : Nat, (pre ++ t :: r)[pre.length + 1].at_ = (n : Int) := ⟨(pre ++ t :: r)[pre.length + 1].at_.toNat, by omega⟩
        have hsc := scan_prefix s 0 _ hs (pre.length + 1) h2 nx (by rw [hnx, Nat.zero_add])
        have e : (pre ++ t :: r).take (pre.length + 1) = pre ++ [t] := by
          rw [List.take_append, List.take_of_length_le (by omega), show pre.length + 1 - pre.length = 1 by omega]
          rfl
        rw [e] at hsc
        refine ⟨nx, hnx.symm, by omega, by omega, begins_no hsc fun m => ?_⟩
        rw [List.append_assoc]
        exact herr t r rfl m
      · rw [dif_neg h2]
        have hr : r = [] := by
          cases r with
          | nil => rfl
          | cons a b => simp at h2
        subst hr
        refine ⟨s.length, rfl, by omega, Nat.le_refl _, ?_⟩
        rw [List.take_length]
        refine begins_no hs fun m => ?_
        rw [List.append_assoc]
        exact herr t [] rfl m
theorem first_ok {s : List UInt8} {ts : List Tok} {ls : List Ln} (hs : scan s 0 = .ok ts) (hp : pLines 64 ts = .ok ls) : beginsB s = true := by
  obtain ⟨k', h⟩ := run_of_lines hp
  exact begins_yes hs h

end Go.Proofs.YtlaifodlnolndaaDoor

/- begins: the walk. -/
namespace Go.Proofs.YtlaifodlnolndaaDoor
open Go.RowKit

set_option maxHeartbeats 400000 in
theorem ends_any (w : World) : Calls Tryd.prog 38 #[] w fun e w' => ∃ g, e = .returned (.slice (some ⟨g, 0, none⟩) 7 7) ∧ w'.heap[g]? = some (.cells (endsL.map strV).toArray 9 (0, 0)) ∧ Below w.heap.size w w' := by
  go_enter Tryd.func38, Tryd.ntmps38
  go_wp2
  go_ret
  exact ⟨_, rfl, heap_new _ _ _ rfl, (Below.refl _ _).alloc (Nat.le_refl _) _⟩
theorem ends_short {j : Nat} (h : j < endsL.length) : endsL[j].length ≤ 20 := by
  have : (endsL.all fun e => decide (e.length ≤ 20)) = true := by decide
  simpa using List.all_eq_true.1 this _ (List.getElem_mem h)
theorem any_none {f : List UInt8 → Bool} {l : List (List UInt8)} {j : Nat} (h : j < l.length) (ha : (l.take j).any f = false) (hf : f l[j] = false) : (l.take (j + 1)).any f = false := by
  rw [List.take_succ_eq_append_getElem h, List.any_append, ha]
  simp [hf]
theorem any_hit {f : List UInt8 → Bool} {l : List (List UInt8)} {j : Nat} (h : j < l.length) (hf : f l[j] = true) : l.any f = true := List.any_eq_true.2 ⟨_, List.getElem_mem h, hf⟩

set_option maxRecDepth 100000 in
set_option maxHeartbeats 4000000 in
theorem begins_any (s : ByteArray) (w : World) (hs : s.size ≤ 60000) (hG : Globals w) : Calls Tryd.prog 19 #[.string s] w fun e w' => e = .returned (.bool (beginsB s.data.toList)) ∧ Below w.heap.size w w' := by
  generalize hB : beginsB s.data.toList = B
  have HB := Lib.hid hB
  clear hB
  have HG := Lib.hid hG
  clear hG
  go_enter Tryd.func19, Tryd.ntmps19
  go_wp2_with fail
  refine (ends_any w).mono ?_
  rintro e w1 ⟨g, rfl, hg, hb⟩
  have HK := Lib.hid (⟨hb, HG.out.next hb, fun _ h => by simp at h, fun x hx => by obtain rfl := List.mem_singleton.1 hx; exact hg⟩ : Keep w [] [(g, .cells (endsL.map strV).toArray 9 (0, 0))] w1)
  clear hg hb HG
  go_wp2_with fail
  go_loopw [10] (fun iv wr => ∃ j : Nat, iv = .int .i64 j ∧ j ≤ 7 ∧ Hid (Keep w [] [(g, .cells (endsL.map strV).toArray 9 (0, 0))] wr) ∧ Hid ((endsL.take j).any (fun e => (parseR (s.data.toList ++ 10 :: e)).2.2 == 0) = false)) (fun iv _ => 7 - (intOf iv).toNat)
  case atStart => exact ⟨0, rfl, by omega, HK, Lib.hid rfl⟩
  case round =>
    obtain ⟨j, rfl, hj, HKr, HA⟩ := hrel
    clear HK
    by_cases hlt : j < 7
    · have hjl : j < endsL.length := hlt
      have cell : wr.cell? ⟨g, j, none⟩ = some (.string ⟨(endsL[j]).toArray⟩) := by
        have := HKr.out.vars (g, .cells (endsL.map strV).toArray 9 (0, 0)) (by simp)
        unfold World.cell?
        rw [this]
        simp [hjl, strV]
      have Hn := Lib.hid (any_none hjl HA.out)
      have Hh := Lib.hid (any_hit (f := fun e => (parseR (s.data.toList ++ 10 :: e)).2.2 == 0) hjl)
      have hsh := ends_short hjl
      generalize (endsL[j]'hjl) = x at cell Hn Hh hsh
      have hx : (⟨x.toArray⟩ : ByteArray).size = x.length := txt_size x
      have hd : (s ++ (⟨#[10]⟩ : ByteArray) ++ ⟨x.toArray⟩).data.toList = s.data.toList ++ 10 :: x := by rw [str_app, str_app]; simp
      have hd2 : (s ++ (⟨#[10]⟩ : ByteArray) ++ ⟨x.toArray⟩).size ≤ 65536 := by rw [← length_toList, hd]; simp only [List.length_append, List.length_cons, length_toList]; omega
      have hz1 : ¬ 9223372036854775807 < s.size + 1 := by omega
      have hj2 : (j : Int) < 7 := by omega
      have Hgv := Lib.hid (parse_gives (s ++ (⟨#[10]⟩ : ByteArray) ++ ⟨x.toArray⟩) (parseR (s.data.toList ++ 10 :: x)) (by rw [hd]) _ rfl hd2 wr HKr.out.glob)
      clear hd hd2 hx
      generalize parseR (s.data.toList ++ 10 :: x) = r at Hn Hh Hgv
      go_wp2_with fail
      refine Hgv.out.mono ?_
      rintro e w3 ⟨a3, m3, rfl, hv3, hb3⟩
      have HK3 := Lib.hid ((HKr.out.next hb3).next ((Below.refl _ _).alloc (Nat.le_refl _) (.cells #[.slice a3 r.1.length m3] 24)))
      clear hv3 hb3 HKr Hgv
      by_cases he : r.2.2 = 0
      · have HBt := Lib.hid (HB.out.symm.trans (Hh.out (by simpa using he)))
        clear Hn Hh
        rw [he]
        go_wp2
        go_ret
        exact ⟨ret_bool (by rw [HBt.out]), HK3.out.below⟩
      · have Hn2 := Lib.hid (Hn.out (by simpa using he))
        clear Hn Hh
        generalize r.2.2 = e2 at he ⊢
        go_wp2
        exact ⟨⟨j + 1, by go_num, by omega, HK3, Hn2⟩, by simp [intOf]; omega⟩
    · have hj7 : j = 7 := by omega
      subst hj7
      go_wp2
      go_ret
      exact ⟨ret_bool (by rw [← HB.out]; exact HA.out.symm), HKr.out.below⟩

end Go.Proofs.YtlaifodlnolndaaDoor

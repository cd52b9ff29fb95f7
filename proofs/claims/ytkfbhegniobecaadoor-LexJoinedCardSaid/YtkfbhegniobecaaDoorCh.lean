/- PROVED HERE: the walk of 'acequialaw03.LexJoined', its last case and the whole: for all strings of a size that a machine can hold the law returns true, where the listed variables hold what the row's condition says. -/
import Derived.Test.YtkfbhegniobecaaDoorCg
import Derived.Test.YtkfbhegniobecaaDoorCe
namespace Go.Proofs.YtkfbhegniobecaaDoor
open Go.RowKit

/- append of a token that lies in the second of two blocks laid just now -/
theorem append_two {ops : Array Oper} {rest : List Oper} {o : Oper} {a : Act} {Q : Exit → Act → World → Prop} {w : World} {C : Array Value} (B : Nat) (hgd : o.guard = none) (s x : Operand)
    (ho : o.op = .call { callee := .builtin .append, args := #[s, x], argTypes := #[23, 23] }) (v : Value) (acc : List Tok) (hs : a.eval s = v) (hown : OwnToks B w v acc)
    (t : Tok) (hx : a.eval x = .slice (some ⟨w.heap.size + 1, 0, none⟩) 1 1) (hlen : acc.length ≤ 1000000000000) (hbase : B ≤ w.heap.size)
    (h : ∀ v' w', OwnToks B w' v' (acc ++ [t]) → ((w.alloc (.cells C 35)).alloc (.cells t.cells 35)).grownBy w' v.ownBlock → wpList Tryd.prog ops Q rest (a.put o.dst v') w') : wpList Tryd.prog ops Q (o :: rest) a ((w.alloc (.cells C 35)).alloc (.cells t.cells 35)) := by
  have e : (w.alloc (.cells C 35)).heap.size = w.heap.size + 1 := by simp
  refine append_new B hgd s x ho v acc hs (hown.alloc _) t (by rw [e]; exact hx) hlen (by rw [e]; omega) h

set_option maxRecDepth 100000 in
set_option maxHeartbeats 8000000 in
theorem joined_good (a b : ByteArray) (w : World) (hsz : a.size + b.size ≤ 3000) (ts us : List Tok) (hr : scan a.data.toList 0 = .ok ts) (hr2 : scan b.data.toList 0 = .ok us) (hG : Globals w) :
    Calls Tryd.prog 7 #[.string a, .string b] w fun e w' => e = .returned (.bool true) ∧ Below w.heap.size w w' := by
  have Hs := Lib.hid (sane_any w hG)
  have H0 := Lib.hid (Amid.start hG [] (fun x hx => by simp at hx))
  clear hG
  have Ha := Lib.hid (fun W hg => lex_ok a ts hr W (by omega) hg)
  have Hb := Lib.hid (fun W hg => lex_ok b us hr2 W (by omega) hg)
  have hje := joined_ok hr hr2
  rw [length_toList] at hje
  have Hj := Lib.hid (fun W hg => lex_ok (a ++ ⟨#[10]⟩ ++ b) _ (by rw [data_app, data_app, List.append_assoc]; exact hje) W (by simp [ByteArray.size_append, show (ByteArray.mk #[10]).size = 1 from rfl]; omega) hg)
  have hpa := places_valid (scan_places _ _ _ hr)
  have hpb := places_valid (scan_places _ _ _ hr2)
  have Hle := Lib.hid (places_le (scan_places _ _ _ hr2))
  have Hta := Lib.hid hpa.2.1
  have Htb := Lib.hid hpb.2.1
  have hla := hpa.2.2.2
  have hlb := hpb.2.2.2
  rw [length_toList] at hla hlb
  clear hr hr2 hje hpa hpb
  have hn : ¬ ((a.size : Int) + b.size > 3000) := by omega
  go_enter Tryd.func7, Tryd.ntmps7
  go_wp2_with fail
  refine Hs.out.mono ?_
  rintro e w1 ⟨rfl, hb⟩
  have H1 := Lib.hid (H0.out.next hb)
  clear hb
  go_wp2_with fail
  refine (Ha.out _ H1.out.g).mono ?_
  rintro e w2 ⟨v2, rfl, hv2, hb⟩
  obtain ⟨a2, c2, rfl⟩ := hv2.size
  have H2 := Lib.hid ((H1.out.next hb).add hv2)
  clear hb hv2
  go_wp2_with fail
  refine (Hb.out _ H2.out.g).mono ?_
  rintro e w3 ⟨v3, rfl, hv3, hb⟩
  obtain ⟨a3, c3, rfl⟩ := hv3.size
  have H3 := Lib.hid ((H2.out.next hb).add hv3)
  clear hb hv3
  go_wp2_with fail
  refine (Hj.out _ H3.out.g).mono ?_
  rintro e w4 ⟨v4, rfl, hv4, hb⟩
  have H4 := Lib.hid ((H3.out.next hb).add hv4)
  clear hb hv4 H3 H2 H1
  have hX := H4.out.1.2 (.slice a2 ts.length c2, ts) (by simp)
  have HX := Lib.hid hX
  generalize hN : ts.length = N at hla HX
  have HN := Lib.hid hN
  clear hN hX
  generalize hM : us.length = M at hlb H4
  have HM := Lib.hid hM
  clear hM
  have hN9 : ts.length ≤ 1000000000 := by rw [HN.out]; omega
  rw [HN.out] at H4
  have hM9 : (M : Int) ≤ 3000 := by omega
  go_wp2_with (first | (at_builtin; refine append_all w4.heap.size rfl _ _ rfl (Nat.le_refl _) rfl _ ts rfl HX.out hN9 ?_; intro v5 w5 hown5 hb5))
  have hlt4 : w4.heap.size ≤ w4.heap.size := Nat.le_refl _
  go_loopw [14, 16, 87] (fun v _ kv wr => ∃ k : Nat, kv = .int .i64 k ∧ k ≤ M ∧ OwnToks w4.heap.size wr v (ts ++ (us.take k).map (Tok.later (a.size + 1))) ∧ Below w4.heap.size w4 wr) (fun _ _ kv _ => M - (intOf kv).toNat)
  case atStart => exact ⟨0, rfl, Nat.zero_le _, by simpa using hown5, hb5⟩
  case round =>
    obtain ⟨k, rfl, hk, hown, hB⟩ := hrel
    have hz := hB.size
    by_cases hlt : k < M
    · have hx : k < us.length := by rw [HM.out]; exact hlt
      have h3 : IsToks wr (.slice a3 M c3) us := IsToks.below (w := w4) (w' := wr) (H4.out.1.2 (.slice a3 M c3, us) (by simp)) hB
      obtain ⟨b0, o0, rfl, x0, x1, x2, x3⟩ := h3.row hx
      obtain ⟨n, hn1, hn2⟩ := Hle.out _ (List.getElem_mem hx)
      have hstep : (us.take (k + 1)).map (Tok.later (a.size + 1)) = (us.take k).map (Tok.later (a.size + 1)) ++ [Tok.later (a.size + 1) us[k]] := by
        rw [List.take_succ_eq_append_getElem hx, List.map_append]; rfl
      have Hstep := Lib.hid hstep
      rw [length_toList, Nat.zero_add] at hn2
      generalize us[k] = t at x0 x1 x2 x3 hn1 Hstep
      obtain ⟨kd, tx, nn, aa⟩ := t
      dsimp only at x0 x1 x2 x3 hn1
      subst hn1
      clear hstep h3
      have hacc : (ts ++ (us.take k).map (Tok.later (a.size + 1))).length ≤ 1000000000000 := by
        rw [List.length_append, List.length_map, List.length_take]; omega
      generalize hA : ts ++ (us.take k).map (Tok.later (a.size + 1)) = acc at hown hacc
      have HA := Lib.hid hA
      clear hA
      go_wp2_with (first | (at_builtin; refine append_two w4.heap.size rfl _ _ rfl _ acc rfl hown ⟨kd, tx, nn, (n : Int) + ((a.size : Int) + 1)⟩ rfl hacc hz ?_; intro v6 w6 hown6 hg6))
      refine ⟨⟨k + 1, by go_num, by omega, ?_, ?_⟩, by simp [intOf]; omega⟩
      · rw [Hstep.out, ← List.append_assoc, HA.out]
        exact hown6
      · exact ((hB.alloc hz _).alloc (by simp; omega) _).grown hg6 (by simp; omega) (fun j hj => (World.ownsRow.lt hown j hj).1)
    · have hke : k = M := by omega
      subst hke
      have hI := OwnToks.isToks hown (by rw [List.length_append, List.length_map, List.length_take]; omega) (fun t ht => by
        rcases List.mem_append.1 ht with ht | ht
        · have := Hta.out t ht; unfold maxLen; omega
        · obtain ⟨u, hu, rfl⟩ := List.mem_map.1 ht
          have := Htb.out u (List.mem_of_mem_take hu)
          show u.text.size ≤ maxLen
          unfold maxLen; omega)
      rw [List.take_of_length_le (by rw [HM.out]; exact Nat.le_refl _)] at hI
      have hv4 := IsToks.below (w := w4) (w' := wr) (H4.out.1.2 (v4, ts ++ us.map (Tok.later (a.size + 1))) (by simp)) hB
      have HI := Lib.hid hI
      have HV := Lib.hid hv4
      clear hI hv4
      go_wp2_with (first | (go_at_call 14; refine (equal_any _ _ _ _ _ HV.out HI.out).mono ?_; rw [equalB_refl]; rintro e w7 ⟨rfl, q, rfl⟩))
      go_ret
      exact ⟨rfl, (H4.out.next (below_drewN hB q)).2⟩

theorem lexJoined_any (a b : ByteArray) (w : World) (ha : a.size ≤ 140737488355328) (hb : b.size ≤ 140737488355328) (hG : Globals w) :
    Calls Tryd.prog 7 #[.string a, .string b] w fun e w' => e = .returned (.bool true) ∧ Below w.heap.size w w' := by
  by_cases hsz : a.size + b.size ≤ 3000
  · cases hr : scan a.data.toList 0 with
    | error k => exact joined_bad a b w hsz k hr hG
    | ok ts =>
      cases hr2 : scan b.data.toList 0 with
      | error k => exact joined_bad2 a b w hsz ts k hr hr2 hG
      | ok us => exact joined_good a b w hsz ts us hr hr2 hG
  · have hn : (a.size : Int) + b.size > 3000 := by omega
    have Hs := Lib.hid (sane_any w hG)
    go_enter Tryd.func7, Tryd.ntmps7
    go_wp2_with fail
    refine Hs.out.mono ?_
    rintro e w1 ⟨rfl, hb⟩
    have HB := Lib.hid hb
    clear hb
    go_wp2_with fail
    go_ret
    exact ⟨rfl, HB.out⟩

end Go.Proofs.YtkfbhegniobecaaDoor

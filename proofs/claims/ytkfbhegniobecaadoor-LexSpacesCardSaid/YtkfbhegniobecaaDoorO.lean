/- The scanner's methods: wrong, space, name. -/
import Derived.Test.YtkfbhegniobecaaDoorN
namespace Go.Proofs.YtkfbhegniobecaaDoor
open Go.RowKit

theorem in_space : inB [1] = spaceB := by
  funext c
  have := all_u8 (fun c => inB [1] c == spaceB c) (by decide +kernel) c
  simpa using this
theorem in_part : inB [2, 3, 5] = partB := by
  funext c
  have := all_u8 (fun c => inB [2, 3, 5] c == partB c) (by decide +kernel) c
  simpa using this
theorem in_digit : inB [3] = digitB := by
  funext c
  have := all_u8 (fun c => inB [3] c == digitB c) (by decide +kernel) c
  simpa using this

theorem ScanCells.alloc {w : World} {p : Nat} {s : ByteArray} {i : Nat} {v : Value} (h : ScanCells w p s i v) (o : Obj) : ScanCells (w.alloc o) p s i v := by
  have hlt := (scan_cell h).2.2.2.2.2
  unfold ScanCells at h ⊢
  rw [Below.heap_alloc w o p hlt]; exact h
theorem ScanCells.drew {w : World} {p : Nat} {s : ByteArray} {i : Nat} {v : Value} (h : ScanCells w p s i v) : ScanCells w.drew p s i v := h
theorem ScanCells.drewN {w : World} {p : Nat} {s : ByteArray} {i : Nat} {v : Value} (h : ScanCells w p s i v) (q : Nat) : ScanCells (w.drewN q) p s i v := h

set_option maxRecDepth 100000 in
set_option maxHeartbeats 4000000 in
theorem wrong_any (p : Nat) (s : ByteArray) (i : Nat) (v : Value) (w : World) (hp : ScanCells w p s i v) :
    Calls Tryd.prog 25 #[.pointer (some ⟨p, 0, none⟩)] w (Stepped p s w (.error i)) := by
  obtain ⟨c0, c1, c2, f1, f2, hlt⟩ := scan_cell hp
  clear hp
  go_enter Tryd.func25, Tryd.ntmps25
  go_wp2
  exact ⟨rfl, Below.refl _ _, rfl⟩

set_option maxRecDepth 100000 in
set_option maxHeartbeats 4000000 in
theorem space_step (p : Nat) (s : ByteArray) (i : Nat) (v : Value) (acc : List Tok) (w : World) (hp : ScanCells w p s i v) (hown : OwnToks (p + 1) w v acc) (hs : s.size ≤ 65536) (hi : i ≤ s.size) :
    Calls Tryd.prog 26 #[.pointer (some ⟨p, 0, none⟩)] w (Stepped p s w (.ok (i + spanL spaceB s i, acc))) := by
  obtain ⟨c0, c1, c2, f1, f2, hlt⟩ := scan_cell hp
  have Hr := Lib.hid (run_any p s i v w.heap.size 1 1 [1] ((w.alloc (.cells #[.int .i64 1] 3)).drew) hs hi (hp.alloc _) rfl (by omega) (fun j hj => by
    obtain rfl : j = 0 := by (simp at hj; omega)
    simp [go_sem]))
  rw [in_space] at Hr
  have Hp := Lib.hid hp
  have hle := span_le spaceB s i hi
  have hsz := extract_size (s := s) (show i ≤ i + spanL spaceB s i by omega) hle
  generalize spanL spaceB s i = T at Hr hle hsz ⊢
  generalize s.extract i (i + T) = x at Hr hsz ⊢
  have hszle : x.size ≤ 65536 := by omega
  have Hsz := Lib.hid hsz
  clear hp hsz
  go_enter Tryd.func26, Tryd.ntmps26
  go_wp2
  go_region_law (go_simp; go_at_call 43; refine Hr.out.mono ?_; rintro e w1 ⟨rfl, q, rfl⟩)
  all_goals
    have hw : IntKind.i64.wrap ((i : Int) + x.size) = ((i + T : Nat) : Int) := by rw [IntWalk.i64_in _ (by omega)]; have := Hsz.out; omega
    go_end0
    refine ⟨?_, rfl, v, ((Hp.out.alloc _).drewN _).set1 _ _ hw, ((hown.alloc _).drewN _).of_other _ _ (Nat.lt_succ_self p)⟩
    exact (below_drewN ((Below.refl p w).alloc (by omega) _) _).setCell (p := ⟨p, 1, none⟩) (Nat.le_refl _) _

theorem add_yes (p : Nat) (s : ByteArray) (i : Nat) (v : Value) (acc : List Tok) (tx : ByteArray) (kd : Int) (x : ByteArray) (n a : Int) (w0 w : World) (hB : Below p w0 w) (hp : ScanCells w p s i v) (hown : OwnToks (p + 1) w v acc) (hacc : acc.length ≤ 1000000) (hi : i ≤ 1000000) (htx : tx.size ≤ 1000000)
    (ht : x.size ≤ maxLen) (hv : validB ⟨kd, x, n, a⟩ = true) (j : Nat) (hj : j = i + tx.size) :
    Calls Tryd.prog 44 #[.pointer (some ⟨p, 0, none⟩), .string tx, .agg #[.int .i64 kd, .string x, .int .i64 n, .int .i64 a]] w fun e w' => e = .returned (.tuple #[]) ∧ Stepped p s w0 (.ok (j, acc ++ [⟨kd, x, n, i⟩])) e w' := by
  subst hj
  exact (add_good p s i v acc tx ⟨kd, x, n, a⟩ w hp hown hacc hi htx ht hv).mono fun _ _ h => ⟨h.2.1, hB.trans h.1, h.2⟩
theorem add_no (p : Nat) (s : ByteArray) (i : Nat) (v : Value) (tx : ByteArray) (kd : Int) (x : ByteArray) (n a : Int) (w0 w : World) (hB : Below p w0 w) (hp : ScanCells w p s i v) (ht : x.size ≤ maxLen) (hv : validB ⟨kd, x, n, a⟩ = false) :
    Calls Tryd.prog 44 #[.pointer (some ⟨p, 0, none⟩), .string tx, .agg #[.int .i64 kd, .string x, .int .i64 n, .int .i64 a]] w fun e w' => e = .panicked [{ v := .iface 42 (.int .i64 i), recovered := false }] ∧ Stepped p s w0 (.error i) e w' :=
  (add_bad p s i v tx ⟨kd, x, n, a⟩ w hp ht hv).mono fun _ _ h => ⟨h.2, hB.trans h.1, h.2⟩

set_option maxRecDepth 100000 in
set_option maxHeartbeats 4000000 in
theorem name_step (p : Nat) (s : ByteArray) (i : Nat) (v : Value) (acc : List Tok) (w : World) (hp : ScanCells w p s i v) (hown : OwnToks (p + 1) w v acc) (hs : s.size ≤ 65536) (hi : i ≤ s.size) (hacc : acc.length ≤ i) (r : Except Nat (Nat × List Tok))
    (hr : r = if nameB (s.extract i (i + spanL partB s i)).data.toList then .ok (i + spanL partB s i, acc ++ [⟨1, s.extract i (i + spanL partB s i), 0, i⟩]) else .error i) :
    Calls Tryd.prog 27 #[.pointer (some ⟨p, 0, none⟩)] w (Stepped p s w r) := by
  obtain ⟨c0, c1, c2, f1, f2, hlt⟩ := scan_cell hp
  have Hr := Lib.hid (run_any p s i v w.heap.size 3 3 [2, 3, 5] (w.alloc (.cells #[.int .i64 2, .int .i64 3, .int .i64 5] 3)) hs hi (hp.alloc _) rfl (by omega) (fun j hj => by
    match j, hj with
    | 0, _ => simp [go_sem]
    | 1, _ => simp [go_sem]
    | 2, _ => simp [go_sem]
    | j + 3, hj => simp at hj; omega))
  rw [in_part] at Hr
  have Hp := Lib.hid hp
  have hle := span_le partB s i hi
  have hsz := extract_size (s := s) (show i ≤ i + spanL partB s i by omega) hle
  generalize spanL partB s i = T at Hr hle hsz hr
  generalize s.extract i (i + T) = x at Hr hsz hr
  have hxT : i + T = i + x.size := by omega
  have HT := Lib.hid hxT
  have hszle : x.size ≤ 65536 := by omega
  have hxm : x.size ≤ maxLen := by unfold maxLen; omega
  clear hsz hxT hp
  by_cases hn : nameB x.data.toList = true
  · rw [if_pos hn] at hr
    have Hrr := Lib.hid hr
    have Hv := Lib.hid (show validB ⟨1, x, 0, 0⟩ = true by rw [valid_name rfl]; simp [hn])
    clear hr hn
    go_enter Tryd.func27, Tryd.ntmps27
    go_wp2_with (first | (go_at_call 43; refine Hr.out.mono ?_; rintro e w1 ⟨rfl, q, rfl⟩))
    refine (add_yes p s i v acc x 1 x 0 0 w _ (below_drewN ((Below.refl p w).alloc (by omega) _) q) ((Hp.out.alloc _).drewN q) ((hown.alloc _).drewN q) (by omega) (by omega) (by omega) hxm Hv.out _ HT.out).mono ?_
    rintro e w3 ⟨rfl, hst⟩
    rw [← Hrr.out] at hst
    go_wp2
    go_end0
    exact hst
  · rw [if_neg hn] at hr
    have Hrr := Lib.hid hr
    have Hv := Lib.hid (show validB ⟨1, x, 0, 0⟩ = false by rw [valid_name rfl]; simp [hn])
    clear hr hn
    go_enter Tryd.func27, Tryd.ntmps27
    go_wp2_with (first | (go_at_call 43; refine Hr.out.mono ?_; rintro e w1 ⟨rfl, q, rfl⟩))
    refine (add_no p s i v x 1 x 0 0 w _ (below_drewN ((Below.refl p w).alloc (by omega) _) q) ((Hp.out.alloc _).drewN q) hxm Hv.out).mono ?_
    rintro e w3 ⟨rfl, hst⟩
    rw [← Hrr.out] at hst
    exact ⟨rfl, hst⟩

end Go.Proofs.YtkfbhegniobecaaDoor

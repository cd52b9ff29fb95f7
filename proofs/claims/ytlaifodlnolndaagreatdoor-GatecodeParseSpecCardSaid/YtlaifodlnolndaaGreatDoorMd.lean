/- Texts W X Y Z Sb Aa in one: each says what it proves. -/
import Derived.Test.YtlaifodlnolndaaGreatDoorMc
import Derived.Lib.Join
import Derived.Deep.OwnRows
import Derived.KernelRfl
import Derived.Test.YtlaifodlnolndaaGreatDoorShelf
import Derived.Test.YtlaifodlnolndaaGreatDoorTie
import Derived.ProofKit
import Derived.LaidMore
import Derived.LaidLaws
import Derived.Stop.LaidErr
import Derived.Lib.LaidTab
/- Texts of tokens: the document's Text. -/
namespace Go.Proofs.YtlaifodlnolndaaGreatDoor
open Go.RowKit
open Go.Lib (decDigits)

/- the text of a valid token, and of valid tokens -/
def wordOf (t : Tok) : List UInt8 := if t.kind = 2 then decDigits t.n.toNat else t.text.data.toList
def joinW (ts : List Tok) : List UInt8 := Lib.join (ts.map wordOf) [32]
theorem joinTail_snoc (sep : List UInt8) (r : List (List UInt8)) (x : List UInt8) : Lib.joinTail sep (r ++ [x]) = Lib.joinTail sep r ++ (sep ++ x) := by
  unfold Lib.joinTail; simp
theorem joinW_snoc (ts : List Tok) (t : Tok) : joinW (ts ++ [t]) = (if ts = [] then [] else joinW ts ++ [32]) ++ wordOf t := by
  unfold joinW
  cases ts with
  | nil => simp [Lib.join_one]
  | cons a r =>
    rw [if_neg (by simp), List.map_append, List.map_cons, List.map_cons, List.map_nil, List.cons_append, Lib.join_cons, Lib.join_cons, joinTail_snoc]
    simp
theorem joinW_step {ts : List Tok} {k : Nat} (h : k < ts.length) : joinW (ts.take (k + 1)) = (if k = 0 then [] else joinW (ts.take k) ++ [32]) ++ wordOf ts[k] := by
  rw [List.take_succ_eq_append_getElem h, joinW_snoc]
  by_cases hk : k = 0
  · subst hk; simp
  · rw [if_neg hk, if_neg]
    intro e
    have := congrArg List.length e
    rw [List.length_take, List.length_nil] at this; omega
theorem name_len {l : List UInt8} (h : nameB l = true) : l.length ≤ 32 := by
  cases l with
  | nil => simp
  | cons c r => simp only [nameB, Bool.and_eq_true, decide_eq_true_eq] at h; exact h.1.1
theorem valid_cases {t : Tok} (h : validB t = true) : (t.kind = 1 ∧ nameB t.text.data.toList = true ∧ t.n = 0) ∨ (t.kind = 2 ∧ t.text.data.toList = [] ∧ 0 ≤ t.n ∧ t.n ≤ 1099511627776) ∨ (t.kind = 3 ∧ (∃ c, t.text.data.toList = [c] ∧ signB c = true) ∧ t.n = 0) := by
  unfold validB at h
  split at h
  · left
    simp only [Bool.and_eq_true, beq_iff_eq] at *
    exact ⟨by assumption, h⟩
  · split at h
    · right; left
      simp only [Bool.and_eq_true, beq_iff_eq, decide_eq_true_eq, List.isEmpty_iff] at *
      exact ⟨by assumption, h⟩
    · split at h
      · right; right
        simp only [Bool.and_eq_true, beq_iff_eq] at *
        refine ⟨by assumption, ?_, h.2⟩
        match hl : t.text.data.toList, h with
        | [c], h => exact ⟨c, rfl, h.1⟩
        | [], h => simp [signT] at h
        | _ :: _ :: _, h => simp [signT] at h
      · simp at h
theorem word_len {t : Tok} (h : validB t = true) : (wordOf t).length ≤ 32 := by
  unfold wordOf
  rcases valid_cases h with ⟨h1, h2, _⟩ | ⟨h1, h2, h3, h4⟩ | ⟨h1, ⟨c, h2, _⟩, _⟩
  · rw [if_neg (by omega)]; exact name_len h2
  · rw [if_pos h1]
    have := dec_len 12 t.n.toNat (by omega)
    omega
  · rw [if_neg (by omega), h2]; simp
theorem joinW_len {ts : List Tok} : ∀ k, (∀ t ∈ ts.take k, validB t = true) → (joinW (ts.take k)).length ≤ 33 * k := by
  intro k
  induction k with
  | zero => intro _; simp [joinW, Lib.join_nil]
  | succ k ih =>
    intro hv
    by_cases h : k < ts.length
    · rw [joinW_step h]
      have hw := word_len (hv ts[k] (by rw [List.take_succ_eq_append_getElem h]; exact List.mem_append_right _ (by simp)))
      have hi := ih fun t ht => hv t (by rw [List.take_succ_eq_append_getElem h]; exact List.mem_append_left _ ht)
      split
      · simp; omega
      · simp only [List.length_append, List.length_cons, List.length_nil]; omega
    · rw [List.take_of_length_le (by omega)] at hv ⊢
      rw [List.take_of_length_le (by omega)] at ih
      have := ih hv
      omega

theorem valid_is (kd : Int) (tx : ByteArray) (n a : Int) (b : Bool) (h : validB ⟨kd, tx, n, a⟩ = b) (ht : tx.size ≤ maxLen) (w : World) :
    Calls Tryz.prog 71 #[.agg #[.int .i64 kd, .string tx, .int .i64 n, .int .i64 a]] w fun e w' => e = .returned (.bool b) ∧ Below w.heap.size w w' := by
  rw [← h]; exact valid_any ⟨kd, tx, n, a⟩ w ht

/- how Text ends -/
def TextEnd (w : World) (ts : List Tok) (e : Ending) (w' : World) : Prop :=
  Below w.heap.size w w' ∧ e = .returned (if ts.all validB then .tuple #[.string (mk (joinW ts)), .int .i64 0] else .tuple #[.string ⟨#[]⟩, .int .i64 30])

theorem all_take {ts : List Tok} {k : Nat} (h : k < ts.length) (hv : ∀ t ∈ ts.take k, validB t = true) (ht : validB ts[k] = true) : ∀ t ∈ ts.take (k + 1), validB t = true := by
  intro t hh
  rw [List.take_succ_eq_append_getElem h] at hh
  rcases List.mem_append.1 hh with hh | hh
  · exact hv t hh
  · simp at hh; subst hh; exact ht

end Go.Proofs.YtlaifodlnolndaaGreatDoor

/- Texts of tokens: the program's Text. -/
namespace Go.Proofs.YtlaifodlnolndaaGreatDoor
open Go.RowKit Go.Deep
open Go.Lib (decDigits)

theorem Tryz.info9 : (Tryz.prog.info? 9).map (fun i => (i.zero, i.size, i.bytes)) = some (some (.string ⟨#[]⟩), 1, 16) := by kernel_rfl

/- the words that have been laid so far -/
def Words (w : World) (g n k : Nat) (ts : List Tok) : Prop :=
  ∃ (arr : Array Value) (xs : List ByteArray), w.heap[g]? = some (.cells arr 9 (0, 0)) ∧ arr.size = n ∧ xs.length = k ∧ (∀ (j : Nat) (x : ByteArray), xs[j]? = some x → arr[j]? = some (.string x)) ∧ xs.map (fun x => x.data.toList) = (ts.take k).map wordOf
theorem Words.cell {w : World} {g n k : Nat} {ts : List Tok} (h : Words w g n k ts) (hk : k < n) : (∃ u, w.cell? ⟨g, k, none⟩ = some u) ∧ w.frozen? ⟨g, k, none⟩ = false ∧ g < w.heap.size := by
  obtain ⟨arr, xs, hg, hs, _⟩ := h
  refine ⟨⟨arr[k], by simp [World.cell?, hg, Array.getElem?_eq_getElem (show k < arr.size by omega)]⟩, by simp [World.frozen?, hg], (Array.getElem?_eq_some_iff.1 hg).1⟩
theorem Words.below {w w' : World} {g n k : Nat} {ts : List Tok} (h : Words w g n k ts) (hb : Below w.heap.size w w') : Words w' g n k ts := by
  obtain ⟨arr, xs, hg, r⟩ := h
  exact ⟨arr, xs, (hb.block g (Array.getElem?_eq_some_iff.1 hg).1).trans hg, r⟩
theorem Words.put {w : World} {g n k : Nat} {ts : List Tok} (h : Words w g n k ts) (hk : k < n) (hx : k < ts.length) (x : ByteArray) (e : x.data.toList = wordOf ts[k]) : Words (w.setCell ⟨g, k, none⟩ (.string x)) g n (k + 1) ts := by
  obtain ⟨arr, xs, hg, hs, hl, hc, hm⟩ := h
  refine ⟨arr.setIfInBounds k (.string x), xs ++ [x], by simp [World.setCell, Array.getElem?_modify, hg], by simpa using hs, by simp [hl], ?_, ?_⟩
  · intro j y hj
    by_cases hjk : j < k
    · rw [List.getElem?_append_left (by omega)] at hj
      rw [Array.getElem?_setIfInBounds_ne (by omega)]
      exact hc j y hj
    · rw [List.getElem?_append_right (by omega)] at hj
      have h0 : j - xs.length = 0 := by
        rcases Nat.eq_zero_or_pos (j - xs.length) with h | h
        · exact h
        · rw [List.getElem?_eq_none (by simp; omega)] at hj; simp at hj
      rw [h0] at hj
      simp at hj
      subst hj
      obtain rfl : j = k := by omega
      rw [Array.getElem?_setIfInBounds_self_of_lt (by omega)]
  · rw [List.map_append, hm, List.take_succ_eq_append_getElem hx, List.map_append]
    simp [e]

theorem join_words {w : World} {g n : Nat} {ts : List Tok} (h : Words w g n n ts) (hn : ts.length = n) (hv : ∀ t ∈ ts, validB t = true) (hm : n ≤ 1000000) :
    Calls Tryz.prog 21 #[.slice (some ⟨g, 0, none⟩) n n, .string ⟨#[32]⟩] w fun e w' => e = .returned (.string (mk (joinW ts))) ∧ Below w.heap.size w w' := by
  obtain ⟨arr, xs, hg, hs, hl, hc, hmp⟩ := h
  rw [List.take_of_length_le (by omega)] at hmp
  have hlen := joinW_len (ts := ts) n (fun t ht => hv t (List.mem_of_mem_take ht))
  rw [List.take_of_length_le (by omega)] at hlen
  have hj : Lib.join (xs.map fun x => x.data.toList) [32] = joinW ts := by rw [hmp]; rfl
  have := Tryz.strings_Join g 0 n xs ⟨#[32]⟩ w (fun j x hj => by
    have := hc j x hj
    simp only [Nat.zero_add]
    simp [World.cell?, hg, this]) (Array.getElem?_eq_some_iff.1 hg).1 (by omega) (by omega) (by
      show (Lib.join (xs.map fun x => x.data.toList) [32]).length ≤ _
      rw [hj]; omega)
  rw [hl] at this
  refine this.mono fun e w' hh => ⟨?_, hh.2⟩
  rw [hh.1]
  show Ending.returned (.string (mk (Lib.join (xs.map fun x => x.data.toList) [32]))) = _
  rw [hj]

end Go.Proofs.YtlaifodlnolndaaGreatDoor

/- The examples with which each statement begins. -/
namespace Go.Proofs.YtlaifodlnolndaaGreatDoor
open Go.RowKit

theorem sc1 : scan [115, 117, 109, 32, 51, 48, 59] 0 = .ok [⟨1, mk [115, 117, 109], 0, 0⟩, ⟨2, mk [], 30, 4⟩, ⟨3, mk [59], 0, 6⟩] := by kernel_rfl
theorem sc2 : scan [48, 48, 55] 0 = .error 0 := by kernel_rfl
theorem sc3 : scan [49, 48, 57, 57, 53, 49, 49, 54, 50, 55, 55, 55, 54] 0 = .ok [⟨2, mk [], 1099511627776, 0⟩] := by kernel_rfl
theorem sc4 : scan [97, 32, 47, 47, 32, 98] 0 = .ok [⟨1, mk [97], 0, 0⟩] := by kernel_rfl
theorem sc5 : scan [97, 32, 36] 0 = .error 2 := by kernel_rfl
theorem sc6 : scan [97, 61, 49] 0 = .ok [⟨1, mk [97], 0, 0⟩, ⟨3, mk [61], 0, 1⟩, ⟨2, mk [], 1, 2⟩] := by kernel_rfl
theorem sc7 : joinW [⟨1, mk [97], 0, 0⟩, ⟨3, mk [61], 0, 1⟩, ⟨2, mk [], 1, 2⟩] = [97, 32, 61, 32, 49] := by kernel_rfl

/- Lex, by its end -/
theorem lex_ok (s : ByteArray) (ts : List Tok) (h : scan s.data.toList 0 = .ok ts) (w : World) (hs : s.size ≤ 65536) (hG : Globals w) :
    Calls Tryz.prog 11 #[.string s] w fun e w' => ∃ v, e = .returned (.tuple #[v, .int .i64 0, .int .i64 0]) ∧ IsToks w' v ts ∧ Below w.heap.size w w' := by
  refine (lex_any s w hs hG).mono fun e w' hh => ?_
  obtain ⟨hb, hr⟩ := hh
  rw [h] at hr
  obtain ⟨v, he, hv⟩ := hr
  exact ⟨v, he, hv, hb⟩
theorem lex_err (s : ByteArray) (k : Nat) (h : scan s.data.toList 0 = .error k) (w : World) (hs : s.size ≤ 65536) (hG : Globals w) :
    Calls Tryz.prog 11 #[.string s] w fun e w' => e = .returned (.tuple #[.slice none 0 0, .int .i64 k, .int .i64 30]) ∧ Below w.heap.size w w' := by
  refine (lex_any s w hs hG).mono fun e w' hh => ?_
  obtain ⟨hb, hr⟩ := hh
  rw [h] at hr
  exact ⟨hr, hb⟩
theorem IsToks.below {w w' : World} {v : Value} {ts : List Tok} (h : IsToks w v ts) (hb : Below w.heap.size w w') : IsToks w' v ts := by
  obtain ⟨h1, h2, h3 | ⟨b, o, c, hv, hlt, hr⟩⟩ := h
  · exact ⟨h1, h2, .inl h3⟩
  · refine ⟨h1, h2, .inr ⟨b, o, c, hv, Nat.lt_of_lt_of_le hlt hb.size, fun i hi => ?_⟩⟩
    obtain ⟨a0, a1, a2, a3⟩ := hr i hi
    exact ⟨(hb.cell (p := ⟨b, _, none⟩) hlt).trans a0, (hb.cell (p := ⟨b, _, none⟩) hlt).trans a1, (hb.cell (p := ⟨b, _, none⟩) hlt).trans a2, (hb.cell (p := ⟨b, _, none⟩) hlt).trans a3⟩
/- tokens in a block laid just now -/
theorem isToks_new (w : World) (ts : List Tok) (hne : 0 < ts.length) (hlen : ts.length ≤ 1000000) (ht : ∀ t ∈ ts, t.text.size ≤ maxLen) (arr : Array Value) (harr : arr = (ts.flatMap fun t => t.cells.toList).toArray) :
    IsToks (w.alloc (.cells arr 53)) (.slice (some ⟨w.heap.size, 0, none⟩) ts.length ts.length) ts := by
  refine OwnToks.isToks (B := 0) ?_ (by omega) ht
  have hl : (ts.flatMap fun t => t.cells.toList).length = ts.length * 4 := by
    clear hne hlen ht harr
    induction ts with
    | nil => rfl
    | cons t r ih => rw [List.flatMap_cons, List.length_append, ih]; unfold Tok.cells; simp; omega
  refine ⟨hl, .inr ⟨w.heap.size, ts.length, arr, rfl, Nat.zero_le _, heap_new w _ _ rfl, Nat.le_refl _, by unfold maxLen; omega, ?_, ?_⟩⟩
  · rw [harr]; simpa using hl
  · rw [harr]; exact List.take_of_length_le (Nat.le_of_eq hl)
theorem Globals.next {w1 w2 : World} (h : Globals w1) (hb : Below w1.heap.size w1 w2) : Globals w2 := h.below hb (globals_size h)
/- what a value reads as, and the library's variables, amid a call -/
def Has (w : World) (l : List (Value × List Tok)) : Prop := Globals w ∧ ∀ x ∈ l, IsToks w x.1 x.2
theorem Has.next {w1 w2 : World} {l : List (Value × List Tok)} (h : Has w1 l) (hb : Below w1.heap.size w1 w2) : Has w2 l := ⟨h.1.next hb, fun x hx => (h.2 x hx).below hb⟩
theorem Has.add {w : World} {l : List (Value × List Tok)} (h : Has w l) {v : Value} {ts : List Tok} (hv : IsToks w v ts) : Has w ((v, ts) :: l) := ⟨h.1, fun x hx => by
  rcases List.mem_cons.1 hx with rfl | hx
  · exact hv
  · exact h.2 x hx⟩

theorem IsToks.one {w : World} {v : Value} {t : Tok} (h : IsToks w v [t]) : ∃ b o c, v = .slice (some ⟨b, o, none⟩) 1 c := by
  obtain ⟨_, _, ⟨h, _⟩ | ⟨b, o, c, rfl, _⟩⟩ := h
  · simp at h
  · exact ⟨b, o, c, rfl⟩
theorem IsToks.cells1 {w : World} {b o c : Nat} {t : Tok} (h : IsToks w (.slice (some ⟨b, o, none⟩) 1 c) [t]) : w.cell? ⟨b, o + 2, none⟩ = some (.int .i64 t.n) ∧ w.cell? ⟨b, o + 1, none⟩ = some (.string t.text) := by
  obtain ⟨_, _, ⟨h, _⟩ | ⟨b', o', c', he, _, hr⟩⟩ := h
  · simp at h
  · obtain ⟨_, h1, h2, _⟩ := hr 0 (by simp)
    simp only [Value.slice.injEq, Option.some.injEq, Addr.mk.injEq] at he
    obtain ⟨⟨rfl, rfl, _⟩, _, rfl⟩ := he
    simpa using ⟨h2, h1⟩
theorem name_is (s : ByteArray) (b : Bool) (h : nameB s.data.toList = b) (w : World) (hs : s.size ≤ 1000000) : Calls Tryz.prog 83 #[.string s] w fun e w' => e = .returned (.bool b) ∧ w = w' := by
  rw [← h]; exact name_any s w (by unfold maxLen; omega)
theorem n1 : nameB (ByteArray.mk #[66, 95, 49, 50]).data.toList = true := by decide +kernel
theorem n2 : nameB (ByteArray.mk #[95, 49, 50]).data.toList = false := by decide +kernel

end Go.Proofs.YtlaifodlnolndaaGreatDoor

/- The statements' walks: LexSpec. -/
namespace Go.Proofs.YtlaifodlnolndaaGreatDoor
open Go.RowKit

theorem equalB_refl : ∀ l : List Tok, equalB l l = true := by
  intro l
  unfold equalB
  have h1 : sameB l l = true := by
    induction l with
    | nil => rfl
    | cons t r ih => rw [sameB, ih]; simp [sameT]
  have h2 : atsB l l = true := by
    induction l with
    | nil => rfl
    | cons t r ih => rw [atsB, ih (by rw [sameB] at h1; simp at h1; exact h1.2)]; simp
  rw [h1, h2]; rfl

theorem isToks_nil (w : World) : IsToks w (.slice none 0 0) [] := ⟨by simp, by simp, .inl ⟨rfl, _, _, rfl⟩⟩

end Go.Proofs.YtlaifodlnolndaaGreatDoor

/- A builder's WriteString at this program: the library's contract, laid over the numbers of Join's laying. -/
namespace Go.Proofs
open Go.Shelf
theorem Tryz.lays166 : Go.Proofs.Lays.n166 Tryz.prog Tryz.lays156_ren := {
  mixed := Tryz.lays156.mixed,
  f166 := Tryz.lays156.f166,
  f240 := Tryz.lays156.f240,
  f276 := Tryz.lays156.f276,
  t0 := Tryz.lays156.t0,
  a0 := Tryz.lays156.a0,
  z0 := Tryz.lays156.z0,
  v0 := Tryz.lays156.v0,
  t3 := Tryz.lays156.t3,
  a3 := Tryz.lays156.a3,
  z3 := Tryz.lays156.z3,
  v3 := Tryz.lays156.v3,
  t4 := Tryz.lays156.t4,
  a4 := Tryz.lays156.a4,
  z4 := Tryz.lays156.z4,
  v4 := Tryz.lays156.v4,
  t9 := Tryz.lays156.t9,
  a9 := Tryz.lays156.a9,
  z9 := Tryz.lays156.z9,
  v9 := Tryz.lays156.v9,
  t20 := Tryz.lays156.t20,
  a20 := Tryz.lays156.a20,
  z20 := Tryz.lays156.z20,
  v20 := Tryz.lays156.v20,
  t37 := Tryz.lays156.t37,
  a37 := Tryz.lays156.a37,
  z37 := Tryz.lays156.z37,
  v37 := Tryz.lays156.v37,
  t70 := Tryz.lays156.t70,
  a70 := Tryz.lays156.a70,
  z70 := Tryz.lays156.z70,
  v70 := Tryz.lays156.v70,
  t72 := Tryz.lays156.t72,
  a72 := Tryz.lays156.a72,
  z72 := Tryz.lays156.z72,
  v72 := Tryz.lays156.v72,
  t75 := Tryz.lays156.t75,
  a75 := Tryz.lays156.a75,
  z75 := Tryz.lays156.z75,
  v75 := Tryz.lays156.v75,
  t164 := Tryz.lays156.t164,
  a164 := Tryz.lays156.a164,
  z164 := Tryz.lays156.z164,
  v164 := Tryz.lays156.v164 }
theorem Tryz.Builder_WriteString (B b : Nat) (bs : List Value) (s : ByteArray) (w : World) (h : Lib.IsBuilder 61 5 B b bs w) (hlen : bs.length + s.size ≤ 140737488355328) (hBw : B ≤ w.heap.size) :
    Calls Tryz.prog 20 #[.pointer (some ⟨b, 0, none⟩), .string s] w fun e w' => e = .returned (.tuple #[.int .i64 s.size, .nilIface]) ∧ (Lib.BuilderAt 61 5 B b (.pointer (some ⟨b, 0, none⟩)) (bs ++ Lib.strCells s) w' ∧ RowKit.Below B w w') := Any.Builder_WriteString Tryz.lays166 Tryz.Builder_Extra_156 B b bs s w h hlen hBw

end Go.Proofs

/-
  PROVED HERE: what the rows' condition on the listed package variables gives the walks ('globals_of_laid': strconv.ErrRange holds an error value, internal/strconv.uint64pow10 is the table of powers of ten), and that the door's own heap meets that condition ('door_met'). No condition beyond the row's.
-/
namespace Go.Proofs.YtlaifodlnolndaaGreatDoor
open Go.ChangeShapes Go.WideShapes Go.RowKit

theorem own : ownKnob Tryz.prog.godebug = none := by kernel_rfl
theorem laidOut : laidOutB Tryz.prog = true := by kernel_rfl

/-- What the rows list. -/
def laidAll : List (String × DataW Unit) := [("math/bits.deBruijn32tab", Rows.laid_math_bits_deBruijn32tab), ("math/bits.deBruijn64tab", Rows.laid_math_bits_deBruijn64tab), ("internal/strconv.uint64pow10", Rows.laid_internal_strconv_uint64pow10), ("strconv.ErrRange", Rows.laid_strconv_ErrRange), ("strconv.ErrSyntax", Rows.laid_strconv_ErrSyntax)]

theorem gTab : Tryz.prog.globalNamed "internal/strconv.uint64pow10" = some 0 := by kernel_rfl
theorem gTabType : (Tryz.prog.globals[0]?).map (·.type) = some 130 := by kernel_rfl
theorem gErr : Tryz.prog.globalNamed "strconv.ErrRange" = some 3 := by kernel_rfl
theorem gErrType : (Tryz.prog.globals[3]?).map (·.type) = some 64 := by kernel_rfl
theorem cells130 : Tryz.prog.cellsOf 130 = 20 := by kernel_rfl
theorem cells115 : Tryz.prog.cellsOf 115 = 1 := by kernel_rfl
theorem cells146 : Tryz.prog.cellsOf 146 = 1 := by kernel_rfl
theorem cells9 : Tryz.prog.cellsOf 9 = 1 := by kernel_rfl
theorem starErr : "*" ++ "errors.errorString" = "*errors.errorString" := by decide
theorem row106 (u : TypeId) (h : Tryz.prog.typeName? 3 u = some "*errors.errorString") : u = 144 :=
  typeName_ptr_named (nm := "errors.errorString") (by rw [starErr]; kernel_rfl) (by kernel_rfl) (by decide) u (by rw [starErr]; exact h)
theorem powIs : (Rows.laid_internal_strconv_uint64pow10 : DataW Unit) = Lib.tabData .u64 Lib.pow10Tab := by kernel_rfl

/-- What the condition gives the walks. -/
theorem globals_of_laid {W : World} (h : laidMetH Tryz.prog laidAll W) : Globals W := by
  rw [MakeChecks.laidMetH_plain _ _ _ (by kernel_rfl)] at h
  have h3 := laidMet.tail (laidMet.tail h)
  rw [powIs] at h3
  refine ⟨?_, Lib.tabIs_of_head gTab gTabType Tryz.underlying130 Tryz.underlying115 cells115 cells130 h3⟩
  have h4 := laidMet.tail h3
  obtain ⟨a0, s0, hv0, -, -, -⟩ := laid_sentinel h4 gErr gErrType Tryz.underlying64 row106 Tryz.underlying144 Tryz.underlying146 rfl rfl Tryz.underlying9 cells146 cells9
  exact ⟨_, _, hv0⟩

/-- The door's own heap meets the condition. -/
theorem door_met (os : Os) (args : Array Value) : laidMetH Tryz.prog laidAll ((World.doorLaid Tryz.prog 400 os).forCall (fun _ _ => 0) ⟨#[], args, []⟩).memory :=
  laidMetH_of_parts3 (fuel := 8) (laidMet_of_run' 8 (by kernel_rfl) (by kernel_rfl)) (by kernel_rfl) (by kernel_rfl)

end Go.Proofs.YtlaifodlnolndaaGreatDoor

/- The document's Lex: the walk. -/
import Derived.Test.YtkfbhegniobecaaDoorJ
namespace Go.Proofs.YtkfbhegniobecaaDoor
open Go.RowKit

theorem letter_is (c : UInt8) (b : Bool) (h : letterB c = b) (w : World) : Calls Tryd.prog 31 #[.int .u8 (c.toNat : Int)] w fun e w' => e = .returned (.bool b) ∧ w = w' := by rw [← h]; exact letter_any c w
theorem part_is (c : UInt8) (b : Bool) (h : partB c = b) (w : World) : Calls Tryd.prog 32 #[.int .u8 (c.toNat : Int)] w fun e w' => e = .returned (.bool b) ∧ w = w' := by rw [← h]; exact part_any c w
theorem figure_is (c : UInt8) (b : Bool) (h : digitB c = b) (w : World) : Calls Tryd.prog 33 #[.int .u8 (c.toNat : Int)] w fun e w' => e = .returned (.bool b) ∧ w = w' := by rw [← h]; exact figure_any c w
theorem space_is (c : UInt8) (b : Bool) (h : spaceB c = b) (w : World) : Calls Tryd.prog 22 #[.int .u8 (c.toNat : Int)] w fun e w' => e = .returned (.bool b) ∧ w = w' := by rw [← h]; exact space_any c w
theorem sign_is (c : UInt8) (b : Bool) (h : signB c = b) (w : World) : Calls Tryd.prog 35 #[.int .u8 (c.toNat : Int)] w fun e w' => e = .returned (.bool b) ∧ w = w' := by rw [← h]; exact sign_any c w

/- how Lex ends: tokens, or the place of an error -/
def LexEnd (w : World) (r : Except Nat (List Tok)) (e : Ending) (w' : World) : Prop :=
  Below w.heap.size w w' ∧ match r with
  | .ok ts => ∃ v, e = .returned (.tuple #[v, .int .i64 0, .int .i64 0]) ∧ IsToks w' v ts
  | .error k => e = .returned (.tuple #[.slice none 0 0, .int .i64 k, .int .i64 30])

/- the state of the scanning at place i -/
def ScanAt (s : ByteArray) (r : Except Nat (List Tok)) (i : Nat) (acc : List Tok) : Prop := r = preT acc (scan (s.data.toList.drop i) i) ∧ ∀ t ∈ acc, t.text.size ≤ 65536

theorem ScanAt.space {s : ByteArray} {r : Except Nat (List Tok)} {i : Nat} {acc : List Tok} (h : ScanAt s r i acc) (hi : i < s.size) (h0 : spaceB s[i] = true) : ScanAt s r (i + 1) acc := by
  refine ⟨?_, h.2⟩
  rw [h.1, drop_cons s i hi, scan_space i h0]

theorem span_at {p : UInt8 → Bool} {s : ByteArray} {i j : Nat} (h1 : i ≤ j) (h : j < i + spanL p s i) : ∃ hk, p (s[j]'hk) = true := by
  obtain ⟨h', e⟩ := span_in (p := p) (s := s) (i := i) (k := j - i) (by omega)
  have e2 : i + (j - i) = j := by omega
  refine ⟨by omega, ?_⟩
  simp only [e2] at e
  exact e
theorem span_out {p : UInt8 → Bool} {s : ByteArray} {i j : Nat} (hj : j = i + spanL p s i) (h : j < s.size) : p s[j] = false := by
  subst hj; exact span_stop h
theorem span_pos {p : UInt8 → Bool} {s : ByteArray} {i : Nat} (h : i < s.size) (hp : p s[i] = true) : 0 < spanL p s i := by
  unfold spanL; rw [drop_cons s i h]; exact twl_pos hp
theorem head_drop (s : ByteArray) (i : Nat) (h : i < s.size) : (s.data.toList.drop i).head? = some s[i] := by rw [drop_cons s i h]; rfl
theorem head_none (s : ByteArray) (i : Nat) (h : ¬ i < s.size) : (s.data.toList.drop i).head? = none := by
  rw [List.drop_of_length_le (by rw [length_toList]; omega)]; rfl

/- does a comment begin at place i? -/
def noteAt (s : ByteArray) (i : Nat) : Prop := ∃ h : i + 1 < s.size, s[i] = 47 ∧ s[i + 1] = 47
theorem noteAt_iff {s : ByteArray} {i : Nat} (hi : i < s.size) : noteAt s i ↔ (s[i] = 47 ∧ (s.data.toList.drop (i + 1)).head? = some 47) := by
  constructor
  · rintro ⟨h, h1, h2⟩
    exact ⟨h1, by rw [head_drop s (i + 1) h, h2]⟩
  · rintro ⟨h1, h2⟩
    by_cases h : i + 1 < s.size
    · rw [head_drop s (i + 1) h] at h2
      exact ⟨h, h1, by simpa using h2⟩
    · rw [head_none s (i + 1) h] at h2; simp at h2

theorem ScanAt.note {s : ByteArray} {r : Except Nat (List Tok)} {i j : Nat} {acc : List Tok} (h : ScanAt s r i acc) (hi : i < s.size) (h0 : spaceB s[i] = false) (h1 : noteAt s i) (hj : j = i + spanL notLf s i) : ScanAt s r j acc := by
  refine ⟨?_, h.2⟩
  subst hj
  rw [h.1, drop_cons s i hi, scan_note i h0 ((noteAt_iff hi).1 h1), ← drop_cons s i hi, List.drop_drop]; rfl
theorem ScanAt.name {s : ByteArray} {r : Except Nat (List Tok)} {i j : Nat} {acc : List Tok} (h : ScanAt s r i acc) (hi : i < s.size) (hs : s.size ≤ 65536) (h0 : spaceB s[i] = false) (h1 : ¬ noteAt s i) (h2 : letterB s[i] = true)
    (hj : j = i + spanL partB s i) (hn : nameB (s.extract i j).data.toList = true) : ScanAt s r j (acc ++ [⟨1, s.extract i j, 0, i⟩]) := by
  subst hj
  refine ⟨?_, ?_⟩
  · rw [span_take] at hn
    have e := mk_eq (span_take partB s i)
    rw [h.1, e, drop_cons s i hi, scan_name i h0 (fun hh => h1 ((noteAt_iff hi).2 hh)) h2, ← drop_cons s i hi, if_pos hn, preT_preT, List.drop_drop]; rfl
  · intro t ht
    rcases List.mem_append.1 ht with ht | ht
    · exact h.2 t ht
    · simp at ht; subst ht
      have := span_le partB s i (by omega)
      show (s.extract i _).size ≤ _
      rw [extract_size (by omega) this]; omega
theorem ScanAt.noname {s : ByteArray} {r : Except Nat (List Tok)} {i j : Nat} {acc : List Tok} (h : ScanAt s r i acc) (hi : i < s.size) (h0 : spaceB s[i] = false) (h1 : ¬ noteAt s i) (h2 : letterB s[i] = true)
    (hj : j = i + spanL partB s i) (hn : nameB (s.extract i j).data.toList = false) : r = .error i := by
  subst hj
  rw [span_take] at hn
  rw [h.1, drop_cons s i hi, scan_name i h0 (fun hh => h1 ((noteAt_iff hi).2 hh)) h2, ← drop_cons s i hi, hn]; rfl
theorem ScanAt.number {s : ByteArray} {r : Except Nat (List Tok)} {i j : Nat} {acc : List Tok} (h : ScanAt s r i acc) (hi : i < s.size) (h0 : spaceB s[i] = false) (h1 : ¬ noteAt s i) (h2 : letterB s[i] = false) (h3 : digitB s[i] = true)
    (hj : j = i + spanL digitB s i) (n : Int) (hn : refNumber (s.extract i j).data.toList = (n, true)) : ScanAt s r j (acc ++ [⟨2, ⟨#[]⟩, n, i⟩]) := by
  subst hj
  refine ⟨?_, ?_⟩
  · rw [span_take] at hn
    rw [h.1, drop_cons s i hi, scan_number i h0 (fun hh => h1 ((noteAt_iff hi).2 hh)) h2 h3, ← drop_cons s i hi, hn, if_pos rfl, preT_preT, List.drop_drop]; rfl
  · intro t ht
    rcases List.mem_append.1 ht with ht | ht
    · exact h.2 t ht
    · simp at ht; subst ht; exact Nat.zero_le _
theorem ScanAt.nonumber {s : ByteArray} {r : Except Nat (List Tok)} {i j : Nat} {acc : List Tok} (h : ScanAt s r i acc) (hi : i < s.size) (h0 : spaceB s[i] = false) (h1 : ¬ noteAt s i) (h2 : letterB s[i] = false) (h3 : digitB s[i] = true)
    (hj : j = i + spanL digitB s i) (n : Int) (hn : refNumber (s.extract i j).data.toList = (n, false)) : r = .error i := by
  subst hj
  rw [span_take] at hn
  rw [h.1, drop_cons s i hi, scan_number i h0 (fun hh => h1 ((noteAt_iff hi).2 hh)) h2 h3, ← drop_cons s i hi, hn]; rfl
theorem extract_one (s : ByteArray) (i : Nat) (h : i < s.size) : (s.extract i (i + 1)).data.toList = [s[i]] := by
  rw [Lib.extract_data, drop_cons s i h, show i + 1 - i = 1 by omega]; rfl
theorem ScanAt.sign {s : ByteArray} {r : Except Nat (List Tok)} {i : Nat} {acc : List Tok} (h : ScanAt s r i acc) (hi : i < s.size) (h0 : spaceB s[i] = false) (h1 : ¬ noteAt s i) (h2 : letterB s[i] = false) (h3 : digitB s[i] = false) (h4 : signB s[i] = true) :
    ScanAt s r (i + 1) (acc ++ [⟨3, s.extract i (i + 1), 0, i⟩]) := by
  refine ⟨?_, ?_⟩
  · have e := mk_eq (extract_one s i hi)
    rw [h.1, e, drop_cons s i hi, scan_sign i h0 (fun hh => h1 ((noteAt_iff hi).2 hh)) h2 h3 h4, preT_preT]
  · intro t ht
    rcases List.mem_append.1 ht with ht | ht
    · exact h.2 t ht
    · simp at ht; subst ht
      show (s.extract i _).size ≤ _
      rw [extract_size (by omega) (by omega)]; omega
theorem ScanAt.wrong {s : ByteArray} {r : Except Nat (List Tok)} {i : Nat} {acc : List Tok} (h : ScanAt s r i acc) (hi : i < s.size) (h0 : spaceB s[i] = false) (h1 : ¬ noteAt s i) (h2 : letterB s[i] = false) (h3 : digitB s[i] = false) (h4 : signB s[i] = false) :
    r = .error i := by
  rw [h.1, drop_cons s i hi, scan_wrong i h0 (fun hh => h1 ((noteAt_iff hi).2 hh)) h2 h3 h4]; rfl
theorem ScanAt.done {s : ByteArray} {r : Except Nat (List Tok)} {i : Nat} {acc : List Tok} (h : ScanAt s r i acc) (hi : ¬ i < s.size) : r = .ok acc := by
  rw [h.1, List.drop_of_length_le (by rw [length_toList]; omega), scan_nil]; simp [preT]

theorem refname_is (s : ByteArray) (N : Bool) (h : nameB s.data.toList = N) (w : World) (hs : s.size ≤ maxLen) :
    Calls Tryd.prog 21 #[.string s] w fun e w' => e = .returned (.bool N) ∧ w = w' := by rw [← h]; exact refname_any s w hs
theorem number_ex (s : ByteArray) (w : World) (hs : s.size ≤ maxLen) (h0 : 0 < s.size) (hd : ∀ k (h : k < s.size), digitB s[k] = true) :
    Calls Tryd.prog 34 #[.string s] w fun e w' => ∃ (n : Int) (b : Bool), e = .returned (.tuple #[.int .i64 n, .bool b]) ∧ Hid (refNumber s.data.toList = (n, b)) ∧ ∃ q, w' = w.drewN q :=
  (number_any s w hs h0 hd).mono fun _ _ h => ⟨_, _, h.1, rfl, h.2⟩
theorem span_digits {s : ByteArray} {i : Nat} (hi : i ≤ s.size) : ∀ k (h : k < (s.extract i (i + spanL digitB s i)).size), digitB (s.extract i (i + spanL digitB s i))[k] = true := by
  intro k h
  have h' := h
  have hle := span_le digitB s i hi
  rw [extract_size (by omega) hle] at h'
  rw [ByteArray.getElem_extract]
  obtain ⟨_, e⟩ := span_in (p := digitB) (s := s) (i := i) (k := k) (by omega)
  exact e

theorem OwnToks.alloc {B : Nat} {w : World} {v : Value} {acc : List Tok} (h : OwnToks B w v acc) (o : Obj) : OwnToks B (w.alloc o) v acc := World.ownsRow.alloc h o
theorem OwnToks.drewN {B : Nat} {w : World} {v : Value} {acc : List Tok} (h : OwnToks B w v acc) (q : Nat) : OwnToks B (w.drewN q) v acc := h
theorem below_drewN {B : Nat} {w w' : World} (h : Below B w w') (q : Nat) : Below B w (w'.drewN q) := ⟨h.os, h.tape, h.output, h.size, h.block⟩
theorem OwnToks.lt {B : Nat} {w : World} {v : Value} {acc : List Tok} (h : OwnToks B w v acc) : ∀ k, v.ownBlock = some k → B ≤ k := fun k hk => (World.ownsRow.lt h k hk).1

/- append of a token that lies in a block laid just now -/
theorem append_new {ops : Array Oper} {rest : List Oper} {o : Oper} {a : Act} {Q : Exit → Act → World → Prop} {w : World} (B : Nat) (hgd : o.guard = none) (s x : Operand)
    (ho : o.op = .call { callee := .builtin .append, args := #[s, x], argTypes := #[23, 23] }) (v : Value) (acc : List Tok) (hs : a.eval s = v) (hown : OwnToks B w v acc)
    (t : Tok) (hx : a.eval x = .slice (some ⟨w.heap.size, 0, none⟩) 1 1) (hlen : acc.length ≤ 1000000000000) (hbase : B ≤ w.heap.size)
    (h : ∀ v' w', OwnToks B w' v' (acc ++ [t]) → (w.alloc (.cells t.cells 35)).grownBy w' v.ownBlock → wpList Tryd.prog ops Q rest (a.put o.dst v') w') : wpList Tryd.prog ops Q (o :: rest) a (w.alloc (.cells t.cells 35)) := by
  refine append_tok B hgd s x ho v acc hs (hown.alloc _) t w.heap.size hx ?_ ?_ ?_ ?_ hlen (by simp; omega) h
  all_goals (unfold Tok.cells; simp [go_sem])
theorem grown_below {B : Nat} {w0 w : World} {v : Value} {acc : List Tok} (hB : Below B w0 w) (hown : OwnToks B w v acc) (hz : B ≤ w.heap.size) {C : Array Value} {w' : World} (hg : (w.alloc (.cells C 35)).grownBy w' v.ownBlock) : Below B w0 w' :=
  (hB.alloc hz _).grown hg (by simp; omega) hown.lt

end Go.Proofs.YtkfbhegniobecaaDoor

/- Texts I J K L M N O P in one: each says what it proves. -/
import Derived.Test.YtlaifodlnolndaaGreatDoorMa
import Derived.Deep.RegionLaw
/- What Lex computes, as a Lean function on lists of bytes. -/
namespace Go.Proofs.YtlaifodlnolndaaGreatDoor
open Go.RowKit

def mk (l : List UInt8) : ByteArray := ⟨l.toArray⟩
theorem mk_list (l : List UInt8) : (mk l).data.toList = l := rfl
theorem mk_eq {s : ByteArray} {l : List UInt8} (h : s.data.toList = l) : s = mk l := by subst h; rfl

theorem twl_le (p : UInt8 → Bool) : ∀ l : List UInt8, (l.takeWhile p).length ≤ l.length
  | [] => Nat.le_refl _
  | c :: r => by
    rw [List.takeWhile_cons]; split
    · simp [twl_le p r]
    · simp
theorem twl_pos {p : UInt8 → Bool} {c : UInt8} {r : List UInt8} (h : p c = true) : 0 < ((c :: r).takeWhile p).length := by
  rw [List.takeWhile_cons, if_pos h]; simp

def preT (acc : List Tok) : Except Nat (List Tok) → Except Nat (List Tok)
  | .ok l => .ok (acc ++ l)
  | .error k => .error k
theorem preT_nil (r : Except Nat (List Tok)) : preT [] r = r := by cases r <;> rfl
theorem preT_preT (a b : List Tok) (r : Except Nat (List Tok)) : preT a (preT b r) = preT (a ++ b) r := by cases r <;> simp [preT]

def notLf (c : UInt8) : Bool := c.toNat != 10
def scan (l : List UInt8) (i : Nat) : Except Nat (List Tok) :=
  match h : l with
  | [] => .ok []
  | c :: r =>
    if spaceB c then scan r (i + 1)
    else if h1 : c = 47 ∧ r.head? = some 47 then scan ((c :: r).drop ((c :: r).takeWhile notLf).length) (i + ((c :: r).takeWhile notLf).length)
    else if h2 : letterB c = true then
      if nameB ((c :: r).takeWhile partB) then preT [⟨1, mk ((c :: r).takeWhile partB), 0, i⟩] (scan ((c :: r).drop ((c :: r).takeWhile partB).length) (i + ((c :: r).takeWhile partB).length))
      else .error i
    else if h3 : digitB c = true then
      if (refNumber ((c :: r).takeWhile digitB)).2 then preT [⟨2, mk [], (refNumber ((c :: r).takeWhile digitB)).1, i⟩] (scan ((c :: r).drop ((c :: r).takeWhile digitB).length) (i + ((c :: r).takeWhile digitB).length))
      else .error i
    else if signB c then preT [⟨3, mk [c], 0, i⟩] (scan r (i + 1))
    else .error i
  termination_by l.length
  decreasing_by
  · subst h; simp
  · subst h
    have := twl_pos (p := notLf) (c := c) (r := r) (by rw [h1.1]; rfl)
    simp only [List.length_drop, List.length_cons] at *; omega
  · subst h
    have := twl_pos (p := partB) (c := c) (r := r) (by simp [partB, h2])
    simp only [List.length_drop, List.length_cons] at *; omega
  · subst h
    have := twl_pos (p := digitB) (c := c) (r := r) h3
    simp only [List.length_drop, List.length_cons] at *; omega
  · subst h; simp

theorem scan_nil (i : Nat) : scan [] i = .ok [] := by rw [scan]
theorem scan_space {c : UInt8} {r : List UInt8} (i : Nat) (h : spaceB c = true) : scan (c :: r) i = scan r (i + 1) := by
  rw [scan]; simp only [h, if_true]
theorem scan_note {c : UInt8} {r : List UInt8} (i : Nat) (h0 : spaceB c = false) (h : c = 47 ∧ r.head? = some 47) :
    scan (c :: r) i = scan ((c :: r).drop ((c :: r).takeWhile notLf).length) (i + ((c :: r).takeWhile notLf).length) := by
  rw [scan]; simp only [h0, Bool.false_eq_true, if_false]; rw [dif_pos h]
theorem scan_name {c : UInt8} {r : List UInt8} (i : Nat) (h0 : spaceB c = false) (h1 : ¬ (c = 47 ∧ r.head? = some 47)) (h2 : letterB c = true) :
    scan (c :: r) i = if nameB ((c :: r).takeWhile partB) then preT [⟨1, mk ((c :: r).takeWhile partB), 0, i⟩] (scan ((c :: r).drop ((c :: r).takeWhile partB).length) (i + ((c :: r).takeWhile partB).length)) else .error i := by
  rw [scan]; simp only [h0, Bool.false_eq_true, if_false]; rw [dif_neg h1, dif_pos h2]
theorem scan_number {c : UInt8} {r : List UInt8} (i : Nat) (h0 : spaceB c = false) (h1 : ¬ (c = 47 ∧ r.head? = some 47)) (h2 : letterB c = false) (h3 : digitB c = true) :
    scan (c :: r) i = if (refNumber ((c :: r).takeWhile digitB)).2 then preT [⟨2, mk [], (refNumber ((c :: r).takeWhile digitB)).1, i⟩] (scan ((c :: r).drop ((c :: r).takeWhile digitB).length) (i + ((c :: r).takeWhile digitB).length)) else .error i := by
  rw [scan]; simp only [h0, Bool.false_eq_true, if_false]; rw [dif_neg h1, dif_neg (by rw [h2]; simp), dif_pos h3]
theorem scan_sign {c : UInt8} {r : List UInt8} (i : Nat) (h0 : spaceB c = false) (h1 : ¬ (c = 47 ∧ r.head? = some 47)) (h2 : letterB c = false) (h3 : digitB c = false) (h4 : signB c = true) :
    scan (c :: r) i = preT [⟨3, mk [c], 0, i⟩] (scan r (i + 1)) := by
  rw [scan]; simp only [h0, Bool.false_eq_true, if_false]; rw [dif_neg h1, dif_neg (by rw [h2]; simp), dif_neg (by rw [h3]; simp), if_pos h4]
theorem scan_wrong {c : UInt8} {r : List UInt8} (i : Nat) (h0 : spaceB c = false) (h1 : ¬ (c = 47 ∧ r.head? = some 47)) (h2 : letterB c = false) (h3 : digitB c = false) (h4 : signB c = false) :
    scan (c :: r) i = .error i := by
  rw [scan]; simp only [h0, Bool.false_eq_true, if_false]; rw [dif_neg h1, dif_neg (by rw [h2]; simp), dif_neg (by rw [h3]; simp), if_neg (by rw [h4]; simp)]

end Go.Proofs.YtlaifodlnolndaaGreatDoor

/- The document's Lex: what it returns is what the Lean function 'scan' computes. -/
namespace Go.Proofs.YtlaifodlnolndaaGreatDoor
open Go.RowKit

theorem Tryz.info53 : (Tryz.prog.info? 53).map (fun i => (i.zero, i.size, i.bytes)) = some (some (.agg #[.int .i64 0, .string ⟨#[]⟩, .int .i64 0, .int .i64 0]), 4, 40) := by kernel_rfl

/- a slice of tokens that the call itself has made, from block B on -/
def OwnToks (B : Nat) (w : World) (v : Value) (acc : List Tok) : Prop := w.ownsRow B 53 4 v acc.length (acc.flatMap fun t => t.cells.toList)

theorem append_tok {ops : Array Oper} {rest : List Oper} {o : Oper} {a : Act} {Q : Exit → Act → World → Prop} {w : World} (B : Nat) (hgd : o.guard = none) (s x : Operand)
    (ho : o.op = .call { callee := .builtin .append, args := #[s, x], argTypes := #[42, 42] }) (v : Value) (acc : List Tok) (hs : a.eval s = v) (hown : OwnToks B w v acc)
    (t : Tok) (g : Nat) (hx : a.eval x = .slice (some ⟨g, 0, none⟩) 1 1) (c0 : w.cell? ⟨g, 0, none⟩ = some (.int .i64 t.kind)) (c1 : w.cell? ⟨g, 1, none⟩ = some (.string t.text))
    (c2 : w.cell? ⟨g, 2, none⟩ = some (.int .i64 t.n)) (c3 : w.cell? ⟨g, 3, none⟩ = some (.int .i64 t.at_)) (hlen : acc.length ≤ 1000000000000) (hbase : B ≤ w.heap.size)
    (h : ∀ v' w', OwnToks B w' v' (acc ++ [t]) → w.grownBy w' v.ownBlock → wpList Tryz.prog ops Q rest (a.put o.dst v') w') : wpList Tryz.prog ops Q (o :: rest) a w := by
  obtain ⟨i0, hi, hz0, hz1, hz2⟩ := info_parts Tryz.info53
  refine wpList_append_own w hgd s x 42 ho B 53 i0 _ 4 40 Tryz.underlying42 hi hz0 hz1 hz2 rfl (by decide) v acc.length _ hs hown ⟨g, 0, none⟩ 1 1 t.cells.toList hx rfl ?_ ?_ (by unfold maxLen; omega) (by omega) hbase ?_
  · intro j u hj
    unfold Tok.cells at hj
    match j, hj with
    | 0, hj => simp at hj; subst hj; simpa [Addr.add] using c0
    | 1, hj => simp at hj; subst hj; simpa [Addr.add] using c1
    | 2, hj => simp at hj; subst hj; simpa [Addr.add] using c2
    | 3, hj => simp at hj; subst hj; simpa [Addr.add] using c3
    | j + 4, hj => simp at hj
  · intro u hu
    unfold Tok.cells at hu
    simp at hu
    rcases hu with rfl | rfl | rfl | rfl <;> rfl
  · intro v' w' hown' hg _
    refine h v' w' ?_ hg
    unfold OwnToks
    rw [List.flatMap_append]
    simpa using hown'

theorem OwnToks.isToks {B : Nat} {w : World} {v : Value} {acc : List Tok} (h : OwnToks B w v acc) (hlen : acc.length ≤ 1000000000000) (ht : ∀ t ∈ acc, t.text.size ≤ maxLen) : IsToks w v acc := by
  refine ⟨by omega, ht, ?_⟩
  unfold OwnToks at h
  rcases h.2 with ⟨rfl, hn⟩ | ⟨g, cap, cur, rfl, hb, hg, _⟩
  · exact .inl ⟨List.length_eq_zero_iff.1 hn, _, _, rfl⟩
  · refine .inr ⟨g, 0, cap, rfl, (Array.getElem?_eq_some_iff.1 hg).1, ?_⟩
    have hc := h.cells (g := g) rfl
    intro i hi
    have key : ∀ (l : List Tok) (i : Nat) (h : i < l.length) (j : Nat), j < 4 → (l.flatMap fun t => t.cells.toList)[i * 4 + j]? = l[i].cells.toList[j]? := by
      intro l
      induction l with
      | nil => intro i h; simp at h
      | cons t r ih =>
        intro i h j hj
        rw [List.flatMap_cons]
        cases i with
        | zero =>
          rw [List.getElem?_append_left (by unfold Tok.cells; simp; omega)]
          simp
        | succ i =>
          rw [List.getElem?_append_right (by unfold Tok.cells; simp; omega)]
          have : (i + 1) * 4 + j - t.cells.toList.length = i * 4 + j := by unfold Tok.cells; simp; omega
          rw [this, ih i (by simpa using h) j hj]
          rfl
    have addr : ∀ k, (⟨g, 0, none⟩ : Addr).add k = ⟨g, 0 + k, none⟩ := fun k => by unfold Addr.add; split <;> simp_all
    refine ⟨?_, ?_, ?_, ?_⟩
    · have := hc (i * 4 + 0) _ ((key acc i hi 0 (by omega)).trans rfl); rw [addr] at this; exact this
    · have := hc (i * 4 + 1) _ ((key acc i hi 1 (by omega)).trans rfl); rw [addr] at this; exact this
    · have := hc (i * 4 + 2) _ ((key acc i hi 2 (by omega)).trans rfl); rw [addr] at this; exact this
    · have := hc (i * 4 + 3) _ ((key acc i hi 3 (by omega)).trans rfl); rw [addr] at this; exact this

/- the part of a string from a place on that meets a test -/
def spanL (p : UInt8 → Bool) (s : ByteArray) (i : Nat) : Nat := ((s.data.toList.drop i).takeWhile p).length
theorem twl_get {p : UInt8 → Bool} : ∀ {l : List UInt8} {k : Nat} (_ : k < (l.takeWhile p).length), ∃ hk, p (l[k]'hk) = true
  | [], k, h => by simp at h
  | c :: r, k, h => by
    rw [List.takeWhile_cons] at h
    split at h
    · rename_i hc
      cases k with
      | zero => exact ⟨by simp, hc⟩
      | succ k =>
        obtain ⟨h', e⟩ := twl_get (l := r) (k := k) (by simpa using h)
        exact ⟨by simpa using h', by simpa using e⟩
    · simp at h
theorem twl_stop {p : UInt8 → Bool} : ∀ {l : List UInt8} (h : (l.takeWhile p).length < l.length), p (l[(l.takeWhile p).length]) = false
  | [], h => by simp at h
  | c :: r, h => by
    by_cases hc : p c = true
    · have e : (c :: r).takeWhile p = c :: r.takeWhile p := by rw [List.takeWhile_cons, if_pos hc]
      simp only [e, List.length_cons] at h ⊢
      simpa using twl_stop (l := r) (by simpa using h)
    · have e : (c :: r).takeWhile p = [] := by rw [List.takeWhile_cons, if_neg hc]
      simp only [e]
      simpa using hc
theorem span_le (p : UInt8 → Bool) (s : ByteArray) (i : Nat) (hi : i ≤ s.size) : i + spanL p s i ≤ s.size := by
  have := twl_le p (s.data.toList.drop i)
  rw [List.length_drop, length_toList] at this
  unfold spanL; omega
theorem span_in {p : UInt8 → Bool} {s : ByteArray} {i k : Nat} (h : k < spanL p s i) : ∃ hk, p (s[i + k]'hk) = true := by
  obtain ⟨h', e⟩ := twl_get h
  rw [List.length_drop, length_toList] at h'
  refine ⟨by omega, ?_⟩
  rw [List.getElem_drop] at e
  exact e
theorem span_stop {p : UInt8 → Bool} {s : ByteArray} {i : Nat} (h : i + spanL p s i < s.size) : p s[i + spanL p s i] = false := by
  have := twl_stop (p := p) (l := s.data.toList.drop i) (by rw [List.length_drop, length_toList]; unfold spanL at h; omega)
  rw [List.getElem_drop] at this
  exact this
theorem span_take (p : UInt8 → Bool) (s : ByteArray) (i : Nat) : (s.extract i (i + spanL p s i)).data.toList = (s.data.toList.drop i).takeWhile p := by
  rw [Lib.extract_data]
  have h := List.prefix_iff_eq_take.1 (List.takeWhile_prefix p (l := s.data.toList.drop i))
  rw [show i + spanL p s i - i = ((s.data.toList.drop i).takeWhile p).length by unfold spanL; omega]
  exact h.symm
theorem extract_size {s : ByteArray} {a b : Nat} (h : a ≤ b) (hb : b ≤ s.size) : (s.extract a b).size = b - a := by
  rw [ByteArray.size_extract]; omega

end Go.Proofs.YtlaifodlnolndaaGreatDoor

/- The document's Lex: the walk. -/
namespace Go.Proofs.YtlaifodlnolndaaGreatDoor
open Go.RowKit

/- how Lex ends: tokens, or the place of an error -/
def LexEnd (w : World) (r : Except Nat (List Tok)) (e : Ending) (w' : World) : Prop :=
  Below w.heap.size w w' ∧ match r with
  | .ok ts => ∃ v, e = .returned (.tuple #[v, .int .i64 0, .int .i64 0]) ∧ IsToks w' v ts
  | .error k => e = .returned (.tuple #[.slice none 0 0, .int .i64 k, .int .i64 30])

/- the state of the scanning at place i -/
def ScanAt (s : ByteArray) (r : Except Nat (List Tok)) (i : Nat) (acc : List Tok) : Prop := r = preT acc (scan (s.data.toList.drop i) i) ∧ ∀ t ∈ acc, t.text.size ≤ 65536

theorem ScanAt.space {s : ByteArray} {r : Except Nat (List Tok)} {i : Nat} {acc : List Tok} (h : ScanAt s r i acc) (hi : i < s.size) (h0 : spaceB s[i] = true) : ScanAt s r (i + 1) acc := by
  refine ⟨?_, h.2⟩
  rw [h.1, drop_cons s i hi, scan_space i h0]

theorem span_at {p : UInt8 → Bool} {s : ByteArray} {i j : Nat} (h1 : i ≤ j) (h : j < i + spanL p s i) : ∃ hk, p (s[j]'hk) = true := by
  obtain ⟨h', e⟩ := span_in (p := p) (s := s) (i := i) (k := j - i) (by omega)
  have e2 : i + (j - i) = j := by omega
  refine ⟨by omega, ?_⟩
  simp only [e2] at e
  exact e
theorem span_out {p : UInt8 → Bool} {s : ByteArray} {i j : Nat} (hj : j = i + spanL p s i) (h : j < s.size) : p s[j] = false := by
  subst hj; exact span_stop h
theorem span_pos {p : UInt8 → Bool} {s : ByteArray} {i : Nat} (h : i < s.size) (hp : p s[i] = true) : 0 < spanL p s i := by
  unfold spanL; rw [drop_cons s i h]; exact twl_pos hp
theorem head_drop (s : ByteArray) (i : Nat) (h : i < s.size) : (s.data.toList.drop i).head? = some s[i] := by rw [drop_cons s i h]; rfl
theorem head_none (s : ByteArray) (i : Nat) (h : ¬ i < s.size) : (s.data.toList.drop i).head? = none := by
  rw [List.drop_of_length_le (by rw [length_toList]; omega)]; rfl

/- does a comment begin at place i? -/
def noteAt (s : ByteArray) (i : Nat) : Prop := ∃ h : i + 1 < s.size, s[i] = 47 ∧ s[i + 1] = 47
theorem noteAt_iff {s : ByteArray} {i : Nat} (hi : i < s.size) : noteAt s i ↔ (s[i] = 47 ∧ (s.data.toList.drop (i + 1)).head? = some 47) := by
  constructor
  · rintro ⟨h, h1, h2⟩
    exact ⟨h1, by rw [head_drop s (i + 1) h, h2]⟩
  · rintro ⟨h1, h2⟩
    by_cases h : i + 1 < s.size
    · rw [head_drop s (i + 1) h] at h2
      exact ⟨h, h1, by simpa using h2⟩
    · rw [head_none s (i + 1) h] at h2; simp at h2

theorem ScanAt.note {s : ByteArray} {r : Except Nat (List Tok)} {i j : Nat} {acc : List Tok} (h : ScanAt s r i acc) (hi : i < s.size) (h0 : spaceB s[i] = false) (h1 : noteAt s i) (hj : j = i + spanL notLf s i) : ScanAt s r j acc := by
  refine ⟨?_, h.2⟩
  subst hj
  rw [h.1, drop_cons s i hi, scan_note i h0 ((noteAt_iff hi).1 h1), ← drop_cons s i hi, List.drop_drop]; rfl
theorem ScanAt.name {s : ByteArray} {r : Except Nat (List Tok)} {i j : Nat} {acc : List Tok} (h : ScanAt s r i acc) (hi : i < s.size) (hs : s.size ≤ 65536) (h0 : spaceB s[i] = false) (h1 : ¬ noteAt s i) (h2 : letterB s[i] = true)
    (hj : j = i + spanL partB s i) (hn : nameB (s.extract i j).data.toList = true) : ScanAt s r j (acc ++ [⟨1, s.extract i j, 0, i⟩]) := by
  subst hj
  refine ⟨?_, ?_⟩
  · rw [span_take] at hn
    have e := mk_eq (span_take partB s i)
    rw [h.1, e, drop_cons s i hi, scan_name i h0 (fun hh => h1 ((noteAt_iff hi).2 hh)) h2, ← drop_cons s i hi, if_pos hn, preT_preT, List.drop_drop]; rfl
  · intro t ht
    rcases List.mem_append.1 ht with ht | ht
    · exact h.2 t ht
    · simp at ht; subst ht
      have := span_le partB s i (by omega)
      show (s.extract i _).size ≤ _
      rw [extract_size (by omega) this]; omega
theorem ScanAt.noname {s : ByteArray} {r : Except Nat (List Tok)} {i j : Nat} {acc : List Tok} (h : ScanAt s r i acc) (hi : i < s.size) (h0 : spaceB s[i] = false) (h1 : ¬ noteAt s i) (h2 : letterB s[i] = true)
    (hj : j = i + spanL partB s i) (hn : nameB (s.extract i j).data.toList = false) : r = .error i := by
  subst hj
  rw [span_take] at hn
  rw [h.1, drop_cons s i hi, scan_name i h0 (fun hh => h1 ((noteAt_iff hi).2 hh)) h2, ← drop_cons s i hi, hn]; rfl
theorem ScanAt.number {s : ByteArray} {r : Except Nat (List Tok)} {i j : Nat} {acc : List Tok} (h : ScanAt s r i acc) (hi : i < s.size) (h0 : spaceB s[i] = false) (h1 : ¬ noteAt s i) (h2 : letterB s[i] = false) (h3 : digitB s[i] = true)
    (hj : j = i + spanL digitB s i) (n : Int) (hn : refNumber (s.extract i j).data.toList = (n, true)) : ScanAt s r j (acc ++ [⟨2, ⟨#[]⟩, n, i⟩]) := by
  subst hj
  refine ⟨?_, ?_⟩
  · rw [span_take] at hn
    rw [h.1, drop_cons s i hi, scan_number i h0 (fun hh => h1 ((noteAt_iff hi).2 hh)) h2 h3, ← drop_cons s i hi, hn, if_pos rfl, preT_preT, List.drop_drop]; rfl
  · intro t ht
    rcases List.mem_append.1 ht with ht | ht
    · exact h.2 t ht
    · simp at ht; subst ht; exact Nat.zero_le _
theorem ScanAt.nonumber {s : ByteArray} {r : Except Nat (List Tok)} {i j : Nat} {acc : List Tok} (h : ScanAt s r i acc) (hi : i < s.size) (h0 : spaceB s[i] = false) (h1 : ¬ noteAt s i) (h2 : letterB s[i] = false) (h3 : digitB s[i] = true)
    (hj : j = i + spanL digitB s i) (n : Int) (hn : refNumber (s.extract i j).data.toList = (n, false)) : r = .error i := by
  subst hj
  rw [span_take] at hn
  rw [h.1, drop_cons s i hi, scan_number i h0 (fun hh => h1 ((noteAt_iff hi).2 hh)) h2 h3, ← drop_cons s i hi, hn]; rfl
theorem extract_one (s : ByteArray) (i : Nat) (h : i < s.size) : (s.extract i (i + 1)).data.toList = [s[i]] := by
  rw [Lib.extract_data, drop_cons s i h, show i + 1 - i = 1 by omega]; rfl
theorem ScanAt.sign {s : ByteArray} {r : Except Nat (List Tok)} {i : Nat} {acc : List Tok} (h : ScanAt s r i acc) (hi : i < s.size) (h0 : spaceB s[i] = false) (h1 : ¬ noteAt s i) (h2 : letterB s[i] = false) (h3 : digitB s[i] = false) (h4 : signB s[i] = true) :
    ScanAt s r (i + 1) (acc ++ [⟨3, s.extract i (i + 1), 0, i⟩]) := by
  refine ⟨?_, ?_⟩
  · have e := mk_eq (extract_one s i hi)
    rw [h.1, e, drop_cons s i hi, scan_sign i h0 (fun hh => h1 ((noteAt_iff hi).2 hh)) h2 h3 h4, preT_preT]
  · intro t ht
    rcases List.mem_append.1 ht with ht | ht
    · exact h.2 t ht
    · simp at ht; subst ht
      show (s.extract i _).size ≤ _
      rw [extract_size (by omega) (by omega)]; omega
theorem ScanAt.wrong {s : ByteArray} {r : Except Nat (List Tok)} {i : Nat} {acc : List Tok} (h : ScanAt s r i acc) (hi : i < s.size) (h0 : spaceB s[i] = false) (h1 : ¬ noteAt s i) (h2 : letterB s[i] = false) (h3 : digitB s[i] = false) (h4 : signB s[i] = false) :
    r = .error i := by
  rw [h.1, drop_cons s i hi, scan_wrong i h0 (fun hh => h1 ((noteAt_iff hi).2 hh)) h2 h3 h4]; rfl
theorem ScanAt.done {s : ByteArray} {r : Except Nat (List Tok)} {i : Nat} {acc : List Tok} (h : ScanAt s r i acc) (hi : ¬ i < s.size) : r = .ok acc := by
  rw [h.1, List.drop_of_length_le (by rw [length_toList]; omega), scan_nil]; simp [preT]

theorem span_digits {s : ByteArray} {i : Nat} (hi : i ≤ s.size) : ∀ k (h : k < (s.extract i (i + spanL digitB s i)).size), digitB (s.extract i (i + spanL digitB s i))[k] = true := by
  intro k h
  have h' := h
  have hle := span_le digitB s i hi
  rw [extract_size (by omega) hle] at h'
  rw [ByteArray.getElem_extract]
  obtain ⟨_, e⟩ := span_in (p := digitB) (s := s) (i := i) (k := k) (by omega)
  exact e

theorem OwnToks.alloc {B : Nat} {w : World} {v : Value} {acc : List Tok} (h : OwnToks B w v acc) (o : Obj) : OwnToks B (w.alloc o) v acc := World.ownsRow.alloc h o
theorem OwnToks.drewN {B : Nat} {w : World} {v : Value} {acc : List Tok} (h : OwnToks B w v acc) (q : Nat) : OwnToks B (w.drewN q) v acc := h
theorem below_drewN {B : Nat} {w w' : World} (h : Below B w w') (q : Nat) : Below B w (w'.drewN q) := ⟨h.os, h.tape, h.output, h.size, h.block⟩
theorem OwnToks.lt {B : Nat} {w : World} {v : Value} {acc : List Tok} (h : OwnToks B w v acc) : ∀ k, v.ownBlock = some k → B ≤ k := fun k hk => (World.ownsRow.lt h k hk).1

/- append of a token that lies in a block laid just now -/
theorem append_new {ops : Array Oper} {rest : List Oper} {o : Oper} {a : Act} {Q : Exit → Act → World → Prop} {w : World} (B : Nat) (hgd : o.guard = none) (s x : Operand)
    (ho : o.op = .call { callee := .builtin .append, args := #[s, x], argTypes := #[42, 42] }) (v : Value) (acc : List Tok) (hs : a.eval s = v) (hown : OwnToks B w v acc)
    (t : Tok) (hx : a.eval x = .slice (some ⟨w.heap.size, 0, none⟩) 1 1) (hlen : acc.length ≤ 1000000000000) (hbase : B ≤ w.heap.size)
    (h : ∀ v' w', OwnToks B w' v' (acc ++ [t]) → (w.alloc (.cells t.cells 53)).grownBy w' v.ownBlock → wpList Tryz.prog ops Q rest (a.put o.dst v') w') : wpList Tryz.prog ops Q (o :: rest) a (w.alloc (.cells t.cells 53)) := by
  refine append_tok B hgd s x ho v acc hs (hown.alloc _) t w.heap.size hx ?_ ?_ ?_ ?_ hlen (by simp; omega) h
  all_goals (unfold Tok.cells; simp [go_sem])
theorem grown_below {B : Nat} {w0 w : World} {v : Value} {acc : List Tok} (hB : Below B w0 w) (hown : OwnToks B w v acc) (hz : B ≤ w.heap.size) {C : Array Value} {w' : World} (hg : (w.alloc (.cells C 53)).grownBy w' v.ownBlock) : Below B w0 w' :=
  (hB.alloc hz _).grown hg (by simp; omega) hown.lt

end Go.Proofs.YtlaifodlnolndaaGreatDoor

/- The document's Lex: the walk through its loops. -/
namespace Go.Proofs.YtlaifodlnolndaaGreatDoor
open Go.RowKit

theorem ret3 {v v' : Value} {a a' b b' : Int} (h0 : v = v') (h : a = a') (h' : b = b') : Ending.returned (.tuple #[v, .int .i64 a, .int .i64 b]) = .returned (.tuple #[v', .int .i64 a', .int .i64 b']) := by rw [h0, h, h']

theorem slice_is (s : ByteArray) (a b : Nat) (b' : Int) (hb : b' = b) (h1 : a ≤ b) (h2 : b ≤ s.size) : ∀ wx, (Instr.slice 9 (.string s) (some (.int .i64 (a : Int))) (some (.int .i64 b')) none).run Tryz.prog wx = .ok (.string (s.extract a b)) wx := by
  intro wx
  have := run_slice_string (P := Tryz.prog) wx 9 s .i64 .i64 (a : Int) (b : Int) Tryz.underlying9 (by omega) (by omega) (by omega)
  rw [hb]
  simpa using this

theorem own_quiet {B : Nat} {w w' : World} {v : Value} {acc : List Tok} (h : OwnToks B w v acc) (hq : ∃ q, w' = w.drewN q) : OwnToks B w' v acc := by
  obtain ⟨q, rfl⟩ := hq; exact h
theorem below_quiet {B : Nat} {w0 w w' : World} (h : Below B w0 w) (hq : ∃ q, w' = w.drewN q) : Below B w0 w' := by
  obtain ⟨q, rfl⟩ := hq; exact below_drewN h q

end Go.Proofs.YtlaifodlnolndaaGreatDoor

/- The scanner: run, and the methods. -/
namespace Go.Proofs.YtlaifodlnolndaaGreatDoor
open Go.RowKit

def inB (zs : List Int) (c : UInt8) : Bool := zs.contains (classF c)

theorem contains_is (b off n c : Nat) (zs : List Int) (x : Int) (N : Bool) (hN : zs.contains x = N) (w : World) (hz : zs.length = n) (hbig : n ≤ 100) (hc : ∀ j, j < zs.length → w.cell? ⟨b, off + j, none⟩ = some (.int .i64 (zs.getD j 0))) :
    Calls Tryz.prog 70 #[.slice (some ⟨b, off, none⟩) n c, .int .i64 x] w fun e w' => e = .returned (.bool N) ∧ w = w' := by
  refine (Tryz.slices_Contains_int b off n c zs x w (by omega) (by omega) hc).mono fun _ _ h => ⟨?_, h.2.symm⟩
  rw [h.1, ← hz, List.take_of_length_le (Nat.le_refl _), hN]

/- the scanner's cells -/
def ScanCells (w : World) (p : Nat) (s : ByteArray) (i : Nat) (v : Value) : Prop := w.heap[p]? = some (.cells #[.string s, .int .i64 i, v] 80 (0, 0))

set_option maxRecDepth 100000 in
set_option maxHeartbeats 4000000 in
theorem run_any (p : Nat) (s : ByteArray) (i : Nat) (v : Value) (b : Nat) (n c : Nat) (zs : List Int) (w : World) (hs : s.size ≤ 65536) (hi : i ≤ s.size) (hp : ScanCells w p s i v)
    (hz : zs.length = n) (hbig : n ≤ 100) (hc : ∀ j, j < zs.length → w.cell? ⟨b, 0 + j, none⟩ = some (.int .i64 (zs.getD j 0))) :
    Calls Tryz.prog 52 #[.pointer (some ⟨p, 0, none⟩), .slice (some ⟨b, 0, none⟩) n c] w fun e w' => e = .returned (.string (s.extract i (i + spanL (inB zs) s i))) ∧ ∃ q, w' = w.drewN q := by
  have c0 : w.cell? ⟨p, 0, none⟩ = some (.string s) := by unfold ScanCells at hp; simp [World.cell?, hp]
  have c1 : w.cell? ⟨p, 1, none⟩ = some (.int .i64 i) := by unfold ScanCells at hp; simp [World.cell?, hp]
  have hle := span_le (inB zs) s i hi
  have HA := Lib.hid (fun j h1 h2 => span_at (p := inB zs) (s := s) (i := i) (j := j) h1 h2)
  have HO := Lib.hid (fun j h1 h2 => span_out (p := inB zs) (s := s) (i := i) (j := j) h1 h2)
  have HC := Lib.hid (fun x N h => contains_is b 0 n c zs x N h w hz hbig hc)
  clear hz hc hp
  generalize hT : spanL (inB zs) s i = T at hle HA HO ⊢
  clear hT
  go_enter Tryz.func52, Tryz.ntmps52
  go_wp2
  go_loop [5] (fun jv => ∃ j : Nat, jv = .int .i64 j ∧ i ≤ j ∧ j ≤ i + T) (fun jv => s.size - (intOf jv).toNat)
  case atStart => exact ⟨i, rfl, Nat.le_refl _, by omega⟩
  case round =>
    obtain ⟨j, rfl, hj1, hj2⟩ := hrel
    by_cases hjl : j < i + T
    · obtain ⟨hjs, hjp⟩ := HA.out j hj1 hjl
      have Hcl := Lib.hid (HC.out _ true hjp)
      clear hjp
      go_wp2_with (first | (go_at_call 31; refine (class_any _ _).mono ?_; rintro e w' ⟨rfl, rfl⟩) | (go_at_call 70; refine Hcl.out.mono ?_; rintro e w' ⟨rfl, rfl⟩))
      exact ⟨⟨j + 1, by go_num, by omega, by omega⟩, by simp [intOf]; omega⟩
    · have hje : j = i + T := by omega
      have HO' := Lib.hid (HO.out j hje)
      have hsl := slice_is s i j j rfl hj1 (by omega)
      have Hje := Lib.hid hje
      clear hje HO HA
      by_cases hjs : j < s.size
      · have Hcl := Lib.hid (HC.out _ false (HO'.out hjs))
        clear HO'
        go_wp2_with (first | (go_at_call 31; refine (class_any _ _).mono ?_; rintro e w' ⟨rfl, rfl⟩) | (go_at_call 70; refine Hcl.out.mono ?_; rintro e w' ⟨rfl, rfl⟩))
        go_quiet (fail)
        go_wp2
        go_ret
        exact ⟨by rw [← Hje.out]; rfl, _, rfl⟩
      · clear HO'
        go_wp2
        go_quiet (fail)
        go_wp2
        go_ret
        exact ⟨by rw [← Hje.out]; rfl, _, rfl⟩

end Go.Proofs.YtlaifodlnolndaaGreatDoor

/- The scanner: add. -/
namespace Go.Proofs.YtlaifodlnolndaaGreatDoor
open Go.RowKit

theorem OwnToks.form {B : Nat} {w : World} {v : Value} {acc : List Tok} (h : OwnToks B w v acc) : ∃ a n c, v = .slice a n c := by
  rcases h.2 with ⟨rfl, _⟩ | ⟨g, cap, cur, rfl, _⟩ <;> exact ⟨_, _, _, rfl⟩
theorem step_append_new {ops : Array Oper} {o : Oper} {a : Act} {K : Act → World → Prop} {Q : Exit → Act → World → Prop} {E : Prop} {W : World} (w : World) (B : Nat) (hgd : o.guard = none) (s x : Operand)
    (ho : o.op = .call { callee := .builtin .append, args := #[s, x], argTypes := #[42, 42] }) (v : Value) (acc : List Tok) (hs : a.eval s = v) (hown : OwnToks B w v acc)
    (t : Tok) (hx : a.eval x = .slice (some ⟨w.heap.size, 0, none⟩) 1 1) (hlen : acc.length ≤ 1000000000000) (hbase : B ≤ w.heap.size) (hW : W = (w.alloc (.cells t.cells 53)).drew)
    (h : ∀ (ad : Option Addr) (n c : Nat) w', OwnToks B w' (.slice ad n c) (acc ++ [t]) → (w.alloc (.cells t.cells 53)).grownBy w' v.ownBlock → K (a.put o.dst (.slice ad n c)) w') :
    if Region.wanted o (yielded ops a.tmps) = true then Oper.wp Tryz.prog o a W K Q else E := by
  have hw : Region.wanted o (yielded ops a.tmps) = true := by simp [Region.wanted, hgd]
  rw [if_pos hw]
  subst hW
  obtain ⟨i0, hi, hz0, hz1, hz2⟩ := info_parts Tryz.info53
  refine wp_append_own (w.alloc (.cells t.cells 53)).drew s x 42 ho B 53 i0 _ 4 40 Tryz.underlying42 hi hz0 hz1 hz2 rfl (by decide) v acc.length _ hs (show OwnToks B _ v acc from hown.alloc _) ⟨w.heap.size, 0, none⟩ 1 1 t.cells.toList hx rfl ?_ ?_ (by unfold maxLen; omega) (by omega) (by simp; omega) ?_
  · intro j u hj
    unfold Tok.cells at hj ⊢
    match j, hj with
    | 0, hj => simp at hj; subst hj; simp [Addr.add, go_sem]
    | 1, hj => simp at hj; subst hj; simp [Addr.add, go_sem]
    | 2, hj => simp at hj; subst hj; simp [Addr.add, go_sem]
    | 3, hj => simp at hj; subst hj; simp [Addr.add, go_sem]
    | j + 4, hj => simp at hj
  · intro u hu
    unfold Tok.cells at hu
    simp at hu
    rcases hu with rfl | rfl | rfl | rfl <;> rfl
  · intro v' w' hown' hg _
    have ho2 : OwnToks B w' v' (acc ++ [t]) := by
      unfold OwnToks
      rw [List.flatMap_append]
      simpa using hown'
    obtain ⟨ad, n, c, rfl⟩ := ho2.form
    exact h ad n c w' ho2 ⟨hg.os, hg.tape, hg.output, hg.size, hg.block⟩

theorem bcell {W w1 : World} (hb : Below W.heap.size W w1) : (∀ b o, b < W.heap.size → w1.cell? ⟨b, o, none⟩ = W.cell? ⟨b, o, none⟩) ∧ (∀ b o, b < W.heap.size → w1.frozen? ⟨b, o, none⟩ = W.frozen? ⟨b, o, none⟩) :=
  ⟨fun b o h => hb.cell (p := ⟨b, o, none⟩) h, fun b o h => hb.frozen (p := ⟨b, o, none⟩) h⟩

theorem scan_cell {w : World} {p : Nat} {s : ByteArray} {i : Nat} {v : Value} (h : ScanCells w p s i v) : w.cell? ⟨p, 0, none⟩ = some (.string s) ∧ w.cell? ⟨p, 1, none⟩ = some (.int .i64 i) ∧ w.cell? ⟨p, 2, none⟩ = some v ∧
    w.frozen? ⟨p, 1, none⟩ = false ∧ w.frozen? ⟨p, 2, none⟩ = false ∧ p < w.heap.size := by
  unfold ScanCells at h
  refine ⟨by simp [World.cell?, h], by simp [World.cell?, h], by simp [World.cell?, h], by simp [World.frozen?, h], by simp [World.frozen?, h], (Array.getElem?_eq_some_iff.1 h).1⟩

theorem OwnToks.of_below {B : Nat} {w w' : World} {v : Value} {acc : List Tok} (h : OwnToks B w v acc) (hb : Below w.heap.size w w') : OwnToks B w' v acc := by
  have hlt := h.lt
  unfold OwnToks at h ⊢
  refine ⟨h.1, ?_⟩
  rcases h.2 with hn | ⟨g, cap, cur, hv, hg, hh, rest⟩
  · exact .inl hn
  · exact .inr ⟨g, cap, cur, hv, hg, by rw [hb.block g (Array.getElem?_eq_some_iff.1 hh).1]; exact hh, rest⟩
theorem OwnToks.of_other {B : Nat} {w : World} {v : Value} {acc : List Tok} (h : OwnToks B w v acc) (a : Addr) (u : Value) (ha : a.block < B) : OwnToks B (w.setCell a u) v acc :=
  ownsRow_setCell_below h ha u

theorem _root_.Go.World.grownBy.cell_of {w w' : World} {o : Obj} {row : Option Nat} (hg : (w.alloc o).grownBy w' row) {p j : Nat} (hr : row ≠ some p) (hlt : p < w.heap.size) {u : Value} (h : w.cell? ⟨p, j, none⟩ = some u) : w'.cell? ⟨p, j, none⟩ = some u := by
  have hb := (hg.block p (by simp; omega) (Ne.symm hr)).trans (Below.heap_alloc w o p hlt)
  rw [World.cell?_of_block (a := ⟨p, j, none⟩) hb]; exact h
theorem _root_.Go.World.grownBy.frozen_of {w w' : World} {o : Obj} {row : Option Nat} (hg : (w.alloc o).grownBy w' row) {p j : Nat} (hr : row ≠ some p) (hlt : p < w.heap.size) {u : Bool} (h : w.frozen? ⟨p, j, none⟩ = u) : w'.frozen? ⟨p, j, none⟩ = u := by
  have hb := (hg.block p (by simp; omega) (Ne.symm hr)).trans (Below.heap_alloc w o p hlt)
  rw [World.frozen?_of_block (a := ⟨p, j, none⟩) hb]; exact h

theorem ScanCells.of_grown {w w4 w5 : World} {p : Nat} {s : ByteArray} {i : Nat} {v : Value} {o : Obj} {row : Option Nat} (h : ScanCells w p s i v) (hb : Below w.heap.size w w4) (hlt : p < w.heap.size) (hr : row ≠ some p) (hg : (w4.alloc o).grownBy w5 row) : ScanCells w5 p s i v := by
  have hz := hb.size
  have e := (hg.block p (by simp; omega) (Ne.symm hr)).trans (Below.heap_alloc w4 o p (by omega))
  unfold ScanCells at h ⊢
  rw [e, hb.block p hlt]; exact h
theorem ScanCells.set2 {w : World} {p : Nat} {s : ByteArray} {i : Nat} {v : Value} (h : ScanCells w p s i v) (v' : Value) : ScanCells (w.setCell ⟨p, 2, none⟩ v') p s i v' := by
  unfold ScanCells at h ⊢
  simp [World.setCell, Array.getElem?_modify, h]
theorem ScanCells.set1 {w : World} {p : Nat} {s : ByteArray} {i : Nat} {v : Value} (h : ScanCells w p s i v) (n : Int) (j : Nat) (hj : n = j) : ScanCells (w.setCell ⟨p, 1, none⟩ (.int .i64 n)) p s j v := by
  subst hj
  unfold ScanCells at h ⊢
  simp [World.setCell, Array.getElem?_modify, h]

/- how a method of the scanner ends: it goes on at place j, or an error is told -/
def Stepped (p : Nat) (s : ByteArray) (w : World) (r : Except Nat (Nat × List Tok)) (e : Ending) (w' : World) : Prop :=
  Below p w w' ∧ match r with
  | .ok (j, acc) => e = .returned (.tuple #[]) ∧ ∃ v, ScanCells w' p s j v ∧ OwnToks (p + 1) w' v acc
  | .error k => e = .panicked [{ v := .iface 73 (.int .i64 k), recovered := false }]

set_option maxRecDepth 100000 in
set_option maxHeartbeats 4000000 in
theorem add_bad (p : Nat) (s : ByteArray) (i : Nat) (v : Value) (tx : ByteArray) (t : Tok) (w : World) (hp : ScanCells w p s i v) (ht : t.text.size ≤ maxLen) (hv : validB t = false) :
    Calls Tryz.prog 53 #[.pointer (some ⟨p, 0, none⟩), .string tx, .agg t.cells] w (Stepped p s w (.error i)) := by
  obtain ⟨c0, c1, c2, f1, f2, hlt⟩ := scan_cell hp
  have Hv := Lib.hid (fun wx => valid_any t wx ht)
  obtain ⟨kd, x, n, a⟩ := t
  unfold Tok.cells at Hv ⊢
  dsimp only at ht Hv ⊢
  rw [hv] at Hv
  clear hp hv
  go_enter Tryz.func53, Tryz.ntmps53
  go_wp2_with (first | (go_at_call 71; refine (Hv.out _).mono ?_; rintro e w1 ⟨rfl, hb⟩; obtain ⟨hc, hf⟩ := bcell hb))
  exact ⟨rfl, (((Below.refl p w).alloc (by omega) _).trans (hb.mono (by simp; omega))), rfl⟩

set_option maxRecDepth 100000 in
set_option maxHeartbeats 4000000 in
theorem add_good (p : Nat) (s : ByteArray) (i : Nat) (v : Value) (acc : List Tok) (tx : ByteArray) (t : Tok) (w : World) (hp : ScanCells w p s i v) (hown : OwnToks (p + 1) w v acc) (hacc : acc.length ≤ 1000000) (hi : i ≤ 1000000) (htx : tx.size ≤ 1000000)
    (ht : t.text.size ≤ maxLen) (hv : validB t = true) :
    Calls Tryz.prog 53 #[.pointer (some ⟨p, 0, none⟩), .string tx, .agg t.cells] w (Stepped p s w (.ok (i + tx.size, acc ++ [{ t with at_ := i }]))) := by
  obtain ⟨c0, c1, c2, f1, f2, hlt⟩ := scan_cell hp
  have Hv := Lib.hid (fun wx => valid_any t wx ht)
  obtain ⟨kd, x, n, a⟩ := t
  unfold Tok.cells at Hv ⊢
  dsimp only at ht Hv ⊢
  rw [hv] at Hv
  have Hp := Lib.hid hp
  clear hp hv
  go_enter Tryz.func53, Tryz.ntmps53
  go_wp2_with (first | (go_at_call 71; refine (Hv.out _).mono ?_; rintro e w1 ⟨rfl, hb⟩; obtain ⟨hc, hf⟩ := bcell hb))
  have hB1 : Below w.heap.size w w1 := ((Below.refl _ w).alloc (Nat.le_refl _) _).trans (hb.mono (by simp))
  have hz1 : w.heap.size + 1 ≤ w1.heap.size := by have := hb.size; simpa using this
  have e0 : w1.cell? ⟨w.heap.size, 0, none⟩ = some (.int .i64 kd) := by rw [hc _ _ (by simp)]; simp [go_sem]
  have e1 : w1.cell? ⟨w.heap.size, 1, none⟩ = some (.string x) := by rw [hc _ _ (by simp)]; simp [go_sem]
  have e2 : w1.cell? ⟨w.heap.size, 2, none⟩ = some (.int .i64 n) := by rw [hc _ _ (by simp)]; simp [go_sem]
  have e3 : w1.cell? ⟨w.heap.size, 3, none⟩ = some (.int .i64 a) := by rw [hc _ _ (by simp)]; simp [go_sem]
  have hB4 := hB1.setCell (p := ⟨w.heap.size, 3, none⟩) (Nat.le_refl _) (.int .i64 i)
  have g0 : (w1.setCell ⟨w.heap.size, 3, none⟩ (.int .i64 i)).cell? ⟨w.heap.size, 0, none⟩ = some (.int .i64 kd) := by simp [go_sem, e0]
  have g1 : (w1.setCell ⟨w.heap.size, 3, none⟩ (.int .i64 i)).cell? ⟨w.heap.size, 1, none⟩ = some (.string x) := by simp [go_sem, e1]
  have g2 : (w1.setCell ⟨w.heap.size, 3, none⟩ (.int .i64 i)).cell? ⟨w.heap.size, 2, none⟩ = some (.int .i64 n) := by simp [go_sem, e2]
  have g3 : (w1.setCell ⟨w.heap.size, 3, none⟩ (.int .i64 i)).cell? ⟨w.heap.size, 3, none⟩ = some (.int .i64 i) := by simp [go_sem, e3]
  have hz4 : (w1.setCell ⟨w.heap.size, 3, none⟩ (.int .i64 i)).heap.size = w1.heap.size := by simp
  generalize (w1.setCell ⟨w.heap.size, 3, none⟩ (.int .i64 i)) = w4 at hB4 g0 g1 g2 g3 hz4 ⊢
  rw [← hz4] at hz1
  clear hz4 hc hf hb hB1 e0 e1 e2 e3 Hv
  rw [← hB4.cell (p := ⟨p, 0, none⟩) hlt] at c0
  rw [← hB4.cell (p := ⟨p, 1, none⟩) hlt] at c1
  rw [← hB4.cell (p := ⟨p, 2, none⟩) hlt] at c2
  rw [← hB4.frozen (p := ⟨p, 1, none⟩) hlt] at f1
  rw [← hB4.frozen (p := ⟨p, 2, none⟩) hlt] at f2
  have hown4 := hown.of_below hB4
  have hp4 : p + 1 ≤ w4.heap.size := by omega
  have hacc' : acc.length ≤ 1000000000000 := by omega
  have ho1 : v.ownBlock ≠ some p := fun e => by have := hown4.lt p e; omega
  have hlt4 : p < w4.heap.size := by omega
  go_region_law (refine step_append_new w4 (p + 1) rfl _ _ rfl v acc rfl hown4 ⟨kd, x, n, i⟩ rfl hacc' hp4 rfl ?_; intro ad n' c' w5 hown5 hg5; have k0 := (hg5.cell_of ho1 hlt4 c0); have k1 := (hg5.cell_of ho1 hlt4 c1); have k2 := (hg5.cell_of ho1 hlt4 c2); have k3 := (hg5.frozen_of ho1 hlt4 f1); have k4 := (hg5.frozen_of ho1 hlt4 f2); have Hp5 := Lib.hid (Hp.out.of_grown hB4 hlt ho1 hg5); clear c0 c1 c2 f1 f2)
  all_goals
    go_wp2
    go_end0
    refine ⟨?_, rfl, _, ((Hp5.out.set2 _).set1 _ _ rfl), (hown5.of_other _ _ (by simp)).of_other _ _ (by simp)⟩
    exact (((grown_below (hB4.mono (by omega)) hown4 hp4 hg5).mono (Nat.le_succ p)).setCell (p := ⟨p, 2, none⟩) (Nat.le_refl _) _).setCell (p := ⟨p, 1, none⟩) (Nat.le_refl _) _

end Go.Proofs.YtlaifodlnolndaaGreatDoor

/- The scanner's methods: wrong, space, name. -/
namespace Go.Proofs.YtlaifodlnolndaaGreatDoor
open Go.RowKit

theorem in_space : inB [1] = spaceB := by
  funext c
  have := all_u8 (fun c => inB [1] c == spaceB c) (by decide +kernel) c
  simpa using this
theorem in_part : inB [2, 3, 5] = partB := by
  funext c
  have := all_u8 (fun c => inB [2, 3, 5] c == partB c) (by decide +kernel) c
  simpa using this
theorem in_digit : inB [3] = digitB := by
  funext c
  have := all_u8 (fun c => inB [3] c == digitB c) (by decide +kernel) c
  simpa using this

theorem ScanCells.alloc {w : World} {p : Nat} {s : ByteArray} {i : Nat} {v : Value} (h : ScanCells w p s i v) (o : Obj) : ScanCells (w.alloc o) p s i v := by
  have hlt := (scan_cell h).2.2.2.2.2
  unfold ScanCells at h ⊢
  rw [Below.heap_alloc w o p hlt]; exact h
theorem ScanCells.drew {w : World} {p : Nat} {s : ByteArray} {i : Nat} {v : Value} (h : ScanCells w p s i v) : ScanCells w.drew p s i v := h
theorem ScanCells.drewN {w : World} {p : Nat} {s : ByteArray} {i : Nat} {v : Value} (h : ScanCells w p s i v) (q : Nat) : ScanCells (w.drewN q) p s i v := h

set_option maxRecDepth 100000 in
set_option maxHeartbeats 4000000 in
theorem wrong_any (p : Nat) (s : ByteArray) (i : Nat) (v : Value) (w : World) (hp : ScanCells w p s i v) :
    Calls Tryz.prog 26 #[.pointer (some ⟨p, 0, none⟩)] w (Stepped p s w (.error i)) := by
  obtain ⟨c0, c1, c2, f1, f2, hlt⟩ := scan_cell hp
  clear hp
  go_enter Tryz.func26, Tryz.ntmps26
  go_wp2
  exact ⟨rfl, Below.refl _ _, rfl⟩

set_option maxRecDepth 100000 in
set_option maxHeartbeats 4000000 in
theorem space_step (p : Nat) (s : ByteArray) (i : Nat) (v : Value) (acc : List Tok) (w : World) (hp : ScanCells w p s i v) (hown : OwnToks (p + 1) w v acc) (hs : s.size ≤ 65536) (hi : i ≤ s.size) :
    Calls Tryz.prog 27 #[.pointer (some ⟨p, 0, none⟩)] w (Stepped p s w (.ok (i + spanL spaceB s i, acc))) := by
  obtain ⟨c0, c1, c2, f1, f2, hlt⟩ := scan_cell hp
  have Hr := Lib.hid (run_any p s i v w.heap.size 1 1 [1] ((w.alloc (.cells #[.int .i64 1] 3)).drew) hs hi (hp.alloc _) rfl (by omega) (fun j hj => by
    obtain rfl : j = 0 := by (simp at hj; omega)
    simp [go_sem]))
  rw [in_space] at Hr
  have Hp := Lib.hid hp
  have hle := span_le spaceB s i hi
  have hsz := extract_size (s := s) (show i ≤ i + spanL spaceB s i by omega) hle
  generalize spanL spaceB s i = T at Hr hle hsz ⊢
  generalize s.extract i (i + T) = x at Hr hsz ⊢
  have hszle : x.size ≤ 65536 := by omega
  have Hsz := Lib.hid hsz
  clear hp hsz
  go_enter Tryz.func27, Tryz.ntmps27
  go_wp2
  go_region_law (go_simp; go_at_call 52; refine Hr.out.mono ?_; rintro e w1 ⟨rfl, q, rfl⟩)
  all_goals
    have hw : IntKind.i64.wrap ((i : Int) + x.size) = ((i + T : Nat) : Int) := by rw [IntWalk.i64_in _ (by omega)]; have := Hsz.out; omega
    go_end0
    refine ⟨?_, rfl, v, ((Hp.out.alloc _).drewN _).set1 _ _ hw, ((hown.alloc _).drewN _).of_other _ _ (Nat.lt_succ_self p)⟩
    exact (below_drewN ((Below.refl p w).alloc (by omega) _) _).setCell (p := ⟨p, 1, none⟩) (Nat.le_refl _) _

theorem add_yes (p : Nat) (s : ByteArray) (i : Nat) (v : Value) (acc : List Tok) (tx : ByteArray) (kd : Int) (x : ByteArray) (n a : Int) (w0 w : World) (hB : Below p w0 w) (hp : ScanCells w p s i v) (hown : OwnToks (p + 1) w v acc) (hacc : acc.length ≤ 1000000) (hi : i ≤ 1000000) (htx : tx.size ≤ 1000000)
    (ht : x.size ≤ maxLen) (hv : validB ⟨kd, x, n, a⟩ = true) (j : Nat) (hj : j = i + tx.size) :
    Calls Tryz.prog 53 #[.pointer (some ⟨p, 0, none⟩), .string tx, .agg #[.int .i64 kd, .string x, .int .i64 n, .int .i64 a]] w fun e w' => e = .returned (.tuple #[]) ∧ Stepped p s w0 (.ok (j, acc ++ [⟨kd, x, n, i⟩])) e w' := by
  subst hj
  exact (add_good p s i v acc tx ⟨kd, x, n, a⟩ w hp hown hacc hi htx ht hv).mono fun _ _ h => ⟨h.2.1, hB.trans h.1, h.2⟩
theorem add_no (p : Nat) (s : ByteArray) (i : Nat) (v : Value) (tx : ByteArray) (kd : Int) (x : ByteArray) (n a : Int) (w0 w : World) (hB : Below p w0 w) (hp : ScanCells w p s i v) (ht : x.size ≤ maxLen) (hv : validB ⟨kd, x, n, a⟩ = false) :
    Calls Tryz.prog 53 #[.pointer (some ⟨p, 0, none⟩), .string tx, .agg #[.int .i64 kd, .string x, .int .i64 n, .int .i64 a]] w fun e w' => e = .panicked [{ v := .iface 73 (.int .i64 i), recovered := false }] ∧ Stepped p s w0 (.error i) e w' :=
  (add_bad p s i v tx ⟨kd, x, n, a⟩ w hp ht hv).mono fun _ _ h => ⟨h.2, hB.trans h.1, h.2⟩

set_option maxRecDepth 100000 in
set_option maxHeartbeats 4000000 in
theorem name_step (p : Nat) (s : ByteArray) (i : Nat) (v : Value) (acc : List Tok) (w : World) (hp : ScanCells w p s i v) (hown : OwnToks (p + 1) w v acc) (hs : s.size ≤ 65536) (hi : i ≤ s.size) (hacc : acc.length ≤ i) (r : Except Nat (Nat × List Tok))
    (hr : r = if nameB (s.extract i (i + spanL partB s i)).data.toList then .ok (i + spanL partB s i, acc ++ [⟨1, s.extract i (i + spanL partB s i), 0, i⟩]) else .error i) :
    Calls Tryz.prog 28 #[.pointer (some ⟨p, 0, none⟩)] w (Stepped p s w r) := by
  obtain ⟨c0, c1, c2, f1, f2, hlt⟩ := scan_cell hp
  have Hr := Lib.hid (run_any p s i v w.heap.size 3 3 [2, 3, 5] (w.alloc (.cells #[.int .i64 2, .int .i64 3, .int .i64 5] 3)) hs hi (hp.alloc _) rfl (by omega) (fun j hj => by
    match j, hj with
    | 0, _ => simp [go_sem]
    | 1, _ => simp [go_sem]
    | 2, _ => simp [go_sem]
    | j + 3, hj => simp at hj; omega))
  rw [in_part] at Hr
  have Hp := Lib.hid hp
  have hle := span_le partB s i hi
  have hsz := extract_size (s := s) (show i ≤ i + spanL partB s i by omega) hle
  generalize spanL partB s i = T at Hr hle hsz hr
  generalize s.extract i (i + T) = x at Hr hsz hr
  have hxT : i + T = i + x.size := by omega
  have HT := Lib.hid hxT
  have hszle : x.size ≤ 65536 := by omega
  have hxm : x.size ≤ maxLen := by unfold maxLen; omega
  clear hsz hxT hp
  by_cases hn : nameB x.data.toList = true
  · rw [if_pos hn] at hr
    have Hrr := Lib.hid hr
    have Hv := Lib.hid (show validB ⟨1, x, 0, 0⟩ = true by rw [valid_name rfl]; simp [hn])
    clear hr hn
    go_enter Tryz.func28, Tryz.ntmps28
    go_wp2_with (first | (go_at_call 52; refine Hr.out.mono ?_; rintro e w1 ⟨rfl, q, rfl⟩))
    refine (add_yes p s i v acc x 1 x 0 0 w _ (below_drewN ((Below.refl p w).alloc (by omega) _) q) ((Hp.out.alloc _).drewN q) ((hown.alloc _).drewN q) (by omega) (by omega) (by omega) hxm Hv.out _ HT.out).mono ?_
    rintro e w3 ⟨rfl, hst⟩
    rw [← Hrr.out] at hst
    go_wp2
    go_end0
    exact hst
  · rw [if_neg hn] at hr
    have Hrr := Lib.hid hr
    have Hv := Lib.hid (show validB ⟨1, x, 0, 0⟩ = false by rw [valid_name rfl]; simp [hn])
    clear hr hn
    go_enter Tryz.func28, Tryz.ntmps28
    go_wp2_with (first | (go_at_call 52; refine Hr.out.mono ?_; rintro e w1 ⟨rfl, q, rfl⟩))
    refine (add_no p s i v x 1 x 0 0 w _ (below_drewN ((Below.refl p w).alloc (by omega) _) q) ((Hp.out.alloc _).drewN q) hxm Hv.out).mono ?_
    rintro e w3 ⟨rfl, hst⟩
    rw [← Hrr.out] at hst
    exact ⟨rfl, hst⟩

end Go.Proofs.YtlaifodlnolndaaGreatDoor

/- The scanner's methods: sign. -/
namespace Go.Proofs.YtlaifodlnolndaaGreatDoor
open Go.RowKit

theorem idx_lf : ∀ l : List UInt8, (Lib.indexByte l 10 = -1 ∧ (l.takeWhile notLf).length = l.length) ∨ (Lib.indexByte l 10 = (l.takeWhile notLf).length ∧ (l.takeWhile notLf).length < l.length)
  | [] => .inl ⟨rfl, rfl⟩
  | b :: l => by
    rw [Lib.indexByte, List.takeWhile_cons]
    by_cases hb : b = 10
    · subst hb
      right
      rw [if_pos (by decide), if_neg (by decide)]
      simp
    · have hn : notLf b = true := by
        simp only [notLf, bne_iff_ne, ne_eq]
        intro e; exact hb (UInt8.toNat_inj.1 e)
      rw [if_neg (by simpa using hb), if_pos hn]
      rcases idx_lf l with ⟨h1, h2⟩ | ⟨h1, h2⟩
      · left; rw [h1]; simp [h2]
      · right
        rw [h1, if_neg (by simp)]
        exact ⟨by simp only [List.length_cons]; omega, by simp only [List.length_cons]; omega⟩

theorem prefix_note (s : ByteArray) (i : Nat) (hi : i < s.size) : (Lib.hasPrefix (s.extract i s.size).data.toList [47, 47] = true) ↔ noteAt s i := by
  rw [Lib.extract_to_end, noteAt_iff hi, drop_cons s i hi]
  unfold Lib.hasPrefix
  rw [List.isPrefixOf]
  cases hd : s.data.toList.drop (i + 1) with
  | nil => simp [List.isPrefixOf]
  | cons c r =>
    simp only [List.isPrefixOf, Bool.and_eq_true, beq_iff_eq, and_true, List.head?_cons, Option.some.injEq]
    constructor <;> (rintro ⟨h1, h2⟩; exact ⟨h1.symm, h2.symm⟩)

theorem slice_from (s : ByteArray) (a : Nat) (h : a ≤ s.size) : ∀ wx, (Instr.slice 9 (.string s) (some (.int .i64 (a : Int))) none none).run Tryz.prog wx = .ok (.string (s.extract a s.size)) wx := by
  intro wx
  have := run_slice_string_l (P := Tryz.prog) (w := wx) (t := 9) (s := s) Tryz.underlying9 .i64 (a : Int) (by omega) (by omega)
  simpa using this

set_option maxRecDepth 100000 in
set_option maxHeartbeats 4000000 in
theorem sign_note (p : Nat) (s : ByteArray) (i : Nat) (v : Value) (acc : List Tok) (w : World) (hp : ScanCells w p s i v) (hown : OwnToks (p + 1) w v acc) (hs : s.size ≤ 65536) (hi : i < s.size) (hn : noteAt s i) :
    Calls Tryz.prog 30 #[.pointer (some ⟨p, 0, none⟩)] w (Stepped p s w (.ok (i + spanL notLf s i, acc))) := by
  obtain ⟨c0, c1, c2, f1, f2, hlt⟩ := scan_cell hp
  have Hp := Lib.hid hp
  have hpre : Lib.hasPrefix (s.extract i s.size).data.toList [47, 47] = true := (prefix_note s i hi).2 hn
  have Hpre := Lib.hid (fun wx => Tryz.strings_HasPrefix (s.extract i s.size) ⟨#[47, 47]⟩ wx)
  rw [show (ByteArray.mk #[47, 47]).data.toList = [47, 47] from rfl, hpre] at Hpre
  have Hidx := Lib.hid (fun wx => Tryz.strings_IndexByte (s.extract i s.size) 10 wx)
  rw [show ((10 : Int).toNat.toUInt8) = 10 from rfl, Lib.extract_to_end] at Hidx
  have hx := idx_lf (s.data.toList.drop i)
  have hle := span_le notLf s i (by omega)
  change (_ ∧ spanL notLf s i = _) ∨ (_ = ((spanL notLf s i : Nat) : Int) ∧ spanL notLf s i < _) at hx
  rw [List.length_drop, length_toList] at hx
  generalize spanL notLf s i = T at hx hle ⊢
  have hsl := slice_from s i (by omega)
  generalize Lib.indexByte (s.data.toList.drop i) 10 = ix at hx Hidx
  generalize s.extract i s.size = y at Hpre Hidx hsl
  clear hp hpre hn
  rcases hx with ⟨rfl, hT⟩ | ⟨rfl, hT⟩
  · have HT := Lib.hid (show ((s.size : Nat) : Int) = ((i + T : Nat) : Int) by omega)
    clear hT
    go_enter Tryz.func30, Tryz.ntmps30
    go_wp2_with fail
    go_quiet ((go_at_call 55; exact Calls.quiet_of_same (Hpre.out _)))
    have hB1 : Below p w (w.drewN nq) := below_drewN (Below.refl p w) nq
    have hp1 : ScanCells (w.drewN nq) p s i v := Hp.out.drewN nq
    have hown1 : OwnToks (p + 1) (w.drewN nq) v acc := hown.drewN nq
    clear c0 c1 c2 f1 f2 hlt Hp hown
    generalize w.drewN nq = w1 at hB1 hp1 hown1 ⊢
    obtain ⟨c0, c1, c2, f1, f2, hlt⟩ := scan_cell hp1
    have Hp := Lib.hid hp1
    clear hp1
    go_wp2_with fail
    go_quiet ((go_at_call 56; exact Calls.quiet_of_same (Hidx.out _)))
    go_wp2_with fail
    go_end0
    refine ⟨(below_drewN hB1 _).setCell (p := ⟨p, 1, none⟩) (Nat.le_refl _) _, rfl, v, (Hp.out.drewN _).set1 _ _ HT.out, (hown1.drewN _).of_other _ _ (Nat.lt_succ_self p)⟩
  · have hTn : 0 ≤ (T : Int) := by omega
    go_enter Tryz.func30, Tryz.ntmps30
    go_wp2_with fail
    go_quiet ((go_at_call 55; exact Calls.quiet_of_same (Hpre.out _)))
    have hB1 : Below p w (w.drewN nq) := below_drewN (Below.refl p w) nq
    have hp1 : ScanCells (w.drewN nq) p s i v := Hp.out.drewN nq
    have hown1 : OwnToks (p + 1) (w.drewN nq) v acc := hown.drewN nq
    clear c0 c1 c2 f1 f2 hlt Hp hown
    generalize w.drewN nq = w1 at hB1 hp1 hown1 ⊢
    obtain ⟨c0, c1, c2, f1, f2, hlt⟩ := scan_cell hp1
    have Hp := Lib.hid hp1
    clear hp1
    go_wp2_with fail
    go_quiet ((go_at_call 56; exact Calls.quiet_of_same (Hidx.out _)))
    go_wp2_with fail
    go_end0
    refine ⟨(below_drewN hB1 _).setCell (p := ⟨p, 1, none⟩) (Nat.le_refl _) _, rfl, v, (Hp.out.drewN _).set1 _ _ (by omega), (hown1.drewN _).of_other _ _ (Nat.lt_succ_self p)⟩

set_option maxRecDepth 100000 in
set_option maxHeartbeats 4000000 in
theorem sign_plain (p : Nat) (s : ByteArray) (i : Nat) (v : Value) (acc : List Tok) (w : World) (hp : ScanCells w p s i v) (hown : OwnToks (p + 1) w v acc) (hs : s.size ≤ 65536) (hi : i < s.size) (hacc : acc.length ≤ i) (hn : ¬ noteAt s i) (hsg : signB s[i] = true) :
    Calls Tryz.prog 30 #[.pointer (some ⟨p, 0, none⟩)] w (Stepped p s w (.ok (i + 1, acc ++ [⟨3, s.extract i (i + 1), 0, i⟩]))) := by
  obtain ⟨c0, c1, c2, f1, f2, hlt⟩ := scan_cell hp
  have Hp := Lib.hid hp
  have hpre : Lib.hasPrefix (s.extract i s.size).data.toList [47, 47] = false := Bool.eq_false_iff.2 fun h => hn ((prefix_note s i hi).1 h)
  have Hpre := Lib.hid (fun wx => Tryz.strings_HasPrefix (s.extract i s.size) ⟨#[47, 47]⟩ wx)
  rw [show (ByteArray.mk #[47, 47]).data.toList = [47, 47] from rfl, hpre] at Hpre
  have hsl := slice_from s i (by omega)
  have hsl2 := slice_is s i (i + 1) (i + 1) (by omega) (by omega) (by omega)
  have hsz := extract_size (s := s) (show i ≤ i + 1 by omega) (by omega)
  have Hv := Lib.hid (show validB ⟨3, s.extract i (i + 1), 0, 0⟩ = true by
    rw [valid_sign rfl rfl rfl, extract_one s i hi]; simp [signT, hsg])
  generalize s.extract i s.size = y at Hpre hsl
  generalize s.extract i (i + 1) = x at hsl2 hsz Hv ⊢
  have hx1 : x.size ≤ maxLen := by unfold maxLen; omega
  have hx2 : x.size ≤ 1000000 := by omega
  have Hx3 := Lib.hid (show i + 1 = i + x.size by omega)
  clear hp hpre hn hsg hsz
  go_enter Tryz.func30, Tryz.ntmps30
  go_wp2_with fail
  go_quiet ((go_at_call 55; exact Calls.quiet_of_same (Hpre.out _)))
  have hB1 : Below p w (w.drewN nq) := below_drewN (Below.refl p w) nq
  have hp1 : ScanCells (w.drewN nq) p s i v := Hp.out.drewN nq
  have hown1 : OwnToks (p + 1) (w.drewN nq) v acc := hown.drewN nq
  clear c0 c1 c2 f1 f2 hlt Hp hown
  generalize w.drewN nq = w1 at hB1 hp1 hown1 ⊢
  obtain ⟨c0, c1, c2, f1, f2, hlt⟩ := scan_cell hp1
  have Hp := Lib.hid hp1
  clear hp1
  go_wp2_with fail
  go_quiet (fail)
  go_wp2_with fail
  refine (add_yes p s i v acc x 3 x 0 0 w _ (below_drewN hB1 _) (Hp.out.drewN _) (hown1.drewN _) (by omega) (by omega) hx2 hx1 Hv.out _ Hx3.out).mono ?_
  rintro e w3 ⟨rfl, hst⟩
  go_wp2
  go_end0
  exact hst

end Go.Proofs.YtlaifodlnolndaaGreatDoor

/- The document's Lex: what it returns is what the Lean function 'scan' computes. -/
import Derived.Test.YtkfbhegniobecaaDoorI
namespace Go.Proofs.YtkfbhegniobecaaDoor
open Go.RowKit

theorem Tryd.info35 : (Tryd.prog.info? 35).map (fun i => (i.zero, i.size, i.bytes)) = some (some (.agg #[.int .i64 0, .string ⟨#[]⟩, .int .i64 0, .int .i64 0]), 4, 40) := by kernel_rfl

/- a slice of tokens that the call itself has made, from block B on -/
def OwnToks (B : Nat) (w : World) (v : Value) (acc : List Tok) : Prop := w.ownsRow B 35 4 v acc.length (acc.flatMap fun t => t.cells.toList)

theorem append_tok {ops : Array Oper} {rest : List Oper} {o : Oper} {a : Act} {Q : Exit → Act → World → Prop} {w : World} (B : Nat) (hgd : o.guard = none) (s x : Operand)
    (ho : o.op = .call { callee := .builtin .append, args := #[s, x], argTypes := #[23, 23] }) (v : Value) (acc : List Tok) (hs : a.eval s = v) (hown : OwnToks B w v acc)
    (t : Tok) (g : Nat) (hx : a.eval x = .slice (some ⟨g, 0, none⟩) 1 1) (c0 : w.cell? ⟨g, 0, none⟩ = some (.int .i64 t.kind)) (c1 : w.cell? ⟨g, 1, none⟩ = some (.string t.text))
    (c2 : w.cell? ⟨g, 2, none⟩ = some (.int .i64 t.n)) (c3 : w.cell? ⟨g, 3, none⟩ = some (.int .i64 t.at_)) (hlen : acc.length ≤ 1000000000000) (hbase : B ≤ w.heap.size)
    (h : ∀ v' w', OwnToks B w' v' (acc ++ [t]) → w.grownBy w' v.ownBlock → wpList Tryd.prog ops Q rest (a.put o.dst v') w') : wpList Tryd.prog ops Q (o :: rest) a w := by
  obtain ⟨i0, hi, hz0, hz1, hz2⟩ := info_parts Tryd.info35
  refine wpList_append_own w hgd s x 23 ho B 35 i0 _ 4 40 Tryd.underlying23 hi hz0 hz1 hz2 rfl (by decide) v acc.length _ hs hown ⟨g, 0, none⟩ 1 1 t.cells.toList hx rfl ?_ ?_ (by unfold maxLen; omega) (by omega) hbase ?_
  · intro j u hj
    unfold Tok.cells at hj
    match j, hj with
    | 0, hj => simp at hj; subst hj; simpa [Addr.add] using c0
    | 1, hj => simp at hj; subst hj; simpa [Addr.add] using c1
    | 2, hj => simp at hj; subst hj; simpa [Addr.add] using c2
    | 3, hj => simp at hj; subst hj; simpa [Addr.add] using c3
    | j + 4, hj => simp at hj
  · intro u hu
    unfold Tok.cells at hu
    simp at hu
    rcases hu with rfl | rfl | rfl | rfl <;> rfl
  · intro v' w' hown' hg _
    refine h v' w' ?_ hg
    unfold OwnToks
    rw [List.flatMap_append]
    simpa using hown'

theorem OwnToks.isToks {B : Nat} {w : World} {v : Value} {acc : List Tok} (h : OwnToks B w v acc) (hlen : acc.length ≤ 1000000000000) (ht : ∀ t ∈ acc, t.text.size ≤ maxLen) : IsToks w v acc := by
  refine ⟨by omega, ht, ?_⟩
  unfold OwnToks at h
  rcases h.2 with ⟨rfl, hn⟩ | ⟨g, cap, cur, rfl, hb, hg, _⟩
  · exact .inl ⟨List.length_eq_zero_iff.1 hn, _, _, rfl⟩
  · refine .inr ⟨g, 0, cap, rfl, (Array.getElem?_eq_some_iff.1 hg).1, ?_⟩
    have hc := h.cells (g := g) rfl
    intro i hi
    have key : ∀ (l : List Tok) (i : Nat) (h : i < l.length) (j : Nat), j < 4 → (l.flatMap fun t => t.cells.toList)[i * 4 + j]? = l[i].cells.toList[j]? := by
      intro l
      induction l with
      | nil => intro i h; simp at h
      | cons t r ih =>
        intro i h j hj
        rw [List.flatMap_cons]
        cases i with
        | zero =>
          rw [List.getElem?_append_left (by unfold Tok.cells; simp; omega)]
          simp
        | succ i =>
          rw [List.getElem?_append_right (by unfold Tok.cells; simp; omega)]
          have : (i + 1) * 4 + j - t.cells.toList.length = i * 4 + j := by unfold Tok.cells; simp; omega
          rw [this, ih i (by simpa using h) j hj]
          rfl
    have addr : ∀ k, (⟨g, 0, none⟩ : Addr).add k = ⟨g, 0 + k, none⟩ := fun k => by unfold Addr.add; split <;> simp_all
    refine ⟨?_, ?_, ?_, ?_⟩
    · have := hc (i * 4 + 0) _ ((key acc i hi 0 (by omega)).trans rfl); rw [addr] at this; exact this
    · have := hc (i * 4 + 1) _ ((key acc i hi 1 (by omega)).trans rfl); rw [addr] at this; exact this
    · have := hc (i * 4 + 2) _ ((key acc i hi 2 (by omega)).trans rfl); rw [addr] at this; exact this
    · have := hc (i * 4 + 3) _ ((key acc i hi 3 (by omega)).trans rfl); rw [addr] at this; exact this

/- the part of a string from a place on that meets a test -/
def spanL (p : UInt8 → Bool) (s : ByteArray) (i : Nat) : Nat := ((s.data.toList.drop i).takeWhile p).length
theorem twl_get {p : UInt8 → Bool} : ∀ {l : List UInt8} {k : Nat} (_ : k < (l.takeWhile p).length), ∃ hk, p (l[k]'hk) = true
  | [], k, h => by simp at h
  | c :: r, k, h => by
    rw [List.takeWhile_cons] at h
    split at h
    · rename_i hc
      cases k with
      | zero => exact ⟨by simp, hc⟩
      | succ k =>
        obtain ⟨h', e⟩ := twl_get (l := r) (k := k) (by simpa using h)
        exact ⟨by simpa using h', by simpa using e⟩
    · simp at h
theorem twl_stop {p : UInt8 → Bool} : ∀ {l : List UInt8} (h : (l.takeWhile p).length < l.length), p (l[(l.takeWhile p).length]) = false
  | [], h => by simp at h
  | c :: r, h => by
    by_cases hc : p c = true
    · have e : (c :: r).takeWhile p = c :: r.takeWhile p := by rw [List.takeWhile_cons, if_pos hc]
      simp only [e, List.length_cons] at h ⊢
      simpa using twl_stop (l := r) (by simpa using h)
    · have e : (c :: r).takeWhile p = [] := by rw [List.takeWhile_cons, if_neg hc]
      simp only [e]
      simpa using hc
theorem span_le (p : UInt8 → Bool) (s : ByteArray) (i : Nat) (hi : i ≤ s.size) : i + spanL p s i ≤ s.size := by
  have := twl_le p (s.data.toList.drop i)
  rw [List.length_drop, length_toList] at this
  unfold spanL; omega
theorem span_in {p : UInt8 → Bool} {s : ByteArray} {i k : Nat} (h : k < spanL p s i) : ∃ hk, p (s[i + k]'hk) = true := by
  obtain ⟨h', e⟩ := twl_get h
  rw [List.length_drop, length_toList] at h'
  refine ⟨by omega, ?_⟩
  rw [List.getElem_drop] at e
  exact e
theorem span_stop {p : UInt8 → Bool} {s : ByteArray} {i : Nat} (h : i + spanL p s i < s.size) : p s[i + spanL p s i] = false := by
  have := twl_stop (p := p) (l := s.data.toList.drop i) (by rw [List.length_drop, length_toList]; unfold spanL at h; omega)
  rw [List.getElem_drop] at this
  exact this
theorem span_take (p : UInt8 → Bool) (s : ByteArray) (i : Nat) : (s.extract i (i + spanL p s i)).data.toList = (s.data.toList.drop i).takeWhile p := by
  rw [Lib.extract_data]
  have h := List.prefix_iff_eq_take.1 (List.takeWhile_prefix p (l := s.data.toList.drop i))
  rw [show i + spanL p s i - i = ((s.data.toList.drop i).takeWhile p).length by unfold spanL; omega]
  exact h.symm
theorem extract_size {s : ByteArray} {a b : Nat} (h : a ≤ b) (hb : b ≤ s.size) : (s.extract a b).size = b - a := by
  rw [ByteArray.size_extract]; omega

end Go.Proofs.YtkfbhegniobecaaDoor

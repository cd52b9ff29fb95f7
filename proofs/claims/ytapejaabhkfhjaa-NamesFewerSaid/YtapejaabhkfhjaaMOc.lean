/- Tables: maps from names to their places. -/
import Derived.Test.YtapejaabhkfhjaaMNa
import Derived.Maps.Own
import Derived.Maps.Views
namespace Go.Proofs.Ytapejaabhkfhjaa
open Go.RowKit Go.Maps Go.ChangeMaps Go.WideMaps Go.MapKept
open Go.WideElems (Fit rd rg pl rd_val elemAt)

theorem keys9 : Keyed Try.prog 9 := string_keyed Try.underlying9
theorem zero3 (w : World) : (zeroValue 3).run Try.prog w = .ok (.int .i64 0) w := by kernel_rfl
/- where a name stands -/
def posOf : List ByteArray → ByteArray → Option Nat
  | [], _ => none
  | x :: r, s => if x = s then some 0 else (posOf r s).map (· + 1)
theorem posOf_none {l : List ByteArray} {s : ByteArray} (h : s ∉ l) : posOf l s = none := by
  induction l with
  | nil => rfl
  | cons x r ih =>
    rw [List.mem_cons, not_or] at h
    rw [posOf, if_neg (fun e => h.1 e.symm), ih h.2]; rfl
theorem posOf_mem {l : List ByteArray} {s : ByteArray} (h : s ∈ l) : ∃ i, posOf l s = some i ∧ ∃ h : i < l.length, l[i] = s := by
  induction l with
  | nil => simp at h
  | cons x r ih =>
    rw [posOf]
    by_cases hx : x = s
    · rw [if_pos hx]
      exact ⟨0, rfl, by simp, by simpa using hx⟩
    · rw [if_neg hx]
      obtain ⟨i, h1, h2, h3⟩ := ih ((List.mem_cons.1 h).resolve_left (fun e => hx e.symm))
      exact ⟨i + 1, by rw [h1]; rfl, by simpa using h2, by simpa using h3⟩
theorem posOf_snoc {l : List ByteArray} {x : ByteArray} (h : x ∉ l) (s : ByteArray) : posOf (l ++ [x]) s = if s = x then some l.length else posOf l s := by
  induction l with
  | nil =>
    simp only [List.nil_append, posOf, List.length_nil]
    by_cases hs : s = x
    · rw [if_pos hs, if_pos hs.symm]
    · rw [if_neg hs, if_neg (fun e => hs e.symm)]; rfl
  | cons y r ih =>
    rw [List.mem_cons, not_or] at h
    rw [List.cons_append, posOf, posOf, ih h.2]
    by_cases hy : y = s
    · rw [if_pos hy, if_pos hy]
      by_cases hs : s = x
      · exact absurd (hs.symm.trans hy.symm) h.1
      · rw [if_neg hs]
    · rw [if_neg hy, if_neg hy]
      by_cases hs : s = x
      · rw [if_pos hs, if_pos hs]; simp
      · rw [if_neg hs, if_neg hs]
/- block m is the map of these names to their places -/
def MapIs (w : World) (m : Nat) (nms : List ByteArray) : Prop :=
  ∃ es clock, w.heap[m]? = some (.map es clock) ∧ Fit (H := Unit) Try.prog 9 (plainElem Try.prog 3) es clock ∧ es.size = nms.length ∧
    ∀ s : ByteArray, s.size ≤ maxLen → ∀ zd : DataW Unit, (DataW.map ((es.toList.map (rg Try.prog 9 (plainElem Try.prog 3))).foldr DataW.insert [])).atKey (.string s.data.toList) zd = (match posOf nms s with | some i => .lit (.int .i64 (i : Int)) | none => zd)
theorem mapIs_made (w : World) : MapIs (w.alloc (.map #[] 0)) w.heap.size [] :=
  ⟨#[], 0, (MapKept.heap_alloc w _).1, ⟨by simp, stamped_empty 0, by simp⟩, rfl, fun s _ zd => rfl⟩
theorem MapIs.block {w w' : World} {m : Nat} {nms : List ByteArray} (h : MapIs w m nms) (hb : w'.heap[m]? = w.heap[m]?) : MapIs w' m nms := by
  obtain ⟨es, clock, h1, h2⟩ := h
  exact ⟨es, clock, hb.trans h1, h2⟩
theorem MapIs.lt {w : World} {m : Nat} {nms : List ByteArray} (h : MapIs w m nms) : m < w.heap.size := by
  obtain ⟨es, clock, h1, h2⟩ := h
  exact (Array.getElem?_eq_some_iff.1 h1).1
theorem MapIs.size {w : World} {m : Nat} {nms : List ByteArray} (h : MapIs w m nms) : ∃ es clock, w.heap[m]? = some (.map es clock) ∧ es.size = nms.length := by
  obtain ⟨es, clock, h1, _, h2, _⟩ := h
  exact ⟨es, clock, h1, h2⟩
/- what the two-word look-up gives -/
def lookV (nms : List ByteArray) (s : ByteArray) : Value :=
  match posOf nms s with
  | some i => .tuple #[.int .i64 (i : Int), .bool true]
  | none => .tuple #[.int .i64 0, .bool false]
theorem MapIs.look {w : World} {m : Nat} {nms : List ByteArray} (h : MapIs w m nms) (s : ByteArray) (hs : s.size ≤ maxLen) :
    (Instr.lookup 90 (.map (some m)) (.string s) true).run Try.prog w = .ok (lookV nms s) w := by
  obtain ⟨es, clock, hb, F, _, hat⟩ := h
  have hkey := keyOf_string_mk (P := Try.prog) Try.underlying9 hs
  rcases Maps.fit_look (t := 90) true keys9 Try.underlying90 (zero3 w) hb F hkey with ⟨hrun, _, hz⟩ | ⟨e0, y, _, _, hrun, hR, hy, _⟩
  · rw [hrun]
    have h1 := hz .nil
    rw [hat s hs] at h1
    unfold lookV
    cases hp : posOf nms s with
    | none => rfl
    | some i => rw [hp] at h1; cases h1
  · rw [hrun]
    obtain ⟨a, hv, hya, _⟩ := plainElem_int_inv (H := Unit) Try.underlying3 hR
    have h1 := hy .nil
    rw [hat s hs] at h1
    unfold lookV
    cases hp : posOf nms s with
    | none => rw [hp, hya] at h1; cases h1
    | some i =>
      rw [hp, hya] at h1
      simp only [DataW.lit.injEq, Lit.int.injEq, true_and] at h1
      rw [hv, ← h1]; rfl
theorem mem_sorted {H : Type} (p : Lit × DataW H) : ∀ l : List (Lit × DataW H), p ∈ l.foldr DataW.insert [] → p ∈ l
  | [], h => h
  | x :: r, h => by
    rw [List.foldr_cons, mem_insert_iff] at h
    exact h.elim (fun e => by rw [e]; exact List.mem_cons_self) (fun h => List.mem_cons_of_mem _ (mem_sorted p r h))
theorem MapIs.put {w : World} {m : Nat} {nms : List ByteArray} (h : MapIs w m nms) (s : ByteArray) (hs : s.size ≤ maxLen) (hn : s ∉ nms) (hz : nms.length < 1000000) :
    ∃ w', (Instr.mapUpdate 90 (.map (some m)) (.string s) (.int .i64 (nms.length : Int))).run Try.prog w = .ok () w' ∧ MapIs w' m (nms ++ [s]) ∧ w.grownBy w' (some m) := by
  obtain ⟨es, clock, hb, F, hsz, hat⟩ := h
  have hkey := keyOf_string_mk (P := Try.prog) Try.underlying9 hs
  have hv : plainElem (H := Unit) Try.prog 3 (.int .i64 (nms.length : Int)) = some (.lit (.int .i64 (nms.length : Int)), []) := plainElem_int Try.underlying3 (by simp only [Lit.wf, Bool.and_eq_true, decide_eq_true_eq]; exact ⟨by have : IntKind.min .i64 = -9223372036854775808 := rfl; omega, by have : IntKind.max .i64 = 9223372036854775807 := rfl; omega⟩)
  obtain ⟨es', clock', hrun, F', hput, _⟩ := Maps.fit_store (R' := plainElem Try.prog 3) (t := 90) keys9 Try.underlying90 hb F (by unfold maxLen; omega) (fun _ _ _ _ hz => hz) hkey hv
  have hno : ∀ x ∈ es.toList, x.key ≠ .string s := by
    rcases Maps.fit_look (t := 90) true keys9 Try.underlying90 (zero3 w) hb F hkey with ⟨_, h, _⟩ | ⟨e0, y, _, _, _, _, hy, _⟩
    · exact h
    · have h1 := hy .nil
      have h2 := hy (.lit (.bool true))
      rw [hat s hs, posOf_none hn] at h1 h2
      rw [← h1] at h2
      cases h2
  refine ⟨_, hrun, ⟨es', clock', heap_setBlock_same hb _, F', ?_, ?_⟩, ⟨rfl, rfl, rfl, by simp [setBlock], fun i _ hi => heap_setBlock_other hb _ (fun e => hi (by rw [e]))⟩⟩
  · have e1 : es'.size = ((es'.toList.map (rg Try.prog 9 (plainElem (H := Unit) Try.prog 3))).foldr DataW.insert []).length := by rw [length_sorted]; simp
    rw [e1, hput]
    unfold putKey
    rw [length_insert]
    have e2 := filter_all keys9 F hkey hno
    have e3 : (((es.toList.map (rg Try.prog 9 (plainElem (H := Unit) Try.prog 3))).foldr DataW.insert []).filter (notKey (.string s.data.toList))) = ((es.toList.map (rg Try.prog 9 (plainElem (H := Unit) Try.prog 3))).foldr DataW.insert []) := by
      rw [List.filter_eq_self] at e2 ⊢
      exact fun p hp => e2 p (mem_sorted p _ hp)
    rw [e3, length_sorted]
    simp [hsz]
  · intro t ht zd
    rw [hput]
    have hp : (DataW.map (putKey (.string s.data.toList) (.lit (.int .i64 (nms.length : Int))) ((es.toList.map (rg Try.prog 9 (plainElem (H := Unit) Try.prog 3))).foldr DataW.insert []))) = (DataW.map ((es.toList.map (rg Try.prog 9 (plainElem (H := Unit) Try.prog 3))).foldr DataW.insert [])).put (.string s.data.toList) (.lit (.int .i64 (nms.length : Int))) := rfl
    rw [hp, posOf_snoc hn]
    by_cases hts : t = s
    · subst hts
      rw [if_pos rfl, atKey_put_same ⟨_, rfl⟩ (keys9.key hkey)]
    · rw [if_neg hts, atKey_put_other (fun e => hts (by simp at e; exact ByteArray.ext (by simpa using e))), hat t ht]

end Go.Proofs.Ytapejaabhkfhjaa

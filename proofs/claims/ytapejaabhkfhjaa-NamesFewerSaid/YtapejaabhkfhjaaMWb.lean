/- The row of 'acequialaw17.NamesFewer': for every source, with the reach that the form itself promises, the law returns true and the source reads as it did. Its conditions are the given statement's own (Rows.NamesFewerSaid), none more. (Printed by gen_wb.py.) -/
import Derived.Test.YtapejaabhkfhjaaMVf
import Derived.Test.YtapejaabhkfhjaaMWa
import Derived.Test.YtapejaabhkfhjaaMShelf
import Derived.Test.YtapejaabhkfhjaaRows
import Derived.ProofKit
import Derived.HandedShaped
namespace Go.Proofs.Ytapejaabhkfhjaa
open Go.RowKit Go.ChangeShapes Go.WideShapes Go.ChangeAt

theorem own : ownKnob Try.prog.godebug = none := by kernel_rfl
theorem laidOut : laidOutB Try.prog = true := by kernel_rfl

/-- The number of variables is not nil, and the library's own variable holds some number. -/
theorem gv_of_shaped {W : World} (h : W.ShapedOpen Try.prog) : GV W := by
  obtain ⟨m, hm⟩ : ∃ m, W.cell? ⟨0, 0, none⟩ = some (.int .i64 m) := Try.laysM144.s1_3 W h
  exact ⟨cell_in hm, m, hm⟩

set_option maxRecDepth 100000 in
set_option maxHeartbeats 4000000 in
theorem namesFewer_lifted (os : Os) (started : os.Started) (H : Type) (enc : TypeId × Value → H) :
    ReturnsInHanded {} Try.checked os 8 .any (Rows.namesFewerSpec.pre6 enc Try.prog Try.f8 Rows.namesFewerRow.domain false) (Rows.namesFewerSpec.post enc Try.prog Try.f8 false true false false) := by
  refine returnsInHanded_of_change_shaped (C := Try.checked) own started (by kernel_rfl) Try.func8
    (ChangeSpec.witness6 (enc := enc) (C := Try.checked) false ⟨#[], #[.agg #[.string ByteArray.empty, .int .i64 0, .int .i64 0, .int .i64 0, .string ByteArray.empty, .int .i64 0, .slice none 0 0, .int .i64 0, .int .i64 0, .int .i64 0, .string ByteArray.empty, .int .i64 0, .slice none 0 0, .int .i64 0, .int .i64 0, .int .i64 0, .string ByteArray.empty, .int .i64 0, .slice none 0 0, .slice none 0 0, .slice none 0 0, .slice none 0 0, .slice none 0 0, .slice none 0 0, .slice none 0 0, .slice none 0 0]], []⟩ 16 (by kernel_rfl) (by kernel_rfl) (by kernel_rfl) (by kernel_rfl)) ?_
  intro W base args ds gs before hval0 hW _ hsz0 hsh _
  have hsz : (DataW.weightsEach Try.prog (Try.f8.params.toList ++ Rows.namesFewerSpec.plain.varTypes Try.prog) (ds ++ gs)).all (· ≤ reachBytes) = true := hsz0
  have hval : ∀ (j : Nat) t v, Try.f8.params[j]? = some t → args[j]? = some v → Value.okWide Try.prog W .any base t v := hval0
  have hW' := hW
  obtain ⟨p, q, hA0, hV, rfl, _, _⟩ := hW
  have hA : DataW.TrodAll enc Try.prog W 0 (fun _ => true) true Try.f8.params.toList args.toList ds p := hA0
  rw [Try.params8] at hA hval hsz
  obtain ⟨v0, d0, rfl, rfl, h0⟩ := trodAll_one hA
  obtain ⟨rfl, rfl⟩ := trodVars_none hV
  obtain ⟨cs, rfl, hcs⟩ := okWide_struct Try.underlying35 (hval 0 35 v0 rfl rfl)
  rw [cells_Source] at hcs
  have h0k := h0
  obtain ⟨fuel, hf⟩ := h0
  clear hA0 hval0 hsz0
  simp only [List.append_nil] at hW'
  have hw : Wt 35 d0 := fun n hn => by simpa using List.all_eq_true.1 hsz n (DataW.weights_mem_each (j := 0) (t := 35) (d := d0) rfl rfl _ hn)
  obtain ⟨L, x, hS, hcd, hcr⟩ := open_source (H := H) (enc := enc) (W := W) (cs := cs.toList) hf hw (by simpa using hcs)
  have hg := gv_of_shaped hsh
  have hrun := fewer_any hS (fun b hb => hb) hg hcd hcr
  rw [show cs.toList.toArray = cs by simp] at hrun
  refine hrun.mono fun e W' ⟨he, hb⟩ => ?_
  subst he
  exact ⟨_, rfl, _, _, _, [], _, [], hW', trodAll_mk1 (shut_bool Try.underlying4 true), trodAll_mk1 (Below.trod laidOut (by kernel_rfl) (of_decide_eq_true (by kernel_rfl)) h0k hb (fun x hx => by simpa using hW'.lt x hx)), rfl, hb.frame _, fun h => by cases h⟩

/-- The given row, for every input. -/
theorem namesFewer_holds : Rows.NamesFewerSaid :=
  OpenClaim.holds_of_wide 8 Try.f8 rfl rfl rfl rfl rfl rfl rfl ⟨rfl, rfl, rfl, rfl, rfl⟩ rfl rfl rfl rfl rfl (by kernel_rfl) Try.func8 (by kernel_rfl)
    (of_decide_eq_true (by kernel_rfl)) (by unfold Func.isWrapper; rw [if_neg (of_decide_eq_false (by kernel_rfl))]; exact ⟨rfl, rfl⟩)
    (fun os started H enc _ => namesFewer_lifted os started H enc)

#print axioms namesFewer_holds
end Go.Proofs.Ytapejaabhkfhjaa

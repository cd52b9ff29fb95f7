/-
  DERIVED. GIVEN WITH THE SEED: THE PROGRAM's TIES (one call each: nine closed facts by the kernel) AND EACH ROW's TIE, after the 31st guide's Derived/Test/Toyas{Tie, Card}.lean. No idea stands in it: it is a product of the set-up. Laid BY PROGRAM, IN A SANDBOX (cutbox-door.mjs). By AI agents, Wed Nov 11 2026. No macro, syntax, notation, axiom, sorry.
-/
import Derived.Test.YtjofgpfocadomaaGreatDoorRows
import Derived.LaidByTextLater
import Derived.SevenTiedAt
import Derived.LaidSub
import Derived.LaidOnce
namespace Go.Proofs.YtjofgpfocadomaaGreatDoor
open Go
set_option maxRecDepth 100000
theorem seatTie1 : Tryz.prog.laidByTextLater [("acequia/units.none", Rows.laid_acequia_units_none), ("acequia/units.litres", Rows.laid_acequia_units_litres), ("acequia/units.hours", Rows.laid_acequia_units_hours), ("acequia/units.ares", Rows.laid_acequia_units_ares), ("acequia/units.flow", Rows.laid_acequia_units_flow), ("acequia/units.need", Rows.laid_acequia_units_need)] [.data, .data, .data, .data, .data, .data] true :=
  Program.laidByTextLater_by_one 39 8 4 (by kernel_rfl) (by kernel_rfl) (by kernel_rfl) (by kernel_rfl) (by kernel_rfl) (by kernel_rfl) (fun _ _ => by kernel_rfl)
theorem noOwnUnsafe : Tryz.pinned.checked.prog.headLifts.contains "ownunsafe" = false := by kernel_rfl
theorem tie : Tryz.prog.laidByTextLater [("acequia/units.none", Rows.laid_acequia_units_none), ("acequia/units.litres", Rows.laid_acequia_units_litres), ("acequia/units.hours", Rows.laid_acequia_units_hours), ("acequia/units.ares", Rows.laid_acequia_units_ares), ("acequia/units.flow", Rows.laid_acequia_units_flow), ("acequia/units.need", Rows.laid_acequia_units_need)] [.data, .data, .data, .data, .data, .data] true :=
  Program.laidByTextLater.sub seatTie1 ["acequia/units.none", "acequia/units.litres", "acequia/units.hours", "acequia/units.ares", "acequia/units.flow", "acequia/units.need"] (by kernel_rfl) (by kernel_rfl)
theorem unitsScaled_row_tie : Rows.unitsScaledRow.laidByTextAt .later Tryz.pinned [.data, .data, .data, .data, .data, .data] true :=
  OpenClaim.laidByTextAt_later rfl rfl tie noOwnUnsafe
theorem unitsInlined_row_tie : Rows.unitsInlinedRow.laidByTextAt .later Tryz.pinned [.data, .data, .data, .data, .data, .data] true :=
  OpenClaim.laidByTextAt_later rfl rfl tie noOwnUnsafe
theorem unitsTurned_row_tie : Rows.unitsTurnedRow.laidByTextAt .later Tryz.pinned [.data, .data, .data, .data, .data, .data] true :=
  OpenClaim.laidByTextAt_later rfl rfl tie noOwnUnsafe
theorem unitsSmall_row_tie : Rows.unitsSmallRow.laidByTextAt .later Tryz.pinned [.data, .data, .data, .data, .data, .data] true :=
  OpenClaim.laidByTextAt_later rfl rfl tie noOwnUnsafe
theorem unitsScaledUpto_row_tie : Rows.unitsScaledUptoRow.laidByTextAt .later Tryz.pinned [.data, .data, .data, .data, .data, .data] true :=
  OpenClaim.laidByTextAt_later rfl rfl tie noOwnUnsafe
theorem unitsInlinedUpto_row_tie : Rows.unitsInlinedUptoRow.laidByTextAt .later Tryz.pinned [.data, .data, .data, .data, .data, .data] true :=
  OpenClaim.laidByTextAt_later rfl rfl tie noOwnUnsafe
theorem unitsTurnedUpto_row_tie : Rows.unitsTurnedUptoRow.laidByTextAt .later Tryz.pinned [.data, .data, .data, .data, .data, .data] true :=
  OpenClaim.laidByTextAt_later rfl rfl tie noOwnUnsafe
theorem unitsSmallUpto_row_tie : Rows.unitsSmallUptoRow.laidByTextAt .later Tryz.pinned [.data, .data, .data, .data, .data, .data] true :=
  OpenClaim.laidByTextAt_later rfl rfl tie noOwnUnsafe
end Go.Proofs.YtjofgpfocadomaaGreatDoor

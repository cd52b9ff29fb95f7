/- Parts of the proof, in short words: Tie Cards -/
import Derived.Test.YtjofgpfocadomaaGreatDoorUs0
import Derived.Test.YtjofgpfocadomaaGreatDoorRows
import Derived.LaidByTextLater
import Derived.SevenTiedAt
import Derived.LaidSub
import Derived.LaidOnce
import GoSem.ClaimSeven
set_option maxRecDepth 100000
set_option linter.unusedSimpArgs false
namespace Go.Proofs.YtjofgpfocadomaaGreatDoor
open Go
theorem TL:Tryz.prog.laidByTextLater [("acequia/units.none",Rows.laid_acequia_units_none),("acequia/units.litres",Rows.laid_acequia_units_litres),("acequia/units.hours",Rows.laid_acequia_units_hours),("acequia/units.ares",Rows.laid_acequia_units_ares),("acequia/units.flow",Rows.laid_acequia_units_flow),("acequia/units.need",Rows.laid_acequia_units_need)] [.data,.data,.data,.data,.data,.data] true:=
 Program.laidByTextLater_by_one 39 8 4 (by kernel_rfl) (by kernel_rfl) (by kernel_rfl) (by kernel_rfl) (by kernel_rfl) (by kernel_rfl) (fun _ _=>by kernel_rfl)
theorem OW:Tryz.pinned.checked.prog.headLifts.contains "ownunsafe" =false:=by kernel_rfl
theorem Wf:Tryz.prog.laidByTextLater [("acequia/units.none",Rows.laid_acequia_units_none),("acequia/units.litres",Rows.laid_acequia_units_litres),("acequia/units.hours",Rows.laid_acequia_units_hours),("acequia/units.ares",Rows.laid_acequia_units_ares),("acequia/units.flow",Rows.laid_acequia_units_flow),("acequia/units.need",Rows.laid_acequia_units_need)] [.data,.data,.data,.data,.data,.data] true:=
 Program.laidByTextLater.sub TL ["acequia/units.none", "acequia/units.litres", "acequia/units.hours", "acequia/units.ares", "acequia/units.flow", "acequia/units.need"] (by kernel_rfl) (by kernel_rfl)
theorem Im:Rows.unitsSmallRow.laidByTextAt .later Tryz.pinned [.data,.data,.data,.data,.data,.data] true:=
 OpenClaim.laidByTextAt_later rfl rfl Wf OW
end Go.Proofs.YtjofgpfocadomaaGreatDoor
namespace Go.Proofs.YtjofgpfocadomaaGreatDoor
namespace Rows
def Lo:Claim7:={stood:={row:=unitsSmallRow,standIns:=[],harness:=(true, "11f3996585834df42a1b22c8d320a2ae51f6086afdeb77c2ef291d0b945e9561"),looks:=true},kinds:=[],alts:=[],laidByText:=true,laidKinds:=[.data,.data,.data,.data,.data,.data],laidTests:=true,laidLooks:=.later}
def Qc:Prop:=Claim7.holds Tryz.pinned (.plain (OpenSpec.ofChange unitsSmallSpec)) Lo
end Rows
end Go.Proofs.YtjofgpfocadomaaGreatDoor

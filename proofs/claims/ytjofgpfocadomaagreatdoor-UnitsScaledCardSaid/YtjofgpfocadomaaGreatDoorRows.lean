/-
  NARROWER THAN 'FOR EVERY INPUT', by the rows' own cells (each row's printed sentence says how): UnitsScaled: loops, laid · UnitsInlined: loops, laid · UnitsTurned: loops, laid · UnitsSmall: loops, laid.
  DERIVED. THE GIVEN ROWS OF THIS SEAT. 4 by the template 'for every input the law returns true; each argument reads behind the call as it read before'; 0 by the template 'total and deterministic' (their statements: YtjofgpfocadomaaGreatDoorTotals.lean).
  GIVEN WITH THE SEED: the statements are not yours to turn. If you find one false, say at which input.
  Laid BY PROGRAM, IN A SANDBOX (cutbox-rows.mjs): the forced cells as the released guide's own fill.sh prints them over the translation a17f894661083d78… (all of the seat's roots in one cut). By AI agents, Wed Nov 11 2026. No macro, syntax, notation, axiom, sorry.
-/
import Derived.Test.YtjofgpfocadomaaGreatDoorChecked
import GoSem.Claim
import GoSem.ClaimJoined
import GoSem.ClaimMapViews
import Derived.JoinedTies
import Derived.KernelRfl
namespace Go.Proofs.YtjofgpfocadomaaGreatDoor
/- THE CELL 'sum', in the pinned program and in every row, IS THE sha256 OF THE DUMP (.gsa) THAT YtjofgpfocadomaaGreatDoorProg.lean LOADS. Nothing in Lean hashes anything: it is a label: what it is worth is what the hold of that sum in a sandbox is worth. -/
noncomputable def Tryz.pinned : Pinned := { name := "ytjofgpfocadomaagreatdoor", sum := "a17f894661083d78eb3e28289cfbdccb654f23843e27a2e4c372dd0f1ea934f3", checked := Tryz.checked }
namespace Rows
def none {H : Type} : Left H := { results := [], args := [] }

/- WHAT THE LISTED PACKAGE-LEVEL VARIABLES READ AS WHEN THE CALL BEGINS. Each datum BY PROGRAM (the guide's laid-datum.mjs) off the statement by which the dump's own 'gosem.cut.vars' lays the variable. In a bare row this is a premise. The card (YtjofgpfocadomaaGreatDoorCards.lean) ties it to the program's text. -/
def laid_acequia_units_none {H : Type} : DataW H := .agg [.lit (.int .i64 0), .lit (.int .i64 0), .lit (.int .i64 0)]
def laid_acequia_units_litres {H : Type} : DataW H := .agg [.lit (.int .i64 1), .lit (.int .i64 0), .lit (.int .i64 0)]
def laid_acequia_units_hours {H : Type} : DataW H := .agg [.lit (.int .i64 0), .lit (.int .i64 1), .lit (.int .i64 0)]
def laid_acequia_units_ares {H : Type} : DataW H := .agg [.lit (.int .i64 0), .lit (.int .i64 0), .lit (.int .i64 1)]
def laid_acequia_units_flow {H : Type} : DataW H := .agg [.lit (.int .i64 1), .lit (.int .i64 (-1)), .lit (.int .i64 0)]
def laid_acequia_units_need {H : Type} : DataW H := .agg [.lit (.int .i64 1), .lit (.int .i64 0), .lit (.int .i64 (-1))]

/-- 'acequialaw18.UnitsScaled': WHATEVER THE INPUT: true; the input reads as it did. -/
def unitsScaledSpec : ChangeSpec := { name := "unitsScaled", fn := fun _ => fun
  | [d1, d2, d3, d4, d5] => { results := [.lit (.bool true)], args := [d1, d2, d3, d4, d5] }
  | _ => none }
def unitsScaledRow : OpenClaim := { program := "ytjofgpfocadomaagreatdoor", sum := "a17f894661083d78eb3e28289cfbdccb654f23843e27a2e4c372dd0f1ea934f3", func := "acequia/acequialaw18.UnitsScaled", spec := "unitsScaled", inPlace := ["internal/bytealg.IndexByteString", "internal/bytealg.IndexString"], unfollowed := true, recurses := true, named := ["internal/bytealg.MaxLen", "acequia/units.litres", "acequia/units.hours", "acequia/units.ares", "acequia/units.none", "acequia/units.need", "acequia/units.flow"], loops := true, apart := false, laid := [("acequia/units.none", laid_acequia_units_none), ("acequia/units.litres", laid_acequia_units_litres), ("acequia/units.hours", laid_acequia_units_hours), ("acequia/units.ares", laid_acequia_units_ares), ("acequia/units.flow", laid_acequia_units_flow), ("acequia/units.need", laid_acequia_units_need)] }
def UnitsScaledSaid : Prop := unitsScaledRow.holds Tryz.pinned (OpenSpec.ofChange unitsScaledSpec)

/-- ITS FALSE NEIGHBOUR: 'it returns false'. Refute it at one input. -/
def unitsScaledWrong : ChangeSpec := { name := "unitsScaled", fn := fun _ => fun
  | [d1, d2, d3, d4, d5] => { results := [.lit (.bool false)], args := [d1, d2, d3, d4, d5] }
  | _ => none }
def UnitsScaledWrongFalsely : Prop := unitsScaledRow.holds Tryz.pinned (OpenSpec.ofChange unitsScaledWrong)

/-- 'acequialaw18.UnitsInlined': WHATEVER THE INPUT: true; the input reads as it did. -/
def unitsInlinedSpec : ChangeSpec := { name := "unitsInlined", fn := fun _ => fun
  | [d1, d2] => { results := [.lit (.bool true)], args := [d1, d2] }
  | _ => none }
def unitsInlinedRow : OpenClaim := { program := "ytjofgpfocadomaagreatdoor", sum := "a17f894661083d78eb3e28289cfbdccb654f23843e27a2e4c372dd0f1ea934f3", func := "acequia/acequialaw18.UnitsInlined", spec := "unitsInlined", inPlace := ["internal/bytealg.IndexByteString", "internal/bytealg.IndexString"], unfollowed := true, recurses := true, named := ["internal/bytealg.MaxLen", "acequia/units.litres", "acequia/units.hours", "acequia/units.ares", "acequia/units.none", "acequia/units.need", "acequia/units.flow"], loops := true, apart := false, laid := [("acequia/units.none", laid_acequia_units_none), ("acequia/units.litres", laid_acequia_units_litres), ("acequia/units.hours", laid_acequia_units_hours), ("acequia/units.ares", laid_acequia_units_ares), ("acequia/units.flow", laid_acequia_units_flow), ("acequia/units.need", laid_acequia_units_need)] }
def UnitsInlinedSaid : Prop := unitsInlinedRow.holds Tryz.pinned (OpenSpec.ofChange unitsInlinedSpec)

/-- ITS FALSE NEIGHBOUR: 'it returns false'. Refute it at one input. -/
def unitsInlinedWrong : ChangeSpec := { name := "unitsInlined", fn := fun _ => fun
  | [d1, d2] => { results := [.lit (.bool false)], args := [d1, d2] }
  | _ => none }
def UnitsInlinedWrongFalsely : Prop := unitsInlinedRow.holds Tryz.pinned (OpenSpec.ofChange unitsInlinedWrong)

/-- 'acequialaw18.UnitsTurned': WHATEVER THE INPUT: true; the input reads as it did. -/
def unitsTurnedSpec : ChangeSpec := { name := "unitsTurned", fn := fun _ => fun
  | [d1, d2] => { results := [.lit (.bool true)], args := [d1, d2] }
  | _ => none }
def unitsTurnedRow : OpenClaim := { program := "ytjofgpfocadomaagreatdoor", sum := "a17f894661083d78eb3e28289cfbdccb654f23843e27a2e4c372dd0f1ea934f3", func := "acequia/acequialaw18.UnitsTurned", spec := "unitsTurned", inPlace := ["internal/bytealg.IndexByteString", "internal/bytealg.IndexString"], unfollowed := true, recurses := true, named := ["internal/bytealg.MaxLen", "acequia/units.litres", "acequia/units.hours", "acequia/units.ares", "acequia/units.none", "acequia/units.need", "acequia/units.flow"], loops := true, apart := false, laid := [("acequia/units.none", laid_acequia_units_none), ("acequia/units.litres", laid_acequia_units_litres), ("acequia/units.hours", laid_acequia_units_hours), ("acequia/units.ares", laid_acequia_units_ares), ("acequia/units.flow", laid_acequia_units_flow), ("acequia/units.need", laid_acequia_units_need)] }
def UnitsTurnedSaid : Prop := unitsTurnedRow.holds Tryz.pinned (OpenSpec.ofChange unitsTurnedSpec)

/-- ITS FALSE NEIGHBOUR: 'it returns false'. Refute it at one input. -/
def unitsTurnedWrong : ChangeSpec := { name := "unitsTurned", fn := fun _ => fun
  | [d1, d2] => { results := [.lit (.bool false)], args := [d1, d2] }
  | _ => none }
def UnitsTurnedWrongFalsely : Prop := unitsTurnedRow.holds Tryz.pinned (OpenSpec.ofChange unitsTurnedWrong)

/-- 'acequialaw18.UnitsSmall': WHATEVER THE INPUT: true; the input reads as it did. -/
def unitsSmallSpec : ChangeSpec := { name := "unitsSmall", fn := fun _ => fun
  | [d1, d2] => { results := [.lit (.bool true)], args := [d1, d2] }
  | _ => none }
def unitsSmallRow : OpenClaim := { program := "ytjofgpfocadomaagreatdoor", sum := "a17f894661083d78eb3e28289cfbdccb654f23843e27a2e4c372dd0f1ea934f3", func := "acequia/acequialaw18.UnitsSmall", spec := "unitsSmall", inPlace := ["internal/bytealg.IndexByteString", "internal/bytealg.IndexString"], unfollowed := true, recurses := true, named := ["internal/bytealg.MaxLen", "acequia/units.litres", "acequia/units.hours", "acequia/units.ares", "acequia/units.none", "acequia/units.need", "acequia/units.flow"], loops := true, apart := false, laid := [("acequia/units.none", laid_acequia_units_none), ("acequia/units.litres", laid_acequia_units_litres), ("acequia/units.hours", laid_acequia_units_hours), ("acequia/units.ares", laid_acequia_units_ares), ("acequia/units.flow", laid_acequia_units_flow), ("acequia/units.need", laid_acequia_units_need)] }
def UnitsSmallSaid : Prop := unitsSmallRow.holds Tryz.pinned (OpenSpec.ofChange unitsSmallSpec)

/-- ITS FALSE NEIGHBOUR: 'it returns false'. Refute it at one input. -/
def unitsSmallWrong : ChangeSpec := { name := "unitsSmall", fn := fun _ => fun
  | [d1, d2] => { results := [.lit (.bool false)], args := [d1, d2] }
  | _ => none }
def UnitsSmallWrongFalsely : Prop := unitsSmallRow.holds Tryz.pinned (OpenSpec.ofChange unitsSmallWrong)

/- THE SECOND FORM. 'bulk': how many values and letters a reading holds, each counted each time it is reached (what is shared counts as often as it is met; a slice's spare places count too). A statement '..UptoSaid' is the law's where the arguments, and the package variables that the reading takes, are together of bulk at most 1048576: NARROWER than '..Said'. Prove '..Said' where nothing that the law and all that it calls make is longer than what came in: it says more and counts as full. Else prove '..UptoSaid'. A law counts once. -/
mutual
def uptoBulk {H : Type} : DataW H → Nat
  | .lit (.string bytes) => bytes.length + 1
  | .lit _ => 1
  | .nil => 1
  | .ptr d => uptoBulk d + 1
  | .slice elems spare => uptoBulkAll elems + uptoBulkAll spare + 1
  | .agg parts => uptoBulkAll parts + 1
  | .iface _ d => uptoBulk d + 1
  | .map entries => uptoBulkEntries entries + 1
  | .held _ => 1
def uptoBulkAll {H : Type} : List (DataW H) → Nat
  | [] => 0
  | d :: r => uptoBulk d + uptoBulkAll r
def uptoBulkEntries {H : Type} : List (Lit × DataW H) → Nat
  | [] => 0
  | x :: r => uptoBulkEntry x + uptoBulkEntries r
def uptoBulkEntry {H : Type} : Lit × DataW H → Nat
  | (.string bytes, d) => bytes.length + uptoBulk d + 1
  | (_, d) => uptoBulk d + 1
 end
def uptoSmall : (H : Type) → List (DataW H) → Bool := fun _ ds => decide (uptoBulkAll ds ≤ 1048576)
def OpenSpec.upto (s : _root_.Go.ChangeSpec) : _root_.Go.OpenSpec := { _root_.Go.OpenSpec.ofChange s with cond := some uptoSmall }

/-- 'acequialaw18.UnitsScaled', WHERE WHAT IT READS IS OF BULK AT MOST 1048576: true; the input reads as it did. -/
def unitsScaledUptoRow : OpenClaim := { program := "ytjofgpfocadomaagreatdoor", sum := "a17f894661083d78eb3e28289cfbdccb654f23843e27a2e4c372dd0f1ea934f3", func := "acequia/acequialaw18.UnitsScaled", spec := "unitsScaled", inPlace := ["internal/bytealg.IndexByteString", "internal/bytealg.IndexString"], unfollowed := true, recurses := true, named := ["internal/bytealg.MaxLen", "acequia/units.litres", "acequia/units.hours", "acequia/units.ares", "acequia/units.none", "acequia/units.need", "acequia/units.flow"], loops := true, apart := false, laid := [("acequia/units.none", laid_acequia_units_none), ("acequia/units.litres", laid_acequia_units_litres), ("acequia/units.hours", laid_acequia_units_hours), ("acequia/units.ares", laid_acequia_units_ares), ("acequia/units.flow", laid_acequia_units_flow), ("acequia/units.need", laid_acequia_units_need)], narrowed := true }
def UnitsScaledUptoSaid : Prop := unitsScaledUptoRow.holds Tryz.pinned (OpenSpec.upto unitsScaledSpec)

/-- 'acequialaw18.UnitsInlined', WHERE WHAT IT READS IS OF BULK AT MOST 1048576: true; the input reads as it did. -/
def unitsInlinedUptoRow : OpenClaim := { program := "ytjofgpfocadomaagreatdoor", sum := "a17f894661083d78eb3e28289cfbdccb654f23843e27a2e4c372dd0f1ea934f3", func := "acequia/acequialaw18.UnitsInlined", spec := "unitsInlined", inPlace := ["internal/bytealg.IndexByteString", "internal/bytealg.IndexString"], unfollowed := true, recurses := true, named := ["internal/bytealg.MaxLen", "acequia/units.litres", "acequia/units.hours", "acequia/units.ares", "acequia/units.none", "acequia/units.need", "acequia/units.flow"], loops := true, apart := false, laid := [("acequia/units.none", laid_acequia_units_none), ("acequia/units.litres", laid_acequia_units_litres), ("acequia/units.hours", laid_acequia_units_hours), ("acequia/units.ares", laid_acequia_units_ares), ("acequia/units.flow", laid_acequia_units_flow), ("acequia/units.need", laid_acequia_units_need)], narrowed := true }
def UnitsInlinedUptoSaid : Prop := unitsInlinedUptoRow.holds Tryz.pinned (OpenSpec.upto unitsInlinedSpec)

/-- 'acequialaw18.UnitsTurned', WHERE WHAT IT READS IS OF BULK AT MOST 1048576: true; the input reads as it did. -/
def unitsTurnedUptoRow : OpenClaim := { program := "ytjofgpfocadomaagreatdoor", sum := "a17f894661083d78eb3e28289cfbdccb654f23843e27a2e4c372dd0f1ea934f3", func := "acequia/acequialaw18.UnitsTurned", spec := "unitsTurned", inPlace := ["internal/bytealg.IndexByteString", "internal/bytealg.IndexString"], unfollowed := true, recurses := true, named := ["internal/bytealg.MaxLen", "acequia/units.litres", "acequia/units.hours", "acequia/units.ares", "acequia/units.none", "acequia/units.need", "acequia/units.flow"], loops := true, apart := false, laid := [("acequia/units.none", laid_acequia_units_none), ("acequia/units.litres", laid_acequia_units_litres), ("acequia/units.hours", laid_acequia_units_hours), ("acequia/units.ares", laid_acequia_units_ares), ("acequia/units.flow", laid_acequia_units_flow), ("acequia/units.need", laid_acequia_units_need)], narrowed := true }
def UnitsTurnedUptoSaid : Prop := unitsTurnedUptoRow.holds Tryz.pinned (OpenSpec.upto unitsTurnedSpec)

/-- 'acequialaw18.UnitsSmall', WHERE WHAT IT READS IS OF BULK AT MOST 1048576: true; the input reads as it did. -/
def unitsSmallUptoRow : OpenClaim := { program := "ytjofgpfocadomaagreatdoor", sum := "a17f894661083d78eb3e28289cfbdccb654f23843e27a2e4c372dd0f1ea934f3", func := "acequia/acequialaw18.UnitsSmall", spec := "unitsSmall", inPlace := ["internal/bytealg.IndexByteString", "internal/bytealg.IndexString"], unfollowed := true, recurses := true, named := ["internal/bytealg.MaxLen", "acequia/units.litres", "acequia/units.hours", "acequia/units.ares", "acequia/units.none", "acequia/units.need", "acequia/units.flow"], loops := true, apart := false, laid := [("acequia/units.none", laid_acequia_units_none), ("acequia/units.litres", laid_acequia_units_litres), ("acequia/units.hours", laid_acequia_units_hours), ("acequia/units.ares", laid_acequia_units_ares), ("acequia/units.flow", laid_acequia_units_flow), ("acequia/units.need", laid_acequia_units_need)], narrowed := true }
def UnitsSmallUptoSaid : Prop := unitsSmallUptoRow.holds Tryz.pinned (OpenSpec.upto unitsSmallSpec)

end Rows
end Go.Proofs.YtjofgpfocadomaaGreatDoor

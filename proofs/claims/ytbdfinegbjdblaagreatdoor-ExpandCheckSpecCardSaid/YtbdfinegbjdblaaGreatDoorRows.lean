/-
  NARROWER THAN 'FOR EVERY INPUT', by the rows' own cells (each row's printed sentence says how): ExpandCheckSpec: laid · ExpandTurns: loops, laid · ExpandConstants: loops, laid · ExpandUnits: loops, laid · ExpandLess: loops, laid · ExpandStays: laid.
  DERIVED. THE GIVEN ROWS OF THIS SEAT. 6 by the template 'for every input the law returns true; each argument reads behind the call as it read before'; 0 by the template 'total and deterministic' (their statements: YtbdfinegbjdblaaGreatDoorTotals.lean).
  GIVEN WITH THE SEED: the statements are not yours to turn. If you find one false, say at which input.
  Laid BY PROGRAM, IN A SANDBOX (cutbox-rows.mjs): the forced cells as the released guide's own fill.sh prints them over the translation f7c93d929fce9304… (all of the seat's roots in one cut). By AI agents, Wed Nov 11 2026. No macro, syntax, notation, axiom, sorry.
-/
import Derived.Test.YtbdfinegbjdblaaGreatDoorChecked
import GoSem.Claim
import GoSem.ClaimJoined
import GoSem.ClaimMapViews
import Derived.JoinedTies
import Derived.KernelRfl
namespace Go.Proofs.YtbdfinegbjdblaaGreatDoor
/- THE CELL 'sum', in the pinned program and in every row, IS THE sha256 OF THE DUMP (.gsa) THAT YtbdfinegbjdblaaGreatDoorProg.lean LOADS. Nothing in Lean hashes anything: it is a label: what it is worth is what the hold of that sum in a sandbox is worth. -/
noncomputable def Tryz.pinned : Pinned := { name := "ytbdfinegbjdblaagreatdoor", sum := "f7c93d929fce930485ee3d2a4f075889cf6801e14dac004faa39b3a8c5a14f85", checked := Tryz.checked }
namespace Rows
def none {H : Type} : Left H := { results := [], args := [] }

/- WHAT THE LISTED PACKAGE-LEVEL VARIABLES READ AS WHEN THE CALL BEGINS. Each datum BY PROGRAM (the guide's laid-datum.mjs) off the statement by which the dump's own 'gosem.cut.vars' lays the variable. In a bare row this is a premise. The card (YtbdfinegbjdblaaGreatDoorCards.lean) ties it to the program's text. -/
def laid_acequia_units_none {H : Type} : DataW H := .agg [.lit (.int .i64 0), .lit (.int .i64 0), .lit (.int .i64 0)]
def laid_acequia_units_litres {H : Type} : DataW H := .agg [.lit (.int .i64 1), .lit (.int .i64 0), .lit (.int .i64 0)]
def laid_acequia_units_hours {H : Type} : DataW H := .agg [.lit (.int .i64 0), .lit (.int .i64 1), .lit (.int .i64 0)]
def laid_acequia_units_ares {H : Type} : DataW H := .agg [.lit (.int .i64 0), .lit (.int .i64 0), .lit (.int .i64 1)]
def laid_acequia_units_flow {H : Type} : DataW H := .agg [.lit (.int .i64 1), .lit (.int .i64 (-1)), .lit (.int .i64 0)]
def laid_acequia_units_need {H : Type} : DataW H := .agg [.lit (.int .i64 1), .lit (.int .i64 0), .lit (.int .i64 (-1))]

/-- 'acequialaw19.ExpandCheckSpec': WHATEVER THE INPUT: true; the input reads as it did. -/
def expandCheckSpecSpec : ChangeSpec := { name := "expandCheckSpec", fn := fun _ => fun
  | [d] => { results := [.lit (.bool true)], args := [d] }
  | _ => none }
def expandCheckSpecRow : OpenClaim := { program := "ytbdfinegbjdblaagreatdoor", sum := "f7c93d929fce930485ee3d2a4f075889cf6801e14dac004faa39b3a8c5a14f85", func := "acequia/acequialaw19.ExpandCheckSpec", spec := "expandCheckSpec", inPlace := ["internal/bytealg.IndexByteString", "internal/bytealg.IndexString"], unfollowed := true, recurses := true, named := ["internal/bytealg.MaxLen", "acequia/units.litres", "acequia/units.hours", "acequia/units.ares", "acequia/units.none", "acequia/units.need", "acequia/units.flow"], apart := false, laid := [("acequia/units.none", laid_acequia_units_none), ("acequia/units.litres", laid_acequia_units_litres), ("acequia/units.hours", laid_acequia_units_hours), ("acequia/units.ares", laid_acequia_units_ares), ("acequia/units.flow", laid_acequia_units_flow), ("acequia/units.need", laid_acequia_units_need)] }
def ExpandCheckSpecSaid : Prop := expandCheckSpecRow.holds Tryz.pinned (OpenSpec.ofChange expandCheckSpecSpec)

/-- ITS FALSE NEIGHBOUR: 'it returns false'. Refute it at one input. -/
def expandCheckSpecWrong : ChangeSpec := { name := "expandCheckSpec", fn := fun _ => fun
  | [d] => { results := [.lit (.bool false)], args := [d] }
  | _ => none }
def ExpandCheckSpecWrongFalsely : Prop := expandCheckSpecRow.holds Tryz.pinned (OpenSpec.ofChange expandCheckSpecWrong)

/-- 'acequialaw19.ExpandTurns': WHATEVER THE INPUT: true; the input reads as it did. -/
def expandTurnsSpec : ChangeSpec := { name := "expandTurns", fn := fun _ => fun
  | [d] => { results := [.lit (.bool true)], args := [d] }
  | _ => none }
def expandTurnsRow : OpenClaim := { program := "ytbdfinegbjdblaagreatdoor", sum := "f7c93d929fce930485ee3d2a4f075889cf6801e14dac004faa39b3a8c5a14f85", func := "acequia/acequialaw19.ExpandTurns", spec := "expandTurns", inPlace := ["internal/bytealg.IndexByteString", "internal/bytealg.IndexString"], unfollowed := true, recurses := true, named := ["internal/bytealg.MaxLen", "acequia/units.litres", "acequia/units.hours", "acequia/units.ares", "acequia/units.none", "acequia/units.need", "acequia/units.flow"], loops := true, apart := false, laid := [("acequia/units.none", laid_acequia_units_none), ("acequia/units.litres", laid_acequia_units_litres), ("acequia/units.hours", laid_acequia_units_hours), ("acequia/units.ares", laid_acequia_units_ares), ("acequia/units.flow", laid_acequia_units_flow), ("acequia/units.need", laid_acequia_units_need)] }
def ExpandTurnsSaid : Prop := expandTurnsRow.holds Tryz.pinned (OpenSpec.ofChange expandTurnsSpec)

/-- ITS FALSE NEIGHBOUR: 'it returns false'. Refute it at one input. -/
def expandTurnsWrong : ChangeSpec := { name := "expandTurns", fn := fun _ => fun
  | [d] => { results := [.lit (.bool false)], args := [d] }
  | _ => none }
def ExpandTurnsWrongFalsely : Prop := expandTurnsRow.holds Tryz.pinned (OpenSpec.ofChange expandTurnsWrong)

/-- 'acequialaw19.ExpandConstants': WHATEVER THE INPUT: true; the input reads as it did. -/
def expandConstantsSpec : ChangeSpec := { name := "expandConstants", fn := fun _ => fun
  | [d] => { results := [.lit (.bool true)], args := [d] }
  | _ => none }
def expandConstantsRow : OpenClaim := { program := "ytbdfinegbjdblaagreatdoor", sum := "f7c93d929fce930485ee3d2a4f075889cf6801e14dac004faa39b3a8c5a14f85", func := "acequia/acequialaw19.ExpandConstants", spec := "expandConstants", inPlace := ["internal/bytealg.IndexByteString", "internal/bytealg.IndexString"], unfollowed := true, recurses := true, named := ["internal/bytealg.MaxLen", "acequia/units.litres", "acequia/units.hours", "acequia/units.ares", "acequia/units.none", "acequia/units.need", "acequia/units.flow"], loops := true, apart := false, laid := [("acequia/units.none", laid_acequia_units_none), ("acequia/units.litres", laid_acequia_units_litres), ("acequia/units.hours", laid_acequia_units_hours), ("acequia/units.ares", laid_acequia_units_ares), ("acequia/units.flow", laid_acequia_units_flow), ("acequia/units.need", laid_acequia_units_need)] }
def ExpandConstantsSaid : Prop := expandConstantsRow.holds Tryz.pinned (OpenSpec.ofChange expandConstantsSpec)

/-- ITS FALSE NEIGHBOUR: 'it returns false'. Refute it at one input. -/
def expandConstantsWrong : ChangeSpec := { name := "expandConstants", fn := fun _ => fun
  | [d] => { results := [.lit (.bool false)], args := [d] }
  | _ => none }
def ExpandConstantsWrongFalsely : Prop := expandConstantsRow.holds Tryz.pinned (OpenSpec.ofChange expandConstantsWrong)

/-- 'acequialaw19.ExpandUnits': WHATEVER THE INPUT: true; the input reads as it did. -/
def expandUnitsSpec : ChangeSpec := { name := "expandUnits", fn := fun _ => fun
  | [d] => { results := [.lit (.bool true)], args := [d] }
  | _ => none }
def expandUnitsRow : OpenClaim := { program := "ytbdfinegbjdblaagreatdoor", sum := "f7c93d929fce930485ee3d2a4f075889cf6801e14dac004faa39b3a8c5a14f85", func := "acequia/acequialaw19.ExpandUnits", spec := "expandUnits", inPlace := ["internal/bytealg.IndexByteString", "internal/bytealg.IndexString"], unfollowed := true, recurses := true, named := ["internal/bytealg.MaxLen", "acequia/units.litres", "acequia/units.hours", "acequia/units.ares", "acequia/units.none", "acequia/units.need", "acequia/units.flow"], loops := true, apart := false, laid := [("acequia/units.none", laid_acequia_units_none), ("acequia/units.litres", laid_acequia_units_litres), ("acequia/units.hours", laid_acequia_units_hours), ("acequia/units.ares", laid_acequia_units_ares), ("acequia/units.flow", laid_acequia_units_flow), ("acequia/units.need", laid_acequia_units_need)] }
def ExpandUnitsSaid : Prop := expandUnitsRow.holds Tryz.pinned (OpenSpec.ofChange expandUnitsSpec)

/-- ITS FALSE NEIGHBOUR: 'it returns false'. Refute it at one input. -/
def expandUnitsWrong : ChangeSpec := { name := "expandUnits", fn := fun _ => fun
  | [d] => { results := [.lit (.bool false)], args := [d] }
  | _ => none }
def ExpandUnitsWrongFalsely : Prop := expandUnitsRow.holds Tryz.pinned (OpenSpec.ofChange expandUnitsWrong)

/-- 'acequialaw19.ExpandLess': WHATEVER THE INPUT: true; the input reads as it did. -/
def expandLessSpec : ChangeSpec := { name := "expandLess", fn := fun _ => fun
  | [d] => { results := [.lit (.bool true)], args := [d] }
  | _ => none }
def expandLessRow : OpenClaim := { program := "ytbdfinegbjdblaagreatdoor", sum := "f7c93d929fce930485ee3d2a4f075889cf6801e14dac004faa39b3a8c5a14f85", func := "acequia/acequialaw19.ExpandLess", spec := "expandLess", inPlace := ["internal/bytealg.IndexByteString", "internal/bytealg.IndexString"], unfollowed := true, recurses := true, named := ["internal/bytealg.MaxLen", "acequia/units.litres", "acequia/units.hours", "acequia/units.ares", "acequia/units.none", "acequia/units.need", "acequia/units.flow"], loops := true, apart := false, laid := [("acequia/units.none", laid_acequia_units_none), ("acequia/units.litres", laid_acequia_units_litres), ("acequia/units.hours", laid_acequia_units_hours), ("acequia/units.ares", laid_acequia_units_ares), ("acequia/units.flow", laid_acequia_units_flow), ("acequia/units.need", laid_acequia_units_need)] }
def ExpandLessSaid : Prop := expandLessRow.holds Tryz.pinned (OpenSpec.ofChange expandLessSpec)

/-- ITS FALSE NEIGHBOUR: 'it returns false'. Refute it at one input. -/
def expandLessWrong : ChangeSpec := { name := "expandLess", fn := fun _ => fun
  | [d] => { results := [.lit (.bool false)], args := [d] }
  | _ => none }
def ExpandLessWrongFalsely : Prop := expandLessRow.holds Tryz.pinned (OpenSpec.ofChange expandLessWrong)

/-- 'acequialaw19.ExpandStays': WHATEVER THE INPUT: true; the input reads as it did. -/
def expandStaysSpec : ChangeSpec := { name := "expandStays", fn := fun _ => fun
  | [d1, d2, d3] => { results := [.lit (.bool true)], args := [d1, d2, d3] }
  | _ => none }
def expandStaysRow : OpenClaim := { program := "ytbdfinegbjdblaagreatdoor", sum := "f7c93d929fce930485ee3d2a4f075889cf6801e14dac004faa39b3a8c5a14f85", func := "acequia/acequialaw19.ExpandStays", spec := "expandStays", inPlace := ["internal/bytealg.IndexByteString", "internal/bytealg.IndexString"], unfollowed := true, recurses := true, named := ["internal/bytealg.MaxLen", "acequia/units.litres", "acequia/units.hours", "acequia/units.ares", "acequia/units.none", "acequia/units.need", "acequia/units.flow"], apart := false, laid := [("acequia/units.none", laid_acequia_units_none), ("acequia/units.litres", laid_acequia_units_litres), ("acequia/units.hours", laid_acequia_units_hours), ("acequia/units.ares", laid_acequia_units_ares), ("acequia/units.flow", laid_acequia_units_flow), ("acequia/units.need", laid_acequia_units_need)] }
def ExpandStaysSaid : Prop := expandStaysRow.holds Tryz.pinned (OpenSpec.ofChange expandStaysSpec)

/-- ITS FALSE NEIGHBOUR: 'it returns false'. Refute it at one input. -/
def expandStaysWrong : ChangeSpec := { name := "expandStays", fn := fun _ => fun
  | [d1, d2, d3] => { results := [.lit (.bool false)], args := [d1, d2, d3] }
  | _ => none }
def ExpandStaysWrongFalsely : Prop := expandStaysRow.holds Tryz.pinned (OpenSpec.ofChange expandStaysWrong)

/- THE SECOND FORM. 'bulk': how many values and letters a reading holds, each counted each time it is reached (what is shared counts as often as it is met; a slice's spare places count too). A statement '..UptoSaid' is the law's where the arguments, and the package variables that the reading takes, are together of bulk at most 1048576: NARROWER than '..Said'. Prove '..Said' where nothing that the law and all that it calls make is longer than what came in: it says more and counts as full. Else prove '..UptoSaid'. A law counts once. -/
mutual
def uptoBulk {H : Type} : DataW H → Nat
  | .lit (.string bytes) => bytes.length + 1
  | .lit _ => 1
  | .nil => 1
  | .ptr d => uptoBulk d + 1
  | .slice elems spare => uptoBulkAll elems + uptoBulkAll spare + 1
  | .agg parts => uptoBulkAll parts + 1
  | .iface _ d => uptoBulk d + 1
  | .map entries => uptoBulkEntries entries + 1
  | .held _ => 1
def uptoBulkAll {H : Type} : List (DataW H) → Nat
  | [] => 0
  | d :: r => uptoBulk d + uptoBulkAll r
def uptoBulkEntries {H : Type} : List (Lit × DataW H) → Nat
  | [] => 0
  | x :: r => uptoBulkEntry x + uptoBulkEntries r
def uptoBulkEntry {H : Type} : Lit × DataW H → Nat
  | (.string bytes, d) => bytes.length + uptoBulk d + 1
  | (_, d) => uptoBulk d + 1
 end
def uptoSmall : (H : Type) → List (DataW H) → Bool := fun _ ds => decide (uptoBulkAll ds ≤ 1048576)
def OpenSpec.upto (s : _root_.Go.ChangeSpec) : _root_.Go.OpenSpec := { _root_.Go.OpenSpec.ofChange s with cond := some uptoSmall }

/-- 'acequialaw19.ExpandCheckSpec', WHERE WHAT IT READS IS OF BULK AT MOST 1048576: true; the input reads as it did. -/
def expandCheckSpecUptoRow : OpenClaim := { program := "ytbdfinegbjdblaagreatdoor", sum := "f7c93d929fce930485ee3d2a4f075889cf6801e14dac004faa39b3a8c5a14f85", func := "acequia/acequialaw19.ExpandCheckSpec", spec := "expandCheckSpec", inPlace := ["internal/bytealg.IndexByteString", "internal/bytealg.IndexString"], unfollowed := true, recurses := true, named := ["internal/bytealg.MaxLen", "acequia/units.litres", "acequia/units.hours", "acequia/units.ares", "acequia/units.none", "acequia/units.need", "acequia/units.flow"], apart := false, laid := [("acequia/units.none", laid_acequia_units_none), ("acequia/units.litres", laid_acequia_units_litres), ("acequia/units.hours", laid_acequia_units_hours), ("acequia/units.ares", laid_acequia_units_ares), ("acequia/units.flow", laid_acequia_units_flow), ("acequia/units.need", laid_acequia_units_need)], narrowed := true }
def ExpandCheckSpecUptoSaid : Prop := expandCheckSpecUptoRow.holds Tryz.pinned (OpenSpec.upto expandCheckSpecSpec)

/-- 'acequialaw19.ExpandTurns', WHERE WHAT IT READS IS OF BULK AT MOST 1048576: true; the input reads as it did. -/
def expandTurnsUptoRow : OpenClaim := { program := "ytbdfinegbjdblaagreatdoor", sum := "f7c93d929fce930485ee3d2a4f075889cf6801e14dac004faa39b3a8c5a14f85", func := "acequia/acequialaw19.ExpandTurns", spec := "expandTurns", inPlace := ["internal/bytealg.IndexByteString", "internal/bytealg.IndexString"], unfollowed := true, recurses := true, named := ["internal/bytealg.MaxLen", "acequia/units.litres", "acequia/units.hours", "acequia/units.ares", "acequia/units.none", "acequia/units.need", "acequia/units.flow"], loops := true, apart := false, laid := [("acequia/units.none", laid_acequia_units_none), ("acequia/units.litres", laid_acequia_units_litres), ("acequia/units.hours", laid_acequia_units_hours), ("acequia/units.ares", laid_acequia_units_ares), ("acequia/units.flow", laid_acequia_units_flow), ("acequia/units.need", laid_acequia_units_need)], narrowed := true }
def ExpandTurnsUptoSaid : Prop := expandTurnsUptoRow.holds Tryz.pinned (OpenSpec.upto expandTurnsSpec)

/-- 'acequialaw19.ExpandConstants', WHERE WHAT IT READS IS OF BULK AT MOST 1048576: true; the input reads as it did. -/
def expandConstantsUptoRow : OpenClaim := { program := "ytbdfinegbjdblaagreatdoor", sum := "f7c93d929fce930485ee3d2a4f075889cf6801e14dac004faa39b3a8c5a14f85", func := "acequia/acequialaw19.ExpandConstants", spec := "expandConstants", inPlace := ["internal/bytealg.IndexByteString", "internal/bytealg.IndexString"], unfollowed := true, recurses := true, named := ["internal/bytealg.MaxLen", "acequia/units.litres", "acequia/units.hours", "acequia/units.ares", "acequia/units.none", "acequia/units.need", "acequia/units.flow"], loops := true, apart := false, laid := [("acequia/units.none", laid_acequia_units_none), ("acequia/units.litres", laid_acequia_units_litres), ("acequia/units.hours", laid_acequia_units_hours), ("acequia/units.ares", laid_acequia_units_ares), ("acequia/units.flow", laid_acequia_units_flow), ("acequia/units.need", laid_acequia_units_need)], narrowed := true }
def ExpandConstantsUptoSaid : Prop := expandConstantsUptoRow.holds Tryz.pinned (OpenSpec.upto expandConstantsSpec)

/-- 'acequialaw19.ExpandUnits', WHERE WHAT IT READS IS OF BULK AT MOST 1048576: true; the input reads as it did. -/
def expandUnitsUptoRow : OpenClaim := { program := "ytbdfinegbjdblaagreatdoor", sum := "f7c93d929fce930485ee3d2a4f075889cf6801e14dac004faa39b3a8c5a14f85", func := "acequia/acequialaw19.ExpandUnits", spec := "expandUnits", inPlace := ["internal/bytealg.IndexByteString", "internal/bytealg.IndexString"], unfollowed := true, recurses := true, named := ["internal/bytealg.MaxLen", "acequia/units.litres", "acequia/units.hours", "acequia/units.ares", "acequia/units.none", "acequia/units.need", "acequia/units.flow"], loops := true, apart := false, laid := [("acequia/units.none", laid_acequia_units_none), ("acequia/units.litres", laid_acequia_units_litres), ("acequia/units.hours", laid_acequia_units_hours), ("acequia/units.ares", laid_acequia_units_ares), ("acequia/units.flow", laid_acequia_units_flow), ("acequia/units.need", laid_acequia_units_need)], narrowed := true }
def ExpandUnitsUptoSaid : Prop := expandUnitsUptoRow.holds Tryz.pinned (OpenSpec.upto expandUnitsSpec)

/-- 'acequialaw19.ExpandLess', WHERE WHAT IT READS IS OF BULK AT MOST 1048576: true; the input reads as it did. -/
def expandLessUptoRow : OpenClaim := { program := "ytbdfinegbjdblaagreatdoor", sum := "f7c93d929fce930485ee3d2a4f075889cf6801e14dac004faa39b3a8c5a14f85", func := "acequia/acequialaw19.ExpandLess", spec := "expandLess", inPlace := ["internal/bytealg.IndexByteString", "internal/bytealg.IndexString"], unfollowed := true, recurses := true, named := ["internal/bytealg.MaxLen", "acequia/units.litres", "acequia/units.hours", "acequia/units.ares", "acequia/units.none", "acequia/units.need", "acequia/units.flow"], loops := true, apart := false, laid := [("acequia/units.none", laid_acequia_units_none), ("acequia/units.litres", laid_acequia_units_litres), ("acequia/units.hours", laid_acequia_units_hours), ("acequia/units.ares", laid_acequia_units_ares), ("acequia/units.flow", laid_acequia_units_flow), ("acequia/units.need", laid_acequia_units_need)], narrowed := true }
def ExpandLessUptoSaid : Prop := expandLessUptoRow.holds Tryz.pinned (OpenSpec.upto expandLessSpec)

/-- 'acequialaw19.ExpandStays', WHERE WHAT IT READS IS OF BULK AT MOST 1048576: true; the input reads as it did. -/
def expandStaysUptoRow : OpenClaim := { program := "ytbdfinegbjdblaagreatdoor", sum := "f7c93d929fce930485ee3d2a4f075889cf6801e14dac004faa39b3a8c5a14f85", func := "acequia/acequialaw19.ExpandStays", spec := "expandStays", inPlace := ["internal/bytealg.IndexByteString", "internal/bytealg.IndexString"], unfollowed := true, recurses := true, named := ["internal/bytealg.MaxLen", "acequia/units.litres", "acequia/units.hours", "acequia/units.ares", "acequia/units.none", "acequia/units.need", "acequia/units.flow"], apart := false, laid := [("acequia/units.none", laid_acequia_units_none), ("acequia/units.litres", laid_acequia_units_litres), ("acequia/units.hours", laid_acequia_units_hours), ("acequia/units.ares", laid_acequia_units_ares), ("acequia/units.flow", laid_acequia_units_flow), ("acequia/units.need", laid_acequia_units_need)], narrowed := true }
def ExpandStaysUptoSaid : Prop := expandStaysUptoRow.holds Tryz.pinned (OpenSpec.upto expandStaysSpec)

end Rows
end Go.Proofs.YtbdfinegbjdblaaGreatDoor

/-
  DERIVED. GIVEN WITH THE SEED: THE CARDS: each row of YtbdfinegbjdblaaGreatDoorRows.lean that lists a variable, with what it lists TIED to the program's text (the seventh form; the later family's looks); each row that meets fmt, with fmt's text TOLD by the authors' own Lean function (tested against real Go, not proved from fmt's source: count such statements apart). THE CARD IS WHAT COUNTS. Prove the row's statement (the work); the ties are given (YtbdfinegbjdblaaGreatDoorTie.lean); close each card by the builder's one call (the guide's Derived/Test/ToyasCard.lean, 'card_holds'). Laid BY PROGRAM, IN A SANDBOX (cutbox-door.mjs). By AI agents, Wed Nov 11 2026. No macro, syntax, notation, axiom, sorry.
-/
import Derived.Test.YtbdfinegbjdblaaGreatDoorRows
import GoSem.ClaimSeven
namespace Go.Proofs.YtbdfinegbjdblaaGreatDoor
namespace Rows

/-- THE TIED CARD OF 'acequialaw19.ExpandCheckSpec'. -/
def expandCheckSpecCard : Claim7 := { stood := { row := expandCheckSpecRow, standIns := [], harness := (true, "f5738827d6f63cf036124ae492e350c5da6fed42d8fae68da1c2a643752ba589"), looks := true }, kinds := [], alts := [], laidByText := true, laidKinds := [.data, .data, .data, .data, .data, .data], laidTests := true, laidLooks := .later }
def ExpandCheckSpecCardSaid : Prop := Claim7.holds Tryz.pinned (.plain (OpenSpec.ofChange expandCheckSpecSpec)) expandCheckSpecCard

/-- THE TIED CARD OF 'acequialaw19.ExpandTurns'. -/
def expandTurnsCard : Claim7 := { stood := { row := expandTurnsRow, standIns := [], harness := (true, "f5738827d6f63cf036124ae492e350c5da6fed42d8fae68da1c2a643752ba589"), looks := true }, kinds := [], alts := [], laidByText := true, laidKinds := [.data, .data, .data, .data, .data, .data], laidTests := true, laidLooks := .later }
def ExpandTurnsCardSaid : Prop := Claim7.holds Tryz.pinned (.plain (OpenSpec.ofChange expandTurnsSpec)) expandTurnsCard

/-- THE TIED CARD OF 'acequialaw19.ExpandConstants'. -/
def expandConstantsCard : Claim7 := { stood := { row := expandConstantsRow, standIns := [], harness := (true, "f5738827d6f63cf036124ae492e350c5da6fed42d8fae68da1c2a643752ba589"), looks := true }, kinds := [], alts := [], laidByText := true, laidKinds := [.data, .data, .data, .data, .data, .data], laidTests := true, laidLooks := .later }
def ExpandConstantsCardSaid : Prop := Claim7.holds Tryz.pinned (.plain (OpenSpec.ofChange expandConstantsSpec)) expandConstantsCard

/-- THE TIED CARD OF 'acequialaw19.ExpandUnits'. -/
def expandUnitsCard : Claim7 := { stood := { row := expandUnitsRow, standIns := [], harness := (true, "f5738827d6f63cf036124ae492e350c5da6fed42d8fae68da1c2a643752ba589"), looks := true }, kinds := [], alts := [], laidByText := true, laidKinds := [.data, .data, .data, .data, .data, .data], laidTests := true, laidLooks := .later }
def ExpandUnitsCardSaid : Prop := Claim7.holds Tryz.pinned (.plain (OpenSpec.ofChange expandUnitsSpec)) expandUnitsCard

/-- THE TIED CARD OF 'acequialaw19.ExpandLess'. -/
def expandLessCard : Claim7 := { stood := { row := expandLessRow, standIns := [], harness := (true, "f5738827d6f63cf036124ae492e350c5da6fed42d8fae68da1c2a643752ba589"), looks := true }, kinds := [], alts := [], laidByText := true, laidKinds := [.data, .data, .data, .data, .data, .data], laidTests := true, laidLooks := .later }
def ExpandLessCardSaid : Prop := Claim7.holds Tryz.pinned (.plain (OpenSpec.ofChange expandLessSpec)) expandLessCard

/-- THE TIED CARD OF 'acequialaw19.ExpandStays'. -/
def expandStaysCard : Claim7 := { stood := { row := expandStaysRow, standIns := [], harness := (true, "f5738827d6f63cf036124ae492e350c5da6fed42d8fae68da1c2a643752ba589"), looks := true }, kinds := [], alts := [], laidByText := true, laidKinds := [.data, .data, .data, .data, .data, .data], laidTests := true, laidLooks := .later }
def ExpandStaysCardSaid : Prop := Claim7.holds Tryz.pinned (.plain (OpenSpec.ofChange expandStaysSpec)) expandStaysCard

/-- THE SECOND FORM's CARD OF 'acequialaw19.ExpandCheckSpec'. -/
def expandCheckSpecUptoCard : Claim7 := { stood := { row := expandCheckSpecUptoRow, standIns := [], harness := (true, "f5738827d6f63cf036124ae492e350c5da6fed42d8fae68da1c2a643752ba589"), looks := true }, kinds := [], alts := [], laidByText := true, laidKinds := [.data, .data, .data, .data, .data, .data], laidTests := true, laidLooks := .later }
def ExpandCheckSpecUptoCardSaid : Prop := Claim7.holds Tryz.pinned (.plain (OpenSpec.upto expandCheckSpecSpec)) expandCheckSpecUptoCard

/-- THE SECOND FORM's CARD OF 'acequialaw19.ExpandTurns'. -/
def expandTurnsUptoCard : Claim7 := { stood := { row := expandTurnsUptoRow, standIns := [], harness := (true, "f5738827d6f63cf036124ae492e350c5da6fed42d8fae68da1c2a643752ba589"), looks := true }, kinds := [], alts := [], laidByText := true, laidKinds := [.data, .data, .data, .data, .data, .data], laidTests := true, laidLooks := .later }
def ExpandTurnsUptoCardSaid : Prop := Claim7.holds Tryz.pinned (.plain (OpenSpec.upto expandTurnsSpec)) expandTurnsUptoCard

/-- THE SECOND FORM's CARD OF 'acequialaw19.ExpandConstants'. -/
def expandConstantsUptoCard : Claim7 := { stood := { row := expandConstantsUptoRow, standIns := [], harness := (true, "f5738827d6f63cf036124ae492e350c5da6fed42d8fae68da1c2a643752ba589"), looks := true }, kinds := [], alts := [], laidByText := true, laidKinds := [.data, .data, .data, .data, .data, .data], laidTests := true, laidLooks := .later }
def ExpandConstantsUptoCardSaid : Prop := Claim7.holds Tryz.pinned (.plain (OpenSpec.upto expandConstantsSpec)) expandConstantsUptoCard

/-- THE SECOND FORM's CARD OF 'acequialaw19.ExpandUnits'. -/
def expandUnitsUptoCard : Claim7 := { stood := { row := expandUnitsUptoRow, standIns := [], harness := (true, "f5738827d6f63cf036124ae492e350c5da6fed42d8fae68da1c2a643752ba589"), looks := true }, kinds := [], alts := [], laidByText := true, laidKinds := [.data, .data, .data, .data, .data, .data], laidTests := true, laidLooks := .later }
def ExpandUnitsUptoCardSaid : Prop := Claim7.holds Tryz.pinned (.plain (OpenSpec.upto expandUnitsSpec)) expandUnitsUptoCard

/-- THE SECOND FORM's CARD OF 'acequialaw19.ExpandLess'. -/
def expandLessUptoCard : Claim7 := { stood := { row := expandLessUptoRow, standIns := [], harness := (true, "f5738827d6f63cf036124ae492e350c5da6fed42d8fae68da1c2a643752ba589"), looks := true }, kinds := [], alts := [], laidByText := true, laidKinds := [.data, .data, .data, .data, .data, .data], laidTests := true, laidLooks := .later }
def ExpandLessUptoCardSaid : Prop := Claim7.holds Tryz.pinned (.plain (OpenSpec.upto expandLessSpec)) expandLessUptoCard

/-- THE SECOND FORM's CARD OF 'acequialaw19.ExpandStays'. -/
def expandStaysUptoCard : Claim7 := { stood := { row := expandStaysUptoRow, standIns := [], harness := (true, "f5738827d6f63cf036124ae492e350c5da6fed42d8fae68da1c2a643752ba589"), looks := true }, kinds := [], alts := [], laidByText := true, laidKinds := [.data, .data, .data, .data, .data, .data], laidTests := true, laidLooks := .later }
def ExpandStaysUptoCardSaid : Prop := Claim7.holds Tryz.pinned (.plain (OpenSpec.upto expandStaysSpec)) expandStaysUptoCard
end Rows
end Go.Proofs.YtbdfinegbjdblaaGreatDoor

/-
  DERIVED. GIVEN WITH THE SEED: THE CARDS: each row of YtjofgpfocadomaaGreatDoorRows.lean that lists a variable, with what it lists TIED to the program's text (the seventh form; the later family's looks); each row that meets fmt, with fmt's text TOLD by the authors' own Lean function (tested against real Go, not proved from fmt's source: count such statements apart). THE CARD IS WHAT COUNTS. Prove the row's statement (the work); the ties are given (YtjofgpfocadomaaGreatDoorTie.lean); close each card by the builder's one call (the guide's Derived/Test/ToyasCard.lean, 'card_holds'). Laid BY PROGRAM, IN A SANDBOX (cutbox-door.mjs). By AI agents, Wed Nov 11 2026. No macro, syntax, notation, axiom, sorry.
-/
import Derived.Test.YtjofgpfocadomaaGreatDoorRows
import GoSem.ClaimSeven
namespace Go.Proofs.YtjofgpfocadomaaGreatDoor
namespace Rows

/-- THE TIED CARD OF 'acequialaw18.UnitsScaled'. -/
def unitsScaledCard : Claim7 := { stood := { row := unitsScaledRow, standIns := [], harness := (true, "11f3996585834df42a1b22c8d320a2ae51f6086afdeb77c2ef291d0b945e9561"), looks := true }, kinds := [], alts := [], laidByText := true, laidKinds := [.data, .data, .data, .data, .data, .data], laidTests := true, laidLooks := .later }
def UnitsScaledCardSaid : Prop := Claim7.holds Tryz.pinned (.plain (OpenSpec.ofChange unitsScaledSpec)) unitsScaledCard

/-- THE TIED CARD OF 'acequialaw18.UnitsInlined'. -/
def unitsInlinedCard : Claim7 := { stood := { row := unitsInlinedRow, standIns := [], harness := (true, "11f3996585834df42a1b22c8d320a2ae51f6086afdeb77c2ef291d0b945e9561"), looks := true }, kinds := [], alts := [], laidByText := true, laidKinds := [.data, .data, .data, .data, .data, .data], laidTests := true, laidLooks := .later }
def UnitsInlinedCardSaid : Prop := Claim7.holds Tryz.pinned (.plain (OpenSpec.ofChange unitsInlinedSpec)) unitsInlinedCard

/-- THE TIED CARD OF 'acequialaw18.UnitsTurned'. -/
def unitsTurnedCard : Claim7 := { stood := { row := unitsTurnedRow, standIns := [], harness := (true, "11f3996585834df42a1b22c8d320a2ae51f6086afdeb77c2ef291d0b945e9561"), looks := true }, kinds := [], alts := [], laidByText := true, laidKinds := [.data, .data, .data, .data, .data, .data], laidTests := true, laidLooks := .later }
def UnitsTurnedCardSaid : Prop := Claim7.holds Tryz.pinned (.plain (OpenSpec.ofChange unitsTurnedSpec)) unitsTurnedCard

/-- THE TIED CARD OF 'acequialaw18.UnitsSmall'. -/
def unitsSmallCard : Claim7 := { stood := { row := unitsSmallRow, standIns := [], harness := (true, "11f3996585834df42a1b22c8d320a2ae51f6086afdeb77c2ef291d0b945e9561"), looks := true }, kinds := [], alts := [], laidByText := true, laidKinds := [.data, .data, .data, .data, .data, .data], laidTests := true, laidLooks := .later }
def UnitsSmallCardSaid : Prop := Claim7.holds Tryz.pinned (.plain (OpenSpec.ofChange unitsSmallSpec)) unitsSmallCard

/-- THE SECOND FORM's CARD OF 'acequialaw18.UnitsScaled'. -/
def unitsScaledUptoCard : Claim7 := { stood := { row := unitsScaledUptoRow, standIns := [], harness := (true, "11f3996585834df42a1b22c8d320a2ae51f6086afdeb77c2ef291d0b945e9561"), looks := true }, kinds := [], alts := [], laidByText := true, laidKinds := [.data, .data, .data, .data, .data, .data], laidTests := true, laidLooks := .later }
def UnitsScaledUptoCardSaid : Prop := Claim7.holds Tryz.pinned (.plain (OpenSpec.upto unitsScaledSpec)) unitsScaledUptoCard

/-- THE SECOND FORM's CARD OF 'acequialaw18.UnitsInlined'. -/
def unitsInlinedUptoCard : Claim7 := { stood := { row := unitsInlinedUptoRow, standIns := [], harness := (true, "11f3996585834df42a1b22c8d320a2ae51f6086afdeb77c2ef291d0b945e9561"), looks := true }, kinds := [], alts := [], laidByText := true, laidKinds := [.data, .data, .data, .data, .data, .data], laidTests := true, laidLooks := .later }
def UnitsInlinedUptoCardSaid : Prop := Claim7.holds Tryz.pinned (.plain (OpenSpec.upto unitsInlinedSpec)) unitsInlinedUptoCard

/-- THE SECOND FORM's CARD OF 'acequialaw18.UnitsTurned'. -/
def unitsTurnedUptoCard : Claim7 := { stood := { row := unitsTurnedUptoRow, standIns := [], harness := (true, "11f3996585834df42a1b22c8d320a2ae51f6086afdeb77c2ef291d0b945e9561"), looks := true }, kinds := [], alts := [], laidByText := true, laidKinds := [.data, .data, .data, .data, .data, .data], laidTests := true, laidLooks := .later }
def UnitsTurnedUptoCardSaid : Prop := Claim7.holds Tryz.pinned (.plain (OpenSpec.upto unitsTurnedSpec)) unitsTurnedUptoCard

/-- THE SECOND FORM's CARD OF 'acequialaw18.UnitsSmall'. -/
def unitsSmallUptoCard : Claim7 := { stood := { row := unitsSmallUptoRow, standIns := [], harness := (true, "11f3996585834df42a1b22c8d320a2ae51f6086afdeb77c2ef291d0b945e9561"), looks := true }, kinds := [], alts := [], laidByText := true, laidKinds := [.data, .data, .data, .data, .data, .data], laidTests := true, laidLooks := .later }
def UnitsSmallUptoCardSaid : Prop := Claim7.holds Tryz.pinned (.plain (OpenSpec.upto unitsSmallSpec)) unitsSmallUptoCard
end Rows
end Go.Proofs.YtjofgpfocadomaaGreatDoor

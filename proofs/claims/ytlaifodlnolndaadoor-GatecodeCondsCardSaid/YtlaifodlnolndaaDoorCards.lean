/-
  DERIVED. GIVEN WITH THE SEED: THE CARDS: each row of YtlaifodlnolndaaDoorRows.lean that lists a variable, with what it lists TIED to the program's text (the seventh form; the later family's looks); each row that meets fmt, with fmt's text TOLD by the authors' own Lean function (tested against real Go, not proved from fmt's source: count such statements apart). THE CARD IS WHAT COUNTS. Prove the row's statement (the work); the ties are given (YtlaifodlnolndaaDoorTie.lean); close each card by the builder's one call (the guide's Derived/Test/ToyasCard.lean, 'card_holds'). Laid BY PROGRAM, IN A SANDBOX (cutbox-door.mjs). By AI agents, Wed Nov 11 2026. No macro, syntax, notation, axiom, sorry.
-/
import Derived.Test.YtlaifodlnolndaaDoorRows
import GoSem.ClaimSeven
namespace Go.Proofs.YtlaifodlnolndaaDoor
namespace Rows

/-- THE TIED CARD OF 'acequialaw31.GatecodeRunSpec'. -/
def gatecodeRunSpecCard : Claim7 := { stood := { row := gatecodeRunSpecRow, standIns := [], harness := (true, "e65092b6c8e12897320936d0b59b09d858db66b2193a5810b3c0cafb90844fc6"), looks := true }, kinds := [], alts := [], laidByText := true, laidKinds := [.data, .data, .data, .sentinel, .sentinel], laidTests := true, laidLooks := .later }
def GatecodeRunSpecCardSaid : Prop := Claim7.holds Tryd.pinned (.plain (OpenSpec.ofChange gatecodeRunSpecSpec)) gatecodeRunSpecCard

/-- THE TIED CARD OF 'acequialaw31.GatecodeBack'. -/
def gatecodeBackCard : Claim7 := { stood := { row := gatecodeBackRow, standIns := [], harness := (true, "e65092b6c8e12897320936d0b59b09d858db66b2193a5810b3c0cafb90844fc6"), looks := true }, kinds := [], alts := [], laidByText := true, laidKinds := [.data, .data, .data, .sentinel, .sentinel], laidTests := true, laidLooks := .later }
def GatecodeBackCardSaid : Prop := Claim7.holds Tryd.pinned (.plain (OpenSpec.ofChange gatecodeBackSpec)) gatecodeBackCard

/-- THE TIED CARD OF 'acequialaw31.GatecodeFirst'. -/
def gatecodeFirstCard : Claim7 := { stood := { row := gatecodeFirstRow, standIns := [], harness := (true, "e65092b6c8e12897320936d0b59b09d858db66b2193a5810b3c0cafb90844fc6"), looks := true }, kinds := [], alts := [], laidByText := true, laidKinds := [.data, .data, .data, .sentinel, .sentinel], laidTests := true, laidLooks := .later }
def GatecodeFirstCardSaid : Prop := Claim7.holds Tryd.pinned (.plain (OpenSpec.ofChange gatecodeFirstSpec)) gatecodeFirstCard

/-- THE TIED CARD OF 'acequialaw31.GatecodeJoined'. -/
def gatecodeJoinedCard : Claim7 := { stood := { row := gatecodeJoinedRow, standIns := [], harness := (true, "e65092b6c8e12897320936d0b59b09d858db66b2193a5810b3c0cafb90844fc6"), looks := true }, kinds := [], alts := [], laidByText := true, laidKinds := [.data, .data, .data, .sentinel, .sentinel], laidTests := true, laidLooks := .later }
def GatecodeJoinedCardSaid : Prop := Claim7.holds Tryd.pinned (.plain (OpenSpec.ofChange gatecodeJoinedSpec)) gatecodeJoinedCard

/-- THE TIED CARD OF 'acequialaw31.GatecodeConds'. -/
def gatecodeCondsCard : Claim7 := { stood := { row := gatecodeCondsRow, standIns := [], harness := (true, "e65092b6c8e12897320936d0b59b09d858db66b2193a5810b3c0cafb90844fc6"), looks := true }, kinds := [], alts := [], laidByText := true, laidKinds := [.data, .data, .data, .sentinel, .sentinel], laidTests := true, laidLooks := .later }
def GatecodeCondsCardSaid : Prop := Claim7.holds Tryd.pinned (.plain (OpenSpec.ofChange gatecodeCondsSpec)) gatecodeCondsCard

/-- THE TIED CARD OF 'acequialaw31.GatecodeBlank'. -/
def gatecodeBlankCard : Claim7 := { stood := { row := gatecodeBlankRow, standIns := [], harness := (true, "e65092b6c8e12897320936d0b59b09d858db66b2193a5810b3c0cafb90844fc6"), looks := true }, kinds := [], alts := [], laidByText := true, laidKinds := [.data, .data, .data, .sentinel, .sentinel], laidTests := true, laidLooks := .later }
def GatecodeBlankCardSaid : Prop := Claim7.holds Tryd.pinned (.plain (OpenSpec.ofChange gatecodeBlankSpec)) gatecodeBlankCard

/-- THE SECOND FORM's CARD OF 'acequialaw31.GatecodeRunSpec'. -/
def gatecodeRunSpecUptoCard : Claim7 := { stood := { row := gatecodeRunSpecUptoRow, standIns := [], harness := (true, "e65092b6c8e12897320936d0b59b09d858db66b2193a5810b3c0cafb90844fc6"), looks := true }, kinds := [], alts := [], laidByText := true, laidKinds := [.data, .data, .data, .sentinel, .sentinel], laidTests := true, laidLooks := .later }
def GatecodeRunSpecUptoCardSaid : Prop := Claim7.holds Tryd.pinned (.plain (OpenSpec.upto gatecodeRunSpecSpec)) gatecodeRunSpecUptoCard

/-- THE SECOND FORM's CARD OF 'acequialaw31.GatecodeBack'. -/
def gatecodeBackUptoCard : Claim7 := { stood := { row := gatecodeBackUptoRow, standIns := [], harness := (true, "e65092b6c8e12897320936d0b59b09d858db66b2193a5810b3c0cafb90844fc6"), looks := true }, kinds := [], alts := [], laidByText := true, laidKinds := [.data, .data, .data, .sentinel, .sentinel], laidTests := true, laidLooks := .later }
def GatecodeBackUptoCardSaid : Prop := Claim7.holds Tryd.pinned (.plain (OpenSpec.upto gatecodeBackSpec)) gatecodeBackUptoCard

/-- THE SECOND FORM's CARD OF 'acequialaw31.GatecodeFirst'. -/
def gatecodeFirstUptoCard : Claim7 := { stood := { row := gatecodeFirstUptoRow, standIns := [], harness := (true, "e65092b6c8e12897320936d0b59b09d858db66b2193a5810b3c0cafb90844fc6"), looks := true }, kinds := [], alts := [], laidByText := true, laidKinds := [.data, .data, .data, .sentinel, .sentinel], laidTests := true, laidLooks := .later }
def GatecodeFirstUptoCardSaid : Prop := Claim7.holds Tryd.pinned (.plain (OpenSpec.upto gatecodeFirstSpec)) gatecodeFirstUptoCard

/-- THE SECOND FORM's CARD OF 'acequialaw31.GatecodeJoined'. -/
def gatecodeJoinedUptoCard : Claim7 := { stood := { row := gatecodeJoinedUptoRow, standIns := [], harness := (true, "e65092b6c8e12897320936d0b59b09d858db66b2193a5810b3c0cafb90844fc6"), looks := true }, kinds := [], alts := [], laidByText := true, laidKinds := [.data, .data, .data, .sentinel, .sentinel], laidTests := true, laidLooks := .later }
def GatecodeJoinedUptoCardSaid : Prop := Claim7.holds Tryd.pinned (.plain (OpenSpec.upto gatecodeJoinedSpec)) gatecodeJoinedUptoCard

/-- THE SECOND FORM's CARD OF 'acequialaw31.GatecodeConds'. -/
def gatecodeCondsUptoCard : Claim7 := { stood := { row := gatecodeCondsUptoRow, standIns := [], harness := (true, "e65092b6c8e12897320936d0b59b09d858db66b2193a5810b3c0cafb90844fc6"), looks := true }, kinds := [], alts := [], laidByText := true, laidKinds := [.data, .data, .data, .sentinel, .sentinel], laidTests := true, laidLooks := .later }
def GatecodeCondsUptoCardSaid : Prop := Claim7.holds Tryd.pinned (.plain (OpenSpec.upto gatecodeCondsSpec)) gatecodeCondsUptoCard

/-- THE SECOND FORM's CARD OF 'acequialaw31.GatecodeBlank'. -/
def gatecodeBlankUptoCard : Claim7 := { stood := { row := gatecodeBlankUptoRow, standIns := [], harness := (true, "e65092b6c8e12897320936d0b59b09d858db66b2193a5810b3c0cafb90844fc6"), looks := true }, kinds := [], alts := [], laidByText := true, laidKinds := [.data, .data, .data, .sentinel, .sentinel], laidTests := true, laidLooks := .later }
def GatecodeBlankUptoCardSaid : Prop := Claim7.holds Tryd.pinned (.plain (OpenSpec.upto gatecodeBlankSpec)) gatecodeBlankUptoCard
end Rows
end Go.Proofs.YtlaifodlnolndaaDoor

/-
  DERIVED. GIVEN WITH THE SEED: THE CARDS: each row of YtlaifodlnolndaaGreatDoorRows.lean that lists a variable, with what it lists TIED to the program's text (the seventh form; the later family's looks); each row that meets fmt, with fmt's text TOLD by the authors' own Lean function (tested against real Go, not proved from fmt's source: count such statements apart). THE CARD IS WHAT COUNTS. Prove the row's statement (the work); the ties are given (YtlaifodlnolndaaGreatDoorTie.lean); close each card by the builder's one call (the guide's Derived/Test/ToyasCard.lean, 'card_holds'). Laid BY PROGRAM, IN A SANDBOX (cutbox-door.mjs). By AI agents, Wed Nov 11 2026. No macro, syntax, notation, axiom, sorry.
-/
import Derived.Test.YtlaifodlnolndaaGreatDoorRows
import GoSem.ClaimSeven
namespace Go.Proofs.YtlaifodlnolndaaGreatDoor
namespace Rows

/-- THE TIED CARD OF 'acequialaw31.GatecodeParseSpec'. -/
def gatecodeParseSpecCard : Claim7 := { stood := { row := gatecodeParseSpecRow, standIns := [], harness := (true, "bf64538d2753e478aafc0977a7107f007134e901e4c25a5dea8c71eac6e194ed"), looks := true }, kinds := [], alts := [], laidByText := true, laidKinds := [.data, .data, .data, .sentinel, .sentinel], laidTests := true, laidLooks := .later }
def GatecodeParseSpecCardSaid : Prop := Claim7.holds Tryz.pinned (.plain (OpenSpec.ofChange gatecodeParseSpecSpec)) gatecodeParseSpecCard

/-- THE SECOND FORM's CARD OF 'acequialaw31.GatecodeParseSpec'. -/
def gatecodeParseSpecUptoCard : Claim7 := { stood := { row := gatecodeParseSpecUptoRow, standIns := [], harness := (true, "bf64538d2753e478aafc0977a7107f007134e901e4c25a5dea8c71eac6e194ed"), looks := true }, kinds := [], alts := [], laidByText := true, laidKinds := [.data, .data, .data, .sentinel, .sentinel], laidTests := true, laidLooks := .later }
def GatecodeParseSpecUptoCardSaid : Prop := Claim7.holds Tryz.pinned (.plain (OpenSpec.upto gatecodeParseSpecSpec)) gatecodeParseSpecUptoCard
end Rows
end Go.Proofs.YtlaifodlnolndaaGreatDoor

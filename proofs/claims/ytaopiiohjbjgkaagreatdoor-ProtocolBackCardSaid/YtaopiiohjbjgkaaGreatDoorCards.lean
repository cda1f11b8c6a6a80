/-
  DERIVED. GIVEN WITH THE SEED: THE CARDS: each row of YtaopiiohjbjgkaaGreatDoorRows.lean that lists a variable, with what it lists TIED to the program's text (the seventh form; the later family's looks); each row that meets fmt, with fmt's text TOLD by the authors' own Lean function (tested against real Go, not proved from fmt's source: count such statements apart). THE CARD IS WHAT COUNTS. Prove the row's statement (the work); the ties are given (YtaopiiohjbjgkaaGreatDoorTie.lean); close each card by the builder's one call (the guide's Derived/Test/ToyasCard.lean, 'card_holds'). Laid BY PROGRAM, IN A SANDBOX (cutbox-door.mjs). By AI agents, Wed Nov 11 2026. No macro, syntax, notation, axiom, sorry.
-/
import Derived.Test.YtaopiiohjbjgkaaGreatDoorRows
import GoSem.ClaimSeven
namespace Go.Proofs.YtaopiiohjbjgkaaGreatDoor
namespace Rows

/-- THE TIED CARD OF 'parlourlaw36.ProtocolBack'. -/
def protocolBackCard : Claim7 := { stood := { row := protocolBackRow, standIns := [], harness := (true, "372b070e85c9718f57fd7ea6ce45ddc0dd73d0382579622badeb3c215a8797db"), looks := true }, kinds := [], alts := [], goes := true, laidByText := true, laidKinds := [.data, .data, .data, .handle, .sentinel, .sentinel, .data, .data], laidTests := true, laidLooks := .later }
def ProtocolBackCardSaid : Prop := Claim7.holds Tryz.pinned (.plain (OpenSpec.ofChange protocolBackSpec)) protocolBackCard

/-- THE SECOND FORM's CARD OF 'parlourlaw36.ProtocolBack'. -/
def protocolBackUptoCard : Claim7 := { stood := { row := protocolBackUptoRow, standIns := [], harness := (true, "372b070e85c9718f57fd7ea6ce45ddc0dd73d0382579622badeb3c215a8797db"), looks := true }, kinds := [], alts := [], goes := true, laidByText := true, laidKinds := [.data, .data, .data, .handle, .sentinel, .sentinel, .data, .data], laidTests := true, laidLooks := .later }
def ProtocolBackUptoCardSaid : Prop := Claim7.holds Tryz.pinned (.plain (OpenSpec.upto protocolBackSpec)) protocolBackUptoCard
end Rows
end Go.Proofs.YtaopiiohjbjgkaaGreatDoor

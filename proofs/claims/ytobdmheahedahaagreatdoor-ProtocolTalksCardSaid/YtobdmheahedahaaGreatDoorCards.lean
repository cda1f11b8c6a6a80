/-
  DERIVED. GIVEN WITH THE SEED: THE CARDS: each row of YtobdmheahedahaaGreatDoorRows.lean that lists a variable, with what it lists TIED to the program's text (the seventh form; the later family's looks); each row that meets fmt, with fmt's text TOLD by the authors' own Lean function (tested against real Go, not proved from fmt's source: count such statements apart). THE CARD IS WHAT COUNTS. Prove the row's statement (the work); the ties are given (YtobdmheahedahaaGreatDoorTie.lean); close each card by the builder's one call (the guide's Derived/Test/ToyasCard.lean, 'card_holds'). Laid BY PROGRAM, IN A SANDBOX (cutbox-door.mjs). By AI agents, Wed Nov 11 2026. No macro, syntax, notation, axiom, sorry.
-/
import Derived.Test.YtobdmheahedahaaGreatDoorRows
import GoSem.ClaimSeven
namespace Go.Proofs.YtobdmheahedahaaGreatDoor
namespace Rows

/-- THE TIED CARD OF 'parlourlaw36.ProtocolTalks'. -/
def protocolTalksCard : Claim7 := { stood := { row := protocolTalksRow, standIns := [], harness := (true, "97cd0e7b578643ac16bb1fa33c8ef25ea074de435d1cead886b3c496ca76e48e"), looks := true }, kinds := [], alts := [], laidByText := true, laidKinds := [.data, .data, .data, .sentinel, .sentinel, .data, .data], laidTests := true, laidLooks := .later }
def ProtocolTalksCardSaid : Prop := Claim7.holds Tryz.pinned (.plain (OpenSpec.ofChange protocolTalksSpec)) protocolTalksCard

/-- THE SECOND FORM's CARD OF 'parlourlaw36.ProtocolTalks'. -/
def protocolTalksUptoCard : Claim7 := { stood := { row := protocolTalksUptoRow, standIns := [], harness := (true, "97cd0e7b578643ac16bb1fa33c8ef25ea074de435d1cead886b3c496ca76e48e"), looks := true }, kinds := [], alts := [], laidByText := true, laidKinds := [.data, .data, .data, .sentinel, .sentinel, .data, .data], laidTests := true, laidLooks := .later }
def ProtocolTalksUptoCardSaid : Prop := Claim7.holds Tryz.pinned (.plain (OpenSpec.upto protocolTalksSpec)) protocolTalksUptoCard
end Rows
end Go.Proofs.YtobdmheahedahaaGreatDoor

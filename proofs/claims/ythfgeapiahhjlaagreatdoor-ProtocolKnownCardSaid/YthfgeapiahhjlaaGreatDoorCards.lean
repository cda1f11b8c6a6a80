/-
  DERIVED. GIVEN WITH THE SEED: THE CARDS: each row of YthfgeapiahhjlaaGreatDoorRows.lean that lists a variable, with what it lists TIED to the program's text (the seventh form; the later family's looks); each row that meets fmt, with fmt's text TOLD by the authors' own Lean function (tested against real Go, not proved from fmt's source: count such statements apart). THE CARD IS WHAT COUNTS. Prove the row's statement (the work); the ties are given (YthfgeapiahhjlaaGreatDoorTie.lean); close each card by the builder's one call (the guide's Derived/Test/ToyasCard.lean, 'card_holds'). Laid BY PROGRAM, IN A SANDBOX (cutbox-door.mjs). By AI agents, Wed Nov 11 2026. No macro, syntax, notation, axiom, sorry.
-/
import Derived.Test.YthfgeapiahhjlaaGreatDoorRows
import GoSem.ClaimSeven
namespace Go.Proofs.YthfgeapiahhjlaaGreatDoor
namespace Rows

/-- THE TIED CARD OF 'parlourlaw36.ProtocolKnown'. -/
def protocolKnownCard : Claim7 := { stood := { row := protocolKnownRow, standIns := [], harness := (true, "dadcfbad98683c7037248a9a425a14872992c3a86df2bf229e432216aa9512f1"), looks := true }, kinds := [], alts := [], goes := true, laidByText := true, laidKinds := [.data, .data, .data, .handle, .sentinel, .sentinel, .data, .data], laidTests := true, laidLooks := .later }
def ProtocolKnownCardSaid : Prop := Claim7.holds Tryz.pinned (.plain (OpenSpec.ofChange protocolKnownSpec)) protocolKnownCard

/-- THE SECOND FORM's CARD OF 'parlourlaw36.ProtocolKnown'. -/
def protocolKnownUptoCard : Claim7 := { stood := { row := protocolKnownUptoRow, standIns := [], harness := (true, "dadcfbad98683c7037248a9a425a14872992c3a86df2bf229e432216aa9512f1"), looks := true }, kinds := [], alts := [], goes := true, laidByText := true, laidKinds := [.data, .data, .data, .handle, .sentinel, .sentinel, .data, .data], laidTests := true, laidLooks := .later }
def ProtocolKnownUptoCardSaid : Prop := Claim7.holds Tryz.pinned (.plain (OpenSpec.upto protocolKnownSpec)) protocolKnownUptoCard
end Rows
end Go.Proofs.YthfgeapiahhjlaaGreatDoor

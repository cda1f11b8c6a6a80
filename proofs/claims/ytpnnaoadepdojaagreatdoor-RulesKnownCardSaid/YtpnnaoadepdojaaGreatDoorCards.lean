/-
  DERIVED. GIVEN WITH THE SEED: THE CARDS: each row of YtpnnaoadepdojaaGreatDoorRows.lean that lists a variable, with what it lists TIED to the program's text (the seventh form; the later family's looks); each row that meets fmt, with fmt's text TOLD by the authors' own Lean function (tested against real Go, not proved from fmt's source: count such statements apart). THE CARD IS WHAT COUNTS. Prove the row's statement (the work); the ties are given (YtpnnaoadepdojaaGreatDoorTie.lean); close each card by the builder's one call (the guide's Derived/Test/ToyasCard.lean, 'card_holds'). Laid BY PROGRAM, IN A SANDBOX (cutbox-door.mjs). By AI agents, Wed Nov 11 2026. No macro, syntax, notation, axiom, sorry.
-/
import Derived.Test.YtpnnaoadepdojaaGreatDoorRows
import GoSem.ClaimSeven
namespace Go.Proofs.YtpnnaoadepdojaaGreatDoor
namespace Rows

/-- THE TIED CARD OF 'parlourlaw10.RulesKnown'. -/
def rulesKnownCard : Claim7 := { stood := { row := rulesKnownRow, standIns := [], harness := (true, "8dc0a85547d1075e4173c2b4201ca0b00c04fc8393db31e7b251741007a89740"), looks := true }, kinds := [], alts := [], goes := true, laidByText := true, laidKinds := [.data, .data, .data, .handle], laidTests := true, laidLooks := .later }
def RulesKnownCardSaid : Prop := Claim7.holds Tryz.pinned (.plain (OpenSpec.ofChange rulesKnownSpec)) rulesKnownCard

/-- THE SECOND FORM's CARD OF 'parlourlaw10.RulesKnown'. -/
def rulesKnownUptoCard : Claim7 := { stood := { row := rulesKnownUptoRow, standIns := [], harness := (true, "8dc0a85547d1075e4173c2b4201ca0b00c04fc8393db31e7b251741007a89740"), looks := true }, kinds := [], alts := [], goes := true, laidByText := true, laidKinds := [.data, .data, .data, .handle], laidTests := true, laidLooks := .later }
def RulesKnownUptoCardSaid : Prop := Claim7.holds Tryz.pinned (.plain (OpenSpec.upto rulesKnownSpec)) rulesKnownUptoCard
end Rows
end Go.Proofs.YtpnnaoadepdojaaGreatDoor

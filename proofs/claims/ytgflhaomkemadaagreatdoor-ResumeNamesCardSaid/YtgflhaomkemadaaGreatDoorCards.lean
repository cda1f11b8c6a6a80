/-
  DERIVED. GIVEN WITH THE SEED: THE CARDS: each row of YtgflhaomkemadaaGreatDoorRows.lean that lists a variable, with what it lists TIED to the program's text (the seventh form; the later family's looks); each row that meets fmt, with fmt's text TOLD by the authors' own Lean function (tested against real Go, not proved from fmt's source: count such statements apart). THE CARD IS WHAT COUNTS. Prove the row's statement (the work); the ties are given (YtgflhaomkemadaaGreatDoorTie.lean); close each card by the builder's one call (the guide's Derived/Test/ToyasCard.lean, 'card_holds'). Laid BY PROGRAM, IN A SANDBOX (cutbox-door.mjs). By AI agents, Wed Nov 11 2026. No macro, syntax, notation, axiom, sorry.
-/
import Derived.Test.YtgflhaomkemadaaGreatDoorRows
import GoSem.ClaimSeven
namespace Go.Proofs.YtgflhaomkemadaaGreatDoor
namespace Rows

/-- THE TIED CARD OF 'parlourlaw41.ResumeNames'. -/
def resumeNamesCard : Claim7 := { stood := { row := resumeNamesRow, standIns := [], harness := (true, "d5f24fe6b6bc0b4cd906bd7d74eacb5e988c1e0990ec7e0771ba16e4b22995a7"), looks := true }, kinds := [], alts := [], laidByText := true, laidKinds := [.data, .data, .data], laidTests := true, laidLooks := .later }
def ResumeNamesCardSaid : Prop := Claim7.holds Tryz.pinned (.plain (OpenSpec.ofChange resumeNamesSpec)) resumeNamesCard

/-- THE SECOND FORM's CARD OF 'parlourlaw41.ResumeNames'. -/
def resumeNamesUptoCard : Claim7 := { stood := { row := resumeNamesUptoRow, standIns := [], harness := (true, "d5f24fe6b6bc0b4cd906bd7d74eacb5e988c1e0990ec7e0771ba16e4b22995a7"), looks := true }, kinds := [], alts := [], laidByText := true, laidKinds := [.data, .data, .data], laidTests := true, laidLooks := .later }
def ResumeNamesUptoCardSaid : Prop := Claim7.holds Tryz.pinned (.plain (OpenSpec.upto resumeNamesSpec)) resumeNamesUptoCard
end Rows
end Go.Proofs.YtgflhaomkemadaaGreatDoor

/-
  DERIVED. GIVEN WITH THE SEED: THE CARDS: each row of YtiemfjdacfioeaaGreatDoorRows.lean that lists a variable, with what it lists TIED to the program's text (the seventh form; the later family's looks); each row that meets fmt, with fmt's text TOLD by the authors' own Lean function (tested against real Go, not proved from fmt's source: count such statements apart). THE CARD IS WHAT COUNTS. Prove the row's statement (the work); the ties are given (YtiemfjdacfioeaaGreatDoorTie.lean); close each card by the builder's one call (the guide's Derived/Test/ToyasCard.lean, 'card_holds'). Laid BY PROGRAM, IN A SANDBOX (cutbox-door.mjs). By AI agents, Wed Nov 11 2026. No macro, syntax, notation, axiom, sorry.
-/
import Derived.Test.YtiemfjdacfioeaaGreatDoorRows
import GoSem.ClaimSeven
namespace Go.Proofs.YtiemfjdacfioeaaGreatDoor
namespace Rows

/-- THE TIED CARD OF 'parlourlaw41.ResumeBack'. -/
def resumeBackCard : Claim7 := { stood := { row := resumeBackRow, standIns := [], harness := (true, "d626b8b8411158981a271d66af7aec355343d59c367297abd6c35278a70035b9"), looks := true }, kinds := [], alts := [], laidByText := true, laidKinds := [.data, .data, .data], laidTests := true, laidLooks := .later }
def ResumeBackCardSaid : Prop := Claim7.holds Tryz.pinned (.plain (OpenSpec.ofChange resumeBackSpec)) resumeBackCard

/-- THE SECOND FORM's CARD OF 'parlourlaw41.ResumeBack'. -/
def resumeBackUptoCard : Claim7 := { stood := { row := resumeBackUptoRow, standIns := [], harness := (true, "d626b8b8411158981a271d66af7aec355343d59c367297abd6c35278a70035b9"), looks := true }, kinds := [], alts := [], laidByText := true, laidKinds := [.data, .data, .data], laidTests := true, laidLooks := .later }
def ResumeBackUptoCardSaid : Prop := Claim7.holds Tryz.pinned (.plain (OpenSpec.upto resumeBackSpec)) resumeBackUptoCard
end Rows
end Go.Proofs.YtiemfjdacfioeaaGreatDoor

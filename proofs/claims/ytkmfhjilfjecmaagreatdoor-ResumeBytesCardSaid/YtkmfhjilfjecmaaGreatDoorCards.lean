/-
  DERIVED. GIVEN WITH THE SEED: THE CARDS: each row of YtkmfhjilfjecmaaGreatDoorRows.lean that lists a variable, with what it lists TIED to the program's text (the seventh form; the later family's looks); each row that meets fmt, with fmt's text TOLD by the authors' own Lean function (tested against real Go, not proved from fmt's source: count such statements apart). THE CARD IS WHAT COUNTS. Prove the row's statement (the work); the ties are given (YtkmfhjilfjecmaaGreatDoorTie.lean); close each card by the builder's one call (the guide's Derived/Test/ToyasCard.lean, 'card_holds'). Laid BY PROGRAM, IN A SANDBOX (cutbox-door.mjs). By AI agents, Wed Nov 11 2026. No macro, syntax, notation, axiom, sorry.
-/
import Derived.Test.YtkmfhjilfjecmaaGreatDoorRows
import GoSem.ClaimSeven
namespace Go.Proofs.YtkmfhjilfjecmaaGreatDoor
namespace Rows

/-- THE TIED CARD OF 'parlourlaw41.ResumeBytes'. -/
def resumeBytesCard : Claim7 := { stood := { row := resumeBytesRow, standIns := [], harness := (true, "84f758dc2afbf17f94fbd0bac92abba8220062a7e3c50cd1afc110b19c2c91ee"), looks := true }, kinds := [], alts := [], laidByText := true, laidKinds := [.data, .data, .data], laidTests := true, laidLooks := .later }
def ResumeBytesCardSaid : Prop := Claim7.holds Tryz.pinned (.plain (OpenSpec.ofChange resumeBytesSpec)) resumeBytesCard

/-- THE SECOND FORM's CARD OF 'parlourlaw41.ResumeBytes'. -/
def resumeBytesUptoCard : Claim7 := { stood := { row := resumeBytesUptoRow, standIns := [], harness := (true, "84f758dc2afbf17f94fbd0bac92abba8220062a7e3c50cd1afc110b19c2c91ee"), looks := true }, kinds := [], alts := [], laidByText := true, laidKinds := [.data, .data, .data], laidTests := true, laidLooks := .later }
def ResumeBytesUptoCardSaid : Prop := Claim7.holds Tryz.pinned (.plain (OpenSpec.upto resumeBytesSpec)) resumeBytesUptoCard
end Rows
end Go.Proofs.YtkmfhjilfjecmaaGreatDoor

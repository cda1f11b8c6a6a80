/-
  DERIVED. GIVEN WITH THE SEED: THE CARDS: each row of YtccpobhlccjkiaaGreatDoorRows.lean that lists a variable, with what it lists TIED to the program's text (the seventh form; the later family's looks); each row that meets fmt, with fmt's text TOLD by the authors' own Lean function (tested against real Go, not proved from fmt's source: count such statements apart). THE CARD IS WHAT COUNTS. Prove the row's statement (the work); the ties are given (YtccpobhlccjkiaaGreatDoorTie.lean); close each card by the builder's one call (the guide's Derived/Test/ToyasCard.lean, 'card_holds'). Laid BY PROGRAM, IN A SANDBOX (cutbox-door.mjs). By AI agents, Wed Nov 11 2026. No macro, syntax, notation, axiom, sorry.
-/
import Derived.Test.YtccpobhlccjkiaaGreatDoorRows
import GoSem.ClaimSeven
namespace Go.Proofs.YtccpobhlccjkiaaGreatDoor
namespace Rows

/-- THE TIED CARD OF 'parlourlaw31.TableBounds'. -/
def tableBoundsCard : Claim7 := { stood := { row := tableBoundsRow, standIns := [], harness := (true, "8c40580df937cb0791f0e6df75661f1d284069af64a95dc0c6193119fa0a92f5"), looks := true }, kinds := [], alts := [], laidByText := true, laidKinds := [.data], laidTests := true, laidLooks := .later }
def TableBoundsCardSaid : Prop := Claim7.holds Tryz.pinned (.plain (OpenSpec.ofChange tableBoundsSpec)) tableBoundsCard

/-- THE SECOND FORM's CARD OF 'parlourlaw31.TableBounds'. -/
def tableBoundsUptoCard : Claim7 := { stood := { row := tableBoundsUptoRow, standIns := [], harness := (true, "8c40580df937cb0791f0e6df75661f1d284069af64a95dc0c6193119fa0a92f5"), looks := true }, kinds := [], alts := [], laidByText := true, laidKinds := [.data], laidTests := true, laidLooks := .later }
def TableBoundsUptoCardSaid : Prop := Claim7.holds Tryz.pinned (.plain (OpenSpec.upto tableBoundsSpec)) tableBoundsUptoCard
end Rows
end Go.Proofs.YtccpobhlccjkiaaGreatDoor

/-
  DERIVED. GIVEN WITH THE SEED: THE CARDS: each row of YtjbbbehaciogcaaGreatDoorRows.lean that lists a variable, with what it lists TIED to the program's text (the seventh form; the later family's looks); each row that meets fmt, with fmt's text TOLD by the authors' own Lean function (tested against real Go, not proved from fmt's source: count such statements apart). THE CARD IS WHAT COUNTS. Prove the row's statement (the work); the ties are given (YtjbbbehaciogcaaGreatDoorTie.lean); close each card by the builder's one call (the guide's Derived/Test/ToyasCard.lean, 'card_holds'). Laid BY PROGRAM, IN A SANDBOX (cutbox-door.mjs). By AI agents, Wed Nov 11 2026. No macro, syntax, notation, axiom, sorry.
-/
import Derived.Test.YtjbbbehaciogcaaGreatDoorRows
import GoSem.ClaimSeven
namespace Go.Proofs.YtjbbbehaciogcaaGreatDoor
namespace Rows

/-- THE TIED CARD OF 'parlourlaw31.TableLosses'. -/
def tableLossesCard : Claim7 := { stood := { row := tableLossesRow, standIns := [], harness := (true, "0032ba145b6186430923d48638fee7e9c9d883772d4979ecc054eb0ca82c3fdb"), looks := true }, kinds := [], alts := [], laidByText := true, laidKinds := [.data], laidTests := true, laidLooks := .later }
def TableLossesCardSaid : Prop := Claim7.holds Tryz.pinned (.plain (OpenSpec.ofChange tableLossesSpec)) tableLossesCard

/-- THE SECOND FORM's CARD OF 'parlourlaw31.TableLosses'. -/
def tableLossesUptoCard : Claim7 := { stood := { row := tableLossesUptoRow, standIns := [], harness := (true, "0032ba145b6186430923d48638fee7e9c9d883772d4979ecc054eb0ca82c3fdb"), looks := true }, kinds := [], alts := [], laidByText := true, laidKinds := [.data], laidTests := true, laidLooks := .later }
def TableLossesUptoCardSaid : Prop := Claim7.holds Tryz.pinned (.plain (OpenSpec.upto tableLossesSpec)) tableLossesUptoCard
end Rows
end Go.Proofs.YtjbbbehaciogcaaGreatDoor

/-
  DERIVED. GIVEN WITH THE SEED: THE CARDS: each row of YtlgjlbpafcifoaaGreatDoorRows.lean that lists a variable, with what it lists TIED to the program's text (the seventh form; the later family's looks); each row that meets fmt, with fmt's text TOLD by the authors' own Lean function (tested against real Go, not proved from fmt's source: count such statements apart). THE CARD IS WHAT COUNTS. Prove the row's statement (the work); the ties are given (YtlgjlbpafcifoaaGreatDoorTie.lean); close each card by the builder's one call (the guide's Derived/Test/ToyasCard.lean, 'card_holds'). Laid BY PROGRAM, IN A SANDBOX (cutbox-door.mjs). By AI agents, Wed Nov 11 2026. No macro, syntax, notation, axiom, sorry.
-/
import Derived.Test.YtlgjlbpafcifoaaGreatDoorRows
import GoSem.ClaimSeven
namespace Go.Proofs.YtlgjlbpafcifoaaGreatDoor
namespace Rows

/-- THE TIED CARD OF 'parlourlaw31.TableTurns'. -/
def tableTurnsCard : Claim7 := { stood := { row := tableTurnsRow, standIns := [], harness := (true, "add51ecf3db3bb7a6958edc0aa7bd3be5a31b5bf763a0f9791a41a10fb28ccc6"), looks := true }, kinds := [], alts := [], laidByText := true, laidKinds := [.data], laidTests := true, laidLooks := .later }
def TableTurnsCardSaid : Prop := Claim7.holds Tryz.pinned (.plain (OpenSpec.ofChange tableTurnsSpec)) tableTurnsCard

/-- THE SECOND FORM's CARD OF 'parlourlaw31.TableTurns'. -/
def tableTurnsUptoCard : Claim7 := { stood := { row := tableTurnsUptoRow, standIns := [], harness := (true, "add51ecf3db3bb7a6958edc0aa7bd3be5a31b5bf763a0f9791a41a10fb28ccc6"), looks := true }, kinds := [], alts := [], laidByText := true, laidKinds := [.data], laidTests := true, laidLooks := .later }
def TableTurnsUptoCardSaid : Prop := Claim7.holds Tryz.pinned (.plain (OpenSpec.upto tableTurnsSpec)) tableTurnsUptoCard
end Rows
end Go.Proofs.YtlgjlbpafcifoaaGreatDoor

/-
  DERIVED. GIVEN WITH THE SEED: THE CARDS: each row of YtfdhclnfkafebaaGreatDoorRows.lean that lists a variable, with what it lists TIED to the program's text (the seventh form; the later family's looks); each row that meets fmt, with fmt's text TOLD by the authors' own Lean function (tested against real Go, not proved from fmt's source: count such statements apart). THE CARD IS WHAT COUNTS. Prove the row's statement (the work); the ties are given (YtfdhclnfkafebaaGreatDoorTie.lean); close each card by the builder's one call (the guide's Derived/Test/ToyasCard.lean, 'card_holds'). Laid BY PROGRAM, IN A SANDBOX (cutbox-door.mjs). By AI agents, Wed Nov 11 2026. No macro, syntax, notation, axiom, sorry.
-/
import Derived.Test.YtfdhclnfkafebaaGreatDoorRows
import GoSem.ClaimSeven
namespace Go.Proofs.YtfdhclnfkafebaaGreatDoor
namespace Rows

/-- THE TIED CARD OF 'parlourlaw31.TableRounds'. -/
def tableRoundsCard : Claim7 := { stood := { row := tableRoundsRow, standIns := [], harness := (true, "1a4e16027e6a1f6bfa54ebf7ce2f752b45a870765c03a15f973c972fcf527725"), looks := true }, kinds := [], alts := [], laidByText := true, laidKinds := [.data], laidTests := true, laidLooks := .later }
def TableRoundsCardSaid : Prop := Claim7.holds Tryz.pinned (.plain (OpenSpec.ofChange tableRoundsSpec)) tableRoundsCard

/-- THE SECOND FORM's CARD OF 'parlourlaw31.TableRounds'. -/
def tableRoundsUptoCard : Claim7 := { stood := { row := tableRoundsUptoRow, standIns := [], harness := (true, "1a4e16027e6a1f6bfa54ebf7ce2f752b45a870765c03a15f973c972fcf527725"), looks := true }, kinds := [], alts := [], laidByText := true, laidKinds := [.data], laidTests := true, laidLooks := .later }
def TableRoundsUptoCardSaid : Prop := Claim7.holds Tryz.pinned (.plain (OpenSpec.upto tableRoundsSpec)) tableRoundsUptoCard
end Rows
end Go.Proofs.YtfdhclnfkafebaaGreatDoor

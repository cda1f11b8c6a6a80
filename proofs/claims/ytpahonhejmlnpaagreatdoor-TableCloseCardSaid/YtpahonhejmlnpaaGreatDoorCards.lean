/-
  DERIVED. GIVEN WITH THE SEED: THE CARDS: each row of YtpahonhejmlnpaaGreatDoorRows.lean that lists a variable, with what it lists TIED to the program's text (the seventh form; the later family's looks); each row that meets fmt, with fmt's text TOLD by the authors' own Lean function (tested against real Go, not proved from fmt's source: count such statements apart). THE CARD IS WHAT COUNTS. Prove the row's statement (the work); the ties are given (YtpahonhejmlnpaaGreatDoorTie.lean); close each card by the builder's one call (the guide's Derived/Test/ToyasCard.lean, 'card_holds'). Laid BY PROGRAM, IN A SANDBOX (cutbox-door.mjs). By AI agents, Wed Nov 11 2026. No macro, syntax, notation, axiom, sorry.
-/
import Derived.Test.YtpahonhejmlnpaaGreatDoorRows
import GoSem.ClaimSeven
namespace Go.Proofs.YtpahonhejmlnpaaGreatDoor
namespace Rows

/-- THE TIED CARD OF 'parlourlaw31.TableClose'. -/
def tableCloseCard : Claim7 := { stood := { row := tableCloseRow, standIns := [], harness := (true, "09d52baa5c7f7428592617f29a5d4ca43d4b3ec3812430e71f67b327dbce821f"), looks := true }, kinds := [], alts := [], laidByText := true, laidKinds := [.data], laidTests := true, laidLooks := .later }
def TableCloseCardSaid : Prop := Claim7.holds Tryz.pinned (.plain (OpenSpec.ofChange tableCloseSpec)) tableCloseCard

/-- THE SECOND FORM's CARD OF 'parlourlaw31.TableClose'. -/
def tableCloseUptoCard : Claim7 := { stood := { row := tableCloseUptoRow, standIns := [], harness := (true, "09d52baa5c7f7428592617f29a5d4ca43d4b3ec3812430e71f67b327dbce821f"), looks := true }, kinds := [], alts := [], laidByText := true, laidKinds := [.data], laidTests := true, laidLooks := .later }
def TableCloseUptoCardSaid : Prop := Claim7.holds Tryz.pinned (.plain (OpenSpec.upto tableCloseSpec)) tableCloseUptoCard
end Rows
end Go.Proofs.YtpahonhejmlnpaaGreatDoor

/-
  DERIVED. GIVEN WITH THE SEED: THE CARDS: each row of YtnhlbkjiehdclaaGreatDoorRows.lean that lists a variable, with what it lists TIED to the program's text (the seventh form; the later family's looks); each row that meets fmt, with fmt's text TOLD by the authors' own Lean function (tested against real Go, not proved from fmt's source: count such statements apart). THE CARD IS WHAT COUNTS. Prove the row's statement (the work); the ties are given (YtnhlbkjiehdclaaGreatDoorTie.lean); close each card by the builder's one call (the guide's Derived/Test/ToyasCard.lean, 'card_holds'). Laid BY PROGRAM, IN A SANDBOX (cutbox-door.mjs). By AI agents, Wed Nov 11 2026. No macro, syntax, notation, axiom, sorry.
-/
import Derived.Test.YtnhlbkjiehdclaaGreatDoorRows
import GoSem.ClaimSeven
namespace Go.Proofs.YtnhlbkjiehdclaaGreatDoor
namespace Rows

/-- THE TIED CARD OF 'parlourlaw28.RegretNames'. -/
def regretNamesCard : Claim7 := { stood := { row := regretNamesRow, standIns := [], harness := (true, "206e7fbdb7d4043cdb8ed59dc9238b19a7585c8b9d8c1539ee4f1ffd921f9215"), looks := false }, kinds := [], alts := [], laidByText := true, laidKinds := [.data], laidTests := true, laidLooks := .later }
def RegretNamesCardSaid : Prop := Claim7.holds Tryz.pinned (.plain (OpenSpec.ofChange regretNamesSpec)) regretNamesCard

/-- THE SECOND FORM's CARD OF 'parlourlaw28.RegretNames'. -/
def regretNamesUptoCard : Claim7 := { stood := { row := regretNamesUptoRow, standIns := [], harness := (true, "206e7fbdb7d4043cdb8ed59dc9238b19a7585c8b9d8c1539ee4f1ffd921f9215"), looks := false }, kinds := [], alts := [], laidByText := true, laidKinds := [.data], laidTests := true, laidLooks := .later }
def RegretNamesUptoCardSaid : Prop := Claim7.holds Tryz.pinned (.plain (OpenSpec.upto regretNamesSpec)) regretNamesUptoCard
end Rows
end Go.Proofs.YtnhlbkjiehdclaaGreatDoor

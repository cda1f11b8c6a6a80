/-
  DERIVED. GIVEN WITH THE SEED: THE CARDS: each row of YtdkmkmljblifeabGreatDoorRows.lean that lists a variable, with what it lists TIED to the program's text (the seventh form; the later family's looks); each row that meets fmt, with fmt's text TOLD by the authors' own Lean function (tested against real Go, not proved from fmt's source: count such statements apart). THE CARD IS WHAT COUNTS. Prove the row's statement (the work); the ties are given (YtdkmkmljblifeabGreatDoorTie.lean); close each card by the builder's one call (the guide's Derived/Test/ToyasCard.lean, 'card_holds'). Laid BY PROGRAM, IN A SANDBOX (cutbox-door.mjs). By AI agents, Wed Nov 11 2026. No macro, syntax, notation, axiom, sorry.
-/
import Derived.Test.YtdkmkmljblifeabGreatDoorRows
import GoSem.ClaimSeven
namespace Go.Proofs.YtdkmkmljblifeabGreatDoor
namespace Rows

/-- THE TIED CARD OF 'parlourlaw30.SampleNames'. -/
def sampleNamesCard : Claim7 := { stood := { row := sampleNamesRow, standIns := [], harness := (true, "14173b69a2deadf3707166b9e26393992c80a2d6bdb96444938aa2bd41c2c380"), looks := false }, kinds := [], alts := [], laidByText := true, laidKinds := [.data], laidTests := true, laidLooks := .later }
def SampleNamesCardSaid : Prop := Claim7.holds Tryz.pinned (.plain (OpenSpec.ofChange sampleNamesSpec)) sampleNamesCard

/-- THE SECOND FORM's CARD OF 'parlourlaw30.SampleNames'. -/
def sampleNamesUptoCard : Claim7 := { stood := { row := sampleNamesUptoRow, standIns := [], harness := (true, "14173b69a2deadf3707166b9e26393992c80a2d6bdb96444938aa2bd41c2c380"), looks := false }, kinds := [], alts := [], laidByText := true, laidKinds := [.data], laidTests := true, laidLooks := .later }
def SampleNamesUptoCardSaid : Prop := Claim7.holds Tryz.pinned (.plain (OpenSpec.upto sampleNamesSpec)) sampleNamesUptoCard
end Rows
end Go.Proofs.YtdkmkmljblifeabGreatDoor

/-
  DERIVED. GIVEN WITH THE SEED: THE CARDS: each row of YtmeojgcibppcmaaDoorRows.lean that lists a variable, with what it lists TIED to the program's text (the seventh form; the later family's looks); each row that meets fmt, with fmt's text TOLD by the authors' own Lean function (tested against real Go, not proved from fmt's source: count such statements apart). THE CARD IS WHAT COUNTS. Prove the row's statement (the work); the ties are given (YtmeojgcibppcmaaDoorTie.lean); close each card by the builder's one call (the guide's Derived/Test/ToyasCard.lean, 'card_holds'). Laid BY PROGRAM, IN A SANDBOX (cutbox-door.mjs). By AI agents, Wed Nov 11 2026. No macro, syntax, notation, axiom, sorry.
-/
import Derived.Test.YtmeojgcibppcmaaDoorRows
import GoSem.ClaimSeven
namespace Go.Proofs.YtmeojgcibppcmaaDoor
namespace Rows

/-- THE TIED CARD OF 'parlourlaw41.ResumeSaves'. -/
def resumeSavesCard : Claim7 := { stood := { row := resumeSavesRow, standIns := [], harness := (true, "7b1463d69c038c1d24e5ceed5cf2899439edcf3f689ce07bb20edfaedecadd82"), looks := true }, kinds := [], alts := [], laidByText := true, laidKinds := [.data, .data, .data], laidTests := true, laidLooks := .later }
def ResumeSavesCardSaid : Prop := Claim7.holds Tryd.pinned (.plain (OpenSpec.ofChange resumeSavesSpec)) resumeSavesCard

/-- THE SECOND FORM's CARD OF 'parlourlaw41.ResumeSaves'. -/
def resumeSavesUptoCard : Claim7 := { stood := { row := resumeSavesUptoRow, standIns := [], harness := (true, "7b1463d69c038c1d24e5ceed5cf2899439edcf3f689ce07bb20edfaedecadd82"), looks := true }, kinds := [], alts := [], laidByText := true, laidKinds := [.data, .data, .data], laidTests := true, laidLooks := .later }
def ResumeSavesUptoCardSaid : Prop := Claim7.holds Tryd.pinned (.plain (OpenSpec.upto resumeSavesSpec)) resumeSavesUptoCard
end Rows
end Go.Proofs.YtmeojgcibppcmaaDoor

/-
  DERIVED. GIVEN WITH THE SEED: THE CARDS: each row of YtmmfodofkbmfnaaGreatDoorRows.lean that lists a variable, with what it lists TIED to the program's text (the seventh form; the later family's looks); each row that meets fmt, with fmt's text TOLD by the authors' own Lean function (tested against real Go, not proved from fmt's source: count such statements apart). THE CARD IS WHAT COUNTS. Prove the row's statement (the work); the ties are given (YtmmfodofkbmfnaaGreatDoorTie.lean); close each card by the builder's one call (the guide's Derived/Test/ToyasCard.lean, 'card_holds'). Laid BY PROGRAM, IN A SANDBOX (cutbox-door.mjs). By AI agents, Wed Nov 11 2026. No macro, syntax, notation, axiom, sorry.
-/
import Derived.Test.YtmmfodofkbmfnaaGreatDoorRows
import GoSem.ClaimSeven
namespace Go.Proofs.YtmmfodofkbmfnaaGreatDoor
namespace Rows

/-- THE TIED CARD OF 'parlourlaw31.TableMetric'. -/
def tableMetricCard : Claim7 := { stood := { row := tableMetricRow, standIns := [], harness := (true, "464504f6952f42727b0be5dcfb549be02e9476cc957085ba7ed28c5e9973aaa0"), looks := true }, kinds := [], alts := [], laidByText := true, laidKinds := [.data], laidTests := true, laidLooks := .later }
def TableMetricCardSaid : Prop := Claim7.holds Tryz.pinned (.plain (OpenSpec.ofChange tableMetricSpec)) tableMetricCard

/-- THE SECOND FORM's CARD OF 'parlourlaw31.TableMetric'. -/
def tableMetricUptoCard : Claim7 := { stood := { row := tableMetricUptoRow, standIns := [], harness := (true, "464504f6952f42727b0be5dcfb549be02e9476cc957085ba7ed28c5e9973aaa0"), looks := true }, kinds := [], alts := [], laidByText := true, laidKinds := [.data], laidTests := true, laidLooks := .later }
def TableMetricUptoCardSaid : Prop := Claim7.holds Tryz.pinned (.plain (OpenSpec.upto tableMetricSpec)) tableMetricUptoCard
end Rows
end Go.Proofs.YtmmfodofkbmfnaaGreatDoor

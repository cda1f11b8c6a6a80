/- Some statements of parlour/parlourlaw36.ProtocolKnown, run by the kernel. No conditions. -/
import Derived.Test.YthfgeapiahhjlaaGreatDoorSnapProtocolKnown
set_option maxRecDepth 100000
namespace Go.Proofs.YthfgeapiahhjlaaGreatDoor.creProtocolKnown
open Go Go.Cre Go.Proofs
theorem law_s10 : law_r10 = .seq (hd law_r10) (tl law_r10) := by kernel_rfl
theorem law_c10 : chunkB law_z11 (evStack E_law [hd law_r10] law_z10.S law_z10.H) = true := by kernel_rfl
theorem law_s0 : law_r0 = .seq (hd law_r0) (tl law_r0) := by kernel_rfl
theorem law_c0 : chunkB law_z1 (evStack E_law [hd law_r0] (first1 Tryz.f3) H0) = true := by kernel_rfl
end Go.Proofs.YthfgeapiahhjlaaGreatDoor.creProtocolKnown

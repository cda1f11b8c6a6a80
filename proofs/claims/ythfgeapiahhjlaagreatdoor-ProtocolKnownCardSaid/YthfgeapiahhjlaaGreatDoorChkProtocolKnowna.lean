/- Some statements of parlour/parlourlaw36.ProtocolKnown, run by the kernel. No conditions. -/
import Derived.Test.YthfgeapiahhjlaaGreatDoorSnapProtocolKnown
set_option maxRecDepth 100000
namespace Go.Proofs.YthfgeapiahhjlaaGreatDoor.creProtocolKnown
open Go Go.Cre Go.Proofs
theorem law_s11 : law_r11 = .seq (hd law_r11) (tl law_r11) := by kernel_rfl
theorem law_c11 : chunkB law_z12 (evStack E_law [hd law_r11] law_z11.S law_z11.H) = true := by kernel_rfl
end Go.Proofs.YthfgeapiahhjlaaGreatDoor.creProtocolKnown

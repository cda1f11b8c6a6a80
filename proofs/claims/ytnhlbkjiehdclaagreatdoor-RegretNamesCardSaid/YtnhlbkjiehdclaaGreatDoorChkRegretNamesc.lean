/- Some statements of parlour/parlourlaw28.RegretNames, run by the kernel. No conditions. -/
import Derived.Test.YtnhlbkjiehdclaaGreatDoorSnapRegretNames
set_option maxRecDepth 100000
namespace Go.Proofs.YtnhlbkjiehdclaaGreatDoor.creRegretNames
open Go Go.Cre Go.Proofs
theorem law_s5 : law_r5 = .seq (hd law_r5) (tl law_r5) := by kernel_rfl
theorem law_c5 : chunkB law_z6 (evStack E_law [hd law_r5] law_z5.S law_z5.H) = true := by kernel_rfl
theorem law_s12 : law_r12 = .seq (hd law_r12) (tl law_r12) := by kernel_rfl
theorem law_c12 : chunkB law_z13 (evStack E_law [hd law_r12] law_z12.S law_z12.H) = true := by kernel_rfl
theorem law_s8 : law_r8 = .seq (hd law_r8) (tl law_r8) := by kernel_rfl
theorem law_c8 : chunkB law_z9 (evStack E_law [hd law_r8] law_z8.S law_z8.H) = true := by kernel_rfl
theorem law_s4 : law_r4 = .seq (hd law_r4) (tl law_r4) := by kernel_rfl
theorem law_c4 : chunkB law_z5 (evStack E_law [hd law_r4] law_z4.S law_z4.H) = true := by kernel_rfl
end Go.Proofs.YtnhlbkjiehdclaaGreatDoor.creRegretNames

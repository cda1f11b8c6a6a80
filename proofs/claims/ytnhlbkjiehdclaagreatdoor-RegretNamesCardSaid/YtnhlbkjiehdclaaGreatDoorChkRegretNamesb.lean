/- Some statements of parlour/parlourlaw28.RegretNames, run by the kernel. No conditions. -/
import Derived.Test.YtnhlbkjiehdclaaGreatDoorSnapRegretNames
set_option maxRecDepth 100000
namespace Go.Proofs.YtnhlbkjiehdclaaGreatDoor.creRegretNames
open Go Go.Cre Go.Proofs
theorem law_s6 : law_r6 = .seq (hd law_r6) (tl law_r6) := by kernel_rfl
theorem law_c6 : chunkB law_z7 (evStack E_law [hd law_r6] law_z6.S law_z6.H) = true := by kernel_rfl
theorem law_s14 : law_r14 = .seq (hd law_r14) (tl law_r14) := by kernel_rfl
theorem law_c14 : chunkB law_z15 (evStack E_law [hd law_r14] law_z14.S law_z14.H) = true := by kernel_rfl
theorem law_s9 : law_r9 = .seq (hd law_r9) (tl law_r9) := by kernel_rfl
theorem law_c9 : chunkB law_z10 (evStack E_law [hd law_r9] law_z9.S law_z9.H) = true := by kernel_rfl
theorem lives_s2 : lives_r2 = .seq (hd lives_r2) (tl lives_r2) := by kernel_rfl
theorem lives_c2 : chunkB lives_z3 (evStack E_lives [hd lives_r2] lives_z2.S lives_z2.H) = true := by kernel_rfl
end Go.Proofs.YtnhlbkjiehdclaaGreatDoor.creRegretNames

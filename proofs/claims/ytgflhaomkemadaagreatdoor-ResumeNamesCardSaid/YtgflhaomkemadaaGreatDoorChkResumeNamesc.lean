/- Some statements of parlour/parlourlaw41.ResumeNames, run by the kernel. No conditions. -/
import Derived.Test.YtgflhaomkemadaaGreatDoorSnapResumeNames
set_option maxRecDepth 100000
namespace Go.Proofs.YtgflhaomkemadaaGreatDoor.creResumeNames
open Go Go.Cre Go.Proofs
theorem law_s8 : law_r8 = .seq (hd law_r8) (tl law_r8) := by kernel_rfl
theorem law_c8 : chunkB law_z9 (evStack E_law [hd law_r8] law_z8.S law_z8.H) = true := by kernel_rfl
theorem law_s11 : law_r11 = .seq (hd law_r11) (tl law_r11) := by kernel_rfl
theorem law_c11 : chunkB law_z12 (evStack E_law [hd law_r11] law_z11.S law_z11.H) = true := by kernel_rfl
theorem law_s4 : law_r4 = .seq (hd law_r4) (tl law_r4) := by kernel_rfl
theorem law_c4 : chunkB law_z5 (evStack E_law [hd law_r4] law_z4.S law_z4.H) = true := by kernel_rfl
theorem law_s9 : law_r9 = .seq (hd law_r9) (tl law_r9) := by kernel_rfl
theorem law_c9 : chunkB law_z10 (evStack E_law [hd law_r9] law_z9.S law_z9.H) = true := by kernel_rfl
theorem law_s1 : law_r1 = .seq (hd law_r1) (tl law_r1) := by kernel_rfl
theorem law_c1 : chunkB law_z2 (evStack E_law [hd law_r1] law_z1.S law_z1.H) = true := by kernel_rfl
theorem lives_s3 : lives_r3 = .seq (hd lives_r3) (tl lives_r3) := by kernel_rfl
theorem lives_c3 : chunkB lives_z4 (evStack E_lives [hd lives_r3] lives_z3.S lives_z3.H) = true := by kernel_rfl
end Go.Proofs.YtgflhaomkemadaaGreatDoor.creResumeNames

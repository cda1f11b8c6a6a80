/- Some statements of parlour/parlourlaw30.SampleNames, run by the kernel. No conditions. -/
import Derived.Test.YtdkmkmljblifeabGreatDoorSnapSampleNames
set_option maxRecDepth 100000
namespace Go.Proofs.YtdkmkmljblifeabGreatDoor.creSampleNames
open Go Go.Cre Go.Proofs
theorem law_s8 : law_r8 = .seq (hd law_r8) (tl law_r8) := by kernel_rfl
theorem law_c8 : chunkB law_z9 (evStack E_law [hd law_r8] law_z8.S law_z8.H) = true := by kernel_rfl
theorem law_s4 : law_r4 = .seq (hd law_r4) (tl law_r4) := by kernel_rfl
theorem law_c4 : chunkB law_z5 (evStack E_law [hd law_r4] law_z4.S law_z4.H) = true := by kernel_rfl
theorem law_s12 : law_r12 = .seq (hd law_r12) (tl law_r12) := by kernel_rfl
theorem law_c12 : chunkB law_z13 (evStack E_law [hd law_r12] law_z12.S law_z12.H) = true := by kernel_rfl
theorem law_s16 : law_r16 = .seq (hd law_r16) (tl law_r16) := by kernel_rfl
theorem law_c16 : chunkB law_z17 (evStack E_law [hd law_r16] law_z16.S law_z16.H) = true := by kernel_rfl
theorem law_s6 : law_r6 = .seq (hd law_r6) (tl law_r6) := by kernel_rfl
theorem law_c6 : chunkB law_z7 (evStack E_law [hd law_r6] law_z6.S law_z6.H) = true := by kernel_rfl
theorem law_s3 : law_r3 = .seq (hd law_r3) (tl law_r3) := by kernel_rfl
theorem law_c3 : chunkB law_z4 (evStack E_law [hd law_r3] law_z3.S law_z3.H) = true := by kernel_rfl
theorem law_s22 : law_r22 = .seq (hd law_r22) (tl law_r22) := by kernel_rfl
theorem law_c22 : chunkB law_z23 (evStack E_law [hd law_r22] law_z22.S law_z22.H) = true := by kernel_rfl
theorem law_s11 : law_r11 = .seq (hd law_r11) (tl law_r11) := by kernel_rfl
theorem law_c11 : chunkB law_z12 (evStack E_law [hd law_r11] law_z11.S law_z11.H) = true := by kernel_rfl
end Go.Proofs.YtdkmkmljblifeabGreatDoor.creSampleNames

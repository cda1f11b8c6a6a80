/- Some statements of parlour/parlourlaw41.ResumeNames, run by the kernel. No conditions. -/
import Derived.Test.YtgflhaomkemadaaGreatDoorSnapResumeNames
set_option maxRecDepth 100000
namespace Go.Proofs.YtgflhaomkemadaaGreatDoor.creResumeNames
open Go Go.Cre Go.Proofs
theorem law_s5 : law_r5 = .seq (hd law_r5) (tl law_r5) := by kernel_rfl
theorem law_c5 : chunkB law_z6 (evStack E_law [hd law_r5] law_z5.S law_z5.H) = true := by kernel_rfl
theorem law_s10 : law_r10 = .seq (hd law_r10) (tl law_r10) := by kernel_rfl
theorem law_c10 : chunkB law_z11 (evStack E_law [hd law_r10] law_z10.S law_z10.H) = true := by kernel_rfl
theorem law_s3 : law_r3 = .seq (hd law_r3) (tl law_r3) := by kernel_rfl
theorem law_c3 : chunkB law_z4 (evStack E_law [hd law_r3] law_z3.S law_z3.H) = true := by kernel_rfl
theorem law_s7 : law_r7 = .seq (hd law_r7) (tl law_r7) := by kernel_rfl
theorem law_c7 : chunkB law_z8 (evStack E_law [hd law_r7] law_z7.S law_z7.H) = true := by kernel_rfl
theorem law_last : isTrue (bodyEnd Tryz.prog E_law Tryz.f3 (evStack E_law [law_r16] law_z16.S law_z16.H)) = true := by kernel_rfl
theorem law_s0 : law_r0 = .seq (hd law_r0) (tl law_r0) := by kernel_rfl
theorem law_c0 : chunkB law_z1 (evStack E_law [hd law_r0] (first1 Tryz.f3) H0) = true := by kernel_rfl
end Go.Proofs.YtgflhaomkemadaaGreatDoor.creResumeNames

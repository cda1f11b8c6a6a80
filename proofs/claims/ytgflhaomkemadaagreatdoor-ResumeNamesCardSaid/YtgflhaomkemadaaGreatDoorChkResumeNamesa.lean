/- Some statements of parlour/parlourlaw41.ResumeNames, run by the kernel. No conditions. -/
import Derived.Test.YtgflhaomkemadaaGreatDoorSnapResumeNames
set_option maxRecDepth 100000
namespace Go.Proofs.YtgflhaomkemadaaGreatDoor.creResumeNames
open Go Go.Cre Go.Proofs
theorem law_s13 : areSeq 3 law_r13 = true := by kernel_rfl
theorem law_c13 : chunkN E_law law_z14 2 law_r13 law_z13.S law_z13.H = true := by kernel_rfl
theorem lives_s1 : lives_r1 = .seq (hd lives_r1) (tl lives_r1) := by kernel_rfl
theorem lives_c1 : chunkB lives_z2 (evStack E_lives [hd lives_r1] lives_z1.S lives_z1.H) = true := by kernel_rfl
theorem law_s14 : law_r14 = .seq (hd law_r14) (tl law_r14) := by kernel_rfl
theorem law_c14 : chunkB law_z15 (evStack E_law [hd law_r14] law_z14.S law_z14.H) = true := by kernel_rfl
theorem law_s6 : law_r6 = .seq (hd law_r6) (tl law_r6) := by kernel_rfl
theorem law_c6 : chunkB law_z7 (evStack E_law [hd law_r6] law_z6.S law_z6.H) = true := by kernel_rfl
theorem lives_s0 : lives_r0 = .seq (hd lives_r0) (tl lives_r0) := by kernel_rfl
theorem lives_c0 : chunkB lives_z1 (evStack E_lives [hd lives_r0] (first1 Tryz.f4) H0) = true := by kernel_rfl
end Go.Proofs.YtgflhaomkemadaaGreatDoor.creResumeNames

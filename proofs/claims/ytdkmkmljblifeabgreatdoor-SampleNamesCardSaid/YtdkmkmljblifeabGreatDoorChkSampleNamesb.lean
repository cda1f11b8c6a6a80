/- Some statements of parlour/parlourlaw30.SampleNames, run by the kernel. No conditions. -/
import Derived.Test.YtdkmkmljblifeabGreatDoorSnapSampleNames
set_option maxRecDepth 100000
namespace Go.Proofs.YtdkmkmljblifeabGreatDoor.creSampleNames
open Go Go.Cre Go.Proofs
theorem law_s9 : law_r9 = .seq (hd law_r9) (tl law_r9) := by kernel_rfl
theorem law_c9 : chunkB law_z10 (evStack E_law [hd law_r9] law_z9.S law_z9.H) = true := by kernel_rfl
theorem law_s7 : law_r7 = .seq (hd law_r7) (tl law_r7) := by kernel_rfl
theorem law_c7 : chunkB law_z8 (evStack E_law [hd law_r7] law_z7.S law_z7.H) = true := by kernel_rfl
theorem law_s14 : law_r14 = .seq (hd law_r14) (tl law_r14) := by kernel_rfl
theorem law_c14 : chunkB law_z15 (evStack E_law [hd law_r14] law_z14.S law_z14.H) = true := by kernel_rfl
theorem law_s21 : law_r21 = .seq (hd law_r21) (tl law_r21) := by kernel_rfl
theorem law_c21 : chunkB law_z22 (evStack E_law [hd law_r21] law_z21.S law_z21.H) = true := by kernel_rfl
theorem law_s15 : law_r15 = .seq (hd law_r15) (tl law_r15) := by kernel_rfl
theorem law_c15 : chunkB law_z16 (evStack E_law [hd law_r15] law_z15.S law_z15.H) = true := by kernel_rfl
theorem law_s23 : law_r23 = .seq (hd law_r23) (tl law_r23) := by kernel_rfl
theorem law_c23 : chunkB law_z24 (evStack E_law [hd law_r23] law_z23.S law_z23.H) = true := by kernel_rfl
theorem law_last : isTrue (bodyEnd Tryz.prog E_law Tryz.f3 (evStack E_law [law_r25] law_z25.S law_z25.H)) = true := by kernel_rfl
theorem law_s0 : law_r0 = .seq (hd law_r0) (tl law_r0) := by kernel_rfl
theorem law_c0 : chunkB law_z1 (evStack E_law [hd law_r0] (first1 Tryz.f3) H0) = true := by kernel_rfl
theorem law_s2 : law_r2 = .seq (hd law_r2) (tl law_r2) := by kernel_rfl
theorem law_c2 : chunkB law_z3 (evStack E_law [hd law_r2] law_z2.S law_z2.H) = true := by kernel_rfl
theorem law_s19 : law_r19 = .seq (hd law_r19) (tl law_r19) := by kernel_rfl
theorem law_c19 : chunkB law_z20 (evStack E_law [hd law_r19] law_z19.S law_z19.H) = true := by kernel_rfl
theorem law_s10 : law_r10 = .seq (hd law_r10) (tl law_r10) := by kernel_rfl
theorem law_c10 : chunkB law_z11 (evStack E_law [hd law_r10] law_z10.S law_z10.H) = true := by kernel_rfl
theorem law_s18 : law_r18 = .seq (hd law_r18) (tl law_r18) := by kernel_rfl
theorem law_c18 : chunkB law_z19 (evStack E_law [hd law_r18] law_z18.S law_z18.H) = true := by kernel_rfl
end Go.Proofs.YtdkmkmljblifeabGreatDoor.creSampleNames

/- Some statements of parlour/parlourlaw30.SampleNames, run by the kernel. No conditions. -/
import Derived.Test.YtdkmkmljblifeabGreatDoorSnapSampleNames
set_option maxRecDepth 100000
namespace Go.Proofs.YtdkmkmljblifeabGreatDoor.creSampleNames
open Go Go.Cre Go.Proofs
theorem lives_s1 : lives_r1 = .seq (hd lives_r1) (tl lives_r1) := by kernel_rfl
theorem lives_c1 : chunkB lives_z2 (evStack E_lives [hd lives_r1] lives_z1.S lives_z1.H) = true := by kernel_rfl
theorem lives_s3 : lives_r3 = .seq (hd lives_r3) (tl lives_r3) := by kernel_rfl
theorem lives_c3 : chunkB lives_z4 (evStack E_lives [hd lives_r3] lives_z3.S lives_z3.H) = true := by kernel_rfl
theorem law_s13 : law_r13 = .seq (hd law_r13) (tl law_r13) := by kernel_rfl
theorem law_c13 : chunkB law_z14 (evStack E_law [hd law_r13] law_z13.S law_z13.H) = true := by kernel_rfl
theorem law_s5 : law_r5 = .seq (hd law_r5) (tl law_r5) := by kernel_rfl
theorem law_c5 : chunkB law_z6 (evStack E_law [hd law_r5] law_z5.S law_z5.H) = true := by kernel_rfl
theorem law_s17 : law_r17 = .seq (hd law_r17) (tl law_r17) := by kernel_rfl
theorem law_c17 : chunkB law_z18 (evStack E_law [hd law_r17] law_z17.S law_z17.H) = true := by kernel_rfl
theorem law_s20 : law_r20 = .seq (hd law_r20) (tl law_r20) := by kernel_rfl
theorem law_c20 : chunkB law_z21 (evStack E_law [hd law_r20] law_z20.S law_z20.H) = true := by kernel_rfl
theorem lives_last : isTrue (bodyEnd Tryz.prog E_lives Tryz.f4 (evStack E_lives [lives_r4] lives_z4.S lives_z4.H)) = true := by kernel_rfl
theorem lives_s0 : lives_r0 = .seq (hd lives_r0) (tl lives_r0) := by kernel_rfl
theorem lives_c0 : chunkB lives_z1 (evStack E_lives [hd lives_r0] (first1 Tryz.f4) H0) = true := by kernel_rfl
theorem lives_s2 : lives_r2 = .seq (hd lives_r2) (tl lives_r2) := by kernel_rfl
theorem lives_c2 : chunkB lives_z3 (evStack E_lives [hd lives_r2] lives_z2.S lives_z2.H) = true := by kernel_rfl
theorem law_s1 : law_r1 = .seq (hd law_r1) (tl law_r1) := by kernel_rfl
theorem law_c1 : chunkB law_z2 (evStack E_law [hd law_r1] law_z1.S law_z1.H) = true := by kernel_rfl
theorem law_s24 : law_r24 = .seq (hd law_r24) (tl law_r24) := by kernel_rfl
theorem law_c24 : chunkB law_z25 (evStack E_law [hd law_r24] law_z24.S law_z24.H) = true := by kernel_rfl
end Go.Proofs.YtdkmkmljblifeabGreatDoor.creSampleNames

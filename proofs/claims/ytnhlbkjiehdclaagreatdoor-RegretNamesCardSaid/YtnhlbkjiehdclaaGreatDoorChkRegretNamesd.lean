/- Some statements of parlour/parlourlaw28.RegretNames, run by the kernel. No conditions. -/
import Derived.Test.YtnhlbkjiehdclaaGreatDoorSnapRegretNames
set_option maxRecDepth 100000
namespace Go.Proofs.YtnhlbkjiehdclaaGreatDoor.creRegretNames
open Go Go.Cre Go.Proofs
theorem lives_s4 : lives_r4 = .seq (hd lives_r4) (tl lives_r4) := by kernel_rfl
theorem lives_c4 : chunkB lives_z5 (evStack E_lives [hd lives_r4] lives_z4.S lives_z4.H) = true := by kernel_rfl
theorem law_s13 : law_r13 = .seq (hd law_r13) (tl law_r13) := by kernel_rfl
theorem law_c13 : chunkB law_z14 (evStack E_law [hd law_r13] law_z13.S law_z13.H) = true := by kernel_rfl
theorem law_s3 : law_r3 = .seq (hd law_r3) (tl law_r3) := by kernel_rfl
theorem law_c3 : chunkB law_z4 (evStack E_law [hd law_r3] law_z3.S law_z3.H) = true := by kernel_rfl
theorem law_s10 : law_r10 = .seq (hd law_r10) (tl law_r10) := by kernel_rfl
theorem law_c10 : chunkB law_z11 (evStack E_law [hd law_r10] law_z10.S law_z10.H) = true := by kernel_rfl
theorem law_s1 : law_r1 = .seq (hd law_r1) (tl law_r1) := by kernel_rfl
theorem law_c1 : chunkB law_z2 (evStack E_law [hd law_r1] law_z1.S law_z1.H) = true := by kernel_rfl
theorem law_s0 : law_r0 = .seq (hd law_r0) (tl law_r0) := by kernel_rfl
theorem law_c0 : chunkB law_z1 (evStack E_law [hd law_r0] (first1 Tryz.f3) H0) = true := by kernel_rfl
end Go.Proofs.YtnhlbkjiehdclaaGreatDoor.creRegretNames

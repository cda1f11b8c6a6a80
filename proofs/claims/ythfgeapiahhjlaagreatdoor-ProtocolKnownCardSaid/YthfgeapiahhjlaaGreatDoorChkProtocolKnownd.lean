/- Some statements of parlour/parlourlaw36.ProtocolKnown, run by the kernel. No conditions. -/
import Derived.Test.YthfgeapiahhjlaaGreatDoorSnapProtocolKnown
set_option maxRecDepth 100000
namespace Go.Proofs.YthfgeapiahhjlaaGreatDoor.creProtocolKnown
open Go Go.Cre Go.Proofs
theorem law_s5 : law_r5 = .seq (hd law_r5) (tl law_r5) := by kernel_rfl
theorem law_c5 : chunkB law_z6 (evStack E_law [hd law_r5] law_z5.S law_z5.H) = true := by kernel_rfl
theorem law_s12 : law_r12 = .seq (hd law_r12) (tl law_r12) := by kernel_rfl
theorem law_c12 : chunkB law_z13 (evStack E_law [hd law_r12] law_z12.S law_z12.H) = true := by kernel_rfl
theorem law_s7 : law_r7 = .seq (hd law_r7) (tl law_r7) := by kernel_rfl
theorem law_c7 : chunkB law_z8 (evStack E_law [hd law_r7] law_z7.S law_z7.H) = true := by kernel_rfl
theorem awake_s2 : awake_r2 = .seq (hd awake_r2) (tl awake_r2) := by kernel_rfl
theorem awake_c2 : chunkB awake_z3 (evStack E_awake [hd awake_r2] awake_z2.S awake_z2.H) = true := by kernel_rfl
theorem law_s3 : law_r3 = .seq (hd law_r3) (tl law_r3) := by kernel_rfl
theorem law_c3 : chunkB law_z4 (evStack E_law [hd law_r3] law_z3.S law_z3.H) = true := by kernel_rfl
theorem law_s9 : law_r9 = .seq (hd law_r9) (tl law_r9) := by kernel_rfl
theorem law_c9 : chunkB law_z10 (evStack E_law [hd law_r9] law_z9.S law_z9.H) = true := by kernel_rfl
theorem awake_s0 : awake_r0 = .seq (hd awake_r0) (tl awake_r0) := by kernel_rfl
theorem awake_c0 : chunkB awake_z1 (evStack E_awake [hd awake_r0] (first1 Tryz.f11) H0) = true := by kernel_rfl
theorem law_last : isTrue (bodyEnd Tryz.prog E_law Tryz.f3 (evStack E_law [law_r14] law_z14.S law_z14.H)) = true := by kernel_rfl
end Go.Proofs.YthfgeapiahhjlaaGreatDoor.creProtocolKnown

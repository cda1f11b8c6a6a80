/- Some statements of parlour/parlourlaw36.ProtocolKnown, run by the kernel. No conditions. -/
import Derived.Test.YthfgeapiahhjlaaGreatDoorSnapProtocolKnown
set_option maxRecDepth 100000
namespace Go.Proofs.YthfgeapiahhjlaaGreatDoor.creProtocolKnown
open Go Go.Cre Go.Proofs
theorem law_s4 : law_r4 = .seq (hd law_r4) (tl law_r4) := by kernel_rfl
theorem law_c4 : chunkB law_z5 (evStack E_law [hd law_r4] law_z4.S law_z4.H) = true := by kernel_rfl
theorem law_s6 : law_r6 = .seq (hd law_r6) (tl law_r6) := by kernel_rfl
theorem law_c6 : chunkB law_z7 (evStack E_law [hd law_r6] law_z6.S law_z6.H) = true := by kernel_rfl
theorem law_s8 : law_r8 = .seq (hd law_r8) (tl law_r8) := by kernel_rfl
theorem law_c8 : chunkB law_z9 (evStack E_law [hd law_r8] law_z8.S law_z8.H) = true := by kernel_rfl
theorem awake_s1 : awake_r1 = .seq (hd awake_r1) (tl awake_r1) := by kernel_rfl
theorem awake_c1 : chunkB awake_z2 (evStack E_awake [hd awake_r1] awake_z1.S awake_z1.H) = true := by kernel_rfl
theorem law_s1 : law_r1 = .seq (hd law_r1) (tl law_r1) := by kernel_rfl
theorem law_c1 : chunkB law_z2 (evStack E_law [hd law_r1] law_z1.S law_z1.H) = true := by kernel_rfl
theorem law_s2 : law_r2 = .seq (hd law_r2) (tl law_r2) := by kernel_rfl
theorem law_c2 : chunkB law_z3 (evStack E_law [hd law_r2] law_z2.S law_z2.H) = true := by kernel_rfl
theorem law_s13 : law_r13 = .seq (hd law_r13) (tl law_r13) := by kernel_rfl
theorem law_c13 : chunkB law_z14 (evStack E_law [hd law_r13] law_z13.S law_z13.H) = true := by kernel_rfl
theorem awake_last : isTrue (bodyEnd Tryz.prog E_awake Tryz.f11 (evStack E_awake [awake_r3] awake_z3.S awake_z3.H)) = true := by kernel_rfl
end Go.Proofs.YthfgeapiahhjlaaGreatDoor.creProtocolKnown

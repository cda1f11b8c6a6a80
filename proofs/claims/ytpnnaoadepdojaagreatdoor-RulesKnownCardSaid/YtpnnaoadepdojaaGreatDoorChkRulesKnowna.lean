/- Some statements of parlour/parlourlaw10.RulesKnown, run by the kernel. No conditions. -/
import Derived.Test.YtpnnaoadepdojaaGreatDoorSnapRulesKnown
set_option maxRecDepth 100000
namespace Go.Proofs.YtpnnaoadepdojaaGreatDoor.creRulesKnown
open Go Go.Cre Go.Proofs
theorem awake_s0 : awake_r0 = .seq (hd awake_r0) (tl awake_r0) := by kernel_rfl
theorem awake_c0 : chunkB awake_z1 (evStack E_awake [hd awake_r0] (first1 Tryz.f14) H0) = true := by kernel_rfl
theorem awake_s1 : awake_r1 = .seq (hd awake_r1) (tl awake_r1) := by kernel_rfl
theorem awake_c1 : chunkB awake_z2 (evStack E_awake [hd awake_r1] awake_z1.S awake_z1.H) = true := by kernel_rfl
theorem awake_s2 : awake_r2 = .seq (hd awake_r2) (tl awake_r2) := by kernel_rfl
theorem awake_c2 : chunkB awake_z3 (evStack E_awake [hd awake_r2] awake_z2.S awake_z2.H) = true := by kernel_rfl
theorem awake_s3 : awake_r3 = .seq (hd awake_r3) (tl awake_r3) := by kernel_rfl
theorem awake_c3 : chunkB awake_z4 (evStack E_awake [hd awake_r3] awake_z3.S awake_z3.H) = true := by kernel_rfl
theorem awake_s4 : awake_r4 = .seq (hd awake_r4) (tl awake_r4) := by kernel_rfl
theorem awake_c4 : chunkB awake_z5 (evStack E_awake [hd awake_r4] awake_z4.S awake_z4.H) = true := by kernel_rfl
theorem awake_last : isTrue (bodyEnd Tryz.prog E_awake Tryz.f14 (evStack E_awake [awake_r5] awake_z5.S awake_z5.H)) = true := by kernel_rfl
theorem law_s0 : law_r0 = .seq (hd law_r0) (tl law_r0) := by kernel_rfl
theorem law_c0 : chunkB law_z1 (evStack E_law [hd law_r0] (first1 Tryz.f3) H0) = true := by kernel_rfl
theorem law_s1 : law_r1 = .seq (hd law_r1) (tl law_r1) := by kernel_rfl
theorem law_c1 : chunkB law_z2 (evStack E_law [hd law_r1] law_z1.S law_z1.H) = true := by kernel_rfl
theorem law_s2 : law_r2 = .seq (hd law_r2) (tl law_r2) := by kernel_rfl
theorem law_c2 : chunkB law_z3 (evStack E_law [hd law_r2] law_z2.S law_z2.H) = true := by kernel_rfl
end Go.Proofs.YtpnnaoadepdojaaGreatDoor.creRulesKnown

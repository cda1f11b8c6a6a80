/- Some statements of parlour/parlourlaw10.RulesKnown, run by the kernel. No conditions. -/
import Derived.Test.YtpnnaoadepdojaaGreatDoorSnapRulesKnown
set_option maxRecDepth 100000
namespace Go.Proofs.YtpnnaoadepdojaaGreatDoor.creRulesKnown
open Go Go.Cre Go.Proofs
theorem law_s3 : law_r3 = .seq (hd law_r3) (tl law_r3) := by kernel_rfl
theorem law_c3 : chunkB law_z4 (evStack E_law [hd law_r3] law_z3.S law_z3.H) = true := by kernel_rfl
theorem law_s4 : law_r4 = .seq (hd law_r4) (tl law_r4) := by kernel_rfl
theorem law_c4 : chunkB law_z5 (evStack E_law [hd law_r4] law_z4.S law_z4.H) = true := by kernel_rfl
theorem law_s5 : law_r5 = .seq (hd law_r5) (tl law_r5) := by kernel_rfl
theorem law_c5 : chunkB law_z6 (evStack E_law [hd law_r5] law_z5.S law_z5.H) = true := by kernel_rfl
theorem law_s6 : law_r6 = .seq (hd law_r6) (tl law_r6) := by kernel_rfl
theorem law_c6 : chunkB law_z7 (evStack E_law [hd law_r6] law_z6.S law_z6.H) = true := by kernel_rfl
theorem law_s7 : law_r7 = .seq (hd law_r7) (tl law_r7) := by kernel_rfl
theorem law_c7 : chunkB law_z8 (evStack E_law [hd law_r7] law_z7.S law_z7.H) = true := by kernel_rfl
theorem law_s8 : law_r8 = .seq (hd law_r8) (tl law_r8) := by kernel_rfl
theorem law_c8 : chunkB law_z9 (evStack E_law [hd law_r8] law_z8.S law_z8.H) = true := by kernel_rfl
theorem law_s9 : law_r9 = .seq (hd law_r9) (tl law_r9) := by kernel_rfl
theorem law_c9 : chunkB law_z10 (evStack E_law [hd law_r9] law_z9.S law_z9.H) = true := by kernel_rfl
theorem law_s10 : law_r10 = .seq (hd law_r10) (tl law_r10) := by kernel_rfl
theorem law_c10 : chunkB law_z11 (evStack E_law [hd law_r10] law_z10.S law_z10.H) = true := by kernel_rfl
theorem law_s11 : law_r11 = .seq (hd law_r11) (tl law_r11) := by kernel_rfl
theorem law_c11 : chunkB law_z12 (evStack E_law [hd law_r11] law_z11.S law_z11.H) = true := by kernel_rfl
end Go.Proofs.YtpnnaoadepdojaaGreatDoor.creRulesKnown

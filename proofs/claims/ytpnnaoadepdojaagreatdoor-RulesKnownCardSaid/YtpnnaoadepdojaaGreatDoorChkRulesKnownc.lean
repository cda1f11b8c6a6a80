/- Some statements of parlour/parlourlaw10.RulesKnown, run by the kernel. No conditions. -/
import Derived.Test.YtpnnaoadepdojaaGreatDoorSnapRulesKnown
set_option maxRecDepth 100000
namespace Go.Proofs.YtpnnaoadepdojaaGreatDoor.creRulesKnown
open Go Go.Cre Go.Proofs
theorem law_s12 : law_r12 = .seq (hd law_r12) (tl law_r12) := by kernel_rfl
theorem law_c12 : chunkB law_z13 (evStack E_law [hd law_r12] law_z12.S law_z12.H) = true := by kernel_rfl
theorem law_s13 : law_r13 = .seq (hd law_r13) (tl law_r13) := by kernel_rfl
theorem law_c13 : chunkB law_z14 (evStack E_law [hd law_r13] law_z13.S law_z13.H) = true := by kernel_rfl
theorem law_s14 : law_r14 = .seq (hd law_r14) (tl law_r14) := by kernel_rfl
theorem law_c14 : chunkB law_z15 (evStack E_law [hd law_r14] law_z14.S law_z14.H) = true := by kernel_rfl
theorem law_s15 : law_r15 = .seq (hd law_r15) (tl law_r15) := by kernel_rfl
theorem law_c15 : chunkB law_z16 (evStack E_law [hd law_r15] law_z15.S law_z15.H) = true := by kernel_rfl
theorem law_s16 : law_r16 = .seq (hd law_r16) (tl law_r16) := by kernel_rfl
theorem law_c16 : chunkB law_z17 (evStack E_law [hd law_r16] law_z16.S law_z16.H) = true := by kernel_rfl
theorem law_s17 : law_r17 = .seq (hd law_r17) (tl law_r17) := by kernel_rfl
theorem law_c17 : chunkB law_z18 (evStack E_law [hd law_r17] law_z17.S law_z17.H) = true := by kernel_rfl
theorem law_s18 : law_r18 = .seq (hd law_r18) (tl law_r18) := by kernel_rfl
theorem law_c18 : chunkB law_z19 (evStack E_law [hd law_r18] law_z18.S law_z18.H) = true := by kernel_rfl
theorem law_last : isTrue (bodyEnd Tryz.prog E_law Tryz.f3 (evStack E_law [law_r19] law_z19.S law_z19.H)) = true := by kernel_rfl
end Go.Proofs.YtpnnaoadepdojaaGreatDoor.creRulesKnown

/- Some statements of parlour/parlourlaw41.ResumeNames, run by the kernel. No conditions. -/
import Derived.Test.YtgflhaomkemadaaGreatDoorSnapResumeNames
set_option maxRecDepth 100000
namespace Go.Proofs.YtgflhaomkemadaaGreatDoor.creResumeNames
open Go Go.Cre Go.Proofs
theorem law_s12 : law_r12 = .seq (hd law_r12) (tl law_r12) := by kernel_rfl
theorem law_c12 : chunkB law_z13 (evStack E_law [hd law_r12] law_z12.S law_z12.H) = true := by kernel_rfl
theorem lives_s2 : lives_r2 = .seq (hd lives_r2) (tl lives_r2) := by kernel_rfl
theorem lives_c2 : chunkB lives_z3 (evStack E_lives [hd lives_r2] lives_z2.S lives_z2.H) = true := by kernel_rfl
theorem lives_last : isTrue (bodyEnd Tryz.prog E_lives Tryz.f4 (evStack E_lives [lives_r4] lives_z4.S lives_z4.H)) = true := by kernel_rfl
theorem law_s15 : law_r15 = .seq (hd law_r15) (tl law_r15) := by kernel_rfl
theorem law_c15 : chunkB law_z16 (evStack E_law [hd law_r15] law_z15.S law_z15.H) = true := by kernel_rfl
theorem law_s2 : law_r2 = .seq (hd law_r2) (tl law_r2) := by kernel_rfl
theorem law_c2 : chunkB law_z3 (evStack E_law [hd law_r2] law_z2.S law_z2.H) = true := by kernel_rfl
end Go.Proofs.YtgflhaomkemadaaGreatDoor.creResumeNames

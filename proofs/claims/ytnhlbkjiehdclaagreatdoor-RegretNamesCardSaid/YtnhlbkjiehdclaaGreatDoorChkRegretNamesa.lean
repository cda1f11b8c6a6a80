/- Some statements of parlour/parlourlaw28.RegretNames, run by the kernel. No conditions. -/
import Derived.Test.YtnhlbkjiehdclaaGreatDoorSnapRegretNames
set_option maxRecDepth 100000
namespace Go.Proofs.YtnhlbkjiehdclaaGreatDoor.creRegretNames
open Go Go.Cre Go.Proofs
theorem lives_s3 : lives_r3 = .seq (hd lives_r3) (tl lives_r3) := by kernel_rfl
theorem lives_c3 : chunkB lives_z4 (evStack E_lives [hd lives_r3] lives_z3.S lives_z3.H) = true := by kernel_rfl
theorem law_s7 : law_r7 = .seq (hd law_r7) (tl law_r7) := by kernel_rfl
theorem law_c7 : chunkB law_z8 (evStack E_law [hd law_r7] law_z7.S law_z7.H) = true := by kernel_rfl
theorem law_s11 : law_r11 = .seq (hd law_r11) (tl law_r11) := by kernel_rfl
theorem law_c11 : chunkB law_z12 (evStack E_law [hd law_r11] law_z11.S law_z11.H) = true := by kernel_rfl
theorem lives_s5 : lives_r5 = .seq (hd lives_r5) (tl lives_r5) := by kernel_rfl
theorem lives_c5 : chunkB lives_z6 (evStack E_lives [hd lives_r5] lives_z5.S lives_z5.H) = true := by kernel_rfl
theorem law_s2 : law_r2 = .seq (hd law_r2) (tl law_r2) := by kernel_rfl
theorem law_c2 : chunkB law_z3 (evStack E_law [hd law_r2] law_z2.S law_z2.H) = true := by kernel_rfl
theorem lives_s1 : lives_r1 = .seq (hd lives_r1) (tl lives_r1) := by kernel_rfl
theorem lives_c1 : chunkB lives_z2 (evStack E_lives [hd lives_r1] lives_z1.S lives_z1.H) = true := by kernel_rfl
theorem lives_last : isTrue (bodyEnd Tryz.prog E_lives Tryz.f4 (evStack E_lives [lives_r6] lives_z6.S lives_z6.H)) = true := by kernel_rfl
theorem law_last : isTrue (bodyEnd Tryz.prog E_law Tryz.f3 (evStack E_law [law_r15] law_z15.S law_z15.H)) = true := by kernel_rfl
theorem lives_s0 : lives_r0 = .seq (hd lives_r0) (tl lives_r0) := by kernel_rfl
theorem lives_c0 : chunkB lives_z1 (evStack E_lives [hd lives_r0] (first1 Tryz.f4) H0) = true := by kernel_rfl
end Go.Proofs.YtnhlbkjiehdclaaGreatDoor.creRegretNames

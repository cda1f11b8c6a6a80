/- A part of the proof of ProtocolBack. -/
import Derived.Test.YtaopiiohjbjgkaaGreatDoorSn
set_option maxRecDepth 100000
namespace Go.Opn
open Go Go.Cre Go.Proofs
theorem known_s4 : known_r4 = .seq (hd known_r4) (tl known_r4) := by kernel_rfl
theorem known_c4 : chunkB known_z5 (evStack E_known [hd known_r4] known_z4.S known_z4.H) = true := by kernel_rfl
theorem known_s12 : known_r12 = .seq (hd known_r12) (tl known_r12) := by kernel_rfl
theorem known_c12 : chunkB known_z13 (evStack E_known [hd known_r12] known_z12.S known_z12.H) = true := by kernel_rfl
theorem known_s8 : known_r8 = .seq (hd known_r8) (tl known_r8) := by kernel_rfl
theorem known_c8 : chunkB known_z9 (evStack E_known [hd known_r8] known_z8.S known_z8.H) = true := by kernel_rfl
theorem awake_s1 : awake_r1 = .seq (hd awake_r1) (tl awake_r1) := by kernel_rfl
theorem awake_c1 : chunkB awake_z2 (evStack E_awake [hd awake_r1] awake_z1.S awake_z1.H) = true := by kernel_rfl
theorem known_s1 : known_r1 = .seq (hd known_r1) (tl known_r1) := by kernel_rfl
theorem known_c1 : chunkB known_z2 (evStack E_known [hd known_r1] known_z1.S known_z1.H) = true := by kernel_rfl
theorem known_last : isTrue (bodyEnd Tryz.prog E_known Tryz.f4 (evStack E_known [known_r14] known_z14.S known_z14.H)) = true := by kernel_rfl
theorem awake_s0 : awake_r0 = .seq (hd awake_r0) (tl awake_r0) := by kernel_rfl
theorem awake_c0 : chunkB awake_z1 (evStack E_awake [hd awake_r0] (first1 Tryz.f15) H0) = true := by kernel_rfl
theorem known_s2 : known_r2 = .seq (hd known_r2) (tl known_r2) := by kernel_rfl
theorem known_c2 : chunkB known_z3 (evStack E_known [hd known_r2] known_z2.S known_z2.H) = true := by kernel_rfl
end Go.Opn

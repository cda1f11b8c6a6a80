/- A part of the proof of ProtocolBack. -/
import Derived.Test.YtaopiiohjbjgkaaGreatDoorSn
set_option maxRecDepth 100000
namespace Go.Opn
open Go Go.Cre Go.Proofs
theorem known_s11 : known_r11 = .seq (hd known_r11) (tl known_r11) := by kernel_rfl
theorem known_c11 : chunkB known_z12 (evStack E_known [hd known_r11] known_z11.S known_z11.H) = true := by kernel_rfl
end Go.Opn

/- A part of the proof of ProtocolBack. -/
import Derived.Test.YtaopiiohjbjgkaaGreatDoorSn
set_option maxRecDepth 100000
namespace Go.Opn
open Go Go.Cre Go.Proofs
theorem known_s10 : known_r10 = .seq (hd known_r10) (tl known_r10) := by kernel_rfl
theorem known_c10 : chunkB known_z11 (evStack E_known [hd known_r10] known_z10.S known_z10.H) = true := by kernel_rfl
end Go.Opn

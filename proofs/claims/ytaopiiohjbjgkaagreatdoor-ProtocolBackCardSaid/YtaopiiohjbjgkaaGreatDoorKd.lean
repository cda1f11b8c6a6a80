/- A part of the proof of ProtocolBack. -/
import Derived.Test.YtaopiiohjbjgkaaGreatDoorSn
import Derived.Test.YtaopiiohjbjgkaaGreatDoorKa
import Derived.Test.YtaopiiohjbjgkaaGreatDoorKb
import Derived.Test.YtaopiiohjbjgkaaGreatDoorKc
set_option maxRecDepth 100000
namespace Go.Opn
open Go Go.Cre Go.Proofs
theorem known_s5 : known_r5 = .seq (hd known_r5) (tl known_r5) := by kernel_rfl
theorem known_c5 : chunkB known_z6 (evStack E_known [hd known_r5] known_z5.S known_z5.H) = true := by kernel_rfl
theorem known_s6 : known_r6 = .seq (hd known_r6) (tl known_r6) := by kernel_rfl
theorem known_c6 : chunkB known_z7 (evStack E_known [hd known_r6] known_z6.S known_z6.H) = true := by kernel_rfl
theorem known_s7 : known_r7 = .seq (hd known_r7) (tl known_r7) := by kernel_rfl
theorem known_c7 : chunkB known_z8 (evStack E_known [hd known_r7] known_z7.S known_z7.H) = true := by kernel_rfl
theorem awake_s2 : awake_r2 = .seq (hd awake_r2) (tl awake_r2) := by kernel_rfl
theorem awake_c2 : chunkB awake_z3 (evStack E_awake [hd awake_r2] awake_z2.S awake_z2.H) = true := by kernel_rfl
theorem known_s3 : known_r3 = .seq (hd known_r3) (tl known_r3) := by kernel_rfl
theorem known_c3 : chunkB known_z4 (evStack E_known [hd known_r3] known_z3.S known_z3.H) = true := by kernel_rfl
theorem awake_last : isTrue (bodyEnd Tryz.prog E_awake Tryz.f15 (evStack E_awake [awake_r3] awake_z3.S awake_z3.H)) = true := by kernel_rfl
theorem known_s9 : known_r9 = .seq (hd known_r9) (tl known_r9) := by kernel_rfl
theorem known_c9 : chunkB known_z10 (evStack E_known [hd known_r9] known_z9.S known_z9.H) = true := by kernel_rfl
theorem known_s0 : known_r0 = .seq (hd known_r0) (tl known_r0) := by kernel_rfl
theorem known_c0 : chunkB known_z1 (evStack E_known [hd known_r0] (first1 Tryz.f4) H0) = true := by kernel_rfl
theorem known_s13 : known_r13 = .seq (hd known_r13) (tl known_r13) := by kernel_rfl
theorem known_c13 : chunkB known_z14 (evStack E_known [hd known_r13] known_z13.S known_z13.H) = true := by kernel_rfl
end Go.Opn
set_option maxRecDepth 100000
namespace Go.Opn
open Go Go.Cre Go.RowKit Go.Proofs
theorem mixR : Tryz.prog.follows .mixedOrders = true := by kernel_rfl
theorem numR : numOk Tryz.prog = true := by kernel_rfl
theorem awake_tab : TabOk Tryz.prog H0 [] := tabOk_nil
theorem awake_bodyR : Tryz.f15.body = some awake_r0 := rfl
theorem awake_calls (w : World) (h : Laid Tryz.prog w H0) : Calls Tryz.prog 15 #[] w fun e w' => e = .returned (.bool true) ∧ Below w.heap.size w w' := by
  have hs := evsT_sound (pf_of mixR numR) awake_tab h 10000
  exact chunk_calls Tryz.func15 awake_bodyR h (good_next hs.1 awake_s0 awake_c0 (good_next hs.1 awake_s1 awake_c1 (good_next hs.1 awake_s2 awake_c2 (good_end hs.1 hs.2.1 awake_last))))
theorem known_tab : TabOk Tryz.prog H0 [(15, Value.bool true)] := tabOk_cons rfl Tryz.func15 awake_bodyR awake_calls awake_tab
theorem known_bodyR : Tryz.f4.body = some known_r0 := rfl
theorem known_calls (w : World) (h : Laid Tryz.prog w H0) : Calls Tryz.prog 4 #[] w fun e w' => e = .returned (.bool true) ∧ Below w.heap.size w w' := by
  have hs := evsT_sound (pf_of mixR numR) known_tab h 10000
  exact chunk_calls Tryz.func4 known_bodyR h (good_next hs.1 known_s0 known_c0 (good_next hs.1 known_s1 known_c1 (good_next hs.1 known_s2 known_c2 (good_next hs.1 known_s3 known_c3 (good_next hs.1 known_s4 known_c4 (good_next hs.1 known_s5 known_c5 (good_next hs.1 known_s6 known_c6 (good_next hs.1 known_s7 known_c7 (good_next hs.1 known_s8 known_c8 (good_next hs.1 known_s9 known_c9 (good_next hs.1 known_s10 known_c10 (good_next hs.1 known_s11 known_c11 (good_next hs.1 known_s12 known_c12 (good_next hs.1 known_s13 known_c13 (good_end hs.1 hs.2.1 known_last)))))))))))))))
end Go.Opn

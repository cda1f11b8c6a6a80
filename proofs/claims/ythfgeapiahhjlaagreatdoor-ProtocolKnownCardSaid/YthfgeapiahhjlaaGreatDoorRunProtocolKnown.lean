/- parlour/parlourlaw36.ProtocolKnown and the closed calls ahead of it, joined: each returns true in every world that holds the listed variables. -/
import Derived.Test.YthfgeapiahhjlaaGreatDoorChkProtocolKnowna
import Derived.Test.YthfgeapiahhjlaaGreatDoorChkProtocolKnownb
import Derived.Test.YthfgeapiahhjlaaGreatDoorChkProtocolKnownc
import Derived.Test.YthfgeapiahhjlaaGreatDoorChkProtocolKnownd
set_option maxRecDepth 100000
namespace Go.Proofs.YthfgeapiahhjlaaGreatDoor.creProtocolKnown
open Go Go.Cre Go.RowKit Go.Proofs
theorem mix : Tryz.prog.follows .mixedOrders = true := by kernel_rfl
theorem num : numOk Tryz.prog = true := by kernel_rfl
theorem awake_tab : TabOk Tryz.prog H0 [] := tabOk_nil
theorem awake_body : Tryz.f11.body = some awake_r0 := rfl
theorem awake_calls (w : World) (h : Laid Tryz.prog w H0) : Calls Tryz.prog 11 #[] w fun e w' => e = .returned (.bool true) ∧ Below w.heap.size w w' := by
  have hs := evsT_sound (pf_of mix num) awake_tab h 10000
  exact chunk_calls Tryz.func11 awake_body h (good_next hs.1 awake_s0 awake_c0 (good_next hs.1 awake_s1 awake_c1 (good_next hs.1 awake_s2 awake_c2 (good_end hs.1 hs.2.1 awake_last))))
theorem law_tab : TabOk Tryz.prog H0 [(11, Value.bool true)] := tabOk_cons rfl Tryz.func11 awake_body awake_calls awake_tab
theorem law_body : Tryz.f3.body = some law_r0 := rfl
theorem law_calls (w : World) (h : Laid Tryz.prog w H0) : Calls Tryz.prog 3 #[] w fun e w' => e = .returned (.bool true) ∧ Below w.heap.size w w' := by
  have hs := evsT_sound (pf_of mix num) law_tab h 10000
  exact chunk_calls Tryz.func3 law_body h (good_next hs.1 law_s0 law_c0 (good_next hs.1 law_s1 law_c1 (good_next hs.1 law_s2 law_c2 (good_next hs.1 law_s3 law_c3 (good_next hs.1 law_s4 law_c4 (good_next hs.1 law_s5 law_c5 (good_next hs.1 law_s6 law_c6 (good_next hs.1 law_s7 law_c7 (good_next hs.1 law_s8 law_c8 (good_next hs.1 law_s9 law_c9 (good_next hs.1 law_s10 law_c10 (good_next hs.1 law_s11 law_c11 (good_next hs.1 law_s12 law_c12 (good_next hs.1 law_s13 law_c13 (good_end hs.1 hs.2.1 law_last)))))))))))))))
end Go.Proofs.YthfgeapiahhjlaaGreatDoor.creProtocolKnown

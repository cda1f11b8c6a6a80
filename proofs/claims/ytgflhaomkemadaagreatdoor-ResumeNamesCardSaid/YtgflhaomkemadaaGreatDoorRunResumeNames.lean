/- parlour/parlourlaw41.ResumeNames and the closed calls ahead of it, joined: each returns true in every world that holds the listed variables. -/
import Derived.Test.YtgflhaomkemadaaGreatDoorChkResumeNamesa
import Derived.Test.YtgflhaomkemadaaGreatDoorChkResumeNamesb
import Derived.Test.YtgflhaomkemadaaGreatDoorChkResumeNamesc
import Derived.Test.YtgflhaomkemadaaGreatDoorChkResumeNamesd
set_option maxRecDepth 100000
namespace Go.Proofs.YtgflhaomkemadaaGreatDoor.creResumeNames
open Go Go.Cre Go.RowKit Go.Proofs
theorem mix : Tryz.prog.follows .mixedOrders = true := by kernel_rfl
theorem num : numOk Tryz.prog = true := by kernel_rfl
theorem lives_tab : TabOk Tryz.prog H0 [] := tabOk_nil
theorem lives_body : Tryz.f4.body = some lives_r0 := rfl
theorem lives_calls (w : World) (h : Laid Tryz.prog w H0) : Calls Tryz.prog 4 #[] w fun e w' => e = .returned (.bool true) ∧ Below w.heap.size w w' := by
  have hs := evsT_sound (pf_of mix num) lives_tab h 10000
  exact chunk_calls Tryz.func4 lives_body h (good_next hs.1 lives_s0 lives_c0 (good_next hs.1 lives_s1 lives_c1 (good_next hs.1 lives_s2 lives_c2 (good_next hs.1 lives_s3 lives_c3 (good_end hs.1 hs.2.1 lives_last)))))
theorem law_tab : TabOk Tryz.prog H0 [(4, Value.bool true)] := tabOk_cons rfl Tryz.func4 lives_body lives_calls lives_tab
theorem law_body : Tryz.f3.body = some law_r0 := rfl
theorem law_calls (w : World) (h : Laid Tryz.prog w H0) : Calls Tryz.prog 3 #[] w fun e w' => e = .returned (.bool true) ∧ Below w.heap.size w w' := by
  have hs := evsT_sound (pf_of mix num) law_tab h 10000
  exact chunk_calls Tryz.func3 law_body h (good_next hs.1 law_s0 law_c0 (good_next hs.1 law_s1 law_c1 (good_next hs.1 law_s2 law_c2 (good_next hs.1 law_s3 law_c3 (good_next hs.1 law_s4 law_c4 (good_next hs.1 law_s5 law_c5 (good_next hs.1 law_s6 law_c6 (good_next hs.1 law_s7 law_c7 (good_next hs.1 law_s8 law_c8 (good_next hs.1 law_s9 law_c9 (good_next hs.1 law_s10 law_c10 (good_next hs.1 law_s11 law_c11 (good_next hs.1 law_s12 law_c12 (good_nextN hs.1 _ _ _ _ law_s13 law_c13 (good_next hs.1 law_s14 law_c14 (good_next hs.1 law_s15 law_c15 (good_end hs.1 hs.2.1 law_last)))))))))))))))))
end Go.Proofs.YtgflhaomkemadaaGreatDoor.creResumeNames

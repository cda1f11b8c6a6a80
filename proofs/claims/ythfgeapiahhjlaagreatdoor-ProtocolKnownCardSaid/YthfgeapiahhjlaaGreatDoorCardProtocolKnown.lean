/- parlour/parlourlaw36.ProtocolKnown returns true: the card of ProtocolKnown. The law has no input. The listed variables are as the program's text lays them (the tie is given). -/
import Derived.Test.YthfgeapiahhjlaaGreatDoorCards
import Derived.Test.YthfgeapiahhjlaaGreatDoorTie
import Derived.Test.YthfgeapiahhjlaaGreatDoorRunProtocolKnown
import Derived.Test.YthfgeapiahhjlaaGreatDoorCreZ6
import Derived.WalkKit
import Derived.ProofKit
import Derived.OpenShut
import Derived.Deep.DeepHandedRow
import Derived.Lib.LaidTab
import Derived.LaidHandle
import Derived.LaidMore
import Derived.Stop.LaidErr
namespace Go.Proofs.YthfgeapiahhjlaaGreatDoor.creProtocolKnown
open Go Go.Cre Go.ChangeShapes Go.WideShapes Go.ChangeAt Go.RowKit Go.Proofs
theorem own : ownKnob Tryz.prog.godebug = none := by kernel_rfl
theorem gTab0 : Tryz.prog.globalNamed "math/bits.deBruijn32tab" = some 7 := by kernel_rfl
theorem gType0 : (Tryz.prog.globals[7]?).map (·.type) = some 325 := by kernel_rfl
theorem gUnd0 : Tryz.prog.underlying 325 = some (.array 32 5) := by kernel_rfl
theorem gEl0 : Tryz.prog.underlying 5 = some (.int .u8) := by kernel_rfl
theorem gOne0 : Tryz.prog.cellsOf 5 = 1 := by kernel_rfl
theorem gAll0 : Tryz.prog.cellsOf 325 = 32 := by kernel_rfl
theorem gRow0 : (((begin Tryz.prog (fun _ _ => 0) default).world.heap[7]?).bind Obj.row?).map (·.2) = some 325 := by kernel_rfl
theorem gLt0 : 7 < Tryz.prog.globals.size := by decide +kernel
theorem gTab1 : Tryz.prog.globalNamed "math/bits.deBruijn64tab" = some 8 := by kernel_rfl
theorem gType1 : (Tryz.prog.globals[8]?).map (·.type) = some 326 := by kernel_rfl
theorem gUnd1 : Tryz.prog.underlying 326 = some (.array 64 5) := by kernel_rfl
theorem gEl1 : Tryz.prog.underlying 5 = some (.int .u8) := by kernel_rfl
theorem gOne1 : Tryz.prog.cellsOf 5 = 1 := by kernel_rfl
theorem gAll1 : Tryz.prog.cellsOf 326 = 64 := by kernel_rfl
theorem gRow1 : (((begin Tryz.prog (fun _ _ => 0) default).world.heap[8]?).bind Obj.row?).map (·.2) = some 326 := by kernel_rfl
theorem gLt1 : 8 < Tryz.prog.globals.size := by decide +kernel
theorem gTab2 : Tryz.prog.globalNamed "internal/strconv.uint64pow10" = some 4 := by kernel_rfl
theorem gType2 : (Tryz.prog.globals[4]?).map (·.type) = some 288 := by kernel_rfl
theorem gUnd2 : Tryz.prog.underlying 288 = some (.array 20 250) := by kernel_rfl
theorem gEl2 : Tryz.prog.underlying 250 = some (.int .u64) := by kernel_rfl
theorem gOne2 : Tryz.prog.cellsOf 250 = 1 := by kernel_rfl
theorem gAll2 : Tryz.prog.cellsOf 288 = 20 := by kernel_rfl
theorem gRow2 : (((begin Tryz.prog (fun _ _ => 0) default).world.heap[4]?).bind Obj.row?).map (·.2) = some 288 := by kernel_rfl
theorem gLt2 : 4 < Tryz.prog.globals.size := by decide +kernel
theorem gTab3 : Tryz.prog.globalNamed "parlour/token.blanks" = some 0 := by kernel_rfl
theorem gType3 : (Tryz.prog.globals[0]?).map (·.type) = some 182 := by kernel_rfl
theorem gUnd3 : Tryz.prog.underlying 182 = some (.array 33 4) := by kernel_rfl
theorem gEl3 : Tryz.prog.underlying 4 = some .bool := by kernel_rfl
theorem gOne3 : Tryz.prog.cellsOf 4 = 1 := by kernel_rfl
theorem gAll3 : Tryz.prog.cellsOf 182 = 33 := by kernel_rfl
theorem gRow3 : (((begin Tryz.prog (fun _ _ => 0) default).world.heap[0]?).bind Obj.row?).map (·.2) = some 182 := by kernel_rfl
theorem gLt3 : 0 < Tryz.prog.globals.size := by decide +kernel
theorem gTab4 : Tryz.prog.globalNamed "parlour/token.signs" = some 1 := by kernel_rfl
theorem gType4 : (Tryz.prog.globals[1]?).map (·.type) = some 183 := by kernel_rfl
theorem gUnd4 : Tryz.prog.underlying 183 = some (.array 126 4) := by kernel_rfl
theorem gEl4 : Tryz.prog.underlying 4 = some .bool := by kernel_rfl
theorem gOne4 : Tryz.prog.cellsOf 4 = 1 := by kernel_rfl
theorem gAll4 : Tryz.prog.cellsOf 183 = 126 := by kernel_rfl
theorem gRow4 : (((begin Tryz.prog (fun _ _ => 0) default).world.heap[1]?).bind Obj.row?).map (·.2) = some 183 := by kernel_rfl
theorem gLt4 : 1 < Tryz.prog.globals.size := by decide +kernel
/-- what the row's list gives -/
theorem tables {W : World} (h : laidMetH Tryz.prog Rows.protocolKnownRow.laid W) : Lib.TabIs Tryz.prog W "math/bits.deBruijn32tab" .u8 nums0 ∧ Lib.TabIs Tryz.prog W "math/bits.deBruijn64tab" .u8 nums1 ∧ Lib.TabIs Tryz.prog W "internal/strconv.uint64pow10" .u64 nums2 ∧ BoolsAre Tryz.prog W "parlour/token.blanks" nums3 ∧ BoolsAre Tryz.prog W "parlour/token.signs" nums4 := by
  have h0 : laidMet Tryz.prog [("math/bits.deBruijn32tab", Lib.tabData .u8 nums0), ("math/bits.deBruijn64tab", Lib.tabData .u8 nums1), ("internal/strconv.uint64pow10", Lib.tabData .u64 nums2), ("strconv.ErrRange", Rows.laid_strconv_ErrRange), ("strconv.ErrSyntax", Rows.laid_strconv_ErrSyntax), ("parlour/token.blanks", boolData nums3), ("parlour/token.signs", boolData nums4)] W := (show laidMet Tryz.prog [("math/bits.deBruijn32tab", Lib.tabData .u8 nums0), ("math/bits.deBruijn64tab", Lib.tabData .u8 nums1), ("internal/strconv.uint64pow10", Lib.tabData .u64 nums2), ("strconv.ErrRange", Rows.laid_strconv_ErrRange), ("strconv.ErrSyntax", Rows.laid_strconv_ErrSyntax), ("parlour/token.blanks", boolData nums3), ("parlour/token.signs", boolData nums4)] W ∧ handlesMet Tryz.prog [("errors.errorType", Rows.laid_errors_errorType)] W from h).1
  have h1 := laidMet.tail h0
  have h2 := laidMet.tail h1
  have h3 := laidMet.tail h2
  have h4 := laidMet.tail h3
  have h5 := laidMet.tail h4
  have h6 := laidMet.tail h5
  exact ⟨Lib.tabIs_of_head gTab0 gType0 gUnd0 gEl0 gOne0 gAll0 h0, Lib.tabIs_of_head gTab1 gType1 gUnd1 gEl1 gOne1 gAll1 h1, Lib.tabIs_of_head gTab2 gType2 gUnd2 gEl2 gOne2 gAll2 h2, bools_head gTab3 gType3 gUnd3 gEl3 gOne3 gAll3 h5, bools_head gTab4 gType4 gUnd4 gEl4 gOne4 gAll4 h6⟩
theorem first {W : World} (h : laidMetH Tryz.prog Rows.protocolKnownRow.laid W) (hs : W.ShapedOpen Tryz.prog) : Laid Tryz.prog W H0 := by
  refine laid_of fun g e cells hm => ?_
  have ht := tables h
  simp only [tabs, List.mem_cons, Prod.mk.injEq, List.not_mem_nil, or_false] at hm
  rcases hm with ⟨rfl, rfl, rfl⟩ | ⟨rfl, rfl, rfl⟩ | ⟨rfl, rfl, rfl⟩ | ⟨rfl, rfl, rfl⟩ | ⟨rfl, rfl, rfl⟩
  · exact ⟨by decide, laid_row gTab0 gLt0 gRow0 hs (ht.1), by kernel_rfl, by decide +kernel⟩
  · exact ⟨by decide, laid_row gTab1 gLt1 gRow1 hs (ht.2.1), by kernel_rfl, by decide +kernel⟩
  · exact ⟨by decide, laid_row gTab2 gLt2 gRow2 hs (ht.2.2.1), by kernel_rfl, by decide +kernel⟩
  · exact ⟨by decide, laid_rowB gTab3 gLt3 gRow3 hs (ht.2.2.2.1), by kernel_rfl, by decide +kernel⟩
  · exact ⟨by decide, laid_rowB gTab4 gLt4 gRow4 hs (ht.2.2.2.2), by kernel_rfl, by decide +kernel⟩
set_option maxRecDepth 100000 in
/-- WHAT THE RUN GIVES, IN EVERY WORLD THAT HOLDS THE LISTED VARIABLES. -/
theorem contract (H : Type) (enc : TypeId × Value → H) (W : World) (args : Array Value) (ds gs : List (DataW H)) (before : List MemPlace)
    (hW : DataW.Whole enc Tryz.prog Tryz.f3.params.toList Rows.protocolKnownSpec.vars false W args.toList ds gs before) (hL : laidMetH Tryz.prog Rows.protocolKnownRow.laid W) (hS : W.ShapedOpen Tryz.prog) :
    Calls Tryz.prog 3 args W fun e W' => ∃ v, e = .returned v ∧ Rows.protocolKnownSpec.post enc Tryz.prog Tryz.f3 false true false false W args v W' := by
  have hW' := hW
  obtain ⟨p, q, hA0, hV, rfl, hfz, hnd⟩ := hW
  have hA : DataW.TrodAll enc Tryz.prog W 0 (fun _ => true) true Tryz.f3.params.toList args.toList ds p := hA0
  rw [Tryz.params3] at hA
  obtain ⟨hargs, rfl, rfl⟩ := trodAll_nil hA
  obtain rfl : args = #[] := by cases args; simp_all
  obtain ⟨rfl, rfl⟩ := trodVars_none hV
  refine (law_calls W (first hL hS)).mono fun e W' ⟨he, hb⟩ => ?_
  subst he
  exact ⟨_, rfl, post_of_below hW' (fun _ _ _ => trodAll_cons_mk (shut_bool Tryz.underlying4 _) trodAll_mk0) (fun _ => trodAll_mk0) (fun _ => rfl) (hb.frame _) (ok_one (by kernel_rfl) rfl (okWide_bool_mk Tryz.underlying4 _))⟩

/-- A WORLD FOR THE WITNESS. -/
noncomputable def laidWorld (os : Os) : World := World.doorLaid Tryz.prog 400 os
theorem laid_met (os : Os) : laidMetH Tryz.prog Rows.protocolKnownRow.laid ((laidWorld os).forCall (fun _ _ => 0) ⟨#[], #[], []⟩).memory :=
  laidMetH_of_parts3 (fuel := 8) (laidMet_of_run' 8 (by kernel_rfl) (by kernel_rfl)) (by kernel_rfl) (by kernel_rfl)
theorem reads (os : Os) {H : Type} (enc : TypeId × Value → H) : ∃ places, DataW.whole enc Tryz.prog ((laidWorld os).forCall (fun _ _ => 0) ⟨#[], #[], []⟩).memory Tryz.f3.params.toList Rows.protocolKnownSpec.vars false (#[] : Array Value).toList 8 = some ([], [], places) :=
  ⟨[], by kernel_rfl⟩
set_option maxRecDepth 100000 in
theorem lifted (os : Os) (started : os.Started) (H : Type) (enc : TypeId × Value → H) (F : Stop.Interp) :
    ReturnsInHanded {} Tryz.checked os 3 .any ((OpenSpec.ofChange Rows.protocolKnownSpec).preRow enc Tryz.prog Tryz.f3 Rows.protocolKnownRow.domain false Rows.protocolKnownRow.laid) (((OpenSpec.ofChange Rows.protocolKnownSpec).at F).post enc Tryz.prog Tryz.f3 false true false false) := by
  obtain ⟨places, hx⟩ := reads os enc
  refine returnsInHanded_of_row (C := Tryz.checked) (s := OpenSpec.ofChange Rows.protocolKnownSpec) own started (by kernel_rfl) Tryz.func3
    (witness_row_at (enc := enc) (C := Tryz.checked) false (laidWorld os) #[] rfl (by kernel_rfl) (by kernel_rfl) (by kernel_rfl)
      (OpenSpec.preRow_of_cond 8 hx (by kernel_rfl) (fun k hk => by cases hk) (by kernel_rfl) (laid_met os))) ?_
  intro W base args ds gs before hval hW _ _ _ hL hS _
  exact contract H enc W args ds gs before hW hL hS
theorem said : Rows.ProtocolKnownSaid :=
  OpenClaim.holds_of_wide_leaving 3 Tryz.f3 rfl rfl rfl rfl rfl rfl rfl ⟨rfl, rfl, rfl, rfl, rfl⟩ rfl rfl rfl rfl rfl (by kernel_rfl) Tryz.func3 (by kernel_rfl)
    (of_decide_eq_true (by kernel_rfl)) (by unfold Func.isWrapper; first | (rw [if_pos (by decide +kernel)]; kernel_rfl) | (rw [if_neg (by decide +kernel)]; exact ⟨rfl, rfl⟩))
    (fun os started H enc _ => leaving_of_handed (by rw [OpenClaim.pre_eq_preRow]; exact lifted os started H enc fun _ _ _ => 0))
theorem plainly (f : FuncId) (fn : Func) (hf : Tryz.pinned.checked.prog.funcNamed "parlour/parlourlaw36.ProtocolKnown" = some f) (hfn : Tryz.pinned.checked.prog.funcs[f]? = some fn) :
    true = Tryz.pinned.checked.prog.looks [] ∧ ∀ (j : Nat) t, fn.params[j]? = some t → Tryz.pinned.checked.prog.wantsStandIn t = false := by
  obtain rfl : f = 3 := Option.some.inj ((show Tryz.prog.funcNamed "parlour/parlourlaw36.ProtocolKnown" = some 3 by kernel_rfl).symm.trans hf) |>.symm
  obtain rfl : fn = Tryz.f3 := (Option.some.inj (Tryz.func3.symm.trans hfn)).symm
  refine ⟨by kernel_rfl, fun j t ht => ?_⟩
  rw [Tryz.params3] at ht
  simp at ht
theorem card : Rows.ProtocolKnownCardSaid :=
  holds_tied_goes .later _ _ _ _ said (by kernel_rfl) protocolKnown_row_tie rfl ⟨rfl, rfl⟩ (by kernel_rfl) rfl plainly (by kernel_rfl)
end Go.Proofs.YthfgeapiahhjlaaGreatDoor.creProtocolKnown

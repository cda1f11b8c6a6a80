/- The law ProtocolTalks returns true, whatever its arguments, and they read afterwards as before: the card of ProtocolTalks. Conditions: none beyond the row's own; the listed variables are as the program's text lays them (the tie is given). -/
import Derived.Test.YtobdmheahedahaaGreatDoorYb
import Derived.Test.YtobdmheahedahaaGreatDoorOpnT
set_option maxRecDepth 100000
set_option linter.unusedVariables false
namespace Go.Opn
open Go Go.Cre Go.RowKit Go.Proofs Go.ChangeShapes Go.WideShapes Go.ChangeAt
open Go.Proofs.YtobdmheahedahaaGreatDoor
theorem own : ownKnob Tryz.prog.godebug = none := by kernel_rfl
theorem gTab0 : Tryz.prog.globalNamed "math/bits.deBruijn32tab" = some 6 := by kernel_rfl
theorem gType0 : (Tryz.prog.globals[6]?).map (·.type) = some 169 := by kernel_rfl
theorem gUnd0 : Tryz.prog.underlying 169 = some (.array 32 5) := by kernel_rfl
theorem gEl0 : Tryz.prog.underlying 5 = some (.int .u8) := by kernel_rfl
theorem gOne0 : Tryz.prog.cellsOf 5 = 1 := by kernel_rfl
theorem gAll0 : Tryz.prog.cellsOf 169 = 32 := by kernel_rfl
theorem gRow0 : (((begin Tryz.prog (fun _ _ => 0) default).world.heap[6]?).bind Obj.row?).map (·.2) = some 169 := by kernel_rfl
theorem gLt0 : 6 < Tryz.prog.globals.size := by decide +kernel
theorem gTab1 : Tryz.prog.globalNamed "math/bits.deBruijn64tab" = some 7 := by kernel_rfl
theorem gType1 : (Tryz.prog.globals[7]?).map (·.type) = some 170 := by kernel_rfl
theorem gUnd1 : Tryz.prog.underlying 170 = some (.array 64 5) := by kernel_rfl
theorem gEl1 : Tryz.prog.underlying 5 = some (.int .u8) := by kernel_rfl
theorem gOne1 : Tryz.prog.cellsOf 5 = 1 := by kernel_rfl
theorem gAll1 : Tryz.prog.cellsOf 170 = 64 := by kernel_rfl
theorem gRow1 : (((begin Tryz.prog (fun _ _ => 0) default).world.heap[7]?).bind Obj.row?).map (·.2) = some 170 := by kernel_rfl
theorem gLt1 : 7 < Tryz.prog.globals.size := by decide +kernel
theorem gTab2 : Tryz.prog.globalNamed "internal/strconv.uint64pow10" = some 5 := by kernel_rfl
theorem gType2 : (Tryz.prog.globals[5]?).map (·.type) = some 161 := by kernel_rfl
theorem gUnd2 : Tryz.prog.underlying 161 = some (.array 20 141) := by kernel_rfl
theorem gEl2 : Tryz.prog.underlying 141 = some (.int .u64) := by kernel_rfl
theorem gOne2 : Tryz.prog.cellsOf 141 = 1 := by kernel_rfl
theorem gAll2 : Tryz.prog.cellsOf 161 = 20 := by kernel_rfl
theorem gRow2 : (((begin Tryz.prog (fun _ _ => 0) default).world.heap[5]?).bind Obj.row?).map (·.2) = some 161 := by kernel_rfl
theorem gLt2 : 5 < Tryz.prog.globals.size := by decide +kernel
theorem gTab3 : Tryz.prog.globalNamed "parlour/token.blanks" = some 1 := by kernel_rfl
theorem gType3 : (Tryz.prog.globals[1]?).map (·.type) = some 124 := by kernel_rfl
theorem gUnd3 : Tryz.prog.underlying 124 = some (.array 33 4) := by kernel_rfl
theorem gEl3 : Tryz.prog.underlying 4 = some .bool := by kernel_rfl
theorem gOne3 : Tryz.prog.cellsOf 4 = 1 := by kernel_rfl
theorem gAll3 : Tryz.prog.cellsOf 124 = 33 := by kernel_rfl
theorem gRow3 : (((begin Tryz.prog (fun _ _ => 0) default).world.heap[1]?).bind Obj.row?).map (·.2) = some 124 := by kernel_rfl
theorem gLt3 : 1 < Tryz.prog.globals.size := by decide +kernel
theorem gTab4 : Tryz.prog.globalNamed "parlour/token.signs" = some 2 := by kernel_rfl
theorem gType4 : (Tryz.prog.globals[2]?).map (·.type) = some 125 := by kernel_rfl
theorem gUnd4 : Tryz.prog.underlying 125 = some (.array 126 4) := by kernel_rfl
theorem gEl4 : Tryz.prog.underlying 4 = some .bool := by kernel_rfl
theorem gOne4 : Tryz.prog.cellsOf 4 = 1 := by kernel_rfl
theorem gAll4 : Tryz.prog.cellsOf 125 = 126 := by kernel_rfl
theorem gRow4 : (((begin Tryz.prog (fun _ _ => 0) default).world.heap[2]?).bind Obj.row?).map (·.2) = some 125 := by kernel_rfl
theorem gLt4 : 2 < Tryz.prog.globals.size := by decide +kernel
theorem tables {W : World} (h : laidMetH Tryz.prog Rows.protocolTalksRow.laid W) : Lib.TabIs Tryz.prog W "math/bits.deBruijn32tab" .u8 nums0 ∧ Lib.TabIs Tryz.prog W "math/bits.deBruijn64tab" .u8 nums1 ∧ Lib.TabIs Tryz.prog W "internal/strconv.uint64pow10" .u64 nums2 ∧ BoolsAre Tryz.prog W "parlour/token.blanks" nums3 ∧ BoolsAre Tryz.prog W "parlour/token.signs" nums4 := by
  have h0 : laidMet Tryz.prog [("math/bits.deBruijn32tab", Lib.tabData .u8 nums0), ("math/bits.deBruijn64tab", Lib.tabData .u8 nums1), ("internal/strconv.uint64pow10", Lib.tabData .u64 nums2), ("strconv.ErrRange", Rows.laid_strconv_ErrRange), ("strconv.ErrSyntax", Rows.laid_strconv_ErrSyntax), ("parlour/token.blanks", boolData nums3), ("parlour/token.signs", boolData nums4)] W := h
  have h1 := laidMet.tail h0
  have h2 := laidMet.tail h1
  have h3 := laidMet.tail h2
  have h4 := laidMet.tail h3
  have h5 := laidMet.tail h4
  have h6 := laidMet.tail h5
  exact ⟨Lib.tabIs_of_head gTab0 gType0 gUnd0 gEl0 gOne0 gAll0 h0, Lib.tabIs_of_head gTab1 gType1 gUnd1 gEl1 gOne1 gAll1 h1, Lib.tabIs_of_head gTab2 gType2 gUnd2 gEl2 gOne2 gAll2 h2, bools_head gTab3 gType3 gUnd3 gEl3 gOne3 gAll3 h5, bools_head gTab4 gType4 gUnd4 gEl4 gOne4 gAll4 h6⟩
theorem first {W : World} (h : laidMetH Tryz.prog Rows.protocolTalksRow.laid W) (hs : W.ShapedOpen Tryz.prog) : Laid Tryz.prog W H0 := by
  refine laid_of fun g e cells hm => ?_
  have ht := tables h
  simp only [tabs, List.mem_cons, Prod.mk.injEq, List.not_mem_nil, or_false] at hm
  rcases hm with ⟨rfl, rfl, rfl⟩ | ⟨rfl, rfl, rfl⟩ | ⟨rfl, rfl, rfl⟩ | ⟨rfl, rfl, rfl⟩ | ⟨rfl, rfl, rfl⟩
  · exact ⟨by decide, laid_row gTab0 gLt0 gRow0 hs (ht.1), by kernel_rfl, by decide +kernel⟩
  · exact ⟨by decide, laid_row gTab1 gLt1 gRow1 hs (ht.2.1), by kernel_rfl, by decide +kernel⟩
  · exact ⟨by decide, laid_row gTab2 gLt2 gRow2 hs (ht.2.2.1), by kernel_rfl, by decide +kernel⟩
  · exact ⟨by decide, laid_rowB gTab3 gLt3 gRow3 hs (ht.2.2.2.1), by kernel_rfl, by decide +kernel⟩
  · exact ⟨by decide, laid_rowB gTab4 gLt4 gRow4 hs (ht.2.2.2.2), by kernel_rfl, by decide +kernel⟩
theorem row_bools {W : World} {g : Nat} {bs : List Bool} {t : TypeId} {f : Nat × Nat} (h : W.heap[g]? = some (.cells (bs.map Value.bool).toArray t f)) : jA PP W g = some (bs.map Value.bool, t) := by
  show rowA PP W g = _
  rw [rowA_mk (rowOf_mk h)]
  congr 2
  rw [List.toList_toArray, List.map_map]
  exact List.map_congr_left fun b _ => absV_atom rfl
theorem gl_first {W : World} (h : laidMetH Tryz.prog Rows.protocolTalksRow.laid W) (hs : W.ShapedOpen Tryz.prog) : Gl W.heap.size (jA PP W) := by
  have ht := tables h
  obtain ⟨f1, q1⟩ := laid_rowB gTab3 gLt3 gRow3 hs (ht.2.2.2.1)
  obtain ⟨f2, q2⟩ := laid_rowB gTab4 gLt4 gRow4 hs (ht.2.2.2.2)
  have l1 := (Array.getElem?_eq_some_iff.1 q1).1
  have l2 := (Array.getElem?_eq_some_iff.1 q2).1
  exact ⟨by simpa [Nat.blt, Nat.succ_le_iff] using l1, by simpa [Nat.blt, Nat.succ_le_iff] using l2, ⟨_, row_bools q1⟩, ⟨_, row_bools q2⟩⟩
theorem awake_body : ∃ c, Tryz.f4.body = some c := ⟨_, rfl⟩
theorem law_body : ∃ c, Tryz.f3.body = some c := ⟨_, rfl⟩
theorem laidOut : laidOutB Tryz.prog = true := by kernel_rfl
theorem readables : ∀ t ∈ Tryz.f3.params.toList, PP.readableRec t = true ∧ t < PP.types.size := by
  intro t ht
  rw [Tryz.params3] at ht
  simp only [List.mem_cons, List.not_mem_nil, or_false] at ht
  rcases ht with rfl | rfl | rfl
  · exact ⟨by kernel_rfl, of_decide_eq_true (by kernel_rfl)⟩
  · exact ⟨by kernel_rfl, of_decide_eq_true (by kernel_rfl)⟩
  · exact ⟨by kernel_rfl, of_decide_eq_true (by kernel_rfl)⟩
theorem agg_of {P : Program} {W : World} {base : Nat} {t : TypeId} {v : Value} {k : Nat} (hk : structN P t = some k) (h : Value.okWide P W .any base t v) : ∃ cs, v = .agg cs := by
  unfold structN at hk
  split at hk
  · rename_i fs hu
    unfold Value.okWide at h
    rw [hu] at h
    obtain ⟨cs, q, _⟩ := h
    exact ⟨cs, q⟩
  · cases hk
theorem slice_val {P : Program} {W : World} {base : Nat} {t e : TypeId} {v : Value} (hu : P.underlying t = some (.slice e)) (h : Value.okWide P W .any base t v) : v.cells.toList = [v] := by
  unfold Value.okWide at h
  rw [hu] at h
  simp only at h
  unfold Cell.okWide at h
  rw [hu] at h
  cases v with
  | agg cs => simp [Cell.ok, hu] at h
  | _ => rfl
set_option maxRecDepth 100000 in
theorem contract (H : Type) (enc : TypeId × Value → H) (W : World) (base : Nat) (args : Array Value) (ds gs : List (DataW H)) (before : List MemPlace)
    (hval : ∀ (j : Nat) t v, Tryz.f3.params[j]? = some t → args[j]? = some v → Value.okWide Tryz.prog W .any base t v)
    (hW : DataW.Whole enc Tryz.prog Tryz.f3.params.toList Rows.protocolTalksSpec.vars false W args.toList ds gs before)
    (hz : (DataW.weightsEach Tryz.prog Tryz.f3.params.toList ds).all (· ≤ reachBytes) = true)
    (hL : laidMetH Tryz.prog Rows.protocolTalksRow.laid W) (hS : W.ShapedOpen Tryz.prog) :
    Calls Tryz.prog 3 args W fun e W' => ∃ v, e = .returned v ∧ Rows.protocolTalksSpec.post enc Tryz.prog Tryz.f3 false true false false W args v W' := by
  have hW' := hW
  obtain ⟨p, q, hA0, hV, rfl, hfz, hnd⟩ := hW
  have hA : DataW.TrodAll enc Tryz.prog W 0 (fun _ => true) true Tryz.f3.params.toList args.toList ds p := hA0
  obtain ⟨rfl, rfl⟩ := trodVars_none hV
  rw [Tryz.params3] at hA hval hz
  obtain ⟨v0, v1, v2, d0, d1, d2, p0, p1, p2, rfl, rfl, rfl, ⟨n0, t0⟩, ⟨n1, t1⟩, ⟨n2, t2⟩⟩ := trodAll_three hA
  obtain ⟨a0, rfl⟩ := agg_of s24 (hval 0 24 v0 rfl rfl)
  obtain ⟨a1, rfl⟩ := agg_of s26 (hval 1 26 v1 rfl rfl)
  have hc2 := slice_val u27 (hval 2 27 v2 rfl rfl)
  rw [hc2] at t2
  obtain ⟨ph, pl, st, O, bo, co, e0, hO⟩ := talk_of t0
  obtain ⟨k, tx, N, bv, cv, e1, hN, hw1⟩ := line_of t1
  obtain ⟨ls, bl, cl, e2, hls, hw2, hw3⟩ := lines_of t2
  have hzz : ∀ z ∈ DataW.weightsEach Tryz.prog [24, 26, 27] [d0, d1, d2], z ≤ reachBytes := fun z hz' => by simpa using List.all_eq_true.1 hz z hz'
  have hb1 : tx.length ≤ reachBytes := hzz _ (by
    rw [DataW.weightsEach, DataW.weightsEach]
    exact List.mem_append_right _ (List.mem_append_left _ hw1))
  have hb2 : ∀ y ∈ ls, y.tx.length ≤ reachBytes := fun y hy => hzz _ (by
    rw [DataW.weightsEach, DataW.weightsEach, DataW.weightsEach]
    exact List.mem_append_right _ (List.mem_append_right _ (List.mem_append_left _ (hw2 y hy))))
  have hR : reachBytes ≤ 140737488355328 := by decide
  obtain ⟨ca, hca⟩ := awake_body
  obtain ⟨cl', hcl⟩ := law_body
  have hfirst := first hL hS
  have hF := talks_fn (Q := worldsOf Tryz.prog H0) (g0 := W.heap.size) (J := jA PP W) (ph := ph) (pl := pl) (st := st) (k := k) (tx := tx) (ls := ls)
    (fun J => Fn.closed (K := kx (worldsOf Tryz.prog H0) W.heap.size) (H0 := H0) rfl Tryz.func4 hca (fun _ _ h => h) (fun w h => closed_calls (pf_of mix num) Tryz.func4 hca h awakeRun))
    (gl_first hL hS) hO.r hN.r hls (by omega) (fun y hy => by have := hb2 y hy; omega) (by have hml : maxLen = 9223372036854775807 := (by decide); omega)
  have hrel : LRel (mpA PP W) [talkV ph pl st (.slice bo O.length co), lineV k tx (.slice bv N.length cv), .slice bl ls.length cl] (#[Value.agg a0, Value.agg a1, v2] : Array Value).toList := by
    have r0 : VRel (mpA PP W) (talkV ph pl st (.slice bo O.length co)) (.agg a0) := by
      have := VRel.agg' (μ := mpA PP W) (l := a0.toList.map (absV PP W)) (l' := a0.toList) ⟨by simp, fun i v v' x y => by
        rw [List.getElem?_map, y] at x; injection x with x; subst x; exact absV_rel v'⟩
      rw [show a0.toList.map (absV PP W) = _ from e0] at this
      exact this
    have r1 : VRel (mpA PP W) (lineV k tx (.slice bv N.length cv)) (.agg a1) := by
      have := VRel.agg' (μ := mpA PP W) (l := a1.toList.map (absV PP W)) (l' := a1.toList) ⟨by simp, fun i v v' x y => by
        rw [List.getElem?_map, y] at x; injection x with x; subst x; exact absV_rel v'⟩
      rw [show a1.toList.map (absV PP W) = _ from e1] at this
      exact this
    have r2 : VRel (mpA PP W) (.slice bl ls.length cl) v2 := by
      have e2' : absV PP W v2 = .slice bl ls.length cl := by simpa using e2
      rw [← e2']; exact absV_rel v2
    exact .cons r0 (.cons r1 (.cons r2 (.nil _)))
  refine (open_calls (K := kx (worldsOf Tryz.prog H0) W.heap.size) (w := W) (b := true) ⟨hfirst, hfirst.inB⟩ rfl Tryz.func3 hcl hrel hF).mono fun e W' hq => ?_
  obtain ⟨he, hb⟩ := hq
  subst he
  exact ⟨_, rfl, post_open hW' hb laidOut readables rfl rfl rfl (fun _ _ _ => trodAll_cons_mk (shut_bool Tryz.underlying4 _) trodAll_mk0)⟩
/-- a world for the witness -/
noncomputable def laidWorld (os : Os) : World := World.doorLaid Tryz.prog 400 os
def args0 : Array Value := #[.agg #[.int .i64 0, .int .i64 0, .int .i64 0, .slice none 0 0], .agg #[.int .i64 0, .string .empty, .slice none 0 0], .slice none 0 0]
def data0 {H : Type} : List (DataW H) := [.agg [.lit (.int .i64 0), .lit (.int .i64 0), .lit (.int .i64 0), .nil], .agg [.lit (.int .i64 0), .lit (.string []), .nil], .nil]
theorem laid_met (os : Os) : laidMetH Tryz.prog Rows.protocolTalksRow.laid ((laidWorld os).forCall (fun _ _ => 0) ⟨#[], args0, []⟩).memory :=
  laidMetH_of_parts3 (fuel := 8) (laidMet_of_run' 8 (by kernel_rfl) (by kernel_rfl)) (by kernel_rfl) (by kernel_rfl)
theorem reads (os : Os) {H : Type} (enc : TypeId × Value → H) : ∃ places, DataW.whole enc Tryz.prog ((laidWorld os).forCall (fun _ _ => 0) ⟨#[], args0, []⟩).memory Tryz.f3.params.toList Rows.protocolTalksSpec.vars false args0.toList 8 = some (data0, [], places) :=
  ⟨[], by kernel_rfl⟩
set_option maxRecDepth 100000 in
theorem lifted (os : Os) (started : os.Started) (H : Type) (enc : TypeId × Value → H) (F : Stop.Interp) :
    ReturnsInHanded {} Tryz.checked os 3 .any ((OpenSpec.ofChange Rows.protocolTalksSpec).preRow enc Tryz.prog Tryz.f3 Rows.protocolTalksRow.domain false Rows.protocolTalksRow.laid) (((OpenSpec.ofChange Rows.protocolTalksSpec).at F).post enc Tryz.prog Tryz.f3 false true false false) := by
  obtain ⟨places, hx⟩ := reads os enc
  refine returnsInHanded_of_row (C := Tryz.checked) (s := OpenSpec.ofChange Rows.protocolTalksSpec) own started (by kernel_rfl) Tryz.func3
    (witness_row_at (enc := enc) (C := Tryz.checked) false (laidWorld os) args0 rfl (by kernel_rfl) (by kernel_rfl) (by kernel_rfl)
      (OpenSpec.preRow_of_cond 8 hx (by kernel_rfl) (fun k hk => by cases hk) (by kernel_rfl) (laid_met os))) ?_
  intro W base args ds gs before hval hW _ _ hz hL hS _
  have hg : gs = [] := by
    obtain ⟨p, q, _, hV, _⟩ := hW
    exact (trodVars_none hV).1
  subst hg
  refine contract H enc W base args ds [] before hval hW ?_ hL hS
  have hvt : (OpenSpec.ofChange Rows.protocolTalksSpec).bare.plain.varTypes Tryz.checked.prog = [] := by kernel_rfl
  rw [hvt, List.append_nil, List.append_nil] at hz
  exact hz
theorem said : Rows.ProtocolTalksSaid :=
  OpenClaim.holds_of_cond 3 Tryz.f3 rfl rfl rfl rfl rfl rfl rfl ⟨rfl, rfl, rfl, rfl, rfl⟩ rfl rfl rfl rfl rfl (by kernel_rfl) Tryz.func3 (by kernel_rfl)
    (of_decide_eq_true (by kernel_rfl)) (by unfold Func.isWrapper; first | (rw [if_pos (by decide +kernel)]; kernel_rfl) | (rw [if_neg (by decide +kernel)]; exact ⟨rfl, rfl⟩))
    (fun os started H enc _ F => by rw [OpenClaim.pre_eq_preRow]; exact lifted os started H enc F)
theorem stand24 : Tryz.prog.wantsStandIn 24 = false := by kernel_rfl
theorem stand26 : Tryz.prog.wantsStandIn 26 = false := by kernel_rfl
theorem stand27 : Tryz.prog.wantsStandIn 27 = false := by kernel_rfl
theorem plainly (f : FuncId) (fn : Func) (hf : Tryz.pinned.checked.prog.funcNamed "parlour/parlourlaw36.ProtocolTalks" = some f) (hfn : Tryz.pinned.checked.prog.funcs[f]? = some fn) :
    true = Tryz.pinned.checked.prog.looks [] ∧ ∀ (j : Nat) t, fn.params[j]? = some t → Tryz.pinned.checked.prog.wantsStandIn t = false := by
  obtain rfl : f = 3 := Option.some.inj ((show Tryz.prog.funcNamed "parlour/parlourlaw36.ProtocolTalks" = some 3 by kernel_rfl).symm.trans hf) |>.symm
  obtain rfl : fn = Tryz.f3 := (Option.some.inj (Tryz.func3.symm.trans hfn)).symm
  refine ⟨by kernel_rfl, fun j t ht => ?_⟩
  rw [Tryz.params3] at ht
  match j, ht with
  | 0, ht => simp at ht; subst ht; exact stand24
  | 1, ht => simp at ht; subst ht; exact stand26
  | 2, ht => simp at ht; subst ht; exact stand27
  | j + 3, ht => simp at ht
theorem card : Rows.ProtocolTalksCardSaid :=
  Claim7.holds_tied_plain_at .later [] _ _ _ _ said (fun _ h => by cases h) (by kernel_rfl) (fun _ h => by cases h) protocolTalks_row_tie rfl ⟨rfl, rfl⟩ (by kernel_rfl) rfl plainly (by kernel_rfl)
end Go.Opn
namespace Go.Proofs.YtobdmheahedahaaGreatDoor
/-- the card -/
theorem openProtocolTalks : Rows.ProtocolTalksCardSaid := Go.Opn.card
end Go.Proofs.YtobdmheahedahaaGreatDoor

/- The law ResumeSaves returns true, whatever its arguments, and they read afterwards as before: the card of ResumeSaves. Conditions: none beyond the row's own; the listed variables are as the program's text lays them (the tie is given). -/
import Derived.Test.YtmeojgcibppcmaaDoorCreZ
import Derived.Test.YtmeojgcibppcmaaDoorProg
import Derived.KernelRfl
import Derived.Test.YtmeojgcibppcmaaDoorRye
import Derived.Test.YtmeojgcibppcmaaDoorOpnW
import Derived.Test.YtmeojgcibppcmaaDoorOpnT
import Derived.Test.YtmeojgcibppcmaaDoorTrydShelf
import Derived.Test.YtmeojgcibppcmaaDoorCards
import Derived.Test.YtmeojgcibppcmaaDoorTie
import Derived.WalkKit
import Derived.ProofKit
import Derived.OpenShut
import Derived.Deep.DeepHandedRow
import Derived.Lib.LaidTab
import Derived.LaidHandle
import Derived.LaidMore
import Derived.Stop.LaidErr
set_option maxRecDepth 100000
namespace Go.Opn
open Go Go.Cre Go.RowKit Go.Proofs
def nums0 : List Int := [0, 1, 28, 2, 29, 14, 24, 3, 30, 22, 20, 15, 25, 17, 4, 8, 31, 27, 13, 23, 21, 19, 16, 7, 26, 12, 18, 6, 11, 5, 10, 9]
def cells0 : List Value := nums0.map fun z => Value.int .u8 z
def nums1 : List Int := [0, 1, 56, 2, 57, 49, 28, 3, 61, 58, 42, 50, 38, 29, 17, 4, 62, 47, 59, 36, 45, 43, 51, 22, 53, 39, 33, 30, 24, 18, 12, 5, 63, 55, 48, 27, 60, 41, 37, 16, 46, 35, 44, 21, 52, 32, 23, 11, 54, 26, 40, 15, 34, 20, 31, 10, 25, 14, 19, 9, 13, 8, 7, 6]
def cells1 : List Value := nums1.map fun z => Value.int .u8 z
def nums2 : List Int := [1, 10, 100, 1000, 10000, 100000, 1000000, 10000000, 100000000, 1000000000, 10000000000, 100000000000, 1000000000000, 10000000000000, 100000000000000, 1000000000000000, 10000000000000000, 100000000000000000, 1000000000000000000, 10000000000000000000]
def cells2 : List Value := nums2.map fun z => Value.int .u64 z
def tabs : List (Nat × TypeId × List Value) := [(1, 154, cells0), (2, 155, cells1), (0, 148, cells2)]
noncomputable def H0 : Hp := firstHp 3 3 tabs
theorem livesRun : isTrue ((evs Tryd.prog (ftOf Tryd.prog) 10000).body 4 [] false .run H0) = true := by kernel_rfl
end Go.Opn
set_option linter.unusedVariables false
namespace Go.Opn
open Go Go.Cre Go.RowKit Go.Proofs Go.ChangeShapes Go.WideShapes Go.ChangeAt
open Go.Proofs.YtmeojgcibppcmaaDoor
noncomputable abbrev PP := Tryd.prog
theorem u3 : PP.underlying 3 = some (.int .i64) := by kernel_rfl
theorem u9 : PP.underlying 9 = some .string := by kernel_rfl
theorem u22 : PP.underlying 22 = some (.slice 40) := by kernel_rfl
theorem u23 : PP.underlying 23 = some (.slice 51) := by kernel_rfl
theorem u26 : PP.underlying 26 = some (.slice 38) := by kernel_rfl
theorem u38 : PP.underlying 38 = some (.slice 3) := by kernel_rfl
theorem c3 : PP.cellsOf 3 = 1 := by kernel_rfl
theorem c22 : PP.cellsOf 22 = 1 := by kernel_rfl
theorem c23 : PP.cellsOf 23 = 1 := by kernel_rfl
theorem c26 : PP.cellsOf 26 = 1 := by kernel_rfl
theorem c38 : PP.cellsOf 38 = 1 := by kernel_rfl
theorem c25 : PP.cellsOf 25 = 3 := by kernel_rfl
theorem c28 : PP.cellsOf 28 = 4 := by kernel_rfl
theorem c40 : PP.cellsOf 40 = 6 := by kernel_rfl
theorem c51 : PP.cellsOf 51 = 2 := by kernel_rfl
theorem s25 : structN PP 25 = some 3 := by kernel_rfl
theorem s28 : structN PP 28 = some 4 := by kernel_rfl
theorem s40 : structN PP 40 = some 6 := by kernel_rfl
theorem s51 : structN PP 51 = some 2 := by kernel_rfl
theorem f25_0 : fieldT PP 25 0 = some (3, 0) := by kernel_rfl
theorem f25_1 : fieldT PP 25 1 = some (22, 1) := by kernel_rfl
theorem f25_2 : fieldT PP 25 2 = some (23, 2) := by kernel_rfl
theorem f28_0 : fieldT PP 28 0 = some (3, 0) := by kernel_rfl
theorem f28_1 : fieldT PP 28 1 = some (3, 1) := by kernel_rfl
theorem f28_2 : fieldT PP 28 2 = some (26, 2) := by kernel_rfl
theorem f28_3 : fieldT PP 28 3 = some (26, 3) := by kernel_rfl
theorem f40_0 : fieldT PP 40 0 = some (3, 0) := by kernel_rfl
theorem f40_1 : fieldT PP 40 1 = some (3, 1) := by kernel_rfl
theorem f40_2 : fieldT PP 40 2 = some (3, 2) := by kernel_rfl
theorem f40_3 : fieldT PP 40 3 = some (38, 3) := by kernel_rfl
theorem f40_4 : fieldT PP 40 4 = some (38, 4) := by kernel_rfl
theorem f40_5 : fieldT PP 40 5 = some (38, 5) := by kernel_rfl
theorem f51_0 : fieldT PP 51 0 = some (3, 0) := by kernel_rfl
theorem f51_1 : fieldT PP 51 1 = some (3, 1) := by kernel_rfl
section
variable {H : Type} {enc : TypeId × Value → H} {W : World} {fuel : Nat} {cs : List Value} {x : DataW H × List MemPlace}
theorem len6 {α : Type} {l : List α} (h : l.length = 6) : ∃ a b c d e f, l = [a, b, c, d, e, f] := by
 match l, h with
 | [a, b, c, d, e, f], _ => exact ⟨a, b, c, d, e, f, rfl⟩
theorem len4 {α : Type} {l : List α} (h : l.length = 4) : ∃ a b c d, l = [a, b, c, d] := by
 match l, h with
 | [a, b, c, d], _ => exact ⟨a, b, c, d, rfl⟩
theorem len3 {α : Type} {l : List α} (h : l.length = 3) : ∃ a b c, l = [a, b, c] := by
 match l, h with
 | [a, b, c], _ => exact ⟨a, b, c, rfl⟩
theorem len2 {α : Type} {l : List α} (h : l.length = 2) : ∃ a b, l = [a, b] := by
 match l, h with
 | [a, b], _ => exact ⟨a, b, rfl⟩
theorem node_of (h : trodA enc PP W fuel 40 cs = some x) : ∃ a : Nd, NdR (jA PP W) a (cs.map (absV PP W)) := by
 obtain ⟨n, h1, h2⟩ := struct_of s40 h; rw [c40] at h1; obtain ⟨v0, v1, v2, v3, v4, v5, rfl⟩ := len6 h1; obtain ⟨y0, g0, _⟩ := h2 0 3 0 1 (by omega) f40_0 c3; obtain ⟨y1, g1, _⟩ := h2 1 3 1 1 (by omega) f40_1 c3; obtain ⟨y2, g2, _⟩ := h2 2 3 2 1 (by omega) f40_2 c3; obtain ⟨y3, g3, _⟩ := h2 3 38 3 1 (by omega) f40_3 c38; obtain ⟨y4, g4, _⟩ := h2 4 38 4 1 (by omega) f40_4 c38; obtain ⟨y5, g5, _⟩ := h2 5 38 5 1 (by omega) f40_5 c38; obtain ⟨i0, _, e0⟩ := int_of u3 g0; obtain ⟨i1, _, e1⟩ := int_of u3 g1; obtain ⟨i2, _, e2⟩ := int_of u3 g2; obtain ⟨l3, b3, c3', e3, k3⟩ := ints_of u38 u3 c3 g3; obtain ⟨l4, b4, c4', e4, k4⟩ := ints_of u38 u3 c3 g4; obtain ⟨l5, b5, c5', e5, k5⟩ := ints_of u38 u3 c3 g5; simp at e0 e1 e2 e3 e4 e5; exact ⟨⟨i0, i1, i2, l3, l4, l5⟩, b3, c3', b4, c4', b5, c5', by simp [e0, e1, e2, e3, e4, e5], ⟨3, k3 3⟩, ⟨3, k4 3⟩, ⟨3, k5 3⟩⟩
theorem info_of (h : trodA enc PP W fuel 51 cs = some x) : ∃ a : Int × Int, InR a (cs.map (absV PP W)) := by
 obtain ⟨n, h1, h2⟩ := struct_of s51 h; rw [c51] at h1; obtain ⟨v0, v1, rfl⟩ := len2 h1; obtain ⟨y0, g0, _⟩ := h2 0 3 0 1 (by omega) f51_0 c3; obtain ⟨y1, g1, _⟩ := h2 1 3 1 1 (by omega) f51_1 c3; obtain ⟨i0, _, e0⟩ := int_of u3 g0; obtain ⟨i1, _, e1⟩ := int_of u3 g1; simp at e0 e1; exact ⟨(i0, i1), by unfold InR; simp [e0, e1]⟩
theorem list_of (h : trodA enc PP W fuel 38 cs = some x) : ∃ l : List Int, LsR (jA PP W) l (cs.map (absV PP W)) := by
 obtain ⟨l, b, c, e, k⟩ := ints_of u38 u3 c3 h; exact ⟨l, b, c, e, ⟨3, k 3⟩⟩
theorem game_of (h : trodA enc PP W fuel 25 cs = some x) : ∃ (g : Gm) (bn : Option Addr) (cn : Nat) (bi : Option Addr) (ci : Nat), cs.map (absV PP W) = gC g bn cn bi ci ∧ GmR (jA PP W) g bn cn bi ci ∧ g.ns.length ≤ maxLen := by
 obtain ⟨n, h1, h2⟩ := struct_of s25 h; rw [c25] at h1; obtain ⟨v0, v1, v2, rfl⟩ := len3 h1; obtain ⟨y0, g0, _⟩ := h2 0 3 0 1 (by omega) f25_0 c3; obtain ⟨y1, g1, _⟩ := h2 1 22 1 1 (by omega) f25_1 c22; obtain ⟨y2, g2, _⟩ := h2 2 23 2 1 (by omega) f25_2 c23; obtain ⟨i0, _, e0⟩ := int_of u3 g0; obtain ⟨ns, bn, cn, e1, k1, k1'⟩ := elems_of (R := NdR (jA PP W)) u22 c40 (by omega) g1 (fun _ _ _ q => node_of q); obtain ⟨is_, bi, ci, e2, k2, k2'⟩ := elems_of (R := InR) u23 c51 (by omega) g2 (fun _ _ _ q => info_of q); simp at e0 e1 e2; exact ⟨⟨i0, ns, is_⟩, bn, cn, bi, ci, by simp [e0, e1, e2], ⟨k1, k2⟩, k1'⟩
theorem td_of (h : trodA enc PP W fuel 28 cs = some x) : ∃ (t : Td) (bs : Option Addr) (c1 : Nat) (bp : Option Addr) (c2 : Nat), cs.map (absV PP W) = tC t bs c1 bp c2 ∧ TdR (jA PP W) t bs c1 bp c2 ∧ t.sum.length ≤ maxLen ∧ t.pl.length ≤ maxLen := by
 obtain ⟨n, h1, h2⟩ := struct_of s28 h; rw [c28] at h1; obtain ⟨v0, v1, v2, v3, rfl⟩ := len4 h1; obtain ⟨y0, g0, _⟩ := h2 0 3 0 1 (by omega) f28_0 c3; obtain ⟨y1, g1, _⟩ := h2 1 3 1 1 (by omega) f28_1 c3; obtain ⟨y2, g2, _⟩ := h2 2 26 2 1 (by omega) f28_2 c26; obtain ⟨y3, g3, _⟩ := h2 3 26 3 1 (by omega) f28_3 c26; obtain ⟨i0, _, e0⟩ := int_of u3 g0; obtain ⟨i1, _, e1⟩ := int_of u3 g1; obtain ⟨l2, b2, c2', e2, k2, k2'⟩ := elems_of (R := LsR (jA PP W)) u26 c38 (by omega) g2 (fun _ _ _ q => list_of q); obtain ⟨l3, b3, c3', e3, k3, k3'⟩ := elems_of (R := LsR (jA PP W)) u26 c38 (by omega) g3 (fun _ _ _ q => list_of q); simp at e0 e1 e2 e3; exact ⟨⟨i0, i1, l2, l3⟩, b2, c2', b3, c3', by simp [e0, e1, e2, e3], ⟨k2, k3⟩, k2', k3'⟩
end
theorem agg_of {P : Program} {W : World} {base : Nat} {t : TypeId} {v : Value} {k : Nat} (hk : structN P t = some k) (h : Value.okWide P W .any base t v) : ∃ cs, v = .agg cs := by
 unfold structN at hk; split at hk
 ·
  rename_i fs hu; unfold Value.okWide at h; rw [hu] at h; obtain ⟨cs, q, _⟩ := h; exact ⟨cs, q⟩
 ·
  cases hk
theorem str_val {P : Program} {W : World} {base : Nat} {t : TypeId} {v : Value} (hu : P.underlying t = some .string) (h : Value.okWide P W .any base t v) : v.cells.toList = [v] := by
 unfold Value.okWide at h; rw [hu] at h; simp only at h; unfold Cell.okWide at h; rw [hu] at h; cases v with
 | agg cs => simp [Cell.ok, hu] at h
 | _ => rfl
theorem below_grow (w : World) (k : Nat) (os : Array Obj) : Below w.heap.size w (Go.Sort.grow (w.drewN k) os) := by
 have hd : ∀ (k : Nat) (w : World), (w.drewN k).os = w.os ∧ (w.drewN k).tape = w.tape ∧ (w.drewN k).output = w.output ∧ (w.drewN k).heap = w.heap := by
  intro k; induction k with
  | zero => intro w; exact ⟨rfl, rfl, rfl, rfl⟩
  | succ k ih => intro w; exact ih w.drew
 obtain ⟨h1, h2, h3, h4⟩ := hd k w; refine ⟨h1, h2, h3, ?_, fun i hi => ?_⟩
 ·
  show w.heap.size ≤ ((w.drewN k).heap ++ os).size; rw [h4, Array.size_append]; omega
 ·
  show ((w.drewN k).heap ++ os)[i]? = _; rw [h4, Array.getElem?_append_left hi]
theorem gPow : Tryd.prog.globalNamed "internal/strconv.uint64pow10" = some 0 := by kernel_rfl
theorem pow_tab {w : World} (h : Laid Tryd.prog w H0) : Lib.TabIs Tryd.prog w "internal/strconv.uint64pow10" .u64 Lib.pow10Tab := by
 rcases h.rows 0 (.row cells2 148 false 0 farFz true) (by kernel_rfl) with q | ⟨cells, e, f, q1, _, q3, _, _⟩
 ·
  cases q
 ·
  injection q1 with q1 _
  subst q1; show w.var? Tryd.prog _ = _; unfold World.var?; rw [gPow]; show (match w.heap[0]? with | some (.cells cs _ _) => some cs | _ => none) = _
  rw [q3]; rfl
theorem itoaOk {g0 : Nat} : ItoaOk (worldsOf Tryd.prog H0) g0 := fun n J h0 h1 => by
 obtain ⟨c, hc⟩ : ∃ c, Tryd.f38.body = some c := ⟨_, rfl⟩; exact Fn.of_calls (K := kx (worldsOf Tryd.prog H0) g0) (R := fun v' => v' = .string ⟨⟨Lib.itoa n⟩⟩) rfl Tryd.func38 hc (fun μ v' h => by subst h; exact .atom _ rfl) (fun B w0 w hQ hk =>
  (Tryd.strconv_Itoa n h0 h1 w (pow_tab (hQ.1.keep hQ.2 hk))).mono fun e w' ⟨he, k, os, hw⟩ => ⟨⟨_, he, rfl⟩, hw ▸ below_grow w k os⟩)
open Go.Proofs.YtmeojgcibppcmaaDoor
theorem own : ownKnob Tryd.prog.godebug = none := by kernel_rfl
theorem gTab0 : Tryd.prog.globalNamed "math/bits.deBruijn32tab" = some 1 := by kernel_rfl
theorem gType0 : (Tryd.prog.globals[1]?).map (·.type) = some 154 := by kernel_rfl
theorem gUnd0 : Tryd.prog.underlying 154 = some (.array 32 5) := by kernel_rfl
theorem gEl0 : Tryd.prog.underlying 5 = some (.int .u8) := by kernel_rfl
theorem gOne0 : Tryd.prog.cellsOf 5 = 1 := by kernel_rfl
theorem gAll0 : Tryd.prog.cellsOf 154 = 32 := by kernel_rfl
theorem gRow0 : (((begin Tryd.prog (fun _ _ => 0) default).world.heap[1]?).bind Obj.row?).map (·.2) = some 154 := by kernel_rfl
theorem gLt0 : 1 < Tryd.prog.globals.size := by decide +kernel
theorem gTab1 : Tryd.prog.globalNamed "math/bits.deBruijn64tab" = some 2 := by kernel_rfl
theorem gType1 : (Tryd.prog.globals[2]?).map (·.type) = some 155 := by kernel_rfl
theorem gUnd1 : Tryd.prog.underlying 155 = some (.array 64 5) := by kernel_rfl
theorem gEl1 : Tryd.prog.underlying 5 = some (.int .u8) := by kernel_rfl
theorem gOne1 : Tryd.prog.cellsOf 5 = 1 := by kernel_rfl
theorem gAll1 : Tryd.prog.cellsOf 155 = 64 := by kernel_rfl
theorem gRow1 : (((begin Tryd.prog (fun _ _ => 0) default).world.heap[2]?).bind Obj.row?).map (·.2) = some 155 := by kernel_rfl
theorem gLt1 : 2 < Tryd.prog.globals.size := by decide +kernel
theorem gTab2 : Tryd.prog.globalNamed "internal/strconv.uint64pow10" = some 0 := by kernel_rfl
theorem gType2 : (Tryd.prog.globals[0]?).map (·.type) = some 148 := by kernel_rfl
theorem gUnd2 : Tryd.prog.underlying 148 = some (.array 20 137) := by kernel_rfl
theorem gEl2 : Tryd.prog.underlying 137 = some (.int .u64) := by kernel_rfl
theorem gOne2 : Tryd.prog.cellsOf 137 = 1 := by kernel_rfl
theorem gAll2 : Tryd.prog.cellsOf 148 = 20 := by kernel_rfl
theorem gRow2 : (((begin Tryd.prog (fun _ _ => 0) default).world.heap[0]?).bind Obj.row?).map (·.2) = some 148 := by kernel_rfl
theorem gLt2 : 0 < Tryd.prog.globals.size := by decide +kernel
theorem tables {W : World} (h : laidMetH Tryd.prog Rows.resumeSavesRow.laid W) : Lib.TabIs Tryd.prog W "math/bits.deBruijn32tab" .u8 nums0 ∧ Lib.TabIs Tryd.prog W "math/bits.deBruijn64tab" .u8 nums1 ∧ Lib.TabIs Tryd.prog W "internal/strconv.uint64pow10" .u64 nums2 := by
 have h0 : laidMet Tryd.prog [("math/bits.deBruijn32tab", Lib.tabData .u8 nums0), ("math/bits.deBruijn64tab", Lib.tabData .u8 nums1), ("internal/strconv.uint64pow10", Lib.tabData .u64 nums2)] W := h; have h1 := laidMet.tail h0; have h2 := laidMet.tail h1; exact ⟨Lib.tabIs_of_head gTab0 gType0 gUnd0 gEl0 gOne0 gAll0 h0, Lib.tabIs_of_head gTab1 gType1 gUnd1 gEl1 gOne1 gAll1 h1, Lib.tabIs_of_head gTab2 gType2 gUnd2 gEl2 gOne2 gAll2 h2⟩
theorem first {W : World} (h : laidMetH Tryd.prog Rows.resumeSavesRow.laid W) (hs : W.ShapedOpen Tryd.prog) : Laid Tryd.prog W H0 := by
 refine laid_of fun g e cells hm => ?_; have ht := tables h; simp only [tabs, List.mem_cons, Prod.mk.injEq, List.not_mem_nil, or_false] at hm; rcases hm with ⟨rfl, rfl, rfl⟩ | ⟨rfl, rfl, rfl⟩ | ⟨rfl, rfl, rfl⟩
 ·
  exact ⟨by decide, laid_row gTab0 gLt0 gRow0 hs (ht.1), by kernel_rfl, by decide +kernel⟩
 ·
  exact ⟨by decide, laid_row gTab1 gLt1 gRow1 hs (ht.2.1), by kernel_rfl, by decide +kernel⟩
 ·
  exact ⟨by decide, laid_row gTab2 gLt2 gRow2 hs (ht.2.2), by kernel_rfl, by decide +kernel⟩
theorem lives_body : ∃ c, Tryd.f4.body = some c := ⟨_, rfl⟩
theorem law_body : ∃ c, Tryd.f3.body = some c := ⟨_, rfl⟩
theorem laidOut : laidOutB Tryd.prog = true := by kernel_rfl
theorem readables : ∀ t ∈ Tryd.f3.params.toList, PP.readableRec t = true ∧ t < PP.types.size := by
 intro t ht; rw [Tryd.params3] at ht; simp only [List.mem_cons, List.not_mem_nil, or_false] at ht; rcases ht with rfl | rfl | rfl
 ·
  exact ⟨by kernel_rfl, of_decide_eq_true (by kernel_rfl)⟩
 ·
  exact ⟨by kernel_rfl, of_decide_eq_true (by kernel_rfl)⟩
 ·
  exact ⟨by kernel_rfl, of_decide_eq_true (by kernel_rfl)⟩
set_option maxRecDepth 100000 in
theorem contract (H : Type) (enc : TypeId × Value → H) (W : World) (base : Nat) (args : Array Value) (ds gs : List (DataW H)) (before : List MemPlace)
  (hval : ∀ (j : Nat) t v, Tryd.f3.params[j]? = some t → args[j]? = some v → Value.okWide Tryd.prog W .any base t v)
  (hW : DataW.Whole enc Tryd.prog Tryd.f3.params.toList Rows.resumeSavesSpec.vars false W args.toList ds gs before)
  (hz : (DataW.weightsEach Tryd.prog Tryd.f3.params.toList ds).all (· ≤ reachBytes) = true)
  (hL : laidMetH Tryd.prog Rows.resumeSavesRow.laid W) (hS : W.ShapedOpen Tryd.prog) :
  Calls Tryd.prog 3 args W fun e W' => ∃ v, e = .returned v ∧ Rows.resumeSavesSpec.post enc Tryd.prog Tryd.f3 false true false false W args v W' := by
 have hW' := hW; obtain ⟨p, q, hA0, hV, rfl, hfz, hnd⟩ := hW; have hA : DataW.TrodAll enc Tryd.prog W 0 (fun _ => true) true Tryd.f3.params.toList args.toList ds p := hA0; obtain ⟨rfl, rfl⟩ := trodVars_none hV; rw [Tryd.params3] at hA hval hz; obtain ⟨v0, v1, v2, d0, d1, d2, p0, p1, p2, rfl, rfl, rfl, ⟨n0, t0⟩, ⟨n1, t1⟩, ⟨n2, t2⟩⟩ := trodAll_three hA; obtain ⟨a0, rfl⟩ := agg_of s25 (hval 0 25 v0 rfl rfl); obtain ⟨a1, rfl⟩ := agg_of s28 (hval 1 28 v1 rfl rfl); have hc2 := str_val u9 (hval 2 9 v2 rfl rfl); rw [hc2] at t2; obtain ⟨g, bn, cn, bi, ci, e0, hg, hm1⟩ := game_of t0; obtain ⟨t, bs, cs, bp, cp, e1, ht, hm2, hm3⟩ := td_of t1; obtain ⟨s, e2, _, hw2⟩ := str_of u9 t2; obtain rfl : v2 = .string ⟨⟨s⟩⟩ := by simpa using e2
 have hzz : ∀ z ∈ DataW.weightsEach Tryd.prog [25, 28, 9] [d0, d1, d2], z ≤ reachBytes := fun z hz' => by simpa using List.all_eq_true.1 hz z hz'
 have hb2 : s.length ≤ reachBytes := hzz _ (by
  rw [DataW.weightsEach, DataW.weightsEach, DataW.weightsEach]; exact List.mem_append_right _ (List.mem_append_right _ (List.mem_append_left _ hw2)))
 have hR : reachBytes ≤ 140737488355328 := by decide
 have hml : maxLen = 9223372036854775807 := by decide
 obtain ⟨ca, hca⟩ := lives_body; obtain ⟨cl', hcl⟩ := law_body; have hfirst := first hL hS
 have hF := law_fn (Q := worldsOf Tryd.prog H0) (g0 := W.heap.size) (J := jA PP W) (g := g) (t := t) (s := s) itoaOk
  (fun J => Fn.closed (K := kx (worldsOf Tryd.prog H0) W.heap.size) (H0 := H0) rfl Tryd.func4 hca (fun _ _ h => h) (fun w h => closed_calls (pf_of mix num) Tryd.func4 hca h livesRun))
  hg ht (by omega) (by omega) (by omega) (by omega)
 have hrel : LRel (mpA PP W) [gV g bn cn bi ci, tV t bs cs bp cp, .string ⟨⟨s⟩⟩] (#[Value.agg a0, Value.agg a1, .string ⟨⟨s⟩⟩] : Array Value).toList := by
  have r0 : VRel (mpA PP W) (gV g bn cn bi ci) (.agg a0) := by
   have := VRel.agg' (μ := mpA PP W) (l := a0.toList.map (absV PP W)) (l' := a0.toList) ⟨by simp, fun i v v' x y => by
    rw [List.getElem?_map, y] at x; injection x with x; subst x; exact absV_rel v'⟩
   rw [show a0.toList.map (absV PP W) = _ from e0] at this; exact this
  have r1 : VRel (mpA PP W) (tV t bs cs bp cp) (.agg a1) := by
   have := VRel.agg' (μ := mpA PP W) (l := a1.toList.map (absV PP W)) (l' := a1.toList) ⟨by simp, fun i v v' x y => by
    rw [List.getElem?_map, y] at x; injection x with x; subst x; exact absV_rel v'⟩
   rw [show a1.toList.map (absV PP W) = _ from e1] at this; exact this
  exact .cons r0 (.cons r1 (.cons (.atom _ rfl) (.nil _)))
 refine (open_calls (K := kx (worldsOf Tryd.prog H0) W.heap.size) (w := W) (b := true) ⟨hfirst, hfirst.inB⟩ rfl Tryd.func3 hcl hrel hF).mono fun e W' hq => ?_; obtain ⟨he, hb⟩ := hq; subst he; exact ⟨_, rfl, post_open hW' hb laidOut readables rfl rfl rfl (fun _ _ _ => trodAll_cons_mk (shut_bool Tryd.underlying4 _) trodAll_mk0)⟩
noncomputable def laidWorld (os : Os) : World := World.doorLaid Tryd.prog 400 os
def args0 : Array Value := #[.agg #[.int .i64 0, .slice none 0 0, .slice none 0 0], .agg #[.int .i64 0, .int .i64 0, .slice none 0 0, .slice none 0 0], .string .empty]
def data0 {H : Type} : List (DataW H) := [.agg [.lit (.int .i64 0), .nil, .nil], .agg [.lit (.int .i64 0), .lit (.int .i64 0), .nil, .nil], .lit (.string [])]
theorem laid_met (os : Os) : laidMetH Tryd.prog Rows.resumeSavesRow.laid ((laidWorld os).forCall (fun _ _ => 0) ⟨#[], args0, []⟩).memory :=
 laidMetH_of_parts3 (fuel := 8) (laidMet_of_run' 8 (by kernel_rfl) (by kernel_rfl)) (by kernel_rfl) (by kernel_rfl)
theorem reads (os : Os) {H : Type} (enc : TypeId × Value → H) : ∃ places, DataW.whole enc Tryd.prog ((laidWorld os).forCall (fun _ _ => 0) ⟨#[], args0, []⟩).memory Tryd.f3.params.toList Rows.resumeSavesSpec.vars false args0.toList 8 = some (data0, [], places) :=
 ⟨[], by kernel_rfl⟩
set_option maxRecDepth 100000 in
theorem lifted (os : Os) (started : os.Started) (H : Type) (enc : TypeId × Value → H) (F : Stop.Interp) :
  ReturnsInHanded {} Tryd.checked os 3 .any ((OpenSpec.ofChange Rows.resumeSavesSpec).preRow enc Tryd.prog Tryd.f3 Rows.resumeSavesRow.domain false Rows.resumeSavesRow.laid) (((OpenSpec.ofChange Rows.resumeSavesSpec).at F).post enc Tryd.prog Tryd.f3 false true false false) := by
 obtain ⟨places, hx⟩ := reads os enc
 refine returnsInHanded_of_row (C := Tryd.checked) (s := OpenSpec.ofChange Rows.resumeSavesSpec) own started (by kernel_rfl) Tryd.func3
  (witness_row_at (enc := enc) (C := Tryd.checked) false (laidWorld os) args0 rfl (by kernel_rfl) (by kernel_rfl) (by kernel_rfl)
   (OpenSpec.preRow_of_cond 8 hx (by kernel_rfl) (fun k hk => by cases hk) (by kernel_rfl) (laid_met os))) ?_
 intro W base args ds gs before hval hW _ _ hz hL hS _; have hg : gs = [] := by
  obtain ⟨p, q, _, hV, _⟩ := hW; exact (trodVars_none hV).1
 subst hg; refine contract H enc W base args ds [] before hval hW ?_ hL hS; have hvt : (OpenSpec.ofChange Rows.resumeSavesSpec).bare.plain.varTypes Tryd.checked.prog = [] := by kernel_rfl
 rw [hvt, List.append_nil, List.append_nil] at hz; exact hz
theorem said : Rows.ResumeSavesSaid :=
 OpenClaim.holds_of_cond 3 Tryd.f3 rfl rfl rfl rfl rfl rfl rfl ⟨rfl, rfl, rfl, rfl, rfl⟩ rfl rfl rfl rfl rfl (by kernel_rfl) Tryd.func3 (by kernel_rfl)
  (of_decide_eq_true (by kernel_rfl)) (by unfold Func.isWrapper; first | (rw [if_pos (by decide +kernel)]; kernel_rfl) | (rw [if_neg (by decide +kernel)]; exact ⟨rfl, rfl⟩))
  (fun os started H enc _ F => by rw [OpenClaim.pre_eq_preRow]; exact lifted os started H enc F)
theorem stand25 : Tryd.prog.wantsStandIn 25 = false := by kernel_rfl
theorem stand28 : Tryd.prog.wantsStandIn 28 = false := by kernel_rfl
theorem stand9 : Tryd.prog.wantsStandIn 9 = false := by kernel_rfl
theorem plainly (f : FuncId) (fn : Func) (hf : Tryd.pinned.checked.prog.funcNamed "parlour/parlourlaw41.ResumeSaves" = some f) (hfn : Tryd.pinned.checked.prog.funcs[f]? = some fn) :
  true = Tryd.pinned.checked.prog.looks [] ∧ ∀ (j : Nat) t, fn.params[j]? = some t → Tryd.pinned.checked.prog.wantsStandIn t = false := by
 obtain rfl : f = 3 := Option.some.inj ((show Tryd.prog.funcNamed "parlour/parlourlaw41.ResumeSaves" = some 3 by kernel_rfl).symm.trans hf) |>.symm
 obtain rfl : fn = Tryd.f3 := (Option.some.inj (Tryd.func3.symm.trans hfn)).symm; refine ⟨by kernel_rfl, fun j t ht => ?_⟩; rw [Tryd.params3] at ht
 match j, ht with
 | 0, ht => simp at ht; subst ht; exact stand25
 | 1, ht => simp at ht; subst ht; exact stand28
 | 2, ht => simp at ht; subst ht; exact stand9
 | j + 3, ht => simp at ht
theorem card : Rows.ResumeSavesCardSaid :=
 Claim7.holds_tied_plain_at .later [] _ _ _ _ said (fun _ h => by cases h) (by kernel_rfl) (fun _ h => by cases h) resumeSaves_row_tie rfl ⟨rfl, rfl⟩ (by kernel_rfl) rfl plainly (by kernel_rfl)
end Go.Opn
namespace Go.Proofs.YtmeojgcibppcmaaDoor
/-- the card -/
theorem openResumeSaves : Rows.ResumeSavesCardSaid := Go.Opn.card
end Go.Proofs.YtmeojgcibppcmaaDoor

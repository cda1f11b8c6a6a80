/- The law ProtocolBack returns true, whatever its arguments, and they read afterwards as before: the card of ProtocolBack. Conditions: none beyond the row's own; the listed variables are as the program's text lays them (the tie is given). -/
import Derived.Test.YtaopiiohjbjgkaaGreatDoorBf
import Derived.Test.YtaopiiohjbjgkaaGreatDoorSn
import Derived.Test.YtaopiiohjbjgkaaGreatDoorTryzShelf
import Derived.Lib.ConvBytes
import Derived.Test.YtaopiiohjbjgkaaGreatDoorKd
import Derived.Test.YtaopiiohjbjgkaaGreatDoorOpnT
import Derived.Test.YtaopiiohjbjgkaaGreatDoorCreZ
import Derived.Test.YtaopiiohjbjgkaaGreatDoorCards
import Derived.Test.YtaopiiohjbjgkaaGreatDoorTie
import Derived.WalkKit
import Derived.ProofKit
import Derived.OpenShut
import Derived.Deep.DeepHandedRow
import Derived.Lib.LaidTab
import Derived.LaidHandle
import Derived.LaidMore
import Derived.Stop.LaidErr
set_option maxRecDepth 100000
set_option linter.unusedVariables false
set_option linter.unusedSimpArgs false
namespace Go.Opn
open Go Go.Cre Go.RowKit Go.Proofs
/-! ### The library's functions, by their contracts -/
def errOk (w : World) (g : Nat) : Prop := ∃ t p e f, w.heap[g]? = some (.cells #[.iface t p] e f)
theorem errOk.cell {w : World} {g : Nat} (h : errOk w g) : ∃ ev, w.cell? ⟨g, 0, none⟩ = some ev ∧ (ev = .nilIface ∨ ∃ te pe, ev = .iface te pe) := by
  obtain ⟨t, p, e, f, h⟩ := h
  exact ⟨.iface t p, by simp [World.cell?, h], .inr ⟨t, p, rfl⟩⟩
/-- the worlds that hold the listed variables -/
def QB : Worlds Tryz.prog where
  ok B w := (Laid Tryz.prog w H0 ∧ LaidIn H0 B) ∧ (B 4 ∧ errOk w 4) ∧ (B 5 ∧ errOk w 5)
  up B w0 Bx wx h hB hk := ⟨⟨h.1.1.keep h.1.2 hk, fun g b hg hb => hB g (h.1.2 g b hg hb)⟩, ⟨hB 4 h.2.1.1, by obtain ⟨t, p, e, f, q⟩ := h.2.1.2; exact ⟨t, p, e, f, (hk.block 4 h.2.1.1).trans q⟩⟩, ⟨hB 5 h.2.2.1, by obtain ⟨t, p, e, f, q⟩ := h.2.2.2; exact ⟨t, p, e, f, (hk.block 5 h.2.2.1).trans q⟩⟩⟩
theorem below_grow (w : World) (k : Nat) (os : Array Obj) : Below w.heap.size w (Go.Sort.grow (w.drewN k) os) := by
  have hd : ∀ (k : Nat) (w : World), (w.drewN k).os = w.os ∧ (w.drewN k).tape = w.tape ∧ (w.drewN k).output = w.output ∧ (w.drewN k).heap = w.heap := by
    intro k
    induction k with
    | zero => intro w; exact ⟨rfl, rfl, rfl, rfl⟩
    | succ k ih => intro w; exact ih w.drew
  obtain ⟨h1, h2, h3, h4⟩ := hd k w
  refine ⟨h1, h2, h3, ?_, fun i hi => ?_⟩
  · show w.heap.size ≤ ((w.drewN k).heap ++ os).size
    rw [h4, Array.size_append]; omega
  · show ((w.drewN k).heap ++ os)[i]? = _
    rw [h4, Array.getElem?_append_left hi]
theorem gPow : Tryz.prog.globalNamed "internal/strconv.uint64pow10" = some 2 := by kernel_rfl
theorem pow_tab {w : World} (h : Laid Tryz.prog w H0) : Lib.TabIs Tryz.prog w "internal/strconv.uint64pow10" .u64 Lib.pow10Tab := by
  rcases h.rows 2 (.row cells2 236 false 0 farFz true) (by kernel_rfl) with q | ⟨cells, e, f, q1, _, q3, _, _⟩
  · cases q
  · injection q1 with q1 _
    subst q1
    show w.var? Tryz.prog _ = _
    unfold World.var?
    rw [gPow]
    show (match w.heap[2]? with | some (.cells cs _ _) => some cs | _ => none) = _
    rw [q3]; rfl
theorem kept_ok {B : Nat → Prop} {w0 w : World} (h : QB.ok B w0) (hk : Kept B w0 w) : QB.ok B w := QB.up B w0 B w h (fun _ q => q) hk
theorem lb {g0 : Nat} : Lb QB g0 where
  itoa n J h0 h1 := by
    obtain ⟨c, hc⟩ : ∃ c, Tryz.f17.body = some c := ⟨_, rfl⟩
    exact Fn.of_calls (K := kx QB g0) (R := fun v' => v' = .string ⟨⟨Lib.itoa n⟩⟩) rfl Tryz.func17 hc (fun μ v' h => by subst h; exact .atom _ rfl) (fun B w0 w hQ hk =>
      (Tryz.strconv_Itoa n h0 h1 w (pow_tab (kept_ok hQ hk).1.1)).mono fun e w' ⟨he, k, os, hw⟩ => ⟨⟨_, he, rfl⟩, hw ▸ below_grow w k os⟩)
  atoiY s v J hs h := by
    obtain ⟨c, hc⟩ : ∃ c, Tryz.f68.body = some c := ⟨_, rfl⟩
    refine Fn.of_calls (K := kx QB g0) (R := fun v' => v' = .tuple #[.int .i64 v, .nilIface]) rfl Tryz.func68 hc (fun μ v' h => by subst h; exact VRel.tuple' (l := [.int .i64 v, .nilIface]) (l' := [.int .i64 v, .nilIface]) (.cons (.atom _ rfl) (.cons (.atom _ rfl) (.nil _)))) (fun B w0 w hQ hk =>
      (Tryz.strconv_Atoi_ok ⟨⟨s⟩⟩ (by show s.length ≤ _; omega) v h w).mono fun e w' ⟨he, hw⟩ => ⟨⟨_, he, rfl⟩, ?_⟩)
    rcases hw with rfl | ⟨t, rfl⟩
    · exact Below.refl _ _
    · exact Lib.bytesWorld_below _ _ _
  atoiN s J hs h := by
    obtain ⟨c, hc⟩ : ∃ c, Tryz.f68.body = some c := ⟨_, rfl⟩
    have key : ∀ (n : Int), (∀ B w0 w, QB.ok B w0 → Kept B w0 w → Calls Tryz.prog 68 #[.string ⟨⟨s⟩⟩] w fun e w' => ∃ N, e = .returned (.tuple #[.int .i64 n, .iface 245 (.pointer (some ⟨N, 0, none⟩))]) ∧ Below w.heap.size w w') → ∃ n t, Fn (kx QB g0) 68 [.string ⟨⟨s⟩⟩] [] J (Ret (.tuple #[.int .i64 n, .iface t (.chan none)]) J) := fun n hcl =>
      ⟨n, 245, Fn.of_calls (K := kx QB g0) (R := fun v' => ∃ N, v' = .tuple #[.int .i64 n, .iface 245 (.pointer (some ⟨N, 0, none⟩))]) rfl Tryz.func68 hc (fun μ v' ⟨N, h⟩ => by subst h; exact VRel.tuple' (l := [.int .i64 n, .iface 245 (.chan none)]) (l' := [.int .i64 n, .iface 245 (.pointer (some ⟨N, 0, none⟩))]) (.cons (.atom _ rfl) (.cons (.iface _ _ _ (.wild _ rfl)) (.nil _)))) (fun B w0 w hQ hk => (hcl B w0 w hQ hk).mono fun e w' ⟨N, he, hw⟩ => ⟨⟨_, he, N, rfl⟩, hw⟩)⟩
    cases hq : Lib.atoiAll s
    case ok v => exact absurd hq (h v)
    case range =>
      refine key (Lib.atoiSat s) fun B w0 w hQ hk => ?_
      obtain ⟨ev, e1, e2⟩ := (kept_ok hQ hk).2.2.2.cell
      exact (Tryz.strconv_Atoi_range ⟨⟨s⟩⟩ (by show s.length ≤ _; omega) hq ev w e1 e2).mono fun e w' ⟨N, he, _, _, hw⟩ => ⟨N, he, hw⟩
    refine key 0 fun B w0 w hQ hk => ?_
    obtain ⟨ev, e1, e2⟩ := (kept_ok hQ hk).2.1.2.cell
    have hC : Calls Tryz.prog 68 #[.string ⟨⟨s⟩⟩] w fun e w' => ∃ N, e = .returned (.tuple #[.int .i64 (0), .iface 245 (.pointer (some ⟨N, 0, none⟩))]) ∧ w.heap.size ≤ N ∧ w'.heap[N]? = some (.cells #[.string ⟨#[65, 116, 111, 105]⟩, .string ⟨⟨s⟩⟩, ev] 279 (0, 0)) ∧ Below w.heap.size w w' := Any.strconv_Atoi_syntax Tryz.laysC172 ⟨⟨s⟩⟩ (by show s.length ≤ _; omega) hq ev w e1 e2
    exact hC.mono fun e w' ⟨N, he, _, _, hw⟩ => ⟨N, he, hw⟩
  trim s p J := by
    obtain ⟨c, hc⟩ : ∃ c, Tryz.f69.body = some c := ⟨_, rfl⟩
    exact Fn.of_calls (K := kx QB g0) (R := fun v' => v' = .string ⟨⟨Lib.trimPrefix s p⟩⟩) rfl Tryz.func69 hc (fun μ v' h => by subst h; exact .atom _ rfl) (fun B w0 w hQ hk =>
      (Tryz.strings_TrimPrefix ⟨⟨s⟩⟩ ⟨⟨p⟩⟩ w).mono fun e w' ⟨he, hw⟩ => ⟨⟨_, he, rfl⟩, hw ▸ Below.refl _ _⟩)
  join ws v J hsl h0 h1 h2 := by
    obtain ⟨c, hc⟩ : ∃ c, Tryz.f18.body = some c := ⟨_, rfl⟩
    have e1 : (ws.map fun w => (⟨⟨w⟩⟩ : ByteArray)).map Value.string = strs ws := by rw [List.map_map]; rfl
    have e2 : (ws.map fun w => (⟨⟨w⟩⟩ : ByteArray)).map (·.data.toList) = ws := by rw [List.map_map]; exact List.map_id _
    refine Fn.of_callsS (K := kx QB g0) (e := 9) (ws := ws.map fun w => ⟨⟨w⟩⟩) rfl rfl (by simpa using h0) (by rw [e1, List.length_map]; exact hsl) Tryz.func18 hc (fun B w0 w hQ hk bk o c' hcell hlt hcap =>
      (Tryz.strings_Join bk o c' _ ⟨⟨[32]⟩⟩ w hcell hlt (by rw [List.length_map]; omega) hcap (by rw [e2]; show (Lib.join ws [32]).length ≤ _; omega)).mono fun e w' ⟨he, hw⟩ => ⟨?_, hw⟩)
    rw [he, e2]
  idx s c J := by
    obtain ⟨c', hc⟩ : ∃ c, Tryz.f112.body = some c := ⟨_, rfl⟩
    exact Fn.of_calls (K := kx QB g0) (R := fun v' => v' = .int .i64 (Lib.indexByte s c)) rfl Tryz.func112 hc (fun μ v' h => by subst h; exact .atom _ rfl) (fun B w0 w hQ hk =>
      (Tryz.stringslite_Index_one ⟨⟨s⟩⟩ c w).mono fun e w' ⟨he, hw⟩ => ⟨⟨_, he, rfl⟩, hw ▸ Below.refl _ _⟩)
end Go.Opn
set_option maxRecDepth 100000
set_option linter.unusedVariables false
namespace Go.Opn
open Go Go.Cre Go.RowKit Go.Proofs Go.ChangeShapes Go.WideShapes Go.ChangeAt
open Go.Proofs.YtaopiiohjbjgkaaGreatDoor
noncomputable abbrev PP := Tryz.prog
theorem u3 : PP.underlying 3 = some (.int .i64) := by kernel_rfl
theorem u9 : PP.underlying 9 = some .string := by kernel_rfl
theorem u22 : PP.underlying 22 = some (.slice 3) := by kernel_rfl
theorem c3 : PP.cellsOf 3 = 1 := by kernel_rfl
theorem c9 : PP.cellsOf 9 = 1 := by kernel_rfl
theorem c22 : PP.cellsOf 22 = 1 := by kernel_rfl
theorem c24 : PP.cellsOf 24 = 3 := by kernel_rfl
theorem s24 : structN PP 24 = some 3 := by kernel_rfl
theorem f24_0 : fieldT PP 24 0 = some (3, 0) := by kernel_rfl
theorem f24_1 : fieldT PP 24 1 = some (9, 1) := by kernel_rfl
theorem f24_2 : fieldT PP 24 2 = some (22, 2) := by kernel_rfl
section
variable {H : Type} {enc : TypeId × Value → H} {W : World} {fuel : Nat} {cs : List Value} {x : DataW H × List MemPlace}
theorem len3 {α : Type} {l : List α} (h : l.length = 3) : ∃ a b c, l = [a, b, c] := by
  match l, h with
  | [a, b, c], _ => exact ⟨a, b, c, rfl⟩
theorem line_of (h : trodA enc PP W fuel 24 cs = some x) : ∃ (k : Int) (tx : List UInt8) (N : List Int) (b : Option Addr) (c : Nat), cs.map (absV PP W) = [.int .i64 k, .string ⟨⟨tx⟩⟩, .slice b N.length c] ∧ IntsC (jA PP W) (.slice b N.length c) N ∧ tx.length ∈ x.1.weights PP 24 := by
  obtain ⟨n, h1, h2⟩ := struct_of s24 h
  rw [c24] at h1
  obtain ⟨v0, v1, v2, rfl⟩ := len3 h1
  obtain ⟨y0, g0, _⟩ := h2 0 3 0 1 (by omega) f24_0 c3
  obtain ⟨y1, g1, w1⟩ := h2 1 9 1 1 (by omega) f24_1 c9
  obtain ⟨y2, g2, _⟩ := h2 2 22 2 1 (by omega) f24_2 c22
  obtain ⟨k, _, e0⟩ := int_of u3 g0
  obtain ⟨tx, _, e1, hw⟩ := str_of u9 g1
  obtain ⟨N, b, c, e3, hN⟩ := ints_of u22 u3 c3 g2
  simp at e0 e1 e3
  exact ⟨k, tx, N, b, c, by simp [e0, e1, e3], hN 3, w1 _ hw⟩
end
theorem agg_of {P : Program} {W : World} {base : Nat} {t : TypeId} {v : Value} {k : Nat} (hk : structN P t = some k) (h : Value.okWide P W .any base t v) : ∃ cs, v = .agg cs := by
  unfold structN at hk
  split at hk
  · rename_i fs hu
    unfold Value.okWide at h
    rw [hu] at h
    obtain ⟨cs, q, _⟩ := h
    exact ⟨cs, q⟩
  · cases hk
theorem str_val {P : Program} {W : World} {base : Nat} {t : TypeId} {v : Value} (hu : P.underlying t = some .string) (h : Value.okWide P W .any base t v) : v.cells.toList = [v] := by
  unfold Value.okWide at h
  rw [hu] at h
  simp only at h
  unfold Cell.okWide at h
  rw [hu] at h
  cases v with
  | agg cs => simp [Cell.ok, hu] at h
  | _ => rfl
end Go.Opn
set_option maxRecDepth 100000
set_option linter.unusedVariables false
namespace Go.Opn
open Go Go.Cre Go.RowKit Go.Proofs Go.ChangeShapes Go.WideShapes Go.ChangeAt
open Go.Proofs.YtaopiiohjbjgkaaGreatDoor
theorem own : ownKnob Tryz.prog.godebug = none := by kernel_rfl
theorem gTab0 : Tryz.prog.globalNamed "math/bits.deBruijn32tab" = some 7 := by kernel_rfl
theorem gType0 : (Tryz.prog.globals[7]?).map (·.type) = some 302 := by kernel_rfl
theorem gUnd0 : Tryz.prog.underlying 302 = some (.array 32 5) := by kernel_rfl
theorem gEl0 : Tryz.prog.underlying 5 = some (.int .u8) := by kernel_rfl
theorem gOne0 : Tryz.prog.cellsOf 5 = 1 := by kernel_rfl
theorem gAll0 : Tryz.prog.cellsOf 302 = 32 := by kernel_rfl
theorem gRow0 : (((begin Tryz.prog (fun _ _ => 0) default).world.heap[7]?).bind Obj.row?).map (·.2) = some 302 := by kernel_rfl
theorem gLt0 : 7 < Tryz.prog.globals.size := by decide +kernel
theorem gTab1 : Tryz.prog.globalNamed "math/bits.deBruijn64tab" = some 8 := by kernel_rfl
theorem gType1 : (Tryz.prog.globals[8]?).map (·.type) = some 303 := by kernel_rfl
theorem gUnd1 : Tryz.prog.underlying 303 = some (.array 64 5) := by kernel_rfl
theorem gEl1 : Tryz.prog.underlying 5 = some (.int .u8) := by kernel_rfl
theorem gOne1 : Tryz.prog.cellsOf 5 = 1 := by kernel_rfl
theorem gAll1 : Tryz.prog.cellsOf 303 = 64 := by kernel_rfl
theorem gRow1 : (((begin Tryz.prog (fun _ _ => 0) default).world.heap[8]?).bind Obj.row?).map (·.2) = some 303 := by kernel_rfl
theorem gLt1 : 8 < Tryz.prog.globals.size := by decide +kernel
theorem gTab2 : Tryz.prog.globalNamed "internal/strconv.uint64pow10" = some 2 := by kernel_rfl
theorem gType2 : (Tryz.prog.globals[2]?).map (·.type) = some 236 := by kernel_rfl
theorem gUnd2 : Tryz.prog.underlying 236 = some (.array 20 187) := by kernel_rfl
theorem gEl2 : Tryz.prog.underlying 187 = some (.int .u64) := by kernel_rfl
theorem gOne2 : Tryz.prog.cellsOf 187 = 1 := by kernel_rfl
theorem gAll2 : Tryz.prog.cellsOf 236 = 20 := by kernel_rfl
theorem gRow2 : (((begin Tryz.prog (fun _ _ => 0) default).world.heap[2]?).bind Obj.row?).map (·.2) = some 236 := by kernel_rfl
theorem gLt2 : 2 < Tryz.prog.globals.size := by decide +kernel
theorem gTab3 : Tryz.prog.globalNamed "parlour/token.blanks" = some 0 := by kernel_rfl
theorem gType3 : (Tryz.prog.globals[0]?).map (·.type) = some 197 := by kernel_rfl
theorem gUnd3 : Tryz.prog.underlying 197 = some (.array 33 4) := by kernel_rfl
theorem gEl3 : Tryz.prog.underlying 4 = some .bool := by kernel_rfl
theorem gOne3 : Tryz.prog.cellsOf 4 = 1 := by kernel_rfl
theorem gAll3 : Tryz.prog.cellsOf 197 = 33 := by kernel_rfl
theorem gRow3 : (((begin Tryz.prog (fun _ _ => 0) default).world.heap[0]?).bind Obj.row?).map (·.2) = some 197 := by kernel_rfl
theorem gLt3 : 0 < Tryz.prog.globals.size := by decide +kernel
theorem gTab4 : Tryz.prog.globalNamed "parlour/token.signs" = some 1 := by kernel_rfl
theorem gType4 : (Tryz.prog.globals[1]?).map (·.type) = some 198 := by kernel_rfl
theorem gUnd4 : Tryz.prog.underlying 198 = some (.array 126 4) := by kernel_rfl
theorem gEl4 : Tryz.prog.underlying 4 = some .bool := by kernel_rfl
theorem gOne4 : Tryz.prog.cellsOf 4 = 1 := by kernel_rfl
theorem gAll4 : Tryz.prog.cellsOf 198 = 126 := by kernel_rfl
theorem gRow4 : (((begin Tryz.prog (fun _ _ => 0) default).world.heap[1]?).bind Obj.row?).map (·.2) = some 198 := by kernel_rfl
theorem gLt4 : 1 < Tryz.prog.globals.size := by decide +kernel
theorem star : "*" ++ "errors.errorString" = "*errors.errorString" := by decide
theorem rowE (u : TypeId) (h : Tryz.prog.typeName? 3 u = some "*errors.errorString") : u = 305 :=
  typeName_ptr_named (nm := "errors.errorString") (by rw [star]; kernel_rfl) (by kernel_rfl) (by decide) u (by rw [star]; exact h)
theorem eG4 : Tryz.prog.globalNamed "strconv.ErrSyntax" = some 4 := by kernel_rfl
theorem eG5 : Tryz.prog.globalNamed "strconv.ErrRange" = some 5 := by kernel_rfl
theorem eT4 : (Tryz.prog.globals[4]?).map (·.type) = some 94 := by kernel_rfl
theorem eT5 : (Tryz.prog.globals[5]?).map (·.type) = some 94 := by kernel_rfl
theorem eUi : ∃ ms, Tryz.prog.underlying 94 = some (.interface ms) := ⟨_, Tryz.underlying94⟩
theorem eUp : Tryz.prog.underlying 305 = some (.pointer 307) := by kernel_rfl
theorem eUs : ∃ f, Tryz.prog.underlying 307 = some (.struct #[f]) ∧ f.type = 9 ∧ f.offset = 0 := ⟨_, Tryz.underlying307, rfl, rfl⟩
theorem eC : Tryz.prog.cellsOf 307 = 1 := by kernel_rfl
theorem err_at {W : World} {n : String} {g : Nat} {t : TypeId} {p : Value} (hg : Tryz.prog.globalNamed n = some g) (h : W.var? Tryz.prog n = some #[.iface t p]) : errOk W g := by
  unfold World.var? at h
  rw [hg] at h
  simp only [Option.bind_some] at h
  split at h
  · rename_i cs e f hq
    injection h with h; subst h
    exact ⟨t, p, e, f, hq⟩
  · cases h
theorem errs {W : World} {n : String} {g : Nat} {text : List UInt8} {r : List (String × DataW Unit)} (hg : Tryz.prog.globalNamed n = some g) (ht : (Tryz.prog.globals[g]?).map (·.type) = some 94) (h : laidMet Tryz.prog ((n, .iface "*errors.errorString" (.ptr (.agg [.lit (.string text)]))) :: r) W) : errOk W g := by
  obtain ⟨ms, hi⟩ := eUi
  obtain ⟨f, h1, h2, h3⟩ := eUs
  obtain ⟨a, s, hv, _⟩ := laid_sentinel h hg ht hi rowE eUp h1 h2 h3 u9 eC c9
  exact err_at hg hv
theorem tables {W : World} (h : laidMetH Tryz.prog Rows.protocolBackRow.laid W) : (Lib.TabIs Tryz.prog W "math/bits.deBruijn32tab" .u8 nums0 ∧ Lib.TabIs Tryz.prog W "math/bits.deBruijn64tab" .u8 nums1 ∧ Lib.TabIs Tryz.prog W "internal/strconv.uint64pow10" .u64 nums2 ∧ BoolsAre Tryz.prog W "parlour/token.blanks" nums3 ∧ BoolsAre Tryz.prog W "parlour/token.signs" nums4) ∧ errOk W 4 ∧ errOk W 5 := by
  have h0 : laidMet Tryz.prog [("math/bits.deBruijn32tab", Lib.tabData .u8 nums0), ("math/bits.deBruijn64tab", Lib.tabData .u8 nums1), ("internal/strconv.uint64pow10", Lib.tabData .u64 nums2), ("strconv.ErrRange", Rows.laid_strconv_ErrRange), ("strconv.ErrSyntax", Rows.laid_strconv_ErrSyntax), ("parlour/token.blanks", boolData nums3), ("parlour/token.signs", boolData nums4)] W := (show laidMet Tryz.prog [("math/bits.deBruijn32tab", Lib.tabData .u8 nums0), ("math/bits.deBruijn64tab", Lib.tabData .u8 nums1), ("internal/strconv.uint64pow10", Lib.tabData .u64 nums2), ("strconv.ErrRange", Rows.laid_strconv_ErrRange), ("strconv.ErrSyntax", Rows.laid_strconv_ErrSyntax), ("parlour/token.blanks", boolData nums3), ("parlour/token.signs", boolData nums4)] W ∧ handlesMet Tryz.prog [("errors.errorType", Rows.laid_errors_errorType)] W from h).1
  have h1 := laidMet.tail h0
  have h2 := laidMet.tail h1
  have h3 := laidMet.tail h2
  have h4 := laidMet.tail h3
  have h5 := laidMet.tail h4
  have h6 := laidMet.tail h5
  exact ⟨⟨Lib.tabIs_of_head gTab0 gType0 gUnd0 gEl0 gOne0 gAll0 h0, Lib.tabIs_of_head gTab1 gType1 gUnd1 gEl1 gOne1 gAll1 h1, Lib.tabIs_of_head gTab2 gType2 gUnd2 gEl2 gOne2 gAll2 h2, bools_head gTab3 gType3 gUnd3 gEl3 gOne3 gAll3 h5, bools_head gTab4 gType4 gUnd4 gEl4 gOne4 gAll4 h6⟩, errs eG4 eT4 h4, errs eG5 eT5 h3⟩
theorem first {W : World} (h : laidMetH Tryz.prog Rows.protocolBackRow.laid W) (hs : W.ShapedOpen Tryz.prog) : Laid Tryz.prog W H0 := by
  refine laid_of fun g e cells hm => ?_
  have ht := (tables h).1
  simp only [tabs, List.mem_cons, Prod.mk.injEq, List.not_mem_nil, or_false] at hm
  rcases hm with ⟨rfl, rfl, rfl⟩ | ⟨rfl, rfl, rfl⟩ | ⟨rfl, rfl, rfl⟩ | ⟨rfl, rfl, rfl⟩ | ⟨rfl, rfl, rfl⟩
  · exact ⟨by decide, laid_row gTab0 gLt0 gRow0 hs (ht.1), by kernel_rfl, by decide +kernel⟩
  · exact ⟨by decide, laid_row gTab1 gLt1 gRow1 hs (ht.2.1), by kernel_rfl, by decide +kernel⟩
  · exact ⟨by decide, laid_row gTab2 gLt2 gRow2 hs (ht.2.2.1), by kernel_rfl, by decide +kernel⟩
  · exact ⟨by decide, laid_rowB gTab3 gLt3 gRow3 hs (ht.2.2.2.1), by kernel_rfl, by decide +kernel⟩
  · exact ⟨by decide, laid_rowB gTab4 gLt4 gRow4 hs (ht.2.2.2.2), by kernel_rfl, by decide +kernel⟩
theorem row_bools {W : World} {g : Nat} {bs : List Bool} {t : TypeId} {f : Nat × Nat} (h : W.heap[g]? = some (.cells (bs.map Value.bool).toArray t f)) : jA PP W g = some (bs.map Value.bool, t) := by
  show rowA PP W g = _
  rw [rowA_mk (rowOf_mk h)]
  congr 2
  rw [List.toList_toArray, List.map_map]
  exact List.map_congr_left fun b _ => absV_atom rfl
theorem gl_first {W : World} (h : laidMetH Tryz.prog Rows.protocolBackRow.laid W) (hs : W.ShapedOpen Tryz.prog) : Gl W.heap.size (jA PP W) := by
  have ht := (tables h).1
  obtain ⟨f1, q1⟩ := laid_rowB gTab3 gLt3 gRow3 hs (ht.2.2.2.1)
  obtain ⟨f2, q2⟩ := laid_rowB gTab4 gLt4 gRow4 hs (ht.2.2.2.2)
  have l1 := (Array.getElem?_eq_some_iff.1 q1).1
  have l2 := (Array.getElem?_eq_some_iff.1 q2).1
  exact ⟨by simpa [Nat.blt, Nat.succ_le_iff] using l1, by simpa [Nat.blt, Nat.succ_le_iff] using l2, ⟨_, row_bools q1⟩, ⟨_, row_bools q2⟩⟩
theorem known_body : ∃ c, Tryz.f4.body = some c := ⟨_, rfl⟩
theorem law_body : ∃ c, Tryz.f3.body = some c := ⟨_, rfl⟩
theorem laidOut : laidOutB Tryz.prog = true := by kernel_rfl
theorem readables : ∀ t ∈ Tryz.f3.params.toList, PP.readableRec t = true ∧ t < PP.types.size := by
  intro t ht
  rw [Tryz.params3] at ht
  simp only [List.mem_cons, List.not_mem_nil, or_false] at ht
  rcases ht with rfl | rfl
  · exact ⟨by kernel_rfl, of_decide_eq_true (by kernel_rfl)⟩
  · exact ⟨by kernel_rfl, of_decide_eq_true (by kernel_rfl)⟩
theorem qb {W : World} (h : laidMetH Tryz.prog Rows.protocolBackRow.laid W) (hs : W.ShapedOpen Tryz.prog) : QB.ok (fun k => k < W.heap.size) W := by
  obtain ⟨_, h4, h5⟩ := tables h
  have hf := first h hs
  refine ⟨⟨hf, hf.inB⟩, ⟨?_, h4⟩, ⟨?_, h5⟩⟩
  · obtain ⟨_, _, _, _, q⟩ := h4; exact (Array.getElem?_eq_some_iff.1 q).1
  · obtain ⟨_, _, _, _, q⟩ := h5; exact (Array.getElem?_eq_some_iff.1 q).1
set_option maxRecDepth 100000 in
theorem contract (H : Type) (enc : TypeId × Value → H) (W : World) (base : Nat) (args : Array Value) (ds gs : List (DataW H)) (before : List MemPlace)
    (hval : ∀ (j : Nat) t v, Tryz.f3.params[j]? = some t → args[j]? = some v → Value.okWide Tryz.prog W .any base t v)
    (hW : DataW.Whole enc Tryz.prog Tryz.f3.params.toList Rows.protocolBackSpec.vars false W args.toList ds gs before)
    (hz : (DataW.weightsEach Tryz.prog Tryz.f3.params.toList ds).all (· ≤ reachBytes) = true)
    (hL : laidMetH Tryz.prog Rows.protocolBackRow.laid W) (hS : W.ShapedOpen Tryz.prog) :
    Calls Tryz.prog 3 args W fun e W' => ∃ v, e = .returned v ∧ Rows.protocolBackSpec.post enc Tryz.prog Tryz.f3 false true false false W args v W' := by
  have hW' := hW
  obtain ⟨p, q, hA0, hV, rfl, hfz, hnd⟩ := hW
  have hA : DataW.TrodAll enc Tryz.prog W 0 (fun _ => true) true Tryz.f3.params.toList args.toList ds p := hA0
  obtain ⟨rfl, rfl⟩ := trodVars_none hV
  rw [Tryz.params3] at hA hval hz
  obtain ⟨v0, v1, d0, d1, p0, p1, rfl, rfl, rfl, ⟨n0, t0⟩, ⟨n1, t1⟩⟩ := trodAll_two hA
  obtain ⟨a0, rfl⟩ := agg_of s24 (hval 0 24 v0 rfl rfl)
  have hc1 := str_val u9 (hval 1 9 v1 rfl rfl)
  rw [hc1] at t1
  obtain ⟨k, tx, N, bv, cv, e0, hN, hw0⟩ := line_of t0
  obtain ⟨s, e1, _, hw1⟩ := str_of u9 t1
  obtain rfl : v1 = .string ⟨⟨s⟩⟩ := by simpa using e1
  have hzz : ∀ z ∈ DataW.weightsEach Tryz.prog [24, 9] [d0, d1], z ≤ reachBytes := fun z hz' => by simpa using List.all_eq_true.1 hz z hz'
  have hb0 : tx.length ≤ reachBytes := hzz _ (by
    rw [DataW.weightsEach]
    exact List.mem_append_left _ hw0)
  have hb1 : s.length ≤ reachBytes := hzz _ (by
    rw [DataW.weightsEach, DataW.weightsEach]
    exact List.mem_append_right _ (List.mem_append_left _ hw1))
  have hR : reachBytes ≤ 140737488355328 := by decide
  obtain ⟨ck, hck⟩ := known_body
  obtain ⟨cl', hcl⟩ := law_body
  have hq := qb hL hS
  have hF := back_fn (Q := QB) (g0 := W.heap.size) (J := jA PP W) (k := k) (tx := tx) (s := s) lb (gl_first hL hS)
    (fun J => Fn.closed (K := kx QB W.heap.size) (H0 := H0) rfl Tryz.func4 hck (fun _ _ h => h.1) (fun w h => known_calls w h))
    hN.r (by omega) (by omega)
  have hrel : LRel (mpA PP W) [lineV k tx (.slice bv N.length cv), .string ⟨⟨s⟩⟩] (#[Value.agg a0, .string ⟨⟨s⟩⟩] : Array Value).toList := by
    have r0 : VRel (mpA PP W) (lineV k tx (.slice bv N.length cv)) (.agg a0) := by
      have := VRel.agg' (μ := mpA PP W) (l := a0.toList.map (absV PP W)) (l' := a0.toList) ⟨by simp, fun i v v' x y => by
        rw [List.getElem?_map, y] at x; injection x with x; subst x; exact absV_rel v'⟩
      rw [show a0.toList.map (absV PP W) = _ from e0] at this
      exact this
    exact .cons r0 (.cons (.atom _ rfl) (.nil _))
  refine (open_calls (K := kx QB W.heap.size) (w := W) (b := true) hq rfl Tryz.func3 hcl hrel hF).mono fun e W' hq => ?_
  obtain ⟨he, hb⟩ := hq
  subst he
  exact ⟨_, rfl, post_open hW' hb laidOut readables rfl rfl rfl (fun _ _ _ => trodAll_cons_mk (shut_bool Tryz.underlying4 _) trodAll_mk0)⟩
/-- a world for the witness -/
noncomputable def laidWorld (os : Os) : World := World.doorLaid Tryz.prog 400 os
def args0 : Array Value := #[.agg #[.int .i64 0, .string .empty, .slice none 0 0], .string .empty]
def data0 {H : Type} : List (DataW H) := [.agg [.lit (.int .i64 0), .lit (.string []), .nil], .lit (.string [])]
theorem laid_met (os : Os) : laidMetH Tryz.prog Rows.protocolBackRow.laid ((laidWorld os).forCall (fun _ _ => 0) ⟨#[], args0, []⟩).memory :=
  laidMetH_of_parts3 (fuel := 8) (laidMet_of_run' 8 (by kernel_rfl) (by kernel_rfl)) (by kernel_rfl) (by kernel_rfl)
theorem reads (os : Os) {H : Type} (enc : TypeId × Value → H) : ∃ places, DataW.whole enc Tryz.prog ((laidWorld os).forCall (fun _ _ => 0) ⟨#[], args0, []⟩).memory Tryz.f3.params.toList Rows.protocolBackSpec.vars false args0.toList 8 = some (data0, [], places) :=
  ⟨[], by kernel_rfl⟩
set_option maxRecDepth 100000 in
theorem lifted (os : Os) (started : os.Started) (H : Type) (enc : TypeId × Value → H) (F : Stop.Interp) :
    ReturnsInHanded {} Tryz.checked os 3 .any ((OpenSpec.ofChange Rows.protocolBackSpec).preRow enc Tryz.prog Tryz.f3 Rows.protocolBackRow.domain false Rows.protocolBackRow.laid) (((OpenSpec.ofChange Rows.protocolBackSpec).at F).post enc Tryz.prog Tryz.f3 false true false false) := by
  obtain ⟨places, hx⟩ := reads os enc
  refine returnsInHanded_of_row (C := Tryz.checked) (s := OpenSpec.ofChange Rows.protocolBackSpec) own started (by kernel_rfl) Tryz.func3
    (witness_row_at (enc := enc) (C := Tryz.checked) false (laidWorld os) args0 rfl (by kernel_rfl) (by kernel_rfl) (by kernel_rfl)
      (OpenSpec.preRow_of_cond 8 hx (by kernel_rfl) (fun k hk => by cases hk) (by kernel_rfl) (laid_met os))) ?_
  intro W base args ds gs before hval hW _ _ hz hL hS _
  have hg : gs = [] := by
    obtain ⟨p, q, _, hV, _⟩ := hW
    exact (trodVars_none hV).1
  subst hg
  refine contract H enc W base args ds [] before hval hW ?_ hL hS
  have hvt : (OpenSpec.ofChange Rows.protocolBackSpec).bare.plain.varTypes Tryz.checked.prog = [] := by kernel_rfl
  rw [hvt, List.append_nil, List.append_nil] at hz
  exact hz
theorem said : Rows.ProtocolBackSaid :=
  OpenClaim.holds_of_wide_leaving 3 Tryz.f3 rfl rfl rfl rfl rfl rfl rfl ⟨rfl, rfl, rfl, rfl, rfl⟩ rfl rfl rfl rfl rfl (by kernel_rfl) Tryz.func3 (by kernel_rfl)
    (of_decide_eq_true (by kernel_rfl)) (by unfold Func.isWrapper; first | (rw [if_pos (by decide +kernel)]; kernel_rfl) | (rw [if_neg (by decide +kernel)]; exact ⟨rfl, rfl⟩))
    (fun os started H enc _ => leaving_of_handed (by rw [OpenClaim.pre_eq_preRow]; exact lifted os started H enc fun _ _ _ => 0))
theorem stand24 : Tryz.prog.wantsStandIn 24 = false := by kernel_rfl
theorem stand9 : Tryz.prog.wantsStandIn 9 = false := by kernel_rfl
theorem plainly (f : FuncId) (fn : Func) (hf : Tryz.pinned.checked.prog.funcNamed "parlour/parlourlaw36.ProtocolBack" = some f) (hfn : Tryz.pinned.checked.prog.funcs[f]? = some fn) :
    true = Tryz.pinned.checked.prog.looks [] ∧ ∀ (j : Nat) t, fn.params[j]? = some t → Tryz.pinned.checked.prog.wantsStandIn t = false := by
  obtain rfl : f = 3 := Option.some.inj ((show Tryz.prog.funcNamed "parlour/parlourlaw36.ProtocolBack" = some 3 by kernel_rfl).symm.trans hf) |>.symm
  obtain rfl : fn = Tryz.f3 := (Option.some.inj (Tryz.func3.symm.trans hfn)).symm
  refine ⟨by kernel_rfl, fun j t ht => ?_⟩
  rw [Tryz.params3] at ht
  match j, ht with
  | 0, ht => simp at ht; subst ht; exact stand24
  | 1, ht => simp at ht; subst ht; exact stand9
  | j + 2, ht => simp at ht
theorem card : Rows.ProtocolBackCardSaid :=
  holds_tied_goes .later _ _ _ _ said (by kernel_rfl) protocolBack_row_tie rfl ⟨rfl, rfl⟩ (by kernel_rfl) rfl plainly (by kernel_rfl)
end Go.Opn
namespace Go.Proofs.YtaopiiohjbjgkaaGreatDoor
/-- the card -/
theorem openProtocolBack : Rows.ProtocolBackCardSaid := Go.Opn.card
end Go.Proofs.YtaopiiohjbjgkaaGreatDoor

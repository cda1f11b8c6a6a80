/- A part of the proof of ProtocolTalks. -/
import Derived.Test.YtobdmheahedahaaGreatDoorWx
import Derived.Test.YtobdmheahedahaaGreatDoorOpnT
import Derived.Test.YtobdmheahedahaaGreatDoorYa
import Derived.Test.YtobdmheahedahaaGreatDoorCards
import Derived.Test.YtobdmheahedahaaGreatDoorTie
import Derived.WalkKit
import Derived.ProofKit
import Derived.OpenShut
import Derived.Deep.DeepHandedRow
import Derived.Lib.LaidTab
import Derived.LaidHandle
import Derived.LaidMore
import Derived.Stop.LaidErr
set_option maxRecDepth 100000
set_option linter.unusedVariables false
namespace Go.Opn
open Go Go.Cre Go.RowKit Go.Proofs Go.ChangeShapes Go.WideShapes Go.ChangeAt
noncomputable abbrev PP := Tryz.prog
theorem u3 : PP.underlying 3 = some (.int .i64) := by kernel_rfl
theorem u9 : PP.underlying 9 = some .string := by kernel_rfl
theorem u22 : PP.underlying 22 = some (.slice 3) := by kernel_rfl
theorem u27 : PP.underlying 27 = some (.slice 26) := by kernel_rfl
theorem c3 : PP.cellsOf 3 = 1 := by kernel_rfl
theorem c9 : PP.cellsOf 9 = 1 := by kernel_rfl
theorem c22 : PP.cellsOf 22 = 1 := by kernel_rfl
theorem c24 : PP.cellsOf 24 = 4 := by kernel_rfl
theorem c26 : PP.cellsOf 26 = 3 := by kernel_rfl
theorem s24 : structN PP 24 = some 4 := by kernel_rfl
theorem s26 : structN PP 26 = some 3 := by kernel_rfl
theorem f24_0 : fieldT PP 24 0 = some (3, 0) := by kernel_rfl
theorem f24_1 : fieldT PP 24 1 = some (3, 1) := by kernel_rfl
theorem f24_2 : fieldT PP 24 2 = some (3, 2) := by kernel_rfl
theorem f24_3 : fieldT PP 24 3 = some (22, 3) := by kernel_rfl
theorem f26_0 : fieldT PP 26 0 = some (3, 0) := by kernel_rfl
theorem f26_1 : fieldT PP 26 1 = some (9, 1) := by kernel_rfl
theorem f26_2 : fieldT PP 26 2 = some (22, 2) := by kernel_rfl
section
variable {H : Type} {enc : TypeId × Value → H} {W : World} {fuel : Nat} {cs : List Value} {x : DataW H × List MemPlace}
theorem len4 {α : Type} {l : List α} (h : l.length = 4) : ∃ a b c d, l = [a, b, c, d] := by
  match l, h with
  | [a, b, c, d], _ => exact ⟨a, b, c, d, rfl⟩
theorem len3 {α : Type} {l : List α} (h : l.length = 3) : ∃ a b c, l = [a, b, c] := by
  match l, h with
  | [a, b, c], _ => exact ⟨a, b, c, rfl⟩
theorem talk_of (h : trodA enc PP W fuel 24 cs = some x) : ∃ (ph pl st : Int) (O : List Int) (b : Option Addr) (c : Nat), cs.map (absV PP W) = [.int .i64 ph, .int .i64 pl, .int .i64 st, .slice b O.length c] ∧ IntsC (jA PP W) (.slice b O.length c) O := by
  obtain ⟨n, h1, h2⟩ := struct_of s24 h
  rw [c24] at h1
  obtain ⟨v0, v1, v2, v3, rfl⟩ := len4 h1
  obtain ⟨y0, g0, _⟩ := h2 0 3 0 1 (by omega) f24_0 c3
  obtain ⟨y1, g1, _⟩ := h2 1 3 1 1 (by omega) f24_1 c3
  obtain ⟨y2, g2, _⟩ := h2 2 3 2 1 (by omega) f24_2 c3
  obtain ⟨y3, g3, _⟩ := h2 3 22 3 1 (by omega) f24_3 c22
  obtain ⟨ph, _, e0⟩ := int_of u3 g0
  obtain ⟨pl, _, e1⟩ := int_of u3 g1
  obtain ⟨st, _, e2⟩ := int_of u3 g2
  obtain ⟨O, b, c, e3, hO⟩ := ints_of u22 u3 c3 g3
  simp at e0 e1 e2 e3
  exact ⟨ph, pl, st, O, b, c, by simp [e0, e1, e2, e3], hO 3⟩
theorem line_of (h : trodA enc PP W fuel 26 cs = some x) : ∃ (k : Int) (tx : List UInt8) (N : List Int) (b : Option Addr) (c : Nat), cs.map (absV PP W) = [.int .i64 k, .string ⟨⟨tx⟩⟩, .slice b N.length c] ∧ IntsC (jA PP W) (.slice b N.length c) N ∧ tx.length ∈ x.1.weights PP 26 := by
  obtain ⟨n, h1, h2⟩ := struct_of s26 h
  rw [c26] at h1
  obtain ⟨v0, v1, v2, rfl⟩ := len3 h1
  obtain ⟨y0, g0, _⟩ := h2 0 3 0 1 (by omega) f26_0 c3
  obtain ⟨y1, g1, w1⟩ := h2 1 9 1 1 (by omega) f26_1 c9
  obtain ⟨y2, g2, _⟩ := h2 2 22 2 1 (by omega) f26_2 c22
  obtain ⟨k, _, e0⟩ := int_of u3 g0
  obtain ⟨tx, _, e1, hw⟩ := str_of u9 g1
  obtain ⟨N, b, c, e3, hN⟩ := ints_of u22 u3 c3 g2
  simp at e0 e1 e3
  exact ⟨k, tx, N, b, c, by simp [e0, e1, e3], hN 3, w1 _ hw⟩
theorem lines_of (h : trodA enc PP W fuel 27 cs = some x) : ∃ (ls : List Ln) (b : Option Addr) (c : Nat), cs.map (absV PP W) = [.slice b ls.length c] ∧ LinesR (jA PP W) (.slice b ls.length c) ls ∧ (∀ y ∈ ls, y.tx.length ∈ x.1.weights PP 27) ∧ ls.length ≤ maxLen := by
  obtain ⟨b, n, c, rows, el, ds, m, h1, _, h3, h4, h5, h6, h7, h8⟩ := slice_of u27 c26 (by omega) h
  have hln : ∀ i, i < n → ∃ (y : Ln) (b' : Option Addr) (c' : Nat), ((rows.map (absV PP W)).drop (i * 3)).take 3 = [.int .i64 y.k, .string ⟨⟨y.tx⟩⟩, .slice b' y.N.length c'] ∧ IntsC (jA PP W) (.slice b' y.N.length c') y.N ∧ y.tx.length ∈ x.1.weights PP 27 := fun i hi => by
    obtain ⟨q1, q2, y, q3, q4⟩ := h6 i _ (List.getElem?_eq_getElem (show i < el.length by omega))
    obtain ⟨k, tx, N, b', c', r1, r2, r3⟩ := line_of q4
    refine ⟨⟨k, tx, N⟩, b', c', ?_, r2, h7 y (List.mem_of_getElem? q3) _ r3⟩
    rw [← List.map_drop, ← List.map_take, q2, r1]
  have hch : ∃ f : Nat → Ln, ∀ i, i < n → ∃ (b' : Option Addr) (c' : Nat), ((rows.map (absV PP W)).drop (i * 3)).take 3 = [.int .i64 (f i).k, .string ⟨⟨(f i).tx⟩⟩, .slice b' (f i).N.length c'] ∧ IntsC (jA PP W) (.slice b' (f i).N.length c') (f i).N ∧ (f i).tx.length ∈ x.1.weights PP 27 := by
    refine ⟨fun i => if h : i < n then Classical.choose (hln i h) else ⟨0, [], []⟩, fun i hi => ?_⟩
    simp only [dif_pos hi]
    exact Classical.choose_spec (hln i hi)
  obtain ⟨f, hf⟩ := hch
  have hlen : ((List.range n).map f).length = n := by simp
  refine ⟨(List.range n).map f, b, c, by rw [hlen]; exact h1, ⟨b, c, rfl, fun hpos => ?_⟩, fun y hy => ?_, by rw [hlen]; exact h8⟩
  · rw [hlen] at hpos
    have h0 := h3 26
    generalize List.map (absV PP W) rows = rm at h0 hf
    generalize hk : n = k at h0
    cases h0 with
    | nil => omega
    | emp => omega
    | emx => omega
    | @row a off len cap cells cs' e' r1 r2 r3 r4 r5 =>
      subst hk
      refine ⟨a, off, cells, e', rfl, r1, fun i y hy => ?_⟩
      have hi : i < n := by have := (List.getElem?_eq_some_iff.1 hy).1; simpa using this
      rw [List.getElem?_map, List.getElem?_range hi] at hy
      simp only [Option.map_some, Option.some.injEq] at hy
      subst hy
      obtain ⟨b', c', k1, k2, _⟩ := hf i hi
      refine ⟨b', c', ?_, k2⟩
      have hcl : n * 3 ≤ (cells.drop off).length := by
        have : ((cells.drop off).take (n * 3)).length = n * 3 := by rw [r2]; exact r3
        rw [List.length_take] at this; omega
      rw [List.length_drop] at hcl
      rw [dropN_eq, takeN_ok (by rw [List.length_drop]; simp; omega), ← k1, ← r2]
      congr 1
      rw [List.drop_take, List.drop_drop, List.take_take, Nat.min_eq_left (by omega)]
      simp
  · obtain ⟨i, hi, rfl⟩ := List.mem_map.1 hy
    obtain ⟨_, _, _, _, k3⟩ := hf i (by simpa using hi)
    exact k3
end
end Go.Opn

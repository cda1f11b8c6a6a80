/- A part of a verified evaluator of closed calls: see YthfgeapiahhjlaaGreatDoorCreZ. -/
import Derived.Test.YthfgeapiahhjlaaGreatDoorCreH
set_option linter.unusedVariables false
set_option linter.unusedSimpArgs false
namespace Go.Cre
open Go.RowKit

section
variable {P : Program} {B : Nat → Prop} {w0 w : World} {μ : Mp} {H H' : Hp}

theorem lenA_run {x x' : Value} {m : Nat} (hx : VRel μ x x') (hm : lenA x = some m) (w : World) : (Builtin.lenOf x').run P w = .ok m w := by
  cases x with
  | slice a len cap =>
    simp [lenA] at hm; subst hm
    cases a with
    | none => rw [hx.slice_nil]; simp [Builtin.lenOf]
    | some a => obtain ⟨id, off, L, off', cap', rfl, hL, rfl, _⟩ := hx.slice_inv; simp [Builtin.lenOf]
  | string s => rw [hx.string_inv]; simp [lenA] at hm; subst hm; rfl
  | _ => simp [lenA] at hm

theorem byteMap (s : ByteArray) (n : Nat) : ((s.extract 0 n).data.map fun b => Value.int .u8 b.toNat) = ((s.data.toList.take n).map fun b => Value.int .u8 b.toNat).toArray := by
  apply Array.ext'
  simp [ByteArray.data_extract]

theorem evFirst_sound (h : HRel P B w0 μ H w) {x x' : Value} {sz n m : Nat} {l : List Value} (hx : VRel μ x x') (hm : lenA x = some m) (hn : n ≤ m) (he : evFirst H sz n x = some l) :
    ∃ l', LRel μ l l' ∧ ∀ nd, (Builtin.firstCells sz n x').run P { w with drawn := nd } = .ok l'.toArray { w with drawn := nd } := by
  cases x with
  | slice a len cap =>
    simp [lenA] at hm; subst hm
    cases a with
    | none =>
      rw [hx.slice_nil]
      cases n with
      | zero => simp [evFirst] at he; subst he; exact ⟨[], LRel.nil _, fun nd => by simp [Builtin.firstCells]⟩
      | succ n => simp [evFirst] at he
    | some a =>
      obtain ⟨id, off, L, off', cap', rfl, hL, rfl, ho, _⟩ := hx.slice_inv
      simp only [evFirst] at he
      cases n with
      | zero => simp at he; subst he; exact ⟨[], LRel.nil _, fun nd => by simp [Builtin.firstCells, loadCells, loadCellsFrom]⟩
      | succ n =>
        simp only at he
        rw [ho (by omega)]
        cases hmm : H.mem.get id with
        | none => rw [hmm] at he; simp at he
        | some b =>
          rw [hmm] at he
          cases b with
          | row cells elem opn fam fz sh =>
            simp only at he
            obtain ⟨l', g1, g2, g3⟩ := h.cells hL hmm he
            refine ⟨l', g1, fun nd => ?_⟩
            exact run_firstCells_some (P := P) { w with drawn := nd } sz (n + 1) ⟨L.r, off, none⟩ len cap' l' (by rw [g2]) (fun j v hj => by rw [Addr.add_mk]; exact g3 j v hj)
          | _ => simp at he
  | string s =>
    rw [hx.string_inv]
    simp only [evFirst] at he
    cases ht : takeN n s.data.toList with
    | none => rw [ht] at he; simp at he
    | some bs =>
      rw [ht] at he; simp only [Option.some.injEq] at he; subst he
      obtain ⟨e1, e2, e3⟩ := takeN_eq ht
      refine ⟨bs.map fun b => .int .u8 b.toNat, LRel.self_of fun v hv => ?_, fun nd => ?_⟩
      · obtain ⟨b, _, rfl⟩ := List.mem_map.1 hv; exact .atom _ rfl
      · simp only [Builtin.firstCells, byteMap, e1]; rfl
  | _ => simp [lenA] at hm

/-- the append that must grow -/
theorem run_append_gen (t tx ty e : TypeId) (dx : TypeDesc) (i : TypeInfo) (z : Value) (ht : P.underlying t = some (.slice e)) (htx : P.underlying tx = some dx) (hdx : ∀ k, dx ≠ .int k) (hi : P.info? e = some i) (hz : i.zero = some z)
    (base : Option Addr) (sLen sCap n : Nat) (x : Value) (olds news : List Value) (hlen : ∀ w, (Builtin.lenOf x).run P w = .ok n w)
    (hold : ∀ nd, (Builtin.firstCells i.size sLen (.slice base sLen sCap)).run P { w with drawn := nd } = .ok olds.toArray { w with drawn := nd })
    (hnew : ∀ nd, (Builtin.firstCells i.size n x).run P { w with drawn := nd } = .ok news.toArray { w with drawn := nd })
    (hg : sCap < sLen + n) (h63 : sLen + n ≤ 1000000) (hby : i.bytes ≤ 1000000) :
    (Builtin.append_ #[t, tx] ty #[.slice base sLen sCap, x]).run P w =
      .ok (.slice (some ⟨w.heap.size, 0, none⟩) (sLen + n) (grownCap w (sLen + n) sCap e))
        (w.drew.alloc (.cells (olds.toArray ++ (news.toArray ++ Builtin.zeroCells z.cells (grownCap w (sLen + n) sCap e - (sLen + n)))) e)) := by
  have hn : ¬ (sLen + n ≤ sCap) := by omega
  have h63' : ¬ (9223372036854775807 < ((sLen : Int) + (n : Int))) := by omega
  have hmul : (sLen + n) * i.bytes ≤ 1000000 * 1000000 := Nat.mul_le_mul h63 hby
  have h48' : ¬ (281474976710656 < Builtin.nextslicecap (sLen + n) sCap * i.bytes) := by
    have := growslice_fits (bytes := i.bytes) hg (by omega); omega
  have ho := hold (w.drawn + 1)
  have hw := hnew (w.drawn + 1)
  have ew : ({ w with drawn := w.drawn + 1 } : World) = w.drew := rfl
  rw [ew] at ho hw
  simp [Builtin.append_, run_underlying ht, run_underlying htx, sizeOf, typeInfo, zeroValue, hi, hz, hlen, hn, h63', h48', Question.forced, hw, ho, newRow, grownCap]

/-- the append that fits -/
theorem run_append_fit (t tx ty e : TypeId) (dx : TypeDesc) (i : TypeInfo) (ht : P.underlying t = some (.slice e)) (htx : P.underlying tx = some dx) (hdx : ∀ k, dx ≠ .int k) (hi : P.info? e = some i)
    (base : Option Addr) (sLen sCap n : Nat) (x : Value) (news : List Value) (w' : World) (hlen : ∀ w, (Builtin.lenOf x).run P w = .ok n w)
    (hnew : (Builtin.firstCells i.size n x).run P w = .ok news.toArray w) (hg : sLen + n ≤ sCap)
    (hst : ∀ a, base = some a → (storeCells (a.add (sLen * i.size)) news).run P w = .ok () w') (hno : base = none → w' = w) :
    (Builtin.append_ #[t, tx] ty #[.slice base sLen sCap, x]).run P w = .ok (.slice base (sLen + n) sCap) w' := by
  cases base with
  | none =>
    rw [hno rfl]
    simp [Builtin.append_, run_underlying ht, run_underlying htx, sizeOf, typeInfo, hi, hlen, hg, hnew]
  | some a =>
    have := hst a rfl
    simp [Builtin.append_, run_underlying ht, run_underlying htx, sizeOf, typeInfo, hi, hlen, hg, hnew, this]
end
end Go.Cre

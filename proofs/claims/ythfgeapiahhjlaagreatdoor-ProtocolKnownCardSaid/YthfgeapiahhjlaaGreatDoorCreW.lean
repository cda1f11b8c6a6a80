/- A part of a verified evaluator of closed calls: see YthfgeapiahhjlaaGreatDoorCreZ. -/
import Derived.Test.YthfgeapiahhjlaaGreatDoorCreV
set_option linter.unusedVariables false
set_option linter.unusedSimpArgs false
namespace Go.Cre
open Go.RowKit

section
variable {P : Program} {B : Nat → Prop} {w0 w : World} {μ : Mp} {H H' : Hp} {S : St} {fr : Frame} {tmps : Array Value} {ds : List Deferred} {cs : List Frame} {call : CallEv} {yld : YieldEv}
variable {ops : Array Oper} {k : List Item}

theorem RegOk.steps {m m' : Machine} {todo : List Item} {rr : RegRes} (hs : Steps P m m') (h : RegOk P B w0 μ H S fr cs m' todo rr) : RegOk P B w0 μ H S fr cs m todo rr := by
  cases rr with
  | ok S' H' => obtain ⟨a, b, c, d, e, g1, g2, g3, g4, g5, g6, g7⟩ := h; exact ⟨a, b, c, d, e, g1, g2, g3, g4, g5, g6, hs.trans g7⟩
  | pan chain S' H' => obtain ⟨a, b, c, d, e, x, y, g1, g2, g3, g4, g5, g6, g7, g8⟩ := h; exact ⟨a, b, c, d, e, x, y, g1, g2, g3, g4, g5, g6, g7, hs.trans g8⟩

theorem RegOk.bind {S1 : St} {H1 : Hp} {m : Machine} {todo1 todo2 : List Item} {rr : RegRes} (h : RegOk P B w0 μ H S fr cs m todo1 (.ok S1 H1))
    (hk : ∀ μ1 w1 tmps1 ds1 cs1, HRel P B w0 μ1 H1 w1 → Step μ μ1 H H1 → FRel μ1 S1 fr tmps1 ds1 cs1 → CsRel S.dfd cs cs1 → S1.dfd = S.dfd → S1.rnd = S.rnd → RegOk P B w0 μ1 H1 S1 fr cs1 (lone (fat fr tmps1 ds1 todo1) cs1 w1) todo2 rr) : RegOk P B w0 μ H S fr cs m todo2 rr := by
  obtain ⟨μ1, w1, tmps1, ds1, cs1, g1, g2, g3, g4, g5, g6, g7⟩ := h
  have hh := (hk μ1 w1 tmps1 ds1 cs1 g1 g2 g3 g4 g5 g6).steps g7
  cases rr with
  | ok S' H' => obtain ⟨a, b, c, d, e, q1, q2, q3, q4, q5, q6, q7⟩ := hh; exact ⟨a, b, c, d, e, q1, g2.trans q2, q3, g4.trans (g5 ▸ q4), q5.trans g5, q6.trans g6, q7⟩
  | pan chain S' H' => obtain ⟨a, b, c, d, e, x, y, q1, q2, q3, q4, q5, q6, q7, q8⟩ := hh; exact ⟨a, b, c, d, e, x, y, q1, g2.trans q2, q3, g4.trans (g5 ▸ q4), q5.trans g5, q6.trans g6, q7, q8⟩

/-- operations in the text's order -/
theorem evOps_sound (hcall : CallSound P B w0 call) (hyld : YieldSound P B w0 yld) (l : List Oper) : ∀ (i : Nat) (μ : Mp) (w : World) (S : St) (H : Hp) (tmps : Array Value) (ds : List Deferred) (cs : List Frame) (rr : RegRes),
    ops.toList.drop i = l → HRel P B w0 μ H w → FRel μ S fr tmps ds cs → evOps P call yld ops.toList l S H = some rr →
    RegOk P B w0 μ H S fr cs (lone (fat fr tmps ds (.inRegion ops (List.range' i l.length) :: k)) cs w) k rr := by
  induction l with
  | nil =>
    intro i μ w S H tmps ds cs rr _ h hf he
    have he : some (RegRes.ok S H) = some rr := he
    injection he with he; subst he
    exact ⟨μ, w, tmps, ds, cs, h, Step.refl _ _, hf, CsRel.refl _ _ hf.hasCs, rfl, rfl, .one st_regionEnd⟩
  | cons o l ih =>
    intro i μ w S H tmps ds cs rr hd h hf he
    have he : evOpsNext (evOps P call yld ops.toList l) (one P call yld ops.toList S H o) = some rr := he
    have ho : ops[i]? = some o := by
      have : (ops.toList.drop i)[0]? = some o := by rw [hd]; rfl
      simpa using this
    have hd' : ops.toList.drop (i + 1) = l := by
      have : (ops.toList.drop i).drop 1 = l := by rw [hd]; rfl
      rw [List.drop_drop] at this; exact this
    show RegOk P B w0 μ H S fr cs (lone (fat fr tmps ds (.inRegion ops (i :: List.range' (i + 1) l.length) :: k)) cs w) k rr
    cases hone : one P call yld ops.toList S H o with
    | none => rw [hone] at he; cases he
    | some r1 =>
      rw [hone] at he
      have h1 := one_sound (k := k) (rest := List.range' (i + 1) l.length) hcall hyld h hf ho hone
      cases r1 with
      | pan chain S1 H1 =>
        have he : some (RegRes.pan chain S1 H1) = some rr := he
        injection he with he; subst he
        exact h1
      | ok S1 H1 =>
        have he : evOps P call yld ops.toList l S1 H1 = some rr := he
        exact h1.bind fun μ1 w1 tmps1 ds1 cs1 g1 _ g3 _ _ _ => ih (i + 1) μ1 w1 S1 H1 tmps1 ds1 cs1 rr hd' g1 g3 he
end
end Go.Cre

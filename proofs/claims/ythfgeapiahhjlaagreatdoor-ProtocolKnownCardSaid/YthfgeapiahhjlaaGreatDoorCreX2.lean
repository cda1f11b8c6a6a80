/- A part of a verified evaluator of closed calls: see YthfgeapiahhjlaaGreatDoorCreZ. -/
import Derived.Test.YthfgeapiahhjlaaGreatDoorCreX
set_option linter.unusedVariables false
set_option linter.unusedSimpArgs false
namespace Go.Cre
open Go.RowKit

section
variable {P : Program} {H H' : Hp} {S S' : St} {o : Oper} {call : CallEv} {yld : YieldEv} {v : Value}

theorem vRes_same {x : Option Value} (he : vRes x H = some (.val v H')) : H' = H := by
  cases x with
  | none => cases he
  | some x => have he : some (OpRes.val x H) = some (.val v H') := he; injection he with he; injection he with _ he; exact he.symm

theorem evPlain_same {T : Tr Value} (he : evPlain P T H o = some (.val v H')) : H' = H := by
  unfold evPlain at he
  cases h1 : opds T H o.op.operands.toList with
  | none => rw [h1] at he; cases he
  | some vs =>
    rw [h1] at he
    cases h2 : vs.all plain with
    | false => simp only [h2] at he; cases he
    | true =>
      simp only [h2, cond_true] at he
      cases h3 : evPure P (execOp (opdOr T H) o) with
      | none => rw [h3] at he; cases he
      | some r =>
        rw [h3] at he
        cases r with
        | value u =>
          simp only at he
          cases h4 : plain u with
          | false => rw [h4] at he; cases he
          | true => rw [h4] at he; injection he with he; injection he with _ he; exact he.symm
        | skip => injection he with he; cases he
        | _ => cases he

theorem orElse_same {a b : Option OpRes} (ha : a = some (.val v H') → H' = H) (hb : b = some (.val v H') → H' = H) (he : orElse a b = some (.val v H')) : H' = H := by
  cases a with
  | none => exact hb he
  | some a => exact ha he

theorem retInt_same {n : Int} {k : IntKind} (he : forceInt n (retInt H k) = some (.val v H')) : H' = H := by
  rcases n with (_ | m) | (_ | m) <;> (injection he with he; injection he with _ he; exact he.symm)
theorem retBool_same {b : Bool} (he : retBool H b = some (.val v H')) : H' = H := by
  cases b <;> (injection he with he; injection he with _ he; exact he.symm)

theorem bif_same {b : Bool} {u : Value} (h : (bif b then none else some (OpRes.val u H)) = some (.val v H')) : H' = H := by
  cases b <;> simp at h; exact h.2.symm

theorem evOp_same (hc : isChain0 o.op = false) (ha : isAllocOp o.op = false) (he : evOp P call yld S H o = some (.val v H')) (hnx : H'.nx = H.nx) : H' = H := by
  unfold evOp evOpX at he
  obtain ⟨dst, op, type, pos, after, guard⟩ := o
  have hpl : ∀ o', evPlain P S.T H o' = some (.val v H') → H' = H := fun o' q => evPlain_same q
  cases op <;> simp only [isChain0, isAllocOp] at hc ha <;> simp only at he
  case move x => exact vRes_same (x := opd S.T H x) he
  case assign x => exact vRes_same (x := opd S.T H x) he
  case pick c a b =>
    have he : opPick2 P _ a b (opd S.T H c) = _ := he
    unfold opPick2 at he
    split at he
    · exact vRes_same he
    · exact vRes_same he
    · cases he
  case alloc => cases ha
  case box => cases ha
  case build t ps =>
    have he : opBuild2 P _ t (pairs S.T H ps.toList) = _ := he
    unfold opBuild2 at he
    split at he
    · exact vRes_same he
    · cases he
  case buildSlice => cases ha
  case load t a =>
    have he : opLoad2 P _ t (opd S.T H a) = _ := he
    unfold opLoad2 at he
    split at he
    · exact vRes_same he
    · cases he
  case nilCheck x =>
    have he : opNilCheck2 P _ (opd S.T H x) = _ := he
    unfold opNilCheck2 at he
    split at he <;> first | (injection he with he; injection he with _ he; exact he.symm) | cases he
  case binOp op t x y u =>
    have he : opBin2 P _ op t (opd S.T H x) (opd S.T H y) = _ := he
    have hslow : ∀ X : Cx, X.H = H → X.S = S → ∀ a b, opBinSlow P X op t a b = some (.val v H') → H' = H := fun X hX hS a b q => by
      unfold opBinSlow at q
      refine orElse_same (fun q => ?_) (fun q => ?_) q
      · unfold Cx.plainly at q; rw [hX, hS] at q; exact hpl _ q
      · unfold opBinEq at q
        split at q
        · split at q
          · injection q with q; injection q with _ q; rw [← q, hX]
          · cases q
        · split at q
          · injection q with q; injection q with _ q; rw [← q, hX]
          · cases q
        · cases q
    unfold opBin2 at he
    split at he
    · unfold opBin3 at he
      rename_i k a l b _ _
      cases hk : kindEq k l with
      | false => rw [hk, cond_false] at he; exact hslow _ (by rfl) (by rfl) _ _ he
      | true =>
        rw [hk, cond_true] at he
        unfold intBin at he
        split at he <;> first | exact retInt_same he | exact retBool_same he | exact hpl _ he
    · exact hslow _ (by rfl) (by rfl) _ _ he
    · cases he
  case unOp op t x => exact hpl _ he
  case convert s d x =>
    have he : opConvert2 P _ s d (opd S.T H x) = _ := he
    unfold opConvert2 at he
    split at he
    · cases he
    · rename_i s0 _
      cases hv : evStrBytes P H s d s0 with
      | none => rw [hv] at he; exact hpl _ he
      | some p =>
        obtain ⟨u, H1⟩ := p
        rw [hv] at he
        have he : some (OpRes.val u H1) = some (.val v H') := he
        injection he with he; injection he with _ he; subst he
        have := evStrBytes_nx hv
        omega
    · exact vRes_same he
    · exact vRes_same he
    · split at he
      · exact retInt_same he
      · exact hpl _ he
    · exact hpl _ he
  case makeInterface t x =>
    have he : opMakeInterface2 P _ t (opd S.T H x) (P.underlying t) = _ := he
    unfold opMakeInterface2 at he
    split at he <;> first | (injection he with he; injection he with _ he; exact he.symm) | cases he
  case makeFunc fn first captured =>
    have he : opMakeFunc2 P _ fn (opds S.T H first.toList) (opds S.T H captured.toList) = _ := he
    unfold opMakeFunc2 at he
    split at he
    · split at he
      · cases he
      · injection he with he; injection he with _ he; exact he.symm
    · cases he
  case makeMap => cases ha
  case makeSlice => cases ha
  case slice t x lo hi mx =>
    cases mx with
    | some m => cases he
    | none =>
      have he : opSlice2 P _ t (opd S.T H x) (optOpd S.T H lo) (optOpd S.T H hi) = _ := he
      unfold opSlice2 at he
      split at he
      · exact orElse_same (fun q => vRes_same q) (fun q => hpl _ q) he
      · cases he
  case fieldAddr t x f =>
    have he : opFieldAddr2 P _ t f (opd S.T H x) = _ := he
    unfold opFieldAddr2 at he
    split at he
    · exact vRes_same he
    · cases he
  case field t x f =>
    have he : opField2 P _ f (opd S.T H x) (P.underlying t) = _ := he
    unfold opField2 at he
    split at he
    · split at he
      · exact vRes_same he
      · cases he
    · cases he
  case indexAddr t x i =>
    have he : opIndexAddr2 P _ t (opd S.T H x) (opd S.T H i) = _ := he
    unfold opIndexAddr2 at he
    split at he
    · exact vRes_same he
    · cases he
  case index t x i =>
    have he : opIndex2 P _ (opd S.T H x) (opd S.T H i) (P.underlying t) = _ := he
    unfold opIndex2 at he
    split at he
    · split at he
      · exact vRes_same he
      · cases he
    · split at he
      · split at he
        · exact retInt_same he
        · cases he
      · cases he
    · cases he
  case lookup t x i ok =>
    have he : opLookup2 P _ t ok (opd S.T H x) (opd S.T H i) = _ := he
    unfold opLookup2 at he
    split at he
    · exact vRes_same he
    · cases he
  case typeAssert x t a ok =>
    have he : opTypeAssert2 P _ a ok (opd S.T H x) = _ := he
    unfold opTypeAssert2 at he
    split at he
    · exact vRes_same he
    · cases he
  case extract x ix =>
    have he : opExtract2 P _ ix (opd S.T H x) = _ := he
    unfold opExtract2 at he
    split at he
    · exact vRes_same he
    · cases he
  case call c =>
    have he : opCall P _ c = _ := he
    obtain ⟨callee, args, argTypes⟩ := c
    unfold opCall at he
    cases callee with
    | value f => cases hc
    | invoke r m => cases hc
    | builtin b =>
      simp only at he hc
      unfold evBuiltin at he
      split at he
      · cases he
      · cases b <;> simp only at hc <;> first | cases hc | skip
        all_goals simp only at he
        all_goals first
          | exact hpl _ he
          | skip
        all_goals (
          split at he
          all_goals first
            | contradiction
            | exact hpl _ he
            | (cases he; done)
            | (cases he; rfl)
            | skip
          all_goals (
            split at he
            all_goals first
              | contradiction
              | exact hpl _ he
              | (cases he; done)
              | (cases he; rfl)
              | exact bif_same he
              | (split at he <;> first | (cases he; done) | exact retInt_same he)
              | (split at he <;> first | (cases he; done) | (cases he; rfl))))
  all_goals first | (cases hc; done) | (cases he; done)
end
end Go.Cre

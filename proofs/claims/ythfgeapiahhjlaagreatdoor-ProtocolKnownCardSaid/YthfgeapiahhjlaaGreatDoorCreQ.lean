/- A part of a verified evaluator of closed calls: see YthfgeapiahhjlaaGreatDoorCreZ. -/
import Derived.Test.YthfgeapiahhjlaaGreatDoorCreP
set_option linter.unusedVariables false
set_option linter.unusedSimpArgs false
namespace Go.Cre
open Go.RowKit

section
variable {P : Program} {B : Nat → Prop} {w0 w : World} {μ : Mp} {H H' : Hp} {n : Nat} {tmps : Array Value}
variable {call : CallEv} {yld : YieldEv} {o : Oper} {S : St}

theorem VRel.func_inv {fn : Fn} {a b : Array Value} {v : Value} (h : VRel μ (.func fn a b) v) :
    (∃ a' b', v = .func fn a' b' ∧ notYield fn = true ∧ LRel μ a.toList a'.toList ∧ LRel μ b.toList b'.toList) ∨ (∃ l L, fn = .yield l ∧ μ l = some L ∧ a = #[] ∧ b = #[] ∧ v = .func (.yield L.r) #[] #[]) := by
  cases h with
  | atom _ q => simp [isAtom] at q
  | func fn a b a' b' hy ha hb hra hrb =>
    exact .inl ⟨a', b', rfl, hy, ⟨by simpa using ha, fun i v v' x y => hra i v v' (by simpa using x) (by simpa using y)⟩, ⟨by simpa using hb, fun i v v' x y => hrb i v v' (by simpa using x) (by simpa using y)⟩⟩
  | yield l L hL => exact .inr ⟨l, L, rfl, hL, rfl, rfl, rfl⟩

/-- a method that the dynamic type has of its own -/
theorem evMethod_sound {recv recv' : Value} {name : String} {rest rest' : List Value} {f : FuncId} {as : List Value} (hr : VRel μ recv recv') (hl : LRel μ rest rest') (he : evMethod P H recv name rest = some (f, as)) :
    ∃ as', (callMethod recv' name rest'.toArray).run P w = (callFunc f as'.toArray).run P w ∧ LRel μ as as' := by
  unfold evMethod at he
  cases recv with
  | iface t v =>
    obtain ⟨v', rfl, hv⟩ := hr.iface_inv
    simp only at he
    cases hi : P.info? t with
    | none => rw [hi] at he; simp at he
    | some i =>
      rw [hi] at he
      simp only at he
      cases hm : i.methods.find? (·.name == name) with
      | none => rw [hm] at he; simp at he
      | some m =>
        rw [hm] at he
        simp only at he
        cases hp : m.path.isEmpty with
        | false => rw [hp] at he; simp at he
        | true =>
          rw [hp] at he
          simp only [Bool.not_true, cond_false] at he
          have hpath : m.path = #[] := by simpa using hp
          cases hf : m.func with
          | none => rw [hf] at he; simp at he
          | some q =>
            obtain ⟨g, pr⟩ := q
            rw [hf] at he
            simp only at he
            have key : ∀ u', (∀ nm, (receiverAt t (.val v') pr nm).run P w = .ok u' w) → f = g → (callMethod (.iface t v') name rest'.toArray).run P w = (callFunc f (u' :: rest').toArray).run P w := by
              intro u' hu' hfg
              subst hfg
              have hmeth : (method (P.types.size + Made.depth) t v' name).run P w = .ok (f, u') w := by
                have : P.types.size + Made.depth = (P.types.size + 99) + 1 := rfl
                rw [this]
                generalize P.types.size + 99 = k
                simp [method, typeInfo, hi, hm, hpath, follow, hf, hu']
              simp [callMethod, hmeth]
            cases hu : P.underlying t with
            | none => rw [hu] at he; simp at he
            | some d =>
              rw [hu] at he
              cases d with
              | pointer elem =>
                cases pr with
                | true =>
                  simp only [Option.some.injEq, Prod.mk.injEq] at he
                  obtain ⟨rfl, rfl⟩ := he
                  exact ⟨v' :: rest', key v' (fun nm => by simp [receiverAt, und_run hu, Place.get]) rfl, LRel.cons hv hl⟩
                | false => simp at he
              | _ =>
                cases pr with
                | true => simp at he
                | false =>
                  simp only [Option.some.injEq, Prod.mk.injEq] at he
                  obtain ⟨rfl, rfl⟩ := he
                  exact ⟨v' :: rest', key v' (fun nm => by simp [receiverAt, und_run hu, Place.get]) rfl, LRel.cons hv hl⟩
  | _ => simp at he

theorem evFn_sound {fn : Fn} {args args' cap cap' : List Value} {f : FuncId} {as : List Value} (ha : LRel μ args args') (hc : LRel μ cap cap') (he : evFn P H fn args cap = some (f, as)) :
    ∃ as', (invoke (.fn fn cap'.toArray) args'.toArray).run P w = (callFunc f as'.toArray).run P w ∧ LRel μ as as' := by
  unfold evFn at he
  cases fn with
  | func g =>
    simp only [Option.some.injEq, Prod.mk.injEq] at he
    obtain ⟨rfl, rfl⟩ := he
    refine ⟨args' ++ cap', ?_, ha.append hc⟩
    simp [invoke]
  | method name =>
    cases args with
    | nil => simp at he
    | cons r rest =>
      obtain ⟨r', rest', rfl, h1, h2⟩ := ha.inv_cons
      obtain ⟨as', a, b⟩ := evMethod_sound (w := w) h1 h2 he
      refine ⟨as', ?_, b⟩
      rw [← a]
      simp [invoke]
  | methodOf t name =>
    cases args with
    | nil => simp at he
    | cons r rest =>
      obtain ⟨r', rest', rfl, h1, h2⟩ := ha.inv_cons
      simp only at he
      cases hu : P.underlying t with
      | none => rw [hu] at he; simp at he
      | some d =>
        rw [hu] at he
        by_cases hd : ∃ ms, d = .interface ms
        · obtain ⟨ms, rfl⟩ := hd
          obtain ⟨as', a, b⟩ := evMethod_sound (w := w) h1 h2 he
          refine ⟨as', ?_, b⟩
          rw [← a]
          simp [invoke, und_run hu]
        · have he' : evMethod P H (.iface t r) name rest = some (f, as) := by
            cases d <;> first | exact he | exact absurd ⟨_, rfl⟩ hd
          obtain ⟨as', a, b⟩ := evMethod_sound (w := w) (.iface t r r' h1) h2 he'
          refine ⟨as', ?_, b⟩
          rw [← a]
          cases d <;> first | exact absurd ⟨_, rfl⟩ hd | simp [invoke, und_run hu]
  | _ => simp at he

theorem evCallee_sound (h : HRel P B w0 μ H w) (ht : TRel μ S.T n tmps) {c : Call} {r : OpRes} (hc : o.op = .call c) (hnb : ∀ b, c.callee ≠ .builtin b) (he : evCallee P call yld S.T H c = some r) : OpOk P B w0 call yld μ H w (execOp (rho tmps) o) r := by
  unfold evCallee at he
  have hargs : ∀ args, opds S.T H c.args.toList = some args → LRel μ args (c.args.map (rho tmps)).toList := fun args q => by
    have := opds_sound h ht q; simpa using this
  have fin : ∀ f as as', (execOp (rho tmps) o).run P w = (callFunc f as'.toArray).run P w → LRel μ as as' → endRes (call f as H) = some r → OpOk P B w0 call yld μ H w (execOp (rho tmps) o) r := by
    intro f as as' h1 h2 h3
    cases hcall : call f as H with
    | none => rw [hcall] at h3; simp [endRes] at h3
    | some p =>
      obtain ⟨e, H1⟩ := p
      rw [hcall] at h3
      cases e with
      | returned v => simp [endRes] at h3; subst h3; exact .inr (.inl ⟨f, as, as', h1, h2, hcall⟩)
      | panicked ch => simp [endRes] at h3; subst h3; exact .inr ⟨f, as, as', h1, h2, hcall⟩
      | outgrown => simp [endRes] at h3
  cases ha : opds S.T H c.args.toList with
  | none => rw [ha] at he; simp at he
  | some args =>
    rw [ha] at he
    simp only at he
    have hl := hargs args ha
    cases hcal : c.callee with
    | builtin b => exact absurd hcal (hnb b)
    | invoke recv name =>
      rw [hcal] at he
      simp only at he
      cases hr : opd S.T H recv with
      | none => rw [hr] at he; simp at he
      | some rv =>
        rw [hr] at he
        simp only at he
        cases hm : evMethod P H rv name args with
        | none => rw [hm] at he; simp at he
        | some p =>
          obtain ⟨f, as⟩ := p
          rw [hm] at he
          obtain ⟨as', a1, a2⟩ := evMethod_sound (w := w) (opd_sound h ht hr) hl hm
          refine fin f as as' ?_ a2 he
          rw [← a1]
          have e0 : (#[rho tmps recv] ++ Array.map (rho tmps) c.args)[0]? = some (rho tmps recv) := by rw [Array.getElem?_append_left (by simp)]; rfl
          have e1 : (Array.map (rho tmps) c.args).extract 0 c.args.size = (List.map (rho tmps) c.args.toList).toArray := by apply Array.ext'; simp; exact List.take_of_length_le (by simp)
          simp [execOp, hc, resolve, hcal, invoke, e0, e1]
    | value fo =>
      rw [hcal] at he
      simp only at he
      cases hf : opd S.T H fo with
      | none => rw [hf] at he; simp at he
      | some fv =>
        rw [hf] at he
        have hfr := opd_sound h ht hf
        cases fv with
        | func fn first captured =>
          rcases hfr.func_inv with ⟨a', b', hv, hny, h1, h2⟩ | ⟨l, L, rfl, hL, rfl, rfl, hv⟩
          · have he' : (match evFn P H fn (first.toList ++ args) captured.toList with | some (f, as) => endRes (call f as H) | none => none) = some r := by
              cases fn <;> first | exact he | (simp [notYield] at hny)
            cases hm : evFn P H fn (first.toList ++ args) captured.toList with
            | none => rw [hm] at he'; simp at he'
            | some p =>
              obtain ⟨f, as⟩ := p
              rw [hm] at he'
              obtain ⟨as', a1, a2⟩ := evFn_sound (w := w) (h1.append hl) h2 hm
              refine fin f as as' ?_ a2 he'
              rw [← a1]
              have e1 : (a'.toList ++ (c.args.map (rho tmps)).toList).toArray = a' ++ c.args.map (rho tmps) := by apply Array.ext'; simp
              have e2 : b'.toList.toArray = b' := by simp
              rw [e1, e2]
              simp [execOp, hc, resolve, hcal, Deferred.ofValue, hv]
          · simp only [Array.isEmpty_empty, Bool.and_self, cond_true] at he
            cases hy : yld l args H with
            | none => rw [hy] at he; simp [yldRes] at he
            | some p =>
              obtain ⟨e, H1⟩ := p
              rw [hy] at he
              cases e with
              | returned v =>
                simp [yldRes] at he; subst he
                refine .inr (.inr ⟨l, L, args, (c.args.map (rho tmps)).toList, hL, ?_, hl, hy⟩)
                have e1 : (List.map (rho tmps) c.args.toList).toArray = c.args.map (rho tmps) := by apply Array.ext'; simp
                simp [execOp, hc, resolve, hcal, Deferred.ofValue, hv, invoke, e1]
              | panicked ch => simp [yldRes] at he
              | outgrown => simp [yldRes] at he
        | _ => simp at he
end
end Go.Cre

/- A part of a verified evaluator of closed calls: see YthfgeapiahhjlaaGreatDoorCreZ. -/
import Derived.Test.YthfgeapiahhjlaaGreatDoorCreN
set_option linter.unusedVariables false
set_option linter.unusedSimpArgs false
namespace Go.Cre
open Go.RowKit

section
variable {P : Program} {B : Nat → Prop} {w0 w : World} {μ : Mp} {H H' : Hp} {T : Tr Value} {n : Nat} {tmps : Array Value}

def rho (tmps : Array Value) : Operand → Value
  | .tmp t => tmps.getD t undef
  | .const v => v
  | .global g => .pointer (some ⟨g, 0, none⟩)
  | .func f => .func (.func f) #[] #[]

theorem opd_sound (h : HRel P B w0 μ H w) (ht : TRel μ T n tmps) {x : Operand} {v : Value} (he : opd T H x = some v) : VRel μ v (rho tmps x) := by
  cases x with
  | tmp t => exact ht.2 t v he
  | const c =>
    have he : (bif plain c then some c else none) = some v := he
    cases hp : plain c with
    | false => rw [hp] at he; simp at he
    | true => rw [hp] at he; simp at he; subst he; exact plain_rel hp
  | global g =>
    have he : opdGlob H g = some v := he
    unfold opdGlob at he
    cases hg : Nat.blt g H.glo with
    | false => rw [hg] at he; simp at he
    | true =>
      rw [hg, cond_true] at he
      have hg : g < H.glo := Nat.le_of_ble_eq_true hg
      cases hm : H.mem.get g with
      | none => rw [hm] at he; simp at he
      | some b =>
        rw [hm] at he
        cases b with
        | row c e o f z s =>
          simp only [Option.some.injEq] at he; subst he
          obtain ⟨L, hL⟩ := h.glob g c e o f z s hg hm
          have := VRel.ptr (μ := μ) g 0 L hL
          rw [h.own g L hL hg] at this
          exact this
        | _ => simp at he
  | func f =>
    have he : some (Value.func (.func f) #[] #[]) = some v := he
    injection he with he; subst he
    exact .func _ _ _ _ _ rfl rfl rfl (fun i v v' q => by simp at q) (fun i v v' q => by simp at q)

theorem opds_sound (h : HRel P B w0 μ H w) (ht : TRel μ T n tmps) : ∀ {l : List Operand} {vs : List Value}, opds T H l = some vs → LRel μ vs (l.map (rho tmps)) := by
  intro l
  induction l with
  | nil => intro vs he; simp [opds] at he; subst he; exact LRel.nil _
  | cons x l ih =>
    intro vs he
    simp only [opds] at he
    cases hx : opd T H x with
    | none => rw [hx] at he; simp at he
    | some v =>
      rw [hx] at he
      cases hl : opds T H l with
      | none => rw [hl] at he; simp at he
      | some r => rw [hl] at he; simp at he; subst he; exact LRel.cons (opd_sound h ht hx) (ih hl)

theorem opds_mem : ∀ {l : List Operand} {vs : List Value}, opds T H l = some vs → ∀ x ∈ l, ∃ v, opd T H x = some v ∧ v ∈ vs := by
  intro l
  induction l with
  | nil => intro vs he x hx; simp at hx
  | cons y l ih =>
    intro vs he x hx
    simp only [opds] at he
    cases hy : opd T H y with
    | none => rw [hy] at he; simp at he
    | some v =>
      rw [hy] at he
      cases hl : opds T H l with
      | none => rw [hl] at he; simp at he
      | some r =>
        rw [hl] at he; simp at he; subst he
        rcases List.mem_cons.1 hx with rfl | hx
        · exact ⟨v, hy, by simp⟩
        · obtain ⟨u, a, b⟩ := ih hl x hx; exact ⟨u, a, by simp [b]⟩

theorem pairs_sound (h : HRel P B w0 μ H w) (ht : TRel μ T n tmps) : ∀ {l : List (Nat × Operand)} {ps : List (Nat × Value)}, pairs T H l = some ps → PRel μ ps (l.map fun (i, x) => (i, rho tmps x)) := by
  intro l
  induction l with
  | nil => intro vs he; simp [pairs] at he; subst he; exact ⟨rfl, fun i p p' q => by simp at q⟩
  | cons x l ih =>
    intro vs he
    obtain ⟨i, x⟩ := x
    simp only [pairs] at he
    cases hx : opd T H x with
    | none => rw [hx] at he; simp at he
    | some v =>
      rw [hx] at he
      cases hl : pairs T H l with
      | none => rw [hl] at he; simp at he
      | some r =>
        rw [hl] at he; simp at he; subst he
        have := ih hl
        refine ⟨by simp [this.1], fun j p p' q q' => ?_⟩
        cases j with
        | zero => simp at q q'; subst q; subst q'; exact ⟨rfl, opd_sound h ht hx⟩
        | succ j => exact this.2 j p p' (by simpa using q) (by simpa using q')

/-- what an operation comes to -/
def OpOk (P : Program) (B : Nat → Prop) (w0 : World) (call : CallEv) (yld : YieldEv) (μ : Mp) (H : Hp) (w : World) (s : Sem Next) : OpRes → Prop
  | .val v H' => (∃ v' w' μ', s.run P w = .ok (.value v') w' ∧ HRel P B w0 μ' H' w' ∧ Step μ μ' H H' ∧ VRel μ' v v') ∨
      (∃ f args args', s.run P w = (callFunc f args'.toArray).run P w ∧ LRel μ args args' ∧ call f args H = some (.returned v, H')) ∨
      (∃ l L args args', μ l = some L ∧ s.run P w = (Instr.yield L.r args'.toArray).run P w ∧ LRel μ args args' ∧ yld l args H = some (.returned v, H'))
  | .skip H' => ∃ w', s.run P w = .ok .skip w' ∧ HRel P B w0 μ H' w' ∧ Step μ μ H H'
  | .dfr d => ∃ fv cap cap' args args', d = { target := .fn fv cap, args := args.toArray } ∧ s.run P w = .ok (.defer { target := .fn fv cap', args := args'.toArray }) w ∧ notYield fv = true ∧ LRel μ cap.toList cap'.toList ∧ LRel μ args args'
  | .pan chain H' => (∃ v v', chain = [{ v := v, recovered := false }] ∧ H' = H ∧ s.run P w = .halt (.panic v') w ∧ VRel μ v v') ∨
      (∃ f args args', s.run P w = (callFunc f args'.toArray).run P w ∧ LRel μ args args' ∧ call f args H = some (.panicked chain, H'))
  | .rcv => s.run P w = .ok .recover w

variable {call : CallEv} {yld : YieldEv} {o : Oper} {S : St}

theorem opOk_val {s : Sem Value} {x : Option Value} {r : OpRes} (h : HRel P B w0 μ H w) (hs : ∀ v, x = some v → ∃ v', s.run P w = .ok v' w ∧ VRel μ v v') (he : vRes x H = some r) :
    OpOk P B w0 call yld μ H w (do pure (.value (← s))) r := by
  cases x with
  | none => cases he
  | some v =>
    have he : some (OpRes.val v H) = some r := he
    injection he with he; subst he
    obtain ⟨v', a, b⟩ := hs v rfl
    exact .inl ⟨v', w, μ, by simp [a], h, Step.refl _ _, b⟩

theorem opOk_vh {s : Sem Value} {x : Option (Value × Hp)} {r : OpRes} (hs : ∀ v H', x = some (v, H') → ∃ v' w' μ', s.run P w = .ok v' w' ∧ HRel P B w0 μ' H' w' ∧ Step μ μ' H H' ∧ VRel μ' v v') (he : vhRes x = some r) :
    OpOk P B w0 call yld μ H w (do pure (.value (← s))) r := by
  cases x with
  | none => cases he
  | some p =>
    obtain ⟨v, H'⟩ := p
    have he : some (OpRes.val v H') = some r := he
    injection he with he; subst he
    obtain ⟨v', w', μ', a, b, c, d⟩ := hs v H' rfl
    exact .inl ⟨v', w', μ', by simp [a], b, c, d⟩

theorem opOk_h {s : Sem Unit} {x : Option Hp} {r : OpRes} (hs : ∀ H', x = some H' → ∃ w', s.run P w = .ok () w' ∧ HRel P B w0 μ H' w' ∧ Step μ μ H H') (he : hRes x = some r) :
    OpOk P B w0 call yld μ H w (do s; pure .skip) r := by
  cases x with
  | none => cases he
  | some H' =>
    have he : some (OpRes.skip H') = some r := he
    injection he with he; subst he
    obtain ⟨w', a, b, c⟩ := hs H' rfl
    exact ⟨w', by simp [a], b, c⟩

theorem evPlain_sound (h : HRel P B w0 μ H w) (ht : TRel μ T n tmps) (hsel : ∀ cs b, o.op ≠ .select cs b) {r : OpRes} (he : evPlain P T H o = some r) : OpOk P B w0 call yld μ H w (execOp (rho tmps) o) r := by
  unfold evPlain at he
  cases ho : opds T H o.op.operands.toList with
  | none => rw [ho] at he; simp at he
  | some vs =>
    rw [ho] at he
    simp only at he
    cases hp : vs.all plain with
    | false => rw [hp] at he; simp at he
    | true =>
      rw [hp, cond_true] at he
      have hcong : execOp (opdOr T H) o = execOp (rho tmps) o := execOp_congr o hsel fun x hx => by
        obtain ⟨v, a, b⟩ := opds_mem ho x (by simpa using hx)
        unfold opdOr
        rw [a]
        exact (plain_eq (List.all_eq_true.1 hp v b) (opd_sound h ht a)).symm
      rw [hcong] at he
      cases hev : evPure P (execOp (rho tmps) o) with
      | none => rw [hev] at he; simp at he
      | some nx =>
        rw [hev] at he
        have hrun := evPure_run hev w
        cases nx with
        | value v =>
          simp only at he
          cases hv : plain v with
          | false => rw [hv] at he; simp at he
          | true =>
            rw [hv, cond_true] at he
            simp only [Option.some.injEq] at he; subst he
            exact .inl ⟨v, w, μ, hrun, h, Step.refl _ _, plain_rel hv⟩
        | skip =>
          simp only [Option.some.injEq] at he; subst he
          exact ⟨w, hrun, h, Step.refl _ _⟩
        | _ => simp at he
end
end Go.Cre

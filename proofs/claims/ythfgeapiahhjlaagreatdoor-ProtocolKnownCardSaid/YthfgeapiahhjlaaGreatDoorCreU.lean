/- A part of a verified evaluator of closed calls: see YthfgeapiahhjlaaGreatDoorCreZ. -/
import Derived.Test.YthfgeapiahhjlaaGreatDoorCreT
set_option linter.unusedVariables false
set_option linter.unusedSimpArgs false
namespace Go.Cre
open Go.RowKit

def CRel (μ : Mp) (c c' : List PanicEntry) : Prop := c.length = c'.length ∧ ∀ (i : Nat) e e', c[i]? = some e → c'[i]? = some e' → e'.recovered = e.recovered ∧ e'.goexit = e.goexit ∧ VRel μ e.v e'.v
def MRel (μ : Mp) : FrameMode → FrameMode → Prop
  | .run, .run => True
  | .returning, .returning => True
  | .panicking c, .panicking c' => CRel μ c c'
  | _, _ => False
def DfRel (μ : Mp) (d d' : Deferred) : Prop :=
  (∃ fv cap cap', d.target = .fn fv cap ∧ d'.target = .fn fv cap' ∧ notYield fv = true ∧ LRel μ cap.toList cap'.toList ∧ LRel μ d.args.toList d'.args.toList) ∨ (∃ r L, d.target = .collected r ∧ μ r = some L ∧ d'.target = .collected L.r)
inductive DRel (μ : Mp) : List Deferred → List Deferred → Prop
  | nil : DRel μ [] []
  | cons (d d' : Deferred) (l l' : List Deferred) : DfRel μ d d' → DRel μ l l' → DRel μ (d :: l) (d' :: l')
def EndRel (μ : Mp) : Ending → Ending → Prop
  | .returned v, .returned v' => VRel μ v v'
  | .panicked c, .panicked c' => CRel μ c c'
  | _, _ => False

section
variable {P : Program} {B : Nat → Prop} {w0 w : World} {μ μ' : Mp} {H H' : Hp}

theorem CRel.mono {c c' : List PanicEntry} (h : CRel μ c c') (e : Ext μ μ') : CRel μ' c c' := ⟨h.1, fun i a b x y => by obtain ⟨p, q, r⟩ := h.2 i a b x y; exact ⟨p, q, r.mono e⟩⟩
theorem MRel.mono {m m' : FrameMode} (h : MRel μ m m') (e : Ext μ μ') : MRel μ' m m' := by
  cases m <;> cases m' <;> first | trivial | exact h.elim | exact CRel.mono h e
theorem DfRel.mono {d d' : Deferred} (h : DfRel μ d d') (e : Ext μ μ') : DfRel μ' d d' := by
  rcases h with ⟨fv, cap, cap', h1, h2, h3, h4, h5⟩ | ⟨r, L, h1, h2, h3⟩
  · exact .inl ⟨fv, cap, cap', h1, h2, h3, h4.mono e, h5.mono e⟩
  · exact .inr ⟨r, L, h1, e _ _ h2, h3⟩
theorem DRel.mono {l l' : List Deferred} (h : DRel μ l l') (e : Ext μ μ') : DRel μ' l l' := by
  induction h with
  | nil => exact .nil
  | cons d d' l l' hd _ ih => exact .cons d d' l l' (hd.mono e) ih
theorem CRel.single {v v' : Value} (h : VRel μ v v') : CRel μ [{ v := v, recovered := false }] [{ v := v', recovered := false }] :=
  ⟨rfl, fun i e e' x y => by
    cases i with
    | zero => simp at x y; subst x; subst y; exact ⟨rfl, rfl, h⟩
    | succ i => simp at x⟩

structure FRel (μ : Mp) (S : St) (fr : Frame) (tmps : Array Value) (ds : List Deferred) (cs : List Frame) : Prop where
  t : TRel μ S.T S.n tmps
  d : DRel μ S.ds ds
  kind : fr.kind = if S.dfd then .deferred else .normal
  rnd0 : S.rnd = none → fr.roundOf = none
  rnd1 : ∀ l, S.rnd = some l → ∃ L, μ l = some L ∧ fr.roundOf = some L.r
  um : S.dfd = true → ∃ c rest, cs = c :: rest ∧ MRel μ S.um c.mode

theorem FRel.mono {S : St} {fr : Frame} {tmps : Array Value} {ds : List Deferred} {cs : List Frame} (h : FRel μ S fr tmps ds cs) (e : Ext μ μ') : FRel μ' S fr tmps ds cs :=
  ⟨h.t.mono e, h.d.mono e, h.kind, h.rnd0, fun l q => by obtain ⟨L, a, b⟩ := h.rnd1 l q; exact ⟨L, e _ _ a, b⟩, fun q => by obtain ⟨c, r, a, b⟩ := h.um q; exact ⟨c, r, a, b.mono e⟩⟩

/-- what may become of the callers: the mode of the next one, where the frame is a deferred call's -/
def CsRel (d : Bool) (cs cs' : List Frame) : Prop := if d then ∃ c rest m, cs = c :: rest ∧ cs' = { c with mode := m } :: rest else cs' = cs
theorem CsRel.refl (d : Bool) (cs : List Frame) (h : d = true → ∃ c rest, cs = c :: rest) : CsRel d cs cs := by
  cases d with
  | false => rfl
  | true => obtain ⟨c, rest, rfl⟩ := h rfl; exact ⟨c, rest, c.mode, rfl, rfl⟩
theorem CsRel.trans {d : Bool} {a b c : List Frame} (h : CsRel d a b) (k : CsRel d b c) : CsRel d a c := by
  cases d with
  | false => exact Eq.trans k h
  | true =>
    obtain ⟨x, rest, m, rfl, rfl⟩ := h
    obtain ⟨y, rest', m', e, rfl⟩ := k
    injection e with e1 e2; subst e1; subst e2
    exact ⟨x, rest, m', rfl, rfl⟩

def CallSound (P : Program) (B : Nat → Prop) (w0 : World) (call : CallEv) : Prop :=
  ∀ f args H e H', call f args H = some (e, H') → ∀ μ w args', HRel P B w0 μ H w → LRel μ args args' →
    (∃ v v' w' μ', e = .returned v ∧ (callFunc f args'.toArray).run P w = .ok (.value v') w' ∧ HRel P B w0 μ' H' w' ∧ Step μ μ' H H' ∧ VRel μ' v v') ∨
    ((callFunc f args'.toArray).run P w = .ok (.enter f args'.toArray) w ∧ Calls P f args'.toArray w (fun e' w' => ∃ μ', HRel P B w0 μ' H' w' ∧ Step μ μ' H H' ∧ EndRel μ' e e'))

def YieldSound (P : Program) (B : Nat → Prop) (w0 : World) (yld : YieldEv) : Prop :=
  ∀ l args H e H', yld l args H = some (e, H') → ∀ μ w L args', HRel P B w0 μ H w → μ l = some L → LRel μ args args' →
    ∃ v f tm a b, e = .returned v ∧ (Instr.yield L.r args'.toArray).run P w = .ok (.round L.r f tm a b) w ∧
      ∀ caller cs, ∃ v' w' μ', HRel P B w0 μ' H' w' ∧ Step μ μ' H H' ∧ VRel μ' v v' ∧ Steps P (lone (Frame.round L.r f tm a b .normal) (caller :: cs) w) (lone (caller.finish v') cs w')

/-- the guard -/
theorem guard_sound {ops : Array Oper} {T : Tr Value} {n : Nat} {tmps : Array Value} {o : Oper} {b : Bool} (ht : TRel μ T n tmps) (he : guardB ops.toList T o = some b) : Region.wanted o (yielded ops tmps) = b := by
  unfold guardB at he
  unfold Region.wanted
  cases hg : o.guard with
  | none => rw [hg] at he; simp at he; exact he.symm ▸ rfl
  | some p =>
    obtain ⟨j, want⟩ := p
    rw [hg] at he
    have he : guardC ops.toList T (j, want) = some b := he
    simp only [guardC, nth_eq] at he
    simp only [yielded]
    have hj : ops.toList[j]? = ops[j]? := by simp
    rw [hj] at he
    cases hp : ops[j]? with
    | none => rw [hp] at he; simp at he; subst he; simp
    | some p =>
      rw [hp] at he
      simp only at he
      cases hd : p.dst with
      | none => rw [hd] at he; simp at he; subst he; simp [hd]
      | some d =>
        rw [hd] at he
        simp only at he
        cases hT : T.get d with
        | none => rw [hT] at he; simp at he
        | some v =>
          rw [hT] at he
          have hv := ht.2 d v hT
          have hget : tmps[d]? = some (tmps.getD d undef) ∨ (tmps[d]? = none ∧ tmps.getD d undef = undef) := by
            rcases Nat.lt_or_ge d tmps.size with q | q
            · left; simp [q]
            · right; simp [q]
          simp only [Option.bind_some, hd]
          have nb : (∀ c, v ≠ .bool c) → ∀ c, tmps.getD d undef ≠ .bool c := fun hn c q => by
            rw [q] at hv
            cases hv with
            | atom _ _ => exact hn c rfl
          by_cases hvb : ∃ c, v = .bool c
          · obtain ⟨c, rfl⟩ := hvb
            simp only [Option.some.injEq] at he; subst he
            have hgb := hv.bool_inv
            rcases hget with q | ⟨_, q⟩
            · rw [q, hgb]; simp
            · rw [q] at hgb; cases hgb
          · have hno : ∀ c, v ≠ .bool c := fun c q => hvb ⟨c, q⟩
            have hb : b = false := by
              cases v <;> first | (simp only [Option.some.injEq] at he; exact he.symm) | exact absurd ⟨_, rfl⟩ hvb
            subst hb
            rcases hget with q | ⟨q, _⟩
            · rw [q]
              have := nb hno
              cases hx : tmps.getD d undef <;> first | rfl | exact absurd hx (this _)
            · rw [q]; rfl

theorem put_sound {S S' : St} {fr : Frame} {tmps : Array Value} {ds : List Deferred} {cs : List Frame} {dst : Option Tmp} {v v' : Value} (h : FRel μ S fr tmps ds cs) (hv : VRel μ v v') (he : S.put dst v = some S') :
    FRel μ S' fr (putT tmps dst v') ds cs ∧ S'.dfd = S.dfd ∧ S'.rnd = S.rnd ∧ S'.um = S.um ∧ S'.ds = S.ds := by
  cases dst with
  | none =>
    have he : some S = some S' := he
    injection he with he; subst he
    exact ⟨h, rfl, rfl, rfl, rfl⟩
  | some d =>
    obtain ⟨T, n, dss, dfd, um, rnd⟩ := S
    have he : Bool.rec (motive := fun _ => Option St) none (St.put3 n dss dfd um rnd (Tr.put v T d)) (Nat.ble (Nat.succ d) n) = some S' := he
    cases hb : Nat.ble (Nat.succ d) n with
    | false => rw [hb] at he; cases he
    | true =>
      rw [hb] at he
      have hb := Nat.le_of_ble_eq_true hb
      have he : St.put3 n dss dfd um rnd (Tr.put v T d) = some S' := he
      cases hp : Tr.put v T d with
      | none => rw [hp] at he; cases he
      | some T' =>
        rw [hp] at he
        have he : some (St.mk T' n dss dfd um rnd) = some S' := he
        injection he with he; subst he
        refine ⟨⟨⟨by have := h.t.1; simpa [putT] using this, fun t u q => ?_⟩, h.d, h.kind, h.rnd0, h.rnd1, h.um⟩, rfl, rfl, rfl, rfl⟩
        have q : T'.get t = some u := q
        rw [Tr.get_put hp] at q
        have hsz : n ≤ tmps.size := h.t.1
        show VRel μ u ((tmps.setIfInBounds d v').getD t undef)
        by_cases htd : t = d
        · subst htd
          rw [if_pos rfl] at q; injection q with q; subst q
          have : (tmps.setIfInBounds t v').getD t undef = v' := by
            have : t < tmps.size := by omega
            simp [this]
          rw [this]; exact hv
        · rw [if_neg htd] at q
          have : (tmps.setIfInBounds d v').getD t undef = tmps.getD t undef := by
            simp [Array.getElem?_setIfInBounds_ne (Ne.symm htd)]
          rw [this]; exact h.t.2 t u q

/-- what a region comes to, from one of its operations -/
def RegOk (P : Program) (B : Nat → Prop) (w0 : World) (μ : Mp) (H : Hp) (S : St) (fr : Frame) (cs : List Frame) (m : Machine) (todo : List Item) : RegRes → Prop
  | .ok S' H' => ∃ μ' w' tmps' ds' cs', HRel P B w0 μ' H' w' ∧ Step μ μ' H H' ∧ FRel μ' S' fr tmps' ds' cs' ∧ CsRel S.dfd cs cs' ∧ S'.dfd = S.dfd ∧ S'.rnd = S.rnd ∧ Steps P m (lone (fat fr tmps' ds' todo) cs' w')
  | .pan chain S' H' => ∃ μ' w' tmps' ds' cs' chain' k0, HRel P B w0 μ' H' w' ∧ Step μ μ' H H' ∧ FRel μ' S' fr tmps' ds' cs' ∧ CsRel S.dfd cs cs' ∧ S'.dfd = S.dfd ∧ S'.rnd = S.rnd ∧ CRel μ' chain chain' ∧
      Steps P m (lone { fat fr tmps' ds' k0 with mode := .panicking chain' } cs' w')
end
end Go.Cre

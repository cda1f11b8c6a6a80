/- A part of the proof of ResumeSaves. -/
import Derived.Test.YtmeojgcibppcmaaDoorCreS
import Derived.Defers
import Derived.Recover
set_option linter.unusedVariables false
set_option linter.unusedSimpArgs false
namespace Go.Cre
open Go.RowKit
def fat (fr : Frame) (tmps : Array Value) (ds : List Deferred) (todo : List Item) : Frame := { fr with tmps := tmps, todo := todo, defers := ds, mode := .run }
section
variable {P : Program} {fr : Frame} {tmps : Array Value} {ds : List Deferred} {k : List Item} {cs : List Frame} {w : World}
theorem fat_eval (todo : List Item) : (fat fr tmps ds todo).eval = rho tmps := by
 funext x; cases x <;> rfl
theorem st_skip : step P (lone (fat fr tmps ds (.code .skip :: k)) cs w) = .next (lone (fat fr tmps ds k) cs w) := step_lone_go (by simp [stepG, stepG.exec, fat])
theorem st_label {l : Nat} : step P (lone (fat fr tmps ds (.code (.label l) :: k)) cs w) = .next (lone (fat fr tmps ds k) cs w) := step_lone_go (by simp [stepG, stepG.exec, fat])
theorem st_inBlock {id : Nat} : step P (lone (fat fr tmps ds (.inBlock id :: k)) cs w) = .next (lone (fat fr tmps ds k) cs w) := step_lone_go (by simp [stepG, stepG.exec, fat])
theorem st_inScope {c : Code} : step P (lone (fat fr tmps ds (.inScope c :: k)) cs w) = .next (lone (fat fr tmps ds k) cs w) := step_lone_go (by simp [stepG, stepG.exec, fat])
theorem st_seq {x y : Code} : step P (lone (fat fr tmps ds (.code (.seq x y) :: k)) cs w) = .next (lone (fat fr tmps ds (.code x :: .code y :: k)) cs w) := step_lone_go (by simp [stepG, stepG.exec, fat])
theorem st_cond {c : Operand} {x y : Code} {t : Bool} (h : rho tmps c = .bool t) : step P (lone (fat fr tmps ds (.code (.cond c x y) :: k)) cs w) = .next (lone (fat fr tmps ds (.code (if t then x else y) :: k)) cs w) :=
 step_lone_go (by
  have he := congrFun (fat_eval (fr := fr) (tmps := tmps) (ds := ds) (.code (.cond c x y) :: k)) c; rw [h] at he; simp only [fat] at he; simp [stepG, stepG.exec, fat, he])
theorem st_block {id : Nat} {c : Code} : step P (lone (fat fr tmps ds (.code (.block id c) :: k)) cs w) = .next (lone (fat fr tmps ds (.code c :: .inBlock id :: k)) cs w) := step_lone_go (by simp [stepG, stepG.exec, fat])
theorem st_scope {c : Code} : step P (lone (fat fr tmps ds (.code (.scope c) :: k)) cs w) = .next (lone (fat fr tmps ds (.code c :: .inScope c :: k)) cs w) := step_lone_go (by simp [stepG, stepG.exec, fat])
theorem st_loop {c : Code} : step P (lone (fat fr tmps ds (.code (.loop c) :: k)) cs w) = .next (lone (fat fr tmps ds (.code c :: .inLoop c :: k)) cs w) := step_lone_go (by simp [stepG, stepG.exec, fat])
theorem st_inLoop {c : Code} : step P (lone (fat fr tmps ds (.inLoop c :: k)) cs w) = .next (lone (fat fr tmps ds (.code c :: .inLoop c :: k)) cs w) := step_lone_go (by simp [stepG, stepG.exec, fat])
theorem st_exit {id : Nat} {k' : List Item} (h : exitTo id k = some k') : step P (lone (fat fr tmps ds (.code (.exit id) :: k)) cs w) = .next (lone (fat fr tmps ds k') cs w) := step_lone_go (by simp [stepG, stepG.exec, fat, h])
theorem st_region {id : Nat} {ops : Array Oper} : step P (lone (fat fr tmps ds (.code (.region id ops false) :: k)) cs w) = .next (lone (fat fr tmps ds (.inRegion ops (List.range ops.size) :: k)) cs w) := step_lone_go (by simp [stepG, stepG.exec, fat])
theorem st_regionEnd {ops : Array Oper} : step P (lone (fat fr tmps ds (.inRegion ops [] :: k)) cs w) = .next (lone (fat fr tmps ds k) cs w) := step_lone_go (by simp [stepG, stepG.exec, fat])
theorem st_draw {id : Nat} {ops : Array Oper} : step P (lone (fat fr tmps ds (.code (.region id ops true) :: k)) cs w) =
  .next (lone (fat fr tmps ds (.inRegion ops (Region.schedule (P.follows .mixedOrders) ops (w.tape w.drawn (.order fr.fn id))) :: k)) cs { w with drawn := w.drawn + 1 }) :=
 step_lone_go (by simp [stepG, stepG.exec, fat, choose, Sem.run, Question.forced, Question.cut])
def putT (tmps : Array Value) (dst : Option Tmp) (v : Value) : Array Value := match dst with | some d => tmps.setIfInBounds d v | none => tmps
theorem fat_finish {ops : Array Oper} {i : Nat} {rest : List Nat} {o : Oper} (ho : ops[i]? = some o) (v : Value) : (fat fr tmps ds (.inRegion ops (i :: rest) :: k)).finish v = fat fr (putT tmps o.dst v) ds (.inRegion ops rest :: k) := by
 simp only [Frame.finish, fat, ho, Option.bind_some, putT]; cases o.dst <;> rfl
theorem st_unwanted {ops : Array Oper} {i : Nat} {rest : List Nat} {o : Oper} (ho : ops[i]? = some o) (hw : Region.wanted o (yielded ops tmps) = false) :
  step P (lone (fat fr tmps ds (.inRegion ops (i :: rest) :: k)) cs w) = .next (lone (fat fr (putT tmps o.dst undef) ds (.inRegion ops rest :: k)) cs w) := by
 rw [← fat_finish ho]; exact step_lone_go (by simp [stepG, stepG.exec, fat, ho, hw])
theorem sg_op {ops : Array Oper} {i : Nat} {rest : List Nat} {o : Oper} (ho : ops[i]? = some o) (hw : Region.wanted o (yielded ops tmps) = true) (hnd : fr.roundOf = none ∨ ∀ c, o.op ≠ .defer c) :
  stepG P true { frame := fat fr tmps ds (.inRegion ops (i :: rest) :: k), callers := cs, status := .running, dying := none } w =
   stepG.apply P true (fat fr tmps ds (.inRegion ops (i :: rest) :: k)) cs none (execOp (rho tmps) o) w := by
 have he := fat_eval (fr := fr) (tmps := tmps) (ds := ds) (.inRegion ops (i :: rest) :: k); simp only [fat] at he; simp only [stepG, stepG.exec, stepG.oper, Frame.oper?, fat, ho, hw, he, Option.map_some, Option.getD_some, if_true]; rcases hnd with h | h
 ·
  rw [h]
 ·
  cases hr : fr.roundOf with
  | none => rfl
  | some l =>
   cases hop : o.op with
   | defer c => exact absurd hop (h c)
   | _ => rfl
theorem st_value {ops : Array Oper} {i : Nat} {rest : List Nat} {o : Oper} {v : Value} {w' : World} (ho : ops[i]? = some o) (hw : Region.wanted o (yielded ops tmps) = true) (hnd : fr.roundOf = none ∨ ∀ c, o.op ≠ .defer c)
  (hr : (execOp (rho tmps) o).run P w = .ok (.value v) w') :
  step P (lone (fat fr tmps ds (.inRegion ops (i :: rest) :: k)) cs w) = .next (lone (fat fr (putT tmps o.dst v) ds (.inRegion ops rest :: k)) cs w') := by
 rw [← fat_finish ho]; exact step_lone_go (by rw [sg_op ho hw hnd]; simp [stepG.apply, hr])
theorem st_skipop {ops : Array Oper} {i : Nat} {rest : List Nat} {o : Oper} {w' : World} (ho : ops[i]? = some o) (hw : Region.wanted o (yielded ops tmps) = true) (hnd : fr.roundOf = none ∨ ∀ c, o.op ≠ .defer c)
  (hr : (execOp (rho tmps) o).run P w = .ok .skip w') :
  step P (lone (fat fr tmps ds (.inRegion ops (i :: rest) :: k)) cs w) = .next (lone (fat fr (putT tmps o.dst undef) ds (.inRegion ops rest :: k)) cs w') := by
 rw [← fat_finish ho]; exact step_lone_go (by rw [sg_op ho hw hnd]; simp [stepG.apply, hr])
theorem st_panicop {ops : Array Oper} {i : Nat} {rest : List Nat} {o : Oper} {v : Value} {w' : World} (ho : ops[i]? = some o) (hw : Region.wanted o (yielded ops tmps) = true) (hnd : fr.roundOf = none ∨ ∀ c, o.op ≠ .defer c)
  (hr : (execOp (rho tmps) o).run P w = .halt (.panic v) w') :
  step P (lone (fat fr tmps ds (.inRegion ops (i :: rest) :: k)) cs w) = .next (lone { fat fr tmps ds (.inRegion ops (i :: rest) :: k) with mode := .panicking [{ v, recovered := false }] } cs w') :=
 step_lone_go (by rw [sg_op ho hw hnd]; simp [stepG.apply, hr, Frame.raise, fat])
theorem st_deferop {ops : Array Oper} {i : Nat} {rest : List Nat} {o : Oper} {d : Deferred} {w' : World} (ho : ops[i]? = some o) (hw : Region.wanted o (yielded ops tmps) = true) (hnd : fr.roundOf = none)
  (hr : (execOp (rho tmps) o).run P w = .ok (.defer d) w') :
  step P (lone (fat fr tmps ds (.inRegion ops (i :: rest) :: k)) cs w) = .next (lone (fat fr (putT tmps o.dst undef) (d :: ds) (.inRegion ops rest :: k)) cs w') := by
 have hf : ({ fat fr tmps ds (.inRegion ops (i :: rest) :: k) with defers := d :: ds } : Frame).finish undef = fat fr (putT tmps o.dst undef) (d :: ds) (.inRegion ops rest :: k) :=
  fat_finish (fr := fr) (tmps := tmps) (ds := d :: ds) (k := k) (rest := rest) ho undef
 refine step_lone_go ?_; rw [sg_op ho hw (.inl hnd)]; simp only [stepG.apply, Sem.runT_eq, hr, GStep.bare_after, if_true]; exact congrArg (fun f => GStep.go { frame := f, callers := cs, status := .running, dying := none } w') hf
theorem st_enter {ops : Array Oper} {i : Nat} {rest : List Nat} {o : Oper} {f : FuncId} {args : Array Value} {w' : World} (ho : ops[i]? = some o) (hw : Region.wanted o (yielded ops tmps) = true) (hnd : fr.roundOf = none ∨ ∀ c, o.op ≠ .defer c)
  (hr : (execOp (rho tmps) o).run P w = .ok (.enter f args) w') :
  step P (lone (fat fr tmps ds (.inRegion ops (i :: rest) :: k)) cs w) = .next (lone (Frame.enter P f args .normal) (fat fr tmps ds (.inRegion ops (i :: rest) :: k) :: cs) w') :=
 step_lone_go (by rw [sg_op ho hw hnd]; simp [stepG.apply, hr, fat])
theorem st_round {ops : Array Oper} {i : Nat} {rest : List Nat} {o : Oper} {l : Nat} {f : FuncId} {tm : Array Value} {a b : Code} {w' : World} (ho : ops[i]? = some o) (hw : Region.wanted o (yielded ops tmps) = true) (hnd : fr.roundOf = none ∨ ∀ c, o.op ≠ .defer c)
  (hr : (execOp (rho tmps) o).run P w = .ok (.round l f tm a b) w') :
  step P (lone (fat fr tmps ds (.inRegion ops (i :: rest) :: k)) cs w) = .next (lone (Frame.round l f tm a b .normal) (fat fr tmps ds (.inRegion ops (i :: rest) :: k) :: cs) w') :=
 step_lone_go (by rw [sg_op ho hw hnd]; simp [stepG.apply, hr])
end
end Go.Cre
namespace Go.Cre
open Go.RowKit
def CRel (μ : Mp) (c c' : List PanicEntry) : Prop := c.length = c'.length ∧ ∀ (i : Nat) e e', c[i]? = some e → c'[i]? = some e' → e'.recovered = e.recovered ∧ e'.goexit = e.goexit ∧ VRel μ e.v e'.v
def MRel (μ : Mp) : FrameMode → FrameMode → Prop
 | .run, .run => True
 | .returning, .returning => True
 | .panicking c, .panicking c' => CRel μ c c'
 | _, _ => False
def DfRel (μ : Mp) (d d' : Deferred) : Prop :=
 (∃ fv cap cap', d.target = .fn fv cap ∧ d'.target = .fn fv cap' ∧ notYield fv = true ∧ LRel μ cap.toList cap'.toList ∧ LRel μ d.args.toList d'.args.toList) ∨ (∃ r L, d.target = .collected r ∧ μ r = some L ∧ d'.target = .collected L.r)
inductive DRel (μ : Mp) : List Deferred → List Deferred → Prop
 | nil : DRel μ [] []
 | cons (d d' : Deferred) (l l' : List Deferred) : DfRel μ d d' → DRel μ l l' → DRel μ (d :: l) (d' :: l')
def EndRel (μ : Mp) : Ending → Ending → Prop
 | .returned v, .returned v' => VRel μ v v'
 | .panicked c, .panicked c' => CRel μ c c'
 | _, _ => False
section
variable {P : Program} {B : Nat → Prop} {w0 w : World} {μ μ' : Mp} {H H' : Hp}
theorem CRel.mono {c c' : List PanicEntry} (h : CRel μ c c') (e : Ext μ μ') : CRel μ' c c' := ⟨h.1, fun i a b x y => by obtain ⟨p, q, r⟩ := h.2 i a b x y; exact ⟨p, q, r.mono e⟩⟩
theorem MRel.mono {m m' : FrameMode} (h : MRel μ m m') (e : Ext μ μ') : MRel μ' m m' := by
 cases m <;> cases m' <;> first | trivial | exact h.elim | exact CRel.mono h e
theorem DfRel.mono {d d' : Deferred} (h : DfRel μ d d') (e : Ext μ μ') : DfRel μ' d d' := by
 rcases h with ⟨fv, cap, cap', h1, h2, h3, h4, h5⟩ | ⟨r, L, h1, h2, h3⟩
 ·
  exact .inl ⟨fv, cap, cap', h1, h2, h3, h4.mono e, h5.mono e⟩
 ·
  exact .inr ⟨r, L, h1, e _ _ h2, h3⟩
theorem DRel.mono {l l' : List Deferred} (h : DRel μ l l') (e : Ext μ μ') : DRel μ' l l' := by
 induction h with
 | nil => exact .nil
 | cons d d' l l' hd _ ih => exact .cons d d' l l' (hd.mono e) ih
theorem CRel.single {v v' : Value} (h : VRel μ v v') : CRel μ [{ v := v, recovered := false }] [{ v := v', recovered := false }] :=
 ⟨rfl, fun i e e' x y => by
  cases i with
  | zero => simp at x y; subst x; subst y; exact ⟨rfl, rfl, h⟩
  | succ i => simp at x⟩
structure FRel (μ : Mp) (S : St) (fr : Frame) (tmps : Array Value) (ds : List Deferred) (cs : List Frame) : Prop where
 t : TRel μ S.T S.n tmps
 d : DRel μ S.ds ds
 kind : fr.kind = if S.dfd then .deferred else .normal
 rnd0 : S.rnd = none → fr.roundOf = none
 rnd1 : ∀ l, S.rnd = some l → ∃ L, μ l = some L ∧ fr.roundOf = some L.r
 um : S.dfd = true → ∃ c rest, cs = c :: rest ∧ MRel μ S.um c.mode
theorem FRel.mono {S : St} {fr : Frame} {tmps : Array Value} {ds : List Deferred} {cs : List Frame} (h : FRel μ S fr tmps ds cs) (e : Ext μ μ') : FRel μ' S fr tmps ds cs :=
 ⟨h.t.mono e, h.d.mono e, h.kind, h.rnd0, fun l q => by obtain ⟨L, a, b⟩ := h.rnd1 l q; exact ⟨L, e _ _ a, b⟩, fun q => by obtain ⟨c, r, a, b⟩ := h.um q; exact ⟨c, r, a, b.mono e⟩⟩
def CsRel (d : Bool) (cs cs' : List Frame) : Prop := if d then ∃ c rest m, cs = c :: rest ∧ cs' = { c with mode := m } :: rest else cs' = cs
theorem CsRel.refl (d : Bool) (cs : List Frame) (h : d = true → ∃ c rest, cs = c :: rest) : CsRel d cs cs := by
 cases d with
 | false => rfl
 | true => obtain ⟨c, rest, rfl⟩ := h rfl; exact ⟨c, rest, c.mode, rfl, rfl⟩
theorem CsRel.trans {d : Bool} {a b c : List Frame} (h : CsRel d a b) (k : CsRel d b c) : CsRel d a c := by
 cases d with
 | false => exact Eq.trans k h
 | true =>
  obtain ⟨x, rest, m, rfl, rfl⟩ := h; obtain ⟨y, rest', m', e, rfl⟩ := k; injection e with e1 e2; subst e1; subst e2
  exact ⟨x, rest, m', rfl, rfl⟩
def CallSound (P : Program) (B : Nat → Prop) (w0 : World) (call : CallEv) : Prop :=
 ∀ f args H e H', call f args H = some (e, H') → ∀ μ w args', HRel P B w0 μ H w → LRel μ args args' →
  (∃ v v' w' μ', e = .returned v ∧ (callFunc f args'.toArray).run P w = .ok (.value v') w' ∧ HRel P B w0 μ' H' w' ∧ Step μ μ' H H' ∧ VRel μ' v v') ∨
  ((callFunc f args'.toArray).run P w = .ok (.enter f args'.toArray) w ∧ Calls P f args'.toArray w (fun e' w' => ∃ μ', HRel P B w0 μ' H' w' ∧ Step μ μ' H H' ∧ EndRel μ' e e'))
def YieldSound (P : Program) (B : Nat → Prop) (w0 : World) (yld : YieldEv) : Prop :=
 ∀ l args H e H', yld l args H = some (e, H') → ∀ μ w L args', HRel P B w0 μ H w → μ l = some L → LRel μ args args' →
  ∃ v f tm a b, e = .returned v ∧ (Instr.yield L.r args'.toArray).run P w = .ok (.round L.r f tm a b) w ∧
   ∀ caller cs, ∃ v' w' μ', HRel P B w0 μ' H' w' ∧ Step μ μ' H H' ∧ VRel μ' v v' ∧ Steps P (lone (Frame.round L.r f tm a b .normal) (caller :: cs) w) (lone (caller.finish v') cs w')
theorem guard_sound {ops : Array Oper} {T : Tr Value} {n : Nat} {tmps : Array Value} {o : Oper} {b : Bool} (ht : TRel μ T n tmps) (he : guardB ops.toList T o = some b) : Region.wanted o (yielded ops tmps) = b := by
 unfold guardB at he; unfold Region.wanted; cases hg : o.guard with
 | none => rw [hg] at he; simp at he; exact he.symm ▸ rfl
 | some p =>
  obtain ⟨j, want⟩ := p; rw [hg] at he; have he : guardC ops.toList T (j, want) = some b := he; simp only [guardC, nth_eq] at he; simp only [yielded]; have hj : ops.toList[j]? = ops[j]? := by simp
  rw [hj] at he; cases hp : ops[j]? with
  | none => rw [hp] at he; simp at he; subst he; simp
  | some p =>
   rw [hp] at he; simp only at he; cases hd : p.dst with
   | none => rw [hd] at he; simp at he; subst he; simp [hd]
   | some d =>
    rw [hd] at he; simp only at he; cases hT : T.get d with
    | none => rw [hT] at he; simp at he
    | some v =>
     rw [hT] at he; have hv := ht.2 d v hT; have hget : tmps[d]? = some (tmps.getD d undef) ∨ (tmps[d]? = none ∧ tmps.getD d undef = undef) := by
      rcases Nat.lt_or_ge d tmps.size with q | q
      ·
       left; simp [q]
      ·
       right; simp [q]
     simp only [Option.bind_some, hd]; have nb : (∀ c, v ≠ .bool c) → v ≠ .chan none → ∀ c, tmps.getD d undef ≠ .bool c := fun hn hw c q => by
      rw [q] at hv; cases hv with
      | atom _ _ => exact hn c rfl
      | wild _ _ => exact hw rfl
     by_cases hvb : ∃ c, v = .bool c
     ·
      obtain ⟨c, rfl⟩ := hvb; simp only [Option.some.injEq] at he; subst he; have hgb := hv.bool_inv; rcases hget with q | ⟨_, q⟩
      ·
       rw [q, hgb]; simp
      ·
       rw [q] at hgb; cases hgb
     ·
      have hno : ∀ c, v ≠ .bool c := fun c q => hvb ⟨c, q⟩; have hnc : v ≠ .chan none := fun q => by rw [q] at he; cases he
      have hb : b = false := by
       cases v <;> first | (simp only [Option.some.injEq] at he; exact he.symm) | exact absurd ⟨_, rfl⟩ hvb | cases he
      subst hb; rcases hget with q | ⟨q, _⟩
      ·
       rw [q]; have := nb hno hnc; cases hx : tmps.getD d undef <;> first | rfl | exact absurd hx (this _)
      ·
       rw [q]; rfl
theorem put_sound {S S' : St} {fr : Frame} {tmps : Array Value} {ds : List Deferred} {cs : List Frame} {dst : Option Tmp} {v v' : Value} (h : FRel μ S fr tmps ds cs) (hv : VRel μ v v') (he : S.put dst v = some S') :
  FRel μ S' fr (putT tmps dst v') ds cs ∧ S'.dfd = S.dfd ∧ S'.rnd = S.rnd ∧ S'.um = S.um ∧ S'.ds = S.ds := by
 cases dst with
 | none =>
  have he : some S = some S' := he; injection he with he; subst he
  exact ⟨h, rfl, rfl, rfl, rfl⟩
 | some d =>
  obtain ⟨T, n, dss, dfd, um, rnd⟩ := S; have he : Bool.rec (motive := fun _ => Option St) none (St.put3 n dss dfd um rnd (Tr.put v T d)) (Nat.ble (Nat.succ d) n) = some S' := he; cases hb : Nat.ble (Nat.succ d) n with
  | false => rw [hb] at he; cases he
  | true =>
   rw [hb] at he; have hb := Nat.le_of_ble_eq_true hb; have he : St.put3 n dss dfd um rnd (Tr.put v T d) = some S' := he; cases hp : Tr.put v T d with
   | none => rw [hp] at he; cases he
   | some T' =>
    rw [hp] at he; have he : some (St.mk T' n dss dfd um rnd) = some S' := he; injection he with he; subst he
    refine ⟨⟨⟨by have := h.t.1; simpa [putT] using this, fun t u q => ?_⟩, h.d, h.kind, h.rnd0, h.rnd1, h.um⟩, rfl, rfl, rfl, rfl⟩; have q : T'.get t = some u := q; rw [Tr.get_put hp] at q; have hsz : n ≤ tmps.size := h.t.1; show VRel μ u ((tmps.setIfInBounds d v').getD t undef); by_cases htd : t = d
    ·
     subst htd; rw [if_pos rfl] at q; injection q with q; subst q
     have : (tmps.setIfInBounds t v').getD t undef = v' := by
      have : t < tmps.size := by omega
      simp [this]
     rw [this]; exact hv
    ·
     rw [if_neg htd] at q; have : (tmps.setIfInBounds d v').getD t undef = tmps.getD t undef := by
      simp [Array.getElem?_setIfInBounds_ne (Ne.symm htd)]
     rw [this]; exact h.t.2 t u q
def RegOk (P : Program) (B : Nat → Prop) (w0 : World) (μ : Mp) (H : Hp) (S : St) (fr : Frame) (cs : List Frame) (m : Machine) (todo : List Item) : RegRes → Prop
 | .ok S' H' => ∃ μ' w' tmps' ds' cs', HRel P B w0 μ' H' w' ∧ Step μ μ' H H' ∧ FRel μ' S' fr tmps' ds' cs' ∧ CsRel S.dfd cs cs' ∧ S'.dfd = S.dfd ∧ S'.rnd = S.rnd ∧ Steps P m (lone (fat fr tmps' ds' todo) cs' w')
 | .pan chain S' H' => ∃ μ' w' tmps' ds' cs' chain' k0, HRel P B w0 μ' H' w' ∧ Step μ μ' H H' ∧ FRel μ' S' fr tmps' ds' cs' ∧ CsRel S.dfd cs cs' ∧ S'.dfd = S.dfd ∧ S'.rnd = S.rnd ∧ CRel μ' chain chain' ∧
   Steps P m (lone { fat fr tmps' ds' k0 with mode := .panicking chain' } cs' w')
end
end Go.Cre
namespace Go.Cre
open Go.RowKit
section
variable {P : Program} {B : Nat → Prop} {w0 w : World} {μ : Mp} {H H' : Hp} {S : St} {fr : Frame} {tmps : Array Value} {ds : List Deferred} {cs : List Frame} {call : CallEv} {yld : YieldEv}
variable {ops : Array Oper} {i : Nat} {rest : List Nat} {k : List Item} {o : Oper}
theorem FRel.hasCs (hf : FRel μ S fr tmps ds cs) : S.dfd = true → ∃ c rest, cs = c :: rest := fun q => by obtain ⟨c, r, a, _⟩ := hf.um q; exact ⟨c, r, a⟩
theorem defer_rnd {r : OpRes} (he : evOp P call yld S H o = some r) {c : Call} (ho : o.op = .defer c) : S.rnd = none := by
 unfold evOp evOpX at he; simp only at he; rw [ho] at he; have he : opDefer P ⟨call, yld, S, H, o⟩ c = some r := he; unfold opDefer at he; cases hr : S.rnd with
 | none => rfl
 | some l => simp only [hr] at he; cases he
theorem reg_put {v v' : Value} {μ' : Mp} {H' : Hp} {w' : World} {m : Machine} {rr : RegRes} (hf : FRel μ' S fr tmps ds cs) (h' : HRel P B w0 μ' H' w') (hs : Step μ μ' H H') (hv : VRel μ' v v')
  (hst : Steps P m (lone (fat fr (putT tmps o.dst v') ds (.inRegion ops rest :: k)) cs w')) (he : regPut S o.dst v H' = some rr) : RegOk P B w0 μ H S fr cs m (.inRegion ops rest :: k) rr := by
 unfold regPut regOk at he; cases hp : S.put o.dst v with
 | none => rw [hp] at he; cases he
 | some S' =>
  rw [hp] at he; have he : some (RegRes.ok S' H') = some rr := he; injection he with he; subst he
  obtain ⟨a, b, c, _, _⟩ := put_sound hf hv hp; exact ⟨μ', w', _, ds, cs, h', hs, a, CsRel.refl _ _ hf.hasCs, b, c, hst⟩
theorem RegOk.congr {S S1 : St} {m : Machine} {todo : List Item} {rr : RegRes} (h1 : S1.dfd = S.dfd) (h2 : S1.rnd = S.rnd) (h : RegOk P B w0 μ H S1 fr cs m todo rr) : RegOk P B w0 μ H S fr cs m todo rr := by
 cases rr with
 | ok S' H' => obtain ⟨a, b, c, d, e, g1, g2, g3, g4, g5, g6, g7⟩ := h; exact ⟨a, b, c, d, e, g1, g2, g3, h1 ▸ g4, g5.trans h1, g6.trans h2, g7⟩
 | pan chain S' H' => obtain ⟨a, b, c, d, e, x, y, g1, g2, g3, g4, g5, g6, g7, g8⟩ := h; exact ⟨a, b, c, d, e, x, y, g1, g2, g3, h1 ▸ g4, g5.trans h1, g6.trans h2, g7, g8⟩
theorem st_recover {ops : Array Oper} {i : Nat} {rest : List Nat} {o : Oper} {w' : World} {v : Value} {cs' : List Frame} (ho : ops[i]? = some o) (hw : Region.wanted o (yielded ops tmps) = true) (hrn : fr.roundOf = none)
  (hr : (execOp (rho tmps) o).run P w = .ok .recover w') (ht : (tryRecover (fat fr tmps ds (.inRegion ops (i :: rest) :: k)) cs).getD (.nilIface, cs) = (v, cs')) :
  step P (lone (fat fr tmps ds (.inRegion ops (i :: rest) :: k)) cs w) = .next (lone (fat fr (putT tmps o.dst v) ds (.inRegion ops rest :: k)) cs' w') := by
 rw [← fat_finish ho]; refine step_lone_go ?_; rw [sg_op ho hw (.inl hrn)]; have hrn' : (fat fr tmps ds (.inRegion ops (i :: rest) :: k)).roundOf = none := hrn; cases hx : tryRecover (fat fr tmps ds (.inRegion ops (i :: rest) :: k)) cs with
 | none =>
  rw [hx] at ht; simp at ht; obtain ⟨rfl, rfl⟩ := ht; simp [stepG.apply, hr, hrn', hx]
 | some p =>
  obtain ⟨v1, cs1⟩ := p; rw [hx] at ht; simp at ht; obtain ⟨rfl, rfl⟩ := ht; simp [stepG.apply, hr, hrn', hx]
theorem rcv_sound {ops : Array Oper} {i : Nat} {rest : List Nat} {v : Value} {um : FrameMode} (hf : FRel μ S fr tmps ds cs) (he : rcvOf S = some (v, um)) :
  ∃ v' cs', (tryRecover (fat fr tmps ds (.inRegion ops (i :: rest) :: k)) cs).getD (.nilIface, cs) = (v', cs') ∧ VRel μ v v' ∧ FRel μ (S.withUm um) fr tmps ds cs' ∧ CsRel S.dfd cs cs' ∧ fr.roundOf = none := by
 unfold rcvOf at he; cases hrn : S.rnd with
 | some l => rw [hrn] at he; cases he
 | none =>
  rw [hrn] at he; have hr0 := hf.rnd0 hrn; obtain ⟨T, n, dss, dfd, um0, rnd⟩ := S; cases dfd with
  | false =>
   simp only [cond_false] at he; injection he with he; injection he with e1 e2; subst e1; subst e2
   have hk : (fat fr tmps ds (.inRegion ops (i :: rest) :: k)).kind = .normal := hf.kind; have : tryRecover (fat fr tmps ds (.inRegion ops (i :: rest) :: k)) cs = none := by
    cases cs <;> simp [tryRecover, hk]
   rw [this]; exact ⟨_, _, rfl, VRel.atom _ rfl, hf, rfl, hr0⟩
  | true =>
   simp only [cond_true] at he; have hk : (fat fr tmps ds (.inRegion ops (i :: rest) :: k)).kind = .deferred := hf.kind; obtain ⟨c, rst, rfl, hm⟩ := hf.um rfl; rw [tryRecover_deferred hk]; have hno : recoverD (c :: rst) = none → v = .nilIface → um = um0 → ∃ v' cs', (recoverD (c :: rst)).getD (.nilIface, c :: rst) = (v', cs') ∧ VRel μ v v' ∧ FRel μ (St.withUm um ⟨T, n, dss, true, um0, rnd⟩) fr tmps ds cs' ∧ CsRel true (c :: rst) cs' ∧ fr.roundOf = none := by
    intro h1 h2 h3; subst h2; subst h3; rw [h1]; exact ⟨_, _, rfl, VRel.atom _ rfl, hf, ⟨c, rst, c.mode, rfl, rfl⟩, hr0⟩
   cases hum : um0 with
   | run =>
    subst hum; simp only at he; injection he with he; injection he with e1 e2
    refine hno ?_ e1.symm e2.symm; cases hcm : c.mode <;> rw [hcm] at hm <;> first | exact hm.elim | simp [recoverD, hcm]
   | returning =>
    subst hum; simp only at he; injection he with he; injection he with e1 e2
    refine hno ?_ e1.symm e2.symm; cases hcm : c.mode <;> rw [hcm] at hm <;> first | exact hm.elim | simp [recoverD, hcm]
   | panicking ch =>
    subst hum; cases hcm : c.mode with
    | run => rw [hcm] at hm; exact hm.elim
    | returning => rw [hcm] at hm; exact hm.elim
    | panicking ch' =>
     rw [hcm] at hm; have hm : CRel μ ch ch' := hm; cases ch with
     | nil =>
      have : ch' = [] := List.eq_nil_of_length_eq_zero hm.1.symm; subst this; simp only at he; injection he with he; injection he with e1 e2
      exact hno (by simp [recoverD, hcm]) e1.symm e2.symm
     | cons x older =>
      cases ch' with
      | nil => have := hm.1; simp at this
      | cons x' older' =>
       obtain ⟨a1, a2, a3⟩ := hm.2 0 x x' rfl rfl; obtain ⟨xv, xr, xg⟩ := x; obtain ⟨xv', xr', xg'⟩ := x'; simp only at a1 a2 a3; subst a1; subst a2; cases xr' with
       | true =>
        simp only at he; injection he with he; injection he with e1 e2
        exact hno (by simp [recoverD, hcm]) e1.symm e2.symm
       | false =>
        cases xg' with
        | true =>
         simp only at he; injection he with he; injection he with e1 e2
         exact hno (by simp [recoverD, hcm]) e1.symm e2.symm
        | false =>
         simp only at he; injection he with he; injection he with e1 e2
         subst e1; subst e2; refine ⟨xv', { c with mode := .panicking ({ v := xv', recovered := true } :: older') } :: rst, by simp [recoverD, hcm], a3, ⟨hf.t, hf.d, hf.kind, hf.rnd0, hf.rnd1, fun _ => ⟨_, _, rfl, ?_⟩⟩, ⟨c, rst, _, rfl, rfl⟩, hr0⟩; refine ⟨by have := hm.1; simpa using this, fun j e e' q q' => ?_⟩; cases j with
         | zero => simp at q q'; subst q; subst q'; exact ⟨rfl, rfl, a3⟩
         | succ j => exact hm.2 (j + 1) e e' (by simpa using q) (by simpa using q')
theorem one_sound (hcall : CallSound P B w0 call) (hyld : YieldSound P B w0 yld) (h : HRel P B w0 μ H w) (hf : FRel μ S fr tmps ds cs) (ho : ops[i]? = some o) {rr : RegRes} (he : one P call yld ops.toList S H o = some rr) :
  RegOk P B w0 μ H S fr cs (lone (fat fr tmps ds (.inRegion ops (i :: rest) :: k)) cs w) (.inRegion ops rest :: k) rr := by
 unfold one at he; cases hg : guardB ops.toList S.T o with
 | none => rw [hg] at he; cases he
 | some b =>
  rw [hg] at he; have hw := guard_sound hf.t hg; cases b with
  | false =>
   have he : regPut S o.dst undef H = some rr := he; exact reg_put hf h (Step.refl _ _) (VRel.undef μ) (.one (st_unwanted ho hw)) he
  | true =>
   have he : oneAfter S H o.dst (evOp P call yld S H o) = some rr := he; cases hop : evOp P call yld S H o with
   | none => rw [hop] at he; cases he
   | some r =>
    rw [hop] at he; have he : oneAfter2 S H o.dst r = some rr := he; have hok := evOp_sound h hf.t hop; have hnd : fr.roundOf = none ∨ ∀ c, o.op ≠ .defer c := by
     by_cases hd : ∃ c, o.op = .defer c
     ·
      obtain ⟨c, hd⟩ := hd; exact .inl (hf.rnd0 (defer_rnd hop hd))
     ·
      exact .inr fun c q => hd ⟨c, q⟩
    cases r with
    | val v H1 =>
     have he : regPut S o.dst v H1 = some rr := he; rcases hok with ⟨v', w', μ', r1, r2, r3, r4⟩ | ⟨f, args, args', r1, r2, r3⟩ | ⟨l, L, args, args', r0, r1, r2, r3⟩
     ·
      exact reg_put (hf.mono r3.ext) r2 r3 r4 (.one (st_value ho hw hnd r1)) he
     ·
      rcases hcall f args H _ _ r3 μ w args' h r2 with ⟨v0, v', w', μ', e1, e2, e3, e4, e5⟩ | ⟨e1, e2⟩
      ·
       injection e1 with e1; subst e1
       exact reg_put (hf.mono e4.ext) e3 e4 e5 (.one (st_value ho hw hnd (r1.trans e2))) he
      ·
       obtain ⟨e', w', frx, ⟨μ', g1, g2, g3⟩, hcomes, _, hleave⟩ := e2 (fat fr tmps ds (.inRegion ops (i :: rest) :: k) :: cs); cases e' with
       | returned v' =>
        refine reg_put (hf.mono g2.ext) g1 g2 g3 ?_ he; rw [← fat_finish ho]; exact .head (st_enter ho hw hnd (r1.trans e1)) (Steps.trans hcomes (.one (step_leave_returned hleave)))
       | panicked c => exact g3.elim
       | outgrown => exact g3.elim
     ·
      obtain ⟨v0, f, tm, a, b, e1, e2, e3⟩ := hyld l args H _ _ r3 μ w L args' h r0 r2; injection e1 with e1; subst e1
      obtain ⟨v', w', μ', g1, g2, g3, g4⟩ := e3 (fat fr tmps ds (.inRegion ops (i :: rest) :: k)) cs; refine reg_put (hf.mono g2.ext) g1 g2 g3 ?_ he; rw [← fat_finish ho]; exact .head (st_round ho hw hnd (r1.trans e2)) g4
    | skip H1 =>
     have he : regPut S o.dst undef H1 = some rr := he; obtain ⟨w', r1, r2, r3⟩ := hok; exact reg_put hf r2 r3 (VRel.undef μ) (.one (st_skipop ho hw hnd r1)) he
    | dfr d =>
     have he : oneDfr S H o.dst d = some rr := he; unfold oneDfr at he; cases hrn0 : S.rnd with
     | some l => rw [hrn0] at he; cases he
     | none =>
     rw [hrn0] at he; have he : regPut (S.withDs d) o.dst undef H = some rr := he; obtain ⟨fv, cap, cap', args, args', rfl, r1, r2, r3, r4⟩ := hok; have hrn : fr.roundOf = none := hf.rnd0 hrn0; obtain ⟨T, n, dss, dfd, um, rnd⟩ := S
     have hf' : FRel μ (St.withDs { target := .fn fv cap, args := args.toArray } ⟨T, n, dss, dfd, um, rnd⟩) fr tmps ({ target := .fn fv cap', args := args'.toArray } :: ds) cs :=
      ⟨hf.t, .cons _ _ _ _ (.inl ⟨fv, cap, cap', rfl, rfl, r2, r3, by simpa using r4⟩) hf.d, hf.kind, hf.rnd0, hf.rnd1, hf.um⟩
     exact RegOk.congr (S1 := St.withDs { target := .fn fv cap, args := args.toArray } ⟨T, n, dss, dfd, um, rnd⟩) rfl rfl (reg_put hf' h (Step.refl _ _) (VRel.undef μ) (.one (st_deferop ho hw hrn r1)) he)
    | pan chain H1 =>
     have he : some (RegRes.pan chain S H1) = some rr := he; injection he with he; subst he
     rcases hok with ⟨v, v', rfl, rfl, r1, r2⟩ | ⟨f, args, args', r1, r2, r3⟩
     ·
      exact ⟨μ, w, tmps, ds, cs, _, _, h, Step.refl _ _, hf, CsRel.refl _ _ hf.hasCs, rfl, rfl, CRel.single r2, .one (st_panicop ho hw hnd r1)⟩
     ·
      rcases hcall f args H _ _ r3 μ w args' h r2 with ⟨v0, v', w', μ', e1, _⟩ | ⟨e1, e2⟩
      ·
       cases e1
      ·
       obtain ⟨e', w', frx, ⟨μ', g1, g2, g3⟩, hcomes, _, hleave⟩ := e2 (fat fr tmps ds (.inRegion ops (i :: rest) :: k) :: cs); cases e' with
       | returned v' => exact g3.elim
       | panicked c =>
        refine ⟨μ', w', tmps, ds, cs, c, .inRegion ops (i :: rest) :: k, g1, g2, hf.mono g2.ext, CsRel.refl _ _ hf.hasCs, rfl, rfl, g3, ?_⟩; exact .head (st_enter ho hw hnd (r1.trans e1)) (Steps.trans hcomes (.one (step_leave_panicked hleave)))
       | outgrown => exact g3.elim
    | rcv =>
     have he : oneRcv S H o.dst (rcvOf S) = some rr := he; cases hrc : rcvOf S with
     | none => rw [hrc] at he; cases he
     | some p =>
      obtain ⟨v, um⟩ := p; rw [hrc] at he; have he : regPut (S.withUm um) o.dst v H = some rr := he; obtain ⟨v', cs', t1, t2, t3, t4, t5⟩ := rcv_sound (k := k) (ops := ops) (i := i) (rest := rest) hf hrc; unfold regPut regOk at he; cases hp : (S.withUm um).put o.dst v with
      | none => rw [hp] at he; cases he
      | some S' =>
       rw [hp] at he; have he : some (RegRes.ok S' H) = some rr := he; injection he with he; subst he
       obtain ⟨a, b, c, _, _⟩ := put_sound t3 t2 hp; exact ⟨μ, w, _, ds, cs', h, Step.refl _ _, a, t4, b, c, .one (st_recover ho hw t5 hok t1)⟩
end
end Go.Cre
namespace Go.Cre
open Go.RowKit
section
variable {P : Program} {B : Nat → Prop} {w0 w : World} {μ : Mp} {H H' : Hp} {S : St} {fr : Frame} {tmps : Array Value} {ds : List Deferred} {cs : List Frame} {call : CallEv} {yld : YieldEv}
variable {ops : Array Oper} {k : List Item}
theorem RegOk.steps {m m' : Machine} {todo : List Item} {rr : RegRes} (hs : Steps P m m') (h : RegOk P B w0 μ H S fr cs m' todo rr) : RegOk P B w0 μ H S fr cs m todo rr := by
 cases rr with
 | ok S' H' => obtain ⟨a, b, c, d, e, g1, g2, g3, g4, g5, g6, g7⟩ := h; exact ⟨a, b, c, d, e, g1, g2, g3, g4, g5, g6, hs.trans g7⟩
 | pan chain S' H' => obtain ⟨a, b, c, d, e, x, y, g1, g2, g3, g4, g5, g6, g7, g8⟩ := h; exact ⟨a, b, c, d, e, x, y, g1, g2, g3, g4, g5, g6, g7, hs.trans g8⟩
theorem RegOk.bind {S1 : St} {H1 : Hp} {m : Machine} {todo1 todo2 : List Item} {rr : RegRes} (h : RegOk P B w0 μ H S fr cs m todo1 (.ok S1 H1))
  (hk : ∀ μ1 w1 tmps1 ds1 cs1, HRel P B w0 μ1 H1 w1 → Step μ μ1 H H1 → FRel μ1 S1 fr tmps1 ds1 cs1 → CsRel S.dfd cs cs1 → S1.dfd = S.dfd → S1.rnd = S.rnd → RegOk P B w0 μ1 H1 S1 fr cs1 (lone (fat fr tmps1 ds1 todo1) cs1 w1) todo2 rr) : RegOk P B w0 μ H S fr cs m todo2 rr := by
 obtain ⟨μ1, w1, tmps1, ds1, cs1, g1, g2, g3, g4, g5, g6, g7⟩ := h; have hh := (hk μ1 w1 tmps1 ds1 cs1 g1 g2 g3 g4 g5 g6).steps g7; cases rr with
 | ok S' H' => obtain ⟨a, b, c, d, e, q1, q2, q3, q4, q5, q6, q7⟩ := hh; exact ⟨a, b, c, d, e, q1, g2.trans q2, q3, g4.trans (g5 ▸ q4), q5.trans g5, q6.trans g6, q7⟩
 | pan chain S' H' => obtain ⟨a, b, c, d, e, x, y, q1, q2, q3, q4, q5, q6, q7, q8⟩ := hh; exact ⟨a, b, c, d, e, x, y, q1, g2.trans q2, q3, g4.trans (g5 ▸ q4), q5.trans g5, q6.trans g6, q7, q8⟩
theorem evOps_sound (hcall : CallSound P B w0 call) (hyld : YieldSound P B w0 yld) (l : List Oper) : ∀ (i : Nat) (μ : Mp) (w : World) (S : St) (H : Hp) (tmps : Array Value) (ds : List Deferred) (cs : List Frame) (rr : RegRes),
  ops.toList.drop i = l → HRel P B w0 μ H w → FRel μ S fr tmps ds cs → evOps P call yld ops.toList l S H = some rr →
  RegOk P B w0 μ H S fr cs (lone (fat fr tmps ds (.inRegion ops (List.range' i l.length) :: k)) cs w) k rr := by
 induction l with
 | nil =>
  intro i μ w S H tmps ds cs rr _ h hf he; have he : some (RegRes.ok S H) = some rr := he; injection he with he; subst he
  exact ⟨μ, w, tmps, ds, cs, h, Step.refl _ _, hf, CsRel.refl _ _ hf.hasCs, rfl, rfl, .one st_regionEnd⟩
 | cons o l ih =>
  intro i μ w S H tmps ds cs rr hd h hf he; have he : evOpsNext (evOps P call yld ops.toList l) (one P call yld ops.toList S H o) = some rr := he; have ho : ops[i]? = some o := by
   have : (ops.toList.drop i)[0]? = some o := by rw [hd]; rfl
   simpa using this
  have hd' : ops.toList.drop (i + 1) = l := by
   have : (ops.toList.drop i).drop 1 = l := by rw [hd]; rfl
   rw [List.drop_drop] at this; exact this
  show RegOk P B w0 μ H S fr cs (lone (fat fr tmps ds (.inRegion ops (i :: List.range' (i + 1) l.length) :: k)) cs w) k rr; cases hone : one P call yld ops.toList S H o with
  | none => rw [hone] at he; cases he
  | some r1 =>
   rw [hone] at he; have h1 := one_sound (k := k) (rest := List.range' (i + 1) l.length) hcall hyld h hf ho hone; cases r1 with
   | pan chain S1 H1 =>
    have he : some (RegRes.pan chain S1 H1) = some rr := he; injection he with he; subst he
    exact h1
   | ok S1 H1 =>
    have he : evOps P call yld ops.toList l S1 H1 = some rr := he; exact h1.bind fun μ1 w1 tmps1 ds1 cs1 g1 _ g3 _ _ _ => ih (i + 1) μ1 w1 S1 H1 tmps1 ds1 cs1 rr hd' g1 g3 he
end
end Go.Cre

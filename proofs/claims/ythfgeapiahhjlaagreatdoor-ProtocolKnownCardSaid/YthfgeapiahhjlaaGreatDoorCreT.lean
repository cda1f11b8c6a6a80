/- A part of a verified evaluator of closed calls: see YthfgeapiahhjlaaGreatDoorCreZ. -/
import Derived.Test.YthfgeapiahhjlaaGreatDoorCreS
import Derived.Defers
import Derived.Recover
set_option linter.unusedVariables false
set_option linter.unusedSimpArgs false
namespace Go.Cre
open Go.RowKit

/-- a running frame -/
def fat (fr : Frame) (tmps : Array Value) (ds : List Deferred) (todo : List Item) : Frame := { fr with tmps := tmps, todo := todo, defers := ds, mode := .run }

section
variable {P : Program} {fr : Frame} {tmps : Array Value} {ds : List Deferred} {k : List Item} {cs : List Frame} {w : World}

theorem fat_eval (todo : List Item) : (fat fr tmps ds todo).eval = rho tmps := by
  funext x; cases x <;> rfl

theorem st_skip : step P (lone (fat fr tmps ds (.code .skip :: k)) cs w) = .next (lone (fat fr tmps ds k) cs w) := step_lone_go (by simp [stepG, stepG.exec, fat])
theorem st_label {l : Nat} : step P (lone (fat fr tmps ds (.code (.label l) :: k)) cs w) = .next (lone (fat fr tmps ds k) cs w) := step_lone_go (by simp [stepG, stepG.exec, fat])
theorem st_inBlock {id : Nat} : step P (lone (fat fr tmps ds (.inBlock id :: k)) cs w) = .next (lone (fat fr tmps ds k) cs w) := step_lone_go (by simp [stepG, stepG.exec, fat])
theorem st_inScope {c : Code} : step P (lone (fat fr tmps ds (.inScope c :: k)) cs w) = .next (lone (fat fr tmps ds k) cs w) := step_lone_go (by simp [stepG, stepG.exec, fat])
theorem st_seq {x y : Code} : step P (lone (fat fr tmps ds (.code (.seq x y) :: k)) cs w) = .next (lone (fat fr tmps ds (.code x :: .code y :: k)) cs w) := step_lone_go (by simp [stepG, stepG.exec, fat])
theorem st_cond {c : Operand} {x y : Code} {t : Bool} (h : rho tmps c = .bool t) : step P (lone (fat fr tmps ds (.code (.cond c x y) :: k)) cs w) = .next (lone (fat fr tmps ds (.code (if t then x else y) :: k)) cs w) :=
  step_lone_go (by
    have he := congrFun (fat_eval (fr := fr) (tmps := tmps) (ds := ds) (.code (.cond c x y) :: k)) c
    rw [h] at he
    simp only [fat] at he
    simp [stepG, stepG.exec, fat, he])
theorem st_block {id : Nat} {c : Code} : step P (lone (fat fr tmps ds (.code (.block id c) :: k)) cs w) = .next (lone (fat fr tmps ds (.code c :: .inBlock id :: k)) cs w) := step_lone_go (by simp [stepG, stepG.exec, fat])
theorem st_scope {c : Code} : step P (lone (fat fr tmps ds (.code (.scope c) :: k)) cs w) = .next (lone (fat fr tmps ds (.code c :: .inScope c :: k)) cs w) := step_lone_go (by simp [stepG, stepG.exec, fat])
theorem st_loop {c : Code} : step P (lone (fat fr tmps ds (.code (.loop c) :: k)) cs w) = .next (lone (fat fr tmps ds (.code c :: .inLoop c :: k)) cs w) := step_lone_go (by simp [stepG, stepG.exec, fat])
theorem st_inLoop {c : Code} : step P (lone (fat fr tmps ds (.inLoop c :: k)) cs w) = .next (lone (fat fr tmps ds (.code c :: .inLoop c :: k)) cs w) := step_lone_go (by simp [stepG, stepG.exec, fat])
theorem st_exit {id : Nat} {k' : List Item} (h : exitTo id k = some k') : step P (lone (fat fr tmps ds (.code (.exit id) :: k)) cs w) = .next (lone (fat fr tmps ds k') cs w) := step_lone_go (by simp [stepG, stepG.exec, fat, h])
theorem st_region {id : Nat} {ops : Array Oper} : step P (lone (fat fr tmps ds (.code (.region id ops false) :: k)) cs w) = .next (lone (fat fr tmps ds (.inRegion ops (List.range ops.size) :: k)) cs w) := step_lone_go (by simp [stepG, stepG.exec, fat])
theorem st_regionEnd {ops : Array Oper} : step P (lone (fat fr tmps ds (.inRegion ops [] :: k)) cs w) = .next (lone (fat fr tmps ds k) cs w) := step_lone_go (by simp [stepG, stepG.exec, fat])
theorem st_draw {id : Nat} {ops : Array Oper} : step P (lone (fat fr tmps ds (.code (.region id ops true) :: k)) cs w) =
    .next (lone (fat fr tmps ds (.inRegion ops (Region.schedule (P.follows .mixedOrders) ops (w.tape w.drawn (.order fr.fn id))) :: k)) cs { w with drawn := w.drawn + 1 }) :=
  step_lone_go (by simp [stepG, stepG.exec, fat, choose, Sem.run, Question.forced, Question.cut])

def putT (tmps : Array Value) (dst : Option Tmp) (v : Value) : Array Value := match dst with | some d => tmps.setIfInBounds d v | none => tmps

theorem fat_finish {ops : Array Oper} {i : Nat} {rest : List Nat} {o : Oper} (ho : ops[i]? = some o) (v : Value) : (fat fr tmps ds (.inRegion ops (i :: rest) :: k)).finish v = fat fr (putT tmps o.dst v) ds (.inRegion ops rest :: k) := by
  simp only [Frame.finish, fat, ho, Option.bind_some, putT]
  cases o.dst <;> rfl

theorem st_unwanted {ops : Array Oper} {i : Nat} {rest : List Nat} {o : Oper} (ho : ops[i]? = some o) (hw : Region.wanted o (yielded ops tmps) = false) :
    step P (lone (fat fr tmps ds (.inRegion ops (i :: rest) :: k)) cs w) = .next (lone (fat fr (putT tmps o.dst undef) ds (.inRegion ops rest :: k)) cs w) := by
  rw [← fat_finish ho]
  exact step_lone_go (by simp [stepG, stepG.exec, fat, ho, hw])

theorem sg_op {ops : Array Oper} {i : Nat} {rest : List Nat} {o : Oper} (ho : ops[i]? = some o) (hw : Region.wanted o (yielded ops tmps) = true) (hnd : fr.roundOf = none ∨ ∀ c, o.op ≠ .defer c) :
    stepG P true { frame := fat fr tmps ds (.inRegion ops (i :: rest) :: k), callers := cs, status := .running, dying := none } w =
      stepG.apply P true (fat fr tmps ds (.inRegion ops (i :: rest) :: k)) cs none (execOp (rho tmps) o) w := by
  have he := fat_eval (fr := fr) (tmps := tmps) (ds := ds) (.inRegion ops (i :: rest) :: k)
  simp only [fat] at he
  simp only [stepG, stepG.exec, stepG.oper, Frame.oper?, fat, ho, hw, he, Option.map_some, Option.getD_some, if_true]
  rcases hnd with h | h
  · rw [h]
  · cases hr : fr.roundOf with
    | none => rfl
    | some l =>
      cases hop : o.op with
      | defer c => exact absurd hop (h c)
      | _ => rfl

theorem st_value {ops : Array Oper} {i : Nat} {rest : List Nat} {o : Oper} {v : Value} {w' : World} (ho : ops[i]? = some o) (hw : Region.wanted o (yielded ops tmps) = true) (hnd : fr.roundOf = none ∨ ∀ c, o.op ≠ .defer c)
    (hr : (execOp (rho tmps) o).run P w = .ok (.value v) w') :
    step P (lone (fat fr tmps ds (.inRegion ops (i :: rest) :: k)) cs w) = .next (lone (fat fr (putT tmps o.dst v) ds (.inRegion ops rest :: k)) cs w') := by
  rw [← fat_finish ho]
  exact step_lone_go (by rw [sg_op ho hw hnd]; simp [stepG.apply, hr])
theorem st_skipop {ops : Array Oper} {i : Nat} {rest : List Nat} {o : Oper} {w' : World} (ho : ops[i]? = some o) (hw : Region.wanted o (yielded ops tmps) = true) (hnd : fr.roundOf = none ∨ ∀ c, o.op ≠ .defer c)
    (hr : (execOp (rho tmps) o).run P w = .ok .skip w') :
    step P (lone (fat fr tmps ds (.inRegion ops (i :: rest) :: k)) cs w) = .next (lone (fat fr (putT tmps o.dst undef) ds (.inRegion ops rest :: k)) cs w') := by
  rw [← fat_finish ho]
  exact step_lone_go (by rw [sg_op ho hw hnd]; simp [stepG.apply, hr])
theorem st_panicop {ops : Array Oper} {i : Nat} {rest : List Nat} {o : Oper} {v : Value} {w' : World} (ho : ops[i]? = some o) (hw : Region.wanted o (yielded ops tmps) = true) (hnd : fr.roundOf = none ∨ ∀ c, o.op ≠ .defer c)
    (hr : (execOp (rho tmps) o).run P w = .halt (.panic v) w') :
    step P (lone (fat fr tmps ds (.inRegion ops (i :: rest) :: k)) cs w) = .next (lone { fat fr tmps ds (.inRegion ops (i :: rest) :: k) with mode := .panicking [{ v, recovered := false }] } cs w') :=
  step_lone_go (by rw [sg_op ho hw hnd]; simp [stepG.apply, hr, Frame.raise, fat])
theorem st_deferop {ops : Array Oper} {i : Nat} {rest : List Nat} {o : Oper} {d : Deferred} {w' : World} (ho : ops[i]? = some o) (hw : Region.wanted o (yielded ops tmps) = true) (hnd : fr.roundOf = none)
    (hr : (execOp (rho tmps) o).run P w = .ok (.defer d) w') :
    step P (lone (fat fr tmps ds (.inRegion ops (i :: rest) :: k)) cs w) = .next (lone (fat fr (putT tmps o.dst undef) (d :: ds) (.inRegion ops rest :: k)) cs w') := by
  have hf : ({ fat fr tmps ds (.inRegion ops (i :: rest) :: k) with defers := d :: ds } : Frame).finish undef = fat fr (putT tmps o.dst undef) (d :: ds) (.inRegion ops rest :: k) :=
    fat_finish (fr := fr) (tmps := tmps) (ds := d :: ds) (k := k) (rest := rest) ho undef
  refine step_lone_go ?_
  rw [sg_op ho hw (.inl hnd)]
  simp only [stepG.apply, Sem.runT_eq, hr, GStep.bare_after, if_true]
  exact congrArg (fun f => GStep.go { frame := f, callers := cs, status := .running, dying := none } w') hf
theorem st_enter {ops : Array Oper} {i : Nat} {rest : List Nat} {o : Oper} {f : FuncId} {args : Array Value} {w' : World} (ho : ops[i]? = some o) (hw : Region.wanted o (yielded ops tmps) = true) (hnd : fr.roundOf = none ∨ ∀ c, o.op ≠ .defer c)
    (hr : (execOp (rho tmps) o).run P w = .ok (.enter f args) w') :
    step P (lone (fat fr tmps ds (.inRegion ops (i :: rest) :: k)) cs w) = .next (lone (Frame.enter P f args .normal) (fat fr tmps ds (.inRegion ops (i :: rest) :: k) :: cs) w') :=
  step_lone_go (by rw [sg_op ho hw hnd]; simp [stepG.apply, hr, fat])
theorem st_round {ops : Array Oper} {i : Nat} {rest : List Nat} {o : Oper} {l : Nat} {f : FuncId} {tm : Array Value} {a b : Code} {w' : World} (ho : ops[i]? = some o) (hw : Region.wanted o (yielded ops tmps) = true) (hnd : fr.roundOf = none ∨ ∀ c, o.op ≠ .defer c)
    (hr : (execOp (rho tmps) o).run P w = .ok (.round l f tm a b) w') :
    step P (lone (fat fr tmps ds (.inRegion ops (i :: rest) :: k)) cs w) = .next (lone (Frame.round l f tm a b .normal) (fat fr tmps ds (.inRegion ops (i :: rest) :: k) :: cs) w') :=
  step_lone_go (by rw [sg_op ho hw hnd]; simp [stepG.apply, hr])
end
end Go.Cre

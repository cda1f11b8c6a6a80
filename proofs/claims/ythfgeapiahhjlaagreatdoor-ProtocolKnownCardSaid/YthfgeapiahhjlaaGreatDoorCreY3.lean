/- A part of a verified evaluator of closed calls: see YthfgeapiahhjlaaGreatDoorCreZ. -/
import Derived.Test.YthfgeapiahhjlaaGreatDoorCreY2
import Derived.Lib.MakeNoZero
import Derived.KernelRfl
set_option linter.unusedVariables false
set_option linter.unusedSimpArgs false
namespace Go.Cre
open Go.RowKit

section
variable {P : Program} {B : Nat → Prop} {w0 w : World} {μ μ1 μ' : Mp} {H H1 H' : Hp} {S S1 S' : St} {fr : Frame} {tmps : Array Value} {ds : List Deferred} {cs cs1 : List Frame} {k : List Item}

theorem st_end (hr : fr.roundOf = none) : step P (lone (fat fr tmps ds []) cs w) = .next (lone { fat fr tmps ds [] with mode := .returning } cs w) := step_lone_go (by simp [stepG, stepG.exec, fat, hr])
theorem st_ret (hr : fr.roundOf = none) : step P (lone (fat fr tmps ds (.code .ret :: k)) cs w) = .next (lone { fat fr tmps ds (.code .ret :: k) with mode := .returning } cs w) := step_lone_go (by simp [stepG, stepG.exec, fat, hr])

/-! ### Externs -/
theorem plain_args : ∀ {l l' : List Value}, l.all plain = true → LRel μ l l' → l' = l := by
  intro l
  induction l with
  | nil => intro l' _ h; exact h.inv_nil
  | cons x l ih =>
    intro l' hp h
    obtain ⟨x', m, rfl, h1, h2⟩ := h.inv_cons
    simp only [List.all_cons, Bool.and_eq_true] at hp
    rw [ih hp.2 h2, VRel.plain_eq hp.1 h1]

theorem next_none (fn : Func) (h1 : fn.name = "internal/bytealg.MakeNoZero" ∨ fn.name = "internal/abi.NoEscape") (h2 : fn.origin = "") : Extern.findNext fn = none := by
  have e1 : Extern.allNextRows.lookup "internal/bytealg.MakeNoZero" = none := by kernel_rfl
  have e2 : Extern.allNextRows.lookup "internal/abi.NoEscape" = none := by kernel_rfl
  have e3 : Extern.allNextRows.lookup "" = none := by kernel_rfl
  unfold Extern.findNext
  rcases h1 with h1 | h1 <;> rw [h1, h2] <;> simp [e1, e2, e3]
theorem find_noZero (fn : Func) (h1 : fn.name = "internal/bytealg.MakeNoZero") : Extern.find fn = some (Extern.BytealgMakeNoZero.makeNoZero fn.params fn.resultTypes) := by
  have e1 : Extern.allGenericRows.lookup "internal/bytealg.MakeNoZero" = none := by kernel_rfl
  have e2 : Extern.allTypedRows.lookup "internal/bytealg.MakeNoZero" = some Extern.BytealgMakeNoZero.makeNoZero := by kernel_rfl
  unfold Extern.find
  rw [h1]; simp [e1, e2]
theorem find_same (fn : Func) (h1 : fn.name = "internal/abi.NoEscape") : Extern.find fn = some Extern.AbiNoEscape.same := by
  have e1 : Extern.allGenericRows.lookup "internal/abi.NoEscape" = none := by kernel_rfl
  have e2 : Extern.allTypedRows.lookup "internal/abi.NoEscape" = none := by kernel_rfl
  have e3 : Extern.allRows.lookup "internal/abi.NoEscape" = some Extern.AbiNoEscape.same := by kernel_rfl
  unfold Extern.find
  rw [h1]; simp [e1, e2, e3]

theorem call_extern {f : FuncId} {fn : Func} (hf : P.funcs[f]? = some fn) (hb : fn.body = none) (hn : (fn.name == "runtime.NumGoroutine") = false) (h1 : Extern.findNext fn = none) {x : Array Value → Sem Value} (h2 : Extern.find fn = some x) {args : Array Value} {v : Value} {w' : World} (hx : (x args).run P w = .ok v w') :
    (callFunc f args).run P w = .ok (.value v) w' := by
  have hn' : ¬ fn.name = "runtime.NumGoroutine" := by simpa using hn
  simp [callFunc, program, Sem.run, hf, hb, hn', h1, h2, mark, hx]

theorem evExtern_sound {f : FuncId} {fn : Func} {args args' : List Value} {e : Ending} (hf : P.funcs[f]? = some fn) (hb : fn.body = none) (h : HRel P B w0 μ H w) (hl : LRel μ args args') (he : evExtern P fn f args H = some (e, H')) :
    ∃ v v' w' μ', e = .returned v ∧ (callFunc f args'.toArray).run P w = .ok (.value v') w' ∧ HRel P B w0 μ' H' w' ∧ Step μ μ' H H' ∧ VRel μ' v v' := by
  unfold evExtern at he
  cases hp : args.all plain with
  | true =>
    rw [hp, cond_true] at he
    obtain rfl := plain_args hp hl
    have hzero : extNoZero P fn H args' fn.resultTypes.toList = some (e, H') → ∃ v v' w' μ', e = .returned v ∧ (callFunc f args'.toArray).run P w = .ok (.value v') w' ∧ HRel P B w0 μ' H' w' ∧ Step μ μ' H H' ∧ VRel μ' v v' := by
      intro he
      unfold extNoZero at he
      split at he
      · rename_i n t hres _
        cases hc : (decide (fn.name = "internal/bytealg.MakeNoZero") && decide (fn.origin = "") && Nat.ble n 1000000) with
        | false => rw [hc] at he; cases he
        | true =>
          rw [hc, cond_true] at he
          simp only [Bool.and_eq_true, decide_eq_true_eq] at hc
          obtain ⟨⟨q1, q2⟩, q3⟩ := hc
          have q3 := Nat.le_of_ble_eq_true q3
          split at he
          · rename_i el hu
            cases hcl : Nat.beq (P.cellsOf el) 1 with
            | false => rw [hcl] at he; cases he
            | true =>
              rw [hcl, cond_true] at he
              have hcl := Nat.eq_of_beq_eq_true hcl
              unfold extNoZero2 at he
              cases hno : H.newOpen [] el false with
              | none => rw [hno] at he; cases he
              | some p =>
                obtain ⟨id, H1⟩ := p
                rw [hno] at he
                simp only [Option.some.injEq, Prod.mk.injEq] at he
                obtain ⟨rfl, rfl⟩ := he
                obtain ⟨csx, c1, c2, c3⟩ := Lib.run_makeNoZero w fn.params t el hu n (by omega)
                have hres' : fn.resultTypes = #[t] := by
                  apply Array.ext'; rw [hres]
                obtain ⟨m1, m2, rfl⟩ := (h.drew.drew).madeOpen (o := .cells csx el) (L := ⟨w.heap.size, csx.size, 1⟩) hno rfl (fun f => ⟨rfl, rfl, hcl, Nat.zero_le _, (fun q => by cases q), (fun i v v' q => by simp at q), ⟨fun off _ a b => by simp at b, fun _ => .inl rfl⟩⟩)
                refine ⟨_, .slice (some ⟨w.heap.size, 0, none⟩) n csx.size, _, _, rfl, ?_, m1, m2, .sliceO _ 0 n csx.size ⟨w.heap.size, csx.size, 1⟩ (Mp.put_self _ _ _) c2 (by simp)⟩
                refine call_extern hf hb (by rw [q1]; rfl) (next_none fn (.inl q1) q2) (find_noZero fn q1) ?_
                rw [hres']
                exact c1
          · cases he
      · cases he
    unfold extPlain2 at he
    split at he
    · rename_i v hev
      cases hpv : plain v with
      | false => rw [hpv] at he; cases he
      | true =>
        rw [hpv, cond_true] at he
        simp only [Option.some.injEq, Prod.mk.injEq] at he
        obtain ⟨rfl, rfl⟩ := he
        exact ⟨v, v, w, μ, rfl, evPure_run hev w, h, Step.refl _ _, plain_rel hpv⟩
    · exact hzero he
  | false =>
    rw [hp, cond_false] at he
    unfold extSame at he
    split at he
    · rename_i v
      cases hc : (decide (fn.name = "internal/abi.NoEscape") && decide (fn.origin = "")) with
      | false => rw [hc] at he; cases he
      | true =>
        rw [hc, cond_true] at he
        simp only [Bool.and_eq_true, decide_eq_true_eq] at hc
        obtain ⟨q1, q2⟩ := hc
        simp only [Option.some.injEq, Prod.mk.injEq] at he
        obtain ⟨rfl, rfl⟩ := he
        obtain ⟨v', l', rfl, h1, h2⟩ := hl.inv_cons
        obtain rfl := h2.inv_nil
        refine ⟨v, v', w, μ, rfl, ?_, h, Step.refl _ _, h1⟩
        exact call_extern hf hb (by rw [q1]; rfl) (next_none fn (.inr q1) q2) (find_same fn q1) rfl
    · cases he

/-! ### The tmps of a new frame -/
theorem Tr.get_full {α : Type} (a : α) : ∀ (d n : Nat), (Tr.full a d).get n = none ∨ (Tr.full a d).get n = some a := by
  intro d
  induction d with
  | zero => intro n; exact .inl rfl
  | succ d ih =>
    intro n
    cases n with
    | zero => exact .inr rfl
    | succ m =>
      have e : Tr.full a (d + 1) = .node (some a) (Tr.full a d) (Tr.full a d) := rfl
      rw [e, Tr.get_succ]
      split <;> exact ih _

theorem argsT_get : ∀ {l : List Value} {i : Nat} {T T' : Tr Value}, argsT l i T = some T' → ∀ t, T'.get t = if i ≤ t ∧ t < i + l.length then l[t - i]? else T.get t := by
  intro l
  induction l with
  | nil => intro i T T' h t; simp [argsT] at h; subst h; rw [if_neg (by rw [List.length_nil]; omega)]
  | cons v l ih =>
    intro i T T' h t
    simp only [argsT] at h
    cases hs : Tr.set trDepth T i v with
    | none => rw [hs] at h; cases h
    | some T1 =>
      rw [hs] at h
      rw [ih h t, Tr.get_set hs]
      by_cases h1 : i + 1 ≤ t ∧ t < i + 1 + l.length
      · rw [if_pos h1, if_pos (by simp; omega)]
        have : t - i = (t - (i + 1)) + 1 := by omega
        rw [this]; rfl
      · rw [if_neg h1]
        by_cases h2 : t = i
        · subst h2; rw [if_pos rfl, if_pos (by simp)]; simp
        · rw [if_neg h2, if_neg (by simp; omega)]

theorem frame_tmps {args args' : List Value} {n : Nat} {T : Tr Value} (hl : LRel μ args args') (hT : argsT args 0 (blank n) = some T) : TRel μ T n (args'.toArray ++ Array.replicate (n - args'.toArray.size) undef) := by
  refine ⟨by simp; omega, fun t v h => ?_⟩
  rw [argsT_get hT] at h
  by_cases ht : t < args.length
  · rw [if_pos ⟨Nat.zero_le _, by omega⟩, Nat.sub_zero] at h
    have ht' : t < args'.length := by have := hl.1; omega
    have : (args'.toArray ++ Array.replicate (n - args'.toArray.size) undef).getD t undef = args'[t] := by
      simp [Array.getElem?_append, ht']
    rw [this]
    exact hl.2 t v _ h (List.getElem?_eq_getElem ht')
  · rw [if_neg (by omega)] at h
    have hu : v = undef := by
      rcases Tr.get_full undef (floors n) t with q | q
      · unfold blank at h; rw [q] at h; cases h
      · unfold blank at h; rw [q] at h; injection h with h; exact h.symm
    subst hu
    have ht' : ¬ t < args'.length := by have := hl.1; omega
    have : (args'.toArray ++ Array.replicate (n - args'.toArray.size) undef).getD t undef = undef := by
      simp only [Array.getD_eq_getD_getElem?, Array.getElem?_append, List.size_toArray, ht', if_false, Array.getElem?_replicate]
      split <;> rfl
    rw [this]; exact VRel.undef μ

/-! ### A body -/
theorem body_sound {E : Evs} (hcode : CodeSound P B w0 E.code) (hdef : DefSound P B w0 E.body) {f : FuncId} {fn : Func} {c : Code} {args args' : List Value} {dfd : Bool} {um um' : FrameMode} {e : Ending}
    (hf : P.funcs[f]? = some fn) (hb : fn.body = some c) (he : bodyRun P E fn c dfd um H (argsT args 0 (blank fn.ntmps)) = some (e, um', H'))
    (h : HRel P B w0 μ H w) (hl : LRel μ args args') (cs : List Frame) (hcs : dfd = true → ∃ c0 rest, cs = c0 :: rest ∧ MRel μ um c0.mode) :
    ∃ μ' w' e' fr' cs', HRel P B w0 μ' H' w' ∧ Step μ μ' H H' ∧ EndRel μ' e e' ∧ Steps P (lone (Frame.enter P f args'.toArray (if dfd then .deferred else .normal)) cs w) (lone fr' cs' w') ∧
      fr'.kind = (if dfd then .deferred else .normal) ∧ fr'.fn = f ∧ fr'.going P w' e' ∧ CsRel dfd cs cs' ∧ (dfd = true → ∃ c1 rest, cs' = c1 :: rest ∧ MRel μ' um' c1.mode) := by
  cases hT : argsT args 0 (blank fn.ntmps) with
  | none => rw [hT] at he; cases he
  | some T =>
    rw [hT] at he
    have he : bodyEnd P E fn (E.code c ⟨T, fn.ntmps, [], dfd, um, none⟩ H) = some (e, um', H') := he
    let fr0 : Frame := Frame.enter P f args'.toArray (if dfd then .deferred else .normal)
    have hfr : fr0 = fat fr0 (args'.toArray ++ Array.replicate (fn.ntmps - args'.toArray.size) undef) [] [.code c] := by
      simp [fr0, Frame.enter, fat, hf, hb]
    have hF : FRel μ ⟨T, fn.ntmps, [], dfd, um, none⟩ fr0 (args'.toArray ++ Array.replicate (fn.ntmps - args'.toArray.size) undef) [] cs :=
      ⟨frame_tmps hl hT, .nil, rfl, fun _ => rfl, (fun l q => by cases q), hcs⟩
    cases hr : E.code c ⟨T, fn.ntmps, [], dfd, um, none⟩ H with
    | none => rw [hr] at he; cases he
    | some p =>
      obtain ⟨x, S1, H1⟩ := p
      rw [hr] at he
      have hc := hcode c _ H x S1 H1 hr μ w fr0 _ [] cs [] (.code c) h hF (.inl rfl)
      rw [← hfr] at hc
      have hr0 : fr0.roundOf = none := rfl
      -- the frame leaves
      have fin : ∀ (u u1 : FrameMode) (μ1 : Mp) (w1 : World) (t1 : Array Value) (d1 : List Deferred) (cs1 : List Frame) (k1 : List Item), Reached P B w0 μ H ⟨T, fn.ntmps, [], dfd, um, none⟩ fr0 cs S1 H1 μ1 w1 t1 d1 cs1 → MRel μ1 u u1 → u ≠ .run →
          Steps P (lone fr0 cs w) (lone { fat fr0 t1 d1 k1 with mode := u1 } cs1 w1) → bodyEnd2 S1.um (evLeave P E fn S1.T S1.ds u H1) = some (e, um', H') →
          ∃ μ' w' e' fr' cs', HRel P B w0 μ' H' w' ∧ Step μ μ' H H' ∧ EndRel μ' e e' ∧ Steps P (lone fr0 cs w) (lone fr' cs' w') ∧
            fr'.kind = (if dfd then .deferred else .normal) ∧ fr'.fn = f ∧ fr'.going P w' e' ∧ CsRel dfd cs cs' ∧ (dfd = true → ∃ c1 rest, cs' = c1 :: rest ∧ MRel μ' um' c1.mode) := by
        intro u u1 μ1 w1 t1 d1 cs1 k1 hre hm hu hst hend
        cases hlv : evLeave P E fn S1.T S1.ds u H1 with
        | none => rw [hlv] at hend; cases hend
        | some q =>
          obtain ⟨e2, H2⟩ := q
          rw [hlv] at hend
          have hend : some (e2, S1.um, H2) = some (e, um', H') := hend
          simp only [Option.some.injEq, Prod.mk.injEq] at hend
          obtain ⟨rfl, rfl, rfl⟩ := hend
          obtain ⟨μ2, w2, e', fr2, g1, g2, g3, g4, g5, g6, g7⟩ := evLeave_sound hdef S1.ds u H1 e2 H2 hlv μ1 w1 { fat fr0 t1 d1 k1 with mode := u1 } cs1 hre.h hre.f.t hre.f.d hm hu hf
          refine ⟨μ2, w2, e', fr2, cs1, g1, hre.st.trans g2, g3, hst.trans g4, g5, g6, g7, hre.c, fun hd => ?_⟩
          obtain ⟨c1, rest, a, b⟩ := hre.f.um (hre.dfd.trans hd)
          exact ⟨c1, rest, a, b.mono g2.ext⟩
      cases x with
      | normal =>
        obtain ⟨μ1, w1, t1, d1, cs1, hre, hst⟩ := hc
        exact fin .returning .returning μ1 w1 t1 d1 cs1 [] hre trivial (fun q => by cases q) (hst.trans (.one (st_end hr0))) he
      | ret =>
        obtain ⟨μ1, w1, t1, d1, cs1, k1, hre, hst⟩ := hc
        exact fin .returning .returning μ1 w1 t1 d1 cs1 (.code .ret :: k1) hre trivial (fun q => by cases q) (hst.trans (.one (st_ret hr0))) he
      | panic ch =>
        obtain ⟨μ1, w1, t1, d1, cs1, ch', k1, hre, hcr, hst⟩ := hc
        exact fin (.panicking ch) (.panicking ch') μ1 w1 t1 d1 cs1 k1 hre hcr (fun q => by cases q) hst he
      | exit id => cases he
      | goto l => cases he
      | outgrown => cases he

structure PF (P : Program) (ft : Tr Func) : Prop where
  mix : P.follows .mixedOrders = true
  ft : ∀ f fn, ft.get f = some fn → P.funcs[f]? = some fn
  num : ∀ (f : Nat) fn, P.funcs[f]? = some fn → fn.body.isSome = true → (fn.name == "runtime.NumGoroutine") = false

theorem enter_run {f : FuncId} {fn : Func} {c : Code} (hf : P.funcs[f]? = some fn) (hb : fn.body = some c) (hn : (fn.name == "runtime.NumGoroutine") = false) (args : Array Value) (w : World) : (callFunc f args).run P w = .ok (.enter f args) w := by
  have hn' : ¬ fn.name = "runtime.NumGoroutine" := by simpa using hn
  simp [callFunc, program, Sem.run, hf, hb, hn']

theorem evBody_def {ft : Tr Func} (hP : PF P ft) {E : Evs} (hcode : CodeSound P B w0 E.code) (hdef : DefSound P B w0 E.body) : DefSound P B w0 (evBody P ft E) := by
  intro f args um H e um' H' he μ w args' h hl
  unfold evBody at he
  cases hft : ft.get f with
  | none => rw [hft] at he; cases he
  | some fn =>
    rw [hft] at he
    have hf := hP.ft f fn hft
    cases hb : fn.body with
    | none => simp only [hb] at he; cases he
    | some c =>
      simp only [hb] at he
      refine ⟨enter_run hf hb (hP.num f fn hf (by rw [hb]; rfl)) _ w, fun c0 cs hm => ?_⟩
      obtain ⟨μ', w', e', fr', cs', g1, g2, g3, g4, g5, g6, g7, g8, g9⟩ := body_sound hcode hdef hf hb he h hl (c0 :: cs) (fun _ => ⟨c0, cs, rfl, hm⟩)
      obtain ⟨c1, rest, m, q1, q2⟩ := g8
      injection q1 with q1 q3; subst q1; subst q3
      obtain ⟨c2, rest2, r1, r2⟩ := g9 rfl
      rw [q2] at r1; injection r1 with r1 r3; subst r1; subst r3
      subst q2
      exact ⟨μ', w', e', m, fr', g1, g2, g3, r2, g4, g5, g7⟩

theorem evBody_call {ft : Tr Func} (hP : PF P ft) {E : Evs} (hcode : CodeSound P B w0 E.code) (hdef : DefSound P B w0 E.body) : CallSound P B w0 (Evs.call ⟨E.code, evBody P ft E⟩) := by
  intro f args H e H' he μ w args' h hl
  unfold Evs.call at he
  cases hb0 : evBody P ft E f args false .run H with
  | none => simp only [hb0] at he; cases he
  | some p =>
    obtain ⟨e1, um1, H1⟩ := p
    simp only [hb0, Option.some.injEq, Prod.mk.injEq] at he
    obtain ⟨rfl, rfl⟩ := he
    unfold evBody at hb0
    cases hft : ft.get f with
    | none => rw [hft] at hb0; cases hb0
    | some fn =>
      rw [hft] at hb0
      have hf := hP.ft f fn hft
      cases hb : fn.body with
      | none =>
        simp only [hb] at hb0
        have hb0 : bodyEnd2 .run (evExtern P fn f args H) = some (e1, um1, H1) := hb0
        cases hx : evExtern P fn f args H with
        | none => rw [hx] at hb0; cases hb0
        | some q =>
          obtain ⟨e2, H2⟩ := q
          rw [hx] at hb0
          have hb0 : some (e2, FrameMode.run, H2) = some (e1, um1, H1) := hb0
          simp only [Option.some.injEq, Prod.mk.injEq] at hb0
          obtain ⟨rfl, rfl, rfl⟩ := hb0
          exact .inl (evExtern_sound hf hb h hl hx)
      | some c =>
        simp only [hb] at hb0
        refine .inr ⟨enter_run hf hb (hP.num f fn hf (by rw [hb]; rfl)) _ w, fun cs => ?_⟩
        obtain ⟨μ', w', e', fr', cs', g1, g2, g3, g4, g5, g6, g7, g8, g9⟩ := body_sound hcode hdef hf hb hb0 h hl cs (fun q => by cases q)
        have hcs : cs' = cs := g8
        subst hcs
        refine ⟨e', w', fr', ⟨μ', g1, g2, g3⟩, ?_, g6, ?_⟩
        · cases e' with
          | returned v => exact g4
          | panicked ch => exact g4
          | outgrown => cases e1 <;> exact g3.elim
        · cases e' with
          | returned v => obtain ⟨a, b, c⟩ := g7; exact ⟨a, b, g5, c⟩
          | panicked ch => exact g7
          | outgrown => trivial
end
end Go.Cre

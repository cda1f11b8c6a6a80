/- A part of the proof of ResumeSaves. -/
import Derived.Test.YtmeojgcibppcmaaDoorCreY1
import Derived.Lib.MakeNoZero
import Derived.KernelRfl
set_option linter.unusedVariables false
set_option linter.unusedSimpArgs false
namespace Go.Cre
open Go.RowKit
section
variable {P : Program} {B : Nat → Prop} {w0 w : World} {μ μ1 μ' : Mp} {H H1 H' : Hp} {S S1 S' : St} {fr : Frame} {tmps : Array Value} {ds : List Deferred} {cs cs1 : List Frame} {k : List Item}
theorem st_end (hr : fr.roundOf = none) : step P (lone (fat fr tmps ds []) cs w) = .next (lone { fat fr tmps ds [] with mode := .returning } cs w) := step_lone_go (by simp [stepG, stepG.exec, fat, hr])
theorem st_ret (hr : fr.roundOf = none) : step P (lone (fat fr tmps ds (.code .ret :: k)) cs w) = .next (lone { fat fr tmps ds (.code .ret :: k) with mode := .returning } cs w) := step_lone_go (by simp [stepG, stepG.exec, fat, hr])
theorem plain_args : ∀ {l l' : List Value}, l.all plain = true → LRel μ l l' → l' = l := by
 intro l; induction l with
 | nil => intro l' _ h; exact h.inv_nil
 | cons x l ih =>
  intro l' hp h; obtain ⟨x', m, rfl, h1, h2⟩ := h.inv_cons; simp only [List.all_cons, Bool.and_eq_true] at hp; rw [ih hp.2 h2, VRel.plain_eq hp.1 h1]
theorem next_none (fn : Func) (h1 : fn.name = "internal/bytealg.MakeNoZero" ∨ fn.name = "internal/abi.NoEscape") (h2 : fn.origin = "") : Extern.findNext fn = none := by
 have e1 : Extern.allNextRows.lookup "internal/bytealg.MakeNoZero" = none := by kernel_rfl
 have e2 : Extern.allNextRows.lookup "internal/abi.NoEscape" = none := by kernel_rfl
 have e3 : Extern.allNextRows.lookup "" = none := by kernel_rfl
 unfold Extern.findNext; rcases h1 with h1 | h1 <;> rw [h1, h2] <;> simp [e1, e2, e3]
theorem find_noZero (fn : Func) (h1 : fn.name = "internal/bytealg.MakeNoZero") : Extern.find fn = some (Extern.BytealgMakeNoZero.makeNoZero fn.params fn.resultTypes) := by
 have e1 : Extern.allGenericRows.lookup "internal/bytealg.MakeNoZero" = none := by kernel_rfl
 have e2 : Extern.allTypedRows.lookup "internal/bytealg.MakeNoZero" = some Extern.BytealgMakeNoZero.makeNoZero := by kernel_rfl
 unfold Extern.find; rw [h1]; simp [e1, e2]
theorem find_same (fn : Func) (h1 : fn.name = "internal/abi.NoEscape") : Extern.find fn = some Extern.AbiNoEscape.same := by
 have e1 : Extern.allGenericRows.lookup "internal/abi.NoEscape" = none := by kernel_rfl
 have e2 : Extern.allTypedRows.lookup "internal/abi.NoEscape" = none := by kernel_rfl
 have e3 : Extern.allRows.lookup "internal/abi.NoEscape" = some Extern.AbiNoEscape.same := by kernel_rfl
 unfold Extern.find; rw [h1]; simp [e1, e2, e3]
theorem call_extern {f : FuncId} {fn : Func} (hf : P.funcs[f]? = some fn) (hb : fn.body = none) (hn : (fn.name == "runtime.NumGoroutine") = false) (h1 : Extern.findNext fn = none) {x : Array Value → Sem Value} (h2 : Extern.find fn = some x) {args : Array Value} {v : Value} {w' : World} (hx : (x args).run P w = .ok v w') :
  (callFunc f args).run P w = .ok (.value v) w' := by
 have hn' : ¬ fn.name = "runtime.NumGoroutine" := by simpa using hn
 simp [callFunc, program, Sem.run, hf, hb, hn', h1, h2, mark, hx]
theorem evExtern_sound {f : FuncId} {fn : Func} {args args' : List Value} {e : Ending} (hf : P.funcs[f]? = some fn) (hb : fn.body = none) (h : HRel P B w0 μ H w) (hl : LRel μ args args') (he : evExtern P fn f args H = some (e, H')) :
  ∃ v v' w' μ', e = .returned v ∧ (callFunc f args'.toArray).run P w = .ok (.value v') w' ∧ HRel P B w0 μ' H' w' ∧ Step μ μ' H H' ∧ VRel μ' v v' := by
 unfold evExtern at he; cases hp : args.all plain with
 | true =>
  rw [hp, cond_true] at he; obtain rfl := plain_args hp hl; have hzero : extNoZero P fn H args' fn.resultTypes.toList = some (e, H') → ∃ v v' w' μ', e = .returned v ∧ (callFunc f args'.toArray).run P w = .ok (.value v') w' ∧ HRel P B w0 μ' H' w' ∧ Step μ μ' H H' ∧ VRel μ' v v' := by
   intro he; unfold extNoZero at he; split at he
   ·
    rename_i n t hres _; cases hc : (decide (fn.name = "internal/bytealg.MakeNoZero") && decide (fn.origin = "") && Nat.ble n 1000000) with
    | false => rw [hc] at he; cases he
    | true =>
     rw [hc, cond_true] at he; simp only [Bool.and_eq_true, decide_eq_true_eq] at hc; obtain ⟨⟨q1, q2⟩, q3⟩ := hc; have q3 := Nat.le_of_ble_eq_true q3; split at he
     ·
      rename_i el hu; cases hcl : Nat.beq (P.cellsOf el) 1 with
      | false => rw [hcl] at he; cases he
      | true =>
       rw [hcl, cond_true] at he; have hcl := Nat.eq_of_beq_eq_true hcl; unfold extNoZero2 at he; cases hno : H.newOpen [] el false with
       | none => rw [hno] at he; cases he
       | some p =>
        obtain ⟨id, H1⟩ := p; rw [hno] at he; simp only [Option.some.injEq, Prod.mk.injEq] at he; obtain ⟨rfl, rfl⟩ := he; obtain ⟨csx, c1, c2, c3⟩ := Lib.run_makeNoZero w fn.params t el hu n (by omega); have hres' : fn.resultTypes = #[t] := by
         apply Array.ext'; rw [hres]
        obtain ⟨m1, m2, rfl⟩ := (h.drew.drew).madeOpen (o := .cells csx el) (L := ⟨w.heap.size, csx.size, 1⟩) hno rfl (fun f => ⟨rfl, rfl, hcl, Nat.zero_le _, (fun q => by cases q), (fun i v v' q => by simp at q), ⟨fun off _ a b => by simp at b, fun _ => .inl rfl⟩⟩); refine ⟨_, .slice (some ⟨w.heap.size, 0, none⟩) n csx.size, _, _, rfl, ?_, m1, m2, .sliceO _ 0 n csx.size ⟨w.heap.size, csx.size, 1⟩ (Mp.put_self _ _ _) c2 (by simp)⟩; refine call_extern hf hb (by rw [q1]; rfl) (next_none fn (.inl q1) q2) (find_noZero fn q1) ?_; rw [hres']; exact c1
     ·
      cases he
   ·
    cases he
  unfold extPlain2 at he; split at he
  ·
   rename_i v hev; cases hpv : plain v with
   | false => rw [hpv] at he; cases he
   | true =>
    rw [hpv, cond_true] at he; simp only [Option.some.injEq, Prod.mk.injEq] at he; obtain ⟨rfl, rfl⟩ := he; exact ⟨v, v, w, μ, rfl, evPure_run hev w, h, Step.refl _ _, plain_rel hpv⟩
  ·
   exact hzero he
 | false =>
  rw [hp, cond_false] at he; unfold extSame at he; split at he
  ·
   rename_i v; cases hc : (decide (fn.name = "internal/abi.NoEscape") && decide (fn.origin = "")) with
   | false => rw [hc] at he; cases he
   | true =>
    rw [hc, cond_true] at he; simp only [Bool.and_eq_true, decide_eq_true_eq] at hc; obtain ⟨q1, q2⟩ := hc; simp only [Option.some.injEq, Prod.mk.injEq] at he; obtain ⟨rfl, rfl⟩ := he; obtain ⟨v', l', rfl, h1, h2⟩ := hl.inv_cons; obtain rfl := h2.inv_nil; refine ⟨v, v', w, μ, rfl, ?_, h, Step.refl _ _, h1⟩; exact call_extern hf hb (by rw [q1]; rfl) (next_none fn (.inr q1) q2) (find_same fn q1) rfl
  ·
   cases he
theorem Tr.get_full {α : Type} (a : α) : ∀ (d n : Nat), (Tr.full a d).get n = none ∨ (Tr.full a d).get n = some a := by
 intro d; induction d with
 | zero => intro n; exact .inl rfl
 | succ d ih =>
  intro n; cases n with
  | zero => exact .inr rfl
  | succ m =>
   have e : Tr.full a (d + 1) = .node (some a) (Tr.full a d) (Tr.full a d) := rfl; rw [e, Tr.get_succ]; split <;> exact ih _
theorem argsT_get : ∀ {l : List Value} {i : Nat} {T T' : Tr Value}, argsT l i T = some T' → ∀ t, T'.get t = if i ≤ t ∧ t < i + l.length then l[t - i]? else T.get t := by
 intro l; induction l with
 | nil => intro i T T' h t; simp [argsT] at h; subst h; rw [if_neg (by rw [List.length_nil]; omega)]
 | cons v l ih =>
  intro i T T' h t; simp only [argsT] at h; cases hs : Tr.set trDepth T i v with
  | none => rw [hs] at h; cases h
  | some T1 =>
   rw [hs] at h; rw [ih h t, Tr.get_set hs]; by_cases h1 : i + 1 ≤ t ∧ t < i + 1 + l.length
   ·
    rw [if_pos h1, if_pos (by simp; omega)]; have : t - i = (t - (i + 1)) + 1 := by omega
    rw [this]; rfl
   ·
    rw [if_neg h1]; by_cases h2 : t = i
    ·
     subst h2; rw [if_pos rfl, if_pos (by simp)]; simp
    ·
     rw [if_neg h2, if_neg (by simp; omega)]
theorem frame_tmps {args args' : List Value} {n : Nat} {T : Tr Value} (hl : LRel μ args args') (hT : argsT args 0 (blank n) = some T) : TRel μ T n (args'.toArray ++ Array.replicate (n - args'.toArray.size) undef) := by
 refine ⟨by simp; omega, fun t v h => ?_⟩; rw [argsT_get hT] at h; by_cases ht : t < args.length
 ·
  rw [if_pos ⟨Nat.zero_le _, by omega⟩, Nat.sub_zero] at h; have ht' : t < args'.length := by have := hl.1; omega
  have : (args'.toArray ++ Array.replicate (n - args'.toArray.size) undef).getD t undef = args'[t] := by
   simp [Array.getElem?_append, ht']
  rw [this]; exact hl.2 t v _ h (List.getElem?_eq_getElem ht')
 ·
  rw [if_neg (by omega)] at h; have hu : v = undef := by
   rcases Tr.get_full undef (floors n) t with q | q
   ·
    unfold blank at h; rw [q] at h; cases h
   ·
    unfold blank at h; rw [q] at h; injection h with h; exact h.symm
  subst hu; have ht' : ¬ t < args'.length := by have := hl.1; omega
  have : (args'.toArray ++ Array.replicate (n - args'.toArray.size) undef).getD t undef = undef := by
   simp only [Array.getD_eq_getD_getElem?, Array.getElem?_append, List.size_toArray, ht', if_false, Array.getElem?_replicate]; split <;> rfl
  rw [this]; exact VRel.undef μ
theorem body_sound {E : Evs} (hcode : CodeSound P B w0 E.code) (hdef : DefSound P B w0 E.body) {f : FuncId} {fn : Func} {c : Code} {args args' : List Value} {dfd : Bool} {um um' : FrameMode} {e : Ending}
  (hf : P.funcs[f]? = some fn) (hb : fn.body = some c) (he : bodyRun P E fn c dfd um H (argsT args 0 (blank fn.ntmps)) = some (e, um', H'))
  (h : HRel P B w0 μ H w) (hl : LRel μ args args') (cs : List Frame) (hcs : dfd = true → ∃ c0 rest, cs = c0 :: rest ∧ MRel μ um c0.mode) :
  ∃ μ' w' e' fr' cs', HRel P B w0 μ' H' w' ∧ Step μ μ' H H' ∧ EndRel μ' e e' ∧ Steps P (lone (Frame.enter P f args'.toArray (if dfd then .deferred else .normal)) cs w) (lone fr' cs' w') ∧
   fr'.kind = (if dfd then .deferred else .normal) ∧ fr'.fn = f ∧ fr'.going P w' e' ∧ CsRel dfd cs cs' ∧ (dfd = true → ∃ c1 rest, cs' = c1 :: rest ∧ MRel μ' um' c1.mode) := by
 cases hT : argsT args 0 (blank fn.ntmps) with
 | none => rw [hT] at he; cases he
 | some T =>
  rw [hT] at he; have he : bodyEnd P E fn (E.code c ⟨T, fn.ntmps, [], dfd, um, none⟩ H) = some (e, um', H') := he
  let fr0 : Frame := Frame.enter P f args'.toArray (if dfd then .deferred else .normal)
  have hfr : fr0 = fat fr0 (args'.toArray ++ Array.replicate (fn.ntmps - args'.toArray.size) undef) [] [.code c] := by
   simp [fr0, Frame.enter, fat, hf, hb]
  have hF : FRel μ ⟨T, fn.ntmps, [], dfd, um, none⟩ fr0 (args'.toArray ++ Array.replicate (fn.ntmps - args'.toArray.size) undef) [] cs :=
   ⟨frame_tmps hl hT, .nil, rfl, fun _ => rfl, (fun l q => by cases q), hcs⟩
  cases hr : E.code c ⟨T, fn.ntmps, [], dfd, um, none⟩ H with
  | none => rw [hr] at he; cases he
  | some p =>
   obtain ⟨x, S1, H1⟩ := p; rw [hr] at he; have hc := hcode c _ H x S1 H1 hr μ w fr0 _ [] cs [] (.code c) h hF (.inl rfl); rw [← hfr] at hc; have hr0 : fr0.roundOf = none := rfl
   -- the frame leaves
   have fin : ∀ (u u1 : FrameMode) (μ1 : Mp) (w1 : World) (t1 : Array Value) (d1 : List Deferred) (cs1 : List Frame) (k1 : List Item), Reached P B w0 μ H ⟨T, fn.ntmps, [], dfd, um, none⟩ fr0 cs S1 H1 μ1 w1 t1 d1 cs1 → MRel μ1 u u1 → u ≠ .run →
     Steps P (lone fr0 cs w) (lone { fat fr0 t1 d1 k1 with mode := u1 } cs1 w1) → bodyEnd2 S1.um (evLeave P E fn S1.T S1.ds u H1) = some (e, um', H') →
     ∃ μ' w' e' fr' cs', HRel P B w0 μ' H' w' ∧ Step μ μ' H H' ∧ EndRel μ' e e' ∧ Steps P (lone fr0 cs w) (lone fr' cs' w') ∧
      fr'.kind = (if dfd then .deferred else .normal) ∧ fr'.fn = f ∧ fr'.going P w' e' ∧ CsRel dfd cs cs' ∧ (dfd = true → ∃ c1 rest, cs' = c1 :: rest ∧ MRel μ' um' c1.mode) := by
    intro u u1 μ1 w1 t1 d1 cs1 k1 hre hm hu hst hend; cases hlv : evLeave P E fn S1.T S1.ds u H1 with
    | none => rw [hlv] at hend; cases hend
    | some q =>
     obtain ⟨e2, H2⟩ := q; rw [hlv] at hend; have hend : some (e2, S1.um, H2) = some (e, um', H') := hend; simp only [Option.some.injEq, Prod.mk.injEq] at hend; obtain ⟨rfl, rfl, rfl⟩ := hend; obtain ⟨μ2, w2, e', fr2, g1, g2, g3, g4, g5, g6, g7⟩ := evLeave_sound hdef S1.ds u H1 e2 H2 hlv μ1 w1 { fat fr0 t1 d1 k1 with mode := u1 } cs1 hre.h hre.f.t hre.f.d hm hu hf; refine ⟨μ2, w2, e', fr2, cs1, g1, hre.st.trans g2, g3, hst.trans g4, g5, g6, g7, hre.c, fun hd => ?_⟩; obtain ⟨c1, rest, a, b⟩ := hre.f.um (hre.dfd.trans hd); exact ⟨c1, rest, a, b.mono g2.ext⟩
   cases x with
   | normal =>
    obtain ⟨μ1, w1, t1, d1, cs1, hre, hst⟩ := hc; exact fin .returning .returning μ1 w1 t1 d1 cs1 [] hre trivial (fun q => by cases q) (hst.trans (.one (st_end hr0))) he
   | ret =>
    obtain ⟨μ1, w1, t1, d1, cs1, k1, hre, hst⟩ := hc; exact fin .returning .returning μ1 w1 t1 d1 cs1 (.code .ret :: k1) hre trivial (fun q => by cases q) (hst.trans (.one (st_ret hr0))) he
   | panic ch =>
    obtain ⟨μ1, w1, t1, d1, cs1, ch', k1, hre, hcr, hst⟩ := hc; exact fin (.panicking ch) (.panicking ch') μ1 w1 t1 d1 cs1 k1 hre hcr (fun q => by cases q) hst he
   | exit id => cases he
   | goto l => cases he
   | outgrown => cases he
structure PF (P : Program) (ft : Tr Func) : Prop where
 mix : P.follows .mixedOrders = true
 ft : ∀ f fn, ft.get f = some fn → P.funcs[f]? = some fn
 num : ∀ (f : Nat) fn, P.funcs[f]? = some fn → fn.body.isSome = true → (fn.name == "runtime.NumGoroutine") = false
theorem enter_run {f : FuncId} {fn : Func} {c : Code} (hf : P.funcs[f]? = some fn) (hb : fn.body = some c) (hn : (fn.name == "runtime.NumGoroutine") = false) (args : Array Value) (w : World) : (callFunc f args).run P w = .ok (.enter f args) w := by
 have hn' : ¬ fn.name = "runtime.NumGoroutine" := by simpa using hn
 simp [callFunc, program, Sem.run, hf, hb, hn']
theorem evBody_def {ft : Tr Func} (hP : PF P ft) {E : Evs} (hcode : CodeSound P B w0 E.code) (hdef : DefSound P B w0 E.body) : DefSound P B w0 (evBody P ft E) := by
 intro f args um H e um' H' he μ w args' h hl; unfold evBody at he; cases hft : ft.get f with
 | none => rw [hft] at he; cases he
 | some fn =>
  rw [hft] at he; have hf := hP.ft f fn hft; cases hb : fn.body with
  | none => simp only [hb] at he; cases he
  | some c =>
   simp only [hb] at he; refine ⟨enter_run hf hb (hP.num f fn hf (by rw [hb]; rfl)) _ w, fun c0 cs hm => ?_⟩; obtain ⟨μ', w', e', fr', cs', g1, g2, g3, g4, g5, g6, g7, g8, g9⟩ := body_sound hcode hdef hf hb he h hl (c0 :: cs) (fun _ => ⟨c0, cs, rfl, hm⟩); obtain ⟨c1, rest, m, q1, q2⟩ := g8; injection q1 with q1 q3; subst q1; subst q3
   obtain ⟨c2, rest2, r1, r2⟩ := g9 rfl; rw [q2] at r1; injection r1 with r1 r3; subst r1; subst r3
   subst q2; exact ⟨μ', w', e', m, fr', g1, g2, g3, r2, g4, g5, g7⟩
theorem evBody_call {ft : Tr Func} (hP : PF P ft) {E : Evs} (hcode : CodeSound P B w0 E.code) (hdef : DefSound P B w0 E.body) : CallSound P B w0 (Evs.call ⟨E.code, evBody P ft E⟩) := by
 intro f args H e H' he μ w args' h hl; unfold Evs.call at he; cases hb0 : evBody P ft E f args false .run H with
 | none => simp only [hb0] at he; cases he
 | some p =>
  obtain ⟨e1, um1, H1⟩ := p; simp only [hb0, Option.some.injEq, Prod.mk.injEq] at he; obtain ⟨rfl, rfl⟩ := he; unfold evBody at hb0; cases hft : ft.get f with
  | none => rw [hft] at hb0; cases hb0
  | some fn =>
   rw [hft] at hb0; have hf := hP.ft f fn hft; cases hb : fn.body with
   | none =>
    simp only [hb] at hb0; have hb0 : bodyEnd2 .run (evExtern P fn f args H) = some (e1, um1, H1) := hb0; cases hx : evExtern P fn f args H with
    | none => rw [hx] at hb0; cases hb0
    | some q =>
     obtain ⟨e2, H2⟩ := q; rw [hx] at hb0; have hb0 : some (e2, FrameMode.run, H2) = some (e1, um1, H1) := hb0; simp only [Option.some.injEq, Prod.mk.injEq] at hb0; obtain ⟨rfl, rfl, rfl⟩ := hb0; exact .inl (evExtern_sound hf hb h hl hx)
   | some c =>
    simp only [hb] at hb0; refine .inr ⟨enter_run hf hb (hP.num f fn hf (by rw [hb]; rfl)) _ w, fun cs => ?_⟩; obtain ⟨μ', w', e', fr', cs', g1, g2, g3, g4, g5, g6, g7, g8, g9⟩ := body_sound hcode hdef hf hb hb0 h hl cs (fun q => by cases q); have hcs : cs' = cs := g8; subst hcs; refine ⟨e', w', fr', ⟨μ', g1, g2, g3⟩, ?_, g6, ?_⟩
    ·
     cases e' with
     | returned v => exact g4
     | panicked ch => exact g4
     | outgrown => cases e1 <;> exact g3.elim
    ·
     cases e' with
     | returned v => obtain ⟨a, b, c⟩ := g7; exact ⟨a, b, g5, c⟩
     | panicked ch => exact g7
     | outgrown => trivial
end
end Go.Cre
namespace Go.Cre
open Go.RowKit
section
variable {P : Program} {B : Nat → Prop} {w0 w w' : World} {μ μ1 μ' : Mp} {H H1 H' : Hp} {S S1 S' : St} {fr : Frame} {tmps : Array Value} {ds : List Deferred} {cs cs1 : List Frame} {k : List Item}
theorem putAll_rel {n : Nat} : ∀ {ps : List Tmp} {args args' : List Value} {T T' : Tr Value} {tmps : Array Value}, putAll T ps args = some T' → LRel μ args args' → TRel μ T n tmps → allBelow n ps = true →
  ps.length = args'.length ∧ TRel μ T' n ((ps.zip args').foldl (fun tmps (x : Tmp × Value) => tmps.setIfInBounds x.1 x.2) tmps) := by
 intro ps; induction ps with
 | nil =>
  intro args args' T T' tmps he hl ht _; cases args with
  | nil =>
   obtain rfl := hl.inv_nil; simp [putAll] at he; subst he; exact ⟨rfl, ht⟩
  | cons => simp [putAll] at he
 | cons t ps ih =>
  intro args args' T T' tmps he hl ht hb; cases args with
  | nil => simp [putAll] at he
  | cons v args =>
   obtain ⟨v', l', rfl, h1, h2⟩ := hl.inv_cons; simp only [putAll] at he; simp only [allBelow, Bool.and_eq_true] at hb; have hlt : t < n := Nat.le_of_ble_eq_true hb.1; cases hs : Tr.set trDepth T t v with
   | none => rw [hs] at he; cases he
   | some T1 =>
    rw [hs] at he; have ht1 : TRel μ T1 n (tmps.setIfInBounds t v') := by
     refine ⟨by simpa using ht.1, fun x u q => ?_⟩; rw [Tr.get_set hs] at q; by_cases hx : x = t
     ·
      subst hx; rw [if_pos rfl] at q; injection q with q; subst q
      have : (tmps.setIfInBounds x v').getD x undef = v' := by
       have : x < tmps.size := Nat.lt_of_lt_of_le hlt ht.1; simp [this]
      rw [this]; exact h1
     ·
      rw [if_neg hx] at q; have : (tmps.setIfInBounds t v').getD x undef = tmps.getD x undef := by
       simp [Array.getElem?_setIfInBounds_ne (Ne.symm hx)]
      rw [this]; exact ht.2 x u q
    obtain ⟨a, b⟩ := ih he h2 ht1 hb.2; exact ⟨by simp [a], b⟩
theorem st_leave0 {l : Nat} {v : Value} {c : Frame} (hr : fr.roundOf = some l) (hk : fr.kind = .normal) (hrun : (Instr.endRound l none).run P w = .ok v w') :
  step P (lone (fat fr tmps ds []) (c :: cs) w) = .next (lone (c.finish v) cs w') := step_lone_go (by simp [stepG, stepG.exec, fat, hr, hrun, doReturn, hk])
theorem st_leaveRet {l : Nat} {v : Value} {c : Frame} (hr : fr.roundOf = some l) (hk : fr.kind = .normal) (hrun : (Instr.endRound l (some .ret)).run P w = .ok v w') :
  step P (lone (fat fr tmps ds (.code .ret :: k)) (c :: cs) w) = .next (lone (c.finish v) cs w') := step_lone_go (by simp [stepG, stepG.exec, fat, hr, hrun, doReturn, hk])
theorem st_leaveExit {l id : Nat} {v : Value} {c : Frame} (hr : fr.roundOf = some l) (hk : fr.kind = .normal) (he : exitTo id k = none) (hrun : (Instr.endRound l (some (.exit id))).run P w = .ok v w') :
  step P (lone (fat fr tmps ds (.code (.exit id) :: k)) (c :: cs) w) = .next (lone (c.finish v) cs w') := step_lone_go (by simp [stepG, stepG.exec, fat, hr, he, hrun, doReturn, hk])
theorem st_begin {l : Nat} (hr : fr.roundOf = some l) (hrun : (Instr.beginRound l).run P w = .ok () w') :
  step P (lone (fat fr tmps ds (.beginRound :: k)) cs w) = .next (lone (fat fr tmps ds k) cs w') := step_lone_go (by simp [stepG, stepG.exec, stepG.apply, fat, hr, hrun, Frame.finish])
theorem loop_real (h : HRel P B w0 μ H w) {l : Nat} {L : Loc} {r : ALoop} (hL : μ l = some L) (hm : H.mem.get l = some (.loop r)) :
  ∃ r', w.heap[L.r]? = some (.loop r') ∧ BRel P μ L (.loop r) (.loop r') := by
 obtain ⟨b, o, q1, q2, q3⟩ := h.blk l L hL; rw [hm] at q1; injection q1 with q1; subst q1
 cases o with
 | loop r' => exact ⟨r', q2, q3⟩
 | _ => exact q3.elim
theorem write_loop (h : HRel P B w0 μ H w) {l : Nat} {L : Loc} {r r1 : ALoop} {r1' : Loop} (hL : μ l = some L) (hg : H.glo ≤ l) (hm : H.mem.get l = some (.loop r)) (hu : H.upd l (.loop r1) = some H') (hb : BRel P μ L (.loop r1) (.loop r1')) :
  HRel P B w0 μ H' { w with heap := w.heap.setIfInBounds L.r (.loop r1') } ∧ Step μ μ H H' :=
 h.writeObj hL hg hm (fun _ _ _ _ _ _ q => by cases q) (fun q => by cases q) hu (fun _ _ _ _ _ _ q => by cases q) hb
theorem yld_sound {E : Evs} (hcode : CodeSound P B w0 E.code) : YieldSound P B w0 E.yld := by
 intro l args H e H' he μ w L args' h hL hl; unfold Evs.yld at he; cases hm : H.mem.get l with
 | none => rw [hm] at he; cases he
 | some b =>
  rw [hm] at he; cases b with
  | loop r =>
   simp only at he; cases hc : (Nat.ble H.glo l && allBelow r.n r.params) with
   | false => rw [hc] at he; cases he
   | true =>
    rw [hc, cond_true] at he; simp only [Bool.and_eq_true] at hc; have hg := Nat.le_of_ble_eq_true hc.1; obtain ⟨r', hr1, hr2⟩ := loop_real h hL hm; obtain ⟨b1, b2, b3, b4, b5, b6, L', b7, b8⟩ := hr2; cases hp : putAll r.T r.params args with
    | none => rw [hp] at he; cases he
    | some T =>
     rw [hp] at he; have he : yldAssign E l r.body (E.code r.assign ⟨T, r.n, [], false, .run, some l⟩ H) = some (e, H') := he; obtain ⟨hlen, hT⟩ := putAll_rel hp hl b6 hc.2; cases ha : E.code r.assign ⟨T, r.n, [], false, .run, some l⟩ H with
     | none => rw [ha] at he; cases he
     | some p =>
      obtain ⟨x1, S1, H1⟩ := p; rw [ha] at he; cases x1 with
      | normal =>
       have he : yldBegin E l r.body S1 H1 = some (e, H') := he; unfold yldBegin at he; cases hm1 : H1.mem.get l with
       | none => rw [hm1] at he; cases he
       | some b =>
        rw [hm1] at he; cases b with
        | loop r1 =>
         simp only at he; cases hst : r1.state with
         | ready =>
          simp only [hst] at he; cases hu : H1.upd l (.loop { r1 with state := .busy }) with
          | none => rw [hu] at he; cases he
          | some H2 =>
           rw [hu] at he; have he : yldBody l (E.code r.body S1 H2) = some (e, H') := he; cases hb : E.code r.body S1 H2 with
           | none => rw [hb] at he; cases he
           | some p =>
            obtain ⟨x2, S3, H3⟩ := p; rw [hb] at he; have he : (match jumpOf x2 with | some j => yldEnd H3 l j | none => none) = some (e, H') := he
            cases hj : jumpOf x2 with
            | none => rw [hj] at he; cases he
            | some j =>
             rw [hj] at he; have he : yldEnd H3 l j = some (e, H') := he; unfold yldEnd at he; cases hm3 : H3.mem.get l with
             | none => rw [hm3] at he; cases he
             | some b =>
              rw [hm3] at he; cases b with
              | loop r3 =>
               simp only at he; cases hu3 : H3.upd l (.loop { r3 with state := if j.isNone then .ready else .done, pending := j }) with
               | none => rw [hu3] at he; cases he
               | some H4 =>
                rw [hu3] at he; have he : some (Ending.returned (.bool j.isNone), H4) = some (e, H') := he; simp only [Option.some.injEq, Prod.mk.injEq] at he; obtain ⟨rfl, rfl⟩ := he
                let tm : Array Value := (r'.params.zip args'.toArray).foldl (fun tmps (x : Tmp × Value) => tmps.setIfInBounds x.1 x.2) r'.tmps
                have htm : TRel μ T r.n tm := by
                 have e1 : tm = (r.params.zip args').foldl (fun tmps (x : Tmp × Value) => tmps.setIfInBounds x.1 x.2) r'.tmps := by
                  show (r'.params.zip args'.toArray).foldl _ _ = _; rw [← Array.foldl_toList, Array.toList_zip, b3]
                 rw [e1]; exact hT
                refine ⟨_, r'.fn, tm, r'.assign, r'.body, rfl, ?_, ?_⟩
                ·
                 have hsz : args'.toArray.size = r'.params.size := by
                  have : r'.params.size = r'.params.toList.length := by simp
                  rw [this, b3]; simpa using hlen.symm
                 have hsz' : args'.length = r'.params.size := by simpa using hsz
                 simp [Instr.yield, Instr.getLoop, getObj, Sem.run, hr1, hsz', tm]
                ·
                 intro caller cs
                 let fr0 : Frame := Frame.round L.r r'.fn tm r'.assign r'.body .normal
                 have hfr : fr0 = fat fr0 tm [] [.code r'.assign, .beginRound, .code r'.body] := rfl
                 have hF : FRel μ ⟨T, r.n, [], false, .run, some l⟩ fr0 tm [] (caller :: cs) :=
                  ⟨htm, .nil, rfl, (fun q => by cases q), (fun l' q => by injection q with q; subst q; exact ⟨L, hL, rfl⟩), (fun q => by cases q)⟩
                 have c1 := hcode r.assign _ H .normal S1 H1 ha μ w fr0 tm [] (caller :: cs) [.beginRound, .code r'.body] (.code r.assign) h hF (.inl rfl); rw [← b4, ← hfr] at c1; obtain ⟨μ1, w1, t1, d1, cs1, R1, s1⟩ := c1; have hcs1 : cs1 = caller :: cs := R1.c; subst hcs1; have hL1 : μ1 l = some L := R1.st.ext _ _ hL; obtain ⟨r1', hr1', hr2'⟩ := loop_real R1.h hL1 hm1; obtain ⟨y1, y2, y3, y4, y5, y6, y7⟩ := hr2'; have hg1 : H1.glo ≤ l := by rw [R1.st.glo]; exact hg
                 obtain ⟨W1, W2⟩ := write_loop (r1' := { r1' with state := .busy }) R1.h hL1 hg1 hm1 hu ⟨rfl, y2, y3, y4, y5, y6, y7⟩; have s2 : step P (lone (fat fr0 t1 d1 [.beginRound, .code r'.body]) (caller :: cs) w1) = .next (lone (fat fr0 t1 d1 [.code r'.body]) (caller :: cs) { w1 with heap := w1.heap.setIfInBounds L.r (.loop { r1' with state := .busy }) }) := by
                  refine st_begin rfl ?_; have : r1'.state = .ready := y1.trans hst; simp [Instr.beginRound, Instr.getLoop, getObj, setObj, Sem.run, hr1', this]
                 have c3 := hcode r.body S1 H2 x2 S3 H3 hb μ1 _ fr0 t1 d1 (caller :: cs) [] (.code r.body) W1 R1.f (.inl rfl); rw [← b5] at c3; have hS1 : S1.dfd = false := R1.dfd
                 -- the round ends
                 have fin : ∀ (μ3 : Mp) (w3 : World) (t3 : Array Value) (d3 : List Deferred) (cs3 : List Frame) (todo : List Item), Reached P B w0 μ1 H2 S1 fr0 (caller :: cs) S3 H3 μ3 w3 t3 d3 cs3 →
                   (∀ v w4, (Instr.endRound L.r j).run P w3 = .ok v w4 → step P (lone (fat fr0 t3 d3 todo) (caller :: cs) w3) = .next (lone (caller.finish v) cs w4)) →
                   Steps P (lone (fat fr0 t1 d1 [.code r'.body]) (caller :: cs) { w1 with heap := w1.heap.setIfInBounds L.r (.loop { r1' with state := .busy }) }) (lone (fat fr0 t3 d3 todo) cs3 w3) →
                   ∃ v' w' μ', HRel P B w0 μ' H4 w' ∧ Step μ μ' H H4 ∧ VRel μ' (.bool j.isNone) v' ∧ Steps P (lone fr0 (caller :: cs) w) (lone (caller.finish v') cs w') := by
                  intro μ3 w3 t3 d3 cs3 todo R3 hstep s3; have hcs3 : cs3 = caller :: cs := by have := R3.c; rw [hS1] at this; exact this
                  subst hcs3; have hL3 : μ3 l = some L := R3.st.ext _ _ hL1; obtain ⟨r3', hr3', hr4'⟩ := loop_real R3.h hL3 hm3; obtain ⟨z1, z2, z3, z4, z5, z6, z7⟩ := hr4'; have hg3 : H3.glo ≤ l := by rw [R3.st.glo, W2.glo]; exact hg1
                  obtain ⟨V1, V2⟩ := write_loop (r1' := { r3' with state := if j.isNone then .ready else .done, pending := j }) R3.h hL3 hg3 hm3 hu3 ⟨rfl, rfl, z3, z4, z5, z6, z7⟩; refine ⟨.bool j.isNone, _, μ3, V1, ((R1.st.trans W2).trans R3.st).trans V2, .atom _ rfl, ?_⟩; refine (s1.trans (.head s2 s3)).trans (.one (hstep _ _ ?_)); simp [Instr.endRound, Instr.getLoop, getObj, setObj, Sem.run, hr3']
                 cases x2 with
                 | normal =>
                  injection hj with hj; subst hj
                  obtain ⟨μ3, w3, t3, d3, cs3, R3, s3⟩ := c3; exact fin μ3 w3 t3 d3 cs3 [] R3 (fun v w4 q => st_leave0 rfl rfl q) s3
                 | ret =>
                  injection hj with hj; subst hj
                  obtain ⟨μ3, w3, t3, d3, cs3, k3, R3, s3⟩ := c3; exact fin μ3 w3 t3 d3 cs3 _ R3 (fun v w4 q => st_leaveRet rfl rfl q) s3
                 | exit id =>
                  injection hj with hj; subst hj
                  obtain ⟨μ3, w3, t3, d3, cs3, k3, R3, ex, s3⟩ := c3; exact fin μ3 w3 t3 d3 cs3 _ R3 (fun v w4 q => st_leaveExit rfl rfl (ex.trans rfl) q) s3
                 | goto l => cases hj
                 | panic c => cases hj
                 | outgrown => cases hj
              | _ => cases he
         | done => simp only [hst] at he; cases he
         | busy => simp only [hst] at he; cases he
         | exhausted => simp only [hst] at he; cases he
        | _ => cases he
      | _ => cases he
  | _ => cases he
end
end Go.Cre
namespace Go.Cre
open Go.RowKit
section
variable {P : Program} {B : Nat → Prop} {w0 w w' : World} {μ μ1 μ' : Mp} {H H1 H' : Hp} {S S1 S' : St} {fr : Frame} {tmps : Array Value} {ds : List Deferred} {cs cs1 : List Frame} {k : List Item}
theorem res_range {f : Operand} {l : Nat} {fn : Fn} {a b : Array Value} (hv : rho tmps f = .func fn a b) :
  resolve (rho tmps) { callee := .value f, args := #[.const (.func (.yield l) #[] #[])], argTypes := #[] } 0 = pure { target := .fn fn b, args := a.push (.func (.yield l) #[] #[]) } := by
 have e : #[Operand.const (.func (.yield l) #[] #[])].map (rho tmps) = #[.func (.yield l) #[] #[]] := by simp [rho]
 simp only [resolve, e, hv, Deferred.ofValue]; simp
theorem st_rangeEnter {f : Operand} {params : Array Tmp} {assign body : Code} {l : Nat} {mark : List Deferred} {w1 w2 : World} {fn : Fn} {a b args : Array Value} {g : FuncId}
  (hr : (Instr.enterLoop fr.fn tmps params assign body fr.roundOf).run P w = .ok (l, mark) w1) (hv : rho tmps f = .func fn a b) (hi : (invoke (.fn fn b) (a.push (.func (.yield l) #[] #[]))).run P w1 = .ok (.enter g args) w2) :
  step P (lone (fat fr tmps ds (.code (.rangeFunc f params assign body) :: k)) cs w) = .next (lone (Frame.enter P g args .normal) (fat fr tmps (mark ++ ds) (.inRangeFunc l :: k) :: cs) w2) := by
 have he := fat_eval (fr := fr) (tmps := tmps) (ds := mark ++ ds) (.inRangeFunc l :: k); simp only [fat] at he; refine step_lone_go ?_; simp only [stepG, stepG.exec, fat, Sem.runT_eq, hr, GStep.bare_after, he, res_range hv, pure_bind]; simp [stepG.apply, hi]
theorem st_rangeValue {f : Operand} {params : Array Tmp} {assign body : Code} {l : Nat} {mark : List Deferred} {w1 w2 : World} {fn : Fn} {a b : Array Value} {v : Value}
  (hr : (Instr.enterLoop fr.fn tmps params assign body fr.roundOf).run P w = .ok (l, mark) w1) (hv : rho tmps f = .func fn a b) (hi : (invoke (.fn fn b) (a.push (.func (.yield l) #[] #[]))).run P w1 = .ok (.value v) w2) :
  step P (lone (fat fr tmps ds (.code (.rangeFunc f params assign body) :: k)) cs w) = .next (lone (fat fr tmps (mark ++ ds) (.endRangeFunc l :: k)) cs w2) := by
 have he := fat_eval (fr := fr) (tmps := tmps) (ds := mark ++ ds) (.inRangeFunc l :: k); simp only [fat] at he; refine step_lone_go ?_; simp only [stepG, stepG.exec, fat, Sem.runT_eq, hr, GStep.bare_after, he, res_range hv, pure_bind]; simp [stepG.apply, hi, Frame.finish]
theorem st_rangeEnd {l : Nat} {jump : Option Code} (hr : (Instr.endLoop l).run P w = .ok jump w') :
  step P (lone (fat fr tmps ds (.endRangeFunc l :: k)) cs w) = .next (lone (fat fr tmps ds ((jump.map Item.code).toList ++ k)) cs w') :=
 step_lone_go (by simp [stepG, stepG.exec, fat, hr])
theorem range_start (h : HRel P B w0 μ H w) (hf : FRel μ S fr tmps ds cs) {d : Nat} {dss : List Deferred} (he : rangeStart S H = some (d, dss, H1)) {params : Array Tmp} {assign body : Code} {l : Nat} {H2 : Hp}
  (hn : H1.new (.loop { state := .ready, pending := none, T := S.T, n := S.n, params := params.toList, assign := assign, body := body, dfr := d }) = some (l, H2)) :
  ∃ μ2 w2 mark L, (Instr.enterLoop fr.fn tmps params assign body fr.roundOf).run P w = .ok (L.r, mark) w2 ∧ HRel P B w0 μ2 H2 w2 ∧ Step μ μ2 H H2 ∧ μ2 l = some L ∧ DRel μ2 dss (mark ++ ds) ∧ H2.glo ≤ l := by
 -- the loop itself, from the block for the deferred calls on
 have fin : ∀ (μ1 : Mp) (w1 : World) (mark : List Deferred) (L1 : Loc), HRel P B w0 μ1 H1 w1 → Step μ μ1 H H1 → μ1 d = some L1 → DRel μ1 dss (mark ++ ds) →
   (Instr.enterLoop fr.fn tmps params assign body fr.roundOf).run P w = .ok (w1.heap.size, mark) (w1.alloc (.loop { state := .ready, pending := none, fn := fr.fn, tmps := tmps, params := params, assign := assign, body := body, defers := L1.r })) →
   ∃ μ2 w2 mark L, (Instr.enterLoop fr.fn tmps params assign body fr.roundOf).run P w = .ok (L.r, mark) w2 ∧ HRel P B w0 μ2 H2 w2 ∧ Step μ μ2 H H2 ∧ μ2 l = some L ∧ DRel μ2 dss (mark ++ ds) ∧ H2.glo ≤ l := by
  intro μ1 w1 mark L1 h1 s1 hd hD hrun; have hext := h1.ext_put ⟨w1.heap.size, 0, 0⟩
  obtain ⟨m1, m2, hl⟩ := h1.made (o := .loop { state := .ready, pending := none, fn := fr.fn, tmps := tmps, params := params, assign := assign, body := body, defers := L1.r }) (L := ⟨w1.heap.size, 0, 0⟩) hn rfl rfl
   ⟨rfl, rfl, rfl, rfl, rfl, (hf.t.mono s1.ext).mono hext, L1, hext _ _ hd, rfl⟩
  subst hl; refine ⟨_, _, mark, ⟨w1.heap.size, 0, 0⟩, hrun, m1, s1.trans m2, Mp.put_self _ _ _, hD.mono hext, ?_⟩; rw [m2.glo]; exact h1.glt
 unfold rangeStart at he; cases hrnd : S.rnd with
 | some l0 =>
  rw [hrnd] at he; simp only at he; cases hm : H.mem.get l0 with
  | none => rw [hm] at he; cases he
  | some b =>
   rw [hm] at he; cases b with
   | loop r0 =>
    simp only [Option.some.injEq, Prod.mk.injEq] at he; obtain ⟨rfl, rfl, rfl⟩ := he; obtain ⟨L0, hL0, hro⟩ := hf.rnd1 l0 hrnd; obtain ⟨r0', hr1, hr2⟩ := loop_real h hL0 hm; obtain ⟨b1, b2, b3, b4, b5, b6, L', b7, b8⟩ := hr2; refine fin μ w [] L' h (Step.refl _ _) b7 hf.d ?_; rw [hro]; simp [Instr.enterLoop, Instr.getLoop, getObj, newObj, Sem.run, hr1, b8]
   | _ => cases he
 | none =>
  rw [hrnd] at he; simp only at he; cases hnew : H.new (.dfr (some [])) with
  | none => rw [hnew] at he; cases he
  | some p =>
   obtain ⟨r, Hx⟩ := p; rw [hnew] at he; simp only [Option.some.injEq, Prod.mk.injEq] at he; obtain ⟨rfl, rfl, rfl⟩ := he; obtain ⟨m1, m2, hl⟩ := h.made (o := .deferred (some [])) (L := ⟨w.heap.size, 0, 0⟩) hnew rfl rfl ⟨rfl, .inl rfl⟩; subst hl; refine fin _ _ [{ target := .collected w.heap.size, args := #[] }] ⟨w.heap.size, 0, 0⟩ m1 m2 (Mp.put_self _ _ _) (.cons _ _ _ _ (.inr ⟨H.nx, ⟨w.heap.size, 0, 0⟩, rfl, Mp.put_self _ _ _, rfl⟩) (hf.d.mono m2.ext)) ?_; rw [hf.rnd0 hrnd]; simp [Instr.enterLoop, newObj, Sem.run]
theorem range_sound {E : Evs} (hcall : CallSound P B w0 E.call) : RangeSound P B w0 E := by
 intro f params assign body S H e S' H' he μ w fr tmps ds cs k h hf; unfold evRange at he; cases hst : rangeStart S H with
 | none => rw [hst] at he; cases he
 | some p =>
  obtain ⟨d, dss, H1⟩ := p; rw [hst] at he; simp only at he; cases hn : H1.new (.loop { state := .ready, pending := none, T := S.T, n := S.n, params := params.toList, assign := assign, body := body, dfr := d }) with
  | none => rw [hn] at he; cases he
  | some p =>
   obtain ⟨l, H2⟩ := p; rw [hn] at he; simp only at he; obtain ⟨μ2, w2, mark, L, q1, q2, q3, q4, q5, q6⟩ := range_start h hf hst hn; have hF2 : FRel μ2 { S with ds := dss } fr tmps (mark ++ ds) cs := by
    have := hf.mono q3.ext; exact ⟨this.t, q5, this.kind, this.rnd0, this.rnd1, this.um⟩
   have R2 : Reached P B w0 μ H S fr cs { S with ds := dss } H2 μ2 w2 tmps (mark ++ ds) cs := ⟨q2, q3, hF2, CsRel.refl _ _ hf.hasCs, rfl, rfl⟩; cases hop : opd S.T H2 f with
   | none => rw [hop] at he; cases he
   | some fv =>
    rw [hop] at he; have hfr := opd_sound q2 hF2.t (T := S.T) hop; cases fv with
    | func fn first captured =>
     have he : (match evFn P H2 fn (first.toList ++ [.func (.yield l) #[] #[]]) captured.toList with | none => none | some (g, as) => rangeEnd { S with ds := dss } l (E.body g as false .run H2)) = some (e, S', H') := he
     cases hev : evFn P H2 fn (first.toList ++ [.func (.yield l) #[] #[]]) captured.toList with
     | none => rw [hev] at he; cases he
     | some p =>
      obtain ⟨g, as⟩ := p; rw [hev] at he; simp only at he; rcases hfr.func_inv with ⟨a', b', hv, hny, h1, h2⟩ | ⟨l', L', rfl, _, rfl, rfl, hv⟩
      ·
       have hy : LRel μ2 [Value.func (.yield l) #[] #[]] [Value.func (.yield L.r) #[] #[]] := LRel.cons (.yield l L q4) (LRel.nil _); obtain ⟨as', a1, a2⟩ := evFn_sound (w := w2) (h1.append hy) h2 hev; have a1' : (invoke (.fn fn b') (a'.push (.func (.yield L.r) #[] #[]))).run P w2 = (callFunc g as'.toArray).run P w2 := by
        rw [← a1]; have e1 : (a'.toList ++ [Value.func (.yield L.r) #[] #[]]).toArray = a'.push (.func (.yield L.r) #[] #[]) := by apply Array.ext'; simp
        have e2 : b'.toList.toArray = b' := by simp
        rw [e1, e2]
       cases hb : E.body g as false .run H2 with
       | none => rw [hb] at he; cases he
       | some p =>
        obtain ⟨x, um, H3⟩ := p; rw [hb] at he; have hc : E.call g as H2 = some (x, H3) := by unfold Evs.call; rw [hb]
        -- the loop's end
        have fin : ∀ (μ3 : Mp) (w3 : World) (v : Value), x = .returned v → HRel P B w0 μ3 H3 w3 → Step μ2 μ3 H2 H3 → Steps P (lone (fat fr tmps ds (.code (.rangeFunc f params assign body) :: k)) cs w) (lone (fat fr tmps (mark ++ ds) (.endRangeFunc L.r :: k)) cs w3) →
          CodeOk P B w0 μ H S fr cs (lone (fat fr tmps ds (.code (.rangeFunc f params assign body) :: k)) cs w) k S' H' e := by
         intro μ3 w3 v hx h3 s3 hs; subst hx; have he : rangeEnd2 { S with ds := dss } l H3 = some (e, S', H') := he; unfold rangeEnd2 at he; cases hm3 : H3.mem.get l with
         | none => rw [hm3] at he; cases he
         | some b =>
          rw [hm3] at he; cases b with
          | loop r3 =>
           have hL3 : μ3 l = some L := s3.ext _ _ q4; obtain ⟨r3', hr3', hr4'⟩ := loop_real h3 hL3 hm3; obtain ⟨z1, z2, z3, z4, z5, z6, z7⟩ := hr4'; have hg3 : H3.glo ≤ l := by rw [s3.glo]; exact q6
           have hnb : r3.state ≠ .busy ∧ ∃ H4, H3.upd l (.loop { r3 with state := .exhausted }) = some H4 ∧ rangeEnd3 { S with ds := dss } r3.pending H4 = some (e, S', H') := by
            simp only at he; cases hs : r3.state with
            | busy => simp only [hs] at he; cases he
            | _ =>
             simp only [hs] at he; cases hu : H3.upd l (.loop { r3 with state := .exhausted }) with
             | none => rw [hu] at he; cases he
             | some H4 => rw [hu] at he; exact ⟨(fun q => by cases q), H4, rfl, he⟩
           obtain ⟨hnb, H4, hu, he⟩ := hnb; obtain ⟨V1, V2⟩ := write_loop (r1' := { r3' with state := .exhausted }) h3 hL3 hg3 hm3 hu ⟨rfl, z2, z3, z4, z5, z6, z7⟩; have hend : (Instr.endLoop L.r).run P w3 = .ok r3.pending { w3 with heap := w3.heap.setIfInBounds L.r (.loop { r3' with state := .exhausted }) } := by
            have hb2 : ¬ r3'.state = .busy := by rw [z1]; exact hnb
            simp [Instr.endLoop, Instr.getLoop, getObj, setObj, Sem.run, hr3', hb2, z2]
           have hs4 := hs.trans (.one (st_rangeEnd hend))
           have R4 : Reached P B w0 μ H S fr cs { S with ds := dss } H4 μ3 { w3 with heap := w3.heap.setIfInBounds L.r (.loop { r3' with state := .exhausted }) } tmps (mark ++ ds) cs :=
            ⟨V1, (q3.trans s3).trans V2, hF2.mono s3.ext, CsRel.refl _ _ hf.hasCs, rfl, rfl⟩
           cases hpe : r3.pending with
           | none =>
            rw [hpe] at he hs4; have he : some (Exit.normal, { S with ds := dss }, H4) = some (e, S', H') := he; simp only [Option.some.injEq, Prod.mk.injEq] at he; obtain ⟨rfl, rfl, rfl⟩ := he; exact ⟨_, _, _, _, _, R4, hs4⟩
           | some c =>
            rw [hpe] at he hs4; cases c with
            | ret =>
             have he : some (Exit.ret, { S with ds := dss }, H4) = some (e, S', H') := he; simp only [Option.some.injEq, Prod.mk.injEq] at he; obtain ⟨rfl, rfl, rfl⟩ := he; exact ⟨_, _, _, _, _, k, R4, hs4⟩
            | exit id =>
             have he : some (Exit.exit id, { S with ds := dss }, H4) = some (e, S', H') := he; simp only [Option.some.injEq, Prod.mk.injEq] at he; obtain ⟨rfl, rfl, rfl⟩ := he; exact ⟨_, _, _, _, _, k, R4, rfl, hs4⟩
            | _ => cases he
          | _ => cases he
        rcases hcall g as H2 x H3 hc μ2 w2 as' q2 a2 with ⟨v0, v', w', μ', e1, e2, e3, e4, e5⟩ | ⟨e1, e2⟩
        ·
         exact fin μ' w' v0 e1 e3 e4 (.one (st_rangeValue q1 hv (a1'.trans e2)))
        ·
         obtain ⟨e', w', frx, ⟨μ', g1, g2, g3⟩, hcomes, _, hleave⟩ := e2 (fat fr tmps (mark ++ ds) (.inRangeFunc L.r :: k) :: cs); have hent := st_rangeEnter (cs := cs) (k := k) (ds := ds) q1 hv (a1'.trans e1); cases e' with
         | returned v' =>
          cases x with
          | returned v =>
           refine fin μ' w' v rfl g1 g2 ?_; have := step_leave_returned (cs := cs) (c := fat fr tmps (mark ++ ds) (.inRangeFunc L.r :: k)) hleave; exact .head hent (Steps.trans hcomes (.one this))
          | panicked c => exact g3.elim
          | outgrown => exact g3.elim
         | panicked c' =>
          cases x with
          | returned v => exact g3.elim
          | outgrown => exact g3.elim
          | panicked c =>
           have he : some (Exit.panic c, { S with ds := dss }, H3) = some (e, S', H') := he; simp only [Option.some.injEq, Prod.mk.injEq] at he; obtain ⟨rfl, rfl, rfl⟩ := he; have hraise := step_leave_panicked (cs := cs) (c := fat fr tmps (mark ++ ds) (.inRangeFunc L.r :: k)) hleave; refine ⟨μ', w', tmps, mark ++ ds, cs, c', .inRangeFunc L.r :: k, ⟨g1, q3.trans g2, hF2.mono g2.ext, CsRel.refl _ _ hf.hasCs, rfl, rfl⟩, g3, ?_⟩; exact .head hent (Steps.trans hcomes (.one hraise))
         | outgrown => cases x <;> exact g3.elim
      ·
       cases hev
    | _ => cases he
theorem evs_soundA {ft : Tr Func} (hP : PF P ft) : ∀ n, ∀ (B : Nat → Prop) (w0 : World), CodeSound P B w0 (evs P ft n).code ∧ DefSound P B w0 (evs P ft n).body ∧ CallSound P B w0 (evs P ft n).call := by
 intro n; induction n with
 | zero =>
  intro B w0; exact ⟨(fun c S H e S' H' he => by cases he), (fun f args um H e um' H' he => by cases he), (fun f args H e H' he => by cases he)⟩
 | succ n ih =>
  intro B w0; obtain ⟨h1, h2, h3⟩ := ih B w0; exact ⟨evCode_sound hP.mix h1 (fun Bx wx _ _ => (ih Bx wx).2.2) (fun Bx wx _ _ => yld_sound (ih Bx wx).1) (range_sound h3), evBody_def hP h1 h2, evBody_call hP h1 h2⟩
theorem evs_sound {ft : Tr Func} (hP : PF P ft) (n : Nat) : CodeSound P B w0 (evs P ft n).code ∧ DefSound P B w0 (evs P ft n).body ∧ CallSound P B w0 (evs P ft n).call := evs_soundA hP n B w0
end
end Go.Cre

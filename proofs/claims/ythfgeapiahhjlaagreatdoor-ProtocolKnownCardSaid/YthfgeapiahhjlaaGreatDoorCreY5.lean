/- A part of a verified evaluator of closed calls: see YthfgeapiahhjlaaGreatDoorCreZ. -/
import Derived.Test.YthfgeapiahhjlaaGreatDoorCreY4
set_option linter.unusedVariables false
set_option linter.unusedSimpArgs false
namespace Go.Cre
open Go.RowKit

section
variable {P : Program} {B : Nat → Prop} {w0 w w' : World} {μ μ1 μ' : Mp} {H H1 H' : Hp} {S S1 S' : St} {fr : Frame} {tmps : Array Value} {ds : List Deferred} {cs cs1 : List Frame} {k : List Item}

/-- the step into a range function -/
theorem res_range {f : Operand} {l : Nat} {fn : Fn} {a b : Array Value} (hv : rho tmps f = .func fn a b) :
    resolve (rho tmps) { callee := .value f, args := #[.const (.func (.yield l) #[] #[])], argTypes := #[] } 0 = pure { target := .fn fn b, args := a.push (.func (.yield l) #[] #[]) } := by
  have e : #[Operand.const (.func (.yield l) #[] #[])].map (rho tmps) = #[.func (.yield l) #[] #[]] := by simp [rho]
  simp only [resolve, e, hv, Deferred.ofValue]
  simp
theorem st_rangeEnter {f : Operand} {params : Array Tmp} {assign body : Code} {l : Nat} {mark : List Deferred} {w1 w2 : World} {fn : Fn} {a b args : Array Value} {g : FuncId}
    (hr : (Instr.enterLoop fr.fn tmps params assign body fr.roundOf).run P w = .ok (l, mark) w1) (hv : rho tmps f = .func fn a b) (hi : (invoke (.fn fn b) (a.push (.func (.yield l) #[] #[]))).run P w1 = .ok (.enter g args) w2) :
    step P (lone (fat fr tmps ds (.code (.rangeFunc f params assign body) :: k)) cs w) = .next (lone (Frame.enter P g args .normal) (fat fr tmps (mark ++ ds) (.inRangeFunc l :: k) :: cs) w2) := by
  have he := fat_eval (fr := fr) (tmps := tmps) (ds := mark ++ ds) (.inRangeFunc l :: k)
  simp only [fat] at he
  refine step_lone_go ?_
  simp only [stepG, stepG.exec, fat, Sem.runT_eq, hr, GStep.bare_after, he, res_range hv, pure_bind]
  simp [stepG.apply, hi]
theorem st_rangeValue {f : Operand} {params : Array Tmp} {assign body : Code} {l : Nat} {mark : List Deferred} {w1 w2 : World} {fn : Fn} {a b : Array Value} {v : Value}
    (hr : (Instr.enterLoop fr.fn tmps params assign body fr.roundOf).run P w = .ok (l, mark) w1) (hv : rho tmps f = .func fn a b) (hi : (invoke (.fn fn b) (a.push (.func (.yield l) #[] #[]))).run P w1 = .ok (.value v) w2) :
    step P (lone (fat fr tmps ds (.code (.rangeFunc f params assign body) :: k)) cs w) = .next (lone (fat fr tmps (mark ++ ds) (.endRangeFunc l :: k)) cs w2) := by
  have he := fat_eval (fr := fr) (tmps := tmps) (ds := mark ++ ds) (.inRangeFunc l :: k)
  simp only [fat] at he
  refine step_lone_go ?_
  simp only [stepG, stepG.exec, fat, Sem.runT_eq, hr, GStep.bare_after, he, res_range hv, pure_bind]
  simp [stepG.apply, hi, Frame.finish]
theorem st_rangeEnd {l : Nat} {jump : Option Code} (hr : (Instr.endLoop l).run P w = .ok jump w') :
    step P (lone (fat fr tmps ds (.endRangeFunc l :: k)) cs w) = .next (lone (fat fr tmps ds ((jump.map Item.code).toList ++ k)) cs w') :=
  step_lone_go (by simp [stepG, stepG.exec, fat, hr])
theorem fat_rangeFinish {l : Nat} (v : Value) : (fat fr tmps ds (.inRangeFunc l :: k)).finish v = fat fr tmps ds (.endRangeFunc l :: k) := rfl

/-- the loop's start -/
theorem range_start (h : HRel P B w0 μ H w) (hf : FRel μ S fr tmps ds cs) {d : Nat} {dss : List Deferred} (he : rangeStart S H = some (d, dss, H1)) {params : Array Tmp} {assign body : Code} {l : Nat} {H2 : Hp}
    (hn : H1.new (.loop { state := .ready, pending := none, T := S.T, n := S.n, params := params.toList, assign := assign, body := body, dfr := d }) = some (l, H2)) :
    ∃ μ2 w2 mark L, (Instr.enterLoop fr.fn tmps params assign body fr.roundOf).run P w = .ok (L.r, mark) w2 ∧ HRel P B w0 μ2 H2 w2 ∧ Step μ μ2 H H2 ∧ μ2 l = some L ∧ DRel μ2 dss (mark ++ ds) ∧ H2.glo ≤ l := by
  -- the loop itself, from the block for the deferred calls on
  have fin : ∀ (μ1 : Mp) (w1 : World) (mark : List Deferred) (L1 : Loc), HRel P B w0 μ1 H1 w1 → Step μ μ1 H H1 → μ1 d = some L1 → DRel μ1 dss (mark ++ ds) →
      (Instr.enterLoop fr.fn tmps params assign body fr.roundOf).run P w = .ok (w1.heap.size, mark) (w1.alloc (.loop { state := .ready, pending := none, fn := fr.fn, tmps := tmps, params := params, assign := assign, body := body, defers := L1.r })) →
      ∃ μ2 w2 mark L, (Instr.enterLoop fr.fn tmps params assign body fr.roundOf).run P w = .ok (L.r, mark) w2 ∧ HRel P B w0 μ2 H2 w2 ∧ Step μ μ2 H H2 ∧ μ2 l = some L ∧ DRel μ2 dss (mark ++ ds) ∧ H2.glo ≤ l := by
    intro μ1 w1 mark L1 h1 s1 hd hD hrun
    have hext := h1.ext_put ⟨w1.heap.size, 0, 0⟩
    obtain ⟨m1, m2, hl⟩ := h1.made (o := .loop { state := .ready, pending := none, fn := fr.fn, tmps := tmps, params := params, assign := assign, body := body, defers := L1.r }) (L := ⟨w1.heap.size, 0, 0⟩) hn rfl rfl
      ⟨rfl, rfl, rfl, rfl, rfl, (hf.t.mono s1.ext).mono hext, L1, hext _ _ hd, rfl⟩
    subst hl
    refine ⟨_, _, mark, ⟨w1.heap.size, 0, 0⟩, hrun, m1, s1.trans m2, Mp.put_self _ _ _, hD.mono hext, ?_⟩
    rw [m2.glo]; exact h1.glt
  unfold rangeStart at he
  cases hrnd : S.rnd with
  | some l0 =>
    rw [hrnd] at he
    simp only at he
    cases hm : H.mem.get l0 with
    | none => rw [hm] at he; cases he
    | some b =>
      rw [hm] at he
      cases b with
      | loop r0 =>
        simp only [Option.some.injEq, Prod.mk.injEq] at he
        obtain ⟨rfl, rfl, rfl⟩ := he
        obtain ⟨L0, hL0, hro⟩ := hf.rnd1 l0 hrnd
        obtain ⟨r0', hr1, hr2⟩ := loop_real h hL0 hm
        obtain ⟨b1, b2, b3, b4, b5, b6, L', b7, b8⟩ := hr2
        refine fin μ w [] L' h (Step.refl _ _) b7 hf.d ?_
        rw [hro]
        simp [Instr.enterLoop, Instr.getLoop, getObj, newObj, Sem.run, hr1, b8]
      | _ => cases he
  | none =>
    rw [hrnd] at he
    simp only at he
    cases hnew : H.new (.dfr (some [])) with
    | none => rw [hnew] at he; cases he
    | some p =>
      obtain ⟨r, Hx⟩ := p
      rw [hnew] at he
      simp only [Option.some.injEq, Prod.mk.injEq] at he
      obtain ⟨rfl, rfl, rfl⟩ := he
      obtain ⟨m1, m2, hl⟩ := h.made (o := .deferred (some [])) (L := ⟨w.heap.size, 0, 0⟩) hnew rfl rfl ⟨rfl, .inl rfl⟩
      subst hl
      refine fin _ _ [{ target := .collected w.heap.size, args := #[] }] ⟨w.heap.size, 0, 0⟩ m1 m2 (Mp.put_self _ _ _) (.cons _ _ _ _ (.inr ⟨H.nx, ⟨w.heap.size, 0, 0⟩, rfl, Mp.put_self _ _ _, rfl⟩) (hf.d.mono m2.ext)) ?_
      rw [hf.rnd0 hrnd]
      simp [Instr.enterLoop, newObj, Sem.run]

theorem range_sound {E : Evs} (hcall : CallSound P B w0 E.call) : RangeSound P B w0 E := by
  intro f params assign body S H e S' H' he μ w fr tmps ds cs k h hf
  unfold evRange at he
  cases hst : rangeStart S H with
  | none => rw [hst] at he; cases he
  | some p =>
    obtain ⟨d, dss, H1⟩ := p
    rw [hst] at he
    simp only at he
    cases hn : H1.new (.loop { state := .ready, pending := none, T := S.T, n := S.n, params := params.toList, assign := assign, body := body, dfr := d }) with
    | none => rw [hn] at he; cases he
    | some p =>
      obtain ⟨l, H2⟩ := p
      rw [hn] at he
      simp only at he
      obtain ⟨μ2, w2, mark, L, q1, q2, q3, q4, q5, q6⟩ := range_start h hf hst hn
      have hF2 : FRel μ2 { S with ds := dss } fr tmps (mark ++ ds) cs := by
        have := hf.mono q3.ext
        exact ⟨this.t, q5, this.kind, this.rnd0, this.rnd1, this.um⟩
      have R2 : Reached P B w0 μ H S fr cs { S with ds := dss } H2 μ2 w2 tmps (mark ++ ds) cs := ⟨q2, q3, hF2, CsRel.refl _ _ hf.hasCs, rfl, rfl⟩
      cases hop : opd S.T H2 f with
      | none => rw [hop] at he; cases he
      | some fv =>
        rw [hop] at he
        have hfr := opd_sound q2 hF2.t (T := S.T) hop
        cases fv with
        | func fn first captured =>
          have he : (match evFn P H2 fn (first.toList ++ [.func (.yield l) #[] #[]]) captured.toList with | none => none | some (g, as) => rangeEnd { S with ds := dss } l (E.body g as false .run H2)) = some (e, S', H') := he
          cases hev : evFn P H2 fn (first.toList ++ [.func (.yield l) #[] #[]]) captured.toList with
          | none => rw [hev] at he; cases he
          | some p =>
            obtain ⟨g, as⟩ := p
            rw [hev] at he
            simp only at he
            rcases hfr.func_inv with ⟨a', b', hv, hny, h1, h2⟩ | ⟨l', L', rfl, _, rfl, rfl, hv⟩
            · have hy : LRel μ2 [Value.func (.yield l) #[] #[]] [Value.func (.yield L.r) #[] #[]] := LRel.cons (.yield l L q4) (LRel.nil _)
              obtain ⟨as', a1, a2⟩ := evFn_sound (w := w2) (h1.append hy) h2 hev
              have a1' : (invoke (.fn fn b') (a'.push (.func (.yield L.r) #[] #[]))).run P w2 = (callFunc g as'.toArray).run P w2 := by
                rw [← a1]
                have e1 : (a'.toList ++ [Value.func (.yield L.r) #[] #[]]).toArray = a'.push (.func (.yield L.r) #[] #[]) := by apply Array.ext'; simp
                have e2 : b'.toList.toArray = b' := by simp
                rw [e1, e2]
              cases hb : E.body g as false .run H2 with
              | none => rw [hb] at he; cases he
              | some p =>
                obtain ⟨x, um, H3⟩ := p
                rw [hb] at he
                have hc : E.call g as H2 = some (x, H3) := by unfold Evs.call; rw [hb]
                -- the loop's end
                have fin : ∀ (μ3 : Mp) (w3 : World) (v : Value), x = .returned v → HRel P B w0 μ3 H3 w3 → Step μ2 μ3 H2 H3 → Steps P (lone (fat fr tmps ds (.code (.rangeFunc f params assign body) :: k)) cs w) (lone (fat fr tmps (mark ++ ds) (.endRangeFunc L.r :: k)) cs w3) →
                    CodeOk P B w0 μ H S fr cs (lone (fat fr tmps ds (.code (.rangeFunc f params assign body) :: k)) cs w) k S' H' e := by
                  intro μ3 w3 v hx h3 s3 hs
                  subst hx
                  have he : rangeEnd2 { S with ds := dss } l H3 = some (e, S', H') := he
                  unfold rangeEnd2 at he
                  cases hm3 : H3.mem.get l with
                  | none => rw [hm3] at he; cases he
                  | some b =>
                    rw [hm3] at he
                    cases b with
                    | loop r3 =>
                      have hL3 : μ3 l = some L := s3.ext _ _ q4
                      obtain ⟨r3', hr3', hr4'⟩ := loop_real h3 hL3 hm3
                      obtain ⟨z1, z2, z3, z4, z5, z6, z7⟩ := hr4'
                      have hg3 : H3.glo ≤ l := by rw [s3.glo]; exact q6
                      have hnb : r3.state ≠ .busy ∧ ∃ H4, H3.upd l (.loop { r3 with state := .exhausted }) = some H4 ∧ rangeEnd3 { S with ds := dss } r3.pending H4 = some (e, S', H') := by
                        simp only at he
                        cases hs : r3.state with
                        | busy => simp only [hs] at he; cases he
                        | _ =>
                          simp only [hs] at he
                          cases hu : H3.upd l (.loop { r3 with state := .exhausted }) with
                          | none => rw [hu] at he; cases he
                          | some H4 => rw [hu] at he; exact ⟨(fun q => by cases q), H4, rfl, he⟩
                      obtain ⟨hnb, H4, hu, he⟩ := hnb
                      obtain ⟨V1, V2⟩ := write_loop (r1' := { r3' with state := .exhausted }) h3 hL3 hg3 hm3 hu ⟨rfl, z2, z3, z4, z5, z6, z7⟩
                      have hend : (Instr.endLoop L.r).run P w3 = .ok r3.pending { w3 with heap := w3.heap.setIfInBounds L.r (.loop { r3' with state := .exhausted }) } := by
                        have hb2 : ¬ r3'.state = .busy := by rw [z1]; exact hnb
                        simp [Instr.endLoop, Instr.getLoop, getObj, setObj, Sem.run, hr3', hb2, z2]
                      have hs4 := hs.trans (.one (st_rangeEnd hend))
                      have R4 : Reached P B w0 μ H S fr cs { S with ds := dss } H4 μ3 { w3 with heap := w3.heap.setIfInBounds L.r (.loop { r3' with state := .exhausted }) } tmps (mark ++ ds) cs :=
                        ⟨V1, (q3.trans s3).trans V2, hF2.mono s3.ext, CsRel.refl _ _ hf.hasCs, rfl, rfl⟩
                      cases hpe : r3.pending with
                      | none =>
                        rw [hpe] at he hs4
                        have he : some (Exit.normal, { S with ds := dss }, H4) = some (e, S', H') := he
                        simp only [Option.some.injEq, Prod.mk.injEq] at he
                        obtain ⟨rfl, rfl, rfl⟩ := he
                        exact ⟨_, _, _, _, _, R4, hs4⟩
                      | some c =>
                        rw [hpe] at he hs4
                        cases c with
                        | ret =>
                          have he : some (Exit.ret, { S with ds := dss }, H4) = some (e, S', H') := he
                          simp only [Option.some.injEq, Prod.mk.injEq] at he
                          obtain ⟨rfl, rfl, rfl⟩ := he
                          exact ⟨_, _, _, _, _, k, R4, hs4⟩
                        | exit id =>
                          have he : some (Exit.exit id, { S with ds := dss }, H4) = some (e, S', H') := he
                          simp only [Option.some.injEq, Prod.mk.injEq] at he
                          obtain ⟨rfl, rfl, rfl⟩ := he
                          exact ⟨_, _, _, _, _, k, R4, rfl, hs4⟩
                        | _ => cases he
                    | _ => cases he
                rcases hcall g as H2 x H3 hc μ2 w2 as' q2 a2 with ⟨v0, v', w', μ', e1, e2, e3, e4, e5⟩ | ⟨e1, e2⟩
                · exact fin μ' w' v0 e1 e3 e4 (.one (st_rangeValue q1 hv (a1'.trans e2)))
                · obtain ⟨e', w', frx, ⟨μ', g1, g2, g3⟩, hcomes, _, hleave⟩ := e2 (fat fr tmps (mark ++ ds) (.inRangeFunc L.r :: k) :: cs)
                  have hent := st_rangeEnter (cs := cs) (k := k) (ds := ds) q1 hv (a1'.trans e1)
                  cases e' with
                  | returned v' =>
                    cases x with
                    | returned v =>
                      refine fin μ' w' v rfl g1 g2 ?_
                      have := step_leave_returned (cs := cs) (c := fat fr tmps (mark ++ ds) (.inRangeFunc L.r :: k)) hleave
                      exact .head hent (Steps.trans hcomes (.one this))
                    | panicked c => exact g3.elim
                    | outgrown => exact g3.elim
                  | panicked c' =>
                    cases x with
                    | returned v => exact g3.elim
                    | outgrown => exact g3.elim
                    | panicked c =>
                      have he : some (Exit.panic c, { S with ds := dss }, H3) = some (e, S', H') := he
                      simp only [Option.some.injEq, Prod.mk.injEq] at he
                      obtain ⟨rfl, rfl, rfl⟩ := he
                      have hraise := step_leave_panicked (cs := cs) (c := fat fr tmps (mark ++ ds) (.inRangeFunc L.r :: k)) hleave
                      refine ⟨μ', w', tmps, mark ++ ds, cs, c', .inRangeFunc L.r :: k, ⟨g1, q3.trans g2, hF2.mono g2.ext, CsRel.refl _ _ hf.hasCs, rfl, rfl⟩, g3, ?_⟩
                      exact .head hent (Steps.trans hcomes (.one hraise))
                  | outgrown => cases x <;> exact g3.elim
            · cases hev
        | _ => cases he

/-- EVERY EVALUATOR OF THE FAMILY IS SOUND. -/
theorem evs_soundA {ft : Tr Func} (hP : PF P ft) : ∀ n, ∀ (B : Nat → Prop) (w0 : World), CodeSound P B w0 (evs P ft n).code ∧ DefSound P B w0 (evs P ft n).body ∧ CallSound P B w0 (evs P ft n).call := by
  intro n
  induction n with
  | zero =>
    intro B w0
    exact ⟨(fun c S H e S' H' he => by cases he), (fun f args um H e um' H' he => by cases he), (fun f args H e H' he => by cases he)⟩
  | succ n ih =>
    intro B w0
    obtain ⟨h1, h2, h3⟩ := ih B w0
    exact ⟨evCode_sound hP.mix h1 (fun Bx wx _ _ => (ih Bx wx).2.2) (fun Bx wx _ _ => yld_sound (ih Bx wx).1) (range_sound h3), evBody_def hP h1 h2, evBody_call hP h1 h2⟩
theorem evs_sound {ft : Tr Func} (hP : PF P ft) (n : Nat) : CodeSound P B w0 (evs P ft n).code ∧ DefSound P B w0 (evs P ft n).body ∧ CallSound P B w0 (evs P ft n).call := evs_soundA hP n B w0
end
end Go.Cre

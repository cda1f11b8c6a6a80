/- A part of a verified evaluator of closed calls: see YthfgeapiahhjlaaGreatDoorCreZ. -/
import Derived.Test.YthfgeapiahhjlaaGreatDoorCreY3
set_option linter.unusedVariables false
set_option linter.unusedSimpArgs false
namespace Go.Cre
open Go.RowKit

section
variable {P : Program} {B : Nat → Prop} {w0 w w' : World} {μ μ1 μ' : Mp} {H H1 H' : Hp} {S S1 S' : St} {fr : Frame} {tmps : Array Value} {ds : List Deferred} {cs cs1 : List Frame} {k : List Item}

/-! ### Rounds -/
theorem putAll_rel {n : Nat} : ∀ {ps : List Tmp} {args args' : List Value} {T T' : Tr Value} {tmps : Array Value}, putAll T ps args = some T' → LRel μ args args' → TRel μ T n tmps → allBelow n ps = true →
    ps.length = args'.length ∧ TRel μ T' n ((ps.zip args').foldl (fun tmps (x : Tmp × Value) => tmps.setIfInBounds x.1 x.2) tmps) := by
  intro ps
  induction ps with
  | nil =>
    intro args args' T T' tmps he hl ht _
    cases args with
    | nil =>
      obtain rfl := hl.inv_nil
      simp [putAll] at he; subst he
      exact ⟨rfl, ht⟩
    | cons => simp [putAll] at he
  | cons t ps ih =>
    intro args args' T T' tmps he hl ht hb
    cases args with
    | nil => simp [putAll] at he
    | cons v args =>
      obtain ⟨v', l', rfl, h1, h2⟩ := hl.inv_cons
      simp only [putAll] at he
      simp only [allBelow, Bool.and_eq_true] at hb
      have hlt : t < n := Nat.le_of_ble_eq_true hb.1
      cases hs : Tr.set trDepth T t v with
      | none => rw [hs] at he; cases he
      | some T1 =>
        rw [hs] at he
        have ht1 : TRel μ T1 n (tmps.setIfInBounds t v') := by
          refine ⟨by simpa using ht.1, fun x u q => ?_⟩
          rw [Tr.get_set hs] at q
          by_cases hx : x = t
          · subst hx
            rw [if_pos rfl] at q; injection q with q; subst q
            have : (tmps.setIfInBounds x v').getD x undef = v' := by
              have : x < tmps.size := Nat.lt_of_lt_of_le hlt ht.1
              simp [this]
            rw [this]; exact h1
          · rw [if_neg hx] at q
            have : (tmps.setIfInBounds t v').getD x undef = tmps.getD x undef := by
              simp [Array.getElem?_setIfInBounds_ne (Ne.symm hx)]
            rw [this]; exact ht.2 x u q
        obtain ⟨a, b⟩ := ih he h2 ht1 hb.2
        exact ⟨by simp [a], b⟩

theorem st_leave0 {l : Nat} {v : Value} {c : Frame} (hr : fr.roundOf = some l) (hk : fr.kind = .normal) (hrun : (Instr.endRound l none).run P w = .ok v w') :
    step P (lone (fat fr tmps ds []) (c :: cs) w) = .next (lone (c.finish v) cs w') := step_lone_go (by simp [stepG, stepG.exec, fat, hr, hrun, doReturn, hk])
theorem st_leaveRet {l : Nat} {v : Value} {c : Frame} (hr : fr.roundOf = some l) (hk : fr.kind = .normal) (hrun : (Instr.endRound l (some .ret)).run P w = .ok v w') :
    step P (lone (fat fr tmps ds (.code .ret :: k)) (c :: cs) w) = .next (lone (c.finish v) cs w') := step_lone_go (by simp [stepG, stepG.exec, fat, hr, hrun, doReturn, hk])
theorem st_leaveExit {l id : Nat} {v : Value} {c : Frame} (hr : fr.roundOf = some l) (hk : fr.kind = .normal) (he : exitTo id k = none) (hrun : (Instr.endRound l (some (.exit id))).run P w = .ok v w') :
    step P (lone (fat fr tmps ds (.code (.exit id) :: k)) (c :: cs) w) = .next (lone (c.finish v) cs w') := step_lone_go (by simp [stepG, stepG.exec, fat, hr, he, hrun, doReturn, hk])
theorem st_begin {l : Nat} (hr : fr.roundOf = some l) (hrun : (Instr.beginRound l).run P w = .ok () w') :
    step P (lone (fat fr tmps ds (.beginRound :: k)) cs w) = .next (lone (fat fr tmps ds k) cs w') := step_lone_go (by simp [stepG, stepG.exec, stepG.apply, fat, hr, hrun, Frame.finish])

/-- the real loop of an abstract one -/
theorem loop_real (h : HRel P B w0 μ H w) {l : Nat} {L : Loc} {r : ALoop} (hL : μ l = some L) (hm : H.mem.get l = some (.loop r)) :
    ∃ r', w.heap[L.r]? = some (.loop r') ∧ BRel P μ L (.loop r) (.loop r') := by
  obtain ⟨b, o, q1, q2, q3⟩ := h.blk l L hL
  rw [hm] at q1; injection q1 with q1; subst q1
  cases o with
  | loop r' => exact ⟨r', q2, q3⟩
  | _ => exact q3.elim

theorem write_loop (h : HRel P B w0 μ H w) {l : Nat} {L : Loc} {r r1 : ALoop} {r1' : Loop} (hL : μ l = some L) (hg : H.glo ≤ l) (hm : H.mem.get l = some (.loop r)) (hu : H.upd l (.loop r1) = some H') (hb : BRel P μ L (.loop r1) (.loop r1')) :
    HRel P B w0 μ H' { w with heap := w.heap.setIfInBounds L.r (.loop r1') } ∧ Step μ μ H H' :=
  h.writeObj hL hg hm (fun _ _ _ _ _ _ q => by cases q) (fun q => by cases q) hu (fun _ _ _ _ _ _ q => by cases q) hb

theorem yld_sound {E : Evs} (hcode : CodeSound P B w0 E.code) : YieldSound P B w0 E.yld := by
  intro l args H e H' he μ w L args' h hL hl
  unfold Evs.yld at he
  cases hm : H.mem.get l with
  | none => rw [hm] at he; cases he
  | some b =>
    rw [hm] at he
    cases b with
    | loop r =>
      simp only at he
      cases hc : (Nat.ble H.glo l && allBelow r.n r.params) with
      | false => rw [hc] at he; cases he
      | true =>
        rw [hc, cond_true] at he
        simp only [Bool.and_eq_true] at hc
        have hg := Nat.le_of_ble_eq_true hc.1
        obtain ⟨r', hr1, hr2⟩ := loop_real h hL hm
        obtain ⟨b1, b2, b3, b4, b5, b6, L', b7, b8⟩ := hr2
        cases hp : putAll r.T r.params args with
        | none => rw [hp] at he; cases he
        | some T =>
          rw [hp] at he
          have he : yldAssign E l r.body (E.code r.assign ⟨T, r.n, [], false, .run, some l⟩ H) = some (e, H') := he
          obtain ⟨hlen, hT⟩ := putAll_rel hp hl b6 hc.2
          cases ha : E.code r.assign ⟨T, r.n, [], false, .run, some l⟩ H with
          | none => rw [ha] at he; cases he
          | some p =>
            obtain ⟨x1, S1, H1⟩ := p
            rw [ha] at he
            cases x1 with
            | normal =>
              have he : yldBegin E l r.body S1 H1 = some (e, H') := he
              unfold yldBegin at he
              cases hm1 : H1.mem.get l with
              | none => rw [hm1] at he; cases he
              | some b =>
                rw [hm1] at he
                cases b with
                | loop r1 =>
                  simp only at he
                  cases hst : r1.state with
                  | ready =>
                    simp only [hst] at he
                    cases hu : H1.upd l (.loop { r1 with state := .busy }) with
                    | none => rw [hu] at he; cases he
                    | some H2 =>
                      rw [hu] at he
                      have he : yldBody l (E.code r.body S1 H2) = some (e, H') := he
                      cases hb : E.code r.body S1 H2 with
                      | none => rw [hb] at he; cases he
                      | some p =>
                        obtain ⟨x2, S3, H3⟩ := p
                        rw [hb] at he
                        have he : (match jumpOf x2 with | some j => yldEnd H3 l j | none => none) = some (e, H') := he
                        cases hj : jumpOf x2 with
                        | none => rw [hj] at he; cases he
                        | some j =>
                          rw [hj] at he
                          have he : yldEnd H3 l j = some (e, H') := he
                          unfold yldEnd at he
                          cases hm3 : H3.mem.get l with
                          | none => rw [hm3] at he; cases he
                          | some b =>
                            rw [hm3] at he
                            cases b with
                            | loop r3 =>
                              simp only at he
                              cases hu3 : H3.upd l (.loop { r3 with state := if j.isNone then .ready else .done, pending := j }) with
                              | none => rw [hu3] at he; cases he
                              | some H4 =>
                                rw [hu3] at he
                                have he : some (Ending.returned (.bool j.isNone), H4) = some (e, H') := he
                                simp only [Option.some.injEq, Prod.mk.injEq] at he
                                obtain ⟨rfl, rfl⟩ := he
                                let tm : Array Value := (r'.params.zip args'.toArray).foldl (fun tmps (x : Tmp × Value) => tmps.setIfInBounds x.1 x.2) r'.tmps
                                have htm : TRel μ T r.n tm := by
                                  have e1 : tm = (r.params.zip args').foldl (fun tmps (x : Tmp × Value) => tmps.setIfInBounds x.1 x.2) r'.tmps := by
                                    show (r'.params.zip args'.toArray).foldl _ _ = _
                                    rw [← Array.foldl_toList, Array.toList_zip, b3]
                                  rw [e1]; exact hT
                                refine ⟨_, r'.fn, tm, r'.assign, r'.body, rfl, ?_, ?_⟩
                                · have hsz : args'.toArray.size = r'.params.size := by
                                    have : r'.params.size = r'.params.toList.length := by simp
                                    rw [this, b3]; simpa using hlen.symm
                                  have hsz' : args'.length = r'.params.size := by simpa using hsz
                                  simp [Instr.yield, Instr.getLoop, getObj, Sem.run, hr1, hsz', tm]
                                · intro caller cs
                                  let fr0 : Frame := Frame.round L.r r'.fn tm r'.assign r'.body .normal
                                  have hfr : fr0 = fat fr0 tm [] [.code r'.assign, .beginRound, .code r'.body] := rfl
                                  have hF : FRel μ ⟨T, r.n, [], false, .run, some l⟩ fr0 tm [] (caller :: cs) :=
                                    ⟨htm, .nil, rfl, (fun q => by cases q), (fun l' q => by injection q with q; subst q; exact ⟨L, hL, rfl⟩), (fun q => by cases q)⟩
                                  have c1 := hcode r.assign _ H .normal S1 H1 ha μ w fr0 tm [] (caller :: cs) [.beginRound, .code r'.body] (.code r.assign) h hF (.inl rfl)
                                  rw [← b4, ← hfr] at c1
                                  obtain ⟨μ1, w1, t1, d1, cs1, R1, s1⟩ := c1
                                  have hcs1 : cs1 = caller :: cs := R1.c
                                  subst hcs1
                                  have hL1 : μ1 l = some L := R1.st.ext _ _ hL
                                  obtain ⟨r1', hr1', hr2'⟩ := loop_real R1.h hL1 hm1
                                  obtain ⟨y1, y2, y3, y4, y5, y6, y7⟩ := hr2'
                                  have hg1 : H1.glo ≤ l := by rw [R1.st.glo]; exact hg
                                  obtain ⟨W1, W2⟩ := write_loop (r1' := { r1' with state := .busy }) R1.h hL1 hg1 hm1 hu ⟨rfl, y2, y3, y4, y5, y6, y7⟩
                                  have s2 : step P (lone (fat fr0 t1 d1 [.beginRound, .code r'.body]) (caller :: cs) w1) = .next (lone (fat fr0 t1 d1 [.code r'.body]) (caller :: cs) { w1 with heap := w1.heap.setIfInBounds L.r (.loop { r1' with state := .busy }) }) := by
                                    refine st_begin rfl ?_
                                    have : r1'.state = .ready := y1.trans hst
                                    simp [Instr.beginRound, Instr.getLoop, getObj, setObj, Sem.run, hr1', this]
                                  have c3 := hcode r.body S1 H2 x2 S3 H3 hb μ1 _ fr0 t1 d1 (caller :: cs) [] (.code r.body) W1 R1.f (.inl rfl)
                                  rw [← b5] at c3
                                  have hS1 : S1.dfd = false := R1.dfd
                                  -- the round ends
                                  have fin : ∀ (μ3 : Mp) (w3 : World) (t3 : Array Value) (d3 : List Deferred) (cs3 : List Frame) (todo : List Item), Reached P B w0 μ1 H2 S1 fr0 (caller :: cs) S3 H3 μ3 w3 t3 d3 cs3 →
                                      (∀ v w4, (Instr.endRound L.r j).run P w3 = .ok v w4 → step P (lone (fat fr0 t3 d3 todo) (caller :: cs) w3) = .next (lone (caller.finish v) cs w4)) →
                                      Steps P (lone (fat fr0 t1 d1 [.code r'.body]) (caller :: cs) { w1 with heap := w1.heap.setIfInBounds L.r (.loop { r1' with state := .busy }) }) (lone (fat fr0 t3 d3 todo) cs3 w3) →
                                      ∃ v' w' μ', HRel P B w0 μ' H4 w' ∧ Step μ μ' H H4 ∧ VRel μ' (.bool j.isNone) v' ∧ Steps P (lone fr0 (caller :: cs) w) (lone (caller.finish v') cs w') := by
                                    intro μ3 w3 t3 d3 cs3 todo R3 hstep s3
                                    have hcs3 : cs3 = caller :: cs := by have := R3.c; rw [hS1] at this; exact this
                                    subst hcs3
                                    have hL3 : μ3 l = some L := R3.st.ext _ _ hL1
                                    obtain ⟨r3', hr3', hr4'⟩ := loop_real R3.h hL3 hm3
                                    obtain ⟨z1, z2, z3, z4, z5, z6, z7⟩ := hr4'
                                    have hg3 : H3.glo ≤ l := by rw [R3.st.glo, W2.glo]; exact hg1
                                    obtain ⟨V1, V2⟩ := write_loop (r1' := { r3' with state := if j.isNone then .ready else .done, pending := j }) R3.h hL3 hg3 hm3 hu3 ⟨rfl, rfl, z3, z4, z5, z6, z7⟩
                                    refine ⟨.bool j.isNone, _, μ3, V1, ((R1.st.trans W2).trans R3.st).trans V2, .atom _ rfl, ?_⟩
                                    refine (s1.trans (.head s2 s3)).trans (.one (hstep _ _ ?_))
                                    simp [Instr.endRound, Instr.getLoop, getObj, setObj, Sem.run, hr3']
                                  cases x2 with
                                  | normal =>
                                    injection hj with hj; subst hj
                                    obtain ⟨μ3, w3, t3, d3, cs3, R3, s3⟩ := c3
                                    exact fin μ3 w3 t3 d3 cs3 [] R3 (fun v w4 q => st_leave0 rfl rfl q) s3
                                  | ret =>
                                    injection hj with hj; subst hj
                                    obtain ⟨μ3, w3, t3, d3, cs3, k3, R3, s3⟩ := c3
                                    exact fin μ3 w3 t3 d3 cs3 _ R3 (fun v w4 q => st_leaveRet rfl rfl q) s3
                                  | exit id =>
                                    injection hj with hj; subst hj
                                    obtain ⟨μ3, w3, t3, d3, cs3, k3, R3, ex, s3⟩ := c3
                                    exact fin μ3 w3 t3 d3 cs3 _ R3 (fun v w4 q => st_leaveExit rfl rfl (ex.trans rfl) q) s3
                                  | goto l => cases hj
                                  | panic c => cases hj
                                  | outgrown => cases hj
                            | _ => cases he
                  | done => simp only [hst] at he; cases he
                  | busy => simp only [hst] at he; cases he
                  | exhausted => simp only [hst] at he; cases he
                | _ => cases he
            | _ => cases he
    | _ => cases he
end
end Go.Cre

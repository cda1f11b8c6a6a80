/- A part of a verified evaluator of closed calls: see YthfgeapiahhjlaaGreatDoorCreZ. -/
import Derived.Test.YthfgeapiahhjlaaGreatDoorCreU
set_option linter.unusedVariables false
set_option linter.unusedSimpArgs false
namespace Go.Cre
open Go.RowKit

section
variable {P : Program} {B : Nat → Prop} {w0 w : World} {μ : Mp} {H H' : Hp} {S : St} {fr : Frame} {tmps : Array Value} {ds : List Deferred} {cs : List Frame} {call : CallEv} {yld : YieldEv}
variable {ops : Array Oper} {i : Nat} {rest : List Nat} {k : List Item} {o : Oper}

theorem FRel.hasCs (hf : FRel μ S fr tmps ds cs) : S.dfd = true → ∃ c rest, cs = c :: rest := fun q => by obtain ⟨c, r, a, _⟩ := hf.um q; exact ⟨c, r, a⟩

theorem defer_rnd {r : OpRes} (he : evOp P call yld S H o = some r) {c : Call} (ho : o.op = .defer c) : S.rnd = none := by
  unfold evOp evOpX at he
  simp only at he
  rw [ho] at he
  have he : opDefer P ⟨call, yld, S, H, o⟩ c = some r := he
  unfold opDefer at he
  cases hr : S.rnd with
  | none => rfl
  | some l => simp only [hr] at he; cases he

/-- the value is laid, the region goes on -/
theorem reg_put {v v' : Value} {μ' : Mp} {H' : Hp} {w' : World} {m : Machine} {rr : RegRes} (hf : FRel μ' S fr tmps ds cs) (h' : HRel P B w0 μ' H' w') (hs : Step μ μ' H H') (hv : VRel μ' v v')
    (hst : Steps P m (lone (fat fr (putT tmps o.dst v') ds (.inRegion ops rest :: k)) cs w')) (he : regPut S o.dst v H' = some rr) : RegOk P B w0 μ H S fr cs m (.inRegion ops rest :: k) rr := by
  unfold regPut regOk at he
  cases hp : S.put o.dst v with
  | none => rw [hp] at he; cases he
  | some S' =>
    rw [hp] at he
    have he : some (RegRes.ok S' H') = some rr := he
    injection he with he; subst he
    obtain ⟨a, b, c, _, _⟩ := put_sound hf hv hp
    exact ⟨μ', w', _, ds, cs, h', hs, a, CsRel.refl _ _ hf.hasCs, b, c, hst⟩

theorem RegOk.congr {S S1 : St} {m : Machine} {todo : List Item} {rr : RegRes} (h1 : S1.dfd = S.dfd) (h2 : S1.rnd = S.rnd) (h : RegOk P B w0 μ H S1 fr cs m todo rr) : RegOk P B w0 μ H S fr cs m todo rr := by
  cases rr with
  | ok S' H' => obtain ⟨a, b, c, d, e, g1, g2, g3, g4, g5, g6, g7⟩ := h; exact ⟨a, b, c, d, e, g1, g2, g3, h1 ▸ g4, g5.trans h1, g6.trans h2, g7⟩
  | pan chain S' H' => obtain ⟨a, b, c, d, e, x, y, g1, g2, g3, g4, g5, g6, g7, g8⟩ := h; exact ⟨a, b, c, d, e, x, y, g1, g2, g3, h1 ▸ g4, g5.trans h1, g6.trans h2, g7, g8⟩

theorem st_recover {ops : Array Oper} {i : Nat} {rest : List Nat} {o : Oper} {w' : World} {v : Value} {cs' : List Frame} (ho : ops[i]? = some o) (hw : Region.wanted o (yielded ops tmps) = true) (hrn : fr.roundOf = none)
    (hr : (execOp (rho tmps) o).run P w = .ok .recover w') (ht : (tryRecover (fat fr tmps ds (.inRegion ops (i :: rest) :: k)) cs).getD (.nilIface, cs) = (v, cs')) :
    step P (lone (fat fr tmps ds (.inRegion ops (i :: rest) :: k)) cs w) = .next (lone (fat fr (putT tmps o.dst v) ds (.inRegion ops rest :: k)) cs' w') := by
  rw [← fat_finish ho]
  refine step_lone_go ?_
  rw [sg_op ho hw (.inl hrn)]
  have hrn' : (fat fr tmps ds (.inRegion ops (i :: rest) :: k)).roundOf = none := hrn
  cases hx : tryRecover (fat fr tmps ds (.inRegion ops (i :: rest) :: k)) cs with
  | none =>
    rw [hx] at ht; simp at ht; obtain ⟨rfl, rfl⟩ := ht
    simp [stepG.apply, hr, hrn', hx]
  | some p =>
    obtain ⟨v1, cs1⟩ := p
    rw [hx] at ht; simp at ht; obtain ⟨rfl, rfl⟩ := ht
    simp [stepG.apply, hr, hrn', hx]

/-- recover() of the frame below and the abstract one agree -/
theorem rcv_sound {ops : Array Oper} {i : Nat} {rest : List Nat} {v : Value} {um : FrameMode} (hf : FRel μ S fr tmps ds cs) (he : rcvOf S = some (v, um)) :
    ∃ v' cs', (tryRecover (fat fr tmps ds (.inRegion ops (i :: rest) :: k)) cs).getD (.nilIface, cs) = (v', cs') ∧ VRel μ v v' ∧ FRel μ (S.withUm um) fr tmps ds cs' ∧ CsRel S.dfd cs cs' ∧ fr.roundOf = none := by
  unfold rcvOf at he
  cases hrn : S.rnd with
  | some l => rw [hrn] at he; cases he
  | none =>
    rw [hrn] at he
    have hr0 := hf.rnd0 hrn
    obtain ⟨T, n, dss, dfd, um0, rnd⟩ := S
    cases dfd with
    | false =>
      simp only [cond_false] at he
      injection he with he; injection he with e1 e2; subst e1; subst e2
      have hk : (fat fr tmps ds (.inRegion ops (i :: rest) :: k)).kind = .normal := hf.kind
      have : tryRecover (fat fr tmps ds (.inRegion ops (i :: rest) :: k)) cs = none := by
        cases cs <;> simp [tryRecover, hk]
      rw [this]
      exact ⟨_, _, rfl, VRel.atom _ rfl, hf, rfl, hr0⟩
    | true =>
      simp only [cond_true] at he
      have hk : (fat fr tmps ds (.inRegion ops (i :: rest) :: k)).kind = .deferred := hf.kind
      obtain ⟨c, rst, rfl, hm⟩ := hf.um rfl
      rw [tryRecover_deferred hk]
      have hno : recoverD (c :: rst) = none → v = .nilIface → um = um0 → ∃ v' cs', (recoverD (c :: rst)).getD (.nilIface, c :: rst) = (v', cs') ∧ VRel μ v v' ∧ FRel μ (St.withUm um ⟨T, n, dss, true, um0, rnd⟩) fr tmps ds cs' ∧ CsRel true (c :: rst) cs' ∧ fr.roundOf = none := by
        intro h1 h2 h3; subst h2; subst h3; rw [h1]
        exact ⟨_, _, rfl, VRel.atom _ rfl, hf, ⟨c, rst, c.mode, rfl, rfl⟩, hr0⟩
      cases hum : um0 with
      | run =>
        subst hum
        simp only at he; injection he with he; injection he with e1 e2
        refine hno ?_ e1.symm e2.symm
        cases hcm : c.mode <;> rw [hcm] at hm <;> first | exact hm.elim | simp [recoverD, hcm]
      | returning =>
        subst hum
        simp only at he; injection he with he; injection he with e1 e2
        refine hno ?_ e1.symm e2.symm
        cases hcm : c.mode <;> rw [hcm] at hm <;> first | exact hm.elim | simp [recoverD, hcm]
      | panicking ch =>
        subst hum
        cases hcm : c.mode with
        | run => rw [hcm] at hm; exact hm.elim
        | returning => rw [hcm] at hm; exact hm.elim
        | panicking ch' =>
          rw [hcm] at hm
          have hm : CRel μ ch ch' := hm
          cases ch with
          | nil =>
            have : ch' = [] := List.eq_nil_of_length_eq_zero hm.1.symm
            subst this
            simp only at he; injection he with he; injection he with e1 e2
            exact hno (by simp [recoverD, hcm]) e1.symm e2.symm
          | cons x older =>
            cases ch' with
            | nil => have := hm.1; simp at this
            | cons x' older' =>
              obtain ⟨a1, a2, a3⟩ := hm.2 0 x x' rfl rfl
              obtain ⟨xv, xr, xg⟩ := x
              obtain ⟨xv', xr', xg'⟩ := x'
              simp only at a1 a2 a3
              subst a1; subst a2
              cases xr' with
              | true =>
                simp only at he; injection he with he; injection he with e1 e2
                exact hno (by simp [recoverD, hcm]) e1.symm e2.symm
              | false =>
                cases xg' with
                | true =>
                  simp only at he; injection he with he; injection he with e1 e2
                  exact hno (by simp [recoverD, hcm]) e1.symm e2.symm
                | false =>
                  simp only at he; injection he with he; injection he with e1 e2
                  subst e1; subst e2
                  refine ⟨xv', { c with mode := .panicking ({ v := xv', recovered := true } :: older') } :: rst, by simp [recoverD, hcm], a3, ⟨hf.t, hf.d, hf.kind, hf.rnd0, hf.rnd1, fun _ => ⟨_, _, rfl, ?_⟩⟩, ⟨c, rst, _, rfl, rfl⟩, hr0⟩
                  refine ⟨by have := hm.1; simpa using this, fun j e e' q q' => ?_⟩
                  cases j with
                  | zero => simp at q q'; subst q; subst q'; exact ⟨rfl, rfl, a3⟩
                  | succ j => exact hm.2 (j + 1) e e' (by simpa using q) (by simpa using q')

theorem one_sound (hcall : CallSound P B w0 call) (hyld : YieldSound P B w0 yld) (h : HRel P B w0 μ H w) (hf : FRel μ S fr tmps ds cs) (ho : ops[i]? = some o) {rr : RegRes} (he : one P call yld ops.toList S H o = some rr) :
    RegOk P B w0 μ H S fr cs (lone (fat fr tmps ds (.inRegion ops (i :: rest) :: k)) cs w) (.inRegion ops rest :: k) rr := by
  unfold one at he
  cases hg : guardB ops.toList S.T o with
  | none => rw [hg] at he; cases he
  | some b =>
    rw [hg] at he
    have hw := guard_sound hf.t hg
    cases b with
    | false =>
      have he : regPut S o.dst undef H = some rr := he
      exact reg_put hf h (Step.refl _ _) (VRel.undef μ) (.one (st_unwanted ho hw)) he
    | true =>
      have he : oneAfter S H o.dst (evOp P call yld S H o) = some rr := he
      cases hop : evOp P call yld S H o with
      | none => rw [hop] at he; cases he
      | some r =>
        rw [hop] at he
        have he : oneAfter2 S H o.dst r = some rr := he
        have hok := evOp_sound h hf.t hop
        have hnd : fr.roundOf = none ∨ ∀ c, o.op ≠ .defer c := by
          by_cases hd : ∃ c, o.op = .defer c
          · obtain ⟨c, hd⟩ := hd; exact .inl (hf.rnd0 (defer_rnd hop hd))
          · exact .inr fun c q => hd ⟨c, q⟩
        cases r with
        | val v H1 =>
          have he : regPut S o.dst v H1 = some rr := he
          rcases hok with ⟨v', w', μ', r1, r2, r3, r4⟩ | ⟨f, args, args', r1, r2, r3⟩ | ⟨l, L, args, args', r0, r1, r2, r3⟩
          · exact reg_put (hf.mono r3.ext) r2 r3 r4 (.one (st_value ho hw hnd r1)) he
          · rcases hcall f args H _ _ r3 μ w args' h r2 with ⟨v0, v', w', μ', e1, e2, e3, e4, e5⟩ | ⟨e1, e2⟩
            · injection e1 with e1; subst e1
              exact reg_put (hf.mono e4.ext) e3 e4 e5 (.one (st_value ho hw hnd (r1.trans e2))) he
            · obtain ⟨e', w', frx, ⟨μ', g1, g2, g3⟩, hcomes, _, hleave⟩ := e2 (fat fr tmps ds (.inRegion ops (i :: rest) :: k) :: cs)
              cases e' with
              | returned v' =>
                refine reg_put (hf.mono g2.ext) g1 g2 g3 ?_ he
                rw [← fat_finish ho]
                exact .head (st_enter ho hw hnd (r1.trans e1)) (Steps.trans hcomes (.one (step_leave_returned hleave)))
              | panicked c => exact g3.elim
              | outgrown => exact g3.elim
          · obtain ⟨v0, f, tm, a, b, e1, e2, e3⟩ := hyld l args H _ _ r3 μ w L args' h r0 r2
            injection e1 with e1; subst e1
            obtain ⟨v', w', μ', g1, g2, g3, g4⟩ := e3 (fat fr tmps ds (.inRegion ops (i :: rest) :: k)) cs
            refine reg_put (hf.mono g2.ext) g1 g2 g3 ?_ he
            rw [← fat_finish ho]
            exact .head (st_round ho hw hnd (r1.trans e2)) g4
        | skip H1 =>
          have he : regPut S o.dst undef H1 = some rr := he
          obtain ⟨w', r1, r2, r3⟩ := hok
          exact reg_put hf r2 r3 (VRel.undef μ) (.one (st_skipop ho hw hnd r1)) he
        | dfr d =>
          have he : oneDfr S H o.dst d = some rr := he
          unfold oneDfr at he
          cases hrn0 : S.rnd with
          | some l => rw [hrn0] at he; cases he
          | none =>
          rw [hrn0] at he
          have he : regPut (S.withDs d) o.dst undef H = some rr := he
          obtain ⟨fv, cap, cap', args, args', rfl, r1, r2, r3, r4⟩ := hok
          have hrn : fr.roundOf = none := hf.rnd0 hrn0
          obtain ⟨T, n, dss, dfd, um, rnd⟩ := S
          have hf' : FRel μ (St.withDs { target := .fn fv cap, args := args.toArray } ⟨T, n, dss, dfd, um, rnd⟩) fr tmps ({ target := .fn fv cap', args := args'.toArray } :: ds) cs :=
            ⟨hf.t, .cons _ _ _ _ (.inl ⟨fv, cap, cap', rfl, rfl, r2, r3, by simpa using r4⟩) hf.d, hf.kind, hf.rnd0, hf.rnd1, hf.um⟩
          exact RegOk.congr (S1 := St.withDs { target := .fn fv cap, args := args.toArray } ⟨T, n, dss, dfd, um, rnd⟩) rfl rfl (reg_put hf' h (Step.refl _ _) (VRel.undef μ) (.one (st_deferop ho hw hrn r1)) he)
        | pan chain H1 =>
          have he : some (RegRes.pan chain S H1) = some rr := he
          injection he with he; subst he
          rcases hok with ⟨v, v', rfl, rfl, r1, r2⟩ | ⟨f, args, args', r1, r2, r3⟩
          · exact ⟨μ, w, tmps, ds, cs, _, _, h, Step.refl _ _, hf, CsRel.refl _ _ hf.hasCs, rfl, rfl, CRel.single r2, .one (st_panicop ho hw hnd r1)⟩
          · rcases hcall f args H _ _ r3 μ w args' h r2 with ⟨v0, v', w', μ', e1, _⟩ | ⟨e1, e2⟩
            · cases e1
            · obtain ⟨e', w', frx, ⟨μ', g1, g2, g3⟩, hcomes, _, hleave⟩ := e2 (fat fr tmps ds (.inRegion ops (i :: rest) :: k) :: cs)
              cases e' with
              | returned v' => exact g3.elim
              | panicked c =>
                refine ⟨μ', w', tmps, ds, cs, c, .inRegion ops (i :: rest) :: k, g1, g2, hf.mono g2.ext, CsRel.refl _ _ hf.hasCs, rfl, rfl, g3, ?_⟩
                exact .head (st_enter ho hw hnd (r1.trans e1)) (Steps.trans hcomes (.one (step_leave_panicked hleave)))
              | outgrown => exact g3.elim
        | rcv =>
          have he : oneRcv S H o.dst (rcvOf S) = some rr := he
          cases hrc : rcvOf S with
          | none => rw [hrc] at he; cases he
          | some p =>
            obtain ⟨v, um⟩ := p
            rw [hrc] at he
            have he : regPut (S.withUm um) o.dst v H = some rr := he
            obtain ⟨v', cs', t1, t2, t3, t4, t5⟩ := rcv_sound (k := k) (ops := ops) (i := i) (rest := rest) hf hrc
            unfold regPut regOk at he
            cases hp : (S.withUm um).put o.dst v with
            | none => rw [hp] at he; cases he
            | some S' =>
              rw [hp] at he
              have he : some (RegRes.ok S' H) = some rr := he
              injection he with he; subst he
              obtain ⟨a, b, c, _, _⟩ := put_sound t3 t2 hp
              exact ⟨μ, w, _, ds, cs', h, Step.refl _ _, a, t4, b, c, .one (st_recover ho hw t5 hok t1)⟩
end
end Go.Cre

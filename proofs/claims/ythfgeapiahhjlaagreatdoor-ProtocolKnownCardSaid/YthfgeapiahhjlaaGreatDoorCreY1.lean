/- A part of a verified evaluator of closed calls: see YthfgeapiahhjlaaGreatDoorCreZ. -/
import Derived.Test.YthfgeapiahhjlaaGreatDoorCreXb
set_option linter.unusedVariables false
set_option linter.unusedSimpArgs false
namespace Go.Cre
open Go.RowKit

structure Reached (P : Program) (B : Nat → Prop) (w0 : World) (μ : Mp) (H : Hp) (S : St) (fr : Frame) (cs : List Frame) (S' : St) (H' : Hp) (μ' : Mp) (w' : World) (tmps' : Array Value) (ds' : List Deferred) (cs' : List Frame) : Prop where
  h : HRel P B w0 μ' H' w'
  st : Step μ μ' H H'
  f : FRel μ' S' fr tmps' ds' cs'
  c : CsRel S.dfd cs cs'
  dfd : S'.dfd = S.dfd
  rnd : S'.rnd = S.rnd

/-- what a piece of code comes to -/
def CodeOk (P : Program) (B : Nat → Prop) (w0 : World) (μ : Mp) (H : Hp) (S : St) (fr : Frame) (cs : List Frame) (m : Machine) (k : List Item) (S' : St) (H' : Hp) : Exit → Prop
  | .normal => ∃ μ' w' tmps' ds' cs', Reached P B w0 μ H S fr cs S' H' μ' w' tmps' ds' cs' ∧ Steps P m (lone (fat fr tmps' ds' k) cs' w')
  | .exit id => ∃ μ' w' tmps' ds' cs' k', Reached P B w0 μ H S fr cs S' H' μ' w' tmps' ds' cs' ∧ exitTo id k' = exitTo id k ∧ Steps P m (lone (fat fr tmps' ds' (.code (.exit id) :: k')) cs' w')
  | .ret => ∃ μ' w' tmps' ds' cs' k', Reached P B w0 μ H S fr cs S' H' μ' w' tmps' ds' cs' ∧ Steps P m (lone (fat fr tmps' ds' (.code .ret :: k')) cs' w')
  | .panic chain => ∃ μ' w' tmps' ds' cs' chain' k', Reached P B w0 μ H S fr cs S' H' μ' w' tmps' ds' cs' ∧ CRel μ' chain chain' ∧ Steps P m (lone { fat fr tmps' ds' k' with mode := .panicking chain' } cs' w')
  | _ => False

/-- where a piece of code begins -/
def Starts (c : Code) (it : Item) : Prop := it = .code c ∨ ∃ c', c = .loop c' ∧ it = .inLoop c'

def CodeSound (P : Program) (B : Nat → Prop) (w0 : World) (code : Code → St → Hp → Option (Exit × St × Hp)) : Prop :=
  ∀ c S H e S' H', code c S H = some (e, S', H') → ∀ μ w fr tmps ds cs k it, HRel P B w0 μ H w → FRel μ S fr tmps ds cs → Starts c it → CodeOk P B w0 μ H S fr cs (lone (fat fr tmps ds (it :: k)) cs w) k S' H' e

section
variable {P : Program} {B : Nat → Prop} {w0 w : World} {μ μ1 : Mp} {H H1 H' : Hp} {S S1 S' : St} {fr : Frame} {tmps : Array Value} {ds : List Deferred} {cs cs1 : List Frame} {m m' : Machine} {k k1 : List Item} {e : Exit}

theorem Reached.trans {μ2 : Mp} {S2 : St} {H2 : Hp} {w1 w2 : World} {t1 t2 : Array Value} {d1 d2 : List Deferred} {cs2 : List Frame} (h : Reached P B w0 μ H S fr cs S1 H1 μ1 w1 t1 d1 cs1) (q : Reached P B w0 μ1 H1 S1 fr cs1 S2 H2 μ2 w2 t2 d2 cs2) :
    Reached P B w0 μ H S fr cs S2 H2 μ2 w2 t2 d2 cs2 :=
  ⟨q.h, h.st.trans q.st, q.f, h.c.trans (h.dfd ▸ q.c), q.dfd.trans h.dfd, q.rnd.trans h.rnd⟩

theorem Reached.refl (h : HRel P B w0 μ H w) (hf : FRel μ S fr tmps ds cs) : Reached P B w0 μ H S fr cs S H μ w tmps ds cs :=
  ⟨h, Step.refl _ _, hf, CsRel.refl _ _ hf.hasCs, rfl, rfl⟩

theorem CodeOk.steps (hs : Steps P m m') (h : CodeOk P B w0 μ H S fr cs m' k S' H' e) : CodeOk P B w0 μ H S fr cs m k S' H' e := by
  cases e with
  | normal => obtain ⟨a1, a2, a3, a4, a5, a6, a7⟩ := h; exact ⟨a1, a2, a3, a4, a5, a6, hs.trans a7⟩
  | exit id => obtain ⟨a1, a2, a3, a4, a5, a6, a7, a8, a9⟩ := h; exact ⟨a1, a2, a3, a4, a5, a6, a7, a8, hs.trans a9⟩
  | ret => obtain ⟨a1, a2, a3, a4, a5, a6, a7, a8⟩ := h; exact ⟨a1, a2, a3, a4, a5, a6, a7, hs.trans a8⟩
  | panic ch => obtain ⟨a1, a2, a3, a4, a5, a6, a7, a8, a9, a10⟩ := h; exact ⟨a1, a2, a3, a4, a5, a6, a7, a8, a9, hs.trans a10⟩
  | goto l => exact h
  | outgrown => exact h

theorem CodeOk.after {w1 : World} {t1 : Array Value} {d1 : List Deferred} (hr : Reached P B w0 μ H S fr cs S1 H1 μ1 w1 t1 d1 cs1) (h : CodeOk P B w0 μ1 H1 S1 fr cs1 m k S' H' e) : CodeOk P B w0 μ H S fr cs m k S' H' e := by
  cases e with
  | normal => obtain ⟨a1, a2, a3, a4, a5, a6, a7⟩ := h; exact ⟨a1, a2, a3, a4, a5, hr.trans a6, a7⟩
  | exit id => obtain ⟨a1, a2, a3, a4, a5, a6, a7, a8, a9⟩ := h; exact ⟨a1, a2, a3, a4, a5, a6, hr.trans a7, a8, a9⟩
  | ret => obtain ⟨a1, a2, a3, a4, a5, a6, a7, a8⟩ := h; exact ⟨a1, a2, a3, a4, a5, a6, hr.trans a7, a8⟩
  | panic ch => obtain ⟨a1, a2, a3, a4, a5, a6, a7, a8, a9, a10⟩ := h; exact ⟨a1, a2, a3, a4, a5, a6, a7, hr.trans a8, a9, a10⟩
  | goto l => exact h
  | outgrown => exact h

theorem CodeOk.bind (h : CodeOk P B w0 μ H S fr cs m k1 S1 H1 .normal)
    (hk : ∀ μ1 w1 t1 d1 cs1, Reached P B w0 μ H S fr cs S1 H1 μ1 w1 t1 d1 cs1 → CodeOk P B w0 μ1 H1 S1 fr cs1 (lone (fat fr t1 d1 k1) cs1 w1) k S' H' e) : CodeOk P B w0 μ H S fr cs m k S' H' e := by
  obtain ⟨μ1, w1, t1, d1, cs1, hr, hst⟩ := h
  exact ((hk μ1 w1 t1 d1 cs1 hr).after hr).steps hst

/-- what is not normal passes over an item -/
theorem CodeOk.pass {x : Item} (hx : ∀ id, e = .exit id → exitTo id (x :: k) = exitTo id k) (hn : e ≠ .normal) (h : CodeOk P B w0 μ H S fr cs m (x :: k) S' H' e) : CodeOk P B w0 μ H S fr cs m k S' H' e := by
  cases e with
  | normal => exact absurd rfl hn
  | exit id => obtain ⟨a1, a2, a3, a4, a5, a6, a7, a8, a9⟩ := h; exact ⟨a1, a2, a3, a4, a5, a6, a7, a8.trans (hx id rfl), a9⟩
  | ret => exact h
  | panic ch => exact h
  | goto l => exact h
  | outgrown => exact h

theorem reg_code {rr : RegRes} (he : regExit (some rr) = some (e, S', H')) (h : RegOk P B w0 μ H S fr cs m k rr) : CodeOk P B w0 μ H S fr cs m k S' H' e := by
  cases rr with
  | ok S1 H1 =>
    simp only [regExit, Option.some.injEq, Prod.mk.injEq] at he
    obtain ⟨rfl, rfl, rfl⟩ := he
    obtain ⟨a, b, c, d, x, g1, g2, g3, g4, g5, g6, g7⟩ := h
    exact ⟨a, b, c, d, x, ⟨g1, g2, g3, g4, g5, g6⟩, g7⟩
  | pan ch S1 H1 =>
    simp only [regExit, Option.some.injEq, Prod.mk.injEq] at he
    obtain ⟨rfl, rfl, rfl⟩ := he
    obtain ⟨a, b, c, d, x, y, z, g1, g2, g3, g4, g5, g6, g7, g8⟩ := h
    exact ⟨a, b, c, d, x, y, z, ⟨g1, g2, g3, g4, g5, g6⟩, g7, g8⟩

/-- one piece of code behind another -/
theorem seq2_sound {E : Evs} {b : Code} {r : Option (Exit × St × Hp)} {x : Item} (hc : CodeSound P B w0 E.code) (hst : Starts b x) (hx : ∀ id, exitTo id (x :: k) = exitTo id k)
    (hr : ∀ e1 S1 H1, r = some (e1, S1, H1) → CodeOk P B w0 μ H S fr cs m (x :: k) S1 H1 e1) (he : cSeq2 E b r = some (e, S', H')) : CodeOk P B w0 μ H S fr cs m k S' H' e := by
  cases r with
  | none => cases he
  | some p =>
    obtain ⟨e1, S1, H1⟩ := p
    have h1 := hr e1 S1 H1 rfl
    by_cases hn : e1 = .normal
    · subst hn
      have he : E.code b S1 H1 = some (e, S', H') := he
      exact h1.bind fun μ1 w1 t1 d1 cs1 hre => hc b S1 H1 e S' H' he μ1 w1 fr t1 d1 cs1 k x hre.h hre.f hst
    · have he : some (e1, S1, H1) = some (e, S', H') := by
        cases e1 <;> first | exact absurd rfl hn | exact he
      simp only [Option.some.injEq, Prod.mk.injEq] at he
      obtain ⟨rfl, rfl, rfl⟩ := he
      exact h1.pass (fun id _ => hx id) hn

def RangeSound (P : Program) (B : Nat → Prop) (w0 : World) (E : Evs) : Prop :=
  ∀ f params assign body S H e S' H', evRange P E f params assign body S H = some (e, S', H') → ∀ μ w fr tmps ds cs k, HRel P B w0 μ H w → FRel μ S fr tmps ds cs →
    CodeOk P B w0 μ H S fr cs (lone (fat fr tmps ds (.code (.rangeFunc f params assign body) :: k)) cs w) k S' H' e

theorem evCode_sound {E : Evs} (hmix : P.follows .mixedOrders = true) (hc : CodeSound P B w0 E.code) (hcallA : CallSoundA P B w0 E.call) (hyldA : YieldSoundA P B w0 E.yld) (hrange : RangeSound P B w0 E) : CodeSound P B w0 (evCode P E) := by
  have hcall := hcallA B w0 (fun _ h => h) (Kept.refl _ _)
  have hyld := hyldA B w0 (fun _ h => h) (Kept.refl _ _)
  intro c S H e S' H' he μ w fr tmps ds cs k it h hf hst
  have hplain : (∀ c', c ≠ .loop c') → it = .code c := fun hnl => by
    rcases hst with q | ⟨c', q, _⟩
    · exact q
    · exact absurd q (hnl c')
  unfold evCode at he
  cases c with
  | skip =>
    obtain rfl := hplain (fun _ q => by cases q)
    have he : some (Exit.normal, S, H) = some (e, S', H') := he
    simp only [Option.some.injEq, Prod.mk.injEq] at he
    obtain ⟨rfl, rfl, rfl⟩ := he
    exact ⟨μ, w, tmps, ds, cs, .refl h hf, .one st_skip⟩
  | label l =>
    obtain rfl := hplain (fun _ q => by cases q)
    have he : some (Exit.normal, S, H) = some (e, S', H') := he
    simp only [Option.some.injEq, Prod.mk.injEq] at he
    obtain ⟨rfl, rfl, rfl⟩ := he
    exact ⟨μ, w, tmps, ds, cs, .refl h hf, .one st_label⟩
  | exit id =>
    obtain rfl := hplain (fun _ q => by cases q)
    have he : some (Exit.exit id, S, H) = some (e, S', H') := he
    simp only [Option.some.injEq, Prod.mk.injEq] at he
    obtain ⟨rfl, rfl, rfl⟩ := he
    exact ⟨μ, w, tmps, ds, cs, k, .refl h hf, rfl, .refl P _⟩
  | ret =>
    obtain rfl := hplain (fun _ q => by cases q)
    have he : some (Exit.ret, S, H) = some (e, S', H') := he
    simp only [Option.some.injEq, Prod.mk.injEq] at he
    obtain ⟨rfl, rfl, rfl⟩ := he
    exact ⟨μ, w, tmps, ds, cs, k, .refl h hf, .refl P _⟩
  | goto l => cases he
  | refuse why => cases he
  | region id ops d =>
    obtain rfl := hplain (fun _ q => by cases q)
    cases d with
    | false =>
      have he : regExit (evOps P E.call E.yld ops.toList ops.toList S H) = some (e, S', H') := he
      cases hr : evOps P E.call E.yld ops.toList ops.toList S H with
      | none => rw [hr] at he; cases he
      | some rr =>
        rw [hr] at he
        have := evOps_sound (k := k) (fr := fr) hcall hyld ops.toList 0 μ w S H tmps ds cs rr (by simp) h hf hr
        have e1 : List.range' 0 ops.toList.length = List.range ops.size := by rw [List.range_eq_range']; simp
        rw [e1] at this
        exact (reg_code he this).steps (.one st_region)
    | true =>
      have he : regExit (evDrawA P E.call E.yld ops.toList S H) = some (e, S', H') := he
      cases hr : evDrawA P E.call E.yld ops.toList S H with
      | none => rw [hr] at he; cases he
      | some rr =>
        rw [hr] at he
        refine reg_code he ?_
        unfold evDrawA at hr
        cases hl : litOf ops.toList with
        | none => rw [hl] at hr; exact evDraw_sound hmix hcall hyld h hf hr
        | some L => rw [hl] at hr; exact evLit_sound hmix hcallA hyldA h hf hr
  | seq a b =>
    obtain rfl := hplain (fun _ q => by cases q)
    have he : cSeq2 E b (E.code a S H) = some (e, S', H') := he
    exact seq2_sound hc (.inl rfl) (fun id => rfl) (fun e1 S1 H1 q => (hc a S H e1 S1 H1 q μ w fr tmps ds cs (.code b :: k) (.code a) h hf (.inl rfl)).steps (.one st_seq)) he
  | cond x a b =>
    obtain rfl := hplain (fun _ q => by cases q)
    have he : cCond2 E S H a b (opd S.T H x) = some (e, S', H') := he
    cases hx : opd S.T H x with
    | none => rw [hx] at he; cases he
    | some v =>
      rw [hx] at he
      have hv := opd_sound h hf.t hx
      cases v with
      | bool t =>
        have hb := hv.bool_inv
        cases t with
        | true =>
          have he : E.code a S H = some (e, S', H') := he
          exact (hc a S H e S' H' he μ w fr tmps ds cs k (.code a) h hf (.inl rfl)).steps (.one (st_cond hb))
        | false =>
          have he : E.code b S H = some (e, S', H') := he
          exact (hc b S H e S' H' he μ w fr tmps ds cs k (.code b) h hf (.inl rfl)).steps (.one (st_cond hb))
      | _ => cases he
  | block id c =>
    obtain rfl := hplain (fun _ q => by cases q)
    have he : cBlock2 id (E.code c S H) = some (e, S', H') := he
    cases hr : E.code c S H with
    | none => rw [hr] at he; cases he
    | some p =>
      obtain ⟨e1, S1, H1⟩ := p
      rw [hr] at he
      have h1 := (hc c S H e1 S1 H1 hr μ w fr tmps ds cs (.inBlock id :: k) (.code c) h hf (.inl rfl)).steps (.one (st_block (P := P)))
      cases e1 with
      | exit id' =>
        have he : (bif Nat.beq id' id then some (Exit.normal, S1, H1) else some (Exit.exit id', S1, H1)) = some (e, S', H') := he
        obtain ⟨a1, a2, a3, a4, a5, a6, a7, a8, a9⟩ := h1
        cases hb : Nat.beq id' id with
        | true =>
          rw [hb, cond_true] at he
          simp only [Option.some.injEq, Prod.mk.injEq] at he
          obtain ⟨rfl, rfl, rfl⟩ := he
          obtain rfl := Nat.eq_of_beq_eq_true hb
          have e1 : exitTo id' (.inBlock id' :: k) = some k := by simp [exitTo]
          exact ⟨a1, a2, a3, a4, a5, a7, a9.trans (.one (st_exit (a8.trans e1)))⟩
        | false =>
          rw [hb, cond_false] at he
          simp only [Option.some.injEq, Prod.mk.injEq] at he
          obtain ⟨rfl, rfl, rfl⟩ := he
          have hne : ¬ id = id' := fun q => by subst q; simp at hb
          have e1 : exitTo id' (.inBlock id :: k) = exitTo id' k := by simp [exitTo, hne]
          exact ⟨a1, a2, a3, a4, a5, a6, a7, a8.trans e1, a9⟩
      | normal =>
        have he : some (Exit.normal, S1, H1) = some (e, S', H') := he
        simp only [Option.some.injEq, Prod.mk.injEq] at he
        obtain ⟨rfl, rfl, rfl⟩ := he
        obtain ⟨a1, a2, a3, a4, a5, a6, a7⟩ := h1
        exact ⟨a1, a2, a3, a4, a5, a6, a7.trans (.one st_inBlock)⟩
      | goto l => exact h1.elim
      | ret =>
        have he : some (Exit.ret, S1, H1) = some (e, S', H') := he
        simp only [Option.some.injEq, Prod.mk.injEq] at he
        obtain ⟨rfl, rfl, rfl⟩ := he
        exact h1.pass (fun id q => by cases q) (fun q => by cases q)
      | panic ch =>
        have he : some (Exit.panic ch, S1, H1) = some (e, S', H') := he
        simp only [Option.some.injEq, Prod.mk.injEq] at he
        obtain ⟨rfl, rfl, rfl⟩ := he
        exact h1.pass (fun id q => by cases q) (fun q => by cases q)
      | outgrown => exact h1.elim
  | loop c =>
    have he : cSeq2 E (.loop c) (E.code c S H) = some (e, S', H') := he
    have hstep : step P (lone (fat fr tmps ds (it :: k)) cs w) = .next (lone (fat fr tmps ds (.code c :: .inLoop c :: k)) cs w) := by
      rcases hst with rfl | ⟨c', q, rfl⟩
      · exact st_loop
      · injection q with q; subst q; exact st_inLoop
    exact seq2_sound hc (.inr ⟨c, rfl, rfl⟩) (fun id => rfl) (fun e1 S1 H1 q => (hc c S H e1 S1 H1 q μ w fr tmps ds cs (.inLoop c :: k) (.code c) h hf (.inl rfl)).steps (.one hstep)) he
  | scope c =>
    obtain rfl := hplain (fun _ q => by cases q)
    have he : cScope2 (E.code c S H) = some (e, S', H') := he
    cases hr : E.code c S H with
    | none => rw [hr] at he; cases he
    | some p =>
      obtain ⟨e1, S1, H1⟩ := p
      rw [hr] at he
      have h1 := (hc c S H e1 S1 H1 hr μ w fr tmps ds cs (.inScope c :: k) (.code c) h hf (.inl rfl)).steps (.one (st_scope (P := P)))
      have he : some (e1, S1, H1) = some (e, S', H') := by cases e1 <;> first | exact he | exact h1.elim
      simp only [Option.some.injEq, Prod.mk.injEq] at he
      obtain ⟨rfl, rfl, rfl⟩ := he
      by_cases hn : e1 = .normal
      · subst hn
        obtain ⟨a1, a2, a3, a4, a5, a6, a7⟩ := h1
        exact ⟨a1, a2, a3, a4, a5, a6, a7.trans (.one st_inScope)⟩
      · exact h1.pass (fun id _ => rfl) hn
  | rangeFunc f params assign body =>
    obtain rfl := hplain (fun _ q => by cases q)
    have he : evRange P E f params assign body S H = some (e, S', H') := he
    exact hrange f params assign body S H e S' H' he μ w fr tmps ds cs k h hf
end
end Go.Cre

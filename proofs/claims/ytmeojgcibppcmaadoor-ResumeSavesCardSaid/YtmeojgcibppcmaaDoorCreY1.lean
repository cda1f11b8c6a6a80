/- A part of the proof of ResumeSaves. -/
import Derived.Test.YtmeojgcibppcmaaDoorCreXb
import Derived.Laws.Sem
set_option linter.unusedVariables false
set_option linter.unusedSimpArgs false
namespace Go.Cre
open Go.RowKit
structure Reached (P : Program) (B : Nat → Prop) (w0 : World) (μ : Mp) (H : Hp) (S : St) (fr : Frame) (cs : List Frame) (S' : St) (H' : Hp) (μ' : Mp) (w' : World) (tmps' : Array Value) (ds' : List Deferred) (cs' : List Frame) : Prop where
 h : HRel P B w0 μ' H' w'
 st : Step μ μ' H H'
 f : FRel μ' S' fr tmps' ds' cs'
 c : CsRel S.dfd cs cs'
 dfd : S'.dfd = S.dfd
 rnd : S'.rnd = S.rnd
def CodeOk (P : Program) (B : Nat → Prop) (w0 : World) (μ : Mp) (H : Hp) (S : St) (fr : Frame) (cs : List Frame) (m : Machine) (k : List Item) (S' : St) (H' : Hp) : Exit → Prop
 | .normal => ∃ μ' w' tmps' ds' cs', Reached P B w0 μ H S fr cs S' H' μ' w' tmps' ds' cs' ∧ Steps P m (lone (fat fr tmps' ds' k) cs' w')
 | .exit id => ∃ μ' w' tmps' ds' cs' k', Reached P B w0 μ H S fr cs S' H' μ' w' tmps' ds' cs' ∧ exitTo id k' = exitTo id k ∧ Steps P m (lone (fat fr tmps' ds' (.code (.exit id) :: k')) cs' w')
 | .ret => ∃ μ' w' tmps' ds' cs' k', Reached P B w0 μ H S fr cs S' H' μ' w' tmps' ds' cs' ∧ Steps P m (lone (fat fr tmps' ds' (.code .ret :: k')) cs' w')
 | .panic chain => ∃ μ' w' tmps' ds' cs' chain' k', Reached P B w0 μ H S fr cs S' H' μ' w' tmps' ds' cs' ∧ CRel μ' chain chain' ∧ Steps P m (lone { fat fr tmps' ds' k' with mode := .panicking chain' } cs' w')
 | _ => False
def Starts (c : Code) (it : Item) : Prop := it = .code c ∨ ∃ c', c = .loop c' ∧ it = .inLoop c'
def CodeSound (P : Program) (B : Nat → Prop) (w0 : World) (code : Code → St → Hp → Option (Exit × St × Hp)) : Prop :=
 ∀ c S H e S' H', code c S H = some (e, S', H') → ∀ μ w fr tmps ds cs k it, HRel P B w0 μ H w → FRel μ S fr tmps ds cs → Starts c it → CodeOk P B w0 μ H S fr cs (lone (fat fr tmps ds (it :: k)) cs w) k S' H' e
section
variable {P : Program} {B : Nat → Prop} {w0 w : World} {μ μ1 : Mp} {H H1 H' : Hp} {S S1 S' : St} {fr : Frame} {tmps : Array Value} {ds : List Deferred} {cs cs1 : List Frame} {m m' : Machine} {k k1 : List Item} {e : Exit}
theorem Reached.trans {μ2 : Mp} {S2 : St} {H2 : Hp} {w1 w2 : World} {t1 t2 : Array Value} {d1 d2 : List Deferred} {cs2 : List Frame} (h : Reached P B w0 μ H S fr cs S1 H1 μ1 w1 t1 d1 cs1) (q : Reached P B w0 μ1 H1 S1 fr cs1 S2 H2 μ2 w2 t2 d2 cs2) :
  Reached P B w0 μ H S fr cs S2 H2 μ2 w2 t2 d2 cs2 :=
 ⟨q.h, h.st.trans q.st, q.f, h.c.trans (h.dfd ▸ q.c), q.dfd.trans h.dfd, q.rnd.trans h.rnd⟩
theorem Reached.refl (h : HRel P B w0 μ H w) (hf : FRel μ S fr tmps ds cs) : Reached P B w0 μ H S fr cs S H μ w tmps ds cs :=
 ⟨h, Step.refl _ _, hf, CsRel.refl _ _ hf.hasCs, rfl, rfl⟩
theorem CodeOk.steps (hs : Steps P m m') (h : CodeOk P B w0 μ H S fr cs m' k S' H' e) : CodeOk P B w0 μ H S fr cs m k S' H' e := by
 cases e with
 | normal => obtain ⟨a1, a2, a3, a4, a5, a6, a7⟩ := h; exact ⟨a1, a2, a3, a4, a5, a6, hs.trans a7⟩
 | exit id => obtain ⟨a1, a2, a3, a4, a5, a6, a7, a8, a9⟩ := h; exact ⟨a1, a2, a3, a4, a5, a6, a7, a8, hs.trans a9⟩
 | ret => obtain ⟨a1, a2, a3, a4, a5, a6, a7, a8⟩ := h; exact ⟨a1, a2, a3, a4, a5, a6, a7, hs.trans a8⟩
 | panic ch => obtain ⟨a1, a2, a3, a4, a5, a6, a7, a8, a9, a10⟩ := h; exact ⟨a1, a2, a3, a4, a5, a6, a7, a8, a9, hs.trans a10⟩
 | goto l => exact h
 | outgrown => exact h
theorem CodeOk.after {w1 : World} {t1 : Array Value} {d1 : List Deferred} (hr : Reached P B w0 μ H S fr cs S1 H1 μ1 w1 t1 d1 cs1) (h : CodeOk P B w0 μ1 H1 S1 fr cs1 m k S' H' e) : CodeOk P B w0 μ H S fr cs m k S' H' e := by
 cases e with
 | normal => obtain ⟨a1, a2, a3, a4, a5, a6, a7⟩ := h; exact ⟨a1, a2, a3, a4, a5, hr.trans a6, a7⟩
 | exit id => obtain ⟨a1, a2, a3, a4, a5, a6, a7, a8, a9⟩ := h; exact ⟨a1, a2, a3, a4, a5, a6, hr.trans a7, a8, a9⟩
 | ret => obtain ⟨a1, a2, a3, a4, a5, a6, a7, a8⟩ := h; exact ⟨a1, a2, a3, a4, a5, a6, hr.trans a7, a8⟩
 | panic ch => obtain ⟨a1, a2, a3, a4, a5, a6, a7, a8, a9, a10⟩ := h; exact ⟨a1, a2, a3, a4, a5, a6, a7, hr.trans a8, a9, a10⟩
 | goto l => exact h
 | outgrown => exact h
theorem CodeOk.bind (h : CodeOk P B w0 μ H S fr cs m k1 S1 H1 .normal)
  (hk : ∀ μ1 w1 t1 d1 cs1, Reached P B w0 μ H S fr cs S1 H1 μ1 w1 t1 d1 cs1 → CodeOk P B w0 μ1 H1 S1 fr cs1 (lone (fat fr t1 d1 k1) cs1 w1) k S' H' e) : CodeOk P B w0 μ H S fr cs m k S' H' e := by
 obtain ⟨μ1, w1, t1, d1, cs1, hr, hst⟩ := h; exact ((hk μ1 w1 t1 d1 cs1 hr).after hr).steps hst
theorem CodeOk.pass {x : Item} (hx : ∀ id, e = .exit id → exitTo id (x :: k) = exitTo id k) (hn : e ≠ .normal) (h : CodeOk P B w0 μ H S fr cs m (x :: k) S' H' e) : CodeOk P B w0 μ H S fr cs m k S' H' e := by
 cases e with
 | normal => exact absurd rfl hn
 | exit id => obtain ⟨a1, a2, a3, a4, a5, a6, a7, a8, a9⟩ := h; exact ⟨a1, a2, a3, a4, a5, a6, a7, a8.trans (hx id rfl), a9⟩
 | ret => exact h
 | panic ch => exact h
 | goto l => exact h
 | outgrown => exact h
theorem reg_code {rr : RegRes} (he : regExit (some rr) = some (e, S', H')) (h : RegOk P B w0 μ H S fr cs m k rr) : CodeOk P B w0 μ H S fr cs m k S' H' e := by
 cases rr with
 | ok S1 H1 =>
  simp only [regExit, Option.some.injEq, Prod.mk.injEq] at he; obtain ⟨rfl, rfl, rfl⟩ := he; obtain ⟨a, b, c, d, x, g1, g2, g3, g4, g5, g6, g7⟩ := h; exact ⟨a, b, c, d, x, ⟨g1, g2, g3, g4, g5, g6⟩, g7⟩
 | pan ch S1 H1 =>
  simp only [regExit, Option.some.injEq, Prod.mk.injEq] at he; obtain ⟨rfl, rfl, rfl⟩ := he; obtain ⟨a, b, c, d, x, y, z, g1, g2, g3, g4, g5, g6, g7, g8⟩ := h; exact ⟨a, b, c, d, x, y, z, ⟨g1, g2, g3, g4, g5, g6⟩, g7, g8⟩
theorem seq2_sound {E : Evs} {b : Code} {r : Option (Exit × St × Hp)} {x : Item} (hc : CodeSound P B w0 E.code) (hst : Starts b x) (hx : ∀ id, exitTo id (x :: k) = exitTo id k)
  (hr : ∀ e1 S1 H1, r = some (e1, S1, H1) → CodeOk P B w0 μ H S fr cs m (x :: k) S1 H1 e1) (he : cSeq2 E b r = some (e, S', H')) : CodeOk P B w0 μ H S fr cs m k S' H' e := by
 cases r with
 | none => cases he
 | some p =>
  obtain ⟨e1, S1, H1⟩ := p; have h1 := hr e1 S1 H1 rfl; by_cases hn : e1 = .normal
  ·
   subst hn; have he : E.code b S1 H1 = some (e, S', H') := he; exact h1.bind fun μ1 w1 t1 d1 cs1 hre => hc b S1 H1 e S' H' he μ1 w1 fr t1 d1 cs1 k x hre.h hre.f hst
  ·
   have he : some (e1, S1, H1) = some (e, S', H') := by
    cases e1 <;> first | exact absurd rfl hn | exact he
   simp only [Option.some.injEq, Prod.mk.injEq] at he; obtain ⟨rfl, rfl, rfl⟩ := he; exact h1.pass (fun id _ => hx id) hn
def RangeSound (P : Program) (B : Nat → Prop) (w0 : World) (E : Evs) : Prop :=
 ∀ f params assign body S H e S' H', evRange P E f params assign body S H = some (e, S', H') → ∀ μ w fr tmps ds cs k, HRel P B w0 μ H w → FRel μ S fr tmps ds cs →
  CodeOk P B w0 μ H S fr cs (lone (fat fr tmps ds (.code (.rangeFunc f params assign body) :: k)) cs w) k S' H' e
theorem evCode_sound {E : Evs} (hmix : P.follows .mixedOrders = true) (hc : CodeSound P B w0 E.code) (hcallA : CallSoundA P B w0 E.call) (hyldA : YieldSoundA P B w0 E.yld) (hrange : RangeSound P B w0 E) : CodeSound P B w0 (evCode P E) := by
 have hcall := hcallA B w0 (fun _ h => h) (Kept.refl _ _); have hyld := hyldA B w0 (fun _ h => h) (Kept.refl _ _); intro c S H e S' H' he μ w fr tmps ds cs k it h hf hst; have hplain : (∀ c', c ≠ .loop c') → it = .code c := fun hnl => by
  rcases hst with q | ⟨c', q, _⟩
  ·
   exact q
  ·
   exact absurd q (hnl c')
 unfold evCode at he; cases c with
 | skip =>
  obtain rfl := hplain (fun _ q => by cases q); have he : some (Exit.normal, S, H) = some (e, S', H') := he; simp only [Option.some.injEq, Prod.mk.injEq] at he; obtain ⟨rfl, rfl, rfl⟩ := he; exact ⟨μ, w, tmps, ds, cs, .refl h hf, .one st_skip⟩
 | label l =>
  obtain rfl := hplain (fun _ q => by cases q); have he : some (Exit.normal, S, H) = some (e, S', H') := he; simp only [Option.some.injEq, Prod.mk.injEq] at he; obtain ⟨rfl, rfl, rfl⟩ := he; exact ⟨μ, w, tmps, ds, cs, .refl h hf, .one st_label⟩
 | exit id =>
  obtain rfl := hplain (fun _ q => by cases q); have he : some (Exit.exit id, S, H) = some (e, S', H') := he; simp only [Option.some.injEq, Prod.mk.injEq] at he; obtain ⟨rfl, rfl, rfl⟩ := he; exact ⟨μ, w, tmps, ds, cs, k, .refl h hf, rfl, .refl P _⟩
 | ret =>
  obtain rfl := hplain (fun _ q => by cases q); have he : some (Exit.ret, S, H) = some (e, S', H') := he; simp only [Option.some.injEq, Prod.mk.injEq] at he; obtain ⟨rfl, rfl, rfl⟩ := he; exact ⟨μ, w, tmps, ds, cs, k, .refl h hf, .refl P _⟩
 | goto l => cases he
 | refuse why => cases he
 | region id ops d =>
  obtain rfl := hplain (fun _ q => by cases q); cases d with
  | false =>
   have he : regExit (evOps P E.call E.yld ops.toList ops.toList S H) = some (e, S', H') := he; cases hr : evOps P E.call E.yld ops.toList ops.toList S H with
   | none => rw [hr] at he; cases he
   | some rr =>
    rw [hr] at he; have := evOps_sound (k := k) (fr := fr) hcall hyld ops.toList 0 μ w S H tmps ds cs rr (by simp) h hf hr; have e1 : List.range' 0 ops.toList.length = List.range ops.size := by rw [List.range_eq_range']; simp
    rw [e1] at this; exact (reg_code he this).steps (.one st_region)
  | true =>
   have he : regExit (evDrawA P E.call E.yld ops.toList S H) = some (e, S', H') := he; cases hr : evDrawA P E.call E.yld ops.toList S H with
   | none => rw [hr] at he; cases he
   | some rr =>
    rw [hr] at he; refine reg_code he ?_; unfold evDrawA at hr; cases hl : litOf ops.toList with
    | none => rw [hl] at hr; exact evDraw_sound hmix hcall hyld h hf hr
    | some L => rw [hl] at hr; exact evLit_sound hmix hcallA hyldA h hf hr
 | seq a b =>
  obtain rfl := hplain (fun _ q => by cases q); have he : cSeq2 E b (E.code a S H) = some (e, S', H') := he; exact seq2_sound hc (.inl rfl) (fun id => rfl) (fun e1 S1 H1 q => (hc a S H e1 S1 H1 q μ w fr tmps ds cs (.code b :: k) (.code a) h hf (.inl rfl)).steps (.one st_seq)) he
 | cond x a b =>
  obtain rfl := hplain (fun _ q => by cases q); have he : cCond2 E S H a b (opd S.T H x) = some (e, S', H') := he; cases hx : opd S.T H x with
  | none => rw [hx] at he; cases he
  | some v =>
   rw [hx] at he; have hv := opd_sound h hf.t hx; cases v with
   | bool t =>
    have hb := hv.bool_inv; cases t with
    | true =>
     have he : E.code a S H = some (e, S', H') := he; exact (hc a S H e S' H' he μ w fr tmps ds cs k (.code a) h hf (.inl rfl)).steps (.one (st_cond hb))
    | false =>
     have he : E.code b S H = some (e, S', H') := he; exact (hc b S H e S' H' he μ w fr tmps ds cs k (.code b) h hf (.inl rfl)).steps (.one (st_cond hb))
   | _ => cases he
 | block id c =>
  obtain rfl := hplain (fun _ q => by cases q); have he : cBlock2 id (E.code c S H) = some (e, S', H') := he; cases hr : E.code c S H with
  | none => rw [hr] at he; cases he
  | some p =>
   obtain ⟨e1, S1, H1⟩ := p; rw [hr] at he; have h1 := (hc c S H e1 S1 H1 hr μ w fr tmps ds cs (.inBlock id :: k) (.code c) h hf (.inl rfl)).steps (.one (st_block (P := P))); cases e1 with
   | exit id' =>
    have he : (bif Nat.beq id' id then some (Exit.normal, S1, H1) else some (Exit.exit id', S1, H1)) = some (e, S', H') := he; obtain ⟨a1, a2, a3, a4, a5, a6, a7, a8, a9⟩ := h1; cases hb : Nat.beq id' id with
    | true =>
     rw [hb, cond_true] at he; simp only [Option.some.injEq, Prod.mk.injEq] at he; obtain ⟨rfl, rfl, rfl⟩ := he; obtain rfl := Nat.eq_of_beq_eq_true hb; have e1 : exitTo id' (.inBlock id' :: k) = some k := by simp [exitTo]
     exact ⟨a1, a2, a3, a4, a5, a7, a9.trans (.one (st_exit (a8.trans e1)))⟩
    | false =>
     rw [hb, cond_false] at he; simp only [Option.some.injEq, Prod.mk.injEq] at he; obtain ⟨rfl, rfl, rfl⟩ := he; have hne : ¬ id = id' := fun q => by subst q; simp at hb
     have e1 : exitTo id' (.inBlock id :: k) = exitTo id' k := by simp [exitTo, hne]
     exact ⟨a1, a2, a3, a4, a5, a6, a7, a8.trans e1, a9⟩
   | normal =>
    have he : some (Exit.normal, S1, H1) = some (e, S', H') := he; simp only [Option.some.injEq, Prod.mk.injEq] at he; obtain ⟨rfl, rfl, rfl⟩ := he; obtain ⟨a1, a2, a3, a4, a5, a6, a7⟩ := h1; exact ⟨a1, a2, a3, a4, a5, a6, a7.trans (.one st_inBlock)⟩
   | goto l => exact h1.elim
   | ret =>
    have he : some (Exit.ret, S1, H1) = some (e, S', H') := he; simp only [Option.some.injEq, Prod.mk.injEq] at he; obtain ⟨rfl, rfl, rfl⟩ := he; exact h1.pass (fun id q => by cases q) (fun q => by cases q)
   | panic ch =>
    have he : some (Exit.panic ch, S1, H1) = some (e, S', H') := he; simp only [Option.some.injEq, Prod.mk.injEq] at he; obtain ⟨rfl, rfl, rfl⟩ := he; exact h1.pass (fun id q => by cases q) (fun q => by cases q)
   | outgrown => exact h1.elim
 | loop c =>
  have he : cSeq2 E (.loop c) (E.code c S H) = some (e, S', H') := he; have hstep : step P (lone (fat fr tmps ds (it :: k)) cs w) = .next (lone (fat fr tmps ds (.code c :: .inLoop c :: k)) cs w) := by
   rcases hst with rfl | ⟨c', q, rfl⟩
   ·
    exact st_loop
   ·
    injection q with q; subst q; exact st_inLoop
  exact seq2_sound hc (.inr ⟨c, rfl, rfl⟩) (fun id => rfl) (fun e1 S1 H1 q => (hc c S H e1 S1 H1 q μ w fr tmps ds cs (.inLoop c :: k) (.code c) h hf (.inl rfl)).steps (.one hstep)) he
 | scope c =>
  obtain rfl := hplain (fun _ q => by cases q); have he : cScope2 (E.code c S H) = some (e, S', H') := he; cases hr : E.code c S H with
  | none => rw [hr] at he; cases he
  | some p =>
   obtain ⟨e1, S1, H1⟩ := p; rw [hr] at he; have h1 := (hc c S H e1 S1 H1 hr μ w fr tmps ds cs (.inScope c :: k) (.code c) h hf (.inl rfl)).steps (.one (st_scope (P := P))); have he : some (e1, S1, H1) = some (e, S', H') := by cases e1 <;> first | exact he | exact h1.elim
   simp only [Option.some.injEq, Prod.mk.injEq] at he; obtain ⟨rfl, rfl, rfl⟩ := he; by_cases hn : e1 = .normal
   ·
    subst hn; obtain ⟨a1, a2, a3, a4, a5, a6, a7⟩ := h1; exact ⟨a1, a2, a3, a4, a5, a6, a7.trans (.one st_inScope)⟩
   ·
    exact h1.pass (fun id _ => rfl) hn
 | rangeFunc f params assign body =>
  obtain rfl := hplain (fun _ q => by cases q); have he : evRange P E f params assign body S H = some (e, S', H') := he; exact hrange f params assign body S H e S' H' he μ w fr tmps ds cs k h hf
end
end Go.Cre
namespace Go.Cre
open Go.RowKit
section
variable {P : Program} {B : Nat → Prop} {w0 w : World} {μ μ1 μ' : Mp} {H H1 H' : Hp} {S S1 S' : St} {fr : Frame} {tmps : Array Value} {ds : List Deferred} {cs cs1 : List Frame}
noncomputable def resF (tmps : Array Value) : ResultVar → Sem Value
 | .tmp t => pure (tmps.getD t undef)
 | .cell a t => do loadVar t (← asAddr (tmps.getD a undef))
theorem evResults_sound (h : HRel P B w0 μ H w) {T : Tr Value} {n : Nat} (ht : TRel μ T n tmps) : ∀ {l : List ResultVar} {vs : List Value}, evResults P T H l = some vs →
  ∃ vs', (l.mapM (resF tmps)).run P w = .ok vs' w ∧ LRel μ vs vs' := by
 intro l; induction l with
 | nil => intro vs he; simp [evResults] at he; subst he; exact ⟨[], by simp, LRel.nil _⟩
 | cons x l ih =>
  intro vs he; cases x with
  | tmp t =>
   simp only [evResults] at he; cases hT : T.get t with
   | none => rw [hT] at he; cases he
   | some u =>
    rw [hT] at he; cases hl : evResults P T H l with
    | none => rw [hl] at he; cases he
    | some r =>
     rw [hl] at he; injection he with he; subst he
     obtain ⟨vs', a, b⟩ := ih hl; refine ⟨tmps.getD t undef :: vs', ?_, LRel.cons (ht.2 t u hT) b⟩; rw [List.mapM_cons]; have e : resF tmps (.tmp t) = pure (tmps.getD t undef) := rfl; rw [e]; simp only [Sem.run_bind, Sem.run_pure, Result.andThen, a]
  | cell c t =>
   simp only [evResults] at he; cases hT : T.get c with
   | none => rw [hT] at he; cases he
   | some u =>
    rw [hT] at he; simp only at he; cases hv : evLoad P H t u with
    | none => rw [hv] at he; cases he
    | some v =>
     rw [hv] at he; cases hl : evResults P T H l with
     | none => rw [hl] at he; cases he
     | some r =>
      rw [hl] at he; injection he with he; subst he
      obtain ⟨vs', a, b⟩ := ih hl; have hu := ht.2 c u hT; unfold evLoad at hv; cases u with
      | pointer p =>
       cases p with
       | none => cases hv
       | some p =>
        obtain ⟨id, off, L, rfl, hL, hq⟩ := hu.ptr_inv; simp only at hv; obtain ⟨v', h1, h2⟩ := evLoadAt_sound h hL hv; refine ⟨v' :: vs', ?_, LRel.cons h2 b⟩; rw [List.mapM_cons]; have e : (resF tmps (.cell c t)).run P w = .ok v' w := by
         show (do loadVar t (← asAddr (tmps.getD c undef)) : Sem Value).run P w = _; rw [hq]; simp [asAddr, h1]
        simp only [Sem.run_bind, e, Result.andThen, a, Sem.run_pure]
      | _ => cases hv
theorem results_sound (h : HRel P B w0 μ H w) {T : Tr Value} {n : Nat} (ht : TRel μ T n tmps) {fn : Func} {vs : List Value} (he : evResults P T H fn.results.toList = some vs) :
  ∃ v', (results fn tmps).run P w = .ok v' w ∧ VRel μ (oneOrTuple vs) v' := by
 obtain ⟨vs', a, b⟩ := evResults_sound h ht he; have hm : (fn.results.mapM (resF tmps)).run P w = .ok vs'.toArray w := by
  rw [Array.mapM_eq_mapM_toList]; simp [a]
 have hr : results fn tmps = (do let vs ← fn.results.mapM (resF tmps); pure (if h : vs.size = 1 then vs[0] else .tuple vs)) := by
  unfold results; congr 2
 rw [hr]; simp only [Sem.run_bind, hm, Result.andThen, Sem.run_pure]; refine ⟨_, rfl, ?_⟩; by_cases h1 : vs'.length = 1
 ·
  have h2 : vs.length = 1 := b.1.trans h1; obtain ⟨v, rfl⟩ := List.length_eq_one_iff.1 h2; obtain ⟨v', rfl⟩ := List.length_eq_one_iff.1 h1; simpa [oneOrTuple] using b.2 0 v v' rfl rfl
 ·
  have h2 : vs.length ≠ 1 := fun q => h1 (b.1.symm.trans q); have e : oneOrTuple vs = .tuple vs.toArray := by
   unfold oneOrTuple; split
   ·
    simp at h2
   ·
    rfl
  rw [e]; have : ¬ vs'.toArray.size = 1 := by simpa using h1
  rw [dif_neg this]; exact VRel.tuple' b
theorem CRel.inv_nil {c' : List PanicEntry} (h : CRel μ [] c') : c' = [] := List.eq_nil_of_length_eq_zero h.1.symm
theorem CRel.inv_cons {x : PanicEntry} {c c' : List PanicEntry} (h : CRel μ (x :: c) c') : ∃ x' d, c' = x' :: d ∧ x'.recovered = x.recovered ∧ x'.goexit = x.goexit ∧ VRel μ x.v x'.v ∧ CRel μ c d := by
 cases c' with
 | nil => have := h.1; simp at this
 | cons x' d =>
  obtain ⟨a, b, e⟩ := h.2 0 x x' rfl rfl; exact ⟨x', d, rfl, a, b, e, by have := h.1; simpa using this, fun i p q hp hq => h.2 (i + 1) p q (by simpa using hp) (by simpa using hq)⟩
theorem CRel.nil (μ : Mp) : CRel μ [] [] := ⟨rfl, fun i e e' h => by simp at h⟩
theorem CRel.cons {x x' : PanicEntry} {c c' : List PanicEntry} (h1 : x'.recovered = x.recovered) (h2 : x'.goexit = x.goexit) (h3 : VRel μ x.v x'.v) (h : CRel μ c c') : CRel μ (x :: c) (x' :: c') :=
 ⟨by simp [h.1], fun i p q hp hq => by
  cases i with
  | zero => simp at hp hq; subst hp; subst hq; exact ⟨h1, h2, h3⟩
  | succ i => exact h.2 i p q (by simpa using hp) (by simpa using hq)⟩
theorem CRel.append {a a' b b' : List PanicEntry} (h : CRel μ a a') (k : CRel μ b b') : CRel μ (a ++ b) (a' ++ b') := by
 induction a generalizing a' with
 | nil => obtain rfl := h.inv_nil; exact k
 | cons x a ih => obtain ⟨x', d, rfl, h1, h2, h3, h4⟩ := h.inv_cons; exact .cons h1 h2 h3 (ih h4)
theorem CRel.dropWhile {a a' : List PanicEntry} (h : CRel μ a a') : CRel μ (a.dropWhile (!·.goexit)) (a'.dropWhile (!·.goexit)) := by
 induction a generalizing a' with
 | nil => obtain rfl := h.inv_nil; exact .nil _
 | cons x a ih =>
  obtain ⟨x', d, rfl, h1, h2, h3, h4⟩ := h.inv_cons; simp only [List.dropWhile, h2]; cases x.goexit with
  | true => exact h
  | false => exact ih h4
theorem settle_rel {u u' : FrameMode} (h : MRel μ u u') : MRel μ (settle u) (settle u') := by
 cases u with
 | run => cases u' <;> first | exact h.elim | trivial
 | returning => cases u' <;> first | exact h.elim | trivial
 | panicking c =>
  cases u' with
  | run => exact h.elim
  | returning => exact h.elim
  | panicking c' =>
   have h : CRel μ c c' := h; cases c with
   | nil => obtain rfl := h.inv_nil; exact h
   | cons x c =>
    obtain ⟨x', d, rfl, h1, h2, h3, h4⟩ := h.inv_cons; obtain ⟨xv, xr, xg⟩ := x; obtain ⟨xv', xr', xg'⟩ := x'; simp only at h1 h2 h3; subst h1; subst h2; cases xr' with
    | false => exact h
    | true =>
     have hd := h4.dropWhile; simp only [settle]; cases hq : c.dropWhile (!·.goexit) with
     | nil => rw [hq] at hd; rw [hd.inv_nil]; trivial
     | cons y r =>
      rw [hq] at hd; obtain ⟨y', r', e, _⟩ := hd.inv_cons; rw [e] at hd ⊢; exact hd
theorem raised_rel {u u' : FrameMode} {c c' : List PanicEntry} (h : MRel μ u u') (hc : CRel μ c c') : MRel μ (raised u c) (raised u' c') := by
 cases u with
 | run => cases u' <;> first | exact h.elim | exact hc
 | returning => cases u' <;> first | exact h.elim | exact hc
 | panicking d =>
  cases u' with
  | run => exact h.elim
  | returning => exact h.elim
  | panicking d' => exact hc.append h
theorem settle_ne {u : FrameMode} (h : u ≠ .run) : settle u ≠ .run := by
 unfold settle; split
 ·
  split <;> (intro q; cases q)
 ·
  exact h
theorem raised_ne {u : FrameMode} {c : List PanicEntry} : raised u c ≠ .run := by
 unfold raised; split <;> (intro q; cases q)
theorem evLeave_run {E : Evs} {fn : Func} {T : Tr Value} {dss : List Deferred} {r : Ending × Hp} (h : evLeave P E fn T dss .run H = some r) : False := by
 cases dss with
 | nil => simp [evLeave] at h
 | cons d l => simp [evLeave, isRun] at h
def DefSound (P : Program) (B : Nat → Prop) (w0 : World) (body : FuncId → List Value → Bool → FrameMode → Hp → Option (Ending × FrameMode × Hp)) : Prop :=
 ∀ f args um H e um' H', body f args true um H = some (e, um', H') → ∀ μ w args', HRel P B w0 μ H w → LRel μ args args' →
  (callFunc f args'.toArray).run P w = .ok (.enter f args'.toArray) w ∧
  ∀ (c : Frame) (cs : List Frame), MRel μ um c.mode → ∃ μ' w' e' u' fr, HRel P B w0 μ' H' w' ∧ Step μ μ' H H' ∧ EndRel μ' e e' ∧ MRel μ' um' u' ∧
   Steps P (lone (Frame.enter P f args'.toArray .deferred) (c :: cs) w) (lone fr ({ c with mode := u' } :: cs) w') ∧ fr.kind = .deferred ∧ fr.going P w' e'
theorem evLeave_sound {E : Evs} (hdef : DefSound P B w0 E.body) {fn : Func} {T : Tr Value} {n : Nat} : ∀ (dss : List Deferred) (u : FrameMode) (H : Hp) (e : Ending) (H' : Hp), evLeave P E fn T dss u H = some (e, H') →
  ∀ (μ : Mp) (w : World) (fr : Frame) (cs : List Frame), HRel P B w0 μ H w → TRel μ T n fr.tmps → DRel μ dss fr.defers → MRel μ u fr.mode → u ≠ .run → P.funcs[fr.fn]? = some fn →
  ∃ μ' w' e' fr', HRel P B w0 μ' H' w' ∧ Step μ μ' H H' ∧ EndRel μ' e e' ∧ Steps P (lone fr cs w) (lone fr' cs w') ∧ fr'.kind = fr.kind ∧ fr'.fn = fr.fn ∧ fr'.going P w' e' := by
 intro dss; induction dss with
 | nil =>
  intro u H e H' he μ w fr cs h ht hd hm hu hf; cases hd0 : fr.defers with
  | cons d l => rw [hd0] at hd; cases hd
  | nil =>
   cases u with
   | run => exact absurd rfl hu
   | returning =>
    have hmode : fr.mode = .returning := by cases hq : fr.mode <;> rw [hq] at hm <;> first | rfl | exact hm.elim
    simp only [evLeave] at he; cases hr : evResults P T H fn.results.toList with
    | none => rw [hr] at he; cases he
    | some vs =>
     rw [hr] at he; simp only [Option.some.injEq, Prod.mk.injEq] at he; obtain ⟨rfl, rfl⟩ := he; obtain ⟨v', a, b⟩ := results_sound h ht hr; exact ⟨μ, w, .returned v', fr, h, Step.refl _ _, b, .refl P _, rfl, rfl, hmode, hd0, fn, hf, a⟩
   | panicking c =>
    cases hq : fr.mode with
    | run => rw [hq] at hm; exact hm.elim
    | returning => rw [hq] at hm; exact hm.elim
    | panicking c' =>
     rw [hq] at hm; simp only [evLeave, Option.some.injEq, Prod.mk.injEq] at he; obtain ⟨rfl, rfl⟩ := he; exact ⟨μ, w, .panicked c', fr, h, Step.refl _ _, hm, .refl P _, rfl, rfl, hq, hd0, fn, hf⟩
 | cons d dss ih =>
  intro u H e H' he μ w fr cs h ht hd hm hu hf; have hrun : fr.mode ≠ .run := fun q => by rw [q] at hm; cases u <;> first | exact hu rfl | exact hm.elim
  cases hd0 : fr.defers with
  | nil => rw [hd0] at hd; cases hd
  | cons d' ds' =>
   rw [hd0] at hd; cases hd with
   | cons _ _ _ _ hdd hds =>
   simp only [evLeave] at he; have hnr : isRun u = false := by cases u <;> first | exact absurd rfl hu | rfl
   rw [hnr, cond_false] at he; rcases hdd with ⟨fv, cap, cap', t1, t2, t3, t4, t5⟩ | ⟨r, L, t1, t2, t3⟩
   ·
    rw [t1] at he; simp only at he; cases hfn : evFn P H fv d.args.toList cap.toList with
    | none => rw [hfn] at he; cases he
    | some p =>
     obtain ⟨f, args⟩ := p; rw [hfn] at he; simp only at he; obtain ⟨as', a1, a2⟩ := evFn_sound (w := w) t5 t4 hfn; cases hb : E.body f args true u H with
     | none => rw [hb] at he; cases he
     | some q =>
      obtain ⟨e1, um', H1⟩ := q; rw [hb] at he; obtain ⟨b1, b2⟩ := hdef f args u H e1 um' H1 hb μ w as' h a2; have hinv : (invoke d'.target d'.args).run P w = .ok (.enter f as'.toArray) w := by
       rw [t2]; have e1 : cap'.toList.toArray = cap' := by simp
       have e2 : d'.args.toList.toArray = d'.args := by simp
       rw [e1, e2] at a1; rw [a1]; exact b1
      have h1 := step_defer (cs := cs) hrun hd0 t2 hinv; obtain ⟨μ1, w1, e1', u', frX, c1, c2, c3, c4, c5, c6, c7⟩ := b2 { fr with defers := ds' } cs hm; have hmu : um' ≠ .run → u' ≠ .run := fun q q' => by rw [q'] at c4; cases um' <;> first | exact q rfl | exact c4.elim
      cases e1 with
      | outgrown => cases he
      | returned v =>
       cases e1' with
       | returned v' =>
        simp only at he; by_cases hur : um' = .run
        ·
         exfalso; rw [hur] at he
         -- a running frame does not leave
         have : settle FrameMode.run = .run := rfl; rw [this] at he; exact (evLeave_run (P := P) (E := E) he).elim
        have h2 := step_going_returned (P := P) (c := { { fr with defers := ds' } with mode := u' }) (cs := cs) c6 c7; obtain ⟨μ2, w2, e2, fr2, g1, g2, g3, g4, g5, g6, g7⟩ := ih (settle um') H1 e H' he μ1 w1 { { { fr with defers := ds' } with mode := u' } with mode := settle u' } cs c1 (ht.mono c2.ext) (hds.mono c2.ext) (settle_rel c4) (settle_ne hur) hf; exact ⟨μ2, w2, e2, fr2, g1, c2.trans g2, g3, (Steps.head h1 (Steps.trans c5 (.one h2))).trans g4, g5, g6, g7⟩
       | panicked c => exact c3.elim
       | outgrown => exact c3.elim
      | panicked ch =>
       cases e1' with
       | returned v' => exact c3.elim
       | outgrown => exact c3.elim
       | panicked ch' =>
        simp only at he; have h2 := step_going_panicked (P := P) (c := { { fr with defers := ds' } with mode := u' }) (cs := cs) c7; obtain ⟨μ2, w2, e2, fr2, g1, g2, g3, g4, g5, g6, g7⟩ := ih (raised um' ch) H1 e H' he μ1 w1 { { { fr with defers := ds' } with mode := u' } with mode := raised u' ch' } cs c1 (ht.mono c2.ext) (hds.mono c2.ext) (raised_rel c4 c3) raised_ne hf; exact ⟨μ2, w2, e2, fr2, g1, c2.trans g2, g3, (Steps.head h1 (Steps.trans c5 (.one h2))).trans g4, g5, g6, g7⟩
   ·
    rw [t1] at he; simp only at he; cases hmem : H.mem.get r with
    | none => rw [hmem] at he; cases he
    | some b =>
     rw [hmem] at he; cases b with
     | dfr o =>
      cases o with
      | none => cases he
      | some l =>
       cases l with
       | cons x y => cases he
       | nil =>
        simp only at he; cases hg : Nat.ble H.glo r with
        | false => rw [hg] at he; cases he
        | true =>
         rw [hg, cond_true] at he; have hg := Nat.le_of_ble_eq_true hg; cases hu' : H.upd r (.dfr none) with
         | none => rw [hu'] at he; cases he
         | some H1 =>
          rw [hu'] at he; obtain ⟨b0, o0, q1, q2, q3⟩ := h.blk r L t2; rw [hmem] at q1; injection q1 with q1; subst q1
          cases o0 with
          | deferred dd =>
           obtain ⟨rfl, _⟩ := q3; obtain ⟨c1, c2⟩ := h.writeObj t2 hg hmem (fun _ _ _ _ _ _ q => by cases q) (fun q => by cases q) hu' (fun _ _ _ _ _ _ q => by cases q) (o' := .deferred none) (b' := .dfr none) ⟨rfl, .inr rfl⟩; have htake : (Instr.takeDeferred L.r).run P w = .ok [] { w with heap := w.heap.setIfInBounds L.r (.deferred none) } := by
            simp [Instr.takeDeferred, getObj, setObj, Sem.run, q2]
           have h1 : step P (lone fr cs w) = .next (lone { fr with defers := ds' } cs { w with heap := w.heap.setIfInBounds L.r (.deferred none) }) := by
            refine step_lone_go ?_; obtain ⟨dt, da⟩ := d'; simp only at t3; subst t3; cases hmode : fr.mode with
            | run => exact absurd hmode hrun
            | returning => simp [stepG, unwind, hmode, hd0, htake]
            | panicking ch => simp [stepG, unwind, hmode, hd0, htake]
           obtain ⟨μ2, w2, e2, fr2, g1, g2, g3, g4, g5, g6, g7⟩ := ih u H1 e H' he μ _ { fr with defers := ds' } cs c1 ht hds hm hu hf; exact ⟨μ2, w2, e2, fr2, g1, c2.trans g2, g3, .head h1 g4, g5, g6, g7⟩
          | _ => exact q3.elim
     | _ => cases he
end
end Go.Cre

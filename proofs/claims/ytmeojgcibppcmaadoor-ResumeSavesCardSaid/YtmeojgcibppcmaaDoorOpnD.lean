/- A part of the proof of ResumeSaves. -/
import Derived.Test.YtmeojgcibppcmaaDoorOpnA
set_option linter.unusedVariables false
set_option linter.unusedSimpArgs false
namespace Go.Opn
open Go.Cre Go.RowKit
inductive OpsR {P : Program} (Q : Worlds P) (ops : List Oper) : List Oper → St → Hp → RegRes → Prop
 | nil (S : St) (H : Hp) : OpsR Q ops [] S H (.ok S H)
 | cons (pc : Code → St → Hp → Option (Exit × St × Hp)) (pk : CallEv) {o : Oper} {rest : List Oper} {S S1 : St} {H H1 : Hp} {r : RegRes} : one P (callΩ Q pk) (EΩ Q pc pk).yld ops S H o = some (.ok S1 H1) → OpsR Q ops rest S1 H1 r → OpsR Q ops (o :: rest) S H r
 | pan (pc : Code → St → Hp → Option (Exit × St × Hp)) (pk : CallEv) {o : Oper} {rest : List Oper} {S S1 : St} {H H1 : Hp} {chain : List PanicEntry} : one P (callΩ Q pk) (EΩ Q pc pk).yld ops S H o = some (.pan chain S1 H1) → OpsR Q ops (o :: rest) S H (.pan chain S1 H1)
theorem OpsR.sound {P : Program} {Q : Worlds P} {B : Nat → Prop} {w0 : World} (hQ : Q.ok B w0) {ops : Array Oper} {fr : Frame} {k : List Item} {l : List Oper} {S : St} {H : Hp} {rr : RegRes} (h : OpsR Q ops.toList l S H rr) : ∀ (i : Nat) (μ : Mp) (w : World) (tmps : Array Value) (ds : List Deferred) (cs : List Frame),
  ops.toList.drop i = l → HRel P B w0 μ H w → FRel μ S fr tmps ds cs →
  RegOk P B w0 μ H S fr cs (lone (fat fr tmps ds (.inRegion ops (List.range' i l.length) :: k)) cs w) k rr := by
 induction h with
 | nil S H =>
  intro i μ w tmps ds cs _ h hf; exact ⟨μ, w, tmps, ds, cs, h, Step.refl _ _, hf, CsRel.refl _ _ hf.hasCs, rfl, rfl, .one st_regionEnd⟩
 | @cons pc pk o rest S S1 H H1 r hone _ ih =>
  intro i μ w tmps ds cs hd h hf; have ho : ops[i]? = some o := by
   have : (ops.toList.drop i)[0]? = some o := by rw [hd]; rfl
   simpa using this
  have hd' : ops.toList.drop (i + 1) = rest := by
   have : (ops.toList.drop i).drop 1 = rest := by rw [hd]; rfl
   rw [List.drop_drop] at this; exact this
  show RegOk P B w0 μ H S fr cs (lone (fat fr tmps ds (.inRegion ops (i :: List.range' (i + 1) rest.length) :: k)) cs w) k r; have h1 := one_sound (k := k) (rest := List.range' (i + 1) rest.length) (callΩ_sound pk hQ) (yld_sound (E := EΩ Q pc pk) (codeΩ_sound pc hQ)) h hf ho hone; exact h1.bind fun μ1 w1 tmps1 ds1 cs1 g1 _ g3 _ _ _ => ih (i + 1) μ1 w1 tmps1 ds1 cs1 hd' g1 g3
 | @pan pc pk o rest S S1 H H1 chain hone =>
  intro i μ w tmps ds cs hd h hf; have ho : ops[i]? = some o := by
   have : (ops.toList.drop i)[0]? = some o := by rw [hd]; rfl
   simpa using this
  show RegOk P B w0 μ H S fr cs (lone (fat fr tmps ds (.inRegion ops (i :: List.range' (i + 1) rest.length) :: k)) cs w) k _; exact one_sound (k := k) (rest := List.range' (i + 1) rest.length) (callΩ_sound pk hQ) (yld_sound (E := EΩ Q pc pk) (codeΩ_sound pc hQ)) h hf ho hone
noncomputable def mkRes (S : St) (H : Hp) : Option (List PanicEntry) → RegRes
 | none => .ok S H
 | some c => .pan c S H
def exitOf : Option (List PanicEntry) → Exit
 | none => .normal
 | some c => .panic c
theorem CodeR.ops {P : Program} {Q : Worlds P} {id : Nat} {ops : Array Oper} {S S' : St} {H H' : Hp} {p : Option (List PanicEntry)} (h : OpsR Q ops.toList ops.toList S H (mkRes S' H' p)) : CodeR Q (.region id ops false) S H (exitOf p) S' H' := by
 refine .mk fun B w0 hQ μ w fr tmps ds cs k it hH hF hs => ?_; obtain rfl := hs.plain (fun _ q => by cases q); have := h.sound (k := k) (fr := fr) hQ 0 μ w tmps ds cs (by simp) hH hF; have e1 : List.range' 0 ops.toList.length = List.range ops.size := by rw [List.range_eq_range']; simp
 rw [e1] at this; exact (reg_code (by cases p <;> rfl) this).steps (.one st_region)
structure Kx where
 P : Program
 ft : Tr Func
 hP : PF P ft
 Q : Worlds P
 g0 : Nat
abbrev Mm := List (Nat × PB)
section
variable {K : Kx} {B : Bs}
def W (K : Kx) (B : Bs) (ops rest : List Oper) (E : En) (m : Mm) (J : Jm) (Φ : Option (List PanicEntry) → En → Mm → Jm → Prop) : Prop :=
 ∀ S H, Sat E S → Inv K.g0 B J m H → ∃ p S' H' E' m' J', OpsR K.Q ops rest S H (mkRes S' H' p) ∧ Sat E' S' ∧ Inv K.g0 B J' m' H' ∧ Φ p E' m' J'
def WC (K : Kx) (B : Bs) (c : Code) (E : En) (m : Mm) (J : Jm) (Φ : Exit → En → Mm → Jm → Prop) : Prop :=
 ∀ S H, Sat E S → Inv K.g0 B J m H → ∃ e S' H' E' m' J', CodeR K.Q c S H e S' H' ∧ Sat E' S' ∧ Inv K.g0 B J' m' H' ∧ Φ e E' m' J'
def Exec (K : Kx) (B : Bs) (o : Oper) (E : En) (m : Mm) (J : Jm) (Ψ : En → Mm → Jm → Prop) : Prop :=
 ∀ S H, Sat E S → Inv K.g0 B J m H → ∃ pc pk S' H' E' m' J', oneAfter S H o.dst (evOp K.P (callΩ K.Q pk) (EΩ K.Q pc pk).yld S H o) = some (.ok S' H') ∧ Sat E' S' ∧ Inv K.g0 B J' m' H' ∧ Ψ E' m' J'
variable {ops rest : List Oper} {E : En} {m m' : Mm} {J : Jm} {o : Oper} {Φ : Option (List PanicEntry) → En → Mm → Jm → Prop} {Ψ : En → Mm → Jm → Prop} {Θ Θ' : Exit → En → Mm → Jm → Prop}
theorem W.nil (h : Φ none E m J) : W K B ops [] E m J Φ := fun S H hS hI => ⟨none, S, H, E, m, J, .nil S H, hS, hI, h⟩
theorem W.step (hg : o.guard = none) (h : Exec K B o E m J fun E m J => W K B ops rest E m J Φ) : W K B ops (o :: rest) E m J Φ := by
 intro S H hS hI; obtain ⟨pc, pk, S1, H1, E1, m1, J1, h1, h2, h3, h4⟩ := h S H hS hI; obtain ⟨p, S', H', E', m', J', k1, k2, k3, k4⟩ := h4 S1 H1 h2 h3; refine ⟨p, S', H', E', m', J', .cons pc pk ?_ k1, k2, k3, k4⟩; unfold one guardB; rw [hg]; exact h1
noncomputable def guardT (ops : List Oper) (o : Oper) : Option (Nat × Bool) := match o.guard with
 | some (j, want) => (match nth ops j with | some p => (match p.dst with | some d => some (d, want) | none => none) | none => none)
 | none => none
theorem guardT_eq {S : St} {d : Nat} {want b : Bool} (hg : guardT ops o = some (d, want)) (hb : S.T.get d = some (.bool b)) : guardB ops S.T o = some (b == want) := by
 unfold guardT at hg; unfold guardB; cases q : o.guard with
 | none => rw [q] at hg; cases hg
 | some x =>
  obtain ⟨j, w⟩ := x; rw [q] at hg; show guardC ops S.T (j, w) = _; unfold guardC; simp only at hg ⊢; cases hn : nth ops j with
  | none => rw [hn] at hg; cases hg
  | some p =>
   rw [hn] at hg; simp only at hg ⊢; cases hd : p.dst with
   | none => rw [hd] at hg; cases hg
   | some d' =>
    rw [hd] at hg; simp only [Option.some.injEq, Prod.mk.injEq] at hg; obtain ⟨rfl, rfl⟩ := hg; simp only [hb]
theorem W.split {n : Nat} {ds : Dx} {l : List (Nat × Value)} {d : Nat} {b : Bool} (hb : look l d = some (.bool b)) (h1 : b = true → W K B ops rest ⟨n, ds, (d, .bool true) :: l⟩ m J Φ) (h0 : b = false → W K B ops rest ⟨n, ds, (d, .bool false) :: l⟩ m J Φ) : W K B ops rest ⟨n, ds, l⟩ m J Φ := by
 intro S H hS hI; have key : ∀ c : Bool, b = c → Sat ⟨n, ds, (d, .bool c) :: l⟩ S := fun c e => by
  subst e; refine ⟨hS.n, hS.ds, hS.dfd, hS.um, hS.rnd, hS.has, fun t v q => ?_⟩; have q2 : (bif Nat.beq t d then some (Value.bool b) else look l t) = some v := q; cases hq : Nat.beq t d with
  | true => rw [hq, cond_true] at q2; obtain rfl := Nat.eq_of_beq_eq_true hq; rw [← q2]; exact hS.get _ _ hb
  | false => rw [hq, cond_false] at q2; exact hS.get t v q2
 cases b with
 | true => exact h1 rfl S H (key true rfl) hI
 | false => exact h0 rfl S H (key false rfl) hI
theorem W.guardY {n : Nat} {ds : Dx} {l : List (Nat × Value)} {d : Nat} {want b : Bool} (hg : guardT ops o = some (d, want)) (hb : look l d = some (.bool b)) (hw : (b == want) = true) (h : Exec K B o ⟨n, ds, l⟩ m J fun E m J => W K B ops rest E m J Φ) : W K B ops (o :: rest) ⟨n, ds, l⟩ m J Φ := by
 intro S H hS hI; have hB := guardT_eq hg (hS.get d _ hb); obtain ⟨pc, pk, S1, H1, E1, m1, J1, q1, q2, q3, q4⟩ := h S H hS hI; obtain ⟨p, S', H', E', m', J', k1, k2, k3, k4⟩ := q4 S1 H1 q2 q3; refine ⟨p, S', H', E', m', J', .cons pc pk ?_ k1, k2, k3, k4⟩; unfold one; rw [hB, hw]; exact q1
theorem W.guardN {n : Nat} {ds : Dx} {l : List (Nat × Value)} {d e : Nat} {want b : Bool} (hg : guardT ops o = some (d, want)) (hb : look l d = some (.bool b)) (hw : (b == want) = false) (hd : o.dst = some e) (hn : Nat.blt e n = true) (h : W K B ops rest ⟨n, ds, (e, undef) :: l⟩ m J Φ) : W K B ops (o :: rest) ⟨n, ds, l⟩ m J Φ := by
 intro S H hS hI; have hB := guardT_eq hg (hS.get d _ hb); obtain ⟨S1, s1, s2⟩ := hS.put (dst := some e) hn undef; obtain ⟨p, S', H', E', m', J', k1, k2, k3, k4⟩ := h S1 H s2 hI; refine ⟨p, S', H', E', m', J', .cons noCode noCall ?_ k1, k2, k3, k4⟩; unfold one; rw [hB, hw]; show regOk H (S.put o.dst undef) = _; rw [hd, s1]; rfl
def ExecA (K : Kx) (B : Bs) (o : Oper) (E : En) (m : Mm) (J : Jm) (Ψ : En → Mm → Jm → Prop) : Prop :=
 ∀ S H, Sat E S → Inv K.g0 B J m H → ∃ S' H' E' m' J', (∀ call yld, oneAfter S H o.dst (evOp K.P call yld S H o) = some (.ok S' H')) ∧ Sat E' S' ∧ Inv K.g0 B J' m' H' ∧ Ψ E' m' J'
theorem Exec.of (h : ExecA K B o E m J Ψ) : Exec K B o E m J Ψ := fun S H hS hI => by
 obtain ⟨S', H', E', m', J', h1, h2, h3, h4⟩ := h S H hS hI; exact ⟨noCode, noCall, S', H', E', m', J', h1 _ _, h2, h3, h4⟩
theorem Exec.val {n : Nat} {ds : Dx} {l : List (Nat × Value)} {d : Nat} {v : Value} (hd : o.dst = some d) (hn : Nat.blt d n = true) (hop : ∀ call yld S H, Sat ⟨n, ds, l⟩ S → Inv K.g0 B J m H → evOp K.P call yld S H o = some (.val v H)) (h : Ψ ⟨n, ds, (d, v) :: l⟩ m J) : Exec K B o ⟨n, ds, l⟩ m J Ψ := by
 intro S H hS hI; obtain ⟨S1, s1, s2⟩ := hS.put (dst := some d) hn v; refine ⟨noCode, noCall, S1, H, _, m, J, ?_, s2, hI, h⟩; rw [hop _ _ S H hS hI, hd]; show regOk H (S.put (some d) v) = _; rw [s1]; rfl
theorem ExecA.valM {n : Nat} {ds : Dx} {l : List (Nat × Value)} {d : Nat} (hd : o.dst = some d) (hn : Nat.blt d n = true) (hop : ∀ S H, Sat ⟨n, ds, l⟩ S → Inv K.g0 B J m H → ∃ v H' m' J', (∀ call yld, evOp K.P call yld S H o = some (.val v H')) ∧ Inv K.g0 B J' m' H' ∧ Ψ ⟨n, ds, (d, v) :: l⟩ m' J') : ExecA K B o ⟨n, ds, l⟩ m J Ψ := by
 intro S H hS hI; obtain ⟨v, H', m', J', k1, k2, k3⟩ := hop S H hS hI; obtain ⟨S1, s1, s2⟩ := hS.put (dst := some d) hn v; refine ⟨S1, H', _, m', J', fun call yld => ?_, s2, k2, k3⟩; rw [k1, hd]; show regOk H' (S.put (some d) v) = _; rw [s1]; rfl
theorem ExecA.skip {E : En} (hd : o.dst = none) (hop : ∀ S H, Sat E S → Inv K.g0 B J m H → ∃ H' m' J', (∀ call yld, evOp K.P call yld S H o = some (.skip H')) ∧ Inv K.g0 B J' m' H' ∧ Ψ E m' J') : ExecA K B o E m J Ψ := by
 intro S H hS hI; obtain ⟨H', m', J', k1, k2, k3⟩ := hop S H hS hI; refine ⟨S, H', E, m', J', fun call yld => ?_, hS, k2, k3⟩; rw [k1, hd]; rfl
theorem WC.mono {c : Code} (h : WC K B c E m J Θ) (hΘ : ∀ e E m J, Θ e E m J → Θ' e E m J) : WC K B c E m J Θ' := by
 intro S H hS hI; obtain ⟨e, S', H', E', m', J', h1, h2, h3, h4⟩ := h S H hS hI; exact ⟨e, S', H', E', m', J', h1, h2, h3, hΘ _ _ _ _ h4⟩
theorem WC.region {id : Nat} {a : Array Oper} (h : W K B a.toList a.toList E m J fun p E m J => Θ (exitOf p) E m J) : WC K B (.region id a false) E m J Θ := by
 intro S H hS hI; obtain ⟨p, S', H', E', m', J', k1, k2, k3, k4⟩ := h S H hS hI; exact ⟨exitOf p, S', H', E', m', J', CodeR.ops k1, k2, k3, k4⟩
theorem WC.skip (h : Θ .normal E m J) : WC K B .skip E m J Θ := fun S H hS hI => ⟨_, S, H, E, m, J, CodeR.skip K.hP.mix, hS, hI, h⟩
theorem WC.ret (h : Θ .ret E m J) : WC K B .ret E m J Θ := fun S H hS hI => ⟨_, S, H, E, m, J, CodeR.ret K.hP.mix, hS, hI, h⟩
theorem WC.exit {id : Nat} (h : Θ (.exit id) E m J) : WC K B (.exit id) E m J Θ := fun S H hS hI => ⟨_, S, H, E, m, J, CodeR.exit K.hP.mix, hS, hI, h⟩
theorem WC.label {id : Nat} (h : Θ .normal E m J) : WC K B (.label id) E m J Θ := fun S H hS hI => ⟨_, S, H, E, m, J, CodeR.of_ev K.hP.mix noCode noCall rfl, hS, hI, h⟩
theorem WC.scope {c : Code} (h : WC K B c E m J fun e E m J => (∀ l, e ≠ .goto l) ∧ Θ e E m J) : WC K B (.scope c) E m J Θ := by
 intro S H hS hI; obtain ⟨e, S1, H1, E1, m1, J1, h1, h2, h3, h4, h5⟩ := h S H hS hI; refine ⟨e, S1, H1, E1, m1, J1, CodeR.of_ev K.hP.mix (codeAt c S H (e, S1, H1)) noCall ?_, h2, h3, h5⟩; show cScope2 (codeΩ K.Q (codeAt c S H (e, S1, H1)) c S H) = _; rw [codeΩ_one h1]; cases e <;> first | rfl | exact absurd rfl (h4 _)
abbrev seqPost (K : Kx) (B : Bs) (b : Code) (Θ : Exit → En → Mm → Jm → Prop) : Exit → En → Mm → Jm → Prop := fun e E m J => match e with
 | .normal => WC K B b E m J Θ
 | e => Θ e E m J
theorem WC.seq {a b : Code} (h : WC K B a E m J (seqPost K B b Θ)) : WC K B (.seq a b) E m J Θ := by
 intro S H hS hI; obtain ⟨e, S1, H1, E1, m1, J1, h1, h2, h3, h4⟩ := h S H hS hI; cases e with
 | normal =>
  have h4 : WC K B b E1 m1 J1 Θ := h4; obtain ⟨e', S', H', E', m', J', k1, k2, k3, k4⟩ := h4 S1 H1 h2 h3; exact ⟨e', S', H', E', m', J', CodeR.seq h1 k1, k2, k3, k4⟩
 | exit i => exact ⟨_, S1, H1, E1, m1, J1, CodeR.seq_out h1 (fun q => by cases q), h2, h3, h4⟩
 | goto i => exact ⟨_, S1, H1, E1, m1, J1, CodeR.seq_out h1 (fun q => by cases q), h2, h3, h4⟩
 | ret => exact ⟨_, S1, H1, E1, m1, J1, CodeR.seq_out h1 (fun q => by cases q), h2, h3, h4⟩
 | panic c => exact ⟨_, S1, H1, E1, m1, J1, CodeR.seq_out h1 (fun q => by cases q), h2, h3, h4⟩
 | outgrown => exact ⟨_, S1, H1, E1, m1, J1, CodeR.seq_out h1 (fun q => by cases q), h2, h3, h4⟩
abbrev blockPost (id : Nat) (Θ : Exit → En → Mm → Jm → Prop) : Exit → En → Mm → Jm → Prop := fun e E m J => match e with
 | .exit j => if j = id then Θ .normal E m J else Θ (.exit j) E m J
 | e => Θ e E m J
theorem WC.block {id : Nat} {c : Code} (h : WC K B c E m J (blockPost id Θ)) : WC K B (.block id c) E m J Θ := by
 intro S H hS hI; obtain ⟨e, S1, H1, E1, m1, J1, h1, h2, h3, h4⟩ := h S H hS hI; refine ⟨_, S1, H1, E1, m1, J1, CodeR.block K.hP.mix h1, h2, h3, ?_⟩; cases e with
 | exit j =>
  have h4 : if j = id then Θ .normal E1 m1 J1 else Θ (.exit j) E1 m1 J1 := h4; show Θ (if j = id then .normal else .exit j) E1 m1 J1; split at h4
  ·
   rename_i q; rw [if_pos q]; exact h4
  ·
   rename_i q; rw [if_neg q]; exact h4
 | _ => exact h4
noncomputable def eo (l : List (Nat × Value)) : Operand → Option Value
 | .tmp t => look l t
 | .const v => opdConst v
 | .global _ => none
 | .func f => some (.func (.func f) #[] #[])
theorem eo_opd {E : En} {S : St} (hS : Sat E S) (H : Hp) {x : Operand} {v : Value} (h : eo E.l x = some v) : opd S.T H x = some v := by
 cases x with
 | tmp t => exact hS.get t v h
 | const c => exact h
 | global g => cases h
 | func f => exact h
theorem WC.cond {n : Nat} {ds : Dx} {l : List (Nat × Value)} {x : Operand} {a b : Code} {t : Bool} (hx : eo l x = some (.bool t)) (h1 : t = true → WC K B a ⟨n, ds, l⟩ m J Θ) (h0 : t = false → WC K B b ⟨n, ds, l⟩ m J Θ) : WC K B (.cond x a b) ⟨n, ds, l⟩ m J Θ := by
 intro S H hS hI; cases t with
 | true =>
  obtain ⟨e, S', H', E', m', J', k1, k2, k3, k4⟩ := h1 rfl S H hS hI; exact ⟨e, S', H', E', m', J', CodeR.cond K.hP.mix (eo_opd hS H hx) k1, k2, k3, k4⟩
 | false =>
  obtain ⟨e, S', H', E', m', J', k1, k2, k3, k4⟩ := h0 rfl S H hS hI; exact ⟨e, S', H', E', m', J', CodeR.cond K.hP.mix (eo_opd hS H hx) k1, k2, k3, k4⟩
theorem WC.condT {n : Nat} {ds : Dx} {l : List (Nat × Value)} {x : Operand} {a b : Code} (hx : eo l x = some (.bool true)) (h : WC K B a ⟨n, ds, l⟩ m J Θ) : WC K B (.cond x a b) ⟨n, ds, l⟩ m J Θ := WC.cond hx (fun _ => h) (fun q => by cases q)
theorem WC.condF {n : Nat} {ds : Dx} {l : List (Nat × Value)} {x : Operand} {a b : Code} (hx : eo l x = some (.bool false)) (h : WC K B b ⟨n, ds, l⟩ m J Θ) : WC K B (.cond x a b) ⟨n, ds, l⟩ m J Θ := WC.cond hx (fun q => by cases q) (fun _ => h)
theorem WC.if {n : Nat} {ds : Dx} {l : List (Nat × Value)} {x : Operand} {a b : Code} {p : Prop} [Decidable p] (hx : eo l x = some (.bool (decide p))) (h1 : p → WC K B a ⟨n, ds, l⟩ m J Θ) (h0 : ¬ p → WC K B b ⟨n, ds, l⟩ m J Θ) : WC K B (.cond x a b) ⟨n, ds, l⟩ m J Θ :=
 WC.cond hx (fun q => h1 (of_decide_eq_true q)) (fun q => h0 (of_decide_eq_false q))
def subL (l : List (Nat × Value)) : List (Nat × Value) → Prop
 | [] => True
 | (t, v) :: l' => look l t = some v ∧ subL l l'
theorem subL.look {l : List (Nat × Value)} : ∀ {l' : List (Nat × Value)}, subL l l' → ∀ t v, look l' t = some v → look l t = some v := by
 intro l'; induction l' with
 | nil => intro _ t v q; cases q
 | cons x l' ih =>
  obtain ⟨u, w⟩ := x; intro h t v q; have q2 : (bif Nat.beq t u then some w else Opn.look l' t) = some v := q; cases hb : Nat.beq t u with
  | true =>
   rw [hb, cond_true] at q2; obtain rfl := Nat.eq_of_beq_eq_true hb; injection q2 with q3; rw [← q3]; exact h.1
  | false => rw [hb, cond_false] at q2; exact ih h.2 t v q2
theorem Sat.sub {n : Nat} {ds : Dx} {l l' : List (Nat × Value)} {S : St} (h : Sat ⟨n, ds, l⟩ S) (hl : subL l l') : Sat ⟨n, ds, l'⟩ S := Sat.weak (E := ⟨n, ds, l⟩) h hl.look
theorem WC.weak {c : Code} {n : Nat} {ds : Dx} {l l' : List (Nat × Value)} (hl : subL l l') (hm : m'.Sublist m) (h : WC K B c ⟨n, ds, l'⟩ m' J Θ) : WC K B c ⟨n, ds, l⟩ m J Θ :=
 fun S H hS hI => h S H (hS.sub hl) (hI.sub hm)
theorem WC.loop {α : Type} {c : Code} {n : Nat} {ds : Dx} (env : α → List (Nat × Value)) (mem : α → Mm) (pub : α → Jm) (inv : α → Prop) (meas : α → Nat)
  (hstep : ∀ s, inv s → WC K B c ⟨n, ds, env s⟩ (mem s) (pub s) fun e E m J => match e with
   | .normal => ∃ s' l, inv s' ∧ meas s' < meas s ∧ E = ⟨n, ds, l⟩ ∧ subL l (env s') ∧ (mem s').Sublist m ∧ J = pub s'
   | e => Θ e E m J) (s : α) (hs : inv s) : WC K B (.loop c) ⟨n, ds, env s⟩ (mem s) (pub s) Θ := by
 have key : ∀ (k : Nat) (s : α), meas s = k → inv s → WC K B (.loop c) ⟨n, ds, env s⟩ (mem s) (pub s) Θ := by
  intro k; induction k using Nat.strongRecOn with
  | _ k ih =>
   intro s hk hs S H hS hI; obtain ⟨e, S1, H1, E1, m1, J1, h1, h2, h3, h4⟩ := hstep s hs S H hS hI; cases e with
   | normal =>
    obtain ⟨s', l, g1, g2, rfl, g4, g5, rfl⟩ := h4; obtain ⟨e', S', H', E', m', J', k1, k2, k3, k4⟩ := ih (meas s') (by omega) s' rfl g1 S1 H1 (h2.sub g4) (h3.sub g5); exact ⟨e', S', H', E', m', J', CodeR.loop_next h1 k1, k2, k3, k4⟩
   | exit i => exact ⟨_, S1, H1, E1, m1, J1, CodeR.loop_out h1 (fun q => by cases q), h2, h3, h4⟩
   | goto i => exact ⟨_, S1, H1, E1, m1, J1, CodeR.loop_out h1 (fun q => by cases q), h2, h3, h4⟩
   | ret => exact ⟨_, S1, H1, E1, m1, J1, CodeR.loop_out h1 (fun q => by cases q), h2, h3, h4⟩
   | panic c => exact ⟨_, S1, H1, E1, m1, J1, CodeR.loop_out h1 (fun q => by cases q), h2, h3, h4⟩
   | outgrown => exact ⟨_, S1, H1, E1, m1, J1, CodeR.loop_out h1 (fun q => by cases q), h2, h3, h4⟩
 exact key _ s rfl hs
theorem WC.publish {c : Code} {a : Nat} {b : PB} {x : List Value × TypeId} (hx : b.rowOf = some x) (h : J.le (J.add a x) → WC K B c E m (J.add a x) Θ) : WC K B c E ((a, b) :: m) J Θ := by
 intro S H hS hI; obtain ⟨k1, k2⟩ := hI.publish hx; exact h k2 S H hS k1
def inM (m : Mm) (a : Nat) : Prop := a ∈ ids m
def mkB (mi : Mm) (H : Hp) (J : Jm) : Bs := ⟨inM mi, fun a => a ∈ mi.map Prod.fst, H, J⟩
def Fn (K : Kx) (f : FuncId) (args : List Value) (mi : Mm) (J : Jm) (Post : Value → Mm → Jm → Prop) : Prop :=
 ∀ H, Inv K.g0 (mkB mi H J) J mi H → ∃ v H' J' m', CallR K.Q f args H (.returned v) H' ∧ Inv K.g0 (mkB mi H J) J' m' H' ∧ Post v m' J'
abbrev noOpn (_ : Mm) : Prop := True
theorem Inv.enter {g0 : Nat} {mi mr : Mm} {H : Hp} (h : Inv g0 B J m H) (hp : (mi ++ mr).Perm m) (hno : noOpn mi) : Inv g0 (mkB mi H J) J mi H := by
 have hsub : ∀ x, x ∈ mi → x ∈ m := fun x q => hp.subset (List.mem_append_left _ q); have hnd := (ids_perm hp).nodup_iff.2 h.nd; rw [ids_app, List.nodup_append] at hnd; refine ⟨h.wf, h.glo, Nat.le_refl _, Nat.le_refl _, fun _ _ _ => rfl, fun _ _ => rfl, h.pub, Jm.le.refl _, fun a x q1 q2 => ?_, fun a b q => ?_, fun a b q x hx => ?_, hnd.1⟩
 ·
  have q1 : J a = none := q1; rw [q1] at q2; cases q2
 ·
  obtain ⟨k1, k2, k3, k4⟩ := h.own a b (hsub _ q); refine ⟨?_, .inr (ids_fst q), k3, k4⟩; cases b with
  | row => exact k1
  | map => exact k1
  | loop => exact k1
  | dfr => exact k1
  | opn c e r z =>
   obtain ⟨f, _, f2, f3⟩ := k1; exact ⟨f, .inr ⟨a, r, _, _, _, _, f3, f2, List.mem_map.2 ⟨_, q, rfl⟩⟩, f2, f3⟩
 ·
  obtain ⟨k1, k2, k3⟩ := h.opn a b (hsub _ q) x hx; exact ⟨k1, .inr (ids_mem.2 ⟨_, q, .inr hx⟩), k3⟩
theorem Inv.leave {g0 : Nat} {mi mr : Mm} {H H' : Hp} {J' : Jm} (h : Inv g0 B J m H) (hp : (mi ++ mr).Perm m) (hk : Inv g0 (mkB mi H J) J' m' H') : Inv g0 B J' (m' ++ mr) H' ∧ J.le J' := by
 have hnd := (ids_perm hp).nodup_iff.2 h.nd; rw [ids_app, List.nodup_append] at hnd; have hids : ∀ a, a ∈ ids mi ∨ a ∈ ids mr → a ∈ ids m := fun a q => (ids_perm hp).subset (by rw [ids_app]; exact List.mem_append.2 q); have hmi : ∀ a, inM mi a → B.H0.nx ≤ a ∨ B.X a := fun a q => h.ownI (hids a (.inl q)); have hmr : ∀ a, a ∈ ids mr → a < H.nx ∧ ¬ inM mi a := fun a q => ⟨h.ltI (hids a (.inr q)), fun r => hnd.2.2 _ r _ q rfl⟩; have hkeep : ∀ a, a < H.nx → ¬ inM mi a → H'.mem.get a = H.mem.get a := hk.keep; have hnx : H.nx ≤ H'.nx := hk.nx; have hnf : H.nf ≤ H'.nf := hk.nf; have hle : J.le J' := hk.le; have hfr : ∀ a x, J a = none → J' a = some x → H.nx ≤ a ∨ inM mi a := hk.fresh; have hff : ∀ f, Bs.ff (mkB mi H J) f → B.ff f := fun f q => by
  rcases q with q | ⟨a, r, c, e, z, s, q1, q2, q3⟩
  ·
   exact .inl (Nat.le_trans h.nf q)
  ·
   obtain ⟨⟨a', b⟩, hb1, hb2⟩ := List.mem_map.1 q3; have hb2 : a' = a := hb2; subst hb2; have k := (h.own a' b (hp.subset (List.mem_append_left _ hb1))).1; have q2 : H.mem.get a' = some (.row c e true f z s) := q2; cases b with
   | row => have k := q2.symm.trans k; cases k
   | map => have k := q2.symm.trans k; cases k
   | loop => have k := q2.symm.trans k; cases k
   | dfr => have k := q2.symm.trans k; cases k
   | opn c' e' r' z' =>
    obtain ⟨f', k1, k2, k3⟩ := k; have k := q2.symm.trans k2; injection k with k; injection k with _ _ _ k
    rw [k]; exact k1
 have hJr : ∀ a, a ∈ ids mr → J' a = none := fun a q => by
  cases hj : J' a with
  | none => rfl
  | some x =>
   rcases hfr a x (h.noJI (hids a (.inr q))) hj with r | r
   ·
    have := (hmr a q).1; omega
   ·
    exact absurd r (hmr a q).2
 refine ⟨⟨hk.wf, hk.glo, Nat.le_trans h.nx hnx, Nat.le_trans h.nf hnf, fun a ha hX => ?_, fun f hf => ?_, hk.pub, h.le.trans hle, fun a x q1 q2 => ?_, fun a b q => ?_, fun a b q x hx => ?_, ?_⟩, hle⟩
 ·
  rw [hkeep a (Nat.lt_of_lt_of_le ha h.nx), h.keep a ha hX]; intro r; rcases hmi a r with q | q
  ·
   omega
  ·
   exact hX q
 ·
  rw [show H'.fam.get f = H.fam.get f from hk.keepF f (fun q => hf (hff f q))]; exact h.keepF f hf
 ·
  cases hj : J a with
  | none =>
   rcases hfr a x hj q2 with r | r
   ·
    exact .inl (Nat.le_trans h.nx r)
   ·
    exact hmi a r
  | some y => exact h.fresh a y q1 hj
 ·
  rcases List.mem_append.1 q with q | q
  ·
   obtain ⟨k1, k2, k3, k4⟩ := hk.own a b q; refine ⟨?_, ?_, k3, k4⟩
   ·
    cases b with
    | row => exact k1
    | map => exact k1
    | loop => exact k1
    | dfr => exact k1
    | opn c e r z => obtain ⟨f, f1, f2, f3⟩ := k1; exact ⟨f, hff f f1, f2, f3⟩
   ·
    rcases (show H.nx ≤ a ∨ inM mi a from k2) with r | r
    ·
     exact .inl (Nat.le_trans h.nx r)
    ·
     exact hmi a r
  ·
   obtain ⟨k1, k2, k3, k4⟩ := h.own a b (hp.subset (List.mem_append_right _ q)); have hai := ids_fst q; refine ⟨PB.at_mono k1 (hkeep a (hmr a hai).1 (hmr a hai).2) (fun f l hf => ?_), k2, hJr a hai, k4⟩; rw [show H'.fam.get f = H.fam.get f from hk.keepF f (fun q' => by
    rcases q' with q' | ⟨a', r', _, _, _, _, q1, _, q3⟩
    ·
     exact absurd (h.wf.flt hf) (Nat.not_lt.2 q')
    ·
     have q1 := hf.symm.trans q1; injection q1 with q1; injection q1 with q1 _
     subst q1; obtain ⟨⟨a', b'⟩, hb1, hb2⟩ := List.mem_map.1 q3; have hb2 : a' = a := hb2; subst hb2; exact (hmr a' hai).2 (ids_fst hb1))]; exact hf
 ·
  rcases List.mem_append.1 q with q | q
  ·
   obtain ⟨k1, k2, k3⟩ := hk.opn a b q x hx; refine ⟨k1, ?_, k3⟩; rcases (show H.nx ≤ x ∨ inM mi x from k2) with r | r
   ·
    exact .inl (Nat.le_trans h.nx r)
   ·
    exact hmi x r
  ·
   have hxi : x ∈ ids mr := ids_mem.2 ⟨_, q, .inr hx⟩; obtain ⟨k1, k2, k3⟩ := h.opn a b (hp.subset (List.mem_append_right _ q)) x hx; exact ⟨Nat.lt_of_lt_of_le k1 hnx, k2, hJr x hxi⟩
 ·
  rw [ids_app, List.nodup_append]; refine ⟨hk.nd, hnd.2.1, fun a ha b hb e => ?_⟩; subst e; rcases (show H.nx ≤ a ∨ inM mi a from hk.ownI ha) with r | r
  ·
   have := (hmr a hb).1; omega
  ·
   exact (hmr a hb).2 r
noncomputable def eos (l : List (Nat × Value)) : List Operand → Option (List Value)
 | [] => some []
 | x :: r => match eo l x with
  | some v => (match eos l r with | some vs => some (v :: vs) | none => none)
  | none => none
theorem eos_opds {E : En} {S : St} (hS : Sat E S) (H : Hp) : ∀ {xs : List Operand} {vs : List Value}, eos E.l xs = some vs → opds S.T H xs = some vs := by
 intro xs; induction xs with
 | nil => intro vs h; exact h
 | cons x r ih =>
  intro vs h; simp only [eos] at h; simp only [opds]; cases hx : eo E.l x with
  | none => rw [hx] at h; cases h
  | some v =>
   rw [hx] at h; simp only at h; rw [eo_opd hS H hx]; simp only; cases hr : eos E.l r with
   | none => rw [hr] at h; cases h
   | some ws => rw [hr] at h; simp only at h; rw [ih hr]; exact h
theorem Exec.call {n : Nat} {ds : Dx} {l : List (Nat × Value)} {d : Nat} {c : Call} {x : Operand} {f : FuncId} {first cap : Array Value} {args as : List Value} {mi mr : Mm} {Post : Value → Mm → Jm → Prop}
  (ho : o.op = .call c) (hd : o.dst = some d) (hn : Nat.blt d n = true) (hc : c.callee = .value x) (hx : eo l x = some (.func (.func f) first cap)) (ha : eos l c.args.toList = some args) (has : (first.toList ++ args) ++ cap.toList = as)
  (hp : (mi ++ mr).Perm m) (hno : noOpn mi) (hF : Fn K f as mi J Post) (h : ∀ v m' J', J.le J' → Post v m' J' → Ψ ⟨n, ds, (d, v) :: l⟩ (m' ++ mr) J') : Exec K B o ⟨n, ds, l⟩ m J Ψ := by
 intro S H hS hI; obtain ⟨v, H', J', m', k1, k2, k3⟩ := hF H (hI.enter hp hno); obtain ⟨k4, k5⟩ := hI.leave hp k2; obtain ⟨S1, s1, s2⟩ := hS.put (dst := some d) hn v; refine ⟨noCode, callAt f as H (.returned v, H'), S1, H', _, m' ++ mr, J', ?_, s2, k4, h v m' J' k5 k3⟩; have he : evOp K.P (callΩ K.Q (callAt f as H (.returned v, H'))) (EΩ K.Q noCode (callAt f as H (.returned v, H'))).yld S H o = some (.val v H') := by
  unfold evOp evOpX; simp only [ho]; show opCall K.P _ c = _; unfold opCall; rw [hc]; show evCallee K.P _ _ S.T H c = _; unfold evCallee; rw [eos_opds hS H ha]; simp only [hc]; rw [eo_opd hS H hx]; simp only
  show (match evFn K.P H (.func f) (first.toList ++ args) cap.toList with | some (f, as) => endRes (callΩ K.Q _ f as H) | none => none) = _
  unfold evFn; simp only
  rw [has, callΩ_at k1 (by unfold callAt; rw [if_pos ⟨rfl, rfl, rfl⟩])]; rfl
 rw [he, hd]; show regOk H' (S.put (some d) v) = _; rw [s1]; rfl
noncomputable def argsL : List Value → Nat → List (Nat × Value)
 | [], _ => []
 | v :: l, i => (i, v) :: argsL l (Nat.succ i)
theorem argsL_look : ∀ {vs : List Value} {i t : Nat} {v : Value}, look (argsL vs i) t = some v → i ≤ t ∧ vs[t - i]? = some v := by
 intro vs; induction vs with
 | nil => intro i t v h; cases h
 | cons x l ih =>
  intro i t v h; have q2 : (bif Nat.beq t i then some x else look (argsL l (Nat.succ i)) t) = some v := h; cases hb : Nat.beq t i with
  | true =>
   rw [hb, cond_true] at q2; obtain rfl := Nat.eq_of_beq_eq_true hb; injection q2 with q3
   exact ⟨Nat.le_refl _, by simp [q3]⟩
  | false =>
   rw [hb, cond_false] at q2; obtain ⟨h1, h2⟩ := ih q2; refine ⟨by omega, ?_⟩; rw [show t - i = (t - Nat.succ i) + 1 by omega]; exact h2
theorem argsT_ok : ∀ {vs : List Value} {i n : Nat} {T : Tr Value}, T.has n → i + vs.length ≤ n → ∃ T', argsT vs i T = some T' ∧ T'.has n ∧ ∀ t, T'.get t = if i ≤ t ∧ t < i + vs.length then vs[t - i]? else T.get t := by
 intro vs; induction vs with
 | nil => intro i n T h _; exact ⟨T, rfl, h, fun t => by rw [if_neg (by rw [List.length_nil]; omega)]⟩
 | cons x l ih =>
  intro i n T h hl; rw [List.length_cons] at hl; obtain ⟨y, hy⟩ := h i (by omega); obtain ⟨T1, hT⟩ := Tr.put_of_get (a := x) hy; have h1 : T1.has n := fun t ht => by
   rw [Tr.get_put hT]; split
   ·
    exact ⟨_, rfl⟩
   ·
    exact h t ht
  obtain ⟨T', e1, e2, e3⟩ := ih (i := i + 1) h1 (by omega); refine ⟨T', ?_, e2, fun t => ?_⟩
  ·
   simp only [argsT, Tr.set]; rw [hT]; exact e1
  ·
   rw [e3 t]; by_cases q : i + 1 ≤ t ∧ t < i + 1 + l.length
   ·
    rw [if_pos q, if_pos (by rw [List.length_cons]; omega), show t - i = (t - (i + 1)) + 1 by omega]; rfl
   ·
    rw [if_neg q, Tr.get_put hT]; by_cases q2 : t = i
    ·
     subst q2; rw [if_pos rfl, if_pos (by rw [List.length_cons]; omega)]; simp
    ·
     rw [if_neg q2, if_neg (by rw [List.length_cons]; omega)]
theorem Tr.full_get {α : Type} (a : α) : ∀ (d n : Nat), n + 1 < 2 ^ d → (Tr.full a d).get n = some a := by
 intro d; induction d with
 | zero => intro n h; simp at h
 | succ d ih =>
  intro n h; show (Tr.node (some a) (Tr.full a d) (Tr.full a d)).get n = some a; cases n with
  | zero => rfl
  | succ n =>
   rw [Tr.get_succ]; have : n / 2 + 1 < 2 ^ d := by rw [Nat.pow_succ] at h; omega
   split <;> exact ih _ this
theorem blank_has (n : Nat) : (Cre.blank n).has n := by
 intro t ht; refine ⟨undef, Tr.full_get _ _ _ ?_⟩; unfold floors; have h1 : Nat.succ n < 2 ^ (Nat.log2 (Nat.succ n) + 1) := Nat.lt_log2_self; show t + 1 < 2 ^ (Nat.log2 (Nat.succ n) + 1); omega
inductive Res (P : Program) (E : En) (m : Mm) (J : Jm) : List ResultVar → List Value → Prop
 | nil : Res P E m J [] []
 | tmp {t : Tmp} {v : Value} {rs : List ResultVar} {vs : List Value} : look E.l t = some v → Res P E m J rs vs → Res P E m J (.tmp t :: rs) (v :: vs)
 | cell {t : Tmp} {ty : TypeId} {a : Nat} {cells : List Value} {e : TypeId} {v : Value} {rs : List ResultVar} {vs : List Value} : look E.l t = some (.pointer (some ⟨a, 0, none⟩)) → (a, PB.row cells e) ∈ m → evPart P ty cells 0 = some v → Res P E m J rs vs → Res P E m J (.cell t ty :: rs) (v :: vs)
theorem Res.ev {P : Program} {g0 : Nat} {S : St} {H : Hp} (hS : Sat E S) (hI : Inv g0 B J m H) {rs : List ResultVar} {vs : List Value} (h : Res P E m J rs vs) : evResults P S.T H rs = some vs := by
 induction h with
 | nil => rfl
 | tmp h1 _ ih => simp only [evResults]; rw [hS.get _ _ h1]; simp only; rw [ih]
 | cell h1 h2 h3 _ ih =>
  simp only [evResults]; rw [hS.get _ _ h1]; simp only; have hg := (hI.own _ _ h2).1; have hg : H.mem.get _ = some (.row _ _ false 0 0 false) := hg; unfold evLoad evLoadAt; simp only [hg, h3]; rw [ih]
theorem Fn.of_body {f : FuncId} {fn : Func} {c : Code} {args : List Value} {mi : Mm} {Post : Value → Mm → Jm → Prop} (hf : K.ft.get f = some fn) (hb : fn.body = some c) (hl : Nat.ble args.length fn.ntmps = true)
  (h : ∀ H, WC K (mkB mi H J) c ⟨fn.ntmps, dx0, argsL args 0⟩ mi J fun e E m J' => (e = .normal ∨ e = .ret) ∧ E.ds.ds = [] ∧ ∃ vs m', Res K.P E m J' fn.results.toList vs ∧ m'.Sublist m ∧ Post (oneOrTuple vs) m' J') : Fn K f args mi J Post := by
 intro H hI; obtain ⟨T, a1, a2, a3⟩ := argsT_ok (vs := args) (i := 0) (n := fn.ntmps) (blank_has fn.ntmps) (by have := Nat.le_of_ble_eq_true hl; omega); have hS : Sat ⟨fn.ntmps, dx0, argsL args 0⟩ ⟨T, fn.ntmps, [], false, .run, none⟩ := by
  refine ⟨rfl, rfl, rfl, rfl, rfl, a2, fun t v q => ?_⟩; obtain ⟨_, q2⟩ := argsL_look q; show T.get t = some v; have : t < args.length := by
   rcases Nat.lt_or_ge t args.length with r | r
   ·
    exact r
   ·
    rw [List.getElem?_eq_none (by omega)] at q2; cases q2
  rw [a3, if_pos (by omega)]; exact q2
 obtain ⟨e, S', H', E', m1, J', k1, k2, k3, k4, k5, vs, m', k6, k7, k8⟩ := h H _ H hS hI; refine ⟨oneOrTuple vs, H', J', m', ?_, k3.sub k7, k8⟩; have hds : S'.ds = [] := k2.ds.trans k5; refine CallR.run K.hP hf hb a1 k1 (um := S'.um) ?_; have hr := k6.ev k2 k3; rcases k4 with rfl | rfl
 ·
  show bodyEnd2 S'.um (evLeave K.P _ fn S'.T S'.ds .returning H') = _; rw [hds]; unfold evLeave; rw [hr]; rfl
 ·
  show bodyEnd2 S'.um (evLeave K.P _ fn S'.T S'.ds .returning H') = _; rw [hds]; unfold evLeave; rw [hr]; rfl
end
end Go.Opn

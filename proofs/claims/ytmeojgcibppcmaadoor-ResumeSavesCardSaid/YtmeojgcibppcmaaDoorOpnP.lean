/- A part of the proof of ResumeSaves. -/
import Derived.Test.YtmeojgcibppcmaaDoorOpnO
set_option linter.unusedVariables false
set_option linter.unusedSimpArgs false
namespace Go.Opn
open Go.Cre Go.RowKit
def WN (K : Kx) (B : Bs) (ops : List Oper) (plan : List DStep) (E : En) (m : Mm) (J : Jm) (Φ : En → Mm → Jm → Prop) : Prop :=
 ∀ S H, Sat E S → Inv K.g0 B J m H → ∃ pk : CallEv, (∀ f args H1 r, pk f args H1 = some r → H.nx ≤ H1.nx) ∧ ∃ S' H' E' m' J',
  (∀ pk' : CallEv, (∀ f args H r, pk f args H = some r → pk' f args H = some r) → drawGo K.P (callΩ K.Q pk') (EΩ K.Q noCode pk').yld ops plan S H = some (.ok S' H')) ∧ Sat E' S' ∧ Inv K.g0 B J' m' H' ∧ Φ E' m' J'
section
variable {K : Kx} {B : Bs} {ops : List Oper} {plan : List DStep} {E : En} {m m' : Mm} {J : Jm} {o : Oper} {Φ : En → Mm → Jm → Prop} {Θ : Exit → En → Mm → Jm → Prop}
variable {n : Nat} {ds : Dx} {l : List (Nat × Value)} {d i : Nat}
theorem WN.nil (h : Φ E m J) : WN K B ops [] E m J Φ := fun S H hS hI => ⟨noCall, (fun _ _ _ _ q => by cases q), S, H, E, m, J, fun _ _ => rfl, hS, hI, h⟩
theorem WN.val {v : Value} (hi : nth ops i = some o) (hg : o.guard = none) (hd : o.dst = some d) (hn : Nat.blt d n = true) (hv : Val K B o n ds l m J v) (h : WN K B ops plan ⟨n, ds, (d, v) :: l⟩ m J Φ) : WN K B ops (.val i :: plan) ⟨n, ds, l⟩ m J Φ := by
 intro S H hS hI; obtain ⟨S1, s1, s2⟩ := hS.put (dst := some d) hn v; obtain ⟨pk, p1, S', H', E', m', J', h1, h2, h3, h4⟩ := h S1 H s2 hI; refine ⟨pk, p1, S', H', E', m', J', fun pk' q => ?_, h2, h3, h4⟩; show onOp ops i (valStep K.P _ _ ops S H (drawGo K.P _ _ ops plan)) = _; unfold onOp; rw [hi]; show valStep K.P _ _ ops S H (drawGo K.P _ _ ops plan) o = _; unfold valStep guardB; rw [hg]; show valRes S H o.dst (drawGo K.P _ _ ops plan) (evOp K.P _ _ S H o) = _; rw [hv _ _ S H hS hI, hd]; show (bif Nat.beq H.nx H.nx then stepPut (drawGo K.P _ _ ops plan) H (S.put (some d) v) else none) = _; rw [Nat.beq_refl, cond_true, s1]; exact h1 pk' q
theorem WN.call {c : Call} {x : Operand} {f : FuncId} {first cap : Array Value} {args as : List Value} {Post : Value → Mm → Jm → Prop}
  (hi : nth ops i = some o) (hg : o.guard = none) (ho : o.op = .call c) (hd : o.dst = some d) (hn : Nat.blt d n = true) (hc : c.callee = .value x) (hx : eo l x = some (.func (.func f) first cap)) (ha : eos l c.args.toList = some args) (has : (first.toList ++ args) ++ cap.toList = as)
  (hF : Fn K f as [] J Post) (hmk : ∀ v m' J', Post v m' J' → ∃ a b, (a, b) ∈ m') (h : ∀ v m' J', J.le J' → Post v m' J' → WN K B ops plan ⟨n, ds, (d, v) :: l⟩ (m' ++ m) J' Φ) : WN K B ops (.chn i :: plan) ⟨n, ds, l⟩ m J Φ := by
 intro S H hS hI; obtain ⟨v, H', J', m', k1, k2, k3⟩ := hF H (hI.enter (mi := []) (mr := m) (.refl _) trivial); obtain ⟨k4, k5⟩ := hI.leave (mi := []) (mr := m) (.refl _) k2; have hnx : H.nx < H'.nx := by
  obtain ⟨a, b, hab⟩ := hmk _ _ _ k3; have h1 := k2.lt hab; rcases (k2.own a b hab).2.1 with q | q
  ·
   have q : H.nx ≤ a := q; omega
  ·
   cases q
 obtain ⟨S1, s1, s2⟩ := hS.put (dst := some d) hn v; obtain ⟨pk, p1, S', H'', E', m'', J'', h1, h2, h3, h4⟩ := h v m' J' k5 k3 S1 H' s2 k4; refine ⟨fun f' args' H1 => if H1.nx = H.nx then callAt f as H (.returned v, H') f' args' H1 else pk f' args' H1, fun f' args' H1 r q => ?_, S', H'', E', m'', J'', fun pk' q => ?_, h2, h3, h4⟩
 ·
  simp only at q; split at q
  ·
   omega
  ·
   have := p1 f' args' H1 r q; omega
 ·
  have hcall : pk' f as H = some (.returned v, H') := q f as H _ (by simp only [if_true]; unfold callAt; rw [if_pos ⟨rfl, rfl, rfl⟩]); have hrest : ∀ f' args' H1 r, pk f' args' H1 = some r → pk' f' args' H1 = some r := fun f' args' H1 r hr => q f' args' H1 r (by
   simp only
   rw [if_neg (by have := p1 f' args' H1 r hr; omega)]; exact hr)
  show onOp ops i (fun o => chnStep (drawGo K.P _ _ ops plan) (one K.P _ _ ops S H o)) = _; unfold onOp; rw [hi]; show chnStep (drawGo K.P _ _ ops plan) (one K.P _ _ ops S H o) = _; unfold one guardB; rw [hg]; show chnStep (drawGo K.P _ _ ops plan) (oneAfter S H o.dst (evOp K.P _ _ S H o)) = _; have he : evOp K.P (callΩ K.Q pk') (EΩ K.Q noCode pk').yld S H o = some (.val v H') := by
   unfold evOp evOpX; simp only [ho]; show opCall K.P _ c = _; unfold opCall; rw [hc]; show evCallee K.P _ _ S.T H c = _; unfold evCallee; rw [eos_opds hS H ha]; simp only [hc]; rw [eo_opd hS H hx]; simp only
   show (match evFn K.P H (.func f) (first.toList ++ args) cap.toList with | some (f, as) => endRes (callΩ K.Q _ f as H) | none => none) = _
   unfold evFn; simp only
   rw [has, callΩ_at k1 hcall]; rfl
  rw [he, hd]; show chnStep (drawGo K.P _ _ ops plan) (regOk H' (S.put (some d) v)) = _; rw [s1]; exact h1 pk' hrest
theorem WN.chk {is : List Nat} (hc : ChkAll K B ops n ds l m J is) (h : WN K B ops plan ⟨n, ds, l⟩ m J Φ) : WN K B ops (.chk is :: plan) ⟨n, ds, l⟩ m J Φ := by
 intro S H hS hI; obtain ⟨pk, p1, S', H', E', m', J', h1, h2, h3, h4⟩ := h S H hS hI; refine ⟨pk, p1, S', H', E', m', J', fun pk' q => ?_, h2, h3, h4⟩; show chkStep K.P _ _ ops S H (drawGo K.P _ _ ops plan) is = _; unfold chkStep; rw [ChkAll.all hS hI hc, cond_true]; exact h1 pk' q
theorem WN.pub {a : Nat} {b : PB} {x : List Value × TypeId} (hx : b.rowOf = some x) (h : J.le (J.add a x) → (J.add a x) a = some x → WN K B ops plan E m (J.add a x) Φ) : WN K B ops plan E ((a, b) :: m) J Φ := by
 intro S H hS hI; obtain ⟨k1, k2⟩ := hI.publish hx; exact h k2 (Jm.add_at _ _ _) S H hS k1
noncomputable def litL (P : Program) (l : List (Nat × Value)) (key : TypeId) : List Oper → Nat → Option (List (Nat × Value × Value))
 | [], _ => some []
 | o :: r, i => match o.op with
  | .insert _ _ k x => (match eo l k, eo l x, litL P l key r (Nat.succ i) with
   | some kv, some xv, some r => bif keyOk P key kv false then some ((i, kv, xv) :: r) else none
   | _, _, _ => none)
  | _ => litL P l key r (Nat.succ i)
theorem litL_go {P : Program} {S : St} {key : TypeId} (hS : Sat ⟨n, ds, l⟩ S) : ∀ {os : List Oper} {i : Nat} {es : List (Nat × Value × Value)}, litL P l key os i = some es → litGo P S.T key os i = some es := by
 intro os; induction os with
 | nil => intro i es h; exact h
 | cons o r ih =>
  intro i es h; unfold litL at h; unfold litGo; split at h
  ·
   rename_i k x ho; simp only [ho]; cases hk : eo l k with
   | none => rw [hk] at h; cases h
   | some kv =>
    cases hx : eo l x with
    | none => rw [hk, hx] at h; cases h
    | some xv =>
     cases hr : litL P l key r (Nat.succ i) with
     | none => rw [hk, hx, hr] at h; cases h
     | some rs =>
      rw [hk, hx, hr] at h; rw [opdT_eo hS hk, opdT_eo hS hx, ih hr]; exact h
  ·
   rename_i hno; split
   ·
    rename_i k x ho; exact absurd ho (hno _ _ _ _)
   ·
    exact ih h
def WA (K : Kx) (B : Bs) (ops rest : List Oper) (E : En) (m : Mm) (J : Jm) (Φ : En → Mm → Jm → Prop) : Prop :=
 ∀ S H, Sat E S → Inv K.g0 B J m H → ∃ S' H' E' m' J', (∀ call yld, evOps K.P call yld ops rest S H = some (.ok S' H')) ∧ Sat E' S' ∧ Inv K.g0 B J' m' H' ∧ Φ E' m' J'
theorem WA.nil (h : Φ E m J) : WA K B ops [] E m J Φ := fun S H hS hI => ⟨S, H, E, m, J, fun _ _ => rfl, hS, hI, h⟩
theorem WA.val {rest : List Oper} {v : Value} (hg : o.guard = none) (hd : o.dst = some d) (hn : Nat.blt d n = true) (hv : Val K B o n ds l m J v) (h : WA K B ops rest ⟨n, ds, (d, v) :: l⟩ m J Φ) : WA K B ops (o :: rest) ⟨n, ds, l⟩ m J Φ := by
 intro S H hS hI; obtain ⟨S1, s1, s2⟩ := hS.put (dst := some d) hn v; obtain ⟨S', H', E', m', J', h1, h2, h3, h4⟩ := h S1 H s2 hI; refine ⟨S', H', E', m', J', fun call yld => ?_, h2, h3, h4⟩; show evOpsNext (evOps K.P call yld ops rest) (one K.P call yld ops S H o) = _; have : one K.P call yld ops S H o = some (.ok S1 H) := by
  unfold one guardB; rw [hg]; show oneAfter S H o.dst (evOp K.P call yld S H o) = _; rw [hv _ _ S H hS hI, hd]; show regOk H (S.put (some d) v) = _; rw [s1]; rfl
 rw [this]; exact h1 call yld
theorem WC.lit {id : Nat} {a : Array Oper} {L : Cre.Lit} {key elem : TypeId} {kd : TypeDesc} (hL : litOf a.toList = some L) (hok : litOk L a.toList = true) (hm : K.P.underlying L.ty = some (.map key elem)) (hkd : K.P.underlying key = some kd) (hp : planOf (litOps L (a.toList.take L.n) 0) = plan)
  (h : WN K B (litOps L (a.toList.take L.n) 0) plan ⟨n, ds, l⟩ m J fun E1 m1 J1 => ∃ l1 x es, E1 = ⟨n, ds, l1⟩ ∧ look l1 L.t = some (.map (some x)) ∧ litL K.P l1 key (a.toList.take L.n) 0 = some es ∧ apartK K.P key kd es = true ∧ Nat.blt L.t n = true ∧
   ∀ b, WA K B a.toList (a.toList.drop L.n) ⟨n, ds, (L.t, .map (some b)) :: l1⟩ ((b, .map (litEs es) es.length) :: m1) J1 fun E m J => Θ .normal E m J) : WC K B (.region id a true) ⟨n, ds, l⟩ m J Θ := by
 intro S H hS hI; obtain ⟨pk, _, S1, H1, E1, m1, J1, h1, h2, h3, l1, x, es, rfl, q2, q3, q4, q5, q6⟩ := h S H hS hI; obtain ⟨H2, e2, hI2⟩ := h3.allocMap (litEs es) es.length; obtain ⟨S2, s1, s2⟩ := h2.put (dst := some L.t) q5 (.map (some H1.nx)); obtain ⟨S', H', E', m', J', r1, r2, r3, r4⟩ := q6 H1.nx S2 H2 s2 hI2; refine ⟨.normal, S', H', E', m', J', CodeR.of_ev K.hP.mix noCode pk ?_, r2, r3, r4⟩; show regExit (evDrawA K.P (EΩ K.Q noCode pk).call (EΩ K.Q noCode pk).yld a.toList S H) = _; rw [EΩ_call]; unfold evDrawA; rw [hL]; show regExit (evLit K.P (callΩ K.Q pk) (EΩ K.Q noCode pk).yld a.toList S H L) = _; unfold evLit; rw [hok, cond_true, hm]; simp only [hkd]; rw [hp, h1 pk (fun _ _ _ _ q => q)]
 show regExit (match S1.T.get L.t with
  | some (.map (some _)) => litEnd K.P (callΩ K.Q pk) (EΩ K.Q noCode pk).yld a.toList L S1 H1 key kd (litGo K.P S1.T key (a.toList.take L.n) 0)
  | _ => none) = _
 rw [h2.get _ _ q2]; simp only
 rw [litL_go h2 q3]; show regExit (bif apartK K.P key kd es then litEnd2 K.P (callΩ K.Q pk) (EΩ K.Q noCode pk).yld a.toList L S1 (H1.new (.map (litEs es) es.length)) else none) = _; rw [q4, cond_true, e2]; show regExit (litEnd3 K.P (callΩ K.Q pk) (EΩ K.Q noCode pk).yld a.toList L H2 (S1.put (some L.t) (.map (some H1.nx)))) = _; rw [s1]; show regExit (evOps K.P (callΩ K.Q pk) (EΩ K.Q noCode pk).yld a.toList (a.toList.drop L.n) S2 H2) = _; rw [r1]; rfl
end
section
variable {K : Kx} {B : Bs} {ops : List Oper} {plan : List DStep} {F : List (FuncId × List Value)} {m m' : Mm} {J : Jm} {o : Oper} {Φ : En → Mm → Jm → Prop}
variable {n : Nat} {ds : Dx} {l : List (Nat × Value)} {d i : Nat}
theorem pairsT_eps {S : St} (hS : Sat ⟨n, ds, l⟩ S) : ∀ {xs : List (Nat × Operand)} {vs : List (Nat × Value)}, eps l xs = some vs → pairsT S.T xs = some vs := by
 intro xs; induction xs with
 | nil => intro vs h; exact h
 | cons x r ih =>
  obtain ⟨i, x⟩ := x; intro vs h; simp only [eps] at h; simp only [pairsT]; cases hx : eo l x with
  | none => rw [hx] at h; cases h
  | some v =>
   rw [hx] at h; simp only at h; rw [opdT_eo hS hx]; simp only; cases hr : eps l r with
   | none => rw [hr] at h; cases h
   | some ws => rw [hr] at h; simp only at h; rw [ih hr]; exact h
theorem WD.buildSlice {t e : TypeId} {k sz : Nat} {zs cells : List Value} {ps : Array (Nat × Operand)} {vs : List (Nat × Value)} (hi : nth ops i = some o) (hg : o.guard = none) (ho : o.op = .buildSlice t k ps) (hd : o.dst = some d) (hn : Nat.blt d n = true) (hp : eps l ps.toList = some vs) (ht : slT K.P t = some (e, sz, zs)) (hk : (Nat.ble k 100000 && Nat.ble (k * sz) 100000) = true) (hf : fillA (fun i => some (i * sz, sz)) (zeroCellsL zs k) vs = some cells) (h1 : cells.all oneCell = true)
  (h : ∀ a, WD K B ops plan F ⟨n, ds, (d, .slice (some ⟨a, 0, none⟩) k k) :: l⟩ ((a, .row cells e) :: m) J Φ) : WD K B ops (.alc i :: plan) F ⟨n, ds, l⟩ m J Φ := by
 obtain ⟨hu, hsz, by_, z, hby, hz, b1, rfl, b2, b3, b4⟩ := slT_eq ht; refine WD.alc (b := .row cells e false 0 0 false) (p := .row cells e) (kv := .slc k k) hi hg hd hn (fun S hS => ?_) (fun H a q => q) (fun c e r z q => by cases q) h; rw [ho]; simp only [allocOf]; rw [pairsT_eps hS hp]; simp only [allocBuild, hu, hsz, hz]; rw [hk, b4, show Nat.beq z.cells.toList.length sz = true by rw [b2]; exact Nat.beq_refl _]; simp only [Bool.and_self, cond_true, hf, h1]
theorem Acc.form {e : TypeId} {sz k : Nat} {v : Value} {cells : List Value} {mo : Mm} (h : Acc e sz v k cells mo) : ∃ b c, v = .slice b k c := by
 cases h with
 | nil => exact ⟨_, _, rfl⟩
 | emp a => exact ⟨_, _, rfl⟩
 | opn h => exact ⟨_, _, rfl⟩
 | cap => exact ⟨_, _, rfl⟩
end
end Go.Opn

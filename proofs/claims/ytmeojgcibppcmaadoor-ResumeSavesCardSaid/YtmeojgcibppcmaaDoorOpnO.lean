/- A part of the proof of ResumeSaves. -/
import Derived.Test.YtmeojgcibppcmaaDoorOpnM
set_option linter.unusedVariables false
set_option linter.unusedSimpArgs false
namespace Go.Opn
open Go.Cre Go.RowKit
structure Grow (H H' : Hp) : Prop where
 wf : Wf H'
 glo : H'.glo = H.glo
 nx : H.nx ≤ H'.nx
 nf : H.nf ≤ H'.nf
 keep : ∀ a, a < H.nx → H'.mem.get a = H.mem.get a
 keepF : ∀ f, f < H.nf → H'.fam.get f = H.fam.get f
theorem Grow.inv {g0 : Nat} {H H' : Hp} {J : Jm} (h : Inv g0 (mkB [] H J) J [] H) (hg : Grow H H') : Inv g0 (mkB [] H J) J [] H' :=
 ⟨hg.wf, hg.glo.trans h.glo, hg.nx, hg.nf, fun a ha _ => hg.keep a ha, fun f hf => hg.keepF f (Bs.ff_lt hf), fun a c e hj => by
  obtain ⟨o, f, z, s, q⟩ := h.pub a c e hj; exact ⟨o, f, z, s, (hg.keep a (h.wf.lt q)).trans q⟩, h.le, (fun a x q1 q2 => by have q1 : J a = none := q1; rw [q1] at q2; cases q2), (fun a b hb => by cases hb), (fun a b hb => by cases hb), .nil⟩
theorem Grow.of {g0 : Nat} {H H' : Hp} {J : Jm} (h : Inv g0 (mkB [] H J) J [] H) (hk : Inv g0 (mkB [] H J) J [] H') : Grow H H' :=
 ⟨hk.wf, hk.glo.trans h.glo.symm, hk.nx, hk.nf, fun a ha => hk.keep a ha (fun q => by cases q), fun f hf => hk.keepF f (fun q => by
  rcases q with q | ⟨_, _, _, _, _, _, _, _, q⟩
  ·
   exact absurd hf (Nat.not_lt.2 q)
  ·
   cases q)⟩
open Classical in
noncomputable def canonH (K : Kx) (f : FuncId) (as : List Value) (v : Value) (H : Hp) : Hp := if h : ∃ H', CallR K.Q f as H (.returned v) H' ∧ Grow H H' then Classical.choose h else H
abbrev Reg := List (FuncId × List Value × Value)
noncomputable def rlook : Reg → FuncId → Option (List Value × Value)
 | [], _ => none
 | (g, as, v) :: R, f => bif Nat.beq f g then some (as, v) else rlook R f
open Classical in
noncomputable def regPk (K : Kx) (R : Reg) : CallEv := fun f args H => match rlook R f with
 | some (as, v) => if args = as then some (.returned v, canonH K f args v H) else none
 | none => none
def WR (K : Kx) (B : Bs) (R : Reg) (ops : List Oper) (plan : List DStep) (E : En) (m : Mm) (J : Jm) (Φ : En → Mm → Jm → Prop) : Prop :=
 ∀ S H, Sat E S → Inv K.g0 B J m H → ∃ S' H' E' m' J', drawGo K.P (callΩ K.Q (regPk K R)) (EΩ K.Q noCode (regPk K R)).yld ops plan S H = some (.ok S' H') ∧ Sat E' S' ∧ Inv K.g0 B J' m' H' ∧ Φ E' m' J'
section
variable {K : Kx} {B : Bs} {R : Reg} {ops : List Oper} {plan : List DStep} {E : En} {m m' : Mm} {J : Jm} {o : Oper} {Φ : En → Mm → Jm → Prop} {Θ : Exit → En → Mm → Jm → Prop}
variable {n : Nat} {ds : Dx} {l : List (Nat × Value)} {d i g : Nat} {want b : Bool}
theorem WC.drawR (R : Reg) {id : Nat} {a : Array Oper} (hl : litOf a.toList = none) (hok : drawOk a.toList = true) (hp : planOf a.toList = plan) (h : WR K B R a.toList plan E m J fun E m J => Θ .normal E m J) : WC K B (.region id a true) E m J Θ := by
 intro S H hS hI; obtain ⟨S', H', E', m', J', h1, h2, h3, h4⟩ := h S H hS hI; refine ⟨.normal, S', H', E', m', J', CodeR.of_ev K.hP.mix noCode (regPk K R) ?_, h2, h3, h4⟩; show regExit (evDrawA K.P (EΩ K.Q noCode (regPk K R)).call (EΩ K.Q noCode (regPk K R)).yld a.toList S H) = _; rw [EΩ_call]; unfold evDrawA; rw [hl]; show regExit (evDraw K.P (callΩ K.Q (regPk K R)) (EΩ K.Q noCode (regPk K R)).yld a.toList S H) = _; unfold evDraw; rw [hok, cond_true, hp, h1]; rfl
theorem WR.nil (h : Φ E m J) : WR K B R ops [] E m J Φ := fun S H hS hI => ⟨S, H, E, m, J, rfl, hS, hI, h⟩
theorem WR.split (hb : look l d = some (.bool b)) (h1 : b = true → WR K B R ops plan ⟨n, ds, (d, .bool true) :: l⟩ m J Φ) (h0 : b = false → WR K B R ops plan ⟨n, ds, (d, .bool false) :: l⟩ m J Φ) : WR K B R ops plan ⟨n, ds, l⟩ m J Φ := by
 intro S H hS hI; have key : ∀ c : Bool, b = c → Sat ⟨n, ds, (d, .bool c) :: l⟩ S := fun c e => by
  subst e; refine ⟨hS.n, hS.ds, hS.dfd, hS.um, hS.rnd, hS.has, fun t v q => ?_⟩; have q2 : (bif Nat.beq t d then some (Value.bool b) else look l t) = some v := q; cases hq : Nat.beq t d with
  | true => rw [hq, cond_true] at q2; obtain rfl := Nat.eq_of_beq_eq_true hq; rw [← q2]; exact hS.get _ _ hb
  | false => rw [hq, cond_false] at q2; exact hS.get t v q2
 cases b with
 | true => exact h1 rfl S H (key true rfl) hI
 | false => exact h0 rfl S H (key false rfl) hI
theorem WR.val_of {v : Value} (hi : nth ops i = some o) (hB : ∀ S, Sat ⟨n, ds, l⟩ S → guardB ops S.T o = some true) (hd : o.dst = some d) (hn : Nat.blt d n = true) (hv : Val K B o n ds l m J v) (h : WR K B R ops plan ⟨n, ds, (d, v) :: l⟩ m J Φ) : WR K B R ops (.val i :: plan) ⟨n, ds, l⟩ m J Φ := by
 intro S H hS hI; obtain ⟨S1, s1, s2⟩ := hS.put (dst := some d) hn v; obtain ⟨S', H', E', m', J', h1, h2, h3, h4⟩ := h S1 H s2 hI; refine ⟨S', H', E', m', J', ?_, h2, h3, h4⟩; show onOp ops i (valStep K.P _ _ ops S H (drawGo K.P _ _ ops plan)) = _; unfold onOp; rw [hi]; show valStep K.P _ _ ops S H (drawGo K.P _ _ ops plan) o = _; unfold valStep; rw [hB S hS]; show valRes S H o.dst (drawGo K.P _ _ ops plan) (evOp K.P _ _ S H o) = _; rw [hv _ _ S H hS hI, hd]; show (bif Nat.beq H.nx H.nx then stepPut (drawGo K.P _ _ ops plan) H (S.put (some d) v) else none) = _; rw [Nat.beq_refl, cond_true, s1]; exact h1
theorem WR.val_no (hi : nth ops i = some o) (hB : ∀ S, Sat ⟨n, ds, l⟩ S → guardB ops S.T o = some false) (hd : o.dst = some d) (hn : Nat.blt d n = true) (h : WR K B R ops plan ⟨n, ds, (d, undef) :: l⟩ m J Φ) : WR K B R ops (.val i :: plan) ⟨n, ds, l⟩ m J Φ := by
 intro S H hS hI; obtain ⟨S1, s1, s2⟩ := hS.put (dst := some d) hn undef; obtain ⟨S', H', E', m', J', h1, h2, h3, h4⟩ := h S1 H s2 hI; refine ⟨S', H', E', m', J', ?_, h2, h3, h4⟩; show onOp ops i (valStep K.P _ _ ops S H (drawGo K.P _ _ ops plan)) = _; unfold onOp; rw [hi]; show valStep K.P _ _ ops S H (drawGo K.P _ _ ops plan) o = _; unfold valStep; rw [hB S hS]; show stepPut (drawGo K.P _ _ ops plan) H (S.put o.dst undef) = _; rw [hd, s1]; exact h1
theorem gb_none (hg : o.guard = none) : ∀ S, Sat ⟨n, ds, l⟩ S → guardB ops S.T o = some true := fun S hS => by unfold guardB; rw [hg]
theorem gb_yes (hg : guardT ops o = some (g, want)) (hb : look l g = some (.bool b)) (hw : (b == want) = true) : ∀ S, Sat ⟨n, ds, l⟩ S → guardB ops S.T o = some true := fun S hS => by rw [guardT_eq hg (hS.get g _ hb), hw]
theorem gb_no (hg : guardT ops o = some (g, want)) (hb : look l g = some (.bool b)) (hw : (b == want) = false) : ∀ S, Sat ⟨n, ds, l⟩ S → guardB ops S.T o = some false := fun S hS => by rw [guardT_eq hg (hS.get g _ hb), hw]
theorem gb_un (hg : guardT ops o = some (g, want)) (hb : look l g = some undef) : ∀ S, Sat ⟨n, ds, l⟩ S → guardB ops S.T o = some false := fun S hS => guardT_no hg (hS.get g _ hb)
theorem WR.val {v : Value} (hi : nth ops i = some o) (hg : o.guard = none) (hd : o.dst = some d) (hn : Nat.blt d n = true) (hv : Val K B o n ds l m J v) (h : WR K B R ops plan ⟨n, ds, (d, v) :: l⟩ m J Φ) : WR K B R ops (.val i :: plan) ⟨n, ds, l⟩ m J Φ := WR.val_of hi (gb_none hg) hd hn hv h
theorem WR.valY {v : Value} (hi : nth ops i = some o) (hg : guardT ops o = some (g, want)) (hb : look l g = some (.bool b)) (hw : (b == want) = true) (hd : o.dst = some d) (hn : Nat.blt d n = true) (hv : Val K B o n ds l m J v) (h : WR K B R ops plan ⟨n, ds, (d, v) :: l⟩ m J Φ) : WR K B R ops (.val i :: plan) ⟨n, ds, l⟩ m J Φ := WR.val_of hi (gb_yes hg hb hw) hd hn hv h
theorem WR.valN (hi : nth ops i = some o) (hg : guardT ops o = some (g, want)) (hb : look l g = some (.bool b)) (hw : (b == want) = false) (hd : o.dst = some d) (hn : Nat.blt d n = true) (h : WR K B R ops plan ⟨n, ds, (d, undef) :: l⟩ m J Φ) : WR K B R ops (.val i :: plan) ⟨n, ds, l⟩ m J Φ := WR.val_no hi (gb_no hg hb hw) hd hn h
theorem WR.valU (hi : nth ops i = some o) (hg : guardT ops o = some (g, want)) (hb : look l g = some undef) (hd : o.dst = some d) (hn : Nat.blt d n = true) (h : WR K B R ops plan ⟨n, ds, (d, undef) :: l⟩ m J Φ) : WR K B R ops (.val i :: plan) ⟨n, ds, l⟩ m J Φ := WR.val_no hi (gb_un hg hb) hd hn h
theorem WR.call_of {c : Call} {x : Operand} {f : FuncId} {first cap : Array Value} {args as : List Value} {v : Value}
  (hi : nth ops i = some o) (hB : ∀ S, Sat ⟨n, ds, l⟩ S → guardB ops S.T o = some true) (ho : o.op = .call c) (hd : o.dst = some d) (hn : Nat.blt d n = true) (hc : c.callee = .value x) (hx : eo l x = some (.func (.func f) first cap)) (ha : eos l c.args.toList = some args) (has : (first.toList ++ args) ++ cap.toList = as)
  (hr : rlook R f = some (as, v)) (hF : Fn K f as [] J (fun w m' J' => w = v ∧ m' = [] ∧ J' = J)) (h : WR K B R ops plan ⟨n, ds, (d, v) :: l⟩ m J Φ) : WR K B R ops (.chn i :: plan) ⟨n, ds, l⟩ m J Φ := by
 intro S H hS hI; have hE := hI.enter (mi := []) (mr := m) (.refl _) trivial; have hex : ∃ H', CallR K.Q f as H (.returned v) H' ∧ Grow H H' := by
  obtain ⟨w, H', J', m', k1, k2, rfl, rfl, rfl⟩ := hF H hE; exact ⟨H', k1, Grow.of hE k2⟩
 have hcan : canonH K f as v H = Classical.choose hex := by unfold canonH; rw [dif_pos hex]
 obtain ⟨c1, c2⟩ := Classical.choose_spec hex; rw [← hcan] at c1 c2; obtain ⟨k4, k5⟩ := hI.leave (mi := []) (mr := m) (.refl _) (c2.inv hE); obtain ⟨S1, s1, s2⟩ := hS.put (dst := some d) hn v; obtain ⟨S', H'', E', m'', J'', h1, h2, h3, h4⟩ := h S1 (canonH K f as v H) s2 k4; refine ⟨S', H'', E', m'', J'', ?_, h2, h3, h4⟩; show onOp ops i (fun o => chnStep (drawGo K.P _ _ ops plan) (one K.P _ _ ops S H o)) = _; unfold onOp; rw [hi]; show chnStep (drawGo K.P _ _ ops plan) (one K.P _ _ ops S H o) = _; unfold one; rw [hB S hS]; show chnStep (drawGo K.P _ _ ops plan) (oneAfter S H o.dst (evOp K.P _ _ S H o)) = _; have he : evOp K.P (callΩ K.Q (regPk K R)) (EΩ K.Q noCode (regPk K R)).yld S H o = some (.val v (canonH K f as v H)) := by
  unfold evOp evOpX; simp only [ho]; show opCall K.P _ c = _; unfold opCall; rw [hc]; show evCallee K.P _ _ S.T H c = _; unfold evCallee; rw [eos_opds hS H ha]; simp only [hc]; rw [eo_opd hS H hx]; simp only
  show (match evFn K.P H (.func f) (first.toList ++ args) cap.toList with | some (f, as) => endRes (callΩ K.Q _ f as H) | none => none) = _
  unfold evFn; simp only
  rw [has, callΩ_at c1 (by unfold regPk; rw [hr]; simp only [if_true])]; rfl
 rw [he, hd]; show chnStep (drawGo K.P _ _ ops plan) (regOk _ (S.put (some d) v)) = _; rw [s1]; exact h1
theorem WR.call {c : Call} {x : Operand} {f : FuncId} {first cap : Array Value} {args as : List Value} {v : Value}
  (hi : nth ops i = some o) (hg : o.guard = none) (ho : o.op = .call c) (hd : o.dst = some d) (hn : Nat.blt d n = true) (hc : c.callee = .value x) (hx : eo l x = some (.func (.func f) first cap)) (ha : eos l c.args.toList = some args) (has : (first.toList ++ args) ++ cap.toList = as)
  (hr : rlook R f = some (as, v)) (hF : Fn K f as [] J (fun w m' J' => w = v ∧ m' = [] ∧ J' = J)) (h : WR K B R ops plan ⟨n, ds, (d, v) :: l⟩ m J Φ) : WR K B R ops (.chn i :: plan) ⟨n, ds, l⟩ m J Φ := WR.call_of hi (gb_none hg) ho hd hn hc hx ha has hr hF h
theorem Chk.of {v u : Value} (hi : nth ops i = some o) (hB : ∀ S, Sat ⟨n, ds, l⟩ S → guardB ops S.T o = some true) (hd : o.dst = some d) (hv : Val K B o n ds l m J v) (hu : look l d = some u) (he : veq 8 v u = true) : Chk K B ops n ds l m J i := by
 intro call yld S H hS hI; unfold chkOne; rw [hi]; show chkOne2 K.P call yld ops S H o (guardB ops S.T o) = true; rw [hB S hS]; show chkVal H.nx S.T o.dst (evOp K.P call yld S H o) = true; rw [hv _ _ S H hS hI, hd]; show (Nat.beq H.nx H.nx && (match S.T.get d with | some u => veq 8 v u | none => false)) = true
 rw [Nat.beq_refl, hS.get d u hu]; simpa using he
theorem Chk.valY {v u : Value} (hi : nth ops i = some o) (hg : guardT ops o = some (g, want)) (hb : look l g = some (.bool b)) (hw : (b == want) = true) (hd : o.dst = some d) (hv : Val K B o n ds l m J v) (hu : look l d = some u) (he : veq 8 v u = true) : Chk K B ops n ds l m J i := Chk.of hi (gb_yes hg hb hw) hd hv hu he
theorem Chk.no (hi : nth ops i = some o) (hB : ∀ S, Sat ⟨n, ds, l⟩ S → guardB ops S.T o = some false) : Chk K B ops n ds l m J i := by
 intro call yld S H hS hI; unfold chkOne; rw [hi]; show chkOne2 K.P call yld ops S H o (guardB ops S.T o) = true; rw [hB S hS]; rfl
theorem WR.chk {is : List Nat} (hc : ChkAll K B ops n ds l m J is) (h : WR K B R ops plan ⟨n, ds, l⟩ m J Φ) : WR K B R ops (.chk is :: plan) ⟨n, ds, l⟩ m J Φ := by
 intro S H hS hI; obtain ⟨S', H', E', m', J', h1, h2, h3, h4⟩ := h S H hS hI; refine ⟨S', H', E', m', J', ?_, h2, h3, h4⟩; show chkStep K.P _ _ ops S H (drawGo K.P _ _ ops plan) is = _; unfold chkStep; rw [ChkAll.all hS hI hc, cond_true]; exact h1
theorem veq_bool (b : Bool) (n : Nat) : veq (n + 1) (.bool b) (.bool b) = true := by cases b <;> rfl
theorem veq_str (s : ByteArray) (n : Nat) : veq (n + 1) (.string s) (.string s) = true := by
 show decide (s.data.toList = s.data.toList) = true; simp
theorem IntsR.get {b0 : Option Addr} {n0 c0 : Nat} {N : List Int} (h : IntsR J (.slice b0 n0 c0) N) : n0 = N.length ∧ (b0 = none → N = []) ∧ (0 < N.length → ∃ a off cells e, b0 = some ⟨a, off, none⟩ ∧ J a = some (cells, e) ∧ ∀ (i : Int), 0 ≤ i → i < N.length → ∃ x, N[i.toNat]? = some x ∧ nth cells (off + i.toNat * 1) = some (.int .i64 x)) := by
 obtain ⟨b, c, h1, h2, h3⟩ := h.inv; injection h1 with h4 h5 h6
 subst h4; subst h5; subst h6; exact ⟨rfl, h2, h3⟩
end
end Go.Opn

/- A part of the proof of ResumeSaves. -/
import Derived.Test.YtmeojgcibppcmaaDoorCreT
import Derived.Orders
set_option linter.unusedVariables false
set_option linter.unusedSimpArgs false
namespace Go.Cre
open Go.RowKit
section
variable {P : Program} {H : Hp} {S S' : St} {o : Oper} {call : CallEv} {yld : YieldEv}
theorem opds_congr {T T' : Tr Value} : ∀ {l : List Operand}, (∀ x ∈ l, opd T' H x = opd T H x) → opds T' H l = opds T H l := by
 intro l; induction l with
 | nil => intro _; rfl
 | cons x l ih =>
  intro h; simp only [opds]; rw [h x (by simp), ih fun y hy => h y (by simp [hy])]
theorem pairs_congr {T T' : Tr Value} : ∀ {l : List (Nat × Operand)}, (∀ x ∈ l.map (·.2), opd T' H x = opd T H x) → pairs T' H l = pairs T H l := by
 intro l; induction l with
 | nil => intro _; rfl
 | cons x l ih =>
  intro h; obtain ⟨i, x⟩ := x; simp only [pairs]; rw [h x (by simp), ih fun y hy => h y (by simp at hy ⊢; exact .inr hy)]
theorem evPlain_congr {T T' : Tr Value} (hs : ∀ cs b, o.op ≠ .select cs b) (h : ∀ x ∈ o.op.operands, opd T' H x = opd T H x) : evPlain P T' H o = evPlain P T H o := by
 unfold evPlain; rw [opds_congr fun x hx => h x (by simpa using hx)]; have : execOp (opdOr T' H) o = execOp (opdOr T H) o := execOp_congr o hs fun x hx => by unfold opdOr; rw [h x hx]
 rw [this]
theorem optOpd_congr {T T' : Tr Value} {x : Option Operand} (h : ∀ y ∈ x.toArray, opd T' H y = opd T H y) : optOpd T' H x = optOpd T H x := by
 cases x with
 | none => rfl
 | some x => simp only [optOpd]; rw [h x (by simp)]
theorem evOp_congr (hr : S'.rnd = S.rnd) (h : ∀ x ∈ o.op.operands, opd S'.T H x = opd S.T H x) : evOp P call yld S' H o = evOp P call yld S H o := by
 have hpl : (∀ cs b, o.op ≠ .select cs b) → evPlain P S'.T H o = evPlain P S.T H o := fun hs => evPlain_congr hs h; unfold evOp evOpX; obtain ⟨dst, op, type, pos, after, guard⟩ := o; simp only at h hpl; cases op <;> simp only [Op.operands] at h <;> simp only
 case move x => show vRes (opd S'.T H x) H = vRes (opd S.T H x) H; rw [h x (by simp)]
 case assign x => show vRes (opd S'.T H x) H = vRes (opd S.T H x) H; rw [h x (by simp)]
 case pick c a b => 
  show opPick2 P _ a b (opd S'.T H c) = opPick2 P _ a b (opd S.T H c); rw [h c (by simp)]; have e1 : opd S'.T H a = opd S.T H a := h a (by simp); have e2 : opd S'.T H b = opd S.T H b := h b (by simp); unfold opPick2 Cx.opd; simp only [e1, e2]
 case alloc e => rfl
 case box e x => show opBox2 P _ e (opd S'.T H x) = opBox2 P _ e (opd S.T H x); rw [h x (by simp)]; rfl
 case build t ps => show opBuild2 P _ t (pairs S'.T H ps.toList) = opBuild2 P _ t (pairs S.T H ps.toList); rw [pairs_congr fun x hx => h x (by simpa using hx)]; rfl
 case buildSlice t n ps => show opBuildSlice2 P _ t n (pairs S'.T H ps.toList) = opBuildSlice2 P _ t n (pairs S.T H ps.toList); rw [pairs_congr fun x hx => h x (by simpa using hx)]; rfl
 case insert t m k v => show opMapUpdate2 P _ t (opd S'.T H m) (opd S'.T H k) (opd S'.T H v) = opMapUpdate2 P _ t (opd S.T H m) (opd S.T H k) (opd S.T H v); rw [h m (by simp), h k (by simp), h v (by simp)]; rfl
 case load t a => show opLoad2 P _ t (opd S'.T H a) = opLoad2 P _ t (opd S.T H a); rw [h a (by simp)]; rfl
 case store t a v => show opStore2 P _ t (opd S'.T H a) (opd S'.T H v) = opStore2 P _ t (opd S.T H a) (opd S.T H v); rw [h a (by simp), h v (by simp)]; rfl
 case nilCheck x => show opNilCheck2 P _ (opd S'.T H x) = opNilCheck2 P _ (opd S.T H x); rw [h x (by simp)]; rfl
 case binOp op t x y u =>
  have hp := hpl (fun _ _ => by simp); show opBin2 P _ op t (opd S'.T H x) (opd S'.T H y) = opBin2 P _ op t (opd S.T H x) (opd S.T H y); rw [h x (by simp), h y (by simp)]; have hslow : ∀ a b, opBinSlow P ⟨call, yld, S', H, ⟨dst, .binOp op t x y u, type, pos, after, guard⟩⟩ op t a b = opBinSlow P ⟨call, yld, S, H, ⟨dst, .binOp op t x y u, type, pos, after, guard⟩⟩ op t a b := fun a b => by
   unfold opBinSlow Cx.plainly; simp only [hp]; unfold opBinEq; rfl
  unfold opBin2 opBin3 Cx.plainly; simp only [hp, hslow]
 case unOp op t x =>
  have hp := hpl (fun _ _ => by simp); exact hp
 case convert s d x =>
  have hp := hpl (fun _ _ => by simp); show opConvert2 P _ s d (opd S'.T H x) = opConvert2 P _ s d (opd S.T H x); rw [h x (by simp)]; unfold opConvert2 Cx.plainly; simp only [hp]
 case makeInterface t x => show opMakeInterface2 P _ t (opd S'.T H x) _ = opMakeInterface2 P _ t (opd S.T H x) _; rw [h x (by simp)]; rfl
 case makeFunc fn first captured =>
  show opMakeFunc2 P _ fn (opds S'.T H first.toList) (opds S'.T H captured.toList) = opMakeFunc2 P _ fn (opds S.T H first.toList) (opds S.T H captured.toList); rw [opds_congr fun x hx => h x (by simp at hx; simp [hx]), opds_congr fun x hx => h x (by simp at hx; simp [hx])]; rfl
 case makeMap t r => cases r <;> rfl
 case makeSlice t l c => show opMakeSlice2 P _ t (opd S'.T H l) (opd S'.T H c) = opMakeSlice2 P _ t (opd S.T H l) (opd S.T H c); rw [h l (by simp), h c (by simp)]; rfl
 case slice t x lo hi mx =>
  have hp := hpl (fun _ _ => by simp); cases mx with
  | some m => rfl
  | none =>
   show opSlice2 P _ t (opd S'.T H x) (optOpd S'.T H lo) (optOpd S'.T H hi) = opSlice2 P _ t (opd S.T H x) (optOpd S.T H lo) (optOpd S.T H hi); rw [h x (by simp), optOpd_congr (x := lo) fun y hy => h y (by simp at hy; simp [hy]), optOpd_congr (x := hi) fun y hy => h y (by simp at hy; simp [hy])]; unfold opSlice2 Cx.plainly; simp only [hp]
 case fieldAddr t x f => show opFieldAddr2 P _ t f (opd S'.T H x) = opFieldAddr2 P _ t f (opd S.T H x); rw [h x (by simp)]; rfl
 case field t x f => show opField2 P _ f (opd S'.T H x) _ = opField2 P _ f (opd S.T H x) _; rw [h x (by simp)]; rfl
 case indexAddr t x i => show opIndexAddr2 P _ t (opd S'.T H x) (opd S'.T H i) = opIndexAddr2 P _ t (opd S.T H x) (opd S.T H i); rw [h x (by simp), h i (by simp)]; rfl
 case index t x i => show opIndex2 P _ (opd S'.T H x) (opd S'.T H i) _ = opIndex2 P _ (opd S.T H x) (opd S.T H i) _; rw [h x (by simp), h i (by simp)]; rfl
 case lookup t x i ok => show opLookup2 P _ t ok (opd S'.T H x) (opd S'.T H i) = opLookup2 P _ t ok (opd S.T H x) (opd S.T H i); rw [h x (by simp), h i (by simp)]; rfl
 case mapUpdate t m k v => show opMapUpdate2 P _ t (opd S'.T H m) (opd S'.T H k) (opd S'.T H v) = opMapUpdate2 P _ t (opd S.T H m) (opd S.T H k) (opd S.T H v); rw [h m (by simp), h k (by simp), h v (by simp)]; rfl
 case typeAssert x t a ok => show opTypeAssert2 P _ a ok (opd S'.T H x) = opTypeAssert2 P _ a ok (opd S.T H x); rw [h x (by simp)]; rfl
 case extract x ix => show opExtract2 P _ ix (opd S'.T H x) = opExtract2 P _ ix (opd S.T H x); rw [h x (by simp)]; rfl
 case call c =>
  have hp := hpl (fun _ _ => by simp); have hargs : opds S'.T H c.args.toList = opds S.T H c.args.toList := opds_congr fun x hx => h x (by simp [Call.operands, Array.mem_toList_iff.1 hx]); show opCall P _ c = opCall P _ c; unfold opCall; cases hc : c.callee with
  | builtin b =>
   simp only
   unfold evBuiltin; simp only [hargs, hp]
  | value f =>
   have hf : opd S'.T H f = opd S.T H f := h f (by simp [Call.operands, hc]); simp only
   unfold evCallee; simp only [hargs, hc, hf]
  | invoke r m =>
   have hf : opd S'.T H r = opd S.T H r := h r (by simp [Call.operands, hc]); simp only
   unfold evCallee; simp only [hargs, hc, hf]
 case defer c =>
  have hargs : opds S'.T H c.args.toList = opds S.T H c.args.toList := opds_congr fun x hx => h x (by simp [Call.operands, Array.mem_toList_iff.1 hx]); show opDefer P _ c = opDefer P _ c; unfold opDefer evDefer; simp only [hr, hargs]; cases hc : c.callee with
  | builtin b => rfl
  | value f =>
   have hf : opd S'.T H f = opd S.T H f := h f (by simp [Call.operands, hc]); simp only [hf]
  | invoke r m =>
   have hf : opd S'.T H r = opd S.T H r := h r (by simp [Call.operands, hc]); simp only [hf]
 case panic x => show opPanic2 P _ (opd S'.T H x) = opPanic2 P _ (opd S.T H x); rw [h x (by simp)]; rfl
end
end Go.Cre
namespace Go.Cre
open Go.RowKit
section
variable {P : Program} {H H' : Hp} {S S' : St} {o : Oper} {call : CallEv} {yld : YieldEv} {v : Value}
theorem vRes_same {x : Option Value} (he : vRes x H = some (.val v H')) : H' = H := by
 cases x with
 | none => cases he
 | some x => have he : some (OpRes.val x H) = some (.val v H') := he; injection he with he; injection he with _ he; exact he.symm
theorem evPlain_same {T : Tr Value} (he : evPlain P T H o = some (.val v H')) : H' = H := by
 unfold evPlain at he; cases h1 : opds T H o.op.operands.toList with
 | none => rw [h1] at he; cases he
 | some vs =>
  rw [h1] at he; cases h2 : vs.all plain with
  | false => simp only [h2] at he; cases he
  | true =>
   simp only [h2, cond_true] at he; cases h3 : evPure P (execOp (opdOr T H) o) with
   | none => rw [h3] at he; cases he
   | some r =>
    rw [h3] at he; cases r with
    | value u =>
     simp only at he; cases h4 : plain u with
     | false => rw [h4] at he; cases he
     | true => rw [h4] at he; injection he with he; injection he with _ he; exact he.symm
    | skip => injection he with he; cases he
    | _ => cases he
theorem orElse_same {a b : Option OpRes} (ha : a = some (.val v H') → H' = H) (hb : b = some (.val v H') → H' = H) (he : orElse a b = some (.val v H')) : H' = H := by
 cases a with
 | none => exact hb he
 | some a => exact ha he
theorem retInt_same {n : Int} {k : IntKind} (he : forceInt n (retInt H k) = some (.val v H')) : H' = H := by
 rcases n with (_ | m) | (_ | m) <;> (injection he with he; injection he with _ he; exact he.symm)
theorem retBool_same {b : Bool} (he : retBool H b = some (.val v H')) : H' = H := by
 cases b <;> (injection he with he; injection he with _ he; exact he.symm)
theorem bif_same {b : Bool} {u : Value} (h : (bif b then none else some (OpRes.val u H)) = some (.val v H')) : H' = H := by
 cases b <;> simp at h; exact h.2.symm
theorem evOp_same (hc : isChain0 o.op = false) (ha : isAllocOp o.op = false) (he : evOp P call yld S H o = some (.val v H')) (hnx : H'.nx = H.nx) : H' = H := by
 unfold evOp evOpX at he; obtain ⟨dst, op, type, pos, after, guard⟩ := o; have hpl : ∀ o', evPlain P S.T H o' = some (.val v H') → H' = H := fun o' q => evPlain_same q; cases op <;> simp only [isChain0, isAllocOp] at hc ha <;> simp only at he
 case move x => exact vRes_same (x := opd S.T H x) he
 case assign x => exact vRes_same (x := opd S.T H x) he
 case pick c a b =>
  have he : opPick2 P _ a b (opd S.T H c) = _ := he; unfold opPick2 at he; split at he
  ·
   exact vRes_same he
  ·
   exact vRes_same he
  ·
   cases he
 case alloc => cases ha
 case box => cases ha
 case build t ps =>
  have he : opBuild2 P _ t (pairs S.T H ps.toList) = _ := he; unfold opBuild2 at he; split at he
  ·
   exact vRes_same he
  ·
   cases he
 case buildSlice => cases ha
 case load t a =>
  have he : opLoad2 P _ t (opd S.T H a) = _ := he; unfold opLoad2 at he; split at he
  ·
   exact vRes_same he
  ·
   cases he
 case nilCheck x =>
  have he : opNilCheck2 P _ (opd S.T H x) = _ := he; unfold opNilCheck2 at he; split at he <;> first | (injection he with he; injection he with _ he; exact he.symm) | cases he
 case binOp op t x y u =>
  have he : opBin2 P _ op t (opd S.T H x) (opd S.T H y) = _ := he; have hslow : ∀ X : Cx, X.H = H → X.S = S → ∀ a b, opBinSlow P X op t a b = some (.val v H') → H' = H := fun X hX hS a b q => by
   unfold opBinSlow at q; refine orElse_same (fun q => ?_) (fun q => ?_) q
   ·
    unfold Cx.plainly at q; rw [hX, hS] at q; exact hpl _ q
   ·
    unfold opBinEq at q; split at q
    ·
     split at q
     ·
      injection q with q; injection q with _ q; rw [← q, hX]
     ·
      cases q
    ·
     split at q
     ·
      injection q with q; injection q with _ q; rw [← q, hX]
     ·
      cases q
    ·
     cases q
  unfold opBin2 at he; split at he
  ·
   unfold opBin3 at he; rename_i k a l b _ _; cases hk : kindEq k l with
   | false => rw [hk, cond_false] at he; exact hslow _ (by rfl) (by rfl) _ _ he
   | true =>
    rw [hk, cond_true] at he; unfold intBin at he; split at he <;> first | exact retInt_same he | exact retBool_same he | exact hpl _ he
  ·
   exact hslow _ (by rfl) (by rfl) _ _ he
  ·
   cases he
 case unOp op t x => exact hpl _ he
 case convert s d x =>
  have he : opConvert2 P _ s d (opd S.T H x) = _ := he; unfold opConvert2 at he; split at he
  ·
   cases he
  ·
   rename_i s0 _; cases hv : evStrBytes P H s d s0 with
   | none => rw [hv] at he; exact hpl _ he
   | some p =>
    obtain ⟨u, H1⟩ := p; rw [hv] at he; have he : some (OpRes.val u H1) = some (.val v H') := he; injection he with he; injection he with _ he; subst he
    have := evStrBytes_nx hv; omega
  ·
   exact vRes_same he
  ·
   exact vRes_same he
  ·
   split at he
   ·
    exact retInt_same he
   ·
    exact hpl _ he
  ·
   exact hpl _ he
 case makeInterface t x =>
  have he : opMakeInterface2 P _ t (opd S.T H x) (P.underlying t) = _ := he; unfold opMakeInterface2 at he; split at he <;> first | (injection he with he; injection he with _ he; exact he.symm) | cases he
 case makeFunc fn first captured =>
  have he : opMakeFunc2 P _ fn (opds S.T H first.toList) (opds S.T H captured.toList) = _ := he; unfold opMakeFunc2 at he; split at he
  ·
   split at he
   ·
    cases he
   ·
    injection he with he; injection he with _ he; exact he.symm
  ·
   cases he
 case makeMap => cases ha
 case makeSlice => cases ha
 case slice t x lo hi mx =>
  cases mx with
  | some m => cases he
  | none =>
   have he : opSlice2 P _ t (opd S.T H x) (optOpd S.T H lo) (optOpd S.T H hi) = _ := he; unfold opSlice2 at he; split at he
   ·
    exact orElse_same (fun q => vRes_same q) (fun q => hpl _ q) he
   ·
    cases he
 case fieldAddr t x f =>
  have he : opFieldAddr2 P _ t f (opd S.T H x) = _ := he; unfold opFieldAddr2 at he; split at he
  ·
   exact vRes_same he
  ·
   cases he
 case field t x f =>
  have he : opField2 P _ f (opd S.T H x) (P.underlying t) = _ := he; unfold opField2 at he; split at he
  ·
   split at he
   ·
    exact vRes_same he
   ·
    cases he
  ·
   cases he
 case indexAddr t x i =>
  have he : opIndexAddr2 P _ t (opd S.T H x) (opd S.T H i) = _ := he; unfold opIndexAddr2 at he; split at he
  ·
   exact vRes_same he
  ·
   cases he
 case index t x i =>
  have he : opIndex2 P _ (opd S.T H x) (opd S.T H i) (P.underlying t) = _ := he; unfold opIndex2 at he; split at he
  ·
   split at he
   ·
    exact vRes_same he
   ·
    cases he
  ·
   split at he
   ·
    split at he
    ·
     exact retInt_same he
    ·
     cases he
   ·
    cases he
  ·
   cases he
 case lookup t x i ok =>
  have he : opLookup2 P _ t ok (opd S.T H x) (opd S.T H i) = _ := he; unfold opLookup2 at he; split at he
  ·
   exact vRes_same he
  ·
   cases he
 case typeAssert x t a ok =>
  have he : opTypeAssert2 P _ a ok (opd S.T H x) = _ := he; unfold opTypeAssert2 at he; split at he
  ·
   exact vRes_same he
  ·
   cases he
 case extract x ix =>
  have he : opExtract2 P _ ix (opd S.T H x) = _ := he; unfold opExtract2 at he; split at he
  ·
   exact vRes_same he
  ·
   cases he
 case call c =>
  have he : opCall P _ c = _ := he; obtain ⟨callee, args, argTypes⟩ := c; unfold opCall at he; cases callee with
  | value f => cases hc
  | invoke r m => cases hc
  | builtin b =>
   simp only at he hc; unfold evBuiltin at he; split at he
   ·
    cases he
   ·
    cases b <;> simp only at hc <;> first | cases hc | skip
    all_goals simp only at he
    all_goals first
     | exact hpl _ he
     | skip
    all_goals (
     split at he
     all_goals first
      | contradiction
      | exact hpl _ he
      | (cases he; done)
      | (cases he; rfl)
      | skip
     all_goals (
      split at he
      all_goals first
       | contradiction
       | exact hpl _ he
       | (cases he; done)
       | (cases he; rfl)
       | exact bif_same he
       | (split at he <;> first | (cases he; done) | exact retInt_same he)
       | (split at he <;> first | (cases he; done) | (cases he; rfl))))
 all_goals first | (cases hc; done) | (cases he; done)
end
end Go.Cre

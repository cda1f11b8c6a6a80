/- A part of a verified evaluator of closed calls: see YthfgeapiahhjlaaGreatDoorCreZ. -/
import Derived.Test.YthfgeapiahhjlaaGreatDoorCreW
import Derived.Orders
set_option linter.unusedVariables false
set_option linter.unusedSimpArgs false
namespace Go.Cre
open Go.RowKit

section
variable {P : Program} {H : Hp} {S S' : St} {o : Oper} {call : CallEv} {yld : YieldEv}

theorem opds_congr {T T' : Tr Value} : ∀ {l : List Operand}, (∀ x ∈ l, opd T' H x = opd T H x) → opds T' H l = opds T H l := by
  intro l
  induction l with
  | nil => intro _; rfl
  | cons x l ih =>
    intro h
    simp only [opds]
    rw [h x (by simp), ih fun y hy => h y (by simp [hy])]

theorem pairs_congr {T T' : Tr Value} : ∀ {l : List (Nat × Operand)}, (∀ x ∈ l.map (·.2), opd T' H x = opd T H x) → pairs T' H l = pairs T H l := by
  intro l
  induction l with
  | nil => intro _; rfl
  | cons x l ih =>
    intro h
    obtain ⟨i, x⟩ := x
    simp only [pairs]
    rw [h x (by simp), ih fun y hy => h y (by simp at hy ⊢; exact .inr hy)]

theorem evPlain_congr {T T' : Tr Value} (hs : ∀ cs b, o.op ≠ .select cs b) (h : ∀ x ∈ o.op.operands, opd T' H x = opd T H x) : evPlain P T' H o = evPlain P T H o := by
  unfold evPlain
  rw [opds_congr fun x hx => h x (by simpa using hx)]
  have : execOp (opdOr T' H) o = execOp (opdOr T H) o := execOp_congr o hs fun x hx => by unfold opdOr; rw [h x hx]
  rw [this]

theorem optOpd_congr {T T' : Tr Value} {x : Option Operand} (h : ∀ y ∈ x.toArray, opd T' H y = opd T H y) : optOpd T' H x = optOpd T H x := by
  cases x with
  | none => rfl
  | some x => simp only [optOpd]; rw [h x (by simp)]

theorem evOp_congr (hr : S'.rnd = S.rnd) (h : ∀ x ∈ o.op.operands, opd S'.T H x = opd S.T H x) : evOp P call yld S' H o = evOp P call yld S H o := by
  have hpl : (∀ cs b, o.op ≠ .select cs b) → evPlain P S'.T H o = evPlain P S.T H o := fun hs => evPlain_congr hs h
  unfold evOp evOpX
  obtain ⟨dst, op, type, pos, after, guard⟩ := o
  simp only at h hpl
  cases op <;> simp only [Op.operands] at h <;> simp only
  case move x => show vRes (opd S'.T H x) H = vRes (opd S.T H x) H; rw [h x (by simp)]
  case assign x => show vRes (opd S'.T H x) H = vRes (opd S.T H x) H; rw [h x (by simp)]
  case pick c a b => 
    show opPick2 P _ a b (opd S'.T H c) = opPick2 P _ a b (opd S.T H c)
    rw [h c (by simp)]
    have e1 : opd S'.T H a = opd S.T H a := h a (by simp)
    have e2 : opd S'.T H b = opd S.T H b := h b (by simp)
    unfold opPick2 Cx.opd
    simp only [e1, e2]
  case alloc e => rfl
  case box e x => show opBox2 P _ e (opd S'.T H x) = opBox2 P _ e (opd S.T H x); rw [h x (by simp)]; rfl
  case build t ps => show opBuild2 P _ t (pairs S'.T H ps.toList) = opBuild2 P _ t (pairs S.T H ps.toList); rw [pairs_congr fun x hx => h x (by simpa using hx)]; rfl
  case buildSlice t n ps => show opBuildSlice2 P _ t n (pairs S'.T H ps.toList) = opBuildSlice2 P _ t n (pairs S.T H ps.toList); rw [pairs_congr fun x hx => h x (by simpa using hx)]; rfl
  case insert t m k v => show opMapUpdate2 P _ t (opd S'.T H m) (opd S'.T H k) (opd S'.T H v) = opMapUpdate2 P _ t (opd S.T H m) (opd S.T H k) (opd S.T H v); rw [h m (by simp), h k (by simp), h v (by simp)]; rfl
  case load t a => show opLoad2 P _ t (opd S'.T H a) = opLoad2 P _ t (opd S.T H a); rw [h a (by simp)]; rfl
  case store t a v => show opStore2 P _ t (opd S'.T H a) (opd S'.T H v) = opStore2 P _ t (opd S.T H a) (opd S.T H v); rw [h a (by simp), h v (by simp)]; rfl
  case nilCheck x => show opNilCheck2 P _ (opd S'.T H x) = opNilCheck2 P _ (opd S.T H x); rw [h x (by simp)]; rfl
  case binOp op t x y u =>
    have hp := hpl (fun _ _ => by simp)
    show opBin2 P _ op t (opd S'.T H x) (opd S'.T H y) = opBin2 P _ op t (opd S.T H x) (opd S.T H y)
    rw [h x (by simp), h y (by simp)]
    have hslow : ∀ a b, opBinSlow P ⟨call, yld, S', H, ⟨dst, .binOp op t x y u, type, pos, after, guard⟩⟩ op t a b = opBinSlow P ⟨call, yld, S, H, ⟨dst, .binOp op t x y u, type, pos, after, guard⟩⟩ op t a b := fun a b => by
      unfold opBinSlow Cx.plainly
      simp only [hp]
      unfold opBinEq
      rfl
    unfold opBin2 opBin3 Cx.plainly
    simp only [hp, hslow]
  case unOp op t x =>
    have hp := hpl (fun _ _ => by simp)
    exact hp
  case convert s d x =>
    have hp := hpl (fun _ _ => by simp)
    show opConvert2 P _ s d (opd S'.T H x) = opConvert2 P _ s d (opd S.T H x)
    rw [h x (by simp)]
    unfold opConvert2 Cx.plainly
    simp only [hp]
  case makeInterface t x => show opMakeInterface2 P _ t (opd S'.T H x) _ = opMakeInterface2 P _ t (opd S.T H x) _; rw [h x (by simp)]; rfl
  case makeFunc fn first captured =>
    show opMakeFunc2 P _ fn (opds S'.T H first.toList) (opds S'.T H captured.toList) = opMakeFunc2 P _ fn (opds S.T H first.toList) (opds S.T H captured.toList)
    rw [opds_congr fun x hx => h x (by simp at hx; simp [hx]), opds_congr fun x hx => h x (by simp at hx; simp [hx])]; rfl
  case makeMap t r => cases r <;> rfl
  case makeSlice t l c => show opMakeSlice2 P _ t (opd S'.T H l) (opd S'.T H c) = opMakeSlice2 P _ t (opd S.T H l) (opd S.T H c); rw [h l (by simp), h c (by simp)]; rfl
  case slice t x lo hi mx =>
    have hp := hpl (fun _ _ => by simp)
    cases mx with
    | some m => rfl
    | none =>
      show opSlice2 P _ t (opd S'.T H x) (optOpd S'.T H lo) (optOpd S'.T H hi) = opSlice2 P _ t (opd S.T H x) (optOpd S.T H lo) (optOpd S.T H hi)
      rw [h x (by simp), optOpd_congr (x := lo) fun y hy => h y (by simp at hy; simp [hy]), optOpd_congr (x := hi) fun y hy => h y (by simp at hy; simp [hy])]
      unfold opSlice2 Cx.plainly
      simp only [hp]
  case fieldAddr t x f => show opFieldAddr2 P _ t f (opd S'.T H x) = opFieldAddr2 P _ t f (opd S.T H x); rw [h x (by simp)]; rfl
  case field t x f => show opField2 P _ f (opd S'.T H x) _ = opField2 P _ f (opd S.T H x) _; rw [h x (by simp)]; rfl
  case indexAddr t x i => show opIndexAddr2 P _ t (opd S'.T H x) (opd S'.T H i) = opIndexAddr2 P _ t (opd S.T H x) (opd S.T H i); rw [h x (by simp), h i (by simp)]; rfl
  case index t x i => show opIndex2 P _ (opd S'.T H x) (opd S'.T H i) _ = opIndex2 P _ (opd S.T H x) (opd S.T H i) _; rw [h x (by simp), h i (by simp)]; rfl
  case lookup t x i ok => show opLookup2 P _ t ok (opd S'.T H x) (opd S'.T H i) = opLookup2 P _ t ok (opd S.T H x) (opd S.T H i); rw [h x (by simp), h i (by simp)]; rfl
  case mapUpdate t m k v => show opMapUpdate2 P _ t (opd S'.T H m) (opd S'.T H k) (opd S'.T H v) = opMapUpdate2 P _ t (opd S.T H m) (opd S.T H k) (opd S.T H v); rw [h m (by simp), h k (by simp), h v (by simp)]; rfl
  case typeAssert x t a ok => show opTypeAssert2 P _ a ok (opd S'.T H x) = opTypeAssert2 P _ a ok (opd S.T H x); rw [h x (by simp)]; rfl
  case extract x ix => show opExtract2 P _ ix (opd S'.T H x) = opExtract2 P _ ix (opd S.T H x); rw [h x (by simp)]; rfl
  case call c =>
    have hp := hpl (fun _ _ => by simp)
    have hargs : opds S'.T H c.args.toList = opds S.T H c.args.toList := opds_congr fun x hx => h x (by simp [Call.operands, Array.mem_toList_iff.1 hx])
    show opCall P _ c = opCall P _ c
    unfold opCall
    cases hc : c.callee with
    | builtin b =>
      simp only
      unfold evBuiltin
      simp only [hargs, hp]
    | value f =>
      have hf : opd S'.T H f = opd S.T H f := h f (by simp [Call.operands, hc])
      simp only
      unfold evCallee
      simp only [hargs, hc, hf]
    | invoke r m =>
      have hf : opd S'.T H r = opd S.T H r := h r (by simp [Call.operands, hc])
      simp only
      unfold evCallee
      simp only [hargs, hc, hf]
  case defer c =>
    have hargs : opds S'.T H c.args.toList = opds S.T H c.args.toList := opds_congr fun x hx => h x (by simp [Call.operands, Array.mem_toList_iff.1 hx])
    show opDefer P _ c = opDefer P _ c
    unfold opDefer evDefer
    simp only [hr, hargs]
    cases hc : c.callee with
    | builtin b => rfl
    | value f =>
      have hf : opd S'.T H f = opd S.T H f := h f (by simp [Call.operands, hc])
      simp only [hf]
    | invoke r m =>
      have hf : opd S'.T H r = opd S.T H r := h r (by simp [Call.operands, hc])
      simp only [hf]
  case panic x => show opPanic2 P _ (opd S'.T H x) = opPanic2 P _ (opd S.T H x); rw [h x (by simp)]; rfl
end
end Go.Cre

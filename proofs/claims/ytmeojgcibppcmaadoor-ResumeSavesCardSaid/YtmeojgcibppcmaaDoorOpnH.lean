/- A part of the proof of ResumeSaves. -/
import Derived.Test.YtmeojgcibppcmaaDoorOpnE
import Derived.Laws.Strings
set_option linter.unusedVariables false
set_option linter.unusedSimpArgs false
namespace Go.Opn
open Go.Cre Go.RowKit
section
variable {K : Kx} {B : Bs} {o : Oper} {n : Nat} {ds : Dx} {l : List (Nat × Value)} {m m' : Mm} {J : Jm} {Ψ : En → Mm → Jm → Prop} {d : Nat}
theorem evPure_bind {P : Program} {α β : Type} {s : Sem α} {a : α} {f : α → Sem β} (h : evPure P s = some a) : evPure P (s >>= f) = evPure P (f a) := by
 show evPure P (Sem.bind s f) = _; induction s with
 | pure b => simp only [evPure, Option.some.injEq] at h; subst h; rfl
 | program k ih => exact ih P (by simpa [evPure] using h)
 | mark m k ih => exact ih (by simpa [evPure] using h)
 | _ => simp [evPure] at h
theorem evPure_under {P : Program} {t : TypeId} {dsc : TypeDesc} (h : P.underlying t = some dsc) : evPure P (underlying t) = some dsc := by
 have : evPure P (underlying t) = evPure P (match P.underlying t with | some d => pure d | none => stuck "no such type") := by
  rfl
 rw [this, h]; rfl
theorem eo_or {E : En} {S : St} (hS : Sat E S) (H : Hp) {x : Operand} {v : Value} (h : eo E.l x = some v) : opdOr S.T H x = v := by
 unfold opdOr; rw [eo_opd hS H h]
theorem plain1 {x : Operand} {a v : Value} {S : St} {H : Hp} (hS : Sat ⟨n, ds, l⟩ S) (hops : o.op.operands.toList = [x]) (hx : eo l x = some a) (ha : plain a = true) (he : evPure K.P (execOp (opdOr S.T H) o) = some (.value v)) (hv : plain v = true) : evPlain K.P S.T H o = some (.val v H) := by
 unfold evPlain; rw [hops]; have : opds S.T H [x] = some [a] := by simp only [opds]; rw [eo_opd hS H hx]
 rw [this]; simp only [List.all_cons, List.all_nil, ha, Bool.and_self, cond_true, he, hv]
theorem plain2 {x y : Operand} {a b v : Value} {S : St} {H : Hp} (hS : Sat ⟨n, ds, l⟩ S) (hops : o.op.operands.toList = [x, y]) (hx : eo l x = some a) (hy : eo l y = some b) (ha : plain a = true) (hb : plain b = true) (he : evPure K.P (execOp (opdOr S.T H) o) = some (.value v)) (hv : plain v = true) : evPlain K.P S.T H o = some (.val v H) := by
 unfold evPlain; rw [hops]; have : opds S.T H [x, y] = some [a, b] := by simp only [opds]; rw [eo_opd hS H hx, eo_opd hS H hy]
 rw [this]; simp only [List.all_cons, List.all_nil, ha, hb, Bool.and_self, cond_true, he, hv]
theorem v_not {t : TypeId} {x : Operand} {b : Bool} (ho : o.op = .unOp .not t x) (hx : eo l x = some (.bool b)) : Val K B o n ds l m J (.bool (!b)) := by
 intro call yld S H hS hI; unfold evOp evOpX; simp only [ho]; show evPlain K.P S.T H o = _; refine plain1 hS (by rw [ho]; rfl) hx rfl ?_ rfl; unfold execOp; simp only [ho]; rw [eo_or hS H hx]; rfl
theorem v_notP {t : TypeId} {x : Operand} {p : Prop} [Decidable p] (ho : o.op = .unOp .not t x) (hx : eo l x = some (.bool (decide p))) : Val K B o n ds l m J (.bool (decide (¬ p))) := by
 have := v_not (K := K) (B := B) (n := n) (ds := ds) (m := m) (J := J) ho hx; rwa [show (!decide p) = decide (¬ p) by simp] at this
theorem ba_eq (a b : List UInt8) : ((⟨⟨a⟩⟩ : ByteArray).toList == (⟨⟨b⟩⟩ : ByteArray).toList) = decide (a = b) := by
 rw [ByteArray.toList_eq, ByteArray.toList_eq, Bool.eq_iff_iff]; simp
noncomputable def binS (a b : List UInt8) : BinOp → Option Value
 | .eql => some (.bool (decide (a = b)))
 | .neq => some (.bool (decide (¬ a = b)))
 | .add => some (.string ⟨⟨a ++ b⟩⟩)
 | _ => none
theorem v_str {op : BinOp} {t ty : TypeId} {x y : Operand} {a b : List UInt8} {v : Value} (ho : o.op = .binOp op t x y ty) (hx : eo l x = some (.string ⟨⟨a⟩⟩)) (hy : eo l y = some (.string ⟨⟨b⟩⟩)) (hv : binS a b op = some v) (hl : a.length + b.length ≤ 9223372036854775807) : Val K B o n ds l m J v := by
 intro call yld S H hS hI; unfold evOp evOpX; simp only [ho]; show opBin2 K.P _ op t (opd S.T H x) (opd S.T H y) = _; rw [eo_opd hS H hx, eo_opd hS H hy]; show orElse (evPlain K.P S.T H o) _ = _; have : evPlain K.P S.T H o = some (.val v H) := by
  refine plain2 hS (by rw [ho]; rfl) hx hy rfl rfl ?_ ?_
  ·
   unfold execOp; simp only [ho]; rw [eo_or hS H hx, eo_or hS H hy]; cases op <;> simp only [binS, Option.some.injEq, reduceCtorEq] at hv <;> subst hv
   ·
    have hb : binOp .add t (.string ⟨⟨a⟩⟩) (.string ⟨⟨b⟩⟩) = Op.stringOp .add ⟨⟨a⟩⟩ ⟨⟨b⟩⟩ := by simp [binOp]
    have hg : evPure K.P (eqGuard .add t x y (.string ⟨⟨a⟩⟩) (.string ⟨⟨b⟩⟩)) = some () := rfl; rw [evPure_bind (a := .string ⟨⟨a ++ b⟩⟩)]
    ·
     rfl
    rw [evPure_bind hg, hb]; show evPure K.P (if (((⟨⟨a⟩⟩ : ByteArray).size + (⟨⟨b⟩⟩ : ByteArray).size : Nat) : Int) > IntKind.i64.max then _ else _) = _; rw [if_neg (by
     have e1 : (⟨⟨a⟩⟩ : ByteArray).size = a.length := rfl; have e2 : (⟨⟨b⟩⟩ : ByteArray).size = b.length := rfl; rw [e1, e2, show IntKind.i64.max = 9223372036854775807 from rfl]; omega)]
    show some (Value.string ((⟨⟨a⟩⟩ : ByteArray) ++ ⟨⟨b⟩⟩)) = _; have : ((⟨⟨a⟩⟩ : ByteArray) ++ ⟨⟨b⟩⟩) = ⟨⟨a ++ b⟩⟩ := by
     apply ByteArray.ext; simp
    rw [this]
   ·
    have hb : binOp .eql t (.string ⟨⟨a⟩⟩) (.string ⟨⟨b⟩⟩) = Op.stringOp .eql ⟨⟨a⟩⟩ ⟨⟨b⟩⟩ := by simp [binOp]
    have hg : evPure K.P (eqGuard .eql t x y (.string ⟨⟨a⟩⟩) (.string ⟨⟨b⟩⟩)) = some () := rfl; rw [evPure_bind (a := .bool (decide (a = b)))]
    ·
     rfl
    rw [evPure_bind hg, hb]; show some (Value.bool ((⟨⟨a⟩⟩ : ByteArray).toList == (⟨⟨b⟩⟩ : ByteArray).toList)) = _; rw [ba_eq]
   ·
    have hb : binOp .neq t (.string ⟨⟨a⟩⟩) (.string ⟨⟨b⟩⟩) = Op.stringOp .neq ⟨⟨a⟩⟩ ⟨⟨b⟩⟩ := by simp [binOp]
    have hg : evPure K.P (eqGuard .neq t x y (.string ⟨⟨a⟩⟩) (.string ⟨⟨b⟩⟩)) = some () := rfl; rw [evPure_bind (a := .bool (decide (¬ a = b)))]
    ·
     rfl
    rw [evPure_bind hg, hb]; show some (Value.bool (!((⟨⟨a⟩⟩ : ByteArray).toList == (⟨⟨b⟩⟩ : ByteArray).toList))) = _; rw [ba_eq, show (!decide (a = b)) = decide (¬ a = b) by simp]
  ·
   cases op <;> simp only [binS, Option.some.injEq, reduceCtorEq] at hv <;> subst hv <;> rfl
 rw [this]; rfl
noncomputable def isInt (P : Program) (s d : TypeId) : Option IntKind := match P.underlying s, P.underlying d with
 | some _, some (.int k) => some k
 | _, _ => none
theorem v_conv {s t : TypeId} {x : Operand} {k k' : IntKind} {a b : Int} (ho : o.op = .convert s t x) (hx : eo l x = some (.int k' a)) (ht : isInt K.P s t = some k) (hw : k.wrap a = b) : Val K B o n ds l m J (.int k b) := by
 intro call yld S H hS hI; unfold evOp evOpX; simp only [ho]; show opConvert2 K.P _ s t (opd S.T H x) = _; rw [eo_opd hS H hx]; unfold opConvert2; simp only
 unfold isInt at ht; split at ht
 ·
  rename_i h1 h2; rw [h1, h2]; injection ht with ht; subst ht
  simp only [forceInt_eq, wrapF_eq, hw]; rfl
 ·
  cases ht
noncomputable def notIface (P : Program) (t : TypeId) : Bool := match P.underlying t with
 | some (.interface _) => false
 | some _ => true
 | none => false
theorem v_iface {t : TypeId} {x : Operand} {v : Value} (ho : o.op = .makeInterface t x) (hx : eo l x = some v) (ht : notIface K.P t = true) : Val K B o n ds l m J (.iface t v) := by
 intro call yld S H hS hI; unfold evOp evOpX; simp only [ho]; show opMakeInterface2 K.P _ t (opd S.T H x) (K.P.underlying t) = _; rw [eo_opd hS H hx]; unfold notIface at ht; cases hu : K.P.underlying t with
 | none => rw [hu] at ht; cases ht
 | some dsc => rw [hu] at ht; cases dsc <;> first | rfl | cases ht
theorem v_func {f : FuncId} {a b : Array Operand} {va vb : List Value} (ho : o.op = .makeFunc (.func f) a b) (ha : eos l a.toList = some va) (hb : eos l b.toList = some vb) : Val K B o n ds l m J (.func (.func f) va.toArray vb.toArray) := by
 intro call yld S H hS hI; unfold evOp evOpX; simp only [ho]; show opMakeFunc2 K.P _ (.func f) (opds S.T H a.toList) (opds S.T H b.toList) = _; rw [eos_opds hS H ha, eos_opds hS H hb]; rfl
noncomputable def eps (l : List (Nat × Value)) : List (Nat × Operand) → Option (List (Nat × Value))
 | [] => some []
 | (i, x) :: r => match eo l x with
  | some v => (match eps l r with | some vs => some ((i, v) :: vs) | none => none)
  | none => none
theorem eps_pairs {E : En} {S : St} (hS : Sat E S) (H : Hp) : ∀ {xs : List (Nat × Operand)} {vs : List (Nat × Value)}, eps E.l xs = some vs → pairs S.T H xs = some vs := by
 intro xs; induction xs with
 | nil => intro vs h; exact h
 | cons x r ih =>
  obtain ⟨i, x⟩ := x; intro vs h; simp only [eps] at h; simp only [pairs]; cases hx : eo E.l x with
  | none => rw [hx] at h; cases h
  | some v =>
   rw [hx] at h; simp only at h; rw [eo_opd hS H hx]; simp only; cases hr : eps E.l r with
   | none => rw [hr] at h; cases h
   | some ws => rw [hr] at h; simp only at h; rw [ih hr]; exact h
noncomputable def buildT (P : Program) (t : TypeId) : Option (Sum (List (Nat × Nat)) Nat × List Value) := match zeroT P t, P.underlying t with
 | some z, some (.struct fields) => bif plain z then (match places P fields.toList with | some ps => some (.inl ps, z.cells.toList) | none => none) else none
 | some z, some (.array _ elem) => bif plain z then (match sizeT P elem with | some sz => some (.inr sz, z.cells.toList) | none => none) else none
 | _, _ => none
noncomputable def placeOf : Sum (List (Nat × Nat)) Nat → Nat → Option (Nat × Nat)
 | .inl ps => nth ps
 | .inr sz => fun i => some (i * sz, sz)
theorem v_build {t : TypeId} {ps : Array (Nat × Operand)} {vs : List (Nat × Value)} {pl : Sum (List (Nat × Nat)) Nat} {z cells : List Value} (ho : o.op = .build t ps) (hp : eps l ps.toList = some vs) (ht : buildT K.P t = some (pl, z)) (hf : fillA (placeOf pl) z vs = some cells) : Val K B o n ds l m J (.agg cells.toArray) := by
 intro call yld S H hS hI; unfold evOp evOpX; simp only [ho]; show opBuild2 K.P _ t (pairs S.T H ps.toList) = _; rw [eps_pairs hS H hp]; show vRes (evBuild K.P t vs) H = _; unfold buildT at ht; unfold evBuild; cases hz : zeroT K.P t with
 | none => rw [hz] at ht; cases ht
 | some zv =>
  rw [hz] at ht; cases hu : K.P.underlying t with
  | none => rw [hu] at ht; cases ht
  | some dsc =>
   rw [hu] at ht; cases dsc with
   | struct fields =>
    simp only at ht ⊢; cases hpz : plain zv with
    | false => rw [hpz] at ht; cases ht
    | true =>
     rw [hpz, cond_true] at ht; rw [cond_true]; cases hq : places K.P fields.toList with
     | none => rw [hq] at ht; cases ht
     | some qs =>
      rw [hq] at ht; simp only [Option.some.injEq, Prod.mk.injEq] at ht; obtain ⟨rfl, rfl⟩ := ht; have hf : fillA (nth qs) zv.cells.toList vs = some cells := hf; simp only [hf]; rfl
   | array k elem =>
    simp only at ht ⊢; cases hpz : plain zv with
    | false => rw [hpz] at ht; cases ht
    | true =>
     rw [hpz, cond_true] at ht; rw [cond_true]; cases hq : sizeT K.P elem with
     | none => rw [hq] at ht; cases ht
     | some sz =>
      rw [hq] at ht; simp only [Option.some.injEq, Prod.mk.injEq] at ht; obtain ⟨rfl, rfl⟩ := ht; have hf : fillA (fun i => some (i * sz, sz)) zv.cells.toList vs = some cells := hf; simp only [hf]; rfl
   | _ => cases ht
noncomputable def arrT (P : Program) (t : TypeId) : Option (Nat × TypeId × Nat) := match P.underlying t with
 | some (.array len elem) => (match sizeT P elem with | some sz => some (len, elem, sz) | none => none)
 | _ => none
theorem arrT_eq {P : Program} {t elem : TypeId} {len sz : Nat} (h : arrT P t = some (len, elem, sz)) : P.underlying t = some (.array len elem) ∧ sizeT P elem = some sz := by
 unfold arrT at h; split at h
 ·
  rename_i h1; split at h
  ·
   rename_i h2; simp only [Option.some.injEq, Prod.mk.injEq] at h; obtain ⟨rfl, rfl, rfl⟩ := h; exact ⟨h1, h2⟩
  ·
   cases h
 ·
  cases h
theorem v_indexArr {t elem : TypeId} {x ix : Operand} {a off len sz : Nat} {k : IntKind} {i : Int} (ho : o.op = .indexAddr t x ix) (hx : eo l x = some (.pointer (some ⟨a, off, none⟩))) (hi : eo l ix = some (.int k i)) (ht : arrT K.P t = some (len, elem, sz)) (h0 : 0 ≤ i) (h1 : i < len) : Val K B o n ds l m J (.pointer (some ⟨a, off + i.toNat * sz, none⟩)) := by
 obtain ⟨hu, hz⟩ := arrT_eq ht; intro call yld S H hS hI; unfold evOp evOpX; simp only [ho]; show opIndexAddr2 K.P _ t (opd S.T H x) (opd S.T H ix) = _; rw [eo_opd hS H hx, eo_opd hS H hi]; show vRes (evIndexAddr K.P t (.pointer (some ⟨a, off, none⟩)) (.int k i)) H = _; unfold evIndexAddr; simp only [hu, intIn_ok h0 h1, hz]; rfl
theorem bin_slow {op : BinOp} {t ty : TypeId} {x y : Operand} {a b : Value} {r : Bool} {S : St} {H : Hp} {call : CallEv} {yld : YieldEv} (ho : o.op = .binOp op t x y ty) (hx : opd S.T H x = some a) (hy : opd S.T H y = some b) (hi : ∀ k i, a ≠ .int k i) (hp : evPlain K.P S.T H o = none) (he : opBinEq K.P ⟨call, yld, S, H, o⟩ t a b op = some (.val (.bool r) H)) : evOp K.P call yld S H o = some (.val (.bool r) H) := by
 unfold evOp evOpX; simp only [ho]; show opBin2 K.P _ op t (opd S.T H x) (opd S.T H y) = _; rw [hx, hy]; have : opBin2 K.P ⟨call, yld, S, H, o⟩ op t (some a) (some b) = opBinSlow K.P ⟨call, yld, S, H, o⟩ op t a b := by
  cases a <;> first | rfl | exact absurd rfl (hi _ _)
 rw [this]; unfold opBinSlow; show orElse (evPlain K.P S.T H o) _ = _; rw [hp]; exact he
theorem v_sliceNil {op : BinOp} {t ty : TypeId} {x y : Operand} {b : Option Addr} {len cap : Nat} (ho : o.op = .binOp .eql t x y ty) (hx : eo l x = some (.slice b len cap)) (hy : eo l y = some (.slice none 0 0)) (ht : isSlice K.P t = true) : Val K B o n ds l m J (.bool b.isNone) := by
 intro call yld S H hS hI; unfold isSlice at ht; split at ht
 ·
  rename_i e hu; cases b with
  | none =>
   unfold evOp evOpX; simp only [ho]; show opBin2 K.P _ .eql t (opd S.T H x) (opd S.T H y) = _; rw [eo_opd hS H hx, eo_opd hS H hy]; show orElse (evPlain K.P S.T H o) _ = _; have : evPlain K.P S.T H o = some (.val (.bool true) H) := by
    refine plain2 hS (by rw [ho]; rfl) hx hy rfl rfl ?_ rfl; unfold execOp; simp only [ho]; rw [eo_or hS H hx, eo_or hS H hy]; rw [evPure_bind (a := .bool true)]
    ·
     rfl
    rw [evPure_bind (a := ()) (by rfl)]; have hb : binOp .eql t (.slice none len cap) (.slice none 0 0) = (do pure (.bool (← Op.equal t (.slice none len cap) (.slice none 0 0)))) := by simp [binOp]
    rw [hb, evPure_bind (a := true)]
    ·
     rfl
    show evPure K.P (Op.equalIn (9999 + 1) t (.slice none len cap) (.slice none 0 0)) = _; unfold Op.equalIn; rw [evPure_bind (evPure_under hu)]; rfl
   rw [this]; rfl
  | some a =>
   refine bin_slow ho (eo_opd hS H hx) (eo_opd hS H hy) (fun _ _ q => by cases q) ?_ ?_
   ·
    unfold evPlain; rw [ho]; have : opds S.T H (Op.binOp BinOp.eql t x y ty).operands.toList = some [.slice (some a) len cap, .slice none 0 0] := by
     show opds S.T H [x, y] = _; simp only [opds]; rw [eo_opd hS H hx, eo_opd hS H hy]
    rw [this]; rfl
   ·
    unfold opBinEq evEqNil; simp only [hu]; rfl
 ·
  cases ht
end
end Go.Opn

/- A part of the proof of ResumeSaves. -/
import Derived.Test.YtmeojgcibppcmaaDoorOpnD
set_option linter.unusedVariables false
set_option linter.unusedSimpArgs false
namespace Go.Opn
open Go.Cre Go.RowKit
theorem forceInt_eq {α : Type} (n : Int) (k : Int → α) : forceInt n k = k n := by
 cases n with
 | ofNat m => cases m <;> rfl
 | negSucc m => cases m <;> rfl
theorem intLt_eq (a b : Int) : intLt a b = decide (a < b) := by
 cases a with
 | ofNat m => cases b with
  | ofNat n => simp only [intLt]; rw [Bool.eq_iff_iff]; simp
  | negSucc n => simp only [intLt]; rw [Bool.eq_iff_iff]; simp; omega
 | negSucc m => cases b with
  | ofNat n => simp only [intLt]; rw [Bool.eq_iff_iff]; simp; omega
  | negSucc n => simp only [intLt]; rw [Bool.eq_iff_iff]; simp; omega
theorem intEq_eq (a b : Int) : intEq a b = decide (a = b) := by
 cases a with
 | ofNat m => cases b with
  | ofNat n => simp only [intEq]; rw [Bool.eq_iff_iff]; simp; omega
  | negSucc n => simp only [intEq]; rw [Bool.eq_iff_iff]; simp
 | negSucc m => cases b with
  | ofNat n => simp only [intEq]; rw [Bool.eq_iff_iff]; simp
  | negSucc n => simp only [intEq]; rw [Bool.eq_iff_iff]; simp
theorem kindEq_refl (k : IntKind) : kindEq k k = true := by cases k <;> rfl
theorem wrap_i64 {n : Int} (h1 : -9223372036854775808 ≤ n) (h2 : n ≤ 9223372036854775807) : IntKind.i64.wrap n = n := by
 unfold IntKind.wrap IntKind.signed IntKind.bits; simp only [Bool.true_and, decide_eq_true_eq]; split <;> omega
theorem retBool_eq (H : Hp) (b : Bool) : retBool H b = some (.val (.bool b) H) := by cases b <;> rfl
section
variable {K : Kx} {B : Bs} {o : Oper} {n : Nat} {ds : Dx} {l : List (Nat × Value)} {m m' : Mm} {J : Jm} {Ψ : En → Mm → Jm → Prop} {d : Nat}
def Val (K : Kx) (B : Bs) (o : Oper) (n : Nat) (ds : Dx) (l : List (Nat × Value)) (m : Mm) (J : Jm) (v : Value) : Prop := ∀ call yld S H, Sat ⟨n, ds, l⟩ S → Inv K.g0 B J m H → evOp K.P call yld S H o = some (.val v H)
theorem v_move {x : Operand} {v : Value} (ho : o.op = .move x) (hx : eo l x = some v) : Val K B o n ds l m J v := by
 intro call yld S H hS hI; unfold evOp evOpX; simp only [ho]; show vRes (opd S.T H x) H = _; rw [eo_opd hS H hx]; rfl
theorem v_assign {x : Operand} {v : Value} (ho : o.op = .assign x) (hx : eo l x = some v) : Val K B o n ds l m J v := by
 intro call yld S H hS hI; unfold evOp evOpX; simp only [ho]; show vRes (opd S.T H x) H = _; rw [eo_opd hS H hx]; rfl
theorem v_pick {c x y : Operand} {t : Bool} {v : Value} (ho : o.op = .pick c x y) (hc : eo l c = some (.bool t)) (hv : (if t = true then eo l x else eo l y) = some v) : Val K B o n ds l m J v := by
 intro call yld S H hS hI; unfold evOp evOpX; simp only [ho]; show opPick2 K.P _ x y (opd S.T H c) = _; rw [eo_opd hS H hc]; cases t with
 | true => show vRes (opd S.T H x) H = _; rw [eo_opd hS H (by simpa using hv)]; rfl
 | false => show vRes (opd S.T H y) H = _; rw [eo_opd hS H (by simpa using hv)]; rfl
noncomputable def binI (k : IntKind) (a b : Int) : BinOp → Option Value
 | .add => some (.int k (k.wrap (a + b)))
 | .sub => some (.int k (k.wrap (a - b)))
 | .mul => some (.int k (k.wrap (a * b)))
 | .eql => some (.bool (decide (a = b)))
 | .neq => some (.bool (decide (¬ a = b)))
 | .lss => some (.bool (decide (a < b)))
 | .leq => some (.bool (decide (a ≤ b)))
 | .gtr => some (.bool (decide (b < a)))
 | .geq => some (.bool (decide (b ≤ a)))
 | _ => none
theorem v_int {op : BinOp} {t ty : TypeId} {x y : Operand} {k : IntKind} {a b : Int} {v : Value} (ho : o.op = .binOp op t x y ty) (hx : eo l x = some (.int k a)) (hy : eo l y = some (.int k b)) (hv : binI k a b op = some v) : Val K B o n ds l m J v := by
 intro call yld S H hS hI; unfold evOp evOpX; simp only [ho]; show opBin2 K.P _ op t (opd S.T H x) (opd S.T H y) = _; rw [eo_opd hS H hx, eo_opd hS H hy]; show (bif kindEq k k then intBin H k a b _ op else _) = _; rw [kindEq_refl, cond_true]; have nle : ∀ p q : Int, (!decide (p < q)) = decide (q ≤ p) := fun p q => by rw [Bool.eq_iff_iff]; simp
 cases op <;> simp only [binI, Option.some.injEq, reduceCtorEq] at hv <;> subst hv <;> simp only [intBin, forceInt_eq, wrapF_eq, retInt, retBool_eq, intEq_eq, intLt_eq, nle]
 ·
  rw [show (!decide (a = b)) = decide (¬ a = b) by rw [Bool.eq_iff_iff]; simp]
inductive RowAt (m : Mm) (J : Jm) (a : Nat) (cells : List Value) : Prop
 | own {e : TypeId} : (a, PB.row cells e) ∈ m → RowAt m J a cells
 | opn {e : TypeId} {r : List Nat} {z : Nat} : (a, PB.opn cells e r z) ∈ m → RowAt m J a cells
 | pub {e : TypeId} : J a = some (cells, e) → RowAt m J a cells
theorem RowAt.get {a : Nat} {cells : List Value} (h : RowAt m J a cells) {g0 : Nat} {H : Hp} (hI : Inv g0 B J m H) : ∃ e o f z s, H.mem.get a = some (.row cells e o f z s) := by
 cases h with
 | own h => exact ⟨_, _, _, _, _, (hI.own _ _ h).1⟩
 | opn h => obtain ⟨f, _, q, _⟩ := (hI.own _ _ h).1; exact ⟨_, _, _, _, _, q⟩
 | pub h => obtain ⟨o, f, z, s, q⟩ := hI.pub _ _ _ h; exact ⟨_, _, _, _, _, q⟩
theorem v_load {t : TypeId} {x : Operand} {a off : Nat} {cells : List Value} {v : Value} (ho : o.op = .load t x) (hx : eo l x = some (.pointer (some ⟨a, off, none⟩))) (hr : RowAt m J a cells) (hv : evPart K.P t cells off = some v) : Val K B o n ds l m J v := by
 intro call yld S H hS hI; unfold evOp evOpX; simp only [ho]; show opLoad2 K.P _ t (opd S.T H x) = _; rw [eo_opd hS H hx]; show vRes (evLoadAt K.P H t ⟨a, off, none⟩) H = _; obtain ⟨e, o', f, z, s, q⟩ := hr.get hI; unfold evLoadAt; simp only [q, hv]; rfl
theorem part1 {P : Program} {t : TypeId} {cells : List Value} {off : Nat} {v : Value} (ht : aggSize P t = some none) (hv : nth cells off = some v) : evPart P t cells off = some v := by
 unfold evPart; rw [ht]; exact hv
theorem partA {P : Program} {t : TypeId} {cells r : List Value} {off k : Nat} (ht : aggSize P t = some (some k)) (hv : takeN k (dropN off cells) = some r) : evPart P t cells off = some (.agg r.toArray) := by
 unfold evPart; rw [ht]; simp only [hv]
theorem x_box {t : TypeId} {x : Operand} {v : Value} {cells : List Value} (ho : o.op = .box t x) (hd : o.dst = some d) (hn : Nat.blt d n = true) (hx : eo l x = some v) (hc : v.cells.toList = cells) (h1 : cells.all oneCell = true) (h : ∀ a, Ψ ⟨n, ds, (d, .pointer (some ⟨a, 0, none⟩)) :: l⟩ ((a, .row cells t) :: m) J) : ExecA K B o ⟨n, ds, l⟩ m J Ψ := by
 refine ExecA.valM hd hn fun S H hS hI => ?_; obtain ⟨H1, e1, e2⟩ := hI.alloc cells t; refine ⟨_, H1, _, J, fun call yld => ?_, e2, h H.nx⟩; unfold evOp evOpX; simp only [ho]; show opBox2 K.P _ t (opd S.T H x) = _; rw [eo_opd hS H hx]; show vhRes (evBox H t v) = _; unfold evBox newRowA; rw [hc, h1, cond_true, e1]; rfl
theorem x_alloc {t : TypeId} {z : Value} {cells : List Value} (ho : o.op = .alloc t) (hd : o.dst = some d) (hn : Nat.blt d n = true) (hz : zeroT K.P t = some z) (hp : plain z = true) (hc : z.cells.toList = cells) (h1 : cells.all oneCell = true) (h : ∀ a, Ψ ⟨n, ds, (d, .pointer (some ⟨a, 0, none⟩)) :: l⟩ ((a, .row cells t) :: m) J) : ExecA K B o ⟨n, ds, l⟩ m J Ψ := by
 refine ExecA.valM hd hn fun S H hS hI => ?_; obtain ⟨H1, e1, e2⟩ := hI.alloc cells t; refine ⟨_, H1, _, J, fun call yld => ?_, e2, h H.nx⟩; unfold evOp evOpX; simp only [ho]; show opAlloc2 K.P _ t (zeroT K.P t) = _; rw [hz]; show (bif plain z then vhRes (evBox H t z) else none) = _; rw [hp, cond_true]; unfold evBox newRowA; rw [hc, h1, cond_true, e1]; rfl
theorem x_store {t : TypeId} {x y : Operand} {a off k : Nat} {v : Value} {vs cells cells' : List Value} {e : TypeId} (ho : o.op = .store t x y) (hd : o.dst = none) (hx : eo l x = some (.pointer (some ⟨a, off, none⟩))) (hy : eo l y = some v) (hk : sizeT K.P t = some k) (hc : v.cells.toList = vs) (hl : Nat.beq vs.length k = true) (h0 : Nat.blt 0 vs.length = true) (h1 : vs.all oneCell = true) (hs : splice off cells vs = some cells') (hp : Put m a (.row cells e) (.row cells' e) m') (h : Ψ ⟨n, ds, l⟩ m' J) : ExecA K B o ⟨n, ds, l⟩ m J Ψ := by
 refine ExecA.skip hd fun S H hS hI => ?_; obtain ⟨H1, e1, e2⟩ := hI.store hp; obtain ⟨k1, k2, k3, k4⟩ := hI.own _ _ hp.mem; have k1 : H.mem.get a = some (.row cells e false 0 0 false) := k1; refine ⟨H1, m', J, fun call yld => ?_, e2, h⟩; unfold evOp evOpX; simp only [ho]; show opStore2 K.P _ t (opd S.T H x) (opd S.T H y) = _; rw [eo_opd hS H hx, eo_opd hS H hy]; show hRes (evStore K.P H t (.pointer (some ⟨a, off, none⟩)) v) = _; unfold evStore; simp only [hk, hc, hl, cond_true]; unfold evStoreCells; cases vs with
 | nil => cases h0
 | cons v0 vs =>
  simp only
  have hg : Nat.blt a H.glo = false := by
   cases q : Nat.blt a H.glo
   ·
    rfl
   ·
    have : a < H.glo := by simpa [Nat.blt, Nat.succ_le_iff] using q
    have := hI.glo; omega
  rw [hg, cond_false, k1]; simp only [show Nat.ble 0 off = true from Nat.ble_eq_true_of_le (Nat.zero_le _), Bool.true_and, h1, cond_true, hs, e1, cond_false]; rfl
theorem v_nilCheck {x : Operand} {a : Addr} (ho : o.op = .nilCheck x) (hx : eo l x = some (.pointer (some a))) : Val K B o n ds l m J (.pointer (some a)) := by
 intro call yld S H hS hI; unfold evOp evOpX; simp only [ho]; show opNilCheck2 K.P _ (opd S.T H x) = _; rw [eo_opd hS H hx]; rfl
noncomputable def fieldOff (P : Program) (s : TypeId) (f : Nat) : Option Nat := match P.underlying s with
 | some (.struct fields) => (match fields[f]? with
  | some fd => (match sizeT P fd.type with | some (_ + 1) => some fd.offset | _ => none)
  | none => none)
 | _ => none
theorem v_fieldAddr {s : TypeId} {x : Operand} {f a off k : Nat} (ho : o.op = .fieldAddr s x f) (hx : eo l x = some (.pointer (some ⟨a, off, none⟩))) (hf : fieldOff K.P s f = some k) : Val K B o n ds l m J (.pointer (some ⟨a, off + k, none⟩)) := by
 intro call yld S H hS hI; unfold evOp evOpX; simp only [ho]; show opFieldAddr2 K.P _ s f (opd S.T H x) = _; rw [eo_opd hS H hx]; show vRes (evFieldAddr K.P s (.pointer (some ⟨a, off, none⟩)) f) H = _; unfold fieldOff at hf; unfold evFieldAddr; simp only
 cases hu : K.P.underlying s with
 | none => rw [hu] at hf; cases hf
 | some dsc =>
  rw [hu] at hf; cases dsc with
  | struct fields =>
   simp only at hf ⊢; cases hq : fields[f]? with
   | none => rw [hq] at hf; cases hf
   | some fd =>
    rw [hq] at hf; simp only at hf ⊢; cases hz : sizeT K.P fd.type with
    | none => rw [hz] at hf; cases hf
    | some z =>
     rw [hz] at hf; cases z with
     | zero => cases hf
     | succ z => simp only [Option.some.injEq] at hf; subst hf; rfl
  | _ => cases hf
noncomputable def fieldT (P : Program) (s : TypeId) (f : Nat) : Option (TypeId × Nat) := match P.underlying s with
 | some (.struct fields) => (match fields[f]? with
  | some fd => some (fd.type, fd.offset)
  | none => none)
 | _ => none
theorem v_field {s t : TypeId} {x : Operand} {f off : Nat} {cs : Array Value} {v : Value} (ho : o.op = .field s x f) (hx : eo l x = some (.agg cs)) (hf : fieldT K.P s f = some (t, off)) (hv : evPart K.P t cs.toList off = some v) : Val K B o n ds l m J v := by
 intro call yld S H hS hI; unfold evOp evOpX; simp only [ho]; show opField2 K.P _ f (opd S.T H x) (K.P.underlying s) = _; rw [eo_opd hS H hx]; unfold fieldT at hf; cases hu : K.P.underlying s with
 | none => rw [hu] at hf; cases hf
 | some dsc =>
  rw [hu] at hf; cases dsc with
  | struct fields =>
   simp only at hf; unfold opField2; simp only
   cases hq : fields[f]? with
   | none => rw [hq] at hf; cases hf
   | some fd =>
    rw [hq] at hf; simp only [Option.some.injEq, Prod.mk.injEq] at hf; obtain ⟨rfl, rfl⟩ := hf; simp only [hv]; rfl
  | _ => cases hf
noncomputable def elemSz (P : Program) (t : TypeId) : Option Nat := match P.underlying t with
 | some (.slice e) => sizeT P e
 | _ => none
theorem intIn_ok {i : Int} {len : Nat} (h0 : 0 ≤ i) (h1 : i < len) : intIn i len = some i.toNat := by
 cases i with
 | ofNat n =>
  unfold intIn; have : Nat.blt n len = true := by
   have : n < len := by simpa using h1
   simpa [Nat.blt, Nat.succ_le_iff] using this
  simp only [this, cond_true]; rfl
 | negSucc n => exact absurd h0 (by simp)
theorem v_indexAddr {t : TypeId} {x ix : Operand} {a off len cap sz : Nat} {k : IntKind} {i : Int} (ho : o.op = .indexAddr t x ix) (hx : eo l x = some (.slice (some ⟨a, off, none⟩) len cap)) (hi : eo l ix = some (.int k i)) (ht : elemSz K.P t = some sz) (h0 : 0 ≤ i) (h1 : i < len) : Val K B o n ds l m J (.pointer (some ⟨a, off + i.toNat * sz, none⟩)) := by
 intro call yld S H hS hI; unfold evOp evOpX; simp only [ho]; show opIndexAddr2 K.P _ t (opd S.T H x) (opd S.T H ix) = _; rw [eo_opd hS H hx, eo_opd hS H hi]; show vRes (evIndexAddr K.P t (.slice (some ⟨a, off, none⟩) len cap) (.int k i)) H = _; unfold elemSz at ht; unfold evIndexAddr; cases hu : K.P.underlying t with
 | none => rw [hu] at ht; cases ht
 | some dsc =>
  rw [hu] at ht; cases dsc with
  | slice e =>
   simp only at ht ⊢; rw [intIn_ok h0 h1, ht]; rfl
  | _ => cases ht
noncomputable def isSlice (P : Program) (t : TypeId) : Bool := match P.underlying t with | some (.slice _) => true | _ => false
noncomputable def isStr (P : Program) (t : TypeId) : Bool := match P.underlying t with | some .string => true | _ => false
theorem evBuiltin_ev {S : St} {H : Hp} {call : CallEv} {yld : YieldEv} {c : Call} {b : Builtin} (ho : o.op = .call c) (hc : c.callee = .builtin b) : evOp K.P call yld S H o = evBuiltin K.P S H o b c := by
 unfold evOp evOpX; simp only [ho]; show opCall K.P _ c = _; unfold opCall; rw [hc]
theorem v_lenSlice {c : Call} {base : Option Addr} {len cap : Nat} {t : TypeId} (ho : o.op = .call c) (hc : c.callee = .builtin .len) (ha : eos l c.args.toList = some [.slice base len cap]) (ht : c.argTypes.toList = [t]) (hs : isSlice K.P t = true) : Val K B o n ds l m J (.int .i64 len) := by
 intro call yld S H hS hI; rw [evBuiltin_ev ho hc]; unfold evBuiltin; rw [eos_opds hS H ha, ht]; simp only
 unfold isSlice at hs; split at hs
 ·
  rename_i e hu; rw [hu]
 ·
  cases hs
theorem lenD_ok {α : Type} (l : List α) : lenD l = some l.length := by
 cases h : lenD l with
 | none =>
  unfold lenD at h; cases hb : isNil (dropN 256 l) with
  | true => rw [hb] at h; cases h
  | false =>
   rw [hb, cond_false] at h; split at h
   ·
    cases h
   ·
    split at h <;> cases h
 | some k => rw [lenD_eq h]
theorem v_lenStr {c : Call} {s : ByteArray} {t : TypeId} (ho : o.op = .call c) (hc : c.callee = .builtin .len) (ha : eos l c.args.toList = some [.string s]) (ht : c.argTypes.toList = [t]) (hs : isStr K.P t = true) : Val K B o n ds l m J (.int .i64 s.data.toList.length) := by
 intro call yld S H hS hI; rw [evBuiltin_ev ho hc]; unfold evBuiltin; rw [eos_opds hS H ha, ht]; simp only
 unfold isStr at hs; split at hs
 ·
  rename_i hu; rw [hu]; simp only [lenD_ok, forceInt_eq]; rfl
 ·
  cases hs
theorem v_indexStr {t : TypeId} {x ix : Operand} {s : ByteArray} {k : IntKind} {i : Int} {b : UInt8} (ho : o.op = .index t x ix) (hx : eo l x = some (.string s)) (hi : eo l ix = some (.int k i)) (ht : isStr K.P t = true) (h0 : 0 ≤ i) (hb : s.data.toList[i.toNat]? = some b) : Val K B o n ds l m J (.int .u8 b.toNat) := by
 intro call yld S H hS hI; unfold evOp evOpX; simp only [ho]; show opIndex2 K.P _ (opd S.T H x) (opd S.T H ix) (K.P.underlying t) = _; rw [eo_opd hS H hx, eo_opd hS H hi]; unfold isStr at ht; split at ht
 ·
  rename_i hu; rw [hu]; unfold opIndex2; simp only
  cases i with
  | ofNat j =>
   simp only [nth_eq]; rw [show s.data.toList[j]? = some b from hb]; simp only [forceInt_eq]; rfl
  | negSucc j => exact absurd h0 (by simp)
 ·
  cases ht
theorem v_extract {x : Operand} {ix : Nat} {vs : Array Value} {v : Value} (ho : o.op = .extract x ix) (hx : eo l x = some (.tuple vs)) (hv : nth vs.toList ix = some v) : Val K B o n ds l m J v := by
 intro call yld S H hS hI; unfold evOp evOpX; simp only [ho]; show opExtract2 K.P _ ix (opd S.T H x) = _; rw [eo_opd hS H hx]; show vRes (nth vs.toList ix) H = _; rw [hv]; rfl
end
def WD (K : Kx) (B : Bs) (ops : List Oper) (plan : List DStep) (F : List (FuncId × List Value)) (E : En) (m : Mm) (J : Jm) (Φ : En → Mm → Jm → Prop) : Prop :=
 ∀ S H, Sat E S → Inv K.g0 B J m H → ∃ pk : CallEv, (∀ f args H r, pk f args H = some r → (f, args) ∉ F) ∧ ∃ S' H' E' m' J',
  (∀ pk' : CallEv, (∀ f args H r, pk f args H = some r → pk' f args H = some r) → drawGo K.P (callΩ K.Q pk') (EΩ K.Q noCode pk').yld ops plan S H = some (.ok S' H')) ∧ Sat E' S' ∧ Inv K.g0 B J' m' H' ∧ Φ E' m' J'
section
variable {K : Kx} {B : Bs} {ops : List Oper} {plan : List DStep} {F : List (FuncId × List Value)} {E : En} {m m' : Mm} {J : Jm} {o : Oper} {Φ : En → Mm → Jm → Prop} {Θ : Exit → En → Mm → Jm → Prop}
variable {n : Nat} {ds : Dx} {l : List (Nat × Value)} {d i : Nat}
theorem WC.draw {id : Nat} {a : Array Oper} (hl : litOf a.toList = none) (hok : drawOk a.toList = true) (hp : planOf a.toList = plan) (h : WD K B a.toList plan [] E m J fun E m J => Θ .normal E m J) : WC K B (.region id a true) E m J Θ := by
 intro S H hS hI; obtain ⟨pk, _, S', H', E', m', J', h1, h2, h3, h4⟩ := h S H hS hI; refine ⟨.normal, S', H', E', m', J', CodeR.of_ev K.hP.mix noCode pk ?_, h2, h3, h4⟩; show regExit (evDrawA K.P (EΩ K.Q noCode pk).call (EΩ K.Q noCode pk).yld a.toList S H) = _; rw [EΩ_call]; unfold evDrawA; rw [hl]; show regExit (evDraw K.P (callΩ K.Q pk) (EΩ K.Q noCode pk).yld a.toList S H) = _; unfold evDraw; rw [hok, cond_true, hp, h1 pk (fun _ _ _ _ q => q)]; rfl
theorem WD.nil (h : Φ E m J) : WD K B ops [] F E m J Φ := fun S H hS hI => ⟨noCall, (fun _ _ _ _ q => by cases q), S, H, E, m, J, fun _ _ => rfl, hS, hI, h⟩
theorem WD.val {v : Value} (hi : nth ops i = some o) (hg : o.guard = none) (hd : o.dst = some d) (hn : Nat.blt d n = true) (hv : Val K B o n ds l m J v) (h : WD K B ops plan F ⟨n, ds, (d, v) :: l⟩ m J Φ) : WD K B ops (.val i :: plan) F ⟨n, ds, l⟩ m J Φ := by
 intro S H hS hI; obtain ⟨S1, s1, s2⟩ := hS.put (dst := some d) hn v; obtain ⟨pk, p1, S', H', E', m', J', h1, h2, h3, h4⟩ := h S1 H s2 hI; refine ⟨pk, p1, S', H', E', m', J', fun pk' q => ?_, h2, h3, h4⟩; show onOp ops i (valStep K.P _ _ ops S H (drawGo K.P _ _ ops plan)) = _; unfold onOp; rw [hi]; show valStep K.P _ _ ops S H (drawGo K.P _ _ ops plan) o = _; unfold valStep guardB; rw [hg]; show valRes S H o.dst (drawGo K.P _ _ ops plan) (evOp K.P _ _ S H o) = _; rw [hv _ _ S H hS hI, hd]; show (bif Nat.beq H.nx H.nx then stepPut (drawGo K.P _ _ ops plan) H (S.put (some d) v) else none) = _; rw [Nat.beq_refl, cond_true, s1]; exact h1 pk' q
theorem WD.alc {b : Blk} {p : PB} {kv : AV} (hi : nth ops i = some o) (hg : o.guard = none) (hd : o.dst = some d) (hn : Nat.blt d n = true) (ha : ∀ S, Sat ⟨n, ds, l⟩ S → allocOf K.P S.T o.op = some (b, kv)) (hp : ∀ H a, H.mem.get a = some b → p.at (fun _ => True) H a) (hp' : ∀ c e r z, p ≠ .opn c e r z)
  (h : ∀ a, WD K B ops plan F ⟨n, ds, (d, kv.at a) :: l⟩ ((a, p) :: m) J Φ) : WD K B ops (.alc i :: plan) F ⟨n, ds, l⟩ m J Φ := by
 intro S H hS hI; obtain ⟨H1, e1⟩ := hI.wf.new b; have hat : p.at B.ff H1 H.nx := by
  have q := hp H1 H.nx (by rw [(Hp.new_eq e1).2.2.2.2.2, if_pos rfl]); cases p with
  | row => exact q
  | map => exact q
  | loop => exact q
  | dfr => exact q
  | opn c e r z => exact absurd rfl (hp' c e r z)
 have hI1 := hI.new e1 hat (by cases p with | opn c e r z => exact absurd rfl (hp' c e r z) | _ => rfl); obtain ⟨S1, s1, s2⟩ := hS.put (dst := some d) hn (kv.at H.nx); obtain ⟨pk, p1, S', H', E', m', J', h1, h2, h3, h4⟩ := h H.nx S1 H1 s2 hI1; refine ⟨pk, p1, S', H', E', m', J', fun pk' q => ?_, h2, h3, h4⟩; show onOp ops i (alcStep K.P ops S H (drawGo K.P _ _ ops plan)) = _; unfold onOp; rw [hi]; show alcStep K.P ops S H (drawGo K.P _ _ ops plan) o = _; unfold alcStep guardB; rw [hg]; show alcRes S H o.dst (drawGo K.P _ _ ops plan) (allocOf K.P S.T o.op) = _; rw [ha S hS]; show alcRes2 S o.dst (drawGo K.P _ _ ops plan) kv (H.new b) = _; rw [e1, hd]; show stepPut (drawGo K.P _ _ ops plan) H1 (S.put (some d) (kv.at H.nx)) = _; rw [s1]; exact h1 pk' q
theorem opdT_eo {S : St} (hS : Sat ⟨n, ds, l⟩ S) {x : Operand} {v : Value} (h : eo l x = some v) : opdT S.T x = some v := by
 cases x with
 | tmp t => exact hS.get t v h
 | const c => exact h
 | global g => cases h
 | func f => exact h
theorem WD.box {t : TypeId} {x : Operand} {v : Value} {cells : List Value} (hi : nth ops i = some o) (hg : o.guard = none) (ho : o.op = .box t x) (hd : o.dst = some d) (hn : Nat.blt d n = true) (hx : eo l x = some v) (hc : v.cells.toList = cells) (h1 : cells.all oneCell = true)
  (h : ∀ a, WD K B ops plan F ⟨n, ds, (d, .pointer (some ⟨a, 0, none⟩)) :: l⟩ ((a, .row cells t) :: m) J Φ) : WD K B ops (.alc i :: plan) F ⟨n, ds, l⟩ m J Φ := by
 refine WD.alc (b := .row cells t false 0 0 false) (p := .row cells t) (kv := .ptr) hi hg hd hn (fun S hS => ?_) (fun H a q => q) (fun c e r z q => by cases q) h; rw [ho]; simp only [allocOf]; rw [opdT_eo hS hx]; simp only [allocBox, hc, h1, cond_true]
theorem WD.alloc {t : TypeId} {z : Value} {cells : List Value} (hi : nth ops i = some o) (hg : o.guard = none) (ho : o.op = .alloc t) (hd : o.dst = some d) (hn : Nat.blt d n = true) (hz : zeroT K.P t = some z) (hp : plain z = true) (hc : z.cells.toList = cells) (h1 : cells.all oneCell = true)
  (h : ∀ a, WD K B ops plan F ⟨n, ds, (d, .pointer (some ⟨a, 0, none⟩)) :: l⟩ ((a, .row cells t) :: m) J Φ) : WD K B ops (.alc i :: plan) F ⟨n, ds, l⟩ m J Φ := by
 refine WD.alc (b := .row cells t false 0 0 false) (p := .row cells t) (kv := .ptr) hi hg hd hn (fun S hS => ?_) (fun H a q => q) (fun c e r z q => by cases q) h; rw [ho]; simp only [allocOf, hz, hp, cond_true, allocBox, hc, h1]
theorem WD.chn (hi : nth ops i = some o) (hg : o.guard = none) (h : ∀ S H, Sat E S → Inv K.g0 B J m H → ∃ S' H' E' m' J', (∀ call yld, oneAfter S H o.dst (evOp K.P call yld S H o) = some (.ok S' H')) ∧ Sat E' S' ∧ Inv K.g0 B J' m' H' ∧ WD K B ops plan F E' m' J' Φ) : WD K B ops (.chn i :: plan) F E m J Φ := by
 intro S H hS hI; obtain ⟨S1, H1, E1, m1, J1, k1, k2, k3, k4⟩ := h S H hS hI; obtain ⟨pk, p1, S', H', E', m', J', h1, h2, h3, h4⟩ := k4 S1 H1 k2 k3; refine ⟨pk, p1, S', H', E', m', J', fun pk' q => ?_, h2, h3, h4⟩; show onOp ops i (fun o => chnStep (drawGo K.P _ _ ops plan) (one K.P _ _ ops S H o)) = _; unfold onOp; rw [hi]; show chnStep (drawGo K.P _ _ ops plan) (one K.P _ _ ops S H o) = _; unfold one guardB; rw [hg]; show chnStep (drawGo K.P _ _ ops plan) (oneAfter S H o.dst (evOp K.P _ _ S H o)) = _; rw [k1]; exact h1 pk' q
theorem WD.chnX (hi : nth ops i = some o) (hg : o.guard = none) (h : ExecA K B o E m J fun E m J => WD K B ops plan F E m J Φ) : WD K B ops (.chn i :: plan) F E m J Φ := WD.chn hi hg h
theorem WD.chnV {v : Value} (hi : nth ops i = some o) (hg : o.guard = none) (hd : o.dst = some d) (hn : Nat.blt d n = true) (hv : Val K B o n ds l m J v) (h : WD K B ops plan F ⟨n, ds, (d, v) :: l⟩ m J Φ) : WD K B ops (.chn i :: plan) F ⟨n, ds, l⟩ m J Φ := by
 refine WD.chn hi hg fun S H hS hI => ?_; obtain ⟨S1, s1, s2⟩ := hS.put (dst := some d) hn v; refine ⟨S1, H, _, m, J, fun call yld => ?_, s2, hI, h⟩; rw [hv _ _ S H hS hI, hd]; show regOk H (S.put (some d) v) = _; rw [s1]; rfl
theorem WD.callK {c : Call} {x : Operand} {f : FuncId} {first cap : Array Value} {args as : List Value} {mi mr : Mm} {Post : Value → Mm → Jm → Prop}
  (hi : nth ops i = some o) (hg : o.guard = none) (ho : o.op = .call c) (hd : o.dst = some d) (hn : Nat.blt d n = true) (hc : c.callee = .value x) (hx : eo l x = some (.func (.func f) first cap)) (ha : eos l c.args.toList = some args) (has : (first.toList ++ args) ++ cap.toList = as)
  (hf : (f, as) ∉ F) (hp : (mi ++ mr).Perm m) (hno : noOpn mi) (hF : Fn K f as mi J Post) (h : ∀ v m' J', J.le J' → Post v m' J' → WD K B ops plan ((f, as) :: F) ⟨n, ds, (d, v) :: l⟩ (m' ++ mr) J' Φ) : WD K B ops (.chn i :: plan) F ⟨n, ds, l⟩ m J Φ := by
 intro S H hS hI; obtain ⟨v, H', J', m', k1, k2, k3⟩ := hF H (hI.enter hp hno); obtain ⟨k4, k5⟩ := hI.leave hp k2; obtain ⟨S1, s1, s2⟩ := hS.put (dst := some d) hn v; obtain ⟨pk, p1, S', H'', E', m'', J'', h1, h2, h3, h4⟩ := h v m' J' k5 k3 S1 H' s2 k4
 classical
 refine ⟨fun f' args' H1 => if f' = f ∧ args' = as then callAt f as H (.returned v, H') f' args' H1 else pk f' args' H1, fun f' args' H1 r q => ?_, S', H'', E', m'', J'', fun pk' q => ?_, h2, h3, h4⟩
 ·
  simp only at q; split at q
  ·
   rename_i e; rw [e.1, e.2]; exact hf
  ·
   exact fun r' => p1 f' args' H1 r q (List.mem_cons_of_mem _ r')
 ·
  have hcall : pk' f as H = some (.returned v, H') := q f as H _ (by simp only [and_self, if_pos]; unfold callAt; rw [if_pos ⟨rfl, rfl, rfl⟩]); have hrest : ∀ f' args' H1 r, pk f' args' H1 = some r → pk' f' args' H1 = some r := fun f' args' H1 r hr => q f' args' H1 r (by
   simp only
   rw [if_neg (fun e => p1 f' args' H1 r hr (by rw [e.1, e.2]; exact List.mem_cons_self))]; exact hr)
  show onOp ops i (fun o => chnStep (drawGo K.P _ _ ops plan) (one K.P _ _ ops S H o)) = _; unfold onOp; rw [hi]; show chnStep (drawGo K.P _ _ ops plan) (one K.P _ _ ops S H o) = _; unfold one guardB; rw [hg]; show chnStep (drawGo K.P _ _ ops plan) (oneAfter S H o.dst (evOp K.P _ _ S H o)) = _; have he : evOp K.P (callΩ K.Q pk') (EΩ K.Q noCode pk').yld S H o = some (.val v H') := by
   unfold evOp evOpX; simp only [ho]; show opCall K.P _ c = _; unfold opCall; rw [hc]; show evCallee K.P _ _ S.T H c = _; unfold evCallee; rw [eos_opds hS H ha]; simp only [hc]; rw [eo_opd hS H hx]; simp only
   show (match evFn K.P H (.func f) (first.toList ++ args) cap.toList with | some (f, as) => endRes (callΩ K.Q _ f as H) | none => none) = _
   unfold evFn; simp only
   rw [has, callΩ_at k1 hcall]; rfl
  rw [he, hd]; show chnStep (drawGo K.P _ _ ops plan) (regOk H' (S.put (some d) v)) = _; rw [s1]; exact h1 pk' hrest
theorem WD.call {c : Call} {x : Operand} {f : FuncId} {first cap : Array Value} {args as : List Value} {mi mr : Mm} {Post : Value → Mm → Jm → Prop}
  (hi : nth ops i = some o) (hg : o.guard = none) (ho : o.op = .call c) (hd : o.dst = some d) (hn : Nat.blt d n = true) (hc : c.callee = .value x) (hx : eo l x = some (.func (.func f) first cap)) (ha : eos l c.args.toList = some args) (has : (first.toList ++ args) ++ cap.toList = as)
  (hf : F.all (fun g => !Nat.beq g.1 f) = true) (hp : (mi ++ mr).Perm m) (hno : noOpn mi) (hF : Fn K f as mi J Post) (h : ∀ v m' J', J.le J' → Post v m' J' → WD K B ops plan ((f, as) :: F) ⟨n, ds, (d, v) :: l⟩ (m' ++ mr) J' Φ) : WD K B ops (.chn i :: plan) F ⟨n, ds, l⟩ m J Φ :=
 WD.callK hi hg ho hd hn hc hx ha has (fun q => by
  rw [List.all_eq_true] at hf; have := hf (f, as) q; simp at this) hp hno hF h
def Chk (K : Kx) (B : Bs) (ops : List Oper) (n : Nat) (ds : Dx) (l : List (Nat × Value)) (m : Mm) (J : Jm) (i : Nat) : Prop :=
 ∀ call yld S H, Sat ⟨n, ds, l⟩ S → Inv K.g0 B J m H → chkOne K.P call yld ops S H i = true
theorem Chk.val {v u : Value} (hi : nth ops i = some o) (hg : o.guard = none) (hd : o.dst = some d) (hv : Val K B o n ds l m J v) (hu : look l d = some u) (he : veq 8 v u = true) : Chk K B ops n ds l m J i := by
 intro call yld S H hS hI; unfold chkOne; rw [hi]; show chkOne2 K.P call yld ops S H o (guardB ops S.T o) = true; unfold guardB; rw [hg]; show chkVal H.nx S.T o.dst (evOp K.P call yld S H o) = true; rw [hv _ _ S H hS hI, hd]; show (Nat.beq H.nx H.nx && (match S.T.get d with | some u => veq 8 v u | none => false)) = true
 rw [Nat.beq_refl, hS.get d u hu]; simpa using he
def ChkAll (K : Kx) (B : Bs) (ops : List Oper) (n : Nat) (ds : Dx) (l : List (Nat × Value)) (m : Mm) (J : Jm) : List Nat → Prop
 | [] => True
 | i :: r => Chk K B ops n ds l m J i ∧ ChkAll K B ops n ds l m J r
theorem ChkAll.all {call : CallEv} {yld : YieldEv} {S : St} {H : Hp} (hS : Sat ⟨n, ds, l⟩ S) (hI : Inv K.g0 B J m H) : ∀ {is : List Nat}, ChkAll K B ops n ds l m J is → is.all (chkOne K.P call yld ops S H) = true := by
 intro is; induction is with
 | nil => intro _; rfl
 | cons i r ih => intro h; rw [List.all_cons, h.1 call yld S H hS hI, ih h.2]; rfl
theorem WD.chk {is : List Nat} (hc : ChkAll K B ops n ds l m J is) (h : WD K B ops plan F ⟨n, ds, l⟩ m J Φ) : WD K B ops (.chk is :: plan) F ⟨n, ds, l⟩ m J Φ := by
 intro S H hS hI; obtain ⟨pk, p1, S', H', E', m', J', h1, h2, h3, h4⟩ := h S H hS hI; refine ⟨pk, p1, S', H', E', m', J', fun pk' q => ?_, h2, h3, h4⟩; show chkStep K.P _ _ ops S H (drawGo K.P _ _ ops plan) is = _; unfold chkStep; rw [ChkAll.all hS hI hc, cond_true]; exact h1 pk' q
theorem veq_int (k : IntKind) (a : Int) (n : Nat) : veq (n + 1) (.int k a) (.int k a) = true := by
 show (kindEq k k && intEq a a) = true; rw [kindEq_refl, intEq_eq]; simp
end
theorem trOf_ok {α : Type} : ∀ (l : List α) (i : Nat) (T : Tr α), (∀ k, k < i → ∃ v, T.get k = some v) → ∃ T', trOf l i T = some T' := by
 intro l; induction l with
 | nil => intro i T _; exact ⟨T, rfl⟩
 | cons x l ih =>
  intro i T h; obtain ⟨T1, hT⟩ := Tr.put_ok x T i h; obtain ⟨T', e⟩ := ih (i + 1) T1 fun k hk => by
   rw [Tr.get_put hT]; split
   ·
    exact ⟨_, rfl⟩
   ·
    exact h k (by omega)
  refine ⟨T', ?_⟩; simp only [trOf, Tr.set]; rw [hT]; exact e
theorem ftGet {P : Program} {f : FuncId} {fn : Func} (h : P.funcs[f]? = some fn) : (ftOf P).get f = some fn := by
 obtain ⟨T, hT⟩ := trOf_ok P.funcs.toList 0 .leaf (fun k hk => absurd hk (by omega)); unfold ftOf; rw [hT]; simp only
 rw [trOf_get hT]; have hlt : f < P.funcs.size := (Array.getElem?_eq_some_iff.1 h).1; rw [if_pos (by simpa using hlt)]; simpa using h
inductive Sl (J : Jm) (sz : Nat) : Value → Nat → List Value → Prop
 | nil : Sl J sz (.slice none 0 0) 0 []
 | zero (a off cap : Nat) : Sl J sz (.slice (some ⟨a, off, none⟩) 0 cap) 0 []
 | row {a off len cap : Nat} {cells cs : List Value} {e : TypeId} : J a = some (cells, e) → (cells.drop off).take (len * sz) = cs → cs.length = len * sz → Sl J sz (.slice (some ⟨a, off, none⟩) len cap) len cs
theorem Sl.mono {J J' : Jm} (hle : J.le J') {sz n : Nat} {v : Value} {cs : List Value} (h : Sl J sz v n cs) : Sl J' sz v n cs := by
 cases h with
 | nil => exact .nil
 | zero a off cap => exact .zero a off cap
 | row h1 h2 h3 => exact .row (hle _ _ h1) h2 h3
theorem Sl.inv {J : Jm} {sz n : Nat} {v : Value} {cs : List Value} (h : Sl J sz v n cs) : ∃ b c, v = .slice b n c ∧ cs.length = n * sz ∧ (0 < n → ∃ a off cells e, b = some ⟨a, off, none⟩ ∧ J a = some (cells, e) ∧ ∀ k, k < n * sz → nth cells (off + k) = cs[k]?) := by
 cases h with
 | nil => exact ⟨_, _, rfl, by simp, fun q => absurd q (by omega)⟩
 | zero a off cap => exact ⟨_, _, rfl, by simp, fun q => absurd q (by omega)⟩
 | @row a off len cap cells cs e h1 h2 h3 =>
  refine ⟨_, _, rfl, h3, fun _ => ⟨a, off, cells, e, rfl, h1, fun k hk => ?_⟩⟩; rw [nth_eq, ← h2, List.getElem?_take, if_pos hk, List.getElem?_drop]
def Ints (J : Jm) (v : Value) (l : List Int) : Prop := Sl J 1 v l.length (l.map (Value.int .i64))
theorem Ints.mono {J J' : Jm} (hle : J.le J') {v : Value} {l : List Int} (h : Ints J v l) : Ints J' v l := Sl.mono hle h
theorem Ints.inv {J : Jm} {v : Value} {l : List Int} (h : Ints J v l) : ∃ b c, v = .slice b l.length c ∧ (0 < l.length → ∃ a off cells e, b = some ⟨a, off, none⟩ ∧ J a = some (cells, e) ∧ ∀ (i : Int), 0 ≤ i → i < l.length → ∃ x, l[i.toNat]? = some x ∧ nth cells (off + i.toNat * 1) = some (.int .i64 x)) := by
 obtain ⟨b, c, h1, h2, h3⟩ := Sl.inv h; refine ⟨b, c, h1, fun q => ?_⟩; obtain ⟨a, off, cells, e, k1, k2, k3⟩ := h3 q; refine ⟨a, off, cells, e, k1, k2, fun i i0 i1 => ?_⟩; have hlt : i.toNat < l.length := by omega
 refine ⟨l[i.toNat], List.getElem?_eq_getElem hlt, ?_⟩; rw [Nat.mul_one, k3 _ (by omega), List.getElem?_map, List.getElem?_eq_getElem hlt]; rfl
end Go.Opn

/- A part of the proof of ResumeSaves. -/
import Derived.Test.YtmeojgcibppcmaaDoorCreN
import Derived.Laws.BitsLemmas
set_option linter.unusedVariables false
set_option linter.unusedSimpArgs false
namespace Go.Cre
open Go.RowKit
section
variable {P : Program} {B : Nat → Prop} {w0 w : World} {μ : Mp} {H H' : Hp} {T : Tr Value} {n : Nat} {tmps : Array Value}
def rho (tmps : Array Value) : Operand → Value
 | .tmp t => tmps.getD t undef
 | .const v => v
 | .global g => .pointer (some ⟨g, 0, none⟩)
 | .func f => .func (.func f) #[] #[]
theorem opd_sound (h : HRel P B w0 μ H w) (ht : TRel μ T n tmps) {x : Operand} {v : Value} (he : opd T H x = some v) : VRel μ v (rho tmps x) := by
 cases x with
 | tmp t => exact ht.2 t v he
 | const c =>
  have he : (bif plain c then some c else none) = some v := he; cases hp : plain c with
  | false => rw [hp] at he; simp at he
  | true => rw [hp] at he; simp at he; subst he; exact plain_rel hp
 | global g =>
  have he : opdGlob H g = some v := he; unfold opdGlob at he; cases hg : Nat.blt g H.glo with
  | false => rw [hg] at he; simp at he
  | true =>
   rw [hg, cond_true] at he; have hg : g < H.glo := Nat.le_of_ble_eq_true hg; cases hm : H.mem.get g with
   | none => rw [hm] at he; simp at he
   | some b =>
    rw [hm] at he; cases b with
    | row c e o f z s =>
     simp only [Option.some.injEq] at he; subst he; obtain ⟨L, hL⟩ := h.glob g c e o f z s hg hm; have := VRel.ptr (μ := μ) g 0 L hL; rw [h.own g L hL hg] at this; exact this
    | _ => simp at he
 | func f =>
  have he : some (Value.func (.func f) #[] #[]) = some v := he; injection he with he; subst he
  exact .func _ _ _ _ _ rfl rfl rfl (fun i v v' q => by simp at q) (fun i v v' q => by simp at q)
theorem opds_sound (h : HRel P B w0 μ H w) (ht : TRel μ T n tmps) : ∀ {l : List Operand} {vs : List Value}, opds T H l = some vs → LRel μ vs (l.map (rho tmps)) := by
 intro l; induction l with
 | nil => intro vs he; simp [opds] at he; subst he; exact LRel.nil _
 | cons x l ih =>
  intro vs he; simp only [opds] at he; cases hx : opd T H x with
  | none => rw [hx] at he; simp at he
  | some v =>
   rw [hx] at he; cases hl : opds T H l with
   | none => rw [hl] at he; simp at he
   | some r => rw [hl] at he; simp at he; subst he; exact LRel.cons (opd_sound h ht hx) (ih hl)
theorem opds_mem : ∀ {l : List Operand} {vs : List Value}, opds T H l = some vs → ∀ x ∈ l, ∃ v, opd T H x = some v ∧ v ∈ vs := by
 intro l; induction l with
 | nil => intro vs he x hx; simp at hx
 | cons y l ih =>
  intro vs he x hx; simp only [opds] at he; cases hy : opd T H y with
  | none => rw [hy] at he; simp at he
  | some v =>
   rw [hy] at he; cases hl : opds T H l with
   | none => rw [hl] at he; simp at he
   | some r =>
    rw [hl] at he; simp at he; subst he; rcases List.mem_cons.1 hx with rfl | hx
    ·
     exact ⟨v, hy, by simp⟩
    ·
     obtain ⟨u, a, b⟩ := ih hl x hx; exact ⟨u, a, by simp [b]⟩
theorem pairs_sound (h : HRel P B w0 μ H w) (ht : TRel μ T n tmps) : ∀ {l : List (Nat × Operand)} {ps : List (Nat × Value)}, pairs T H l = some ps → PRel μ ps (l.map fun (i, x) => (i, rho tmps x)) := by
 intro l; induction l with
 | nil => intro vs he; simp [pairs] at he; subst he; exact ⟨rfl, fun i p p' q => by simp at q⟩
 | cons x l ih =>
  intro vs he; obtain ⟨i, x⟩ := x; simp only [pairs] at he; cases hx : opd T H x with
  | none => rw [hx] at he; simp at he
  | some v =>
   rw [hx] at he; cases hl : pairs T H l with
   | none => rw [hl] at he; simp at he
   | some r =>
    rw [hl] at he; simp at he; subst he; have := ih hl; refine ⟨by simp [this.1], fun j p p' q q' => ?_⟩; cases j with
    | zero => simp at q q'; subst q; subst q'; exact ⟨rfl, opd_sound h ht hx⟩
    | succ j => exact this.2 j p p' (by simpa using q) (by simpa using q')
def OpOk (P : Program) (B : Nat → Prop) (w0 : World) (call : CallEv) (yld : YieldEv) (μ : Mp) (H : Hp) (w : World) (s : Sem Next) : OpRes → Prop
 | .val v H' => (∃ v' w' μ', s.run P w = .ok (.value v') w' ∧ HRel P B w0 μ' H' w' ∧ Step μ μ' H H' ∧ VRel μ' v v') ∨
   (∃ f args args', s.run P w = (callFunc f args'.toArray).run P w ∧ LRel μ args args' ∧ call f args H = some (.returned v, H')) ∨
   (∃ l L args args', μ l = some L ∧ s.run P w = (Instr.yield L.r args'.toArray).run P w ∧ LRel μ args args' ∧ yld l args H = some (.returned v, H'))
 | .skip H' => ∃ w', s.run P w = .ok .skip w' ∧ HRel P B w0 μ H' w' ∧ Step μ μ H H'
 | .dfr d => ∃ fv cap cap' args args', d = { target := .fn fv cap, args := args.toArray } ∧ s.run P w = .ok (.defer { target := .fn fv cap', args := args'.toArray }) w ∧ notYield fv = true ∧ LRel μ cap.toList cap'.toList ∧ LRel μ args args'
 | .pan chain H' => (∃ v v', chain = [{ v := v, recovered := false }] ∧ H' = H ∧ s.run P w = .halt (.panic v') w ∧ VRel μ v v') ∨
   (∃ f args args', s.run P w = (callFunc f args'.toArray).run P w ∧ LRel μ args args' ∧ call f args H = some (.panicked chain, H'))
 | .rcv => s.run P w = .ok .recover w
variable {call : CallEv} {yld : YieldEv} {o : Oper} {S : St}
theorem opOk_val {s : Sem Value} {x : Option Value} {r : OpRes} (h : HRel P B w0 μ H w) (hs : ∀ v, x = some v → ∃ v', s.run P w = .ok v' w ∧ VRel μ v v') (he : vRes x H = some r) :
  OpOk P B w0 call yld μ H w (do pure (.value (← s))) r := by
 cases x with
 | none => cases he
 | some v =>
  have he : some (OpRes.val v H) = some r := he; injection he with he; subst he
  obtain ⟨v', a, b⟩ := hs v rfl; exact .inl ⟨v', w, μ, by simp [a], h, Step.refl _ _, b⟩
theorem opOk_vh {s : Sem Value} {x : Option (Value × Hp)} {r : OpRes} (hs : ∀ v H', x = some (v, H') → ∃ v' w' μ', s.run P w = .ok v' w' ∧ HRel P B w0 μ' H' w' ∧ Step μ μ' H H' ∧ VRel μ' v v') (he : vhRes x = some r) :
  OpOk P B w0 call yld μ H w (do pure (.value (← s))) r := by
 cases x with
 | none => cases he
 | some p =>
  obtain ⟨v, H'⟩ := p; have he : some (OpRes.val v H') = some r := he; injection he with he; subst he
  obtain ⟨v', w', μ', a, b, c, d⟩ := hs v H' rfl; exact .inl ⟨v', w', μ', by simp [a], b, c, d⟩
theorem opOk_h {s : Sem Unit} {x : Option Hp} {r : OpRes} (hs : ∀ H', x = some H' → ∃ w', s.run P w = .ok () w' ∧ HRel P B w0 μ H' w' ∧ Step μ μ H H') (he : hRes x = some r) :
  OpOk P B w0 call yld μ H w (do s; pure .skip) r := by
 cases x with
 | none => cases he
 | some H' =>
  have he : some (OpRes.skip H') = some r := he; injection he with he; subst he
  obtain ⟨w', a, b, c⟩ := hs H' rfl; exact ⟨w', by simp [a], b, c⟩
theorem evPlain_sound (h : HRel P B w0 μ H w) (ht : TRel μ T n tmps) (hsel : ∀ cs b, o.op ≠ .select cs b) {r : OpRes} (he : evPlain P T H o = some r) : OpOk P B w0 call yld μ H w (execOp (rho tmps) o) r := by
 unfold evPlain at he; cases ho : opds T H o.op.operands.toList with
 | none => rw [ho] at he; simp at he
 | some vs =>
  rw [ho] at he; simp only at he; cases hp : vs.all plain with
  | false => rw [hp] at he; simp at he
  | true =>
   rw [hp, cond_true] at he; have hcong : execOp (opdOr T H) o = execOp (rho tmps) o := execOp_congr o hsel fun x hx => by
    obtain ⟨v, a, b⟩ := opds_mem ho x (by simpa using hx); unfold opdOr; rw [a]; exact (plain_eq (List.all_eq_true.1 hp v b) (opd_sound h ht a)).symm
   rw [hcong] at he; cases hev : evPure P (execOp (rho tmps) o) with
   | none => rw [hev] at he; simp at he
   | some nx =>
    rw [hev] at he; have hrun := evPure_run hev w; cases nx with
    | value v =>
     simp only at he; cases hv : plain v with
     | false => rw [hv] at he; simp at he
     | true =>
      rw [hv, cond_true] at he; simp only [Option.some.injEq] at he; subst he; exact .inl ⟨v, w, μ, hrun, h, Step.refl _ _, plain_rel hv⟩
    | skip =>
     simp only [Option.some.injEq] at he; subst he; exact ⟨w, hrun, h, Step.refl _ _⟩
    | _ => simp at he
end
end Go.Cre
namespace Go.Cre
open Go.RowKit
section
variable {P : Program} {B : Nat → Prop} {w0 w : World} {μ : Mp} {H H' : Hp} {n : Nat} {tmps : Array Value}
variable {call : CallEv} {yld : YieldEv} {o : Oper} {S : St}
theorem forceInt_eq {α : Type} (n : Int) (k : Int → α) : forceInt n k = k n := by
 cases n with
 | ofNat m => cases m <;> rfl
 | negSucc m => cases m <;> rfl
theorem wrapF_eq (k : IntKind) (n : Int) : wrapF k n = k.wrap n := by
 unfold wrapF; cases n with
 | ofNat m =>
  simp only
  cases hb : Nat.blt m (limOf k) with
  | false => rfl
  | true =>
   have hb : m < limOf k := Nat.le_of_ble_eq_true hb; simp only [cond_true]; cases k <;> simp only [limOf] at hb <;> simp [IntKind.wrap, IntKind.bits, IntKind.signed] <;> omega
 | negSucc m =>
  simp only
  cases hb : (k.signed && Nat.blt m (limOf k)) with
  | false => rfl
  | true =>
   simp only [Bool.and_eq_true] at hb; have hs := hb.1; have hb : m < limOf k := Nat.le_of_ble_eq_true hb.2; simp only [cond_true]; cases k with
   | i64 => simp only [limOf] at hb; rw [IntKind.wrap_i64, Int.negSucc_eq]; omega
   | i32 => simp only [limOf] at hb; rw [IntKind.wrap_i32, Int.negSucc_eq]; omega
   | i8 => simp [limOf] at hb
   | i16 => simp [limOf] at hb
   | _ => cases hs
theorem intLt_eq (a b : Int) : intLt a b = decide (a < b) := by
 cases a with
 | ofNat a => cases b with
  | ofNat b =>
   simp only [intLt]; have : Nat.blt a b = decide (a < b) := by
    by_cases h : a < b
    ·
     rw [decide_eq_true h]; exact Nat.ble_eq_true_of_le h
    ·
     rw [decide_eq_false h]; cases q : Nat.blt a b
     ·
      rfl
     ·
      exact absurd (Nat.le_of_ble_eq_true q) h
   rw [this]; simp
  | negSucc b => simp [intLt]; omega
 | negSucc a => cases b with
  | ofNat b => simp [intLt]; omega
  | negSucc b =>
   simp only [intLt]; by_cases h : b < a
   ·
    have : Nat.blt b a = true := Nat.ble_eq_true_of_le h; rw [this, eq_comm, decide_eq_true_eq]; omega
   ·
    have : Nat.blt b a = false := by
     cases q : Nat.blt b a
     ·
      rfl
     ·
      exact absurd (Nat.le_of_ble_eq_true q) h
    rw [this, eq_comm, decide_eq_false_iff_not]; omega
theorem intEq_eq (a b : Int) : intEq a b = (a == b) := by
  rw [Bool.eq_iff_iff, beq_iff_eq]; cases a with
  | ofNat a => cases b with
    | ofNat b => simp only [intEq]; constructor
                 · intro h; rw [Nat.eq_of_beq_eq_true h]
                 · intro h; injection h with h; rw [h]; exact Nat.beq_refl b
    | negSucc b => simp [intEq]
  | negSucc a => cases b with
    | ofNat b => simp [intEq]
    | negSucc b => simp only [intEq]; constructor
                   · intro h; rw [Nat.eq_of_beq_eq_true h]
                   · intro h; injection h with h; rw [h]; exact Nat.beq_refl b
theorem kindEq_eq {a b : IntKind} (h : kindEq a b = true) : a = b := by cases a <;> cases b <;> first | rfl | cases h
theorem retBool_eq (H : Hp) (b : Bool) : retBool H b = some (.val (.bool b) H) := by cases b <;> rfl
theorem intBin_sound (h : HRel P B w0 μ H w) {k : IntKind} {a b : Int} {slow : Option OpRes} {op : BinOp} {t : TypeId} {x y : Operand} {r : OpRes} (hx : rho tmps x = .int k a) (hy : rho tmps y = .int k b) (ho : ∃ yt, o.op = .binOp op t x y yt)
  (hslow : slow = some r → OpOk P B w0 call yld μ H w (execOp (rho tmps) o) r) (he : intBin H k a b slow op = some r) : OpOk P B w0 call yld μ H w (execOp (rho tmps) o) r := by
 obtain ⟨yt, ho⟩ := ho; have hg : (eqGuard op t x y (.int k a) (.int k b)).run P w = .ok () w := by cases op <;> simp [eqGuard]
 have fin : ∀ v, (binOp op t (.int k a) (.int k b)).run P w = .ok v w → isAtom v = true → some (OpRes.val v H) = some r → OpOk P B w0 call yld μ H w (execOp (rho tmps) o) r := by
  intro v hv ha hr; injection hr with hr; subst hr
  refine .inl ⟨v, w, μ, ?_, h, Step.refl _ _, .atom _ ha⟩; simp [execOp, ho, hx, hy, hg, hv]
 cases op with
 | add => simp only [intBin, forceInt_eq, wrapF_eq, retInt] at he; exact fin _ (by simp [binOp, Op.intArith]) rfl he
 | sub => simp only [intBin, forceInt_eq, wrapF_eq, retInt] at he; exact fin _ (by simp [binOp, Op.intArith]) rfl he
 | mul => simp only [intBin, forceInt_eq, wrapF_eq, retInt] at he; exact fin _ (by simp [binOp, Op.intArith]) rfl he
 | eql => simp only [intBin, retBool_eq, intEq_eq] at he; exact fin _ (by simp [binOp, Op.intCmp]) rfl he
 | neq => simp only [intBin, retBool_eq, intEq_eq] at he; exact fin _ (by simp [binOp, Op.intCmp, bne]) rfl he
 | lss => simp only [intBin, retBool_eq, intLt_eq] at he; exact fin _ (by simp [binOp, Op.intCmp]) rfl he
 | leq => simp only [intBin, retBool_eq, intLt_eq] at he; exact fin _ (by simp [binOp, Op.intCmp]; rw [← decide_not]; exact decide_eq_decide.2 (by omega)) rfl he
 | gtr => simp only [intBin, retBool_eq, intLt_eq] at he; exact fin _ (by simp [binOp, Op.intCmp]) rfl he
 | geq => simp only [intBin, retBool_eq, intLt_eq] at he; exact fin _ (by simp [binOp, Op.intCmp]; rw [← decide_not]; exact decide_eq_decide.2 (by omega)) rfl he
 | _ => exact hslow he
end
end Go.Cre
namespace Go.Cre
open Go.RowKit
section
variable {P : Program} {B : Nat → Prop} {w0 w : World} {μ : Mp} {H H' : Hp} {n : Nat} {tmps : Array Value}
variable {call : CallEv} {yld : YieldEv} {o : Oper} {S : St}
theorem VRel.func_inv {fn : Fn} {a b : Array Value} {v : Value} (h : VRel μ (.func fn a b) v) :
  (∃ a' b', v = .func fn a' b' ∧ notYield fn = true ∧ LRel μ a.toList a'.toList ∧ LRel μ b.toList b'.toList) ∨ (∃ l L, fn = .yield l ∧ μ l = some L ∧ a = #[] ∧ b = #[] ∧ v = .func (.yield L.r) #[] #[]) := by
 cases h with
 | atom _ q => simp [isAtom] at q
 | func fn a b a' b' hy ha hb hra hrb =>
  exact .inl ⟨a', b', rfl, hy, ⟨by simpa using ha, fun i v v' x y => hra i v v' (by simpa using x) (by simpa using y)⟩, ⟨by simpa using hb, fun i v v' x y => hrb i v v' (by simpa using x) (by simpa using y)⟩⟩
 | yield l L hL => exact .inr ⟨l, L, rfl, hL, rfl, rfl, rfl⟩
theorem evMethod_sound {recv recv' : Value} {name : String} {rest rest' : List Value} {f : FuncId} {as : List Value} (hr : VRel μ recv recv') (hl : LRel μ rest rest') (he : evMethod P H recv name rest = some (f, as)) :
  ∃ as', (callMethod recv' name rest'.toArray).run P w = (callFunc f as'.toArray).run P w ∧ LRel μ as as' := by
 unfold evMethod at he; cases recv with
 | iface t v =>
  obtain ⟨v', rfl, hv⟩ := hr.iface_inv; simp only at he; cases hi : P.info? t with
  | none => rw [hi] at he; simp at he
  | some i =>
   rw [hi] at he; simp only at he; cases hm : i.methods.find? (·.name == name) with
   | none => rw [hm] at he; simp at he
   | some m =>
    rw [hm] at he; simp only at he; cases hp : m.path.isEmpty with
    | false => rw [hp] at he; simp at he
    | true =>
     rw [hp] at he; simp only [Bool.not_true, cond_false] at he; have hpath : m.path = #[] := by simpa using hp
     cases hf : m.func with
     | none => rw [hf] at he; simp at he
     | some q =>
      obtain ⟨g, pr⟩ := q; rw [hf] at he; simp only at he; have key : ∀ u', (∀ nm, (receiverAt t (.val v') pr nm).run P w = .ok u' w) → f = g → (callMethod (.iface t v') name rest'.toArray).run P w = (callFunc f (u' :: rest').toArray).run P w := by
       intro u' hu' hfg; subst hfg; have hmeth : (method (P.types.size + Made.depth) t v' name).run P w = .ok (f, u') w := by
        have : P.types.size + Made.depth = (P.types.size + 99) + 1 := rfl; rw [this]; generalize P.types.size + 99 = k; simp [method, typeInfo, hi, hm, hpath, follow, hf, hu']
       simp [callMethod, hmeth]
      cases hu : P.underlying t with
      | none => rw [hu] at he; simp at he
      | some d =>
       rw [hu] at he; cases d with
       | pointer elem =>
        cases pr with
        | true =>
         simp only [Option.some.injEq, Prod.mk.injEq] at he; obtain ⟨rfl, rfl⟩ := he; exact ⟨v' :: rest', key v' (fun nm => by simp [receiverAt, und_run hu, Place.get]) rfl, LRel.cons hv hl⟩
        | false => simp at he
       | _ =>
        cases pr with
        | true => simp at he
        | false =>
         simp only [Option.some.injEq, Prod.mk.injEq] at he; obtain ⟨rfl, rfl⟩ := he; exact ⟨v' :: rest', key v' (fun nm => by simp [receiverAt, und_run hu, Place.get]) rfl, LRel.cons hv hl⟩
 | _ => simp at he
theorem evFn_sound {fn : Fn} {args args' cap cap' : List Value} {f : FuncId} {as : List Value} (ha : LRel μ args args') (hc : LRel μ cap cap') (he : evFn P H fn args cap = some (f, as)) :
  ∃ as', (invoke (.fn fn cap'.toArray) args'.toArray).run P w = (callFunc f as'.toArray).run P w ∧ LRel μ as as' := by
 unfold evFn at he; cases fn with
 | func g =>
  simp only [Option.some.injEq, Prod.mk.injEq] at he; obtain ⟨rfl, rfl⟩ := he; refine ⟨args' ++ cap', ?_, ha.append hc⟩; simp [invoke]
 | method name =>
  cases args with
  | nil => simp at he
  | cons r rest =>
   obtain ⟨r', rest', rfl, h1, h2⟩ := ha.inv_cons; obtain ⟨as', a, b⟩ := evMethod_sound (w := w) h1 h2 he; refine ⟨as', ?_, b⟩; rw [← a]; simp [invoke]
 | methodOf t name =>
  cases args with
  | nil => simp at he
  | cons r rest =>
   obtain ⟨r', rest', rfl, h1, h2⟩ := ha.inv_cons; simp only at he; cases hu : P.underlying t with
   | none => rw [hu] at he; simp at he
   | some d =>
    rw [hu] at he; by_cases hd : ∃ ms, d = .interface ms
    ·
     obtain ⟨ms, rfl⟩ := hd; obtain ⟨as', a, b⟩ := evMethod_sound (w := w) h1 h2 he; refine ⟨as', ?_, b⟩; rw [← a]; simp [invoke, und_run hu]
    ·
     have he' : evMethod P H (.iface t r) name rest = some (f, as) := by
      cases d <;> first | exact he | exact absurd ⟨_, rfl⟩ hd
     obtain ⟨as', a, b⟩ := evMethod_sound (w := w) (.iface t r r' h1) h2 he'; refine ⟨as', ?_, b⟩; rw [← a]; cases d <;> first | exact absurd ⟨_, rfl⟩ hd | simp [invoke, und_run hu]
 | _ => simp at he
theorem evCallee_sound (h : HRel P B w0 μ H w) (ht : TRel μ S.T n tmps) {c : Call} {r : OpRes} (hc : o.op = .call c) (hnb : ∀ b, c.callee ≠ .builtin b) (he : evCallee P call yld S.T H c = some r) : OpOk P B w0 call yld μ H w (execOp (rho tmps) o) r := by
 unfold evCallee at he; have hargs : ∀ args, opds S.T H c.args.toList = some args → LRel μ args (c.args.map (rho tmps)).toList := fun args q => by
  have := opds_sound h ht q; simpa using this
 have fin : ∀ f as as', (execOp (rho tmps) o).run P w = (callFunc f as'.toArray).run P w → LRel μ as as' → endRes (call f as H) = some r → OpOk P B w0 call yld μ H w (execOp (rho tmps) o) r := by
  intro f as as' h1 h2 h3; cases hcall : call f as H with
  | none => rw [hcall] at h3; simp [endRes] at h3
  | some p =>
   obtain ⟨e, H1⟩ := p; rw [hcall] at h3; cases e with
   | returned v => simp [endRes] at h3; subst h3; exact .inr (.inl ⟨f, as, as', h1, h2, hcall⟩)
   | panicked ch => simp [endRes] at h3; subst h3; exact .inr ⟨f, as, as', h1, h2, hcall⟩
   | outgrown => simp [endRes] at h3
 cases ha : opds S.T H c.args.toList with
 | none => rw [ha] at he; simp at he
 | some args =>
  rw [ha] at he; simp only at he; have hl := hargs args ha; cases hcal : c.callee with
  | builtin b => exact absurd hcal (hnb b)
  | invoke recv name =>
   rw [hcal] at he; simp only at he; cases hr : opd S.T H recv with
   | none => rw [hr] at he; simp at he
   | some rv =>
    rw [hr] at he; simp only at he; cases hm : evMethod P H rv name args with
    | none => rw [hm] at he; simp at he
    | some p =>
     obtain ⟨f, as⟩ := p; rw [hm] at he; obtain ⟨as', a1, a2⟩ := evMethod_sound (w := w) (opd_sound h ht hr) hl hm; refine fin f as as' ?_ a2 he; rw [← a1]; have e0 : (#[rho tmps recv] ++ Array.map (rho tmps) c.args)[0]? = some (rho tmps recv) := by rw [Array.getElem?_append_left (by simp)]; rfl
     have e1 : (Array.map (rho tmps) c.args).extract 0 c.args.size = (List.map (rho tmps) c.args.toList).toArray := by apply Array.ext'; simp; exact List.take_of_length_le (by simp)
     simp [execOp, hc, resolve, hcal, invoke, e0, e1]
  | value fo =>
   rw [hcal] at he; simp only at he; cases hf : opd S.T H fo with
   | none => rw [hf] at he; simp at he
   | some fv =>
    rw [hf] at he; have hfr := opd_sound h ht hf; cases fv with
    | func fn first captured =>
     rcases hfr.func_inv with ⟨a', b', hv, hny, h1, h2⟩ | ⟨l, L, rfl, hL, rfl, rfl, hv⟩
     ·
      have he' : (match evFn P H fn (first.toList ++ args) captured.toList with | some (f, as) => endRes (call f as H) | none => none) = some r := by
       cases fn <;> first | exact he | (simp [notYield] at hny)
      cases hm : evFn P H fn (first.toList ++ args) captured.toList with
      | none => rw [hm] at he'; simp at he'
      | some p =>
       obtain ⟨f, as⟩ := p; rw [hm] at he'; obtain ⟨as', a1, a2⟩ := evFn_sound (w := w) (h1.append hl) h2 hm; refine fin f as as' ?_ a2 he'; rw [← a1]; have e1 : (a'.toList ++ (c.args.map (rho tmps)).toList).toArray = a' ++ c.args.map (rho tmps) := by apply Array.ext'; simp
       have e2 : b'.toList.toArray = b' := by simp
       rw [e1, e2]; simp [execOp, hc, resolve, hcal, Deferred.ofValue, hv]
     ·
      simp only [Array.isEmpty_empty, Bool.and_self, cond_true] at he; cases hy : yld l args H with
      | none => rw [hy] at he; simp [yldRes] at he
      | some p =>
       obtain ⟨e, H1⟩ := p; rw [hy] at he; cases e with
       | returned v =>
        simp [yldRes] at he; subst he; refine .inr (.inr ⟨l, L, args, (c.args.map (rho tmps)).toList, hL, ?_, hl, hy⟩); have e1 : (List.map (rho tmps) c.args.toList).toArray = c.args.map (rho tmps) := by apply Array.ext'; simp
        simp [execOp, hc, resolve, hcal, Deferred.ofValue, hv, invoke, e1]
       | panicked ch => simp [yldRes] at he
       | outgrown => simp [yldRes] at he
    | _ => simp at he
end
end Go.Cre

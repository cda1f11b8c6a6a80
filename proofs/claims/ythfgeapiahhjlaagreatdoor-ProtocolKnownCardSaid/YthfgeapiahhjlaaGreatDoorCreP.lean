/- A part of a verified evaluator of closed calls: see YthfgeapiahhjlaaGreatDoorCreZ. -/
import Derived.Test.YthfgeapiahhjlaaGreatDoorCreO
import Derived.Laws.BitsLemmas
set_option linter.unusedVariables false
set_option linter.unusedSimpArgs false
namespace Go.Cre
open Go.RowKit

section
variable {P : Program} {B : Nat → Prop} {w0 w : World} {μ : Mp} {H H' : Hp} {n : Nat} {tmps : Array Value}
variable {call : CallEv} {yld : YieldEv} {o : Oper} {S : St}

/-! ### The quick ways with numbers -/
theorem forceInt_eq {α : Type} (n : Int) (k : Int → α) : forceInt n k = k n := by
  cases n with
  | ofNat m => cases m <;> rfl
  | negSucc m => cases m <;> rfl

theorem wrapF_eq (k : IntKind) (n : Int) : wrapF k n = k.wrap n := by
  unfold wrapF
  cases n with
  | ofNat m =>
    simp only
    cases hb : Nat.blt m (limOf k) with
    | false => rfl
    | true =>
      have hb : m < limOf k := Nat.le_of_ble_eq_true hb
      simp only [cond_true]
      cases k <;> simp only [limOf] at hb <;> simp [IntKind.wrap, IntKind.bits, IntKind.signed] <;> omega
  | negSucc m =>
    simp only
    cases hb : (k.signed && Nat.blt m (limOf k)) with
    | false => rfl
    | true =>
      simp only [Bool.and_eq_true] at hb
      have hs := hb.1
      have hb : m < limOf k := Nat.le_of_ble_eq_true hb.2
      simp only [cond_true]
      cases k with
      | i64 => simp only [limOf] at hb; rw [IntKind.wrap_i64, Int.negSucc_eq]; omega
      | i32 => simp only [limOf] at hb; rw [IntKind.wrap_i32, Int.negSucc_eq]; omega
      | i8 => simp [limOf] at hb
      | i16 => simp [limOf] at hb
      | _ => cases hs

theorem intLt_eq (a b : Int) : intLt a b = decide (a < b) := by
  cases a with
  | ofNat a => cases b with
    | ofNat b =>
      simp only [intLt]
      have : Nat.blt a b = decide (a < b) := by
        by_cases h : a < b
        · rw [decide_eq_true h]; exact Nat.ble_eq_true_of_le h
        · rw [decide_eq_false h]
          cases q : Nat.blt a b
          · rfl
          · exact absurd (Nat.le_of_ble_eq_true q) h
      rw [this]; simp
    | negSucc b => simp [intLt]; omega
  | negSucc a => cases b with
    | ofNat b => simp [intLt]; omega
    | negSucc b =>
      simp only [intLt]
      by_cases h : b < a
      · have : Nat.blt b a = true := Nat.ble_eq_true_of_le h
        rw [this, eq_comm, decide_eq_true_eq]; omega
      · have : Nat.blt b a = false := by
          cases q : Nat.blt b a
          · rfl
          · exact absurd (Nat.le_of_ble_eq_true q) h
        rw [this, eq_comm, decide_eq_false_iff_not]; omega
theorem intEq_eq (a b : Int) : intEq a b = (a == b) := by
  rw [Bool.eq_iff_iff, beq_iff_eq]
  cases a with
  | ofNat a => cases b with
    | ofNat b => simp only [intEq]; constructor
                 · intro h; rw [Nat.eq_of_beq_eq_true h]
                 · intro h; injection h with h; rw [h]; exact Nat.beq_refl b
    | negSucc b => simp [intEq]
  | negSucc a => cases b with
    | ofNat b => simp [intEq]
    | negSucc b => simp only [intEq]; constructor
                   · intro h; rw [Nat.eq_of_beq_eq_true h]
                   · intro h; injection h with h; rw [h]; exact Nat.beq_refl b
theorem kindEq_eq {a b : IntKind} (h : kindEq a b = true) : a = b := by cases a <;> cases b <;> first | rfl | cases h

theorem retBool_eq (H : Hp) (b : Bool) : retBool H b = some (.val (.bool b) H) := by cases b <;> rfl

/-- two numbers of one kind -/
theorem intBin_sound (h : HRel P B w0 μ H w) {k : IntKind} {a b : Int} {slow : Option OpRes} {op : BinOp} {t : TypeId} {x y : Operand} {r : OpRes} (hx : rho tmps x = .int k a) (hy : rho tmps y = .int k b) (ho : ∃ yt, o.op = .binOp op t x y yt)
    (hslow : slow = some r → OpOk P B w0 call yld μ H w (execOp (rho tmps) o) r) (he : intBin H k a b slow op = some r) : OpOk P B w0 call yld μ H w (execOp (rho tmps) o) r := by
  obtain ⟨yt, ho⟩ := ho
  have hg : (eqGuard op t x y (.int k a) (.int k b)).run P w = .ok () w := by cases op <;> simp [eqGuard]
  have fin : ∀ v, (binOp op t (.int k a) (.int k b)).run P w = .ok v w → isAtom v = true → some (OpRes.val v H) = some r → OpOk P B w0 call yld μ H w (execOp (rho tmps) o) r := by
    intro v hv ha hr
    injection hr with hr; subst hr
    refine .inl ⟨v, w, μ, ?_, h, Step.refl _ _, .atom _ ha⟩
    simp [execOp, ho, hx, hy, hg, hv]
  cases op with
  | add => simp only [intBin, forceInt_eq, wrapF_eq, retInt] at he; exact fin _ (by simp [binOp, Op.intArith]) rfl he
  | sub => simp only [intBin, forceInt_eq, wrapF_eq, retInt] at he; exact fin _ (by simp [binOp, Op.intArith]) rfl he
  | mul => simp only [intBin, forceInt_eq, wrapF_eq, retInt] at he; exact fin _ (by simp [binOp, Op.intArith]) rfl he
  | eql => simp only [intBin, retBool_eq, intEq_eq] at he; exact fin _ (by simp [binOp, Op.intCmp]) rfl he
  | neq => simp only [intBin, retBool_eq, intEq_eq] at he; exact fin _ (by simp [binOp, Op.intCmp, bne]) rfl he
  | lss => simp only [intBin, retBool_eq, intLt_eq] at he; exact fin _ (by simp [binOp, Op.intCmp]) rfl he
  | leq => simp only [intBin, retBool_eq, intLt_eq] at he; exact fin _ (by simp [binOp, Op.intCmp]; rw [← decide_not]; exact decide_eq_decide.2 (by omega)) rfl he
  | gtr => simp only [intBin, retBool_eq, intLt_eq] at he; exact fin _ (by simp [binOp, Op.intCmp]) rfl he
  | geq => simp only [intBin, retBool_eq, intLt_eq] at he; exact fin _ (by simp [binOp, Op.intCmp]; rw [← decide_not]; exact decide_eq_decide.2 (by omega)) rfl he
  | _ => exact hslow he
end
end Go.Cre

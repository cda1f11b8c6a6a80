/- A part of a verified evaluator of closed calls: see YthfgeapiahhjlaaGreatDoorCreZ. -/
import Derived.Test.YthfgeapiahhjlaaGreatDoorCreX3
set_option linter.unusedVariables false
set_option linter.unusedSimpArgs false
namespace Go.Cre
open Go.RowKit

/-! ### Bits -/
theorem tb_or (a b i : Nat) : Nat.testBit (Nat.lor a b) i = (a.testBit i || b.testBit i) := Nat.testBit_or a b i
theorem tb_and (a b i : Nat) : Nat.testBit (Nat.land a b) i = (a.testBit i && b.testBit i) := Nat.testBit_and a b i
theorem tb_pow (i j : Nat) : Nat.testBit (Nat.pow 2 i) j = decide (i = j) := Nat.testBit_two_pow (n := i) (m := j)
theorem tb_ins {C i j : Nat} : Nat.testBit (Nat.lor C (Nat.pow 2 i)) j = true ↔ Nat.testBit C j = true ∨ i = j := by
  rw [tb_or, tb_pow]; simp
theorem sub_spec {a b : Nat} (h : sub a b = true) {i : Nat} (hi : a.testBit i = true) : b.testBit i = true := by
  have h := Nat.eq_of_beq_eq_true h
  rw [← h, tb_and] at hi
  simp at hi; exact hi.2

theorem edgeMask_spec {l : List Edge} {i : Nat} : (edgeMask l).testBit i = true ↔ ∃ e ∈ l, Region.binds .any e = true ∧ e.on = i := by
  induction l with
  | nil => simp [edgeMask]
  | cons e l ih =>
    simp only [edgeMask]
    cases hb : Region.binds .any e with
    | false => simp [ih, hb]
    | true => rw [cond_true, tb_or, tb_pow]; simp [ih, hb]

theorem maskOf_spec {l : List Nat} {i : Nat} : (maskOf l).testBit i = true ↔ i ∈ l := by
  induction l with
  | nil => simp [maskOf]
  | cons e l ih =>
    simp only [maskOf]
    rw [tb_or, tb_pow, Bool.or_eq_true, ih, List.mem_cons, decide_eq_true_iff]
    exact ⟨fun q => q.imp Eq.symm id, fun q => q.imp Eq.symm id⟩

theorem isIn_spec {C : Nat} : ∀ {n : Nat}, isIn C n = true → ∀ i, i < n → C.testBit i = true := by
  intro n
  induction n with
  | zero => intro _ i hi; omega
  | succ n ih =>
    intro h i hi
    simp only [isIn, Bool.and_eq_true] at h
    by_cases e : i = n
    · subst e; exact h.1
    · exact ih h.2 i (by omega)

theorem only_spec {C i : Nat} : ∀ {l : List Oper} {k : Nat}, only C i l k = true → ∀ j o, l[j]? = some o → C.testBit (k + j) = true ∨ k + j = i ∨ sub (Oper.mask o) C = false := by
  intro l
  induction l with
  | nil => intro k _ j o h; simp at h
  | cons a l ih =>
    intro k h j o ho
    simp only [only, Bool.and_eq_true, Bool.or_eq_true, Bool.not_eq_true'] at h
    cases j with
    | zero =>
      simp at ho; subst ho
      rcases h.1 with (q | q) | q
      · exact .inl q
      · exact .inr (.inl (Nat.eq_of_beq_eq_true q))
      · exact .inr (.inr q)
    | succ j =>
      have := ih h.2 j o (by simpa using ho)
      have e : k + 1 + j = k + (j + 1) := by omega
      rw [e] at this; exact this

theorem allVal_spec {ch al C : Nat} : ∀ {l : List Nat}, allVal ch al C l = true → ∀ i ∈ l, C.testBit i = true ∧ al.testBit i = false := by
  intro l
  induction l with
  | nil => intro _ i hi; simp at hi
  | cons a l ih =>
    intro h i hi
    simp only [allVal, Bool.and_eq_true, Bool.not_eq_true'] at h
    rcases List.mem_cons.1 hi with rfl | hi
    · exact h.1
    · exact ih h.2 i hi

theorem closeK_spec {ops : List Oper} {D : Nat → Bool} (hd : ∀ i o j, D i = true → ops[i]? = some o → (Oper.mask o).testBit j = true → D j = true) : ∀ {n K : Nat}, (∀ i, K.testBit i = true → D i = true) → ∀ i, (closeK ops n K).testBit i = true → D i = true := by
  intro n
  induction n with
  | zero => intro K h i hi; exact h i hi
  | succ n ih =>
    intro K h i hi
    simp only [closeK] at hi
    refine ih (fun j hj => ?_) i hi
    cases hb : K.testBit n with
    | false => rw [hb] at hj; exact h j hj
    | true =>
      rw [hb, cond_true] at hj
      rw [nth_eq] at hj
      cases ho : ops[n]? with
      | none => rw [ho] at hj; exact h j hj
      | some o =>
        rw [ho] at hj
        simp only at hj
        rw [tb_or] at hj
        simp only [Bool.or_eq_true] at hj
        rcases hj with q | q
        · exact h j q
        · exact hd n o j (h n hb) ho q

theorem allocM_spec {l : List Oper} : ∀ {k j : Nat} {o : Oper}, l[j]? = some o → isAllocOp o.op = true → (allocM l k).testBit (k + j) = true := by
  induction l with
  | nil => intro k j o h; simp at h
  | cons a l ih =>
    intro k j o ho ha
    simp only [allocM]
    rw [tb_or]
    cases j with
    | zero => simp at ho; subst ho; rw [ha, cond_true, tb_pow]; simp
    | succ j =>
      have := ih (k := k + 1) (by simpa using ho) ha
      have e : k + 1 + j = k + (j + 1) := by omega
      rw [e] at this; rw [this]; simp

structure SOk (ops : List Oper) (ch : Nat) : Prop where
  dst : ∀ (i j : Nat) a b d, ops[i]? = some a → ops[j]? = some b → i ≠ j → a.dst = some d → b.dst ≠ some d
  look : ∀ (i j : Nat) a b d, ops[i]? = some a → ops[j]? = some b → a.dst = some d → d ∈ looks ops b → (Oper.mask b).testBit i = true ∨ (ch.testBit i = true ∧ (i = j ∨ (Oper.mask a).testBit j = true))
  down : ∀ (i : Nat) a j, ops[i]? = some a → (Oper.mask a).testBit j = true → j < i
  chn : ∀ (i : Nat) a, ops[i]? = some a → ch.testBit i = false → isChain0 a.op = false

theorem pairsOk2_spec {ops : List Oper} {ch i : Nat} {a : Oper} : ∀ {l : List Oper} {k : Nat}, pairsOk2 ops ch i a l k = true → ∀ j b, l[j]? = some b → pairOk ops ch i (k + j) a b = true := by
  intro l
  induction l with
  | nil => intro k _ j b h; simp at h
  | cons c l ih =>
    intro k h j b hb
    simp only [pairsOk2, Bool.and_eq_true] at h
    cases j with
    | zero => simp at hb; subst hb; exact h.1
    | succ j =>
      have := ih h.2 j b (by simpa using hb)
      have e : k + 1 + j = k + (j + 1) := by omega
      rw [e] at this; exact this

theorem pairsOk_spec {ops : List Oper} {ch : Nat} : ∀ {l : List Oper} {k : Nat}, pairsOk ops ch l k = true → ∀ i a, l[i]? = some a →
    (∀ j b, ops[j]? = some b → pairOk ops ch (k + i) j a b = true) ∧ (Oper.mask a) < 2 ^ (k + i) ∧ (ch.testBit (k + i) = true ∨ isChain0 a.op = false) := by
  intro l
  induction l with
  | nil => intro k _ i a h; simp at h
  | cons c l ih =>
    intro k h i a ha
    simp only [pairsOk, Bool.and_eq_true, Bool.or_eq_true, Bool.not_eq_true'] at h
    cases i with
    | zero =>
      simp at ha; subst ha
      refine ⟨fun j b hb => ?_, Nat.le_of_ble_eq_true h.1.1.2, h.1.2⟩
      have := pairsOk2_spec h.1.1.1 j b hb
      simpa using this
    | succ i =>
      have := ih h.2 i a (by simpa using ha)
      have e : k + 1 + i = k + (i + 1) := by omega
      rw [e] at this; exact this

theorem sok_of {ops : List Oper} {ch : Nat} (h : pairsOk ops ch ops 0 = true) : SOk ops ch := by
  have hp : ∀ (i j : Nat) a b, ops[i]? = some a → ops[j]? = some b → pairOk ops ch i j a b = true := fun i j a b ha hb => by
    have := (pairsOk_spec h i a ha).1 j b hb
    simpa using this
  refine ⟨fun i j a b d ha hb hij hd hd' => ?_, fun i j a b d ha hb hd hl => ?_, fun i a j ha hj => ?_, fun i a ha hc => ?_⟩
  · have := hp i j a b ha hb
    simp only [pairOk, Bool.and_eq_true, Bool.or_eq_true, Bool.not_eq_true'] at this
    rcases this.1 with q | q
    · exact hij (Nat.eq_of_beq_eq_true q)
    · simp [sameDst, hd, hd'] at q
  · have := hp i j a b ha hb
    simp only [pairOk, Bool.and_eq_true, Bool.or_eq_true, Bool.not_eq_true'] at this
    rcases this.2 with (q | q) | q
    · exfalso
      simp only [looksAtDst, hd] at q
      rw [List.any_eq_false] at q
      exact q d hl (by simp)
    · exact .inl q
    · exact .inr ⟨q.1, q.2.imp (fun x => Nat.eq_of_beq_eq_true x) id⟩
  · have h2 := (pairsOk_spec h i a ha).2.1
    rw [Nat.zero_add] at h2
    rcases Nat.lt_or_ge j i with q | q
    · exact q
    · have h3 : (Oper.mask a) < 2 ^ j := Nat.lt_of_lt_of_le h2 (Nat.pow_le_pow_right (by omega) q)
      rw [Nat.testBit_lt_two_pow h3] at hj; cases hj
  · have h2 := (pairsOk_spec h i a ha).2.2
    rw [Nat.zero_add] at h2
    rcases h2 with q | q
    · rw [q] at hc; cases hc
    · exact q

theorem allocOf_closed {P : Program} {T : Tr Value} {op : Op} {b : Blk} {kv : AV} (he : allocOf P T op = some (b, kv)) : isOpen (some b) = false := by
  have box : ∀ {elem v}, allocBox elem v = some (b, kv) → isOpen (some b) = false := fun {elem v} q => by
    unfold allocBox at q
    cases ho : v.cells.toList.all oneCell with
    | false => rw [ho] at q; cases q
    | true => rw [ho, cond_true] at q; simp only [Option.some.injEq, Prod.mk.injEq] at q; obtain ⟨rfl, rfl⟩ := q; rfl
  have fin : ∀ {c : Bool} {cells : List Value} {elem : TypeId} {k : AV}, (bif c then some (Blk.row cells elem false 0 0 false, k) else none) = some (b, kv) → isOpen (some b) = false := fun {c cells elem k} q => by
    cases c with
    | false => cases q
    | true => simp only [cond_true, Option.some.injEq, Prod.mk.injEq] at q; obtain ⟨rfl, rfl⟩ := q; rfl
  cases op <;> simp only [allocOf] at he
  case alloc elem =>
    split at he
    · rename_i z _
      cases hp : plain z with
      | false => rw [hp] at he; cases he
      | true => rw [hp, cond_true] at he; exact box he
    · cases he
  case box elem x =>
    split at he
    · exact box he
    · cases he
  case buildSlice t len ps =>
    split at he
    · unfold allocBuild at he
      split at he
      · split at he
        · rename_i sz z _ _
          cases hc : (Nat.ble len 100000 && Nat.ble (len * sz) 100000 && plain z && Nat.beq z.cells.toList.length sz) with
          | false => rw [hc] at he; cases he
          | true =>
            rw [hc, cond_true] at he
            split at he
            · exact fin he
            · cases he
        · cases he
      · cases he
    · cases he
  case makeMap t r =>
    cases r with
    | some r => obtain ⟨rfl, rfl, _⟩ := litMake_spec (show litMake P t r = some (b, kv) from he); rfl
    | none => simp only [Option.some.injEq, Prod.mk.injEq] at he; obtain ⟨rfl, rfl⟩ := he; rfl
  case makeSlice t l c =>
    split at he
    · unfold allocMake at he
      split at he
      · split at he
        · split at he
          · exact fin he
          · cases he
        · cases he
      · cases he
    · cases he
  all_goals cases he
end Go.Cre

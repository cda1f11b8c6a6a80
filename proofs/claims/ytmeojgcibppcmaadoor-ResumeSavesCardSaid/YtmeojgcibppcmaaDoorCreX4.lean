/- A part of the proof of ResumeSaves. -/
import Derived.Test.YtmeojgcibppcmaaDoorCreX3
set_option linter.unusedVariables false
set_option linter.unusedSimpArgs false
namespace Go.Cre
open Go.RowKit
theorem tb_or (a b i : Nat) : Nat.testBit (Nat.lor a b) i = (a.testBit i || b.testBit i) := Nat.testBit_or a b i
theorem tb_and (a b i : Nat) : Nat.testBit (Nat.land a b) i = (a.testBit i && b.testBit i) := Nat.testBit_and a b i
theorem tb_pow (i j : Nat) : Nat.testBit (Nat.pow 2 i) j = decide (i = j) := Nat.testBit_two_pow (n := i) (m := j)
theorem tb_ins {C i j : Nat} : Nat.testBit (Nat.lor C (Nat.pow 2 i)) j = true ↔ Nat.testBit C j = true ∨ i = j := by
 rw [tb_or, tb_pow]; simp
theorem sub_spec {a b : Nat} (h : sub a b = true) {i : Nat} (hi : a.testBit i = true) : b.testBit i = true := by
 have h := Nat.eq_of_beq_eq_true h; rw [← h, tb_and] at hi; simp at hi; exact hi.2
theorem edgeMask_spec {l : List Edge} {i : Nat} : (edgeMask l).testBit i = true ↔ ∃ e ∈ l, Region.binds .any e = true ∧ e.on = i := by
 induction l with
 | nil => simp [edgeMask]
 | cons e l ih =>
  simp only [edgeMask]; cases hb : Region.binds .any e with
  | false => simp [ih, hb]
  | true => rw [cond_true, tb_or, tb_pow]; simp [ih, hb]
theorem maskOf_spec {l : List Nat} {i : Nat} : (maskOf l).testBit i = true ↔ i ∈ l := by
 induction l with
 | nil => simp [maskOf]
 | cons e l ih =>
  simp only [maskOf]; rw [tb_or, tb_pow, Bool.or_eq_true, ih, List.mem_cons, decide_eq_true_iff]; exact ⟨fun q => q.imp Eq.symm id, fun q => q.imp Eq.symm id⟩
theorem isIn_spec {C : Nat} : ∀ {n : Nat}, isIn C n = true → ∀ i, i < n → C.testBit i = true := by
 intro n; induction n with
 | zero => intro _ i hi; omega
 | succ n ih =>
  intro h i hi; simp only [isIn, Bool.and_eq_true] at h; by_cases e : i = n
  ·
   subst e; exact h.1
  ·
   exact ih h.2 i (by omega)
theorem only_spec {C i : Nat} : ∀ {l : List Oper} {k : Nat}, only C i l k = true → ∀ j o, l[j]? = some o → C.testBit (k + j) = true ∨ k + j = i ∨ sub (Oper.mask o) C = false := by
 intro l; induction l with
 | nil => intro k _ j o h; simp at h
 | cons a l ih =>
  intro k h j o ho; simp only [only, Bool.and_eq_true, Bool.or_eq_true, Bool.not_eq_true'] at h; cases j with
  | zero =>
   simp at ho; subst ho; rcases h.1 with (q | q) | q
   ·
    exact .inl q
   ·
    exact .inr (.inl (Nat.eq_of_beq_eq_true q))
   ·
    exact .inr (.inr q)
  | succ j =>
   have := ih h.2 j o (by simpa using ho); have e : k + 1 + j = k + (j + 1) := by omega
   rw [e] at this; exact this
theorem allVal_spec {ch al C : Nat} : ∀ {l : List Nat}, allVal ch al C l = true → ∀ i ∈ l, C.testBit i = true ∧ al.testBit i = false := by
 intro l; induction l with
 | nil => intro _ i hi; simp at hi
 | cons a l ih =>
  intro h i hi; simp only [allVal, Bool.and_eq_true, Bool.not_eq_true'] at h; rcases List.mem_cons.1 hi with rfl | hi
  ·
   exact h.1
  ·
   exact ih h.2 i hi
theorem closeK_spec {ops : List Oper} {D : Nat → Bool} (hd : ∀ i o j, D i = true → ops[i]? = some o → (Oper.mask o).testBit j = true → D j = true) : ∀ {n K : Nat}, (∀ i, K.testBit i = true → D i = true) → ∀ i, (closeK ops n K).testBit i = true → D i = true := by
 intro n; induction n with
 | zero => intro K h i hi; exact h i hi
 | succ n ih =>
  intro K h i hi; simp only [closeK] at hi; refine ih (fun j hj => ?_) i hi; cases hb : K.testBit n with
  | false => rw [hb] at hj; exact h j hj
  | true =>
   rw [hb, cond_true] at hj; rw [nth_eq] at hj; cases ho : ops[n]? with
   | none => rw [ho] at hj; exact h j hj
   | some o =>
    rw [ho] at hj; simp only at hj; rw [tb_or] at hj; simp only [Bool.or_eq_true] at hj; rcases hj with q | q
    ·
     exact h j q
    ·
     exact hd n o j (h n hb) ho q
theorem allocM_spec {l : List Oper} : ∀ {k j : Nat} {o : Oper}, l[j]? = some o → isAllocOp o.op = true → (allocM l k).testBit (k + j) = true := by
 induction l with
 | nil => intro k j o h; simp at h
 | cons a l ih =>
  intro k j o ho ha; simp only [allocM]; rw [tb_or]; cases j with
  | zero => simp at ho; subst ho; rw [ha, cond_true, tb_pow]; simp
  | succ j =>
   have := ih (k := k + 1) (by simpa using ho) ha; have e : k + 1 + j = k + (j + 1) := by omega
   rw [e] at this; rw [this]; simp
structure SOk (ops : List Oper) (ch : Nat) : Prop where
 dst : ∀ (i j : Nat) a b d, ops[i]? = some a → ops[j]? = some b → i ≠ j → a.dst = some d → b.dst ≠ some d
 look : ∀ (i j : Nat) a b d, ops[i]? = some a → ops[j]? = some b → a.dst = some d → d ∈ looks ops b → (Oper.mask b).testBit i = true ∨ (ch.testBit i = true ∧ (i = j ∨ (Oper.mask a).testBit j = true))
 down : ∀ (i : Nat) a j, ops[i]? = some a → (Oper.mask a).testBit j = true → j < i
 chn : ∀ (i : Nat) a, ops[i]? = some a → ch.testBit i = false → isChain0 a.op = false
theorem pairsOk2_spec {ops : List Oper} {ch i : Nat} {a : Oper} : ∀ {l : List Oper} {k : Nat}, pairsOk2 ops ch i a l k = true → ∀ j b, l[j]? = some b → pairOk ops ch i (k + j) a b = true := by
 intro l; induction l with
 | nil => intro k _ j b h; simp at h
 | cons c l ih =>
  intro k h j b hb; simp only [pairsOk2, Bool.and_eq_true] at h; cases j with
  | zero => simp at hb; subst hb; exact h.1
  | succ j =>
   have := ih h.2 j b (by simpa using hb); have e : k + 1 + j = k + (j + 1) := by omega
   rw [e] at this; exact this
theorem pairsOk_spec {ops : List Oper} {ch : Nat} : ∀ {l : List Oper} {k : Nat}, pairsOk ops ch l k = true → ∀ i a, l[i]? = some a →
  (∀ j b, ops[j]? = some b → pairOk ops ch (k + i) j a b = true) ∧ (Oper.mask a) < 2 ^ (k + i) ∧ (ch.testBit (k + i) = true ∨ isChain0 a.op = false) := by
 intro l; induction l with
 | nil => intro k _ i a h; simp at h
 | cons c l ih =>
  intro k h i a ha; simp only [pairsOk, Bool.and_eq_true, Bool.or_eq_true, Bool.not_eq_true'] at h; cases i with
  | zero =>
   simp at ha; subst ha; refine ⟨fun j b hb => ?_, Nat.le_of_ble_eq_true h.1.1.2, h.1.2⟩; have := pairsOk2_spec h.1.1.1 j b hb; simpa using this
  | succ i =>
   have := ih h.2 i a (by simpa using ha); have e : k + 1 + i = k + (i + 1) := by omega
   rw [e] at this; exact this
theorem sok_of {ops : List Oper} {ch : Nat} (h : pairsOk ops ch ops 0 = true) : SOk ops ch := by
 have hp : ∀ (i j : Nat) a b, ops[i]? = some a → ops[j]? = some b → pairOk ops ch i j a b = true := fun i j a b ha hb => by
  have := (pairsOk_spec h i a ha).1 j b hb; simpa using this
 refine ⟨fun i j a b d ha hb hij hd hd' => ?_, fun i j a b d ha hb hd hl => ?_, fun i a j ha hj => ?_, fun i a ha hc => ?_⟩
 ·
  have := hp i j a b ha hb; simp only [pairOk, Bool.and_eq_true, Bool.or_eq_true, Bool.not_eq_true'] at this; rcases this.1 with q | q
  ·
   exact hij (Nat.eq_of_beq_eq_true q)
  ·
   simp [sameDst, hd, hd'] at q
 ·
  have := hp i j a b ha hb; simp only [pairOk, Bool.and_eq_true, Bool.or_eq_true, Bool.not_eq_true'] at this; rcases this.2 with (q | q) | q
  ·
   exfalso; simp only [looksAtDst, hd] at q; rw [List.any_eq_false] at q; exact q d hl (by simp)
  ·
   exact .inl q
  ·
   exact .inr ⟨q.1, q.2.imp (fun x => Nat.eq_of_beq_eq_true x) id⟩
 ·
  have h2 := (pairsOk_spec h i a ha).2.1; rw [Nat.zero_add] at h2; rcases Nat.lt_or_ge j i with q | q
  ·
   exact q
  ·
   have h3 : (Oper.mask a) < 2 ^ j := Nat.lt_of_lt_of_le h2 (Nat.pow_le_pow_right (by omega) q); rw [Nat.testBit_lt_two_pow h3] at hj; cases hj
 ·
  have h2 := (pairsOk_spec h i a ha).2.2; rw [Nat.zero_add] at h2; rcases h2 with q | q
  ·
   rw [q] at hc; cases hc
  ·
   exact q
theorem allocOf_closed {P : Program} {T : Tr Value} {op : Op} {b : Blk} {kv : AV} (he : allocOf P T op = some (b, kv)) : isOpen (some b) = false := by
 have box : ∀ {elem v}, allocBox elem v = some (b, kv) → isOpen (some b) = false := fun {elem v} q => by
  unfold allocBox at q; cases ho : v.cells.toList.all oneCell with
  | false => rw [ho] at q; cases q
  | true => rw [ho, cond_true] at q; simp only [Option.some.injEq, Prod.mk.injEq] at q; obtain ⟨rfl, rfl⟩ := q; rfl
 have fin : ∀ {c : Bool} {cells : List Value} {elem : TypeId} {k : AV}, (bif c then some (Blk.row cells elem false 0 0 false, k) else none) = some (b, kv) → isOpen (some b) = false := fun {c cells elem k} q => by
  cases c with
  | false => cases q
  | true => simp only [cond_true, Option.some.injEq, Prod.mk.injEq] at q; obtain ⟨rfl, rfl⟩ := q; rfl
 cases op <;> simp only [allocOf] at he
 case alloc elem =>
  split at he
  ·
   rename_i z _; cases hp : plain z with
   | false => rw [hp] at he; cases he
   | true => rw [hp, cond_true] at he; exact box he
  ·
   cases he
 case box elem x =>
  split at he
  ·
   exact box he
  ·
   cases he
 case buildSlice t len ps =>
  split at he
  ·
   unfold allocBuild at he; split at he
   ·
    split at he
    ·
     rename_i sz z _ _; cases hc : (Nat.ble len 100000 && Nat.ble (len * sz) 100000 && plain z && Nat.beq z.cells.toList.length sz) with
     | false => rw [hc] at he; cases he
     | true =>
      rw [hc, cond_true] at he; split at he
      ·
       exact fin he
      ·
       cases he
    ·
     cases he
   ·
    cases he
  ·
   cases he
 case makeMap t r =>
  cases r with
  | some r => obtain ⟨rfl, rfl, _⟩ := litMake_spec (show litMake P t r = some (b, kv) from he); rfl
  | none => simp only [Option.some.injEq, Prod.mk.injEq] at he; obtain ⟨rfl, rfl⟩ := he; rfl
 case makeSlice t l c =>
  split at he
  ·
   unfold allocMake at he; split at he
   ·
    split at he
    ·
     split at he
     ·
      exact fin he
     ·
      cases he
    ·
     cases he
   ·
    cases he
  ·
   cases he
 all_goals cases he
end Go.Cre
namespace Go.Cre
open Go.RowKit
open Classical
def pendT (ops : List Oper) (C : Nat) (D : Nat → Bool) (t : Nat) : Prop := ∃ (i : Nat) (o : Oper), C.testBit i = true ∧ D i = false ∧ ops[i]? = some o ∧ o.dst = some t
noncomputable def free (ops : List Oper) (C : Nat) (D : Nat → Bool) (t : Nat) : Bool := decide (¬ pendT ops C D t)
theorem free_iff {ops : List Oper} {C : Nat} {D : Nat → Bool} {t : Nat} : free ops C D t = true ↔ ¬ pendT ops C D t := by unfold free; exact decide_eq_true_iff
structure Good (P : Program) (call : CallEv) (yld : YieldEv) (ops : List Oper) (al G : Nat) (H0nx : Nat) (S : St) (H : Hp) (μ : Mp) (D : Nat → Bool) (A : Nat → Nat) (i : Nat) (o : Oper) (b : Bool) : Prop where
 g : guardB ops S.T o = some b
 lt : ∀ t, o.dst = some t → t < S.n ∧ ∃ u, S.T.get t = some u
 no : b = false → ∀ t, o.dst = some t → S.T.get t = some undef
 val : b = true → al.testBit i = false → G.testBit i = true → ∃ v, evOp P call yld S H o = some (.val v H) ∧ ∀ t, o.dst = some t → S.T.get t = some v
 alc : b = true → al.testBit i = true → ∃ blk kv, allocOf P S.T o.op = some (blk, kv) ∧ (∀ t, o.dst = some t → S.T.get t = some (kv.at (A i))) ∧
  (D i = false → μ (A i) = none ∧ H.glo ≤ A i ∧ H0nx ≤ A i ∧ A i < H.nx ∧ H.mem.get (A i) = some blk)
structure Inv (P : Program) (B : Nat → Prop) (w0 : World) (call : CallEv) (yld : YieldEv) (ops : List Oper) (ch al : Nat) (μ0 : Mp) (H0 : Hp) (S0 : St) (fr : Frame) (cs0 : List Frame)
  (C K G : Nat) (S : St) (H : Hp) (μ : Mp) (w : World) (tmps : Array Value) (ds : List Deferred) (cs : List Frame) (D : Nat → Bool) (A : Nat → Nat) : Prop where
 h : HRel P B w0 μ H w
 f : FRel μ (S.only (free ops C D)) fr tmps ds cs
 st : Step μ0 μ H0 H
 csr : CsRel S0.dfd cs0 cs
 dfd : S.dfd = S0.dfd
 rnd : S.rnd = S0.rnd
 sub : ∀ i, D i = true → C.testBit i = true
 bound : ∀ i, C.testBit i = true → ∃ o, ops[i]? = some o
 down : ∀ (i : Nat) o j, D i = true → ops[i]? = some o → (Oper.mask o).testBit j = true → D j = true
 downC : ∀ (i : Nat) o j, C.testBit i = true → ops[i]? = some o → (Oper.mask o).testBit j = true → C.testBit j = true
 k : ∀ i, K.testBit i = true → D i = true
 good : ∀ (i : Nat) o, C.testBit i = true → K.testBit i = false → ops[i]? = some o → ch.testBit i = false ∧ ∃ b, Good P call yld ops al G H0.nx S H μ D A i o b
 inj : ∀ (i j : Nat) oi oj, C.testBit i = true → C.testBit j = true → D i = false → D j = false → al.testBit i = true → al.testBit j = true → ops[i]? = some oi → ops[j]? = some oj →
  guardB ops S.T oi = some true → guardB ops S.T oj = some true → A i = A j → i = j
section
variable {P : Program} {B : Nat → Prop} {w0 w : World} {μ μ0 : Mp} {H H0 H' : Hp} {S S0 S' : St} {fr : Frame} {tmps : Array Value} {ds : List Deferred} {cs cs0 : List Frame} {call : CallEv} {yld : YieldEv}
variable {ops : List Oper} {ch al C K G : Nat} {D : Nat → Bool} {A : Nat → Nat} {i : Nat} {o : Oper}
theorem St.put_lt {dst : Option Tmp} {v : Value} (he : S.put dst v = some S') : ∀ t, dst = some t → t < S'.n ∧ ∃ u, S'.T.get t = some u := fun t ht => by
 have e := St.put_eq he; refine ⟨?_, v, by rw [e.2.2.2.2.2, if_pos ht]⟩; subst ht; obtain ⟨T, n, dss, dfd, um, rnd⟩ := S; have he : Bool.rec (motive := fun _ => Option St) none (St.put3 n dss dfd um rnd (Tr.put v T t)) (Nat.ble (Nat.succ t) n) = some S' := he; rw [e.1]; show t < n; cases hb : Nat.ble (Nat.succ t) n with
 | false => rw [hb] at he; cases he
 | true => exact Nat.le_of_ble_eq_true hb
theorem FRel.conv {S1 S2 : St} (h : FRel μ S1 fr tmps ds cs) (e1 : S2.n = S1.n) (e2 : S2.ds = S1.ds) (e3 : S2.dfd = S1.dfd) (e4 : S2.um = S1.um) (e5 : S2.rnd = S1.rnd)
  (ht : ∀ t v, S2.T.get t = some v → S1.T.get t = some v) : FRel μ S2 fr tmps ds cs :=
 ⟨⟨by rw [e1]; exact h.t.1, fun t v q => h.t.2 t v (ht t v q)⟩, by rw [e2]; exact h.d, by rw [e3]; exact h.kind, fun q => h.rnd0 (e5 ▸ q), fun l q => h.rnd1 l (e5 ▸ q), fun q => by rw [e4]; exact h.um (e3 ▸ q)⟩
theorem only_get {p : Nat → Bool} {t : Nat} {v : Value} : (S.only p).T.get t = some v ↔ p t = true ∧ S.T.get t = some v := by
 show (S.T.keep p).get t = some v ↔ _; rw [Tr.get_keep]; cases p t <;> simp
theorem Good.move {G' : Nat} {μ' : Mp} {D' : Nat → Bool} {A' : Nat → Nat} {b : Bool} (hg : Good P call yld ops al G H0.nx S H μ D A i o b) (hn : S'.n = S.n) (hr : S'.rnd = S.rnd)
  (hl : ∀ t ∈ looks ops o, S'.T.get t = S.T.get t) (hd : ∀ t, o.dst = some t → S'.T.get t = S.T.get t)
  (hG : al.testBit i = false → G'.testBit i = true → G.testBit i = true ∧ H' = H) (hA : A' i = A i)
  (hph : b = true → al.testBit i = true → D' i = false → D i = false ∧ (∀ blk, isOpen (some blk) = false → μ (A i) = none ∧ H.glo ≤ A i ∧ H0.nx ≤ A i ∧ A i < H.nx ∧ H.mem.get (A i) = some blk → μ' (A i) = none ∧ H'.glo ≤ A i ∧ H0.nx ≤ A i ∧ A i < H'.nx ∧ H'.mem.get (A i) = some blk)) :
  Good P call yld ops al G' H0.nx S' H' μ' D' A' i o b := by
 refine ⟨by rw [guard_looks hl]; exact hg.g, fun t ht => ?_, fun hb t ht => by rw [hd t ht]; exact hg.no hb t ht, fun hb ha hG' => ?_, fun hb ha => ?_⟩
 ·
  obtain ⟨a, b⟩ := hg.lt t ht; exact ⟨by rw [hn]; exact a, by rw [hd t ht]; exact b⟩
 ·
  obtain ⟨g1, rfl⟩ := hG ha hG'; obtain ⟨v, e1, e2⟩ := hg.val hb ha g1; exact ⟨v, by rw [evOp_congr hr (opd_looks hl)]; exact e1, fun t ht => by rw [hd t ht]; exact e2 t ht⟩
 ·
  obtain ⟨blk, kv, e1, e2, e3⟩ := hg.alc hb ha; refine ⟨blk, kv, by rw [allocOf_looks hl]; exact e1, fun t ht => by rw [hd t ht, hA]; exact e2 t ht, fun hD => ?_⟩; obtain ⟨q1, q2⟩ := hph hb ha hD; rw [hA]; exact q2 blk (allocOf_closed e1) (e3 q1)
theorem quiet (hs : SOk ops ch) (hI : Inv P B w0 call yld ops ch al μ0 H0 S0 fr cs0 C K G S H μ w tmps ds cs D A) (hi : C.testBit i = false) (ho : ops[i]? = some o) (hc : ch.testBit i = false)
  {j : Nat} {oj : Oper} (hj : C.testBit j = true ∨ j = i) (hoj : ops[j]? = some oj) {t : Nat} (ht : t ∈ looks ops oj) : o.dst ≠ some t := fun hd => by
 rcases hs.look i j o oj t ho hoj hd ht with q | ⟨q, _⟩
 ·
  rcases hj with hj | rfl
  ·
   have := hI.downC j oj i hj hoj q; rw [hi] at this; cases this
  ·
   have := hs.down j oj j hoj q; omega
 ·
  rw [hc] at q; cases q
theorem fits_spec (h : fits ops C i = true) (ho : ops[i]? = some o) : C.testBit i = false ∧ ∀ j, (Oper.mask o).testBit j = true → C.testBit j = true := by
 unfold fits at h; rw [nth_eq, ho] at h; simp only [Bool.and_eq_true, Bool.not_eq_true'] at h; exact ⟨h.1, fun j hj => sub_spec h.2 hj⟩
theorem free_ins (hD : D i = false) (ho : ops[i]? = some o) {t : Nat} (h : free ops (Nat.lor C (Nat.pow 2 i)) D t = true) : free ops C D t = true ∧ o.dst ≠ some t := by
 rw [free_iff] at h; refine ⟨free_iff.2 fun ⟨j, oj, a, b, c, d⟩ => h ⟨j, oj, tb_ins.2 (.inl a), b, c, d⟩, fun hd => h ⟨i, o, tb_ins.2 (.inr rfl), hD, ho, hd⟩⟩
theorem inv_ins (hs : SOk ops ch) (hI : Inv P B w0 call yld ops ch al μ0 H0 S0 fr cs0 C K G S H μ w tmps ds cs D A) (ho : ops[i]? = some o) (hf : fits ops C i = true) (hc : ch.testBit i = false)
  {v : Value} {b : Bool} {G' : Nat} {A' : Nat → Nat} (hp : S.put o.dst v = some S') (hg : guardB ops S.T o = some b) (hno : b = false → v = undef)
  (h' : HRel P B w0 μ H' w) (hst : Step μ0 μ H0 H') (hnx : H.nx ≤ H'.nx) (hglo : H'.glo = H.glo) (hmem : ∀ x, x < H.nx → H'.mem.get x = H.mem.get x)
  (hA : ∀ j, j ≠ i → A' j = A j) (hG : ∀ j, j ≠ i → al.testBit j = false → G'.testBit j = true → G.testBit j = true ∧ H' = H)
  (hval : b = true → al.testBit i = false → G'.testBit i = true → evOp P call yld S H' o = some (.val v H'))
  (halc : b = true → al.testBit i = true → A' i = H.nx ∧ H'.nx = H.nx + 1 ∧ H0.nx ≤ H.nx ∧ ∃ blk kv, allocOf P S.T o.op = some (blk, kv) ∧ v = kv.at H.nx ∧ H'.mem.get H.nx = some blk) :
  Inv P B w0 call yld ops ch al μ0 H0 S0 fr cs0 (Nat.lor C (Nat.pow 2 i)) K G' S' H' μ w tmps ds cs D A' := by
 obtain ⟨hi, hm⟩ := fits_spec hf ho; have hDi : D i = false := by
  cases hd : D i with
  | false => rfl
  | true => have := hI.sub i hd; rw [hi] at this; cases this
 obtain ⟨p1, p2, p3, p4, p5, p6⟩ := St.put_eq hp; have hagree : ∀ {j : Nat} {oj : Oper}, (C.testBit j = true ∨ j = i) → ops[j]? = some oj → ∀ t ∈ looks ops oj, S'.T.get t = S.T.get t := fun {j oj} hj hoj t ht => by
  rw [p6, if_neg (quiet hs hI hi ho hc hj hoj ht)]
 refine ⟨h', ?_, hst, hI.csr, p3.trans hI.dfd, p5.trans hI.rnd, fun j hj => tb_ins.2 (.inl (hI.sub j hj)), fun j hj => ?_, hI.down, fun j oj k hj hoj hk => ?_, hI.k, fun j oj hj hk hoj => ?_, ?_⟩
 ·
  refine hI.f.conv p1 p2 p3 p4 p5 fun t u q => ?_; obtain ⟨q1, q2⟩ := only_get.1 q; obtain ⟨r1, r2⟩ := free_ins hDi ho q1; rw [p6, if_neg r2] at q2; exact only_get.2 ⟨r1, q2⟩
 ·
  rcases tb_ins.1 hj with q | rfl
  ·
   exact hI.bound j q
  ·
   exact ⟨o, ho⟩
 ·
  rcases tb_ins.1 hj with q | rfl
  ·
   exact tb_ins.2 (.inl (hI.downC j oj k q hoj hk))
  ·
   rw [ho] at hoj; injection hoj with hoj; subst hoj
   exact tb_ins.2 (.inl (hm k hk))
 ·
  by_cases hji : j = i
  ·
   subst hji; rw [ho] at hoj; injection hoj with hoj; subst hoj
   refine ⟨hc, b, ?_⟩; refine ⟨by rw [guard_looks (hagree (.inr rfl) ho)]; exact hg, St.put_lt hp, fun hb t ht => by rw [p6, if_pos ht, hno hb], fun hb ha hG' => ?_, fun hb ha => ?_⟩
   ·
    exact ⟨v, by rw [evOp_congr p5 (opd_looks (hagree (.inr rfl) ho))]; exact hval hb ha hG', fun t ht => by rw [p6, if_pos ht]⟩
   ·
    obtain ⟨a1, a2, a3, blk, kv, a4, rfl, a6⟩ := halc hb ha; refine ⟨blk, kv, by rw [allocOf_looks (hagree (.inr rfl) ho)]; exact a4, fun t ht => by rw [p6, if_pos ht, a1], fun _ => ?_⟩; rw [a1]; exact ⟨hI.h.none_nx, by rw [hglo]; exact hI.h.glt, a3, by omega, a6⟩
  ·
   have hj : C.testBit j = true := by
    rcases tb_ins.1 hj with q | q
    ·
     exact q
    ·
     exact absurd q.symm hji
   obtain ⟨g1, bj, g2⟩ := hI.good j oj hj hk hoj; refine ⟨g1, bj, g2.move p1 p5 (hagree (.inl hj) hoj) (fun t ht => ?_) (hG j hji) (hA j hji) fun hb ha hD => ⟨hD, fun blk _ ⟨e1, e2, e3, e4, e5⟩ => ⟨e1, by rw [hglo]; exact e2, e3, by omega, by rw [hmem _ e4]; exact e5⟩⟩⟩; rw [p6, if_neg (fun q => hs.dst i j o oj t ho hoj (Ne.symm hji) q ht)]
 ·
  have hlt : ∀ (j : Nat) oj, C.testBit j = true → D j = false → al.testBit j = true → ops[j]? = some oj → guardB ops S.T oj = some true → A j < H.nx := fun j oj hj hD ha hoj hgj => by
   have hk : K.testBit j = false := by
    cases hk : K.testBit j with
    | false => rfl
    | true => have := hI.k j hk; rw [hD] at this; cases this
   obtain ⟨_, bj, g2⟩ := hI.good j oj hj hk hoj; have e := g2.g; rw [hgj] at e; injection e with e; subst e
   obtain ⟨blk, kv, _, _, q⟩ := g2.alc rfl ha; exact (q hD).2.2.2.1
  intro x y ox oy hx hy hDx hDy hax hay hox hoy hgx hgy hxy; by_cases hxi : x = i
  ·
   by_cases hyi : y = i
   ·
    rw [hxi, hyi]
   ·
    exfalso; subst hxi; rw [ho] at hox; injection hox with hox; subst hox
    rw [guard_looks (hagree (.inr rfl) ho), hg] at hgx; injection hgx with hgx; subst hgx
    have hy : C.testBit y = true := by
     rcases tb_ins.1 hy with q | q
     ·
      exact q
     ·
      exact absurd q.symm hyi
    rw [guard_looks (hagree (.inl hy) hoy)] at hgy; have := hlt y oy hy hDy hay hoy hgy; rw [(halc rfl hax).1, hA y hyi] at hxy; omega
  ·
   have hx' : C.testBit x = true := by
    rcases tb_ins.1 hx with q | q
    ·
     exact q
    ·
     exact absurd q.symm hxi
   rw [guard_looks (hagree (.inl hx') hox)] at hgx; by_cases hyi : y = i
   ·
    exfalso; subst hyi; rw [ho] at hoy; injection hoy with hoy; subst hoy
    rw [guard_looks (hagree (.inr rfl) ho), hg] at hgy; injection hgy with hgy; subst hgy
    have := hlt x ox hx' hDx hax hox hgx; rw [(halc rfl hay).1, hA x hxi] at hxy; omega
   ·
    have hy : C.testBit y = true := by
     rcases tb_ins.1 hy with q | q
     ·
      exact q
     ·
      exact absurd q.symm hyi
    rw [guard_looks (hagree (.inl hy) hoy)] at hgy; rw [hA x hxi, hA y hyi] at hxy; exact hI.inj x y ox oy hx' hy hDx hDy hax hay hox hoy hgx hgy hxy
theorem Step.new (hst : Step μ0 μ H0 H) {b : Blk} {a : Nat} (hn : H.new b = some (a, H')) : Step μ0 μ H0 H' := by
 obtain ⟨rfl, e1, e2, e3, e4, e5⟩ := Hp.new_eq hn; refine ⟨hst.ext, by have := hst.nx; omega, by rw [e4]; exact hst.glo, fun id hid hm => ?_⟩; obtain ⟨a, b⟩ := hst.keep id hid hm; exact ⟨a, fun ho => by rw [e5, if_neg (by have := hst.nx; omega)]; exact b ho⟩
theorem canon_run (hs : SOk ops ch) (hal : ∀ (i : Nat) o, ops[i]? = some o → al.testBit i = false → isAllocOp o.op = false) {rr : RegRes} : ∀ (plan : List DStep) (C G : Nat) (S : St) (H : Hp) (A : Nat → Nat),
  Inv P B w0 call yld ops ch al μ0 H0 S0 fr cs0 C K G S H μ w tmps ds cs D A → planOk ops ch al C K G plan = true → drawGo P call yld ops plan S H = some rr →
  ∃ plan' C' G' S' H' A', Inv P B w0 call yld ops ch al μ0 H0 S0 fr cs0 C' K G' S' H' μ w tmps ds cs D A' ∧ planOk ops ch al C' K G' plan' = true ∧ drawGo P call yld ops plan' S' H' = some rr ∧
   (plan' = [] ∨ ∃ i rest, plan' = .chn i :: rest) := by
 intro plan; induction plan with
 | nil => intro C G S H A hI hp he; exact ⟨[], C, G, S, H, A, hI, hp, he, .inl rfl⟩
 | cons s plan ih =>
  intro C G S H A hI hp he; have he : dStep P call yld ops (drawGo P call yld ops plan) S H s = some rr := he; cases s with
  | chn i => exact ⟨.chn i :: plan, C, G, S, H, A, hI, hp, he, .inr ⟨i, plan, rfl⟩⟩
  | chk l =>
   simp only [planOk, Bool.and_eq_true] at hp; have hv := allVal_spec hp.1; have he : (bif l.all (chkOne P call yld ops S H) then drawGo P call yld ops plan S H else none) = some rr := he; cases hl : l.all (chkOne P call yld ops S H) with
   | false => rw [hl] at he; cases he
   | true =>
    rw [hl, cond_true] at he; rw [List.all_eq_true] at hl; refine ih C (Nat.lor G (maskOf l)) S H A ?_ hp.2 he; refine ⟨hI.h, hI.f, hI.st, hI.csr, hI.dfd, hI.rnd, hI.sub, hI.bound, hI.down, hI.downC, hI.k, fun j oj hj hk hoj => ?_, hI.inj⟩; obtain ⟨g1, b, g2⟩ := hI.good j oj hj hk hoj; refine ⟨g1, b, g2.g, g2.lt, g2.no, fun hb ha hG => ?_, g2.alc⟩; rw [tb_or, Bool.or_eq_true, maskOf_spec] at hG; rcases hG with hG | hG
    ·
     exact g2.val hb ha hG
    ·
     have hc := hl j hG; unfold chkOne at hc; rw [nth_eq, hoj] at hc; simp only at hc; rw [g2.g, hb] at hc; have hc2 : chkVal H.nx S.T oj.dst (evOp P call yld S H oj) = true := hc; cases hev : evOp P call yld S H oj with
     | none => rw [hev] at hc2; cases hc2
     | some r =>
      rw [hev] at hc2; cases r with
      | val v H2 =>
       have hc2 : (Nat.beq H2.nx H.nx && (match oj.dst with | none => true | some d => (match S.T.get d with | some u => veq 8 v u | none => false))) = true := hc2
       simp only [Bool.and_eq_true] at hc2; have hH : H2 = H := evOp_same (hs.chn j oj hoj g1) (hal j oj hoj ha) hev (Nat.eq_of_beq_eq_true hc2.1); refine ⟨v, by rw [hH], fun t ht => ?_⟩; have hc3 : (match oj.dst with | none => true | some d => (match S.T.get d with | some u => veq 8 v u | none => false)) = true := hc2.2
       rw [ht] at hc3; simp only at hc3; cases hT : S.T.get t with
       | none => rw [hT] at hc3; cases hc3
       | some u => rw [hT] at hc3; rw [veq_eq hc3]
      | skip _ => cases hc2
      | dfr _ => cases hc2
      | pan _ _ => cases hc2
      | rcv => cases hc2
  | val i =>
   simp only [planOk, Bool.and_eq_true, Bool.not_eq_true'] at hp; obtain ⟨⟨⟨hf, hc⟩, ha⟩, hp⟩ := hp; have he : Option.rec (motive := fun _ => Option RegRes) none (valStep P call yld ops S H (drawGo P call yld ops plan)) (nth ops i) = some rr := he; cases ho : nth ops i with
   | none => rw [ho] at he; cases he
   | some o =>
    rw [ho] at he; rw [nth_eq] at ho; have he : Option.rec (motive := fun _ => Option RegRes) none (valIf P call yld S H o (drawGo P call yld ops plan)) (guardB ops S.T o) = some rr := he; cases hg : guardB ops S.T o with
    | none => rw [hg] at he; cases he
    | some b =>
     rw [hg] at he
     have fin : ∀ v, (b = false → v = undef) → (b = true → evOp P call yld S H o = some (.val v H)) → stepPut (drawGo P call yld ops plan) H (S.put o.dst v) = some rr →
       ∃ plan' C' G' S' H' A', Inv P B w0 call yld ops ch al μ0 H0 S0 fr cs0 C' K G' S' H' μ w tmps ds cs D A' ∧ planOk ops ch al C' K G' plan' = true ∧ drawGo P call yld ops plan' S' H' = some rr ∧ (plan' = [] ∨ ∃ i rest, plan' = .chn i :: rest) := by
      intro v h1 h2 q; cases hput : S.put o.dst v with
      | none => rw [hput] at q; cases q
      | some S' =>
       rw [hput] at q; refine ih _ _ S' H A (inv_ins hs hI ho hf hc hput hg h1 hI.h hI.st (Nat.le_refl _) rfl (fun _ _ => rfl) (fun _ _ => rfl) (fun j hj _ hG => ⟨?_, rfl⟩) (fun hb _ _ => h2 hb) (fun _ h => by rw [ha] at h; cases h)) hp q; rcases tb_ins.1 hG with q | q
       ·
        exact q
       ·
        exact absurd q.symm hj
     cases b with
     | false => exact fin undef (fun _ => rfl) (fun h => by cases h) he
     | true =>
      have he : valRes S H o.dst (drawGo P call yld ops plan) (evOp P call yld S H o) = some rr := he; cases hev : evOp P call yld S H o with
      | none => rw [hev] at he; cases he
      | some r =>
       rw [hev] at he; cases r with
       | val v H2 =>
        have he : (bif Nat.beq H2.nx H.nx then stepPut (drawGo P call yld ops plan) H (S.put o.dst v) else none) = some rr := he; cases hnx : Nat.beq H2.nx H.nx with
        | false => rw [hnx] at he; cases he
        | true =>
        rw [hnx, cond_true] at he; have hH : H2 = H := evOp_same (hs.chn i o ho hc) (hal i o ho ha) hev (Nat.eq_of_beq_eq_true hnx); subst hH; exact fin v (fun h => by cases h) (fun _ => hev) he
       | skip _ => cases he
       | dfr _ => cases he
       | pan _ _ => cases he
       | rcv => cases he
  | alc i =>
   simp only [planOk, Bool.and_eq_true, Bool.not_eq_true'] at hp; obtain ⟨⟨⟨hf, hc⟩, ha⟩, hp⟩ := hp; have he : Option.rec (motive := fun _ => Option RegRes) none (alcStep P ops S H (drawGo P call yld ops plan)) (nth ops i) = some rr := he; cases ho : nth ops i with
   | none => rw [ho] at he; cases he
   | some o =>
    rw [ho] at he; rw [nth_eq] at ho; have he : Option.rec (motive := fun _ => Option RegRes) none (alcIf P S H o (drawGo P call yld ops plan)) (guardB ops S.T o) = some rr := he; have hGk : ∀ j, j ≠ i → al.testBit j = false → (Nat.lor (Nat.land G al) (Nat.pow 2 i)).testBit j = true → False := fun j hj haj hG => by
     rcases tb_ins.1 hG with q | q
     ·
      rw [tb_and, haj] at q; simp at q
     ·
      exact hj q.symm
    cases hg : guardB ops S.T o with
    | none => rw [hg] at he; cases he
    | some b =>
     rw [hg] at he; cases b with
     | false =>
      have he : stepPut (drawGo P call yld ops plan) H (S.put o.dst undef) = some rr := he; cases hput : S.put o.dst undef with
      | none => rw [hput] at he; cases he
      | some S' =>
       rw [hput] at he; exact ih _ _ S' H A (inv_ins hs hI ho hf hc hput hg (fun _ => rfl) hI.h hI.st (Nat.le_refl _) rfl (fun _ _ => rfl) (fun _ _ => rfl) (fun j hj haj hG => (hGk j hj haj hG).elim) (fun h => by cases h) (fun h => by cases h)) hp he
     | true =>
      have he : alcRes S H o.dst (drawGo P call yld ops plan) (allocOf P S.T o.op) = some rr := he; cases hall : allocOf P S.T o.op with
      | none => rw [hall] at he; cases he
      | some q =>
       obtain ⟨blk, kv⟩ := q; rw [hall] at he; have he : alcRes2 S o.dst (drawGo P call yld ops plan) kv (H.new blk) = some rr := he; cases hn : H.new blk with
       | none => rw [hn] at he; cases he
       | some q =>
        obtain ⟨a, H1⟩ := q; rw [hn] at he; obtain ⟨ea, e1, e2, e3, e4, e5⟩ := Hp.new_eq hn; subst ea; have he2 : stepPut (drawGo P call yld ops plan) H1 (S.put o.dst (kv.at H.nx)) = some rr := he; cases hput : S.put o.dst (kv.at H.nx) with
        | none => rw [hput] at he2; cases he2
        | some S' =>
         rw [hput] at he2
         refine ih _ _ S' H1 (fun j => if j = i then H.nx else A j) (inv_ins hs hI ho hf hc hput hg (fun h => by cases h) (hI.h.phantom hn (allocOf_closed hall)) (hI.st.new hn) (by omega) e4 (fun x hx => by rw [e5, if_neg (by omega)])
          (fun j hj => if_neg hj) (fun j hj haj hG => (hGk j hj haj hG).elim) (fun _ h => by rw [ha] at h; cases h) (fun _ _ => ⟨if_pos rfl, e1, hI.st.nx, blk, kv, hall, rfl, by rw [e5, if_pos rfl]⟩)) hp he2
end
end Go.Cre

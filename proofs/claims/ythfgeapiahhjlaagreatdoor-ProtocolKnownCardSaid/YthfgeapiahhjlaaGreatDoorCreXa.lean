/- A part of a verified evaluator of closed calls: see YthfgeapiahhjlaaGreatDoorCreZ. -/
import Derived.Test.YthfgeapiahhjlaaGreatDoorCreX9
set_option linter.unusedVariables false
set_option linter.unusedSimpArgs false
namespace Go.Cre
open Go.RowKit
open Classical

/-- the calls are sound whatever more is kept -/
def CallSoundA (P : Program) (B : Nat → Prop) (w0 : World) (call : CallEv) : Prop := ∀ (Bx : Nat → Prop) (wx : World), (∀ k, B k → Bx k) → Kept B w0 wx → CallSound P Bx wx call
def YieldSoundA (P : Program) (B : Nat → Prop) (w0 : World) (yld : YieldEv) : Prop := ∀ (Bx : Nat → Prop) (wx : World), (∀ k, B k → Bx k) → Kept B w0 wx → YieldSound P Bx wx yld

/-- the map that is being filled: the machine's block, which entries it has already -/
def Park (B : Nat → Prop) (ws a m : Nat) (es : List (Nat × Value × Value)) (μ : Mp) (w : World) (D : Nat → Bool) (Bx : Nat → Prop) : Prop :=
  (D m = false ∧ Bx = B) ∨
  (D m = true ∧ ∃ (r N sz : Nat) (en : Array MapEntry) (c : Nat) (js : List Nat) (e' : Nat → MapEntry), μ a = some ⟨r, N, sz⟩ ∧ Bx = (fun k => B k ∨ k = r) ∧ ws ≤ r ∧ w.heap[r]? = some (.map en c) ∧ en.toList = js.map e' ∧ js.Nodup ∧
    (∀ j, j ∈ js ↔ D j = true ∧ ∃ x ∈ es, x.1 = j) ∧ ∀ j ∈ js, ∀ x ∈ es, x.1 = j → (e' j).key = x.2.1 ∧ VRel μ x.2.2 (e' j).val)

section
variable {P : Program} {B Bx : Nat → Prop} {w0 w w' : World} {μ μ' μ0 : Mp} {H H0 H' H1 : Hp} {S S0 S' S1 : St} {fr : Frame} {tmps : Array Value} {ds : List Deferred} {cs cs0 : List Frame} {call : CallEv} {yld : YieldEv}
variable {ops : Array Oper} {l : List Oper} {ch al C K G : Nat} {D : Nat → Bool} {A : Nat → Nat} {i : Nat} {o : Oper} {k : List Item} {rest : List Nat} {ws a m : Nat} {es : List (Nat × Value × Value)}

theorem Park.step (h : Park B ws a m es μ w D Bx) (he : Ext μ μ') (hk : Kept Bx w w') (him : i ≠ m) (hie : ∀ x ∈ es, x.1 ≠ i) : Park B ws a m es μ' w' (Dins D i) Bx := by
  have hDm : ∀ j, j ≠ i → Dins D i j = D j := fun j hj => by unfold Dins; rw [if_neg hj]
  rcases h with ⟨h1, h2⟩ | ⟨h1, r, N, sz, en, c, js, e', q1, q2, q3, q4, q5, q6, q7, q8⟩
  · exact .inl ⟨by rw [hDm m (Ne.symm him)]; exact h1, h2⟩
  · refine .inr ⟨by rw [hDm m (Ne.symm him)]; exact h1, r, N, sz, en, c, js, e', he _ _ q1, q2, q3, ?_, q5, q6, fun j => ?_, fun j hj x hx e => ?_⟩
    · rw [hk.block r (by rw [q2]; exact .inr rfl)]; exact q4
    · constructor
      · intro hj
        obtain ⟨a1, x, a2, a3⟩ := (q7 j).1 hj
        exact ⟨by rw [hDm j (by rw [← a3]; exact hie x a2)]; exact a1, x, a2, a3⟩
      · rintro ⟨a1, x, a2, a3⟩
        exact (q7 j).2 ⟨by rw [hDm j (by rw [← a3]; exact hie x a2)] at a1; exact a1, x, a2, a3⟩
    · obtain ⟨a1, a2⟩ := q8 j hj x hx e
      exact ⟨a1, a2.mono he⟩

theorem ready_someL {n : Nat} (hdown : ∀ (i : Nat) o j, i < n → ops[i]? = some o → (Oper.mask o).testBit j = true → j < i) (hn : n ≤ ops.size) {listed : Array Bool} (hsz : listed.size = ops.size) : ∀ m, m < n → Dof listed m = false → Region.ready .any ops listed ≠ [] := by
  intro m
  induction m using Nat.strongRecOn with
  | ind m ih =>
    intro hm hd
    have hms : m < ops.size := by omega
    by_cases hall : ∀ j, (Oper.mask ops[m]).testBit j = true → Dof listed j = true
    · intro hnil
      have : m ∈ Region.ready .any ops listed := by
        unfold Region.ready
        simp only [List.mem_filter, List.mem_range, Bool.and_eq_true, Bool.not_eq_true']
        refine ⟨hms, ?_, ?_⟩
        · have hlt : m < listed.size := by omega
          unfold Dof at hd
          simp [hlt] at hd ⊢; exact hd
        · simp only [Array.getElem?_eq_getElem hms, Option.map_some, Option.getD_some, Array.all_eq_true_iff_forall_mem]
          intro e he
          cases hb : Region.binds .any e with
          | false => rfl
          | true =>
            have := hall e.on (edgeMask_spec.2 ⟨e, by simpa using he, hb, rfl⟩)
            simpa [Dof] using this
      rw [hnil] at this; cases this
    · simp only [Classical.not_forall] at hall
      obtain ⟨j, hj, hdj⟩ := hall
      have hlt := hdown m ops[m] j hm (by simp [hms]) hj
      exact ih j hlt (by omega) (by cases h : Dof listed j with
        | false => rfl
        | true => exact absurd h hdj)

/-- behind the literal the operations come one by one -/
theorem lin_tail {n : Nat} (htail : ∀ (i : Nat) o, n ≤ i → ops[i]? = some o → (∀ j, j < i → (Oper.mask o).testBit j = true) ∧ ∀ j, (Oper.mask o).testBit j = true → j < i) : ∀ (fuel tt p : Nat) (listed : Array Bool), listed.size = ops.size → n ≤ p → p + fuel = ops.size →
    (∀ j, j < p → Dof listed j = true) → (∀ j, p ≤ j → Dof listed j = false) → Region.linearise.go .any ops fuel tt listed [] = List.range' p fuel := by
  intro fuel
  induction fuel with
  | zero => intro tt p listed _ _ _ _ _; rfl
  | succ fuel ih =>
    intro tt p listed hsz hnp hpf hd hu
    have hp : p < ops.size := by omega
    have hready : Region.ready .any ops listed = [p] := by
      have hmem : ∀ i, i ∈ Region.ready .any ops listed ↔ i = p := by
        intro i
        constructor
        · intro hi
          obtain ⟨o, ho, hlt, hDi, hr⟩ := ready_mem hsz hi
          rcases Nat.lt_or_ge i p with q | q
          · rw [hd i q] at hDi; cases hDi
          · rcases Nat.lt_or_ge p i with q' | q'
            · have := hr p ((htail i o (by omega) ho).1 p q')
              rw [hu p (Nat.le_refl _)] at this; cases this
            · omega
        · rintro rfl
          unfold Region.ready
          simp only [List.mem_filter, List.mem_range, Bool.and_eq_true, Bool.not_eq_true']
          have hlt : i < listed.size := by omega
          refine ⟨hp, ?_, ?_⟩
          · have := hu i (Nat.le_refl _)
            unfold Dof at this
            simp [hlt] at this ⊢; exact this
          · simp only [Array.getElem?_eq_getElem hp, Option.map_some, Option.getD_some, Array.all_eq_true_iff_forall_mem]
            intro e he
            cases hb : Region.binds .any e with
            | false => rfl
            | true =>
              have hm : (Oper.mask ops[i]).testBit e.on = true := edgeMask_spec.2 ⟨e, by simpa using he, hb, rfl⟩
              have := hd e.on ((htail i ops[i] hnp (by simp [hp])).2 _ hm)
              simpa [Dof] using this
      have hnd : (Region.ready .any ops listed).Nodup := by unfold Region.ready; exact List.nodup_range.filter _
      have hpm : p ∈ Region.ready .any ops listed := (hmem p).2 rfl
      cases hl : Region.ready .any ops listed with
      | nil => rw [hl] at hpm; cases hpm
      | cons x xs =>
        rw [hl] at hmem hnd
        have hx : x = p := (hmem x).1 (by simp)
        cases xs with
        | nil => rw [hx]
        | cons y ys =>
          have hy : y = p := (hmem y).1 (by simp)
          rw [hx, hy] at hnd
          simp at hnd
    simp only [Region.linearise.go]
    change (match (Region.ready .any ops listed)[tt % (Region.ready .any ops listed).length]? with
      | some i => Region.linearise.go .any ops fuel (tt / (Region.ready .any ops listed).length) (listed.setIfInBounds i true) [i]
      | none => [].reverse) = List.range' p (fuel + 1)
    rw [hready]
    simp only [List.length_singleton, Nat.mod_one, List.getElem?_cons_zero, Nat.div_one]
    rw [linearise_go_acc, List.reverse_singleton, List.singleton_append]
    have hlt : p < listed.size := by omega
    rw [ih tt (p + 1) (listed.setIfInBounds p true) (by simpa using hsz) (by omega) (by omega) (fun j hj => ?_) (fun j hj => ?_)]
    · rfl
    · rw [Dof_set hlt, Dins_iff]
      rcases Nat.lt_or_ge j p with q | q
      · exact .inl (hd j q)
      · exact .inr (by omega)
    · rw [Dof_set hlt]
      unfold Dins
      rw [if_neg (by omega)]; exact hu j (by omega)

theorem opdT_safe {T T' : Tr Value} {x : Operand} {v : Value} (h : opdT T x = some v) (ht : ∀ u, x = .tmp u → T'.get u = T.get u) : opdT T' x = some v := by
  cases x with
  | tmp u => have := ht u rfl; show T'.get u = some v; rw [this]; exact h
  | const c => exact h
  | global g => exact h
  | func f => exact h

theorem count_take_zero {listed : Array Bool} {n : Nat} (hn : n ≤ listed.size) (h : (listed.toList.take n).count false = 0) : ∀ i, i < n → Dof listed i = true := fun i hi => by
  have h0 := List.count_eq_zero.1 h
  unfold Dof
  cases hb : listed.getD i false with
  | true => rfl
  | false =>
    exfalso
    refine h0 ?_
    have hi' : i < listed.size := by omega
    have : listed[i] = false := by simpa [hi'] using hb
    rw [List.mem_iff_getElem?]
    exact ⟨i, by rw [List.getElem?_take, if_pos hi]; simp [hi', this]⟩
theorem count_take_set {listed : Array Bool} {n i f : Nat} (hi : i < n) (hn : n ≤ listed.size) (hf : Dof listed i = false) (hc : (listed.toList.take n).count false = f + 1) : ((listed.setIfInBounds i true).toList.take n).count false = f := by
  have hi' : i < listed.size := by omega
  have hb : listed[i] = false := by unfold Dof at hf; simpa [hi'] using hf
  have : (listed.setIfInBounds i true).toList.take n = (listed.toList.take n).set i true := by simp [List.take_set]
  rw [this, List.count_set (by simp; omega)]
  simp [hb, hc]
theorem exists_false {listed : Array Bool} {n f : Nat} (hn : n ≤ listed.size) (hc : (listed.toList.take n).count false = f + 1) : ∃ m, m < n ∧ Dof listed m = false := by
  have : 0 < (listed.toList.take n).count false := by omega
  rw [List.count_pos_iff] at this
  obtain ⟨m, hm, e⟩ := List.mem_iff_getElem.1 this
  simp at hm e
  refine ⟨m, by omega, ?_⟩
  unfold Dof
  have hm' : m < listed.size := by omega
  simp [hm', e]
end
end Go.Cre

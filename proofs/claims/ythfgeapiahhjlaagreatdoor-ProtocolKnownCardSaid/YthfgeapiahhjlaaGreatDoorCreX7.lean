/- A part of a verified evaluator of closed calls: see YthfgeapiahhjlaaGreatDoorCreZ. -/
import Derived.Test.YthfgeapiahhjlaaGreatDoorCreX6
set_option linter.unusedVariables false
set_option linter.unusedSimpArgs false
namespace Go.Cre
open Go.RowKit
open Classical

section
variable {P : Program} {B : Nat → Prop} {w0 w : World} {μ μ0 : Mp} {H H0 H' H1 : Hp} {S S0 S' S1 : St} {fr : Frame} {tmps : Array Value} {ds : List Deferred} {cs cs0 : List Frame} {call : CallEv} {yld : YieldEv}
variable {ops : Array Oper} {ch al C K G : Nat} {D : Nat → Bool} {A : Nat → Nat} {i : Nat} {o : Oper} {k : List Item} {rest : List Nat}

/-- the machine's list of those done, as a set -/
def Dof (listed : Array Bool) : Nat → Bool := fun i => listed.getD i false
theorem Dof_set {listed : Array Bool} {i : Nat} (hi : i < listed.size) : Dof (listed.setIfInBounds i true) = Dins (Dof listed) i := by
  funext j
  unfold Dof Dins
  by_cases h : j = i
  · subst h; simp [hi]
  · rw [if_neg h]; simp [Array.getElem?_setIfInBounds_ne (Ne.symm h)]

theorem ready_mem {listed : Array Bool} (hsz : listed.size = ops.size) {i : Nat} (hi : i ∈ Region.ready .any ops listed) : ∃ o, ops[i]? = some o ∧ i < ops.size ∧ Dof listed i = false ∧ ∀ j, (Oper.mask o).testBit j = true → Dof listed j = true := by
  unfold Region.ready at hi
  simp only [List.mem_filter, List.mem_range, Bool.and_eq_true, Bool.not_eq_true'] at hi
  obtain ⟨h1, h2, h3⟩ := hi
  have hlt : i < listed.size := by omega
  refine ⟨ops[i], by simp [h1], h1, by unfold Dof; simp [hlt] at h2 ⊢; exact h2, fun j hj => ?_⟩
  unfold Oper.mask at hj
  obtain ⟨e, he, hb, rfl⟩ := edgeMask_spec.1 hj
  simp only [Array.getElem?_eq_getElem h1, Option.map_some, Option.getD_some, Array.all_eq_true_iff_forall_mem] at h3
  have := h3 e (by simpa using he)
  rw [hb] at this
  simpa [Dof] using this

theorem ready_some (hs : SOk ops.toList ch) {listed : Array Bool} (hsz : listed.size = ops.size) : ∀ m, m < ops.size → Dof listed m = false → Region.ready .any ops listed ≠ [] := by
  intro m
  induction m using Nat.strongRecOn with
  | ind m ih =>
    intro hm hd
    by_cases hall : ∀ j, (Oper.mask ops[m]).testBit j = true → Dof listed j = true
    · intro hnil
      have : m ∈ Region.ready .any ops listed := by
        unfold Region.ready
        simp only [List.mem_filter, List.mem_range, Bool.and_eq_true, Bool.not_eq_true']
        refine ⟨hm, ?_, ?_⟩
        · have hlt : m < listed.size := by omega
          unfold Dof at hd
          simp [hlt] at hd ⊢; exact hd
        · simp only [Array.getElem?_eq_getElem hm, Option.map_some, Option.getD_some, Array.all_eq_true_iff_forall_mem]
          intro e he
          cases hb : Region.binds .any e with
          | false => rfl
          | true =>
            have := hall e.on (edgeMask_spec.2 ⟨e, by simpa using he, hb, rfl⟩)
            simpa [Dof] using this
      rw [hnil] at this; cases this
    · simp only [Classical.not_forall] at hall
      obtain ⟨j, hj, hdj⟩ := hall
      have hlt := hs.down m ops[m] j (by simp [hm]) hj
      exact ih j hlt (by omega) (by cases h : Dof listed j with
        | false => rfl
        | true => exact absurd h hdj)

theorem count_false_zero {listed : Array Bool} (h : listed.toList.count false = 0) : ∀ i, i < listed.size → Dof listed i = true := fun i hi => by
  have h0 := List.count_eq_zero.1 h
  unfold Dof
  cases hb : listed.getD i false with
  | true => rfl
  | false =>
    exfalso
    refine h0 ?_
    have : listed[i] = false := by simpa [hi] using hb
    rw [← this]; simp

theorem count_set {listed : Array Bool} {i n : Nat} (hi : i < listed.size) (hf : Dof listed i = false) (hc : listed.toList.count false = n + 1) : (listed.setIfInBounds i true).toList.count false = n := by
  have hb : listed[i] = false := by unfold Dof at hf; simpa [hi] using hf
  have : (listed.setIfInBounds i true).toList = listed.toList.set i true := by simp
  rw [this, List.count_set (by simpa using hi)]
  simp [hb, hc]

theorem free_all (hall : ∀ i, C.testBit i = true → D i = true) (t : Nat) : free ops.toList C D t = true := free_iff.2 fun ⟨j, _, a, b, _, _⟩ => by
  rw [hall j a] at b; cases b

/-- THE RUN OF A DRAWN REGION, from a place where the plan has done all that is not of the chain. -/
theorem draw_run (hcall : CallSound P B w0 call) (hyld : YieldSound P B w0 yld) (hs : SOk ops.toList ch) (hal : ∀ (i : Nat) o, ops.toList[i]? = some o → al.testBit i = false → isAllocOp o.op = false) {rr : RegRes} :
    ∀ (fuel tt : Nat) (listed : Array Bool) (plan : List DStep) (C K G : Nat) (S : St) (H : Hp) (A : Nat → Nat) (μ : Mp) (w : World) (tmps : Array Value) (ds : List Deferred) (cs : List Frame),
    Inv P B w0 call yld ops.toList ch al μ0 H0 S0 fr cs0 C K G S H μ w tmps ds cs (Dof listed) A → planOk ops.toList ch al C K G plan = true → drawGo P call yld ops.toList plan S H = some rr →
    (plan = [] ∨ ∃ i rest, plan = .chn i :: rest) → listed.size = ops.size → listed.toList.count false = fuel →
    RegOk P B w0 μ0 H0 S0 fr cs0 (lone (fat fr tmps ds (.inRegion ops (Region.linearise.go .any ops fuel tt listed []) :: k)) cs w) k rr := by
  intro fuel
  induction fuel with
  | zero =>
    intro tt listed plan C K G S H A μ w tmps ds cs hI hp he hpl hsz hcnt
    have hall := count_false_zero hcnt
    have hC : ∀ i, i < ops.size → C.testBit i = true := fun i hi => hI.sub i (hall i (by omega))
    rcases hpl with rfl | ⟨i, rest, rfl⟩
    · have he : some (RegRes.ok S H) = some rr := he
      injection he with he; subst he
      refine ⟨μ, w, tmps, ds, cs, hI.h, hI.st, ?_, hI.csr, hI.dfd, hI.rnd, .one st_regionEnd⟩
      refine hI.f.conv rfl rfl rfl rfl rfl fun t v q => only_get.2 ⟨free_all (fun i hi => ?_) t, q⟩
      obtain ⟨o, ho⟩ := hI.bound i hi
      have : i < ops.toList.length := (List.getElem?_eq_some_iff.1 ho).1
      exact hall i (by simp at this; omega)
    · exfalso
      simp only [planOk, Bool.and_eq_true] at hp
      have hf := hp.1.1.1.1.1
      unfold fits at hf
      rw [nth_eq] at hf
      cases ho : ops.toList[i]? with
      | none => rw [ho] at hf; simp at hf
      | some o =>
        have : i < ops.toList.length := (List.getElem?_eq_some_iff.1 ho).1
        have := hC i (by simpa using this)
        simp [this] at hf
  | succ fuel ih =>
    intro tt listed plan C K G S H A μ w tmps ds cs hI hp he hpl hsz hcnt
    have hne : Region.ready .any ops listed ≠ [] := by
      have : 0 < listed.toList.count false := by omega
      rw [List.count_pos_iff] at this
      obtain ⟨m, hm, e⟩ := List.mem_iff_getElem.1 this
      have hm' : m < listed.size := by simpa using hm
      refine ready_some hs hsz m (by omega) ?_
      unfold Dof
      simp at e
      simp [hm', e]
    simp only [Region.linearise.go]
    change RegOk P B w0 μ0 H0 S0 fr cs0 (lone (fat fr tmps ds (.inRegion ops (match (Region.ready .any ops listed)[tt % (Region.ready .any ops listed).length]? with
      | some i => Region.linearise.go .any ops fuel (tt / (Region.ready .any ops listed).length) (listed.setIfInBounds i true) [i]
      | none => [].reverse) :: k)) cs w) k rr
    cases hi : (Region.ready .any ops listed)[tt % (Region.ready .any ops listed).length]? with
    | none =>
      exfalso
      have hpos : 0 < (Region.ready .any ops listed).length := List.length_pos_iff.2 hne
      have hlt := Nat.mod_lt tt hpos
      rw [List.getElem?_eq_getElem hlt] at hi; cases hi
    | some i =>
      simp only
      rw [linearise_go_acc, List.reverse_singleton, List.singleton_append]
      obtain ⟨o, ho, hlt, hDi, hready⟩ := ready_mem hsz (List.mem_of_getElem? hi)
      have hol : ops.toList[i]? = some o := by simpa using ho
      have hlt' : i < listed.size := by omega
      have hsz' : (listed.setIfInBounds i true).size = ops.size := by simpa using hsz
      have hbd : ∀ j, C.testBit j = true → K.testBit j = true ∨ G.testBit j = true := fun j hj => by
        have hsub : sub C (Nat.lor K G) = true := by
          rcases hpl with rfl | ⟨i', rest, rfl⟩
          · simp only [planOk, Bool.and_eq_true] at hp; exact hp.2
          · simp only [planOk, Bool.and_eq_true] at hp; exact hp.1.1.2
        have := sub_spec hsub hj
        rw [tb_or, Bool.or_eq_true] at this; exact this
      cases hC : C.testBit i with
      | true =>
        obtain ⟨μ', w', tmps', ds', cs', hst, hI'⟩ := real_pend (k := k) (rest := Region.linearise.go .any ops fuel (tt / (Region.ready .any ops listed).length) (listed.setIfInBounds i true) []) hcall hyld hs hI hbd hC hDi ho hready
        rw [← Dof_set hlt'] at hI'
        exact (ih _ _ plan C K G S H A μ' w' tmps' ds' cs' hI' hp he hpl hsz' (count_set hlt' hDi hcnt)).steps hst
      | false =>
        rcases hpl with rfl | ⟨i', rest, rfl⟩
        · exfalso
          simp only [planOk, Bool.and_eq_true] at hp
          have := isIn_spec hp.1 i (by simpa using hlt)
          rw [hC] at this; cases this
        · have hp0 := hp
          simp only [planOk, Bool.and_eq_true] at hp
          obtain ⟨⟨⟨⟨⟨p1, p2⟩, p3⟩, p4⟩, p5⟩, p6⟩ := hp
          have hii : i = i' := by
            have := only_spec p3 i o hol
            rw [Nat.zero_add] at this
            rcases this with q | q | q
            · rw [hC] at q; cases q
            · exact q
            · exfalso
              have hsubm : sub (Oper.mask o) C = true := by
                unfold sub
                have : Nat.land (Oper.mask o) C = Oper.mask o := by
                  apply Nat.eq_of_testBit_eq
                  intro j
                  rw [tb_and]
                  cases hj : (Oper.mask o).testBit j with
                  | false => rfl
                  | true => rw [hI.sub j (hready j hj)]; rfl
                rw [this]; simp
              rw [hsubm] at q; cases q
          subst hii
          rw [nth_eq, hol] at p5
          simp only [Bool.and_eq_true] at p5
          have he : Option.rec (motive := fun _ => Option RegRes) none (fun o => chnStep (drawGo P call yld ops.toList rest) (one P call yld ops.toList S H o)) (nth ops.toList i) = some rr := he
          rw [nth_eq, hol] at he
          have he : chnStep (drawGo P call yld ops.toList rest) (one P call yld ops.toList S H o) = some rr := he
          cases hone : one P call yld ops.toList S H o with
          | none => rw [hone] at he; cases he
          | some r1 =>
            rw [hone] at he
            cases r1 with
            | pan c S1 H1 => cases he
            | ok S1 H1 =>
              have he : drawGo P call yld ops.toList rest S1 H1 = some rr := he
              obtain ⟨μ', w', tmps', ds', cs', hst, hI'⟩ := real_chain (k := k) (rest := Region.linearise.go .any ops fuel (tt / (Region.ready .any ops listed).length) (listed.setIfInBounds i true) []) hcall hyld hs hI hC ho hready hone rfl (fun j hj => sub_spec p5.1 hj) p5.2
              rw [← Dof_set hlt'] at hI'
              obtain ⟨plan', C', G', S', H', A', q1, q2, q3, q4⟩ := canon_run hs hal rest _ _ S1 H1 A hI' p6 he
              exact (ih _ _ plan' C' _ G' S' H' A' μ' w' tmps' ds' cs' q1 q2 q3 q4 hsz' (count_set hlt' hDi hcnt)).steps hst

theorem evDraw_sound (hmix : P.follows .mixedOrders = true) (hcall : CallSound P B w0 call) (hyld : YieldSound P B w0 yld) (h : HRel P B w0 μ H w) (hf : FRel μ S fr tmps ds cs) {rr : RegRes} {id : Nat} (he : evDraw P call yld ops.toList S H = some rr) :
    RegOk P B w0 μ H S fr cs (lone (fat fr tmps ds (.code (.region id ops true) :: k)) cs w) k rr := by
  unfold evDraw at he
  cases hd : drawOk ops.toList with
  | false => rw [hd] at he; cases he
  | true =>
    rw [hd, cond_true] at he
    unfold drawOk at hd
    simp only [Bool.and_eq_true] at hd
    obtain ⟨hd1, hd2⟩ := hd
    have hs := sok_of hd1
    have hal : ∀ (i : Nat) o, ops.toList[i]? = some o → (allocM ops.toList 0).testBit i = false → isAllocOp o.op = false := fun i o ho hb => by
      cases ha : isAllocOp o.op with
      | false => rfl
      | true =>
        have := allocM_spec (k := 0) ho ha
        rw [Nat.zero_add, hb] at this; cases this
    refine RegOk.steps (.one st_draw) ?_
    simp only [Region.schedule, hmix, Bool.true_or, if_true]
    have hz : ∀ i, Nat.testBit 0 i = false := fun i => Nat.zero_testBit i
    have hD0 : ∀ i, Dof (Array.replicate ops.size false) i = false := fun i => by
      unfold Dof
      by_cases hi : i < ops.size
      · simp [hi]
      · simp [hi]
    have hI : Inv P B w0 call yld ops.toList (chainM ops.toList ops.toList 0) (allocM ops.toList 0) μ H S fr cs 0 0 0 S H μ { w with drawn := w.drawn + 1 } tmps ds cs (Dof (Array.replicate ops.size false)) (fun _ => 0) := by
      refine ⟨h.drawn _, ?_, Step.refl _ _, CsRel.refl _ _ hf.hasCs, rfl, rfl, fun i hi => ?_, fun i hi => ?_, fun i o j hi => ?_, fun i o j hi => ?_, fun i hi => ?_, fun i o hi => ?_, fun i j oi oj hi => ?_⟩
      · exact hf.conv rfl rfl rfl rfl rfl fun t v q => (only_get.1 q).2
      · rw [hD0] at hi; cases hi
      · rw [hz] at hi; cases hi
      · rw [hD0] at hi; cases hi
      · rw [hz] at hi; cases hi
      · rw [hz] at hi; cases hi
      · rw [hz] at hi; cases hi
      · rw [hz] at hi; cases hi
    obtain ⟨plan', C', G', S', H', A', q1, q2, q3, q4⟩ := canon_run hs hal (planOf ops.toList) _ _ S H _ hI hd2 he
    unfold Region.linearise
    exact draw_run hcall hyld hs hal ops.size _ _ plan' C' _ G' S' H' A' μ _ tmps ds cs q1 q2 q3 q4 (by simp) (by simp)
end
end Go.Cre

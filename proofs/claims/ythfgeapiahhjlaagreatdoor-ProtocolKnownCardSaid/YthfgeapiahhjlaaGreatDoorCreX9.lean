/- A part of a verified evaluator of closed calls: see YthfgeapiahhjlaaGreatDoorCreZ. -/
import Derived.Test.YthfgeapiahhjlaaGreatDoorCreX8
set_option linter.unusedVariables false
set_option linter.unusedSimpArgs false
namespace Go.Cre
open Go.RowKit
open Classical

/-! ### The literal's static facts -/
theorem allIx_spec {f : Nat → Oper → Bool} : ∀ {l : List Oper} {k : Nat}, allIx f l k = true → ∀ j o, l[j]? = some o → f (k + j) o = true := by
  intro l
  induction l with
  | nil => intro k _ j o h; simp at h
  | cons a l ih =>
    intro k h j o ho
    simp only [allIx, Bool.and_eq_true] at h
    cases j with
    | zero => simp at ho; subst ho; exact h.1
    | succ j =>
      have := ih h.2 j o (by simpa using ho)
      rwa [show Nat.succ k + j = k + (j + 1) from by omega] at this
theorem litOps_get {L : Lit} : ∀ {l : List Oper} {k j : Nat} {o : Oper}, l[j]? = some o → (litOps L l k)[j]? = some (litOp L (k + j) o) := by
  intro l
  induction l with
  | nil => intro k j o h; simp at h
  | cons a l ih =>
    intro k j o h
    cases j with
    | zero => simp at h; subst h; simp [litOps]
    | succ j =>
      have := ih (k := Nat.succ k) (by simpa using h)
      simp only [litOps, List.getElem?_cons_succ]
      rwa [show Nat.succ k + j = k + (j + 1) from by omega] at this
theorem litOps_length {L : Lit} : ∀ {l : List Oper} {k : Nat}, (litOps L l k).length = l.length := by
  intro l
  induction l with
  | nil => intro k; rfl
  | cons a l ih => intro k; simp [litOps, ih]
theorem litOps_inv {L : Lit} {l : List Oper} {k j : Nat} {o' : Oper} (h : (litOps L l k)[j]? = some o') : ∃ o, l[j]? = some o ∧ o' = litOp L (k + j) o := by
  have hj : j < l.length := by
    have := (List.getElem?_eq_some_iff.1 h).1
    rw [litOps_length] at this; exact this
  refine ⟨l[j], List.getElem?_eq_getElem hj, ?_⟩
  have := litOps_get (L := L) (k := k) (List.getElem?_eq_getElem hj)
  rw [h] at this; injection this
theorem litOp_same {L : Lit} {i : Nat} {o : Oper} : (litOp L i o).dst = o.dst ∧ (litOp L i o).guard = o.guard ∧ Oper.mask (litOp L i o) = Oper.mask o := by
  unfold litOp
  split
  · exact ⟨rfl, rfl, rfl⟩
  · cases Nat.beq i L.m <;> exact ⟨rfl, rfl, rfl⟩
  · exact ⟨rfl, rfl, rfl⟩

theorem isT_eq {t : Nat} {x : Operand} (h : isT t x = true) : x = .tmp t := by
  cases x with
  | tmp u => rw [Nat.eq_of_beq_eq_true h]
  | _ => cases h
theorem dstIs_iff {t : Nat} {d : Option Tmp} : dstIs t d = true ↔ d = some t := by
  cases d with
  | none => exact ⟨(fun h => by cases h), (fun h => by cases h)⟩
  | some u => exact ⟨fun h => by rw [Nat.eq_of_beq_eq_true h], fun h => by injection h with h; subst h; exact Nat.beq_refl _⟩

section
variable {P : Program} {call : CallEv} {yld : YieldEv}
theorem one_keeps {l : List Oper} {S S1 : St} {H H1 : Hp} {o : Oper} (he : one P call yld l S H o = some (.ok S1 H1)) {t : Nat} (ht : o.dst ≠ some t) : S1.T.get t = S.T.get t := by
  obtain ⟨_, _, _, _, _, _, _, _, _, _, _, h⟩ := one_only (p := fun _ => true) (fun _ _ => rfl) he
  exact h t ht

/-- what nobody writes who is still to come stays -/
theorem drawGo_keeps {l : List Oper} {ch al t : Nat} {Sf : St} {Hf : Hp} : ∀ (plan : List DStep) (C K G : Nat) (S : St) (H : Hp), planOk l ch al C K G plan = true → drawGo P call yld l plan S H = some (.ok Sf Hf) →
    (∀ (i : Nat) o, l[i]? = some o → o.dst = some t → C.testBit i = true) → Sf.T.get t = S.T.get t := by
  intro plan
  induction plan with
  | nil =>
    intro C K G S H _ he _
    have he : some (RegRes.ok S H) = some (.ok Sf Hf) := he
    injection he with he; injection he with he _; rw [he]
  | cons s plan ih =>
    intro C K G S H hp he hsafe
    have he : dStep P call yld l (drawGo P call yld l plan) S H s = some (.ok Sf Hf) := he
    have more : ∀ i, ∀ (j : Nat) o, l[j]? = some o → o.dst = some t → (Nat.lor C (Nat.pow 2 i)).testBit j = true := fun i j o ho hd => tb_ins.2 (.inl (hsafe j o ho hd))
    have hne : ∀ {i : Nat} {o : Oper}, fits l C i = true → l[i]? = some o → o.dst ≠ some t := fun {i o} hf ho hd => by
      have := (fits_spec hf ho).1
      rw [hsafe i o ho hd] at this; cases this
    have put : ∀ {i : Nat} {o : Oper} {v : Value} {H' : Hp} {K' G' : Nat}, fits l C i = true → l[i]? = some o → planOk l ch al (Nat.lor C (Nat.pow 2 i)) K' G' plan = true → stepPut (drawGo P call yld l plan) H' (S.put o.dst v) = some (.ok Sf Hf) → Sf.T.get t = S.T.get t := by
      intro i o v H' K' G' hf ho hpl hq
      cases hput : S.put o.dst v with
      | none => rw [hput] at hq; cases hq
      | some S' =>
        rw [hput] at hq
        rw [ih _ _ _ S' H' hpl hq (more i), (St.put_eq hput).2.2.2.2.2, if_neg (hne hf ho)]
    cases s with
    | chk s =>
      simp only [planOk, Bool.and_eq_true] at hp
      have he : (bif s.all (chkOne P call yld l S H) then drawGo P call yld l plan S H else none) = some (.ok Sf Hf) := he
      cases hl : s.all (chkOne P call yld l S H) with
      | false => rw [hl] at he; cases he
      | true => rw [hl, cond_true] at he; exact ih _ _ _ S H hp.2 he hsafe
    | val i =>
      simp only [planOk, Bool.and_eq_true, Bool.not_eq_true'] at hp
      obtain ⟨⟨⟨hf, hc⟩, ha⟩, hp⟩ := hp
      have he : Option.rec (motive := fun _ => Option RegRes) none (valStep P call yld l S H (drawGo P call yld l plan)) (nth l i) = some (.ok Sf Hf) := he
      cases ho : nth l i with
      | none => rw [ho] at he; cases he
      | some o =>
        rw [ho] at he
        rw [nth_eq] at ho
        have he : Option.rec (motive := fun _ => Option RegRes) none (valIf P call yld S H o (drawGo P call yld l plan)) (guardB l S.T o) = some (.ok Sf Hf) := he
        cases hg : guardB l S.T o with
        | none => rw [hg] at he; cases he
        | some b =>
          rw [hg] at he
          cases b with
          | false => exact put hf ho hp he
          | true =>
            have he : valRes S H o.dst (drawGo P call yld l plan) (evOp P call yld S H o) = some (.ok Sf Hf) := he
            cases hev : evOp P call yld S H o with
            | none => rw [hev] at he; cases he
            | some r =>
              rw [hev] at he
              cases r with
              | val v H2 =>
                have he : (bif Nat.beq H2.nx H.nx then stepPut (drawGo P call yld l plan) H (S.put o.dst v) else none) = some (.ok Sf Hf) := he
                cases hnx : Nat.beq H2.nx H.nx with
                | false => rw [hnx] at he; cases he
                | true => rw [hnx, cond_true] at he; exact put hf ho hp he
              | skip _ => cases he
              | dfr _ => cases he
              | pan _ _ => cases he
              | rcv => cases he
    | alc i =>
      simp only [planOk, Bool.and_eq_true, Bool.not_eq_true'] at hp
      obtain ⟨⟨⟨hf, hc⟩, ha⟩, hp⟩ := hp
      have he : Option.rec (motive := fun _ => Option RegRes) none (alcStep P l S H (drawGo P call yld l plan)) (nth l i) = some (.ok Sf Hf) := he
      cases ho : nth l i with
      | none => rw [ho] at he; cases he
      | some o =>
        rw [ho] at he
        rw [nth_eq] at ho
        have he : Option.rec (motive := fun _ => Option RegRes) none (alcIf P S H o (drawGo P call yld l plan)) (guardB l S.T o) = some (.ok Sf Hf) := he
        cases hg : guardB l S.T o with
        | none => rw [hg] at he; cases he
        | some b =>
          rw [hg] at he
          cases b with
          | false => exact put hf ho hp he
          | true =>
            have he : alcRes S H o.dst (drawGo P call yld l plan) (allocOf P S.T o.op) = some (.ok Sf Hf) := he
            cases hall : allocOf P S.T o.op with
            | none => rw [hall] at he; cases he
            | some q =>
              obtain ⟨blk, kv⟩ := q
              rw [hall] at he
              have he : alcRes2 S o.dst (drawGo P call yld l plan) kv (H.new blk) = some (.ok Sf Hf) := he
              cases hn : H.new blk with
              | none => rw [hn] at he; cases he
              | some q =>
                obtain ⟨a, H1⟩ := q
                rw [hn] at he
                exact put hf ho hp he
    | chn i =>
      simp only [planOk, Bool.and_eq_true] at hp
      have hf := hp.1.1.1.1.1
      have he : Option.rec (motive := fun _ => Option RegRes) none (fun o => chnStep (drawGo P call yld l plan) (one P call yld l S H o)) (nth l i) = some (.ok Sf Hf) := he
      cases ho : nth l i with
      | none => rw [ho] at he; cases he
      | some o =>
        rw [ho] at he
        rw [nth_eq] at ho
        have he : chnStep (drawGo P call yld l plan) (one P call yld l S H o) = some (.ok Sf Hf) := he
        cases hone : one P call yld l S H o with
        | none => rw [hone] at he; cases he
        | some r1 =>
          rw [hone] at he
          cases r1 with
          | pan c S1 H1 => cases he
          | ok S1 H1 =>
            have he : drawGo P call yld l plan S1 H1 = some (.ok Sf Hf) := he
            rw [ih _ _ _ S1 H1 hp.2 he (more i), one_keeps hone (hne hf ho)]

/-! ### The entries -/
theorem litGo_spec {T : Tr Value} {key : TypeId} : ∀ {l : List Oper} {k : Nat} {es : List (Nat × Value × Value)}, litGo P T key l k = some es →
    (∀ (j : Nat) o ty m kk x, l[j]? = some o → o.op = .insert ty m kk x → ∃ kv xv, (k + j, kv, xv) ∈ es ∧ opdT T kk = some kv ∧ opdT T x = some xv ∧ keyOk P key kv false = true) ∧
    (∀ e ∈ es, ∃ (j : Nat) (o : Oper) (ty : TypeId) (m kk x : Operand), e.1 = k + j ∧ l[j]? = some o ∧ o.op = .insert ty m kk x) ∧ es.Pairwise (fun a b => a.1 < b.1) := by
  intro l
  induction l with
  | nil =>
    intro k es h
    simp [litGo] at h; subst h
    exact ⟨(fun j o ty m kk x h => by simp at h), (fun e he => by cases he), List.Pairwise.nil⟩
  | cons a l ih =>
    intro k es h
    have skip : ∀ (r : List (Nat × Value × Value)), litGo P T key l (Nat.succ k) = some r → (∀ ty m kk x, a.op ≠ .insert ty m kk x) → es = r →
        (∀ (j : Nat) o ty m kk x, (a :: l)[j]? = some o → o.op = .insert ty m kk x → ∃ kv xv, (k + j, kv, xv) ∈ es ∧ opdT T kk = some kv ∧ opdT T x = some xv ∧ keyOk P key kv false = true) ∧
        (∀ e ∈ es, ∃ (j : Nat) (o : Oper) (ty : TypeId) (m kk x : Operand), e.1 = k + j ∧ (a :: l)[j]? = some o ∧ o.op = .insert ty m kk x) ∧ es.Pairwise (fun a b => a.1 < b.1) := by
      intro r hr hno e
      subst e
      obtain ⟨i1, i2, i3⟩ := ih hr
      refine ⟨fun j o ty m kk x hj hop => ?_, fun e he => ?_, i3⟩
      · cases j with
        | zero => simp at hj; subst hj; exact absurd hop (hno ty m kk x)
        | succ j =>
          obtain ⟨kv, xv, q⟩ := i1 j o ty m kk x (by simpa using hj) hop
          rw [show Nat.succ k + j = k + (j + 1) from by omega] at q
          exact ⟨kv, xv, q⟩
      · obtain ⟨j, o, ty, m, kk, x, q1, q2, q3⟩ := i2 e he
        exact ⟨j + 1, o, ty, m, kk, x, by omega, by simpa using q2, q3⟩
    unfold litGo at h
    split at h
    · rename_i ty m kk x hop
      split at h
      · rename_i kv xv r h1 h2 h3
        cases hk : keyOk P key kv false with
        | false => rw [hk] at h; cases h
        | true =>
          rw [hk, cond_true] at h
          injection h with h; subst h
          obtain ⟨i1, i2, i3⟩ := ih h3
          refine ⟨fun j o ty' m' kk' x' hj hop' => ?_, fun e he => ?_, List.pairwise_cons.2 ⟨fun e he => ?_, i3⟩⟩
          · cases j with
            | zero =>
              simp at hj; subst hj
              rw [hop] at hop'; injection hop' with _ _ a1 a2; subst a1; subst a2
              exact ⟨kv, xv, by simp, h1, h2, hk⟩
            | succ j =>
              obtain ⟨kv', xv', q1, q2⟩ := i1 j o ty' m' kk' x' (by simpa using hj) hop'
              rw [show Nat.succ k + j = k + (j + 1) from by omega] at q1
              exact ⟨kv', xv', by simp [q1], q2⟩
          · rcases List.mem_cons.1 he with rfl | q
            · exact ⟨0, a, ty, m, kk, x, rfl, rfl, hop⟩
            · obtain ⟨j, o, ty', m', kk', x', q1, q2, q3⟩ := i2 e q
              exact ⟨j + 1, o, ty', m', kk', x', by omega, by simpa using q2, q3⟩
          · obtain ⟨j, _, _, _, _, _, q1, _⟩ := i2 e he
            show k < e.1
            omega
      · cases h
    · rename_i hno
      exact skip es h (fun ty m kk x q => hno ty m kk x q) rfl

theorem isNo_eq {x : Option Bool} (h : isNo x = true) : x = some false := by
  cases x with
  | none => cases h
  | some b => cases b with
    | false => rfl
    | true => cases h
theorem apartK_spec {kt : TypeId} {kd : TypeDesc} : ∀ {es : List (Nat × Value × Value)}, apartK P kt kd es = true → ∀ x ∈ es, ∀ y ∈ es, x.1 ≠ y.1 → testA P kt kd x.2.1 y.2.1 = some false := by
  intro es
  induction es with
  | nil => intro _ x hx; cases hx
  | cons a es ih =>
    intro h x hx y hy hne
    simp only [apartK, Bool.and_eq_true, List.all_eq_true] at h
    rcases List.mem_cons.1 hx with rfl | hx1
    · rcases List.mem_cons.1 hy with rfl | hy1
      · exact absurd rfl hne
      · exact isNo_eq (h.1 y hy1).1
    · rcases List.mem_cons.1 hy with rfl | hy1
      · exact isNo_eq (h.1 x hx1).2
      · exact ih h.2 x hx1 y hy1 hne
theorem only_one {es : List (Nat × Value × Value)} (hp : es.Pairwise fun a b => a.1 < b.1) : ∀ x ∈ es, ∀ y ∈ es, x.1 = y.1 → x = y := by
  induction hp with
  | nil => intro x hx; cases hx
  | cons h _ ih =>
    intro x hx y hy e
    rcases List.mem_cons.1 hx with rfl | hx1
    · rcases List.mem_cons.1 hy with rfl | hy1
      · rfl
      · have := h y hy1; omega
    · rcases List.mem_cons.1 hy with rfl | hy1
      · have := h x hx1; omega
      · exact ih x hx1 y hy1 e

theorem mapInsert_run {ty key el : TypeId} {kd : TypeDesc} {r c : Nat} {en : Array MapEntry} {k v : Value} {w : World} (hu : P.underlying ty = some (.map key el)) (hkd : P.underlying key = some kd) (hr : w.heap[r]? = some (.map en c))
    (hck : ∀ w, (Instr.checkKey false 10000 key k).run P w = .ok () w) (ht : ∀ e ∈ en.toList, Tst P key kd k e.key false) :
    (Instr.mapUpdate ty (.map (some r)) k v).run P w = .ok () { w with heap := w.heap.setIfInBounds r (.map (en.push { key := k, val := v, born := c }) (c + 1)) } := by
  have hgo : (getObj r).run P w = .ok (.map en c) w := by simp [getObj, Sem.run, hr]
  have hso : ∀ o, (setObj r o).run P w = .ok () { w with heap := w.heap.setIfInBounds r o } := fun o => by simp [setObj, Sem.run, hr]
  obtain ⟨a, b⟩ := find_none (i := 0) ht
  have hf := findKey_run hkd a b w
  simp [Instr.mapUpdate, und_run hu, hgo, hck, hf, hso]
end
end Go.Cre

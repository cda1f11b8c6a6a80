/- A part of a verified evaluator of closed calls: see YthfgeapiahhjlaaGreatDoorCreZ. -/
import Derived.Test.YthfgeapiahhjlaaGreatDoorCreX7
set_option linter.unusedVariables false
set_option linter.unusedSimpArgs false
namespace Go.Cre
open Go.RowKit
open Classical

/-! ### Drawn regions with a map's literal -/
section
variable {P : Program} {B : Nat → Prop} {w0 w : World} {μ μ0 : Mp} {H H0 H' H1 : Hp} {S S0 S' S1 : St} {fr : Frame} {tmps : Array Value} {ds : List Deferred} {cs cs0 : List Frame} {call : CallEv} {yld : YieldEv}
variable {ops : Array Oper} {l : List Oper} {ch al C K G : Nat} {D : Nat → Bool} {A : Nat → Nat} {i : Nat} {o : Oper} {k : List Item} {rest : List Nat}

theorem one_list (hng : o.guard = none) (l l' : List Oper) : one P call yld l S H o = one P call yld l' S H o := by
  unfold one guardB; rw [hng]

/-- what is looked at has been made by the machine too -/
theorem looks_freeL (hs : SOk l ch) (hI : Inv P B w0 call yld l ch al μ0 H0 S0 fr cs0 C K G S H μ w tmps ds cs D A) (hol : l[i]? = some o) (hready : ∀ j, (Oper.mask o).testBit j = true → D j = true) :
    ∀ t ∈ looks l o, free l C D t = true := fun t ht => free_iff.2 fun ⟨j, oj, a, b, c, d⟩ => by
  rcases hs.look j i oj o t c hol d ht with q | ⟨q, _⟩
  · have := hready j q; rw [b] at this; cases this
  · have hk : K.testBit j = false := by
      cases hk : K.testBit j with
      | false => rfl
      | true => have := hI.k j hk; rw [b] at this; cases this
    have := (hI.good j oj a hk c).1
    rw [q] at this; cases this

theorem free_moreL {t : Nat} (hd : free l C (Dins D i) t = true) (hol : l[i]? = some o) : free l C D t = true ∨ o.dst = some t := by
  by_cases h : pendT l C D t
  · obtain ⟨j, oj, a, b, c, d⟩ := h
    by_cases hji : j = i
    · subst hji
      have : l[j]? = some o := hol
      rw [this] at c; injection c with c; subst c; exact .inr d
    · exfalso
      refine free_iff.1 hd ⟨j, oj, a, ?_, c, d⟩
      unfold Dins; rw [if_neg hji]; exact b
  · exact .inl (free_iff.2 h)

/-- what stays when the machine does an operation that the plan has done -/
theorem inv_fin (hI : Inv P B w0 call yld l ch al μ0 H0 S0 fr cs0 C K G S H μ w tmps ds cs D A) (hol : l[i]? = some o) (hC : C.testBit i = true) (hready : ∀ j, (Oper.mask o).testBit j = true → D j = true)
    {B' : Nat → Prop} {w0' : World} {μ' : Mp} {w' : World} {tmps' : Array Value} {ds' : List Deferred} {cs' : List Frame} {S'' : St} {v : Value} (h' : HRel P B' w0' μ' H w') (hst : Step μ0 μ' H0 H) (hcs : CsRel S0.dfd cs0 cs')
    (hput : (S.only (free l C D)).put o.dst v = some S'') (hv : ∀ t, o.dst = some t → S.T.get t = some v) (hf' : FRel μ' S'' fr tmps' ds' cs')
    (hph : ∀ (j : Nat) oj, C.testBit j = true → D j = false → j ≠ i → al.testBit j = true → l[j]? = some oj → guardB l S.T oj = some true → μ (A j) = none → A j < H.nx → μ' (A j) = none) :
    Inv P B' w0' call yld l ch al μ0 H0 S0 fr cs0 C K G S H μ' w' tmps' ds' cs' (Dins D i) A := by
  obtain ⟨b1, b2, b3, b4, b5, b6⟩ := St.put_eq hput
  refine ⟨h', ?_, hst, hcs, hI.dfd, hI.rnd, fun j hj => ?_, hI.bound, fun j oj m hj hoj hm => ?_, hI.downC, fun j hj => Dins_iff.2 (.inl (hI.k j hj)), fun j oj hj hkj hoj => ?_, ?_⟩
  · refine hf'.conv b1.symm b2.symm b3.symm b4.symm b5.symm fun t u q => ?_
    obtain ⟨q1, q2⟩ := only_get.1 q
    rw [b6]
    by_cases hd : o.dst = some t
    · rw [if_pos hd]; rw [hv t hd] at q2; exact q2
    · rw [if_neg hd]
      rcases free_moreL q1 hol with r | r
      · exact only_get.2 ⟨r, q2⟩
      · exact absurd r hd
  · rcases Dins_iff.1 hj with q | rfl
    · exact hI.sub j q
    · exact hC
  · rcases Dins_iff.1 hj with q | rfl
    · exact Dins_iff.2 (.inl (hI.down j oj m q hoj hm))
    · rw [hol] at hoj; injection hoj with hoj; subst hoj
      exact Dins_iff.2 (.inl (hready m hm))
  · obtain ⟨g1, bj, g2⟩ := hI.good j oj hj hkj hoj
    refine ⟨g1, bj, g2.move rfl rfl (fun _ _ => rfl) (fun _ _ => rfl) (fun _ h => ⟨h, rfl⟩) rfl fun hb ha hDj => ?_⟩
    obtain ⟨d1, d2⟩ := Dins_false hDj
    refine ⟨d1, fun blk _ ⟨e1, e2, e3, e4, e5⟩ => ⟨?_, e2, e3, e4, e5⟩⟩
    exact hph j oj hj d1 d2 ha hoj (hb ▸ g2.g) e1 e4
  · intro x y ox oy hx hy hDx hDy hax hay hox hoy hgx hgy hxy
    exact hI.inj x y ox oy hx hy (Dins_false hDx).1 (Dins_false hDy).1 hax hay hox hoy hgx hgy hxy
/-- THE MACHINE DOES AN OPERATION THAT THE PLAN HAS DONE. -/
theorem real_pendL (hcall : CallSound P B w0 call) (hyld : YieldSound P B w0 yld) (hs : SOk l ch) (hI : Inv P B w0 call yld l ch al μ0 H0 S0 fr cs0 C K G S H μ w tmps ds cs D A)
    (hbd : ∀ j, C.testBit j = true → K.testBit j = true ∨ G.testBit j = true) (hC : C.testBit i = true) (hD : D i = false) (ho : ops[i]? = some o) (hol : l[i]? = some o) (hng : o.guard = none) (hready : ∀ j, (Oper.mask o).testBit j = true → D j = true) :
    ∃ μ' w' tmps' ds' cs', Steps P (lone (fat fr tmps ds (.inRegion ops (i :: rest) :: k)) cs w) (lone (fat fr tmps' ds' (.inRegion ops rest :: k)) cs' w') ∧
      Ext μ μ' ∧ Inv P B w0 call yld l ch al μ0 H0 S0 fr cs0 C K G S H μ' w' tmps' ds' cs' (Dins D i) A := by
  have hfree := looks_freeL hs hI hol hready
  have hk : K.testBit i = false := by
    cases hk : K.testBit i with
    | false => rfl
    | true => have := hI.k i hk; rw [hD] at this; cases this
  have hGi : G.testBit i = true := by
    rcases hbd i hC with q | q
    · rw [hk] at q; cases q
    · exact q
  obtain ⟨hci, b, hg⟩ := hI.good i o hC hk hol
  have hlk : ∀ t ∈ looks l o, (S.only (free l C D)).T.get t = S.T.get t := fun t ht => by
    show (S.T.keep _).get t = _
    rw [Tr.get_keep, hfree t ht]; rfl
  have fin := fun (μ' : Mp) (w' : World) (tmps' : Array Value) (ds' : List Deferred) (cs' : List Frame) (S'' : St) (v : Value) => inv_fin (B' := B) (w0' := w0) (μ' := μ') (w' := w') (tmps' := tmps') (ds' := ds') (cs' := cs') (S'' := S'') (v := v) hI hol hC hready
  -- by one_sound, where nothing is made
  have plainly : ∀ v, one P call yld l (S.only (free l C D)) H o = regPut (S.only (free l C D)) o.dst v H → (∀ t, o.dst = some t → S.T.get t = some v) →
      ∃ μ' w' tmps' ds' cs', Steps P (lone (fat fr tmps ds (.inRegion ops (i :: rest) :: k)) cs w) (lone (fat fr tmps' ds' (.inRegion ops rest :: k)) cs' w') ∧
      Ext μ μ' ∧ Inv P B w0 call yld l ch al μ0 H0 S0 fr cs0 C K G S H μ' w' tmps' ds' cs' (Dins D i) A := by
    intro v hone hv
    obtain ⟨S'', hput⟩ := St.put_ok (S := S) (p := free l C D) hg.lt v
    rw [regPut_mk hput] at hone
    obtain ⟨μ', w', tmps', ds', cs', g1, g2, g3, g4, g5, g6, g7⟩ := one_sound (k := k) (rest := rest) hcall hyld hI.h hI.f ho ((one_list hng ops.toList l).trans hone)
    refine ⟨μ', w', tmps', ds', cs', g7, g2.ext, fin μ' w' tmps' ds' cs' S'' v g1 (hI.st.trans g2) (hI.csr.trans ?_) hput hv g3 fun j oj _ _ _ _ _ _ hm hlt => (g2.keep _ hlt hm).1⟩
    have : (S.only (free l C D)).dfd = S0.dfd := hI.dfd
    rw [← this]; exact g4
  have hgo : guardB l (S.only (free l C D)).T o = some b := by rw [guard_looks hlk]; exact hg.g
  cases b with
  | false =>
    refine plainly undef ?_ (hg.no rfl)
    unfold one; rw [hgo]; rfl
  | true =>
    cases ha : al.testBit i with
    | false =>
      obtain ⟨v, e1, e2⟩ := hg.val rfl ha hGi
      refine plainly v ?_ e2
      unfold one; rw [hgo]
      show oneAfter _ H o.dst (evOp P call yld (S.only (free l C D)) H o) = _
      rw [evOp_congr (S := S) (S' := S.only (free l C D)) rfl (opd_looks hlk), e1]
      rfl
    | true =>
      obtain ⟨blk, kv, e1, e2, e3⟩ := hg.alc rfl ha
      obtain ⟨m1, m2, m3, m4, m5⟩ := e3 hD
      have e1' : allocOf P (S.only (free l C D)).T o.op = some (blk, kv) := by rw [allocOf_looks hlk]; exact e1
      obtain ⟨ob, N, sz, r1, r2, r3, r4⟩ := alloc_real hI.f.t e1' w
      have hw := guard_sound (ops := ops) (b := true) hI.f.t (by unfold guardB; rw [hng])
      have hnd : fr.roundOf = none ∨ ∀ c, o.op ≠ .defer c := .inr fun c q => by rw [q] at e1; cases e1
      obtain ⟨hfill, hext⟩ := hI.h.fill (L := ⟨w.heap.size, N, sz⟩) m1 m4 m2 m5 rfl r2
      have hvr : VRel (μ.put (A i) ⟨w.heap.size, N, sz⟩) (kv.at (A i)) (kv.at w.heap.size) := AV.rel r4 (L := ⟨w.heap.size, N, sz⟩) (Mp.put_self _ _ _)
      obtain ⟨S'', hput⟩ := St.put_ok (S := S) (p := free l C D) hg.lt (kv.at (A i))
      obtain ⟨f1, _⟩ := put_sound (hI.f.mono hext) hvr hput
      refine ⟨_, _, _, _, _, .one (st_value ho hw hnd r1), hext, fin _ _ _ _ _ S'' (kv.at (A i)) hfill ?_ hI.csr hput e2 f1 ?_⟩
      · refine ⟨hI.st.ext.trans hext, hI.st.nx, hI.st.glo, fun id hid hm => ?_⟩
        obtain ⟨a, b⟩ := hI.st.keep id hid hm
        refine ⟨?_, b⟩
        rw [Mp.put_other _ _ (by omega)]; exact a
      · intro j oj hj hDj hji haj hoj hgj hm hlt
        rw [Mp.put_other _ _ ?_]
        · exact hm
        · intro q
          exact hji (hI.inj j i oj o hj hC hDj hD haj ha hoj hol hgj hg.g q)

/-- THE MACHINE DOES THE NEXT OPERATION OF THE CHAIN. -/
theorem real_chainL (hcall : CallSound P B w0 call) (hyld : YieldSound P B w0 yld) (hs : SOk l ch) (hI : Inv P B w0 call yld l ch al μ0 H0 S0 fr cs0 C K G S H μ w tmps ds cs D A)
    (hC : C.testBit i = false) (ho : ops[i]? = some o) (hol : l[i]? = some o) (hng : o.guard = none) (hready : ∀ j, (Oper.mask o).testBit j = true → D j = true) (hone : one P call yld l S H o = some (.ok S1 H1))
    {K' : Nat} (hK' : K' = closeK l l.length (Nat.lor K (Nat.pow 2 i))) (hKm : ∀ j, (Oper.mask o).testBit j = true → K'.testBit j = true) (hKi : K'.testBit i = true) :
    ∃ μ' w' tmps' ds' cs', Steps P (lone (fat fr tmps ds (.inRegion ops (i :: rest) :: k)) cs w) (lone (fat fr tmps' ds' (.inRegion ops rest :: k)) cs' w') ∧ Ext μ μ' ∧
      Inv P B w0 call yld l ch al μ0 H0 S0 fr cs0 (Nat.lor C (Nat.pow 2 i)) K' (Nat.land G al) S1 H1 μ' w' tmps' ds' cs' (Dins D i) A := by
  have hfree := looks_freeL hs hI hol hready
  have hDi : D i = false := by
    cases hd : D i with
    | false => rfl
    | true => have := hI.sub i hd; rw [hC] at this; cases this
  obtain ⟨S2, t1, t2, t3, t4, t5, t6, t7, t8, t9, t10, t11⟩ := one_only hfree hone
  obtain ⟨μ', w', tmps', ds', cs', g1, g2, g3, g4, g5, g6, g7⟩ := one_sound (k := k) (rest := rest) hcall hyld hI.h hI.f ho ((one_list hng ops.toList l).trans t1)
  have hdown : ∀ (j : Nat) oj m, Dins D i j = true → l[j]? = some oj → (Oper.mask oj).testBit m = true → Dins D i m = true := fun j oj m hj hoj hm => by
    rcases Dins_iff.1 hj with q | rfl
    · exact Dins_iff.2 (.inl (hI.down j oj m q hoj hm))
    · rw [hol] at hoj; injection hoj with hoj; subst hoj
      exact Dins_iff.2 (.inl (hready m hm))
  have hKD : ∀ j, K'.testBit j = true → Dins D i j = true := fun j hj => by
    rw [hK'] at hj
    refine closeK_spec (D := Dins D i) hdown (fun m hm => ?_) j hj
    rcases tb_ins.1 hm with q | rfl
    · exact Dins_iff.2 (.inl (hI.k m q))
    · exact Dins_iff.2 (.inr rfl)
  have hpendC : ∀ {j : Nat}, (Nat.lor C (Nat.pow 2 i)).testBit j = true → j ≠ i → C.testBit j = true := fun {j} hj hne => by
    rcases tb_ins.1 hj with q | q
    · exact q
    · exact absurd q.symm hne
  -- those that are not surely done don't look at what is written now
  have hagree : ∀ {j : Nat} {oj : Oper}, C.testBit j = true → K'.testBit j = false → l[j]? = some oj → ∀ t ∈ looks l oj, S1.T.get t = S.T.get t := fun {j oj} hj hkj hoj t ht => by
    refine t11 t fun hd => ?_
    rcases hs.look i j o oj t hol hoj hd ht with q | ⟨_, q | q⟩
    · have := hI.downC j oj i hj hoj q; rw [hC] at this; cases this
    · subst q; rw [hC] at hj; cases hj
    · rw [hKm j q] at hkj; cases hkj
  have hKK : ∀ {j : Nat}, K'.testBit j = false → j ≠ i → D j = false → K.testBit j = false := fun {j} _ _ hd => by
    cases hk : K.testBit j with
    | false => rfl
    | true => have := hI.k j hk; rw [hd] at this; cases this
  have hnK : ∀ {j : Nat}, Dins D i j = false → K'.testBit j = false := fun {j} hd => by
    cases hk : K'.testBit j with
    | false => rfl
    | true => have := hKD j hk; rw [hd] at this; cases this
  refine ⟨μ', w', tmps', ds', cs', g7, g2.ext, ⟨g1, ?_, hI.st.trans g2, hI.csr.trans ?_, t8.trans hI.dfd, t9.trans hI.rnd, fun j hj => ?_, fun j hj => ?_, hdown, fun j oj m hj hoj hm => ?_, hKD, fun j oj hj hkj hoj => ?_, ?_⟩⟩
  · refine g3.conv t2.symm t3.symm t4.symm t5.symm t6.symm fun t u q => ?_
    obtain ⟨q1, q2⟩ := only_get.1 q
    rw [t10]
    by_cases hd : o.dst = some t
    · rw [if_pos hd]; exact q2
    · rw [if_neg hd]
      rw [t11 t hd] at q2
      refine only_get.2 ⟨?_, q2⟩
      rw [free_iff] at q1 ⊢
      intro ⟨j, oj, a, b, c, d⟩
      refine q1 ⟨j, oj, tb_ins.2 (.inl a), ?_, c, d⟩
      unfold Dins
      rw [if_neg (fun e => by subst e; rw [hC] at a; cases a)]; exact b
  · have : (S.only (free l C D)).dfd = S0.dfd := hI.dfd
    rw [← this]; exact g4
  · rcases Dins_iff.1 hj with q | rfl
    · exact tb_ins.2 (.inl (hI.sub j q))
    · exact tb_ins.2 (.inr rfl)
  · rcases tb_ins.1 hj with q | rfl
    · exact hI.bound j q
    · exact ⟨o, hol⟩
  · rcases tb_ins.1 hj with q | rfl
    · exact tb_ins.2 (.inl (hI.downC j oj m q hoj hm))
    · rw [hol] at hoj; injection hoj with hoj; subst hoj
      exact tb_ins.2 (.inl (hI.sub m (hready m hm)))
  · have hji : j ≠ i := fun e => by subst e; rw [hKi] at hkj; cases hkj
    have hjC := hpendC hj hji
    cases hk : K.testBit j with
    | true =>
      exfalso
      have hcl : ∀ {n K0 : Nat}, K0.testBit j = true → (closeK l n K0).testBit j = true := by
        intro n
        induction n with
        | zero => intro K0 h; exact h
        | succ n ih =>
          intro K0 h
          simp only [closeK]
          refine ih ?_
          cases hb : K0.testBit n with
          | false => exact h
          | true =>
            rw [cond_true]
            cases nth l n with
            | none => exact h
            | some o => simp only; rw [tb_or, h]; rfl
      rw [hK', hcl (tb_ins.2 (.inl hk))] at hkj; cases hkj
    | false =>
      obtain ⟨c1, bj, c2⟩ := hI.good j oj hjC hk hoj
      refine ⟨c1, bj, c2.move t7 t9 (hagree hjC hkj hoj) (fun t ht => t11 t fun hd => hs.dst i j o oj t hol hoj (Ne.symm hji) hd ht) (fun ha hG => ?_) rfl fun hb ha hDj => ?_⟩
      · rw [tb_and, ha] at hG; simp at hG
      · obtain ⟨d1, d2⟩ := Dins_false hDj
        refine ⟨d1, fun blk hop ⟨e1, e2, e3, e4, e5⟩ => ?_⟩
        obtain ⟨z1, z2⟩ := g2.keep _ e4 e1
        exact ⟨z1, by rw [g2.glo]; exact e2, e3, Nat.lt_of_lt_of_le e4 g2.nx, by rw [z2 (by rw [e5]; exact hop)]; exact e5⟩
  · intro x y ox oy hx hy hDx hDy hax hay hox hoy hgx hgy hxy
    obtain ⟨d1, d2⟩ := Dins_false hDx
    obtain ⟨d3, d4⟩ := Dins_false hDy
    have hxC := hpendC hx d2
    have hyC := hpendC hy d4
    rw [guard_looks (hagree hxC (hnK hDx) hox)] at hgx
    rw [guard_looks (hagree hyC (hnK hDy) hoy)] at hgy
    exact hI.inj x y ox oy hxC hyC d1 d3 hax hay hox hoy hgx hgy hxy

/-- an operation that makes a block, other than the plan's -/
theorem real_mkL (hs : SOk l ch) (hI : Inv P B w0 call yld l ch al μ0 H0 S0 fr cs0 C K G S H μ w tmps ds cs D A)
    (hC : C.testBit i = true) (hD : D i = false) {om : Oper} (ho : ops[i]? = some om) (hol : l[i]? = some o) (hgm : om.guard = none) (hng : o.guard = none) (hdst : om.dst = o.dst) (hready : ∀ j, (Oper.mask o).testBit j = true → D j = true) (ha : al.testBit i = true)
    {blk : Blk} {kv : AV} {ob : Obj} {N sz : Nat} (hal : allocOf P S.T o.op = some (blk, kv)) (hnd : fr.roundOf = none ∨ ∀ c, om.op ≠ .defer c)
    (hrun : (execOp (rho tmps) om).run P w = .ok (.value (kv.at w.heap.size)) (w.alloc ob)) (hb : BRel P μ ⟨w.heap.size, N, sz⟩ blk ob) (hok : kv.ok = true) :
    Steps P (lone (fat fr tmps ds (.inRegion ops (i :: rest) :: k)) cs w) (lone (fat fr (putT tmps o.dst (kv.at w.heap.size)) ds (.inRegion ops rest :: k)) cs (w.alloc ob)) ∧
      Inv P B w0 call yld l ch al μ0 H0 S0 fr cs0 C K G S H (μ.put (A i) ⟨w.heap.size, N, sz⟩) (w.alloc ob) (putT tmps o.dst (kv.at w.heap.size)) ds cs (Dins D i) A ∧
      μ (A i) = none ∧ H.mem.get (A i) = some blk ∧ (∀ t, o.dst = some t → S.T.get t = some (kv.at (A i))) := by
  have hk : K.testBit i = false := by
    cases hk : K.testBit i with
    | false => rfl
    | true => have := hI.k i hk; rw [hD] at this; cases this
  obtain ⟨hci, b, hg⟩ := hI.good i o hC hk hol
  have hb1 : b = true := by
    have := hg.g
    unfold guardB at this
    rw [hng] at this
    injection this with this; exact this.symm
  subst hb1
  obtain ⟨blk', kv', e1, e2, e3⟩ := hg.alc rfl ha
  rw [hal] at e1; injection e1 with e1; injection e1 with e1 e1'; subst e1; subst e1'
  obtain ⟨m1, m2, m3, m4, m5⟩ := e3 hD
  have hw := guard_sound (ops := ops) (o := om) (b := true) hI.f.t (by unfold guardB; rw [hgm])
  obtain ⟨hfill, hext⟩ := hI.h.fill (L := ⟨w.heap.size, N, sz⟩) m1 m4 m2 m5 rfl hb
  have hvr : VRel (μ.put (A i) ⟨w.heap.size, N, sz⟩) (kv.at (A i)) (kv.at w.heap.size) := AV.rel hok (L := ⟨w.heap.size, N, sz⟩) (Mp.put_self _ _ _)
  obtain ⟨S'', hput⟩ := St.put_ok (S := S) (p := free l C D) hg.lt (kv.at (A i))
  obtain ⟨f1, _⟩ := put_sound (hI.f.mono hext) hvr hput
  have hst := st_value (k := k) (rest := rest) (cs := cs) (ds := ds) ho hw hnd hrun
  rw [hdst] at hst
  refine ⟨.one hst, inv_fin hI hol hC hready hfill ?_ hI.csr hput e2 f1 ?_, m1, m5, e2⟩
  · refine ⟨hI.st.ext.trans hext, hI.st.nx, hI.st.glo, fun id hid hm => ?_⟩
    obtain ⟨a, b⟩ := hI.st.keep id hid hm
    refine ⟨?_, b⟩
    rw [Mp.put_other _ _ (by omega)]; exact a
  · intro j oj hj hDj hji haj hoj hgj hm hlt
    rw [Mp.put_other _ _ ?_]
    · exact hm
    · intro q
      exact hji (hI.inj j i oj o hj hC hDj hD haj ha hoj hol hgj hg.g q)

/-- an operation without a result: the world alone has turned -/
theorem inv_none (hI : Inv P B w0 call yld l ch al μ0 H0 S0 fr cs0 C K G S H μ w tmps ds cs D A) (hol : l[i]? = some o) (hdn : o.dst = none) (hC : C.testBit i = true) (hready : ∀ j, (Oper.mask o).testBit j = true → D j = true)
    {B' : Nat → Prop} {w0' w' : World} (h' : HRel P B' w0' μ H w') : Inv P B' w0' call yld l ch al μ0 H0 S0 fr cs0 C K G S H μ w' tmps ds cs (Dins D i) A :=
  inv_fin (S'' := S.only (free l C D)) (v := undef) hI hol hC hready h' hI.st hI.csr (by rw [hdn]; rfl) (fun t ht => by rw [hdn] at ht; cases ht) hI.f (fun _ _ _ _ _ _ _ _ hm _ => hm)

theorem HRel.rebase {B' : Nat → Prop} (h : HRel P B w0 μ H w) (hsz : ∀ k, B' k → k < w.heap.size) (hn : ∀ id L, μ id = some L → H.glo ≤ id → H.mem.get id ≠ some .dead → ¬ B' L.r) : HRel P B' w μ H w :=
  ⟨Kept.refl _ _, hsz, h.blk, h.sep, h.lt, h.own, hn, h.glob, h.glt, h.famLt, h.famMem, h.famSort⟩
theorem Inv.rebase {B' : Nat → Prop} {w0' : World} (hI : Inv P B w0 call yld l ch al μ0 H0 S0 fr cs0 C K G S H μ w tmps ds cs D A) (h : HRel P B' w0' μ H w) : Inv P B' w0' call yld l ch al μ0 H0 S0 fr cs0 C K G S H μ w tmps ds cs D A :=
  ⟨h, hI.f, hI.st, hI.csr, hI.dfd, hI.rnd, hI.sub, hI.bound, hI.down, hI.downC, hI.k, hI.good, hI.inj⟩

/-- a block that is kept, and is nobody's, is written -/
theorem HRel.parked (h : HRel P B w0 μ H w) {r : Nat} {o' : Obj} (hr : ∀ id L, μ id = some L → L.r = r → H.mem.get id = some .dead) (hlt : r < w.heap.size) :
    HRel P B { w with heap := w.heap.setIfInBounds r o' } μ H { w with heap := w.heap.setIfInBounds r o' } := by
  refine ⟨Kept.refl _ _, fun k hk => ?_, fun id L hL => ?_, h.sep, h.lt, h.own, h.new, h.glob, h.glt, h.famLt, h.famMem, h.famSort⟩
  · show k < (w.heap.setIfInBounds r o').size; rw [Array.size_setIfInBounds]; exact h.bsz k hk
  · obtain ⟨b, ob, h1, h2, h3⟩ := h.blk id L hL
    by_cases e : L.r = r
    · have hd := hr id L hL e
      rw [hd] at h1; injection h1 with h1; subst h1
      refine ⟨.dead, o', hd, ?_, by cases o' <;> trivial⟩
      show (w.heap.setIfInBounds r o')[L.r]? = some o'
      rw [e, Array.getElem?_setIfInBounds]; simp [hlt]
    · refine ⟨b, ob, h1, ?_, h3⟩
      show (w.heap.setIfInBounds r o')[L.r]? = some ob
      rw [Array.getElem?_setIfInBounds, if_neg (Ne.symm e)]; exact h2

end
end Go.Cre

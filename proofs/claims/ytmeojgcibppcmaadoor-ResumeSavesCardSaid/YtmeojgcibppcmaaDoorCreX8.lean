/- A part of the proof of ResumeSaves. -/
import Derived.Test.YtmeojgcibppcmaaDoorCreX6
set_option linter.unusedVariables false
set_option linter.unusedSimpArgs false
namespace Go.Cre
open Go.RowKit
open Classical
section
variable {P : Program} {B : Nat → Prop} {w0 w : World} {μ μ0 : Mp} {H H0 H' H1 : Hp} {S S0 S' S1 : St} {fr : Frame} {tmps : Array Value} {ds : List Deferred} {cs cs0 : List Frame} {call : CallEv} {yld : YieldEv}
variable {ops : Array Oper} {l : List Oper} {ch al C K G : Nat} {D : Nat → Bool} {A : Nat → Nat} {i : Nat} {o : Oper} {k : List Item} {rest : List Nat}
theorem one_list (hng : o.guard = none) (l l' : List Oper) : one P call yld l S H o = one P call yld l' S H o := by
 unfold one guardB; rw [hng]
theorem looks_freeL (hs : SOk l ch) (hI : Inv P B w0 call yld l ch al μ0 H0 S0 fr cs0 C K G S H μ w tmps ds cs D A) (hol : l[i]? = some o) (hready : ∀ j, (Oper.mask o).testBit j = true → D j = true) :
  ∀ t ∈ looks l o, free l C D t = true := fun t ht => free_iff.2 fun ⟨j, oj, a, b, c, d⟩ => by
 rcases hs.look j i oj o t c hol d ht with q | ⟨q, _⟩
 ·
  have := hready j q; rw [b] at this; cases this
 ·
  have hk : K.testBit j = false := by
   cases hk : K.testBit j with
   | false => rfl
   | true => have := hI.k j hk; rw [b] at this; cases this
  have := (hI.good j oj a hk c).1; rw [q] at this; cases this
theorem free_moreL {t : Nat} (hd : free l C (Dins D i) t = true) (hol : l[i]? = some o) : free l C D t = true ∨ o.dst = some t := by
 by_cases h : pendT l C D t
 ·
  obtain ⟨j, oj, a, b, c, d⟩ := h; by_cases hji : j = i
  ·
   subst hji; have : l[j]? = some o := hol; rw [this] at c; injection c with c; subst c; exact .inr d
  ·
   exfalso; refine free_iff.1 hd ⟨j, oj, a, ?_, c, d⟩; unfold Dins; rw [if_neg hji]; exact b
 ·
  exact .inl (free_iff.2 h)
theorem inv_fin (hI : Inv P B w0 call yld l ch al μ0 H0 S0 fr cs0 C K G S H μ w tmps ds cs D A) (hol : l[i]? = some o) (hC : C.testBit i = true) (hready : ∀ j, (Oper.mask o).testBit j = true → D j = true)
  {B' : Nat → Prop} {w0' : World} {μ' : Mp} {w' : World} {tmps' : Array Value} {ds' : List Deferred} {cs' : List Frame} {S'' : St} {v : Value} (h' : HRel P B' w0' μ' H w') (hst : Step μ0 μ' H0 H) (hcs : CsRel S0.dfd cs0 cs')
  (hput : (S.only (free l C D)).put o.dst v = some S'') (hv : ∀ t, o.dst = some t → S.T.get t = some v) (hf' : FRel μ' S'' fr tmps' ds' cs')
  (hph : ∀ (j : Nat) oj, C.testBit j = true → D j = false → j ≠ i → al.testBit j = true → l[j]? = some oj → guardB l S.T oj = some true → μ (A j) = none → A j < H.nx → μ' (A j) = none) :
  Inv P B' w0' call yld l ch al μ0 H0 S0 fr cs0 C K G S H μ' w' tmps' ds' cs' (Dins D i) A := by
 obtain ⟨b1, b2, b3, b4, b5, b6⟩ := St.put_eq hput; refine ⟨h', ?_, hst, hcs, hI.dfd, hI.rnd, fun j hj => ?_, hI.bound, fun j oj m hj hoj hm => ?_, hI.downC, fun j hj => Dins_iff.2 (.inl (hI.k j hj)), fun j oj hj hkj hoj => ?_, ?_⟩
 ·
  refine hf'.conv b1.symm b2.symm b3.symm b4.symm b5.symm fun t u q => ?_; obtain ⟨q1, q2⟩ := only_get.1 q; rw [b6]; by_cases hd : o.dst = some t
  ·
   rw [if_pos hd]; rw [hv t hd] at q2; exact q2
  ·
   rw [if_neg hd]; rcases free_moreL q1 hol with r | r
   ·
    exact only_get.2 ⟨r, q2⟩
   ·
    exact absurd r hd
 ·
  rcases Dins_iff.1 hj with q | rfl
  ·
   exact hI.sub j q
  ·
   exact hC
 ·
  rcases Dins_iff.1 hj with q | rfl
  ·
   exact Dins_iff.2 (.inl (hI.down j oj m q hoj hm))
  ·
   rw [hol] at hoj; injection hoj with hoj; subst hoj
   exact Dins_iff.2 (.inl (hready m hm))
 ·
  obtain ⟨g1, bj, g2⟩ := hI.good j oj hj hkj hoj; refine ⟨g1, bj, g2.move rfl rfl (fun _ _ => rfl) (fun _ _ => rfl) (fun _ h => ⟨h, rfl⟩) rfl fun hb ha hDj => ?_⟩; obtain ⟨d1, d2⟩ := Dins_false hDj; refine ⟨d1, fun blk _ ⟨e1, e2, e3, e4, e5⟩ => ⟨?_, e2, e3, e4, e5⟩⟩; exact hph j oj hj d1 d2 ha hoj (hb ▸ g2.g) e1 e4
 ·
  intro x y ox oy hx hy hDx hDy hax hay hox hoy hgx hgy hxy; exact hI.inj x y ox oy hx hy (Dins_false hDx).1 (Dins_false hDy).1 hax hay hox hoy hgx hgy hxy
theorem real_pendL (hcall : CallSound P B w0 call) (hyld : YieldSound P B w0 yld) (hs : SOk l ch) (hI : Inv P B w0 call yld l ch al μ0 H0 S0 fr cs0 C K G S H μ w tmps ds cs D A)
  (hbd : ∀ j, C.testBit j = true → K.testBit j = true ∨ G.testBit j = true) (hC : C.testBit i = true) (hD : D i = false) (ho : ops[i]? = some o) (hol : l[i]? = some o) (hng : o.guard = none) (hready : ∀ j, (Oper.mask o).testBit j = true → D j = true) :
  ∃ μ' w' tmps' ds' cs', Steps P (lone (fat fr tmps ds (.inRegion ops (i :: rest) :: k)) cs w) (lone (fat fr tmps' ds' (.inRegion ops rest :: k)) cs' w') ∧
   Ext μ μ' ∧ Inv P B w0 call yld l ch al μ0 H0 S0 fr cs0 C K G S H μ' w' tmps' ds' cs' (Dins D i) A := by
 have hfree := looks_freeL hs hI hol hready; have hk : K.testBit i = false := by
  cases hk : K.testBit i with
  | false => rfl
  | true => have := hI.k i hk; rw [hD] at this; cases this
 have hGi : G.testBit i = true := by
  rcases hbd i hC with q | q
  ·
   rw [hk] at q; cases q
  ·
   exact q
 obtain ⟨hci, b, hg⟩ := hI.good i o hC hk hol; have hlk : ∀ t ∈ looks l o, (S.only (free l C D)).T.get t = S.T.get t := fun t ht => by
  show (S.T.keep _).get t = _; rw [Tr.get_keep, hfree t ht]; rfl
 have fin := fun (μ' : Mp) (w' : World) (tmps' : Array Value) (ds' : List Deferred) (cs' : List Frame) (S'' : St) (v : Value) => inv_fin (B' := B) (w0' := w0) (μ' := μ') (w' := w') (tmps' := tmps') (ds' := ds') (cs' := cs') (S'' := S'') (v := v) hI hol hC hready
 -- by one_sound, where nothing is made
 have plainly : ∀ v, one P call yld l (S.only (free l C D)) H o = regPut (S.only (free l C D)) o.dst v H → (∀ t, o.dst = some t → S.T.get t = some v) →
   ∃ μ' w' tmps' ds' cs', Steps P (lone (fat fr tmps ds (.inRegion ops (i :: rest) :: k)) cs w) (lone (fat fr tmps' ds' (.inRegion ops rest :: k)) cs' w') ∧
   Ext μ μ' ∧ Inv P B w0 call yld l ch al μ0 H0 S0 fr cs0 C K G S H μ' w' tmps' ds' cs' (Dins D i) A := by
  intro v hone hv; obtain ⟨S'', hput⟩ := St.put_ok (S := S) (p := free l C D) hg.lt v; rw [regPut_mk hput] at hone; obtain ⟨μ', w', tmps', ds', cs', g1, g2, g3, g4, g5, g6, g7⟩ := one_sound (k := k) (rest := rest) hcall hyld hI.h hI.f ho ((one_list hng ops.toList l).trans hone); refine ⟨μ', w', tmps', ds', cs', g7, g2.ext, fin μ' w' tmps' ds' cs' S'' v g1 (hI.st.trans g2) (hI.csr.trans ?_) hput hv g3 fun j oj _ _ _ _ _ _ hm hlt => (g2.keep _ hlt hm).1⟩; have : (S.only (free l C D)).dfd = S0.dfd := hI.dfd; rw [← this]; exact g4
 have hgo : guardB l (S.only (free l C D)).T o = some b := by rw [guard_looks hlk]; exact hg.g
 cases b with
 | false =>
  refine plainly undef ?_ (hg.no rfl); unfold one; rw [hgo]; rfl
 | true =>
  cases ha : al.testBit i with
  | false =>
   obtain ⟨v, e1, e2⟩ := hg.val rfl ha hGi; refine plainly v ?_ e2; unfold one; rw [hgo]; show oneAfter _ H o.dst (evOp P call yld (S.only (free l C D)) H o) = _; rw [evOp_congr (S := S) (S' := S.only (free l C D)) rfl (opd_looks hlk), e1]; rfl
  | true =>
   obtain ⟨blk, kv, e1, e2, e3⟩ := hg.alc rfl ha; obtain ⟨m1, m2, m3, m4, m5⟩ := e3 hD; have e1' : allocOf P (S.only (free l C D)).T o.op = some (blk, kv) := by rw [allocOf_looks hlk]; exact e1
   obtain ⟨ob, N, sz, r1, r2, r3, r4⟩ := alloc_real hI.f.t e1' w; have hw := guard_sound (ops := ops) (b := true) hI.f.t (by unfold guardB; rw [hng]); have hnd : fr.roundOf = none ∨ ∀ c, o.op ≠ .defer c := .inr fun c q => by rw [q] at e1; cases e1
   obtain ⟨hfill, hext⟩ := hI.h.fill (L := ⟨w.heap.size, N, sz⟩) m1 m4 m2 m5 rfl r2; have hvr : VRel (μ.put (A i) ⟨w.heap.size, N, sz⟩) (kv.at (A i)) (kv.at w.heap.size) := AV.rel r4 (L := ⟨w.heap.size, N, sz⟩) (Mp.put_self _ _ _); obtain ⟨S'', hput⟩ := St.put_ok (S := S) (p := free l C D) hg.lt (kv.at (A i)); obtain ⟨f1, _⟩ := put_sound (hI.f.mono hext) hvr hput; refine ⟨_, _, _, _, _, .one (st_value ho hw hnd r1), hext, fin _ _ _ _ _ S'' (kv.at (A i)) hfill ?_ hI.csr hput e2 f1 ?_⟩
   ·
    refine ⟨hI.st.ext.trans hext, hI.st.nx, hI.st.glo, fun id hid hm => ?_⟩; obtain ⟨a, b⟩ := hI.st.keep id hid hm; refine ⟨?_, b⟩; rw [Mp.put_other _ _ (by omega)]; exact a
   ·
    intro j oj hj hDj hji haj hoj hgj hm hlt; rw [Mp.put_other _ _ ?_]
    ·
     exact hm
    ·
     intro q; exact hji (hI.inj j i oj o hj hC hDj hD haj ha hoj hol hgj hg.g q)
theorem real_chainL (hcall : CallSound P B w0 call) (hyld : YieldSound P B w0 yld) (hs : SOk l ch) (hI : Inv P B w0 call yld l ch al μ0 H0 S0 fr cs0 C K G S H μ w tmps ds cs D A)
  (hC : C.testBit i = false) (ho : ops[i]? = some o) (hol : l[i]? = some o) (hng : o.guard = none) (hready : ∀ j, (Oper.mask o).testBit j = true → D j = true) (hone : one P call yld l S H o = some (.ok S1 H1))
  {K' : Nat} (hK' : K' = closeK l l.length (Nat.lor K (Nat.pow 2 i))) (hKm : ∀ j, (Oper.mask o).testBit j = true → K'.testBit j = true) (hKi : K'.testBit i = true) :
  ∃ μ' w' tmps' ds' cs', Steps P (lone (fat fr tmps ds (.inRegion ops (i :: rest) :: k)) cs w) (lone (fat fr tmps' ds' (.inRegion ops rest :: k)) cs' w') ∧ Ext μ μ' ∧
   Inv P B w0 call yld l ch al μ0 H0 S0 fr cs0 (Nat.lor C (Nat.pow 2 i)) K' (Nat.land G al) S1 H1 μ' w' tmps' ds' cs' (Dins D i) A := by
 have hfree := looks_freeL hs hI hol hready; have hDi : D i = false := by
  cases hd : D i with
  | false => rfl
  | true => have := hI.sub i hd; rw [hC] at this; cases this
 obtain ⟨S2, t1, t2, t3, t4, t5, t6, t7, t8, t9, t10, t11⟩ := one_only hfree hone; obtain ⟨μ', w', tmps', ds', cs', g1, g2, g3, g4, g5, g6, g7⟩ := one_sound (k := k) (rest := rest) hcall hyld hI.h hI.f ho ((one_list hng ops.toList l).trans t1); have hdown : ∀ (j : Nat) oj m, Dins D i j = true → l[j]? = some oj → (Oper.mask oj).testBit m = true → Dins D i m = true := fun j oj m hj hoj hm => by
  rcases Dins_iff.1 hj with q | rfl
  ·
   exact Dins_iff.2 (.inl (hI.down j oj m q hoj hm))
  ·
   rw [hol] at hoj; injection hoj with hoj; subst hoj
   exact Dins_iff.2 (.inl (hready m hm))
 have hKD : ∀ j, K'.testBit j = true → Dins D i j = true := fun j hj => by
  rw [hK'] at hj; refine closeK_spec (D := Dins D i) hdown (fun m hm => ?_) j hj; rcases tb_ins.1 hm with q | rfl
  ·
   exact Dins_iff.2 (.inl (hI.k m q))
  ·
   exact Dins_iff.2 (.inr rfl)
 have hpendC : ∀ {j : Nat}, (Nat.lor C (Nat.pow 2 i)).testBit j = true → j ≠ i → C.testBit j = true := fun {j} hj hne => by
  rcases tb_ins.1 hj with q | q
  ·
   exact q
  ·
   exact absurd q.symm hne
 -- those that are not surely done don't look at what is written now
 have hagree : ∀ {j : Nat} {oj : Oper}, C.testBit j = true → K'.testBit j = false → l[j]? = some oj → ∀ t ∈ looks l oj, S1.T.get t = S.T.get t := fun {j oj} hj hkj hoj t ht => by
  refine t11 t fun hd => ?_; rcases hs.look i j o oj t hol hoj hd ht with q | ⟨_, q | q⟩
  ·
   have := hI.downC j oj i hj hoj q; rw [hC] at this; cases this
  ·
   subst q; rw [hC] at hj; cases hj
  ·
   rw [hKm j q] at hkj; cases hkj
 have hKK : ∀ {j : Nat}, K'.testBit j = false → j ≠ i → D j = false → K.testBit j = false := fun {j} _ _ hd => by
  cases hk : K.testBit j with
  | false => rfl
  | true => have := hI.k j hk; rw [hd] at this; cases this
 have hnK : ∀ {j : Nat}, Dins D i j = false → K'.testBit j = false := fun {j} hd => by
  cases hk : K'.testBit j with
  | false => rfl
  | true => have := hKD j hk; rw [hd] at this; cases this
 refine ⟨μ', w', tmps', ds', cs', g7, g2.ext, ⟨g1, ?_, hI.st.trans g2, hI.csr.trans ?_, t8.trans hI.dfd, t9.trans hI.rnd, fun j hj => ?_, fun j hj => ?_, hdown, fun j oj m hj hoj hm => ?_, hKD, fun j oj hj hkj hoj => ?_, ?_⟩⟩
 ·
  refine g3.conv t2.symm t3.symm t4.symm t5.symm t6.symm fun t u q => ?_; obtain ⟨q1, q2⟩ := only_get.1 q; rw [t10]; by_cases hd : o.dst = some t
  ·
   rw [if_pos hd]; exact q2
  ·
   rw [if_neg hd]; rw [t11 t hd] at q2; refine only_get.2 ⟨?_, q2⟩; rw [free_iff] at q1 ⊢; intro ⟨j, oj, a, b, c, d⟩; refine q1 ⟨j, oj, tb_ins.2 (.inl a), ?_, c, d⟩; unfold Dins; rw [if_neg (fun e => by subst e; rw [hC] at a; cases a)]; exact b
 ·
  have : (S.only (free l C D)).dfd = S0.dfd := hI.dfd; rw [← this]; exact g4
 ·
  rcases Dins_iff.1 hj with q | rfl
  ·
   exact tb_ins.2 (.inl (hI.sub j q))
  ·
   exact tb_ins.2 (.inr rfl)
 ·
  rcases tb_ins.1 hj with q | rfl
  ·
   exact hI.bound j q
  ·
   exact ⟨o, hol⟩
 ·
  rcases tb_ins.1 hj with q | rfl
  ·
   exact tb_ins.2 (.inl (hI.downC j oj m q hoj hm))
  ·
   rw [hol] at hoj; injection hoj with hoj; subst hoj
   exact tb_ins.2 (.inl (hI.sub m (hready m hm)))
 ·
  have hji : j ≠ i := fun e => by subst e; rw [hKi] at hkj; cases hkj
  have hjC := hpendC hj hji; cases hk : K.testBit j with
  | true =>
   exfalso; have hcl : ∀ {n K0 : Nat}, K0.testBit j = true → (closeK l n K0).testBit j = true := by
    intro n; induction n with
    | zero => intro K0 h; exact h
    | succ n ih =>
     intro K0 h; simp only [closeK]; refine ih ?_; cases hb : K0.testBit n with
     | false => exact h
     | true =>
      rw [cond_true]; cases nth l n with
      | none => exact h
      | some o => simp only; rw [tb_or, h]; rfl
   rw [hK', hcl (tb_ins.2 (.inl hk))] at hkj; cases hkj
  | false =>
   obtain ⟨c1, bj, c2⟩ := hI.good j oj hjC hk hoj; refine ⟨c1, bj, c2.move t7 t9 (hagree hjC hkj hoj) (fun t ht => t11 t fun hd => hs.dst i j o oj t hol hoj (Ne.symm hji) hd ht) (fun ha hG => ?_) rfl fun hb ha hDj => ?_⟩
   ·
    rw [tb_and, ha] at hG; simp at hG
   ·
    obtain ⟨d1, d2⟩ := Dins_false hDj; refine ⟨d1, fun blk hop ⟨e1, e2, e3, e4, e5⟩ => ?_⟩; obtain ⟨z1, z2⟩ := g2.keep _ e4 e1; exact ⟨z1, by rw [g2.glo]; exact e2, e3, Nat.lt_of_lt_of_le e4 g2.nx, by rw [z2 (by rw [e5]; exact hop)]; exact e5⟩
 ·
  intro x y ox oy hx hy hDx hDy hax hay hox hoy hgx hgy hxy; obtain ⟨d1, d2⟩ := Dins_false hDx; obtain ⟨d3, d4⟩ := Dins_false hDy; have hxC := hpendC hx d2; have hyC := hpendC hy d4; rw [guard_looks (hagree hxC (hnK hDx) hox)] at hgx; rw [guard_looks (hagree hyC (hnK hDy) hoy)] at hgy; exact hI.inj x y ox oy hxC hyC d1 d3 hax hay hox hoy hgx hgy hxy
theorem real_mkL (hs : SOk l ch) (hI : Inv P B w0 call yld l ch al μ0 H0 S0 fr cs0 C K G S H μ w tmps ds cs D A)
  (hC : C.testBit i = true) (hD : D i = false) {om : Oper} (ho : ops[i]? = some om) (hol : l[i]? = some o) (hgm : om.guard = none) (hng : o.guard = none) (hdst : om.dst = o.dst) (hready : ∀ j, (Oper.mask o).testBit j = true → D j = true) (ha : al.testBit i = true)
  {blk : Blk} {kv : AV} {ob : Obj} {N sz : Nat} (hal : allocOf P S.T o.op = some (blk, kv)) (hnd : fr.roundOf = none ∨ ∀ c, om.op ≠ .defer c)
  (hrun : (execOp (rho tmps) om).run P w = .ok (.value (kv.at w.heap.size)) (w.alloc ob)) (hb : BRel P μ ⟨w.heap.size, N, sz⟩ blk ob) (hok : kv.ok = true) :
  Steps P (lone (fat fr tmps ds (.inRegion ops (i :: rest) :: k)) cs w) (lone (fat fr (putT tmps o.dst (kv.at w.heap.size)) ds (.inRegion ops rest :: k)) cs (w.alloc ob)) ∧
   Inv P B w0 call yld l ch al μ0 H0 S0 fr cs0 C K G S H (μ.put (A i) ⟨w.heap.size, N, sz⟩) (w.alloc ob) (putT tmps o.dst (kv.at w.heap.size)) ds cs (Dins D i) A ∧
   μ (A i) = none ∧ H.mem.get (A i) = some blk ∧ (∀ t, o.dst = some t → S.T.get t = some (kv.at (A i))) := by
 have hk : K.testBit i = false := by
  cases hk : K.testBit i with
  | false => rfl
  | true => have := hI.k i hk; rw [hD] at this; cases this
 obtain ⟨hci, b, hg⟩ := hI.good i o hC hk hol; have hb1 : b = true := by
  have := hg.g; unfold guardB at this; rw [hng] at this; injection this with this; exact this.symm
 subst hb1; obtain ⟨blk', kv', e1, e2, e3⟩ := hg.alc rfl ha; rw [hal] at e1; injection e1 with e1; injection e1 with e1 e1'; subst e1; subst e1'
 obtain ⟨m1, m2, m3, m4, m5⟩ := e3 hD; have hw := guard_sound (ops := ops) (o := om) (b := true) hI.f.t (by unfold guardB; rw [hgm]); obtain ⟨hfill, hext⟩ := hI.h.fill (L := ⟨w.heap.size, N, sz⟩) m1 m4 m2 m5 rfl hb; have hvr : VRel (μ.put (A i) ⟨w.heap.size, N, sz⟩) (kv.at (A i)) (kv.at w.heap.size) := AV.rel hok (L := ⟨w.heap.size, N, sz⟩) (Mp.put_self _ _ _); obtain ⟨S'', hput⟩ := St.put_ok (S := S) (p := free l C D) hg.lt (kv.at (A i)); obtain ⟨f1, _⟩ := put_sound (hI.f.mono hext) hvr hput; have hst := st_value (k := k) (rest := rest) (cs := cs) (ds := ds) ho hw hnd hrun; rw [hdst] at hst; refine ⟨.one hst, inv_fin hI hol hC hready hfill ?_ hI.csr hput e2 f1 ?_, m1, m5, e2⟩
 ·
  refine ⟨hI.st.ext.trans hext, hI.st.nx, hI.st.glo, fun id hid hm => ?_⟩; obtain ⟨a, b⟩ := hI.st.keep id hid hm; refine ⟨?_, b⟩; rw [Mp.put_other _ _ (by omega)]; exact a
 ·
  intro j oj hj hDj hji haj hoj hgj hm hlt; rw [Mp.put_other _ _ ?_]
  ·
   exact hm
  ·
   intro q; exact hji (hI.inj j i oj o hj hC hDj hD haj ha hoj hol hgj hg.g q)
theorem inv_none (hI : Inv P B w0 call yld l ch al μ0 H0 S0 fr cs0 C K G S H μ w tmps ds cs D A) (hol : l[i]? = some o) (hdn : o.dst = none) (hC : C.testBit i = true) (hready : ∀ j, (Oper.mask o).testBit j = true → D j = true)
  {B' : Nat → Prop} {w0' w' : World} (h' : HRel P B' w0' μ H w') : Inv P B' w0' call yld l ch al μ0 H0 S0 fr cs0 C K G S H μ w' tmps ds cs (Dins D i) A :=
 inv_fin (S'' := S.only (free l C D)) (v := undef) hI hol hC hready h' hI.st hI.csr (by rw [hdn]; rfl) (fun t ht => by rw [hdn] at ht; cases ht) hI.f (fun _ _ _ _ _ _ _ _ hm _ => hm)
theorem HRel.rebase {B' : Nat → Prop} (h : HRel P B w0 μ H w) (hsz : ∀ k, B' k → k < w.heap.size) (hn : ∀ id L, μ id = some L → H.glo ≤ id → H.mem.get id ≠ some .dead → ¬ B' L.r) : HRel P B' w μ H w :=
 ⟨Kept.refl _ _, hsz, h.blk, h.sep, h.lt, h.own, hn, h.glob, h.glt, h.famLt, h.famMem, h.famSort⟩
theorem Inv.rebase {B' : Nat → Prop} {w0' : World} (hI : Inv P B w0 call yld l ch al μ0 H0 S0 fr cs0 C K G S H μ w tmps ds cs D A) (h : HRel P B' w0' μ H w) : Inv P B' w0' call yld l ch al μ0 H0 S0 fr cs0 C K G S H μ w tmps ds cs D A :=
 ⟨h, hI.f, hI.st, hI.csr, hI.dfd, hI.rnd, hI.sub, hI.bound, hI.down, hI.downC, hI.k, hI.good, hI.inj⟩
theorem HRel.parked (h : HRel P B w0 μ H w) {r : Nat} {o' : Obj} (hr : ∀ id L, μ id = some L → L.r = r → H.mem.get id = some .dead) (hlt : r < w.heap.size) :
  HRel P B { w with heap := w.heap.setIfInBounds r o' } μ H { w with heap := w.heap.setIfInBounds r o' } := by
 refine ⟨Kept.refl _ _, fun k hk => ?_, fun id L hL => ?_, h.sep, h.lt, h.own, h.new, h.glob, h.glt, h.famLt, h.famMem, h.famSort⟩
 ·
  show k < (w.heap.setIfInBounds r o').size; rw [Array.size_setIfInBounds]; exact h.bsz k hk
 ·
  obtain ⟨b, ob, h1, h2, h3⟩ := h.blk id L hL; by_cases e : L.r = r
  ·
   have hd := hr id L hL e; rw [hd] at h1; injection h1 with h1; subst h1
   refine ⟨.dead, o', hd, ?_, by cases o' <;> trivial⟩; show (w.heap.setIfInBounds r o')[L.r]? = some o'; rw [e, Array.getElem?_setIfInBounds]; simp [hlt]
  ·
   refine ⟨b, ob, h1, ?_, h3⟩; show (w.heap.setIfInBounds r o')[L.r]? = some ob; rw [Array.getElem?_setIfInBounds, if_neg (Ne.symm e)]; exact h2
end
end Go.Cre
namespace Go.Cre
open Go.RowKit
open Classical
theorem allIx_spec {f : Nat → Oper → Bool} : ∀ {l : List Oper} {k : Nat}, allIx f l k = true → ∀ j o, l[j]? = some o → f (k + j) o = true := by
 intro l; induction l with
 | nil => intro k _ j o h; simp at h
 | cons a l ih =>
  intro k h j o ho; simp only [allIx, Bool.and_eq_true] at h; cases j with
  | zero => simp at ho; subst ho; exact h.1
  | succ j =>
   have := ih h.2 j o (by simpa using ho); rwa [show Nat.succ k + j = k + (j + 1) from by omega] at this
theorem litOps_get {L : Lit} : ∀ {l : List Oper} {k j : Nat} {o : Oper}, l[j]? = some o → (litOps L l k)[j]? = some (litOp L (k + j) o) := by
 intro l; induction l with
 | nil => intro k j o h; simp at h
 | cons a l ih =>
  intro k j o h; cases j with
  | zero => simp at h; subst h; simp [litOps]
  | succ j =>
   have := ih (k := Nat.succ k) (by simpa using h); simp only [litOps, List.getElem?_cons_succ]; rwa [show Nat.succ k + j = k + (j + 1) from by omega] at this
theorem litOps_length {L : Lit} : ∀ {l : List Oper} {k : Nat}, (litOps L l k).length = l.length := by
 intro l; induction l with
 | nil => intro k; rfl
 | cons a l ih => intro k; simp [litOps, ih]
theorem litOps_inv {L : Lit} {l : List Oper} {k j : Nat} {o' : Oper} (h : (litOps L l k)[j]? = some o') : ∃ o, l[j]? = some o ∧ o' = litOp L (k + j) o := by
 have hj : j < l.length := by
  have := (List.getElem?_eq_some_iff.1 h).1; rw [litOps_length] at this; exact this
 refine ⟨l[j], List.getElem?_eq_getElem hj, ?_⟩; have := litOps_get (L := L) (k := k) (List.getElem?_eq_getElem hj); rw [h] at this; injection this
theorem litOp_same {L : Lit} {i : Nat} {o : Oper} : (litOp L i o).dst = o.dst ∧ (litOp L i o).guard = o.guard ∧ Oper.mask (litOp L i o) = Oper.mask o := by
 unfold litOp; split
 ·
  exact ⟨rfl, rfl, rfl⟩
 ·
  cases Nat.beq i L.m <;> exact ⟨rfl, rfl, rfl⟩
 ·
  exact ⟨rfl, rfl, rfl⟩
theorem isT_eq {t : Nat} {x : Operand} (h : isT t x = true) : x = .tmp t := by
 cases x with
 | tmp u => rw [Nat.eq_of_beq_eq_true h]
 | _ => cases h
theorem dstIs_iff {t : Nat} {d : Option Tmp} : dstIs t d = true ↔ d = some t := by
 cases d with
 | none => exact ⟨(fun h => by cases h), (fun h => by cases h)⟩
 | some u => exact ⟨fun h => by rw [Nat.eq_of_beq_eq_true h], fun h => by injection h with h; subst h; exact Nat.beq_refl _⟩
section
variable {P : Program} {call : CallEv} {yld : YieldEv}
theorem one_keeps {l : List Oper} {S S1 : St} {H H1 : Hp} {o : Oper} (he : one P call yld l S H o = some (.ok S1 H1)) {t : Nat} (ht : o.dst ≠ some t) : S1.T.get t = S.T.get t := by
 obtain ⟨_, _, _, _, _, _, _, _, _, _, _, h⟩ := one_only (p := fun _ => true) (fun _ _ => rfl) he; exact h t ht
theorem drawGo_keeps {l : List Oper} {ch al t : Nat} {Sf : St} {Hf : Hp} : ∀ (plan : List DStep) (C K G : Nat) (S : St) (H : Hp), planOk l ch al C K G plan = true → drawGo P call yld l plan S H = some (.ok Sf Hf) →
  (∀ (i : Nat) o, l[i]? = some o → o.dst = some t → C.testBit i = true) → Sf.T.get t = S.T.get t := by
 intro plan; induction plan with
 | nil =>
  intro C K G S H _ he _; have he : some (RegRes.ok S H) = some (.ok Sf Hf) := he; injection he with he; injection he with he _; rw [he]
 | cons s plan ih =>
  intro C K G S H hp he hsafe; have he : dStep P call yld l (drawGo P call yld l plan) S H s = some (.ok Sf Hf) := he; have more : ∀ i, ∀ (j : Nat) o, l[j]? = some o → o.dst = some t → (Nat.lor C (Nat.pow 2 i)).testBit j = true := fun i j o ho hd => tb_ins.2 (.inl (hsafe j o ho hd)); have hne : ∀ {i : Nat} {o : Oper}, fits l C i = true → l[i]? = some o → o.dst ≠ some t := fun {i o} hf ho hd => by
   have := (fits_spec hf ho).1; rw [hsafe i o ho hd] at this; cases this
  have put : ∀ {i : Nat} {o : Oper} {v : Value} {H' : Hp} {K' G' : Nat}, fits l C i = true → l[i]? = some o → planOk l ch al (Nat.lor C (Nat.pow 2 i)) K' G' plan = true → stepPut (drawGo P call yld l plan) H' (S.put o.dst v) = some (.ok Sf Hf) → Sf.T.get t = S.T.get t := by
   intro i o v H' K' G' hf ho hpl hq; cases hput : S.put o.dst v with
   | none => rw [hput] at hq; cases hq
   | some S' =>
    rw [hput] at hq; rw [ih _ _ _ S' H' hpl hq (more i), (St.put_eq hput).2.2.2.2.2, if_neg (hne hf ho)]
  cases s with
  | chk s =>
   simp only [planOk, Bool.and_eq_true] at hp; have he : (bif s.all (chkOne P call yld l S H) then drawGo P call yld l plan S H else none) = some (.ok Sf Hf) := he; cases hl : s.all (chkOne P call yld l S H) with
   | false => rw [hl] at he; cases he
   | true => rw [hl, cond_true] at he; exact ih _ _ _ S H hp.2 he hsafe
  | val i =>
   simp only [planOk, Bool.and_eq_true, Bool.not_eq_true'] at hp; obtain ⟨⟨⟨hf, hc⟩, ha⟩, hp⟩ := hp; have he : Option.rec (motive := fun _ => Option RegRes) none (valStep P call yld l S H (drawGo P call yld l plan)) (nth l i) = some (.ok Sf Hf) := he; cases ho : nth l i with
   | none => rw [ho] at he; cases he
   | some o =>
    rw [ho] at he; rw [nth_eq] at ho; have he : Option.rec (motive := fun _ => Option RegRes) none (valIf P call yld S H o (drawGo P call yld l plan)) (guardB l S.T o) = some (.ok Sf Hf) := he; cases hg : guardB l S.T o with
    | none => rw [hg] at he; cases he
    | some b =>
     rw [hg] at he; cases b with
     | false => exact put hf ho hp he
     | true =>
      have he : valRes S H o.dst (drawGo P call yld l plan) (evOp P call yld S H o) = some (.ok Sf Hf) := he; cases hev : evOp P call yld S H o with
      | none => rw [hev] at he; cases he
      | some r =>
       rw [hev] at he; cases r with
       | val v H2 =>
        have he : (bif Nat.beq H2.nx H.nx then stepPut (drawGo P call yld l plan) H (S.put o.dst v) else none) = some (.ok Sf Hf) := he; cases hnx : Nat.beq H2.nx H.nx with
        | false => rw [hnx] at he; cases he
        | true => rw [hnx, cond_true] at he; exact put hf ho hp he
       | skip _ => cases he
       | dfr _ => cases he
       | pan _ _ => cases he
       | rcv => cases he
  | alc i =>
   simp only [planOk, Bool.and_eq_true, Bool.not_eq_true'] at hp; obtain ⟨⟨⟨hf, hc⟩, ha⟩, hp⟩ := hp; have he : Option.rec (motive := fun _ => Option RegRes) none (alcStep P l S H (drawGo P call yld l plan)) (nth l i) = some (.ok Sf Hf) := he; cases ho : nth l i with
   | none => rw [ho] at he; cases he
   | some o =>
    rw [ho] at he; rw [nth_eq] at ho; have he : Option.rec (motive := fun _ => Option RegRes) none (alcIf P S H o (drawGo P call yld l plan)) (guardB l S.T o) = some (.ok Sf Hf) := he; cases hg : guardB l S.T o with
    | none => rw [hg] at he; cases he
    | some b =>
     rw [hg] at he; cases b with
     | false => exact put hf ho hp he
     | true =>
      have he : alcRes S H o.dst (drawGo P call yld l plan) (allocOf P S.T o.op) = some (.ok Sf Hf) := he; cases hall : allocOf P S.T o.op with
      | none => rw [hall] at he; cases he
      | some q =>
       obtain ⟨blk, kv⟩ := q; rw [hall] at he; have he : alcRes2 S o.dst (drawGo P call yld l plan) kv (H.new blk) = some (.ok Sf Hf) := he; cases hn : H.new blk with
       | none => rw [hn] at he; cases he
       | some q =>
        obtain ⟨a, H1⟩ := q; rw [hn] at he; exact put hf ho hp he
  | chn i =>
   simp only [planOk, Bool.and_eq_true] at hp; have hf := hp.1.1.1.1.1; have he : Option.rec (motive := fun _ => Option RegRes) none (fun o => chnStep (drawGo P call yld l plan) (one P call yld l S H o)) (nth l i) = some (.ok Sf Hf) := he; cases ho : nth l i with
   | none => rw [ho] at he; cases he
   | some o =>
    rw [ho] at he; rw [nth_eq] at ho; have he : chnStep (drawGo P call yld l plan) (one P call yld l S H o) = some (.ok Sf Hf) := he; cases hone : one P call yld l S H o with
    | none => rw [hone] at he; cases he
    | some r1 =>
     rw [hone] at he; cases r1 with
     | pan c S1 H1 => cases he
     | ok S1 H1 =>
      have he : drawGo P call yld l plan S1 H1 = some (.ok Sf Hf) := he; rw [ih _ _ _ S1 H1 hp.2 he (more i), one_keeps hone (hne hf ho)]
theorem litGo_spec {T : Tr Value} {key : TypeId} : ∀ {l : List Oper} {k : Nat} {es : List (Nat × Value × Value)}, litGo P T key l k = some es →
  (∀ (j : Nat) o ty m kk x, l[j]? = some o → o.op = .insert ty m kk x → ∃ kv xv, (k + j, kv, xv) ∈ es ∧ opdT T kk = some kv ∧ opdT T x = some xv ∧ keyOk P key kv false = true) ∧
  (∀ e ∈ es, ∃ (j : Nat) (o : Oper) (ty : TypeId) (m kk x : Operand), e.1 = k + j ∧ l[j]? = some o ∧ o.op = .insert ty m kk x) ∧ es.Pairwise (fun a b => a.1 < b.1) := by
 intro l; induction l with
 | nil =>
  intro k es h; simp [litGo] at h; subst h; exact ⟨(fun j o ty m kk x h => by simp at h), (fun e he => by cases he), List.Pairwise.nil⟩
 | cons a l ih =>
  intro k es h
  have skip : ∀ (r : List (Nat × Value × Value)), litGo P T key l (Nat.succ k) = some r → (∀ ty m kk x, a.op ≠ .insert ty m kk x) → es = r →
    (∀ (j : Nat) o ty m kk x, (a :: l)[j]? = some o → o.op = .insert ty m kk x → ∃ kv xv, (k + j, kv, xv) ∈ es ∧ opdT T kk = some kv ∧ opdT T x = some xv ∧ keyOk P key kv false = true) ∧
    (∀ e ∈ es, ∃ (j : Nat) (o : Oper) (ty : TypeId) (m kk x : Operand), e.1 = k + j ∧ (a :: l)[j]? = some o ∧ o.op = .insert ty m kk x) ∧ es.Pairwise (fun a b => a.1 < b.1) := by
   intro r hr hno e; subst e; obtain ⟨i1, i2, i3⟩ := ih hr; refine ⟨fun j o ty m kk x hj hop => ?_, fun e he => ?_, i3⟩
   ·
    cases j with
    | zero => simp at hj; subst hj; exact absurd hop (hno ty m kk x)
    | succ j =>
     obtain ⟨kv, xv, q⟩ := i1 j o ty m kk x (by simpa using hj) hop; rw [show Nat.succ k + j = k + (j + 1) from by omega] at q; exact ⟨kv, xv, q⟩
   ·
    obtain ⟨j, o, ty, m, kk, x, q1, q2, q3⟩ := i2 e he; exact ⟨j + 1, o, ty, m, kk, x, by omega, by simpa using q2, q3⟩
  unfold litGo at h; split at h
  ·
   rename_i ty m kk x hop; split at h
   ·
    rename_i kv xv r h1 h2 h3; cases hk : keyOk P key kv false with
    | false => rw [hk] at h; cases h
    | true =>
     rw [hk, cond_true] at h; injection h with h; subst h
     obtain ⟨i1, i2, i3⟩ := ih h3; refine ⟨fun j o ty' m' kk' x' hj hop' => ?_, fun e he => ?_, List.pairwise_cons.2 ⟨fun e he => ?_, i3⟩⟩
     ·
      cases j with
      | zero =>
       simp at hj; subst hj; rw [hop] at hop'; injection hop' with _ _ a1 a2; subst a1; subst a2
       exact ⟨kv, xv, by simp, h1, h2, hk⟩
      | succ j =>
       obtain ⟨kv', xv', q1, q2⟩ := i1 j o ty' m' kk' x' (by simpa using hj) hop'; rw [show Nat.succ k + j = k + (j + 1) from by omega] at q1; exact ⟨kv', xv', by simp [q1], q2⟩
     ·
      rcases List.mem_cons.1 he with rfl | q
      ·
       exact ⟨0, a, ty, m, kk, x, rfl, rfl, hop⟩
      ·
       obtain ⟨j, o, ty', m', kk', x', q1, q2, q3⟩ := i2 e q; exact ⟨j + 1, o, ty', m', kk', x', by omega, by simpa using q2, q3⟩
     ·
      obtain ⟨j, _, _, _, _, _, q1, _⟩ := i2 e he; show k < e.1; omega
   ·
    cases h
  ·
   rename_i hno; exact skip es h (fun ty m kk x q => hno ty m kk x q) rfl
theorem isNo_eq {x : Option Bool} (h : isNo x = true) : x = some false := by
 cases x with
 | none => cases h
 | some b => cases b with
  | false => rfl
  | true => cases h
theorem apartK_spec {kt : TypeId} {kd : TypeDesc} : ∀ {es : List (Nat × Value × Value)}, apartK P kt kd es = true → ∀ x ∈ es, ∀ y ∈ es, x.1 ≠ y.1 → testA P kt kd x.2.1 y.2.1 = some false := by
 intro es; induction es with
 | nil => intro _ x hx; cases hx
 | cons a es ih =>
  intro h x hx y hy hne; simp only [apartK, Bool.and_eq_true, List.all_eq_true] at h; rcases List.mem_cons.1 hx with rfl | hx1
  ·
   rcases List.mem_cons.1 hy with rfl | hy1
   ·
    exact absurd rfl hne
   ·
    exact isNo_eq (h.1 y hy1).1
  ·
   rcases List.mem_cons.1 hy with rfl | hy1
   ·
    exact isNo_eq (h.1 x hx1).2
   ·
    exact ih h.2 x hx1 y hy1 hne
theorem only_one {es : List (Nat × Value × Value)} (hp : es.Pairwise fun a b => a.1 < b.1) : ∀ x ∈ es, ∀ y ∈ es, x.1 = y.1 → x = y := by
 induction hp with
 | nil => intro x hx; cases hx
 | cons h _ ih =>
  intro x hx y hy e; rcases List.mem_cons.1 hx with rfl | hx1
  ·
   rcases List.mem_cons.1 hy with rfl | hy1
   ·
    rfl
   ·
    have := h y hy1; omega
  ·
   rcases List.mem_cons.1 hy with rfl | hy1
   ·
    have := h x hx1; omega
   ·
    exact ih x hx1 y hy1 e
theorem mapInsert_run {ty key el : TypeId} {kd : TypeDesc} {r c : Nat} {en : Array MapEntry} {k v : Value} {w : World} (hu : P.underlying ty = some (.map key el)) (hkd : P.underlying key = some kd) (hr : w.heap[r]? = some (.map en c))
  (hck : ∀ w, (Instr.checkKey false 10000 key k).run P w = .ok () w) (ht : ∀ e ∈ en.toList, Tst P key kd k e.key false) :
  (Instr.mapUpdate ty (.map (some r)) k v).run P w = .ok () { w with heap := w.heap.setIfInBounds r (.map (en.push { key := k, val := v, born := c }) (c + 1)) } := by
 have hgo : (getObj r).run P w = .ok (.map en c) w := by simp [getObj, Sem.run, hr]
 have hso : ∀ o, (setObj r o).run P w = .ok () { w with heap := w.heap.setIfInBounds r o } := fun o => by simp [setObj, Sem.run, hr]
 obtain ⟨a, b⟩ := find_none (i := 0) ht; have hf := findKey_run hkd a b w; simp [Instr.mapUpdate, und_run hu, hgo, hck, hf, hso]
end
end Go.Cre
namespace Go.Cre
open Go.RowKit
open Classical
def CallSoundA (P : Program) (B : Nat → Prop) (w0 : World) (call : CallEv) : Prop := ∀ (Bx : Nat → Prop) (wx : World), (∀ k, B k → Bx k) → Kept B w0 wx → CallSound P Bx wx call
def YieldSoundA (P : Program) (B : Nat → Prop) (w0 : World) (yld : YieldEv) : Prop := ∀ (Bx : Nat → Prop) (wx : World), (∀ k, B k → Bx k) → Kept B w0 wx → YieldSound P Bx wx yld
def Park (B : Nat → Prop) (ws a m : Nat) (es : List (Nat × Value × Value)) (μ : Mp) (w : World) (D : Nat → Bool) (Bx : Nat → Prop) : Prop :=
 (D m = false ∧ Bx = B) ∨
 (D m = true ∧ ∃ (r N sz : Nat) (en : Array MapEntry) (c : Nat) (js : List Nat) (e' : Nat → MapEntry), μ a = some ⟨r, N, sz⟩ ∧ Bx = (fun k => B k ∨ k = r) ∧ ws ≤ r ∧ w.heap[r]? = some (.map en c) ∧ en.toList = js.map e' ∧ js.Nodup ∧
  (∀ j, j ∈ js ↔ D j = true ∧ ∃ x ∈ es, x.1 = j) ∧ ∀ j ∈ js, ∀ x ∈ es, x.1 = j → (e' j).key = x.2.1 ∧ VRel μ x.2.2 (e' j).val)
section
variable {P : Program} {B Bx : Nat → Prop} {w0 w w' : World} {μ μ' μ0 : Mp} {H H0 H' H1 : Hp} {S S0 S' S1 : St} {fr : Frame} {tmps : Array Value} {ds : List Deferred} {cs cs0 : List Frame} {call : CallEv} {yld : YieldEv}
variable {ops : Array Oper} {l : List Oper} {ch al C K G : Nat} {D : Nat → Bool} {A : Nat → Nat} {i : Nat} {o : Oper} {k : List Item} {rest : List Nat} {ws a m : Nat} {es : List (Nat × Value × Value)}
theorem Park.step (h : Park B ws a m es μ w D Bx) (he : Ext μ μ') (hk : Kept Bx w w') (him : i ≠ m) (hie : ∀ x ∈ es, x.1 ≠ i) : Park B ws a m es μ' w' (Dins D i) Bx := by
 have hDm : ∀ j, j ≠ i → Dins D i j = D j := fun j hj => by unfold Dins; rw [if_neg hj]
 rcases h with ⟨h1, h2⟩ | ⟨h1, r, N, sz, en, c, js, e', q1, q2, q3, q4, q5, q6, q7, q8⟩
 ·
  exact .inl ⟨by rw [hDm m (Ne.symm him)]; exact h1, h2⟩
 ·
  refine .inr ⟨by rw [hDm m (Ne.symm him)]; exact h1, r, N, sz, en, c, js, e', he _ _ q1, q2, q3, ?_, q5, q6, fun j => ?_, fun j hj x hx e => ?_⟩
  ·
   rw [hk.block r (by rw [q2]; exact .inr rfl)]; exact q4
  ·
   constructor
   ·
    intro hj; obtain ⟨a1, x, a2, a3⟩ := (q7 j).1 hj; exact ⟨by rw [hDm j (by rw [← a3]; exact hie x a2)]; exact a1, x, a2, a3⟩
   ·
    rintro ⟨a1, x, a2, a3⟩; exact (q7 j).2 ⟨by rw [hDm j (by rw [← a3]; exact hie x a2)] at a1; exact a1, x, a2, a3⟩
  ·
   obtain ⟨a1, a2⟩ := q8 j hj x hx e; exact ⟨a1, a2.mono he⟩
theorem ready_someL {n : Nat} (hdown : ∀ (i : Nat) o j, i < n → ops[i]? = some o → (Oper.mask o).testBit j = true → j < i) (hn : n ≤ ops.size) {listed : Array Bool} (hsz : listed.size = ops.size) : ∀ m, m < n → Dof listed m = false → Region.ready .any ops listed ≠ [] := by
 intro m; induction m using Nat.strongRecOn with
 | ind m ih =>
  intro hm hd; have hms : m < ops.size := by omega
  by_cases hall : ∀ j, (Oper.mask ops[m]).testBit j = true → Dof listed j = true
  ·
   intro hnil; have : m ∈ Region.ready .any ops listed := by
    unfold Region.ready; simp only [List.mem_filter, List.mem_range, Bool.and_eq_true, Bool.not_eq_true']; refine ⟨hms, ?_, ?_⟩
    ·
     have hlt : m < listed.size := by omega
     unfold Dof at hd; simp [hlt] at hd ⊢; exact hd
    ·
     simp only [Array.getElem?_eq_getElem hms, Option.map_some, Option.getD_some, Array.all_eq_true_iff_forall_mem]; intro e he; cases hb : Region.binds .any e with
     | false => rfl
     | true =>
      have := hall e.on (edgeMask_spec.2 ⟨e, by simpa using he, hb, rfl⟩); simpa [Dof] using this
   rw [hnil] at this; cases this
  ·
   simp only [Classical.not_forall] at hall; obtain ⟨j, hj, hdj⟩ := hall; have hlt := hdown m ops[m] j hm (by simp [hms]) hj
   exact ih j hlt (by omega) (by cases h : Dof listed j with
    | false => rfl
    | true => exact absurd h hdj)
theorem lin_tail {n : Nat} (htail : ∀ (i : Nat) o, n ≤ i → ops[i]? = some o → (∀ j, j < i → (Oper.mask o).testBit j = true) ∧ ∀ j, (Oper.mask o).testBit j = true → j < i) : ∀ (fuel tt p : Nat) (listed : Array Bool), listed.size = ops.size → n ≤ p → p + fuel = ops.size →
  (∀ j, j < p → Dof listed j = true) → (∀ j, p ≤ j → Dof listed j = false) → Region.linearise.go .any ops fuel tt listed [] = List.range' p fuel := by
 intro fuel; induction fuel with
 | zero => intro tt p listed _ _ _ _ _; rfl
 | succ fuel ih =>
  intro tt p listed hsz hnp hpf hd hu; have hp : p < ops.size := by omega
  have hready : Region.ready .any ops listed = [p] := by
   have hmem : ∀ i, i ∈ Region.ready .any ops listed ↔ i = p := by
    intro i; constructor
    ·
     intro hi; obtain ⟨o, ho, hlt, hDi, hr⟩ := ready_mem hsz hi; rcases Nat.lt_or_ge i p with q | q
     ·
      rw [hd i q] at hDi; cases hDi
     ·
      rcases Nat.lt_or_ge p i with q' | q'
      ·
       have := hr p ((htail i o (by omega) ho).1 p q'); rw [hu p (Nat.le_refl _)] at this; cases this
      ·
       omega
    ·
     rintro rfl; unfold Region.ready; simp only [List.mem_filter, List.mem_range, Bool.and_eq_true, Bool.not_eq_true']; have hlt : i < listed.size := by omega
     refine ⟨hp, ?_, ?_⟩
     ·
      have := hu i (Nat.le_refl _); unfold Dof at this; simp [hlt] at this ⊢; exact this
     ·
      simp only [Array.getElem?_eq_getElem hp, Option.map_some, Option.getD_some, Array.all_eq_true_iff_forall_mem]; intro e he; cases hb : Region.binds .any e with
      | false => rfl
      | true =>
       have hm : (Oper.mask ops[i]).testBit e.on = true := edgeMask_spec.2 ⟨e, by simpa using he, hb, rfl⟩; have := hd e.on ((htail i ops[i] hnp (by simp [hp])).2 _ hm); simpa [Dof] using this
   have hnd : (Region.ready .any ops listed).Nodup := by unfold Region.ready; exact List.nodup_range.filter _
   have hpm : p ∈ Region.ready .any ops listed := (hmem p).2 rfl; cases hl : Region.ready .any ops listed with
   | nil => rw [hl] at hpm; cases hpm
   | cons x xs =>
    rw [hl] at hmem hnd; have hx : x = p := (hmem x).1 (by simp); cases xs with
    | nil => rw [hx]
    | cons y ys =>
     have hy : y = p := (hmem y).1 (by simp); rw [hx, hy] at hnd; simp at hnd
  simp only [Region.linearise.go]
  change (match (Region.ready .any ops listed)[tt % (Region.ready .any ops listed).length]? with
   | some i => Region.linearise.go .any ops fuel (tt / (Region.ready .any ops listed).length) (listed.setIfInBounds i true) [i]
   | none => [].reverse) = List.range' p (fuel + 1)
  rw [hready]; simp only [List.length_singleton, Nat.mod_one, List.getElem?_cons_zero, Nat.div_one]; rw [linearise_go_acc, List.reverse_singleton, List.singleton_append]; have hlt : p < listed.size := by omega
  rw [ih tt (p + 1) (listed.setIfInBounds p true) (by simpa using hsz) (by omega) (by omega) (fun j hj => ?_) (fun j hj => ?_)]
  ·
   rfl
  ·
   rw [Dof_set hlt, Dins_iff]; rcases Nat.lt_or_ge j p with q | q
   ·
    exact .inl (hd j q)
   ·
    exact .inr (by omega)
  ·
   rw [Dof_set hlt]; unfold Dins; rw [if_neg (by omega)]; exact hu j (by omega)
theorem opdT_safe {T T' : Tr Value} {x : Operand} {v : Value} (h : opdT T x = some v) (ht : ∀ u, x = .tmp u → T'.get u = T.get u) : opdT T' x = some v := by
 cases x with
 | tmp u => have := ht u rfl; show T'.get u = some v; rw [this]; exact h
 | const c => exact h
 | global g => exact h
 | func f => exact h
theorem count_take_zero {listed : Array Bool} {n : Nat} (hn : n ≤ listed.size) (h : (listed.toList.take n).count false = 0) : ∀ i, i < n → Dof listed i = true := fun i hi => by
 have h0 := List.count_eq_zero.1 h; unfold Dof; cases hb : listed.getD i false with
 | true => rfl
 | false =>
  exfalso; refine h0 ?_; have hi' : i < listed.size := by omega
  have : listed[i] = false := by simpa [hi'] using hb
  rw [List.mem_iff_getElem?]; exact ⟨i, by rw [List.getElem?_take, if_pos hi]; simp [hi', this]⟩
theorem count_take_set {listed : Array Bool} {n i f : Nat} (hi : i < n) (hn : n ≤ listed.size) (hf : Dof listed i = false) (hc : (listed.toList.take n).count false = f + 1) : ((listed.setIfInBounds i true).toList.take n).count false = f := by
 have hi' : i < listed.size := by omega
 have hb : listed[i] = false := by unfold Dof at hf; simpa [hi'] using hf
 have : (listed.setIfInBounds i true).toList.take n = (listed.toList.take n).set i true := by simp [List.take_set]
 rw [this, List.count_set (by simp; omega)]; simp [hb, hc]
theorem exists_false {listed : Array Bool} {n f : Nat} (hn : n ≤ listed.size) (hc : (listed.toList.take n).count false = f + 1) : ∃ m, m < n ∧ Dof listed m = false := by
 have : 0 < (listed.toList.take n).count false := by omega
 rw [List.count_pos_iff] at this; obtain ⟨m, hm, e⟩ := List.mem_iff_getElem.1 this; simp at hm e; refine ⟨m, by omega, ?_⟩; unfold Dof; have hm' : m < listed.size := by omega
 simp [hm', e]
end
end Go.Cre

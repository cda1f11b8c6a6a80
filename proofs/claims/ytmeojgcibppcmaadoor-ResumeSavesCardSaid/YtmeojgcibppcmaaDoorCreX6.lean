/- A part of the proof of ResumeSaves. -/
import Derived.Test.YtmeojgcibppcmaaDoorCreX4
set_option linter.unusedVariables false
set_option linter.unusedSimpArgs false
namespace Go.Cre
open Go.RowKit
open Classical
section
variable {P : Program} {B : Nat → Prop} {w0 w : World} {μ μ0 : Mp} {H H0 H' H1 : Hp} {S S0 S' S1 : St} {fr : Frame} {tmps : Array Value} {ds : List Deferred} {cs cs0 : List Frame} {call : CallEv} {yld : YieldEv}
variable {ops : Array Oper} {ch al C K G : Nat} {D : Nat → Bool} {A : Nat → Nat} {i : Nat} {o : Oper} {k : List Item} {rest : List Nat}
theorem Tr.put_of_get {α : Type} {a v : α} {t : Tr α} : ∀ {n : Nat}, t.get n = some v → ∃ t', Tr.put a t n = some t' := by
 induction t with
 | leaf => intro n h; cases h
 | node u l r ihl ihr =>
  intro n h; cases n with
  | zero => exact ⟨_, rfl⟩
  | succ m =>
   rw [Tr.get_succ] at h; rw [Tr.put_succ]; by_cases hm : m % 2 = 0
   ·
    rw [if_pos hm] at h ⊢; obtain ⟨l', e⟩ := ihl h; rw [e]; exact ⟨_, rfl⟩
   ·
    rw [if_neg hm] at h ⊢; obtain ⟨r', e⟩ := ihr h; rw [e]; exact ⟨_, rfl⟩
theorem St.put_ok {p : Nat → Bool} {dst : Option Tmp} (h : ∀ t, dst = some t → t < S.n ∧ ∃ u, S.T.get t = some u) (v : Value) : ∃ S'', (S.only p).put dst v = some S'' := by
 cases dst with
 | none => exact ⟨_, rfl⟩
 | some d =>
  obtain ⟨h1, u, h2⟩ := h d rfl; obtain ⟨T, n, dss, dfd, um, rnd⟩ := S; show ∃ S'', Bool.rec (motive := fun _ => Option St) none (St.put3 n dss dfd um rnd (Tr.put v (T.keep p) d)) (Nat.ble (Nat.succ d) n) = some S''; have hb : Nat.ble (Nat.succ d) n = true := Nat.ble_eq_true_of_le h1; rw [hb]; obtain ⟨T1, e1⟩ := Tr.put_of_get (a := v) h2; obtain ⟨T2, e2⟩ := Tr.put_keep p e1; rw [e2]; exact ⟨_, rfl⟩
theorem regPut_inv {X : St} {dst : Option Tmp} {v : Value} {rr : RegRes} (h : regPut X dst v H' = some rr) : ∃ S1, X.put dst v = some S1 ∧ rr = .ok S1 H' := by
 unfold regPut regOk at h; cases hp : X.put dst v with
 | none => rw [hp] at h; cases h
 | some S1 => rw [hp] at h; have h : some (RegRes.ok S1 H') = some rr := h; injection h with h; exact ⟨S1, rfl, h.symm⟩
theorem regPut_mk {X : St} {dst : Option Tmp} {v : Value} (h : X.put dst v = some S1) : regPut X dst v H' = some (.ok S1 H') := by
 unfold regPut; rw [h]; rfl
theorem one_only {l : List Oper} {p : Nat → Bool} (hl : ∀ t ∈ looks l o, p t = true) (he : one P call yld l S H o = some (.ok S1 H1)) :
  ∃ S2, one P call yld l (S.only p) H o = some (.ok S2 H1) ∧ S2.n = S1.n ∧ S2.ds = S1.ds ∧ S2.dfd = S1.dfd ∧ S2.um = S1.um ∧ S2.rnd = S1.rnd ∧ S1.n = S.n ∧ S1.dfd = S.dfd ∧ S1.rnd = S.rnd ∧
   (∀ t, S2.T.get t = if o.dst = some t then S1.T.get t else (S.only p).T.get t) ∧ (∀ t, o.dst ≠ some t → S1.T.get t = S.T.get t) := by
 have hlk : ∀ t ∈ looks l o, (S.only p).T.get t = S.T.get t := fun t ht => by
  show (S.T.keep p).get t = _; rw [Tr.get_keep, hl t ht]; rfl
 have key : ∀ (X : St) (v : Value) (H2 : Hp), X.n = S.n → X.dfd = S.dfd → X.rnd = S.rnd → X.T = S.T → regPut X o.dst v H2 = some (.ok S1 H1) →
   ∃ S2, regPut (X.only p) o.dst v H2 = some (.ok S2 H1) ∧ S2.n = S1.n ∧ S2.ds = S1.ds ∧ S2.dfd = S1.dfd ∧ S2.um = S1.um ∧ S2.rnd = S1.rnd ∧ S1.n = S.n ∧ S1.dfd = S.dfd ∧ S1.rnd = S.rnd ∧
   (∀ t, S2.T.get t = if o.dst = some t then S1.T.get t else (S.only p).T.get t) ∧ (∀ t, o.dst ≠ some t → S1.T.get t = S.T.get t) := by
  intro X v H2 x1 x2 x3 x4 q; obtain ⟨S1', q1, q2⟩ := regPut_inv q; injection q2 with q2 q3; subst q2; subst q3
  obtain ⟨S2, q4⟩ := St.put_only p q1; obtain ⟨a1, a2, a3, a4, a5, a6⟩ := St.put_eq q1; obtain ⟨b1, b2, b3, b4, b5, b6⟩ := St.put_eq q4; refine ⟨S2, regPut_mk q4, b1.trans a1.symm, b2.trans a2.symm, b3.trans a3.symm, b4.trans a4.symm, b5.trans a5.symm, a1.trans x1, a3.trans x2, a5.trans x3, fun t => ?_, fun t ht => ?_⟩
  ·
   rw [b6]; by_cases hd : o.dst = some t
   ·
    rw [if_pos hd, if_pos hd, a6, if_pos hd]
   ·
    rw [if_neg hd, if_neg hd]; show (X.T.keep p).get t = (S.T.keep p).get t; rw [x4]
  ·
   rw [a6, if_neg ht, x4]
 unfold one at he ⊢; rw [guard_looks hlk]; cases hg : guardB l S.T o with
 | none => rw [hg] at he; cases he
 | some b =>
  rw [hg] at he; cases b with
  | false => exact key S undef H rfl rfl rfl rfl he
  | true =>
   have he : oneAfter S H o.dst (evOp P call yld S H o) = some (.ok S1 H1) := he; show ∃ S2, oneAfter (S.only p) H o.dst (evOp P call yld (S.only p) H o) = some (.ok S2 H1) ∧ _; rw [evOp_congr (S := S) (S' := S.only p) rfl (opd_looks hlk)]; cases hev : evOp P call yld S H o with
   | none => rw [hev] at he; cases he
   | some r =>
    rw [hev] at he; cases r with
    | val v H2 => exact key S v H2 rfl rfl rfl rfl he
    | skip H2 => exact key S undef H2 rfl rfl rfl rfl he
    | pan c H2 => have he : some (RegRes.pan c S H2) = some (.ok S1 H1) := he; injection he with he; cases he
    | dfr d =>
     have he : oneDfr S H o.dst d = some (.ok S1 H1) := he; show ∃ S2, oneDfr (S.only p) H o.dst d = some (.ok S2 H1) ∧ _; obtain ⟨T, n, dss, dfd, um, rnd⟩ := S; cases rnd with
     | some l => cases he
     | none => exact key (St.withDs d ⟨T, n, dss, dfd, um, none⟩) undef H rfl rfl rfl rfl he
    | rcv =>
     have he : oneRcv S H o.dst (rcvOf S) = some (.ok S1 H1) := he; show ∃ S2, oneRcv (S.only p) H o.dst (rcvOf (S.only p)) = some (.ok S2 H1) ∧ _; have hr : rcvOf (S.only p) = rcvOf S := rfl; rw [hr]; cases hrc : rcvOf S with
     | none => rw [hrc] at he; cases he
     | some q =>
      obtain ⟨v, um⟩ := q; rw [hrc] at he; obtain ⟨T, n, dss, dfd, um0, rnd⟩ := S; exact key (St.withUm um ⟨T, n, dss, dfd, um0, rnd⟩) v H rfl rfl rfl rfl he
theorem looks_free (hs : SOk ops.toList ch) (hI : Inv P B w0 call yld ops.toList ch al μ0 H0 S0 fr cs0 C K G S H μ w tmps ds cs D A) (ho : ops[i]? = some o) (hready : ∀ j, (Oper.mask o).testBit j = true → D j = true) :
  ∀ t ∈ looks ops.toList o, free ops.toList C D t = true := fun t ht => free_iff.2 fun ⟨j, oj, a, b, c, d⟩ => by
 rcases hs.look j i oj o t c (by simpa using ho) d ht with q | ⟨q, _⟩
 ·
  have := hready j q; rw [b] at this; cases this
 ·
  have hk : K.testBit j = false := by
   cases hk : K.testBit j with
   | false => rfl
   | true => have := hI.k j hk; rw [b] at this; cases this
  have := (hI.good j oj a hk c).1; rw [q] at this; cases this
def Dins (D : Nat → Bool) (i : Nat) : Nat → Bool := fun j => if j = i then true else D j
theorem Dins_iff {j : Nat} : Dins D i j = true ↔ D j = true ∨ j = i := by unfold Dins; by_cases h : j = i <;> simp [h]
theorem Dins_false {j : Nat} (h : Dins D i j = false) : D j = false ∧ j ≠ i := by
 unfold Dins at h; by_cases e : j = i
 ·
  rw [if_pos e] at h; cases h
 ·
  rw [if_neg e] at h; exact ⟨h, e⟩
theorem free_more {t : Nat} (hd : free ops.toList C (Dins D i) t = true) (ho : ops[i]? = some o) : free ops.toList C D t = true ∨ o.dst = some t := by
 by_cases h : pendT ops.toList C D t
 ·
  obtain ⟨j, oj, a, b, c, d⟩ := h; by_cases hji : j = i
  ·
   subst hji; have : ops.toList[j]? = some o := by simpa using ho
   rw [this] at c; injection c with c; subst c; exact .inr d
  ·
   exfalso; refine free_iff.1 hd ⟨j, oj, a, ?_, c, d⟩; unfold Dins; rw [if_neg hji]; exact b
 ·
  exact .inl (free_iff.2 h)
theorem real_pend (hcall : CallSound P B w0 call) (hyld : YieldSound P B w0 yld) (hs : SOk ops.toList ch) (hI : Inv P B w0 call yld ops.toList ch al μ0 H0 S0 fr cs0 C K G S H μ w tmps ds cs D A)
  (hbd : ∀ j, C.testBit j = true → K.testBit j = true ∨ G.testBit j = true) (hC : C.testBit i = true) (hD : D i = false) (ho : ops[i]? = some o) (hready : ∀ j, (Oper.mask o).testBit j = true → D j = true) :
  ∃ μ' w' tmps' ds' cs', Steps P (lone (fat fr tmps ds (.inRegion ops (i :: rest) :: k)) cs w) (lone (fat fr tmps' ds' (.inRegion ops rest :: k)) cs' w') ∧
   Inv P B w0 call yld ops.toList ch al μ0 H0 S0 fr cs0 C K G S H μ' w' tmps' ds' cs' (Dins D i) A := by
 have hol : ops.toList[i]? = some o := by simpa using ho
 have hfree := looks_free hs hI ho hready; have hk : K.testBit i = false := by
  cases hk : K.testBit i with
  | false => rfl
  | true => have := hI.k i hk; rw [hD] at this; cases this
 have hGi : G.testBit i = true := by
  rcases hbd i hC with q | q
  ·
   rw [hk] at q; cases q
  ·
   exact q
 obtain ⟨hci, b, hg⟩ := hI.good i o hC hk hol; have hlk : ∀ t ∈ looks ops.toList o, (S.only (free ops.toList C D)).T.get t = S.T.get t := fun t ht => by
  show (S.T.keep _).get t = _; rw [Tr.get_keep, hfree t ht]; rfl
 -- what stays
 have fin : ∀ (μ' : Mp) (w' : World) (tmps' : Array Value) (ds' : List Deferred) (cs' : List Frame) (S'' : St) (v : Value), HRel P B w0 μ' H w' → Step μ0 μ' H0 H → CsRel S0.dfd cs0 cs' →
   (S.only (free ops.toList C D)).put o.dst v = some S'' → (∀ t, o.dst = some t → S.T.get t = some v) → FRel μ' S'' fr tmps' ds' cs' →
   (∀ (j : Nat) oj, C.testBit j = true → D j = false → j ≠ i → al.testBit j = true → ops.toList[j]? = some oj → guardB ops.toList S.T oj = some true → μ (A j) = none → A j < H.nx → μ' (A j) = none) →
   Inv P B w0 call yld ops.toList ch al μ0 H0 S0 fr cs0 C K G S H μ' w' tmps' ds' cs' (Dins D i) A := by
  intro μ' w' tmps' ds' cs' S'' v h' hst hcs hput hv hf' hph; obtain ⟨b1, b2, b3, b4, b5, b6⟩ := St.put_eq hput; refine ⟨h', ?_, hst, hcs, hI.dfd, hI.rnd, fun j hj => ?_, hI.bound, fun j oj m hj hoj hm => ?_, hI.downC, fun j hj => Dins_iff.2 (.inl (hI.k j hj)), fun j oj hj hkj hoj => ?_, ?_⟩
  ·
   refine hf'.conv b1.symm b2.symm b3.symm b4.symm b5.symm fun t u q => ?_; obtain ⟨q1, q2⟩ := only_get.1 q; rw [b6]; by_cases hd : o.dst = some t
   ·
    rw [if_pos hd]; rw [hv t hd] at q2; exact q2
   ·
    rw [if_neg hd]; rcases free_more q1 ho with r | r
    ·
     exact only_get.2 ⟨r, q2⟩
    ·
     exact absurd r hd
  ·
   rcases Dins_iff.1 hj with q | rfl
   ·
    exact hI.sub j q
   ·
    exact hC
  ·
   rcases Dins_iff.1 hj with q | rfl
   ·
    exact Dins_iff.2 (.inl (hI.down j oj m q hoj hm))
   ·
    rw [hol] at hoj; injection hoj with hoj; subst hoj
    exact Dins_iff.2 (.inl (hready m hm))
  ·
   obtain ⟨g1, bj, g2⟩ := hI.good j oj hj hkj hoj; refine ⟨g1, bj, g2.move rfl rfl (fun _ _ => rfl) (fun _ _ => rfl) (fun _ h => ⟨h, rfl⟩) rfl fun hb ha hDj => ?_⟩; obtain ⟨d1, d2⟩ := Dins_false hDj; refine ⟨d1, fun blk _ ⟨e1, e2, e3, e4, e5⟩ => ⟨?_, e2, e3, e4, e5⟩⟩; exact hph j oj hj d1 d2 ha hoj (hb ▸ g2.g) e1 e4
  ·
   intro x y ox oy hx hy hDx hDy hax hay hox hoy hgx hgy hxy; exact hI.inj x y ox oy hx hy (Dins_false hDx).1 (Dins_false hDy).1 hax hay hox hoy hgx hgy hxy
 -- by one_sound, where nothing is made
 have plainly : ∀ v, one P call yld ops.toList (S.only (free ops.toList C D)) H o = regPut (S.only (free ops.toList C D)) o.dst v H → (∀ t, o.dst = some t → S.T.get t = some v) →
   ∃ μ' w' tmps' ds' cs', Steps P (lone (fat fr tmps ds (.inRegion ops (i :: rest) :: k)) cs w) (lone (fat fr tmps' ds' (.inRegion ops rest :: k)) cs' w') ∧
   Inv P B w0 call yld ops.toList ch al μ0 H0 S0 fr cs0 C K G S H μ' w' tmps' ds' cs' (Dins D i) A := by
  intro v hone hv; obtain ⟨S'', hput⟩ := St.put_ok (S := S) (p := free ops.toList C D) hg.lt v; rw [regPut_mk hput] at hone; obtain ⟨μ', w', tmps', ds', cs', g1, g2, g3, g4, g5, g6, g7⟩ := one_sound (k := k) (rest := rest) hcall hyld hI.h hI.f ho hone; refine ⟨μ', w', tmps', ds', cs', g7, fin μ' w' tmps' ds' cs' S'' v g1 (hI.st.trans g2) (hI.csr.trans ?_) hput hv g3 fun j oj _ _ _ _ _ _ hm hlt => (g2.keep _ hlt hm).1⟩; have : (S.only (free ops.toList C D)).dfd = S0.dfd := hI.dfd; rw [← this]; exact g4
 have hgo : guardB ops.toList (S.only (free ops.toList C D)).T o = some b := by rw [guard_looks hlk]; exact hg.g
 cases b with
 | false =>
  refine plainly undef ?_ (hg.no rfl); unfold one; rw [hgo]; rfl
 | true =>
  cases ha : al.testBit i with
  | false =>
   obtain ⟨v, e1, e2⟩ := hg.val rfl ha hGi; refine plainly v ?_ e2; unfold one; rw [hgo]; show oneAfter _ H o.dst (evOp P call yld (S.only (free ops.toList C D)) H o) = _; rw [evOp_congr (S := S) (S' := S.only (free ops.toList C D)) rfl (opd_looks hlk), e1]; rfl
  | true =>
   obtain ⟨blk, kv, e1, e2, e3⟩ := hg.alc rfl ha; obtain ⟨m1, m2, m3, m4, m5⟩ := e3 hD; have e1' : allocOf P (S.only (free ops.toList C D)).T o.op = some (blk, kv) := by rw [allocOf_looks hlk]; exact e1
   obtain ⟨ob, N, sz, r1, r2, r3, r4⟩ := alloc_real hI.f.t e1' w; have hw := guard_sound hI.f.t hgo; have hnd : fr.roundOf = none ∨ ∀ c, o.op ≠ .defer c := .inr fun c q => by rw [q] at e1; cases e1
   obtain ⟨hfill, hext⟩ := hI.h.fill (L := ⟨w.heap.size, N, sz⟩) m1 m4 m2 m5 rfl r2; have hvr : VRel (μ.put (A i) ⟨w.heap.size, N, sz⟩) (kv.at (A i)) (kv.at w.heap.size) := AV.rel r4 (L := ⟨w.heap.size, N, sz⟩) (Mp.put_self _ _ _); obtain ⟨S'', hput⟩ := St.put_ok (S := S) (p := free ops.toList C D) hg.lt (kv.at (A i)); obtain ⟨f1, _⟩ := put_sound (hI.f.mono hext) hvr hput; refine ⟨_, _, _, _, _, .one (st_value ho hw hnd r1), fin _ _ _ _ _ S'' (kv.at (A i)) hfill ?_ hI.csr hput e2 f1 ?_⟩
   ·
    refine ⟨hI.st.ext.trans hext, hI.st.nx, hI.st.glo, fun id hid hm => ?_⟩; obtain ⟨a, b⟩ := hI.st.keep id hid hm; refine ⟨?_, b⟩; rw [Mp.put_other _ _ (by omega)]; exact a
   ·
    intro j oj hj hDj hji haj hoj hgj hm hlt; rw [Mp.put_other _ _ ?_]
    ·
     exact hm
    ·
     intro q; exact hji (hI.inj j i oj o hj hC hDj hD haj ha hoj hol hgj hg.g q)
theorem real_chain (hcall : CallSound P B w0 call) (hyld : YieldSound P B w0 yld) (hs : SOk ops.toList ch) (hI : Inv P B w0 call yld ops.toList ch al μ0 H0 S0 fr cs0 C K G S H μ w tmps ds cs D A)
  (hC : C.testBit i = false) (ho : ops[i]? = some o) (hready : ∀ j, (Oper.mask o).testBit j = true → D j = true) (hone : one P call yld ops.toList S H o = some (.ok S1 H1))
  {K' : Nat} (hK' : K' = closeK ops.toList ops.toList.length (Nat.lor K (Nat.pow 2 i))) (hKm : ∀ j, (Oper.mask o).testBit j = true → K'.testBit j = true) (hKi : K'.testBit i = true) :
  ∃ μ' w' tmps' ds' cs', Steps P (lone (fat fr tmps ds (.inRegion ops (i :: rest) :: k)) cs w) (lone (fat fr tmps' ds' (.inRegion ops rest :: k)) cs' w') ∧
   Inv P B w0 call yld ops.toList ch al μ0 H0 S0 fr cs0 (Nat.lor C (Nat.pow 2 i)) K' (Nat.land G al) S1 H1 μ' w' tmps' ds' cs' (Dins D i) A := by
 have hol : ops.toList[i]? = some o := by simpa using ho
 have hfree := looks_free hs hI ho hready; have hDi : D i = false := by
  cases hd : D i with
  | false => rfl
  | true => have := hI.sub i hd; rw [hC] at this; cases this
 obtain ⟨S2, t1, t2, t3, t4, t5, t6, t7, t8, t9, t10, t11⟩ := one_only hfree hone; obtain ⟨μ', w', tmps', ds', cs', g1, g2, g3, g4, g5, g6, g7⟩ := one_sound (k := k) (rest := rest) hcall hyld hI.h hI.f ho t1; have hdown : ∀ (j : Nat) oj m, Dins D i j = true → ops.toList[j]? = some oj → (Oper.mask oj).testBit m = true → Dins D i m = true := fun j oj m hj hoj hm => by
  rcases Dins_iff.1 hj with q | rfl
  ·
   exact Dins_iff.2 (.inl (hI.down j oj m q hoj hm))
  ·
   rw [hol] at hoj; injection hoj with hoj; subst hoj
   exact Dins_iff.2 (.inl (hready m hm))
 have hKD : ∀ j, K'.testBit j = true → Dins D i j = true := fun j hj => by
  rw [hK'] at hj; refine closeK_spec (D := Dins D i) hdown (fun m hm => ?_) j hj; rcases tb_ins.1 hm with q | rfl
  ·
   exact Dins_iff.2 (.inl (hI.k m q))
  ·
   exact Dins_iff.2 (.inr rfl)
 have hpendC : ∀ {j : Nat}, (Nat.lor C (Nat.pow 2 i)).testBit j = true → j ≠ i → C.testBit j = true := fun {j} hj hne => by
  rcases tb_ins.1 hj with q | q
  ·
   exact q
  ·
   exact absurd q.symm hne
 -- those that are not surely done don't look at what is written now
 have hagree : ∀ {j : Nat} {oj : Oper}, C.testBit j = true → K'.testBit j = false → ops.toList[j]? = some oj → ∀ t ∈ looks ops.toList oj, S1.T.get t = S.T.get t := fun {j oj} hj hkj hoj t ht => by
  refine t11 t fun hd => ?_; rcases hs.look i j o oj t hol hoj hd ht with q | ⟨_, q | q⟩
  ·
   have := hI.downC j oj i hj hoj q; rw [hC] at this; cases this
  ·
   subst q; rw [hC] at hj; cases hj
  ·
   rw [hKm j q] at hkj; cases hkj
 have hKK : ∀ {j : Nat}, K'.testBit j = false → j ≠ i → D j = false → K.testBit j = false := fun {j} _ _ hd => by
  cases hk : K.testBit j with
  | false => rfl
  | true => have := hI.k j hk; rw [hd] at this; cases this
 have hnK : ∀ {j : Nat}, Dins D i j = false → K'.testBit j = false := fun {j} hd => by
  cases hk : K'.testBit j with
  | false => rfl
  | true => have := hKD j hk; rw [hd] at this; cases this
 refine ⟨μ', w', tmps', ds', cs', g7, ⟨g1, ?_, hI.st.trans g2, hI.csr.trans ?_, t8.trans hI.dfd, t9.trans hI.rnd, fun j hj => ?_, fun j hj => ?_, hdown, fun j oj m hj hoj hm => ?_, hKD, fun j oj hj hkj hoj => ?_, ?_⟩⟩
 ·
  refine g3.conv t2.symm t3.symm t4.symm t5.symm t6.symm fun t u q => ?_; obtain ⟨q1, q2⟩ := only_get.1 q; rw [t10]; by_cases hd : o.dst = some t
  ·
   rw [if_pos hd]; exact q2
  ·
   rw [if_neg hd]; rw [t11 t hd] at q2; refine only_get.2 ⟨?_, q2⟩; rw [free_iff] at q1 ⊢; intro ⟨j, oj, a, b, c, d⟩; refine q1 ⟨j, oj, tb_ins.2 (.inl a), ?_, c, d⟩; unfold Dins; rw [if_neg (fun e => by subst e; rw [hC] at a; cases a)]; exact b
 ·
  have : (S.only (free ops.toList C D)).dfd = S0.dfd := hI.dfd; rw [← this]; exact g4
 ·
  rcases Dins_iff.1 hj with q | rfl
  ·
   exact tb_ins.2 (.inl (hI.sub j q))
  ·
   exact tb_ins.2 (.inr rfl)
 ·
  rcases tb_ins.1 hj with q | rfl
  ·
   exact hI.bound j q
  ·
   exact ⟨o, hol⟩
 ·
  rcases tb_ins.1 hj with q | rfl
  ·
   exact tb_ins.2 (.inl (hI.downC j oj m q hoj hm))
  ·
   rw [hol] at hoj; injection hoj with hoj; subst hoj
   exact tb_ins.2 (.inl (hI.sub m (hready m hm)))
 ·
  have hji : j ≠ i := fun e => by subst e; rw [hKi] at hkj; cases hkj
  have hjC := hpendC hj hji; cases hk : K.testBit j with
  | true =>
   exfalso; have hcl : ∀ {n K0 : Nat}, K0.testBit j = true → (closeK ops.toList n K0).testBit j = true := by
    intro n; induction n with
    | zero => intro K0 h; exact h
    | succ n ih =>
     intro K0 h; simp only [closeK]; refine ih ?_; cases hb : K0.testBit n with
     | false => exact h
     | true =>
      rw [cond_true]; cases nth ops.toList n with
      | none => exact h
      | some o => simp only; rw [tb_or, h]; rfl
   rw [hK', hcl (tb_ins.2 (.inl hk))] at hkj; cases hkj
  | false =>
   obtain ⟨c1, bj, c2⟩ := hI.good j oj hjC hk hoj; refine ⟨c1, bj, c2.move t7 t9 (hagree hjC hkj hoj) (fun t ht => t11 t fun hd => hs.dst i j o oj t hol hoj (Ne.symm hji) hd ht) (fun ha hG => ?_) rfl fun hb ha hDj => ?_⟩
   ·
    rw [tb_and, ha] at hG; simp at hG
   ·
    obtain ⟨d1, d2⟩ := Dins_false hDj; refine ⟨d1, fun blk hop ⟨e1, e2, e3, e4, e5⟩ => ?_⟩; obtain ⟨z1, z2⟩ := g2.keep _ e4 e1; exact ⟨z1, by rw [g2.glo]; exact e2, e3, Nat.lt_of_lt_of_le e4 g2.nx, by rw [z2 (by rw [e5]; exact hop)]; exact e5⟩
 ·
  intro x y ox oy hx hy hDx hDy hax hay hox hoy hgx hgy hxy; obtain ⟨d1, d2⟩ := Dins_false hDx; obtain ⟨d3, d4⟩ := Dins_false hDy; have hxC := hpendC hx d2; have hyC := hpendC hy d4; rw [guard_looks (hagree hxC (hnK hDx) hox)] at hgx; rw [guard_looks (hagree hyC (hnK hDy) hoy)] at hgy; exact hI.inj x y ox oy hxC hyC d1 d3 hax hay hox hoy hgx hgy hxy
end
end Go.Cre
namespace Go.Cre
open Go.RowKit
open Classical
section
variable {P : Program} {B : Nat → Prop} {w0 w : World} {μ μ0 : Mp} {H H0 H' H1 : Hp} {S S0 S' S1 : St} {fr : Frame} {tmps : Array Value} {ds : List Deferred} {cs cs0 : List Frame} {call : CallEv} {yld : YieldEv}
variable {ops : Array Oper} {ch al C K G : Nat} {D : Nat → Bool} {A : Nat → Nat} {i : Nat} {o : Oper} {k : List Item} {rest : List Nat}
def Dof (listed : Array Bool) : Nat → Bool := fun i => listed.getD i false
theorem Dof_set {listed : Array Bool} {i : Nat} (hi : i < listed.size) : Dof (listed.setIfInBounds i true) = Dins (Dof listed) i := by
 funext j
 unfold Dof Dins; by_cases h : j = i
 ·
  subst h; simp [hi]
 ·
  rw [if_neg h]; simp [Array.getElem?_setIfInBounds_ne (Ne.symm h)]
theorem ready_mem {listed : Array Bool} (hsz : listed.size = ops.size) {i : Nat} (hi : i ∈ Region.ready .any ops listed) : ∃ o, ops[i]? = some o ∧ i < ops.size ∧ Dof listed i = false ∧ ∀ j, (Oper.mask o).testBit j = true → Dof listed j = true := by
 unfold Region.ready at hi; simp only [List.mem_filter, List.mem_range, Bool.and_eq_true, Bool.not_eq_true'] at hi; obtain ⟨h1, h2, h3⟩ := hi; have hlt : i < listed.size := by omega
 refine ⟨ops[i], by simp [h1], h1, by unfold Dof; simp [hlt] at h2 ⊢; exact h2, fun j hj => ?_⟩; unfold Oper.mask at hj; obtain ⟨e, he, hb, rfl⟩ := edgeMask_spec.1 hj; simp only [Array.getElem?_eq_getElem h1, Option.map_some, Option.getD_some, Array.all_eq_true_iff_forall_mem] at h3; have := h3 e (by simpa using he); rw [hb] at this; simpa [Dof] using this
theorem ready_some (hs : SOk ops.toList ch) {listed : Array Bool} (hsz : listed.size = ops.size) : ∀ m, m < ops.size → Dof listed m = false → Region.ready .any ops listed ≠ [] := by
 intro m; induction m using Nat.strongRecOn with
 | ind m ih =>
  intro hm hd; by_cases hall : ∀ j, (Oper.mask ops[m]).testBit j = true → Dof listed j = true
  ·
   intro hnil; have : m ∈ Region.ready .any ops listed := by
    unfold Region.ready; simp only [List.mem_filter, List.mem_range, Bool.and_eq_true, Bool.not_eq_true']; refine ⟨hm, ?_, ?_⟩
    ·
     have hlt : m < listed.size := by omega
     unfold Dof at hd; simp [hlt] at hd ⊢; exact hd
    ·
     simp only [Array.getElem?_eq_getElem hm, Option.map_some, Option.getD_some, Array.all_eq_true_iff_forall_mem]; intro e he; cases hb : Region.binds .any e with
     | false => rfl
     | true =>
      have := hall e.on (edgeMask_spec.2 ⟨e, by simpa using he, hb, rfl⟩); simpa [Dof] using this
   rw [hnil] at this; cases this
  ·
   simp only [Classical.not_forall] at hall; obtain ⟨j, hj, hdj⟩ := hall; have hlt := hs.down m ops[m] j (by simp [hm]) hj
   exact ih j hlt (by omega) (by cases h : Dof listed j with
    | false => rfl
    | true => exact absurd h hdj)
theorem count_false_zero {listed : Array Bool} (h : listed.toList.count false = 0) : ∀ i, i < listed.size → Dof listed i = true := fun i hi => by
 have h0 := List.count_eq_zero.1 h; unfold Dof; cases hb : listed.getD i false with
 | true => rfl
 | false =>
  exfalso; refine h0 ?_; have : listed[i] = false := by simpa [hi] using hb
  rw [← this]; simp
theorem count_set {listed : Array Bool} {i n : Nat} (hi : i < listed.size) (hf : Dof listed i = false) (hc : listed.toList.count false = n + 1) : (listed.setIfInBounds i true).toList.count false = n := by
 have hb : listed[i] = false := by unfold Dof at hf; simpa [hi] using hf
 have : (listed.setIfInBounds i true).toList = listed.toList.set i true := by simp
 rw [this, List.count_set (by simpa using hi)]; simp [hb, hc]
theorem free_all (hall : ∀ i, C.testBit i = true → D i = true) (t : Nat) : free ops.toList C D t = true := free_iff.2 fun ⟨j, _, a, b, _, _⟩ => by
 rw [hall j a] at b; cases b
theorem draw_run (hcall : CallSound P B w0 call) (hyld : YieldSound P B w0 yld) (hs : SOk ops.toList ch) (hal : ∀ (i : Nat) o, ops.toList[i]? = some o → al.testBit i = false → isAllocOp o.op = false) {rr : RegRes} :
  ∀ (fuel tt : Nat) (listed : Array Bool) (plan : List DStep) (C K G : Nat) (S : St) (H : Hp) (A : Nat → Nat) (μ : Mp) (w : World) (tmps : Array Value) (ds : List Deferred) (cs : List Frame),
  Inv P B w0 call yld ops.toList ch al μ0 H0 S0 fr cs0 C K G S H μ w tmps ds cs (Dof listed) A → planOk ops.toList ch al C K G plan = true → drawGo P call yld ops.toList plan S H = some rr →
  (plan = [] ∨ ∃ i rest, plan = .chn i :: rest) → listed.size = ops.size → listed.toList.count false = fuel →
  RegOk P B w0 μ0 H0 S0 fr cs0 (lone (fat fr tmps ds (.inRegion ops (Region.linearise.go .any ops fuel tt listed []) :: k)) cs w) k rr := by
 intro fuel; induction fuel with
 | zero =>
  intro tt listed plan C K G S H A μ w tmps ds cs hI hp he hpl hsz hcnt; have hall := count_false_zero hcnt; have hC : ∀ i, i < ops.size → C.testBit i = true := fun i hi => hI.sub i (hall i (by omega)); rcases hpl with rfl | ⟨i, rest, rfl⟩
  ·
   have he : some (RegRes.ok S H) = some rr := he; injection he with he; subst he
   refine ⟨μ, w, tmps, ds, cs, hI.h, hI.st, ?_, hI.csr, hI.dfd, hI.rnd, .one st_regionEnd⟩; refine hI.f.conv rfl rfl rfl rfl rfl fun t v q => only_get.2 ⟨free_all (fun i hi => ?_) t, q⟩; obtain ⟨o, ho⟩ := hI.bound i hi; have : i < ops.toList.length := (List.getElem?_eq_some_iff.1 ho).1; exact hall i (by simp at this; omega)
  ·
   exfalso; simp only [planOk, Bool.and_eq_true] at hp; have hf := hp.1.1.1.1.1; unfold fits at hf; rw [nth_eq] at hf; cases ho : ops.toList[i]? with
   | none => rw [ho] at hf; simp at hf
   | some o =>
    have : i < ops.toList.length := (List.getElem?_eq_some_iff.1 ho).1; have := hC i (by simpa using this); simp [this] at hf
 | succ fuel ih =>
  intro tt listed plan C K G S H A μ w tmps ds cs hI hp he hpl hsz hcnt; have hne : Region.ready .any ops listed ≠ [] := by
   have : 0 < listed.toList.count false := by omega
   rw [List.count_pos_iff] at this; obtain ⟨m, hm, e⟩ := List.mem_iff_getElem.1 this; have hm' : m < listed.size := by simpa using hm
   refine ready_some hs hsz m (by omega) ?_; unfold Dof; simp at e; simp [hm', e]
  simp only [Region.linearise.go]
  change RegOk P B w0 μ0 H0 S0 fr cs0 (lone (fat fr tmps ds (.inRegion ops (match (Region.ready .any ops listed)[tt % (Region.ready .any ops listed).length]? with
   | some i => Region.linearise.go .any ops fuel (tt / (Region.ready .any ops listed).length) (listed.setIfInBounds i true) [i]
   | none => [].reverse) :: k)) cs w) k rr
  cases hi : (Region.ready .any ops listed)[tt % (Region.ready .any ops listed).length]? with
  | none =>
   exfalso; have hpos : 0 < (Region.ready .any ops listed).length := List.length_pos_iff.2 hne; have hlt := Nat.mod_lt tt hpos; rw [List.getElem?_eq_getElem hlt] at hi; cases hi
  | some i =>
   simp only
   rw [linearise_go_acc, List.reverse_singleton, List.singleton_append]; obtain ⟨o, ho, hlt, hDi, hready⟩ := ready_mem hsz (List.mem_of_getElem? hi); have hol : ops.toList[i]? = some o := by simpa using ho
   have hlt' : i < listed.size := by omega
   have hsz' : (listed.setIfInBounds i true).size = ops.size := by simpa using hsz
   have hbd : ∀ j, C.testBit j = true → K.testBit j = true ∨ G.testBit j = true := fun j hj => by
    have hsub : sub C (Nat.lor K G) = true := by
     rcases hpl with rfl | ⟨i', rest, rfl⟩
     ·
      simp only [planOk, Bool.and_eq_true] at hp; exact hp.2
     ·
      simp only [planOk, Bool.and_eq_true] at hp; exact hp.1.1.2
    have := sub_spec hsub hj; rw [tb_or, Bool.or_eq_true] at this; exact this
   cases hC : C.testBit i with
   | true =>
    obtain ⟨μ', w', tmps', ds', cs', hst, hI'⟩ := real_pend (k := k) (rest := Region.linearise.go .any ops fuel (tt / (Region.ready .any ops listed).length) (listed.setIfInBounds i true) []) hcall hyld hs hI hbd hC hDi ho hready; rw [← Dof_set hlt'] at hI'; exact (ih _ _ plan C K G S H A μ' w' tmps' ds' cs' hI' hp he hpl hsz' (count_set hlt' hDi hcnt)).steps hst
   | false =>
    rcases hpl with rfl | ⟨i', rest, rfl⟩
    ·
     exfalso; simp only [planOk, Bool.and_eq_true] at hp; have := isIn_spec hp.1 i (by simpa using hlt); rw [hC] at this; cases this
    ·
     have hp0 := hp; simp only [planOk, Bool.and_eq_true] at hp; obtain ⟨⟨⟨⟨⟨p1, p2⟩, p3⟩, p4⟩, p5⟩, p6⟩ := hp; have hii : i = i' := by
      have := only_spec p3 i o hol; rw [Nat.zero_add] at this; rcases this with q | q | q
      ·
       rw [hC] at q; cases q
      ·
       exact q
      ·
       exfalso; have hsubm : sub (Oper.mask o) C = true := by
        unfold sub; have : Nat.land (Oper.mask o) C = Oper.mask o := by
         apply Nat.eq_of_testBit_eq
         intro j; rw [tb_and]; cases hj : (Oper.mask o).testBit j with
         | false => rfl
         | true => rw [hI.sub j (hready j hj)]; rfl
        rw [this]; simp
       rw [hsubm] at q; cases q
     subst hii; rw [nth_eq, hol] at p5; simp only [Bool.and_eq_true] at p5; have he : Option.rec (motive := fun _ => Option RegRes) none (fun o => chnStep (drawGo P call yld ops.toList rest) (one P call yld ops.toList S H o)) (nth ops.toList i) = some rr := he; rw [nth_eq, hol] at he; have he : chnStep (drawGo P call yld ops.toList rest) (one P call yld ops.toList S H o) = some rr := he; cases hone : one P call yld ops.toList S H o with
     | none => rw [hone] at he; cases he
     | some r1 =>
      rw [hone] at he; cases r1 with
      | pan c S1 H1 => cases he
      | ok S1 H1 =>
       have he : drawGo P call yld ops.toList rest S1 H1 = some rr := he; obtain ⟨μ', w', tmps', ds', cs', hst, hI'⟩ := real_chain (k := k) (rest := Region.linearise.go .any ops fuel (tt / (Region.ready .any ops listed).length) (listed.setIfInBounds i true) []) hcall hyld hs hI hC ho hready hone rfl (fun j hj => sub_spec p5.1 hj) p5.2; rw [← Dof_set hlt'] at hI'; obtain ⟨plan', C', G', S', H', A', q1, q2, q3, q4⟩ := canon_run hs hal rest _ _ S1 H1 A hI' p6 he; exact (ih _ _ plan' C' _ G' S' H' A' μ' w' tmps' ds' cs' q1 q2 q3 q4 hsz' (count_set hlt' hDi hcnt)).steps hst
theorem evDraw_sound (hmix : P.follows .mixedOrders = true) (hcall : CallSound P B w0 call) (hyld : YieldSound P B w0 yld) (h : HRel P B w0 μ H w) (hf : FRel μ S fr tmps ds cs) {rr : RegRes} {id : Nat} (he : evDraw P call yld ops.toList S H = some rr) :
  RegOk P B w0 μ H S fr cs (lone (fat fr tmps ds (.code (.region id ops true) :: k)) cs w) k rr := by
 unfold evDraw at he; cases hd : drawOk ops.toList with
 | false => rw [hd] at he; cases he
 | true =>
  rw [hd, cond_true] at he; unfold drawOk at hd; simp only [Bool.and_eq_true] at hd; obtain ⟨hd1, hd2⟩ := hd; have hs := sok_of hd1; have hal : ∀ (i : Nat) o, ops.toList[i]? = some o → (allocM ops.toList 0).testBit i = false → isAllocOp o.op = false := fun i o ho hb => by
   cases ha : isAllocOp o.op with
   | false => rfl
   | true =>
    have := allocM_spec (k := 0) ho ha; rw [Nat.zero_add, hb] at this; cases this
  refine RegOk.steps (.one st_draw) ?_; simp only [Region.schedule, hmix, Bool.true_or, if_true]; have hz : ∀ i, Nat.testBit 0 i = false := fun i => Nat.zero_testBit i; have hD0 : ∀ i, Dof (Array.replicate ops.size false) i = false := fun i => by
   unfold Dof; by_cases hi : i < ops.size
   ·
    simp [hi]
   ·
    simp [hi]
  have hI : Inv P B w0 call yld ops.toList (chainM ops.toList ops.toList 0) (allocM ops.toList 0) μ H S fr cs 0 0 0 S H μ { w with drawn := w.drawn + 1 } tmps ds cs (Dof (Array.replicate ops.size false)) (fun _ => 0) := by
   refine ⟨h.drawn _, ?_, Step.refl _ _, CsRel.refl _ _ hf.hasCs, rfl, rfl, fun i hi => ?_, fun i hi => ?_, fun i o j hi => ?_, fun i o j hi => ?_, fun i hi => ?_, fun i o hi => ?_, fun i j oi oj hi => ?_⟩
   ·
    exact hf.conv rfl rfl rfl rfl rfl fun t v q => (only_get.1 q).2
   ·
    rw [hD0] at hi; cases hi
   ·
    rw [hz] at hi; cases hi
   ·
    rw [hD0] at hi; cases hi
   ·
    rw [hz] at hi; cases hi
   ·
    rw [hz] at hi; cases hi
   ·
    rw [hz] at hi; cases hi
   ·
    rw [hz] at hi; cases hi
  obtain ⟨plan', C', G', S', H', A', q1, q2, q3, q4⟩ := canon_run hs hal (planOf ops.toList) _ _ S H _ hI hd2 he; unfold Region.linearise; exact draw_run hcall hyld hs hal ops.size _ _ plan' C' _ G' S' H' A' μ _ tmps ds cs q1 q2 q3 q4 (by simp) (by simp)
end
end Go.Cre

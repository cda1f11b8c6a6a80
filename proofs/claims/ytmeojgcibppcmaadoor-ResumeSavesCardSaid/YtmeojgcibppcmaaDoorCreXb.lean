/- A part of the proof of ResumeSaves. -/
import Derived.Test.YtmeojgcibppcmaaDoorCreX8
set_option linter.unusedVariables false
set_option linter.unusedSimpArgs false
namespace Go.Cre
open Go.RowKit
open Classical
structure LitFix (P : Program) (ops : Array Oper) (L : Lit) (l : List Oper) (ch al : Nat) (key el : TypeId) (kd : TypeDesc) (es : List (Nat × Value × Value)) (a : Nat) (Sf : St) : Prop where
 hl : l = litOps L (ops.toList.take L.n) 0
 hs : SOk l ch
 hal : ∀ (i : Nat) o, l[i]? = some o → al.testBit i = false → isAllocOp o.op = false
 hat : ∀ (j : Nat) o, j < L.n → ops[j]? = some o → litAt L (ops.toList.take L.n) ch j o = true
 htail : ∀ (i : Nat) o, L.n ≤ i → ops[i]? = some o → (∀ j, j < i → (Oper.mask o).testBit j = true) ∧ ∀ j, (Oper.mask o).testBit j = true → j < i
 hn : L.n ≤ ops.size
 hm : L.m < L.n
 hu : P.underlying L.ty = some (.map key el)
 hkd : P.underlying key = some kd
 hSt : Sf.T.get L.t = some (.map (some a))
 hes : litGo P Sf.T key (ops.toList.take L.n) 0 = some es
 hap : apartK P key kd es = true
section
variable {P : Program} {ops : Array Oper} {L : Lit} {l : List Oper} {ch al : Nat} {key el : TypeId} {kd : TypeDesc} {es : List (Nat × Value × Value)} {a : Nat} {Sf : St} {i : Nat} {o : Oper}
theorem LitFix.get (F : LitFix P ops L l ch al key el kd es a Sf) (hi : i < L.n) (ho : ops[i]? = some o) : (ops.toList.take L.n)[i]? = some o ∧ l[i]? = some (litOp L i o) := by
 have h1 : (ops.toList.take L.n)[i]? = some o := by rw [List.getElem?_take, if_pos hi]; simpa using ho
 refine ⟨h1, ?_⟩; have := litOps_get (L := L) (k := 0) h1; rw [F.hl]; simpa using this
theorem LitFix.back (F : LitFix P ops L l ch al key el kd es a Sf) {o' : Oper} (h : l[i]? = some o') : ∃ o, i < L.n ∧ ops[i]? = some o ∧ o' = litOp L i o := by
 rw [F.hl] at h; obtain ⟨o, h1, h2⟩ := litOps_inv h; rw [List.getElem?_take] at h1; split at h1
 ·
  rename_i q; exact ⟨o, q, by simpa using h1, by simpa using h2⟩
 ·
  cases h1
theorem LitFix.len (F : LitFix P ops L l ch al key el kd es a Sf) : l.length = L.n := by
 rw [F.hl, litOps_length, List.length_take]; have := F.hn; simp; omega
theorem LitFix.cls (F : LitFix P ops L l ch al key el kd es a Sf) (hi : i < L.n) (ho : ops[i]? = some o) : o.guard = none ∧
    ((∃ k x, o.op = .insert L.ty (.tmp L.t) k x ∧ o.dst = none ∧ (Oper.mask o).testBit L.m = true ∧ safeX (ops.toList.take L.n) (Oper.mask o) k = true ∧ safeX (ops.toList.take L.n) (Oper.mask o) x = true ∧ ch.testBit i = false) ∨
     (i = L.m ∧ o.op = .makeMap L.ty none ∧ o.dst = some L.t ∧ ch.testBit i = false ∧ l[i]? = some { o with op := .makeMap L.ty (some (.const (.int .i64 (.ofNat 0)))) }) ∨
     (i ≠ L.m ∧ (∀ ty m k x, o.op ≠ .insert ty m k x) ∧ o.dst ≠ some L.t ∧ l[i]? = some o)) := by
  have h := F.hat i o hi ho; have hg := (F.get hi ho).2; unfold litAt at h; simp only [Bool.and_eq_true] at h; refine ⟨by simpa using h.1, ?_⟩; have h := h.2; unfold litOp at hg; cases hop : o.op with
  | insert ty m k x =>
    rw [hop] at h; simp only [Bool.and_eq_true, Bool.not_eq_true'] at h; obtain ⟨⟨⟨⟨⟨⟨h1, h2⟩, h3⟩, h4⟩, h5⟩, h6⟩, h7⟩ := h; refine .inl ⟨k, x, by rw [isT_eq h1, Nat.eq_of_beq_eq_true h2], by simpa using h3, h4, h5, h6, h7⟩
  | makeMap ty r =>
    rw [hop] at h hg; cases r with
    | none =>
      simp only at h hg; cases hb : Nat.beq i L.m with
      | true =>
        rw [hb] at h hg; simp only [cond_true, Bool.and_eq_true, Bool.not_eq_true'] at h hg; have e := Nat.eq_of_beq_eq_true h.1.2; subst e; exact .inr (.inl ⟨Nat.eq_of_beq_eq_true hb, rfl, dstIs_iff.1 h.1.1, h.2, hg⟩)
      | false =>
        rw [hb] at h hg; simp only [cond_false, Bool.not_eq_true'] at h hg; refine .inr (.inr ⟨(fun e => by subst e; simp at hb), (fun _ _ _ _ q => by cases q), (fun e => by rw [dstIs_iff.2 e] at h; cases h), hg⟩)
    | some r =>
      simp only [Bool.and_eq_true, Bool.not_eq_true'] at h hg; refine .inr (.inr ⟨(fun e => by subst e; simp at h), (fun _ _ _ _ q => by cases q), (fun e => by rw [dstIs_iff.2 e] at h; cases h.2), hg⟩)
  | _ =>
    rw [hop] at h hg; simp only [Bool.and_eq_true, Bool.not_eq_true'] at h hg; refine .inr (.inr ⟨(fun e => by subst e; simp at h), (fun _ _ _ _ q => by cases q), (fun e => by rw [dstIs_iff.2 e] at h; cases h.2), hg⟩)

theorem LitFix.dst_t (F : LitFix P ops L l ch al key el kd es a Sf) {o' : Oper} (h : l[i]? = some o') (hd : o'.dst = some L.t) : i = L.m := by
 obtain ⟨o, h1, h2, rfl⟩ := F.back h; rw [litOp_same.1] at hd; obtain ⟨_, ⟨k, x, _, q, _⟩ | ⟨q, _⟩ | ⟨_, _, q, _⟩⟩ := F.cls h1 h2
 ·
  rw [q] at hd; cases hd
 ·
  exact q
 ·
  exact absurd hd q
theorem LitFix.safe (F : LitFix P ops L l ch al key el kd es a Sf) {mask u : Nat} (h : safeX (ops.toList.take L.n) mask (.tmp u) = true) {o' : Oper} (h' : l[i]? = some o') (hd : o'.dst = some u) : mask.testBit i = true := by
 obtain ⟨o, h1, h2, rfl⟩ := F.back h'; rw [litOp_same.1] at hd; have := allIx_spec h i o (F.get h1 h2).1; rw [dstIs_iff.2 hd] at this; simpa using this
theorem LitFix.ent (F : LitFix P ops L l ch al key el kd es a Sf) {x : Nat × Value × Value} (hx : x ∈ es) : ∃ o ty m k v, x.1 < L.n ∧ ops[x.1]? = some o ∧ o.op = .insert ty m k v := by
 obtain ⟨j, o, ty, m, k, v, h1, h2, h3⟩ := (litGo_spec F.hes).2.1 x hx; rw [Nat.zero_add] at h1; subst h1; rw [List.getElem?_take] at h2; split at h2
 ·
  rename_i q; exact ⟨o, ty, m, k, v, q, by simpa using h2, h3⟩
 ·
  cases h2
end
section
variable {P : Program} {B : Nat → Prop} {w0 wst : World} {μ0 : Mp} {H0 H2 Hf : Hp} {S0 Sf S2 : St} {fr : Frame} {cs0 : List Frame} {call : CallEv} {yld : YieldEv}
variable {ops : Array Oper} {L : Lit} {l : List Oper} {ch al : Nat} {key el : TypeId} {kd : TypeDesc} {es : List (Nat × Value × Value)} {a a2 : Nat} {k : List Item}
theorem lit_run (hcall : CallSoundA P B w0 call) (hyld : YieldSoundA P B w0 yld) (F : LitFix P ops L l ch al key el kd es a Sf) (h0 : HRel P B w0 μ0 H0 wst)
  (hnew : Hf.new (.map (litEs es) es.length) = some (a2, H2)) (hput : Sf.put (some L.t) (.map (some a2)) = some S2) :
  ∀ (fuel tt : Nat) (listed : Array Bool) (plan : List DStep) (C K G : Nat) (S : St) (H : Hp) (A : Nat → Nat) (μ : Mp) (w : World) (tmps : Array Value) (ds : List Deferred) (cs : List Frame) (Bx : Nat → Prop),
  Inv P Bx w call yld l ch al μ0 H0 S0 fr cs0 C K G S H μ w tmps ds cs (Dof listed) A → Kept B w0 w → wst.heap.size ≤ w.heap.size → (∀ k, B k → Bx k) → Park B wst.heap.size a L.m es μ w (Dof listed) Bx →
  planOk l ch al C K G plan = true → drawGo P call yld l plan S H = some (.ok Sf Hf) → (plan = [] ∨ ∃ i rest, plan = .chn i :: rest) → listed.size = ops.size → (listed.toList.take L.n).count false = fuel → (∀ j, L.n ≤ j → Dof listed j = false) →
  RegOk P B w0 μ0 H0 S0 fr cs0 (lone (fat fr tmps ds (.inRegion ops (Region.linearise.go .any ops (fuel + (ops.size - L.n)) tt listed []) :: k)) cs w) (.inRegion ops (List.range' L.n (ops.size - L.n)) :: k) (.ok S2 H2) := by
 have hG := litGo_spec F.hes
 -- blocks of the listed variables lie below the region's start
 have hlow : ∀ {μ : Mp} {H : Hp} {Bx : Nat → Prop} {w1 w : World}, HRel P Bx w1 μ H w → Step μ0 μ H0 H → ∀ id L', μ id = some L' → id < H.glo → L'.r < wst.heap.size := by
  intro μ H Bx w1 w h hst id L' hid hg; rw [hst.glo] at hg; cases hm : μ0 id with
  | none =>
   have := (hst.keep id (Nat.lt_of_lt_of_le hg h0.glt) hm).1; rw [hid] at this; cases this
  | some L0 =>
   have e := hst.ext id L0 hm; rw [hid] at e; injection e with e; subst e
   obtain ⟨b, ob, _, q, _⟩ := h0.blk id L' hm; exact (Array.getElem?_eq_some_iff.1 q).1
 -- who is at the parked block is left out
 have hdead : ∀ {μ : Mp} {H : Hp} {Bx : Nat → Prop} {w1 w : World} {r : Nat}, HRel P Bx w1 μ H w → Step μ0 μ H0 H → Bx r → wst.heap.size ≤ r → ∀ id L', μ id = some L' → L'.r = r → H.mem.get id = some .dead := by
  intro μ H Bx w1 w r h hst hB hr id L' hid e; by_cases hd : H.mem.get id = some .dead
  ·
   exact hd
  ·
   exfalso; rcases Nat.lt_or_ge id H.glo with q | q
   ·
    have := hlow h hst id L' hid q; omega
   ·
    exact h.new id L' hid q hd (by rw [e]; exact hB)
 intro fuel; induction fuel with
 | zero =>
  intro tt listed plan C K G S H A μ w tmps ds cs Bx hI hkept hup hBx hpark hp he hpl hsz hcnt hrest; have hall := count_take_zero (by have := F.hn; omega) hcnt; have hCall : ∀ i, i < L.n → C.testBit i = true := fun i hi => hI.sub i (hall i hi); have hnil : plan = [] := by
   rcases hpl with q | ⟨i, rest, rfl⟩
   ·
    exact q
   ·
    exfalso; simp only [planOk, Bool.and_eq_true] at hp; have hf := hp.1.1.1.1.1; unfold fits at hf; rw [nth_eq] at hf; cases ho : l[i]? with
    | none => rw [ho] at hf; simp at hf
    | some o =>
     have : i < l.length := (List.getElem?_eq_some_iff.1 ho).1; rw [F.len] at this; have := hCall i this; simp [this] at hf
  subst hnil; have he : some (RegRes.ok S H) = some (.ok Sf Hf) := he; injection he with he; injection he with he1 he2; subst he1; subst he2
  rcases hpark with ⟨q, _⟩ | ⟨_, r, N, sz, en, c, js, e', p1, p2, p3, p4, p5, p6, p7, p8⟩
  ·
   rw [hall L.m F.hm] at q; cases q
  ·
   have hBr : Bx r := by rw [p2]; exact .inr rfl
   have hone := hdead hI.h hI.st hBr p3; have hnB : ¬ B r := fun q => by have := h0.bsz r q; omega
   have hb : HRel P B w0 μ H w := ⟨hkept, fun k hk => hI.h.bsz k (hBx k hk), hI.h.blk, hI.h.sep, hI.h.lt, hI.h.own, fun id L' x1 x2 x3 x4 => hI.h.new id L' x1 x2 x3 (hBx _ x4), hI.h.glob, hI.h.glt, hI.h.famLt, hI.h.famMem, hI.h.famSort⟩; obtain ⟨rfl, n1, n2, n3, n4, n5⟩ := Hp.new_eq hnew; have hph := hb.phantom hnew rfl; have hE : ERel μ (litEs es) en.toList := by
    refine ⟨(es.map (·.1)).map e', ?_, ?_⟩
    ·
     rw [p5]; refine List.Perm.map _ ?_; refine (List.perm_ext_iff_of_nodup ?_ p6).2 fun j => ?_
     ·
      rw [List.Nodup, List.pairwise_map]; exact hG.2.2.imp fun h e => by omega
     ·
      rw [p7 j, List.mem_map]; constructor
      ·
       rintro ⟨x, x1, x2⟩; obtain ⟨o, ty, m, k', v, y1, _⟩ := F.ent x1; exact ⟨by rw [← x2]; exact hall _ y1, x, x1, x2⟩
      ·
       rintro ⟨_, x, x1, x2⟩; exact ⟨x, x1, x2⟩
    ·
     have key' : ∀ (l1 : List (Nat × Value × Value)), (∀ x ∈ l1, x ∈ es) → ERel0 μ (litEs l1) ((l1.map (·.1)).map e') := by
      intro l1; induction l1 with
      | nil => intro _; exact .nil
      | cons x l1 ih =>
       intro hx; have hxe := hx x (by simp); obtain ⟨o, ty, m, k', v, y1, y2, y3⟩ := F.ent hxe; have hj : x.1 ∈ js := (p7 x.1).2 ⟨hall _ y1, x, hxe, rfl⟩; obtain ⟨z1, z2⟩ := p8 x.1 hj x hxe rfl; obtain ⟨kv, xv, g1, g2, g3, g4⟩ := hG.1 x.1 o ty m k' v (F.get y1 y2).1 y3; rw [Nat.zero_add] at g1; have hxx := only_one hG.2.2 x hxe _ g1 rfl; have hpl : plain x.2.1 = true := by rw [hxx]; exact (keyOk_spec g4).1
       exact .cons _ _ _ _ z1 hpl z2 (ih fun y hy => hx y (by simp [hy]))
     exact key' es fun _ h => h
   obtain ⟨hfill, hext⟩ := hph.fillSame (a := H.nx) (b := .map (litEs es) es.length) (o := .map en c) (L := ⟨r, N, sz⟩) hb.none_nx (by omega) (by rw [n4]; exact hb.glt) (by rw [n5, if_pos rfl]) p4 hnB
    (fun id L' x1 x2 => by rw [n5, if_neg (by have := hb.lt id L' x1; omega)]; exact hone id L' x1 x2) hE
   have hfr : ∀ t, free l C (Dof listed) t = true := fun t => free_iff.2 fun ⟨j, oj, x1, x2, x3, x4⟩ => by
    have : j < l.length := (List.getElem?_eq_some_iff.1 x3).1; rw [F.len] at this; rw [hall j this] at x2; cases x2
   have hF0 : FRel μ S fr tmps ds cs := hI.f.conv rfl rfl rfl rfl rfl fun t v q => only_get.2 ⟨hfr t, q⟩; have hF1 := hF0.mono hext; have hvt := hF0.t.2 L.t _ F.hSt; obtain ⟨L', x1, x2⟩ := hvt.map_inv; rw [p1] at x1; injection x1 with x1; subst x1
   obtain ⟨f1, f2, f3, f4, f5⟩ := put_sound hF1 (VRel.map H.nx ⟨r, N, sz⟩ (Mp.put_self _ _ _)) hput; have htm : putT tmps (some L.t) (.map (some r)) = tmps := by
    show tmps.setIfInBounds L.t (.map (some r)) = tmps; apply Array.ext_getElem?
    intro j; rw [Array.getElem?_setIfInBounds]; split
    ·
     rename_i e; subst e; split
     ·
      rename_i hlt; have : tmps.getD L.t undef = tmps[L.t] := by simp [hlt]
      rw [this] at x2; rw [Array.getElem?_eq_getElem hlt, x2]
     ·
      rename_i hlt; rw [Array.getElem?_eq_none (by omega)]
    ·
     rfl
   rw [htm] at f1; refine ⟨_, w, tmps, ds, cs, hfill, ⟨hI.st.ext.trans hext, ?_, ?_, ?_⟩, f1, hI.csr, f2.trans hI.dfd, f3.trans hI.rnd, ?_⟩
   ·
    have := hI.st.nx; omega
   ·
    rw [n4]; exact hI.st.glo
   ·
    intro id hid hm; obtain ⟨y1, y2⟩ := hI.st.keep id hid hm; have hlt : id < H.nx := Nat.lt_of_lt_of_le hid hI.st.nx; refine ⟨by rw [Mp.put_other _ _ (by omega)]; exact y1, fun hop => ?_⟩; rw [n5, if_neg (by omega)]; exact y2 hop
   ·
    rw [Nat.zero_add, lin_tail F.htail (ops.size - L.n) tt L.n listed hsz (Nat.le_refl _) (by have := F.hn; omega) hall hrest]; exact .refl P _
 | succ fuel ih =>
  intro tt listed plan C K G S H A μ w tmps ds cs Bx hI hkept hup hBx hpark hp he hpl hsz hcnt hrest; have hnl : L.n ≤ listed.size := by have := F.hn; omega
  obtain ⟨m0, hm0, hm0d⟩ := exists_false hnl hcnt; have hmask : ∀ (i : Nat) o, i < L.n → ops[i]? = some o → Oper.mask (litOp L i o) = Oper.mask o := fun i o _ _ => litOp_same.2.2; have hne : Region.ready .any ops listed ≠ [] := ready_someL (n := L.n) (fun i o j hi ho hj => F.hs.down i _ j (F.get hi ho).2 (by rw [litOp_same.2.2]; exact hj)) F.hn hsz m0 hm0 hm0d; rw [show fuel + 1 + (ops.size - L.n) = (fuel + (ops.size - L.n)) + 1 from by omega]; simp only [Region.linearise.go]
  change RegOk P B w0 μ0 H0 S0 fr cs0 (lone (fat fr tmps ds (.inRegion ops (match (Region.ready .any ops listed)[tt % (Region.ready .any ops listed).length]? with
   | some i => Region.linearise.go .any ops (fuel + (ops.size - L.n)) (tt / (Region.ready .any ops listed).length) (listed.setIfInBounds i true) [i]
   | none => [].reverse) :: k)) cs w) _ _
  cases hi : (Region.ready .any ops listed)[tt % (Region.ready .any ops listed).length]? with
  | none =>
   exfalso; have hpos : 0 < (Region.ready .any ops listed).length := List.length_pos_iff.2 hne; have hlt := Nat.mod_lt tt hpos; rw [List.getElem?_eq_getElem hlt] at hi; cases hi
  | some i =>
   simp only
   rw [linearise_go_acc, List.reverse_singleton, List.singleton_append]; obtain ⟨o, ho, hlt, hDi, hready⟩ := ready_mem hsz (List.mem_of_getElem? hi); have hin : i < L.n := by
    rcases Nat.lt_or_ge i L.n with q | q
    ·
     exact q
    ·
     have := hready m0 ((F.htail i o q ho).1 m0 (by omega)); rw [hm0d] at this; cases this
   have hol' := (F.get hin ho).2; have hlt' : i < listed.size := by omega
   have hsz' : (listed.setIfInBounds i true).size = ops.size := by simpa using hsz
   have hcnt' := count_take_set hin hnl hDi hcnt; have hrest' : ∀ j, L.n ≤ j → Dof (listed.setIfInBounds i true) j = false := fun j hj => by
    rw [Dof_set hlt']; unfold Dins; rw [if_neg (by omega)]; exact hrest j hj
   have hbd : ∀ j, C.testBit j = true → K.testBit j = true ∨ G.testBit j = true := fun j hj => by
    have hsub : sub C (Nat.lor K G) = true := by
     rcases hpl with rfl | ⟨i', rest, rfl⟩
     ·
      simp only [planOk, Bool.and_eq_true] at hp; exact hp.2
     ·
      simp only [planOk, Bool.and_eq_true] at hp; exact hp.1.1.2
    have := sub_spec hsub hj; rw [tb_or, Bool.or_eq_true] at this; exact this
   -- of those that are not of the chain, the plan has done the next one
   have hisC : ch.testBit i = false → C.testBit i = true := fun hch => by
    cases hC : C.testBit i with
    | true => rfl
    | false =>
     exfalso; rcases hpl with rfl | ⟨i', rest, rfl⟩
     ·
      simp only [planOk, Bool.and_eq_true] at hp; have := isIn_spec hp.1 i (by rw [F.len]; exact hin); rw [hC] at this; cases this
     ·
      simp only [planOk, Bool.and_eq_true] at hp; obtain ⟨⟨⟨⟨⟨q1, q2⟩, q3⟩, q4⟩, q5⟩, q6⟩ := hp; have := only_spec q3 i _ hol'; rw [Nat.zero_add] at this; rcases this with q | q | q
      ·
       rw [hC] at q; cases q
      ·
       subst q; rw [hch] at q2; cases q2
      ·
       have hsubm : sub (Oper.mask (litOp L i o)) C = true := by
        unfold sub; have : Nat.land (Oper.mask (litOp L i o)) C = Oper.mask (litOp L i o) := by
         apply Nat.eq_of_testBit_eq
         intro j; rw [tb_and]; cases hj : (Oper.mask (litOp L i o)).testBit j with
         | false => rfl
         | true => rw [litOp_same.2.2] at hj; rw [hI.sub j (hready j hj)]; rfl
        rw [this]; simp
       rw [hsubm] at q; cases q
   have hsafe_t : C.testBit L.m = true → S.T.get L.t = some (.map (some a)) := fun hC => by
    rw [← drawGo_keeps plan C K G S H hp he fun j oj hj hd => by rw [F.dst_t hj hd]; exact hC]; exact F.hSt
   obtain ⟨hng, hcls⟩ := F.cls hin ho; rcases hcls with ⟨kk, x, hop, hdn, hmm, hsk, hsx, hch⟩ | ⟨rfl, hop, hdt, hch, hol⟩ | ⟨him, hnins, hdt, hol⟩
   ·
    -- an entry
    have hC := hisC hch; have hDm : Dof listed L.m = true := hready L.m hmm; have him : i ≠ L.m := fun e => by subst e; rw [hDi] at hDm; cases hDm
    obtain ⟨kv, xv, g1, g2, g3, g4⟩ := (litGo_spec F.hes).1 i o _ _ kk x (F.get hin ho).1 hop; rw [Nat.zero_add] at g1; obtain ⟨hpl', hck⟩ := keyOk_spec g4; rcases hpark with ⟨q, _⟩ | ⟨_, r, N, sz, en, c, js, e', p1, p2, p3, p4, p5, p6, p7, p8⟩
    ·
     rw [hDm] at q; cases q
    ·
     have hBr : Bx r := by rw [p2]; exact .inr rfl
     have hCm : C.testBit L.m = true := hI.sub _ hDm
     -- what is looked at
     have hfree : ∀ u, (∀ (j : Nat) oj, l[j]? = some oj → oj.dst = some u → Dof listed j = true) → free l C (Dof listed) u = true := fun u hu => free_iff.2 fun ⟨j, oj, x1, x2, x3, x4⟩ => by
      rw [hu j oj x3 x4] at x2; cases x2
     have hopd : ∀ {y : Operand} {v : Value}, safeX (ops.toList.take L.n) (Oper.mask o) y = true → opdT Sf.T y = some v → VRel μ v (rho tmps y) := fun {y v} hsy hy => by
      refine opdT_sound hI.f.t (opdT_safe hy fun u hu => ?_); subst hu; have h1 : ∀ (j : Nat) oj, l[j]? = some oj → oj.dst = some u → Dof listed j = true := fun j oj hj hd => hready j (F.safe hsy hj hd); have h2 := drawGo_keeps (t := u) plan C K G S H hp he fun j oj hj hd => hI.sub j (h1 j oj hj hd); show (S.T.keep _).get u = Sf.T.get u; rw [Tr.get_keep, hfree u h1, h2]; rfl
     have hkv : rho tmps kk = kv := plain_eq hpl' (hopd hsk g2); have hxv := hopd hsx g3; have htv : rho tmps (.tmp L.t) = .map (some r) := by
      have h1 : (S.only (free l C (Dof listed))).T.get L.t = some (.map (some a)) := only_get.2 ⟨hfree L.t fun j oj hj hd => by rw [F.dst_t hj hd]; exact hDm, hsafe_t hCm⟩; obtain ⟨L', y1, y2⟩ := (hI.f.t.2 L.t _ h1).map_inv; rw [p1] at y1; injection y1 with y1; subst y1
      exact y2
     have hnj : i ∉ js := fun q => by have := ((p7 i).1 q).1; rw [hDi] at this; cases this
     have htst : ∀ e ∈ en.toList, Tst P key kd kv e.key false := fun e hee => by
      rw [p5, List.mem_map] at hee; obtain ⟨j, hj, rfl⟩ := hee; obtain ⟨_, x', x1, x2⟩ := (p7 j).1 hj; rw [(p8 j hj x' x1 x2).1]; have hne' : i ≠ j := fun e => hnj (e ▸ hj); exact testA_spec F.hkd (apartK_spec F.hap (i, kv, xv) g1 x' x1 (by rw [x2]; exact hne'))
     have hrun := mapInsert_run (v := rho tmps x) F.hu F.hkd p4 hck htst; have hrlt : r < w.heap.size := (Array.getElem?_eq_some_iff.1 p4).1; have hpk := hI.h.parked (o' := .map (en.push { key := kv, val := rho tmps x, born := c }) (c + 1)) (hdead hI.h hI.st hBr p3) hrlt; have hI' := inv_none hI hol' (by rw [litOp_same.1]; exact hdn) hC (by rw [litOp_same.2.2]; exact hready) hpk; rw [← Dof_set hlt'] at hI'; have hw := guard_sound (ops := ops) (o := o) (b := true) hI.f.t (by unfold guardB; rw [hng]); have hnd : fr.roundOf = none ∨ ∀ c, o.op ≠ .defer c := .inr fun c q => by rw [hop] at q; cases q
     have hrun' : (Instr.mapUpdate L.ty (rho tmps (.tmp L.t)) (rho tmps kk) (rho tmps x)).run P w = .ok () { w with heap := w.heap.setIfInBounds r (.map (en.push { key := kv, val := rho tmps x, born := c }) (c + 1)) } := by rw [htv, hkv]; exact hrun
     have hex : (execOp (rho tmps) o).run P w = .ok .skip { w with heap := w.heap.setIfInBounds r (.map (en.push { key := kv, val := rho tmps x, born := c }) (c + 1)) } := by simp [execOp, hop, hrun']
     have hst := st_skipop (k := k) (rest := Region.linearise.go .any ops (fuel + (ops.size - L.n)) (tt / (Region.ready .any ops listed).length) (listed.setIfInBounds i true) []) (cs := cs) (ds := ds) ho hw hnd hex; rw [hdn] at hst; refine (ih _ _ plan C K G S H A μ _ tmps ds cs Bx hI' ?_ (by simpa using hup) hBx ?_ hp he hpl hsz' hcnt' hrest').steps (.one hst)
     ·
      refine hkept.trans ⟨rfl, rfl, rfl, by simp, fun j hj => ?_⟩; show (w.heap.setIfInBounds r _)[j]? = w.heap[j]?; rw [Array.getElem?_setIfInBounds, if_neg ?_]; intro e; subst e; have := h0.bsz r hj; omega
     ·
      have hDs : ∀ j, Dof (listed.setIfInBounds i true) j = true ↔ Dof listed j = true ∨ j = i := fun j => by rw [Dof_set hlt', Dins_iff]
      refine .inr ⟨(hDs _).2 (.inl hDm), r, N, sz, en.push { key := kv, val := rho tmps x, born := c }, c + 1, js ++ [i], fun j => if j = i then { key := kv, val := rho tmps x, born := c } else e' j, p1, p2, p3, ?_, ?_, ?_, fun j => ?_, fun j hj x' hx' ex => ?_⟩
      ·
       show (w.heap.setIfInBounds r _)[r]? = _; rw [Array.getElem?_setIfInBounds]; simp [hrlt]
      ·
       rw [Array.toList_push, p5, List.map_append]; have : js.map e' = js.map (fun j => if j = i then ({ key := kv, val := rho tmps x, born := c } : MapEntry) else e' j) := List.map_congr_left fun j hj => by
        rw [if_neg (show j ≠ i from fun e => hnj (e ▸ hj))]
       rw [this]; simp
      ·
       rw [List.nodup_append]; exact ⟨p6, by simp, fun x1 y1 x2 y2 => by simp at y2; intro e; subst e; subst y2; exact hnj y1⟩
      ·
       rw [List.mem_append, List.mem_singleton, p7 j, hDs j]; constructor
       ·
        rintro (⟨y1, y2⟩ | rfl)
        ·
         exact ⟨.inl y1, y2⟩
        ·
         exact ⟨.inr rfl, _, g1, rfl⟩
       ·
        rintro ⟨y1 | y1, y2⟩
        ·
         exact .inl ⟨y1, y2⟩
        ·
         exact .inr y1
      ·
       by_cases ej : j = i
       ·
        subst ej; have := only_one (litGo_spec F.hes).2.2 x' hx' _ g1 ex; subst this; simp only [if_true]; exact ⟨trivial, hxv⟩
       ·
        simp only [if_neg ej]; rcases List.mem_append.1 hj with q | q
        ·
         exact p8 j q x' hx' ex
        ·
         simp at q; exact absurd q ej
   ·
    -- the map is made
    have hC := hisC hch; rcases hpark with ⟨hDm, hBB⟩ | ⟨hDm, _⟩
    ·
     have ha : al.testBit L.m = true := by
      cases hb : al.testBit L.m with
      | true => rfl
      | false => have := F.hal L.m _ hol hb; cases this
     have hall : allocOf P S.T (Op.makeMap L.ty (some (.const (.int .i64 (.ofNat 0))))) = some (.dead, .map) := by
      simp only [allocOf, litMake, F.hu]
     have hnd : fr.roundOf = none ∨ ∀ c, o.op ≠ .defer c := .inr fun c q => by rw [hop] at q; cases q
     have hrun : (execOp (rho tmps) o).run P w = .ok (.value (AV.at w.heap.size .map)) (w.alloc (.map #[] 0)) := by simp [execOp, hop, Instr.makeMap, newObj, Sem.run, AV.at]
     obtain ⟨hst, hI', q1, q2, q3⟩ := real_mkL (k := k) (rest := Region.linearise.go .any ops (fuel + (ops.size - L.n)) (tt / (Region.ready .any ops listed).length) (listed.setIfInBounds L.m true) [])
      F.hs hI hC hDi ho hol hng hng rfl hready ha (ob := .map #[] 0) (N := 0) (sz := 0) hall hnd hrun trivial rfl
     have hA : A L.m = a := by
      have h1 := q3 L.t hdt; rw [hsafe_t hC] at h1; simp only [AV.at, Option.some.injEq, Value.map.injEq] at h1; exact h1.symm
     have hk : Kept B w (w.alloc (.map #[] 0)) := by have := hI'.h.below; rw [hBB] at this; exact this
     have hHR : HRel P (fun k => B k ∨ k = w.heap.size) (w.alloc (.map #[] 0)) (μ.put (A L.m) ⟨w.heap.size, 0, 0⟩) H (w.alloc (.map #[] 0)) := by
      refine hI'.h.rebase (fun k hk => ?_) (fun id L' hid hg hnd' hB => ?_)
      ·
       rcases hk with q | q
       ·
        exact hI'.h.bsz k (by rw [hBB]; exact q)
       ·
        subst q; show w.heap.size < (w.heap.push _).size; rw [Array.size_push]; omega
      ·
       by_cases e : id = A L.m
       ·
        subst e; exact hnd' q2
       ·
        rw [Mp.put_other _ _ e] at hid; rcases hB with q | q
        ·
         exact hI.h.new id L' hid hg hnd' (by rw [hBB]; exact q)
        ·
         obtain ⟨b, ob, _, y, _⟩ := hI.h.blk id L' hid; have := (Array.getElem?_eq_some_iff.1 y).1; omega
     have hI2 := hI'.rebase hHR; rw [← Dof_set hlt'] at hI2; refine (ih _ _ plan C K G S H A _ _ _ ds cs (fun k => B k ∨ k = w.heap.size) hI2 (hkept.trans hk) (Nat.le_trans hup hk.size) (fun _ h => .inl h) ?_ hp he hpl hsz' hcnt' hrest').steps hst; have hDs : ∀ j, Dof (listed.setIfInBounds L.m true) j = true ↔ Dof listed j = true ∨ j = L.m := fun j => by rw [Dof_set hlt', Dins_iff]
     refine .inr ⟨(hDs _).2 (.inr rfl), w.heap.size, 0, 0, #[], 0, [], fun _ => { key := undef, val := undef, born := 0 }, by rw [← hA]; exact Mp.put_self _ _ _, rfl, hup, ?_, rfl, List.nodup_nil, fun j => ?_, fun j hj => by cases hj⟩
     ·
      rw [heap_alloc_get, if_pos rfl]
     ·
      refine ⟨(fun hj => by cases hj), fun ⟨y1, x, y2, y3⟩ => ?_⟩; exfalso; obtain ⟨oj, ty, m, k', v, z1, z2, z3⟩ := F.ent y2; rw [y3] at z1 z2; rcases (hDs j).1 y1 with q | q
      ·
       obtain ⟨_, ⟨_, _, _, _, u1, _⟩ | ⟨e, u1, _⟩ | ⟨_, u1, _⟩⟩ := F.cls z1 z2
       ·
        have := hI.down j _ L.m q (F.get z1 z2).2 (by rw [litOp_same.2.2]; exact u1); rw [hDm] at this; cases this
       ·
        rw [u1] at z3; cases z3
       ·
        exact u1 _ _ _ _ z3
      ·
       subst q; rw [ho] at z2; injection z2 with z2; subst z2
       rw [hop] at z3; cases z3
    ·
     rw [hDi] at hDm; cases hDm
   ·
    -- another operation
    have hie : ∀ x ∈ es, x.1 ≠ i := fun x hx e => by
     obtain ⟨o', ty, m, k', v, y1, y2, y3⟩ := F.ent hx; rw [e, ho] at y2; injection y2 with y2; subst y2
     exact hnins _ _ _ _ y3
    cases hC : C.testBit i with
    | true =>
     obtain ⟨μ', w', tmps', ds', cs', hst, hext, hI'⟩ := real_pendL (k := k) (rest := Region.linearise.go .any ops (fuel + (ops.size - L.n)) (tt / (Region.ready .any ops listed).length) (listed.setIfInBounds i true) [])
      (hcall Bx w hBx hkept) (hyld Bx w hBx hkept) F.hs hI hbd hC hDi ho hol hng hready
     have hk := hI'.h.below; have hpark' := hpark.step hext hk him hie; rw [← Dof_set hlt'] at hI' hpark'; exact (ih _ _ plan C K G S H A μ' w' tmps' ds' cs' Bx (hI'.rebase (hI'.h.rebase hI'.h.bsz hI'.h.new)) (hkept.trans (hk.mono hBx)) (Nat.le_trans hup hk.size) hBx hpark' hp he hpl hsz' hcnt' hrest').steps hst
    | false =>
     rcases hpl with rfl | ⟨i', rest, rfl⟩
     ·
      exfalso; simp only [planOk, Bool.and_eq_true] at hp; have := isIn_spec hp.1 i (by rw [F.len]; exact hin); rw [hC] at this; cases this
     ·
      simp only [planOk, Bool.and_eq_true] at hp; obtain ⟨⟨⟨⟨⟨p1, p2⟩, p3⟩, p4⟩, p5⟩, p6⟩ := hp; have hii : i = i' := by
       have := only_spec p3 i o hol; rw [Nat.zero_add] at this; rcases this with q | q | q
       ·
        rw [hC] at q; cases q
       ·
        exact q
       ·
        exfalso; have hsubm : sub (Oper.mask o) C = true := by
         unfold sub; have : Nat.land (Oper.mask o) C = Oper.mask o := by
          apply Nat.eq_of_testBit_eq
          intro j; rw [tb_and]; cases hj : (Oper.mask o).testBit j with
          | false => rfl
          | true => rw [hI.sub j (hready j hj)]; rfl
         rw [this]; simp
        rw [hsubm] at q; cases q
      subst hii; rw [nth_eq, hol] at p5; simp only [Bool.and_eq_true] at p5; have he : Option.rec (motive := fun _ => Option RegRes) none (fun o => chnStep (drawGo P call yld l rest) (one P call yld l S H o)) (nth l i) = some (.ok Sf Hf) := he; rw [nth_eq, hol] at he; have he : chnStep (drawGo P call yld l rest) (one P call yld l S H o) = some (.ok Sf Hf) := he; cases hone : one P call yld l S H o with
      | none => rw [hone] at he; cases he
      | some r1 =>
       rw [hone] at he; cases r1 with
       | pan c S1 H1 => cases he
       | ok S1 H1 =>
        have he : drawGo P call yld l rest S1 H1 = some (.ok Sf Hf) := he
        obtain ⟨μ', w', tmps', ds', cs', hst, hext, hI'⟩ := real_chainL (k := k) (rest := Region.linearise.go .any ops (fuel + (ops.size - L.n)) (tt / (Region.ready .any ops listed).length) (listed.setIfInBounds i true) [])
         (hcall Bx w hBx hkept) (hyld Bx w hBx hkept) F.hs hI hC ho hol hng hready hone rfl (fun j hj => sub_spec p5.1 hj) p5.2
        have hk := hI'.h.below; have hpark' := hpark.step hext hk him hie; rw [← Dof_set hlt'] at hI' hpark'; obtain ⟨plan', C', G', S', H', A', q1, q2, q3, q4⟩ := canon_run F.hs F.hal rest _ _ S1 H1 A (hI'.rebase (hI'.h.rebase hI'.h.bsz hI'.h.new)) p6 he; exact (ih _ _ plan' C' _ G' S' H' A' μ' w' tmps' ds' cs' Bx q1 (hkept.trans (hk.mono hBx)) (Nat.le_trans hup hk.size) hBx hpark' q2 q3 q4 hsz' hcnt' hrest').steps hst
theorem isIn_pow {mask i : Nat} (h : Nat.blt mask (Nat.pow 2 i) = true) {j : Nat} (hj : mask.testBit j = true) : j < i := by
 have h : mask < 2 ^ i := Nat.le_of_ble_eq_true h; rcases Nat.lt_or_ge j i with q | q
 ·
  exact q
 ·
  have : mask.testBit j = false := Nat.testBit_lt_two_pow (Nat.lt_of_lt_of_le h (Nat.pow_le_pow_right (by omega) q)); rw [this] at hj; cases hj
theorem evLit_sound {μ : Mp} {H : Hp} {w : World} {S : St} {tmps : Array Value} {ds : List Deferred} {cs : List Frame} (hmix : P.follows .mixedOrders = true) (hcall : CallSoundA P B w0 call) (hyld : YieldSoundA P B w0 yld) (h : HRel P B w0 μ H w) (hf : FRel μ S fr tmps ds cs) {rr : RegRes} {id : Nat} (he : evLit P call yld ops.toList S H L = some rr) :
  RegOk P B w0 μ H S fr cs (lone (fat fr tmps ds (.code (.region id ops true) :: k)) cs w) k rr := by
 unfold evLit at he; cases hok : litOk L ops.toList with
 | false => rw [hok] at he; cases he
 | true =>
  rw [hok, cond_true] at he; cases hu : P.underlying L.ty with
  | none => rw [hu] at he; cases he
  | some d =>
   rw [hu] at he; cases d with
   | map key el =>
    simp only at he; cases hkd : P.underlying key with
    | none => rw [hkd] at he; cases he
    | some kd =>
     rw [hkd] at he; simp only at he; cases hg : drawGo P call yld (litOps L (ops.toList.take L.n) 0) (planOf (litOps L (ops.toList.take L.n) 0)) S H with
     | none => rw [hg] at he; cases he
     | some r1 =>
      rw [hg] at he; cases r1 with
      | pan c S1 H1 => cases he
      | ok Sf Hf =>
       have he : (match Sf.T.get L.t with
        | some (.map (some _)) => litEnd P call yld ops.toList L Sf Hf key kd (litGo P Sf.T key (ops.toList.take L.n) 0)
        | _ => none) = some rr := he
       split at he
       ·
        rename_i a hSt; cases hes : litGo P Sf.T key (ops.toList.take L.n) 0 with
        | none => rw [hes] at he; cases he
        | some es =>
         rw [hes] at he; have he : (bif apartK P key kd es then litEnd2 P call yld ops.toList L Sf (Hf.new (.map (litEs es) es.length)) else none) = some rr := he; cases hap : apartK P key kd es with
         | false => rw [hap] at he; cases he
         | true =>
          rw [hap, cond_true] at he; cases hnew : Hf.new (.map (litEs es) es.length) with
          | none => rw [hnew] at he; cases he
          | some q =>
           obtain ⟨a2, H2⟩ := q; rw [hnew] at he; have he : litEnd3 P call yld ops.toList L H2 (Sf.put (some L.t) (.map (some a2))) = some rr := he; cases hput : Sf.put (some L.t) (.map (some a2)) with
           | none => rw [hput] at he; cases he
           | some S2 =>
            rw [hput] at he; have he : evOps P call yld ops.toList (ops.toList.drop L.n) S2 H2 = some rr := he; unfold litOk at hok; simp only [Bool.and_eq_true] at hok; obtain ⟨⟨⟨⟨k1, k2⟩, k3⟩, k4⟩, k5⟩ := hok; have k1 : L.n ≤ ops.size := by have := Nat.le_of_ble_eq_true k1; simpa using this
            have k2 : L.m < L.n := Nat.le_of_ble_eq_true k2; unfold drawOk at k3; simp only [Bool.and_eq_true] at k3; have hal : ∀ (i : Nat) o, (litOps L (ops.toList.take L.n) 0)[i]? = some o → (allocM (litOps L (ops.toList.take L.n) 0) 0).testBit i = false → isAllocOp o.op = false := fun i o ho hb => by
             cases ha : isAllocOp o.op with
             | false => rfl
             | true =>
              have := allocM_spec (k := 0) ho ha; rw [Nat.zero_add, hb] at this; cases this
            have F : LitFix P ops L (litOps L (ops.toList.take L.n) 0) (chainM (litOps L (ops.toList.take L.n) 0) (litOps L (ops.toList.take L.n) 0) 0) (allocM (litOps L (ops.toList.take L.n) 0) 0) key el kd es a Sf := by
             refine ⟨rfl, sok_of k3.1, hal, fun j o hj ho => ?_, fun j o hj ho => ?_, k1, k2, hu, hkd, hSt, hes, hap⟩
             ·
              have := allIx_spec k4 j o (by rw [List.getElem?_take, if_pos hj]; simpa using ho); rwa [Nat.zero_add] at this
             ·
              have := allIx_spec k5 (j - L.n) o (by rw [List.getElem?_drop, show L.n + (j - L.n) = j from by omega]; simpa using ho); rw [show L.n + (j - L.n) = j from by omega] at this; simp only [Bool.and_eq_true] at this; exact ⟨fun i hi => isIn_spec this.1 i hi, fun i hi => isIn_pow this.2 hi⟩
            refine RegOk.steps (.one st_draw) ?_; simp only [Region.schedule, hmix, Bool.true_or, if_true]; have hz : ∀ i, Nat.testBit 0 i = false := fun i => Nat.zero_testBit i; have hD0 : ∀ i, Dof (Array.replicate ops.size false) i = false := fun i => by
             unfold Dof; by_cases hi : i < ops.size
             ·
              simp [hi]
             ·
              simp [hi]
            have h1 : HRel P B w0 μ H { w with drawn := w.drawn + 1 } := h.drawn _; have hI : Inv P B { w with drawn := w.drawn + 1 } call yld (litOps L (ops.toList.take L.n) 0) (chainM (litOps L (ops.toList.take L.n) 0) (litOps L (ops.toList.take L.n) 0) 0) (allocM (litOps L (ops.toList.take L.n) 0) 0) μ H S fr cs 0 0 0 S H μ { w with drawn := w.drawn + 1 } tmps ds cs (Dof (Array.replicate ops.size false)) (fun _ => 0) := by
             refine ⟨h1.rebase h1.bsz h1.new, ?_, Step.refl _ _, CsRel.refl _ _ hf.hasCs, rfl, rfl, fun i hi => ?_, fun i hi => ?_, fun i o j hi => ?_, fun i o j hi => ?_, fun i hi => ?_, fun i o hi => ?_, fun i j oi oj hi => ?_⟩
             ·
              exact hf.conv rfl rfl rfl rfl rfl fun t v q => (only_get.1 q).2
             ·
              rw [hD0] at hi; cases hi
             ·
              rw [hz] at hi; cases hi
             ·
              rw [hD0] at hi; cases hi
             ·
              rw [hz] at hi; cases hi
             ·
              rw [hz] at hi; cases hi
             ·
              rw [hz] at hi; cases hi
             ·
              rw [hz] at hi; cases hi
            obtain ⟨plan', C', G', S', H', A', q1, q2, q3, q4⟩ := canon_run F.hs F.hal (planOf (litOps L (ops.toList.take L.n) 0)) _ _ S H _ hI k3.2 hg; unfold Region.linearise
            have hrun := lit_run (k := k) hcall hyld F h1 hnew hput L.n (w.tape w.drawn (.order fr.fn id)) (Array.replicate ops.size false) plan' C' _ G' S' H' A' μ _ tmps ds cs B q1 h1.below (Nat.le_refl _) (fun _ h => h) (.inl ⟨hD0 _, rfl⟩) q2 q3 q4 (by simp)
             (by simp [List.take_replicate, List.count_replicate]; omega) (fun j _ => hD0 j)
            rw [show L.n + (ops.size - L.n) = ops.size from by omega] at hrun; refine hrun.bind fun μ1 w1 tmps1 ds1 cs1 g1 _ g3 _ _ _ => ?_; have := evOps_sound (k := k) (fr := fr) (hcall B w0 (fun _ h => h) (Kept.refl _ _)) (hyld B w0 (fun _ h => h) (Kept.refl _ _)) (ops.toList.drop L.n) L.n μ1 w1 S2 H2 tmps1 ds1 cs1 rr rfl g1 g3 he; rw [List.length_drop, Array.length_toList] at this; exact this
       ·
        cases he
   | _ => cases he
end
end Go.Cre

/- A part of the proof of ResumeSaves. -/
import Derived.Test.YtmeojgcibppcmaaDoorCreX
set_option linter.unusedVariables false
set_option linter.unusedSimpArgs false
namespace Go.Cre
open Go.RowKit
noncomputable def Tr.keep {α : Type} : Tr α → (Nat → Bool) → Tr α
 | .leaf, _ => .leaf
 | .node v l r, p => .node (if p 0 then v else none) (l.keep fun k => p (2 * k + 1)) (r.keep fun k => p (2 * k + 2))
theorem Tr.get_keep {α : Type} (t : Tr α) : ∀ (p : Nat → Bool) (n : Nat), (t.keep p).get n = if p n then t.get n else none := by
 induction t with
 | leaf => intro p n; simp [Tr.keep, Tr.get_leaf]
 | node v l r ihl ihr =>
  intro p n; cases n with
  | zero => simp [Tr.keep, Tr.get_zero]
  | succ m =>
   simp only [Tr.keep, Tr.get_succ]; by_cases h : m % 2 = 0
   ·
    rw [if_pos h, if_pos h, ihl]; have : 2 * (m / 2) + 1 = m + 1 := by omega
    rw [this]
   ·
    rw [if_neg h, if_neg h, ihr]; have : 2 * (m / 2) + 2 = m + 1 := by omega
    rw [this]
theorem Tr.put_keep {α : Type} {a : α} {t : Tr α} : ∀ {t' : Tr α} {n : Nat} (p : Nat → Bool), Tr.put a t n = some t' → ∃ t'', Tr.put a (t.keep p) n = some t'' := by
 induction t with
 | leaf =>
  intro t' n p h; exact ⟨t', h⟩
 | node v l r ihl ihr =>
  intro t' n p h; cases n with
  | zero => exact ⟨_, rfl⟩
  | succ m =>
   simp only [Tr.keep]; rw [Tr.put_succ] at h ⊢; by_cases hm : m % 2 = 0
   ·
    rw [if_pos hm] at h ⊢; cases hl : Tr.put a l (m / 2) with
    | none => rw [hl] at h; cases h
    | some l' => obtain ⟨l'', e⟩ := ihl (fun k => p (2 * k + 1)) hl; rw [e]; exact ⟨_, rfl⟩
   ·
    rw [if_neg hm] at h ⊢; cases hr : Tr.put a r (m / 2) with
    | none => rw [hr] at h; cases h
    | some r' => obtain ⟨r'', e⟩ := ihr (fun k => p (2 * k + 2)) hr; rw [e]; exact ⟨_, rfl⟩
noncomputable def St.only (S : St) (p : Nat → Bool) : St := ⟨S.T.keep p, S.n, S.ds, S.dfd, S.um, S.rnd⟩
theorem St.put_eq {S S' : St} {dst : Option Tmp} {v : Value} (he : S.put dst v = some S') :
  S'.n = S.n ∧ S'.ds = S.ds ∧ S'.dfd = S.dfd ∧ S'.um = S.um ∧ S'.rnd = S.rnd ∧ ∀ t, S'.T.get t = if dst = some t then some v else S.T.get t := by
 cases dst with
 | none =>
  have he : some S = some S' := he; injection he with he; subst he
  exact ⟨rfl, rfl, rfl, rfl, rfl, fun t => by simp⟩
 | some d =>
  obtain ⟨T, n, dss, dfd, um, rnd⟩ := S; have he : Bool.rec (motive := fun _ => Option St) none (St.put3 n dss dfd um rnd (Tr.put v T d)) (Nat.ble (Nat.succ d) n) = some S' := he; cases hb : Nat.ble (Nat.succ d) n with
  | false => rw [hb] at he; cases he
  | true =>
   rw [hb] at he; have he : St.put3 n dss dfd um rnd (Tr.put v T d) = some S' := he; cases hp : Tr.put v T d with
   | none => rw [hp] at he; cases he
   | some T' =>
    rw [hp] at he; have he : some (St.mk T' n dss dfd um rnd) = some S' := he; injection he with he; subst he
    refine ⟨rfl, rfl, rfl, rfl, rfl, fun t => ?_⟩; show T'.get t = _; rw [Tr.get_put hp]; by_cases h : t = d
    ·
     subst h; simp
    ·
     rw [if_neg h, if_neg (fun q => h (by injection q with q; exact q.symm))]
theorem St.put_only {S S' : St} {dst : Option Tmp} {v : Value} (p : Nat → Bool) (he : S.put dst v = some S') : ∃ S'', (S.only p).put dst v = some S'' := by
 cases dst with
 | none => exact ⟨_, rfl⟩
 | some d =>
  obtain ⟨T, n, dss, dfd, um, rnd⟩ := S; have he : Bool.rec (motive := fun _ => Option St) none (St.put3 n dss dfd um rnd (Tr.put v T d)) (Nat.ble (Nat.succ d) n) = some S' := he; show ∃ S'', Bool.rec (motive := fun _ => Option St) none (St.put3 n dss dfd um rnd (Tr.put v (T.keep p) d)) (Nat.ble (Nat.succ d) n) = some S''; cases hb : Nat.ble (Nat.succ d) n with
  | false => rw [hb] at he; cases he
  | true =>
   rw [hb] at he; have he : St.put3 n dss dfd um rnd (Tr.put v T d) = some S' := he; cases hp : Tr.put v T d with
   | none => rw [hp] at he; cases he
   | some T' =>
    obtain ⟨T'', e⟩ := Tr.put_keep p hp; rw [e]; exact ⟨_, rfl⟩
section
variable {P : Program} {H : Hp} {T T' : Tr Value} {ops : List Oper} {o : Oper}
theorem looks_operand {t : Tmp} (h : Operand.tmp t ∈ o.op.operands) : t ∈ looks ops o := by
 unfold looks; exact List.mem_append_left _ (List.mem_filterMap.2 ⟨.tmp t, by simpa using h, rfl⟩)
theorem opd_looks (h : ∀ t ∈ looks ops o, T'.get t = T.get t) : ∀ x ∈ o.op.operands, opd T' H x = opd T H x := fun x hx => by
 cases x with
 | tmp t => exact h t (looks_operand hx)
 | const c => rfl
 | global g => rfl
 | func f => rfl
theorem opdT_looks (h : ∀ t ∈ looks ops o, T'.get t = T.get t) : ∀ x ∈ o.op.operands, opdT T' x = opdT T x := fun x hx => by
 cases x with
 | tmp t => exact h t (looks_operand hx)
 | const c => rfl
 | global g => rfl
 | func f => rfl
theorem guard_looks (h : ∀ t ∈ looks ops o, T'.get t = T.get t) : guardB ops T' o = guardB ops T o := by
 unfold guardB; cases hg : o.guard with
 | none => rfl
 | some q =>
  obtain ⟨j, want⟩ := q; show guardC ops T' (j, want) = guardC ops T (j, want); unfold guardC; simp only
  cases hn : nth ops j with
  | none => rfl
  | some p =>
   simp only
   cases hd : p.dst with
   | none => rfl
   | some d =>
    simp only
    rw [h d (by unfold looks; rw [hg]; simp only [hn, hd]; exact List.mem_append_right _ (by simp))]
theorem pairsT_congr : ∀ {l : List (Nat × Operand)}, (∀ x ∈ l.map (·.2), opdT T' x = opdT T x) → pairsT T' l = pairsT T l := by
 intro l; induction l with
 | nil => intro _; rfl
 | cons x l ih =>
  intro h; obtain ⟨i, x⟩ := x; simp only [pairsT]; rw [h x (by simp), ih fun y hy => h y (by simp at hy ⊢; exact .inr hy)]
theorem allocOf_looks (h : ∀ t ∈ looks ops o, T'.get t = T.get t) : allocOf P T' o.op = allocOf P T o.op := by
 have h := opdT_looks h; cases ho : o.op <;> rw [ho] at h <;> simp only [Op.operands] at h <;> simp only [allocOf]
 case box e x => rw [h x (by simp)]
 case buildSlice t n ps => rw [pairsT_congr fun x hx => h x (by simpa using hx)]
 case makeSlice t l c => rw [h l (by simp), h c (by simp)]
 case makeMap t r => cases r <;> rfl
end
theorem all2_eq {f : Value → Value → Bool} (hf : ∀ x y, f x y = true → x = y) : ∀ {l m : List Value}, all2 f l m = true → l = m := by
 intro l; induction l with
 | nil => intro m h; cases m with
  | nil => rfl
  | cons => cases h
 | cons x l ih => intro m h; cases m with
  | nil => cases h
  | cons y m =>
   simp only [all2, Bool.and_eq_true] at h; rw [hf x y h.1, ih h.2]
theorem addrEq_eq {a b : Option Addr} (h : addrEq a b = true) : a = b := by
 unfold addrEq at h; split at h
 ·
  rfl
 ·
  simp only [Bool.and_eq_true] at h; rw [Nat.eq_of_beq_eq_true h.1, Nat.eq_of_beq_eq_true h.2]
 ·
  rfl
 ·
  cases h
theorem veq_eq : ∀ {n : Nat} {a b : Value}, veq n a b = true → a = b := by
 intro n; induction n with
 | zero => intro a b h; cases h
 | succ n ih =>
  intro a b h; have arr : ∀ {x y : Array Value}, all2 (veq n) x.toList y.toList = true → x = y := fun q => Array.ext' (all2_eq (fun _ _ z => ih z) q); unfold veq at h; split at h
  ·
   rename_i a b; cases a <;> cases b <;> first | rfl | cases h
  ·
   simp only [Bool.and_eq_true] at h; rw [kindEq_eq h.1]; have := h.2; rw [intEq_eq] at this; rw [eq_of_beq this]
  ·
   rename_i a b; have := of_decide_eq_true h; obtain ⟨⟨x⟩⟩ := a; obtain ⟨⟨y⟩⟩ := b; simp at this; rw [this]
  ·
   rw [addrEq_eq h]
  ·
   simp only [Bool.and_eq_true] at h; rw [addrEq_eq h.1.1, Nat.eq_of_beq_eq_true h.1.2, Nat.eq_of_beq_eq_true h.2]
  ·
   rename_i a b; cases a <;> cases b <;> simp only [natOEq] at h <;> first | rfl | cases h | (rw [Nat.eq_of_beq_eq_true h])
  ·
   rfl
  ·
   rfl
  ·
   simp only [Bool.and_eq_true] at h; rw [Nat.eq_of_beq_eq_true h.1, ih h.2]
  ·
   rw [arr h]
  ·
   rw [arr h]
  ·
   simp only [Bool.and_eq_true] at h; rename_i f a b g c d; have : f = g := by
    have := h.1.1; unfold fnEq at this; split at this
    ·
     rw [Nat.eq_of_beq_eq_true this]
    ·
     cases this
   rw [this, arr h.1.2, arr h.2]
  ·
   cases h
section
variable {P : Program} {B : Nat → Prop} {w0 w : World} {μ : Mp} {H H' : Hp}
theorem HRel.phantom (h : HRel P B w0 μ H w) {a : Nat} {b : Blk} (hn : H.new b = some (a, H')) (ho : isOpen (some b) = false) : HRel P B w0 μ H' w := by
 obtain ⟨rfl, e1, e2, e3, e4, e5⟩ := Hp.new_eq hn; have old : ∀ x L, μ x = some L → H'.mem.get x = H.mem.get x := fun x L hx => by
  have := h.lt x L hx; rw [e5, if_neg (by omega)]
 refine ⟨h.below, h.bsz, ?_, ?_, ?_, ?_, ?_, ?_, ?_, ?_, ?_, ?_⟩
 ·
  intro x L hx; obtain ⟨b', o', h1, h2, h3⟩ := h.blk x L hx; exact ⟨b', o', by rw [old x L hx]; exact h1, h2, h3⟩
 ·
  intro x y L1 L2 hxy hx hy hrr; rcases h.sep x y L1 L2 hxy hx hy hrr with d | d | ⟨f, l, ⟨c, e, z, s, q⟩, ⟨c', e', z', s', q'⟩, hl, m1, m2⟩
  ·
   exact .inl (by rw [old x L1 hx]; exact d)
  ·
   exact .inr (.inl (by rw [old y L2 hy]; exact d))
  ·
   exact .inr (.inr ⟨f, l, ⟨c, e, z, s, by rw [old x L1 hx]; exact q⟩, ⟨c', e', z', s', by rw [old y L2 hy]; exact q'⟩, by rw [e2]; exact hl, m1, m2⟩)
 ·
  intro x L hx; have := h.lt x L hx; omega
 ·
  intro x L hx hg; exact h.own x L hx (by omega)
 ·
  intro x L hx hg hnd; exact h.new x L hx (by omega) (by rw [old x L hx] at hnd; exact hnd)
 ·
  intro g c e o f z s hg hm; have hgn : g ≠ H.nx := by have := h.glt; omega
  rw [e5, if_neg hgn] at hm; exact h.glob g c e o f z s (by omega) hm
 ·
  have := h.glt; omega
 ·
  intro x c e f z s hm; rw [e5] at hm; split at hm
  ·
   injection hm with hm; rw [hm] at ho; simp [isOpen] at ho
  ·
   rw [e3]; exact h.famLt x c e f z s hm
 ·
  intro f l x hl hx; rw [e2] at hl; obtain ⟨a, d⟩ := h.famMem f l x hl hx; refine ⟨by omega, ?_⟩; rw [e5, if_neg (by omega)]; exact d
 ·
  intro f l hl; rw [e2] at hl; refine (h.famSort f l hl).imp_of_mem ?_; intro x y hx hy hxy c e f1 z s c' e' f' z' s' q q'; have hx' := (h.famMem f l x hl hx).1; have hy' := (h.famMem f l y hl hy).1; rw [e5, if_neg (by omega)] at q q'; exact hxy c e _ z s c' e' f' z' s' q q'
theorem HRel.fill (h : HRel P B w0 μ H w) {a : Nat} {b : Blk} {o : Obj} {L : Loc} (hm : μ a = none) (hlt : a < H.nx) (hg : H.glo ≤ a) (hb0 : H.mem.get a = some b) (hr : L.r = w.heap.size) (hb : BRel P μ L b o) :
  HRel P B w0 (μ.put a L) H (w.alloc o) ∧ Ext μ (μ.put a L) := by
 have hext : Ext μ (μ.put a L) := fun id L' hx => by
  by_cases e : id = a
  ·
   subst e; rw [hm] at hx; cases hx
  ·
   rw [Mp.put_other _ _ e]; exact hx
 have old : ∀ x L', (μ.put a L) x = some L' → x ≠ a → μ x = some L' := fun x L' q b => by rwa [Mp.put_other _ _ b] at q
 have hltw : ∀ x L', μ x = some L' → L'.r < w.heap.size := fun x L' hx => by
  obtain ⟨b', o', _, ho, _⟩ := h.blk x L' hx; rcases Nat.lt_or_ge L'.r w.heap.size with hh | hh
  ·
   exact hh
  ·
   rw [Array.getElem?_eq_none hh] at ho; cases ho
 refine ⟨⟨h.below.alloc h.bsz o, ?_, ?_, ?_, ?_, ?_, ?_, ?_, h.glt, h.famLt, h.famMem, h.famSort⟩, hext⟩
 ·
  intro k hk; have := h.bsz k hk; show k < (w.heap.push o).size; rw [Array.size_push]; omega
 ·
  intro x L' hx; by_cases hxn : x = a
  ·
   subst hxn; rw [Mp.put_self] at hx; injection hx with hx; subst hx
   exact ⟨b, o, hb0, by rw [heap_alloc_get, hr]; simp, hb.mono hext⟩
  ·
   have hx' := old x L' hx hxn; obtain ⟨b', o', h1, h2, h3⟩ := h.blk x L' hx'; exact ⟨b', o', h1, by rw [heap_alloc_get, if_neg (by have := hltw x L' hx'; omega)]; exact h2, h3.mono hext⟩
 ·
  intro x y L1 L2 hxy hx hy hrr; by_cases hxn : x = a
  ·
   subst hxn; rw [Mp.put_self] at hx; injection hx with hx; subst hx
   have := hltw y L2 (old y L2 hy (Ne.symm hxy)); omega
  ·
   by_cases hyn : y = a
   ·
    subst hyn; rw [Mp.put_self] at hy; injection hy with hy; subst hy
    have := hltw x L1 (old x L1 hx hxn); omega
   ·
    exact h.sep x y L1 L2 hxy (old x L1 hx hxn) (old y L2 hy hyn) hrr
 ·
  intro x L' hx; by_cases hxn : x = a
  ·
   omega
  ·
   exact h.lt x L' (old x L' hx hxn)
 ·
  intro x L' hx hg'; have hxn : x ≠ a := by omega
  exact h.own x L' (old x L' hx hxn) hg'
 ·
  intro x L' hx hg' hnd; by_cases hxn : x = a
  ·
   subst hxn; rw [Mp.put_self] at hx; injection hx with hx; subst hx
   rw [hr]; exact fun q => Nat.lt_irrefl _ (h.bsz _ q)
  ·
   exact h.new x L' (old x L' hx hxn) hg' hnd
 ·
  intro g c e o f z s hg' hm'; obtain ⟨L', hL⟩ := h.glob g c e o f z s hg' hm'; exact ⟨L', hext _ _ hL⟩
theorem HRel.fillSame (h : HRel P B w0 μ H w) {a : Nat} {b : Blk} {o : Obj} {L : Loc} (hm : μ a = none) (hlt : a < H.nx) (hg : H.glo ≤ a) (hb0 : H.mem.get a = some b) (hr : w.heap[L.r]? = some o) (hB : ¬ B L.r)
  (hone : ∀ id L', μ id = some L' → L'.r = L.r → H.mem.get id = some .dead) (hb : BRel P μ L b o) :
  HRel P B w0 (μ.put a L) H w ∧ Ext μ (μ.put a L) := by
 have hext : Ext μ (μ.put a L) := fun id L' hx => by
  by_cases e : id = a
  ·
   subst e; rw [hm] at hx; cases hx
  ·
   rw [Mp.put_other _ _ e]; exact hx
 have old : ∀ x L', (μ.put a L) x = some L' → x ≠ a → μ x = some L' := fun x L' q b => by rwa [Mp.put_other _ _ b] at q
 refine ⟨⟨h.below, h.bsz, ?_, ?_, ?_, ?_, ?_, ?_, h.glt, h.famLt, h.famMem, h.famSort⟩, hext⟩
 ·
  intro x L' hx; by_cases hxn : x = a
  ·
   subst hxn; rw [Mp.put_self] at hx; injection hx with hx; subst hx
   exact ⟨b, o, hb0, hr, hb.mono hext⟩
  ·
   have hx' := old x L' hx hxn; obtain ⟨b', o', h1, h2, h3⟩ := h.blk x L' hx'; exact ⟨b', o', h1, h2, h3.mono hext⟩
 ·
  intro x y L1 L2 hxy hx hy hrr; by_cases hxn : x = a
  ·
   subst hxn; rw [Mp.put_self] at hx; injection hx with hx; subst hx
   exact .inr (.inl (hone y L2 (old y L2 hy (Ne.symm hxy)) hrr.symm))
  ·
   by_cases hyn : y = a
   ·
    subst hyn; rw [Mp.put_self] at hy; injection hy with hy; subst hy
    exact .inl (hone x L1 (old x L1 hx hxn) hrr)
   ·
    exact h.sep x y L1 L2 hxy (old x L1 hx hxn) (old y L2 hy hyn) hrr
 ·
  intro x L' hx; by_cases hxn : x = a
  ·
   omega
  ·
   exact h.lt x L' (old x L' hx hxn)
 ·
  intro x L' hx hg'; have hxn : x ≠ a := by omega
  exact h.own x L' (old x L' hx hxn) hg'
 ·
  intro x L' hx hg' hnd; by_cases hxn : x = a
  ·
   subst hxn; rw [Mp.put_self] at hx; injection hx with hx; subst hx
   exact hB
  ·
   exact h.new x L' (old x L' hx hxn) hg' hnd
 ·
  intro g c e o f z s hg' hm'; obtain ⟨L', hL⟩ := h.glob g c e o f z s hg' hm'; exact ⟨L', hext _ _ hL⟩
theorem row_rel {cells cells' : List Value} {elem : TypeId} (hc : LRel μ cells cells') (r : Nat) : BRel P μ ⟨r, cells.length, P.cellsOf elem⟩ (.row cells elem false 0 0 false) (.cells cells'.toArray elem) :=
 ⟨rfl, by simp [hc.1], rfl, Nat.le_refl _, fun _ => rfl, fun i v v' a b => hc.2 i v v' a (by simpa using b), fun off _ h1 h2 => by simp at h2, fun _ => .inl rfl⟩
noncomputable def AV.ok : AV → Bool
 | .slc _ c => decide (c < openCap)
 | _ => true
theorem AV.rel {kv : AV} (h : kv.ok = true) {a : Nat} {L : Loc} (hm : μ a = some L) : VRel μ (kv.at a) (kv.at L.r) := by
 cases kv with
 | ptr => exact .ptr a 0 L hm
 | slc l c => exact .sliceE a 0 l c L hm (of_decide_eq_true h)
 | map => exact .map a L hm
def AllocRun (P : Program) (μ : Mp) (w : World) (s : Sem Value) (b : Blk) (kv : AV) : Prop :=
 ∃ ob N sz, s.run P w = .ok (kv.at w.heap.size) (w.alloc ob) ∧ BRel P μ ⟨w.heap.size, N, sz⟩ b ob ∧ isOpen (some b) = false ∧ kv.ok = true
theorem allocBox_real {elem : TypeId} {v v' : Value} {b : Blk} {kv : AV} (hv : VRel μ v v') (he : allocBox elem v = some (b, kv)) (w : World) : AllocRun P μ w (Instr.box elem v') b kv := by
 unfold allocBox at he; cases ho : v.cells.toList.all oneCell with
 | false => rw [ho] at he; cases he
 | true =>
  rw [ho, cond_true] at he; simp only [Option.some.injEq, Prod.mk.injEq] at he; obtain ⟨rfl, rfl⟩ := he; refine ⟨_, _, _, ?_, row_rel hv.cells _, rfl, rfl⟩; simp [Instr.box, newVar, newRow, newObj, Sem.run, AV.at]
theorem allocMake_real {t : TypeId} {l l' c c' : Value} {b : Blk} {kv : AV} (hl : VRel μ l l') (hc : VRel μ c c') (he : allocMake P t l c = some (b, kv)) (w : World) : AllocRun P μ w (Instr.makeSlice t l' c') b kv := by
  unfold allocMake at he; cases l with
  | int k1 l =>
    cases c with
    | int k2 c =>
      obtain rfl := hl.int_inv; obtain rfl := hc.int_inv; cases hu : P.underlying t with
      | none => rw [hu] at he; simp at he
      | some d =>
        rw [hu] at he; cases d with
        | slice elem =>
          simp only at he; cases hz : zeroT P elem with
          | none => rw [hz] at he; simp at he
          | some z =>
            rw [hz] at he; cases hby : bytesT P elem with
            | none => rw [hby] at he; simp at he
            | some by_ =>
              rw [hby] at he; cases hs : sizeT P elem with
              | none => rw [hs] at he; simp at he
              | some sz =>
                rw [hs] at he; simp only at he; cases hc' : intUp c 1000000 with
                | none => rw [hc'] at he; simp at he
                | some cn =>
                  rw [hc'] at he; cases hl' : intUp l 1000000 with
                  | none => rw [hl'] at he; simp at he
                  | some ln =>
                    rw [hl'] at he; simp only at he; cases hcond : (Nat.ble ln cn && Nat.ble by_ 1000000 && Nat.beq z.cells.toList.length sz && z.cells.toList.all oneCell && plain z) with
                    | false => rw [hcond] at he; simp at he
                    | true =>
                      rw [hcond, cond_true] at he; simp only [Bool.and_eq_true] at hcond; obtain ⟨⟨⟨⟨q1, q2⟩, q3⟩, q4⟩, q5⟩ := hcond; have q1 := Nat.le_of_ble_eq_true q1; have q2 := Nat.le_of_ble_eq_true q2; have q3 := Nat.eq_of_beq_eq_true q3; obtain ⟨rfl, hc2⟩ := intUp_spec hc'; obtain ⟨rfl, hl2⟩ := intUp_spec hl'; simp only [Option.some.injEq, Prod.mk.injEq] at he; obtain ⟨rfl, rfl⟩ := he; have hzr : LRel μ z.cells.toList z.cells.toList := (plain_rel q5).cells; have hcells : LRel μ (zeroCellsL z.cells.toList cn) (zeroCellsL z.cells.toList cn) := LRel.self_of fun v hv => by
                        exact zeroCellsL_mem (p := fun v => VRel μ v v) hv (fun u hu => by
                          obtain ⟨i, hi⟩ := List.mem_iff_getElem?.1 hu; exact hzr.2 i u u hi hi)
                      refine ⟨_, _, _, ?_, row_rel hcells _, rfl, decide_eq_true (by have : (1000000 : Nat) < openCap := by decide
                                                                                     omega)⟩
                      obtain ⟨i, hi, rfl⟩ := bytesT_run hby
                      have hzz : i.zero = some z := by simpa [zeroT, hi] using hz
                      have hss : i.size = sz := by simpa [sizeT, hi] using hs
                      have hmul : i.bytes * cn ≤ 1000000 * 1000000 := Nat.mul_le_mul q2 hc2; have hz2 := zeroCells_eq z.cells.toList cn; have hrun := run_make (P := P) w t elem i z hu hi hzz k1 k2 (ln : Int) (cn : Int) (by omega) (by omega) (by
                        have : (i.bytes : Int) * (cn : Int) = ((i.bytes * cn : Nat) : Int) := by simp
                        rw [this]; omega) (by omega)
                      rw [hrun]; simp only [Int.toNat_natCast, AV.at]; congr 3
                      rw [← hz2]; simp [madeCells, hss, ← q3]
        | _ => simp at he
    | _ => simp at he
  | _ => simp at he

theorem allocBuild_real {t : TypeId} {len : Nat} {parts parts' : List (Nat × Value)} {b : Blk} {kv : AV} (hp : PRel μ parts parts') (he : allocBuild P t len parts = some (b, kv)) (w : World) : AllocRun P μ w (Instr.buildSlice t len parts'.toArray) b kv := by
  unfold allocBuild at he; cases hu : P.underlying t with
  | none => rw [hu] at he; simp at he
  | some d =>
    rw [hu] at he; cases d with
    | slice elem =>
      simp only at he; cases hs : sizeT P elem with
      | none => rw [hs] at he; simp at he
      | some sz =>
        rw [hs] at he; cases hz : zeroT P elem with
        | none => rw [hz] at he; simp at he
        | some z =>
          rw [hz] at he; simp only at he; cases hc : (Nat.ble len 100000 && Nat.ble (len * sz) 100000 && plain z && Nat.beq z.cells.toList.length sz) with
          | false => rw [hc] at he; simp at he
          | true =>
            rw [hc, cond_true] at he; simp only [Bool.and_eq_true] at hc; obtain ⟨⟨⟨q0, q1⟩, q2⟩, q3⟩ := hc; have q0 := Nat.le_of_ble_eq_true q0; have q1 := Nat.le_of_ble_eq_true q1; have q3 := Nat.eq_of_beq_eq_true q3; cases hf : fillA (fun i => some (i * sz, sz)) (zeroCellsL z.cells.toList len) parts with
            | none => rw [hf] at he; simp at he
            | some cells =>
              rw [hf] at he; simp only at he; cases ho : cells.all oneCell with
              | false => rw [ho] at he; simp at he
              | true =>
                rw [ho, cond_true] at he; simp only [Option.some.injEq, Prod.mk.injEq] at he; obtain ⟨rfl, rfl⟩ := he; have hzr : LRel μ z.cells.toList z.cells.toList := (plain_rel q2).cells; have hcells : LRel μ (zeroCellsL z.cells.toList len) (zeroCellsL z.cells.toList len) := LRel.self_of fun v hv =>
                  zeroCellsL_mem (p := fun v => VRel μ v v) hv (fun u hu => by
                    obtain ⟨i, hi⟩ := List.mem_iff_getElem?.1 hu; exact hzr.2 i u u hi hi)
                obtain ⟨r', a, b⟩ := fill_sound hp hcells hf
                refine ⟨_, _, _, ?_, row_rel b _, rfl, decide_eq_true (by have : (100000 : Nat) < openCap := by decide
                                                                          omega)⟩
                have hz2 := zeroCells_eq z.cells.toList len; have hzsz : z.cells.size = sz := by simpa using q3
                have hbig : ¬ (16777216 < len * sz) := by omega
                rw [q3] at hz2; simp only [Array.toArray_toList] at hz2; by_cases h0 : len * sz = 0
                · have hl0 : zeroCellsL z.cells.toList len = [] := List.length_eq_zero_iff.1 (by rw [zeroCellsL_length, q3]; exact h0)
                  rw [hl0] at a; have a' : Instr.fill (fun i => some (i * sz, sz)) (Array.map (fun _ => (default : Value)) (Array.range 0)) parts' = some r'.toArray := by
                    have e0 : Array.map (fun _ : Nat => (default : Value)) (Array.range 0) = #[] := by simp
                    rw [e0]; exact a
                  simp [Instr.buildSlice, und_run hu, sizeT_run hs, h0, a', newRow, newObj, Sem.run, AV.at]
                · have a' : Instr.fill (fun i => some (i * sz, sz)) ((Array.range (len * sz)).map fun i => z.cells[i % z.cells.size]!) parts' = some r'.toArray := by rw [hz2]; exact a
                  simp [Instr.buildSlice, und_run hu, sizeT_run hs, hbig, h0, zeroT_run hz, a', newRow, newObj, Sem.run, AV.at]
    | _ => simp at he

theorem opdT_sound {T : Tr Value} {n : Nat} {tmps : Array Value} (ht : TRel μ T n tmps) {x : Operand} {v : Value} (he : opdT T x = some v) : VRel μ v (rho tmps x) := by
 cases x with
 | tmp t => exact ht.2 t v he
 | const c =>
  have he : (bif plain c then some c else none) = some v := he; cases hp : plain c with
  | false => rw [hp] at he; simp at he
  | true => rw [hp] at he; simp at he; subst he; exact plain_rel hp
 | global g => cases he
 | func f =>
  have he : some (Value.func (.func f) #[] #[]) = some v := he; injection he with he; subst he
  exact .func _ _ _ _ _ rfl rfl rfl (fun i v v' q => by simp at q) (fun i v v' q => by simp at q)
theorem pairsT_sound {T : Tr Value} {n : Nat} {tmps : Array Value} (ht : TRel μ T n tmps) : ∀ {l : List (Nat × Operand)} {ps : List (Nat × Value)}, pairsT T l = some ps → PRel μ ps (l.map fun (i, x) => (i, rho tmps x)) := by
 intro l; induction l with
 | nil => intro ps h; simp [pairsT] at h; subst h; exact ⟨rfl, fun i p p' q => by simp at q⟩
 | cons x l ih =>
  intro ps h; obtain ⟨i, x⟩ := x; simp only [pairsT] at h; cases h1 : opdT T x with
  | none => rw [h1] at h; cases h
  | some v =>
   rw [h1] at h; cases h2 : pairsT T l with
   | none => rw [h2] at h; cases h
   | some r =>
    rw [h2] at h; injection h with h; subst h
    have := ih h2; refine ⟨by simp [this.1], fun j p p' q q' => ?_⟩; cases j with
    | zero => simp at q q'; subst q; subst q'; exact ⟨rfl, opdT_sound ht h1⟩
    | succ j => exact this.2 j p p' (by simpa using q) (by simpa using q')
theorem litMake_spec {t : TypeId} {r : Operand} {b : Blk} {kv : AV} (he : litMake P t r = some (b, kv)) : b = .dead ∧ kv = .map ∧ r = .const (.int .i64 (.ofNat 0)) ∧ ∃ key el, P.underlying t = some (.map key el) := by
 unfold litMake at he; split at he
 ·
  cases hu : P.underlying t with
  | none => rw [hu] at he; cases he
  | some d =>
   rw [hu] at he; cases d with
   | map a c =>
    simp only [Option.some.injEq, Prod.mk.injEq] at he; exact ⟨he.1.symm, he.2.symm, rfl, a, c, rfl⟩
   | _ => cases he
 ·
  cases he
theorem alloc_real {T : Tr Value} {n : Nat} {tmps : Array Value} {o : Oper} {b : Blk} {kv : AV} (ht : TRel μ T n tmps) (he : allocOf P T o.op = some (b, kv)) (w : World) :
  ∃ ob N sz, (execOp (rho tmps) o).run P w = .ok (.value (kv.at w.heap.size)) (w.alloc ob) ∧ BRel P μ ⟨w.heap.size, N, sz⟩ b ob ∧ isOpen (some b) = false ∧ kv.ok = true := by
 cases ho : o.op <;> rw [ho] at he <;> simp only [allocOf] at he
 case alloc elem =>
  cases hz : zeroT P elem with
  | none => rw [hz] at he; cases he
  | some z =>
   rw [hz] at he; cases hp : plain z with
   | false => simp only [hp] at he; cases he
   | true =>
    simp only [hp, cond_true] at he; obtain ⟨ob, N, sz, a1, a2, a3, a4⟩ := allocBox_real (P := P) (plain_rel (μ := μ) hp) he w; refine ⟨ob, N, sz, ?_, a2, a3, a4⟩; have : (Instr.alloc elem true (.tuple #[])).run P w = .ok (kv.at w.heap.size) (w.alloc ob) := by simpa [Instr.alloc, Instr.box, zeroT_run hz] using a1
    simp [execOp, ho, this]
 case box elem x =>
  cases hx : opdT T x with
  | none => rw [hx] at he; cases he
  | some v =>
   rw [hx] at he; obtain ⟨ob, N, sz, a1, a2, a3, a4⟩ := allocBox_real (P := P) (opdT_sound ht hx) he w; exact ⟨ob, N, sz, by simp [execOp, ho, a1], a2, a3, a4⟩
 case buildSlice t len parts =>
  cases hx : pairsT T parts.toList with
  | none => rw [hx] at he; cases he
  | some ps =>
   rw [hx] at he; obtain ⟨ob, N, sz, a1, a2, a3, a4⟩ := allocBuild_real (P := P) (pairsT_sound ht hx) he w; have e1 : (parts.toList.map fun (i, x) => (i, rho tmps x)).toArray = parts.map fun (i, x) => (i, rho tmps x) := by apply Array.ext'; simp
   rw [e1] at a1; exact ⟨ob, N, sz, by simp [execOp, ho, a1], a2, a3, a4⟩
 case makeMap t r =>
  cases r with
  | some r =>
   obtain ⟨rfl, rfl, rfl, key, el, hu⟩ := litMake_spec (show litMake P t r = some (b, kv) from he); exact ⟨.map #[] 0, 0, 0, by simp [execOp, ho, Instr.makeMap, newObj, Sem.run, AV.at, und_run hu, rho, asInt, asIntOf], trivial, rfl, rfl⟩
  | none =>
   simp only [Option.some.injEq, Prod.mk.injEq] at he; obtain ⟨rfl, rfl⟩ := he; exact ⟨.map #[] 0, 0, 0, by simp [execOp, ho, Instr.makeMap, newObj, Sem.run, AV.at], ERel.nil _, rfl, rfl⟩
 case makeSlice t l c =>
  cases h1 : opdT T l with
  | none => rw [h1] at he; cases he
  | some lv =>
   cases h2 : opdT T c with
   | none => rw [h1, h2] at he; cases he
   | some cv =>
    rw [h1, h2] at he; obtain ⟨ob, N, sz, a1, a2, a3, a4⟩ := allocMake_real (P := P) (opdT_sound ht h1) (opdT_sound ht h2) he w; exact ⟨ob, N, sz, by simp [execOp, ho, a1], a2, a3, a4⟩
 all_goals cases he
end
end Go.Cre

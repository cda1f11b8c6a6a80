/- A part of a verified evaluator of closed calls: see YthfgeapiahhjlaaGreatDoorCreZ. -/
import Derived.Test.YthfgeapiahhjlaaGreatDoorCreZ2
set_option linter.unusedVariables false
set_option linter.unusedSimpArgs false
namespace Go.Cre
open Go.RowKit

/-! ### A state of the evaluator, cut down to what is still needed, as a text's literal -/
noncomputable def inL (ids : List Nat) (i : Nat) : Bool := List.rec (motive := fun _ => Bool) false (fun x _ ih => Bool.rec (motive := fun _ => Bool) ih true (Nat.beq x i)) ids

noncomputable def vIn (p : Nat → Bool) : Nat → Value → Bool
  | 0, _ => false
  | n + 1, v => match v with
    | .bool _ => true
    | .int _ _ => true
    | .string _ => true
    | .nilFunc => true
    | .nilIface => true
    | .pointer none => true
    | .slice none _ _ => true
    | .map none => true
    | .pointer (some a) => p a.block
    | .slice (some a) _ _ => p a.block
    | .map (some r) => p r
    | .iface _ v => vIn p n v
    | .agg cs => cs.toList.all (vIn p n)
    | .tuple cs => cs.toList.all (vIn p n)
    | .func f a b => notYield f && a.toList.all (vIn p n) && b.toList.all (vIn p n)
    | _ => false

noncomputable def bIn (p : Nat → Bool) : Blk → Bool
  | .row cells _ _ _ _ _ => cells.all (vIn p 8)
  | .map es _ => es.all fun e => vIn p 8 e.val
  | _ => false

noncomputable def entEq : List MapEntry → List MapEntry → Bool
  | [], [] => true
  | x :: l, y :: m => veq 8 x.key y.key && veq 8 x.val y.val && Nat.beq x.born y.born && entEq l m
  | _, _ => false
noncomputable def bEq : Blk → Blk → Bool
  | .row c e o f z s, .row c' e' o' f' z' s' => all2 (veq 8) c c' && Nat.beq e e' && boolEq o o' && Nat.beq f f' && Nat.beq z z' && boolEq s s'
  | .map es k, .map es' k' => entEq es es' && Nat.beq k k'
  | _, _ => false
noncomputable def natsEq : List Nat → List Nat → Bool
  | [], [] => true
  | x :: l, y :: m => Nat.beq x y && natsEq l m
  | _, _ => false

structure Snap where
  n : Nat
  live : List (Nat × Value)
  nx : Nat
  nf : Nat
  glo : Nat
  blks : List (Nat × Blk)
  fams : List (Nat × List Nat)
  dT : Nat
  dM : Nat
  dF : Nat

noncomputable def layG {α : Type} (T : Tr α) : List (Nat × α) → Tr α
  | [] => T
  | (g, b) :: l => match Tr.put b (layG T l) g with
    | some T' => T'
    | none => layG T l
noncomputable def Tr.nones {α : Type} (d : Nat) : Tr α := Nat.rec (motive := fun _ => Tr α) .leaf (fun _ t => .node none t t) d

noncomputable def Snap.S (A : Snap) : St := ⟨layG (Tr.nones A.dT) A.live, A.n, [], false, .run, none⟩
noncomputable def Snap.H (A : Snap) : Hp := ⟨layG (Tr.full .dead A.dM) A.blks, A.nx, layG (Tr.full [] A.dF) A.fams, A.nf, A.glo⟩
noncomputable def Snap.ids (A : Snap) : List Nat := A.blks.map (·.1)

noncomputable def liveOk (p : Nat → Bool) (T : Tr Value) : List (Nat × Value) → Bool
  | [] => true
  | (t, v) :: l => (match T.get t with | some u => veq 8 v u | none => false) && vIn p 8 v && liveOk p T l
noncomputable def blkOk (p : Nat → Bool) (M M' : Tr Blk) (F F' : Tr (List Nat)) : List Nat → Bool
  | [] => true
  | i :: l => (match M.get i, M'.get i with
    | some b, some b' => bEq b b' && bIn p b && (match b with
      | .row _ _ true f _ _ => (match F.get f, F'.get f with | some x, some y => natsEq x y | none, none => true | _, _ => false)
      | _ => true)
    | _, _ => false) && blkOk p M M' F F' l
noncomputable def famIn (M' : Tr Blk) (nx : Nat) : List Nat → Bool
  | [] => true
  | x :: l => Nat.blt x nx && (match M'.get x with | some .dead => true | some (.row _ _ true _ _ _) => true | _ => false) && famIn M' nx l
noncomputable def famOk (F : Tr (List Nat)) (M' : Tr Blk) (nx : Nat) : List (Nat × List Nat) → Bool
  | [] => true
  | (f, l) :: r => (match F.get f with | some x => natsEq x l | none => false) && famIn M' nx l && famOk F M' nx r

noncomputable def gcOk (S : St) (H : Hp) (Z : Snap) : Bool :=
  S.ds.isEmpty && boolEq S.dfd false && S.rnd.isNone && Nat.beq S.n Z.n && Nat.beq H.nx Z.nx && Nat.beq H.nf Z.nf && Nat.beq H.glo Z.glo &&
  liveOk (inL Z.ids) S.T Z.live && blkOk (inL Z.ids) H.mem Z.H.mem H.fam Z.H.fam Z.ids && famOk H.fam Z.H.mem Z.nx Z.fams

noncomputable def Mp.only (μ : Mp) (p : Nat → Bool) : Mp := fun i => if p i then μ i else none

theorem inL_iff {ids : List Nat} {i : Nat} : inL ids i = true ↔ i ∈ ids := by
  induction ids with
  | nil => exact ⟨(fun h => by cases h), (fun h => by cases h)⟩
  | cons x l ih =>
    show Bool.rec (motive := fun _ => Bool) (inL l i) true (Nat.beq x i) = true ↔ _
    cases hb : Nat.beq x i with
    | true => simp [Nat.eq_of_beq_eq_true hb]
    | false =>
      have hne : i ≠ x := fun e => by subst e; simp at hb
      simp [ih, hne]

theorem layG_get {α : Type} {T : Tr α} : ∀ {l : List (Nat × α)} {g : Nat} {b : α}, (layG T l).get g = some b → T.get g = some b ∨ (g, b) ∈ l := by
  intro l
  induction l with
  | nil => intro g b h; exact .inl h
  | cons x l ih =>
    intro g b h
    obtain ⟨g', b'⟩ := x
    simp only [layG] at h
    cases hp : Tr.put b' (layG T l) g' with
    | none =>
      rw [hp] at h
      rcases ih h with q | q
      · exact .inl q
      · exact .inr (by simp [q])
    | some T' =>
      rw [hp] at h
      simp only at h
      rw [Tr.get_put hp] at h
      by_cases hg : g = g'
      · subst hg
        rw [if_pos rfl] at h; injection h with h
        exact .inr (by simp [h])
      · rw [if_neg hg] at h
        rcases ih h with q | q
        · exact .inl q
        · exact .inr (by simp [q])

theorem Tr.get_nones {α : Type} : ∀ (d n : Nat), (Tr.nones d : Tr α).get n = none := by
  intro d
  induction d with
  | zero => intro n; exact Tr.get_leaf n
  | succ d ih =>
    intro n
    cases n with
    | zero => rfl
    | succ m =>
      have e : (Tr.nones (d + 1) : Tr α) = .node none (Tr.nones d) (Tr.nones d) := rfl
      rw [e, Tr.get_succ]
      split <;> exact ih _

theorem only_ext (μ : Mp) (p : Nat → Bool) : ∀ id L, μ.only p id = some L → μ id = some L ∧ p id = true := fun id L h => by
  unfold Mp.only at h
  split at h
  · rename_i q; exact ⟨h, q⟩
  · cases h
theorem only_mk {μ : Mp} {p : Nat → Bool} {id : Nat} {L : Loc} (h : μ id = some L) (hp : p id = true) : μ.only p id = some L := by
  unfold Mp.only; rw [if_pos hp]; exact h

theorem VRel.only {μ : Mp} {p : Nat → Bool} {v v' : Value} (h : VRel μ v v') : ∀ n, vIn p n v = true → VRel (μ.only p) v v' := by
  induction h with
  | atom v h => intro n _; exact .atom v h
  | ptr id off L h => intro n q; cases n with | zero => cases q | succ n => exact .ptr id off L (only_mk h q)
  | sliceE id off len cap L h hc => intro n q; cases n with | zero => cases q | succ n => exact .sliceE id off len cap L (only_mk h q) hc
  | sliceO id off len cap L h hc hn => intro n q; cases n with | zero => cases q | succ n => exact .sliceO id off len cap L (only_mk h q) hc hn
  | sliceZ id off off' L h => intro n q; cases n with | zero => cases q | succ n => exact .sliceZ id off off' L (only_mk h q)
  | map id L h => intro n q; cases n with | zero => cases q | succ n => exact .map id L (only_mk h q)
  | func fn a b a' b' hy ha hb _ _ iha ihb =>
    intro n q
    cases n with
    | zero => cases q
    | succ n =>
      have q : (notYield fn && a.toList.all (vIn p n) && b.toList.all (vIn p n)) = true := q
      simp only [Bool.and_eq_true, List.all_eq_true] at q
      exact .func fn a b a' b' hy ha hb (fun i v v' x y => iha i v v' x y n (q.1.2 v (by simpa using Array.mem_of_getElem? x))) (fun i v v' x y => ihb i v v' x y n (q.2 v (by simpa using Array.mem_of_getElem? x)))
  | yield l L h => intro n q; cases n with | zero => cases q | succ n => simp [vIn, notYield] at q
  | iface t v v' _ ih => intro n q; cases n with | zero => cases q | succ n => exact .iface t v v' (ih n q)
  | agg a a' hs _ ih =>
    intro n q
    cases n with
    | zero => cases q
    | succ n =>
      have q : a.toList.all (vIn p n) = true := q
      rw [List.all_eq_true] at q
      exact .agg a a' hs fun i v v' x y => ih i v v' x y n (q v (by simpa using Array.mem_of_getElem? x))
  | tuple a a' hs _ ih =>
    intro n q
    cases n with
    | zero => cases q
    | succ n =>
      have q : a.toList.all (vIn p n) = true := q
      rw [List.all_eq_true] at q
      exact .tuple a a' hs fun i v v' x y => ih i v v' x y n (q v (by simpa using Array.mem_of_getElem? x))

theorem boolEq_eq {a b : Bool} (h : boolEq a b = true) : a = b := by cases a <;> cases b <;> first | rfl | cases h
theorem entEq_eq : ∀ {l m : List MapEntry}, entEq l m = true → l = m := by
  intro l
  induction l with
  | nil => intro m h; cases m with | nil => rfl | cons => cases h
  | cons x l ih =>
    intro m h
    cases m with
    | nil => cases h
    | cons y m =>
      simp only [entEq, Bool.and_eq_true] at h
      obtain ⟨⟨⟨h1, h2⟩, h3⟩, h4⟩ := h
      rw [ih h4]
      obtain ⟨k, v, b⟩ := x
      obtain ⟨k', v', b'⟩ := y
      simp only at h1 h2 h3
      rw [veq_eq h1, veq_eq h2, Nat.eq_of_beq_eq_true h3]
theorem bEq_eq {a b : Blk} (h : bEq a b = true) : a = b := by
  unfold bEq at h
  split at h
  · simp only [Bool.and_eq_true] at h
    obtain ⟨⟨⟨⟨⟨h1, h2⟩, h3⟩, h4⟩, h5⟩, h6⟩ := h
    rw [all2_eq (fun _ _ q => veq_eq q) h1, Nat.eq_of_beq_eq_true h2, boolEq_eq h3, Nat.eq_of_beq_eq_true h4, Nat.eq_of_beq_eq_true h5, boolEq_eq h6]
  · simp only [Bool.and_eq_true] at h
    rw [entEq_eq h.1, Nat.eq_of_beq_eq_true h.2]
  · cases h
theorem natsEq_eq : ∀ {l m : List Nat}, natsEq l m = true → l = m := by
  intro l
  induction l with
  | nil => intro m h; cases m with | nil => rfl | cons => cases h
  | cons x l ih =>
    intro m h
    cases m with
    | nil => cases h
    | cons y m =>
      simp only [natsEq, Bool.and_eq_true] at h
      rw [Nat.eq_of_beq_eq_true h.1, ih h.2]

section
variable {P : Program} {B : Nat → Prop} {w0 w : World} {μ : Mp} {H : Hp} {S : St} {fr : Frame} {tmps : Array Value} {ds : List Deferred} {cs : List Frame}

theorem liveOk_spec {p : Nat → Bool} {T : Tr Value} : ∀ {l : List (Nat × Value)}, liveOk p T l = true → ∀ t v, (t, v) ∈ l → T.get t = some v ∧ vIn p 8 v = true := by
  intro l
  induction l with
  | nil => intro _ t v h; cases h
  | cons x l ih =>
    intro h t v hm
    obtain ⟨t', v'⟩ := x
    simp only [liveOk, Bool.and_eq_true] at h
    rcases List.mem_cons.1 hm with e | hm
    · injection e with e1 e2; subst e1; subst e2
      refine ⟨?_, h.1.2⟩
      have := h.1.1
      cases hT : T.get t with
      | none => rw [hT] at this; cases this
      | some u => rw [hT] at this; rw [veq_eq this]
    · exact ih h.2 t v hm

theorem blkOk_spec {p : Nat → Bool} {M M' : Tr Blk} {F F' : Tr (List Nat)} : ∀ {l : List Nat}, blkOk p M M' F F' l = true → ∀ i ∈ l, ∃ b, M.get i = some b ∧ M'.get i = some b ∧ bIn p b = true ∧ (∀ c e f z s, b = .row c e true f z s → F'.get f = F.get f) := by
  intro l
  induction l with
  | nil => intro _ i h; cases h
  | cons x l ih =>
    intro h i hm
    simp only [blkOk, Bool.and_eq_true] at h
    rcases List.mem_cons.1 hm with rfl | hm
    · have h1 := h.1
      cases hM : M.get i with
      | none => rw [hM] at h1; cases h1
      | some b =>
        rw [hM] at h1
        cases hM' : M'.get i with
        | none => rw [hM'] at h1; cases h1
        | some b' =>
          rw [hM'] at h1
          simp only [Bool.and_eq_true] at h1
          obtain ⟨⟨e1, e2⟩, e3⟩ := h1
          obtain rfl := bEq_eq e1
          refine ⟨b, rfl, rfl, e2, fun c e f z s q => ?_⟩
          subst q
          simp only at e3
          cases hF : F.get f with
          | none => rw [hF] at e3; cases hF' : F'.get f with
            | none => rfl
            | some y => rw [hF'] at e3; cases e3
          | some x => rw [hF] at e3; cases hF' : F'.get f with
            | none => rw [hF'] at e3; cases e3
            | some y => rw [hF'] at e3; rw [natsEq_eq e3]
    · exact ih h.2 i hm

theorem famIn_spec {M' : Tr Blk} {nx : Nat} : ∀ {l : List Nat}, famIn M' nx l = true → ∀ x ∈ l, x < nx ∧ (isOpen (M'.get x) = true ∨ M'.get x = some .dead) := by
  intro l
  induction l with
  | nil => intro _ x h; cases h
  | cons y l ih =>
    intro h x hm
    simp only [famIn, Bool.and_eq_true] at h
    rcases List.mem_cons.1 hm with rfl | hm
    · refine ⟨Nat.le_of_ble_eq_true h.1.1, ?_⟩
      have h1 := h.1.2
      cases hM : M'.get x with
      | none => rw [hM] at h1; cases h1
      | some b =>
        rw [hM] at h1
        cases b with
        | dead => exact .inr rfl
        | row c e o f z s =>
          cases o with
          | true => exact .inl rfl
          | false => cases h1
        | _ => cases h1
    · exact ih h.2 x hm
theorem famOk_spec {F : Tr (List Nat)} {M' : Tr Blk} {nx : Nat} : ∀ {r : List (Nat × List Nat)}, famOk F M' nx r = true → ∀ f l, (f, l) ∈ r → F.get f = some l ∧ famIn M' nx l = true := by
  intro r
  induction r with
  | nil => intro _ f l h; cases h
  | cons x r ih =>
    intro h f l hm
    obtain ⟨f', l'⟩ := x
    simp only [famOk, Bool.and_eq_true] at h
    rcases List.mem_cons.1 hm with e | hm
    · injection e with e1 e2; subst e1; subst e2
      refine ⟨?_, h.1.2⟩
      have := h.1.1
      cases hF : F.get f with
      | none => rw [hF] at this; cases this
      | some x => rw [hF] at this; rw [natsEq_eq this]
    · exact ih h.2 f l hm

theorem BRel.only {p : Nat → Bool} {L : Loc} {b : Blk} {o : Obj} (h : BRel P μ L b o) (hb : bIn p b = true) : BRel P (μ.only p) L b o := by
  cases b with
  | row cells elem opn fam fz sh =>
    cases o with
    | cells c e f =>
      have hb : cells.all (vIn p 8) = true := hb
      rw [List.all_eq_true] at hb
      obtain ⟨h1, h2, h3, h4, h5, h6, h7⟩ := h
      exact ⟨h1, h2, h3, h4, h5, fun i v v' x y => (h6 i v v' x y).only 8 (hb v (List.mem_of_getElem? x)), h7⟩
    | _ => exact h
  | map es clock =>
    cases o with
    | map es' clock' =>
      have hb : (es.all fun e => vIn p 8 e.val) = true := hb
      rw [List.all_eq_true] at hb
      obtain ⟨l, h1, h2⟩ := h
      have key : ∀ {es l : List MapEntry}, ERel0 μ es l → (∀ x ∈ es, vIn p 8 x.val = true) → ERel0 (μ.only p) es l := by
        intro es l h2
        induction h2 with
        | nil => intro _; exact .nil
        | cons a b es es' q1 q2 q3 _ ih => intro hb; exact .cons a b es es' q1 q2 (q3.only 8 (hb a (by simp))) (ih fun x hx => hb x (by simp [hx]))
      exact ⟨l, h1, key h2 hb⟩
    | _ => exact h
  | loop l => cases hb
  | dfr d => cases hb
  | dead => cases hb

/-- WHAT IS LEFT OUT IS NOT MISSED. -/
theorem gc_sound {Z : Snap} (h : HRel P B w0 μ H w) (hf : FRel μ S fr tmps ds cs) (hz : gcOk S H Z = true) : ∃ μ', HRel P B w0 μ' Z.H w ∧ FRel μ' Z.S fr tmps ds cs := by
  unfold gcOk at hz
  simp only [Bool.and_eq_true] at hz
  obtain ⟨⟨⟨⟨⟨⟨⟨⟨⟨z1, z2⟩, z3⟩, z4⟩, z5⟩, z6⟩, z7⟩, z8⟩, z9⟩, z10⟩ := hz
  have z2 := boolEq_eq z2
  have z4 := Nat.eq_of_beq_eq_true z4
  have z5 := Nat.eq_of_beq_eq_true z5
  have z6 := Nat.eq_of_beq_eq_true z6
  have z7 := Nat.eq_of_beq_eq_true z7
  have hlive := liveOk_spec z8
  have hblk := blkOk_spec z9
  have hfam := famOk_spec z10
  have hin : ∀ i, inL Z.ids i = true → i ∈ Z.ids := fun i q => inL_iff.1 q
  -- the rows of the cut memory
  have hrow : ∀ x b, Z.H.mem.get x = some b → b = .dead ∨ x ∈ Z.ids := fun x b q => by
    rcases layG_get q with r | r
    · rcases Tr.get_full Blk.dead Z.dM x with e | e
      · rw [e] at r; cases r
      · rw [e] at r; injection r with r; exact .inl r.symm
    · exact .inr (List.mem_map.2 ⟨(x, b), r, rfl⟩)
  have hsame : ∀ x, x ∈ Z.ids → Z.H.mem.get x = H.mem.get x := fun x q => by
    obtain ⟨b, b1, b2, _⟩ := hblk x q
    rw [b1, b2]
  have hfm : ∀ f l, Z.H.fam.get f = some l → l = [] ∨ (H.fam.get f = some l ∧ famIn Z.H.mem Z.nx l = true) := fun f l q => by
    rcases layG_get q with r | r
    · rcases Tr.get_full ([] : List Nat) Z.dF f with e | e
      · rw [e] at r; cases r
      · rw [e] at r; injection r with r; exact .inl r.symm
    · exact .inr (hfam f l r)
  refine ⟨μ.only (inL Z.ids), ⟨h.below, h.bsz, ?_, ?_, ?_, ?_, ?_, ?_, ?_, ?_, ?_, ?_⟩, ?_⟩
  · intro x L hx
    obtain ⟨x1, x2⟩ := only_ext _ _ _ _ hx
    obtain ⟨b, b1, b2, b3, _⟩ := hblk x (hin x x2)
    obtain ⟨b', o, q1, q2, q3⟩ := h.blk x L x1
    rw [b1] at q1; injection q1 with q1; subst q1
    exact ⟨b, o, b2, q2, q3.only b3⟩
  · intro x y L1 L2 hxy hx hy hr
    obtain ⟨x1, x2⟩ := only_ext _ _ _ _ hx
    obtain ⟨y1, y2⟩ := only_ext _ _ _ _ hy
    rcases h.sep x y L1 L2 hxy x1 y1 hr with d | d | ⟨f, l, ⟨c, e, z, s, q⟩, ⟨c', e', z', s', q'⟩, hl, m1, m2⟩
    · exact .inl (by rw [hsame x (hin x x2)]; exact d)
    · exact .inr (.inl (by rw [hsame y (hin y y2)]; exact d))
    · refine .inr (.inr ⟨f, l, ⟨c, e, z, s, by rw [hsame x (hin x x2)]; exact q⟩, ⟨c', e', z', s', by rw [hsame y (hin y y2)]; exact q'⟩, ?_, m1, m2⟩)
      obtain ⟨b, b1, _, _, b4⟩ := hblk x (hin x x2)
      rw [q] at b1; injection b1 with b1
      rw [b4 c e f z s b1.symm]; exact hl
  · intro x L hx; obtain ⟨x1, _⟩ := only_ext _ _ _ _ hx; show x < Z.nx; rw [← z5]; exact h.lt x L x1
  · intro x L hx hg; obtain ⟨x1, _⟩ := only_ext _ _ _ _ hx; exact h.own x L x1 (by rw [z7]; exact hg)
  · intro x L hx hg hnd; obtain ⟨x1, x2⟩ := only_ext _ _ _ _ hx; exact h.new x L x1 (by rw [z7]; exact hg) (by rw [← hsame x (hin x x2)]; exact hnd)
  · intro g c e o f z s hg hm
    rcases hrow g _ hm with q | q
    · cases q
    · rw [hsame g q] at hm
      obtain ⟨L, hL⟩ := h.glob g c e o f z s (by rw [z7]; exact hg) hm
      exact ⟨L, only_mk hL (inL_iff.2 q)⟩
  · show Z.glo ≤ Z.nx; rw [← z5, ← z7]; exact h.glt
  · intro x c e f z s hm
    rcases hrow x _ hm with q | q
    · cases q
    · rw [hsame x q] at hm
      show f < Z.nf; rw [← z6]; exact h.famLt x c e f z s hm
  · intro f l x hl hx
    rcases hfm f l hl with rfl | ⟨_, q⟩
    · cases hx
    · exact famIn_spec q x hx
  · intro f l hl
    rcases hfm f l hl with rfl | ⟨q1, q2⟩
    · exact List.Pairwise.nil
    · refine (h.famSort f l q1).imp ?_
      intro x y hxy c e f1 z s c' e' f' z' s' r r'
      rcases hrow x _ r with k | k
      · cases k
      rcases hrow y _ r' with k' | k'
      · cases k'
      rw [hsame x k] at r
      rw [hsame y k'] at r'
      exact hxy c e _ z s c' e' f' z' s' r r'
  · have hds : ds = [] := by
      have := hf.d
      cases hS : S.ds with
      | nil => rw [hS] at this; cases this; rfl
      | cons d l => rw [hS] at z1; cases z1
    refine ⟨⟨by show Z.n ≤ tmps.size; rw [← z4]; exact hf.t.1, fun t v q => ?_⟩, by rw [hds]; exact .nil, ?_, fun _ => ?_, (fun l q => by cases q), (fun q => by cases q)⟩
    · rcases layG_get q with r | r
      · rw [Tr.get_nones] at r; cases r
      · obtain ⟨a, b⟩ := hlive t v r
        exact (hf.t.2 t v a).only 8 b
    · have := hf.kind; rw [z2] at this; exact this
    · cases hr : S.rnd with
      | none => exact hf.rnd0 hr
      | some l => rw [hr] at z3; cases z3

/-! ### Runs in chunks -/
noncomputable def evStack (E : Evs) : List Code → St → Hp → Option (Exit × St × Hp)
  | [], S, H => some (.normal, S, H)
  | c :: l, S, H => match E.code c S H with
    | some (.normal, S, H) => evStack E l S H
    | r => r

theorem evStack_sound {E : Evs} (hc : CodeSound P B w0 E.code) : ∀ (l : List Code) (S : St) (H : Hp) (e : Exit) (S' : St) (H' : Hp), evStack E l S H = some (e, S', H') → ∀ μ w fr tmps ds cs k, HRel P B w0 μ H w → FRel μ S fr tmps ds cs →
    CodeOk P B w0 μ H S fr cs (lone (fat fr tmps ds (l.map Item.code ++ k)) cs w) k S' H' e := by
  intro l
  induction l with
  | nil =>
    intro S H e S' H' he μ w fr tmps ds cs k h hf
    simp only [evStack, Option.some.injEq, Prod.mk.injEq] at he
    obtain ⟨rfl, rfl, rfl⟩ := he
    exact ⟨μ, w, tmps, ds, cs, .refl h hf, .refl P _⟩
  | cons c l ih =>
    intro S H e S' H' he μ w fr tmps ds cs k h hf
    simp only [evStack] at he
    cases hr : E.code c S H with
    | none => rw [hr] at he; cases he
    | some p =>
      obtain ⟨e1, S1, H1⟩ := p
      rw [hr] at he
      have h1 := hc c S H e1 S1 H1 hr μ w fr tmps ds cs (l.map Item.code ++ k) (.code c) h hf (.inl rfl)
      by_cases hn : e1 = .normal
      · subst hn
        exact h1.bind fun μ1 w1 t1 d1 cs1 hre => ih S1 H1 e S' H' he μ1 w1 fr t1 d1 cs1 k hre.h hre.f
      · have he : some (e1, S1, H1) = some (e, S', H') := by cases e1 <;> first | exact absurd rfl hn | exact he
        simp only [Option.some.injEq, Prod.mk.injEq] at he
        obtain ⟨rfl, rfl, rfl⟩ := he
        have hx : ∀ (l : List Code) id, exitTo id (l.map Item.code ++ k) = exitTo id k := by
          intro l id
          induction l with
          | nil => rfl
          | cons c l ih => exact ih
        cases e1 with
        | normal => exact absurd rfl hn
        | exit id => obtain ⟨a1, a2, a3, a4, a5, a6, a7, a8, a9⟩ := h1; exact ⟨a1, a2, a3, a4, a5, a6, a7, a8.trans (hx l id), a9⟩
        | ret => exact h1
        | panic ch => exact h1
        | goto l => exact h1
        | outgrown => exact h1

/-- from here on the frame comes to its end, with the value true -/
def Good1 (P : Program) (B : Nat → Prop) (w0 : World) (fn : Func) (ks : List Code) (S : St) (H : Hp) : Prop :=
  ∀ μ w fr tmps ds cs, HRel P B w0 μ H w → FRel μ S fr tmps ds cs → S.dfd = false → fr.roundOf = none → P.funcs[fr.fn]? = some fn →
    ∃ w' fr', Steps P (lone (fat fr tmps ds (ks.map Item.code)) cs w) (lone fr' cs w') ∧ fr'.kind = fr.kind ∧ fr'.fn = fr.fn ∧ fr'.going P w' (.returned (.bool true)) ∧ Kept B w0 w'

theorem good_seq {fn : Func} {a b : Code} {ks : List Code} (h : Good1 P B w0 fn (a :: b :: ks) S H) : Good1 P B w0 fn (.seq a b :: ks) S H := by
  intro μ w fr tmps ds cs h1 h2 h3 h4 h5
  obtain ⟨w', fr', a1, a2⟩ := h μ w fr tmps ds cs h1 h2 h3 h4 h5
  exact ⟨w', fr', .head st_seq a1, a2⟩

noncomputable def chunkB (Z : Snap) : Option (Exit × St × Hp) → Bool
  | some (.normal, S, H) => gcOk S H Z
  | _ => false

theorem good_chunk {E : Evs} (hc : CodeSound P B w0 E.code) {fn : Func} {l ks : List Code} {Z : Snap} (hz : chunkB Z (evStack E l S H) = true) (h : Good1 P B w0 fn ks Z.S Z.H) : Good1 P B w0 fn (l ++ ks) S H := by
  intro μ w fr tmps ds cs h1 h2 h3 h4 h5
  cases hr : evStack E l S H with
  | none => rw [hr] at hz; cases hz
  | some p =>
    obtain ⟨e, S1, H1⟩ := p
    rw [hr] at hz
    cases e with
    | normal =>
      have hz : gcOk S1 H1 Z = true := hz
      obtain ⟨μ1, w1, t1, d1, cs1, R, st⟩ := evStack_sound hc l S H .normal S1 H1 hr μ w fr tmps ds cs (ks.map Item.code) h1 h2
      have hcs : cs1 = cs := by have := R.c; rw [h3] at this; exact this
      subst hcs
      obtain ⟨μ2, g1, g2⟩ := gc_sound R.h R.f hz
      obtain ⟨w', fr', a1, a2⟩ := h μ2 w1 fr t1 d1 cs1 g1 g2 rfl h4 h5
      rw [List.map_append]
      exact ⟨w', fr', st.trans a1, a2⟩
    | _ => cases hz

theorem good_end {E : Evs} (hc : CodeSound P B w0 E.code) (hdef : DefSound P B w0 E.body) {fn : Func} {ks : List Code} (hz : isTrue (bodyEnd P E fn (evStack E ks S H)) = true) : Good1 P B w0 fn ks S H := by
  intro μ w fr tmps ds cs h1 h2 h3 h4 h5
  cases hr : evStack E ks S H with
  | none => rw [hr] at hz; cases hz
  | some p =>
    obtain ⟨x, S1, H1⟩ := p
    rw [hr] at hz
    have hc := evStack_sound hc ks S H x S1 H1 hr μ w fr tmps ds cs [] h1 h2
    rw [List.append_nil] at hc
    have fin : ∀ (u u1 : FrameMode) (μ1 : Mp) (w1 : World) (t1 : Array Value) (d1 : List Deferred) (cs1 : List Frame) (k1 : List Item), Reached P B w0 μ H S fr cs S1 H1 μ1 w1 t1 d1 cs1 → MRel μ1 u u1 → u ≠ .run →
        Steps P (lone (fat fr tmps ds (ks.map Item.code)) cs w) (lone { fat fr t1 d1 k1 with mode := u1 } cs1 w1) → isTrue (bodyEnd2 S1.um (evLeave P E fn S1.T S1.ds u H1)) = true →
        ∃ w' fr', Steps P (lone (fat fr tmps ds (ks.map Item.code)) cs w) (lone fr' cs w') ∧ fr'.kind = fr.kind ∧ fr'.fn = fr.fn ∧ fr'.going P w' (.returned (.bool true)) ∧ Kept B w0 w' := by
      intro u u1 μ1 w1 t1 d1 cs1 k1 R hm hu hst hend
      have hcs : cs1 = cs := by have := R.c; rw [h3] at this; exact this
      subst hcs
      cases hlv : evLeave P E fn S1.T S1.ds u H1 with
      | none => rw [hlv] at hend; cases hend
      | some q =>
        obtain ⟨e2, H2⟩ := q
        rw [hlv] at hend
        have hend : isTrue (some (e2, S1.um, H2)) = true := hend
        obtain ⟨μ2, w2, e', fr2, g1, g2, g3, g4, g5, g6, g7⟩ := evLeave_sound hdef S1.ds u H1 e2 H2 hlv μ1 w1 { fat fr t1 d1 k1 with mode := u1 } cs1 R.h R.f.t R.f.d hm hu h5
        cases e2 with
        | returned v =>
          cases v with
          | bool b =>
            have hb : b = true := hend
            subst hb
            cases e' with
            | returned v' =>
              have hv : VRel μ2 (.bool true) v' := g3
              rw [hv.bool_inv] at g7
              exact ⟨w2, fr2, hst.trans g4, g5, g6, g7, g1.below⟩
            | panicked c => exact g3.elim
            | outgrown => exact g3.elim
          | _ => cases hend
        | panicked c => cases hend
        | outgrown => cases hend
    cases x with
    | normal =>
      obtain ⟨μ1, w1, t1, d1, cs1, R, hst⟩ := hc
      exact fin .returning .returning μ1 w1 t1 d1 cs1 [] R trivial (fun q => by cases q) (hst.trans (.one (st_end h4))) hz
    | ret =>
      obtain ⟨μ1, w1, t1, d1, cs1, k1, R, hst⟩ := hc
      exact fin .returning .returning μ1 w1 t1 d1 cs1 (.code .ret :: k1) R trivial (fun q => by cases q) (hst.trans (.one (st_ret h4))) hz
    | panic ch =>
      obtain ⟨μ1, w1, t1, d1, cs1, ch', k1, R, hcr, hst⟩ := hc
      exact fin (.panicking ch) (.panicking ch') μ1 w1 t1 d1 cs1 k1 R hcr (fun q => by cases q) hst hz
    | exit id => cases hz
    | goto l => cases hz
    | outgrown => cases hz
end

/-- THE TOP, FOR A RUN IN CHUNKS. -/
theorem chunk_calls {P : Program} {w : World} {H : Hp} {f : FuncId} {fn : Func} {c : Code} (hf : P.funcs[f]? = some fn) (hb : fn.body = some c) (h : Laid P w H)
    (hg : Good1 P (fun k => k < w.heap.size) w fn [c] ⟨blank fn.ntmps, fn.ntmps, [], false, .run, none⟩ H) : Calls P f #[] w fun e w' => e = .returned (.bool true) ∧ Below w.heap.size w w' := by
  intro cs
  let fr0 : Frame := Frame.enter P f #[] .normal
  have hfr : fr0 = fat fr0 (#[] ++ Array.replicate (fn.ntmps - 0) undef) [] [.code c] := by simp [fr0, Frame.enter, fat, hf, hb]
  have hF : FRel (firstMp P H) ⟨blank fn.ntmps, fn.ntmps, [], false, .run, none⟩ fr0 (#[] ++ Array.replicate (fn.ntmps - 0) undef) [] cs :=
    ⟨frame_tmps (args' := []) (LRel.nil _) rfl, .nil, rfl, fun _ => rfl, (fun l q => by cases q), (fun q => by cases q)⟩
  obtain ⟨w', fr', a1, a2, a3, a4, a5⟩ := hg (firstMp P H) w fr0 _ [] cs (first_rel h) hF rfl rfl hf
  have e1 : fat fr0 (#[] ++ Array.replicate (fn.ntmps - 0) undef) [] ([c].map Item.code) = fr0 := hfr.symm
  rw [e1] at a1
  obtain ⟨b1, b2, b3⟩ := a4
  exact ⟨.returned (.bool true), w', fr', ⟨rfl, a5.below⟩, a1, a3, b1, b2, a2, b3⟩
end Go.Cre

/- A part of the proof of ProtocolBack. -/
import Derived.Test.YtaopiiohjbjgkaaGreatDoorCreY3
import Derived.ChangeSame
import Derived.Lib.LaidTab
import Derived.Conc.Holds
import Derived.SevenTiedAt
set_option linter.unusedVariables false
set_option linter.unusedSimpArgs false
namespace Go.Cre
open Go.RowKit
section
variable {P : Program} {w : World} {H : Hp}
structure Laid (P : Program) (w : World) (H : Hp) : Prop where
 fam : H.fam = .leaf
 nx : H.nx = H.glo
 rows : ∀ g b, H.mem.get g = some b → b = .dead ∨ ∃ cells e f, b = .row cells e false 0 farFz true ∧ g < H.glo ∧ w.heap[g]? = some (.cells cells.toArray e f) ∧ cells.all plain = true ∧ cells.length ≤ farFz
noncomputable def firstMp (P : Program) (H : Hp) : Mp := fun g => match H.mem.get g with
 | some (.row cells e _ _ _ _) => some ⟨g, cells.length, P.cellsOf e⟩
 | _ => none
theorem first_rel (h : Laid P w H) : HRel P (fun k => k < w.heap.size) w (firstMp P H) H w := by
 have inv : ∀ g L, firstMp P H g = some L → ∃ cells e f, H.mem.get g = some (.row cells e false 0 farFz true) ∧ L = ⟨g, cells.length, P.cellsOf e⟩ ∧ g < H.glo ∧ w.heap[g]? = some (.cells cells.toArray e f) ∧ cells.all plain = true ∧ cells.length ≤ farFz := by
  intro g L q
  unfold firstMp at q
  cases hm : H.mem.get g with
  | none => rw [hm] at q; cases q
  | some b =>
   rw [hm] at q
   rcases h.rows g b hm with rfl | ⟨cells, e, f, rfl, a1, a2, a3, a4⟩
   ·
    cases q
   ·
    injection q with q; subst q
    exact ⟨cells, e, f, rfl, rfl, a1, a2, a3, a4⟩
 refine ⟨Kept.refl _ _, fun _ hk => hk, ?_, ?_, ?_, ?_, ?_, ?_, by rw [h.nx]; exact Nat.le_refl _, ?_, ?_, ?_⟩
 ·
  intro g L q
  obtain ⟨cells, e, f, a1, rfl, a3, a4, a5, a6⟩ := inv g L q
  refine ⟨_, _, a1, a4, rfl, by simp, rfl, Nat.le_refl _, fun _ => rfl, fun i v v' x y => ?_, ⟨fun off ho _ _ => Nat.lt_of_lt_of_le ho a6, fun q => by cases q⟩⟩
  have : v = v' := by
   rw [List.getElem?_toArray] at y
   rw [x] at y; injection y
  subst this
  exact plain_rel (List.all_eq_true.1 a5 v (List.mem_of_getElem? x))
 ·
  intro x y L1 L2 hxy hx hy hr
  obtain ⟨_, _, _, _, rfl, _⟩ := inv x L1 hx
  obtain ⟨_, _, _, _, rfl, _⟩ := inv y L2 hy
  exact absurd hr hxy
 ·
  intro x L hx; obtain ⟨_, _, _, _, _, a, _⟩ := inv x L hx; rw [h.nx]; exact a
 ·
  intro x L hx _; obtain ⟨_, _, _, _, rfl, _⟩ := inv x L hx; rfl
 ·
  intro x L hx hg _; obtain ⟨_, _, _, _, _, a, _⟩ := inv x L hx; omega
 ·
  intro g c e o f z s _ hm
  exact ⟨⟨g, c.length, P.cellsOf e⟩, by unfold firstMp; rw [hm]⟩
 ·
  intro x c e f z s hm
  rcases h.rows x _ hm with q | ⟨_, _, _, q, _⟩ <;> cases q
 ·
  intro f l x hl; rw [h.fam] at hl; cases hl
 ·
  intro f l hl; rw [h.fam] at hl; cases hl
noncomputable def isTrue (x : Option (Ending × FrameMode × Hp)) : Bool := match x with | some (.returned (.bool b), _, _) => b | _ => false
theorem trOf_get {α : Type} : ∀ {l : List α} {i : Nat} {T T' : Tr α}, trOf l i T = some T' → ∀ t, T'.get t = if i ≤ t ∧ t < i + l.length then l[t - i]? else T.get t := by
 intro l
 induction l with
 | nil => intro i T T' h t; simp [trOf] at h; subst h; rw [if_neg (by rw [List.length_nil]; omega)]
 | cons v l ih =>
  intro i T T' h t
  simp only [trOf] at h
  cases hs : Tr.set trDepth T i v with
  | none => rw [hs] at h; cases h
  | some T1 =>
   rw [hs] at h
   rw [ih h t, Tr.get_set hs]
   by_cases h1 : i + 1 ≤ t ∧ t < i + 1 + l.length
   ·
    rw [if_pos h1, if_pos (by rw [List.length_cons]; omega)]
    have : t - i = (t - (i + 1)) + 1 := by omega
    rw [this]; rfl
   ·
    rw [if_neg h1]
    by_cases h2 : t = i
    ·
     subst h2; rw [if_pos rfl, if_pos (by simp)]; simp
    ·
     rw [if_neg h2, if_neg (by rw [List.length_cons]; omega)]
noncomputable def ftOf (P : Program) : Tr Func := match trOf P.funcs.toList 0 .leaf with | some t => t | none => .leaf
noncomputable def numOk (P : Program) : Bool := P.funcs.toList.all fun fn => fn.body.isNone || !(fn.name == "runtime.NumGoroutine")
theorem pf_of (hm : P.follows .mixedOrders = true) (hn : numOk P = true) : PF P (ftOf P) := by
 refine ⟨hm, fun f fn h => ?_, fun f fn hf hb => ?_⟩
 ·
  unfold ftOf at h
  cases ht : trOf P.funcs.toList 0 .leaf with
  | none => rw [ht] at h; cases h
  | some t =>
   rw [ht] at h
   rw [trOf_get ht] at h
   split at h
   ·
    simpa using h
   ·
    cases h
 ·
  unfold numOk at hn
  rw [List.all_eq_true] at hn
  have := hn fn (by simpa using Array.mem_of_getElem? hf)
  cases hbb : fn.body with
  | none => rw [hbb] at hb; cases hb
  | some c => simpa [hbb] using this
noncomputable def lay (T : Tr Blk) : List (Nat × TypeId × List Value) → Tr Blk
 | [] => T
 | (g, e, cells) :: l => match Tr.put (.row cells e false 0 farFz true) (lay T l) g with
  | some T' => T'
  | none => lay T l
theorem lay_get {T : Tr Blk} : ∀ {l : List (Nat × TypeId × List Value)} {g : Nat} {b : Blk}, (lay T l).get g = some b → T.get g = some b ∨ ∃ e cells, (g, e, cells) ∈ l ∧ b = .row cells e false 0 farFz true := by
 intro l
 induction l with
 | nil => intro g b h; exact .inl h
 | cons x l ih =>
  intro g b h
  obtain ⟨g', e, cells⟩ := x
  simp only [lay] at h
  cases hp : Tr.put (Blk.row cells e false 0 farFz true) (lay T l) g' with
  | none =>
   rw [hp] at h
   rcases ih h with q | ⟨e', c', q1, q2⟩
   ·
    exact .inl q
   ·
    exact .inr ⟨e', c', by simp [q1], q2⟩
  | some T' =>
   rw [hp] at h
   simp only at h
   rw [Tr.get_put hp] at h
   by_cases hg : g = g'
   ·
    subst hg
    rw [if_pos rfl] at h; injection h with h
    exact .inr ⟨e, cells, by simp, h.symm⟩
   ·
    rw [if_neg hg] at h
    rcases ih h with q | ⟨e', c', q1, q2⟩
    ·
     exact .inl q
    ·
     exact .inr ⟨e', c', by simp [q1], q2⟩
noncomputable def firstHp (n d : Nat) (l : List (Nat × TypeId × List Value)) : Hp := ⟨lay (Tr.full .dead d) l, n, .leaf, 0, n⟩
theorem laid_of {n d : Nat} {l : List (Nat × TypeId × List Value)} (h : ∀ g e cells, (g, e, cells) ∈ l → g < n ∧ (∃ f, w.heap[g]? = some (.cells cells.toArray e f)) ∧ cells.all plain = true ∧ cells.length ≤ farFz) : Laid P w (firstHp n d l) := by
 refine ⟨rfl, rfl, fun g b hb => ?_⟩
 rcases lay_get hb with q | ⟨e, cells, q1, q2⟩
 ·
  rcases Tr.get_full Blk.dead d g with r | r
  ·
   rw [r] at q; cases q
  ·
   rw [r] at q; injection q with q; exact .inl q.symm
 ·
  obtain ⟨a1, ⟨f, a2⟩, a3, a4⟩ := h g e cells q1
  exact .inr ⟨cells, e, f, q2, a1, a2, a3, a4⟩
end
end Go.Cre
set_option linter.unusedVariables false
set_option linter.unusedSimpArgs false
namespace Go.Cre
open Go.ChangeShapes
theorem laid_row {P : Program} {W : World} {name : String} {k : IntKind} {zs : List Int} {g : Nat} {t : TypeId} (hg : P.globalNamed name = some g) (hlt : g < P.globals.size)
  (hr : (((begin P (fun _ _ => 0) default).world.heap[g]?).bind Obj.row?).map (·.2) = some t) (hs : W.ShapedOpen P) (ht : Lib.TabIs P W name k zs) : ∃ f, W.heap[g]? = some (.cells (zs.map fun z => Value.int k z).toArray t f) := by
 obtain ⟨⟨zero, t'⟩, h1, h2⟩ := Option.map_eq_some_iff.1 hr
 simp only at h2; subst h2
 obtain ⟨cs, a, _⟩ := hs.1 g zero t' hlt h1
 unfold Lib.TabIs World.var? at ht
 rw [hg] at ht
 simp only [Option.bind_some, a, Option.some.injEq] at ht
 subst ht
 exact ⟨_, a⟩
end Go.Cre
set_option linter.unusedVariables false
set_option linter.unusedSimpArgs false
namespace Go.Cre
open Go.RowKit
noncomputable def inL (ids : List Nat) (i : Nat) : Bool := List.rec (motive := fun _ => Bool) false (fun x _ ih => Bool.rec (motive := fun _ => Bool) ih true (Nat.beq x i)) ids
noncomputable def vIn (p : Nat → Bool) : Nat → Value → Bool
 | 0, _ => false
 | n + 1, v => match v with
  | .bool _ => true
  | .int _ _ => true
  | .string _ => true
  | .nilFunc => true
  | .nilIface => true
  | .pointer none => true
  | .slice none _ _ => true
  | .map none => true
  | .pointer (some a) => p a.block
  | .slice (some a) _ _ => p a.block
  | .map (some r) => p r
  | .iface _ v => vIn p n v
  | .agg cs => cs.toList.all (vIn p n)
  | .tuple cs => cs.toList.all (vIn p n)
  | .func f a b => notYield f && a.toList.all (vIn p n) && b.toList.all (vIn p n)
  | _ => false
noncomputable def bIn (p : Nat → Bool) : Blk → Bool
 | .row cells _ _ _ _ _ => cells.all (vIn p 8)
 | .map es _ => es.all fun e => vIn p 8 e.val
 | _ => false
noncomputable def entEq : List MapEntry → List MapEntry → Bool
 | [], [] => true
 | x :: l, y :: m => veq 8 x.key y.key && veq 8 x.val y.val && Nat.beq x.born y.born && entEq l m
 | _, _ => false
noncomputable def bEq : Blk → Blk → Bool
 | .row c e o f z s, .row c' e' o' f' z' s' => all2 (veq 8) c c' && Nat.beq e e' && boolEq o o' && Nat.beq f f' && Nat.beq z z' && boolEq s s'
 | .map es k, .map es' k' => entEq es es' && Nat.beq k k'
 | _, _ => false
noncomputable def natsEq : List Nat → List Nat → Bool
 | [], [] => true
 | x :: l, y :: m => Nat.beq x y && natsEq l m
 | _, _ => false
structure Snap where
 n : Nat
 live : List (Nat × Value)
 nx : Nat
 nf : Nat
 glo : Nat
 blks : List (Nat × Blk)
 fams : List (Nat × List Nat)
 dT : Nat
 dM : Nat
 dF : Nat
noncomputable def layG {α : Type} (T : Tr α) : List (Nat × α) → Tr α
 | [] => T
 | (g, b) :: l => match Tr.put b (layG T l) g with
  | some T' => T'
  | none => layG T l
noncomputable def Tr.nones {α : Type} (d : Nat) : Tr α := Nat.rec (motive := fun _ => Tr α) .leaf (fun _ t => .node none t t) d
noncomputable def Snap.S (A : Snap) : St := ⟨layG (Tr.nones A.dT) A.live, A.n, [], false, .run, none⟩
noncomputable def Snap.H (A : Snap) : Hp := ⟨layG (Tr.full .dead A.dM) A.blks, A.nx, layG (Tr.full [] A.dF) A.fams, A.nf, A.glo⟩
noncomputable def Snap.ids (A : Snap) : List Nat := A.blks.map (·.1)
noncomputable def liveOk (p : Nat → Bool) (T : Tr Value) : List (Nat × Value) → Bool
 | [] => true
 | (t, v) :: l => (match T.get t with | some u => veq 8 v u | none => false) && vIn p 8 v && liveOk p T l
noncomputable def blkOk (p : Nat → Bool) (M M' : Tr Blk) (F F' : Tr (List Nat)) : List Nat → Bool
 | [] => true
 | i :: l => (match M.get i, M'.get i with
  | some b, some b' => bEq b b' && bIn p b && (match b with
   | .row _ _ true f _ _ => (match F.get f, F'.get f with | some x, some y => natsEq x y | none, none => true | _, _ => false)
   | _ => true)
  | _, _ => false) && blkOk p M M' F F' l
noncomputable def famIn (M' : Tr Blk) (nx : Nat) : List Nat → Bool
 | [] => true
 | x :: l => Nat.blt x nx && (match M'.get x with | some .dead => true | some (.row _ _ true _ _ _) => true | _ => false) && famIn M' nx l
noncomputable def famOk (F : Tr (List Nat)) (M' : Tr Blk) (nx : Nat) : List (Nat × List Nat) → Bool
 | [] => true
 | (f, l) :: r => (match F.get f with | some x => natsEq x l | none => false) && famIn M' nx l && famOk F M' nx r
noncomputable def gcOk (S : St) (H : Hp) (Z : Snap) : Bool :=
 S.ds.isEmpty && boolEq S.dfd false && S.rnd.isNone && Nat.beq S.n Z.n && Nat.beq H.nx Z.nx && Nat.beq H.nf Z.nf && Nat.beq H.glo Z.glo &&
 liveOk (inL Z.ids) S.T Z.live && blkOk (inL Z.ids) H.mem Z.H.mem H.fam Z.H.fam Z.ids && famOk H.fam Z.H.mem Z.nx Z.fams
noncomputable def Mp.only (μ : Mp) (p : Nat → Bool) : Mp := fun i => if p i then μ i else none
theorem inL_iff {ids : List Nat} {i : Nat} : inL ids i = true ↔ i ∈ ids := by
 induction ids with
 | nil => exact ⟨(fun h => by cases h), (fun h => by cases h)⟩
 | cons x l ih =>
  show Bool.rec (motive := fun _ => Bool) (inL l i) true (Nat.beq x i) = true ↔ _
  cases hb : Nat.beq x i with
  | true => simp [Nat.eq_of_beq_eq_true hb]
  | false =>
   have hne : i ≠ x := fun e => by subst e; simp at hb
   simp [ih, hne]
theorem layG_get {α : Type} {T : Tr α} : ∀ {l : List (Nat × α)} {g : Nat} {b : α}, (layG T l).get g = some b → T.get g = some b ∨ (g, b) ∈ l := by
 intro l
 induction l with
 | nil => intro g b h; exact .inl h
 | cons x l ih =>
  intro g b h
  obtain ⟨g', b'⟩ := x
  simp only [layG] at h
  cases hp : Tr.put b' (layG T l) g' with
  | none =>
   rw [hp] at h
   rcases ih h with q | q
   ·
    exact .inl q
   ·
    exact .inr (by simp [q])
  | some T' =>
   rw [hp] at h
   simp only at h
   rw [Tr.get_put hp] at h
   by_cases hg : g = g'
   ·
    subst hg
    rw [if_pos rfl] at h; injection h with h
    exact .inr (by simp [h])
   ·
    rw [if_neg hg] at h
    rcases ih h with q | q
    ·
     exact .inl q
    ·
     exact .inr (by simp [q])
theorem Tr.get_nones {α : Type} : ∀ (d n : Nat), (Tr.nones d : Tr α).get n = none := by
 intro d
 induction d with
 | zero => intro n; exact Tr.get_leaf n
 | succ d ih =>
  intro n
  cases n with
  | zero => rfl
  | succ m =>
   have e : (Tr.nones (d + 1) : Tr α) = .node none (Tr.nones d) (Tr.nones d) := rfl
   rw [e, Tr.get_succ]
   split <;> exact ih _
theorem only_ext (μ : Mp) (p : Nat → Bool) : ∀ id L, μ.only p id = some L → μ id = some L ∧ p id = true := fun id L h => by
 unfold Mp.only at h
 split at h
 ·
  rename_i q; exact ⟨h, q⟩
 ·
  cases h
theorem only_mk {μ : Mp} {p : Nat → Bool} {id : Nat} {L : Loc} (h : μ id = some L) (hp : p id = true) : μ.only p id = some L := by
 unfold Mp.only; rw [if_pos hp]; exact h
theorem VRel.only {μ : Mp} {p : Nat → Bool} {v v' : Value} (h : VRel μ v v') : ∀ n, vIn p n v = true → VRel (μ.only p) v v' := by
 induction h with
 | atom v h => intro n _; exact .atom v h
 | ptr id off L h => intro n q; cases n with | zero => cases q | succ n => exact .ptr id off L (only_mk h q)
 | sliceE id off len cap L h hc => intro n q; cases n with | zero => cases q | succ n => exact .sliceE id off len cap L (only_mk h q) hc
 | sliceO id off len cap L h hc hn => intro n q; cases n with | zero => cases q | succ n => exact .sliceO id off len cap L (only_mk h q) hc hn
 | sliceZ id off off' L h => intro n q; cases n with | zero => cases q | succ n => exact .sliceZ id off off' L (only_mk h q)
 | sliceX a => intro n _; exact .sliceX a
 | map id L h => intro n q; cases n with | zero => cases q | succ n => exact .map id L (only_mk h q)
 | wild v h => intro n _; exact .wild v h
 | func fn a b a' b' hy ha hb _ _ iha ihb =>
  intro n q
  cases n with
  | zero => cases q
  | succ n =>
   have q : (notYield fn && a.toList.all (vIn p n) && b.toList.all (vIn p n)) = true := q
   simp only [Bool.and_eq_true, List.all_eq_true] at q
   exact .func fn a b a' b' hy ha hb (fun i v v' x y => iha i v v' x y n (q.1.2 v (by simpa using Array.mem_of_getElem? x))) (fun i v v' x y => ihb i v v' x y n (q.2 v (by simpa using Array.mem_of_getElem? x)))
 | yield l L h => intro n q; cases n with | zero => cases q | succ n => simp [vIn, notYield] at q
 | iface t v v' _ ih => intro n q; cases n with | zero => cases q | succ n => exact .iface t v v' (ih n q)
 | agg a a' hs _ ih =>
  intro n q
  cases n with
  | zero => cases q
  | succ n =>
   have q : a.toList.all (vIn p n) = true := q
   rw [List.all_eq_true] at q
   exact .agg a a' hs fun i v v' x y => ih i v v' x y n (q v (by simpa using Array.mem_of_getElem? x))
 | tuple a a' hs _ ih =>
  intro n q
  cases n with
  | zero => cases q
  | succ n =>
   have q : a.toList.all (vIn p n) = true := q
   rw [List.all_eq_true] at q
   exact .tuple a a' hs fun i v v' x y => ih i v v' x y n (q v (by simpa using Array.mem_of_getElem? x))
theorem boolEq_eq {a b : Bool} (h : boolEq a b = true) : a = b := by cases a <;> cases b <;> first | rfl | cases h
theorem entEq_eq : ∀ {l m : List MapEntry}, entEq l m = true → l = m := by
 intro l
 induction l with
 | nil => intro m h; cases m with | nil => rfl | cons => cases h
 | cons x l ih =>
  intro m h
  cases m with
  | nil => cases h
  | cons y m =>
   simp only [entEq, Bool.and_eq_true] at h
   obtain ⟨⟨⟨h1, h2⟩, h3⟩, h4⟩ := h
   rw [ih h4]
   obtain ⟨k, v, b⟩ := x
   obtain ⟨k', v', b'⟩ := y
   simp only at h1 h2 h3
   rw [veq_eq h1, veq_eq h2, Nat.eq_of_beq_eq_true h3]
theorem bEq_eq {a b : Blk} (h : bEq a b = true) : a = b := by
 unfold bEq at h
 split at h
 ·
  simp only [Bool.and_eq_true] at h
  obtain ⟨⟨⟨⟨⟨h1, h2⟩, h3⟩, h4⟩, h5⟩, h6⟩ := h
  rw [all2_eq (fun _ _ q => veq_eq q) h1, Nat.eq_of_beq_eq_true h2, boolEq_eq h3, Nat.eq_of_beq_eq_true h4, Nat.eq_of_beq_eq_true h5, boolEq_eq h6]
 ·
  simp only [Bool.and_eq_true] at h
  rw [entEq_eq h.1, Nat.eq_of_beq_eq_true h.2]
 ·
  cases h
theorem natsEq_eq : ∀ {l m : List Nat}, natsEq l m = true → l = m := by
 intro l
 induction l with
 | nil => intro m h; cases m with | nil => rfl | cons => cases h
 | cons x l ih =>
  intro m h
  cases m with
  | nil => cases h
  | cons y m =>
   simp only [natsEq, Bool.and_eq_true] at h
   rw [Nat.eq_of_beq_eq_true h.1, ih h.2]
section
variable {P : Program} {B : Nat → Prop} {w0 w : World} {μ : Mp} {H : Hp} {S : St} {fr : Frame} {tmps : Array Value} {ds : List Deferred} {cs : List Frame}
theorem liveOk_spec {p : Nat → Bool} {T : Tr Value} : ∀ {l : List (Nat × Value)}, liveOk p T l = true → ∀ t v, (t, v) ∈ l → T.get t = some v ∧ vIn p 8 v = true := by
 intro l
 induction l with
 | nil => intro _ t v h; cases h
 | cons x l ih =>
  intro h t v hm
  obtain ⟨t', v'⟩ := x
  simp only [liveOk, Bool.and_eq_true] at h
  rcases List.mem_cons.1 hm with e | hm
  ·
   injection e with e1 e2; subst e1; subst e2
   refine ⟨?_, h.1.2⟩
   have := h.1.1
   cases hT : T.get t with
   | none => rw [hT] at this; cases this
   | some u => rw [hT] at this; rw [veq_eq this]
  ·
   exact ih h.2 t v hm
theorem blkOk_spec {p : Nat → Bool} {M M' : Tr Blk} {F F' : Tr (List Nat)} : ∀ {l : List Nat}, blkOk p M M' F F' l = true → ∀ i ∈ l, ∃ b, M.get i = some b ∧ M'.get i = some b ∧ bIn p b = true ∧ (∀ c e f z s, b = .row c e true f z s → F'.get f = F.get f) := by
 intro l
 induction l with
 | nil => intro _ i h; cases h
 | cons x l ih =>
  intro h i hm
  simp only [blkOk, Bool.and_eq_true] at h
  rcases List.mem_cons.1 hm with rfl | hm
  ·
   have h1 := h.1
   cases hM : M.get i with
   | none => rw [hM] at h1; cases h1
   | some b =>
    rw [hM] at h1
    cases hM' : M'.get i with
    | none => rw [hM'] at h1; cases h1
    | some b' =>
     rw [hM'] at h1
     simp only [Bool.and_eq_true] at h1
     obtain ⟨⟨e1, e2⟩, e3⟩ := h1
     obtain rfl := bEq_eq e1
     refine ⟨b, rfl, rfl, e2, fun c e f z s q => ?_⟩
     subst q
     simp only at e3
     cases hF : F.get f with
     | none => rw [hF] at e3; cases hF' : F'.get f with
      | none => rfl
      | some y => rw [hF'] at e3; cases e3
     | some x => rw [hF] at e3; cases hF' : F'.get f with
      | none => rw [hF'] at e3; cases e3
      | some y => rw [hF'] at e3; rw [natsEq_eq e3]
  ·
   exact ih h.2 i hm
theorem famIn_spec {M' : Tr Blk} {nx : Nat} : ∀ {l : List Nat}, famIn M' nx l = true → ∀ x ∈ l, x < nx ∧ (isOpen (M'.get x) = true ∨ M'.get x = some .dead) := by
 intro l
 induction l with
 | nil => intro _ x h; cases h
 | cons y l ih =>
  intro h x hm
  simp only [famIn, Bool.and_eq_true] at h
  rcases List.mem_cons.1 hm with rfl | hm
  ·
   refine ⟨Nat.le_of_ble_eq_true h.1.1, ?_⟩
   have h1 := h.1.2
   cases hM : M'.get x with
   | none => rw [hM] at h1; cases h1
   | some b =>
    rw [hM] at h1
    cases b with
    | dead => exact .inr rfl
    | row c e o f z s =>
     cases o with
     | true => exact .inl rfl
     | false => cases h1
    | _ => cases h1
  ·
   exact ih h.2 x hm
theorem famOk_spec {F : Tr (List Nat)} {M' : Tr Blk} {nx : Nat} : ∀ {r : List (Nat × List Nat)}, famOk F M' nx r = true → ∀ f l, (f, l) ∈ r → F.get f = some l ∧ famIn M' nx l = true := by
 intro r
 induction r with
 | nil => intro _ f l h; cases h
 | cons x r ih =>
  intro h f l hm
  obtain ⟨f', l'⟩ := x
  simp only [famOk, Bool.and_eq_true] at h
  rcases List.mem_cons.1 hm with e | hm
  ·
   injection e with e1 e2; subst e1; subst e2
   refine ⟨?_, h.1.2⟩
   have := h.1.1
   cases hF : F.get f with
   | none => rw [hF] at this; cases this
   | some x => rw [hF] at this; rw [natsEq_eq this]
  ·
   exact ih h.2 f l hm
theorem BRel.only {p : Nat → Bool} {L : Loc} {b : Blk} {o : Obj} (h : BRel P μ L b o) (hb : bIn p b = true) : BRel P (μ.only p) L b o := by
 cases b with
 | row cells elem opn fam fz sh =>
  cases o with
  | cells c e f =>
   have hb : cells.all (vIn p 8) = true := hb
   rw [List.all_eq_true] at hb
   obtain ⟨h1, h2, h3, h4, h5, h6, h7⟩ := h
   exact ⟨h1, h2, h3, h4, h5, fun i v v' x y => (h6 i v v' x y).only 8 (hb v (List.mem_of_getElem? x)), h7⟩
  | _ => exact h
 | map es clock =>
  cases o with
  | map es' clock' =>
   have hb : (es.all fun e => vIn p 8 e.val) = true := hb
   rw [List.all_eq_true] at hb
   obtain ⟨l, h1, h2⟩ := h
   have key : ∀ {es l : List MapEntry}, ERel0 μ es l → (∀ x ∈ es, vIn p 8 x.val = true) → ERel0 (μ.only p) es l := by
    intro es l h2
    induction h2 with
    | nil => intro _; exact .nil
    | cons a b es es' q1 q2 q3 _ ih => intro hb; exact .cons a b es es' q1 q2 (q3.only 8 (hb a (by simp))) (ih fun x hx => hb x (by simp [hx]))
   exact ⟨l, h1, key h2 hb⟩
  | _ => exact h
 | loop l => cases hb
 | dfr d => cases hb
 | dead => cases hb
theorem gc_sound {Z : Snap} (h : HRel P B w0 μ H w) (hf : FRel μ S fr tmps ds cs) (hz : gcOk S H Z = true) : ∃ μ', HRel P B w0 μ' Z.H w ∧ FRel μ' Z.S fr tmps ds cs := by
 unfold gcOk at hz
 simp only [Bool.and_eq_true] at hz
 obtain ⟨⟨⟨⟨⟨⟨⟨⟨⟨z1, z2⟩, z3⟩, z4⟩, z5⟩, z6⟩, z7⟩, z8⟩, z9⟩, z10⟩ := hz
 have z2 := boolEq_eq z2
 have z4 := Nat.eq_of_beq_eq_true z4
 have z5 := Nat.eq_of_beq_eq_true z5
 have z6 := Nat.eq_of_beq_eq_true z6
 have z7 := Nat.eq_of_beq_eq_true z7
 have hlive := liveOk_spec z8
 have hblk := blkOk_spec z9
 have hfam := famOk_spec z10
 have hin : ∀ i, inL Z.ids i = true → i ∈ Z.ids := fun i q => inL_iff.1 q
 -- the rows of the cut memory
 have hrow : ∀ x b, Z.H.mem.get x = some b → b = .dead ∨ x ∈ Z.ids := fun x b q => by
  rcases layG_get q with r | r
  ·
   rcases Tr.get_full Blk.dead Z.dM x with e | e
   ·
    rw [e] at r; cases r
   ·
    rw [e] at r; injection r with r; exact .inl r.symm
  ·
   exact .inr (List.mem_map.2 ⟨(x, b), r, rfl⟩)
 have hsame : ∀ x, x ∈ Z.ids → Z.H.mem.get x = H.mem.get x := fun x q => by
  obtain ⟨b, b1, b2, _⟩ := hblk x q
  rw [b1, b2]
 have hfm : ∀ f l, Z.H.fam.get f = some l → l = [] ∨ (H.fam.get f = some l ∧ famIn Z.H.mem Z.nx l = true) := fun f l q => by
  rcases layG_get q with r | r
  ·
   rcases Tr.get_full ([] : List Nat) Z.dF f with e | e
   ·
    rw [e] at r; cases r
   ·
    rw [e] at r; injection r with r; exact .inl r.symm
  ·
   exact .inr (hfam f l r)
 refine ⟨μ.only (inL Z.ids), ⟨h.below, h.bsz, ?_, ?_, ?_, ?_, ?_, ?_, ?_, ?_, ?_, ?_⟩, ?_⟩
 ·
  intro x L hx
  obtain ⟨x1, x2⟩ := only_ext _ _ _ _ hx
  obtain ⟨b, b1, b2, b3, _⟩ := hblk x (hin x x2)
  obtain ⟨b', o, q1, q2, q3⟩ := h.blk x L x1
  rw [b1] at q1; injection q1 with q1; subst q1
  exact ⟨b, o, b2, q2, q3.only b3⟩
 ·
  intro x y L1 L2 hxy hx hy hr
  obtain ⟨x1, x2⟩ := only_ext _ _ _ _ hx
  obtain ⟨y1, y2⟩ := only_ext _ _ _ _ hy
  rcases h.sep x y L1 L2 hxy x1 y1 hr with d | d | ⟨f, l, ⟨c, e, z, s, q⟩, ⟨c', e', z', s', q'⟩, hl, m1, m2⟩
  ·
   exact .inl (by rw [hsame x (hin x x2)]; exact d)
  ·
   exact .inr (.inl (by rw [hsame y (hin y y2)]; exact d))
  ·
   refine .inr (.inr ⟨f, l, ⟨c, e, z, s, by rw [hsame x (hin x x2)]; exact q⟩, ⟨c', e', z', s', by rw [hsame y (hin y y2)]; exact q'⟩, ?_, m1, m2⟩)
   obtain ⟨b, b1, _, _, b4⟩ := hblk x (hin x x2)
   rw [q] at b1; injection b1 with b1
   rw [b4 c e f z s b1.symm]; exact hl
 ·
  intro x L hx; obtain ⟨x1, _⟩ := only_ext _ _ _ _ hx; show x < Z.nx; rw [← z5]; exact h.lt x L x1
 ·
  intro x L hx hg; obtain ⟨x1, _⟩ := only_ext _ _ _ _ hx; exact h.own x L x1 (by rw [z7]; exact hg)
 ·
  intro x L hx hg hnd; obtain ⟨x1, x2⟩ := only_ext _ _ _ _ hx; exact h.new x L x1 (by rw [z7]; exact hg) (by rw [← hsame x (hin x x2)]; exact hnd)
 ·
  intro g c e o f z s hg hm
  rcases hrow g _ hm with q | q
  ·
   cases q
  ·
   rw [hsame g q] at hm
   obtain ⟨L, hL⟩ := h.glob g c e o f z s (by rw [z7]; exact hg) hm
   exact ⟨L, only_mk hL (inL_iff.2 q)⟩
 ·
  show Z.glo ≤ Z.nx; rw [← z5, ← z7]; exact h.glt
 ·
  intro x c e f z s hm
  rcases hrow x _ hm with q | q
  ·
   cases q
  ·
   rw [hsame x q] at hm
   show f < Z.nf; rw [← z6]; exact h.famLt x c e f z s hm
 ·
  intro f l x hl hx
  rcases hfm f l hl with rfl | ⟨_, q⟩
  ·
   cases hx
  ·
   exact famIn_spec q x hx
 ·
  intro f l hl
  rcases hfm f l hl with rfl | ⟨q1, q2⟩
  ·
   exact List.Pairwise.nil
  ·
   refine (h.famSort f l q1).imp ?_
   intro x y hxy c e f1 z s c' e' f' z' s' r r'
   rcases hrow x _ r with k | k
   ·
    cases k
   rcases hrow y _ r' with k' | k'
   ·
    cases k'
   rw [hsame x k] at r
   rw [hsame y k'] at r'
   exact hxy c e _ z s c' e' f' z' s' r r'
 ·
  have hds : ds = [] := by
   have := hf.d
   cases hS : S.ds with
   | nil => rw [hS] at this; cases this; rfl
   | cons d l => rw [hS] at z1; cases z1
  refine ⟨⟨by show Z.n ≤ tmps.size; rw [← z4]; exact hf.t.1, fun t v q => ?_⟩, by rw [hds]; exact .nil, ?_, fun _ => ?_, (fun l q => by cases q), (fun q => by cases q)⟩
  ·
   rcases layG_get q with r | r
   ·
    rw [Tr.get_nones] at r; cases r
   ·
    obtain ⟨a, b⟩ := hlive t v r
    exact (hf.t.2 t v a).only 8 b
  ·
   have := hf.kind; rw [z2] at this; exact this
  ·
   cases hr : S.rnd with
   | none => exact hf.rnd0 hr
   | some l => rw [hr] at z3; cases z3
noncomputable def evStack (E : Evs) : List Code → St → Hp → Option (Exit × St × Hp)
 | [], S, H => some (.normal, S, H)
 | c :: l, S, H => match E.code c S H with
  | some (.normal, S, H) => evStack E l S H
  | r => r
theorem evStack_sound {E : Evs} (hc : CodeSound P B w0 E.code) : ∀ (l : List Code) (S : St) (H : Hp) (e : Exit) (S' : St) (H' : Hp), evStack E l S H = some (e, S', H') → ∀ μ w fr tmps ds cs k, HRel P B w0 μ H w → FRel μ S fr tmps ds cs →
  CodeOk P B w0 μ H S fr cs (lone (fat fr tmps ds (l.map Item.code ++ k)) cs w) k S' H' e := by
 intro l
 induction l with
 | nil =>
  intro S H e S' H' he μ w fr tmps ds cs k h hf
  simp only [evStack, Option.some.injEq, Prod.mk.injEq] at he
  obtain ⟨rfl, rfl, rfl⟩ := he
  exact ⟨μ, w, tmps, ds, cs, .refl h hf, .refl P _⟩
 | cons c l ih =>
  intro S H e S' H' he μ w fr tmps ds cs k h hf
  simp only [evStack] at he
  cases hr : E.code c S H with
  | none => rw [hr] at he; cases he
  | some p =>
   obtain ⟨e1, S1, H1⟩ := p
   rw [hr] at he
   have h1 := hc c S H e1 S1 H1 hr μ w fr tmps ds cs (l.map Item.code ++ k) (.code c) h hf (.inl rfl)
   by_cases hn : e1 = .normal
   ·
    subst hn
    exact h1.bind fun μ1 w1 t1 d1 cs1 hre => ih S1 H1 e S' H' he μ1 w1 fr t1 d1 cs1 k hre.h hre.f
   ·
    have he : some (e1, S1, H1) = some (e, S', H') := by cases e1 <;> first | exact absurd rfl hn | exact he
    simp only [Option.some.injEq, Prod.mk.injEq] at he
    obtain ⟨rfl, rfl, rfl⟩ := he
    have hx : ∀ (l : List Code) id, exitTo id (l.map Item.code ++ k) = exitTo id k := by
     intro l id
     induction l with
     | nil => rfl
     | cons c l ih => exact ih
    cases e1 with
    | normal => exact absurd rfl hn
    | exit id => obtain ⟨a1, a2, a3, a4, a5, a6, a7, a8, a9⟩ := h1; exact ⟨a1, a2, a3, a4, a5, a6, a7, a8.trans (hx l id), a9⟩
    | ret => exact h1
    | panic ch => exact h1
    | goto l => exact h1
    | outgrown => exact h1
def Good1 (P : Program) (B : Nat → Prop) (w0 : World) (fn : Func) (ks : List Code) (S : St) (H : Hp) : Prop :=
 ∀ μ w fr tmps ds cs, HRel P B w0 μ H w → FRel μ S fr tmps ds cs → S.dfd = false → fr.roundOf = none → P.funcs[fr.fn]? = some fn →
  ∃ w' fr', Steps P (lone (fat fr tmps ds (ks.map Item.code)) cs w) (lone fr' cs w') ∧ fr'.kind = fr.kind ∧ fr'.fn = fr.fn ∧ fr'.going P w' (.returned (.bool true)) ∧ Kept B w0 w'
theorem good_seq {fn : Func} {a b : Code} {ks : List Code} (h : Good1 P B w0 fn (a :: b :: ks) S H) : Good1 P B w0 fn (.seq a b :: ks) S H := by
 intro μ w fr tmps ds cs h1 h2 h3 h4 h5
 obtain ⟨w', fr', a1, a2⟩ := h μ w fr tmps ds cs h1 h2 h3 h4 h5
 exact ⟨w', fr', .head st_seq a1, a2⟩
noncomputable def chunkB (Z : Snap) : Option (Exit × St × Hp) → Bool
 | some (.normal, S, H) => gcOk S H Z
 | _ => false
theorem good_chunk {E : Evs} (hc : CodeSound P B w0 E.code) {fn : Func} {l ks : List Code} {Z : Snap} (hz : chunkB Z (evStack E l S H) = true) (h : Good1 P B w0 fn ks Z.S Z.H) : Good1 P B w0 fn (l ++ ks) S H := by
 intro μ w fr tmps ds cs h1 h2 h3 h4 h5
 cases hr : evStack E l S H with
 | none => rw [hr] at hz; cases hz
 | some p =>
  obtain ⟨e, S1, H1⟩ := p
  rw [hr] at hz
  cases e with
  | normal =>
   have hz : gcOk S1 H1 Z = true := hz
   obtain ⟨μ1, w1, t1, d1, cs1, R, st⟩ := evStack_sound hc l S H .normal S1 H1 hr μ w fr tmps ds cs (ks.map Item.code) h1 h2
   have hcs : cs1 = cs := by have := R.c; rw [h3] at this; exact this
   subst hcs
   obtain ⟨μ2, g1, g2⟩ := gc_sound R.h R.f hz
   obtain ⟨w', fr', a1, a2⟩ := h μ2 w1 fr t1 d1 cs1 g1 g2 rfl h4 h5
   rw [List.map_append]
   exact ⟨w', fr', st.trans a1, a2⟩
  | _ => cases hz
theorem good_end {E : Evs} (hc : CodeSound P B w0 E.code) (hdef : DefSound P B w0 E.body) {fn : Func} {ks : List Code} (hz : isTrue (bodyEnd P E fn (evStack E ks S H)) = true) : Good1 P B w0 fn ks S H := by
 intro μ w fr tmps ds cs h1 h2 h3 h4 h5
 cases hr : evStack E ks S H with
 | none => rw [hr] at hz; cases hz
 | some p =>
  obtain ⟨x, S1, H1⟩ := p
  rw [hr] at hz
  have hc := evStack_sound hc ks S H x S1 H1 hr μ w fr tmps ds cs [] h1 h2
  rw [List.append_nil] at hc
  have fin : ∀ (u u1 : FrameMode) (μ1 : Mp) (w1 : World) (t1 : Array Value) (d1 : List Deferred) (cs1 : List Frame) (k1 : List Item), Reached P B w0 μ H S fr cs S1 H1 μ1 w1 t1 d1 cs1 → MRel μ1 u u1 → u ≠ .run →
    Steps P (lone (fat fr tmps ds (ks.map Item.code)) cs w) (lone { fat fr t1 d1 k1 with mode := u1 } cs1 w1) → isTrue (bodyEnd2 S1.um (evLeave P E fn S1.T S1.ds u H1)) = true →
    ∃ w' fr', Steps P (lone (fat fr tmps ds (ks.map Item.code)) cs w) (lone fr' cs w') ∧ fr'.kind = fr.kind ∧ fr'.fn = fr.fn ∧ fr'.going P w' (.returned (.bool true)) ∧ Kept B w0 w' := by
   intro u u1 μ1 w1 t1 d1 cs1 k1 R hm hu hst hend
   have hcs : cs1 = cs := by have := R.c; rw [h3] at this; exact this
   subst hcs
   cases hlv : evLeave P E fn S1.T S1.ds u H1 with
   | none => rw [hlv] at hend; cases hend
   | some q =>
    obtain ⟨e2, H2⟩ := q
    rw [hlv] at hend
    have hend : isTrue (some (e2, S1.um, H2)) = true := hend
    obtain ⟨μ2, w2, e', fr2, g1, g2, g3, g4, g5, g6, g7⟩ := evLeave_sound hdef S1.ds u H1 e2 H2 hlv μ1 w1 { fat fr t1 d1 k1 with mode := u1 } cs1 R.h R.f.t R.f.d hm hu h5
    cases e2 with
    | returned v =>
     cases v with
     | bool b =>
      have hb : b = true := hend
      subst hb
      cases e' with
      | returned v' =>
       have hv : VRel μ2 (.bool true) v' := g3
       rw [hv.bool_inv] at g7
       exact ⟨w2, fr2, hst.trans g4, g5, g6, g7, g1.below⟩
      | panicked c => exact g3.elim
      | outgrown => exact g3.elim
     | _ => cases hend
    | panicked c => cases hend
    | outgrown => cases hend
  cases x with
  | normal =>
   obtain ⟨μ1, w1, t1, d1, cs1, R, hst⟩ := hc
   exact fin .returning .returning μ1 w1 t1 d1 cs1 [] R trivial (fun q => by cases q) (hst.trans (.one (st_end h4))) hz
  | ret =>
   obtain ⟨μ1, w1, t1, d1, cs1, k1, R, hst⟩ := hc
   exact fin .returning .returning μ1 w1 t1 d1 cs1 (.code .ret :: k1) R trivial (fun q => by cases q) (hst.trans (.one (st_ret h4))) hz
  | panic ch =>
   obtain ⟨μ1, w1, t1, d1, cs1, ch', k1, R, hcr, hst⟩ := hc
   exact fin (.panicking ch) (.panicking ch') μ1 w1 t1 d1 cs1 k1 R hcr (fun q => by cases q) hst hz
  | exit id => cases hz
  | goto l => cases hz
  | outgrown => cases hz
end
theorem chunk_calls {P : Program} {w : World} {H : Hp} {f : FuncId} {fn : Func} {c : Code} (hf : P.funcs[f]? = some fn) (hb : fn.body = some c) (h : Laid P w H)
  (hg : Good1 P (fun k => k < w.heap.size) w fn [c] ⟨blank fn.ntmps, fn.ntmps, [], false, .run, none⟩ H) : Calls P f #[] w fun e w' => e = .returned (.bool true) ∧ Below w.heap.size w w' := by
 intro cs
 let fr0 : Frame := Frame.enter P f #[] .normal
 have hfr : fr0 = fat fr0 (#[] ++ Array.replicate (fn.ntmps - 0) undef) [] [.code c] := by simp [fr0, Frame.enter, fat, hf, hb]
 have hF : FRel (firstMp P H) ⟨blank fn.ntmps, fn.ntmps, [], false, .run, none⟩ fr0 (#[] ++ Array.replicate (fn.ntmps - 0) undef) [] cs :=
  ⟨frame_tmps (args' := []) (LRel.nil _) rfl, .nil, rfl, fun _ => rfl, (fun l q => by cases q), (fun q => by cases q)⟩
 obtain ⟨w', fr', a1, a2, a3, a4, a5⟩ := hg (firstMp P H) w fr0 _ [] cs (first_rel h) hF rfl rfl hf
 have e1 : fat fr0 (#[] ++ Array.replicate (fn.ntmps - 0) undef) [] ([c].map Item.code) = fr0 := hfr.symm
 rw [e1] at a1
 obtain ⟨b1, b2, b3⟩ := a4
 exact ⟨.returned (.bool true), w', fr', ⟨rfl, a5.below⟩, a1, a3, b1, b2, a2, b3⟩
end Go.Cre
set_option linter.unusedVariables false
set_option linter.unusedSimpArgs false
namespace Go.Cre
open Go.RowKit
noncomputable def tabGet (f : Nat) : List (Nat × Value) → Option Value
 | [] => none
 | (g, v) :: l => bif Nat.beq g f then some v else tabGet f l
noncomputable def bodyT (P : Program) (ft : Tr Func) (E : Evs) (f : FuncId) (args : List Value) (dfd : Bool) (um : FrameMode) (H : Hp) : Option Value → Option (Ending × FrameMode × Hp)
 | some v => (match args, dfd with
  | [], false => some (.returned v, um, H)
  | _, _ => evBody P ft E f args dfd um H)
 | none => evBody P ft E f args dfd um H
noncomputable def evBodyT (P : Program) (ft : Tr Func) (tab : List (Nat × Value)) (E : Evs) (f : FuncId) (args : List Value) (dfd : Bool) (um : FrameMode) (H : Hp) : Option (Ending × FrameMode × Hp) := bodyT P ft E f args dfd um H (tabGet f tab)
noncomputable def evsT (P : Program) (ft : Tr Func) (tab : List (Nat × Value)) (n : Nat) : Evs :=
 Nat.rec (motive := fun _ => Evs) ⟨fun _ _ _ => none, fun _ _ _ _ _ => none⟩ (fun _ E => ⟨evCode P E, evBodyT P ft tab E⟩) n
def TabOk (P : Program) (H0 : Hp) (tab : List (Nat × Value)) : Prop :=
 ∀ f v, tabGet f tab = some v → plain v = true ∧ (∃ fn c, P.funcs[f]? = some fn ∧ fn.body = some c) ∧ ∀ w, Laid P w H0 → Calls P f #[] w fun e w' => e = .returned v ∧ Below w.heap.size w w'
section
variable {P : Program} {B : Nat → Prop} {w0 w w' : World} {μ : Mp} {H H0 : Hp}
theorem HRel.grow (h : HRel P B w0 μ H w) (hb : Below w.heap.size w w') : HRel P B w0 μ H w' := by
 have hlt : ∀ x L', μ x = some L' → L'.r < w.heap.size := fun x L' hx => by
  obtain ⟨b', o', _, ho, _⟩ := h.blk x L' hx
  rcases Nat.lt_or_ge L'.r w.heap.size with hh | hh
  ·
   exact hh
  ·
   rw [Array.getElem?_eq_none hh] at ho; cases ho
 refine ⟨h.below.trans (.of_below hb h.bsz), fun k hk => Nat.lt_of_lt_of_le (h.bsz k hk) hb.size, fun x L hx => ?_, h.sep, h.lt, h.own, h.new, h.glob, h.glt, h.famLt, h.famMem, h.famSort⟩
 obtain ⟨b, o, h1, h2, h3⟩ := h.blk x L hx
 exact ⟨b, o, h1, by rw [hb.block _ (hlt x L hx)]; exact h2, h3⟩
def LaidIn (H0 : Hp) (B : Nat → Prop) : Prop := ∀ g b, H0.mem.get g = some b → b ≠ .dead → B g
theorem Laid.keep {B : Nat → Prop} (h : Laid P w0 H0) (hB : LaidIn H0 B) (hk : Kept B w0 w) : Laid P w H0 := by
 refine ⟨h.fam, h.nx, fun g b hg => ?_⟩
 rcases h.rows g b hg with q | ⟨cells, e, f, q1, q2, q3, q4, q5⟩
 ·
  exact .inl q
 ·
  exact .inr ⟨cells, e, f, q1, q2, by rw [hk.block g (hB g b hg (by rw [q1]; intro q; cases q))]; exact q3, q4, q5⟩
theorem Laid.inB (h : Laid P w0 H0) : LaidIn H0 (fun k => k < w0.heap.size) := fun g b hg hb => by
 rcases h.rows g b hg with q | ⟨cells, e, f, q1, q2, q3, q4, q5⟩
 ·
  exact absurd q hb
 ·
  exact (Array.getElem?_eq_some_iff.1 q3).1
theorem evBodyT_def {ft : Tr Func} {tab : List (Nat × Value)} (hP : PF P ft) {E : Evs} (hcode : CodeSound P B w0 E.code) (hdef : DefSound P B w0 E.body) : DefSound P B w0 (evBodyT P ft tab E) := by
 intro f args um H e um' H' he
 refine evBody_def hP hcode hdef f args um H e um' H' ?_
 unfold evBodyT bodyT at he
 cases hg : tabGet f tab with
 | none => rw [hg] at he; exact he
 | some v => rw [hg] at he; cases args <;> exact he
theorem evBodyT_call {ft : Tr Func} {tab : List (Nat × Value)} (hP : PF P ft) (ht : TabOk P H0 tab) (hl0 : Laid P w0 H0) (hB : LaidIn H0 B) {E : Evs} (hcode : CodeSound P B w0 E.code) (hdef : DefSound P B w0 E.body) :
  CallSound P B w0 (Evs.call ⟨E.code, evBodyT P ft tab E⟩) := by
 intro f args H e H' he μ w args' h hl
 have base : (Evs.call ⟨E.code, evBody P ft E⟩) f args H = some (e, H') → _ := fun q => evBody_call hP hcode hdef f args H e H' q μ w args' h hl
 unfold Evs.call at he base
 simp only at he base
 unfold evBodyT bodyT at he
 cases hg : tabGet f tab with
 | none => rw [hg] at he; exact base he
 | some v =>
  rw [hg] at he
  cases args with
  | cons a l => exact base he
  | nil =>
   simp only [Option.some.injEq, Prod.mk.injEq] at he
   obtain ⟨rfl, rfl⟩ := he
   obtain rfl := hl.inv_nil
   obtain ⟨hp, ⟨fn, c, hf, hb⟩, hc⟩ := ht f v hg
   refine .inr ⟨enter_run hf hb (hP.num f fn hf (by rw [hb]; rfl)) _ w, ?_⟩
   refine Calls.mono (hc w (hl0.keep hB h.below)) fun e' w' ⟨he', hbl⟩ => ?_
   subst he'
   exact ⟨μ, h.grow hbl, Step.refl _ _, plain_rel hp⟩
theorem evsT_soundA {ft : Tr Func} {tab : List (Nat × Value)} (hP : PF P ft) (ht : TabOk P H0 tab) : ∀ n, ∀ (B : Nat → Prop) (w0 : World), Laid P w0 H0 → LaidIn H0 B → CodeSound P B w0 (evsT P ft tab n).code ∧ DefSound P B w0 (evsT P ft tab n).body ∧ CallSound P B w0 (evsT P ft tab n).call := by
 intro n
 induction n with
 | zero => intro B w0 _ _; exact ⟨(fun c S H e S' H' he => by cases he), (fun f args um H e um' H' he => by cases he), (fun f args H e H' he => by cases he)⟩
 | succ n ih =>
  intro B w0 hl hB
  obtain ⟨h1, h2, h3⟩ := ih B w0 hl hB
  have up : ∀ (Bx : Nat → Prop) (wx : World), (∀ k, B k → Bx k) → Kept B w0 wx → Laid P wx H0 ∧ LaidIn H0 Bx := fun Bx wx a b => ⟨hl.keep hB b, fun g b' hg hb => a g (hB g b' hg hb)⟩
  exact ⟨evCode_sound hP.mix h1 (fun Bx wx a b => (ih Bx wx (up Bx wx a b).1 (up Bx wx a b).2).2.2) (fun Bx wx a b => yld_sound (ih Bx wx (up Bx wx a b).1 (up Bx wx a b).2).1) (range_sound h3), evBodyT_def hP h1 h2, evBodyT_call hP ht hl hB h1 h2⟩
theorem evsT_sound {ft : Tr Func} {tab : List (Nat × Value)} (hP : PF P ft) (ht : TabOk P H0 tab) (hl0 : Laid P w0 H0) (n : Nat) : CodeSound P (fun k => k < w0.heap.size) w0 (evsT P ft tab n).code ∧ DefSound P (fun k => k < w0.heap.size) w0 (evsT P ft tab n).body ∧ CallSound P (fun k => k < w0.heap.size) w0 (evsT P ft tab n).call :=
 evsT_soundA hP ht n _ w0 hl0 hl0.inB
noncomputable def hd : Code → Code
 | .seq a _ => a
 | c => c
noncomputable def tl : Code → Code
 | .seq _ b => b
 | _ => .skip
noncomputable def bodyC (fn : Func) : Code := match fn.body with | some c => c | none => .skip
noncomputable def first1 (fn : Func) : St := ⟨blank fn.ntmps, fn.ntmps, [], false, .run, none⟩
theorem good_next {E : Evs} {fn : Func} {c : Code} {S : St} {Z : Snap} (hc : CodeSound P B w0 E.code) (hs : c = .seq (hd c) (tl c)) (hz : chunkB Z (evStack E [hd c] S H) = true) (h : Good1 P B w0 fn [tl c] Z.S Z.H) : Good1 P B w0 fn [c] S H := by
 rw [hs]
 exact good_seq (good_chunk (l := [hd c]) hc hz h)
noncomputable def tls : Nat → Code → Code
 | 0, c => c
 | n + 1, c => tls n (tl c)
noncomputable def isSeq : Code → Bool
 | .seq _ _ => true
 | _ => false
noncomputable def areSeq : Nat → Code → Bool
 | 0, _ => true
 | n + 1, c => isSeq c && areSeq n (tl c)
noncomputable def chunkN (E : Evs) (Z : Snap) : Nat → Code → St → Hp → Bool
 | 0, c, S, H => chunkB Z (evStack E [hd c] S H)
 | n + 1, c, S, H => match evStack E [hd c] S H with
  | some (.normal, S, H) => chunkN E Z n (tl c) S H
  | _ => false
theorem isSeq_eq {c : Code} (h : isSeq c = true) : c = .seq (hd c) (tl c) := by cases c <;> first | rfl | cases h
theorem tabOk_nil : TabOk P H0 [] := fun f v h => by cases h
theorem tabOk_cons {tab : List (Nat × Value)} {f : Nat} {v : Value} {fn : Func} {c : Code} (hp : plain v = true) (hf : P.funcs[f]? = some fn) (hb : fn.body = some c)
  (hc : ∀ w, Laid P w H0 → Calls P f #[] w fun e w' => e = .returned v ∧ Below w.heap.size w w') (ht : TabOk P H0 tab) : TabOk P H0 ((f, v) :: tab) := by
 intro g u h
 unfold tabGet at h
 cases hb' : Nat.beq f g with
 | true =>
  rw [hb', cond_true] at h
  injection h with h; subst h
  obtain rfl := Nat.eq_of_beq_eq_true hb'
  exact ⟨hp, ⟨fn, c, hf, hb⟩, hc⟩
 | false => rw [hb', cond_false] at h; exact ht g u h
end
end Go.Cre
set_option linter.unusedVariables false
set_option linter.unusedSimpArgs false
namespace Go.Cre
theorem leaving_of_alone {P : Program} {last : Machine} {w : World} {t : Trace} (h : aloneAtReturn P last w t) : leavingAtReturn P last w t := by
 obtain ⟨⟨h1, h2⟩, h3, h4⟩ := h
 refine ⟨h3, ⟨fun g hg => ⟨0, ?_⟩, h2⟩, h4⟩
 unfold Machine.othersDone at h1
 have h5 : ∀ x : Goroutine, x ∈ last.gs.toList.tail → x.status = .finished := by simpa using h1
 exact h5 g (by simpa using hg)
theorem leaving_of_handed {a : Assume} {C : Checked} {os : Os} {f : FuncId} {r : Reach} {Pre : World → Array Value → Prop} {Post : World → Array Value → Value → World → Prop} (h : ReturnsInHanded a C os f r Pre Post) : ReturnsInLeavingWide a C os f r Pre Post :=
 fun enter => ReturnsInOpen.mono (fun _ _ _ x => leaving_of_alone x) (fun _ x => x) (h enter)
theorem holds_tied_goes (Lk : Looks) {p : Pinned} {s : OpenSpec} {c : OpenClaim} (kinds : List LaidKind) (tests : Bool) (har : Bool × String) (lk : Bool)
  (hc : c.holds p s) (hw : c.wfByText s = true) (htie : c.laidByTextAt Lk p kinds tests)
  (hst : c.start = .entering) (hnb : c.noBlocks = false ∧ c.again = false) (hm : p.checked.prog.mainIs = some (har.1, har.2.toList)) (hn : (!har.1 && har.2.isEmpty && !lk) = false)
  (hl : ∀ f fn, p.checked.prog.funcNamed c.func = some f → p.checked.prog.funcs[f]? = some fn → lk = p.checked.prog.looks [] ∧ ∀ (j : Nat) t, fn.params[j]? = some t → p.checked.prog.wantsStandIn t = false)
  (hg : true = c.goesBy p.checked.prog) :
  Claim7.holds p (.plain s) { stood := { row := c, standIns := [], harness := har, looks := lk }, kinds := [], alts := [], goes := true, laidByText := true, laidKinds := kinds, laidTests := tests, laidLooks := Lk } := by
 have h6 : ∀ r : OpenClaim, Claim7.isSixth { stood := { row := r, standIns := [], harness := har, looks := lk }, kinds := [] } = false := fun r => by simpa [Claim7.isSixth] using hn
 exact ⟨Claim7.tied_new_at Lk kinds tests (Claim7.new_of_sixth hc har lk hst hnb hm (h6 c) hl) hw, (fun D hD => by cases hD), htie, (fun h => by cases h), hg⟩
end Go.Cre
set_option linter.unusedVariables false
set_option linter.unusedSimpArgs false
namespace Go.Cre
def boolData {H : Type} (bs : List Bool) : DataW H := .agg (bs.map fun b => .lit (.bool b))
def BoolsAre (P : Program) (w : World) (name : String) (bs : List Bool) : Prop := w.var? P name = some (bs.map Value.bool).toArray
theorem bools_cells {H : Type} {enc : TypeId × Value → H} {P : Program} {w : World} {base : Nat} {sp : Nat → Bool} {held : Bool} {fuel : Nat} {t e : TypeId} {n : Nat} {cs : List Value} {bs : List Bool} {p : List MemPlace}
  (ht : P.underlying t = some (.array n e)) (he : P.underlying e = some .bool) (hce : P.cellsOf e = 1) (hct : P.cellsOf t = n)
  (h : DataW.trod enc P w base sp held fuel t cs = some (boolData bs, p)) : cs = bs.map Value.bool := by
 cases fuel with
 | zero => simp [DataW.trod] at h
 | succ fuel =>
  simp only [DataW.trod, ht, hce, hct, Nat.mul_one] at h
  split at h
  ·
   rename_i hl
   obtain ⟨xs, hm, hx⟩ := Option.map_eq_some_iff.1 h
   have e1 : xs.map (·.1) = bs.map fun b => (DataW.lit (.bool b) : DataW H) := by have := congrArg Prod.fst hx; simpa [boolData] using this
   have e2 : xs.length = n := by simpa using Lib.mapM_length hm
   have e3 : bs.length = n := by have := congrArg List.length e1; simp at this; omega
   refine List.ext_getElem? fun i => ?_
   rcases Nat.lt_or_ge i n with hi | hi
   ·
    obtain ⟨b, hb, hf⟩ := Lib.mapM_at hm i i (by simp [hi])
    obtain ⟨z, hc, rfl⟩ := DataW.trod_bool he hf
    have h1 : cs[i]? = some (.bool z) := by have := congrArg (·[0]?) hc; simpa [List.getElem?_take, List.getElem?_drop] using this
    have h2 : (xs.map (·.1))[i]? = some (DataW.lit (.bool z) : DataW H) := by simp [hb]
    rw [e1] at h2
    simp only [List.getElem?_map, Option.map_eq_some_iff, DataW.lit.injEq, Lit.bool.injEq] at h2
    obtain ⟨z', hz', rfl⟩ := h2
    simp [h1, hz']
   ·
    rw [List.getElem?_eq_none (by omega), List.getElem?_eq_none (by simp; omega)]
  ·
   cases h
theorem bools_head {P : Program} {W : World} {name : String} {bs : List Bool} {rest : List (String × DataW Unit)} {g : Nat} {t e : TypeId} {n : Nat}
  (hg : P.globalNamed name = some g) (hty : (P.globals[g]?).map (·.type) = some t) (ht : P.underlying t = some (.array n e)) (he : P.underlying e = some .bool) (hce : P.cellsOf e = 1) (hct : P.cellsOf t = n)
  (h : laidMet P ((name, boolData bs) :: rest) W) : BoolsAre P W name bs := by
 obtain ⟨ps, ⟨g', t', cs, fuel, p, q, hg', ht', hvar, hd, _, _⟩, _⟩ := h
 obtain rfl := Option.some.inj (hg.symm.trans hg')
 obtain rfl := Option.some.inj (hty.symm.trans ht')
 unfold BoolsAre
 rw [hvar, ← bools_cells ht he hce hct hd]
theorem laid_rowB {P : Program} {W : World} {name : String} {bs : List Bool} {g : Nat} {t : TypeId} (hg : P.globalNamed name = some g) (hlt : g < P.globals.size)
  (hr : (((begin P (fun _ _ => 0) default).world.heap[g]?).bind Obj.row?).map (·.2) = some t) (hs : W.ShapedOpen P) (ht : BoolsAre P W name bs) : ∃ f, W.heap[g]? = some (.cells (bs.map Value.bool).toArray t f) := by
 obtain ⟨⟨zero, t'⟩, h1, h2⟩ := Option.map_eq_some_iff.1 hr
 simp only at h2; subst h2
 obtain ⟨cs, a, _⟩ := hs.1 g zero t' hlt h1
 unfold BoolsAre World.var? at ht
 rw [hg] at ht
 simp only [Option.bind_some, a, Option.some.injEq] at ht
 subst ht
 exact ⟨_, a⟩
end Go.Cre

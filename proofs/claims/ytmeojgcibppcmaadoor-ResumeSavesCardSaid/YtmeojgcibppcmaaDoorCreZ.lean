/- A part of the proof of ResumeSaves. -/
import Derived.Test.YtmeojgcibppcmaaDoorCreY3
import Derived.ChangeSame
import Derived.Lib.LaidTab
import Derived.Conc.Holds
import Derived.SevenTiedAt
set_option linter.unusedVariables false
set_option linter.unusedSimpArgs false
namespace Go.Cre
open Go.RowKit
section
variable {P : Program} {w : World} {H : Hp}
structure Laid (P : Program) (w : World) (H : Hp) : Prop where
 fam : H.fam = .leaf
 nx : H.nx = H.glo
 rows : ∀ g b, H.mem.get g = some b → b = .dead ∨ ∃ cells e f, b = .row cells e false 0 farFz true ∧ g < H.glo ∧ w.heap[g]? = some (.cells cells.toArray e f) ∧ cells.all plain = true ∧ cells.length ≤ farFz
noncomputable def firstMp (P : Program) (H : Hp) : Mp := fun g => match H.mem.get g with
 | some (.row cells e _ _ _ _) => some ⟨g, cells.length, P.cellsOf e⟩
 | _ => none
theorem first_rel (h : Laid P w H) : HRel P (fun k => k < w.heap.size) w (firstMp P H) H w := by
 have inv : ∀ g L, firstMp P H g = some L → ∃ cells e f, H.mem.get g = some (.row cells e false 0 farFz true) ∧ L = ⟨g, cells.length, P.cellsOf e⟩ ∧ g < H.glo ∧ w.heap[g]? = some (.cells cells.toArray e f) ∧ cells.all plain = true ∧ cells.length ≤ farFz := by
  intro g L q; unfold firstMp at q; cases hm : H.mem.get g with
  | none => rw [hm] at q; cases q
  | some b =>
   rw [hm] at q; rcases h.rows g b hm with rfl | ⟨cells, e, f, rfl, a1, a2, a3, a4⟩
   ·
    cases q
   ·
    injection q with q; subst q
    exact ⟨cells, e, f, rfl, rfl, a1, a2, a3, a4⟩
 refine ⟨Kept.refl _ _, fun _ hk => hk, ?_, ?_, ?_, ?_, ?_, ?_, by rw [h.nx]; exact Nat.le_refl _, ?_, ?_, ?_⟩
 ·
  intro g L q; obtain ⟨cells, e, f, a1, rfl, a3, a4, a5, a6⟩ := inv g L q; refine ⟨_, _, a1, a4, rfl, by simp, rfl, Nat.le_refl _, fun _ => rfl, fun i v v' x y => ?_, ⟨fun off ho _ _ => Nat.lt_of_lt_of_le ho a6, fun q => by cases q⟩⟩; have : v = v' := by
   rw [List.getElem?_toArray] at y; rw [x] at y; injection y
  subst this; exact plain_rel (List.all_eq_true.1 a5 v (List.mem_of_getElem? x))
 ·
  intro x y L1 L2 hxy hx hy hr; obtain ⟨_, _, _, _, rfl, _⟩ := inv x L1 hx; obtain ⟨_, _, _, _, rfl, _⟩ := inv y L2 hy; exact absurd hr hxy
 ·
  intro x L hx; obtain ⟨_, _, _, _, _, a, _⟩ := inv x L hx; rw [h.nx]; exact a
 ·
  intro x L hx _; obtain ⟨_, _, _, _, rfl, _⟩ := inv x L hx; rfl
 ·
  intro x L hx hg _; obtain ⟨_, _, _, _, _, a, _⟩ := inv x L hx; omega
 ·
  intro g c e o f z s _ hm; exact ⟨⟨g, c.length, P.cellsOf e⟩, by unfold firstMp; rw [hm]⟩
 ·
  intro x c e f z s hm; rcases h.rows x _ hm with q | ⟨_, _, _, q, _⟩ <;> cases q
 ·
  intro f l x hl; rw [h.fam] at hl; cases hl
 ·
  intro f l hl; rw [h.fam] at hl; cases hl
noncomputable def isTrue (x : Option (Ending × FrameMode × Hp)) : Bool := match x with | some (.returned (.bool b), _, _) => b | _ => false
theorem closed_calls {ft : Tr Func} (hP : PF P ft) {n : Nat} {f : FuncId} {fn : Func} {c : Code} (hf : P.funcs[f]? = some fn) (hb : fn.body = some c) (h : Laid P w H) (he : isTrue ((evs P ft n).body f [] false .run H) = true) :
  Calls P f #[] w fun e w' => e = .returned (.bool true) ∧ Below w.heap.size w w' := by
 cases hr : (evs P ft n).body f [] false .run H with
 | none => rw [hr] at he; cases he
 | some p =>
  obtain ⟨e, um, H'⟩ := p; rw [hr] at he; have hc : (evs P ft n).call f [] H = some (e, H') := by unfold Evs.call; rw [hr]
  have hs := (evs_sound (B := fun k => k < w.heap.size) (w0 := w) hP n).2.2 f [] H e H' hc (firstMp P H) w [] (first_rel h) (LRel.nil _); rcases hs with ⟨v, v', w', μ', _, q, _⟩ | ⟨_, q⟩
  ·
   rw [enter_run hf hb (hP.num f fn hf (by rw [hb]; rfl))] at q; cases q
  ·
   refine Calls.mono q fun e' w' ⟨μ', g1, g2, g3⟩ => ?_; cases e with
   | returned v =>
    cases v with
    | bool b =>
     have he : b = true := he; subst he; cases e' with
     | returned v' =>
      have hv : VRel μ' (.bool true) v' := g3; rw [hv.bool_inv]; exact ⟨rfl, g1.below.below⟩
     | panicked c => exact g3.elim
     | outgrown => exact g3.elim
    | _ => cases he
   | panicked c => cases he
   | outgrown => cases he
theorem trOf_get {α : Type} : ∀ {l : List α} {i : Nat} {T T' : Tr α}, trOf l i T = some T' → ∀ t, T'.get t = if i ≤ t ∧ t < i + l.length then l[t - i]? else T.get t := by
 intro l; induction l with
 | nil => intro i T T' h t; simp [trOf] at h; subst h; rw [if_neg (by rw [List.length_nil]; omega)]
 | cons v l ih =>
  intro i T T' h t; simp only [trOf] at h; cases hs : Tr.set trDepth T i v with
  | none => rw [hs] at h; cases h
  | some T1 =>
   rw [hs] at h; rw [ih h t, Tr.get_set hs]; by_cases h1 : i + 1 ≤ t ∧ t < i + 1 + l.length
   ·
    rw [if_pos h1, if_pos (by rw [List.length_cons]; omega)]; have : t - i = (t - (i + 1)) + 1 := by omega
    rw [this]; rfl
   ·
    rw [if_neg h1]; by_cases h2 : t = i
    ·
     subst h2; rw [if_pos rfl, if_pos (by simp)]; simp
    ·
     rw [if_neg h2, if_neg (by rw [List.length_cons]; omega)]
noncomputable def ftOf (P : Program) : Tr Func := match trOf P.funcs.toList 0 .leaf with | some t => t | none => .leaf
noncomputable def numOk (P : Program) : Bool := P.funcs.toList.all fun fn => fn.body.isNone || !(fn.name == "runtime.NumGoroutine")
theorem pf_of (hm : P.follows .mixedOrders = true) (hn : numOk P = true) : PF P (ftOf P) := by
 refine ⟨hm, fun f fn h => ?_, fun f fn hf hb => ?_⟩
 ·
  unfold ftOf at h; cases ht : trOf P.funcs.toList 0 .leaf with
  | none => rw [ht] at h; cases h
  | some t =>
   rw [ht] at h; rw [trOf_get ht] at h; split at h
   ·
    simpa using h
   ·
    cases h
 ·
  unfold numOk at hn; rw [List.all_eq_true] at hn; have := hn fn (by simpa using Array.mem_of_getElem? hf); cases hbb : fn.body with
  | none => rw [hbb] at hb; cases hb
  | some c => simpa [hbb] using this
noncomputable def lay (T : Tr Blk) : List (Nat × TypeId × List Value) → Tr Blk
 | [] => T
 | (g, e, cells) :: l => match Tr.put (.row cells e false 0 farFz true) (lay T l) g with
  | some T' => T'
  | none => lay T l
theorem lay_get {T : Tr Blk} : ∀ {l : List (Nat × TypeId × List Value)} {g : Nat} {b : Blk}, (lay T l).get g = some b → T.get g = some b ∨ ∃ e cells, (g, e, cells) ∈ l ∧ b = .row cells e false 0 farFz true := by
 intro l; induction l with
 | nil => intro g b h; exact .inl h
 | cons x l ih =>
  intro g b h; obtain ⟨g', e, cells⟩ := x; simp only [lay] at h; cases hp : Tr.put (Blk.row cells e false 0 farFz true) (lay T l) g' with
  | none =>
   rw [hp] at h; rcases ih h with q | ⟨e', c', q1, q2⟩
   ·
    exact .inl q
   ·
    exact .inr ⟨e', c', by simp [q1], q2⟩
  | some T' =>
   rw [hp] at h; simp only at h; rw [Tr.get_put hp] at h; by_cases hg : g = g'
   ·
    subst hg; rw [if_pos rfl] at h; injection h with h
    exact .inr ⟨e, cells, by simp, h.symm⟩
   ·
    rw [if_neg hg] at h; rcases ih h with q | ⟨e', c', q1, q2⟩
    ·
     exact .inl q
    ·
     exact .inr ⟨e', c', by simp [q1], q2⟩
noncomputable def firstHp (n d : Nat) (l : List (Nat × TypeId × List Value)) : Hp := ⟨lay (Tr.full .dead d) l, n, .leaf, 0, n⟩
theorem laid_of {n d : Nat} {l : List (Nat × TypeId × List Value)} (h : ∀ g e cells, (g, e, cells) ∈ l → g < n ∧ (∃ f, w.heap[g]? = some (.cells cells.toArray e f)) ∧ cells.all plain = true ∧ cells.length ≤ farFz) : Laid P w (firstHp n d l) := by
 refine ⟨rfl, rfl, fun g b hb => ?_⟩; rcases lay_get hb with q | ⟨e, cells, q1, q2⟩
 ·
  rcases Tr.get_full Blk.dead d g with r | r
  ·
   rw [r] at q; cases q
  ·
   rw [r] at q; injection q with q; exact .inl q.symm
 ·
  obtain ⟨a1, ⟨f, a2⟩, a3, a4⟩ := h g e cells q1; exact .inr ⟨cells, e, f, q2, a1, a2, a3, a4⟩
end
end Go.Cre
namespace Go.Cre
open Go.ChangeShapes
theorem laid_row {P : Program} {W : World} {name : String} {k : IntKind} {zs : List Int} {g : Nat} {t : TypeId} (hg : P.globalNamed name = some g) (hlt : g < P.globals.size)
  (hr : (((begin P (fun _ _ => 0) default).world.heap[g]?).bind Obj.row?).map (·.2) = some t) (hs : W.ShapedOpen P) (ht : Lib.TabIs P W name k zs) : ∃ f, W.heap[g]? = some (.cells (zs.map fun z => Value.int k z).toArray t f) := by
 obtain ⟨⟨zero, t'⟩, h1, h2⟩ := Option.map_eq_some_iff.1 hr; simp only at h2; subst h2; obtain ⟨cs, a, _⟩ := hs.1 g zero t' hlt h1; unfold Lib.TabIs World.var? at ht; rw [hg] at ht; simp only [Option.bind_some, a, Option.some.injEq] at ht; subst ht; exact ⟨_, a⟩
end Go.Cre
namespace Go.Cre
open Go.RowKit
noncomputable def vIn (p : Nat → Bool) : Nat → Value → Bool
 | 0, _ => false
 | n + 1, v => match v with
  | .bool _ => true
  | .int _ _ => true
  | .string _ => true
  | .nilFunc => true
  | .nilIface => true
  | .pointer none => true
  | .slice none _ _ => true
  | .map none => true
  | .pointer (some a) => p a.block
  | .slice (some a) _ _ => p a.block
  | .map (some r) => p r
  | .iface _ v => vIn p n v
  | .agg cs => cs.toList.all (vIn p n)
  | .tuple cs => cs.toList.all (vIn p n)
  | .func f a b => notYield f && a.toList.all (vIn p n) && b.toList.all (vIn p n)
  | _ => false
noncomputable def bIn (p : Nat → Bool) : Blk → Bool
 | .row cells _ _ _ _ _ => cells.all (vIn p 8)
 | .map es _ => es.all fun e => vIn p 8 e.val
 | _ => false
structure Snap where
 n : Nat
 live : List (Nat × Value)
 nx : Nat
 nf : Nat
 glo : Nat
 blks : List (Nat × Blk)
 fams : List (Nat × List Nat)
 dT : Nat
 dM : Nat
 dF : Nat
noncomputable def layG {α : Type} (T : Tr α) : List (Nat × α) → Tr α
 | [] => T
 | (g, b) :: l => match Tr.put b (layG T l) g with
  | some T' => T'
  | none => layG T l
noncomputable def Tr.nones {α : Type} (d : Nat) : Tr α := Nat.rec (motive := fun _ => Tr α) .leaf (fun _ t => .node none t t) d
noncomputable def Snap.S (A : Snap) : St := ⟨layG (Tr.nones A.dT) A.live, A.n, [], false, .run, none⟩
noncomputable def Snap.H (A : Snap) : Hp := ⟨layG (Tr.full .dead A.dM) A.blks, A.nx, layG (Tr.full [] A.dF) A.fams, A.nf, A.glo⟩
noncomputable def Snap.ids (A : Snap) : List Nat := A.blks.map (·.1)
noncomputable def Mp.only (μ : Mp) (p : Nat → Bool) : Mp := fun i => if p i then μ i else none
theorem only_mk {μ : Mp} {p : Nat → Bool} {id : Nat} {L : Loc} (h : μ id = some L) (hp : p id = true) : μ.only p id = some L := by
 unfold Mp.only; rw [if_pos hp]; exact h
theorem VRel.only {μ : Mp} {p : Nat → Bool} {v v' : Value} (h : VRel μ v v') : ∀ n, vIn p n v = true → VRel (μ.only p) v v' := by
 induction h with
 | atom v h => intro n _; exact .atom v h
 | ptr id off L h => intro n q; cases n with | zero => cases q | succ n => exact .ptr id off L (only_mk h q)
 | sliceE id off len cap L h hc => intro n q; cases n with | zero => cases q | succ n => exact .sliceE id off len cap L (only_mk h q) hc
 | sliceO id off len cap L h hc hn => intro n q; cases n with | zero => cases q | succ n => exact .sliceO id off len cap L (only_mk h q) hc hn
 | sliceZ id off off' L h => intro n q; cases n with | zero => cases q | succ n => exact .sliceZ id off off' L (only_mk h q)
 | sliceX a => intro n _; exact .sliceX a
 | map id L h => intro n q; cases n with | zero => cases q | succ n => exact .map id L (only_mk h q)
 | wild v h => intro n _; exact .wild v h
 | func fn a b a' b' hy ha hb _ _ iha ihb =>
  intro n q; cases n with
  | zero => cases q
  | succ n =>
   have q : (notYield fn && a.toList.all (vIn p n) && b.toList.all (vIn p n)) = true := q; simp only [Bool.and_eq_true, List.all_eq_true] at q; exact .func fn a b a' b' hy ha hb (fun i v v' x y => iha i v v' x y n (q.1.2 v (by simpa using Array.mem_of_getElem? x))) (fun i v v' x y => ihb i v v' x y n (q.2 v (by simpa using Array.mem_of_getElem? x)))
 | yield l L h => intro n q; cases n with | zero => cases q | succ n => simp [vIn, notYield] at q
 | iface t v v' _ ih => intro n q; cases n with | zero => cases q | succ n => exact .iface t v v' (ih n q)
 | agg a a' hs _ ih =>
  intro n q; cases n with
  | zero => cases q
  | succ n =>
   have q : a.toList.all (vIn p n) = true := q; rw [List.all_eq_true] at q; exact .agg a a' hs fun i v v' x y => ih i v v' x y n (q v (by simpa using Array.mem_of_getElem? x))
 | tuple a a' hs _ ih =>
  intro n q; cases n with
  | zero => cases q
  | succ n =>
   have q : a.toList.all (vIn p n) = true := q; rw [List.all_eq_true] at q; exact .tuple a a' hs fun i v v' x y => ih i v v' x y n (q v (by simpa using Array.mem_of_getElem? x))
section
variable {P : Program} {B : Nat → Prop} {w0 w : World} {μ : Mp} {H : Hp} {S : St} {fr : Frame} {tmps : Array Value} {ds : List Deferred} {cs : List Frame}
theorem BRel.only {p : Nat → Bool} {L : Loc} {b : Blk} {o : Obj} (h : BRel P μ L b o) (hb : bIn p b = true) : BRel P (μ.only p) L b o := by
 cases b with
 | row cells elem opn fam fz sh =>
  cases o with
  | cells c e f =>
   have hb : cells.all (vIn p 8) = true := hb; rw [List.all_eq_true] at hb; obtain ⟨h1, h2, h3, h4, h5, h6, h7⟩ := h; exact ⟨h1, h2, h3, h4, h5, fun i v v' x y => (h6 i v v' x y).only 8 (hb v (List.mem_of_getElem? x)), h7⟩
  | _ => exact h
 | map es clock =>
  cases o with
  | map es' clock' =>
   have hb : (es.all fun e => vIn p 8 e.val) = true := hb; rw [List.all_eq_true] at hb; obtain ⟨l, h1, h2⟩ := h; have key : ∀ {es l : List MapEntry}, ERel0 μ es l → (∀ x ∈ es, vIn p 8 x.val = true) → ERel0 (μ.only p) es l := by
    intro es l h2; induction h2 with
    | nil => intro _; exact .nil
    | cons a b es es' q1 q2 q3 _ ih => intro hb; exact .cons a b es es' q1 q2 (q3.only 8 (hb a (by simp))) (ih fun x hx => hb x (by simp [hx]))
   exact ⟨l, h1, key h2 hb⟩
  | _ => exact h
 | loop l => cases hb
 | dfr d => cases hb
 | dead => cases hb
end
end Go.Cre
namespace Go.Cre
open Go.RowKit
noncomputable def tabGet (f : Nat) : List (Nat × Value) → Option Value
 | [] => none
 | (g, v) :: l => bif Nat.beq g f then some v else tabGet f l
noncomputable def bodyT (P : Program) (ft : Tr Func) (E : Evs) (f : FuncId) (args : List Value) (dfd : Bool) (um : FrameMode) (H : Hp) : Option Value → Option (Ending × FrameMode × Hp)
 | some v => (match args, dfd with
  | [], false => some (.returned v, um, H)
  | _, _ => evBody P ft E f args dfd um H)
 | none => evBody P ft E f args dfd um H
def TabOk (P : Program) (H0 : Hp) (tab : List (Nat × Value)) : Prop :=
 ∀ f v, tabGet f tab = some v → plain v = true ∧ (∃ fn c, P.funcs[f]? = some fn ∧ fn.body = some c) ∧ ∀ w, Laid P w H0 → Calls P f #[] w fun e w' => e = .returned v ∧ Below w.heap.size w w'
section
variable {P : Program} {B : Nat → Prop} {w0 w w' : World} {μ : Mp} {H H0 : Hp}
theorem HRel.grow (h : HRel P B w0 μ H w) (hb : Below w.heap.size w w') : HRel P B w0 μ H w' := by
 have hlt : ∀ x L', μ x = some L' → L'.r < w.heap.size := fun x L' hx => by
  obtain ⟨b', o', _, ho, _⟩ := h.blk x L' hx; rcases Nat.lt_or_ge L'.r w.heap.size with hh | hh
  ·
   exact hh
  ·
   rw [Array.getElem?_eq_none hh] at ho; cases ho
 refine ⟨h.below.trans (.of_below hb h.bsz), fun k hk => Nat.lt_of_lt_of_le (h.bsz k hk) hb.size, fun x L hx => ?_, h.sep, h.lt, h.own, h.new, h.glob, h.glt, h.famLt, h.famMem, h.famSort⟩; obtain ⟨b, o, h1, h2, h3⟩ := h.blk x L hx; exact ⟨b, o, h1, by rw [hb.block _ (hlt x L hx)]; exact h2, h3⟩
def LaidIn (H0 : Hp) (B : Nat → Prop) : Prop := ∀ g b, H0.mem.get g = some b → b ≠ .dead → B g
theorem Laid.keep {B : Nat → Prop} (h : Laid P w0 H0) (hB : LaidIn H0 B) (hk : Kept B w0 w) : Laid P w H0 := by
 refine ⟨h.fam, h.nx, fun g b hg => ?_⟩; rcases h.rows g b hg with q | ⟨cells, e, f, q1, q2, q3, q4, q5⟩
 ·
  exact .inl q
 ·
  exact .inr ⟨cells, e, f, q1, q2, by rw [hk.block g (hB g b hg (by rw [q1]; intro q; cases q))]; exact q3, q4, q5⟩
theorem Laid.inB (h : Laid P w0 H0) : LaidIn H0 (fun k => k < w0.heap.size) := fun g b hg hb => by
 rcases h.rows g b hg with q | ⟨cells, e, f, q1, q2, q3, q4, q5⟩
 ·
  exact absurd q hb
 ·
  exact (Array.getElem?_eq_some_iff.1 q3).1
noncomputable def hd : Code → Code
 | .seq a _ => a
 | c => c
noncomputable def tl : Code → Code
 | .seq _ b => b
 | _ => .skip
noncomputable def bodyC (fn : Func) : Code := match fn.body with | some c => c | none => .skip
noncomputable def first1 (fn : Func) : St := ⟨blank fn.ntmps, fn.ntmps, [], false, .run, none⟩
noncomputable def isSeq : Code → Bool
 | .seq _ _ => true
 | _ => false
theorem tabOk_nil : TabOk P H0 [] := fun f v h => by cases h
end
end Go.Cre
namespace Go.Cre
end Go.Cre
namespace Go.Cre
def boolData {H : Type} (bs : List Bool) : DataW H := .agg (bs.map fun b => .lit (.bool b))
end Go.Cre

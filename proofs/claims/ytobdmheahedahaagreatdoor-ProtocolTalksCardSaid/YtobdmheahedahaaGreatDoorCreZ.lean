/- A part of the proof of ProtocolTalks. -/
import Derived.Test.YtobdmheahedahaaGreatDoorCreY3
import Derived.ChangeSame
import Derived.Lib.LaidTab
set_option linter.unusedVariables false
set_option linter.unusedSimpArgs false
namespace Go.Cre
open Go.RowKit
section
variable {P : Program} {w : World} {H : Hp}
structure Laid (P : Program) (w : World) (H : Hp) : Prop where
 fam : H.fam = .leaf
 nx : H.nx = H.glo
 rows : ∀ g b, H.mem.get g = some b → b = .dead ∨ ∃ cells e f, b = .row cells e false 0 farFz true ∧ g < H.glo ∧ w.heap[g]? = some (.cells cells.toArray e f) ∧ cells.all plain = true ∧ cells.length ≤ farFz
noncomputable def firstMp (P : Program) (H : Hp) : Mp := fun g => match H.mem.get g with
 | some (.row cells e _ _ _ _) => some ⟨g, cells.length, P.cellsOf e⟩
 | _ => none
theorem first_rel (h : Laid P w H) : HRel P (fun k => k < w.heap.size) w (firstMp P H) H w := by
 have inv : ∀ g L, firstMp P H g = some L → ∃ cells e f, H.mem.get g = some (.row cells e false 0 farFz true) ∧ L = ⟨g, cells.length, P.cellsOf e⟩ ∧ g < H.glo ∧ w.heap[g]? = some (.cells cells.toArray e f) ∧ cells.all plain = true ∧ cells.length ≤ farFz := by
  intro g L q
  unfold firstMp at q
  cases hm : H.mem.get g with
  | none => rw [hm] at q; cases q
  | some b =>
   rw [hm] at q
   rcases h.rows g b hm with rfl | ⟨cells, e, f, rfl, a1, a2, a3, a4⟩
   ·
    cases q
   ·
    injection q with q; subst q
    exact ⟨cells, e, f, rfl, rfl, a1, a2, a3, a4⟩
 refine ⟨Kept.refl _ _, fun _ hk => hk, ?_, ?_, ?_, ?_, ?_, ?_, by rw [h.nx]; exact Nat.le_refl _, ?_, ?_, ?_⟩
 ·
  intro g L q
  obtain ⟨cells, e, f, a1, rfl, a3, a4, a5, a6⟩ := inv g L q
  refine ⟨_, _, a1, a4, rfl, by simp, rfl, Nat.le_refl _, fun _ => rfl, fun i v v' x y => ?_, ⟨fun off ho _ _ => Nat.lt_of_lt_of_le ho a6, fun q => by cases q⟩⟩
  have : v = v' := by
   rw [List.getElem?_toArray] at y
   rw [x] at y; injection y
  subst this
  exact plain_rel (List.all_eq_true.1 a5 v (List.mem_of_getElem? x))
 ·
  intro x y L1 L2 hxy hx hy hr
  obtain ⟨_, _, _, _, rfl, _⟩ := inv x L1 hx
  obtain ⟨_, _, _, _, rfl, _⟩ := inv y L2 hy
  exact absurd hr hxy
 ·
  intro x L hx; obtain ⟨_, _, _, _, _, a, _⟩ := inv x L hx; rw [h.nx]; exact a
 ·
  intro x L hx _; obtain ⟨_, _, _, _, rfl, _⟩ := inv x L hx; rfl
 ·
  intro x L hx hg _; obtain ⟨_, _, _, _, _, a, _⟩ := inv x L hx; omega
 ·
  intro g c e o f z s _ hm
  exact ⟨⟨g, c.length, P.cellsOf e⟩, by unfold firstMp; rw [hm]⟩
 ·
  intro x c e f z s hm
  rcases h.rows x _ hm with q | ⟨_, _, _, q, _⟩ <;> cases q
 ·
  intro f l x hl; rw [h.fam] at hl; cases hl
 ·
  intro f l hl; rw [h.fam] at hl; cases hl
noncomputable def isTrue (x : Option (Ending × FrameMode × Hp)) : Bool := match x with | some (.returned (.bool b), _, _) => b | _ => false
theorem closed_calls {ft : Tr Func} (hP : PF P ft) {n : Nat} {f : FuncId} {fn : Func} {c : Code} (hf : P.funcs[f]? = some fn) (hb : fn.body = some c) (h : Laid P w H) (he : isTrue ((evs P ft n).body f [] false .run H) = true) :
  Calls P f #[] w fun e w' => e = .returned (.bool true) ∧ Below w.heap.size w w' := by
 cases hr : (evs P ft n).body f [] false .run H with
 | none => rw [hr] at he; cases he
 | some p =>
  obtain ⟨e, um, H'⟩ := p
  rw [hr] at he
  have hc : (evs P ft n).call f [] H = some (e, H') := by unfold Evs.call; rw [hr]
  have hs := (evs_sound (B := fun k => k < w.heap.size) (w0 := w) hP n).2.2 f [] H e H' hc (firstMp P H) w [] (first_rel h) (LRel.nil _)
  rcases hs with ⟨v, v', w', μ', _, q, _⟩ | ⟨_, q⟩
  ·
   rw [enter_run hf hb (hP.num f fn hf (by rw [hb]; rfl))] at q
   cases q
  ·
   refine Calls.mono q fun e' w' ⟨μ', g1, g2, g3⟩ => ?_
   cases e with
   | returned v =>
    cases v with
    | bool b =>
     have he : b = true := he
     subst he
     cases e' with
     | returned v' =>
      have hv : VRel μ' (.bool true) v' := g3
      rw [hv.bool_inv]
      exact ⟨rfl, g1.below.below⟩
     | panicked c => exact g3.elim
     | outgrown => exact g3.elim
    | _ => cases he
   | panicked c => cases he
   | outgrown => cases he
theorem trOf_get {α : Type} : ∀ {l : List α} {i : Nat} {T T' : Tr α}, trOf l i T = some T' → ∀ t, T'.get t = if i ≤ t ∧ t < i + l.length then l[t - i]? else T.get t := by
 intro l
 induction l with
 | nil => intro i T T' h t; simp [trOf] at h; subst h; rw [if_neg (by rw [List.length_nil]; omega)]
 | cons v l ih =>
  intro i T T' h t
  simp only [trOf] at h
  cases hs : Tr.set trDepth T i v with
  | none => rw [hs] at h; cases h
  | some T1 =>
   rw [hs] at h
   rw [ih h t, Tr.get_set hs]
   by_cases h1 : i + 1 ≤ t ∧ t < i + 1 + l.length
   ·
    rw [if_pos h1, if_pos (by rw [List.length_cons]; omega)]
    have : t - i = (t - (i + 1)) + 1 := by omega
    rw [this]; rfl
   ·
    rw [if_neg h1]
    by_cases h2 : t = i
    ·
     subst h2; rw [if_pos rfl, if_pos (by simp)]; simp
    ·
     rw [if_neg h2, if_neg (by rw [List.length_cons]; omega)]
noncomputable def ftOf (P : Program) : Tr Func := match trOf P.funcs.toList 0 .leaf with | some t => t | none => .leaf
noncomputable def numOk (P : Program) : Bool := P.funcs.toList.all fun fn => fn.body.isNone || !(fn.name == "runtime.NumGoroutine")
theorem pf_of (hm : P.follows .mixedOrders = true) (hn : numOk P = true) : PF P (ftOf P) := by
 refine ⟨hm, fun f fn h => ?_, fun f fn hf hb => ?_⟩
 ·
  unfold ftOf at h
  cases ht : trOf P.funcs.toList 0 .leaf with
  | none => rw [ht] at h; cases h
  | some t =>
   rw [ht] at h
   rw [trOf_get ht] at h
   split at h
   ·
    simpa using h
   ·
    cases h
 ·
  unfold numOk at hn
  rw [List.all_eq_true] at hn
  have := hn fn (by simpa using Array.mem_of_getElem? hf)
  cases hbb : fn.body with
  | none => rw [hbb] at hb; cases hb
  | some c => simpa [hbb] using this
noncomputable def lay (T : Tr Blk) : List (Nat × TypeId × List Value) → Tr Blk
 | [] => T
 | (g, e, cells) :: l => match Tr.put (.row cells e false 0 farFz true) (lay T l) g with
  | some T' => T'
  | none => lay T l
theorem lay_get {T : Tr Blk} : ∀ {l : List (Nat × TypeId × List Value)} {g : Nat} {b : Blk}, (lay T l).get g = some b → T.get g = some b ∨ ∃ e cells, (g, e, cells) ∈ l ∧ b = .row cells e false 0 farFz true := by
 intro l
 induction l with
 | nil => intro g b h; exact .inl h
 | cons x l ih =>
  intro g b h
  obtain ⟨g', e, cells⟩ := x
  simp only [lay] at h
  cases hp : Tr.put (Blk.row cells e false 0 farFz true) (lay T l) g' with
  | none =>
   rw [hp] at h
   rcases ih h with q | ⟨e', c', q1, q2⟩
   ·
    exact .inl q
   ·
    exact .inr ⟨e', c', by simp [q1], q2⟩
  | some T' =>
   rw [hp] at h
   simp only at h
   rw [Tr.get_put hp] at h
   by_cases hg : g = g'
   ·
    subst hg
    rw [if_pos rfl] at h; injection h with h
    exact .inr ⟨e, cells, by simp, h.symm⟩
   ·
    rw [if_neg hg] at h
    rcases ih h with q | ⟨e', c', q1, q2⟩
    ·
     exact .inl q
    ·
     exact .inr ⟨e', c', by simp [q1], q2⟩
noncomputable def firstHp (n d : Nat) (l : List (Nat × TypeId × List Value)) : Hp := ⟨lay (Tr.full .dead d) l, n, .leaf, 0, n⟩
theorem laid_of {n d : Nat} {l : List (Nat × TypeId × List Value)} (h : ∀ g e cells, (g, e, cells) ∈ l → g < n ∧ (∃ f, w.heap[g]? = some (.cells cells.toArray e f)) ∧ cells.all plain = true ∧ cells.length ≤ farFz) : Laid P w (firstHp n d l) := by
 refine ⟨rfl, rfl, fun g b hb => ?_⟩
 rcases lay_get hb with q | ⟨e, cells, q1, q2⟩
 ·
  rcases Tr.get_full Blk.dead d g with r | r
  ·
   rw [r] at q; cases q
  ·
   rw [r] at q; injection q with q; exact .inl q.symm
 ·
  obtain ⟨a1, ⟨f, a2⟩, a3, a4⟩ := h g e cells q1
  exact .inr ⟨cells, e, f, q2, a1, a2, a3, a4⟩
end
end Go.Cre
set_option linter.unusedVariables false
set_option linter.unusedSimpArgs false
namespace Go.Cre
open Go.ChangeShapes
theorem laid_row {P : Program} {W : World} {name : String} {k : IntKind} {zs : List Int} {g : Nat} {t : TypeId} (hg : P.globalNamed name = some g) (hlt : g < P.globals.size)
  (hr : (((begin P (fun _ _ => 0) default).world.heap[g]?).bind Obj.row?).map (·.2) = some t) (hs : W.ShapedOpen P) (ht : Lib.TabIs P W name k zs) : ∃ f, W.heap[g]? = some (.cells (zs.map fun z => Value.int k z).toArray t f) := by
 obtain ⟨⟨zero, t'⟩, h1, h2⟩ := Option.map_eq_some_iff.1 hr
 simp only at h2; subst h2
 obtain ⟨cs, a, _⟩ := hs.1 g zero t' hlt h1
 unfold Lib.TabIs World.var? at ht
 rw [hg] at ht
 simp only [Option.bind_some, a, Option.some.injEq] at ht
 subst ht
 exact ⟨_, a⟩
end Go.Cre
set_option linter.unusedVariables false
set_option linter.unusedSimpArgs false
namespace Go.Cre
open Go.RowKit
section
variable {P : Program} {B : Nat → Prop} {w0 w : World} {μ : Mp} {H : Hp} {S : St} {fr : Frame} {tmps : Array Value} {ds : List Deferred} {cs : List Frame}
end
end Go.Cre
set_option linter.unusedVariables false
set_option linter.unusedSimpArgs false
namespace Go.Cre
open Go.RowKit
section
variable {P : Program} {B : Nat → Prop} {w0 w w' : World} {μ : Mp} {H H0 : Hp}
theorem HRel.grow (h : HRel P B w0 μ H w) (hb : Below w.heap.size w w') : HRel P B w0 μ H w' := by
 have hlt : ∀ x L', μ x = some L' → L'.r < w.heap.size := fun x L' hx => by
  obtain ⟨b', o', _, ho, _⟩ := h.blk x L' hx
  rcases Nat.lt_or_ge L'.r w.heap.size with hh | hh
  ·
   exact hh
  ·
   rw [Array.getElem?_eq_none hh] at ho; cases ho
 refine ⟨h.below.trans (.of_below hb h.bsz), fun k hk => Nat.lt_of_lt_of_le (h.bsz k hk) hb.size, fun x L hx => ?_, h.sep, h.lt, h.own, h.new, h.glob, h.glt, h.famLt, h.famMem, h.famSort⟩
 obtain ⟨b, o, h1, h2, h3⟩ := h.blk x L hx
 exact ⟨b, o, h1, by rw [hb.block _ (hlt x L hx)]; exact h2, h3⟩
def LaidIn (H0 : Hp) (B : Nat → Prop) : Prop := ∀ g b, H0.mem.get g = some b → b ≠ .dead → B g
theorem Laid.keep {B : Nat → Prop} (h : Laid P w0 H0) (hB : LaidIn H0 B) (hk : Kept B w0 w) : Laid P w H0 := by
 refine ⟨h.fam, h.nx, fun g b hg => ?_⟩
 rcases h.rows g b hg with q | ⟨cells, e, f, q1, q2, q3, q4, q5⟩
 ·
  exact .inl q
 ·
  exact .inr ⟨cells, e, f, q1, q2, by rw [hk.block g (hB g b hg (by rw [q1]; intro q; cases q))]; exact q3, q4, q5⟩
theorem Laid.inB (h : Laid P w0 H0) : LaidIn H0 (fun k => k < w0.heap.size) := fun g b hg hb => by
 rcases h.rows g b hg with q | ⟨cells, e, f, q1, q2, q3, q4, q5⟩
 ·
  exact absurd q hb
 ·
  exact (Array.getElem?_eq_some_iff.1 q3).1
end
end Go.Cre
set_option linter.unusedVariables false
set_option linter.unusedSimpArgs false
namespace Go.Cre
def boolData {H : Type} (bs : List Bool) : DataW H := .agg (bs.map fun b => .lit (.bool b))
def BoolsAre (P : Program) (w : World) (name : String) (bs : List Bool) : Prop := w.var? P name = some (bs.map Value.bool).toArray
theorem bools_cells {H : Type} {enc : TypeId × Value → H} {P : Program} {w : World} {base : Nat} {sp : Nat → Bool} {held : Bool} {fuel : Nat} {t e : TypeId} {n : Nat} {cs : List Value} {bs : List Bool} {p : List MemPlace}
  (ht : P.underlying t = some (.array n e)) (he : P.underlying e = some .bool) (hce : P.cellsOf e = 1) (hct : P.cellsOf t = n)
  (h : DataW.trod enc P w base sp held fuel t cs = some (boolData bs, p)) : cs = bs.map Value.bool := by
 cases fuel with
 | zero => simp [DataW.trod] at h
 | succ fuel =>
  simp only [DataW.trod, ht, hce, hct, Nat.mul_one] at h
  split at h
  ·
   rename_i hl
   obtain ⟨xs, hm, hx⟩ := Option.map_eq_some_iff.1 h
   have e1 : xs.map (·.1) = bs.map fun b => (DataW.lit (.bool b) : DataW H) := by have := congrArg Prod.fst hx; simpa [boolData] using this
   have e2 : xs.length = n := by simpa using Lib.mapM_length hm
   have e3 : bs.length = n := by have := congrArg List.length e1; simp at this; omega
   refine List.ext_getElem? fun i => ?_
   rcases Nat.lt_or_ge i n with hi | hi
   ·
    obtain ⟨b, hb, hf⟩ := Lib.mapM_at hm i i (by simp [hi])
    obtain ⟨z, hc, rfl⟩ := DataW.trod_bool he hf
    have h1 : cs[i]? = some (.bool z) := by have := congrArg (·[0]?) hc; simpa [List.getElem?_take, List.getElem?_drop] using this
    have h2 : (xs.map (·.1))[i]? = some (DataW.lit (.bool z) : DataW H) := by simp [hb]
    rw [e1] at h2
    simp only [List.getElem?_map, Option.map_eq_some_iff, DataW.lit.injEq, Lit.bool.injEq] at h2
    obtain ⟨z', hz', rfl⟩ := h2
    simp [h1, hz']
   ·
    rw [List.getElem?_eq_none (by omega), List.getElem?_eq_none (by simp; omega)]
  ·
   cases h
theorem bools_head {P : Program} {W : World} {name : String} {bs : List Bool} {rest : List (String × DataW Unit)} {g : Nat} {t e : TypeId} {n : Nat}
  (hg : P.globalNamed name = some g) (hty : (P.globals[g]?).map (·.type) = some t) (ht : P.underlying t = some (.array n e)) (he : P.underlying e = some .bool) (hce : P.cellsOf e = 1) (hct : P.cellsOf t = n)
  (h : laidMet P ((name, boolData bs) :: rest) W) : BoolsAre P W name bs := by
 obtain ⟨ps, ⟨g', t', cs, fuel, p, q, hg', ht', hvar, hd, _, _⟩, _⟩ := h
 obtain rfl := Option.some.inj (hg.symm.trans hg')
 obtain rfl := Option.some.inj (hty.symm.trans ht')
 unfold BoolsAre
 rw [hvar, ← bools_cells ht he hce hct hd]
theorem laid_rowB {P : Program} {W : World} {name : String} {bs : List Bool} {g : Nat} {t : TypeId} (hg : P.globalNamed name = some g) (hlt : g < P.globals.size)
  (hr : (((begin P (fun _ _ => 0) default).world.heap[g]?).bind Obj.row?).map (·.2) = some t) (hs : W.ShapedOpen P) (ht : BoolsAre P W name bs) : ∃ f, W.heap[g]? = some (.cells (bs.map Value.bool).toArray t f) := by
 obtain ⟨⟨zero, t'⟩, h1, h2⟩ := Option.map_eq_some_iff.1 hr
 simp only at h2; subst h2
 obtain ⟨cs, a, _⟩ := hs.1 g zero t' hlt h1
 unfold BoolsAre World.var? at ht
 rw [hg] at ht
 simp only [Option.bind_some, a, Option.some.injEq] at ht
 subst ht
 exact ⟨_, a⟩
end Go.Cre

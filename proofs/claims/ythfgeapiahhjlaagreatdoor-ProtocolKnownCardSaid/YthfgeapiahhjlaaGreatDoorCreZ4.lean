/- A part of a verified evaluator of closed calls: see YthfgeapiahhjlaaGreatDoorCreZ. -/
import Derived.Test.YthfgeapiahhjlaaGreatDoorCreZ3
set_option linter.unusedVariables false
set_option linter.unusedSimpArgs false
namespace Go.Cre
open Go.RowKit

/-! ### Calls without arguments that have been run before -/
noncomputable def tabGet (f : Nat) : List (Nat × Value) → Option Value
  | [] => none
  | (g, v) :: l => bif Nat.beq g f then some v else tabGet f l
noncomputable def bodyT (P : Program) (ft : Tr Func) (E : Evs) (f : FuncId) (args : List Value) (dfd : Bool) (um : FrameMode) (H : Hp) : Option Value → Option (Ending × FrameMode × Hp)
  | some v => (match args, dfd with
    | [], false => some (.returned v, um, H)
    | _, _ => evBody P ft E f args dfd um H)
  | none => evBody P ft E f args dfd um H
noncomputable def evBodyT (P : Program) (ft : Tr Func) (tab : List (Nat × Value)) (E : Evs) (f : FuncId) (args : List Value) (dfd : Bool) (um : FrameMode) (H : Hp) : Option (Ending × FrameMode × Hp) := bodyT P ft E f args dfd um H (tabGet f tab)
noncomputable def evsT (P : Program) (ft : Tr Func) (tab : List (Nat × Value)) (n : Nat) : Evs :=
  Nat.rec (motive := fun _ => Evs) ⟨fun _ _ _ => none, fun _ _ _ _ _ => none⟩ (fun _ E => ⟨evCode P E, evBodyT P ft tab E⟩) n

/-- what has been run before: in every world that holds the listed variables -/
def TabOk (P : Program) (H0 : Hp) (tab : List (Nat × Value)) : Prop :=
  ∀ f v, tabGet f tab = some v → plain v = true ∧ (∃ fn c, P.funcs[f]? = some fn ∧ fn.body = some c) ∧ ∀ w, Laid P w H0 → Calls P f #[] w fun e w' => e = .returned v ∧ Below w.heap.size w w'

section
variable {P : Program} {B : Nat → Prop} {w0 w w' : World} {μ : Mp} {H H0 : Hp}

theorem HRel.grow (h : HRel P B w0 μ H w) (hb : Below w.heap.size w w') : HRel P B w0 μ H w' := by
  have hlt : ∀ x L', μ x = some L' → L'.r < w.heap.size := fun x L' hx => by
    obtain ⟨b', o', _, ho, _⟩ := h.blk x L' hx
    rcases Nat.lt_or_ge L'.r w.heap.size with hh | hh
    · exact hh
    · rw [Array.getElem?_eq_none hh] at ho; cases ho
  refine ⟨h.below.trans (.of_below hb h.bsz), fun k hk => Nat.lt_of_lt_of_le (h.bsz k hk) hb.size, fun x L hx => ?_, h.sep, h.lt, h.own, h.new, h.glob, h.glt, h.famLt, h.famMem, h.famSort⟩
  obtain ⟨b, o, h1, h2, h3⟩ := h.blk x L hx
  exact ⟨b, o, h1, by rw [hb.block _ (hlt x L hx)]; exact h2, h3⟩

/-- the listed variables are kept -/
def LaidIn (H0 : Hp) (B : Nat → Prop) : Prop := ∀ g b, H0.mem.get g = some b → b ≠ .dead → B g
theorem Laid.keep {B : Nat → Prop} (h : Laid P w0 H0) (hB : LaidIn H0 B) (hk : Kept B w0 w) : Laid P w H0 := by
  refine ⟨h.fam, h.nx, fun g b hg => ?_⟩
  rcases h.rows g b hg with q | ⟨cells, e, f, q1, q2, q3, q4, q5⟩
  · exact .inl q
  · exact .inr ⟨cells, e, f, q1, q2, by rw [hk.block g (hB g b hg (by rw [q1]; intro q; cases q))]; exact q3, q4, q5⟩
theorem Laid.inB (h : Laid P w0 H0) : LaidIn H0 (fun k => k < w0.heap.size) := fun g b hg hb => by
  rcases h.rows g b hg with q | ⟨cells, e, f, q1, q2, q3, q4, q5⟩
  · exact absurd q hb
  · exact (Array.getElem?_eq_some_iff.1 q3).1

theorem evBodyT_def {ft : Tr Func} {tab : List (Nat × Value)} (hP : PF P ft) {E : Evs} (hcode : CodeSound P B w0 E.code) (hdef : DefSound P B w0 E.body) : DefSound P B w0 (evBodyT P ft tab E) := by
  intro f args um H e um' H' he
  refine evBody_def hP hcode hdef f args um H e um' H' ?_
  unfold evBodyT bodyT at he
  cases hg : tabGet f tab with
  | none => rw [hg] at he; exact he
  | some v => rw [hg] at he; cases args <;> exact he

theorem evBodyT_call {ft : Tr Func} {tab : List (Nat × Value)} (hP : PF P ft) (ht : TabOk P H0 tab) (hl0 : Laid P w0 H0) (hB : LaidIn H0 B) {E : Evs} (hcode : CodeSound P B w0 E.code) (hdef : DefSound P B w0 E.body) :
    CallSound P B w0 (Evs.call ⟨E.code, evBodyT P ft tab E⟩) := by
  intro f args H e H' he μ w args' h hl
  have base : (Evs.call ⟨E.code, evBody P ft E⟩) f args H = some (e, H') → _ := fun q => evBody_call hP hcode hdef f args H e H' q μ w args' h hl
  unfold Evs.call at he base
  simp only at he base
  unfold evBodyT bodyT at he
  cases hg : tabGet f tab with
  | none => rw [hg] at he; exact base he
  | some v =>
    rw [hg] at he
    cases args with
    | cons a l => exact base he
    | nil =>
      simp only [Option.some.injEq, Prod.mk.injEq] at he
      obtain ⟨rfl, rfl⟩ := he
      obtain rfl := hl.inv_nil
      obtain ⟨hp, ⟨fn, c, hf, hb⟩, hc⟩ := ht f v hg
      refine .inr ⟨enter_run hf hb (hP.num f fn hf (by rw [hb]; rfl)) _ w, ?_⟩
      refine Calls.mono (hc w (hl0.keep hB h.below)) fun e' w' ⟨he', hbl⟩ => ?_
      subst he'
      exact ⟨μ, h.grow hbl, Step.refl _ _, plain_rel hp⟩

theorem evsT_soundA {ft : Tr Func} {tab : List (Nat × Value)} (hP : PF P ft) (ht : TabOk P H0 tab) : ∀ n, ∀ (B : Nat → Prop) (w0 : World), Laid P w0 H0 → LaidIn H0 B → CodeSound P B w0 (evsT P ft tab n).code ∧ DefSound P B w0 (evsT P ft tab n).body ∧ CallSound P B w0 (evsT P ft tab n).call := by
  intro n
  induction n with
  | zero => intro B w0 _ _; exact ⟨(fun c S H e S' H' he => by cases he), (fun f args um H e um' H' he => by cases he), (fun f args H e H' he => by cases he)⟩
  | succ n ih =>
    intro B w0 hl hB
    obtain ⟨h1, h2, h3⟩ := ih B w0 hl hB
    have up : ∀ (Bx : Nat → Prop) (wx : World), (∀ k, B k → Bx k) → Kept B w0 wx → Laid P wx H0 ∧ LaidIn H0 Bx := fun Bx wx a b => ⟨hl.keep hB b, fun g b' hg hb => a g (hB g b' hg hb)⟩
    exact ⟨evCode_sound hP.mix h1 (fun Bx wx a b => (ih Bx wx (up Bx wx a b).1 (up Bx wx a b).2).2.2) (fun Bx wx a b => yld_sound (ih Bx wx (up Bx wx a b).1 (up Bx wx a b).2).1) (range_sound h3), evBodyT_def hP h1 h2, evBodyT_call hP ht hl hB h1 h2⟩
theorem evsT_sound {ft : Tr Func} {tab : List (Nat × Value)} (hP : PF P ft) (ht : TabOk P H0 tab) (hl0 : Laid P w0 H0) (n : Nat) : CodeSound P (fun k => k < w0.heap.size) w0 (evsT P ft tab n).code ∧ DefSound P (fun k => k < w0.heap.size) w0 (evsT P ft tab n).body ∧ CallSound P (fun k => k < w0.heap.size) w0 (evsT P ft tab n).call :=
  evsT_soundA hP ht n _ w0 hl0 hl0.inB

noncomputable def hd : Code → Code
  | .seq a _ => a
  | c => c
noncomputable def tl : Code → Code
  | .seq _ b => b
  | _ => .skip
noncomputable def bodyC (fn : Func) : Code := match fn.body with | some c => c | none => .skip
noncomputable def first1 (fn : Func) : St := ⟨blank fn.ntmps, fn.ntmps, [], false, .run, none⟩

/-- one statement more -/
theorem good_next {E : Evs} {fn : Func} {c : Code} {S : St} {Z : Snap} (hc : CodeSound P B w0 E.code) (hs : c = .seq (hd c) (tl c)) (hz : chunkB Z (evStack E [hd c] S H) = true) (h : Good1 P B w0 fn [tl c] Z.S Z.H) : Good1 P B w0 fn [c] S H := by
  rw [hs]
  exact good_seq (good_chunk (l := [hd c]) hc hz h)

/-- some statements more, without a snapshot between them -/
noncomputable def tls : Nat → Code → Code
  | 0, c => c
  | n + 1, c => tls n (tl c)
noncomputable def isSeq : Code → Bool
  | .seq _ _ => true
  | _ => false
noncomputable def areSeq : Nat → Code → Bool
  | 0, _ => true
  | n + 1, c => isSeq c && areSeq n (tl c)
noncomputable def chunkN (E : Evs) (Z : Snap) : Nat → Code → St → Hp → Bool
  | 0, c, S, H => chunkB Z (evStack E [hd c] S H)
  | n + 1, c, S, H => match evStack E [hd c] S H with
    | some (.normal, S, H) => chunkN E Z n (tl c) S H
    | _ => false
theorem isSeq_eq {c : Code} (h : isSeq c = true) : c = .seq (hd c) (tl c) := by cases c <;> first | rfl | cases h
theorem good_step {E : Evs} {S S1 : St} {H1 : Hp} (hc : CodeSound P B w0 E.code) {fn : Func} {l ks : List Code} (hr : evStack E l S H = some (.normal, S1, H1)) (h : Good1 P B w0 fn ks S1 H1) : Good1 P B w0 fn (l ++ ks) S H := by
  intro μ w fr tmps ds cs h1 h2 h3 h4 h5
  obtain ⟨μ1, w1, t1, d1, cs1, R, st⟩ := evStack_sound hc l S H .normal S1 H1 hr μ w fr tmps ds cs (ks.map Item.code) h1 h2
  have hcs : cs1 = cs := by have := R.c; rw [h3] at this; exact this
  subst hcs
  obtain ⟨w', fr', a1, a2⟩ := h μ1 w1 fr t1 d1 cs1 R.h R.f (R.dfd.trans h3) h4 h5
  rw [List.map_append]
  exact ⟨w', fr', st.trans a1, a2⟩
theorem good_nextN {E : Evs} {fn : Func} {Z : Snap} (hc : CodeSound P B w0 E.code) : ∀ (n : Nat) (c : Code) (S : St) (H : Hp), areSeq (n + 1) c = true → chunkN E Z n c S H = true → Good1 P B w0 fn [tls (n + 1) c] Z.S Z.H → Good1 P B w0 fn [c] S H := by
  intro n
  induction n with
  | zero =>
    intro c S H hs hz h
    simp only [areSeq, Bool.and_eq_true] at hs
    exact good_next hc (isSeq_eq hs.1) hz h
  | succ n ih =>
    intro c S H hs hz h
    have hs : (isSeq c && areSeq (n + 1) (tl c)) = true := hs
    simp only [Bool.and_eq_true] at hs
    simp only [chunkN] at hz
    cases hr : evStack E [hd c] S H with
    | none => rw [hr] at hz; cases hz
    | some p =>
      obtain ⟨e, S1, H1⟩ := p
      rw [hr] at hz
      cases e with
      | normal =>
        rw [isSeq_eq hs.1]
        exact good_seq (good_step (l := [hd c]) hc hr (ih (tl c) S1 H1 hs.2 hz h))
      | _ => cases hz

theorem tabOk_nil : TabOk P H0 [] := fun f v h => by cases h
theorem tabOk_cons {tab : List (Nat × Value)} {f : Nat} {v : Value} {fn : Func} {c : Code} (hp : plain v = true) (hf : P.funcs[f]? = some fn) (hb : fn.body = some c)
    (hc : ∀ w, Laid P w H0 → Calls P f #[] w fun e w' => e = .returned v ∧ Below w.heap.size w w') (ht : TabOk P H0 tab) : TabOk P H0 ((f, v) :: tab) := by
  intro g u h
  unfold tabGet at h
  cases hb' : Nat.beq f g with
  | true =>
    rw [hb', cond_true] at h
    injection h with h; subst h
    obtain rfl := Nat.eq_of_beq_eq_true hb'
    exact ⟨hp, ⟨fn, c, hf, hb⟩, hc⟩
  | false => rw [hb', cond_false] at h; exact ht g u h
end
end Go.Cre

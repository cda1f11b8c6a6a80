/- A part of the proof of ResumeSaves. -/
import Derived.Test.YtmeojgcibppcmaaDoorCreZ
set_option linter.unusedVariables false
set_option linter.unusedSimpArgs false
namespace Go.Cre
open Go.RowKit
open Classical
structure Worlds (P : Program) where
 ok : (Nat → Prop) → World → Prop
 up : ∀ B w0 Bx wx, ok B w0 → (∀ k, B k → Bx k) → Kept B w0 wx → ok Bx wx
noncomputable def codeAt (c : Code) (S : St) (H : Hp) (r : Exit × St × Hp) : Code → St → Hp → Option (Exit × St × Hp) := fun c' S' H' => if c' = c ∧ S' = S ∧ H' = H then some r else none
noncomputable def callAt (f : FuncId) (args : List Value) (H : Hp) (r : Ending × Hp) : CallEv := fun f' args' H' => if f' = f ∧ args' = args ∧ H' = H then some r else none
def CodeR {P : Program} (Q : Worlds P) (c : Code) (S : St) (H : Hp) (e : Exit) (S' : St) (H' : Hp) : Prop := ∀ B w0, Q.ok B w0 → CodeSound P B w0 (codeAt c S H (e, S', H'))
def CallR {P : Program} (Q : Worlds P) (f : FuncId) (args : List Value) (H : Hp) (e : Ending) (H' : Hp) : Prop := ∀ B w0, Q.ok B w0 → CallSound P B w0 (callAt f args H (e, H'))
noncomputable def codeΩ {P : Program} (Q : Worlds P) (pick : Code → St → Hp → Option (Exit × St × Hp)) : Code → St → Hp → Option (Exit × St × Hp) := fun c S H => match pick c S H with
 | some (e, S', H') => if CodeR Q c S H e S' H' then some (e, S', H') else none
 | none => none
noncomputable def callΩ {P : Program} (Q : Worlds P) (pick : CallEv) : CallEv := fun f args H => match pick f args H with
 | some (e, H') => if CallR Q f args H e H' then some (e, H') else none
 | none => none
section
variable {P : Program} {Q : Worlds P} {B : Nat → Prop} {w0 : World}
theorem codeΩ_sound (pick : Code → St → Hp → Option (Exit × St × Hp)) (hQ : Q.ok B w0) : CodeSound P B w0 (codeΩ Q pick) := by
 intro c S H e S' H' he; unfold codeΩ at he; split at he
 ·
  split at he
  ·
   rename_i hR; simp only [Option.some.injEq, Prod.mk.injEq] at he; obtain ⟨rfl, rfl, rfl⟩ := he; exact hR B w0 hQ c S H _ _ _ (by unfold codeAt; rw [if_pos ⟨rfl, rfl, rfl⟩])
  ·
   cases he
 ·
  cases he
theorem callΩ_sound (pick : CallEv) (hQ : Q.ok B w0) : CallSound P B w0 (callΩ Q pick) := by
 intro f args H e H' he; unfold callΩ at he; split at he
 ·
  split at he
  ·
   rename_i hR; simp only [Option.some.injEq, Prod.mk.injEq] at he; obtain ⟨rfl, rfl⟩ := he; exact hR B w0 hQ f args H _ _ (by unfold callAt; rw [if_pos ⟨rfl, rfl, rfl⟩])
  ·
   cases he
 ·
  cases he
noncomputable def EΩ {P : Program} (Q : Worlds P) (pc : Code → St → Hp → Option (Exit × St × Hp)) (pk : CallEv) : Evs :=
 ⟨codeΩ Q pc, fun f args dfd um H => if dfd = true then none else match callΩ Q pk f args H with | some (e, H') => some (e, um, H') | none => none⟩
theorem EΩ_call (pc : Code → St → Hp → Option (Exit × St × Hp)) (pk : CallEv) : (EΩ Q pc pk).call = callΩ Q pk := by
 funext f args H
 unfold Evs.call EΩ; simp only [Bool.false_eq_true, if_false]; cases callΩ Q pk f args H with
 | none => rfl
 | some p => rfl
theorem CodeR.of_ev (hmix : P.follows .mixedOrders = true) {c : Code} {S S' : St} {H H' : Hp} {e : Exit} (pc : Code → St → Hp → Option (Exit × St × Hp)) (pk : CallEv) (h : evCode P (EΩ Q pc pk) c S H = some (e, S', H')) : CodeR Q c S H e S' H' := by
 intro B w0 hQ; have hA : ∀ (Bx : Nat → Prop) (wx : World), (∀ k, B k → Bx k) → Kept B w0 wx → Q.ok Bx wx := fun Bx wx a b => Q.up B w0 Bx wx hQ a b; have hc : ∀ (Bx : Nat → Prop) (wx : World), Q.ok Bx wx → CodeSound P Bx wx (EΩ Q pc pk).code := fun Bx wx q => codeΩ_sound pc q; have hk : ∀ (Bx : Nat → Prop) (wx : World), Q.ok Bx wx → CallSound P Bx wx (EΩ Q pc pk).call := fun Bx wx q => by rw [EΩ_call]; exact callΩ_sound pk q
 have hs := evCode_sound (P := P) (B := B) (w0 := w0) (E := EΩ Q pc pk) hmix (hc B w0 hQ) (fun Bx wx a b => hk Bx wx (hA Bx wx a b)) (fun Bx wx a b => yld_sound (hc Bx wx (hA Bx wx a b))) (range_sound (hk B w0 hQ)); intro c1 S1 H1 e1 S1' H1' he; unfold codeAt at he; split at he
 ·
  rename_i q; obtain ⟨rfl, rfl, rfl⟩ := q; simp only [Option.some.injEq, Prod.mk.injEq] at he; obtain ⟨rfl, rfl, rfl⟩ := he; exact hs _ _ _ _ _ _ h
 ·
  cases he
theorem codeΩ_at {c : Code} {S S' : St} {H H' : Hp} {e : Exit} (h : CodeR Q c S H e S' H') {pc : Code → St → Hp → Option (Exit × St × Hp)} (hp : pc c S H = some (e, S', H')) : codeΩ Q pc c S H = some (e, S', H') := by
 unfold codeΩ; rw [hp]; simp only; rw [if_pos h]
theorem callΩ_at {f : FuncId} {args : List Value} {H H' : Hp} {e : Ending} (h : CallR Q f args H e H') {pk : CallEv} (hp : pk f args H = some (e, H')) : callΩ Q pk f args H = some (e, H') := by
 unfold callΩ; rw [hp]; simp only; rw [if_pos h]
noncomputable def noCode : Code → St → Hp → Option (Exit × St × Hp) := fun _ _ _ => none
noncomputable def noCall : CallEv := fun _ _ _ => none
noncomputable def pick2 (c1 : Code) (S1 : St) (H1 : Hp) (r1 : Exit × St × Hp) (c2 : Code) (S2 : St) (H2 : Hp) (r2 : Exit × St × Hp) : Code → St → Hp → Option (Exit × St × Hp) := fun c S H =>
 if c = c1 ∧ S = S1 ∧ H = H1 then some r1 else if c = c2 ∧ S = S2 ∧ H = H2 then some r2 else none
theorem CodeR.skip (hmix : P.follows .mixedOrders = true) {S : St} {H : Hp} : CodeR Q .skip S H .normal S H := CodeR.of_ev hmix noCode noCall rfl
theorem CodeR.ret (hmix : P.follows .mixedOrders = true) {S : St} {H : Hp} : CodeR Q .ret S H .ret S H := CodeR.of_ev hmix noCode noCall rfl
theorem CodeR.exit (hmix : P.follows .mixedOrders = true) {S : St} {H : Hp} {id : Nat} : CodeR Q (.exit id) S H (.exit id) S H := CodeR.of_ev hmix noCode noCall rfl
theorem CodeR.mk {c : Code} {S S' : St} {H H' : Hp} {e : Exit} (h : ∀ B w0, Q.ok B w0 → ∀ μ w fr tmps ds cs k it, HRel P B w0 μ H w → FRel μ S fr tmps ds cs → Starts c it → CodeOk P B w0 μ H S fr cs (lone (fat fr tmps ds (it :: k)) cs w) k S' H' e) : CodeR Q c S H e S' H' := by
 intro B w0 hQ c1 S1 H1 e1 S1' H1' he; unfold codeAt at he; split at he
 ·
  rename_i q; obtain ⟨rfl, rfl, rfl⟩ := q; simp only [Option.some.injEq, Prod.mk.injEq] at he; obtain ⟨rfl, rfl, rfl⟩ := he; exact h B w0 hQ
 ·
  cases he
theorem CodeR.use {c : Code} {S S' : St} {H H' : Hp} {e : Exit} (h : CodeR Q c S H e S' H') (hQ : Q.ok B w0) {μ : Mp} {w : World} {fr : Frame} {tmps : Array Value} {ds : List Deferred} {cs : List Frame} {k : List Item} {it : Item} (hH : HRel P B w0 μ H w) (hF : FRel μ S fr tmps ds cs) (hs : Starts c it) :
  CodeOk P B w0 μ H S fr cs (lone (fat fr tmps ds (it :: k)) cs w) k S' H' e := h B w0 hQ c S H e S' H' (by unfold codeAt; rw [if_pos ⟨rfl, rfl, rfl⟩]) μ w fr tmps ds cs k it hH hF hs
theorem Starts.plain {c : Code} {it : Item} (h : Starts c it) (hn : ∀ c', c ≠ .loop c') : it = .code c := by
 rcases h with q | ⟨c', q, _⟩
 ·
  exact q
 ·
  exact absurd q (hn c')
theorem CodeR.seq {a b : Code} {S S1 S2 : St} {H H1 H2 : Hp} {e : Exit} (h1 : CodeR Q a S H .normal S1 H1) (h2 : CodeR Q b S1 H1 e S2 H2) : CodeR Q (.seq a b) S H e S2 H2 := by
 refine .mk fun B w0 hQ μ w fr tmps ds cs k it hH hF hs => ?_; obtain rfl := hs.plain (fun _ q => by cases q); exact ((h1.use (k := .code b :: k) hQ hH hF (.inl rfl)).bind fun μ1 w1 t1 d1 cs1 hre => h2.use hQ hre.h hre.f (.inl rfl)).steps (.one st_seq)
theorem CodeR.seq_out {a b : Code} {S S1 : St} {H H1 : Hp} {e : Exit} (h1 : CodeR Q a S H e S1 H1) (hn : e ≠ .normal) : CodeR Q (.seq a b) S H e S1 H1 := by
 refine .mk fun B w0 hQ μ w fr tmps ds cs k it hH hF hs => ?_; obtain rfl := hs.plain (fun _ q => by cases q); exact ((h1.use (k := .code b :: k) hQ hH hF (.inl rfl)).steps (.one st_seq)).pass (fun id _ => rfl) hn
theorem Starts.loop {c : Code} {it : Item} (h : Starts (.loop c) it) {fr : Frame} {tmps : Array Value} {ds : List Deferred} {cs : List Frame} {k : List Item} {w : World} : step P (lone (fat fr tmps ds (it :: k)) cs w) = .next (lone (fat fr tmps ds (.code c :: .inLoop c :: k)) cs w) := by
 rcases h with rfl | ⟨c', q, rfl⟩
 ·
  exact st_loop
 ·
  injection q with q; subst q; exact st_inLoop
theorem CodeR.loop_next {c : Code} {S S1 S2 : St} {H H1 H2 : Hp} {e : Exit} (h1 : CodeR Q c S H .normal S1 H1) (h2 : CodeR Q (.loop c) S1 H1 e S2 H2) : CodeR Q (.loop c) S H e S2 H2 := by
 refine .mk fun B w0 hQ μ w fr tmps ds cs k it hH hF hs => ?_; exact ((h1.use (k := .inLoop c :: k) hQ hH hF (.inl rfl)).bind fun μ1 w1 t1 d1 cs1 hre => h2.use hQ hre.h hre.f (.inr ⟨c, rfl, rfl⟩)).steps (.one hs.loop)
theorem CodeR.loop_out {c : Code} {S S1 : St} {H H1 : Hp} {e : Exit} (h1 : CodeR Q c S H e S1 H1) (hn : e ≠ .normal) : CodeR Q (.loop c) S H e S1 H1 := by
 refine .mk fun B w0 hQ μ w fr tmps ds cs k it hH hF hs => ?_; exact ((h1.use (k := .inLoop c :: k) hQ hH hF (.inl rfl)).steps (.one hs.loop)).pass (fun id _ => rfl) hn
theorem codeΩ_one {c : Code} {S S' : St} {H H' : Hp} {e : Exit} (h : CodeR Q c S H e S' H') : codeΩ Q (codeAt c S H (e, S', H')) c S H = some (e, S', H') := codeΩ_at h (by unfold codeAt; rw [if_pos ⟨rfl, rfl, rfl⟩])
theorem CodeR.cond (hmix : P.follows .mixedOrders = true) {x : Operand} {a b : Code} {t : Bool} {S S' : St} {H H' : Hp} {e : Exit} (hx : opd S.T H x = some (.bool t)) (h : CodeR Q (if t = true then a else b) S H e S' H') : CodeR Q (.cond x a b) S H e S' H' := by
 cases t with
 | true =>
  refine CodeR.of_ev hmix (codeAt a S H (e, S', H')) noCall ?_; show cCond2 _ S H a b (opd S.T H x) = _; rw [hx]; exact codeΩ_one h
 | false =>
  refine CodeR.of_ev hmix (codeAt b S H (e, S', H')) noCall ?_; show cCond2 _ S H a b (opd S.T H x) = _; rw [hx]; exact codeΩ_one h
theorem CodeR.block (hmix : P.follows .mixedOrders = true) {id : Nat} {c : Code} {S S' : St} {H H' : Hp} {e : Exit} (h : CodeR Q c S H e S' H') : CodeR Q (.block id c) S H (match e with | .exit j => if j = id then .normal else .exit j | e => e) S' H' := by
 refine CodeR.of_ev hmix (codeAt c S H (e, S', H')) noCall ?_; show cBlock2 id (codeΩ Q (codeAt c S H (e, S', H')) c S H) = _; rw [codeΩ_one h]; cases e with
 | exit j =>
  show (bif Nat.beq j id then some (Exit.normal, S', H') else some (Exit.exit j, S', H')) = _; by_cases hj : j = id
  ·
   subst hj; simp
  ·
   have : Nat.beq j id = false := by
    cases q : Nat.beq j id
    ·
     rfl
    ·
     exact absurd (Nat.eq_of_beq_eq_true q) hj
   rw [this, cond_false]; simp [hj]
 | _ => rfl
theorem EΩ_def (pc : Code → St → Hp → Option (Exit × St × Hp)) (pk : CallEv) : DefSound P B w0 (EΩ Q pc pk).body := by
 intro f args um H e um' H' he; unfold EΩ at he; simp at he
theorem CallR.of_body {ft : Tr Func} (hP : PF P ft) {f : FuncId} {args : List Value} {H H' : Hp} {e : Ending} {um : FrameMode} (pc : Code → St → Hp → Option (Exit × St × Hp)) (pk : CallEv) (h : evBody P ft (EΩ Q pc pk) f args false .run H = some (e, um, H')) : CallR Q f args H e H' := by
 intro B w0 hQ f1 args1 H1 e1 H1' he; unfold callAt at he; split at he
 ·
  rename_i q; obtain ⟨rfl, rfl, rfl⟩ := q; simp only [Option.some.injEq, Prod.mk.injEq] at he; obtain ⟨rfl, rfl⟩ := he; exact evBody_call (E := EΩ Q pc pk) hP (codeΩ_sound pc hQ) (EΩ_def pc pk) f1 args1 H1 _ _ (by unfold Evs.call; simp only; rw [h])
 ·
  cases he
theorem CallR.run {ft : Tr Func} (hP : PF P ft) {f : FuncId} {fn : Func} {c : Code} {args : List Value} {T : Tr Value} {H H1 H' : Hp} {S1 : St} {x : Exit} {e : Ending} {um : FrameMode} (hf : ft.get f = some fn) (hb : fn.body = some c) (ha : argsT args 0 (blank fn.ntmps) = some T)
  (hc : CodeR Q c ⟨T, fn.ntmps, [], false, .run, none⟩ H x S1 H1) (he : bodyEnd P (EΩ Q (codeAt c ⟨T, fn.ntmps, [], false, .run, none⟩ H (x, S1, H1)) noCall) fn (some (x, S1, H1)) = some (e, um, H')) : CallR Q f args H e H' := by
 refine CallR.of_body hP (codeAt c ⟨T, fn.ntmps, [], false, .run, none⟩ H (x, S1, H1)) noCall (um := um) ?_; unfold evBody; rw [hf]; show bodyOf P _ f fn args false .run H fn.body = _; rw [hb]; show bodyRun P _ fn c false .run H (argsT args 0 (blank fn.ntmps)) = _; rw [ha]; show bodyEnd P _ fn (codeΩ Q _ c ⟨T, fn.ntmps, [], false, .run, none⟩ H) = _; rw [codeΩ_one hc]; exact he
theorem CodeR.region (hmix : P.follows .mixedOrders = true) {id : Nat} {ops : Array Oper} {S S' : St} {H H' : Hp} (pk : CallEv) (h : evOps P (callΩ Q pk) (EΩ Q noCode pk).yld ops.toList ops.toList S H = some (.ok S' H')) : CodeR Q (.region id ops false) S H .normal S' H' := by
 refine CodeR.of_ev hmix noCode pk ?_; show regExit (evOps P (EΩ Q noCode pk).call (EΩ Q noCode pk).yld ops.toList ops.toList S H) = _; rw [EΩ_call, h]; rfl
end
end Go.Cre
namespace Go.Cre
open Go.RowKit
def Tr.has {α : Type} (T : Tr α) (n : Nat) : Prop := ∀ t, t < n → ∃ v, T.get t = some v
noncomputable def Tr.upd (T : Tr Value) : List (Nat × Value) → Tr Value
 | [] => T
 | (t, v) :: l => match Tr.put v (Tr.upd T l) t with | some T' => T' | none => Tr.upd T l
end Go.Cre
namespace Go.Opn
open Go.Cre
open Go.RowKit
theorem Tr.put_ok {α : Type} (a : α) : ∀ (T : Tr α) (n : Nat), (∀ m, m < n → ∃ v, T.get m = some v) → ∃ T', Tr.put a T n = some T' := by
 intro T; induction T with
 | leaf =>
  intro n h; cases n with
  | zero => exact ⟨_, rfl⟩
  | succ n => obtain ⟨v, hv⟩ := h 0 (by omega); cases hv
 | node v l r ihl ihr =>
  intro n h; cases n with
  | zero => exact ⟨_, rfl⟩
  | succ n =>
   rw [Tr.put_succ]; by_cases hn : n % 2 = 0
   ·
    rw [if_pos hn]; obtain ⟨l', hl⟩ := ihl (n / 2) fun m hm => by
     obtain ⟨v', hv⟩ := h (2 * m + 1) (by omega); rw [Tr.get_succ, if_pos (by omega), show 2 * m / 2 = m by omega] at hv; exact ⟨v', hv⟩
    rw [hl]; exact ⟨_, rfl⟩
   ·
    rw [if_neg hn]; obtain ⟨r', hr⟩ := ihr (n / 2) fun m hm => by
     obtain ⟨v', hv⟩ := h (2 * m + 1 + 1) (by omega); rw [Tr.get_succ, if_neg (by omega), show (2 * m + 1) / 2 = m by omega] at hv; exact ⟨v', hv⟩
    rw [hr]; exact ⟨_, rfl⟩
structure Wf (H : Hp) : Prop where
 here : ∀ a, a < H.nx → ∃ b, H.mem.get a = some b
 gone : ∀ a, H.nx ≤ a → H.mem.get a = none
 fhere : ∀ f, f < H.nf → ∃ l, H.fam.get f = some l
 fgone : ∀ f, H.nf ≤ f → H.fam.get f = none
 glt : H.glo ≤ H.nx
theorem Wf.lt {H : Hp} (h : Wf H) {a : Nat} {b : Blk} (g : H.mem.get a = some b) : a < H.nx := by
 rcases Nat.lt_or_ge a H.nx with q | q
 ·
  exact q
 ·
  rw [h.gone a q] at g; cases g
theorem Wf.flt {H : Hp} (h : Wf H) {f : Nat} {l : List Nat} (g : H.fam.get f = some l) : f < H.nf := by
 rcases Nat.lt_or_ge f H.nf with q | q
 ·
  exact q
 ·
  rw [h.fgone f q] at g; cases g
theorem Wf.new {H : Hp} (h : Wf H) (b : Blk) : ∃ H1, H.new b = some (H.nx, H1) := by
 obtain ⟨mem, nx, fam, nf, glo⟩ := H; obtain ⟨T, hT⟩ := Tr.put_ok b mem nx h.here; refine ⟨⟨T, nx + 1, fam, nf, glo⟩, ?_⟩; show Hp.new2 nx fam nf glo (Tr.put b mem nx) = _; rw [hT]; rfl
theorem Wf.new_wf {H H1 : Hp} {b : Blk} {id : Nat} (h : Wf H) (e : H.new b = some (id, H1)) : Wf H1 := by
 obtain ⟨_, e2, e3, e4, e5, e6⟩ := Hp.new_eq e; refine ⟨fun a ha => ?_, fun a ha => ?_, by rw [e3, e4]; exact h.fhere, by rw [e3, e4]; exact h.fgone, by have := h.glt; omega⟩
 ·
  rw [e6]; split
  ·
   exact ⟨_, rfl⟩
  ·
   exact h.here a (by omega)
 ·
  rw [e6, if_neg (by omega)]; exact h.gone a (by omega)
theorem Wf.upd {H : Hp} (h : Wf H) {a : Nat} (b : Blk) (ha : a < H.nx) : ∃ H1, H.upd a b = some H1 := by
 obtain ⟨mem, nx, fam, nf, glo⟩ := H; obtain ⟨x, hx⟩ := h.here a ha; obtain ⟨T, hT⟩ := Tr.put_of_get (a := b) hx; refine ⟨⟨T, nx, fam, nf, glo⟩, ?_⟩; show Hp.upd2 nx fam nf glo (Tr.put b mem a) = _; rw [hT]; rfl
theorem Wf.upd_wf {H H1 : Hp} {b : Blk} {a : Nat} (h : Wf H) (ha : a < H.nx) (e : H.upd a b = some H1) : Wf H1 := by
 obtain ⟨e1, e2, e3, e4, e5⟩ := Hp.upd_eq e; refine ⟨fun x hx => ?_, fun x hx => ?_, by rw [e2, e3]; exact h.fhere, by rw [e2, e3]; exact h.fgone, by have := h.glt; omega⟩
 ·
  rw [e5]; split
  ·
   exact ⟨_, rfl⟩
  ·
   exact h.here x (by omega)
 ·
  rw [e5, if_neg (by omega)]; exact h.gone x (by omega)
theorem Wf.newFam {H : Hp} (h : Wf H) : ∃ H1, H.newFam = some (H.nf, H1) := by
 obtain ⟨mem, nx, fam, nf, glo⟩ := H; obtain ⟨T, hT⟩ := Tr.put_ok [nx] fam nf h.fhere; refine ⟨⟨mem, nx, T, nf + 1, glo⟩, ?_⟩; show Hp.newFam2 mem nx nf glo (Tr.put [nx] fam nf) = _; rw [hT]; rfl
theorem Wf.newFam_wf {H H1 : Hp} {f : Nat} (h : Wf H) (e : H.newFam = some (f, H1)) : Wf H1 := by
 obtain ⟨e1, e2, e3, e4, e5, e6⟩ := Hp.newFam_eq e; refine ⟨by rw [e2, e3]; exact h.here, by rw [e2, e3]; exact h.gone, fun x hx => ?_, fun x hx => ?_, by have := h.glt; omega⟩
 ·
  rw [e6]; split
  ·
   exact ⟨_, rfl⟩
  ·
   exact h.fhere x (by omega)
 ·
  rw [e6, if_neg (by omega)]; exact h.fgone x (by omega)
theorem Wf.setFam {H : Hp} (h : Wf H) {f : Nat} (l : List Nat) (hf : f < H.nf) : ∃ H1, H.setFam f l = some H1 := by
 obtain ⟨mem, nx, fam, nf, glo⟩ := H; obtain ⟨x, hx⟩ := h.fhere f hf; obtain ⟨T, hT⟩ := Tr.put_of_get (a := l) hx; refine ⟨⟨mem, nx, T, nf, glo⟩, ?_⟩; show Hp.setFam2 mem nx nf glo (Tr.put l fam f) = _; rw [hT]; rfl
theorem Wf.setFam_wf {H H1 : Hp} {f : Nat} {l : List Nat} (h : Wf H) (hf : f < H.nf) (e : H.setFam f l = some H1) : Wf H1 := by
 obtain ⟨e1, e2, e3, e4, e5⟩ := Hp.setFam_eq e; refine ⟨by rw [e1, e2]; exact h.here, by rw [e1, e2]; exact h.gone, fun x hx => ?_, fun x hx => ?_, by have := h.glt; omega⟩
 ·
  rw [e5]; split
  ·
   exact ⟨_, rfl⟩
  ·
   exact h.fhere x (by omega)
 ·
  rw [e5, if_neg (by omega)]; exact h.fgone x (by omega)
structure Dx where
 ds : List Deferred
 rnd : Option Nat
 dfd : Bool
 um : FrameMode
def dx0 : Dx := ⟨[], none, false, .run⟩
structure En where
 n : Nat
 ds : Dx
 l : List (Nat × Value)
noncomputable def look : List (Nat × Value) → Nat → Option Value
 | [], _ => none
 | (u, v) :: l, t => bif Nat.beq t u then some v else look l t
structure Sat (E : En) (S : St) : Prop where
 n : S.n = E.n
 ds : S.ds = E.ds.ds
 dfd : S.dfd = E.ds.dfd
 um : S.um = E.ds.um
 rnd : S.rnd = E.ds.rnd
 has : S.T.has E.n
 get : ∀ t v, look E.l t = some v → S.T.get t = some v
noncomputable def En.put (E : En) : Option Tmp → Value → En
 | none, _ => E
 | some d, v => ⟨E.n, E.ds, (d, v) :: E.l⟩
noncomputable def dstOk (n : Nat) : Option Tmp → Bool
 | none => true
 | some d => Nat.blt d n
theorem Sat.put {E : En} {S : St} (h : Sat E S) {dst : Option Tmp} (hd : dstOk E.n dst = true) (v : Value) : ∃ S1, S.put dst v = some S1 ∧ Sat (E.put dst v) S1 := by
 cases dst with
 | none => exact ⟨S, rfl, h⟩
 | some d =>
  obtain ⟨T, n, ds, dfd, um, rnd⟩ := S; have hn : n = E.n := h.n; have hlt : d < E.n := by simpa [dstOk] using hd
  obtain ⟨x, hx⟩ := h.has d hlt; obtain ⟨T', hT⟩ := Tr.put_of_get (a := v) hx; refine ⟨⟨T', n, ds, dfd, um, rnd⟩, ?_, h.n, h.ds, h.dfd, h.um, h.rnd, fun t ht => ?_, fun t u hu => ?_⟩
  ·
   show Bool.rec (motive := fun _ => Option St) none (St.put3 n ds dfd um rnd (Tr.put v T d)) (Nat.ble (Nat.succ d) n) = _; have hb : Nat.ble (Nat.succ d) n = true := Nat.ble_eq_true_of_le (by rw [hn]; exact hlt); rw [hb, hT]; rfl
  ·
   show ∃ v, T'.get t = some v; rw [Tr.get_put hT]; split
   ·
    exact ⟨_, rfl⟩
   ·
    exact h.has t ht
  ·
   show T'.get t = some u; rw [Tr.get_put hT]; have hu : (bif Nat.beq t d then some v else look E.l t) = some u := hu; by_cases e : t = d
   ·
    subst e; rw [if_pos rfl]; simpa using hu
   ·
    rw [if_neg e]; have hb : Nat.beq t d = false := by
     cases q : Nat.beq t d
     ·
      rfl
     ·
      exact absurd (Nat.eq_of_beq_eq_true q) e
    rw [hb, cond_false] at hu; exact h.get t u hu
theorem Sat.weak {E : En} {S : St} (h : Sat E S) {l : List (Nat × Value)} (hl : ∀ t v, look l t = some v → look E.l t = some v) : Sat ⟨E.n, E.ds, l⟩ S :=
 ⟨h.n, h.ds, h.dfd, h.um, h.rnd, h.has, fun t v q => h.get t v (hl t v q)⟩
abbrev Jm := Nat → Option (List Value × TypeId)
def Jm.le (J J' : Jm) : Prop := ∀ a x, J a = some x → J' a = some x
theorem Jm.le.refl (J : Jm) : J.le J := fun _ _ h => h
theorem Jm.le.trans {J J1 J2 : Jm} (h : J.le J1) (k : J1.le J2) : J.le J2 := fun a x q => k a x (h a x q)
inductive PB where
 | row (cells : List Value) (e : TypeId)
 | opn (cells : List Value) (e : TypeId) (rest : List Nat) (z : Nat)
 | map (es : List MapEntry) (clock : Nat)
 | loop (r : ALoop)
 | dfr
def PB.at (F : Nat → Prop) (H : Hp) (a : Nat) : PB → Prop
 | .row cells e => H.mem.get a = some (.row cells e false 0 0 false)
 | .opn cells e rest z => ∃ f, F f ∧ H.mem.get a = some (.row cells e true f z false) ∧ H.fam.get f = some (a :: rest)
 | .map es clock => H.mem.get a = some (.map es clock)
 | .loop r => H.mem.get a = some (.loop r)
 | .dfr => H.mem.get a = some (.dfr (some []))
def PB.rest : PB → List Nat
 | .opn _ _ r _ => r
 | _ => []
def ids : List (Nat × PB) → List Nat
 | [] => []
 | (a, b) :: m => a :: (b.rest ++ ids m)
theorem ids_app : ∀ (m m' : List (Nat × PB)), ids (m ++ m') = ids m ++ ids m' := by
 intro m m'; induction m with
 | nil => rfl
 | cons x m ih => show x.1 :: (x.2.rest ++ ids (m ++ m')) = _; rw [ih]; simp [ids]
theorem ids_mem {a : Nat} : ∀ {m : List (Nat × PB)}, a ∈ ids m ↔ ∃ x ∈ m, a = x.1 ∨ a ∈ x.2.rest := by
 intro m; induction m with
 | nil => simp [ids]
 | cons x m ih =>
  show a ∈ x.1 :: (x.2.rest ++ ids m) ↔ _; rw [List.mem_cons, List.mem_append, ih]; constructor
  ·
   rintro (h | h | ⟨y, h1, h2⟩)
   ·
    exact ⟨x, .head _, .inl h⟩
   ·
    exact ⟨x, .head _, .inr h⟩
   ·
    exact ⟨y, .tail _ h1, h2⟩
  ·
   rintro ⟨y, h1, h2⟩; rcases List.mem_cons.1 h1 with q | q
   ·
    subst q; rcases h2 with h2 | h2
    ·
     exact .inl h2
    ·
     exact .inr (.inl h2)
   ·
    exact .inr (.inr ⟨y, q, h2⟩)
theorem ids_fst {a : Nat} {b : PB} {m : List (Nat × PB)} (h : (a, b) ∈ m) : a ∈ ids m := ids_mem.2 ⟨_, h, .inl rfl⟩
theorem ids_sub {m m' : List (Nat × PB)} (h : m'.Sublist m) : (ids m').Sublist (ids m) := by
 induction h with
 | slnil => exact List.Sublist.refl _
 | cons x _ ih => exact .cons _ (ih.trans (List.sublist_append_right _ _))
 | cons_cons x _ ih => exact .cons_cons _ ((List.Sublist.refl _).append ih)
theorem ids_perm {m m' : List (Nat × PB)} (h : m.Perm m') : (ids m).Perm (ids m') := by
 induction h with
 | nil => exact .nil
 | cons x _ ih => exact .cons _ (ih.append_left _)
 | swap x y l =>
  show (y.1 :: (y.2.rest ++ (x.1 :: (x.2.rest ++ ids l)))).Perm (x.1 :: (x.2.rest ++ (y.1 :: (y.2.rest ++ ids l)))); have h := List.perm_append_comm (l₁ := y.1 :: y.2.rest) (l₂ := x.1 :: x.2.rest); have := h.append_right (ids l); simpa using this
 | trans _ _ i1 i2 => exact i1.trans i2
theorem ids_fstN {m : List (Nat × PB)} (h : (ids m).Nodup) : (m.map Prod.fst).Nodup := by
 refine List.Sublist.nodup ?_ h; clear h
 induction m with
 | nil => exact List.Sublist.refl _
 | cons x m ih => exact .cons_cons _ (ih.trans (List.sublist_append_right _ _))
structure Bs where
 X : Nat → Prop
 Y : Nat → Prop
 H0 : Hp
 J0 : Jm
def Bs.ff (B : Bs) (f : Nat) : Prop := B.H0.nf ≤ f ∨ ∃ a r c e z s, B.H0.fam.get f = some (a :: r) ∧ B.H0.mem.get a = some (.row c e true f z s) ∧ B.Y a
theorem Bs.ff_lt {B : Bs} {f : Nat} (h : ¬ B.ff f) : f < B.H0.nf := Nat.lt_of_not_le fun q => h (.inl q)
structure Inv (g0 : Nat) (B : Bs) (J : Jm) (m : List (Nat × PB)) (H : Hp) : Prop where
 wf : Wf H
 glo : H.glo = g0
 nx : B.H0.nx ≤ H.nx
 nf : B.H0.nf ≤ H.nf
 keep : ∀ a, a < B.H0.nx → ¬ B.X a → H.mem.get a = B.H0.mem.get a
 keepF : ∀ f, ¬ B.ff f → H.fam.get f = B.H0.fam.get f
 pub : ∀ a c e, J a = some (c, e) → ∃ o f z s, H.mem.get a = some (.row c e o f z s)
 le : B.J0.le J
 fresh : ∀ a x, B.J0 a = none → J a = some x → B.H0.nx ≤ a ∨ B.X a
 own : ∀ a b, (a, b) ∈ m → b.at B.ff H a ∧ (B.H0.nx ≤ a ∨ B.X a) ∧ J a = none ∧ g0 ≤ a
 opn : ∀ a b, (a, b) ∈ m → ∀ x ∈ b.rest, x < H.nx ∧ (B.H0.nx ≤ x ∨ B.X x) ∧ J x = none
 nd : (ids m).Nodup
theorem PB.at_lt {F : Nat → Prop} {H : Hp} (w : Wf H) {a : Nat} {b : PB} (h : b.at F H a) : a < H.nx := by
 cases b with
 | row c e => exact w.lt h
 | opn c e r z => obtain ⟨f, _, h, _⟩ := h; exact w.lt h
 | map es k => exact w.lt h
 | loop r => exact w.lt h
 | dfr => exact w.lt h
theorem PB.at_mono {F : Nat → Prop} {H H1 : Hp} {a : Nat} {b : PB} (h : b.at F H a) (hm : H1.mem.get a = H.mem.get a) (hf : ∀ f r, H.fam.get f = some (a :: r) → H1.fam.get f = some (a :: r)) : b.at F H1 a := by
 cases b with
 | row c e => exact hm.trans h
 | opn c e r z => obtain ⟨f, h0, h1, h2⟩ := h; exact ⟨f, h0, hm.trans h1, hf _ _ h2⟩
 | map es k => exact hm.trans h
 | loop r => exact hm.trans h
 | dfr => exact hm.trans h
section
variable {g0 : Nat} {B : Bs} {H : Hp} {J : Jm} {m m' : List (Nat × PB)}
theorem Inv.lt (h : Inv g0 B J m H) {a : Nat} {b : PB} (hm : (a, b) ∈ m) : a < H.nx := PB.at_lt h.wf (h.own a b hm).1
theorem Inv.ltJ (h : Inv g0 B J m H) {a : Nat} {x : List Value × TypeId} (hj : J a = some x) : a < H.nx := by
 obtain ⟨c, e⟩ := x; obtain ⟨o, f, z, s, q⟩ := h.pub a c e hj; exact h.wf.lt q
theorem Inv.notJ (h : Inv g0 B J m H) : J H.nx = none := by
 cases q : J H.nx with
 | none => rfl
 | some x => exact absurd (h.ltJ q) (Nat.lt_irrefl _)
theorem Inv.ltI (h : Inv g0 B J m H) {x : Nat} (hx : x ∈ ids m) : x < H.nx := by
 obtain ⟨⟨a, b⟩, h1, h2⟩ := ids_mem.1 hx; rcases h2 with h2 | h2
 ·
  subst h2; exact h.lt h1
 ·
  exact (h.opn a b h1 x h2).1
theorem Inv.ownI (h : Inv g0 B J m H) {x : Nat} (hx : x ∈ ids m) : B.H0.nx ≤ x ∨ B.X x := by
 obtain ⟨⟨a, b⟩, h1, h2⟩ := ids_mem.1 hx; rcases h2 with h2 | h2
 ·
  subst h2; exact (h.own _ b h1).2.1
 ·
  exact (h.opn a b h1 x h2).2.1
theorem Inv.noJI (h : Inv g0 B J m H) {x : Nat} (hx : x ∈ ids m) : J x = none := by
 obtain ⟨⟨a, b⟩, h1, h2⟩ := ids_mem.1 hx; rcases h2 with h2 | h2
 ·
  subst h2; exact (h.own _ b h1).2.2.1
 ·
  exact (h.opn a b h1 x h2).2.2
theorem Inv.glb (h : Inv g0 B J m H) : g0 ≤ H.nx := by have := h.wf.glt; have := h.glo; omega
theorem Inv.new (h : Inv g0 B J m H) {H1 : Hp} {b : Blk} {p : PB} (e1 : H.new b = some (H.nx, H1)) (hp : p.at B.ff H1 H.nx) (hr : p.rest = [] := by rfl) : Inv g0 B J ((H.nx, p) :: m) H1 := by
 obtain ⟨_, n2, n3, n4, n5, n6⟩ := Hp.new_eq e1; refine ⟨h.wf.new_wf e1, n5.trans h.glo, by have := h.nx; omega, by rw [n4]; exact h.nf, fun a ha hx => ?_, fun f hf => by rw [n3]; exact h.keepF f hf, fun a c e hj => ?_, h.le, h.fresh, fun a b hb => ?_, fun a b hb x hx => ?_, ?_⟩
 ·
  rw [n6, if_neg (by have := h.nx; omega)]; exact h.keep a ha hx
 ·
  obtain ⟨o, f, z, s, q⟩ := h.pub a c e hj; exact ⟨o, f, z, s, by rw [n6, if_neg (by have := h.wf.lt q; omega)]; exact q⟩
 ·
  rcases List.mem_cons.1 hb with q | q
  ·
   injection q with q1 q2; subst q1; subst q2
   exact ⟨hp, .inl h.nx, h.notJ, h.glb⟩
  ·
   obtain ⟨k1, k2, k3, k4⟩ := h.own a b q; exact ⟨PB.at_mono k1 (by rw [n6, if_neg (by have := h.lt q; omega)]) (fun f l hf => by rw [n3]; exact hf), k2, k3, k4⟩
 ·
  rcases List.mem_cons.1 hb with q | q
  ·
   injection q with q1 q2; subst q1; subst q2; rw [hr] at hx; cases hx
  ·
   obtain ⟨k1, k2, k3⟩ := h.opn a b q x hx; exact ⟨by omega, k2, k3⟩
 ·
  show (H.nx :: (p.rest ++ ids m)).Nodup; rw [hr, List.nil_append, List.nodup_cons]; exact ⟨fun q => absurd (h.ltI q) (Nat.lt_irrefl _), h.nd⟩
theorem Inv.alloc (h : Inv g0 B J m H) (cells : List Value) (e : TypeId) :
  ∃ H1, H.new (.row cells e false 0 0 false) = some (H.nx, H1) ∧ Inv g0 B J ((H.nx, .row cells e) :: m) H1 := by
 obtain ⟨H1, e1⟩ := h.wf.new (.row cells e false 0 0 false); obtain ⟨_, n2, n3, n4, n5, n6⟩ := Hp.new_eq e1; exact ⟨H1, e1, h.new e1 (by show H1.mem.get H.nx = _; rw [n6, if_pos rfl])⟩
theorem Inv.allocMap (h : Inv g0 B J m H) (es : List MapEntry) (k : Nat) :
  ∃ H1, H.new (.map es k) = some (H.nx, H1) ∧ Inv g0 B J ((H.nx, .map es k) :: m) H1 := by
 obtain ⟨H1, e1⟩ := h.wf.new (.map es k); obtain ⟨_, n2, n3, n4, n5, n6⟩ := Hp.new_eq e1; exact ⟨H1, e1, h.new e1 (by show H1.mem.get H.nx = _; rw [n6, if_pos rfl])⟩
theorem Inv.fam (h : Inv g0 B J m H) : ∃ H1, H.newFam = some (H.nf, H1) ∧ Inv g0 B J m H1 ∧ H1.nx = H.nx ∧ H1.fam.get H.nf = some [H.nx] ∧ B.H0.nf ≤ H.nf := by
 obtain ⟨H1, e1⟩ := h.wf.newFam; obtain ⟨_, n2, n3, n4, n5, n6⟩ := Hp.newFam_eq e1; refine ⟨H1, e1, ⟨h.wf.newFam_wf e1, n5.trans h.glo, by rw [n2]; exact h.nx, by have := h.nf; omega, fun a ha hx => by rw [n3]; exact h.keep a ha hx, fun f hf => ?_, fun a c e hj => by rw [n3]; exact h.pub a c e hj, h.le, h.fresh, fun a b hb => ?_, fun a b hb x hx => by rw [n2]; exact h.opn a b hb x hx, h.nd⟩, n2, by rw [n6, if_pos rfl], h.nf⟩
 ·
  rw [n6, if_neg (by have := h.nf; have := Bs.ff_lt hf; omega)]; exact h.keepF f hf
 ·
  obtain ⟨k1, k2, k3, k4⟩ := h.own a b hb; exact ⟨PB.at_mono k1 (by rw [n3]) (fun f l hf => by rw [n6, if_neg (by have := h.wf.flt hf; omega)]; exact hf), k2, k3, k4⟩
theorem Inv.newOpen (h : Inv g0 B J m H) (cells : List Value) (e : TypeId) :
  ∃ H1, H.newOpen cells e false = some (H.nx, H1) ∧ Inv g0 B J ((H.nx, .opn cells e [] 0) :: m) H1 := by
 obtain ⟨H1, e1, h1, x1, f1, nf1⟩ := h.fam; obtain ⟨H2, e2⟩ := h1.wf.new (.row cells e true H.nf 0 false); obtain ⟨_, n2, n3, n4, n5, n6⟩ := Hp.new_eq e2; refine ⟨H2, ?_, ?_⟩
 ·
  unfold Hp.newOpen; rw [e1]; simp only; rw [e2, x1]
 ·
  have := h1.new (p := .opn cells e [] 0) e2 ⟨H.nf, .inl nf1, by rw [n6, if_pos rfl], by rw [n3, f1, x1]⟩; rwa [x1] at this
inductive Put : List (Nat × PB) → Nat → PB → PB → List (Nat × PB) → Prop
 | head (a : Nat) (b b' : PB) (m : List (Nat × PB)) : Put ((a, b) :: m) a b b' ((a, b') :: m)
 | tail (x : Nat × PB) {m m' : List (Nat × PB)} {a : Nat} {b b' : PB} : Put m a b b' m' → Put (x :: m) a b b' (x :: m')
theorem Put.mem {m m' : List (Nat × PB)} {a : Nat} {b b' : PB} (h : Put m a b b' m') : (a, b) ∈ m := by
 induction h with
 | head => exact .head _
 | tail _ _ ih => exact .tail _ ih
theorem Put.fst {m m' : List (Nat × PB)} {a : Nat} {b b' : PB} (h : Put m a b b' m') : m'.map Prod.fst = m.map Prod.fst := by
 induction h with
 | head => rfl
 | tail x _ ih => simp [ih]
theorem Put.mem' {m m' : List (Nat × PB)} {a : Nat} {b b' : PB} (h : Put m a b b' m') (hn : (m.map Prod.fst).Nodup) : ∀ x c, (x, c) ∈ m' → (x = a ∧ c = b') ∨ (x ≠ a ∧ (x, c) ∈ m) := by
 induction h with
 | head a b b' m =>
  intro x c hx; rw [List.map_cons, List.nodup_cons] at hn; rcases List.mem_cons.1 hx with q | q
  ·
   injection q with q1 q2; exact .inl ⟨q1, q2⟩
  ·
   refine .inr ⟨fun e => hn.1 ?_, .tail _ q⟩; subst e; exact List.mem_map.2 ⟨_, q, rfl⟩
 | tail y hp ih =>
  intro x c hx; rw [List.map_cons, List.nodup_cons] at hn; rcases List.mem_cons.1 hx with q | q
  ·
   refine .inr ⟨fun e => hn.1 ?_, by rw [q]; exact .head _⟩; have : y.1 = x := by rw [← q]
   rw [this, e]; exact List.mem_map.2 ⟨_, hp.mem, rfl⟩
  ·
   rcases ih hn.2 x c q with r | ⟨r1, r2⟩
   ·
    exact .inl r
   ·
    exact .inr ⟨r1, .tail _ r2⟩
theorem Put.ids {m m' : List (Nat × PB)} {a : Nat} {b b' : PB} (h : Put m a b b' m') (hr : b'.rest = []) : (ids m').Sublist (ids m) := by
 induction h with
 | head a b b' m => show (a :: (b'.rest ++ Opn.ids m)).Sublist (a :: (b.rest ++ Opn.ids m)); rw [hr]; exact .cons_cons _ (List.sublist_append_right _ _)
 | tail x _ ih => exact .cons_cons _ ((List.Sublist.refl _).append (ih hr))
theorem Inv.upd (h : Inv g0 B J m H) {a : Nat} {b p : PB} {c : Blk} {H1 : Hp} (hp : Put m a b p m') (e1 : H.upd a c = some H1) (hc : p.at B.ff H1 a) (hr : p.rest = [] := by rfl) : Inv g0 B J m' H1 := by
  obtain ⟨k1, k2, k3, k4⟩ := h.own a _ hp.mem; have hnd := ids_fstN h.nd; have hlt := h.lt hp.mem; obtain ⟨n1, n2, n3, n4, n5⟩ := Hp.upd_eq e1; refine ⟨h.wf.upd_wf hlt e1, n4.trans h.glo, by rw [n1]; exact h.nx, by rw [n3]; exact h.nf, fun x hx hX => ?_, fun f hf => by rw [n2]; exact h.keepF f hf, fun x c e hj => ?_, h.le, h.fresh, fun x b hb => ?_, fun x b hb y hy => ?_, (hp.ids hr).nodup h.nd⟩
  · rw [n5, if_neg (fun q => by subst q; rcases k2 with q | q; · omega
                                · exact hX q)]
    exact h.keep x hx hX
  · obtain ⟨o, f, z, s, q⟩ := h.pub x c e hj
    exact ⟨o, f, z, s, by rw [n5, if_neg (fun r => by subst r; rw [k3] at hj; cases hj)]; exact q⟩
  · rcases hp.mem' hnd x b hb with ⟨rfl, rfl⟩ | ⟨q1, q2⟩
    · exact ⟨hc, k2, k3, k4⟩
    · obtain ⟨l1, l2, l3, l4⟩ := h.own x b q2
      exact ⟨PB.at_mono l1 (by rw [n5, if_neg q1]) (fun f l hf => by rw [n2]; exact hf), l2, l3, l4⟩
  · rcases hp.mem' hnd x b hb with ⟨rfl, rfl⟩ | ⟨q1, q2⟩
    · rw [hr] at hy; cases hy
    · rw [n1]; exact h.opn x b q2 y hy
theorem Inv.store {a : Nat} {cells cells' : List Value} {e : TypeId} (h : Inv g0 B J m H) (hp : Put m a (.row cells e) (.row cells' e) m') :
  ∃ H1, H.upd a (.row cells' e false 0 0 false) = some H1 ∧ Inv g0 B J m' H1 := by
 obtain ⟨H1, e1⟩ := h.wf.upd (.row cells' e false 0 0 false) (h.lt hp.mem); exact ⟨H1, e1, h.upd hp e1 (by show H1.mem.get a = _; rw [(Hp.upd_eq e1).2.2.2.2, if_pos rfl])⟩
theorem Inv.sub (h : Inv g0 B J m H) (hs : m'.Sublist m) : Inv g0 B J m' H :=
 ⟨h.wf, h.glo, h.nx, h.nf, h.keep, h.keepF, h.pub, h.le, h.fresh, fun a b q => h.own a b (hs.subset q), fun a b q => h.opn a b (hs.subset q), (ids_sub hs).nodup h.nd⟩
def Jm.add (J : Jm) (a : Nat) (x : List Value × TypeId) : Jm := fun i => if i = a then some x else J i
theorem Jm.add_at (J : Jm) (a : Nat) (x : List Value × TypeId) : (J.add a x) a = some x := if_pos rfl
theorem Jm.add_le {J : Jm} {a : Nat} {x : List Value × TypeId} (h : J a = none) : J.le (J.add a x) := fun i y q => by
 unfold Jm.add; split
 ·
  rename_i e; subst e; rw [h] at q; cases q
 ·
  exact q
def PB.rowOf : PB → Option (List Value × TypeId)
 | .row c e => some (c, e)
 | .opn c e _ _ => some (c, e)
 | .map _ _ => none
 | .loop _ => none
 | .dfr => none
theorem Inv.publish {a : Nat} {b : PB} {x : List Value × TypeId} (h : Inv g0 B J ((a, b) :: m) H) (hx : b.rowOf = some x) : Inv g0 B (J.add a x) m H ∧ J.le (J.add a x) := by
 obtain ⟨k1, k2, k3, k4⟩ := h.own a b (.head _); have hnd := h.nd; rw [show ids ((a, b) :: m) = a :: (b.rest ++ ids m) from rfl, List.nodup_cons, List.mem_append] at hnd; have hle := Jm.add_le (x := x) k3; refine ⟨⟨h.wf, h.glo, h.nx, h.nf, h.keep, h.keepF, fun i c e hj => ?_, h.le.trans hle, fun i y q hy => ?_, fun i p hp => ?_, fun i p hp y hy => ?_, (List.sublist_append_right _ _).nodup hnd.2⟩, hle⟩
 ·
  unfold Jm.add at hj; split at hj
  ·
   rename_i q; subst q; injection hj with hj; subst hj
   cases b with
   | row c' e' => injection hx with hx; injection hx with h1 h2; subst h1; subst h2; exact ⟨_, _, _, _, k1⟩
   | opn c' e' r z => injection hx with hx; injection hx with h1 h2; subst h1; subst h2; obtain ⟨f, _, k, _⟩ := k1; exact ⟨_, _, _, _, k⟩
   | map es k => cases hx
   | loop r => cases hx
   | dfr => cases hx
  ·
   exact h.pub i c e hj
 ·
  unfold Jm.add at hy; split at hy
  ·
   rename_i e; subst e; exact k2
  ·
   exact h.fresh i y q hy
 ·
  obtain ⟨l1, l2, l3, l4⟩ := h.own i p (.tail _ hp); refine ⟨l1, l2, ?_, l4⟩; unfold Jm.add; rw [if_neg]
  ·
   exact l3
  ·
   intro e; subst e; exact hnd.1 (.inr (ids_fst hp))
 ·
  obtain ⟨l1, l2, l3⟩ := h.opn i p (.tail _ hp) y hy; refine ⟨l1, l2, ?_⟩; unfold Jm.add; rw [if_neg]
  ·
   exact l3
  ·
   intro e; subst e; exact hnd.1 (.inr (ids_mem.2 ⟨_, hp, .inr hy⟩))
end
end Go.Opn

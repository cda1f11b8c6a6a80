/- A part of the proof of ResumeSaves. -/
import Derived.Test.YtmeojgcibppcmaaDoorCreO
set_option linter.unusedVariables false
set_option linter.unusedSimpArgs false
namespace Go.Cre
open Go.RowKit
section
variable {P : Program} {B : Nat → Prop} {w0 w : World} {μ : Mp} {H H' : Hp} {n : Nat} {tmps : Array Value}
variable {call : CallEv} {yld : YieldEv} {o : Oper} {S : St}
theorem isNil_spec {α : Type} {l : List α} (h : isNil l = true) : l = [] := by
 cases l with
 | nil => rfl
 | cons a l => cases h
theorem dcDrop_succ {α : Type} (k : Nat) (l : List α) : dcDrop (k + 1) l = Option.rec (motive := fun _ => Option (List α)) none (dcDrop k) (dcDrop k l) := rfl
theorem dcDrop_spec {α : Type} : ∀ {k : Nat} {l r : List α}, dcDrop k l = some r → l.length = 2 ^ k + r.length := by
 intro k; induction k with
 | zero =>
  intro l r h; cases l with
  | nil => cases h
  | cons v l =>
   have h : some l = some r := h; injection h with h; subst h; simp; omega
 | succ k ih =>
  intro l r h; rw [dcDrop_succ] at h; cases h1 : dcDrop k l with
  | none => rw [h1] at h; cases h
  | some m =>
   rw [h1] at h; have h : dcDrop k m = some r := h; have e1 := ih h1; have e2 := ih h; rw [Nat.pow_succ]; omega
theorem dcSize_succ {α : Type} (k n : Nat) (l : List α) : dcSize (k + 1) n l = Option.rec (motive := fun _ => Option Nat) (dcSize k n l) (fun r => dcSize k (Nat.add n (Nat.pow 2 k)) r) (dcDrop k l) := rfl
theorem dcSize_spec {α : Type} : ∀ {k n m : Nat} {l : List α}, dcSize k n l = some m → m = n + l.length := by
 intro k; induction k with
 | zero =>
  intro n m l h; have h : Bool.rec (motive := fun _ => Option Nat) none (some n) (isNil l) = some m := h; cases hn : isNil l with
  | false => rw [hn] at h; cases h
  | true => rw [hn] at h; injection h with h; rw [isNil_spec hn]; simp [h]
 | succ k ih =>
  intro n m l h; rw [dcSize_succ] at h; cases h1 : dcDrop k l with
  | none => rw [h1] at h; exact ih h
  | some r =>
   rw [h1] at h; have h : dcSize k (n + 2 ^ k) r = some m := h; have e1 := dcDrop_spec h1; have e2 := ih h; omega
theorem lenD_eq {α : Type} {l : List α} {n : Nat} (h : lenD l = some n) : n = l.length := by
 unfold lenD at h; cases hb : isNil (dropN 256 l) with
 | true => rw [hb, cond_true] at h; injection h with h; exact h.symm
 | false =>
  rw [hb, cond_false] at h; split at h
  ·
   rename_i m hm; injection h with h; subst h
   have := dcSize_spec hm; omega
  ·
   split at h
   ·
    rename_i m hm; injection h with h; subst h
    have := dcSize_spec hm; omega
   ·
    injection h with h; exact h.symm
theorem optOpd_sound (h : HRel P B w0 μ H w) {T : Tr Value} (ht : TRel μ T n tmps) {x : Option Operand} {v : Option Value} (he : optOpd T H x = some v) : ORel μ v (x.map (rho tmps)) := by
 cases x with
 | none => simp [optOpd] at he; subst he; trivial
 | some x =>
  simp only [optOpd] at he; cases hx : opd T H x with
  | none => rw [hx] at he; simp at he
  | some u => rw [hx] at he; simp at he; subst he; exact opd_sound h ht hx
theorem evBuiltin_sound (h : HRel P B w0 μ H w) (ht : TRel μ S.T n tmps) {c : Call} {b : Builtin} {r : OpRes} (hc : o.op = .call c) (hb : c.callee = .builtin b) (he : evBuiltin P S H o b c = some r) : OpOk P B w0 call yld μ H w (execOp (rho tmps) o) r := by
 have hsel : ∀ cs b, o.op ≠ .select cs b := fun cs b q => by rw [hc] at q; cases q
 have hplain : evPlain P S.T H o = some r → OpOk P B w0 call yld μ H w (execOp (rho tmps) o) r := evPlain_sound h ht hsel; obtain ⟨cs, hex⟩ : ∃ cs, execOp (rho tmps) o = builtin b c.argTypes o.type cs (c.args.map (rho tmps)) := ⟨_, by simp [execOp, hc, resolve, hb, invoke]; rfl⟩; unfold evBuiltin at he; cases ha : opds S.T H c.args.toList with
 | none => rw [ha] at he; simp at he
 | some args =>
  rw [ha] at he; have hl : LRel μ args (c.args.map (rho tmps)).toList := by have := opds_sound h ht ha; simpa using this
  simp only at he; have harr : ∀ l, (c.args.map (rho tmps)).toList = l → c.args.map (rho tmps) = l.toArray := fun l q => by rw [← q]
  have htarr : ∀ l, c.argTypes.toList = l → c.argTypes = l.toArray := fun l q => by rw [← q]
  split at he
  ·
   -- len of a slice
   rename_i a m cp t hty; split at he
   ·
    rename_i e hu; injection he with he; subst he
    obtain ⟨v', l', e1, h1, h2⟩ := hl.inv_cons; have := h2.inv_nil; subst this; refine .inl ⟨.int .i64 m, w, μ, ?_, h, Step.refl _ _, .atom _ rfl⟩; rw [hex, harr _ e1, htarr _ hty]; cases a with
    | none => rw [h1.slice_nil]; simp [builtin, Builtin.len_, und_run hu, goInt]
    | some a => obtain ⟨_, _, rfl⟩ := h1.slice_some; simp [builtin, Builtin.len_, und_run hu, goInt]
   ·
    cases he
  ·
   -- len of a map
   rename_i rr t hty; split at he
   ·
    rename_i k e hu; split at he
    ·
     rename_i es clock hm; injection he with he; subst he
     obtain ⟨v', l', e1, h1, h2⟩ := hl.inv_cons; have := h2.inv_nil; subst this; obtain ⟨L, hL, rfl⟩ := h1.map_inv; obtain ⟨es', clock', g1, g2⟩ := h.map hL hm; have hgo : (getObj L.r).run P w = .ok (.map es' clock') w := by simp [getObj, Sem.run, g1]
     have hlen : es'.size = es.length := by have := g2.length; simp at this; omega
     refine .inl ⟨.int .i64 es.length, w, μ, ?_, h, Step.refl _ _, .atom _ rfl⟩; rw [hex, harr _ e1, htarr _ hty]; simp [builtin, Builtin.len_, und_run hu, goInt, hgo, hlen]
    ·
     cases he
   ·
    cases he
  ·
   -- len of a string
   rename_i s t hty; split at he
   ·
    rename_i hu; have he : some (OpRes.val (.int .i64 s.data.toList.length) H) = some r := by
     cases hle : lenD s.data.toList with
     | none => rw [hle] at he; cases he
     | some n =>
      rw [hle] at he; simp only at he; rw [forceInt_eq] at he; rw [← lenD_eq hle]; exact he
    injection he with he; subst he
    obtain ⟨v', l', e1, h1, h2⟩ := hl.inv_cons; have := h2.inv_nil; subst this; have hrun : (Builtin.len_ #[t] o.type #[.string s]).run P w = .ok (goInt s.size) w := by simp [Builtin.len_, und_run hu]
    refine .inl ⟨goInt s.size, w, μ, ?_, h, Step.refl _ _, .atom _ rfl⟩; rw [hex, harr _ e1, htarr _ hty, h1.string_inv]; simp [builtin, hrun]
   ·
    cases he
  ·
   -- append
   rename_i s x ts tx hty; split at he
   ·
    cases he
   ·
    rename_i d hd hu; obtain ⟨v', l', e1, h1, h2⟩ := hl.inv_cons; obtain ⟨v'', l'', rfl, h3, h4⟩ := h2.inv_cons; have := h4.inv_nil; subst this; have := opOk_vh (call := call) (yld := yld) (s := Builtin.append_ #[ts, tx] o.type #[v', v'']) (fun v H' q => evAppend_sound h h1 h3 hu (fun k q => hd k q) q) he; rw [hex, harr _ e1, htarr _ hty]; exact this
   ·
    cases he
  ·
   -- cap
   rename_i a m cp t hty; split at he
   ·
    rename_i e hu; cases hop : Nat.beq cp openCap with
    | true => rw [hop] at he; cases he
    | false =>
     rw [hop, cond_false] at he; injection he with he; subst he
     obtain ⟨v', l', e1, h1, h2⟩ := hl.inv_cons; have := h2.inv_nil; subst this; have hne : cp ≠ openCap := fun q => by rw [q, Nat.beq_refl] at hop; cases hop
     obtain ⟨a', rfl⟩ := h1.slice_cap hne; refine .inl ⟨.int .i64 cp, w, μ, ?_, h, Step.refl _ _, .atom _ rfl⟩; rw [hex, harr _ e1, htarr _ hty]; simp [builtin, Builtin.cap_, und_run hu, goInt]
   ·
    cases he
  ·
   -- the slice's data
   rename_i a m cp; cases hop : (Nat.beq cp openCap && Nat.beq m 0) with
   | true => rw [hop] at he; cases he
   | false =>
    rw [hop, cond_false] at he; cases hc0 : Nat.beq cp 0 with
    | true => rw [hc0] at he; cases he
    | false =>
     rw [hc0, cond_false] at he; injection he with he; subst he
     obtain ⟨v', l', e1, h1, h2⟩ := hl.inv_cons; have := h2.inv_nil; subst this; have hc0 : cp ≠ 0 := fun q => by rw [q] at hc0; cases hc0
     obtain ⟨id, off, L, off', cap', rfl, hL, rfl, ho, _, hcase⟩ := h1.slice_inv (.inr (.inr (by omega))); have hm : cp = openCap → m ≠ 0 := fun q q' => by subst q; subst q'; rw [Nat.beq_refl] at hop; cases hop
     have hcap : cap' ≠ 0 ∧ off' = off := by
      rcases hcase with ⟨_, rfl, rfl⟩ | ⟨q, q2, rfl, _⟩ | ⟨q, q2, _⟩
      ·
       exact ⟨hc0, rfl⟩
      ·
       exact ⟨by have := hm q; omega, rfl⟩
      ·
       exact absurd q2 (hm q)
     obtain ⟨hcap, rfl⟩ := hcap; refine .inl ⟨.pointer (some ⟨L.r, off', none⟩), w, μ, ?_, h, Step.refl _ _, .ptr id off' L hL⟩; have hrun : (Builtin.unsafeSliceData_ c.argTypes o.type #[.slice (some ⟨L.r, off', none⟩) m cap']).run P w = .ok (.pointer (some ⟨L.r, off', none⟩)) w := by
      show ((if cap' ≠ 0 then pure _ else _ : Sem Value)).run P w = _; rw [if_pos hcap]; rfl
     rw [hex, harr _ e1]; simp [builtin, hrun]
  ·
   -- a string over bytes
   rename_i p m pt it hty; obtain ⟨v', l', e1, h1, h2⟩ := hl.inv_cons; obtain ⟨v'', l'', rfl, h3, h4⟩ := h2.inv_cons; have := h4.inv_nil; subst this; have := opOk_vh (call := call) (yld := yld) (s := Builtin.unsafeString_ #[pt, it] o.type #[v', v'']) (fun v H' q => by
    obtain ⟨a1, a2, a3, a4, a5, a6⟩ := evUnsafeString_sound h h1 h3 q; exact ⟨a1, a2, μ, a3, a4, a5, a6⟩) he
   rw [hex, harr _ e1, htarr _ hty]; exact this
  ·
   -- copy
   rename_i d s td ts hty; obtain ⟨v', l', e1, h1, h2⟩ := hl.inv_cons; obtain ⟨v'', l'', rfl, h3, h4⟩ := h2.inv_cons; have := h4.inv_nil; subst this; have := opOk_vh (call := call) (yld := yld) (s := Builtin.copy_ #[td, ts] o.type #[v', v'']) (fun v H' q => by
    obtain ⟨a1, a2, a3, a4, a5, a6⟩ := evCopy_sound h h1 h3 q; exact ⟨a1, a2, μ, a3, a4, a5, a6⟩) he
   rw [hex, harr _ e1, htarr _ hty]; exact this
  ·
   -- panic
   rename_i t v; injection he with he; subst he
   obtain ⟨v', l', e1, h1, h2⟩ := hl.inv_cons; have := h2.inv_nil; subst this; obtain ⟨x', rfl, hx⟩ := h1.iface_inv; refine .inl ⟨.iface t v, .iface t x', rfl, rfl, ?_, .iface t v x' hx⟩; rw [hex, harr _ e1]; simp [builtin, Instr.panic, goPanic, Sem.run]
  ·
   -- recover
   have e1 := hl.inv_nil; have hrun : (execOp (rho tmps) o).run P w = .ok .recover w := by rw [hex]; simp [builtin]
   injection he with he; subst he
   exact hrun
  ·
   exact hplain he
theorem evDefer_sound (h : HRel P B w0 μ H w) (ht : TRel μ S.T n tmps) {c : Call} {r : OpRes} (hc : o.op = .defer c) (he : evDefer P S.T H c = some r) : OpOk P B w0 call yld μ H w (execOp (rho tmps) o) r := by
 unfold evDefer at he; cases ha : opds S.T H c.args.toList with
 | none => rw [ha] at he; simp at he
 | some args =>
  rw [ha] at he; simp only at he; have hl : LRel μ args (c.args.map (rho tmps)).toList := by have := opds_sound h ht ha; simpa using this
  cases hcal : c.callee with
  | builtin b => rw [hcal] at he; simp at he
  | invoke recv name =>
   rw [hcal] at he; simp only at he; cases hr : opd S.T H recv with
   | none => rw [hr] at he; simp at he
   | some rv =>
    rw [hr] at he; simp only [Option.some.injEq] at he; subst he; refine ⟨.method name, #[], #[], rv :: args, rho tmps recv :: (c.args.map (rho tmps)).toList, rfl, ?_, rfl, LRel.nil _, LRel.cons (opd_sound h ht hr) hl⟩; have e1 : (rho tmps recv :: (c.args.map (rho tmps)).toList).toArray = #[rho tmps recv] ++ c.args.map (rho tmps) := by apply Array.ext'; simp
    rw [e1]; simp [execOp, hc, resolve, hcal]
  | value fo =>
   rw [hcal] at he; simp only at he; cases hf : opd S.T H fo with
   | none => rw [hf] at he; simp at he
   | some fv =>
    rw [hf] at he; have hfr := opd_sound h ht hf; cases fv with
    | func fn first captured =>
     simp only at he; cases hny : notYield fn with
     | false => rw [hny] at he; simp at he
     | true =>
     rw [hny] at he; simp only [cond_true, Option.some.injEq] at he; subst he; rcases hfr.func_inv with ⟨a', b', hv, _, h1, h2⟩ | ⟨l, L, rfl, hL, rfl, rfl, hv⟩
     ·
      refine ⟨fn, captured, b', first.toList ++ args, a'.toList ++ (c.args.map (rho tmps)).toList, rfl, ?_, hny, h2, h1.append hl⟩; have e1 : (a'.toList ++ (c.args.map (rho tmps)).toList).toArray = a' ++ c.args.map (rho tmps) := by apply Array.ext'; simp
      rw [e1]; simp [execOp, hc, resolve, hcal, Deferred.ofValue, hv]
     ·
      simp [notYield] at hny
    | _ => simp at he
end
end Go.Cre

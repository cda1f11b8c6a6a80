/- A part of the proof of ResumeSaves. -/
import Derived.Test.YtmeojgcibppcmaaDoorOpnP
set_option linter.unusedVariables false
set_option linter.unusedSimpArgs false
namespace Go.Opn
open Go.Cre Go.RowKit
open Classical
noncomputable def rowOf (w : World) (g : Nat) : Option (List Value × TypeId) := match w.heap[g]? with
 | some (.cells c e _) => some (c.toList, e)
 | _ => none
theorem rowOf_inv {w : World} {g : Nat} {cs : List Value} {e : TypeId} (h : rowOf w g = some (cs, e)) : ∃ c f, w.heap[g]? = some (.cells c e f) ∧ c.toList = cs := by
 unfold rowOf at h; split at h
 ·
  rename_i c e' f hc; injection h with h; injection h with h1 h2
  subst h1; subst h2; exact ⟨c, f, hc, rfl⟩
 ·
  cases h
theorem rowOf_mk {w : World} {g : Nat} {c : Array Value} {e : TypeId} {f : Nat × Nat} (h : w.heap[g]? = some (.cells c e f)) : rowOf w g = some (c.toList, e) := by
 unfold rowOf; rw [h]
noncomputable def mpA (P : Program) (w : World) : Mp := fun g => match rowOf w g with
 | some (cs, e) => some ⟨g, cs.length, P.cellsOf e⟩
 | none => none
theorem mpA_inv {P : Program} {w : World} {g : Nat} {L : Cre.Loc} (h : mpA P w g = some L) : ∃ cs e, rowOf w g = some (cs, e) ∧ L = ⟨g, cs.length, P.cellsOf e⟩ := by
 unfold mpA at h; cases hr : rowOf w g with
 | none => rw [hr] at h; cases h
 | some x => obtain ⟨cs, e⟩ := x; rw [hr] at h; injection h with h; exact ⟨cs, e, rfl, h.symm⟩
theorem mpA_row {P : Program} {w : World} {g : Nat} (h : (rowOf w g).isSome) : ∃ L, mpA P w g = some L ∧ L.r = g := by
 obtain ⟨⟨cs, e⟩, hx⟩ := Option.isSome_iff_exists.1 h; unfold mpA; rw [hx]; exact ⟨_, rfl, rfl⟩
theorem absE {μ : Mp} : ∀ (n : Nat) (v : Value), SizeOf.sizeOf v ≤ n → ∃ v0, VRel μ v0 v := by
 intro n; induction n with
 | zero => intro v h; cases v <;> simp at h
 | succ n ih =>
  intro v h; have arr : ∀ cs : Array Value, SizeOf.sizeOf cs ≤ n → ∃ as : Array Value, as.size = cs.size ∧ ∀ (i : Nat) v v', as[i]? = some v → cs[i]? = some v' → VRel μ v v' := fun cs hs => by
   have key : ∀ i : Fin cs.size, ∃ v0, VRel μ v0 cs[i] := fun i => ih _ (by have := Array.sizeOf_getElem cs i.1 i.2; have e : cs[i] = cs[i.1] := rfl; rw [e]; omega); refine ⟨Array.ofFn fun i => Classical.choose (key i), by simp, fun i v v' h1 h2 => ?_⟩; rw [Array.getElem?_ofFn] at h1; split at h1
   ·
    rename_i hi; injection h1 with h1; subst h1
    rw [Array.getElem?_eq_getElem hi] at h2; injection h2 with h2; subst h2
    exact Classical.choose_spec (key ⟨i, hi⟩)
   ·
    cases h1
  by_cases ho : oneCell v = true
  ·
   exact ⟨_, .wild v ho⟩
  ·
   cases v with
   | agg cs =>
    obtain ⟨as, h1, h2⟩ := arr cs (by simp at h; omega); exact ⟨_, .agg as cs h1 h2⟩
   | tuple cs =>
    obtain ⟨as, h1, h2⟩ := arr cs (by simp at h; omega); exact ⟨_, .tuple as cs h1 h2⟩
   | _ => exact absurd rfl ho
noncomputable def absV (P : Program) (w : World) (v : Value) : Value := match v with
 | .pointer (some ⟨r, off, none⟩) => if (rowOf w r).isSome then v else .chan none
 | .slice (some a) len cap => if a.spot = none ∧ (rowOf w a.block).isSome ∧ cap < openCap then v else if len = 0 ∧ cap = 0 then .slice (some ⟨0, 0, some 0⟩) 0 0 else .chan none
 | v => if isAtom v = true then v else Classical.choose (absE (μ := mpA P w) (SizeOf.sizeOf v) v (Nat.le_refl _))
theorem absV_atom {P : Program} {w : World} {v : Value} (h : isAtom v = true) : absV P w v = v := by
 unfold absV; split
 ·
  simp [isAtom] at h
 ·
  simp [isAtom] at h
 ·
  rw [if_pos h]
theorem absV_rel {P : Program} {w : World} (v : Value) : VRel (mpA P w) (absV P w v) v := by
 unfold absV; split
 ·
  rename_i r off; split
  ·
   rename_i q; obtain ⟨L, h1, h2⟩ := mpA_row (P := P) q; have := VRel.ptr r off L h1; rwa [h2] at this
  ·
   exact .wild _ rfl
 ·
  rename_i a len cap; split
  ·
   rename_i q; obtain ⟨r, off, sp⟩ := a; obtain ⟨q0, q1, q2⟩ := q; have q0 : sp = none := q0; subst q0; obtain ⟨L, h1, h2⟩ := mpA_row (P := P) q1; have h2 : L.r = r := h2; have := VRel.sliceE r off len cap L h1 q2; rwa [h2] at this
  ·
   split
   ·
    rename_i q; obtain ⟨rfl, rfl⟩ := q; exact .sliceX a
   ·
    exact .wild _ rfl
 ·
  split
  ·
   exact .atom _ (by assumption)
  ·
   exact Classical.choose_spec (absE (μ := mpA P w) (SizeOf.sizeOf v) v (Nat.le_refl _))
noncomputable def rowA (P : Program) (w : World) (g : Nat) : Option (List Value × TypeId) := match rowOf w g with
 | some (cs, e) => some (cs.map (absV P w), e)
 | none => none
theorem rowA_inv {P : Program} {w : World} {g : Nat} {cs : List Value} {e : TypeId} (h : rowA P w g = some (cs, e)) : ∃ c, rowOf w g = some (c, e) ∧ cs = c.map (absV P w) := by
 unfold rowA at h; split at h
 ·
  rename_i c e' q; injection h with h; injection h with h1 h2
  subst h1; subst h2; exact ⟨c, q, rfl⟩
 ·
  cases h
theorem rowA_mk {P : Program} {w : World} {g : Nat} {cs : List Value} {e : TypeId} (h : rowOf w g = some (cs, e)) : rowA P w g = some (cs.map (absV P w), e) := by
 unfold rowA; rw [h]
noncomputable def blkA (P : Program) (w : World) (g : Nat) : Blk := match rowA P w g with
 | some (cs, e) => .row cs e false 0 cs.length true
 | none => .dead
noncomputable def memA (P : Program) (w : World) : Tr Blk := match trOf ((List.range w.heap.size).map (blkA P w)) 0 .leaf with | some t => t | none => .leaf
theorem memA_get {P : Program} {w : World} (g : Nat) : (memA P w).get g = if g < w.heap.size then some (blkA P w g) else none := by
 obtain ⟨T, hT⟩ := trOf_ok ((List.range w.heap.size).map (blkA P w)) 0 .leaf (fun k hk => absurd hk (by omega)); unfold memA; rw [hT]; simp only
 rw [trOf_get hT]; simp only [Nat.zero_le, true_and, List.length_map, List.length_range, Nat.zero_add, Nat.sub_zero]; split
 ·
  rename_i h; rw [List.getElem?_map, List.getElem?_range h]; rfl
 ·
  rfl
noncomputable def hpA (P : Program) (w : World) : Hp := ⟨memA P w, w.heap.size, .leaf, 0, w.heap.size⟩
theorem rowA_lt {P : Program} {w : World} {g : Nat} {x : List Value × TypeId} (h : rowA P w g = some x) : g < w.heap.size := by
 obtain ⟨cs, e⟩ := x; obtain ⟨c, h1, _⟩ := rowA_inv h; obtain ⟨c', f, h2, _⟩ := rowOf_inv h1; exact (Array.getElem?_eq_some_iff.1 h2).1
theorem hpA_row {P : Program} {w : World} {g : Nat} {cs : List Value} {e : TypeId} (h : rowA P w g = some (cs, e)) : (hpA P w).mem.get g = some (.row cs e false 0 cs.length true) := by
 show (memA P w).get g = _; rw [memA_get, if_pos (rowA_lt h)]; unfold blkA; rw [h]
theorem hpA_inv {P : Program} {w : World} {g : Nat} {b : Blk} (h : (hpA P w).mem.get g = some b) : g < w.heap.size ∧ (b = .dead ∨ ∃ cs e, rowA P w g = some (cs, e) ∧ b = .row cs e false 0 cs.length true) := by
 have h : (memA P w).get g = some b := h; rw [memA_get] at h; split at h
 ·
  rename_i hg; refine ⟨hg, ?_⟩; injection h with h
  unfold blkA at h; cases hr : rowA P w g with
  | none => rw [hr] at h; exact .inl h.symm
  | some x => obtain ⟨cs, e⟩ := x; rw [hr] at h; exact .inr ⟨cs, e, rfl, h.symm⟩
 ·
  cases h
theorem first_relA (P : Program) (w : World) : HRel P (fun k => k < w.heap.size) w (mpA P w) (hpA P w) w := by
 have mlt : ∀ x L, mpA P w x = some L → x < w.heap.size := fun x L hx => by
  obtain ⟨cs, e, h1, _⟩ := mpA_inv hx; exact rowA_lt (rowA_mk (P := P) h1)
 refine ⟨Kept.refl _ _, fun _ hk => hk, ?_, ?_, mlt, ?_, ?_, ?_, Nat.le_refl _, ?_, ?_, ?_⟩
 ·
  intro g L q; obtain ⟨c, e, h2, rfl⟩ := mpA_inv q; obtain ⟨c', f, h3, rfl⟩ := rowOf_inv h2; refine ⟨_, _, hpA_row (rowA_mk h2), h3, rfl, by simp, rfl, by simp, fun _ => by simp, fun i v v' x y => ?_, ⟨fun off ho _ _ => by simpa using ho, fun q => by cases q⟩⟩; rw [List.getElem?_map] at x; have y' : c'.toList[i]? = some v' := by simpa using y
  rw [y'] at x; injection x with x; subst x
  exact absV_rel v'
 ·
  intro x y L1 L2 hxy hx hy hr; obtain ⟨_, _, _, rfl⟩ := mpA_inv hx; obtain ⟨_, _, _, rfl⟩ := mpA_inv hy; exact absurd hr hxy
 ·
  intro x L hx _; obtain ⟨_, _, _, rfl⟩ := mpA_inv hx; rfl
 ·
  intro x L hx hg _; have := mlt x L hx; have hg : w.heap.size ≤ x := hg; omega
 ·
  intro g c e o f z s _ hm; obtain ⟨hg, q⟩ := hpA_inv hm; rcases q with q | ⟨cs, e', q1, q2⟩
  ·
   cases q
  ·
   obtain ⟨c0, h1, _⟩ := rowA_inv q1; refine ⟨⟨g, c0.length, P.cellsOf e'⟩, ?_⟩; unfold mpA; rw [h1]
 ·
  intro x c e f z s hm; obtain ⟨_, q⟩ := hpA_inv hm; rcases q with q | ⟨_, _, _, q⟩ <;> cases q
 ·
  intro f l x hl; cases hl
 ·
  intro f l hl; cases hl
noncomputable def jA (P : Program) (w : World) : Jm := rowA P w
theorem inv_first (P : Program) (w : World) : Inv w.heap.size (mkB [] (hpA P w) (jA P w)) (jA P w) [] (hpA P w) := by
 refine ⟨⟨fun a ha => ?_, fun a ha => ?_, fun f hf => absurd hf (Nat.not_lt_zero _), fun f _ => rfl, Nat.le_refl _⟩, rfl, Nat.le_refl _, Nat.le_refl _, fun _ _ _ => rfl, fun _ _ => rfl, fun a c e h => ?_, Jm.le.refl _, fun a x h1 h2 => ?_, fun a b h => (by cases h), (fun a b h => by cases h), List.nodup_nil⟩
 ·
  refine ⟨blkA P w a, ?_⟩; show (memA P w).get a = _; rw [memA_get, if_pos (show a < w.heap.size from ha)]
 ·
  show (memA P w).get a = none; rw [memA_get, if_neg (by have ha : w.heap.size ≤ a := ha; omega)]
 ·
  exact ⟨_, _, _, _, hpA_row h⟩
 ·
  rw [show jA P w a = none from h1] at h2; cases h2
section
variable {K : Kx}
theorem open_calls {w : World} {f : FuncId} {fn : Func} {c : Code} {args : List Value} {args' : Array Value} {b : Bool} (hQ : K.Q.ok (fun k => k < w.heap.size) w) (hg : K.g0 = w.heap.size) (hf : K.P.funcs[f]? = some fn) (hb : fn.body = some c) (hl : LRel (mpA K.P w) args args'.toList) (hF : Fn K f args [] (jA K.P w) (fun v m J => v = .bool b)) :
  Calls K.P f args' w fun e w' => e = .returned (.bool b) ∧ Below w.heap.size w w' := by
 have hI : Inv K.g0 (mkB [] (hpA K.P w) (jA K.P w)) (jA K.P w) [] (hpA K.P w) := by rw [hg]; exact inv_first K.P w
 obtain ⟨v, H', J', m', h1, h2, rfl⟩ := hF (hpA K.P w) hI; have hs := h1 _ w hQ f args (hpA K.P w) (.returned (.bool b)) H' (by unfold callAt; rw [if_pos ⟨rfl, rfl, rfl⟩]) (mpA K.P w) w args'.toList (first_relA K.P w) hl; rcases hs with ⟨v, v', w', μ', _, q, _⟩ | ⟨_, q⟩
 ·
  rw [enter_run hf hb (K.hP.num f fn hf (by rw [hb]; rfl))] at q; cases q
 ·
  refine Calls.mono q fun e' w' hq => ?_; obtain ⟨μ', g1, g2, g3⟩ := hq; cases e' with
  | returned v' =>
   have hv : VRel μ' (.bool b) v' := g3; rw [hv.bool_inv]; exact ⟨rfl, g1.below.below⟩
  | panicked c => exact g3.elim
  | outgrown => exact g3.elim
theorem Fn.closed {H0 : Hp} {f : FuncId} {fn : Func} {c : Code} {v : Value} {J : Jm} (hp : plain v = true) (hf : K.P.funcs[f]? = some fn) (hb : fn.body = some c) (hok : ∀ B w, K.Q.ok B w → Laid K.P w H0 ∧ LaidIn H0 B)
  (hc : ∀ w, Laid K.P w H0 → Calls K.P f #[] w fun e w' => e = .returned v ∧ Below w.heap.size w w') : Fn K f [] [] J (fun u m' J' => u = v ∧ m' = [] ∧ J' = J) := by
 intro H hI; refine ⟨v, H, J, [], fun B w0 hQ => ?_, hI, rfl, rfl, rfl⟩; obtain ⟨hl0, hB⟩ := hok B w0 hQ; intro f' args' H' e H'' he μ w args'' h hl; unfold callAt at he; split at he
 ·
  rename_i q; obtain ⟨rfl, rfl, rfl⟩ := q; simp only [Option.some.injEq, Prod.mk.injEq] at he; obtain ⟨rfl, rfl⟩ := he; obtain rfl := hl.inv_nil; refine .inr ⟨enter_run hf hb (K.hP.num f' fn hf (by rw [hb]; rfl)) _ w, ?_⟩; refine Calls.mono (hc w (hl0.keep hB h.below)) fun e' w' ⟨he', hbl⟩ => ?_; subst he'; exact ⟨μ, h.grow hbl, Step.refl _ _, plain_rel hp⟩
 ·
  cases he
def worldsOf (P : Program) (H0 : Hp) : Worlds P where
 ok B w := Laid P w H0 ∧ LaidIn H0 B
 up B w0 Bx wx h hB hk := ⟨h.1.keep h.2 hk, fun g b hg hb => hB g (h.2 g b hg hb)⟩
end
theorem veq_slice {b : Option Addr} (h : addrEq b b = true) (l c n : Nat) : veq (n + 1) (.slice b l c) (.slice b l c) = true := by
 show (addrEq b b && Nat.beq l l && Nat.beq c c) = true; rw [Nat.beq_refl, Nat.beq_refl, h]; rfl
theorem veq_agg {n : Nat} : ∀ {l : List Value}, (∀ v ∈ l, veq n v v = true) → veq (n + 1) (.agg l.toArray) (.agg l.toArray) = true := by
 intro l h; show all2 (veq n) l l = true; induction l with
 | nil => rfl
 | cons a l ih =>
  show (veq n a a && all2 (veq n) l l) = true; rw [h a (.head _), ih (fun v hv => h v (.tail _ hv))]; rfl
theorem veqs_nil {n : Nat} : ∀ v ∈ ([] : List Value), veq n v v = true := fun v hv => by cases hv
theorem veqs_cons {n : Nat} {a : Value} {l : List Value} (h : veq n a a = true) (hl : ∀ v ∈ l, veq n v v = true) : ∀ v ∈ a :: l, veq n v v = true := fun v hv => by
 rcases List.mem_cons.1 hv with rfl | q
 ·
  exact h
 ·
  exact hl v q
section
variable {K : Kx} {B : Bs} {o : Oper} {n : Nat} {ds : Dx} {l : List (Nat × Value)} {m m' : Mm} {J : Jm} {Ψ : En → Mm → Jm → Prop} {d : Nat} {Θ : Exit → En → Mm → Jm → Prop}
theorem WC.permM {c : Code} {E : En} (hp : m'.Perm m) (h : WC K B c E m' J Θ) : WC K B c E m J Θ := fun S H hS hI => h S H hS (hI.perm hp.symm)
theorem Rd.perm {g0 sz k : Nat} {v : Value} {cs : List Value} (hp : m.Perm m') (h : Rd g0 B J m sz v k cs) : Rd g0 B J m' sz v k cs := fun H hI => h H (hI.perm hp.symm)
theorem perm_mid1 {α : Type} {x : α} {mo r : List α} : (x :: (mo ++ r)).Perm (mo ++ x :: r) := List.perm_middle.symm
theorem perm_mid2 {α : Type} {x y : α} {mo r : List α} : (x :: y :: (mo ++ r)).Perm (mo ++ x :: y :: r) := (perm_mid1.cons x).trans perm_mid1
theorem perm_mid3 {α : Type} {x y z : α} {mo r : List α} : (x :: y :: z :: (mo ++ r)).Perm (mo ++ x :: y :: z :: r) := (perm_mid2.cons x).trans perm_mid1
theorem perm_mid4 {α : Type} {x y z u : α} {mo r : List α} : (x :: y :: z :: u :: (mo ++ r)).Perm (mo ++ x :: y :: z :: u :: r) := (perm_mid3.cons x).trans perm_mid1
theorem Rd.own {g0 : Nat} {e : TypeId} {sz k c a : Nat} {cells : List Value} (hm : (a, PB.row cells e) ∈ m) (hl : cells.length = k * sz) : Rd g0 B J m sz (.slice (some ⟨a, 0, none⟩) k c) k cells := by
 intro H hI; refine ⟨rfl, ?_⟩; have g := (hI.own _ _ hm).1; have g : H.mem.get a = some (.row cells e false 0 0 false) := g; unfold evFirst; cases k with
 | zero =>
  simp only
  rw [Nat.zero_mul] at hl; rw [List.eq_nil_of_length_eq_zero hl]
 | succ k =>
  simp only [g]; rw [dropN_eq, List.drop_zero, takeN_ok (by omega), List.take_of_length_le (by omega)]
theorem x_accP {c : Call} {t tx e : TypeId} {sz k j : Nat} {zs cells new : List Value} {v x : Value} {mo m0 : Mm} {dx : TypeDesc} (ho : o.op = .call c) (hc : c.callee = .builtin .append) (hd : o.dst = some d) (hn : Nat.blt d n = true) (ha : eos l c.args.toList = some [v, x]) (hts : c.argTypes.toList = [t, tx]) (ht : slT K.P t = some (e, sz, zs)) (htx : K.P.underlying tx = some dx) (hni : ∀ i, dx ≠ .int i)
  (hv : Acc e sz v k cells mo) (hm : m.Perm (mo ++ m0)) (hx : Rd K.g0 B J m sz x j new) (hnl : new.length = j * sz) (hne : new.all oneCell = true) (hl : k + j ≤ 1000000)
  (h : ∀ w mo', Acc e sz w (k + j) (cells ++ new) mo' → Ψ ⟨n, ds, (d, w) :: l⟩ (mo' ++ m0) J) : ExecA K B o ⟨n, ds, l⟩ m J Ψ := fun S H hS hI =>
 x_acc ho hc hd hn ha hts ht htx hni hv rfl (hx.perm hm) hnl hne hl h S H hS (hI.perm hm)
theorem Acc.pubP {c : Code} {e : TypeId} {sz k : Nat} {v : Value} {cells : List Value} {mo m0 : Mm} {E : En} (h : Acc e sz v k cells mo) (hm : m.Perm (mo ++ m0)) (hk : ∀ J', J.le J' → SlC J' e sz v k cells → WC K B c E m0 J' Θ) : WC K B c E m J Θ :=
 WC.permM hm.symm (h.pub rfl hk)
end
end Go.Opn

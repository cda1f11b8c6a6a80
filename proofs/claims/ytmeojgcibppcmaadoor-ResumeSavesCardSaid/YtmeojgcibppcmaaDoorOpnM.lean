/- A part of the proof of ResumeSaves. -/
import Derived.Test.YtmeojgcibppcmaaDoorOpnK
set_option linter.unusedVariables false
set_option linter.unusedSimpArgs false
namespace Go.Opn
open Go.Cre Go.RowKit
section
variable {K : Kx} {B : Bs} {o : Oper} {n : Nat} {ds : Dx} {l : List (Nat × Value)} {m m' : Mm} {J : Jm} {Ψ : En → Mm → Jm → Prop} {d : Nat} {Θ : Exit → En → Mm → Jm → Prop}
theorem wrap_u8 {n : Int} (h1 : 0 ≤ n) (h2 : n ≤ 255) : IntKind.u8.wrap n = n := by
 unfold IntKind.wrap IntKind.signed IntKind.bits; simp only [Bool.false_and, Bool.false_eq_true, if_false]; omega
noncomputable def arI (a b : Int) : BinOp → Option Int
 | .add => some (a + b)
 | .sub => some (a - b)
 | .mul => some (a * b)
 | _ => none
theorem v_ar {op : BinOp} {t ty : TypeId} {x y : Operand} {k : IntKind} {a b c c' : Int} (ho : o.op = .binOp op t x y ty) (hx : eo l x = some (.int k a)) (hy : eo l y = some (.int k b)) (hv : arI a b op = some c) (hw : k.wrap c = c') : Val K B o n ds l m J (.int k c') := by
 refine v_int ho hx hy ?_; cases op <;> simp only [arI, Option.some.injEq, reduceCtorEq] at hv <;> subst hv <;> subst hw <;> rfl
theorem v_strEq {op : BinOp} {t ty : TypeId} {x y : Operand} {a b : List UInt8} {v : Value} (ho : o.op = .binOp op t x y ty) (hx : eo l x = some (.string ⟨⟨a⟩⟩)) (hy : eo l y = some (.string ⟨⟨b⟩⟩)) (hop : op = .eql ∧ v = .bool (decide (a = b)) ∨ op = .neq ∧ v = .bool (decide (¬ a = b))) : Val K B o n ds l m J v := by
 intro call yld S H hS hI; unfold evOp evOpX; simp only [ho]; show opBin2 K.P _ op t (opd S.T H x) (opd S.T H y) = _; rw [eo_opd hS H hx, eo_opd hS H hy]; show orElse (evPlain K.P S.T H o) _ = _; have : evPlain K.P S.T H o = some (.val v H) := by
  rcases hop with ⟨rfl, rfl⟩ | ⟨rfl, rfl⟩
  ·
   refine plain2 hS (by rw [ho]; rfl) hx hy rfl rfl ?_ rfl; unfold execOp; simp only [ho]; rw [eo_or hS H hx, eo_or hS H hy]; have hb : binOp .eql t (.string ⟨⟨a⟩⟩) (.string ⟨⟨b⟩⟩) = Op.stringOp .eql ⟨⟨a⟩⟩ ⟨⟨b⟩⟩ := by simp [binOp]
   have hg : evPure K.P (eqGuard .eql t x y (.string ⟨⟨a⟩⟩) (.string ⟨⟨b⟩⟩)) = some () := rfl; rw [evPure_bind (a := .bool (decide (a = b)))]
   ·
    rfl
   rw [evPure_bind hg, hb]; show some (Value.bool ((⟨⟨a⟩⟩ : ByteArray).toList == (⟨⟨b⟩⟩ : ByteArray).toList)) = _; rw [ba_eq]
  ·
   refine plain2 hS (by rw [ho]; rfl) hx hy rfl rfl ?_ rfl; unfold execOp; simp only [ho]; rw [eo_or hS H hx, eo_or hS H hy]; have hb : binOp .neq t (.string ⟨⟨a⟩⟩) (.string ⟨⟨b⟩⟩) = Op.stringOp .neq ⟨⟨a⟩⟩ ⟨⟨b⟩⟩ := by simp [binOp]
   have hg : evPure K.P (eqGuard .neq t x y (.string ⟨⟨a⟩⟩) (.string ⟨⟨b⟩⟩)) = some () := rfl; rw [evPure_bind (a := .bool (decide (¬ a = b)))]
   ·
    rfl
   rw [evPure_bind hg, hb]; show some (Value.bool (!((⟨⟨a⟩⟩ : ByteArray).toList == (⟨⟨b⟩⟩ : ByteArray).toList))) = _; rw [ba_eq, show (!decide (a = b)) = decide (¬ a = b) by simp]
 rw [this]; rfl
theorem guardT_no {S : St} {ops : List Oper} {d : Nat} {want : Bool} (hg : guardT ops o = some (d, want)) (hb : S.T.get d = some undef) : guardB ops S.T o = some false := by
 unfold guardT at hg; unfold guardB; cases q : o.guard with
 | none => rw [q] at hg; cases hg
 | some x =>
  obtain ⟨j, w⟩ := x; rw [q] at hg; show guardC ops S.T (j, w) = _; unfold guardC; simp only at hg ⊢; cases hn : nth ops j with
  | none => rfl
  | some p =>
   rw [hn] at hg; simp only at hg ⊢; cases hd : p.dst with
   | none => rfl
   | some d' =>
    rw [hd] at hg; simp only [Option.some.injEq, Prod.mk.injEq] at hg; obtain ⟨rfl, rfl⟩ := hg; simp only [hb]; rfl
theorem WC.cutK {c : Code} (k : Nat) (news : List (Nat × Value)) (h1 : WC K B c ⟨n, ds, l⟩ m J fun e E' m' J' => match e with
      | .normal => (∃ l', E' = ⟨n, ds, l'⟩ ∧ subL l' (news ++ l.drop k)) ∧ m.Sublist m' ∧ J' = J
      | e => Θ e E' m' J') (h2 : Θ .normal ⟨n, ds, news ++ l.drop k⟩ m J) : WC K B c ⟨n, ds, l⟩ m J Θ := WC.cut h1 h2
theorem WC.loopG {α : Type} {c : Code} {base : List (Nat × Value)} (mods : α → List (Nat × Value)) (mem : α → Mm) (pub : α → Jm) (inv : α → Prop) (meas : α → Nat) (s : α) (hs : inv s)
  (hstep : ∀ s, inv s → WC K B c ⟨n, ds, mods s ++ base⟩ (mem s) (pub s) fun e E m J => match e with
   | .normal => ∃ s' l, inv s' ∧ meas s' < meas s ∧ E = ⟨n, ds, l⟩ ∧ subL l (mods s' ++ base) ∧ (mem s').Sublist m ∧ J = pub s'
   | e => Θ e E m J) : WC K B (.loop c) ⟨n, ds, mods s ++ base⟩ (mem s) (pub s) Θ :=
 WC.loop (fun s => mods s ++ base) mem pub inv meas hstep s hs
theorem WC.loopC {α : Type} {c : Code} {base : List (Nat × Value)} (mods : α → List (Nat × Value)) (inv : α → Prop) (meas : α → Nat) (s : α) (hs : inv s)
  (hstep : ∀ s, inv s → WC K B c ⟨n, ds, mods s ++ base⟩ m J fun e E m1 J1 => match e with
   | .normal => ∃ s' l, inv s' ∧ meas s' < meas s ∧ E = ⟨n, ds, l⟩ ∧ subL l (mods s' ++ base) ∧ m.Sublist m1 ∧ J1 = J
   | e => Θ e E m1 J1) : WC K B (.loop c) ⟨n, ds, mods s ++ base⟩ m J Θ :=
 WC.loop (fun s => mods s ++ base) (fun _ => m) (fun _ => J) inv meas hstep s hs
theorem Put.app {mo m m' : Mm} {a : Nat} {b b' : PB} (h : Put m a b b' m') : Put (mo ++ m) a b b' (mo ++ m') := by
 induction mo with
 | nil => exact h
 | cons x mo ih => exact .tail x ih
def IntsC (J : Jm) (v : Value) (l : List Int) : Prop := SlC J 3 1 v l.length (l.map (Value.int .i64))
theorem IntsC.mono {J J' : Jm} (hle : J.le J') {v : Value} {l : List Int} (h : IntsC J v l) : IntsC J' v l := SlC.mono hle h
theorem IntsC.inv {J : Jm} {v : Value} {l : List Int} (h : IntsC J v l) : ∃ b c, v = .slice b l.length c ∧ (b = none → l = []) ∧ (0 < l.length → ∃ a off cells e, b = some ⟨a, off, none⟩ ∧ J a = some (cells, e) ∧ ∀ (i : Int), 0 ≤ i → i < l.length → ∃ x, l[i.toNat]? = some x ∧ nth cells (off + i.toNat * 1) = some (.int .i64 x)) := by
 obtain ⟨b, c, h1, h2, h4, h3⟩ := SlC.inv h; refine ⟨b, c, h1, fun q => List.eq_nil_of_length_eq_zero (h4 q), fun q => ?_⟩; obtain ⟨a, off, cells, e, k1, k2, k3⟩ := h3 q; refine ⟨a, off, cells, e, k1, k2, fun i i0 i1 => ?_⟩; have hlt : i.toNat < l.length := by omega
 refine ⟨l[i.toNat], List.getElem?_eq_getElem hlt, ?_⟩; rw [Nat.mul_one, k3 _ (by omega), List.getElem?_map, List.getElem?_eq_getElem hlt]; rfl
theorem W.pub {ops rest : List Oper} {Φ : Option (List PanicEntry) → En → Mm → Jm → Prop} {E : En} {a : Nat} {b : PB} {x : List Value × TypeId} (hx : b.rowOf = some x) (h : J.le (J.add a x) → (J.add a x) a = some x → W K B ops rest E m (J.add a x) Φ) : W K B ops rest E ((a, b) :: m) J Φ := by
 intro S H hS hI; obtain ⟨k1, k2⟩ := hI.publish hx; exact h k2 (Jm.add_at _ _ _) S H hS k1
def IntsR (J : Jm) (v : Value) (l : List Int) : Prop := ∃ e, SlC J e 1 v l.length (l.map (Value.int .i64))
theorem IntsC.r {v : Value} {l : List Int} (h : IntsC J v l) : IntsR J v l := ⟨_, h⟩
theorem IntsR.mono {J' : Jm} (hle : J.le J') {v : Value} {l : List Int} (h : IntsR J v l) : IntsR J' v l := by obtain ⟨e, h⟩ := h; exact ⟨e, h.mono hle⟩
theorem IntsR.inv {v : Value} {l : List Int} (h : IntsR J v l) : ∃ b c, v = .slice b l.length c ∧ (b = none → l = []) ∧ (0 < l.length → ∃ a off cells e, b = some ⟨a, off, none⟩ ∧ J a = some (cells, e) ∧ ∀ (i : Int), 0 ≤ i → i < l.length → ∃ x, l[i.toNat]? = some x ∧ nth cells (off + i.toNat * 1) = some (.int .i64 x)) := by
 obtain ⟨e, h⟩ := h; obtain ⟨b, c, h1, h2, h4, h3⟩ := SlC.inv h; refine ⟨b, c, h1, fun q => List.eq_nil_of_length_eq_zero (h4 q), fun q => ?_⟩; obtain ⟨a, off, cells, e, k1, k2, k3⟩ := h3 q; refine ⟨a, off, cells, e, k1, k2, fun i i0 i1 => ?_⟩; have hlt : i.toNat < l.length := by omega
 refine ⟨l[i.toNat], List.getElem?_eq_getElem hlt, ?_⟩; rw [Nat.mul_one, k3 _ (by omega), List.getElem?_map, List.getElem?_eq_getElem hlt]; rfl
theorem IntsR.lit {a : Nat} {l : List Int} {e : TypeId} (hl : l.length < openCap) (h : J a = some (l.map (Value.int .i64), e)) : IntsR J (.slice (some ⟨a, 0, none⟩) l.length l.length) l :=
 ⟨e, .row h (by rw [List.drop_zero, List.take_of_length_le (by simp)]) (by simp) (fun _ => ⟨Nat.le_refl _, hl⟩) (fun q => absurd q (by omega))⟩
theorem get_at {α : Type} (s : List α) (i : Nat) (h : i < s.length) : ∃ b, s[((i : Nat) : Int).toNat]? = some b ∧ s[i]? = some b := ⟨s[i], by simp [h], List.getElem?_eq_getElem h⟩
theorem v_lenS {c : Call} {s : List UInt8} {t : TypeId} (ho : o.op = .call c) (hc : c.callee = .builtin .len) (ha : eos l c.args.toList = some [.string ⟨⟨s⟩⟩]) (ht : c.argTypes.toList = [t]) (hs : isStr K.P t = true) : Val K B o n ds l m J (.int .i64 s.length) := v_lenStr ho hc ha ht hs
theorem v_indexS {t : TypeId} {x ix : Operand} {s : List UInt8} {k : IntKind} {i : Int} {b : UInt8} (ho : o.op = .index t x ix) (hx : eo l x = some (.string ⟨⟨s⟩⟩)) (hi : eo l ix = some (.int k i)) (ht : isStr K.P t = true) (h0 : 0 ≤ i) (hb : s[i.toNat]? = some b) : Val K B o n ds l m J (.int .u8 b.toNat) := v_indexStr ho hx hi ht h0 hb
def byteVs (s : List UInt8) : List Value := s.map fun b => Value.int .u8 b.toNat
theorem pick_perm {α : Type} : ∀ (L : List α) (k : Nat) (h : k < L.length), (L[k] :: L.eraseIdx k).Perm L := by
 intro L; induction L with
 | nil => intro k h; cases h
 | cons a L ih =>
  intro k h; cases k with
  | zero => exact List.Perm.refl _
  | succ k => exact (List.Perm.swap _ _ _).trans ((ih k (by simpa using h)).cons a)
theorem perm_pick {α : Type} {p : α} {rest L : List α} (k : Nat) (hp : nth L k = some p) (hr : rest.Perm (L.eraseIdx k)) : (p :: rest).Perm L := by
 rw [nth_eq] at hp; obtain ⟨h, rfl⟩ := List.getElem?_eq_some_iff.1 hp; exact (hr.cons _).trans (pick_perm L k h)
end
section
variable {K : Kx} {B : Bs} {n : Nat} {ds : Dx} {l : List (Nat × Value)} {m : Mm} {J : Jm} {Θ : Exit → En → Mm → Jm → Prop}
structure Fresh (r : ALoop) (n : Nat) (params : List Tmp) (assign body : Code) (lp : Nat) (l : List (Nat × Value)) : Prop where
 st : r.state = .ready
 nn : r.n = n
 ps : r.params = params
 as : r.assign = assign
 bd : r.body = body
 pd : r.pending = none
 sat : Sat ⟨n, dxl lp, l⟩ ⟨r.T, n, [], false, .run, some lp⟩
theorem Fresh.again {r : ALoop} {params : List Tmp} {assign body : Code} {lp : Nat} (h : Fresh r n params assign body lp l) : Fresh { r with state := .ready, pending := none } n params assign body lp l := ⟨rfl, h.nn, h.ps, h.as, h.bd, rfl, h.sat⟩
end
end Go.Opn

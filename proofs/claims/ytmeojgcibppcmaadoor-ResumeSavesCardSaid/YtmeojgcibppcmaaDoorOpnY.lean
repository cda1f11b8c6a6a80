/- A part of the proof of ResumeSaves. -/
import Derived.Test.YtmeojgcibppcmaaDoorOpnT
import Derived.Test.YtmeojgcibppcmaaDoorOpnR
import Derived.Test.YtmeojgcibppcmaaDoorOpnM
import Derived.Test.YtmeojgcibppcmaaDoorOpnI
set_option linter.unusedVariables false
set_option linter.unusedSimpArgs false
namespace Go.Opn
open Go.Cre Go.RowKit
section
variable {K : Kx} {B : Bs} {o : Oper} {n : Nat} {ds : Dx} {l : List (Nat × Value)} {m m' : Mm} {J : Jm} {Ψ : En → Mm → Jm → Prop} {d : Nat}
noncomputable def divI (k : IntKind) (a b : Int) : BinOp → Option Value
 | .quo => some (.int k (k.wrap (a.tdiv b)))
 | .rem => some (.int k (a.tmod b))
 | _ => none
theorem v_div {op : BinOp} {t ty : TypeId} {x y : Operand} {k : IntKind} {a b : Int} {v : Value} (ho : o.op = .binOp op t x y ty) (hx : eo l x = some (.int k a)) (hy : eo l y = some (.int k b)) (hv : divI k a b op = some v) (hb : b ≠ 0) : Val K B o n ds l m J v := by
 intro call yld S H hS hI; unfold evOp evOpX; simp only [ho]; show opBin2 K.P _ op t (opd S.T H x) (opd S.T H y) = _; rw [eo_opd hS H hx, eo_opd hS H hy]; show (bif kindEq k k then intBin H k a b _ op else _) = _; rw [kindEq_refl, cond_true]; have key : ∀ (op' : BinOp), op = op' → (op' = .quo ∨ op' = .rem) → evPlain K.P S.T H o = some (.val v H) := by
  intro op' e h; subst e; refine plain2 hS (by rw [ho]; rfl) hx hy rfl rfl ?_ ?_
  ·
   unfold execOp; simp only [ho]; rw [eo_or hS H hx, eo_or hS H hy]; rcases h with rfl | rfl
   ·
    simp only [divI, Option.some.injEq] at hv; subst hv; have hg : evPure K.P (eqGuard .quo t x y (.int k a) (.int k b)) = some () := rfl; have hbb : binOp .quo t (.int k a) (.int k b) = pure (.int k (k.wrap (a.tdiv b))) := by simp [binOp, Op.intDiv, hb]
    rw [evPure_bind (a := .int k (k.wrap (a.tdiv b)))]
    ·
     rfl
    rw [evPure_bind hg, hbb]; rfl
   ·
    simp only [divI, Option.some.injEq] at hv; subst hv; have hg : evPure K.P (eqGuard .rem t x y (.int k a) (.int k b)) = some () := rfl; have hbb : binOp .rem t (.int k a) (.int k b) = pure (.int k (a.tmod b)) := by simp [binOp, Op.intDiv, hb]
    rw [evPure_bind (a := .int k (a.tmod b))]
    ·
     rfl
    rw [evPure_bind hg, hbb]; rfl
  ·
   rcases h with rfl | rfl <;> simp only [divI, Option.some.injEq] at hv <;> subst hv <;> rfl
 cases op <;> simp only [divI, reduceCtorEq] at hv
 ·
  exact key _ rfl (.inl rfl)
 ·
  exact key _ rfl (.inr rfl)
end
structure Elems {α : Type} (J : Jm) (e : TypeId) (sz : Nat) (R : α → List Value → Prop) (v : Value) (xs : List α) : Prop where
 ex : ∃ cs, SlC J e sz v xs.length cs ∧ ∀ i x, xs[i]? = some x → R x ((cs.drop (i * sz)).take sz)
theorem Elems.mono {α : Type} {J J' : Jm} {e : TypeId} {sz : Nat} {R R' : α → List Value → Prop} {v : Value} {xs : List α} (hle : J.le J') (hR : ∀ x cs, R x cs → R' x cs) (h : Elems J e sz R v xs) : Elems J' e sz R' v xs := by
 obtain ⟨cs, h1, h2⟩ := h; exact ⟨cs, h1.mono hle, fun i x hx => hR _ _ (h2 i x hx)⟩
theorem Elems.form {α : Type} {J : Jm} {e : TypeId} {sz : Nat} {R : α → List Value → Prop} {v : Value} {xs : List α} (h : Elems J e sz R v xs) : ∃ b c, v = .slice b xs.length c := by
 obtain ⟨cs, h1, _⟩ := h; obtain ⟨b, c, h, _⟩ := h1.inv; exact ⟨b, c, h⟩
theorem SlC.addr {J : Jm} {e : TypeId} {sz n c : Nat} {b : Option Addr} {cs : List Value} {k : Nat} (h : SlC J e sz (.slice b n c) k cs) : addrEq b b = true := by
 cases h with
 | nil => rfl
 | emp a off cap h => simp [addrEq]
 | emx => rfl
 | row h1 h2 h3 h4 h5 => simp [addrEq]
theorem Elems.addr {α : Type} {J : Jm} {e : TypeId} {sz n c : Nat} {b : Option Addr} {R : α → List Value → Prop} {xs : List α} (h : Elems J e sz R (.slice b n c) xs) : addrEq b b = true := by
 obtain ⟨cs, h1, _⟩ := h; exact h1.addr
theorem Elems.get {α : Type} {J : Jm} {e : TypeId} {sz n c : Nat} {b : Option Addr} {R : α → List Value → Prop} {xs : List α} (h : Elems J e sz R (.slice b n c) xs) : n = xs.length ∧ (0 < xs.length → ∃ a off cells e', b = some ⟨a, off, none⟩ ∧ J a = some (cells, e') ∧
  ∀ (i : Nat) (x : α), xs[i]? = some x → ∃ cs, takeN sz (dropN (off + ((i : Nat) : Int).toNat * sz) cells) = some cs ∧ R x cs) := by
 obtain ⟨cs, h1, h2⟩ := h; have hn : n = xs.length := by
  obtain ⟨b', c', h3, _⟩ := h1.inv; injection h3
 refine ⟨hn, fun hpos => ?_⟩; generalize hk : xs.length = k at h1; cases h1 with
 | nil => omega
 | emp => omega
 | emx => omega
 | @row a off len cap cells cs e' k1 k2 k3 k4 k5 =>
  refine ⟨a, off, cells, e', rfl, k1, fun i x hx => ⟨_, ?_, h2 i x hx⟩⟩; have hi : i < xs.length := (List.getElem?_eq_some_iff.1 hx).1; rw [← hk] at k2 k3; have hle : i * sz + sz ≤ xs.length * sz := by rw [← Nat.succ_mul]; exact Nat.mul_le_mul_right _ hi
  have hc : xs.length * sz ≤ (cells.drop off).length := by
   have : ((cells.drop off).take (xs.length * sz)).length = xs.length * sz := by rw [k2]; exact k3
   rw [List.length_take] at this; omega
  rw [List.length_drop] at hc; rw [dropN_eq, takeN_ok (by rw [List.length_drop]; simp; omega), ← k2]; congr 1
  rw [List.drop_take, List.drop_drop, List.take_take, Nat.min_eq_left (by omega)]; simp
theorem Elems.drop {α : Type} {J : Jm} {e : TypeId} {sz a off c j : Nat} {R : α → List Value → Prop} {xs : List α} (h : Elems J e sz R (.slice (some ⟨a, off, none⟩) xs.length c) xs) (hj : j ≤ xs.length) (h0 : 0 < xs.length) :
  ∃ b' c', cutW a off c sz (j : Int) xs.length = .slice b' (xs.drop j).length c' ∧ Elems J e sz R (.slice b' (xs.drop j).length c') (xs.drop j) := by
 obtain ⟨cs, h1, h2⟩ := h; have h3 := cutW_sl (a := (j : Int)) (b := (xs.length : Int)) h1 h0 (by omega) (by omega) (by omega); have e1 : ((xs.length : Int) - (j : Int)).toNat = (xs.drop j).length := by rw [List.length_drop]; omega
 rw [e1] at h3; obtain ⟨b', c', h4, _⟩ := h3.inv; rw [h4] at h3; refine ⟨b', c', h4, ⟨_, h3, fun i x hx => ?_⟩⟩; rw [List.getElem?_drop] at hx; have hi : j + i < xs.length := (List.getElem?_eq_some_iff.1 hx).1; have := h2 _ _ hx; have hle : i * sz + sz ≤ (xs.drop j).length * sz := by rw [← Nat.succ_mul]; exact Nat.mul_le_mul_right _ (by rw [List.length_drop]; omega)
 rw [List.drop_take, List.drop_drop, List.take_take, Nat.min_eq_left (by omega), show (j : Int).toNat * sz + i * sz = (j + i) * sz by rw [Int.toNat_natCast, Nat.add_mul]]; exact this
open Classical
theorem LRel.plain_eq {μ : Mp} : ∀ {l l' : List Value}, l.all plain = true → LRel μ l l' → l' = l := by
 intro l; induction l with
 | nil => intro l' _ h; exact h.inv_nil
 | cons v l ih =>
  intro l' hp h; simp only [List.all_cons, Bool.and_eq_true] at hp; obtain ⟨v', t, rfl, h1, h2⟩ := h.inv_cons; rw [VRel.plain_eq hp.1 h1, ih hp.2 h2]
section
variable {K : Kx}
theorem Fn.of_calls {f : FuncId} {fn : Func} {c : Code} {args : List Value} {v : Value} {J : Jm} {R : Value → Prop} (ha : args.all plain = true) (hf : K.P.funcs[f]? = some fn) (hb : fn.body = some c)
  (hv : ∀ μ v', R v' → VRel μ v v')
  (hc : ∀ B w0 w, K.Q.ok B w0 → Kept B w0 w → Calls K.P f args.toArray w fun e w' => (∃ v', e = .returned v' ∧ R v') ∧ Below w.heap.size w w') : Fn K f args [] J (fun u m' J' => u = v ∧ m' = [] ∧ J' = J) := by
 intro H hI; refine ⟨v, H, J, [], fun B w0 hQ => ?_, hI, rfl, rfl, rfl⟩; intro f' args' H' e H'' he μ w args'' h hl; unfold callAt at he; split at he
 ·
  rename_i q; obtain ⟨rfl, rfl, rfl⟩ := q; simp only [Option.some.injEq, Prod.mk.injEq] at he; obtain ⟨rfl, rfl⟩ := he; obtain rfl := LRel.plain_eq ha hl; refine .inr ⟨enter_run hf hb (K.hP.num f' fn hf (by rw [hb]; rfl)) _ w, ?_⟩; refine Calls.mono (hc B w0 w hQ h.below) fun e' w' ⟨⟨v', he', hR⟩, hbl⟩ => ?_; subst he'; exact ⟨μ, h.grow hbl, Step.refl _ _, hv μ v' hR⟩
 ·
  cases he
end
section
variable {K : Kx} {B : Bs} {o : Oper} {n : Nat} {ds : Dx} {l : List (Nat × Value)} {m m' : Mm} {J : Jm} {Ψ : En → Mm → Jm → Prop} {d : Nat} {Θ : Exit → En → Mm → Jm → Prop}
theorem W.permM {ops rest : List Oper} {E : En} {Φ : Option (List PanicEntry) → En → Mm → Jm → Prop} (hp : m'.Perm m) (h : W K B ops rest E m' J Φ) : W K B ops rest E m J Φ := fun S H hS hI => h S H hS (hI.perm hp.symm)
theorem Fn.perm {f : FuncId} {args : List Value} {mi : Mm} {Post Post' : Value → Mm → Jm → Prop} (h : Fn K f args mi J Post) (hp : ∀ v m' J', Post v m' J' → ∃ m2, m'.Perm m2 ∧ Post' v m2 J') : Fn K f args mi J Post' := fun H hI => by
 obtain ⟨v, H', J', m1, a, b, c⟩ := h H hI; obtain ⟨m2, q1, q2⟩ := hp v m1 J' c; exact ⟨v, H', J', m2, a, b.perm q1, q2⟩
end
end Go.Opn

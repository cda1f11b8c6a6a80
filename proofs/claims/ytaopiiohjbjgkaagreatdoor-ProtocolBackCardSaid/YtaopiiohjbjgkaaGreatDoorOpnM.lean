/- A part of the proof of ProtocolBack. -/
import Derived.Test.YtaopiiohjbjgkaaGreatDoorOpnK
set_option linter.unusedVariables false
set_option linter.unusedSimpArgs false
namespace Go.Opn
open Go.Cre Go.RowKit
section
variable {K : Kx} {B : Bs} {o : Oper} {n : Nat} {ds : Dx} {l : List (Nat × Value)} {m m' : Mm} {J : Jm} {Ψ : En → Mm → Jm → Prop} {d : Nat} {Θ : Exit → En → Mm → Jm → Prop}
theorem wrap_u8 {n : Int} (h1 : 0 ≤ n) (h2 : n ≤ 255) : IntKind.u8.wrap n = n := by
 unfold IntKind.wrap IntKind.signed IntKind.bits
 simp only [Bool.false_and, Bool.false_eq_true, if_false]
 omega
noncomputable def arI (a b : Int) : BinOp → Option Int
 | .add => some (a + b)
 | .sub => some (a - b)
 | .mul => some (a * b)
 | _ => none
theorem v_ar {op : BinOp} {t ty : TypeId} {x y : Operand} {k : IntKind} {a b c c' : Int} (ho : o.op = .binOp op t x y ty) (hx : eo l x = some (.int k a)) (hy : eo l y = some (.int k b)) (hv : arI a b op = some c) (hw : k.wrap c = c') : Val K B o n ds l m J (.int k c') := by
 refine v_int ho hx hy ?_
 cases op <;> simp only [arI, Option.some.injEq, reduceCtorEq] at hv <;> subst hv <;> subst hw <;> rfl
theorem v_strEq {op : BinOp} {t ty : TypeId} {x y : Operand} {a b : List UInt8} {v : Value} (ho : o.op = .binOp op t x y ty) (hx : eo l x = some (.string ⟨⟨a⟩⟩)) (hy : eo l y = some (.string ⟨⟨b⟩⟩)) (hop : op = .eql ∧ v = .bool (decide (a = b)) ∨ op = .neq ∧ v = .bool (decide (¬ a = b))) : Val K B o n ds l m J v := by
 intro call yld S H hS hI
 unfold evOp evOpX; simp only [ho]
 show opBin2 K.P _ op t (opd S.T H x) (opd S.T H y) = _
 rw [eo_opd hS H hx, eo_opd hS H hy]
 show orElse (evPlain K.P S.T H o) _ = _
 have : evPlain K.P S.T H o = some (.val v H) := by
  rcases hop with ⟨rfl, rfl⟩ | ⟨rfl, rfl⟩
  ·
   refine plain2 hS (by rw [ho]; rfl) hx hy rfl rfl ?_ rfl
   unfold execOp; simp only [ho]
   rw [eo_or hS H hx, eo_or hS H hy]
   have hb : binOp .eql t (.string ⟨⟨a⟩⟩) (.string ⟨⟨b⟩⟩) = Op.stringOp .eql ⟨⟨a⟩⟩ ⟨⟨b⟩⟩ := by simp [binOp]
   have hg : evPure K.P (eqGuard .eql t x y (.string ⟨⟨a⟩⟩) (.string ⟨⟨b⟩⟩)) = some () := rfl
   rw [evPure_bind (a := .bool (decide (a = b)))]
   ·
    rfl
   rw [evPure_bind hg, hb]
   show some (Value.bool ((⟨⟨a⟩⟩ : ByteArray).toList == (⟨⟨b⟩⟩ : ByteArray).toList)) = _
   rw [ba_eq]
  ·
   refine plain2 hS (by rw [ho]; rfl) hx hy rfl rfl ?_ rfl
   unfold execOp; simp only [ho]
   rw [eo_or hS H hx, eo_or hS H hy]
   have hb : binOp .neq t (.string ⟨⟨a⟩⟩) (.string ⟨⟨b⟩⟩) = Op.stringOp .neq ⟨⟨a⟩⟩ ⟨⟨b⟩⟩ := by simp [binOp]
   have hg : evPure K.P (eqGuard .neq t x y (.string ⟨⟨a⟩⟩) (.string ⟨⟨b⟩⟩)) = some () := rfl
   rw [evPure_bind (a := .bool (decide (¬ a = b)))]
   ·
    rfl
   rw [evPure_bind hg, hb]
   show some (Value.bool (!((⟨⟨a⟩⟩ : ByteArray).toList == (⟨⟨b⟩⟩ : ByteArray).toList))) = _
   rw [ba_eq, show (!decide (a = b)) = decide (¬ a = b) by simp]
 rw [this]; rfl
noncomputable def isIface (P : Program) (t : TypeId) : Bool := match P.underlying t with | some (.interface _) => true | _ => false
noncomputable def ifNil : Value → Option Bool
 | .nilIface => some true
 | .iface _ _ => some false
 | _ => none
theorem v_ifaceNil {t ty : TypeId} {x : Operand} {v : Value} {b : Bool} (ho : o.op = .binOp .eql t x (.const .nilIface) ty) (hx : eo l x = some v) (hv : ifNil v = some b) (ht : isIface K.P t = true) : Val K B o n ds l m J (.bool b) := by
 intro call yld S H hS hI
 have hy : eo l (.const .nilIface) = some .nilIface := rfl
 unfold isIface at ht
 split at ht
 ·
  rename_i ms hu
  cases v with
  | nilIface =>
   simp only [ifNil, Option.some.injEq] at hv; subst hv
   unfold evOp evOpX; simp only [ho]
   show opBin2 K.P _ .eql t (opd S.T H x) (opd S.T H (.const .nilIface)) = _
   rw [eo_opd hS H hx, eo_opd hS H hy]
   show orElse (evPlain K.P S.T H o) _ = _
   have : evPlain K.P S.T H o = some (.val (.bool true) H) := by
    refine plain2 hS (by rw [ho]; rfl) hx hy rfl rfl ?_ rfl
    unfold execOp; simp only [ho]
    rw [eo_or hS H hx, eo_or hS H hy]
    rw [evPure_bind (a := .bool true)]
    ·
     rfl
    rw [evPure_bind (a := ())]
    ·
     have hb : binOp .eql t .nilIface .nilIface = (do pure (.bool (← Op.equal t .nilIface .nilIface))) := by simp [binOp]
     rw [hb, evPure_bind (a := true)]
     ·
      rfl
     show evPure K.P (Op.equalIn (9999 + 1) t .nilIface .nilIface) = _
     unfold Op.equalIn
     rw [evPure_bind (evPure_under hu)]
     rfl
    ·
     unfold eqGuard
     simp
     rfl
   rw [this]; rfl
  | iface t' v' =>
   simp only [ifNil, Option.some.injEq] at hv; subst hv
   cases hp : evPlain K.P S.T H o with
   | none =>
    refine bin_slow ho (eo_opd hS H hx) (eo_opd hS H hy) (fun _ _ q => by cases q) hp ?_
    unfold opBinEq evEqNil; simp only [hu]
   | some r =>
    unfold evOp evOpX; simp only [ho]
    show opBin2 K.P _ .eql t (opd S.T H x) (opd S.T H (.const .nilIface)) = _
    rw [eo_opd hS H hx, eo_opd hS H hy]
    show orElse (evPlain K.P S.T H o) _ = _
    have : evPlain K.P S.T H o = some (.val (.bool false) H) := by
     have hpl : plain (.iface t' v') = true := by
      cases q : plain (.iface t' v') with
      | true => rfl
      | false =>
       exfalso
       unfold evPlain at hp
       rw [ho] at hp
       have : opds S.T H (Op.binOp BinOp.eql t x (.const .nilIface) ty).operands.toList = some [.iface t' v', .nilIface] := by
        show opds S.T H [x, .const .nilIface] = _
        simp only [opds]; rw [eo_opd hS H hx, eo_opd hS H hy]
       rw [this] at hp
       simp only [List.all_cons, q, Bool.false_and, cond_false] at hp
       cases hp
     refine plain2 hS (by rw [ho]; rfl) hx hy hpl rfl ?_ rfl
     unfold execOp; simp only [ho]
     rw [eo_or hS H hx, eo_or hS H hy]
     rw [evPure_bind (a := .bool false)]
     ·
      rfl
     rw [evPure_bind (a := ())]
     ·
      have hb : binOp .eql t (.iface t' v') .nilIface = (do pure (.bool (← Op.equal t (.iface t' v') .nilIface))) := by simp [binOp]
      rw [hb, evPure_bind (a := false)]
      ·
       rfl
      show evPure K.P (Op.equalIn (9999 + 1) t (.iface t' v') .nilIface) = _
      unfold Op.equalIn
      rw [evPure_bind (evPure_under hu)]
      rfl
     ·
      unfold eqGuard
      simp
      rfl
    rw [this]; rfl
  | _ => simp [ifNil] at hv
 ·
  cases ht
theorem guardT_no {S : St} {ops : List Oper} {d : Nat} {want : Bool} (hg : guardT ops o = some (d, want)) (hb : S.T.get d = some undef) : guardB ops S.T o = some false := by
 unfold guardT at hg
 unfold guardB
 cases q : o.guard with
 | none => rw [q] at hg; cases hg
 | some x =>
  obtain ⟨j, w⟩ := x
  rw [q] at hg
  show guardC ops S.T (j, w) = _
  unfold guardC
  simp only at hg ⊢
  cases hn : nth ops j with
  | none => rfl
  | some p =>
   rw [hn] at hg
   simp only at hg ⊢
   cases hd : p.dst with
   | none => rfl
   | some d' =>
    rw [hd] at hg
    simp only [Option.some.injEq, Prod.mk.injEq] at hg
    obtain ⟨rfl, rfl⟩ := hg
    simp only [hb]
    rfl
theorem W.guardU {ops rest : List Oper} {Φ : Option (List PanicEntry) → En → Mm → Jm → Prop} {d e : Nat} {want : Bool} (hg : guardT ops o = some (d, want)) (hb : look l d = some undef) (hd : o.dst = some e) (hn : Nat.blt e n = true) (h : W K B ops rest ⟨n, ds, (e, undef) :: l⟩ m J Φ) : W K B ops (o :: rest) ⟨n, ds, l⟩ m J Φ := by
 intro S H hS hI
 have hB := guardT_no hg (hS.get d _ hb)
 obtain ⟨S1, s1, s2⟩ := hS.put (dst := some e) hn undef
 obtain ⟨p, S', H', E', m', J', k1, k2, k3, k4⟩ := h S1 H s2 hI
 refine ⟨p, S', H', E', m', J', .cons noCode noCall ?_ k1, k2, k3, k4⟩
 unfold one; rw [hB]
 show regOk H (S.put o.dst undef) = _
 rw [hd, s1]; rfl
theorem WC.cutK {c : Code} (k : Nat) (news : List (Nat × Value)) (h1 : WC K B c ⟨n, ds, l⟩ m J fun e E' m' J' => match e with
      | .normal => (∃ l', E' = ⟨n, ds, l'⟩ ∧ subL l' (news ++ l.drop k)) ∧ m.Sublist m' ∧ J' = J
      | e => Θ e E' m' J') (h2 : Θ .normal ⟨n, ds, news ++ l.drop k⟩ m J) : WC K B c ⟨n, ds, l⟩ m J Θ := WC.cut h1 h2
theorem WC.loopG {α : Type} {c : Code} {base : List (Nat × Value)} (mods : α → List (Nat × Value)) (mem : α → Mm) (pub : α → Jm) (inv : α → Prop) (meas : α → Nat) (s : α) (hs : inv s)
  (hstep : ∀ s, inv s → WC K B c ⟨n, ds, mods s ++ base⟩ (mem s) (pub s) fun e E m J => match e with
   | .normal => ∃ s' l, inv s' ∧ meas s' < meas s ∧ E = ⟨n, ds, l⟩ ∧ subL l (mods s' ++ base) ∧ (mem s').Sublist m ∧ J = pub s'
   | e => Θ e E m J) : WC K B (.loop c) ⟨n, ds, mods s ++ base⟩ (mem s) (pub s) Θ :=
 WC.loop (fun s => mods s ++ base) mem pub inv meas hstep s hs
theorem WC.loopC {α : Type} {c : Code} {base : List (Nat × Value)} (mods : α → List (Nat × Value)) (inv : α → Prop) (meas : α → Nat) (s : α) (hs : inv s)
  (hstep : ∀ s, inv s → WC K B c ⟨n, ds, mods s ++ base⟩ m J fun e E m1 J1 => match e with
   | .normal => ∃ s' l, inv s' ∧ meas s' < meas s ∧ E = ⟨n, ds, l⟩ ∧ subL l (mods s' ++ base) ∧ m.Sublist m1 ∧ J1 = J
   | e => Θ e E m1 J1) : WC K B (.loop c) ⟨n, ds, mods s ++ base⟩ m J Θ :=
 WC.loop (fun s => mods s ++ base) (fun _ => m) (fun _ => J) inv meas hstep s hs
theorem WC.loopU {c : Code} {E : En} (h : WC K B c E m J fun e E m J => match e with
      | .normal => WC K B (.loop c) E m J Θ
      | e => Θ e E m J) : WC K B (.loop c) E m J Θ := by
  intro S H hS hI
  obtain ⟨e, S1, H1, E1, m1, J1, h1, h2, h3, h4⟩ := h S H hS hI
  cases e with
  | normal =>
    have h4 : WC K B (.loop c) E1 m1 J1 Θ := h4
    obtain ⟨e', S', H', E', m', J', k1, k2, k3, k4⟩ := h4 S1 H1 h2 h3
    exact ⟨e', S', H', E', m', J', CodeR.loop_next h1 k1, k2, k3, k4⟩
  | exit i => exact ⟨_, S1, H1, E1, m1, J1, CodeR.loop_out h1 (fun q => by cases q), h2, h3, h4⟩
  | goto i => exact ⟨_, S1, H1, E1, m1, J1, CodeR.loop_out h1 (fun q => by cases q), h2, h3, h4⟩
  | ret => exact ⟨_, S1, H1, E1, m1, J1, CodeR.loop_out h1 (fun q => by cases q), h2, h3, h4⟩
  | panic c => exact ⟨_, S1, H1, E1, m1, J1, CodeR.loop_out h1 (fun q => by cases q), h2, h3, h4⟩
  | outgrown => exact ⟨_, S1, H1, E1, m1, J1, CodeR.loop_out h1 (fun q => by cases q), h2, h3, h4⟩
theorem Put.app {mo m m' : Mm} {a : Nat} {b b' : PB} (h : Put m a b b' m') : Put (mo ++ m) a b b' (mo ++ m') := by
 induction mo with
 | nil => exact h
 | cons x mo ih => exact .tail x ih
def IntsC (J : Jm) (v : Value) (l : List Int) : Prop := SlC J 3 1 v l.length (l.map (Value.int .i64))
theorem IntsC.mono {J J' : Jm} (hle : J.le J') {v : Value} {l : List Int} (h : IntsC J v l) : IntsC J' v l := SlC.mono hle h
theorem IntsC.inv {J : Jm} {v : Value} {l : List Int} (h : IntsC J v l) : ∃ b c, v = .slice b l.length c ∧ (b = none → l = []) ∧ (0 < l.length → ∃ a off cells e, b = some ⟨a, off, none⟩ ∧ J a = some (cells, e) ∧ ∀ (i : Int), 0 ≤ i → i < l.length → ∃ x, l[i.toNat]? = some x ∧ nth cells (off + i.toNat * 1) = some (.int .i64 x)) := by
 obtain ⟨b, c, h1, h2, h4, h3⟩ := SlC.inv h
 refine ⟨b, c, h1, fun q => List.eq_nil_of_length_eq_zero (h4 q), fun q => ?_⟩
 obtain ⟨a, off, cells, e, k1, k2, k3⟩ := h3 q
 refine ⟨a, off, cells, e, k1, k2, fun i i0 i1 => ?_⟩
 have hlt : i.toNat < l.length := by omega
 refine ⟨l[i.toNat], List.getElem?_eq_getElem hlt, ?_⟩
 rw [Nat.mul_one, k3 _ (by omega), List.getElem?_map, List.getElem?_eq_getElem hlt]; rfl
theorem W.pub {ops rest : List Oper} {Φ : Option (List PanicEntry) → En → Mm → Jm → Prop} {E : En} {a : Nat} {b : PB} {x : List Value × TypeId} (hx : b.rowOf = some x) (h : J.le (J.add a x) → (J.add a x) a = some x → W K B ops rest E m (J.add a x) Φ) : W K B ops rest E ((a, b) :: m) J Φ := by
 intro S H hS hI
 obtain ⟨k1, k2⟩ := hI.publish hx
 exact h k2 (Jm.add_at _ _ _) S H hS k1
def IntsR (J : Jm) (v : Value) (l : List Int) : Prop := ∃ e, SlC J e 1 v l.length (l.map (Value.int .i64))
theorem IntsC.r {v : Value} {l : List Int} (h : IntsC J v l) : IntsR J v l := ⟨_, h⟩
theorem IntsR.mono {J' : Jm} (hle : J.le J') {v : Value} {l : List Int} (h : IntsR J v l) : IntsR J' v l := by obtain ⟨e, h⟩ := h; exact ⟨e, h.mono hle⟩
theorem IntsR.inv {v : Value} {l : List Int} (h : IntsR J v l) : ∃ b c, v = .slice b l.length c ∧ (b = none → l = []) ∧ (0 < l.length → ∃ a off cells e, b = some ⟨a, off, none⟩ ∧ J a = some (cells, e) ∧ ∀ (i : Int), 0 ≤ i → i < l.length → ∃ x, l[i.toNat]? = some x ∧ nth cells (off + i.toNat * 1) = some (.int .i64 x)) := by
 obtain ⟨e, h⟩ := h
 obtain ⟨b, c, h1, h2, h4, h3⟩ := SlC.inv h
 refine ⟨b, c, h1, fun q => List.eq_nil_of_length_eq_zero (h4 q), fun q => ?_⟩
 obtain ⟨a, off, cells, e, k1, k2, k3⟩ := h3 q
 refine ⟨a, off, cells, e, k1, k2, fun i i0 i1 => ?_⟩
 have hlt : i.toNat < l.length := by omega
 refine ⟨l[i.toNat], List.getElem?_eq_getElem hlt, ?_⟩
 rw [Nat.mul_one, k3 _ (by omega), List.getElem?_map, List.getElem?_eq_getElem hlt]; rfl
theorem IntsR.lit {a : Nat} {l : List Int} {e : TypeId} (hl : l.length < openCap) (h : J a = some (l.map (Value.int .i64), e)) : IntsR J (.slice (some ⟨a, 0, none⟩) l.length l.length) l :=
 ⟨e, .row h (by rw [List.drop_zero, List.take_of_length_le (by simp)]) (by simp) (fun _ => ⟨Nat.le_refl _, hl⟩) (fun q => absurd q (by omega))⟩
theorem get_at {α : Type} (s : List α) (i : Nat) (h : i < s.length) : ∃ b, s[((i : Nat) : Int).toNat]? = some b ∧ s[i]? = some b := ⟨s[i], by simp [h], List.getElem?_eq_getElem h⟩
theorem v_lenS {c : Call} {s : List UInt8} {t : TypeId} (ho : o.op = .call c) (hc : c.callee = .builtin .len) (ha : eos l c.args.toList = some [.string ⟨⟨s⟩⟩]) (ht : c.argTypes.toList = [t]) (hs : isStr K.P t = true) : Val K B o n ds l m J (.int .i64 s.length) := v_lenStr ho hc ha ht hs
theorem v_indexS {t : TypeId} {x ix : Operand} {s : List UInt8} {k : IntKind} {i : Int} {b : UInt8} (ho : o.op = .index t x ix) (hx : eo l x = some (.string ⟨⟨s⟩⟩)) (hi : eo l ix = some (.int k i)) (ht : isStr K.P t = true) (h0 : 0 ≤ i) (hb : s[i.toNat]? = some b) : Val K B o n ds l m J (.int .u8 b.toNat) := v_indexStr ho hx hi ht h0 hb
theorem Inv.newPub {g0 : Nat} {H H1 : Hp} {cells : List Value} {e : TypeId} {o' : Bool} {f z : Nat} {s : Bool} (h : Inv g0 B J m H) (e1 : H.new (.row cells e o' f z s) = some (H.nx, H1)) : Inv g0 B (J.add H.nx (cells, e)) m H1 ∧ J.le (J.add H.nx (cells, e)) := by
 obtain ⟨_, n2, n3, n4, n5, n6⟩ := Hp.new_eq e1
 have hle := Jm.add_le (x := (cells, e)) h.notJ
 refine ⟨⟨h.wf.new_wf e1, n5.trans h.glo, by have := h.nx; omega, by rw [n4]; exact h.nf, fun a ha hx => ?_, fun f hf => by rw [n3]; exact h.keepF f hf, fun a c e' hj => ?_, h.le.trans hle, fun a x q hx => ?_, fun a b hb => ?_, h.nd⟩, hle⟩
 ·
  rw [n6, if_neg (by have := h.nx; omega)]; exact h.keep a ha hx
 ·
  unfold Jm.add at hj
  split at hj
  ·
   rename_i q; subst q
   injection hj with hj; injection hj with h1 h2; subst h1; subst h2
   exact ⟨_, _, _, _, by rw [n6, if_pos rfl]⟩
  ·
   obtain ⟨o, f, z, s, q⟩ := h.pub a c e' hj
   exact ⟨o, f, z, s, by rw [n6, if_neg (by have := h.wf.lt q; omega)]; exact q⟩
 ·
  unfold Jm.add at hx
  split at hx
  ·
   rename_i q; subst q; exact .inl h.nx
  ·
   exact h.fresh a x q hx
 ·
  obtain ⟨k1, k2, k3, k4⟩ := h.own a b hb
  have hlt := h.lt hb
  refine ⟨PB.at_mono k1 (by rw [n6, if_neg (by omega)]) (fun f l hf => by rw [n3]; exact hf), k2, ?_, k4⟩
  unfold Jm.add; rw [if_neg (by omega)]; exact k3
noncomputable def strT (P : Program) (s t : TypeId) : Option TypeId := match P.underlying s, P.underlying t with
 | some .string, some (.slice e) => (match P.underlying e with | some (.int .u8) => bif Nat.beq (P.cellsOf e) 1 then some e else none | _ => none)
 | _, _ => none
def byteVs (s : List UInt8) : List Value := s.map fun b => Value.int .u8 b.toNat
theorem x_strBytes {s t e : TypeId} {x : Operand} {bs : List UInt8} (ho : o.op = .convert s t x) (hd : o.dst = some d) (hn : Nat.blt d n = true) (hx : eo l x = some (.string ⟨⟨bs⟩⟩)) (ht : strT K.P s t = some e) (h : ∀ a J', J.le J' → J' a = some (byteVs bs, e) → Ψ ⟨n, ds, (d, .slice (some ⟨a, 0, none⟩) bs.length openCap) :: l⟩ m J') : ExecA K B o ⟨n, ds, l⟩ m J Ψ := by
 refine ExecA.valM hd hn fun S H hS hI => ?_
 obtain ⟨H1, e1, hI1, x1, f1, nf1⟩ := hI.fam
 obtain ⟨H2, e2⟩ := hI1.wf.new (.row (byteVs bs) e true H.nf 0 true)
 obtain ⟨p1, p2⟩ := hI1.newPub e2
 rw [x1] at p1 p2 e2
 refine ⟨.slice (some ⟨H.nx, 0, none⟩) bs.length openCap, H2, m, _, fun call yld => ?_, p1, h H.nx _ p2 (Jm.add_at _ _ _)⟩
 have hc : ∀ l : List UInt8, strCells l = byteVs l := fun l => by
  induction l with
  | nil => rfl
  | cons b l ih => show Value.int .u8 _ :: strCells l = _; rw [ih]; rfl
 unfold evOp evOpX; simp only [ho]
 show opConvert2 K.P _ s t (opd S.T H x) = _
 rw [eo_opd hS H hx]
 show orElse (vhRes (evStrBytes K.P H s t ⟨⟨bs⟩⟩)) _ = _
 have : evStrBytes K.P H s t ⟨⟨bs⟩⟩ = some (.slice (some ⟨H.nx, 0, none⟩) bs.length openCap, H2) := by
  unfold strT at ht
  split at ht
  ·
   rename_i e' h1 h2
   split at ht
   ·
    rename_i h3
    cases hb : Nat.beq (K.P.cellsOf e') 1 with
    | false => rw [hb] at ht; cases ht
    | true =>
     rw [hb, cond_true] at ht; injection ht with ht; subst ht
     unfold evStrBytes
     simp only [h1, h2, h3, hb, cond_true]
     unfold Hp.newOpen
     rw [e1]; simp only
     rw [hc, e2]; rfl
   ·
    cases ht
  ·
   cases ht
 rw [this]; rfl
theorem pick_perm {α : Type} : ∀ (L : List α) (k : Nat) (h : k < L.length), (L[k] :: L.eraseIdx k).Perm L := by
 intro L
 induction L with
 | nil => intro k h; cases h
 | cons a L ih =>
  intro k h
  cases k with
  | zero => exact List.Perm.refl _
  | succ k => exact (List.Perm.swap _ _ _).trans ((ih k (by simpa using h)).cons a)
theorem perm_pick {α : Type} {p : α} {rest L : List α} (k : Nat) (hp : nth L k = some p) (hr : rest.Perm (L.eraseIdx k)) : (p :: rest).Perm L := by
 rw [nth_eq] at hp
 obtain ⟨h, rfl⟩ := List.getElem?_eq_some_iff.1 hp
 exact (hr.cons _).trans (pick_perm L k h)
end
end Go.Opn
set_option linter.unusedVariables false
namespace Go.Opn
open Go.Cre Go.RowKit
section
variable {K : Kx} {B : Bs} {n : Nat} {ds : Dx} {l : List (Nat × Value)} {m : Mm} {J : Jm} {Θ : Exit → En → Mm → Jm → Prop}
structure Fresh (r : ALoop) (n : Nat) (params : List Tmp) (assign body : Code) (lp : Nat) (l : List (Nat × Value)) : Prop where
 st : r.state = .ready
 nn : r.n = n
 ps : r.params = params
 as : r.assign = assign
 bd : r.body = body
 pd : r.pending = none
 sat : Sat ⟨n, dxl lp, l⟩ ⟨r.T, n, [], false, .run, some lp⟩
theorem WC.rangeR {f : Operand} {params : Array Tmp} {assign body : Code} {g : FuncId} {first cap : Array Value} (hrnd : ds.rnd = none) (hf : eo l f = some (.func (.func g) first cap))
  (h : ∀ dr lp (r : ALoop), Fresh r n params.toList assign body lp l → ∃ mi mr Post, (mi ++ mr).Perm ((lp, .loop r) :: (dr, .dfr) :: m) ∧ noOpn mi ∧
   Fn K g ((first.toList ++ [.func (.yield lp) #[] #[]]) ++ cap.toList) mi J Post ∧ ∀ v m' J', J.le J' → Post v m' J' → ∃ r' m'', Put (m' ++ mr) lp (.loop r') (.loop { r' with state := .exhausted }) m'' ∧ r'.state ≠ .busy ∧ pendPost Θ ⟨n, ds.plus dr, l⟩ m'' J' r'.pending) :
  WC K B (.rangeFunc f params assign body) ⟨n, ds, l⟩ m J Θ :=
 WC.range hrnd hf fun dr lp T hT => h dr lp ⟨.ready, none, T, n, params.toList, assign, body, dr⟩ ⟨rfl, rfl, rfl, rfl, rfl, rfl, hT⟩
theorem Fresh.again {r : ALoop} {params : List Tmp} {assign body : Code} {lp : Nat} (h : Fresh r n params assign body lp l) : Fresh { r with state := .ready, pending := none } n params assign body lp l := ⟨rfl, h.nn, h.ps, h.as, h.bd, rfl, h.sat⟩
theorem Yd.ofR {lp : Nat} {r : ALoop} {params : List Tmp} {assign body : Code} {args : List Value} {mi : Mm} {Post : Value → Mm → Jm → Prop} (hr : Fresh r n params assign body lp l) (hlp : (lp, .loop r) ∈ mi) (hpar : allBelow n params = true) (hlen : params.length = args.length)
  (h : ∀ H, WC K ⟨inM mi, H, J⟩ assign ⟨n, dxl lp, zipL params args l⟩ mi J fun e E m J1 => e = .normal ∧ ∃ m1, Put m lp (.loop r) (.loop { r with state := .busy }) m1 ∧
   WC K ⟨inM mi, H, J⟩ body E m1 J1 fun e E m J2 => ∃ j r2 m2 m3, jumpOf e = some j ∧ Put m lp (.loop r2) (.loop { r2 with state := if j.isNone then .ready else .done, pending := j }) m2 ∧ m3.Sublist m2 ∧ Post (.bool j.isNone) m3 J2) : Yd K lp args mi J Post := by
 obtain ⟨h1, rfl, rfl, rfl, rfl, _, h6⟩ := hr
 exact Yd.of h1 hlp h6 hpar hlen h
end
end Go.Opn

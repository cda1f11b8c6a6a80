/- A part of the proof of ResumeSaves. -/
import Derived.Test.YtmeojgcibppcmaaDoorOpnH
import Derived.Laws.Strings2
set_option linter.unusedVariables false
set_option linter.unusedSimpArgs false
namespace Go.Opn
open Go.Cre Go.RowKit
inductive SlC (J : Jm) (e : TypeId) (sz : Nat) : Value → Nat → List Value → Prop
 | nil : SlC J e sz (.slice none 0 0) 0 []
 | emp (a off cap : Nat) : cap < openCap → SlC J e sz (.slice (some ⟨a, off, none⟩) 0 cap) 0 []
 | emx : SlC J e sz (.slice (some ⟨0, 0, some 0⟩) 0 0) 0 []
 | row {a off len cap : Nat} {cells cs : List Value} {e' : TypeId} : J a = some (cells, e') → (cells.drop off).take (len * sz) = cs → cs.length = len * sz → (cap ≠ openCap → len ≤ cap ∧ cap < openCap) → (cap = openCap → e' = e) → SlC J e sz (.slice (some ⟨a, off, none⟩) len cap) len cs
theorem SlC.mono {J J' : Jm} (hle : J.le J') {e : TypeId} {sz n : Nat} {v : Value} {cs : List Value} (h : SlC J e sz v n cs) : SlC J' e sz v n cs := by
 cases h with
 | nil => exact .nil
 | emp a off cap h => exact .emp a off cap h
 | emx => exact .emx
 | row h1 h2 h3 h4 h5 => exact .row (hle _ _ h1) h2 h3 h4 h5
theorem SlC.inv {J : Jm} {e : TypeId} {sz n : Nat} {v : Value} {cs : List Value} (h : SlC J e sz v n cs) : ∃ b c, v = .slice b n c ∧ cs.length = n * sz ∧ (b = none → n = 0) ∧ (0 < n → ∃ a off cells e', b = some ⟨a, off, none⟩ ∧ J a = some (cells, e') ∧ ∀ k, k < n * sz → nth cells (off + k) = cs[k]?) := by
 cases h with
 | nil => exact ⟨_, _, rfl, by simp, fun _ => rfl, fun q => absurd q (by omega)⟩
 | emp a off cap h => exact ⟨_, _, rfl, by simp, fun _ => rfl, fun q => absurd q (by omega)⟩
 | emx => exact ⟨_, _, rfl, by simp, fun _ => rfl, fun q => absurd q (by omega)⟩
 | @row a off len cap cells cs e' h1 h2 h3 h4 h5 =>
  refine ⟨_, _, rfl, h3, (fun q => by cases q), fun _ => ⟨a, off, cells, e', rfl, h1, fun k hk => ?_⟩⟩; rw [nth_eq, ← h2, List.getElem?_take, if_pos hk, List.getElem?_drop]
theorem SlC.len {J : Jm} {e : TypeId} {sz n : Nat} {v : Value} {cs : List Value} (h : SlC J e sz v n cs) : cs.length = n * sz := by
 obtain ⟨_, _, _, h, _⟩ := h.inv; exact h
theorem takeN_ok {α : Type} {n : Nat} {l : List α} (h : n ≤ l.length) : takeN n l = some (l.take n) := by
 induction n generalizing l with
 | zero => rfl
 | succ n ih =>
  cases l with
  | nil => simp at h
  | cons a l =>
   simp only [takeN]; rw [ih (by simpa using h)]; rfl
def Rd (g0 : Nat) (B : Bs) (J : Jm) (m : Mm) (sz : Nat) (v : Value) (n : Nat) (cs : List Value) : Prop := ∀ H, Inv g0 B J m H → lenA v = some n ∧ evFirst H sz n v = some cs
theorem SlC.rd {g0 : Nat} {B : Bs} {J : Jm} {m : Mm} {e : TypeId} {sz n : Nat} {v : Value} {cs : List Value} (h : SlC J e sz v n cs) : Rd g0 B J m sz v n cs := by
 intro H hI; cases h with
 | nil => exact ⟨rfl, rfl⟩
 | emp a off cap h => exact ⟨rfl, rfl⟩
 | emx => exact ⟨rfl, rfl⟩
 | @row a off len cap cells cs e' h1 h2 h3 h4 h5 =>
  refine ⟨rfl, ?_⟩; obtain ⟨o, f, z, s, q⟩ := hI.pub _ _ _ h1; unfold evFirst; cases n with
  | zero => simp only; rw [← h2]; simp
  | succ n =>
   simp only [q]; rw [dropN_eq, takeN_ok, h2]; have : ((cells.drop off).take ((n + 1) * sz)).length = (n + 1) * sz := by rw [h2]; exact h3
   rw [List.length_take] at this; omega
section
variable {K : Kx} {B : Bs} {o : Oper} {n : Nat} {ds : Dx} {l : List (Nat × Value)} {m m' : Mm} {J : Jm} {Ψ : En → Mm → Jm → Prop} {d : Nat}
noncomputable def slT (P : Program) (t : TypeId) : Option (TypeId × Nat × List Value) := match P.underlying t with
 | some (.slice e) => (match sizeT P e, bytesT P e, zeroT P e with
  | some sz, some by_, some z => bif Nat.ble by_ 1000000 && Nat.beq z.cells.toList.length sz && z.cells.toList.all oneCell && plain z then some (e, sz, z.cells.toList) else none
  | _, _, _ => none)
 | _ => none
theorem slT_eq {P : Program} {t e : TypeId} {sz : Nat} {zs : List Value} (h : slT P t = some (e, sz, zs)) : P.underlying t = some (.slice e) ∧ sizeT P e = some sz ∧ ∃ by_ z, bytesT P e = some by_ ∧ zeroT P e = some z ∧ Nat.ble by_ 1000000 = true ∧ zs = z.cells.toList ∧ zs.length = sz ∧ zs.all oneCell = true ∧ plain z = true := by
 unfold slT at h; split at h
 ·
  rename_i e' h1; split at h
  ·
   rename_i sz' by_ z h2 h3 h4; cases hb : (Nat.ble by_ 1000000 && Nat.beq z.cells.toList.length sz' && z.cells.toList.all oneCell && plain z) with
   | true =>
    rw [hb, cond_true] at h; simp only [Option.some.injEq, Prod.mk.injEq] at h; obtain ⟨rfl, rfl, rfl⟩ := h; simp only [Bool.and_eq_true] at hb; obtain ⟨⟨⟨b1, b2⟩, b3⟩, b4⟩ := hb; exact ⟨h1, h2, by_, z, h3, h4, b1, rfl, Nat.eq_of_beq_eq_true b2, b3, b4⟩
   | false => rw [hb, cond_false] at h; cases h
  ·
   cases h
 ·
  cases h
theorem x_buildSlice {t e : TypeId} {k sz : Nat} {zs cells : List Value} {ps : Array (Nat × Operand)} {vs : List (Nat × Value)} (ho : o.op = .buildSlice t k ps) (hd : o.dst = some d) (hn : Nat.blt d n = true) (hp : eps l ps.toList = some vs) (ht : slT K.P t = some (e, sz, zs)) (hk : (Nat.ble k 100000 && Nat.ble (k * sz) 100000) = true) (hf : fillA (fun i => some (i * sz, sz)) (zeroCellsL zs k) vs = some cells) (h1 : cells.all oneCell = true)
  (h : ∀ a, Ψ ⟨n, ds, (d, .slice (some ⟨a, 0, none⟩) k k) :: l⟩ ((a, .row cells e) :: m) J) : ExecA K B o ⟨n, ds, l⟩ m J Ψ := by
 obtain ⟨hu, hsz, by_, z, hby, hz, b1, rfl, b2, b3, b4⟩ := slT_eq ht; refine ExecA.valM hd hn fun S H hS hI => ?_; obtain ⟨H1, e1, e2⟩ := hI.alloc cells e; refine ⟨_, H1, _, J, fun call yld => ?_, e2, h H.nx⟩; unfold evOp evOpX; simp only [ho]; show opBuildSlice2 K.P _ t k (pairs S.T H ps.toList) = _; rw [eps_pairs hS H hp]; show vhRes (evBuildSlice K.P H t k vs) = _; unfold evBuildSlice newRowA; simp only [hu, hsz, hz]; rw [hk, b4, show Nat.beq z.cells.toList.length sz = true by rw [b2]; exact Nat.beq_refl _]; simp only [Bool.and_self, cond_true, hf, h1, e1]; rfl
theorem intUp_ok {i : Int} {len : Nat} (h0 : 0 ≤ i) (h1 : i ≤ len) : intUp i len = some i.toNat := by
 cases i with
 | ofNat n =>
  unfold intUp; have : Nat.ble n len = true := Nat.ble_eq_true_of_le (by simpa using h1); simp only [this, cond_true]; rfl
 | negSucc n => exact absurd h0 (by simp)
theorem x_makeSlice {t e : TypeId} {x y : Operand} {sz : Nat} {zs : List Value} {i j : Int} {ki kj : IntKind} (ho : o.op = .makeSlice t x y) (hd : o.dst = some d) (hn : Nat.blt d n = true) (hx : eo l x = some (.int ki i)) (hy : eo l y = some (.int kj j)) (ht : slT K.P t = some (e, sz, zs)) (h0 : 0 ≤ i) (h1 : i ≤ j) (h2 : j ≤ 1000000)
  (h : ∀ a, Ψ ⟨n, ds, (d, .slice (some ⟨a, 0, none⟩) i.toNat j.toNat) :: l⟩ ((a, .row (zeroCellsL zs j.toNat) e) :: m) J) : ExecA K B o ⟨n, ds, l⟩ m J Ψ := by
 obtain ⟨hu, hsz, by_, z, hby, hz, b1, rfl, b2, b3, b4⟩ := slT_eq ht; refine ExecA.valM hd hn fun S H hS hI => ?_; obtain ⟨H1, e1, e2⟩ := hI.alloc (zeroCellsL z.cells.toList j.toNat) e; refine ⟨_, H1, _, J, fun call yld => ?_, e2, h H.nx⟩; unfold evOp evOpX; simp only [ho]; show opMakeSlice2 K.P _ t (opd S.T H x) (opd S.T H y) = _; rw [eo_opd hS H hx, eo_opd hS H hy]; show vhRes (evMakeSlice K.P H t (.int ki i) (.int kj j)) = _; unfold evMakeSlice newRowA; simp only [hu, hz, hby, hsz]; rw [intUp_ok (by omega) (by omega), intUp_ok (by omega) (by omega)]; simp only [b1, b3, b4, Bool.and_true]; rw [show Nat.beq z.cells.toList.length sz = true by rw [b2]; exact Nat.beq_refl _, show Nat.ble i.toNat j.toNat = true from Nat.ble_eq_true_of_le (by omega)]; simp only [Bool.and_true, cond_true, e1]; rfl
inductive Acc (e : TypeId) (sz : Nat) : Value → Nat → List Value → Mm → Prop
 | nil : Acc e sz (.slice none 0 0) 0 [] []
 | emp (a : Nat) : Acc e sz (.slice (some ⟨a, 0, none⟩) 0 0) 0 [] []
 | opn {a k : Nat} {cells : List Value} {rest : List Nat} {z : Nat} : cells.length = k * sz → z ≤ cells.length → Acc e sz (.slice (some ⟨a, 0, none⟩) k openCap) k cells [(a, .opn cells e rest z)]
 | cap {a k C : Nat} {cells full : List Value} {el : TypeId} : full.length = C * sz → full.take (k * sz) = cells → k ≤ C → C < openCap → Acc e sz (.slice (some ⟨a, 0, none⟩) k C) k cells [(a, .row full el)]
theorem splice_ok {α : Type} : ∀ (off : Nat) (l vs : List α), off + vs.length ≤ l.length → splice off l vs = some (l.take off ++ vs ++ l.drop (off + vs.length)) := by
 intro off; induction off with
 | zero =>
  intro l vs h; induction vs generalizing l with
  | nil => cases l <;> simp [splice]
  | cons v vs ih =>
   cases l with
   | nil => simp at h
   | cons a l =>
    have := ih l (by simp only [List.length_cons] at h; omega); simp only [splice, this]; simp
 | succ n ih =>
  intro l vs h; cases l with
  | nil => simp at h
  | cons a l =>
   have := ih l vs (by simp only [List.length_cons] at h; omega); simp only [splice, this]; simp [Nat.add_right_comm n 1 vs.length]
theorem Inv.perm {g0 : Nat} {H : Hp} (h : Inv g0 B J m H) (hp : m.Perm m') : Inv g0 B J m' H :=
 ⟨h.wf, h.glo, h.nx, h.nf, h.keep, h.keepF, h.pub, h.le, h.fresh, fun a b q => h.own a b (hp.symm.subset q), fun a b q => h.opn a b (hp.symm.subset q), (ids_perm hp).nodup_iff.1 h.nd⟩
theorem Inv.grow {g0 a z : Nat} {H : Hp} {cells : List Value} {e : TypeId} {rest : List Nat} (h : Inv g0 B J ((a, .opn cells e rest z) :: m) H) (cells' : List Value) : ∃ f H1 H2, H.mem.get a = some (.row cells e true f z false) ∧ H.fam.get f = some (a :: rest) ∧ H.setFam f (H.nx :: a :: rest) = some H1 ∧ H1.nx = H.nx ∧ H1.new (.row cells' e true f z false) = some (H.nx, H2) ∧ Inv g0 B J ((H.nx, .opn cells' e (a :: rest) z) :: m) H2 := by
 obtain ⟨k1, k2, k3, k4⟩ := h.own a _ (.head _); obtain ⟨f, f1, f2, f3⟩ := k1; have hflt := h.wf.flt f3; have hnd := h.nd; rw [show ids ((a, PB.opn cells e rest z) :: m) = a :: (rest ++ ids m) from rfl, List.nodup_cons, List.mem_append] at hnd; obtain ⟨H1, e1⟩ := h.wf.setFam (H.nx :: a :: rest) hflt; obtain ⟨s2, s1, s3, s4, s5⟩ := Hp.setFam_eq e1; have hm : Inv g0 B J m H1 := by
  refine ⟨h.wf.setFam_wf hflt e1, s4.trans h.glo, by rw [s2]; exact h.nx, by rw [s3]; exact h.nf, fun x hx hX => by rw [s1]; exact h.keep x hx hX, fun g hg => ?_, fun x c e hj => by rw [s1]; exact h.pub x c e hj, h.le, h.fresh, fun x b hb => ?_, fun x b hb y hy => by rw [s2]; exact h.opn x b (.tail _ hb) y hy, (List.sublist_append_right _ _).nodup hnd.2⟩
  ·
   rw [s5, if_neg (fun q => hg (by rw [q]; exact f1))]; exact h.keepF g hg
  ·
   obtain ⟨l1, l2, l3, l4⟩ := h.own x b (.tail _ hb); refine ⟨?_, l2, l3, l4⟩; cases b with
   | row c e => show H1.mem.get x = _; rw [s1]; exact l1
   | map es k => show H1.mem.get x = _; rw [s1]; exact l1
   | loop r => show H1.mem.get x = _; rw [s1]; exact l1
   | dfr => show H1.mem.get x = _; rw [s1]; exact l1
   | opn c e' r z' =>
    obtain ⟨g, g1, g2, g3⟩ := l1; refine ⟨g, g1, by rw [s1]; exact g2, ?_⟩; rw [s5, if_neg]
    ·
     exact g3
    ·
     intro q; subst q; rw [f3] at g3; injection g3 with g3; injection g3 with g3
     subst g3; exact hnd.1 (.inr (ids_fst hb))
 obtain ⟨H2, e2⟩ := hm.wf.new (.row cells' e true f z false); obtain ⟨_, n2, n3, n4, n5, n6⟩ := Hp.new_eq e2; refine ⟨f, H1, H2, f2, f3, e1, s2, by rw [← s2]; exact e2, ?_⟩; have h2 : Inv g0 B J m H2 := by
  refine ⟨hm.wf.new_wf e2, n5.trans hm.glo, by have := hm.nx; omega, by rw [n4]; exact hm.nf, fun x hx hX => ?_, fun g hg => by rw [n3]; exact hm.keepF g hg, fun x c e hj => ?_, hm.le, hm.fresh, fun x b hb => ?_, fun x b hb y hy => ?_, hm.nd⟩
  ·
   rw [n6, if_neg (by have := hm.nx; omega)]; exact hm.keep x hx hX
  ·
   obtain ⟨o, f, z, s, q⟩ := hm.pub x c e hj; exact ⟨o, f, z, s, by rw [n6, if_neg (by have := hm.wf.lt q; omega)]; exact q⟩
  ·
   obtain ⟨l1, l2, l3, l4⟩ := hm.own x b hb; exact ⟨PB.at_mono l1 (by rw [n6, if_neg (by have := hm.lt hb; omega)]) (fun f l hf => by rw [n3]; exact hf), l2, l3, l4⟩
  ·
   obtain ⟨l1, l2, l3⟩ := hm.opn x b hb y hy; exact ⟨by omega, l2, l3⟩
 refine ⟨h2.wf, h2.glo, h2.nx, h2.nf, h2.keep, h2.keepF, h2.pub, h2.le, h2.fresh, fun x b hb => ?_, fun x b hb y hy => ?_, ?_⟩
 ·
  rcases List.mem_cons.1 hb with q | q
  ·
   injection q with q1 q2; subst q1; subst q2
   exact ⟨⟨f, f1, by rw [n6, s2, if_pos rfl], by rw [n3, s5, if_pos rfl]⟩, .inl h.nx, h.notJ, h.glb⟩
  ·
   exact h2.own x b q
 ·
  rcases List.mem_cons.1 hb with q | q
  ·
   injection q with q1 q2; subst q1; subst q2
   have hlt : y < H.nx ∧ (B.H0.nx ≤ y ∨ B.X y) ∧ J y = none := by
    rcases List.mem_cons.1 (show y ∈ a :: rest from hy) with q | q
    ·
     subst q; exact ⟨h.lt (.head _), k2, k3⟩
    ·
     exact h.opn a _ (.head _) y q
   exact ⟨by have := hlt.1; omega, hlt.2⟩
  ·
   exact h2.opn x b q y hy
 ·
  show (H.nx :: (a :: (rest ++ ids m))).Nodup; rw [List.nodup_cons]; refine ⟨fun q => ?_, h.nd⟩; have := h.ltI (show H.nx ∈ ids ((a, PB.opn cells e rest z) :: m) from q); omega
theorem ble_no {j : Nat} (h : j ≠ 0) : Nat.ble (0 + j) 0 = false := by
 cases q : Nat.ble (0 + j) 0
 ·
  rfl
 ·
  have := Nat.le_of_ble_eq_true q; omega
def z0 (mo : Mm) : Prop := ∀ a c e r z, (a, PB.opn c e r z) ∈ mo → z = 0
theorem z0_new {a : Nat} {c : List Value} {e : TypeId} {r : List Nat} : z0 [(a, .opn c e r 0)] := fun a c e r z q => by
 rcases List.mem_cons.1 q with q | q
 ·
  injection q with _ q; injection q
 ·
  cases q
theorem z0_row {a : Nat} {c : List Value} {e : TypeId} : z0 [(a, .row c e)] := fun a c e r z q => by
 rcases List.mem_cons.1 q with q | q
 ·
  cases q
 ·
  cases q
theorem z0_grow {a a' : Nat} {c c' : List Value} {e e' : TypeId} {r r' : List Nat} {z : Nat} (h : z0 [(a, .opn c e r z)]) : z0 [(a', .opn c' e' r' z)] := fun b x y u w q => by
 rcases List.mem_cons.1 q with q | q
 ·
  injection q with _ q; injection q with _ _ _ q
  subst q; exact h _ _ _ _ _ (.head _)
 ·
  cases q
def nR (mo : Mm) : Prop := ∀ a c e, (a, PB.row c e) ∉ mo
theorem nR_opn {a : Nat} {c : List Value} {e : TypeId} {r : List Nat} {z : Nat} : nR [(a, .opn c e r z)] := fun a c e q => by
 rcases List.mem_cons.1 q with q | q
 ·
  cases q
 ·
  cases q
theorem x_accZ {c : Call} {t tx e : TypeId} {sz k j : Nat} {zs cells new : List Value} {v x : Value} {mo m0 : Mm} {dx : TypeDesc} (ho : o.op = .call c) (hc : c.callee = .builtin .append) (hd : o.dst = some d) (hn : Nat.blt d n = true) (ha : eos l c.args.toList = some [v, x]) (hts : c.argTypes.toList = [t, tx]) (ht : slT K.P t = some (e, sz, zs)) (htx : K.P.underlying tx = some dx) (hni : ∀ i, dx ≠ .int i)
  (hv : Acc e sz v k cells mo) (hm : m = mo ++ m0) (hx : Rd K.g0 B J m sz x j new) (hnl : new.length = j * sz) (hne : new.all oneCell = true) (hl : k + j ≤ 1000000)
  (h : ∀ w mo', Acc e sz w (k + j) (cells ++ new) mo' → (z0 mo → z0 mo') ∧ (nR mo → nR mo') → Ψ ⟨n, ds, (d, w) :: l⟩ (mo' ++ m0) J) : ExecA K B o ⟨n, ds, l⟩ m J Ψ := by
 obtain ⟨hu, hsz, by_, z, hby, hz, b1, rfl, b2, b3, b4⟩ := slT_eq ht; refine ExecA.valM hd hn fun S H hS hI => ?_; obtain ⟨x1, x2⟩ := hx H hI; have hev : ∀ call yld, evOp K.P call yld S H o = vhRes (evAppend K.P H t v x) := fun call yld => by
  rw [evBuiltin_ev ho hc]; unfold evBuiltin; rw [eos_opds hS H ha, hts]; simp only [htx]
 have hfr : (!(Nat.ble (k + j) 1000000 && Nat.ble by_ 1000000 && Nat.beq z.cells.toList.length sz)) = false := by
  rw [b1, b2, Nat.beq_refl, show Nat.ble (k + j) 1000000 = true from Nat.ble_eq_true_of_le hl]; rfl
 have hnn : (!(new.all oneCell && Nat.beq new.length (j * sz))) = false := by
  rw [hne, hnl, Nat.beq_refl]; rfl
 subst hm; cases hv with
 | nil =>
  by_cases hj : j = 0
  ·
   subst hj; have hnew : new = [] := by apply List.eq_nil_of_length_eq_zero; rw [hnl]; simp
   subst hnew; refine ⟨.slice none 0 0, H, _, J, fun call yld => ?_, hI, h _ [] .nil ⟨id, id⟩⟩; rw [hev]; unfold evAppend; simp only [hu, hsz, hby, hz, x1, hfr, cond_false, x2, hnn]; rfl
  ·
   obtain ⟨H1, e1, e2⟩ := hI.newOpen new e; refine ⟨.slice (some ⟨H.nx, 0, none⟩) j openCap, H1, (H.nx, .opn new e [] 0) :: m0, J, fun call yld => ?_, e2, ?_⟩
   ·
    rw [hev]; unfold evAppend; simp only [hu, hsz, hby, hz, x1, hfr, cond_false, x2, hnn]; rw [show Nat.beq 0 openCap = false from rfl, cond_false, ble_no hj, cond_false]; simp only [evFirst, List.length_nil, Nat.zero_mul, Nat.beq_refl, cond_true, List.nil_append, fresh, e1, Nat.zero_add]; rfl
   ·
    have := h (.slice (some ⟨H.nx, 0, none⟩) j openCap) [(H.nx, .opn new e [] 0)] (by rw [Nat.zero_add, List.nil_append]; exact .opn hnl (Nat.zero_le _)) ⟨fun _ => z0_new, fun _ => nR_opn⟩; exact this
 | emp a =>
  by_cases hj : j = 0
  ·
   subst hj; have hnew : new = [] := by apply List.eq_nil_of_length_eq_zero; rw [hnl]; simp
   subst hnew; refine ⟨.slice (some ⟨a, 0, none⟩) 0 0, H, _, J, fun call yld => ?_, hI, h _ [] (.emp a) ⟨id, id⟩⟩; rw [hev]; unfold evAppend; simp only [hu, hsz, hby, hz, x1, hfr, cond_false, x2, hnn]; rfl
  ·
   obtain ⟨H1, e1, e2⟩ := hI.newOpen new e; refine ⟨.slice (some ⟨H.nx, 0, none⟩) j openCap, H1, (H.nx, .opn new e [] 0) :: m0, J, fun call yld => ?_, e2, ?_⟩
   ·
    rw [hev]; unfold evAppend; simp only [hu, hsz, hby, hz, x1, hfr, cond_false, x2, hnn]; rw [show Nat.beq 0 openCap = false from rfl, cond_false, ble_no hj, cond_false]; simp only [evFirst, List.length_nil, Nat.zero_mul, Nat.beq_refl, cond_true, List.nil_append, fresh, e1, Nat.zero_add]; rfl
   ·
    have := h (.slice (some ⟨H.nx, 0, none⟩) j openCap) [(H.nx, .opn new e [] 0)] (by rw [Nat.zero_add, List.nil_append]; exact .opn hnl (Nat.zero_le _)) ⟨fun _ => z0_new, fun _ => nR_opn⟩; exact this
 | @opn a k cells rest z hlen hz0 =>
  have hzb : Nat.ble z (0 + k * sz) = true := Nat.ble_eq_true_of_le (by omega); by_cases hj : j = 0
  ·
   subst hj; have hnew : new = [] := by apply List.eq_nil_of_length_eq_zero; rw [hnl]; simp
   subst hnew; obtain ⟨f, H1, H2, g1, g2, g5, g6, g7, g8⟩ := Inv.grow (m := m0) hI cells; have hglo : Nat.blt a H.glo = false := by
    cases q : Nat.blt a H.glo
    ·
     rfl
    ·
     have : a < H.glo := by simpa [Nat.blt, Nat.succ_le_iff] using q
     have := (hI.own _ _ (.head _)).2.2.2; have := hI.glo; omega
   refine ⟨.slice (some ⟨a, 0, none⟩) k openCap, H, _, J, fun call yld => ?_, hI, h _ [(a, .opn cells e rest z)] (by rw [Nat.add_zero, List.append_nil]; exact .opn hlen hz0) ⟨id, id⟩⟩; rw [hev]; unfold evAppend; simp only [hu, hsz, hby, hz, x1, hfr, cond_false, x2, hnn, Nat.beq_refl, cond_true, g1, hglo, Bool.not_false, Bool.and_self, hzb, Bool.not_true]; rfl
  ·
   obtain ⟨f, H1, H2, g1, g2, g5, g6, g7, g8⟩ := Inv.grow (m := m0) hI (cells ++ new); have hglo : Nat.blt a H.glo = false := by
    cases q : Nat.blt a H.glo
    ·
     rfl
    ·
     have : a < H.glo := by simpa [Nat.blt, Nat.succ_le_iff] using q
     have := (hI.own _ _ (.head _)).2.2.2; have := hI.glo; omega
   refine ⟨.slice (some ⟨H.nx, 0, none⟩) (k + j) openCap, H2, (H.nx, .opn (cells ++ new) e (a :: rest) z) :: m0, J, fun call yld => ?_, g8, ?_⟩
   ·
    rw [hev]; have hj0 : Nat.beq j 0 = false := by
     cases q : Nat.beq j 0
     ·
      rfl
     ·
      exact absurd (Nat.eq_of_beq_eq_true q) hj
    have htk : takeN (k * sz) cells = some cells := by rw [takeN_ok (by omega), List.take_of_length_le (by omega)]
    unfold evAppend; simp only [hu, hsz, hby, hz, x1, hfr, cond_false, x2, hnn, Nat.beq_refl, cond_true, g1, hglo, Bool.not_false, Bool.and_self, hzb, Bool.not_true, hj0, htk, g2, cutFam, hlen, cutMore, g5, g6, g7]; rfl
   ·
    exact h (.slice (some ⟨H.nx, 0, none⟩) (k + j) openCap) [(H.nx, .opn (cells ++ new) e (a :: rest) z)] (.opn (by rw [List.length_append, hlen, hnl, Nat.add_mul]) (by rw [List.length_append]; omega)) ⟨z0_grow, fun _ => nR_opn⟩
 | @cap a k C cells full el hfl hft hkC hC =>
  have hne1 : Nat.beq C openCap = false := by
   cases q : Nat.beq C openCap
   ·
    rfl
   ·
    have := Nat.eq_of_beq_eq_true q; omega
  have hrow : H.mem.get a = some (.row full el false 0 0 false) := (hI.own a (.row full el) (.head _)).1; have hclen : cells.length = k * sz := by rw [← hft, List.length_take, hfl, Nat.min_eq_left (Nat.mul_le_mul_right _ hkC)]
  have hga : Nat.blt a H.glo = false := by
   cases q : Nat.blt a H.glo
   ·
    rfl
   ·
    have : a < H.glo := by simpa [Nat.blt, Nat.succ_le_iff] using q
    have := (hI.own _ _ (.head _)).2.2.2; have := hI.glo; omega
  by_cases hfit : k + j ≤ C
  ·
   have hroom : k * sz + new.length ≤ full.length := by rw [hnl, hfl, ← Nat.add_mul]; exact Nat.mul_le_mul_right _ hfit
   have hsp := splice_ok (k * sz) full new hroom; have hst : ∃ H1, evStoreCells H a (0 + k * sz) new = some H1 ∧ ∃ full', Inv K.g0 B J ((a, .row full' el) :: m0) H1 ∧ full'.length = C * sz ∧ full'.take ((k + j) * sz) = cells ++ new := by
    cases hnw : new with
    | nil =>
     have h0 : j * sz = 0 := by rw [← hnl, hnw]; rfl
     exact ⟨H, rfl, full, hI, hfl, by rw [Nat.add_mul, h0, Nat.add_zero, hft, List.append_nil]⟩
    | cons x0 xs =>
     obtain ⟨H1, e1, e2⟩ := hI.store (cells' := full.take (k * sz) ++ new ++ full.drop (k * sz + new.length)) (.head _ _ _ _); refine ⟨H1, ?_, _, e2, ?_, ?_⟩
     ·
      rw [← hnw]
      have : evStoreCells H a (0 + k * sz) new = (bif Nat.blt a H.glo then none else match H.mem.get a with
       | some (.row cells elem opn fam fz sh) => bif Nat.ble fz (0 + k * sz) && new.all oneCell then (match splice (0 + k * sz) cells new with
        | none => none
        | some cells => match H.upd a (.row cells elem opn fam fz sh) with
         | none => none
         | some H => bif opn then killOthers H a fam else some H) else none
       | _ => none) := by rw [hnw]; rfl
      rw [this]; simp only [hga, cond_false, hrow, Nat.zero_add, hsp, e1, hne, Bool.and_true, Nat.ble, cond_true]
     ·
      simp only [List.length_append, List.length_take, List.length_drop]; omega
     ·
      rw [List.append_assoc, List.take_append, hft, List.take_of_length_le (by rw [hclen, Nat.add_mul]; omega), List.take_append, List.take_of_length_le (by rw [hclen, hnl, Nat.add_mul]; omega), hclen, hnl, Nat.add_mul, show k * sz + j * sz - k * sz - j * sz = 0 by omega, List.take_zero, List.append_nil]; exact congrArg _ hnw
   obtain ⟨H1, e1, full', e2, e3, e4⟩ := hst; refine ⟨.slice (some ⟨a, 0, none⟩) (k + j) C, H1, (a, .row full' el) :: m0, J, fun call yld => ?_, e2, h _ [(a, .row full' el)] (.cap e3 e4 hfit hC) ⟨fun _ => z0_row, fun q => absurd (.head _) (q _ _ _)⟩⟩; rw [hev]; unfold evAppend; simp only [hu, hsz, hby, hz, x1, hfr, cond_false, x2, hnn, hne1, show Nat.ble (k + j) C = true from Nat.ble_eq_true_of_le hfit, cond_true, e1]; rfl
  ·
   obtain ⟨H1, e1, e2⟩ := hI.newOpen (cells ++ new) e; have hbl : Nat.ble (k + j) C = false := by
    cases q : Nat.ble (k + j) C
    ·
     rfl
    ·
     have := Nat.le_of_ble_eq_true q; omega
   have hold : evFirst H sz k (.slice (some ⟨a, 0, none⟩) k C) = some cells := by
    cases k with
    | zero =>
     rw [Nat.zero_mul, List.take_zero] at hft; subst hft; rfl
    | succ k =>
     simp only [evFirst, hrow]; rw [dropN_eq, List.drop_zero, takeN_ok (by rw [hfl]; exact Nat.mul_le_mul_right _ hkC), hft]
   refine ⟨.slice (some ⟨H.nx, 0, none⟩) (k + j) openCap, H1, (H.nx, .opn (cells ++ new) e [] 0) :: m0, J, fun call yld => ?_, e2.sub (.cons_cons _ (.cons _ (.refl _))), h _ [(H.nx, .opn (cells ++ new) e [] 0)] (.opn (by rw [List.length_append, hclen, hnl, Nat.add_mul]) (Nat.zero_le _)) ⟨fun _ => z0_new, fun _ => nR_opn⟩⟩; rw [hev]; unfold evAppend; simp only [hu, hsz, hby, hz, x1, hfr, cond_false, x2, hnn, hne1, hbl, noSpot, hold, hclen, Nat.beq_refl, cond_true, fresh, e1]; rfl
theorem x_acc {c : Call} {t tx e : TypeId} {sz k j : Nat} {zs cells new : List Value} {v x : Value} {mo m0 : Mm} {dx : TypeDesc} (ho : o.op = .call c) (hc : c.callee = .builtin .append) (hd : o.dst = some d) (hn : Nat.blt d n = true) (ha : eos l c.args.toList = some [v, x]) (hts : c.argTypes.toList = [t, tx]) (ht : slT K.P t = some (e, sz, zs)) (htx : K.P.underlying tx = some dx) (hni : ∀ i, dx ≠ .int i)
  (hv : Acc e sz v k cells mo) (hm : m = mo ++ m0) (hx : Rd K.g0 B J m sz x j new) (hnl : new.length = j * sz) (hne : new.all oneCell = true) (hl : k + j ≤ 1000000)
  (h : ∀ w mo', Acc e sz w (k + j) (cells ++ new) mo' → Ψ ⟨n, ds, (d, w) :: l⟩ (mo' ++ m0) J) : ExecA K B o ⟨n, ds, l⟩ m J Ψ :=
 x_accZ ho hc hd hn ha hts ht htx hni hv hm hx hnl hne hl fun w mo' q _ => h w mo' q
end
section
variable {K : Kx} {B : Bs} {o : Oper} {n : Nat} {ds : Dx} {l : List (Nat × Value)} {m m' : Mm} {J : Jm} {Ψ : En → Mm → Jm → Prop} {d : Nat}
theorem WC.cut {c : Code} {E : En} {L : List (Nat × Value)} {M : Mm} {J1 : Jm} {Θ : Exit → En → Mm → Jm → Prop} (h1 : WC K B c E m J fun e E' m' J' => match e with
      | .normal => (∃ l', E' = ⟨n, ds, l'⟩ ∧ subL l' L) ∧ M.Sublist m' ∧ J' = J1
      | e => Θ e E' m' J') (h2 : Θ .normal ⟨n, ds, L⟩ M J1) : WC K B c E m J Θ := by
  intro S H hS hI; obtain ⟨e, S', H', E', m1, J', k1, k2, k3, k4⟩ := h1 S H hS hI; cases e with
  | normal =>
    obtain ⟨⟨l', rfl, k5⟩, k6, rfl⟩ := k4; exact ⟨_, S', H', _, M, _, k1, k2.sub k5, k3.sub k6, h2⟩
  | exit i => exact ⟨_, S', H', _, _, _, k1, k2, k3, k4⟩
  | goto i => exact ⟨_, S', H', _, _, _, k1, k2, k3, k4⟩
  | ret => exact ⟨_, S', H', _, _, _, k1, k2, k3, k4⟩
  | panic c => exact ⟨_, S', H', _, _, _, k1, k2, k3, k4⟩
  | outgrown => exact ⟨_, S', H', _, _, _, k1, k2, k3, k4⟩
theorem cutT {t : Nat} {p : Prop} [Decidable p] (h : look l t = some (.bool true)) (hp : p) : look l t = some (.bool (decide p)) := by rw [h, decide_eq_true hp]
theorem cutF {t : Nat} {p : Prop} [Decidable p] (h : look l t = some (.bool false)) (hp : ¬ p) : look l t = some (.bool (decide p)) := by rw [h, decide_eq_false hp]
theorem cutI {t : Nat} {p q : Prop} [Decidable p] [Decidable q] (h : look l t = some (.bool (decide q))) (hp : q ↔ p) : look l t = some (.bool (decide p)) := by rw [h]; simp [hp]
theorem cutB {t : Nat} {p : Prop} [Decidable p] {b : Bool} (h : look l t = some (.bool b)) (hp : b = true ↔ p) : look l t = some (.bool (decide p)) := by rw [h]; congr 2; rw [Bool.eq_iff_iff]; simp [hp]
noncomputable def bndI (l : List (Nat × Value)) (d : Int) : Option Operand → Option Int
 | none => some d
 | some x => match eo l x with | some (.int _ i) => some i | _ => none
theorem bndI_opt {S : St} (hS : Sat ⟨n, ds, l⟩ S) (H : Hp) {dl i : Int} {x : Option Operand} (h : bndI l dl x = some i) : (x = none ∧ i = dl ∧ optOpd S.T H x = some none) ∨ (∃ k y, x = some y ∧ eo l y = some (.int k i) ∧ optOpd S.T H x = some (some (.int k i))) := by
 cases x with
 | none => injection h with h; exact .inl ⟨rfl, h.symm, rfl⟩
 | some y =>
  right
  simp only [bndI] at h; split at h
  ·
   rename_i k j hj; injection h with h; subst h
   exact ⟨k, y, rfl, hj, by simp only [optOpd]; rw [eo_opd hS H hj]⟩
  ·
   cases h
theorem bnd_ok {S : St} (hS : Sat ⟨n, ds, l⟩ S) (H : Hp) {dl i : Int} {x : Option Operand} {dn top : Nat} (h : bndI l dl x = some i) (h0 : 0 ≤ i) (h1 : i ≤ top) (hd : dl = dn) : ∃ ox, optOpd S.T H x = some ox ∧ bnd dn top ox = some i.toNat := by
 rcases bndI_opt hS H h with ⟨rfl, rfl, q⟩ | ⟨k, y, rfl, hy, q⟩
 ·
  refine ⟨none, q, ?_⟩; rw [hd]; rfl
 ·
  exact ⟨_, q, intUp_ok h0 h1⟩
theorem x_slice {t e : TypeId} {x : Operand} {lo hi : Option Operand} {v : Value} {k sz : Nat} {zs cs : List Value} {a b : Int} (ho : o.op = .slice t x lo hi none) (hd : o.dst = some d) (hn : Nat.blt d n = true) (hx : eo l x = some v) (ht : slT K.P t = some (e, sz, zs)) (hv : SlC J e sz v k cs) (hk : 0 < k) (hlo : bndI l 0 lo = some a) (hhi : bndI l k hi = some b) (h0 : 0 ≤ a) (h1 : a ≤ b) (h2 : b ≤ k)
  (h : ∀ w, SlC J e sz w (b - a).toNat ((cs.drop (a.toNat * sz)).take ((b - a).toNat * sz)) → Ψ ⟨n, ds, (d, w) :: l⟩ m J) : ExecA K B o ⟨n, ds, l⟩ m J Ψ := by
 obtain ⟨hu, hsz, by_, z, hby, hz, b1, rfl, b2, b3, b4⟩ := slT_eq ht; refine ExecA.valM hd hn fun S H hS hI => ?_; cases hv with
 | nil => exact absurd hk (by omega)
 | emp a off cap h => exact absurd hk (by omega)
 | emx => exact absurd hk (by omega)
 | @row a0 off k cap cells cs e' r1 r2 r3 r4 r5 =>
  obtain ⟨ol, ol1, ol2⟩ := bnd_ok (dn := 0) (top := b.toNat) hS H hlo h0 (by omega) rfl; have hev : ∀ w, evSlice K.P H t (.slice (some ⟨a0, off, none⟩) k cap) ol (match optOpd S.T H hi with | some x => x | none => none) = some w → ∀ call yld, evOp K.P call yld S H o = some (.val w H) := fun w hw call yld => by
   unfold evOp evOpX; simp only [ho]; show opSlice2 K.P _ t (opd S.T H x) (optOpd S.T H lo) (optOpd S.T H hi) = _; rw [eo_opd hS H hx, ol1]; rcases bndI_opt hS H hhi with ⟨_, _, q⟩ | ⟨_, _, _, _, q⟩
   ·
    rw [q] at hw ⊢; unfold opSlice2; simp only; rw [show evSlice K.P H t (.slice (some ⟨a0, off, none⟩) k cap) ol none = some w from hw]; rfl
   ·
    rw [q] at hw ⊢; unfold opSlice2; simp only; rw [show evSlice K.P H t (.slice (some ⟨a0, off, none⟩) k cap) ol _ = some w from hw]; rfl
  have hlen : k * sz ≤ (cells.drop off).length := by
   have : ((cells.drop off).take (k * sz)).length = k * sz := by rw [r2]; exact r3
   rw [List.length_take] at this; omega
  have e1 : (b - a).toNat = b.toNat - a.toNat := by omega
  have hle : a.toNat * sz + (b - a).toNat * sz ≤ k * sz := by
   rw [← Nat.add_mul]; exact Nat.mul_le_mul_right _ (by omega)
  have hcs : (cells.drop (off + a.toNat * sz)).take ((b - a).toNat * sz) = (cs.drop (a.toNat * sz)).take ((b - a).toNat * sz) := by
   rw [← r2, List.drop_take, List.take_take, List.drop_drop, Nat.min_eq_left (by omega)]
  have hcl : ((cs.drop (a.toNat * sz)).take ((b - a).toNat * sz)).length = (b - a).toNat * sz := by
   rw [List.length_take, List.length_drop, r3]; omega
  obtain ⟨oo, of, oz, os, hq⟩ := hI.pub _ _ _ r1; by_cases hc : cap = openCap
  ·
   subst hc; obtain ⟨oh, oh1, oh2⟩ := bnd_ok (dn := k) (top := k) hS H hhi (by omega) (by omega) rfl; refine ⟨.slice (some ⟨a0, off + a.toNat * sz, none⟩) (b - a).toNat openCap, H, m, J, hev _ ?_, hI, h _ (.row r1 hcs hcl (fun q => absurd rfl q) r5)⟩; rw [oh1]; unfold evSlice; simp only [hu, hsz, Nat.beq_refl, cond_true, hq, r5 rfl, oh2, ol2, Bool.not_true, cond_false]; rw [e1]; rfl
  ·
   obtain ⟨oh, oh1, oh2⟩ := bnd_ok (dn := k) (top := cap) hS H hhi (by omega) (by have := (r4 hc).1; omega) rfl; have hcb : Nat.beq cap openCap = false := by
    cases q : Nat.beq cap openCap
    ·
     rfl
    ·
     exact absurd (Nat.eq_of_beq_eq_true q) hc
   by_cases hca : cap = a.toNat
   ·
    have hz0 : (b - a).toNat = 0 := by have := (r4 hc).1; omega
    refine ⟨.slice (some ⟨a0, off, none⟩) (b - a).toNat (cap - a.toNat), H, m, J, hev _ ?_, hI, h _ ?_⟩
    ·
     rw [oh1]; unfold evSlice; simp only [hu, hsz, hcb, cond_false, oh2, ol2]; rw [show Nat.beq cap a.toNat = true by rw [hca]; exact Nat.beq_refl _, cond_true, e1]; rfl
    ·
     have : (cs.drop (a.toNat * sz)).take ((b - a).toNat * sz) = [] := by rw [hz0]; simp
     rw [this, hz0, hca, Nat.sub_self]; exact .emp _ _ _ (by decide)
   ·
    refine ⟨.slice (some ⟨a0, off + a.toNat * sz, none⟩) (b - a).toNat (cap - a.toNat), H, m, J, hev _ ?_, hI, h _ (.row r1 hcs hcl (fun _ => ⟨by have := (r4 hc).1; omega, by have := (r4 hc).2; omega⟩) (fun q => ?_))⟩
    ·
     rw [oh1]; unfold evSlice; simp only [hu, hsz, hcb, cond_false, oh2, ol2]; have : Nat.beq cap a.toNat = false := by
      cases q : Nat.beq cap a.toNat
      ·
       rfl
      ·
       exact absurd (Nat.eq_of_beq_eq_true q) hca
     rw [this, cond_false, e1]; rfl
    ·
     have := (r4 hc).2; omega
end
end Go.Opn

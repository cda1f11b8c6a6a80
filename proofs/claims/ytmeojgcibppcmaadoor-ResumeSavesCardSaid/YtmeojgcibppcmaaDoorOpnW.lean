/- A part of the proof of ResumeSaves. -/
import Derived.Test.YtmeojgcibppcmaaDoorOpnY
import Derived.Test.YtmeojgcibppcmaaDoorOpnP
import Derived.Test.YtmeojgcibppcmaaDoorOpnT
set_option linter.unusedVariables false
set_option linter.unusedSimpArgs false
namespace Go.Opn
open Go.Cre Go.RowKit
theorem killAll_ok {me : Nat} : ∀ (l : List Nat) {H : Hp}, Wf H → (∀ x ∈ l, x < H.nx) → ∃ H', killAll H me l = some H' ∧ Wf H' := by
 intro l; induction l with
 | nil => intro H w _; exact ⟨H, rfl, w⟩
 | cons x l ih =>
  intro H w h; simp only [killAll]; cases hb : Nat.beq x me with
  | true => exact ih w fun y hy => h y (.tail _ hy)
  | false =>
   obtain ⟨H1, e1⟩ := w.upd .dead (h x (.head _)); rw [cond_false, e1]; exact ih (w.upd_wf (h x (.head _)) e1) fun y hy => by rw [(Hp.upd_eq e1).1]; exact h y (.tail _ hy)
section
variable {g0 : Nat} {B : Bs} {H : Hp} {J : Jm} {m m' : Mm}
theorem Inv.kill {a z : Nat} {cells : List Value} {e : TypeId} {rest : List Nat} (h : Inv g0 B J ((a, .opn cells e rest z) :: m) H) (cells' : List Value) (z' : Nat) :
    ∃ f H1 H2, H.mem.get a = some (.row cells e true f z false) ∧ H.upd a (.row cells' e true f z' false) = some H1 ∧ killOthers H1 a f = some H2 ∧ Inv g0 B J ((a, .opn cells' e [] z') :: m) H2 := by
  obtain ⟨k1, k2, k3, k4⟩ := h.own a _ (.head _); obtain ⟨f, f1, f2, f3⟩ := k1; have hlt := h.lt (.head _); have hnd := h.nd; rw [show ids ((a, PB.opn cells e rest z) :: m) = a :: (rest ++ ids m) from rfl, List.nodup_cons, List.mem_append, List.nodup_append] at hnd; obtain ⟨hna, hnr, hnm, hdis⟩ := hnd; obtain ⟨H1, e1⟩ := h.wf.upd (.row cells' e true f z' false) hlt; have w1 := h.wf.upd_wf hlt e1; obtain ⟨u1, u2, u3, u4, u5⟩ := Hp.upd_eq e1; have hrl : ∀ x ∈ a :: rest, x < H1.nx := fun x hx => by
    rw [u1]; rcases List.mem_cons.1 hx with q | q
    · subst q; exact hlt
    · exact (h.opn a _ (.head _) x q).1
  obtain ⟨H2, e2, w2⟩ := killAll_ok (me := a) (a :: rest) w1 hrl; obtain ⟨v1, v2, v3, v4, v5, v6⟩ := killAll_eq e2; have hfl : f < H2.nf := by rw [v3, u3]; exact h.wf.flt f3
  obtain ⟨H3, e3⟩ := w2.setFam [a] hfl; obtain ⟨s2, s1, s3, s4, s5⟩ := Hp.setFam_eq e3; have hme : H3.mem.get a = some (.row cells' e true f z' false) := by rw [s1, v6 a (.inr rfl), u5, if_pos rfl]
  have hot : ∀ x, x ≠ a → x ∉ rest → H3.mem.get x = H.mem.get x := fun x q1 q2 => by
    rw [s1, v6 x (.inl (fun q => by rcases List.mem_cons.1 q with q | q; exact q1 q; exact q2 q)), u5, if_neg q1]
  have hfo : ∀ g, g ≠ f → H3.fam.get g = H.fam.get g := fun g q => by rw [s5, if_neg q, v2, u2]
  have hnx : H3.nx = H.nx := by rw [s2, v1, u1]
  refine ⟨f, H1, H3, f2, e1, ?_, ⟨w2.setFam_wf hfl e3, by rw [s4, v4, u4]; exact h.glo, by rw [hnx]; exact h.nx, by rw [s3, v3, u3]; exact h.nf, fun x hx hX => ?_, fun g hg => ?_, fun x c e' hj => ?_, h.le, h.fresh, fun x b hb => ?_, fun x b hb y hy => ?_, ?_⟩⟩
  · unfold killOthers
    rw [u2, f3]; simp only [e2, e3]
  · rw [hot x (fun q => by subst q; rcases k2 with q | q; · omega
                           · exact hX q) (fun q => by rcases (h.opn a _ (.head _) x q).2.1 with r | r; · omega
                                                      · exact hX r)]
    exact h.keep x hx hX
  · rw [hfo g (fun q => hg (by rw [q]; exact f1))]; exact h.keepF g hg
  · obtain ⟨o, f', z0, s, q⟩ := h.pub x c e' hj
    exact ⟨o, f', z0, s, by rw [hot x (fun r => by subst r; rw [k3] at hj; cases hj) (fun r => by have := (h.opn a _ (.head _) x r).2.2; rw [this] at hj; cases hj)]; exact q⟩
  · rcases List.mem_cons.1 hb with q | q
    · injection q with q1 q2; subst q1; subst q2
      exact ⟨⟨f, f1, hme, by rw [s5, if_pos rfl]⟩, k2, k3, k4⟩
    · obtain ⟨l1, l2, l3, l4⟩ := h.own x b (.tail _ q)
      have hxm : x ∈ ids m := ids_fst q; refine ⟨?_, l2, l3, l4⟩; refine PB.at_mono l1 (hot x (fun r => hna (.inr (r ▸ hxm))) (fun r => hdis _ r _ hxm rfl)) fun g r hg => ?_; rw [hfo g (fun q' => by
        subst q'; rw [f3] at hg; injection hg with hg; injection hg with hg
        exact hna (.inr (hg ▸ hxm)))]
      exact hg
  · rcases List.mem_cons.1 hb with q | q
    · injection q with q1 q2; subst q1; subst q2; cases hy
    · rw [hnx]; exact h.opn x b (.tail _ q) y hy
  · show (a :: ([] ++ ids m)).Nodup
    rw [List.nil_append, List.nodup_cons]; exact ⟨fun q => hna (.inr q), hnm⟩
end
section
variable {K : Kx} {B : Bs} {o : Oper} {n : Nat} {ds : Dx} {l : List (Nat × Value)} {m m' : Mm} {J : Jm} {Ψ : En → Mm → Jm → Prop} {d : Nat}
theorem notGlo {g0 : Nat} {H : Hp} (hI : Inv g0 B J m H) {a : Nat} (h : g0 ≤ a) : Nat.blt a H.glo = false := by
 cases q : Nat.blt a H.glo
 ·
  rfl
 ·
  have : a < H.glo := by simpa [Nat.blt, Nat.succ_le_iff] using q
  have := hI.glo; omega
theorem x_storeO {t : TypeId} {x y : Operand} {a off k z : Nat} {v : Value} {vs cells cells' : List Value} {e : TypeId} {rest : List Nat} {m0 : Mm} (ho : o.op = .store t x y) (hd : o.dst = none) (hx : eo l x = some (.pointer (some ⟨a, off, none⟩))) (hy : eo l y = some v) (hk : sizeT K.P t = some k) (hc : v.cells.toList = vs) (hl : Nat.beq vs.length k = true) (h0 : Nat.blt 0 vs.length = true) (h1 : vs.all oneCell = true) (hs : splice off cells vs = some cells') (hz : z ≤ off) (hp : m.Perm ((a, .opn cells e rest z) :: m0)) (h : Ψ ⟨n, ds, l⟩ ((a, .opn cells' e [] z) :: m0) J) : ExecA K B o ⟨n, ds, l⟩ m J Ψ := by
 refine ExecA.skip hd fun S H hS hI => ?_; have hI := hI.perm hp; obtain ⟨f, H1, H2, e1, e2, e3, e4⟩ := hI.kill cells' z; obtain ⟨k1, k2, k3, k4⟩ := hI.own _ _ (.head _); refine ⟨H2, _, J, fun call yld => ?_, e4, h⟩; unfold evOp evOpX; simp only [ho]; show opStore2 K.P _ t (opd S.T H x) (opd S.T H y) = _; rw [eo_opd hS H hx, eo_opd hS H hy]; show hRes (evStore K.P H t (.pointer (some ⟨a, off, none⟩)) v) = _; unfold evStore; simp only [hk, hc, hl, cond_true]; unfold evStoreCells; cases vs with
 | nil => cases h0
 | cons v0 vs =>
  simp only
  rw [notGlo hI k4, cond_false, e1]; simp only [show Nat.ble z off = true from Nat.ble_eq_true_of_le hz, Bool.true_and, h1, cond_true, hs, e2, e3]; rfl
noncomputable def isPtr (P : Program) (t : TypeId) : Bool := match P.underlying t with | some (.pointer _) => true | _ => false
theorem v_ptrNil {op : BinOp} {t ty : TypeId} {x y : Operand} {b : Option Addr} {r : Bool} (ho : o.op = .binOp op t x y ty) (hx : eo l x = some (.pointer b)) (hy : eo l y = some (.pointer none)) (ht : isPtr K.P t = true) (hop : op = .eql ∧ r = b.isNone ∨ op = .neq ∧ r = !b.isNone) : Val K B o n ds l m J (.bool r) := by
 intro call yld S H hS hI; unfold isPtr at ht; split at ht
 ·
  rename_i e hu; cases b with
  | none =>
   unfold evOp evOpX; simp only [ho]; show opBin2 K.P _ op t (opd S.T H x) (opd S.T H y) = _; rw [eo_opd hS H hx, eo_opd hS H hy]; show orElse (evPlain K.P S.T H o) _ = _; have heq : evPure K.P (Op.equal t (.pointer none) (.pointer none)) = some true := by
    show evPure K.P (Op.equalIn (9999 + 1) t (.pointer none) (.pointer none)) = _; unfold Op.equalIn; rw [evPure_bind (evPure_under hu)]; rfl
   have : evPlain K.P S.T H o = some (.val (.bool r) H) := by
    refine plain2 hS (by rw [ho]; rfl) hx hy rfl rfl ?_ rfl; unfold execOp; simp only [ho]; rw [eo_or hS H hx, eo_or hS H hy]; rw [evPure_bind (a := .bool r)]
    ·
     rfl
    rcases hop with ⟨rfl, rfl⟩ | ⟨rfl, rfl⟩
    ·
     rw [evPure_bind (a := ()) (by rfl)]; have hb : binOp .eql t (.pointer none) (.pointer none) = (do pure (.bool (← Op.equal t (.pointer none) (.pointer none)))) := by simp [binOp]
     rw [hb, evPure_bind heq]; rfl
    ·
     rw [evPure_bind (a := ()) (by rfl)]; have hb : binOp .neq t (.pointer none) (.pointer none) = (do pure (.bool (!(← Op.equal t (.pointer none) (.pointer none))))) := by simp [binOp]
     rw [hb, evPure_bind heq]; rfl
   rw [this]; rfl
  | some a =>
   refine bin_slow ho (eo_opd hS H hx) (eo_opd hS H hy) (fun _ _ q => by cases q) ?_ ?_
   ·
    unfold evPlain; rw [ho]; have : opds S.T H (Op.binOp op t x y ty).operands.toList = some [.pointer (some a), .pointer none] := by
     show opds S.T H [x, y] = _; simp only [opds]; rw [eo_opd hS H hx, eo_opd hS H hy]
    rw [this]; rfl
   ·
    rcases hop with ⟨rfl, rfl⟩ | ⟨rfl, rfl⟩ <;> (unfold opBinEq evEqNil; simp only [hu]; rfl)
 ·
  cases ht
noncomputable def ptrSz (P : Program) (t : TypeId) : Bool := match P.underlying t with
 | some (.pointer e) => (match sizeT P e with | some (_ + 1) => true | _ => false)
 | _ => false
theorem v_ptrSame {op : BinOp} {t ty : TypeId} {x y : Operand} {a off : Nat} {r : Bool} (ho : o.op = .binOp op t x y ty) (hx : eo l x = some (.pointer (some ⟨a, off, none⟩))) (hy : eo l y = some (.pointer (some ⟨a, off, none⟩))) (ht : ptrSz K.P t = true) (hop : op = .eql ∧ r = true ∨ op = .neq ∧ r = false) : Val K B o n ds l m J (.bool r) := by
 intro call yld S H hS hI; have hev : evEqNil K.P t (.pointer (some ⟨a, off, none⟩)) (.pointer (some ⟨a, off, none⟩)) = some true := by
  unfold ptrSz at ht; split at ht
  ·
   rename_i e hu; split at ht
   ·
    rename_i k hk; unfold evEqNil; simp only [hu, hk, Nat.beq_refl, cond_true]; rw [beq_self_eq_true]
   ·
    cases ht
  ·
   cases ht
 refine bin_slow ho (eo_opd hS H hx) (eo_opd hS H hy) (fun _ _ q => by cases q) ?_ ?_
 ·
  unfold evPlain; rw [ho]; have : opds S.T H (Op.binOp op t x y ty).operands.toList = some [.pointer (some ⟨a, off, none⟩), .pointer (some ⟨a, off, none⟩)] := by
   show opds S.T H [x, y] = _; simp only [opds]; rw [eo_opd hS H hx, eo_opd hS H hy]
  rw [this]; rfl
 ·
  rcases hop with ⟨rfl, rfl⟩ | ⟨rfl, rfl⟩ <;> (unfold opBinEq; simp only [hev]; first | done | rfl)
noncomputable def toUns (P : Program) (s t : TypeId) : Bool := match P.underlying s, P.underlying t with
 | some (.pointer e), some .unsafePointer => (match sizeT P e with | some (_ + 1) => true | _ => false)
 | _, _ => false
theorem v_toUns {s t : TypeId} {x : Operand} {a off : Nat} {cells : List Value} (ho : o.op = .convert s t x) (hx : eo l x = some (.pointer (some ⟨a, off, none⟩))) (ht : toUns K.P s t = true) (hr : RowAt m J a cells) (hl : Nat.blt off cells.length = true) : Val K B o n ds l m J (.pointer (some ⟨a, off, none⟩)) := by
 intro call yld S H hS hI; unfold evOp evOpX; simp only [ho]; show opConvert2 K.P _ s t (opd S.T H x) = _; rw [eo_opd hS H hx]; show vRes (evConvPtr K.P H s t (.pointer (some ⟨a, off, none⟩))) H = _; obtain ⟨e, o', f, z, s', q⟩ := hr.get hI; unfold toUns at ht; split at ht
 ·
  rename_i e1 h1 h2; split at ht
  ·
   rename_i k hk; unfold evConvPtr; simp only [h1, h2, hk, q, hl, cond_true]; rfl
  ·
   cases ht
 ·
  cases ht
noncomputable def ofUns (P : Program) (s t e : TypeId) (len off : Nat) : Bool := match P.underlying s, P.underlying t with
 | some .unsafePointer, some (.pointer u) => (match sizeT P u with | some (_ + 1) => liesAt P P.depth e (len / P.cellsOf e) off u 1 | _ => false)
 | _, _ => false
theorem v_ofUns {s t e : TypeId} {x : Operand} {a off : Nat} {cells : List Value} (ho : o.op = .convert s t x) (hx : eo l x = some (.pointer (some ⟨a, off, none⟩))) (hr : (a, PB.row cells e) ∈ m) (ht : ofUns K.P s t e cells.length off = true) : Val K B o n ds l m J (.pointer (some ⟨a, off, none⟩)) := by
 intro call yld S H hS hI; unfold evOp evOpX; simp only [ho]; show opConvert2 K.P _ s t (opd S.T H x) = _; rw [eo_opd hS H hx]; show vRes (evConvPtr K.P H s t (.pointer (some ⟨a, off, none⟩))) H = _; have q : H.mem.get a = some (.row cells e false 0 0 false) := (hI.own _ _ hr).1; unfold ofUns at ht; split at ht
 ·
  rename_i u h1 h2; split at ht
  ·
   rename_i k hk; unfold evConvPtr; simp only [h1, h2, hk, q, ht, cond_true]; rfl
  ·
   cases ht
 ·
  cases ht
theorem Fn.same {f : FuncId} {fn : Func} {v : Value} (hf : K.ft.get f = some fn) (hb : fn.body = none) (hn : fn.name = "internal/abi.NoEscape") (ho : fn.origin = "") (hv : plain v = false) : Fn K f [v] [] J (fun u m' J' => u = v ∧ m' = [] ∧ J' = J) := by
 intro H hI; refine ⟨v, H, J, [], CallR.of_body K.hP noCode noCall (um := .run) ?_, hI, rfl, rfl, rfl⟩; unfold evBody; rw [hf]; show bodyOf K.P _ f fn [v] false .run H fn.body = _; rw [hb]; show bodyEnd2 .run (evExtern K.P fn f [v] H) = _; unfold evExtern; simp only [List.all_cons, hv, Bool.false_and, cond_false, extSame, hn, ho, decide_true, Bool.and_self, cond_true]; rfl
theorem v_max {c : Call} {x y : Operand} {k : IntKind} {a b : Int} (ho : o.op = .call c) (hc : c.callee = .builtin .max) (hcs : c.args.toList = [x, y]) (hx : eo l x = some (.int k a)) (hy : eo l y = some (.int k b)) : Val K B o n ds l m J (.int k (max a b)) := by
 intro call yld S H hS hI; rw [evBuiltin_ev ho hc]; have hargs : c.args = #[x, y] := by rw [← Array.toList_inj]; exact hcs
 have : evPlain K.P S.T H o = some (.val (.int k (max a b)) H) := by
  refine plain2 hS ?_ hx hy rfl rfl ?_ rfl
  ·
   rw [ho]; show (Call.operands c).toList = _; simp [Call.operands, hc, hargs]
  ·
   unfold execOp; simp only [ho]; have hr : evPure K.P (resolve (opdOr S.T H) c o.type) = some { target := .builtin .max c.argTypes o.type (c.args.map fun | .const _ => true | _ => false), args := #[.int k a, .int k b] } := by
    unfold resolve; simp only [hc, hargs]; show some _ = some _; simp [eo_or hS H hx, eo_or hS H hy]; exact ⟨by cases x <;> rfl, by cases y <;> rfl⟩
   rw [evPure_bind hr]; show evPure K.P ((Builtin.max_ c.argTypes o.type #[.int k a, .int k b]) >>= fun v => pure (Next.value v)) = _; have : evPure K.P (Builtin.max_ c.argTypes o.type #[.int k a, .int k b]) = some (.int k (max a b)) := by
    show some (Value.int k (if b > a then b else a)) = _; congr 2
    split <;> omega
   rw [evPure_bind this]; rfl
 unfold evBuiltin; rw [eos_opds hS H (vs := [.int k a, .int k b]) (by rw [hcs]; simp only [eos, hx, hy])]; exact this
def byteV (b : UInt8) : Value := .int .u8 b.toNat
theorem bytesOf_map : ∀ (bs : List UInt8), bytesOfCells (bs.map byteV) = some bs := by
 intro bs; induction bs with
 | nil => rfl
 | cons b bs ih =>
  show (bif Nat.blt b.toNat 256 then (match bytesOfCells (bs.map byteV) with | some r => some (UInt8.ofNat b.toNat :: r) | none => none) else none) = _
  rw [ih, show Nat.blt b.toNat 256 = true from by have := b.toNat_lt; simpa [Nat.blt, Nat.succ_le_iff] using this]; simp
theorem Rd.str {g0 : Nat} {s : List UInt8} : Rd g0 B J m 1 (.string ⟨⟨s⟩⟩) s.length (s.map byteV) := by
 intro H hI; refine ⟨rfl, ?_⟩; show (match takeN s.length s with | some l => some (l.map fun b : UInt8 => Value.int .u8 b.toNat) | none => none) = _
 rw [takeN_ok (Nat.le_refl _), List.take_length]; rfl
theorem v_sliceData {c : Call} {a : Addr} {len cap : Nat} (ho : o.op = .call c) (hc : c.callee = .builtin .unsafeSliceData) (ha : eos l c.args.toList = some [.slice (some a) len cap]) (h0 : 0 < len) (h1 : 0 < cap) : Val K B o n ds l m J (.pointer (some a)) := by
 intro call yld S H hS hI; rw [evBuiltin_ev ho hc]; unfold evBuiltin; rw [eos_opds hS H ha]; show (bif Nat.beq cap openCap && Nat.beq len 0 then none else bif Nat.beq cap 0 then none else some (OpRes.val (.pointer (some a)) H)) = _; have e1 : Nat.beq len 0 = false := by cases q : Nat.beq len 0; rfl; exact absurd (Nat.eq_of_beq_eq_true q) (by omega)
 have e2 : Nat.beq cap 0 = false := by cases q : Nat.beq cap 0; rfl; exact absurd (Nat.eq_of_beq_eq_true q) (by omega)
 rw [e1, e2, Bool.and_false]; rfl
theorem x_unsafeStr {c : Call} {pt t2 u : TypeId} {a z : Nat} {rest : List Nat} {bs : List UInt8} {m0 : Mm} {k : Int} (ho : o.op = .call c) (hc : c.callee = .builtin .unsafeString) (hd : o.dst = some d) (hn : Nat.blt d n = true) (ha : eos l c.args.toList = some [.pointer (some ⟨a, 0, none⟩), .int .i64 k]) (hts : c.argTypes.toList = [pt, t2]) (hpt : K.P.underlying pt = some (.pointer u)) (hcell : K.P.cellsOf u = 1) (hm : m.Perm ((a, .opn (bs.map byteV) u rest z) :: m0)) (hk : k = bs.length) (h0 : 0 < bs.length) (h1 : bs.length ≤ 1000000)
  (h : Ψ ⟨n, ds, (d, .string ⟨⟨bs⟩⟩) :: l⟩ ((a, .opn (bs.map byteV) u [] (Nat.max z bs.length)) :: m0) J) : ExecA K B o ⟨n, ds, l⟩ m J Ψ := by
 refine ExecA.valM hd hn fun S H hS hI => ?_; have hI := hI.perm hm; obtain ⟨f, H1, H2, e1, e2, e3, e4⟩ := hI.kill (bs.map byteV) (Nat.max z bs.length); obtain ⟨k1, k2, k3, k4⟩ := hI.own _ _ (.head _); refine ⟨_, H2, _, J, fun call yld => ?_, e4, h⟩; rw [evBuiltin_ev ho hc]; unfold evBuiltin; rw [eos_opds hS H ha, hts]; show vhRes (evUnsafeString K.P H pt (.pointer (some ⟨a, 0, none⟩)) (.int .i64 k)) = _; obtain ⟨j, hj⟩ : ∃ j, bs.length = j + 1 := ⟨bs.length - 1, by omega⟩; rw [hk, hj, show ((j + 1 : Nat) : Int) = Int.ofNat (j + 1) from rfl]; have ht : takeN (j + 1) (bs.map byteV) = some (bs.map byteV) := by rw [takeN_ok (by rw [List.length_map]; omega), List.take_of_length_le (by rw [List.length_map]; omega)]
 rw [hj] at e2; unfold evUnsafeString; simp only [hpt, e1, Nat.beq_refl, hcell, show Nat.ble (j + 1) 1000000 = true from Nat.ble_eq_true_of_le (by omega), notGlo hI k4, Bool.not_false, Bool.and_self, Bool.not_true, cond_false, ht, bytesOf_map, e2, cond_true, e3]; rfl
theorem x_accPZ {c : Call} {t tx e : TypeId} {sz k j : Nat} {zs cells new : List Value} {v x : Value} {mo m0 : Mm} {dx : TypeDesc} (ho : o.op = .call c) (hc : c.callee = .builtin .append) (hd : o.dst = some d) (hn : Nat.blt d n = true) (ha : eos l c.args.toList = some [v, x]) (hts : c.argTypes.toList = [t, tx]) (ht : slT K.P t = some (e, sz, zs)) (htx : K.P.underlying tx = some dx) (hni : ∀ i, dx ≠ .int i)
  (hv : Acc e sz v k cells mo) (hm : m.Perm (mo ++ m0)) (hx : Rd K.g0 B J m sz x j new) (hnl : new.length = j * sz) (hne : new.all oneCell = true) (hl : k + j ≤ 1000000)
  (h : ∀ w mo', Acc e sz w (k + j) (cells ++ new) mo' → (z0 mo → z0 mo') ∧ (nR mo → nR mo') → Ψ ⟨n, ds, (d, w) :: l⟩ (mo' ++ m0) J) : ExecA K B o ⟨n, ds, l⟩ m J Ψ := fun S H hS hI =>
 x_accZ ho hc hd hn ha hts ht htx hni hv rfl (hx.perm hm) hnl hne hl h S H hS (hI.perm hm)
theorem splice_map {α : Type} {f : α → Value} {L : List α} {i : Nat} {x : α} (h : i < L.length) : splice i (L.map f) [f x] = some ((L.set i x).map f) := by
 rw [splice_ok _ _ _ (by rw [List.length_map, List.length_singleton]; omega)]; congr 1
 rw [List.map_set, List.set_eq_take_append_cons_drop, if_pos (by rw [List.length_map]; exact h)]; simp
theorem splice_ints {L : List Int} {off : Nat} {x : Int} (i : Nat) (h : i < L.length) (ho : off = i := by omega) : splice off (L.map (Value.int .i64)) [.int .i64 x] = some ((L.set i x).map (Value.int .i64)) := by subst ho; exact splice_map (f := Value.int .i64) h
theorem nth_ints {L : List Int} {off : Nat} {x : Int} (i : Nat) (h : L[i]? = some x) (ho : off = i := by omega) : nth (L.map (Value.int .i64)) off = some (.int .i64 x) := by subst ho; rw [nth_eq, List.getElem?_map, h]; rfl
theorem zero_one {v : Value} {k : Nat} : zeroCellsL [v] k = List.replicate k v := by
 show zeroOne v k = _; induction k with
 | zero => rfl
 | succ k ih => show v :: zeroOne v k = _; rw [ih]; rfl
theorem zero_ints {k : Nat} : zeroCellsL [.int .i64 0] k = (List.replicate k (0 : Int)).map (Value.int .i64) := by rw [zero_one, List.map_replicate]
end
section
variable {K : Kx} {B : Bs} {ops : List Oper} {plan : List DStep} {F : List (FuncId × List Value)} {E : En} {m m' : Mm} {J : Jm} {o : Oper} {Φ : En → Mm → Jm → Prop}
variable {n : Nat} {ds : Dx} {l : List (Nat × Value)} {d i : Nat}
theorem WD.makeSlice {t e : TypeId} {x y : Operand} {sz : Nat} {zs : List Value} {p q : Int} {ki kj : IntKind} (hi : nth ops i = some o) (hg : o.guard = none) (ho : o.op = .makeSlice t x y) (hd : o.dst = some d) (hn : Nat.blt d n = true) (hx : eo l x = some (.int ki p)) (hy : eo l y = some (.int kj q)) (ht : slT K.P t = some (e, sz, zs)) (h0 : 0 ≤ p) (h1 : p ≤ q) (h2 : q ≤ 1000000)
  (h : ∀ a, WD K B ops plan F ⟨n, ds, (d, .slice (some ⟨a, 0, none⟩) p.toNat q.toNat) :: l⟩ ((a, .row (zeroCellsL zs q.toNat) e) :: m) J Φ) : WD K B ops (.alc i :: plan) F ⟨n, ds, l⟩ m J Φ := by
 obtain ⟨hu, hsz, by_, z, hby, hz, b1, rfl, b2, b3, b4⟩ := slT_eq ht; refine WD.alc (b := .row (zeroCellsL z.cells.toList q.toNat) e false 0 0 false) (p := .row (zeroCellsL z.cells.toList q.toNat) e) (kv := .slc p.toNat q.toNat) hi hg hd hn (fun S hS => ?_) (fun H a q => q) (fun c e r z q => by cases q) h; rw [ho]; simp only [allocOf]; rw [opdT_eo hS hx, opdT_eo hS hy]; simp only [allocMake, hu, hz, hby, hsz]; rw [intUp_ok (by omega) (by omega), intUp_ok (by omega) (by omega)]; simp only [b1, b3, b4, Bool.and_true]; rw [show Nat.beq z.cells.toList.length sz = true by rw [b2]; exact Nat.beq_refl _, show Nat.ble p.toNat q.toNat = true from Nat.ble_eq_true_of_le (by omega)]; simp only [Bool.and_true, cond_true]
theorem WD.pub {a : Nat} {b : PB} {x : List Value × TypeId} (hx : b.rowOf = some x) (h : J.le (J.add a x) → (J.add a x) a = some x → WD K B ops plan F E m (J.add a x) Φ) : WD K B ops plan F E ((a, b) :: m) J Φ := by
 intro S H hS hI; obtain ⟨k1, k2⟩ := hI.publish hx; exact h k2 (Jm.add_at _ _ _) S H hS k1
theorem WD.permM (hp : m.Perm m') (h : WD K B ops plan F E m' J Φ) : WD K B ops plan F E m J Φ := fun S H hS hI => h S H hS (hI.perm hp)
end
theorem flat_pick {α : Type} : ∀ {l : List (List α)} {j : Nat} {m : List α}, l[j]? = some m → l.flatten.Perm (m ++ (l.eraseIdx j).flatten) := by
 intro l; induction l with
 | nil => intro j m h; cases h
 | cons x r ih =>
  intro j m h; cases j with
  | zero => simp at h; subst h; exact .refl _
  | succ j =>
   have := ih (j := j) (m := m) (by simpa using h); show (x ++ r.flatten).Perm (m ++ (x ++ (r.eraseIdx j).flatten)); refine (this.append_left x).trans ?_; rw [← List.append_assoc, ← List.append_assoc]; exact (List.perm_append_comm).append_right _
theorem flat_set {α : Type} {l : List (List α)} {j : Nat} {m : List α} (h : j < l.length) : (l.set j m).flatten.Perm (m ++ (l.eraseIdx j).flatten) := by
 have h1 : (l.set j m)[j]? = some m := by rw [List.getElem?_set]; simp [h]
 have h2 := flat_pick h1; rwa [List.eraseIdx_set_eq] at h2
structure Accs (e : TypeId) (ss : List (List Int)) (vs : List Value) (mos : List Mm) : Prop where
 lv : vs.length = ss.length
 lm : mos.length = ss.length
 at_ : ∀ (j : Nat) (s : List Int) (v : Value) (m : Mm), ss[j]? = some s → vs[j]? = some v → mos[j]? = some m → Acc e 1 v s.length (s.map (Value.int .i64)) m
theorem Accs.init {e : TypeId} (n : Nat) : Accs e (List.replicate n []) (List.replicate n (.slice none 0 0)) (List.replicate n []) := by
 refine ⟨by simp, by simp, fun j s v m h1 h2 h3 => ?_⟩; rw [List.getElem?_replicate] at h1 h2 h3; split at h1
 ·
  rename_i q; rw [if_pos q] at h2 h3; injection h1 with h1; injection h2 with h2; injection h3 with h3
  subst h1; subst h2; subst h3; exact .nil
 ·
  cases h1
theorem flat_nil {α : Type} {n : Nat} : (List.replicate n ([] : List α)).flatten = [] := by simp
theorem Accs.get {e : TypeId} {ss : List (List Int)} {vs : List Value} {mos : List Mm} (h : Accs e ss vs mos) {j : Nat} {s : List Int} (hs : ss[j]? = some s) : ∃ v m, vs[j]? = some v ∧ mos[j]? = some m ∧ Acc e 1 v s.length (s.map (Value.int .i64)) m := by
 have hj : j < ss.length := (List.getElem?_eq_some_iff.1 hs).1; have h1 := List.getElem?_eq_getElem (l := vs) (i := j) (by rw [h.lv]; exact hj); have h2 := List.getElem?_eq_getElem (l := mos) (i := j) (by rw [h.lm]; exact hj); exact ⟨_, _, h1, h2, h.at_ j s _ _ hs h1 h2⟩
theorem Accs.set {e : TypeId} {ss : List (List Int)} {vs : List Value} {mos : List Mm} (h : Accs e ss vs mos) {j : Nat} {s : List Int} {v : Value} {m : Mm} (ha : Acc e 1 v s.length (s.map (Value.int .i64)) m) : Accs e (ss.set j s) (vs.set j v) (mos.set j m) := by
 refine ⟨by simp [h.lv], by simp [h.lm], fun i s' v' m' h1 h2 h3 => ?_⟩; rw [List.getElem?_set] at h1 h2 h3; split at h1
 ·
  rename_i q; subst q; rw [if_pos rfl] at h2 h3; split at h1
  ·
   rename_i q2; rw [if_pos (by rw [h.lv]; exact q2)] at h2; rw [if_pos (by rw [h.lm]; exact q2)] at h3; injection h1 with h1; injection h2 with h2; injection h3 with h3
   subst h1; subst h2; subst h3; exact ha
  ·
   cases h1
 ·
  rename_i q; rw [if_neg q] at h2 h3; exact h.at_ i s' v' m' h1 h2 h3
theorem acc_pick3 {α : Type} {x y z : α} {fl mo E R : List α} (h : fl.Perm (mo ++ E)) : (x :: y :: z :: (fl ++ R)).Perm (mo ++ x :: y :: z :: (E ++ R)) := by
 refine (((((h.append_right R).cons z).cons y).cons x)).trans ?_; rw [List.append_assoc]; exact perm_mid3
section
variable {K : Kx} {B : Bs} {E : En} {m m0 : Mm} {J : Jm} {Θ : Exit → En → Mm → Jm → Prop}
theorem WC.pubAccs {c : Code} {e : TypeId} : ∀ {mos : List Mm} {ss : List (List Int)} {vs : List Value} {m m0 : Mm} {J : Jm}, Accs e ss vs mos → m.Perm (mos.flatten ++ m0) →
  (∀ J', J.le J' → (∀ (j : Nat) (s : List Int) (v : Value), ss[j]? = some s → vs[j]? = some v → SlC J' e 1 v s.length (s.map (Value.int .i64))) → WC K B c E m0 J' Θ) → WC K B c E m J Θ := by
 intro mos; induction mos with
 | nil =>
  intro ss vs m m0 J h hm hk; refine WC.permM hm.symm (hk J (Jm.le.refl _) fun j s v hs hv => ?_); have : ss = [] := List.length_eq_zero_iff.1 h.lm.symm; subst this; cases hs
 | cons mo r ih =>
  intro ss vs m m0 J h hm hk; cases ss with
  | nil => have := h.lm; cases this
  | cons s ss =>
   cases vs with
   | nil => have := h.lv; cases this
   | cons v vs =>
    have ha := h.at_ 0 s v mo rfl rfl rfl; have hr : Accs e ss vs r := ⟨by simpa using h.lv, by simpa using h.lm, fun j s' v' m' h1 h2 h3 => h.at_ (j + 1) s' v' m' (by simpa using h1) (by simpa using h2) (by simpa using h3)⟩; refine ha.pubP (m0 := r.flatten ++ m0) (by rw [← List.append_assoc]; exact hm) fun J1 hle1 hsl => ?_; refine ih hr (.refl _) fun J2 hle2 hall => ?_; refine hk J2 (hle1.trans hle2) fun j s' v' h1 h2 => ?_; cases j with
    | zero => simp at h1 h2; subst h1; subst h2; exact hsl.mono hle2
    | succ j => exact hall j s' v' (by simpa using h1) (by simpa using h2)
end
def LsR (J : Jm) (s : List Int) (cs : List Value) : Prop := ∃ b c, cs = [.slice b s.length c] ∧ IntsR J (.slice b s.length c) s
theorem LsR.mono {J J' : Jm} (hle : J.le J') {s : List Int} {cs : List Value} (h : LsR J s cs) : LsR J' s cs := by
 obtain ⟨b, c, h1, h2⟩ := h; exact ⟨b, c, h1, h2.mono hle⟩
theorem elems_lists {J : Jm} {e et : TypeId} {a : Nat} {ss : List (List Int)} {vs : List Value} (h : J a = some (vs, e)) (hl : vs.length = ss.length) (hc : ss.length < openCap) (hall : ∀ (j : Nat) (s : List Int) (v : Value), ss[j]? = some s → vs[j]? = some v → SlC J et 1 v s.length (s.map (Value.int .i64))) : Elems J e 1 (LsR J) (.slice (some ⟨a, 0, none⟩) ss.length ss.length) ss := by
 refine ⟨vs, .row h (by rw [List.drop_zero, List.take_of_length_le (by omega)]) (by omega) (fun _ => ⟨Nat.le_refl _, hc⟩) (fun _ => rfl), fun i s hs => ?_⟩; have hi : i < vs.length := by rw [hl]; exact (List.getElem?_eq_some_iff.1 hs).1
 have hv := List.getElem?_eq_getElem hi; have h1 := hall i s _ hs hv; obtain ⟨b, c, h2, _⟩ := h1.inv; rw [Nat.mul_one, List.drop_eq_getElem_cons hi, List.take_succ_cons, List.take_zero, h2]; rw [h2] at h1; exact ⟨b, c, rfl, et, h1⟩
noncomputable def int2T (P : Program) (t : TypeId) : Bool := match P.underlying t with
 | some (.array 2 e) => (match P.underlying e with | some (.int .i64) => true | _ => false) && (match sizeT P e with | some 1 => true | _ => false) && !P.eqGuardType P.depth t
 | _ => false
theorem evPure_sizeOf {P : Program} {t : TypeId} {k : Nat} (h : sizeT P t = some k) : evPure P (sizeOf t) = some k := by
 unfold sizeT at h; split at h
 ·
  rename_i i hi; injection h with h; subst h
  unfold sizeOf; rw [evPure_bind (a := i)]
  ·
   rfl
  ·
   unfold typeInfo; rw [evPure_bind (a := P) rfl, hi]; rfl
 ·
  cases h
theorem step_int2 {P : Program} {e : TypeId} {n i : Nat} {xs ys : Array Value} {a c : Int} (he : P.underlying e = some (.int .i64)) (hx : xs[i]? = some (.int .i64 a)) (hy : ys[i]? = some (.int .i64 c)) : evPure P (do
      let __do_lift ← part e xs i
      let __do_lift_1 ← part e ys i
      let __do_lift ← Op.equalIn (n + 1) e __do_lift __do_lift_1
      if (!__do_lift) = true then pure (ForInStep.done ((some false, ()) : Option Bool × Unit)) else pure (ForInStep.yield (none, ()))) = some (if a = c then ForInStep.yield (none, ()) else ForInStep.done (some false, ())) := by
  rw [evPure_bind (part_int he hx), evPure_bind (part_int he hy), evPure_bind (eq_int he)]; by_cases hab : a = c
  · simp [hab]; rfl
  · simp [hab]; rfl
theorem eq_int2 {P : Program} {t : TypeId} {n : Nat} {a b c d : Int} (ht : int2T P t = true) : evPure P (Op.equalIn (n + 1 + 1) t (.agg #[.int .i64 a, .int .i64 b]) (.agg #[.int .i64 c, .int .i64 d])) = some (decide (a = c ∧ b = d)) ∧ P.eqGuardType P.depth t = false := by
 unfold int2T at ht; split at ht
 ·
  rename_i e hu; simp only [Bool.and_eq_true, Bool.not_eq_true'] at ht; obtain ⟨⟨h1, h2⟩, h3⟩ := ht; have he : P.underlying e = some (.int .i64) := by split at h1; assumption; cases h1
  have hs : sizeT P e = some 1 := by split at h2; assumption; cases h2
  refine ⟨?_, h3⟩; unfold Op.equalIn; rw [evPure_bind (evPure_under hu)]; simp only
  rw [evPure_bind (evPure_sizeOf hs)]; simp only [Std.Legacy.Range.forIn_eq_forIn_range', Std.Legacy.Range.size]
  show evPure P (do
   let r ← forIn [0, 1] ((none, ()) : Option Bool × Unit) _
   _) = _
  rw [List.forIn_cons]; by_cases h1 : a = c
  ·
   have q1 := step_int2 (n := n) (xs := #[.int .i64 a, .int .i64 b]) (ys := #[.int .i64 c, .int .i64 d]) (i := 0) he rfl rfl; rw [if_pos h1] at q1; rw [evPure_bind (a := ((if b = d then none else some false, ()) : Option Bool × Unit))]
   ·
    by_cases h2 : b = d
    ·
     rw [if_pos h2]; simp [h1, h2]; rfl
    ·
     rw [if_neg h2]; simp [h2]; rfl
   ·
    rw [evPure_bind q1]; simp only
    rw [List.forIn_cons]; have q2 := step_int2 (n := n) (xs := #[.int .i64 a, .int .i64 b]) (ys := #[.int .i64 c, .int .i64 d]) (i := 1) he rfl rfl; rw [evPure_bind q2]; by_cases h2 : b = d
    ·
     simp [h2]; rfl
    ·
     simp [h2]; rfl
  ·
   have q1 := step_int2 (n := n) (xs := #[.int .i64 a, .int .i64 b]) (ys := #[.int .i64 c, .int .i64 d]) (i := 0) he rfl rfl; rw [if_neg h1] at q1; rw [evPure_bind (a := ((some false, ()) : Option Bool × Unit))]
   ·
    simp [h1]; rfl
   ·
    rw [evPure_bind q1]; rfl
 ·
  cases ht
section
variable {K : Kx} {B : Bs} {o : Oper} {n : Nat} {ds : Dx} {l : List (Nat × Value)} {m m' : Mm} {J : Jm} {Ψ : En → Mm → Jm → Prop} {d : Nat}
theorem v_int2 {op : BinOp} {t ty : TypeId} {x y : Operand} {a b c e : Int} {r : Bool} (ho : o.op = .binOp op t x y ty) (hop : op = .eql ∧ r = decide (a = c ∧ b = e) ∨ op = .neq ∧ r = decide (¬ (a = c ∧ b = e))) (hx : eo l x = some (.agg #[.int .i64 a, .int .i64 b])) (hy : eo l y = some (.agg #[.int .i64 c, .int .i64 e])) (ht : int2T K.P t = true) : Val K B o n ds l m J (.bool r) := by
 obtain ⟨h1, h2⟩ := eq_int2 (n := 9998) (a := a) (b := b) (c := c) (d := e) ht; intro call yld S H hS hI; have hpl : ∀ p q : Int, plain (.agg #[.int .i64 p, .int .i64 q]) = true := fun p q => rfl; unfold evOp evOpX; simp only [ho]; show opBin2 K.P _ op t (opd S.T H x) (opd S.T H y) = _; rw [eo_opd hS H hx, eo_opd hS H hy]; show orElse (evPlain K.P S.T H o) _ = _; have : evPlain K.P S.T H o = some (.val (.bool r) H) := by
  refine plain2 hS (by rw [ho]; rfl) hx hy (hpl _ _) (hpl _ _) ?_ rfl; unfold execOp; simp only [ho]; rw [eo_or hS H hx, eo_or hS H hy]; rw [evPure_bind (a := .bool r)]
  ·
   rfl
  rcases hop with ⟨rfl, rfl⟩ | ⟨rfl, rfl⟩
  ·
   rw [evPure_bind (a := ())]
   ·
    have hb : binOp .eql t (.agg #[.int .i64 a, .int .i64 b]) (.agg #[.int .i64 c, .int .i64 e]) = (do pure (.bool (← Op.equal t (.agg #[.int .i64 a, .int .i64 b]) (.agg #[.int .i64 c, .int .i64 e])))) := by simp [binOp]
    rw [hb, evPure_bind (s := Op.equal t _ _) h1]; rfl
   ·
    unfold eqGuard; simp only [Bool.not_true, Bool.false_eq_true, if_false]; rw [evPure_bind (a := K.P) rfl, evPure_bind (a := K.P) rfl, h2]; rfl
  ·
   rw [evPure_bind (a := ())]
   ·
    have hb : binOp .neq t (.agg #[.int .i64 a, .int .i64 b]) (.agg #[.int .i64 c, .int .i64 e]) = (do pure (.bool (!(← Op.equal t (.agg #[.int .i64 a, .int .i64 b]) (.agg #[.int .i64 c, .int .i64 e]))))) := by simp [binOp]
    rw [hb, evPure_bind (s := Op.equal t _ _) h1]; show some (Value.bool (!decide (a = c ∧ b = e))) = _; rw [show (!decide (a = c ∧ b = e)) = decide (¬ (a = c ∧ b = e)) by simp]
   ·
    unfold eqGuard; simp only [Bool.not_true, Bool.false_eq_true, if_false]; rw [evPure_bind (a := K.P) rfl, evPure_bind (a := K.P) rfl, h2]; rfl
 rw [this]; rfl
end
def WZ (K : Kx) (B : Bs) (ops : List Oper) (plan : List DStep) (E : En) (m : Mm) (J : Jm) (Φ : En → Mm → Jm → Prop) : Prop :=
 ∀ S H, Sat E S → Inv K.g0 B J m H → ∃ S' H' E' m' J',
  (∀ pk' : CallEv, drawGo K.P (callΩ K.Q pk') (EΩ K.Q noCode pk').yld ops plan S H = some (.ok S' H')) ∧ Sat E' S' ∧ Inv K.g0 B J' m' H' ∧ Φ E' m' J'
section
variable {K : Kx} {B : Bs} {ops : List Oper} {plan : List DStep} {E : En} {m m' : Mm} {J : Jm} {o : Oper} {Φ : En → Mm → Jm → Prop} {Θ : Exit → En → Mm → Jm → Prop}
variable {n : Nat} {ds : Dx} {l : List (Nat × Value)} {d i : Nat}
theorem WZ.nil (h : Φ E m J) : WZ K B ops [] E m J Φ := fun S H hS hI => ⟨S, H, E, m, J, fun _ => rfl, hS, hI, h⟩
theorem WZ.val {v : Value} (hi : nth ops i = some o) (hg : o.guard = none) (hd : o.dst = some d) (hn : Nat.blt d n = true) (hv : Val K B o n ds l m J v) (h : WZ K B ops plan ⟨n, ds, (d, v) :: l⟩ m J Φ) : WZ K B ops (.val i :: plan) ⟨n, ds, l⟩ m J Φ := by
 intro S H hS hI; obtain ⟨S1, s1, s2⟩ := hS.put (dst := some d) hn v; obtain ⟨S', H', E', m', J', h1, h2, h3, h4⟩ := h S1 H s2 hI; refine ⟨S', H', E', m', J', fun pk' => ?_, h2, h3, h4⟩; show onOp ops i (valStep K.P _ _ ops S H (drawGo K.P _ _ ops plan)) = _; unfold onOp; rw [hi]; show valStep K.P _ _ ops S H (drawGo K.P _ _ ops plan) o = _; unfold valStep guardB; rw [hg]; show valRes S H o.dst (drawGo K.P _ _ ops plan) (evOp K.P _ _ S H o) = _; rw [hv _ _ S H hS hI, hd]; show (bif Nat.beq H.nx H.nx then stepPut (drawGo K.P _ _ ops plan) H (S.put (some d) v) else none) = _; rw [Nat.beq_refl, cond_true, s1]; exact h1 pk'
theorem WZ.chk {is : List Nat} (hc : ChkAll K B ops n ds l m J is) (h : WZ K B ops plan ⟨n, ds, l⟩ m J Φ) : WZ K B ops (.chk is :: plan) ⟨n, ds, l⟩ m J Φ := by
 intro S H hS hI; obtain ⟨S', H', E', m', J', h1, h2, h3, h4⟩ := h S H hS hI; refine ⟨S', H', E', m', J', fun pk' => ?_, h2, h3, h4⟩; show chkStep K.P _ _ ops S H (drawGo K.P _ _ ops plan) is = _; unfold chkStep; rw [ChkAll.all hS hI hc, cond_true]; exact h1 pk'
theorem WN.callL {c : Call} {x : Operand} {f : FuncId} {first cap : Array Value} {args as : List Value} {Post : Value → Mm → Jm → Prop}
  (hi : nth ops i = some o) (hg : o.guard = none) (ho : o.op = .call c) (hd : o.dst = some d) (hn : Nat.blt d n = true) (hc : c.callee = .value x) (hx : eo l x = some (.func (.func f) first cap)) (ha : eos l c.args.toList = some args) (has : (first.toList ++ args) ++ cap.toList = as)
  (hF : Fn K f as [] J Post) (h : ∀ v m' J', J.le J' → Post v m' J' → WZ K B ops plan ⟨n, ds, (d, v) :: l⟩ (m' ++ m) J' Φ) : WN K B ops (.chn i :: plan) ⟨n, ds, l⟩ m J Φ := by
 intro S H hS hI; obtain ⟨v, H', J', m', k1, k2, k3⟩ := hF H (hI.enter (mi := []) (mr := m) (.refl _) trivial); obtain ⟨k4, k5⟩ := hI.leave (mi := []) (mr := m) (.refl _) k2; obtain ⟨S1, s1, s2⟩ := hS.put (dst := some d) hn v; obtain ⟨S', H'', E', m'', J'', h1, h2, h3, h4⟩ := h v m' J' k5 k3 S1 H' s2 k4; refine ⟨fun f' args' H1 => callAt f as H (.returned v, H') f' args' H1, fun f' args' H1 r q => ?_, S', H'', E', m'', J'', fun pk' q => ?_, h2, h3, h4⟩
 ·
  simp only at q; unfold callAt at q; split at q
  ·
   rename_i e; rw [e.2.2]; exact Nat.le_refl _
  ·
   cases q
 ·
  have hcall : pk' f as H = some (.returned v, H') := q f as H _ (by simp only; unfold callAt; rw [if_pos ⟨rfl, rfl, rfl⟩]); show onOp ops i (fun o => chnStep (drawGo K.P _ _ ops plan) (one K.P _ _ ops S H o)) = _; unfold onOp; rw [hi]; show chnStep (drawGo K.P _ _ ops plan) (one K.P _ _ ops S H o) = _; unfold one guardB; rw [hg]; show chnStep (drawGo K.P _ _ ops plan) (oneAfter S H o.dst (evOp K.P _ _ S H o)) = _; have he : evOp K.P (callΩ K.Q pk') (EΩ K.Q noCode pk').yld S H o = some (.val v H') := by
   unfold evOp evOpX; simp only [ho]; show opCall K.P _ c = _; unfold opCall; rw [hc]; show evCallee K.P _ _ S.T H c = _; unfold evCallee; rw [eos_opds hS H ha]; simp only [hc]; rw [eo_opd hS H hx]; simp only
   show (match evFn K.P H (.func f) (first.toList ++ args) cap.toList with | some (f, as) => endRes (callΩ K.Q _ f as H) | none => none) = _
   unfold evFn; simp only
   rw [has, callΩ_at k1 hcall]; rfl
  rw [he, hd]; show chnStep (drawGo K.P _ _ ops plan) (regOk H' (S.put (some d) v)) = _; rw [s1]; exact h1 pk'
theorem WC.drawN {id : Nat} {a : Array Oper} (hl : litOf a.toList = none) (hok : drawOk a.toList = true) (hp : planOf a.toList = plan) (h : WN K B a.toList plan E m J fun E m J => Θ .normal E m J) : WC K B (.region id a true) E m J Θ := by
 intro S H hS hI; obtain ⟨pk, _, S', H', E', m', J', h1, h2, h3, h4⟩ := h S H hS hI; refine ⟨.normal, S', H', E', m', J', CodeR.of_ev K.hP.mix noCode pk ?_, h2, h3, h4⟩; show regExit (evDrawA K.P (EΩ K.Q noCode pk).call (EΩ K.Q noCode pk).yld a.toList S H) = _; rw [EΩ_call]; unfold evDrawA; rw [hl]; show regExit (evDraw K.P (callΩ K.Q pk) (EΩ K.Q noCode pk).yld a.toList S H) = _; unfold evDraw; rw [hok, cond_true, hp, h1 pk (fun _ _ _ _ q => q)]; rfl
end
noncomputable def runeT (P : Program) (s t : TypeId) : Bool := match P.underlying s, P.underlying t with
 | some (.int _), some .string => true
 | _, _ => false
theorem enc_dig {u : Nat} (h : u < 10) : Utf8.encode (48 + (u : Int)) = ⟨⟨[UInt8.ofNat (48 + u)]⟩⟩ := by
 have : u = 0 ∨ u = 1 ∨ u = 2 ∨ u = 3 ∨ u = 4 ∨ u = 5 ∨ u = 6 ∨ u = 7 ∨ u = 8 ∨ u = 9 := by omega
 rcases this with rfl | rfl | rfl | rfl | rfl | rfl | rfl | rfl | rfl | rfl <;> rfl
section
variable {K : Kx} {B : Bs} {o : Oper} {n : Nat} {ds : Dx} {l : List (Nat × Value)} {m m' : Mm} {J : Jm} {Ψ : En → Mm → Jm → Prop} {d : Nat}
theorem v_runeStr {s t : TypeId} {x : Operand} {k : IntKind} {a : Int} (ho : o.op = .convert s t x) (hx : eo l x = some (.int k a)) (ht : runeT K.P s t = true) (h0 : 48 ≤ a) (h1 : a ≤ 57) : Val K B o n ds l m J (.string ⟨⟨[UInt8.ofNat a.toNat]⟩⟩) := by
 obtain ⟨u, rfl, hu⟩ : ∃ u : Nat, a = 48 + (u : Int) ∧ u < 10 := ⟨(a - 48).toNat, by omega, by omega⟩; rw [show (48 + (u : Int)).toNat = 48 + u by omega]; intro call yld S H hS hI; unfold evOp evOpX; simp only [ho]; show opConvert2 K.P _ s t (opd S.T H x) = _; rw [eo_opd hS H hx]; unfold opConvert2; simp only
 unfold runeT at ht; split at ht
 ·
  rename_i k' h1 h2; simp only [h1, h2]; have : evPlain K.P S.T H o = some (.val (.string ⟨⟨[UInt8.ofNat (48 + u)]⟩⟩) H) := by
   refine plain1 hS (by rw [ho]; rfl) hx rfl ?_ rfl; unfold execOp; simp only [ho]; rw [eo_or hS H hx]; rw [evPure_bind (a := (.string ⟨⟨[UInt8.ofNat (48 + u)]⟩⟩ : Value))]
   ·
    rfl
   unfold convert; rw [evPure_bind (evPure_under h1), evPure_bind (evPure_under h2)]; simp only
   show some (Value.string (Utf8.encode (48 + (u : Int)))) = _; rw [enc_dig hu]
  exact this
 ·
  cases ht
theorem v_neg {t : TypeId} {x : Operand} {k : IntKind} {a b : Int} (ho : o.op = .unOp .neg t x) (hx : eo l x = some (.int k a)) (hw : k.wrap (-a) = b) : Val K B o n ds l m J (.int k b) := by
 intro call yld S H hS hI; unfold evOp evOpX; simp only [ho]; show evPlain K.P S.T H o = _; refine plain1 hS (by rw [ho]; rfl) hx rfl ?_ rfl; unfold execOp; simp only [ho]; rw [eo_or hS H hx, ← hw]; show some (Next.value (.int k (k.wrap (0 - a)))) = _; rw [Int.zero_sub]
theorem wrap_i32 {a : Int} (h0 : -2147483648 ≤ a) (h1 : a ≤ 2147483647) : IntKind.i32.wrap a = a := by
 unfold IntKind.wrap; simp [IntKind.bits, IntKind.signed]; omega
end
section
variable {K : Kx} {B : Bs} {ops : List Oper} {plan : List DStep} {F : List (FuncId × List Value)} {E : En} {m : Mm} {J : Jm} {Φ : En → Mm → Jm → Prop}
theorem WD.ne2 {a b : Nat} {p q : PB} {m0 : Mm} (hp : m.Perm ((a, p) :: (b, q) :: m0)) (h : a ≠ b → WD K B ops plan F E m J Φ) : WD K B ops plan F E m J Φ := fun S H hS hI => h (fun e => by
 have hn := (hI.perm hp).nd; rw [show ids ((a, p) :: (b, q) :: m0) = a :: (p.rest ++ (b :: (q.rest ++ ids m0))) from rfl, List.nodup_cons] at hn; exact hn.1 (List.mem_append_right _ (by rw [e]; exact .head _))) S H hS hI
end
theorem wrap_range (x : Int) : -9223372036854775808 ≤ IntKind.i64.wrap x ∧ IntKind.i64.wrap x ≤ 9223372036854775807 := by
 unfold IntKind.wrap IntKind.signed IntKind.bits; simp only [Bool.true_and, decide_eq_true_eq]; split <;> omega
end Go.Opn
namespace Go.Opn
open Go Go.Cre Go.RowKit
section
variable {H : Type} {P : Program} {enc : TypeId × Value → H} {W : World} {fuel : Nat} {t e : TypeId} {cs : List Value} {x : DataW H × List MemPlace}
theorem elems_of {α : Type} {sz : Nat} {R : α → List Value → Prop} (ht : P.underlying t = some (.slice e)) (hsz : P.cellsOf e = sz) (h0 : 0 < sz) (h : trodA enc P W fuel t cs = some x)
  (hr : ∀ m cs' y, trodA enc P W m e cs' = some y → ∃ a : α, R a (cs'.map (absV P W))) :
  ∃ (xs : List α) (b : Option Addr) (c : Nat), cs.map (absV P W) = [.slice b xs.length c] ∧ Elems (jA P W) e sz R (.slice b xs.length c) xs ∧ xs.length ≤ maxLen := by
 obtain ⟨b, n, c, rows, el, ds, m, h1, _, h3, h4, h5, h6, h7, h8⟩ := slice_of ht hsz h0 h; have hln : ∀ i : Fin n, ∃ a : α, R a (((rows.map (absV P W)).drop (i.1 * sz)).take sz) := fun i => by
  obtain ⟨q1, q2, y, q3, q4⟩ := h6 i.1 _ (List.getElem?_eq_getElem (show i.1 < el.length by have := i.2; omega)); obtain ⟨a, r⟩ := hr _ _ _ q4; refine ⟨a, ?_⟩; rw [← List.map_drop, ← List.map_take, q2]; exact r
 refine ⟨List.ofFn fun i => Classical.choose (hln i), b, c, by rw [List.length_ofFn]; exact h1, ⟨rows.map (absV P W), by rw [List.length_ofFn]; exact h3 e, fun i a ha => ?_⟩, by rw [List.length_ofFn]; exact h8⟩; have hi : i < n := by have := (List.getElem?_eq_some_iff.1 ha).1; simpa using this
 rw [List.getElem?_ofFn, dif_pos hi] at ha; injection ha with ha
 rw [← ha]; exact Classical.choose_spec (hln ⟨i, hi⟩)
end
end Go.Opn

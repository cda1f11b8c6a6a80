/- A part of the proof of ResumeSaves. -/
import Derived.Test.YtmeojgcibppcmaaDoorOpnT
import Derived.Test.YtmeojgcibppcmaaDoorProg
import Derived.KernelRfl
import Derived.Test.YtmeojgcibppcmaaDoorOpnW
import Derived.Lib.ItoaMem
import Derived.Lib.ItoaLen
set_option maxRecDepth 100000
namespace Go.Opn
open Go.Cre Go.RowKit Go.Proofs
theorem mix : Tryd.prog.follows .mixedOrders = true := by kernel_rfl
theorem num : numOk Tryd.prog = true := by kernel_rfl
noncomputable abbrev PG : Program := Tryd.prog
noncomputable abbrev kx (Q : Worlds Tryd.prog) (g0 : Nat) : Kx := ⟨Tryd.prog, ftOf Tryd.prog, pf_of mix num, Q, g0⟩
end Go.Opn
set_option linter.unusedVariables false
namespace Go.Opn
open Go.Cre Go.RowKit Go.Proofs
section
variable (Q : Worlds PG) (g0 : Nat)
noncomputable def agL : List (Nat × Option Nat) := [(3, none), (4, none), (22, none), (23, none), (25, some 3), (26, none), (28, some 4), (38, none), (40, some 6), (47, none), (51, some 2), (54, none), (55, none), (73, none), (108, none), (115, none), (117, some 2), (124, none), (127, some 2), (128, some 2)]
theorem agOk : agL.map (fun x => aggSize PG x.1) = agL.map (fun x => some (id x.2)) := by kernel_rfl
noncomputable def szL : List (Nat × Nat) := [(3, 1), (4, 1), (38, 1), (40, 6), (47, 1), (51, 2), (54, 1), (55, 1), (109, 4), (117, 2), (124, 1), (127, 2), (128, 2)]
theorem szOk : szL.map (fun x => sizeT PG x.1) = szL.map (fun x => some (id x.2)) := by kernel_rfl
noncomputable def foL : List (Nat × Nat) := [(2500, 0), (2501, 1), (2502, 2), (2800, 0), (2801, 1), (2802, 2), (2803, 3), (4000, 0), (4001, 1), (4002, 2), (4003, 3), (4004, 4), (4005, 5), (5100, 0), (5101, 1), (5700, 0), (5701, 1), (5900, 0), (9600, 0), (9601, 3), (9602, 4), (9603, 5), (11400, 0), (11402, 2), (11700, 0), (11701, 1)]
theorem foOk : foL.map (fun x => fieldOff PG (x.1 / 100) (x.1 % 100)) = foL.map (fun x => some (id x.2)) := by kernel_rfl
noncomputable def ftL : List (Nat × (Nat × Nat)) := []
theorem ftOk : ftL.map (fun x => fieldT PG (x.1 / 100) (x.1 % 100)) = ftL.map (fun x => some (id x.2)) := by kernel_rfl
noncomputable def arL : List (Nat × (Nat × Nat × Nat)) := [(109, 4, 108, 1), (128, 2, 3, 1)]
theorem arOk : arL.map (fun x => arrT PG x.1) = arL.map (fun x => some (id x.2)) := by kernel_rfl
noncomputable def esL : List (Nat × Nat) := [(22, 6), (23, 2), (26, 1), (38, 1), (124, 2), (142, 4)]
theorem esOk : esL.map (fun x => elemSz PG x.1) = esL.map (fun x => some (id x.2)) := by kernel_rfl
noncomputable def cvL : List (Nat × IntKind) := [(30021, .i32), (50003, .i64)]
theorem cvOk : cvL.map (fun x => isInt PG (x.1 / 10000) (x.1 % 10000)) = cvL.map (fun x => some (id x.2)) := by kernel_rfl
noncomputable def buL : List (Nat × (Sum (List (Nat × Nat)) Nat × List Value)) := [(51, .inl [(0, 1), (1, 1)], [(.int .i64 (0)), (.int .i64 (0))]), (96, .inl [(0, 3), (3, 1), (4, 1), (5, 1)], [(.int .i64 (0)), (.slice none 0 0), (.slice none 0 0), (.slice none 0 0), (.slice none 0 0), (.slice none 0 0)]), (109, .inr 1, [.nilFunc, .nilFunc, .nilFunc, .nilFunc]), (114, .inl [(0, 1), (1, 1), (2, 1), (3, 1)], [(.int .i64 (0)), (.int .i64 (0)), (.int .i64 (0)), (.int .i64 (0))]), (117, .inl [(0, 1), (1, 1)], [(.pointer none), .nilFunc]), (127, .inl [(0, 1), (1, 1)], [(.int .i64 (0)), (.int .i64 (0))]), (128, .inr 1, [(.int .i64 (0)), (.int .i64 (0))])]
theorem buOk : buL.map (fun x => buildT PG x.1) = buL.map (fun x => some (id x.2)) := by kernel_rfl
noncomputable def isL : List Nat := [22, 23, 26, 38, 55, 104, 124, 142]
theorem isOk : isL.all (fun t => isSlice PG t) = true := by kernel_rfl
noncomputable def itL : List Nat := [9]
theorem itOk : itL.all (fun t => isStr PG t) = true := by kernel_rfl
noncomputable def niL : List Nat := [9]
theorem niOk : niL.all (fun t => notIface PG t) = true := by kernel_rfl
theorem ze3 : zeroT (kx Q g0).P 3 = some (.int .i64 (0)) := by kernel_rfl
theorem ze4 : zeroT (kx Q g0).P 4 = some (.bool false) := by kernel_rfl
theorem ze40 : zeroT (kx Q g0).P 40 = some (.agg #[(.int .i64 (0)), (.int .i64 (0)), (.int .i64 (0)), (.slice none 0 0), (.slice none 0 0), (.slice none 0 0)]) := by kernel_rfl
theorem ze47 : zeroT (kx Q g0).P 47 = some (.int .i64 (0)) := by kernel_rfl
theorem ze51 : zeroT (kx Q g0).P 51 = some (.agg #[(.int .i64 (0)), (.int .i64 (0))]) := by kernel_rfl
theorem ze59 : zeroT (kx Q g0).P 59 = some (.agg #[(.pointer none), (.slice none 0 0)]) := by kernel_rfl
theorem ze109 : zeroT (kx Q g0).P 109 = some (.agg #[.nilFunc, .nilFunc, .nilFunc, .nilFunc]) := by kernel_rfl
theorem ze117 : zeroT (kx Q g0).P 117 = some (.agg #[(.pointer none), .nilFunc]) := by kernel_rfl
theorem ze124 : zeroT (kx Q g0).P 124 = some (.slice none 0 0) := by kernel_rfl
theorem ze127 : zeroT (kx Q g0).P 127 = some (.agg #[(.int .i64 (0)), (.int .i64 (0))]) := by kernel_rfl
theorem sb22 : slT (kx Q g0).P 22 = some (40, 6, [(.int .i64 (0)), (.int .i64 (0)), (.int .i64 (0)), (.slice none 0 0), (.slice none 0 0), (.slice none 0 0)]) := by kernel_rfl
theorem sb23 : slT (kx Q g0).P 23 = some (51, 2, [(.int .i64 (0)), (.int .i64 (0))]) := by kernel_rfl
theorem sb26 : slT (kx Q g0).P 26 = some (38, 1, [(.slice none 0 0)]) := by kernel_rfl
theorem sb38 : slT (kx Q g0).P 38 = some (3, 1, [(.int .i64 (0))]) := by kernel_rfl
theorem sb55 : slT (kx Q g0).P 55 = some (5, 1, [(.int .u8 (0))]) := by kernel_rfl
theorem sb104 : slT (kx Q g0).P 104 = some (127, 2, [(.int .i64 (0)), (.int .i64 (0))]) := by kernel_rfl
theorem sb124 : slT (kx Q g0).P 124 = some (128, 2, [(.int .i64 (0)), (.int .i64 (0))]) := by kernel_rfl
theorem sb142 : slT (kx Q g0).P 142 = some (114, 4, [(.int .i64 (0)), (.int .i64 (0)), (.int .i64 (0)), (.int .i64 (0))]) := by kernel_rfl
theorem un9 : (kx Q g0).P.underlying 9 = some .string := by kernel_rfl
theorem un22 : (kx Q g0).P.underlying 22 = some (.slice 40) := by kernel_rfl
theorem un23 : (kx Q g0).P.underlying 23 = some (.slice 51) := by kernel_rfl
theorem un26 : (kx Q g0).P.underlying 26 = some (.slice 38) := by kernel_rfl
theorem un38 : (kx Q g0).P.underlying 38 = some (.slice 3) := by kernel_rfl
theorem un55 : (kx Q g0).P.underlying 55 = some (.slice 5) := by kernel_rfl
theorem un104 : (kx Q g0).P.underlying 104 = some (.slice 127) := by kernel_rfl
theorem un124 : (kx Q g0).P.underlying 124 = some (.slice 128) := by kernel_rfl
theorem un142 : (kx Q g0).P.underlying 142 = some (.slice 114) := by kernel_rfl
theorem in51 : intsT (kx Q g0).P 51 = some 2 := by kernel_rfl
end
end Go.Opn
set_option linter.unusedSimpArgs false
namespace Go.Opn
open Go.Cre Go.RowKit Go.Proofs
section
variable {Q : Worlds PG} {g0 : Nat}
theorem lk_ok {α β : Type} {f : Nat → Option β} {g : α → β} : ∀ {L : List (Nat × α)}, L.map (fun x => f x.1) = L.map (fun x => some (g x.2)) → ∀ {t : Nat} {r : α}, lk L t = some r → f t = some (g r) := by
 intro L; induction L with
 | nil => intro _ t r h; cases h
 | cons x L ih =>
  obtain ⟨u, v⟩ := x; intro h t r hr; rw [List.map_cons, List.map_cons, List.cons.injEq] at h; simp only [lk] at hr; cases hb : Nat.beq t u with
  | true =>
   rw [hb, cond_true] at hr; injection hr with hr; subst hr
   obtain rfl := Nat.eq_of_beq_eq_true hb; exact h.1
  | false => rw [hb, cond_false] at hr; exact ih h.2 hr
theorem lkB_ok {f : Nat → Bool} : ∀ {L : List Nat}, L.all f = true → ∀ {t : Nat}, memB t L = true → f t = true := by
 intro L; induction L with
 | nil => intro _ t h; cases h
 | cons u L ih =>
  intro h t ht; rw [List.all_cons, Bool.and_eq_true] at h; simp only [memB] at ht; cases hb : Nat.beq t u with
  | true => obtain rfl := Nat.eq_of_beq_eq_true hb; exact h.1
  | false => rw [hb, cond_false] at ht; exact ih h.2 ht
theorem tAg {t : Nat} {r : Option Nat} (h : lk agL t = some r) : aggSize (kx Q g0).P t = some r := lk_ok (f := fun t => aggSize PG t) (g := id) agOk h
theorem tSz {t : Nat} {r : Nat} (h : lk szL t = some r) : sizeT (kx Q g0).P t = some r := lk_ok (f := fun t => sizeT PG t) (g := id) szOk h
theorem tFo {t f : Nat} {r : Nat} (h : lk foL (t * 100 + f) = some r) (hf : Nat.blt f 100 = true) : fieldOff (kx Q g0).P t f = some r := by
 have := lk_ok (f := fun k => fieldOff PG (k / 100) (k % 100)) (g := id) foOk h; have hf : f < 100 := by simpa [Nat.blt, Nat.succ_le_iff] using hf
 rwa [show (t * 100 + f) / 100 = t by omega, show (t * 100 + f) % 100 = f by omega] at this
theorem tFt {t f : Nat} {r : Nat × Nat} (h : lk ftL (t * 100 + f) = some r) (hf : Nat.blt f 100 = true) : fieldT (kx Q g0).P t f = some r := by
 have := lk_ok (f := fun k => fieldT PG (k / 100) (k % 100)) (g := id) ftOk h; have hf : f < 100 := by simpa [Nat.blt, Nat.succ_le_iff] using hf
 rwa [show (t * 100 + f) / 100 = t by omega, show (t * 100 + f) % 100 = f by omega] at this
theorem tAr {t : Nat} {r : Nat × Nat × Nat} (h : lk arL t = some r) : arrT (kx Q g0).P t = some r := lk_ok (f := fun t => arrT PG t) (g := id) arOk h
theorem tEs {t : Nat} {r : Nat} (h : lk esL t = some r) : elemSz (kx Q g0).P t = some r := lk_ok (f := fun t => elemSz PG t) (g := id) esOk h
theorem tIs {t : Nat} (h : memB t isL = true) : isSlice (kx Q g0).P t = true := lkB_ok (f := fun t => isSlice PG t) isOk h
theorem tIt {t : Nat} (h : memB t itL = true) : isStr (kx Q g0).P t = true := lkB_ok (f := fun t => isStr PG t) itOk h
theorem tNi {t : Nat} (h : memB t niL = true) : notIface (kx Q g0).P t = true := lkB_ok (f := fun t => notIface PG t) niOk h
theorem tBu {t : Nat} {r : Sum (List (Nat × Nat)) Nat × List Value} (h : lk buL t = some r) : buildT (kx Q g0).P t = some r := lk_ok (f := fun t => buildT PG t) (g := id) buOk h
theorem tCv {s t : Nat} {r : IntKind} (h : lk cvL (s * 10000 + t) = some r) (hf : Nat.blt t 10000 = true) : isInt (kx Q g0).P s t = some r := by
 have := lk_ok (f := fun k => isInt PG (k / 10000) (k % 10000)) (g := id) cvOk h; have hf : t < 10000 := by simpa [Nat.blt, Nat.succ_le_iff] using hf
 rwa [show (s * 10000 + t) / 10000 = s by omega, show (s * 10000 + t) % 10000 = t by omega] at this
structure Hid (p : Prop) : Prop where
 out : p
section
variable {B : Bs} {o : Oper} {n : Nat} {ds : Dx} {l : List (Nat × Value)} {m m' : Mm} {J : Jm} {d : Nat}
theorem rowA' {a : Nat} {cells : List Value} (h : RowAt m J a cells := by first | exact .own (by repeat first | exact .head _ | refine .tail _ ?_ | refine List.mem_append_right _ ?_) | exact .pub (by assumption) | exact .opn (by repeat first | exact .head _ | refine .tail _ ?_ | refine List.mem_append_right _ ?_)) : RowAt m J a cells := h
theorem V.mv {x : Operand} {v : Value} (ho : o.op = .move x := by exact rfl) (hx : eo l x = some v := by exact rfl) : Val (kx Q g0) B o n ds l m J (v) := v_move ho hx
theorem V.asg {x : Operand} {v : Value} (ho : o.op = .assign x := by exact rfl) (hx : eo l x = some v := by exact rfl) : Val (kx Q g0) B o n ds l m J (v) := v_assign ho hx
theorem V.fa {s : TypeId} {x : Operand} {f a off k : Nat} (ho : o.op = .fieldAddr s x f := by exact rfl) (hx : eo l x = some (.pointer (some ⟨a, off, none⟩)) := by exact rfl) (hf : fieldOff (kx Q g0).P s f = some k := by exact tFo rfl rfl) : Val (kx Q g0) B o n ds l m J (.pointer (some ⟨a, off + k, none⟩)) := v_fieldAddr ho hx hf
theorem V.ld {t : TypeId} {x : Operand} {a off : Nat} {cells : List Value} {v : Value} (ho : o.op = .load t x := by exact rfl) (hx : eo l x = some (.pointer (some ⟨a, off, none⟩)) := by exact rfl) (hr : RowAt m J a cells := by exact rowA') (hv : evPart (kx Q g0).P t cells off = some v := by exact part1 (tAg rfl) (by first | rfl | assumption)) : Val (kx Q g0) B o n ds l m J (v) := v_load ho hx hr hv
theorem V.ldA {t : TypeId} {x : Operand} {a off : Nat} {cells : List Value} {v : Value} (ho : o.op = .load t x := by exact rfl) (hx : eo l x = some (.pointer (some ⟨a, off, none⟩)) := by exact rfl) (hr : RowAt m J a cells := by exact rowA') (hv : evPart (kx Q g0).P t cells off = some v := by exact partA (tAg rfl) (by first | rfl | assumption)) : Val (kx Q g0) B o n ds l m J (v) := v_load ho hx hr hv
theorem V.pk {c x y : Operand} {t : Bool} {v : Value} (ho : o.op = .pick c x y := by exact rfl) (hc : eo l c = some (.bool t) := by exact rfl) (hv : (if t = true then eo l x else eo l y) = some v := by exact rfl) : Val (kx Q g0) B o n ds l m J (v) := v_pick ho hc hv
theorem V.vi {op : BinOp} {t ty : TypeId} {x y : Operand} {k : IntKind} {a b : Int} {v : Value} (ho : o.op = .binOp op t x y ty := by exact rfl) (hx : eo l x = some (.int k a) := by exact rfl) (hy : eo l y = some (.int k b) := by exact rfl) (hv : binI k a b op = some v := by exact rfl) : Val (kx Q g0) B o n ds l m J (v) := v_int ho hx hy hv
theorem V.va {op : BinOp} {t ty : TypeId} {x y : Operand} {k : IntKind} {a b c c' : Int} (ho : o.op = .binOp op t x y ty := by exact rfl) (hx : eo l x = some (.int k a) := by exact rfl) (hy : eo l y = some (.int k b) := by exact rfl) (hv : arI a b op = some c := by exact rfl) (hw : k.wrap c = c' := by first | exact wrap_i64 (by omega) (by omega) | exact wrap_u8 (by omega) (by omega) | rfl) : Val (kx Q g0) B o n ds l m J (.int k c') := v_ar ho hx hy hv hw
theorem V.dv {op : BinOp} {t ty : TypeId} {x y : Operand} {k : IntKind} {a b : Int} {v : Value} (ho : o.op = .binOp op t x y ty := by exact rfl) (hx : eo l x = some (.int k a) := by exact rfl) (hy : eo l y = some (.int k b) := by exact rfl) (hv : divI k a b op = some v := by exact rfl) (hb : b ≠ 0 := by first | decide | omega) : Val (kx Q g0) B o n ds l m J (v) := v_div ho hx hy hv hb
theorem V.nt {v : Value} (h : Val (kx Q g0) B o n ds l m J v := by first | exact v_notP rfl rfl | exact v_not rfl rfl) : Val (kx Q g0) B o n ds l m J (v) := h
theorem V.se {v : Value} (h : Val (kx Q g0) B o n ds l m J v := by exact v_strEq rfl rfl rfl (.inl ⟨rfl, rfl⟩)) : Val (kx Q g0) B o n ds l m J (v) := h
theorem V.sn {v : Value} (h : Val (kx Q g0) B o n ds l m J v := by exact v_strEq rfl rfl rfl (.inr ⟨rfl, rfl⟩)) : Val (kx Q g0) B o n ds l m J (v) := h
theorem V.ex {x : Operand} {ix : Nat} {vs : Array Value} {v : Value} (ho : o.op = .extract x ix := by exact rfl) (hx : eo l x = some (.tuple vs) := by exact rfl) (hv : nth vs.toList ix = some v := by exact rfl) : Val (kx Q g0) B o n ds l m J (v) := v_extract ho hx hv
theorem V.ls {v : Value} (h : Val (kx Q g0) B o n ds l m J v := by exact v_lenSlice rfl rfl rfl rfl (tIs rfl)) : Val (kx Q g0) B o n ds l m J (v) := h
theorem V.lS {v : Value} (h : Val (kx Q g0) B o n ds l m J v := by exact v_lenS rfl rfl rfl rfl (tIt rfl)) : Val (kx Q g0) B o n ds l m J (v) := h
theorem V.ix {t : TypeId} {x ix : Operand} {a off len cap sz : Nat} {k : IntKind} {i : Int} (ho : o.op = .indexAddr t x ix := by exact rfl) (hx : eo l x = some (.slice (some ⟨a, off, none⟩) len cap) := by exact rfl) (hi : eo l ix = some (.int k i) := by exact rfl) (ht : elemSz (kx Q g0).P t = some sz := by exact tEs rfl) (h0 : 0 ≤ i := by first | omega | (simp; omega)) (h1 : i < len := by first | omega | (simp; omega)) : Val (kx Q g0) B o n ds l m J (.pointer (some ⟨a, off + i.toNat * sz, none⟩)) := v_indexAddr ho hx hi ht h0 h1
theorem V.iA {t elem : TypeId} {x ix : Operand} {a off len sz : Nat} {k : IntKind} {i : Int} (ho : o.op = .indexAddr t x ix := by exact rfl) (hx : eo l x = some (.pointer (some ⟨a, off, none⟩)) := by exact rfl) (hi : eo l ix = some (.int k i) := by exact rfl) (ht : arrT (kx Q g0).P t = some (len, elem, sz) := by exact tAr rfl) (h0 : 0 ≤ i := by first | omega | (simp; omega)) (h1 : i < len := by first | omega | (simp; omega)) : Val (kx Q g0) B o n ds l m J (.pointer (some ⟨a, off + i.toNat * sz, none⟩)) := v_indexArr ho hx hi ht h0 h1
theorem V.bd {v : Value} (h : Val (kx Q g0) B o n ds l m J v := by exact v_build rfl rfl (tBu rfl) rfl) : Val (kx Q g0) B o n ds l m J (v) := h
theorem V.nc {v : Value} (h : Val (kx Q g0) B o n ds l m J v := by exact v_nilCheck rfl rfl) : Val (kx Q g0) B o n ds l m J (v) := h
theorem V.fd {v : Value} (h : Val (kx Q g0) B o n ds l m J v := by exact v_field rfl rfl (tFt rfl rfl) (part1 (tAg rfl) rfl)) : Val (kx Q g0) B o n ds l m J (v) := h
theorem V.fdA {v : Value} (h : Val (kx Q g0) B o n ds l m J v := by exact v_field rfl rfl (tFt rfl rfl) (partA (tAg rfl) rfl)) : Val (kx Q g0) B o n ds l m J (v) := h
theorem V.cv {v : Value} (h : Val (kx Q g0) B o n ds l m J v := by exact v_conv rfl rfl (tCv rfl rfl) (by first | exact wrap_i64 (by omega) (by omega) | exact wrap_u8 (by omega) (by omega) | rfl)) : Val (kx Q g0) B o n ds l m J (v) := h
theorem V.fn {v : Value} (h : Val (kx Q g0) B o n ds l m J v := by exact v_func rfl rfl rfl) : Val (kx Q g0) B o n ds l m J (v) := h
theorem V.ifc {v : Value} (h : Val (kx Q g0) B o n ds l m J v := by exact v_iface rfl rfl (tNi rfl)) : Val (kx Q g0) B o n ds l m J (v) := h
theorem V.iS {t : TypeId} {x ix : Operand} {s : List UInt8} {k : IntKind} {i : Int} {b : UInt8} (ho : o.op = .index t x ix := by exact rfl) (hx : eo l x = some (.string ⟨⟨s⟩⟩) := by exact rfl) (hi : eo l ix = some (.int k i) := by exact rfl) (ht : isStr (kx Q g0).P t = true := by exact tIt rfl) (h0 : 0 ≤ i := by first | omega | (simp; omega)) (hb : s[i.toNat]? = some b := by first | assumption | exact List.getElem?_eq_getElem (by first | omega | (simp; omega))) : Val (kx Q g0) B o n ds l m J (.int .u8 b.toNat) := v_indexS ho hx hi ht h0 hb
theorem V.sN {v : Value} (h : Val (kx Q g0) B o n ds l m J v := by exact v_sliceNil (op := .eql) rfl rfl rfl (tIs rfl)) : Val (kx Q g0) B o n ds l m J (v) := h
section
variable {ops rest : List Oper} {Φ : Option (List PanicEntry) → En → Mm → Jm → Prop}
theorem Sa {v : Value} (hv : Val (kx Q g0) B o n ds l m J v) (h : W (kx Q g0) B ops rest ⟨n, ds, (d, v) :: l⟩ m J Φ) (hg : o.guard = none := by exact rfl) (hd : o.dst = some d := by exact rfl) (hn : Nat.blt d n = true := by exact rfl) : W (kx Q g0) B ops (o :: rest) ⟨n, ds, l⟩ m J Φ := W.step hg (Exec.val hd hn hv h)
theorem Sb {v : Value} {g : Nat} {want b : Bool} (hv : Val (kx Q g0) B o n ds l m J v) (h : W (kx Q g0) B ops rest ⟨n, ds, (d, v) :: l⟩ m J Φ) (hg : guardT ops o = some (g, want) := by exact rfl) (hb : look l g = some (.bool b) := by exact rfl) (hw : (b == want) = true := by exact rfl) (hd : o.dst = some d := by exact rfl) (hn : Nat.blt d n = true := by exact rfl) : W (kx Q g0) B ops (o :: rest) ⟨n, ds, l⟩ m J Φ := W.guardY hg hb hw (Exec.val hd hn hv h)
theorem Sn {e : Nat} {want b : Bool} (h : W (kx Q g0) B ops rest ⟨n, ds, (e, undef) :: l⟩ m J Φ) (hg : guardT ops o = some (d, want) := by exact rfl) (hb : look l d = some (.bool b) := by exact rfl) (hw : (b == want) = false := by exact rfl) (hd : o.dst = some e := by exact rfl) (hn : Nat.blt e n = true := by exact rfl) : W (kx Q g0) B ops (o :: rest) ⟨n, ds, l⟩ m J Φ := W.guardN hg hb hw hd hn h
theorem Ss {t : TypeId} {x y : Operand} {a off k : Nat} {v : Value} {vs cells cells' : List Value} {e : TypeId} (h : W (kx Q g0) B ops rest ⟨n, ds, l⟩ m' J Φ) (hg : o.guard = none := by exact rfl) (ho : o.op = .store t x y := by exact rfl) (hd : o.dst = none := by exact rfl) (hx : eo l x = some (.pointer (some ⟨a, off, none⟩)) := by exact rfl) (hy : eo l y = some v := by exact rfl) (hk : sizeT (kx Q g0).P t = some k := by exact tSz rfl) (hc : v.cells.toList = vs := by exact rfl) (hl : Nat.beq vs.length k = true := by exact rfl) (h0 : Nat.blt 0 vs.length = true := by exact rfl) (h1 : vs.all oneCell = true := by exact rfl) (hp : Put m a (.row cells e) (.row cells' e) m' := by repeat first | exact .head _ _ _ _ | apply Put.tail | apply Put.app) (hs : splice off cells vs = some cells' := by exact rfl) : W (kx Q g0) B ops (o :: rest) ⟨n, ds, l⟩ m J Φ := W.step hg (.of (x_store ho hd hx hy hk hc hl h0 h1 hs hp h))
end
section
variable {ops : List Oper} {plan : List DStep} {F : List (FuncId × List Value)} {i : Nat} {Φ : En → Mm → Jm → Prop}
theorem Da {v : Value} (hi : nth ops i = some o) (hv : Val (kx Q g0) B o n ds l m J v) (h : WD (kx Q g0) B ops plan F ⟨n, ds, (d, v) :: l⟩ m J Φ) (hg : o.guard = none := by exact rfl) (hd : o.dst = some d := by exact rfl) (hn : Nat.blt d n = true := by exact rfl) : WD (kx Q g0) B ops (.val i :: plan) F ⟨n, ds, l⟩ m J Φ := WD.val hi hg hd hn hv h
theorem Db {v : Value} (hi : nth ops i = some o) (hv : Val (kx Q g0) B o n ds l m J v) (h : WD (kx Q g0) B ops plan F ⟨n, ds, (d, v) :: l⟩ m J Φ) (hg : o.guard = none := by exact rfl) (hd : o.dst = some d := by exact rfl) (hn : Nat.blt d n = true := by exact rfl) : WD (kx Q g0) B ops (.chn i :: plan) F ⟨n, ds, l⟩ m J Φ := WD.chnV hi hg hd hn hv h
theorem Ds {t : TypeId} {x y : Operand} {a off k : Nat} {v : Value} {vs cells cells' : List Value} {e : TypeId} (hi : nth ops i = some o) (h : WD (kx Q g0) B ops plan F ⟨n, ds, l⟩ m' J Φ) (hg : o.guard = none := by exact rfl) (ho : o.op = .store t x y := by exact rfl) (hd : o.dst = none := by exact rfl) (hx : eo l x = some (.pointer (some ⟨a, off, none⟩)) := by exact rfl) (hy : eo l y = some v := by exact rfl) (hk : sizeT (kx Q g0).P t = some k := by exact tSz rfl) (hc : v.cells.toList = vs := by exact rfl) (hl : Nat.beq vs.length k = true := by exact rfl) (h0 : Nat.blt 0 vs.length = true := by exact rfl) (h1 : vs.all oneCell = true := by exact rfl) (hp : Put m a (.row cells e) (.row cells' e) m' := by repeat first | exact .head _ _ _ _ | apply Put.tail | apply Put.app) (hs : splice off cells vs = some cells' := by exact rfl) : WD (kx Q g0) B ops (.chn i :: plan) F ⟨n, ds, l⟩ m J Φ := WD.chnX hi hg (x_store ho hd hx hy hk hc hl h0 h1 hs hp h)
end
section
variable {R : Reg} {ops : List Oper} {plan : List DStep} {i g : Nat} {want b : Bool} {Φ : En → Mm → Jm → Prop}
theorem Ra {v : Value} (hi : nth ops i = some o) (hv : Val (kx Q g0) B o n ds l m J v) (h : WR (kx Q g0) B R ops plan ⟨n, ds, (d, v) :: l⟩ m J Φ) (hg : o.guard = none := by exact rfl) (hd : o.dst = some d := by exact rfl) (hn : Nat.blt d n = true := by exact rfl) : WR (kx Q g0) B R ops (.val i :: plan) ⟨n, ds, l⟩ m J Φ := WR.val hi hg hd hn hv h
theorem Rb {v : Value} (hi : nth ops i = some o) (hv : Val (kx Q g0) B o n ds l m J v) (h : WR (kx Q g0) B R ops plan ⟨n, ds, (d, v) :: l⟩ m J Φ) (hg : guardT ops o = some (g, want) := by exact rfl) (hb : look l g = some (.bool b) := by exact rfl) (hw : (b == want) = true := by exact rfl) (hd : o.dst = some d := by exact rfl) (hn : Nat.blt d n = true := by exact rfl) : WR (kx Q g0) B R ops (.val i :: plan) ⟨n, ds, l⟩ m J Φ := WR.valY hi hg hb hw hd hn hv h
end
theorem ve {v u : Value} (h : veq 8 v u = true := by first | rfl | exact veq_int _ _ _ | exact veq_bool _ _ | exact veq_str _ _ | exact veq_slice (by assumption) _ _ _ | (refine veq_agg ?_; repeat first | exact veqs_nil | refine veqs_cons ?_ ?_ | exact veq_int _ _ _ | exact veq_str _ _ | exact veq_bool _ _ | exact veq_slice (by assumption) _ _ _) | simp [veq, addrEq]) : veq 8 v u = true := h
theorem vv {v : Value} (h : Val (kx Q g0) B o n ds l m J v := by first | exact V.mv | exact V.asg | exact V.fa | exact V.ld | exact V.ldA | exact V.ix | exact V.pk | exact V.va | exact V.vi | exact V.ex | exact V.bd | exact V.nt | exact V.va | exact V.dv | exact V.ls | exact V.lS | exact V.se | exact V.sn | exact V.nc | exact V.fd | exact V.fdA | exact V.cv | exact V.fn | exact V.ifc | exact V.iS | exact V.iA | exact V.sN) : Val (kx Q g0) B o n ds l m J v := h
theorem ck {ops : List Oper} {is : List Nat} (h : ChkAll (kx Q g0) B ops n ds l m J is := by
 repeat first
  | exact trivial
  | exact Chk.val rfl rfl rfl vv rfl ve
  | exact Chk.valY rfl rfl rfl rfl rfl vv rfl ve
  | exact Chk.no rfl (gb_no rfl rfl rfl)
  | exact Chk.no rfl (gb_un rfl rfl)
  | refine ⟨?_, ?_⟩) : ChkAll (kx Q g0) B ops n ds l m J is := h
theorem Wn {ops : List Oper} {E : En} {Φ : Option (List PanicEntry) → En → Mm → Jm → Prop} (h : Φ none E m J) : W (kx Q g0) B ops [] E m J Φ := W.nil h
theorem rg {p q : Prop} (h : p) (hpq : Hid p → q := by
 intro hgo_; repeat refine WC.seq ?_
 refine WC.region ?_; exact hgo_.out) : q := hpq ⟨h⟩
theorem sq {p q : Prop} (h : p) (hpq : Hid p → q := by
 intro hgo_; repeat refine WC.seq ?_
 exact hgo_.out) : q := hpq ⟨h⟩
theorem nr {p q : Prop} (h : p) (hpq : Hid p → q := by
 intro hgo_; refine Wn ?_; repeat refine WC.seq ?_
 refine WC.region ?_; exact hgo_.out) : q := hpq ⟨h⟩
theorem ns {p q : Prop} (h : p) (hpq : Hid p → q := by
 intro hgo_; refine Wn ?_; repeat refine WC.seq ?_
 exact hgo_.out) : q := hpq ⟨h⟩
theorem sk {p q : Prop} (h : p) (hpq : Hid p → q := by
 intro hgo_; repeat refine WC.seq ?_
 refine WC.skip ?_; exact hgo_.out) : q := hpq ⟨h⟩
theorem kr {p q : Prop} (h : p) (hpq : Hid p → q := by
 intro hgo_; repeat refine WC.seq ?_
 refine WC.skip ?_; repeat refine WC.seq ?_
 refine WC.region ?_; exact hgo_.out) : q := hpq ⟨h⟩
structure Sp (t : Bool) (p1 p0 : Prop) : Prop where
 y : t = true → p1
 n : t = false → p0
theorem Sp.p (p : Prop) [Decidable p] : Sp (decide p) p (¬ p) := ⟨of_decide_eq_true, of_decide_eq_false⟩
theorem Sp.b (t : Bool) : Sp t (t = true) (t = false) := ⟨id, id⟩
theorem If {Θ : Exit → En → Mm → Jm → Prop} {x : Operand} {a b : Code} {t : Bool} {p1 p0 : Prop} (h1 : p1 → WC (kx Q g0) B a ⟨n, ds, l⟩ m J Θ) (h0 : p0 → WC (kx Q g0) B b ⟨n, ds, l⟩ m J Θ) (hx : eo l x = some (.bool t) := by exact rfl) (hs : Sp t p1 p0 := by first | exact Sp.p _ | exact Sp.b _) : WC (kx Q g0) B (.cond x a b) ⟨n, ds, l⟩ m J Θ := WC.cond hx (fun q => h1 (hs.y q)) (fun q => h0 (hs.n q))
theorem Wp {ops rest : List Oper} {Φ : Option (List PanicEntry) → En → Mm → Jm → Prop} (d : Nat) {b : Bool} {p1 p0 : Prop} (h1 : p1 → W (kx Q g0) B ops rest ⟨n, ds, (d, .bool true) :: l⟩ m J Φ) (h0 : p0 → W (kx Q g0) B ops rest ⟨n, ds, (d, .bool false) :: l⟩ m J Φ) (hb : look l d = some (.bool b) := by exact rfl) (hs : Sp b p1 p0 := by first | exact Sp.p _ | exact Sp.b _) : W (kx Q g0) B ops rest ⟨n, ds, l⟩ m J Φ := W.split hb (fun q => h1 (hs.y q)) (fun q => h0 (hs.n q))
theorem Rp {R : Reg} {ops : List Oper} {plan : List DStep} {Φ : En → Mm → Jm → Prop} (d : Nat) {b : Bool} {p1 p0 : Prop} (h1 : p1 → WR (kx Q g0) B R ops plan ⟨n, ds, (d, .bool true) :: l⟩ m J Φ) (h0 : p0 → WR (kx Q g0) B R ops plan ⟨n, ds, (d, .bool false) :: l⟩ m J Φ) (hb : look l d = some (.bool b) := by exact rfl) (hs : Sp b p1 p0 := by first | exact Sp.p _ | exact Sp.b _) : WR (kx Q g0) B R ops plan ⟨n, ds, l⟩ m J Φ := WR.split hb (fun q => h1 (hs.y q)) (fun q => h0 (hs.n q))
theorem cq {l : List (Nat × Value)} {t : Nat} {v : Value} (h : look l t = some v := by first | exact rfl | exact cutT rfl (by first | omega | (simp_all; done)) | exact cutF rfl (by first | omega | (simp_all; done)) | exact cutI rfl (by first | omega | (simp_all; done) | (simp_all; omega)) | exact cutB rfl (by simp_all) | exact congrArg some (congrArg (Value.int .i64) (by omega))) : look l t = some v := h
theorem ce {p : Prop} (h : p := by
 refine ⟨⟨_, rfl, ?_⟩, List.Sublist.refl _, ?_⟩
 ·
  repeat first | exact trivial | refine ⟨cq, ?_⟩
 ·
  first | exact rfl | exact Jm.le.refl _ | assumption) : p := h
noncomputable def pickL (l : List (Nat × Value)) : List Nat → Option (List (Nat × Value))
 | [] => some []
 | t :: ts => match look l t with
  | some v => (match pickL l ts with | some r => some ((t, v) :: r) | none => none)
  | none => none
theorem pickL_sub {l : List (Nat × Value)} : ∀ {ts : List Nat} {l' : List (Nat × Value)}, pickL l ts = some l' → subL l l' := by
 intro ts; induction ts with
 | nil => intro l' h; injection h with h; subst h; trivial
 | cons t ts ih =>
  intro l' h; unfold pickL at h; split at h
  ·
   rename_i v hv; split at h
   ·
    rename_i r hr; injection h with h; subst h
    exact ⟨hv, ih hr⟩
   ·
    cases h
  ·
   cases h
theorem wk {Θ : Exit → En → Mm → Jm → Prop} {c : Code} {l' : List (Nat × Value)} (ts : List Nat) (h : WC (kx Q g0) B c ⟨n, ds, l'⟩ m J Θ) (hl : pickL l ts = some l' := by exact rfl) : WC (kx Q g0) B c ⟨n, ds, l⟩ m J Θ := WC.weak (pickL_sub hl) (List.Sublist.refl _) h
section
variable {ops rest : List Oper} {Φ : Option (List PanicEntry) → En → Mm → Jm → Prop} {c : Call} {x : Operand} {f : FuncId} {first cap : Array Value} {args az : List Value} {mi mr : Mm} {Post : Value → Mm → Jm → Prop}
theorem cl (hg : o.guard = none := by exact rfl) (ho : o.op = .call c := by exact rfl) (hd : o.dst = some d := by exact rfl) (hn : Nat.blt d n = true := by exact rfl) (hc : c.callee = .value x := by exact rfl) (hx : eo l x = some (.func (.func f) first cap) := by exact rfl) (ha : eos l c.args.toList = some args := by exact rfl) (has : (first.toList ++ args) ++ cap.toList = az := by exact rfl) (hp : (mi ++ mr).Perm m := by exact .refl _) (G : Fn (kx Q g0) f az mi J Post) (h : ∀ v m' J', J.le J' → Post v m' J' → W (kx Q g0) B ops rest ⟨n, ds, (d, v) :: l⟩ (m' ++ mr) J' Φ) : W (kx Q g0) B ops (o :: rest) ⟨n, ds, l⟩ m J Φ := W.step hg (Exec.call ho hd hn hc hx ha has hp trivial G h)
theorem cr {v : Value} (hg : o.guard = none := by exact rfl) (ho : o.op = .call c := by exact rfl) (hd : o.dst = some d := by exact rfl) (hn : Nat.blt d n = true := by exact rfl) (hc : c.callee = .value x := by exact rfl) (hx : eo l x = some (.func (.func f) first cap) := by exact rfl) (ha : eos l c.args.toList = some args := by exact rfl) (has : (first.toList ++ args) ++ cap.toList = az := by exact rfl) (G : Fn (kx Q g0) f az [] J (fun w m' J' => w = v ∧ m' = [] ∧ J' = J)) (h : W (kx Q g0) B ops rest ⟨n, ds, (d, v) :: l⟩ m J Φ) : W (kx Q g0) B ops (o :: rest) ⟨n, ds, l⟩ m J Φ := W.step hg (Exec.call ho hd hn hc hx ha has (.refl _) trivial G (fun v' m' J' _ q => by obtain ⟨rfl, rfl, rfl⟩ := q; exact h))
theorem cg {g : Nat} {want b : Bool} (hg : guardT ops o = some (g, want) := by exact rfl) (hb : look l g = some (.bool b) := by exact rfl) (hw : (b == want) = true := by exact rfl) (ho : o.op = .call c := by exact rfl) (hd : o.dst = some d := by exact rfl) (hn : Nat.blt d n = true := by exact rfl) (hc : c.callee = .value x := by exact rfl) (hx : eo l x = some (.func (.func f) first cap) := by exact rfl) (ha : eos l c.args.toList = some args := by exact rfl) (has : (first.toList ++ args) ++ cap.toList = az := by exact rfl) (hp : (mi ++ mr).Perm m := by exact .refl _) (G : Fn (kx Q g0) f az mi J Post) (h : ∀ v m' J', J.le J' → Post v m' J' → W (kx Q g0) B ops rest ⟨n, ds, (d, v) :: l⟩ (m' ++ mr) J' Φ) : W (kx Q g0) B ops (o :: rest) ⟨n, ds, l⟩ m J Φ := W.guardY hg hb hw (Exec.call ho hd hn hc hx ha has hp trivial G h)
end
section
variable {ops : List Oper} {plan : List DStep} {F : List (FuncId × List Value)} {i : Nat} {Φ : En → Mm → Jm → Prop} {c : Call} {x : Operand} {f : FuncId} {first cap : Array Value} {args az : List Value} {mi mr : Mm} {Post : Value → Mm → Jm → Prop}
theorem dl (hi : nth ops i = some o) (hg : o.guard = none := by exact rfl) (ho : o.op = .call c := by exact rfl) (hd : o.dst = some d := by exact rfl) (hn : Nat.blt d n = true := by exact rfl) (hc : c.callee = .value x := by exact rfl) (hx : eo l x = some (.func (.func f) first cap) := by exact rfl) (ha : eos l c.args.toList = some args := by exact rfl) (has : (first.toList ++ args) ++ cap.toList = az := by exact rfl) (hf : F.all (fun g => !Nat.beq g.1 f) = true := by exact rfl) (hp : (mi ++ mr).Perm m := by exact .refl _) (G : Fn (kx Q g0) f az mi J Post) (h : ∀ v m' J', J.le J' → Post v m' J' → WD (kx Q g0) B ops plan ((f, az) :: F) ⟨n, ds, (d, v) :: l⟩ (m' ++ mr) J' Φ) : WD (kx Q g0) B ops (.chn i :: plan) F ⟨n, ds, l⟩ m J Φ := WD.call hi hg ho hd hn hc hx ha has hf hp trivial G h
theorem dr {v : Value} (hi : nth ops i = some o) (hg : o.guard = none := by exact rfl) (ho : o.op = .call c := by exact rfl) (hd : o.dst = some d := by exact rfl) (hn : Nat.blt d n = true := by exact rfl) (hc : c.callee = .value x := by exact rfl) (hx : eo l x = some (.func (.func f) first cap) := by exact rfl) (ha : eos l c.args.toList = some args := by exact rfl) (has : (first.toList ++ args) ++ cap.toList = az := by exact rfl) (hf : F.all (fun g => !Nat.beq g.1 f) = true := by exact rfl) (G : Fn (kx Q g0) f az [] J (fun w m' J' => w = v ∧ m' = [] ∧ J' = J)) (h : WD (kx Q g0) B ops plan ((f, az) :: F) ⟨n, ds, (d, v) :: l⟩ m J Φ) : WD (kx Q g0) B ops (.chn i :: plan) F ⟨n, ds, l⟩ m J Φ := WD.call hi hg ho hd hn hc hx ha has hf (.refl _) trivial G (fun v' m' J' _ q => by obtain ⟨rfl, rfl, rfl⟩ := q; exact h)
end
theorem rC {E : En} {t : Tmp} {ty : TypeId} {a : Nat} {cells : List Value} {e : TypeId} {v : Value} {rs : List ResultVar} {vs : List Value} (hr : Res (kx Q g0).P E m J rs vs) (h1 : look E.l t = some (.pointer (some ⟨a, 0, none⟩)) := by exact rfl) (h2 : (a, PB.row cells e) ∈ m := by repeat first | exact .head _ | refine .tail _ ?_ | refine List.mem_append_right _ ?_) (h3 : evPart (kx Q g0).P ty cells 0 = some v := by first | exact partA (tAg rfl) rfl | exact part1 (tAg rfl) rfl) : Res (kx Q g0).P E m J (.cell t ty :: rs) (v :: vs) := .cell h1 h2 h3 hr
theorem Lf {e : Exit} {E : En} {rs : List ResultVar} {vs : List Value} {Qp : List Value → Mm → Prop} (hp : Qp vs m') (he : e = .normal ∨ e = .ret := by first | exact .inl rfl | exact .inr rfl) (hd : E.ds.ds = [] := by exact rfl) (hr : Res (kx Q g0).P E m J rs vs := by first | exact .tmp rfl .nil | exact .tmp rfl (.tmp rfl .nil) | exact .nil | exact rC .nil | exact rC (rC .nil) | exact .tmp rfl (.tmp rfl (.tmp rfl .nil)) | exact rC (rC (rC .nil))) (hs : m'.Sublist m := by first | exact List.nil_sublist _ | exact List.Sublist.refl _) : (e = .normal ∨ e = .ret) ∧ E.ds.ds = [] ∧ ∃ vs m', Res (kx Q g0).P E m J rs vs ∧ m'.Sublist m ∧ Qp vs m' := ⟨he, hd, vs, m', hr, hs, hp⟩
end
end
theorem nq {p : Prop} (h : p := by first | rfl | exact congrArg some (congrArg (Value.int .i64) (by omega))) : p := h
theorem om {p : Prop} (h : p := by first | omega | (simp; omega) | (simp only; omega)) : p := h
theorem qx {p : Prop} (h : p := by first | exact SlC.rd (by assumption) | exact Rd.str | exact Rd.own (by repeat first | exact .head _ | refine .tail _ ?_ | refine List.mem_append_right _ ?_) rfl) : p := h
theorem qr {p : Prop} (h : p := by first | exact .own (by repeat first | exact .head _ | refine .tail _ ?_ | refine List.mem_append_right _ ?_) | exact .pub (by assumption) | exact .opn (by repeat first | exact .head _ | refine .tail _ ?_ | refine List.mem_append_right _ ?_)) : p := h
theorem pq {p : Prop} (h : p := by first | exact List.Perm.refl _ | exact perm_mid1 | exact perm_mid2 | exact perm_mid3 | exact perm_mid4) : p := h
section
variable {Q : Worlds PG} {g0 : Nat}
section
variable {B : Bs} {o : Oper} {n : Nat} {ds : Dx} {l : List (Nat × Value)} {m : Mm} {J : Jm} {d : Nat}
section
variable {ops rest : List Oper} {Φ : Option (List PanicEntry) → En → Mm → Jm → Prop}
theorem bx {t : TypeId} {x : Operand} {v : Value} {cells : List Value} (h : ∀ a, W (kx Q g0) B ops rest ⟨n, ds, (d, .pointer (some ⟨a, 0, none⟩)) :: l⟩ ((a, .row cells t) :: m) J Φ) (hg : o.guard = none := by exact rfl) (ho : o.op = .box t x := by exact rfl) (hd : o.dst = some d := by exact rfl) (hn : Nat.blt d n = true := by exact rfl) (hx : eo l x = some v := by exact rfl) (hc : v.cells.toList = cells := by exact rfl) (h1 : cells.all oneCell = true := by exact rfl) : W (kx Q g0) B ops (o :: rest) ⟨n, ds, l⟩ m J Φ := W.step hg (.of (x_box ho hd hn hx hc h1 h))
theorem bsl {t e : TypeId} {k sz : Nat} {zs cells : List Value} {ps : Array (Nat × Operand)} {vs : List (Nat × Value)} (ht : slT (kx Q g0).P t = some (e, sz, zs)) (h : ∀ a, W (kx Q g0) B ops rest ⟨n, ds, (d, .slice (some ⟨a, 0, none⟩) k k) :: l⟩ ((a, .row cells e) :: m) J Φ) (hg : o.guard = none := by exact rfl) (ho : o.op = .buildSlice t k ps := by exact rfl) (hd : o.dst = some d := by exact rfl) (hn : Nat.blt d n = true := by exact rfl) (hp : eps l ps.toList = some vs := by exact rfl) (hk : (Nat.ble k 100000 && Nat.ble (k * sz) 100000) = true := by exact rfl) (hf : fillA (fun i => some (i * sz, sz)) (zeroCellsL zs k) vs = some cells := by exact rfl) (h1 : cells.all oneCell = true := by exact rfl) : W (kx Q g0) B ops (o :: rest) ⟨n, ds, l⟩ m J Φ := W.step hg (.of (x_buildSlice ho hd hn hp ht hk hf h1 h))
end
section
variable {R : Reg} {ops : List Oper} {plan : List DStep} {i g : Nat} {want b : Bool} {Φ : En → Mm → Jm → Prop}
theorem Rn (hi : nth ops i = some o) (h : WR (kx Q g0) B R ops plan ⟨n, ds, (d, undef) :: l⟩ m J Φ) (hg : guardT ops o = some (g, want) := by exact rfl) (hb : look l g = some (.bool b) := by exact rfl) (hw : (b == want) = false := by exact rfl) (hd : o.dst = some d := by exact rfl) (hn : Nat.blt d n = true := by exact rfl) : WR (kx Q g0) B R ops (.val i :: plan) ⟨n, ds, l⟩ m J Φ := WR.valN hi hg hb hw hd hn h
end
end
end
end Go.Opn
namespace Go.Opn
structure Nd where
 k : Int
 p : Int
 i : Int
 nx : List Int
 ws : List Int
 py : List Int
structure Gm where
 pl : Int
 ns : List Nd
 is : List (Int × Int)
open Classical
noncomputable def nodeS (g : Gm) (x : Nd) : Int :=
 if x.k = 1 then
  if x.p ≠ 0 ∨ x.i ≠ 0 ∨ 0 < x.py.length ∨ x.nx.length < 1 ∨ 60 < x.nx.length ∨ x.ws.length ≠ x.nx.length then 3
  else if ∃ w ∈ x.ws, w < 1 ∨ 1000 < w then 2 else 0
 else if x.k = 2 then
  if 0 < x.py.length ∨ 0 < x.ws.length ∨ x.nx.length < 1 ∨ 10 < x.nx.length then 3
  else if x.p < 0 ∨ g.pl ≤ x.p ∨ x.i < 0 ∨ (g.is.length : Int) ≤ x.i then 2 else 0
 else if x.k = 3 then
  if x.p ≠ 0 ∨ x.i ≠ 0 ∨ 0 < x.nx.length ∨ 0 < x.ws.length ∨ (x.py.length : Int) ≠ g.pl then 3
  else if ∃ w ∈ x.py, w < -1000000 ∨ 1000000 < w then 2 else 0
 else 3
noncomputable def nodesS (g : Gm) : List Nd → Int
 | [] => 0
 | x :: r => if nodeS g x ≠ 0 then nodeS g x else nodesS g r
abbrev Ent := Int × Int × Int
def chS (rec : Nat → Option (Nat × List Ent)) : List Int → Nat → Option (Nat × List Ent)
 | [], n => some (n, [])
 | c :: r, n => if c ≠ (n : Int) then none else match rec n with
  | none => none
  | some (n1, es) => match chS rec r n1 with
   | none => none
   | some (n2, es2) => some (n2, es ++ es2)
def trS (ns : List Nd) : Nat → Int → Int → Nat → Option (Nat × List Ent)
 | 0, _, _, _ => none
 | f + 1, par, d, a => match ns[a]? with
  | none => none
  | some x => match chS (trS ns f a (d + 1)) x.nx (a + 1) with
   | none => none
   | some (n, es) => some (n, (par, d, (n : Int) - 1) :: es)
def deepS (es : List Ent) : Int := es.foldl (fun m e => max m e.2.1) 0
def setS (i : Int) : Nat → List Nd → List Int
 | _, [] => []
 | j, x :: r => if x.k = 2 ∧ x.i = i then (j : Int) :: setS i (j + 1) r else setS i (j + 1) r
def setsS (g : Gm) : List (List Int) := (List.range g.is.length).map fun (i : Nat) => setS (i : Int) 0 g.ns
def hdS (l : List Int) : Int := match l with | [] => -1 | x :: _ => x
noncomputable def formS (g : Gm) : Int :=
 if g.pl < 1 ∨ 4 < g.pl ∨ g.ns.length < 1 ∨ 2000 < g.ns.length ∨ 200 < g.is.length then 2
 else if nodesS g g.ns ≠ 0 then nodesS g g.ns
 else match trS g.ns (g.ns.length + 1) (-1) 0 0 with
  | none => 9
  | some (n, es) =>
   if n ≠ g.ns.length then 9
   else if 40 < deepS es then 5
   else if ∃ x ∈ g.ns, x.k = 2 ∧ g.is[x.i.toNat]? ≠ some (x.p, (x.nx.length : Int)) then 10
   else if ∃ s ∈ setsS g, s = [] then 18
   else if ∃ (i : Nat) (s t : List Int), (setsS g)[i]? = some s ∧ (setsS g)[i + 1]? = some t ∧ hdS t < hdS s then 9
   else 0
theorem nodesS_all {g : Gm} : ∀ {l : List Nd}, nodesS g l = 0 → ∀ x ∈ l, nodeS g x = 0 := by
 intro l; induction l with
 | nil => intro _ x hx; cases hx
 | cons y r ih =>
  intro h x hx; have h : (if nodeS g y ≠ 0 then nodeS g y else nodesS g r) = 0 := h; by_cases q : nodeS g y = 0
  ·
   rw [if_neg (fun k => k q)] at h; rcases List.mem_cons.1 hx with e | e
   ·
    rw [e]; exact q
   ·
    exact ih h x e
  ·
   rw [if_pos q] at h; exact absurd h q
theorem node_len {g : Gm} {x : Nd} (h : nodeS g x = 0) (hp : g.pl ≤ 4) : x.nx.length ≤ 60 ∧ x.ws.length ≤ 60 ∧ x.py.length ≤ 60 := by
 unfold nodeS at h; split at h
 ·
  split at h
  ·
   omega
  ·
   split at h <;> omega
 ·
  split at h
  ·
   split at h
   ·
    omega
   ·
    split at h <;> omega
  ·
   split at h
   ·
    split at h
    ·
     omega
    ·
     split at h <;> omega
   ·
    omega
structure FormOk (g : Gm) : Prop where
 p1 : 1 ≤ g.pl
 p4 : g.pl ≤ 4
 n1 : 1 ≤ g.ns.length
 n2 : g.ns.length ≤ 2000
 i2 : g.is.length ≤ 200
 nodes : ∀ x ∈ g.ns, nodeS g x = 0
 walk : ∃ es, trS g.ns (g.ns.length + 1) (-1) 0 0 = some (g.ns.length, es) ∧ deepS es ≤ 40
 types : ∀ x ∈ g.ns, x.k = 2 → g.is[x.i.toNat]? = some (x.p, (x.nx.length : Int))
 sets : ∀ s ∈ setsS g, s ≠ []
theorem formS_ok {g : Gm} (h : formS g = 0) : FormOk g := by
 unfold formS at h; split at h
 ·
  omega
 rename_i h1; split at h
 ·
  rename_i q; exact absurd h q
 rename_i h2; split at h
 ·
  omega
 rename_i n es h3; split at h
 ·
  omega
 rename_i h4; split at h
 ·
  omega
 rename_i h5; split at h
 ·
  omega
 rename_i h6; split at h
 ·
  omega
 rename_i h7; have h4 : n = g.ns.length := Classical.not_not.1 h4; subst h4; refine ⟨by omega, by omega, by omega, by omega, by omega, nodesS_all (Classical.not_not.1 h2), ⟨es, h3, by omega⟩, fun x hx hk => ?_, fun s hs q => h7 ⟨s, hs, q⟩⟩; exact Classical.byContradiction fun q => h6 ⟨x, hx, hk, q⟩
def ndN (x : Nd) : List Int := [x.k, x.p, x.i] ++ ((x.nx.length : Int) :: x.nx) ++ ((x.ws.length : Int) :: x.ws) ++ ((x.py.length : Int) :: x.py)
def inN (x : Int × Int) : List Int := [x.1, x.2]
def numsS (g : Gm) : List Int := [g.pl, (g.ns.length : Int)] ++ g.ns.flatMap ndN ++ [(g.is.length : Int)] ++ g.is.flatMap inN
theorem flat_next {α : Type} {f : α → List Int} {l : List α} {i : Nat} {x : α} (hx : l[i]? = some x) : (l.take (i + 1)).flatMap f = (l.take i).flatMap f ++ f x := by
 rw [List.take_add_one, hx]; simp
end Go.Opn
namespace Go.Opn
theorem chS_cons (rec : Nat → Option (Nat × List Ent)) (c : Int) (r : List Int) (n : Nat) : chS rec (c :: r) n = if c ≠ (n : Int) then none else match rec n with
  | none => none
  | some (n1, es) => match chS rec r n1 with
   | none => none
   | some (n2, es2) => some (n2, es ++ es2) := rfl
theorem chS_app (rec : Nat → Option (Nat × List Ent)) : ∀ (a b : List Int) (n : Nat), chS rec (a ++ b) n = match chS rec a n with
  | none => none
  | some (n1, e1) => match chS rec b n1 with
   | none => none
   | some (n2, e2) => some (n2, e1 ++ e2) := by
 intro a; induction a with
 | nil =>
  intro b n; show chS rec b n = _; cases h : chS rec b n with
  | none => simp [chS, h]
  | some p => simp [chS, h]
 | cons c a ih =>
  intro b n; show chS rec (c :: (a ++ b)) n = _; rw [chS_cons, chS_cons]; by_cases hc : c ≠ (n : Int)
  ·
   rw [if_pos hc, if_pos hc]
  ·
   rw [if_neg hc, if_neg hc]; cases hr : rec n with
   | none => rfl
   | some p =>
    obtain ⟨n1, e1⟩ := p; simp only
    rw [ih b n1]; cases ha : chS rec a n1 with
    | none => rfl
    | some q =>
     obtain ⟨n2, e2⟩ := q; simp only
     cases hb : chS rec b n2 with
     | none => rfl
     | some r => obtain ⟨n3, e3⟩ := r; simp
theorem chS_one (rec : Nat → Option (Nat × List Ent)) (c : Int) (n : Nat) : chS rec [c] n = if c ≠ (n : Int) then none else rec n := by
 rw [chS_cons]; split
 ·
  rfl
 ·
  cases h : rec n with
  | none => rfl
  | some p => obtain ⟨n1, e1⟩ := p; simp [chS]
theorem chS_take {rec : Nat → Option (Nat × List Ent)} {cs : List Int} {n k : Nat} {c : Int} {cur : Nat} {es : List Ent} (h : chS rec (cs.take k) n = some (cur, es)) (hc : cs[k]? = some c) :
  chS rec (cs.take (k + 1)) n = if c ≠ (cur : Int) then none else match rec cur with
   | none => none
   | some (n1, e1) => some (n1, es ++ e1) := by
 rw [List.take_add_one, hc]; show chS rec (cs.take k ++ [c]) n = _; rw [chS_app, h]; simp only [chS_one]; by_cases q : c ≠ (cur : Int)
 ·
  rw [if_pos q, if_pos q]
 ·
  rw [if_neg q, if_neg q]
theorem chS_no {rec : Nat → Option (Nat × List Ent)} {cs : List Int} {n k : Nat} (h : chS rec (cs.take k) n = none) : chS rec cs n = none := by
 have := chS_app rec (cs.take k) (cs.drop k) n; rw [List.take_append_drop, h] at this; exact this
theorem chS_len {ns : List Nd} {rec : Nat → Option (Nat × List Ent)} (hr : ∀ n n1 e, rec n = some (n1, e) → n < n1 ∧ n1 ≤ ns.length ∧ e.length = n1 - n) : ∀ {cs : List Int} {n n1 : Nat} {e : List Ent}, chS rec cs n = some (n1, e) → n ≤ ns.length → n ≤ n1 ∧ n1 ≤ ns.length ∧ e.length = n1 - n := by
 intro cs; induction cs with
 | nil => intro n n1 e h hn; simp only [chS, Option.some.injEq, Prod.mk.injEq] at h; obtain ⟨rfl, rfl⟩ := h; exact ⟨Nat.le_refl _, hn, by simp⟩
 | cons c cs ih =>
  intro n n1 e h hn; rw [chS_cons] at h; split at h
  ·
   cases h
  ·
   split at h
   ·
    cases h
   ·
    rename_i n2 e2 h2; obtain ⟨a1, a2, a3⟩ := hr _ _ _ h2; split at h
    ·
     cases h
    ·
     rename_i n3 e3 h3; simp only [Option.some.injEq, Prod.mk.injEq] at h; obtain ⟨rfl, rfl⟩ := h; obtain ⟨b1, b2, b3⟩ := ih h3 a2; exact ⟨by omega, b2, by rw [List.length_append]; omega⟩
theorem trS_len {ns : List Nd} : ∀ (f : Nat) (p d : Int) (n n1 : Nat) (e : List Ent), trS ns f p d n = some (n1, e) → n < n1 ∧ n1 ≤ ns.length ∧ e.length = n1 - n := by
 intro f; induction f with
 | zero => intro p d n n1 e h; cases h
 | succ f ih =>
  intro p d n n1 e h; unfold trS at h; split at h
  ·
   cases h
  ·
   rename_i x hx; have hlt := (List.getElem?_eq_some_iff.1 hx).1; split at h
   ·
    cases h
   ·
    rename_i n2 es h2; simp only [Option.some.injEq, Prod.mk.injEq] at h; obtain ⟨rfl, rfl⟩ := h; obtain ⟨b1, b2, b3⟩ := chS_len (fun a b c q => ih _ _ a b c q) h2 (by omega); exact ⟨by omega, b2, by rw [List.length_cons]; omega⟩
def putE (L : List Int) (a : Nat) (vs : List Int) : List Int := L.take a ++ vs ++ L.drop (a + vs.length)
theorem putE_len {L : List Int} {a : Nat} {vs : List Int} (h : a + vs.length ≤ L.length) : (putE L a vs).length = L.length := by
 unfold putE; simp only [List.length_append, List.length_take, List.length_drop]; omega
theorem putE_nil (L : List Int) (a : Nat) : putE L a [] = L := by simp [putE]
theorem putE_app {L : List Int} {a b : Nat} {vs ws : List Int} (h : a + vs.length ≤ L.length) (hb : b = a + vs.length) : putE (putE L a vs) b ws = putE L a (vs ++ ws) := by
 subst hb; unfold putE; have h1 : (L.take a ++ vs).length = a + vs.length := by rw [List.length_append, List.length_take]; omega
 rw [List.take_append_of_le_length (by omega), List.take_of_length_le (by omega), List.drop_append, List.drop_of_length_le (by omega), h1, List.nil_append, List.drop_drop, List.length_append, ← List.append_assoc]; congr 2
 omega
theorem set_putE {L : List Int} {a : Nat} {x : Int} (h : a < L.length) : L.set a x = putE L a [x] := by
 rw [List.set_eq_take_append_cons_drop, if_pos h]; simp [putE]
theorem putE_get {L : List Int} {a : Nat} {vs : List Int} (h : a + vs.length ≤ L.length) (i : Nat) : (putE L a vs)[i]? = if a ≤ i ∧ i < a + vs.length then vs[i - a]? else L[i]? := by
 unfold putE; have h2 : (L.take a).length = a := by rw [List.length_take]; omega
 by_cases q1 : i < a
 ·
  rw [if_neg (by omega), List.append_assoc, List.getElem?_append_left (by omega), List.getElem?_take, if_pos q1]
 ·
  by_cases q2 : i < a + vs.length
  ·
   rw [if_pos (by omega), List.append_assoc, List.getElem?_append_right (by omega), h2, List.getElem?_append_left (by omega)]
  ·
   rw [if_neg (by omega), List.append_assoc, List.getElem?_append_right (by omega), h2, List.getElem?_append_right (by omega), List.getElem?_drop]; congr 1; omega
theorem putE_set {L : List Int} {a : Nat} {x : Int} {vs : List Int} (h : a + 1 + vs.length ≤ L.length) : (putE L (a + 1) vs).set a x = putE L a (x :: vs) := by
 apply List.ext_getElem?
 intro i; rw [List.getElem?_set, putE_get h, putE_len h, putE_get (by rw [List.length_cons]; omega), List.length_cons]; by_cases q : a = i
 ·
  subst q; rw [if_pos rfl, if_pos (by omega), if_pos (by omega), Nat.sub_self]; rfl
 ·
  rw [if_neg q]; by_cases q2 : a + 1 ≤ i ∧ i < a + 1 + vs.length
  ·
   rw [if_pos q2, if_pos (by omega), show i - a = (i - (a + 1)) + 1 by omega, List.getElem?_cons_succ]
  ·
   rw [if_neg q2, if_neg (by omega)]
end Go.Opn
namespace Go.Opn
def idxS (v : Int) : List Int → Nat → Int
 | [], _ => -1
 | x :: r, n => if v = x then (n : Int) else idxS v r (n + 1)
theorem idxS_at {v : Int} {l : List Int} {i : Nat} {x : Int} (hx : l[i]? = some x) : idxS v (l.drop i) i = if v = x then (i : Int) else idxS v (l.drop (i + 1)) (i + 1) := by
 have hi : i < l.length := (List.getElem?_eq_some_iff.1 hx).1; rw [List.drop_eq_getElem_cons hi]; have : l[i] = x := by rw [List.getElem?_eq_getElem hi] at hx; injection hx
 rw [this]; rfl
theorem idxS_end {v : Int} {l : List Int} {i : Nat} (h : l.length ≤ i) : idxS v (l.drop i) i = -1 := by rw [List.drop_eq_nil_of_le h]; rfl
theorem idxS_mem {v : Int} : ∀ {l : List Int} {n : Nat}, 0 ≤ idxS v l n ↔ v ∈ l := by
 intro l; induction l with
 | nil => intro n; simp [idxS]
 | cons x r ih =>
  intro n; unfold idxS; split
  ·
   rename_i h; subst h; simp
  ·
   rename_i h; rw [ih, List.mem_cons]; exact ⟨.inr, fun q => q.resolve_left h⟩
theorem idxS_lt {v : Int} : ∀ {l : List Int} {n : Nat}, idxS v l n < (n : Int) + l.length := by
 intro l; induction l with
 | nil => intro n; simp only [idxS, List.length_nil]; omega
 | cons x r ih =>
  intro n; unfold idxS; rw [List.length_cons]; split
  ·
   omega
  ·
   have := ih (n := n + 1); omega
def maxS : List Int → Int
 | [] => 0
 | x :: r => r.foldl max x
theorem maxS_next {l : List Int} {i : Nat} {x : Int} (h1 : 1 ≤ i) (hx : l[i]? = some x) : maxS (l.take (i + 1)) = max (maxS (l.take i)) x := by
 rw [List.take_add_one, hx]; cases l with
 | nil => cases hx
 | cons y r =>
  cases i with
  | zero => omega
  | succ i => simp [maxS]
def Asc (l : List Int) : Prop := ∀ i x y, l[i]? = some x → l[i + 1]? = some y → ¬ y < x
theorem deep_max {es : List Ent} (h : ∃ e r, es = e :: r ∧ e.2.1 = 0) : deepS es = maxS (es.map fun e => e.2.1) := by
 obtain ⟨e, r, rfl, h0⟩ := h; unfold deepS; simp only [List.foldl_cons, List.map_cons, maxS, h0]; rw [List.foldl_map]; rfl
theorem trS_head {ns : List Nd} {f : Nat} {p d : Int} {a n : Nat} {es : List Ent} (h : trS ns f p d a = some (n, es)) : ∃ e r, es = e :: r ∧ e.1 = p ∧ e.2.1 = d ∧ e.2.2 = (n : Int) - 1 := by
 cases f with
 | zero => cases h
 | succ f =>
  unfold trS at h; split at h
  ·
   cases h
  ·
   split at h
   ·
    cases h
   ·
    simp only [Option.some.injEq, Prod.mk.injEq] at h; obtain ⟨rfl, rfl⟩ := h; exact ⟨_, _, rfl, rfl, rfl, rfl⟩
def firstL (g : Gm) (i : Nat) : List Int := (List.range g.is.length).map fun (j : Nat) => hdS (setS (j : Int) i (g.ns.drop i)) + 1
theorem firstL_len {g : Gm} {i : Nat} : (firstL g i).length = g.is.length := by simp [firstL]
theorem firstL_get {g : Gm} {i j : Nat} (h : j < g.is.length) : (firstL g i)[j]? = some (hdS (setS (j : Int) i (g.ns.drop i)) + 1) := by
 unfold firstL; rw [List.getElem?_map, List.getElem?_range h]; rfl
theorem firstL_end {g : Gm} {i : Nat} (h : g.ns.length ≤ i) : firstL g i = List.replicate g.is.length 0 := by
 apply List.ext_getElem?
 intro j; by_cases hj : j < g.is.length
 ·
  rw [firstL_get hj, List.drop_eq_nil_of_le h, List.getElem?_replicate, if_pos hj]; rfl
 ·
  rw [List.getElem?_eq_none (by rw [firstL_len]; omega), List.getElem?_replicate, if_neg hj]
theorem setS_at {g : Gm} {j : Int} {i : Nat} {x : Nd} (hx : g.ns[i]? = some x) : setS j i (g.ns.drop i) = if x.k = 2 ∧ x.i = j then (i : Int) :: setS j (i + 1) (g.ns.drop (i + 1)) else setS j (i + 1) (g.ns.drop (i + 1)) := by
 have hi : i < g.ns.length := (List.getElem?_eq_some_iff.1 hx).1; rw [List.drop_eq_getElem_cons hi]; have : g.ns[i] = x := by rw [List.getElem?_eq_getElem hi] at hx; injection hx
 rw [this]; rfl
theorem firstL_no {g : Gm} {i : Nat} {x : Nd} (hx : g.ns[i]? = some x) (hk : x.k ≠ 2) : firstL g i = firstL g (i + 1) := by
 unfold firstL; congr 1
 funext j
 rw [setS_at hx, if_neg (fun q => hk q.1)]
theorem firstL_yes {g : Gm} {i : Nat} {x : Nd} (hx : g.ns[i]? = some x) (hk : x.k = 2) (h0 : 0 ≤ x.i) (h1 : x.i < g.is.length) : firstL g i = (firstL g (i + 1)).set x.i.toNat ((i : Int) + 1) := by
 apply List.ext_getElem?
 intro j; rw [List.getElem?_set, firstL_len]; by_cases hj : j < g.is.length
 ·
  rw [firstL_get hj, firstL_get hj, setS_at hx]; by_cases q : x.i.toNat = j
  ·
   rw [if_pos ⟨hk, by omega⟩, if_pos q, if_pos (by omega)]; rfl
  ·
   rw [if_neg (fun r => q (by omega)), if_neg q]
 ·
  rw [List.getElem?_eq_none (by rw [firstL_len]; omega), List.getElem?_eq_none (by rw [firstL_len]; omega), if_neg (by omega)]
open Classical
noncomputable def setsE (g : Gm) : Int :=
 if ∃ x ∈ g.ns, x.k = 2 ∧ g.is[x.i.toNat]? ≠ some (x.p, (x.nx.length : Int)) then 10
 else if ∃ s ∈ setsS g, s = [] then 18
 else if ∃ (i : Nat) (s t : List Int), (setsS g)[i]? = some s ∧ (setsS g)[i + 1]? = some t ∧ hdS t < hdS s then 9
 else 0
theorem setsS_get {g : Gm} {j : Nat} (h : j < g.is.length) : (setsS g)[j]? = some (setS (j : Int) 0 g.ns) := by
 unfold setsS; rw [List.getElem?_map, List.getElem?_range h]; rfl
theorem setsS_len {g : Gm} : (setsS g).length = g.is.length := by simp [setsS]
theorem setS_ge {i : Int} : ∀ {l : List Nd} {j : Nat} {y : Int}, y ∈ setS i j l → (j : Int) ≤ y := by
 intro l; induction l with
 | nil => intro j y h; cases h
 | cons x r ih =>
  intro j y h; unfold setS at h; split at h
  ·
   rcases List.mem_cons.1 h with q | q
   ·
    omega
   ·
    have := ih q; omega
  ·
   have := ih h; omega
theorem hdS_nil {i : Int} {j : Nat} {l : List Nd} : hdS (setS i j l) + 1 = 0 ↔ setS i j l = [] := by
 constructor
 ·
  intro h; cases hs : setS i j l with
  | nil => rfl
  | cons y r => rw [hs] at h; have := setS_ge (i := i) (j := j) (l := l) (y := y) (by rw [hs]; exact .head _); simp only [hdS] at h; omega
 ·
  intro h; rw [h]; rfl
theorem sets_none {g : Gm} : (∃ s ∈ setsS g, s = []) ↔ (0 : Int) ∈ firstL g 0 := by
 constructor
 ·
  rintro ⟨s, hs, rfl⟩; obtain ⟨j, hj⟩ := List.mem_iff_getElem?.1 hs; have hl : j < g.is.length := by have := (List.getElem?_eq_some_iff.1 hj).1; rwa [setsS_len] at this
  rw [setsS_get hl] at hj; injection hj with hj
  have := firstL_get (g := g) (i := 0) hl; rw [List.drop_zero, hdS_nil.2 hj] at this; exact List.mem_of_getElem? this
 ·
  intro h; obtain ⟨j, hj⟩ := List.mem_iff_getElem?.1 h; have hl : j < g.is.length := by have := (List.getElem?_eq_some_iff.1 hj).1; rwa [firstL_len] at this
  rw [firstL_get hl, List.drop_zero] at hj; injection hj with hj
  exact ⟨_, List.mem_of_getElem? (setsS_get hl), hdS_nil.1 hj⟩
theorem sets_asc {g : Gm} : (∃ (i : Nat) (s t : List Int), (setsS g)[i]? = some s ∧ (setsS g)[i + 1]? = some t ∧ hdS t < hdS s) ↔ ¬ Asc (firstL g 0) := by
 constructor
 ·
  rintro ⟨i, s, t, h1, h2, h3⟩ h; have hl : i + 1 < g.is.length := by have := (List.getElem?_eq_some_iff.1 h2).1; rwa [setsS_len] at this
  rw [setsS_get (by omega)] at h1; rw [setsS_get hl] at h2; injection h1 with h1; injection h2 with h2
  refine h i _ _ (firstL_get (by omega)) (firstL_get hl) ?_; rw [List.drop_zero, h1, h2]; omega
 ·
  intro h; refine Classical.byContradiction fun q => h fun i x y hx hy hlt => q ?_; have hl : i + 1 < g.is.length := by have := (List.getElem?_eq_some_iff.1 hy).1; rwa [firstL_len] at this
  rw [firstL_get (by omega), List.drop_zero] at hx; rw [firstL_get hl, List.drop_zero] at hy; injection hx with hx; injection hy with hy
  exact ⟨i, _, _, setsS_get (by omega), setsS_get hl, by omega⟩
end Go.Opn
namespace Go.Opn
structure Forest (ns : List Nd) (p : Int) (n0 n1 : Nat) (cs : List Int) (es : List Ent) : Prop where
 le : n0 ≤ n1
 len : es.length = n1 - n0
 kids : ∀ c ∈ cs, (n0 : Int) ≤ c ∧ c < n1 ∧ ∃ e : Ent, es[(c - n0).toNat]? = some e ∧ e.1 = p
 asc : cs.Pairwise (· < ·)
 each : ∀ j : Nat, n0 ≤ j → j < n1 → ∃ (x : Nd) (e : Ent), ns[j]? = some x ∧ es[j - n0]? = some e ∧ x.nx.Pairwise (· < ·) ∧
  (∀ c ∈ x.nx, (j : Int) < c ∧ c < n1 ∧ ∃ e' : Ent, es[(c - n0).toNat]? = some e' ∧ e'.1 = (j : Int)) ∧
  (((j : Int) ∈ cs ∧ e.1 = p) ∨ ((n0 : Int) ≤ e.1 ∧ e.1 < (j : Int) ∧ ∃ y : Nd, ns[e.1.toNat]? = some y ∧ (j : Int) ∈ y.nx))
theorem get_l {α : Type} {a b : List α} {i : Nat} {e : α} (h : a[i]? = some e) : (a ++ b)[i]? = some e := by
 rw [List.getElem?_append_left (List.getElem?_eq_some_iff.1 h).1]; exact h
theorem get_r {α : Type} {a b : List α} {i k : Nat} {e : α} (h : b[k]? = some e) (hi : i = a.length + k) : (a ++ b)[i]? = some e := by
 subst hi; rw [List.getElem?_append_right (by omega), show a.length + k - a.length = k by omega]; exact h
theorem Forest.cons {ns : List Nd} {p : Int} {n0 m n1 : Nat} {r : List Int} {e1 e2 : List Ent} (h1 : Forest ns p n0 m [(n0 : Int)] e1) (hm : n0 < m) (h2 : Forest ns p m n1 r e2) : Forest ns p n0 n1 ((n0 : Int) :: r) (e1 ++ e2) := by
 have l1 := h1.len; have l2 := h2.len; have le2 := h2.le; refine ⟨by omega, by rw [List.length_append]; omega, fun c hc => ?_, ?_, fun j j0 j1 => ?_⟩
 ·
  rcases List.mem_cons.1 hc with q | q
  ·
   obtain ⟨a1, a2, e, a3, a4⟩ := h1.kids c (by rw [q]; exact .head _); exact ⟨a1, by omega, e, get_l a3, a4⟩
  ·
   obtain ⟨a1, a2, e, a3, a4⟩ := h2.kids c q; exact ⟨by omega, a2, e, get_r a3 (by omega), a4⟩
 ·
  rw [List.pairwise_cons]; exact ⟨fun c hc => by have := (h2.kids c hc).1; omega, h2.asc⟩
 ·
  by_cases q : j < m
  ·
   obtain ⟨x, e, a1, a2, a3, a4, a5⟩ := h1.each j j0 q; refine ⟨x, e, a1, get_l a2, a3, fun c hc => ?_, ?_⟩
   ·
    obtain ⟨b1, b2, e', b3, b4⟩ := a4 c hc; exact ⟨b1, by omega, e', get_l b3, b4⟩
   ·
    rcases a5 with ⟨a5, a6⟩ | a5
    ·
     refine .inl ⟨?_, a6⟩; simp at a5; rw [a5]; exact .head _
    ·
     exact .inr a5
  ·
   obtain ⟨x, e, a1, a2, a3, a4, a5⟩ := h2.each j (by omega) j1; refine ⟨x, e, a1, get_r a2 (by omega), a3, fun c hc => ?_, ?_⟩
   ·
    obtain ⟨b1, b2, e', b3, b4⟩ := a4 c hc; exact ⟨b1, b2, e', get_r b3 (by omega), b4⟩
   ·
    rcases a5 with ⟨a5, a6⟩ | ⟨a5, a6⟩
    ·
     exact .inl ⟨.tail _ a5, a6⟩
    ·
     exact .inr ⟨by omega, a6⟩
theorem chS_forest {ns : List Nd} {p : Int} {rec : Nat → Option (Nat × List Ent)} (hr : ∀ n n1 e, rec n = some (n1, e) → n < n1 ∧ n1 ≤ ns.length ∧ Forest ns p n n1 [(n : Int)] e) : ∀ {cs : List Int} {n n1 : Nat} {e : List Ent}, chS rec cs n = some (n1, e) → Forest ns p n n1 cs e := by
 intro cs; induction cs with
 | nil =>
  intro n n1 e h; simp only [chS, Option.some.injEq, Prod.mk.injEq] at h; obtain ⟨rfl, rfl⟩ := h; exact ⟨Nat.le_refl _, by simp, (fun c hc => by cases hc), List.Pairwise.nil, (fun j j0 j1 => by omega)⟩
 | cons c cs ih =>
  intro n n1 e h; rw [chS_cons] at h; split at h
  ·
   cases h
  ·
   rename_i hc; have hc : c = (n : Int) := Classical.not_not.1 hc; subst hc; split at h
   ·
    cases h
   ·
    rename_i n2 e2 h2; obtain ⟨a1, a2, a3⟩ := hr _ _ _ h2; split at h
    ·
     cases h
    ·
     rename_i n3 e3 h3; simp only [Option.some.injEq, Prod.mk.injEq] at h; obtain ⟨rfl, rfl⟩ := h; exact a3.cons a1 (ih h3)
theorem trS_forest {ns : List Nd} : ∀ (f : Nat) (p d : Int) (n n1 : Nat) (e : List Ent), trS ns f p d n = some (n1, e) → n < n1 ∧ n1 ≤ ns.length ∧ Forest ns p n n1 [(n : Int)] e := by
 intro f; induction f with
 | zero => intro p d n n1 e h; cases h
 | succ f ih =>
  intro p d n n1 e h; have hl := trS_len _ _ _ _ _ _ h; refine ⟨hl.1, hl.2.1, ?_⟩; unfold trS at h; split at h
  ·
   cases h
  ·
   rename_i x hx; split at h
   ·
    cases h
   ·
    rename_i n2 es h2; simp only [Option.some.injEq, Prod.mk.injEq] at h; obtain ⟨rfl, rfl⟩ := h; have hf := chS_forest (p := (n : Int)) (fun a b c q => ih (n : Int) (d + 1) a b c q) h2; have hle := hf.le; have hlen := hf.len; refine ⟨by omega, by rw [List.length_cons]; omega, fun c hc => ?_, List.pairwise_singleton _ _, fun j j0 j1 => ?_⟩
    ·
     simp at hc; subst hc; exact ⟨by omega, by omega, (p, d, (n2 : Int) - 1), by simp, rfl⟩
    ·
     have sh : ∀ (c : Int) (e' : Ent), (n : Int) + 1 ≤ c → es[(c - ((n + 1 : Nat) : Int)).toNat]? = some e' → ((p, d, (n2 : Int) - 1) :: es)[(c - n).toNat]? = some e' := fun c e' q1 q2 => by
      rw [show (c - n).toNat = (c - ((n + 1 : Nat) : Int)).toNat + 1 by omega, List.getElem?_cons_succ]; exact q2
     by_cases q : j = n
     ·
      subst q; refine ⟨x, (p, d, (n2 : Int) - 1), hx, by simp, hf.asc, fun c hc => ?_, .inl ⟨.head _, rfl⟩⟩; obtain ⟨b1, b2, e', b3, b4⟩ := hf.kids c hc; exact ⟨by omega, b2, e', sh c e' (by omega) b3, b4⟩
     ·
      obtain ⟨y, e, a1, a2, a3, a4, a5⟩ := hf.each j (by omega) j1; refine ⟨y, e, a1, by rw [show j - n = (j - (n + 1)) + 1 by omega, List.getElem?_cons_succ]; exact a2, a3, fun c hc => ?_, ?_⟩
      ·
       obtain ⟨b1, b2, e', b3, b4⟩ := a4 c hc; exact ⟨b1, b2, e', sh c e' (by omega) b3, b4⟩
      ·
       rcases a5 with ⟨a5, a6⟩ | ⟨a5, a6⟩
       ·
        exact .inr ⟨by omega, by omega, x, by rw [a6, Int.toNat_natCast]; exact hx, a5⟩
       ·
        exact .inr ⟨by omega, a6⟩
structure Tree (g : Gm) (P : List Int) : Prop where
 len : P.length = g.ns.length
 root : P[0]? = some (-1)
 up : ∀ c : Nat, 1 ≤ c → c < g.ns.length → ∃ a : Nat, P[c]? = some (a : Int) ∧ a < c ∧ ∃ y, g.ns[a]? = some y ∧ (c : Int) ∈ y.nx
 down : ∀ (j : Nat) (x : Nd), g.ns[j]? = some x → x.nx.Pairwise (· < ·) ∧ ∀ c ∈ x.nx, (j : Int) < c ∧ c < g.ns.length ∧ P[c.toNat]? = some (j : Int)
theorem tree_of {g : Gm} {es : List Ent} {f : Nat} {d : Int} (h : trS g.ns f (-1) d 0 = some (g.ns.length, es)) : Tree g (es.map fun e => e.1) := by
 obtain ⟨h1, h2, hf⟩ := trS_forest _ _ _ _ _ _ h; have hl := hf.len; have hget : ∀ {i : Nat} {e : Ent}, es[i]? = some e → (es.map fun e => e.1)[i]? = some e.1 := fun q => by rw [List.getElem?_map, q]; rfl
 refine ⟨by rw [List.length_map]; omega, ?_, fun c c1 c2 => ?_, fun j x hx => ?_⟩
 ·
  obtain ⟨_, _, e, a3, a4⟩ := hf.kids 0 (.head _); have := hget a3; rw [a4] at this; exact this
 ·
  obtain ⟨x, e, a1, a2, _, _, a5⟩ := hf.each c (Nat.zero_le _) c2; have := hget a2; rcases a5 with ⟨a5, _⟩ | ⟨a5, a6, y, a7, a8⟩
  ·
   simp at a5; omega
  ·
   refine ⟨e.1.toNat, ?_, by omega, y, a7, a8⟩; rw [Nat.sub_zero] at this; rw [this]; congr 1; omega
 ·
  have hj := (List.getElem?_eq_some_iff.1 hx).1; obtain ⟨y, e, a1, a2, a3, a4, _⟩ := hf.each j (Nat.zero_le _) hj; rw [hx] at a1; injection a1 with a1; subst a1
  refine ⟨a3, fun c hc => ?_⟩; obtain ⟨b1, b2, e', b3, b4⟩ := a4 c hc; refine ⟨b1, b2, ?_⟩; have := hget b3; rw [b4] at this; rw [← this]; congr 1; omega
def ancP (P : List Int) (at_ : Nat) : List (Nat × Nat) :=
 match P[at_]? with
 | none => []
 | some a => if h : 0 ≤ a ∧ a.toNat < at_ then (a.toNat, at_) :: ancP P a.toNat else []
termination_by at_
decreasing_by exact h.2
theorem ancP_up {P : List Int} {c a : Nat} (h : P[c]? = some (a : Int)) (ha : a < c) : ancP P c = (a, c) :: ancP P a := by
 conv => lhs; unfold ancP
 rw [h]; simp only; rw [dif_pos ⟨by omega, by omega⟩, Int.toNat_natCast]
theorem ancP_root {P : List Int} {c : Nat} {a : Int} (h : P[c]? = some a) (ha : a < 0) : ancP P c = [] := by
 unfold ancP; rw [h]; simp only; rw [dif_neg (by omega)]
theorem ancP_cases (P : List Int) (c : Nat) : ancP P c = [] ∨ ∃ a, P[c]? = some ((a : Nat) : Int) ∧ a < c ∧ ancP P c = (a, c) :: ancP P a := by
 cases hp : P[c]? with
 | none => left; unfold ancP; rw [hp]
 | some b =>
  by_cases hb : 0 ≤ b ∧ b.toNat < c
  ·
   right
   have hb' : P[c]? = some ((b.toNat : Nat) : Int) := by rw [hp]; congr 1; omega
   exact ⟨b.toNat, by rw [← hb', hp], hb.2, ancP_up hb' hb.2⟩
  ·
   left; unfold ancP; rw [hp]; simp only; rw [dif_neg hb]
theorem ancP_mem {P : List Int} : ∀ (n c : Nat), c ≤ n → ∀ {a d : Nat}, (a, d) ∈ ancP P c → ∃ pre, ancP P c = pre ++ (a, d) :: ancP P a := by
 intro n; induction n with
 | zero =>
  intro c hc a d h; rcases ancP_cases P c with q | ⟨b, q1, q2, q3⟩
  ·
   rw [q] at h; cases h
  ·
   omega
 | succ n ih =>
  intro c hc a d h; rcases ancP_cases P c with q | ⟨b, q1, q2, q3⟩
  ·
   rw [q] at h; cases h
  ·
   rw [q3] at h ⊢; rcases List.mem_cons.1 h with q | q
   ·
    injection q with q4 q5; exact ⟨[], by rw [q4, q5]; rfl⟩
   ·
    obtain ⟨pre, hpre⟩ := ih b (by omega) q; exact ⟨(b, c) :: pre, by rw [hpre]; rfl⟩
def mvOf (g : Gm) (p : Int) (x : Nat × Nat) : Option (Nat × Int) := match g.ns[x.1]? with
 | none => none
 | some y => if y.k = 2 ∧ y.p = p then some (x.1, idxS (x.2 : Int) y.nx 0) else none
def mvL (g : Gm) (P : List Int) (p : Int) (c : Nat) : List (Nat × Int) := (ancP P c).filterMap (mvOf g p)
def infOf (g : Gm) (a : Nat) : Int := match g.ns[a]? with | none => 0 | some y => y.i
def wayL (g : Gm) (P : List Int) (p : Int) (c : Nat) : List (Int × Int) := (mvL g P p c).map fun x => (infOf g x.1, x.2)
def wayS (g : Gm) (P : List Int) (p : Int) (c : Nat) : List (Int × Int) := (wayL g P p c).reverse
theorem mvL_yes {g : Gm} {P : List Int} {p : Int} {c a : Nat} {y : Nd} (h : P[c]? = some (a : Int)) (ha : a < c) (hy : g.ns[a]? = some y) (hm : y.k = 2 ∧ y.p = p) : mvL g P p c = (a, idxS (c : Int) y.nx 0) :: mvL g P p a := by
 unfold mvL; rw [ancP_up h ha, List.filterMap_cons]; have : mvOf g p (a, c) = some (a, idxS (c : Int) y.nx 0) := by unfold mvOf; simp only [hy]; rw [if_pos hm]
 rw [this]
theorem mvL_no {g : Gm} {P : List Int} {p : Int} {c a : Nat} {y : Nd} (h : P[c]? = some (a : Int)) (ha : a < c) (hy : g.ns[a]? = some y) (hm : ¬ (y.k = 2 ∧ y.p = p)) : mvL g P p c = mvL g P p a := by
 unfold mvL; rw [ancP_up h ha, List.filterMap_cons]; have : mvOf g p (a, c) = none := by unfold mvOf; simp only [hy]; rw [if_neg hm]
 rw [this]
theorem mvL_root {g : Gm} {P : List Int} {p : Int} {c : Nat} {a : Int} (h : P[c]? = some a) (ha : a < 0) : mvL g P p c = [] := by
 unfold mvL; rw [ancP_root h ha]; rfl
theorem mvL_len {g : Gm} {P : List Int} {p : Int} : ∀ (n c : Nat), c ≤ n → (mvL g P p c).length ≤ c := by
 have key : ∀ (n c : Nat), c ≤ n → (ancP P c).length ≤ c := by
  intro n; induction n with
  | zero =>
   intro c hc; unfold ancP; split
   ·
    simp
   ·
    split
    ·
     omega
    ·
     simp
  | succ n ih =>
   intro c hc; unfold ancP; split
   ·
    simp
   ·
    split
    ·
     rename_i b _ hb; have := ih b.toNat (by omega); rw [List.length_cons]; omega
    ·
     simp
 intro n c hc; exact Nat.le_trans (List.length_filterMap_le _ _) (key n c hc)
theorem way_longer {g : Gm} {P : List Int} {p : Int} {c a d : Nat} {y : Nd} (h : (a, d) ∈ ancP P c) (hy : g.ns[a]? = some y) (hm : y.k = 2 ∧ y.p = p) : wayS g P p c ≠ wayS g P p a := by
 intro q; have hl : (wayS g P p c).length = (wayS g P p a).length := by rw [q]
 obtain ⟨pre, hpre⟩ := ancP_mem c c (Nat.le_refl _) h; unfold wayS wayL mvL at hl; rw [hpre, List.filterMap_append, List.filterMap_cons] at hl; have : mvOf g p (a, d) = some (a, idxS (d : Int) y.nx 0) := by unfold mvOf; simp only [hy]; rw [if_pos hm]
 rw [this] at hl; simp only [List.length_reverse, List.length_map, List.length_append, List.length_cons] at hl; omega
def visS {σ : Type} (step : σ → Nat → Int → σ × Bool) : σ → List (Nat × Int) → σ
 | s, [] => s
 | s, x :: r => if (step s x.1 x.2).2 = true then visS step (step s x.1 x.2).1 r else (step s x.1 x.2).1
end Go.Opn
namespace Go.Opn
structure ParI (P L : List Int) (i : Nat) (kids : List Int) : Prop where
 len : L.length = P.length
 root : L[0]? = some (-1)
 done : ∀ (c : Nat) (a : Int), 1 ≤ c → P[c]? = some a → (a < i ∨ (a = i ∧ (c : Int) ∈ kids)) → L[c]? = some a
theorem ParI.step {P L : List Int} {i k : Nat} {nx : List Int} {c0 : Int} (h : ParI P L i (nx.take k)) (hx : nx[k]? = some c0) (h1 : 1 ≤ c0) (h2 : P[c0.toNat]? = some (i : Int)) : ParI P (L.set c0.toNat i) i (nx.take (k + 1)) := by
 have hlt := (List.getElem?_eq_some_iff.1 h2).1; refine ⟨by rw [List.length_set]; exact h.len, ?_, fun c a hc ha hd => ?_⟩
 ·
  rw [List.getElem?_set, if_neg (by omega)]; exact h.root
 ·
  rw [List.getElem?_set, h.len]; by_cases q : c0.toNat = c
  ·
   rw [if_pos q, if_pos hlt]; rw [q, ha] at h2; exact h2.symm
  ·
   rw [if_neg q]; refine h.done c a hc ha ?_; rcases hd with hd | ⟨hd1, hd2⟩
   ·
    exact .inl hd
   ·
    refine .inr ⟨hd1, ?_⟩; rw [List.take_add_one, hx] at hd2; rcases List.mem_append.1 hd2 with r | r
    ·
     exact r
    ·
     simp at r; omega
theorem ParI.next {g : Gm} {P L : List Int} {i : Nat} {x : Nd} (ht : Tree g P) (hx : g.ns[i]? = some x) (h : ParI P L i x.nx) : ParI P L (i + 1) [] := by
 refine ⟨h.len, h.root, fun c a hc ha hd => ?_⟩; rcases hd with hd | ⟨_, hd⟩
 ·
  by_cases q : a < i
  ·
   exact h.done c a hc ha (.inl q)
  ·
   have hcl : c < g.ns.length := by rw [← ht.len]; exact (List.getElem?_eq_some_iff.1 ha).1
   obtain ⟨b, h1, h2, y, h3, h4⟩ := ht.up c hc hcl; rw [ha] at h1; injection h1 with h1
   obtain rfl : b = i := by omega
   rw [hx] at h3; injection h3 with h3; subst h3
   exact h.done c a hc ha (.inr ⟨h1, h4⟩)
 ·
  cases hd
theorem ParI.all {g : Gm} {P L : List Int} (ht : Tree g P) (h : ParI P L g.ns.length []) (hn : 1 ≤ g.ns.length) : L = P := by
 apply List.ext_getElem?
 intro c; by_cases hc : c < g.ns.length
 ·
  by_cases q : c = 0
  ·
   subst q; rw [h.root, ht.root]
  ·
   obtain ⟨a, h1, h2, _⟩ := ht.up c (by omega) hc; rw [h1, h.done c a (by omega) h1 (.inl (by omega))]
 ·
  rw [List.getElem?_eq_none (by rw [h.len, ht.len]; omega), List.getElem?_eq_none (by rw [ht.len]; omega)]
theorem idxS_spec {v : Int} : ∀ {l : List Int} {n : Nat}, 0 ≤ idxS v l n → ∃ m : Nat, idxS v l n = ((n + m : Nat) : Int) ∧ l[m]? = some v := by
 intro l; induction l with
 | nil => intro n h; simp [idxS] at h
 | cons x r ih =>
  intro n h; unfold idxS at h ⊢; split
  ·
   rename_i q; exact ⟨0, by simp, by rw [q]; rfl⟩
  ·
   rename_i q; rw [if_neg q] at h; obtain ⟨m, h1, h2⟩ := ih h; exact ⟨m + 1, by rw [h1]; congr 1; omega, by rw [List.getElem?_cons_succ]; exact h2⟩
theorem pw_get {l : List Int} (h : l.Pairwise (· < ·)) {i j : Nat} {x y : Int} (hi : l[i]? = some x) (hj : l[j]? = some y) (hij : i < j) : x < y := by
 obtain ⟨h1, h2⟩ := List.getElem?_eq_some_iff.1 hi; obtain ⟨h3, h4⟩ := List.getElem?_eq_some_iff.1 hj; have := List.pairwise_iff_getElem.1 h i j h1 h3 hij; omega
theorem idxS_uniq {v w : Int} {l : List Int} {k : Nat} (h : l.Pairwise (· < ·)) (hk : l[k]? = some w) : w = v ↔ idxS v l 0 = (k : Int) := by
 constructor
 ·
  rintro rfl; obtain ⟨m, h1, h2⟩ := idxS_spec (idxS_mem (n := 0).2 (List.mem_of_getElem? hk)); rw [h1]; by_cases q1 : m < k
  ·
   have := pw_get h h2 hk q1; omega
  ·
   by_cases q2 : k < m
   ·
    have := pw_get h hk h2 q2; omega
   ·
    omega
 ·
  intro q; obtain ⟨m, h1, h2⟩ := idxS_spec (v := v) (l := l) (n := 0) (by omega); obtain rfl : m = k := by omega
  rw [hk] at h2; injection h2
def inS (done : List (Int × Int)) (y : Nd) (p : Int) (c k : Nat) : List (Int × Int) := done ++ (if (y.k = 2 ∧ y.p = p) ∧ 0 ≤ idxS (c : Int) y.nx 0 ∧ idxS (c : Int) y.nx 0 < (k : Int) then [(y.i, idxS (c : Int) y.nx 0)] else [])
theorem inS_zero {done : List (Int × Int)} {y : Nd} {p : Int} {c : Nat} : inS done y p c 0 = done := by
 unfold inS; rw [if_neg (fun q => by omega), List.append_nil]
theorem inS_yes {done : List (Int × Int)} {y : Nd} {p : Int} {c k : Nat} {w : Int} (h : y.nx.Pairwise (· < ·)) (hm : y.k = 2 ∧ y.p = p) (hk : y.nx[k]? = some w) (hw : w = (c : Int)) : inS done y p c (k + 1) = inS done y p c k ++ [(y.i, (k : Int))] := by
 have hi := (idxS_uniq (v := (c : Int)) h hk).1 hw; unfold inS; rw [if_pos ⟨hm, by omega, by omega⟩, if_neg (fun q => by omega), List.append_nil, hi]
theorem inS_no {done : List (Int × Int)} {y : Nd} {p : Int} {c k : Nat} {w : Int} (h : y.nx.Pairwise (· < ·)) (hk : y.nx[k]? = some w) (hw : w ≠ (c : Int)) : inS done y p c (k + 1) = inS done y p c k := by
 have hi : ¬ idxS (c : Int) y.nx 0 = (k : Int) := fun q => hw ((idxS_uniq (v := (c : Int)) h hk).2 q); unfold inS; by_cases q : (y.k = 2 ∧ y.p = p) ∧ 0 ≤ idxS (c : Int) y.nx 0 ∧ idxS (c : Int) y.nx 0 < (k : Int)
 ·
  rw [if_pos q, if_pos ⟨q.1, q.2.1, by omega⟩]
 ·
  rw [if_neg q, if_neg (fun r => q ⟨r.1, r.2.1, by omega⟩)]
theorem inS_len {done : List (Int × Int)} {y : Nd} {p : Int} {c k : Nat} : (inS done y p c k).length ≤ done.length + 1 := by
 unfold inS; rw [List.length_append]; split <;> simp
theorem inS_all {g : Gm} {P : List Int} {done : List (Int × Int)} {y : Nd} {p : Int} {a c k : Nat} (hp : P[c]? = some (a : Int)) (hac : a < c) (hy : g.ns[a]? = some y) (hc : (c : Int) ∈ y.nx) (hk : (y.k = 2 ∧ y.p = p) → y.nx.length ≤ k) : inS done y p c k ++ wayL g P p a = done ++ wayL g P p c := by
 unfold inS wayL; rw [List.append_assoc]; congr 1
 by_cases q : y.k = 2 ∧ y.p = p
 ·
  have h1 := idxS_mem (n := 0).2 hc; have h2 := idxS_lt (v := (c : Int)) (l := y.nx) (n := 0); rw [if_pos ⟨q, h1, by have := hk q; omega⟩, mvL_yes hp hac hy q, List.map_cons]; have : infOf g a = y.i := by unfold infOf; rw [hy]
  rw [this]; rfl
 ·
  rw [if_neg (fun r => q r.1), mvL_no hp hac hy q]; rfl
def Again (g : Gm) (P : List Int) (i : Int) (c : Nat) : Prop := ∃ a d y, (a, d) ∈ ancP P c ∧ g.ns[a]? = some y ∧ y.k = 2 ∧ y.i = i
theorem again_up {g : Gm} {P : List Int} {i : Int} {c a : Nat} {y : Nd} (hp : P[c]? = some (a : Int)) (hac : a < c) (hy : g.ns[a]? = some y) : Again g P i c ↔ (y.k = 2 ∧ y.i = i) ∨ Again g P i a := by
 unfold Again; rw [ancP_up hp hac]; constructor
 ·
  rintro ⟨b, d, z, h1, h2, h3⟩; rcases List.mem_cons.1 h1 with q | q
  ·
   injection q with q1 q2; subst q1
   rw [hy] at h2; injection h2 with h2; subst h2
   exact .inl h3
  ·
   exact .inr ⟨b, d, z, q, h2, h3⟩
 ·
  rintro (h | ⟨b, d, z, h1, h2, h3⟩)
  ·
   exact ⟨a, c, y, .head _, hy, h⟩
  ·
   exact ⟨b, d, z, .tail _ h1, h2, h3⟩
theorem again_root {g : Gm} {P : List Int} {i : Int} {c : Nat} {a : Int} (hp : P[c]? = some a) (ha : a < 0) : ¬ Again g P i c := by
 rintro ⟨b, d, z, h1, _⟩; rw [ancP_root hp ha] at h1; cases h1
end Go.Opn
namespace Go.Opn
open Go
theorem dec_one {u : Nat} (h : u < 10) : Lib.decDigits u = [UInt8.ofNat (48 + u)] := Lib.decDigits_one h
theorem dec_more {u : Nat} (h : ¬ u < 10) : Lib.decDigits u = Lib.decDigits (u / 10) ++ Lib.decDigits (u % 10) := by
 rw [dec_one (show u % 10 < 10 by omega)]; conv => lhs; rw [Lib.decDigits, dif_neg h]
theorem dec_len {u : Nat} (h : u ≤ 9223372036854775807) : (Lib.decDigits u).length ≤ 21 := by
 have := Lib.itoa_length_le (u : Int) (by omega) (by omega); rwa [Lib.itoa_nonneg] at this
theorem dec_len' {u : Nat} (h : u ≤ 9223372036854775808) : (Lib.decDigits u).length ≤ 21 := by
 by_cases q : u ≤ 9223372036854775807
 ·
  exact dec_len q
 ·
  obtain rfl : u = 9223372036854775808 := by omega
  have := Lib.itoa_length_le (-((9223372036854775808 : Nat) : Int)) (by omega) (by omega); rw [Lib.itoa_neg _ (by omega)] at this; simp at this ⊢; omega
def numT (l : List Int) : List UInt8 := l.flatMap fun n => 32 :: Lib.itoa n
theorem numT_next {l : List Int} {i : Nat} {x : Int} (hx : l[i]? = some x) : numT (l.take (i + 1)) = numT (l.take i) ++ (32 :: Lib.itoa x) := by
 unfold numT; rw [List.take_add_one, hx]; simp
theorem numT_len {l : List Int} (h : ∀ x ∈ l, -9223372036854775808 ≤ x ∧ x ≤ 9223372036854775807) : (numT l).length ≤ 22 * l.length := by
 induction l with
 | nil => simp [numT]
 | cons x r ih =>
  have h1 := ih fun y hy => h y (.tail _ hy); have h2 := Lib.itoa_length_le x (h x (.head _)).1 (h x (.head _)).2; show ((32 :: Lib.itoa x) ++ numT r).length ≤ _; rw [List.length_append, List.length_cons, List.length_cons]; omega
end Go.Opn

/- A part of the proof of ProtocolBack. -/
import Derived.Test.YtaopiiohjbjgkaaGreatDoorOpnT
import Derived.Test.YtaopiiohjbjgkaaGreatDoorProg
import Derived.KernelRfl
import Derived.Test.YtaopiiohjbjgkaaGreatDoorOpnY
set_option maxRecDepth 100000
namespace Go.Opn
open Go.Cre Go.RowKit Go.Proofs
theorem mix : Tryz.prog.follows .mixedOrders = true := by kernel_rfl
theorem num : numOk Tryz.prog = true := by kernel_rfl
noncomputable abbrev PG : Program := Tryz.prog
noncomputable abbrev kx (Q : Worlds Tryz.prog) (g0 : Nat) : Kx := ⟨Tryz.prog, ftOf Tryz.prog, pf_of mix num, Q, g0⟩
end Go.Opn
set_option maxRecDepth 100000
set_option linter.unusedVariables false
namespace Go.Opn
open Go.Cre Go.RowKit Go.Proofs
section
variable (Q : Worlds PG) (g0 : Nat)
noncomputable def agL : List (Nat × Option Nat) := [(3, none), (4, none), (5, none), (9, none), (22, none), (24, some 3), (26, none), (30, some 2), (51, none), (53, some 6), (54, some 72), (68, some 3), (107, some 4), (131, none)]
theorem agOk : agL.map (fun x => aggSize PG x.1) = agL.map (fun x => some (id x.2)) := by kernel_rfl
noncomputable def szL : List (Nat × Nat) := [(3, 1), (4, 1), (9, 1), (22, 1), (24, 3), (30, 2), (53, 6), (54, 72), (107, 4)]
theorem szOk : szL.map (fun x => sizeT PG x.1) = szL.map (fun x => some (id x.2)) := by kernel_rfl
noncomputable def foL : List (Nat × Nat) := [(2400, 0), (2401, 1), (2402, 2), (3000, 0), (5300, 0), (5301, 1), (5302, 2), (5303, 3), (5304, 4), (5305, 5), (6000, 0), (6001, 3), (6002, 9), (10700, 0), (10701, 1), (10702, 2), (10703, 3)]
theorem foOk : foL.map (fun x => fieldOff PG (x.1 / 100) (x.1 % 100)) = foL.map (fun x => some (id x.2)) := by kernel_rfl
noncomputable def ftL : List (Nat × (Nat × Nat)) := []
theorem ftOk : ftL.map (fun x => fieldT PG (x.1 / 100) (x.1 % 100)) = ftL.map (fun x => some (id x.2)) := by kernel_rfl
noncomputable def arL : List (Nat × (Nat × Nat × Nat)) := [(54, 12, 53, 6), (197, 33, 4, 1), (198, 126, 4, 1), (250, 5, 9, 1)]
theorem arOk : arL.map (fun x => arrT PG x.1) = arL.map (fun x => some (id x.2)) := by kernel_rfl
noncomputable def esL : List (Nat × Nat) := [(22, 1), (89, 1), (249, 1)]
theorem esOk : esL.map (fun x => elemSz PG x.1) = esL.map (fun x => some (id x.2)) := by kernel_rfl
noncomputable def cvL : List (Nat × IntKind) := [(50003, .i64)]
theorem cvOk : cvL.map (fun x => isInt PG (x.1 / 10000) (x.1 % 10000)) = cvL.map (fun x => some (id x.2)) := by kernel_rfl
noncomputable def buL : List (Nat × (Sum (List (Nat × Nat)) Nat × List Value)) := [(24, .inl [(0, 1), (1, 1), (2, 1)], [(.int .i64 (0)), (.string ⟨⟨[]⟩⟩), (.slice none 0 0)]), (30, .inl [(0, 1), (1, 1)], [(.int .i64 (0)), (.int .i64 (0))]), (53, .inl [(0, 1), (1, 1), (2, 1), (3, 1), (4, 1), (5, 1)], [(.string ⟨⟨[]⟩⟩), (.bool false), (.int .i64 (0)), (.int .i64 (0)), .nilFunc, (.int .i64 (0))]), (54, .inr 6, [(.string ⟨⟨[]⟩⟩), (.bool false), (.int .i64 (0)), (.int .i64 (0)), .nilFunc, (.int .i64 (0)), (.string ⟨⟨[]⟩⟩), (.bool false), (.int .i64 (0)), (.int .i64 (0)), .nilFunc, (.int .i64 (0)), (.string ⟨⟨[]⟩⟩), (.bool false), (.int .i64 (0)), (.int .i64 (0)), .nilFunc, (.int .i64 (0)), (.string ⟨⟨[]⟩⟩), (.bool false), (.int .i64 (0)), (.int .i64 (0)), .nilFunc, (.int .i64 (0)), (.string ⟨⟨[]⟩⟩), (.bool false), (.int .i64 (0)), (.int .i64 (0)), .nilFunc, (.int .i64 (0)), (.string ⟨⟨[]⟩⟩), (.bool false), (.int .i64 (0)), (.int .i64 (0)), .nilFunc, (.int .i64 (0)), (.string ⟨⟨[]⟩⟩), (.bool false), (.int .i64 (0)), (.int .i64 (0)), .nilFunc, (.int .i64 (0)), (.string ⟨⟨[]⟩⟩), (.bool false), (.int .i64 (0)), (.int .i64 (0)), .nilFunc, (.int .i64 (0)), (.string ⟨⟨[]⟩⟩), (.bool false), (.int .i64 (0)), (.int .i64 (0)), .nilFunc, (.int .i64 (0)), (.string ⟨⟨[]⟩⟩), (.bool false), (.int .i64 (0)), (.int .i64 (0)), .nilFunc, (.int .i64 (0)), (.string ⟨⟨[]⟩⟩), (.bool false), (.int .i64 (0)), (.int .i64 (0)), .nilFunc, (.int .i64 (0)), (.string ⟨⟨[]⟩⟩), (.bool false), (.int .i64 (0)), (.int .i64 (0)), .nilFunc, (.int .i64 (0))]), (107, .inl [(0, 1), (1, 1), (2, 1), (3, 1)], [(.int .i64 (0)), (.string ⟨⟨[]⟩⟩), (.int .i64 (0)), (.int .i64 (0))]), (205, .inl [(0, 2)], [(.int .i64 (0)), (.int .i64 (0))]), (250, .inr 1, [(.string ⟨⟨[]⟩⟩), (.string ⟨⟨[]⟩⟩), (.string ⟨⟨[]⟩⟩), (.string ⟨⟨[]⟩⟩), (.string ⟨⟨[]⟩⟩)])]
theorem buOk : buL.map (fun x => buildT PG x.1) = buL.map (fun x => some (id x.2)) := by kernel_rfl
noncomputable def isL : List Nat := [22, 56, 89, 249]
theorem isOk : isL.all (fun t => isSlice PG t) = true := by kernel_rfl
noncomputable def itL : List Nat := [9]
theorem itOk : itL.all (fun t => isStr PG t) = true := by kernel_rfl
noncomputable def niL : List Nat := [205]
theorem niOk : niL.all (fun t => notIface PG t) = true := by kernel_rfl
theorem ze4 : zeroT (kx Q g0).P 4 = some (.bool false) := by kernel_rfl
theorem ze24 : zeroT (kx Q g0).P 24 = some (.agg #[(.int .i64 (0)), (.string ⟨⟨[]⟩⟩), (.slice none 0 0)]) := by kernel_rfl
theorem ze30 : zeroT (kx Q g0).P 30 = some (.agg #[(.int .i64 (0)), (.int .i64 (0))]) := by kernel_rfl
theorem ze53 : zeroT (kx Q g0).P 53 = some (.agg #[(.string ⟨⟨[]⟩⟩), (.bool false), (.int .i64 (0)), (.int .i64 (0)), .nilFunc, (.int .i64 (0))]) := by kernel_rfl
theorem ze54 : zeroT (kx Q g0).P 54 = some (.agg #[(.string ⟨⟨[]⟩⟩), (.bool false), (.int .i64 (0)), (.int .i64 (0)), .nilFunc, (.int .i64 (0)), (.string ⟨⟨[]⟩⟩), (.bool false), (.int .i64 (0)), (.int .i64 (0)), .nilFunc, (.int .i64 (0)), (.string ⟨⟨[]⟩⟩), (.bool false), (.int .i64 (0)), (.int .i64 (0)), .nilFunc, (.int .i64 (0)), (.string ⟨⟨[]⟩⟩), (.bool false), (.int .i64 (0)), (.int .i64 (0)), .nilFunc, (.int .i64 (0)), (.string ⟨⟨[]⟩⟩), (.bool false), (.int .i64 (0)), (.int .i64 (0)), .nilFunc, (.int .i64 (0)), (.string ⟨⟨[]⟩⟩), (.bool false), (.int .i64 (0)), (.int .i64 (0)), .nilFunc, (.int .i64 (0)), (.string ⟨⟨[]⟩⟩), (.bool false), (.int .i64 (0)), (.int .i64 (0)), .nilFunc, (.int .i64 (0)), (.string ⟨⟨[]⟩⟩), (.bool false), (.int .i64 (0)), (.int .i64 (0)), .nilFunc, (.int .i64 (0)), (.string ⟨⟨[]⟩⟩), (.bool false), (.int .i64 (0)), (.int .i64 (0)), .nilFunc, (.int .i64 (0)), (.string ⟨⟨[]⟩⟩), (.bool false), (.int .i64 (0)), (.int .i64 (0)), .nilFunc, (.int .i64 (0)), (.string ⟨⟨[]⟩⟩), (.bool false), (.int .i64 (0)), (.int .i64 (0)), .nilFunc, (.int .i64 (0)), (.string ⟨⟨[]⟩⟩), (.bool false), (.int .i64 (0)), (.int .i64 (0)), .nilFunc, (.int .i64 (0))]) := by kernel_rfl
theorem ze60 : zeroT (kx Q g0).P 60 = some (.agg #[(.int .i64 (0)), (.string ⟨⟨[]⟩⟩), (.slice none 0 0), (.string ⟨⟨[]⟩⟩), (.bool false), (.int .i64 (0)), (.int .i64 (0)), .nilFunc, (.int .i64 (0)), (.bool false)]) := by kernel_rfl
theorem ze107 : zeroT (kx Q g0).P 107 = some (.agg #[(.int .i64 (0)), (.string ⟨⟨[]⟩⟩), (.int .i64 (0)), (.int .i64 (0))]) := by kernel_rfl
theorem sb22 : slT (kx Q g0).P 22 = some (3, 1, [(.int .i64 (0))]) := by kernel_rfl
theorem sb56 : slT (kx Q g0).P 56 = some (9, 1, [(.string ⟨⟨[]⟩⟩)]) := by kernel_rfl
theorem sb89 : slT (kx Q g0).P 89 = some (5, 1, [(.int .u8 (0))]) := by kernel_rfl
theorem sb249 : slT (kx Q g0).P 249 = some (131, 1, [(.int .i64 (0))]) := by kernel_rfl
theorem un9 : (kx Q g0).P.underlying 9 = some .string := by kernel_rfl
theorem un22 : (kx Q g0).P.underlying 22 = some (.slice 3) := by kernel_rfl
theorem un56 : (kx Q g0).P.underlying 56 = some (.slice 9) := by kernel_rfl
theorem un89 : (kx Q g0).P.underlying 89 = some (.slice 5) := by kernel_rfl
theorem un249 : (kx Q g0).P.underlying 249 = some (.slice 131) := by kernel_rfl
theorem in30 : intsT (kx Q g0).P 30 = some 2 := by kernel_rfl
theorem if94 : isIface (kx Q g0).P 94 = true := by kernel_rfl
theorem sr9_89 : strT (kx Q g0).P 9 89 = some 5 := by kernel_rfl
end
end Go.Opn
set_option maxRecDepth 100000
set_option linter.unusedVariables false
set_option linter.unusedSimpArgs false
namespace Go.Opn
open Go.Cre Go.RowKit Go.Proofs
section
variable {Q : Worlds PG} {g0 : Nat}
theorem lk_ok {α β : Type} {f : Nat → Option β} {g : α → β} : ∀ {L : List (Nat × α)}, L.map (fun x => f x.1) = L.map (fun x => some (g x.2)) → ∀ {t : Nat} {r : α}, lk L t = some r → f t = some (g r) := by
 intro L
 induction L with
 | nil => intro _ t r h; cases h
 | cons x L ih =>
  obtain ⟨u, v⟩ := x
  intro h t r hr
  rw [List.map_cons, List.map_cons, List.cons.injEq] at h
  simp only [lk] at hr
  cases hb : Nat.beq t u with
  | true =>
   rw [hb, cond_true] at hr
   injection hr with hr; subst hr
   obtain rfl := Nat.eq_of_beq_eq_true hb
   exact h.1
  | false => rw [hb, cond_false] at hr; exact ih h.2 hr
theorem lkB_ok {f : Nat → Bool} : ∀ {L : List Nat}, L.all f = true → ∀ {t : Nat}, memB t L = true → f t = true := by
 intro L
 induction L with
 | nil => intro _ t h; cases h
 | cons u L ih =>
  intro h t ht
  rw [List.all_cons, Bool.and_eq_true] at h
  simp only [memB] at ht
  cases hb : Nat.beq t u with
  | true => obtain rfl := Nat.eq_of_beq_eq_true hb; exact h.1
  | false => rw [hb, cond_false] at ht; exact ih h.2 ht
theorem tAg {t : Nat} {r : Option Nat} (h : lk agL t = some r) : aggSize (kx Q g0).P t = some r := lk_ok (f := fun t => aggSize PG t) (g := id) agOk h
theorem tSz {t : Nat} {r : Nat} (h : lk szL t = some r) : sizeT (kx Q g0).P t = some r := lk_ok (f := fun t => sizeT PG t) (g := id) szOk h
theorem tFo {t f : Nat} {r : Nat} (h : lk foL (t * 100 + f) = some r) (hf : Nat.blt f 100 = true) : fieldOff (kx Q g0).P t f = some r := by
 have := lk_ok (f := fun k => fieldOff PG (k / 100) (k % 100)) (g := id) foOk h
 have hf : f < 100 := by simpa [Nat.blt, Nat.succ_le_iff] using hf
 rwa [show (t * 100 + f) / 100 = t by omega, show (t * 100 + f) % 100 = f by omega] at this
theorem tFt {t f : Nat} {r : Nat × Nat} (h : lk ftL (t * 100 + f) = some r) (hf : Nat.blt f 100 = true) : fieldT (kx Q g0).P t f = some r := by
 have := lk_ok (f := fun k => fieldT PG (k / 100) (k % 100)) (g := id) ftOk h
 have hf : f < 100 := by simpa [Nat.blt, Nat.succ_le_iff] using hf
 rwa [show (t * 100 + f) / 100 = t by omega, show (t * 100 + f) % 100 = f by omega] at this
theorem tAr {t : Nat} {r : Nat × Nat × Nat} (h : lk arL t = some r) : arrT (kx Q g0).P t = some r := lk_ok (f := fun t => arrT PG t) (g := id) arOk h
theorem tEs {t : Nat} {r : Nat} (h : lk esL t = some r) : elemSz (kx Q g0).P t = some r := lk_ok (f := fun t => elemSz PG t) (g := id) esOk h
theorem tIs {t : Nat} (h : memB t isL = true) : isSlice (kx Q g0).P t = true := lkB_ok (f := fun t => isSlice PG t) isOk h
theorem tIt {t : Nat} (h : memB t itL = true) : isStr (kx Q g0).P t = true := lkB_ok (f := fun t => isStr PG t) itOk h
theorem tNi {t : Nat} (h : memB t niL = true) : notIface (kx Q g0).P t = true := lkB_ok (f := fun t => notIface PG t) niOk h
theorem tBu {t : Nat} {r : Sum (List (Nat × Nat)) Nat × List Value} (h : lk buL t = some r) : buildT (kx Q g0).P t = some r := lk_ok (f := fun t => buildT PG t) (g := id) buOk h
theorem tCv {s t : Nat} {r : IntKind} (h : lk cvL (s * 10000 + t) = some r) (hf : Nat.blt t 10000 = true) : isInt (kx Q g0).P s t = some r := by
 have := lk_ok (f := fun k => isInt PG (k / 10000) (k % 10000)) (g := id) cvOk h
 have hf : t < 10000 := by simpa [Nat.blt, Nat.succ_le_iff] using hf
 rwa [show (s * 10000 + t) / 10000 = s by omega, show (s * 10000 + t) % 10000 = t by omega] at this
structure Hid (p : Prop) : Prop where
 out : p
section
variable {B : Bs} {o : Oper} {n : Nat} {ds : Dx} {l : List (Nat × Value)} {m m' : Mm} {J : Jm} {d : Nat}
theorem rowA' {a : Nat} {cells : List Value} (h : RowAt m J a cells := by first | exact .own (by repeat first | exact .head _ | refine .tail _ ?_ | refine List.mem_append_right _ ?_) | exact .pub (by assumption) | exact .opn (by repeat first | exact .head _ | refine .tail _ ?_ | refine List.mem_append_right _ ?_)) : RowAt m J a cells := h
theorem x_storeP {Ψ : En → Mm → Jm → Prop} {K : Kx} {t : TypeId} {x y : Operand} {a off k : Nat} {v : Value} {vs cells cells' : List Value} {e : TypeId} (ho : o.op = .store t x y) (hd : o.dst = none) (hx : eo l x = some (.pointer (some ⟨a, off, none⟩))) (hy : eo l y = some v) (hk : sizeT K.P t = some k) (hc : v.cells.toList = vs) (hl : Nat.beq vs.length k = true) (h0 : Nat.blt 0 vs.length = true) (h1 : vs.all oneCell = true) (hp : Put m a (.row cells e) (.row cells' e) m') (hs : splice off cells vs = some cells') (h : Ψ ⟨n, ds, l⟩ m' J) : ExecA K B o ⟨n, ds, l⟩ m J Ψ := x_store ho hd hx hy hk hc hl h0 h1 hs hp h
theorem V.mv {x : Operand} {v : Value} (ho : o.op = .move x := by exact rfl) (hx : eo l x = some v := by exact rfl) : Val (kx Q g0) B o n ds l m J (v) := v_move ho hx
theorem V.asg {x : Operand} {v : Value} (ho : o.op = .assign x := by exact rfl) (hx : eo l x = some v := by exact rfl) : Val (kx Q g0) B o n ds l m J (v) := v_assign ho hx
theorem V.fa {s : TypeId} {x : Operand} {f a off k : Nat} (ho : o.op = .fieldAddr s x f := by exact rfl) (hx : eo l x = some (.pointer (some ⟨a, off, none⟩)) := by exact rfl) (hf : fieldOff (kx Q g0).P s f = some k := by exact tFo rfl rfl) : Val (kx Q g0) B o n ds l m J (.pointer (some ⟨a, off + k, none⟩)) := v_fieldAddr ho hx hf
theorem V.ld {t : TypeId} {x : Operand} {a off : Nat} {cells : List Value} {v : Value} (ho : o.op = .load t x := by exact rfl) (hx : eo l x = some (.pointer (some ⟨a, off, none⟩)) := by exact rfl) (hr : RowAt m J a cells := by exact rowA') (hv : evPart (kx Q g0).P t cells off = some v := by exact part1 (tAg rfl) (by first | rfl | assumption)) : Val (kx Q g0) B o n ds l m J (v) := v_load ho hx hr hv
theorem V.ldA {t : TypeId} {x : Operand} {a off : Nat} {cells : List Value} {v : Value} (ho : o.op = .load t x := by exact rfl) (hx : eo l x = some (.pointer (some ⟨a, off, none⟩)) := by exact rfl) (hr : RowAt m J a cells := by exact rowA') (hv : evPart (kx Q g0).P t cells off = some v := by exact partA (tAg rfl) (by first | rfl | assumption)) : Val (kx Q g0) B o n ds l m J (v) := v_load ho hx hr hv
theorem V.pk {c x y : Operand} {t : Bool} {v : Value} (ho : o.op = .pick c x y := by exact rfl) (hc : eo l c = some (.bool t) := by exact rfl) (hv : (if t = true then eo l x else eo l y) = some v := by exact rfl) : Val (kx Q g0) B o n ds l m J (v) := v_pick ho hc hv
theorem V.vi {op : BinOp} {t ty : TypeId} {x y : Operand} {k : IntKind} {a b : Int} {v : Value} (ho : o.op = .binOp op t x y ty := by exact rfl) (hx : eo l x = some (.int k a) := by exact rfl) (hy : eo l y = some (.int k b) := by exact rfl) (hv : binI k a b op = some v := by exact rfl) : Val (kx Q g0) B o n ds l m J (v) := v_int ho hx hy hv
theorem V.va {op : BinOp} {t ty : TypeId} {x y : Operand} {k : IntKind} {a b c c' : Int} (ho : o.op = .binOp op t x y ty := by exact rfl) (hx : eo l x = some (.int k a) := by exact rfl) (hy : eo l y = some (.int k b) := by exact rfl) (hv : arI a b op = some c := by exact rfl) (hw : k.wrap c = c' := by first | exact wrap_i64 (by omega) (by omega) | exact wrap_u8 (by omega) (by omega) | rfl) : Val (kx Q g0) B o n ds l m J (.int k c') := v_ar ho hx hy hv hw
theorem V.dv {op : BinOp} {t ty : TypeId} {x y : Operand} {k : IntKind} {a b : Int} {v : Value} (ho : o.op = .binOp op t x y ty := by exact rfl) (hx : eo l x = some (.int k a) := by exact rfl) (hy : eo l y = some (.int k b) := by exact rfl) (hv : divI k a b op = some v := by exact rfl) (hb : b ≠ 0 := by first | decide | omega) : Val (kx Q g0) B o n ds l m J (v) := v_div ho hx hy hv hb
theorem V.nt {v : Value} (h : Val (kx Q g0) B o n ds l m J v := by first | exact v_notP rfl rfl | exact v_not rfl rfl) : Val (kx Q g0) B o n ds l m J (v) := h
theorem V.se {v : Value} (h : Val (kx Q g0) B o n ds l m J v := by exact v_strEq rfl rfl rfl (.inl ⟨rfl, rfl⟩)) : Val (kx Q g0) B o n ds l m J (v) := h
theorem V.sn {v : Value} (h : Val (kx Q g0) B o n ds l m J v := by exact v_strEq rfl rfl rfl (.inr ⟨rfl, rfl⟩)) : Val (kx Q g0) B o n ds l m J (v) := h
theorem V.ex {x : Operand} {ix : Nat} {vs : Array Value} {v : Value} (ho : o.op = .extract x ix := by exact rfl) (hx : eo l x = some (.tuple vs) := by exact rfl) (hv : nth vs.toList ix = some v := by exact rfl) : Val (kx Q g0) B o n ds l m J (v) := v_extract ho hx hv
theorem V.ls {v : Value} (h : Val (kx Q g0) B o n ds l m J v := by exact v_lenSlice rfl rfl rfl rfl (tIs rfl)) : Val (kx Q g0) B o n ds l m J (v) := h
theorem V.lS {v : Value} (h : Val (kx Q g0) B o n ds l m J v := by exact v_lenS rfl rfl rfl rfl (tIt rfl)) : Val (kx Q g0) B o n ds l m J (v) := h
theorem V.ix {t : TypeId} {x ix : Operand} {a off len cap sz : Nat} {k : IntKind} {i : Int} (ho : o.op = .indexAddr t x ix := by exact rfl) (hx : eo l x = some (.slice (some ⟨a, off, none⟩) len cap) := by exact rfl) (hi : eo l ix = some (.int k i) := by exact rfl) (ht : elemSz (kx Q g0).P t = some sz := by exact tEs rfl) (h0 : 0 ≤ i := by first | omega | (simp; omega)) (h1 : i < len := by first | omega | (simp; omega)) : Val (kx Q g0) B o n ds l m J (.pointer (some ⟨a, off + i.toNat * sz, none⟩)) := v_indexAddr ho hx hi ht h0 h1
theorem V.iA {t elem : TypeId} {x ix : Operand} {a off len sz : Nat} {k : IntKind} {i : Int} (ho : o.op = .indexAddr t x ix := by exact rfl) (hx : eo l x = some (.pointer (some ⟨a, off, none⟩)) := by exact rfl) (hi : eo l ix = some (.int k i) := by exact rfl) (ht : arrT (kx Q g0).P t = some (len, elem, sz) := by exact tAr rfl) (h0 : 0 ≤ i := by first | omega | (simp; omega)) (h1 : i < len := by first | omega | (simp; omega)) : Val (kx Q g0) B o n ds l m J (.pointer (some ⟨a, off + i.toNat * sz, none⟩)) := v_indexArr ho hx hi ht h0 h1
theorem V.bd {v : Value} (h : Val (kx Q g0) B o n ds l m J v := by exact v_build rfl rfl (tBu rfl) rfl) : Val (kx Q g0) B o n ds l m J (v) := h
theorem V.nc {v : Value} (h : Val (kx Q g0) B o n ds l m J v := by exact v_nilCheck rfl rfl) : Val (kx Q g0) B o n ds l m J (v) := h
theorem V.fd {v : Value} (h : Val (kx Q g0) B o n ds l m J v := by exact v_field rfl rfl (tFt rfl rfl) (part1 (tAg rfl) rfl)) : Val (kx Q g0) B o n ds l m J (v) := h
theorem V.fdA {v : Value} (h : Val (kx Q g0) B o n ds l m J v := by exact v_field rfl rfl (tFt rfl rfl) (partA (tAg rfl) rfl)) : Val (kx Q g0) B o n ds l m J (v) := h
theorem V.cv {v : Value} (h : Val (kx Q g0) B o n ds l m J v := by exact v_conv rfl rfl (tCv rfl rfl) (by first | exact wrap_i64 (by omega) (by omega) | exact wrap_u8 (by omega) (by omega) | rfl)) : Val (kx Q g0) B o n ds l m J (v) := h
theorem V.fn {v : Value} (h : Val (kx Q g0) B o n ds l m J v := by exact v_func rfl rfl rfl) : Val (kx Q g0) B o n ds l m J (v) := h
theorem V.ifc {v : Value} (h : Val (kx Q g0) B o n ds l m J v := by exact v_iface rfl rfl (tNi rfl)) : Val (kx Q g0) B o n ds l m J (v) := h
theorem V.iS {t : TypeId} {x ix : Operand} {s : List UInt8} {k : IntKind} {i : Int} {b : UInt8} (ho : o.op = .index t x ix := by exact rfl) (hx : eo l x = some (.string ⟨⟨s⟩⟩) := by exact rfl) (hi : eo l ix = some (.int k i) := by exact rfl) (ht : isStr (kx Q g0).P t = true := by exact tIt rfl) (h0 : 0 ≤ i := by first | omega | (simp; omega)) (hb : s[i.toNat]? = some b := by first | assumption | exact List.getElem?_eq_getElem (by first | omega | (simp; omega))) : Val (kx Q g0) B o n ds l m J (.int .u8 b.toNat) := v_indexS ho hx hi ht h0 hb
theorem V.sN {v : Value} (h : Val (kx Q g0) B o n ds l m J v := by exact v_sliceNil (op := .eql) rfl rfl rfl (tIs rfl)) : Val (kx Q g0) B o n ds l m J (v) := h
section
variable {ops rest : List Oper} {Φ : Option (List PanicEntry) → En → Mm → Jm → Prop}
theorem Sa {v : Value} (hv : Val (kx Q g0) B o n ds l m J v) (h : W (kx Q g0) B ops rest ⟨n, ds, (d, v) :: l⟩ m J Φ) (hg : o.guard = none := by exact rfl) (hd : o.dst = some d := by exact rfl) (hn : Nat.blt d n = true := by exact rfl) : W (kx Q g0) B ops (o :: rest) ⟨n, ds, l⟩ m J Φ := W.step hg (Exec.val hd hn hv h)
theorem Sb {v : Value} {g : Nat} {want b : Bool} (hv : Val (kx Q g0) B o n ds l m J v) (h : W (kx Q g0) B ops rest ⟨n, ds, (d, v) :: l⟩ m J Φ) (hg : guardT ops o = some (g, want) := by exact rfl) (hb : look l g = some (.bool b) := by exact rfl) (hw : (b == want) = true := by exact rfl) (hd : o.dst = some d := by exact rfl) (hn : Nat.blt d n = true := by exact rfl) : W (kx Q g0) B ops (o :: rest) ⟨n, ds, l⟩ m J Φ := W.guardY hg hb hw (Exec.val hd hn hv h)
theorem Sn {e : Nat} {want b : Bool} (h : W (kx Q g0) B ops rest ⟨n, ds, (e, undef) :: l⟩ m J Φ) (hg : guardT ops o = some (d, want) := by exact rfl) (hb : look l d = some (.bool b) := by exact rfl) (hw : (b == want) = false := by exact rfl) (hd : o.dst = some e := by exact rfl) (hn : Nat.blt e n = true := by exact rfl) : W (kx Q g0) B ops (o :: rest) ⟨n, ds, l⟩ m J Φ := W.guardN hg hb hw hd hn h
theorem Su {e : Nat} {want : Bool} (h : W (kx Q g0) B ops rest ⟨n, ds, (e, undef) :: l⟩ m J Φ) (hg : guardT ops o = some (d, want) := by exact rfl) (hb : look l d = some undef := by exact rfl) (hd : o.dst = some e := by exact rfl) (hn : Nat.blt e n = true := by exact rfl) : W (kx Q g0) B ops (o :: rest) ⟨n, ds, l⟩ m J Φ := W.guardU hg hb hd hn h
theorem Ss {t : TypeId} {x y : Operand} {a off k : Nat} {v : Value} {vs cells cells' : List Value} {e : TypeId} (h : W (kx Q g0) B ops rest ⟨n, ds, l⟩ m' J Φ) (hg : o.guard = none := by exact rfl) (ho : o.op = .store t x y := by exact rfl) (hd : o.dst = none := by exact rfl) (hx : eo l x = some (.pointer (some ⟨a, off, none⟩)) := by exact rfl) (hy : eo l y = some v := by exact rfl) (hk : sizeT (kx Q g0).P t = some k := by exact tSz rfl) (hc : v.cells.toList = vs := by exact rfl) (hl : Nat.beq vs.length k = true := by exact rfl) (h0 : Nat.blt 0 vs.length = true := by exact rfl) (h1 : vs.all oneCell = true := by exact rfl) (hp : Put m a (.row cells e) (.row cells' e) m' := by repeat first | exact .head _ _ _ _ | apply Put.tail | apply Put.app) (hs : splice off cells vs = some cells' := by exact rfl) : W (kx Q g0) B ops (o :: rest) ⟨n, ds, l⟩ m J Φ := W.step hg (.of (x_store ho hd hx hy hk hc hl h0 h1 hs hp h))
end
section
variable {ops : List Oper} {plan : List DStep} {F : List FuncId} {i : Nat} {Φ : En → Mm → Jm → Prop}
theorem Da {v : Value} (hi : nth ops i = some o) (hv : Val (kx Q g0) B o n ds l m J v) (h : WD (kx Q g0) B ops plan F ⟨n, ds, (d, v) :: l⟩ m J Φ) (hg : o.guard = none := by exact rfl) (hd : o.dst = some d := by exact rfl) (hn : Nat.blt d n = true := by exact rfl) : WD (kx Q g0) B ops (.val i :: plan) F ⟨n, ds, l⟩ m J Φ := WD.val hi hg hd hn hv h
theorem Db {v : Value} (hi : nth ops i = some o) (hv : Val (kx Q g0) B o n ds l m J v) (h : WD (kx Q g0) B ops plan F ⟨n, ds, (d, v) :: l⟩ m J Φ) (hg : o.guard = none := by exact rfl) (hd : o.dst = some d := by exact rfl) (hn : Nat.blt d n = true := by exact rfl) : WD (kx Q g0) B ops (.chn i :: plan) F ⟨n, ds, l⟩ m J Φ := WD.chnV hi hg hd hn hv h
theorem Ds {t : TypeId} {x y : Operand} {a off k : Nat} {v : Value} {vs cells cells' : List Value} {e : TypeId} (hi : nth ops i = some o) (h : WD (kx Q g0) B ops plan F ⟨n, ds, l⟩ m' J Φ) (hg : o.guard = none := by exact rfl) (ho : o.op = .store t x y := by exact rfl) (hd : o.dst = none := by exact rfl) (hx : eo l x = some (.pointer (some ⟨a, off, none⟩)) := by exact rfl) (hy : eo l y = some v := by exact rfl) (hk : sizeT (kx Q g0).P t = some k := by exact tSz rfl) (hc : v.cells.toList = vs := by exact rfl) (hl : Nat.beq vs.length k = true := by exact rfl) (h0 : Nat.blt 0 vs.length = true := by exact rfl) (h1 : vs.all oneCell = true := by exact rfl) (hp : Put m a (.row cells e) (.row cells' e) m' := by repeat first | exact .head _ _ _ _ | apply Put.tail | apply Put.app) (hs : splice off cells vs = some cells' := by exact rfl) : WD (kx Q g0) B ops (.chn i :: plan) F ⟨n, ds, l⟩ m J Φ := WD.chnX hi hg (x_store ho hd hx hy hk hc hl h0 h1 hs hp h)
end
section
variable {R : Reg} {ops : List Oper} {plan : List DStep} {i g : Nat} {want b : Bool} {Φ : En → Mm → Jm → Prop}
theorem Ra {v : Value} (hi : nth ops i = some o) (hv : Val (kx Q g0) B o n ds l m J v) (h : WR (kx Q g0) B R ops plan ⟨n, ds, (d, v) :: l⟩ m J Φ) (hg : o.guard = none := by exact rfl) (hd : o.dst = some d := by exact rfl) (hn : Nat.blt d n = true := by exact rfl) : WR (kx Q g0) B R ops (.val i :: plan) ⟨n, ds, l⟩ m J Φ := WR.val hi hg hd hn hv h
theorem Rb {v : Value} (hi : nth ops i = some o) (hv : Val (kx Q g0) B o n ds l m J v) (h : WR (kx Q g0) B R ops plan ⟨n, ds, (d, v) :: l⟩ m J Φ) (hg : guardT ops o = some (g, want) := by exact rfl) (hb : look l g = some (.bool b) := by exact rfl) (hw : (b == want) = true := by exact rfl) (hd : o.dst = some d := by exact rfl) (hn : Nat.blt d n = true := by exact rfl) : WR (kx Q g0) B R ops (.val i :: plan) ⟨n, ds, l⟩ m J Φ := WR.valY hi hg hb hw hd hn hv h
end
theorem ve {v u : Value} (h : veq 8 v u = true := by first | rfl | exact veq_int _ _ _ | exact veq_bool _ _ | exact veq_str _ _ | exact veq_slice (by assumption) _ _ _ | (refine veq_agg ?_; repeat first | exact veqs_nil | refine veqs_cons ?_ ?_ | exact veq_int _ _ _ | exact veq_str _ _ | exact veq_bool _ _ | exact veq_slice (by assumption) _ _ _) | simp [veq, addrEq]) : veq 8 v u = true := h
theorem vv {v : Value} (h : Val (kx Q g0) B o n ds l m J v := by first | exact V.mv | exact V.asg | exact V.fa | exact V.ld | exact V.ldA | exact V.ix | exact V.pk | exact V.vi | exact V.ex | exact V.bd | exact V.nt | exact V.va | exact V.dv | exact V.ls | exact V.lS | exact V.se | exact V.sn | exact V.nc | exact V.fd | exact V.fdA | exact V.cv | exact V.fn | exact V.ifc | exact V.iS | exact V.iA | exact V.sN) : Val (kx Q g0) B o n ds l m J v := h
theorem ck {ops : List Oper} {is : List Nat} (h : ChkAll (kx Q g0) B ops n ds l m J is := by
 repeat first
  | exact trivial
  | exact Chk.val rfl rfl rfl vv rfl ve
  | exact Chk.valY rfl rfl rfl rfl rfl vv rfl ve
  | exact Chk.no rfl (gb_no rfl rfl rfl)
  | exact Chk.no rfl (gb_un rfl rfl)
  | refine ⟨?_, ?_⟩) : ChkAll (kx Q g0) B ops n ds l m J is := h
theorem Wn {ops : List Oper} {E : En} {Φ : Option (List PanicEntry) → En → Mm → Jm → Prop} (h : Φ none E m J) : W (kx Q g0) B ops [] E m J Φ := W.nil h
theorem rg {p q : Prop} (h : p) (hpq : Hid p → q := by
 intro hgo_
 repeat refine WC.seq ?_
 refine WC.region ?_
 exact hgo_.out) : q := hpq ⟨h⟩
theorem sq {p q : Prop} (h : p) (hpq : Hid p → q := by
 intro hgo_
 repeat refine WC.seq ?_
 exact hgo_.out) : q := hpq ⟨h⟩
end
end
end Go.Opn

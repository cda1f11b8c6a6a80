/- A part of a verified evaluator of closed calls: see YthfgeapiahhjlaaGreatDoorCreZ. -/
import Derived.Test.YthfgeapiahhjlaaGreatDoorCreF
set_option linter.unusedVariables false
set_option linter.unusedSimpArgs false
namespace Go.Cre
open Go.RowKit

section
variable {P : Program} {B : Nat → Prop} {w0 w : World} {μ : Mp} {H H' : Hp}

theorem VRel.ptr_inv {a : Addr} {v : Value} (h : VRel μ (.pointer (some a)) v) : ∃ id off L, a = ⟨id, off, none⟩ ∧ μ id = some L ∧ v = .pointer (some ⟨L.r, off, none⟩) := by
  cases h with
  | atom _ h => simp [isAtom] at h
  | ptr id off L hL => exact ⟨id, off, L, rfl, hL, rfl⟩
/-- what a slice with an address is -/
theorem VRel.slice_inv {a : Addr} {len cap : Nat} {v : Value} (h : VRel μ (.slice (some a) len cap) v) :
    ∃ id off L off' cap', a = ⟨id, off, none⟩ ∧ μ id = some L ∧ v = .slice (some ⟨L.r, off', none⟩) len cap' ∧ (0 < len → off' = off) ∧ len ≤ max len cap' ∧
      ((cap < openCap ∧ cap' = cap ∧ off' = off) ∨ (cap = openCap ∧ len ≤ cap' ∧ off' = off ∧ off + cap' * L.sz ≤ L.N) ∨ (cap = openCap ∧ len = 0 ∧ cap' = 0)) := by
  cases h with
  | atom _ h => simp [isAtom] at h
  | sliceE id off len cap L hL hc => exact ⟨id, off, L, off, cap, rfl, hL, rfl, fun _ => rfl, by omega, .inl ⟨hc, rfl, rfl⟩⟩
  | sliceO id off len cap L hL hc hN => exact ⟨id, off, L, off, cap, rfl, hL, rfl, fun _ => rfl, by omega, .inr (.inl ⟨rfl, hc, rfl, hN⟩)⟩
  | sliceZ id off off' L hL => exact ⟨id, off, L, off', 0, rfl, hL, rfl, fun h => absurd h (by omega), by omega, .inr (.inr ⟨rfl, rfl, rfl⟩)⟩
theorem VRel.slice_nil {len cap : Nat} {v : Value} (h : VRel μ (.slice none len cap) v) : v = .slice none len cap := by cases h; rfl
theorem VRel.pnil {v : Value} (h : VRel μ (.pointer none) v) : v = .pointer none := by cases h; rfl
theorem VRel.map_inv {r : Nat} {v : Value} (h : VRel μ (.map (some r)) v) : ∃ L, μ r = some L ∧ v = .map (some L.r) := by
  cases h with
  | atom _ h => simp [isAtom] at h
  | map id L hL => exact ⟨L, hL, rfl⟩
theorem VRel.mnil {v : Value} (h : VRel μ (.map none) v) : v = .map none := by cases h; rfl
theorem VRel.iface_inv {t : TypeId} {x v : Value} (h : VRel μ (.iface t x) v) : ∃ x', v = .iface t x' ∧ VRel μ x x' := by
  cases h with
  | atom _ h => simp [isAtom] at h
  | iface t v v' h => exact ⟨v', rfl, h⟩
theorem VRel.nilIface_inv {v : Value} (h : VRel μ .nilIface v) : v = .nilIface := by cases h; rfl
theorem VRel.nilFunc_inv {v : Value} (h : VRel μ .nilFunc v) : v = .nilFunc := by cases h; rfl

theorem sizeT_run {t : TypeId} {n : Nat} (h : sizeT P t = some n) (w : World) : (sizeOf t).run P w = .ok n w := by
  unfold sizeT at h
  cases hi : P.info? t with
  | none => rw [hi] at h; cases h
  | some i => rw [hi] at h; injection h with h; subst h; simp [sizeOf, typeInfo, hi]
theorem sizeT_cells {t : TypeId} {n : Nat} (h : sizeT P t = some n) : P.cellsOf t = n := by
  unfold sizeT at h
  cases hi : P.info? t with
  | none => rw [hi] at h; cases h
  | some i => rw [hi] at h; injection h with h; subst h; simp [Program.cellsOf, hi]
theorem zeroT_run {t : TypeId} {z : Value} (h : zeroT P t = some z) (w : World) : (zeroValue t).run P w = .ok z w := by
  unfold zeroT at h
  cases hi : P.info? t with
  | none => rw [hi] at h; cases h
  | some i => rw [hi] at h; simp only at h; simp [zeroValue, typeInfo, hi, h]
theorem und_run {t : TypeId} {d : TypeDesc} (h : P.underlying t = some d) (w : World) : (underlying t).run P w = .ok d w := by
  simp [underlying, h]

theorem aggSize_some {t : TypeId} {n : Nat} (h : aggSize P t = some (some n)) : (∀ w, (isAgg t).run P w = .ok true w) ∧ sizeT P t = some n := by
  unfold aggSize at h
  cases hi : P.info? t with
  | none => rw [hi] at h; cases h
  | some i =>
    rw [hi] at h
    simp only at h
    refine ⟨fun w => ?_, ?_⟩
    · cases hu : P.underlying t with
      | none => rw [hu] at h; cases h
      | some d => rw [hu] at h; cases d <;> first | (simp [isAgg, underlying, hu]; done) | (simp at h)
    · cases hu : P.underlying t with
      | none => rw [hu] at h; cases h
      | some d => rw [hu] at h; cases d <;> first | (simp at h; simp [sizeT, hi, h]; done) | (simp at h)
theorem aggSize_none {t : TypeId} (h : aggSize P t = some none) : ∀ w, (isAgg t).run P w = .ok false w := by
  unfold aggSize at h
  cases hi : P.info? t with
  | none => rw [hi] at h; cases h
  | some i =>
    rw [hi] at h
    simp only at h
    intro w
    cases hu : P.underlying t with
    | none => rw [hu] at h; cases h
    | some d => rw [hu] at h; cases d <;> first | (simp [isAgg, underlying, hu]; done) | (simp at h)

/-- part -/
theorem evPart_sound {t : TypeId} {cs cs' : List Value} {off : Nat} {v : Value} (hr : LRel μ cs cs') (he : evPart P t cs off = some v) (w : World) :
    ∃ v', (part t cs'.toArray off).run P w = .ok v' w ∧ VRel μ v v' := by
  unfold evPart at he
  cases ha : aggSize P t with
  | none => rw [ha] at he; cases he
  | some q =>
    rw [ha] at he
    cases q with
    | none =>
      simp only [nth_eq] at he
      obtain ⟨v', h1, h2⟩ := hr.get he
      refine ⟨v', ?_, h2⟩
      simp [part, aggSize_none ha, h1]
    | some n =>
      simp only [dropN_eq] at he
      obtain ⟨h1, h2⟩ := aggSize_some ha
      cases ht : takeN n (cs.drop off) with
      | none => rw [ht] at he; cases he
      | some l =>
        rw [ht] at he; injection he with he; subst he
        obtain ⟨e1, e2, e3⟩ := takeN_eq ht
        refine ⟨.agg ((cs'.drop off).take n).toArray, ?_, ?_⟩
        · simp [part, h1, sizeT_run h2]
        · rw [e1]; exact VRel.agg' ((hr.drop off).take n)

/-- the row behind an abstract address -/
theorem HRel.row (h : HRel P B w0 μ H w) {id : Nat} {L : Loc} {cells : List Value} {elem : TypeId} {opn : Bool} {fam fz : Nat} {sh : Bool} (hL : μ id = some L) (hm : H.mem.get id = some (.row cells elem opn fam fz sh)) :
    ∃ c f, w.heap[L.r]? = some (.cells c elem f) ∧ c.size = L.N ∧ P.cellsOf elem = L.sz ∧ cells.length ≤ L.N ∧ (opn = false → cells.length = L.N) ∧ LRel μ cells (c.toList.take cells.length) ∧ frzOk L.N fz sh f := by
  obtain ⟨b, o, q1, q2, q3⟩ := h.blk id L hL
  rw [hm] at q1; injection q1 with q1; subst q1
  cases o with
  | cells c e f =>
    obtain ⟨rfl, r2, r3, r4, r5, r6, r7⟩ := q3
    refine ⟨c, f, q2, r2, r3, r4, r5, ⟨by simp; omega, fun i v v' a b => ?_⟩, r7⟩
    rw [List.getElem?_take] at b
    split at b
    · exact r6 i v v' a (by simpa using b)
    · cases b
  | _ => exact q3.elim

theorem HRel.map (h : HRel P B w0 μ H w) {id : Nat} {L : Loc} {es : List MapEntry} {clock : Nat} (hL : μ id = some L) (hm : H.mem.get id = some (.map es clock)) :
    ∃ es' clock', w.heap[L.r]? = some (.map es' clock') ∧ ERel μ es es'.toList := by
  obtain ⟨b, o, q1, q2, q3⟩ := h.blk id L hL
  rw [hm] at q1; injection q1 with q1; subst q1
  cases o with
  | map es' c' => exact ⟨es', c', q2, q3⟩
  | _ => exact q3.elim

/-- reading n cells -/
theorem HRel.cells (h : HRel P B w0 μ H w) {id : Nat} {L : Loc} {cells : List Value} {elem : TypeId} {opn : Bool} {fam fz : Nat} {sh : Bool} (hL : μ id = some L) (hm : H.mem.get id = some (.row cells elem opn fam fz sh))
    {off n : Nat} {l : List Value} (ht : takeN n (dropN off cells) = some l) : ∃ l', LRel μ l l' ∧ l'.length = n ∧ (∀ j v, l'[j]? = some v → w.cell? ⟨L.r, off + j, none⟩ = some v) := by
  obtain ⟨c, f, h1, h2, h3, h4, h5, h6, h7⟩ := h.row hL hm
  obtain ⟨e1, e2, e3⟩ := takeN_eq ht
  rw [dropN_eq] at e1 e3
  refine ⟨((c.toList.take cells.length).drop off).take n, ?_, ?_, ?_⟩
  · rw [e1]; exact (h6.drop off).take n
  · have := ((h6.drop off).take n).1; rw [← e1, e2] at this; exact this.symm
  · intro j v hj
    rw [List.getElem?_take] at hj
    split at hj
    · rw [List.getElem?_drop, List.getElem?_take] at hj
      split at hj
      · rw [cell_of_row h1]; simpa using hj
      · cases hj
    · cases hj

theorem evLoadAt_sound (h : HRel P B w0 μ H w) {t : TypeId} {id off : Nat} {L : Loc} {v : Value} (hL : μ id = some L) (he : evLoadAt P H t ⟨id, off, none⟩ = some v) :
    ∃ v', (loadVar t ⟨L.r, off, none⟩).run P w = .ok v' w ∧ VRel μ v v' := by
  simp only [evLoadAt] at he
  cases hm : H.mem.get id with
  | none => rw [hm] at he; cases he
  | some b =>
    rw [hm] at he
    cases b with
    | row cells elem opn fam fz sh =>
      simp only at he
      unfold evPart at he
      cases ha : aggSize P t with
      | none => rw [ha] at he; cases he
      | some q =>
        rw [ha] at he
        cases q with
        | none =>
          simp only [nth_eq] at he
          obtain ⟨c, f, h1, h2, h3, h4, h5, h6, h7⟩ := h.row hL hm
          obtain ⟨v', g1, g2⟩ := h6.get he
          refine ⟨v', ?_, g2⟩
          rw [List.getElem?_take] at g1
          split at g1
          · have : w.cell? ⟨L.r, off, none⟩ = some v' := by rw [cell_of_row h1]; simpa using g1
            simp [loadVar, aggSize_none ha, load, Sem.run, this]
          · cases g1
        | some n =>
          obtain ⟨h1, h2⟩ := aggSize_some ha
          simp only at he
          cases ht : takeN n (dropN off cells) with
          | none => rw [ht] at he; cases he
          | some l =>
            rw [ht] at he; injection he with he; subst he
            obtain ⟨l', g1, g2, g3⟩ := h.cells hL hm ht
            refine ⟨.agg l'.toArray, ?_, VRel.agg' g1⟩
            have := run_loadCells_list (P := P) w ⟨L.r, off, none⟩ l' (fun j v hj => by rw [Addr.add_mk]; exact g3 j v hj)
            rw [g2] at this
            simp [loadVar, h1, sizeT_run h2, this]
    | _ => cases he

theorem evLoad_sound (h : HRel P B w0 μ H w) {t : TypeId} {p p' v : Value} (hp : VRel μ p p') (he : evLoad P H t p = some v) :
    ∃ v', (Instr.loadAt t p').run P w = .ok v' w ∧ VRel μ v v' := by
  unfold evLoad at he
  cases p with
  | pointer a =>
    cases a with
    | none => simp at he
    | some a =>
      obtain ⟨id, off, L, rfl, hL, rfl⟩ := hp.ptr_inv
      simp only at he
      obtain ⟨v', h1, h2⟩ := evLoadAt_sound h hL he
      exact ⟨v', by simp [Instr.loadAt, Instr.sureAddr, h1], h2⟩
  | _ => simp at he

theorem evStore_sound (h : HRel P B w0 μ H w) {t : TypeId} {p p' v v' : Value} (hp : VRel μ p p') (hv : VRel μ v v') (he : evStore P H t p v = some H') :
    ∃ w', (Instr.storeAt t p' v').run P w = .ok () w' ∧ HRel P B w0 μ H' w' ∧ Step μ μ H H' := by
  unfold evStore at he
  cases p with
  | pointer a =>
   cases a with
   | none => simp at he
   | some a =>
    obtain ⟨id, off, L, rfl, hL, rfl⟩ := hp.ptr_inv
    simp only at he
    cases hs : sizeT P t with
    | none => rw [hs] at he; cases he
    | some n =>
      rw [hs] at he
      simp only at he
      cases hb : Nat.beq v.cells.toList.length n with
      | false => rw [hb] at he; cases he
      | true =>
        rw [hb, cond_true] at he
        obtain ⟨w', h1, h2, h3⟩ := evStoreCells_sound h hL hv.cells he
        have hn := Nat.eq_of_beq_eq_true hb
        have hl := hv.cells.1
        refine ⟨w', ?_, h2, h3⟩
        have hsz : v'.cells.size = n := by simp at hl hn; omega
        simp [Instr.storeAt, Instr.sureAddr, storeVar, sizeT_run hs, hsz, h1]
  | _ => simp at he

theorem all_oneCell {l l' : List Value} (h : LRel μ l l') (ha : l.all oneCell = true) : ∀ v ∈ l', oneCell v = true := fun v hv => by
  obtain ⟨i, hi⟩ := List.mem_iff_getElem?.1 hv
  have hi2 : i < l.length := by have := (List.getElem?_eq_some_iff.1 hi).1; have := h.1; omega
  rw [(h.2 i l[i] v (List.getElem?_eq_getElem hi2) hi).oneCell]
  exact List.all_eq_true.1 ha _ (List.getElem_mem hi2)

/-- a new exact row -/
theorem newRow_sound (h : HRel P B w0 μ H w) {elem : TypeId} {cells cells' : List Value} {id : Nat} (hc : LRel μ cells cells') (hn : newRowA H elem cells = some (id, H')) :
    ∃ μ' L, HRel P B w0 μ' H' (w.alloc (.cells cells'.toArray elem)) ∧ Step μ μ' H H' ∧ μ' id = some L ∧ L.r = w.heap.size ∧ L.N = cells.length ∧ L.sz = P.cellsOf elem := by
  have hb : BRel P (μ.put H.nx ⟨w.heap.size, cells.length, P.cellsOf elem⟩) ⟨w.heap.size, cells.length, P.cellsOf elem⟩ (.row cells elem false 0 0 false) (.cells cells'.toArray elem) := by
    refine ⟨rfl, by simp [hc.1], rfl, Nat.le_refl _, fun _ => rfl, fun i v v' a b => ?_, ?_⟩
    · exact (hc.2 i v v' a (by simpa using b)).mono (h.ext_put _)
    · exact ⟨fun off _ h1 h2 => by simp at h2, fun _ => .inl rfl⟩
  obtain ⟨a, b, rfl⟩ := h.made hn rfl rfl hb
  exact ⟨_, _, a, b, Mp.put_self _ _ _, rfl, rfl, rfl⟩

theorem evBox_sound (h : HRel P B w0 μ H w) {elem : TypeId} {v v' r : Value} (hv : VRel μ v v') (he : evBox H elem v = some (r, H')) :
    ∃ r' w' μ', (Instr.box elem v').run P w = .ok r' w' ∧ HRel P B w0 μ' H' w' ∧ Step μ μ' H H' ∧ VRel μ' r r' := by
  unfold evBox at he
  cases ho : v.cells.toList.all oneCell with
  | false => rw [ho] at he; cases he
  | true =>
    rw [ho, cond_true] at he
    cases hn : newRowA H elem v.cells.toList with
    | none => rw [hn] at he; cases he
    | some p =>
      obtain ⟨id, H1⟩ := p
      rw [hn] at he
      simp only [Option.some.injEq, Prod.mk.injEq] at he
      obtain ⟨rfl, rfl⟩ := he
      obtain ⟨μ', L, a, b, c, d, _⟩ := newRow_sound h hv.cells hn
      refine ⟨.pointer (some ⟨w.heap.size, 0, none⟩), _, μ', ?_, a, b, ?_⟩
      · simp [Instr.box, newVar, newRow, newObj, Sem.run]
      · rw [← d]; exact .ptr id 0 L c

theorem evFieldAddr_sound {s : TypeId} {p p' v : Value} {f : Nat} (hp : VRel μ p p') (he : evFieldAddr P s p f = some v) (w : World) :
    ∃ v', (Instr.fieldAt s p' f).run P w = .ok v' w ∧ VRel μ v v' := by
  unfold evFieldAddr at he
  cases p with
  | pointer a =>
   cases a with
   | none => simp at he
   | some a =>
    obtain ⟨id, off, L, rfl, hL, rfl⟩ := hp.ptr_inv
    simp only at he
    cases hu : P.underlying s with
    | none => rw [hu] at he; cases he
    | some d =>
      rw [hu] at he
      cases d with
      | struct fields =>
        simp only at he
        cases hf : fields[f]? with
        | none => rw [hf] at he; cases he
        | some fd =>
          rw [hf] at he
          simp only at he
          cases hs : sizeT P fd.type with
          | none => rw [hs] at he; cases he
          | some n =>
            rw [hs] at he
            cases n with
            | zero => cases he
            | succ n =>
              simp only [Option.some.injEq] at he
              subst he
              refine ⟨.pointer (some ⟨L.r, off + fd.offset, none⟩), ?_, .ptr id _ L hL⟩
              simp [Instr.fieldAt, und_run hu, hf, Instr.sureAddr, fieldPlace, sizeT_run hs, Addr.add_mk]
      | _ => cases he
  | _ => simp at he

theorem intIn_spec {i : Int} {len n : Nat} (h : intIn i len = some n) : i = (n : Int) ∧ n < len := by
  unfold intIn at h
  cases i with
  | ofNat m =>
    simp only at h
    cases hb : Nat.blt m len with
    | false => rw [hb] at h; cases h
    | true =>
      rw [hb, cond_true] at h; injection h with h; subst h
      exact ⟨rfl, Nat.le_of_ble_eq_true hb⟩
  | negSucc m => cases h
theorem intUp_spec {i : Int} {len n : Nat} (h : intUp i len = some n) : i = (n : Int) ∧ n ≤ len := by
  unfold intUp at h
  cases i with
  | ofNat m =>
    simp only at h
    cases hb : Nat.ble m len with
    | false => rw [hb] at h; cases h
    | true =>
      rw [hb, cond_true] at h; injection h with h; subst h
      exact ⟨rfl, Nat.le_of_ble_eq_true hb⟩
  | negSucc m => cases h

theorem VRel.int_inv {k : IntKind} {n : Int} {v : Value} (h : VRel μ (.int k n) v) : v = .int k n := by
  cases h; rfl
theorem VRel.bool_inv {b : Bool} {v : Value} (h : VRel μ (.bool b) v) : v = .bool b := by cases h; rfl
theorem VRel.string_inv {s : ByteArray} {v : Value} (h : VRel μ (.string s) v) : v = .string s := by cases h; rfl

theorem evIndexAddr_sound {t : TypeId} {x x' ix ix' v : Value} (hx : VRel μ x x') (hi : VRel μ ix ix') (he : evIndexAddr P t x ix = some v) (w : World) :
    ∃ v', (Instr.indexAt t x' ix').run P w = .ok v' w ∧ VRel μ v v' := by
  unfold evIndexAddr at he
  cases ix with
  | int k i =>
    obtain rfl := hi.int_inv
    simp only at he
    cases hu : P.underlying t with
    | none => rw [hu] at he; simp at he
    | some d =>
      rw [hu] at he
      cases d with
      | array len elem =>
        cases x with
        | pointer a =>
         cases a with
         | none => simp at he
         | some a =>
          obtain ⟨id, off, L, rfl, hL, rfl⟩ := hx.ptr_inv
          simp only at he
          cases hn : intIn i len with
          | none => rw [hn] at he; simp at he
          | some n =>
            rw [hn] at he
            cases hs : sizeT P elem with
            | none => rw [hs] at he; simp at he
            | some sz =>
              rw [hs] at he
              simp only [Option.some.injEq] at he; subst he
              obtain ⟨rfl, hlt⟩ := intIn_spec hn
              refine ⟨.pointer (some ⟨L.r, off + n * sz, none⟩), ?_, .ptr id _ L hL⟩
              simp [Instr.indexAt, asIntOf, und_run hu, Instr.sureAddr, sizeT_run hs, hlt, Addr.add_mk]
        | _ => simp at he
      | slice elem =>
        cases x with
        | slice a len cap =>
         cases a with
         | none => simp at he
         | some a =>
          obtain ⟨id, off, L, off', cap', rfl, hL, rfl, ho, _, _⟩ := hx.slice_inv
          simp only at he
          cases hn : intIn i len with
          | none => rw [hn] at he; simp at he
          | some n =>
            rw [hn] at he
            cases hs : sizeT P elem with
            | none => rw [hs] at he; simp at he
            | some sz =>
              rw [hs] at he
              simp only [Option.some.injEq] at he; subst he
              obtain ⟨rfl, hlt⟩ := intIn_spec hn
              rw [ho (by omega)]
              refine ⟨.pointer (some ⟨L.r, off + n * sz, none⟩), ?_, .ptr id _ L hL⟩
              simp [Instr.indexAt, asIntOf, und_run hu, sizeT_run hs, hlt, Addr.add_mk]
        | _ => simp at he
      | _ => simp at he
  | _ => simp at he
end
end Go.Cre

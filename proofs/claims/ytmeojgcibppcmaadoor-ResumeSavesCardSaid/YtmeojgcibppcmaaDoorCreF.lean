/- A part of the proof of ResumeSaves. -/
import Derived.Test.YtmeojgcibppcmaaDoorCreE
import Derived.Laws.IdiomCopy
set_option linter.unusedVariables false
set_option linter.unusedSimpArgs false
namespace Go.Cre
open Go.RowKit
def splA (c : Array Value) (n : Nat) : List Value → Array Value
 | [] => c
 | v :: vs => splA (c.setIfInBounds n v) (n + 1) vs
theorem splA_size (vs : List Value) : ∀ (c : Array Value) (n : Nat), (splA c n vs).size = c.size := by
 induction vs with
 | nil => intro c n; rfl
 | cons v vs ih => intro c n; rw [splA, ih]; simp
theorem splA_get (vs : List Value) : ∀ (c : Array Value) (n i : Nat), n + vs.length ≤ c.size → (splA c n vs)[i]? = if n ≤ i ∧ i < n + vs.length then vs[i - n]? else c[i]? := by
 induction vs with
 | nil => intro c n i h; simp [splA]; omega
 | cons v vs ih =>
  intro c n i h; simp only [List.length_cons] at h; rw [splA, ih _ _ _ (by simp; omega)]; rw [Array.getElem?_setIfInBounds]; by_cases h1 : n = i
  ·
   subst h1; rw [if_neg (by omega), if_pos rfl, if_pos (by omega), if_pos (by simp)]; simp
  ·
   by_cases h2 : n + 1 ≤ i ∧ i < n + 1 + vs.length
   ·
    rw [if_pos h2, if_pos (by simp; omega)]; rw [show i - n = (i - (n + 1)) + 1 from by omega, List.getElem?_cons_succ]
   ·
    rw [if_neg h2, if_neg h1, if_neg (by simp; omega)]
theorem oneCell_eq (v : Value) : v.oneCell' = oneCell v := by cases v <;> rfl
theorem Addr.add_mk (b o i : Nat) : (⟨b, o, none⟩ : Addr).add i = ⟨b, o + i, none⟩ := by
 unfold Addr.add; split <;> simp_all
section
variable {P : Program}
theorem cell_of_row {w : World} {r : Nat} {c : Array Value} {e : TypeId} {f : Nat × Nat} (h : w.heap[r]? = some (.cells c e f)) (o : Nat) : w.cell? ⟨r, o, none⟩ = c[o]? := by
 simp [World.cell?, h]
theorem frozen_of_row {w : World} {r : Nat} {c : Array Value} {e : TypeId} {f : Nat × Nat} (h : w.heap[r]? = some (.cells c e f)) (o : Nat) : w.frozen? ⟨r, o, none⟩ = (decide (f.1 ≤ o) && decide (o < f.2)) := by
 simp [World.frozen?, h]
theorem setCell_row {w : World} {r : Nat} {c : Array Value} {e : TypeId} {f : Nat × Nat} (h : w.heap[r]? = some (.cells c e f)) (o : Nat) (v : Value) :
  w.setCell ⟨r, o, none⟩ v = { w with heap := w.heap.setIfInBounds r (.cells (c.setIfInBounds o v) e f) } := by
 have hr : r < w.heap.size := by
  rcases Nat.lt_or_ge r w.heap.size with hh | hh
  ·
   exact hh
  ·
   rw [Array.getElem?_eq_none hh] at h; cases h
 unfold World.setCell; congr 1
 apply Array.ext_getElem?
 intro i; rw [Array.getElem?_modify, Array.getElem?_setIfInBounds]; by_cases hi : r = i
 ·
  subst hi; rw [if_pos rfl, if_pos rfl, h, if_pos hr]; rfl
 ·
  simp [hi]
theorem run_storeCells_row (r off : Nat) (e : TypeId) (f : Nat × Nat) : ∀ (vs : List Value) (i : Nat) (c : Array Value) (w : World), w.heap[r]? = some (.cells c e f) → off + i + vs.length ≤ c.size →
  (∀ j, j < vs.length → ¬ (f.1 ≤ off + i + j ∧ off + i + j < f.2)) → (∀ v ∈ vs, oneCell v = true) →
  (storeCells ⟨r, off, none⟩ vs i).run P w = .ok () { w with heap := w.heap.setIfInBounds r (.cells (splA c (off + i) vs) e f) } := by
 intro vs; induction vs with
 | nil =>
  intro i c w h _ _ _; have hr : r < w.heap.size := by
   rcases Nat.lt_or_ge r w.heap.size with hh | hh
   ·
    exact hh
   ·
    rw [Array.getElem?_eq_none hh] at h; cases h
  have : w.heap.setIfInBounds r (.cells c e f) = w.heap := by
   apply Array.ext_getElem?
   intro j; rw [Array.getElem?_setIfInBounds]; split
   ·
    rename_i hj; subst hj; exact h.symm
   ·
    rfl
  simp [storeCells, splA, this]
 | cons v vs ih =>
  intro i c w h hl hf h1; simp only [List.length_cons] at hl hf; have hr : r < w.heap.size := by
   rcases Nat.lt_or_ge r w.heap.size with hh | hh
   ·
    exact hh
   ·
    rw [Array.getElem?_eq_none hh] at h; cases h
  have hst : (store ((⟨r, off, none⟩ : Addr).add i) v).run P w = .ok () (w.setCell ⟨r, off + i, none⟩ v) := by
   rw [Addr.add_mk, run_store P w _ v _ (by rw [oneCell_eq]; exact h1 v (by simp))]; have hz := hf 0 (by omega); have hc : w.cell? ⟨r, off + i, none⟩ = some (c[off + i]'(by omega)) := by
    rw [cell_of_row h, Array.getElem?_eq_getElem (by omega)]
   have hz' : w.frozen? ⟨r, off + i, none⟩ = false := by
    rw [frozen_of_row h]; simp only [Nat.add_zero] at hz; by_cases q : f.1 ≤ off + i
    ·
     have : ¬ (off + i < f.2) := fun x => hz ⟨q, x⟩; simp [this]
    ·
     simp [q]
   simp [hc, hz']
  have hw : (w.setCell ⟨r, off + i, none⟩ v).heap[r]? = some (.cells (c.setIfInBounds (off + i) v) e f) := by
   rw [setCell_row h]; show (w.heap.setIfInBounds r _)[r]? = _; rw [Array.getElem?_setIfInBounds]; simp [hr]
  have := ih (i + 1) (c.setIfInBounds (off + i) v) (w.setCell ⟨r, off + i, none⟩ v) hw (by simp; omega) (fun j hj => by
   have := hf (j + 1) (by omega); rwa [show off + i + (j + 1) = off + (i + 1) + j from by omega] at this) (fun x hx => h1 x (by simp [hx]))
  simp only [storeCells, Sem.run_bind, hst, Result.andThen_ok, this, splA]; rw [setCell_row h, show off + (i + 1) = off + i + 1 from by omega]; congr 2
  show (w.heap.setIfInBounds r _).setIfInBounds r _ = _; apply Array.ext_getElem?
  intro j; simp only [Array.getElem?_setIfInBounds, Array.size_setIfInBounds]; split <;> rfl
variable {B : Nat → Prop} {w0 w : World} {μ : Mp} {H H' : Hp}
theorem frz_ok {N fz : Nat} {sh : Bool} {f : Nat × Nat} (h : frzOk N fz sh f) {o : Nat} (ho : o < N) (hz : fz ≤ o) : ¬ (f.1 ≤ o ∧ o < f.2) := fun q => by
 have := h.1 o ho q.1 q.2; omega
theorem HRel.writeRow (h : HRel P B w0 μ H w) {id fam fz fz' : Nat} {L : Loc} {cells cells' : List Value} {elem : TypeId} {opn sh : Bool} {o' : Obj} {H1 : Hp} (hL : μ id = some L) (hglo : H.glo ≤ id) (hm : H.mem.get id = some (.row cells elem opn fam fz sh))
  (s1 : cells'.length = cells.length) (hu : H.upd id (.row cells' elem opn fam fz' sh) = some H1) (he : (bif opn then killOthers H1 id fam else some H1) = some H') (hb : BRel P μ L (.row cells' elem opn fam fz' sh) o') :
  HRel P B w0 μ H' { w with heap := w.heap.setIfInBounds L.r o' } ∧ Step μ μ H H' := by
 obtain ⟨u1, u2, u3, u4, u5⟩ := Hp.upd_eq hu; have hlive : H.mem.get id ≠ some .dead := by rw [hm]; simp
 cases opn with
 | false =>
  simp only [cond_false] at he; injection he with he; subst he
  refine h.write hL hglo hlive u1 u3 u4 (by rw [u5]; simp) (fun x hx => .inl (by rw [u5, if_neg hx])) ?_ (fun f l hl => .inl (by rw [u2]; exact hl)) (fun f l hl => .inl (by rw [← u2]; exact hl))
   (fun c e f z s q => by injection q with _ _ q; cases q) (fun q => by rw [hm] at q; simp [isOpen] at q) hb
  intro x L' hx hL' hr; rcases h.sep id x L L' (Ne.symm hx) hL hL' hr.symm with d | d | ⟨f', l, ⟨c1, e1, z1, s1', q⟩, _⟩
  ·
   exact absurd d hlive
  ·
   rw [u5, if_neg hx]; exact d
  ·
   rw [hm] at q; injection q with q; injection q with _ _ q; cases q
 | true =>
  simp only [cond_true] at he; unfold killOthers at he; cases hf : H1.fam.get fam with
  | none => rw [hf] at he; cases he
  | some l =>
   rw [hf] at he; simp only at he; cases hk : killAll H1 id l with
   | none => rw [hk] at he; cases he
   | some H2 =>
    rw [hk] at he; simp only at he; obtain ⟨k1, k2, k3, k4, k5, k6⟩ := killAll_eq hk; obtain ⟨g1, g2, g3, g4, g5⟩ := Hp.setFam_eq he; have hfam : H.fam.get fam = some l := by rw [← u2]; exact hf
    have hid : H'.mem.get id = some (.row cells' elem true fam fz' sh) := by rw [g2, k6 id (.inr rfl), u5]; simp
    have hoth : ∀ x, x ≠ id → x ∉ l → H'.mem.get x = H.mem.get x := fun x hx hxl => by rw [g2, k6 x (.inl hxl), u5, if_neg hx]
    have hin : ∀ x, x ≠ id → x ∈ l → H'.mem.get x = some .dead := fun x hx hxl => by rw [g2]; exact k5 x hxl hx
    refine h.write hL hglo hlive (by omega) (by omega) (by omega) hid ?_ ?_ ?_ ?_ ?_ (fun _ => rfl) hb
    ·
     intro x hx; by_cases hxl : x ∈ l
     ·
      exact .inr ⟨hin x hx hxl, (h.famMem fam l x hfam hxl).2⟩
     ·
      exact .inl (hoth x hx hxl)
    ·
     intro x L' hx hL' hr; rcases h.sep id x L L' (Ne.symm hx) hL hL' hr.symm with d | d | ⟨f', l', ⟨c1, e1, z1, s1', q⟩, _, hl', _, m2⟩
     ·
      exact absurd d hlive
     ·
      by_cases hxl : x ∈ l
      ·
       exact hin x hx hxl
      ·
       rw [hoth x hx hxl]; exact d
     ·
      rw [hm] at q; injection q with q; injection q with _ _ _ q; subst q
      rw [hfam] at hl'; injection hl' with hl'; subst hl'
      exact hin x hx m2
    ·
     intro f' l' hl'; by_cases hff : f' = fam
     ·
      subst hff; rw [hfam] at hl'; injection hl' with hl'; subst hl'
      right
      intro x y hx hy hxy; by_cases hxi : x = id
      ·
       right; exact hin y (fun e => hxy (by rw [hxi, e])) hy
      ·
       left; exact hin x hxi hx
     ·
      left; rw [g5, if_neg hff, k2, u2]; exact hl'
    ·
     intro f' l' hl'; rw [g5] at hl'; split at hl'
     ·
      injection hl' with hl'; right; exact ⟨hl'.symm, rfl⟩
     ·
      left; rw [k2, u2] at hl'; exact hl'
    ·
     intro c1 e1 f1 z1 s1' q; injection q with q0 _ _ q; subst q; subst q0
     exact ⟨_, _, _, _, hm, s1.symm⟩
theorem evStoreCells_sound (h : HRel P B w0 μ H w) {id off : Nat} {L : Loc} {vs vs' : List Value} (hL : μ id = some L) (hv : LRel μ vs vs') (he : evStoreCells H id off vs = some H') :
  ∃ w', (storeCells ⟨L.r, off, none⟩ vs').run P w = .ok () w' ∧ HRel P B w0 μ H' w' ∧ Step μ μ H H' := by
 unfold evStoreCells at he; cases vs with
 | nil =>
  injection he with he; subst he
  have := hv.inv_nil; subst this; exact ⟨w, rfl, h, Step.refl _ _⟩
 | cons v0 vs0 =>
  simp only at he; generalize hvs : v0 :: vs0 = vs at *; cases hg : Nat.blt id H.glo with
  | true => rw [hg] at he; cases he
  | false =>
   rw [hg, cond_false] at he; have hglo : H.glo ≤ id := by
    have : ¬ id < H.glo := fun q => by have := Nat.ble_eq_true_of_le q; unfold Nat.blt at hg; simp_all
    omega
   cases hm : H.mem.get id with
   | none => rw [hm] at he; cases he
   | some b =>
    rw [hm] at he; cases b with
    | row cells elem opn fam fz sh =>
     simp only at he; cases hc : (Nat.ble fz off && vs.all oneCell) with
     | false => rw [hc] at he; cases he
     | true =>
      rw [hc, cond_true] at he; simp only [Bool.and_eq_true] at hc; have hfz := Nat.le_of_ble_eq_true hc.1; cases hs : splice off cells vs with
      | none => rw [hs] at he; cases he
      | some cells' =>
       rw [hs] at he; simp only at he; cases hu : H.upd id (.row cells' elem opn fam fz sh) with
       | none => rw [hu] at he; cases he
       | some H1 =>
        rw [hu] at he; simp only at he; obtain ⟨s1, s2, s3⟩ := splice_spec hs; obtain ⟨b, o, q1, q2, q3⟩ := h.blk id L hL; rw [hm] at q1; injection q1 with q1; subst q1
        cases o with
        | cells c e f =>
         obtain ⟨r1, r2, r3, r4, r5, r6, r7⟩ := q3; have hvl := hv.1; have hrun := run_storeCells_row (P := P) L.r off e f vs' 0 c w q2 (by omega) (fun j hj => by
          simp only [Nat.add_zero]; exact frz_ok r7 (by omega) (by omega)) (fun v hv' => by
          obtain ⟨i, hi⟩ := List.mem_iff_getElem?.1 hv'; have hi2 : i < vs.length := by
           have := (List.getElem?_eq_some_iff.1 hi).1; omega
          have := hv.2 i vs[i] v (List.getElem?_eq_getElem hi2) hi; rw [this.oneCell]; exact List.all_eq_true.1 hc.2 _ (List.getElem_mem hi2))
         simp only [Nat.add_zero] at hrun; have hb : BRel P μ L (.row cells' elem opn fam fz sh) (.cells (splA c off vs') e f) := by
          refine ⟨r1, by rw [splA_size]; exact r2, r3, by omega, fun ho => by have := r5 ho; omega, ?_, r7⟩; intro i v v' hi hi'; rw [splA_get _ _ _ _ (by omega)] at hi'; rw [s3] at hi; rw [← hvl] at hi'; split at hi
          ·
           rename_i hc'; rw [if_pos hc'] at hi'; exact hv.2 _ v v' hi hi'
          ·
           rename_i hc'; rw [if_neg hc'] at hi'; exact r6 i v v' hi hi'
         exact ⟨_, hrun, h.writeRow hL hglo hm s1 hu he hb⟩
        | _ => exact q3.elim
    | _ => cases he
end
end Go.Cre
namespace Go.Cre
open Go.RowKit
section
variable {P : Program} {B : Nat → Prop} {w0 w : World} {μ : Mp} {H H' : Hp}
theorem VRel.ptr_inv {a : Addr} {v : Value} (h : VRel μ (.pointer (some a)) v) : ∃ id off L, a = ⟨id, off, none⟩ ∧ μ id = some L ∧ v = .pointer (some ⟨L.r, off, none⟩) := by
 cases h with
 | atom _ h => simp [isAtom] at h
 | ptr id off L hL => exact ⟨id, off, L, rfl, hL, rfl⟩
theorem VRel.slice_some {a : Addr} {len cap : Nat} {v : Value} (h : VRel μ (.slice (some a) len cap) v) : ∃ a' cap', v = .slice (some a') len cap' := by
 cases h with
 | atom _ h => simp [isAtom] at h
 | sliceE id off len cap L hL hc => exact ⟨_, _, rfl⟩
 | sliceO id off len cap L hL hc hN => exact ⟨_, _, rfl⟩
 | sliceZ id off off' L hL => exact ⟨_, _, rfl⟩
 | sliceX a => exact ⟨_, _, rfl⟩
theorem VRel.slice_cap {a : Addr} {len cap : Nat} {v : Value} (h : VRel μ (.slice (some a) len cap) v) (hc : cap ≠ openCap) : ∃ a', v = .slice (some a') len cap := by
 cases h with
 | atom _ h => simp [isAtom] at h
 | sliceE id off len cap L hL hc => exact ⟨_, rfl⟩
 | sliceO id off len cap L hL hc hN => exact absurd rfl hc
 | sliceZ id off off' L hL => exact absurd rfl hc
 | sliceX a => exact ⟨_, rfl⟩
theorem VRel.slice_inv {a : Addr} {len cap : Nat} {v : Value} (h : VRel μ (.slice (some a) len cap) v) (hs : a.spot = none ∨ 0 < len ∨ 0 < cap) :
  ∃ id off L off' cap', a = ⟨id, off, none⟩ ∧ μ id = some L ∧ v = .slice (some ⟨L.r, off', none⟩) len cap' ∧ (0 < len → off' = off) ∧ len ≤ max len cap' ∧
   ((cap < openCap ∧ cap' = cap ∧ off' = off) ∨ (cap = openCap ∧ len ≤ cap' ∧ off' = off ∧ off + cap' * L.sz ≤ L.N) ∨ (cap = openCap ∧ len = 0 ∧ cap' = 0)) := by
 cases h with
 | atom _ h => simp [isAtom] at h
 | sliceE id off len cap L hL hc => exact ⟨id, off, L, off, cap, rfl, hL, rfl, fun _ => rfl, by omega, .inl ⟨hc, rfl, rfl⟩⟩
 | sliceO id off len cap L hL hc hN => exact ⟨id, off, L, off, cap, rfl, hL, rfl, fun _ => rfl, by omega, .inr (.inl ⟨rfl, hc, rfl, hN⟩)⟩
 | sliceZ id off off' L hL => exact ⟨id, off, L, off', 0, rfl, hL, rfl, fun h => absurd h (by omega), by omega, .inr (.inr ⟨rfl, rfl, rfl⟩)⟩
 | sliceX a => rcases hs with q | q | q <;> cases q
theorem VRel.slice_nil {len cap : Nat} {v : Value} (h : VRel μ (.slice none len cap) v) : v = .slice none len cap := by cases h; rfl
theorem VRel.pnil {v : Value} (h : VRel μ (.pointer none) v) : v = .pointer none := by cases h; rfl
theorem VRel.map_inv {r : Nat} {v : Value} (h : VRel μ (.map (some r)) v) : ∃ L, μ r = some L ∧ v = .map (some L.r) := by
 cases h with
 | atom _ h => simp [isAtom] at h
 | map id L hL => exact ⟨L, hL, rfl⟩
theorem VRel.mnil {v : Value} (h : VRel μ (.map none) v) : v = .map none := by cases h; rfl
theorem VRel.iface_inv {t : TypeId} {x v : Value} (h : VRel μ (.iface t x) v) : ∃ x', v = .iface t x' ∧ VRel μ x x' := by
 cases h with
 | atom _ h => simp [isAtom] at h
 | iface t v v' h => exact ⟨v', rfl, h⟩
theorem VRel.nilIface_inv {v : Value} (h : VRel μ .nilIface v) : v = .nilIface := by cases h; rfl
theorem VRel.nilFunc_inv {v : Value} (h : VRel μ .nilFunc v) : v = .nilFunc := by cases h; rfl
theorem sizeT_run {t : TypeId} {n : Nat} (h : sizeT P t = some n) (w : World) : (sizeOf t).run P w = .ok n w := by
 unfold sizeT at h; cases hi : P.info? t with
 | none => rw [hi] at h; cases h
 | some i => rw [hi] at h; injection h with h; subst h; simp [sizeOf, typeInfo, hi]
theorem sizeT_cells {t : TypeId} {n : Nat} (h : sizeT P t = some n) : P.cellsOf t = n := by
 unfold sizeT at h; cases hi : P.info? t with
 | none => rw [hi] at h; cases h
 | some i => rw [hi] at h; injection h with h; subst h; simp [Program.cellsOf, hi]
theorem zeroT_run {t : TypeId} {z : Value} (h : zeroT P t = some z) (w : World) : (zeroValue t).run P w = .ok z w := by
 unfold zeroT at h; cases hi : P.info? t with
 | none => rw [hi] at h; cases h
 | some i => rw [hi] at h; simp only at h; simp [zeroValue, typeInfo, hi, h]
theorem und_run {t : TypeId} {d : TypeDesc} (h : P.underlying t = some d) (w : World) : (underlying t).run P w = .ok d w := by
 simp [underlying, h]
theorem aggSize_some {t : TypeId} {n : Nat} (h : aggSize P t = some (some n)) : (∀ w, (isAgg t).run P w = .ok true w) ∧ sizeT P t = some n := by
 unfold aggSize at h; cases hi : P.info? t with
 | none => rw [hi] at h; cases h
 | some i =>
  rw [hi] at h; simp only at h; refine ⟨fun w => ?_, ?_⟩
  ·
   cases hu : P.underlying t with
   | none => rw [hu] at h; cases h
   | some d => rw [hu] at h; cases d <;> first | (simp [isAgg, underlying, hu]; done) | (simp at h)
  ·
   cases hu : P.underlying t with
   | none => rw [hu] at h; cases h
   | some d => rw [hu] at h; cases d <;> first | (simp at h; simp [sizeT, hi, h]; done) | (simp at h)
theorem aggSize_none {t : TypeId} (h : aggSize P t = some none) : ∀ w, (isAgg t).run P w = .ok false w := by
 unfold aggSize at h; cases hi : P.info? t with
 | none => rw [hi] at h; cases h
 | some i =>
  rw [hi] at h; simp only at h; intro w; cases hu : P.underlying t with
  | none => rw [hu] at h; cases h
  | some d => rw [hu] at h; cases d <;> first | (simp [isAgg, underlying, hu]; done) | (simp at h)
theorem evPart_sound {t : TypeId} {cs cs' : List Value} {off : Nat} {v : Value} (hr : LRel μ cs cs') (he : evPart P t cs off = some v) (w : World) :
  ∃ v', (part t cs'.toArray off).run P w = .ok v' w ∧ VRel μ v v' := by
 unfold evPart at he; cases ha : aggSize P t with
 | none => rw [ha] at he; cases he
 | some q =>
  rw [ha] at he; cases q with
  | none =>
   simp only [nth_eq] at he; obtain ⟨v', h1, h2⟩ := hr.get he; refine ⟨v', ?_, h2⟩; simp [part, aggSize_none ha, h1]
  | some n =>
   simp only [dropN_eq] at he; obtain ⟨h1, h2⟩ := aggSize_some ha; cases ht : takeN n (cs.drop off) with
   | none => rw [ht] at he; cases he
   | some l =>
    rw [ht] at he; injection he with he; subst he
    obtain ⟨e1, e2, e3⟩ := takeN_eq ht; refine ⟨.agg ((cs'.drop off).take n).toArray, ?_, ?_⟩
    ·
     simp [part, h1, sizeT_run h2]
    ·
     rw [e1]; exact VRel.agg' ((hr.drop off).take n)
theorem HRel.row (h : HRel P B w0 μ H w) {id : Nat} {L : Loc} {cells : List Value} {elem : TypeId} {opn : Bool} {fam fz : Nat} {sh : Bool} (hL : μ id = some L) (hm : H.mem.get id = some (.row cells elem opn fam fz sh)) :
  ∃ c f, w.heap[L.r]? = some (.cells c elem f) ∧ c.size = L.N ∧ P.cellsOf elem = L.sz ∧ cells.length ≤ L.N ∧ (opn = false → cells.length = L.N) ∧ LRel μ cells (c.toList.take cells.length) ∧ frzOk L.N fz sh f := by
 obtain ⟨b, o, q1, q2, q3⟩ := h.blk id L hL; rw [hm] at q1; injection q1 with q1; subst q1
 cases o with
 | cells c e f =>
  obtain ⟨rfl, r2, r3, r4, r5, r6, r7⟩ := q3; refine ⟨c, f, q2, r2, r3, r4, r5, ⟨by simp; omega, fun i v v' a b => ?_⟩, r7⟩; rw [List.getElem?_take] at b; split at b
  ·
   exact r6 i v v' a (by simpa using b)
  ·
   cases b
 | _ => exact q3.elim
theorem HRel.map (h : HRel P B w0 μ H w) {id : Nat} {L : Loc} {es : List MapEntry} {clock : Nat} (hL : μ id = some L) (hm : H.mem.get id = some (.map es clock)) :
  ∃ es' clock', w.heap[L.r]? = some (.map es' clock') ∧ ERel μ es es'.toList := by
 obtain ⟨b, o, q1, q2, q3⟩ := h.blk id L hL; rw [hm] at q1; injection q1 with q1; subst q1
 cases o with
 | map es' c' => exact ⟨es', c', q2, q3⟩
 | _ => exact q3.elim
theorem HRel.cells (h : HRel P B w0 μ H w) {id : Nat} {L : Loc} {cells : List Value} {elem : TypeId} {opn : Bool} {fam fz : Nat} {sh : Bool} (hL : μ id = some L) (hm : H.mem.get id = some (.row cells elem opn fam fz sh))
  {off n : Nat} {l : List Value} (ht : takeN n (dropN off cells) = some l) : ∃ l', LRel μ l l' ∧ l'.length = n ∧ (∀ j v, l'[j]? = some v → w.cell? ⟨L.r, off + j, none⟩ = some v) := by
 obtain ⟨c, f, h1, h2, h3, h4, h5, h6, h7⟩ := h.row hL hm; obtain ⟨e1, e2, e3⟩ := takeN_eq ht; rw [dropN_eq] at e1 e3; refine ⟨((c.toList.take cells.length).drop off).take n, ?_, ?_, ?_⟩
 ·
  rw [e1]; exact (h6.drop off).take n
 ·
  have := ((h6.drop off).take n).1; rw [← e1, e2] at this; exact this.symm
 ·
  intro j v hj; rw [List.getElem?_take] at hj; split at hj
  ·
   rw [List.getElem?_drop, List.getElem?_take] at hj; split at hj
   ·
    rw [cell_of_row h1]; simpa using hj
   ·
    cases hj
  ·
   cases hj
theorem evLoadAt_sound (h : HRel P B w0 μ H w) {t : TypeId} {id off : Nat} {L : Loc} {v : Value} (hL : μ id = some L) (he : evLoadAt P H t ⟨id, off, none⟩ = some v) :
  ∃ v', (loadVar t ⟨L.r, off, none⟩).run P w = .ok v' w ∧ VRel μ v v' := by
 simp only [evLoadAt] at he; cases hm : H.mem.get id with
 | none => rw [hm] at he; cases he
 | some b =>
  rw [hm] at he; cases b with
  | row cells elem opn fam fz sh =>
   simp only at he; unfold evPart at he; cases ha : aggSize P t with
   | none => rw [ha] at he; cases he
   | some q =>
    rw [ha] at he; cases q with
    | none =>
     simp only [nth_eq] at he; obtain ⟨c, f, h1, h2, h3, h4, h5, h6, h7⟩ := h.row hL hm; obtain ⟨v', g1, g2⟩ := h6.get he; refine ⟨v', ?_, g2⟩; rw [List.getElem?_take] at g1; split at g1
     ·
      have : w.cell? ⟨L.r, off, none⟩ = some v' := by rw [cell_of_row h1]; simpa using g1
      simp [loadVar, aggSize_none ha, load, Sem.run, this]
     ·
      cases g1
    | some n =>
     obtain ⟨h1, h2⟩ := aggSize_some ha; simp only at he; cases ht : takeN n (dropN off cells) with
     | none => rw [ht] at he; cases he
     | some l =>
      rw [ht] at he; injection he with he; subst he
      obtain ⟨l', g1, g2, g3⟩ := h.cells hL hm ht; refine ⟨.agg l'.toArray, ?_, VRel.agg' g1⟩; have := run_loadCells_list (P := P) w ⟨L.r, off, none⟩ l' (fun j v hj => by rw [Addr.add_mk]; exact g3 j v hj); rw [g2] at this; simp [loadVar, h1, sizeT_run h2, this]
  | _ => cases he
theorem evLoad_sound (h : HRel P B w0 μ H w) {t : TypeId} {p p' v : Value} (hp : VRel μ p p') (he : evLoad P H t p = some v) :
  ∃ v', (Instr.loadAt t p').run P w = .ok v' w ∧ VRel μ v v' := by
 unfold evLoad at he; cases p with
 | pointer a =>
  cases a with
  | none => simp at he
  | some a =>
   obtain ⟨id, off, L, rfl, hL, rfl⟩ := hp.ptr_inv; simp only at he; obtain ⟨v', h1, h2⟩ := evLoadAt_sound h hL he; exact ⟨v', by simp [Instr.loadAt, Instr.sureAddr, h1], h2⟩
 | _ => simp at he
theorem evStore_sound (h : HRel P B w0 μ H w) {t : TypeId} {p p' v v' : Value} (hp : VRel μ p p') (hv : VRel μ v v') (he : evStore P H t p v = some H') :
    ∃ w', (Instr.storeAt t p' v').run P w = .ok () w' ∧ HRel P B w0 μ H' w' ∧ Step μ μ H H' := by
  unfold evStore at he; cases p with
  | pointer a =>
   cases a with
   | none => simp at he
   | some a =>
    obtain ⟨id, off, L, rfl, hL, rfl⟩ := hp.ptr_inv; simp only at he; cases hs : sizeT P t with
    | none => rw [hs] at he; cases he
    | some n =>
      rw [hs] at he; simp only at he; cases hb : Nat.beq v.cells.toList.length n with
      | false => rw [hb] at he; cases he
      | true =>
        rw [hb, cond_true] at he; obtain ⟨w', h1, h2, h3⟩ := evStoreCells_sound h hL hv.cells he; have hn := Nat.eq_of_beq_eq_true hb; have hl := hv.cells.1; refine ⟨w', ?_, h2, h3⟩; have hsz : v'.cells.size = n := by simp at hl hn; omega
        simp [Instr.storeAt, Instr.sureAddr, storeVar, sizeT_run hs, hsz, h1]
  | _ => simp at he

theorem all_oneCell {l l' : List Value} (h : LRel μ l l') (ha : l.all oneCell = true) : ∀ v ∈ l', oneCell v = true := fun v hv => by
 obtain ⟨i, hi⟩ := List.mem_iff_getElem?.1 hv; have hi2 : i < l.length := by have := (List.getElem?_eq_some_iff.1 hi).1; have := h.1; omega
 rw [(h.2 i l[i] v (List.getElem?_eq_getElem hi2) hi).oneCell]; exact List.all_eq_true.1 ha _ (List.getElem_mem hi2)
theorem newRow_sound (h : HRel P B w0 μ H w) {elem : TypeId} {cells cells' : List Value} {id : Nat} (hc : LRel μ cells cells') (hn : newRowA H elem cells = some (id, H')) :
  ∃ μ' L, HRel P B w0 μ' H' (w.alloc (.cells cells'.toArray elem)) ∧ Step μ μ' H H' ∧ μ' id = some L ∧ L.r = w.heap.size ∧ L.N = cells.length ∧ L.sz = P.cellsOf elem := by
 have hb : BRel P (μ.put H.nx ⟨w.heap.size, cells.length, P.cellsOf elem⟩) ⟨w.heap.size, cells.length, P.cellsOf elem⟩ (.row cells elem false 0 0 false) (.cells cells'.toArray elem) := by
  refine ⟨rfl, by simp [hc.1], rfl, Nat.le_refl _, fun _ => rfl, fun i v v' a b => ?_, ?_⟩
  ·
   exact (hc.2 i v v' a (by simpa using b)).mono (h.ext_put _)
  ·
   exact ⟨fun off _ h1 h2 => by simp at h2, fun _ => .inl rfl⟩
 obtain ⟨a, b, rfl⟩ := h.made hn rfl rfl hb; exact ⟨_, _, a, b, Mp.put_self _ _ _, rfl, rfl, rfl⟩
theorem evBox_sound (h : HRel P B w0 μ H w) {elem : TypeId} {v v' r : Value} (hv : VRel μ v v') (he : evBox H elem v = some (r, H')) :
  ∃ r' w' μ', (Instr.box elem v').run P w = .ok r' w' ∧ HRel P B w0 μ' H' w' ∧ Step μ μ' H H' ∧ VRel μ' r r' := by
 unfold evBox at he; cases ho : v.cells.toList.all oneCell with
 | false => rw [ho] at he; cases he
 | true =>
  rw [ho, cond_true] at he; cases hn : newRowA H elem v.cells.toList with
  | none => rw [hn] at he; cases he
  | some p =>
   obtain ⟨id, H1⟩ := p; rw [hn] at he; simp only [Option.some.injEq, Prod.mk.injEq] at he; obtain ⟨rfl, rfl⟩ := he; obtain ⟨μ', L, a, b, c, d, _⟩ := newRow_sound h hv.cells hn; refine ⟨.pointer (some ⟨w.heap.size, 0, none⟩), _, μ', ?_, a, b, ?_⟩
   ·
    simp [Instr.box, newVar, newRow, newObj, Sem.run]
   ·
    rw [← d]; exact .ptr id 0 L c
theorem evFieldAddr_sound {s : TypeId} {p p' v : Value} {f : Nat} (hp : VRel μ p p') (he : evFieldAddr P s p f = some v) (w : World) :
    ∃ v', (Instr.fieldAt s p' f).run P w = .ok v' w ∧ VRel μ v v' := by
  unfold evFieldAddr at he; cases p with
  | pointer a =>
   cases a with
   | none => simp at he
   | some a =>
    obtain ⟨id, off, L, rfl, hL, rfl⟩ := hp.ptr_inv; simp only at he; cases hu : P.underlying s with
    | none => rw [hu] at he; cases he
    | some d =>
      rw [hu] at he; cases d with
      | struct fields =>
        simp only at he; cases hf : fields[f]? with
        | none => rw [hf] at he; cases he
        | some fd =>
          rw [hf] at he; simp only at he; cases hs : sizeT P fd.type with
          | none => rw [hs] at he; cases he
          | some n =>
            rw [hs] at he; cases n with
            | zero => cases he
            | succ n =>
              simp only [Option.some.injEq] at he; subst he; refine ⟨.pointer (some ⟨L.r, off + fd.offset, none⟩), ?_, .ptr id _ L hL⟩; simp [Instr.fieldAt, und_run hu, hf, Instr.sureAddr, fieldPlace, sizeT_run hs, Addr.add_mk]
      | _ => cases he
  | _ => simp at he

theorem intIn_spec {i : Int} {len n : Nat} (h : intIn i len = some n) : i = (n : Int) ∧ n < len := by
 unfold intIn at h; cases i with
 | ofNat m =>
  simp only at h; cases hb : Nat.blt m len with
  | false => rw [hb] at h; cases h
  | true =>
   rw [hb, cond_true] at h; injection h with h; subst h
   exact ⟨rfl, Nat.le_of_ble_eq_true hb⟩
 | negSucc m => cases h
theorem intUp_spec {i : Int} {len n : Nat} (h : intUp i len = some n) : i = (n : Int) ∧ n ≤ len := by
 unfold intUp at h; cases i with
 | ofNat m =>
  simp only at h; cases hb : Nat.ble m len with
  | false => rw [hb] at h; cases h
  | true =>
   rw [hb, cond_true] at h; injection h with h; subst h
   exact ⟨rfl, Nat.le_of_ble_eq_true hb⟩
 | negSucc m => cases h
theorem VRel.int_inv {k : IntKind} {n : Int} {v : Value} (h : VRel μ (.int k n) v) : v = .int k n := by
 cases h; rfl
theorem VRel.bool_inv {b : Bool} {v : Value} (h : VRel μ (.bool b) v) : v = .bool b := by cases h; rfl
theorem VRel.string_inv {s : ByteArray} {v : Value} (h : VRel μ (.string s) v) : v = .string s := by cases h; rfl
theorem evIndexAddr_sound {t : TypeId} {x x' ix ix' v : Value} (hx : VRel μ x x') (hi : VRel μ ix ix') (he : evIndexAddr P t x ix = some v) (w : World) :
    ∃ v', (Instr.indexAt t x' ix').run P w = .ok v' w ∧ VRel μ v v' := by
  unfold evIndexAddr at he; cases ix with
  | int k i =>
    obtain rfl := hi.int_inv; simp only at he; cases hu : P.underlying t with
    | none => rw [hu] at he; simp at he
    | some d =>
      rw [hu] at he; cases d with
      | array len elem =>
        cases x with
        | pointer a =>
         cases a with
         | none => simp at he
         | some a =>
          obtain ⟨id, off, L, rfl, hL, rfl⟩ := hx.ptr_inv; simp only at he; cases hn : intIn i len with
          | none => rw [hn] at he; simp at he
          | some n =>
            rw [hn] at he; cases hs : sizeT P elem with
            | none => rw [hs] at he; simp at he
            | some sz =>
              rw [hs] at he; simp only [Option.some.injEq] at he; subst he; obtain ⟨rfl, hlt⟩ := intIn_spec hn; refine ⟨.pointer (some ⟨L.r, off + n * sz, none⟩), ?_, .ptr id _ L hL⟩; simp [Instr.indexAt, asIntOf, und_run hu, Instr.sureAddr, sizeT_run hs, hlt, Addr.add_mk]
        | _ => simp at he
      | slice elem =>
        cases x with
        | slice a len cap =>
         cases a with
         | none => simp at he
         | some a =>
          have hsp : a.spot = none := by
            cases q : a.spot with
            | none => rfl
            | some _ => simp [q] at he
          obtain ⟨id, off, L, off', cap', rfl, hL, rfl, ho, _, _⟩ := hx.slice_inv (.inl hsp); simp only at he; cases hn : intIn i len with
          | none => rw [hn] at he; simp at he
          | some n =>
            rw [hn] at he; cases hs : sizeT P elem with
            | none => rw [hs] at he; simp at he
            | some sz =>
              rw [hs] at he; simp only [Option.some.injEq] at he; subst he; obtain ⟨rfl, hlt⟩ := intIn_spec hn; rw [ho (by omega)]; refine ⟨.pointer (some ⟨L.r, off + n * sz, none⟩), ?_, .ptr id _ L hL⟩; simp [Instr.indexAt, asIntOf, und_run hu, sizeT_run hs, hlt, Addr.add_mk]
        | _ => simp at he
      | _ => simp at he
  | _ => simp at he
end
end Go.Cre

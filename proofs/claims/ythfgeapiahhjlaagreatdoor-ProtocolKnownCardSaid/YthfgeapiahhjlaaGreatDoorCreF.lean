/- A part of a verified evaluator of closed calls: see YthfgeapiahhjlaaGreatDoorCreZ. -/
import Derived.Test.YthfgeapiahhjlaaGreatDoorCreE
import Derived.Laws.IdiomCopy
set_option linter.unusedVariables false
set_option linter.unusedSimpArgs false
namespace Go.Cre
open Go.RowKit

def splA (c : Array Value) (n : Nat) : List Value → Array Value
  | [] => c
  | v :: vs => splA (c.setIfInBounds n v) (n + 1) vs

theorem splA_size (vs : List Value) : ∀ (c : Array Value) (n : Nat), (splA c n vs).size = c.size := by
  induction vs with
  | nil => intro c n; rfl
  | cons v vs ih => intro c n; rw [splA, ih]; simp

theorem splA_get (vs : List Value) : ∀ (c : Array Value) (n i : Nat), n + vs.length ≤ c.size → (splA c n vs)[i]? = if n ≤ i ∧ i < n + vs.length then vs[i - n]? else c[i]? := by
  induction vs with
  | nil => intro c n i h; simp [splA]; omega
  | cons v vs ih =>
    intro c n i h
    simp only [List.length_cons] at h
    rw [splA, ih _ _ _ (by simp; omega)]
    rw [Array.getElem?_setIfInBounds]
    by_cases h1 : n = i
    · subst h1
      rw [if_neg (by omega), if_pos rfl, if_pos (by omega), if_pos (by simp)]
      simp
    · by_cases h2 : n + 1 ≤ i ∧ i < n + 1 + vs.length
      · rw [if_pos h2, if_pos (by simp; omega)]
        rw [show i - n = (i - (n + 1)) + 1 from by omega, List.getElem?_cons_succ]
      · rw [if_neg h2, if_neg h1, if_neg (by simp; omega)]

theorem oneCell_eq (v : Value) : v.oneCell' = oneCell v := by cases v <;> rfl

theorem Addr.add_mk (b o i : Nat) : (⟨b, o, none⟩ : Addr).add i = ⟨b, o + i, none⟩ := by
  unfold Addr.add; split <;> simp_all

section
variable {P : Program}

theorem cell_of_row {w : World} {r : Nat} {c : Array Value} {e : TypeId} {f : Nat × Nat} (h : w.heap[r]? = some (.cells c e f)) (o : Nat) : w.cell? ⟨r, o, none⟩ = c[o]? := by
  simp [World.cell?, h]
theorem frozen_of_row {w : World} {r : Nat} {c : Array Value} {e : TypeId} {f : Nat × Nat} (h : w.heap[r]? = some (.cells c e f)) (o : Nat) : w.frozen? ⟨r, o, none⟩ = (decide (f.1 ≤ o) && decide (o < f.2)) := by
  simp [World.frozen?, h]

theorem setCell_row {w : World} {r : Nat} {c : Array Value} {e : TypeId} {f : Nat × Nat} (h : w.heap[r]? = some (.cells c e f)) (o : Nat) (v : Value) :
    w.setCell ⟨r, o, none⟩ v = { w with heap := w.heap.setIfInBounds r (.cells (c.setIfInBounds o v) e f) } := by
  have hr : r < w.heap.size := by
    rcases Nat.lt_or_ge r w.heap.size with hh | hh
    · exact hh
    · rw [Array.getElem?_eq_none hh] at h; cases h
  unfold World.setCell
  congr 1
  apply Array.ext_getElem?
  intro i
  rw [Array.getElem?_modify, Array.getElem?_setIfInBounds]
  by_cases hi : r = i
  · subst hi; rw [if_pos rfl, if_pos rfl, h, if_pos hr]; rfl
  · simp [hi]

theorem run_storeCells_row (r off : Nat) (e : TypeId) (f : Nat × Nat) : ∀ (vs : List Value) (i : Nat) (c : Array Value) (w : World), w.heap[r]? = some (.cells c e f) → off + i + vs.length ≤ c.size →
    (∀ j, j < vs.length → ¬ (f.1 ≤ off + i + j ∧ off + i + j < f.2)) → (∀ v ∈ vs, oneCell v = true) →
    (storeCells ⟨r, off, none⟩ vs i).run P w = .ok () { w with heap := w.heap.setIfInBounds r (.cells (splA c (off + i) vs) e f) } := by
  intro vs
  induction vs with
  | nil =>
    intro i c w h _ _ _
    have hr : r < w.heap.size := by
      rcases Nat.lt_or_ge r w.heap.size with hh | hh
      · exact hh
      · rw [Array.getElem?_eq_none hh] at h; cases h
    have : w.heap.setIfInBounds r (.cells c e f) = w.heap := by
      apply Array.ext_getElem?
      intro j
      rw [Array.getElem?_setIfInBounds]
      split
      · rename_i hj; subst hj; exact h.symm
      · rfl
    simp [storeCells, splA, this]
  | cons v vs ih =>
    intro i c w h hl hf h1
    simp only [List.length_cons] at hl hf
    have hr : r < w.heap.size := by
      rcases Nat.lt_or_ge r w.heap.size with hh | hh
      · exact hh
      · rw [Array.getElem?_eq_none hh] at h; cases h
    have hst : (store ((⟨r, off, none⟩ : Addr).add i) v).run P w = .ok () (w.setCell ⟨r, off + i, none⟩ v) := by
      rw [Addr.add_mk, run_store P w _ v _ (by rw [oneCell_eq]; exact h1 v (by simp))]
      have hz := hf 0 (by omega)
      have hc : w.cell? ⟨r, off + i, none⟩ = some (c[off + i]'(by omega)) := by
        rw [cell_of_row h, Array.getElem?_eq_getElem (by omega)]
      have hz' : w.frozen? ⟨r, off + i, none⟩ = false := by
        rw [frozen_of_row h]
        simp only [Nat.add_zero] at hz
        by_cases q : f.1 ≤ off + i
        · have : ¬ (off + i < f.2) := fun x => hz ⟨q, x⟩
          simp [this]
        · simp [q]
      simp [hc, hz']
    have hw : (w.setCell ⟨r, off + i, none⟩ v).heap[r]? = some (.cells (c.setIfInBounds (off + i) v) e f) := by
      rw [setCell_row h]; show (w.heap.setIfInBounds r _)[r]? = _; rw [Array.getElem?_setIfInBounds]; simp [hr]
    have := ih (i + 1) (c.setIfInBounds (off + i) v) (w.setCell ⟨r, off + i, none⟩ v) hw (by simp; omega) (fun j hj => by
      have := hf (j + 1) (by omega); rwa [show off + i + (j + 1) = off + (i + 1) + j from by omega] at this) (fun x hx => h1 x (by simp [hx]))
    simp only [storeCells, Sem.run_bind, hst, Result.andThen_ok, this, splA]
    rw [setCell_row h, show off + (i + 1) = off + i + 1 from by omega]
    congr 2
    show (w.heap.setIfInBounds r _).setIfInBounds r _ = _
    apply Array.ext_getElem?
    intro j
    simp only [Array.getElem?_setIfInBounds, Array.size_setIfInBounds]
    split <;> rfl

variable {B : Nat → Prop} {w0 w : World} {μ : Mp} {H H' : Hp}

theorem frz_ok {N fz : Nat} {sh : Bool} {f : Nat × Nat} (h : frzOk N fz sh f) {o : Nat} (ho : o < N) (hz : fz ≤ o) : ¬ (f.1 ≤ o ∧ o < f.2) := fun q => by
  have := h.1 o ho q.1 q.2; omega

/-- A ROW IS WRITTEN, its length stays; if it is open, the others of its family die -/
theorem HRel.writeRow (h : HRel P B w0 μ H w) {id fam fz fz' : Nat} {L : Loc} {cells cells' : List Value} {elem : TypeId} {opn sh : Bool} {o' : Obj} {H1 : Hp} (hL : μ id = some L) (hglo : H.glo ≤ id) (hm : H.mem.get id = some (.row cells elem opn fam fz sh))
    (s1 : cells'.length = cells.length) (hu : H.upd id (.row cells' elem opn fam fz' sh) = some H1) (he : (bif opn then killOthers H1 id fam else some H1) = some H') (hb : BRel P μ L (.row cells' elem opn fam fz' sh) o') :
    HRel P B w0 μ H' { w with heap := w.heap.setIfInBounds L.r o' } ∧ Step μ μ H H' := by
  obtain ⟨u1, u2, u3, u4, u5⟩ := Hp.upd_eq hu
  have hlive : H.mem.get id ≠ some .dead := by rw [hm]; simp
  cases opn with
  | false =>
    simp only [cond_false] at he
    injection he with he; subst he
    refine h.write hL hglo hlive u1 u3 u4 (by rw [u5]; simp) (fun x hx => .inl (by rw [u5, if_neg hx])) ?_ (fun f l hl => .inl (by rw [u2]; exact hl)) (fun f l hl => .inl (by rw [← u2]; exact hl))
      (fun c e f z s q => by injection q with _ _ q; cases q) (fun q => by rw [hm] at q; simp [isOpen] at q) hb
    intro x L' hx hL' hr
    rcases h.sep id x L L' (Ne.symm hx) hL hL' hr.symm with d | d | ⟨f', l, ⟨c1, e1, z1, s1', q⟩, _⟩
    · exact absurd d hlive
    · rw [u5, if_neg hx]; exact d
    · rw [hm] at q; injection q with q; injection q with _ _ q; cases q
  | true =>
    simp only [cond_true] at he
    unfold killOthers at he
    cases hf : H1.fam.get fam with
    | none => rw [hf] at he; cases he
    | some l =>
      rw [hf] at he
      simp only at he
      cases hk : killAll H1 id l with
      | none => rw [hk] at he; cases he
      | some H2 =>
        rw [hk] at he
        simp only at he
        obtain ⟨k1, k2, k3, k4, k5, k6⟩ := killAll_eq hk
        obtain ⟨g1, g2, g3, g4, g5⟩ := Hp.setFam_eq he
        have hfam : H.fam.get fam = some l := by rw [← u2]; exact hf
        have hid : H'.mem.get id = some (.row cells' elem true fam fz' sh) := by rw [g2, k6 id (.inr rfl), u5]; simp
        have hoth : ∀ x, x ≠ id → x ∉ l → H'.mem.get x = H.mem.get x := fun x hx hxl => by rw [g2, k6 x (.inl hxl), u5, if_neg hx]
        have hin : ∀ x, x ≠ id → x ∈ l → H'.mem.get x = some .dead := fun x hx hxl => by rw [g2]; exact k5 x hxl hx
        refine h.write hL hglo hlive (by omega) (by omega) (by omega) hid ?_ ?_ ?_ ?_ ?_ (fun _ => rfl) hb
        · intro x hx
          by_cases hxl : x ∈ l
          · exact .inr ⟨hin x hx hxl, (h.famMem fam l x hfam hxl).2⟩
          · exact .inl (hoth x hx hxl)
        · intro x L' hx hL' hr
          rcases h.sep id x L L' (Ne.symm hx) hL hL' hr.symm with d | d | ⟨f', l', ⟨c1, e1, z1, s1', q⟩, _, hl', _, m2⟩
          · exact absurd d hlive
          · by_cases hxl : x ∈ l
            · exact hin x hx hxl
            · rw [hoth x hx hxl]; exact d
          · rw [hm] at q; injection q with q; injection q with _ _ _ q; subst q
            rw [hfam] at hl'; injection hl' with hl'; subst hl'
            exact hin x hx m2
        · intro f' l' hl'
          by_cases hff : f' = fam
          · subst hff
            rw [hfam] at hl'; injection hl' with hl'; subst hl'
            right
            intro x y hx hy hxy
            by_cases hxi : x = id
            · right; exact hin y (fun e => hxy (by rw [hxi, e])) hy
            · left; exact hin x hxi hx
          · left; rw [g5, if_neg hff, k2, u2]; exact hl'
        · intro f' l' hl'
          rw [g5] at hl'
          split at hl'
          · injection hl' with hl'; right; exact ⟨hl'.symm, rfl⟩
          · left; rw [k2, u2] at hl'; exact hl'
        · intro c1 e1 f1 z1 s1' q
          injection q with q0 _ _ q; subst q; subst q0
          exact ⟨_, _, _, _, hm, s1.symm⟩

/-- the abstract store of cells is the real one's -/
theorem evStoreCells_sound (h : HRel P B w0 μ H w) {id off : Nat} {L : Loc} {vs vs' : List Value} (hL : μ id = some L) (hv : LRel μ vs vs') (he : evStoreCells H id off vs = some H') :
    ∃ w', (storeCells ⟨L.r, off, none⟩ vs').run P w = .ok () w' ∧ HRel P B w0 μ H' w' ∧ Step μ μ H H' := by
  unfold evStoreCells at he
  cases vs with
  | nil =>
    injection he with he; subst he
    have := hv.inv_nil; subst this
    exact ⟨w, rfl, h, Step.refl _ _⟩
  | cons v0 vs0 =>
    simp only at he
    generalize hvs : v0 :: vs0 = vs at *
    cases hg : Nat.blt id H.glo with
    | true => rw [hg] at he; cases he
    | false =>
      rw [hg, cond_false] at he
      have hglo : H.glo ≤ id := by
        have : ¬ id < H.glo := fun q => by have := Nat.ble_eq_true_of_le q; unfold Nat.blt at hg; simp_all
        omega
      cases hm : H.mem.get id with
      | none => rw [hm] at he; cases he
      | some b =>
        rw [hm] at he
        cases b with
        | row cells elem opn fam fz sh =>
          simp only at he
          cases hc : (Nat.ble fz off && vs.all oneCell) with
          | false => rw [hc] at he; cases he
          | true =>
            rw [hc, cond_true] at he
            simp only [Bool.and_eq_true] at hc
            have hfz := Nat.le_of_ble_eq_true hc.1
            cases hs : splice off cells vs with
            | none => rw [hs] at he; cases he
            | some cells' =>
              rw [hs] at he
              simp only at he
              cases hu : H.upd id (.row cells' elem opn fam fz sh) with
              | none => rw [hu] at he; cases he
              | some H1 =>
                rw [hu] at he
                simp only at he
                obtain ⟨s1, s2, s3⟩ := splice_spec hs
                obtain ⟨b, o, q1, q2, q3⟩ := h.blk id L hL
                rw [hm] at q1; injection q1 with q1; subst q1
                cases o with
                | cells c e f =>
                  obtain ⟨r1, r2, r3, r4, r5, r6, r7⟩ := q3
                  have hvl := hv.1
                  have hrun := run_storeCells_row (P := P) L.r off e f vs' 0 c w q2 (by omega) (fun j hj => by
                    simp only [Nat.add_zero]
                    exact frz_ok r7 (by omega) (by omega)) (fun v hv' => by
                    obtain ⟨i, hi⟩ := List.mem_iff_getElem?.1 hv'
                    have hi2 : i < vs.length := by
                      have := (List.getElem?_eq_some_iff.1 hi).1; omega
                    have := hv.2 i vs[i] v (List.getElem?_eq_getElem hi2) hi
                    rw [this.oneCell]
                    exact List.all_eq_true.1 hc.2 _ (List.getElem_mem hi2))
                  simp only [Nat.add_zero] at hrun
                  have hb : BRel P μ L (.row cells' elem opn fam fz sh) (.cells (splA c off vs') e f) := by
                    refine ⟨r1, by rw [splA_size]; exact r2, r3, by omega, fun ho => by have := r5 ho; omega, ?_, r7⟩
                    intro i v v' hi hi'
                    rw [splA_get _ _ _ _ (by omega)] at hi'
                    rw [s3] at hi
                    rw [← hvl] at hi'
                    split at hi
                    · rename_i hc'; rw [if_pos hc'] at hi'; exact hv.2 _ v v' hi hi'
                    · rename_i hc'; rw [if_neg hc'] at hi'; exact r6 i v v' hi hi'
                  exact ⟨_, hrun, h.writeRow hL hglo hm s1 hu he hb⟩
                | _ => exact q3.elim
        | _ => cases he
end
end Go.Cre

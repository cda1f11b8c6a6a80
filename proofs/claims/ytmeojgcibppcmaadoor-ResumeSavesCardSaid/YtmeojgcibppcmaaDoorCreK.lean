/- A part of the proof of ResumeSaves. -/
import Derived.Test.YtmeojgcibppcmaaDoorCreJ
set_option linter.unusedVariables false
set_option linter.unusedSimpArgs false
namespace Go.Cre
open Go.RowKit
section
variable {P : Program} {B : Nat → Prop} {w0 w : World} {μ : Mp} {H H' : Hp}
theorem evCopy_sound (h : HRel P B w0 μ H w) {td ts ty : TypeId} {d d' s s' v : Value} (hd : VRel μ d d') (hs : VRel μ s s') (he : evCopy P H td d s = some (v, H')) :
    ∃ v' w', (Builtin.copy_ #[td, ts] ty #[d', s']).run P w = .ok v' w' ∧ HRel P B w0 μ H' w' ∧ Step μ μ H H' ∧ VRel μ v v' := by
  unfold evCopy at he; cases hu : P.underlying td with
  | none => rw [hu] at he; simp at he
  | some t =>
    rw [hu] at he; cases t with
    | slice elem =>
      cases d with
      | slice base dLen dCap =>
        cases hl : lenA s with
        | none => rw [hl] at he; simp at he
        | some sLen =>
          rw [hl] at he; simp only at he; cases hsz : sizeT P elem with
          | none => rw [hsz] at he; simp at he
          | some sz =>
            rw [hsz] at he; simp only at he; generalize hn : (bif Nat.ble sLen dLen then sLen else dLen) = n at he; have hmin : Nat.min sLen dLen = n := by
              rw [← hn]; cases hb : Nat.ble sLen dLen with
              | true => have := Nat.le_of_ble_eq_true hb; simp; exact Nat.min_eq_left this
              | false =>
                have : ¬ sLen ≤ dLen := fun q => by rw [Nat.ble_eq_true_of_le q] at hb; cases hb
                simp; exact Nat.min_eq_right (by omega)
            have hnle : n ≤ sLen := by rw [← hmin]; exact Nat.min_le_left _ _
            cases hf : evFirst H sz n s with
            | none => rw [hf] at he; simp at he
            | some cells =>
              rw [hf] at he; simp only at he; obtain ⟨cells', c1, c2⟩ := evFirst_sound h hs hl hnle hf; have hlen := lenA_run (P := P) hs hl; have hfw : (Builtin.firstCells sz n s').run P w = .ok cells'.toArray w := c2 w.drawn; cases base with
              | none =>
                simp only [Option.some.injEq, Prod.mk.injEq] at he; obtain ⟨rfl, rfl⟩ := he; rw [hd.slice_nil]; refine ⟨.int .i64 n, w, ?_, h, Step.refl _ _, .atom _ rfl⟩; simp [Builtin.copy_, und_run hu, hlen, hmin, sizeT_run hsz, hfw, goInt]
              | some a =>
                have hsp : a.spot = none := by
                  cases q : a.spot with
                  | none => rfl
                  | some _ => simp [q] at he
                obtain ⟨id, off, L, off', cap', rfl, hL, rfl, ho, _, _⟩ := hd.slice_inv (.inl hsp); simp only at he; cases hall : cells.all oneCell with
                | false => rw [hall] at he; simp at he
                | true =>
                  rw [hall] at he; simp only [Bool.not_true, cond_false] at he; cases hst : evStoreCells H id off cells with
                  | none => rw [hst] at he; simp at he
                  | some H1 =>
                    rw [hst] at he; simp only [Option.some.injEq, Prod.mk.injEq] at he; obtain ⟨rfl, rfl⟩ := he; obtain ⟨w', a1, a2, a3⟩ := evStoreCells_sound h hL c1 hst; refine ⟨.int .i64 n, w', ?_, a2, a3, .atom _ rfl⟩; have hst' : (storeCells ⟨L.r, off', none⟩ cells').run P w = .ok () w' := by
                      by_cases h0 : 0 < dLen
                      · rw [ho h0]; exact a1
                      · have hn0 : n = 0 := by rw [← hmin]; have : dLen = 0 := by omega
                                               rw [this]; exact Nat.min_zero _
                        have : cells = [] := by
                          subst hn0; cases s with
                          | slice b l c => cases b with
                            | none => simp [evFirst] at hf; exact hf
                            | some b =>
                              simp [evFirst] at hf; exact hf
                          | string s => simp [evFirst, takeN] at hf; exact hf
                          | _ => simp [lenA] at hl
                        subst this; have := c1.inv_nil; subst this; simp only [storeCells] at a1 ⊢; exact a1
                    simp [Builtin.copy_, und_run hu, hlen, hmin, sizeT_run hsz, hfw, goInt, hst']
      | _ => simp at he
    | _ => simp at he

theorem places_sound : ∀ {fs : List Field} {ps : List (Nat × Nat)}, places P fs = some ps → ps.length = fs.length ∧ ∀ w, (fs.mapM (fun f => Prod.mk f.offset <$> sizeOf f.type) : Sem (List (Nat × Nat))).run P w = .ok ps w := by
 intro fs; induction fs with
 | nil => intro ps h; simp [places] at h; subst h; exact ⟨rfl, fun w => by simp⟩
 | cons f fs ih =>
  intro ps h; simp only [places] at h; cases hs : sizeT P f.type with
  | none => rw [hs] at h; simp at h
  | some n =>
   rw [hs] at h; cases hp : places P fs with
   | none => rw [hp] at h; simp at h
   | some r =>
    rw [hp] at h; simp only [Option.some.injEq] at h; subst h; obtain ⟨a, b⟩ := ih hp; refine ⟨by simp [a], fun w => ?_⟩; simp [List.mapM_cons, sizeT_run hs, b]
theorem fold_spl (vs : List Value) : ∀ (c : Array Value) (off k : Nat), (vs.zipIdx k).foldl (fun cs (x : Value × Nat) => cs.setIfInBounds (off + x.2) x.1) c = splA c (off + k) vs := by
 induction vs with
 | nil => intro c off k; rfl
 | cons v vs ih => intro c off k; simp only [List.zipIdx_cons, List.foldl_cons, splA]; rw [ih]; congr 1
theorem splA_of_splice {off : Nat} {cells vs cells2 : List Value} (h : splice off cells vs = some cells2) : splA cells.toArray off vs = cells2.toArray := by
 obtain ⟨e1, e2, e3⟩ := splice_spec h; apply Array.ext_getElem?
 intro i; rw [splA_get _ _ _ _ (by simpa using e2)]; have := e3 i; simp only [List.getElem?_toArray]; rw [this]
theorem splice_rel {off : Nat} {cells cells' vs vs' r : List Value} (hc : LRel μ cells cells') (hv : LRel μ vs vs') (h : splice off cells vs = some r) : ∃ r', splice off cells' vs' = some r' ∧ LRel μ r r' := by
 induction off generalizing cells cells' r with
 | zero =>
  induction vs generalizing cells cells' vs' r with
  | nil =>
   have := hv.inv_nil; subst this; simp [splice] at h; subst h; exact ⟨cells', by simp [splice], hc⟩
  | cons v vs ih =>
   obtain ⟨v', t', rfl, h1, h2⟩ := hv.inv_cons; cases cells with
   | nil => simp [splice] at h
   | cons c cs =>
    obtain ⟨c', cs', rfl, g1, g2⟩ := hc.inv_cons; simp only [splice] at h ⊢; cases hs : splice 0 cs vs with
    | none => rw [hs] at h; simp at h
    | some r0 =>
     rw [hs] at h; simp only [Option.some.injEq] at h; subst h; obtain ⟨r', e1, e2⟩ := ih h2 g2 hs; rw [e1]; exact ⟨v' :: r', rfl, LRel.cons h1 e2⟩
 | succ n ih =>
  cases cells with
  | nil => simp [splice] at h
  | cons c cs =>
   obtain ⟨c', cs', rfl, g1, g2⟩ := hc.inv_cons; simp only [splice] at h ⊢; cases hs : splice n cs vs with
   | none => rw [hs] at h; simp at h
   | some r0 =>
    rw [hs] at h; simp only [Option.some.injEq] at h; subst h; obtain ⟨r', e1, e2⟩ := ih g2 hs; rw [e1]; exact ⟨c' :: r', rfl, LRel.cons g1 e2⟩
def PRel (μ : Mp) (l l' : List (Nat × Value)) : Prop := l.length = l'.length ∧ ∀ (i : Nat) p p', l[i]? = some p → l'[i]? = some p' → p.1 = p'.1 ∧ VRel μ p.2 p'.2
theorem PRel.inv_cons {p : Nat × Value} {l m : List (Nat × Value)} (h : PRel μ (p :: l) m) : ∃ v' l', m = (p.1, v') :: l' ∧ VRel μ p.2 v' ∧ PRel μ l l' := by
 cases m with
 | nil => have := h.1; simp at this
 | cons q l' =>
  obtain ⟨a, b⟩ := h.2 0 p q rfl rfl; refine ⟨q.2, l', by rw [a], b, by have := h.1; simpa using this, fun i x y hx hy => h.2 (i + 1) x y (by simpa using hx) (by simpa using hy)⟩
theorem fill_sound {place : Nat → Option (Nat × Nat)} : ∀ {parts parts' : List (Nat × Value)} {cells cells' r : List Value}, PRel μ parts parts' → LRel μ cells cells' → fillA place cells parts = some r →
  ∃ r', Instr.fill place cells'.toArray parts' = some r'.toArray ∧ LRel μ r r' := by
 intro parts; induction parts with
 | nil =>
  intro parts' cells cells' r hp hc he; have : parts' = [] := List.length_eq_zero_iff.1 (by have := hp.1; simpa using this.symm); subst this; simp [fillA] at he; subst he; exact ⟨cells', rfl, hc⟩
 | cons p parts ih =>
  intro parts' cells cells' r hp hc he; obtain ⟨v', l', rfl, h1, h2⟩ := hp.inv_cons; obtain ⟨i, v⟩ := p; simp only [fillA] at he; cases hpl : place i with
  | none => rw [hpl] at he; simp at he
  | some q =>
   obtain ⟨off, size⟩ := q; rw [hpl] at he; simp only at he; cases hb : Nat.beq v.cells.toList.length size with
   | false => rw [hb] at he; simp at he
   | true =>
    rw [hb, cond_true] at he; have hb := Nat.eq_of_beq_eq_true hb; cases hs : splice off cells v.cells.toList with
    | none => rw [hs] at he; simp at he
    | some cells2 =>
     rw [hs] at he; simp only at he; have hv := h1.cells; obtain ⟨c2', s1, s2⟩ := splice_rel hc hv hs; obtain ⟨r', a, b⟩ := ih h2 s2 he; refine ⟨r', ?_, b⟩; obtain ⟨e1, e2, e3⟩ := splice_spec s1; have hvl := hv.1; have hz : v'.cells.size = size := by simp at hvl hb; omega
     have hz2 : v'.cells.toList.length = v'.cells.size := by simp
     have hfold : (v'.cells.zipIdx.foldl (fun cs (x : Value × Nat) => cs.setIfInBounds (off + x.2) x.1) cells'.toArray) = c2'.toArray := by
      rw [← Array.foldl_toList, Array.toList_zipIdx, fold_spl, Nat.add_zero]; exact splA_of_splice s1
     have h1' : ¬ (v'.cells.size ≠ size) := by omega
     have h2' : ¬ (off + v'.cells.size > cells'.toArray.size) := by
      simp only [List.size_toArray]; rw [← hz2]; omega
     simp only [Instr.fill, hpl]; rw [if_neg (by simp only [Bool.or_eq_true, decide_eq_true_eq]; exact not_or.2 ⟨h1', h2'⟩), hfold]; exact a
theorem evBuild_sound {t : TypeId} {parts parts' : List (Nat × Value)} {v : Value} (hp : PRel μ parts parts') (he : evBuild P t parts = some v) (w : World) :
  ∃ v', (Instr.build t parts'.toArray).run P w = .ok v' w ∧ VRel μ v v' := by
 unfold evBuild at he; cases hz : zeroT P t with
 | none => rw [hz] at he; simp at he
 | some z =>
  rw [hz] at he; cases hu : P.underlying t with
  | none => rw [hu] at he; simp at he
  | some d =>
   rw [hu] at he; have hzr : plain z = true → LRel μ z.cells.toList z.cells.toList := fun q => (plain_rel q).cells; cases d with
   | struct fields =>
    simp only at he; cases hpl : plain z with
    | false => rw [hpl] at he; simp at he
    | true =>
     rw [hpl, cond_true] at he; cases hps : places P fields.toList with
     | none => rw [hps] at he; simp at he
     | some ps =>
      rw [hps] at he; simp only at he; cases hf : fillA (nth ps) z.cells.toList parts with
      | none => rw [hf] at he; simp at he
      | some cells =>
       rw [hf] at he; simp only [Option.some.injEq] at he; subst he; obtain ⟨r', a, b⟩ := fill_sound hp (hzr hpl) hf; obtain ⟨_, hm⟩ := places_sound hps; refine ⟨.agg r'.toArray, ?_, VRel.agg' b⟩; have hn : (fun i => ps[i]?) = nth ps := by funext i; rw [nth_eq]
       have hrun : (Array.mapM (fun f => Prod.mk f.offset <$> sizeOf f.type) fields : Sem (Array (Nat × Nat))).run P w = .ok ps.toArray w := by
        rw [Array.mapM_eq_mapM_toList]; simp [hm]
       have a' : Instr.fill (fun x => ps[x]?) z.cells parts' = some r'.toArray := by rw [hn]; simpa using a
       simp [Instr.build, zeroT_run hz, und_run hu, hrun, a']
   | array len elem =>
    simp only at he; cases hpl : plain z with
    | false => rw [hpl] at he; simp at he
    | true =>
     rw [hpl, cond_true] at he; cases hs : sizeT P elem with
     | none => rw [hs] at he; simp at he
     | some sz =>
      rw [hs] at he; simp only at he; cases hf : fillA (fun i => some (i * sz, sz)) z.cells.toList parts with
      | none => rw [hf] at he; simp at he
      | some cells =>
       rw [hf] at he; simp only [Option.some.injEq] at he; subst he; obtain ⟨r', a, b⟩ := fill_sound hp (hzr hpl) hf; refine ⟨.agg r'.toArray, ?_, VRel.agg' b⟩; have a' : Instr.fill (fun i => some (i * sz, sz)) z.cells parts' = some r'.toArray := by simpa using a
       simp [Instr.build, zeroT_run hz, und_run hu, sizeT_run hs, a']
   | _ => simp at he
theorem evBuildSlice_sound (h : HRel P B w0 μ H w) {t : TypeId} {len : Nat} {parts parts' : List (Nat × Value)} {v : Value} (hp : PRel μ parts parts') (he : evBuildSlice P H t len parts = some (v, H')) :
  ∃ v' w' μ', (Instr.buildSlice t len parts'.toArray).run P w = .ok v' w' ∧ HRel P B w0 μ' H' w' ∧ Step μ μ' H H' ∧ VRel μ' v v' := by
 unfold evBuildSlice at he; cases hu : P.underlying t with
 | none => rw [hu] at he; simp at he
 | some d =>
  rw [hu] at he; cases d with
  | slice elem =>
   simp only at he; cases hs : sizeT P elem with
   | none => rw [hs] at he; simp at he
   | some sz =>
    rw [hs] at he; cases hz : zeroT P elem with
    | none => rw [hz] at he; simp at he
    | some z =>
     rw [hz] at he; simp only at he; cases hc : (Nat.ble len 100000 && Nat.ble (len * sz) 100000 && plain z && Nat.beq z.cells.toList.length sz) with
     | false => rw [hc] at he; simp at he
     | true =>
      rw [hc, cond_true] at he; simp only [Bool.and_eq_true] at hc; obtain ⟨⟨⟨q0, q1⟩, q2⟩, q3⟩ := hc; have q0 := Nat.le_of_ble_eq_true q0; have q1 := Nat.le_of_ble_eq_true q1; have q3 := Nat.eq_of_beq_eq_true q3; cases hf : fillA (fun i => some (i * sz, sz)) (zeroCellsL z.cells.toList len) parts with
      | none => rw [hf] at he; simp at he
      | some cells =>
       rw [hf] at he; simp only at he; cases ho : cells.all oneCell with
       | false => rw [ho] at he; simp at he
       | true =>
        rw [ho, cond_true] at he; cases hn : newRowA H elem cells with
        | none => rw [hn] at he; simp at he
        | some p =>
         obtain ⟨id, H1⟩ := p; rw [hn] at he; simp only [Option.some.injEq, Prod.mk.injEq] at he; obtain ⟨rfl, rfl⟩ := he; have hzr : LRel μ z.cells.toList z.cells.toList := (plain_rel q2).cells; have hcells : LRel μ (zeroCellsL z.cells.toList len) (zeroCellsL z.cells.toList len) := LRel.self_of fun v hv =>
          zeroCellsL_mem (p := fun v => VRel μ v v) hv (fun u hu => by
           obtain ⟨i, hi⟩ := List.mem_iff_getElem?.1 hu; exact hzr.2 i u u hi hi)
         obtain ⟨r', a, b⟩ := fill_sound hp hcells hf; obtain ⟨μ', L, m1, m2, m3, m4, _⟩ := newRow_sound h b hn; refine ⟨.slice (some ⟨w.heap.size, 0, none⟩) len len, _, μ', ?_, m1, m2, ?_⟩
         ·
          have hz2 := zeroCells_eq z.cells.toList len; have hzsz : z.cells.size = sz := by simpa using q3
          have hbig : ¬ (16777216 < len * sz) := by omega
          rw [q3] at hz2; simp only [Array.toArray_toList] at hz2; by_cases h0 : len * sz = 0
          ·
           have hl0 : zeroCellsL z.cells.toList len = [] := List.length_eq_zero_iff.1 (by rw [zeroCellsL_length, q3]; exact h0); rw [hl0] at a; have a' : Instr.fill (fun i => some (i * sz, sz)) (Array.map (fun _ => (default : Value)) (Array.range 0)) parts' = some r'.toArray := by
            have e0 : Array.map (fun _ : Nat => (default : Value)) (Array.range 0) = #[] := by simp
            rw [e0]; exact a
           simp [Instr.buildSlice, und_run hu, sizeT_run hs, h0, a', newRow, newObj, Sem.run]
          ·
           have a' : Instr.fill (fun i => some (i * sz, sz)) ((Array.range (len * sz)).map fun i => z.cells[i % z.cells.size]!) parts' = some r'.toArray := by rw [hz2]; exact a
           simp [Instr.buildSlice, und_run hu, sizeT_run hs, hbig, h0, zeroT_run hz, a', newRow, newObj, Sem.run]
         ·
          rw [← m4]; refine .sliceE id 0 len len L m3 ?_; have : (100000 : Nat) < openCap := by decide
          omega
  | _ => simp at he
end
end Go.Cre

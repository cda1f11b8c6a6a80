/- A part of a verified evaluator of closed calls: see YtgflhaomkemadaaGreatDoorCreZ. -/
import Derived.Test.YtgflhaomkemadaaGreatDoorCreK
import Derived.Orders
set_option linter.unusedVariables false
set_option linter.unusedSimpArgs false
namespace Go.Cre
open Go.RowKit

section
variable {P : Program} {B : Nat} {w0 w : World} {μ : Mp} {H H' : Hp}

theorem evPure_run {α : Type} {s : Sem α} {a : α} (h : evPure P s = some a) (w : World) : s.run P w = .ok a w := by
  induction s generalizing w with
  | pure b => simp [evPure] at h; subst h; rfl
  | program k ih => exact ih P (by simpa [evPure] using h) w
  | mark m k ih => exact ih (by simpa [evPure] using h) w
  | _ => simp [evPure] at h

/-! ### Maps -/
def eRes (μ : Mp) : Option (Nat × Value) → Option (Nat × Value) → Prop
  | none, none => True
  | some (i, v), some (j, v') => i = j ∧ VRel μ v v'
  | _, _ => False

theorem sameNow_equalIn {kt : TypeId} {kd : TypeDesc} {a b : Value} {r : Bool} (d : Nat) (hu : P.underlying kt = some kd) (h : Instr.sameNow kd a b = some r) (w : World) : (Op.equalIn (d + 1) kt a b).run P w = .ok r w := by
  cases kd with
  | int k0 =>
    cases a <;> cases b <;> simp [Instr.sameNow] at h
    rename_i k n k' m
    obtain ⟨rfl, rfl⟩ := h
    simp [Op.equalIn, und_run hu]
  | string =>
    cases a <;> cases b <;> simp [Instr.sameNow] at h
    subst h
    simp [Op.equalIn, und_run hu]
  | bool =>
    cases a <;> cases b <;> simp [Instr.sameNow] at h
    subst h
    simp [Op.equalIn, und_run hu]
  | _ => cases a <;> cases b <;> simp [Instr.sameNow] at h

theorem sameNow_equal {kt : TypeId} {kd : TypeDesc} {a b : Value} {r : Bool} (hu : P.underlying kt = some kd) (h : Instr.sameNow kd a b = some r) (w : World) : (Op.equal kt a b).run P w = .ok r w :=
  sameNow_equalIn 9999 hu h w

theorem ERel.inv_cons {e : MapEntry} {l m : List MapEntry} (h : ERel μ (e :: l) m) : ∃ e' l', m = e' :: l' ∧ e'.key = e.key ∧ plain e.key = true ∧ e'.born = e.born ∧ VRel μ e.val e'.val ∧ ERel μ l l' := by
  cases m with
  | nil => have := h.1; simp at this
  | cons e' l' =>
    obtain ⟨a, b, c, d⟩ := h.2 0 e e' rfl rfl
    exact ⟨e', l', rfl, a, b, c, d, by have := h.1; simpa using this, fun i x y hx hy => h.2 (i + 1) x y (by simpa using hx) (by simpa using hy)⟩
theorem ERel.inv_nil {m : List MapEntry} (h : ERel μ [] m) : m = [] := List.length_eq_zero_iff.1 (by have := h.1; simpa using this.symm)

theorem findA_sound {kt : TypeId} {kd : TypeDesc} {k : Value} (hu : P.underlying kt = some kd) : ∀ {es es' : List MapEntry} {i : Nat} {r : Option (Nat × Value)}, ERel μ es es' → findA P kt kd k es i = some r →
    ∃ r', eRes μ r r' ∧ (∀ w, (Instr.findAsking kt k es' i).run P w = .ok r' w) ∧ (∀ q, Instr.findNow kd k es' i = some q → q = r') ∧ (∀ j v, r = some (j, v) → i ≤ j ∧ j - i < es.length) := by
  intro es
  induction es with
  | nil =>
    intro es' i r he h
    have := he.inv_nil; subst this
    simp [findA] at h; subst h
    exact ⟨none, trivial, fun w => by simp [Instr.findAsking], fun q hq => by simp [Instr.findNow] at hq; exact hq.symm, fun j v q => by cases q⟩
  | cons e es ih =>
    intro es' i r he h
    obtain ⟨e', l', rfl, hk, hpl, hbn, hv, hl⟩ := he.inv_cons
    simp only [findA] at h
    have found : ∀ (hq : ∀ w, (Op.equal kt k e'.key).run P w = .ok true w) (hn : Instr.sameNow kd k e'.key = some true ∨ Instr.sameNow kd k e'.key = none) (hr : some (some (i, e.val)) = some r),
        ∃ r', eRes μ r r' ∧ (∀ w, (Instr.findAsking kt k (e' :: l') i).run P w = .ok r' w) ∧ (∀ q, Instr.findNow kd k (e' :: l') i = some q → q = r') ∧ (∀ j v, r = some (j, v) → i ≤ j ∧ j - i < (e :: es).length) := by
      intro hq hn hr
      injection hr with hr; subst hr
      refine ⟨some (i, e'.val), ⟨rfl, hv⟩, fun w => by simp [Instr.findAsking, hq], fun q hq' => ?_, fun j v q => by injection q with q; injection q with q _; subst q; simp⟩
      simp only [Instr.findNow] at hq'
      rcases hn with hn | hn
      · rw [hn] at hq'; simp at hq'; exact hq'.symm
      · rw [hn] at hq'; simp at hq'
    have onward : ∀ (hq : ∀ w, (Op.equal kt k e'.key).run P w = .ok false w) (hn : Instr.sameNow kd k e'.key = some false ∨ Instr.sameNow kd k e'.key = none) (hr : findA P kt kd k es (Nat.succ i) = some r),
        ∃ r', eRes μ r r' ∧ (∀ w, (Instr.findAsking kt k (e' :: l') i).run P w = .ok r' w) ∧ (∀ q, Instr.findNow kd k (e' :: l') i = some q → q = r') ∧ (∀ j v, r = some (j, v) → i ≤ j ∧ j - i < (e :: es).length) := by
      intro hq hn hr
      obtain ⟨r', a, b, c, d⟩ := ih hl hr
      refine ⟨r', a, fun w => by simp [Instr.findAsking, hq, b], fun q hq' => ?_, fun j v q => by have := d j v q; simp; omega⟩
      simp only [Instr.findNow] at hq'
      rcases hn with hn | hn
      · rw [hn] at hq'; exact c q hq'
      · rw [hn] at hq'; simp at hq'
    rw [← hk] at h
    cases hs : Instr.sameNow kd k e'.key with
    | some b =>
      rw [hs] at h
      cases b with
      | true => exact found (sameNow_equal hu hs) (.inl hs) h
      | false => exact onward (sameNow_equal hu hs) (.inl hs) h
    | none =>
      rw [hs] at h
      simp only at h
      cases hp : evPure P (Op.equal kt k e'.key) with
      | none => rw [hp] at h; simp at h
      | some b =>
        rw [hp] at h
        cases b with
        | true => exact found (evPure_run hp) (.inr hs) h
        | false => exact onward (evPure_run hp) (.inr hs) h

theorem findKey_sound {kt : TypeId} {kd : TypeDesc} {k : Value} (hu : P.underlying kt = some kd) {es es' : List MapEntry} {r : Option (Nat × Value)} (he : ERel μ es es') (h : findA P kt kd k es 0 = some r) :
    ∃ r', eRes μ r r' ∧ (∀ w, (Instr.findKey kt k es').run P w = .ok r' w) ∧ (∀ j v, r = some (j, v) → j < es.length) := by
  obtain ⟨r', a, b, c, d⟩ := findA_sound hu he h
  refine ⟨r', a, fun w => ?_, fun j v q => by have := d j v q; omega⟩
  unfold Instr.findKey
  cases hn : Instr.findNow kd k es' 0 with
  | none => simp [und_run hu, hn, b]
  | some q => have := c q hn; subst this; simp [und_run hu, hn]

theorem keyOk_spec {kt : TypeId} {k : Value} {b : Bool} (h : keyOk P kt k b = true) : plain k = true ∧ ∀ w, (Instr.checkKey b 10000 kt k).run P w = .ok () w := by
  unfold keyOk at h
  simp only [Bool.and_eq_true] at h
  refine ⟨h.1, fun w => ?_⟩
  cases hp : evPure P (Instr.checkKey b 10000 kt k) with
  | none => rw [hp] at h; simp at h
  | some u => exact evPure_run hp w

theorem evLookup_sound (h : HRel P B w0 μ H w) {t : TypeId} {x x' k k' v : Value} {ok : Bool} (hx : VRel μ x x') (hk : VRel μ k k') (he : evLookup P H t x k ok = some v) :
    ∃ v', (Instr.lookup t x' k' ok).run P w = .ok v' w ∧ VRel μ v v' := by
  unfold evLookup at he
  cases hu : P.underlying t with
  | none => rw [hu] at he; simp at he
  | some d =>
    rw [hu] at he
    cases d with
    | map key elem =>
      simp only at he
      -- the entries
      have hes : ∃ es es' : List MapEntry, mapEntries H x = some es ∧ ERel μ es es' ∧
          ((x' = .map none ∧ es' = []) ∨ ∃ r a clock, x' = .map (some r) ∧ w.heap[r]? = some (.map a clock) ∧ a.toList = es') := by
        cases x with
        | map r =>
          cases r with
          | none => exact ⟨[], [], rfl, ⟨rfl, fun i e e' q => by simp at q⟩, .inl ⟨hx.mnil, rfl⟩⟩
          | some r =>
            obtain ⟨L, hL, rfl⟩ := hx.map_inv
            simp only [mapEntries] at he
            cases hm : H.mem.get r with
            | none => rw [hm] at he; simp at he
            | some b =>
              rw [hm] at he
              cases b with
              | map es clock =>
                obtain ⟨es', g1, g2⟩ := h.map hL hm
                exact ⟨es, es'.toList, by simp [mapEntries, hm], g2, .inr ⟨L.r, es', clock, rfl, g1, rfl⟩⟩
              | _ => simp at he
        | _ => simp [mapEntries] at he
      obtain ⟨es, es', hes1, hes2, hes3⟩ := hes
      rw [hes1] at he
      simp only at he
      cases hko : keyOk P key k es.isEmpty with
      | false => rw [hko] at he; simp at he
      | true =>
        rw [hko] at he
        simp only [Bool.not_true, cond_false] at he
        obtain ⟨hpl, hck⟩ := keyOk_spec hko
        have := plain_eq hpl hk; subst this
        cases hkd : P.underlying key with
        | none => rw [hkd] at he; simp at he
        | some kd =>
          rw [hkd] at he
          cases hz : zeroT P elem with
          | none => rw [hz] at he; simp at he
          | some z =>
            rw [hz] at he
            simp only at he
            cases hzp : plain z with
            | false => rw [hzp] at he; simp at he
            | true =>
              rw [hzp] at he
              simp only [Bool.not_true, cond_false] at he
              cases hf : findA P key kd k' es 0 with
              | none => rw [hf] at he; simp at he
              | some r =>
                rw [hf] at he
                obtain ⟨r', a1, a2, _⟩ := findKey_sound hkd hes2 hf
                have hemp : es.isEmpty = es'.isEmpty := by
                  have := hes2.1
                  cases es <;> cases es' <;> simp_all
                have hread : ∀ (r0 : Option (Nat × Value)), (Instr.findKey key k' es').run P w = .ok r0 w → (Instr.lookup t x' k' ok).run P w = .ok (match r0 with | some (_, v) => (if ok then .tuple #[v, .bool true] else v) | none => (if ok then .tuple #[z, .bool false] else z)) w := by
                  intro r0 hr0
                  rcases hes3 with ⟨rfl, rfl⟩ | ⟨rr, a, clock, rfl, g1, rfl⟩
                  · have hck' := hck w
                    rw [hemp] at hck'
                    simp only [List.isEmpty_nil] at hck'
                    cases r0 with
                    | none => simp [Instr.lookup, und_run hu, hck', hr0, zeroT_run hz]
                    | some p => simp [Instr.lookup, und_run hu, hck', hr0]
                  · have hck' := hck w
                    rw [hemp] at hck'
                    have hai : a.toList.isEmpty = a.isEmpty := by simp
                    rw [hai] at hck'
                    have hgo : (getObj rr).run P w = .ok (.map a clock) w := by simp [getObj, Sem.run, g1]
                    cases r0 with
                    | none => simp [Instr.lookup, und_run hu, hgo, hck', hr0, zeroT_run hz]
                    | some p => simp [Instr.lookup, und_run hu, hgo, hck', hr0]
                have hfin := hread r' (a2 w)
                cases r with
                | none =>
                  cases r' with
                  | some p => exact a1.elim
                  | none =>
                    simp only [Option.some.injEq] at he
                    refine ⟨_, hfin, ?_⟩
                    subst he
                    cases ok with
                    | true => exact VRel.tuple' (LRel.cons (plain_rel hzp) (LRel.cons (.atom _ rfl) (LRel.nil _)))
                    | false => exact plain_rel hzp
                | some p =>
                  cases r' with
                  | none => obtain ⟨_, _⟩ := p; exact a1.elim
                  | some p' =>
                    obtain ⟨j, v1⟩ := p
                    obtain ⟨j', v1'⟩ := p'
                    simp only [Option.some.injEq] at he
                    refine ⟨_, hfin, ?_⟩
                    subst he
                    cases ok with
                    | true => exact VRel.tuple' (LRel.cons a1.2 (LRel.cons (.atom _ rfl) (LRel.nil _)))
                    | false => exact a1.2
    | _ => simp at he

theorem setVal_get : ∀ (es : List MapEntry) (n : Nat) (k v : Value) (i : Nat), (setVal es n k v)[i]? = if i = n then (es[i]?).map (fun e => { e with key := k, val := v }) else es[i]? := by
  intro es
  induction es with
  | nil => intro n k v i; simp [setVal]
  | cons e es ih =>
    intro n k v i
    cases n with
    | zero => cases i <;> simp [setVal]
    | succ n => cases i with
      | zero => simp [setVal]
      | succ i => simp [setVal, ih]
theorem setVal_length : ∀ (es : List MapEntry) (n : Nat) (k v : Value), (setVal es n k v).length = es.length := by
  intro es
  induction es with
  | nil => intro n k v; rfl
  | cons e es ih => intro n k v; cases n <;> simp [setVal, ih]

/-- a block that is no row is written -/
theorem HRel.writeObj (h : HRel P B w0 μ H w) {id : Nat} {L : Loc} {b b' : Blk} {o' : Obj} (hL : μ id = some L) (hg : H.glo ≤ id) (hm : H.mem.get id = some b) (hb0 : ∀ c e o f z s, b ≠ .row c e o f z s) (hd : b ≠ .dead)
    (hu : H.upd id b' = some H') (hb1 : ∀ c e o f z s, b' ≠ .row c e o f z s) (hb : BRel P μ L b' o') :
    HRel P B w0 μ H' { w with heap := w.heap.setIfInBounds L.r o' } ∧ Step μ μ H H' := by
  obtain ⟨u1, u2, u3, u4, u5⟩ := Hp.upd_eq hu
  have hlive : H.mem.get id ≠ some .dead := by rw [hm]; intro q; injection q with q; exact hd q
  refine h.write hL hg hlive u1 u3 u4 (by rw [u5]; simp) (fun x hx => .inl (by rw [u5, if_neg hx])) ?_ (fun f l hl => .inl (by rw [u2]; exact hl)) (fun f l hl => .inl (by rw [← u2]; exact hl))
    (fun c e f z s q => absurd q (hb1 _ _ _ _ _ _)) (fun q => by
      rw [hm] at q
      cases b with
      | row c e o f z s => exact absurd rfl (hb0 _ _ _ _ _ _)
      | _ => simp [isOpen] at q) hb
  intro x L' hx hL' hr
  rcases h.sep id x L L' (Ne.symm hx) hL hL' hr.symm with d | d | ⟨f', l, ⟨c1, e1, z1, s1', q⟩, _⟩
  · exact absurd d hlive
  · rw [u5, if_neg hx]; exact d
  · rw [hm] at q; injection q with q; exact absurd q (hb0 _ _ _ _ _ _)

theorem evMapUpdate_sound (h : HRel P B w0 μ H w) {t : TypeId} {m m' k k' v v' : Value} (hm : VRel μ m m') (hk : VRel μ k k') (hv : VRel μ v v') (he : evMapUpdate P H t m k v = some H') :
    ∃ w', (Instr.mapUpdate t m' k' v').run P w = .ok () w' ∧ HRel P B w0 μ H' w' ∧ Step μ μ H H' := by
  unfold evMapUpdate at he
  cases hu : P.underlying t with
  | none => rw [hu] at he; simp at he
  | some d =>
    rw [hu] at he
    cases d with
    | map key elem =>
      cases m with
      | map r =>
        cases r with
        | none => simp at he
        | some r =>
          obtain ⟨L, hL, rfl⟩ := hm.map_inv
          simp only at he
          cases hmm : H.mem.get r with
          | none => rw [hmm] at he; simp at he
          | some b =>
            rw [hmm] at he
            cases b with
            | map es clock =>
              simp only at he
              cases hc : (keyOk P key k false && !Nat.blt r H.glo) with
              | false => rw [hc] at he; simp at he
              | true =>
                rw [hc] at he
                simp only [Bool.not_true, cond_false] at he
                simp only [Bool.and_eq_true, Bool.not_eq_true'] at hc
                obtain ⟨hpl, hck⟩ := keyOk_spec hc.1
                have hglo := blt_false hc.2
                have := plain_eq hpl hk; subst this
                obtain ⟨es', g1, g2⟩ := h.map hL hmm
                have hgo : (getObj L.r).run P w = .ok (.map es' clock) w := by simp [getObj, Sem.run, g1]
                have hso : ∀ o, (setObj L.r o).run P w = .ok () { w with heap := w.heap.setIfInBounds L.r o } := fun o => by simp [setObj, Sem.run, g1]
                cases hkd : P.underlying key with
                | none => rw [hkd] at he; simp at he
                | some kd =>
                  rw [hkd] at he
                  simp only at he
                  cases hf : findA P key kd k' es 0 with
                  | none => rw [hf] at he; simp at he
                  | some res =>
                    rw [hf] at he
                    obtain ⟨r', a1, a2, a3⟩ := findKey_sound hkd g2 hf
                    cases res with
                    | some p =>
                      obtain ⟨i, v1⟩ := p
                      cases r' with
                      | none => exact a1.elim
                      | some p' =>
                        obtain ⟨i', v1'⟩ := p'
                        obtain ⟨rfl, _⟩ := a1
                        simp only [nth_eq] at he
                        have hi := a3 i v1 rfl
                        have hi' : i < es'.size := by have := g2.1; simp at this; omega
                        rw [List.getElem?_eq_getElem hi] at he
                        simp only at he
                        cases hsb : Instr.sameBits 10000 es[i].key k' with
                        | false => rw [hsb] at he; simp at he
                        | true =>
                          rw [hsb, cond_true] at he
                          have hkk := (g2.2 i es[i] es'[i] (List.getElem?_eq_getElem hi) (by simp [hi'])).1
                          have hb : BRel P μ L (.map (setVal es i k' v) clock) (.map (es'.modify i fun e => { e with key := k', val := v' }) clock) := by
                            refine ⟨rfl, by rw [setVal_length]; simpa using g2.1, fun j e e' q q' => ?_⟩
                            rw [setVal_get] at q
                            rw [Array.getElem?_toList, Array.getElem?_modify] at q'
                            by_cases hj : j = i
                            · subst hj
                              rw [if_pos rfl, List.getElem?_eq_getElem hi] at q
                              rw [if_pos rfl, Array.getElem?_eq_getElem hi'] at q'
                              simp only [Option.map_some, Option.some.injEq] at q q'
                              subst q; subst q'
                              exact ⟨rfl, hpl, (g2.2 j es[j] es'[j] (List.getElem?_eq_getElem hi) (by simp [hi'])).2.2.1, hv⟩
                            · rw [if_neg hj] at q
                              rw [if_neg (Ne.symm hj)] at q'
                              exact g2.2 j e e' q (by rw [Array.getElem?_toList]; exact q')
                          obtain ⟨b1, b2⟩ := h.writeObj hL hglo hmm (fun _ _ _ _ _ _ q => by cases q) (fun q => by cases q) he (fun _ _ _ _ _ _ q => by cases q) hb
                          refine ⟨_, ?_, b1, b2⟩
                          have hkey : (es'[i]?).map (·.key) = some es[i].key := by rw [Array.getElem?_eq_getElem hi']; simp [hkk]
                          simp [Instr.mapUpdate, und_run hu, hgo, hck, a2, Instr.keyThatStays, hi', hkk, hsb, hso]
                    | none =>
                      cases r' with
                      | some p => exact a1.elim
                      | none =>
                        simp only at he
                        have hb : BRel P μ L (.map (es ++ [{ key := k', val := v, born := clock }]) (Nat.succ clock)) (.map (es'.push { key := k', val := v', born := clock }) (clock + 1)) := by
                          refine ⟨rfl, by simpa using g2.1, fun j e e' q q' => ?_⟩
                          rw [List.getElem?_append] at q
                          simp only [Array.toList_push] at q'
                          rw [List.getElem?_append, ← g2.1] at q'
                          split at q
                          · rename_i hj; rw [if_pos hj] at q'; exact g2.2 j e e' q q'
                          · rename_i hj
                            rw [if_neg hj] at q'
                            cases hjj : j - es.length with
                            | zero => rw [hjj] at q q'; simp at q q'; subst q; subst q'; exact ⟨rfl, hpl, rfl, hv⟩
                            | succ n => rw [hjj] at q; simp at q
                        obtain ⟨b1, b2⟩ := h.writeObj hL hglo hmm (fun _ _ _ _ _ _ q => by cases q) (fun q => by cases q) he (fun _ _ _ _ _ _ q => by cases q) hb
                        refine ⟨_, ?_, b1, b2⟩
                        simp [Instr.mapUpdate, und_run hu, hgo, hck, a2, hso]
            | _ => simp at he
      | _ => simp at he
    | _ => simp at he
end
end Go.Cre

/- A part of a verified evaluator of closed calls: see YthfgeapiahhjlaaGreatDoorCreZ. -/
import Derived.Test.YthfgeapiahhjlaaGreatDoorCreK
import Derived.Orders
set_option linter.unusedVariables false
set_option linter.unusedSimpArgs false
namespace Go.Cre
open Go.RowKit

section
variable {P : Program} {B : Nat → Prop} {w0 w : World} {μ : Mp} {H H' : Hp}

theorem evPure_run {α : Type} {s : Sem α} {a : α} (h : evPure P s = some a) (w : World) : s.run P w = .ok a w := by
  induction s generalizing w with
  | pure b => simp [evPure] at h; subst h; rfl
  | program k ih => exact ih P (by simpa [evPure] using h) w
  | mark m k ih => exact ih (by simpa [evPure] using h) w
  | _ => simp [evPure] at h

/-! ### Maps -/
theorem sameNow_equalIn {kt : TypeId} {kd : TypeDesc} {a b : Value} {r : Bool} (d : Nat) (hu : P.underlying kt = some kd) (h : Instr.sameNow kd a b = some r) (w : World) : (Op.equalIn (d + 1) kt a b).run P w = .ok r w := by
  cases kd with
  | int k0 =>
    cases a <;> cases b <;> simp [Instr.sameNow] at h
    rename_i k n k' m
    obtain ⟨rfl, rfl⟩ := h
    simp [Op.equalIn, und_run hu]
  | string =>
    cases a <;> cases b <;> simp [Instr.sameNow] at h
    subst h
    simp [Op.equalIn, und_run hu]
  | bool =>
    cases a <;> cases b <;> simp [Instr.sameNow] at h
    subst h
    simp [Op.equalIn, und_run hu]
  | _ => cases a <;> cases b <;> simp [Instr.sameNow] at h

theorem sameNow_equal {kt : TypeId} {kd : TypeDesc} {a b : Value} {r : Bool} (hu : P.underlying kt = some kd) (h : Instr.sameNow kd a b = some r) (w : World) : (Op.equal kt a b).run P w = .ok r w :=
  sameNow_equalIn 9999 hu h w

/-- what a test of two keys gives -/
def Tst (P : Program) (kt : TypeId) (kd : TypeDesc) (k key : Value) (b : Bool) : Prop := (∀ w, (Op.equal kt k key).run P w = .ok b w) ∧ (Instr.sameNow kd k key = some b ∨ Instr.sameNow kd k key = none)
theorem testA_spec {kt : TypeId} {kd : TypeDesc} {k key : Value} {b : Bool} (hu : P.underlying kt = some kd) (h : testA P kt kd k key = some b) : Tst P kt kd k key b := by
  unfold testA at h
  cases hs : Instr.sameNow kd k key with
  | some c => rw [hs] at h; injection h with h; subst h; exact ⟨sameNow_equal hu hs, .inl hs⟩
  | none => rw [hs] at h; exact ⟨evPure_run h, .inr hs⟩

theorem findA_none {kt : TypeId} {kd : TypeDesc} {k : Value} (hu : P.underlying kt = some kd) : ∀ {es : List MapEntry} {i : Nat}, findA P kt kd k es i = some none → ∀ e ∈ es, Tst P kt kd k e.key false := by
  intro es
  induction es with
  | nil => intro i _ e he; cases he
  | cons a es ih =>
    intro i h e he
    simp only [findA] at h
    cases ht : testA P kt kd k a.key with
    | none => rw [ht] at h; cases h
    | some b =>
      rw [ht] at h
      cases b with
      | true =>
        have h : foundA i a.val (findA P kt kd k es (Nat.succ i)) = some none := h
        unfold foundA at h
        split at h <;> cases h
      | false =>
        rcases List.mem_cons.1 he with rfl | q
        · exact testA_spec hu ht
        · exact ih h e q
theorem findA_some {kt : TypeId} {kd : TypeDesc} {k v : Value} {j : Nat} (hu : P.underlying kt = some kd) : ∀ {es : List MapEntry} {i : Nat}, findA P kt kd k es i = some (some (j, v)) →
    ∃ pre e post, es = pre ++ e :: post ∧ j = i + pre.length ∧ v = e.val ∧ Tst P kt kd k e.key true ∧ (∀ x ∈ pre, Tst P kt kd k x.key false) ∧ ∀ x ∈ post, Tst P kt kd k x.key false := by
  intro es
  induction es with
  | nil => intro i h; simp [findA] at h
  | cons a es ih =>
    intro i h
    simp only [findA] at h
    cases ht : testA P kt kd k a.key with
    | none => rw [ht] at h; cases h
    | some b =>
      rw [ht] at h
      cases b with
      | true =>
        have h : foundA i a.val (findA P kt kd k es (Nat.succ i)) = some (some (j, v)) := h
        unfold foundA at h
        split at h
        · rename_i hn
          simp only [Option.some.injEq, Prod.mk.injEq] at h
          obtain ⟨rfl, rfl⟩ := h
          exact ⟨[], a, es, rfl, by simp, rfl, testA_spec hu ht, (fun x hx => by cases hx), findA_none hu hn⟩
        · cases h
      | false =>
        obtain ⟨pre, e, post, rfl, h2, h3, h4, h5, h6⟩ := ih h
        refine ⟨a :: pre, e, post, rfl, by simp; omega, h3, h4, fun x hx => ?_, h6⟩
        rcases List.mem_cons.1 hx with rfl | q
        · exact testA_spec hu ht
        · exact h5 x q

theorem find_none {kt : TypeId} {kd : TypeDesc} {k : Value} : ∀ {m : List MapEntry} {i : Nat}, (∀ e ∈ m, Tst P kt kd k e.key false) →
    (∀ w, (Instr.findAsking kt k m i).run P w = .ok none w) ∧ ∀ q, Instr.findNow kd k m i = some q → q = none := by
  intro m
  induction m with
  | nil => intro i _; exact ⟨fun w => by simp [Instr.findAsking], fun q hq => by simp [Instr.findNow] at hq; exact hq.symm⟩
  | cons a m ih =>
    intro i h
    obtain ⟨t1, t2⟩ := h a (by simp)
    obtain ⟨i1, i2⟩ := ih (i := i + 1) fun e he => h e (by simp [he])
    refine ⟨fun w => by simp [Instr.findAsking, t1, i1], fun q hq => ?_⟩
    simp only [Instr.findNow] at hq
    rcases t2 with hn | hn
    · rw [hn] at hq; exact i2 q hq
    · rw [hn] at hq; simp at hq
theorem find_some {kt : TypeId} {kd : TypeDesc} {k : Value} {y : MapEntry} {post : List MapEntry} (hy : Tst P kt kd k y.key true) : ∀ {pre : List MapEntry} {i : Nat}, (∀ e ∈ pre, Tst P kt kd k e.key false) →
    (∀ w, (Instr.findAsking kt k (pre ++ y :: post) i).run P w = .ok (some (i + pre.length, y.val)) w) ∧ ∀ q, Instr.findNow kd k (pre ++ y :: post) i = some q → q = some (i + pre.length, y.val) := by
  intro pre
  induction pre with
  | nil =>
    intro i _
    obtain ⟨t1, t2⟩ := hy
    refine ⟨fun w => by simp [Instr.findAsking, t1], fun q hq => ?_⟩
    simp only [List.nil_append, Instr.findNow] at hq
    rcases t2 with hn | hn
    · rw [hn] at hq; simp at hq; simp [hq]
    · rw [hn] at hq; simp at hq
  | cons a pre ih =>
    intro i h
    obtain ⟨t1, t2⟩ := h a (by simp)
    obtain ⟨i1, i2⟩ := ih (i := i + 1) fun e he => h e (by simp [he])
    have hlen : i + (a :: pre).length = i + 1 + pre.length := by simp; omega
    rw [hlen]
    refine ⟨fun w => by simp [Instr.findAsking, t1, i1], fun q hq => ?_⟩
    simp only [List.cons_append, Instr.findNow] at hq
    rcases t2 with hn | hn
    · rw [hn] at hq; exact i2 q hq
    · rw [hn] at hq; simp at hq
theorem findKey_run {kt : TypeId} {kd : TypeDesc} {k : Value} {m : List MapEntry} {r : Option (Nat × Value)} (hu : P.underlying kt = some kd) (h1 : ∀ w, (Instr.findAsking kt k m 0).run P w = .ok r w) (h2 : ∀ q, Instr.findNow kd k m 0 = some q → q = r) (w : World) :
    (Instr.findKey kt k m).run P w = .ok r w := by
  unfold Instr.findKey
  cases hn : Instr.findNow kd k m 0 with
  | none => simp [und_run hu, hn, h1]
  | some q => have := h2 q hn; subst this; simp [und_run hu, hn]

theorem findKey_none {kt : TypeId} {kd : TypeDesc} {k : Value} (hu : P.underlying kt = some kd) {es es' : List MapEntry} (he : ERel μ es es') (h : findA P kt kd k es 0 = some none) (w : World) : (Instr.findKey kt k es').run P w = .ok none w := by
  obtain ⟨l, h1, h2⟩ := he
  have ht := findA_none hu h
  obtain ⟨a, b⟩ := find_none (P := P) (kt := kt) (kd := kd) (k := k) (m := es') (i := 0) fun e hee => by
    obtain ⟨x, x1, x2⟩ := h2.mem (h1.mem_iff.2 hee)
    rw [x2]; exact ht x x1
  exact findKey_run hu a b w
theorem findKey_some {kt : TypeId} {kd : TypeDesc} {k v : Value} {i : Nat} (hu : P.underlying kt = some kd) {es es' : List MapEntry} (he : ERel μ es es') (h : findA P kt kd k es 0 = some (some (i, v))) :
    ∃ l1 y l2 pre post e0 pre0 post0, es' = pre ++ y :: post ∧ (l1 ++ l2).Perm (pre ++ post) ∧ es = pre0 ++ e0 :: post0 ∧ i = pre0.length ∧ ERel0 μ pre0 l1 ∧ ERel0 μ post0 l2 ∧ y.key = e0.key ∧ VRel μ v y.val ∧
      ∀ w, (Instr.findKey kt k es').run P w = .ok (some (pre.length, y.val)) w := by
  obtain ⟨l, h1, h2⟩ := he
  obtain ⟨pre0, e0, post0, rfl, hi, rfl, t1, t2, t3⟩ := findA_some hu h
  obtain ⟨l1, y, l2, rfl, q1, q2, q3, q4, q5⟩ := h2.split
  have hy : y ∈ es' := h1.mem_iff.1 (by simp)
  obtain ⟨pre, post, rfl⟩ := List.append_of_mem hy
  have hp : (l1 ++ l2).Perm (pre ++ post) := (List.perm_middle.symm.trans (h1.trans List.perm_middle)).cons_inv
  obtain ⟨a, b⟩ := find_some (P := P) (kt := kt) (kd := kd) (k := k) (y := y) (post := post) (by rw [q2]; exact t1) (pre := pre) (i := 0) fun e hee => by
    have : e ∈ l1 ++ l2 := hp.mem_iff.2 (by simp [hee])
    rcases List.mem_append.1 this with r | r
    · obtain ⟨x, x1, x2⟩ := q1.mem r; rw [x2]; exact t2 x x1
    · obtain ⟨x, x1, x2⟩ := q5.mem r; rw [x2]; exact t3 x x1
  refine ⟨l1, y, l2, pre, post, e0, pre0, post0, rfl, hp, rfl, by simpa using hi, q1, q5, q2, q4, fun w => ?_⟩
  have := findKey_run hu a b w
  simpa using this

theorem keyOk_spec {kt : TypeId} {k : Value} {b : Bool} (h : keyOk P kt k b = true) : plain k = true ∧ ∀ w, (Instr.checkKey b 10000 kt k).run P w = .ok () w := by
  unfold keyOk at h
  simp only [Bool.and_eq_true] at h
  refine ⟨h.1, fun w => ?_⟩
  cases hp : evPure P (Instr.checkKey b 10000 kt k) with
  | none => rw [hp] at h; simp at h
  | some u => exact evPure_run hp w

theorem evLookup_sound (h : HRel P B w0 μ H w) {t : TypeId} {x x' k k' v : Value} {ok : Bool} (hx : VRel μ x x') (hk : VRel μ k k') (he : evLookup P H t x k ok = some v) :
    ∃ v', (Instr.lookup t x' k' ok).run P w = .ok v' w ∧ VRel μ v v' := by
  unfold evLookup at he
  cases hu : P.underlying t with
  | none => rw [hu] at he; simp at he
  | some d =>
    rw [hu] at he
    cases d with
    | map key elem =>
      simp only at he
      -- the entries
      have hes : ∃ es es' : List MapEntry, mapEntries H x = some es ∧ ERel μ es es' ∧
          ((x' = .map none ∧ es' = []) ∨ ∃ r a clock, x' = .map (some r) ∧ w.heap[r]? = some (.map a clock) ∧ a.toList = es') := by
        cases x with
        | map r =>
          cases r with
          | none => exact ⟨[], [], rfl, ERel.nil _, .inl ⟨hx.mnil, rfl⟩⟩
          | some r =>
            obtain ⟨L, hL, rfl⟩ := hx.map_inv
            simp only [mapEntries] at he
            cases hm : H.mem.get r with
            | none => rw [hm] at he; simp at he
            | some b =>
              rw [hm] at he
              cases b with
              | map es clock =>
                obtain ⟨es', clock', g1, g2⟩ := h.map hL hm
                exact ⟨es, es'.toList, by simp [mapEntries, hm], g2, .inr ⟨L.r, es', clock', rfl, g1, rfl⟩⟩
              | _ => simp at he
        | _ => simp [mapEntries] at he
      obtain ⟨es, es', hes1, hes2, hes3⟩ := hes
      rw [hes1] at he
      simp only at he
      cases hko : keyOk P key k es.isEmpty with
      | false => rw [hko] at he; simp at he
      | true =>
        rw [hko] at he
        simp only [Bool.not_true, cond_false] at he
        obtain ⟨hpl, hck⟩ := keyOk_spec hko
        have := plain_eq hpl hk; subst this
        cases hkd : P.underlying key with
        | none => rw [hkd] at he; simp at he
        | some kd =>
          rw [hkd] at he
          cases hz : zeroT P elem with
          | none => rw [hz] at he; simp at he
          | some z =>
            rw [hz] at he
            simp only at he
            cases hzp : plain z with
            | false => rw [hzp] at he; simp at he
            | true =>
              rw [hzp] at he
              simp only [Bool.not_true, cond_false] at he
              cases hf : findA P key kd k' es 0 with
              | none => rw [hf] at he; simp at he
              | some r =>
                rw [hf] at he
                have hemp : es.isEmpty = es'.isEmpty := by
                  have := hes2.length
                  cases es <;> cases es' <;> simp_all
                have hread : ∀ (r0 : Option (Nat × Value)), (Instr.findKey key k' es').run P w = .ok r0 w → (Instr.lookup t x' k' ok).run P w = .ok (match r0 with | some (_, v) => (if ok then .tuple #[v, .bool true] else v) | none => (if ok then .tuple #[z, .bool false] else z)) w := by
                  intro r0 hr0
                  rcases hes3 with ⟨rfl, rfl⟩ | ⟨rr, a, clock, rfl, g1, rfl⟩
                  · have hck' := hck w
                    rw [hemp] at hck'
                    simp only [List.isEmpty_nil] at hck'
                    cases r0 with
                    | none => simp [Instr.lookup, und_run hu, hck', hr0, zeroT_run hz]
                    | some p => simp [Instr.lookup, und_run hu, hck', hr0]
                  · have hck' := hck w
                    rw [hemp] at hck'
                    have hai : a.toList.isEmpty = a.isEmpty := by simp
                    rw [hai] at hck'
                    have hgo : (getObj rr).run P w = .ok (.map a clock) w := by simp [getObj, Sem.run, g1]
                    cases r0 with
                    | none => simp [Instr.lookup, und_run hu, hgo, hck', hr0, zeroT_run hz]
                    | some p => simp [Instr.lookup, und_run hu, hgo, hck', hr0]
                cases r with
                | none =>
                  have hfin := hread none (findKey_none hkd hes2 hf w)
                  simp only [Option.some.injEq] at he
                  refine ⟨_, hfin, ?_⟩
                  subst he
                  cases ok with
                  | true => exact VRel.tuple' (LRel.cons (plain_rel hzp) (LRel.cons (.atom _ rfl) (LRel.nil _)))
                  | false => exact plain_rel hzp
                | some p =>
                  obtain ⟨j, v1⟩ := p
                  obtain ⟨l1, y, l2, pre, post, e0, pre0, post0, _, _, _, _, _, _, _, hv, hk⟩ := findKey_some hkd hes2 hf
                  have hfin := hread _ (hk w)
                  simp only [Option.some.injEq] at he
                  refine ⟨_, hfin, ?_⟩
                  subst he
                  cases ok with
                  | true => exact VRel.tuple' (LRel.cons hv (LRel.cons (.atom _ rfl) (LRel.nil _)))
                  | false => exact hv
    | _ => simp at he

theorem setVal_mid (k v : Value) (e : MapEntry) (post : List MapEntry) : ∀ (pre : List MapEntry), setVal (pre ++ e :: post) pre.length k v = pre ++ { e with key := k, val := v } :: post := by
  intro pre
  induction pre with
  | nil => rfl
  | cons a pre ih => simp [setVal, ih]
theorem modify_mid {y : MapEntry} {pre post : List MapEntry} {a : Array MapEntry} (f : MapEntry → MapEntry) (h : a.toList = pre ++ y :: post) : (a.modify pre.length f).toList = pre ++ f y :: post := by
  apply List.ext_getElem?
  intro j
  rw [Array.getElem?_toList, Array.getElem?_modify, ← Array.getElem?_toList, h]
  by_cases hj : pre.length = j
  · subst hj; simp
  · rw [if_neg hj]
    rw [List.getElem?_append, List.getElem?_append]
    split
    · rfl
    · cases hd : j - pre.length with
      | zero => omega
      | succ n => simp

/-- a block that is no row is written -/
theorem HRel.writeObj (h : HRel P B w0 μ H w) {id : Nat} {L : Loc} {b b' : Blk} {o' : Obj} (hL : μ id = some L) (hg : H.glo ≤ id) (hm : H.mem.get id = some b) (hb0 : ∀ c e o f z s, b ≠ .row c e o f z s) (hd : b ≠ .dead)
    (hu : H.upd id b' = some H') (hb1 : ∀ c e o f z s, b' ≠ .row c e o f z s) (hb : BRel P μ L b' o') :
    HRel P B w0 μ H' { w with heap := w.heap.setIfInBounds L.r o' } ∧ Step μ μ H H' := by
  obtain ⟨u1, u2, u3, u4, u5⟩ := Hp.upd_eq hu
  have hlive : H.mem.get id ≠ some .dead := by rw [hm]; intro q; injection q with q; exact hd q
  refine h.write hL hg hlive u1 u3 u4 (by rw [u5]; simp) (fun x hx => .inl (by rw [u5, if_neg hx])) ?_ (fun f l hl => .inl (by rw [u2]; exact hl)) (fun f l hl => .inl (by rw [← u2]; exact hl))
    (fun c e f z s q => absurd q (hb1 _ _ _ _ _ _)) (fun q => by
      rw [hm] at q
      cases b with
      | row c e o f z s => exact absurd rfl (hb0 _ _ _ _ _ _)
      | _ => simp [isOpen] at q) hb
  intro x L' hx hL' hr
  rcases h.sep id x L L' (Ne.symm hx) hL hL' hr.symm with d | d | ⟨f', l, ⟨c1, e1, z1, s1', q⟩, _⟩
  · exact absurd d hlive
  · rw [u5, if_neg hx]; exact d
  · rw [hm] at q; injection q with q; exact absurd q (hb0 _ _ _ _ _ _)

theorem evMapUpdate_sound (h : HRel P B w0 μ H w) {t : TypeId} {m m' k k' v v' : Value} (hm : VRel μ m m') (hk : VRel μ k k') (hv : VRel μ v v') (he : evMapUpdate P H t m k v = some H') :
    ∃ w', (Instr.mapUpdate t m' k' v').run P w = .ok () w' ∧ HRel P B w0 μ H' w' ∧ Step μ μ H H' := by
  unfold evMapUpdate at he
  cases hu : P.underlying t with
  | none => rw [hu] at he; simp at he
  | some d =>
    rw [hu] at he
    cases d with
    | map key elem =>
      cases m with
      | map r =>
        cases r with
        | none => simp at he
        | some r =>
          obtain ⟨L, hL, rfl⟩ := hm.map_inv
          simp only at he
          cases hmm : H.mem.get r with
          | none => rw [hmm] at he; simp at he
          | some b =>
            rw [hmm] at he
            cases b with
            | map es clock =>
              simp only at he
              cases hc : (keyOk P key k false && !Nat.blt r H.glo) with
              | false => rw [hc] at he; simp at he
              | true =>
                rw [hc] at he
                simp only [Bool.not_true, cond_false] at he
                simp only [Bool.and_eq_true, Bool.not_eq_true'] at hc
                obtain ⟨hpl, hck⟩ := keyOk_spec hc.1
                have hglo := blt_false hc.2
                have := plain_eq hpl hk; subst this
                obtain ⟨es', clock', g1, g2⟩ := h.map hL hmm
                have hgo : (getObj L.r).run P w = .ok (.map es' clock') w := by simp [getObj, Sem.run, g1]
                have hso : ∀ o, (setObj L.r o).run P w = .ok () { w with heap := w.heap.setIfInBounds L.r o } := fun o => by simp [setObj, Sem.run, g1]
                cases hkd : P.underlying key with
                | none => rw [hkd] at he; simp at he
                | some kd =>
                  rw [hkd] at he
                  simp only at he
                  cases hf : findA P key kd k' es 0 with
                  | none => rw [hf] at he; simp at he
                  | some res =>
                    rw [hf] at he
                    cases res with
                    | some p =>
                      obtain ⟨i, v1⟩ := p
                      obtain ⟨l1, y, l2, pre, post, e0, pre0, post0, c1, c2, rfl, rfl, c5, c6, c7, c8, c9⟩ := findKey_some hkd g2 hf
                      simp only [nth_eq] at he
                      have hge : (pre0 ++ e0 :: post0)[pre0.length]? = some e0 := by simp
                      rw [hge] at he
                      simp only at he
                      cases hsb : Instr.sameBits 10000 e0.key k' with
                      | false => rw [hsb] at he; simp at he
                      | true =>
                        rw [hsb, cond_true, setVal_mid] at he
                        have hb : BRel P μ L (.map (pre0 ++ { e0 with key := k', val := v } :: post0) clock) (.map (es'.modify pre.length fun e => { e with key := k', val := v' }) clock') := by
                          show ERel μ _ _
                          rw [modify_mid _ c1]
                          exact ⟨l1 ++ { y with key := k', val := v' } :: l2, List.perm_middle.trans ((c2.cons _).trans List.perm_middle.symm), c5.append (.cons _ _ _ _ rfl hpl hv c6)⟩
                        obtain ⟨b1, b2⟩ := h.writeObj hL hglo hmm (fun _ _ _ _ _ _ q => by cases q) (fun q => by cases q) he (fun _ _ _ _ _ _ q => by cases q) hb
                        refine ⟨_, ?_, b1, b2⟩
                        have hlt : pre.length < es'.size := by have := congrArg List.length c1; simp at this; omega
                        have hget : es'[pre.length]? = some y := by rw [← Array.getElem?_toList, c1]; simp
                        simp [Instr.mapUpdate, und_run hu, hgo, hck, c9, Instr.keyThatStays, hget, c7, hsb, hso]
                    | none =>
                      simp only at he
                      obtain ⟨l, p1, p2⟩ := g2
                      have hb : BRel P μ L (.map (es ++ [{ key := k', val := v, born := clock }]) (Nat.succ clock)) (.map (es'.push { key := k', val := v', born := clock' }) (clock' + 1)) := by
                        show ERel μ _ _
                        rw [Array.toList_push]
                        exact ⟨l ++ [{ key := k', val := v', born := clock' }], p1.append_right _, p2.append (.cons _ _ _ _ rfl hpl hv .nil)⟩
                      obtain ⟨b1, b2⟩ := h.writeObj hL hglo hmm (fun _ _ _ _ _ _ q => by cases q) (fun q => by cases q) he (fun _ _ _ _ _ _ q => by cases q) hb
                      refine ⟨_, ?_, b1, b2⟩
                      simp [Instr.mapUpdate, und_run hu, hgo, hck, findKey_none hkd ⟨l, p1, p2⟩ hf, hso]
            | _ => simp at he
      | _ => simp at he
    | _ => simp at he
end
end Go.Cre

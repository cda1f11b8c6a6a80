/- A part of the proof of ResumeSaves. -/
import Derived.Test.YtmeojgcibppcmaaDoorCreK
import Derived.Orders
import Derived.Laws.BytesString
import Derived.Laws.BytesArg
import Derived.Lib.UnsafeStr
set_option linter.unusedVariables false
set_option linter.unusedSimpArgs false
namespace Go.Cre
open Go.RowKit
section
variable {P : Program} {B : Nat → Prop} {w0 w : World} {μ : Mp} {H H' : Hp}
theorem evPure_run {α : Type} {s : Sem α} {a : α} (h : evPure P s = some a) (w : World) : s.run P w = .ok a w := by
 induction s generalizing w with
 | pure b => simp [evPure] at h; subst h; rfl
 | program k ih => exact ih P (by simpa [evPure] using h) w
 | mark m k ih => exact ih (by simpa [evPure] using h) w
 | _ => simp [evPure] at h
theorem sameNow_equalIn {kt : TypeId} {kd : TypeDesc} {a b : Value} {r : Bool} (d : Nat) (hu : P.underlying kt = some kd) (h : Instr.sameNow kd a b = some r) (w : World) : (Op.equalIn (d + 1) kt a b).run P w = .ok r w := by
 cases kd with
 | int k0 =>
  cases a <;> cases b <;> simp [Instr.sameNow] at h
  rename_i k n k' m; obtain ⟨rfl, rfl⟩ := h; simp [Op.equalIn, und_run hu]
 | string =>
  cases a <;> cases b <;> simp [Instr.sameNow] at h
  subst h; simp [Op.equalIn, und_run hu]
 | bool =>
  cases a <;> cases b <;> simp [Instr.sameNow] at h
  subst h; simp [Op.equalIn, und_run hu]
 | _ => cases a <;> cases b <;> simp [Instr.sameNow] at h
theorem sameNow_equal {kt : TypeId} {kd : TypeDesc} {a b : Value} {r : Bool} (hu : P.underlying kt = some kd) (h : Instr.sameNow kd a b = some r) (w : World) : (Op.equal kt a b).run P w = .ok r w :=
 sameNow_equalIn 9999 hu h w
def Tst (P : Program) (kt : TypeId) (kd : TypeDesc) (k key : Value) (b : Bool) : Prop := (∀ w, (Op.equal kt k key).run P w = .ok b w) ∧ (Instr.sameNow kd k key = some b ∨ Instr.sameNow kd k key = none)
theorem testA_spec {kt : TypeId} {kd : TypeDesc} {k key : Value} {b : Bool} (hu : P.underlying kt = some kd) (h : testA P kt kd k key = some b) : Tst P kt kd k key b := by
 unfold testA at h; cases hs : Instr.sameNow kd k key with
 | some c => rw [hs] at h; injection h with h; subst h; exact ⟨sameNow_equal hu hs, .inl hs⟩
 | none => rw [hs] at h; exact ⟨evPure_run h, .inr hs⟩
theorem findA_none {kt : TypeId} {kd : TypeDesc} {k : Value} (hu : P.underlying kt = some kd) : ∀ {es : List MapEntry} {i : Nat}, findA P kt kd k es i = some none → ∀ e ∈ es, Tst P kt kd k e.key false := by
 intro es; induction es with
 | nil => intro i _ e he; cases he
 | cons a es ih =>
  intro i h e he; simp only [findA] at h; cases ht : testA P kt kd k a.key with
  | none => rw [ht] at h; cases h
  | some b =>
   rw [ht] at h; cases b with
   | true =>
    have h : foundA i a.val (findA P kt kd k es (Nat.succ i)) = some none := h; unfold foundA at h; split at h <;> cases h
   | false =>
    rcases List.mem_cons.1 he with rfl | q
    ·
     exact testA_spec hu ht
    ·
     exact ih h e q
theorem findA_some {kt : TypeId} {kd : TypeDesc} {k v : Value} {j : Nat} (hu : P.underlying kt = some kd) : ∀ {es : List MapEntry} {i : Nat}, findA P kt kd k es i = some (some (j, v)) →
  ∃ pre e post, es = pre ++ e :: post ∧ j = i + pre.length ∧ v = e.val ∧ Tst P kt kd k e.key true ∧ (∀ x ∈ pre, Tst P kt kd k x.key false) ∧ ∀ x ∈ post, Tst P kt kd k x.key false := by
 intro es; induction es with
 | nil => intro i h; simp [findA] at h
 | cons a es ih =>
  intro i h; simp only [findA] at h; cases ht : testA P kt kd k a.key with
  | none => rw [ht] at h; cases h
  | some b =>
   rw [ht] at h; cases b with
   | true =>
    have h : foundA i a.val (findA P kt kd k es (Nat.succ i)) = some (some (j, v)) := h; unfold foundA at h; split at h
    ·
     rename_i hn; simp only [Option.some.injEq, Prod.mk.injEq] at h; obtain ⟨rfl, rfl⟩ := h; exact ⟨[], a, es, rfl, by simp, rfl, testA_spec hu ht, (fun x hx => by cases hx), findA_none hu hn⟩
    ·
     cases h
   | false =>
    obtain ⟨pre, e, post, rfl, h2, h3, h4, h5, h6⟩ := ih h; refine ⟨a :: pre, e, post, rfl, by simp; omega, h3, h4, fun x hx => ?_, h6⟩; rcases List.mem_cons.1 hx with rfl | q
    ·
     exact testA_spec hu ht
    ·
     exact h5 x q
theorem find_none {kt : TypeId} {kd : TypeDesc} {k : Value} : ∀ {m : List MapEntry} {i : Nat}, (∀ e ∈ m, Tst P kt kd k e.key false) →
  (∀ w, (Instr.findAsking kt k m i).run P w = .ok none w) ∧ ∀ q, Instr.findNow kd k m i = some q → q = none := by
 intro m; induction m with
 | nil => intro i _; exact ⟨fun w => by simp [Instr.findAsking], fun q hq => by simp [Instr.findNow] at hq; exact hq.symm⟩
 | cons a m ih =>
  intro i h; obtain ⟨t1, t2⟩ := h a (by simp); obtain ⟨i1, i2⟩ := ih (i := i + 1) fun e he => h e (by simp [he]); refine ⟨fun w => by simp [Instr.findAsking, t1, i1], fun q hq => ?_⟩; simp only [Instr.findNow] at hq; rcases t2 with hn | hn
  ·
   rw [hn] at hq; exact i2 q hq
  ·
   rw [hn] at hq; simp at hq
theorem find_some {kt : TypeId} {kd : TypeDesc} {k : Value} {y : MapEntry} {post : List MapEntry} (hy : Tst P kt kd k y.key true) : ∀ {pre : List MapEntry} {i : Nat}, (∀ e ∈ pre, Tst P kt kd k e.key false) →
  (∀ w, (Instr.findAsking kt k (pre ++ y :: post) i).run P w = .ok (some (i + pre.length, y.val)) w) ∧ ∀ q, Instr.findNow kd k (pre ++ y :: post) i = some q → q = some (i + pre.length, y.val) := by
 intro pre; induction pre with
 | nil =>
  intro i _; obtain ⟨t1, t2⟩ := hy; refine ⟨fun w => by simp [Instr.findAsking, t1], fun q hq => ?_⟩; simp only [List.nil_append, Instr.findNow] at hq; rcases t2 with hn | hn
  ·
   rw [hn] at hq; simp at hq; simp [hq]
  ·
   rw [hn] at hq; simp at hq
 | cons a pre ih =>
  intro i h; obtain ⟨t1, t2⟩ := h a (by simp); obtain ⟨i1, i2⟩ := ih (i := i + 1) fun e he => h e (by simp [he]); have hlen : i + (a :: pre).length = i + 1 + pre.length := by simp; omega
  rw [hlen]; refine ⟨fun w => by simp [Instr.findAsking, t1, i1], fun q hq => ?_⟩; simp only [List.cons_append, Instr.findNow] at hq; rcases t2 with hn | hn
  ·
   rw [hn] at hq; exact i2 q hq
  ·
   rw [hn] at hq; simp at hq
theorem findKey_run {kt : TypeId} {kd : TypeDesc} {k : Value} {m : List MapEntry} {r : Option (Nat × Value)} (hu : P.underlying kt = some kd) (h1 : ∀ w, (Instr.findAsking kt k m 0).run P w = .ok r w) (h2 : ∀ q, Instr.findNow kd k m 0 = some q → q = r) (w : World) :
  (Instr.findKey kt k m).run P w = .ok r w := by
 unfold Instr.findKey; cases hn : Instr.findNow kd k m 0 with
 | none => simp [und_run hu, hn, h1]
 | some q => have := h2 q hn; subst this; simp [und_run hu, hn]
theorem findKey_none {kt : TypeId} {kd : TypeDesc} {k : Value} (hu : P.underlying kt = some kd) {es es' : List MapEntry} (he : ERel μ es es') (h : findA P kt kd k es 0 = some none) (w : World) : (Instr.findKey kt k es').run P w = .ok none w := by
 obtain ⟨l, h1, h2⟩ := he; have ht := findA_none hu h; obtain ⟨a, b⟩ := find_none (P := P) (kt := kt) (kd := kd) (k := k) (m := es') (i := 0) fun e hee => by
  obtain ⟨x, x1, x2⟩ := h2.mem (h1.mem_iff.2 hee); rw [x2]; exact ht x x1
 exact findKey_run hu a b w
theorem findKey_some {kt : TypeId} {kd : TypeDesc} {k v : Value} {i : Nat} (hu : P.underlying kt = some kd) {es es' : List MapEntry} (he : ERel μ es es') (h : findA P kt kd k es 0 = some (some (i, v))) :
  ∃ l1 y l2 pre post e0 pre0 post0, es' = pre ++ y :: post ∧ (l1 ++ l2).Perm (pre ++ post) ∧ es = pre0 ++ e0 :: post0 ∧ i = pre0.length ∧ ERel0 μ pre0 l1 ∧ ERel0 μ post0 l2 ∧ y.key = e0.key ∧ VRel μ v y.val ∧
   ∀ w, (Instr.findKey kt k es').run P w = .ok (some (pre.length, y.val)) w := by
 obtain ⟨l, h1, h2⟩ := he; obtain ⟨pre0, e0, post0, rfl, hi, rfl, t1, t2, t3⟩ := findA_some hu h; obtain ⟨l1, y, l2, rfl, q1, q2, q3, q4, q5⟩ := h2.split; have hy : y ∈ es' := h1.mem_iff.1 (by simp); obtain ⟨pre, post, rfl⟩ := List.append_of_mem hy; have hp : (l1 ++ l2).Perm (pre ++ post) := (List.perm_middle.symm.trans (h1.trans List.perm_middle)).cons_inv; obtain ⟨a, b⟩ := find_some (P := P) (kt := kt) (kd := kd) (k := k) (y := y) (post := post) (by rw [q2]; exact t1) (pre := pre) (i := 0) fun e hee => by
  have : e ∈ l1 ++ l2 := hp.mem_iff.2 (by simp [hee]); rcases List.mem_append.1 this with r | r
  ·
   obtain ⟨x, x1, x2⟩ := q1.mem r; rw [x2]; exact t2 x x1
  ·
   obtain ⟨x, x1, x2⟩ := q5.mem r; rw [x2]; exact t3 x x1
 refine ⟨l1, y, l2, pre, post, e0, pre0, post0, rfl, hp, rfl, by simpa using hi, q1, q5, q2, q4, fun w => ?_⟩; have := findKey_run hu a b w; simpa using this
theorem keyOk_spec {kt : TypeId} {k : Value} {b : Bool} (h : keyOk P kt k b = true) : plain k = true ∧ ∀ w, (Instr.checkKey b 10000 kt k).run P w = .ok () w := by
 unfold keyOk at h; simp only [Bool.and_eq_true] at h; refine ⟨h.1, fun w => ?_⟩; cases hp : evPure P (Instr.checkKey b 10000 kt k) with
 | none => rw [hp] at h; simp at h
 | some u => exact evPure_run hp w
theorem evLookup_sound (h : HRel P B w0 μ H w) {t : TypeId} {x x' k k' v : Value} {ok : Bool} (hx : VRel μ x x') (hk : VRel μ k k') (he : evLookup P H t x k ok = some v) :
  ∃ v', (Instr.lookup t x' k' ok).run P w = .ok v' w ∧ VRel μ v v' := by
 unfold evLookup at he; cases hu : P.underlying t with
 | none => rw [hu] at he; simp at he
 | some d =>
  rw [hu] at he; cases d with
  | map key elem =>
   simp only at he
   -- the entries
   have hes : ∃ es es' : List MapEntry, mapEntries H x = some es ∧ ERel μ es es' ∧
     ((x' = .map none ∧ es' = []) ∨ ∃ r a clock, x' = .map (some r) ∧ w.heap[r]? = some (.map a clock) ∧ a.toList = es') := by
    cases x with
    | map r =>
     cases r with
     | none => exact ⟨[], [], rfl, ERel.nil _, .inl ⟨hx.mnil, rfl⟩⟩
     | some r =>
      obtain ⟨L, hL, rfl⟩ := hx.map_inv; simp only [mapEntries] at he; cases hm : H.mem.get r with
      | none => rw [hm] at he; simp at he
      | some b =>
       rw [hm] at he; cases b with
       | map es clock =>
        obtain ⟨es', clock', g1, g2⟩ := h.map hL hm; exact ⟨es, es'.toList, by simp [mapEntries, hm], g2, .inr ⟨L.r, es', clock', rfl, g1, rfl⟩⟩
       | _ => simp at he
    | _ => simp [mapEntries] at he
   obtain ⟨es, es', hes1, hes2, hes3⟩ := hes; rw [hes1] at he; simp only at he; cases hko : keyOk P key k es.isEmpty with
   | false => rw [hko] at he; simp at he
   | true =>
    rw [hko] at he; simp only [Bool.not_true, cond_false] at he; obtain ⟨hpl, hck⟩ := keyOk_spec hko; have := plain_eq hpl hk; subst this; cases hkd : P.underlying key with
    | none => rw [hkd] at he; simp at he
    | some kd =>
     rw [hkd] at he; cases hz : zeroT P elem with
     | none => rw [hz] at he; simp at he
     | some z =>
      rw [hz] at he; simp only at he; cases hzp : plain z with
      | false => rw [hzp] at he; simp at he
      | true =>
       rw [hzp] at he; simp only [Bool.not_true, cond_false] at he; cases hf : findA P key kd k' es 0 with
       | none => rw [hf] at he; simp at he
       | some r =>
        rw [hf] at he; have hemp : es.isEmpty = es'.isEmpty := by
         have := hes2.length; cases es <;> cases es' <;> simp_all
        have hread : ∀ (r0 : Option (Nat × Value)), (Instr.findKey key k' es').run P w = .ok r0 w → (Instr.lookup t x' k' ok).run P w = .ok (match r0 with | some (_, v) => (if ok then .tuple #[v, .bool true] else v) | none => (if ok then .tuple #[z, .bool false] else z)) w := by
         intro r0 hr0; rcases hes3 with ⟨rfl, rfl⟩ | ⟨rr, a, clock, rfl, g1, rfl⟩
         ·
          have hck' := hck w; rw [hemp] at hck'; simp only [List.isEmpty_nil] at hck'; cases r0 with
          | none => simp [Instr.lookup, und_run hu, hck', hr0, zeroT_run hz]
          | some p => simp [Instr.lookup, und_run hu, hck', hr0]
         ·
          have hck' := hck w; rw [hemp] at hck'; have hai : a.toList.isEmpty = a.isEmpty := by simp
          rw [hai] at hck'; have hgo : (getObj rr).run P w = .ok (.map a clock) w := by simp [getObj, Sem.run, g1]
          cases r0 with
          | none => simp [Instr.lookup, und_run hu, hgo, hck', hr0, zeroT_run hz]
          | some p => simp [Instr.lookup, und_run hu, hgo, hck', hr0]
        cases r with
        | none =>
         have hfin := hread none (findKey_none hkd hes2 hf w); simp only [Option.some.injEq] at he; refine ⟨_, hfin, ?_⟩; subst he; cases ok with
         | true => exact VRel.tuple' (LRel.cons (plain_rel hzp) (LRel.cons (.atom _ rfl) (LRel.nil _)))
         | false => exact plain_rel hzp
        | some p =>
         obtain ⟨j, v1⟩ := p; obtain ⟨l1, y, l2, pre, post, e0, pre0, post0, _, _, _, _, _, _, _, hv, hk⟩ := findKey_some hkd hes2 hf; have hfin := hread _ (hk w); simp only [Option.some.injEq] at he; refine ⟨_, hfin, ?_⟩; subst he; cases ok with
         | true => exact VRel.tuple' (LRel.cons hv (LRel.cons (.atom _ rfl) (LRel.nil _)))
         | false => exact hv
  | _ => simp at he
theorem setVal_mid (k v : Value) (e : MapEntry) (post : List MapEntry) : ∀ (pre : List MapEntry), setVal (pre ++ e :: post) pre.length k v = pre ++ { e with key := k, val := v } :: post := by
 intro pre; induction pre with
 | nil => rfl
 | cons a pre ih => simp [setVal, ih]
theorem modify_mid {y : MapEntry} {pre post : List MapEntry} {a : Array MapEntry} (f : MapEntry → MapEntry) (h : a.toList = pre ++ y :: post) : (a.modify pre.length f).toList = pre ++ f y :: post := by
 apply List.ext_getElem?
 intro j; rw [Array.getElem?_toList, Array.getElem?_modify, ← Array.getElem?_toList, h]; by_cases hj : pre.length = j
 ·
  subst hj; simp
 ·
  rw [if_neg hj]; rw [List.getElem?_append, List.getElem?_append]; split
  ·
   rfl
  ·
   cases hd : j - pre.length with
   | zero => omega
   | succ n => simp
theorem HRel.writeObj (h : HRel P B w0 μ H w) {id : Nat} {L : Loc} {b b' : Blk} {o' : Obj} (hL : μ id = some L) (hg : H.glo ≤ id) (hm : H.mem.get id = some b) (hb0 : ∀ c e o f z s, b ≠ .row c e o f z s) (hd : b ≠ .dead)
  (hu : H.upd id b' = some H') (hb1 : ∀ c e o f z s, b' ≠ .row c e o f z s) (hb : BRel P μ L b' o') :
  HRel P B w0 μ H' { w with heap := w.heap.setIfInBounds L.r o' } ∧ Step μ μ H H' := by
 obtain ⟨u1, u2, u3, u4, u5⟩ := Hp.upd_eq hu; have hlive : H.mem.get id ≠ some .dead := by rw [hm]; intro q; injection q with q; exact hd q
 refine h.write hL hg hlive u1 u3 u4 (by rw [u5]; simp) (fun x hx => .inl (by rw [u5, if_neg hx])) ?_ (fun f l hl => .inl (by rw [u2]; exact hl)) (fun f l hl => .inl (by rw [← u2]; exact hl))
  (fun c e f z s q => absurd q (hb1 _ _ _ _ _ _)) (fun q => by
   rw [hm] at q; cases b with
   | row c e o f z s => exact absurd rfl (hb0 _ _ _ _ _ _)
   | _ => simp [isOpen] at q) hb
 intro x L' hx hL' hr; rcases h.sep id x L L' (Ne.symm hx) hL hL' hr.symm with d | d | ⟨f', l, ⟨c1, e1, z1, s1', q⟩, _⟩
 ·
  exact absurd d hlive
 ·
  rw [u5, if_neg hx]; exact d
 ·
  rw [hm] at q; injection q with q; exact absurd q (hb0 _ _ _ _ _ _)
theorem evMapUpdate_sound (h : HRel P B w0 μ H w) {t : TypeId} {m m' k k' v v' : Value} (hm : VRel μ m m') (hk : VRel μ k k') (hv : VRel μ v v') (he : evMapUpdate P H t m k v = some H') :
  ∃ w', (Instr.mapUpdate t m' k' v').run P w = .ok () w' ∧ HRel P B w0 μ H' w' ∧ Step μ μ H H' := by
 unfold evMapUpdate at he; cases hu : P.underlying t with
 | none => rw [hu] at he; simp at he
 | some d =>
  rw [hu] at he; cases d with
  | map key elem =>
   cases m with
   | map r =>
    cases r with
    | none => simp at he
    | some r =>
     obtain ⟨L, hL, rfl⟩ := hm.map_inv; simp only at he; cases hmm : H.mem.get r with
     | none => rw [hmm] at he; simp at he
     | some b =>
      rw [hmm] at he; cases b with
      | map es clock =>
       simp only at he; cases hc : (keyOk P key k false && !Nat.blt r H.glo) with
       | false => rw [hc] at he; simp at he
       | true =>
        rw [hc] at he; simp only [Bool.not_true, cond_false] at he; simp only [Bool.and_eq_true, Bool.not_eq_true'] at hc; obtain ⟨hpl, hck⟩ := keyOk_spec hc.1; have hglo := blt_false hc.2; have := plain_eq hpl hk; subst this; obtain ⟨es', clock', g1, g2⟩ := h.map hL hmm; have hgo : (getObj L.r).run P w = .ok (.map es' clock') w := by simp [getObj, Sem.run, g1]
        have hso : ∀ o, (setObj L.r o).run P w = .ok () { w with heap := w.heap.setIfInBounds L.r o } := fun o => by simp [setObj, Sem.run, g1]
        cases hkd : P.underlying key with
        | none => rw [hkd] at he; simp at he
        | some kd =>
         rw [hkd] at he; simp only at he; cases hf : findA P key kd k' es 0 with
         | none => rw [hf] at he; simp at he
         | some res =>
          rw [hf] at he; cases res with
          | some p =>
           obtain ⟨i, v1⟩ := p; obtain ⟨l1, y, l2, pre, post, e0, pre0, post0, c1, c2, rfl, rfl, c5, c6, c7, c8, c9⟩ := findKey_some hkd g2 hf; simp only [nth_eq] at he; have hge : (pre0 ++ e0 :: post0)[pre0.length]? = some e0 := by simp
           rw [hge] at he; simp only at he; cases hsb : Instr.sameBits 10000 e0.key k' with
           | false => rw [hsb] at he; simp at he
           | true =>
            rw [hsb, cond_true, setVal_mid] at he; have hb : BRel P μ L (.map (pre0 ++ { e0 with key := k', val := v } :: post0) clock) (.map (es'.modify pre.length fun e => { e with key := k', val := v' }) clock') := by
             show ERel μ _ _; rw [modify_mid _ c1]; exact ⟨l1 ++ { y with key := k', val := v' } :: l2, List.perm_middle.trans ((c2.cons _).trans List.perm_middle.symm), c5.append (.cons _ _ _ _ rfl hpl hv c6)⟩
            obtain ⟨b1, b2⟩ := h.writeObj hL hglo hmm (fun _ _ _ _ _ _ q => by cases q) (fun q => by cases q) he (fun _ _ _ _ _ _ q => by cases q) hb; refine ⟨_, ?_, b1, b2⟩; have hlt : pre.length < es'.size := by have := congrArg List.length c1; simp at this; omega
            have hget : es'[pre.length]? = some y := by rw [← Array.getElem?_toList, c1]; simp
            simp [Instr.mapUpdate, und_run hu, hgo, hck, c9, Instr.keyThatStays, hget, c7, hsb, hso]
          | none =>
           simp only at he; obtain ⟨l, p1, p2⟩ := g2; have hb : BRel P μ L (.map (es ++ [{ key := k', val := v, born := clock }]) (Nat.succ clock)) (.map (es'.push { key := k', val := v', born := clock' }) (clock' + 1)) := by
            show ERel μ _ _; rw [Array.toList_push]; exact ⟨l ++ [{ key := k', val := v', born := clock' }], p1.append_right _, p2.append (.cons _ _ _ _ rfl hpl hv .nil)⟩
           obtain ⟨b1, b2⟩ := h.writeObj hL hglo hmm (fun _ _ _ _ _ _ q => by cases q) (fun q => by cases q) he (fun _ _ _ _ _ _ q => by cases q) hb; refine ⟨_, ?_, b1, b2⟩; simp [Instr.mapUpdate, und_run hu, hgo, hck, findKey_none hkd ⟨l, p1, p2⟩ hf, hso]
      | _ => simp at he
   | _ => simp at he
  | _ => simp at he
end
end Go.Cre
namespace Go.Cre
open Go.RowKit
section
variable {P : Program} {B : Nat → Prop} {w0 w : World} {μ : Mp} {H H' : Hp}
theorem evTypeAssert_sound {x x' v : Value} {xt asserted : TypeId} {ok : Bool} (hx : VRel μ x x') (he : evTypeAssert P x asserted ok = some v) (w : World) :
  ∃ v', (Instr.typeAssert x' xt asserted ok).run P w = .ok v' w ∧ VRel μ v v' := by
 unfold evTypeAssert at he; simp only at he
 have hfail : ∀ v, (bif ok then (match zeroT P asserted with | some z => bif plain z then some (Value.tuple #[z, .bool false]) else none | none => none) else none) = some v →
   ok = true ∧ ∃ z, zeroT P asserted = some z ∧ plain z = true ∧ v = .tuple #[z, .bool false] := by
  intro v hv; cases ok with
  | false => simp at hv
  | true =>
   simp only [cond_true] at hv; cases hz : zeroT P asserted with
   | none => rw [hz] at hv; simp at hv
   | some z =>
    rw [hz] at hv; simp only at hv; cases hp : plain z with
    | false => rw [hp] at hv; simp at hv
    | true => rw [hp] at hv; simp at hv; exact ⟨rfl, z, rfl, hp, hv.symm⟩
 have hrel : ∀ z, plain z = true → VRel μ (.tuple #[z, .bool false]) (.tuple #[z, .bool false]) := fun z hz => VRel.tuple' (LRel.cons (plain_rel hz) (LRel.cons (.atom _ rfl) (LRel.nil _))); have hrel2 : ∀ y y', VRel μ y y' → VRel μ (bif ok then .tuple #[y, .bool true] else y) (if ok then .tuple #[y', .bool true] else y') := fun y y' hy => by
  cases ok with
  | true => exact VRel.tuple' (LRel.cons hy (LRel.cons (.atom _ rfl) (LRel.nil _)))
  | false => exact hy
 cases hu : P.underlying asserted with
 | none => rw [hu] at he; simp at he
 | some d =>
  rw [hu] at he; cases x with
  | nilIface =>
   rw [hx.nilIface_inv]; have hv : (bif ok then (match zeroT P asserted with | some z => bif plain z then some (Value.tuple #[z, .bool false]) else none | none => none) else none) = some v := by
    cases d <;> exact he
   obtain ⟨rfl, z, hz, hp, rfl⟩ := hfail v hv; refine ⟨_, ?_, hrel z hp⟩; cases d <;> simp [Instr.typeAssert, und_run hu, zeroT_run hz]
  | iface t y =>
   obtain ⟨y', rfl, hy⟩ := hx.iface_inv; by_cases hi : ∃ want, d = .interface want
   ·
    obtain ⟨want, rfl⟩ := hi; simp only at he; cases hinf : P.info? t with
    | none => rw [hinf] at he; simp at he
    | some i =>
     rw [hinf] at he; simp only at he; cases hmm : Instr.missingMethod want i.methods with
     | none =>
      rw [hmm] at he; simp only [Option.some.injEq] at he; subst he; refine ⟨_, ?_, hrel2 _ _ (.iface t y y' hy)⟩; simp [Instr.typeAssert, und_run hu, typeInfo, hinf, hmm]
     | some nm =>
      rw [hmm] at he; obtain ⟨rfl, z, hz, hp, rfl⟩ := hfail v he; refine ⟨_, ?_, hrel z hp⟩; simp [Instr.typeAssert, und_run hu, typeInfo, hinf, hmm, zeroT_run hz]
   ·
    have he' : (bif Nat.beq t asserted then some (bif ok then .tuple #[y, .bool true] else y) else (bif ok then (match zeroT P asserted with | some z => bif plain z then some (Value.tuple #[z, .bool false]) else none | none => none) else none)) = some v := by
     cases d <;> first | exact he | exact absurd ⟨_, rfl⟩ hi
    cases hb : Nat.beq t asserted with
    | true =>
     rw [hb, cond_true] at he'; simp only [Option.some.injEq] at he'; subst he'; have := Nat.eq_of_beq_eq_true hb; subst this; refine ⟨_, ?_, hrel2 _ _ hy⟩; cases d <;> first | exact absurd ⟨_, rfl⟩ hi | simp [Instr.typeAssert, und_run hu]
    | false =>
     rw [hb, cond_false] at he'; obtain ⟨rfl, z, hz, hp, rfl⟩ := hfail v he'; have hne : t ≠ asserted := fun e => by subst e; simp at hb
     refine ⟨_, ?_, hrel z hp⟩; cases d <;> first | exact absurd ⟨_, rfl⟩ hi | simp [Instr.typeAssert, und_run hu, hne, zeroT_run hz]
  | _ => cases d <;> simp at he
theorem evEqNil_sound {t : TypeId} {x x' y y' : Value} {r : Bool} (hx : VRel μ x x') (hy : VRel μ y y') (he : evEqNil P t x y = some r) (d : Nat) (w : World) : (Op.equalIn (d + 1) t x' y').run P w = .ok r w := by
 unfold evEqNil at he; cases hu : P.underlying t with
 | none => rw [hu] at he; simp at he
 | some td =>
  rw [hu] at he; cases td with
  | pointer elem =>
   cases x with
   | pointer a =>
    cases y with
    | pointer b =>
     cases a with
     | none =>
      rw [hx.pnil]; cases b with
      | none => rw [hy.pnil]; simp at he; subst he; simp [Op.equalIn, und_run hu]
      | some b => obtain ⟨id, off, L, rfl, hL, rfl⟩ := hy.ptr_inv; simp at he; subst he; simp [Op.equalIn, und_run hu]
     | some a =>
      obtain ⟨id, off, L, rfl, hL, rfl⟩ := hx.ptr_inv; cases b with
      | none => rw [hy.pnil]; simp at he; subst he; simp [Op.equalIn, und_run hu]
      | some b =>
       obtain ⟨id', off', L', rfl, hL', rfl⟩ := hy.ptr_inv; simp only at he; cases hs : sizeT P elem with
       | none => rw [hs] at he; simp at he
       | some n =>
        rw [hs] at he; cases n with
        | zero => simp at he
        | succ n =>
         simp only at he; cases hb : Nat.beq id id' with
         | false => rw [hb] at he; simp at he
         | true =>
          rw [hb, cond_true] at he; have := Nat.eq_of_beq_eq_true hb; subst this; rw [hL] at hL'; injection hL' with hL'; subst hL'
          simp only [Option.some.injEq] at he; subst he; have heq : (({ block := id, off := off } : Addr) == { block := id, off := off' }) = (({ block := L.r, off := off } : Addr) == { block := L.r, off := off' }) := by
           rw [Bool.eq_iff_iff]; simp
          rw [heq]; simp [Op.equalIn, und_run hu, sizeT_run hs, sameAddr]
    | _ => simp at he
   | _ => simp at he
  | slice elem =>
   cases x with
   | slice a l c =>
    cases y with
    | slice b l' c' =>
     cases a with
     | none =>
      rw [hx.slice_nil]; cases b with
      | none => rw [hy.slice_nil]; simp at he; subst he; simp [Op.equalIn, und_run hu]
      | some b => obtain ⟨_, _, rfl⟩ := hy.slice_some; simp at he; subst he; simp [Op.equalIn, und_run hu]
     | some a =>
      obtain ⟨_, _, rfl⟩ := hx.slice_some; cases b with
      | none => rw [hy.slice_nil]; simp at he; subst he; simp [Op.equalIn, und_run hu]
      | some b => simp at he
    | _ => simp at he
   | _ => simp at he
  | map k e =>
   cases x with
   | map a =>
    cases y with
    | map b =>
     cases a with
     | none =>
      rw [hx.mnil]; cases b with
      | none => rw [hy.mnil]; simp at he; subst he; simp [Op.equalIn, und_run hu]
      | some b => obtain ⟨_, _, rfl⟩ := hy.map_inv; simp at he; subst he; simp [Op.equalIn, und_run hu]
     | some a =>
      obtain ⟨_, _, rfl⟩ := hx.map_inv; cases b with
      | none => rw [hy.mnil]; simp at he; subst he; simp [Op.equalIn, und_run hu]
      | some b => simp at he
    | _ => simp at he
   | _ => simp at he
  | func ps rs v =>
   cases x with
   | nilFunc =>
    rw [hx.nilFunc_inv]; cases y with
    | func fn a b =>
     simp at he; subst he; cases hy with
     | atom _ q => simp [isAtom] at q
     | func => simp [Op.equalIn, und_run hu]
     | yield => simp [Op.equalIn, und_run hu]
    | _ => simp at he
   | func fn a b =>
    cases y with
    | nilFunc =>
     rw [hy.nilFunc_inv]; simp at he; subst he; cases hx with
     | atom _ q => simp [isAtom] at q
     | func => simp [Op.equalIn, und_run hu]
     | yield => simp [Op.equalIn, und_run hu]
    | _ => simp at he
   | _ => simp at he
  | interface ms =>
   cases x with
   | nilIface =>
    rw [hx.nilIface_inv]; cases y with
    | iface t y => obtain ⟨_, rfl, _⟩ := hy.iface_inv; simp at he; subst he; simp [Op.equalIn, und_run hu]
    | _ => simp at he
   | iface t x =>
    obtain ⟨_, rfl, _⟩ := hx.iface_inv; cases y with
    | nilIface => rw [hy.nilIface_inv]; simp at he; subst he; simp [Op.equalIn, und_run hu]
    | _ => simp at he
   | _ => simp at he
  | _ => simp at he
theorem shape_row {r : Nat} {c : Array Value} {e : TypeId} {f : Nat × Nat} (h : w.heap[r]? = some (.cells c e f)) : (shape r).run P w = .ok (some (e, c.size)) w := by
 simp [shape, Sem.run, World.shape?, h]
theorem viewAt_row {r : Nat} {c : Array Value} {e : TypeId} {f : Nat × Nat} (h : w.heap[r]? = some (.cells c e f)) : (viewAt r).run P w = .ok none w := by
 simp [viewAt, shape_row h]
theorem cellsIn_row {r : Nat} {c : Array Value} {e : TypeId} {f : Nat × Nat} (h : w.heap[r]? = some (.cells c e f)) : (cellsIn r).run P w = .ok (some c.size) w := by
 simp [cellsIn, shape_row h]
theorem evConvPtr_sound (h : HRel P B w0 μ H w) {src dst : TypeId} {x x' v : Value} (hx : VRel μ x x') (he : evConvPtr P H src dst x = some v) :
  ∃ v', (convert src dst x').run P w = .ok v' w ∧ VRel μ v v' := by
 unfold evConvPtr at he; cases hu : P.underlying src with
 | none => rw [hu] at he; simp at he
 | some ds =>
  rw [hu] at he; cases hd : P.underlying dst with
  | none => rw [hd] at he; simp at he
  | some dd =>
   rw [hd] at he; cases ds with
   | pointer t =>
    cases dd with
    | unsafePointer =>
     cases x with
     | pointer a =>
      cases a with
      | none => simp at he
      | some a =>
       obtain ⟨id, off, L, rfl, hL, rfl⟩ := hx.ptr_inv; simp only at he; cases hs : sizeT P t with
       | none => rw [hs] at he; simp at he
       | some n =>
        rw [hs] at he; cases n with
        | zero => simp at he
        | succ n =>
         cases hm : H.mem.get id with
         | none => rw [hm] at he; simp at he
         | some b =>
          rw [hm] at he; cases b with
          | row cells el opn fam fz sh =>
           simp only at he; cases hb : Nat.blt off cells.length with
           | false => rw [hb] at he; simp at he
           | true =>
            rw [hb, cond_true] at he; simp only [Option.some.injEq] at he; subst he; have hb : off < cells.length := Nat.le_of_ble_eq_true hb; obtain ⟨c, f, g1, g2, g3, g4, g5, g6, g7⟩ := h.row hL hm; have hlt : ¬ (c.size ≤ off) := by omega
            refine ⟨_, ?_, hx⟩; simp [convert, und_run hu, und_run hd, Conv.unsafePointer, Conv.seenAt, viewAt_row g1, cellsIn_row g1, hlt, sizeT_run hs]
          | _ => simp at he
     | _ => simp at he
    | _ => simp at he
   | unsafePointer =>
    cases dd with
    | pointer u =>
     cases x with
     | pointer a =>
      cases a with
      | none => simp at he
      | some a =>
       obtain ⟨id, off, L, rfl, hL, rfl⟩ := hx.ptr_inv; simp only at he; cases hs : sizeT P u with
       | none => rw [hs] at he; simp at he
       | some n =>
        rw [hs] at he; cases n with
        | zero => simp at he
        | succ n =>
         cases hm : H.mem.get id with
         | none => rw [hm] at he; simp at he
         | some b =>
          rw [hm] at he; cases b with
          | row cells el opn fam fz sh =>
           cases opn with
           | true => simp at he
           | false =>
            simp only at he; cases hb : liesAt P P.depth el (cells.length / P.cellsOf el) off u 1 with
            | false => rw [hb] at he; simp at he
            | true =>
             rw [hb, cond_true] at he; simp only [Option.some.injEq] at he; subst he; obtain ⟨c, f, g1, g2, g3, g4, g5, g6, g7⟩ := h.row hL hm; have hcl : c.size = cells.length := by rw [g2, g5 rfl]
             have hsh : w.shape? L.r = some (el, c.size) := by simp [World.shape?, g1]
             refine ⟨_, ?_, hx⟩; simp [convert, und_run hu, und_run hd, Conv.unsafePointer, Conv.seenAt, viewAt_row g1, sizeT_run hs, variablesAt, hsh, hcl, hb]
          | _ => simp at he
     | _ => simp at he
    | _ => simp at he
   | _ => cases dd <;> simp at he
end
end Go.Cre

/- A part of the proof of ProtocolBack. -/
import Derived.Test.YtaopiiohjbjgkaaGreatDoorBb
import Derived.Lib.Bytealg
set_option maxRecDepth 100000
set_option maxHeartbeats 4000000
set_option linter.unusedVariables false
set_option linter.unusedSimpArgs false
namespace Go.Opn
open Go.Cre Go.RowKit Go.Proofs
/-! ### A text's first word -/
def cutW1 : List UInt8 → List UInt8 × List UInt8 × Bool
  | [] => ([], [], false)
  | c :: r => if c = 32 then ([], r, true) else (c :: (cutW1 r).1, (cutW1 r).2)
theorem cutW1_c (c : UInt8) (r : List UInt8) : cutW1 (c :: r) = if c = 32 then ([], r, true) else (c :: (cutW1 r).1, (cutW1 r).2) := rfl
theorem cutW1_nb (s : List UInt8) : (32 : UInt8) ∉ (cutW1 s).1 := by
  induction s with
  | nil => simp [cutW1]
  | cons c r ih =>
    rw [cutW1_c]; split
    · simp
    · rename_i h; simp only [List.mem_cons, not_or]; exact ⟨fun q => h q.symm, ih⟩
theorem cutW1_y (s : List UInt8) : (cutW1 s).2.2 = true → s = (cutW1 s).1 ++ 32 :: (cutW1 s).2.1 := by
  induction s with
  | nil => intro h; cases h
  | cons c r ih =>
    rw [cutW1_c]; split
    · rename_i h; intro _; rw [h]; rfl
    · intro q; exact congrArg (c :: ·) (ih q)
theorem cutW1_n (s : List UInt8) : (cutW1 s).2.2 = false → s = (cutW1 s).1 ∧ (cutW1 s).2.1 = [] := by
  induction s with
  | nil => intro _; exact ⟨rfl, rfl⟩
  | cons c r ih =>
    rw [cutW1_c]; split
    · intro q; cases q
    · intro q; exact ⟨congrArg (c :: ·) (ih q).1, (ih q).2⟩
theorem cutW1_len (s : List UInt8) : (cutW1 s).1.length ≤ s.length := by
  cases h : (cutW1 s).2.2 with
  | true => have := congrArg List.length (cutW1_y s h); rw [List.length_append] at this; omega
  | false => rw [← (cutW1_n s h).1]; omega
theorem spl_cut (s : List UInt8) : spl s = (cutW1 s).1 :: (if (cutW1 s).2.2 = true then spl (cutW1 s).2.1 else []) := by
  cases h : (cutW1 s).2.2 with
  | true =>
    rw [if_pos rfl]
    have e := cutW1_y s h
    calc spl s = spl ((cutW1 s).1 ++ 32 :: (cutW1 s).2.1) := by rw [← e]
      _ = _ := spl_at (cutW1_nb s) _
  | false =>
    rw [if_neg (by simp)]
    have e := (cutW1_n s h).1
    rw [← e]
    exact spl_word (by rw [e]; exact cutW1_nb s)
theorem index_at : ∀ (w b : List UInt8), (32 : UInt8) ∉ w → Lib.indexByte (w ++ 32 :: b) 32 = w.length := by
  intro w
  induction w with
  | nil => intro b _; rfl
  | cons c r ih =>
    intro b h
    simp only [List.mem_cons, not_or] at h
    have q := ih b h.2
    have hc : (c == 32) = false := by simpa using fun q => h.1 q.symm
    rw [List.cons_append]
    unfold Lib.indexByte
    rw [hc, q]
    have : ((r.length : Int) == -1) = false := by simp
    simp [this]
theorem index_no : ∀ (s : List UInt8), (32 : UInt8) ∉ s → Lib.indexByte s 32 = -1 := by
  intro s
  induction s with
  | nil => intro _; rfl
  | cons c r ih =>
    intro h
    simp only [List.mem_cons, not_or] at h
    have hc : (c == 32) = false := by simpa using fun q => h.1 q.symm
    unfold Lib.indexByte
    rw [hc, ih h.2]; rfl
def Good (r : Rs) (p : Int) : Prop := 0 ≤ p ∧ (p = 0 → r.fk = 0) ∧ (p ≠ 0 → ¬ (r.fk < 1 ∨ 11 < r.fk)) ∧ (r.N.length : Int) ≤ p ∧ (r.tx.length : Int) ≤ p
theorem Good.next {r r' : Rs} {p : Int} {w : List UInt8} (h : Good r p) (ht : tkS r p w = .inl r') : Good r' (p + (w.length + 1)) := by
  obtain ⟨h0, h1, h2, h3, h4⟩ := h
  unfold tkS at ht
  split at ht
  · rename_i hp
    split at ht
    · cases ht
    · rename_i hk
      injection ht with ht; subst ht
      exact ⟨by omega, fun q => by omega, fun _ => (word_kindS hk).2, by simp only; omega, by simp only; omega⟩
  · rename_i hp
    split at ht
    · split at ht
      · injection ht with ht; subst ht
        exact ⟨by omega, fun q => by omega, fun _ => h2 hp, by simp only; omega, by simp only; omega⟩
      · cases ht
    · split at ht
      · cases ht
      · split at ht
        · cases ht
        · injection ht with ht; subst ht
          exact ⟨by omega, fun q => by omega, fun _ => h2 hp, by simp only [List.length_append, List.length_cons, List.length_nil]; omega, by simp only; omega⟩
theorem runW_good : ∀ (ws : List (List UInt8)) (r r' : Rs) (p : Int), Good r p → runW r p ws = .inl r' → ∃ p', Good r' p' ∧ p ≤ p' ∧ (ws ≠ [] → 0 < p') ∧ p' ≤ p + ((ws.map fun w => w.length + 1).sum : Nat) := by
  intro ws
  induction ws with
  | nil => intro r r' p h hr; injection hr with hr; subst hr; exact ⟨p, h, by omega, fun q => absurd rfl q, by simp⟩
  | cons w ws ih =>
    intro r r' p h hr
    have hr : (match tkS r p w with | .inl r1 => runW r1 (p + (w.length + 1)) ws | .inr f => .inr f) = Sum.inl r' := hr
    cases ht : tkS r p w with
    | inr f => rw [ht] at hr; cases hr
    | inl r1 =>
      rw [ht] at hr
      obtain ⟨p', a, b, c, d⟩ := ih r1 r' _ (h.next ht) hr
      have := h.1
      refine ⟨p', a, by omega, fun _ => by omega, ?_⟩
      simp only [List.map_cons, List.sum_cons]; omega
theorem spl_sum (s : List UInt8) : ((spl s).map fun w => w.length + 1).sum = s.length + 1 := by
  cases h : spl s with
  | nil => exact absurd h (spl_ne s)
  | cons x r =>
    have := jn_len r x
    rw [← h, jn_spl] at this
    simp only [List.map_cons, List.sum_cons]; omega
section
variable {Q : Worlds Tryz.prog} {g0 : Nat} {J : Jm}
def cutV (s : List UInt8) : Value := .tuple #[.string ⟨⟨(cutW1 s).1⟩⟩, .string ⟨⟨(cutW1 s).2.1⟩⟩, .bool (cutW1 s).2.2]
theorem cutY_fn (L : Lb Q g0) {w r : List UInt8} (hw : (32 : UInt8) ∉ w) (hs : w.length + r.length ≤ 1000000) : Fn (kx Q g0) 67 [.string ⟨⟨w ++ 32 :: r⟩⟩, .string ⟨⟨[32]⟩⟩] [] J (Ret (.tuple #[.string ⟨⟨w⟩⟩, .string ⟨⟨r⟩⟩, .bool true]) J) := by
  have hF := fun J => L.idx (w ++ 32 :: r) 32 J
  rw [index_at w r hw] at hF
  have hl : (w ++ 32 :: r).length = w.length + (r.length + 1) := by rw [List.length_append, List.length_cons]
  refine Fn.of_body (ftGet Tryz.func67) rfl rfl fun H => ?_
  refine rg ?_
  refine Sa V.asg ?_
  refine Sa V.asg ?_
  refine Sa V.asg ?_
  refine Wn ?_
  refine rg ?_
  refine Sa V.mv ?_
  refine Sa V.mv ?_
  refine' W.step rfl (Exec.call rfl rfl rfl rfl rfl rfl rfl (mi := []) (.refl _) trivial (hF _) ?_)
  rintro v m' J' hle ⟨rfl, rfl, rfl⟩
  refine Sa V.asg ?_
  refine Wn ?_
  refine rg ?_
  refine Sa V.mv ?_
  refine Sa V.vi ?_
  refine Wn ?_
  refine sq ?_
  first | refine WC.if rfl (fun c12 => ?_) (fun c12 => ?_) | refine WC.cond rfl (fun c12 => ?_) (fun c12 => ?_)
  ·
   refine sq ?_
   refine WC.draw rfl (by kernel_rfl) (plan := [.val 0, .val 1, .val 2, .val 3, .val 4, .val 5, .val 6, .val 7, .val 8, .val 9, .val 10, .val 11]) (by kernel_rfl) ?_
   refine Da rfl V.mv ?_
   refine Da rfl V.mv ?_
   refine' WD.val rfl rfl rfl rfl (v_sliceStr rfl rfl (tIt rfl) rfl rfl ?h0 ?h1 ?h2) ?_
   case h0 => first | omega | (simp; omega)
   case h1 => first | omega | (simp; omega)
   case h2 => first | omega | (simp; omega)
   refine Da rfl V.mv ?_
   refine Da rfl V.mv ?_
   refine Da rfl V.mv ?_
   refine Da rfl V.lS ?_
   refine' WD.val rfl rfl rfl rfl (v_ar rfl rfl rfl rfl ?hw) ?_
   case hw => exact (wrap_i64 (n := (w.length : Int) + 1) (by omega) (by omega))
   refine' WD.val rfl rfl rfl rfl (v_sliceStr rfl rfl (tIt rfl) rfl rfl ?h0 ?h1 ?h2) ?_
   case h0 => first | omega | (simp; omega)
   case h1 => first | omega | (simp; omega)
   case h2 => first | omega | (simp; omega)
   refine Da rfl V.asg ?_
   refine Da rfl V.asg ?_
   refine Da rfl V.asg ?_
   refine WD.nil ?_
   refine sq ?_
   refine WC.ret ?_
   refine' ⟨.inr rfl, rfl, _, [], .tmp rfl (.tmp rfl (.tmp rfl .nil)), List.nil_sublist _, ?_⟩
   refine ⟨?_, rfl, rfl⟩
   have e1 : List.take ((w.length : Int).toNat - (0 : Int).toNat) (List.drop (0 : Int).toNat (w ++ 32 :: r)) = w := by
     show List.take (w.length - 0) (List.drop 0 (w ++ 32 :: r)) = _
     rw [Nat.sub_zero, List.drop_zero, List.take_left']; rfl
   have e2 : List.take (((w ++ 32 :: r).length : Int).toNat - ((w.length : Int) + 1).toNat) (List.drop ((w.length : Int) + 1).toNat (w ++ 32 :: r)) = r := by
     rw [hl, show ((w.length : Int) + 1).toNat = w.length + 1 by omega, Int.toNat_natCast, List.drop_append, List.drop_of_length_le (by omega), List.nil_append, show w.length + 1 - w.length = 1 by omega, List.drop_one, List.tail_cons, List.take_of_length_le (by omega)]
   first
     | (rw [e1, e2]; rfl)
     | skip
  ·
   exfalso; omega
theorem cutN_fn (L : Lb Q g0) {s : List UInt8} (hw : (32 : UInt8) ∉ s) (hs : s.length ≤ 1000000) : Fn (kx Q g0) 67 [.string ⟨⟨s⟩⟩, .string ⟨⟨[32]⟩⟩] [] J (Ret (.tuple #[.string ⟨⟨s⟩⟩, .string ⟨⟨[]⟩⟩, .bool false]) J) := by
  have hF := fun J => L.idx s 32 J
  rw [index_no s hw] at hF
  refine Fn.of_body (ftGet Tryz.func67) rfl rfl fun H => ?_
  refine rg ?_
  refine Sa V.asg ?_
  refine Sa V.asg ?_
  refine Sa V.asg ?_
  refine Wn ?_
  refine rg ?_
  refine Sa V.mv ?_
  refine Sa V.mv ?_
  refine' W.step rfl (Exec.call rfl rfl rfl rfl rfl rfl rfl (mi := []) (.refl _) trivial (hF _) ?_)
  rintro v m' J' hle ⟨rfl, rfl, rfl⟩
  refine Sa V.asg ?_
  refine Wn ?_
  refine rg ?_
  refine Sa V.mv ?_
  refine Sa V.vi ?_
  refine Wn ?_
  refine sq ?_
  first | refine WC.if rfl (fun c12 => ?_) (fun c12 => ?_) | refine WC.cond rfl (fun c12 => ?_) (fun c12 => ?_)
  ·
   exfalso; omega
  ·
   refine sq ?_
   refine WC.skip ?_
   refine rg ?_
   refine Sa V.mv ?_
   refine Sa V.asg ?_
   refine Sa V.asg ?_
   refine Sa V.asg ?_
   refine Wn ?_
   refine sq ?_
   refine WC.ret ?_
   refine' ⟨.inr rfl, rfl, _, [], .tmp rfl (.tmp rfl (.tmp rfl .nil)), List.nil_sublist _, ⟨rfl, rfl, rfl⟩⟩
theorem cutI_fn (L : Lb Q g0) {s : List UInt8} (hs : s.length ≤ 1000000) : Fn (kx Q g0) 67 [.string ⟨⟨s⟩⟩, .string ⟨⟨[32]⟩⟩] [] J (Ret (cutV s) J) := by
  have hnb := cutW1_nb s
  unfold cutV
  cases h : (cutW1 s).2.2 with
  | true =>
    have e := cutW1_y s h
    have el := congrArg List.length e
    rw [List.length_append, List.length_cons] at el
    have := cutY_fn (J := J) L (w := (cutW1 s).1) (r := (cutW1 s).2.1) hnb (by omega)
    rwa [← e] at this
  | false =>
    obtain ⟨e1, e2⟩ := cutW1_n s h
    have := cutN_fn (J := J) L (s := s) (by rw [e1]; exact hnb) hs
    rwa [e2, ← e1]
theorem cut_fn (L : Lb Q g0) {s : List UInt8} (hs : s.length ≤ 1000000) : Fn (kx Q g0) 46 [.string ⟨⟨s⟩⟩, .string ⟨⟨[32]⟩⟩] [] J (Ret (cutV s) J) := by
  refine Fn.of_body (ftGet Tryz.func46) rfl rfl fun H => ?_
  refine rg ?_
  refine Sa V.asg ?_
  refine Sa V.asg ?_
  refine Sa V.asg ?_
  refine Wn ?_
  refine rg ?_
  refine Sa V.mv ?_
  refine Sa V.mv ?_
  refine' W.step rfl (Exec.call rfl rfl rfl rfl rfl rfl rfl (mi := []) (.refl _) trivial (cutI_fn L hs) ?_)
  rintro v m' J' hle ⟨rfl, rfl, rfl⟩
  refine Sa V.ex ?_
  refine Sa V.ex ?_
  refine Sa V.ex ?_
  refine Sa V.asg ?_
  refine Sa V.asg ?_
  refine Sa V.asg ?_
  refine Wn ?_
  refine sq ?_
  refine WC.ret ?_
  refine' ⟨.inr rfl, rfl, _, [], .tmp rfl (.tmp rfl (.tmp rfl .nil)), List.nil_sublist _, ⟨rfl, rfl, rfl⟩⟩
end
end Go.Opn
set_option maxRecDepth 100000
set_option maxHeartbeats 4000000
set_option linter.unusedVariables false
set_option linter.unusedSimpArgs false
namespace Go.Opn
open Go.Cre Go.RowKit Go.Proofs
section
variable {Q : Worlds Tryz.prog} {g0 : Nat} {J : Jm}
theorem runW_at {rs : Rs} {p : Int} {s : List UInt8} : runW rs p (spl s) = match tkS rs p (cutW1 s).1 with
    | .inl r' => runW r' (p + ((cutW1 s).1.length + 1)) (if (cutW1 s).2.2 = true then spl (cutW1 s).2.1 else [])
    | .inr f => .inr f := by rw [spl_cut]; rfl
theorem runW_in {rs rs' : Rs} {p : Int} {s : List UInt8} (h : tkS rs p (cutW1 s).1 = .inl rs') : runW rs p (spl s) = runW rs' (p + ((cutW1 s).1.length + 1)) (if (cutW1 s).2.2 = true then spl (cutW1 s).2.1 else []) := by rw [runW_at, h]
theorem runW_out1 {rs : Rs} {p : Int} {s : List UInt8} (h : (tkS rs p (cutW1 s).1).isLeft = false) : runW rs p (spl s) = tkS rs p (cutW1 s).1 := by
  rw [runW_at]
  cases q : tkS rs p (cutW1 s).1 with
  | inl r => rw [q] at h; cases h
  | inr f => rfl
theorem runW_end {rs : Rs} {p : Int} {s : List UInt8} (h : (cutW1 s).2.2 = false) : runW rs p (spl s) = tkS rs p (cutW1 s).1 := by
  rw [runW_at, h]
  cases q : tkS rs p (cutW1 s).1 with
  | inl r => rfl
  | inr f => rfl
theorem words1_fn (L : Lb Q g0) {PY : Rs ⊕ (Int × Int) → Mm → Jm → Prop} {s : List UInt8} (hs : s.length ≤ 200) {lp a1 : Nat} {mY : Mm} (h0 : PY (.inl rs0) mY J)
    (hY : ∀ J' rs m p w, J.le J' → PY (.inl rs) m J' → Good rs p → p ≤ 200 → w.length ≤ 200 → Yd (kx Q g0) lp [.int .i64 p, .string ⟨⟨w⟩⟩] m J' (fun v m' J'' => v = .bool (tkS rs p w).isLeft ∧ PY (tkS rs p w) m' J'' ∧ J'.le J'')) :
    Fn (kx Q g0) 45 [.func (.yield lp) #[] #[], .pointer (some ⟨a1, 0, none⟩)] ((a1, .row [.string ⟨⟨s⟩⟩] 9) :: mY) J (fun w m' J' => PY (runW rs0 0 (spl s)) m' J' ∧ J.le J') := by
  refine Fn.of_body (ftGet Tryz.func45) rfl rfl fun H => ?_
  refine sq ?_
  refine WC.draw rfl (by kernel_rfl) (plan := [.val 0, .val 1, .val 2]) (by kernel_rfl) ?_
  refine Da rfl V.ld ?_
  refine Da rfl V.asg ?_
  refine Da rfl V.asg ?_
  refine WD.nil ?_
  refine sq ?_
  refine WC.block ?_
  refine sq ?_
  refine WC.permM (m' := mY ++ [(a1, .row [.string ⟨⟨s⟩⟩] 9)]) (List.perm_append_singleton _ _) ?_
  refine' WC.weak (l' := [(3, .int .i64 ((0) : Int)), (4, .string ⟨⟨(s)⟩⟩), (0, _)]) ⟨?w3, ?w4, rfl, trivial⟩ (List.Sublist.refl _) ?_
  case w3 => first | rfl | exact congrArg some (congrArg (Value.int .i64) (by omega))
  case w4 => first | rfl | exact congrArg some (congrArg (Value.int .i64) (by omega))
  refine sq ?_
  refine' WC.loopG (α := (Rs) × (Nat) × (List UInt8) × (Mm) × (Jm)) (fun (gh_ : (Rs) × (Nat) × (List UInt8) × (Mm) × (Jm)) => match gh_ with | (rs, p, rest, mc, Jc) => [(3, .int .i64 (p : Int)), (4, .string ⟨⟨rest⟩⟩)]) (fun (gh_ : (Rs) × (Nat) × (List UInt8) × (Mm) × (Jm)) => match gh_ with | (rs, p, rest, mc, Jc) => mc ++ [(a1, .row [.string ⟨⟨s⟩⟩] 9)]) (fun (gh_ : (Rs) × (Nat) × (List UInt8) × (Mm) × (Jm)) => match gh_ with | (rs, p, rest, mc, Jc) => Jc) (fun (gh_ : (Rs) × (Nat) × (List UInt8) × (Mm) × (Jm)) => match gh_ with | (rs, p, rest, mc, Jc) => p + rest.length = s.length ∧ Good rs p ∧ J.le Jc ∧ PY (.inl rs) mc Jc ∧ runW rs0 0 (spl s) = runW rs p (spl rest)) (fun (gh_ : (Rs) × (Nat) × (List UInt8) × (Mm) × (Jm)) => match gh_ with | (rs, p, rest, mc, Jc) => rest.length) ⟨rs0, 0, s, mY, J⟩ ?hs ?hstep
  case hs => exact ⟨by omega, ⟨by omega, fun _ => rfl, fun q => absurd rfl q, by simp [rs0], by simp [rs0]⟩, Jm.le.refl _, h0, rfl⟩
  case hstep =>
   rintro ⟨rs, p, rest, mc, Jc⟩ hinv
   try simp only at hinv
   obtain ⟨hlen, hgood, hleC, hP, hrun⟩ := hinv
   have hcl := cutW1_len rest
   refine sq ?_
   refine WC.block ?_
   refine rg ?_
   refine Sa V.mv ?_
   refine' W.step rfl (Exec.call rfl rfl rfl rfl rfl rfl rfl (mi := []) (.refl _) trivial (cut_fn L (by omega)) ?_)
   rintro v m' J' hle ⟨rfl, rfl, rfl⟩
   refine Sa V.mv ?_
   refine Sa V.ex ?_
   refine Sa V.ex ?_
   refine Sa V.ex ?_
   refine Sa V.asg ?_
   refine Sa V.asg ?_
   refine Sa V.asg ?_
   refine Wn ?_
   refine rg ?_
   refine Sa V.mv ?_
   refine Sa V.mv ?_
   refine Sa V.mv ?_
   refine' W.step rfl (Exec.yield rfl rfl rfl rfl rfl rfl (mi := mc) (mr := [_]) (.refl _) trivial (hY _ rs mc p _ hleC hP hgood (by omega) (by omega)) ?_)
   rintro v m2 J2 hle2 ⟨rfl, hP2, hle3⟩
   refine Sa V.nt ?_
   refine Sa V.mv ?_
   first | refine W.splitP (d := 20) rfl (fun gr2_5 => ?_) (fun gr2_5 => ?_) | refine W.split (d := 20) rfl (fun gr2_5 => ?_) (fun gr2_5 => ?_)
   ·
    refine Sn ?_
    refine Sn ?_
    refine Sa V.pk ?_
    refine Wn ?_
    refine sq ?_
    refine WC.condT rfl ?_
    refine sq ?_
    refine WC.ret ?_
    refine' ⟨.inr rfl, rfl, _, _, .nil, (List.sublist_append_left _ _), ?_⟩
    refine ⟨?_, hleC.trans hle3⟩
    rw [hrun]
    first
      | (rw [runW_out1 (by simpa using gr2_5)]; exact hP2)
      | (rw [runW_end (by simpa using c23)]; exact hP2)
   ·
    refine Sb V.mv ?_
    refine Sb V.nt ?_
    refine Sa V.pk ?_
    refine Wn ?_
    refine sq ?_
    first | refine WC.if rfl (fun c23 => ?_) (fun c23 => ?_) | refine WC.cond rfl (fun c23 => ?_) (fun c23 => ?_)
    ·
     refine sq ?_
     refine WC.ret ?_
     refine' ⟨.inr rfl, rfl, _, _, .nil, (List.sublist_append_left _ _), ?_⟩
     refine ⟨?_, hleC.trans hle3⟩
     rw [hrun]
     first
       | (rw [runW_out1 (by simpa using gr2_5)]; exact hP2)
       | (rw [runW_end (by simpa using c23)]; exact hP2)
    ·
     refine sq ?_
     refine WC.skip ?_
     refine rg ?_
     refine Sa V.mv ?_
     refine Sa V.mv ?_
     refine Sa V.lS ?_
     refine Sa V.va ?_
     refine Sa V.va ?_
     refine Sa V.asg ?_
     refine Wn ?_
     refine rg ?_
     refine Sa V.mv ?_
     refine Sa V.asg ?_
     refine Wn ?_
     obtain ⟨rs', hrs⟩ : ∃ rs', tkS rs p (cutW1 rest).1 = .inl rs' := by
       cases q : tkS rs p (cutW1 rest).1 with
       | inl r => exact ⟨r, rfl⟩
       | inr f => rw [q] at gr2_5; cases gr2_5
     have hmore : (cutW1 rest).2.2 = true := by
       cases q : (cutW1 rest).2.2 with
       | true => rfl
       | false => rw [q] at c23; cases c23
     have hrl := congrArg List.length (cutW1_y rest hmore)
     rw [List.length_append, List.length_cons] at hrl
     have hP3 : PY (.inl rs') m2 J2 := by rw [← hrs]; exact hP2
     have hgn : Good rs' ((p + (cutW1 rest).1.length + 1 : Nat) : Int) := by
       have := hgood.next hrs
       rwa [show ((p : Int) + ((cutW1 rest).1.length + 1)) = ((p + (cutW1 rest).1.length + 1 : Nat) : Int) by omega] at this
     refine' ⟨⟨rs', p + (cutW1 rest).1.length + 1, (cutW1 rest).2.1, m2, J2⟩, _, ?hinv, ?hmeas, rfl, ⟨?m3, ?m4, rfl, trivial⟩, List.Sublist.refl _, rfl⟩
     case m3 => first | rfl | exact congrArg some (congrArg (Value.int .i64) (by omega))
     case m4 => first | rfl | exact congrArg some (congrArg (Value.int .i64) (by omega))
     case hmeas => first | omega | (simp only; omega)
     case hinv => refine ⟨by omega, hgn, hleC.trans hle3, hP3, by rw [hrun, runW_in hrs, hmore, if_pos rfl]; congr 1⟩
end
end Go.Opn

/- A part of the proof of ProtocolBack. -/
import Derived.Test.YtaopiiohjbjgkaaGreatDoorWh
import Derived.Test.YtaopiiohjbjgkaaGreatDoorOpnM
set_option maxRecDepth 100000
set_option linter.unusedVariables false
set_option linter.unusedSimpArgs false
namespace Go.Opn
open Go.Cre Go.RowKit Go.Proofs
theorem Yd.mono {K : Kx} {lp : Nat} {args : List Value} {mi : Mm} {J : Jm} {P1 P2 : Value → Mm → Jm → Prop} (h : Yd K lp args mi J P1) (hp : ∀ v m J, P1 v m J → P2 v m J) : Yd K lp args mi J P2 := fun H hI => by
  obtain ⟨v, H', J', m', pc, pk, h1, h2, h3⟩ := h H hI
  exact ⟨v, H', J', m', pc, pk, h1, h2, hp _ _ _ h3⟩
theorem Yd.with {K : Kx} {lp : Nat} {args : List Value} {mi : Mm} {J : Jm} {P1 : Value → Mm → Jm → Prop} (h : Yd K lp args mi J P1) {p : Prop} (hp : p) : Yd K lp args mi J (fun v m J => P1 v m J ∧ p) := h.mono fun _ _ _ q => ⟨q, hp⟩
theorem cls_2 {c : Nat} : cls c = 2 ↔ isLetter c := by
  unfold cls; constructor
  · intro h
    split at h
    · cases h
    · split at h
      · assumption
      · split at h
        · cases h
        · split at h <;> cases h
  · intro h
    rw [if_neg (by omega), if_pos h]
theorem cls_3 {c : Nat} : cls c = 3 ↔ isDigit c := by
  unfold cls; constructor
  · intro h
    split at h
    · cases h
    · split at h
      · cases h
      · split at h
        · assumption
        · split at h <;> cases h
  · intro h
    rw [if_neg (by omega), if_neg (by omega), if_pos h]
theorem cls_1 {c : Nat} : cls c = 1 ↔ isBlank c := by
  unfold cls; constructor
  · intro h
    split at h
    · assumption
    · split at h
      · cases h
      · split at h
        · cases h
        · split at h <;> cases h
  · intro h
    rw [if_pos h]
theorem inCl_ld (s : List UInt8) (i : Nat) : inCl s [2, 3] i = ldAt s i := by
  unfold inCl ldAt
  cases s[i]? with
  | none => rfl
  | some b =>
    show decide _ = decide _
    rw [decide_eq_decide]
    simp [cls_2, cls_3]
theorem take_simp {s : List UInt8} {e : Nat} : (s.drop (0 : Int).toNat).take ((e : Int).toNat - (0 : Int).toNat) = s.take e := by simp
theorem run_pos {s : List UInt8} {b0 : UInt8} {e : Nat} (h0 : s[0]? = some b0) (hl : isLetter b0.toNat) (he3 : e < s.length → inCl s [2, 3] e = false) : e ≠ 0 := by
  intro q; subst q
  have hpos : 0 < s.length := by
    cases s with
    | nil => cases h0
    | cons => simp
  have := he3 hpos
  rw [inCl_ld] at this
  unfold ldAt at this
  rw [h0] at this
  simp only [decide_eq_false_iff_not] at this
  exact this (.inl hl)
abbrev rawT (s : List UInt8) (e : Nat) : List UInt8 := (s.drop (0 : Int).toNat).take ((e : Int).toNat - (0 : Int).toNat)
theorem rawT_ne {s : List UInt8} {b0 : UInt8} {e : Nat} (h0 : s[0]? = some b0) (he : e ≠ 0) : rawT s e ≠ [] := by
  unfold rawT; rw [take_simp]
  cases s with
  | nil => cases h0
  | cons a s => cases e with
    | zero => exact absurd rfl he
    | succ e => simp
theorem rawT_len {s : List UInt8} {e : Nat} (hs : s.length ≤ 40) : (rawT s e).length ≤ 40 := by
  unfold rawT; rw [take_simp, List.length_take]; omega
theorem rawT_eq {s : List UInt8} {e : Nat} (he : e ≤ s.length) : rawT s e = s ↔ e = s.length := by
  unfold rawT; rw [take_simp]
  constructor
  · intro h; have := congrArg List.length h; rw [List.length_take] at this; omega
  · intro h; rw [h, List.take_length]
section
variable {Q : Worlds Tryz.prog} {g0 : Nat} {J : Jm}
/-- the first token, or an error, that a text yields -/
def TokArgs (s : List UInt8) (args : List Value) : Prop := ∃ k tx n ta err b, args = [.agg #[.int .i64 k, .string ⟨⟨tx⟩⟩, .int .i64 n, .int .i64 ta], err] ∧ ifNil err = some b ∧ oneCell err = true ∧ (isNm s = true ↔ (b = true ∧ tx = s ∧ k = 1)) ∧ (isNm s = true → n = 0)
theorem tokens1_fn (hG : Gl g0 J) {s : List UInt8} {b0 : UInt8} (h0 : s[0]? = some b0) (hnb : ¬ isBlank b0.toNat) (hnh : b0.toNat ≠ 35) (hs : s.length ≤ 40) {lp a1 : Nat} {mY : Mm} (hno : noOpn mY) (mZ : List Value → Mm)
    (hY : ∀ J' args, J.le J' → TokArgs s args → Yd (kx Q g0) lp args mY J' (fun v m' J'' => v = .bool false ∧ m' = mZ args ∧ J'' = J')) :
    Fn (kx Q g0) 116 [.func (.yield lp) #[] #[], .pointer (some ⟨a1, 0, none⟩)] ((a1, .row [.string ⟨⟨s⟩⟩] 9) :: mY) J (fun w m' J' => (∃ args, TokArgs s args ∧ m' = mZ args) ∧ J.le J') := by
  have hpos : 0 < s.length := by
    cases s with
    | nil => cases h0
    | cons => simp
  have hY' : ∀ J' args, J.le J' → TokArgs s args → Yd (kx Q g0) lp args mY J' (fun v m' J'' => (v = .bool false ∧ m' = mZ args ∧ J'' = J') ∧ TokArgs s args) := fun J' args h hT => (hY J' args h hT).with hT
  refine Fn.of_body (ftGet Tryz.func116) rfl rfl fun H => ?_
  refine sq ?_
  refine WC.scope ?_
  refine rg ?_
  refine Sa V.asg ?_
  refine Wn ?_
  refine sq ?_
  refine WC.label ?_
  refine sq ?_
  refine WC.block ?_
  refine sq ?_
  refine WC.loopU ?_
  refine rg ?_
  refine Sa V.mv ?_
  refine Sa V.ld ?_
  refine Sa V.lS ?_
  refine Sa V.vi ?_
  refine Wn ?_
  refine sq ?_
  first | refine WC.if rfl (fun c10 => ?_) (fun c10 => ?_) | refine WC.cond rfl (fun c10 => ?_) (fun c10 => ?_)
  ·
   refine sq ?_
   refine WC.skip ?_
   refine sq ?_
   refine WC.block ?_
   refine rg ?_
   refine Sa V.mv ?_
   refine Sa V.bd ?_
   refine' W.step rfl (.of (x_alloc rfl rfl rfl (ze107 Q g0) rfl rfl rfl fun a4 => ?_))
   refine Ss ?_
   refine Wn ?_
   refine rg ?_
   refine Sa V.mv ?_
   refine Sa V.asg ?_
   refine Wn ?_
   refine rg ?_
   refine Sa V.ld ?_
   refine Sa V.mv ?_
   refine Sa V.iS ?_
   refine' W.step rfl (Exec.call rfl rfl rfl rfl rfl rfl rfl (mi := []) (.refl _) trivial (classOf_fn hG (UInt8.toNat_lt b0)) ?_)
   rintro v m' J' hle ⟨rfl, rfl, rfl⟩
   refine Wn ?_
   refine sq ?_
   refine WC.block ?_
   refine rg ?_
   refine Sa V.vi ?_
   refine Sa V.asg ?_
   refine Wn ?_
   refine sq ?_
   first | refine WC.if rfl (fun c25 => ?_) (fun c25 => ?_) | refine WC.cond rfl (fun c25 => ?_) (fun c25 => ?_)
   ·
    exfalso; exact hnb (cls_1.1 c25)
   ·
    refine rg ?_
    refine Sa V.vi ?_
    refine Sa V.asg ?_
    refine Wn ?_
    refine sq ?_
    first | refine WC.if rfl (fun c29 => ?_) (fun c29 => ?_) | refine WC.cond rfl (fun c29 => ?_) (fun c29 => ?_)
    ·
     refine rg ?_
     refine Sa V.ld ?_
     refine Sa V.mv ?_
     refine' W.step rfl (.of (x_buildSlice rfl rfl rfl rfl (sb249 Q g0) rfl rfl rfl fun a33 => ?_))
     refine W.pub rfl (fun hle33 hJ33 => ?_)
     refine' W.step rfl (Exec.call rfl rfl rfl rfl rfl rfl rfl (mi := []) (.refl _) trivial (run_fn (hG.mono hle33) (s := s) (IntsR.lit (l := [2, 3]) (by decide) hJ33) (by omega) (by decide)) ?_)
     rintro v m' J1 hle1 ⟨⟨e, rfl, he1, he2, he3⟩, rfl, rfl⟩
     refine Sa V.fa ?_
     refine Ss ?_
     refine Sa V.asg ?_
     refine Wn ?_
     refine rg ?_
     refine Sa V.ld ?_
     refine Sa V.mv ?_
     refine Sa V.mv ?_
     refine' W.step rfl (Exec.val rfl rfl (v_sliceStr rfl rfl (tIt rfl) rfl rfl ?h0 ?h1 ?h2) ?_)
     case h0 => first | omega | (simp; omega)
     case h1 => first | omega | (simp; omega)
     case h2 => first | omega | (simp; omega)
     refine Sa V.fa ?_
     refine Ss ?_
     refine Wn ?_
     refine rg ?_
     refine Sa V.ld ?_
     refine' W.step rfl (Exec.call rfl rfl rfl rfl rfl rfl rfl (mi := [_]) (mr := _) (.refl _) trivial (whole_fn (by first | (simp; omega) | simp)) ?_)
     rintro v m' J2 hleX ⟨⟨e2, n2, rfl, rfl, hw⟩, hleW⟩
     refine Sa V.asg ?_
     refine Wn ?_
     refine rg ?_
     refine Sa V.mv ?_
     refine Sa V.vi ?_
     refine Wn ?_
     refine sq ?_
     first | refine WC.if rfl (fun c57 => ?_) (fun c57 => ?_) | refine WC.cond rfl (fun c57 => ?_) (fun c57 => ?_)
     ·
      refine rg ?_
      refine Sa V.mv ?_
      refine Sa V.bd ?_
      refine Sa V.mv ?_
      refine Sa V.mv ?_
      refine Sa V.bd ?_
      refine Sa V.bd ?_
      refine Sa V.ifc ?_
      refine' W.step rfl (Exec.yield rfl rfl rfl rfl rfl rfl (mi := mY) (mr := [_, _]) List.perm_append_comm hno (hY' _ _ (by first | exact hle33.trans hleW | exact hle40.trans hleW | exact hleW) (by first | (exfalso; exact c57 (hw rfl (rawT_ne h0 (run_pos h0 (cls_2.1 c29) he3)) (rawT_len hs)).1) | exact ⟨_, _, _, _, _, false, rfl, rfl, rfl, by rw [isNm_first h0 (fun q => c29 (cls_2.2 q))]; simp, by rw [isNm_first h0 (fun q => c29 (cls_2.2 q))]; simp⟩)) ?_)
      rintro v m' J3 hleY ⟨⟨rfl, rfl, rfl⟩, hT⟩
      refine Wn ?_
      refine sq ?_
      refine WC.exit ?_
      refine ⟨(fun _ q => by cases q), ?_⟩
      refine' ⟨.inl rfl, rfl, _, (mZ _), .nil, List.sublist_append_left _ _, ⟨⟨_, hT, rfl⟩, by first | exact hle33.trans hleW | exact hle40.trans hleW | exact hleW⟩⟩
     ·
      refine sq ?_
      refine WC.skip ?_
      refine rg ?_
      refine Sa V.mv ?_
      refine Sa V.ldA ?_
      refine' W.step rfl (Exec.yield rfl rfl rfl rfl rfl rfl (mi := mY) (mr := [_, _]) List.perm_append_comm hno (hY' _ _ (by first | exact hle33.trans hleW | exact hle40.trans hleW | exact hleW) (by first | (have hl := cls_2.1 c29; have hwe := hw rfl (rawT_ne h0 (run_pos h0 hl he3)) (rawT_len hs); exact ⟨_, _, _, _, _, true, rfl, rfl, rfl, by rw [isNm_iff h0 hl he1 (fun i hi => by rw [← inCl_ld]; exact he2 i hi) (fun h => by rw [← inCl_ld]; exact he3 h), rawT_eq he1]; exact ⟨fun q => ⟨rfl, q.1, rfl⟩, fun q => ⟨q.2.1, by omega⟩⟩, fun _ => hwe.2⟩) | exact ⟨_, _, _, _, _, true, rfl, rfl, rfl, by rw [isNm_first h0 (fun q => c29 (cls_2.2 q))]; simp, by rw [isNm_first h0 (fun q => c29 (cls_2.2 q))]; simp⟩)) ?_)
      rintro v m' J3 hleY ⟨⟨rfl, rfl, rfl⟩, hT⟩
      refine Sa V.nt ?_
      refine Wn ?_
      refine sq ?_
      first | refine WC.if rfl (fun c69 => ?_) (fun c69 => ?_) | refine WC.cond rfl (fun c69 => ?_) (fun c69 => ?_)
      ·
       refine sq ?_
       refine WC.exit ?_
       refine ⟨(fun _ q => by cases q), ?_⟩
       refine' ⟨.inl rfl, rfl, _, (mZ _), .nil, List.sublist_append_left _ _, ⟨⟨_, hT, rfl⟩, by first | exact hle33.trans hleW | exact hle40.trans hleW | exact hleW⟩⟩
      ·
       exfalso; simp at c69
    ·
     refine rg ?_
     refine Sa V.vi ?_
     refine Sa V.asg ?_
     refine Wn ?_
     refine sq ?_
     first | refine WC.if rfl (fun c36 => ?_) (fun c36 => ?_) | refine WC.cond rfl (fun c36 => ?_) (fun c36 => ?_)
     ·
      refine rg ?_
      refine Sa V.ld ?_
      refine Sa V.mv ?_
      refine' W.step rfl (.of (x_buildSlice rfl rfl rfl rfl (sb249 Q g0) rfl rfl rfl fun a40 => ?_))
      refine W.pub rfl (fun hle40 hJ40 => ?_)
      refine' W.step rfl (Exec.call rfl rfl rfl rfl rfl rfl rfl (mi := []) (.refl _) trivial (run_fn (hG.mono hle40) (s := s) (IntsR.lit (l := [3]) (by decide) hJ40) (by omega) (by decide)) ?_)
      rintro v m' J1 hle1 ⟨⟨e, rfl, he1, he2, he3⟩, rfl, rfl⟩
      refine Sa V.fa ?_
      refine Ss ?_
      refine Sa V.asg ?_
      refine Wn ?_
      refine rg ?_
      refine Sa V.ld ?_
      refine Sa V.mv ?_
      refine Sa V.mv ?_
      refine' W.step rfl (Exec.val rfl rfl (v_sliceStr rfl rfl (tIt rfl) rfl rfl ?h0 ?h1 ?h2) ?_)
      case h0 => first | omega | (simp; omega)
      case h1 => first | omega | (simp; omega)
      case h2 => first | omega | (simp; omega)
      refine Sa V.fa ?_
      refine Ss ?_
      refine Wn ?_
      refine rg ?_
      refine Sa V.ld ?_
      refine' W.step rfl (Exec.call rfl rfl rfl rfl rfl rfl rfl (mi := [_]) (mr := _) (.refl _) trivial (whole_fn (by first | (simp; omega) | simp)) ?_)
      rintro v m' J2 hleX ⟨⟨e2, n2, rfl, rfl, hw⟩, hleW⟩
      refine Sa V.asg ?_
      refine Wn ?_
      refine rg ?_
      refine Sa V.mv ?_
      refine Sa V.vi ?_
      refine Wn ?_
      refine sq ?_
      first | refine WC.if rfl (fun c57 => ?_) (fun c57 => ?_) | refine WC.cond rfl (fun c57 => ?_) (fun c57 => ?_)
      ·
       refine rg ?_
       refine Sa V.mv ?_
       refine Sa V.bd ?_
       refine Sa V.mv ?_
       refine Sa V.mv ?_
       refine Sa V.bd ?_
       refine Sa V.bd ?_
       refine Sa V.ifc ?_
       refine' W.step rfl (Exec.yield rfl rfl rfl rfl rfl rfl (mi := mY) (mr := [_, _]) List.perm_append_comm hno (hY' _ _ (by first | exact hle33.trans hleW | exact hle40.trans hleW | exact hleW) (by first | (exfalso; exact c57 (hw rfl (rawT_ne h0 (run_pos h0 (cls_2.1 c29) he3)) (rawT_len hs)).1) | exact ⟨_, _, _, _, _, false, rfl, rfl, rfl, by rw [isNm_first h0 (fun q => c29 (cls_2.2 q))]; simp, by rw [isNm_first h0 (fun q => c29 (cls_2.2 q))]; simp⟩)) ?_)
       rintro v m' J3 hleY ⟨⟨rfl, rfl, rfl⟩, hT⟩
       refine Wn ?_
       refine sq ?_
       refine WC.exit ?_
       refine ⟨(fun _ q => by cases q), ?_⟩
       refine' ⟨.inl rfl, rfl, _, (mZ _), .nil, List.sublist_append_left _ _, ⟨⟨_, hT, rfl⟩, by first | exact hle33.trans hleW | exact hle40.trans hleW | exact hleW⟩⟩
      ·
       refine sq ?_
       refine WC.skip ?_
       refine rg ?_
       refine Sa V.mv ?_
       refine Sa V.ldA ?_
       refine' W.step rfl (Exec.yield rfl rfl rfl rfl rfl rfl (mi := mY) (mr := [_, _]) List.perm_append_comm hno (hY' _ _ (by first | exact hle33.trans hleW | exact hle40.trans hleW | exact hleW) (by first | (have hl := cls_2.1 c29; have hwe := hw rfl (rawT_ne h0 (run_pos h0 hl he3)) (rawT_len hs); exact ⟨_, _, _, _, _, true, rfl, rfl, rfl, by rw [isNm_iff h0 hl he1 (fun i hi => by rw [← inCl_ld]; exact he2 i hi) (fun h => by rw [← inCl_ld]; exact he3 h), rawT_eq he1]; exact ⟨fun q => ⟨rfl, q.1, rfl⟩, fun q => ⟨q.2.1, by omega⟩⟩, fun _ => hwe.2⟩) | exact ⟨_, _, _, _, _, true, rfl, rfl, rfl, by rw [isNm_first h0 (fun q => c29 (cls_2.2 q))]; simp, by rw [isNm_first h0 (fun q => c29 (cls_2.2 q))]; simp⟩)) ?_)
       rintro v m' J3 hleY ⟨⟨rfl, rfl, rfl⟩, hT⟩
       refine Sa V.nt ?_
       refine Wn ?_
       refine sq ?_
       first | refine WC.if rfl (fun c69 => ?_) (fun c69 => ?_) | refine WC.cond rfl (fun c69 => ?_) (fun c69 => ?_)
       ·
        refine sq ?_
        refine WC.exit ?_
        refine ⟨(fun _ q => by cases q), ?_⟩
        refine' ⟨.inl rfl, rfl, _, (mZ _), .nil, List.sublist_append_left _ _, ⟨⟨_, hT, rfl⟩, by first | exact hle33.trans hleW | exact hle40.trans hleW | exact hleW⟩⟩
       ·
        exfalso; simp at c69
     ·
      refine rg ?_
      refine Sa V.vi ?_
      refine Sa V.asg ?_
      refine Wn ?_
      refine sq ?_
      first | refine WC.if rfl (fun c43 => ?_) (fun c43 => ?_) | refine WC.cond rfl (fun c43 => ?_) (fun c43 => ?_)
      ·
       refine rg ?_
       refine Sa V.ld ?_
       refine Sa V.mv ?_
       refine' W.step rfl (Exec.call rfl rfl rfl rfl rfl rfl rfl (mi := []) (.refl _) trivial (signEnd_fn h0 (by omega)) ?_)
       rintro v m' J1 hle1 ⟨⟨e, rfl, he1⟩, rfl, rfl⟩
       refine Sa V.fa ?_
       refine Ss ?_
       refine Sa V.asg ?_
       refine Wn ?_
       refine rg ?_
       refine Sa V.ld ?_
       refine Sa V.mv ?_
       refine Sa V.mv ?_
       refine' W.step rfl (Exec.val rfl rfl (v_sliceStr rfl rfl (tIt rfl) rfl rfl ?h0 ?h1 ?h2) ?_)
       case h0 => first | omega | (simp; omega)
       case h1 => first | omega | (simp; omega)
       case h2 => first | omega | (simp; omega)
       refine Sa V.fa ?_
       refine Ss ?_
       refine Wn ?_
       refine rg ?_
       refine Sa V.ld ?_
       refine' W.step rfl (Exec.call rfl rfl rfl rfl rfl rfl rfl (mi := [_]) (mr := _) (.refl _) trivial (whole_fn (by first | (simp; omega) | simp)) ?_)
       rintro v m' J2 hleX ⟨⟨e2, n2, rfl, rfl, hw⟩, hleW⟩
       refine Sa V.asg ?_
       refine Wn ?_
       refine rg ?_
       refine Sa V.mv ?_
       refine Sa V.vi ?_
       refine Wn ?_
       refine sq ?_
       first | refine WC.if rfl (fun c57 => ?_) (fun c57 => ?_) | refine WC.cond rfl (fun c57 => ?_) (fun c57 => ?_)
       ·
        refine rg ?_
        refine Sa V.mv ?_
        refine Sa V.bd ?_
        refine Sa V.mv ?_
        refine Sa V.mv ?_
        refine Sa V.bd ?_
        refine Sa V.bd ?_
        refine Sa V.ifc ?_
        refine' W.step rfl (Exec.yield rfl rfl rfl rfl rfl rfl (mi := mY) (mr := [_, _]) List.perm_append_comm hno (hY' _ _ (by first | exact hle33.trans hleW | exact hle40.trans hleW | exact hleW) (by first | (exfalso; exact c57 (hw rfl (rawT_ne h0 (run_pos h0 (cls_2.1 c29) he3)) (rawT_len hs)).1) | exact ⟨_, _, _, _, _, false, rfl, rfl, rfl, by rw [isNm_first h0 (fun q => c29 (cls_2.2 q))]; simp, by rw [isNm_first h0 (fun q => c29 (cls_2.2 q))]; simp⟩)) ?_)
        rintro v m' J3 hleY ⟨⟨rfl, rfl, rfl⟩, hT⟩
        refine Wn ?_
        refine sq ?_
        refine WC.exit ?_
        refine ⟨(fun _ q => by cases q), ?_⟩
        refine' ⟨.inl rfl, rfl, _, (mZ _), .nil, List.sublist_append_left _ _, ⟨⟨_, hT, rfl⟩, by first | exact hle33.trans hleW | exact hle40.trans hleW | exact hleW⟩⟩
       ·
        refine sq ?_
        refine WC.skip ?_
        refine rg ?_
        refine Sa V.mv ?_
        refine Sa V.ldA ?_
        refine' W.step rfl (Exec.yield rfl rfl rfl rfl rfl rfl (mi := mY) (mr := [_, _]) List.perm_append_comm hno (hY' _ _ (by first | exact hle33.trans hleW | exact hle40.trans hleW | exact hleW) (by first | (have hl := cls_2.1 c29; have hwe := hw rfl (rawT_ne h0 (run_pos h0 hl he3)) (rawT_len hs); exact ⟨_, _, _, _, _, true, rfl, rfl, rfl, by rw [isNm_iff h0 hl he1 (fun i hi => by rw [← inCl_ld]; exact he2 i hi) (fun h => by rw [← inCl_ld]; exact he3 h), rawT_eq he1]; exact ⟨fun q => ⟨rfl, q.1, rfl⟩, fun q => ⟨q.2.1, by omega⟩⟩, fun _ => hwe.2⟩) | exact ⟨_, _, _, _, _, true, rfl, rfl, rfl, by rw [isNm_first h0 (fun q => c29 (cls_2.2 q))]; simp, by rw [isNm_first h0 (fun q => c29 (cls_2.2 q))]; simp⟩)) ?_)
        rintro v m' J3 hleY ⟨⟨rfl, rfl, rfl⟩, hT⟩
        refine Sa V.nt ?_
        refine Wn ?_
        refine sq ?_
        first | refine WC.if rfl (fun c69 => ?_) (fun c69 => ?_) | refine WC.cond rfl (fun c69 => ?_) (fun c69 => ?_)
        ·
         refine sq ?_
         refine WC.exit ?_
         refine ⟨(fun _ q => by cases q), ?_⟩
         refine' ⟨.inl rfl, rfl, _, (mZ _), .nil, List.sublist_append_left _ _, ⟨⟨_, hT, rfl⟩, by first | exact hle33.trans hleW | exact hle40.trans hleW | exact hleW⟩⟩
        ·
         exfalso; simp at c69
      ·
       refine rg ?_
       refine Sa V.ld ?_
       refine Sa V.mv ?_
       refine Sa V.iS ?_
       refine Sa V.vi ?_
       refine Wn ?_
       refine sq ?_
       first | refine WC.if rfl (fun c21 => ?_) (fun c21 => ?_) | refine WC.cond rfl (fun c21 => ?_) (fun c21 => ?_)
       ·
        exfalso; exact hnh (by omega)
       ·
        refine sq ?_
        refine WC.skip ?_
        refine rg ?_
        refine Sa V.ld ?_
        refine Sa V.mv ?_
        refine Sa V.mv ?_
        refine' W.step rfl (Exec.val rfl rfl (v_sliceStr rfl rfl (tIt rfl) rfl rfl ?h0 ?h1 ?h2) ?_)
        case h0 => first | omega | (simp; omega)
        case h1 => first | omega | (simp; omega)
        case h2 => first | omega | (simp; omega)
        refine Sa V.fa ?_
        refine Ss ?_
        refine Wn ?_
        refine rg ?_
        refine Sa V.ld ?_
        refine' W.step rfl (Exec.call rfl rfl rfl rfl rfl rfl rfl (mi := [_]) (mr := _) (.refl _) trivial (whole_fn (by first | (simp; omega) | simp)) ?_)
        rintro v m' J2 hleX ⟨⟨e2, n2, rfl, rfl, hw⟩, hleW⟩
        refine Sa V.asg ?_
        refine Wn ?_
        refine rg ?_
        refine Sa V.mv ?_
        refine Sa V.vi ?_
        refine Wn ?_
        refine sq ?_
        first | refine WC.if rfl (fun c57 => ?_) (fun c57 => ?_) | refine WC.cond rfl (fun c57 => ?_) (fun c57 => ?_)
        ·
         refine rg ?_
         refine Sa V.mv ?_
         refine Sa V.bd ?_
         refine Sa V.mv ?_
         refine Sa V.mv ?_
         refine Sa V.bd ?_
         refine Sa V.bd ?_
         refine Sa V.ifc ?_
         refine' W.step rfl (Exec.yield rfl rfl rfl rfl rfl rfl (mi := mY) (mr := [_, _]) List.perm_append_comm hno (hY' _ _ (by first | exact hle33.trans hleW | exact hle40.trans hleW | exact hleW) (by first | (exfalso; exact c57 (hw rfl (rawT_ne h0 (run_pos h0 (cls_2.1 c29) he3)) (rawT_len hs)).1) | exact ⟨_, _, _, _, _, false, rfl, rfl, rfl, by rw [isNm_first h0 (fun q => c29 (cls_2.2 q))]; simp, by rw [isNm_first h0 (fun q => c29 (cls_2.2 q))]; simp⟩)) ?_)
         rintro v m' J3 hleY ⟨⟨rfl, rfl, rfl⟩, hT⟩
         refine Wn ?_
         refine sq ?_
         refine WC.exit ?_
         refine ⟨(fun _ q => by cases q), ?_⟩
         refine' ⟨.inl rfl, rfl, _, (mZ _), .nil, List.sublist_append_left _ _, ⟨⟨_, hT, rfl⟩, by first | exact hle33.trans hleW | exact hle40.trans hleW | exact hleW⟩⟩
        ·
         refine sq ?_
         refine WC.skip ?_
         refine rg ?_
         refine Sa V.mv ?_
         refine Sa V.ldA ?_
         refine' W.step rfl (Exec.yield rfl rfl rfl rfl rfl rfl (mi := mY) (mr := [_, _]) List.perm_append_comm hno (hY' _ _ (by first | exact hle33.trans hleW | exact hle40.trans hleW | exact hleW) (by first | (have hl := cls_2.1 c29; have hwe := hw rfl (rawT_ne h0 (run_pos h0 hl he3)) (rawT_len hs); exact ⟨_, _, _, _, _, true, rfl, rfl, rfl, by rw [isNm_iff h0 hl he1 (fun i hi => by rw [← inCl_ld]; exact he2 i hi) (fun h => by rw [← inCl_ld]; exact he3 h), rawT_eq he1]; exact ⟨fun q => ⟨rfl, q.1, rfl⟩, fun q => ⟨q.2.1, by omega⟩⟩, fun _ => hwe.2⟩) | exact ⟨_, _, _, _, _, true, rfl, rfl, rfl, by rw [isNm_first h0 (fun q => c29 (cls_2.2 q))]; simp, by rw [isNm_first h0 (fun q => c29 (cls_2.2 q))]; simp⟩)) ?_)
         rintro v m' J3 hleY ⟨⟨rfl, rfl, rfl⟩, hT⟩
         refine Sa V.nt ?_
         refine Wn ?_
         refine sq ?_
         first | refine WC.if rfl (fun c69 => ?_) (fun c69 => ?_) | refine WC.cond rfl (fun c69 => ?_) (fun c69 => ?_)
         ·
          refine sq ?_
          refine WC.exit ?_
          refine ⟨(fun _ q => by cases q), ?_⟩
          refine' ⟨.inl rfl, rfl, _, (mZ _), .nil, List.sublist_append_left _ _, ⟨⟨_, hT, rfl⟩, by first | exact hle33.trans hleW | exact hle40.trans hleW | exact hleW⟩⟩
         ·
          exfalso; simp at c69
  ·
   exfalso; omega
end
end Go.Opn
set_option maxRecDepth 100000
set_option linter.unusedVariables false
set_option linter.unusedSimpArgs false
namespace Go.Opn
open Go.Cre Go.RowKit Go.Proofs
section
variable {Q : Worlds Tryz.prog} {g0 : Nat} {J : Jm}
theorem tokens_fn {s : List UInt8} : Fn (kx Q g0) 72 [.string ⟨⟨s⟩⟩] [] J (fun w m' J' => ∃ a, w = .func (.func 116) #[] #[.pointer (some ⟨a, 0, none⟩)] ∧ m' = [(a, .row [.string ⟨⟨s⟩⟩] 9)] ∧ J' = J) := by
  refine Fn.of_body (ftGet Tryz.func72) rfl rfl fun H => ?_
  refine rg ?_
  refine' W.step rfl (.of (x_box rfl rfl rfl rfl rfl rfl fun a1 => ?_))
  refine Sa V.asg ?_
  refine Wn ?_
  refine rg ?_
  refine Sa V.fn ?_
  refine Sa V.asg ?_
  refine Wn ?_
  refine sq ?_
  refine WC.ret ?_
  refine' ⟨.inr rfl, rfl, _, _, .tmp rfl .nil, List.Sublist.refl _, ⟨_, rfl, rfl, rfl⟩⟩
theorem isNm_long {s : List UInt8} (h : 40 < s.length) : isNm s = false := by
  unfold isNm; rw [decide_eq_false (show ¬ s.length ≤ 40 by omega), Bool.and_false]
def cellsOf : List Value → List Value
  | [.agg cs, _] => cs.toList
  | _ => []
/-- the single token of a text -/
def SingleP (s : List UInt8) (af ta : Nat) (J : Jm) : Value → Mm → Jm → Prop := fun w m' J' => (∃ k tx n p, w = .bool (isNm s) ∧ m' = [(af, .row [.int .i64 k, .string ⟨⟨tx⟩⟩, .int .i64 n, .int .i64 p] 107), (ta, .row [.int .i64 1, .string ⟨⟨s⟩⟩, .int .i64 0, .int .i64 0] 107)] ∧ (isNm s = true → n = 0)) ∧ J.le J'
theorem single1_fn (hG : Gl g0 J) {s : List UInt8} {af ta : Nat} (hs : s.length ≤ 140737488355328) : Fn (kx Q g0) 70 [.string ⟨⟨s⟩⟩, .pointer (some ⟨af, 0, none⟩), .pointer (some ⟨ta, 0, none⟩)] [(af, .row [.int .i64 0, .string ⟨⟨[]⟩⟩, .int .i64 0, .int .i64 0] 107), (ta, .row [.int .i64 1, .string ⟨⟨s⟩⟩, .int .i64 0, .int .i64 0] 107)] J (SingleP s af ta J) := by
  refine Fn.of_bodyL (ftGet Tryz.func70) rfl rfl fun H => ?_
  refine rg ?_
  refine' W.step rfl (.of (x_box rfl rfl rfl rfl rfl rfl fun a3 => ?_))
  refine' W.step rfl (.of (x_alloc rfl rfl rfl (ze4 Q g0) rfl rfl rfl fun a4 => ?_))
  refine Wn ?_
  refine rg ?_
  refine Sa V.ld ?_
  refine Sa V.lS ?_
  refine Sa V.vi ?_
  refine Sa V.mv ?_
  first | refine W.splitP (d := 10) rfl (fun gr1_3 => ?_) (fun gr1_3 => ?_) | refine W.split (d := 10) rfl (fun gr1_3 => ?_) (fun gr1_3 => ?_)
  ·
   refine Sn ?_
   refine Sn ?_
   refine Sn ?_
   refine Sa V.pk ?_
   refine Sa V.mv ?_
   refine Sn ?_
   refine Sn ?_
   refine W.guardN rfl rfl rfl rfl rfl ?_
   refine Sn ?_
   refine Sa V.pk ?_
   refine Sa V.mv ?_
   refine Sn ?_
   refine Sn ?_
   refine Sn ?_
   refine Sa V.pk ?_
   refine Wn ?_
   refine sq ?_
   refine WC.condT rfl ?_
   refine rg ?_
   refine Ss ?_
   refine Wn ?_
   refine sq ?_
   refine WC.ret ?_
   refine' ⟨.inr rfl, _, _, [_, _], .nil _, .cell rfl (by repeat first | exact .head _ | refine .tail _ ?_ | refine List.mem_append_right _ ?_) (part1 (tAg rfl) rfl) (.nil), (List.Sublist.refl _).cons _ |>.cons _, ?_⟩
   refine ⟨⟨0, [], 0, 0, congrArg Value.bool ?_, rfl, fun _ => rfl⟩, Jm.le.refl _⟩
   symm
   first
     | exact isNm_long (by omega)
     | exact isNm_first h0 (by omega)
     | exact isNm_first h0 (fun q => by have := cls_1.1 (by assumption); omega)
     | (have : s = [] := List.eq_nil_of_length_eq_zero (by omega); rw [this]; rfl)
  ·
   have hpos : 0 < s.length := by omega
   obtain ⟨b0, h0', h0⟩ := get_at s 0 hpos
   refine Sb V.ld ?_
   refine Sb V.lS ?_
   refine Sb V.vi ?_
   refine Sa V.pk ?_
   refine Sa V.mv ?_
   first | refine W.splitP (d := 15) rfl (fun gr1_8 => ?_) (fun gr1_8 => ?_) | refine W.split (d := 15) rfl (fun gr1_8 => ?_) (fun gr1_8 => ?_)
   ·
    refine Sn ?_
    refine Sn ?_
    refine W.guardN rfl rfl rfl rfl rfl ?_
    refine Sn ?_
    refine Sa V.pk ?_
    refine Sa V.mv ?_
    refine Sn ?_
    refine Sn ?_
    refine Sn ?_
    refine Sa V.pk ?_
    refine Wn ?_
    refine sq ?_
    refine WC.condT rfl ?_
    refine rg ?_
    refine Ss ?_
    refine Wn ?_
    refine sq ?_
    refine WC.ret ?_
    refine' ⟨.inr rfl, _, _, [_, _], .nil _, .cell rfl (by repeat first | exact .head _ | refine .tail _ ?_ | refine List.mem_append_right _ ?_) (part1 (tAg rfl) rfl) (.nil), (List.Sublist.refl _).cons _ |>.cons _, ?_⟩
    refine ⟨⟨0, [], 0, 0, congrArg Value.bool ?_, rfl, fun _ => rfl⟩, Jm.le.refl _⟩
    symm
    first
      | exact isNm_long (by omega)
      | exact isNm_first h0 (by omega)
      | exact isNm_first h0 (fun q => by have := cls_1.1 (by assumption); omega)
      | (have : s = [] := List.eq_nil_of_length_eq_zero (by omega); rw [this]; rfl)
   ·
    refine Sb V.ld ?_
    refine Sb V.iS ?_
    refine' W.guardY rfl rfl rfl (Exec.call rfl rfl rfl rfl rfl rfl rfl (mi := []) (.refl _) trivial (classOf_fn hG (UInt8.toNat_lt b0)) ?_)
    rintro v m' J' hle ⟨rfl, rfl, rfl⟩
    refine Sb V.vi ?_
    refine Sa V.pk ?_
    refine Sa V.mv ?_
    first | refine W.splitP (d := 21) rfl (fun gr1_14 => ?_) (fun gr1_14 => ?_) | refine W.split (d := 21) rfl (fun gr1_14 => ?_) (fun gr1_14 => ?_)
    ·
     refine Sn ?_
     refine Sn ?_
     refine Sn ?_
     refine Sa V.pk ?_
     refine Wn ?_
     refine sq ?_
     refine WC.condT rfl ?_
     refine rg ?_
     refine Ss ?_
     refine Wn ?_
     refine sq ?_
     refine WC.ret ?_
     refine' ⟨.inr rfl, _, _, [_, _], .nil _, .cell rfl (by repeat first | exact .head _ | refine .tail _ ?_ | refine List.mem_append_right _ ?_) (part1 (tAg rfl) rfl) (.nil), (List.Sublist.refl _).cons _ |>.cons _, ?_⟩
     refine ⟨⟨0, [], 0, 0, congrArg Value.bool ?_, rfl, fun _ => rfl⟩, Jm.le.refl _⟩
     symm
     first
       | exact isNm_long (by omega)
       | exact isNm_first h0 (by omega)
       | exact isNm_first h0 (fun q => by have := cls_1.1 (by assumption); omega)
       | (have : s = [] := List.eq_nil_of_length_eq_zero (by omega); rw [this]; rfl)
    ·
     refine Sb V.ld ?_
     refine Sb V.iS ?_
     refine Sb V.vi ?_
     refine Sa V.pk ?_
     refine Wn ?_
     refine sq ?_
     first | refine WC.if rfl (fun c25 => ?_) (fun c25 => ?_) | refine WC.cond rfl (fun c25 => ?_) (fun c25 => ?_)
     ·
      refine rg ?_
      refine Ss ?_
      refine Wn ?_
      refine sq ?_
      refine WC.ret ?_
      refine' ⟨.inr rfl, _, _, [_, _], .nil _, .cell rfl (by repeat first | exact .head _ | refine .tail _ ?_ | refine List.mem_append_right _ ?_) (part1 (tAg rfl) rfl) (.nil), (List.Sublist.refl _).cons _ |>.cons _, ?_⟩
      refine ⟨⟨0, [], 0, 0, congrArg Value.bool ?_, rfl, fun _ => rfl⟩, Jm.le.refl _⟩
      symm
      first
        | exact isNm_long (by omega)
        | exact isNm_first h0 (by omega)
        | exact isNm_first h0 (fun q => by have := cls_1.1 (by assumption); omega)
        | (have : s = [] := List.eq_nil_of_length_eq_zero (by omega); rw [this]; rfl)
     ·
      refine sq ?_
      refine WC.skip ?_
      refine rg ?_
      refine Sa V.ld ?_
      refine' W.step rfl (Exec.call rfl rfl rfl rfl rfl rfl rfl (mi := []) (.refl _) trivial (tokens_fn) ?_)
      rintro v m' J1 hle ⟨a1, rfl, rfl, rfl⟩
      refine Wn ?_
      refine sq ?_
      refine WC.block ?_
      refine sq ?_
      refine WC.rangeR rfl rfl (fun dr lp r hr => ?_)
      refine ⟨(a1, _) :: [(lp, _), (a4, _), (a3, _), (af, _), (ta, _)], [(dr, _)], _, (perm_pick 2 rfl (perm_pick 0 rfl (perm_pick 1 rfl (perm_pick 1 rfl (perm_pick 1 rfl (perm_pick 1 rfl (perm_pick 0 rfl .nil))))))), trivial, tokens1_fn hG h0 (fun q => gr1_14 (cls_1.2 q)) (by omega) (by omega) (by trivial) (fun args => [(lp, PB.loop { r with state := .done, pending := some .ret }), (a4, .row [.bool (isNm s)] 4), (a3, .row [.string ⟨⟨s⟩⟩] 9), (af, .row (cellsOf args) 107), (ta, .row [.int .i64 1, .string ⟨⟨s⟩⟩, .int .i64 0, .int .i64 0] 107)]) ?hY, ?hend⟩
      case hY =>
        rintro J2 _ hle2 ⟨k, tx, n, p, err, b, rfl, he1, he2, hiff, hn⟩
        refine Yd.ofR hr (.head _) rfl rfl (fun H => ?_)
        refine rg ?_
        refine' W.step rfl (.of (x_alloc rfl rfl rfl (ze107 Q g0) rfl rfl rfl fun a5 => ?_))
        refine Ss ?_
        refine Wn ?_
        refine rg ?_
        refine Sa V.asg ?_
        refine Wn ?_
        refine ⟨rfl, _, .tail _ (.head _ _ _ _), ?_⟩
        refine sq ?_
        refine WC.block ?_
        refine rg ?_
        refine Sa V.ldA ?_
        refine Ss ?_
        refine Wn ?_
        refine rg ?_
        refine Sa V.mv ?_
        refine' W.step rfl (Exec.val rfl rfl (v_ifaceNil rfl rfl ?hv (if94 Q g0)) ?_)
        case hv => first | rfl | assumption
        refine Sa V.mv ?_
        first | refine W.splitP (d := 33) rfl (fun gr7_2 => ?_) (fun gr7_2 => ?_) | refine W.split (d := 33) rfl (fun gr7_2 => ?_) (fun gr7_2 => ?_)
        ·
         refine Sb V.fa ?_
         refine Sb V.ld ?_
         refine Sb V.ld ?_
         refine Sb V.se ?_
         refine Sa V.pk ?_
         refine Sa V.mv ?_
         first | refine W.splitP (d := 39) rfl (fun gr7_8 => ?_) (fun gr7_8 => ?_) | refine W.split (d := 39) rfl (fun gr7_8 => ?_) (fun gr7_8 => ?_)
         ·
          refine Sb V.fa ?_
          refine Sb V.ld ?_
          refine Sb V.fa ?_
          refine Sb V.ld ?_
          refine Sb V.vi ?_
          refine Sa V.pk ?_
          refine Ss ?_
          refine Wn ?_
          refine sq ?_
          refine WC.ret ?_
          refine ⟨some .ret, _, _, [_, _, _, _, _], rfl, .tail _ (.head _ _ _ _), (List.Sublist.refl _).cons _, rfl, ?_, rfl⟩
          first
            | (rw [show isNm s = decide (k = 1) by rw [Bool.eq_iff_iff, hiff]; simp [gr7_2, gr7_8]]; rfl)
            | (rw [show isNm s = false by rw [Bool.eq_false_iff]; intro q; exact gr7_8 (hiff.1 q).2.1]; rfl)
            | (rw [show isNm s = false by rw [Bool.eq_false_iff]; intro q; rw [(hiff.1 q).1] at gr7_2; cases gr7_2]; rfl)
         ·
          refine Sn ?_
          refine Sn ?_
          refine Sn ?_
          refine Sn ?_
          refine Sn ?_
          refine Sa V.pk ?_
          refine Ss ?_
          refine Wn ?_
          refine sq ?_
          refine WC.ret ?_
          refine ⟨some .ret, _, _, [_, _, _, _, _], rfl, .tail _ (.head _ _ _ _), (List.Sublist.refl _).cons _, rfl, ?_, rfl⟩
          first
            | (rw [show isNm s = decide (k = 1) by rw [Bool.eq_iff_iff, hiff]; simp [gr7_2, gr7_8]]; rfl)
            | (rw [show isNm s = false by rw [Bool.eq_false_iff]; intro q; exact gr7_8 (hiff.1 q).2.1]; rfl)
            | (rw [show isNm s = false by rw [Bool.eq_false_iff]; intro q; rw [(hiff.1 q).1] at gr7_2; cases gr7_2]; rfl)
        ·
         refine Sn ?_
         refine Sn ?_
         refine Sn ?_
         refine Sn ?_
         refine Sa V.pk ?_
         refine Sa V.mv ?_
         refine Sn ?_
         refine Sn ?_
         refine Sn ?_
         refine Sn ?_
         refine Sn ?_
         refine Sa V.pk ?_
         refine Ss ?_
         refine Wn ?_
         refine sq ?_
         refine WC.ret ?_
         refine ⟨some .ret, _, _, [_, _, _, _, _], rfl, .tail _ (.head _ _ _ _), (List.Sublist.refl _).cons _, rfl, ?_, rfl⟩
         first
           | (rw [show isNm s = decide (k = 1) by rw [Bool.eq_iff_iff, hiff]; simp [gr7_2, gr7_8]]; rfl)
           | (rw [show isNm s = false by rw [Bool.eq_false_iff]; intro q; exact gr7_8 (hiff.1 q).2.1]; rfl)
           | (rw [show isNm s = false by rw [Bool.eq_false_iff]; intro q; rw [(hiff.1 q).1] at gr7_2; cases gr7_2]; rfl)
      case hend =>
        rintro v m' J1 hle1 ⟨⟨args, ⟨k, tx, n, p, err, b, rfl, _, _, _, hn⟩, rfl⟩, hleT⟩
        refine ⟨_, _, .head _ _ _ _, (fun q => by cases q), ?_⟩
        refine' ⟨.inr rfl, _, _, [_, _], .col (perm_pick 5 rfl (perm_pick 0 rfl (perm_pick 0 rfl (perm_pick 0 rfl (perm_pick 0 rfl (perm_pick 0 rfl .nil)))))) (.nil _), .cell rfl ?m0 (part1 (tAg rfl) ?v0) .nil, ?hsub, ?hpost⟩
        case m0 => exact .tail _ (.head _)
        case v0 => rfl
        case hsub => exact (List.Sublist.refl _).cons _ |>.cons _ |>.cons _
        case hpost => exact ⟨⟨_, _, _, _, rfl, rfl, hn⟩, hleT⟩
end
end Go.Opn
set_option maxRecDepth 100000
set_option linter.unusedVariables false
set_option linter.unusedSimpArgs false
namespace Go.Opn
open Go.Cre Go.RowKit Go.Proofs
section
variable {Q : Worlds Tryz.prog} {g0 : Nat} {J : Jm}
def Req1P (s : List UInt8) (af ta : Nat) (J : Jm) : Value → Mm → Jm → Prop := fun w m' J' => (∃ k tx n p, w = .int .i64 (if isNm s = true then 0 else 3) ∧ m' = [(af, .row [.int .i64 k, .string ⟨⟨tx⟩⟩, .int .i64 n, .int .i64 p] 107), (ta, .row [.int .i64 1, .string ⟨⟨s⟩⟩, .int .i64 0, .int .i64 0] 107)] ∧ (isNm s = true → n = 0)) ∧ J.le J'
theorem require1_fn (hG : Gl g0 J) {s : List UInt8} {af ta : Nat} (hs : s.length ≤ 140737488355328) : Fn (kx Q g0) 73 [.string ⟨⟨s⟩⟩, .func (.func 70) #[] #[.pointer (some ⟨af, 0, none⟩), .pointer (some ⟨ta, 0, none⟩)], .int .i64 3] [(af, .row [.int .i64 0, .string ⟨⟨[]⟩⟩, .int .i64 0, .int .i64 0] 107), (ta, .row [.int .i64 1, .string ⟨⟨s⟩⟩, .int .i64 0, .int .i64 0] 107)] J (Req1P s af ta J) := by
  refine Fn.of_body (ftGet Tryz.func73) rfl rfl fun H => ?_
  refine rg ?_
  refine Sa V.asg ?_
  refine Wn ?_
  refine rg ?_
  refine Sa V.mv ?_
  refine Sa V.mv ?_
  refine' W.step rfl (Exec.call rfl rfl rfl rfl rfl rfl rfl (mi := [_, _]) (mr := []) (.refl _) trivial (single1_fn hG hs) ?_)
  rintro v m' J1 hle ⟨⟨k, tx, n, p, rfl, rfl, hn⟩, hle1⟩
  refine Wn ?_
  refine sq ?_
  first | refine WC.if rfl (fun c9 => ?_) (fun c9 => ?_) | refine WC.cond rfl (fun c9 => ?_) (fun c9 => ?_)
  ·
   refine rg ?_
   refine Sa V.asg ?_
   refine Wn ?_
   refine sq ?_
   refine WC.ret ?_
   refine' ⟨.inr rfl, rfl, _, [_, _], .tmp rfl .nil, List.Sublist.refl _, ⟨⟨_, _, _, _, congrArg (Value.int .i64) (by simp_all), rfl, hn⟩, hle1⟩⟩
  ·
   refine sq ?_
   refine WC.skip ?_
   refine rg ?_
   refine Sa V.mv ?_
   refine Sa V.asg ?_
   refine Wn ?_
   refine sq ?_
   refine WC.ret ?_
   refine' ⟨.inr rfl, rfl, _, [_, _], .tmp rfl .nil, List.Sublist.refl _, ⟨⟨_, _, _, _, congrArg (Value.int .i64) (by simp_all), rfl, hn⟩, hle1⟩⟩
theorem check2_fn {n k p : Int} {tx : List UInt8} {a : Nat} : Fn (kx Q g0) 75 [.int .i64 0, .pointer (some ⟨a, 0, none⟩)] [(a, .row [.int .i64 k, .string ⟨⟨tx⟩⟩, .int .i64 n, .int .i64 p] 107)] J (fun w m' J' => w = .bool (decide (0 = n)) ∧ m' = [] ∧ J' = J) := by
  refine Fn.of_body (ftGet Tryz.func75) rfl rfl fun H => ?_
  refine rg ?_
  refine Sa V.asg ?_
  refine Wn ?_
  refine rg ?_
  refine Sa V.mv ?_
  refine Sa V.fa ?_
  refine Sa V.ld ?_
  refine Sa V.vi ?_
  refine Sa V.asg ?_
  refine Wn ?_
  refine sq ?_
  refine WC.ret ?_
  refine' ⟨.inr rfl, rfl, _, [], .tmp rfl .nil, List.nil_sublist _, ⟨rfl, rfl, rfl⟩⟩
theorem require2_fn {n k p : Int} {tx : List UInt8} {a : Nat} : Fn (kx Q g0) 74 [.int .i64 0, .func (.func 75) #[] #[.pointer (some ⟨a, 0, none⟩)], .int .i64 2] [(a, .row [.int .i64 k, .string ⟨⟨tx⟩⟩, .int .i64 n, .int .i64 p] 107)] J (fun w m' J' => w = .int .i64 (if 0 = n then 0 else 2) ∧ m' = [] ∧ J' = J) := by
  refine Fn.of_body (ftGet Tryz.func74) rfl rfl fun H => ?_
  refine rg ?_
  refine Sa V.asg ?_
  refine Wn ?_
  refine rg ?_
  refine Sa V.mv ?_
  refine Sa V.mv ?_
  refine' W.step rfl (Exec.call rfl rfl rfl rfl rfl rfl rfl (mi := [_]) (mr := []) (.refl _) trivial (check2_fn) ?_)
  rintro v m' J' hle ⟨rfl, rfl, rfl⟩
  refine Wn ?_
  refine sq ?_
  first | refine WC.if rfl (fun c9 => ?_) (fun c9 => ?_) | refine WC.cond rfl (fun c9 => ?_) (fun c9 => ?_)
  ·
   refine rg ?_
   refine Sa V.asg ?_
   refine Wn ?_
   refine sq ?_
   refine WC.ret ?_
   refine' ⟨.inr rfl, rfl, _, [], .tmp rfl .nil, List.nil_sublist _, ⟨congrArg (Value.int .i64) (by repeat (first | rw [if_pos (by assumption)] | rw [if_neg (by assumption)])), rfl, rfl⟩⟩
  ·
   refine sq ?_
   refine WC.skip ?_
   refine rg ?_
   refine Sa V.mv ?_
   refine Sa V.asg ?_
   refine Wn ?_
   refine sq ?_
   refine WC.ret ?_
   refine' ⟨.inr rfl, rfl, _, [], .tmp rfl .nil, List.nil_sublist _, ⟨congrArg (Value.int .i64) (by repeat (first | rw [if_pos (by assumption)] | rw [if_neg (by assumption)])), rfl, rfl⟩⟩
/-- whether a text is a name; memory may have become public -/
def NmP (s : List UInt8) (J : Jm) : Value → Mm → Jm → Prop := fun w m' J' => (∃ e, w = .int .i64 e ∧ (isNm s = true ↔ e = 0)) ∧ m' = [] ∧ J.le J'
theorem check06_fn (hG : Gl g0 J) {s : List UInt8} (hs : s.length ≤ 140737488355328) : Fn (kx Q g0) 49 [.agg #[.int .i64 1, .string ⟨⟨s⟩⟩, .int .i64 0, .int .i64 0]] [] J (NmP s J) := by
  refine Fn.of_body (ftGet Tryz.func49) rfl rfl fun H => ?_
  refine rg ?_
  refine' W.step rfl (.of (x_box rfl rfl rfl rfl rfl rfl fun a1 => ?_))
  refine Sa V.asg ?_
  refine Wn ?_
  refine rg ?_
  refine' W.step rfl (.of (x_alloc rfl rfl rfl (ze107 Q g0) rfl rfl rfl fun a3 => ?_))
  refine Wn ?_
  refine rg ?_
  refine Sa V.fn ?_
  refine Sa V.asg ?_
  refine Wn ?_
  refine rg ?_
  refine Sa V.fa ?_
  refine Sa V.ld ?_
  refine Sa V.mv ?_
  refine' W.step rfl (Exec.call rfl rfl rfl rfl rfl rfl rfl (mi := [_, _]) (mr := []) (.refl _) trivial (require1_fn hG hs) ?_)
  rintro v m' J1 hle ⟨⟨k, tx, n, p, rfl, rfl, hn⟩, hle1⟩
  refine Sa V.asg ?_
  refine Wn ?_
  refine rg ?_
  refine Sa V.mv ?_
  refine Sa V.vi ?_
  refine Wn ?_
  refine sq ?_
  first | refine WC.if rfl (fun c12 => ?_) (fun c12 => ?_) | refine WC.cond rfl (fun c12 => ?_) (fun c12 => ?_)
  ·
   refine rg ?_
   refine Sa V.mv ?_
   refine Sa V.asg ?_
   refine Wn ?_
   refine sq ?_
   refine WC.ret ?_
   refine' ⟨.inr rfl, rfl, _, [], .tmp rfl .nil, List.nil_sublist _, ?_⟩
   refine ⟨⟨_, rfl, ?_⟩, rfl, hle1⟩
   by_cases h : isNm s = true
   · simp_all
   · simp_all
  ·
   refine sq ?_
   refine WC.skip ?_
   refine rg ?_
   refine Sa V.fa ?_
   refine Sa V.ld ?_
   refine Sa V.fn ?_
   refine' W.step rfl (Exec.call rfl rfl rfl rfl rfl rfl rfl (mi := [_]) (mr := [_]) (.refl _) trivial (require2_fn) ?_)
   rintro v m' J2 hle2 ⟨rfl, rfl, rfl⟩
   refine Sa V.asg ?_
   refine Wn ?_
   refine sq ?_
   refine WC.ret ?_
   refine' ⟨.inr rfl, rfl, _, [], .tmp rfl .nil, List.nil_sublist _, ?_⟩
   refine ⟨⟨_, rfl, ?_⟩, rfl, hle1⟩
   by_cases h : isNm s = true
   · simp_all
   · simp_all
theorem isName_fn (hG : Gl g0 J) {s : List UInt8} (hs : s.length ≤ 140737488355328) : Fn (kx Q g0) 22 [.string ⟨⟨s⟩⟩] [] J (fun w m' J' => w = .bool (isNm s) ∧ m' = [] ∧ J.le J') := by
  refine Fn.of_body (ftGet Tryz.func22) rfl rfl fun H => ?_
  refine rg ?_
  refine Sa V.asg ?_
  refine Wn ?_
  refine rg ?_
  refine Sa V.mv ?_
  refine Sa V.bd ?_
  refine' W.step rfl (Exec.call rfl rfl rfl rfl rfl rfl rfl (mi := []) (.refl _) trivial (check06_fn hG hs) ?_)
  rintro v m' J1 hle ⟨⟨e, rfl, hiff⟩, rfl, hle1⟩
  refine Sa V.vi ?_
  refine Sa V.asg ?_
  refine Wn ?_
  refine sq ?_
  refine WC.ret ?_
  refine' ⟨.inr rfl, rfl, _, [], .tmp rfl .nil, List.nil_sublist _, ?_⟩
  refine ⟨congrArg Value.bool ?_, rfl, hle1⟩
  rw [Bool.eq_iff_iff, hiff]; simp
end
end Go.Opn

/- A part of the proof of ProtocolTalks. -/
import Derived.Test.YtobdmheahedahaaGreatDoorWi
import Derived.Test.YtobdmheahedahaaGreatDoorOpnO
set_option maxRecDepth 100000
set_option linter.unusedVariables false
set_option linter.unusedSimpArgs false
namespace Go.Opn
open Go.Cre Go.RowKit Go.Proofs
/-! ### Which lines are valid -/
def rise (k : Int) : Int := if k = 5 then 0 else if k = 4 then 4 else 100
def FormBad (k : Int) (tx : List UInt8) (N : List Int) : Prop := (named k = true ∧ isNm tx = false) ∨ (named k = false ∧ tx ≠ []) ∨ N.length < (counts k).1 ∨ (counts k).2 < N.length ∨ (k = 4 ∧ 4 < N.length ∧ N[1]? ≠ some 3)
instance (k : Int) (tx : List UInt8) (N : List Int) : Decidable (FormBad k tx N) := by unfold FormBad; infer_instance
def RangeBad (k : Int) (N : List Int) : Prop := ∃ (i : Nat) (x : Int), N[i]? = some x ∧ (x < (limits k i).1 ∨ (limits k i).2 < x)
def OrderBad (k : Int) (N : List Int) : Prop := ∃ (i : Nat) (x y : Int), rise k < i ∧ N[i]? = some x ∧ N[i - 1]? = some y ∧ x ≤ y
open Classical in
noncomputable def chk (k : Int) (tx : List UInt8) (N : List Int) : Int := if k < 1 ∨ 11 < k then 7 else if FormBad k tx N then 3 else if RangeBad k N then 2 else if OrderBad k N then 9 else 0
section
variable {k : Int} {tx : List UInt8} {N : List Int}
theorem chk_7 (h : k < 1 ∨ 11 < k) : chk k tx N = 7 := by unfold chk; rw [if_pos h]
theorem chk_3 (h : ¬ (k < 1 ∨ 11 < k)) (hf : FormBad k tx N) : chk k tx N = 3 := by unfold chk; rw [if_neg h, if_pos hf]
theorem chk_2 (h : ¬ (k < 1 ∨ 11 < k)) (hf : ¬ FormBad k tx N) (hr : RangeBad k N) : chk k tx N = 2 := by unfold chk; rw [if_neg h, if_neg hf, if_pos hr]
theorem chk_9 (h : ¬ (k < 1 ∨ 11 < k)) (hf : ¬ FormBad k tx N) (hr : ¬ RangeBad k N) (ho : OrderBad k N) : chk k tx N = 9 := by unfold chk; rw [if_neg h, if_neg hf, if_neg hr, if_pos ho]
theorem chk_0 (h : ¬ (k < 1 ∨ 11 < k)) (hf : ¬ FormBad k tx N) (hr : ¬ RangeBad k N) (ho : ¬ OrderBad k N) : chk k tx N = 0 := by unfold chk; rw [if_neg h, if_neg hf, if_neg hr, if_neg ho]
/-- what a valid line has -/
theorem chk_ok (h : chk k tx N = 0) : ¬ (k < 1 ∨ 11 < k) ∧ ¬ FormBad k tx N ∧ ¬ RangeBad k N ∧ ¬ OrderBad k N := by
  unfold chk at h
  split at h
  · cases h
  · split at h
    · cases h
    · split at h
      · cases h
      · split at h
        · cases h
        · exact ⟨by assumption, by assumption, by assumption, by assumption⟩
end
theorem counts_le (k : Int) : (counts k).2 ≤ 14 := by
  unfold counts
  repeat (split; simp)
  simp
theorem form_mix {k : Int} {tx : List UInt8} {N : List Int} (h : ¬ named k = decide (¬ tx = [])) : FormBad k tx N := by
  unfold FormBad
  cases hn : named k with
  | true =>
    rw [hn] at h
    have : tx = [] := by
      apply Classical.byContradiction; intro q; exact h (by simp [q])
    exact .inl ⟨rfl, by rw [this]; rfl⟩
  | false =>
    rw [hn] at h
    have : tx ≠ [] := by intro q; exact h (by simp [q])
    exact .inr (.inl ⟨rfl, this⟩)
def fr (k : Int) (n : Nat) : Nat := if k = 4 then 4 else if k = 5 then 0 else n
theorem order_iff {k : Int} {tx : List UInt8} {N : List Int} (hf : ¬ FormBad k tx N) : OrderBad k N ↔ ∃ (i : Nat) (x y : Int), fr k N.length < i ∧ N[i]? = some x ∧ N[i - 1]? = some y ∧ x ≤ y := by
  have hlen : N.length ≤ 14 := by
    have h1 := counts_le k
    have : ¬ (counts k).2 < N.length := fun q => hf (.inr (.inr (.inr (.inl q))))
    omega
  unfold OrderBad rise fr
  constructor
  · rintro ⟨i, x, y, h1, h2, h3, h4⟩
    have hi : i < N.length := (List.getElem?_eq_some_iff.1 h2).1
    refine ⟨i, x, y, ?_, h2, h3, h4⟩
    by_cases h5 : k = 5
    · subst h5; simp at h1 ⊢; omega
    · rw [if_neg h5] at h1
      by_cases h4' : k = 4
      · subst h4'; simp at h1 ⊢; omega
      · rw [if_neg h4'] at h1; omega
  · rintro ⟨i, x, y, h1, h2, h3, h4⟩
    have hi : i < N.length := (List.getElem?_eq_some_iff.1 h2).1
    refine ⟨i, x, y, ?_, h2, h3, h4⟩
    by_cases h4' : k = 4
    · subst h4'; simp at h1 ⊢; omega
    · rw [if_neg h4'] at h1
      by_cases h5 : k = 5
      · subst h5; simp at h1 ⊢; omega
      · rw [if_neg h5] at h1; omega
section
variable {Q : Worlds Tryz.prog} {g0 : Nat} {J : Jm}
abbrev lineV (k : Int) (tx : List UInt8) (v : Value) : Value := .agg #[.int .i64 k, .string ⟨⟨tx⟩⟩, v]
theorem rcheck_fn {k : Int} {tx : List UInt8} {N : List Int} {v : Value} (hv : IntsR J v N) (ht : tx.length ≤ 140737488355328) (hN : N.length ≤ 1000000) : Fn (kx Q g0) 19 [lineV k tx v] [] J (Ret (.int .i64 (chk k tx N)) J) := by
  obtain ⟨bv, cv, rfl, _, hra⟩ := hv.inv
  refine Fn.of_body (ftGet Tryz.func19) rfl rfl fun H => ?_
  refine rg ?_
  refine' W.step rfl (.of (x_box rfl rfl rfl rfl rfl rfl fun a1 => ?_))
  refine Sa V.asg ?_
  refine Wn ?_
  refine' WC.weak (l' := [(1, _)]) ⟨rfl, trivial⟩ (List.Sublist.refl _) ?_
  refine sq ?_
  refine' WC.cutK 0 [(17, .bool (decide ((k < 1 ∨ 11 < k))))] ?cr1 ?dr1
  case cr1 =>
   refine WC.region ?_
   refine Sa V.fa ?_
   refine Sa V.ld ?_
   refine Sa V.vi ?_
   refine Sa V.mv ?_
   first | refine W.splitP (d := 13) rfl (fun gr1_3 => ?_) (fun gr1_3 => ?_) | refine W.split (d := 13) rfl (fun gr1_3 => ?_) (fun gr1_3 => ?_)
   ·
    refine Sn ?_
    refine Sn ?_
    refine Sn ?_
    refine Sa V.pk ?_
    refine Wn ?_
    refine' ⟨⟨_, rfl, ⟨?n17, rfl, trivial⟩⟩, List.Sublist.refl _, rfl⟩
    case n17 => first | exact cutT rfl (by first | omega | simp_all) | exact cutF rfl (by first | omega | simp_all) | exact cutI rfl (by first | omega | simp_all) | exact cutB rfl (by simp_all)
   ·
    refine Sb V.fa ?_
    refine Sb V.ld ?_
    refine Sb V.vi ?_
    refine Sa V.pk ?_
    refine Wn ?_
    refine' ⟨⟨_, rfl, ⟨?n17, rfl, trivial⟩⟩, List.Sublist.refl _, rfl⟩
    case n17 => first | exact cutT rfl (by first | omega | simp_all) | exact cutF rfl (by first | omega | simp_all) | exact cutI rfl (by first | omega | simp_all) | exact cutB rfl (by simp_all)
  case dr1 =>
   refine sq ?_
   first | refine WC.if rfl (fun c17 => ?_) (fun c17 => ?_) | refine WC.cond rfl (fun c17 => ?_) (fun c17 => ?_)
   ·
    refine rg ?_
    refine Sa V.asg ?_
    refine Wn ?_
    refine sq ?_
    refine WC.ret ?_
    refine' ⟨.inr rfl, rfl, _, [], .tmp rfl .nil, List.nil_sublist _, ?_⟩
    refine ⟨congrArg (Value.int .i64) ?_, rfl, rfl⟩
    symm
    first
      | exact chk_7 c17
      | exact chk_3 c17 c73
      | exact chk_2 c17 c73 ⟨i, x, hx, c112⟩
      | exact chk_9 c17 c73 hnr ((order_iff c73).2 ⟨q, x, y, hq, hx, by rw [show ((q : Int) - 1).toNat = q - 1 by omega] at hy; exact hy, c133⟩)
      | exact chk_0 c17 c73 hnr (fun hb => by obtain ⟨j, u, w, h1, h2, h3, h4⟩ := (order_iff c73).1 hb; exact hord j u w h1 (by have := (List.getElem?_eq_some_iff.1 h2).1; omega) h2 h3 h4)
   ·
    refine sq ?_
    refine WC.skip ?_
    refine rg ?_
    refine Sa V.fa ?_
    refine Sa V.ld ?_
    refine' W.step rfl (Exec.call rfl rfl rfl rfl rfl rfl rfl (mi := []) (.refl _) trivial (counts_fn) ?_)
    rintro v m' J' hle ⟨rfl, rfl, rfl⟩
    refine Sa V.mv ?_
    refine Sa V.ex ?_
    refine Sa V.ex ?_
    refine Sa V.asg ?_
    refine Sa V.asg ?_
    refine Wn ?_
    refine' WC.weak (l' := [(3, _), (4, _), (1, _)]) ⟨rfl, rfl, rfl, trivial⟩ (List.Sublist.refl _) ?_
    refine sq ?_
    refine' WC.cutK 2 [(73, .bool (decide (FormBad k tx N)))] ?cr4 ?dr4
    case cr4 =>
     refine WC.drawR [(37, [.int .i64 k], .bool (named k)), (38, [.string ⟨⟨tx⟩⟩], .bool (isNm tx))] rfl (by kernel_rfl) (plan := [.val 0, .val 1, .val 3, .val 4, .val 5, .chn 2, .val 6, .val 7, .val 8, .val 9, .chk [5, 4, 3], .chn 10, .val 11, .val 12, .val 13, .chn 14, .val 15, .val 16, .val 17, .val 18, .val 19, .val 20, .val 21, .val 22, .val 23, .val 24, .val 25, .val 26, .val 27, .val 28, .val 29, .val 30, .val 31, .val 32, .val 33, .val 34, .val 35, .val 36, .val 37, .val 38, .val 39, .val 40, .val 41, .val 42, .val 43, .val 44, .val 45, .val 46, .val 47, .val 48, .val 49]) (by kernel_rfl) ?_
     refine Ra rfl V.fa ?_
     refine Ra rfl V.ld ?_
     refine Ra rfl V.fa ?_
     refine Ra rfl V.ld ?_
     refine Ra rfl V.sn ?_
     refine' WR.call rfl rfl rfl rfl rfl rfl rfl rfl rfl rfl (named_fn) ?_
     refine' WR.val rfl rfl rfl rfl (v_boolEq rfl rfl rfl (.inr ⟨rfl, rfl⟩) (by kernel_rfl)) ?_
     refine Ra rfl V.mv ?_
     first | refine WR.splitP (d := 31) rfl (fun gr4_7 => ?_) (fun gr4_7 => ?_) | refine WR.split (d := 31) rfl (fun gr4_7 => ?_) (fun gr4_7 => ?_)
     ·
      refine WR.valN rfl rfl rfl rfl rfl rfl ?_
      refine WR.valN rfl rfl rfl rfl rfl rfl ?_
      refine WR.chk ck ?_
      refine WR.chnN rfl rfl rfl rfl rfl rfl ?_
      refine WR.valN rfl rfl rfl rfl rfl rfl ?_
      refine WR.valU rfl rfl rfl rfl rfl ?_
      refine WR.valU rfl rfl rfl rfl rfl ?_
      refine WR.chnU rfl rfl rfl rfl rfl ?_
      refine WR.valU rfl rfl rfl rfl rfl ?_
      refine WR.valN rfl rfl rfl rfl rfl rfl ?_
      refine Ra rfl V.pk ?_
      refine Ra rfl V.mv ?_
      refine WR.valN rfl rfl rfl rfl rfl rfl ?_
      refine WR.valN rfl rfl rfl rfl rfl rfl ?_
      refine WR.valN rfl rfl rfl rfl rfl rfl ?_
      refine WR.valN rfl rfl rfl rfl rfl rfl ?_
      refine WR.valN rfl rfl rfl rfl rfl rfl ?_
      refine Ra rfl V.pk ?_
      refine Ra rfl V.mv ?_
      refine WR.valN rfl rfl rfl rfl rfl rfl ?_
      refine WR.valN rfl rfl rfl rfl rfl rfl ?_
      refine WR.valN rfl rfl rfl rfl rfl rfl ?_
      refine WR.valN rfl rfl rfl rfl rfl rfl ?_
      refine WR.valN rfl rfl rfl rfl rfl rfl ?_
      refine Ra rfl V.pk ?_
      refine Ra rfl V.mv ?_
      refine WR.valN rfl rfl rfl rfl rfl rfl ?_
      refine WR.valN rfl rfl rfl rfl rfl rfl ?_
      refine WR.valN rfl rfl rfl rfl rfl rfl ?_
      refine WR.valN rfl rfl rfl rfl rfl rfl ?_
      refine WR.valU rfl rfl rfl rfl rfl ?_
      refine WR.valU rfl rfl rfl rfl rfl ?_
      refine WR.valU rfl rfl rfl rfl rfl ?_
      refine WR.valU rfl rfl rfl rfl rfl ?_
      refine WR.valN rfl rfl rfl rfl rfl rfl ?_
      refine WR.valN rfl rfl rfl rfl rfl rfl ?_
      refine WR.valU rfl rfl rfl rfl rfl ?_
      refine WR.valU rfl rfl rfl rfl rfl ?_
      refine WR.valU rfl rfl rfl rfl rfl ?_
      refine WR.valU rfl rfl rfl rfl rfl ?_
      refine WR.valU rfl rfl rfl rfl rfl ?_
      refine WR.valN rfl rfl rfl rfl rfl rfl ?_
      refine Ra rfl V.pk ?_
      refine WR.nil ?_
      refine' ⟨⟨_, rfl, ⟨?n73, rfl, trivial⟩⟩, List.Sublist.refl _, rfl⟩
      case n73 => first | exact cutT rfl (by first | exact form_mix gr4_7 | (unfold FormBad; simp_all; done) | (unfold FormBad; simp_all; omega)) | exact cutF rfl (by first | exact form_mix gr4_7 | (unfold FormBad; simp_all; done) | (unfold FormBad; simp_all; omega)) | exact cutI rfl (by first | exact form_mix gr4_7 | (unfold FormBad; simp_all; done) | (unfold FormBad; simp_all; omega)) | exact cutB rfl (by first | exact form_mix gr4_7 | (unfold FormBad; simp_all; done) | (unfold FormBad; simp_all; omega))
     ·
      refine Rb rfl V.fa ?_
      refine Rb rfl V.ld ?_
      refine WR.chk ck ?_
      refine' WR.callY rfl rfl rfl rfl rfl rfl rfl rfl rfl rfl rfl rfl (named_fn) ?_
      refine Rb rfl V.mv ?_
      first | refine WR.splitP (d := 35) rfl (fun gr4_11 => ?_) (fun gr4_11 => ?_) | refine WR.split (d := 35) rfl (fun gr4_11 => ?_) (fun gr4_11 => ?_)
      ·
       refine Rb rfl V.fa ?_
       refine Rb rfl V.ld ?_
       refine' WR.callY rfl rfl rfl rfl rfl rfl rfl rfl rfl rfl rfl rfl (risName_fn ht) ?_
       refine Rb rfl V.nt ?_
       refine Rb rfl V.pk ?_
       refine Ra rfl V.pk ?_
       refine Ra rfl V.mv ?_
       first | refine WR.splitP (d := 42) rfl (fun gr4_18 => ?_) (fun gr4_18 => ?_) | refine WR.split (d := 42) rfl (fun gr4_18 => ?_) (fun gr4_18 => ?_)
       ·
        refine WR.valN rfl rfl rfl rfl rfl rfl ?_
        refine WR.valN rfl rfl rfl rfl rfl rfl ?_
        refine WR.valN rfl rfl rfl rfl rfl rfl ?_
        refine WR.valN rfl rfl rfl rfl rfl rfl ?_
        refine WR.valN rfl rfl rfl rfl rfl rfl ?_
        refine Ra rfl V.pk ?_
        refine Ra rfl V.mv ?_
        refine WR.valN rfl rfl rfl rfl rfl rfl ?_
        refine WR.valN rfl rfl rfl rfl rfl rfl ?_
        refine WR.valN rfl rfl rfl rfl rfl rfl ?_
        refine WR.valN rfl rfl rfl rfl rfl rfl ?_
        refine WR.valN rfl rfl rfl rfl rfl rfl ?_
        refine Ra rfl V.pk ?_
        refine Ra rfl V.mv ?_
        refine WR.valN rfl rfl rfl rfl rfl rfl ?_
        refine WR.valN rfl rfl rfl rfl rfl rfl ?_
        refine WR.valN rfl rfl rfl rfl rfl rfl ?_
        refine WR.valN rfl rfl rfl rfl rfl rfl ?_
        refine WR.valU rfl rfl rfl rfl rfl ?_
        refine WR.valU rfl rfl rfl rfl rfl ?_
        refine WR.valU rfl rfl rfl rfl rfl ?_
        refine WR.valU rfl rfl rfl rfl rfl ?_
        refine WR.valN rfl rfl rfl rfl rfl rfl ?_
        refine WR.valN rfl rfl rfl rfl rfl rfl ?_
        refine WR.valU rfl rfl rfl rfl rfl ?_
        refine WR.valU rfl rfl rfl rfl rfl ?_
        refine WR.valU rfl rfl rfl rfl rfl ?_
        refine WR.valU rfl rfl rfl rfl rfl ?_
        refine WR.valU rfl rfl rfl rfl rfl ?_
        refine WR.valN rfl rfl rfl rfl rfl rfl ?_
        refine Ra rfl V.pk ?_
        refine WR.nil ?_
        refine' ⟨⟨_, rfl, ⟨?n73, rfl, trivial⟩⟩, List.Sublist.refl _, rfl⟩
        case n73 => first | exact cutT rfl (by first | exact form_mix gr4_7 | (unfold FormBad; simp_all; done) | (unfold FormBad; simp_all; omega)) | exact cutF rfl (by first | exact form_mix gr4_7 | (unfold FormBad; simp_all; done) | (unfold FormBad; simp_all; omega)) | exact cutI rfl (by first | exact form_mix gr4_7 | (unfold FormBad; simp_all; done) | (unfold FormBad; simp_all; omega)) | exact cutB rfl (by first | exact form_mix gr4_7 | (unfold FormBad; simp_all; done) | (unfold FormBad; simp_all; omega))
       ·
        refine Rb rfl V.fa ?_
        refine Rb rfl V.ld ?_
        refine Rb rfl V.ls ?_
        refine Rb rfl V.mv ?_
        refine Rb rfl V.vi ?_
        refine Ra rfl V.pk ?_
        refine Ra rfl V.mv ?_
        first | refine WR.splitP (d := 49) rfl (fun gr4_25 => ?_) (fun gr4_25 => ?_) | refine WR.split (d := 49) rfl (fun gr4_25 => ?_) (fun gr4_25 => ?_)
        ·
         refine WR.valN rfl rfl rfl rfl rfl rfl ?_
         refine WR.valN rfl rfl rfl rfl rfl rfl ?_
         refine WR.valN rfl rfl rfl rfl rfl rfl ?_
         refine WR.valN rfl rfl rfl rfl rfl rfl ?_
         refine WR.valN rfl rfl rfl rfl rfl rfl ?_
         refine Ra rfl V.pk ?_
         refine Ra rfl V.mv ?_
         refine WR.valN rfl rfl rfl rfl rfl rfl ?_
         refine WR.valN rfl rfl rfl rfl rfl rfl ?_
         refine WR.valN rfl rfl rfl rfl rfl rfl ?_
         refine WR.valN rfl rfl rfl rfl rfl rfl ?_
         refine WR.valU rfl rfl rfl rfl rfl ?_
         refine WR.valU rfl rfl rfl rfl rfl ?_
         refine WR.valU rfl rfl rfl rfl rfl ?_
         refine WR.valU rfl rfl rfl rfl rfl ?_
         refine WR.valN rfl rfl rfl rfl rfl rfl ?_
         refine WR.valN rfl rfl rfl rfl rfl rfl ?_
         refine WR.valU rfl rfl rfl rfl rfl ?_
         refine WR.valU rfl rfl rfl rfl rfl ?_
         refine WR.valU rfl rfl rfl rfl rfl ?_
         refine WR.valU rfl rfl rfl rfl rfl ?_
         refine WR.valU rfl rfl rfl rfl rfl ?_
         refine WR.valN rfl rfl rfl rfl rfl rfl ?_
         refine Ra rfl V.pk ?_
         refine WR.nil ?_
         refine' ⟨⟨_, rfl, ⟨?n73, rfl, trivial⟩⟩, List.Sublist.refl _, rfl⟩
         case n73 => first | exact cutT rfl (by first | exact form_mix gr4_7 | (unfold FormBad; simp_all; done) | (unfold FormBad; simp_all; omega)) | exact cutF rfl (by first | exact form_mix gr4_7 | (unfold FormBad; simp_all; done) | (unfold FormBad; simp_all; omega)) | exact cutI rfl (by first | exact form_mix gr4_7 | (unfold FormBad; simp_all; done) | (unfold FormBad; simp_all; omega)) | exact cutB rfl (by first | exact form_mix gr4_7 | (unfold FormBad; simp_all; done) | (unfold FormBad; simp_all; omega))
        ·
         refine Rb rfl V.fa ?_
         refine Rb rfl V.ld ?_
         refine Rb rfl V.ls ?_
         refine Rb rfl V.mv ?_
         refine Rb rfl V.vi ?_
         refine Ra rfl V.pk ?_
         refine Ra rfl V.mv ?_
         first | refine WR.splitP (d := 56) rfl (fun gr4_32 => ?_) (fun gr4_32 => ?_) | refine WR.split (d := 56) rfl (fun gr4_32 => ?_) (fun gr4_32 => ?_)
         ·
          refine WR.valN rfl rfl rfl rfl rfl rfl ?_
          refine WR.valN rfl rfl rfl rfl rfl rfl ?_
          refine WR.valN rfl rfl rfl rfl rfl rfl ?_
          refine WR.valN rfl rfl rfl rfl rfl rfl ?_
          refine WR.valU rfl rfl rfl rfl rfl ?_
          refine WR.valU rfl rfl rfl rfl rfl ?_
          refine WR.valU rfl rfl rfl rfl rfl ?_
          refine WR.valU rfl rfl rfl rfl rfl ?_
          refine WR.valN rfl rfl rfl rfl rfl rfl ?_
          refine WR.valN rfl rfl rfl rfl rfl rfl ?_
          refine WR.valU rfl rfl rfl rfl rfl ?_
          refine WR.valU rfl rfl rfl rfl rfl ?_
          refine WR.valU rfl rfl rfl rfl rfl ?_
          refine WR.valU rfl rfl rfl rfl rfl ?_
          refine WR.valU rfl rfl rfl rfl rfl ?_
          refine WR.valN rfl rfl rfl rfl rfl rfl ?_
          refine Ra rfl V.pk ?_
          refine WR.nil ?_
          refine' ⟨⟨_, rfl, ⟨?n73, rfl, trivial⟩⟩, List.Sublist.refl _, rfl⟩
          case n73 => first | exact cutT rfl (by first | exact form_mix gr4_7 | (unfold FormBad; simp_all; done) | (unfold FormBad; simp_all; omega)) | exact cutF rfl (by first | exact form_mix gr4_7 | (unfold FormBad; simp_all; done) | (unfold FormBad; simp_all; omega)) | exact cutI rfl (by first | exact form_mix gr4_7 | (unfold FormBad; simp_all; done) | (unfold FormBad; simp_all; omega)) | exact cutB rfl (by first | exact form_mix gr4_7 | (unfold FormBad; simp_all; done) | (unfold FormBad; simp_all; omega))
         ·
          refine Rb rfl V.fa ?_
          refine Rb rfl V.ld ?_
          refine Rb rfl V.vi ?_
          refine Rb rfl V.mv ?_
          first | refine WR.splitP (d := 60) rfl (fun gr4_36 => ?_) (fun gr4_36 => ?_) | refine WR.split (d := 60) rfl (fun gr4_36 => ?_) (fun gr4_36 => ?_)
          ·
           refine Rb rfl V.fa ?_
           refine Rb rfl V.ld ?_
           refine Rb rfl V.ls ?_
           refine Rb rfl V.vi ?_
           refine Rb rfl V.pk ?_
           refine Rb rfl V.mv ?_
           first | refine WR.splitP (d := 66) rfl (fun gr4_42 => ?_) (fun gr4_42 => ?_) | refine WR.split (d := 66) rfl (fun gr4_42 => ?_) (fun gr4_42 => ?_)
           ·
            obtain ⟨a, off, cells, e, rfl, hJ, hget⟩ := hra (by omega)
            obtain ⟨x, hx, hnx⟩ := hget 1 (by omega) (by omega)
            refine Rb rfl V.fa ?_
            refine Rb rfl V.ld ?_
            refine Rb rfl V.ix ?_
            refine Rb rfl V.ld ?_
            refine Rb rfl V.vi ?_
            refine Rb rfl V.pk ?_
            refine Ra rfl V.pk ?_
            refine WR.nil ?_
            refine' ⟨⟨_, rfl, ⟨?n73, rfl, trivial⟩⟩, List.Sublist.refl _, rfl⟩
            case n73 => first | exact cutT rfl (by first | exact form_mix gr4_7 | (unfold FormBad; simp_all; done) | (unfold FormBad; simp_all; omega)) | exact cutF rfl (by first | exact form_mix gr4_7 | (unfold FormBad; simp_all; done) | (unfold FormBad; simp_all; omega)) | exact cutI rfl (by first | exact form_mix gr4_7 | (unfold FormBad; simp_all; done) | (unfold FormBad; simp_all; omega)) | exact cutB rfl (by first | exact form_mix gr4_7 | (unfold FormBad; simp_all; done) | (unfold FormBad; simp_all; omega))
           ·
            refine WR.valN rfl rfl rfl rfl rfl rfl ?_
            refine WR.valN rfl rfl rfl rfl rfl rfl ?_
            refine WR.valN rfl rfl rfl rfl rfl rfl ?_
            refine WR.valN rfl rfl rfl rfl rfl rfl ?_
            refine WR.valN rfl rfl rfl rfl rfl rfl ?_
            refine Rb rfl V.pk ?_
            refine Ra rfl V.pk ?_
            refine WR.nil ?_
            refine' ⟨⟨_, rfl, ⟨?n73, rfl, trivial⟩⟩, List.Sublist.refl _, rfl⟩
            case n73 => first | exact cutT rfl (by first | exact form_mix gr4_7 | (unfold FormBad; simp_all; done) | (unfold FormBad; simp_all; omega)) | exact cutF rfl (by first | exact form_mix gr4_7 | (unfold FormBad; simp_all; done) | (unfold FormBad; simp_all; omega)) | exact cutI rfl (by first | exact form_mix gr4_7 | (unfold FormBad; simp_all; done) | (unfold FormBad; simp_all; omega)) | exact cutB rfl (by first | exact form_mix gr4_7 | (unfold FormBad; simp_all; done) | (unfold FormBad; simp_all; omega))
          ·
           refine WR.valN rfl rfl rfl rfl rfl rfl ?_
           refine WR.valN rfl rfl rfl rfl rfl rfl ?_
           refine WR.valN rfl rfl rfl rfl rfl rfl ?_
           refine WR.valN rfl rfl rfl rfl rfl rfl ?_
           refine Rb rfl V.pk ?_
           refine Rb rfl V.mv ?_
           refine WR.valN rfl rfl rfl rfl rfl rfl ?_
           refine WR.valN rfl rfl rfl rfl rfl rfl ?_
           refine WR.valN rfl rfl rfl rfl rfl rfl ?_
           refine WR.valN rfl rfl rfl rfl rfl rfl ?_
           refine WR.valN rfl rfl rfl rfl rfl rfl ?_
           refine Rb rfl V.pk ?_
           refine Ra rfl V.pk ?_
           refine WR.nil ?_
           refine' ⟨⟨_, rfl, ⟨?n73, rfl, trivial⟩⟩, List.Sublist.refl _, rfl⟩
           case n73 => first | exact cutT rfl (by first | exact form_mix gr4_7 | (unfold FormBad; simp_all; done) | (unfold FormBad; simp_all; omega)) | exact cutF rfl (by first | exact form_mix gr4_7 | (unfold FormBad; simp_all; done) | (unfold FormBad; simp_all; omega)) | exact cutI rfl (by first | exact form_mix gr4_7 | (unfold FormBad; simp_all; done) | (unfold FormBad; simp_all; omega)) | exact cutB rfl (by first | exact form_mix gr4_7 | (unfold FormBad; simp_all; done) | (unfold FormBad; simp_all; omega))
      ·
       refine WR.valN rfl rfl rfl rfl rfl rfl ?_
       refine WR.valN rfl rfl rfl rfl rfl rfl ?_
       refine WR.chnN rfl rfl rfl rfl rfl rfl ?_
       refine WR.valN rfl rfl rfl rfl rfl rfl ?_
       refine Rb rfl V.pk ?_
       refine Ra rfl V.pk ?_
       refine Ra rfl V.mv ?_
       refine Rb rfl V.fa ?_
       refine Rb rfl V.ld ?_
       refine Rb rfl V.ls ?_
       refine Rb rfl V.mv ?_
       refine Rb rfl V.vi ?_
       refine Ra rfl V.pk ?_
       refine Ra rfl V.mv ?_
       first | refine WR.splitP (d := 49) rfl (fun gr4_25 => ?_) (fun gr4_25 => ?_) | refine WR.split (d := 49) rfl (fun gr4_25 => ?_) (fun gr4_25 => ?_)
       ·
        refine WR.valN rfl rfl rfl rfl rfl rfl ?_
        refine WR.valN rfl rfl rfl rfl rfl rfl ?_
        refine WR.valN rfl rfl rfl rfl rfl rfl ?_
        refine WR.valN rfl rfl rfl rfl rfl rfl ?_
        refine WR.valN rfl rfl rfl rfl rfl rfl ?_
        refine Ra rfl V.pk ?_
        refine Ra rfl V.mv ?_
        refine WR.valN rfl rfl rfl rfl rfl rfl ?_
        refine WR.valN rfl rfl rfl rfl rfl rfl ?_
        refine WR.valN rfl rfl rfl rfl rfl rfl ?_
        refine WR.valN rfl rfl rfl rfl rfl rfl ?_
        refine WR.valU rfl rfl rfl rfl rfl ?_
        refine WR.valU rfl rfl rfl rfl rfl ?_
        refine WR.valU rfl rfl rfl rfl rfl ?_
        refine WR.valU rfl rfl rfl rfl rfl ?_
        refine WR.valN rfl rfl rfl rfl rfl rfl ?_
        refine WR.valN rfl rfl rfl rfl rfl rfl ?_
        refine WR.valU rfl rfl rfl rfl rfl ?_
        refine WR.valU rfl rfl rfl rfl rfl ?_
        refine WR.valU rfl rfl rfl rfl rfl ?_
        refine WR.valU rfl rfl rfl rfl rfl ?_
        refine WR.valU rfl rfl rfl rfl rfl ?_
        refine WR.valN rfl rfl rfl rfl rfl rfl ?_
        refine Ra rfl V.pk ?_
        refine WR.nil ?_
        refine' ⟨⟨_, rfl, ⟨?n73, rfl, trivial⟩⟩, List.Sublist.refl _, rfl⟩
        case n73 => first | exact cutT rfl (by first | exact form_mix gr4_7 | (unfold FormBad; simp_all; done) | (unfold FormBad; simp_all; omega)) | exact cutF rfl (by first | exact form_mix gr4_7 | (unfold FormBad; simp_all; done) | (unfold FormBad; simp_all; omega)) | exact cutI rfl (by first | exact form_mix gr4_7 | (unfold FormBad; simp_all; done) | (unfold FormBad; simp_all; omega)) | exact cutB rfl (by first | exact form_mix gr4_7 | (unfold FormBad; simp_all; done) | (unfold FormBad; simp_all; omega))
       ·
        refine Rb rfl V.fa ?_
        refine Rb rfl V.ld ?_
        refine Rb rfl V.ls ?_
        refine Rb rfl V.mv ?_
        refine Rb rfl V.vi ?_
        refine Ra rfl V.pk ?_
        refine Ra rfl V.mv ?_
        first | refine WR.splitP (d := 56) rfl (fun gr4_32 => ?_) (fun gr4_32 => ?_) | refine WR.split (d := 56) rfl (fun gr4_32 => ?_) (fun gr4_32 => ?_)
        ·
         refine WR.valN rfl rfl rfl rfl rfl rfl ?_
         refine WR.valN rfl rfl rfl rfl rfl rfl ?_
         refine WR.valN rfl rfl rfl rfl rfl rfl ?_
         refine WR.valN rfl rfl rfl rfl rfl rfl ?_
         refine WR.valU rfl rfl rfl rfl rfl ?_
         refine WR.valU rfl rfl rfl rfl rfl ?_
         refine WR.valU rfl rfl rfl rfl rfl ?_
         refine WR.valU rfl rfl rfl rfl rfl ?_
         refine WR.valN rfl rfl rfl rfl rfl rfl ?_
         refine WR.valN rfl rfl rfl rfl rfl rfl ?_
         refine WR.valU rfl rfl rfl rfl rfl ?_
         refine WR.valU rfl rfl rfl rfl rfl ?_
         refine WR.valU rfl rfl rfl rfl rfl ?_
         refine WR.valU rfl rfl rfl rfl rfl ?_
         refine WR.valU rfl rfl rfl rfl rfl ?_
         refine WR.valN rfl rfl rfl rfl rfl rfl ?_
         refine Ra rfl V.pk ?_
         refine WR.nil ?_
         refine' ⟨⟨_, rfl, ⟨?n73, rfl, trivial⟩⟩, List.Sublist.refl _, rfl⟩
         case n73 => first | exact cutT rfl (by first | exact form_mix gr4_7 | (unfold FormBad; simp_all; done) | (unfold FormBad; simp_all; omega)) | exact cutF rfl (by first | exact form_mix gr4_7 | (unfold FormBad; simp_all; done) | (unfold FormBad; simp_all; omega)) | exact cutI rfl (by first | exact form_mix gr4_7 | (unfold FormBad; simp_all; done) | (unfold FormBad; simp_all; omega)) | exact cutB rfl (by first | exact form_mix gr4_7 | (unfold FormBad; simp_all; done) | (unfold FormBad; simp_all; omega))
        ·
         refine Rb rfl V.fa ?_
         refine Rb rfl V.ld ?_
         refine Rb rfl V.vi ?_
         refine Rb rfl V.mv ?_
         first | refine WR.splitP (d := 60) rfl (fun gr4_36 => ?_) (fun gr4_36 => ?_) | refine WR.split (d := 60) rfl (fun gr4_36 => ?_) (fun gr4_36 => ?_)
         ·
          refine Rb rfl V.fa ?_
          refine Rb rfl V.ld ?_
          refine Rb rfl V.ls ?_
          refine Rb rfl V.vi ?_
          refine Rb rfl V.pk ?_
          refine Rb rfl V.mv ?_
          first | refine WR.splitP (d := 66) rfl (fun gr4_42 => ?_) (fun gr4_42 => ?_) | refine WR.split (d := 66) rfl (fun gr4_42 => ?_) (fun gr4_42 => ?_)
          ·
           obtain ⟨a, off, cells, e, rfl, hJ, hget⟩ := hra (by omega)
           obtain ⟨x, hx, hnx⟩ := hget 1 (by omega) (by omega)
           refine Rb rfl V.fa ?_
           refine Rb rfl V.ld ?_
           refine Rb rfl V.ix ?_
           refine Rb rfl V.ld ?_
           refine Rb rfl V.vi ?_
           refine Rb rfl V.pk ?_
           refine Ra rfl V.pk ?_
           refine WR.nil ?_
           refine' ⟨⟨_, rfl, ⟨?n73, rfl, trivial⟩⟩, List.Sublist.refl _, rfl⟩
           case n73 => first | exact cutT rfl (by first | exact form_mix gr4_7 | (unfold FormBad; simp_all; done) | (unfold FormBad; simp_all; omega)) | exact cutF rfl (by first | exact form_mix gr4_7 | (unfold FormBad; simp_all; done) | (unfold FormBad; simp_all; omega)) | exact cutI rfl (by first | exact form_mix gr4_7 | (unfold FormBad; simp_all; done) | (unfold FormBad; simp_all; omega)) | exact cutB rfl (by first | exact form_mix gr4_7 | (unfold FormBad; simp_all; done) | (unfold FormBad; simp_all; omega))
          ·
           refine WR.valN rfl rfl rfl rfl rfl rfl ?_
           refine WR.valN rfl rfl rfl rfl rfl rfl ?_
           refine WR.valN rfl rfl rfl rfl rfl rfl ?_
           refine WR.valN rfl rfl rfl rfl rfl rfl ?_
           refine WR.valN rfl rfl rfl rfl rfl rfl ?_
           refine Rb rfl V.pk ?_
           refine Ra rfl V.pk ?_
           refine WR.nil ?_
           refine' ⟨⟨_, rfl, ⟨?n73, rfl, trivial⟩⟩, List.Sublist.refl _, rfl⟩
           case n73 => first | exact cutT rfl (by first | exact form_mix gr4_7 | (unfold FormBad; simp_all; done) | (unfold FormBad; simp_all; omega)) | exact cutF rfl (by first | exact form_mix gr4_7 | (unfold FormBad; simp_all; done) | (unfold FormBad; simp_all; omega)) | exact cutI rfl (by first | exact form_mix gr4_7 | (unfold FormBad; simp_all; done) | (unfold FormBad; simp_all; omega)) | exact cutB rfl (by first | exact form_mix gr4_7 | (unfold FormBad; simp_all; done) | (unfold FormBad; simp_all; omega))
         ·
          refine WR.valN rfl rfl rfl rfl rfl rfl ?_
          refine WR.valN rfl rfl rfl rfl rfl rfl ?_
          refine WR.valN rfl rfl rfl rfl rfl rfl ?_
          refine WR.valN rfl rfl rfl rfl rfl rfl ?_
          refine Rb rfl V.pk ?_
          refine Rb rfl V.mv ?_
          refine WR.valN rfl rfl rfl rfl rfl rfl ?_
          refine WR.valN rfl rfl rfl rfl rfl rfl ?_
          refine WR.valN rfl rfl rfl rfl rfl rfl ?_
          refine WR.valN rfl rfl rfl rfl rfl rfl ?_
          refine WR.valN rfl rfl rfl rfl rfl rfl ?_
          refine Rb rfl V.pk ?_
          refine Ra rfl V.pk ?_
          refine WR.nil ?_
          refine' ⟨⟨_, rfl, ⟨?n73, rfl, trivial⟩⟩, List.Sublist.refl _, rfl⟩
          case n73 => first | exact cutT rfl (by first | exact form_mix gr4_7 | (unfold FormBad; simp_all; done) | (unfold FormBad; simp_all; omega)) | exact cutF rfl (by first | exact form_mix gr4_7 | (unfold FormBad; simp_all; done) | (unfold FormBad; simp_all; omega)) | exact cutI rfl (by first | exact form_mix gr4_7 | (unfold FormBad; simp_all; done) | (unfold FormBad; simp_all; omega)) | exact cutB rfl (by first | exact form_mix gr4_7 | (unfold FormBad; simp_all; done) | (unfold FormBad; simp_all; omega))
    case dr4 =>
     refine sq ?_
     first | refine WC.if rfl (fun c73 => ?_) (fun c73 => ?_) | refine WC.cond rfl (fun c73 => ?_) (fun c73 => ?_)
     ·
      refine rg ?_
      refine Sa V.asg ?_
      refine Wn ?_
      refine sq ?_
      refine WC.ret ?_
      refine' ⟨.inr rfl, rfl, _, [], .tmp rfl .nil, List.nil_sublist _, ?_⟩
      refine ⟨congrArg (Value.int .i64) ?_, rfl, rfl⟩
      symm
      first
        | exact chk_7 c17
        | exact chk_3 c17 c73
        | exact chk_2 c17 c73 ⟨i, x, hx, c112⟩
        | exact chk_9 c17 c73 hnr ((order_iff c73).2 ⟨q, x, y, hq, hx, by rw [show ((q : Int) - 1).toNat = q - 1 by omega] at hy; exact hy, c133⟩)
        | exact chk_0 c17 c73 hnr (fun hb => by obtain ⟨j, u, w, h1, h2, h3, h4⟩ := (order_iff c73).1 hb; exact hord j u w h1 (by have := (List.getElem?_eq_some_iff.1 h2).1; omega) h2 h3 h4)
     ·
      refine sq ?_
      refine WC.skip ?_
      refine rg ?_
      refine Sa V.fa ?_
      refine Sa V.ld ?_
      refine Sa V.ls ?_
      refine Sa V.asg ?_
      refine Wn ?_
      refine rg ?_
      refine Sa V.fa ?_
      refine Sa V.ld ?_
      refine Sa V.vi ?_
      refine Wn ?_
      refine' WC.weak (l' := [(5, _), (79, _), (1, _)]) ⟨rfl, rfl, rfl, trivial⟩ (List.Sublist.refl _) ?_
      refine sq ?_
      refine' WC.cutK 2 [(5, .int .i64 (if k = 5 then (0 : Nat) else N.length : Nat))] ?cj79 ?dj79
      case cj79 =>
       first | refine WC.if rfl (fun c79 => ?_) (fun c79 => ?_) | refine WC.cond rfl (fun c79 => ?_) (fun c79 => ?_)
       ·
        refine rg ?_
        refine Sa V.asg ?_
        refine Wn ?_
        refine' ⟨⟨_, rfl, ⟨?n5, rfl, trivial⟩⟩, List.Sublist.refl _, rfl⟩
        case n5 => first | rfl | exact congrArg some (congrArg (Value.int .i64) (by first | omega | simp_all)) | simp_all
       ·
        refine sq ?_
        refine WC.skip ?_
        refine' ⟨⟨_, rfl, ⟨?n5, rfl, trivial⟩⟩, List.Sublist.refl _, rfl⟩
        case n5 => first | rfl | exact congrArg some (congrArg (Value.int .i64) (by first | omega | simp_all)) | simp_all
      case dj79 =>
       refine rg ?_
       refine Sa V.fa ?_
       refine Sa V.ld ?_
       refine Sa V.vi ?_
       refine Wn ?_
       refine' WC.weak (l' := [(5, _), (82, _), (1, _)]) ⟨rfl, rfl, rfl, trivial⟩ (List.Sublist.refl _) ?_
       refine sq ?_
       refine' WC.cutK 2 [(5, .int .i64 (fr k N.length : Nat))] ?cj82 ?dj82
       case cj82 =>
        first | refine WC.if rfl (fun c82 => ?_) (fun c82 => ?_) | refine WC.cond rfl (fun c82 => ?_) (fun c82 => ?_)
        ·
         refine rg ?_
         refine Sa V.asg ?_
         refine Wn ?_
         refine' ⟨⟨_, rfl, ⟨?n5, rfl, trivial⟩⟩, List.Sublist.refl _, rfl⟩
         case n5 => exact congrArg some (congrArg (Value.int .i64) (by unfold fr; simp_all))
        ·
         refine sq ?_
         refine WC.skip ?_
         refine' ⟨⟨_, rfl, ⟨?n5, rfl, trivial⟩⟩, List.Sublist.refl _, rfl⟩
         case n5 => exact congrArg some (congrArg (Value.int .i64) (by unfold fr; simp_all))
       case dj82 =>
        refine rg ?_
        refine Sa V.asg ?_
        refine Wn ?_
        refine sq ?_
        refine WC.block ?_
        refine' WC.weak (l' := [(6, .int .i64 ((0) : Int)), (1, _), (5, _)]) ⟨?w6, rfl, rfl, trivial⟩ (List.Sublist.refl _) ?_
        case w6 => first | rfl | exact congrArg some (congrArg (Value.int .i64) (by omega))
        refine sq ?_
        refine' WC.loopC (α := (Nat)) (fun (i : Nat) => [(6, .int .i64 (i : Int))]) (fun (i : Nat) => i ≤ N.length ∧ ∀ j x, j < i → N[j]? = some x → ¬ (x < (limits k j).1 ∨ (limits k j).2 < x)) (fun (i : Nat) => N.length - i) (0) ?hs ?hstep
        case hs => exact ⟨by omega, fun j x hj => absurd hj (by omega)⟩
        case hstep =>
         rintro i hinv
         try simp only at hinv
         obtain ⟨hi, hok⟩ := hinv
         refine rg ?_
         refine Sa V.mv ?_
         refine Sa V.fa ?_
         refine Sa V.ld ?_
         refine Sa V.ls ?_
         refine Sa V.vi ?_
         refine Wn ?_
         refine sq ?_
         first | refine WC.if rfl (fun c87 => ?_) (fun c87 => ?_) | refine WC.cond rfl (fun c87 => ?_) (fun c87 => ?_)
         ·
          obtain ⟨a, off, cells, e, rfl, hJ, hget⟩ := hra (by omega)
          obtain ⟨x, hx, hnx⟩ := hget i (by omega) (by omega)
          refine sq ?_
          refine WC.skip ?_
          refine sq ?_
          refine WC.block ?_
          refine rg ?_
          refine Sa V.fa ?_
          refine Sa V.ld ?_
          refine Sa V.mv ?_
          refine' W.step rfl (Exec.call rfl rfl rfl rfl rfl rfl rfl (mi := []) (.refl _) trivial (limits_fn) ?_)
          rintro v m' J' hle ⟨rfl, rfl, rfl⟩
          refine Sa V.mv ?_
          refine Sa V.ex ?_
          refine Sa V.ex ?_
          refine Sa V.asg ?_
          refine Sa V.asg ?_
          refine Wn ?_
          refine' WC.weak (l' := [(7, _), (8, _), (1, _), (5, _), (6, _)]) ⟨rfl, rfl, rfl, rfl, rfl, trivial⟩ (List.Sublist.refl _) ?_
          refine sq ?_
          refine' WC.cutK 2 [(112, .bool (decide ((x < (limits k i).1 ∨ (limits k i).2 < x))))] ?cr15 ?dr15
          case cr15 =>
           refine WC.region ?_
           refine Sa V.fa ?_
           refine Sa V.ld ?_
           refine Sa V.mv ?_
           refine Sa V.ix ?_
           refine Sa V.ld ?_
           refine Sa V.mv ?_
           refine Sa V.vi ?_
           refine Sa V.mv ?_
           first | refine W.splitP (d := 104) rfl (fun gr15_7 => ?_) (fun gr15_7 => ?_) | refine W.split (d := 104) rfl (fun gr15_7 => ?_) (fun gr15_7 => ?_)
           ·
            refine Sn ?_
            refine Sn ?_
            refine Sn ?_
            refine Sn ?_
            refine Sn ?_
            refine Sn ?_
            refine Sn ?_
            refine Sa V.pk ?_
            refine Wn ?_
            refine' ⟨⟨_, rfl, ⟨?n112, rfl, rfl, rfl, trivial⟩⟩, List.Sublist.refl _, rfl⟩
            case n112 => first | exact cutT rfl (by first | omega | simp_all) | exact cutF rfl (by first | omega | simp_all) | exact cutI rfl (by first | omega | simp_all) | exact cutB rfl (by simp_all)
           ·
            refine Sb V.fa ?_
            refine Sb V.ld ?_
            refine Sb V.mv ?_
            refine Sb V.ix ?_
            refine Sb V.ld ?_
            refine Sb V.mv ?_
            refine Sb V.vi ?_
            refine Sa V.pk ?_
            refine Wn ?_
            refine' ⟨⟨_, rfl, ⟨?n112, rfl, rfl, rfl, trivial⟩⟩, List.Sublist.refl _, rfl⟩
            case n112 => first | exact cutT rfl (by first | omega | simp_all) | exact cutF rfl (by first | omega | simp_all) | exact cutI rfl (by first | omega | simp_all) | exact cutB rfl (by simp_all)
          case dr15 =>
           refine sq ?_
           first | refine WC.if rfl (fun c112 => ?_) (fun c112 => ?_) | refine WC.cond rfl (fun c112 => ?_) (fun c112 => ?_)
           ·
            refine rg ?_
            refine Sa V.asg ?_
            refine Wn ?_
            refine sq ?_
            refine WC.ret ?_
            refine' ⟨.inr rfl, rfl, _, [], .tmp rfl .nil, List.nil_sublist _, ?_⟩
            refine ⟨congrArg (Value.int .i64) ?_, rfl, rfl⟩
            symm
            first
              | exact chk_7 c17
              | exact chk_3 c17 c73
              | exact chk_2 c17 c73 ⟨i, x, hx, c112⟩
              | exact chk_9 c17 c73 hnr ((order_iff c73).2 ⟨q, x, y, hq, hx, by rw [show ((q : Int) - 1).toNat = q - 1 by omega] at hy; exact hy, c133⟩)
              | exact chk_0 c17 c73 hnr (fun hb => by obtain ⟨j, u, w, h1, h2, h3, h4⟩ := (order_iff c73).1 hb; exact hord j u w h1 (by have := (List.getElem?_eq_some_iff.1 h2).1; omega) h2 h3 h4)
           ·
            refine sq ?_
            refine WC.skip ?_
            refine rg ?_
            refine Sa V.mv ?_
            refine Sa V.va ?_
            refine Sa V.asg ?_
            refine Wn ?_
            refine' ⟨(i + 1), _, ?hinv, ?hmeas, rfl, ⟨?m6, rfl, rfl, trivial⟩, List.Sublist.refl _, rfl⟩
            case m6 => first | rfl | exact congrArg some (congrArg (Value.int .i64) (by omega))
            case hmeas => first | omega | (simp only; omega)
            case hinv => exact ⟨by omega, fun j y hj hy => by rcases Nat.lt_or_ge j i with q | q; exact hok j y q hy; obtain rfl : j = i := (by omega); simp only [Int.toNat_natCast] at hx; rw [hx] at hy; injection hy with hy; rw [← hy]; exact c112⟩
         ·
          have hnr : ¬ RangeBad k N := by rintro ⟨j, y, hy, hb⟩; exact hok j y (by have := (List.getElem?_eq_some_iff.1 hy).1; omega) hy hb
          have hfr : fr k N.length ≤ 1000004 := by unfold fr; split; omega; split <;> omega
          refine sq ?_
          refine WC.exit ?_
          refine rg ?_
          refine Sa V.mv ?_
          refine Sa V.va ?_
          refine Sa V.asg ?_
          refine Wn ?_
          refine sq ?_
          refine WC.block ?_
          refine' WC.weak (l' := [(9, .int .i64 ((fr k N.length + 1) : Int)), (1, _)]) ⟨?w9, rfl, trivial⟩ (List.Sublist.refl _) ?_
          case w9 => first | rfl | exact congrArg some (congrArg (Value.int .i64) (by omega))
          refine sq ?_
          refine' WC.loopC (α := (Nat)) (fun (q : Nat) => [(9, .int .i64 (q : Int))]) (fun (q : Nat) => fr k N.length < q ∧ ∀ (j : Nat) (x y : Int), fr k N.length < j → j < q → N[j]? = some x → N[j - 1]? = some y → ¬ x ≤ y) (fun (q : Nat) => N.length - q) (fr k N.length + 1) ?hs ?hstep
          case hs => exact ⟨by omega, fun j x y h1 h2 => absurd h2 (by omega)⟩
          case hstep =>
           rintro q hinv
           try simp only at hinv
           obtain ⟨hq, hord⟩ := hinv
           refine rg ?_
           refine Sa V.mv ?_
           refine Sa V.fa ?_
           refine Sa V.ld ?_
           refine Sa V.ls ?_
           refine Sa V.vi ?_
           refine Wn ?_
           refine sq ?_
           first | refine WC.if rfl (fun c119 => ?_) (fun c119 => ?_) | refine WC.cond rfl (fun c119 => ?_) (fun c119 => ?_)
           ·
            obtain ⟨a, off, cells, e, rfl, hJ, hget⟩ := hra (by omega)
            obtain ⟨x, hx, hnx⟩ := hget q (by omega) (by omega)
            obtain ⟨y, hy, hny⟩ := hget ((q : Int) - 1) (by omega) (by omega)
            refine sq ?_
            refine WC.skip ?_
            refine sq ?_
            refine WC.block ?_
            refine sq ?_
            refine WC.draw rfl (by kernel_rfl) (plan := [.val 0, .val 1, .val 2, .val 3, .val 4, .val 5, .val 6, .val 7, .val 8, .val 9, .val 10, .val 11]) (by kernel_rfl) ?_
            refine Da rfl V.fa ?_
            refine Da rfl V.ld ?_
            refine Da rfl V.mv ?_
            refine Da rfl V.ix ?_
            refine Da rfl V.ld ?_
            refine Da rfl V.fa ?_
            refine Da rfl V.ld ?_
            refine Da rfl V.mv ?_
            refine Da rfl V.va ?_
            refine Da rfl V.ix ?_
            refine Da rfl V.ld ?_
            refine Da rfl V.vi ?_
            refine WD.nil ?_
            refine sq ?_
            first | refine WC.if rfl (fun c133 => ?_) (fun c133 => ?_) | refine WC.cond rfl (fun c133 => ?_) (fun c133 => ?_)
            ·
             refine rg ?_
             refine Sa V.asg ?_
             refine Wn ?_
             refine sq ?_
             refine WC.ret ?_
             refine' ⟨.inr rfl, rfl, _, [], .tmp rfl .nil, List.nil_sublist _, ?_⟩
             refine ⟨congrArg (Value.int .i64) ?_, rfl, rfl⟩
             symm
             first
               | exact chk_7 c17
               | exact chk_3 c17 c73
               | exact chk_2 c17 c73 ⟨i, x, hx, c112⟩
               | exact chk_9 c17 c73 hnr ((order_iff c73).2 ⟨q, x, y, hq, hx, by rw [show ((q : Int) - 1).toNat = q - 1 by omega] at hy; exact hy, c133⟩)
               | exact chk_0 c17 c73 hnr (fun hb => by obtain ⟨j, u, w, h1, h2, h3, h4⟩ := (order_iff c73).1 hb; exact hord j u w h1 (by have := (List.getElem?_eq_some_iff.1 h2).1; omega) h2 h3 h4)
            ·
             refine sq ?_
             refine WC.skip ?_
             refine rg ?_
             refine Sa V.mv ?_
             refine Sa V.va ?_
             refine Sa V.asg ?_
             refine Wn ?_
             refine' ⟨(q + 1), _, ?hinv, ?hmeas, rfl, ⟨?m9, rfl, trivial⟩, List.Sublist.refl _, rfl⟩
             case m9 => first | rfl | exact congrArg some (congrArg (Value.int .i64) (by omega))
             case hmeas => first | omega | (simp only; omega)
             case hinv => exact ⟨by omega, fun j u w h1 h2 h3 h4 => by rcases Nat.lt_or_ge j q with r | r; exact hord j u w h1 r h3 h4; obtain rfl : j = q := (by omega); simp only [Int.toNat_natCast] at hx; rw [hx] at h3; rw [show ((j : Int) - 1).toNat = j - 1 by omega] at hy; rw [hy] at h4; injection h3 with h3; injection h4 with h4; rw [← h3, ← h4]; exact c133⟩
           ·
            refine sq ?_
            refine WC.exit ?_
            refine rg ?_
            refine Sa V.asg ?_
            refine Wn ?_
            refine sq ?_
            refine WC.ret ?_
            refine' ⟨.inr rfl, rfl, _, [], .tmp rfl .nil, List.nil_sublist _, ?_⟩
            refine ⟨congrArg (Value.int .i64) ?_, rfl, rfl⟩
            symm
            first
              | exact chk_7 c17
              | exact chk_3 c17 c73
              | exact chk_2 c17 c73 ⟨i, x, hx, c112⟩
              | exact chk_9 c17 c73 hnr ((order_iff c73).2 ⟨q, x, y, hq, hx, by rw [show ((q : Int) - 1).toNat = q - 1 by omega] at hy; exact hy, c133⟩)
              | exact chk_0 c17 c73 hnr (fun hb => by obtain ⟨j, u, w, h1, h2, h3, h4⟩ := (order_iff c73).1 hb; exact hord j u w h1 (by have := (List.getElem?_eq_some_iff.1 h2).1; omega) h2 h3 h4)
end
end Go.Opn

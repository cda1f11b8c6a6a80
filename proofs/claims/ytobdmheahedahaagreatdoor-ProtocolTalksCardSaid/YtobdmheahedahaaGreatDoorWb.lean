/- A part of the proof of ProtocolTalks. -/
import Derived.Test.YtobdmheahedahaaGreatDoorWa
set_option maxRecDepth 100000
set_option linter.unusedVariables false
set_option linter.unusedSimpArgs false
namespace Go.Opn
open Go.Cre Go.RowKit Go.Proofs
section
variable {Q : Worlds Tryz.prog} {g0 : Nat} {J : Jm}
def blanksL : List Bool := [false, false, false, false, false, false, false, false, false, true, true, false, false, false, false, false, false, false, false, false, false, false, false, false, false, false, false, false, false, false, false, false, true]
def signsL : List Bool := [false, false, false, false, false, false, false, false, false, false, false, false, false, false, false, false, false, false, false, false, false, false, false, false, false, false, false, false, false, false, false, false, false, true, false, false, false, true, false, false, true, true, true, true, true, true, true, true, false, false, false, false, false, false, false, false, false, false, true, true, true, true, true, false, false, false, false, false, false, false, false, false, false, false, false, false, false, false, false, false, false, false, false, false, false, false, false, false, false, false, false, false, false, false, false, false, false, false, false, false, false, false, false, false, false, false, false, false, false, false, false, false, false, false, false, false, false, false, false, false, false, false, false, true, false, true]
structure Gl (g0 : Nat) (J : Jm) : Prop where
  g1 : Nat.blt 1 g0 = true
  g2 : Nat.blt 2 g0 = true
  b : ∃ e, J 1 = some (blanksL.map Value.bool, e)
  s : ∃ e, J 2 = some (signsL.map Value.bool, e)
theorem Gl.mono {J' : Jm} (h : Gl g0 J) (hle : J.le J') : Gl g0 J' := ⟨h.g1, h.g2, h.b.imp fun _ q => hle _ _ q, h.s.imp fun _ q => hle _ _ q⟩
abbrev isBlank (c : Nat) : Prop := c = 9 ∨ c = 10 ∨ c = 32
abbrev isLetter (c : Nat) : Prop := 97 ≤ c ∧ c ≤ 122 ∨ 65 ≤ c ∧ c ≤ 90 ∨ c = 95
abbrev isDigit (c : Nat) : Prop := 48 ≤ c ∧ c ≤ 57
abbrev isSign (c : Nat) : Prop := signsL[c]? = some true
def cls (c : Nat) : Int := if isBlank c then 1 else if isLetter c then 2 else if isDigit c then 3 else if isSign c then 4 else 0
theorem tab_at {l : List Bool} {c : Nat} {b : Bool} (h : l[c]? = some b) : nth (l.map Value.bool) (0 + ((c : Nat) : Int).toNat * 1) = some (.bool b) := by
  rw [nth_eq, List.getElem?_map]; simp [h]
theorem blank_tab : ∀ c, c < 33 → blanksL[c]? = some (decide (isBlank c)) := by decide
theorem sign_tab : ∀ c, c < 126 → signsL[c]? = some (decide (isSign c)) := by decide
theorem classOf_fn (hG : Gl g0 J) {c : Nat} (hc : c < 256) : Fn (kx Q g0) 74 [.int .u8 c] [] J (Ret (.int .i64 (cls c)) J) := by
  obtain ⟨g1, g2, ⟨eb, hb⟩, ⟨es, hs⟩⟩ := hG
  refine Fn.of_body (ftGet Tryz.func74) rfl rfl fun H => ?_
  refine rg ?_
  refine Sa V.asg ?_
  refine Wn ?_
  refine sq ?_
  refine WC.block ?_
  refine' WC.weak (l' := [(0, _)]) ⟨rfl, trivial⟩ (List.Sublist.refl _) ?_
  refine sq ?_
  refine' WC.cutK 0 [(3, .bool (decide (isBlank c)))] ?cr1 ?dr1
  case cr1 =>
   refine WC.region ?_
   refine Sa V.mv ?_
   refine Sa V.cv ?_
   refine Sa V.vi ?_
   refine Sa V.mv ?_
   first | refine W.splitP (d := 7) rfl (fun gr1_3 => ?_) (fun gr1_3 => ?_) | refine W.split (d := 7) rfl (fun gr1_3 => ?_) (fun gr1_3 => ?_)
   ·
    have hv9 := tab_at (blank_tab c (by omega))
    refine Sb V.mv ?_
    refine' W.guardY rfl rfl rfl (Exec.val rfl rfl (v_indexGlob rfl ?hg ?hJ rfl (tAr rfl) ?h0 ?h1) ?_)
    case hJ => assumption
    case hg => assumption
    case h0 => first | omega | (simp; omega)
    case h1 => first | omega | (simp; omega)
    refine Sb V.ld ?_
    refine Sa V.pk ?_
    refine Sa V.asg ?_
    refine Wn ?_
    refine' ⟨⟨_, rfl, ⟨?n3, rfl, trivial⟩⟩, List.Sublist.refl _, rfl⟩
    case n3 => first | exact cutT rfl (by first | omega | (intro q; omega) | exact Iff.rfl) | exact cutF rfl (by first | omega | (intro q; omega) | exact Iff.rfl) | exact cutI rfl (by first | omega | (intro q; omega) | exact Iff.rfl) | exact cutB rfl (by first | omega | (intro q; omega) | exact Iff.rfl)
   ·
    refine Sn ?_
    refine W.guardN rfl rfl rfl rfl rfl ?_
    refine Sn ?_
    refine Sa V.pk ?_
    refine Sa V.asg ?_
    refine Wn ?_
    refine' ⟨⟨_, rfl, ⟨?n3, rfl, trivial⟩⟩, List.Sublist.refl _, rfl⟩
    case n3 => first | exact cutT rfl (by first | omega | (intro q; omega) | exact Iff.rfl) | exact cutF rfl (by first | omega | (intro q; omega) | exact Iff.rfl) | exact cutI rfl (by first | omega | (intro q; omega) | exact Iff.rfl) | exact cutB rfl (by first | omega | (intro q; omega) | exact Iff.rfl)
  case dr1 =>
   refine sq ?_
   first | refine WC.if rfl (fun c3 => ?_) (fun c3 => ?_) | refine WC.cond rfl (fun c3 => ?_) (fun c3 => ?_)
   ·
    refine rg ?_
    refine Sa V.asg ?_
    refine Wn ?_
    refine sq ?_
    refine WC.ret ?_
    refine' ⟨.inr rfl, rfl, _, [], .tmp rfl .nil, List.nil_sublist _, ?_⟩
    (refine ⟨congrArg (Value.int .i64) ?_, rfl, rfl⟩; unfold cls; repeat (first | rw [if_pos (by assumption)] | rw [if_neg (by assumption)]))
   ·
    refine' WC.weak (l' := [(0, _)]) ⟨rfl, trivial⟩ (List.Sublist.refl _) ?_
    refine sq ?_
    refine' WC.cutK 0 [(12, .bool (decide (isLetter c)))] ?cr3 ?dr3
    case cr3 =>
     refine WC.region ?_
     refine Sa V.mv ?_
     refine Sa V.vi ?_
     refine Sa V.mv ?_
     first | refine W.splitP (d := 15) rfl (fun gr3_2 => ?_) (fun gr3_2 => ?_) | refine W.split (d := 15) rfl (fun gr3_2 => ?_) (fun gr3_2 => ?_)
     ·
      refine Sb V.mv ?_
      refine Sb V.vi ?_
      refine Sa V.pk ?_
      refine Sa V.mv ?_
      first | refine W.splitP (d := 19) rfl (fun gr3_6 => ?_) (fun gr3_6 => ?_) | refine W.split (d := 19) rfl (fun gr3_6 => ?_) (fun gr3_6 => ?_)
      ·
       refine Sn ?_
       refine Sn ?_
       refine Sn ?_
       refine Su ?_
       refine Su ?_
       refine Sn ?_
       refine Sa V.pk ?_
       refine Sa V.mv ?_
       refine Sn ?_
       refine Sn ?_
       refine Sa V.pk ?_
       refine Sa V.asg ?_
       refine Wn ?_
       refine' ⟨⟨_, rfl, ⟨?n12, rfl, trivial⟩⟩, List.Sublist.refl _, rfl⟩
       case n12 => first | exact cutT rfl (by first | omega | exact Iff.rfl) | exact cutF rfl (by first | omega | exact Iff.rfl) | exact cutI rfl (by first | omega | exact Iff.rfl) | exact cutB rfl (by first | omega | exact Iff.rfl)
      ·
       refine Sb V.mv ?_
       refine Sb V.vi ?_
       refine Sb V.mv ?_
       first | refine W.splitP (d := 22) rfl (fun gr3_9 => ?_) (fun gr3_9 => ?_) | refine W.split (d := 22) rfl (fun gr3_9 => ?_) (fun gr3_9 => ?_)
       ·
        refine Sb V.mv ?_
        refine Sb V.vi ?_
        refine Sb V.pk ?_
        refine Sa V.pk ?_
        refine Sa V.mv ?_
        first | refine W.splitP (d := 27) rfl (fun gr3_14 => ?_) (fun gr3_14 => ?_) | refine W.split (d := 27) rfl (fun gr3_14 => ?_) (fun gr3_14 => ?_)
        ·
         refine Sn ?_
         refine Sn ?_
         refine Sa V.pk ?_
         refine Sa V.asg ?_
         refine Wn ?_
         refine' ⟨⟨_, rfl, ⟨?n12, rfl, trivial⟩⟩, List.Sublist.refl _, rfl⟩
         case n12 => first | exact cutT rfl (by first | omega | exact Iff.rfl) | exact cutF rfl (by first | omega | exact Iff.rfl) | exact cutI rfl (by first | omega | exact Iff.rfl) | exact cutB rfl (by first | omega | exact Iff.rfl)
        ·
         refine Sb V.mv ?_
         refine Sb V.vi ?_
         refine Sa V.pk ?_
         refine Sa V.asg ?_
         refine Wn ?_
         refine' ⟨⟨_, rfl, ⟨?n12, rfl, trivial⟩⟩, List.Sublist.refl _, rfl⟩
         case n12 => first | exact cutT rfl (by first | omega | exact Iff.rfl) | exact cutF rfl (by first | omega | exact Iff.rfl) | exact cutI rfl (by first | omega | exact Iff.rfl) | exact cutB rfl (by first | omega | exact Iff.rfl)
       ·
        refine Sn ?_
        refine Sn ?_
        refine Sb V.pk ?_
        refine Sa V.pk ?_
        refine Sa V.mv ?_
        refine Sb V.mv ?_
        refine Sb V.vi ?_
        refine Sa V.pk ?_
        refine Sa V.asg ?_
        refine Wn ?_
        refine' ⟨⟨_, rfl, ⟨?n12, rfl, trivial⟩⟩, List.Sublist.refl _, rfl⟩
        case n12 => first | exact cutT rfl (by first | omega | exact Iff.rfl) | exact cutF rfl (by first | omega | exact Iff.rfl) | exact cutI rfl (by first | omega | exact Iff.rfl) | exact cutB rfl (by first | omega | exact Iff.rfl)
     ·
      refine Sn ?_
      refine Sn ?_
      refine Sa V.pk ?_
      refine Sa V.mv ?_
      refine Sb V.mv ?_
      refine Sb V.vi ?_
      refine Sb V.mv ?_
      first | refine W.splitP (d := 22) rfl (fun gr3_9 => ?_) (fun gr3_9 => ?_) | refine W.split (d := 22) rfl (fun gr3_9 => ?_) (fun gr3_9 => ?_)
      ·
       refine Sb V.mv ?_
       refine Sb V.vi ?_
       refine Sb V.pk ?_
       refine Sa V.pk ?_
       refine Sa V.mv ?_
       first | refine W.splitP (d := 27) rfl (fun gr3_14 => ?_) (fun gr3_14 => ?_) | refine W.split (d := 27) rfl (fun gr3_14 => ?_) (fun gr3_14 => ?_)
       ·
        refine Sn ?_
        refine Sn ?_
        refine Sa V.pk ?_
        refine Sa V.asg ?_
        refine Wn ?_
        refine' ⟨⟨_, rfl, ⟨?n12, rfl, trivial⟩⟩, List.Sublist.refl _, rfl⟩
        case n12 => first | exact cutT rfl (by first | omega | exact Iff.rfl) | exact cutF rfl (by first | omega | exact Iff.rfl) | exact cutI rfl (by first | omega | exact Iff.rfl) | exact cutB rfl (by first | omega | exact Iff.rfl)
       ·
        refine Sb V.mv ?_
        refine Sb V.vi ?_
        refine Sa V.pk ?_
        refine Sa V.asg ?_
        refine Wn ?_
        refine' ⟨⟨_, rfl, ⟨?n12, rfl, trivial⟩⟩, List.Sublist.refl _, rfl⟩
        case n12 => first | exact cutT rfl (by first | omega | exact Iff.rfl) | exact cutF rfl (by first | omega | exact Iff.rfl) | exact cutI rfl (by first | omega | exact Iff.rfl) | exact cutB rfl (by first | omega | exact Iff.rfl)
      ·
       refine Sn ?_
       refine Sn ?_
       refine Sb V.pk ?_
       refine Sa V.pk ?_
       refine Sa V.mv ?_
       refine Sb V.mv ?_
       refine Sb V.vi ?_
       refine Sa V.pk ?_
       refine Sa V.asg ?_
       refine Wn ?_
       refine' ⟨⟨_, rfl, ⟨?n12, rfl, trivial⟩⟩, List.Sublist.refl _, rfl⟩
       case n12 => first | exact cutT rfl (by first | omega | exact Iff.rfl) | exact cutF rfl (by first | omega | exact Iff.rfl) | exact cutI rfl (by first | omega | exact Iff.rfl) | exact cutB rfl (by first | omega | exact Iff.rfl)
    case dr3 =>
     refine sq ?_
     first | refine WC.if rfl (fun c12 => ?_) (fun c12 => ?_) | refine WC.cond rfl (fun c12 => ?_) (fun c12 => ?_)
     ·
      refine rg ?_
      refine Sa V.asg ?_
      refine Wn ?_
      refine sq ?_
      refine WC.ret ?_
      refine' ⟨.inr rfl, rfl, _, [], .tmp rfl .nil, List.nil_sublist _, ?_⟩
      (refine ⟨congrArg (Value.int .i64) ?_, rfl, rfl⟩; unfold cls; repeat (first | rw [if_pos (by assumption)] | rw [if_neg (by assumption)]))
     ·
      refine' WC.weak (l' := [(0, _)]) ⟨rfl, trivial⟩ (List.Sublist.refl _) ?_
      refine sq ?_
      refine' WC.cutK 0 [(31, .bool (decide (isDigit c)))] ?cr5 ?dr5
      case cr5 =>
       refine WC.region ?_
       refine Sa V.mv ?_
       refine Sa V.vi ?_
       refine Sa V.mv ?_
       first | refine W.splitP (d := 34) rfl (fun gr5_2 => ?_) (fun gr5_2 => ?_) | refine W.split (d := 34) rfl (fun gr5_2 => ?_) (fun gr5_2 => ?_)
       ·
        refine Sb V.mv ?_
        refine Sb V.vi ?_
        refine Sa V.pk ?_
        refine Sa V.asg ?_
        refine Wn ?_
        refine' ⟨⟨_, rfl, ⟨?n31, rfl, trivial⟩⟩, List.Sublist.refl _, rfl⟩
        case n31 => first | exact cutT rfl (by first | omega | exact Iff.rfl) | exact cutF rfl (by first | omega | exact Iff.rfl) | exact cutI rfl (by first | omega | exact Iff.rfl) | exact cutB rfl (by first | omega | exact Iff.rfl)
       ·
        refine Sn ?_
        refine Sn ?_
        refine Sa V.pk ?_
        refine Sa V.asg ?_
        refine Wn ?_
        refine' ⟨⟨_, rfl, ⟨?n31, rfl, trivial⟩⟩, List.Sublist.refl _, rfl⟩
        case n31 => first | exact cutT rfl (by first | omega | exact Iff.rfl) | exact cutF rfl (by first | omega | exact Iff.rfl) | exact cutI rfl (by first | omega | exact Iff.rfl) | exact cutB rfl (by first | omega | exact Iff.rfl)
      case dr5 =>
       refine sq ?_
       first | refine WC.if rfl (fun c31 => ?_) (fun c31 => ?_) | refine WC.cond rfl (fun c31 => ?_) (fun c31 => ?_)
       ·
        refine rg ?_
        refine Sa V.asg ?_
        refine Wn ?_
        refine sq ?_
        refine WC.ret ?_
        refine' ⟨.inr rfl, rfl, _, [], .tmp rfl .nil, List.nil_sublist _, ?_⟩
        (refine ⟨congrArg (Value.int .i64) ?_, rfl, rfl⟩; unfold cls; repeat (first | rw [if_pos (by assumption)] | rw [if_neg (by assumption)]))
       ·
        refine' WC.weak (l' := [(0, _)]) ⟨rfl, trivial⟩ (List.Sublist.refl _) ?_
        refine sq ?_
        refine' WC.cutK 1 [(38, .bool (decide (isSign c)))] ?cr7 ?dr7
        case cr7 =>
         refine WC.region ?_
         refine Sa V.mv ?_
         refine Sa V.cv ?_
         refine Sa V.vi ?_
         refine Sa V.mv ?_
         first | refine W.splitP (d := 42) rfl (fun gr7_3 => ?_) (fun gr7_3 => ?_) | refine W.split (d := 42) rfl (fun gr7_3 => ?_) (fun gr7_3 => ?_)
         ·
          have hv44 := tab_at (sign_tab c (by omega))
          refine Sb V.mv ?_
          refine' W.guardY rfl rfl rfl (Exec.val rfl rfl (v_indexGlob rfl ?hg ?hJ rfl (tAr rfl) ?h0 ?h1) ?_)
          case hJ => assumption
          case hg => assumption
          case h0 => first | omega | (simp; omega)
          case h1 => first | omega | (simp; omega)
          refine Sb V.ld ?_
          refine Sa V.pk ?_
          refine Sa V.asg ?_
          refine Wn ?_
          refine' ⟨⟨_, rfl, ⟨?n38, trivial⟩⟩, List.Sublist.refl _, rfl⟩
          case n38 => first | exact cutT rfl (by first | (intro q; unfold isSign at q; rw [List.getElem?_eq_none (by show 126 ≤ c; omega)] at q; cases q) | exact Iff.rfl) | exact cutF rfl (by first | (intro q; unfold isSign at q; rw [List.getElem?_eq_none (by show 126 ≤ c; omega)] at q; cases q) | exact Iff.rfl) | exact cutI rfl (by first | (intro q; unfold isSign at q; rw [List.getElem?_eq_none (by show 126 ≤ c; omega)] at q; cases q) | exact Iff.rfl) | exact cutB rfl (by first | (intro q; unfold isSign at q; rw [List.getElem?_eq_none (by show 126 ≤ c; omega)] at q; cases q) | exact Iff.rfl)
         ·
          refine Sn ?_
          refine W.guardN rfl rfl rfl rfl rfl ?_
          refine Sn ?_
          refine Sa V.pk ?_
          refine Sa V.asg ?_
          refine Wn ?_
          refine' ⟨⟨_, rfl, ⟨?n38, trivial⟩⟩, List.Sublist.refl _, rfl⟩
          case n38 => first | exact cutT rfl (by first | (intro q; unfold isSign at q; rw [List.getElem?_eq_none (by show 126 ≤ c; omega)] at q; cases q) | exact Iff.rfl) | exact cutF rfl (by first | (intro q; unfold isSign at q; rw [List.getElem?_eq_none (by show 126 ≤ c; omega)] at q; cases q) | exact Iff.rfl) | exact cutI rfl (by first | (intro q; unfold isSign at q; rw [List.getElem?_eq_none (by show 126 ≤ c; omega)] at q; cases q) | exact Iff.rfl) | exact cutB rfl (by first | (intro q; unfold isSign at q; rw [List.getElem?_eq_none (by show 126 ≤ c; omega)] at q; cases q) | exact Iff.rfl)
        case dr7 =>
         refine sq ?_
         first | refine WC.if rfl (fun c38 => ?_) (fun c38 => ?_) | refine WC.cond rfl (fun c38 => ?_) (fun c38 => ?_)
         ·
          refine rg ?_
          refine Sa V.asg ?_
          refine Wn ?_
          refine sq ?_
          refine WC.ret ?_
          refine' ⟨.inr rfl, rfl, _, [], .tmp rfl .nil, List.nil_sublist _, ?_⟩
          (refine ⟨congrArg (Value.int .i64) ?_, rfl, rfl⟩; unfold cls; repeat (first | rw [if_pos (by assumption)] | rw [if_neg (by assumption)]))
         ·
          refine sq ?_
          refine WC.skip ?_
          refine rg ?_
          refine Sa V.asg ?_
          refine Wn ?_
          refine sq ?_
          refine WC.ret ?_
          refine' ⟨.inr rfl, rfl, _, [], .tmp rfl .nil, List.nil_sublist _, ?_⟩
          (refine ⟨congrArg (Value.int .i64) ?_, rfl, rfl⟩; unfold cls; repeat (first | rw [if_pos (by assumption)] | rw [if_neg (by assumption)]))
end
end Go.Opn
set_option maxRecDepth 100000
set_option linter.unusedVariables false
set_option linter.unusedSimpArgs false
namespace Go.Opn
open Go.Cre Go.RowKit Go.Proofs
section
variable {Q : Worlds Tryz.prog} {g0 : Nat} {J : Jm}
theorem white_fn {c : Nat} : Fn (kx Q g0) 70 [.int .u8 c] [] J (Ret (.bool (decide (isBlank c))) J) := by
  refine Fn.of_body (ftGet Tryz.func70) rfl rfl fun H => ?_
  refine rg ?_
  refine Sa V.asg ?_
  refine Wn ?_
  refine' WC.weak (l' := [(0, _)]) ⟨rfl, trivial⟩ (List.Sublist.refl _) ?_
  refine sq ?_
  refine' WC.cutK 1 [(2, .bool (decide (isBlank c)))] ?cr1 ?dr1
  case cr1 =>
   refine WC.region ?_
   refine Sa V.mv ?_
   refine Sa V.vi ?_
   refine Sa V.mv ?_
   first | refine W.splitP (d := 5) rfl (fun gr1_2 => ?_) (fun gr1_2 => ?_) | refine W.split (d := 5) rfl (fun gr1_2 => ?_) (fun gr1_2 => ?_)
   ·
    refine Sn ?_
    refine Sn ?_
    refine Sa V.pk ?_
    refine Sa V.mv ?_
    refine Sn ?_
    refine Sn ?_
    refine Sa V.pk ?_
    refine Sa V.asg ?_
    refine Wn ?_
    refine' ⟨⟨_, rfl, ⟨?n2, trivial⟩⟩, List.Sublist.refl _, rfl⟩
    case n2 => first | exact cutT rfl (by first | omega | (constructor <;> intro q <;> omega)) | exact cutF rfl (by first | omega | (constructor <;> intro q <;> omega)) | exact cutI rfl (by first | omega | (constructor <;> intro q <;> omega)) | exact cutB rfl (by first | omega | (constructor <;> intro q <;> omega))
   ·
    refine Sb V.mv ?_
    refine Sb V.vi ?_
    refine Sa V.pk ?_
    refine Sa V.mv ?_
    first | refine W.splitP (d := 9) rfl (fun gr1_6 => ?_) (fun gr1_6 => ?_) | refine W.split (d := 9) rfl (fun gr1_6 => ?_) (fun gr1_6 => ?_)
    ·
     refine Sn ?_
     refine Sn ?_
     refine Sa V.pk ?_
     refine Sa V.asg ?_
     refine Wn ?_
     refine' ⟨⟨_, rfl, ⟨?n2, trivial⟩⟩, List.Sublist.refl _, rfl⟩
     case n2 => first | exact cutT rfl (by first | omega | (constructor <;> intro q <;> omega)) | exact cutF rfl (by first | omega | (constructor <;> intro q <;> omega)) | exact cutI rfl (by first | omega | (constructor <;> intro q <;> omega)) | exact cutB rfl (by first | omega | (constructor <;> intro q <;> omega))
    ·
     refine Sb V.mv ?_
     refine Sb V.vi ?_
     refine Sa V.pk ?_
     refine Sa V.asg ?_
     refine Wn ?_
     refine' ⟨⟨_, rfl, ⟨?n2, trivial⟩⟩, List.Sublist.refl _, rfl⟩
     case n2 => first | exact cutT rfl (by first | omega | (constructor <;> intro q <;> omega)) | exact cutF rfl (by first | omega | (constructor <;> intro q <;> omega)) | exact cutI rfl (by first | omega | (constructor <;> intro q <;> omega)) | exact cutB rfl (by first | omega | (constructor <;> intro q <;> omega))
  case dr1 =>
   refine sq ?_
   refine WC.ret ?_
   refine' ⟨.inr rfl, rfl, _, [], .tmp rfl .nil, List.nil_sublist _, ⟨rfl, rfl, rfl⟩⟩
theorem letter_fn {c : Nat} : Fn (kx Q g0) 85 [.int .u8 c] [] J (Ret (.bool (decide (isLetter c))) J) := by
  refine Fn.of_body (ftGet Tryz.func85) rfl rfl fun H => ?_
  refine rg ?_
  refine Sa V.asg ?_
  refine Wn ?_
  refine' WC.weak (l' := [(0, _)]) ⟨rfl, trivial⟩ (List.Sublist.refl _) ?_
  refine sq ?_
  refine' WC.cutK 1 [(2, .bool (decide (isLetter c)))] ?cr1 ?dr1
  case cr1 =>
   refine WC.region ?_
   refine Sa V.mv ?_
   refine Sa V.vi ?_
   refine Sa V.mv ?_
   first | refine W.splitP (d := 5) rfl (fun gr1_2 => ?_) (fun gr1_2 => ?_) | refine W.split (d := 5) rfl (fun gr1_2 => ?_) (fun gr1_2 => ?_)
   ·
    refine Sb V.mv ?_
    refine Sb V.vi ?_
    refine Sa V.pk ?_
    refine Sa V.mv ?_
    first | refine W.splitP (d := 9) rfl (fun gr1_6 => ?_) (fun gr1_6 => ?_) | refine W.split (d := 9) rfl (fun gr1_6 => ?_) (fun gr1_6 => ?_)
    ·
     refine Sn ?_
     refine Sn ?_
     refine Sn ?_
     refine Su ?_
     refine Su ?_
     refine Sn ?_
     refine Sa V.pk ?_
     refine Sa V.mv ?_
     refine Sn ?_
     refine Sn ?_
     refine Sa V.pk ?_
     refine Sa V.asg ?_
     refine Wn ?_
     refine' ⟨⟨_, rfl, ⟨?n2, trivial⟩⟩, List.Sublist.refl _, rfl⟩
     case n2 => first | exact cutT rfl (by first | omega | (constructor <;> intro q <;> omega)) | exact cutF rfl (by first | omega | (constructor <;> intro q <;> omega)) | exact cutI rfl (by first | omega | (constructor <;> intro q <;> omega)) | exact cutB rfl (by first | omega | (constructor <;> intro q <;> omega))
    ·
     refine Sb V.mv ?_
     refine Sb V.vi ?_
     refine Sb V.mv ?_
     first | refine W.splitP (d := 12) rfl (fun gr1_9 => ?_) (fun gr1_9 => ?_) | refine W.split (d := 12) rfl (fun gr1_9 => ?_) (fun gr1_9 => ?_)
     ·
      refine Sb V.mv ?_
      refine Sb V.vi ?_
      refine Sb V.pk ?_
      refine Sa V.pk ?_
      refine Sa V.mv ?_
      first | refine W.splitP (d := 17) rfl (fun gr1_14 => ?_) (fun gr1_14 => ?_) | refine W.split (d := 17) rfl (fun gr1_14 => ?_) (fun gr1_14 => ?_)
      ·
       refine Sn ?_
       refine Sn ?_
       refine Sa V.pk ?_
       refine Sa V.asg ?_
       refine Wn ?_
       refine' ⟨⟨_, rfl, ⟨?n2, trivial⟩⟩, List.Sublist.refl _, rfl⟩
       case n2 => first | exact cutT rfl (by first | omega | (constructor <;> intro q <;> omega)) | exact cutF rfl (by first | omega | (constructor <;> intro q <;> omega)) | exact cutI rfl (by first | omega | (constructor <;> intro q <;> omega)) | exact cutB rfl (by first | omega | (constructor <;> intro q <;> omega))
      ·
       refine Sb V.mv ?_
       refine Sb V.vi ?_
       refine Sa V.pk ?_
       refine Sa V.asg ?_
       refine Wn ?_
       refine' ⟨⟨_, rfl, ⟨?n2, trivial⟩⟩, List.Sublist.refl _, rfl⟩
       case n2 => first | exact cutT rfl (by first | omega | (constructor <;> intro q <;> omega)) | exact cutF rfl (by first | omega | (constructor <;> intro q <;> omega)) | exact cutI rfl (by first | omega | (constructor <;> intro q <;> omega)) | exact cutB rfl (by first | omega | (constructor <;> intro q <;> omega))
     ·
      refine Sn ?_
      refine Sn ?_
      refine Sb V.pk ?_
      refine Sa V.pk ?_
      refine Sa V.mv ?_
      refine Sb V.mv ?_
      refine Sb V.vi ?_
      refine Sa V.pk ?_
      refine Sa V.asg ?_
      refine Wn ?_
      refine' ⟨⟨_, rfl, ⟨?n2, trivial⟩⟩, List.Sublist.refl _, rfl⟩
      case n2 => first | exact cutT rfl (by first | omega | (constructor <;> intro q <;> omega)) | exact cutF rfl (by first | omega | (constructor <;> intro q <;> omega)) | exact cutI rfl (by first | omega | (constructor <;> intro q <;> omega)) | exact cutB rfl (by first | omega | (constructor <;> intro q <;> omega))
   ·
    refine Sn ?_
    refine Sn ?_
    refine Sa V.pk ?_
    refine Sa V.mv ?_
    refine Sb V.mv ?_
    refine Sb V.vi ?_
    refine Sb V.mv ?_
    first | refine W.splitP (d := 12) rfl (fun gr1_9 => ?_) (fun gr1_9 => ?_) | refine W.split (d := 12) rfl (fun gr1_9 => ?_) (fun gr1_9 => ?_)
    ·
     refine Sb V.mv ?_
     refine Sb V.vi ?_
     refine Sb V.pk ?_
     refine Sa V.pk ?_
     refine Sa V.mv ?_
     first | refine W.splitP (d := 17) rfl (fun gr1_14 => ?_) (fun gr1_14 => ?_) | refine W.split (d := 17) rfl (fun gr1_14 => ?_) (fun gr1_14 => ?_)
     ·
      refine Sn ?_
      refine Sn ?_
      refine Sa V.pk ?_
      refine Sa V.asg ?_
      refine Wn ?_
      refine' ⟨⟨_, rfl, ⟨?n2, trivial⟩⟩, List.Sublist.refl _, rfl⟩
      case n2 => first | exact cutT rfl (by first | omega | (constructor <;> intro q <;> omega)) | exact cutF rfl (by first | omega | (constructor <;> intro q <;> omega)) | exact cutI rfl (by first | omega | (constructor <;> intro q <;> omega)) | exact cutB rfl (by first | omega | (constructor <;> intro q <;> omega))
     ·
      refine Sb V.mv ?_
      refine Sb V.vi ?_
      refine Sa V.pk ?_
      refine Sa V.asg ?_
      refine Wn ?_
      refine' ⟨⟨_, rfl, ⟨?n2, trivial⟩⟩, List.Sublist.refl _, rfl⟩
      case n2 => first | exact cutT rfl (by first | omega | (constructor <;> intro q <;> omega)) | exact cutF rfl (by first | omega | (constructor <;> intro q <;> omega)) | exact cutI rfl (by first | omega | (constructor <;> intro q <;> omega)) | exact cutB rfl (by first | omega | (constructor <;> intro q <;> omega))
    ·
     refine Sn ?_
     refine Sn ?_
     refine Sb V.pk ?_
     refine Sa V.pk ?_
     refine Sa V.mv ?_
     refine Sb V.mv ?_
     refine Sb V.vi ?_
     refine Sa V.pk ?_
     refine Sa V.asg ?_
     refine Wn ?_
     refine' ⟨⟨_, rfl, ⟨?n2, trivial⟩⟩, List.Sublist.refl _, rfl⟩
     case n2 => first | exact cutT rfl (by first | omega | (constructor <;> intro q <;> omega)) | exact cutF rfl (by first | omega | (constructor <;> intro q <;> omega)) | exact cutI rfl (by first | omega | (constructor <;> intro q <;> omega)) | exact cutB rfl (by first | omega | (constructor <;> intro q <;> omega))
  case dr1 =>
   refine sq ?_
   refine WC.ret ?_
   refine' ⟨.inr rfl, rfl, _, [], .tmp rfl .nil, List.nil_sublist _, ⟨rfl, rfl, rfl⟩⟩
theorem digit_fn {c : Nat} : Fn (kx Q g0) 86 [.int .u8 c] [] J (Ret (.bool (decide (isDigit c))) J) := by
  refine Fn.of_body (ftGet Tryz.func86) rfl rfl fun H => ?_
  refine rg ?_
  refine Sa V.asg ?_
  refine Wn ?_
  refine' WC.weak (l' := [(0, _)]) ⟨rfl, trivial⟩ (List.Sublist.refl _) ?_
  refine sq ?_
  refine' WC.cutK 1 [(2, .bool (decide (isDigit c)))] ?cr1 ?dr1
  case cr1 =>
   refine WC.region ?_
   refine Sa V.mv ?_
   refine Sa V.vi ?_
   refine Sa V.mv ?_
   first | refine W.splitP (d := 5) rfl (fun gr1_2 => ?_) (fun gr1_2 => ?_) | refine W.split (d := 5) rfl (fun gr1_2 => ?_) (fun gr1_2 => ?_)
   ·
    refine Sb V.mv ?_
    refine Sb V.vi ?_
    refine Sa V.pk ?_
    refine Sa V.asg ?_
    refine Wn ?_
    refine' ⟨⟨_, rfl, ⟨?n2, trivial⟩⟩, List.Sublist.refl _, rfl⟩
    case n2 => first | exact cutT rfl (by first | omega | (constructor <;> intro q <;> omega)) | exact cutF rfl (by first | omega | (constructor <;> intro q <;> omega)) | exact cutI rfl (by first | omega | (constructor <;> intro q <;> omega)) | exact cutB rfl (by first | omega | (constructor <;> intro q <;> omega))
   ·
    refine Sn ?_
    refine Sn ?_
    refine Sa V.pk ?_
    refine Sa V.asg ?_
    refine Wn ?_
    refine' ⟨⟨_, rfl, ⟨?n2, trivial⟩⟩, List.Sublist.refl _, rfl⟩
    case n2 => first | exact cutT rfl (by first | omega | (constructor <;> intro q <;> omega)) | exact cutF rfl (by first | omega | (constructor <;> intro q <;> omega)) | exact cutI rfl (by first | omega | (constructor <;> intro q <;> omega)) | exact cutB rfl (by first | omega | (constructor <;> intro q <;> omega))
  case dr1 =>
   refine sq ?_
   refine WC.ret ?_
   refine' ⟨.inr rfl, rfl, _, [], .tmp rfl .nil, List.nil_sublist _, ⟨rfl, rfl, rfl⟩⟩
/-- some truth value -/
abbrev RetB (J : Jm) : Value → Mm → Jm → Prop := fun w m' J' => (∃ b, w = .bool b) ∧ m' = [] ∧ J' = J
theorem double_fn {s : List UInt8} : Fn (kx Q g0) 88 [.string ⟨⟨s⟩⟩] [] J (RetB J) := by
  refine Fn.of_body (ftGet Tryz.func88) rfl rfl fun H => ?_
  refine rg ?_
  refine Sa V.asg ?_
  refine Wn ?_
  refine rg ?_
  refine Sa V.mv ?_
  refine Sa V.se ?_
  refine Sa V.mv ?_
  first | refine W.splitP (d := 5) rfl (fun gr1_2 => ?_) (fun gr1_2 => ?_) | refine W.split (d := 5) rfl (fun gr1_2 => ?_) (fun gr1_2 => ?_)
  ·
   refine Sn ?_
   refine Sn ?_
   refine Sa V.pk ?_
   refine Sa V.mv ?_
   refine Sn ?_
   refine Sn ?_
   refine Sa V.pk ?_
   refine Sa V.mv ?_
   refine Sn ?_
   refine Sn ?_
   refine Sa V.pk ?_
   refine Sa V.mv ?_
   refine Sn ?_
   refine Sn ?_
   refine Sa V.pk ?_
   refine Sa V.asg ?_
   refine Wn ?_
   refine sq ?_
   refine WC.ret ?_
   refine' ⟨.inr rfl, rfl, _, [], .tmp rfl .nil, List.nil_sublist _, ⟨⟨_, rfl⟩, rfl, rfl⟩⟩
  ·
   refine Sb V.mv ?_
   refine Sb V.se ?_
   refine Sa V.pk ?_
   refine Sa V.mv ?_
   first | refine W.splitP (d := 9) rfl (fun gr1_6 => ?_) (fun gr1_6 => ?_) | refine W.split (d := 9) rfl (fun gr1_6 => ?_) (fun gr1_6 => ?_)
   ·
    refine Sn ?_
    refine Sn ?_
    refine Sa V.pk ?_
    refine Sa V.mv ?_
    refine Sn ?_
    refine Sn ?_
    refine Sa V.pk ?_
    refine Sa V.mv ?_
    refine Sn ?_
    refine Sn ?_
    refine Sa V.pk ?_
    refine Sa V.asg ?_
    refine Wn ?_
    refine sq ?_
    refine WC.ret ?_
    refine' ⟨.inr rfl, rfl, _, [], .tmp rfl .nil, List.nil_sublist _, ⟨⟨_, rfl⟩, rfl, rfl⟩⟩
   ·
    refine Sb V.mv ?_
    refine Sb V.se ?_
    refine Sa V.pk ?_
    refine Sa V.mv ?_
    first | refine W.splitP (d := 13) rfl (fun gr1_10 => ?_) (fun gr1_10 => ?_) | refine W.split (d := 13) rfl (fun gr1_10 => ?_) (fun gr1_10 => ?_)
    ·
     refine Sn ?_
     refine Sn ?_
     refine Sa V.pk ?_
     refine Sa V.mv ?_
     refine Sn ?_
     refine Sn ?_
     refine Sa V.pk ?_
     refine Sa V.asg ?_
     refine Wn ?_
     refine sq ?_
     refine WC.ret ?_
     refine' ⟨.inr rfl, rfl, _, [], .tmp rfl .nil, List.nil_sublist _, ⟨⟨_, rfl⟩, rfl, rfl⟩⟩
    ·
     refine Sb V.mv ?_
     refine Sb V.se ?_
     refine Sa V.pk ?_
     refine Sa V.mv ?_
     first | refine W.splitP (d := 17) rfl (fun gr1_14 => ?_) (fun gr1_14 => ?_) | refine W.split (d := 17) rfl (fun gr1_14 => ?_) (fun gr1_14 => ?_)
     ·
      refine Sn ?_
      refine Sn ?_
      refine Sa V.pk ?_
      refine Sa V.asg ?_
      refine Wn ?_
      refine sq ?_
      refine WC.ret ?_
      refine' ⟨.inr rfl, rfl, _, [], .tmp rfl .nil, List.nil_sublist _, ⟨⟨_, rfl⟩, rfl, rfl⟩⟩
     ·
      refine Sb V.mv ?_
      refine Sb V.se ?_
      refine Sa V.pk ?_
      refine Sa V.asg ?_
      refine Wn ?_
      refine sq ?_
      refine WC.ret ?_
      refine' ⟨.inr rfl, rfl, _, [], .tmp rfl .nil, List.nil_sublist _, ⟨⟨_, rfl⟩, rfl, rfl⟩⟩
theorem single_fn {c : Nat} : Fn (kx Q g0) 89 [.int .u8 c] [] J (RetB J) := by
  refine Fn.of_body (ftGet Tryz.func89) rfl rfl fun H => ?_
  refine rg ?_
  refine Sa V.asg ?_
  refine Wn ?_
  refine rg ?_
  refine Sa V.asg ?_
  refine Wn ?_
  refine rg ?_
  refine Sa V.asg ?_
  refine Wn ?_
  refine sq ?_
  refine WC.block ?_
  refine' WC.weak (l' := [(4, .int .i64 ((0) : Int)), (0, _), (3, _)]) ⟨?w4, rfl, rfl, trivial⟩ (List.Sublist.refl _) ?_
  case w4 => first | rfl | exact congrArg some (congrArg (Value.int .i64) (by omega))
  refine sq ?_
  refine' WC.loopC (α := (Nat)) (fun (i : Nat) => [(4, .int .i64 (i : Int))]) (fun (i : Nat) => i ≤ 15) (fun (i : Nat) => 15 - i) (0) ?hs ?hstep
  case hs => omega
  case hstep =>
   rintro i hinv
   try simp only at hinv
   refine rg ?_
   refine Sa V.mv ?_
   refine Sa V.mv ?_
   refine Sa V.lS ?_
   refine Sa V.vi ?_
   refine Wn ?_
   refine sq ?_
   first | refine WC.if rfl (fun c8 => ?_) (fun c8 => ?_) | refine WC.cond rfl (fun c8 => ?_) (fun c8 => ?_)
   ·
    have hlt : i < 15 := by have : (i : Int) < 15 := c8; omega
    obtain ⟨b, hb, _⟩ := get_at [123, 125, 40, 41, 58, 59, 44, 43, 45, 42, 47, 37, 60, 62, 61] i hlt
    refine sq ?_
    refine WC.skip ?_
    refine sq ?_
    refine WC.block ?_
    refine rg ?_
    refine Sa V.mv ?_
    refine Sa V.mv ?_
    refine Sa V.iS ?_
    refine Sa V.mv ?_
    refine Sa V.vi ?_
    refine Wn ?_
    refine sq ?_
    first | refine WC.if rfl (fun c15 => ?_) (fun c15 => ?_) | refine WC.cond rfl (fun c15 => ?_) (fun c15 => ?_)
    ·
     refine rg ?_
     refine Sa V.asg ?_
     refine Wn ?_
     refine sq ?_
     refine WC.ret ?_
     refine' ⟨.inr rfl, rfl, _, [], .tmp rfl .nil, List.nil_sublist _, ⟨⟨_, rfl⟩, rfl, rfl⟩⟩
    ·
     refine sq ?_
     refine WC.skip ?_
     refine rg ?_
     refine Sa V.mv ?_
     refine Sa V.va ?_
     refine Sa V.asg ?_
     refine Wn ?_
     refine' ⟨(i + 1), _, ?hinv, ?hmeas, rfl, ⟨?m4, rfl, rfl, trivial⟩, List.Sublist.refl _, rfl⟩
     case m4 => first | rfl | exact congrArg some (congrArg (Value.int .i64) (by omega))
     case hmeas => first | omega | (simp only; omega)
     case hinv => omega
   ·
    refine sq ?_
    refine WC.exit ?_
    refine rg ?_
    refine Sa V.asg ?_
    refine Wn ?_
    refine sq ?_
    refine WC.ret ?_
    refine' ⟨.inr rfl, rfl, _, [], .tmp rfl .nil, List.nil_sublist _, ⟨⟨_, rfl⟩, rfl, rfl⟩⟩
theorem rnumber_fn {s : List UInt8} (hs : s.length ≤ 140737488355328) : Fn (kx Q g0) 87 [.string ⟨⟨s⟩⟩] [] J (fun w m' J' => (∃ a b, w = .tuple #[.int .i64 a, .int .i64 b]) ∧ m' = [] ∧ J' = J) := by
  refine Fn.of_body (ftGet Tryz.func87) rfl rfl fun H => ?_
  refine rg ?_
  refine Sa V.asg ?_
  refine Sa V.asg ?_
  refine Wn ?_
  refine rg ?_
  refine Sa V.mv ?_
  refine Sa V.lS ?_
  refine Sa V.vi ?_
  refine Sa V.mv ?_
  first | refine W.splitP (d := 9) rfl (fun gr1_3 => ?_) (fun gr1_3 => ?_) | refine W.split (d := 9) rfl (fun gr1_3 => ?_) (fun gr1_3 => ?_)
  ·
   have h1 : (1 : Int) < s.length := gr1_3
   refine Sb V.mv ?_
   refine Sb V.iS ?_
   refine Sb V.vi ?_
   refine Sa V.pk ?_
   refine Wn ?_
   refine sq ?_
   first | refine WC.if rfl (fun c13 => ?_) (fun c13 => ?_) | refine WC.cond rfl (fun c13 => ?_) (fun c13 => ?_)
   ·
    refine rg ?_
    refine Sa V.asg ?_
    refine Sa V.asg ?_
    refine Wn ?_
    refine sq ?_
    refine WC.ret ?_
    refine' ⟨.inr rfl, rfl, _, [], .tmp rfl (.tmp rfl .nil), List.nil_sublist _, ⟨⟨_, _, rfl⟩, rfl, rfl⟩⟩
   ·
    refine sq ?_
    refine WC.skip ?_
    refine rg ?_
    refine Sa V.mv ?_
    refine Sa V.lS ?_
    refine Sa V.vi ?_
    refine Wn ?_
    refine sq ?_
    first | refine WC.if rfl (fun c16 => ?_) (fun c16 => ?_) | refine WC.cond rfl (fun c16 => ?_) (fun c16 => ?_)
    ·
     refine rg ?_
     refine Sa V.asg ?_
     refine Sa V.asg ?_
     refine Wn ?_
     refine sq ?_
     refine WC.ret ?_
     refine' ⟨.inr rfl, rfl, _, [], .tmp rfl (.tmp rfl .nil), List.nil_sublist _, ⟨⟨_, _, rfl⟩, rfl, rfl⟩⟩
    ·
     refine sq ?_
     refine WC.skip ?_
     refine rg ?_
     refine Sa V.asg ?_
     refine Wn ?_
     refine rg ?_
     refine Sa V.asg ?_
     refine Wn ?_
     refine sq ?_
     refine WC.block ?_
     refine' WC.weak (l' := [(4, .int .i64 (0)), (5, .int .i64 ((0) : Int)), (0, _)]) ⟨?w4, ?w5, rfl, trivial⟩ (List.Sublist.refl _) ?_
     case w4 => first | rfl | exact congrArg some (congrArg (Value.int .i64) (by omega))
     case w5 => first | rfl | exact congrArg some (congrArg (Value.int .i64) (by omega))
     refine sq ?_
     refine' WC.loopC (α := (Nat) × (Int)) (fun (gh_ : (Nat) × (Int)) => match gh_ with | (i, x) => [(4, .int .i64 x), (5, .int .i64 (i : Int))]) (fun (gh_ : (Nat) × (Int)) => match gh_ with | (i, x) => i ≤ s.length) (fun (gh_ : (Nat) × (Int)) => match gh_ with | (i, x) => s.length - i) ⟨0, 0⟩ ?hs ?hstep
     case hs => omega
     case hstep =>
      rintro ⟨i, x⟩ hinv
      try simp only at hinv
      refine rg ?_
      refine Sa V.mv ?_
      refine Sa V.mv ?_
      refine Sa V.lS ?_
      refine Sa V.vi ?_
      refine Wn ?_
      refine sq ?_
      first | refine WC.if rfl (fun c20 => ?_) (fun c20 => ?_) | refine WC.cond rfl (fun c20 => ?_) (fun c20 => ?_)
      ·
       have hlt : i < s.length := by have : (i : Int) < s.length := c20; omega
       obtain ⟨b, hb, _⟩ := get_at s i hlt
       refine sq ?_
       refine WC.skip ?_
       refine sq ?_
       refine WC.block ?_
       refine rg ?_
       refine Sa V.mv ?_
       refine Sa V.va ?_
       refine Sa V.mv ?_
       refine Sa V.mv ?_
       refine Sa V.iS ?_
       refine Sa V.va ?_
       refine Sa V.cv ?_
       refine Sa V.va ?_
       refine Sa V.asg ?_
       refine Wn ?_
       refine rg ?_
       refine Sa V.mv ?_
       refine Sa V.va ?_
       refine Sa V.asg ?_
       refine Wn ?_
       refine' ⟨⟨i + 1, _⟩, _, ?hinv, ?hmeas, rfl, ⟨?m4, ?m5, rfl, trivial⟩, List.Sublist.refl _, rfl⟩
       case m4 => first | rfl | exact congrArg some (congrArg (Value.int .i64) (by omega))
       case m5 => first | rfl | exact congrArg some (congrArg (Value.int .i64) (by omega))
       case hmeas => first | omega | (simp only; omega)
       case hinv => omega
      ·
       refine sq ?_
       refine WC.exit ?_
       refine rg ?_
       refine Sa V.mv ?_
       refine Sa V.vi ?_
       refine Wn ?_
       refine sq ?_
       first | refine WC.if rfl (fun c32 => ?_) (fun c32 => ?_) | refine WC.cond rfl (fun c32 => ?_) (fun c32 => ?_)
       ·
        refine rg ?_
        refine Sa V.asg ?_
        refine Sa V.asg ?_
        refine Wn ?_
        refine sq ?_
        refine WC.ret ?_
        refine' ⟨.inr rfl, rfl, _, [], .tmp rfl (.tmp rfl .nil), List.nil_sublist _, ⟨⟨_, _, rfl⟩, rfl, rfl⟩⟩
       ·
        refine sq ?_
        refine WC.skip ?_
        refine rg ?_
        refine Sa V.mv ?_
        refine Sa V.asg ?_
        refine Sa V.asg ?_
        refine Wn ?_
        refine sq ?_
        refine WC.ret ?_
        refine' ⟨.inr rfl, rfl, _, [], .tmp rfl (.tmp rfl .nil), List.nil_sublist _, ⟨⟨_, _, rfl⟩, rfl, rfl⟩⟩
  ·
   refine Sn ?_
   refine Sn ?_
   refine Sn ?_
   refine Sa V.pk ?_
   refine Wn ?_
   refine sq ?_
   refine WC.condF rfl ?_
   refine sq ?_
   refine WC.skip ?_
   refine rg ?_
   refine Sa V.mv ?_
   refine Sa V.lS ?_
   refine Sa V.vi ?_
   refine Wn ?_
   refine sq ?_
   first | refine WC.if rfl (fun c16 => ?_) (fun c16 => ?_) | refine WC.cond rfl (fun c16 => ?_) (fun c16 => ?_)
   ·
    refine rg ?_
    refine Sa V.asg ?_
    refine Sa V.asg ?_
    refine Wn ?_
    refine sq ?_
    refine WC.ret ?_
    refine' ⟨.inr rfl, rfl, _, [], .tmp rfl (.tmp rfl .nil), List.nil_sublist _, ⟨⟨_, _, rfl⟩, rfl, rfl⟩⟩
   ·
    refine sq ?_
    refine WC.skip ?_
    refine rg ?_
    refine Sa V.asg ?_
    refine Wn ?_
    refine rg ?_
    refine Sa V.asg ?_
    refine Wn ?_
    refine sq ?_
    refine WC.block ?_
    refine' WC.weak (l' := [(4, .int .i64 (0)), (5, .int .i64 ((0) : Int)), (0, _)]) ⟨?w4, ?w5, rfl, trivial⟩ (List.Sublist.refl _) ?_
    case w4 => first | rfl | exact congrArg some (congrArg (Value.int .i64) (by omega))
    case w5 => first | rfl | exact congrArg some (congrArg (Value.int .i64) (by omega))
    refine sq ?_
    refine' WC.loopC (α := (Nat) × (Int)) (fun (gh_ : (Nat) × (Int)) => match gh_ with | (i, x) => [(4, .int .i64 x), (5, .int .i64 (i : Int))]) (fun (gh_ : (Nat) × (Int)) => match gh_ with | (i, x) => i ≤ s.length) (fun (gh_ : (Nat) × (Int)) => match gh_ with | (i, x) => s.length - i) ⟨0, 0⟩ ?hs ?hstep
    case hs => omega
    case hstep =>
     rintro ⟨i, x⟩ hinv
     try simp only at hinv
     refine rg ?_
     refine Sa V.mv ?_
     refine Sa V.mv ?_
     refine Sa V.lS ?_
     refine Sa V.vi ?_
     refine Wn ?_
     refine sq ?_
     first | refine WC.if rfl (fun c20 => ?_) (fun c20 => ?_) | refine WC.cond rfl (fun c20 => ?_) (fun c20 => ?_)
     ·
      have hlt : i < s.length := by have : (i : Int) < s.length := c20; omega
      obtain ⟨b, hb, _⟩ := get_at s i hlt
      refine sq ?_
      refine WC.skip ?_
      refine sq ?_
      refine WC.block ?_
      refine rg ?_
      refine Sa V.mv ?_
      refine Sa V.va ?_
      refine Sa V.mv ?_
      refine Sa V.mv ?_
      refine Sa V.iS ?_
      refine Sa V.va ?_
      refine Sa V.cv ?_
      refine Sa V.va ?_
      refine Sa V.asg ?_
      refine Wn ?_
      refine rg ?_
      refine Sa V.mv ?_
      refine Sa V.va ?_
      refine Sa V.asg ?_
      refine Wn ?_
      refine' ⟨⟨i + 1, _⟩, _, ?hinv, ?hmeas, rfl, ⟨?m4, ?m5, rfl, trivial⟩, List.Sublist.refl _, rfl⟩
      case m4 => first | rfl | exact congrArg some (congrArg (Value.int .i64) (by omega))
      case m5 => first | rfl | exact congrArg some (congrArg (Value.int .i64) (by omega))
      case hmeas => first | omega | (simp only; omega)
      case hinv => omega
     ·
      refine sq ?_
      refine WC.exit ?_
      refine rg ?_
      refine Sa V.mv ?_
      refine Sa V.vi ?_
      refine Wn ?_
      refine sq ?_
      first | refine WC.if rfl (fun c32 => ?_) (fun c32 => ?_) | refine WC.cond rfl (fun c32 => ?_) (fun c32 => ?_)
      ·
       refine rg ?_
       refine Sa V.asg ?_
       refine Sa V.asg ?_
       refine Wn ?_
       refine sq ?_
       refine WC.ret ?_
       refine' ⟨.inr rfl, rfl, _, [], .tmp rfl (.tmp rfl .nil), List.nil_sublist _, ⟨⟨_, _, rfl⟩, rfl, rfl⟩⟩
      ·
       refine sq ?_
       refine WC.skip ?_
       refine rg ?_
       refine Sa V.mv ?_
       refine Sa V.asg ?_
       refine Sa V.asg ?_
       refine Wn ?_
       refine sq ?_
       refine WC.ret ?_
       refine' ⟨.inr rfl, rfl, _, [], .tmp rfl (.tmp rfl .nil), List.nil_sublist _, ⟨⟨_, _, rfl⟩, rfl, rfl⟩⟩
end
end Go.Opn

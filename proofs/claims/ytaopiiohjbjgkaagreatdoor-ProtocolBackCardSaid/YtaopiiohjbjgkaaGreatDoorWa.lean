/- A part of the proof of ProtocolBack. -/
import Derived.Test.YtaopiiohjbjgkaaGreatDoorK0
import Derived.Test.YtaopiiohjbjgkaaGreatDoorOpnO
import Derived.Test.YtaopiiohjbjgkaaGreatDoorOpnM
set_option maxRecDepth 100000
set_option linter.unusedVariables false
set_option linter.unusedSimpArgs false
namespace Go.Opn
open Go.Cre Go.RowKit Go.Proofs
section
variable {Q : Worlds Tryz.prog} {g0 : Nat} {J : Jm}
abbrev I64 (n : Int) : Value := .int .i64 n
/-- the answer is a value of its own -/
abbrev Ret (v : Value) (J : Jm) : Value → Mm → Jm → Prop := fun w m' J' => w = v ∧ m' = [] ∧ J' = J

def named (k : Int) : Bool := decide (k = 2) || decide (k = 9)
def counts (k : Int) : Int × Int := if k = 4 then (4, 14) else if k = 5 then (1, 10) else if k = 6 ∨ k = 7 then (1, 4) else if k = 9 ∨ k = 11 then (0, 0) else (1, 1)
def limits (k i : Int) : Int × Int := if k = 1 then (1, 99) else if k = 2 then (1, 4) else if k = 3 then (0, 3) else if k = 6 then (0, 1000000000) else if k = 7 then (-1000000, 1000000) else if k = 8 then (1, 18) else
  if k = 4 then (if i = 0 then (0, 99) else if i = 1 then (1, 5) else if i = 2 then (-1, 3) else if i = 3 then (-1000000000, 1000000000) else (0, 9)) else (0, 9)
end
end Go.Opn
set_option maxRecDepth 100000
set_option linter.unusedVariables false
set_option linter.unusedSimpArgs false
namespace Go.Opn
open Go.Cre Go.RowKit Go.Proofs
section
variable {Q : Worlds Tryz.prog} {g0 : Nat} {J : Jm}
def blanksL : List Bool := [false, false, false, false, false, false, false, false, false, true, true, false, false, false, false, false, false, false, false, false, false, false, false, false, false, false, false, false, false, false, false, false, true]
def signsL : List Bool := [false, false, false, false, false, false, false, false, false, false, false, false, false, false, false, false, false, false, false, false, false, false, false, false, false, false, false, false, false, false, false, false, false, true, false, false, false, true, false, false, true, true, true, true, true, true, true, true, false, false, false, false, false, false, false, false, false, false, true, true, true, true, true, false, false, false, false, false, false, false, false, false, false, false, false, false, false, false, false, false, false, false, false, false, false, false, false, false, false, false, false, false, false, false, false, false, false, false, false, false, false, false, false, false, false, false, false, false, false, false, false, false, false, false, false, false, false, false, false, false, false, false, false, true, false, true]
structure Gl (g0 : Nat) (J : Jm) : Prop where
  g1 : Nat.blt 0 g0 = true
  g2 : Nat.blt 1 g0 = true
  b : ∃ e, J 0 = some (blanksL.map Value.bool, e)
  s : ∃ e, J 1 = some (signsL.map Value.bool, e)
theorem Gl.mono {J' : Jm} (h : Gl g0 J) (hle : J.le J') : Gl g0 J' := ⟨h.g1, h.g2, h.b.imp fun _ q => hle _ _ q, h.s.imp fun _ q => hle _ _ q⟩
abbrev isBlank (c : Nat) : Prop := c = 9 ∨ c = 10 ∨ c = 32
abbrev isLetter (c : Nat) : Prop := 97 ≤ c ∧ c ≤ 122 ∨ 65 ≤ c ∧ c ≤ 90 ∨ c = 95
abbrev isDigit (c : Nat) : Prop := 48 ≤ c ∧ c ≤ 57
abbrev isSign (c : Nat) : Prop := signsL[c]? = some true
def cls (c : Nat) : Int := if isBlank c then 1 else if isLetter c then 2 else if isDigit c then 3 else if isSign c then 4 else 0
theorem tab_at {l : List Bool} {c : Nat} {b : Bool} (h : l[c]? = some b) : nth (l.map Value.bool) (0 + ((c : Nat) : Int).toNat * 1) = some (.bool b) := by
  rw [nth_eq, List.getElem?_map]; simp [h]
theorem blank_tab : ∀ c, c < 33 → blanksL[c]? = some (decide (isBlank c)) := by decide
theorem sign_tab : ∀ c, c < 126 → signsL[c]? = some (decide (isSign c)) := by decide
theorem classOf_fn (hG : Gl g0 J) {c : Nat} (hc : c < 256) : Fn (kx Q g0) 71 [.int .u8 c] [] J (Ret (.int .i64 (cls c)) J) := by
  obtain ⟨g1, g2, ⟨eb, hb⟩, ⟨es, hs⟩⟩ := hG
  refine Fn.of_body (ftGet Tryz.func71) rfl rfl fun H => ?_
  refine rg ?_
  refine Sa V.asg ?_
  refine Wn ?_
  refine sq ?_
  refine WC.block ?_
  refine' WC.weak (l' := [(0, _)]) ⟨rfl, trivial⟩ (List.Sublist.refl _) ?_
  refine sq ?_
  refine' WC.cutK 0 [(3, .bool (decide (isBlank c)))] ?cr1 ?dr1
  case cr1 =>
   refine WC.region ?_
   refine Sa V.mv ?_
   refine Sa V.cv ?_
   refine Sa V.vi ?_
   refine Sa V.mv ?_
   first | refine W.splitP (d := 7) rfl (fun gr1_3 => ?_) (fun gr1_3 => ?_) | refine W.split (d := 7) rfl (fun gr1_3 => ?_) (fun gr1_3 => ?_)
   ·
    have hv9 := tab_at (blank_tab c (by omega))
    refine Sb V.mv ?_
    refine' W.guardY rfl rfl rfl (Exec.val rfl rfl (v_indexGlob rfl ?hg ?hJ rfl (tAr rfl) ?h0 ?h1) ?_)
    case hJ => assumption
    case hg => assumption
    case h0 => first | omega | (simp; omega)
    case h1 => first | omega | (simp; omega)
    refine Sb V.ld ?_
    refine Sa V.pk ?_
    refine Sa V.asg ?_
    refine Wn ?_
    refine' ⟨⟨_, rfl, ⟨?n3, rfl, trivial⟩⟩, List.Sublist.refl _, rfl⟩
    case n3 => first | exact cutT rfl (by first | omega | (intro q; omega) | exact Iff.rfl) | exact cutF rfl (by first | omega | (intro q; omega) | exact Iff.rfl) | exact cutI rfl (by first | omega | (intro q; omega) | exact Iff.rfl) | exact cutB rfl (by first | omega | (intro q; omega) | exact Iff.rfl)
   ·
    refine Sn ?_
    refine W.guardN rfl rfl rfl rfl rfl ?_
    refine Sn ?_
    refine Sa V.pk ?_
    refine Sa V.asg ?_
    refine Wn ?_
    refine' ⟨⟨_, rfl, ⟨?n3, rfl, trivial⟩⟩, List.Sublist.refl _, rfl⟩
    case n3 => first | exact cutT rfl (by first | omega | (intro q; omega) | exact Iff.rfl) | exact cutF rfl (by first | omega | (intro q; omega) | exact Iff.rfl) | exact cutI rfl (by first | omega | (intro q; omega) | exact Iff.rfl) | exact cutB rfl (by first | omega | (intro q; omega) | exact Iff.rfl)
  case dr1 =>
   refine sq ?_
   first | refine WC.if rfl (fun c3 => ?_) (fun c3 => ?_) | refine WC.cond rfl (fun c3 => ?_) (fun c3 => ?_)
   ·
    refine rg ?_
    refine Sa V.asg ?_
    refine Wn ?_
    refine sq ?_
    refine WC.ret ?_
    refine' ⟨.inr rfl, rfl, _, [], .tmp rfl .nil, List.nil_sublist _, ?_⟩
    (refine ⟨congrArg (Value.int .i64) ?_, rfl, rfl⟩; unfold cls; repeat (first | rw [if_pos (by assumption)] | rw [if_neg (by assumption)]))
   ·
    refine' WC.weak (l' := [(0, _)]) ⟨rfl, trivial⟩ (List.Sublist.refl _) ?_
    refine sq ?_
    refine' WC.cutK 0 [(12, .bool (decide (isLetter c)))] ?cr3 ?dr3
    case cr3 =>
     refine WC.region ?_
     refine Sa V.mv ?_
     refine Sa V.vi ?_
     refine Sa V.mv ?_
     first | refine W.splitP (d := 15) rfl (fun gr3_2 => ?_) (fun gr3_2 => ?_) | refine W.split (d := 15) rfl (fun gr3_2 => ?_) (fun gr3_2 => ?_)
     ·
      refine Sb V.mv ?_
      refine Sb V.vi ?_
      refine Sa V.pk ?_
      refine Sa V.mv ?_
      first | refine W.splitP (d := 19) rfl (fun gr3_6 => ?_) (fun gr3_6 => ?_) | refine W.split (d := 19) rfl (fun gr3_6 => ?_) (fun gr3_6 => ?_)
      ·
       refine Sn ?_
       refine Sn ?_
       refine Sn ?_
       refine Su ?_
       refine Su ?_
       refine Sn ?_
       refine Sa V.pk ?_
       refine Sa V.mv ?_
       refine Sn ?_
       refine Sn ?_
       refine Sa V.pk ?_
       refine Sa V.asg ?_
       refine Wn ?_
       refine' ⟨⟨_, rfl, ⟨?n12, rfl, trivial⟩⟩, List.Sublist.refl _, rfl⟩
       case n12 => first | exact cutT rfl (by first | omega | exact Iff.rfl) | exact cutF rfl (by first | omega | exact Iff.rfl) | exact cutI rfl (by first | omega | exact Iff.rfl) | exact cutB rfl (by first | omega | exact Iff.rfl)
      ·
       refine Sb V.mv ?_
       refine Sb V.vi ?_
       refine Sb V.mv ?_
       first | refine W.splitP (d := 22) rfl (fun gr3_9 => ?_) (fun gr3_9 => ?_) | refine W.split (d := 22) rfl (fun gr3_9 => ?_) (fun gr3_9 => ?_)
       ·
        refine Sb V.mv ?_
        refine Sb V.vi ?_
        refine Sb V.pk ?_
        refine Sa V.pk ?_
        refine Sa V.mv ?_
        first | refine W.splitP (d := 27) rfl (fun gr3_14 => ?_) (fun gr3_14 => ?_) | refine W.split (d := 27) rfl (fun gr3_14 => ?_) (fun gr3_14 => ?_)
        ·
         refine Sn ?_
         refine Sn ?_
         refine Sa V.pk ?_
         refine Sa V.asg ?_
         refine Wn ?_
         refine' ⟨⟨_, rfl, ⟨?n12, rfl, trivial⟩⟩, List.Sublist.refl _, rfl⟩
         case n12 => first | exact cutT rfl (by first | omega | exact Iff.rfl) | exact cutF rfl (by first | omega | exact Iff.rfl) | exact cutI rfl (by first | omega | exact Iff.rfl) | exact cutB rfl (by first | omega | exact Iff.rfl)
        ·
         refine Sb V.mv ?_
         refine Sb V.vi ?_
         refine Sa V.pk ?_
         refine Sa V.asg ?_
         refine Wn ?_
         refine' ⟨⟨_, rfl, ⟨?n12, rfl, trivial⟩⟩, List.Sublist.refl _, rfl⟩
         case n12 => first | exact cutT rfl (by first | omega | exact Iff.rfl) | exact cutF rfl (by first | omega | exact Iff.rfl) | exact cutI rfl (by first | omega | exact Iff.rfl) | exact cutB rfl (by first | omega | exact Iff.rfl)
       ·
        refine Sn ?_
        refine Sn ?_
        refine Sb V.pk ?_
        refine Sa V.pk ?_
        refine Sa V.mv ?_
        refine Sb V.mv ?_
        refine Sb V.vi ?_
        refine Sa V.pk ?_
        refine Sa V.asg ?_
        refine Wn ?_
        refine' ⟨⟨_, rfl, ⟨?n12, rfl, trivial⟩⟩, List.Sublist.refl _, rfl⟩
        case n12 => first | exact cutT rfl (by first | omega | exact Iff.rfl) | exact cutF rfl (by first | omega | exact Iff.rfl) | exact cutI rfl (by first | omega | exact Iff.rfl) | exact cutB rfl (by first | omega | exact Iff.rfl)
     ·
      refine Sn ?_
      refine Sn ?_
      refine Sa V.pk ?_
      refine Sa V.mv ?_
      refine Sb V.mv ?_
      refine Sb V.vi ?_
      refine Sb V.mv ?_
      first | refine W.splitP (d := 22) rfl (fun gr3_9 => ?_) (fun gr3_9 => ?_) | refine W.split (d := 22) rfl (fun gr3_9 => ?_) (fun gr3_9 => ?_)
      ·
       refine Sb V.mv ?_
       refine Sb V.vi ?_
       refine Sb V.pk ?_
       refine Sa V.pk ?_
       refine Sa V.mv ?_
       first | refine W.splitP (d := 27) rfl (fun gr3_14 => ?_) (fun gr3_14 => ?_) | refine W.split (d := 27) rfl (fun gr3_14 => ?_) (fun gr3_14 => ?_)
       ·
        refine Sn ?_
        refine Sn ?_
        refine Sa V.pk ?_
        refine Sa V.asg ?_
        refine Wn ?_
        refine' ⟨⟨_, rfl, ⟨?n12, rfl, trivial⟩⟩, List.Sublist.refl _, rfl⟩
        case n12 => first | exact cutT rfl (by first | omega | exact Iff.rfl) | exact cutF rfl (by first | omega | exact Iff.rfl) | exact cutI rfl (by first | omega | exact Iff.rfl) | exact cutB rfl (by first | omega | exact Iff.rfl)
       ·
        refine Sb V.mv ?_
        refine Sb V.vi ?_
        refine Sa V.pk ?_
        refine Sa V.asg ?_
        refine Wn ?_
        refine' ⟨⟨_, rfl, ⟨?n12, rfl, trivial⟩⟩, List.Sublist.refl _, rfl⟩
        case n12 => first | exact cutT rfl (by first | omega | exact Iff.rfl) | exact cutF rfl (by first | omega | exact Iff.rfl) | exact cutI rfl (by first | omega | exact Iff.rfl) | exact cutB rfl (by first | omega | exact Iff.rfl)
      ·
       refine Sn ?_
       refine Sn ?_
       refine Sb V.pk ?_
       refine Sa V.pk ?_
       refine Sa V.mv ?_
       refine Sb V.mv ?_
       refine Sb V.vi ?_
       refine Sa V.pk ?_
       refine Sa V.asg ?_
       refine Wn ?_
       refine' ⟨⟨_, rfl, ⟨?n12, rfl, trivial⟩⟩, List.Sublist.refl _, rfl⟩
       case n12 => first | exact cutT rfl (by first | omega | exact Iff.rfl) | exact cutF rfl (by first | omega | exact Iff.rfl) | exact cutI rfl (by first | omega | exact Iff.rfl) | exact cutB rfl (by first | omega | exact Iff.rfl)
    case dr3 =>
     refine sq ?_
     first | refine WC.if rfl (fun c12 => ?_) (fun c12 => ?_) | refine WC.cond rfl (fun c12 => ?_) (fun c12 => ?_)
     ·
      refine rg ?_
      refine Sa V.asg ?_
      refine Wn ?_
      refine sq ?_
      refine WC.ret ?_
      refine' ⟨.inr rfl, rfl, _, [], .tmp rfl .nil, List.nil_sublist _, ?_⟩
      (refine ⟨congrArg (Value.int .i64) ?_, rfl, rfl⟩; unfold cls; repeat (first | rw [if_pos (by assumption)] | rw [if_neg (by assumption)]))
     ·
      refine' WC.weak (l' := [(0, _)]) ⟨rfl, trivial⟩ (List.Sublist.refl _) ?_
      refine sq ?_
      refine' WC.cutK 0 [(31, .bool (decide (isDigit c)))] ?cr5 ?dr5
      case cr5 =>
       refine WC.region ?_
       refine Sa V.mv ?_
       refine Sa V.vi ?_
       refine Sa V.mv ?_
       first | refine W.splitP (d := 34) rfl (fun gr5_2 => ?_) (fun gr5_2 => ?_) | refine W.split (d := 34) rfl (fun gr5_2 => ?_) (fun gr5_2 => ?_)
       ·
        refine Sb V.mv ?_
        refine Sb V.vi ?_
        refine Sa V.pk ?_
        refine Sa V.asg ?_
        refine Wn ?_
        refine' ⟨⟨_, rfl, ⟨?n31, rfl, trivial⟩⟩, List.Sublist.refl _, rfl⟩
        case n31 => first | exact cutT rfl (by first | omega | exact Iff.rfl) | exact cutF rfl (by first | omega | exact Iff.rfl) | exact cutI rfl (by first | omega | exact Iff.rfl) | exact cutB rfl (by first | omega | exact Iff.rfl)
       ·
        refine Sn ?_
        refine Sn ?_
        refine Sa V.pk ?_
        refine Sa V.asg ?_
        refine Wn ?_
        refine' ⟨⟨_, rfl, ⟨?n31, rfl, trivial⟩⟩, List.Sublist.refl _, rfl⟩
        case n31 => first | exact cutT rfl (by first | omega | exact Iff.rfl) | exact cutF rfl (by first | omega | exact Iff.rfl) | exact cutI rfl (by first | omega | exact Iff.rfl) | exact cutB rfl (by first | omega | exact Iff.rfl)
      case dr5 =>
       refine sq ?_
       first | refine WC.if rfl (fun c31 => ?_) (fun c31 => ?_) | refine WC.cond rfl (fun c31 => ?_) (fun c31 => ?_)
       ·
        refine rg ?_
        refine Sa V.asg ?_
        refine Wn ?_
        refine sq ?_
        refine WC.ret ?_
        refine' ⟨.inr rfl, rfl, _, [], .tmp rfl .nil, List.nil_sublist _, ?_⟩
        (refine ⟨congrArg (Value.int .i64) ?_, rfl, rfl⟩; unfold cls; repeat (first | rw [if_pos (by assumption)] | rw [if_neg (by assumption)]))
       ·
        refine' WC.weak (l' := [(0, _)]) ⟨rfl, trivial⟩ (List.Sublist.refl _) ?_
        refine sq ?_
        refine' WC.cutK 1 [(38, .bool (decide (isSign c)))] ?cr7 ?dr7
        case cr7 =>
         refine WC.region ?_
         refine Sa V.mv ?_
         refine Sa V.cv ?_
         refine Sa V.vi ?_
         refine Sa V.mv ?_
         first | refine W.splitP (d := 42) rfl (fun gr7_3 => ?_) (fun gr7_3 => ?_) | refine W.split (d := 42) rfl (fun gr7_3 => ?_) (fun gr7_3 => ?_)
         ·
          have hv44 := tab_at (sign_tab c (by omega))
          refine Sb V.mv ?_
          refine' W.guardY rfl rfl rfl (Exec.val rfl rfl (v_indexGlob rfl ?hg ?hJ rfl (tAr rfl) ?h0 ?h1) ?_)
          case hJ => assumption
          case hg => assumption
          case h0 => first | omega | (simp; omega)
          case h1 => first | omega | (simp; omega)
          refine Sb V.ld ?_
          refine Sa V.pk ?_
          refine Sa V.asg ?_
          refine Wn ?_
          refine' ⟨⟨_, rfl, ⟨?n38, trivial⟩⟩, List.Sublist.refl _, rfl⟩
          case n38 => first | exact cutT rfl (by first | (intro q; unfold isSign at q; rw [List.getElem?_eq_none (by show 126 ≤ c; omega)] at q; cases q) | exact Iff.rfl) | exact cutF rfl (by first | (intro q; unfold isSign at q; rw [List.getElem?_eq_none (by show 126 ≤ c; omega)] at q; cases q) | exact Iff.rfl) | exact cutI rfl (by first | (intro q; unfold isSign at q; rw [List.getElem?_eq_none (by show 126 ≤ c; omega)] at q; cases q) | exact Iff.rfl) | exact cutB rfl (by first | (intro q; unfold isSign at q; rw [List.getElem?_eq_none (by show 126 ≤ c; omega)] at q; cases q) | exact Iff.rfl)
         ·
          refine Sn ?_
          refine W.guardN rfl rfl rfl rfl rfl ?_
          refine Sn ?_
          refine Sa V.pk ?_
          refine Sa V.asg ?_
          refine Wn ?_
          refine' ⟨⟨_, rfl, ⟨?n38, trivial⟩⟩, List.Sublist.refl _, rfl⟩
          case n38 => first | exact cutT rfl (by first | (intro q; unfold isSign at q; rw [List.getElem?_eq_none (by show 126 ≤ c; omega)] at q; cases q) | exact Iff.rfl) | exact cutF rfl (by first | (intro q; unfold isSign at q; rw [List.getElem?_eq_none (by show 126 ≤ c; omega)] at q; cases q) | exact Iff.rfl) | exact cutI rfl (by first | (intro q; unfold isSign at q; rw [List.getElem?_eq_none (by show 126 ≤ c; omega)] at q; cases q) | exact Iff.rfl) | exact cutB rfl (by first | (intro q; unfold isSign at q; rw [List.getElem?_eq_none (by show 126 ≤ c; omega)] at q; cases q) | exact Iff.rfl)
        case dr7 =>
         refine sq ?_
         first | refine WC.if rfl (fun c38 => ?_) (fun c38 => ?_) | refine WC.cond rfl (fun c38 => ?_) (fun c38 => ?_)
         ·
          refine rg ?_
          refine Sa V.asg ?_
          refine Wn ?_
          refine sq ?_
          refine WC.ret ?_
          refine' ⟨.inr rfl, rfl, _, [], .tmp rfl .nil, List.nil_sublist _, ?_⟩
          (refine ⟨congrArg (Value.int .i64) ?_, rfl, rfl⟩; unfold cls; repeat (first | rw [if_pos (by assumption)] | rw [if_neg (by assumption)]))
         ·
          refine sq ?_
          refine WC.skip ?_
          refine rg ?_
          refine Sa V.asg ?_
          refine Wn ?_
          refine sq ?_
          refine WC.ret ?_
          refine' ⟨.inr rfl, rfl, _, [], .tmp rfl .nil, List.nil_sublist _, ?_⟩
          (refine ⟨congrArg (Value.int .i64) ?_, rfl, rfl⟩; unfold cls; repeat (first | rw [if_pos (by assumption)] | rw [if_neg (by assumption)]))
end
end Go.Opn
set_option maxRecDepth 100000
set_option linter.unusedVariables false
set_option linter.unusedSimpArgs false
namespace Go.Opn
open Go.Cre Go.RowKit Go.Proofs
section
variable {Q : Worlds Tryz.prog} {g0 : Nat} {J : Jm}
/-- some truth value -/
abbrev RetB (J : Jm) : Value → Mm → Jm → Prop := fun w m' J' => (∃ b, w = .bool b) ∧ m' = [] ∧ J' = J
end
abbrev ld (b : UInt8) : Prop := isLetter b.toNat ∨ isDigit b.toNat
/-- names -/
def isNm (s : List UInt8) : Bool := (match s with | [] => false | b :: _ => decide (isLetter b.toNat)) && s.all (fun b => decide (ld b)) && decide (s.length ≤ 40)
def ldAt (s : List UInt8) (j : Nat) : Bool := match s[j]? with | some b => decide (ld b) | none => false
theorem isNm_first {s : List UInt8} {b : UInt8} (h : s[0]? = some b) (hb : ¬ isLetter b.toNat) : isNm s = false := by
  cases s with
  | nil => rfl
  | cons a s =>
    simp at h; subst h
    unfold isNm
    simp only [decide_eq_false hb, Bool.false_and]
theorem isNm_iff {s : List UInt8} {b : UInt8} {j : Nat} (h : s[0]? = some b) (hb : isLetter b.toNat) (hj : j ≤ s.length) (h1 : ∀ i, i < j → ldAt s i = true) (h2 : j < s.length → ldAt s j = false) : isNm s = true ↔ (j = s.length ∧ j ≤ 40) := by
  have hall : s.all (fun b => decide (ld b)) = true ↔ j = s.length := by
    rw [List.all_eq_true]
    constructor
    · intro q
      rcases Nat.lt_or_ge j s.length with r | r
      · have := h2 r
        unfold ldAt at this
        rw [List.getElem?_eq_getElem r] at this
        simp only at this
        rw [q _ (List.getElem_mem r)] at this; cases this
      · omega
    · intro q c hc
      obtain ⟨i, hi, rfl⟩ := List.mem_iff_getElem.1 hc
      have := h1 i (by omega)
      unfold ldAt at this
      rwa [List.getElem?_eq_getElem hi] at this
  cases s with
  | nil => cases h
  | cons a s =>
    simp at h; subst h
    unfold isNm
    simp only [decide_eq_true hb, Bool.true_and, Bool.and_eq_true, hall, decide_eq_true_eq]
    constructor
    · rintro ⟨q1, q2⟩; exact ⟨q1, by omega⟩
    · rintro ⟨q1, q2⟩; exact ⟨q1, by omega⟩
theorem ldAt_lt {s : List UInt8} {j : Nat} (h : ldAt s j = true) : j < s.length := by
  rcases Nat.lt_or_ge j s.length with q | q
  · exact q
  · unfold ldAt at h; rw [List.getElem?_eq_none q] at h; cases h
theorem isNm_nil : isNm [] = false := rfl
def rise (k : Int) : Int := if k = 5 then 0 else if k = 4 then 4 else 100
def FormBad (k : Int) (tx : List UInt8) (N : List Int) : Prop := (named k = true ∧ isNm tx = false) ∨ (named k = false ∧ tx ≠ []) ∨ N.length < (counts k).1 ∨ (counts k).2 < N.length ∨ (k = 4 ∧ 4 < N.length ∧ N[1]? ≠ some 3)
instance (k : Int) (tx : List UInt8) (N : List Int) : Decidable (FormBad k tx N) := by unfold FormBad; infer_instance
def RangeBad (k : Int) (N : List Int) : Prop := ∃ (i : Nat) (x : Int), N[i]? = some x ∧ (x < (limits k i).1 ∨ (limits k i).2 < x)
def OrderBad (k : Int) (N : List Int) : Prop := ∃ (i : Nat) (x y : Int), rise k < i ∧ N[i]? = some x ∧ N[i - 1]? = some y ∧ x ≤ y
open Classical in
noncomputable def chk (k : Int) (tx : List UInt8) (N : List Int) : Int := if k < 1 ∨ 11 < k then 7 else if FormBad k tx N then 3 else if RangeBad k N then 2 else if OrderBad k N then 9 else 0
section
variable {k : Int} {tx : List UInt8} {N : List Int}
theorem chk_7 (h : k < 1 ∨ 11 < k) : chk k tx N = 7 := by unfold chk; rw [if_pos h]
theorem chk_3 (h : ¬ (k < 1 ∨ 11 < k)) (hf : FormBad k tx N) : chk k tx N = 3 := by unfold chk; rw [if_neg h, if_pos hf]
theorem chk_2 (h : ¬ (k < 1 ∨ 11 < k)) (hf : ¬ FormBad k tx N) (hr : RangeBad k N) : chk k tx N = 2 := by unfold chk; rw [if_neg h, if_neg hf, if_pos hr]
theorem chk_9 (h : ¬ (k < 1 ∨ 11 < k)) (hf : ¬ FormBad k tx N) (hr : ¬ RangeBad k N) (ho : OrderBad k N) : chk k tx N = 9 := by unfold chk; rw [if_neg h, if_neg hf, if_neg hr, if_pos ho]
theorem chk_0 (h : ¬ (k < 1 ∨ 11 < k)) (hf : ¬ FormBad k tx N) (hr : ¬ RangeBad k N) (ho : ¬ OrderBad k N) : chk k tx N = 0 := by unfold chk; rw [if_neg h, if_neg hf, if_neg hr, if_neg ho]
/-- what a valid line has -/
theorem chk_ok (h : chk k tx N = 0) : ¬ (k < 1 ∨ 11 < k) ∧ ¬ FormBad k tx N ∧ ¬ RangeBad k N ∧ ¬ OrderBad k N := by
  unfold chk at h
  split at h
  · cases h
  · split at h
    · cases h
    · split at h
      · cases h
      · split at h
        · cases h
        · exact ⟨by assumption, by assumption, by assumption, by assumption⟩
end
theorem counts_le (k : Int) : (counts k).2 ≤ 14 := by
  unfold counts
  repeat (split; simp)
  simp
theorem form_mix {k : Int} {tx : List UInt8} {N : List Int} (h : ¬ named k = decide (¬ tx = [])) : FormBad k tx N := by
  unfold FormBad
  cases hn : named k with
  | true =>
    rw [hn] at h
    have : tx = [] := by
      apply Classical.byContradiction; intro q; exact h (by simp [q])
    exact .inl ⟨rfl, by rw [this]; rfl⟩
  | false =>
    rw [hn] at h
    have : tx ≠ [] := by intro q; exact h (by simp [q])
    exact .inr (.inl ⟨rfl, this⟩)
def fr (k : Int) (n : Nat) : Nat := if k = 4 then 4 else if k = 5 then 0 else n
theorem order_iff {k : Int} {tx : List UInt8} {N : List Int} (hf : ¬ FormBad k tx N) : OrderBad k N ↔ ∃ (i : Nat) (x y : Int), fr k N.length < i ∧ N[i]? = some x ∧ N[i - 1]? = some y ∧ x ≤ y := by
  have hlen : N.length ≤ 14 := by
    have h1 := counts_le k
    have : ¬ (counts k).2 < N.length := fun q => hf (.inr (.inr (.inr (.inl q))))
    omega
  unfold OrderBad rise fr
  constructor
  · rintro ⟨i, x, y, h1, h2, h3, h4⟩
    have hi : i < N.length := (List.getElem?_eq_some_iff.1 h2).1
    refine ⟨i, x, y, ?_, h2, h3, h4⟩
    by_cases h5 : k = 5
    · subst h5; simp at h1 ⊢; omega
    · rw [if_neg h5] at h1
      by_cases h4' : k = 4
      · subst h4'; simp at h1 ⊢; omega
      · rw [if_neg h4'] at h1; omega
  · rintro ⟨i, x, y, h1, h2, h3, h4⟩
    have hi : i < N.length := (List.getElem?_eq_some_iff.1 h2).1
    refine ⟨i, x, y, ?_, h2, h3, h4⟩
    by_cases h4' : k = 4
    · subst h4'; simp at h1 ⊢; omega
    · rw [if_neg h4'] at h1
      by_cases h5 : k = 5
      · subst h5; simp at h1 ⊢; omega
      · rw [if_neg h5] at h1; omega
section
variable {Q : Worlds Tryz.prog} {g0 : Nat} {J : Jm}
abbrev lineV (k : Int) (tx : List UInt8) (v : Value) : Value := .agg #[.int .i64 k, .string ⟨⟨tx⟩⟩, v]
end
end Go.Opn

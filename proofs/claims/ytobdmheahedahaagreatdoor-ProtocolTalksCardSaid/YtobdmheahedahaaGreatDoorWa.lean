/- A part of the proof of ProtocolTalks. -/
import Derived.Test.YtobdmheahedahaaGreatDoorK0
set_option maxRecDepth 100000
set_option linter.unusedVariables false
set_option linter.unusedSimpArgs false
namespace Go.Opn
open Go.Cre Go.RowKit Go.Proofs
section
variable {Q : Worlds Tryz.prog} {g0 : Nat} {J : Jm}
abbrev I64 (n : Int) : Value := .int .i64 n
/-- the answer is a value of its own -/
abbrev Ret (v : Value) (J : Jm) : Value → Mm → Jm → Prop := fun w m' J' => w = v ∧ m' = [] ∧ J' = J

def named (k : Int) : Bool := decide (k = 2) || decide (k = 9)
theorem named_fn {k : Int} : Fn (kx Q g0) 37 [.int .i64 k] [] J (Ret (.bool (named k)) J) := by
  refine Fn.of_body (ftGet Tryz.func37) rfl rfl fun H => ?_
  refine rg ?_
  refine Sa V.asg ?_
  refine Wn ?_
  refine rg ?_
  refine Sa V.mv ?_
  refine Sa V.vi ?_
  refine Sa V.mv ?_
  first | refine W.splitP (d := 5) rfl (fun gr1_2 => ?_) (fun gr1_2 => ?_) | refine W.split (d := 5) rfl (fun gr1_2 => ?_) (fun gr1_2 => ?_)
  ·
   refine Sn ?_
   refine Sn ?_
   refine Sa V.pk ?_
   refine Sa V.asg ?_
   refine Wn ?_
   refine sq ?_
   refine WC.ret ?_
   refine' ⟨.inr rfl, rfl, _, [], .tmp rfl .nil, List.nil_sublist _, ?_⟩
   simp_all [oneOrTuple, named, Ret]
  ·
   refine Sb V.mv ?_
   refine Sb V.vi ?_
   refine Sa V.pk ?_
   refine Sa V.asg ?_
   refine Wn ?_
   refine sq ?_
   refine WC.ret ?_
   refine' ⟨.inr rfl, rfl, _, [], .tmp rfl .nil, List.nil_sublist _, ?_⟩
   simp_all [oneOrTuple, named, Ret]
def counts (k : Int) : Int × Int := if k = 4 then (4, 14) else if k = 5 then (1, 10) else if k = 6 ∨ k = 7 then (1, 4) else if k = 9 ∨ k = 11 then (0, 0) else (1, 1)
theorem counts_fn {k : Int} : Fn (kx Q g0) 36 [.int .i64 k] [] J (Ret (.tuple #[.int .i64 (counts k).1, .int .i64 (counts k).2]) J) := by
  refine Fn.of_body (ftGet Tryz.func36) rfl rfl fun H => ?_
  refine rg ?_
  refine Sa V.asg ?_
  refine Sa V.asg ?_
  refine Wn ?_
  refine rg ?_
  refine Sa V.mv ?_
  refine Wn ?_
  refine sq ?_
  refine WC.block ?_
  refine rg ?_
  refine Sa V.vi ?_
  refine Sa V.asg ?_
  refine Wn ?_
  refine sq ?_
  first | refine WC.if rfl (fun c5 => ?_) (fun c5 => ?_) | refine WC.cond rfl (fun c5 => ?_) (fun c5 => ?_)
  ·
   refine rg ?_
   refine Sa V.asg ?_
   refine Sa V.asg ?_
   refine Wn ?_
   refine sq ?_
   refine WC.ret ?_
   refine' ⟨.inr rfl, rfl, _, [], .tmp rfl (.tmp rfl .nil), List.nil_sublist _, ?_⟩
   simp_all [oneOrTuple, counts, Ret]
  ·
   refine rg ?_
   refine Sa V.vi ?_
   refine Sa V.asg ?_
   refine Wn ?_
   refine sq ?_
   first | refine WC.if rfl (fun c7 => ?_) (fun c7 => ?_) | refine WC.cond rfl (fun c7 => ?_) (fun c7 => ?_)
   ·
    refine rg ?_
    refine Sa V.asg ?_
    refine Sa V.asg ?_
    refine Wn ?_
    refine sq ?_
    refine WC.ret ?_
    refine' ⟨.inr rfl, rfl, _, [], .tmp rfl (.tmp rfl .nil), List.nil_sublist _, ?_⟩
    simp_all [oneOrTuple, counts, Ret]
   ·
    refine rg ?_
    refine Sa V.vi ?_
    refine Sa V.asg ?_
    refine Wn ?_
    refine sq ?_
    first | refine WC.if rfl (fun c9 => ?_) (fun c9 => ?_) | refine WC.cond rfl (fun c9 => ?_) (fun c9 => ?_)
    ·
     refine sq ?_
     refine WC.skip ?_
     refine sq ?_
     first | refine WC.if rfl (fun c9 => ?_) (fun c9 => ?_) | refine WC.cond rfl (fun c9 => ?_) (fun c9 => ?_)
     ·
      refine rg ?_
      refine Sa V.asg ?_
      refine Sa V.asg ?_
      refine Wn ?_
      refine sq ?_
      refine WC.ret ?_
      refine' ⟨.inr rfl, rfl, _, [], .tmp rfl (.tmp rfl .nil), List.nil_sublist _, ?_⟩
      simp_all [oneOrTuple, counts, Ret]
     ·
      refine rg ?_
      refine Sa V.vi ?_
      refine Sa V.asg ?_
      refine Wn ?_
      refine sq ?_
      first | refine WC.if rfl (fun c12 => ?_) (fun c12 => ?_) | refine WC.cond rfl (fun c12 => ?_) (fun c12 => ?_)
      ·
       refine sq ?_
       refine WC.skip ?_
       refine sq ?_
       first | refine WC.if rfl (fun c12 => ?_) (fun c12 => ?_) | refine WC.cond rfl (fun c12 => ?_) (fun c12 => ?_)
       ·
        refine rg ?_
        refine Sa V.asg ?_
        refine Sa V.asg ?_
        refine Wn ?_
        refine sq ?_
        refine WC.ret ?_
        refine' ⟨.inr rfl, rfl, _, [], .tmp rfl (.tmp rfl .nil), List.nil_sublist _, ?_⟩
        simp_all [oneOrTuple, counts, Ret]
       ·
        refine sq ?_
        refine WC.skip ?_
        refine rg ?_
        refine Sa V.asg ?_
        refine Sa V.asg ?_
        refine Wn ?_
        refine sq ?_
        refine WC.ret ?_
        refine' ⟨.inr rfl, rfl, _, [], .tmp rfl (.tmp rfl .nil), List.nil_sublist _, ?_⟩
        simp_all [oneOrTuple, counts, Ret]
      ·
       refine rg ?_
       refine Sa V.vi ?_
       refine Sa V.asg ?_
       refine Wn ?_
       refine sq ?_
       first | refine WC.if rfl (fun c12 => ?_) (fun c12 => ?_) | refine WC.cond rfl (fun c12 => ?_) (fun c12 => ?_)
       ·
        refine rg ?_
        refine Sa V.asg ?_
        refine Sa V.asg ?_
        refine Wn ?_
        refine sq ?_
        refine WC.ret ?_
        refine' ⟨.inr rfl, rfl, _, [], .tmp rfl (.tmp rfl .nil), List.nil_sublist _, ?_⟩
        simp_all [oneOrTuple, counts, Ret]
       ·
        refine sq ?_
        refine WC.skip ?_
        refine rg ?_
        refine Sa V.asg ?_
        refine Sa V.asg ?_
        refine Wn ?_
        refine sq ?_
        refine WC.ret ?_
        refine' ⟨.inr rfl, rfl, _, [], .tmp rfl (.tmp rfl .nil), List.nil_sublist _, ?_⟩
        simp_all [oneOrTuple, counts, Ret]
    ·
     refine rg ?_
     refine Sa V.vi ?_
     refine Sa V.asg ?_
     refine Wn ?_
     refine sq ?_
     first | refine WC.if rfl (fun c9 => ?_) (fun c9 => ?_) | refine WC.cond rfl (fun c9 => ?_) (fun c9 => ?_)
     ·
      refine rg ?_
      refine Sa V.asg ?_
      refine Sa V.asg ?_
      refine Wn ?_
      refine sq ?_
      refine WC.ret ?_
      refine' ⟨.inr rfl, rfl, _, [], .tmp rfl (.tmp rfl .nil), List.nil_sublist _, ?_⟩
      simp_all [oneOrTuple, counts, Ret]
     ·
      refine rg ?_
      refine Sa V.vi ?_
      refine Sa V.asg ?_
      refine Wn ?_
      refine sq ?_
      first | refine WC.if rfl (fun c12 => ?_) (fun c12 => ?_) | refine WC.cond rfl (fun c12 => ?_) (fun c12 => ?_)
      ·
       refine sq ?_
       refine WC.skip ?_
       refine sq ?_
       first | refine WC.if rfl (fun c12 => ?_) (fun c12 => ?_) | refine WC.cond rfl (fun c12 => ?_) (fun c12 => ?_)
       ·
        refine rg ?_
        refine Sa V.asg ?_
        refine Sa V.asg ?_
        refine Wn ?_
        refine sq ?_
        refine WC.ret ?_
        refine' ⟨.inr rfl, rfl, _, [], .tmp rfl (.tmp rfl .nil), List.nil_sublist _, ?_⟩
        simp_all [oneOrTuple, counts, Ret]
       ·
        refine sq ?_
        refine WC.skip ?_
        refine rg ?_
        refine Sa V.asg ?_
        refine Sa V.asg ?_
        refine Wn ?_
        refine sq ?_
        refine WC.ret ?_
        refine' ⟨.inr rfl, rfl, _, [], .tmp rfl (.tmp rfl .nil), List.nil_sublist _, ?_⟩
        simp_all [oneOrTuple, counts, Ret]
      ·
       refine rg ?_
       refine Sa V.vi ?_
       refine Sa V.asg ?_
       refine Wn ?_
       refine sq ?_
       first | refine WC.if rfl (fun c12 => ?_) (fun c12 => ?_) | refine WC.cond rfl (fun c12 => ?_) (fun c12 => ?_)
       ·
        refine rg ?_
        refine Sa V.asg ?_
        refine Sa V.asg ?_
        refine Wn ?_
        refine sq ?_
        refine WC.ret ?_
        refine' ⟨.inr rfl, rfl, _, [], .tmp rfl (.tmp rfl .nil), List.nil_sublist _, ?_⟩
        simp_all [oneOrTuple, counts, Ret]
       ·
        refine sq ?_
        refine WC.skip ?_
        refine rg ?_
        refine Sa V.asg ?_
        refine Sa V.asg ?_
        refine Wn ?_
        refine sq ?_
        refine WC.ret ?_
        refine' ⟨.inr rfl, rfl, _, [], .tmp rfl (.tmp rfl .nil), List.nil_sublist _, ?_⟩
        simp_all [oneOrTuple, counts, Ret]
def limits (k i : Int) : Int × Int := if k = 1 then (1, 99) else if k = 2 then (1, 4) else if k = 3 then (0, 3) else if k = 6 then (0, 1000000000) else if k = 7 then (-1000000, 1000000) else if k = 8 then (1, 18) else
  if k = 4 then (if i = 0 then (0, 99) else if i = 1 then (1, 5) else if i = 2 then (-1, 3) else if i = 3 then (-1000000000, 1000000000) else (0, 9)) else (0, 9)
theorem limits_fn {k i : Int} : Fn (kx Q g0) 39 [.int .i64 k, .int .i64 i] [] J (Ret (.tuple #[.int .i64 (limits k i).1, .int .i64 (limits k i).2]) J) := by
  refine Fn.of_body (ftGet Tryz.func39) rfl rfl fun H => ?_
  refine rg ?_
  refine Sa V.asg ?_
  refine Sa V.asg ?_
  refine Wn ?_
  refine rg ?_
  refine Sa V.mv ?_
  refine Wn ?_
  refine sq ?_
  refine WC.block ?_
  refine rg ?_
  refine Sa V.vi ?_
  refine Sa V.asg ?_
  refine Wn ?_
  refine sq ?_
  first | refine WC.if rfl (fun c7 => ?_) (fun c7 => ?_) | refine WC.cond rfl (fun c7 => ?_) (fun c7 => ?_)
  ·
   refine rg ?_
   refine Sa V.asg ?_
   refine Sa V.asg ?_
   refine Wn ?_
   refine sq ?_
   refine WC.ret ?_
   refine' ⟨.inr rfl, rfl, _, [], .tmp rfl (.tmp rfl .nil), List.nil_sublist _, ?_⟩
   simp_all [oneOrTuple, limits, Ret]
  ·
   refine rg ?_
   refine Sa V.vi ?_
   refine Sa V.asg ?_
   refine Wn ?_
   refine sq ?_
   first | refine WC.if rfl (fun c9 => ?_) (fun c9 => ?_) | refine WC.cond rfl (fun c9 => ?_) (fun c9 => ?_)
   ·
    refine rg ?_
    refine Sa V.asg ?_
    refine Sa V.asg ?_
    refine Wn ?_
    refine sq ?_
    refine WC.ret ?_
    refine' ⟨.inr rfl, rfl, _, [], .tmp rfl (.tmp rfl .nil), List.nil_sublist _, ?_⟩
    simp_all [oneOrTuple, limits, Ret]
   ·
    refine rg ?_
    refine Sa V.vi ?_
    refine Sa V.asg ?_
    refine Wn ?_
    refine sq ?_
    first | refine WC.if rfl (fun c11 => ?_) (fun c11 => ?_) | refine WC.cond rfl (fun c11 => ?_) (fun c11 => ?_)
    ·
     refine rg ?_
     refine Sa V.asg ?_
     refine Sa V.asg ?_
     refine Wn ?_
     refine sq ?_
     refine WC.ret ?_
     refine' ⟨.inr rfl, rfl, _, [], .tmp rfl (.tmp rfl .nil), List.nil_sublist _, ?_⟩
     simp_all [oneOrTuple, limits, Ret]
    ·
     refine rg ?_
     refine Sa V.vi ?_
     refine Sa V.asg ?_
     refine Wn ?_
     refine sq ?_
     first | refine WC.if rfl (fun c13 => ?_) (fun c13 => ?_) | refine WC.cond rfl (fun c13 => ?_) (fun c13 => ?_)
     ·
      refine rg ?_
      refine Sa V.asg ?_
      refine Sa V.asg ?_
      refine Wn ?_
      refine sq ?_
      refine WC.ret ?_
      refine' ⟨.inr rfl, rfl, _, [], .tmp rfl (.tmp rfl .nil), List.nil_sublist _, ?_⟩
      simp_all [oneOrTuple, limits, Ret]
     ·
      refine rg ?_
      refine Sa V.vi ?_
      refine Sa V.asg ?_
      refine Wn ?_
      refine sq ?_
      first | refine WC.if rfl (fun c15 => ?_) (fun c15 => ?_) | refine WC.cond rfl (fun c15 => ?_) (fun c15 => ?_)
      ·
       refine rg ?_
       refine Sa V.asg ?_
       refine Sa V.asg ?_
       refine Wn ?_
       refine sq ?_
       refine WC.ret ?_
       refine' ⟨.inr rfl, rfl, _, [], .tmp rfl (.tmp rfl .nil), List.nil_sublist _, ?_⟩
       simp_all [oneOrTuple, limits, Ret]
      ·
       refine rg ?_
       refine Sa V.vi ?_
       refine Sa V.asg ?_
       refine Wn ?_
       refine sq ?_
       first | refine WC.if rfl (fun c17 => ?_) (fun c17 => ?_) | refine WC.cond rfl (fun c17 => ?_) (fun c17 => ?_)
       ·
        refine rg ?_
        refine Sa V.asg ?_
        refine Sa V.asg ?_
        refine Wn ?_
        refine sq ?_
        refine WC.ret ?_
        refine' ⟨.inr rfl, rfl, _, [], .tmp rfl (.tmp rfl .nil), List.nil_sublist _, ?_⟩
        simp_all [oneOrTuple, limits, Ret]
       ·
        refine rg ?_
        refine Sa V.vi ?_
        refine Sa V.asg ?_
        refine Wn ?_
        refine sq ?_
        first | refine WC.if rfl (fun c19 => ?_) (fun c19 => ?_) | refine WC.cond rfl (fun c19 => ?_) (fun c19 => ?_)
        ·
         refine rg ?_
         refine Sa V.mv ?_
         refine Wn ?_
         refine sq ?_
         refine WC.block ?_
         refine rg ?_
         refine Sa V.vi ?_
         refine Sa V.asg ?_
         refine Wn ?_
         refine sq ?_
         first | refine WC.if rfl (fun c22 => ?_) (fun c22 => ?_) | refine WC.cond rfl (fun c22 => ?_) (fun c22 => ?_)
         ·
          refine rg ?_
          refine Sa V.asg ?_
          refine Sa V.asg ?_
          refine Wn ?_
          refine sq ?_
          refine WC.ret ?_
          refine' ⟨.inr rfl, rfl, _, [], .tmp rfl (.tmp rfl .nil), List.nil_sublist _, ?_⟩
          simp_all [oneOrTuple, limits, Ret]
         ·
          refine rg ?_
          refine Sa V.vi ?_
          refine Sa V.asg ?_
          refine Wn ?_
          refine sq ?_
          first | refine WC.if rfl (fun c24 => ?_) (fun c24 => ?_) | refine WC.cond rfl (fun c24 => ?_) (fun c24 => ?_)
          ·
           refine rg ?_
           refine Sa V.asg ?_
           refine Sa V.asg ?_
           refine Wn ?_
           refine sq ?_
           refine WC.ret ?_
           refine' ⟨.inr rfl, rfl, _, [], .tmp rfl (.tmp rfl .nil), List.nil_sublist _, ?_⟩
           simp_all [oneOrTuple, limits, Ret]
          ·
           refine rg ?_
           refine Sa V.vi ?_
           refine Sa V.asg ?_
           refine Wn ?_
           refine sq ?_
           first | refine WC.if rfl (fun c26 => ?_) (fun c26 => ?_) | refine WC.cond rfl (fun c26 => ?_) (fun c26 => ?_)
           ·
            refine rg ?_
            refine Sa V.asg ?_
            refine Sa V.asg ?_
            refine Wn ?_
            refine sq ?_
            refine WC.ret ?_
            refine' ⟨.inr rfl, rfl, _, [], .tmp rfl (.tmp rfl .nil), List.nil_sublist _, ?_⟩
            simp_all [oneOrTuple, limits, Ret]
           ·
            refine rg ?_
            refine Sa V.vi ?_
            refine Sa V.asg ?_
            refine Wn ?_
            refine sq ?_
            first | refine WC.if rfl (fun c28 => ?_) (fun c28 => ?_) | refine WC.cond rfl (fun c28 => ?_) (fun c28 => ?_)
            ·
             refine rg ?_
             refine Sa V.asg ?_
             refine Sa V.asg ?_
             refine Wn ?_
             refine sq ?_
             refine WC.ret ?_
             refine' ⟨.inr rfl, rfl, _, [], .tmp rfl (.tmp rfl .nil), List.nil_sublist _, ?_⟩
             simp_all [oneOrTuple, limits, Ret]
            ·
             refine sq ?_
             refine WC.skip ?_
             refine rg ?_
             refine Sa V.asg ?_
             refine Sa V.asg ?_
             refine Wn ?_
             refine sq ?_
             refine WC.ret ?_
             refine' ⟨.inr rfl, rfl, _, [], .tmp rfl (.tmp rfl .nil), List.nil_sublist _, ?_⟩
             simp_all [oneOrTuple, limits, Ret]
        ·
         refine sq ?_
         refine WC.skip ?_
         refine rg ?_
         refine Sa V.asg ?_
         refine Sa V.asg ?_
         refine Wn ?_
         refine sq ?_
         refine WC.ret ?_
         refine' ⟨.inr rfl, rfl, _, [], .tmp rfl (.tmp rfl .nil), List.nil_sublist _, ?_⟩
         simp_all [oneOrTuple, limits, Ret]
end
end Go.Opn

/- A part of the proof of ProtocolTalks. -/
import Derived.Test.YtobdmheahedahaaGreatDoorWl
set_option maxRecDepth 100000
set_option linter.unusedVariables false
set_option linter.unusedSimpArgs false
namespace Go.Opn
open Go.Cre Go.RowKit Go.Proofs
section
variable {Q : Worlds Tryz.prog} {g0 : Nat} {J : Jm}
theorem m53_fn {k i : Int} {tx : List UInt8} {b : Option Addr} {n c : Nat} : Fn (kx Q g0) 53 [lineV k tx (.slice b n c), .int .i64 i] [] J (Ret (.tuple #[.int .i64 (1), .int .i64 (99)]) J) := by
  refine Fn.of_body (ftGet Tryz.func53) rfl rfl fun H => ?_
  refine rg ?_
  refine' W.step rfl (.of (x_box rfl rfl rfl rfl rfl rfl fun a2 => ?_))
  refine Sa V.asg ?_
  refine Sa V.asg ?_
  refine Wn ?_
  refine rg ?_
  refine Sa V.asg ?_
  refine Sa V.asg ?_
  refine Wn ?_
  refine sq ?_
  refine WC.ret ?_
  refine' ⟨.inr rfl, rfl, _, [], .tmp rfl (.tmp rfl .nil), List.nil_sublist _, ⟨rfl, rfl, rfl⟩⟩
theorem m54_fn {k i : Int} {tx : List UInt8} {b : Option Addr} {n c : Nat} : Fn (kx Q g0) 54 [lineV k tx (.slice b n c), .int .i64 i] [] J (Ret (.tuple #[.int .i64 (1), .int .i64 (4)]) J) := by
  refine Fn.of_body (ftGet Tryz.func54) rfl rfl fun H => ?_
  refine rg ?_
  refine' W.step rfl (.of (x_box rfl rfl rfl rfl rfl rfl fun a2 => ?_))
  refine Sa V.asg ?_
  refine Sa V.asg ?_
  refine Wn ?_
  refine rg ?_
  refine Sa V.asg ?_
  refine Sa V.asg ?_
  refine Wn ?_
  refine sq ?_
  refine WC.ret ?_
  refine' ⟨.inr rfl, rfl, _, [], .tmp rfl (.tmp rfl .nil), List.nil_sublist _, ⟨rfl, rfl, rfl⟩⟩
theorem m55_fn {k i : Int} {tx : List UInt8} {b : Option Addr} {n c : Nat} : Fn (kx Q g0) 55 [lineV k tx (.slice b n c), .int .i64 i] [] J (Ret (.tuple #[.int .i64 (0), .int .i64 (3)]) J) := by
  refine Fn.of_body (ftGet Tryz.func55) rfl rfl fun H => ?_
  refine rg ?_
  refine' W.step rfl (.of (x_box rfl rfl rfl rfl rfl rfl fun a2 => ?_))
  refine Sa V.asg ?_
  refine Sa V.asg ?_
  refine Wn ?_
  refine rg ?_
  refine Sa V.asg ?_
  refine Sa V.asg ?_
  refine Wn ?_
  refine sq ?_
  refine WC.ret ?_
  refine' ⟨.inr rfl, rfl, _, [], .tmp rfl (.tmp rfl .nil), List.nil_sublist _, ⟨rfl, rfl, rfl⟩⟩
theorem m57_fn {k i : Int} {tx : List UInt8} {b : Option Addr} {n c : Nat} : Fn (kx Q g0) 57 [lineV k tx (.slice b n c), .int .i64 i] [] J (Ret (.tuple #[.int .i64 (0), .int .i64 (9)]) J) := by
  refine Fn.of_body (ftGet Tryz.func57) rfl rfl fun H => ?_
  refine rg ?_
  refine' W.step rfl (.of (x_box rfl rfl rfl rfl rfl rfl fun a2 => ?_))
  refine Sa V.asg ?_
  refine Sa V.asg ?_
  refine Wn ?_
  refine rg ?_
  refine Sa V.asg ?_
  refine Sa V.asg ?_
  refine Wn ?_
  refine sq ?_
  refine WC.ret ?_
  refine' ⟨.inr rfl, rfl, _, [], .tmp rfl (.tmp rfl .nil), List.nil_sublist _, ⟨rfl, rfl, rfl⟩⟩
theorem m58_fn {k i : Int} {tx : List UInt8} {b : Option Addr} {n c : Nat} : Fn (kx Q g0) 58 [lineV k tx (.slice b n c), .int .i64 i] [] J (Ret (.tuple #[.int .i64 (0), .int .i64 (1000000000)]) J) := by
  refine Fn.of_body (ftGet Tryz.func58) rfl rfl fun H => ?_
  refine rg ?_
  refine' W.step rfl (.of (x_box rfl rfl rfl rfl rfl rfl fun a2 => ?_))
  refine Sa V.asg ?_
  refine Sa V.asg ?_
  refine Wn ?_
  refine rg ?_
  refine Sa V.asg ?_
  refine Sa V.asg ?_
  refine Wn ?_
  refine sq ?_
  refine WC.ret ?_
  refine' ⟨.inr rfl, rfl, _, [], .tmp rfl (.tmp rfl .nil), List.nil_sublist _, ⟨rfl, rfl, rfl⟩⟩
theorem m59_fn {k i : Int} {tx : List UInt8} {b : Option Addr} {n c : Nat} : Fn (kx Q g0) 59 [lineV k tx (.slice b n c), .int .i64 i] [] J (Ret (.tuple #[.int .i64 (-1000000), .int .i64 (1000000)]) J) := by
  refine Fn.of_body (ftGet Tryz.func59) rfl rfl fun H => ?_
  refine rg ?_
  refine' W.step rfl (.of (x_box rfl rfl rfl rfl rfl rfl fun a2 => ?_))
  refine Sa V.asg ?_
  refine Sa V.asg ?_
  refine Wn ?_
  refine rg ?_
  refine Sa V.asg ?_
  refine Sa V.asg ?_
  refine Wn ?_
  refine sq ?_
  refine WC.ret ?_
  refine' ⟨.inr rfl, rfl, _, [], .tmp rfl (.tmp rfl .nil), List.nil_sublist _, ⟨rfl, rfl, rfl⟩⟩
theorem m60_fn {k i : Int} {tx : List UInt8} {b : Option Addr} {n c : Nat} : Fn (kx Q g0) 60 [lineV k tx (.slice b n c), .int .i64 i] [] J (Ret (.tuple #[.int .i64 (1), .int .i64 (18)]) J) := by
  refine Fn.of_body (ftGet Tryz.func60) rfl rfl fun H => ?_
  refine rg ?_
  refine' W.step rfl (.of (x_box rfl rfl rfl rfl rfl rfl fun a2 => ?_))
  refine Sa V.asg ?_
  refine Sa V.asg ?_
  refine Wn ?_
  refine rg ?_
  refine Sa V.asg ?_
  refine Sa V.asg ?_
  refine Wn ?_
  refine sq ?_
  refine WC.ret ?_
  refine' ⟨.inr rfl, rfl, _, [], .tmp rfl (.tmp rfl .nil), List.nil_sublist _, ⟨rfl, rfl, rfl⟩⟩
theorem m61_fn {k i : Int} {tx : List UInt8} {b : Option Addr} {n c : Nat} : Fn (kx Q g0) 61 [lineV k tx (.slice b n c), .int .i64 i] [] J (Ret (.tuple #[.int .i64 (0), .int .i64 (0)]) J) := by
  refine Fn.of_body (ftGet Tryz.func61) rfl rfl fun H => ?_
  refine rg ?_
  refine' W.step rfl (.of (x_box rfl rfl rfl rfl rfl rfl fun a2 => ?_))
  refine Sa V.asg ?_
  refine Sa V.asg ?_
  refine Wn ?_
  refine rg ?_
  refine Sa V.asg ?_
  refine Sa V.asg ?_
  refine Wn ?_
  refine sq ?_
  refine WC.ret ?_
  refine' ⟨.inr rfl, rfl, _, [], .tmp rfl (.tmp rfl .nil), List.nil_sublist _, ⟨rfl, rfl, rfl⟩⟩
theorem m56_fn {k i : Int} {tx : List UInt8} {b : Option Addr} {n c : Nat} : Fn (kx Q g0) 56 [lineV k tx (.slice b n c), .int .i64 i] [] J (Ret (.tuple #[.int .i64 (limits 4 i).1, .int .i64 (limits 4 i).2]) J) := by
  refine Fn.of_body (ftGet Tryz.func56) rfl rfl fun H => ?_
  refine rg ?_
  refine' W.step rfl (.of (x_box rfl rfl rfl rfl rfl rfl fun a2 => ?_))
  refine Sa V.asg ?_
  refine Sa V.asg ?_
  refine Wn ?_
  refine rg ?_
  refine Sa V.mv ?_
  refine Wn ?_
  refine sq ?_
  refine WC.block ?_
  refine rg ?_
  refine Sa V.vi ?_
  refine Sa V.asg ?_
  refine Wn ?_
  refine sq ?_
  first | refine WC.if rfl (fun c7 => ?_) (fun c7 => ?_) | refine WC.cond rfl (fun c7 => ?_) (fun c7 => ?_)
  ·
   refine rg ?_
   refine Sa V.asg ?_
   refine Sa V.asg ?_
   refine Wn ?_
   refine sq ?_
   refine WC.ret ?_
   refine' ⟨.inr rfl, rfl, _, [], .tmp rfl (.tmp rfl .nil), List.nil_sublist _, ?_⟩
   simp_all [oneOrTuple, limits, Ret]
  ·
   refine rg ?_
   refine Sa V.vi ?_
   refine Sa V.asg ?_
   refine Wn ?_
   refine sq ?_
   first | refine WC.if rfl (fun c9 => ?_) (fun c9 => ?_) | refine WC.cond rfl (fun c9 => ?_) (fun c9 => ?_)
   ·
    refine rg ?_
    refine Sa V.asg ?_
    refine Sa V.asg ?_
    refine Wn ?_
    refine sq ?_
    refine WC.ret ?_
    refine' ⟨.inr rfl, rfl, _, [], .tmp rfl (.tmp rfl .nil), List.nil_sublist _, ?_⟩
    simp_all [oneOrTuple, limits, Ret]
   ·
    refine rg ?_
    refine Sa V.vi ?_
    refine Sa V.asg ?_
    refine Wn ?_
    refine sq ?_
    first | refine WC.if rfl (fun c11 => ?_) (fun c11 => ?_) | refine WC.cond rfl (fun c11 => ?_) (fun c11 => ?_)
    ·
     refine rg ?_
     refine Sa V.asg ?_
     refine Sa V.asg ?_
     refine Wn ?_
     refine sq ?_
     refine WC.ret ?_
     refine' ⟨.inr rfl, rfl, _, [], .tmp rfl (.tmp rfl .nil), List.nil_sublist _, ?_⟩
     simp_all [oneOrTuple, limits, Ret]
    ·
     refine rg ?_
     refine Sa V.vi ?_
     refine Sa V.asg ?_
     refine Wn ?_
     refine sq ?_
     first | refine WC.if rfl (fun c13 => ?_) (fun c13 => ?_) | refine WC.cond rfl (fun c13 => ?_) (fun c13 => ?_)
     ·
      refine rg ?_
      refine Sa V.asg ?_
      refine Sa V.asg ?_
      refine Wn ?_
      refine sq ?_
      refine WC.ret ?_
      refine' ⟨.inr rfl, rfl, _, [], .tmp rfl (.tmp rfl .nil), List.nil_sublist _, ?_⟩
      simp_all [oneOrTuple, limits, Ret]
     ·
      refine sq ?_
      refine WC.skip ?_
      refine rg ?_
      refine Sa V.ldA ?_
      refine Sa V.mv ?_
      refine' W.step rfl (Exec.call rfl rfl rfl rfl rfl rfl rfl (mi := []) (.refl _) trivial (m57_fn) ?_)
      rintro v m' J' hle ⟨rfl, rfl, rfl⟩
      refine Sa V.ex ?_
      refine Sa V.ex ?_
      refine Sa V.asg ?_
      refine Sa V.asg ?_
      refine Wn ?_
      refine sq ?_
      refine WC.ret ?_
      refine' ⟨.inr rfl, rfl, _, [], .tmp rfl (.tmp rfl .nil), List.nil_sublist _, ?_⟩
      simp_all [oneOrTuple, limits, Ret]
/-- the method that says a number's range -/
def limF (k : Int) : Nat := if k = 1 then 53 else if k = 2 then 54 else if k = 3 then 55 else if k = 4 then 56 else if k = 5 then 57 else if k = 6 then 58 else if k = 7 then 59 else if k = 8 then 60 else if k = 10 then 57 else 61
def wordF (k : Int) : List UInt8 := if k = 1 then [72, 69, 76, 76, 79] else if k = 2 then [71, 65, 77, 69] else if k = 3 then [83, 69, 65, 84] else if k = 4 then [83, 73, 71, 72, 84] else if k = 5 then [77, 79, 86, 69] else if k = 6 then [67, 76, 79, 67, 75] else if k = 7 then [69, 78, 68] else if k = 8 then [70, 65, 85, 76, 84] else if k = 9 then [74, 79, 73, 78] else if k = 10 then [67, 72, 79, 79, 83, 69] else [76, 69, 65, 86, 69]
def fmRow (k : Int) : List Value := [.string ⟨⟨wordF k⟩⟩, .bool (named k), .int .i64 (counts k).1, .int .i64 (counts k).2, .func (.func (limF k)) #[] #[], .int .i64 (rise k)]
def formsC : List Value := [.string ⟨⟨[]⟩⟩, .bool false, .int .i64 0, .int .i64 0, .nilFunc, .int .i64 0] ++ (fmRow 1 ++ (fmRow 2 ++ (fmRow 3 ++ (fmRow 4 ++ (fmRow 5 ++ (fmRow 6 ++ (fmRow 7 ++ (fmRow 8 ++ (fmRow 9 ++ (fmRow 10 ++ fmRow 11))))))))))
theorem forms_at {k : Int} (h : ¬ (k < 1 ∨ 11 < k)) : takeN 6 (dropN (k.toNat * 6) formsC) = some (fmRow k) := by
  have : k = 1 ∨ k = 2 ∨ k = 3 ∨ k = 4 ∨ k = 5 ∨ k = 6 ∨ k = 7 ∨ k = 8 ∨ k = 9 ∨ k = 10 ∨ k = 11 := by omega
  rcases this with rfl | rfl | rfl | rfl | rfl | rfl | rfl | rfl | rfl | rfl | rfl <;> rfl
theorem lim_fn {k i : Int} {tx : List UInt8} {b : Option Addr} {n c : Nat} (h : ¬ (k < 1 ∨ 11 < k)) (h9 : k ≠ 9) (h11 : k ≠ 11) : Fn (kx Q g0) (limF k) [lineV k tx (.slice b n c), .int .i64 i] [] J (Ret (.tuple #[.int .i64 (limits k i).1, .int .i64 (limits k i).2]) J) := by
  have : k = 1 ∨ k = 2 ∨ k = 3 ∨ k = 4 ∨ k = 5 ∨ k = 6 ∨ k = 7 ∨ k = 8 ∨ k = 10 := by omega
  rcases this with rfl | rfl | rfl | rfl | rfl | rfl | rfl | rfl | rfl
  · exact m53_fn
  · exact m54_fn
  · exact m55_fn
  · exact m56_fn
  · exact m57_fn
  · exact m58_fn
  · exact m59_fn
  · exact m60_fn
  · exact m57_fn
theorem forms_fn : Fn (kx Q g0) 43 [] [] J (Ret (.agg formsC.toArray) J) := by
  refine Fn.of_body (ftGet Tryz.func43) rfl rfl fun H => ?_
  refine rg ?_
  refine' W.step rfl (.of (x_alloc rfl rfl rfl (ze83 Q g0) rfl rfl rfl fun a0 => ?_))
  refine Wn ?_
  refine rg ?_
  refine Sa V.bd ?_
  refine Sa V.bd ?_
  refine Sa V.bd ?_
  refine Sa V.bd ?_
  refine Sa V.bd ?_
  refine Sa V.bd ?_
  refine Sa V.bd ?_
  refine Sa V.bd ?_
  refine Sa V.bd ?_
  refine Sa V.bd ?_
  refine Sa V.bd ?_
  refine Sa V.bd ?_
  refine Ss ?_
  refine Wn ?_
  refine sq ?_
  refine WC.ret ?_
  refine' ⟨.inr rfl, rfl, _, [], .cell rfl (by repeat first | exact .head _ | refine .tail _ ?_ | refine List.mem_append_right _ ?_) (partA (tAg rfl) rfl) (.nil), List.nil_sublist _, ⟨rfl, rfl, rfl⟩⟩
end
end Go.Opn

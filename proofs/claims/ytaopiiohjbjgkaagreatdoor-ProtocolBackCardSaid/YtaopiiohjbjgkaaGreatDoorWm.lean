/- A part of the proof of ProtocolBack. -/
import Derived.Test.YtaopiiohjbjgkaaGreatDoorWi
import Derived.Lib.AtoiTie
import Derived.Lib.ItoaMem
import Derived.Lib.Join
import Derived.Lib.Strings
import Derived.Lib.IndexMore
set_option maxRecDepth 100000
set_option linter.unusedVariables false
set_option linter.unusedSimpArgs false
namespace Go.Opn
open Go.Cre Go.RowKit Go.Proofs
section
variable {Q : Worlds Tryz.prog} {g0 : Nat} {J : Jm}
theorem m53_fn {k i : Int} {tx : List UInt8} {b : Option Addr} {n c : Nat} : Fn (kx Q g0) 32 [lineV k tx (.slice b n c), .int .i64 i] [] J (Ret (.tuple #[.int .i64 (1), .int .i64 (99)]) J) := by
  refine Fn.of_body (ftGet Tryz.func32) rfl rfl fun H => ?_
  refine rg ?_
  refine' W.step rfl (.of (x_box rfl rfl rfl rfl rfl rfl fun a2 => ?_))
  refine Sa V.asg ?_
  refine Sa V.asg ?_
  refine Wn ?_
  refine rg ?_
  refine Sa V.asg ?_
  refine Sa V.asg ?_
  refine Wn ?_
  refine sq ?_
  refine WC.ret ?_
  refine' ⟨.inr rfl, rfl, _, [], .tmp rfl (.tmp rfl .nil), List.nil_sublist _, ⟨rfl, rfl, rfl⟩⟩
theorem m54_fn {k i : Int} {tx : List UInt8} {b : Option Addr} {n c : Nat} : Fn (kx Q g0) 33 [lineV k tx (.slice b n c), .int .i64 i] [] J (Ret (.tuple #[.int .i64 (1), .int .i64 (4)]) J) := by
  refine Fn.of_body (ftGet Tryz.func33) rfl rfl fun H => ?_
  refine rg ?_
  refine' W.step rfl (.of (x_box rfl rfl rfl rfl rfl rfl fun a2 => ?_))
  refine Sa V.asg ?_
  refine Sa V.asg ?_
  refine Wn ?_
  refine rg ?_
  refine Sa V.asg ?_
  refine Sa V.asg ?_
  refine Wn ?_
  refine sq ?_
  refine WC.ret ?_
  refine' ⟨.inr rfl, rfl, _, [], .tmp rfl (.tmp rfl .nil), List.nil_sublist _, ⟨rfl, rfl, rfl⟩⟩
theorem m55_fn {k i : Int} {tx : List UInt8} {b : Option Addr} {n c : Nat} : Fn (kx Q g0) 34 [lineV k tx (.slice b n c), .int .i64 i] [] J (Ret (.tuple #[.int .i64 (0), .int .i64 (3)]) J) := by
  refine Fn.of_body (ftGet Tryz.func34) rfl rfl fun H => ?_
  refine rg ?_
  refine' W.step rfl (.of (x_box rfl rfl rfl rfl rfl rfl fun a2 => ?_))
  refine Sa V.asg ?_
  refine Sa V.asg ?_
  refine Wn ?_
  refine rg ?_
  refine Sa V.asg ?_
  refine Sa V.asg ?_
  refine Wn ?_
  refine sq ?_
  refine WC.ret ?_
  refine' ⟨.inr rfl, rfl, _, [], .tmp rfl (.tmp rfl .nil), List.nil_sublist _, ⟨rfl, rfl, rfl⟩⟩
theorem m57_fn {k i : Int} {tx : List UInt8} {b : Option Addr} {n c : Nat} : Fn (kx Q g0) 36 [lineV k tx (.slice b n c), .int .i64 i] [] J (Ret (.tuple #[.int .i64 (0), .int .i64 (9)]) J) := by
  refine Fn.of_body (ftGet Tryz.func36) rfl rfl fun H => ?_
  refine rg ?_
  refine' W.step rfl (.of (x_box rfl rfl rfl rfl rfl rfl fun a2 => ?_))
  refine Sa V.asg ?_
  refine Sa V.asg ?_
  refine Wn ?_
  refine rg ?_
  refine Sa V.asg ?_
  refine Sa V.asg ?_
  refine Wn ?_
  refine sq ?_
  refine WC.ret ?_
  refine' ⟨.inr rfl, rfl, _, [], .tmp rfl (.tmp rfl .nil), List.nil_sublist _, ⟨rfl, rfl, rfl⟩⟩
theorem m58_fn {k i : Int} {tx : List UInt8} {b : Option Addr} {n c : Nat} : Fn (kx Q g0) 37 [lineV k tx (.slice b n c), .int .i64 i] [] J (Ret (.tuple #[.int .i64 (0), .int .i64 (1000000000)]) J) := by
  refine Fn.of_body (ftGet Tryz.func37) rfl rfl fun H => ?_
  refine rg ?_
  refine' W.step rfl (.of (x_box rfl rfl rfl rfl rfl rfl fun a2 => ?_))
  refine Sa V.asg ?_
  refine Sa V.asg ?_
  refine Wn ?_
  refine rg ?_
  refine Sa V.asg ?_
  refine Sa V.asg ?_
  refine Wn ?_
  refine sq ?_
  refine WC.ret ?_
  refine' ⟨.inr rfl, rfl, _, [], .tmp rfl (.tmp rfl .nil), List.nil_sublist _, ⟨rfl, rfl, rfl⟩⟩
theorem m59_fn {k i : Int} {tx : List UInt8} {b : Option Addr} {n c : Nat} : Fn (kx Q g0) 38 [lineV k tx (.slice b n c), .int .i64 i] [] J (Ret (.tuple #[.int .i64 (-1000000), .int .i64 (1000000)]) J) := by
  refine Fn.of_body (ftGet Tryz.func38) rfl rfl fun H => ?_
  refine rg ?_
  refine' W.step rfl (.of (x_box rfl rfl rfl rfl rfl rfl fun a2 => ?_))
  refine Sa V.asg ?_
  refine Sa V.asg ?_
  refine Wn ?_
  refine rg ?_
  refine Sa V.asg ?_
  refine Sa V.asg ?_
  refine Wn ?_
  refine sq ?_
  refine WC.ret ?_
  refine' ⟨.inr rfl, rfl, _, [], .tmp rfl (.tmp rfl .nil), List.nil_sublist _, ⟨rfl, rfl, rfl⟩⟩
theorem m60_fn {k i : Int} {tx : List UInt8} {b : Option Addr} {n c : Nat} : Fn (kx Q g0) 39 [lineV k tx (.slice b n c), .int .i64 i] [] J (Ret (.tuple #[.int .i64 (1), .int .i64 (18)]) J) := by
  refine Fn.of_body (ftGet Tryz.func39) rfl rfl fun H => ?_
  refine rg ?_
  refine' W.step rfl (.of (x_box rfl rfl rfl rfl rfl rfl fun a2 => ?_))
  refine Sa V.asg ?_
  refine Sa V.asg ?_
  refine Wn ?_
  refine rg ?_
  refine Sa V.asg ?_
  refine Sa V.asg ?_
  refine Wn ?_
  refine sq ?_
  refine WC.ret ?_
  refine' ⟨.inr rfl, rfl, _, [], .tmp rfl (.tmp rfl .nil), List.nil_sublist _, ⟨rfl, rfl, rfl⟩⟩
theorem m61_fn {k i : Int} {tx : List UInt8} {b : Option Addr} {n c : Nat} : Fn (kx Q g0) 40 [lineV k tx (.slice b n c), .int .i64 i] [] J (Ret (.tuple #[.int .i64 (0), .int .i64 (0)]) J) := by
  refine Fn.of_body (ftGet Tryz.func40) rfl rfl fun H => ?_
  refine rg ?_
  refine' W.step rfl (.of (x_box rfl rfl rfl rfl rfl rfl fun a2 => ?_))
  refine Sa V.asg ?_
  refine Sa V.asg ?_
  refine Wn ?_
  refine rg ?_
  refine Sa V.asg ?_
  refine Sa V.asg ?_
  refine Wn ?_
  refine sq ?_
  refine WC.ret ?_
  refine' ⟨.inr rfl, rfl, _, [], .tmp rfl (.tmp rfl .nil), List.nil_sublist _, ⟨rfl, rfl, rfl⟩⟩
theorem m56_fn {k i : Int} {tx : List UInt8} {b : Option Addr} {n c : Nat} : Fn (kx Q g0) 35 [lineV k tx (.slice b n c), .int .i64 i] [] J (Ret (.tuple #[.int .i64 (limits 4 i).1, .int .i64 (limits 4 i).2]) J) := by
  refine Fn.of_body (ftGet Tryz.func35) rfl rfl fun H => ?_
  refine rg ?_
  refine' W.step rfl (.of (x_box rfl rfl rfl rfl rfl rfl fun a2 => ?_))
  refine Sa V.asg ?_
  refine Sa V.asg ?_
  refine Wn ?_
  refine rg ?_
  refine Sa V.mv ?_
  refine Wn ?_
  refine sq ?_
  refine WC.block ?_
  refine rg ?_
  refine Sa V.vi ?_
  refine Sa V.asg ?_
  refine Wn ?_
  refine sq ?_
  first | refine WC.if rfl (fun c7 => ?_) (fun c7 => ?_) | refine WC.cond rfl (fun c7 => ?_) (fun c7 => ?_)
  ·
   refine rg ?_
   refine Sa V.asg ?_
   refine Sa V.asg ?_
   refine Wn ?_
   refine sq ?_
   refine WC.ret ?_
   refine' ⟨.inr rfl, rfl, _, [], .tmp rfl (.tmp rfl .nil), List.nil_sublist _, ?_⟩
   simp_all [oneOrTuple, limits, Ret]
  ·
   refine rg ?_
   refine Sa V.vi ?_
   refine Sa V.asg ?_
   refine Wn ?_
   refine sq ?_
   first | refine WC.if rfl (fun c9 => ?_) (fun c9 => ?_) | refine WC.cond rfl (fun c9 => ?_) (fun c9 => ?_)
   ·
    refine rg ?_
    refine Sa V.asg ?_
    refine Sa V.asg ?_
    refine Wn ?_
    refine sq ?_
    refine WC.ret ?_
    refine' ⟨.inr rfl, rfl, _, [], .tmp rfl (.tmp rfl .nil), List.nil_sublist _, ?_⟩
    simp_all [oneOrTuple, limits, Ret]
   ·
    refine rg ?_
    refine Sa V.vi ?_
    refine Sa V.asg ?_
    refine Wn ?_
    refine sq ?_
    first | refine WC.if rfl (fun c11 => ?_) (fun c11 => ?_) | refine WC.cond rfl (fun c11 => ?_) (fun c11 => ?_)
    ·
     refine rg ?_
     refine Sa V.asg ?_
     refine Sa V.asg ?_
     refine Wn ?_
     refine sq ?_
     refine WC.ret ?_
     refine' ⟨.inr rfl, rfl, _, [], .tmp rfl (.tmp rfl .nil), List.nil_sublist _, ?_⟩
     simp_all [oneOrTuple, limits, Ret]
    ·
     refine rg ?_
     refine Sa V.vi ?_
     refine Sa V.asg ?_
     refine Wn ?_
     refine sq ?_
     first | refine WC.if rfl (fun c13 => ?_) (fun c13 => ?_) | refine WC.cond rfl (fun c13 => ?_) (fun c13 => ?_)
     ·
      refine rg ?_
      refine Sa V.asg ?_
      refine Sa V.asg ?_
      refine Wn ?_
      refine sq ?_
      refine WC.ret ?_
      refine' ⟨.inr rfl, rfl, _, [], .tmp rfl (.tmp rfl .nil), List.nil_sublist _, ?_⟩
      simp_all [oneOrTuple, limits, Ret]
     ·
      refine sq ?_
      refine WC.skip ?_
      refine rg ?_
      refine Sa V.ldA ?_
      refine Sa V.mv ?_
      refine' W.step rfl (Exec.call rfl rfl rfl rfl rfl rfl rfl (mi := []) (.refl _) trivial (m57_fn) ?_)
      rintro v m' J' hle ⟨rfl, rfl, rfl⟩
      refine Sa V.ex ?_
      refine Sa V.ex ?_
      refine Sa V.asg ?_
      refine Sa V.asg ?_
      refine Wn ?_
      refine sq ?_
      refine WC.ret ?_
      refine' ⟨.inr rfl, rfl, _, [], .tmp rfl (.tmp rfl .nil), List.nil_sublist _, ?_⟩
      simp_all [oneOrTuple, limits, Ret]
/-- the method that says a number's range -/
def limF (k : Int) : Nat := if k = 1 then 32 else if k = 2 then 33 else if k = 3 then 34 else if k = 4 then 35 else if k = 5 then 36 else if k = 6 then 37 else if k = 7 then 38 else if k = 8 then 39 else if k = 10 then 36 else 40
def wordF (k : Int) : List UInt8 := if k = 1 then [72, 69, 76, 76, 79] else if k = 2 then [71, 65, 77, 69] else if k = 3 then [83, 69, 65, 84] else if k = 4 then [83, 73, 71, 72, 84] else if k = 5 then [77, 79, 86, 69] else if k = 6 then [67, 76, 79, 67, 75] else if k = 7 then [69, 78, 68] else if k = 8 then [70, 65, 85, 76, 84] else if k = 9 then [74, 79, 73, 78] else if k = 10 then [67, 72, 79, 79, 83, 69] else [76, 69, 65, 86, 69]
def fmRow (k : Int) : List Value := [.string ⟨⟨wordF k⟩⟩, .bool (named k), .int .i64 (counts k).1, .int .i64 (counts k).2, .func (.func (limF k)) #[] #[], .int .i64 (rise k)]
def formsC : List Value := [.string ⟨⟨[]⟩⟩, .bool false, .int .i64 0, .int .i64 0, .nilFunc, .int .i64 0] ++ (fmRow 1 ++ (fmRow 2 ++ (fmRow 3 ++ (fmRow 4 ++ (fmRow 5 ++ (fmRow 6 ++ (fmRow 7 ++ (fmRow 8 ++ (fmRow 9 ++ (fmRow 10 ++ fmRow 11))))))))))
theorem forms_at {k : Int} (h : ¬ (k < 1 ∨ 11 < k)) : takeN 6 (dropN (k.toNat * 6) formsC) = some (fmRow k) := by
  have : k = 1 ∨ k = 2 ∨ k = 3 ∨ k = 4 ∨ k = 5 ∨ k = 6 ∨ k = 7 ∨ k = 8 ∨ k = 9 ∨ k = 10 ∨ k = 11 := by omega
  rcases this with rfl | rfl | rfl | rfl | rfl | rfl | rfl | rfl | rfl | rfl | rfl <;> rfl
theorem lim_fn {k i : Int} {tx : List UInt8} {b : Option Addr} {n c : Nat} (h : ¬ (k < 1 ∨ 11 < k)) (h9 : k ≠ 9) (h11 : k ≠ 11) : Fn (kx Q g0) (limF k) [lineV k tx (.slice b n c), .int .i64 i] [] J (Ret (.tuple #[.int .i64 (limits k i).1, .int .i64 (limits k i).2]) J) := by
  have : k = 1 ∨ k = 2 ∨ k = 3 ∨ k = 4 ∨ k = 5 ∨ k = 6 ∨ k = 7 ∨ k = 8 ∨ k = 10 := by omega
  rcases this with rfl | rfl | rfl | rfl | rfl | rfl | rfl | rfl | rfl
  · exact m53_fn
  · exact m54_fn
  · exact m55_fn
  · exact m56_fn
  · exact m57_fn
  · exact m58_fn
  · exact m59_fn
  · exact m60_fn
  · exact m57_fn
theorem forms_fn : Fn (kx Q g0) 16 [] [] J (Ret (.agg formsC.toArray) J) := by
  refine Fn.of_body (ftGet Tryz.func16) rfl rfl fun H => ?_
  refine rg ?_
  refine' W.step rfl (.of (x_alloc rfl rfl rfl (ze54 Q g0) rfl rfl rfl fun a0 => ?_))
  refine Wn ?_
  refine rg ?_
  refine Sa V.bd ?_
  refine Sa V.bd ?_
  refine Sa V.bd ?_
  refine Sa V.bd ?_
  refine Sa V.bd ?_
  refine Sa V.bd ?_
  refine Sa V.bd ?_
  refine Sa V.bd ?_
  refine Sa V.bd ?_
  refine Sa V.bd ?_
  refine Sa V.bd ?_
  refine Sa V.bd ?_
  refine Ss ?_
  refine Wn ?_
  refine sq ?_
  refine WC.ret ?_
  refine' ⟨.inr rfl, rfl, _, [], .cell rfl (by repeat first | exact .head _ | refine .tail _ ?_ | refine List.mem_append_right _ ?_) (partA (tAg rfl) rfl) (.nil), List.nil_sublist _, ⟨rfl, rfl, rfl⟩⟩
end
end Go.Opn
set_option linter.unusedVariables false
set_option linter.unusedSimpArgs false
namespace Go.Opn
open Go
/-! ### Lines and their texts (no program in sight) -/
/-- a text's words -/
def spl : List UInt8 → List (List UInt8)
  | [] => [[]]
  | c :: r => if c = 32 then [] :: spl r else match spl r with
    | [] => [[c]]
    | w :: t => (c :: w) :: t
theorem spl_c (c : UInt8) (r : List UInt8) : spl (c :: r) = if c = 32 then [] :: spl r else match spl r with
    | [] => [[c]]
    | w :: t => (c :: w) :: t := rfl
theorem spl_ne (s : List UInt8) : spl s ≠ [] := by
  cases s with
  | nil => simp [spl]
  | cons c r => unfold spl; split
                · simp
                · split <;> simp
theorem spl_nb {s : List UInt8} : ∀ w ∈ spl s, (32 : UInt8) ∉ w := by
  induction s with
  | nil => intro w hw; simp [spl] at hw; subst hw; simp
  | cons c r ih =>
    intro w hw
    unfold spl at hw
    split at hw
    · rcases List.mem_cons.1 hw with h | h
      · subst h; simp
      · exact ih w h
    · rename_i hc
      split at hw
      · simp at hw; subst hw; simpa using fun q => hc q.symm
      · rename_i w0 t he
        rcases List.mem_cons.1 hw with h | h
        · subst h
          have := ih w0 (by rw [he]; exact .head _)
          simp only [List.mem_cons, not_or]
          exact ⟨fun q => hc q.symm, this⟩
        · exact ih w (by rw [he]; exact .tail _ h)
abbrev jn (ws : List (List UInt8)) : List UInt8 := Lib.join ws [32]
theorem jn_cons (x y : List UInt8) (r : List (List UInt8)) : jn (x :: y :: r) = x ++ 32 :: jn (y :: r) := by
  simp [jn, Lib.join, List.intercalate]
theorem jn_one (x : List UInt8) : jn [x] = x := by simp [jn, Lib.join, List.intercalate]
theorem jn_spl (s : List UInt8) : jn (spl s) = s := by
  induction s with
  | nil => simp [spl, jn_one]
  | cons c r ih =>
    unfold spl
    split
    · rename_i hc; subst hc
      cases h : spl r with
      | nil => exact absurd h (spl_ne r)
      | cons y t => rw [jn_cons, ← h, ih]; rfl
    · split
      · rename_i h; exact absurd h (spl_ne r)
      · rename_i w t h
        rw [h] at ih
        cases t with
        | nil => rw [jn_one] at ih ⊢; rw [ih]
        | cons y t => rw [jn_cons] at ih ⊢; rw [← ih]; rfl
theorem spl_word {x : List UInt8} (h : (32 : UInt8) ∉ x) : spl x = [x] := by
  induction x with
  | nil => rfl
  | cons c r ih =>
    simp only [List.mem_cons, not_or] at h
    rw [spl_c, if_neg (fun q => h.1 q.symm), ih h.2]
theorem spl_at {x : List UInt8} (h : (32 : UInt8) ∉ x) (r : List UInt8) : spl (x ++ 32 :: r) = x :: spl r := by
  induction x with
  | nil => rw [List.nil_append]; show (if (32 : UInt8) = 32 then [] :: spl r else _) = _; rw [if_pos rfl]
  | cons c t ih =>
    simp only [List.mem_cons, not_or] at h
    rw [List.cons_append, spl_c, if_neg (fun q => h.1 q.symm), ih h.2]
theorem spl_jn : ∀ (r : List (List UInt8)) (x : List UInt8), (∀ w ∈ x :: r, (32 : UInt8) ∉ w) → spl (jn (x :: r)) = x :: r := by
  intro r
  induction r with
  | nil => intro x h; rw [jn_one]; exact spl_word (h x (.head _))
  | cons y t ih =>
    intro x h
    rw [jn_cons, spl_at (h x (.head _)), ih y (fun w hw => h w (.tail _ hw))]
theorem jn_len : ∀ (r : List (List UInt8)) (x : List UInt8), (jn (x :: r)).length = x.length + (r.map fun w => w.length + 1).sum := by
  intro r
  induction r with
  | nil => intro x; rw [jn_one]; simp
  | cons y t ih => intro x; rw [jn_cons, List.length_append, List.length_cons, ih y]; simp; omega

/-! ### Numbers -/
theorem parse_c (acc : Nat) (c : UInt8) (r : List UInt8) : Lib.parseUint10 acc (c :: r) = if 48 ≤ c.toNat ∧ c.toNat ≤ 57 then if 1844674407370955162 ≤ acc then .range else if 18446744073709551616 ≤ acc * 10 + (c.toNat - 48) then .range else Lib.parseUint10 (acc * 10 + (c.toNat - 48)) r else Lib.parseUint10 0 [0] := rfl
theorem parse_app : ∀ (l r : List UInt8) (acc v : Nat), Lib.parseUint10 acc l = .ok v → Lib.parseUint10 acc (l ++ r) = Lib.parseUint10 v r := by
  intro l
  induction l with
  | nil => intro r acc v h; injection h with h; subst h; rfl
  | cons c l ih =>
    intro r acc v h
    rw [List.cons_append, parse_c]
    rw [parse_c] at h
    split at h
    · split at h
      · cases h
      · split at h
        · cases h
        · rename_i h1 h2 h3
          rw [if_pos h1, if_neg h2, if_neg h3]
          exact ih _ _ _ h
    · cases h
theorem dig_nat {u : Nat} (h : u < 10) : (UInt8.ofNat (48 + u)).toNat = 48 + u := by
  rw [UInt8.toNat_ofNat']; omega
theorem parse_dig {u : Nat} (h : u < 9223372036854775808) : Lib.parseUint10 0 (Lib.decDigits u) = .ok u := by
  induction u using Nat.strongRecOn with
  | _ u ih =>
    by_cases hu : u < 10
    · rw [Lib.decDigits_one hu]
      unfold Lib.parseUint10
      rw [dig_nat hu, if_pos (by omega), if_neg (by omega), if_neg (by omega)]
      show Lib.NumEnd.ok _ = _
      congr 1; omega
    · rw [Lib.decDigits, dif_neg hu, parse_app _ _ _ _ (ih (u / 10) (by omega) (by omega))]
      unfold Lib.parseUint10
      rw [dig_nat (by omega), if_pos (by omega), if_neg (by omega), if_neg (by omega)]
      show Lib.NumEnd.ok _ = _
      congr 1; omega
theorem dig_first (u : Nat) : ∃ c r, Lib.decDigits u = c :: r ∧ 48 ≤ c.toNat ∧ c.toNat ≤ 57 := by
  induction u using Nat.strongRecOn with
  | _ u ih =>
    by_cases hu : u < 10
    · rw [Lib.decDigits_one hu]; exact ⟨_, _, rfl, by rw [dig_nat hu]; omega, by rw [dig_nat hu]; omega⟩
    · obtain ⟨c, r, h1, h2⟩ := ih (u / 10) (by omega)
      rw [Lib.decDigits, dif_neg hu, h1]
      exact ⟨c, _, rfl, h2⟩
theorem dig_all (u : Nat) : ∀ c ∈ Lib.decDigits u, 48 ≤ c.toNat ∧ c.toNat ≤ 57 := by
  induction u using Nat.strongRecOn with
  | _ u ih =>
    by_cases hu : u < 10
    · rw [Lib.decDigits_one hu]; intro c hc; rw [List.mem_singleton.1 hc, dig_nat hu]; omega
    · rw [Lib.decDigits, dif_neg hu]
      intro c hc
      rcases List.mem_append.1 hc with h | h
      · exact ih (u / 10) (by omega) c h
      · rw [List.mem_singleton.1 h, dig_nat (by omega)]; omega
theorem nDig_le : ∀ (k u : Nat), u < 10 ^ (k + 1) → Lib.nDigits u ≤ k + 1 := by
  intro k
  induction k with
  | zero => intro u h; rw [Lib.nDigits_small (by simpa using h)]; omega
  | succ k ih =>
    intro u h
    by_cases hu : u < 10
    · rw [Lib.nDigits_small hu]; omega
    · rw [Lib.nDigits_big hu]
      have := ih (u / 10) (by rw [Nat.pow_succ] at h; omega)
      omega
theorem itoa_nb (n : Int) : (32 : UInt8) ∉ Lib.itoa n := by
  unfold Lib.itoa
  intro h
  split at h
  · rcases List.mem_cons.1 h with h | h
    · exact absurd h (by decide)
    · have := dig_all _ _ h; exact absurd this.1 (by decide)
  · have := dig_all _ _ h; exact absurd this.1 (by decide)
theorem atoi_itoa {n : Int} (h0 : -9223372036854775808 < n) (h1 : n < 9223372036854775808) : Lib.atoiAll (Lib.itoa n) = .ok n := by
  unfold Lib.itoa
  have hm : ∀ u, u < 9223372036854775808 → Lib.parseMag (Lib.decDigits u) = .ok u := fun u hu => by
    obtain ⟨c, r, hc, _⟩ := dig_first u
    unfold Lib.parseMag; rw [if_neg (by rw [hc]; simp)]; exact parse_dig hu
  split
  · rw [Lib.atoiAll_minus, hm _ (by omega)]
    unfold Lib.signed; simp only
    rw [if_neg (by omega)]; congr 1; omega
  · obtain ⟨c, r, hc, hd⟩ := dig_first n.toNat
    have := hm n.toNat (by omega)
    rw [hc] at this ⊢
    rw [Lib.atoiAll_plain _ _ (by omega) (by omega), this]
    unfold Lib.signless; simp only
    rw [if_neg (by omega)]; congr 1; omega
/-- the number that a word is -/
def numS (w : List UInt8) : Option Int := match Lib.atoiAll w with
  | .ok n => if Lib.itoa n ≠ w ∨ 10 < (Lib.trimPrefix w [45]).length then none else some n
  | _ => none
theorem numS_inv {w : List UInt8} {n : Int} (h : numS w = some n) : Lib.itoa n = w := by
  unfold numS at h
  split at h
  · split at h
    · cases h
    · rename_i hq
      injection h with h; subst h
      exact Classical.not_not.1 (fun q => hq (.inl q))
  · cases h
theorem itoa_trim {n : Int} (h0 : -1000000000 ≤ n) (h1 : n ≤ 1000000000) : (Lib.trimPrefix (Lib.itoa n) [45]).length ≤ 10 ∧ (Lib.itoa n).length ≤ 11 := by
  have hl : ∀ u, u ≤ 1000000000 → (Lib.decDigits u).length ≤ 10 := fun u hu => by
    rw [Lib.decDigits_length]; exact nDig_le 9 u (by omega)
  unfold Lib.itoa
  split
  · have := hl n.natAbs (by omega)
    refine ⟨?_, by rw [List.length_cons]; omega⟩
    unfold Lib.trimPrefix
    rw [if_pos (by simp [Lib.hasPrefix])]
    simpa using this
  · have := hl n.toNat (by omega)
    refine ⟨?_, by omega⟩
    unfold Lib.trimPrefix
    split
    · rw [List.length_drop]; omega
    · exact this
theorem numS_itoa {n : Int} (h0 : -1000000000 ≤ n) (h1 : n ≤ 1000000000) : numS (Lib.itoa n) = some n := by
  unfold numS
  rw [atoi_itoa (by omega) (by omega)]
  simp only
  rw [if_neg]
  rintro (h | h)
  · exact h rfl
  · have := (itoa_trim h0 h1).1; omega
end Go.Opn

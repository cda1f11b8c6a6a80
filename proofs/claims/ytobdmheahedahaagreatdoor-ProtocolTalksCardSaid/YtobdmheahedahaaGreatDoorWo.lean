/- A part of the proof of ProtocolTalks. -/
import Derived.Test.YtobdmheahedahaaGreatDoorWn
set_option maxRecDepth 100000
set_option linter.unusedVariables false
set_option linter.unusedSimpArgs false
namespace Go.Opn
open Go.Cre Go.RowKit Go.Proofs
theorem ints_one (l : List Int) : (l.map (Value.int .i64)).all oneCell = true := by
  rw [List.all_map, List.all_eq_true]; intro i _; rfl
section
variable {Q : Worlds Tryz.prog} {g0 : Nat} {J : Jm}
theorem alike_fn {ba bb : Option Addr} {na nb ca cb : Nat} {la lb : List Int} (ha : IntsR J (.slice ba na ca) la) (hb : IntsR J (.slice bb nb cb) lb) (hl : la.length ≤ 1000000) : Fn (kx Q g0) 13 [.slice ba na ca, .slice bb nb cb] [] J (Ret (.bool (decide (la = lb))) J) := by
  obtain ⟨rfl, _, hra⟩ := ha.get
  obtain ⟨rfl, _, hrb⟩ := hb.get
  refine Fn.of_body (ftGet Tryz.func13) rfl rfl fun H => ?_
  refine rg ?_
  refine Sa V.asg ?_
  refine Wn ?_
  refine rg ?_
  refine Sa V.mv ?_
  refine Sa V.ls ?_
  refine Sa V.mv ?_
  refine Sa V.ls ?_
  refine Sa V.vi ?_
  refine Wn ?_
  refine sq ?_
  first | refine WC.if rfl (fun c10 => ?_) (fun c10 => ?_) | refine WC.cond rfl (fun c10 => ?_) (fun c10 => ?_)
  ·
   refine rg ?_
   refine Sa V.asg ?_
   refine Wn ?_
   refine sq ?_
   refine WC.ret ?_
   refine' ⟨.inr rfl, rfl, _, [], .tmp rfl .nil, List.nil_sublist _, ?_⟩
   refine ⟨congrArg Value.bool ?_, rfl, rfl⟩
   symm
   first
     | exact decide_eq_false (fun q => c25 (by rw [q, hy] at hx; exact (Option.some.inj hx).symm))
     | exact decide_eq_true (List.ext_getElem? fun k => by by_cases q : k < i; exact hk k q; rw [List.getElem?_eq_none (by omega), List.getElem?_eq_none (by omega)])
     | exact decide_eq_false (fun q => c10 (by rw [q]))
  ·
   refine sq ?_
   refine WC.skip ?_
   refine rg ?_
   refine Sa V.asg ?_
   refine Wn ?_
   refine sq ?_
   refine WC.block ?_
   refine' WC.weak (l' := [(5, .int .i64 ((0) : Int)), (0, _), (1, _)]) ⟨?w5, rfl, rfl, trivial⟩ (List.Sublist.refl _) ?_
   case w5 => first | rfl | exact congrArg some (congrArg (Value.int .i64) (by omega))
   refine sq ?_
   refine' WC.loopC (α := (Nat)) (fun (i : Nat) => [(5, .int .i64 (i : Int))]) (fun (i : Nat) => i ≤ la.length ∧ ∀ k, k < i → la[k]? = lb[k]?) (fun (i : Nat) => la.length - i) (0) ?hs ?hstep
   case hs => exact ⟨by omega, fun k hk => absurd hk (by omega)⟩
   case hstep =>
    rintro i hinv
    try simp only at hinv
    obtain ⟨hi, hk⟩ := hinv
    refine rg ?_
    refine Sa V.mv ?_
    refine Sa V.mv ?_
    refine Sa V.ls ?_
    refine Sa V.vi ?_
    refine Wn ?_
    refine sq ?_
    first | refine WC.if rfl (fun c14 => ?_) (fun c14 => ?_) | refine WC.cond rfl (fun c14 => ?_) (fun c14 => ?_)
    ·
     obtain ⟨a, off, cells, e, rfl, hJ, hget⟩ := hra (by omega)
     obtain ⟨a', off', cells', e', rfl, hJ', hget'⟩ := hrb (by omega)
     obtain ⟨x, hx, hnx⟩ := hget i (by omega) (by omega)
     obtain ⟨y, hy, hny⟩ := hget' i (by omega) (by omega)
     refine sq ?_
     refine WC.skip ?_
     refine sq ?_
     refine WC.block ?_
     refine sq ?_
     refine WC.draw rfl (by kernel_rfl) (plan := [.val 0, .val 1, .val 2, .val 3, .val 4, .val 5, .val 6, .val 7, .val 8]) (by kernel_rfl) ?_
     refine Da rfl V.mv ?_
     refine Da rfl V.mv ?_
     refine Da rfl V.ix ?_
     refine Da rfl V.ld ?_
     refine Da rfl V.mv ?_
     refine Da rfl V.mv ?_
     refine Da rfl V.ix ?_
     refine Da rfl V.ld ?_
     refine Da rfl V.vi ?_
     refine WD.nil ?_
     refine sq ?_
     first | refine WC.if rfl (fun c25 => ?_) (fun c25 => ?_) | refine WC.cond rfl (fun c25 => ?_) (fun c25 => ?_)
     ·
      refine rg ?_
      refine Sa V.asg ?_
      refine Wn ?_
      refine sq ?_
      refine WC.ret ?_
      refine' ⟨.inr rfl, rfl, _, [], .tmp rfl .nil, List.nil_sublist _, ?_⟩
      refine ⟨congrArg Value.bool ?_, rfl, rfl⟩
      symm
      first
        | exact decide_eq_false (fun q => c25 (by rw [q, hy] at hx; exact (Option.some.inj hx).symm))
        | exact decide_eq_true (List.ext_getElem? fun k => by by_cases q : k < i; exact hk k q; rw [List.getElem?_eq_none (by omega), List.getElem?_eq_none (by omega)])
        | exact decide_eq_false (fun q => c10 (by rw [q]))
     ·
      refine sq ?_
      refine WC.skip ?_
      refine rg ?_
      refine Sa V.mv ?_
      refine Sa V.va ?_
      refine Sa V.asg ?_
      refine Wn ?_
      refine' ⟨(i + 1), _, ?hinv, ?hmeas, rfl, ⟨?m5, rfl, rfl, trivial⟩, List.Sublist.refl _, rfl⟩
      case m5 => first | rfl | exact congrArg some (congrArg (Value.int .i64) (by omega))
      case hmeas => first | omega | (simp only; omega)
      case hinv => exact ⟨by omega, fun k hk2 => by rcases Nat.lt_or_ge k i with q | q; exact hk k q; obtain rfl : k = i := (by omega); simp only [Int.toNat_natCast] at hx hy; rw [hx, hy, Classical.not_not.1 c25]⟩
    ·
     refine sq ?_
     refine WC.exit ?_
     refine rg ?_
     refine Sa V.asg ?_
     refine Wn ?_
     refine sq ?_
     refine WC.ret ?_
     refine' ⟨.inr rfl, rfl, _, [], .tmp rfl .nil, List.nil_sublist _, ?_⟩
     refine ⟨congrArg Value.bool ?_, rfl, rfl⟩
     symm
     first
       | exact decide_eq_false (fun q => c25 (by rw [q, hy] at hx; exact (Option.some.inj hx).symm))
       | exact decide_eq_true (List.ext_getElem? fun k => by by_cases q : k < i; exact hk k q; rw [List.getElem?_eq_none (by omega), List.getElem?_eq_none (by omega)])
       | exact decide_eq_false (fun q => c10 (by rw [q]))
theorem has_fn {ba : Option Addr} {na ca : Nat} {la : List Int} {y : Int} (ha : IntsR J (.slice ba na ca) la) (hl : la.length ≤ 1000000) : Fn (kx Q g0) 20 [.slice ba na ca, .int .i64 y] [] J (Ret (.bool (decide (y ∈ la))) J) := by
  obtain ⟨rfl, _, hra⟩ := ha.get
  refine Fn.of_body (ftGet Tryz.func20) rfl rfl fun H => ?_
  refine rg ?_
  refine Sa V.asg ?_
  refine Wn ?_
  refine rg ?_
  refine Sa V.asg ?_
  refine Wn ?_
  refine sq ?_
  refine WC.block ?_
  refine' WC.weak (l' := [(5, .int .i64 ((0) : Int)), (0, _), (1, _)]) ⟨?w5, rfl, rfl, trivial⟩ (List.Sublist.refl _) ?_
  case w5 => first | rfl | exact congrArg some (congrArg (Value.int .i64) (by omega))
  refine sq ?_
  refine' WC.loopC (α := (Nat)) (fun (i : Nat) => [(5, .int .i64 (i : Int))]) (fun (i : Nat) => i ≤ la.length ∧ ∀ k, k < i → la[k]? ≠ some y) (fun (i : Nat) => la.length - i) (0) ?hs ?hstep
  case hs => exact ⟨by omega, fun k hk => absurd hk (by omega)⟩
  case hstep =>
   rintro i hinv
   try simp only at hinv
   obtain ⟨hi, hk⟩ := hinv
   refine rg ?_
   refine Sa V.mv ?_
   refine Sa V.mv ?_
   refine Sa V.ls ?_
   refine Sa V.vi ?_
   refine Wn ?_
   refine sq ?_
   first | refine WC.if rfl (fun c9 => ?_) (fun c9 => ?_) | refine WC.cond rfl (fun c9 => ?_) (fun c9 => ?_)
   ·
    obtain ⟨a, off, cells, e, rfl, hJ, hget⟩ := hra (by omega)
    obtain ⟨x, hx, hnx⟩ := hget i (by omega) (by omega)
    refine sq ?_
    refine WC.skip ?_
    refine sq ?_
    refine WC.block ?_
    refine rg ?_
    refine Sa V.mv ?_
    refine Sa V.mv ?_
    refine Sa V.ix ?_
    refine Sa V.ld ?_
    refine Sa V.mv ?_
    refine Sa V.vi ?_
    refine Wn ?_
    refine sq ?_
    first | refine WC.if rfl (fun c17 => ?_) (fun c17 => ?_) | refine WC.cond rfl (fun c17 => ?_) (fun c17 => ?_)
    ·
     refine rg ?_
     refine Sa V.asg ?_
     refine Wn ?_
     refine sq ?_
     refine WC.ret ?_
     refine' ⟨.inr rfl, rfl, _, [], .tmp rfl .nil, List.nil_sublist _, ?_⟩
     refine ⟨congrArg Value.bool ?_, rfl, rfl⟩
     symm
     first
       | exact decide_eq_true (by rw [← c17]; exact List.mem_of_getElem? hx)
       | exact decide_eq_false (fun q => by obtain ⟨k, hk1, hk2⟩ := List.mem_iff_getElem.1 q; exact hk k (by omega) (by rw [List.getElem?_eq_getElem hk1, hk2]))
    ·
     refine sq ?_
     refine WC.skip ?_
     refine rg ?_
     refine Sa V.mv ?_
     refine Sa V.va ?_
     refine Sa V.asg ?_
     refine Wn ?_
     refine' ⟨(i + 1), _, ?hinv, ?hmeas, rfl, ⟨?m5, rfl, rfl, trivial⟩, List.Sublist.refl _, rfl⟩
     case m5 => first | rfl | exact congrArg some (congrArg (Value.int .i64) (by omega))
     case hmeas => first | omega | (simp only; omega)
     case hinv => exact ⟨by omega, fun k hk2 => by rcases Nat.lt_or_ge k i with q | q; exact hk k q; obtain rfl : k = i := (by omega); simp only [Int.toNat_natCast] at hx; rw [hx]; intro q; injection q with q; exact c17 q⟩
   ·
    refine sq ?_
    refine WC.exit ?_
    refine rg ?_
    refine Sa V.asg ?_
    refine Wn ?_
    refine sq ?_
    refine WC.ret ?_
    refine' ⟨.inr rfl, rfl, _, [], .tmp rfl .nil, List.nil_sublist _, ?_⟩
    refine ⟨congrArg Value.bool ?_, rfl, rfl⟩
    symm
    first
      | exact decide_eq_true (by rw [← c17]; exact List.mem_of_getElem? hx)
      | exact decide_eq_false (fun q => by obtain ⟨k, hk1, hk2⟩ := List.mem_iff_getElem.1 q; exact hk k (by omega) (by rw [List.getElem?_eq_getElem hk1, hk2]))
theorem index_fn {ba : Option Addr} {na ca : Nat} {la : List Int} {y : Int} (ha : IntsR J (.slice ba na ca) la) (hl : la.length ≤ 1000000) : Fn (kx Q g0) 69 [.slice ba na ca, .int .i64 y] [] J (fun w m' J' => (∃ r : Int, w = .int .i64 r ∧ (0 ≤ r ↔ y ∈ la)) ∧ m' = [] ∧ J' = J) := by
  obtain ⟨rfl, _, hra⟩ := ha.get
  refine Fn.of_body (ftGet Tryz.func69) rfl rfl fun H => ?_
  refine rg ?_
  refine Sa V.asg ?_
  refine Wn ?_
  refine rg ?_
  refine Sa V.mv ?_
  refine Sa V.ls ?_
  refine Sa V.mv ?_
  refine Wn ?_
  refine sq ?_
  refine WC.block ?_
  refine' WC.weak (l' := [(8, .int .i64 ((0) : Int)), (0, _), (1, _), (7, _)]) ⟨?w8, rfl, rfl, rfl, trivial⟩ (List.Sublist.refl _) ?_
  case w8 => first | rfl | exact congrArg some (congrArg (Value.int .i64) (by omega))
  refine sq ?_
  refine' WC.loopC (α := (Nat)) (fun (i : Nat) => [(8, .int .i64 (i : Int))]) (fun (i : Nat) => i ≤ la.length ∧ ∀ k, k < i → la[k]? ≠ some y) (fun (i : Nat) => la.length - i) (0) ?hs ?hstep
  case hs => exact ⟨by omega, fun k hk => absurd hk (by omega)⟩
  case hstep =>
   rintro i hinv
   try simp only at hinv
   obtain ⟨hi, hk⟩ := hinv
   refine rg ?_
   refine Sa V.vi ?_
   refine Wn ?_
   refine sq ?_
   first | refine WC.if rfl (fun c9 => ?_) (fun c9 => ?_) | refine WC.cond rfl (fun c9 => ?_) (fun c9 => ?_)
   ·
    obtain ⟨a, off, cells, e, rfl, hJ, hget⟩ := hra (by omega)
    obtain ⟨x, hx, hnx⟩ := hget i (by omega) (by omega)
    refine sq ?_
    refine WC.skip ?_
    refine sq ?_
    refine WC.block ?_
    refine rg ?_
    refine Sa V.mv ?_
    refine Sa V.asg ?_
    refine Wn ?_
    refine rg ?_
    refine Sa V.mv ?_
    refine Sa V.mv ?_
    refine Sa V.mv ?_
    refine Sa V.ix ?_
    refine Sa V.ld ?_
    refine Sa V.vi ?_
    refine Wn ?_
    refine sq ?_
    first | refine WC.if rfl (fun c16 => ?_) (fun c16 => ?_) | refine WC.cond rfl (fun c16 => ?_) (fun c16 => ?_)
    ·
     refine rg ?_
     refine Sa V.mv ?_
     refine Sa V.asg ?_
     refine Wn ?_
     refine sq ?_
     refine WC.ret ?_
     refine' ⟨.inr rfl, rfl, _, [], .tmp rfl .nil, List.nil_sublist _, ?_⟩
     refine ⟨⟨_, rfl, ?_⟩, rfl, rfl⟩
     first
       | exact ⟨fun _ => by rw [c16]; exact List.mem_of_getElem? hx, fun _ => by omega⟩
       | exact ⟨fun q => absurd q (by omega), fun q => by exfalso; obtain ⟨k, hk1, hk2⟩ := List.mem_iff_getElem.1 q; exact hk k (by omega) (by rw [List.getElem?_eq_getElem hk1, hk2])⟩
    ·
     refine sq ?_
     refine WC.skip ?_
     refine rg ?_
     refine Sa V.va ?_
     refine Sa V.mv ?_
     refine Wn ?_
     refine' ⟨(i + 1), _, ?hinv, ?hmeas, rfl, ⟨?m8, rfl, rfl, rfl, trivial⟩, List.Sublist.refl _, rfl⟩
     case m8 => first | rfl | exact congrArg some (congrArg (Value.int .i64) (by omega))
     case hmeas => first | omega | (simp only; omega)
     case hinv => exact ⟨by omega, fun k hk2 => by rcases Nat.lt_or_ge k i with q | q; exact hk k q; obtain rfl : k = i := (by omega); simp only [Int.toNat_natCast] at hx; rw [hx]; intro q; injection q with q; exact c16 q.symm⟩
   ·
    refine sq ?_
    refine WC.exit ?_
    refine rg ?_
    refine Sa V.asg ?_
    refine Wn ?_
    refine sq ?_
    refine WC.ret ?_
    refine' ⟨.inr rfl, rfl, _, [], .tmp rfl .nil, List.nil_sublist _, ?_⟩
    refine ⟨⟨_, rfl, ?_⟩, rfl, rfl⟩
    first
      | exact ⟨fun _ => by rw [c16]; exact List.mem_of_getElem? hx, fun _ => by omega⟩
      | exact ⟨fun q => absurd q (by omega), fun q => by exfalso; obtain ⟨k, hk1, hk2⟩ := List.mem_iff_getElem.1 q; exact hk k (by omega) (by rw [List.getElem?_eq_getElem hk1, hk2])⟩
theorem contains_fn {ba : Option Addr} {na ca : Nat} {la : List Int} {y : Int} (ha : IntsR J (.slice ba na ca) la) (hl : la.length ≤ 1000000) : Fn (kx Q g0) 50 [.slice ba na ca, .int .i64 y] [] J (Ret (.bool (decide (y ∈ la))) J) := by
  refine Fn.of_body (ftGet Tryz.func50) rfl rfl fun H => ?_
  refine rg ?_
  refine Sa V.asg ?_
  refine Wn ?_
  refine rg ?_
  refine Sa V.mv ?_
  refine Sa V.mv ?_
  refine' W.step rfl (Exec.call rfl rfl rfl rfl rfl rfl rfl (mi := []) (.refl _) trivial (index_fn ha hl) ?_)
  rintro v m' J1 hle ⟨⟨r, rfl, hr⟩, rfl, rfl⟩
  refine Sa V.vi ?_
  refine Sa V.asg ?_
  refine Wn ?_
  refine sq ?_
  refine WC.ret ?_
  refine' ⟨.inr rfl, rfl, _, [], .tmp rfl .nil, List.nil_sublist _, ⟨congrArg Value.bool (by simp [hr]), rfl, rfl⟩⟩
theorem clone_fn {ba : Option Addr} {na ca : Nat} {la : List Int} (ha : IntsR J (.slice ba na ca) la) (hl : la.length ≤ 1000000) : Fn (kx Q g0) 21 [.slice ba na ca] [] J (fun w m' J' => (∃ b c, w = .slice b la.length c ∧ IntsR J' w la) ∧ m' = [] ∧ J.le J') := by
  obtain ⟨rfl, hnil, hra⟩ := ha.get
  obtain ⟨e0, hsl⟩ := ha
  refine Fn.of_body (ftGet Tryz.func21) rfl rfl fun H => ?_
  refine rg ?_
  refine Sa V.asg ?_
  refine Wn ?_
  refine rg ?_
  refine Sa V.mv ?_
  refine Sa V.sN ?_
  refine Wn ?_
  refine sq ?_
  first | refine WC.if rfl (fun c4 => ?_) (fun c4 => ?_) | refine WC.cond rfl (fun c4 => ?_) (fun c4 => ?_)
  ·
   refine rg ?_
   refine Sa V.asg ?_
   refine Wn ?_
   refine sq ?_
   refine WC.ret ?_
   refine' ⟨.inr rfl, rfl, _, [], .tmp rfl .nil, List.nil_sublist _, ?_⟩
   first
     | exact ⟨⟨_, _, by rw [hnil (by simpa using c4)]; rfl, ⟨3, by rw [hnil (by simpa using c4)]; exact .nil⟩⟩, rfl, Jm.le.refl _⟩
     | (have hs := hsl7; simp only [Nat.zero_add, List.nil_append] at hs; obtain ⟨b, c, hw, _⟩ := SlC.inv hs; exact ⟨⟨b, c, hw, ⟨3, hs⟩⟩, rfl, hle7⟩)
  ·
   refine sq ?_
   refine WC.skip ?_
   refine rg ?_
   refine' W.step rfl (.of (x_buildSlice rfl rfl rfl rfl (sb22 Q g0) rfl rfl rfl fun a5 => ?_))
   refine Sa V.mv ?_
   refine' W.step rfl (.of (x_accP rfl rfl rfl rfl rfl rfl (sb22 Q g0) (un22 Q g0) (fun i q => by cases q) ?hacc ?hm ?hx ?hnl ?hne ?hl fun w7 mo7 hacc7 => ?_))
   case hacc => exact .emp _
   case hm => first | exact List.Perm.refl _ | exact perm_mid1 | exact perm_mid2 | exact perm_mid3 | exact perm_mid4
   case hx => exact hsl.rd
   case hnl => simp
   case hne => exact ints_one _
   case hl => first | omega | (simp; omega)
   refine Sa V.asg ?_
   refine Wn ?_
   refine Acc.pub hacc7 rfl (fun J7 hle7 hsl7 => ?_)
   refine sq ?_
   refine WC.ret ?_
   refine' ⟨.inr rfl, rfl, _, [], .tmp rfl .nil, List.nil_sublist _, ?_⟩
   first
     | exact ⟨⟨_, _, by rw [hnil (by simpa using c4)]; rfl, ⟨3, by rw [hnil (by simpa using c4)]; exact .nil⟩⟩, rfl, Jm.le.refl _⟩
     | (have hs := hsl7; simp only [Nat.zero_add, List.nil_append] at hs; obtain ⟨b, c, hw, _⟩ := SlC.inv hs; exact ⟨⟨b, c, hw, ⟨3, hs⟩⟩, rfl, hle7⟩)
end
end Go.Opn
set_option maxRecDepth 100000
set_option linter.unusedVariables false
set_option linter.unusedSimpArgs false
namespace Go.Opn
open Go.Cre Go.RowKit Go.Proofs
/-- a conversation -/
structure Tk where
  ph : Int
  pl : Int
  st : Int
  off : List Int
def tk0 : Tk := ⟨0, 0, 0, []⟩
abbrev talkV (ph pl st : Int) (v : Value) : Value := .agg #[.int .i64 ph, .int .i64 pl, .int .i64 st, v]
/-- a conversation and an error -/
def FolP (r : Tk × Int) (J : Jm) : Value → Mm → Jm → Prop := fun w m' J' => (∃ b c, w = .tuple #[talkV r.1.ph r.1.pl r.1.st (.slice b r.1.off.length c), .int .i64 r.2] ∧ IntsR J' (.slice b r.1.off.length c) r.1.off) ∧ m' = [] ∧ J.le J'
section
variable {Q : Worlds Tryz.prog} {g0 : Nat} {J : Jm}
theorem IntsR.nil : IntsR J (.slice none 0 0) [] := ⟨3, .nil⟩
variable {ph pl st k : Int} {tx : List UInt8} {O N : List Int} {bo bv : Option Addr} {no co nv cv : Nat}
theorem to1_fn (hO : IntsR J (.slice bo no co) O) (hN : IntsR J (.slice bv nv cv) N) {a : Nat} {x : Int} {e : TypeId} (ha : J a = some ([.int .i64 x], e)) : Fn (kx Q g0) 48 [talkV ph pl st (.slice bo no co), lineV k tx (.slice bv nv cv), .pointer (some ⟨a, 0, none⟩)] [] J (FolP (⟨x, pl, st, O⟩, 0) J) := by
  obtain ⟨rfl, _, _⟩ := hO.get
  refine Fn.of_body (ftGet Tryz.func48) rfl rfl fun H => ?_
  refine rg ?_
  refine' W.step rfl (.of (x_box rfl rfl rfl rfl rfl rfl fun a3 => ?_))
  refine' W.step rfl (.of (x_box rfl rfl rfl rfl rfl rfl fun a4 => ?_))
  refine' W.step rfl (.of (x_alloc rfl rfl rfl (ze24 Q g0) rfl rfl rfl fun a5 => ?_))
  refine Sa V.asg ?_
  refine Wn ?_
  refine rg ?_
  refine Sa V.ld ?_
  refine Sa V.fa ?_
  refine Ss ?_
  refine Wn ?_
  refine rg ?_
  refine Sa V.ldA ?_
  refine Ss ?_
  refine Sa V.asg ?_
  refine Wn ?_
  refine sq ?_
  refine WC.ret ?_
  refine' ⟨.inr rfl, rfl, _, [], .cell rfl (by repeat first | exact .head _ | refine .tail _ ?_ | refine List.mem_append_right _ ?_) (partA (tAg rfl) rfl) (.tmp rfl .nil), List.nil_sublist _, ⟨⟨_, _, rfl, hO⟩, rfl, Jm.le.refl _⟩⟩
theorem same_fn (hO : IntsR J (.slice bo no co) O) (hN : IntsR J (.slice bv nv cv) N) : Fn (kx Q g0) 32 [talkV ph pl st (.slice bo no co), lineV k tx (.slice bv nv cv)] [] J (FolP (⟨ph, pl, st, O⟩, 0) J) := by
  obtain ⟨rfl, _, _⟩ := hO.get
  refine Fn.of_body (ftGet Tryz.func32) rfl rfl fun H => ?_
  refine rg ?_
  refine' W.step rfl (.of (x_box rfl rfl rfl rfl rfl rfl fun a2 => ?_))
  refine' W.step rfl (.of (x_box rfl rfl rfl rfl rfl rfl fun a3 => ?_))
  refine' W.step rfl (.of (x_alloc rfl rfl rfl (ze24 Q g0) rfl rfl rfl fun a4 => ?_))
  refine Sa V.asg ?_
  refine Wn ?_
  refine rg ?_
  refine Sa V.ldA ?_
  refine Ss ?_
  refine Sa V.asg ?_
  refine Wn ?_
  refine sq ?_
  refine WC.ret ?_
  refine' ⟨.inr rfl, rfl, _, [], .cell rfl (by repeat first | exact .head _ | refine .tail _ ?_ | refine List.mem_append_right _ ?_) (partA (tAg rfl) rfl) (.tmp rfl .nil), List.nil_sublist _, ⟨⟨_, _, rfl, hO⟩, rfl, Jm.le.refl _⟩⟩
theorem over_fn (hO : IntsR J (.slice bo no co) O) (hN : IntsR J (.slice bv nv cv) N) : Fn (kx Q g0) 35 [talkV ph pl st (.slice bo no co), lineV k tx (.slice bv nv cv)] [] J (FolP (⟨6, pl, st, []⟩, 0) J) := by
  refine Fn.of_body (ftGet Tryz.func35) rfl rfl fun H => ?_
  refine rg ?_
  refine' W.step rfl (.of (x_box rfl rfl rfl rfl rfl rfl fun a2 => ?_))
  refine' W.step rfl (.of (x_box rfl rfl rfl rfl rfl rfl fun a3 => ?_))
  refine' W.step rfl (.of (x_alloc rfl rfl rfl (ze24 Q g0) rfl rfl rfl fun a4 => ?_))
  refine Sa V.asg ?_
  refine Wn ?_
  refine rg ?_
  refine Sa V.fa ?_
  refine Ss ?_
  refine Sa V.fa ?_
  refine Ss ?_
  refine Wn ?_
  refine rg ?_
  refine Sa V.ldA ?_
  refine Ss ?_
  refine Sa V.asg ?_
  refine Wn ?_
  refine sq ?_
  refine WC.ret ?_
  refine' ⟨.inr rfl, rfl, _, [], .cell rfl (by repeat first | exact .head _ | refine .tail _ ?_ | refine List.mem_append_right _ ?_) (partA (tAg rfl) rfl) (.tmp rfl .nil), List.nil_sublist _, ⟨⟨_, _, rfl, .nil⟩, rfl, Jm.le.refl _⟩⟩
theorem game_fn (hO : IntsR J (.slice bo no co) O) (hN : IntsR J (.slice bv nv cv) N) {x : Int} (hx0 : N[0]? = some x) : Fn (kx Q g0) 28 [talkV ph pl st (.slice bo no co), lineV k tx (.slice bv nv cv)] [] J (FolP (⟨3, x, st, O⟩, 0) J) := by
  obtain ⟨rfl, _, _⟩ := hO.get
  obtain ⟨rfl, _, hra⟩ := hN.get
  have hlen : 0 < N.length := (List.getElem?_eq_some_iff.1 hx0).1
  obtain ⟨a, off, cells, e, rfl, hJ, hget⟩ := hra (by omega)
  obtain ⟨y, hx, hnx⟩ := hget 0 (by omega) (by omega)
  obtain rfl : y = x := by have hx : N[0]? = some y := hx; rw [hx] at hx0; exact Option.some.inj hx0
  refine Fn.of_body (ftGet Tryz.func28) rfl rfl fun H => ?_
  refine rg ?_
  refine' W.step rfl (.of (x_box rfl rfl rfl rfl rfl rfl fun a2 => ?_))
  refine' W.step rfl (.of (x_box rfl rfl rfl rfl rfl rfl fun a3 => ?_))
  refine' W.step rfl (.of (x_alloc rfl rfl rfl (ze24 Q g0) rfl rfl rfl fun a4 => ?_))
  refine Sa V.asg ?_
  refine Wn ?_
  refine sq ?_
  refine WC.draw rfl (by kernel_rfl) (plan := [.val 0, .val 1, .val 2, .val 3, .val 4, .chn 5, .val 6, .chk [3, 2, 1, 0], .chn 7]) (by kernel_rfl) ?_
  refine Da rfl V.fa ?_
  refine Da rfl V.ld ?_
  refine Da rfl V.ix ?_
  refine Da rfl V.ld ?_
  refine Da rfl V.fa ?_
  refine Ds rfl ?_
  refine Da rfl V.fa ?_
  refine WD.chk ck ?_
  refine Ds rfl ?_
  refine WD.nil ?_
  refine rg ?_
  refine Sa V.ldA ?_
  refine Ss ?_
  refine Sa V.asg ?_
  refine Wn ?_
  refine sq ?_
  refine WC.ret ?_
  refine' ⟨.inr rfl, rfl, _, [], .cell rfl (by repeat first | exact .head _ | refine .tail _ ?_ | refine List.mem_append_right _ ?_) (partA (tAg rfl) rfl) (.tmp rfl .nil), List.nil_sublist _, ⟨⟨_, _, rfl, hO⟩, rfl, Jm.le.refl _⟩⟩
theorem seat_fn (hO : IntsR J (.slice bo no co) O) (hN : IntsR J (.slice bv nv cv) N) {x : Int} (hx0 : N[0]? = some x) : Fn (kx Q g0) 29 [talkV ph pl st (.slice bo no co), lineV k tx (.slice bv nv cv)] [] J (FolP (if x ≥ pl then (tk0, 2) else (⟨4, pl, x, O⟩, 0)) J) := by
  obtain ⟨rfl, _, _⟩ := hO.get
  obtain ⟨rfl, _, hra⟩ := hN.get
  have hlen : 0 < N.length := (List.getElem?_eq_some_iff.1 hx0).1
  obtain ⟨a, off, cells, e, rfl, hJ, hget⟩ := hra (by omega)
  obtain ⟨y, hx, hnx⟩ := hget 0 (by omega) (by omega)
  obtain rfl : y = x := by have hx : N[0]? = some y := hx; rw [hx] at hx0; exact Option.some.inj hx0
  refine Fn.of_body (ftGet Tryz.func29) rfl rfl fun H => ?_
  refine rg ?_
  refine' W.step rfl (.of (x_box rfl rfl rfl rfl rfl rfl fun a2 => ?_))
  refine' W.step rfl (.of (x_box rfl rfl rfl rfl rfl rfl fun a3 => ?_))
  refine' W.step rfl (.of (x_alloc rfl rfl rfl (ze24 Q g0) rfl rfl rfl fun a4 => ?_))
  refine Sa V.asg ?_
  refine Wn ?_
  refine sq ?_
  refine WC.draw rfl (by kernel_rfl) (plan := [.val 0, .val 1, .val 2, .val 3, .val 4, .val 5, .val 6]) (by kernel_rfl) ?_
  refine Da rfl V.fa ?_
  refine Da rfl V.ld ?_
  refine Da rfl V.ix ?_
  refine Da rfl V.ld ?_
  refine Da rfl V.fa ?_
  refine Da rfl V.ld ?_
  refine Da rfl V.vi ?_
  refine WD.nil ?_
  refine sq ?_
  first | refine WC.if rfl (fun c12 => ?_) (fun c12 => ?_) | refine WC.cond rfl (fun c12 => ?_) (fun c12 => ?_)
  ·
   refine rg ?_
   refine Sa V.bd ?_
   refine Ss ?_
   refine Sa V.asg ?_
   refine Wn ?_
   refine sq ?_
   refine WC.ret ?_
   refine' ⟨.inr rfl, rfl, _, [], .cell rfl (by repeat first | exact .head _ | refine .tail _ ?_ | refine List.mem_append_right _ ?_) (partA (tAg rfl) rfl) (.tmp rfl .nil), List.nil_sublist _, ?_⟩
   first
     | (rw [if_pos (by omega)]; exact ⟨⟨_, _, rfl, .nil⟩, rfl, Jm.le.refl _⟩)
     | (rw [if_neg (by omega)]; exact ⟨⟨_, _, rfl, hO⟩, rfl, Jm.le.refl _⟩)
  ·
   refine sq ?_
   refine WC.skip ?_
   refine sq ?_
   refine WC.draw rfl (by kernel_rfl) (plan := [.val 0, .val 1, .val 2, .val 3, .val 4, .chn 5, .val 6, .chk [3, 2, 1, 0], .chn 7]) (by kernel_rfl) ?_
   refine Da rfl V.fa ?_
   refine Da rfl V.ld ?_
   refine Da rfl V.ix ?_
   refine Da rfl V.ld ?_
   refine Da rfl V.fa ?_
   refine Ds rfl ?_
   refine Da rfl V.fa ?_
   refine WD.chk ck ?_
   refine Ds rfl ?_
   refine WD.nil ?_
   refine rg ?_
   refine Sa V.ldA ?_
   refine Ss ?_
   refine Sa V.asg ?_
   refine Wn ?_
   refine sq ?_
   refine WC.ret ?_
   refine' ⟨.inr rfl, rfl, _, [], .cell rfl (by repeat first | exact .head _ | refine .tail _ ?_ | refine List.mem_append_right _ ?_) (partA (tAg rfl) rfl) (.tmp rfl .nil), List.nil_sublist _, ?_⟩
   first
     | (rw [if_pos (by omega)]; exact ⟨⟨_, _, rfl, .nil⟩, rfl, Jm.le.refl _⟩)
     | (rw [if_neg (by omega)]; exact ⟨⟨_, _, rfl, hO⟩, rfl, Jm.le.refl _⟩)
theorem sight_fn (hO : IntsR J (.slice bo no co) O) (hN : IntsR J (.slice bv nv cv) N) {x : Int} (hx0 : N[2]? = some x) : Fn (kx Q g0) 30 [talkV ph pl st (.slice bo no co), lineV k tx (.slice bv nv cv)] [] J (FolP (if x ≥ pl then (tk0, 2) else (⟨ph, pl, st, O⟩, 0)) J) := by
  obtain ⟨rfl, _, _⟩ := hO.get
  obtain ⟨rfl, _, hra⟩ := hN.get
  have hlen : 2 < N.length := (List.getElem?_eq_some_iff.1 hx0).1
  obtain ⟨a, off, cells, e, rfl, hJ, hget⟩ := hra (by omega)
  obtain ⟨y, hx, hnx⟩ := hget 2 (by omega) (by omega)
  obtain rfl : y = x := by have hx : N[2]? = some y := hx; rw [hx] at hx0; exact Option.some.inj hx0
  refine Fn.of_body (ftGet Tryz.func30) rfl rfl fun H => ?_
  refine rg ?_
  refine' W.step rfl (.of (x_box rfl rfl rfl rfl rfl rfl fun a2 => ?_))
  refine' W.step rfl (.of (x_box rfl rfl rfl rfl rfl rfl fun a3 => ?_))
  refine' W.step rfl (.of (x_alloc rfl rfl rfl (ze24 Q g0) rfl rfl rfl fun a4 => ?_))
  refine Sa V.asg ?_
  refine Wn ?_
  refine sq ?_
  refine WC.draw rfl (by kernel_rfl) (plan := [.val 0, .val 1, .val 2, .val 3, .val 4, .val 5, .val 6]) (by kernel_rfl) ?_
  refine Da rfl V.fa ?_
  refine Da rfl V.ld ?_
  refine Da rfl V.ix ?_
  refine Da rfl V.ld ?_
  refine Da rfl V.fa ?_
  refine Da rfl V.ld ?_
  refine Da rfl V.vi ?_
  refine WD.nil ?_
  refine sq ?_
  first | refine WC.if rfl (fun c12 => ?_) (fun c12 => ?_) | refine WC.cond rfl (fun c12 => ?_) (fun c12 => ?_)
  ·
   refine rg ?_
   refine Sa V.bd ?_
   refine Ss ?_
   refine Sa V.asg ?_
   refine Wn ?_
   refine sq ?_
   refine WC.ret ?_
   refine' ⟨.inr rfl, rfl, _, [], .cell rfl (by repeat first | exact .head _ | refine .tail _ ?_ | refine List.mem_append_right _ ?_) (partA (tAg rfl) rfl) (.tmp rfl .nil), List.nil_sublist _, ?_⟩
   first
     | (rw [if_pos (by omega)]; exact ⟨⟨_, _, rfl, .nil⟩, rfl, Jm.le.refl _⟩)
     | (rw [if_neg (by omega)]; exact ⟨⟨_, _, rfl, hO⟩, rfl, Jm.le.refl _⟩)
  ·
   refine sq ?_
   refine WC.skip ?_
   refine rg ?_
   refine Sa V.ldA ?_
   refine Ss ?_
   refine Sa V.asg ?_
   refine Wn ?_
   refine sq ?_
   refine WC.ret ?_
   refine' ⟨.inr rfl, rfl, _, [], .cell rfl (by repeat first | exact .head _ | refine .tail _ ?_ | refine List.mem_append_right _ ?_) (partA (tAg rfl) rfl) (.tmp rfl .nil), List.nil_sublist _, ?_⟩
   first
     | (rw [if_pos (by omega)]; exact ⟨⟨_, _, rfl, .nil⟩, rfl, Jm.le.refl _⟩)
     | (rw [if_neg (by omega)]; exact ⟨⟨_, _, rfl, hO⟩, rfl, Jm.le.refl _⟩)
theorem move_fn (hO : IntsR J (.slice bo no co) O) (hN : IntsR J (.slice bv nv cv) N) (hl : N.length ≤ 1000000) : Fn (kx Q g0) 33 [talkV ph pl st (.slice bo no co), lineV k tx (.slice bv nv cv)] [] J (FolP (⟨5, pl, st, N⟩, 0) J) := by
  refine Fn.of_body (ftGet Tryz.func33) rfl rfl fun H => ?_
  refine rg ?_
  refine' W.step rfl (.of (x_box rfl rfl rfl rfl rfl rfl fun a2 => ?_))
  refine' W.step rfl (.of (x_box rfl rfl rfl rfl rfl rfl fun a3 => ?_))
  refine' W.step rfl (.of (x_alloc rfl rfl rfl (ze24 Q g0) rfl rfl rfl fun a4 => ?_))
  refine Sa V.asg ?_
  refine Wn ?_
  refine rg ?_
  refine Sa V.fa ?_
  refine Sa V.ld ?_
  refine' W.step rfl (Exec.call rfl rfl rfl rfl rfl rfl rfl (mi := []) (.refl _) trivial (clone_fn hN hl) ?_)
  rintro v m' J1 hle ⟨⟨b, c, rfl, hi⟩, rfl, hle1⟩
  refine Sa V.fa ?_
  refine Ss ?_
  refine Sa V.fa ?_
  refine Ss ?_
  refine Wn ?_
  refine rg ?_
  refine Sa V.ldA ?_
  refine Ss ?_
  refine Sa V.asg ?_
  refine Wn ?_
  refine sq ?_
  refine WC.ret ?_
  refine' ⟨.inr rfl, rfl, _, [], .cell rfl (by repeat first | exact .head _ | refine .tail _ ?_ | refine List.mem_append_right _ ?_) (partA (tAg rfl) rfl) (.tmp rfl .nil), List.nil_sublist _, ⟨⟨_, _, rfl, hi⟩, rfl, hle1⟩⟩
theorem choose_fn (hO : IntsR J (.slice bo no co) O) (hN : IntsR J (.slice bv nv cv) N) {x : Int} (hx0 : N[0]? = some x) (hl : O.length ≤ 1000000) : Fn (kx Q g0) 34 [talkV ph pl st (.slice bo no co), lineV k tx (.slice bv nv cv)] [] J (FolP (if x ∉ O then (tk0, 18) else (⟨4, pl, st, []⟩, 0)) J) := by
  obtain ⟨rfl, _, hra⟩ := hN.get
  have hlen : 0 < N.length := (List.getElem?_eq_some_iff.1 hx0).1
  obtain ⟨a, off, cells, e, rfl, hJ, hget⟩ := hra (by omega)
  obtain ⟨y, hx, hnx⟩ := hget 0 (by omega) (by omega)
  obtain rfl : y = x := by have hx : N[0]? = some y := hx; rw [hx] at hx0; exact Option.some.inj hx0
  refine Fn.of_body (ftGet Tryz.func34) rfl rfl fun H => ?_
  refine rg ?_
  refine' W.step rfl (.of (x_box rfl rfl rfl rfl rfl rfl fun a2 => ?_))
  refine' W.step rfl (.of (x_box rfl rfl rfl rfl rfl rfl fun a3 => ?_))
  refine' W.step rfl (.of (x_alloc rfl rfl rfl (ze24 Q g0) rfl rfl rfl fun a4 => ?_))
  refine Sa V.asg ?_
  refine Wn ?_
  refine sq ?_
  refine WC.draw rfl (by kernel_rfl) (plan := [.val 0, .val 1, .val 2, .val 3, .val 4, .val 5, .chn 6, .val 7]) (by kernel_rfl) ?_
  refine Da rfl V.fa ?_
  refine Da rfl V.ld ?_
  refine Da rfl V.fa ?_
  refine Da rfl V.ld ?_
  refine Da rfl V.ix ?_
  refine Da rfl V.ld ?_
  refine' WD.call rfl rfl rfl rfl rfl rfl rfl rfl rfl rfl (mi := []) (.refl _) trivial (contains_fn hO hl) ?_
  rintro v m' J' hle ⟨rfl, rfl, rfl⟩
  refine Da rfl V.nt ?_
  refine WD.nil ?_
  refine sq ?_
  first | refine WC.if rfl (fun c13 => ?_) (fun c13 => ?_) | refine WC.cond rfl (fun c13 => ?_) (fun c13 => ?_)
  ·
   refine rg ?_
   refine Sa V.bd ?_
   refine Ss ?_
   refine Sa V.asg ?_
   refine Wn ?_
   refine sq ?_
   refine WC.ret ?_
   refine' ⟨.inr rfl, rfl, _, [], .cell rfl (by repeat first | exact .head _ | refine .tail _ ?_ | refine List.mem_append_right _ ?_) (partA (tAg rfl) rfl) (.tmp rfl .nil), List.nil_sublist _, ?_⟩
   first
     | (rw [if_pos (by assumption)]; exact ⟨⟨_, _, rfl, .nil⟩, rfl, Jm.le.refl _⟩)
     | (rw [if_neg (by assumption)]; exact ⟨⟨_, _, rfl, .nil⟩, rfl, Jm.le.refl _⟩)
  ·
   refine sq ?_
   refine WC.skip ?_
   refine rg ?_
   refine Sa V.fa ?_
   refine Ss ?_
   refine Sa V.fa ?_
   refine Ss ?_
   refine Wn ?_
   refine rg ?_
   refine Sa V.ldA ?_
   refine Ss ?_
   refine Sa V.asg ?_
   refine Wn ?_
   refine sq ?_
   refine WC.ret ?_
   refine' ⟨.inr rfl, rfl, _, [], .cell rfl (by repeat first | exact .head _ | refine .tail _ ?_ | refine List.mem_append_right _ ?_) (partA (tAg rfl) rfl) (.tmp rfl .nil), List.nil_sublist _, ?_⟩
   first
     | (rw [if_pos (by assumption)]; exact ⟨⟨_, _, rfl, .nil⟩, rfl, Jm.le.refl _⟩)
     | (rw [if_neg (by assumption)]; exact ⟨⟨_, _, rfl, .nil⟩, rfl, Jm.le.refl _⟩)
theorem countedS_fn (hO : IntsR J (.slice bo no co) O) (hN : IntsR J (.slice bv nv cv) N) {a : Nat} {e : TypeId} (ha : J a = some ([.func (.func 32) #[] #[]], e)) : Fn (kx Q g0) 49 [talkV ph pl st (.slice bo no co), lineV k tx (.slice bv nv cv), .pointer (some ⟨a, 0, none⟩)] [] J (FolP (if (N.length : Int) ≠ pl then (tk0, 2) else (⟨ph, pl, st, O⟩, 0)) J) := by
  obtain ⟨rfl, _, _⟩ := hN.get
  refine Fn.of_body (ftGet Tryz.func49) rfl rfl fun H => ?_
  refine rg ?_
  refine' W.step rfl (.of (x_box rfl rfl rfl rfl rfl rfl fun a3 => ?_))
  refine' W.step rfl (.of (x_box rfl rfl rfl rfl rfl rfl fun a4 => ?_))
  refine' W.step rfl (.of (x_alloc rfl rfl rfl (ze24 Q g0) rfl rfl rfl fun a5 => ?_))
  refine Sa V.asg ?_
  refine Wn ?_
  refine rg ?_
  refine Sa V.fa ?_
  refine Sa V.ld ?_
  refine Sa V.ls ?_
  refine Sa V.fa ?_
  refine Sa V.ld ?_
  refine Sa V.vi ?_
  refine Wn ?_
  refine sq ?_
  first | refine WC.if rfl (fun c12 => ?_) (fun c12 => ?_) | refine WC.cond rfl (fun c12 => ?_) (fun c12 => ?_)
  ·
   refine rg ?_
   refine Sa V.bd ?_
   refine Ss ?_
   refine Sa V.asg ?_
   refine Wn ?_
   refine sq ?_
   refine WC.ret ?_
   refine' ⟨.inr rfl, rfl, _, [], .cell rfl (by repeat first | exact .head _ | refine .tail _ ?_ | refine List.mem_append_right _ ?_) (partA (tAg rfl) rfl) (.tmp rfl .nil), List.nil_sublist _, ?_⟩
   first
     | (rw [if_pos (by assumption)]; exact ⟨⟨_, _, rfl, .nil⟩, rfl, Jm.le.refl _⟩)
     | (rw [if_neg (by assumption)]; exact ⟨⟨_, _, rfl, hi⟩, rfl, hle1⟩)
  ·
   refine sq ?_
   refine WC.skip ?_
   refine rg ?_
   refine Sa V.ld ?_
   refine Sa V.ldA ?_
   refine Sa V.ldA ?_
   refine' W.step rfl (Exec.call rfl rfl rfl rfl rfl rfl rfl (mi := []) (.refl _) trivial (same_fn hO hN) ?_)
   rintro v m' J1 hle ⟨⟨b, c, rfl, hi⟩, rfl, hle1⟩
   refine Sa V.ex ?_
   refine Sa V.ex ?_
   refine Ss ?_
   refine Sa V.asg ?_
   refine Wn ?_
   refine sq ?_
   refine WC.ret ?_
   refine' ⟨.inr rfl, rfl, _, [], .cell rfl (by repeat first | exact .head _ | refine .tail _ ?_ | refine List.mem_append_right _ ?_) (partA (tAg rfl) rfl) (.tmp rfl .nil), List.nil_sublist _, ?_⟩
   first
     | (rw [if_pos (by assumption)]; exact ⟨⟨_, _, rfl, .nil⟩, rfl, Jm.le.refl _⟩)
     | (rw [if_neg (by assumption)]; exact ⟨⟨_, _, rfl, hi⟩, rfl, hle1⟩)
theorem countedT_fn (hO : IntsR J (.slice bo no co) O) (hN : IntsR J (.slice bv nv cv) N) {a a' : Nat} {x : Int} {e e' : TypeId} (ha : J a = some ([.func (.func 48) #[] #[.pointer (some ⟨a', 0, none⟩)]], e)) (ha' : J a' = some ([.int .i64 x], e')) : Fn (kx Q g0) 49 [talkV ph pl st (.slice bo no co), lineV k tx (.slice bv nv cv), .pointer (some ⟨a, 0, none⟩)] [] J (FolP (if (N.length : Int) ≠ pl then (tk0, 2) else (⟨x, pl, st, O⟩, 0)) J) := by
  obtain ⟨rfl, _, _⟩ := hN.get
  refine Fn.of_body (ftGet Tryz.func49) rfl rfl fun H => ?_
  refine rg ?_
  refine' W.step rfl (.of (x_box rfl rfl rfl rfl rfl rfl fun a3 => ?_))
  refine' W.step rfl (.of (x_box rfl rfl rfl rfl rfl rfl fun a4 => ?_))
  refine' W.step rfl (.of (x_alloc rfl rfl rfl (ze24 Q g0) rfl rfl rfl fun a5 => ?_))
  refine Sa V.asg ?_
  refine Wn ?_
  refine rg ?_
  refine Sa V.fa ?_
  refine Sa V.ld ?_
  refine Sa V.ls ?_
  refine Sa V.fa ?_
  refine Sa V.ld ?_
  refine Sa V.vi ?_
  refine Wn ?_
  refine sq ?_
  first | refine WC.if rfl (fun c12 => ?_) (fun c12 => ?_) | refine WC.cond rfl (fun c12 => ?_) (fun c12 => ?_)
  ·
   refine rg ?_
   refine Sa V.bd ?_
   refine Ss ?_
   refine Sa V.asg ?_
   refine Wn ?_
   refine sq ?_
   refine WC.ret ?_
   refine' ⟨.inr rfl, rfl, _, [], .cell rfl (by repeat first | exact .head _ | refine .tail _ ?_ | refine List.mem_append_right _ ?_) (partA (tAg rfl) rfl) (.tmp rfl .nil), List.nil_sublist _, ?_⟩
   first
     | (rw [if_pos (by assumption)]; exact ⟨⟨_, _, rfl, .nil⟩, rfl, Jm.le.refl _⟩)
     | (rw [if_neg (by assumption)]; exact ⟨⟨_, _, rfl, hi⟩, rfl, hle1⟩)
  ·
   refine sq ?_
   refine WC.skip ?_
   refine rg ?_
   refine Sa V.ld ?_
   refine Sa V.ldA ?_
   refine Sa V.ldA ?_
   refine' W.step rfl (Exec.call rfl rfl rfl rfl rfl rfl rfl (mi := []) (.refl _) trivial (to1_fn hO hN ha') ?_)
   rintro v m' J1 hle ⟨⟨b, c, rfl, hi⟩, rfl, hle1⟩
   refine Sa V.ex ?_
   refine Sa V.ex ?_
   refine Ss ?_
   refine Sa V.asg ?_
   refine Wn ?_
   refine sq ?_
   refine WC.ret ?_
   refine' ⟨.inr rfl, rfl, _, [], .cell rfl (by repeat first | exact .head _ | refine .tail _ ?_ | refine List.mem_append_right _ ?_) (partA (tAg rfl) rfl) (.tmp rfl .nil), List.nil_sublist _, ?_⟩
   first
     | (rw [if_pos (by assumption)]; exact ⟨⟨_, _, rfl, .nil⟩, rfl, Jm.le.refl _⟩)
     | (rw [if_neg (by assumption)]; exact ⟨⟨_, _, rfl, hi⟩, rfl, hle1⟩)
end
end Go.Opn

/- A part of the proof of ProtocolBack. -/
import Derived.Test.YtaopiiohjbjgkaaGreatDoorWn
import Derived.Test.YtaopiiohjbjgkaaGreatDoorOpnY
import Derived.Test.YtaopiiohjbjgkaaGreatDoorPb
set_option maxRecDepth 100000
set_option linter.unusedVariables false
set_option linter.unusedSimpArgs false
namespace Go.Opn
open Go.Cre Go.RowKit Go.Proofs
theorem ints_one (l : List Int) : (l.map (Value.int .i64)).all oneCell = true := by
  rw [List.all_map, List.all_eq_true]; intro i _; rfl
section
variable {Q : Worlds Tryz.prog} {g0 : Nat} {J : Jm}
theorem alike_fn {ba bb : Option Addr} {na nb ca cb : Nat} {la lb : List Int} (ha : IntsR J (.slice ba na ca) la) (hb : IntsR J (.slice bb nb cb) lb) (hl : la.length ≤ 1000000) : Fn (kx Q g0) 21 [.slice ba na ca, .slice bb nb cb] [] J (Ret (.bool (decide (la = lb))) J) := by
  obtain ⟨rfl, _, hra⟩ := ha.get
  obtain ⟨rfl, _, hrb⟩ := hb.get
  refine Fn.of_body (ftGet Tryz.func21) rfl rfl fun H => ?_
  refine rg ?_
  refine Sa V.asg ?_
  refine Wn ?_
  refine rg ?_
  refine Sa V.mv ?_
  refine Sa V.ls ?_
  refine Sa V.mv ?_
  refine Sa V.ls ?_
  refine Sa V.vi ?_
  refine Wn ?_
  refine sq ?_
  first | refine WC.if rfl (fun c10 => ?_) (fun c10 => ?_) | refine WC.cond rfl (fun c10 => ?_) (fun c10 => ?_)
  ·
   refine rg ?_
   refine Sa V.asg ?_
   refine Wn ?_
   refine sq ?_
   refine WC.ret ?_
   refine' ⟨.inr rfl, rfl, _, [], .tmp rfl .nil, List.nil_sublist _, ?_⟩
   refine ⟨congrArg Value.bool ?_, rfl, rfl⟩
   symm
   first
     | exact decide_eq_false (fun q => c25 (by rw [q, hy] at hx; exact (Option.some.inj hx).symm))
     | exact decide_eq_true (List.ext_getElem? fun k => by by_cases q : k < i; exact hk k q; rw [List.getElem?_eq_none (by omega), List.getElem?_eq_none (by omega)])
     | exact decide_eq_false (fun q => c10 (by rw [q]))
  ·
   refine sq ?_
   refine WC.skip ?_
   refine rg ?_
   refine Sa V.asg ?_
   refine Wn ?_
   refine sq ?_
   refine WC.block ?_
   refine' WC.weak (l' := [(5, .int .i64 ((0) : Int)), (0, _), (1, _)]) ⟨?w5, rfl, rfl, trivial⟩ (List.Sublist.refl _) ?_
   case w5 => first | rfl | exact congrArg some (congrArg (Value.int .i64) (by omega))
   refine sq ?_
   refine' WC.loopC (α := (Nat)) (fun (i : Nat) => [(5, .int .i64 (i : Int))]) (fun (i : Nat) => i ≤ la.length ∧ ∀ k, k < i → la[k]? = lb[k]?) (fun (i : Nat) => la.length - i) (0) ?hs ?hstep
   case hs => exact ⟨by omega, fun k hk => absurd hk (by omega)⟩
   case hstep =>
    rintro i hinv
    try simp only at hinv
    obtain ⟨hi, hk⟩ := hinv
    refine rg ?_
    refine Sa V.mv ?_
    refine Sa V.mv ?_
    refine Sa V.ls ?_
    refine Sa V.vi ?_
    refine Wn ?_
    refine sq ?_
    first | refine WC.if rfl (fun c14 => ?_) (fun c14 => ?_) | refine WC.cond rfl (fun c14 => ?_) (fun c14 => ?_)
    ·
     obtain ⟨a, off, cells, e, rfl, hJ, hget⟩ := hra (by omega)
     obtain ⟨a', off', cells', e', rfl, hJ', hget'⟩ := hrb (by omega)
     obtain ⟨x, hx, hnx⟩ := hget i (by omega) (by omega)
     obtain ⟨y, hy, hny⟩ := hget' i (by omega) (by omega)
     refine sq ?_
     refine WC.skip ?_
     refine sq ?_
     refine WC.block ?_
     refine sq ?_
     refine WC.draw rfl (by kernel_rfl) (plan := [.val 0, .val 1, .val 2, .val 3, .val 4, .val 5, .val 6, .val 7, .val 8]) (by kernel_rfl) ?_
     refine Da rfl V.mv ?_
     refine Da rfl V.mv ?_
     refine Da rfl V.ix ?_
     refine Da rfl V.ld ?_
     refine Da rfl V.mv ?_
     refine Da rfl V.mv ?_
     refine Da rfl V.ix ?_
     refine Da rfl V.ld ?_
     refine Da rfl V.vi ?_
     refine WD.nil ?_
     refine sq ?_
     first | refine WC.if rfl (fun c25 => ?_) (fun c25 => ?_) | refine WC.cond rfl (fun c25 => ?_) (fun c25 => ?_)
     ·
      refine rg ?_
      refine Sa V.asg ?_
      refine Wn ?_
      refine sq ?_
      refine WC.ret ?_
      refine' ⟨.inr rfl, rfl, _, [], .tmp rfl .nil, List.nil_sublist _, ?_⟩
      refine ⟨congrArg Value.bool ?_, rfl, rfl⟩
      symm
      first
        | exact decide_eq_false (fun q => c25 (by rw [q, hy] at hx; exact (Option.some.inj hx).symm))
        | exact decide_eq_true (List.ext_getElem? fun k => by by_cases q : k < i; exact hk k q; rw [List.getElem?_eq_none (by omega), List.getElem?_eq_none (by omega)])
        | exact decide_eq_false (fun q => c10 (by rw [q]))
     ·
      refine sq ?_
      refine WC.skip ?_
      refine rg ?_
      refine Sa V.mv ?_
      refine Sa V.va ?_
      refine Sa V.asg ?_
      refine Wn ?_
      refine' ⟨(i + 1), _, ?hinv, ?hmeas, rfl, ⟨?m5, rfl, rfl, trivial⟩, List.Sublist.refl _, rfl⟩
      case m5 => first | rfl | exact congrArg some (congrArg (Value.int .i64) (by omega))
      case hmeas => first | omega | (simp only; omega)
      case hinv => exact ⟨by omega, fun k hk2 => by rcases Nat.lt_or_ge k i with q | q; exact hk k q; obtain rfl : k = i := (by omega); simp only [Int.toNat_natCast] at hx hy; rw [hx, hy, Classical.not_not.1 c25]⟩
    ·
     refine sq ?_
     refine WC.exit ?_
     refine rg ?_
     refine Sa V.asg ?_
     refine Wn ?_
     refine sq ?_
     refine WC.ret ?_
     refine' ⟨.inr rfl, rfl, _, [], .tmp rfl .nil, List.nil_sublist _, ?_⟩
     refine ⟨congrArg Value.bool ?_, rfl, rfl⟩
     symm
     first
       | exact decide_eq_false (fun q => c25 (by rw [q, hy] at hx; exact (Option.some.inj hx).symm))
       | exact decide_eq_true (List.ext_getElem? fun k => by by_cases q : k < i; exact hk k q; rw [List.getElem?_eq_none (by omega), List.getElem?_eq_none (by omega)])
       | exact decide_eq_false (fun q => c10 (by rw [q]))
end
end Go.Opn
set_option maxRecDepth 100000
set_option maxHeartbeats 4000000
set_option linter.unusedVariables false
set_option linter.unusedSimpArgs false
namespace Go.Opn
open Go.Cre Go.RowKit Go.Proofs
section
variable {Q : Worlds Tryz.prog} {g0 : Nat} {J : Jm}
/-- texts as values -/
def strs (l : List (List UInt8)) : List Value := l.map fun w => .string ⟨⟨w⟩⟩
/-- what is wanted of the library's functions -/
structure Lb (Q : Worlds Tryz.prog) (g0 : Nat) : Prop where
  itoa : ∀ (n : Int) (J : Jm), -9223372036854775808 ≤ n → n ≤ 9223372036854775807 → Fn (kx Q g0) 17 [.int .i64 n] [] J (Ret (.string ⟨⟨Lib.itoa n⟩⟩) J)
  atoiY : ∀ (s : List UInt8) (v : Int) (J : Jm), s.length ≤ 140737488355328 → Lib.atoiAll s = .ok v → Fn (kx Q g0) 68 [.string ⟨⟨s⟩⟩] [] J (Ret (.tuple #[.int .i64 v, .nilIface]) J)
  atoiN : ∀ (s : List UInt8) (J : Jm), s.length ≤ 140737488355328 → (∀ v, Lib.atoiAll s ≠ .ok v) → ∃ n t, Fn (kx Q g0) 68 [.string ⟨⟨s⟩⟩] [] J (Ret (.tuple #[.int .i64 n, .iface t (.chan none)]) J)
  trim : ∀ (s p : List UInt8) (J : Jm), Fn (kx Q g0) 69 [.string ⟨⟨s⟩⟩, .string ⟨⟨p⟩⟩] [] J (Ret (.string ⟨⟨Lib.trimPrefix s p⟩⟩) J)
  join : ∀ (ws : List (List UInt8)) (v : Value) (J : Jm), SlC J 9 1 v ws.length (strs ws) → 0 < ws.length → ws.length ≤ 100 → (Lib.join ws [32]).length ≤ 100000 → Fn (kx Q g0) 18 [v, .string ⟨⟨[32]⟩⟩] [] J (Ret (.string ⟨⟨Lib.join ws [32]⟩⟩) J)
  idx : ∀ (s : List UInt8) (c : UInt8) (J : Jm), Fn (kx Q g0) 112 [.string ⟨⟨s⟩⟩, .string ⟨⟨[c]⟩⟩] [] J (Ret (.int .i64 (Lib.indexByte s c)) J)
def numV (s : List UInt8) : Value := .tuple #[.int .i64 ((numS s).getD 0), .bool (numS s).isSome]
theorem trim_len {s p : List UInt8} : (Lib.trimPrefix s p).length ≤ s.length := by
  unfold Lib.trimPrefix; split
  · rw [List.length_drop]; omega
  · omega
theorem numberN_fn {J : Jm} (L : Lb Q g0) {s : List UInt8} (hs : s.length ≤ 1000000) (h : ∀ v, Lib.atoiAll s ≠ .ok v) : Fn (kx Q g0) 48 [.string ⟨⟨s⟩⟩] [] J (Ret (numV s) J) := by
  have hn : numS s = none := by
    unfold numS; split
    · rename_i v q; exact absurd q (h v)
    · rfl
  obtain ⟨n, t, hF⟩ := L.atoiN s J (by omega) h
  unfold numV; rw [hn]
  refine Fn.of_body (ftGet Tryz.func48) rfl rfl fun H => ?_
  refine rg ?_
  refine Sa V.asg ?_
  refine Sa V.asg ?_
  refine Wn ?_
  refine rg ?_
  refine Sa V.mv ?_
  refine' W.step rfl (Exec.call rfl rfl rfl rfl rfl rfl rfl (mi := []) (.refl _) trivial (hF) ?_)
  rintro v m' J' hle ⟨rfl, rfl, rfl⟩
  refine Sa V.mv ?_
  refine Sa V.ex ?_
  refine Sa V.ex ?_
  refine Sa V.asg ?_
  refine Sa V.asg ?_
  refine Wn ?_
  refine rg ?_
  refine Sa V.mv ?_
  refine' W.step rfl (Exec.val rfl rfl (v_ifaceNe rfl rfl ?hv (if94 Q g0)) ?_)
  case hv => first | rfl | assumption
  refine Sa V.mv ?_
  first | refine W.splitP (d := 13) rfl (fun gr2_2 => ?_) (fun gr2_2 => ?_) | refine W.split (d := 13) rfl (fun gr2_2 => ?_) (fun gr2_2 => ?_)
  ·
   refine Sn ?_
   refine W.guardN rfl rfl rfl rfl rfl ?_
   refine Sn ?_
   refine Sn ?_
   refine Sa V.pk ?_
   refine Sa V.mv ?_
   refine Sn ?_
   refine W.guardN rfl rfl rfl rfl rfl ?_
   refine Sn ?_
   refine Sn ?_
   refine Sa V.pk ?_
   refine Wn ?_
   refine sq ?_
   refine WC.condT rfl ?_
   refine rg ?_
   refine Sa V.asg ?_
   refine Sa V.asg ?_
   refine Wn ?_
   refine sq ?_
   refine WC.ret ?_
   refine' ⟨.inr rfl, rfl, _, [], .tmp rfl (.tmp rfl .nil), List.nil_sublist _, ⟨rfl, rfl, rfl⟩⟩
  ·
   exfalso; simp at gr2_2
theorem numberY_fn (L : Lb Q g0) {s : List UInt8} {v : Int} (hs : s.length ≤ 1000000) (h : Lib.atoiAll s = .ok v) : Fn (kx Q g0) 48 [.string ⟨⟨s⟩⟩] [] J (Ret (numV s) J) := by
  have hb := Lib.atoiAll_bounds h
  have ht := @trim_len s [45]
  have hn : numS s = if Lib.itoa v ≠ s ∨ 10 < (Lib.trimPrefix s [45]).length then none else some v := by unfold numS; rw [h]
  unfold numV; rw [hn]
  refine Fn.of_body (ftGet Tryz.func48) rfl rfl fun H => ?_
  refine rg ?_
  refine Sa V.asg ?_
  refine Sa V.asg ?_
  refine Wn ?_
  refine rg ?_
  refine Sa V.mv ?_
  refine' W.step rfl (Exec.call rfl rfl rfl rfl rfl rfl rfl (mi := []) (.refl _) trivial (L.atoiY s v _ (by omega) h) ?_)
  rintro v m' J' hle ⟨rfl, rfl, rfl⟩
  refine Sa V.mv ?_
  refine Sa V.ex ?_
  refine Sa V.ex ?_
  refine Sa V.asg ?_
  refine Sa V.asg ?_
  refine Wn ?_
  refine' WC.weak (l' := [(0, _), (5, _), (4, _)]) ⟨rfl, rfl, rfl, trivial⟩ (List.Sublist.refl _) ?_
  refine sq ?_
  refine' WC.cutK 2 [(24, .bool (decide ((Lib.itoa v ≠ s ∨ 10 < (Lib.trimPrefix s [45]).length))))] ?cr2 ?dr2
  case cr2 =>
   refine WC.region ?_
   refine Sa V.mv ?_
   refine' W.step rfl (Exec.val rfl rfl (v_ifaceNe rfl rfl ?hv (if94 Q g0)) ?_)
   case hv => first | rfl | assumption
   refine Sa V.mv ?_
   first | refine W.splitP (d := 13) rfl (fun gr2_2 => ?_) (fun gr2_2 => ?_) | refine W.split (d := 13) rfl (fun gr2_2 => ?_) (fun gr2_2 => ?_)
   ·
    exfalso; simp at gr2_2
   ·
    refine Sb V.mv ?_
    refine' W.guardY rfl rfl rfl (Exec.call rfl rfl rfl rfl rfl rfl rfl (mi := []) (.refl _) trivial (L.itoa v _ hb.1 hb.2) ?_)
    rintro v m' J' hle ⟨rfl, rfl, rfl⟩
    refine Sb V.mv ?_
    refine Sb V.sn ?_
    refine Sa V.pk ?_
    refine Sa V.mv ?_
    first | refine W.splitP (d := 19) rfl (fun gr2_8 => ?_) (fun gr2_8 => ?_) | refine W.split (d := 19) rfl (fun gr2_8 => ?_) (fun gr2_8 => ?_)
    ·
     refine Sn ?_
     refine W.guardN rfl rfl rfl rfl rfl ?_
     refine Sn ?_
     refine Sn ?_
     refine Sa V.pk ?_
     refine Wn ?_
     refine' ⟨⟨_, rfl, ⟨?n24, rfl, trivial⟩⟩, List.Sublist.refl _, rfl⟩
     case n24 => first | exact cutT rfl (by first | omega | (simp_all; done) | (simp_all; omega)) | exact cutF rfl (by first | omega | (simp_all; done) | (simp_all; omega)) | exact cutI rfl (by first | omega | (simp_all; done) | (simp_all; omega)) | exact cutB rfl (by first | omega | (simp_all; done) | (simp_all; omega))
    ·
     refine Sb V.mv ?_
     refine' W.guardY rfl rfl rfl (Exec.call rfl rfl rfl rfl rfl rfl rfl (mi := []) (.refl _) trivial (L.trim s [45] _) ?_)
     rintro v m' J' hle ⟨rfl, rfl, rfl⟩
     refine Sb V.lS ?_
     refine Sb V.vi ?_
     refine Sa V.pk ?_
     refine Wn ?_
     refine' ⟨⟨_, rfl, ⟨?n24, rfl, trivial⟩⟩, List.Sublist.refl _, rfl⟩
     case n24 => first | exact cutT rfl (by first | omega | (simp_all; done) | (simp_all; omega)) | exact cutF rfl (by first | omega | (simp_all; done) | (simp_all; omega)) | exact cutI rfl (by first | omega | (simp_all; done) | (simp_all; omega)) | exact cutB rfl (by first | omega | (simp_all; done) | (simp_all; omega))
  case dr2 =>
   refine sq ?_
   first | refine WC.if rfl (fun c24 => ?_) (fun c24 => ?_) | refine WC.cond rfl (fun c24 => ?_) (fun c24 => ?_)
   ·
    refine rg ?_
    refine Sa V.asg ?_
    refine Sa V.asg ?_
    refine Wn ?_
    refine sq ?_
    refine WC.ret ?_
    refine' ⟨.inr rfl, rfl, _, [], .tmp rfl (.tmp rfl .nil), List.nil_sublist _, ?_⟩
    first
    | (rw [if_pos c24]; exact ⟨rfl, rfl, rfl⟩)
    | (rw [if_neg c24]; exact ⟨rfl, rfl, rfl⟩)
   ·
    refine sq ?_
    refine WC.skip ?_
    refine rg ?_
    refine Sa V.mv ?_
    refine Sa V.asg ?_
    refine Sa V.asg ?_
    refine Wn ?_
    refine sq ?_
    refine WC.ret ?_
    refine' ⟨.inr rfl, rfl, _, [], .tmp rfl (.tmp rfl .nil), List.nil_sublist _, ?_⟩
    first
    | (rw [if_pos c24]; exact ⟨rfl, rfl, rfl⟩)
    | (rw [if_neg c24]; exact ⟨rfl, rfl, rfl⟩)
theorem number_fn (L : Lb Q g0) {s : List UInt8} (hs : s.length ≤ 1000000) : Fn (kx Q g0) 48 [.string ⟨⟨s⟩⟩] [] J (Ret (numV s) J) := by
  by_cases h : ∃ v, Lib.atoiAll s = .ok v
  · obtain ⟨v, h⟩ := h; exact numberY_fn L hs h
  · exact numberN_fn L hs (fun v q => h ⟨v, q⟩)
theorem forms_row {i : Nat} (h : i < 12) : ∃ wd b x y f z, takeN 6 (dropN (((i : Nat) : Int).toNat * 6) formsC) = some [.string ⟨⟨wd⟩⟩, b, x, y, f, z] ∧ (0 < i → wd = wordF i) ∧ [Value.string ⟨⟨wd⟩⟩, b, x, y, f, z].all oneCell = true := by
  by_cases h0 : i = 0
  · subst h0; exact ⟨_, _, _, _, _, _, rfl, fun q => absurd q (by omega), rfl⟩
  · exact ⟨_, _, _, _, _, _, forms_at (k := i) (by omega), fun _ => rfl, rfl⟩
theorem kindS_no {w : List UInt8} (h : ∀ j : Nat, 0 < j → j < 12 → wordF j ≠ w) : kindS w = 0 := by
  unfold kindS
  have g : ∀ j : Nat, 0 < j → j < 12 → ¬ w = wordF j := fun j a b q => h j a b q.symm
  have g1 := g 1 (by omega) (by omega); have g2 := g 2 (by omega) (by omega); have g3 := g 3 (by omega) (by omega); have g4 := g 4 (by omega) (by omega); have g5 := g 5 (by omega) (by omega); have g6 := g 6 (by omega) (by omega); have g7 := g 7 (by omega) (by omega); have g8 := g 8 (by omega) (by omega); have g9 := g 9 (by omega) (by omega); have g10 := g 10 (by omega) (by omega); have g11 := g 11 (by omega) (by omega)
  rw [if_neg (by exact g1), if_neg (by exact g2), if_neg (by exact g3), if_neg (by exact g4), if_neg (by exact g5), if_neg (by exact g6), if_neg (by exact g7), if_neg (by exact g8), if_neg (by exact g9), if_neg (by exact g10), if_neg (by exact g11)]
theorem kindOf_fn {s : List UInt8} : Fn (kx Q g0) 47 [.string ⟨⟨s⟩⟩] [] J (Ret (.int .i64 (kindS s)) J) := by
  refine Fn.of_body (ftGet Tryz.func47) rfl rfl fun H => ?_
  refine rg ?_
  refine Sa V.asg ?_
  refine Wn ?_
  refine rg ?_
  refine' W.step rfl (Exec.call rfl rfl rfl rfl rfl rfl rfl (mi := []) (.refl _) trivial (forms_fn) ?_)
  rintro v m' J' hle ⟨rfl, rfl, rfl⟩
  refine Sa V.mv ?_
  refine Wn ?_
  refine sq ?_
  refine WC.block ?_
  refine' WC.weak (l' := [(6, .int .i64 ((0) : Int)), (0, _), (5, _)]) ⟨?w6, rfl, rfl, trivial⟩ (List.Sublist.refl _) ?_
  case w6 => first | rfl | exact congrArg some (congrArg (Value.int .i64) (by omega))
  refine sq ?_
  refine' WC.loopC (α := (Nat)) (fun (i : Nat) => [(6, .int .i64 (i : Int))]) (fun (i : Nat) => i ≤ 12 ∧ ∀ j : Nat, 0 < j → j < i → wordF j ≠ s) (fun (i : Nat) => 12 - i) (0) ?hs ?hstep
  case hs => exact ⟨by omega, fun j a b => absurd b (by omega)⟩
  case hstep =>
   rintro i hinv
   try simp only at hinv
   obtain ⟨hi, hno⟩ := hinv
   refine rg ?_
   refine Sa V.vi ?_
   refine Wn ?_
   refine sq ?_
   first | refine WC.if rfl (fun c7 => ?_) (fun c7 => ?_) | refine WC.cond rfl (fun c7 => ?_) (fun c7 => ?_)
   ·
    obtain ⟨wd, b, x, y, f, z, hrow, hwd, hone⟩ := forms_row (i := i) (by omega)
    refine sq ?_
    refine WC.skip ?_
    refine sq ?_
    refine WC.block ?_
    refine rg ?_
    refine Sa V.mv ?_
    refine' W.step rfl (Exec.val rfl rfl (v_indexAgg rfl rfl rfl (tAr rfl) ?h0 ?h1 (partA (tAg rfl) ?hv)) ?_)
    case hv => exact hrow
    case h0 => first | omega | (simp; omega)
    case h1 => first | omega | (simp; omega)
    refine' W.step rfl (.of (x_alloc rfl rfl rfl (ze53 Q g0) rfl rfl rfl fun a4 => ?_))
    refine Sa V.asg ?_
    refine' W.step rfl (.of (x_store rfl rfl rfl rfl (tSz rfl) rfl rfl rfl ?h1 ?hs ?hp ?_))
    case hp => repeat first | exact .head _ _ _ _ | apply Put.tail | apply Put.app
    case hs => rfl
    case h1 => exact hone
    refine Wn ?_
    refine' WC.weak (l' := [(4, _), (0, _), (3, _), (5, _), (6, _)]) ⟨rfl, rfl, rfl, rfl, rfl, trivial⟩ (List.Sublist.refl _) ?_
    refine sq ?_
    refine' WC.cutK 1 [(17, .bool (decide ((0 < i ∧ wordF i = s))))] ?cr4 ?dr4
    case cr4 =>
     refine WC.region ?_
     refine Sa V.mv ?_
     refine Sa V.vi ?_
     refine Sa V.mv ?_
     first | refine W.splitP (d := 12) rfl (fun gr4_2 => ?_) (fun gr4_2 => ?_) | refine W.split (d := 12) rfl (fun gr4_2 => ?_) (fun gr4_2 => ?_)
     ·
      refine Sb V.fa ?_
      refine Sb V.ld ?_
      refine Sb V.mv ?_
      refine Sb V.se ?_
      refine Sa V.pk ?_
      refine Wn ?_
      refine' ⟨⟨_, rfl, ⟨?n17, rfl, rfl, rfl, rfl, trivial⟩⟩, List.Sublist.refl _, rfl⟩
      case n17 => first | exact cutT rfl (by first | omega | simp_all) | exact cutF rfl (by first | omega | simp_all) | exact cutI rfl (by first | omega | simp_all) | exact cutB rfl (by simp_all)
     ·
      refine Sn ?_
      refine Sn ?_
      refine Sn ?_
      refine Sn ?_
      refine Sa V.pk ?_
      refine Wn ?_
      refine' ⟨⟨_, rfl, ⟨?n17, rfl, rfl, rfl, rfl, trivial⟩⟩, List.Sublist.refl _, rfl⟩
      case n17 => first | exact cutT rfl (by first | omega | simp_all) | exact cutF rfl (by first | omega | simp_all) | exact cutI rfl (by first | omega | simp_all) | exact cutB rfl (by simp_all)
    case dr4 =>
     refine sq ?_
     first | refine WC.if rfl (fun c17 => ?_) (fun c17 => ?_) | refine WC.cond rfl (fun c17 => ?_) (fun c17 => ?_)
     ·
      refine rg ?_
      refine Sa V.mv ?_
      refine Sa V.asg ?_
      refine Wn ?_
      refine sq ?_
      refine WC.ret ?_
      refine' ⟨.inr rfl, rfl, _, [], .tmp rfl .nil, List.nil_sublist _, ?_⟩
      refine ⟨congrArg (Value.int .i64) ?_, rfl, rfl⟩
      first
        | (rw [← c17.2, kindS_word (by omega)])
        | (symm; exact kindS_no (fun j a b => hno j a (by omega)))
     ·
      refine sq ?_
      refine WC.skip ?_
      refine rg ?_
      refine Sa V.va ?_
      refine Sa V.mv ?_
      refine Wn ?_
      refine' ⟨(i + 1), _, ?hinv, ?hmeas, rfl, ⟨?m6, rfl, rfl, trivial⟩, List.Sublist.cons _ (List.Sublist.refl _), rfl⟩
      case m6 => first | rfl | exact congrArg some (congrArg (Value.int .i64) (by omega))
      case hmeas => first | omega | (simp only; omega)
      case hinv => exact ⟨by omega, fun j a b => by rcases Nat.lt_or_ge j i with q | q; exact hno j a q; obtain rfl : j = i := (by omega); exact fun q => c17 ⟨by omega, q⟩⟩
   ·
    refine sq ?_
    refine WC.exit ?_
    refine rg ?_
    refine Sa V.asg ?_
    refine Wn ?_
    refine sq ?_
    refine WC.ret ?_
    refine' ⟨.inr rfl, rfl, _, [], .tmp rfl .nil, List.nil_sublist _, ?_⟩
    refine ⟨congrArg (Value.int .i64) ?_, rfl, rfl⟩
    first
      | (rw [← c17.2, kindS_word (by omega)])
      | (symm; exact kindS_no (fun j a b => hno j a (by omega)))
theorem words_fn {s : List UInt8} : Fn (kx Q g0) 19 [.string ⟨⟨s⟩⟩] [] J (fun w m' J' => ∃ a, w = .func (.func 45) #[] #[.pointer (some ⟨a, 0, none⟩)] ∧ m' = [(a, .row [.string ⟨⟨s⟩⟩] 9)] ∧ J' = J) := by
  refine Fn.of_body (ftGet Tryz.func19) rfl rfl fun H => ?_
  refine rg ?_
  refine' W.step rfl (.of (x_box rfl rfl rfl rfl rfl rfl fun a1 => ?_))
  refine Sa V.asg ?_
  refine Wn ?_
  refine rg ?_
  refine Sa V.fn ?_
  refine Sa V.asg ?_
  refine Wn ?_
  refine sq ?_
  refine WC.ret ?_
  refine' ⟨.inr rfl, rfl, _, _, .tmp rfl .nil, List.Sublist.refl _, ⟨_, rfl, rfl, rfl⟩⟩
end
end Go.Opn

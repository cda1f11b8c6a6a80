/- A part of the proof of ProtocolBack. -/
import Derived.Test.YtaopiiohjbjgkaaGreatDoorWa
set_option maxRecDepth 100000
set_option linter.unusedVariables false
set_option linter.unusedSimpArgs false
namespace Go.Opn
open Go.Cre Go.RowKit Go.Proofs
section
variable {Q : Worlds Tryz.prog} {g0 : Nat} {J : Jm}
theorem hasPre0_fn {s p : List UInt8} : Fn (kx Q g0) 160 [.string ⟨⟨s⟩⟩, .string ⟨⟨p⟩⟩] [] J (fun w m' J' => (∃ b, w = .bool b ∧ (b = true → p.length ≤ s.length)) ∧ m' = [] ∧ J' = J) := by
  refine Fn.of_body (ftGet Tryz.func160) rfl rfl fun H => ?_
  refine rg ?_
  refine Sa V.asg ?_
  refine Wn ?_
  refine rg ?_
  refine Sa V.mv ?_
  refine Sa V.lS ?_
  refine Sa V.mv ?_
  refine Sa V.lS ?_
  refine Sa V.vi ?_
  refine Sa V.mv ?_
  first | refine W.splitP (d := 10) rfl (fun gr1_5 => ?_) (fun gr1_5 => ?_) | refine W.split (d := 10) rfl (fun gr1_5 => ?_) (fun gr1_5 => ?_)
  ·
   refine Sb V.mv ?_
   refine Sb V.mv ?_
   refine Sb V.lS ?_
   refine' W.guardY rfl rfl rfl (Exec.val rfl rfl (v_sliceStr rfl rfl (tIt rfl) rfl rfl ?h0 ?h1 ?h2) ?_)
   case h0 => first | omega | (simp; omega)
   case h1 => first | omega | (simp; omega)
   case h2 => first | omega | (simp; omega)
   refine Sb V.mv ?_
   refine Sb V.se ?_
   refine Sa V.pk ?_
   refine Sa V.asg ?_
   refine Wn ?_
   refine sq ?_
   refine WC.ret ?_
   refine' ⟨.inr rfl, rfl, _, [], .tmp rfl .nil, List.nil_sublist _, ⟨⟨_, rfl, fun q => by first | omega | (cases q; done)⟩, rfl, rfl⟩⟩
  ·
   refine Sn ?_
   refine Sn ?_
   refine Sn ?_
   refine W.guardN rfl rfl rfl rfl rfl ?_
   refine Sn ?_
   refine Sn ?_
   refine Sa V.pk ?_
   refine Sa V.asg ?_
   refine Wn ?_
   refine sq ?_
   refine WC.ret ?_
   refine' ⟨.inr rfl, rfl, _, [], .tmp rfl .nil, List.nil_sublist _, ⟨⟨_, rfl, fun q => by first | omega | (cases q; done)⟩, rfl, rfl⟩⟩
theorem hasPre_fn {s p : List UInt8} : Fn (kx Q g0) 161 [.string ⟨⟨s⟩⟩, .string ⟨⟨p⟩⟩] [] J (fun w m' J' => (∃ b, w = .bool b ∧ (b = true → p.length ≤ s.length)) ∧ m' = [] ∧ J' = J) := by
  refine Fn.of_body (ftGet Tryz.func161) rfl rfl fun H => ?_
  refine rg ?_
  refine Sa V.asg ?_
  refine Wn ?_
  refine rg ?_
  refine Sa V.mv ?_
  refine Sa V.mv ?_
  refine' W.step rfl (Exec.call rfl rfl rfl rfl rfl rfl rfl (mi := []) (.refl _) trivial (hasPre0_fn) ?_)
  rintro v m' J' hle ⟨⟨b, rfl, hb⟩, rfl, rfl⟩
  refine Sa V.asg ?_
  refine Wn ?_
  refine sq ?_
  refine WC.ret ?_
  refine' ⟨.inr rfl, rfl, _, [], .tmp rfl .nil, List.nil_sublist _, ⟨⟨_, rfl, hb⟩, rfl, rfl⟩⟩
theorem signEnd_fn {s : List UInt8} {b0 : UInt8} (h0 : s[0]? = some b0) (hs : s.length ≤ 140737488355328) : Fn (kx Q g0) 118 [.string ⟨⟨s⟩⟩, .int .i64 0] [] J (fun w m' J' => (∃ e : Nat, w = .int .i64 e ∧ e ≤ s.length) ∧ m' = [] ∧ J' = J) := by
  have hpos : 0 < s.length := by
    cases s with
    | nil => cases h0
    | cons => simp
  have h00 : ((s.drop (0 : Int).toNat).take ((s.length : Int).toNat - (0 : Int).toNat)) = s := by simp
  refine Fn.of_body (ftGet Tryz.func118) rfl rfl fun H => ?_
  refine rg ?_
  refine Sa V.asg ?_
  refine Wn ?_
  refine rg ?_
  refine Sa V.mv ?_
  refine Sa V.mv ?_
  refine' W.step rfl (Exec.val rfl rfl (v_sliceStr rfl rfl (tIt rfl) rfl rfl ?h0 ?h1 ?h2) ?_)
  case h0 => first | omega | (simp; omega)
  case h1 => first | omega | (simp; omega)
  case h2 => first | omega | (simp; omega)
  refine Sa V.asg ?_
  refine Wn ?_
  rw [h00]
  refine rg ?_
  refine Sa V.bd ?_
  refine Sa V.mv ?_
  refine Wn ?_
  refine sq ?_
  refine WC.block ?_
  refine' WC.weak (l' := [(12, .int .i64 ((0) : Int)), (1, _), (5, _), (11, _)]) ⟨?w12, rfl, rfl, rfl, trivial⟩ (List.Sublist.refl _) ?_
  case w12 => first | rfl | exact congrArg some (congrArg (Value.int .i64) (by omega))
  refine sq ?_
  refine' WC.loopC (α := (Nat)) (fun (i : Nat) => [(12, .int .i64 (i : Int))]) (fun (i : Nat) => i ≤ 5) (fun (i : Nat) => 5 - i) (0) ?hs ?hstep
  case hs => omega
  case hstep =>
   rintro i hinv
   try simp only at hinv
   refine rg ?_
   refine Sa V.vi ?_
   refine Wn ?_
   refine sq ?_
   first | refine WC.if rfl (fun c13 => ?_) (fun c13 => ?_) | refine WC.cond rfl (fun c13 => ?_) (fun c13 => ?_)
   ·
    have hlt : i < 5 := by have : (i : Int) < 5 := c13; omega
    obtain ⟨p, hp, hpl⟩ : ∃ p : List UInt8, nth [Value.string ⟨⟨[61, 61]⟩⟩, .string ⟨⟨[33, 61]⟩⟩, .string ⟨⟨[60, 61]⟩⟩, .string ⟨⟨[62, 61]⟩⟩, .string ⟨⟨[46, 46]⟩⟩] (((i : Nat) : Int).toNat * 1) = some (.string ⟨⟨p⟩⟩) ∧ p.length = 2 := by
      match i, hlt with
      | 0, _ => exact ⟨_, rfl, rfl⟩
      | 1, _ => exact ⟨_, rfl, rfl⟩
      | 2, _ => exact ⟨_, rfl, rfl⟩
      | 3, _ => exact ⟨_, rfl, rfl⟩
      | 4, _ => exact ⟨_, rfl, rfl⟩
    refine sq ?_
    refine WC.skip ?_
    refine sq ?_
    refine WC.block ?_
    refine rg ?_
    refine' W.step rfl (Exec.val rfl rfl (v_indexAgg rfl rfl rfl (tAr rfl) ?h0 ?h1 (part1 (tAg rfl) ?hv)) ?_)
    case hv => first | rfl | assumption
    case h0 => first | omega | (simp; omega)
    case h1 => first | omega | (simp; omega)
    refine Sa V.asg ?_
    refine Wn ?_
    refine rg ?_
    refine Sa V.mv ?_
    refine Sa V.mv ?_
    refine' W.step rfl (Exec.call rfl rfl rfl rfl rfl rfl rfl (mi := []) (.refl _) trivial (hasPre_fn (s := s) (p := p)) ?_)
    rintro v m' J' hle ⟨⟨b, rfl, hb⟩, rfl, rfl⟩
    refine Wn ?_
    refine sq ?_
    first | refine WC.if rfl (fun c17 => ?_) (fun c17 => ?_) | refine WC.cond rfl (fun c17 => ?_) (fun c17 => ?_)
    ·
     refine rg ?_
     refine Sa V.mv ?_
     refine Sa V.mv ?_
     refine Sa V.lS ?_
     refine Sa V.va ?_
     refine Sa V.asg ?_
     refine Wn ?_
     refine sq ?_
     refine WC.ret ?_
     refine' ⟨.inr rfl, rfl, _, [], .tmp rfl .nil, List.nil_sublist _, ?_⟩
     first
       | exact ⟨⟨0, rfl, by omega⟩, rfl, rfl⟩
       | exact ⟨⟨1, rfl, by omega⟩, rfl, rfl⟩
       | exact ⟨⟨p.length, congrArg (Value.int .i64) (by omega), hb c17⟩, rfl, rfl⟩
    ·
     refine sq ?_
     refine WC.skip ?_
     refine rg ?_
     refine Sa V.va ?_
     refine Sa V.mv ?_
     refine Wn ?_
     refine' ⟨(i + 1), _, ?hinv, ?hmeas, rfl, ⟨?m12, rfl, rfl, rfl, trivial⟩, List.Sublist.refl _, rfl⟩
     case m12 => first | rfl | exact congrArg some (congrArg (Value.int .i64) (by omega))
     case hmeas => first | omega | (simp only; omega)
     case hinv => omega
   ·
    refine sq ?_
    refine WC.exit ?_
    refine rg ?_
    refine Sa V.mv ?_
    refine Sa V.iS ?_
    refine Sa V.vi ?_
    refine Sa V.mv ?_
    first | refine W.splitP (d := 26) rfl (fun gr8_3 => ?_) (fun gr8_3 => ?_) | refine W.split (d := 26) rfl (fun gr8_3 => ?_) (fun gr8_3 => ?_)
    ·
     refine Sn ?_
     refine Sn ?_
     refine Sn ?_
     refine Sa V.pk ?_
     refine Wn ?_
     refine sq ?_
     refine WC.condT rfl ?_
     refine rg ?_
     refine Sa V.mv ?_
     refine Sa V.asg ?_
     refine Wn ?_
     refine sq ?_
     refine WC.ret ?_
     refine' ⟨.inr rfl, rfl, _, [], .tmp rfl .nil, List.nil_sublist _, ?_⟩
     first
       | exact ⟨⟨0, rfl, by omega⟩, rfl, rfl⟩
       | exact ⟨⟨1, rfl, by omega⟩, rfl, rfl⟩
       | exact ⟨⟨p.length, congrArg (Value.int .i64) (by omega), hb c17⟩, rfl, rfl⟩
    ·
     refine Sb V.mv ?_
     refine Sb V.iS ?_
     refine Sb V.vi ?_
     refine Sa V.pk ?_
     refine Wn ?_
     refine sq ?_
     first | refine WC.if rfl (fun c30 => ?_) (fun c30 => ?_) | refine WC.cond rfl (fun c30 => ?_) (fun c30 => ?_)
     ·
      refine rg ?_
      refine Sa V.mv ?_
      refine Sa V.asg ?_
      refine Wn ?_
      refine sq ?_
      refine WC.ret ?_
      refine' ⟨.inr rfl, rfl, _, [], .tmp rfl .nil, List.nil_sublist _, ?_⟩
      first
        | exact ⟨⟨0, rfl, by omega⟩, rfl, rfl⟩
        | exact ⟨⟨1, rfl, by omega⟩, rfl, rfl⟩
        | exact ⟨⟨p.length, congrArg (Value.int .i64) (by omega), hb c17⟩, rfl, rfl⟩
     ·
      refine sq ?_
      refine WC.skip ?_
      refine rg ?_
      refine Sa V.mv ?_
      refine Sa V.va ?_
      refine Sa V.asg ?_
      refine Wn ?_
      refine sq ?_
      refine WC.ret ?_
      refine' ⟨.inr rfl, rfl, _, [], .tmp rfl .nil, List.nil_sublist _, ?_⟩
      first
        | exact ⟨⟨0, rfl, by omega⟩, rfl, rfl⟩
        | exact ⟨⟨1, rfl, by omega⟩, rfl, rfl⟩
        | exact ⟨⟨p.length, congrArg (Value.int .i64) (by omega), hb c17⟩, rfl, rfl⟩
end
end Go.Opn
set_option maxRecDepth 100000
set_option linter.unusedVariables false
set_option linter.unusedSimpArgs false
namespace Go.Opn
open Go.Cre Go.RowKit Go.Proofs
section
variable {Q : Worlds Tryz.prog} {g0 : Nat} {J : Jm}
def inCl (s : List UInt8) (cl : List Int) (i : Nat) : Bool := match s[i]? with | some b => decide (cls b.toNat ∈ cl) | none => false
theorem inCl_lt {s : List UInt8} {cl : List Int} {j : Nat} (h : inCl s cl j = true) : j < s.length := by
  rcases Nat.lt_or_ge j s.length with q | q
  · exact q
  · unfold inCl at h; rw [List.getElem?_eq_none q] at h; cases h
/-- how far bytes of some classes go -/
def RunP (s : List UInt8) (cl : List Int) (J : Jm) : Value → Mm → Jm → Prop := fun w m' J' => (∃ e : Nat, w = .int .i64 e ∧ e ≤ s.length ∧ (∀ i, i < e → inCl s cl i = true) ∧ (e < s.length → inCl s cl e = false)) ∧ m' = [] ∧ J' = J
theorem run_fn (hG : Gl g0 J) {s : List UInt8} {cl : List Int} {v : Value} (hv : IntsR J v cl) (hs : s.length ≤ 140737488355328) (hcl : cl.length ≤ 1000) : Fn (kx Q g0) 117 [.string ⟨⟨s⟩⟩, .int .i64 0, v] [] J (RunP s cl J) := by
  obtain ⟨bv, cv, rfl, _, hra⟩ := hv.inv
  refine Fn.of_body (ftGet Tryz.func117) rfl rfl fun H => ?_
  refine rg ?_
  refine Sa V.asg ?_
  refine Wn ?_
  refine sq ?_
  refine WC.scope ?_
  refine rg ?_
  refine Sa V.mv ?_
  refine Sa V.asg ?_
  refine Wn ?_
  refine sq ?_
  refine WC.label ?_
  refine sq ?_
  refine WC.block ?_
  refine' WC.weak (l' := [(7, .int .i64 ((0) : Int)), (0, _), (2, _)]) ⟨?w7, rfl, rfl, trivial⟩ (List.Sublist.refl _) ?_
  case w7 => first | rfl | exact congrArg some (congrArg (Value.int .i64) (by omega))
  refine sq ?_
  refine' WC.loopC (α := (Nat)) (fun (j : Nat) => [(7, .int .i64 (j : Int))]) (fun (j : Nat) => j ≤ s.length ∧ ∀ i, i < j → inCl s cl i = true) (fun (j : Nat) => s.length - j) (0) ?hs ?hstep
  case hs => exact ⟨by omega, fun i hi => absurd hi (by omega)⟩
  case hstep =>
   rintro j hinv
   try simp only at hinv
   obtain ⟨hj, hall⟩ := hinv
   refine rg ?_
   refine Sa V.mv ?_
   refine Sa V.mv ?_
   refine Sa V.lS ?_
   refine Sa V.vi ?_
   refine Wn ?_
   refine sq ?_
   first | refine WC.if rfl (fun c14 => ?_) (fun c14 => ?_) | refine WC.cond rfl (fun c14 => ?_) (fun c14 => ?_)
   ·
    have hlt : j < s.length := by omega
    obtain ⟨b, hb, hb'⟩ := get_at s j hlt
    refine sq ?_
    refine WC.skip ?_
    refine sq ?_
    refine WC.block ?_
    refine rg ?_
    refine Sa V.mv ?_
    refine Sa V.ls ?_
    refine Sa V.mv ?_
    refine Wn ?_
    refine sq ?_
    refine WC.block ?_
    refine' WC.weak (l' := [(17, .int .i64 ((0) : Int)), (0, _), (2, _), (7, _), (15, _), (16, _)]) ⟨?w17, rfl, rfl, rfl, rfl, rfl, trivial⟩ (List.Sublist.refl _) ?_
    case w17 => first | rfl | exact congrArg some (congrArg (Value.int .i64) (by omega))
    refine sq ?_
    refine' WC.loopC (α := (Nat)) (fun (i : Nat) => [(17, .int .i64 (i : Int))]) (fun (i : Nat) => i ≤ cl.length ∧ ∀ k x, k < i → cl[k]? = some x → cls b.toNat ≠ x) (fun (i : Nat) => cl.length - i) (0) ?hs ?hstep
    case hs => exact ⟨by omega, fun k x hk => absurd hk (by omega)⟩
    case hstep =>
     rintro i hinv
     try simp only at hinv
     obtain ⟨hi, hno⟩ := hinv
     refine rg ?_
     refine Sa V.vi ?_
     refine Wn ?_
     refine sq ?_
     first | refine WC.if rfl (fun c18 => ?_) (fun c18 => ?_) | refine WC.cond rfl (fun c18 => ?_) (fun c18 => ?_)
     ·
      obtain ⟨a, off, cells, e, rfl, hJ, hget⟩ := hra (by omega)
      obtain ⟨x, hx, hnx⟩ := hget i (by omega) (by omega)
      refine sq ?_
      refine WC.skip ?_
      refine sq ?_
      refine WC.block ?_
      refine rg ?_
      refine Sa V.ix ?_
      refine Sa V.ld ?_
      refine Sa V.asg ?_
      refine Wn ?_
      refine rg ?_
      refine Sa V.mv ?_
      refine Sa V.mv ?_
      refine Sa V.iS ?_
      refine' W.step rfl (Exec.call rfl rfl rfl rfl rfl rfl rfl (mi := []) (.refl _) trivial (classOf_fn hG (UInt8.toNat_lt b)) ?_)
      rintro v m' J' hle ⟨rfl, rfl, rfl⟩
      refine Sa V.mv ?_
      refine Sa V.vi ?_
      refine Wn ?_
      refine sq ?_
      first | refine WC.if rfl (fun c26 => ?_) (fun c26 => ?_) | refine WC.cond rfl (fun c26 => ?_) (fun c26 => ?_)
      ·
       refine rg ?_
       refine Sa V.mv ?_
       refine Sa V.va ?_
       refine Sa V.asg ?_
       refine Wn ?_
       refine sq ?_
       refine WC.exit ?_
       refine' ⟨(j + 1), _, ?hinv, ?hmeas, rfl, ⟨?m7, rfl, rfl, trivial⟩, List.Sublist.refl _, rfl⟩
       case m7 => first | rfl | exact congrArg some (congrArg (Value.int .i64) (by omega))
       case hmeas => first | omega | (simp only; omega)
       case hinv => exact ⟨by omega, fun i hi => by rcases Nat.lt_or_ge i j with q | q; exact hall i q; rw [show i = j by omega]; unfold inCl; rw [hb']; simp only [decide_eq_true_eq]; rw [c26]; exact List.mem_of_getElem? hx⟩
      ·
       refine sq ?_
       refine WC.skip ?_
       refine rg ?_
       refine Sa V.va ?_
       refine Sa V.mv ?_
       refine Wn ?_
       refine' ⟨(i + 1), _, ?hinv, ?hmeas, rfl, ⟨?m17, rfl, rfl, rfl, rfl, rfl, trivial⟩, List.Sublist.refl _, rfl⟩
       case m17 => first | rfl | exact congrArg some (congrArg (Value.int .i64) (by omega))
       case hmeas => first | omega | (simp only; omega)
       case hinv => exact ⟨by omega, fun k y hk hy => by rcases Nat.lt_or_ge k i with q | q; exact hno k y q hy; rw [show k = i by omega] at hy; simp only [Int.toNat_natCast] at hx; rw [hx] at hy; injection hy with hy; rw [← hy]; exact c26⟩
     ·
      refine sq ?_
      refine WC.exit ?_
      refine sq ?_
      refine WC.exit ?_
      refine rg ?_
      refine Sa V.mv ?_
      refine Sa V.asg ?_
      refine Wn ?_
      refine sq ?_
      refine WC.ret ?_
      refine ⟨(fun _ q => by cases q), ?_⟩
      refine' ⟨.inr rfl, rfl, _, [], .tmp rfl .nil, List.nil_sublist _, ?_⟩
      refine ⟨⟨j, rfl, hj, hall, fun hlt => ?_⟩, rfl, rfl⟩
      first
        | (exfalso; omega)
        | (unfold inCl; rw [hb']; simp only [decide_eq_false_iff_not]; intro hm; obtain ⟨k, hk, hkx⟩ := List.mem_iff_getElem.1 hm; exact hno k _ (by omega) (List.getElem?_eq_getElem hk) hkx.symm)
   ·
    refine sq ?_
    refine WC.exit ?_
    refine rg ?_
    refine Sa V.mv ?_
    refine Sa V.asg ?_
    refine Wn ?_
    refine sq ?_
    refine WC.ret ?_
    refine ⟨(fun _ q => by cases q), ?_⟩
    refine' ⟨.inr rfl, rfl, _, [], .tmp rfl .nil, List.nil_sublist _, ?_⟩
    refine ⟨⟨j, rfl, hj, hall, fun hlt => ?_⟩, rfl, rfl⟩
    first
      | (exfalso; omega)
      | (unfold inCl; rw [hb']; simp only [decide_eq_false_iff_not]; intro hm; obtain ⟨k, hk, hkx⟩ := List.mem_iff_getElem.1 hm; exact hno k _ (by omega) (List.getElem?_eq_getElem hk) hkx.symm)
end
end Go.Opn

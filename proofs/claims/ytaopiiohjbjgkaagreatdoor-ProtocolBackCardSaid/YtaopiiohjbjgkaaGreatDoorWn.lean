/- A part of the proof of ProtocolBack. -/
import Derived.Test.YtaopiiohjbjgkaaGreatDoorWm
set_option maxRecDepth 100000
set_option linter.unusedVariables false
set_option linter.unusedSimpArgs false
namespace Go.Opn
open Go.Cre Go.RowKit Go.Proofs
theorem counts_0 {k : Int} (h : k = 9 ∨ k = 11) : (counts k).2 = 0 := by rcases h with rfl | rfl <;> rfl
theorem rise_0 (k : Int) : 0 ≤ rise k ∧ rise k ≤ 100 := by
  unfold rise; split
  · omega
  · split <;> omega
section
variable {Q : Worlds Tryz.prog} {g0 : Nat} {J : Jm}
theorem check_fn (hG : Gl g0 J) {k : Int} {tx : List UInt8} {N : List Int} {bv : Option Addr} {nv cv : Nat} (hv : IntsR J (.slice bv nv cv) N) (ht : tx.length ≤ 140737488355328) (hN : N.length ≤ 1000000) : Fn (kx Q g0) 8 [lineV k tx (.slice bv nv cv)] [] J (fun w m' J' => w = .int .i64 (chk k tx N) ∧ m' = [] ∧ J.le J') := by
  obtain ⟨rfl, _, _⟩ := hv.get
  refine Fn.of_body (ftGet Tryz.func8) rfl rfl fun H => ?_
  refine rg ?_
  refine' W.step rfl (.of (x_box rfl rfl rfl rfl rfl rfl fun a1 => ?_))
  refine Sa V.asg ?_
  refine Wn ?_
  refine' WC.weak (l' := [(1, _)]) ⟨rfl, trivial⟩ (List.Sublist.refl _) ?_
  refine sq ?_
  refine' WC.cutK 0 [(16, .bool (decide ((k < 1 ∨ 11 < k))))] ?cr1 ?dr1
  case cr1 =>
   refine WC.region ?_
   refine Sa V.fa ?_
   refine Sa V.ld ?_
   refine Sa V.vi ?_
   refine Sa V.mv ?_
   first | refine W.splitP (d := 12) rfl (fun gr1_3 => ?_) (fun gr1_3 => ?_) | refine W.split (d := 12) rfl (fun gr1_3 => ?_) (fun gr1_3 => ?_)
   ·
    refine Sn ?_
    refine Sn ?_
    refine Sn ?_
    refine Sa V.pk ?_
    refine Wn ?_
    refine' ⟨⟨_, rfl, ⟨?n16, rfl, trivial⟩⟩, List.Sublist.refl _, rfl⟩
    case n16 => first | exact cutT rfl (by first | omega | simp_all) | exact cutF rfl (by first | omega | simp_all) | exact cutI rfl (by first | omega | simp_all) | exact cutB rfl (by simp_all)
   ·
    refine Sb V.fa ?_
    refine Sb V.ld ?_
    refine Sb V.vi ?_
    refine Sa V.pk ?_
    refine Wn ?_
    refine' ⟨⟨_, rfl, ⟨?n16, rfl, trivial⟩⟩, List.Sublist.refl _, rfl⟩
    case n16 => first | exact cutT rfl (by first | omega | simp_all) | exact cutF rfl (by first | omega | simp_all) | exact cutI rfl (by first | omega | simp_all) | exact cutB rfl (by simp_all)
  case dr1 =>
   refine sq ?_
   first | refine WC.if rfl (fun c16 => ?_) (fun c16 => ?_) | refine WC.cond rfl (fun c16 => ?_) (fun c16 => ?_)
   ·
    refine rg ?_
    refine Sa V.asg ?_
    refine Wn ?_
    refine sq ?_
    refine WC.ret ?_
    refine' ⟨.inr rfl, rfl, _, [], .tmp rfl .nil, List.nil_sublist _, ?_⟩
    refine ⟨congrArg (Value.int .i64) ?_, rfl, by first | exact Jm.le.refl _ | assumption⟩
    symm
    first
      | exact chk_7 c16
      | exact chk_3 c16 (c38.elim .inl (fun q => .inr (.inl q)))
      | exact chk_3 c16 (.inr (.inr (c52.elim .inl (fun q => .inr (.inl q)))))
      | exact chk_3 c16 (.inr (.inr (.inr (.inr c68))))
      | exact chk_2 c16 hform ⟨i, x, hx, c92⟩
      | exact chk_9 c16 hform hnr ⟨q, x, y, hq, hx, by rw [show ((q : Int) - 1).toNat = q - 1 by omega] at hy; exact hy, c115⟩
      | exact chk_0 c16 hform hnr (fun hb => by obtain ⟨j, u, w, h1, h2, h3, h4⟩ := hb; exact hord j u w h1 (by have := (List.getElem?_eq_some_iff.1 h2).1; omega) h2 h3 h4)
   ·
    refine sq ?_
    refine WC.skip ?_
    refine sq ?_
    refine WC.draw rfl (by kernel_rfl) (plan := [.alc 4, .val 1, .val 2, .chn 0, .val 3, .chk [2, 1], .chn 5]) (by kernel_rfl) ?_
    refine WD.alloc rfl rfl rfl rfl rfl (ze53 Q g0) rfl rfl rfl fun a3 => ?_
    refine Da rfl V.fa ?_
    refine Da rfl V.ld ?_
    refine' WD.call rfl rfl rfl rfl rfl rfl rfl rfl rfl rfl (mi := []) (.refl _) trivial (forms_fn) ?_
    rintro v m' J' hle ⟨rfl, rfl, rfl⟩
    refine' WD.val rfl rfl rfl rfl (v_indexAgg rfl rfl rfl (tAr rfl) ?h0 ?h1 (partA (tAg rfl) ?hv)) ?_
    case hv => exact forms_at c16
    case h0 => first | omega | (simp; omega)
    case h1 => first | omega | (simp; omega)
    refine WD.chk ck ?_
    refine Ds rfl ?_
    refine WD.nil ?_
    refine' WC.weak (l' := [(1, _), (3, _)]) ⟨rfl, rfl, trivial⟩ (List.Sublist.refl _) ?_
    refine sq ?_
    refine' WC.cutJ 0 [(38, .bool (decide ((named k = true ∧ isNm tx = false ∨ named k = false ∧ tx ≠ []))))] ?cr4 ?dr4
    case cr4 =>
     refine WC.region ?_
     refine Sa V.fa ?_
     refine Sa V.ld ?_
     refine Sa V.mv ?_
     first | refine W.splitP (d := 23) rfl (fun gr4_2 => ?_) (fun gr4_2 => ?_) | refine W.split (d := 23) rfl (fun gr4_2 => ?_) (fun gr4_2 => ?_)
     ·
      skip
      refine Sb V.fa ?_
      refine Sb V.ld ?_
      refine' W.guardY rfl rfl rfl (Exec.call rfl rfl rfl rfl rfl rfl rfl (mi := []) (.refl _) trivial (isName_fn hG ht) ?_)
      rintro v m' J1 hle1 ⟨rfl, rfl, hle1'⟩
      refine Sb V.nt ?_
      refine Sa V.pk ?_
      refine Sa V.mv ?_
      first | refine W.splitP (d := 29) rfl (fun gr4_8 => ?_) (fun gr4_8 => ?_) | refine W.split (d := 29) rfl (fun gr4_8 => ?_) (fun gr4_8 => ?_)
      ·
       refine Sn ?_
       refine Sn ?_
       refine Sn ?_
       refine Sn ?_
       refine Su ?_
       refine Su ?_
       refine Su ?_
       refine Sn ?_
       refine Sa V.pk ?_
       refine Wn ?_
       refine' ⟨⟨_, rfl, ⟨?n38, rfl, rfl, trivial⟩⟩, List.Sublist.refl _, ?hcj⟩
       case hcj => first | exact Jm.le.refl _ | assumption
       case n38 => first | exact cutT rfl (by first | omega | simp_all) | exact cutF rfl (by first | omega | simp_all) | exact cutI rfl (by first | omega | simp_all) | exact cutB rfl (by simp_all)
      ·
       refine Sb V.fa ?_
       refine Sb V.ld ?_
       refine Sb V.nt ?_
       refine Sb V.mv ?_
       first | refine W.splitP (d := 33) rfl (fun gr4_12 => ?_) (fun gr4_12 => ?_) | refine W.split (d := 33) rfl (fun gr4_12 => ?_) (fun gr4_12 => ?_)
       ·
        refine Sb V.fa ?_
        refine Sb V.ld ?_
        refine Sb V.sn ?_
        refine Sb V.pk ?_
        refine Sa V.pk ?_
        refine Wn ?_
        refine' ⟨⟨_, rfl, ⟨?n38, rfl, rfl, trivial⟩⟩, List.Sublist.refl _, ?hcj⟩
        case hcj => first | exact Jm.le.refl _ | assumption
        case n38 => first | exact cutT rfl (by first | omega | simp_all) | exact cutF rfl (by first | omega | simp_all) | exact cutI rfl (by first | omega | simp_all) | exact cutB rfl (by simp_all)
       ·
        refine Sn ?_
        refine Sn ?_
        refine Sn ?_
        refine Sb V.pk ?_
        refine Sa V.pk ?_
        refine Wn ?_
        refine' ⟨⟨_, rfl, ⟨?n38, rfl, rfl, trivial⟩⟩, List.Sublist.refl _, ?hcj⟩
        case hcj => first | exact Jm.le.refl _ | assumption
        case n38 => first | exact cutT rfl (by first | omega | simp_all) | exact cutF rfl (by first | omega | simp_all) | exact cutI rfl (by first | omega | simp_all) | exact cutB rfl (by simp_all)
     ·
      refine Sn ?_
      refine Sn ?_
      refine W.guardN rfl rfl rfl rfl rfl ?_
      refine Sn ?_
      refine Sa V.pk ?_
      refine Sa V.mv ?_
      refine Sb V.fa ?_
      refine Sb V.ld ?_
      refine Sb V.nt ?_
      refine Sb V.mv ?_
      first | refine W.splitP (d := 33) rfl (fun gr4_12 => ?_) (fun gr4_12 => ?_) | refine W.split (d := 33) rfl (fun gr4_12 => ?_) (fun gr4_12 => ?_)
      ·
       refine Sb V.fa ?_
       refine Sb V.ld ?_
       refine Sb V.sn ?_
       refine Sb V.pk ?_
       refine Sa V.pk ?_
       refine Wn ?_
       refine' ⟨⟨_, rfl, ⟨?n38, rfl, rfl, trivial⟩⟩, List.Sublist.refl _, ?hcj⟩
       case hcj => first | exact Jm.le.refl _ | assumption
       case n38 => first | exact cutT rfl (by first | omega | simp_all) | exact cutF rfl (by first | omega | simp_all) | exact cutI rfl (by first | omega | simp_all) | exact cutB rfl (by simp_all)
      ·
       refine Sn ?_
       refine Sn ?_
       refine Sn ?_
       refine Sb V.pk ?_
       refine Sa V.pk ?_
       refine Wn ?_
       refine' ⟨⟨_, rfl, ⟨?n38, rfl, rfl, trivial⟩⟩, List.Sublist.refl _, ?hcj⟩
       case hcj => first | exact Jm.le.refl _ | assumption
       case n38 => first | exact cutT rfl (by first | omega | simp_all) | exact cutF rfl (by first | omega | simp_all) | exact cutI rfl (by first | omega | simp_all) | exact cutB rfl (by simp_all)
    case dr4 =>
     intro Jr4 hler4
     have hv2 := hv.mono hler4
     obtain ⟨_, _, hra⟩ := hv2.get
     refine sq ?_
     first | refine WC.if rfl (fun c38 => ?_) (fun c38 => ?_) | refine WC.cond rfl (fun c38 => ?_) (fun c38 => ?_)
     ·
      refine rg ?_
      refine Sa V.asg ?_
      refine Wn ?_
      refine sq ?_
      refine WC.ret ?_
      refine' ⟨.inr rfl, rfl, _, [], .tmp rfl .nil, List.nil_sublist _, ?_⟩
      refine ⟨congrArg (Value.int .i64) ?_, rfl, by first | exact Jm.le.refl _ | assumption⟩
      symm
      first
        | exact chk_7 c16
        | exact chk_3 c16 (c38.elim .inl (fun q => .inr (.inl q)))
        | exact chk_3 c16 (.inr (.inr (c52.elim .inl (fun q => .inr (.inl q)))))
        | exact chk_3 c16 (.inr (.inr (.inr (.inr c68))))
        | exact chk_2 c16 hform ⟨i, x, hx, c92⟩
        | exact chk_9 c16 hform hnr ⟨q, x, y, hq, hx, by rw [show ((q : Int) - 1).toNat = q - 1 by omega] at hy; exact hy, c115⟩
        | exact chk_0 c16 hform hnr (fun hb => by obtain ⟨j, u, w, h1, h2, h3, h4⟩ := hb; exact hord j u w h1 (by have := (List.getElem?_eq_some_iff.1 h2).1; omega) h2 h3 h4)
     ·
      refine sq ?_
      refine WC.skip ?_
      refine' WC.weak (l' := [(1, _), (3, _)]) ⟨rfl, rfl, trivial⟩ (List.Sublist.refl _) ?_
      refine sq ?_
      refine' WC.cutK 0 [(52, .bool (decide ((N.length < (counts k).1 ∨ (counts k).2 < N.length))))] ?cr6 ?dr6
      case cr6 =>
       refine WC.region ?_
       refine Sa V.fa ?_
       refine Sa V.ld ?_
       refine Sa V.ls ?_
       refine Sa V.fa ?_
       refine Sa V.ld ?_
       refine Sa V.vi ?_
       refine Sa V.mv ?_
       first | refine W.splitP (d := 45) rfl (fun gr6_6 => ?_) (fun gr6_6 => ?_) | refine W.split (d := 45) rfl (fun gr6_6 => ?_) (fun gr6_6 => ?_)
       ·
        refine Sn ?_
        refine Sn ?_
        refine Sn ?_
        refine Sn ?_
        refine Sn ?_
        refine Sn ?_
        refine Sa V.pk ?_
        refine Wn ?_
        refine' ⟨⟨_, rfl, ⟨?n52, rfl, rfl, trivial⟩⟩, List.Sublist.refl _, rfl⟩
        case n52 => first | exact cutT rfl (by first | omega | simp_all) | exact cutF rfl (by first | omega | simp_all) | exact cutI rfl (by first | omega | simp_all) | exact cutB rfl (by simp_all)
       ·
        refine Sb V.fa ?_
        refine Sb V.ld ?_
        refine Sb V.ls ?_
        refine Sb V.fa ?_
        refine Sb V.ld ?_
        refine Sb V.vi ?_
        refine Sa V.pk ?_
        refine Wn ?_
        refine' ⟨⟨_, rfl, ⟨?n52, rfl, rfl, trivial⟩⟩, List.Sublist.refl _, rfl⟩
        case n52 => first | exact cutT rfl (by first | omega | simp_all) | exact cutF rfl (by first | omega | simp_all) | exact cutI rfl (by first | omega | simp_all) | exact cutB rfl (by simp_all)
      case dr6 =>
       refine sq ?_
       first | refine WC.if rfl (fun c52 => ?_) (fun c52 => ?_) | refine WC.cond rfl (fun c52 => ?_) (fun c52 => ?_)
       ·
        refine rg ?_
        refine Sa V.asg ?_
        refine Wn ?_
        refine sq ?_
        refine WC.ret ?_
        refine' ⟨.inr rfl, rfl, _, [], .tmp rfl .nil, List.nil_sublist _, ?_⟩
        refine ⟨congrArg (Value.int .i64) ?_, rfl, by first | exact Jm.le.refl _ | assumption⟩
        symm
        first
          | exact chk_7 c16
          | exact chk_3 c16 (c38.elim .inl (fun q => .inr (.inl q)))
          | exact chk_3 c16 (.inr (.inr (c52.elim .inl (fun q => .inr (.inl q)))))
          | exact chk_3 c16 (.inr (.inr (.inr (.inr c68))))
          | exact chk_2 c16 hform ⟨i, x, hx, c92⟩
          | exact chk_9 c16 hform hnr ⟨q, x, y, hq, hx, by rw [show ((q : Int) - 1).toNat = q - 1 by omega] at hy; exact hy, c115⟩
          | exact chk_0 c16 hform hnr (fun hb => by obtain ⟨j, u, w, h1, h2, h3, h4⟩ := hb; exact hord j u w h1 (by have := (List.getElem?_eq_some_iff.1 h2).1; omega) h2 h3 h4)
       ·
        refine sq ?_
        refine WC.skip ?_
        refine' WC.weak (l' := [(1, _), (3, _)]) ⟨rfl, rfl, trivial⟩ (List.Sublist.refl _) ?_
        refine sq ?_
        refine' WC.cutK 0 [(68, .bool (decide ((k = 4 ∧ 4 < N.length ∧ N[1]? ≠ some 3))))] ?cr8 ?dr8
        case cr8 =>
         refine WC.region ?_
         refine Sa V.fa ?_
         refine Sa V.ld ?_
         refine Sa V.vi ?_
         refine Sa V.mv ?_
         first | refine W.splitP (d := 56) rfl (fun gr8_3 => ?_) (fun gr8_3 => ?_) | refine W.split (d := 56) rfl (fun gr8_3 => ?_) (fun gr8_3 => ?_)
         ·
          refine Sb V.fa ?_
          refine Sb V.ld ?_
          refine Sb V.ls ?_
          refine Sb V.vi ?_
          refine Sa V.pk ?_
          refine Sa V.mv ?_
          first | refine W.splitP (d := 62) rfl (fun gr8_9 => ?_) (fun gr8_9 => ?_) | refine W.split (d := 62) rfl (fun gr8_9 => ?_) (fun gr8_9 => ?_)
          ·
           obtain ⟨a, off, cells, e, rfl, hJ, hget⟩ := hra (by omega)
           obtain ⟨x, hx, hnx⟩ := hget 1 (by omega) (by omega)
           refine Sb V.fa ?_
           refine Sb V.ld ?_
           refine Sb V.ix ?_
           refine Sb V.ld ?_
           refine Sb V.vi ?_
           refine Sa V.pk ?_
           refine Wn ?_
           refine' ⟨⟨_, rfl, ⟨?n68, rfl, rfl, trivial⟩⟩, List.Sublist.refl _, rfl⟩
           case n68 => first | exact cutT rfl (by first | (simp_all; done) | (simp_all; omega)) | exact cutF rfl (by first | (simp_all; done) | (simp_all; omega)) | exact cutI rfl (by first | (simp_all; done) | (simp_all; omega)) | exact cutB rfl (by first | (simp_all; done) | (simp_all; omega))
          ·
           refine Sn ?_
           refine Sn ?_
           refine Sn ?_
           refine Sn ?_
           refine Sn ?_
           refine Sa V.pk ?_
           refine Wn ?_
           refine' ⟨⟨_, rfl, ⟨?n68, rfl, rfl, trivial⟩⟩, List.Sublist.refl _, rfl⟩
           case n68 => first | exact cutT rfl (by first | (simp_all; done) | (simp_all; omega)) | exact cutF rfl (by first | (simp_all; done) | (simp_all; omega)) | exact cutI rfl (by first | (simp_all; done) | (simp_all; omega)) | exact cutB rfl (by first | (simp_all; done) | (simp_all; omega))
         ·
          refine Sn ?_
          refine Sn ?_
          refine Sn ?_
          refine Sn ?_
          refine Sa V.pk ?_
          refine Sa V.mv ?_
          refine Sn ?_
          refine Sn ?_
          refine Sn ?_
          refine Sn ?_
          refine Sn ?_
          refine Sa V.pk ?_
          refine Wn ?_
          refine' ⟨⟨_, rfl, ⟨?n68, rfl, rfl, trivial⟩⟩, List.Sublist.refl _, rfl⟩
          case n68 => first | exact cutT rfl (by first | (simp_all; done) | (simp_all; omega)) | exact cutF rfl (by first | (simp_all; done) | (simp_all; omega)) | exact cutI rfl (by first | (simp_all; done) | (simp_all; omega)) | exact cutB rfl (by first | (simp_all; done) | (simp_all; omega))
        case dr8 =>
         refine sq ?_
         first | refine WC.if rfl (fun c68 => ?_) (fun c68 => ?_) | refine WC.cond rfl (fun c68 => ?_) (fun c68 => ?_)
         ·
          refine rg ?_
          refine Sa V.asg ?_
          refine Wn ?_
          refine sq ?_
          refine WC.ret ?_
          refine' ⟨.inr rfl, rfl, _, [], .tmp rfl .nil, List.nil_sublist _, ?_⟩
          refine ⟨congrArg (Value.int .i64) ?_, rfl, by first | exact Jm.le.refl _ | assumption⟩
          symm
          first
            | exact chk_7 c16
            | exact chk_3 c16 (c38.elim .inl (fun q => .inr (.inl q)))
            | exact chk_3 c16 (.inr (.inr (c52.elim .inl (fun q => .inr (.inl q)))))
            | exact chk_3 c16 (.inr (.inr (.inr (.inr c68))))
            | exact chk_2 c16 hform ⟨i, x, hx, c92⟩
            | exact chk_9 c16 hform hnr ⟨q, x, y, hq, hx, by rw [show ((q : Int) - 1).toNat = q - 1 by omega] at hy; exact hy, c115⟩
            | exact chk_0 c16 hform hnr (fun hb => by obtain ⟨j, u, w, h1, h2, h3, h4⟩ := hb; exact hord j u w h1 (by have := (List.getElem?_eq_some_iff.1 h2).1; omega) h2 h3 h4)
         ·
          have hform : ¬ FormBad k tx N := by
            rintro (h | h | h | h | h)
            · exact c38 (.inl h)
            · exact c38 (.inr h)
            · exact c52 (.inl h)
            · exact c52 (.inr h)
            · exact c68 h
          refine sq ?_
          refine WC.skip ?_
          refine rg ?_
          refine Sa V.fa ?_
          refine Sa V.ld ?_
          refine Sa V.ls ?_
          refine Sa V.mv ?_
          refine Wn ?_
          refine sq ?_
          refine WC.block ?_
          refine' WC.weak (l' := [(72, .int .i64 ((0) : Int)), (1, _), (3, _), (70, _), (71, _)]) ⟨?w72, rfl, rfl, rfl, rfl, trivial⟩ (List.Sublist.refl _) ?_
          case w72 => first | rfl | exact congrArg some (congrArg (Value.int .i64) (by omega))
          refine sq ?_
          refine' WC.loopC (α := (Nat)) (fun (i : Nat) => [(72, .int .i64 (i : Int))]) (fun (i : Nat) => i ≤ N.length ∧ ∀ j x, j < i → N[j]? = some x → ¬ (x < (limits k j).1 ∨ (limits k j).2 < x)) (fun (i : Nat) => N.length - i) (0) ?hs ?hstep
          case hs => exact ⟨by omega, fun j x hj => absurd hj (by omega)⟩
          case hstep =>
           rintro i hinv
           try simp only at hinv
           obtain ⟨hi, hok⟩ := hinv
           refine rg ?_
           refine Sa V.vi ?_
           refine Wn ?_
           refine sq ?_
           first | refine WC.if rfl (fun c73 => ?_) (fun c73 => ?_) | refine WC.cond rfl (fun c73 => ?_) (fun c73 => ?_)
           ·
            obtain ⟨a, off, cells, e, rfl, hJ, hget⟩ := hra (by omega)
            obtain ⟨x, hx, hnx⟩ := hget i (by omega) (by omega)
            have h9 : k ≠ 9 := fun q => by have := counts_0 (.inl q); omega
            have h11 : k ≠ 11 := fun q => by have := counts_0 (.inr q); omega
            refine sq ?_
            refine WC.skip ?_
            refine sq ?_
            refine WC.block ?_
            refine rg ?_
            refine Sa V.mv ?_
            refine Sa V.ix ?_
            refine Sa V.ld ?_
            refine Sa V.asg ?_
            refine Sa V.asg ?_
            refine Wn ?_
            refine rg ?_
            refine Sa V.fa ?_
            refine Sa V.ld ?_
            refine Sa V.ldA ?_
            refine Sa V.mv ?_
            refine' W.step rfl (Exec.call rfl rfl rfl rfl rfl rfl rfl (mi := []) (.refl _) trivial (lim_fn c16 h9 h11) ?_)
            rintro v m' J' hle ⟨rfl, rfl, rfl⟩
            refine Sa V.mv ?_
            refine Sa V.ex ?_
            refine Sa V.ex ?_
            refine Sa V.asg ?_
            refine Sa V.asg ?_
            refine Wn ?_
            refine' WC.weak (l' := [(5, _), (6, _), (7, _), (1, _), (3, _), (70, _), (71, _), (72, _)]) ⟨rfl, rfl, rfl, rfl, rfl, rfl, rfl, rfl, trivial⟩ (List.Sublist.refl _) ?_
            refine sq ?_
            refine' WC.cutK 3 [(92, .bool (decide ((x < (limits k i).1 ∨ (limits k i).2 < x))))] ?cr14 ?dr14
            case cr14 =>
             refine WC.region ?_
             refine Sa V.mv ?_
             refine Sa V.mv ?_
             refine Sa V.vi ?_
             refine Sa V.mv ?_
             first | refine W.splitP (d := 88) rfl (fun gr14_3 => ?_) (fun gr14_3 => ?_) | refine W.split (d := 88) rfl (fun gr14_3 => ?_) (fun gr14_3 => ?_)
             ·
              refine Sn ?_
              refine Sn ?_
              refine Sn ?_
              refine Sa V.pk ?_
              refine Wn ?_
              refine' ⟨⟨_, rfl, ⟨?n92, rfl, rfl, rfl, rfl, rfl, trivial⟩⟩, List.Sublist.refl _, rfl⟩
              case n92 => first | exact cutT rfl (by first | omega | simp_all) | exact cutF rfl (by first | omega | simp_all) | exact cutI rfl (by first | omega | simp_all) | exact cutB rfl (by simp_all)
             ·
              refine Sb V.mv ?_
              refine Sb V.mv ?_
              refine Sb V.vi ?_
              refine Sa V.pk ?_
              refine Wn ?_
              refine' ⟨⟨_, rfl, ⟨?n92, rfl, rfl, rfl, rfl, rfl, trivial⟩⟩, List.Sublist.refl _, rfl⟩
              case n92 => first | exact cutT rfl (by first | omega | simp_all) | exact cutF rfl (by first | omega | simp_all) | exact cutI rfl (by first | omega | simp_all) | exact cutB rfl (by simp_all)
            case dr14 =>
             refine sq ?_
             first | refine WC.if rfl (fun c92 => ?_) (fun c92 => ?_) | refine WC.cond rfl (fun c92 => ?_) (fun c92 => ?_)
             ·
              refine rg ?_
              refine Sa V.asg ?_
              refine Wn ?_
              refine sq ?_
              refine WC.ret ?_
              refine' ⟨.inr rfl, rfl, _, [], .tmp rfl .nil, List.nil_sublist _, ?_⟩
              refine ⟨congrArg (Value.int .i64) ?_, rfl, by first | exact Jm.le.refl _ | assumption⟩
              symm
              first
                | exact chk_7 c16
                | exact chk_3 c16 (c38.elim .inl (fun q => .inr (.inl q)))
                | exact chk_3 c16 (.inr (.inr (c52.elim .inl (fun q => .inr (.inl q)))))
                | exact chk_3 c16 (.inr (.inr (.inr (.inr c68))))
                | exact chk_2 c16 hform ⟨i, x, hx, c92⟩
                | exact chk_9 c16 hform hnr ⟨q, x, y, hq, hx, by rw [show ((q : Int) - 1).toNat = q - 1 by omega] at hy; exact hy, c115⟩
                | exact chk_0 c16 hform hnr (fun hb => by obtain ⟨j, u, w, h1, h2, h3, h4⟩ := hb; exact hord j u w h1 (by have := (List.getElem?_eq_some_iff.1 h2).1; omega) h2 h3 h4)
             ·
              refine sq ?_
              refine WC.skip ?_
              refine rg ?_
              refine Sa V.va ?_
              refine Sa V.mv ?_
              refine Wn ?_
              refine' ⟨(i + 1), _, ?hinv, ?hmeas, rfl, ⟨?m72, rfl, rfl, rfl, rfl, trivial⟩, List.Sublist.refl _, rfl⟩
              case m72 => first | rfl | exact congrArg some (congrArg (Value.int .i64) (by omega))
              case hmeas => first | omega | (simp only; omega)
              case hinv => exact ⟨by omega, fun j y hj hy => by rcases Nat.lt_or_ge j i with q | q; exact hok j y q hy; obtain rfl : j = i := (by omega); simp only [Int.toNat_natCast] at hx; rw [hx] at hy; injection hy with hy; rw [← hy]; exact c92⟩
           ·
            have hnr : ¬ RangeBad k N := by rintro ⟨j, y, hy, hb⟩; exact hok j y (by have := (List.getElem?_eq_some_iff.1 hy).1; omega) hy hb
            have hri := rise_0 k
            refine sq ?_
            refine WC.exit ?_
            refine rg ?_
            refine Sa V.fa ?_
            refine Sa V.ld ?_
            refine Sa V.va ?_
            refine Sa V.asg ?_
            refine Wn ?_
            refine sq ?_
            refine WC.block ?_
            refine' WC.weak (l' := [(8, .int .i64 (((rise k).toNat + 1) : Int)), (1, _)]) ⟨?w8, rfl, trivial⟩ (List.Sublist.refl _) ?_
            case w8 => first | rfl | exact congrArg some (congrArg (Value.int .i64) (by omega))
            refine sq ?_
            refine' WC.loopC (α := (Nat)) (fun (q : Nat) => [(8, .int .i64 (q : Int))]) (fun (q : Nat) => rise k < q ∧ ∀ (j : Nat) (x y : Int), rise k < j → j < q → N[j]? = some x → N[j - 1]? = some y → ¬ x ≤ y) (fun (q : Nat) => N.length - q) ((rise k).toNat + 1) ?hs ?hstep
            case hs => exact ⟨by omega, fun j x y h1 h2 => absurd h2 (by omega)⟩
            case hstep =>
             rintro q hinv
             try simp only at hinv
             obtain ⟨hq, hord⟩ := hinv
             refine rg ?_
             refine Sa V.mv ?_
             refine Sa V.fa ?_
             refine Sa V.ld ?_
             refine Sa V.ls ?_
             refine Sa V.vi ?_
             refine Wn ?_
             refine sq ?_
             first | refine WC.if rfl (fun c101 => ?_) (fun c101 => ?_) | refine WC.cond rfl (fun c101 => ?_) (fun c101 => ?_)
             ·
              obtain ⟨a, off, cells, e, rfl, hJ, hget⟩ := hra (by omega)
              obtain ⟨x, hx, hnx⟩ := hget q (by omega) (by omega)
              obtain ⟨y, hy, hny⟩ := hget ((q : Int) - 1) (by omega) (by omega)
              refine sq ?_
              refine WC.skip ?_
              refine sq ?_
              refine WC.block ?_
              refine sq ?_
              refine WC.draw rfl (by kernel_rfl) (plan := [.val 0, .val 1, .val 2, .val 3, .val 4, .val 5, .val 6, .val 7, .val 8, .val 9, .val 10, .val 11]) (by kernel_rfl) ?_
              refine Da rfl V.fa ?_
              refine Da rfl V.ld ?_
              refine Da rfl V.mv ?_
              refine Da rfl V.ix ?_
              refine Da rfl V.ld ?_
              refine Da rfl V.fa ?_
              refine Da rfl V.ld ?_
              refine Da rfl V.mv ?_
              refine Da rfl V.va ?_
              refine Da rfl V.ix ?_
              refine Da rfl V.ld ?_
              refine Da rfl V.vi ?_
              refine WD.nil ?_
              refine sq ?_
              first | refine WC.if rfl (fun c115 => ?_) (fun c115 => ?_) | refine WC.cond rfl (fun c115 => ?_) (fun c115 => ?_)
              ·
               refine rg ?_
               refine Sa V.asg ?_
               refine Wn ?_
               refine sq ?_
               refine WC.ret ?_
               refine' ⟨.inr rfl, rfl, _, [], .tmp rfl .nil, List.nil_sublist _, ?_⟩
               refine ⟨congrArg (Value.int .i64) ?_, rfl, by first | exact Jm.le.refl _ | assumption⟩
               symm
               first
                 | exact chk_7 c16
                 | exact chk_3 c16 (c38.elim .inl (fun q => .inr (.inl q)))
                 | exact chk_3 c16 (.inr (.inr (c52.elim .inl (fun q => .inr (.inl q)))))
                 | exact chk_3 c16 (.inr (.inr (.inr (.inr c68))))
                 | exact chk_2 c16 hform ⟨i, x, hx, c92⟩
                 | exact chk_9 c16 hform hnr ⟨q, x, y, hq, hx, by rw [show ((q : Int) - 1).toNat = q - 1 by omega] at hy; exact hy, c115⟩
                 | exact chk_0 c16 hform hnr (fun hb => by obtain ⟨j, u, w, h1, h2, h3, h4⟩ := hb; exact hord j u w h1 (by have := (List.getElem?_eq_some_iff.1 h2).1; omega) h2 h3 h4)
              ·
               refine sq ?_
               refine WC.skip ?_
               refine rg ?_
               refine Sa V.mv ?_
               refine Sa V.va ?_
               refine Sa V.asg ?_
               refine Wn ?_
               refine' ⟨(q + 1), _, ?hinv, ?hmeas, rfl, ⟨?m8, rfl, trivial⟩, List.Sublist.refl _, rfl⟩
               case m8 => first | rfl | exact congrArg some (congrArg (Value.int .i64) (by omega))
               case hmeas => first | omega | (simp only; omega)
               case hinv => exact ⟨by omega, fun j u w h1 h2 h3 h4 => by rcases Nat.lt_or_ge j q with r | r; exact hord j u w h1 r h3 h4; obtain rfl : j = q := (by omega); simp only [Int.toNat_natCast] at hx; rw [hx] at h3; rw [show ((j : Int) - 1).toNat = j - 1 by omega] at hy; rw [hy] at h4; injection h3 with h3; injection h4 with h4; rw [← h3, ← h4]; exact c115⟩
             ·
              refine sq ?_
              refine WC.exit ?_
              refine rg ?_
              refine Sa V.asg ?_
              refine Wn ?_
              refine sq ?_
              refine WC.ret ?_
              refine' ⟨.inr rfl, rfl, _, [], .tmp rfl .nil, List.nil_sublist _, ?_⟩
              refine ⟨congrArg (Value.int .i64) ?_, rfl, by first | exact Jm.le.refl _ | assumption⟩
              symm
              first
                | exact chk_7 c16
                | exact chk_3 c16 (c38.elim .inl (fun q => .inr (.inl q)))
                | exact chk_3 c16 (.inr (.inr (c52.elim .inl (fun q => .inr (.inl q)))))
                | exact chk_3 c16 (.inr (.inr (.inr (.inr c68))))
                | exact chk_2 c16 hform ⟨i, x, hx, c92⟩
                | exact chk_9 c16 hform hnr ⟨q, x, y, hq, hx, by rw [show ((q : Int) - 1).toNat = q - 1 by omega] at hy; exact hy, c115⟩
                | exact chk_0 c16 hform hnr (fun hb => by obtain ⟨j, u, w, h1, h2, h3, h4⟩ := hb; exact hord j u w h1 (by have := (List.getElem?_eq_some_iff.1 h2).1; omega) h2 h3 h4)
end
end Go.Opn

/- A part of the proof of ResumeSaves. -/
import Derived.Test.YtmeojgcibppcmaaDoorRi
import Derived.Test.YtmeojgcibppcmaaDoorOpnW
set_option maxRecDepth 100000
set_option maxHeartbeats 4000000
set_option linter.unusedVariables false
set_option linter.unusedSimpArgs false
namespace Go.Opn
open Go.Cre Go.RowKit Go.Proofs
theorem ex_at {P : Int → Prop} {l : List Int} {i : Nat} {x : Int} (hx : l[i]? = some x) (hp : P x) : ∃ w ∈ l, P w := ⟨x, List.mem_of_getElem? hx, hp⟩
section
variable {Q : Worlds Tryd.prog} {g0 : Nat} {J : Jm}
/-! ### The reference's Form -/
theorem rnode_fn {g : Gm} {bn bi : Option Addr} {cn ci : Nat} {x : Nd} {b1 b2 b3 : Option Addr} {c1 c2 c3 : Nat} (h2 : IntsR J (.slice b2 x.ws.length c2) x.ws) (h3 : IntsR J (.slice b3 x.py.length c3) x.py) (hp : g.pl ≤ 4) (q0 : addrEq bi bi = true) (qn : addrEq bn bn = true) (q1 : addrEq b1 b1 = true) :
    Fn (kx Q g0) 30 [gV g bn cn bi ci, ndV x b1 c1 b2 c2 b3 c3] [] J (fun u m' J' => u = .int .i64 (nodeS g x) ∧ m' = [] ∧ J = J') := by
  have q2 : addrEq b2 b2 = true := by obtain ⟨e, h⟩ := h2; exact h.addr
  have q3 : addrEq b3 b3 = true := by obtain ⟨e, h⟩ := h3; exact h.addr
  have hr2 := h2.ri []; have hr3 := h3.ri []; refine Fn.of_body (ftGet Tryd.func30) rfl rfl fun H => ?_; refine rg ?_; refine bx fun a2 => ?_; refine bx fun a3 => ?_; refine Sa V.asg ?_; refine nr ?_; refine Sa V.fa ?_; refine Sa V.ld ?_; refine ns ?_; refine WC.block ?_; refine rg ?_; refine Sa V.vi ?_; refine Sa V.asg ?_; refine ns ?_; refine If (fun c9 => ?_) fun c9 => ?_
  ·
   refine wk [3] ?_; refine sq ?_; refine' WC.cutK 0 [(45, .bool (decide ((x.p ≠ 0 ∨ x.i ≠ 0 ∨ 0 < x.py.length ∨ x.nx.length < 1 ∨ 60 < x.nx.length ∨ x.ws.length ≠ x.nx.length))))] ?cr4 ?dr4; case cr4 =>
    refine WC.region ?_; refine Sa V.fa ?_; refine Sa V.ld ?_; refine Sa V.vi ?_; refine Sa V.mv ?_; refine Wp 14 (fun gr4_3 => ?_) fun gr4_3 => ?_
    ·
     refine Sn ?_; refine Sn ?_; refine Sn ?_; refine Sa V.pk ?_; refine Sa V.mv ?_; refine Sn ?_; refine Sn ?_; refine Sn ?_; refine Sn ?_; refine Sa V.pk ?_; refine Sa V.mv ?_; refine Sn ?_; refine Sn ?_; refine Sn ?_; refine Sn ?_; refine Sa V.pk ?_; refine Sa V.mv ?_; refine Sn ?_; refine Sn ?_; refine Sn ?_; refine Sn ?_; refine Sa V.pk ?_; refine Sa V.mv ?_; refine Sn ?_; refine Sn ?_; refine Sn ?_; refine Sn ?_; refine Sn ?_; refine Sn ?_; refine Sn ?_; refine Sa V.pk ?_; refine Wn ?_; exact ce
    ·
     refine Sb V.fa ?_; refine Sb V.ld ?_; refine Sb V.vi ?_; refine Sa V.pk ?_; refine Sa V.mv ?_; refine Wp 19 (fun gr4_8 => ?_) fun gr4_8 => ?_
     ·
      refine Sn ?_; refine Sn ?_; refine Sn ?_; refine Sn ?_; refine Sa V.pk ?_; refine Sa V.mv ?_; refine Sn ?_; refine Sn ?_; refine Sn ?_; refine Sn ?_; refine Sa V.pk ?_; refine Sa V.mv ?_; refine Sn ?_; refine Sn ?_; refine Sn ?_; refine Sn ?_; refine Sa V.pk ?_; refine Sa V.mv ?_; refine Sn ?_; refine Sn ?_; refine Sn ?_; refine Sn ?_; refine Sn ?_; refine Sn ?_; refine Sn ?_; refine Sa V.pk ?_; refine Wn ?_; exact ce
     ·
      refine Sb V.fa ?_; refine Sb V.ld ?_; refine Sb V.ls ?_; refine Sb V.vi ?_; refine Sa V.pk ?_; refine Sa V.mv ?_; refine Wp 25 (fun gr4_14 => ?_) fun gr4_14 => ?_
      ·
       refine Sn ?_; refine Sn ?_; refine Sn ?_; refine Sn ?_; refine Sa V.pk ?_; refine Sa V.mv ?_; refine Sn ?_; refine Sn ?_; refine Sn ?_; refine Sn ?_; refine Sa V.pk ?_; refine Sa V.mv ?_; refine Sn ?_; refine Sn ?_; refine Sn ?_; refine Sn ?_; refine Sn ?_; refine Sn ?_; refine Sn ?_; refine Sa V.pk ?_; refine Wn ?_; exact ce
      ·
       refine Sb V.fa ?_; refine Sb V.ld ?_; refine Sb V.ls ?_; refine Sb V.vi ?_; refine Sa V.pk ?_; refine Sa V.mv ?_; refine Wp 31 (fun gr4_20 => ?_) fun gr4_20 => ?_
       ·
        refine Sn ?_; refine Sn ?_; refine Sn ?_; refine Sn ?_; refine Sa V.pk ?_; refine Sa V.mv ?_; refine Sn ?_; refine Sn ?_; refine Sn ?_; refine Sn ?_; refine Sn ?_; refine Sn ?_; refine Sn ?_; refine Sa V.pk ?_; refine Wn ?_; exact ce
       ·
        refine Sb V.fa ?_; refine Sb V.ld ?_; refine Sb V.ls ?_; refine Sb V.vi ?_; refine Sa V.pk ?_; refine Sa V.mv ?_; refine Wp 37 (fun gr4_26 => ?_) fun gr4_26 => ?_
        ·
         refine Sn ?_; refine Sn ?_; refine Sn ?_; refine Sn ?_; refine Sn ?_; refine Sn ?_; refine Sn ?_; refine Sa V.pk ?_; refine Wn ?_; exact ce
        ·
         refine Sb V.fa ?_; refine Sb V.ld ?_; refine Sb V.ls ?_; refine Sb V.fa ?_; refine Sb V.ld ?_; refine Sb V.ls ?_; refine Sb V.vi ?_; refine Sa V.pk ?_; refine Wn ?_; exact ce
   case dr4 =>
    refine sq ?_; refine If (fun c45 => ?_) fun c45 => ?_
    ·
     refine rg ?_; refine Sa V.asg ?_; refine ns ?_; refine WC.ret ?_; refine Lf ?_; refine ⟨congrArg (Value.int .i64) ?_, rfl, rfl⟩; unfold nodeS; first
       | (have c := c9; rw [if_pos c9]
          first
            | (have c := c45; rw [if_pos c45])
            | (have c := hall; rw [if_neg c45, if_neg (by rintro ⟨w, h1, h2⟩; rw [List.take_of_length_le (by omega)] at hall; exact hall w h1 h2)]))
    ·
     refine sq ?_; refine WC.skip ?_; refine rg ?_; refine Sa V.asg ?_; refine ns ?_; refine WC.block ?_; refine' WC.weak (l' := [(5, .int .i64 ((0) : Int)), (3, _)]) ⟨?w5, rfl, trivial⟩ (List.Sublist.refl _) ?_; case w5 => exact nq
     refine sq ?_; refine' WC.loopC (α := Nat) (fun (i : Nat) => [(5, .int .i64 (i : Int))]) (fun (i : Nat) => i ≤ x.ws.length ∧ ∀ w ∈ x.ws.take i, ¬ (w < 1 ∨ 1000 < w)) (fun (i : Nat) => x.ws.length - i) (0) ?hs ?hstep; case hs => exact ⟨Nat.zero_le _, fun x hx => by cases hx⟩
     case hstep =>
      rintro i hinv; try simp only at hinv
      obtain ⟨hi, hall⟩ := hinv; refine rg ?_; refine Sa V.mv ?_; refine Sa V.fa ?_; refine Sa V.ld ?_; refine Sa V.ls ?_; refine Sa V.vi ?_; refine ns ?_; refine If (fun c50 => ?_) fun c50 => ?_
      ·
       obtain ⟨a, off, cells, rfl, hro, hget⟩ := hr2 (by omega); obtain ⟨w, hw, hnx⟩ := hget i (by omega) (by omega); rw [Int.toNat_natCast] at hw; refine sk ?_; refine sq ?_; refine WC.block ?_; refine wk [3, 5] ?_; refine sq ?_; refine' WC.cutK 0 [(66, .bool (decide ((w < 1 ∨ 1000 < w))))] ?cr9 ?dr9; case cr9 =>
        refine WC.region ?_; refine Sa V.fa ?_; refine Sa V.ld ?_; refine Sa V.mv ?_; refine Sa V.ix ?_; refine' W.step rfl (Exec.val rfl rfl (v_load rfl rfl ?hr (part1 (tAg rfl) ?hv)) ?_); case hr => exact hro.sub (fun _ q => by cases q)
        case hv => first | rfl | assumption
        refine Sa V.vi ?_; refine Sa V.mv ?_; refine Wp 59 (fun gr9_6 => ?_) fun gr9_6 => ?_
        ·
         refine Sn ?_; refine Sn ?_; refine Sn ?_; refine Sn ?_; refine W.guardN rfl rfl rfl rfl rfl ?_; refine Sn ?_; refine Sa V.pk ?_; refine Wn ?_; exact ce
        ·
         refine Sb V.fa ?_; refine Sb V.ld ?_; refine Sb V.mv ?_; refine Sb V.ix ?_; refine' W.guardY rfl rfl rfl (Exec.val rfl rfl (v_load rfl rfl ?hr (part1 (tAg rfl) ?hv)) ?_); case hr => exact hro.sub (fun _ q => by cases q)
         case hv => first | rfl | assumption
         refine Sb V.vi ?_; refine Sa V.pk ?_; refine Wn ?_; exact ce
       case dr9 =>
        refine sq ?_; refine If (fun c66 => ?_) fun c66 => ?_
        ·
         refine rg ?_; refine Sa V.asg ?_; refine ns ?_; refine WC.ret ?_; refine Lf ?_; refine ⟨congrArg (Value.int .i64) ?_, rfl, rfl⟩; unfold nodeS; first
           | (have c := c9; rw [if_pos c9]
              first
                | (have c := c45; rw [if_pos c45])
                | (have c := c66; rw [if_neg c45, if_pos (ex_at hw c66)])
                | (have c := hall; rw [if_neg c45, if_neg (by rintro ⟨w, h1, h2⟩; rw [List.take_of_length_le (by omega)] at hall; exact hall w h1 h2)]))
        ·
         refine sq ?_; refine WC.skip ?_; refine rg ?_; refine Sa V.mv ?_; refine Sa V.va ?_; refine Sa V.asg ?_; refine Wn ?_; refine' ⟨(i + 1), _, ?hinv, ?hmeas, rfl, ⟨?m5, rfl, trivial⟩, List.Sublist.refl _, rfl⟩; case m5 => exact nq
         case hmeas => exact om
         case hinv => exact ⟨by omega, take_all hall hw c66⟩
      ·
       refine sq ?_; refine WC.exit ?_; refine rg ?_; refine Sa V.asg ?_; refine ns ?_; refine WC.ret ?_; refine Lf ?_; refine ⟨congrArg (Value.int .i64) ?_, rfl, rfl⟩; unfold nodeS; first
         | (have c := c9; rw [if_pos c9]
            first
              | (have c := c45; rw [if_pos c45])
              | (have c := hall; rw [if_neg c45, if_neg (by rintro ⟨w, h1, h2⟩; rw [List.take_of_length_le (by omega)] at hall; exact hall w h1 h2)]))
  ·
   refine rg ?_; refine Sa V.vi ?_; refine Sa V.asg ?_; refine ns ?_; refine If (fun c67 => ?_) fun c67 => ?_
   ·
    refine wk [2, 3] ?_; refine sq ?_; refine' WC.cutK 0 [(90, .bool (decide ((0 < x.py.length ∨ 0 < x.ws.length ∨ x.nx.length < 1 ∨ 10 < x.nx.length))))] ?cr12 ?dr12; case cr12 =>
     refine WC.region ?_; refine Sa V.fa ?_; refine Sa V.ld ?_; refine Sa V.ls ?_; refine Sa V.vi ?_; refine Sa V.mv ?_; refine Wp 73 (fun gr12_4 => ?_) fun gr12_4 => ?_
     ·
      refine Sn ?_; refine Sn ?_; refine Sn ?_; refine Sn ?_; refine Sa V.pk ?_; refine Sa V.mv ?_; refine Sn ?_; refine Sn ?_; refine Sn ?_; refine Sn ?_; refine Sa V.pk ?_; refine Sa V.mv ?_; refine Sn ?_; refine Sn ?_; refine Sn ?_; refine Sn ?_; refine Sa V.pk ?_; refine Wn ?_; exact ce
     ·
      refine Sb V.fa ?_; refine Sb V.ld ?_; refine Sb V.ls ?_; refine Sb V.vi ?_; refine Sa V.pk ?_; refine Sa V.mv ?_; refine Wp 79 (fun gr12_10 => ?_) fun gr12_10 => ?_
      ·
       refine Sn ?_; refine Sn ?_; refine Sn ?_; refine Sn ?_; refine Sa V.pk ?_; refine Sa V.mv ?_; refine Sn ?_; refine Sn ?_; refine Sn ?_; refine Sn ?_; refine Sa V.pk ?_; refine Wn ?_; exact ce
      ·
       refine Sb V.fa ?_; refine Sb V.ld ?_; refine Sb V.ls ?_; refine Sb V.vi ?_; refine Sa V.pk ?_; refine Sa V.mv ?_; refine Wp 85 (fun gr12_16 => ?_) fun gr12_16 => ?_
       ·
        refine Sn ?_; refine Sn ?_; refine Sn ?_; refine Sn ?_; refine Sa V.pk ?_; refine Wn ?_; exact ce
       ·
        refine Sb V.fa ?_; refine Sb V.ld ?_; refine Sb V.ls ?_; refine Sb V.vi ?_; refine Sa V.pk ?_; refine Wn ?_; exact ce
    case dr12 =>
     refine sq ?_; refine If (fun c90 => ?_) fun c90 => ?_
     ·
      refine rg ?_; refine Sa V.asg ?_; refine ns ?_; refine WC.ret ?_; refine Lf ?_; refine ⟨congrArg (Value.int .i64) ?_, rfl, rfl⟩; unfold nodeS; first
        | (have c := c9; rw [if_pos c9]
           first
             | (have c := hall; rw [if_neg c45, if_neg (by rintro ⟨w, h1, h2⟩; rw [List.take_of_length_le (by omega)] at hall; exact hall w h1 h2)]))
        | (have c := c67; rw [if_neg c9, if_pos c67]
           first
             | (have c := c90; rw [if_pos c90]))
     ·
      refine sq ?_; refine WC.skip ?_; refine wk [2, 3] ?_; refine sq ?_; refine' WC.cutK 2 [(113, .bool (decide ((x.p < 0 ∨ g.pl ≤ x.p ∨ x.i < 0 ∨ (g.is.length : Int) ≤ x.i))))] ?cr14 ?dr14; case cr14 =>
       refine WC.region ?_; refine Sa V.fa ?_; refine Sa V.ld ?_; refine Sa V.vi ?_; refine Sa V.mv ?_; refine Wp 94 (fun gr14_3 => ?_) fun gr14_3 => ?_
       ·
        refine Sn ?_; refine Sn ?_; refine Sn ?_; refine Sn ?_; refine Sn ?_; refine Sa V.pk ?_; refine Sa V.mv ?_; refine Sn ?_; refine Sn ?_; refine Sn ?_; refine Sa V.pk ?_; refine Sa V.mv ?_; refine Sn ?_; refine Sn ?_; refine Sn ?_; refine Sn ?_; refine Sn ?_; refine Sn ?_; refine Sa V.pk ?_; refine Wn ?_; exact ce
       ·
        refine Sb V.fa ?_; refine Sb V.ld ?_; refine Sb V.fa ?_; refine Sb V.ld ?_; refine Sb V.vi ?_; refine Sa V.pk ?_; refine Sa V.mv ?_; refine Wp 101 (fun gr14_10 => ?_) fun gr14_10 => ?_
        ·
         refine Sn ?_; refine Sn ?_; refine Sn ?_; refine Sa V.pk ?_; refine Sa V.mv ?_; refine Sn ?_; refine Sn ?_; refine Sn ?_; refine Sn ?_; refine Sn ?_; refine Sn ?_; refine Sa V.pk ?_; refine Wn ?_; exact ce
        ·
         refine Sb V.fa ?_; refine Sb V.ld ?_; refine Sb V.vi ?_; refine Sa V.pk ?_; refine Sa V.mv ?_; refine Wp 106 (fun gr14_15 => ?_) fun gr14_15 => ?_
         ·
          refine Sn ?_; refine Sn ?_; refine Sn ?_; refine Sn ?_; refine Sn ?_; refine Sn ?_; refine Sa V.pk ?_; refine Wn ?_; exact ce
         ·
          refine Sb V.fa ?_; refine Sb V.ld ?_; refine Sb V.fa ?_; refine Sb V.ld ?_; refine Sb V.ls ?_; refine Sb V.vi ?_; refine Sa V.pk ?_; refine Wn ?_; exact ce
      case dr14 =>
       refine sq ?_; refine If (fun c113 => ?_) fun c113 => ?_
       ·
        refine rg ?_; refine Sa V.asg ?_; refine ns ?_; refine WC.ret ?_; refine Lf ?_; refine ⟨congrArg (Value.int .i64) ?_, rfl, rfl⟩; unfold nodeS; first
          | (have c := c9; rw [if_pos c9]
             first
               | (have c := hall; rw [if_neg c45, if_neg (by rintro ⟨w, h1, h2⟩; rw [List.take_of_length_le (by omega)] at hall; exact hall w h1 h2)]))
          | (have c := c67; rw [if_neg c9, if_pos c67]
             first
               | (have c := c90; rw [if_pos c90])
               | (have c := c113; rw [if_neg c90, if_pos c113])
               | (have c := c113; rw [if_neg c90, if_neg c113]))
       ·
        refine sq ?_; refine WC.skip ?_; refine rg ?_; refine Sa V.asg ?_; refine ns ?_; refine WC.ret ?_; refine Lf ?_; refine ⟨congrArg (Value.int .i64) ?_, rfl, rfl⟩; unfold nodeS; first
          | (have c := c9; rw [if_pos c9]
             first
               | (have c := hall; rw [if_neg c45, if_neg (by rintro ⟨w, h1, h2⟩; rw [List.take_of_length_le (by omega)] at hall; exact hall w h1 h2)]))
          | (have c := c67; rw [if_neg c9, if_pos c67]
             first
               | (have c := c90; rw [if_pos c90])
               | (have c := c113; rw [if_neg c90, if_pos c113])
               | (have c := c113; rw [if_neg c90, if_neg c113]))
   ·
    refine rg ?_; refine Sa V.vi ?_; refine Sa V.asg ?_; refine ns ?_; refine If (fun c114 => ?_) fun c114 => ?_
    ·
     refine wk [2, 3] ?_; refine sq ?_; refine' WC.cutK 1 [(143, .bool (decide ((x.p ≠ 0 ∨ x.i ≠ 0 ∨ 0 < x.nx.length ∨ 0 < x.ws.length ∨ (x.py.length : Int) ≠ g.pl))))] ?cr17 ?dr17; case cr17 =>
      refine WC.region ?_; refine Sa V.fa ?_; refine Sa V.ld ?_; refine Sa V.vi ?_; refine Sa V.mv ?_; refine Wp 119 (fun gr17_3 => ?_) fun gr17_3 => ?_
      ·
       refine Sn ?_; refine Sn ?_; refine Sn ?_; refine Sa V.pk ?_; refine Sa V.mv ?_; refine Sn ?_; refine Sn ?_; refine Sn ?_; refine Sn ?_; refine Sa V.pk ?_; refine Sa V.mv ?_; refine Sn ?_; refine Sn ?_; refine Sn ?_; refine Sn ?_; refine Sa V.pk ?_; refine Sa V.mv ?_; refine Sn ?_; refine Sn ?_; refine Sn ?_; refine Sn ?_; refine Sn ?_; refine Sn ?_; refine Sa V.pk ?_; refine Wn ?_; exact ce
      ·
       refine Sb V.fa ?_; refine Sb V.ld ?_; refine Sb V.vi ?_; refine Sa V.pk ?_; refine Sa V.mv ?_; refine Wp 124 (fun gr17_8 => ?_) fun gr17_8 => ?_
       ·
        refine Sn ?_; refine Sn ?_; refine Sn ?_; refine Sn ?_; refine Sa V.pk ?_; refine Sa V.mv ?_; refine Sn ?_; refine Sn ?_; refine Sn ?_; refine Sn ?_; refine Sa V.pk ?_; refine Sa V.mv ?_; refine Sn ?_; refine Sn ?_; refine Sn ?_; refine Sn ?_; refine Sn ?_; refine Sn ?_; refine Sa V.pk ?_; refine Wn ?_; exact ce
       ·
        refine Sb V.fa ?_; refine Sb V.ld ?_; refine Sb V.ls ?_; refine Sb V.vi ?_; refine Sa V.pk ?_; refine Sa V.mv ?_; refine Wp 130 (fun gr17_14 => ?_) fun gr17_14 => ?_
        ·
         refine Sn ?_; refine Sn ?_; refine Sn ?_; refine Sn ?_; refine Sa V.pk ?_; refine Sa V.mv ?_; refine Sn ?_; refine Sn ?_; refine Sn ?_; refine Sn ?_; refine Sn ?_; refine Sn ?_; refine Sa V.pk ?_; refine Wn ?_; exact ce
        ·
         refine Sb V.fa ?_; refine Sb V.ld ?_; refine Sb V.ls ?_; refine Sb V.vi ?_; refine Sa V.pk ?_; refine Sa V.mv ?_; refine Wp 136 (fun gr17_20 => ?_) fun gr17_20 => ?_
         ·
          refine Sn ?_; refine Sn ?_; refine Sn ?_; refine Sn ?_; refine Sn ?_; refine Sn ?_; refine Sa V.pk ?_; refine Wn ?_; exact ce
         ·
          refine Sb V.fa ?_; refine Sb V.ld ?_; refine Sb V.ls ?_; refine Sb V.fa ?_; refine Sb V.ld ?_; refine Sb V.vi ?_; refine Sa V.pk ?_; refine Wn ?_; exact ce
     case dr17 =>
      refine sq ?_; refine If (fun c143 => ?_) fun c143 => ?_
      ·
       refine rg ?_; refine Sa V.asg ?_; refine ns ?_; refine WC.ret ?_; refine Lf ?_; refine ⟨congrArg (Value.int .i64) ?_, rfl, rfl⟩; unfold nodeS; first
         | (have c := c9; rw [if_pos c9]
            first
              | (have c := hall; rw [if_neg c45, if_neg (by rintro ⟨w, h1, h2⟩; rw [List.take_of_length_le (by omega)] at hall; exact hall w h1 h2)]))
         | (have c := c114; rw [if_neg c9, if_neg c67, if_pos c114]
            first
              | (have c := c143; rw [if_pos c143])
              | (have c := hall; rw [if_neg c143, if_neg (by rintro ⟨w, h1, h2⟩; rw [List.take_of_length_le (by omega)] at hall; exact hall w h1 h2)]))
         | (have c := c114; rw [if_neg c9, if_neg c67, if_neg c114])
      ·
       refine sq ?_; refine WC.skip ?_; refine rg ?_; refine Sa V.asg ?_; refine ns ?_; refine WC.block ?_; refine' WC.weak (l' := [(6, .int .i64 ((0) : Int)), (3, _)]) ⟨?w6, rfl, trivial⟩ (List.Sublist.refl _) ?_; case w6 => exact nq
       refine sq ?_; refine' WC.loopC (α := Nat) (fun (i : Nat) => [(6, .int .i64 (i : Int))]) (fun (i : Nat) => i ≤ x.py.length ∧ ∀ w ∈ x.py.take i, ¬ (w < -1000000 ∨ 1000000 < w)) (fun (i : Nat) => x.py.length - i) (0) ?hs ?hstep; case hs => exact ⟨Nat.zero_le _, fun x hx => by cases hx⟩
       case hstep =>
        rintro i hinv; try simp only at hinv
        obtain ⟨hi, hall⟩ := hinv; refine rg ?_; refine Sa V.mv ?_; refine Sa V.fa ?_; refine Sa V.ld ?_; refine Sa V.ls ?_; refine Sa V.vi ?_; refine ns ?_; refine If (fun c148 => ?_) fun c148 => ?_
        ·
         obtain ⟨a, off, cells, rfl, hro, hget⟩ := hr3 (by omega); obtain ⟨w, hw, hnx⟩ := hget i (by omega) (by omega); rw [Int.toNat_natCast] at hw; refine sk ?_; refine sq ?_; refine WC.block ?_; refine wk [3, 6] ?_; refine sq ?_; refine' WC.cutK 0 [(164, .bool (decide ((w < -1000000 ∨ 1000000 < w))))] ?cr22 ?dr22; case cr22 =>
          refine WC.region ?_; refine Sa V.fa ?_; refine Sa V.ld ?_; refine Sa V.mv ?_; refine Sa V.ix ?_; refine' W.step rfl (Exec.val rfl rfl (v_load rfl rfl ?hr (part1 (tAg rfl) ?hv)) ?_); case hr => exact hro.sub (fun _ q => by cases q)
          case hv => first | rfl | assumption
          refine Sa V.vi ?_; refine Sa V.mv ?_; refine Wp 157 (fun gr22_6 => ?_) fun gr22_6 => ?_
          ·
           refine Sn ?_; refine Sn ?_; refine Sn ?_; refine Sn ?_; refine W.guardN rfl rfl rfl rfl rfl ?_; refine Sn ?_; refine Sa V.pk ?_; refine Wn ?_; exact ce
          ·
           refine Sb V.fa ?_; refine Sb V.ld ?_; refine Sb V.mv ?_; refine Sb V.ix ?_; refine' W.guardY rfl rfl rfl (Exec.val rfl rfl (v_load rfl rfl ?hr (part1 (tAg rfl) ?hv)) ?_); case hr => exact hro.sub (fun _ q => by cases q)
           case hv => first | rfl | assumption
           refine Sb V.vi ?_; refine Sa V.pk ?_; refine Wn ?_; exact ce
         case dr22 =>
          refine sq ?_; refine If (fun c164 => ?_) fun c164 => ?_
          ·
           refine rg ?_; refine Sa V.asg ?_; refine ns ?_; refine WC.ret ?_; refine Lf ?_; refine ⟨congrArg (Value.int .i64) ?_, rfl, rfl⟩; unfold nodeS; first
             | (have c := c9; rw [if_pos c9]
                first
                  | (have c := hall; rw [if_neg c45, if_neg (by rintro ⟨w, h1, h2⟩; rw [List.take_of_length_le (by omega)] at hall; exact hall w h1 h2)]))
             | (have c := c114; rw [if_neg c9, if_neg c67, if_pos c114]
                first
                  | (have c := c143; rw [if_pos c143])
                  | (have c := c164; rw [if_neg c143, if_pos (ex_at hw c164)])
                  | (have c := hall; rw [if_neg c143, if_neg (by rintro ⟨w, h1, h2⟩; rw [List.take_of_length_le (by omega)] at hall; exact hall w h1 h2)]))
             | (have c := c114; rw [if_neg c9, if_neg c67, if_neg c114])
          ·
           refine sq ?_; refine WC.skip ?_; refine rg ?_; refine Sa V.mv ?_; refine Sa V.va ?_; refine Sa V.asg ?_; refine Wn ?_; refine' ⟨(i + 1), _, ?hinv, ?hmeas, rfl, ⟨?m6, rfl, trivial⟩, List.Sublist.refl _, rfl⟩; case m6 => exact nq
           case hmeas => exact om
           case hinv => exact ⟨by omega, take_all hall hw c164⟩
        ·
         refine sq ?_; refine WC.exit ?_; refine rg ?_; refine Sa V.asg ?_; refine ns ?_; refine WC.ret ?_; refine Lf ?_; refine ⟨congrArg (Value.int .i64) ?_, rfl, rfl⟩; unfold nodeS; first
           | (have c := c9; rw [if_pos c9]
              first
                | (have c := hall; rw [if_neg c45, if_neg (by rintro ⟨w, h1, h2⟩; rw [List.take_of_length_le (by omega)] at hall; exact hall w h1 h2)]))
           | (have c := c114; rw [if_neg c9, if_neg c67, if_pos c114]
              first
                | (have c := c143; rw [if_pos c143])
                | (have c := hall; rw [if_neg c143, if_neg (by rintro ⟨w, h1, h2⟩; rw [List.take_of_length_le (by omega)] at hall; exact hall w h1 h2)]))
           | (have c := c114; rw [if_neg c9, if_neg c67, if_neg c114])
    ·
     refine rg ?_; refine Sa V.asg ?_; refine ns ?_; refine WC.ret ?_; refine Lf ?_; refine ⟨congrArg (Value.int .i64) ?_, rfl, rfl⟩; unfold nodeS; first
       | (have c := c9; rw [if_pos c9]
          first
            | (have c := hall; rw [if_neg c45, if_neg (by rintro ⟨w, h1, h2⟩; rw [List.take_of_length_le (by omega)] at hall; exact hall w h1 h2)]))
       | (have c := c114; rw [if_neg c9, if_neg c67, if_pos c114]
          first
            | (have c := hall; rw [if_neg c143, if_neg (by rintro ⟨w, h1, h2⟩; rw [List.take_of_length_le (by omega)] at hall; exact hall w h1 h2)]))
       | (have c := c114; rw [if_neg c9, if_neg c67, if_neg c114])
end
/-- the nodes of the sets among the first ones -/
def setsI (g : Gm) (i : Nat) : List (List Int) := (List.range g.is.length).map fun (j : Nat) => setS (j : Int) 0 (g.ns.take i)
theorem setsI_len {g : Gm} {i : Nat} : (setsI g i).length = g.is.length := by simp [setsI]
theorem setsI_get {g : Gm} {i j : Nat} (h : j < g.is.length) : (setsI g i)[j]? = some (setS (j : Int) 0 (g.ns.take i)) := by
  unfold setsI; rw [List.getElem?_map, List.getElem?_range h]; rfl
theorem setsI_zero {g : Gm} : setsI g 0 = List.replicate g.is.length [] := by
  apply List.ext_getElem?
  intro j; by_cases hj : j < g.is.length
  · rw [setsI_get hj, List.getElem?_replicate, if_pos hj]; rfl
  · rw [List.getElem?_eq_none (by rw [setsI_len]; omega), List.getElem?_replicate, if_neg hj]
theorem setsI_all {g : Gm} : setsI g g.ns.length = setsS g := by unfold setsI setsS; rw [List.take_length]
theorem setS_snoc {j : Int} {x : Nd} : ∀ {l : List Nd} {n : Nat}, setS j n (l ++ [x]) = setS j n l ++ (if x.k = 2 ∧ x.i = j then [((n + l.length : Nat) : Int)] else []) := by
  intro l; induction l with
  | nil => intro n; simp only [List.nil_append, setS, List.length_nil, Nat.add_zero]
  | cons y r ih =>
    intro n; rw [List.cons_append]; unfold setS; rw [ih, show n + 1 + r.length = n + (y :: r).length by rw [List.length_cons]; omega]; split <;> rfl
theorem setS_next {g : Gm} {j : Int} {i : Nat} {x : Nd} (hx : g.ns[i]? = some x) : setS j 0 (g.ns.take (i + 1)) = setS j 0 (g.ns.take i) ++ (if x.k = 2 ∧ x.i = j then [(i : Int)] else []) := by
  have hi := (List.getElem?_eq_some_iff.1 hx).1; rw [List.take_add_one, hx]; show setS j 0 (g.ns.take i ++ [x]) = _; rw [setS_snoc, List.length_take, Nat.min_eq_left (by omega), Nat.zero_add]
theorem setsI_no {g : Gm} {i : Nat} {x : Nd} (hx : g.ns[i]? = some x) (hk : x.k ≠ 2) : setsI g (i + 1) = setsI g i := by
  unfold setsI; congr 1
  funext j
  rw [setS_next hx, if_neg (fun q => hk q.1), List.append_nil]
theorem setsI_yes {g : Gm} {i : Nat} {x : Nd} (hx : g.ns[i]? = some x) (hk : x.k = 2) (h0 : 0 ≤ x.i) (h1 : x.i < g.is.length) : setsI g (i + 1) = (setsI g i).set x.i.toNat (setS x.i 0 (g.ns.take i) ++ [(i : Int)]) := by
  apply List.ext_getElem?
  intro j; rw [List.getElem?_set, setsI_len]; by_cases hj : j < g.is.length
  · rw [setsI_get hj, setsI_get hj, setS_next hx]
    by_cases q : x.i.toNat = j
    · rw [if_pos ⟨hk, by omega⟩, if_pos q, if_pos (by omega), show (j : Int) = x.i by omega]
    · rw [if_neg (fun r => q (by omega)), if_neg q, List.append_nil]
  · rw [List.getElem?_eq_none (by rw [setsI_len]; omega), List.getElem?_eq_none (by rw [setsI_len]; omega), if_neg (by omega)]
theorem setS_len {j : Int} : ∀ {l : List Nd} {n : Nat}, (setS j n l).length ≤ l.length := by
  intro l; induction l with
  | nil => intro n; exact Nat.le_refl _
  | cons y r ih =>
    intro n; have := ih (n := n + 1); unfold setS; split <;> (simp only [List.length_cons]; omega)
section
variable {Q : Worlds Tryd.prog} {g0 : Nat} {J : Jm}
abbrev dpB (ad : Nat) (d : Int) : Nat × PB := (ad, .row [.int .i64 d] 3)
abbrev dpF (dp : Int) (es : List Ent) : Int := es.foldl (fun m e => max m e.2.1) dp
theorem rwalk_fn {g : Gm} {bn bi : Option Addr} {cn ci : Nat} {ad : Nat} (hg : GmR J g bn cn bi ci) (n2 : g.ns.length ≤ 2000) (hl : ∀ x ∈ g.ns, x.nx.length ≤ 60) : ∀ (f a : Nat) (par d dp : Int), g.ns.length < a + f → a ≤ g.ns.length → 0 ≤ d → d ≤ a →
    Fn (kx Q g0) 31 [gV g bn cn bi ci, .int .i64 (a : Int), .int .i64 d, .pointer (some ⟨ad, 0, none⟩)] [dpB ad dp] J (fun u m' J' => J = J' ∧ ∃ dp' r, m' = [dpB ad dp'] ∧ u = .int .i64 r ∧ match trS g.ns f par d a with
      | none => r = -1
      | some (n1, es) => r = (n1 : Int) ∧ dp' = dpF dp es) := by
  obtain ⟨_, hgn⟩ := hg.n.at; have qi : addrEq bi bi = true := hg.i.addr; have qn : addrEq bn bn = true := hg.n.addr; intro f; induction f with
  | zero => intro a par d dp h1 h2; omega
  | succ f ih =>
  intro a par d dp hf ha hd0 hda; refine Fn.of_body (ftGet Tryd.func31) rfl rfl fun H => ?_; refine rg ?_; refine bx fun a4 => ?_; refine Sa V.asg ?_; refine nr ?_; refine Sa V.mv ?_; refine Sa V.fa ?_; refine Sa V.ld ?_; refine Sa V.ls ?_; refine Sa V.vi ?_; refine ns ?_; refine If (fun c15 => ?_) fun c15 => ?_
  ·
   refine rg ?_; refine Sa V.asg ?_; refine ns ?_; refine WC.ret ?_; refine' ⟨.inr rfl, rfl, _, [dpB ad _], .tmp rfl .nil, (by first | exact .cons _ (.refl _) | exact .cons_cons _ (List.nil_sublist _)), ?_⟩; refine ⟨rfl, _, _, rfl, rfl, ?_⟩; first
     | (have c := c15; rw [show trS g.ns (f + 1) par d a = none by unfold trS; rw [List.getElem?_eq_none (by omega)]])
     | (rw [List.take_of_length_le (by omega)] at hch
        rw [trS_yes hxa hch]; exact ⟨rfl, hd1⟩)
  ·
   obtain ⟨aa, off, cells, e', rfl, hJ, hget⟩ := hgn (by omega); obtain ⟨x, cs, hx, hcs, hks, hR⟩ := hget a (by omega) (by omega); obtain ⟨b1, c1, b2, c2, b3, c3, rfl, hx1, hx2, hx3⟩ := hR; have hk3 := hks 3 _ (by decide) rfl; have hxa : g.ns[a]? = some x := by simpa using hx
   have hx60 := hl x (List.mem_of_getElem? hxa); have hri := hx1.ri []; refine kr ?_; refine Sa V.mv ?_; refine Sa V.mv ?_; refine Sa V.nc ?_; refine Sa V.ld ?_; refine Sa V.mv ?_; refine' W.step rfl (Exec.val rfl rfl (v_max rfl rfl rfl rfl rfl) ?_); refine Sa V.nc ?_; refine Ss ?_; refine nr ?_; refine Sa V.mv ?_; refine Sa V.va ?_; refine Sa V.asg ?_; refine nr ?_; refine Sa V.asg ?_; refine ns ?_; refine WC.block ?_; refine sq ?_; refine WC.permM (List.Perm.swap _ _ _) ?_; refine' WC.weak (l' := [(9, .int .i64 ((a + 1) : Int)), (10, .int .i64 ((0) : Int)), (1, _), (2, _), (3, _), (4, _)]) ⟨?w9, ?w10, rfl, rfl, rfl, rfl, trivial⟩ (List.Sublist.refl _) ?_; case w9 => exact nq
   case w10 => exact nq
   refine sq ?_; refine' WC.loopG (α := Nat × Nat × (List Ent) × Int) (fun (k, cur, es, d1) => [(9, .int .i64 (cur : Int)), (10, .int .i64 (k : Int))]) (fun (k, cur, es, d1) => [dpB ad d1, (a4, .row (gC g (some ⟨aa, off, none⟩) cn bi ci) 25)]) (fun (k, cur, es, d1) => J) (fun (k, cur, es, d1) => k ≤ x.nx.length ∧ chS (trS g.ns f a (d + 1)) (x.nx.take k) (a + 1) = some (cur, es) ∧ d1 = dpF (max dp d) es) (fun (k, cur, es, d1) => x.nx.length - k) ⟨0, a + 1, [], max dp d⟩ ?hs ?hstep; case hs => exact ⟨Nat.zero_le _, rfl, rfl⟩
   case hstep =>
    rintro ⟨k, cur, es, d1⟩ hinv; try simp only at hinv
    obtain ⟨hk, hch, hd1⟩ := hinv; refine rg ?_; refine Sa V.mv ?_; refine Sa V.fa ?_; refine Sa V.ld ?_; refine Sa V.mv ?_; refine Sa V.ix ?_; refine Sa V.fa ?_; refine Sa V.ld ?_; refine Sa V.ls ?_; refine Sa V.vi ?_; refine ns ?_; refine If (fun c33 => ?_) fun c33 => ?_
    ·
     obtain ⟨a5, off5, cells5, rfl, hro, hget5⟩ := hri (by omega); obtain ⟨x5, hxk, hnx⟩ := hget5 k (by omega) (by omega); have hxk' : x.nx[k]? = some x5 := by simpa using hxk
     obtain ⟨hc1, hc2, hc3⟩ := chS_len (fun p q r s => trS_len _ _ _ p q r s) hch (by omega); refine sk ?_; refine sq ?_; refine WC.block ?_; refine rg ?_; refine Sa V.fa ?_; refine Sa V.ld ?_; refine Sa V.mv ?_; refine Sa V.ix ?_; refine Sa V.fa ?_; refine Sa V.ld ?_; refine Sa V.mv ?_; refine Sa V.ix ?_; refine' W.step rfl (Exec.val rfl rfl (v_load rfl rfl ?hr (part1 (tAg rfl) ?hv)) ?_); case hr => exact hro.sub (fun _ q => by cases q)
     case hv => first | rfl | assumption
     refine Sa V.mv ?_; refine Sa V.vi ?_; refine ns ?_; refine If (fun c46 => ?_) fun c46 => ?_
     ·
      refine rg ?_; refine Sa V.asg ?_; refine ns ?_; refine WC.ret ?_; refine' ⟨.inr rfl, rfl, _, [dpB ad _], .tmp rfl .nil, (by first | exact .cons _ (.refl _) | exact .cons_cons _ (List.nil_sublist _)), ?_⟩; refine ⟨rfl, _, _, rfl, rfl, ?_⟩; first
        | (have c := c15; rw [show trS g.ns (f + 1) par d a = none by unfold trS; rw [List.getElem?_eq_none (by omega)]])
        | (have c := c46; rw [trS_no hxa (chS_no (k := k + 1) (by rw [chS_take hch hxk', if_pos c46]))])
        | (rw [List.take_of_length_le (by omega)] at hch
           rw [trS_yes hxa hch]; exact ⟨rfl, hd1⟩)
     ·
      refine sq ?_; refine WC.skip ?_; refine rg ?_; refine Sa V.ldA ?_; refine Sa V.mv ?_; refine Sa V.mv ?_; refine Sa V.va ?_; refine Sa V.mv ?_; refine' W.step rfl (Exec.call rfl rfl rfl rfl rfl rfl rfl (mi := [dpB ad d1]) (mr := [_]) (.refl _) trivial (ih cur a (d + 1) d1 (by omega) hc2 (by omega) (by omega)) ?_); rintro v m' J' hle ⟨rfl, d2, r2, rfl, rfl, hm⟩; refine Sa V.asg ?_; refine nr ?_; refine Sa V.mv ?_; refine Sa V.vi ?_; refine ns ?_; refine If (fun c54 => ?_) fun c54 => ?_
      ·
       refine rg ?_; refine Sa V.asg ?_; refine ns ?_; refine WC.ret ?_; refine' ⟨.inr rfl, rfl, _, [dpB ad _], .tmp rfl .nil, (by first | exact .cons _ (.refl _) | exact .cons_cons _ (List.nil_sublist _)), ?_⟩; refine ⟨rfl, _, _, rfl, rfl, ?_⟩; first
         | (have c := c15; rw [show trS g.ns (f + 1) par d a = none by unfold trS; rw [List.getElem?_eq_none (by omega)]])
         | (have c := c46; rw [trS_no hxa (chS_no (k := k + 1) (by rw [chS_take hch hxk', if_pos c46]))])
         | (have c := c54
            have : trS g.ns f a (d + 1) cur = none := by
              cases htr : trS g.ns f a (d + 1) cur with
              | none => rfl
              | some p => obtain ⟨n1, e1⟩ := p; rw [htr] at hm; simp only at hm; omega
            rw [trS_no hxa (chS_no (k := k + 1) (by rw [chS_take hch hxk', this]; split <;> rfl))])
         | (rw [List.take_of_length_le (by omega)] at hch
            rw [trS_yes hxa hch]; exact ⟨rfl, hd1⟩)
      ·
       obtain ⟨n1, e1, htr, hn1, hd2⟩ : ∃ n1 e1, trS g.ns f a (d + 1) cur = some (n1, e1) ∧ r2 = (n1 : Int) ∧ d2 = dpF d1 e1 := by
         cases htr : trS g.ns f a (d + 1) cur with
         | none => rw [htr] at hm; simp only at hm; omega
         | some p => obtain ⟨n1, e1⟩ := p; rw [htr] at hm; exact ⟨n1, e1, rfl, hm.1, hm.2⟩
       subst hd2; refine kr ?_; refine Sa V.mv ?_; refine Sa V.va ?_; refine Sa V.asg ?_; refine Wn ?_; refine' ⟨⟨k + 1, n1, es ++ e1, dpF d1 e1⟩, _, ?hinv, ?hmeas, rfl, ⟨?m9, ?m10, rfl, rfl, rfl, rfl, trivial⟩, List.Sublist.refl _, rfl⟩; case m9 => exact nq
       case m10 => exact nq
       case hmeas => exact om
       case hinv => exact ⟨by omega, by rw [chS_take hch hxk', if_neg (by omega), htr], by rw [hd1]; simp [dpF, List.foldl_append]⟩
    ·
     refine sq ?_; refine WC.exit ?_; refine rg ?_; refine Sa V.mv ?_; refine Sa V.asg ?_; refine ns ?_; refine WC.ret ?_; refine' ⟨.inr rfl, rfl, _, [dpB ad _], .tmp rfl .nil, (by first | exact .cons _ (.refl _) | exact .cons_cons _ (List.nil_sublist _)), ?_⟩; refine ⟨rfl, _, _, rfl, rfl, ?_⟩; first
       | (have c := c15; rw [show trS g.ns (f + 1) par d a = none by unfold trS; rw [List.getElem?_eq_none (by omega)]])
       | (rw [List.take_of_length_le (by omega)] at hch
          rw [trS_yes hxa hch]; exact ⟨rfl, hd1⟩)
end
end Go.Opn

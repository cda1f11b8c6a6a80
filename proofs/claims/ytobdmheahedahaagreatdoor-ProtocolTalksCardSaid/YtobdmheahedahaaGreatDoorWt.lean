/- A part of the proof of ProtocolTalks. -/
import Derived.Test.YtobdmheahedahaaGreatDoorWs
import Derived.Test.YtobdmheahedahaaGreatDoorOpnP
set_option maxRecDepth 100000
set_option maxHeartbeats 4000000
set_option linter.unusedVariables false
set_option linter.unusedSimpArgs false
namespace Go.Opn
open Go.Cre Go.RowKit Go.Proofs
section
variable {Q : Worlds Tryz.prog} {g0 : Nat} {J : Jm}
variable {ph pl st k : Int} {tx : List UInt8} {O N : List Int} {bo bv : Option Addr} {no co nv cv : Nat}
theorem rStep_fn (hO : IntsR J (.slice bo no co) O) (hN : IntsR J (.slice bv nv cv) N) (ht : tx.length ≤ 140737488355328) (hlO : O.length ≤ 1000000) (hlN : N.length ≤ 1000000) :
    Fn (kx Q g0) 6 [talkV ph pl st (.slice bo no co), lineV k tx (.slice bv nv cv)] [] J (FolP (stepS ⟨ph, pl, st, O⟩ k tx N) J) := by
  obtain ⟨rfl, _, _⟩ := hO.get
  obtain ⟨rfl, _, _⟩ := hN.get
  have haO := hO.addr
  have haN := hN.addr
  obtain ⟨eO, hslO⟩ := id hO
  refine Fn.of_body (ftGet Tryz.func6) rfl rfl fun H => ?_
  refine rg ?_
  refine' W.step rfl (.of (x_box rfl rfl rfl rfl rfl rfl fun a2 => ?_))
  refine' W.step rfl (.of (x_box rfl rfl rfl rfl rfl rfl fun a3 => ?_))
  refine' W.step rfl (.of (x_alloc rfl rfl rfl (ze24 Q g0) rfl rfl rfl fun a4 => ?_))
  refine Sa V.asg ?_
  refine Wn ?_
  refine rg ?_
  refine Sa V.ldA ?_
  refine' W.step rfl (Exec.call rfl rfl rfl rfl rfl rfl rfl (mi := []) (.refl _) trivial (rcheck_fn hN ht hlN) ?_)
  rintro v m' J' hle ⟨rfl, rfl, rfl⟩
  refine Sa V.asg ?_
  refine Wn ?_
  refine rg ?_
  refine Sa V.mv ?_
  refine Sa V.vi ?_
  refine Wn ?_
  refine sq ?_
  first | refine WC.if rfl (fun c11 => ?_) (fun c11 => ?_) | refine WC.cond rfl (fun c11 => ?_) (fun c11 => ?_)
  ·
   refine rg ?_
   refine Sa V.bd ?_
   refine Sa V.mv ?_
   refine Ss ?_
   refine Sa V.asg ?_
   refine Wn ?_
   refine sq ?_
   refine WC.ret ?_
   refine' ⟨.inr rfl, rfl, _, [], .cell rfl (by repeat first | exact .head _ | refine .tail _ ?_ | refine List.mem_append_right _ ?_) (partA (tAg rfl) rfl) (.tmp rfl .nil), List.nil_sublist _, ?_⟩
   unfold stepS
   first
     | (rw [if_pos c11]; exact ⟨⟨_, _, rfl, .nil⟩, rfl, Jm.le.refl _⟩)
     | (rw [if_neg c11]; unfold stepOK; simp only; try rw [hxd]
        repeat (first | rw [if_pos (by assumption)] | rw [if_neg (by assumption)])
        first | exact ⟨⟨_, _, rfl, hO4⟩, rfl, hle4⟩ | exact ⟨⟨_, _, rfl, .nil⟩, rfl, hle4⟩ | exact ⟨⟨_, _, rfl, hN5⟩, rfl, hle4.trans hle5⟩)
  ·
   have hc : chk k tx N = 0 := Classical.not_not.1 c11
   obtain ⟨hkk, hf, hr, ho⟩ := chk_ok hc
   have hlen := form_len hf
   refine sq ?_
   refine WC.skip ?_
   refine sq ?_
   refine WC.draw rfl (by kernel_rfl) (plan := [.alc 6, .alc 11, .val 0, .val 1, .val 2, .val 3, .val 4, .val 5, .val 7, .val 8, .chn 9, .val 10, .chk [5, 4, 3, 2, 1, 0], .chn 12]) (by kernel_rfl) ?_
   refine WD.buildSlice rfl rfl rfl rfl rfl rfl (sb22 Q g0) rfl rfl rfl fun a20 => ?_
   refine WD.alloc rfl rfl rfl rfl rfl (ze24 Q g0) rfl rfl rfl fun a7 => ?_
   refine Da rfl V.fa ?_
   refine Da rfl V.ld ?_
   refine Da rfl V.fa ?_
   refine Da rfl V.ld ?_
   refine Da rfl V.fa ?_
   refine Da rfl V.ld ?_
   refine Da rfl V.fa ?_
   refine Da rfl V.ld ?_
   refine' WD.chnX rfl rfl (x_accP rfl rfl rfl rfl rfl rfl (sb22 Q g0) (un22 Q g0) (fun i q => by cases q) ?hacc ?hm ?hx ?hnl ?hne ?hl fun w23 mo23 hacc23 => ?_)
   case hacc => exact .emp _
   case hm => rfl
   case hx => exact hslO.rd
   case hnl => simp
   case hne => exact ints_one _
   case hl => first | omega | (simp; omega)
   rw [Nat.zero_add, List.nil_append] at hacc23
   obtain ⟨b23, c23, rfl⟩ := hacc23.form
   refine Da rfl V.bd ?_
   refine WD.chk ck ?_
   refine Ds rfl ?_
   refine WD.nil ?_
   refine Acc.pub hacc23 rfl (fun J4 hle4 hsl4 => ?_)
   have hO4 : IntsR J4 (.slice b23 O.length c23) O := ⟨3, hsl4⟩
   have hN4 := hN.mono hle4
   obtain ⟨_, _, hra⟩ := hN4.get
   refine sq ?_
   refine WC.block ?_
   refine' WC.weak (l' := [(2, _), (3, _), (4, _), (7, _)]) ⟨rfl, rfl, rfl, rfl, trivial⟩ (List.Sublist.refl _) ?_
   refine sq ?_
   refine' WC.cutK 0 [(26, .bool (decide (((0 ≤ ph ∧ ph < 6) ∧ (k = 8 ∨ k = 11)))))] ?cr6 ?dr6
   case cr6 =>
    refine WC.region ?_
    refine Sa V.fa ?_
    refine Sa V.ld ?_
    refine Sa V.vi ?_
    refine Sa V.mv ?_
    first | refine W.splitP (d := 30) rfl (fun gr6_3 => ?_) (fun gr6_3 => ?_) | refine W.split (d := 30) rfl (fun gr6_3 => ?_) (fun gr6_3 => ?_)
    ·
     refine Sb V.fa ?_
     refine Sb V.ld ?_
     refine Sb V.vi ?_
     refine Sa V.pk ?_
     refine Sa V.mv ?_
     first | refine W.splitP (d := 35) rfl (fun gr6_8 => ?_) (fun gr6_8 => ?_) | refine W.split (d := 35) rfl (fun gr6_8 => ?_) (fun gr6_8 => ?_)
     ·
      refine Sb V.fa ?_
      refine Sb V.ld ?_
      refine Sb V.vi ?_
      refine Sb V.mv ?_
      first | refine W.splitP (d := 39) rfl (fun gr6_12 => ?_) (fun gr6_12 => ?_) | refine W.split (d := 39) rfl (fun gr6_12 => ?_) (fun gr6_12 => ?_)
      ·
       refine Sn ?_
       refine Sn ?_
       refine Sn ?_
       refine Sb V.pk ?_
       refine Sa V.pk ?_
       refine Sa V.asg ?_
       refine Wn ?_
       refine' ⟨⟨_, rfl, ⟨?n26, rfl, rfl, rfl, rfl, trivial⟩⟩, List.Sublist.refl _, rfl⟩
       case n26 => first | exact cutT rfl (by first | omega | simp_all) | exact cutF rfl (by first | omega | simp_all) | exact cutI rfl (by first | omega | simp_all) | exact cutB rfl (by simp_all)
      ·
       refine Sb V.fa ?_
       refine Sb V.ld ?_
       refine Sb V.vi ?_
       refine Sb V.pk ?_
       refine Sa V.pk ?_
       refine Sa V.asg ?_
       refine Wn ?_
       refine' ⟨⟨_, rfl, ⟨?n26, rfl, rfl, rfl, rfl, trivial⟩⟩, List.Sublist.refl _, rfl⟩
       case n26 => first | exact cutT rfl (by first | omega | simp_all) | exact cutF rfl (by first | omega | simp_all) | exact cutI rfl (by first | omega | simp_all) | exact cutB rfl (by simp_all)
     ·
      refine Sn ?_
      refine Sn ?_
      refine Sn ?_
      refine Sn ?_
      refine Su ?_
      refine Su ?_
      refine Su ?_
      refine Sn ?_
      refine Sa V.pk ?_
      refine Sa V.asg ?_
      refine Wn ?_
      refine' ⟨⟨_, rfl, ⟨?n26, rfl, rfl, rfl, rfl, trivial⟩⟩, List.Sublist.refl _, rfl⟩
      case n26 => first | exact cutT rfl (by first | omega | simp_all) | exact cutF rfl (by first | omega | simp_all) | exact cutI rfl (by first | omega | simp_all) | exact cutB rfl (by simp_all)
    ·
     refine Sn ?_
     refine Sn ?_
     refine Sn ?_
     refine Sa V.pk ?_
     refine Sa V.mv ?_
     refine Sn ?_
     refine Sn ?_
     refine Sn ?_
     refine Sn ?_
     refine Su ?_
     refine Su ?_
     refine Su ?_
     refine Sn ?_
     refine Sa V.pk ?_
     refine Sa V.asg ?_
     refine Wn ?_
     refine' ⟨⟨_, rfl, ⟨?n26, rfl, rfl, rfl, rfl, trivial⟩⟩, List.Sublist.refl _, rfl⟩
     case n26 => first | exact cutT rfl (by first | omega | simp_all) | exact cutF rfl (by first | omega | simp_all) | exact cutI rfl (by first | omega | simp_all) | exact cutB rfl (by simp_all)
   case dr6 =>
    refine sq ?_
    first | refine WC.if rfl (fun c26 => ?_) (fun c26 => ?_) | refine WC.cond rfl (fun c26 => ?_) (fun c26 => ?_)
    ·
     refine rg ?_
     refine Sa V.fa ?_
     refine Ss ?_
     refine Sa V.fa ?_
     refine Ss ?_
     refine Wn ?_
     refine rg ?_
     refine Sa V.ldA ?_
     refine Ss ?_
     refine Sa V.asg ?_
     refine Wn ?_
     refine sq ?_
     refine WC.ret ?_
     refine' ⟨.inr rfl, rfl, _, [], .cell rfl (by repeat first | exact .head _ | refine .tail _ ?_ | refine List.mem_append_right _ ?_) (partA (tAg rfl) rfl) (.tmp rfl .nil), List.nil_sublist _, ?_⟩
     unfold stepS
     first
       | (rw [if_pos c11]; exact ⟨⟨_, _, rfl, .nil⟩, rfl, Jm.le.refl _⟩)
       | (rw [if_neg c11]; unfold stepOK; simp only; try rw [hxd]
          repeat (first | rw [if_pos (by assumption)] | rw [if_neg (by assumption)])
          first | exact ⟨⟨_, _, rfl, hO4⟩, rfl, hle4⟩ | exact ⟨⟨_, _, rfl, .nil⟩, rfl, hle4⟩ | exact ⟨⟨_, _, rfl, hN5⟩, rfl, hle4.trans hle5⟩)
    ·
     refine' WC.weak (l' := [(2, _), (3, _), (4, _), (7, _)]) ⟨rfl, rfl, rfl, rfl, trivial⟩ (List.Sublist.refl _) ?_
     refine sq ?_
     refine' WC.cutK 0 [(47, .bool (decide ((ph = 0 ∧ k = 1))))] ?cr8 ?dr8
     case cr8 =>
      refine WC.region ?_
      refine Sa V.fa ?_
      refine Sa V.ld ?_
      refine Sa V.vi ?_
      refine Sa V.mv ?_
      first | refine W.splitP (d := 51) rfl (fun gr8_3 => ?_) (fun gr8_3 => ?_) | refine W.split (d := 51) rfl (fun gr8_3 => ?_) (fun gr8_3 => ?_)
      ·
       refine Sb V.fa ?_
       refine Sb V.ld ?_
       refine Sb V.vi ?_
       refine Sa V.pk ?_
       refine Sa V.asg ?_
       refine Wn ?_
       refine' ⟨⟨_, rfl, ⟨?n47, rfl, rfl, rfl, rfl, trivial⟩⟩, List.Sublist.refl _, rfl⟩
       case n47 => first | exact cutT rfl (by first | omega | simp_all) | exact cutF rfl (by first | omega | simp_all) | exact cutI rfl (by first | omega | simp_all) | exact cutB rfl (by simp_all)
      ·
       refine Sn ?_
       refine Sn ?_
       refine Sn ?_
       refine Sa V.pk ?_
       refine Sa V.asg ?_
       refine Wn ?_
       refine' ⟨⟨_, rfl, ⟨?n47, rfl, rfl, rfl, rfl, trivial⟩⟩, List.Sublist.refl _, rfl⟩
       case n47 => first | exact cutT rfl (by first | omega | simp_all) | exact cutF rfl (by first | omega | simp_all) | exact cutI rfl (by first | omega | simp_all) | exact cutB rfl (by simp_all)
     case dr8 =>
      refine sq ?_
      first | refine WC.if rfl (fun c47 => ?_) (fun c47 => ?_) | refine WC.cond rfl (fun c47 => ?_) (fun c47 => ?_)
      ·
       refine rg ?_
       refine Sa V.fa ?_
       refine Ss ?_
       refine Wn ?_
       refine rg ?_
       refine Sa V.ldA ?_
       refine Ss ?_
       refine Sa V.asg ?_
       refine Wn ?_
       refine sq ?_
       refine WC.ret ?_
       refine' ⟨.inr rfl, rfl, _, [], .cell rfl (by repeat first | exact .head _ | refine .tail _ ?_ | refine List.mem_append_right _ ?_) (partA (tAg rfl) rfl) (.tmp rfl .nil), List.nil_sublist _, ?_⟩
       unfold stepS
       first
         | (rw [if_pos c11]; exact ⟨⟨_, _, rfl, .nil⟩, rfl, Jm.le.refl _⟩)
         | (rw [if_neg c11]; unfold stepOK; simp only; try rw [hxd]
            repeat (first | rw [if_pos (by assumption)] | rw [if_neg (by assumption)])
            first | exact ⟨⟨_, _, rfl, hO4⟩, rfl, hle4⟩ | exact ⟨⟨_, _, rfl, .nil⟩, rfl, hle4⟩ | exact ⟨⟨_, _, rfl, hN5⟩, rfl, hle4.trans hle5⟩)
      ·
       refine' WC.weak (l' := [(2, _), (3, _), (4, _), (7, _)]) ⟨rfl, rfl, rfl, rfl, trivial⟩ (List.Sublist.refl _) ?_
       refine sq ?_
       refine' WC.cutK 0 [(57, .bool (decide ((ph = 1 ∧ k = 9))))] ?cr10 ?dr10
       case cr10 =>
        refine WC.region ?_
        refine Sa V.fa ?_
        refine Sa V.ld ?_
        refine Sa V.vi ?_
        refine Sa V.mv ?_
        first | refine W.splitP (d := 61) rfl (fun gr10_3 => ?_) (fun gr10_3 => ?_) | refine W.split (d := 61) rfl (fun gr10_3 => ?_) (fun gr10_3 => ?_)
        ·
         refine Sb V.fa ?_
         refine Sb V.ld ?_
         refine Sb V.vi ?_
         refine Sa V.pk ?_
         refine Sa V.asg ?_
         refine Wn ?_
         refine' ⟨⟨_, rfl, ⟨?n57, rfl, rfl, rfl, rfl, trivial⟩⟩, List.Sublist.refl _, rfl⟩
         case n57 => first | exact cutT rfl (by first | omega | simp_all) | exact cutF rfl (by first | omega | simp_all) | exact cutI rfl (by first | omega | simp_all) | exact cutB rfl (by simp_all)
        ·
         refine Sn ?_
         refine Sn ?_
         refine Sn ?_
         refine Sa V.pk ?_
         refine Sa V.asg ?_
         refine Wn ?_
         refine' ⟨⟨_, rfl, ⟨?n57, rfl, rfl, rfl, rfl, trivial⟩⟩, List.Sublist.refl _, rfl⟩
         case n57 => first | exact cutT rfl (by first | omega | simp_all) | exact cutF rfl (by first | omega | simp_all) | exact cutI rfl (by first | omega | simp_all) | exact cutB rfl (by simp_all)
       case dr10 =>
        refine sq ?_
        first | refine WC.if rfl (fun c57 => ?_) (fun c57 => ?_) | refine WC.cond rfl (fun c57 => ?_) (fun c57 => ?_)
        ·
         refine rg ?_
         refine Sa V.fa ?_
         refine Ss ?_
         refine Wn ?_
         refine rg ?_
         refine Sa V.ldA ?_
         refine Ss ?_
         refine Sa V.asg ?_
         refine Wn ?_
         refine sq ?_
         refine WC.ret ?_
         refine' ⟨.inr rfl, rfl, _, [], .cell rfl (by repeat first | exact .head _ | refine .tail _ ?_ | refine List.mem_append_right _ ?_) (partA (tAg rfl) rfl) (.tmp rfl .nil), List.nil_sublist _, ?_⟩
         unfold stepS
         first
           | (rw [if_pos c11]; exact ⟨⟨_, _, rfl, .nil⟩, rfl, Jm.le.refl _⟩)
           | (rw [if_neg c11]; unfold stepOK; simp only; try rw [hxd]
              repeat (first | rw [if_pos (by assumption)] | rw [if_neg (by assumption)])
              first | exact ⟨⟨_, _, rfl, hO4⟩, rfl, hle4⟩ | exact ⟨⟨_, _, rfl, .nil⟩, rfl, hle4⟩ | exact ⟨⟨_, _, rfl, hN5⟩, rfl, hle4.trans hle5⟩)
        ·
         refine' WC.weak (l' := [(2, _), (3, _), (4, _), (7, _)]) ⟨rfl, rfl, rfl, rfl, trivial⟩ (List.Sublist.refl _) ?_
         refine sq ?_
         refine' WC.cutK 0 [(67, .bool (decide ((ph = 2 ∧ k = 2))))] ?cr12 ?dr12
         case cr12 =>
          refine WC.region ?_
          refine Sa V.fa ?_
          refine Sa V.ld ?_
          refine Sa V.vi ?_
          refine Sa V.mv ?_
          first | refine W.splitP (d := 71) rfl (fun gr12_3 => ?_) (fun gr12_3 => ?_) | refine W.split (d := 71) rfl (fun gr12_3 => ?_) (fun gr12_3 => ?_)
          ·
           refine Sb V.fa ?_
           refine Sb V.ld ?_
           refine Sb V.vi ?_
           refine Sa V.pk ?_
           refine Sa V.asg ?_
           refine Wn ?_
           refine' ⟨⟨_, rfl, ⟨?n67, rfl, rfl, rfl, rfl, trivial⟩⟩, List.Sublist.refl _, rfl⟩
           case n67 => first | exact cutT rfl (by first | omega | simp_all) | exact cutF rfl (by first | omega | simp_all) | exact cutI rfl (by first | omega | simp_all) | exact cutB rfl (by simp_all)
          ·
           refine Sn ?_
           refine Sn ?_
           refine Sn ?_
           refine Sa V.pk ?_
           refine Sa V.asg ?_
           refine Wn ?_
           refine' ⟨⟨_, rfl, ⟨?n67, rfl, rfl, rfl, rfl, trivial⟩⟩, List.Sublist.refl _, rfl⟩
           case n67 => first | exact cutT rfl (by first | omega | simp_all) | exact cutF rfl (by first | omega | simp_all) | exact cutI rfl (by first | omega | simp_all) | exact cutB rfl (by simp_all)
         case dr12 =>
          refine sq ?_
          first | refine WC.if rfl (fun c67 => ?_) (fun c67 => ?_) | refine WC.cond rfl (fun c67 => ?_) (fun c67 => ?_)
          ·
           have hl0 : 0 < N.length := by obtain ⟨_, rfl⟩ := c67; have : (counts 2).1 = 1 := rfl; omega
           obtain ⟨a, off, cells, e, rfl, hJ, hget⟩ := hra hl0
           obtain ⟨x, hx, hnx⟩ := hget 0 (by omega) (by omega)
           have hxd : N[0]?.getD 0 = x := by have hx : N[0]? = some x := hx; rw [hx]; rfl
           refine sq ?_
           refine WC.draw rfl (by kernel_rfl) (plan := [.val 0, .val 1, .val 2, .val 3, .val 4, .chn 5, .val 6, .chk [3, 2, 1, 0], .chn 7]) (by kernel_rfl) ?_
           refine Da rfl V.fa ?_
           refine Da rfl V.ld ?_
           refine Da rfl V.ix ?_
           refine Da rfl V.ld ?_
           refine Da rfl V.fa ?_
           refine Ds rfl ?_
           refine Da rfl V.fa ?_
           refine WD.chk ck ?_
           refine Ds rfl ?_
           refine WD.nil ?_
           refine rg ?_
           refine Sa V.ldA ?_
           refine Ss ?_
           refine Sa V.asg ?_
           refine Wn ?_
           refine sq ?_
           refine WC.ret ?_
           refine' ⟨.inr rfl, rfl, _, [], .cell rfl (by repeat first | exact .head _ | refine .tail _ ?_ | refine List.mem_append_right _ ?_) (partA (tAg rfl) rfl) (.tmp rfl .nil), List.nil_sublist _, ?_⟩
           unfold stepS
           first
             | (rw [if_pos c11]; exact ⟨⟨_, _, rfl, .nil⟩, rfl, Jm.le.refl _⟩)
             | (rw [if_neg c11]; unfold stepOK; simp only; try rw [hxd]
                repeat (first | rw [if_pos (by assumption)] | rw [if_neg (by assumption)])
                first | exact ⟨⟨_, _, rfl, hO4⟩, rfl, hle4⟩ | exact ⟨⟨_, _, rfl, .nil⟩, rfl, hle4⟩ | exact ⟨⟨_, _, rfl, hN5⟩, rfl, hle4.trans hle5⟩)
          ·
           refine' WC.weak (l' := [(2, _), (3, _), (4, _), (7, _)]) ⟨rfl, rfl, rfl, rfl, trivial⟩ (List.Sublist.refl _) ?_
           refine sq ?_
           refine' WC.cutK 0 [(82, .bool (decide ((ph = 3 ∧ k = 3))))] ?cr14 ?dr14
           case cr14 =>
            refine WC.region ?_
            refine Sa V.fa ?_
            refine Sa V.ld ?_
            refine Sa V.vi ?_
            refine Sa V.mv ?_
            first | refine W.splitP (d := 86) rfl (fun gr14_3 => ?_) (fun gr14_3 => ?_) | refine W.split (d := 86) rfl (fun gr14_3 => ?_) (fun gr14_3 => ?_)
            ·
             refine Sb V.fa ?_
             refine Sb V.ld ?_
             refine Sb V.vi ?_
             refine Sa V.pk ?_
             refine Sa V.asg ?_
             refine Wn ?_
             refine' ⟨⟨_, rfl, ⟨?n82, rfl, rfl, rfl, rfl, trivial⟩⟩, List.Sublist.refl _, rfl⟩
             case n82 => first | exact cutT rfl (by first | omega | simp_all) | exact cutF rfl (by first | omega | simp_all) | exact cutI rfl (by first | omega | simp_all) | exact cutB rfl (by simp_all)
            ·
             refine Sn ?_
             refine Sn ?_
             refine Sn ?_
             refine Sa V.pk ?_
             refine Sa V.asg ?_
             refine Wn ?_
             refine' ⟨⟨_, rfl, ⟨?n82, rfl, rfl, rfl, rfl, trivial⟩⟩, List.Sublist.refl _, rfl⟩
             case n82 => first | exact cutT rfl (by first | omega | simp_all) | exact cutF rfl (by first | omega | simp_all) | exact cutI rfl (by first | omega | simp_all) | exact cutB rfl (by simp_all)
           case dr14 =>
            refine sq ?_
            first | refine WC.if rfl (fun c82 => ?_) (fun c82 => ?_) | refine WC.cond rfl (fun c82 => ?_) (fun c82 => ?_)
            ·
             have hl0 : 0 < N.length := by obtain ⟨_, rfl⟩ := c82; have : (counts 3).1 = 1 := rfl; omega
             obtain ⟨a, off, cells, e, rfl, hJ, hget⟩ := hra hl0
             obtain ⟨x, hx, hnx⟩ := hget 0 (by omega) (by omega)
             have hxd : N[0]?.getD 0 = x := by have hx : N[0]? = some x := hx; rw [hx]; rfl
             refine sq ?_
             refine WC.draw rfl (by kernel_rfl) (plan := [.val 0, .val 1, .val 2, .val 3, .val 4, .val 5, .val 6]) (by kernel_rfl) ?_
             refine Da rfl V.fa ?_
             refine Da rfl V.ld ?_
             refine Da rfl V.ix ?_
             refine Da rfl V.ld ?_
             refine Da rfl V.fa ?_
             refine Da rfl V.ld ?_
             refine Da rfl V.vi ?_
             refine WD.nil ?_
             refine sq ?_
             first | refine WC.if rfl (fun c97 => ?_) (fun c97 => ?_) | refine WC.cond rfl (fun c97 => ?_) (fun c97 => ?_)
             ·
              refine rg ?_
              refine Sa V.bd ?_
              refine Ss ?_
              refine Sa V.asg ?_
              refine Wn ?_
              refine sq ?_
              refine WC.ret ?_
              refine' ⟨.inr rfl, rfl, _, [], .cell rfl (by repeat first | exact .head _ | refine .tail _ ?_ | refine List.mem_append_right _ ?_) (partA (tAg rfl) rfl) (.tmp rfl .nil), List.nil_sublist _, ?_⟩
              unfold stepS
              first
                | (rw [if_pos c11]; exact ⟨⟨_, _, rfl, .nil⟩, rfl, Jm.le.refl _⟩)
                | (rw [if_neg c11]; unfold stepOK; simp only; try rw [hxd]
                   repeat (first | rw [if_pos (by assumption)] | rw [if_neg (by assumption)])
                   first | exact ⟨⟨_, _, rfl, hO4⟩, rfl, hle4⟩ | exact ⟨⟨_, _, rfl, .nil⟩, rfl, hle4⟩ | exact ⟨⟨_, _, rfl, hN5⟩, rfl, hle4.trans hle5⟩)
             ·
              refine sq ?_
              refine WC.skip ?_
              refine sq ?_
              refine WC.draw rfl (by kernel_rfl) (plan := [.val 0, .val 1, .val 2, .val 3, .val 4, .chn 5, .val 6, .chk [3, 2, 1, 0], .chn 7]) (by kernel_rfl) ?_
              refine Da rfl V.fa ?_
              refine Da rfl V.ld ?_
              refine Da rfl V.ix ?_
              refine Da rfl V.ld ?_
              refine Da rfl V.fa ?_
              refine Ds rfl ?_
              refine Da rfl V.fa ?_
              refine WD.chk ck ?_
              refine Ds rfl ?_
              refine WD.nil ?_
              refine rg ?_
              refine Sa V.ldA ?_
              refine Ss ?_
              refine Sa V.asg ?_
              refine Wn ?_
              refine sq ?_
              refine WC.ret ?_
              refine' ⟨.inr rfl, rfl, _, [], .cell rfl (by repeat first | exact .head _ | refine .tail _ ?_ | refine List.mem_append_right _ ?_) (partA (tAg rfl) rfl) (.tmp rfl .nil), List.nil_sublist _, ?_⟩
              unfold stepS
              first
                | (rw [if_pos c11]; exact ⟨⟨_, _, rfl, .nil⟩, rfl, Jm.le.refl _⟩)
                | (rw [if_neg c11]; unfold stepOK; simp only; try rw [hxd]
                   repeat (first | rw [if_pos (by assumption)] | rw [if_neg (by assumption)])
                   first | exact ⟨⟨_, _, rfl, hO4⟩, rfl, hle4⟩ | exact ⟨⟨_, _, rfl, .nil⟩, rfl, hle4⟩ | exact ⟨⟨_, _, rfl, hN5⟩, rfl, hle4.trans hle5⟩)
            ·
             refine' WC.weak (l' := [(2, _), (3, _), (4, _), (7, _)]) ⟨rfl, rfl, rfl, rfl, trivial⟩ (List.Sublist.refl _) ?_
             refine sq ?_
             refine' WC.cutK 0 [(105, .bool (decide ((ph = 4 ∧ k = 4))))] ?cr18 ?dr18
             case cr18 =>
              refine WC.region ?_
              refine Sa V.fa ?_
              refine Sa V.ld ?_
              refine Sa V.vi ?_
              refine Sa V.mv ?_
              first | refine W.splitP (d := 109) rfl (fun gr18_3 => ?_) (fun gr18_3 => ?_) | refine W.split (d := 109) rfl (fun gr18_3 => ?_) (fun gr18_3 => ?_)
              ·
               refine Sb V.fa ?_
               refine Sb V.ld ?_
               refine Sb V.vi ?_
               refine Sa V.pk ?_
               refine Sa V.asg ?_
               refine Wn ?_
               refine' ⟨⟨_, rfl, ⟨?n105, rfl, rfl, rfl, rfl, trivial⟩⟩, List.Sublist.refl _, rfl⟩
               case n105 => first | exact cutT rfl (by first | omega | simp_all) | exact cutF rfl (by first | omega | simp_all) | exact cutI rfl (by first | omega | simp_all) | exact cutB rfl (by simp_all)
              ·
               refine Sn ?_
               refine Sn ?_
               refine Sn ?_
               refine Sa V.pk ?_
               refine Sa V.asg ?_
               refine Wn ?_
               refine' ⟨⟨_, rfl, ⟨?n105, rfl, rfl, rfl, rfl, trivial⟩⟩, List.Sublist.refl _, rfl⟩
               case n105 => first | exact cutT rfl (by first | omega | simp_all) | exact cutF rfl (by first | omega | simp_all) | exact cutI rfl (by first | omega | simp_all) | exact cutB rfl (by simp_all)
             case dr18 =>
              refine sq ?_
              first | refine WC.if rfl (fun c105 => ?_) (fun c105 => ?_) | refine WC.cond rfl (fun c105 => ?_) (fun c105 => ?_)
              ·
               have hl0 : 2 < N.length := by obtain ⟨_, rfl⟩ := c105; have : (counts 4).1 = 4 := rfl; omega
               obtain ⟨a, off, cells, e, rfl, hJ, hget⟩ := hra (by omega)
               obtain ⟨x, hx, hnx⟩ := hget 2 (by omega) (by omega)
               have hxd : N[2]?.getD 0 = x := by have hx : N[2]? = some x := hx; rw [hx]; rfl
               refine sq ?_
               refine WC.draw rfl (by kernel_rfl) (plan := [.val 0, .val 1, .val 2, .val 3, .val 4, .val 5, .val 6]) (by kernel_rfl) ?_
               refine Da rfl V.fa ?_
               refine Da rfl V.ld ?_
               refine Da rfl V.ix ?_
               refine Da rfl V.ld ?_
               refine Da rfl V.fa ?_
               refine Da rfl V.ld ?_
               refine Da rfl V.vi ?_
               refine WD.nil ?_
               refine sq ?_
               first | refine WC.if rfl (fun c120 => ?_) (fun c120 => ?_) | refine WC.cond rfl (fun c120 => ?_) (fun c120 => ?_)
               ·
                refine rg ?_
                refine Sa V.bd ?_
                refine Ss ?_
                refine Sa V.asg ?_
                refine Wn ?_
                refine sq ?_
                refine WC.ret ?_
                refine' ⟨.inr rfl, rfl, _, [], .cell rfl (by repeat first | exact .head _ | refine .tail _ ?_ | refine List.mem_append_right _ ?_) (partA (tAg rfl) rfl) (.tmp rfl .nil), List.nil_sublist _, ?_⟩
                unfold stepS
                first
                  | (rw [if_pos c11]; exact ⟨⟨_, _, rfl, .nil⟩, rfl, Jm.le.refl _⟩)
                  | (rw [if_neg c11]; unfold stepOK; simp only; try rw [hxd]
                     repeat (first | rw [if_pos (by assumption)] | rw [if_neg (by assumption)])
                     first | exact ⟨⟨_, _, rfl, hO4⟩, rfl, hle4⟩ | exact ⟨⟨_, _, rfl, .nil⟩, rfl, hle4⟩ | exact ⟨⟨_, _, rfl, hN5⟩, rfl, hle4.trans hle5⟩)
               ·
                refine sq ?_
                refine WC.skip ?_
                refine rg ?_
                refine Sa V.ldA ?_
                refine Ss ?_
                refine Sa V.asg ?_
                refine Wn ?_
                refine sq ?_
                refine WC.ret ?_
                refine' ⟨.inr rfl, rfl, _, [], .cell rfl (by repeat first | exact .head _ | refine .tail _ ?_ | refine List.mem_append_right _ ?_) (partA (tAg rfl) rfl) (.tmp rfl .nil), List.nil_sublist _, ?_⟩
                unfold stepS
                first
                  | (rw [if_pos c11]; exact ⟨⟨_, _, rfl, .nil⟩, rfl, Jm.le.refl _⟩)
                  | (rw [if_neg c11]; unfold stepOK; simp only; try rw [hxd]
                     repeat (first | rw [if_pos (by assumption)] | rw [if_neg (by assumption)])
                     first | exact ⟨⟨_, _, rfl, hO4⟩, rfl, hle4⟩ | exact ⟨⟨_, _, rfl, .nil⟩, rfl, hle4⟩ | exact ⟨⟨_, _, rfl, hN5⟩, rfl, hle4.trans hle5⟩)
              ·
               refine' WC.weak (l' := [(2, _), (3, _), (4, _), (7, _)]) ⟨rfl, rfl, rfl, rfl, trivial⟩ (List.Sublist.refl _) ?_
               refine sq ?_
               refine' WC.cutK 0 [(122, .bool (decide (((ph = 4 ∨ ph = 5) ∧ k = 6))))] ?cr21 ?dr21
               case cr21 =>
                refine WC.region ?_
                refine Sa V.fa ?_
                refine Sa V.ld ?_
                refine Sa V.vi ?_
                refine Sa V.mv ?_
                first | refine W.splitP (d := 126) rfl (fun gr21_3 => ?_) (fun gr21_3 => ?_) | refine W.split (d := 126) rfl (fun gr21_3 => ?_) (fun gr21_3 => ?_)
                ·
                 refine Sn ?_
                 refine Sn ?_
                 refine Sn ?_
                 refine Sa V.pk ?_
                 refine Sa V.mv ?_
                 refine Sb V.fa ?_
                 refine Sb V.ld ?_
                 refine Sb V.vi ?_
                 refine Sa V.pk ?_
                 refine Sa V.asg ?_
                 refine Wn ?_
                 refine' ⟨⟨_, rfl, ⟨?n122, rfl, rfl, rfl, rfl, trivial⟩⟩, List.Sublist.refl _, rfl⟩
                 case n122 => first | exact cutT rfl (by first | omega | simp_all) | exact cutF rfl (by first | omega | simp_all) | exact cutI rfl (by first | omega | simp_all) | exact cutB rfl (by simp_all)
                ·
                 refine Sb V.fa ?_
                 refine Sb V.ld ?_
                 refine Sb V.vi ?_
                 refine Sa V.pk ?_
                 refine Sa V.mv ?_
                 first | refine W.splitP (d := 131) rfl (fun gr21_8 => ?_) (fun gr21_8 => ?_) | refine W.split (d := 131) rfl (fun gr21_8 => ?_) (fun gr21_8 => ?_)
                 ·
                  refine Sb V.fa ?_
                  refine Sb V.ld ?_
                  refine Sb V.vi ?_
                  refine Sa V.pk ?_
                  refine Sa V.asg ?_
                  refine Wn ?_
                  refine' ⟨⟨_, rfl, ⟨?n122, rfl, rfl, rfl, rfl, trivial⟩⟩, List.Sublist.refl _, rfl⟩
                  case n122 => first | exact cutT rfl (by first | omega | simp_all) | exact cutF rfl (by first | omega | simp_all) | exact cutI rfl (by first | omega | simp_all) | exact cutB rfl (by simp_all)
                 ·
                  refine Sn ?_
                  refine Sn ?_
                  refine Sn ?_
                  refine Sa V.pk ?_
                  refine Sa V.asg ?_
                  refine Wn ?_
                  refine' ⟨⟨_, rfl, ⟨?n122, rfl, rfl, rfl, rfl, trivial⟩⟩, List.Sublist.refl _, rfl⟩
                  case n122 => first | exact cutT rfl (by first | omega | simp_all) | exact cutF rfl (by first | omega | simp_all) | exact cutI rfl (by first | omega | simp_all) | exact cutB rfl (by simp_all)
               case dr21 =>
                refine sq ?_
                first | refine WC.if rfl (fun c122 => ?_) (fun c122 => ?_) | refine WC.cond rfl (fun c122 => ?_) (fun c122 => ?_)
                ·
                 refine rg ?_
                 refine Sa V.fa ?_
                 refine Sa V.ld ?_
                 refine Sa V.ls ?_
                 refine Sa V.fa ?_
                 refine Sa V.ld ?_
                 refine Sa V.vi ?_
                 refine Wn ?_
                 refine sq ?_
                 first | refine WC.if rfl (fun c141 => ?_) (fun c141 => ?_) | refine WC.cond rfl (fun c141 => ?_) (fun c141 => ?_)
                 ·
                  refine rg ?_
                  refine Sa V.bd ?_
                  refine Ss ?_
                  refine Sa V.asg ?_
                  refine Wn ?_
                  refine sq ?_
                  refine WC.ret ?_
                  refine' ⟨.inr rfl, rfl, _, [], .cell rfl (by repeat first | exact .head _ | refine .tail _ ?_ | refine List.mem_append_right _ ?_) (partA (tAg rfl) rfl) (.tmp rfl .nil), List.nil_sublist _, ?_⟩
                  unfold stepS
                  first
                    | (rw [if_pos c11]; exact ⟨⟨_, _, rfl, .nil⟩, rfl, Jm.le.refl _⟩)
                    | (rw [if_neg c11]; unfold stepOK; simp only; try rw [hxd]
                       repeat (first | rw [if_pos (by assumption)] | rw [if_neg (by assumption)])
                       first | exact ⟨⟨_, _, rfl, hO4⟩, rfl, hle4⟩ | exact ⟨⟨_, _, rfl, .nil⟩, rfl, hle4⟩ | exact ⟨⟨_, _, rfl, hN5⟩, rfl, hle4.trans hle5⟩)
                 ·
                  refine sq ?_
                  refine WC.skip ?_
                  refine rg ?_
                  refine Sa V.ldA ?_
                  refine Ss ?_
                  refine Sa V.asg ?_
                  refine Wn ?_
                  refine sq ?_
                  refine WC.ret ?_
                  refine' ⟨.inr rfl, rfl, _, [], .cell rfl (by repeat first | exact .head _ | refine .tail _ ?_ | refine List.mem_append_right _ ?_) (partA (tAg rfl) rfl) (.tmp rfl .nil), List.nil_sublist _, ?_⟩
                  unfold stepS
                  first
                    | (rw [if_pos c11]; exact ⟨⟨_, _, rfl, .nil⟩, rfl, Jm.le.refl _⟩)
                    | (rw [if_neg c11]; unfold stepOK; simp only; try rw [hxd]
                       repeat (first | rw [if_pos (by assumption)] | rw [if_neg (by assumption)])
                       first | exact ⟨⟨_, _, rfl, hO4⟩, rfl, hle4⟩ | exact ⟨⟨_, _, rfl, .nil⟩, rfl, hle4⟩ | exact ⟨⟨_, _, rfl, hN5⟩, rfl, hle4.trans hle5⟩)
                ·
                 refine' WC.weak (l' := [(2, _), (3, _), (4, _), (7, _)]) ⟨rfl, rfl, rfl, rfl, trivial⟩ (List.Sublist.refl _) ?_
                 refine sq ?_
                 refine' WC.cutK 0 [(143, .bool (decide ((ph = 4 ∧ k = 5))))] ?cr24 ?dr24
                 case cr24 =>
                  refine WC.region ?_
                  refine Sa V.fa ?_
                  refine Sa V.ld ?_
                  refine Sa V.vi ?_
                  refine Sa V.mv ?_
                  first | refine W.splitP (d := 147) rfl (fun gr24_3 => ?_) (fun gr24_3 => ?_) | refine W.split (d := 147) rfl (fun gr24_3 => ?_) (fun gr24_3 => ?_)
                  ·
                   refine Sb V.fa ?_
                   refine Sb V.ld ?_
                   refine Sb V.vi ?_
                   refine Sa V.pk ?_
                   refine Sa V.asg ?_
                   refine Wn ?_
                   refine' ⟨⟨_, rfl, ⟨?n143, rfl, rfl, rfl, rfl, trivial⟩⟩, List.Sublist.refl _, rfl⟩
                   case n143 => first | exact cutT rfl (by first | omega | simp_all) | exact cutF rfl (by first | omega | simp_all) | exact cutI rfl (by first | omega | simp_all) | exact cutB rfl (by simp_all)
                  ·
                   refine Sn ?_
                   refine Sn ?_
                   refine Sn ?_
                   refine Sa V.pk ?_
                   refine Sa V.asg ?_
                   refine Wn ?_
                   refine' ⟨⟨_, rfl, ⟨?n143, rfl, rfl, rfl, rfl, trivial⟩⟩, List.Sublist.refl _, rfl⟩
                   case n143 => first | exact cutT rfl (by first | omega | simp_all) | exact cutF rfl (by first | omega | simp_all) | exact cutI rfl (by first | omega | simp_all) | exact cutB rfl (by simp_all)
                 case dr24 =>
                  refine sq ?_
                  first | refine WC.if rfl (fun c143 => ?_) (fun c143 => ?_) | refine WC.cond rfl (fun c143 => ?_) (fun c143 => ?_)
                  ·
                   obtain ⟨eN, hslN⟩ := id hN4
                   refine rg ?_
                   refine' W.step rfl (.of (x_buildSlice rfl rfl rfl rfl (sb22 Q g0) rfl rfl rfl fun a152 => ?_))
                   refine Sa V.fa ?_
                   refine Sa V.ld ?_
                   refine' W.step rfl (.of (x_accP rfl rfl rfl rfl rfl rfl (sb22 Q g0) (un22 Q g0) (fun i q => by cases q) ?hacc ?hm ?hx ?hnl ?hne ?hl fun w155 mo155 hacc155 => ?_))
                   case hacc => exact .emp _
                   case hm => rfl
                   case hx => exact hslN.rd
                   case hnl => simp
                   case hne => exact ints_one _
                   case hl => first | omega | (simp; omega)
                   rw [Nat.zero_add, List.nil_append] at hacc155
                   obtain ⟨b155, c155, rfl⟩ := hacc155.form
                   refine Sa V.fa ?_
                   refine Ss ?_
                   refine Sa V.fa ?_
                   refine Ss ?_
                   refine Wn ?_
                   refine Acc.pub hacc155 rfl (fun J5 hle5 hsl5 => ?_)
                   have hN5 : IntsR J5 (.slice b155 N.length c155) N := ⟨3, hsl5⟩
                   refine rg ?_
                   refine Sa V.ldA ?_
                   refine Ss ?_
                   refine Sa V.asg ?_
                   refine Wn ?_
                   refine sq ?_
                   refine WC.ret ?_
                   refine' ⟨.inr rfl, rfl, _, [], .cell rfl (by repeat first | exact .head _ | refine .tail _ ?_ | refine List.mem_append_right _ ?_) (partA (tAg rfl) rfl) (.tmp rfl .nil), List.nil_sublist _, ?_⟩
                   unfold stepS
                   first
                     | (rw [if_pos c11]; exact ⟨⟨_, _, rfl, .nil⟩, rfl, Jm.le.refl _⟩)
                     | (rw [if_neg c11]; unfold stepOK; simp only; try rw [hxd]
                        repeat (first | rw [if_pos (by assumption)] | rw [if_neg (by assumption)])
                        first | exact ⟨⟨_, _, rfl, hO4⟩, rfl, hle4⟩ | exact ⟨⟨_, _, rfl, .nil⟩, rfl, hle4⟩ | exact ⟨⟨_, _, rfl, hN5⟩, rfl, hle4.trans hle5⟩)
                  ·
                   refine' WC.weak (l' := [(2, _), (3, _), (4, _), (7, _)]) ⟨rfl, rfl, rfl, rfl, trivial⟩ (List.Sublist.refl _) ?_
                   refine sq ?_
                   refine' WC.cutK 0 [(158, .bool (decide ((ph = 5 ∧ k = 10))))] ?cr26 ?dr26
                   case cr26 =>
                    refine WC.region ?_
                    refine Sa V.fa ?_
                    refine Sa V.ld ?_
                    refine Sa V.vi ?_
                    refine Sa V.mv ?_
                    first | refine W.splitP (d := 162) rfl (fun gr26_3 => ?_) (fun gr26_3 => ?_) | refine W.split (d := 162) rfl (fun gr26_3 => ?_) (fun gr26_3 => ?_)
                    ·
                     refine Sb V.fa ?_
                     refine Sb V.ld ?_
                     refine Sb V.vi ?_
                     refine Sa V.pk ?_
                     refine Sa V.asg ?_
                     refine Wn ?_
                     refine' ⟨⟨_, rfl, ⟨?n158, rfl, rfl, rfl, rfl, trivial⟩⟩, List.Sublist.refl _, rfl⟩
                     case n158 => first | exact cutT rfl (by first | omega | simp_all) | exact cutF rfl (by first | omega | simp_all) | exact cutI rfl (by first | omega | simp_all) | exact cutB rfl (by simp_all)
                    ·
                     refine Sn ?_
                     refine Sn ?_
                     refine Sn ?_
                     refine Sa V.pk ?_
                     refine Sa V.asg ?_
                     refine Wn ?_
                     refine' ⟨⟨_, rfl, ⟨?n158, rfl, rfl, rfl, rfl, trivial⟩⟩, List.Sublist.refl _, rfl⟩
                     case n158 => first | exact cutT rfl (by first | omega | simp_all) | exact cutF rfl (by first | omega | simp_all) | exact cutI rfl (by first | omega | simp_all) | exact cutB rfl (by simp_all)
                   case dr26 =>
                    refine sq ?_
                    first | refine WC.if rfl (fun c158 => ?_) (fun c158 => ?_) | refine WC.cond rfl (fun c158 => ?_) (fun c158 => ?_)
                    ·
                     have hl0 : 0 < N.length := by obtain ⟨_, rfl⟩ := c158; have : (counts 10).1 = 1 := rfl; omega
                     obtain ⟨a, off, cells, e, rfl, hJ, hget⟩ := hra hl0
                     obtain ⟨x, hx, hnx⟩ := hget 0 (by omega) (by omega)
                     have hxd : N[0]?.getD 0 = x := by have hx : N[0]? = some x := hx; rw [hx]; rfl
                     refine sq ?_
                     refine WC.draw rfl (by kernel_rfl) (plan := [.val 0, .val 1, .val 2, .val 3, .val 4, .val 5, .chn 6, .val 7]) (by kernel_rfl) ?_
                     refine Da rfl V.fa ?_
                     refine Da rfl V.ld ?_
                     refine Da rfl V.fa ?_
                     refine Da rfl V.ld ?_
                     refine Da rfl V.ix ?_
                     refine Da rfl V.ld ?_
                     refine' WD.call rfl rfl rfl rfl rfl rfl rfl rfl rfl rfl (mi := []) (.refl _) trivial (has_fn (hO.mono hle4) hlO) ?_
                     rintro v m' J' hle ⟨rfl, rfl, rfl⟩
                     refine Da rfl V.nt ?_
                     refine WD.nil ?_
                     refine sq ?_
                     first | refine WC.if rfl (fun c174 => ?_) (fun c174 => ?_) | refine WC.cond rfl (fun c174 => ?_) (fun c174 => ?_)
                     ·
                      refine rg ?_
                      refine Sa V.bd ?_
                      refine Ss ?_
                      refine Sa V.asg ?_
                      refine Wn ?_
                      refine sq ?_
                      refine WC.ret ?_
                      refine' ⟨.inr rfl, rfl, _, [], .cell rfl (by repeat first | exact .head _ | refine .tail _ ?_ | refine List.mem_append_right _ ?_) (partA (tAg rfl) rfl) (.tmp rfl .nil), List.nil_sublist _, ?_⟩
                      unfold stepS
                      first
                        | (rw [if_pos c11]; exact ⟨⟨_, _, rfl, .nil⟩, rfl, Jm.le.refl _⟩)
                        | (rw [if_neg c11]; unfold stepOK; simp only; try rw [hxd]
                           repeat (first | rw [if_pos (by assumption)] | rw [if_neg (by assumption)])
                           first | exact ⟨⟨_, _, rfl, hO4⟩, rfl, hle4⟩ | exact ⟨⟨_, _, rfl, .nil⟩, rfl, hle4⟩ | exact ⟨⟨_, _, rfl, hN5⟩, rfl, hle4.trans hle5⟩)
                     ·
                      refine sq ?_
                      refine WC.skip ?_
                      refine rg ?_
                      refine Sa V.fa ?_
                      refine Ss ?_
                      refine Sa V.fa ?_
                      refine Ss ?_
                      refine Wn ?_
                      refine rg ?_
                      refine Sa V.ldA ?_
                      refine Ss ?_
                      refine Sa V.asg ?_
                      refine Wn ?_
                      refine sq ?_
                      refine WC.ret ?_
                      refine' ⟨.inr rfl, rfl, _, [], .cell rfl (by repeat first | exact .head _ | refine .tail _ ?_ | refine List.mem_append_right _ ?_) (partA (tAg rfl) rfl) (.tmp rfl .nil), List.nil_sublist _, ?_⟩
                      unfold stepS
                      first
                        | (rw [if_pos c11]; exact ⟨⟨_, _, rfl, .nil⟩, rfl, Jm.le.refl _⟩)
                        | (rw [if_neg c11]; unfold stepOK; simp only; try rw [hxd]
                           repeat (first | rw [if_pos (by assumption)] | rw [if_neg (by assumption)])
                           first | exact ⟨⟨_, _, rfl, hO4⟩, rfl, hle4⟩ | exact ⟨⟨_, _, rfl, .nil⟩, rfl, hle4⟩ | exact ⟨⟨_, _, rfl, hN5⟩, rfl, hle4.trans hle5⟩)
                    ·
                     refine' WC.weak (l' := [(2, _), (3, _), (4, _), (7, _)]) ⟨rfl, rfl, rfl, rfl, trivial⟩ (List.Sublist.refl _) ?_
                     refine sq ?_
                     refine' WC.cutK 0 [(178, .bool (decide ((ph = 4 ∧ k = 7))))] ?cr30 ?dr30
                     case cr30 =>
                      refine WC.region ?_
                      refine Sa V.fa ?_
                      refine Sa V.ld ?_
                      refine Sa V.vi ?_
                      refine Sa V.mv ?_
                      first | refine W.splitP (d := 182) rfl (fun gr30_3 => ?_) (fun gr30_3 => ?_) | refine W.split (d := 182) rfl (fun gr30_3 => ?_) (fun gr30_3 => ?_)
                      ·
                       refine Sb V.fa ?_
                       refine Sb V.ld ?_
                       refine Sb V.vi ?_
                       refine Sa V.pk ?_
                       refine Sa V.asg ?_
                       refine Wn ?_
                       refine' ⟨⟨_, rfl, ⟨?n178, rfl, rfl, rfl, rfl, trivial⟩⟩, List.Sublist.refl _, rfl⟩
                       case n178 => first | exact cutT rfl (by first | omega | simp_all) | exact cutF rfl (by first | omega | simp_all) | exact cutI rfl (by first | omega | simp_all) | exact cutB rfl (by simp_all)
                      ·
                       refine Sn ?_
                       refine Sn ?_
                       refine Sn ?_
                       refine Sa V.pk ?_
                       refine Sa V.asg ?_
                       refine Wn ?_
                       refine' ⟨⟨_, rfl, ⟨?n178, rfl, rfl, rfl, rfl, trivial⟩⟩, List.Sublist.refl _, rfl⟩
                       case n178 => first | exact cutT rfl (by first | omega | simp_all) | exact cutF rfl (by first | omega | simp_all) | exact cutI rfl (by first | omega | simp_all) | exact cutB rfl (by simp_all)
                     case dr30 =>
                      refine sq ?_
                      first | refine WC.if rfl (fun c178 => ?_) (fun c178 => ?_) | refine WC.cond rfl (fun c178 => ?_) (fun c178 => ?_)
                      ·
                       refine rg ?_
                       refine Sa V.fa ?_
                       refine Sa V.ld ?_
                       refine Sa V.ls ?_
                       refine Sa V.fa ?_
                       refine Sa V.ld ?_
                       refine Sa V.vi ?_
                       refine Wn ?_
                       refine sq ?_
                       first | refine WC.if rfl (fun c192 => ?_) (fun c192 => ?_) | refine WC.cond rfl (fun c192 => ?_) (fun c192 => ?_)
                       ·
                        refine rg ?_
                        refine Sa V.bd ?_
                        refine Ss ?_
                        refine Sa V.asg ?_
                        refine Wn ?_
                        refine sq ?_
                        refine WC.ret ?_
                        refine' ⟨.inr rfl, rfl, _, [], .cell rfl (by repeat first | exact .head _ | refine .tail _ ?_ | refine List.mem_append_right _ ?_) (partA (tAg rfl) rfl) (.tmp rfl .nil), List.nil_sublist _, ?_⟩
                        unfold stepS
                        first
                          | (rw [if_pos c11]; exact ⟨⟨_, _, rfl, .nil⟩, rfl, Jm.le.refl _⟩)
                          | (rw [if_neg c11]; unfold stepOK; simp only; try rw [hxd]
                             repeat (first | rw [if_pos (by assumption)] | rw [if_neg (by assumption)])
                             first | exact ⟨⟨_, _, rfl, hO4⟩, rfl, hle4⟩ | exact ⟨⟨_, _, rfl, .nil⟩, rfl, hle4⟩ | exact ⟨⟨_, _, rfl, hN5⟩, rfl, hle4.trans hle5⟩)
                       ·
                        refine sq ?_
                        refine WC.skip ?_
                        refine rg ?_
                        refine Sa V.fa ?_
                        refine Ss ?_
                        refine Wn ?_
                        refine rg ?_
                        refine Sa V.ldA ?_
                        refine Ss ?_
                        refine Sa V.asg ?_
                        refine Wn ?_
                        refine sq ?_
                        refine WC.ret ?_
                        refine' ⟨.inr rfl, rfl, _, [], .cell rfl (by repeat first | exact .head _ | refine .tail _ ?_ | refine List.mem_append_right _ ?_) (partA (tAg rfl) rfl) (.tmp rfl .nil), List.nil_sublist _, ?_⟩
                        unfold stepS
                        first
                          | (rw [if_pos c11]; exact ⟨⟨_, _, rfl, .nil⟩, rfl, Jm.le.refl _⟩)
                          | (rw [if_neg c11]; unfold stepOK; simp only; try rw [hxd]
                             repeat (first | rw [if_pos (by assumption)] | rw [if_neg (by assumption)])
                             first | exact ⟨⟨_, _, rfl, hO4⟩, rfl, hle4⟩ | exact ⟨⟨_, _, rfl, .nil⟩, rfl, hle4⟩ | exact ⟨⟨_, _, rfl, hN5⟩, rfl, hle4.trans hle5⟩)
                      ·
                       refine rg ?_
                       refine Sa V.bd ?_
                       refine Ss ?_
                       refine Sa V.asg ?_
                       refine Wn ?_
                       refine sq ?_
                       refine WC.ret ?_
                       refine' ⟨.inr rfl, rfl, _, [], .cell rfl (by repeat first | exact .head _ | refine .tail _ ?_ | refine List.mem_append_right _ ?_) (partA (tAg rfl) rfl) (.tmp rfl .nil), List.nil_sublist _, ?_⟩
                       unfold stepS
                       first
                         | (rw [if_pos c11]; exact ⟨⟨_, _, rfl, .nil⟩, rfl, Jm.le.refl _⟩)
                         | (rw [if_neg c11]; unfold stepOK; simp only; try rw [hxd]
                            repeat (first | rw [if_pos (by assumption)] | rw [if_neg (by assumption)])
                            first | exact ⟨⟨_, _, rfl, hO4⟩, rfl, hle4⟩ | exact ⟨⟨_, _, rfl, .nil⟩, rfl, hle4⟩ | exact ⟨⟨_, _, rfl, hN5⟩, rfl, hle4.trans hle5⟩)
end
end Go.Opn

/- A part of the proof of ProtocolBack. -/
import Derived.Test.YtaopiiohjbjgkaaGreatDoorWf
set_option maxRecDepth 100000
set_option linter.unusedVariables false
set_option linter.unusedSimpArgs false
namespace Go.Opn
open Go.Cre Go.RowKit Go.Proofs
section
variable {Q : Worlds Tryz.prog} {g0 : Nat} {J : Jm}
theorem byteVs_at {tx : List UInt8} {i : Nat} {b : UInt8} (h : tx[i]? = some b) : nth (byteVs tx) (0 + ((i : Nat) : Int).toNat * 1) = some (.int .u8 b.toNat) := by
  unfold byteVs; rw [nth_eq, List.getElem?_map]; simp [h]
abbrev tokR (k : Int) (tx : List UInt8) (n : Int) : PB := .row [.int .i64 k, .string ⟨⟨tx⟩⟩, .int .i64 n, .int .i64 0] 107
def WholeP (a : Nat) (k : Int) (tx : List UInt8) (J : Jm) : Value → Mm → Jm → Prop := fun w m' J' => (∃ e n, w = .int .i64 e ∧ m' = [(a, tokR k tx n)] ∧ (k = 1 → tx ≠ [] → tx.length ≤ 40 → e = 0 ∧ n = 0)) ∧ J.le J'
theorem whole_fn {s tx : List UInt8} {k : Int} {a : Nat} (ht : tx.length ≤ 140737488355328) : Fn (kx Q g0) 120 [.string ⟨⟨s⟩⟩, .pointer (some ⟨a, 0, none⟩)] [(a, .row [.int .i64 k, .string ⟨⟨tx⟩⟩, .int .i64 0, .int .i64 0] 107)] J (WholeP a k tx J) := by
  refine Fn.of_body (ftGet Tryz.func120) rfl rfl fun H => ?_
  refine rg ?_
  refine Sa V.asg ?_
  refine Wn ?_
  refine rg ?_
  refine Sa V.mv ?_
  refine Sa V.nc ?_
  refine Sa V.fa ?_
  refine Sa V.ld ?_
  refine Sa V.se ?_
  refine Sa V.mv ?_
  first | refine W.splitP (d := 12) rfl (fun gr1_5 => ?_) (fun gr1_5 => ?_) | refine W.split (d := 12) rfl (fun gr1_5 => ?_) (fun gr1_5 => ?_)
  ·
   refine Sn ?_
   refine Sn ?_
   refine Sn ?_
   refine Sn ?_
   refine Sn ?_
   refine Sn ?_
   refine Su ?_
   refine Su ?_
   refine Su ?_
   refine Su ?_
   refine Su ?_
   refine Sn ?_
   refine Sn ?_
   refine Su ?_
   refine Su ?_
   refine Su ?_
   refine Su ?_
   refine Su ?_
   refine Su ?_
   refine Su ?_
   refine W.guardU rfl rfl rfl rfl ?_
   refine Su ?_
   refine Sn ?_
   refine Sa V.pk ?_
   refine Wn ?_
   refine sq ?_
   refine WC.condT rfl ?_
   refine rg ?_
   refine Sa V.asg ?_
   refine Wn ?_
   refine sq ?_
   refine WC.ret ?_
   refine' ⟨.inr rfl, rfl, _, _, .tmp rfl .nil, List.Sublist.refl _, ?_⟩
   refine ⟨⟨_, _, rfl, rfl, ?_⟩, ?_⟩
   · intro h1 h2 h3
     first
       | exact ⟨rfl, rfl⟩
       | (exfalso; omega)
       | exact absurd gr1_5 h2
   · first | exact Jm.le.refl _ | assumption
  ·
   refine Sb V.mv ?_
   refine Sb V.nc ?_
   refine Sb V.fa ?_
   refine Sb V.ld ?_
   refine Sb V.vi ?_
   refine Sb V.mv ?_
   first | refine W.splitP (d := 18) rfl (fun gr1_11 => ?_) (fun gr1_11 => ?_) | refine W.split (d := 18) rfl (fun gr1_11 => ?_) (fun gr1_11 => ?_)
   ·
    refine Sb V.mv ?_
    refine Sb V.nc ?_
    refine Sb V.fa ?_
    refine Sb V.ld ?_
    refine Sb V.vi ?_
    refine Sb V.pk ?_
    refine Sb V.mv ?_
    first | refine W.splitP (d := 25) rfl (fun gr1_18 => ?_) (fun gr1_18 => ?_) | refine W.split (d := 25) rfl (fun gr1_18 => ?_) (fun gr1_18 => ?_)
    ·
     exfalso; omega
    ·
     refine Sn ?_
     refine Sn ?_
     refine Sn ?_
     refine Sn ?_
     refine Sn ?_
     refine Sn ?_
     refine Sn ?_
     refine W.guardN rfl rfl rfl rfl rfl ?_
     refine Sn ?_
     refine Sb V.pk ?_
     refine Sa V.pk ?_
     refine Wn ?_
     refine sq ?_
     refine WC.condF rfl ?_
     refine sq ?_
     refine WC.skip ?_
     refine rg ?_
     refine Sa V.mv ?_
     refine Sa V.nc ?_
     refine Sa V.fa ?_
     refine Sa V.ld ?_
     refine Sa V.vi ?_
     refine Sa V.mv ?_
     first | refine W.splitP (d := 42) rfl (fun gr3_5 => ?_) (fun gr3_5 => ?_) | refine W.split (d := 42) rfl (fun gr3_5 => ?_) (fun gr3_5 => ?_)
     ·
      refine Sb V.mv ?_
      refine Sb V.nc ?_
      refine Sb V.fa ?_
      refine Sb V.ld ?_
      refine Sb V.lS ?_
      refine Sb V.vi ?_
      refine Sa V.pk ?_
      refine Wn ?_
      refine sq ?_
      first | refine WC.if rfl (fun c49 => ?_) (fun c49 => ?_) | refine WC.cond rfl (fun c49 => ?_) (fun c49 => ?_)
      ·
       refine rg ?_
       refine Sa V.asg ?_
       refine Wn ?_
       refine sq ?_
       refine WC.ret ?_
       refine' ⟨.inr rfl, rfl, _, _, .tmp rfl .nil, List.Sublist.refl _, ?_⟩
       refine ⟨⟨_, _, rfl, rfl, ?_⟩, ?_⟩
       · intro h1 h2 h3
         first
           | exact ⟨rfl, rfl⟩
           | (exfalso; omega)
           | exact absurd gr1_5 h2
       · first | exact Jm.le.refl _ | assumption
      ·
       refine sq ?_
       refine WC.skip ?_
       refine rg ?_
       refine Sa V.mv ?_
       refine Sa V.nc ?_
       refine Sa V.fa ?_
       refine Sa V.ld ?_
       refine Sa V.vi ?_
       refine Wn ?_
       refine sq ?_
       first | refine WC.if rfl (fun c54 => ?_) (fun c54 => ?_) | refine WC.cond rfl (fun c54 => ?_) (fun c54 => ?_)
       ·
        refine rg ?_
        refine Sa V.asg ?_
        refine Wn ?_
        refine sq ?_
        refine WC.ret ?_
        refine' ⟨.inr rfl, rfl, _, _, .tmp rfl .nil, List.Sublist.refl _, ?_⟩
        refine ⟨⟨_, _, rfl, rfl, ?_⟩, ?_⟩
        · intro h1 h2 h3
          first
            | exact ⟨rfl, rfl⟩
            | (exfalso; omega)
            | exact absurd gr1_5 h2
        · first | exact Jm.le.refl _ | assumption
       ·
        refine sq ?_
        refine WC.skip ?_
        refine rg ?_
        refine Sa V.mv ?_
        refine Sa V.nc ?_
        refine Sa V.fa ?_
        refine Sa V.ld ?_
        refine Sa V.lS ?_
        refine Sa V.vi ?_
        refine Sa V.mv ?_
        first | refine W.splitP (d := 61) rfl (fun gr7_6 => ?_) (fun gr7_6 => ?_) | refine W.split (d := 61) rfl (fun gr7_6 => ?_) (fun gr7_6 => ?_)
        ·
         obtain ⟨b, hb, hb'⟩ := get_at tx 0 (by omega)
         refine Sb V.mv ?_
         refine Sb V.nc ?_
         refine Sb V.fa ?_
         refine Sb V.ld ?_
         refine Sb V.iS ?_
         refine Sb V.vi ?_
         refine Sa V.pk ?_
         refine Wn ?_
         refine sq ?_
         first | refine WC.if rfl (fun c68 => ?_) (fun c68 => ?_) | refine WC.cond rfl (fun c68 => ?_) (fun c68 => ?_)
         ·
          refine rg ?_
          refine Sa V.asg ?_
          refine Wn ?_
          refine sq ?_
          refine WC.ret ?_
          refine' ⟨.inr rfl, rfl, _, _, .tmp rfl .nil, List.Sublist.refl _, ?_⟩
          refine ⟨⟨_, _, rfl, rfl, ?_⟩, ?_⟩
          · intro h1 h2 h3
            first
              | exact ⟨rfl, rfl⟩
              | (exfalso; omega)
              | exact absurd gr1_5 h2
          · first | exact Jm.le.refl _ | assumption
         ·
          refine sq ?_
          refine WC.skip ?_
          refine rg ?_
          refine Sa V.mv ?_
          refine Sa V.nc ?_
          refine Sa V.fa ?_
          refine Sa V.ld ?_
          refine' W.step rfl (.of (x_strBytes rfl rfl rfl rfl (sr9_89 Q g0) fun a73 J73 hle73 hJ73 => ?_))
          refine Sa V.ls ?_
          refine Sa V.mv ?_
          refine Wn ?_
          refine sq ?_
          refine WC.block ?_
          refine' WC.weak (l' := [(75, .int .i64 ((0) : Int)), (1, _), (73, _), (74, _)]) ⟨?w75, rfl, rfl, rfl, trivial⟩ (List.Sublist.refl _) ?_
          case w75 => first | rfl | exact congrArg some (congrArg (Value.int .i64) (by omega))
          refine sq ?_
          refine' WC.loopG (α := (Nat) × (Int)) (fun (gh_ : (Nat) × (Int)) => match gh_ with | (i, x) => [(75, .int .i64 (i : Int))]) (fun (gh_ : (Nat) × (Int)) => match gh_ with | (i, x) => [(a, PB.row [.int .i64 k, .string ⟨⟨tx⟩⟩, .int .i64 x, .int .i64 0] 107)]) (fun (gh_ : (Nat) × (Int)) => match gh_ with | (i, x) => J73) (fun (gh_ : (Nat) × (Int)) => match gh_ with | (i, x) => i ≤ tx.length) (fun (gh_ : (Nat) × (Int)) => match gh_ with | (i, x) => tx.length - i) ⟨0, 0⟩ ?hs ?hstep
          case hs => omega
          case hstep =>
           rintro ⟨i, x⟩ hinv
           try simp only at hinv
           refine rg ?_
           refine Sa V.vi ?_
           refine Wn ?_
           refine sq ?_
           first | refine WC.if rfl (fun c76 => ?_) (fun c76 => ?_) | refine WC.cond rfl (fun c76 => ?_) (fun c76 => ?_)
           ·
            have hlt : i < tx.length := by omega
            obtain ⟨b, hb, hb'⟩ := get_at tx i hlt
            have hbv := byteVs_at hb'
            refine sq ?_
            refine WC.skip ?_
            refine sq ?_
            refine WC.block ?_
            refine rg ?_
            refine Sa V.ix ?_
            refine Sa V.ld ?_
            refine Sa V.asg ?_
            refine Wn ?_
            refine rg ?_
            refine Sa V.mv ?_
            refine Sa V.mv ?_
            refine Sa V.nc ?_
            refine Sa V.fa ?_
            refine Sa V.ld ?_
            refine Sa V.va ?_
            refine Sa V.mv ?_
            refine Sa V.va ?_
            refine Sa V.cv ?_
            refine Sa V.va ?_
            refine Sa V.nc ?_
            refine Sa V.fa ?_
            refine Ss ?_
            refine Wn ?_
            refine rg ?_
            refine Sa V.mv ?_
            refine Sa V.nc ?_
            refine Sa V.fa ?_
            refine Sa V.ld ?_
            refine Sa V.vi ?_
            refine Wn ?_
            refine sq ?_
            first | refine WC.if rfl (fun c95 => ?_) (fun c95 => ?_) | refine WC.cond rfl (fun c95 => ?_) (fun c95 => ?_)
            ·
             refine rg ?_
             refine Sa V.asg ?_
             refine Wn ?_
             refine sq ?_
             refine WC.ret ?_
             refine' ⟨.inr rfl, rfl, _, _, .tmp rfl .nil, List.Sublist.refl _, ?_⟩
             refine ⟨⟨_, _, rfl, rfl, ?_⟩, ?_⟩
             · intro h1 h2 h3
               first
                 | exact ⟨rfl, rfl⟩
                 | (exfalso; omega)
                 | exact absurd gr1_5 h2
             · first | exact Jm.le.refl _ | assumption
            ·
             refine sq ?_
             refine WC.skip ?_
             refine rg ?_
             refine Sa V.va ?_
             refine Sa V.mv ?_
             refine Wn ?_
             refine' ⟨⟨i + 1, _⟩, _, ?hinv, ?hmeas, rfl, ⟨?m75, rfl, rfl, rfl, trivial⟩, List.Sublist.refl _, rfl⟩
             case m75 => first | rfl | exact congrArg some (congrArg (Value.int .i64) (by omega))
             case hmeas => first | omega | (simp only; omega)
             case hinv => omega
           ·
            refine sq ?_
            refine WC.exit ?_
            refine rg ?_
            refine Sa V.asg ?_
            refine Wn ?_
            refine sq ?_
            refine WC.ret ?_
            refine' ⟨.inr rfl, rfl, _, _, .tmp rfl .nil, List.Sublist.refl _, ?_⟩
            refine ⟨⟨_, _, rfl, rfl, ?_⟩, ?_⟩
            · intro h1 h2 h3
              first
                | exact ⟨rfl, rfl⟩
                | (exfalso; omega)
                | exact absurd gr1_5 h2
            · first | exact Jm.le.refl _ | assumption
        ·
         refine Sn ?_
         refine Sn ?_
         refine Sn ?_
         refine Sn ?_
         refine Sn ?_
         refine Sn ?_
         refine Sa V.pk ?_
         refine Wn ?_
         refine sq ?_
         refine WC.condF rfl ?_
         refine sq ?_
         refine WC.skip ?_
         refine rg ?_
         refine Sa V.mv ?_
         refine Sa V.nc ?_
         refine Sa V.fa ?_
         refine Sa V.ld ?_
         refine' W.step rfl (.of (x_strBytes rfl rfl rfl rfl (sr9_89 Q g0) fun a73 J73 hle73 hJ73 => ?_))
         refine Sa V.ls ?_
         refine Sa V.mv ?_
         refine Wn ?_
         refine sq ?_
         refine WC.block ?_
         refine' WC.weak (l' := [(75, .int .i64 ((0) : Int)), (1, _), (73, _), (74, _)]) ⟨?w75, rfl, rfl, rfl, trivial⟩ (List.Sublist.refl _) ?_
         case w75 => first | rfl | exact congrArg some (congrArg (Value.int .i64) (by omega))
         refine sq ?_
         refine' WC.loopG (α := (Nat) × (Int)) (fun (gh_ : (Nat) × (Int)) => match gh_ with | (i, x) => [(75, .int .i64 (i : Int))]) (fun (gh_ : (Nat) × (Int)) => match gh_ with | (i, x) => [(a, PB.row [.int .i64 k, .string ⟨⟨tx⟩⟩, .int .i64 x, .int .i64 0] 107)]) (fun (gh_ : (Nat) × (Int)) => match gh_ with | (i, x) => J73) (fun (gh_ : (Nat) × (Int)) => match gh_ with | (i, x) => i ≤ tx.length) (fun (gh_ : (Nat) × (Int)) => match gh_ with | (i, x) => tx.length - i) ⟨0, 0⟩ ?hs ?hstep
         case hs => omega
         case hstep =>
          rintro ⟨i, x⟩ hinv
          try simp only at hinv
          refine rg ?_
          refine Sa V.vi ?_
          refine Wn ?_
          refine sq ?_
          first | refine WC.if rfl (fun c76 => ?_) (fun c76 => ?_) | refine WC.cond rfl (fun c76 => ?_) (fun c76 => ?_)
          ·
           have hlt : i < tx.length := by omega
           obtain ⟨b, hb, hb'⟩ := get_at tx i hlt
           have hbv := byteVs_at hb'
           refine sq ?_
           refine WC.skip ?_
           refine sq ?_
           refine WC.block ?_
           refine rg ?_
           refine Sa V.ix ?_
           refine Sa V.ld ?_
           refine Sa V.asg ?_
           refine Wn ?_
           refine rg ?_
           refine Sa V.mv ?_
           refine Sa V.mv ?_
           refine Sa V.nc ?_
           refine Sa V.fa ?_
           refine Sa V.ld ?_
           refine Sa V.va ?_
           refine Sa V.mv ?_
           refine Sa V.va ?_
           refine Sa V.cv ?_
           refine Sa V.va ?_
           refine Sa V.nc ?_
           refine Sa V.fa ?_
           refine Ss ?_
           refine Wn ?_
           refine rg ?_
           refine Sa V.mv ?_
           refine Sa V.nc ?_
           refine Sa V.fa ?_
           refine Sa V.ld ?_
           refine Sa V.vi ?_
           refine Wn ?_
           refine sq ?_
           first | refine WC.if rfl (fun c95 => ?_) (fun c95 => ?_) | refine WC.cond rfl (fun c95 => ?_) (fun c95 => ?_)
           ·
            refine rg ?_
            refine Sa V.asg ?_
            refine Wn ?_
            refine sq ?_
            refine WC.ret ?_
            refine' ⟨.inr rfl, rfl, _, _, .tmp rfl .nil, List.Sublist.refl _, ?_⟩
            refine ⟨⟨_, _, rfl, rfl, ?_⟩, ?_⟩
            · intro h1 h2 h3
              first
                | exact ⟨rfl, rfl⟩
                | (exfalso; omega)
                | exact absurd gr1_5 h2
            · first | exact Jm.le.refl _ | assumption
           ·
            refine sq ?_
            refine WC.skip ?_
            refine rg ?_
            refine Sa V.va ?_
            refine Sa V.mv ?_
            refine Wn ?_
            refine' ⟨⟨i + 1, _⟩, _, ?hinv, ?hmeas, rfl, ⟨?m75, rfl, rfl, rfl, trivial⟩, List.Sublist.refl _, rfl⟩
            case m75 => first | rfl | exact congrArg some (congrArg (Value.int .i64) (by omega))
            case hmeas => first | omega | (simp only; omega)
            case hinv => omega
          ·
           refine sq ?_
           refine WC.exit ?_
           refine rg ?_
           refine Sa V.asg ?_
           refine Wn ?_
           refine sq ?_
           refine WC.ret ?_
           refine' ⟨.inr rfl, rfl, _, _, .tmp rfl .nil, List.Sublist.refl _, ?_⟩
           refine ⟨⟨_, _, rfl, rfl, ?_⟩, ?_⟩
           · intro h1 h2 h3
             first
               | exact ⟨rfl, rfl⟩
               | (exfalso; omega)
               | exact absurd gr1_5 h2
           · first | exact Jm.le.refl _ | assumption
     ·
      refine Sn ?_
      refine Sn ?_
      refine Sn ?_
      refine Sn ?_
      refine Sn ?_
      refine Sn ?_
      refine Sa V.pk ?_
      refine Wn ?_
      refine sq ?_
      refine WC.condF rfl ?_
      refine sq ?_
      refine WC.skip ?_
      refine rg ?_
      refine Sa V.mv ?_
      refine Sa V.nc ?_
      refine Sa V.fa ?_
      refine Sa V.ld ?_
      refine Sa V.vi ?_
      refine Wn ?_
      refine sq ?_
      first | refine WC.if rfl (fun c54 => ?_) (fun c54 => ?_) | refine WC.cond rfl (fun c54 => ?_) (fun c54 => ?_)
      ·
       refine rg ?_
       refine Sa V.asg ?_
       refine Wn ?_
       refine sq ?_
       refine WC.ret ?_
       refine' ⟨.inr rfl, rfl, _, _, .tmp rfl .nil, List.Sublist.refl _, ?_⟩
       refine ⟨⟨_, _, rfl, rfl, ?_⟩, ?_⟩
       · intro h1 h2 h3
         first
           | exact ⟨rfl, rfl⟩
           | (exfalso; omega)
           | exact absurd gr1_5 h2
       · first | exact Jm.le.refl _ | assumption
      ·
       refine sq ?_
       refine WC.skip ?_
       refine rg ?_
       refine Sa V.mv ?_
       refine Sa V.nc ?_
       refine Sa V.fa ?_
       refine Sa V.ld ?_
       refine Sa V.lS ?_
       refine Sa V.vi ?_
       refine Sa V.mv ?_
       first | refine W.splitP (d := 61) rfl (fun gr7_6 => ?_) (fun gr7_6 => ?_) | refine W.split (d := 61) rfl (fun gr7_6 => ?_) (fun gr7_6 => ?_)
       ·
        obtain ⟨b, hb, hb'⟩ := get_at tx 0 (by omega)
        refine Sb V.mv ?_
        refine Sb V.nc ?_
        refine Sb V.fa ?_
        refine Sb V.ld ?_
        refine Sb V.iS ?_
        refine Sb V.vi ?_
        refine Sa V.pk ?_
        refine Wn ?_
        refine sq ?_
        first | refine WC.if rfl (fun c68 => ?_) (fun c68 => ?_) | refine WC.cond rfl (fun c68 => ?_) (fun c68 => ?_)
        ·
         refine rg ?_
         refine Sa V.asg ?_
         refine Wn ?_
         refine sq ?_
         refine WC.ret ?_
         refine' ⟨.inr rfl, rfl, _, _, .tmp rfl .nil, List.Sublist.refl _, ?_⟩
         refine ⟨⟨_, _, rfl, rfl, ?_⟩, ?_⟩
         · intro h1 h2 h3
           first
             | exact ⟨rfl, rfl⟩
             | (exfalso; omega)
             | exact absurd gr1_5 h2
         · first | exact Jm.le.refl _ | assumption
        ·
         refine sq ?_
         refine WC.skip ?_
         refine rg ?_
         refine Sa V.mv ?_
         refine Sa V.nc ?_
         refine Sa V.fa ?_
         refine Sa V.ld ?_
         refine' W.step rfl (.of (x_strBytes rfl rfl rfl rfl (sr9_89 Q g0) fun a73 J73 hle73 hJ73 => ?_))
         refine Sa V.ls ?_
         refine Sa V.mv ?_
         refine Wn ?_
         refine sq ?_
         refine WC.block ?_
         refine' WC.weak (l' := [(75, .int .i64 ((0) : Int)), (1, _), (73, _), (74, _)]) ⟨?w75, rfl, rfl, rfl, trivial⟩ (List.Sublist.refl _) ?_
         case w75 => first | rfl | exact congrArg some (congrArg (Value.int .i64) (by omega))
         refine sq ?_
         refine' WC.loopG (α := (Nat) × (Int)) (fun (gh_ : (Nat) × (Int)) => match gh_ with | (i, x) => [(75, .int .i64 (i : Int))]) (fun (gh_ : (Nat) × (Int)) => match gh_ with | (i, x) => [(a, PB.row [.int .i64 k, .string ⟨⟨tx⟩⟩, .int .i64 x, .int .i64 0] 107)]) (fun (gh_ : (Nat) × (Int)) => match gh_ with | (i, x) => J73) (fun (gh_ : (Nat) × (Int)) => match gh_ with | (i, x) => i ≤ tx.length) (fun (gh_ : (Nat) × (Int)) => match gh_ with | (i, x) => tx.length - i) ⟨0, 0⟩ ?hs ?hstep
         case hs => omega
         case hstep =>
          rintro ⟨i, x⟩ hinv
          try simp only at hinv
          refine rg ?_
          refine Sa V.vi ?_
          refine Wn ?_
          refine sq ?_
          first | refine WC.if rfl (fun c76 => ?_) (fun c76 => ?_) | refine WC.cond rfl (fun c76 => ?_) (fun c76 => ?_)
          ·
           have hlt : i < tx.length := by omega
           obtain ⟨b, hb, hb'⟩ := get_at tx i hlt
           have hbv := byteVs_at hb'
           refine sq ?_
           refine WC.skip ?_
           refine sq ?_
           refine WC.block ?_
           refine rg ?_
           refine Sa V.ix ?_
           refine Sa V.ld ?_
           refine Sa V.asg ?_
           refine Wn ?_
           refine rg ?_
           refine Sa V.mv ?_
           refine Sa V.mv ?_
           refine Sa V.nc ?_
           refine Sa V.fa ?_
           refine Sa V.ld ?_
           refine Sa V.va ?_
           refine Sa V.mv ?_
           refine Sa V.va ?_
           refine Sa V.cv ?_
           refine Sa V.va ?_
           refine Sa V.nc ?_
           refine Sa V.fa ?_
           refine Ss ?_
           refine Wn ?_
           refine rg ?_
           refine Sa V.mv ?_
           refine Sa V.nc ?_
           refine Sa V.fa ?_
           refine Sa V.ld ?_
           refine Sa V.vi ?_
           refine Wn ?_
           refine sq ?_
           first | refine WC.if rfl (fun c95 => ?_) (fun c95 => ?_) | refine WC.cond rfl (fun c95 => ?_) (fun c95 => ?_)
           ·
            refine rg ?_
            refine Sa V.asg ?_
            refine Wn ?_
            refine sq ?_
            refine WC.ret ?_
            refine' ⟨.inr rfl, rfl, _, _, .tmp rfl .nil, List.Sublist.refl _, ?_⟩
            refine ⟨⟨_, _, rfl, rfl, ?_⟩, ?_⟩
            · intro h1 h2 h3
              first
                | exact ⟨rfl, rfl⟩
                | (exfalso; omega)
                | exact absurd gr1_5 h2
            · first | exact Jm.le.refl _ | assumption
           ·
            refine sq ?_
            refine WC.skip ?_
            refine rg ?_
            refine Sa V.va ?_
            refine Sa V.mv ?_
            refine Wn ?_
            refine' ⟨⟨i + 1, _⟩, _, ?hinv, ?hmeas, rfl, ⟨?m75, rfl, rfl, rfl, trivial⟩, List.Sublist.refl _, rfl⟩
            case m75 => first | rfl | exact congrArg some (congrArg (Value.int .i64) (by omega))
            case hmeas => first | omega | (simp only; omega)
            case hinv => omega
          ·
           refine sq ?_
           refine WC.exit ?_
           refine rg ?_
           refine Sa V.asg ?_
           refine Wn ?_
           refine sq ?_
           refine WC.ret ?_
           refine' ⟨.inr rfl, rfl, _, _, .tmp rfl .nil, List.Sublist.refl _, ?_⟩
           refine ⟨⟨_, _, rfl, rfl, ?_⟩, ?_⟩
           · intro h1 h2 h3
             first
               | exact ⟨rfl, rfl⟩
               | (exfalso; omega)
               | exact absurd gr1_5 h2
           · first | exact Jm.le.refl _ | assumption
       ·
        refine Sn ?_
        refine Sn ?_
        refine Sn ?_
        refine Sn ?_
        refine Sn ?_
        refine Sn ?_
        refine Sa V.pk ?_
        refine Wn ?_
        refine sq ?_
        refine WC.condF rfl ?_
        refine sq ?_
        refine WC.skip ?_
        refine rg ?_
        refine Sa V.mv ?_
        refine Sa V.nc ?_
        refine Sa V.fa ?_
        refine Sa V.ld ?_
        refine' W.step rfl (.of (x_strBytes rfl rfl rfl rfl (sr9_89 Q g0) fun a73 J73 hle73 hJ73 => ?_))
        refine Sa V.ls ?_
        refine Sa V.mv ?_
        refine Wn ?_
        refine sq ?_
        refine WC.block ?_
        refine' WC.weak (l' := [(75, .int .i64 ((0) : Int)), (1, _), (73, _), (74, _)]) ⟨?w75, rfl, rfl, rfl, trivial⟩ (List.Sublist.refl _) ?_
        case w75 => first | rfl | exact congrArg some (congrArg (Value.int .i64) (by omega))
        refine sq ?_
        refine' WC.loopG (α := (Nat) × (Int)) (fun (gh_ : (Nat) × (Int)) => match gh_ with | (i, x) => [(75, .int .i64 (i : Int))]) (fun (gh_ : (Nat) × (Int)) => match gh_ with | (i, x) => [(a, PB.row [.int .i64 k, .string ⟨⟨tx⟩⟩, .int .i64 x, .int .i64 0] 107)]) (fun (gh_ : (Nat) × (Int)) => match gh_ with | (i, x) => J73) (fun (gh_ : (Nat) × (Int)) => match gh_ with | (i, x) => i ≤ tx.length) (fun (gh_ : (Nat) × (Int)) => match gh_ with | (i, x) => tx.length - i) ⟨0, 0⟩ ?hs ?hstep
        case hs => omega
        case hstep =>
         rintro ⟨i, x⟩ hinv
         try simp only at hinv
         refine rg ?_
         refine Sa V.vi ?_
         refine Wn ?_
         refine sq ?_
         first | refine WC.if rfl (fun c76 => ?_) (fun c76 => ?_) | refine WC.cond rfl (fun c76 => ?_) (fun c76 => ?_)
         ·
          have hlt : i < tx.length := by omega
          obtain ⟨b, hb, hb'⟩ := get_at tx i hlt
          have hbv := byteVs_at hb'
          refine sq ?_
          refine WC.skip ?_
          refine sq ?_
          refine WC.block ?_
          refine rg ?_
          refine Sa V.ix ?_
          refine Sa V.ld ?_
          refine Sa V.asg ?_
          refine Wn ?_
          refine rg ?_
          refine Sa V.mv ?_
          refine Sa V.mv ?_
          refine Sa V.nc ?_
          refine Sa V.fa ?_
          refine Sa V.ld ?_
          refine Sa V.va ?_
          refine Sa V.mv ?_
          refine Sa V.va ?_
          refine Sa V.cv ?_
          refine Sa V.va ?_
          refine Sa V.nc ?_
          refine Sa V.fa ?_
          refine Ss ?_
          refine Wn ?_
          refine rg ?_
          refine Sa V.mv ?_
          refine Sa V.nc ?_
          refine Sa V.fa ?_
          refine Sa V.ld ?_
          refine Sa V.vi ?_
          refine Wn ?_
          refine sq ?_
          first | refine WC.if rfl (fun c95 => ?_) (fun c95 => ?_) | refine WC.cond rfl (fun c95 => ?_) (fun c95 => ?_)
          ·
           refine rg ?_
           refine Sa V.asg ?_
           refine Wn ?_
           refine sq ?_
           refine WC.ret ?_
           refine' ⟨.inr rfl, rfl, _, _, .tmp rfl .nil, List.Sublist.refl _, ?_⟩
           refine ⟨⟨_, _, rfl, rfl, ?_⟩, ?_⟩
           · intro h1 h2 h3
             first
               | exact ⟨rfl, rfl⟩
               | (exfalso; omega)
               | exact absurd gr1_5 h2
           · first | exact Jm.le.refl _ | assumption
          ·
           refine sq ?_
           refine WC.skip ?_
           refine rg ?_
           refine Sa V.va ?_
           refine Sa V.mv ?_
           refine Wn ?_
           refine' ⟨⟨i + 1, _⟩, _, ?hinv, ?hmeas, rfl, ⟨?m75, rfl, rfl, rfl, trivial⟩, List.Sublist.refl _, rfl⟩
           case m75 => first | rfl | exact congrArg some (congrArg (Value.int .i64) (by omega))
           case hmeas => first | omega | (simp only; omega)
           case hinv => omega
         ·
          refine sq ?_
          refine WC.exit ?_
          refine rg ?_
          refine Sa V.asg ?_
          refine Wn ?_
          refine sq ?_
          refine WC.ret ?_
          refine' ⟨.inr rfl, rfl, _, _, .tmp rfl .nil, List.Sublist.refl _, ?_⟩
          refine ⟨⟨_, _, rfl, rfl, ?_⟩, ?_⟩
          · intro h1 h2 h3
            first
              | exact ⟨rfl, rfl⟩
              | (exfalso; omega)
              | exact absurd gr1_5 h2
          · first | exact Jm.le.refl _ | assumption
   ·
    refine Sn ?_
    refine Sn ?_
    refine Sn ?_
    refine Sn ?_
    refine Sn ?_
    refine Sb V.pk ?_
    refine Sb V.mv ?_
    refine Sn ?_
    refine Sn ?_
    refine Sn ?_
    refine Sn ?_
    refine Sn ?_
    refine Sn ?_
    refine Sn ?_
    refine W.guardN rfl rfl rfl rfl rfl ?_
    refine Sn ?_
    refine Sb V.pk ?_
    refine Sa V.pk ?_
    refine Wn ?_
    refine sq ?_
    refine WC.condF rfl ?_
    refine sq ?_
    refine WC.skip ?_
    refine rg ?_
    refine Sa V.mv ?_
    refine Sa V.nc ?_
    refine Sa V.fa ?_
    refine Sa V.ld ?_
    refine Sa V.vi ?_
    refine Sa V.mv ?_
    first | refine W.splitP (d := 42) rfl (fun gr3_5 => ?_) (fun gr3_5 => ?_) | refine W.split (d := 42) rfl (fun gr3_5 => ?_) (fun gr3_5 => ?_)
    ·
     refine Sb V.mv ?_
     refine Sb V.nc ?_
     refine Sb V.fa ?_
     refine Sb V.ld ?_
     refine Sb V.lS ?_
     refine Sb V.vi ?_
     refine Sa V.pk ?_
     refine Wn ?_
     refine sq ?_
     first | refine WC.if rfl (fun c49 => ?_) (fun c49 => ?_) | refine WC.cond rfl (fun c49 => ?_) (fun c49 => ?_)
     ·
      refine rg ?_
      refine Sa V.asg ?_
      refine Wn ?_
      refine sq ?_
      refine WC.ret ?_
      refine' ⟨.inr rfl, rfl, _, _, .tmp rfl .nil, List.Sublist.refl _, ?_⟩
      refine ⟨⟨_, _, rfl, rfl, ?_⟩, ?_⟩
      · intro h1 h2 h3
        first
          | exact ⟨rfl, rfl⟩
          | (exfalso; omega)
          | exact absurd gr1_5 h2
      · first | exact Jm.le.refl _ | assumption
     ·
      refine sq ?_
      refine WC.skip ?_
      refine rg ?_
      refine Sa V.mv ?_
      refine Sa V.nc ?_
      refine Sa V.fa ?_
      refine Sa V.ld ?_
      refine Sa V.vi ?_
      refine Wn ?_
      refine sq ?_
      first | refine WC.if rfl (fun c54 => ?_) (fun c54 => ?_) | refine WC.cond rfl (fun c54 => ?_) (fun c54 => ?_)
      ·
       refine rg ?_
       refine Sa V.asg ?_
       refine Wn ?_
       refine sq ?_
       refine WC.ret ?_
       refine' ⟨.inr rfl, rfl, _, _, .tmp rfl .nil, List.Sublist.refl _, ?_⟩
       refine ⟨⟨_, _, rfl, rfl, ?_⟩, ?_⟩
       · intro h1 h2 h3
         first
           | exact ⟨rfl, rfl⟩
           | (exfalso; omega)
           | exact absurd gr1_5 h2
       · first | exact Jm.le.refl _ | assumption
      ·
       refine sq ?_
       refine WC.skip ?_
       refine rg ?_
       refine Sa V.mv ?_
       refine Sa V.nc ?_
       refine Sa V.fa ?_
       refine Sa V.ld ?_
       refine Sa V.lS ?_
       refine Sa V.vi ?_
       refine Sa V.mv ?_
       first | refine W.splitP (d := 61) rfl (fun gr7_6 => ?_) (fun gr7_6 => ?_) | refine W.split (d := 61) rfl (fun gr7_6 => ?_) (fun gr7_6 => ?_)
       ·
        obtain ⟨b, hb, hb'⟩ := get_at tx 0 (by omega)
        refine Sb V.mv ?_
        refine Sb V.nc ?_
        refine Sb V.fa ?_
        refine Sb V.ld ?_
        refine Sb V.iS ?_
        refine Sb V.vi ?_
        refine Sa V.pk ?_
        refine Wn ?_
        refine sq ?_
        first | refine WC.if rfl (fun c68 => ?_) (fun c68 => ?_) | refine WC.cond rfl (fun c68 => ?_) (fun c68 => ?_)
        ·
         refine rg ?_
         refine Sa V.asg ?_
         refine Wn ?_
         refine sq ?_
         refine WC.ret ?_
         refine' ⟨.inr rfl, rfl, _, _, .tmp rfl .nil, List.Sublist.refl _, ?_⟩
         refine ⟨⟨_, _, rfl, rfl, ?_⟩, ?_⟩
         · intro h1 h2 h3
           first
             | exact ⟨rfl, rfl⟩
             | (exfalso; omega)
             | exact absurd gr1_5 h2
         · first | exact Jm.le.refl _ | assumption
        ·
         refine sq ?_
         refine WC.skip ?_
         refine rg ?_
         refine Sa V.mv ?_
         refine Sa V.nc ?_
         refine Sa V.fa ?_
         refine Sa V.ld ?_
         refine' W.step rfl (.of (x_strBytes rfl rfl rfl rfl (sr9_89 Q g0) fun a73 J73 hle73 hJ73 => ?_))
         refine Sa V.ls ?_
         refine Sa V.mv ?_
         refine Wn ?_
         refine sq ?_
         refine WC.block ?_
         refine' WC.weak (l' := [(75, .int .i64 ((0) : Int)), (1, _), (73, _), (74, _)]) ⟨?w75, rfl, rfl, rfl, trivial⟩ (List.Sublist.refl _) ?_
         case w75 => first | rfl | exact congrArg some (congrArg (Value.int .i64) (by omega))
         refine sq ?_
         refine' WC.loopG (α := (Nat) × (Int)) (fun (gh_ : (Nat) × (Int)) => match gh_ with | (i, x) => [(75, .int .i64 (i : Int))]) (fun (gh_ : (Nat) × (Int)) => match gh_ with | (i, x) => [(a, PB.row [.int .i64 k, .string ⟨⟨tx⟩⟩, .int .i64 x, .int .i64 0] 107)]) (fun (gh_ : (Nat) × (Int)) => match gh_ with | (i, x) => J73) (fun (gh_ : (Nat) × (Int)) => match gh_ with | (i, x) => i ≤ tx.length) (fun (gh_ : (Nat) × (Int)) => match gh_ with | (i, x) => tx.length - i) ⟨0, 0⟩ ?hs ?hstep
         case hs => omega
         case hstep =>
          rintro ⟨i, x⟩ hinv
          try simp only at hinv
          refine rg ?_
          refine Sa V.vi ?_
          refine Wn ?_
          refine sq ?_
          first | refine WC.if rfl (fun c76 => ?_) (fun c76 => ?_) | refine WC.cond rfl (fun c76 => ?_) (fun c76 => ?_)
          ·
           have hlt : i < tx.length := by omega
           obtain ⟨b, hb, hb'⟩ := get_at tx i hlt
           have hbv := byteVs_at hb'
           refine sq ?_
           refine WC.skip ?_
           refine sq ?_
           refine WC.block ?_
           refine rg ?_
           refine Sa V.ix ?_
           refine Sa V.ld ?_
           refine Sa V.asg ?_
           refine Wn ?_
           refine rg ?_
           refine Sa V.mv ?_
           refine Sa V.mv ?_
           refine Sa V.nc ?_
           refine Sa V.fa ?_
           refine Sa V.ld ?_
           refine Sa V.va ?_
           refine Sa V.mv ?_
           refine Sa V.va ?_
           refine Sa V.cv ?_
           refine Sa V.va ?_
           refine Sa V.nc ?_
           refine Sa V.fa ?_
           refine Ss ?_
           refine Wn ?_
           refine rg ?_
           refine Sa V.mv ?_
           refine Sa V.nc ?_
           refine Sa V.fa ?_
           refine Sa V.ld ?_
           refine Sa V.vi ?_
           refine Wn ?_
           refine sq ?_
           first | refine WC.if rfl (fun c95 => ?_) (fun c95 => ?_) | refine WC.cond rfl (fun c95 => ?_) (fun c95 => ?_)
           ·
            refine rg ?_
            refine Sa V.asg ?_
            refine Wn ?_
            refine sq ?_
            refine WC.ret ?_
            refine' ⟨.inr rfl, rfl, _, _, .tmp rfl .nil, List.Sublist.refl _, ?_⟩
            refine ⟨⟨_, _, rfl, rfl, ?_⟩, ?_⟩
            · intro h1 h2 h3
              first
                | exact ⟨rfl, rfl⟩
                | (exfalso; omega)
                | exact absurd gr1_5 h2
            · first | exact Jm.le.refl _ | assumption
           ·
            refine sq ?_
            refine WC.skip ?_
            refine rg ?_
            refine Sa V.va ?_
            refine Sa V.mv ?_
            refine Wn ?_
            refine' ⟨⟨i + 1, _⟩, _, ?hinv, ?hmeas, rfl, ⟨?m75, rfl, rfl, rfl, trivial⟩, List.Sublist.refl _, rfl⟩
            case m75 => first | rfl | exact congrArg some (congrArg (Value.int .i64) (by omega))
            case hmeas => first | omega | (simp only; omega)
            case hinv => omega
          ·
           refine sq ?_
           refine WC.exit ?_
           refine rg ?_
           refine Sa V.asg ?_
           refine Wn ?_
           refine sq ?_
           refine WC.ret ?_
           refine' ⟨.inr rfl, rfl, _, _, .tmp rfl .nil, List.Sublist.refl _, ?_⟩
           refine ⟨⟨_, _, rfl, rfl, ?_⟩, ?_⟩
           · intro h1 h2 h3
             first
               | exact ⟨rfl, rfl⟩
               | (exfalso; omega)
               | exact absurd gr1_5 h2
           · first | exact Jm.le.refl _ | assumption
       ·
        refine Sn ?_
        refine Sn ?_
        refine Sn ?_
        refine Sn ?_
        refine Sn ?_
        refine Sn ?_
        refine Sa V.pk ?_
        refine Wn ?_
        refine sq ?_
        refine WC.condF rfl ?_
        refine sq ?_
        refine WC.skip ?_
        refine rg ?_
        refine Sa V.mv ?_
        refine Sa V.nc ?_
        refine Sa V.fa ?_
        refine Sa V.ld ?_
        refine' W.step rfl (.of (x_strBytes rfl rfl rfl rfl (sr9_89 Q g0) fun a73 J73 hle73 hJ73 => ?_))
        refine Sa V.ls ?_
        refine Sa V.mv ?_
        refine Wn ?_
        refine sq ?_
        refine WC.block ?_
        refine' WC.weak (l' := [(75, .int .i64 ((0) : Int)), (1, _), (73, _), (74, _)]) ⟨?w75, rfl, rfl, rfl, trivial⟩ (List.Sublist.refl _) ?_
        case w75 => first | rfl | exact congrArg some (congrArg (Value.int .i64) (by omega))
        refine sq ?_
        refine' WC.loopG (α := (Nat) × (Int)) (fun (gh_ : (Nat) × (Int)) => match gh_ with | (i, x) => [(75, .int .i64 (i : Int))]) (fun (gh_ : (Nat) × (Int)) => match gh_ with | (i, x) => [(a, PB.row [.int .i64 k, .string ⟨⟨tx⟩⟩, .int .i64 x, .int .i64 0] 107)]) (fun (gh_ : (Nat) × (Int)) => match gh_ with | (i, x) => J73) (fun (gh_ : (Nat) × (Int)) => match gh_ with | (i, x) => i ≤ tx.length) (fun (gh_ : (Nat) × (Int)) => match gh_ with | (i, x) => tx.length - i) ⟨0, 0⟩ ?hs ?hstep
        case hs => omega
        case hstep =>
         rintro ⟨i, x⟩ hinv
         try simp only at hinv
         refine rg ?_
         refine Sa V.vi ?_
         refine Wn ?_
         refine sq ?_
         first | refine WC.if rfl (fun c76 => ?_) (fun c76 => ?_) | refine WC.cond rfl (fun c76 => ?_) (fun c76 => ?_)
         ·
          have hlt : i < tx.length := by omega
          obtain ⟨b, hb, hb'⟩ := get_at tx i hlt
          have hbv := byteVs_at hb'
          refine sq ?_
          refine WC.skip ?_
          refine sq ?_
          refine WC.block ?_
          refine rg ?_
          refine Sa V.ix ?_
          refine Sa V.ld ?_
          refine Sa V.asg ?_
          refine Wn ?_
          refine rg ?_
          refine Sa V.mv ?_
          refine Sa V.mv ?_
          refine Sa V.nc ?_
          refine Sa V.fa ?_
          refine Sa V.ld ?_
          refine Sa V.va ?_
          refine Sa V.mv ?_
          refine Sa V.va ?_
          refine Sa V.cv ?_
          refine Sa V.va ?_
          refine Sa V.nc ?_
          refine Sa V.fa ?_
          refine Ss ?_
          refine Wn ?_
          refine rg ?_
          refine Sa V.mv ?_
          refine Sa V.nc ?_
          refine Sa V.fa ?_
          refine Sa V.ld ?_
          refine Sa V.vi ?_
          refine Wn ?_
          refine sq ?_
          first | refine WC.if rfl (fun c95 => ?_) (fun c95 => ?_) | refine WC.cond rfl (fun c95 => ?_) (fun c95 => ?_)
          ·
           refine rg ?_
           refine Sa V.asg ?_
           refine Wn ?_
           refine sq ?_
           refine WC.ret ?_
           refine' ⟨.inr rfl, rfl, _, _, .tmp rfl .nil, List.Sublist.refl _, ?_⟩
           refine ⟨⟨_, _, rfl, rfl, ?_⟩, ?_⟩
           · intro h1 h2 h3
             first
               | exact ⟨rfl, rfl⟩
               | (exfalso; omega)
               | exact absurd gr1_5 h2
           · first | exact Jm.le.refl _ | assumption
          ·
           refine sq ?_
           refine WC.skip ?_
           refine rg ?_
           refine Sa V.va ?_
           refine Sa V.mv ?_
           refine Wn ?_
           refine' ⟨⟨i + 1, _⟩, _, ?hinv, ?hmeas, rfl, ⟨?m75, rfl, rfl, rfl, trivial⟩, List.Sublist.refl _, rfl⟩
           case m75 => first | rfl | exact congrArg some (congrArg (Value.int .i64) (by omega))
           case hmeas => first | omega | (simp only; omega)
           case hinv => omega
         ·
          refine sq ?_
          refine WC.exit ?_
          refine rg ?_
          refine Sa V.asg ?_
          refine Wn ?_
          refine sq ?_
          refine WC.ret ?_
          refine' ⟨.inr rfl, rfl, _, _, .tmp rfl .nil, List.Sublist.refl _, ?_⟩
          refine ⟨⟨_, _, rfl, rfl, ?_⟩, ?_⟩
          · intro h1 h2 h3
            first
              | exact ⟨rfl, rfl⟩
              | (exfalso; omega)
              | exact absurd gr1_5 h2
          · first | exact Jm.le.refl _ | assumption
    ·
     refine Sn ?_
     refine Sn ?_
     refine Sn ?_
     refine Sn ?_
     refine Sn ?_
     refine Sn ?_
     refine Sa V.pk ?_
     refine Wn ?_
     refine sq ?_
     refine WC.condF rfl ?_
     refine sq ?_
     refine WC.skip ?_
     refine rg ?_
     refine Sa V.mv ?_
     refine Sa V.nc ?_
     refine Sa V.fa ?_
     refine Sa V.ld ?_
     refine Sa V.vi ?_
     refine Wn ?_
     refine sq ?_
     first | refine WC.if rfl (fun c54 => ?_) (fun c54 => ?_) | refine WC.cond rfl (fun c54 => ?_) (fun c54 => ?_)
     ·
      refine rg ?_
      refine Sa V.asg ?_
      refine Wn ?_
      refine sq ?_
      refine WC.ret ?_
      refine' ⟨.inr rfl, rfl, _, _, .tmp rfl .nil, List.Sublist.refl _, ?_⟩
      refine ⟨⟨_, _, rfl, rfl, ?_⟩, ?_⟩
      · intro h1 h2 h3
        first
          | exact ⟨rfl, rfl⟩
          | (exfalso; omega)
          | exact absurd gr1_5 h2
      · first | exact Jm.le.refl _ | assumption
     ·
      refine sq ?_
      refine WC.skip ?_
      refine rg ?_
      refine Sa V.mv ?_
      refine Sa V.nc ?_
      refine Sa V.fa ?_
      refine Sa V.ld ?_
      refine Sa V.lS ?_
      refine Sa V.vi ?_
      refine Sa V.mv ?_
      first | refine W.splitP (d := 61) rfl (fun gr7_6 => ?_) (fun gr7_6 => ?_) | refine W.split (d := 61) rfl (fun gr7_6 => ?_) (fun gr7_6 => ?_)
      ·
       obtain ⟨b, hb, hb'⟩ := get_at tx 0 (by omega)
       refine Sb V.mv ?_
       refine Sb V.nc ?_
       refine Sb V.fa ?_
       refine Sb V.ld ?_
       refine Sb V.iS ?_
       refine Sb V.vi ?_
       refine Sa V.pk ?_
       refine Wn ?_
       refine sq ?_
       first | refine WC.if rfl (fun c68 => ?_) (fun c68 => ?_) | refine WC.cond rfl (fun c68 => ?_) (fun c68 => ?_)
       ·
        refine rg ?_
        refine Sa V.asg ?_
        refine Wn ?_
        refine sq ?_
        refine WC.ret ?_
        refine' ⟨.inr rfl, rfl, _, _, .tmp rfl .nil, List.Sublist.refl _, ?_⟩
        refine ⟨⟨_, _, rfl, rfl, ?_⟩, ?_⟩
        · intro h1 h2 h3
          first
            | exact ⟨rfl, rfl⟩
            | (exfalso; omega)
            | exact absurd gr1_5 h2
        · first | exact Jm.le.refl _ | assumption
       ·
        refine sq ?_
        refine WC.skip ?_
        refine rg ?_
        refine Sa V.mv ?_
        refine Sa V.nc ?_
        refine Sa V.fa ?_
        refine Sa V.ld ?_
        refine' W.step rfl (.of (x_strBytes rfl rfl rfl rfl (sr9_89 Q g0) fun a73 J73 hle73 hJ73 => ?_))
        refine Sa V.ls ?_
        refine Sa V.mv ?_
        refine Wn ?_
        refine sq ?_
        refine WC.block ?_
        refine' WC.weak (l' := [(75, .int .i64 ((0) : Int)), (1, _), (73, _), (74, _)]) ⟨?w75, rfl, rfl, rfl, trivial⟩ (List.Sublist.refl _) ?_
        case w75 => first | rfl | exact congrArg some (congrArg (Value.int .i64) (by omega))
        refine sq ?_
        refine' WC.loopG (α := (Nat) × (Int)) (fun (gh_ : (Nat) × (Int)) => match gh_ with | (i, x) => [(75, .int .i64 (i : Int))]) (fun (gh_ : (Nat) × (Int)) => match gh_ with | (i, x) => [(a, PB.row [.int .i64 k, .string ⟨⟨tx⟩⟩, .int .i64 x, .int .i64 0] 107)]) (fun (gh_ : (Nat) × (Int)) => match gh_ with | (i, x) => J73) (fun (gh_ : (Nat) × (Int)) => match gh_ with | (i, x) => i ≤ tx.length) (fun (gh_ : (Nat) × (Int)) => match gh_ with | (i, x) => tx.length - i) ⟨0, 0⟩ ?hs ?hstep
        case hs => omega
        case hstep =>
         rintro ⟨i, x⟩ hinv
         try simp only at hinv
         refine rg ?_
         refine Sa V.vi ?_
         refine Wn ?_
         refine sq ?_
         first | refine WC.if rfl (fun c76 => ?_) (fun c76 => ?_) | refine WC.cond rfl (fun c76 => ?_) (fun c76 => ?_)
         ·
          have hlt : i < tx.length := by omega
          obtain ⟨b, hb, hb'⟩ := get_at tx i hlt
          have hbv := byteVs_at hb'
          refine sq ?_
          refine WC.skip ?_
          refine sq ?_
          refine WC.block ?_
          refine rg ?_
          refine Sa V.ix ?_
          refine Sa V.ld ?_
          refine Sa V.asg ?_
          refine Wn ?_
          refine rg ?_
          refine Sa V.mv ?_
          refine Sa V.mv ?_
          refine Sa V.nc ?_
          refine Sa V.fa ?_
          refine Sa V.ld ?_
          refine Sa V.va ?_
          refine Sa V.mv ?_
          refine Sa V.va ?_
          refine Sa V.cv ?_
          refine Sa V.va ?_
          refine Sa V.nc ?_
          refine Sa V.fa ?_
          refine Ss ?_
          refine Wn ?_
          refine rg ?_
          refine Sa V.mv ?_
          refine Sa V.nc ?_
          refine Sa V.fa ?_
          refine Sa V.ld ?_
          refine Sa V.vi ?_
          refine Wn ?_
          refine sq ?_
          first | refine WC.if rfl (fun c95 => ?_) (fun c95 => ?_) | refine WC.cond rfl (fun c95 => ?_) (fun c95 => ?_)
          ·
           refine rg ?_
           refine Sa V.asg ?_
           refine Wn ?_
           refine sq ?_
           refine WC.ret ?_
           refine' ⟨.inr rfl, rfl, _, _, .tmp rfl .nil, List.Sublist.refl _, ?_⟩
           refine ⟨⟨_, _, rfl, rfl, ?_⟩, ?_⟩
           · intro h1 h2 h3
             first
               | exact ⟨rfl, rfl⟩
               | (exfalso; omega)
               | exact absurd gr1_5 h2
           · first | exact Jm.le.refl _ | assumption
          ·
           refine sq ?_
           refine WC.skip ?_
           refine rg ?_
           refine Sa V.va ?_
           refine Sa V.mv ?_
           refine Wn ?_
           refine' ⟨⟨i + 1, _⟩, _, ?hinv, ?hmeas, rfl, ⟨?m75, rfl, rfl, rfl, trivial⟩, List.Sublist.refl _, rfl⟩
           case m75 => first | rfl | exact congrArg some (congrArg (Value.int .i64) (by omega))
           case hmeas => first | omega | (simp only; omega)
           case hinv => omega
         ·
          refine sq ?_
          refine WC.exit ?_
          refine rg ?_
          refine Sa V.asg ?_
          refine Wn ?_
          refine sq ?_
          refine WC.ret ?_
          refine' ⟨.inr rfl, rfl, _, _, .tmp rfl .nil, List.Sublist.refl _, ?_⟩
          refine ⟨⟨_, _, rfl, rfl, ?_⟩, ?_⟩
          · intro h1 h2 h3
            first
              | exact ⟨rfl, rfl⟩
              | (exfalso; omega)
              | exact absurd gr1_5 h2
          · first | exact Jm.le.refl _ | assumption
      ·
       refine Sn ?_
       refine Sn ?_
       refine Sn ?_
       refine Sn ?_
       refine Sn ?_
       refine Sn ?_
       refine Sa V.pk ?_
       refine Wn ?_
       refine sq ?_
       refine WC.condF rfl ?_
       refine sq ?_
       refine WC.skip ?_
       refine rg ?_
       refine Sa V.mv ?_
       refine Sa V.nc ?_
       refine Sa V.fa ?_
       refine Sa V.ld ?_
       refine' W.step rfl (.of (x_strBytes rfl rfl rfl rfl (sr9_89 Q g0) fun a73 J73 hle73 hJ73 => ?_))
       refine Sa V.ls ?_
       refine Sa V.mv ?_
       refine Wn ?_
       refine sq ?_
       refine WC.block ?_
       refine' WC.weak (l' := [(75, .int .i64 ((0) : Int)), (1, _), (73, _), (74, _)]) ⟨?w75, rfl, rfl, rfl, trivial⟩ (List.Sublist.refl _) ?_
       case w75 => first | rfl | exact congrArg some (congrArg (Value.int .i64) (by omega))
       refine sq ?_
       refine' WC.loopG (α := (Nat) × (Int)) (fun (gh_ : (Nat) × (Int)) => match gh_ with | (i, x) => [(75, .int .i64 (i : Int))]) (fun (gh_ : (Nat) × (Int)) => match gh_ with | (i, x) => [(a, PB.row [.int .i64 k, .string ⟨⟨tx⟩⟩, .int .i64 x, .int .i64 0] 107)]) (fun (gh_ : (Nat) × (Int)) => match gh_ with | (i, x) => J73) (fun (gh_ : (Nat) × (Int)) => match gh_ with | (i, x) => i ≤ tx.length) (fun (gh_ : (Nat) × (Int)) => match gh_ with | (i, x) => tx.length - i) ⟨0, 0⟩ ?hs ?hstep
       case hs => omega
       case hstep =>
        rintro ⟨i, x⟩ hinv
        try simp only at hinv
        refine rg ?_
        refine Sa V.vi ?_
        refine Wn ?_
        refine sq ?_
        first | refine WC.if rfl (fun c76 => ?_) (fun c76 => ?_) | refine WC.cond rfl (fun c76 => ?_) (fun c76 => ?_)
        ·
         have hlt : i < tx.length := by omega
         obtain ⟨b, hb, hb'⟩ := get_at tx i hlt
         have hbv := byteVs_at hb'
         refine sq ?_
         refine WC.skip ?_
         refine sq ?_
         refine WC.block ?_
         refine rg ?_
         refine Sa V.ix ?_
         refine Sa V.ld ?_
         refine Sa V.asg ?_
         refine Wn ?_
         refine rg ?_
         refine Sa V.mv ?_
         refine Sa V.mv ?_
         refine Sa V.nc ?_
         refine Sa V.fa ?_
         refine Sa V.ld ?_
         refine Sa V.va ?_
         refine Sa V.mv ?_
         refine Sa V.va ?_
         refine Sa V.cv ?_
         refine Sa V.va ?_
         refine Sa V.nc ?_
         refine Sa V.fa ?_
         refine Ss ?_
         refine Wn ?_
         refine rg ?_
         refine Sa V.mv ?_
         refine Sa V.nc ?_
         refine Sa V.fa ?_
         refine Sa V.ld ?_
         refine Sa V.vi ?_
         refine Wn ?_
         refine sq ?_
         first | refine WC.if rfl (fun c95 => ?_) (fun c95 => ?_) | refine WC.cond rfl (fun c95 => ?_) (fun c95 => ?_)
         ·
          refine rg ?_
          refine Sa V.asg ?_
          refine Wn ?_
          refine sq ?_
          refine WC.ret ?_
          refine' ⟨.inr rfl, rfl, _, _, .tmp rfl .nil, List.Sublist.refl _, ?_⟩
          refine ⟨⟨_, _, rfl, rfl, ?_⟩, ?_⟩
          · intro h1 h2 h3
            first
              | exact ⟨rfl, rfl⟩
              | (exfalso; omega)
              | exact absurd gr1_5 h2
          · first | exact Jm.le.refl _ | assumption
         ·
          refine sq ?_
          refine WC.skip ?_
          refine rg ?_
          refine Sa V.va ?_
          refine Sa V.mv ?_
          refine Wn ?_
          refine' ⟨⟨i + 1, _⟩, _, ?hinv, ?hmeas, rfl, ⟨?m75, rfl, rfl, rfl, trivial⟩, List.Sublist.refl _, rfl⟩
          case m75 => first | rfl | exact congrArg some (congrArg (Value.int .i64) (by omega))
          case hmeas => first | omega | (simp only; omega)
          case hinv => omega
        ·
         refine sq ?_
         refine WC.exit ?_
         refine rg ?_
         refine Sa V.asg ?_
         refine Wn ?_
         refine sq ?_
         refine WC.ret ?_
         refine' ⟨.inr rfl, rfl, _, _, .tmp rfl .nil, List.Sublist.refl _, ?_⟩
         refine ⟨⟨_, _, rfl, rfl, ?_⟩, ?_⟩
         · intro h1 h2 h3
           first
             | exact ⟨rfl, rfl⟩
             | (exfalso; omega)
             | exact absurd gr1_5 h2
         · first | exact Jm.le.refl _ | assumption
end
end Go.Opn

/- A part of the proof of ProtocolBack. -/
import Derived.Test.YtaopiiohjbjgkaaGreatDoorWo
set_option maxRecDepth 100000
set_option maxHeartbeats 4000000
set_option linter.unusedVariables false
set_option linter.unusedSimpArgs false
namespace Go.Opn
open Go.Cre Go.RowKit Go.Proofs
section
variable {Q : Worlds Tryz.prog} {g0 : Nat} {J : Jm}
/-- the form of that number, the empty one too -/
def fmZ (k : Int) : List Value := if k = 0 then [.string ⟨⟨[]⟩⟩, .bool false, .int .i64 0, .int .i64 0, .nilFunc, .int .i64 0] else fmRow k
def rsC (r : Rs) (v : Value) : List Value := [.int .i64 r.k, .string ⟨⟨r.tx⟩⟩, v] ++ (fmZ r.fk ++ [.bool r.nm])
abbrev fltV (e p : Int) : Value := .agg #[.int .i64 e, .int .i64 p]
/-- what a word does to what is read so far -/
def TakeP (a : Nat) (r : Rs) (p : Int) (w : List UInt8) (J : Jm) : Value → Mm → Jm → Prop := fun u m' J' => ∃ r' v' mo' e q, u = fltV e q ∧ m'.Perm ((a, .row (rsC r' v') 60) :: (mo' ++ [])) ∧ Acc 3 1 v' r'.N.length (r'.N.map (Value.int .i64)) mo' ∧ J.le J' ∧ (match tkS r p w with | .inl r1 => r1 = r' ∧ e = 0 ∧ q = 0 | .inr f => f = (e, q) ∧ e ≠ 0)
theorem rsC_0 {k : Int} {tx : List UInt8} {N : List Int} {nm : Bool} {v : Value} : rsC ⟨k, tx, N, 0, nm⟩ v = [.int .i64 k, .string ⟨⟨tx⟩⟩, v, .string ⟨⟨[]⟩⟩, .bool false, .int .i64 0, .int .i64 0, .nilFunc, .int .i64 0, .bool nm] := rfl
theorem rsC_f {k : Int} {tx : List UInt8} {N : List Int} {fk : Int} {nm : Bool} {v : Value} (h : ¬ (fk < 1 ∨ 11 < fk)) : rsC ⟨k, tx, N, fk, nm⟩ v = [.int .i64 k, .string ⟨⟨tx⟩⟩, v, .string ⟨⟨wordF fk⟩⟩, .bool (named fk), .int .i64 (counts fk).1, .int .i64 (counts fk).2, .func (.func (limF fk)) #[] #[], .int .i64 (rise fk), .bool nm] := by
  unfold rsC fmZ; rw [if_neg (fun q => h (by simp only at q; omega))]; rfl
theorem take0_fn {k : Int} {tx : List UInt8} {N : List Int} {nm : Bool} {v : Value} {mo : Mm} {a : Nat} {s : List UInt8} (hacc : Acc 3 1 v N.length (N.map (Value.int .i64)) mo) :
    Fn (kx Q g0) 20 [.pointer (some ⟨a, 0, none⟩), .int .i64 0, .string ⟨⟨s⟩⟩] ((a, .row (rsC ⟨k, tx, N, 0, nm⟩ v) 60) :: (mo ++ [])) J (TakeP a ⟨k, tx, N, 0, nm⟩ 0 s J) := by
  obtain ⟨b0, c0, rfl⟩ := hacc.form
  rw [rsC_0]
  refine Fn.of_body (ftGet Tryz.func20) rfl rfl fun H => ?_
  refine rg ?_
  refine' W.step rfl (.of (x_alloc rfl rfl rfl (ze30 Q g0) rfl rfl rfl fun a6 => ?_))
  refine Wn ?_
  refine sq ?_
  refine WC.block ?_
  refine rg ?_
  refine Sa V.mv ?_
  refine Sa V.vi ?_
  refine Sa V.asg ?_
  refine Wn ?_
  refine sq ?_
  first | refine WC.if rfl (fun c9 => ?_) (fun c9 => ?_) | refine WC.cond rfl (fun c9 => ?_) (fun c9 => ?_)
  ·
   refine rg ?_
   refine Sa V.mv ?_
   refine Sa V.mv ?_
   refine' W.step rfl (Exec.call rfl rfl rfl rfl rfl rfl rfl (mi := []) (.refl _) trivial (kindOf_fn) ?_)
   rintro v m' J' hle ⟨rfl, rfl, rfl⟩
   refine Sa V.nc ?_
   refine Sa V.fa ?_
   refine Sa V.fa ?_
   refine Ss ?_
   refine Wn ?_
   refine rg ?_
   refine Sa V.mv ?_
   refine Sa V.nc ?_
   refine Sa V.fa ?_
   refine Sa V.fa ?_
   refine Sa V.ld ?_
   refine Sa V.vi ?_
   refine Wn ?_
   refine sq ?_
   first | refine WC.if rfl (fun c23 => ?_) (fun c23 => ?_) | refine WC.cond rfl (fun c23 => ?_) (fun c23 => ?_)
   ·
    refine rg ?_
    refine Sa V.bd ?_
    refine Ss ?_
    refine Wn ?_
    refine sq ?_
    refine WC.ret ?_
    refine' ⟨.inr rfl, rfl, _, _, .cell rfl (by repeat first | exact .head _ | refine .tail _ ?_ | refine List.mem_append_right _ ?_) (partA (tAg rfl) rfl) (.nil), .cons _ (List.Sublist.refl _), ?_⟩
    first
      | (refine ⟨⟨kindS s, tx, N, 0, nm⟩, _, mo, 7, 0, rfl, List.Perm.refl _, hacc, by first | exact Jm.le.refl _ | assumption, ?_⟩
         unfold tkS; rw [if_pos rfl, if_pos c23]; exact ⟨rfl, by omega⟩)
      | (refine ⟨⟨kindS s, tx, N, kindS s, nm⟩, _, mo, 0, 0, rfl, by rw [rsC_f hk], hacc, by first | exact Jm.le.refl _ | assumption, ?_⟩
         unfold tkS; rw [if_pos rfl, if_neg c23]; exact ⟨rfl, rfl, rfl⟩)
   ·
    have hk := (word_kindS c23).2
    refine sq ?_
    refine WC.skip ?_
    refine sq ?_
    refine WC.draw rfl (by kernel_rfl) (plan := [.val 0, .val 2, .val 3, .val 4, .val 5, .val 6, .chn 1, .val 7, .val 8, .val 9, .chk [6, 5, 4, 3, 2, 0], .chn 10]) (by kernel_rfl) ?_
    refine Da rfl V.mv ?_
    refine Da rfl V.mv ?_
    refine Da rfl V.nc ?_
    refine Da rfl V.fa ?_
    refine Da rfl V.fa ?_
    refine Da rfl V.ld ?_
    refine' WD.call rfl rfl rfl rfl rfl rfl rfl rfl rfl rfl (mi := []) (.refl _) trivial (forms_fn) ?_
    rintro v m' J' hle ⟨rfl, rfl, rfl⟩
    refine' WD.val rfl rfl rfl rfl (v_indexAgg rfl rfl rfl (tAr rfl) ?h0 ?h1 (partA (tAg rfl) ?hv)) ?_
    case hv => exact forms_at hk
    case h0 => first | omega | (simp; omega)
    case h1 => first | omega | (simp; omega)
    refine Da rfl V.nc ?_
    refine Da rfl V.fa ?_
    refine WD.chk ck ?_
    refine Ds rfl ?_
    refine WD.nil ?_
    refine rg ?_
    refine Sa V.bd ?_
    refine Ss ?_
    refine Wn ?_
    refine sq ?_
    refine WC.ret ?_
    refine' ⟨.inr rfl, rfl, _, _, .cell rfl (by repeat first | exact .head _ | refine .tail _ ?_ | refine List.mem_append_right _ ?_) (partA (tAg rfl) rfl) (.nil), .cons _ (List.Sublist.refl _), ?_⟩
    first
      | (refine ⟨⟨kindS s, tx, N, 0, nm⟩, _, mo, 7, 0, rfl, List.Perm.refl _, hacc, by first | exact Jm.le.refl _ | assumption, ?_⟩
         unfold tkS; rw [if_pos rfl, if_pos c23]; exact ⟨rfl, by omega⟩)
      | (refine ⟨⟨kindS s, tx, N, kindS s, nm⟩, _, mo, 0, 0, rfl, by rw [rsC_f hk], hacc, by first | exact Jm.le.refl _ | assumption, ?_⟩
         unfold tkS; rw [if_pos rfl, if_neg c23]; exact ⟨rfl, rfl, rfl⟩)
  ·
   exfalso; exact c9 rfl
theorem takeN_fn (L : Lb Q g0) (hG : Gl g0 J) {k : Int} {tx : List UInt8} {N : List Int} {fk : Int} {nm : Bool} {v : Value} {mo : Mm} {a : Nat} {p : Int} {s : List UInt8} (hs : s.length ≤ 200) (hp : 0 < p ∧ p ≤ 1000000) (hN : N.length ≤ 1000) (hfk : ¬ (fk < 1 ∨ 11 < fk)) (hacc : Acc 3 1 v N.length (N.map (Value.int .i64)) mo) :
    Fn (kx Q g0) 20 [.pointer (some ⟨a, 0, none⟩), .int .i64 p, .string ⟨⟨s⟩⟩] ((a, .row (rsC ⟨k, tx, N, fk, nm⟩ v) 60) :: (mo ++ [])) J (TakeP a ⟨k, tx, N, fk, nm⟩ p s J) := by
  obtain ⟨b0, c0, rfl⟩ := hacc.form
  have hcn := counts_le fk
  rw [rsC_f hfk]
  refine Fn.of_body (ftGet Tryz.func20) rfl rfl fun H => ?_
  refine rg ?_
  refine' W.step rfl (.of (x_alloc rfl rfl rfl (ze30 Q g0) rfl rfl rfl fun a6 => ?_))
  refine Wn ?_
  refine sq ?_
  refine WC.block ?_
  refine rg ?_
  refine Sa V.mv ?_
  refine Sa V.vi ?_
  refine Sa V.asg ?_
  refine Wn ?_
  refine sq ?_
  first | refine WC.if rfl (fun c9 => ?_) (fun c9 => ?_) | refine WC.cond rfl (fun c9 => ?_) (fun c9 => ?_)
  ·
   exfalso; omega
  ·
   refine' WC.weak (l' := [(0, _), (1, _), (2, _), (6, _)]) ⟨rfl, rfl, rfl, rfl, trivial⟩ (List.Sublist.refl _) ?_
   refine sq ?_
   refine' WC.cutK 0 [(36, .bool (decide ((named fk = true ∧ nm = false))))] ?cr7 ?dr7
   case cr7 =>
    refine WC.region ?_
    refine Sa V.mv ?_
    refine Sa V.nc ?_
    refine Sa V.fa ?_
    refine Sa V.fa ?_
    refine Sa V.ld ?_
    refine Sa V.mv ?_
    first | refine W.splitP (d := 42) rfl (fun gr7_5 => ?_) (fun gr7_5 => ?_) | refine W.split (d := 42) rfl (fun gr7_5 => ?_) (fun gr7_5 => ?_)
    ·
     refine Sb V.mv ?_
     refine Sb V.nc ?_
     refine Sb V.fa ?_
     refine Sb V.ld ?_
     refine Sb V.nt ?_
     refine Sa V.pk ?_
     refine Sa V.asg ?_
     refine Wn ?_
     refine' ⟨⟨_, rfl, ⟨?n36, rfl, rfl, rfl, rfl, trivial⟩⟩, List.Sublist.refl _, rfl⟩
     case n36 => first | exact cutT rfl (by first | omega | simp_all) | exact cutF rfl (by first | omega | simp_all) | exact cutI rfl (by first | omega | simp_all) | exact cutB rfl (by simp_all)
    ·
     refine Sn ?_
     refine Sn ?_
     refine Sn ?_
     refine Sn ?_
     refine Sn ?_
     refine Sa V.pk ?_
     refine Sa V.asg ?_
     refine Wn ?_
     refine' ⟨⟨_, rfl, ⟨?n36, rfl, rfl, rfl, rfl, trivial⟩⟩, List.Sublist.refl _, rfl⟩
     case n36 => first | exact cutT rfl (by first | omega | simp_all) | exact cutF rfl (by first | omega | simp_all) | exact cutI rfl (by first | omega | simp_all) | exact cutB rfl (by simp_all)
   case dr7 =>
    refine sq ?_
    first | refine WC.if rfl (fun c36 => ?_) (fun c36 => ?_) | refine WC.cond rfl (fun c36 => ?_) (fun c36 => ?_)
    ·
     refine rg ?_
     refine Sa V.mv ?_
     refine' W.step rfl (Exec.call rfl rfl rfl rfl rfl rfl rfl (mi := []) (.refl _) trivial (isName_fn hG (by omega)) ?_)
     rintro v' m' J1 hle1 ⟨rfl, rfl, hle1'⟩
     refine Sa V.nt ?_
     refine Wn ?_
     refine sq ?_
     first | refine WC.if rfl (fun c51 => ?_) (fun c51 => ?_) | refine WC.cond rfl (fun c51 => ?_) (fun c51 => ?_)
     ·
      refine rg ?_
      refine Sa V.mv ?_
      refine Sa V.bd ?_
      refine Ss ?_
      refine Wn ?_
      refine sq ?_
      refine WC.ret ?_
      refine' ⟨.inr rfl, rfl, _, _, .cell rfl (by repeat first | exact .head _ | refine .tail _ ?_ | refine List.mem_append_right _ ?_) (partA (tAg rfl) rfl) (.nil), (by first | exact .cons _ (List.Sublist.refl _) | exact List.Sublist.append (List.Sublist.refl _) (.cons _ (.cons _ (List.Sublist.refl _)))), ?_⟩
      first
        | (refine ⟨⟨k, tx, N, fk, nm⟩, _, mo, 11, p, rfl, by rw [rsC_f hfk], hacc, by first | exact Jm.le.refl _ | assumption, ?_⟩
           unfold tkS; rw [if_neg c9, if_pos c36, if_neg (by simpa using c51)]; exact ⟨rfl, by omega⟩)
        | (refine ⟨⟨k, s, N, fk, true⟩, _, mo, 0, 0, rfl, by rw [rsC_f hfk], hacc, by first | exact Jm.le.refl _ | assumption, ?_⟩
           unfold tkS; rw [if_neg c9, if_pos c36, if_pos (by simpa using c51)]; exact ⟨rfl, rfl, rfl⟩)
        | (refine ⟨⟨k, tx, N, fk, nm⟩, _, mo, 11, p - 1, rfl, by rw [rsC_f hfk], hacc, by first | exact Jm.le.refl _ | assumption, ?_⟩
           unfold tkS; rw [if_neg c9, if_neg c36, if_pos c63]; exact ⟨rfl, by omega⟩)
        | (refine ⟨⟨k, tx, N, fk, nm⟩, _, mo, 11, p, rfl, by rw [rsC_f hfk], hacc, by first | exact Jm.le.refl _ | assumption, ?_⟩
           unfold tkS; rw [if_neg c9, if_neg c36, if_neg c63]
           cases q : numS s with
           | none => exact ⟨rfl, by omega⟩
           | some n => rw [q] at c85; cases c85)
        | (cases q : numS s with
           | none => rw [q] at c85; cases c85
           | some n =>
             rw [q] at hacc96
             refine ⟨⟨k, tx, N ++ [n], fk, nm⟩, _, mo96, 0, 0, rfl, by rw [rsC_f hfk, List.append_nil]; exact List.perm_append_singleton _ _, ?_, by first | exact Jm.le.refl _ | assumption, ?_⟩
             · have h : Acc 3 1 _ (N.length + 1) (N.map (Value.int .i64) ++ [Value.int .i64 n]) mo96 := hacc96
               simpa using h
             · unfold tkS; rw [if_neg c9, if_neg c36, if_neg c63, q]; exact ⟨rfl, rfl, rfl⟩)
     ·
      refine sq ?_
      refine WC.skip ?_
      refine rg ?_
      refine Sa V.mv ?_
      refine Sa V.mv ?_
      refine Sa V.mv ?_
      refine Sa V.nc ?_
      refine Sa V.fa ?_
      refine Sa V.fa ?_
      refine Ss ?_
      refine Sa V.nc ?_
      refine Sa V.fa ?_
      refine Ss ?_
      refine Wn ?_
      refine rg ?_
      refine Sa V.bd ?_
      refine Ss ?_
      refine Wn ?_
      refine sq ?_
      refine WC.ret ?_
      refine' ⟨.inr rfl, rfl, _, _, .cell rfl (by repeat first | exact .head _ | refine .tail _ ?_ | refine List.mem_append_right _ ?_) (partA (tAg rfl) rfl) (.nil), (by first | exact .cons _ (List.Sublist.refl _) | exact List.Sublist.append (List.Sublist.refl _) (.cons _ (.cons _ (List.Sublist.refl _)))), ?_⟩
      first
        | (refine ⟨⟨k, tx, N, fk, nm⟩, _, mo, 11, p, rfl, by rw [rsC_f hfk], hacc, by first | exact Jm.le.refl _ | assumption, ?_⟩
           unfold tkS; rw [if_neg c9, if_pos c36, if_neg (by simpa using c51)]; exact ⟨rfl, by omega⟩)
        | (refine ⟨⟨k, s, N, fk, true⟩, _, mo, 0, 0, rfl, by rw [rsC_f hfk], hacc, by first | exact Jm.le.refl _ | assumption, ?_⟩
           unfold tkS; rw [if_neg c9, if_pos c36, if_pos (by simpa using c51)]; exact ⟨rfl, rfl, rfl⟩)
        | (refine ⟨⟨k, tx, N, fk, nm⟩, _, mo, 11, p - 1, rfl, by rw [rsC_f hfk], hacc, by first | exact Jm.le.refl _ | assumption, ?_⟩
           unfold tkS; rw [if_neg c9, if_neg c36, if_pos c63]; exact ⟨rfl, by omega⟩)
        | (refine ⟨⟨k, tx, N, fk, nm⟩, _, mo, 11, p, rfl, by rw [rsC_f hfk], hacc, by first | exact Jm.le.refl _ | assumption, ?_⟩
           unfold tkS; rw [if_neg c9, if_neg c36, if_neg c63]
           cases q : numS s with
           | none => exact ⟨rfl, by omega⟩
           | some n => rw [q] at c85; cases c85)
        | (cases q : numS s with
           | none => rw [q] at c85; cases c85
           | some n =>
             rw [q] at hacc96
             refine ⟨⟨k, tx, N ++ [n], fk, nm⟩, _, mo96, 0, 0, rfl, by rw [rsC_f hfk, List.append_nil]; exact List.perm_append_singleton _ _, ?_, by first | exact Jm.le.refl _ | assumption, ?_⟩
             · have h : Acc 3 1 _ (N.length + 1) (N.map (Value.int .i64) ++ [Value.int .i64 n]) mo96 := hacc96
               simpa using h
             · unfold tkS; rw [if_neg c9, if_neg c36, if_neg c63, q]; exact ⟨rfl, rfl, rfl⟩)
    ·
     refine sq ?_
     refine WC.draw rfl (by kernel_rfl) (plan := [.val 0, .val 1, .val 2, .val 3, .val 4, .val 5, .val 6, .val 7, .val 8, .val 9, .val 10, .val 11, .val 12]) (by kernel_rfl) ?_
     refine Da rfl V.mv ?_
     refine Da rfl V.nc ?_
     refine Da rfl V.fa ?_
     refine Da rfl V.fa ?_
     refine Da rfl V.ld ?_
     refine Da rfl V.ls ?_
     refine Da rfl V.mv ?_
     refine Da rfl V.nc ?_
     refine Da rfl V.fa ?_
     refine Da rfl V.fa ?_
     refine Da rfl V.ld ?_
     refine Da rfl V.vi ?_
     refine Da rfl V.asg ?_
     refine WD.nil ?_
     refine sq ?_
     first | refine WC.if rfl (fun c63 => ?_) (fun c63 => ?_) | refine WC.cond rfl (fun c63 => ?_) (fun c63 => ?_)
     ·
      refine rg ?_
      refine Sa V.mv ?_
      refine Sa V.va ?_
      refine Sa V.bd ?_
      refine Ss ?_
      refine Wn ?_
      refine sq ?_
      refine WC.ret ?_
      refine' ⟨.inr rfl, rfl, _, _, .cell rfl (by repeat first | exact .head _ | refine .tail _ ?_ | refine List.mem_append_right _ ?_) (partA (tAg rfl) rfl) (.nil), (by first | exact .cons _ (List.Sublist.refl _) | exact List.Sublist.append (List.Sublist.refl _) (.cons _ (.cons _ (List.Sublist.refl _)))), ?_⟩
      first
        | (refine ⟨⟨k, tx, N, fk, nm⟩, _, mo, 11, p, rfl, by rw [rsC_f hfk], hacc, by first | exact Jm.le.refl _ | assumption, ?_⟩
           unfold tkS; rw [if_neg c9, if_pos c36, if_neg (by simpa using c51)]; exact ⟨rfl, by omega⟩)
        | (refine ⟨⟨k, s, N, fk, true⟩, _, mo, 0, 0, rfl, by rw [rsC_f hfk], hacc, by first | exact Jm.le.refl _ | assumption, ?_⟩
           unfold tkS; rw [if_neg c9, if_pos c36, if_pos (by simpa using c51)]; exact ⟨rfl, rfl, rfl⟩)
        | (refine ⟨⟨k, tx, N, fk, nm⟩, _, mo, 11, p - 1, rfl, by rw [rsC_f hfk], hacc, by first | exact Jm.le.refl _ | assumption, ?_⟩
           unfold tkS; rw [if_neg c9, if_neg c36, if_pos c63]; exact ⟨rfl, by omega⟩)
        | (refine ⟨⟨k, tx, N, fk, nm⟩, _, mo, 11, p, rfl, by rw [rsC_f hfk], hacc, by first | exact Jm.le.refl _ | assumption, ?_⟩
           unfold tkS; rw [if_neg c9, if_neg c36, if_neg c63]
           cases q : numS s with
           | none => exact ⟨rfl, by omega⟩
           | some n => rw [q] at c85; cases c85)
        | (cases q : numS s with
           | none => rw [q] at c85; cases c85
           | some n =>
             rw [q] at hacc96
             refine ⟨⟨k, tx, N ++ [n], fk, nm⟩, _, mo96, 0, 0, rfl, by rw [rsC_f hfk, List.append_nil]; exact List.perm_append_singleton _ _, ?_, by first | exact Jm.le.refl _ | assumption, ?_⟩
             · have h : Acc 3 1 _ (N.length + 1) (N.map (Value.int .i64) ++ [Value.int .i64 n]) mo96 := hacc96
               simpa using h
             · unfold tkS; rw [if_neg c9, if_neg c36, if_neg c63, q]; exact ⟨rfl, rfl, rfl⟩)
     ·
      refine sq ?_
      refine WC.skip ?_
      refine rg ?_
      refine Sa V.mv ?_
      refine' W.step rfl (Exec.call rfl rfl rfl rfl rfl rfl rfl (mi := []) (.refl _) trivial (number_fn L (by omega)) ?_)
      rintro v m' J' hle ⟨rfl, rfl, rfl⟩
      refine Sa V.mv ?_
      refine Sa V.ex ?_
      refine Sa V.ex ?_
      refine Sa V.asg ?_
      refine Sa V.asg ?_
      refine Wn ?_
      refine rg ?_
      refine Sa V.mv ?_
      refine Sa V.nt ?_
      refine Wn ?_
      refine sq ?_
      first | refine WC.if rfl (fun c85 => ?_) (fun c85 => ?_) | refine WC.cond rfl (fun c85 => ?_) (fun c85 => ?_)
      ·
       refine rg ?_
       refine Sa V.mv ?_
       refine Sa V.bd ?_
       refine Ss ?_
       refine Wn ?_
       refine sq ?_
       refine WC.ret ?_
       refine' ⟨.inr rfl, rfl, _, _, .cell rfl (by repeat first | exact .head _ | refine .tail _ ?_ | refine List.mem_append_right _ ?_) (partA (tAg rfl) rfl) (.nil), (by first | exact .cons _ (List.Sublist.refl _) | exact List.Sublist.append (List.Sublist.refl _) (.cons _ (.cons _ (List.Sublist.refl _)))), ?_⟩
       first
         | (refine ⟨⟨k, tx, N, fk, nm⟩, _, mo, 11, p, rfl, by rw [rsC_f hfk], hacc, by first | exact Jm.le.refl _ | assumption, ?_⟩
            unfold tkS; rw [if_neg c9, if_pos c36, if_neg (by simpa using c51)]; exact ⟨rfl, by omega⟩)
         | (refine ⟨⟨k, s, N, fk, true⟩, _, mo, 0, 0, rfl, by rw [rsC_f hfk], hacc, by first | exact Jm.le.refl _ | assumption, ?_⟩
            unfold tkS; rw [if_neg c9, if_pos c36, if_pos (by simpa using c51)]; exact ⟨rfl, rfl, rfl⟩)
         | (refine ⟨⟨k, tx, N, fk, nm⟩, _, mo, 11, p - 1, rfl, by rw [rsC_f hfk], hacc, by first | exact Jm.le.refl _ | assumption, ?_⟩
            unfold tkS; rw [if_neg c9, if_neg c36, if_pos c63]; exact ⟨rfl, by omega⟩)
         | (refine ⟨⟨k, tx, N, fk, nm⟩, _, mo, 11, p, rfl, by rw [rsC_f hfk], hacc, by first | exact Jm.le.refl _ | assumption, ?_⟩
            unfold tkS; rw [if_neg c9, if_neg c36, if_neg c63]
            cases q : numS s with
            | none => exact ⟨rfl, by omega⟩
            | some n => rw [q] at c85; cases c85)
         | (cases q : numS s with
            | none => rw [q] at c85; cases c85
            | some n =>
              rw [q] at hacc96
              refine ⟨⟨k, tx, N ++ [n], fk, nm⟩, _, mo96, 0, 0, rfl, by rw [rsC_f hfk, List.append_nil]; exact List.perm_append_singleton _ _, ?_, by first | exact Jm.le.refl _ | assumption, ?_⟩
              · have h : Acc 3 1 _ (N.length + 1) (N.map (Value.int .i64) ++ [Value.int .i64 n]) mo96 := hacc96
                simpa using h
              · unfold tkS; rw [if_neg c9, if_neg c36, if_neg c63, q]; exact ⟨rfl, rfl, rfl⟩)
      ·
       refine sq ?_
       refine WC.skip ?_
       refine rg ?_
       refine Sa V.mv ?_
       refine Sa V.mv ?_
       refine Sa V.nc ?_
       refine Sa V.fa ?_
       refine Sa V.fa ?_
       refine Sa V.ld ?_
       refine Sa V.mv ?_
       refine' W.step rfl (.of (x_buildSlice rfl rfl rfl rfl (sb22 Q g0) rfl rfl rfl fun a95 => ?_))
       refine' W.step rfl (.of (x_accP rfl rfl rfl rfl rfl rfl (sb22 Q g0) (un22 Q g0) (fun i q => by cases q) ?hacc ?hm ?hx ?hnl ?hne ?hl fun w96 mo96 hacc96 => ?_))
       case hacc => assumption
       case hm => first | exact List.Perm.refl _ | exact perm_mid1 | exact perm_mid2 | exact perm_mid3 | exact perm_mid4
       case hx => first | exact SlC.rd (by assumption) | exact Rd.own (by repeat first | exact .head _ | refine .tail _ ?_ | refine List.mem_append_right _ ?_) rfl
       case hnl => first | rfl | (simp; done) | (simp; omega)
       case hne => first | rfl | exact ints_one _
       case hl => first | omega | (simp; omega)
       obtain ⟨b1, c1, rfl⟩ := hacc96.form
       refine Sa V.nc ?_
       refine Sa V.fa ?_
       refine Sa V.fa ?_
       refine Ss ?_
       refine Wn ?_
       refine rg ?_
       refine Sa V.bd ?_
       refine Ss ?_
       refine Wn ?_
       refine sq ?_
       refine WC.ret ?_
       refine' ⟨.inr rfl, rfl, _, _, .cell rfl (by repeat first | exact .head _ | refine .tail _ ?_ | refine List.mem_append_right _ ?_) (partA (tAg rfl) rfl) (.nil), (by first | exact .cons _ (List.Sublist.refl _) | exact List.Sublist.append (List.Sublist.refl _) (.cons _ (.cons _ (List.Sublist.refl _)))), ?_⟩
       first
         | (refine ⟨⟨k, tx, N, fk, nm⟩, _, mo, 11, p, rfl, by rw [rsC_f hfk], hacc, by first | exact Jm.le.refl _ | assumption, ?_⟩
            unfold tkS; rw [if_neg c9, if_pos c36, if_neg (by simpa using c51)]; exact ⟨rfl, by omega⟩)
         | (refine ⟨⟨k, s, N, fk, true⟩, _, mo, 0, 0, rfl, by rw [rsC_f hfk], hacc, by first | exact Jm.le.refl _ | assumption, ?_⟩
            unfold tkS; rw [if_neg c9, if_pos c36, if_pos (by simpa using c51)]; exact ⟨rfl, rfl, rfl⟩)
         | (refine ⟨⟨k, tx, N, fk, nm⟩, _, mo, 11, p - 1, rfl, by rw [rsC_f hfk], hacc, by first | exact Jm.le.refl _ | assumption, ?_⟩
            unfold tkS; rw [if_neg c9, if_neg c36, if_pos c63]; exact ⟨rfl, by omega⟩)
         | (refine ⟨⟨k, tx, N, fk, nm⟩, _, mo, 11, p, rfl, by rw [rsC_f hfk], hacc, by first | exact Jm.le.refl _ | assumption, ?_⟩
            unfold tkS; rw [if_neg c9, if_neg c36, if_neg c63]
            cases q : numS s with
            | none => exact ⟨rfl, by omega⟩
            | some n => rw [q] at c85; cases c85)
         | (cases q : numS s with
            | none => rw [q] at c85; cases c85
            | some n =>
              rw [q] at hacc96
              refine ⟨⟨k, tx, N ++ [n], fk, nm⟩, _, mo96, 0, 0, rfl, by rw [rsC_f hfk, List.append_nil]; exact List.perm_append_singleton _ _, ?_, by first | exact Jm.le.refl _ | assumption, ?_⟩
              · have h : Acc 3 1 _ (N.length + 1) (N.map (Value.int .i64) ++ [Value.int .i64 n]) mo96 := hacc96
                simpa using h
              · unfold tkS; rw [if_neg c9, if_neg c36, if_neg c63, q]; exact ⟨rfl, rfl, rfl⟩)
end
end Go.Opn

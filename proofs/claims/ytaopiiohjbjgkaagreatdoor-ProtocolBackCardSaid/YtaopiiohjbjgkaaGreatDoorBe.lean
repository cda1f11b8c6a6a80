/- A part of the proof of ProtocolBack. -/
import Derived.Test.YtaopiiohjbjgkaaGreatDoorBc
set_option maxRecDepth 100000
set_option maxHeartbeats 4000000
set_option linter.unusedVariables false
set_option linter.unusedSimpArgs false
namespace Go.Opn
open Go.Cre Go.RowKit Go.Proofs
theorem perm_dr {α : Type} {x y : α} {A B : List α} : (x :: (y :: (A ++ B))).Perm (y :: (A ++ (B ++ [x]))) := by
  rw [← List.append_assoc]; exact (List.perm_append_singleton x (y :: (A ++ B))).symm
theorem perm_ac {α : Type} {y : α} {A B : List α} : (y :: (A ++ B)).Perm (A ++ (y :: B)) := List.perm_middle.symm
theorem perm_mr {α : Type} {x : α} {A M : List α} : ((x :: (A ++ [])) ++ M).Perm (x :: (A ++ M)) := by rw [List.append_nil]; exact List.Perm.refl _
abbrev zl : List Value := [.int .i64 0, .string ⟨⟨[]⟩⟩, .slice none 0 0]
def PYd (F : ALoop → Prop) (lp a2 a3 a4 : Nat) : Rs ⊕ (Int × Int) → Mm → Jm → Prop
  | .inl rs, m, _ => ∃ r v mo, F r ∧ m = (a4, .row (rsC rs v) 60) :: (mo ++ [(lp, .loop r), (a3, .row [.int .i64 0, .int .i64 0] 30), (a2, .row zl 24)]) ∧ Acc 3 1 v rs.N.length (rs.N.map (Value.int .i64)) mo
  | .inr f, m, _ => ∃ r rs v mo, r.state = .done ∧ r.pending = some .ret ∧ m = (a4, .row (rsC rs v) 60) :: (mo ++ [(lp, .loop r), (a3, .row [.int .i64 f.1, .int .i64 f.2] 30), (a2, .row zl 24)]) ∧ f.1 ≠ 0
section
variable {Q : Worlds Tryz.prog} {g0 : Nat} {J : Jm}
def TakeC (a : Nat) (r : Rs) (p : Int) (w : List UInt8) (J : Jm) : Value → Mm → Jm → Prop := fun u m' J' => ∃ r' v' mo' e q, u = fltV e q ∧ m' = ((a, .row (rsC r' v') 60) :: (mo' ++ [])) ∧ Acc 3 1 v' r'.N.length (r'.N.map (Value.int .i64)) mo' ∧ J.le J' ∧ (match tkS r p w with | .inl r1 => r1 = r' ∧ e = 0 ∧ q = 0 | .inr f => f = (e, q) ∧ e ≠ 0)
theorem take_fn (L : Lb Q g0) (hG : Gl g0 J) {r : Rs} {v : Value} {mo : Mm} {a : Nat} {p : Int} {s : List UInt8} (hs : s.length ≤ 200) (hp : p ≤ 200) (hgd : Good r p) (hacc : Acc 3 1 v r.N.length (r.N.map (Value.int .i64)) mo) :
    Fn (kx Q g0) 20 [.pointer (some ⟨a, 0, none⟩), .int .i64 p, .string ⟨⟨s⟩⟩] ((a, .row (rsC r v) 60) :: (mo ++ [])) J (TakeC a r p s J) := by
  have hF : Fn (kx Q g0) 20 [.pointer (some ⟨a, 0, none⟩), .int .i64 p, .string ⟨⟨s⟩⟩] ((a, .row (rsC r v) 60) :: (mo ++ [])) J (TakeP a r p s J) := by
    obtain ⟨k, tx, N, fk, nm⟩ := r
    obtain ⟨h0, h1, h2, h3, h4⟩ := hgd
    by_cases hp0 : p = 0
    · subst hp0
      obtain rfl : fk = 0 := h1 rfl
      exact take0_fn hacc
    · exact takeN_fn L hG hs ⟨by omega, by omega⟩ (by simp only at h3; omega) (h2 hp0) hacc
  refine hF.perm fun u m' J' => ?_
  rintro ⟨r', v', mo', e, q, h1, h2, h3, h4, h5⟩
  exact ⟨_, h2, r', v', mo', e, q, h1, rfl, h3, h4, h5⟩
def ParP (s : List UInt8) (J : Jm) : Value → Mm → Jm → Prop := fun w m' J' => (∃ k tx N b n c e p, w = .tuple #[lineV k tx (.slice b n c), fltV e p] ∧ IntsR J' (.slice b n c) N ∧ (match parseS s with | .inl x => x = (k, tx, N) ∧ e = 0 ∧ p = 0 | .inr f => f = (e, p) ∧ e ≠ 0 ∧ k = 0 ∧ tx = [] ∧ N = [])) ∧ m' = [] ∧ J.le J'
theorem parse_fn (L : Lb Q g0) (hG : Gl g0 J) {s : List UInt8} (hs : s.length ≤ 1000000) : Fn (kx Q g0) 6 [.string ⟨⟨s⟩⟩] [] J (ParP s J) := by
  refine Fn.of_bodyL (ftGet Tryz.func6) rfl rfl fun H => ?_
  refine rg ?_
  refine' W.step rfl (.of (x_alloc rfl rfl rfl (ze24 Q g0) rfl rfl rfl fun a2 => ?_))
  refine' W.step rfl (.of (x_alloc rfl rfl rfl (ze30 Q g0) rfl rfl rfl fun a3 => ?_))
  refine Wn ?_
  refine rg ?_
  refine Sa V.mv ?_
  refine Sa V.lS ?_
  refine Sa V.vi ?_
  refine Wn ?_
  refine sq ?_
  first | refine WC.if rfl (fun c11 => ?_) (fun c11 => ?_) | refine WC.cond rfl (fun c11 => ?_) (fun c11 => ?_)
  ·
   refine rg ?_
   refine Sa V.bd ?_
   refine Sa V.bd ?_
   refine Ss ?_
   refine Ss ?_
   refine Wn ?_
   refine sq ?_
   refine WC.ret ?_
   refine' ⟨.inr rfl, _, _, [], (by first | exact .nil _ | exact .col (perm_pick 4 rfl (perm_pick 0 rfl (perm_pick 0 rfl (perm_pick 0 rfl (perm_pick 0 rfl .nil))))) (.nil _)), .cell rfl (by repeat first | exact .head _ | refine .tail _ ?_ | refine List.mem_append_right _ ?_) (partA (tAg rfl) rfl) (.cell rfl (by repeat first | exact .head _ | refine .tail _ ?_ | refine List.mem_append_right _ ?_) (partA (tAg rfl) rfl) (.nil)), List.nil_sublist _, ?_⟩
   first
     | (refine ⟨⟨0, [], [], none, 0, 0, 4, 200, rfl, ⟨3, .nil⟩, ?_⟩, rfl, Jm.le.refl _⟩
        unfold parseS; rw [if_pos (by omega)]; exact ⟨rfl, by omega, rfl, rfl, rfl⟩)
     | (refine ⟨⟨0, [], [], none, 0, 0, 11, s.length, rfl, ⟨3, .nil⟩, ?_⟩, rfl, hleW.trans hle3⟩
        unfold parseS; rw [if_neg (by omega), hrun]; dsimp only; rw [if_pos c41]; exact ⟨rfl, by omega, rfl, rfl, rfl⟩)
     | (refine ⟨⟨0, [], [], none, 0, 0, chk k tx N, 0, rfl, ⟨3, .nil⟩, ?_⟩, rfl, (hleW.trans hle3).trans hle5⟩
        unfold parseS; rw [if_neg (by omega), hrun]; dsimp only; rw [if_neg c41, if_pos c50]; exact ⟨rfl, c50, rfl, rfl, rfl⟩)
     | (refine ⟨⟨k, tx, N, b, N.length, c, 0, 0, rfl, hv.mono hle5, ?_⟩, rfl, (hleW.trans hle3).trans hle5⟩
        unfold parseS; rw [if_neg (by omega), hrun]; dsimp only; rw [if_neg c41, if_neg c50]; exact ⟨rfl, rfl, rfl⟩)
  ·
   refine sq ?_
   refine WC.skip ?_
   refine rg ?_
   refine' W.step rfl (.of (x_alloc rfl rfl rfl (ze60 Q g0) rfl rfl rfl fun a4 => ?_))
   refine Wn ?_
   refine rg ?_
   refine Sa V.mv ?_
   refine' W.step rfl (Exec.call rfl rfl rfl rfl rfl rfl rfl (mi := []) (.refl _) trivial (words_fn) ?_)
   rintro v m' J1 hle ⟨a1, rfl, rfl, rfl⟩
   refine Wn ?_
   refine sq ?_
   refine WC.block ?_
   refine sq ?_
   refine WC.rangeR rfl rfl (fun dr lp r hr => ?_)
   refine ⟨(a1, _) :: [(a4, _), (lp, _), (a3, _), (a2, _)], [(dr, _)], _, (perm_pick 2 rfl (perm_pick 2 rfl (perm_pick 0 rfl (perm_pick 1 rfl (perm_pick 1 rfl (perm_pick 0 rfl .nil)))))), trivial, words1_fn L (PY := PYd (fun r => Fresh r _ _ _ _ lp _) lp a2 a3 a4) (by omega) ⟨r, .slice none 0 0, [], hr, rfl, .nil⟩ ?hY, ?hend⟩
   case hY =>
     rintro J2 rs m p w hle2 ⟨r, v, mo, hr, rfl, hacc⟩ hgood hp hw
     have hG2 := hG.mono hle2
     refine Yd.ofR hr (by repeat first | exact .head _ | refine .tail _ ?_ | refine List.mem_append_right _ ?_) rfl rfl (fun H => ?_)
     refine rg ?_
     refine Sa V.asg ?_
     refine Wn ?_
     refine rg ?_
     refine Sa V.asg ?_
     refine Wn ?_
     refine ⟨rfl, _, (by repeat first | exact .head _ _ _ _ | apply Put.tail | apply Put.app), ?_⟩
     refine sq ?_
     refine WC.block ?_
     refine rg ?_
     refine Sa V.mv ?_
     refine Sa V.mv ?_
     refine' W.step rfl (Exec.call rfl rfl rfl rfl rfl rfl rfl (mi := (a4, _) :: (mo ++ [])) (mr := [_, _, _]) perm_mr trivial (take_fn L hG2 hw hp hgood hacc) ?_)
     rintro v' m' J1 hle1 ⟨r', v2, mo', e, q, rfl, rfl, hacc', hleT, hm⟩
     refine' W.step rfl (.of (x_alloc rfl rfl rfl (ze30 Q g0) rfl rfl rfl fun a7 => ?_))
     refine Ss ?_
     refine Wn ?_
     refine rg ?_
     refine Sa V.fa ?_
     refine Sa V.ld ?_
     refine Sa V.vi ?_
     refine Wn ?_
     refine sq ?_
     first | refine WC.if rfl (fun c23 => ?_) (fun c23 => ?_) | refine WC.cond rfl (fun c23 => ?_) (fun c23 => ?_)
     ·
      refine sq ?_
      refine WC.draw rfl (by kernel_rfl) (plan := [.val 0, .val 1, .chn 2, .chk [1], .chn 3]) (by kernel_rfl) ?_
      refine Da rfl V.bd ?_
      refine Da rfl V.ldA ?_
      refine Ds rfl ?_
      refine WD.chk ck ?_
      refine Ds rfl ?_
      refine WD.nil ?_
      refine sq ?_
      refine WC.ret ?_
      refine ⟨some .ret, _, _, _, rfl, (by repeat first | exact .head _ _ _ _ | apply Put.tail | apply Put.app), .cons _ (List.Sublist.refl _), ?_⟩
      cases ht : tkS rs p w with
      | inl r1 => rw [ht] at hm; exact absurd hm.2.1 c23
      | inr f =>
        rw [ht] at hm
        obtain ⟨rfl, he⟩ := hm
        exact ⟨rfl, ⟨⟨.done, some .ret, r.T, r.n, r.params, r.assign, r.body, r.dfr⟩, r', v2, mo', rfl, rfl, by simp, he⟩, hleT⟩
     ·
      refine sq ?_
      refine WC.skip ?_
      refine ⟨none, _, _, _, rfl, (by repeat first | exact .head _ _ _ _ | apply Put.tail | apply Put.app), .cons _ (List.Sublist.refl _), ?_⟩
      cases ht : tkS rs p w with
      | inr f => rw [ht] at hm; exact absurd hm.2 c23
      | inl r1 =>
        rw [ht] at hm
        obtain ⟨rfl, he, hq⟩ := hm
        exact ⟨rfl, ⟨_, v2, mo', hr.again, by simp, hacc'⟩, hleT⟩
   rintro v m' J1 hle1 ⟨hPY, hleW⟩
   cases hrun : runW rs0 0 (spl s)
   case inr f =>
     rw [hrun] at hPY
     obtain ⟨r, rs, v, mo, hst, hpd, rfl, hne⟩ := hPY
     refine ⟨r, (a4, _) :: (mo ++ [(lp, _), (a3, _), (a2, _), (dr, _)]), (by rw [List.cons_append, List.append_assoc]; exact .tail _ (Put.app (.head _ _ _ _))), (by rw [hst]; intro q; cases q), ?_⟩
     rw [hpd]
     refine' ⟨.inr rfl, _, _, [], .col (perm_dr (B := [_, _, _])) (.nil _), .cell rfl (by repeat first | exact .head _ | refine .tail _ ?_ | refine List.mem_append_right _ ?_) (partA (tAg rfl) rfl) (.cell rfl (by repeat first | exact .head _ | refine .tail _ ?_ | refine List.mem_append_right _ ?_) (partA (tAg rfl) rfl) .nil), List.nil_sublist _, ?_⟩
     refine ⟨⟨0, [], [], none, 0, 0, f.1, f.2, rfl, ⟨3, .nil⟩, ?_⟩, rfl, hleW⟩
     unfold parseS; rw [if_neg (by omega), hrun]
     exact ⟨rfl, hne, rfl, rfl, rfl⟩
   rename_i rs
   rw [hrun] at hPY
   obtain ⟨r, v, mo, hr, rfl, hacc⟩ := hPY
   refine ⟨r, (a4, _) :: (mo ++ [(lp, _), (a3, _), (a2, _), (dr, _)]), (by rw [List.cons_append, List.append_assoc]; exact .tail _ (Put.app (.head _ _ _ _))), (by rw [hr.st]; intro q; cases q), ?_⟩
   rw [hr.pd]
   obtain ⟨p', hgd, hp1, hp2, hp3⟩ := runW_good _ _ _ _ ⟨by omega, fun _ => rfl, fun q => absurd rfl q, by simp [rs0], by simp [rs0]⟩ hrun
   have hp2 := hp2 (spl_ne s)
   rw [spl_sum] at hp3
   obtain ⟨k, tx, N, fk, nm⟩ := rs
   obtain ⟨_, _, hfk, hN, htx⟩ := hgd
   have hfk := hfk (by omega)
   simp only at hfk hN htx hacc
   rw [rsC_f hfk]
   obtain ⟨b, c, rfl⟩ := hacc.form
   refine hacc.pubP perm_ac (fun J3 hle3 hsl => ?_)
   have hv : IntsR J3 (.slice b N.length c) N := ⟨3, hsl⟩
   refine' WC.weak (l' := [(0, _), (2, _), (3, _), (4, _)]) ⟨rfl, rfl, rfl, rfl, trivial⟩ (List.Sublist.refl _) ?_
   refine sq ?_
   refine' WC.cutK 0 [(41, .bool (decide ((nm ≠ named fk ∨ N.length < (counts fk).1))))] ?cr10 ?dr10
   case cr10 =>
    refine WC.region ?_
    refine Sa V.fa ?_
    refine Sa V.ld ?_
    refine Sa V.fa ?_
    refine Sa V.fa ?_
    refine Sa V.ld ?_
    refine' W.step rfl (Exec.val rfl rfl (v_boolEq rfl rfl rfl (.inr ⟨rfl, rfl⟩) (by kernel_rfl)) ?_)
    refine Sa V.mv ?_
    first | refine W.splitP (d := 32) rfl (fun gr10_6 => ?_) (fun gr10_6 => ?_) | refine W.split (d := 32) rfl (fun gr10_6 => ?_) (fun gr10_6 => ?_)
    ·
     refine Sn ?_
     refine Sn ?_
     refine Sn ?_
     refine Sn ?_
     refine Sn ?_
     refine Sn ?_
     refine Sn ?_
     refine Sn ?_
     refine Sa V.pk ?_
     refine Wn ?_
     refine' ⟨⟨_, rfl, ⟨?n41, rfl, rfl, rfl, rfl, trivial⟩⟩, List.Sublist.refl _, rfl⟩
     case n41 => first | exact cutT rfl (by first | omega | simp_all) | exact cutF rfl (by first | omega | simp_all) | exact cutI rfl (by first | omega | simp_all) | exact cutB rfl (by simp_all)
    ·
     refine Sb V.fa ?_
     refine Sb V.fa ?_
     refine Sb V.ld ?_
     refine Sb V.ls ?_
     refine Sb V.fa ?_
     refine Sb V.fa ?_
     refine Sb V.ld ?_
     refine Sb V.vi ?_
     refine Sa V.pk ?_
     refine Wn ?_
     refine' ⟨⟨_, rfl, ⟨?n41, rfl, rfl, rfl, rfl, trivial⟩⟩, List.Sublist.refl _, rfl⟩
     case n41 => first | exact cutT rfl (by first | omega | simp_all) | exact cutF rfl (by first | omega | simp_all) | exact cutI rfl (by first | omega | simp_all) | exact cutB rfl (by simp_all)
   case dr10 =>
    refine sq ?_
    first | refine WC.if rfl (fun c41 => ?_) (fun c41 => ?_) | refine WC.cond rfl (fun c41 => ?_) (fun c41 => ?_)
    ·
     refine rg ?_
     refine Sa V.bd ?_
     refine Sa V.mv ?_
     refine Sa V.lS ?_
     refine Sa V.bd ?_
     refine Ss ?_
     refine Ss ?_
     refine Wn ?_
     refine sq ?_
     refine WC.ret ?_
     refine' ⟨.inr rfl, _, _, [], (by first | exact .nil _ | exact .col (perm_pick 4 rfl (perm_pick 0 rfl (perm_pick 0 rfl (perm_pick 0 rfl (perm_pick 0 rfl .nil))))) (.nil _)), .cell rfl (by repeat first | exact .head _ | refine .tail _ ?_ | refine List.mem_append_right _ ?_) (partA (tAg rfl) rfl) (.cell rfl (by repeat first | exact .head _ | refine .tail _ ?_ | refine List.mem_append_right _ ?_) (partA (tAg rfl) rfl) (.nil)), List.nil_sublist _, ?_⟩
     first
       | (refine ⟨⟨0, [], [], none, 0, 0, 4, 200, rfl, ⟨3, .nil⟩, ?_⟩, rfl, Jm.le.refl _⟩
          unfold parseS; rw [if_pos (by omega)]; exact ⟨rfl, by omega, rfl, rfl, rfl⟩)
       | (refine ⟨⟨0, [], [], none, 0, 0, 11, s.length, rfl, ⟨3, .nil⟩, ?_⟩, rfl, hleW.trans hle3⟩
          unfold parseS; rw [if_neg (by omega), hrun]; dsimp only; rw [if_pos c41]; exact ⟨rfl, by omega, rfl, rfl, rfl⟩)
       | (refine ⟨⟨0, [], [], none, 0, 0, chk k tx N, 0, rfl, ⟨3, .nil⟩, ?_⟩, rfl, (hleW.trans hle3).trans hle5⟩
          unfold parseS; rw [if_neg (by omega), hrun]; dsimp only; rw [if_neg c41, if_pos c50]; exact ⟨rfl, c50, rfl, rfl, rfl⟩)
       | (refine ⟨⟨k, tx, N, b, N.length, c, 0, 0, rfl, hv.mono hle5, ?_⟩, rfl, (hleW.trans hle3).trans hle5⟩
          unfold parseS; rw [if_neg (by omega), hrun]; dsimp only; rw [if_neg c41, if_neg c50]; exact ⟨rfl, rfl, rfl⟩)
    ·
     refine sq ?_
     refine WC.skip ?_
     refine rg ?_
     refine Sa V.fa ?_
     refine Sa V.ldA ?_
     refine' W.step rfl (Exec.call rfl rfl rfl rfl rfl rfl rfl (mi := []) (.refl _) trivial (check_fn (hG.mono (hleW.trans hle3)) hv (by omega) (by omega)) ?_)
     rintro v' m' J4 hle4 ⟨rfl, rfl, hle5⟩
     refine Sa V.asg ?_
     refine Wn ?_
     refine rg ?_
     refine Sa V.mv ?_
     refine Sa V.vi ?_
     refine Wn ?_
     refine sq ?_
     first | refine WC.if rfl (fun c50 => ?_) (fun c50 => ?_) | refine WC.cond rfl (fun c50 => ?_) (fun c50 => ?_)
     ·
      refine rg ?_
      refine Sa V.bd ?_
      refine Sa V.mv ?_
      refine Sa V.bd ?_
      refine Ss ?_
      refine Ss ?_
      refine Wn ?_
      refine sq ?_
      refine WC.ret ?_
      refine' ⟨.inr rfl, _, _, [], (by first | exact .nil _ | exact .col (perm_pick 4 rfl (perm_pick 0 rfl (perm_pick 0 rfl (perm_pick 0 rfl (perm_pick 0 rfl .nil))))) (.nil _)), .cell rfl (by repeat first | exact .head _ | refine .tail _ ?_ | refine List.mem_append_right _ ?_) (partA (tAg rfl) rfl) (.cell rfl (by repeat first | exact .head _ | refine .tail _ ?_ | refine List.mem_append_right _ ?_) (partA (tAg rfl) rfl) (.nil)), List.nil_sublist _, ?_⟩
      first
        | (refine ⟨⟨0, [], [], none, 0, 0, 4, 200, rfl, ⟨3, .nil⟩, ?_⟩, rfl, Jm.le.refl _⟩
           unfold parseS; rw [if_pos (by omega)]; exact ⟨rfl, by omega, rfl, rfl, rfl⟩)
        | (refine ⟨⟨0, [], [], none, 0, 0, 11, s.length, rfl, ⟨3, .nil⟩, ?_⟩, rfl, hleW.trans hle3⟩
           unfold parseS; rw [if_neg (by omega), hrun]; dsimp only; rw [if_pos c41]; exact ⟨rfl, by omega, rfl, rfl, rfl⟩)
        | (refine ⟨⟨0, [], [], none, 0, 0, chk k tx N, 0, rfl, ⟨3, .nil⟩, ?_⟩, rfl, (hleW.trans hle3).trans hle5⟩
           unfold parseS; rw [if_neg (by omega), hrun]; dsimp only; rw [if_neg c41, if_pos c50]; exact ⟨rfl, c50, rfl, rfl, rfl⟩)
        | (refine ⟨⟨k, tx, N, b, N.length, c, 0, 0, rfl, hv.mono hle5, ?_⟩, rfl, (hleW.trans hle3).trans hle5⟩
           unfold parseS; rw [if_neg (by omega), hrun]; dsimp only; rw [if_neg c41, if_neg c50]; exact ⟨rfl, rfl, rfl⟩)
     ·
      refine sq ?_
      refine WC.skip ?_
      refine rg ?_
      refine Sa V.fa ?_
      refine Sa V.ldA ?_
      refine Sa V.bd ?_
      refine Ss ?_
      refine Ss ?_
      refine Wn ?_
      refine sq ?_
      refine WC.ret ?_
      refine' ⟨.inr rfl, _, _, [], (by first | exact .nil _ | exact .col (perm_pick 4 rfl (perm_pick 0 rfl (perm_pick 0 rfl (perm_pick 0 rfl (perm_pick 0 rfl .nil))))) (.nil _)), .cell rfl (by repeat first | exact .head _ | refine .tail _ ?_ | refine List.mem_append_right _ ?_) (partA (tAg rfl) rfl) (.cell rfl (by repeat first | exact .head _ | refine .tail _ ?_ | refine List.mem_append_right _ ?_) (partA (tAg rfl) rfl) (.nil)), List.nil_sublist _, ?_⟩
      first
        | (refine ⟨⟨0, [], [], none, 0, 0, 4, 200, rfl, ⟨3, .nil⟩, ?_⟩, rfl, Jm.le.refl _⟩
           unfold parseS; rw [if_pos (by omega)]; exact ⟨rfl, by omega, rfl, rfl, rfl⟩)
        | (refine ⟨⟨0, [], [], none, 0, 0, 11, s.length, rfl, ⟨3, .nil⟩, ?_⟩, rfl, hleW.trans hle3⟩
           unfold parseS; rw [if_neg (by omega), hrun]; dsimp only; rw [if_pos c41]; exact ⟨rfl, by omega, rfl, rfl, rfl⟩)
        | (refine ⟨⟨0, [], [], none, 0, 0, chk k tx N, 0, rfl, ⟨3, .nil⟩, ?_⟩, rfl, (hleW.trans hle3).trans hle5⟩
           unfold parseS; rw [if_neg (by omega), hrun]; dsimp only; rw [if_neg c41, if_pos c50]; exact ⟨rfl, c50, rfl, rfl, rfl⟩)
        | (refine ⟨⟨k, tx, N, b, N.length, c, 0, 0, rfl, hv.mono hle5, ?_⟩, rfl, (hleW.trans hle3).trans hle5⟩
           unfold parseS; rw [if_neg (by omega), hrun]; dsimp only; rw [if_neg c41, if_neg c50]; exact ⟨rfl, rfl, rfl⟩)
end
end Go.Opn

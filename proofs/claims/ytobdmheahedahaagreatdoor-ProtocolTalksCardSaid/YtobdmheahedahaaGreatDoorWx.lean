/- A part of the proof of ProtocolTalks. -/
import Derived.Test.YtobdmheahedahaaGreatDoorWw
set_option maxRecDepth 100000
set_option maxHeartbeats 4000000
set_option linter.unusedVariables false
set_option linter.unusedSimpArgs false
namespace Go.Opn
open Go.Cre Go.RowKit Go.Proofs
theorem views_off {ls : List Ln} (hok : LnsOk ls) : ∀ x ∈ viewsS ls, x.off.length ≤ 1000000 := by
  intro x hx
  unfold viewsS at hx
  obtain ⟨y, hy, hv⟩ := List.mem_filterMap.1 hx
  unfold viewOf at hv
  split at hv
  · injection hv with hv; subst hv
    have := (hok y hy).2
    simp; omega
  · cases hv
theorem views_all (ls : List Ln) : (viewsS ls).length ≤ ls.length := List.length_filterMap_le _ _
theorem runG_len {ls : List Ln} (hok : LnsOk ls) : ∀ {t : Tk} {i : Nat}, t.off.length ≤ 1000000 → (runG t i ls).1.off.length ≤ 1000000 := by
  induction ls with
  | nil => intro t i h; exact h
  | cons x ls ih =>
    intro t i h
    rw [runG]
    split
    · simp [tk0]
    · exact ih (fun y hy => hok y (.tail _ hy)) (stepS_len h (hok x (.head _)).2)
section
variable {Q : Worlds Tryz.prog} {g0 : Nat} {J : Jm}
variable {ph pl st k : Int} {tx : List UInt8} {O N : List Int} {bo bv bl : Option Addr} {no co nv cv nl cl : Nat} {ls : List Ln}
theorem talks_fn (hAw : ∀ J, Fn (kx Q g0) 4 [] [] J (Ret (.bool true) J)) (hG : Gl g0 J) (hO : IntsR J (.slice bo no co) O) (hN : IntsR J (.slice bv nv cv) N) (hL : LinesR J (.slice bl nl cl) ls) (ht : tx.length ≤ 140737488355328) (hls : ∀ x ∈ ls, x.tx.length ≤ 140737488355328) (hb : ls.length ≤ 9223372036854775807) :
    Fn (kx Q g0) 3 [talkV ph pl st (.slice bo no co), lineV k tx (.slice bv nv cv), .slice bl nl cl] [] J (fun w m' J' => w = .bool true) := by
  obtain ⟨rfl, _, _⟩ := hO.get
  obtain ⟨rfl, _, _⟩ := hN.get
  obtain ⟨rfl, hg⟩ := hL.get
  obtain ⟨eO, hslO⟩ := id hO
  refine Fn.of_body (ftGet Tryz.func3) rfl rfl fun H => ?_
  refine rg ?_
  refine' W.step rfl (.of (x_box rfl rfl rfl rfl rfl rfl fun a3 => ?_))
  refine' W.step rfl (.of (x_box rfl rfl rfl rfl rfl rfl fun a4 => ?_))
  refine Sa V.asg ?_
  refine Wn ?_
  refine rg ?_
  refine Sa V.fa ?_
  refine Sa V.ld ?_
  refine Sa V.ls ?_
  refine Sa V.vi ?_
  refine Sa V.mv ?_
  first | refine W.splitP (d := 23) rfl (fun gr1_4 => ?_) (fun gr1_4 => ?_) | refine W.split (d := 23) rfl (fun gr1_4 => ?_) (fun gr1_4 => ?_)
  ·
   refine Sn ?_
   refine Sn ?_
   refine Sn ?_
   refine Sn ?_
   refine Sa V.pk ?_
   refine Sa V.mv ?_
   refine Sn ?_
   refine Sn ?_
   refine Sn ?_
   refine Sa V.pk ?_
   refine Wn ?_
   refine sq ?_
   refine WC.condT rfl ?_
   refine rg ?_
   refine' W.step rfl (Exec.call rfl rfl rfl rfl rfl rfl rfl (mi := []) (.refl _) trivial (hAw _) ?_)
   rintro v m' J' hle ⟨rfl, rfl, rfl⟩
   refine Sa V.asg ?_
   refine Wn ?_
   refine sq ?_
   refine WC.ret ?_
   refine' ⟨.inr rfl, rfl, _, [], .tmp rfl .nil, List.nil_sublist _, ?_⟩
   rfl
  ·
   refine Sb V.fa ?_
   refine Sb V.ld ?_
   refine Sb V.ls ?_
   refine Sb V.vi ?_
   refine Sa V.pk ?_
   refine Sa V.mv ?_
   first | refine W.splitP (d := 29) rfl (fun gr1_10 => ?_) (fun gr1_10 => ?_) | refine W.split (d := 29) rfl (fun gr1_10 => ?_) (fun gr1_10 => ?_)
   ·
    refine Sn ?_
    refine Sn ?_
    refine Sn ?_
    refine Sa V.pk ?_
    refine Wn ?_
    refine sq ?_
    refine WC.condT rfl ?_
    refine rg ?_
    refine' W.step rfl (Exec.call rfl rfl rfl rfl rfl rfl rfl (mi := []) (.refl _) trivial (hAw _) ?_)
    rintro v m' J' hle ⟨rfl, rfl, rfl⟩
    refine Sa V.asg ?_
    refine Wn ?_
    refine sq ?_
    refine WC.ret ?_
    refine' ⟨.inr rfl, rfl, _, [], .tmp rfl .nil, List.nil_sublist _, ?_⟩
    rfl
   ·
    refine Sb V.mv ?_
    refine Sb V.ls ?_
    refine Sb V.vi ?_
    refine Sa V.pk ?_
    refine Wn ?_
    refine sq ?_
    first | refine WC.if rfl (fun c33 => ?_) (fun c33 => ?_) | refine WC.cond rfl (fun c33 => ?_) (fun c33 => ?_)
    ·
     refine rg ?_
     refine' W.step rfl (Exec.call rfl rfl rfl rfl rfl rfl rfl (mi := []) (.refl _) trivial (hAw _) ?_)
     rintro v m' J' hle ⟨rfl, rfl, rfl⟩
     refine Sa V.asg ?_
     refine Wn ?_
     refine sq ?_
     refine WC.ret ?_
     refine' ⟨.inr rfl, rfl, _, [], .tmp rfl .nil, List.nil_sublist _, ?_⟩
     rfl
    ·
     refine sq ?_
     refine WC.skip ?_
     refine rg ?_
     refine Sa V.asg ?_
     refine Wn ?_
     refine sq ?_
     refine WC.block ?_
     refine' WC.weak (l' := [(7, .int .i64 ((0) : Int)), (2, _), (3, _), (4, _)]) ⟨?w7, rfl, rfl, rfl, trivial⟩ (List.Sublist.refl _) ?_
     case w7 => first | rfl | exact congrArg some (congrArg (Value.int .i64) (by omega))
     refine sq ?_
     refine' WC.loopC (α := (Nat)) (fun (i : Nat) => [(7, .int .i64 (i : Int))]) (fun (i : Nat) => i ≤ ls.length ∧ ∀ j x, j < i → ls[j]? = some x → x.N.length ≤ 60) (fun (i : Nat) => ls.length - i) (0) ?hs ?hstep
     case hs => exact ⟨by omega, fun j x hj => absurd hj (by omega)⟩
     case hstep =>
      rintro i hinv
      try simp only at hinv
      obtain ⟨hi, hok⟩ := hinv
      refine rg ?_
      refine Sa V.mv ?_
      refine Sa V.mv ?_
      refine Sa V.ls ?_
      refine Sa V.vi ?_
      refine Wn ?_
      refine sq ?_
      first | refine WC.if rfl (fun c38 => ?_) (fun c38 => ?_) | refine WC.cond rfl (fun c38 => ?_) (fun c38 => ?_)
      ·
       have hlt : i < ls.length := by omega
       obtain ⟨x, hx⟩ : ∃ x, ls[i]? = some x := ⟨_, List.getElem?_eq_getElem hlt⟩
       obtain ⟨a, off, cells, e, rfl, hJ, hget⟩ := hg (by omega)
       obtain ⟨b', c', htk, hNx⟩ := hget i x hx
       obtain ⟨hnk, hnt, hnv⟩ := line_nth htk
       refine sq ?_
       refine WC.skip ?_
       refine sq ?_
       refine WC.block ?_
       refine rg ?_
       refine Sa V.mv ?_
       refine Sa V.mv ?_
       refine Sa V.ix ?_
       refine Sa V.fa ?_
       refine Sa V.ld ?_
       refine Sa V.ls ?_
       refine Sa V.vi ?_
       refine Wn ?_
       refine sq ?_
       first | refine WC.if rfl (fun c47 => ?_) (fun c47 => ?_) | refine WC.cond rfl (fun c47 => ?_) (fun c47 => ?_)
       ·
        refine rg ?_
        refine' W.step rfl (Exec.call rfl rfl rfl rfl rfl rfl rfl (mi := []) (.refl _) trivial (hAw _) ?_)
        rintro v m' J' hle ⟨rfl, rfl, rfl⟩
        refine Sa V.asg ?_
        refine Wn ?_
        refine sq ?_
        refine WC.ret ?_
        refine' ⟨.inr rfl, rfl, _, [], .tmp rfl .nil, List.nil_sublist _, ?_⟩
        rfl
       ·
        refine sq ?_
        refine WC.skip ?_
        refine rg ?_
        refine Sa V.mv ?_
        refine Sa V.va ?_
        refine Sa V.asg ?_
        refine Wn ?_
        refine' ⟨(i + 1), _, ?hinv, ?hmeas, rfl, ⟨?m7, rfl, rfl, rfl, trivial⟩, List.Sublist.refl _, rfl⟩
        case m7 => first | rfl | exact congrArg some (congrArg (Value.int .i64) (by omega))
        case hmeas => first | omega | (simp only; omega)
        case hinv => refine ⟨by omega, fun j y hj hy => ?_⟩; rcases Nat.lt_or_ge j i with q | q; exact hok j y q hy; obtain rfl : j = i := (by omega); rw [hx] at hy; injection hy with hy; subst hy; omega
      ·
       have hlok : LnsOk ls := fun x hx => by
         obtain ⟨j, hj⟩ := List.getElem?_of_mem hx
         exact ⟨hls x hx, by have := hok j x (by have := (List.getElem?_eq_some_iff.1 hj).1; omega) hj; omega⟩
       have hlO : O.length ≤ 1000000 := by omega
       have hlN : N.length ≤ 1000000 := by omega
       have hl10 : ls.length ≤ 10000 := by omega
       refine sq ?_
       refine WC.exit ?_
       refine rg ?_
       refine' W.step rfl (.of (x_buildSlice rfl rfl rfl rfl (sb22 Q g0) rfl rfl rfl fun a49 => ?_))
       refine Sa V.fa ?_
       refine Sa V.ld ?_
       refine' W.step rfl (.of (x_accP rfl rfl rfl rfl rfl rfl (sb22 Q g0) (un22 Q g0) (fun i q => by cases q) ?hacc ?hm ?hx ?hnl ?hne ?hl fun w52 mo52 hacc52 => ?_))
       case hacc => exact .emp _
       case hm => first | exact List.Perm.refl _ | exact perm_mid1 | exact perm_mid2 | exact perm_mid3 | exact perm_mid4
       case hx => exact hslO.rd
       case hnl => simp
       case hne => exact ints_one _
       case hl => omega
       refine Sa V.asg ?_
       refine Wn ?_
       obtain ⟨b52, c52, rfl⟩ := hacc52.form
       refine Acc.pubP hacc52 (.refl _) (fun J4 hle4 hsl4 => ?_)
       rw [Nat.zero_add] at hsl4 ⊢
       rw [List.nil_append] at hsl4
       have hO4 : IntsR J4 (.slice b52 O.length c52) O := ⟨3, hsl4⟩
       refine rg ?_
       refine Sa V.ldA ?_
       refine Sa V.ldA ?_
       refine' W.step rfl (Exec.call rfl rfl rfl rfl rfl rfl rfl (mi := []) (.refl _) trivial (Step_fn (hG.mono hle4) (hO.mono hle4) (hN.mono hle4) ht hlO hlN) ?_)
       rintro v m' J5 hle5 ⟨⟨b5, c5, rfl, hA⟩, rfl, _⟩; have h5 := hle4.trans hle5
       refine Sa V.mv ?_
       refine Sa V.ex ?_
       refine Sa V.ex ?_
       refine' W.step rfl (.of (x_alloc rfl rfl rfl (ze24 Q g0) rfl rfl rfl fun a9 => ?_))
       refine Ss ?_
       refine Sa V.asg ?_
       refine Wn ?_
       refine rg ?_
       refine Sa V.ldA ?_
       refine Sa V.ldA ?_
       refine' W.step rfl (Exec.call rfl rfl rfl rfl rfl rfl rfl (mi := []) (.refl _) trivial (rStep_fn (hO.mono h5) (hN.mono h5) ht hlO hlN) ?_)
       rintro v m' J6 hle6 ⟨⟨b6, c6, rfl, hB⟩, rfl, _⟩; have h6 := h5.trans hle6
       refine Sa V.mv ?_
       refine Sa V.ex ?_
       refine Sa V.ex ?_
       refine' W.step rfl (.of (x_alloc rfl rfl rfl (ze24 Q g0) rfl rfl rfl fun a11 => ?_))
       refine Ss ?_
       refine Sa V.asg ?_
       refine Wn ?_
       refine rg ?_
       refine Sa V.mv ?_
       refine' W.step rfl (Exec.call rfl rfl rfl rfl rfl rfl rfl (mi := []) (.refl _) trivial (run_fn36 (hG.mono h6) (hL.mono h6) hlok hl10) ?_)
       rintro v m' J7 hle7 ⟨⟨b7, c7, rfl, hC⟩, rfl, _⟩; have h7 := h6.trans hle7
       refine Sa V.mv ?_
       refine Sa V.ex ?_
       refine Sa V.ex ?_
       refine' W.step rfl (.of (x_alloc rfl rfl rfl (ze24 Q g0) rfl rfl rfl fun a13 => ?_))
       refine' W.step rfl (.of (x_alloc rfl rfl rfl (ze33 Q g0) rfl rfl rfl fun a14 => ?_))
       refine Ss ?_
       refine Ss ?_
       refine Wn ?_
       refine rg ?_
       refine Sa V.mv ?_
       refine' W.step rfl (Exec.call rfl rfl rfl rfl rfl rfl rfl (mi := []) (.refl _) trivial (rRun_fn (hL.mono h7) hlok hl10) ?_)
       rintro v m' J8 hle8 ⟨⟨b8, c8, rfl, hD⟩, rfl, _⟩; have h8 := h7.trans hle8
       refine Sa V.mv ?_
       refine Sa V.ex ?_
       refine Sa V.ex ?_
       refine' W.step rfl (.of (x_alloc rfl rfl rfl (ze24 Q g0) rfl rfl rfl fun a15 => ?_))
       refine' W.step rfl (.of (x_alloc rfl rfl rfl (ze33 Q g0) rfl rfl rfl fun a16 => ?_))
       refine Ss ?_
       refine Ss ?_
       refine Wn ?_
       refine rg ?_
       refine Sa V.mv ?_
       refine' W.step rfl (Exec.call rfl rfl rfl rfl rfl rfl rfl (mi := []) (.refl _) trivial (views_fn (hL.mono h8) hlok hl10) ?_)
       rintro v m' J9 hle9 ⟨hV, rfl, _⟩; obtain ⟨b9, c9, rfl⟩ := hV.form; have h9 := h8.trans hle9
       refine Sa V.mv ?_
       refine' W.step rfl (Exec.call rfl rfl rfl rfl rfl rfl rfl (mi := []) (.refl _) trivial (rViews_fn (hL.mono h9) hlok hl10) ?_)
       rintro v m' J10 hle10 ⟨hW, rfl, _⟩; obtain ⟨b10, c10, rfl⟩ := hW.form; have h10 := h9.trans hle10
       refine Sa V.asg ?_
       refine Sa V.asg ?_
       refine Wn ?_
       refine rg ?_
       refine Sa V.ldA ?_
       refine Sa V.ldA ?_
       refine' W.step rfl (Exec.call rfl rfl rfl rfl rfl rfl rfl (mi := []) (.refl _) trivial (sameTalk_fn (hA.mono (hle6.trans (hle7.trans (hle8.trans (hle9.trans hle10))))) (hB.mono (hle7.trans (hle8.trans (hle9.trans hle10)))) (stepS_len hlO hlN)) ?_)
       rintro v m' J' hle ⟨rfl, rfl, rfl⟩
       refine Sa V.mv ?_
       first | refine W.splitP (d := 82) rfl (fun gr14_3 => ?_) (fun gr14_3 => ?_) | refine W.split (d := 82) rfl (fun gr14_3 => ?_) (fun gr14_3 => ?_)
       ·
        refine Sb V.mv ?_
        refine Sb V.mv ?_
        refine Sb V.vi ?_
        refine Sa V.pk ?_
        refine Sa V.mv ?_
        first | refine W.splitP (d := 87) rfl (fun gr14_8 => ?_) (fun gr14_8 => ?_) | refine W.split (d := 87) rfl (fun gr14_8 => ?_) (fun gr14_8 => ?_)
        ·
         refine Sb V.ldA ?_
         refine Sb V.ldA ?_
         refine' W.guardY rfl rfl rfl (Exec.call rfl rfl rfl rfl rfl rfl rfl (mi := []) (.refl _) trivial (sameTalk_fn (hC.mono (hle8.trans (hle9.trans hle10))) (hD.mono (hle9.trans hle10)) (runG_len hlok (by simp [tk0]))) ?_)
         rintro v m' J' hle ⟨rfl, rfl, rfl⟩
         refine Sa V.pk ?_
         refine Sa V.mv ?_
         first | refine W.splitP (d := 92) rfl (fun gr14_13 => ?_) (fun gr14_13 => ?_) | refine W.split (d := 92) rfl (fun gr14_13 => ?_) (fun gr14_13 => ?_)
         ·
          refine Sb V.ldA ?_
          refine Sb V.ldA ?_
          refine' W.guardY rfl rfl rfl (Exec.val rfl rfl (v_ints rfl (.inl ⟨rfl, rfl⟩) rfl rfl (in33 Q g0) (la := [_, _]) (bs := [_, _]) rfl rfl rfl rfl) ?_)
          refine Sa V.pk ?_
          refine Sa V.mv ?_
          first | refine W.splitP (d := 97) rfl (fun gr14_18 => ?_) (fun gr14_18 => ?_) | refine W.split (d := 97) rfl (fun gr14_18 => ?_) (fun gr14_18 => ?_)
          ·
           refine Sb V.mv ?_
           refine Sb V.mv ?_
           refine' W.guardY rfl rfl rfl (Exec.call rfl rfl rfl rfl rfl rfl rfl (mi := []) (.refl _) trivial (alikeSights_fn (hV.mono hle10) hW (views_off hlok) (by have := views_all ls; omega)) ?_)
           rintro v m' J' hle ⟨rfl, rfl, rfl⟩
           refine Sa V.pk ?_
           refine Sa V.mv ?_
           first | refine W.splitP (d := 102) rfl (fun gr14_23 => ?_) (fun gr14_23 => ?_) | refine W.split (d := 102) rfl (fun gr14_23 => ?_) (fun gr14_23 => ?_)
           ·
            refine Sb V.fa ?_
            refine Sb V.ld ?_
            refine Sb V.mv ?_
            refine' W.guardY rfl rfl rfl (Exec.call rfl rfl rfl rfl rfl rfl rfl (mi := []) (.refl _) trivial (alike_fn (hO.mono h10) (hO4.mono (hle5.trans (hle6.trans (hle7.trans (hle8.trans (hle9.trans hle10)))))) hlO) ?_)
            rintro v m' J' hle ⟨rfl, rfl, rfl⟩
            refine Sa V.pk ?_
            refine Sa V.mv ?_
            first | refine W.splitP (d := 108) rfl (fun gr14_29 => ?_) (fun gr14_29 => ?_) | refine W.split (d := 108) rfl (fun gr14_29 => ?_) (fun gr14_29 => ?_)
            ·
             refine' W.guardY rfl rfl rfl (Exec.call rfl rfl rfl rfl rfl rfl rfl (mi := []) (.refl _) trivial (hAw _) ?_)
             rintro v m' J' hle ⟨rfl, rfl, rfl⟩
             refine Sa V.pk ?_
             refine Sa V.asg ?_
             refine Wn ?_
             refine sq ?_
             refine WC.ret ?_
             refine' ⟨.inr rfl, rfl, _, [], .tmp rfl .nil, List.nil_sublist _, ?_⟩
             rfl
            ·
             exfalso; exact gr14_29 (by simp)
           ·
            exfalso; simp at gr14_23
          ·
           exfalso; exact gr14_18 (by simp)
         ·
          exfalso; exact gr14_13 (by simp)
        ·
         exfalso; exact gr14_8 (by simp)
       ·
        exfalso; exact gr14_3 (by simp)
end
end Go.Opn

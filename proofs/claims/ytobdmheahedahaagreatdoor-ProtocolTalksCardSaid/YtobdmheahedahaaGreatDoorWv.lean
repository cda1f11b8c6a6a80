/- A part of the proof of ProtocolTalks. -/
import Derived.Test.YtobdmheahedahaaGreatDoorWs
import Derived.Test.YtobdmheahedahaaGreatDoorWt
set_option maxRecDepth 100000
set_option maxHeartbeats 4000000
set_option linter.unusedVariables false
set_option linter.unusedSimpArgs false
namespace Go.Opn
open Go.Cre Go.RowKit Go.Proofs
/-- the conversation behind lines, from a conversation on -/
noncomputable def runG : Tk → Nat → List Ln → Tk × Int × Int
  | t, _, [] => (t, 0, 0)
  | t, i, x :: ls => if (stepS t x.k x.tx x.N).2 ≠ 0 then (tk0, (stepS t x.k x.tx x.N).2, i) else runG (stepS t x.k x.tx x.N).1 (i + 1) ls
noncomputable def runS (ls : List Ln) : Tk × Int × Int := runG tk0 0 ls
/-- lines of moderate size -/
def LnsOk (ls : List Ln) : Prop := ∀ x ∈ ls, x.tx.length ≤ 140737488355328 ∧ x.N.length ≤ 1000000
theorem ite_len {c : Prop} [Decidable c] {a b : Tk × Int} {M : Nat} (ha : a.1.off.length ≤ M) (hb : b.1.off.length ≤ M) : (if c then a else b).1.off.length ≤ M := by split <;> assumption
theorem stepS_len {t : Tk} {k : Int} {tx : List UInt8} {N : List Int} (h1 : t.off.length ≤ 1000000) (h2 : N.length ≤ 1000000) : (stepS t k tx N).1.off.length ≤ 1000000 := by
  unfold stepS
  split
  · simp [tk0]
  · unfold stepOK
    repeat' (apply ite_len)
    all_goals first | exact h1 | exact h2 | exact Nat.zero_le _
theorem runG_step {ls : List Ln} {i : Nat} {x : Ln} {t : Tk} (hx : ls[i]? = some x) : runG t i (ls.drop i) = if (stepS t x.k x.tx x.N).2 ≠ 0 then (tk0, (stepS t x.k x.tx x.N).2, (i : Int)) else runG (stepS t x.k x.tx x.N).1 (i + 1) (ls.drop (i + 1)) := by
  have hi : i < ls.length := (List.getElem?_eq_some_iff.1 hx).1
  rw [List.drop_eq_getElem_cons hi]
  have : ls[i] = x := by rw [List.getElem?_eq_getElem hi] at hx; injection hx
  rw [this]; rfl
def RunT (r : Tk × Int × Int) (J : Jm) : Value → Mm → Jm → Prop := fun w m' J' => (∃ b c, w = .tuple #[talkV r.1.ph r.1.pl r.1.st (.slice b r.1.off.length c), .agg #[.int .i64 r.2.1, .int .i64 r.2.2]] ∧ IntsR J' (.slice b r.1.off.length c) r.1.off) ∧ m' = [] ∧ J.le J'
section
variable {Q : Worlds Tryz.prog} {g0 : Nat} {J : Jm}
theorem run_fn36 (hG : Gl g0 J) {ls : List Ln} {bl : Option Addr} {nl cl : Nat} (hL : LinesR J (.slice bl nl cl) ls) (hok : LnsOk ls) (hn : ls.length ≤ 10000) : Fn (kx Q g0) 7 [.slice bl nl cl] [] J (RunT (runS ls) J) := by
  obtain ⟨rfl, hg⟩ := hL.get
  refine Fn.of_body (ftGet Tryz.func7) rfl rfl fun H => ?_
  refine rg ?_
  refine' W.step rfl (.of (x_alloc rfl rfl rfl (ze24 Q g0) rfl rfl rfl fun a2 => ?_))
  refine' W.step rfl (.of (x_alloc rfl rfl rfl (ze33 Q g0) rfl rfl rfl fun a3 => ?_))
  refine Wn ?_
  refine rg ?_
  refine Sa V.mv ?_
  refine Sa V.ls ?_
  refine Sa V.vi ?_
  refine Wn ?_
  refine sq ?_
  first | refine WC.if rfl (fun c12 => ?_) (fun c12 => ?_) | refine WC.cond rfl (fun c12 => ?_) (fun c12 => ?_)
  ·
   exfalso; omega
  ·
   refine sq ?_
   refine WC.skip ?_
   refine rg ?_
   refine' W.step rfl (Exec.call rfl rfl rfl rfl rfl rfl rfl (mi := []) (.refl _) trivial (conv_fn) ?_)
   rintro v m' J1 hle1 ⟨bm, a1', a2', c1, c2, a6, c3, rfl, rfl, hcv, hle1'⟩
   refine Sa V.asg ?_
   refine Wn ?_
   refine rg ?_
   refine' W.step rfl (.of (x_alloc rfl rfl rfl (ze24 Q g0) rfl rfl rfl fun a5 => ?_))
   refine Wn ?_
   refine rg ?_
   refine Sa V.mv ?_
   refine Sa V.ls ?_
   refine Sa V.mv ?_
   refine Wn ?_
   refine sq ?_
   refine WC.block ?_
   refine sq ?_
   refine WC.permM (perm_pick 1 rfl (perm_pick 0 rfl (perm_pick 0 rfl (perm_pick 0 rfl .nil)))) ?_
   refine' WC.weak (l' := [(18, .int .i64 ((0) : Int)), (2, _), (3, _), (4, _), (5, _), (16, _), (17, _)]) ⟨?w18, rfl, rfl, rfl, rfl, rfl, rfl, trivial⟩ (List.Sublist.refl _) ?_
   case w18 => first | rfl | exact congrArg some (congrArg (Value.int .i64) (by omega))
   refine sq ?_
   refine' WC.loopG (α := (Nat) × (Tk) × (Jm) × (Option Addr) × (Nat)) (fun (gh_ : (Nat) × (Tk) × (Jm) × (Option Addr) × (Nat)) => match gh_ with | (i, t, Jc, b5, c5) => [(18, .int .i64 (i : Int))]) (fun (gh_ : (Nat) × (Tk) × (Jm) × (Option Addr) × (Nat)) => match gh_ with | (i, t, Jc, b5, c5) => [cvB bm a1' a2' c1 c2 c3, (a5, PB.row [.int .i64 t.ph, .int .i64 t.pl, .int .i64 t.st, .slice b5 t.off.length c5] 24), (a3, PB.row [.int .i64 0, .int .i64 0] 33), (a2, PB.row [.int .i64 0, .int .i64 0, .int .i64 0, .slice none 0 0] 24)]) (fun (gh_ : (Nat) × (Tk) × (Jm) × (Option Addr) × (Nat)) => match gh_ with | (i, t, Jc, b5, c5) => Jc) (fun (gh_ : (Nat) × (Tk) × (Jm) × (Option Addr) × (Nat)) => match gh_ with | (i, t, Jc, b5, c5) => i ≤ ls.length ∧ J1.le Jc ∧ IntsR Jc (.slice b5 t.off.length c5) t.off ∧ t.off.length ≤ 1000000 ∧ runS ls = runG t i (ls.drop i)) (fun (gh_ : (Nat) × (Tk) × (Jm) × (Option Addr) × (Nat)) => match gh_ with | (i, t, Jc, b5, c5) => ls.length - i) ⟨0, tk0, J1, none, 0⟩ ?hs ?hstep
   case hs => exact ⟨by omega, Jm.le.refl _, IntsR.nil, by simp [tk0], rfl⟩
   case hstep =>
    rintro ⟨i, t, Jc, b5, c5⟩ hinv
    try simp only at hinv
    obtain ⟨hi, hleC, hT, hTl, hrun⟩ := hinv
    refine rg ?_
    refine Sa V.vi ?_
    refine Wn ?_
    refine sq ?_
    first | refine WC.if rfl (fun c19 => ?_) (fun c19 => ?_) | refine WC.cond rfl (fun c19 => ?_) (fun c19 => ?_)
    ·
     have hlt : i < ls.length := by omega
     obtain ⟨x, hx⟩ : ∃ x, ls[i]? = some x := ⟨_, List.getElem?_eq_getElem hlt⟩
     obtain ⟨a, off, cells, e, rfl, hJ, hget⟩ := hg (by omega)
     obtain ⟨b', c', htk, hN⟩ := hget i x hx
     have hJc := hleC _ _ (hle1 _ _ hJ)
     have hok1 := (hok x (List.mem_of_getElem? hx)).1
     have hok2 := (hok x (List.mem_of_getElem? hx)).2
     refine sq ?_
     refine WC.skip ?_
     refine sq ?_
     refine WC.block ?_
     refine rg ?_
     refine Sa V.mv ?_
     refine Sa V.ix ?_
     refine Sa V.ldA ?_
     refine' W.step rfl (.of (x_alloc rfl rfl rfl (ze26 Q g0) rfl rfl rfl fun a7 => ?_))
     refine Sa V.asg ?_
     refine Ss ?_
     refine Wn ?_
     refine rg ?_
     refine Sa V.mv ?_
     refine Sa V.ldA ?_
     refine Sa V.ldA ?_
     refine' W.step rfl (Exec.call rfl rfl rfl rfl rfl rfl rfl (mi := [_]) (mr := [_, _, _, _]) (perm_pick 1 rfl (perm_pick 0 rfl (perm_pick 0 rfl (perm_pick 0 rfl (perm_pick 0 rfl .nil))))) trivial (step_fn ((hG.mono hle1).mono hleC) (hcv.mono hleC) hT (hN.mono (hle1.trans hleC)).r hok1 hTl hok2) ?_)
     rintro v m' J2 hle2 ⟨⟨bq, cq, rfl, hO2⟩, rfl, hle2'⟩
     refine Sa V.mv ?_
     refine Sa V.ex ?_
     refine Sa V.ex ?_
     refine' W.step rfl (.of (x_alloc rfl rfl rfl (ze24 Q g0) rfl rfl rfl fun a8 => ?_))
     refine Ss ?_
     refine Sa V.asg ?_
     refine Wn ?_
     refine rg ?_
     refine Sa V.mv ?_
     refine Sa V.vi ?_
     refine Wn ?_
     refine sq ?_
     first | refine WC.if rfl (fun c31 => ?_) (fun c31 => ?_) | refine WC.cond rfl (fun c31 => ?_) (fun c31 => ?_)
     ·
      refine rg ?_
      refine Sa V.bd ?_
      refine Sa V.mv ?_
      refine Sa V.mv ?_
      refine Sa V.bd ?_
      refine Ss ?_
      refine Ss ?_
      refine Wn ?_
      refine sq ?_
      refine WC.ret ?_
      refine' ⟨.inr rfl, rfl, _, [], .cell rfl (by repeat first | exact .head _ | refine .tail _ ?_ | refine List.mem_append_right _ ?_) (partA (tAg rfl) rfl) (.cell rfl (by repeat first | exact .head _ | refine .tail _ ?_ | refine List.mem_append_right _ ?_) (partA (tAg rfl) rfl) (.nil)), List.nil_sublist _, ?_⟩
      first
        | (have hr : runS ls = (tk0, (stepS t x.k x.tx x.N).2, (i : Int)) := by rw [hrun, runG_step hx, if_pos c31]
           rw [hr]; exact ⟨⟨_, _, rfl, IntsR.nil⟩, rfl, hle1.trans (hleC.trans hle2)⟩)
        | (have hr : runS ls = (t, 0, 0) := by rw [hrun, List.drop_eq_nil_of_le (by omega)]; rfl
           rw [hr]; exact ⟨⟨_, _, rfl, hT⟩, rfl, hle1.trans hleC⟩)
     ·
      refine sq ?_
      refine WC.skip ?_
      refine rg ?_
      refine Sa V.ldA ?_
      refine Ss ?_
      refine Wn ?_
      refine rg ?_
      refine Sa V.va ?_
      refine Sa V.mv ?_
      refine Wn ?_
      refine' ⟨⟨i + 1, (stepS t x.k x.tx x.N).1, J2, bq, cq⟩, _, ?hinv, ?hmeas, rfl, ⟨?m18, rfl, rfl, rfl, rfl, rfl, rfl, trivial⟩, .cons _ (.cons_cons _ (.cons _ (.refl _))), rfl⟩
      case m18 => first | rfl | exact congrArg some (congrArg (Value.int .i64) (by omega))
      case hmeas => first | omega | (simp only; omega)
      case hinv => exact ⟨by omega, hleC.trans hle2, hO2, stepS_len hTl (hok x (List.mem_of_getElem? hx)).2, by rw [hrun, runG_step hx, if_neg c31]⟩
    ·
     refine sq ?_
     refine WC.exit ?_
     refine rg ?_
     refine Sa V.ldA ?_
     refine Sa V.bd ?_
     refine Ss ?_
     refine Ss ?_
     refine Wn ?_
     refine sq ?_
     refine WC.ret ?_
     refine' ⟨.inr rfl, rfl, _, [], .cell rfl (by repeat first | exact .head _ | refine .tail _ ?_ | refine List.mem_append_right _ ?_) (partA (tAg rfl) rfl) (.cell rfl (by repeat first | exact .head _ | refine .tail _ ?_ | refine List.mem_append_right _ ?_) (partA (tAg rfl) rfl) (.nil)), List.nil_sublist _, ?_⟩
     first
       | (have hr : runS ls = (tk0, (stepS t x.k x.tx x.N).2, (i : Int)) := by rw [hrun, runG_step hx, if_pos c31]
          rw [hr]; exact ⟨⟨_, _, rfl, IntsR.nil⟩, rfl, hle1.trans (hleC.trans hle2)⟩)
       | (have hr : runS ls = (t, 0, 0) := by rw [hrun, List.drop_eq_nil_of_le (by omega)]; rfl
          rw [hr]; exact ⟨⟨_, _, rfl, hT⟩, rfl, hle1.trans hleC⟩)
theorem rRun_fn {ls : List Ln} {bl : Option Addr} {nl cl : Nat} (hL : LinesR J (.slice bl nl cl) ls) (hok : LnsOk ls) (hn : ls.length ≤ 10000) : Fn (kx Q g0) 8 [.slice bl nl cl] [] J (RunT (runS ls) J) := by
  obtain ⟨rfl, hg⟩ := hL.get
  refine Fn.of_body (ftGet Tryz.func8) rfl rfl fun H => ?_
  refine rg ?_
  refine' W.step rfl (.of (x_alloc rfl rfl rfl (ze24 Q g0) rfl rfl rfl fun a2 => ?_))
  refine' W.step rfl (.of (x_alloc rfl rfl rfl (ze33 Q g0) rfl rfl rfl fun a3 => ?_))
  refine Wn ?_
  refine rg ?_
  refine Sa V.mv ?_
  refine Sa V.ls ?_
  refine Sa V.vi ?_
  refine Wn ?_
  refine sq ?_
  first | refine WC.if rfl (fun c10 => ?_) (fun c10 => ?_) | refine WC.cond rfl (fun c10 => ?_) (fun c10 => ?_)
  ·
   exfalso; omega
  ·
   refine sq ?_
   refine WC.skip ?_
   refine rg ?_
   refine' W.step rfl (.of (x_alloc rfl rfl rfl (ze24 Q g0) rfl rfl rfl fun a4 => ?_))
   refine Wn ?_
   refine rg ?_
   refine Sa V.asg ?_
   refine Wn ?_
   refine sq ?_
   refine WC.block ?_
   refine' WC.weak (l' := [(5, .int .i64 ((0) : Int)), (0, _), (2, _), (3, _), (4, _)]) ⟨?w5, rfl, rfl, rfl, rfl, trivial⟩ (List.Sublist.refl _) ?_
   case w5 => first | rfl | exact congrArg some (congrArg (Value.int .i64) (by omega))
   refine sq ?_
   refine' WC.loopG (α := (Nat) × (Tk) × (Jm) × (Option Addr) × (Nat)) (fun (gh_ : (Nat) × (Tk) × (Jm) × (Option Addr) × (Nat)) => match gh_ with | (i, t, Jc, b5, c5) => [(5, .int .i64 (i : Int))]) (fun (gh_ : (Nat) × (Tk) × (Jm) × (Option Addr) × (Nat)) => match gh_ with | (i, t, Jc, b5, c5) => [(a4, PB.row [.int .i64 t.ph, .int .i64 t.pl, .int .i64 t.st, .slice b5 t.off.length c5] 24), (a3, PB.row [.int .i64 0, .int .i64 0] 33), (a2, PB.row [.int .i64 0, .int .i64 0, .int .i64 0, .slice none 0 0] 24)]) (fun (gh_ : (Nat) × (Tk) × (Jm) × (Option Addr) × (Nat)) => match gh_ with | (i, t, Jc, b5, c5) => Jc) (fun (gh_ : (Nat) × (Tk) × (Jm) × (Option Addr) × (Nat)) => match gh_ with | (i, t, Jc, b5, c5) => i ≤ ls.length ∧ J.le Jc ∧ IntsR Jc (.slice b5 t.off.length c5) t.off ∧ t.off.length ≤ 1000000 ∧ runS ls = runG t i (ls.drop i)) (fun (gh_ : (Nat) × (Tk) × (Jm) × (Option Addr) × (Nat)) => match gh_ with | (i, t, Jc, b5, c5) => ls.length - i) ⟨0, tk0, J, none, 0⟩ ?hs ?hstep
   case hs => exact ⟨by omega, Jm.le.refl _, IntsR.nil, by simp [tk0], rfl⟩
   case hstep =>
    rintro ⟨i, t, Jc, b5, c5⟩ hinv
    try simp only at hinv
    obtain ⟨hi, hleC, hT, hTl, hrun⟩ := hinv
    refine rg ?_
    refine Sa V.mv ?_
    refine Sa V.mv ?_
    refine Sa V.ls ?_
    refine Sa V.vi ?_
    refine Wn ?_
    refine sq ?_
    first | refine WC.if rfl (fun c16 => ?_) (fun c16 => ?_) | refine WC.cond rfl (fun c16 => ?_) (fun c16 => ?_)
    ·
     have hlt : i < ls.length := by omega
     obtain ⟨x, hx⟩ : ∃ x, ls[i]? = some x := ⟨_, List.getElem?_eq_getElem hlt⟩
     obtain ⟨a, off, cells, e, rfl, hJ, hget⟩ := hg (by omega)
     obtain ⟨b', c', htk, hN⟩ := hget i x hx
     have hJc := hleC _ _ hJ
     have hok1 := (hok x (List.mem_of_getElem? hx)).1
     have hok2 := (hok x (List.mem_of_getElem? hx)).2
     have haT := hT.addr
     have haN := hN.r.addr
     refine sq ?_
     refine WC.skip ?_
     refine sq ?_
     refine WC.block ?_
     refine sq ?_
     refine WC.draw rfl (by kernel_rfl) (plan := [.alc 9, .val 0, .val 1, .val 2, .val 3, .val 4, .chn 5, .val 6, .val 7, .val 8, .chn 10, .val 11, .chk [8]]) (by kernel_rfl) ?_
     refine WD.alloc rfl rfl rfl rfl rfl (ze24 Q g0) rfl rfl rfl fun a6 => ?_
     refine Da rfl V.ldA ?_
     refine Da rfl V.mv ?_
     refine Da rfl V.mv ?_
     refine Da rfl V.ix ?_
     refine Da rfl V.ldA ?_
     refine' WD.call rfl rfl rfl rfl rfl rfl rfl rfl rfl rfl (mi := []) (.refl _) trivial (rStep_fn hT (hN.mono hleC).r hok1 hTl hok2) ?_
     rintro v m' J2 hle2 ⟨⟨bq, cq, rfl, hO2⟩, rfl, hle2'⟩
     refine Da rfl V.mv ?_
     refine Da rfl V.ex ?_
     refine Da rfl V.ex ?_
     refine Ds rfl ?_
     refine Da rfl V.asg ?_
     refine WD.chk ck ?_
     refine WD.nil ?_
     refine rg ?_
     refine Sa V.mv ?_
     refine Sa V.vi ?_
     refine Wn ?_
     refine sq ?_
     first | refine WC.if rfl (fun c29 => ?_) (fun c29 => ?_) | refine WC.cond rfl (fun c29 => ?_) (fun c29 => ?_)
     ·
      refine rg ?_
      refine Sa V.bd ?_
      refine Sa V.mv ?_
      refine Sa V.mv ?_
      refine Sa V.bd ?_
      refine Ss ?_
      refine Ss ?_
      refine Wn ?_
      refine sq ?_
      refine WC.ret ?_
      refine' ⟨.inr rfl, rfl, _, [], .cell rfl (by repeat first | exact .head _ | refine .tail _ ?_ | refine List.mem_append_right _ ?_) (partA (tAg rfl) rfl) (.cell rfl (by repeat first | exact .head _ | refine .tail _ ?_ | refine List.mem_append_right _ ?_) (partA (tAg rfl) rfl) (.nil)), List.nil_sublist _, ?_⟩
      first
        | (have hr : runS ls = (tk0, (stepS t x.k x.tx x.N).2, (i : Int)) := by rw [hrun, runG_step hx, if_pos c29]
           rw [hr]; exact ⟨⟨_, _, rfl, IntsR.nil⟩, rfl, hleC.trans hle2⟩)
        | (have hr : runS ls = (t, 0, 0) := by rw [hrun, List.drop_eq_nil_of_le (by omega)]; rfl
           rw [hr]; exact ⟨⟨_, _, rfl, hT⟩, rfl, hleC⟩)
     ·
      refine sq ?_
      refine WC.skip ?_
      refine rg ?_
      refine Sa V.ldA ?_
      refine Ss ?_
      refine Wn ?_
      refine rg ?_
      refine Sa V.mv ?_
      refine Sa V.va ?_
      refine Sa V.asg ?_
      refine Wn ?_
      refine' ⟨⟨i + 1, (stepS t x.k x.tx x.N).1, J2, bq, cq⟩, _, ?hinv, ?hmeas, rfl, ⟨?m5, rfl, rfl, rfl, rfl, trivial⟩, .cons _ (.refl _), rfl⟩
      case m5 => first | rfl | exact congrArg some (congrArg (Value.int .i64) (by omega))
      case hmeas => first | omega | (simp only; omega)
      case hinv => exact ⟨by omega, hleC.trans hle2, hO2, stepS_len hTl (hok x (List.mem_of_getElem? hx)).2, by rw [hrun, runG_step hx, if_neg c29]⟩
    ·
     refine sq ?_
     refine WC.exit ?_
     refine rg ?_
     refine Sa V.ldA ?_
     refine Sa V.bd ?_
     refine Ss ?_
     refine Ss ?_
     refine Wn ?_
     refine sq ?_
     refine WC.ret ?_
     refine' ⟨.inr rfl, rfl, _, [], .cell rfl (by repeat first | exact .head _ | refine .tail _ ?_ | refine List.mem_append_right _ ?_) (partA (tAg rfl) rfl) (.cell rfl (by repeat first | exact .head _ | refine .tail _ ?_ | refine List.mem_append_right _ ?_) (partA (tAg rfl) rfl) (.nil)), List.nil_sublist _, ?_⟩
     first
       | (have hr : runS ls = (tk0, (stepS t x.k x.tx x.N).2, (i : Int)) := by rw [hrun, runG_step hx, if_pos c29]
          rw [hr]; exact ⟨⟨_, _, rfl, IntsR.nil⟩, rfl, hleC.trans hle2⟩)
       | (have hr : runS ls = (t, 0, 0) := by rw [hrun, List.drop_eq_nil_of_le (by omega)]; rfl
          rw [hr]; exact ⟨⟨_, _, rfl, hT⟩, rfl, hleC⟩)
end
end Go.Opn

/- A part of the proof of ProtocolTalks. -/
import Derived.Test.YtobdmheahedahaaGreatDoorWv
import Derived.Test.YtobdmheahedahaaGreatDoorOpnT
set_option maxRecDepth 100000
set_option maxHeartbeats 4000000
set_option linter.unusedVariables false
set_option linter.unusedSimpArgs false
namespace Go.Opn
open Go.Cre Go.RowKit Go.Proofs
/-- the sight that a line tells of -/
def viewOf (x : Ln) : Option Sg := if x.k = 4 ∧ 4 ≤ x.N.length then some ⟨x.N[0]?.getD 0, x.N[1]?.getD 0, x.N[2]?.getD 0, x.N[3]?.getD 0, x.N.drop 4⟩ else none
def viewsS (ls : List Ln) : List Sg := ls.filterMap viewOf
theorem views_step {ls : List Ln} {i : Nat} {x : Ln} (hx : ls[i]? = some x) : viewsS (ls.take (i + 1)) = viewsS (ls.take i) ++ (match viewOf x with | some s => [s] | none => []) := by
  have hi : i < ls.length := (List.getElem?_eq_some_iff.1 hx).1
  have hx' : ls[i] = x := by rw [List.getElem?_eq_getElem hi] at hx; injection hx
  unfold viewsS
  rw [List.take_succ_eq_append_getElem hi, List.filterMap_append, hx']
  cases h : viewOf x <;> simp [List.filterMap, h]
theorem views_no {ls : List Ln} {i : Nat} {x : Ln} (hx : ls[i]? = some x) (h : ¬ (x.k = 4 ∧ 4 ≤ x.N.length)) : viewsS (ls.take (i + 1)) = viewsS (ls.take i) := by
  rw [views_step hx]; unfold viewOf; rw [if_neg h]; simp
theorem views_yes {ls : List Ln} {i : Nat} {x : Ln} {x0 x1 x2 x3 : Int} (hx : ls[i]? = some x) (h : x.k = 4 ∧ 4 ≤ x.N.length) (h0 : x.N[0]? = some x0) (h1 : x.N[1]? = some x1) (h2 : x.N[2]? = some x2) (h3 : x.N[3]? = some x3) : viewsS (ls.take (i + 1)) = viewsS (ls.take i) ++ [⟨x0, x1, x2, x3, x.N.drop 4⟩] := by
  rw [views_step hx]; unfold viewOf; rw [if_pos h, h0, h1, h2, h3]; rfl
theorem views_len (ls : List Ln) (i : Nat) : (viewsS (ls.take i)).length ≤ ls.length := by
  have h1 : (viewsS (ls.take i)).length ≤ (ls.take i).length := List.length_filterMap_le _ _
  rw [List.length_take] at h1; omega
section
variable {Q : Worlds Tryz.prog} {g0 : Nat} {J : Jm}
def ViewP (ss : List Sg) (J : Jm) : Value → Mm → Jm → Prop := fun w m' J' => SightsR J' w ss ∧ m' = [] ∧ J.le J'
theorem line_nth {off i : Nat} {cells : List Value} {v0 v1 v2 : Value} (h : takeN 3 (dropN (off + ((i : Nat) : Int).toNat * 3) cells) = some [v0, v1, v2]) : nth cells (off + ((i : Nat) : Int).toNat * 3 + 0) = some v0 ∧ nth cells (off + ((i : Nat) : Int).toNat * 3 + 1) = some v1 ∧ nth cells (off + ((i : Nat) : Int).toNat * 3 + 2) = some v2 := by
  obtain ⟨h1, _, h3⟩ := takeN_eq h
  rw [dropN_eq] at h1 h3
  have key : ∀ j, j < 3 → cells[off + ((i : Nat) : Int).toNat * 3 + j]? = [v0, v1, v2][j]? := fun j hj => by
    rw [h1, List.getElem?_take, if_pos hj, List.getElem?_drop]
  simp only [nth_eq]
  exact ⟨key 0 (by omega), key 1 (by omega), key 2 (by omega)⟩
theorem views_fn {ls : List Ln} {bl : Option Addr} {nl cl : Nat} (hL : LinesR J (.slice bl nl cl) ls) (hok : LnsOk ls) (hn : ls.length ≤ 10000) : Fn (kx Q g0) 9 [.slice bl nl cl] [] J (ViewP (viewsS ls) J) := by
  obtain ⟨rfl, hg⟩ := hL.get
  refine Fn.of_body (ftGet Tryz.func9) rfl rfl fun H => ?_
  refine rg ?_
  refine Sa V.asg ?_
  refine Wn ?_
  refine rg ?_
  refine Sa V.asg ?_
  refine Wn ?_
  refine rg ?_
  refine Sa V.mv ?_
  refine Sa V.ls ?_
  refine Sa V.mv ?_
  refine Wn ?_
  refine sq ?_
  refine WC.block ?_
  refine' WC.weak (l' := [(8, .int .i64 ((0) : Int)), (3, (.slice none 0 0)), (6, _), (7, _)]) ⟨?w8, ?w3, rfl, rfl, trivial⟩ (List.Sublist.refl _) ?_
  case w8 => first | rfl | exact congrArg some (congrArg (Value.int .i64) (by omega))
  case w3 => first | rfl | exact congrArg some (congrArg (Value.int .i64) (by omega))
  refine sq ?_
  refine' WC.loopG (α := (Nat) × (Value) × (Mm) × (List Value) × (Jm)) (fun (gh_ : (Nat) × (Value) × (Mm) × (List Value) × (Jm)) => match gh_ with | (i, v, mo, cs, Jc) => [(8, .int .i64 (i : Int)), (3, v)]) (fun (gh_ : (Nat) × (Value) × (Mm) × (List Value) × (Jm)) => match gh_ with | (i, v, mo, cs, Jc) => mo ++ []) (fun (gh_ : (Nat) × (Value) × (Mm) × (List Value) × (Jm)) => match gh_ with | (i, v, mo, cs, Jc) => Jc) (fun (gh_ : (Nat) × (Value) × (Mm) × (List Value) × (Jm)) => match gh_ with | (i, v, mo, cs, Jc) => i ≤ ls.length ∧ J.le Jc ∧ Acc 53 5 v (viewsS (ls.take i)).length cs mo ∧ SgsC Jc cs (viewsS (ls.take i))) (fun (gh_ : (Nat) × (Value) × (Mm) × (List Value) × (Jm)) => match gh_ with | (i, v, mo, cs, Jc) => ls.length - i) ⟨0, .slice none 0 0, [], [], J⟩ ?hs ?hstep
  case hs => exact ⟨by omega, Jm.le.refl _, .nil, .nil⟩
  case hstep =>
   rintro ⟨i, v, mo, cs, Jc⟩ hinv
   try simp only at hinv
   obtain ⟨hi, hleC, hacc, hsg⟩ := hinv
   refine rg ?_
   refine Sa V.vi ?_
   refine Wn ?_
   refine sq ?_
   first | refine WC.if rfl (fun c9 => ?_) (fun c9 => ?_) | refine WC.cond rfl (fun c9 => ?_) (fun c9 => ?_)
   ·
    have hlt : i < ls.length := by omega
    obtain ⟨x, hx⟩ : ∃ x, ls[i]? = some x := ⟨_, List.getElem?_eq_getElem hlt⟩
    obtain ⟨a, off, cells, e, rfl, hJ, hget⟩ := hg (by omega)
    obtain ⟨b', c', htk, hN⟩ := hget i x hx
    have hJc := hleC _ _ hJ
    have hok2 := (hok x (List.mem_of_getElem? hx)).2
    have hNc := hN.mono hleC
    have hslN : SlC Jc 3 1 (.slice b' x.N.length c') x.N.length (x.N.map (Value.int .i64)) := hNc
    obtain ⟨_, _, hra⟩ := hNc.r.get
    refine sq ?_
    refine WC.skip ?_
    refine sq ?_
    refine WC.block ?_
    refine rg ?_
    refine Sa V.ix ?_
    refine Sa V.ldA ?_
    refine' W.step rfl (.of (x_alloc rfl rfl rfl (ze26 Q g0) rfl rfl rfl fun a5 => ?_))
    refine Ss ?_
    refine Wn ?_
    refine rg ?_
    refine Sa V.fa ?_
    refine Sa V.ld ?_
    refine Sa V.vi ?_
    refine Sa V.mv ?_
    first | refine W.splitP (d := 15) rfl (fun gr5_3 => ?_) (fun gr5_3 => ?_) | refine W.split (d := 15) rfl (fun gr5_3 => ?_) (fun gr5_3 => ?_)
    ·
     refine Sb V.fa ?_
     refine Sb V.ld ?_
     refine Sb V.ls ?_
     refine Sb V.vi ?_
     refine Sa V.pk ?_
     refine Wn ?_
     refine sq ?_
     first | refine WC.if rfl (fun c20 => ?_) (fun c20 => ?_) | refine WC.cond rfl (fun c20 => ?_) (fun c20 => ?_)
     ·
      obtain ⟨bv, cv, rfl, hbv⟩ := hacc.formA
      obtain ⟨aN, oN, clN, eN, rfl, hJN, hgN⟩ := hra (by omega)
      obtain ⟨x0, hx0, hn0⟩ := hgN 0 (by omega) (by omega)
      obtain ⟨x1, hx1, hn1⟩ := hgN 1 (by omega) (by omega)
      obtain ⟨x2, hx2, hn2⟩ := hgN 2 (by omega) (by omega)
      obtain ⟨x3, hx3, hn3⟩ := hgN 3 (by omega) (by omega)
      obtain ⟨b40, c40, hcut, hsl40⟩ := cut_ints (j := 4) hslN (by omega) (by omega)
      have hr40 : IntsR Jc (.slice b40 (x.N.drop 4).length c40) (x.N.drop 4) := ⟨3, hsl40⟩
      have hv40 := hr40.addr
      have hvN := hNc.r.addr
      refine sq ?_
      refine WC.draw rfl (by kernel_rfl) (plan := [.val 0, .val 1, .val 2, .val 3, .val 4, .val 5, .val 6, .val 7, .val 8, .val 9, .val 10, .val 11, .val 12, .val 13, .val 14, .val 15, .val 16, .val 17, .val 18, .val 19, .chn 20, .val 21, .alc 22, .chk [21, 16, 15, 14, 13, 12, 11, 10, 9, 8, 7, 6, 5, 4, 3, 2, 1, 0], .chn 23, .chn 24]) (by kernel_rfl) ?_
      refine Da rfl V.mv ?_
      refine Da rfl V.fa ?_
      refine Da rfl V.ld ?_
      refine Da rfl V.ix ?_
      refine Da rfl V.ld ?_
      refine Da rfl V.fa ?_
      refine Da rfl V.ld ?_
      refine Da rfl V.ix ?_
      refine Da rfl V.ld ?_
      refine Da rfl V.fa ?_
      refine Da rfl V.ld ?_
      refine Da rfl V.ix ?_
      refine Da rfl V.ld ?_
      refine Da rfl V.fa ?_
      refine Da rfl V.ld ?_
      refine Da rfl V.ix ?_
      refine Da rfl V.ld ?_
      refine Da rfl V.fa ?_
      refine Da rfl V.ld ?_
      refine' WD.val rfl rfl rfl rfl (v_slice rfl rfl (sb22 Q g0) ?hv ?hk rfl rfl ?h0 ?h1 ?h2 ?hw) ?_
      case hv => assumption
      case hk => first | omega | (simp; omega)
      case h0 => first | omega | (simp; omega)
      case h1 => first | omega | (simp; omega)
      case h2 => first | omega | (simp; omega)
      case hw => assumption
      refine' WD.call rfl rfl rfl rfl rfl rfl rfl rfl rfl rfl (mi := []) (.refl _) trivial (clone_fn hr40 (by rw [List.length_drop]; omega)) ?_
      rintro v' m' J2 hle2 ⟨⟨b41, c41, rfl, hcl⟩, rfl, hle2'⟩; have hv41 := hcl.addr; have hJN2 := hle2 _ _ hJN
      refine Da rfl V.bd ?_
      refine WD.buildSlice rfl rfl rfl rfl rfl rfl (sb36 Q g0) rfl rfl rfl fun a43 => ?_
      refine WD.chk ck ?_
      refine' WD.chnX rfl rfl (x_accP rfl rfl rfl rfl rfl rfl (sb36 Q g0) (un36 Q g0) (fun i q => by cases q) ?hacc ?hm ?hx ?hnl ?hne ?hl fun w44 mo44 hacc44 => ?_)
      case hacc => assumption
      case hm => first | exact List.Perm.refl _ | exact perm_mid1 | exact perm_mid2 | exact perm_mid3 | exact perm_mid4
      case hx => first | exact SlC.rd (by assumption) | exact Rd.own (by repeat first | exact .head _ | refine .tail _ ?_ | refine List.mem_append_right _ ?_) rfl
      case hnl => first | rfl | (simp; done) | (simp; omega)
      case hne => first | rfl | exact ints_one _
      case hl => (have := views_len ls i; omega)
      refine Db rfl V.asg ?_
      refine WD.nil ?_
      refine rg ?_
      refine Sa V.va ?_
      refine Sa V.mv ?_
      refine Wn ?_
      refine' ⟨⟨i + 1, w44, mo44, cs ++ [.int .i64 x0, .int .i64 x1, .int .i64 x2, .int .i64 x3, .slice b41 (x.N.drop 4).length c41], J2⟩, _, ?hinv, ?hmeas, rfl, ⟨?m8, ?m3, rfl, rfl, trivial⟩, List.Sublist.append (.refl _) (List.nil_sublist _), rfl⟩
      case m8 => first | rfl | exact congrArg some (congrArg (Value.int .i64) (by omega))
      case m3 => first | rfl | exact congrArg some (congrArg (Value.int .i64) (by omega))
      case hmeas => first | omega | (simp only; omega)
      case hinv => show _ ∧ _ ∧ _ ∧ _; (rw [views_yes hx ⟨gr5_3, by omega⟩ hx0 hx1 hx2 hx3]; refine ⟨by omega, hleC.trans hle2, ?_, .snoc (x := ⟨x0, x1, x2, x3, x.N.drop 4⟩) (hsg.mono hle2) hcl⟩; rw [List.length_append]; exact hacc44)
     ·
      refine sq ?_
      refine WC.skip ?_
      refine rg ?_
      refine Sa V.va ?_
      refine Sa V.mv ?_
      refine Wn ?_
      refine' ⟨⟨i + 1, v, mo, cs, Jc⟩, _, ?hinv, ?hmeas, rfl, ⟨?m8, ?m3, rfl, rfl, trivial⟩, .cons _ (.refl _), rfl⟩
      case m8 => first | rfl | exact congrArg some (congrArg (Value.int .i64) (by omega))
      case m3 => first | rfl | exact congrArg some (congrArg (Value.int .i64) (by omega))
      case hmeas => first | omega | (simp only; omega)
      case hinv => show _ ∧ _ ∧ _ ∧ _; (rw [views_no hx (by first | omega | simp_all)]; exact ⟨by omega, hleC, hacc, hsg⟩)
    ·
     refine Sn ?_
     refine Sn ?_
     refine Sn ?_
     refine Sn ?_
     refine Sa V.pk ?_
     refine Wn ?_
     refine sq ?_
     refine WC.condF rfl ?_
     refine sq ?_
     refine WC.skip ?_
     refine rg ?_
     refine Sa V.va ?_
     refine Sa V.mv ?_
     refine Wn ?_
     refine' ⟨⟨i + 1, v, mo, cs, Jc⟩, _, ?hinv, ?hmeas, rfl, ⟨?m8, ?m3, rfl, rfl, trivial⟩, .cons _ (.refl _), rfl⟩
     case m8 => first | rfl | exact congrArg some (congrArg (Value.int .i64) (by omega))
     case m3 => first | rfl | exact congrArg some (congrArg (Value.int .i64) (by omega))
     case hmeas => first | omega | (simp only; omega)
     case hinv => show _ ∧ _ ∧ _ ∧ _; (rw [views_no hx (by first | omega | simp_all)]; exact ⟨by omega, hleC, hacc, hsg⟩)
   ·
    refine sq ?_
    refine WC.exit ?_
    refine Acc.pubP hacc (.refl _) (fun J7 hle7 hsl7 => ?_)
    refine rg ?_
    refine Sa V.mv ?_
    refine Sa V.asg ?_
    refine Wn ?_
    refine sq ?_
    refine WC.ret ?_
    refine' ⟨.inr rfl, rfl, _, [], .tmp rfl .nil, List.nil_sublist _, ?_⟩
    (rw [List.take_of_length_le (by omega)] at hsl7 hsg; exact ⟨⟨53, cs, hsl7, hsg.mono hle7⟩, rfl, hleC.trans hle7⟩)
theorem rViews_fn {ls : List Ln} {bl : Option Addr} {nl cl : Nat} (hL : LinesR J (.slice bl nl cl) ls) (hok : LnsOk ls) (hn : ls.length ≤ 10000) : Fn (kx Q g0) 10 [.slice bl nl cl] [] J (ViewP (viewsS ls) J) := by
  obtain ⟨rfl, hg⟩ := hL.get
  refine Fn.of_body (ftGet Tryz.func10) rfl rfl fun H => ?_
  refine rg ?_
  refine Sa V.asg ?_
  refine Wn ?_
  refine rg ?_
  refine Sa V.asg ?_
  refine Wn ?_
  refine rg ?_
  refine Sa V.asg ?_
  refine Wn ?_
  refine sq ?_
  refine WC.block ?_
  refine' WC.weak (l' := [(4, .int .i64 ((0) : Int)), (3, (.slice none 0 0)), (0, _)]) ⟨?w4, ?w3, rfl, trivial⟩ (List.Sublist.refl _) ?_
  case w4 => first | rfl | exact congrArg some (congrArg (Value.int .i64) (by omega))
  case w3 => first | rfl | exact congrArg some (congrArg (Value.int .i64) (by omega))
  refine sq ?_
  refine' WC.loopG (α := (Nat) × (Value) × (Mm) × (List Value) × (Jm)) (fun (gh_ : (Nat) × (Value) × (Mm) × (List Value) × (Jm)) => match gh_ with | (i, v, mo, cs, Jc) => [(4, .int .i64 (i : Int)), (3, v)]) (fun (gh_ : (Nat) × (Value) × (Mm) × (List Value) × (Jm)) => match gh_ with | (i, v, mo, cs, Jc) => mo ++ []) (fun (gh_ : (Nat) × (Value) × (Mm) × (List Value) × (Jm)) => match gh_ with | (i, v, mo, cs, Jc) => Jc) (fun (gh_ : (Nat) × (Value) × (Mm) × (List Value) × (Jm)) => match gh_ with | (i, v, mo, cs, Jc) => i ≤ ls.length ∧ J.le Jc ∧ Acc 53 5 v (viewsS (ls.take i)).length cs mo ∧ SgsC Jc cs (viewsS (ls.take i))) (fun (gh_ : (Nat) × (Value) × (Mm) × (List Value) × (Jm)) => match gh_ with | (i, v, mo, cs, Jc) => ls.length - i) ⟨0, .slice none 0 0, [], [], J⟩ ?hs ?hstep
  case hs => exact ⟨by omega, Jm.le.refl _, .nil, .nil⟩
  case hstep =>
   rintro ⟨i, v, mo, cs, Jc⟩ hinv
   try simp only at hinv
   obtain ⟨hi, hleC, hacc, hsg⟩ := hinv
   refine rg ?_
   refine Sa V.mv ?_
   refine Sa V.mv ?_
   refine Sa V.ls ?_
   refine Sa V.vi ?_
   refine Wn ?_
   refine sq ?_
   first | refine WC.if rfl (fun c9 => ?_) (fun c9 => ?_) | refine WC.cond rfl (fun c9 => ?_) (fun c9 => ?_)
   ·
    have hlt : i < ls.length := by omega
    obtain ⟨x, hx⟩ : ∃ x, ls[i]? = some x := ⟨_, List.getElem?_eq_getElem hlt⟩
    obtain ⟨a, off, cells, e, rfl, hJ, hget⟩ := hg (by omega)
    obtain ⟨b', c', htk, hN⟩ := hget i x hx
    have hJc := hleC _ _ hJ
    have hok2 := (hok x (List.mem_of_getElem? hx)).2
    have hNc := hN.mono hleC
    have hslN : SlC Jc 3 1 (.slice b' x.N.length c') x.N.length (x.N.map (Value.int .i64)) := hNc
    obtain ⟨_, _, hra⟩ := hNc.r.get
    obtain ⟨hnk, hnt, hnv⟩ := line_nth htk
    refine sq ?_
    refine WC.skip ?_
    refine sq ?_
    refine WC.block ?_
    refine rg ?_
    refine Sa V.mv ?_
    refine Sa V.mv ?_
    refine Sa V.ix ?_
    refine Sa V.fa ?_
    refine Sa V.ld ?_
    refine Sa V.asg ?_
    refine Wn ?_
    refine rg ?_
    refine Sa V.mv ?_
    refine Sa V.mv ?_
    refine Sa V.ix ?_
    refine Sa V.fa ?_
    refine Sa V.ld ?_
    refine Sa V.vi ?_
    refine Sa V.mv ?_
    first | refine W.splitP (d := 23) rfl (fun gr6_6 => ?_) (fun gr6_6 => ?_) | refine W.split (d := 23) rfl (fun gr6_6 => ?_) (fun gr6_6 => ?_)
    ·
     refine Sb V.mv ?_
     refine Sb V.ls ?_
     refine Sb V.vi ?_
     refine Sa V.pk ?_
     refine Wn ?_
     refine sq ?_
     first | refine WC.if rfl (fun c27 => ?_) (fun c27 => ?_) | refine WC.cond rfl (fun c27 => ?_) (fun c27 => ?_)
     ·
      obtain ⟨bv, cv, rfl, hbv⟩ := hacc.formA
      obtain ⟨aN, oN, clN, eN, rfl, hJN, hgN⟩ := hra (by omega)
      obtain ⟨x0, hx0, hn0⟩ := hgN 0 (by omega) (by omega)
      obtain ⟨x1, hx1, hn1⟩ := hgN 1 (by omega) (by omega)
      obtain ⟨x2, hx2, hn2⟩ := hgN 2 (by omega) (by omega)
      obtain ⟨x3, hx3, hn3⟩ := hgN 3 (by omega) (by omega)
      obtain ⟨b40, c40, hcut, hsl40⟩ := cut_ints (j := 4) hslN (by omega) (by omega)
      have hr40 : IntsR Jc (.slice b40 (x.N.drop 4).length c40) (x.N.drop 4) := ⟨3, hsl40⟩
      have hv40 := hr40.addr
      have hvN := hNc.r.addr
      refine sq ?_
      refine WC.draw rfl (by kernel_rfl) (plan := [.alc 13, .val 0, .val 1, .val 2, .val 3, .val 4, .val 5, .val 6, .val 7, .val 8, .val 9, .val 10, .val 11, .val 12, .val 14, .val 15, .chn 16, .val 17, .alc 18, .chk [17, 12, 11, 10, 9, 8, 7, 6, 5, 4, 3, 2, 1, 0], .chn 19, .chn 20]) (by kernel_rfl) ?_
      refine WD.buildSlice rfl rfl rfl rfl rfl rfl (sb22 Q g0) rfl rfl rfl fun a41 => ?_
      refine Da rfl V.mv ?_
      refine Da rfl V.mv ?_
      refine Da rfl V.ix ?_
      refine Da rfl V.ld ?_
      refine Da rfl V.mv ?_
      refine Da rfl V.ix ?_
      refine Da rfl V.ld ?_
      refine Da rfl V.mv ?_
      refine Da rfl V.ix ?_
      refine Da rfl V.ld ?_
      refine Da rfl V.mv ?_
      refine Da rfl V.ix ?_
      refine Da rfl V.ld ?_
      refine Da rfl V.mv ?_
      refine' WD.val rfl rfl rfl rfl (v_slice rfl rfl (sb22 Q g0) ?hv ?hk rfl rfl ?h0 ?h1 ?h2 ?hw) ?_
      case hv => assumption
      case hk => first | omega | (simp; omega)
      case h0 => first | omega | (simp; omega)
      case h1 => first | omega | (simp; omega)
      case h2 => first | omega | (simp; omega)
      case hw => assumption
      refine' WD.chnX rfl rfl (x_accP rfl rfl rfl rfl rfl rfl (sb22 Q g0) (un22 Q g0) (fun i q => by cases q) ?hacc ?hm ?hx ?hnl ?hne ?hl fun w44 mo44 hacc44 => ?_)
      case hacc => exact .emp _
      case hm => exact List.Perm.refl _
      case hx => first | exact SlC.rd (by assumption) | exact Rd.own (by repeat first | exact .head _ | refine .tail _ ?_ | refine List.mem_append_right _ ?_) rfl
      case hnl => first | rfl | (simp; done) | (simp; omega)
      case hne => exact ints_one _
      case hl => (rw [List.length_drop]; omega)
      obtain ⟨b44, c44, rfl, hb44⟩ := hacc44.formA
      rw [Nat.zero_add]
      refine Da rfl V.bd ?_
      refine WD.buildSlice rfl rfl rfl rfl rfl rfl (sb36 Q g0) rfl rfl rfl fun a46 => ?_
      refine WD.chk ck ?_
      refine' WD.chnX rfl rfl (x_accP rfl rfl rfl rfl rfl rfl (sb36 Q g0) (un36 Q g0) (fun i q => by cases q) ?hacc ?hm ?hx ?hnl ?hne ?hl fun w47 mo47 hacc47 => ?_)
      case hacc => assumption
      case hm => exact perm_acc2
      case hx => first | exact SlC.rd (by assumption) | exact Rd.own (by repeat first | exact .head _ | refine .tail _ ?_ | refine List.mem_append_right _ ?_) rfl
      case hnl => first | rfl | (simp; done) | (simp; omega)
      case hne => first | rfl | exact ints_one _
      case hl => (have := views_len ls i; omega)
      refine Db rfl V.asg ?_
      refine WD.nil ?_
      refine Acc.pubP hacc44 perm_acc3 (fun J7 hle7 hsl7 => ?_)
      refine rg ?_
      refine Sa V.mv ?_
      refine Sa V.va ?_
      refine Sa V.asg ?_
      refine Wn ?_
      refine' ⟨⟨i + 1, w47, mo47, cs ++ [.int .i64 x0, .int .i64 x1, .int .i64 x2, .int .i64 x3, .slice b44 (x.N.drop 4).length c44], J7⟩, _, ?hinv, ?hmeas, rfl, ⟨?m4, ?m3, rfl, trivial⟩, List.Sublist.append (.refl _) (List.nil_sublist _), rfl⟩
      case m4 => first | rfl | exact congrArg some (congrArg (Value.int .i64) (by omega))
      case m3 => first | rfl | exact congrArg some (congrArg (Value.int .i64) (by omega))
      case hmeas => first | omega | (simp only; omega)
      case hinv => show _ ∧ _ ∧ _ ∧ _; (rw [views_yes hx ⟨gr6_6, by omega⟩ hx0 hx1 hx2 hx3]; refine ⟨by omega, hleC.trans hle7, ?_, .snoc (x := ⟨x0, x1, x2, x3, x.N.drop 4⟩) (hsg.mono hle7) (IntsR.ofSl hsl7)⟩; rw [List.length_append]; exact hacc47)
     ·
      refine sq ?_
      refine WC.skip ?_
      refine rg ?_
      refine Sa V.mv ?_
      refine Sa V.va ?_
      refine Sa V.asg ?_
      refine Wn ?_
      refine' ⟨⟨i + 1, v, mo, cs, Jc⟩, _, ?hinv, ?hmeas, rfl, ⟨?m4, ?m3, rfl, trivial⟩, .refl _, rfl⟩
      case m4 => first | rfl | exact congrArg some (congrArg (Value.int .i64) (by omega))
      case m3 => first | rfl | exact congrArg some (congrArg (Value.int .i64) (by omega))
      case hmeas => first | omega | (simp only; omega)
      case hinv => show _ ∧ _ ∧ _ ∧ _; (rw [views_no hx (by first | omega | simp_all)]; exact ⟨by omega, hleC, hacc, hsg⟩)
    ·
     refine Sn ?_
     refine Sn ?_
     refine Sn ?_
     refine Sa V.pk ?_
     refine Wn ?_
     refine sq ?_
     refine WC.condF rfl ?_
     refine sq ?_
     refine WC.skip ?_
     refine rg ?_
     refine Sa V.mv ?_
     refine Sa V.va ?_
     refine Sa V.asg ?_
     refine Wn ?_
     refine' ⟨⟨i + 1, v, mo, cs, Jc⟩, _, ?hinv, ?hmeas, rfl, ⟨?m4, ?m3, rfl, trivial⟩, .refl _, rfl⟩
     case m4 => first | rfl | exact congrArg some (congrArg (Value.int .i64) (by omega))
     case m3 => first | rfl | exact congrArg some (congrArg (Value.int .i64) (by omega))
     case hmeas => first | omega | (simp only; omega)
     case hinv => show _ ∧ _ ∧ _ ∧ _; (rw [views_no hx (by first | omega | simp_all)]; exact ⟨by omega, hleC, hacc, hsg⟩)
   ·
    refine sq ?_
    refine WC.exit ?_
    refine Acc.pubP hacc (.refl _) (fun J7 hle7 hsl7 => ?_)
    refine rg ?_
    refine Sa V.mv ?_
    refine Sa V.asg ?_
    refine Wn ?_
    refine sq ?_
    refine WC.ret ?_
    refine' ⟨.inr rfl, rfl, _, [], .tmp rfl .nil, List.nil_sublist _, ?_⟩
    (rw [List.take_of_length_le (by omega)] at hsl7 hsg; exact ⟨⟨53, cs, hsl7, hsg.mono hle7⟩, rfl, hleC.trans hle7⟩)
end
end Go.Opn

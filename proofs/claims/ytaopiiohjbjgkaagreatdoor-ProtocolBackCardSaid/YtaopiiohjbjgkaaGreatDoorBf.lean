/- A part of the proof of ProtocolBack. -/
import Derived.Test.YtaopiiohjbjgkaaGreatDoorBe
set_option maxRecDepth 100000
set_option maxHeartbeats 4000000
set_option linter.unusedVariables false
set_option linter.unusedSimpArgs false
namespace Go.Opn
open Go.Cre Go.RowKit Go.Proofs
theorem take_next {α β : Type} {f : α → β} {N : List α} {i : Nat} {x : α} (hx : N[((i : Nat) : Int).toNat]? = some x) : (N.take i).map f ++ [f x] = (N.take (i + 1)).map f := by
  rw [Int.toNat_natCast] at hx
  rw [List.take_add_one, hx]; simp
theorem perm_midE {α : Type} {x : α} {mo r : List α} : (x :: ([] ++ List.append mo r)).Perm (mo ++ x :: r) := perm_mid1 (x := x) (mo := mo) (r := r)
theorem join_len {k : Int} {tx : List UInt8} {N : List Int} {ws0 : List (List UInt8)} {i : Nat} (hl : ∀ x ∈ N, -1000000000 ≤ x ∧ x ≤ 1000000000) (h14 : N.length ≤ 14) (hk : ¬ (k < 1 ∨ 11 < k)) (ht : tx.length ≤ 1000) (hw : ws0 = [wordF k] ∨ ws0 = [wordF k, tx]) : (Lib.join (ws0 ++ (N.take i).map Lib.itoa) [32]).length ≤ 100000 := by
  have h1 := sum_le (N.take i) (fun x hx => hl x (List.mem_of_mem_take hx))
  have h2 := (word_nb hk).2
  have h3 : (N.take i).length ≤ 14 := by rw [List.length_take]; omega
  rcases hw with rfl | rfl
  · show (jn (wordF k :: (N.take i).map Lib.itoa)).length ≤ _
    rw [jn_len]; omega
  · show (jn (wordF k :: tx :: (N.take i).map Lib.itoa)).length ≤ _
    rw [jn_len]; simp only [List.map_cons, List.sum_cons]; omega
theorem chk_tx {k : Int} {tx : List UInt8} {N : List Int} (h : chk k tx N = 0) : tx.length ≤ 40 := by
  have hf := (chk_ok h).2.1
  cases hn : named k with
  | true =>
    cases hm : isNm tx with
    | true => exact (nm_nb hm).2
    | false => exact absurd (.inl ⟨hn, hm⟩) hf
  | false =>
    by_cases q : tx = []
    · rw [q]; simp
    · exact absurd (.inr (.inl ⟨hn, q⟩)) hf
theorem chk_N {k : Int} {tx : List UInt8} {N : List Int} (h : chk k tx N = 0) : N.length ≤ 14 := by
  have h1 := counts_le k
  have h2 := (chk_ok h).2.1
  have : ¬ (counts k).2 < N.length := fun q => h2 (.inr (.inr (.inr (.inl q))))
  omega
theorem parse_chk {s : List UInt8} {k : Int} {tx : List UInt8} {N : List Int} (h : parseS s = .inl (k, tx, N)) : chk k tx N = 0 := by
  have h1 := fmt_parse h
  unfold fmtS at h1
  split at h1
  · rename_i q; simp only [Prod.mk.injEq] at h1; exact absurd h1.2 q
  · rename_i q; exact Classical.not_not.1 q
section
variable {Q : Worlds Tryz.prog} {g0 : Nat} {J : Jm}
theorem fmtY_fn (L : Lb Q g0) (hG : Gl g0 J) {k : Int} {tx : List UInt8} {N : List Int} {bv : Option Addr} {nv cv : Nat} (hn : named k = true) (hv : IntsR J (.slice bv nv cv) N) (ht : tx.length ≤ 1000000) (hN : N.length ≤ 1000000) : Fn (kx Q g0) 5 [lineV k tx (.slice bv nv cv)] [] J (fun w m' J' => w = .tuple #[.string ⟨⟨(fmtS k tx N).1⟩⟩, .int .i64 (fmtS k tx N).2] ∧ m' = [] ∧ J.le J') := by
  obtain ⟨rfl, _, _⟩ := hv.get
  refine Fn.of_body (ftGet Tryz.func5) rfl rfl fun H => ?_
  refine rg ?_
  refine' W.step rfl (.of (x_box rfl rfl rfl rfl rfl rfl fun a1 => ?_))
  refine Sa V.asg ?_
  refine Sa V.asg ?_
  refine Wn ?_
  refine rg ?_
  refine Sa V.ldA ?_
  refine' W.step rfl (Exec.call rfl rfl rfl rfl rfl rfl rfl (mi := []) (.refl _) trivial (check_fn hG hv (by omega) hN) ?_)
  rintro v' m' J1 hle1 ⟨rfl, rfl, hle1'⟩
  refine Sa V.asg ?_
  refine Wn ?_
  refine rg ?_
  refine Sa V.mv ?_
  refine Sa V.vi ?_
  refine Wn ?_
  refine sq ?_
  first | refine WC.if rfl (fun c12 => ?_) (fun c12 => ?_) | refine WC.cond rfl (fun c12 => ?_) (fun c12 => ?_)
  ·
   refine rg ?_
   refine Sa V.mv ?_
   refine Sa V.asg ?_
   refine Sa V.asg ?_
   refine Wn ?_
   refine sq ?_
   refine WC.ret ?_
   refine' ⟨.inr rfl, rfl, _, [], .tmp rfl (.tmp rfl .nil), List.nil_sublist _, ?_⟩
   first
     | (refine ⟨?_, rfl, hle1'⟩
        unfold fmtS; rw [if_pos c12]; rfl)
     | (refine ⟨?_, rfl, hle1'.trans hle2⟩
        unfold fmtS; rw [if_neg c12]
        have hN2 : N.take i = N := List.take_of_length_le (by omega)
        unfold wsS; rw [hn, hN2]; rfl)
  ·
   have hc : chk k tx N = 0 := Classical.not_not.1 c12
   have hk := (chk_ok hc).1
   have hlim := chk_lim hc
   have htx := chk_tx hc
   have h14 : N.length ≤ 14 := by
     have h1 := counts_le k
     have h2 := (chk_ok hc).2.1
     have : ¬ (counts k).2 < N.length := fun q => h2 (.inr (.inr (.inr (.inl q))))
     omega
   have hv2 := hv.mono hle1'
   obtain ⟨_, _, hra⟩ := hv2.get
   refine sq ?_
   refine WC.skip ?_
   refine sq ?_
   refine WC.draw rfl (by kernel_rfl) (plan := [.alc 4, .val 1, .val 2, .chn 0, .val 3, .chk [2, 1], .chn 5]) (by kernel_rfl) ?_
   refine WD.alloc rfl rfl rfl rfl rfl (ze53 Q g0) rfl rfl rfl fun a5 => ?_
   refine Da rfl V.fa ?_
   refine Da rfl V.ld ?_
   refine' WD.call rfl rfl rfl rfl rfl rfl rfl rfl rfl rfl (mi := []) (.refl _) trivial (forms_fn) ?_
   rintro v m' J' hle ⟨rfl, rfl, rfl⟩
   refine' WD.val rfl rfl rfl rfl (v_indexAgg rfl rfl rfl (tAr rfl) ?h0 ?h1 (partA (tAg rfl) ?hv)) ?_
   case hv => exact forms_at hk
   case h0 => first | omega | (simp; omega)
   case h1 => first | omega | (simp; omega)
   refine WD.chk ck ?_
   refine Ds rfl ?_
   refine WD.nil ?_
   refine rg ?_
   refine Sa V.fa ?_
   refine Sa V.ld ?_
   refine' W.step rfl (.of (x_buildSlice rfl rfl rfl rfl (sb56 Q g0) rfl rfl rfl fun a20 => ?_))
   refine Sa V.asg ?_
   refine Wn ?_
   refine rg ?_
   refine Sa V.fa ?_
   refine Sa V.ld ?_
   refine Wn ?_
   refine sq ?_
   first | refine WC.if rfl (fun c22 => ?_) (fun c22 => ?_) | refine WC.cond rfl (fun c22 => ?_) (fun c22 => ?_)
   ·
    refine rg ?_
    refine Sa V.mv ?_
    refine Sa V.fa ?_
    refine Sa V.ld ?_
    refine' W.step rfl (.of (x_buildSlice rfl rfl rfl rfl (sb56 Q g0) rfl rfl rfl fun a26 => ?_))
    have hacc0 : Acc 9 1 (.slice (some ⟨a20, 0, none⟩) 1 1) 1 (strs [wordF k]) [(a20, .row (strs [wordF k]) 9)] := .cap rfl rfl (Nat.le_refl _) (by decide)
    refine' W.step rfl (.of (x_accP rfl rfl rfl rfl rfl rfl (sb56 Q g0) (un56 Q g0) (fun i q => by cases q) ?hacc ?hm ?hx ?hnl ?hne ?hl fun w27 mo27 hacc27 => ?_))
    case hacc => assumption
    case hm => exact List.Perm.swap _ _ _
    case hx => first | exact SlC.rd (by assumption) | exact Rd.own (by repeat first | exact .head _ | refine .tail _ ?_ | refine List.mem_append_right _ ?_) rfl
    case hnl => first | rfl | (simp; done) | (simp; omega)
    case hne => first | rfl | exact ints_one _
    case hl => first | omega | (simp; omega)
    refine Sa V.asg ?_
    refine Wn ?_
    have hacc1 : Acc 9 1 w27 ([wordF k, tx] ++ (N.take 0).map Lib.itoa).length (strs ([wordF k, tx] ++ (N.take 0).map Lib.itoa)) mo27 := hacc27
    refine rg ?_
    refine Sa V.fa ?_
    refine Sa V.ld ?_
    refine Sa V.ls ?_
    refine Sa V.mv ?_
    refine Wn ?_
    refine sq ?_
    refine WC.block ?_
    refine' WC.weak (l' := [(31, .int .i64 ((0) : Int)), (6, (w27)), (29, _), (30, _)]) ⟨?w31, ?w6, rfl, rfl, trivial⟩ (List.Sublist.refl _) ?_
    case w31 => first | rfl | exact congrArg some (congrArg (Value.int .i64) (by omega))
    case w6 => first | rfl | exact congrArg some (congrArg (Value.int .i64) (by omega))
    refine sq ?_
    refine' WC.loopG (α := (Nat) × (Value) × (Mm)) (fun (gh_ : (Nat) × (Value) × (Mm)) => match gh_ with | (i, v, mo) => [(31, .int .i64 (i : Int)), (6, v)]) (fun (gh_ : (Nat) × (Value) × (Mm)) => match gh_ with | (i, v, mo) => mo ++ [(a26, .row (strs [tx]) 9), (a5, .row (fmRow k) 53), (a1, .row [.int .i64 k, .string ⟨⟨tx⟩⟩, .slice bv N.length cv] 24)]) (fun (gh_ : (Nat) × (Value) × (Mm)) => match gh_ with | (i, v, mo) => _) (fun (gh_ : (Nat) × (Value) × (Mm)) => match gh_ with | (i, v, mo) => i ≤ N.length ∧ Acc 9 1 v ([wordF k, tx] ++ (N.take i).map Lib.itoa).length (strs ([wordF k, tx] ++ (N.take i).map Lib.itoa)) mo) (fun (gh_ : (Nat) × (Value) × (Mm)) => match gh_ with | (i, v, mo) => N.length - i) ⟨0, w27, mo27⟩ ?hs ?hstep
    case hs => exact ⟨by omega, hacc1⟩
    case hstep =>
     rintro ⟨i, v, mo⟩ hinv
     try simp only at hinv
     obtain ⟨hi, hacc⟩ := hinv
     refine rg ?_
     refine Sa V.vi ?_
     refine Wn ?_
     refine sq ?_
     first | refine WC.if rfl (fun c32 => ?_) (fun c32 => ?_) | refine WC.cond rfl (fun c32 => ?_) (fun c32 => ?_)
     ·
      obtain ⟨a, off, cells, e, rfl, hJ, hget⟩ := hra (by omega)
      obtain ⟨x, hx, hnx⟩ := hget i (by omega) (by omega)
      have hxl := hlim x (List.mem_of_getElem? hx)
      refine sq ?_
      refine WC.skip ?_
      refine sq ?_
      refine WC.block ?_
      refine rg ?_
      refine Sa V.ix ?_
      refine Sa V.ld ?_
      refine Sa V.asg ?_
      refine Wn ?_
      refine rg ?_
      refine Sa V.mv ?_
      refine Sa V.mv ?_
      refine' W.step rfl (Exec.call rfl rfl rfl rfl rfl rfl rfl (mi := []) (.refl _) trivial (L.itoa x _ (by omega) (by omega)) ?_)
      rintro v m' J' hle ⟨rfl, rfl, rfl⟩
      refine' W.step rfl (.of (x_buildSlice rfl rfl rfl rfl (sb56 Q g0) rfl rfl rfl fun a38 => ?_))
      refine' W.step rfl (.of (x_accP rfl rfl rfl rfl rfl rfl (sb56 Q g0) (un56 Q g0) (fun i q => by cases q) ?hacc ?hm ?hx ?hnl ?hne ?hl fun w39 mo39 hacc39 => ?_))
      case hacc => assumption
      case hm => exact perm_midE
      case hx => first | exact SlC.rd (by assumption) | exact Rd.own (by repeat first | exact .head _ | refine .tail _ ?_ | refine List.mem_append_right _ ?_) rfl
      case hnl => first | rfl | (simp; done) | (simp; omega)
      case hne => first | rfl | exact ints_one _
      case hl => first | omega | (simp; omega)
      refine Sa V.asg ?_
      refine Wn ?_
      refine rg ?_
      refine Sa V.va ?_
      refine Sa V.mv ?_
      refine Wn ?_
      refine' ⟨⟨i + 1, w39, mo39⟩, _, ?hinv, ?hmeas, rfl, ⟨?m31, ?m6, rfl, rfl, trivial⟩, (List.Sublist.append (List.Sublist.refl _) (.cons _ (List.Sublist.refl _))), rfl⟩
      case m31 => first | rfl | exact congrArg some (congrArg (Value.int .i64) (by omega))
      case m6 => first | rfl | exact congrArg some (congrArg (Value.int .i64) (by omega))
      case hmeas => first | omega | (simp only; omega)
      case hinv => refine ⟨by omega, ?_⟩; have e := take_next (f := Lib.itoa) hx; rw [← e, ← List.append_assoc, List.length_append]; simpa [strs] using hacc39
     ·
      refine sq ?_
      refine WC.exit ?_
      refine hacc.pubP (List.Perm.refl _) (fun J2 hle2 hsl => ?_)
      refine rg ?_
      refine Sa V.mv ?_
      refine' W.step rfl (Exec.call rfl rfl rfl rfl rfl rfl rfl (mi := []) (.refl _) trivial (L.join ([wordF k, tx] ++ (N.take i).map Lib.itoa) _ _ hsl (by simp) (by simp; omega) (join_len (tx := tx) hlim h14 hk (by omega) (by first | exact .inl rfl | exact .inr rfl))) ?_)
      rintro v m' J' hle ⟨rfl, rfl, rfl⟩
      refine Sa V.asg ?_
      refine Sa V.asg ?_
      refine Wn ?_
      refine sq ?_
      refine WC.ret ?_
      refine' ⟨.inr rfl, rfl, _, [], .tmp rfl (.tmp rfl .nil), List.nil_sublist _, ?_⟩
      first
        | (refine ⟨?_, rfl, hle1'⟩
           unfold fmtS; rw [if_pos c12]; rfl)
        | (refine ⟨?_, rfl, hle1'.trans hle2⟩
           unfold fmtS; rw [if_neg c12]
           have hN2 : N.take i = N := List.take_of_length_le (by omega)
           unfold wsS; rw [hn, hN2]; rfl)
   ·
    exfalso; rw [hn] at c22; cases c22
theorem fmtN_fn (L : Lb Q g0) (hG : Gl g0 J) {k : Int} {tx : List UInt8} {N : List Int} {bv : Option Addr} {nv cv : Nat} (hn : named k = false) (hv : IntsR J (.slice bv nv cv) N) (ht : tx.length ≤ 1000000) (hN : N.length ≤ 1000000) : Fn (kx Q g0) 5 [lineV k tx (.slice bv nv cv)] [] J (fun w m' J' => w = .tuple #[.string ⟨⟨(fmtS k tx N).1⟩⟩, .int .i64 (fmtS k tx N).2] ∧ m' = [] ∧ J.le J') := by
  obtain ⟨rfl, _, _⟩ := hv.get
  refine Fn.of_body (ftGet Tryz.func5) rfl rfl fun H => ?_
  refine rg ?_
  refine' W.step rfl (.of (x_box rfl rfl rfl rfl rfl rfl fun a1 => ?_))
  refine Sa V.asg ?_
  refine Sa V.asg ?_
  refine Wn ?_
  refine rg ?_
  refine Sa V.ldA ?_
  refine' W.step rfl (Exec.call rfl rfl rfl rfl rfl rfl rfl (mi := []) (.refl _) trivial (check_fn hG hv (by omega) hN) ?_)
  rintro v' m' J1 hle1 ⟨rfl, rfl, hle1'⟩
  refine Sa V.asg ?_
  refine Wn ?_
  refine rg ?_
  refine Sa V.mv ?_
  refine Sa V.vi ?_
  refine Wn ?_
  refine sq ?_
  first | refine WC.if rfl (fun c12 => ?_) (fun c12 => ?_) | refine WC.cond rfl (fun c12 => ?_) (fun c12 => ?_)
  ·
   refine rg ?_
   refine Sa V.mv ?_
   refine Sa V.asg ?_
   refine Sa V.asg ?_
   refine Wn ?_
   refine sq ?_
   refine WC.ret ?_
   refine' ⟨.inr rfl, rfl, _, [], .tmp rfl (.tmp rfl .nil), List.nil_sublist _, ?_⟩
   first
     | (refine ⟨?_, rfl, hle1'⟩
        unfold fmtS; rw [if_pos c12]; rfl)
     | (refine ⟨?_, rfl, hle1'.trans hle2⟩
        unfold fmtS; rw [if_neg c12]
        have hN2 : N.take i = N := List.take_of_length_le (by omega)
        unfold wsS; rw [hn, hN2]; rfl)
  ·
   have hc : chk k tx N = 0 := Classical.not_not.1 c12
   have hk := (chk_ok hc).1
   have hlim := chk_lim hc
   have htx := chk_tx hc
   have h14 : N.length ≤ 14 := by
     have h1 := counts_le k
     have h2 := (chk_ok hc).2.1
     have : ¬ (counts k).2 < N.length := fun q => h2 (.inr (.inr (.inr (.inl q))))
     omega
   have hv2 := hv.mono hle1'
   obtain ⟨_, _, hra⟩ := hv2.get
   refine sq ?_
   refine WC.skip ?_
   refine sq ?_
   refine WC.draw rfl (by kernel_rfl) (plan := [.alc 4, .val 1, .val 2, .chn 0, .val 3, .chk [2, 1], .chn 5]) (by kernel_rfl) ?_
   refine WD.alloc rfl rfl rfl rfl rfl (ze53 Q g0) rfl rfl rfl fun a5 => ?_
   refine Da rfl V.fa ?_
   refine Da rfl V.ld ?_
   refine' WD.call rfl rfl rfl rfl rfl rfl rfl rfl rfl rfl (mi := []) (.refl _) trivial (forms_fn) ?_
   rintro v m' J' hle ⟨rfl, rfl, rfl⟩
   refine' WD.val rfl rfl rfl rfl (v_indexAgg rfl rfl rfl (tAr rfl) ?h0 ?h1 (partA (tAg rfl) ?hv)) ?_
   case hv => exact forms_at hk
   case h0 => first | omega | (simp; omega)
   case h1 => first | omega | (simp; omega)
   refine WD.chk ck ?_
   refine Ds rfl ?_
   refine WD.nil ?_
   refine rg ?_
   refine Sa V.fa ?_
   refine Sa V.ld ?_
   refine' W.step rfl (.of (x_buildSlice rfl rfl rfl rfl (sb56 Q g0) rfl rfl rfl fun a20 => ?_))
   refine Sa V.asg ?_
   refine Wn ?_
   refine rg ?_
   refine Sa V.fa ?_
   refine Sa V.ld ?_
   refine Wn ?_
   refine sq ?_
   first | refine WC.if rfl (fun c22 => ?_) (fun c22 => ?_) | refine WC.cond rfl (fun c22 => ?_) (fun c22 => ?_)
   ·
    exfalso; rw [hn] at c22; cases c22
   ·
    refine sq ?_
    refine WC.skip ?_
    have hacc1 : Acc 9 1 (.slice (some ⟨a20, 0, none⟩) 1 1) ([wordF k] ++ (N.take 0).map Lib.itoa).length (strs ([wordF k] ++ (N.take 0).map Lib.itoa)) [(a20, .row (strs [wordF k]) 9)] := .cap rfl rfl (Nat.le_refl _) (by decide)
    refine rg ?_
    refine Sa V.fa ?_
    refine Sa V.ld ?_
    refine Sa V.ls ?_
    refine Sa V.mv ?_
    refine Wn ?_
    refine sq ?_
    refine WC.block ?_
    refine' WC.weak (l' := [(31, .int .i64 ((0) : Int)), (6, (.slice (some ⟨a20, 0, none⟩) 1 1)), (29, _), (30, _)]) ⟨?w31, ?w6, rfl, rfl, trivial⟩ (List.Sublist.refl _) ?_
    case w31 => first | rfl | exact congrArg some (congrArg (Value.int .i64) (by omega))
    case w6 => first | rfl | exact congrArg some (congrArg (Value.int .i64) (by omega))
    refine sq ?_
    refine' WC.loopG (α := (Nat) × (Value) × (Mm)) (fun (gh_ : (Nat) × (Value) × (Mm)) => match gh_ with | (i, v, mo) => [(31, .int .i64 (i : Int)), (6, v)]) (fun (gh_ : (Nat) × (Value) × (Mm)) => match gh_ with | (i, v, mo) => mo ++ [(a5, .row (fmRow k) 53), (a1, .row [.int .i64 k, .string ⟨⟨tx⟩⟩, .slice bv N.length cv] 24)]) (fun (gh_ : (Nat) × (Value) × (Mm)) => match gh_ with | (i, v, mo) => _) (fun (gh_ : (Nat) × (Value) × (Mm)) => match gh_ with | (i, v, mo) => i ≤ N.length ∧ Acc 9 1 v ([wordF k] ++ (N.take i).map Lib.itoa).length (strs ([wordF k] ++ (N.take i).map Lib.itoa)) mo) (fun (gh_ : (Nat) × (Value) × (Mm)) => match gh_ with | (i, v, mo) => N.length - i) ⟨0, .slice (some ⟨a20, 0, none⟩) 1 1, [(a20, .row (strs [wordF k]) 9)]⟩ ?hs ?hstep
    case hs => exact ⟨by omega, hacc1⟩
    case hstep =>
     rintro ⟨i, v, mo⟩ hinv
     try simp only at hinv
     obtain ⟨hi, hacc⟩ := hinv
     refine rg ?_
     refine Sa V.vi ?_
     refine Wn ?_
     refine sq ?_
     first | refine WC.if rfl (fun c32 => ?_) (fun c32 => ?_) | refine WC.cond rfl (fun c32 => ?_) (fun c32 => ?_)
     ·
      obtain ⟨a, off, cells, e, rfl, hJ, hget⟩ := hra (by omega)
      obtain ⟨x, hx, hnx⟩ := hget i (by omega) (by omega)
      have hxl := hlim x (List.mem_of_getElem? hx)
      refine sq ?_
      refine WC.skip ?_
      refine sq ?_
      refine WC.block ?_
      refine rg ?_
      refine Sa V.ix ?_
      refine Sa V.ld ?_
      refine Sa V.asg ?_
      refine Wn ?_
      refine rg ?_
      refine Sa V.mv ?_
      refine Sa V.mv ?_
      refine' W.step rfl (Exec.call rfl rfl rfl rfl rfl rfl rfl (mi := []) (.refl _) trivial (L.itoa x _ (by omega) (by omega)) ?_)
      rintro v m' J' hle ⟨rfl, rfl, rfl⟩
      refine' W.step rfl (.of (x_buildSlice rfl rfl rfl rfl (sb56 Q g0) rfl rfl rfl fun a38 => ?_))
      refine' W.step rfl (.of (x_accP rfl rfl rfl rfl rfl rfl (sb56 Q g0) (un56 Q g0) (fun i q => by cases q) ?hacc ?hm ?hx ?hnl ?hne ?hl fun w39 mo39 hacc39 => ?_))
      case hacc => assumption
      case hm => exact perm_midE
      case hx => first | exact SlC.rd (by assumption) | exact Rd.own (by repeat first | exact .head _ | refine .tail _ ?_ | refine List.mem_append_right _ ?_) rfl
      case hnl => first | rfl | (simp; done) | (simp; omega)
      case hne => first | rfl | exact ints_one _
      case hl => first | omega | (simp; omega)
      refine Sa V.asg ?_
      refine Wn ?_
      refine rg ?_
      refine Sa V.va ?_
      refine Sa V.mv ?_
      refine Wn ?_
      refine' ⟨⟨i + 1, w39, mo39⟩, _, ?hinv, ?hmeas, rfl, ⟨?m31, ?m6, rfl, rfl, trivial⟩, (List.Sublist.append (List.Sublist.refl _) (.cons _ (List.Sublist.refl _))), rfl⟩
      case m31 => first | rfl | exact congrArg some (congrArg (Value.int .i64) (by omega))
      case m6 => first | rfl | exact congrArg some (congrArg (Value.int .i64) (by omega))
      case hmeas => first | omega | (simp only; omega)
      case hinv => refine ⟨by omega, ?_⟩; have e := take_next (f := Lib.itoa) hx; rw [← e, ← List.append_assoc, List.length_append]; simpa [strs] using hacc39
     ·
      refine sq ?_
      refine WC.exit ?_
      refine hacc.pubP (List.Perm.refl _) (fun J2 hle2 hsl => ?_)
      refine rg ?_
      refine Sa V.mv ?_
      refine' W.step rfl (Exec.call rfl rfl rfl rfl rfl rfl rfl (mi := []) (.refl _) trivial (L.join ([wordF k] ++ (N.take i).map Lib.itoa) _ _ hsl (by simp) (by simp; omega) (join_len (tx := tx) hlim h14 hk (by omega) (by first | exact .inl rfl | exact .inr rfl))) ?_)
      rintro v m' J' hle ⟨rfl, rfl, rfl⟩
      refine Sa V.asg ?_
      refine Sa V.asg ?_
      refine Wn ?_
      refine sq ?_
      refine WC.ret ?_
      refine' ⟨.inr rfl, rfl, _, [], .tmp rfl (.tmp rfl .nil), List.nil_sublist _, ?_⟩
      first
        | (refine ⟨?_, rfl, hle1'⟩
           unfold fmtS; rw [if_pos c12]; rfl)
        | (refine ⟨?_, rfl, hle1'.trans hle2⟩
           unfold fmtS; rw [if_neg c12]
           have hN2 : N.take i = N := List.take_of_length_le (by omega)
           unfold wsS; rw [hn, hN2]; rfl)
end
end Go.Opn
set_option maxRecDepth 100000
set_option maxHeartbeats 4000000
set_option linter.unusedVariables false
set_option linter.unusedSimpArgs false
namespace Go.Opn
open Go.Cre Go.RowKit Go.Proofs
section
variable {Q : Worlds Tryz.prog} {g0 : Nat} {J : Jm}
theorem fmt_fn (L : Lb Q g0) (hG : Gl g0 J) {k : Int} {tx : List UInt8} {N : List Int} {bv : Option Addr} {nv cv : Nat} (hv : IntsR J (.slice bv nv cv) N) (ht : tx.length ≤ 1000000) (hN : N.length ≤ 1000000) : Fn (kx Q g0) 5 [lineV k tx (.slice bv nv cv)] [] J (fun w m' J' => w = .tuple #[.string ⟨⟨(fmtS k tx N).1⟩⟩, .int .i64 (fmtS k tx N).2] ∧ m' = [] ∧ J.le J') := by
  cases hn : named k with
  | true => exact fmtY_fn L hG hn hv ht hN
  | false => exact fmtN_fn L hG hn hv ht hN
theorem same_fn {k : Int} {tx : List UInt8} {N : List Int} {b b' : Option Addr} {n n' c c' : Nat} (h : IntsR J (.slice b n c) N) (h' : IntsR J (.slice b' n' c') N) (hN : N.length ≤ 1000000) : Fn (kx Q g0) 7 [lineV k tx (.slice b n c), lineV k tx (.slice b' n' c')] [] J (Ret (.bool true) J) := by
  refine Fn.of_body (ftGet Tryz.func7) rfl rfl fun H => ?_
  refine rg ?_
  refine' W.step rfl (.of (x_box rfl rfl rfl rfl rfl rfl fun a2 => ?_))
  refine' W.step rfl (.of (x_box rfl rfl rfl rfl rfl rfl fun a3 => ?_))
  refine Sa V.asg ?_
  refine Wn ?_
  refine rg ?_
  refine Sa V.fa ?_
  refine Sa V.ld ?_
  refine Sa V.fa ?_
  refine Sa V.ld ?_
  refine Sa V.vi ?_
  refine Sa V.mv ?_
  first | refine W.splitP (d := 10) rfl (fun gr1_5 => ?_) (fun gr1_5 => ?_) | refine W.split (d := 10) rfl (fun gr1_5 => ?_) (fun gr1_5 => ?_)
  ·
   refine Sb V.fa ?_
   refine Sb V.ld ?_
   refine Sb V.fa ?_
   refine Sb V.ld ?_
   refine Sb V.se ?_
   refine Sa V.pk ?_
   refine Sa V.mv ?_
   first | refine W.splitP (d := 17) rfl (fun gr1_12 => ?_) (fun gr1_12 => ?_) | refine W.split (d := 17) rfl (fun gr1_12 => ?_) (fun gr1_12 => ?_)
   ·
    refine Sb V.fa ?_
    refine Sb V.ld ?_
    refine Sb V.fa ?_
    refine Sb V.ld ?_
    refine' W.guardY rfl rfl rfl (Exec.call rfl rfl rfl rfl rfl rfl rfl (mi := []) (.refl _) trivial (alike_fn h h' hN) ?_)
    rintro v m' J' hle ⟨rfl, rfl, rfl⟩
    refine Sa V.pk ?_
    refine Sa V.asg ?_
    refine Wn ?_
    refine sq ?_
    refine WC.ret ?_
    refine' ⟨.inr rfl, rfl, _, [], .tmp rfl .nil, List.nil_sublist _, ⟨by simp [oneOrTuple], rfl, rfl⟩⟩
   ·
    exfalso; exact gr1_12 rfl
  ·
   exfalso; exact gr1_5 rfl
theorem fmt_len {k : Int} {tx : List UInt8} {N : List Int} : (fmtS k tx N).1.length ≤ 100000 := by
  unfold fmtS
  split
  · simp
  · rename_i q
    have hc : chk k tx N = 0 := Classical.not_not.1 q
    have h := fun ws0 hw => join_len (k := k) (tx := tx) (N := N) (ws0 := ws0) (i := N.length) (chk_lim hc) (chk_N hc) (chk_ok hc).1 (by have := chk_tx hc; omega) hw
    rw [List.take_length] at h
    unfold wsS
    split
    · exact h [wordF k, tx] (.inr rfl)
    · exact h [wordF k] (.inl rfl)
theorem back_fn (L : Lb Q g0) (hG : Gl g0 J) (hK : ∀ J, Fn (kx Q g0) 4 [] [] J (Ret (.bool true) J)) {k : Int} {tx s : List UInt8} {N : List Int} {b : Option Addr} {n c : Nat} (hN : IntsR J (.slice b n c) N) (hs : s.length ≤ 140737488355328) (ht : tx.length ≤ 140737488355328) : Fn (kx Q g0) 3 [lineV k tx (.slice b n c), .string ⟨⟨s⟩⟩] [] J (fun v m J' => v = .bool true) := by
  obtain ⟨rfl, _, _⟩ := hN.get
  refine Fn.of_body (ftGet Tryz.func3) rfl rfl fun H => ?_
  refine rg ?_
  refine' W.step rfl (.of (x_box rfl rfl rfl rfl rfl rfl fun a2 => ?_))
  refine Sa V.asg ?_
  refine Wn ?_
  refine rg ?_
  refine' W.step rfl (Exec.call rfl rfl rfl rfl rfl rfl rfl (mi := []) (.refl _) trivial (hK _) ?_)
  rintro v m' J' hle ⟨rfl, rfl, rfl⟩
  refine Sa V.asg ?_
  refine Wn ?_
  refine' WC.weak (l' := [(1, _), (2, _), (5, _)]) ⟨rfl, rfl, rfl, trivial⟩ (List.Sublist.refl _) ?_
  refine sq ?_
  refine' WC.cutK 0 [(29, .bool (decide ((20 < N.length ∨ 100 < tx.length ∨ 300 < s.length))))] ?cr2 ?dr2
  case cr2 =>
   refine WC.region ?_
   refine Sa V.fa ?_
   refine Sa V.ld ?_
   refine Sa V.ls ?_
   refine Sa V.vi ?_
   refine Sa V.mv ?_
   first | refine W.splitP (d := 19) rfl (fun gr2_4 => ?_) (fun gr2_4 => ?_) | refine W.split (d := 19) rfl (fun gr2_4 => ?_) (fun gr2_4 => ?_)
   ·
    refine Sn ?_
    refine Sn ?_
    refine Sn ?_
    refine Sn ?_
    refine Sa V.pk ?_
    refine Sa V.mv ?_
    refine Sn ?_
    refine Sn ?_
    refine Sn ?_
    refine Sa V.pk ?_
    refine Wn ?_
    refine' ⟨⟨_, rfl, ⟨?n29, rfl, rfl, rfl, trivial⟩⟩, List.Sublist.refl _, rfl⟩
    case n29 => first | exact cutT rfl (by first | omega | simp_all) | exact cutF rfl (by first | omega | simp_all) | exact cutI rfl (by first | omega | simp_all) | exact cutB rfl (by simp_all)
   ·
    refine Sb V.fa ?_
    refine Sb V.ld ?_
    refine Sb V.lS ?_
    refine Sb V.vi ?_
    refine Sa V.pk ?_
    refine Sa V.mv ?_
    first | refine W.splitP (d := 25) rfl (fun gr2_10 => ?_) (fun gr2_10 => ?_) | refine W.split (d := 25) rfl (fun gr2_10 => ?_) (fun gr2_10 => ?_)
    ·
     refine Sn ?_
     refine Sn ?_
     refine Sn ?_
     refine Sa V.pk ?_
     refine Wn ?_
     refine' ⟨⟨_, rfl, ⟨?n29, rfl, rfl, rfl, trivial⟩⟩, List.Sublist.refl _, rfl⟩
     case n29 => first | exact cutT rfl (by first | omega | simp_all) | exact cutF rfl (by first | omega | simp_all) | exact cutI rfl (by first | omega | simp_all) | exact cutB rfl (by simp_all)
    ·
     refine Sb V.mv ?_
     refine Sb V.lS ?_
     refine Sb V.vi ?_
     refine Sa V.pk ?_
     refine Wn ?_
     refine' ⟨⟨_, rfl, ⟨?n29, rfl, rfl, rfl, trivial⟩⟩, List.Sublist.refl _, rfl⟩
     case n29 => first | exact cutT rfl (by first | omega | simp_all) | exact cutF rfl (by first | omega | simp_all) | exact cutI rfl (by first | omega | simp_all) | exact cutB rfl (by simp_all)
  case dr2 =>
   refine sq ?_
   first | refine WC.if rfl (fun c29 => ?_) (fun c29 => ?_) | refine WC.cond rfl (fun c29 => ?_) (fun c29 => ?_)
   ·
    refine rg ?_
    refine Sa V.mv ?_
    refine Sa V.asg ?_
    refine Wn ?_
    refine sq ?_
    refine WC.ret ?_
    refine' ⟨.inr rfl, rfl, _, [], .tmp rfl .nil, List.nil_sublist _, ?_⟩
    first | rfl | (simp [oneOrTuple]; done)
   ·
    refine sq ?_
    refine WC.skip ?_
    refine rg ?_
    refine Sa V.ldA ?_
    refine' W.step rfl (Exec.call rfl rfl rfl rfl rfl rfl rfl (mi := []) (.refl _) trivial (fmt_fn L hG hN (by omega) (by omega)) ?_)
    rintro v m' J1 hle1 ⟨rfl, rfl, hleA⟩
    refine Sa V.mv ?_
    refine Sa V.ex ?_
    refine Sa V.ex ?_
    refine Sa V.asg ?_
    refine Sa V.asg ?_
    refine Wn ?_
    refine rg ?_
    refine Sa V.mv ?_
    refine Sa V.vi ?_
    refine Wn ?_
    refine sq ?_
    first | refine WC.if rfl (fun c37 => ?_) (fun c37 => ?_) | refine WC.cond rfl (fun c37 => ?_) (fun c37 => ?_)
    ·
     have hc : chk k tx N = 0 := by
       apply Classical.byContradiction; intro q
       unfold fmtS at c37; rw [if_pos q] at c37; exact q c37
     have hp : parseS (fmtS k tx N).1 = .inl (k, tx, N) := by
       unfold fmtS; rw [if_neg (fun q => q hc)]; exact parse_fmt hc
     have hfl := fmt_len (k := k) (tx := tx) (N := N)
     refine rg ?_
     refine Sa V.mv ?_
     refine' W.step rfl (Exec.call rfl rfl rfl rfl rfl rfl rfl (mi := []) (.refl _) trivial (parse_fn L (hG.mono hleA) (by omega)) ?_)
     rintro v m' J2 hle2 ⟨⟨k', tx', N', b', n', c', e, p, rfl, hv', hm'⟩, rfl, hleB⟩; rw [hp] at hm'; obtain ⟨heq, rfl, rfl⟩ := hm'; simp only [Prod.mk.injEq] at heq; obtain ⟨rfl, rfl, rfl⟩ := heq
     refine Sa V.mv ?_
     refine Sa V.ex ?_
     refine Sa V.ex ?_
     refine' W.step rfl (.of (x_alloc rfl rfl rfl (ze24 Q g0) rfl rfl rfl fun a8 => ?_))
     refine' W.step rfl (.of (x_alloc rfl rfl rfl (ze30 Q g0) rfl rfl rfl fun a9 => ?_))
     refine Ss ?_
     refine Ss ?_
     refine Wn ?_
     refine rg ?_
     refine Sa V.ldA ?_
     refine Sa V.bd ?_
     refine' W.step rfl (Exec.val rfl rfl (v_ints rfl (.inr ⟨rfl, rfl⟩) rfl rfl (in30 Q g0) (la := [_, _]) (bs := [_, _]) rfl rfl rfl rfl) ?_)
     refine Sa V.mv ?_
     first | refine W.splitP (d := 46) rfl (fun gr7_3 => ?_) (fun gr7_3 => ?_) | refine W.split (d := 46) rfl (fun gr7_3 => ?_) (fun gr7_3 => ?_)
     ·
      exfalso; simp at gr7_3
     ·
      refine Sb V.ldA ?_
      refine Sb V.ldA ?_
      refine' W.guardY rfl rfl rfl (Exec.call rfl rfl rfl rfl rfl rfl rfl (mi := []) (.refl _) trivial (same_fn hv' (hN.mono (hleA.trans hleB)) (by omega)) ?_)
      rintro v m' J' hle ⟨rfl, rfl, rfl⟩
      refine Sb V.nt ?_
      refine Sa V.pk ?_
      refine Wn ?_
      refine sq ?_
      first | refine WC.if rfl (fun c51 => ?_) (fun c51 => ?_) | refine WC.cond rfl (fun c51 => ?_) (fun c51 => ?_)
      ·
       exfalso; simp at c51
      ·
       refine sq ?_
       refine WC.skip ?_
       refine rg ?_
       refine Sa V.mv ?_
       refine' W.step rfl (Exec.call rfl rfl rfl rfl rfl rfl rfl (mi := []) (.refl _) trivial (parse_fn L (hG.mono (by first | exact hleA.trans hleB | exact hleA)) (by omega)) ?_)
       rintro v m' J3 hle3 ⟨⟨k2, tx2, N2, b2, n2, c2, e, p, rfl, hv2, hm2⟩, rfl, hleC⟩; obtain ⟨rfl, _, _⟩ := hv2.get
       refine Sa V.mv ?_
       refine Sa V.ex ?_
       refine Sa V.ex ?_
       refine' W.step rfl (.of (x_alloc rfl rfl rfl (ze24 Q g0) rfl rfl rfl fun a10 => ?_))
       refine' W.step rfl (.of (x_alloc rfl rfl rfl (ze30 Q g0) rfl rfl rfl fun a11 => ?_))
       refine Ss ?_
       refine Ss ?_
       refine Wn ?_
       refine rg ?_
       refine Sa V.fa ?_
       refine Sa V.ld ?_
       refine Sa V.vi ?_
       refine Wn ?_
       refine sq ?_
       first | refine WC.if rfl (fun c59 => ?_) (fun c59 => ?_) | refine WC.cond rfl (fun c59 => ?_) (fun c59 => ?_)
       ·
        refine rg ?_
        refine Sa V.mv ?_
        refine Sa V.asg ?_
        refine Wn ?_
        refine sq ?_
        refine WC.ret ?_
        refine' ⟨.inr rfl, rfl, _, [], .tmp rfl .nil, List.nil_sublist _, ?_⟩
        first | rfl | (simp [oneOrTuple]; done)
       ·
        obtain rfl : e = 0 := Classical.not_not.1 c59
        obtain ⟨hp2, hc2⟩ : parseS s = .inl (k2, tx2, N2) ∧ chk k2 tx2 N2 = 0 := by
          cases q : parseS s with
          | inl x => rw [q] at hm2; obtain ⟨rfl, _, _⟩ := hm2; exact ⟨rfl, parse_chk q⟩
          | inr f => rw [q] at hm2; exact absurd rfl hm2.2.1
        have hb1 := chk_tx hc2
        have hb2 := chk_N hc2
        refine sq ?_
        refine WC.skip ?_
        refine rg ?_
        refine Sa V.ldA ?_
        refine' W.step rfl (Exec.call rfl rfl rfl rfl rfl rfl rfl (mi := []) (.refl _) trivial (fmt_fn L (hG.mono (by first | exact (hleA.trans hleB).trans hleC | exact hleA.trans hleC)) hv2 (by omega) (by omega)) ?_)
        rw [fmt_parse hp2]; rintro v m' J4 hle4 ⟨rfl, rfl, hleD⟩
        refine Sa V.mv ?_
        refine Sa V.ex ?_
        refine Sa V.ex ?_
        refine Sa V.asg ?_
        refine Sa V.asg ?_
        refine Wn ?_
        refine rg ?_
        refine Sa V.mv ?_
        refine Sa V.mv ?_
        first | refine W.splitP (d := 67) rfl (fun gr13_1 => ?_) (fun gr13_1 => ?_) | refine W.split (d := 67) rfl (fun gr13_1 => ?_) (fun gr13_1 => ?_)
        ·
         refine Sb V.mv ?_
         refine Sb V.vi ?_
         refine Sa V.pk ?_
         refine Sa V.mv ?_
         first | refine W.splitP (d := 71) rfl (fun gr13_5 => ?_) (fun gr13_5 => ?_) | refine W.split (d := 71) rfl (fun gr13_5 => ?_) (fun gr13_5 => ?_)
         ·
          refine Sb V.mv ?_
          refine Sb V.mv ?_
          refine Sb V.se ?_
          refine Sa V.pk ?_
          refine Sa V.asg ?_
          refine Wn ?_
          refine sq ?_
          refine WC.ret ?_
          refine' ⟨.inr rfl, rfl, _, [], .tmp rfl .nil, List.nil_sublist _, ?_⟩
          first | rfl | (simp [oneOrTuple]; done)
         ·
          exfalso; simp at gr13_5
        ·
         exfalso; cases gr13_1
    ·
     refine sq ?_
     refine WC.skip ?_
     refine rg ?_
     refine Sa V.mv ?_
     refine' W.step rfl (Exec.call rfl rfl rfl rfl rfl rfl rfl (mi := []) (.refl _) trivial (parse_fn L (hG.mono (by first | exact hleA.trans hleB | exact hleA)) (by omega)) ?_)
     rintro v m' J3 hle3 ⟨⟨k2, tx2, N2, b2, n2, c2, e, p, rfl, hv2, hm2⟩, rfl, hleC⟩; obtain ⟨rfl, _, _⟩ := hv2.get
     refine Sa V.mv ?_
     refine Sa V.ex ?_
     refine Sa V.ex ?_
     refine' W.step rfl (.of (x_alloc rfl rfl rfl (ze24 Q g0) rfl rfl rfl fun a10 => ?_))
     refine' W.step rfl (.of (x_alloc rfl rfl rfl (ze30 Q g0) rfl rfl rfl fun a11 => ?_))
     refine Ss ?_
     refine Ss ?_
     refine Wn ?_
     refine rg ?_
     refine Sa V.fa ?_
     refine Sa V.ld ?_
     refine Sa V.vi ?_
     refine Wn ?_
     refine sq ?_
     first | refine WC.if rfl (fun c59 => ?_) (fun c59 => ?_) | refine WC.cond rfl (fun c59 => ?_) (fun c59 => ?_)
     ·
      refine rg ?_
      refine Sa V.mv ?_
      refine Sa V.asg ?_
      refine Wn ?_
      refine sq ?_
      refine WC.ret ?_
      refine' ⟨.inr rfl, rfl, _, [], .tmp rfl .nil, List.nil_sublist _, ?_⟩
      first | rfl | (simp [oneOrTuple]; done)
     ·
      obtain rfl : e = 0 := Classical.not_not.1 c59
      obtain ⟨hp2, hc2⟩ : parseS s = .inl (k2, tx2, N2) ∧ chk k2 tx2 N2 = 0 := by
        cases q : parseS s with
        | inl x => rw [q] at hm2; obtain ⟨rfl, _, _⟩ := hm2; exact ⟨rfl, parse_chk q⟩
        | inr f => rw [q] at hm2; exact absurd rfl hm2.2.1
      have hb1 := chk_tx hc2
      have hb2 := chk_N hc2
      refine sq ?_
      refine WC.skip ?_
      refine rg ?_
      refine Sa V.ldA ?_
      refine' W.step rfl (Exec.call rfl rfl rfl rfl rfl rfl rfl (mi := []) (.refl _) trivial (fmt_fn L (hG.mono (by first | exact (hleA.trans hleB).trans hleC | exact hleA.trans hleC)) hv2 (by omega) (by omega)) ?_)
      rw [fmt_parse hp2]; rintro v m' J4 hle4 ⟨rfl, rfl, hleD⟩
      refine Sa V.mv ?_
      refine Sa V.ex ?_
      refine Sa V.ex ?_
      refine Sa V.asg ?_
      refine Sa V.asg ?_
      refine Wn ?_
      refine rg ?_
      refine Sa V.mv ?_
      refine Sa V.mv ?_
      first | refine W.splitP (d := 67) rfl (fun gr13_1 => ?_) (fun gr13_1 => ?_) | refine W.split (d := 67) rfl (fun gr13_1 => ?_) (fun gr13_1 => ?_)
      ·
       refine Sb V.mv ?_
       refine Sb V.vi ?_
       refine Sa V.pk ?_
       refine Sa V.mv ?_
       first | refine W.splitP (d := 71) rfl (fun gr13_5 => ?_) (fun gr13_5 => ?_) | refine W.split (d := 71) rfl (fun gr13_5 => ?_) (fun gr13_5 => ?_)
       ·
        refine Sb V.mv ?_
        refine Sb V.mv ?_
        refine Sb V.se ?_
        refine Sa V.pk ?_
        refine Sa V.asg ?_
        refine Wn ?_
        refine sq ?_
        refine WC.ret ?_
        refine' ⟨.inr rfl, rfl, _, [], .tmp rfl .nil, List.nil_sublist _, ?_⟩
        first | rfl | (simp [oneOrTuple]; done)
       ·
        exfalso; simp at gr13_5
      ·
       exfalso; cases gr13_1
end
end Go.Opn

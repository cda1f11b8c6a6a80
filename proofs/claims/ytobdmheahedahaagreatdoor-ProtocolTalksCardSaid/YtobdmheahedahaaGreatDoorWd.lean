/- A part of the proof of ProtocolTalks. -/
import Derived.Test.YtobdmheahedahaaGreatDoorWb
set_option maxRecDepth 100000
set_option linter.unusedVariables false
set_option linter.unusedSimpArgs false
namespace Go.Opn
open Go.Cre Go.RowKit Go.Proofs
abbrev ld (b : UInt8) : Prop := isLetter b.toNat ∨ isDigit b.toNat
/-- names -/
def isNm (s : List UInt8) : Bool := (match s with | [] => false | b :: _ => decide (isLetter b.toNat)) && s.all (fun b => decide (ld b)) && decide (s.length ≤ 40)
def ldAt (s : List UInt8) (j : Nat) : Bool := match s[j]? with | some b => decide (ld b) | none => false
theorem isNm_first {s : List UInt8} {b : UInt8} (h : s[0]? = some b) (hb : ¬ isLetter b.toNat) : isNm s = false := by
  cases s with
  | nil => rfl
  | cons a s =>
    simp at h; subst h
    unfold isNm
    simp only [decide_eq_false hb, Bool.false_and]
theorem isNm_iff {s : List UInt8} {b : UInt8} {j : Nat} (h : s[0]? = some b) (hb : isLetter b.toNat) (hj : j ≤ s.length) (h1 : ∀ i, i < j → ldAt s i = true) (h2 : j < s.length → ldAt s j = false) : isNm s = true ↔ (j = s.length ∧ j ≤ 40) := by
  have hall : s.all (fun b => decide (ld b)) = true ↔ j = s.length := by
    rw [List.all_eq_true]
    constructor
    · intro q
      rcases Nat.lt_or_ge j s.length with r | r
      · have := h2 r
        unfold ldAt at this
        rw [List.getElem?_eq_getElem r] at this
        simp only at this
        rw [q _ (List.getElem_mem r)] at this; cases this
      · omega
    · intro q c hc
      obtain ⟨i, hi, rfl⟩ := List.mem_iff_getElem.1 hc
      have := h1 i (by omega)
      unfold ldAt at this
      rwa [List.getElem?_eq_getElem hi] at this
  cases s with
  | nil => cases h
  | cons a s =>
    simp at h; subst h
    unfold isNm
    simp only [decide_eq_true hb, Bool.true_and, Bool.and_eq_true, hall, decide_eq_true_eq]
    constructor
    · rintro ⟨q1, q2⟩; exact ⟨q1, by omega⟩
    · rintro ⟨q1, q2⟩; exact ⟨q1, by omega⟩
theorem ldAt_lt {s : List UInt8} {j : Nat} (h : ldAt s j = true) : j < s.length := by
  rcases Nat.lt_or_ge j s.length with q | q
  · exact q
  · unfold ldAt at h; rw [List.getElem?_eq_none q] at h; cases h
section
variable {Q : Worlds Tryz.prog} {g0 : Nat} {J : Jm}
/-- what is told of the first token of a text -/
def NextP (s : List UInt8) (J : Jm) : Value → Mm → Jm → Prop := fun w m' J' => (∃ k tx nn ta e fe fa, w = .tuple #[.agg #[.int .i64 k, .string ⟨⟨tx⟩⟩, .int .i64 nn, .int .i64 ta], .int .i64 e, .agg #[.int .i64 fe, .int .i64 fa]] ∧ (isNm s = true ↔ (fe = 0 ∧ e = s.length ∧ k = 1)) ∧ (k = 1 → nn = 0)) ∧ m' = [] ∧ J' = J
theorem rnext_fn {s : List UInt8} {b0 : UInt8} (h0 : s[0]? = some b0) (hs : s.length ≤ 140737488355328) : Fn (kx Q g0) 71 [.string ⟨⟨s⟩⟩, .int .i64 0] [] J (NextP s J) := by
  have hpos : 0 < s.length := by
    cases s with
    | nil => cases h0
    | cons => simp
  refine Fn.of_body (ftGet Tryz.func71) rfl rfl fun H => ?_
  refine rg ?_
  refine' W.step rfl (.of (x_alloc rfl rfl rfl (ze92 Q g0) rfl rfl rfl fun a4 => ?_))
  refine Sa V.asg ?_
  refine' W.step rfl (.of (x_alloc rfl rfl rfl (ze33 Q g0) rfl rfl rfl fun a6 => ?_))
  refine Wn ?_
  refine rg ?_
  refine Sa V.mv ?_
  refine Sa V.asg ?_
  refine Wn ?_
  refine rg ?_
  refine Sa V.mv ?_
  refine Sa V.mv ?_
  refine Sa V.iS ?_
  refine Sa V.asg ?_
  refine Wn ?_
  refine rg ?_
  refine Sa V.mv ?_
  refine' W.step rfl (Exec.call rfl rfl rfl rfl rfl rfl rfl (mi := []) (.refl _) trivial (letter_fn (c := b0.toNat)) ?_)
  rintro v m' J' hle ⟨rfl, rfl, rfl⟩
  refine Wn ?_
  refine sq ?_
  first | refine WC.if rfl (fun c16 => ?_) (fun c16 => ?_) | refine WC.cond rfl (fun c16 => ?_) (fun c16 => ?_)
  ·
   refine sq ?_
   refine WC.block ?_
   refine' WC.weak (l' := [(7, .int .i64 ((0) : Int)), (0, _), (1, _), (4, _), (6, _)]) ⟨?w7, rfl, rfl, rfl, rfl, trivial⟩ (List.Sublist.refl _) ?_
   case w7 => first | rfl | exact congrArg some (congrArg (Value.int .i64) (by omega))
   refine sq ?_
   refine' WC.loopC (α := (Nat)) (fun (j : Nat) => [(7, .int .i64 (j : Int))]) (fun (j : Nat) => j ≤ s.length ∧ ∀ i, i < j → ldAt s i = true) (fun (j : Nat) => s.length - j) (0) ?hs ?hstep
   case hs => exact ⟨by omega, fun i hi => absurd hi (by omega)⟩
   case hstep =>
    rintro j hinv
    try simp only at hinv
    obtain ⟨hj, hall⟩ := hinv
    refine' WC.weak (l' := [(0, _), (1, _), (4, _), (6, _), (7, _)]) ⟨rfl, rfl, rfl, rfl, rfl, trivial⟩ (List.Sublist.refl _) ?_
    refine sq ?_
    refine' WC.cutK 0 [(32, .bool (decide ((ldAt s j = true))))] ?cr4 ?dr4
    case cr4 =>
     refine WC.region ?_
     refine Sa V.mv ?_
     refine Sa V.mv ?_
     refine Sa V.lS ?_
     refine Sa V.vi ?_
     refine Sa V.mv ?_
     first | refine W.splitP (d := 21) rfl (fun gr4_4 => ?_) (fun gr4_4 => ?_) | refine W.split (d := 21) rfl (fun gr4_4 => ?_) (fun gr4_4 => ?_)
     ·
      have hlt : j < s.length := by omega
      obtain ⟨b, hb, hb'⟩ := get_at s j hlt
      refine Sb V.mv ?_
      refine Sb V.mv ?_
      refine Sb V.iS ?_
      refine' W.guardY rfl rfl rfl (Exec.call rfl rfl rfl rfl rfl rfl rfl (mi := []) (.refl _) trivial (letter_fn (c := b.toNat)) ?_)
      rintro v m' J' hle ⟨rfl, rfl, rfl⟩
      refine Sb V.mv ?_
      first | refine W.splitP (d := 26) rfl (fun gr4_9 => ?_) (fun gr4_9 => ?_) | refine W.split (d := 26) rfl (fun gr4_9 => ?_) (fun gr4_9 => ?_)
      ·
       refine Sn ?_
       refine Sn ?_
       refine Sn ?_
       refine W.guardN rfl rfl rfl rfl rfl ?_
       refine Sb V.pk ?_
       refine Sa V.pk ?_
       refine Wn ?_
       refine' ⟨⟨_, rfl, ⟨?n32, rfl, rfl, rfl, rfl, rfl, trivial⟩⟩, List.Sublist.refl _, rfl⟩
       case n32 => first | exact cutT rfl (by first | (unfold ldAt; rw [hb']; simp only [decide_eq_true_eq]; first | exact .inl (by assumption) | (constructor; exact fun q => .inr q; exact fun q => q.resolve_left (by assumption))) | (unfold ldAt; rw [List.getElem?_eq_none (by omega)]; simp)) | exact cutF rfl (by first | (unfold ldAt; rw [hb']; simp only [decide_eq_true_eq]; first | exact .inl (by assumption) | (constructor; exact fun q => .inr q; exact fun q => q.resolve_left (by assumption))) | (unfold ldAt; rw [List.getElem?_eq_none (by omega)]; simp)) | exact cutI rfl (by first | (unfold ldAt; rw [hb']; simp only [decide_eq_true_eq]; first | exact .inl (by assumption) | (constructor; exact fun q => .inr q; exact fun q => q.resolve_left (by assumption))) | (unfold ldAt; rw [List.getElem?_eq_none (by omega)]; simp)) | exact cutB rfl (by first | (unfold ldAt; rw [hb']; simp only [decide_eq_true_eq]; first | exact .inl (by assumption) | (constructor; exact fun q => .inr q; exact fun q => q.resolve_left (by assumption))) | (unfold ldAt; rw [List.getElem?_eq_none (by omega)]; simp))
      ·
       refine Sb V.mv ?_
       refine Sb V.mv ?_
       refine Sb V.iS ?_
       refine' W.guardY rfl rfl rfl (Exec.call rfl rfl rfl rfl rfl rfl rfl (mi := []) (.refl _) trivial (digit_fn (c := b.toNat)) ?_)
       rintro v m' J' hle ⟨rfl, rfl, rfl⟩
       refine Sb V.pk ?_
       refine Sa V.pk ?_
       refine Wn ?_
       refine' ⟨⟨_, rfl, ⟨?n32, rfl, rfl, rfl, rfl, rfl, trivial⟩⟩, List.Sublist.refl _, rfl⟩
       case n32 => first | exact cutT rfl (by first | (unfold ldAt; rw [hb']; simp only [decide_eq_true_eq]; first | exact .inl (by assumption) | (constructor; exact fun q => .inr q; exact fun q => q.resolve_left (by assumption))) | (unfold ldAt; rw [List.getElem?_eq_none (by omega)]; simp)) | exact cutF rfl (by first | (unfold ldAt; rw [hb']; simp only [decide_eq_true_eq]; first | exact .inl (by assumption) | (constructor; exact fun q => .inr q; exact fun q => q.resolve_left (by assumption))) | (unfold ldAt; rw [List.getElem?_eq_none (by omega)]; simp)) | exact cutI rfl (by first | (unfold ldAt; rw [hb']; simp only [decide_eq_true_eq]; first | exact .inl (by assumption) | (constructor; exact fun q => .inr q; exact fun q => q.resolve_left (by assumption))) | (unfold ldAt; rw [List.getElem?_eq_none (by omega)]; simp)) | exact cutB rfl (by first | (unfold ldAt; rw [hb']; simp only [decide_eq_true_eq]; first | exact .inl (by assumption) | (constructor; exact fun q => .inr q; exact fun q => q.resolve_left (by assumption))) | (unfold ldAt; rw [List.getElem?_eq_none (by omega)]; simp))
     ·
      refine Sn ?_
      refine Sn ?_
      refine Sn ?_
      refine W.guardN rfl rfl rfl rfl rfl ?_
      refine Sn ?_
      refine Su ?_
      refine Su ?_
      refine Su ?_
      refine W.guardU rfl rfl rfl rfl ?_
      refine Sn ?_
      refine Sa V.pk ?_
      refine Wn ?_
      refine' ⟨⟨_, rfl, ⟨?n32, rfl, rfl, rfl, rfl, rfl, trivial⟩⟩, List.Sublist.refl _, rfl⟩
      case n32 => first | exact cutT rfl (by first | (unfold ldAt; rw [hb']; simp only [decide_eq_true_eq]; first | exact .inl (by assumption) | (constructor; exact fun q => .inr q; exact fun q => q.resolve_left (by assumption))) | (unfold ldAt; rw [List.getElem?_eq_none (by omega)]; simp)) | exact cutF rfl (by first | (unfold ldAt; rw [hb']; simp only [decide_eq_true_eq]; first | exact .inl (by assumption) | (constructor; exact fun q => .inr q; exact fun q => q.resolve_left (by assumption))) | (unfold ldAt; rw [List.getElem?_eq_none (by omega)]; simp)) | exact cutI rfl (by first | (unfold ldAt; rw [hb']; simp only [decide_eq_true_eq]; first | exact .inl (by assumption) | (constructor; exact fun q => .inr q; exact fun q => q.resolve_left (by assumption))) | (unfold ldAt; rw [List.getElem?_eq_none (by omega)]; simp)) | exact cutB rfl (by first | (unfold ldAt; rw [hb']; simp only [decide_eq_true_eq]; first | exact .inl (by assumption) | (constructor; exact fun q => .inr q; exact fun q => q.resolve_left (by assumption))) | (unfold ldAt; rw [List.getElem?_eq_none (by omega)]; simp))
    case dr4 =>
     refine sq ?_
     first | refine WC.if rfl (fun c32 => ?_) (fun c32 => ?_) | refine WC.cond rfl (fun c32 => ?_) (fun c32 => ?_)
     ·
      refine sq ?_
      refine WC.skip ?_
      refine sq ?_
      refine WC.block ?_
      refine rg ?_
      refine Sa V.mv ?_
      refine Sa V.va ?_
      refine Sa V.asg ?_
      refine Wn ?_
      refine' ⟨(j + 1), _, ?hinv, ?hmeas, rfl, ⟨?m7, rfl, rfl, rfl, rfl, trivial⟩, List.Sublist.refl _, rfl⟩
      case m7 => first | rfl | exact congrArg some (congrArg (Value.int .i64) (by omega))
      case hmeas => have := ldAt_lt c32; omega
      case hinv => exact ⟨by have := ldAt_lt c32; omega, fun i hi => by rcases Nat.lt_or_ge i j with q | q; exact hall i q; rw [show i = j by omega]; exact c32⟩
     ·
      refine sq ?_
      refine WC.exit ?_
      refine rg ?_
      refine Sa V.mv ?_
      refine Sa V.mv ?_
      refine Sa V.va ?_
      refine Sa V.vi ?_
      refine Wn ?_
      refine sq ?_
      first | refine WC.if rfl (fun c38 => ?_) (fun c38 => ?_) | refine WC.cond rfl (fun c38 => ?_) (fun c38 => ?_)
      ·
       refine rg ?_
       refine Sa V.bd ?_
       refine Sa V.mv ?_
       refine Sa V.mv ?_
       refine Sa V.bd ?_
       refine Ss ?_
       refine Sa V.asg ?_
       refine Ss ?_
       refine Wn ?_
       refine sq ?_
       refine WC.ret ?_
       refine' ⟨.inr rfl, rfl, _, [], .cell rfl (by repeat first | exact .head _ | refine .tail _ ?_ | refine List.mem_append_right _ ?_) (partA (tAg rfl) rfl) (.tmp rfl (.cell rfl (by repeat first | exact .head _ | refine .tail _ ?_ | refine List.mem_append_right _ ?_) (partA (tAg rfl) rfl) (.nil))), List.nil_sublist _, ?_⟩
       (refine ⟨⟨_, _, _, _, _, _, _, rfl, ?_, ?_⟩, rfl, rfl⟩ <;> first | (intro _; rfl) | (intro q; cases q) | (rw [isNm_first h0 (by assumption)]; simp; done) | (have hx := isNm_iff h0 c16 hj hall (fun _ => by simpa using c32); rw [hx]; constructor <;> intro q <;> omega))
      ·
       refine sq ?_
       refine WC.skip ?_
       refine rg ?_
       refine Sa V.mv ?_
       refine Sa V.mv ?_
       refine Sa V.mv ?_
       refine' W.step rfl (Exec.val rfl rfl (v_sliceStr rfl rfl (tIt rfl) rfl rfl ?h0 ?h1 ?h2) ?_)
       case h0 => first | omega | (simp; omega)
       case h1 => first | omega | (simp; omega)
       case h2 => first | omega | (simp; omega)
       refine Sa V.mv ?_
       refine Sa V.bd ?_
       refine Sa V.mv ?_
       refine Sa V.bd ?_
       refine Ss ?_
       refine Sa V.asg ?_
       refine Ss ?_
       refine Wn ?_
       refine sq ?_
       refine WC.ret ?_
       refine' ⟨.inr rfl, rfl, _, [], .cell rfl (by repeat first | exact .head _ | refine .tail _ ?_ | refine List.mem_append_right _ ?_) (partA (tAg rfl) rfl) (.tmp rfl (.cell rfl (by repeat first | exact .head _ | refine .tail _ ?_ | refine List.mem_append_right _ ?_) (partA (tAg rfl) rfl) (.nil))), List.nil_sublist _, ?_⟩
       (refine ⟨⟨_, _, _, _, _, _, _, rfl, ?_, ?_⟩, rfl, rfl⟩ <;> first | (intro _; rfl) | (intro q; cases q) | (rw [isNm_first h0 (by assumption)]; simp; done) | (have hx := isNm_iff h0 c16 hj hall (fun _ => by simpa using c32); rw [hx]; constructor <;> intro q <;> omega))
  ·
   refine sq ?_
   refine WC.skip ?_
   refine rg ?_
   refine Sa V.mv ?_
   refine' W.step rfl (Exec.call rfl rfl rfl rfl rfl rfl rfl (mi := []) (.refl _) trivial (digit_fn (c := b0.toNat)) ?_)
   rintro v m' J' hle ⟨rfl, rfl, rfl⟩
   refine Wn ?_
   refine sq ?_
   first | refine WC.if rfl (fun c52 => ?_) (fun c52 => ?_) | refine WC.cond rfl (fun c52 => ?_) (fun c52 => ?_)
   ·
    refine sq ?_
    refine WC.block ?_
    refine' WC.weak (l' := [(7, .int .i64 ((0) : Int)), (0, _), (1, _), (4, _), (6, _)]) ⟨?w7, rfl, rfl, rfl, rfl, trivial⟩ (List.Sublist.refl _) ?_
    case w7 => first | rfl | exact congrArg some (congrArg (Value.int .i64) (by omega))
    refine sq ?_
    refine' WC.loopC (α := (Nat)) (fun (j : Nat) => [(7, .int .i64 (j : Int))]) (fun (j : Nat) => j ≤ s.length) (fun (j : Nat) => s.length - j) (0) ?hs ?hstep
    case hs => omega
    case hstep =>
     rintro j hinv
     try simp only at hinv
     refine rg ?_
     refine Sa V.mv ?_
     refine Sa V.mv ?_
     refine Sa V.lS ?_
     refine Sa V.vi ?_
     refine Sa V.mv ?_
     first | refine W.splitP (d := 57) rfl (fun gr10_4 => ?_) (fun gr10_4 => ?_) | refine W.split (d := 57) rfl (fun gr10_4 => ?_) (fun gr10_4 => ?_)
     ·
      have hlt : j < s.length := by omega
      obtain ⟨b, hb, hb'⟩ := get_at s j hlt
      refine Sb V.mv ?_
      refine Sb V.mv ?_
      refine Sb V.iS ?_
      refine' W.guardY rfl rfl rfl (Exec.call rfl rfl rfl rfl rfl rfl rfl (mi := []) (.refl _) trivial (digit_fn (c := b.toNat)) ?_)
      rintro v m' J' hle ⟨rfl, rfl, rfl⟩
      refine Sa V.pk ?_
      refine Wn ?_
      refine sq ?_
      first | refine WC.if rfl (fun c62 => ?_) (fun c62 => ?_) | refine WC.cond rfl (fun c62 => ?_) (fun c62 => ?_)
      ·
       refine sq ?_
       refine WC.skip ?_
       refine sq ?_
       refine WC.block ?_
       refine rg ?_
       refine Sa V.mv ?_
       refine Sa V.va ?_
       refine Sa V.asg ?_
       refine Wn ?_
       refine' ⟨(j + 1), _, ?hinv, ?hmeas, rfl, ⟨?m7, rfl, rfl, rfl, rfl, trivial⟩, List.Sublist.refl _, rfl⟩
       case m7 => first | rfl | exact congrArg some (congrArg (Value.int .i64) (by omega))
       case hmeas => first | omega | (simp only; omega)
       case hinv => omega
      ·
       refine sq ?_
       refine WC.exit ?_
       refine rg ?_
       refine Sa V.mv ?_
       refine Sa V.mv ?_
       refine Sa V.mv ?_
       refine' W.step rfl (Exec.val rfl rfl (v_sliceStr rfl rfl (tIt rfl) rfl rfl ?h0 ?h1 ?h2) ?_)
       case h0 => first | omega | (simp; omega)
       case h1 => first | omega | (simp; omega)
       case h2 => first | omega | (simp; omega)
       refine' W.step rfl (Exec.call rfl rfl rfl rfl rfl rfl rfl (mi := []) (.refl _) trivial (rnumber_fn (by simp; omega)) ?_)
       rintro v m' J' hle ⟨⟨n1, n2, rfl⟩, rfl, rfl⟩
       refine Sa V.mv ?_
       refine Sa V.ex ?_
       refine Sa V.ex ?_
       refine Sa V.asg ?_
       refine Sa V.asg ?_
       refine Wn ?_
       refine rg ?_
       refine Sa V.mv ?_
       refine Sa V.vi ?_
       refine Wn ?_
       refine sq ?_
       first | refine WC.if rfl (fun c74 => ?_) (fun c74 => ?_) | refine WC.cond rfl (fun c74 => ?_) (fun c74 => ?_)
       ·
        refine rg ?_
        refine Sa V.bd ?_
        refine Sa V.mv ?_
        refine Sa V.mv ?_
        refine Sa V.mv ?_
        refine Sa V.bd ?_
        refine Ss ?_
        refine Sa V.asg ?_
        refine Ss ?_
        refine Wn ?_
        refine sq ?_
        refine WC.ret ?_
        refine' ⟨.inr rfl, rfl, _, [], .cell rfl (by repeat first | exact .head _ | refine .tail _ ?_ | refine List.mem_append_right _ ?_) (partA (tAg rfl) rfl) (.tmp rfl (.cell rfl (by repeat first | exact .head _ | refine .tail _ ?_ | refine List.mem_append_right _ ?_) (partA (tAg rfl) rfl) (.nil))), List.nil_sublist _, ?_⟩
        (refine ⟨⟨_, _, _, _, _, _, _, rfl, ?_, ?_⟩, rfl, rfl⟩ <;> first | (intro _; rfl) | (intro q; cases q) | (rw [isNm_first h0 (by assumption)]; simp; done) | (have hx := isNm_iff h0 c16 hj hall (fun _ => by simpa using c32); rw [hx]; constructor <;> intro q <;> omega))
       ·
        refine sq ?_
        refine WC.skip ?_
        refine rg ?_
        refine Sa V.mv ?_
        refine Sa V.mv ?_
        refine Sa V.mv ?_
        refine' W.step rfl (Exec.val rfl rfl (v_sliceStr rfl rfl (tIt rfl) rfl rfl ?h0 ?h1 ?h2) ?_)
        case h0 => first | omega | (simp; omega)
        case h1 => first | omega | (simp; omega)
        case h2 => first | omega | (simp; omega)
        refine Sa V.mv ?_
        refine Sa V.mv ?_
        refine Sa V.bd ?_
        refine Sa V.mv ?_
        refine Sa V.bd ?_
        refine Ss ?_
        refine Sa V.asg ?_
        refine Ss ?_
        refine Wn ?_
        refine sq ?_
        refine WC.ret ?_
        refine' ⟨.inr rfl, rfl, _, [], .cell rfl (by repeat first | exact .head _ | refine .tail _ ?_ | refine List.mem_append_right _ ?_) (partA (tAg rfl) rfl) (.tmp rfl (.cell rfl (by repeat first | exact .head _ | refine .tail _ ?_ | refine List.mem_append_right _ ?_) (partA (tAg rfl) rfl) (.nil))), List.nil_sublist _, ?_⟩
        (refine ⟨⟨_, _, _, _, _, _, _, rfl, ?_, ?_⟩, rfl, rfl⟩ <;> first | (intro _; rfl) | (intro q; cases q) | (rw [isNm_first h0 (by assumption)]; simp; done) | (have hx := isNm_iff h0 c16 hj hall (fun _ => by simpa using c32); rw [hx]; constructor <;> intro q <;> omega))
     ·
      refine Sn ?_
      refine Sn ?_
      refine Sn ?_
      refine W.guardN rfl rfl rfl rfl rfl ?_
      refine Sa V.pk ?_
      refine Wn ?_
      refine sq ?_
      refine WC.condF rfl ?_
      refine sq ?_
      refine WC.exit ?_
      refine rg ?_
      refine Sa V.mv ?_
      refine Sa V.mv ?_
      refine Sa V.mv ?_
      refine' W.step rfl (Exec.val rfl rfl (v_sliceStr rfl rfl (tIt rfl) rfl rfl ?h0 ?h1 ?h2) ?_)
      case h0 => first | omega | (simp; omega)
      case h1 => first | omega | (simp; omega)
      case h2 => first | omega | (simp; omega)
      refine' W.step rfl (Exec.call rfl rfl rfl rfl rfl rfl rfl (mi := []) (.refl _) trivial (rnumber_fn (by simp; omega)) ?_)
      rintro v m' J' hle ⟨⟨n1, n2, rfl⟩, rfl, rfl⟩
      refine Sa V.mv ?_
      refine Sa V.ex ?_
      refine Sa V.ex ?_
      refine Sa V.asg ?_
      refine Sa V.asg ?_
      refine Wn ?_
      refine rg ?_
      refine Sa V.mv ?_
      refine Sa V.vi ?_
      refine Wn ?_
      refine sq ?_
      first | refine WC.if rfl (fun c74 => ?_) (fun c74 => ?_) | refine WC.cond rfl (fun c74 => ?_) (fun c74 => ?_)
      ·
       refine rg ?_
       refine Sa V.bd ?_
       refine Sa V.mv ?_
       refine Sa V.mv ?_
       refine Sa V.mv ?_
       refine Sa V.bd ?_
       refine Ss ?_
       refine Sa V.asg ?_
       refine Ss ?_
       refine Wn ?_
       refine sq ?_
       refine WC.ret ?_
       refine' ⟨.inr rfl, rfl, _, [], .cell rfl (by repeat first | exact .head _ | refine .tail _ ?_ | refine List.mem_append_right _ ?_) (partA (tAg rfl) rfl) (.tmp rfl (.cell rfl (by repeat first | exact .head _ | refine .tail _ ?_ | refine List.mem_append_right _ ?_) (partA (tAg rfl) rfl) (.nil))), List.nil_sublist _, ?_⟩
       (refine ⟨⟨_, _, _, _, _, _, _, rfl, ?_, ?_⟩, rfl, rfl⟩ <;> first | (intro _; rfl) | (intro q; cases q) | (rw [isNm_first h0 (by assumption)]; simp; done) | (have hx := isNm_iff h0 c16 hj hall (fun _ => by simpa using c32); rw [hx]; constructor <;> intro q <;> omega))
      ·
       refine sq ?_
       refine WC.skip ?_
       refine rg ?_
       refine Sa V.mv ?_
       refine Sa V.mv ?_
       refine Sa V.mv ?_
       refine' W.step rfl (Exec.val rfl rfl (v_sliceStr rfl rfl (tIt rfl) rfl rfl ?h0 ?h1 ?h2) ?_)
       case h0 => first | omega | (simp; omega)
       case h1 => first | omega | (simp; omega)
       case h2 => first | omega | (simp; omega)
       refine Sa V.mv ?_
       refine Sa V.mv ?_
       refine Sa V.bd ?_
       refine Sa V.mv ?_
       refine Sa V.bd ?_
       refine Ss ?_
       refine Sa V.asg ?_
       refine Ss ?_
       refine Wn ?_
       refine sq ?_
       refine WC.ret ?_
       refine' ⟨.inr rfl, rfl, _, [], .cell rfl (by repeat first | exact .head _ | refine .tail _ ?_ | refine List.mem_append_right _ ?_) (partA (tAg rfl) rfl) (.tmp rfl (.cell rfl (by repeat first | exact .head _ | refine .tail _ ?_ | refine List.mem_append_right _ ?_) (partA (tAg rfl) rfl) (.nil))), List.nil_sublist _, ?_⟩
       (refine ⟨⟨_, _, _, _, _, _, _, rfl, ?_, ?_⟩, rfl, rfl⟩ <;> first | (intro _; rfl) | (intro q; cases q) | (rw [isNm_first h0 (by assumption)]; simp; done) | (have hx := isNm_iff h0 c16 hj hall (fun _ => by simpa using c32); rw [hx]; constructor <;> intro q <;> omega))
   ·
    refine sq ?_
    refine WC.skip ?_
    refine rg ?_
    refine Sa V.mv ?_
    refine Sa V.va ?_
    refine Sa V.mv ?_
    refine Sa V.lS ?_
    refine Sa V.vi ?_
    refine Sa V.mv ?_
    first | refine W.splitP (d := 94) rfl (fun gr16_5 => ?_) (fun gr16_5 => ?_) | refine W.split (d := 94) rfl (fun gr16_5 => ?_) (fun gr16_5 => ?_)
    ·
     refine Sb V.mv ?_
     refine Sb V.mv ?_
     refine Sb V.mv ?_
     refine Sb V.va ?_
     refine' W.guardY rfl rfl rfl (Exec.val rfl rfl (v_sliceStr rfl rfl (tIt rfl) rfl rfl ?h0 ?h1 ?h2) ?_)
     case h0 => first | omega | (simp; omega)
     case h1 => first | omega | (simp; omega)
     case h2 => first | omega | (simp; omega)
     refine' W.guardY rfl rfl rfl (Exec.call rfl rfl rfl rfl rfl rfl rfl (mi := []) (.refl _) trivial (double_fn) ?_)
     rintro v m' J' hle ⟨⟨b1, rfl⟩, rfl, rfl⟩
     refine Sa V.pk ?_
     refine Wn ?_
     refine sq ?_
     first | refine WC.if rfl (fun c101 => ?_) (fun c101 => ?_) | refine WC.cond rfl (fun c101 => ?_) (fun c101 => ?_)
     ·
      refine rg ?_
      refine Sa V.mv ?_
      refine Sa V.mv ?_
      refine Sa V.mv ?_
      refine Sa V.va ?_
      refine' W.step rfl (Exec.val rfl rfl (v_sliceStr rfl rfl (tIt rfl) rfl rfl ?h0 ?h1 ?h2) ?_)
      case h0 => first | omega | (simp; omega)
      case h1 => first | omega | (simp; omega)
      case h2 => first | omega | (simp; omega)
      refine Sa V.mv ?_
      refine Sa V.bd ?_
      refine Sa V.mv ?_
      refine Sa V.va ?_
      refine Sa V.bd ?_
      refine Ss ?_
      refine Sa V.asg ?_
      refine Ss ?_
      refine Wn ?_
      refine sq ?_
      refine WC.ret ?_
      refine' ⟨.inr rfl, rfl, _, [], .cell rfl (by repeat first | exact .head _ | refine .tail _ ?_ | refine List.mem_append_right _ ?_) (partA (tAg rfl) rfl) (.tmp rfl (.cell rfl (by repeat first | exact .head _ | refine .tail _ ?_ | refine List.mem_append_right _ ?_) (partA (tAg rfl) rfl) (.nil))), List.nil_sublist _, ?_⟩
      (refine ⟨⟨_, _, _, _, _, _, _, rfl, ?_, ?_⟩, rfl, rfl⟩ <;> first | (intro _; rfl) | (intro q; cases q) | (rw [isNm_first h0 (by assumption)]; simp; done) | (have hx := isNm_iff h0 c16 hj hall (fun _ => by simpa using c32); rw [hx]; constructor <;> intro q <;> omega))
     ·
      refine sq ?_
      refine WC.skip ?_
      refine rg ?_
      refine Sa V.mv ?_
      refine' W.step rfl (Exec.call rfl rfl rfl rfl rfl rfl rfl (mi := []) (.refl _) trivial (single_fn (c := b0.toNat)) ?_)
      rintro v m' J' hle ⟨⟨b2, rfl⟩, rfl, rfl⟩
      refine Wn ?_
      refine sq ?_
      first | refine WC.if rfl (fun c113 => ?_) (fun c113 => ?_) | refine WC.cond rfl (fun c113 => ?_) (fun c113 => ?_)
      ·
       refine rg ?_
       refine Sa V.mv ?_
       refine Sa V.mv ?_
       refine Sa V.mv ?_
       refine Sa V.va ?_
       refine' W.step rfl (Exec.val rfl rfl (v_sliceStr rfl rfl (tIt rfl) rfl rfl ?h0 ?h1 ?h2) ?_)
       case h0 => first | omega | (simp; omega)
       case h1 => first | omega | (simp; omega)
       case h2 => first | omega | (simp; omega)
       refine Sa V.mv ?_
       refine Sa V.bd ?_
       refine Sa V.mv ?_
       refine Sa V.va ?_
       refine Sa V.bd ?_
       refine Ss ?_
       refine Sa V.asg ?_
       refine Ss ?_
       refine Wn ?_
       refine sq ?_
       refine WC.ret ?_
       refine' ⟨.inr rfl, rfl, _, [], .cell rfl (by repeat first | exact .head _ | refine .tail _ ?_ | refine List.mem_append_right _ ?_) (partA (tAg rfl) rfl) (.tmp rfl (.cell rfl (by repeat first | exact .head _ | refine .tail _ ?_ | refine List.mem_append_right _ ?_) (partA (tAg rfl) rfl) (.nil))), List.nil_sublist _, ?_⟩
       (refine ⟨⟨_, _, _, _, _, _, _, rfl, ?_, ?_⟩, rfl, rfl⟩ <;> first | (intro _; rfl) | (intro q; cases q) | (rw [isNm_first h0 (by assumption)]; simp; done) | (have hx := isNm_iff h0 c16 hj hall (fun _ => by simpa using c32); rw [hx]; constructor <;> intro q <;> omega))
      ·
       refine sq ?_
       refine WC.skip ?_
       refine rg ?_
       refine Sa V.bd ?_
       refine Sa V.mv ?_
       refine Sa V.mv ?_
       refine Sa V.bd ?_
       refine Ss ?_
       refine Sa V.asg ?_
       refine Ss ?_
       refine Wn ?_
       refine sq ?_
       refine WC.ret ?_
       refine' ⟨.inr rfl, rfl, _, [], .cell rfl (by repeat first | exact .head _ | refine .tail _ ?_ | refine List.mem_append_right _ ?_) (partA (tAg rfl) rfl) (.tmp rfl (.cell rfl (by repeat first | exact .head _ | refine .tail _ ?_ | refine List.mem_append_right _ ?_) (partA (tAg rfl) rfl) (.nil))), List.nil_sublist _, ?_⟩
       (refine ⟨⟨_, _, _, _, _, _, _, rfl, ?_, ?_⟩, rfl, rfl⟩ <;> first | (intro _; rfl) | (intro q; cases q) | (rw [isNm_first h0 (by assumption)]; simp; done) | (have hx := isNm_iff h0 c16 hj hall (fun _ => by simpa using c32); rw [hx]; constructor <;> intro q <;> omega))
    ·
     refine Sn ?_
     refine Sn ?_
     refine Sn ?_
     refine Sn ?_
     refine W.guardN rfl rfl rfl rfl rfl ?_
     refine W.guardN rfl rfl rfl rfl rfl ?_
     refine Sa V.pk ?_
     refine Wn ?_
     refine sq ?_
     refine WC.condF rfl ?_
     refine sq ?_
     refine WC.skip ?_
     refine rg ?_
     refine Sa V.mv ?_
     refine' W.step rfl (Exec.call rfl rfl rfl rfl rfl rfl rfl (mi := []) (.refl _) trivial (single_fn (c := b0.toNat)) ?_)
     rintro v m' J' hle ⟨⟨b2, rfl⟩, rfl, rfl⟩
     refine Wn ?_
     refine sq ?_
     first | refine WC.if rfl (fun c113 => ?_) (fun c113 => ?_) | refine WC.cond rfl (fun c113 => ?_) (fun c113 => ?_)
     ·
      refine rg ?_
      refine Sa V.mv ?_
      refine Sa V.mv ?_
      refine Sa V.mv ?_
      refine Sa V.va ?_
      refine' W.step rfl (Exec.val rfl rfl (v_sliceStr rfl rfl (tIt rfl) rfl rfl ?h0 ?h1 ?h2) ?_)
      case h0 => first | omega | (simp; omega)
      case h1 => first | omega | (simp; omega)
      case h2 => first | omega | (simp; omega)
      refine Sa V.mv ?_
      refine Sa V.bd ?_
      refine Sa V.mv ?_
      refine Sa V.va ?_
      refine Sa V.bd ?_
      refine Ss ?_
      refine Sa V.asg ?_
      refine Ss ?_
      refine Wn ?_
      refine sq ?_
      refine WC.ret ?_
      refine' ⟨.inr rfl, rfl, _, [], .cell rfl (by repeat first | exact .head _ | refine .tail _ ?_ | refine List.mem_append_right _ ?_) (partA (tAg rfl) rfl) (.tmp rfl (.cell rfl (by repeat first | exact .head _ | refine .tail _ ?_ | refine List.mem_append_right _ ?_) (partA (tAg rfl) rfl) (.nil))), List.nil_sublist _, ?_⟩
      (refine ⟨⟨_, _, _, _, _, _, _, rfl, ?_, ?_⟩, rfl, rfl⟩ <;> first | (intro _; rfl) | (intro q; cases q) | (rw [isNm_first h0 (by assumption)]; simp; done) | (have hx := isNm_iff h0 c16 hj hall (fun _ => by simpa using c32); rw [hx]; constructor <;> intro q <;> omega))
     ·
      refine sq ?_
      refine WC.skip ?_
      refine rg ?_
      refine Sa V.bd ?_
      refine Sa V.mv ?_
      refine Sa V.mv ?_
      refine Sa V.bd ?_
      refine Ss ?_
      refine Sa V.asg ?_
      refine Ss ?_
      refine Wn ?_
      refine sq ?_
      refine WC.ret ?_
      refine' ⟨.inr rfl, rfl, _, [], .cell rfl (by repeat first | exact .head _ | refine .tail _ ?_ | refine List.mem_append_right _ ?_) (partA (tAg rfl) rfl) (.tmp rfl (.cell rfl (by repeat first | exact .head _ | refine .tail _ ?_ | refine List.mem_append_right _ ?_) (partA (tAg rfl) rfl) (.nil))), List.nil_sublist _, ?_⟩
      (refine ⟨⟨_, _, _, _, _, _, _, rfl, ?_, ?_⟩, rfl, rfl⟩ <;> first | (intro _; rfl) | (intro q; cases q) | (rw [isNm_first h0 (by assumption)]; simp; done) | (have hx := isNm_iff h0 c16 hj hall (fun _ => by simpa using c32); rw [hx]; constructor <;> intro q <;> omega))
end
end Go.Opn

/- A part of the proof of ProtocolTalks. -/
import Derived.Test.YtobdmheahedahaaGreatDoorWq
set_option maxRecDepth 100000
set_option linter.unusedVariables false
set_option linter.unusedSimpArgs false
namespace Go.Opn
open Go.Cre Go.RowKit Go.Proofs
theorem IntsR.addr {J : Jm} {b : Option Addr} {n c : Nat} {N : List Int} (h : IntsR J (.slice b n c) N) : addrEq b b = true := by
  obtain ⟨e, h⟩ := h
  generalize N.length = k at h
  generalize N.map (Value.int .i64) = cs at h
  cases h with
  | nil => rfl
  | emp a off cap h => simp [addrEq]
  | emx => rfl
  | row h1 h2 h3 h4 h5 => simp [addrEq]
section
variable {Q : Worlds Tryz.prog} {g0 : Nat} {J : Jm}
variable {ph pl st k : Int} {tx : List UInt8} {O N : List Int} {bo bv : Option Addr} {no co nv cv : Nat}
abbrev cvB (b a1 a2 c1 c2 c3 : Nat) : Nat × PB := (b, .map ((conv0 a1 a2 c1 c2 c3 ++ convX 6).map entOf) 22)
def StP (x : Nat × PB) (r : Tk × Int) (J : Jm) : Value → Mm → Jm → Prop := fun w m' J' => (∃ b c, w = .tuple #[talkV r.1.ph r.1.pl r.1.st (.slice b r.1.off.length c), .int .i64 r.2] ∧ IntsR J' (.slice b r.1.off.length c) r.1.off) ∧ m' = [x] ∧ J.le J'
theorem step_fn (hG : Gl g0 J) {b a1 a2 c1 c2 a6 c3 : Nat} (hcv : Cv a1 a2 c1 c2 a6 c3 J) (hO : IntsR J (.slice bo no co) O) (hN : IntsR J (.slice bv nv cv) N) (ht : tx.length ≤ 140737488355328) (hlO : O.length ≤ 1000000) (hlN : N.length ≤ 1000000) :
    Fn (kx Q g0) 17 [.map (some b), talkV ph pl st (.slice bo no co), lineV k tx (.slice bv nv cv)] [cvB b a1 a2 c1 c2 c3] J (StP (cvB b a1 a2 c1 c2 c3) (stepS ⟨ph, pl, st, O⟩ k tx N) J) := by
  refine Fn.of_body (ftGet Tryz.func17) rfl rfl fun H => ?_
  refine rg ?_
  refine' W.step rfl (.of (x_box rfl rfl rfl rfl rfl rfl fun a4 => ?_))
  refine' W.step rfl (.of (x_box rfl rfl rfl rfl rfl rfl fun a5 => ?_))
  refine' W.step rfl (.of (x_alloc rfl rfl rfl (ze24 Q g0) rfl rfl rfl fun a6 => ?_))
  refine Sa V.asg ?_
  refine Wn ?_
  refine rg ?_
  refine Sa V.ldA ?_
  refine' W.step rfl (Exec.call rfl rfl rfl rfl rfl rfl rfl (mi := []) (.refl _) trivial (check_fn hG hN ht hlN) ?_)
  rintro v m' J1 hle1 ⟨rfl, rfl, hle1'⟩
  refine Sa V.asg ?_
  refine Wn ?_
  refine rg ?_
  refine Sa V.mv ?_
  refine Sa V.vi ?_
  refine Wn ?_
  refine sq ?_
  first | refine WC.if rfl (fun c14 => ?_) (fun c14 => ?_) | refine WC.cond rfl (fun c14 => ?_) (fun c14 => ?_)
  ·
   refine rg ?_
   refine Sa V.bd ?_
   refine Sa V.mv ?_
   refine Ss ?_
   refine Sa V.asg ?_
   refine Wn ?_
   refine sq ?_
   refine WC.ret ?_
   refine' ⟨.inr rfl, rfl, _, [_], .cell rfl (by repeat first | exact .head _ | refine .tail _ ?_ | refine List.mem_append_right _ ?_) (partA (tAg rfl) rfl) (.tmp rfl .nil), (((List.Sublist.refl _).cons _).cons _).cons _, ?_⟩
   unfold stepS
   first
     | (rw [if_pos c14]; exact ⟨⟨_, _, rfl, .nil⟩, rfl, hle1⟩)
     | (rw [if_neg c14, hst]; exact ⟨⟨_, _, rfl, .nil⟩, rfl, hle1⟩)
     | (rw [if_neg c14]; exact ⟨⟨_, _, rfl, hO3⟩, rfl, hle1.trans (hle2.trans hle3)⟩)
  ·
   have hc : chk k tx N = 0 := Classical.not_not.1 c14
   refine sq ?_
   refine WC.skip ?_
   refine rg ?_
   refine Sa V.mv ?_
   refine Sa V.fa ?_
   refine Sa V.ld ?_
   refine Sa V.fa ?_
   refine Sa V.ld ?_
   refine Sa V.bd ?_
   refine' W.step rfl (Exec.val rfl rfl (v_lookupB [ph, k] (conv0 a1 a2 c1 c2 c3 ++ convX 6) rfl rfl rfl rfl (.tail _ (.tail _ (.tail _ (.head _)))) rfl (mp47 Q g0) rfl conv_len (by rw [conv_keys]; exact nd6) (keyPlace Q g0 _ _ _)) ?_)
   refine Sa V.mv ?_
   refine Sa V.ex ?_
   refine Sa V.ex ?_
   refine Sa V.asg ?_
   refine Sa V.asg ?_
   refine Wn ?_
   refine rg ?_
   refine Sa V.mv ?_
   refine Sa V.nt ?_
   refine Wn ?_
   refine sq ?_
   first | refine WC.if rfl (fun c28 => ?_) (fun c28 => ?_) | refine WC.cond rfl (fun c28 => ?_) (fun c28 => ?_)
   ·
    have hst : stepOK ⟨ph, pl, st, O⟩ k N = (tk0, 13) := by
      rcases conv_get (Q := Q) (g0 := g0) (ph := ph) (pl := pl) (st := st) (tx := tx) (hcv.mono hle1) (hO.mono hle1) (hN.mono hle1) hc hlO hlN with ⟨hb, hst⟩ | ⟨hb, _⟩
      · exact hst
      · rw [hb] at c28; cases c28
    refine rg ?_
    refine Sa V.bd ?_
    refine Ss ?_
    refine Sa V.asg ?_
    refine Wn ?_
    refine sq ?_
    refine WC.ret ?_
    refine' ⟨.inr rfl, rfl, _, [_], .cell rfl (by repeat first | exact .head _ | refine .tail _ ?_ | refine List.mem_append_right _ ?_) (partA (tAg rfl) rfl) (.tmp rfl .nil), (((List.Sublist.refl _).cons _).cons _).cons _, ?_⟩
    unfold stepS
    first
      | (rw [if_pos c14]; exact ⟨⟨_, _, rfl, .nil⟩, rfl, hle1⟩)
      | (rw [if_neg c14, hst]; exact ⟨⟨_, _, rfl, .nil⟩, rfl, hle1⟩)
      | (rw [if_neg c14]; exact ⟨⟨_, _, rfl, hO3⟩, rfl, hle1.trans (hle2.trans hle3)⟩)
   ·
    refine sq ?_
    refine WC.skip ?_
    refine rg ?_
    refine Sa V.fa ?_
    refine Sa V.ld ?_
    refine' W.step rfl (Exec.call rfl rfl rfl rfl rfl rfl rfl (mi := []) (.refl _) trivial (clone_fn (hO.mono hle1) hlO) ?_)
    rintro v m' J2 hle2 ⟨⟨b2, c2', rfl, hO2⟩, rfl, hle2'⟩
    refine Sa V.fa ?_
    refine Ss ?_
    refine Wn ?_
    obtain ⟨f, cap, hX, hF⟩ : ∃ f cap, mapX (conv0 a1 a2 c1 c2 c3 ++ convX 6) .nilFunc [ph, k] = .func (.func f) #[] cap ∧ Fn (kx Q g0) f ([talkV ph pl st (.slice b2 O.length c2'), lineV k tx (.slice bv nv cv)] ++ cap.toList) [] J2 (FolP (stepOK ⟨ph, pl, st, O⟩ k N) J2) := by
      rcases conv_get (Q := Q) (g0 := g0) (ph := ph) (pl := pl) (st := st) (tx := tx) (hcv.mono (hle1.trans hle2)) hO2 (hN.mono (hle1.trans hle2)) hc hlO hlN with ⟨hb, _⟩ | ⟨_, h⟩
      · rw [hb] at c28; cases c28
      · exact h
    rw [hX]
    refine rg ?_
    refine Sa V.mv ?_
    refine Sa V.ldA ?_
    refine Sa V.ldA ?_
    refine' W.step rfl (Exec.call rfl rfl rfl rfl rfl rfl rfl (mi := []) (.refl _) trivial (hF) ?_)
    rintro v m' J3 hle3 ⟨⟨b3, c3', rfl, hO3⟩, rfl, hle3'⟩
    refine Sa V.ex ?_
    refine Sa V.ex ?_
    refine Ss ?_
    refine Sa V.asg ?_
    refine Wn ?_
    refine sq ?_
    refine WC.ret ?_
    refine' ⟨.inr rfl, rfl, _, [_], .cell rfl (by repeat first | exact .head _ | refine .tail _ ?_ | refine List.mem_append_right _ ?_) (partA (tAg rfl) rfl) (.tmp rfl .nil), (((List.Sublist.refl _).cons _).cons _).cons _, ?_⟩
    unfold stepS
    first
      | (rw [if_pos c14]; exact ⟨⟨_, _, rfl, .nil⟩, rfl, hle1⟩)
      | (rw [if_neg c14, hst]; exact ⟨⟨_, _, rfl, .nil⟩, rfl, hle1⟩)
      | (rw [if_neg c14]; exact ⟨⟨_, _, rfl, hO3⟩, rfl, hle1.trans (hle2.trans hle3)⟩)
theorem Step_fn (hG : Gl g0 J) (hO : IntsR J (.slice bo no co) O) (hN : IntsR J (.slice bv nv cv) N) (ht : tx.length ≤ 140737488355328) (hlO : O.length ≤ 1000000) (hlN : N.length ≤ 1000000) :
    Fn (kx Q g0) 5 [talkV ph pl st (.slice bo no co), lineV k tx (.slice bv nv cv)] [] J (FolP (stepS ⟨ph, pl, st, O⟩ k tx N) J) := by
  have haO := hO.addr
  have haN := hN.addr
  refine Fn.of_body (ftGet Tryz.func5) rfl rfl fun H => ?_
  refine rg ?_
  refine' W.step rfl (.of (x_box rfl rfl rfl rfl rfl rfl fun a2 => ?_))
  refine' W.step rfl (.of (x_box rfl rfl rfl rfl rfl rfl fun a3 => ?_))
  refine' W.step rfl (.of (x_alloc rfl rfl rfl (ze24 Q g0) rfl rfl rfl fun a4 => ?_))
  refine Sa V.asg ?_
  refine Wn ?_
  refine sq ?_
  refine WC.draw rfl (by kernel_rfl) (plan := [.val 1, .val 2, .chn 0, .chk [2, 1], .chn 3, .val 4, .val 5, .chn 6, .val 7]) (by kernel_rfl) ?_
  refine Da rfl V.ldA ?_
  refine Da rfl V.ldA ?_
  refine' WD.call rfl rfl rfl rfl rfl rfl rfl rfl rfl rfl (mi := []) (.refl _) trivial (conv_fn) ?_
  rintro v m' J1 hle1 ⟨b, a1', a2', c1, c2, a6, c3, rfl, rfl, hcv, hle1'⟩
  refine WD.chk ck ?_
  refine' WD.call rfl rfl rfl rfl rfl rfl rfl rfl rfl rfl (mi := [_]) (mr := _) (.refl _) trivial (step_fn (hG.mono hle1) hcv (hO.mono hle1) (hN.mono hle1) ht hlO hlN) ?_
  rintro v m' J2 hle2 ⟨⟨b2, c2', rfl, hO2⟩, rfl, hle2'⟩
  refine Da rfl V.ex ?_
  refine Da rfl V.ex ?_
  refine Ds rfl ?_
  refine Da rfl V.asg ?_
  refine WD.nil ?_
  refine sq ?_
  refine WC.ret ?_
  refine' ⟨.inr rfl, rfl, _, [], .cell rfl (by repeat first | exact .head _ | refine .tail _ ?_ | refine List.mem_append_right _ ?_) (partA (tAg rfl) rfl) (.tmp rfl .nil), List.nil_sublist _, ⟨⟨_, _, rfl, hO2⟩, rfl, hle1.trans hle2⟩⟩
/-- a line -/
structure Ln where
  k : Int
  tx : List UInt8
  N : List Int
def LinesR (J : Jm) (v : Value) (ls : List Ln) : Prop := ∃ b c, v = .slice b ls.length c ∧ (0 < ls.length → ∃ a off cells e, b = some ⟨a, off, none⟩ ∧ J a = some (cells, e) ∧
  ∀ (i : Nat) (x : Ln), ls[i]? = some x → ∃ b' c', takeN 3 (dropN (off + ((i : Nat) : Int).toNat * 3) cells) = some [.int .i64 x.k, .string ⟨⟨x.tx⟩⟩, .slice b' x.N.length c'] ∧ IntsC J (.slice b' x.N.length c') x.N)
theorem LinesR.mono {J J' : Jm} {v : Value} {ls : List Ln} (hle : J.le J') (h : LinesR J v ls) : LinesR J' v ls := by
  obtain ⟨b, c, rfl, h⟩ := h
  refine ⟨b, c, rfl, fun q => ?_⟩
  obtain ⟨a, off, cells, e, h1, h2, h3⟩ := h q
  refine ⟨a, off, cells, e, h1, hle _ _ h2, fun i x hx => ?_⟩
  obtain ⟨b', c', k1, k2⟩ := h3 i x hx
  exact ⟨b', c', k1, k2.mono hle⟩
theorem LinesR.get {J : Jm} {b0 : Option Addr} {n0 c0 : Nat} {ls : List Ln} (h : LinesR J (.slice b0 n0 c0) ls) : n0 = ls.length ∧ (0 < ls.length → ∃ a off cells e, b0 = some ⟨a, off, none⟩ ∧ J a = some (cells, e) ∧
  ∀ (i : Nat) (x : Ln), ls[i]? = some x → ∃ b' c', takeN 3 (dropN (off + ((i : Nat) : Int).toNat * 3) cells) = some [.int .i64 x.k, .string ⟨⟨x.tx⟩⟩, .slice b' x.N.length c'] ∧ IntsC J (.slice b' x.N.length c') x.N) := by
  obtain ⟨b, c, h1, h2⟩ := h
  injection h1 with h4 h5 h6
  subst h4; subst h5; subst h6
  exact ⟨rfl, h2⟩
end
end Go.Opn
set_option maxRecDepth 100000
set_option maxHeartbeats 4000000
set_option linter.unusedVariables false
set_option linter.unusedSimpArgs false
namespace Go.Opn
open Go.Cre Go.RowKit Go.Proofs
/-- a sight -/
structure Sg where
  a : Int
  b : Int
  c : Int
  d : Int
  off : List Int
abbrev sgV (x : Sg) (v : Value) : Value := .agg #[.int .i64 x.a, .int .i64 x.b, .int .i64 x.c, .int .i64 x.d, v]
abbrev sgC (x : Sg) (v : Value) : List Value := [.int .i64 x.a, .int .i64 x.b, .int .i64 x.c, .int .i64 x.d, v]
/-- sights, one behind the other -/
inductive SgsC (J : Jm) : List Value → List Sg → Prop
  | nil : SgsC J [] []
  | snoc {cs : List Value} {ss : List Sg} {x : Sg} {b : Option Addr} {c : Nat} : SgsC J cs ss → IntsR J (.slice b x.off.length c) x.off → SgsC J (cs ++ sgC x (.slice b x.off.length c)) (ss ++ [x])
theorem SgsC.mono {J J' : Jm} (hle : J.le J') {cs : List Value} {ss : List Sg} (h : SgsC J cs ss) : SgsC J' cs ss := by
  induction h with
  | nil => exact .nil
  | snoc _ h ih => exact .snoc ih (h.mono hle)
theorem SgsC.len {J : Jm} {cs : List Value} {ss : List Sg} (h : SgsC J cs ss) : cs.length = ss.length * 5 := by
  induction h with
  | nil => rfl
  | snoc _ h ih => simp [ih]; omega
theorem SgsC.ones {J : Jm} {cs : List Value} {ss : List Sg} (h : SgsC J cs ss) : cs.all oneCell = true := by
  induction h with
  | nil => rfl
  | snoc _ h ih => rw [List.all_append, ih]; rfl
theorem SgsC.at {J : Jm} {cs : List Value} {ss : List Sg} (h : SgsC J cs ss) : ∀ {i : Nat} {x : Sg}, ss[i]? = some x → ∃ b c, (cs.drop (i * 5)).take 5 = sgC x (.slice b x.off.length c) ∧ IntsR J (.slice b x.off.length c) x.off := by
  induction h with
  | nil => intro i x h; simp at h
  | @snoc cs ss y b c h0 hy ih =>
    intro i x hx
    have hl := h0.len
    rw [List.getElem?_append] at hx
    split at hx
    · rename_i hi
      obtain ⟨b', c', h1, h2⟩ := ih hx
      refine ⟨b', c', ?_, h2⟩
      rw [List.drop_append_of_le_length (by omega), List.take_append_of_le_length (by rw [List.length_drop]; omega)]
      exact h1
    · rename_i hi
      have : i = ss.length := by
        rcases Nat.lt_or_ge (i - ss.length) 1 with q | q
        · omega
        · rw [List.getElem?_eq_none (by simpa using q)] at hx; cases hx
      subst this
      simp at hx; subst hx
      refine ⟨b, c, ?_, hy⟩
      rw [← hl, List.drop_left]; rfl
def SightsR (J : Jm) (v : Value) (ss : List Sg) : Prop := ∃ e cs, SlC J e 5 v ss.length cs ∧ SgsC J cs ss
theorem SightsR.mono {J J' : Jm} (hle : J.le J') {v : Value} {ss : List Sg} (h : SightsR J v ss) : SightsR J' v ss := by
  obtain ⟨e, cs, h1, h2⟩ := h
  exact ⟨e, cs, h1.mono hle, h2.mono hle⟩
theorem SightsR.form {J : Jm} {v : Value} {ss : List Sg} (h : SightsR J v ss) : ∃ b c, v = .slice b ss.length c := by
  obtain ⟨e, cs, h1, h2⟩ := h
  obtain ⟨b, c, h3, _⟩ := h1.inv
  exact ⟨b, c, h3⟩
theorem SightsR.get {J : Jm} {b0 : Option Addr} {n0 c0 : Nat} {ss : List Sg} (h : SightsR J (.slice b0 n0 c0) ss) : n0 = ss.length ∧ (0 < ss.length → ∃ a off cells e, b0 = some ⟨a, off, none⟩ ∧ J a = some (cells, e) ∧
  ∀ (i : Nat) (x : Sg), ss[i]? = some x → ∃ b' c', takeN 5 (dropN (off + ((i : Nat) : Int).toNat * 5) cells) = some (sgC x (.slice b' x.off.length c')) ∧ IntsR J (.slice b' x.off.length c') x.off) := by
  obtain ⟨e, cs, h1, h2⟩ := h
  have hn : n0 = ss.length := by
    obtain ⟨b, c, h3, _⟩ := h1.inv
    injection h3
  refine ⟨hn, fun hpos => ?_⟩
  generalize hk : ss.length = k at h1
  cases h1 with
  | nil => omega
  | emp => omega
  | emx => omega
  | @row a off len cap cells cs e' k1 k2 k3 k4 k5 =>
    refine ⟨a, off, cells, e', rfl, k1, fun i x hx => ?_⟩
    obtain ⟨b', c', q1, q2⟩ := h2.at hx
    refine ⟨b', c', ?_, q2⟩
    have hi : i < ss.length := (List.getElem?_eq_some_iff.1 hx).1
    rw [← hk] at k2 k3
    have hc : ss.length * 5 ≤ (cells.drop off).length := by
      have : ((cells.drop off).take (ss.length * 5)).length = ss.length * 5 := by rw [k2]; exact k3
      rw [List.length_take] at this; omega
    rw [List.length_drop] at hc
    rw [dropN_eq, takeN_ok (by rw [List.length_drop]; simp; omega), ← q1, ← k2]
    congr 1
    rw [List.drop_take, List.drop_drop, List.take_take, Nat.min_eq_left (by omega)]
    simp
section
variable {Q : Worlds Tryz.prog} {g0 : Nat} {J : Jm}
variable {ph pl st ph' pl' st' : Int} {O O' : List Int} {bo bo' : Option Addr} {no co no' co' : Nat}
theorem sameTalk_fn (hO : IntsR J (.slice bo no co) O) (hO' : IntsR J (.slice bo' no' co') O') (hl : O.length ≤ 1000000) : Fn (kx Q g0) 11 [talkV ph pl st (.slice bo no co), talkV ph' pl' st' (.slice bo' no' co')] [] J (Ret (.bool (decide (ph = ph' ∧ pl = pl' ∧ st = st' ∧ O = O'))) J) := by
  refine Fn.of_body (ftGet Tryz.func11) rfl rfl fun H => ?_
  refine rg ?_
  refine' W.step rfl (.of (x_box rfl rfl rfl rfl rfl rfl fun a2 => ?_))
  refine' W.step rfl (.of (x_box rfl rfl rfl rfl rfl rfl fun a3 => ?_))
  refine Sa V.asg ?_
  refine Wn ?_
  refine rg ?_
  refine Sa V.fa ?_
  refine Sa V.ld ?_
  refine Sa V.fa ?_
  refine Sa V.ld ?_
  refine Sa V.vi ?_
  refine Sa V.mv ?_
  first | refine W.splitP (d := 10) rfl (fun gr1_5 => ?_) (fun gr1_5 => ?_) | refine W.split (d := 10) rfl (fun gr1_5 => ?_) (fun gr1_5 => ?_)
  ·
   refine Sb V.fa ?_
   refine Sb V.ld ?_
   refine Sb V.fa ?_
   refine Sb V.ld ?_
   refine Sb V.vi ?_
   refine Sa V.pk ?_
   refine Sa V.mv ?_
   first | refine W.splitP (d := 17) rfl (fun gr1_12 => ?_) (fun gr1_12 => ?_) | refine W.split (d := 17) rfl (fun gr1_12 => ?_) (fun gr1_12 => ?_)
   ·
    refine Sb V.fa ?_
    refine Sb V.ld ?_
    refine Sb V.fa ?_
    refine Sb V.ld ?_
    refine Sb V.vi ?_
    refine Sa V.pk ?_
    refine Sa V.mv ?_
    first | refine W.splitP (d := 24) rfl (fun gr1_19 => ?_) (fun gr1_19 => ?_) | refine W.split (d := 24) rfl (fun gr1_19 => ?_) (fun gr1_19 => ?_)
    ·
     refine Sb V.fa ?_
     refine Sb V.ld ?_
     refine Sb V.fa ?_
     refine Sb V.ld ?_
     refine' W.guardY rfl rfl rfl (Exec.call rfl rfl rfl rfl rfl rfl rfl (mi := []) (.refl _) trivial (alike_fn hO hO' hl) ?_)
     rintro v m' J' hle ⟨rfl, rfl, rfl⟩
     refine Sa V.pk ?_
     refine Sa V.asg ?_
     refine Wn ?_
     refine sq ?_
     refine WC.ret ?_
     refine' ⟨.inr rfl, rfl, _, [], .tmp rfl .nil, List.nil_sublist _, ?_⟩
     refine ⟨congrArg Value.bool ?_, rfl, rfl⟩
     simp_all
    ·
     refine Sn ?_
     refine Sn ?_
     refine Sn ?_
     refine Sn ?_
     refine W.guardN rfl rfl rfl rfl rfl ?_
     refine Sa V.pk ?_
     refine Sa V.asg ?_
     refine Wn ?_
     refine sq ?_
     refine WC.ret ?_
     refine' ⟨.inr rfl, rfl, _, [], .tmp rfl .nil, List.nil_sublist _, ?_⟩
     refine ⟨congrArg Value.bool ?_, rfl, rfl⟩
     simp_all
   ·
    refine Sn ?_
    refine Sn ?_
    refine Sn ?_
    refine Sn ?_
    refine Sn ?_
    refine Sa V.pk ?_
    refine Sa V.mv ?_
    refine Sn ?_
    refine Sn ?_
    refine Sn ?_
    refine Sn ?_
    refine W.guardN rfl rfl rfl rfl rfl ?_
    refine Sa V.pk ?_
    refine Sa V.asg ?_
    refine Wn ?_
    refine sq ?_
    refine WC.ret ?_
    refine' ⟨.inr rfl, rfl, _, [], .tmp rfl .nil, List.nil_sublist _, ?_⟩
    refine ⟨congrArg Value.bool ?_, rfl, rfl⟩
    simp_all
  ·
   refine Sn ?_
   refine Sn ?_
   refine Sn ?_
   refine Sn ?_
   refine Sn ?_
   refine Sa V.pk ?_
   refine Sa V.mv ?_
   refine Sn ?_
   refine Sn ?_
   refine Sn ?_
   refine Sn ?_
   refine Sn ?_
   refine Sa V.pk ?_
   refine Sa V.mv ?_
   refine Sn ?_
   refine Sn ?_
   refine Sn ?_
   refine Sn ?_
   refine W.guardN rfl rfl rfl rfl rfl ?_
   refine Sa V.pk ?_
   refine Sa V.asg ?_
   refine Wn ?_
   refine sq ?_
   refine WC.ret ?_
   refine' ⟨.inr rfl, rfl, _, [], .tmp rfl .nil, List.nil_sublist _, ?_⟩
   refine ⟨congrArg Value.bool ?_, rfl, rfl⟩
   simp_all
theorem alikeSight_fn {x y : Sg} (hO : IntsR J (.slice bo no co) x.off) (hO' : IntsR J (.slice bo' no' co') y.off) (hl : x.off.length ≤ 1000000) : Fn (kx Q g0) 22 [sgV x (.slice bo no co), sgV y (.slice bo' no' co')] [] J (Ret (.bool (decide (x.a = y.a ∧ x.b = y.b ∧ x.c = y.c ∧ x.d = y.d ∧ x.off = y.off))) J) := by
  refine Fn.of_body (ftGet Tryz.func22) rfl rfl fun H => ?_
  refine rg ?_
  refine' W.step rfl (.of (x_box rfl rfl rfl rfl rfl rfl fun a2 => ?_))
  refine' W.step rfl (.of (x_box rfl rfl rfl rfl rfl rfl fun a3 => ?_))
  refine Sa V.asg ?_
  refine Wn ?_
  refine rg ?_
  refine Sa V.fa ?_
  refine Sa V.ld ?_
  refine Sa V.fa ?_
  refine Sa V.ld ?_
  refine Sa V.vi ?_
  refine Sa V.mv ?_
  first | refine W.splitP (d := 10) rfl (fun gr1_5 => ?_) (fun gr1_5 => ?_) | refine W.split (d := 10) rfl (fun gr1_5 => ?_) (fun gr1_5 => ?_)
  ·
   refine Sb V.fa ?_
   refine Sb V.ld ?_
   refine Sb V.fa ?_
   refine Sb V.ld ?_
   refine Sb V.vi ?_
   refine Sa V.pk ?_
   refine Sa V.mv ?_
   first | refine W.splitP (d := 17) rfl (fun gr1_12 => ?_) (fun gr1_12 => ?_) | refine W.split (d := 17) rfl (fun gr1_12 => ?_) (fun gr1_12 => ?_)
   ·
    refine Sb V.fa ?_
    refine Sb V.ld ?_
    refine Sb V.fa ?_
    refine Sb V.ld ?_
    refine Sb V.vi ?_
    refine Sa V.pk ?_
    refine Sa V.mv ?_
    first | refine W.splitP (d := 24) rfl (fun gr1_19 => ?_) (fun gr1_19 => ?_) | refine W.split (d := 24) rfl (fun gr1_19 => ?_) (fun gr1_19 => ?_)
    ·
     refine Sb V.fa ?_
     refine Sb V.ld ?_
     refine Sb V.fa ?_
     refine Sb V.ld ?_
     refine Sb V.vi ?_
     refine Sa V.pk ?_
     refine Sa V.mv ?_
     first | refine W.splitP (d := 31) rfl (fun gr1_26 => ?_) (fun gr1_26 => ?_) | refine W.split (d := 31) rfl (fun gr1_26 => ?_) (fun gr1_26 => ?_)
     ·
      refine Sb V.fa ?_
      refine Sb V.ld ?_
      refine Sb V.fa ?_
      refine Sb V.ld ?_
      refine' W.guardY rfl rfl rfl (Exec.call rfl rfl rfl rfl rfl rfl rfl (mi := []) (.refl _) trivial (alike_fn hO hO' hl) ?_)
      rintro v m' J' hle ⟨rfl, rfl, rfl⟩
      refine Sa V.pk ?_
      refine Sa V.asg ?_
      refine Wn ?_
      refine sq ?_
      refine WC.ret ?_
      refine' ⟨.inr rfl, rfl, _, [], .tmp rfl .nil, List.nil_sublist _, ?_⟩
      refine ⟨congrArg Value.bool ?_, rfl, rfl⟩
      simp_all
     ·
      refine Sn ?_
      refine Sn ?_
      refine Sn ?_
      refine Sn ?_
      refine W.guardN rfl rfl rfl rfl rfl ?_
      refine Sa V.pk ?_
      refine Sa V.asg ?_
      refine Wn ?_
      refine sq ?_
      refine WC.ret ?_
      refine' ⟨.inr rfl, rfl, _, [], .tmp rfl .nil, List.nil_sublist _, ?_⟩
      refine ⟨congrArg Value.bool ?_, rfl, rfl⟩
      simp_all
    ·
     refine Sn ?_
     refine Sn ?_
     refine Sn ?_
     refine Sn ?_
     refine Sn ?_
     refine Sa V.pk ?_
     refine Sa V.mv ?_
     refine Sn ?_
     refine Sn ?_
     refine Sn ?_
     refine Sn ?_
     refine W.guardN rfl rfl rfl rfl rfl ?_
     refine Sa V.pk ?_
     refine Sa V.asg ?_
     refine Wn ?_
     refine sq ?_
     refine WC.ret ?_
     refine' ⟨.inr rfl, rfl, _, [], .tmp rfl .nil, List.nil_sublist _, ?_⟩
     refine ⟨congrArg Value.bool ?_, rfl, rfl⟩
     simp_all
   ·
    refine Sn ?_
    refine Sn ?_
    refine Sn ?_
    refine Sn ?_
    refine Sn ?_
    refine Sa V.pk ?_
    refine Sa V.mv ?_
    refine Sn ?_
    refine Sn ?_
    refine Sn ?_
    refine Sn ?_
    refine Sn ?_
    refine Sa V.pk ?_
    refine Sa V.mv ?_
    refine Sn ?_
    refine Sn ?_
    refine Sn ?_
    refine Sn ?_
    refine W.guardN rfl rfl rfl rfl rfl ?_
    refine Sa V.pk ?_
    refine Sa V.asg ?_
    refine Wn ?_
    refine sq ?_
    refine WC.ret ?_
    refine' ⟨.inr rfl, rfl, _, [], .tmp rfl .nil, List.nil_sublist _, ?_⟩
    refine ⟨congrArg Value.bool ?_, rfl, rfl⟩
    simp_all
  ·
   refine Sn ?_
   refine Sn ?_
   refine Sn ?_
   refine Sn ?_
   refine Sn ?_
   refine Sa V.pk ?_
   refine Sa V.mv ?_
   refine Sn ?_
   refine Sn ?_
   refine Sn ?_
   refine Sn ?_
   refine Sn ?_
   refine Sa V.pk ?_
   refine Sa V.mv ?_
   refine Sn ?_
   refine Sn ?_
   refine Sn ?_
   refine Sn ?_
   refine Sn ?_
   refine Sa V.pk ?_
   refine Sa V.mv ?_
   refine Sn ?_
   refine Sn ?_
   refine Sn ?_
   refine Sn ?_
   refine W.guardN rfl rfl rfl rfl rfl ?_
   refine Sa V.pk ?_
   refine Sa V.asg ?_
   refine Wn ?_
   refine sq ?_
   refine WC.ret ?_
   refine' ⟨.inr rfl, rfl, _, [], .tmp rfl .nil, List.nil_sublist _, ?_⟩
   refine ⟨congrArg Value.bool ?_, rfl, rfl⟩
   simp_all
theorem Sg.eq_iff {x y : Sg} : (x.a = y.a ∧ x.b = y.b ∧ x.c = y.c ∧ x.d = y.d ∧ x.off = y.off) ↔ x = y := by
  cases x; cases y; simp
open Classical in
theorem alikeSights_fn {ss tt : List Sg} {bs bt : Option Addr} {ns cs nt ct : Nat} (hS : SightsR J (.slice bs ns cs) ss) (hT : SightsR J (.slice bt nt ct) tt) (hl : ∀ x ∈ ss, x.off.length ≤ 1000000) (hn : ss.length ≤ 1000000) : Fn (kx Q g0) 12 [.slice bs ns cs, .slice bt nt ct] [] J (Ret (.bool (decide (ss = tt))) J) := by
  obtain ⟨rfl, hgS⟩ := hS.get
  obtain ⟨rfl, hgT⟩ := hT.get
  refine Fn.of_body (ftGet Tryz.func12) rfl rfl fun H => ?_
  refine rg ?_
  refine Sa V.asg ?_
  refine Wn ?_
  refine rg ?_
  refine Sa V.mv ?_
  refine Sa V.ls ?_
  refine Sa V.mv ?_
  refine Sa V.ls ?_
  refine Sa V.vi ?_
  refine Wn ?_
  refine sq ?_
  first | refine WC.if rfl (fun c10 => ?_) (fun c10 => ?_) | refine WC.cond rfl (fun c10 => ?_) (fun c10 => ?_)
  ·
   refine rg ?_
   refine Sa V.asg ?_
   refine Wn ?_
   refine sq ?_
   refine WC.ret ?_
   refine' ⟨.inr rfl, rfl, _, [], .tmp rfl .nil, List.nil_sublist _, ?_⟩
   refine ⟨congrArg Value.bool ?_, rfl, rfl⟩
   first
     | (symm; rw [decide_eq_false_iff_not]; intro q; subst q; exact absurd rfl ‹¬ _›)
     | (symm; rw [decide_eq_false_iff_not]; intro q; subst q; omega)
     | (symm; rw [decide_eq_false_iff_not]; intro q; subst q; rw [hx] at hy; injection hy with hy; subst hy; simp at c26)
     | (symm; rw [decide_eq_true_iff]; refine List.ext_getElem? fun j => ?_; rcases Nat.lt_or_ge j ss.length with q | q; exact hok j (by omega); rw [List.getElem?_eq_none q, List.getElem?_eq_none (by omega)])
  ·
   refine sq ?_
   refine WC.skip ?_
   refine rg ?_
   refine Sa V.asg ?_
   refine Wn ?_
   refine sq ?_
   refine WC.block ?_
   refine' WC.weak (l' := [(5, .int .i64 ((0) : Int)), (0, _), (1, _)]) ⟨?w5, rfl, rfl, trivial⟩ (List.Sublist.refl _) ?_
   case w5 => first | rfl | exact congrArg some (congrArg (Value.int .i64) (by omega))
   refine sq ?_
   refine' WC.loopC (α := (Nat)) (fun (i : Nat) => [(5, .int .i64 (i : Int))]) (fun (i : Nat) => i ≤ ss.length ∧ ∀ j, j < i → ss[j]? = tt[j]?) (fun (i : Nat) => ss.length - i) (0) ?hs ?hstep
   case hs => exact ⟨by omega, fun j hj => absurd hj (by omega)⟩
   case hstep =>
    rintro i hinv
    try simp only at hinv
    obtain ⟨hi, hok⟩ := hinv
    refine rg ?_
    refine Sa V.mv ?_
    refine Sa V.mv ?_
    refine Sa V.ls ?_
    refine Sa V.vi ?_
    refine Wn ?_
    refine sq ?_
    first | refine WC.if rfl (fun c14 => ?_) (fun c14 => ?_) | refine WC.cond rfl (fun c14 => ?_) (fun c14 => ?_)
    ·
     have hlt : i < ss.length := by omega
     obtain ⟨x, hx⟩ : ∃ x, ss[i]? = some x := ⟨_, List.getElem?_eq_getElem hlt⟩
     obtain ⟨y, hy⟩ : ∃ y, tt[i]? = some y := ⟨_, List.getElem?_eq_getElem (by omega)⟩
     obtain ⟨a1, o1, cl1, e1, rfl, hJ1, hg1⟩ := hgS (by omega)
     obtain ⟨a2, o2, cl2, e2, rfl, hJ2, hg2⟩ := hgT (by omega)
     obtain ⟨b1, c1, ht1, hr1⟩ := hg1 i x hx
     obtain ⟨b2, c2, ht2, hr2⟩ := hg2 i y hy
     have hv1 := hr1.addr
     have hv2 := hr2.addr
     refine sq ?_
     refine WC.skip ?_
     refine sq ?_
     refine WC.block ?_
     refine sq ?_
     refine WC.draw rfl (by kernel_rfl) (plan := [.val 0, .val 1, .val 2, .val 3, .val 4, .val 5, .val 6, .val 7, .chn 8, .val 9]) (by kernel_rfl) ?_
     refine Da rfl V.mv ?_
     refine Da rfl V.mv ?_
     refine Da rfl V.ix ?_
     refine Da rfl V.ldA ?_
     refine Da rfl V.mv ?_
     refine Da rfl V.mv ?_
     refine Da rfl V.ix ?_
     refine Da rfl V.ldA ?_
     refine' WD.call rfl rfl rfl rfl rfl rfl rfl rfl rfl rfl (mi := []) (.refl _) trivial (alikeSight_fn hr1 hr2 (hl x (List.mem_of_getElem? hx))) ?_
     rintro v m' J' hle ⟨rfl, rfl, rfl⟩
     refine Da rfl V.nt ?_
     refine WD.nil ?_
     refine sq ?_
     first | refine WC.if rfl (fun c26 => ?_) (fun c26 => ?_) | refine WC.cond rfl (fun c26 => ?_) (fun c26 => ?_)
     ·
      refine rg ?_
      refine Sa V.asg ?_
      refine Wn ?_
      refine sq ?_
      refine WC.ret ?_
      refine' ⟨.inr rfl, rfl, _, [], .tmp rfl .nil, List.nil_sublist _, ?_⟩
      refine ⟨congrArg Value.bool ?_, rfl, rfl⟩
      first
        | (symm; rw [decide_eq_false_iff_not]; intro q; subst q; exact absurd rfl ‹¬ _›)
        | (symm; rw [decide_eq_false_iff_not]; intro q; subst q; omega)
        | (symm; rw [decide_eq_false_iff_not]; intro q; subst q; rw [hx] at hy; injection hy with hy; subst hy; simp at c26)
        | (symm; rw [decide_eq_true_iff]; refine List.ext_getElem? fun j => ?_; rcases Nat.lt_or_ge j ss.length with q | q; exact hok j (by omega); rw [List.getElem?_eq_none q, List.getElem?_eq_none (by omega)])
     ·
      refine sq ?_
      refine WC.skip ?_
      refine rg ?_
      refine Sa V.mv ?_
      refine Sa V.va ?_
      refine Sa V.asg ?_
      refine Wn ?_
      refine' ⟨(i + 1), _, ?hinv, ?hmeas, rfl, ⟨?m5, rfl, rfl, trivial⟩, List.Sublist.refl _, rfl⟩
      case m5 => first | rfl | exact congrArg some (congrArg (Value.int .i64) (by omega))
      case hmeas => first | omega | (simp only; omega)
      case hinv => refine ⟨by omega, fun j hj => ?_⟩; rcases Nat.lt_or_ge j i with q | q; exact hok j q; obtain rfl : j = i := (by omega); rw [hx, hy]; exact congrArg some (Sg.eq_iff.1 (by simpa using c26))
    ·
     refine sq ?_
     refine WC.exit ?_
     refine rg ?_
     refine Sa V.asg ?_
     refine Wn ?_
     refine sq ?_
     refine WC.ret ?_
     refine' ⟨.inr rfl, rfl, _, [], .tmp rfl .nil, List.nil_sublist _, ?_⟩
     refine ⟨congrArg Value.bool ?_, rfl, rfl⟩
     first
       | (symm; rw [decide_eq_false_iff_not]; intro q; subst q; exact absurd rfl ‹¬ _›)
       | (symm; rw [decide_eq_false_iff_not]; intro q; subst q; omega)
       | (symm; rw [decide_eq_false_iff_not]; intro q; subst q; rw [hx] at hy; injection hy with hy; subst hy; simp at c26)
       | (symm; rw [decide_eq_true_iff]; refine List.ext_getElem? fun j => ?_; rcases Nat.lt_or_ge j ss.length with q | q; exact hok j (by omega); rw [List.getElem?_eq_none q, List.getElem?_eq_none (by omega)])
end
end Go.Opn

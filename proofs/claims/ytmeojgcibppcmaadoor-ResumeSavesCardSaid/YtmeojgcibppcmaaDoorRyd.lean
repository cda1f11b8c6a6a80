/- A part of the proof of ResumeSaves. -/
import Derived.Test.YtmeojgcibppcmaaDoorRya
set_option maxRecDepth 100000
set_option maxHeartbeats 4000000
set_option linter.unusedVariables false
set_option linter.unusedSimpArgs false
namespace Go.Opn
open Go.Cre Go.RowKit Go.Proofs
/-! ### The text of a state -/
def wRun : List UInt8 := [112, 97, 114, 108, 111, 117, 114, 32, 114, 117, 110, 32, 49]
def wGame : List UInt8 := [103, 97, 109, 101]
def wRound : List UInt8 := [114, 111, 117, 110, 100]
def wSeed : List UInt8 := [32, 115, 101, 101, 100]
def wSum : List UInt8 := [115, 117, 109]
def wPlays : List UInt8 := [112, 108, 97, 121, 115]
def wEnd : List UInt8 := [101, 110, 100]
def headT (g : Gm) (t : Td) : List UInt8 := wRun ++ [10] ++ wGame ++ numT [digS g] ++ [10] ++ wRound ++ numT [t.r] ++ wSeed ++ numT [t.s] ++ [10]
def rowT (x : List Int × List Int) : List UInt8 := wSum ++ numT x.1 ++ [10] ++ wPlays ++ numT x.2 ++ [10]
def rowsT (t : Td) (k : Nat) : List UInt8 := ((t.sum.zip t.pl).take k).flatMap rowT
def bodyT (g : Gm) (t : Td) : List UInt8 := headT g t ++ rowsT t t.sum.length
def textT (g : Gm) (t : Td) : List UInt8 := bodyT g t ++ wEnd ++ numT [ckS (bodyT g t)] ++ [10]
theorem rowsT_next {t : Td} {k : Nat} {a b : List Int} (h1 : t.sum[k]? = some a) (h2 : t.pl[k]? = some b) : rowsT t (k + 1) = rowsT t k ++ rowT (a, b) := by
  unfold rowsT; have : (t.sum.zip t.pl)[k]? = some (a, b) := by rw [List.getElem?_zip_eq_some]; exact ⟨h1, h2⟩
  rw [List.take_add_one, this]; simp
theorem dg_range : ∀ (l : List Int) (d : Int), -2147483647 < d ∧ d < 2147483647 → -2147483647 < dg d l ∧ dg d l < 2147483647 := by
  intro l; induction l with
  | nil => intro d h; exact h
  | cons x r ih =>
    intro d h; refine ih _ ?_; unfold dgS; generalize IntKind.i64.wrap _ + 1000001 = y at *; have h1 := Int.tmod_lt_of_pos (IntKind.i64.wrap y) (show (0 : Int) < 2147483647 by decide); have h2 := Int.lt_tmod_of_pos (IntKind.i64.wrap y) (show (0 : Int) < 2147483647 by decide); omega
theorem digS_range (g : Gm) : -9223372036854775808 ≤ digS g ∧ digS g ≤ 9223372036854775807 := by
  have := dg_range (numsS g) 1 (by decide); unfold digS; omega
/-- lists that a state may have -/
structure Lim (l : List (List Int)) : Prop where
  n : l.length ≤ 60
  r : ∀ r ∈ l, r.length ≤ 20
def Bnd (l : List (List Int)) : Prop := ∀ r ∈ l, ∀ x ∈ r, -9223372036854775808 ≤ x ∧ x ≤ 9223372036854775807
theorem rowsE_zero {lo : Int} : ∀ {l : List (List Int)} {ys : List (Int × Int)}, rowsE lo l ys = 0 → l.length ≤ ys.length → ∀ r ∈ l, ∀ x ∈ r, lo ≤ x ∧ x ≤ 70368744177664 := by
  intro l; induction l with
  | nil => intro ys _ _ r hr; cases hr
  | cons a l ih =>
    intro ys h hl r hr; cases ys with
    | nil => simp at hl
    | cons y ys =>
      have h : (if (a.length : Int) ≠ y.2 then 3 else if a.any (outB lo 70368744177664) = true then 2 else rowsE lo l ys) = 0 := h; split at h
      · omega
      · split at h
        · omega
        · rename_i hn
          rcases List.mem_cons.1 hr with q | q
          · subst q
            intro x hx; apply Classical.byContradiction
            intro c; apply hn
            rw [List.any_eq_true]; exact ⟨x, hx, by simp [outB]; omega⟩
          · exact ih h (by simpa using hl) r q
theorem listsS_zero {g : Gm} {l : List (List Int)} {lo : Int} (h : listsS g l lo = 0) (hlo : -9223372036854775808 ≤ lo) : l.length = g.is.length ∧ Bnd l := by
  unfold listsS at h; split at h
  · omega
  · rename_i q
    have q : l.length = g.is.length := Classical.not_not.1 q; exact ⟨q, fun r hr x hx => by have := rowsE_zero h (by omega) r hr x hx; omega⟩
structure ChkOk (g : Gm) (t : Td) : Prop where
  f : formS g = 0
  r : -9223372036854775808 ≤ t.r ∧ t.r ≤ 9223372036854775807
  s : -9223372036854775808 ≤ t.s ∧ t.s ≤ 9223372036854775807
  l : t.pl.length = t.sum.length
  bs : Bnd t.sum
  bp : Bnd t.pl
theorem checkS_zero {g : Gm} {t : Td} (h : checkS g t = 0) : ChkOk g t := by
  unfold checkS at h; split at h
  · omega
  rename_i h1; have h1 : properS g = 0 := Classical.not_not.1 h1; have hf : formS g = 0 := by
    unfold properS at h1; split at h1
    · omega
    · rename_i q; exact Classical.not_not.1 q
  unfold validS at h; split at h
  · omega
  split at h
  · omega
  rename_i h2 h3; obtain ⟨a1, a2⟩ := listsS_zero (Classical.not_not.1 h3) (by omega); obtain ⟨b1, b2⟩ := listsS_zero h (by omega); exact ⟨hf, by omega, by omega, by omega, a2, b2⟩
theorem numT_le {l : List Int} (h : ∀ x ∈ l, -9223372036854775808 ≤ x ∧ x ≤ 9223372036854775807) {n : Nat} (hn : l.length ≤ n) : (numT l).length ≤ 22 * n := Nat.le_trans (numT_len h) (Nat.mul_le_mul_left _ hn)
theorem one_rng {d : Int} (h : -9223372036854775808 ≤ d ∧ d ≤ 9223372036854775807) : ∀ x ∈ [d], -9223372036854775808 ≤ x ∧ x ≤ 9223372036854775807 := fun x hx => by simp at hx; subst hx; exact h
theorem headT_len {g : Gm} {t : Td} (h : ChkOk g t) : (headT g t).length ≤ 200 := by
  have h1 := numT_le (one_rng (digS_range g)) (Nat.le_refl 1); have h2 := numT_le (one_rng h.r) (Nat.le_refl 1); have h3 := numT_le (one_rng h.s) (Nat.le_refl 1); unfold headT; simp only [List.length_append, List.length_singleton]; have e1 : wRun.length = 13 := rfl; have e2 : wGame.length = 4 := rfl; have e3 : wRound.length = 5 := rfl; have e4 : wSeed.length = 5 := rfl; omega
theorem rowsT_len {t : Td} (h1 : Lim t.sum) (h2 : Lim t.pl) (hl : t.pl.length = t.sum.length) (b1 : Bnd t.sum) (b2 : Bnd t.pl) : ∀ k, k ≤ t.sum.length → (rowsT t k).length ≤ 1000 * k := by
  intro k; induction k with
  | zero => intro _; simp [rowsT]
  | succ k ih =>
    intro hk; have q1 := List.getElem?_eq_getElem (l := t.sum) (i := k) (by omega); have q2 := List.getElem?_eq_getElem (l := t.pl) (i := k) (by omega); have m1 := List.mem_of_getElem? q1; have m2 := List.mem_of_getElem? q2; have l1 := numT_le (b1 _ m1) (h1.r _ m1); have l2 := numT_le (b2 _ m2) (h2.r _ m2); rw [rowsT_next q1 q2, List.length_append]; have := ih (by omega); unfold rowT; simp only [List.length_append, List.length_singleton]; have e1 : wSum.length = 3 := rfl; have e2 : wPlays.length = 5 := rfl; omega
theorem pg_perm {α : Type} {m r : List α} {x : α} : ((m ++ [x]) ++ r).Perm (x :: (m ++ r)) := by rw [List.append_assoc]; exact List.perm_middle
theorem pg_perm2 {α : Type} {m r : List α} {x y : α} : (m ++ x :: y :: r).Perm (x :: y :: (m ++ r)) := List.perm_middle.trans (List.Perm.cons _ List.perm_middle)
theorem pg_swap {α : Type} {m r : List α} {x y : α} : ((m ++ [y]) ++ x :: r).Perm (m ++ x :: y :: r) := by rw [List.append_assoc]; exact List.Perm.append_left _ (List.Perm.swap _ _ _)
noncomputable def saveV (g : Gm) (t : Td) : Value := .tuple #[.string ⟨⟨if checkS g t = 0 then textT g t else []⟩⟩, .int .i64 (checkS g t)]
section
variable {Q : Worlds Tryd.prog} {g0 : Nat} {J : Jm}
theorem save_fn (hit : ItoaOk Q g0) {g : Gm} {bn bi : Option Addr} {cn ci : Nat} {t : Td} {bs bp : Option Addr} {cs cp : Nat} (hg : GmR J g bn cn bi ci) (ht : TdR J t bs cs bp cp) (h1 : Lim t.sum) (h2 : Lim t.pl) :
    Fn (kx Q g0) 8 [gV g bn cn bi ci, tV t bs cs bp cp] [] J (RetJ (saveV g t) J) := by
  have qi : addrEq bi bi = true := hg.i.addr; have qn : addrEq bn bn = true := hg.n.addr; have qs : addrEq bs bs = true := ht.s.addr; have qp : addrEq bp bp = true := ht.p.addr; refine Fn.of_body (ftGet Tryd.func8) rfl rfl fun H => ?_; refine rg ?_; refine bx fun a2 => ?_; refine bx fun a3 => ?_; refine Sa V.asg ?_; refine Sa V.asg ?_; refine nr ?_; refine Sa V.ldA ?_; refine Sa V.ldA ?_; refine cl (G := check_fn hg ht (by have := h1.n; omega) (fun r hr => by have := h1.r r hr; omega) (by have := h2.n; omega) (fun r hr => by have := h2.r r hr; omega)) (h := ?_); rintro v m' J1 hle1 ⟨rfl, rfl, _⟩; refine Sa V.asg ?_; refine nr ?_; refine Sa V.mv ?_; refine Sa V.vi ?_; refine ns ?_; refine If (fun c16 => ?_) fun c16 => ?_
  ·
   refine rg ?_; refine Sa V.mv ?_; refine Sa V.asg ?_; refine Sa V.asg ?_; refine ns ?_; refine WC.ret ?_; refine Lf ?_; first
     | (have c := hpg21
        refine ⟨?_, rfl, hle1.trans hle2⟩; unfold saveV; rw [if_pos hc0, hc0]; rfl)
     | (refine ⟨?_, rfl, hle1⟩
        unfold saveV; rw [if_neg c16]; rfl)
  ·
   have hc0 := Classical.not_not.1 c16; have hck := checkS_zero hc0; have hg1 := hg.mono hle1; have ht1 := ht.mono hle1; have hhl := headT_len hck; have hrl := rowsT_len h1 h2 hck.l hck.bs hck.bp; have hsn := h1.n; have ld := numT_le (one_rng (digS_range g)) (Nat.le_refl 1); have lr := numT_le (one_rng hck.r) (Nat.le_refl 1); have lsd := numT_le (one_rng hck.s) (Nat.le_refl 1); have lc := fun x => numT_le (one_rng (wrap_range x)) (Nat.le_refl 1); have e1 : wRun.length = 13 := rfl; have e2 : wGame.length = 4 := rfl; have e3 : wRound.length = 5 := rfl; have e4 : wSeed.length = 5 := rfl; have e5 : wSum.length = 3 := rfl; have e6 : wPlays.length = 5 := rfl; have e7 : wEnd.length = 3 := rfl; refine kr ?_; refine Sa V.ldA ?_; refine cl (G := digest_fn (fun J' hle => form_fn (hg1.mono hle)) hg1) (h := ?_); rintro v m' J2 hle2 ⟨rfl, rfl, _⟩; refine Sa V.mv ?_; refine Sa V.ex ?_; refine Sa V.ex ?_; refine Sa V.asg ?_; refine Sa V.asg ?_; refine nr ?_; refine Sa V.mv ?_; refine Sa V.vi ?_; refine ns ?_; refine If (fun c24 => ?_) fun c24 => ?_
   ·
    exfalso ; exact c24 hck.f
   ·
    refine sq ?_; refine WC.skip ?_; refine rg ?_; refine' W.step rfl (.of (x_alloc rfl rfl rfl (ze59 Q g0) rfl rfl rfl fun a9 => ?_)); refine nr ?_; have hpg0 : Pg a9 [] [pgB a9 none (.slice none 0 0)] := ⟨none, _, [], rfl, .inl rfl, .nil, nR_nil⟩; refine' W.step rfl (Exec.call rfl rfl rfl rfl rfl rfl rfl (mi := [pgB a9 none _]) (mr := _) (.refl _) trivial (words_fn (s := wRun) hpg0 (by simp; omega)) ?_); rintro v m1 J' hle ⟨rfl, rfl, hpg1⟩; refine' W.step rfl (Exec.call rfl rfl rfl rfl rfl rfl rfl (mi := m1) (mr := _) (.refl _) trivial (endl_fn hpg1 (by simp; omega)) ?_); rintro v m2 J' hle ⟨rfl, hpg2⟩; refine nr ?_; refine' W.step rfl (Exec.call rfl rfl rfl rfl rfl rfl rfl (mi := m2) (mr := _) (.refl _) trivial (words_fn (s := wGame) hpg2 (by simp; omega)) ?_); rintro v m3 J' hle ⟨rfl, rfl, hpg3⟩; refine Sa V.mv ?_; refine bsl (sb38 Q g0) fun a30 => ?_; rw [if_pos hck.f]; refine' W.step rfl (Exec.call rfl rfl rfl rfl rfl rfl rfl (mi := m3 ++ [(a30, _)]) (mr := _) pg_perm trivial (pnumbers_fn hit hpg3 (l := [digS g]) (RI.own (.head _)) (by simp) (one_rng (digS_range g)) (by simp; omega)) ?_); rintro v m4 J' hle ⟨rfl, rfl, hpg4⟩; refine' W.step rfl (Exec.call rfl rfl rfl rfl rfl rfl rfl (mi := m4) (mr := _) (.refl _) trivial (endl_fn hpg4 (by simp; omega)) ?_); rintro v m5 J' hle ⟨rfl, hpg5⟩; refine ns ?_; refine WC.draw rfl (by kernel_rfl) (plan := [.val 1, .val 2, .alc 3, .val 6, .val 7, .alc 8, .chk [7, 6, 2, 1], .chn 0, .chk [7, 6, 2, 1], .chn 4, .chk [7, 6], .chn 5, .chk [7, 6], .chn 9, .chn 10]) (by kernel_rfl) ?_; refine Da rfl V.fa ?_; refine Da rfl V.ld ?_; refine WD.buildSlice rfl rfl rfl rfl rfl rfl (sb38 Q g0) rfl rfl rfl fun a36 => ?_; refine Da rfl V.fa ?_; refine Da rfl V.ld ?_; refine WD.buildSlice rfl rfl rfl rfl rfl rfl (sb38 Q g0) rfl rfl rfl fun a41 => ?_; refine WD.ne2 (a := a41) (b := a36) (.refl _) fun hne => ?_
    refine WD.chk ck ?_; refine' WD.call rfl rfl rfl rfl rfl rfl rfl rfl rfl rfl (mi := m5) (mr := _) pg_perm2 trivial (words_fn (s := wRound) hpg5 (by simp; omega)) ?_; rintro v m6 J' hle ⟨rfl, rfl, hpg6⟩; refine WD.chk ck ?_; refine' WD.call rfl rfl rfl rfl rfl rfl rfl rfl rfl rfl (mi := m6 ++ [(a36, _)]) (mr := _) pg_swap trivial (pnumbers_fn hit hpg6 (l := [t.r]) (RI.own (.head _)) (by simp) (one_rng hck.r) (by simp; omega)) ?_; rintro v m7 J' hle ⟨rfl, rfl, hpg7⟩; refine WD.chk ck ?_; refine' WD.callK rfl rfl rfl rfl rfl rfl rfl rfl rfl (by simp [wRound, wSeed]) (mi := m7) (mr := _) (.refl _) trivial (words_fn (s := wSeed) hpg7 (by simp; omega)) ?_; rintro v m8 J' hle ⟨rfl, rfl, hpg8⟩; refine WD.chk ck ?_; refine' WD.callK rfl rfl rfl rfl rfl rfl rfl rfl rfl (fun q => hne (by simp at q; first | done | exact q)) (mi := m8 ++ [(a41, _)]) (mr := _) (by rw [List.append_assoc]; exact .refl _) trivial (pnumbers_fn hit hpg8 (l := [t.s]) (RI.own (.head _)) (by simp) (one_rng hck.s) (by simp; omega)) ?_; rintro v m9 J' hle ⟨rfl, rfl, hpg9⟩; refine' WD.call rfl rfl rfl rfl rfl rfl rfl rfl rfl rfl (mi := m9) (mr := _) (.refl _) trivial (endl_fn hpg9 (by simp; omega)) ?_; rintro v m10 J' hle ⟨rfl, hpg10⟩; refine WD.nil ?_; obtain ⟨_, hgs⟩ := (ht1.mono hle2).s.at; obtain ⟨_, hgp⟩ := (ht1.mono hle2).p.at; have hhd : Pg a9 (headT g t ++ rowsT t 0) m10 := by simpa [headT, rowsT] using hpg10
    refine rg ?_; refine Sa V.fa ?_; refine Sa V.ld ?_; refine Sa V.ls ?_; refine Sa V.mv ?_; refine ns ?_; refine WC.block ?_; refine' WC.weak (l' := [(47, .int .i64 ((0) : Int)), (3, _), (9, _), (46, _)]) ⟨?w47, rfl, rfl, rfl, trivial⟩ (List.Sublist.refl _) ?_; case w47 => exact nq
    refine sq ?_; refine' WC.loopG (α := Nat × Mm) (fun (k, mk) => [(47, .int .i64 (k : Int))]) (fun (k, mk) => mk ++ [(a3, .row (tC t bs cs bp cp) 28), (a2, .row (gC g bn cn bi ci) 25)]) (fun (k, mk) => J2) (fun (k, mk) => k ≤ t.sum.length ∧ Pg a9 (headT g t ++ rowsT t k) mk) (fun (k, mk) => t.sum.length - k) ⟨0, m10⟩ ?hs ?hstep; case hs => exact ⟨Nat.zero_le _, hhd⟩
    case hstep =>
     rintro ⟨k, mk⟩ hinv; try simp only at hinv
     obtain ⟨hk, hpk⟩ := hinv; have hrk := hrl k hk; refine rg ?_; refine Sa V.vi ?_; refine ns ?_; refine If (fun c48 => ?_) fun c48 => ?_
     ·
      obtain ⟨ae, oe, cle, ee, rfl, hJe, hgte⟩ := hgs (by omega); obtain ⟨ra, css, hra, hcss, hkss, br, cr, rfl, hrI⟩ := hgte k (by omega) (by omega); have hks0 := hkss 0 _ (by decide) rfl; have hpl := hck.l; obtain ⟨ae', oe', cle', ee', rfl, hJe', hgte'⟩ := hgp (by omega); obtain ⟨rb, css', hrb, hcss', hkss', br', cr', rfl, hrI'⟩ := hgte' k (by omega) (by omega); have hks0' := hkss' 0 _ (by decide) rfl; rw [Int.toNat_natCast] at hra hrb; have ma := List.mem_of_getElem? hra; have mb := List.mem_of_getElem? hrb; have la := numT_le (hck.bs _ ma) (h1.r _ ma); have lb := numT_le (hck.bp _ mb) (h2.r _ mb); have ka := h1.r _ ma; have kb := h2.r _ mb; have qra : addrEq br br = true := by obtain ⟨e, h⟩ := hrI; exact h.addr
      have qrb : addrEq br' br' = true := by obtain ⟨e, h⟩ := hrI'; exact h.addr
      refine sk ?_; refine sq ?_; refine WC.block ?_; refine rg ?_; refine Sa V.mv ?_; refine Sa V.asg ?_; refine ns ?_; refine WC.draw rfl (by kernel_rfl) (plan := [.val 1, .val 2, .val 3, .val 4, .val 5, .chn 0, .chk [5, 4, 3, 2, 1], .chn 6, .chn 7]) (by kernel_rfl) ?_; refine Da rfl V.fa ?_; refine Da rfl V.ld ?_; refine Da rfl V.mv ?_; refine Da rfl V.ix ?_; refine Da rfl V.ld ?_; refine' WD.call rfl rfl rfl rfl rfl rfl rfl rfl rfl rfl (mi := mk) (mr := _) (.refl _) trivial (words_fn (s := wSum) hpk (by simp; omega)) ?_; rintro v m11 J' hle ⟨rfl, rfl, hpg11⟩; refine WD.chk ck ?_; refine' WD.call rfl rfl rfl rfl rfl rfl rfl rfl rfl rfl (mi := m11 ++ []) (mr := [_, _]) (by rw [List.append_nil]) trivial (pnumbers_fn hit hpg11 (hrI.ri []) (by omega) (hck.bs _ ma) (by simp; omega)) ?_; rintro v m12 J' hle ⟨rfl, rfl, hpg12⟩; refine' WD.call rfl rfl rfl rfl rfl rfl rfl rfl rfl rfl (mi := m12) (mr := _) (.refl _) trivial (endl_fn hpg12 (by simp; omega)) ?_; rintro v m13 J' hle ⟨rfl, hpg13⟩; refine WD.nil ?_; refine sq ?_; refine WC.draw rfl (by kernel_rfl) (plan := [.val 1, .val 2, .val 3, .val 4, .val 5, .chn 0, .chk [5, 4, 3, 2, 1], .chn 6, .chn 7]) (by kernel_rfl) ?_; refine Da rfl V.fa ?_; refine Da rfl V.ld ?_; refine Da rfl V.mv ?_; refine Da rfl V.ix ?_; refine Da rfl V.ld ?_; refine' WD.call rfl rfl rfl rfl rfl rfl rfl rfl rfl rfl (mi := m13) (mr := _) (.refl _) trivial (words_fn (s := wPlays) hpg13 (by simp; omega)) ?_; rintro v m14 J' hle ⟨rfl, rfl, hpg14⟩; refine WD.chk ck ?_; refine' WD.call rfl rfl rfl rfl rfl rfl rfl rfl rfl rfl (mi := m14 ++ []) (mr := [_, _]) (by rw [List.append_nil]) trivial (pnumbers_fn hit hpg14 (hrI'.ri []) (by omega) (hck.bp _ mb) (by simp; omega)) ?_; rintro v m15 J' hle ⟨rfl, rfl, hpg15⟩; refine' WD.call rfl rfl rfl rfl rfl rfl rfl rfl rfl rfl (mi := m15) (mr := _) (.refl _) trivial (endl_fn hpg15 (by simp; omega)) ?_
      rintro v m16 J' hle ⟨rfl, hpg16⟩; refine WD.nil ?_; refine rg ?_; refine Sa V.va ?_; refine Sa V.mv ?_; refine Wn ?_; refine' ⟨⟨k + 1, m16⟩, _, ?hinv, ?hmeas, rfl, ⟨?m47, rfl, rfl, rfl, trivial⟩, List.Sublist.refl _, rfl⟩; case m47 => exact nq
      case hmeas => exact om
      case hinv => exact ⟨by omega, by rw [rowsT_next hra hrb]; simpa [rowT] using hpg16⟩
     ·
      obtain rfl : k = t.sum.length := by omega
      have hb : Pg a9 (bodyT g t) mk := hpk; have hbl : (bodyT g t).length ≤ 70000 := by unfold bodyT; rw [List.length_append]; omega
      have hb0 : 0 < (bodyT g t).length := by unfold bodyT headT; simp [wRun]
      have lck := lc (IntKind.i64.wrap (65536 * (ckG 1 0 (bodyT g t)).2) + (ckG 1 0 (bodyT g t)).1); rw [show IntKind.i64.wrap (IntKind.i64.wrap (65536 * (ckG 1 0 (bodyT g t)).2) + (ckG 1 0 (bodyT g t)).1) = ckS (bodyT g t) from rfl] at lck; refine sq ?_; refine WC.exit ?_; refine rg ?_; refine Sa V.fa ?_; refine' W.step rfl (Exec.call rfl rfl rfl rfl rfl rfl rfl (mi := mk) (mr := _) (.refl _) trivial (bstring_fn hb hb0 (by omega)) ?_); rintro v m17 J' hle ⟨rfl, rfl, hpg17⟩; refine cl (G := checksum_fn (by omega)) (h := ?_); rintro v m' J' hle ⟨rfl, rfl, rfl⟩; refine Sa V.asg ?_; refine nr ?_; refine' W.step rfl (Exec.call rfl rfl rfl rfl rfl rfl rfl (mi := m17) (mr := _) (.refl _) trivial (words_fn (s := wEnd) hpg17 (by omega)) ?_); rintro v m18 J' hle ⟨rfl, rfl, hpg18⟩; refine Sa V.mv ?_; refine bsl (sb38 Q g0) fun a72 => ?_; refine' W.step rfl (Exec.call rfl rfl rfl rfl rfl rfl rfl (mi := m18 ++ [(a72, _)]) (mr := _) pg_perm trivial (pnumbers_fn hit hpg18 (l := [ckS (bodyT g t)]) (RI.own (.head _)) (by simp) (one_rng (wrap_range _)) (by simp; omega)) ?_); rintro v m19 J' hle ⟨rfl, rfl, hpg19⟩; refine' W.step rfl (Exec.call rfl rfl rfl rfl rfl rfl rfl (mi := m19) (mr := _) (.refl _) trivial (endl_fn hpg19 (by simp; omega)) ?_); rintro v m20 J' hle ⟨rfl, hpg20⟩; refine nr ?_; refine Sa V.fa ?_; refine' W.step rfl (Exec.call rfl rfl rfl rfl rfl rfl rfl (mi := m20) (mr := _) (.refl _) trivial (bstring_fn hpg20 (by simp; omega) (by simp; omega)) ?_); rintro v m21 J' hle ⟨rfl, rfl, hpg21⟩; refine Sa V.asg ?_; refine Sa V.asg ?_; refine ns ?_; refine WC.ret ?_; refine Lf ?_; first
        | (have c := hpg21
           refine ⟨?_, rfl, hle1.trans hle2⟩; unfold saveV; rw [if_pos hc0, hc0]; rfl)
        | (refine ⟨?_, rfl, hle1⟩
           unfold saveV; rw [if_neg c16]; rfl)
end
end Go.Opn

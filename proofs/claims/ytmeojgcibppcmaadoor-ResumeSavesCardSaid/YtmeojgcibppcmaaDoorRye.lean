/- A part of the proof of ResumeSaves. -/
import Derived.Test.YtmeojgcibppcmaaDoorRyd
set_option maxRecDepth 100000
set_option maxHeartbeats 4000000
set_option linter.unusedVariables false
set_option linter.unusedSimpArgs false
namespace Go.Opn
open Go.Cre Go.RowKit Go.Proofs
theorem headT_r {g : Gm} {t : Td} : wRun ++ [10] ++ (wGame ++ numT [digS g] ++ [10]) ++ (wRound ++ [32]) ++ Lib.itoa t.r ++ (wSeed ++ numT [t.s] ++ [10]) = headT g t := by
  unfold headT; have : numT [t.r] = 32 :: Lib.itoa t.r := by simp [numT]
  rw [this]; simp
section
variable {Q : Worlds Tryd.prog} {g0 : Nat} {J : Jm}
theorem text_fn {g : Gm} {bn bi : Option Addr} {cn ci : Nat} {t : Td} {bs bp : Option Addr} {cs cp : Nat} (hg : GmR J g bn cn bi ci) (ht : TdR J t bs cs bp cp) (h1 : Lim t.sum) (h2 : Lim t.pl) (hck : ChkOk g t) :
    Fn (kx Q g0) 25 [gV g bn cn bi ci, tV t bs cs bp cp] [] J (RetJ (.string ⟨⟨textT g t⟩⟩) J) := by
  have qi : addrEq bi bi = true := hg.i.addr; have qn : addrEq bn bn = true := hg.n.addr; have qs : addrEq bs bs = true := ht.s.addr; have qp : addrEq bp bp = true := ht.p.addr; have hhl := headT_len hck; have hrl := rowsT_len h1 h2 hck.l hck.bs hck.bp; have hsn := h1.n; have ld := numT_le (one_rng (digS_range g)) (Nat.le_refl 1); have lr := Lib.itoa_length_le t.r hck.r.1 hck.r.2; have lsd := numT_le (one_rng hck.s) (Nat.le_refl 1); have lc := fun x => numT_le (one_rng (wrap_range x)) (Nat.le_refl 1); have e1 : wRun.length = 13 := rfl; have e2 : wGame.length = 4 := rfl; have e3 : wRound.length = 5 := rfl; have e4 : wSeed.length = 5 := rfl; have e5 : wSum.length = 3 := rfl; have e6 : wPlays.length = 5 := rfl; have e7 : wEnd.length = 3 := rfl; refine Fn.of_body (ftGet Tryd.func25) rfl rfl fun H => ?_; refine rg ?_; refine bx fun a2 => ?_; refine bx fun a3 => ?_; refine Sa V.asg ?_; refine ns ?_; refine WC.draw rfl (by kernel_rfl) (plan := [.val 0, .val 6, .val 7, .val 10, .val 11, .alc 12, .chk [11, 10, 7, 6, 0], .chn 1, .alc 2, .chk [11, 10, 7, 6], .chn 3, .val 4, .val 5, .chk [11, 10, 7, 6], .chn 8, .val 9, .chk [11, 10, 5, 4], .chn 13, .val 14, .val 15, .chk [9, 5, 4]]) (by kernel_rfl) ?_; refine Da rfl V.ldA ?_; refine Da rfl V.fa ?_; refine Da rfl V.ld ?_; refine Da rfl V.fa ?_; refine Da rfl V.ld ?_; refine WD.buildSlice rfl rfl rfl rfl rfl rfl (sb38 Q g0) rfl rfl rfl fun a19 => ?_; refine WD.chk ck ?_; refine' WD.call rfl rfl rfl rfl rfl rfl rfl rfl rfl rfl (mi := []) (mr := [_, _, _]) (.refl _) trivial (rdig_fn (formS_ok hck.f) hg) ?_; rintro v m' J1 hle1 ⟨rfl, rfl, _⟩; rw [List.nil_append]; refine WD.buildSlice rfl rfl rfl rfl rfl rfl (sb38 Q g0) rfl rfl rfl fun a9 => ?_; refine WD.chk ck ?_; refine' WD.call rfl rfl rfl rfl rfl rfl rfl rfl rfl rfl (mi := [(a9, _)]) (mr := [_, _, _]) (.refl _) trivial (line_fn (w := wGame) (l := [digS g]) (RI.own (.head _)) (by omega) (by simp) (one_rng (digS_range g))) ?_
  rintro v m' J' hle ⟨rfl, rfl, rfl⟩; refine' WD.val rfl rfl rfl rfl (v_str rfl rfl rfl rfl ?hl) ?_; case hl => exact om
  refine' WD.val rfl rfl rfl rfl (v_str rfl rfl rfl rfl ?hl) ?_; case hl => exact om
  refine WD.chk ck ?_; refine dl rfl (G := decimal_fn hck.r.1 hck.r.2) (h := ?_); rintro v m' J' hle ⟨rfl, rfl, hJ'⟩; obtain rfl := hJ'.symm; refine' WD.val rfl rfl rfl rfl (v_str rfl rfl rfl rfl ?hl) ?_; case hl => exact om
  refine WD.chk ⟨?k0, ?k1, ?k2, ?k3, trivial⟩ ?_; case k0 =>
   refine' Chk.val rfl rfl rfl (v_load rfl rfl ?hr (part1 (tAg rfl) ?hv)) rfl ?he; case hr => exact qr
   case hv => first | rfl | assumption
   case he => exact ve
  case k1 =>
   refine' Chk.val rfl rfl rfl (v_fieldAddr rfl rfl (tFo rfl rfl)) rfl ?he; case he => exact ve
  case k2 =>
   refine' Chk.val rfl rfl rfl (v_str rfl rfl rfl rfl ?hl) rfl ?he; case hl => exact om
   case he => exact ve
  case k3 =>
   refine' Chk.val rfl rfl rfl (v_str rfl rfl rfl rfl ?hl) rfl ?he; case hl => exact om
   case he => exact ve
  refine' WD.callK rfl rfl rfl rfl rfl rfl rfl rfl rfl (by simp [wGame, wSeed]) (mi := [(a19, _)]) (mr := [_, _]) (.refl _) trivial (line_fn (w := wSeed) (l := [t.s]) (RI.own (.head _)) (by omega) (by simp) (one_rng hck.s)) ?_; rintro v m' J' hle ⟨rfl, rfl, rfl⟩; refine' WD.val rfl rfl rfl rfl (v_str rfl rfl rfl rfl ?hl) ?_; case hl => exact om
  refine Da rfl V.asg ?_; refine WD.chk ⟨?k0, ?k1, ?k2, trivial⟩ ?_; case k0 =>
   refine' Chk.val rfl rfl rfl (v_str rfl rfl rfl rfl ?hl) rfl ?he; case hl => exact om
   case he => exact ve
  case k1 =>
   refine' Chk.val rfl rfl rfl (v_str rfl rfl rfl rfl ?hl) rfl ?he; case hl => exact om
   case he => exact ve
  case k2 =>
   refine' Chk.val rfl rfl rfl (v_str rfl rfl rfl rfl ?hl) rfl ?he; case hl => exact om
   case he => exact ve
  refine WD.nil ?_; have ht1 := ht.mono hle1; obtain ⟨_, hgs⟩ := ht1.s.at; obtain ⟨_, hgp⟩ := ht1.p.at; refine rg ?_; refine Sa V.asg ?_; refine ns ?_; refine WC.block ?_; refine' WC.weak (l' := [(5, .string ⟨⟨((wRun ++ [10] ++ (wGame ++ numT [digS g] ++ [10]) ++ (wRound ++ [32]) ++ Lib.itoa t.r ++ (wSeed ++ numT [t.s] ++ [10])))⟩⟩), (6, .int .i64 ((0) : Int)), (3, _)]) ⟨?w5, ?w6, rfl, trivial⟩ (List.Sublist.refl _) ?_; case w5 => exact nq
  case w6 => exact nq
  refine sq ?_; refine' WC.loopG (α := Nat × (List UInt8)) (fun (k, s) => [(5, .string ⟨⟨s⟩⟩), (6, .int .i64 (k : Int))]) (fun (k, s) => [(a3, .row (tC t bs cs bp cp) 28), (a2, .row (gC g bn cn bi ci) 25)]) (fun (k, s) => J1) (fun (k, s) => k ≤ t.sum.length ∧ s = headT g t ++ rowsT t k) (fun (k, s) => t.sum.length - k) ⟨0, (wRun ++ [10] ++ (wGame ++ numT [digS g] ++ [10]) ++ (wRound ++ [32]) ++ Lib.itoa t.r ++ (wSeed ++ numT [t.s] ++ [10]))⟩ ?hs ?hstep; case hs => exact ⟨Nat.zero_le _, by rw [headT_r]; simp [rowsT]⟩
  case hstep =>
   rintro ⟨k, s⟩ hinv; try simp only at hinv
   obtain ⟨hk, rfl⟩ := hinv; have hrk := hrl k hk; refine rg ?_; refine Sa V.mv ?_; refine Sa V.fa ?_; refine Sa V.ld ?_; refine Sa V.ls ?_; refine Sa V.vi ?_; refine ns ?_; refine If (fun c26 => ?_) fun c26 => ?_
   ·
    obtain ⟨ae, oe, cle, ee, rfl, hJe, hgte⟩ := hgs (by omega); obtain ⟨ra, css, hra, hcss, hkss, br, cr, rfl, hrI⟩ := hgte k (by omega) (by omega); have hks0 := hkss 0 _ (by decide) rfl; have hpl := hck.l; obtain ⟨ae', oe', cle', ee', rfl, hJe', hgte'⟩ := hgp (by omega); obtain ⟨rb, css', hrb, hcss', hkss', br', cr', rfl, hrI'⟩ := hgte' k (by omega) (by omega); have hks0' := hkss' 0 _ (by decide) rfl; rw [Int.toNat_natCast] at hra hrb; have ma := List.mem_of_getElem? hra; have mb := List.mem_of_getElem? hrb; have la := numT_le (hck.bs _ ma) (h1.r _ ma); have lb := numT_le (hck.bp _ mb) (h2.r _ mb); have ka := h1.r _ ma; have kb := h2.r _ mb; have qra : addrEq br br = true := by obtain ⟨e, h⟩ := hrI; exact h.addr
    have qrb : addrEq br' br' = true := by obtain ⟨e, h⟩ := hrI'; exact h.addr
    refine sk ?_; refine sq ?_; refine WC.block ?_; refine sq ?_; refine WC.draw rfl (by kernel_rfl) (plan := [.val 0, .val 1, .val 2, .val 3, .val 4, .val 5, .val 8, .val 9, .val 10, .val 11, .val 12, .chn 6, .val 7, .chk [12, 11, 10, 9, 8, 0], .chn 13, .val 14, .chk [7, 0], .chn 15]) (by kernel_rfl) ?_; refine Da rfl V.mv ?_; refine Da rfl V.fa ?_; refine Da rfl V.ld ?_; refine Da rfl V.mv ?_; refine Da rfl V.ix ?_; refine Da rfl V.ld ?_; refine Da rfl V.fa ?_; refine Da rfl V.ld ?_; refine Da rfl V.mv ?_; refine Da rfl V.ix ?_; refine Da rfl V.ld ?_; refine dl rfl (G := line_fn (mo := []) (w := wSum) (hrI.ri []) (by omega) (by omega) (hck.bs _ ma)) (h := ?_); rintro v m' J' hle ⟨rfl, rfl, rfl⟩; refine' WD.val rfl rfl rfl rfl (v_str rfl rfl rfl rfl ?hl) ?_; case hl => exact om
    refine WD.chk ck ?_; refine' WD.callK rfl rfl rfl rfl rfl rfl rfl rfl rfl (by simp [wSum, wPlays]) (mi := []) (mr := [_, _]) (.refl _) trivial (line_fn (mo := []) (w := wPlays) (hrI'.ri []) (by omega) (by omega) (hck.bp _ mb)) ?_; rintro v m' J' hle ⟨rfl, rfl, rfl⟩; refine' WD.val rfl rfl rfl rfl (v_str rfl rfl rfl rfl ?hl) ?_; case hl => exact om
    refine WD.chk ⟨?k0, ?k1, trivial⟩ ?_; case k0 =>
     refine' Chk.val rfl rfl rfl (v_str rfl rfl rfl rfl ?hl) rfl ?he; case hl => exact om
     case he => exact ve
    case k1 =>
     refine' Chk.val rfl rfl rfl (v_move rfl rfl) rfl ?he; case he => exact ve
    refine Db rfl V.asg ?_; refine WD.nil ?_; refine rg ?_; refine Sa V.mv ?_; refine Sa V.va ?_; refine Sa V.asg ?_; refine Wn ?_; refine' ⟨⟨k + 1, _⟩, _, ?hinv, ?hmeas, rfl, ⟨?m5, ?m6, rfl, trivial⟩, List.Sublist.refl _, rfl⟩; case m5 => exact nq
    case m6 => exact nq
    case hmeas => exact om
    case hinv => exact ⟨by omega, by rw [rowsT_next hra hrb]; simp [rowT]⟩
   ·
    obtain rfl : k = t.sum.length := by omega
    have hbl : (bodyT g t).length ≤ 70000 := by unfold bodyT; rw [List.length_append]; omega
    rw [show headT g t ++ rowsT t t.sum.length = bodyT g t from rfl]; have lck := lc (IntKind.i64.wrap (65536 * (ckG 1 0 (bodyT g t)).2) + (ckG 1 0 (bodyT g t)).1); rw [show IntKind.i64.wrap (IntKind.i64.wrap (65536 * (ckG 1 0 (bodyT g t)).2) + (ckG 1 0 (bodyT g t)).1) = ckS (bodyT g t) from rfl] at lck; refine sq ?_; refine WC.exit ?_; refine rg ?_; refine Sa V.mv ?_; refine Sa V.mv ?_; refine cl (G := rchecksum_fn (by omega)) (h := ?_); rintro v m' J' hle ⟨rfl, rfl, rfl⟩; refine bsl (sb38 Q g0) fun a47 => ?_; refine' W.step rfl (Exec.call rfl rfl rfl rfl rfl rfl rfl (mi := [(a47, _)]) (mr := [_, _]) (.refl _) trivial (line_fn (w := wEnd) (l := [ckS (bodyT g t)]) (RI.own (.head _)) (by omega) (by simp) (one_rng (wrap_range _))) ?_); rintro v m' J' hle ⟨rfl, rfl, rfl⟩; refine' W.step rfl (Exec.val rfl rfl (v_str rfl rfl rfl rfl ?hl) ?_); case hl => exact om
    refine Sa V.asg ?_; refine ns ?_; refine WC.ret ?_; refine Lf ?_; refine ⟨?_, rfl, hle1⟩; rw [show textT g t = bodyT g t ++ (wEnd ++ numT [ckS (bodyT g t)] ++ [10]) by unfold textT; simp]; rfl
theorem rsave_fn {g : Gm} {bn bi : Option Addr} {cn ci : Nat} {t : Td} {bs bp : Option Addr} {cs cp : Nat} (hg : GmR J g bn cn bi ci) (ht : TdR J t bs cs bp cp) (h1 : Lim t.sum) (h2 : Lim t.pl) :
    Fn (kx Q g0) 9 [gV g bn cn bi ci, tV t bs cs bp cp] [] J (RetJ (saveV g t) J) := by
  have qi : addrEq bi bi = true := hg.i.addr; have qn : addrEq bn bn = true := hg.n.addr; have qs : addrEq bs bs = true := ht.s.addr; have qp : addrEq bp bp = true := ht.p.addr; refine Fn.of_body (ftGet Tryd.func9) rfl rfl fun H => ?_; refine rg ?_; refine bx fun a2 => ?_; refine bx fun a3 => ?_; refine Sa V.asg ?_; refine Sa V.asg ?_; refine nr ?_; refine Sa V.ldA ?_; refine Sa V.ldA ?_; refine cl (G := rcheck_fn hg ht (by have := h1.n; omega) (fun r hr => by have := h1.r r hr; omega) (by have := h2.n; omega) (fun r hr => by have := h2.r r hr; omega)) (h := ?_); rintro v m' J1 hle1 ⟨rfl, rfl, _⟩; refine Sa V.asg ?_; refine nr ?_; refine Sa V.mv ?_; refine Sa V.vi ?_; refine ns ?_; refine If (fun c11 => ?_) fun c11 => ?_
  ·
   refine rg ?_; refine Sa V.mv ?_; refine Sa V.asg ?_; refine Sa V.asg ?_; refine ns ?_; refine WC.ret ?_; refine Lf ?_; first
     | (have c := hc0
        refine ⟨?_, rfl, hle1.trans hle2⟩; unfold saveV; rw [if_pos hc0, hc0]; rfl)
     | (refine ⟨?_, rfl, hle1⟩
        unfold saveV; rw [if_neg c11]; rfl)
  ·
   have hc0 := Classical.not_not.1 c11; refine kr ?_; refine Sa V.ldA ?_; refine Sa V.ldA ?_; refine cl (G := text_fn (hg.mono hle1) (ht.mono hle1) h1 h2 (checkS_zero hc0)) (h := ?_); rintro v m' J2 hle2 ⟨rfl, rfl, _⟩; refine Sa V.asg ?_; refine Sa V.asg ?_; refine ns ?_; refine WC.ret ?_; refine Lf ?_; first
     | (have c := hc0
        refine ⟨?_, rfl, hle1.trans hle2⟩; unfold saveV; rw [if_pos hc0, hc0]; rfl)
     | (refine ⟨?_, rfl, hle1⟩
        unfold saveV; rw [if_neg c11]; rfl)
end
def longB (l : List (List Int)) : Bool := l.any (fun r => decide (20 < r.length)) || decide (60 < l.length)
theorem longB_no {l : List (List Int)} (h : longB l = false) : Lim l := by
  unfold longB at h; rw [Bool.or_eq_false_iff] at h; refine ⟨by simpa using h.2, fun r hr => ?_⟩; have := List.any_eq_false.1 h.1 r hr; simpa using this
section
variable {Q : Worlds Tryd.prog} {g0 : Nat} {J : Jm}
theorem long_fn {l : List (List Int)} {b : Option Addr} {c : Nat} (hl : Elems J 38 1 (LsR J) (.slice b l.length c) l) (hm : l.length ≤ 9223372036854775807) :
    Fn (kx Q g0) 5 [.slice b l.length c] [] J (fun u m' J' => u = .bool (longB l) ∧ m' = [] ∧ J = J') := by
  obtain ⟨_, hgl⟩ := hl.at; have ql := hl.addr; refine Fn.of_body (ftGet Tryd.func5) rfl rfl fun H => ?_; refine rg ?_; refine Sa V.asg ?_; refine nr ?_; refine Sa V.asg ?_; refine ns ?_; refine WC.block ?_; refine' WC.weak (l' := [(3, .int .i64 ((0) : Int)), (0, _)]) ⟨?w3, rfl, trivial⟩ (List.Sublist.refl _) ?_; case w3 => exact nq
  refine sq ?_; refine' WC.loopC (α := Nat) (fun (i : Nat) => [(3, .int .i64 (i : Int))]) (fun (i : Nat) => i ≤ l.length ∧ ∀ r ∈ l.take i, ¬ 20 < r.length) (fun (i : Nat) => l.length - i) (0) ?hs ?hstep; case hs => exact ⟨Nat.zero_le _, fun r hr => by cases hr⟩
  case hstep =>
   rintro i hinv; try simp only at hinv
   obtain ⟨hi, hall⟩ := hinv; refine rg ?_; refine Sa V.mv ?_; refine Sa V.mv ?_; refine Sa V.ls ?_; refine Sa V.vi ?_; refine ns ?_; refine If (fun c7 => ?_) fun c7 => ?_
   ·
    obtain ⟨ae, oe, cle, ee, rfl, hJe, hgte⟩ := hgl (by omega); obtain ⟨r, css, hr, hcss, hkss, br, cr, rfl, hrI⟩ := hgte i (by omega) (by omega); have hks0 := hkss 0 _ (by decide) rfl; have qr : addrEq br br = true := by obtain ⟨e, h⟩ := hrI; exact h.addr
    rw [Int.toNat_natCast] at hr; refine sk ?_; refine sq ?_; refine WC.block ?_; refine rg ?_; refine Sa V.mv ?_; refine Sa V.mv ?_; refine Sa V.ix ?_; refine Sa V.ld ?_; refine Sa V.ls ?_; refine Sa V.vi ?_; refine ns ?_; refine If (fun c15 => ?_) fun c15 => ?_
    ·
     refine rg ?_; refine Sa V.asg ?_; refine ns ?_; refine WC.ret ?_; refine Lf ?_; first
       | (have c := c15
          refine ⟨congrArg Value.bool ?_, rfl, rfl⟩; symm; unfold longB; rw [Bool.or_eq_true]; exact .inl (List.any_eq_true.2 ⟨r, List.mem_of_getElem? hr, by simp; omega⟩))
       | (refine ⟨congrArg Value.bool ?_, rfl, rfl⟩
          have : l.any (fun r => decide (20 < r.length)) = false := by
            rw [List.any_eq_false]; intro r hr; rw [List.take_of_length_le (by omega)] at hall; simpa using hall r hr
          unfold longB; rw [this, Bool.false_or]; first | rfl | (rw [decide_eq_decide]; omega))
    ·
     refine sq ?_; refine WC.skip ?_; refine rg ?_; refine Sa V.mv ?_; refine Sa V.va ?_; refine Sa V.asg ?_; refine Wn ?_; refine' ⟨(i + 1), _, ?hinv, ?hmeas, rfl, ⟨?m3, rfl, trivial⟩, List.Sublist.refl _, rfl⟩; case m3 => exact nq
     case hmeas => exact om
     case hinv => exact ⟨by omega, take_all hall hr (by omega)⟩
   ·
    refine sq ?_; refine WC.exit ?_; refine rg ?_; refine Sa V.mv ?_; refine Sa V.ls ?_; refine Sa V.vi ?_; refine Sa V.asg ?_; refine ns ?_; refine WC.ret ?_; refine Lf ?_; first
      | (refine ⟨congrArg Value.bool ?_, rfl, rfl⟩
         have : l.any (fun r => decide (20 < r.length)) = false := by
           rw [List.any_eq_false]; intro r hr; rw [List.take_of_length_le (by omega)] at hall; simpa using hall r hr
         unfold longB; rw [this, Bool.false_or]; first | rfl | (rw [decide_eq_decide]; omega))
theorem law_fn (hit : ItoaOk Q g0) (hL : ∀ J, Fn (kx Q g0) 4 [] [] J (Ret (.bool true) J)) {g : Gm} {bn bi : Option Addr} {cn ci : Nat} {t : Td} {bs bp : Option Addr} {cs cp : Nat} {s : List UInt8} (hg : GmR J g bn cn bi ci) (ht : TdR J t bs cs bp cp)
    (m1 : g.ns.length ≤ 9223372036854775807) (m2 : t.sum.length ≤ 9223372036854775807) (m3 : t.pl.length ≤ 9223372036854775807) (m4 : s.length ≤ 140737488355328) :
    Fn (kx Q g0) 3 [gV g bn cn bi ci, tV t bs cs bp cp, .string ⟨⟨s⟩⟩] [] J (fun v m' J' => v = .bool true) := by
  have qi : addrEq bi bi = true := hg.i.addr; have qn : addrEq bn bn = true := hg.n.addr; have qs : addrEq bs bs = true := ht.s.addr; have qp : addrEq bp bp = true := ht.p.addr; refine Fn.of_body (ftGet Tryd.func3) rfl rfl fun H => ?_; refine rg ?_; refine bx fun a3 => ?_; refine bx fun a4 => ?_; refine Sa V.asg ?_; refine nr ?_; refine cr (G := hL _) (h := ?_); refine Sa V.nt ?_; refine ns ?_; refine If (fun c16 => ?_) fun c16 => ?_
  ·
   exfalso ; simp at c16
  ·
   refine sq ?_; refine WC.skip ?_; refine wk [2, 3, 4] ?_; refine sq ?_; refine' WC.cutK 0 [(35, .bool (decide ((60 < g.ns.length ∨ longB t.sum = true ∨ longB t.pl = true ∨ 2000 < s.length))))] ?cr3 ?dr3; case cr3 =>
    refine WC.region ?_; refine Sa V.fa ?_; refine Sa V.ld ?_; refine Sa V.ls ?_; refine Sa V.vi ?_; refine Sa V.mv ?_; refine Wp 21 (fun gr3_4 => ?_) fun gr3_4 => ?_
    ·
     refine Sn ?_; refine Sn ?_; refine W.guardN rfl rfl rfl rfl rfl ?_; refine Sa V.pk ?_; refine Sa V.mv ?_; refine Sn ?_; refine Sn ?_; refine W.guardN rfl rfl rfl rfl rfl ?_; refine Sa V.pk ?_; refine Sa V.mv ?_; refine Sn ?_; refine Sn ?_; refine Sn ?_; refine Sa V.pk ?_; refine Wn ?_; exact ce
    ·
     refine Sb V.fa ?_; refine Sb V.ld ?_; refine cg (G := long_fn ht.s m2) (h := ?_); rintro v m' J' hle ⟨rfl, rfl, rfl⟩; refine Sa V.pk ?_; refine Sa V.mv ?_; refine Wp 26 (fun gr3_9 => ?_) fun gr3_9 => ?_
     ·
      refine Sn ?_; refine Sn ?_; refine W.guardN rfl rfl rfl rfl rfl ?_; refine Sa V.pk ?_; refine Sa V.mv ?_; refine Sn ?_; refine Sn ?_; refine Sn ?_; refine Sa V.pk ?_; refine Wn ?_; exact ce
     ·
      refine Sb V.fa ?_; refine Sb V.ld ?_; refine cg (G := long_fn ht.p m3) (h := ?_); rintro v m' J' hle ⟨rfl, rfl, rfl⟩; refine Sa V.pk ?_; refine Sa V.mv ?_; refine Wp 31 (fun gr3_14 => ?_) fun gr3_14 => ?_
      ·
       refine Sn ?_; refine Sn ?_; refine Sn ?_; refine Sa V.pk ?_; refine Wn ?_; exact ce
      ·
       refine Sb V.mv ?_; refine Sb V.lS ?_; refine Sb V.vi ?_; refine Sa V.pk ?_; refine Wn ?_; exact ce
   case dr3 =>
    refine sq ?_; refine If (fun c35 => ?_) fun c35 => ?_
    ·
     refine rg ?_; refine Sa V.asg ?_; refine ns ?_; refine WC.ret ?_; refine Lf ?_; first | rfl | (simp [oneOrTuple]; done)
    ·
     have l1 : Lim t.sum := longB_no (by cases q : longB t.sum; rfl; exact absurd (.inr (.inl q)) c35); have l2 : Lim t.pl := longB_no (by cases q : longB t.pl; rfl; exact absurd (.inr (.inr (.inl q))) c35); refine kr ?_; refine Sa V.ldA ?_; refine cl (G := digest_fn (fun J' hle => form_fn (hg.mono hle)) hg) (h := ?_); rintro v m' J1 hle1 ⟨rfl, rfl, _⟩; refine Sa V.mv ?_; refine Sa V.ex ?_; refine Sa V.ex ?_; refine Sa V.asg ?_; refine Sa V.asg ?_; refine nr ?_; refine Sa V.ldA ?_; refine cl (G := rdigest_fn (fun J' hle => rform_fn ((hg.mono hle1).mono hle)) (hg.mono hle1)) (h := ?_); rintro v m' J2 hle2 ⟨rfl, rfl, _⟩; refine Sa V.mv ?_; refine Sa V.ex ?_; refine Sa V.ex ?_; refine Sa V.asg ?_; refine Sa V.asg ?_; refine Wn ?_; have hle12 := hle1.trans hle2; refine rg ?_; refine Sa V.ldA ?_; refine Sa V.ldA ?_; refine cl (G := save_fn hit (hg.mono hle12) (ht.mono hle12) l1 l2) (h := ?_); rintro v m' J3 hle3 ⟨rfl, rfl, _⟩; refine Sa V.mv ?_; refine Sa V.ex ?_; refine Sa V.ex ?_; refine Sa V.asg ?_; refine Sa V.asg ?_; refine Wn ?_; have hle13 := hle12.trans hle3; refine rg ?_; refine Sa V.ldA ?_; refine Sa V.ldA ?_; refine cl (G := rsave_fn (hg.mono hle13) (ht.mono hle13) l1 l2) (h := ?_); rintro v m' J4 hle4 ⟨rfl, rfl, _⟩; refine Sa V.mv ?_; refine Sa V.ex ?_; refine Sa V.ex ?_; refine Sa V.asg ?_; refine Sa V.asg ?_; refine nr ?_; refine Sa V.mv ?_; refine Sa V.mv ?_; refine Sa V.vi ?_; refine Sa V.mv ?_; refine Wp 61 (fun gr9_3 => ?_) fun gr9_3 => ?_
     ·
      refine Sb V.mv ?_; refine Sb V.mv ?_; refine Sb V.vi ?_; refine Sa V.pk ?_; refine Sa V.mv ?_; refine Wp 66 (fun gr9_8 => ?_) fun gr9_8 => ?_
      ·
       refine Sb V.mv ?_; refine cg (G := checksum_fn m4) (h := ?_); rintro v m' J' hle ⟨rfl, rfl, rfl⟩; refine Sb V.mv ?_; refine cg (G := rchecksum_fn m4) (h := ?_); rintro v m' J' hle ⟨rfl, rfl, rfl⟩; refine Sb V.vi ?_; refine Sa V.pk ?_; refine Sa V.mv ?_; refine Wp 73 (fun gr9_15 => ?_) fun gr9_15 => ?_
       ·
        refine Sb V.mv ?_; refine Sb V.mv ?_; refine Sb V.se ?_; refine Sa V.pk ?_; refine Sa V.mv ?_; refine Wp 78 (fun gr9_20 => ?_) fun gr9_20 => ?_
        ·
         refine Sb V.mv ?_; refine Sb V.mv ?_; refine Sb V.vi ?_; refine Sa V.pk ?_; refine Sa V.asg ?_; refine ns ?_; refine WC.ret ?_; refine Lf ?_; first | rfl | (simp [oneOrTuple]; done)
        ·
         exfalso; simp at gr9_20
       ·
        exfalso; simp at gr9_15
      ·
       exfalso; simp at gr9_8
     ·
      exfalso; exact gr9_3 rfl
end
end Go.Opn

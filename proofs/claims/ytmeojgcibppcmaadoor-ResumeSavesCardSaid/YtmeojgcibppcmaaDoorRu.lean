/- A part of the proof of ResumeSaves. -/
import Derived.Test.YtmeojgcibppcmaaDoorRr
import Derived.Test.YtmeojgcibppcmaaDoorK0
import Derived.Test.YtmeojgcibppcmaaDoorOpnW
set_option maxRecDepth 100000
set_option maxHeartbeats 4000000
set_option linter.unusedVariables false
set_option linter.unusedSimpArgs false
namespace Go.Opn
open Go.Cre Go.RowKit Go.Proofs
open Classical in
noncomputable def properS (g : Gm) : Int := if formS g ≠ 0 then formS g else if ∃ p, 0 ≤ p ∧ p < g.pl ∧ ¬ perfP g p then 13 else 0
/-- the error of lists of numbers -/
def rowsE (lo : Int) : List (List Int) → List (Int × Int) → Int
  | r :: l, y :: ys => if (r.length : Int) ≠ y.2 then 3 else if r.any (outB lo 70368744177664) = true then 2 else rowsE lo l ys
  | _, _ => 0
def listsS (g : Gm) (l : List (List Int)) (lo : Int) : Int := if l.length ≠ g.is.length then 3 else rowsE lo l g.is
theorem rowsE_at {lo : Int} {l : List (List Int)} {ys : List (Int × Int)} {i : Nat} {r : List Int} {y : Int × Int} (h1 : l[i]? = some r) (h2 : ys[i]? = some y) : rowsE lo (l.drop i) (ys.drop i) = if (r.length : Int) ≠ y.2 then 3 else if r.any (outB lo 70368744177664) = true then 2 else rowsE lo (l.drop (i + 1)) (ys.drop (i + 1)) := by
  have hi := (List.getElem?_eq_some_iff.1 h1).1; have hj := (List.getElem?_eq_some_iff.1 h2).1; rw [List.drop_eq_getElem_cons hi, List.drop_eq_getElem_cons hj]; have e1 : l[i] = r := by rw [List.getElem?_eq_getElem hi] at h1; injection h1
  have e2 : ys[i] = y := by rw [List.getElem?_eq_getElem hj] at h2; injection h2
  rw [e1, e2]; rfl
theorem rowsE_end {lo : Int} {l : List (List Int)} {ys : List (Int × Int)} {i : Nat} (h : l.length ≤ i) : rowsE lo (l.drop i) (ys.drop i) = 0 := by
  rw [List.drop_eq_nil_of_le h]; rfl
/-- a state of training -/
structure Td where
  r : Int
  s : Int
  sum : List (List Int)
  pl : List (List Int)
structure TdR (J : Jm) (t : Td) (bs : Option Addr) (cs : Nat) (bp : Option Addr) (cp : Nat) : Prop where
  s : Elems J 38 1 (LsR J) (.slice bs t.sum.length cs) t.sum
  p : Elems J 38 1 (LsR J) (.slice bp t.pl.length cp) t.pl
theorem TdR.mono {J J' : Jm} (hle : J.le J') {t : Td} {bs bp : Option Addr} {cs cp : Nat} (h : TdR J t bs cs bp cp) : TdR J' t bs cs bp cp := ⟨h.s.mono hle fun _ _ q => q.mono hle, h.p.mono hle fun _ _ q => q.mono hle⟩
abbrev tC (t : Td) (bs : Option Addr) (cs : Nat) (bp : Option Addr) (cp : Nat) : List Value := [.int .i64 t.r, .int .i64 t.s, .slice bs t.sum.length cs, .slice bp t.pl.length cp]
abbrev tV (t : Td) (bs : Option Addr) (cs : Nat) (bp : Option Addr) (cp : Nat) : Value := .agg (tC t bs cs bp cp).toArray
noncomputable def validS (g : Gm) (t : Td) : Int := if t.r < 0 ∨ 1000000 < t.r ∨ t.s < 0 ∨ 2147483646 < t.s then 2 else if listsS g t.sum (-70368744177664) ≠ 0 then listsS g t.sum (-70368744177664) else listsS g t.pl 0
noncomputable def checkS (g : Gm) (t : Td) : Int := if properS g ≠ 0 then properS g else validS g t
section
variable {Q : Worlds Tryd.prog} {g0 : Nat} {J : Jm}
theorem proper_fn {g : Gm} {bn bi : Option Addr} {cn ci : Nat} (hg : GmR J g bn cn bi ci) :
    Fn (kx Q g0) 34 [gV g bn cn bi ci] [] J (RetJ (.int .i64 (properS g)) J) := by
  have qi : addrEq bi bi = true := hg.i.addr; have qn : addrEq bn bn = true := hg.n.addr; refine Fn.of_body (ftGet Tryd.func34) rfl rfl fun H => ?_; refine rg ?_; refine bx fun a1 => ?_; refine Sa V.asg ?_; refine nr ?_; refine Sa V.ldA ?_; refine cl (G := form_fn hg) (h := ?_); rintro v m' J1 hle1 ⟨rfl, rfl, _⟩; refine Sa V.asg ?_; refine nr ?_; refine Sa V.mv ?_; refine Sa V.vi ?_; refine ns ?_; refine If (fun c10 => ?_) fun c10 => ?_
  ·
   refine rg ?_; refine Sa V.mv ?_; refine Sa V.asg ?_; refine ns ?_; refine WC.ret ?_; refine Lf ?_; unfold properS; first
     | (have c := c10
        rw [if_pos c10]; exact ⟨rfl, rfl, hle1⟩)
     | (rw [if_neg c10, if_neg (fun ⟨p, h1, h2, h3⟩ => h3 (hall p h1 (by omega)))]
        exact ⟨rfl, rfl, hle1.trans hJc⟩)
  ·
   have hf := Classical.not_not.1 c10; have hok := formS_ok hf; have hp4 := hok.p4; refine kr ?_; refine Sa V.fa ?_; refine Sa V.ld ?_; refine Sa V.mv ?_; refine ns ?_; refine WC.block ?_; refine' WC.weak (l' := [(14, .int .i64 ((0) : Int)), (1, _), (13, _)]) ⟨?w14, rfl, rfl, trivial⟩ (List.Sublist.refl _) ?_; case w14 => exact nq
   refine sq ?_; refine' WC.loopG (α := Nat × Jm) (fun (i, Jc) => [(14, .int .i64 (i : Int))]) (fun (i, Jc) => [(a1, .row (gC g bn cn bi ci) 25)]) (fun (i, Jc) => Jc) (fun (i, Jc) => (i : Int) ≤ g.pl ∧ (∀ p : Int, 0 ≤ p → p < i → perfP g p) ∧ J1.le Jc) (fun (i, Jc) => (g.pl - i).toNat) ⟨0, J1⟩ ?hs ?hstep; case hs => exact ⟨by have := hok.p1; omega, fun p h1 h2 => by omega, Jm.le.refl _⟩
   case hstep =>
    rintro ⟨i, Jc⟩ hinv; try simp only at hinv
    obtain ⟨hi, hall, hJc⟩ := hinv; refine rg ?_; refine Sa V.vi ?_; refine ns ?_; refine If (fun c15 => ?_) fun c15 => ?_
    ·
     refine sq ?_; refine WC.skip ?_; refine sq ?_; refine WC.block ?_; refine rg ?_; refine Sa V.mv ?_; refine Sa V.asg ?_; refine nr ?_; refine Sa V.ldA ?_; refine Sa V.mv ?_; refine cl (G := perfect_fn (hg.mono (hle1.trans hJc)) hf (by omega) (by omega)) (h := ?_); rintro v m' J2 hle2 ⟨rfl, rfl, _⟩; refine Sa V.mv ?_; refine Sa V.ex ?_; refine Sa V.ex ?_; refine Sa V.asg ?_; refine Sa V.asg ?_; refine nr ?_; refine Sa V.mv ?_; refine Sa V.vi ?_; refine ns ?_; refine If (fun c24 => ?_) fun c24 => ?_
     ·
      exfalso; exact absurd rfl c24
     ·
      refine sq ?_; refine WC.skip ?_; refine rg ?_; refine Sa V.mv ?_; refine Sa V.nt ?_; refine ns ?_; refine If (fun c27 => ?_) fun c27 => ?_
      ·
       refine rg ?_; refine Sa V.asg ?_; refine ns ?_; refine WC.ret ?_; refine Lf ?_; unfold properS; first
         | (have c := c27
            rw [if_neg c10, if_pos ⟨(i : Int), by omega, by omega, by simpa using c27⟩]; exact ⟨rfl, rfl, hle1.trans (hJc.trans hle2)⟩)
         | (have c := c10
            rw [if_pos c10]; exact ⟨rfl, rfl, hle1⟩)
         | (rw [if_neg c10, if_neg (fun ⟨p, h1, h2, h3⟩ => h3 (hall p h1 (by omega)))]
            exact ⟨rfl, rfl, hle1.trans hJc⟩)
      ·
       refine sq ?_; refine WC.skip ?_; refine rg ?_; refine Sa V.va ?_; refine Sa V.mv ?_; refine Wn ?_; refine' ⟨⟨i + 1, _⟩, _, ?hinv, ?hmeas, rfl, ⟨?m14, rfl, rfl, trivial⟩, List.Sublist.refl _, rfl⟩; case m14 => exact nq
       case hmeas => exact om
       case hinv => refine ⟨by omega, fun p h1 h2 => ?_, hJc.trans hle2⟩; by_cases q : p < i; (exact hall p h1 q); (obtain rfl : p = i := by omega); (exact Classical.not_not.1 (by simpa using c27))
    ·
     refine sq ?_; refine WC.exit ?_; refine rg ?_; refine Sa V.asg ?_; refine ns ?_; refine WC.ret ?_; refine Lf ?_; unfold properS; first
       | (have c := c10
          rw [if_pos c10]; exact ⟨rfl, rfl, hle1⟩)
       | (rw [if_neg c10, if_neg (fun ⟨p, h1, h2, h3⟩ => h3 (hall p h1 (by omega)))]
          exact ⟨rfl, rfl, hle1.trans hJc⟩)
theorem checklists_fn {g : Gm} {bn bi : Option Addr} {cn ci : Nat} {l : List (List Int)} {b : Option Addr} {c : Nat} {lo : Int} (hg : GmR J g bn cn bi ci) (hl : Elems J 38 1 (LsR J) (.slice b l.length c) l) (h1 : l.length ≤ 1000) (h2 : ∀ r ∈ l, r.length ≤ 1000) :
    Fn (kx Q g0) 35 [gV g bn cn bi ci, .slice b l.length c, .int .i64 lo] [] J (fun u m' J' => u = .int .i64 (listsS g l lo) ∧ m' = [] ∧ J = J') := by
  have qi : addrEq bi bi = true := hg.i.addr; have qn : addrEq bn bn = true := hg.n.addr; obtain ⟨_, hgi⟩ := hg.i.at; obtain ⟨_, hgl⟩ := hl.at; refine Fn.of_body (ftGet Tryd.func35) rfl rfl fun H => ?_; refine rg ?_; refine bx fun a3 => ?_; refine Sa V.asg ?_; refine nr ?_; refine Sa V.mv ?_; refine Sa V.ls ?_; refine Sa V.fa ?_; refine Sa V.ld ?_; refine Sa V.ls ?_; refine Sa V.vi ?_; refine ns ?_; refine If (fun c16 => ?_) fun c16 => ?_
  ·
   refine rg ?_; refine Sa V.asg ?_; refine ns ?_; refine WC.ret ?_; refine Lf ?_; refine ⟨congrArg (Value.int .i64) ?_, rfl, rfl⟩; unfold listsS; first
     | (have c := hrow; rw [if_neg (by omega), hrow, rowsE_end (by omega)])
     | rw [if_pos (by omega)]
  ·
   refine sq ?_; refine WC.skip ?_; refine rg ?_; refine Sa V.mv ?_; refine Sa V.ls ?_; refine Sa V.mv ?_; refine ns ?_; refine WC.block ?_; refine' WC.weak (l' := [(19, .int .i64 ((0) : Int)), (2, _), (3, _), (17, _), (18, _)]) ⟨?w19, rfl, rfl, rfl, rfl, trivial⟩ (List.Sublist.refl _) ?_; case w19 => exact nq
   refine sq ?_; refine' WC.loopG (α := Nat) (fun (i : Nat) => [(19, .int .i64 (i : Int))]) (fun (i : Nat) => [(a3, .row (gC g bn cn bi ci) 25)]) (fun (i : Nat) => J) (fun (i : Nat) => i ≤ l.length ∧ rowsE lo l g.is = rowsE lo (l.drop i) (g.is.drop i)) (fun (i : Nat) => l.length - i) (0) ?hs ?hstep; case hs => exact ⟨Nat.zero_le _, rfl⟩
   case hstep =>
    rintro i hinv; try simp only at hinv
    obtain ⟨hi, hrow⟩ := hinv; refine rg ?_; refine Sa V.vi ?_; refine ns ?_; refine If (fun c20 => ?_) fun c20 => ?_
    ·
     obtain ⟨ae, oe, cle, ee, rfl, hJe, hgte⟩ := hgl (by omega); obtain ⟨r, css, hr, hcss, hkss, br, cr, rfl, hrI⟩ := hgte i (by omega) (by omega); have hks0 := hkss 0 _ (by decide) rfl; obtain ⟨ai, oi, cli, ei, rfl, hJi, hgti⟩ := hgi (by omega); obtain ⟨y, csi, hy, hcsi, hksi, rfl⟩ := hgti i (by omega) (by omega); have hki1 := hksi 1 _ (by decide) rfl; rw [Int.toNat_natCast] at hr hy; have hr2 := h2 r (List.mem_of_getElem? hr); have hri := hrI.ri []; refine sk ?_; refine sq ?_; refine WC.block ?_; refine rg ?_; refine Sa V.mv ?_; refine Sa V.ix ?_; refine Sa V.ld ?_; refine Sa V.asg ?_; refine Sa V.asg ?_; refine nr ?_; refine Sa V.mv ?_; refine Sa V.ls ?_; refine Sa V.fa ?_; refine Sa V.ld ?_; refine Sa V.mv ?_; refine Sa V.ix ?_; refine Sa V.fa ?_; refine Sa V.ld ?_; refine Sa V.vi ?_; refine ns ?_; refine If (fun c32 => ?_) fun c32 => ?_
     ·
      refine rg ?_; refine Sa V.asg ?_; refine ns ?_; refine WC.ret ?_; refine Lf ?_; refine ⟨congrArg (Value.int .i64) ?_, rfl, rfl⟩; unfold listsS; first
        | (have c := c32; rw [if_neg (by omega), hrow, rowsE_at hr hy, if_pos c32])
        | (have c := hrow; rw [if_neg (by omega), hrow, rowsE_end (by omega)])
        | rw [if_pos (by omega)]
     ·
      refine sq ?_; refine WC.skip ?_; refine rg ?_; refine Sa V.mv ?_; refine Sa V.ls ?_; refine Sa V.mv ?_; refine ns ?_; refine WC.block ?_; refine' WC.weak (l' := [(35, .int .i64 ((0) : Int)), (2, _), (3, _), (17, _), (18, _), (19, _), (33, _), (34, _)]) ⟨?w35, rfl, rfl, rfl, rfl, rfl, rfl, rfl, trivial⟩ (List.Sublist.refl _) ?_; case w35 => exact nq
      refine sq ?_; refine' WC.loopG (α := Nat) (fun (k : Nat) => [(35, .int .i64 (k : Int))]) (fun (k : Nat) => [(a3, .row (gC g bn cn (some ⟨ai, oi, none⟩) ci) 25)]) (fun (k : Nat) => J) (fun (k : Nat) => k ≤ r.length ∧ (r.take k).any (outB lo 70368744177664) = false) (fun (k : Nat) => r.length - k) (0) ?hs ?hstep; case hs => exact ⟨Nat.zero_le _, rfl⟩
      case hstep =>
       rintro k hinv; try simp only at hinv
       obtain ⟨hk, hany⟩ := hinv; refine rg ?_; refine Sa V.vi ?_; refine ns ?_; refine If (fun c36 => ?_) fun c36 => ?_
       ·
        obtain ⟨ax, ox, clx, rfl, hrox, hgtx⟩ := hri (by omega); obtain ⟨x, hx, hnx⟩ := hgtx k (by omega) (by omega); refine sk ?_; refine sq ?_; refine WC.block ?_; refine rg ?_; refine Sa V.ix ?_; refine' W.step rfl (Exec.val rfl rfl (v_load rfl rfl ?hr (part1 (tAg rfl) ?hv)) ?_); case hr => exact hrox.sub (fun _ q => by cases q)
        case hv => first | rfl | assumption
        refine Sa V.asg ?_; refine Wn ?_; refine wk [10, 2, 3, 17, 18, 19, 33, 34, 35] ?_; refine sq ?_; refine' WC.cutK 1 [(45, .bool (decide ((x < lo ∨ 70368744177664 < x))))] ?cr11 ?dr11; case cr11 =>
         refine WC.region ?_; refine Sa V.mv ?_; refine Sa V.mv ?_; refine Sa V.vi ?_; refine Sa V.mv ?_; refine Wp 42 (fun gr11_3 => ?_) fun gr11_3 => ?_
         ·
          refine Sn ?_; refine Sn ?_; refine Sa V.pk ?_; refine Wn ?_; exact ce
         ·
          refine Sb V.mv ?_; refine Sb V.vi ?_; refine Sa V.pk ?_; refine Wn ?_; exact ce
        case dr11 =>
         refine sq ?_; refine If (fun c45 => ?_) fun c45 => ?_
         ·
          refine rg ?_; refine Sa V.asg ?_; refine ns ?_; refine WC.ret ?_; refine Lf ?_; refine ⟨congrArg (Value.int .i64) ?_, rfl, rfl⟩; unfold listsS; first
            | (have c := c45; rw [if_neg (by omega), hrow, rowsE_at hr hy, if_neg c32, if_pos (any_at hx (by simp [outB]; omega))])
            | (have c := c32; rw [if_neg (by omega), hrow, rowsE_at hr hy, if_pos c32])
            | (have c := hrow; rw [if_neg (by omega), hrow, rowsE_end (by omega)])
            | rw [if_pos (by omega)]
         ·
          refine sq ?_; refine WC.skip ?_; refine rg ?_; refine Sa V.va ?_; refine Sa V.mv ?_; refine Wn ?_; refine' ⟨(k + 1), _, ?hinv, ?hmeas, rfl, ⟨?m35, rfl, rfl, rfl, rfl, rfl, rfl, rfl, trivial⟩, List.Sublist.refl _, rfl⟩; case m35 => exact nq
          case hmeas => exact om
          case hinv => exact ⟨by omega, any_next hx hany (by simp [outB]; omega)⟩
       ·
        refine sq ?_; refine WC.exit ?_; refine rg ?_; refine Sa V.va ?_; refine Sa V.mv ?_; refine Wn ?_; refine' ⟨(i + 1), _, ?hinv, ?hmeas, rfl, ⟨?m19, rfl, rfl, rfl, rfl, trivial⟩, List.Sublist.refl _, rfl⟩; case m19 => exact nq
        case hmeas => exact om
        case hinv => refine ⟨by omega, ?_⟩; rw [hrow, rowsE_at hr hy, if_neg c32, if_neg (by rw [List.take_of_length_le (by omega)] at hany; rw [hany]; exact Bool.false_ne_true)]
    ·
     refine sq ?_; refine WC.exit ?_; refine rg ?_; refine Sa V.asg ?_; refine ns ?_; refine WC.ret ?_; refine Lf ?_; refine ⟨congrArg (Value.int .i64) ?_, rfl, rfl⟩; unfold listsS; first
       | (have c := hrow; rw [if_neg (by omega), hrow, rowsE_end (by omega)])
       | rw [if_pos (by omega)]
theorem check_fn {g : Gm} {bn bi : Option Addr} {cn ci : Nat} {t : Td} {bs bp : Option Addr} {cs cp : Nat} (hg : GmR J g bn cn bi ci) (ht : TdR J t bs cs bp cp) (h1 : t.sum.length ≤ 1000) (h2 : ∀ r ∈ t.sum, r.length ≤ 1000) (h3 : t.pl.length ≤ 1000) (h4 : ∀ r ∈ t.pl, r.length ≤ 1000) :
    Fn (kx Q g0) 19 [gV g bn cn bi ci, tV t bs cs bp cp] [] J (RetJ (.int .i64 (checkS g t)) J) := by
  have qi : addrEq bi bi = true := hg.i.addr; have qn : addrEq bn bn = true := hg.n.addr; refine Fn.of_body (ftGet Tryd.func19) rfl rfl fun H => ?_; refine rg ?_; refine bx fun a2 => ?_; refine bx fun a3 => ?_; refine Sa V.asg ?_; refine nr ?_; refine Sa V.ldA ?_; refine cl (G := proper_fn hg) (h := ?_); rintro v m' J1 hle1 ⟨rfl, rfl, _⟩; refine Sa V.asg ?_; refine nr ?_; refine Sa V.mv ?_; refine Sa V.vi ?_; refine ns ?_; refine If (fun c10 => ?_) fun c10 => ?_
  ·
   refine rg ?_; refine Sa V.mv ?_; refine Sa V.asg ?_; refine ns ?_; refine WC.ret ?_; refine Lf ?_; refine ⟨congrArg (Value.int .i64) ?_, rfl, hle1⟩; unfold checkS validS; first
     | rw [if_pos c10]
  ·
   refine sq ?_; refine WC.skip ?_; refine wk [2, 3] ?_; refine sq ?_; refine' WC.cutK 0 [(19, .bool (decide ((t.r < 0 ∨ 1000000 < t.r))))] ?cr4 ?dr4; case cr4 =>
    refine WC.region ?_; refine Sa V.fa ?_; refine Sa V.ld ?_; refine Sa V.vi ?_; refine Sa V.mv ?_; refine Wp 15 (fun gr4_3 => ?_) fun gr4_3 => ?_
    ·
     refine Sn ?_; refine Sn ?_; refine Sn ?_; refine Sa V.pk ?_; refine Wn ?_; exact ce
    ·
     refine Sb V.fa ?_; refine Sb V.ld ?_; refine Sb V.vi ?_; refine Sa V.pk ?_; refine Wn ?_; exact ce
   case dr4 =>
    refine sq ?_; refine If (fun c19 => ?_) fun c19 => ?_
    ·
     refine rg ?_; refine Sa V.asg ?_; refine ns ?_; refine WC.ret ?_; refine Lf ?_; refine ⟨congrArg (Value.int .i64) ?_, rfl, hle1⟩; unfold checkS validS; first
       | (have c := c19; rw [if_neg c10, if_pos (by omega)])
       | rw [if_pos c10]
    ·
     refine sq ?_; refine WC.skip ?_; refine wk [2, 3] ?_; refine sq ?_; refine' WC.cutK 0 [(27, .bool (decide ((t.s < 0 ∨ 2147483646 < t.s))))] ?cr6 ?dr6; case cr6 =>
      refine WC.region ?_; refine Sa V.fa ?_; refine Sa V.ld ?_; refine Sa V.vi ?_; refine Sa V.mv ?_; refine Wp 23 (fun gr6_3 => ?_) fun gr6_3 => ?_
      ·
       refine Sn ?_; refine Sn ?_; refine Sn ?_; refine Sa V.pk ?_; refine Wn ?_; exact ce
      ·
       refine Sb V.fa ?_; refine Sb V.ld ?_; refine Sb V.vi ?_; refine Sa V.pk ?_; refine Wn ?_; exact ce
     case dr6 =>
      refine sq ?_; refine If (fun c27 => ?_) fun c27 => ?_
      ·
       refine rg ?_; refine Sa V.asg ?_; refine ns ?_; refine WC.ret ?_; refine Lf ?_; refine ⟨congrArg (Value.int .i64) ?_, rfl, hle1⟩; unfold checkS validS; first
         | (have c := c27; rw [if_neg c10, if_pos (by omega)])
         | (have c := c19; rw [if_neg c10, if_pos (by omega)])
         | rw [if_pos c10]
      ·
       refine sq ?_; refine WC.skip ?_; refine rg ?_; refine Sa V.ldA ?_; refine Sa V.fa ?_; refine Sa V.ld ?_; refine cl (G := checklists_fn (hg.mono hle1) (ht.mono hle1).s h1 h2) (h := ?_); rintro v m' J2 hle2 ⟨rfl, rfl, rfl⟩; refine Sa V.asg ?_; refine nr ?_; refine Sa V.mv ?_; refine Sa V.vi ?_; refine ns ?_; refine If (fun c33 => ?_) fun c33 => ?_
       ·
        refine rg ?_; refine Sa V.mv ?_; refine Sa V.asg ?_; refine ns ?_; refine WC.ret ?_; refine Lf ?_; refine ⟨congrArg (Value.int .i64) ?_, rfl, hle1⟩; unfold checkS validS; first
          | (have c := c33
             first
               | rw [if_neg c10, if_neg (by omega), if_pos c33]
               | rw [if_neg c10, if_neg (by omega), if_neg c33])
          | (have c := c27; rw [if_neg c10, if_pos (by omega)])
          | (have c := c19; rw [if_neg c10, if_pos (by omega)])
          | rw [if_pos c10]
       ·
        refine sq ?_; refine WC.skip ?_; refine rg ?_; refine Sa V.ldA ?_; refine Sa V.fa ?_; refine Sa V.ld ?_; refine cl (G := checklists_fn (hg.mono hle1) (ht.mono hle1).p h3 h4) (h := ?_); rintro v m' J3 hle3 ⟨rfl, rfl, rfl⟩; refine Sa V.asg ?_; refine ns ?_; refine WC.ret ?_; refine Lf ?_; refine ⟨congrArg (Value.int .i64) ?_, rfl, hle1⟩; unfold checkS validS; first
          | (have c := c33
             first
               | rw [if_neg c10, if_neg (by omega), if_pos c33]
               | rw [if_neg c10, if_neg (by omega), if_neg c33])
          | (have c := c27; rw [if_neg c10, if_pos (by omega)])
          | (have c := c19; rw [if_neg c10, if_pos (by omega)])
          | rw [if_pos c10]
end
section
variable {Q : Worlds Tryd.prog} {g0 : Nat} {J : Jm}
theorem rparents_fn {g : Gm} {bn bi : Option Addr} {cn ci : Nat} (hg : GmR J g bn cn bi ci) (hok : FormOk g) :
    Fn (kx Q g0) 85 [gV g bn cn bi ci] [] J (fun u m' J' => ∃ b c, u = .slice b (parS g).length c ∧ m' = [] ∧ J.le J' ∧ IntsR J' (.slice b (parS g).length c) (parS g)) := by
  obtain ⟨_, hgn⟩ := hg.n.at; have qi : addrEq bi bi = true := hg.i.addr; have qn : addrEq bn bn = true := hg.n.addr; have ht := parS_tree hok; have hpl := ht.len; have n1 := hok.n1; have n2 := hok.n2; have hl60 : ∀ x ∈ g.ns, x.nx.length ≤ 60 := fun x hx => (node_len (hok.nodes x hx) hok.p4).1; refine Fn.of_body (ftGet Tryd.func85) rfl rfl fun H => ?_; refine rg ?_; refine bx fun a1 => ?_; refine Sa V.asg ?_; refine nr ?_; refine Sa V.fa ?_; refine Sa V.ld ?_; refine Sa V.ls ?_; refine' W.step rfl (.of (x_makeSlice rfl rfl rfl rfl rfl (sb38 Q g0) ?h0 ?h1 ?h2 fun a9 => ?_)); case h0 => exact om
  case h1 => exact om
  case h2 => exact om
  refine Sa V.asg ?_; refine Wn ?_; rw [zero_ints, Int.toNat_natCast]; refine rg ?_; refine Sa V.mv ?_; refine Sa V.ix ?_; refine' W.step rfl (.of (x_store rfl rfl rfl rfl (tSz rfl) rfl rfl rfl ?h1 ?hs ?hp ?_)); case hp => repeat first | exact .head _ _ _ _ | apply Put.tail | apply Put.app
  case hs => exact splice_ints 0 (by simp; omega)
  case h1 => first | rfl | assumption
  refine nr ?_; refine Sa V.asg ?_; refine ns ?_; refine WC.block ?_; refine' WC.weak (l' := [(4, .int .i64 ((0) : Int)), (1, _), (3, _)]) ⟨?w4, rfl, rfl, trivial⟩ (List.Sublist.refl _) ?_; case w4 => exact nq
  refine sq ?_; refine' WC.loopG (α := Nat × (List Int)) (fun (i, L) => [(4, .int .i64 (i : Int))]) (fun (i, L) => inB a9 L :: [(a1, .row (gC g bn cn bi ci) 25)]) (fun (i, L) => J) (fun (i, L) => i ≤ g.ns.length ∧ ParI (parS g) L i []) (fun (i, L) => g.ns.length - i) ⟨0, (List.replicate g.ns.length 0).set 0 (-1)⟩ ?hs ?hstep; case hs => refine ⟨Nat.zero_le _, by simp [hpl], by rw [List.getElem?_set, if_pos rfl, if_pos (by simp; omega)], fun c a hc ha hd => ?_⟩; rcases hd with hd | ⟨_, hd⟩; (obtain ⟨b, h1, _⟩ := ht.up c hc (by rw [← hpl]; exact (List.getElem?_eq_some_iff.1 ha).1); rw [ha] at h1; injection h1 with h1; omega); cases hd
  case hstep =>
   rintro ⟨i, L⟩ hinv; try simp only at hinv
   obtain ⟨hi, hP⟩ := hinv; refine rg ?_; refine Sa V.mv ?_; refine Sa V.fa ?_; refine Sa V.ld ?_; refine Sa V.ls ?_; refine Sa V.vi ?_; refine ns ?_; refine If (fun c16 => ?_) fun c16 => ?_
   ·
    obtain ⟨an, off, cells, e', rfl, hJ, hgt⟩ := hgn (by omega); obtain ⟨x, cs, hx, hcs, hks, hR⟩ := hgt i (by omega) (by omega); obtain ⟨b1, c1, b2, c2, b3, c3, rfl, hx1, hx2, hx3⟩ := hR; have hk3 := hks 3 _ (by decide) rfl; rw [Int.toNat_natCast] at hx; have h60 := hl60 x (List.mem_of_getElem? hx); have hdn := ht.down i x hx; have hri := hx1.ri []; refine sk ?_; refine sq ?_; refine WC.block ?_; refine rg ?_; refine Sa V.asg ?_; refine ns ?_; refine WC.block ?_; refine' WC.weak (l' := [(5, .int .i64 ((0) : Int)), (1, _), (3, _), (4, _)]) ⟨?w5, rfl, rfl, rfl, trivial⟩ (List.Sublist.refl _) ?_; case w5 => exact nq
    refine sq ?_; refine' WC.loopG (α := Nat × (List Int)) (fun (k, L1) => [(5, .int .i64 (k : Int))]) (fun (k, L1) => inB a9 L1 :: [(a1, .row (gC g (some ⟨an, off, none⟩) cn bi ci) 25)]) (fun (k, L1) => J) (fun (k, L1) => k ≤ x.nx.length ∧ ParI (parS g) L1 i (x.nx.take k)) (fun (k, L1) => x.nx.length - k) ⟨0, L⟩ ?hs ?hstep; case hs => exact ⟨Nat.zero_le _, hP⟩
    case hstep =>
     rintro ⟨k, L1⟩ hinv; try simp only at hinv
     obtain ⟨hk, hP1⟩ := hinv; refine rg ?_; refine Sa V.mv ?_; refine Sa V.fa ?_; refine Sa V.ld ?_; refine Sa V.mv ?_; refine Sa V.ix ?_; refine Sa V.fa ?_; refine Sa V.ld ?_; refine Sa V.ls ?_; refine Sa V.vi ?_; refine ns ?_; refine If (fun c27 => ?_) fun c27 => ?_
     ·
      obtain ⟨ax, ox, clx, rfl, hrox, hgtx⟩ := hri (by omega); obtain ⟨w, hw, hnw⟩ := hgtx k (by omega) (by omega); rw [Int.toNat_natCast] at hw; obtain ⟨hw1, hw2, hw3⟩ := hdn.2 w (List.mem_of_getElem? hw); have hL1 := hP1.len; refine sk ?_; refine sq ?_; refine WC.block ?_; refine rg ?_; refine Sa V.mv ?_; refine Sa V.fa ?_; refine Sa V.ld ?_; refine Sa V.mv ?_; refine Sa V.ix ?_; refine Sa V.fa ?_; refine Sa V.ld ?_; refine Sa V.mv ?_; refine Sa V.ix ?_; refine' W.step rfl (Exec.val rfl rfl (v_load rfl rfl ?hr (part1 (tAg rfl) ?hv)) ?_); case hr => exact hrox.sub (fun _ q => by cases q)
      case hv => first | rfl | assumption
      refine Sa V.mv ?_; refine Sa V.ix ?_; refine' W.step rfl (.of (x_store rfl rfl rfl rfl (tSz rfl) rfl rfl rfl ?h1 ?hs ?hp ?_)); case hp => repeat first | exact .head _ _ _ _ | apply Put.tail | apply Put.app
      case hs => exact splice_ints w.toNat (by omega)
      case h1 => first | rfl | assumption
      refine nr ?_; refine Sa V.mv ?_; refine Sa V.va ?_; refine Sa V.asg ?_; refine Wn ?_; refine' ⟨⟨k + 1, L1.set w.toNat i⟩, _, ?hinv, ?hmeas, rfl, ⟨?m5, rfl, rfl, rfl, trivial⟩, List.Sublist.refl _, rfl⟩; case m5 => exact nq
      case hmeas => exact om
      case hinv => exact ⟨by omega, hP1.step hw (by omega) hw3⟩
     ·
      have hP1' : ParI (parS g) L1 (i + 1) [] := by
        rw [List.take_of_length_le (by omega)] at hP1; exact hP1.next ht hx
      refine sq ?_; refine WC.exit ?_; refine rg ?_; refine Sa V.mv ?_; refine Sa V.va ?_; refine Sa V.asg ?_; refine Wn ?_; refine' ⟨⟨i + 1, L1⟩, _, ?hinv, ?hmeas, rfl, ⟨?m4, rfl, rfl, trivial⟩, List.Sublist.refl _, rfl⟩; case m4 => exact nq
      case hmeas => exact om
      case hinv => exact ⟨by omega, hP1'⟩
   ·
    refine sq ?_; refine WC.exit ?_; have hLP : L = parS g := by
      rw [show i = g.ns.length by omega] at hP; exact hP.all ht n1
    subst hLP; refine WC.publish rfl fun hle => ?_; refine rg ?_; refine Sa V.mv ?_; refine Sa V.asg ?_; refine ns ?_; refine WC.ret ?_; refine Lf ?_; refine ⟨some ⟨a9, 0, none⟩, (parS g).length, by rw [hpl]; rfl, rfl, hle, IntsR.lit (by unfold openCap; omega) (Jm.add_at _ _ _)⟩
theorem rway_fn {g : Gm} {bn bi : Option Addr} {cn ci : Nat} {c0 : Nat} {p : Int} (hg : GmR J g bn cn bi ci) (hok : FormOk g) (hc0 : c0 < g.ns.length) :
    Fn (kx Q g0) 71 [gV g bn cn bi ci, .int .i64 (c0 : Int), .int .i64 p] [] J (fun u m' J' => ∃ b c a3, u = .slice b (wayS g (parS g) p c0).length c ∧ m' = [(a3, .row (gC g bn cn bi ci) 25)] ∧ J.le J' ∧ Elems J' 128 2 InR (.slice b (wayS g (parS g) p c0).length c) (wayS g (parS g) p c0)) := by
  have qi : addrEq bi bi = true := hg.i.addr; have qn : addrEq bn bn = true := hg.n.addr; have ht := parS_tree hok; have hpl := ht.len; have n2 := hok.n2; have hl60 : ∀ x ∈ g.ns, x.nx.length ≤ 60 := fun x hx => (node_len (hok.nodes x hx) hok.p4).1; have hwl : ∀ c, c < g.ns.length → (wayL g (parS g) p c).length ≤ c := fun c hc => by
    have := mvL_len (g := g) (P := parS g) (p := p) c c (Nat.le_refl _); unfold wayL; rw [List.length_map]; exact this
  have hsl : (wayS g (parS g) p c0).length ≤ 2000 := by have := hwl c0 hc0; unfold wayS; rw [List.length_reverse]; omega
  have hget : ∀ c : Nat, c < g.ns.length → ∃ a, (parS g)[c]? = some a ∧ -1 ≤ a ∧ a < g.ns.length := fun c hc => by
    by_cases q : c = 0
    · subst q; exact ⟨-1, ht.root, by omega, by omega⟩
    · obtain ⟨a, h1, h2, _⟩ := ht.up c (by omega) hc
      exact ⟨a, h1, by omega, by omega⟩
  refine Fn.of_body (ftGet Tryd.func71) rfl rfl fun H => ?_; refine rg ?_; refine bx fun a3 => ?_; refine Sa V.asg ?_; refine nr ?_; refine Sa V.ldA ?_; refine cl (G := rparents_fn hg hok) (h := ?_); rintro v m' J1 hle1 ⟨bp, cp, rfl, rfl, _, hP⟩; refine Sa V.asg ?_; refine Wn ?_; have hg1 := hg.mono hle1; obtain ⟨_, hgn⟩ := hg1.n.at; obtain ⟨ap, op, clp, rfl, hrop, hgtp⟩ := hP.ri [] (by omega); have hup : ∀ (c : Nat) (at_ : Int), c < g.ns.length → (parS g)[c]? = some at_ → nth clp (op + c * 1) = some (.int .i64 at_) := fun c at_ hc h => by
    obtain ⟨x, h1, h2⟩ := hgtp c (by omega) (by omega); rw [Int.toNat_natCast] at h1 h2; rw [h1] at h; injection h with h; subst h; exact h2
  refine rg ?_; refine Sa V.asg ?_; refine nr ?_; refine Sa V.mv ?_; refine Sa V.asg ?_; refine ns ?_; refine WC.block ?_; refine' WC.weak (l' := [(8, (.slice none 0 0)), (9, .int .i64 ((c0) : Int)), (2, _), (3, _), (7, _)]) ⟨?w8, ?w9, rfl, rfl, rfl, trivial⟩ (List.Sublist.refl _) ?_; case w8 => exact nq
  case w9 => exact nq
  refine sq ?_; refine' WC.loopG (α := Nat × (List (Int × Int)) × Value × Mm) (fun (c, done, v, mo) => [(8, v), (9, .int .i64 (c : Int))]) (fun (c, done, v, mo) => mo ++ [(a3, .row (gC g bn cn bi ci) 25)]) (fun (c, done, v, mo) => J1) (fun (c, done, v, mo) => c < g.ns.length ∧ done ++ wayL g (parS g) p c = wayL g (parS g) p c0 ∧ done.length + c ≤ 2000 ∧ Acc 128 2 v done.length (prC done) mo) (fun (c, done, v, mo) => c) ⟨c0, [], .slice none 0 0, []⟩ ?hs ?hstep; case hs => exact ⟨hc0, rfl, by simp; omega, .nil⟩
  case hstep =>
   rintro ⟨c, done, v, mo⟩ hinv; try simp only at hinv
   obtain ⟨hc, hdone, hdl, hacc⟩ := hinv; obtain ⟨at_, hat, hat1, hat2⟩ := hget c hc; have hnv := hup c _ hc hat; refine rg ?_; refine Sa V.mv ?_; refine Sa V.mv ?_; refine Sa V.ix ?_; refine' W.step rfl (Exec.val rfl rfl (v_load rfl rfl ?hr (part1 (tAg rfl) ?hv)) ?_); case hr => exact hrop.sub (fun _ q => by cases q)
   case hv => first | rfl | assumption
   refine Sa V.vi ?_; refine ns ?_; refine If (fun c21 => ?_) fun c21 => ?_
   ·
    obtain ⟨a, hca, hac, y, hy, hmem⟩ := ht.up c (by by_cases q : c = 0; (subst q; rw [ht.root] at hat; injection hat with hat; omega); omega) hc; rw [hat] at hca; injection hca with hca; subst hca
    obtain ⟨an, off, cells, e', rfl, hJ, hgt⟩ := hgn (by omega); obtain ⟨y', cs, hy', hcs, hks, hR⟩ := hgt a (by omega) (by omega); obtain ⟨b1, c1, b2, c2, b3, c3, rfl, hx1, hx2, hx3⟩ := hR; rw [Int.toNat_natCast, hy] at hy'; injection hy' with hy'; subst hy'
    have h60 := hl60 y (List.mem_of_getElem? hy); have hpw := (ht.down a y hy).1; have hri := hx1.ri []; refine sk ?_; refine sq ?_; refine WC.block ?_; refine sq ?_; refine WC.draw rfl (by kernel_rfl) (plan := [.alc 8, .val 0, .val 1, .val 2, .val 3, .val 4, .val 5, .val 6, .val 7, .chn 9]) (by kernel_rfl) ?_; refine WD.alloc rfl rfl rfl rfl rfl (ze40 Q g0) rfl rfl rfl fun a10 => ?_; refine Da rfl V.fa ?_; refine Da rfl V.ld ?_; refine Da rfl V.mv ?_; refine Da rfl V.mv ?_; refine Da rfl V.ix ?_; refine' WD.val rfl rfl rfl rfl (v_load rfl rfl ?hr (part1 (tAg rfl) ?hv)) ?_; case hr => exact hrop.sub (fun _ q => by cases q)
    case hv => first | rfl | assumption
    refine Da rfl V.ix ?_; refine Da rfl V.ldA ?_; refine Ds rfl ?_; refine WD.nil ?_; refine rg ?_; refine Sa V.asg ?_; refine ns ?_; refine WC.block ?_; refine sq ?_; refine WC.permM (perm_mid1.symm) ?_; refine' WC.weak (l' := [(8, (v)), (11, .int .i64 ((0) : Int)), (2, _), (3, _), (7, _), (9, _), (10, _)]) ⟨?w8, ?w11, rfl, rfl, rfl, rfl, rfl, trivial⟩ (List.Sublist.refl _) ?_; case w8 => exact nq
    case w11 => exact nq
    refine sq ?_; refine' WC.loopG (α := Nat × Value × Mm) (fun (k, v1, mo1) => [(8, v1), (11, .int .i64 (k : Int))]) (fun (k, v1, mo1) => mo1 ++ [(a10, .row [.int .i64 y.k, .int .i64 y.p, .int .i64 y.i, .slice b1 y.nx.length c1, .slice b2 y.ws.length c2, .slice b3 y.py.length c3] 40), (a3, .row (gC g (some ⟨an, off, none⟩) cn bi ci) 25)]) (fun (k, v1, mo1) => J1) (fun (k, v1, mo1) => k ≤ y.nx.length ∧ Acc 128 2 v1 (inS done y p c k).length (prC (inS done y p c k)) mo1) (fun (k, v1, mo1) => y.nx.length - k) ⟨0, v, mo⟩ ?hs ?hstep; case hs => exact ⟨Nat.zero_le _, by rw [inS_zero]; exact hacc⟩
    case hstep =>
     rintro ⟨k, v1, mo1⟩ hinv; try simp only at hinv
     obtain ⟨hk, hacc1⟩ := hinv; refine rg ?_; refine Sa V.mv ?_; refine Sa V.fa ?_; refine Sa V.ld ?_; refine Sa V.ls ?_; refine Sa V.vi ?_; refine Sa V.mv ?_; refine Wp 39 (fun gr8_5 => ?_) fun gr8_5 => ?_
     ·
      refine Sb V.fa ?_; refine Sb V.ld ?_; refine Sb V.vi ?_; refine Sa V.pk ?_; refine Sa V.mv ?_; refine Wp 44 (fun gr8_10 => ?_) fun gr8_10 => ?_
      ·
       refine Sb V.fa ?_; refine Sb V.ld ?_; refine Sb V.mv ?_; refine Sb V.vi ?_; refine Sa V.pk ?_; refine ns ?_; refine If (fun c49 => ?_) fun c49 => ?_
       ·
        obtain ⟨ax, ox, clx, rfl, hrox, hgtx⟩ := hri (by omega); obtain ⟨w, hw, hnw⟩ := hgtx k (by omega) (by omega); rw [Int.toNat_natCast] at hw; have hil := inS_len (done := done) (y := y) (p := p) (c := c) (k := k); refine sk ?_; refine sq ?_; refine WC.block ?_; refine rg ?_; refine Sa V.fa ?_; refine Sa V.ld ?_; refine Sa V.mv ?_; refine Sa V.ix ?_; refine' W.step rfl (Exec.val rfl rfl (v_load rfl rfl ?hr (part1 (tAg rfl) ?hv)) ?_); case hr => exact hrox.sub (fun _ q => by cases q)
        case hv => first | rfl | assumption
        refine Sa V.mv ?_; refine Sa V.vi ?_; refine ns ?_; refine If (fun c58 => ?_) fun c58 => ?_
        ·
         refine rg ?_; refine Sa V.mv ?_; refine Sa V.fa ?_; refine Sa V.ld ?_; refine Sa V.mv ?_; refine Sa V.bd ?_; refine bsl (sb124 Q g0) fun a64 => ?_; refine' W.step rfl (.of (x_accP rfl rfl rfl rfl rfl rfl (sb124 Q g0) (un124 Q g0) (fun i q => by cases q) ?hacc ?hm ?hx ?hnl ?hne ?hl fun w65 mo65 hacc65 => ?_)); case hacc => assumption
         case hm => exact pq
         case hx => exact qx
         case hnl => first | rfl | (simp; done) | (simp; omega)
         case hne => first | rfl | exact ints_one _
         case hl => exact om
         refine Sa V.asg ?_; refine nr ?_; refine Sa V.mv ?_; refine Sa V.va ?_; refine Sa V.asg ?_; refine Wn ?_; refine' ⟨⟨k + 1, w65, mo65⟩, _, ?hinv, ?hmeas, rfl, ⟨?m8, ?m11, rfl, rfl, rfl, rfl, rfl, trivial⟩, List.Sublist.append (List.Sublist.refl _) (.cons _ (.refl _)), rfl⟩; case m8 => exact nq
         case m11 => exact nq
         case hmeas => exact om
         case hinv => refine ⟨by omega, ?_⟩; rw [inS_yes hpw ⟨gr8_10, c49⟩ hw c58]; exact hacc65.to (by simp) (by rw [prC_app]; rfl)
        ·
         refine sq ?_; refine WC.skip ?_; refine rg ?_; refine Sa V.mv ?_; refine Sa V.va ?_; refine Sa V.asg ?_; refine Wn ?_; refine' ⟨⟨k + 1, v1, mo1⟩, _, ?hinv, ?hmeas, rfl, ⟨?m8, ?m11, rfl, rfl, rfl, rfl, rfl, trivial⟩, List.Sublist.refl _, rfl⟩; case m8 => exact nq
         case m11 => exact nq
         case hmeas => exact om
         case hinv => refine ⟨by omega, ?_⟩; rw [inS_no hpw hw c58]; exact hacc1
       ·
        refine sq ?_; refine WC.exit ?_; refine rg ?_; refine Sa V.mv ?_; refine Sa V.mv ?_; refine Sa V.ix ?_; refine' W.step rfl (Exec.val rfl rfl (v_load rfl rfl ?hr (part1 (tAg rfl) ?hv)) ?_); case hr => exact hrop.sub (fun _ q => by cases q)
        case hv => first | rfl | assumption
        refine Sa V.asg ?_; refine Wn ?_; refine' ⟨⟨a, inS done y p c k, v1, mo1⟩, _, ?hinv, ?hmeas, rfl, ⟨?m8, ?m9, rfl, rfl, rfl, trivial⟩, List.Sublist.append (List.Sublist.refl _) (.cons _ (.refl _)), rfl⟩; case m8 => exact nq
        case m9 => exact nq
        case hmeas => exact om
        case hinv => refine ⟨by omega, by rw [inS_all hat hac hy hmem (by first | (have q_ := c49; exact fun q => absurd q.2 c49) | (have q_ := gr8_10; exact fun q => absurd q.1 gr8_10) | (intro _; omega)), hdone], by have := inS_len (done := done) (y := y) (p := p) (c := c) (k := k); omega, hacc1⟩
      ·
       refine Sn ?_; refine Sn ?_; refine Sn ?_; refine Sn ?_; refine Sa V.pk ?_; refine ns ?_; refine WC.condF rfl ?_; refine sq ?_; refine WC.exit ?_; refine rg ?_; refine Sa V.mv ?_; refine Sa V.mv ?_; refine Sa V.ix ?_; refine' W.step rfl (Exec.val rfl rfl (v_load rfl rfl ?hr (part1 (tAg rfl) ?hv)) ?_); case hr => exact hrop.sub (fun _ q => by cases q)
       case hv => first | rfl | assumption
       refine Sa V.asg ?_; refine Wn ?_; refine' ⟨⟨a, inS done y p c k, v1, mo1⟩, _, ?hinv, ?hmeas, rfl, ⟨?m8, ?m9, rfl, rfl, rfl, trivial⟩, List.Sublist.append (List.Sublist.refl _) (.cons _ (.refl _)), rfl⟩; case m8 => exact nq
       case m9 => exact nq
       case hmeas => exact om
       case hinv => refine ⟨by omega, by rw [inS_all hat hac hy hmem (by first | (have q_ := c49; exact fun q => absurd q.2 c49) | (have q_ := gr8_10; exact fun q => absurd q.1 gr8_10) | (intro _; omega)), hdone], by have := inS_len (done := done) (y := y) (p := p) (c := c) (k := k); omega, hacc1⟩
     ·
      refine Sn ?_; refine Sn ?_; refine Sn ?_; refine Sa V.pk ?_; refine Sa V.mv ?_; refine Sn ?_; refine Sn ?_; refine Sn ?_; refine Sn ?_; refine Sa V.pk ?_; refine ns ?_; refine WC.condF rfl ?_; refine sq ?_; refine WC.exit ?_; refine rg ?_; refine Sa V.mv ?_; refine Sa V.mv ?_; refine Sa V.ix ?_; refine' W.step rfl (Exec.val rfl rfl (v_load rfl rfl ?hr (part1 (tAg rfl) ?hv)) ?_); case hr => exact hrop.sub (fun _ q => by cases q)
      case hv => first | rfl | assumption
      refine Sa V.asg ?_; refine Wn ?_; refine' ⟨⟨a, inS done y p c k, v1, mo1⟩, _, ?hinv, ?hmeas, rfl, ⟨?m8, ?m9, rfl, rfl, rfl, trivial⟩, List.Sublist.append (List.Sublist.refl _) (.cons _ (.refl _)), rfl⟩; case m8 => exact nq
      case m9 => exact nq
      case hmeas => exact om
      case hinv => refine ⟨by omega, by rw [inS_all hat hac hy hmem (by first | (have q_ := c49; exact fun q => absurd q.2 c49) | (have q_ := gr8_10; exact fun q => absurd q.1 gr8_10) | (intro _; omega)), hdone], by have := inS_len (done := done) (y := y) (p := p) (c := c) (k := k); omega, hacc1⟩
   ·
    have hd : done = wayL g (parS g) p c0 := by
      rw [← hdone, show wayL g (parS g) p c = [] by unfold wayL; rw [mvL_root hat (by omega)]; rfl, List.append_nil]
    refine sq ?_; refine WC.exit ?_; refine rg ?_; refine Sa V.asg ?_; refine Wn ?_; obtain ⟨bv, cv, rfl⟩ := hacc.form; refine hacc.pubP (.refl _) fun J2 hle2 hsl2 => ?_; have hel := elems_pairs hsl2; obtain ⟨_, hgd⟩ := hel.at; refine rg ?_; refine Sa V.mv ?_; refine Sa V.ls ?_; refine Sa V.va ?_; refine Sa V.asg ?_; refine ns ?_; refine WC.block ?_; refine' WC.weak (l' := [(12, (.slice none 0 0)), (13, .int .i64 (((done.length) : Int) - 1)), (8, _)]) ⟨?w12, ?w13, rfl, trivial⟩ (List.Sublist.refl _) ?_; case w12 => exact nq
    case w13 => exact nq
    refine sq ?_; refine' WC.loopG (α := Nat × Value × Mm) (fun (k, v2, mo2) => [(12, v2), (13, .int .i64 ((k : Int) - 1))]) (fun (k, v2, mo2) => mo2 ++ [(a3, .row (gC g bn cn bi ci) 25)]) (fun (k, v2, mo2) => J2) (fun (k, v2, mo2) => k ≤ done.length ∧ Acc 128 2 v2 (done.drop k).reverse.length (prC (done.drop k).reverse) mo2) (fun (k, v2, mo2) => k) ⟨done.length, .slice none 0 0, []⟩ ?hs ?hstep; case hs => exact ⟨Nat.le_refl _, by rw [List.drop_length]; exact .nil⟩
    case hstep =>
     rintro ⟨k, v2, mo2⟩ hinv; try simp only at hinv
     obtain ⟨hk, hacc2⟩ := hinv; refine rg ?_; refine Sa V.mv ?_; refine Sa V.vi ?_; refine ns ?_; refine If (fun c70 => ?_) fun c70 => ?_
     ·
      obtain ⟨ad, od, cld, ed, rfl, hJd, hgt2⟩ := hgd (by omega); obtain ⟨x, csx, hx, hcsx, _, rfl⟩ := hgt2 ((k : Int) - 1) (by omega) (by omega); have hx' : done[k - 1]? = some x := by rw [← hx]; congr 1; omega
      have hdk : done.drop (k - 1) = x :: done.drop k := by
        have hlt := (List.getElem?_eq_some_iff.1 hx').1; rw [List.drop_eq_getElem_cons hlt, show k - 1 + 1 = k by omega]; congr 1
        rw [List.getElem?_eq_getElem hlt] at hx'; injection hx'
      have hkl : (done.drop k).reverse.length ≤ 2000 := by simp; omega
      refine sk ?_; refine sq ?_; refine WC.block ?_; refine rg ?_; refine Sa V.mv ?_; refine Sa V.mv ?_; refine Sa V.mv ?_; refine Sa V.ix ?_; refine Sa V.ldA ?_; refine bsl (sb124 Q g0) fun a78 => ?_; refine' W.step rfl (.of (x_accP rfl rfl rfl rfl rfl rfl (sb124 Q g0) (un124 Q g0) (fun i q => by cases q) ?hacc ?hm ?hx ?hnl ?hne ?hl fun w79 mo79 hacc79 => ?_)); case hacc => assumption
      case hm => exact pq
      case hx => exact qx
      case hnl => first | rfl | (simp; done) | (simp; omega)
      case hne => first | rfl | exact ints_one _
      case hl => exact om
      refine Sa V.asg ?_; refine nr ?_; refine Sa V.mv ?_; refine Sa V.va ?_; refine Sa V.asg ?_; refine Wn ?_; refine' ⟨⟨k - 1, w79, mo79⟩, _, ?hinv, ?hmeas, rfl, ⟨?m12, ?m13, rfl, trivial⟩, List.Sublist.append (List.Sublist.refl _) (.cons _ (.refl _)), rfl⟩; case m12 => exact nq
      case m13 => exact nq
      case hmeas => exact om
      case hinv => refine ⟨by omega, ?_⟩; rw [hdk]; exact hacc79.to (by simp) (by rw [List.reverse_cons, prC_app]; rfl)
     ·
      obtain rfl : k = 0 := by omega
      rw [List.drop_zero, hd] at hacc2; refine sq ?_; refine WC.exit ?_; obtain ⟨b2, c2, rfl⟩ := hacc2.form; refine hacc2.pubP (m0 := [(a3, .row (gC g bn cn bi ci) 25)]) (.refl _) fun J3 hle3 hsl3 => ?_; refine rg ?_; refine Sa V.mv ?_; refine Sa V.asg ?_; refine ns ?_; refine WC.ret ?_; refine' ⟨.inr rfl, rfl, _, [(a3, _)], .tmp rfl .nil, List.Sublist.refl _, ⟨_, _, a3, rfl, rfl, hle1.trans (hle2.trans hle3), elems_pairs hsl3⟩⟩
end
end Go.Opn

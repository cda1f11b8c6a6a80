/- A part of the proof of ResumeSaves. -/
import Derived.Test.YtmeojgcibppcmaaDoorRc
set_option maxRecDepth 100000
set_option maxHeartbeats 4000000
set_option linter.unusedVariables false
set_option linter.unusedSimpArgs false
namespace Go.Opn
open Go.Cre Go.RowKit Go.Proofs
theorem any_next {P : Int → Bool} {l : List Int} {i : Nat} {x : Int} (hx : l[((i : Nat) : Int).toNat]? = some x) (h : (l.take i).any P = false) (hp : P x = false) : (l.take (i + 1)).any P = false := by
  rw [Int.toNat_natCast] at hx; rw [List.take_add_one, hx, List.any_append, h]; simp [hp]
theorem any_at {P : Int → Bool} {l : List Int} {i : Nat} {x : Int} (hx : l[((i : Nat) : Int).toNat]? = some x) (hp : P x = true) : l.any P = true := by
  rw [List.any_eq_true]; exact ⟨x, List.mem_of_getElem? hx, hp⟩
section
variable {Q : Worlds Tryd.prog} {g0 : Nat} {J : Jm}
/-! ### Numbers in a range -/
def outB (lo hi : Int) (n : Int) : Bool := decide (n < lo) || decide (hi < n)
theorem indexFunc_fn {mc : Mm} {b : Option Addr} {c : Nat} {l : List Int} {fp : FuncId} {cap : Array Value} {P : Int → Bool} (hl : RI mc J b l) (hn : l.length ≤ 1000000)
    (hp : ∀ x, Fn (kx Q g0) fp (.int .i64 x :: cap.toList) mc J (fun u m' J' => u = .bool (P x) ∧ m' = mc ∧ J = J')) :
    Fn (kx Q g0) 87 [.slice b l.length c, .func (.func fp) #[] cap] mc J (fun u m' J' => ∃ k, u = .int .i64 k ∧ (0 ≤ k ↔ l.any P = true) ∧ m' = mc ∧ J = J') := by
  refine Fn.of_body (ftGet Tryd.func87) rfl rfl fun H => ?_; refine rg ?_; refine Sa V.asg ?_; refine nr ?_; refine Sa V.mv ?_; refine Sa V.ls ?_; refine Sa V.mv ?_; refine ns ?_; refine WC.block ?_; refine' WC.weak (l' := [(8, .int .i64 ((0) : Int)), (0, _), (1, _), (7, _)]) ⟨?w8, rfl, rfl, rfl, trivial⟩ (List.Sublist.refl _) ?_; case w8 => exact nq
  refine sq ?_; refine' WC.loopG (α := Nat) (fun (i : Nat) => [(8, .int .i64 (i : Int))]) (fun (i : Nat) => mc) (fun (i : Nat) => J) (fun (i : Nat) => i ≤ l.length ∧ (l.take i).any P = false) (fun (i : Nat) => l.length - i) (0) ?hs ?hstep; case hs => exact ⟨Nat.zero_le _, rfl⟩
  case hstep =>
   rintro i hinv; try simp only at hinv
   obtain ⟨hi, hany⟩ := hinv; refine rg ?_; refine Sa V.vi ?_; refine ns ?_; refine If (fun c9 => ?_) fun c9 => ?_
   ·
    obtain ⟨a, off, cells, rfl, hro, hget⟩ := hl (by omega); obtain ⟨x, hx, hnx⟩ := hget i (by omega) (by omega); refine sk ?_; refine sq ?_; refine WC.block ?_; refine rg ?_; refine Sa V.mv ?_; refine Sa V.asg ?_; refine nr ?_; refine Sa V.mv ?_; refine Sa V.mv ?_; refine Sa V.mv ?_; refine Sa V.ix ?_; refine' W.step rfl (Exec.val rfl rfl (v_load rfl rfl ?hr (part1 (tAg rfl) ?hv)) ?_); case hr => exact hro
    case hv => first | rfl | assumption
    refine' W.step rfl (Exec.call rfl rfl rfl rfl rfl rfl rfl (mi := mc) (mr := []) (by simp) trivial (hp x) ?_); rintro v m' J' hle ⟨rfl, rfl, rfl⟩; rw [List.append_nil]; refine ns ?_; refine If (fun c16 => ?_) fun c16 => ?_
    ·
     refine rg ?_; refine Sa V.mv ?_; refine Sa V.asg ?_; refine ns ?_; refine WC.ret ?_; refine' ⟨.inr rfl, rfl, _, _, .tmp rfl .nil, List.Sublist.refl _, ?_⟩; first
       | exact ⟨_, rfl, ⟨fun _ => any_at hx (by simpa using c16), fun _ => by omega⟩, rfl, rfl⟩
       | (refine ⟨_, rfl, ⟨fun q => absurd q (by decide), fun q => ?_⟩, rfl, rfl⟩
          rw [List.take_of_length_le (by omega)] at hany; rw [hany] at q; cases q)
    ·
     refine sq ?_; refine WC.skip ?_; refine rg ?_; refine Sa V.va ?_; refine Sa V.mv ?_; refine Wn ?_; refine' ⟨(i + 1), _, ?hinv, ?hmeas, rfl, ⟨?m8, rfl, rfl, rfl, trivial⟩, List.Sublist.refl _, rfl⟩; case m8 => exact nq
     case hmeas => exact om
     case hinv => exact ⟨by omega, any_next hx hany (by simpa using c16)⟩
   ·
    refine sq ?_; refine WC.exit ?_; refine rg ?_; refine Sa V.asg ?_; refine ns ?_; refine WC.ret ?_; refine' ⟨.inr rfl, rfl, _, _, .tmp rfl .nil, List.Sublist.refl _, ?_⟩; first
      | exact ⟨_, rfl, ⟨fun _ => any_at hx (by simpa using c16), fun _ => by omega⟩, rfl, rfl⟩
      | (refine ⟨_, rfl, ⟨fun q => absurd q (by decide), fun q => ?_⟩, rfl, rfl⟩
         rw [List.take_of_length_le (by omega)] at hany; rw [hany] at q; cases q)
theorem containsFunc_fn {mc : Mm} {b : Option Addr} {c : Nat} {l : List Int} {fp : FuncId} {cap : Array Value} {P : Int → Bool} (hl : RI mc J b l) (hn : l.length ≤ 1000000)
    (hp : ∀ x, Fn (kx Q g0) fp (.int .i64 x :: cap.toList) mc J (fun u m' J' => u = .bool (P x) ∧ m' = mc ∧ J = J')) :
    Fn (kx Q g0) 74 [.slice b l.length c, .func (.func fp) #[] cap] mc J (fun u m' J' => u = .bool (l.any P) ∧ m' = mc ∧ J = J') := by
  refine Fn.of_body (ftGet Tryd.func74) rfl rfl fun H => ?_; refine rg ?_; refine Sa V.asg ?_; refine nr ?_; refine Sa V.mv ?_; refine Sa V.mv ?_; refine' W.step rfl (Exec.call rfl rfl rfl rfl rfl rfl rfl (mi := mc) (mr := []) (by simp) trivial (indexFunc_fn hl hn hp) ?_); rintro v m' J' hle ⟨k, rfl, hk, rfl, rfl⟩; rw [List.append_nil]; refine Sa V.vi ?_; refine Sa V.asg ?_; refine ns ?_; refine WC.ret ?_; refine' ⟨.inr rfl, rfl, _, _, .tmp rfl .nil, List.Sublist.refl _, ?_⟩; refine ⟨congrArg Value.bool ?_, rfl, rfl⟩; rw [Bool.eq_iff_iff, decide_eq_true_iff]; exact hk
theorem within1_fn {a3 a4 : Nat} {lo hi x : Int} {mo : Mm} : Fn (kx Q g0) 75 [.int .i64 x, .pointer (some ⟨a3, 0, none⟩), .pointer (some ⟨a4, 0, none⟩)] ((a4, .row [.int .i64 hi] 3) :: (a3, .row [.int .i64 lo] 3) :: mo) J (fun u m' J' => u = .bool (outB lo hi x) ∧ m' = ((a4, .row [.int .i64 hi] 3) :: (a3, .row [.int .i64 lo] 3) :: mo) ∧ J = J') := by
  refine Fn.of_body (ftGet Tryd.func75) rfl rfl fun H => ?_; refine rg ?_; refine Sa V.asg ?_; refine nr ?_; refine Sa V.mv ?_; refine Sa V.ld ?_; refine Sa V.vi ?_; refine Sa V.mv ?_; refine Wp 8 (fun gr1_3 => ?_) fun gr1_3 => ?_
  ·
   refine Sn ?_; refine Sn ?_; refine Sn ?_; refine Sa V.pk ?_; refine Sa V.asg ?_; refine ns ?_; refine WC.ret ?_; refine' ⟨.inr rfl, rfl, _, _, .tmp rfl .nil, List.Sublist.refl _, ?_⟩; refine ⟨congrArg Value.bool ?_, rfl, rfl⟩; rw [show outB lo hi x = (decide (x < lo) || decide (hi < x)) from rfl]; first | (rw [decide_eq_true gr1_3]; rfl) | (rw [decide_eq_false gr1_3]; rfl)
  ·
   refine Sb V.mv ?_; refine Sb V.ld ?_; refine Sb V.vi ?_; refine Sa V.pk ?_; refine Sa V.asg ?_; refine ns ?_; refine WC.ret ?_; refine' ⟨.inr rfl, rfl, _, _, .tmp rfl .nil, List.Sublist.refl _, ?_⟩; refine ⟨congrArg Value.bool ?_, rfl, rfl⟩; rw [show outB lo hi x = (decide (x < lo) || decide (hi < x)) from rfl]; first | (rw [decide_eq_true gr1_3]; rfl) | (rw [decide_eq_false gr1_3]; rfl)
theorem within_fn {b : Option Addr} {c : Nat} {l : List Int} {lo hi : Int} {mo : Mm} (hl : RI mo J b l) (hn : l.length ≤ 1000000) : Fn (kx Q g0) 64 [.int .i64 lo, .int .i64 hi, .slice b l.length c] mo J (fun u m' J' => u = .int .i64 (if l.any (outB lo hi) = true then 2 else 0) ∧ m' = [] ∧ J = J') := by
  refine Fn.of_body (ftGet Tryd.func64) rfl rfl fun H => ?_; refine rg ?_; refine bx fun a3 => ?_; refine bx fun a4 => ?_; refine Sa V.asg ?_; refine nr ?_; refine Sa V.mv ?_; refine Sa V.fn ?_; refine' W.step rfl (Exec.call rfl rfl rfl rfl rfl rfl rfl (mi := (a4, .row [.int .i64 hi] 3) :: (a3, .row [.int .i64 lo] 3) :: mo) (mr := []) (by rw [List.append_nil]; exact .refl _) trivial (containsFunc_fn (P := outB lo hi) (fun h => by obtain ⟨a, off, cells, h1, h2, h3⟩ := hl h; exact ⟨a, off, cells, h1, h2.cons.cons, h3⟩) hn (fun x => within1_fn)) ?_); rintro v m' J' hle ⟨rfl, rfl, rfl⟩; rw [List.append_nil]; refine ns ?_; refine If (fun c9 => ?_) fun c9 => ?_
  ·
   refine rg ?_; refine Sa V.asg ?_; refine ns ?_; refine WC.ret ?_; refine Lf ?_; first
     | exact ⟨by rw [if_pos c9]; rfl, rfl, rfl⟩
     | exact ⟨by rw [if_neg (by simp [c9])]; rfl, rfl, rfl⟩
  ·
   refine sq ?_; refine WC.skip ?_; refine rg ?_; refine Sa V.asg ?_; refine ns ?_; refine WC.ret ?_; refine Lf ?_; first
     | exact ⟨by rw [if_pos c9]; rfl, rfl, rfl⟩
     | exact ⟨by rw [if_neg (by simp [c9])]; rfl, rfl, rfl⟩
end
theorem any_out {l : List Int} {lo hi : Int} : l.any (outB lo hi) = true ↔ ∃ w ∈ l, w < lo ∨ hi < w := by
  rw [List.any_eq_true]; constructor
  · rintro ⟨w, h1, h2⟩; exact ⟨w, h1, by simpa [outB] using h2⟩
  · rintro ⟨w, h1, h2⟩; exact ⟨w, h1, by simpa [outB] using h2⟩
section
variable {Q : Worlds Tryd.prog} {g0 : Nat} {J : Jm}
/-! ### A node by itself -/
abbrev wC (g : Gm) (bn : Option Addr) (cn : Nat) (bi : Option Addr) (ci : Nat) (vp vd vl : Value) : List Value := [.int .i64 g.pl, .slice bn g.ns.length cn, .slice bi g.is.length ci, vp, vd, vl]
abbrev wB (aw : Nat) (g : Gm) (bn : Option Addr) (cn : Nat) (bi : Option Addr) (ci : Nat) (vp vd vl : Value) : Nat × PB := (aw, .row (wC g bn cn bi ci vp vd vl) 96)
abbrev ndV (x : Nd) (b1 : Option Addr) (c1 : Nat) (b2 : Option Addr) (c2 : Nat) (b3 : Option Addr) (c3 : Nat) : Value := .agg #[.int .i64 x.k, .int .i64 x.p, .int .i64 x.i, .slice b1 x.nx.length c1, .slice b2 x.ws.length c2, .slice b3 x.py.length c3]
theorem chance_fn {aw : Nat} {g : Gm} {bn bi : Option Addr} {cn ci : Nat} {vp vd vl : Value} {x : Nd} {b1 b2 b3 : Option Addr} {c1 c2 c3 : Nat} (h2 : IntsR J (.slice b2 x.ws.length c2) x.ws) (hk : x.k = 1) :
    Fn (kx Q g0) 59 [.pointer (some ⟨aw, 0, none⟩), ndV x b1 c1 b2 c2 b3 c3] [wB aw g bn cn bi ci vp vd vl] J (fun u m' J' => u = .int .i64 (nodeS g x) ∧ m' = [wB aw g bn cn bi ci vp vd vl] ∧ J = J') := by
  refine Fn.of_body (ftGet Tryd.func59) rfl rfl fun H => ?_; refine rg ?_; refine bx fun a3 => ?_; refine Sa V.asg ?_; refine Wn ?_; refine wk [3] ?_; refine sq ?_; refine' WC.cutK 0 [(39, .bool (decide ((x.p ≠ 0 ∨ x.i ≠ 0 ∨ 0 < x.py.length ∨ x.nx.length < 1 ∨ 60 < x.nx.length ∨ x.ws.length ≠ x.nx.length))))] ?cr1 ?dr1; case cr1 =>
   refine WC.region ?_; refine Sa V.fa ?_; refine Sa V.ld ?_; refine Sa V.vi ?_; refine Sa V.mv ?_; refine Wp 8 (fun gr1_3 => ?_) fun gr1_3 => ?_
   ·
    refine Sn ?_; refine Sn ?_; refine Sn ?_; refine Sa V.pk ?_; refine Sa V.mv ?_; refine Sn ?_; refine Sn ?_; refine Sn ?_; refine Sn ?_; refine Sa V.pk ?_; refine Sa V.mv ?_; refine Sn ?_; refine Sn ?_; refine Sn ?_; refine Sn ?_; refine Sa V.pk ?_; refine Sa V.mv ?_; refine Sn ?_; refine Sn ?_; refine Sn ?_; refine Sn ?_; refine Sa V.pk ?_; refine Sa V.mv ?_; refine Sn ?_; refine Sn ?_; refine Sn ?_; refine Sn ?_; refine Sn ?_; refine Sn ?_; refine Sn ?_; refine Sa V.pk ?_; refine Wn ?_; exact ce
   ·
    refine Sb V.fa ?_; refine Sb V.ld ?_; refine Sb V.vi ?_; refine Sa V.pk ?_; refine Sa V.mv ?_; refine Wp 13 (fun gr1_8 => ?_) fun gr1_8 => ?_
    ·
     refine Sn ?_; refine Sn ?_; refine Sn ?_; refine Sn ?_; refine Sa V.pk ?_; refine Sa V.mv ?_; refine Sn ?_; refine Sn ?_; refine Sn ?_; refine Sn ?_; refine Sa V.pk ?_; refine Sa V.mv ?_; refine Sn ?_; refine Sn ?_; refine Sn ?_; refine Sn ?_; refine Sa V.pk ?_; refine Sa V.mv ?_; refine Sn ?_; refine Sn ?_; refine Sn ?_; refine Sn ?_; refine Sn ?_; refine Sn ?_; refine Sn ?_; refine Sa V.pk ?_; refine Wn ?_; exact ce
    ·
     refine Sb V.fa ?_; refine Sb V.ld ?_; refine Sb V.ls ?_; refine Sb V.vi ?_; refine Sa V.pk ?_; refine Sa V.mv ?_; refine Wp 19 (fun gr1_14 => ?_) fun gr1_14 => ?_
     ·
      refine Sn ?_; refine Sn ?_; refine Sn ?_; refine Sn ?_; refine Sa V.pk ?_; refine Sa V.mv ?_; refine Sn ?_; refine Sn ?_; refine Sn ?_; refine Sn ?_; refine Sa V.pk ?_; refine Sa V.mv ?_; refine Sn ?_; refine Sn ?_; refine Sn ?_; refine Sn ?_; refine Sn ?_; refine Sn ?_; refine Sn ?_; refine Sa V.pk ?_; refine Wn ?_; exact ce
     ·
      refine Sb V.fa ?_; refine Sb V.ld ?_; refine Sb V.ls ?_; refine Sb V.vi ?_; refine Sa V.pk ?_; refine Sa V.mv ?_; refine Wp 25 (fun gr1_20 => ?_) fun gr1_20 => ?_
      ·
       refine Sn ?_; refine Sn ?_; refine Sn ?_; refine Sn ?_; refine Sa V.pk ?_; refine Sa V.mv ?_; refine Sn ?_; refine Sn ?_; refine Sn ?_; refine Sn ?_; refine Sn ?_; refine Sn ?_; refine Sn ?_; refine Sa V.pk ?_; refine Wn ?_; exact ce
      ·
       refine Sb V.fa ?_; refine Sb V.ld ?_; refine Sb V.ls ?_; refine Sb V.vi ?_; refine Sa V.pk ?_; refine Sa V.mv ?_; refine Wp 31 (fun gr1_26 => ?_) fun gr1_26 => ?_
       ·
        refine Sn ?_; refine Sn ?_; refine Sn ?_; refine Sn ?_; refine Sn ?_; refine Sn ?_; refine Sn ?_; refine Sa V.pk ?_; refine Wn ?_; exact ce
       ·
        refine Sb V.fa ?_; refine Sb V.ld ?_; refine Sb V.ls ?_; refine Sb V.fa ?_; refine Sb V.ld ?_; refine Sb V.ls ?_; refine Sb V.vi ?_; refine Sa V.pk ?_; refine Wn ?_; exact ce
  case dr1 =>
   refine sq ?_; refine If (fun c39 => ?_) fun c39 => ?_
   ·
    refine rg ?_; refine Sa V.asg ?_; refine ns ?_; refine WC.ret ?_; refine' ⟨.inr rfl, rfl, _, _, .tmp rfl .nil, .cons _ (.refl _), ?_⟩; first
      | (refine ⟨?_, rfl, rfl⟩
         unfold nodeS; rw [if_pos hk, if_pos c39]; rfl)
      | (refine ⟨?_, rfl, rfl⟩
         unfold nodeS; rw [if_pos hk, if_neg c39]; by_cases q : x.ws.any (outB 1 1000) = true
         · rw [if_pos q, if_pos (any_out.1 q)]; rfl
         · rw [if_neg q, if_neg (fun k => q (any_out.2 k))]; rfl)
   ·
    refine sq ?_; refine WC.skip ?_; refine rg ?_; refine Sa V.fa ?_; refine Sa V.ld ?_; refine' W.step rfl (Exec.call rfl rfl rfl rfl rfl rfl rfl (mi := []) (mr := [_, _]) (.refl _) trivial (within_fn (h2.ri []) (by omega)) ?_); rintro v m' J1 hle ⟨rfl, rfl, rfl⟩; refine Sa V.asg ?_; refine ns ?_; refine WC.ret ?_; refine' ⟨.inr rfl, rfl, _, _, .tmp rfl .nil, .cons _ (.refl _), ?_⟩; first
      | (refine ⟨?_, rfl, rfl⟩
         unfold nodeS; rw [if_pos hk, if_pos c39]; rfl)
      | (refine ⟨?_, rfl, rfl⟩
         unfold nodeS; rw [if_pos hk, if_neg c39]; by_cases q : x.ws.any (outB 1 1000) = true
         · rw [if_pos q, if_pos (any_out.1 q)]; rfl
         · rw [if_neg q, if_neg (fun k => q (any_out.2 k))]; rfl)
theorem any_one {lo hi n : Int} : ([n].any (outB lo hi) = true) ↔ (n < lo ∨ hi < n) := by simp [outB]
theorem end_fn {aw : Nat} {g : Gm} {bn bi : Option Addr} {cn ci : Nat} {vp vd vl : Value} {x : Nd} {b1 b2 b3 : Option Addr} {c1 c2 c3 : Nat} (h3 : IntsR J (.slice b3 x.py.length c3) x.py) (hk : x.k = 3) (hp : g.pl ≤ 4) (q1 : addrEq b1 b1 = true) (q2 : addrEq b2 b2 = true) (q3 : addrEq b3 b3 = true) :
    Fn (kx Q g0) 61 [.pointer (some ⟨aw, 0, none⟩), ndV x b1 c1 b2 c2 b3 c3] [wB aw g bn cn bi ci vp vd vl] J (fun u m' J' => u = .int .i64 (nodeS g x) ∧ m' = [wB aw g bn cn bi ci vp vd vl] ∧ J = J') := by
  refine Fn.of_body (ftGet Tryd.func61) rfl rfl fun H => ?_; refine rg ?_; refine bx fun a3 => ?_; refine Sa V.asg ?_; refine Wn ?_; refine wk [0, 3] ?_; refine sq ?_; refine' WC.cutK 1 [(35, .bool (decide ((x.p ≠ 0 ∨ x.i ≠ 0 ∨ 0 < x.nx.length ∨ 0 < x.ws.length ∨ (x.py.length : Int) ≠ g.pl))))] ?cr1 ?dr1; case cr1 =>
   refine WC.drawR [] rfl (by kernel_rfl) (plan := [.val 0, .val 1, .val 2, .val 3, .val 4, .val 5, .val 6, .val 7, .val 8, .val 9, .val 10, .val 11, .val 12, .val 13, .val 14, .val 15, .val 16, .val 17, .val 18, .val 19, .val 20, .val 21, .val 22, .val 23, .val 24, .val 25, .val 26, .val 27, .val 28, .val 29, .val 30]) (by kernel_rfl) ?_; refine Ra rfl V.fa ?_; refine Ra rfl V.ld ?_; refine Ra rfl V.vi ?_; refine Ra rfl V.mv ?_; refine Rp 8 (fun gr1_3 => ?_) fun gr1_3 => ?_
   ·
    refine Rn rfl ?_; refine Rn rfl ?_; refine Rn rfl ?_; refine Ra rfl V.pk ?_; refine Ra rfl V.mv ?_; refine Rn rfl ?_; refine Rn rfl ?_; refine Rn rfl ?_; refine Rn rfl ?_; refine Ra rfl V.pk ?_; refine Ra rfl V.mv ?_; refine Rn rfl ?_; refine Rn rfl ?_; refine Rn rfl ?_; refine Rn rfl ?_; refine Ra rfl V.pk ?_; refine Ra rfl V.mv ?_; refine Rn rfl ?_; refine Rn rfl ?_; refine Rn rfl ?_; refine Rn rfl ?_; refine Rn rfl ?_; refine Rn rfl ?_; refine Rn rfl ?_; refine Rn rfl ?_; refine Rn rfl ?_; refine Ra rfl V.pk ?_; refine WR.nil ?_; exact ce
   ·
    refine Rb rfl V.fa ?_; refine Rb rfl V.ld ?_; refine Rb rfl V.vi ?_; refine Ra rfl V.pk ?_; refine Ra rfl V.mv ?_; refine Rp 13 (fun gr1_8 => ?_) fun gr1_8 => ?_
    ·
     refine Rn rfl ?_; refine Rn rfl ?_; refine Rn rfl ?_; refine Rn rfl ?_; refine Ra rfl V.pk ?_; refine Ra rfl V.mv ?_; refine Rn rfl ?_; refine Rn rfl ?_; refine Rn rfl ?_; refine Rn rfl ?_; refine Ra rfl V.pk ?_; refine Ra rfl V.mv ?_; refine Rn rfl ?_; refine Rn rfl ?_; refine Rn rfl ?_; refine Rn rfl ?_; refine Rn rfl ?_; refine Rn rfl ?_; refine Rn rfl ?_; refine Rn rfl ?_; refine Rn rfl ?_; refine Ra rfl V.pk ?_; refine WR.nil ?_; exact ce
    ·
     refine Rb rfl V.fa ?_; refine Rb rfl V.ld ?_; refine Rb rfl V.ls ?_; refine Rb rfl V.vi ?_; refine Ra rfl V.pk ?_; refine Ra rfl V.mv ?_; refine Rp 19 (fun gr1_14 => ?_) fun gr1_14 => ?_
     ·
      refine Rn rfl ?_; refine Rn rfl ?_; refine Rn rfl ?_; refine Rn rfl ?_; refine Ra rfl V.pk ?_; refine Ra rfl V.mv ?_; refine Rn rfl ?_; refine Rn rfl ?_; refine Rn rfl ?_; refine Rn rfl ?_; refine Rn rfl ?_; refine Rn rfl ?_; refine Rn rfl ?_; refine Rn rfl ?_; refine Rn rfl ?_; refine Ra rfl V.pk ?_; refine WR.nil ?_; exact ce
     ·
      refine Rb rfl V.fa ?_; refine Rb rfl V.ld ?_; refine Rb rfl V.ls ?_; refine Rb rfl V.vi ?_; refine Ra rfl V.pk ?_; refine Ra rfl V.mv ?_; refine Rp 25 (fun gr1_20 => ?_) fun gr1_20 => ?_
      ·
       refine Rn rfl ?_; refine Rn rfl ?_; refine Rn rfl ?_; refine Rn rfl ?_; refine Rn rfl ?_; refine Rn rfl ?_; refine Rn rfl ?_; refine Rn rfl ?_; refine Rn rfl ?_; refine Ra rfl V.pk ?_; refine WR.nil ?_; exact ce
      ·
       refine Rb rfl V.fa ?_; refine Rb rfl V.ld ?_; refine Rb rfl V.ls ?_; refine Rb rfl V.mv ?_; refine Rb rfl V.nc ?_; refine Rb rfl V.fa ?_; refine Rb rfl V.fa ?_; refine Rb rfl V.ld ?_; refine Rb rfl V.vi ?_; refine Ra rfl V.pk ?_; refine WR.nil ?_; exact ce
  case dr1 =>
   refine sq ?_; refine If (fun c35 => ?_) fun c35 => ?_
   ·
    refine rg ?_; refine Sa V.asg ?_; refine ns ?_; refine WC.ret ?_; refine' ⟨.inr rfl, rfl, _, _, .tmp rfl .nil, .cons _ (.refl _), ?_⟩; first
      | (refine ⟨?_, rfl, rfl⟩
         unfold nodeS; rw [if_neg (show ¬ x.k = 1 by omega), if_neg (show ¬ x.k = 2 by omega), if_pos hk, if_pos c35]; rfl)
      | (refine ⟨?_, rfl, rfl⟩
         unfold nodeS; rw [if_neg (show ¬ x.k = 1 by omega), if_neg (show ¬ x.k = 2 by omega), if_pos hk, if_neg c35]; by_cases q : x.py.any (outB (-1000000) 1000000) = true
         · rw [if_pos q, if_pos (any_out.1 q)]; rfl
         · rw [if_neg q, if_neg (fun k => q (any_out.2 k))]; rfl)
   ·
    refine sq ?_; refine WC.skip ?_; refine rg ?_; refine Sa V.fa ?_; refine Sa V.ld ?_; refine' W.step rfl (Exec.call rfl rfl rfl rfl rfl rfl rfl (mi := []) (mr := [_, _]) (.refl _) trivial (within_fn (h3.ri []) (by omega)) ?_); rintro v m' J1 hle ⟨rfl, rfl, rfl⟩; refine Sa V.asg ?_; refine ns ?_; refine WC.ret ?_; refine' ⟨.inr rfl, rfl, _, _, .tmp rfl .nil, .cons _ (.refl _), ?_⟩; first
      | (refine ⟨?_, rfl, rfl⟩
         unfold nodeS; rw [if_neg (show ¬ x.k = 1 by omega), if_neg (show ¬ x.k = 2 by omega), if_pos hk, if_pos c35]; rfl)
      | (refine ⟨?_, rfl, rfl⟩
         unfold nodeS; rw [if_neg (show ¬ x.k = 1 by omega), if_neg (show ¬ x.k = 2 by omega), if_pos hk, if_neg c35]; by_cases q : x.py.any (outB (-1000000) 1000000) = true
         · rw [if_pos q, if_pos (any_out.1 q)]; rfl
         · rw [if_neg q, if_neg (fun k => q (any_out.2 k))]; rfl)
theorem move_fn {aw : Nat} {g : Gm} {bn bi : Option Addr} {cn ci : Nat} {vp vd vl : Value} {x : Nd} {b1 b2 b3 : Option Addr} {c1 c2 c3 : Nat} (hk : x.k = 2) (hp1 : 1 ≤ g.pl) (hp : g.pl ≤ 4) (hi : g.is.length ≤ 200) (q0 : addrEq bi bi = true) :
    Fn (kx Q g0) 60 [.pointer (some ⟨aw, 0, none⟩), ndV x b1 c1 b2 c2 b3 c3] [wB aw g bn cn bi ci vp vd vl] J (fun u m' J' => u = .int .i64 (nodeS g x) ∧ m' = [wB aw g bn cn bi ci vp vd vl] ∧ J = J') := by
  refine Fn.of_body (ftGet Tryd.func60) rfl rfl fun H => ?_; refine rg ?_; refine bx fun a3 => ?_; refine Sa V.asg ?_; refine Wn ?_; refine wk [0, 3] ?_; refine sq ?_; refine' WC.cutK 0 [(27, .bool (decide ((0 < x.py.length ∨ 0 < x.ws.length ∨ x.nx.length < 1 ∨ 10 < x.nx.length))))] ?cr1 ?dr1; case cr1 =>
   refine WC.region ?_; refine Sa V.fa ?_; refine Sa V.ld ?_; refine Sa V.ls ?_; refine Sa V.vi ?_; refine Sa V.mv ?_; refine Wp 10 (fun gr1_4 => ?_) fun gr1_4 => ?_
   ·
    refine Sn ?_; refine Sn ?_; refine Sn ?_; refine Sn ?_; refine Sa V.pk ?_; refine Sa V.mv ?_; refine Sn ?_; refine Sn ?_; refine Sn ?_; refine Sn ?_; refine Sa V.pk ?_; refine Sa V.mv ?_; refine Sn ?_; refine Sn ?_; refine Sn ?_; refine Sn ?_; refine Sa V.pk ?_; refine Wn ?_; exact ce
   ·
    refine Sb V.fa ?_; refine Sb V.ld ?_; refine Sb V.ls ?_; refine Sb V.vi ?_; refine Sa V.pk ?_; refine Sa V.mv ?_; refine Wp 16 (fun gr1_10 => ?_) fun gr1_10 => ?_
    ·
     refine Sn ?_; refine Sn ?_; refine Sn ?_; refine Sn ?_; refine Sa V.pk ?_; refine Sa V.mv ?_; refine Sn ?_; refine Sn ?_; refine Sn ?_; refine Sn ?_; refine Sa V.pk ?_; refine Wn ?_; exact ce
    ·
     refine Sb V.fa ?_; refine Sb V.ld ?_; refine Sb V.ls ?_; refine Sb V.vi ?_; refine Sa V.pk ?_; refine Sa V.mv ?_; refine Wp 22 (fun gr1_16 => ?_) fun gr1_16 => ?_
     ·
      refine Sn ?_; refine Sn ?_; refine Sn ?_; refine Sn ?_; refine Sa V.pk ?_; refine Wn ?_; exact ce
     ·
      refine Sb V.fa ?_; refine Sb V.ld ?_; refine Sb V.ls ?_; refine Sb V.vi ?_; refine Sa V.pk ?_; refine Wn ?_; exact ce
  case dr1 =>
   refine sq ?_; refine If (fun c27 => ?_) fun c27 => ?_
   ·
    refine rg ?_; refine Sa V.asg ?_; refine ns ?_; refine WC.ret ?_; refine' ⟨.inr rfl, rfl, _, _, .tmp rfl .nil, .cons _ (.refl _), ?_⟩; first
      | (refine ⟨?_, rfl, rfl⟩
         unfold nodeS; rw [if_neg (show ¬ x.k = 1 by omega), if_pos hk, if_pos c27]; rfl)
      | (refine ⟨?_, rfl, rfl⟩
         unfold nodeS; rw [if_neg (show ¬ x.k = 1 by omega), if_pos hk, if_neg c27]; by_cases q : [x.p].any (outB 0 (g.pl - 1)) = true
         · rw [if_pos q, if_pos (by rw [any_one] at q; omega)]; rfl
         · rw [if_neg q] at c39; exact absurd rfl c39)
      | (refine ⟨?_, rfl, rfl⟩
         unfold nodeS; rw [if_neg (show ¬ x.k = 1 by omega), if_pos hk, if_neg c27]; by_cases q : [x.p].any (outB 0 (g.pl - 1)) = true
         · rw [if_pos q] at c39; exact absurd (by decide) c39
         · by_cases q2 : [x.i].any (outB 0 ((g.is.length : Int) - 1)) = true
           · rw [if_pos q2, if_pos (by rw [any_one] at q2; omega)]; rfl
           · rw [if_neg q2, if_neg (by rw [any_one] at q q2; omega)]; rfl)
   ·
    refine sq ?_; refine WC.skip ?_; refine sq ?_; refine WC.draw rfl (by kernel_rfl) (plan := [.val 0, .val 1, .val 2, .val 3, .val 4, .val 5, .val 6, .val 7, .alc 8, .chk [7, 6, 5, 4, 3, 2, 1, 0], .chn 9, .val 10]) (by kernel_rfl) ?_; refine Da rfl V.mv ?_; refine Da rfl V.nc ?_; refine Da rfl V.fa ?_; refine Da rfl V.fa ?_; refine Da rfl V.ld ?_; refine Da rfl V.va ?_; refine Da rfl V.fa ?_; refine Da rfl V.ld ?_; refine WD.buildSlice rfl rfl rfl rfl rfl rfl (sb38 Q g0) rfl rfl rfl fun a36 => ?_; refine WD.chk ck ?_; refine' WD.call rfl rfl rfl rfl rfl rfl rfl rfl rfl rfl (mi := [(a36, _)]) (mr := [_, _]) (.refl _) trivial (within_fn (l := [x.p]) (RI.own (.head _)) (by simp)) ?_; rintro v m' J1 hle ⟨rfl, rfl, rfl⟩; refine Da rfl V.asg ?_; refine WD.nil ?_; refine rg ?_; refine Sa V.mv ?_; refine Sa V.vi ?_; refine ns ?_; refine If (fun c39 => ?_) fun c39 => ?_
    ·
     refine rg ?_; refine Sa V.mv ?_; refine Sa V.asg ?_; refine ns ?_; refine WC.ret ?_; refine' ⟨.inr rfl, rfl, _, _, .tmp rfl .nil, .cons _ (.refl _), ?_⟩; first
       | (refine ⟨?_, rfl, rfl⟩
          unfold nodeS; rw [if_neg (show ¬ x.k = 1 by omega), if_pos hk, if_pos c27]; rfl)
       | (refine ⟨?_, rfl, rfl⟩
          unfold nodeS; rw [if_neg (show ¬ x.k = 1 by omega), if_pos hk, if_neg c27]; by_cases q : [x.p].any (outB 0 (g.pl - 1)) = true
          · rw [if_pos q, if_pos (by rw [any_one] at q; omega)]; rfl
          · rw [if_neg q] at c39; exact absurd rfl c39)
       | (refine ⟨?_, rfl, rfl⟩
          unfold nodeS; rw [if_neg (show ¬ x.k = 1 by omega), if_pos hk, if_neg c27]; by_cases q : [x.p].any (outB 0 (g.pl - 1)) = true
          · rw [if_pos q] at c39; exact absurd (by decide) c39
          · by_cases q2 : [x.i].any (outB 0 ((g.is.length : Int) - 1)) = true
            · rw [if_pos q2, if_pos (by rw [any_one] at q2; omega)]; rfl
            · rw [if_neg q2, if_neg (by rw [any_one] at q q2; omega)]; rfl)
    ·
     refine sq ?_; refine WC.skip ?_; refine sq ?_; refine WC.draw rfl (by kernel_rfl) (plan := [.val 0, .val 1, .val 2, .val 3, .val 4, .val 5, .val 6, .val 7, .val 8, .alc 9, .chk [8, 7, 6, 5, 4, 3, 2, 1, 0], .chn 10, .val 11]) (by kernel_rfl) ?_; refine Da rfl V.mv ?_; refine Da rfl V.nc ?_; refine Da rfl V.fa ?_; refine Da rfl V.fa ?_; refine Da rfl V.ld ?_; refine Da rfl V.ls ?_; refine Da rfl V.va ?_; refine Da rfl V.fa ?_; refine Da rfl V.ld ?_; refine WD.buildSlice rfl rfl rfl rfl rfl rfl (sb38 Q g0) rfl rfl rfl fun a50 => ?_; refine WD.chk ck ?_; refine' WD.call rfl rfl rfl rfl rfl rfl rfl rfl rfl rfl (mi := [(a50, _)]) (mr := [_, _]) (.refl _) trivial (within_fn (l := [x.i]) (RI.own (.head _)) (by simp)) ?_; rintro v m' J1 hle ⟨rfl, rfl, rfl⟩; refine Da rfl V.asg ?_; refine WD.nil ?_; refine sq ?_; refine WC.ret ?_; refine' ⟨.inr rfl, rfl, _, _, .tmp rfl .nil, .cons _ (.refl _), ?_⟩; first
       | (refine ⟨?_, rfl, rfl⟩
          unfold nodeS; rw [if_neg (show ¬ x.k = 1 by omega), if_pos hk, if_pos c27]; rfl)
       | (refine ⟨?_, rfl, rfl⟩
          unfold nodeS; rw [if_neg (show ¬ x.k = 1 by omega), if_pos hk, if_neg c27]; by_cases q : [x.p].any (outB 0 (g.pl - 1)) = true
          · rw [if_pos q, if_pos (by rw [any_one] at q; omega)]; rfl
          · rw [if_neg q] at c39; exact absurd rfl c39)
       | (refine ⟨?_, rfl, rfl⟩
          unfold nodeS; rw [if_neg (show ¬ x.k = 1 by omega), if_pos hk, if_neg c27]; by_cases q : [x.p].any (outB 0 (g.pl - 1)) = true
          · rw [if_pos q] at c39; exact absurd (by decide) c39
          · by_cases q2 : [x.i].any (outB 0 ((g.is.length : Int) - 1)) = true
            · rw [if_pos q2, if_pos (by rw [any_one] at q2; omega)]; rfl
            · rw [if_neg q2, if_neg (by rw [any_one] at q q2; omega)]; rfl)
theorem node0_fn {aw : Nat} {g : Gm} {bn bi : Option Addr} {cn ci : Nat} {vp vd vl : Value} {x : Nd} {b1 b2 b3 : Option Addr} {c1 c2 c3 : Nat} {fk : FuncId} (q1 : addrEq b1 b1 = true) (q2 : addrEq b2 b2 = true) (q3 : addrEq b3 b3 = true)
    (hfk : 1 ≤ x.k ∧ x.k ≤ 3 → nth ([.nilFunc, .func (.func 59) #[] #[], .func (.func 60) #[] #[], .func (.func 61) #[] #[]] : List Value) (0 + x.k.toNat * 1) = some (.func (.func fk) #[] #[]))
    (hf : 1 ≤ x.k ∧ x.k ≤ 3 → Fn (kx Q g0) fk [.pointer (some ⟨aw, 0, none⟩), ndV x b1 c1 b2 c2 b3 c3] [wB aw g bn cn bi ci vp vd vl] J (fun u m' J' => u = .int .i64 (nodeS g x) ∧ m' = [wB aw g bn cn bi ci vp vd vl] ∧ J = J')) :
    Fn (kx Q g0) 48 [.pointer (some ⟨aw, 0, none⟩), ndV x b1 c1 b2 c2 b3 c3] [wB aw g bn cn bi ci vp vd vl] J (fun u m' J' => u = .int .i64 (nodeS g x) ∧ m' = [wB aw g bn cn bi ci vp vd vl] ∧ J = J') := by
  refine Fn.of_body (ftGet Tryd.func48) rfl rfl fun H => ?_; refine rg ?_; refine bx fun a3 => ?_; refine Sa V.asg ?_; refine nr ?_; refine Sa V.bd ?_; refine' W.step rfl (.of (x_alloc rfl rfl rfl (ze109 Q g0) rfl rfl rfl fun a5 => ?_)); refine Ss ?_; refine Wn ?_; refine wk [0, 3, 5] ?_; refine sq ?_; refine' WC.cutK 0 [(14, .bool (decide ((x.k < 1 ∨ 3 < x.k))))] ?cr2 ?dr2; case cr2 =>
   refine WC.region ?_; refine Sa V.fa ?_; refine Sa V.ld ?_; refine Sa V.vi ?_; refine Sa V.mv ?_; refine Wp 10 (fun gr2_3 => ?_) fun gr2_3 => ?_
   ·
    refine Sn ?_; refine Sn ?_; refine Sn ?_; refine Sa V.pk ?_; refine Wn ?_; exact ce
   ·
    refine Sb V.fa ?_; refine Sb V.ld ?_; refine Sb V.vi ?_; refine Sa V.pk ?_; refine Wn ?_; exact ce
  case dr2 =>
   refine sq ?_; refine If (fun c14 => ?_) fun c14 => ?_
   ·
    refine rg ?_; refine Sa V.asg ?_; refine ns ?_; refine WC.ret ?_; refine' ⟨.inr rfl, rfl, _, [wB aw g bn cn bi ci vp vd vl], .tmp rfl .nil, (by first | exact .cons_cons _ (List.nil_sublist _) | exact .cons _ (.cons _ (.refl _))), ?_⟩; first
      | exact ⟨rfl, rfl, rfl⟩
      | (refine ⟨?_, rfl, rfl⟩
         unfold nodeS; rw [if_neg (show ¬ x.k = 1 by omega), if_neg (show ¬ x.k = 2 by omega), if_neg (show ¬ x.k = 3 by omega)]; rfl)
   ·
    have hk : 1 ≤ x.k ∧ x.k ≤ 3 := by omega
    refine sk ?_; refine sq ?_; refine WC.draw rfl (by kernel_rfl) (plan := [.val 0, .val 1, .val 2, .val 3, .val 4, .val 5, .chn 6, .val 7]) (by kernel_rfl) ?_; refine Da rfl V.fa ?_; refine Da rfl V.ld ?_; refine Da rfl V.iA ?_; refine' WD.val rfl rfl rfl rfl (v_load rfl rfl ?hr (part1 (tAg rfl) ?hv)) ?_; case hr => exact qr
    case hv => exact hfk hk
    refine Da rfl V.mv ?_; refine Da rfl V.ldA ?_; refine' WD.call rfl rfl rfl rfl rfl rfl rfl rfl rfl rfl (mi := [wB aw g bn cn bi ci vp vd vl]) (mr := [_, _]) (perm_pick 2 rfl (perm_pick 0 rfl (perm_pick 0 rfl .nil))) trivial (hf hk) ?_; rintro v m' J1 hle ⟨rfl, rfl, rfl⟩; refine Da rfl V.asg ?_; refine WD.nil ?_; refine sq ?_; refine WC.ret ?_; refine' ⟨.inr rfl, rfl, _, [wB aw g bn cn bi ci vp vd vl], .tmp rfl .nil, (by first | exact .cons_cons _ (List.nil_sublist _) | exact .cons _ (.cons _ (.refl _))), ?_⟩; first
      | exact ⟨rfl, rfl, rfl⟩
      | (refine ⟨?_, rfl, rfl⟩
         unfold nodeS; rw [if_neg (show ¬ x.k = 1 by omega), if_neg (show ¬ x.k = 2 by omega), if_neg (show ¬ x.k = 3 by omega)]; rfl)
theorem node_fn {aw : Nat} {g : Gm} {bn bi : Option Addr} {cn ci : Nat} {vp vd vl : Value} {x : Nd} {b1 b2 b3 : Option Addr} {c1 c2 c3 : Nat} (h1 : IntsR J (.slice b1 x.nx.length c1) x.nx) (h2 : IntsR J (.slice b2 x.ws.length c2) x.ws) (h3 : IntsR J (.slice b3 x.py.length c3) x.py) (hp1 : 1 ≤ g.pl) (hp : g.pl ≤ 4) (hi : g.is.length ≤ 200) (q0 : addrEq bi bi = true) :
    Fn (kx Q g0) 48 [.pointer (some ⟨aw, 0, none⟩), ndV x b1 c1 b2 c2 b3 c3] [wB aw g bn cn bi ci vp vd vl] J (fun u m' J' => u = .int .i64 (nodeS g x) ∧ m' = [wB aw g bn cn bi ci vp vd vl] ∧ J = J') := by
  have q1 : addrEq b1 b1 = true := by obtain ⟨e, h⟩ := h1; exact h.addr
  have q2 : addrEq b2 b2 = true := by obtain ⟨e, h⟩ := h2; exact h.addr
  have q3 : addrEq b3 b3 = true := by obtain ⟨e, h⟩ := h3; exact h.addr
  by_cases k1 : x.k = 1
  · exact node0_fn q1 q2 q3 (fun _ => by rw [k1]; rfl) (fun _ => chance_fn h2 k1)
  by_cases k2 : x.k = 2
  · exact node0_fn q1 q2 q3 (fun _ => by rw [k2]; rfl) (fun _ => move_fn k2 hp1 hp hi q0)
  · exact node0_fn q1 q2 q3 (fun _ => by rw [show x.k = 3 by omega]; rfl) (fun _ => end_fn h3 (by omega) hp q1 q2 q3)
end
end Go.Opn

/- A part of the proof of ResumeSaves. -/
import Derived.Test.YtmeojgcibppcmaaDoorRm
import Derived.Test.YtmeojgcibppcmaaDoorK0
import Derived.Test.YtmeojgcibppcmaaDoorOpnW
set_option maxRecDepth 100000
set_option maxHeartbeats 4000000
set_option linter.unusedVariables false
set_option linter.unusedSimpArgs false
namespace Go.Opn
open Go.Cre Go.RowKit Go.Proofs
section
variable {Q : Worlds Tryd.prog} {g0 : Nat} {J : Jm}
/-- a walker as public rows -/
structure WkR (J : Jm) (aw ap ad al : Nat) (g : Gm) (bn : Option Addr) (cn : Nat) (bi : Option Addr) (ci : Nat) (P : List Int) : Prop where
  w : J aw = some (wC g bn cn bi ci (slF ap g.ns.length) (slF ad g.ns.length) (slF al g.ns.length), 96)
  p : J ap = some (P.map (Value.int .i64), 3)
theorem WkR.mono {J J' : Jm} (hle : J.le J') {aw ap ad al : Nat} {g : Gm} {bn bi : Option Addr} {cn ci : Nat} {P : List Int} (h : WkR J aw ap ad al g bn cn bi ci P) : WkR J' aw ap ad al g bn cn bi ci P := ⟨hle _ _ h.w, hle _ _ h.p⟩
theorem above_fn {σ : Type} {step : σ → Nat → Int → σ × Bool} {PY : Nat → σ → Mm → Prop} {aw ap ad al : Nat} {g : Gm} {bn bi : Option Addr} {cn ci : Nat} {P : List Int} {fp : FuncId} {cap : Array Value} {p : Int} {c0 : Nat} {s0 : σ} {m0 : Mm}
    (hg : GmR J g bn cn bi ci) (hw : WkR J aw ap ad al g bn cn bi ci P) (ht : Tree g P) (n2 : g.ns.length ≤ 2000) (hl60 : ∀ x ∈ g.ns, x.nx.length ≤ 60)
    (hmono : ∀ (c a : Nat) s mv, a < c → PY c s mv → PY a s mv)
    (hv : ∀ (c a : Nat) s mv k, a < c → c < g.ns.length → PY c s mv → Fn (kx Q g0) fp (.int .i64 (a : Int) :: .int .i64 k :: cap.toList) mv J (fun u m' J' => J = J' ∧ u = .bool (step s a k).2 ∧ PY a (step s a k).1 m'))
    (hc0 : c0 < g.ns.length) (h0 : PY c0 s0 m0) :
    Fn (kx Q g0) 77 [.pointer (some ⟨aw, 0, none⟩), .int .i64 (c0 : Int), .int .i64 p, .func (.func fp) #[] cap] m0 J (fun u m' J' => J = J' ∧ ∃ c, PY c (visS step s0 (mvL g P p c0)) m') := by
  obtain ⟨_, hgn⟩ := hg.n.at; have qi : addrEq bi bi = true := hg.i.addr; have hww := hw.w; have hwp := hw.p; have hpl := ht.len; have hget : ∀ c : Nat, c < g.ns.length → ∃ a, P[c]? = some a ∧ nth (P.map (Value.int .i64)) (0 + c * 1) = some (.int .i64 a) ∧ -1 ≤ a ∧ a < g.ns.length := fun c hc => by
    by_cases q : c = 0
    · subst q; exact ⟨-1, ht.root, nth_ints 0 ht.root, by omega, by omega⟩
    · obtain ⟨a, h1, h2, _⟩ := ht.up c (by omega) hc
      exact ⟨a, h1, nth_ints c h1, by omega, by omega⟩
  obtain ⟨a0, ha0, hn0, ha1, ha2⟩ := hget c0 hc0; refine Fn.of_body (ftGet Tryd.func77) rfl rfl fun H => ?_; refine rg ?_; refine Sa V.mv ?_; refine Sa V.nc ?_; refine Sa V.fa ?_; refine Sa V.ld ?_; refine Sa V.mv ?_; refine Sa V.ix ?_; refine Sa V.ld ?_; refine Sa V.asg ?_; refine ns ?_; refine WC.block ?_; refine' WC.weak (l' := [(1, .int .i64 ((c0) : Int)), (8, .int .i64 (a0)), (0, _), (2, _), (3, _)]) ⟨?w1, ?w8, rfl, rfl, rfl, trivial⟩ (List.Sublist.refl _) ?_; case w1 => exact nq
  case w8 => exact nq
  refine sq ?_; refine' WC.loopG (α := Nat × Int × σ × Mm) (fun (c, at_, s1, m1) => [(1, .int .i64 (c : Int)), (8, .int .i64 at_)]) (fun (c, at_, s1, m1) => m1) (fun (c, at_, s1, m1) => J) (fun (c, at_, s1, m1) => c < g.ns.length ∧ P[c]? = some at_ ∧ -1 ≤ at_ ∧ at_ < g.ns.length ∧ PY c s1 m1 ∧ visS step s0 (mvL g P p c0) = visS step s1 (mvL g P p c)) (fun (c, at_, s1, m1) => c) ⟨c0, a0, s0, m0⟩ ?hs ?hstep; case hs => exact ⟨hc0, ha0, ha1, ha2, h0, rfl⟩
  case hstep =>
   rintro ⟨c, at_, s1, m1⟩ hinv; try simp only at hinv
   obtain ⟨hc, hat, hat1, hat2, hpy, hvis⟩ := hinv; refine rg ?_; refine Sa V.mv ?_; refine Sa V.vi ?_; refine ns ?_; refine If (fun c18 => ?_) fun c18 => ?_
   ·
    obtain ⟨a, hca, hac, y, hy, hmem⟩ := ht.up c (by by_cases q : c = 0; (subst q; rw [ht.root] at hat; injection hat with hat; omega); omega) hc; rw [hat] at hca; injection hca with hca; subst hca
    obtain ⟨b, hb, hnb, hb1, hb2⟩ := hget a (by omega); obtain ⟨an, off, cells, e', rfl, hJ, hgt⟩ := hgn (by omega); obtain ⟨y', cs, hy', hcs, _, hR⟩ := hgt a (by omega) (by omega); obtain ⟨b1, c1, b2, c2, b3, c3, rfl, hx1, hx2, hx3⟩ := hR; rw [Int.toNat_natCast, hy] at hy'; injection hy' with hy'; subst hy'
    have h60 := hl60 y (List.mem_of_getElem? hy); refine sk ?_; refine sq ?_; refine WC.block ?_; refine rg ?_; refine Sa V.mv ?_; refine Sa V.nc ?_; refine Sa V.fa ?_; refine Sa V.fa ?_; refine Sa V.ld ?_; refine Sa V.mv ?_; refine Sa V.ix ?_; refine Sa V.ldA ?_; refine' W.step rfl (.of (x_alloc rfl rfl rfl (ze40 Q g0) rfl rfl rfl fun a9 => ?_)); refine Ss ?_; refine nr ?_; refine Sa V.fa ?_; refine Sa V.ld ?_; refine Sa V.vi ?_; refine Sa V.mv ?_; refine Wp 38 (fun gr4_3 => ?_) fun gr4_3 => ?_
    ·
     refine Sb V.fa ?_; refine Sb V.ld ?_; refine Sb V.mv ?_; refine Sb V.vi ?_; refine Sa V.pk ?_; refine Sa V.mv ?_; refine Wp 44 (fun gr4_9 => ?_) fun gr4_9 => ?_
     ·
      refine Sb V.mv ?_; refine Sb V.mv ?_; refine Sb V.fa ?_; refine Sb V.ld ?_; refine Sb V.mv ?_; refine' W.guardY rfl rfl rfl (Exec.call rfl rfl rfl rfl rfl rfl rfl (mi := []) (mr := _) (.refl _) trivial (index_fn (mc := []) (hx1.ri []) (by omega)) ?_); rintro v m' J' hle ⟨rfl, rfl, rfl⟩; rw [List.nil_append]; refine' W.guardY rfl rfl rfl (Exec.call rfl rfl rfl rfl rfl rfl rfl (mi := m1) (mr := [_]) (List.perm_append_singleton _ _) trivial (hv c a s1 m1 _ (by omega) hc hpy) ?_); rintro v m2 J' hle ⟨rfl, rfl, hpy2⟩; refine Sb V.nt ?_; refine Sa V.pk ?_; refine ns ?_; refine If (fun c53 => ?_) fun c53 => ?_
      ·
       refine sq ?_; refine WC.ret ?_; refine' ⟨.inr rfl, rfl, _, _, .nil, (by first | exact List.sublist_append_left _ _ | exact List.Sublist.refl _), ?_⟩; first
         | (have q_ := hpy2
            refine ⟨rfl, a, ?_⟩; rw [hvis, mvL_yes hat (by omega) hy ⟨gr4_3, gr4_9⟩]; show PY _ (if _ = true then _ else _) _; rw [if_neg (by simpa using c53)]; exact hpy2)
         | (refine ⟨rfl, c, ?_⟩
            rw [hvis, mvL_root hat (by omega)]; exact hpy)
      ·
       refine sq ?_; refine WC.skip ?_; refine sq ?_; refine WC.draw rfl (by kernel_rfl) (plan := [.val 0, .val 1, .val 2, .val 3, .val 4, .val 5, .val 6, .val 7, .val 8, .chn 9]) (by kernel_rfl) ?_; refine Da rfl V.mv ?_; refine Da rfl V.mv ?_; refine Da rfl V.nc ?_; refine Da rfl V.fa ?_; refine Da rfl V.ld ?_; refine Da rfl V.mv ?_; refine Da rfl V.ix ?_; refine Da rfl V.ld ?_; refine Da rfl V.asg ?_; refine Db rfl V.asg ?_; refine WD.nil ?_; refine' ⟨⟨a, b, (by first | (have q_ := hpy2; exact (step s1 a (idxS (c : Int) y.nx 0)).1) | exact s1), _⟩, _, ?hinv, ?hmeas, rfl, ⟨?m1, ?m8, rfl, rfl, rfl, trivial⟩, (by first | exact List.sublist_append_left _ _ | exact .cons _ (.refl _)), rfl⟩; case m1 => exact nq
       case m8 => exact nq
       case hmeas => exact om
       case hinv => first | (have q_ := hpy2; exact ⟨by omega, hb, hb1, hb2, hpy2, by rw [hvis, mvL_yes hat (by omega) hy ⟨gr4_3, gr4_9⟩]; show (if _ = true then _ else _) = _; rw [if_pos (by simpa using c53)]⟩) | (have q_ := gr4_9; exact ⟨by omega, hb, hb1, hb2, hmono c a _ _ (by omega) hpy, by rw [hvis, mvL_no hat (by omega) hy (fun q => gr4_9 q.2)]⟩) | exact ⟨by omega, hb, hb1, hb2, hmono c a _ _ (by omega) hpy, by rw [hvis, mvL_no hat (by omega) hy (fun q => gr4_3 q.1)]⟩
     ·
      refine Sn ?_; refine Sn ?_; refine Sn ?_; refine Sn ?_; refine Sn ?_; refine W.guardN rfl rfl rfl rfl rfl ?_; refine W.guardN rfl rfl rfl rfl rfl ?_; refine Sn ?_; refine Sa V.pk ?_; refine ns ?_; refine WC.condF rfl ?_; refine sk ?_; refine sq ?_; refine WC.draw rfl (by kernel_rfl) (plan := [.val 0, .val 1, .val 2, .val 3, .val 4, .val 5, .val 6, .val 7, .val 8, .chn 9]) (by kernel_rfl) ?_; refine Da rfl V.mv ?_; refine Da rfl V.mv ?_; refine Da rfl V.nc ?_; refine Da rfl V.fa ?_; refine Da rfl V.ld ?_; refine Da rfl V.mv ?_; refine Da rfl V.ix ?_; refine Da rfl V.ld ?_; refine Da rfl V.asg ?_; refine Db rfl V.asg ?_; refine WD.nil ?_; refine' ⟨⟨a, b, (by first | (have q_ := hpy2; exact (step s1 a (idxS (c : Int) y.nx 0)).1) | exact s1), _⟩, _, ?hinv, ?hmeas, rfl, ⟨?m1, ?m8, rfl, rfl, rfl, trivial⟩, (by first | exact List.sublist_append_left _ _ | exact .cons _ (.refl _)), rfl⟩; case m1 => exact nq
      case m8 => exact nq
      case hmeas => exact om
      case hinv => first | (have q_ := hpy2; exact ⟨by omega, hb, hb1, hb2, hpy2, by rw [hvis, mvL_yes hat (by omega) hy ⟨gr4_3, gr4_9⟩]; show (if _ = true then _ else _) = _; rw [if_pos (by simpa using c53)]⟩) | (have q_ := gr4_9; exact ⟨by omega, hb, hb1, hb2, hmono c a _ _ (by omega) hpy, by rw [hvis, mvL_no hat (by omega) hy (fun q => gr4_9 q.2)]⟩) | exact ⟨by omega, hb, hb1, hb2, hmono c a _ _ (by omega) hpy, by rw [hvis, mvL_no hat (by omega) hy (fun q => gr4_3 q.1)]⟩
    ·
     refine Sn ?_; refine Sn ?_; refine Sn ?_; refine Sn ?_; refine Sa V.pk ?_; refine Sa V.mv ?_; refine Sn ?_; refine Sn ?_; refine Sn ?_; refine Sn ?_; refine Sn ?_; refine W.guardN rfl rfl rfl rfl rfl ?_; refine W.guardN rfl rfl rfl rfl rfl ?_; refine Sn ?_; refine Sa V.pk ?_; refine ns ?_; refine WC.condF rfl ?_; refine sk ?_; refine sq ?_; refine WC.draw rfl (by kernel_rfl) (plan := [.val 0, .val 1, .val 2, .val 3, .val 4, .val 5, .val 6, .val 7, .val 8, .chn 9]) (by kernel_rfl) ?_; refine Da rfl V.mv ?_; refine Da rfl V.mv ?_; refine Da rfl V.nc ?_; refine Da rfl V.fa ?_; refine Da rfl V.ld ?_; refine Da rfl V.mv ?_; refine Da rfl V.ix ?_; refine Da rfl V.ld ?_; refine Da rfl V.asg ?_; refine Db rfl V.asg ?_; refine WD.nil ?_; refine' ⟨⟨a, b, (by first | (have q_ := hpy2; exact (step s1 a (idxS (c : Int) y.nx 0)).1) | exact s1), _⟩, _, ?hinv, ?hmeas, rfl, ⟨?m1, ?m8, rfl, rfl, rfl, trivial⟩, (by first | exact List.sublist_append_left _ _ | exact .cons _ (.refl _)), rfl⟩; case m1 => exact nq
     case m8 => exact nq
     case hmeas => exact om
     case hinv => first | (have q_ := hpy2; exact ⟨by omega, hb, hb1, hb2, hpy2, by rw [hvis, mvL_yes hat (by omega) hy ⟨gr4_3, gr4_9⟩]; show (if _ = true then _ else _) = _; rw [if_pos (by simpa using c53)]⟩) | (have q_ := gr4_9; exact ⟨by omega, hb, hb1, hb2, hmono c a _ _ (by omega) hpy, by rw [hvis, mvL_no hat (by omega) hy (fun q => gr4_9 q.2)]⟩) | exact ⟨by omega, hb, hb1, hb2, hmono c a _ _ (by omega) hpy, by rw [hvis, mvL_no hat (by omega) hy (fun q => gr4_3 q.1)]⟩
   ·
    refine sq ?_; refine WC.exit ?_; refine' ⟨.inl rfl, rfl, _, _, .nil, (by first | exact List.sublist_append_left _ _ | exact List.Sublist.refl _), ?_⟩; first
      | (have q_ := hpy2
         refine ⟨rfl, a, ?_⟩; rw [hvis, mvL_yes hat (by omega) hy ⟨gr4_3, gr4_9⟩]; show PY _ (if _ = true then _ else _) _; rw [if_neg (by simpa using c53)]; exact hpy2)
      | (refine ⟨rfl, c, ?_⟩
         rw [hvis, mvL_root hat (by omega)]; exact hpy)
end
/-- cells of pairs -/
def prC (s : List (Int × Int)) : List Value := s.flatMap fun x => [.int .i64 x.1, .int .i64 x.2]
theorem prC_len (s : List (Int × Int)) : (prC s).length = s.length * 2 := by
  unfold prC; induction s with
  | nil => rfl
  | cons x s ih => rw [List.flatMap_cons, List.length_append, ih, List.length_cons]; simp; omega
theorem prC_drop : ∀ {s : List (Int × Int)} {i : Nat}, (prC s).drop (i * 2) = prC (s.drop i) := by
  intro s; induction s with
  | nil => intro i; simp [prC]
  | cons x s ih =>
    intro i; cases i with
    | zero => rfl
    | succ i =>
      rw [show (i + 1) * 2 = (i * 2) + 1 + 1 by omega]; show ((.int .i64 x.1 : Value) :: (.int .i64 x.2) :: prC s).drop (i * 2 + 1 + 1) = prC (s.drop i); rw [List.drop_succ_cons, List.drop_succ_cons, ih]
theorem prC_take : ∀ {s : List (Int × Int)} {i : Nat}, (prC s).take (i * 2) = prC (s.take i) := by
  intro s; induction s with
  | nil => intro i; simp [prC]
  | cons x s ih =>
    intro i; cases i with
    | zero => simp [prC]
    | succ i =>
      rw [show (i + 1) * 2 = (i * 2) + 1 + 1 by omega]; show ((.int .i64 x.1 : Value) :: (.int .i64 x.2) :: prC s).take (i * 2 + 1 + 1) = _; rw [List.take_succ_cons, List.take_succ_cons, ih]; rfl
theorem prC_app (a b : List (Int × Int)) : prC (a ++ b) = prC a ++ prC b := by unfold prC; rw [List.flatMap_append]
theorem prC_one (s : List (Int × Int)) : (prC s).all oneCell = true := by
  rw [List.all_eq_true]; intro v hv; unfold prC at hv; obtain ⟨x, _, h⟩ := List.mem_flatMap.1 hv; rcases List.mem_cons.1 h with q | q
  · subst q; rfl
  · simp at q; subst q; rfl
theorem prC_at {s : List (Int × Int)} {i off : Nat} {x : Int × Int} (h : s[i]? = some x) (ho : off = i * 2 := by omega) : takeN 2 (dropN off (prC s)) = some [.int .i64 x.1, .int .i64 x.2] := by
  subst ho; have hi := (List.getElem?_eq_some_iff.1 h).1; rw [dropN_eq, prC_drop, List.drop_eq_getElem_cons hi]; have : s[i] = x := by rw [List.getElem?_eq_getElem hi] at h; injection h
  rw [this]; rfl
theorem prC_set {s : List (Int × Int)} {i off : Nat} {x : Int × Int} (h : i < s.length) (ho : off = i * 2 := by omega) : splice off (prC s) [.int .i64 x.1, .int .i64 x.2] = some (prC (s.set i x)) := by
  subst ho; rw [splice_ok _ _ _ (by rw [prC_len]; simp; omega), prC_take, show i * 2 + [(.int .i64 x.1 : Value), .int .i64 x.2].length = (i + 1) * 2 by simp; omega, prC_drop, List.set_eq_take_append_cons_drop, if_pos h, prC_app]; show _ = some (prC (s.take i) ++ ([.int .i64 x.1, .int .i64 x.2] ++ prC (s.drop (i + 1)))); rw [List.append_assoc]
theorem Acc.zform {e : TypeId} {sz k : Nat} {v : Value} {cells : List Value} {mo : Mm} (h : Acc e sz v k cells mo) (hz : z0 mo) (hn : nR mo) : (∃ b, v = .slice b 0 0 ∧ k = 0 ∧ cells = [] ∧ mo = []) ∨ ∃ a rest, v = .slice (some ⟨a, 0, none⟩) k openCap ∧ mo = [(a, .opn cells e rest 0)] ∧ cells.length = k * sz := by
  cases h with
  | nil => exact .inl ⟨_, rfl, rfl, rfl, rfl⟩
  | emp a => exact .inl ⟨_, rfl, rfl, rfl, rfl⟩
  | opn h1 h2 =>
    have := hz _ _ _ _ _ (.head _); subst this; exact .inr ⟨_, _, rfl, rfl, h1⟩
  | cap => exact absurd (.head _) (hn _ _ _)
section
variable {Q : Worlds Tryd.prog} {g0 : Nat} {J : Jm}
theorem way1_fn {aw ap ad al : Nat} {g : Gm} {bn bi : Option Addr} {cn ci : Nat} {P : List Int} {a7 a3 : Nat} {s : List (Int × Int)} {v : Value} {mo : Mm} {a : Nat} {k : Int}
    (hg : GmR J g bn cn bi ci) (hw : WkR J aw ap ad al g bn cn bi ci P) (n2 : g.ns.length ≤ 2000) (ha : a < g.ns.length) (hs : s.length ≤ 2000) (hacc : Acc 128 2 v s.length (prC s) mo) (hz : z0 mo) (hn : nR mo) :
    Fn (kx Q g0) 88 [.int .i64 (a : Int), .int .i64 k, .pointer (some ⟨a7, 0, none⟩), .pointer (some ⟨a3, 0, none⟩)] ((a7, .row [v] 124) :: (a3, .row [.pointer (some ⟨aw, 0, none⟩)] 73) :: mo) J (fun u m' J' => J = J' ∧ u = .bool true ∧ ∃ v' mo', m' = (a7, .row [v'] 124) :: (a3, .row [.pointer (some ⟨aw, 0, none⟩)] 73) :: mo' ∧ Acc 128 2 v' (s.length + 1) (prC (s ++ [(infOf g a, k)])) mo' ∧ z0 mo' ∧ nR mo') := by
  obtain ⟨_, hgn⟩ := hg.n.at; have qi : addrEq bi bi = true := hg.i.addr; have qn : addrEq bn bn = true := hg.n.addr; have hww := hw.w; obtain ⟨an, off, cells, e', rfl, hJ, hgt⟩ := hgn (by omega); obtain ⟨y, cs, hy, hcs, hks, hR⟩ := hgt a (by omega) (by omega); obtain ⟨b1, c1, b2, c2, b3, c3, rfl, hx1, hx2, hx3⟩ := hR; have hk2 := hks 2 _ (by decide) rfl; rw [Int.toNat_natCast] at hy; have hinf : infOf g a = y.i := by unfold infOf; rw [hy]
  obtain ⟨bv, cv, rfl⟩ := hacc.form; have qv := hacc.addr; refine Fn.of_body (ftGet Tryd.func88) rfl rfl fun H => ?_; refine rg ?_; refine Sa V.asg ?_; refine ns ?_; refine WC.draw rfl (by kernel_rfl) (plan := [.val 0, .val 1, .val 2, .val 3, .val 4, .val 5, .val 6, .val 7, .val 8, .val 9, .val 10, .val 11, .alc 12, .chk [11, 10, 9, 8, 7, 6, 5, 4, 3, 2, 1, 0], .chn 13, .chn 14]) (by kernel_rfl) ?_; refine Da rfl V.ld ?_; refine Da rfl V.ld ?_; refine Da rfl V.nc ?_; refine Da rfl V.fa ?_; refine Da rfl V.fa ?_; refine Da rfl V.ld ?_; refine Da rfl V.mv ?_; refine Da rfl V.ix ?_; refine Da rfl V.fa ?_; refine Da rfl V.ld ?_; refine Da rfl V.mv ?_; refine Da rfl V.bd ?_; refine WD.buildSlice rfl rfl rfl rfl rfl rfl (sb124 Q g0) rfl rfl rfl fun a19 => ?_; refine WD.chk ck ?_; refine' WD.chnX rfl rfl (x_accPZ rfl rfl rfl rfl rfl rfl (sb124 Q g0) (un124 Q g0) (fun i q => by cases q) ?hacc ?hm ?hx ?hnl ?hne ?hl fun w20 mo20 hacc20 hz20 => ?_); case hacc => assumption
  case hm => exact List.perm_append_comm (l₁ := [_, _, _])
  case hx => exact qx
  case hnl => first | rfl | (simp; done) | (simp; omega)
  case hne => first | rfl | exact ints_one _
  case hl => exact om
  obtain ⟨b20, c20, rfl⟩ := hacc20.form; refine Ds rfl ?_; refine WD.nil ?_; refine WC.permM (List.perm_append_comm (l₁ := [_, _, _])) ?_; refine rg ?_; refine Sa V.asg ?_; refine ns ?_; refine WC.ret ?_; refine' ⟨.inr rfl, rfl, _, _, .tmp rfl .nil, .cons _ (List.Sublist.refl _), ⟨rfl, rfl, _, mo20, rfl, by rw [hinf, prC_app]; exact hacc20, hz20.1 hz, hz20.2 hn⟩⟩
def revAt (s : List (Int × Int)) (i : Nat) (cur : List (Int × Int)) : Prop := cur.length = s.length ∧ ∀ j, j < s.length → cur[j]? = if j < i ∨ s.length ≤ j + i then s[s.length - 1 - j]? else s[j]?
theorem revAt_next {s cur : List (Int × Int)} {i : Nat} {x y : Int × Int} (h : revAt s i cur) (hi : i + i + 1 < s.length) (hx : cur[i]? = some x) (hy : cur[s.length - 1 - i]? = some y) : revAt s (i + 1) ((cur.set i y).set (s.length - 1 - i) x) := by
  obtain ⟨h1, h2⟩ := h; refine ⟨by rw [List.length_set, List.length_set]; exact h1, fun j hj => ?_⟩; rw [h2 i (by omega), if_neg (by omega)] at hx; rw [h2 _ (by omega), if_neg (by omega)] at hy; rw [List.getElem?_set, List.getElem?_set, List.length_set, h1]; by_cases q1 : s.length - 1 - i = j
  · subst q1
    rw [if_pos rfl, if_pos (by omega), if_pos (by omega), show s.length - 1 - (s.length - 1 - i) = i by omega, hx]
  · rw [if_neg q1]
    by_cases q2 : i = j
    · subst q2
      rw [if_pos rfl, if_pos (by omega), if_pos (by omega), hy]
    · rw [if_neg q2, h2 j hj]
      by_cases q3 : j < i ∨ s.length ≤ j + i
      · rw [if_pos q3, if_pos (by omega)]
      · rw [if_neg q3, if_neg (by omega)]
theorem revAt_end {s cur : List (Int × Int)} {i : Nat} (h : revAt s i cur) (hi : s.length ≤ i + i + 1) : cur = s.reverse := by
  obtain ⟨h1, h2⟩ := h; apply List.ext_getElem?
  intro j; by_cases hj : j < s.length
  · rw [h2 j hj, List.getElem?_reverse hj]
    split
    · rfl
    · congr 1; omega
  · rw [List.getElem?_eq_none (by omega), List.getElem?_eq_none (by rw [List.length_reverse]; omega)]
theorem reverse_fn {s : List (Int × Int)} {v : Value} {mo : Mm} (hs : s.length ≤ 2000) (hacc : Acc 128 2 v s.length (prC s) mo) (hz : z0 mo) (hn : nR mo) :
    Fn (kx Q g0) 89 [v] mo J (fun u m' J' => J = J' ∧ Acc 128 2 v s.length (prC s.reverse) m') := by
  have hacc' := hacc; rcases hacc.zform hz hn with ⟨b, rfl, h0, _, rfl⟩ | ⟨a, rest, rfl, rfl, hlen⟩
  · obtain rfl : s = [] := List.length_eq_zero_iff.1 h0
    refine Fn.of_body (ftGet Tryd.func89) rfl rfl fun H => ?_; refine rg ?_; refine Sa V.mv ?_; refine Sa V.ls ?_; refine Sa V.va ?_; refine Sa V.asg ?_; refine Sa V.asg ?_; refine ns ?_; refine WC.block ?_; refine' WC.weak (l' := [(2, .int .i64 0), (3, .int .i64 (-1)), (0, _)]) ⟨?w2, ?w3, rfl, trivial⟩ (List.Sublist.refl _) ?_; case w2 => exact nq
    case w3 => exact nq
    refine sq ?_; refine' WC.loopG (α := Nat) (fun (i : Nat) => [(2, .int .i64 0), (3, .int .i64 (-1))]) (fun (i : Nat) => []) (fun (i : Nat) => J) (fun (i : Nat) => i = 0) (fun (i : Nat) => i) (0) ?hs ?hstep; case hs => rfl
    case hstep =>
     rintro i hinv; try simp only at hinv
     refine rg ?_; refine Sa V.mv ?_; refine Sa V.mv ?_; refine Sa V.vi ?_; refine ns ?_; refine If (fun c9 => ?_) fun c9 => ?_
     ·
      exfalso; omega
     ·
      refine sq ?_; refine WC.exit ?_; refine' ⟨.inl rfl, rfl, _, _, .nil, List.Sublist.refl _, ⟨rfl, hacc⟩⟩
  · refine Fn.of_body (ftGet Tryd.func89) rfl rfl fun H => ?_
    refine rg ?_; refine Sa V.mv ?_; refine Sa V.ls ?_; refine Sa V.va ?_; refine Sa V.asg ?_; refine Sa V.asg ?_; refine ns ?_; refine WC.block ?_; refine' WC.weak (l' := [(2, .int .i64 ((0) : Int)), (3, .int .i64 ((s.length : Int) - 1 - (0))), (0, _)]) ⟨?w2, ?w3, rfl, trivial⟩ (List.Sublist.refl _) ?_; case w2 => exact nq
    case w3 => exact nq
    refine sq ?_; refine' WC.loopG (α := Nat × (List (Int × Int)) × (List Nat)) (fun (i, cur, rs) => [(2, .int .i64 (i : Int)), (3, .int .i64 ((s.length : Int) - 1 - i))]) (fun (i, cur, rs) => [(a, .opn (prC cur) 128 rs 0)]) (fun (i, cur, rs) => J) (fun (i, cur, rs) => i ≤ s.length ∧ revAt s i cur) (fun (i, cur, rs) => s.length - i) ⟨0, s, rest⟩ ?hs ?hstep; case hs => exact ⟨Nat.zero_le _, rfl, fun j hj => by rw [if_neg (by omega)]⟩
    case hstep =>
     rintro ⟨i, cur, rs⟩ hinv; try simp only at hinv
     obtain ⟨hi, hrv⟩ := hinv; refine rg ?_; refine Sa V.mv ?_; refine Sa V.mv ?_; refine Sa V.vi ?_; refine ns ?_; refine If (fun c9 => ?_) fun c9 => ?_
     ·
      have hcl := hrv.1; have hx := List.getElem?_eq_getElem (l := cur) (i := i) (by omega); have hy := List.getElem?_eq_getElem (l := cur) (i := s.length - 1 - i) (by omega); generalize cur[i]'(by omega) = x at hx; generalize cur[s.length - 1 - i]'(by omega) = y at hy; refine sk ?_; refine sq ?_; refine WC.block ?_; refine sq ?_; refine WC.draw rfl (by kernel_rfl) (plan := [.val 0, .val 1, .val 2, .val 3, .val 4, .val 5, .val 6, .val 7, .val 8, .val 9, .val 10, .val 11, .val 12, .chn 13, .val 14, .chk [3, 2], .chn 15]) (by kernel_rfl) ?_; refine Da rfl V.mv ?_; refine Da rfl V.mv ?_; refine Da rfl V.mv ?_; refine Da rfl V.mv ?_; refine Da rfl V.mv ?_; refine Da rfl V.mv ?_; refine Da rfl V.ix ?_; refine' WD.val rfl rfl rfl rfl (v_load rfl rfl ?hr (partA (tAg rfl) ?hv)) ?_; case hr => exact qr
      case hv => exact prC_at hy
      refine Da rfl V.mv ?_; refine Da rfl V.mv ?_; refine Da rfl V.ix ?_; refine' WD.val rfl rfl rfl rfl (v_load rfl rfl ?hr (partA (tAg rfl) ?hv)) ?_; case hr => exact qr
      case hv => exact prC_at hx
      refine Da rfl V.ix ?_; refine' WD.chnX rfl rfl (x_storeO rfl rfl rfl rfl (tSz rfl) rfl rfl rfl ?h1 ?hs ?hz ?hp ?_); case hp => exact .refl _
      case hs => exact prC_set (i := i) (by omega)
      case h1 => first | rfl | assumption
      case hz => exact Nat.zero_le _
      refine Da rfl V.ix ?_; refine WD.chk ck ?_; refine' WD.chnX rfl rfl (x_storeO rfl rfl rfl rfl (tSz rfl) rfl rfl rfl ?h1 ?hs ?hz ?hp ?_); case hp => exact .refl _
      case hs => exact prC_set (i := s.length - 1 - i) (by rw [List.length_set]; omega)
      case h1 => first | rfl | assumption
      case hz => exact Nat.zero_le _
      refine WD.nil ?_; refine rg ?_; refine Sa V.mv ?_; refine Sa V.va ?_; refine Sa V.mv ?_; refine Sa V.va ?_; refine Sa V.asg ?_; refine Sa V.asg ?_; refine Wn ?_; refine' ⟨⟨i + 1, (cur.set i y).set (s.length - 1 - i) x, []⟩, _, ?hinv, ?hmeas, rfl, ⟨?m2, ?m3, rfl, trivial⟩, List.Sublist.refl _, rfl⟩; case m2 => exact nq
      case m3 => exact nq
      case hmeas => exact om
      case hinv => exact ⟨by omega, revAt_next hrv (by omega) hx hy⟩
     ·
      refine sq ?_; refine WC.exit ?_; refine' ⟨.inl rfl, rfl, _, _, .nil, List.Sublist.refl _, ?_⟩; refine ⟨rfl, ?_⟩; rw [← revAt_end hrv (by omega)]; exact .opn (by rw [prC_len, hrv.1]) (Nat.zero_le _)
end
theorem elems_pairs {J : Jm} {e : TypeId} {v : Value} {s : List (Int × Int)} (h : SlC J e 2 v s.length (prC s)) : Elems J e 2 InR v s := by
  refine ⟨prC s, h, fun i x hx => ?_⟩; have hi := (List.getElem?_eq_some_iff.1 hx).1; rw [prC_drop, List.drop_eq_getElem_cons hi]; have : s[i] = x := by rw [List.getElem?_eq_getElem hi] at hx; injection hx
  rw [this]; rfl
theorem visS_way {g : Gm} : ∀ {l : List (Nat × Int)} {s : List (Int × Int)}, visS (fun (s : List (Int × Int)) a k => (s ++ [(infOf g a, k)], true)) s l = s ++ l.map fun x => (infOf g x.1, x.2) := by
  intro l; induction l with
  | nil => intro s; simp [visS]
  | cons x l ih =>
    intro s; show (if true = true then _ else _) = _; rw [if_pos rfl]; show visS _ (s ++ [(infOf g x.1, x.2)]) l = _; rw [ih, List.map_cons, List.append_assoc]; rfl
section
variable {Q : Worlds Tryd.prog} {g0 : Nat} {J : Jm}
theorem way_fn {aw ap ad al : Nat} {g : Gm} {bn bi : Option Addr} {cn ci : Nat} {P : List Int} {c0 : Nat} {p : Int}
    (hg : GmR J g bn cn bi ci) (hw : WkR J aw ap ad al g bn cn bi ci P) (ht : Tree g P) (n2 : g.ns.length ≤ 2000) (hl60 : ∀ x ∈ g.ns, x.nx.length ≤ 60) (hc0 : c0 < g.ns.length) :
    Fn (kx Q g0) 76 [.pointer (some ⟨aw, 0, none⟩), .int .i64 (c0 : Int), .int .i64 p] [] J (fun u m' J' => ∃ b c, u = .slice b (wayS g P p c0).length c ∧ m' = [] ∧ J.le J' ∧ Elems J' 128 2 InR (.slice b (wayS g P p c0).length c) (wayS g P p c0)) := by
  have hwl : (wayL g P p c0).length ≤ 2000 := by
    have := mvL_len (g := g) (P := P) (p := p) c0 c0 (Nat.le_refl _); unfold wayL; rw [List.length_map]; omega
  refine Fn.of_body (ftGet Tryd.func76) rfl rfl fun H => ?_; refine rg ?_; refine bx fun a3 => ?_; refine Sa V.asg ?_; refine nr ?_; refine' W.step rfl (.of (x_alloc rfl rfl rfl (ze124 Q g0) rfl rfl rfl fun a7 => ?_)); refine nr ?_; refine Sa V.ld ?_; refine Sa V.mv ?_; refine Sa V.mv ?_; refine Sa V.fn ?_; refine cl (G := above_fn (σ := List (Int × Int)) (step := fun s a k => (s ++ [(infOf g a, k)], true)) (PY := fun c s mv => ∃ v mo, mv = (a7, .row [v] 124) :: (a3, .row [.pointer (some ⟨aw, 0, none⟩)] 73) :: mo ∧ Acc 128 2 v s.length (prC s) mo ∧ z0 mo ∧ nR mo ∧ s.length + c ≤ 2000) (s0 := []) hg hw ht n2 hl60 (fun c a s mv hlt ⟨v, mo, h1, h2, h3, h4, h5⟩ => ⟨v, mo, h1, h2, h3, h4, by omega⟩) (fun c a s mv k hlt hcn ⟨v, mo, h1, h2, h3, h4, h5⟩ => by subst h1; exact (way1_fn hg hw n2 (by omega) (by omega) h2 h3 h4).perm fun u m' J' ⟨q1, q2, v', mo', q3, q4, q5, q6⟩ => ⟨m', .refl _, q1, q2, v', mo', q3, by simpa using q4, q5, q6, by simp; omega⟩) hc0 ⟨_, [], rfl, .nil, fun _ _ _ _ _ q => (by cases q), fun _ _ _ q => (by cases q), by simp; omega⟩) (h := ?_); rintro v m' J' hle ⟨rfl, c, v2, mo2, rfl, hacc2, hz2, hn2, _⟩; refine Wn ?_; rw [List.append_nil]; rw [visS_way, List.nil_append, show ((mvL g P p c0).map fun x => (infOf g x.1, x.2)) = wayL g P p c0 from rfl] at hacc2; obtain ⟨b2, k2, rfl⟩ := hacc2.form; refine rg ?_; refine Sa V.ld ?_; refine' W.step rfl (Exec.call rfl rfl rfl rfl rfl rfl rfl (mi := mo2) (mr := [_, _]) (List.perm_append_comm (l₂ := [_, _])) trivial (reverse_fn hwl hacc2 hz2 hn2) ?_); rintro v m3 J' hle ⟨rfl, hacc3⟩; refine Wn ?_; rw [show (wayL g P p c0).reverse = wayS g P p c0 from rfl, show (wayL g P p c0).length = (wayS g P p c0).length by rw [wayS, List.length_reverse]] at hacc3; refine hacc3.pubP (.refl _) fun J2 hle2 hsl => ?_; refine rg ?_; refine Sa V.ld ?_; refine Sa V.asg ?_; refine ns ?_
  refine WC.ret ?_; refine Lf ?_; exact ⟨_, _, by rw [show (wayS g P p c0).length = (wayL g P p c0).length by rw [wayS, List.length_reverse]]; rfl, rfl, hle2, elems_pairs hsl⟩
theorem equal2_fn {b1 b2 : Option Addr} {c1 c2 : Nat} {l1 l2 : List (Int × Int)} (h1 : Elems J 128 2 InR (.slice b1 l1.length c1) l1) (h2 : Elems J 128 2 InR (.slice b2 l2.length c2) l2) (hl : l1.length ≤ 1000000) :
    Fn (kx Q g0) 90 [.slice b1 l1.length c1, .slice b2 l2.length c2] [] J (fun u m' J' => u = .bool (decide (l1 = l2)) ∧ m' = [] ∧ J = J') := by
  obtain ⟨_, hat1⟩ := h1.at; obtain ⟨_, hat2⟩ := h2.at; refine Fn.of_body (ftGet Tryd.func90) rfl rfl fun H => ?_; refine rg ?_; refine Sa V.asg ?_; refine nr ?_; refine Sa V.mv ?_; refine Sa V.ls ?_; refine Sa V.mv ?_; refine Sa V.ls ?_; refine Sa V.vi ?_; refine ns ?_; refine If (fun c10 => ?_) fun c10 => ?_
  ·
   refine rg ?_; refine Sa V.asg ?_; refine ns ?_; refine WC.ret ?_; refine Lf ?_; refine ⟨congrArg Value.bool ?_, rfl, rfl⟩; first
     | (have c := hall; symm; rw [decide_eq_true_iff]
        apply List.ext_getElem?
        intro j; by_cases q : j < i
        · exact hall j q
        · rw [List.getElem?_eq_none (by omega), List.getElem?_eq_none (by omega)])
     | (symm; rw [decide_eq_false_iff_not]; intro q; rw [q] at c10; exact c10 rfl)
  ·
   refine sq ?_; refine WC.skip ?_; refine rg ?_; refine Sa V.mv ?_; refine Sa V.ls ?_; refine Sa V.mv ?_; refine ns ?_; refine WC.block ?_; refine' WC.weak (l' := [(13, .int .i64 ((0) : Int)), (0, _), (1, _), (12, _)]) ⟨?w13, rfl, rfl, rfl, trivial⟩ (List.Sublist.refl _) ?_; case w13 => exact nq
   refine sq ?_; refine' WC.loopC (α := Nat) (fun (i : Nat) => [(13, .int .i64 (i : Int))]) (fun (i : Nat) => i ≤ l1.length ∧ ∀ j, j < i → l1[j]? = l2[j]?) (fun (i : Nat) => l1.length - i) (0) ?hs ?hstep; case hs => exact ⟨Nat.zero_le _, fun j hj => by omega⟩
   case hstep =>
    rintro i hinv; try simp only at hinv
    obtain ⟨hi, hall⟩ := hinv; refine rg ?_; refine Sa V.vi ?_; refine ns ?_; refine If (fun c14 => ?_) fun c14 => ?_
    ·
     obtain ⟨a1, o1, cl1, e1, rfl, hJ1, hg1⟩ := hat1 (by omega); obtain ⟨a2, o2, cl2, e2, rfl, hJ2, hg2⟩ := hat2 (by omega); obtain ⟨x, cs, hx, hcx, _, rfl⟩ := hg1 i (by omega) (by omega); obtain ⟨y, cs, hy, hcy, _, rfl⟩ := hg2 i (by omega) (by omega); rw [Int.toNat_natCast] at hx hy; refine sk ?_; refine sq ?_; refine WC.block ?_; refine rg ?_; refine Sa V.mv ?_; refine Sa V.asg ?_; refine ns ?_; refine WC.draw rfl (by kernel_rfl) (plan := [.val 0, .val 1, .val 2, .val 3, .val 4, .val 5, .val 6, .val 7, .val 8]) (by kernel_rfl) ?_; refine Da rfl V.mv ?_; refine Da rfl V.mv ?_; refine Da rfl V.ix ?_; refine Da rfl V.ldA ?_; refine Da rfl V.mv ?_; refine Da rfl V.mv ?_; refine Da rfl V.ix ?_; refine Da rfl V.ldA ?_; refine' WD.val rfl rfl rfl rfl (v_int2 rfl (.inr ⟨rfl, rfl⟩) rfl rfl (by kernel_rfl)) ?_; refine WD.nil ?_; refine sq ?_; refine If (fun c24 => ?_) fun c24 => ?_
     ·
      refine rg ?_; refine Sa V.asg ?_; refine ns ?_; refine WC.ret ?_; refine Lf ?_; refine ⟨congrArg Value.bool ?_, rfl, rfl⟩; first
        | (have c := c24; symm; rw [decide_eq_false_iff_not]; intro q; subst q; rw [hx] at hy; injection hy with hy; subst hy; exact c24 ⟨rfl, rfl⟩)
        | (have c := hall; symm; rw [decide_eq_true_iff]
           apply List.ext_getElem?
           intro j; by_cases q : j < i
           · exact hall j q
           · rw [List.getElem?_eq_none (by omega), List.getElem?_eq_none (by omega)])
        | (symm; rw [decide_eq_false_iff_not]; intro q; rw [q] at c10; exact c10 rfl)
     ·
      refine sq ?_; refine WC.skip ?_; refine rg ?_; refine Sa V.va ?_; refine Sa V.mv ?_; refine Wn ?_; refine' ⟨(i + 1), _, ?hinv, ?hmeas, rfl, ⟨?m13, rfl, rfl, rfl, trivial⟩, List.Sublist.refl _, rfl⟩; case m13 => exact nq
      case hmeas => exact om
      case hinv => refine ⟨by omega, fun j hj => ?_⟩; by_cases q : j < i; (exact hall j q); (obtain rfl : j = i := by omega); (rw [hx, hy]; have c := Classical.not_not.1 c24; exact congrArg some (Prod.ext c.1 c.2))
    ·
     refine sq ?_; refine WC.exit ?_; refine rg ?_; refine Sa V.asg ?_; refine ns ?_; refine WC.ret ?_; refine Lf ?_; refine ⟨congrArg Value.bool ?_, rfl, rfl⟩; first
       | (have c := hall; symm; rw [decide_eq_true_iff]
          apply List.ext_getElem?
          intro j; by_cases q : j < i
          · exact hall j q
          · rw [List.getElem?_eq_none (by omega), List.getElem?_eq_none (by omega)])
       | (symm; rw [decide_eq_false_iff_not]; intro q; rw [q] at c10; exact c10 rfl)
theorem equal_fn {b1 b2 : Option Addr} {c1 c2 : Nat} {l1 l2 : List (Int × Int)} (h1 : Elems J 128 2 InR (.slice b1 l1.length c1) l1) (h2 : Elems J 128 2 InR (.slice b2 l2.length c2) l2) (hl : l1.length ≤ 1000000) :
    Fn (kx Q g0) 79 [.slice b1 l1.length c1, .slice b2 l2.length c2] [] J (fun u m' J' => u = .bool (decide (l1 = l2)) ∧ m' = [] ∧ J = J') := by
  refine Fn.of_body (ftGet Tryd.func79) rfl rfl fun H => ?_; refine rg ?_; refine Sa V.asg ?_; refine nr ?_; refine Sa V.mv ?_; refine Sa V.mv ?_; refine cl (G := equal2_fn h1 h2 hl) (h := ?_); rintro v m' J' hle ⟨rfl, rfl, rfl⟩; refine Sa V.asg ?_; refine ns ?_; refine WC.ret ?_; refine Lf ?_; exact ⟨rfl, rfl, rfl⟩
end
end Go.Opn

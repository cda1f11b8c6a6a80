/- A part of the proof of ResumeSaves. -/
import Derived.Test.YtmeojgcibppcmaaDoorRo
set_option maxRecDepth 100000
set_option maxHeartbeats 4000000
set_option linter.unusedVariables false
set_option linter.unusedSimpArgs false
namespace Go.Opn
open Go.Cre Go.RowKit Go.Proofs
section
variable {Q : Worlds Tryd.prog} {g0 : Nat} {J : Jm}
theorem members_fn {aw ap ad al : Nat} {g : Gm} {bn bi : Option Addr} {cn ci : Nat} {P : List Int} (hg : GmR J g bn cn bi ci) (hw : WkR J aw ap ad al g bn cn bi ci P) (n2 : g.ns.length ≤ 2000) (i2 : g.is.length ≤ 200) (hn : ∀ x ∈ g.ns, nodeS g x = 0) :
    Fn (kx Q g0) 66 [.pointer (some ⟨aw, 0, none⟩)] [] J (fun u m' J' => ∃ b c, u = .slice b (setsS g).length c ∧ m' = [] ∧ J.le J' ∧ Elems J' 38 1 (LsR J') (.slice b (setsS g).length c) (setsS g)) := by
  obtain ⟨_, hgn⟩ := hg.n.at; have qi : addrEq bi bi = true := hg.i.addr; have qn : addrEq bn bn = true := hg.n.addr; have hww := hw.w; refine Fn.of_body (ftGet Tryd.func66) rfl rfl fun H => ?_; refine rg ?_; refine Sa V.asg ?_; refine nr ?_; refine Sa V.mv ?_; refine Sa V.nc ?_; refine Sa V.fa ?_; refine Sa V.fa ?_; refine Sa V.ld ?_; refine Sa V.ls ?_; refine' W.step rfl (.of (x_makeSlice rfl rfl rfl rfl rfl (sb26 Q g0) ?h0 ?h1 ?h2 fun a12 => ?_)); case h0 => exact om
  case h1 => exact om
  case h2 => exact om
  refine Sa V.asg ?_; refine Wn ?_; rw [zero_one, Int.toNat_natCast]; refine rg ?_; refine Sa V.mv ?_; refine Sa V.nc ?_; refine Sa V.fa ?_; refine Sa V.fa ?_; refine Sa V.ld ?_; refine Sa V.ls ?_; refine Sa V.mv ?_; refine ns ?_; refine WC.block ?_; refine' WC.weak (l' := [(19, .int .i64 ((0) : Int)), (3, _), (17, _), (18, _)]) ⟨?w19, rfl, rfl, rfl, trivial⟩ (List.Sublist.refl _) ?_; case w19 => exact nq
  refine sq ?_; refine' WC.loopG (α := Nat × (List Value) × (List Mm) × Mm) (fun (i, vs, mos, fl) => [(19, .int .i64 (i : Int))]) (fun (i, vs, mos, fl) => (a12, .row vs 38) :: (fl ++ [])) (fun (i, vs, mos, fl) => J) (fun (i, vs, mos, fl) => i ≤ g.ns.length ∧ Accs 3 (setsI g i) vs mos ∧ fl = mos.flatten) (fun (i, vs, mos, fl) => g.ns.length - i) ⟨0, List.replicate g.is.length (.slice none 0 0), List.replicate g.is.length [], []⟩ ?hs ?hstep; case hs => exact ⟨Nat.zero_le _, by rw [setsI_zero]; exact Accs.init _, flat_nil.symm⟩
  case hstep =>
   rintro ⟨i, vs, mos, fl⟩ hinv; try simp only at hinv
   obtain ⟨hi, hac, hfl⟩ := hinv; refine rg ?_; refine Sa V.vi ?_; refine ns ?_; refine If (fun c20 => ?_) fun c20 => ?_
   ·
    obtain ⟨a, off, cells, e', rfl, hJ, hget⟩ := hgn (by omega); obtain ⟨x, cs, hx, hcs, _, hR⟩ := hget i (by omega) (by omega); obtain ⟨b1, c1, b2, c2, b3, c3, rfl, hx1, hx2, hx3⟩ := hR; rw [Int.toNat_natCast] at hx; have hx' := hx; have hnx := hn x (List.mem_of_getElem? hx'); refine sk ?_; refine sq ?_; refine WC.block ?_; refine rg ?_; refine Sa V.mv ?_; refine Sa V.ix ?_; refine Sa V.ldA ?_; refine' W.step rfl (.of (x_alloc rfl rfl rfl (ze40 Q g0) rfl rfl rfl fun a5 => ?_)); refine Sa V.asg ?_; refine Ss ?_; refine nr ?_; refine Sa V.fa ?_; refine Sa V.ld ?_; refine Sa V.vi ?_; refine ns ?_; refine If (fun c26 => ?_) fun c26 => ?_
    ·
     have hmv := node_move hnx (by simpa using c26); obtain ⟨v, mo, hvj, hmj, hacc⟩ := hac.get (setsI_get (g := g) (i := i) (j := x.i.toNat) (by omega)); rw [show ((x.i.toNat : Nat) : Int) = x.i by omega] at hacc; obtain ⟨bv, cv, rfl⟩ := hacc.form; have qv := hacc.addr; have hnv : nth vs (0 + x.i.toNat * 1) = some (.slice bv (setS x.i 0 (g.ns.take i)).length cv) := nth_at hvj; have hlen : (setS x.i 0 (g.ns.take i)).length ≤ 2000 := by have := setS_len (j := x.i) (l := g.ns.take i) (n := 0); rw [List.length_take] at this; omega
     have hvl : vs.length = g.is.length := by rw [hac.lv, setsI_len]
     have hml : mos.length = g.is.length := by rw [hac.lm, setsI_len]
     refine sq ?_; refine WC.draw rfl (by kernel_rfl) (plan := [.val 0, .val 1, .val 2, .val 3, .val 4, .val 5, .val 6, .val 7, .val 8, .alc 9, .chk [8, 7, 6, 5, 4, 3, 2, 1, 0], .chn 10, .val 11, .chk [2, 1, 0], .chn 12]) (by kernel_rfl) ?_; refine Da rfl V.mv ?_; refine Da rfl V.fa ?_; refine Da rfl V.ld ?_; refine Da rfl V.mv ?_; refine Da rfl V.fa ?_; refine Da rfl V.ld ?_; refine Da rfl V.ix ?_; refine Da rfl V.ld ?_; refine Da rfl V.mv ?_; refine WD.buildSlice rfl rfl rfl rfl rfl rfl (sb38 Q g0) rfl rfl rfl fun a36 => ?_; refine WD.chk ck ?_; refine' WD.chnX rfl rfl (x_accP rfl rfl rfl rfl rfl rfl (sb38 Q g0) (un38 Q g0) (fun i q => by cases q) ?hacc ?hm ?hx ?hnl ?hne ?hl fun w37 mo37 hacc37 => ?_); case hacc => assumption
     case hm => exact acc_pick3 (by rw [hfl]; exact flat_pick hmj)
     case hx => exact qx
     case hnl => first | rfl | (simp; done) | (simp; omega)
     case hne => first | rfl | exact ints_one _
     case hl => exact om
     obtain ⟨b35, c35, rfl⟩ := hacc37.form; refine Da rfl V.ix ?_; refine WD.chk ck ?_; refine' WD.chnX rfl rfl (x_store rfl rfl rfl rfl (tSz rfl) rfl rfl rfl ?h1 ?hs ?hp ?_); case hp => repeat first | exact .head _ _ _ _ | apply Put.tail | apply Put.app
     case hs => exact splice_at (j := x.i.toNat) (by omega)
     case h1 => first | rfl | assumption
     refine WD.nil ?_; first
       | (have hx_ := hacc37; refine WC.permM (acc_pick3 (flat_set (j := x.i.toNat) (l := mos) (by omega))) ?_)
       | skip
     refine rg ?_; refine Sa V.va ?_; refine Sa V.mv ?_; refine Wn ?_; refine' ⟨⟨i + 1, vs.set x.i.toNat _, mos.set x.i.toNat mo37, (mos.set x.i.toNat mo37).flatten⟩, _, ?hinv, ?hmeas, rfl, ⟨?m19, rfl, rfl, rfl, trivial⟩, .cons _ (.cons _ (.refl _)), rfl⟩; case m19 => exact nq
     case hmeas => exact om
     case hinv => refine ⟨by omega, ?_, rfl⟩; rw [setsI_yes hx' (by simpa using c26) hmv.1 hmv.2.1]; exact hac.set (by simpa using hacc37)
    ·
     refine sq ?_; refine WC.skip ?_; first
       | (have hx_ := hacc37; refine WC.permM (acc_pick3 (flat_set (j := x.i.toNat) (l := mos) (by omega))) ?_)
       | skip
     refine rg ?_; refine Sa V.va ?_; refine Sa V.mv ?_; refine Wn ?_; refine' ⟨⟨i + 1, vs, mos, fl⟩, _, ?hinv, ?hmeas, rfl, ⟨?m19, rfl, rfl, rfl, trivial⟩, .cons _ (.refl _), rfl⟩; case m19 => exact nq
     case hmeas => exact om
     case hinv => refine ⟨by omega, by rw [setsI_no hx' (by simpa using c26)]; exact hac, hfl⟩
   ·
    refine sq ?_; refine WC.exit ?_; have hi' : i = g.ns.length := by omega
    rw [hi', setsI_all] at hac; refine WC.pubAccs hac (m0 := (a12, .row vs 38) :: []) (by rw [hfl]; exact List.perm_middle.symm) fun J2 hle2 hall => ?_; refine WC.publish rfl fun hle3 => ?_; have hel := elems_lists (Jm.add_at J2 a12 (vs, 38)) hac.lv (by rw [setsS_len]; unfold openCap; omega) fun j s v h1 h2 => (hall j s v h1 h2).mono hle3; refine rg ?_; refine Sa V.mv ?_; refine Sa V.asg ?_; refine ns ?_; refine WC.ret ?_; refine Lf ?_; exact ⟨some ⟨a12, 0, none⟩, (setsS g).length, by rw [setsS_len]; rfl, rfl, hle2.trans hle3, hel⟩
theorem perfect1_fn {a9 : Nat} {b : Bool} {k x y z : Int} :
    Fn (kx Q g0) 65 [.agg #[.int .i64 k, .int .i64 x, .int .i64 y, .int .i64 z], .pointer (some ⟨a9, 0, none⟩)] [(a9, .row [.bool b] 4)] J (fun u m' J' => u = .bool (decide (k ≠ 2)) ∧ m' = [(a9, .row [.bool (decide (k ≠ 2))] 4)] ∧ J = J') := by
  refine Fn.of_body (ftGet Tryd.func65) rfl rfl fun H => ?_; refine rg ?_; refine bx fun a2 => ?_; refine Sa V.asg ?_; refine nr ?_; refine Sa V.fa ?_; refine Sa V.ld ?_; refine Sa V.vi ?_; refine Ss ?_; refine nr ?_; refine Sa V.ld ?_; refine Sa V.asg ?_; refine ns ?_; refine WC.ret ?_; refine' ⟨.inr rfl, rfl, _, _, .tmp rfl .nil, .cons _ (.refl _), ⟨rfl, rfl, rfl⟩⟩
theorem seek1_fn {aw ap ad al : Nat} {g : Gm} {bn bi : Option Addr} {cn ci : Nat} {P : List Int} {a11 a4 a3 : Nat} {d info k : Int} {fv : Value} {a : Nat}
    (hg : GmR J g bn cn bi ci) (hw : WkR J aw ap ad al g bn cn bi ci P) (n2 : g.ns.length ≤ 2000) (ha : a < g.ns.length) (hv : oneCell fv = true) :
    Fn (kx Q g0) 78 [.int .i64 (a : Int), .int .i64 k, .pointer (some ⟨a3, 0, none⟩), .pointer (some ⟨a4, 0, none⟩), .pointer (some ⟨a11, 0, none⟩)] [(a11, .row [.int .i64 d] 3), (a4, .row [.int .i64 info] 3), (a3, .row [.pointer (some ⟨aw, 0, none⟩), fv] 117)] J
      (fun u m' J' => J = J' ∧ u = .bool (decide ((if infOf g a = info then (a : Int) else d) < 0)) ∧ m' = [(a11, .row [.int .i64 (if infOf g a = info then (a : Int) else d)] 3), (a4, .row [.int .i64 info] 3), (a3, .row [.pointer (some ⟨aw, 0, none⟩), fv] 117)]) := by
  obtain ⟨_, hgn⟩ := hg.n.at; have qi : addrEq bi bi = true := hg.i.addr; have qn : addrEq bn bn = true := hg.n.addr; have hww := hw.w; obtain ⟨an, off, cells, e', rfl, hJ, hgt⟩ := hgn (by omega); obtain ⟨y, cs, hy, hcs, hks, hR⟩ := hgt a (by omega) (by omega); obtain ⟨b1, c1, b2, c2, b3, c3, rfl, hx1, hx2, hx3⟩ := hR; have hk2 := hks 2 _ (by decide) rfl; rw [Int.toNat_natCast] at hy; have hinf : infOf g a = y.i := by unfold infOf; rw [hy]
  refine Fn.of_body (ftGet Tryd.func78) rfl rfl fun H => ?_; refine rg ?_; refine Sa V.asg ?_; refine ns ?_; refine WC.draw rfl (by kernel_rfl) (plan := [.val 0, .val 1, .val 2, .val 3, .val 4, .val 5, .val 6, .val 7, .val 8, .val 9, .val 10, .val 11]) (by kernel_rfl) ?_; refine Da rfl V.fa ?_; refine Da rfl V.ld ?_; refine Da rfl V.nc ?_; refine Da rfl V.fa ?_; refine Da rfl V.fa ?_; refine Da rfl V.ld ?_; refine Da rfl V.mv ?_; refine Da rfl V.ix ?_; refine Da rfl V.fa ?_; refine Da rfl V.ld ?_; refine Da rfl V.ld ?_; refine Da rfl V.vi ?_; refine WD.nil ?_; refine sq ?_; refine If (fun c19 => ?_) fun c19 => ?_
  ·
   refine rg ?_; refine Sa V.mv ?_; refine Ss ?_; refine nr ?_; refine Sa V.ld ?_; refine Sa V.vi ?_; refine Sa V.asg ?_; refine ns ?_; refine WC.ret ?_; refine' ⟨.inr rfl, rfl, _, _, .tmp rfl .nil, List.Sublist.refl _, ?_⟩; rw [hinf]; first
     | (have c := c19; rw [if_pos c19]; exact ⟨rfl, rfl, rfl⟩)
     | (rw [if_neg c19]; exact ⟨rfl, rfl, rfl⟩)
  ·
   refine sq ?_; refine WC.skip ?_; refine rg ?_; refine Sa V.ld ?_; refine Sa V.vi ?_; refine Sa V.asg ?_; refine ns ?_; refine WC.ret ?_; refine' ⟨.inr rfl, rfl, _, _, .tmp rfl .nil, List.Sublist.refl _, ?_⟩; rw [hinf]; first
     | (have c := c19; rw [if_pos c19]; exact ⟨rfl, rfl, rfl⟩)
     | (rw [if_neg c19]; exact ⟨rfl, rfl, rfl⟩)
end
theorem RowAt.mono {m : Mm} {J J' : Jm} (hle : J.le J') {a : Nat} {cells : List Value} (h : RowAt m J a cells) : RowAt m J' a cells := by
  cases h with
  | own h => exact .own h
  | opn h => exact .opn h
  | pub h => exact .pub (hle _ _ h)
theorem setS_in {g : Gm} {i : Int} {x : Int} (h : x ∈ setS i 0 g.ns) : ∃ c : Nat, x = (c : Int) ∧ ∃ y, g.ns[c]? = some y ∧ y.k = 2 ∧ y.i = i := by
  have key : ∀ (l : List Nd) (n : Nat), x ∈ setS i n l → ∃ c : Nat, x = ((n + c : Nat) : Int) ∧ ∃ y, l[c]? = some y ∧ y.k = 2 ∧ y.i = i := by
    intro l; induction l with
    | nil => intro n h; cases h
    | cons y r ih =>
      intro n h; unfold setS at h; have tl : x ∈ setS i (n + 1) r → ∃ c : Nat, x = ((n + c : Nat) : Int) ∧ ∃ z, (y :: r)[c]? = some z ∧ z.k = 2 ∧ z.i = i := fun q => by
        obtain ⟨c, h1, z, h2, h3⟩ := ih (n + 1) q; exact ⟨c + 1, by rw [h1]; omega, z, by rw [List.getElem?_cons_succ]; exact h2, h3⟩
      split at h
      · rename_i hy
        rcases List.mem_cons.1 h with q | q
        · exact ⟨0, by rw [q]; rfl, y, rfl, hy⟩
        · exact tl q
      · exact tl h
  obtain ⟨c, h1, h2⟩ := key g.ns 0 h; exact ⟨c, by rw [h1]; omega, h2⟩
section
variable {Q : Worlds Tryd.prog} {g0 : Nat} {J : Jm}
/-- all ways of a set are equal -/
def sameW (g : Gm) (P : List Int) (p : Int) (s : List Int) : Prop := ∀ x ∈ s, wayS g P p x.toNat = wayS g P p (hdS s).toNat
open Classical in
theorem seek_fn {aw ap ad al : Nat} {g : Gm} {bn bi : Option Addr} {cn ci : Nat} {P : List Int} {a9 : Nat} {info : Nat} {y : Int × Int} {b : Option Addr} {c : Nat} {s : List Int}
    (hg : GmR J g bn cn bi ci) (hw : WkR J aw ap ad al g bn cn bi ci P) (ht : Tree g P) (n2 : g.ns.length ≤ 2000) (hl60 : ∀ x ∈ g.ns, x.nx.length ≤ 60) (hy : g.is[info]? = some y) (hs : IntsR J (.slice b s.length c) s) (hs2 : s.length ≤ 2000) (hs0 : s ≠ []) (hin : ∀ x ∈ s, ∃ c : Nat, x = (c : Int) ∧ c < g.ns.length) :
    Fn (kx Q g0) 67 [.agg #[.pointer (some ⟨aw, 0, none⟩), .func (.func 65) #[] #[.pointer (some ⟨a9, 0, none⟩)]], .int .i64 (info : Int), .slice b s.length c] [(a9, .row [.bool true] 4)] J (fun u m' J' => u = .bool (decide (sameW g P y.1 s)) ∧ m' = [(a9, .row [.bool (decide (sameW g P y.1 s))] 4)] ∧ J.le J') := by
  obtain ⟨_, hgi⟩ := hg.i.at; have qi : addrEq bi bi = true := hg.i.addr; have qn : addrEq bn bn = true := hg.n.addr; have qs : addrEq b b = true := by obtain ⟨e, h⟩ := hs; exact h.addr
  have hww := hw.w; have hil := (List.getElem?_eq_some_iff.1 hy).1; obtain ⟨ai, offi, cli, ei, rfl, hJi, hgti⟩ := hgi (by omega); obtain ⟨y', csi, hy', hcsi, hksi, rfl⟩ := hgti info (by omega) (by omega); rw [Int.toNat_natCast, hy] at hy'; injection hy' with hy'; subst hy'
  have hk0 := hksi 0 _ (by decide) rfl; have hsl : 0 < s.length := List.length_pos_iff.2 hs0; have hri := hs.ri []; obtain ⟨asl, offs, cls, rfl, hros, hgts⟩ := hri hsl; obtain ⟨x0, hx0, hnx0⟩ := hgts 0 (by omega) (by omega); have hx0' : s[0]? = some x0 := hx0; have hhd := hdS_get hx0'; obtain ⟨c0, hc0, hc0n⟩ := hin x0 (List.mem_of_getElem? hx0'); subst hc0; refine Fn.of_body (ftGet Tryd.func67) rfl rfl fun H => ?_; refine rg ?_; refine bx fun a3 => ?_; refine bx fun a4 => ?_; refine Sa V.asg ?_; refine ns ?_; refine WC.draw rfl (by kernel_rfl) (plan := [.val 0, .val 1, .val 2, .val 3, .val 4, .val 5, .val 6, .val 7, .val 8, .val 9, .val 10]) (by kernel_rfl) ?_; refine Da rfl V.fa ?_; refine Da rfl V.ld ?_; refine Da rfl V.nc ?_; refine Da rfl V.fa ?_; refine Da rfl V.fa ?_; refine Da rfl V.ld ?_; refine Da rfl V.ld ?_; refine Da rfl V.ix ?_; refine Da rfl V.fa ?_; refine Da rfl V.ld ?_; refine Da rfl V.asg ?_; refine WD.nil ?_; refine sq ?_; refine WC.draw rfl (by kernel_rfl) (plan := [.val 0, .val 1, .val 2, .val 3, .val 4, .val 5, .chn 6, .val 7]) (by kernel_rfl) ?_; refine Da rfl V.fa ?_; refine Da rfl V.ld ?_; refine Da rfl V.mv ?_; refine Da rfl V.ix ?_; refine' WD.val rfl rfl rfl rfl (v_load rfl rfl ?hr (part1 (tAg rfl) ?hv)) ?_; case hr => exact hros.sub (fun _ q => by cases q)
  case hv => first | rfl | assumption
  refine Da rfl V.mv ?_; refine' WD.call rfl rfl rfl rfl rfl rfl rfl rfl rfl rfl (mi := []) (mr := _) (.refl _) trivial (way_fn hg hw ht n2 hl60 hc0n) ?_; rintro v m' J1 hle1 ⟨bf, cf, rfl, rfl, _, hel1⟩; rw [List.nil_append]; refine Da rfl V.asg ?_; refine WD.nil ?_; have hwl := mvL_len (g := g) (P := P) (p := y.1) c0 c0 (Nat.le_refl _); have hwl0 : (wayS g P y.1 c0).length ≤ 2000 := by unfold wayS wayL; rw [List.length_reverse, List.length_map]; omega
  refine rg ?_; refine Sa V.mv ?_; refine Sa V.ls ?_; refine Sa V.mv ?_; refine ns ?_; refine WC.block ?_; refine' WC.weak (l' := [(31, .int .i64 ((0) : Int)), (2, _), (3, _), (4, _), (7, _), (8, _), (29, _), (30, _)]) ⟨?w31, rfl, rfl, rfl, rfl, rfl, rfl, rfl, trivial⟩ (List.Sublist.refl _) ?_; case w31 => exact nq
  refine sq ?_; refine' WC.loopG (α := Nat × Jm) (fun (i, Jc) => [(31, .int .i64 (i : Int))]) (fun (i, Jc) => [(a4, .row [.int .i64 (info : Int)] 3), (a3, .row [.pointer (some ⟨aw, 0, none⟩), .func (.func 65) #[] #[.pointer (some ⟨a9, 0, none⟩)]] 117), (a9, .row [.bool true] 4)]) (fun (i, Jc) => Jc) (fun (i, Jc) => i ≤ s.length ∧ (∀ x ∈ s.take i, wayS g P y.1 x.toNat = wayS g P y.1 c0) ∧ J1.le Jc) (fun (i, Jc) => s.length - i) ⟨0, J1⟩ ?hs ?hstep; case hs => exact ⟨Nat.zero_le _, fun x hx => (by cases hx), Jm.le.refl _⟩
  case hstep =>
   rintro ⟨i, Jc⟩ hinv; try simp only at hinv
   obtain ⟨hi, hall, hJc⟩ := hinv; refine rg ?_; refine Sa V.vi ?_; refine ns ?_; refine If (fun c32 => ?_) fun c32 => ?_
   ·
    obtain ⟨x, hx, hnx⟩ := hgts i (by omega) (by omega); rw [Int.toNat_natCast] at hx; obtain ⟨cx, hcx, hcxn⟩ := hin x (List.mem_of_getElem? hx); subst hcx; have hlec := hle1.trans hJc; have hgc := hg.mono hlec; have hwc := hw.mono hlec; have hww := hwc.w; refine sk ?_; refine sq ?_; refine WC.block ?_; refine rg ?_; refine Sa V.ix ?_; refine' W.step rfl (Exec.val rfl rfl (v_load rfl rfl ?hr (part1 (tAg rfl) ?hv)) ?_); case hr => exact RowAt.mono hlec (hros.sub (fun _ q => by cases q))
    case hv => first | rfl | assumption
    refine Sa V.asg ?_; refine nr ?_; refine' W.step rfl (.of (x_alloc rfl rfl rfl (ze3 Q g0) rfl rfl rfl fun a11 => ?_)); refine Ss ?_; refine nr ?_; refine Sa V.fa ?_; refine Sa V.ld ?_; refine Sa V.mv ?_; refine Sa V.mv ?_; refine Sa V.fn ?_; refine' W.step rfl (Exec.call rfl rfl rfl rfl rfl rfl rfl (mi := [(a11, _), (a4, _), (a3, _)]) (mr := [_]) (.refl _) trivial (above_fn (σ := Int) (step := fun d a k => (if infOf g a = (info : Int) then (a : Int) else d, decide ((if infOf g a = (info : Int) then (a : Int) else d) < 0))) (PY := fun c d mv => mv = [(a11, .row [.int .i64 d] 3), (a4, .row [.int .i64 (info : Int)] 3), (a3, .row [.pointer (some ⟨aw, 0, none⟩), .func (.func 65) #[] #[.pointer (some ⟨a9, 0, none⟩)]] 117)]) (s0 := -1) hgc hwc ht n2 hl60 (fun c a s mv _ h => h) (fun c a s mv k hlt hcn h => by subst h; exact seek1_fn hgc hwc n2 (by omega) rfl) hcxn rfl) ?_); rintro v m' J' hle ⟨rfl, c2, rfl⟩; refine Wn ?_; generalize visS (fun (d : Int) a k => (if infOf g a = (info : Int) then (a : Int) else d, decide ((if infOf g a = (info : Int) then (a : Int) else d) < 0))) (-1) (mvL g P y.1 cx) = dp; refine rg ?_; refine Sa V.ld ?_; refine Sa V.vi ?_; refine Sa V.mv ?_; refine Wp 43 (fun gr8_2 => ?_) fun gr8_2 => ?_
    ·
     refine Sb V.fa ?_; refine Sb V.ld ?_; refine Sb V.mv ?_; refine Sb V.ld ?_; refine Sb V.ld ?_; refine Sb V.bd ?_; refine' W.guardY rfl rfl rfl (Exec.call rfl rfl rfl rfl rfl rfl rfl (mi := [(a9, _)]) (mr := [_, _, _]) (perm_pick 3 rfl (perm_pick 0 rfl (perm_pick 0 rfl (perm_pick 0 rfl .nil)))) trivial (perfect1_fn) ?_); rintro v m' J' hle ⟨rfl, rfl, rfl⟩; refine W.permM (m' := [_, _, _, _]) (perm_pick 1 rfl (perm_pick 1 rfl (perm_pick 1 rfl (perm_pick 0 rfl .nil)))) ?_; refine Sb V.nt ?_; refine Sa V.pk ?_; refine ns ?_; refine If (fun c52 => ?_) fun c52 => ?_
     ·
      exfalso; simp at c52
     ·
      refine sq ?_; refine WC.skip ?_; refine rg ?_; refine Sa V.fa ?_; refine Sa V.ld ?_; refine Sa V.mv ?_; refine Sa V.mv ?_; refine cl (G := way_fn hgc hwc ht n2 hl60 hcxn) (h := ?_); rintro v m' J2 hle2 ⟨bg, cg, rfl, rfl, _, hel2⟩; have hwl2 := mvL_len (g := g) (P := P) (p := y.1) cx cx (Nat.le_refl _); have hwl3 : (wayS g P y.1 cx).length ≤ 2000 := by unfold wayS wayL; rw [List.length_reverse, List.length_map]; omega
      refine Sa V.mv ?_; refine cl (G := equal_fn hel2 (hel1.mono (hJc.trans hle2) fun _ _ q => q) (by omega)) (h := ?_); rintro v m' J' hle ⟨rfl, rfl, rfl⟩; refine ns ?_; refine If (fun c59 => ?_) fun c59 => ?_
      ·
       refine sq ?_; refine WC.exit ?_; refine rg ?_; refine Sa V.va ?_; refine Sa V.mv ?_; refine Wn ?_; refine' ⟨⟨i + 1, _⟩, _, ?hinv, ?hmeas, rfl, ⟨?m31, rfl, rfl, rfl, rfl, rfl, rfl, rfl, trivial⟩, .cons _ (.refl _), rfl⟩; case m31 => exact nq
       case hmeas => exact om
       case hinv => exact ⟨by omega, take_all hall hx (by rw [Int.toNat_natCast]; exact c59), hJc.trans hle2⟩
      ·
       refine sq ?_; refine WC.skip ?_; refine sq ?_; refine WC.draw rfl (by kernel_rfl) (plan := [.val 0, .val 1, .val 2, .val 3, .val 4, .val 5, .val 6, .val 7, .chn 8, .val 9]) (by kernel_rfl) ?_; refine Da rfl V.fa ?_; refine Da rfl V.ld ?_; refine Da rfl V.mv ?_; refine Da rfl V.ld ?_; refine Da rfl V.mv ?_; refine Da rfl V.ix ?_; refine' WD.val rfl rfl rfl rfl (v_load rfl rfl ?hr (part1 (tAg rfl) ?hv)) ?_; case hr => exact RowAt.mono (hlec.trans hle2) (hros.sub (fun _ q => by cases q))
       case hv => first | rfl | assumption
       refine Da rfl V.bd ?_; refine' WD.call rfl rfl rfl rfl rfl rfl rfl rfl rfl rfl (mi := [(a9, _)]) (mr := [_, _, _]) (perm_pick 3 rfl (perm_pick 0 rfl (perm_pick 0 rfl (perm_pick 0 rfl .nil)))) trivial (perfect1_fn) ?_; rintro v m' J' hle ⟨rfl, rfl, rfl⟩; refine Da rfl V.nt ?_; refine WD.nil ?_; refine sq ?_; refine If (fun c69 => ?_) fun c69 => ?_
       ·
        refine rg ?_; refine Sa V.asg ?_; refine ns ?_; refine WC.ret ?_; refine' ⟨.inr rfl, rfl, _, [(a9, _)], .tmp rfl .nil, (by first | exact .cons _ (.cons _ (.refl _)) | exact .cons_cons _ (List.nil_sublist _)), ?_⟩; first
          | (have c := c59
             have hno : decide (sameW g P y.1 s) = false := by
               rw [decide_eq_false_iff_not]; intro q; have := q cx (List.mem_of_getElem? hx); rw [hhd, Int.toNat_natCast, Int.toNat_natCast] at this; exact c59 this
             rw [hno]; exact ⟨rfl, rfl, hlec.trans hle2⟩)
          | (have hyes : decide (sameW g P y.1 s) = true := by
               rw [decide_eq_true_iff]; intro x hx; rw [List.take_of_length_le (by omega)] at hall; rw [hhd, Int.toNat_natCast]; exact hall x hx
             rw [hyes]; exact ⟨rfl, rfl, hle1.trans hJc⟩)
       ·
        exfalso; simp at c69
    ·
     refine Sn ?_; refine Sn ?_; refine Sn ?_; refine Sn ?_; refine Sn ?_; refine Sn ?_; refine W.guardN rfl rfl rfl rfl rfl ?_; refine Sn ?_; refine Sa V.pk ?_; refine ns ?_; refine WC.condF rfl ?_; refine kr ?_; refine Sa V.fa ?_; refine Sa V.ld ?_; refine Sa V.mv ?_; refine Sa V.mv ?_; refine cl (G := way_fn hgc hwc ht n2 hl60 hcxn) (h := ?_); rintro v m' J2 hle2 ⟨bg, cg, rfl, rfl, _, hel2⟩; have hwl2 := mvL_len (g := g) (P := P) (p := y.1) cx cx (Nat.le_refl _); have hwl3 : (wayS g P y.1 cx).length ≤ 2000 := by unfold wayS wayL; rw [List.length_reverse, List.length_map]; omega
     refine Sa V.mv ?_; refine cl (G := equal_fn hel2 (hel1.mono (hJc.trans hle2) fun _ _ q => q) (by omega)) (h := ?_); rintro v m' J' hle ⟨rfl, rfl, rfl⟩; refine ns ?_; refine If (fun c59 => ?_) fun c59 => ?_
     ·
      refine sq ?_; refine WC.exit ?_; refine rg ?_; refine Sa V.va ?_; refine Sa V.mv ?_; refine Wn ?_; refine' ⟨⟨i + 1, _⟩, _, ?hinv, ?hmeas, rfl, ⟨?m31, rfl, rfl, rfl, rfl, rfl, rfl, rfl, trivial⟩, .cons _ (.refl _), rfl⟩; case m31 => exact nq
      case hmeas => exact om
      case hinv => exact ⟨by omega, take_all hall hx (by rw [Int.toNat_natCast]; exact c59), hJc.trans hle2⟩
     ·
      refine sq ?_; refine WC.skip ?_; refine sq ?_; refine WC.draw rfl (by kernel_rfl) (plan := [.val 0, .val 1, .val 2, .val 3, .val 4, .val 5, .val 6, .val 7, .chn 8, .val 9]) (by kernel_rfl) ?_; refine Da rfl V.fa ?_; refine Da rfl V.ld ?_; refine Da rfl V.mv ?_; refine Da rfl V.ld ?_; refine Da rfl V.mv ?_; refine Da rfl V.ix ?_; refine' WD.val rfl rfl rfl rfl (v_load rfl rfl ?hr (part1 (tAg rfl) ?hv)) ?_; case hr => exact RowAt.mono (hlec.trans hle2) (hros.sub (fun _ q => by cases q))
      case hv => first | rfl | assumption
      refine Da rfl V.bd ?_; refine' WD.call rfl rfl rfl rfl rfl rfl rfl rfl rfl rfl (mi := [(a9, _)]) (mr := [_, _, _]) (perm_pick 3 rfl (perm_pick 0 rfl (perm_pick 0 rfl (perm_pick 0 rfl .nil)))) trivial (perfect1_fn) ?_; rintro v m' J' hle ⟨rfl, rfl, rfl⟩; refine Da rfl V.nt ?_; refine WD.nil ?_; refine sq ?_; refine If (fun c69 => ?_) fun c69 => ?_
      ·
       refine rg ?_; refine Sa V.asg ?_; refine ns ?_; refine WC.ret ?_; refine' ⟨.inr rfl, rfl, _, [(a9, _)], .tmp rfl .nil, (by first | exact .cons _ (.cons _ (.refl _)) | exact .cons_cons _ (List.nil_sublist _)), ?_⟩; first
         | (have c := c59
            have hno : decide (sameW g P y.1 s) = false := by
              rw [decide_eq_false_iff_not]; intro q; have := q cx (List.mem_of_getElem? hx); rw [hhd, Int.toNat_natCast, Int.toNat_natCast] at this; exact c59 this
            rw [hno]; exact ⟨rfl, rfl, hlec.trans hle2⟩)
         | (have hyes : decide (sameW g P y.1 s) = true := by
              rw [decide_eq_true_iff]; intro x hx; rw [List.take_of_length_le (by omega)] at hall; rw [hhd, Int.toNat_natCast]; exact hall x hx
            rw [hyes]; exact ⟨rfl, rfl, hle1.trans hJc⟩)
      ·
       exfalso; simp at c69
   ·
    refine sq ?_; refine WC.exit ?_; refine rg ?_; refine Sa V.asg ?_; refine ns ?_; refine WC.ret ?_; refine' ⟨.inr rfl, rfl, _, [(a9, _)], .tmp rfl .nil, (by first | exact .cons _ (.cons _ (.refl _)) | exact .cons_cons _ (List.nil_sublist _)), ?_⟩; first
      | (have hyes : decide (sameW g P y.1 s) = true := by
           rw [decide_eq_true_iff]; intro x hx; rw [List.take_of_length_le (by omega)] at hall; rw [hhd, Int.toNat_natCast]; exact hall x hx
         rw [hyes]; exact ⟨rfl, rfl, hle1.trans hJc⟩)
end
/-- the parents that a walk finds -/
def parS (g : Gm) : List Int := match trS g.ns (g.ns.length + 1) (-1) 0 0 with | none => [] | some (_, es) => es.map fun e => e.1
theorem parS_eq {g : Gm} {n : Nat} {es : List Ent} (h : trS g.ns (g.ns.length + 1) (-1) 0 0 = some (n, es)) : parS g = es.map fun e => e.1 := by unfold parS; rw [h]
theorem parS_tree {g : Gm} (h : FormOk g) : Tree g (parS g) := by
  obtain ⟨es, h1, _⟩ := h.walk; rw [parS_eq h1]; exact tree_of h1
def perfP (g : Gm) (p : Int) : Prop := ∀ (i : Nat) (s : List Int) (y : Int × Int), (setsS g)[i]? = some s → g.is[i]? = some y → y.1 = p → sameW g (parS g) p s
section
variable {Q : Worlds Tryd.prog} {g0 : Nat} {J : Jm}
open Classical in
theorem perfect_fn {g : Gm} {bn bi : Option Addr} {cn ci : Nat} {p : Int} (hg : GmR J g bn cn bi ci) (hf : formS g = 0) (p0 : 0 ≤ p) (p1 : p < g.pl) :
    Fn (kx Q g0) 52 [gV g bn cn bi ci, .int .i64 p] [] J (RetJ (.tuple #[.bool (decide (perfP g p)), .int .i64 0]) J) := by
  have hok := formS_ok hf; have qi : addrEq bi bi = true := hg.i.addr; have qn : addrEq bn bn = true := hg.n.addr; have n2 := hok.n2; have i2 := hok.i2; have p4 := hok.p4; have hl60 : ∀ x ∈ g.ns, x.nx.length ≤ 60 := fun x hx => (node_len (hok.nodes x hx) hok.p4).1; refine Fn.of_body (ftGet Tryd.func52) rfl rfl fun H => ?_; refine rg ?_; refine bx fun a2 => ?_; refine Sa V.asg ?_; refine Sa V.asg ?_; refine nr ?_; refine Sa V.ldA ?_; refine' W.step rfl (Exec.call rfl rfl rfl rfl rfl rfl rfl (mi := []) (mr := [_]) (.refl _) trivial (walked_fn hg) ?_); rintro v m' J' hle ⟨rfl, w, rfl, hW⟩; obtain ⟨es, aw, ap, ad, al, htr, rfl, rfl⟩ := hW hf; refine Sa V.mv ?_; refine Sa V.ex ?_; refine Sa V.ex ?_; refine Sa V.asg ?_; refine Sa V.asg ?_; refine Wn ?_; refine WC.publish rfl fun hl1 => ?_; refine WC.publish rfl fun hl2 => ?_; refine WC.publish rfl fun hl3 => ?_; refine WC.publish rfl fun hl4 => ?_; have hlW := (hl1.trans hl2).trans (hl3.trans hl4); have hw : WkR _ aw ap ad al g bn cn bi ci (parS g) := ⟨(hl2.trans (hl3.trans hl4)) _ _ (Jm.add_at _ _ _), (hl3.trans hl4) _ _ (by rw [parS_eq htr]; exact Jm.add_at _ _ _)⟩; have hgW := hg.mono hlW; generalize Jm.add (Jm.add (Jm.add (Jm.add J aw _) ap _) ad _) al _ = JW at *; have hww := hw.w; obtain ⟨_, hgi⟩ := hgW.i.at; refine rg ?_; refine Sa V.mv ?_; refine Sa V.vi ?_; refine ns ?_; refine If (fun c19 => ?_) fun c19 => ?_
  ·
   exfalso; exact c19 hf
  ·
   refine sq ?_; refine WC.skip ?_; refine rg ?_; refine Sa V.fa ?_; refine Sa V.ld ?_; refine Sa V.va ?_; refine Sa V.mv ?_; refine bsl (sb38 Q g0) fun a25 => ?_; refine' W.step rfl (Exec.call rfl rfl rfl rfl rfl rfl rfl (mi := [(a25, _)]) (mr := [_]) (.refl _) trivial (within_fn (l := [p]) (RI.own (.head _)) (by simp)) ?_); rintro v m' J' hle ⟨rfl, rfl, rfl⟩; refine Sa V.asg ?_; refine Wn ?_; rw [if_neg (by rw [any_one]; omega)]; refine rg ?_; refine Sa V.mv ?_; refine Sa V.vi ?_; refine ns ?_; refine If (fun c28 => ?_) fun c28 => ?_
   ·
    exfalso; exact absurd rfl c28
   ·
    refine sq ?_; refine WC.skip ?_; refine rg ?_; refine' W.step rfl (.of (x_alloc rfl rfl rfl (ze4 Q g0) rfl rfl rfl fun a9 => ?_)); refine Ss ?_; refine nr ?_; refine Sa V.mv ?_; refine Sa V.fn ?_; refine Sa V.bd ?_; refine' W.step rfl (.of (x_alloc rfl rfl rfl (ze117 Q g0) rfl rfl rfl fun a10 => ?_)); refine Ss ?_; refine nr ?_; refine Sa V.mv ?_; refine cl (G := members_fn hgW hw n2 i2 hok.nodes) (h := ?_); rintro v m' J2 hle2 ⟨bm, cm, rfl, rfl, _, hel⟩; obtain ⟨_, hge⟩ := hel.at; have hsl : (setsS g).length = g.is.length := setsS_len; refine Sa V.ls ?_; refine Sa V.mv ?_; refine ns ?_; refine WC.block ?_; refine sq ?_; refine WC.permM (m' := [_, _, _]) (perm_pick 1 rfl (perm_pick 0 rfl (perm_pick 0 rfl .nil))) ?_; refine' WC.weak (l' := [(36, .int .i64 ((0) : Int)), (1, _), (6, _), (9, _), (10, _), (34, _), (35, _)]) ⟨?w36, rfl, rfl, rfl, rfl, rfl, rfl, trivial⟩ (List.Sublist.refl _) ?_; case w36 => exact nq
    refine sq ?_; refine' WC.loopG (α := Nat × Jm) (fun (i, Jc) => [(36, .int .i64 (i : Int))]) (fun (i, Jc) => [(a9, .row [.bool true] 4), (a10, .row [.pointer (some ⟨aw, 0, none⟩), .func (.func 65) #[] #[.pointer (some ⟨a9, 0, none⟩)]] 117), (a2, .row (gC g bn cn bi ci) 25)]) (fun (i, Jc) => Jc) (fun (i, Jc) => i ≤ (setsS g).length ∧ (∀ (j : Nat) (s : List Int) (y : Int × Int), j < i → (setsS g)[j]? = some s → g.is[j]? = some y → y.1 = p → sameW g (parS g) p s) ∧ J2.le Jc) (fun (i, Jc) => (setsS g).length - i) ⟨0, J2⟩ ?hs ?hstep; case hs => exact ⟨Nat.zero_le _, fun j s y hj => by omega, Jm.le.refl _⟩
    case hstep =>
     rintro ⟨i, Jc⟩ hinv; try simp only at hinv
     obtain ⟨hi, hall, hJc⟩ := hinv; refine rg ?_; refine Sa V.vi ?_; refine ns ?_; refine If (fun c37 => ?_) fun c37 => ?_
     ·
      obtain ⟨ae, oe, cle, ee, rfl, hJe, hgte⟩ := hge (by omega); obtain ⟨s, css, hs, hcss, hkss, bs, cs, rfl, hsI⟩ := hgte i (by omega) (by omega); have hks0 := hkss 0 _ (by decide) rfl; obtain ⟨ai, oi, cli, ei, rfl, hJi, hgti⟩ := hgi (by omega); obtain ⟨y, csi, hy, hcsi, hksi, rfl⟩ := hgti i (by omega) (by omega); have hki0 := hksi 0 _ (by decide) rfl; rw [Int.toNat_natCast] at hs hy; have hJe := hJc _ _ hJe; have hlec := hle2.trans hJc; have hJi := hlec _ _ hJi; have hww := hlec _ _ hww; have hset : s = setS (i : Int) 0 g.ns := by rw [setsS_get (by omega)] at hs; injection hs with hs; exact hs.symm
      have hsn : s ≠ [] := hok.sets s (List.mem_of_getElem? hs); have hslen : s.length ≤ 2000 := by have := setS_len (j := (i : Int)) (l := g.ns) (n := 0); rw [hset]; omega
      have hin : ∀ x ∈ s, ∃ c : Nat, x = (c : Int) ∧ c < g.ns.length := fun x hx => by
        rw [hset] at hx; obtain ⟨c, h1, z, h2, _⟩ := setS_in hx; exact ⟨c, h1, (List.getElem?_eq_some_iff.1 h2).1⟩
      refine sk ?_; refine sq ?_; refine WC.block ?_; refine rg ?_; refine Sa V.mv ?_; refine Sa V.ix ?_; refine Sa V.ld ?_; refine Sa V.asg ?_; refine Sa V.asg ?_; refine nr ?_; refine Sa V.mv ?_; refine Sa V.nc ?_; refine Sa V.fa ?_; refine Sa V.fa ?_; refine Sa V.ld ?_; refine Sa V.mv ?_; refine Sa V.ix ?_; refine Sa V.fa ?_; refine Sa V.ld ?_; refine Sa V.mv ?_; refine Sa V.vi ?_; refine Sa V.mv ?_; refine Wp 52 (fun gr12_11 => ?_) fun gr12_11 => ?_
      ·
       refine Sb V.ldA ?_; refine Sb V.mv ?_; refine Sb V.mv ?_; refine' W.guardY rfl rfl rfl (Exec.call rfl rfl rfl rfl rfl rfl rfl (mi := [(a9, _)]) (mr := [_, _]) (.refl _) trivial (seek_fn (hgW.mono hlec) (hw.mono hlec) (parS_tree hok) n2 hl60 hy (hsI.mono hJc) hslen hsn hin) ?_); rintro v m' J3 hle3 ⟨rfl, rfl, _⟩; refine Sb V.nt ?_; refine Sa V.pk ?_; refine ns ?_; refine If (fun c58 => ?_) fun c58 => ?_
       ·
        refine sq ?_; refine WC.exit ?_; refine rg ?_; refine Sa V.ld ?_; refine Sa V.asg ?_; refine Sa V.asg ?_; refine ns ?_; refine WC.ret ?_; refine Lf ?_; first
          | (have c := c58
             rw [decide_eq_false c58, show decide (perfP g p) = false from decide_eq_false fun q => c58 (gr12_11 ▸ q i s y hs hy gr12_11)]; exact ⟨rfl, rfl, hlW.trans (hlec.trans hle3)⟩)
          | (rw [show decide (perfP g p) = true from decide_eq_true fun j s y h1 h2 h3 => hall j s y (by have := (List.getElem?_eq_some_iff.1 h1).1; omega) h1 h2 h3]
             exact ⟨rfl, rfl, hlW.trans (hle2.trans hJc)⟩)
       ·
        have hsm := Classical.not_not.1 c58; rw [decide_eq_true hsm]; refine kr ?_; refine Sa V.va ?_; refine Sa V.mv ?_; refine Wn ?_; refine' ⟨⟨i + 1, _⟩, _, ?hinv, ?hmeas, rfl, ⟨?m36, rfl, rfl, rfl, rfl, rfl, rfl, trivial⟩, List.Sublist.refl _, rfl⟩; case m36 => exact nq
        case hmeas => exact om
        case hinv => first | (have q_ := hle3; refine ⟨by omega, fun j s' y' hj h1 h2 h3 => ?_, hJc.trans hle3⟩; by_cases q : j < i; (exact hall j s' y' q h1 h2 h3); (obtain rfl : j = i := by omega); (rw [hs] at h1; rw [hy] at h2; injection h1 with h1; injection h2 with h2; subst h1; subst h2; rw [← h3]; exact hsm)) | (refine ⟨by omega, fun j s' y' hj h1 h2 h3 => ?_, hJc⟩; by_cases q : j < i; (exact hall j s' y' q h1 h2 h3); (obtain rfl : j = i := by omega); (rw [hy] at h2; injection h2 with h2; subst h2; exact absurd h3 gr12_11))
      ·
       refine Sn ?_; refine Sn ?_; refine Sn ?_; refine W.guardN rfl rfl rfl rfl rfl ?_; refine Sn ?_; refine Sa V.pk ?_; refine ns ?_; refine WC.condF rfl ?_; refine kr ?_; refine Sa V.va ?_; refine Sa V.mv ?_; refine Wn ?_; refine' ⟨⟨i + 1, _⟩, _, ?hinv, ?hmeas, rfl, ⟨?m36, rfl, rfl, rfl, rfl, rfl, rfl, trivial⟩, List.Sublist.refl _, rfl⟩; case m36 => exact nq
       case hmeas => exact om
       case hinv => first | (have q_ := hle3; refine ⟨by omega, fun j s' y' hj h1 h2 h3 => ?_, hJc.trans hle3⟩; by_cases q : j < i; (exact hall j s' y' q h1 h2 h3); (obtain rfl : j = i := by omega); (rw [hs] at h1; rw [hy] at h2; injection h1 with h1; injection h2 with h2; subst h1; subst h2; rw [← h3]; exact hsm)) | (refine ⟨by omega, fun j s' y' hj h1 h2 h3 => ?_, hJc⟩; by_cases q : j < i; (exact hall j s' y' q h1 h2 h3); (obtain rfl : j = i := by omega); (rw [hy] at h2; injection h2 with h2; subst h2; exact absurd h3 gr12_11))
     ·
      refine sq ?_; refine WC.exit ?_; refine rg ?_; refine Sa V.ld ?_; refine Sa V.asg ?_; refine Sa V.asg ?_; refine ns ?_; refine WC.ret ?_; refine Lf ?_; first
        | (rw [show decide (perfP g p) = true from decide_eq_true fun j s y h1 h2 h3 => hall j s y (by have := (List.getElem?_eq_some_iff.1 h1).1; omega) h1 h2 h3]
           exact ⟨rfl, rfl, hlW.trans (hle2.trans hJc)⟩)
end
end Go.Opn

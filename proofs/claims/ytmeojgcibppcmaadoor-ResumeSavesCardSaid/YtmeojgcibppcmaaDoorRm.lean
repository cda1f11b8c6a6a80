/- A part of the proof of ResumeSaves. -/
import Derived.Test.YtmeojgcibppcmaaDoorRk
set_option maxRecDepth 100000
set_option maxHeartbeats 4000000
set_option linter.unusedVariables false
set_option linter.unusedSimpArgs false
namespace Go.Opn
open Go.Cre Go.RowKit Go.Proofs
theorem nth_at {l : List Value} {j k : Nat} {v : Value} (h : l[j]? = some v) (hk : k = j := by omega) : nth l k = some v := by subst hk; rw [nth_eq]; exact h
theorem splice_at {l : List Value} {j k : Nat} {v : Value} (h : j < l.length) (hk : k = j := by omega) : splice k l [v] = some (l.set j v) := by
  subst hk; rw [splice_ok _ _ _ (by simp; omega), List.set_eq_take_append_cons_drop, if_pos h]; simp
section
variable {Q : Worlds Tryd.prog} {g0 : Nat} {J : Jm}
theorem setsof_fn {g : Gm} {bn bi : Option Addr} {cn ci : Nat} (hg : GmR J g bn cn bi ci) (n2 : g.ns.length ≤ 2000) (i2 : g.is.length ≤ 200) (hn : ∀ x ∈ g.ns, nodeS g x = 0) :
    Fn (kx Q g0) 32 [gV g bn cn bi ci] [] J (fun u m' J' => ∃ b c, u = .slice b (setsS g).length c ∧ m' = [] ∧ J.le J' ∧ Elems J' 38 1 (LsR J') (.slice b (setsS g).length c) (setsS g)) := by
  obtain ⟨_, hgn⟩ := hg.n.at; have qi : addrEq bi bi = true := hg.i.addr; have qn : addrEq bn bn = true := hg.n.addr; refine Fn.of_body (ftGet Tryd.func32) rfl rfl fun H => ?_; refine rg ?_; refine bx fun a1 => ?_; refine Sa V.asg ?_; refine nr ?_; refine Sa V.fa ?_; refine Sa V.ld ?_; refine Sa V.ls ?_; refine' W.step rfl (.of (x_makeSlice rfl rfl rfl rfl rfl (sb26 Q g0) ?h0 ?h1 ?h2 fun a9 => ?_)); case h0 => exact om
  case h1 => exact om
  case h2 => exact om
  refine Sa V.asg ?_; refine Wn ?_; rw [zero_one, Int.toNat_natCast]; refine rg ?_; refine Sa V.asg ?_; refine ns ?_; refine WC.block ?_; refine' WC.weak (l' := [(4, .int .i64 ((0) : Int)), (1, _), (3, _)]) ⟨?w4, rfl, rfl, trivial⟩ (List.Sublist.refl _) ?_; case w4 => exact nq
  refine sq ?_; refine' WC.loopG (α := Nat × (List Value) × (List Mm) × Mm) (fun (i, vs, mos, fl) => [(4, .int .i64 (i : Int))]) (fun (i, vs, mos, fl) => (a9, .row vs 38) :: (fl ++ [(a1, .row (gC g bn cn bi ci) 25)])) (fun (i, vs, mos, fl) => J) (fun (i, vs, mos, fl) => i ≤ g.ns.length ∧ Accs 3 (setsI g i) vs mos ∧ fl = mos.flatten) (fun (i, vs, mos, fl) => g.ns.length - i) ⟨0, List.replicate g.is.length (.slice none 0 0), List.replicate g.is.length [], []⟩ ?hs ?hstep; case hs => exact ⟨Nat.zero_le _, by rw [setsI_zero]; exact Accs.init _, flat_nil.symm⟩
  case hstep =>
   rintro ⟨i, vs, mos, fl⟩ hinv; try simp only at hinv
   obtain ⟨hi, hac, hfl⟩ := hinv; refine rg ?_; refine Sa V.mv ?_; refine Sa V.fa ?_; refine Sa V.ld ?_; refine Sa V.ls ?_; refine Sa V.vi ?_; refine ns ?_; refine If (fun c14 => ?_) fun c14 => ?_
   ·
    obtain ⟨a, off, cells, e', rfl, hJ, hget⟩ := hgn (by omega); obtain ⟨x, cs, hx, hcs, _, hR⟩ := hget i (by omega) (by omega); obtain ⟨b1, c1, b2, c2, b3, c3, rfl, hx1, hx2, hx3⟩ := hR; rw [Int.toNat_natCast] at hx; have hx' := hx; have hnx := hn x (List.mem_of_getElem? hx'); refine sk ?_; refine sq ?_; refine WC.block ?_; refine rg ?_; refine Sa V.fa ?_; refine Sa V.ld ?_; refine Sa V.mv ?_; refine Sa V.ix ?_; refine Sa V.ldA ?_; refine' W.step rfl (.of (x_alloc rfl rfl rfl (ze40 Q g0) rfl rfl rfl fun a5 => ?_)); refine Ss ?_; refine nr ?_; refine Sa V.fa ?_; refine Sa V.ld ?_; refine Sa V.vi ?_; refine ns ?_; refine If (fun c24 => ?_) fun c24 => ?_
    ·
     have hmv := node_move hnx (by simpa using c24); obtain ⟨v, mo, hvj, hmj, hacc⟩ := hac.get (setsI_get (g := g) (i := i) (j := x.i.toNat) (by omega)); rw [show ((x.i.toNat : Nat) : Int) = x.i by omega] at hacc; obtain ⟨bv, cv, rfl⟩ := hacc.form; have qv := hacc.addr; have hnv : nth vs (0 + x.i.toNat * 1) = some (.slice bv (setS x.i 0 (g.ns.take i)).length cv) := nth_at hvj; have hlen : (setS x.i 0 (g.ns.take i)).length ≤ 2000 := by have := setS_len (j := x.i) (l := g.ns.take i) (n := 0); rw [List.length_take] at this; omega
     have hvl : vs.length = g.is.length := by rw [hac.lv, setsI_len]
     have hml : mos.length = g.is.length := by rw [hac.lm, setsI_len]
     refine sq ?_; refine WC.draw rfl (by kernel_rfl) (plan := [.val 0, .val 1, .val 2, .val 3, .val 4, .val 5, .val 6, .val 7, .val 8, .alc 9, .chk [8, 7, 6, 5, 4, 3, 2, 1, 0], .chn 10, .val 11, .chk [2, 1, 0], .chn 12]) (by kernel_rfl) ?_; refine Da rfl V.mv ?_; refine Da rfl V.fa ?_; refine Da rfl V.ld ?_; refine Da rfl V.mv ?_; refine Da rfl V.fa ?_; refine Da rfl V.ld ?_; refine Da rfl V.ix ?_; refine Da rfl V.ld ?_; refine Da rfl V.mv ?_; refine WD.buildSlice rfl rfl rfl rfl rfl rfl (sb38 Q g0) rfl rfl rfl fun a34 => ?_; refine WD.chk ck ?_; refine' WD.chnX rfl rfl (x_accP rfl rfl rfl rfl rfl rfl (sb38 Q g0) (un38 Q g0) (fun i q => by cases q) ?hacc ?hm ?hx ?hnl ?hne ?hl fun w35 mo35 hacc35 => ?_); case hacc => assumption
     case hm => exact acc_pick3 (by rw [hfl]; exact flat_pick hmj)
     case hx => exact qx
     case hnl => first | rfl | (simp; done) | (simp; omega)
     case hne => first | rfl | exact ints_one _
     case hl => exact om
     obtain ⟨b35, c35, rfl⟩ := hacc35.form; refine Da rfl V.ix ?_; refine WD.chk ck ?_; refine' WD.chnX rfl rfl (x_store rfl rfl rfl rfl (tSz rfl) rfl rfl rfl ?h1 ?hs ?hp ?_); case hp => repeat first | exact .head _ _ _ _ | apply Put.tail | apply Put.app
     case hs => exact splice_at (j := x.i.toNat) (by omega)
     case h1 => first | rfl | assumption
     refine WD.nil ?_; first
       | (have hx_ := hacc35; refine WC.permM (acc_pick3 (flat_set (j := x.i.toNat) (l := mos) (by omega))) ?_)
       | skip
     refine rg ?_; refine Sa V.mv ?_; refine Sa V.va ?_; refine Sa V.asg ?_; refine Wn ?_; refine' ⟨⟨i + 1, vs.set x.i.toNat _, mos.set x.i.toNat mo35, (mos.set x.i.toNat mo35).flatten⟩, _, ?hinv, ?hmeas, rfl, ⟨?m4, rfl, rfl, trivial⟩, .cons _ (.cons _ (.refl _)), rfl⟩; case m4 => exact nq
     case hmeas => exact om
     case hinv => refine ⟨by omega, ?_, rfl⟩; rw [setsI_yes hx' (by simpa using c24) hmv.1 hmv.2.1]; exact hac.set (by simpa using hacc35)
    ·
     refine sq ?_; refine WC.skip ?_; first
       | (have hx_ := hacc35; refine WC.permM (acc_pick3 (flat_set (j := x.i.toNat) (l := mos) (by omega))) ?_)
       | skip
     refine rg ?_; refine Sa V.mv ?_; refine Sa V.va ?_; refine Sa V.asg ?_; refine Wn ?_; refine' ⟨⟨i + 1, vs, mos, fl⟩, _, ?hinv, ?hmeas, rfl, ⟨?m4, rfl, rfl, trivial⟩, .cons _ (.refl _), rfl⟩; case m4 => exact nq
     case hmeas => exact om
     case hinv => refine ⟨by omega, by rw [setsI_no hx' (by simpa using c24)]; exact hac, hfl⟩
   ·
    refine sq ?_; refine WC.exit ?_; have hi' : i = g.ns.length := by omega
    rw [hi', setsI_all] at hac; refine WC.pubAccs hac (m0 := (a9, .row vs 38) :: [(a1, .row (gC g bn cn bi ci) 25)]) (by rw [hfl]; exact List.perm_middle.symm) fun J2 hle2 hall => ?_; refine WC.publish rfl fun hle3 => ?_; have hel := elems_lists (Jm.add_at J2 a9 (vs, 38)) hac.lv (by rw [setsS_len]; unfold openCap; omega) fun j s v h1 h2 => (hall j s v h1 h2).mono hle3; refine rg ?_; refine Sa V.mv ?_; refine Sa V.asg ?_; refine ns ?_; refine WC.ret ?_; refine Lf ?_; exact ⟨some ⟨a9, 0, none⟩, (setsS g).length, by rw [setsS_len]; rfl, rfl, hle2.trans hle3, hel⟩
end
theorem hdS_get {s : List Int} {x : Int} (h : s[0]? = some x) : hdS s = x := by
  cases s with
  | nil => cases h
  | cons y r => simp at h; subst h; rfl
section
variable {Q : Worlds Tryd.prog} {g0 : Nat} {J : Jm}
theorem rform_fn {g : Gm} {bn bi : Option Addr} {cn ci : Nat} (hg : GmR J g bn cn bi ci) :
    Fn (kx Q g0) 17 [gV g bn cn bi ci] [] J (RetJ (.int .i64 (formS g)) J) := by
  obtain ⟨_, hgn⟩ := hg.n.at; obtain ⟨_, hgi⟩ := hg.i.at; have qi : addrEq bi bi = true := hg.i.addr; have qn : addrEq bn bn = true := hg.n.addr; refine Fn.of_body (ftGet Tryd.func17) rfl rfl fun H => ?_; refine rg ?_; refine bx fun a1 => ?_; refine Sa V.asg ?_; refine Wn ?_; refine wk [1] ?_; refine sq ?_; refine' WC.cutK 0 [(36, .bool (decide ((g.pl < 1 ∨ 4 < g.pl ∨ g.ns.length < 1 ∨ 2000 < g.ns.length ∨ 200 < g.is.length))))] ?cr1 ?dr1; case cr1 =>
   refine WC.region ?_; refine Sa V.fa ?_; refine Sa V.ld ?_; refine Sa V.vi ?_; refine Sa V.mv ?_; refine Wp 14 (fun gr1_3 => ?_) fun gr1_3 => ?_
   ·
    refine Sn ?_; refine Sn ?_; refine Sn ?_; refine Sa V.pk ?_; refine Sa V.mv ?_; refine Sn ?_; refine Sn ?_; refine Sn ?_; refine Sn ?_; refine Sa V.pk ?_; refine Sa V.mv ?_; refine Sn ?_; refine Sn ?_; refine Sn ?_; refine Sn ?_; refine Sa V.pk ?_; refine Sa V.mv ?_; refine Sn ?_; refine Sn ?_; refine Sn ?_; refine Sn ?_; refine Sa V.pk ?_; refine Wn ?_; exact ce
   ·
    refine Sb V.fa ?_; refine Sb V.ld ?_; refine Sb V.vi ?_; refine Sa V.pk ?_; refine Sa V.mv ?_; refine Wp 19 (fun gr1_8 => ?_) fun gr1_8 => ?_
    ·
     refine Sn ?_; refine Sn ?_; refine Sn ?_; refine Sn ?_; refine Sa V.pk ?_; refine Sa V.mv ?_; refine Sn ?_; refine Sn ?_; refine Sn ?_; refine Sn ?_; refine Sa V.pk ?_; refine Sa V.mv ?_; refine Sn ?_; refine Sn ?_; refine Sn ?_; refine Sn ?_; refine Sa V.pk ?_; refine Wn ?_; exact ce
    ·
     refine Sb V.fa ?_; refine Sb V.ld ?_; refine Sb V.ls ?_; refine Sb V.vi ?_; refine Sa V.pk ?_; refine Sa V.mv ?_; refine Wp 25 (fun gr1_14 => ?_) fun gr1_14 => ?_
     ·
      refine Sn ?_; refine Sn ?_; refine Sn ?_; refine Sn ?_; refine Sa V.pk ?_; refine Sa V.mv ?_; refine Sn ?_; refine Sn ?_; refine Sn ?_; refine Sn ?_; refine Sa V.pk ?_; refine Wn ?_; exact ce
     ·
      refine Sb V.fa ?_; refine Sb V.ld ?_; refine Sb V.ls ?_; refine Sb V.vi ?_; refine Sa V.pk ?_; refine Sa V.mv ?_; refine Wp 31 (fun gr1_20 => ?_) fun gr1_20 => ?_
      ·
       refine Sn ?_; refine Sn ?_; refine Sn ?_; refine Sn ?_; refine Sa V.pk ?_; refine Wn ?_; exact ce
      ·
       refine Sb V.fa ?_; refine Sb V.ld ?_; refine Sb V.ls ?_; refine Sb V.vi ?_; refine Sa V.pk ?_; refine Wn ?_; exact ce
  case dr1 =>
   refine sq ?_; refine If (fun c36 => ?_) fun c36 => ?_
   ·
    refine rg ?_; refine Sa V.asg ?_; refine ns ?_; refine WC.ret ?_; refine Lf ?_; refine ⟨congrArg (Value.int .i64) ?_, rfl, by first | exact Jm.le.refl _ | exact hle1⟩; symm; first
      | exact formS_range c36
      | exact formS_deep c36 hns0 htr c61
      | (rw [formS_sets c36 hns0 htr c61]
         unfold setsE; first
           | (have c := hty
              rw [if_neg hty]; first
                | (rw [if_neg (fun ⟨s, h1, h2⟩ => hne s h1 h2)]
                   first
                     | (rw [if_neg (fun ⟨j, s, t, h1, h2, h3⟩ => hall j s t (by have := (List.getElem?_eq_some_iff.1 h2).1; omega) h1 h2 h3)]))))
   ·
    refine sq ?_; refine WC.skip ?_; refine rg ?_; refine Sa V.asg ?_; refine ns ?_; refine WC.block ?_; refine' WC.weak (l' := [(3, .int .i64 ((0) : Int)), (1, _)]) ⟨?w3, rfl, trivial⟩ (List.Sublist.refl _) ?_; case w3 => exact nq
    refine sq ?_; refine' WC.loopG (α := Nat) (fun (i : Nat) => [(3, .int .i64 (i : Int))]) (fun (i : Nat) => [(a1, .row (gC g bn cn bi ci) 25)]) (fun (i : Nat) => J) (fun (i : Nat) => i ≤ g.ns.length ∧ ∀ x ∈ g.ns.take i, nodeS g x = 0) (fun (i : Nat) => g.ns.length - i) (0) ?hs ?hstep; case hs => exact ⟨Nat.zero_le _, fun x hx => by cases hx⟩
    case hstep =>
     rintro i hinv; try simp only at hinv
     obtain ⟨hi, hall⟩ := hinv; refine rg ?_; refine Sa V.mv ?_; refine Sa V.fa ?_; refine Sa V.ld ?_; refine Sa V.ls ?_; refine Sa V.vi ?_; refine ns ?_; refine If (fun c41 => ?_) fun c41 => ?_
     ·
      obtain ⟨a, off, cells, e', rfl, hJ, hget⟩ := hgn (by omega); obtain ⟨x, cs, hx, hcs, _, hR⟩ := hget i (by omega) (by omega); obtain ⟨b1, c1, b2, c2, b3, c3, rfl, hx1, hx2, hx3⟩ := hR; have q1 : addrEq b1 b1 = true := by obtain ⟨e, h⟩ := hx1; exact h.addr
      have q2 : addrEq b2 b2 = true := by obtain ⟨e, h⟩ := hx2; exact h.addr
      have q3 : addrEq b3 b3 = true := by obtain ⟨e, h⟩ := hx3; exact h.addr
      rw [Int.toNat_natCast] at hx; refine sk ?_; refine sq ?_; refine WC.block ?_; refine sq ?_; refine WC.draw rfl (by kernel_rfl) (plan := [.val 0, .val 1, .val 2, .val 3, .val 4, .val 5, .chn 6, .val 7]) (by kernel_rfl) ?_; refine Da rfl V.ldA ?_; refine Da rfl V.fa ?_; refine Da rfl V.ld ?_; refine Da rfl V.mv ?_; refine Da rfl V.ix ?_; refine Da rfl V.ldA ?_; refine dl rfl (G := rnode_fn hx2 hx3 (by omega) qi qn q1) (h := ?_); rintro v m' J' hle ⟨rfl, rfl, rfl⟩; refine Da rfl V.asg ?_; refine WD.nil ?_; refine rg ?_; refine Sa V.mv ?_; refine Sa V.vi ?_; refine ns ?_; refine If (fun c52 => ?_) fun c52 => ?_
      ·
       refine rg ?_; refine Sa V.mv ?_; refine Sa V.asg ?_; refine ns ?_; refine WC.ret ?_; refine Lf ?_; refine ⟨congrArg (Value.int .i64) ?_, rfl, by first | exact Jm.le.refl _ | exact hle1⟩; symm; first
         | exact formS_range c36
         | (have c := c52; exact (formS_node c36 (by rw [nodesS_first hall hx c52]; exact c52)).trans (nodesS_first hall hx c52))
         | exact formS_deep c36 hns0 htr c61
         | (rw [formS_sets c36 hns0 htr c61]
            unfold setsE; first
              | (have c := hty
                 rw [if_neg hty]; first
                   | (rw [if_neg (fun ⟨s, h1, h2⟩ => hne s h1 h2)]
                      first
                        | (rw [if_neg (fun ⟨j, s, t, h1, h2, h3⟩ => hall j s t (by have := (List.getElem?_eq_some_iff.1 h2).1; omega) h1 h2 h3)]))))
      ·
       refine sq ?_; refine WC.skip ?_; refine rg ?_; refine Sa V.mv ?_; refine Sa V.va ?_; refine Sa V.asg ?_; refine Wn ?_; refine' ⟨(i + 1), _, ?hinv, ?hmeas, rfl, ⟨?m3, rfl, trivial⟩, List.Sublist.refl _, rfl⟩; case m3 => exact nq
       case hmeas => exact om
       case hinv => exact ⟨by omega, take_all hall hx (Classical.not_not.1 c52)⟩
     ·
      have hno : ∀ x ∈ g.ns, nodeS g x = 0 := by
        rw [List.take_of_length_le (by omega)] at hall; exact hall
      have hns0 := nodesS_zero hno; have hl60 : ∀ x ∈ g.ns, x.nx.length ≤ 60 := fun x hx => (node_len (hno x hx) (by omega)).1; refine sq ?_; refine WC.exit ?_; refine rg ?_; refine' W.step rfl (.of (x_alloc rfl rfl rfl (ze3 Q g0) rfl rfl rfl fun a5 => ?_)); refine Ss ?_; refine ns ?_; refine WC.draw rfl (by kernel_rfl) (plan := [.val 0, .val 2, .val 3, .val 4, .chn 1, .val 5, .chk [4, 3, 2]]) (by kernel_rfl) ?_; refine Da rfl V.ldA ?_; refine Da rfl V.fa ?_; refine Da rfl V.ld ?_; refine Da rfl V.ls ?_; refine' WD.call rfl rfl rfl rfl rfl rfl rfl rfl rfl rfl (mi := [dpB a5 0]) (mr := [_]) (.refl _) trivial (rwalk_fn hg (by omega) hl60 (g.ns.length + 1) 0 (-1) 0 0 (by omega) (Nat.zero_le _) (by omega) (by omega)) ?_; rintro v m' J' hle ⟨rfl, d2, r2, rfl, rfl, hm⟩; refine Da rfl V.vi ?_; refine WD.chk ck ?_; refine WD.nil ?_; refine sq ?_; refine If (fun c59 => ?_) fun c59 => ?_
      ·
       refine rg ?_; refine Sa V.asg ?_; refine ns ?_; refine WC.ret ?_; refine Lf ?_; refine ⟨congrArg (Value.int .i64) ?_, rfl, by first | exact Jm.le.refl _ | exact hle1⟩; symm; first
         | exact formS_range c36
         | (have c := c59
            exact formS_order c36 hns0 (fun ⟨es, q⟩ => by rw [q] at hm; simp only at hm; omega))
         | exact formS_deep c36 hns0 htr c61
         | (rw [formS_sets c36 hns0 htr c61]
            unfold setsE; first
              | (have c := hty
                 rw [if_neg hty]; first
                   | (rw [if_neg (fun ⟨s, h1, h2⟩ => hne s h1 h2)]
                      first
                        | (rw [if_neg (fun ⟨j, s, t, h1, h2, h3⟩ => hall j s t (by have := (List.getElem?_eq_some_iff.1 h2).1; omega) h1 h2 h3)]))))
      ·
       obtain ⟨es, htr, hd2⟩ : ∃ es, trS g.ns (g.ns.length + 1) (-1) 0 0 = some (g.ns.length, es) ∧ d2 = deepS es := by
         cases htr : trS g.ns (g.ns.length + 1) (-1) 0 0 with
         | none => rw [htr] at hm; simp only at hm; omega
         | some p => obtain ⟨n1, e1⟩ := p; rw [htr] at hm; simp only at hm; exact ⟨e1, by rw [show n1 = g.ns.length by omega], hm.2⟩
       subst hd2; refine kr ?_; refine Sa V.ld ?_; refine Sa V.vi ?_; refine ns ?_; refine If (fun c61 => ?_) fun c61 => ?_
       ·
        refine rg ?_; refine Sa V.asg ?_; refine ns ?_; refine WC.ret ?_; refine Lf ?_; refine ⟨congrArg (Value.int .i64) ?_, rfl, by first | exact Jm.le.refl _ | exact hle1⟩; symm; first
          | exact formS_range c36
          | (have c := c59
             exact formS_order c36 hns0 (fun ⟨es, q⟩ => by rw [q] at hm; simp only at hm; omega))
          | exact formS_deep c36 hns0 htr c61
          | (rw [formS_sets c36 hns0 htr c61]
             unfold setsE; first
               | (have c := hty
                  rw [if_neg hty]; first
                    | (rw [if_neg (fun ⟨s, h1, h2⟩ => hne s h1 h2)]
                       first
                         | (rw [if_neg (fun ⟨j, s, t, h1, h2, h3⟩ => hall j s t (by have := (List.getElem?_eq_some_iff.1 h2).1; omega) h1 h2 h3)]))))
       ·
        refine sq ?_; refine WC.skip ?_; refine rg ?_; refine Sa V.asg ?_; refine ns ?_; refine WC.block ?_; refine' WC.weak (l' := [(6, .int .i64 ((0) : Int)), (1, _)]) ⟨?w6, rfl, trivial⟩ (List.Sublist.refl _) ?_; case w6 => exact nq
        refine sq ?_; refine' WC.loopG (α := Nat) (fun (i : Nat) => [(6, .int .i64 (i : Int))]) (fun (i : Nat) => [dpB a5 (deepS es), (a1, .row (gC g bn cn bi ci) 25)]) (fun (i : Nat) => J) (fun (i : Nat) => i ≤ g.ns.length ∧ ∀ x ∈ g.ns.take i, x.k = 2 → g.is[x.i.toNat]? = some (x.p, (x.nx.length : Int))) (fun (i : Nat) => g.ns.length - i) (0) ?hs ?hstep; case hs => exact ⟨Nat.zero_le _, fun x hx => by cases hx⟩
        case hstep =>
         rintro i hinv; try simp only at hinv
         obtain ⟨hi, hall⟩ := hinv; refine rg ?_; refine Sa V.mv ?_; refine Sa V.fa ?_; refine Sa V.ld ?_; refine Sa V.ls ?_; refine Sa V.vi ?_; refine ns ?_; refine If (fun c66 => ?_) fun c66 => ?_
         ·
          obtain ⟨a, off, cells, e', rfl, hJ, hget⟩ := hgn (by omega); obtain ⟨x, cs, hx, hcs, _, hR⟩ := hget i (by omega) (by omega); obtain ⟨b1, c1, b2, c2, b3, c3, rfl, hx1, hx2, hx3⟩ := hR; have q1 : addrEq b1 b1 = true := by obtain ⟨e, h⟩ := hx1; exact h.addr
          rw [Int.toNat_natCast] at hx; have hnx := hno x (List.mem_of_getElem? hx); refine sk ?_; refine sq ?_; refine WC.block ?_; refine rg ?_; refine Sa V.fa ?_; refine Sa V.ld ?_; refine Sa V.mv ?_; refine Sa V.ix ?_; refine Sa V.ldA ?_; refine' W.step rfl (.of (x_alloc rfl rfl rfl (ze40 Q g0) rfl rfl rfl fun a7 => ?_)); refine Ss ?_; refine ns ?_; refine WC.drawR [] rfl (by kernel_rfl) (plan := [.val 0, .val 1, .val 2, .val 3, .val 4, .val 5, .val 6, .val 7, .val 8, .val 9, .val 10, .val 11, .val 12, .val 13, .val 14, .val 15, .val 16, .val 17, .val 18, .val 19, .val 20, .val 21, .val 22, .val 23, .val 24, .val 25, .val 26, .val 27]) (by kernel_rfl) ?_; refine Ra rfl V.fa ?_; refine Ra rfl V.ld ?_; refine Ra rfl V.vi ?_; refine Ra rfl V.mv ?_; refine Rp 77 (fun gr18_3 => ?_) fun gr18_3 => ?_
          ·
           have hmv := node_move hnx (by simpa using gr18_3); obtain ⟨ai, offi, cellsi, ei', rfl, hJi, hgeti⟩ := hgi (by omega); obtain ⟨y, cs, hy, hcsi, hksi, rfl⟩ := hgeti x.i (by omega) (by omega); have hk0 := hksi 0 _ (by decide) rfl; have hk1 := hksi 1 _ (by decide) rfl; refine Rb rfl V.fa ?_; refine Rb rfl V.ld ?_; refine Rb rfl V.fa ?_; refine Rb rfl V.ld ?_; refine Rb rfl V.ix ?_; refine Rb rfl V.fa ?_; refine Rb rfl V.ld ?_; refine Rb rfl V.fa ?_; refine Rb rfl V.ld ?_; refine Rb rfl V.vi ?_; refine Rb rfl V.mv ?_; refine Rp 88 (fun gr18_14 => ?_) fun gr18_14 => ?_
           ·
            refine Rn rfl ?_; refine Rn rfl ?_; refine Rn rfl ?_; refine Rn rfl ?_; refine Rn rfl ?_; refine Rn rfl ?_; refine Rn rfl ?_; refine Rn rfl ?_; refine Rn rfl ?_; refine Rn rfl ?_; refine Rn rfl ?_; refine Rb rfl V.pk ?_; refine Ra rfl V.pk ?_; refine WR.nil ?_; refine sq ?_; refine WC.condT rfl ?_; refine rg ?_; refine Sa V.asg ?_; refine ns ?_; refine WC.ret ?_; refine Lf ?_; refine ⟨congrArg (Value.int .i64) ?_, rfl, by first | exact Jm.le.refl _ | exact hle1⟩; symm; first
              | exact formS_range c36
              | (have c := c59
                 exact formS_order c36 hns0 (fun ⟨es, q⟩ => by rw [q] at hm; simp only at hm; omega))
              | exact formS_deep c36 hns0 htr c61
              | (rw [formS_sets c36 hns0 htr c61]
                 unfold setsE; first
                   | (have c := gr18_14
                      rw [if_pos ⟨x, List.mem_of_getElem? hx, by simpa using gr18_3, fun q => by rw [hy] at q; injection q with q; rw [q] at gr18_14; exact gr18_14 rfl⟩])
                   | (have c := hty
                      rw [if_neg hty]; first
                        | (rw [if_neg (fun ⟨s, h1, h2⟩ => hne s h1 h2)]
                           first
                             | (rw [if_neg (fun ⟨j, s, t, h1, h2, h3⟩ => hall j s t (by have := (List.getElem?_eq_some_iff.1 h2).1; omega) h1 h2 h3)]))))
           ·
            refine Rb rfl V.fa ?_; refine Rb rfl V.ld ?_; refine Rb rfl V.fa ?_; refine Rb rfl V.ld ?_; refine Rb rfl V.ix ?_; refine Rb rfl V.fa ?_; refine Rb rfl V.ld ?_; refine Rb rfl V.fa ?_; refine Rb rfl V.ld ?_; refine Rb rfl V.ls ?_; refine Rb rfl V.vi ?_; refine Rb rfl V.pk ?_; refine Ra rfl V.pk ?_; refine WR.nil ?_; refine sq ?_; refine If (fun c101 => ?_) fun c101 => ?_
            ·
             refine rg ?_; refine Sa V.asg ?_; refine ns ?_; refine WC.ret ?_; refine Lf ?_; refine ⟨congrArg (Value.int .i64) ?_, rfl, by first | exact Jm.le.refl _ | exact hle1⟩; symm; first
               | exact formS_range c36
               | (have c := c59
                  exact formS_order c36 hns0 (fun ⟨es, q⟩ => by rw [q] at hm; simp only at hm; omega))
               | exact formS_deep c36 hns0 htr c61
               | (rw [formS_sets c36 hns0 htr c61]
                  unfold setsE; first
                    | (have c := c101
                       rw [if_pos ⟨x, List.mem_of_getElem? hx, by simpa using gr18_3, fun q => by rw [hy] at q; injection q with q; rw [q] at c101; exact c101 rfl⟩])
                    | (have c := gr18_14
                       rw [if_pos ⟨x, List.mem_of_getElem? hx, by simpa using gr18_3, fun q => by rw [hy] at q; injection q with q; rw [q] at gr18_14; exact gr18_14 rfl⟩])
                    | (have c := hty
                       rw [if_neg hty]; first
                         | (rw [if_neg (fun ⟨s, h1, h2⟩ => hne s h1 h2)]
                            first
                              | (rw [if_neg (fun ⟨j, s, t, h1, h2, h3⟩ => hall j s t (by have := (List.getElem?_eq_some_iff.1 h2).1; omega) h1 h2 h3)]))))
            ·
             refine sq ?_; refine WC.skip ?_; refine rg ?_; refine Sa V.mv ?_; refine Sa V.va ?_; refine Sa V.asg ?_; refine Wn ?_; refine' ⟨(i + 1), _, ?hinv, ?hmeas, rfl, ⟨?m6, rfl, trivial⟩, .cons _ (.refl _), rfl⟩; case m6 => exact nq
             case hmeas => exact om
             case hinv => refine ⟨by omega, take_all hall hx fun hk => ?_⟩; first | exact absurd hk (by simpa using gr18_3) | (rw [hy]; have e1 : y.1 = x.p := (by omega); have e2 : y.2 = (x.nx.length : Int) := (by omega); rw [← e1, ← e2])
          ·
           refine Rn rfl ?_; refine Rn rfl ?_; refine Rn rfl ?_; refine Rn rfl ?_; refine Rn rfl ?_; refine Rn rfl ?_; refine Rn rfl ?_; refine Rn rfl ?_; refine Rn rfl ?_; refine Rn rfl ?_; refine Rn rfl ?_; refine WR.valU rfl rfl rfl rfl rfl ?_; refine WR.valU rfl rfl rfl rfl rfl ?_; refine WR.valU rfl rfl rfl rfl rfl ?_; refine WR.valU rfl rfl rfl rfl rfl ?_; refine WR.valU rfl rfl rfl rfl rfl ?_; refine WR.valU rfl rfl rfl rfl rfl ?_; refine WR.valU rfl rfl rfl rfl rfl ?_; refine WR.valU rfl rfl rfl rfl rfl ?_; refine WR.valU rfl rfl rfl rfl rfl ?_; refine WR.valU rfl rfl rfl rfl rfl ?_; refine WR.valU rfl rfl rfl rfl rfl ?_; refine Rn rfl ?_; refine Ra rfl V.pk ?_; refine WR.nil ?_; refine sq ?_; refine WC.condF rfl ?_; refine kr ?_; refine Sa V.mv ?_; refine Sa V.va ?_; refine Sa V.asg ?_; refine Wn ?_; refine' ⟨(i + 1), _, ?hinv, ?hmeas, rfl, ⟨?m6, rfl, trivial⟩, .cons _ (.refl _), rfl⟩; case m6 => exact nq
           case hmeas => exact om
           case hinv => refine ⟨by omega, take_all hall hx fun hk => ?_⟩; first | exact absurd hk (by simpa using gr18_3) | (rw [hy]; have e1 : y.1 = x.p := (by omega); have e2 : y.2 = (x.nx.length : Int) := (by omega); rw [← e1, ← e2])
         ·
          have hty : ¬ ∃ x ∈ g.ns, x.k = 2 ∧ g.is[x.i.toNat]? ≠ some (x.p, (x.nx.length : Int)) := by
            rintro ⟨x, h1, h2, h3⟩; rw [List.take_of_length_le (by omega)] at hall; exact h3 (hall x h1 h2)
          refine sq ?_; refine WC.exit ?_; refine rg ?_; refine Sa V.ldA ?_; refine cl (G := setsof_fn hg (by omega) (by omega) hno) (h := ?_); rintro v m' J1 hle1 ⟨b8, c8, rfl, rfl, _, hel⟩; refine Sa V.asg ?_; refine Wn ?_; obtain ⟨_, hge⟩ := hel.at; have hsl : (setsS g).length ≤ 200 := by rw [setsS_len]; omega
          refine rg ?_; refine Sa V.asg ?_; refine ns ?_; refine WC.block ?_; refine' WC.weak (l' := [(9, .int .i64 ((0) : Int)), (8, _)]) ⟨?w9, rfl, trivial⟩ (List.Sublist.refl _) ?_; case w9 => exact nq
          refine sq ?_; refine' WC.loopG (α := Nat) (fun (i : Nat) => [(9, .int .i64 (i : Int))]) (fun (i : Nat) => [dpB a5 (deepS es), (a1, .row (gC g bn cn bi ci) 25)]) (fun (i : Nat) => J1) (fun (i : Nat) => i ≤ (setsS g).length ∧ ∀ s ∈ (setsS g).take i, s ≠ []) (fun (i : Nat) => (setsS g).length - i) (0) ?hs ?hstep; case hs => exact ⟨Nat.zero_le _, fun x hx => by cases hx⟩
          case hstep =>
           rintro i hinv; try simp only at hinv
           obtain ⟨hi, hall⟩ := hinv; refine rg ?_; refine Sa V.mv ?_; refine Sa V.mv ?_; refine Sa V.ls ?_; refine Sa V.vi ?_; refine ns ?_; refine If (fun c107 => ?_) fun c107 => ?_
           ·
            obtain ⟨aq, offs, cellss, es', rfl, hJs, hgets⟩ := hge (by omega); obtain ⟨s, cs, hs, hcs, hks, b, c, rfl, hsI⟩ := hgets i (by omega) (by omega); have hk0 := hks 0 _ (by decide) rfl; rw [Int.toNat_natCast] at hs; refine sk ?_; refine sq ?_; refine WC.block ?_; refine rg ?_; refine Sa V.mv ?_; refine Sa V.mv ?_; refine Sa V.ix ?_; refine Sa V.ld ?_; refine Sa V.ls ?_; refine Sa V.vi ?_; refine ns ?_; refine If (fun c115 => ?_) fun c115 => ?_
            ·
             refine rg ?_; refine Sa V.asg ?_; refine ns ?_; refine WC.ret ?_; refine Lf ?_; refine ⟨congrArg (Value.int .i64) ?_, rfl, by first | exact Jm.le.refl _ | exact hle1⟩; symm; first
               | exact formS_range c36
               | (have c := c59
                  exact formS_order c36 hns0 (fun ⟨es, q⟩ => by rw [q] at hm; simp only at hm; omega))
               | exact formS_deep c36 hns0 htr c61
               | (rw [formS_sets c36 hns0 htr c61]
                  unfold setsE; first
                    | (have c := hty
                       rw [if_neg hty]; first
                         | (have c := c115; rw [if_pos ⟨s, List.mem_of_getElem? hs, List.length_eq_zero_iff.1 (by omega)⟩])
                         | (rw [if_neg (fun ⟨s, h1, h2⟩ => hne s h1 h2)]
                            first
                              | (rw [if_neg (fun ⟨j, s, t, h1, h2, h3⟩ => hall j s t (by have := (List.getElem?_eq_some_iff.1 h2).1; omega) h1 h2 h3)]))))
            ·
             refine sq ?_; refine WC.skip ?_; refine rg ?_; refine Sa V.mv ?_; refine Sa V.va ?_; refine Sa V.asg ?_; refine Wn ?_; refine' ⟨(i + 1), _, ?hinv, ?hmeas, rfl, ⟨?m9, rfl, trivial⟩, List.Sublist.refl _, rfl⟩; case m9 => exact nq
             case hmeas => exact om
             case hinv => exact ⟨by omega, take_all hall hs (fun q => by subst q; exact c115 rfl)⟩
           ·
            have hne : ∀ s ∈ setsS g, s ≠ [] := by
              rw [List.take_of_length_le (by omega)] at hall; exact hall
            refine sq ?_; refine WC.exit ?_; refine rg ?_; refine Sa V.asg ?_; refine ns ?_; refine WC.block ?_; refine' WC.weak (l' := [(10, .int .i64 ((1) : Int)), (8, _)]) ⟨?w10, rfl, trivial⟩ (List.Sublist.refl _) ?_; case w10 => exact nq
            refine sq ?_; refine' WC.loopG (α := Nat) (fun (i : Nat) => [(10, .int .i64 (i : Int))]) (fun (i : Nat) => [dpB a5 (deepS es), (a1, .row (gC g bn cn bi ci) 25)]) (fun (i : Nat) => J1) (fun (i : Nat) => 1 ≤ i ∧ (∀ (j : Nat) (s t : List Int), j + 1 < i → (setsS g)[j]? = some s → (setsS g)[j + 1]? = some t → ¬ hdS t < hdS s)) (fun (i : Nat) => (setsS g).length - i) (1) ?hs ?hstep; case hs => exact ⟨Nat.le_refl _, fun j s t h => by omega⟩
            case hstep =>
             rintro i hinv; try simp only at hinv
             obtain ⟨hi, hall⟩ := hinv; refine rg ?_; refine Sa V.mv ?_; refine Sa V.mv ?_; refine Sa V.ls ?_; refine Sa V.vi ?_; refine ns ?_; refine If (fun c119 => ?_) fun c119 => ?_
             ·
              obtain ⟨aq, offs, cellss, es', rfl, hJs, hgets⟩ := hge (by omega); obtain ⟨s1, cs1, hs1, hcs1, hks1, b1, c1, rfl, hsI1⟩ := hgets i (by omega) (by omega); obtain ⟨s0, cs0, hs0, hcs0, hks0, b0, c0, rfl, hsI0⟩ := hgets ((i : Int) - 1) (by omega) (by omega); have hk1 := hks1 0 _ (by decide) rfl; have hk0 := hks0 0 _ (by decide) rfl; rw [Int.toNat_natCast] at hs1; have hs0' : (setsS g)[i - 1]? = some s0 := by rw [← hs0]; congr 1; omega
              have n1 : 0 < s1.length := List.length_pos_iff.2 (hne _ (List.mem_of_getElem? hs1)); have n0 : 0 < s0.length := List.length_pos_iff.2 (hne _ (List.mem_of_getElem? hs0')); obtain ⟨a1, off1, cells1, rfl, hro1, hget1⟩ := hsI1.ri [] n1; obtain ⟨a0, off0, cells0, rfl, hro0, hget0⟩ := hsI0.ri [] n0; obtain ⟨x1, hx1, hnx1⟩ := hget1 0 (by omega) (by omega); obtain ⟨x0, hx0, hnx0⟩ := hget0 0 (by omega) (by omega); have hx1' : s1[0]? = some x1 := hx1; have hx0' : s0[0]? = some x0 := hx0; refine sk ?_; refine sq ?_; refine WC.block ?_; refine sq ?_; refine WC.draw rfl (by kernel_rfl) (plan := [.val 0, .val 1, .val 2, .val 3, .val 4, .val 5, .val 6, .val 7, .val 8, .val 9, .val 10, .val 11, .val 12, .val 13]) (by kernel_rfl) ?_; refine Da rfl V.mv ?_; refine Da rfl V.mv ?_; refine Da rfl V.ix ?_; refine Da rfl V.ld ?_; refine Da rfl V.ix ?_; refine' WD.val rfl rfl rfl rfl (v_load rfl rfl ?hr (part1 (tAg rfl) ?hv)) ?_; case hr => exact hro1.sub (fun _ q => by cases q)
              case hv => first | rfl | assumption
              refine Da rfl V.mv ?_; refine Da rfl V.mv ?_; refine Da rfl V.va ?_; refine Da rfl V.ix ?_; refine Da rfl V.ld ?_; refine Da rfl V.ix ?_; refine' WD.val rfl rfl rfl rfl (v_load rfl rfl ?hr (part1 (tAg rfl) ?hv)) ?_; case hr => exact hro0.sub (fun _ q => by cases q)
              case hv => first | rfl | assumption
              refine Da rfl V.vi ?_; refine WD.nil ?_; refine sq ?_; refine If (fun c135 => ?_) fun c135 => ?_
              ·
               refine rg ?_; refine Sa V.asg ?_; refine ns ?_; refine WC.ret ?_; refine Lf ?_; refine ⟨congrArg (Value.int .i64) ?_, rfl, by first | exact Jm.le.refl _ | exact hle1⟩; symm; first
                 | exact formS_range c36
                 | (have c := c59
                    exact formS_order c36 hns0 (fun ⟨es, q⟩ => by rw [q] at hm; simp only at hm; omega))
                 | exact formS_deep c36 hns0 htr c61
                 | (rw [formS_sets c36 hns0 htr c61]
                    unfold setsE; first
                      | (have c := hty
                         rw [if_neg hty]; first
                           | (rw [if_neg (fun ⟨s, h1, h2⟩ => hne s h1 h2)]
                              first
                                | (have c := c135; rw [if_pos ⟨i - 1, s0, s1, hs0', by rw [show i - 1 + 1 = i by omega]; exact hs1, by rw [hdS_get hx0', hdS_get hx1']; exact c135⟩])
                                | (rw [if_neg (fun ⟨j, s, t, h1, h2, h3⟩ => hall j s t (by have := (List.getElem?_eq_some_iff.1 h2).1; omega) h1 h2 h3)]))))
              ·
               refine sq ?_; refine WC.skip ?_; refine rg ?_; refine Sa V.mv ?_; refine Sa V.va ?_; refine Sa V.asg ?_; refine Wn ?_; refine' ⟨(i + 1), _, ?hinv, ?hmeas, rfl, ⟨?m10, rfl, trivial⟩, List.Sublist.refl _, rfl⟩; case m10 => exact nq
               case hmeas => exact om
               case hinv => refine ⟨by omega, fun j s t hj h1 h2 => ?_⟩; by_cases q : j + 1 < i; (exact hall j s t q h1 h2); (obtain rfl : j = i - 1 := by omega); (rw [hs0'] at h1; rw [show i - 1 + 1 = i by omega, hs1] at h2; injection h1 with h1; injection h2 with h2; subst h1; subst h2; rw [hdS_get hx0', hdS_get hx1']; omega)
             ·
              refine sq ?_; refine WC.exit ?_; refine rg ?_; refine Sa V.asg ?_; refine ns ?_; refine WC.ret ?_; refine Lf ?_; refine ⟨congrArg (Value.int .i64) ?_, rfl, by first | exact Jm.le.refl _ | exact hle1⟩; symm; first
                | exact formS_range c36
                | (have c := c59
                   exact formS_order c36 hns0 (fun ⟨es, q⟩ => by rw [q] at hm; simp only at hm; omega))
                | exact formS_deep c36 hns0 htr c61
                | (rw [formS_sets c36 hns0 htr c61]
                   unfold setsE; first
                     | (have c := hty
                        rw [if_neg hty]; first
                          | (rw [if_neg (fun ⟨s, h1, h2⟩ => hne s h1 h2)]
                             first
                               | (rw [if_neg (fun ⟨j, s, t, h1, h2, h3⟩ => hall j s t (by have := (List.getElem?_eq_some_iff.1 h2).1; omega) h1 h2 h3)]))))
end
end Go.Opn

/- A part of the proof of ResumeSaves. -/
import Derived.Test.YtmeojgcibppcmaaDoorRw
set_option maxRecDepth 100000
set_option maxHeartbeats 4000000
set_option linter.unusedVariables false
set_option linter.unusedSimpArgs false
namespace Go.Opn
open Go.Cre Go.RowKit Go.Proofs
section
variable {Q : Worlds Tryd.prog} {g0 : Nat} {J : Jm}
theorem perffor_fn {g : Gm} {bn bi : Option Addr} {cn ci : Nat} {p : Int} (hg : GmR J g bn cn bi ci) (hok : FormOk g) :
    Fn (kx Q g0) 70 [gV g bn cn bi ci, .int .i64 p] [] J (fun u m' J' => (∃ b, u = .bool b ∧ (b = true ↔ perfP g p)) ∧ m' = [] ∧ J.le J') := by
  have qi : addrEq bi bi = true := hg.i.addr; have qn : addrEq bn bn = true := hg.n.addr; refine Fn.of_body (ftGet Tryd.func70) rfl rfl fun H => ?_; refine rg ?_; refine bx fun a2 => ?_; refine Sa V.asg ?_; refine nr ?_; refine Sa V.ldA ?_; refine cl (G := flaws_fn hg hok) (h := ?_); rintro v m' J1 hle1 ⟨b, c, L, rfl, rfl, _, hel, hfw, hLl⟩; refine Sa V.asg ?_; refine Wn ?_; have hp := flaw_perf hok hfw p; obtain ⟨_, hgl⟩ := hel.at; have hgc := hg.mono hle1; obtain ⟨_, hgi⟩ := hgc.i.at; refine rg ?_; refine Sa V.asg ?_; refine ns ?_; refine WC.block ?_; refine' WC.weak (l' := [(6, .int .i64 ((0) : Int)), (1, _), (2, _), (5, _)]) ⟨?w6, rfl, rfl, rfl, trivial⟩ (List.Sublist.refl _) ?_; case w6 => exact nq
  refine sq ?_; refine' WC.loopG (α := Nat) (fun (i : Nat) => [(6, .int .i64 (i : Int))]) (fun (i : Nat) => [(a2, .row (gC g bn cn bi ci) 25)]) (fun (i : Nat) => J1) (fun (i : Nat) => i ≤ L.length ∧ ∀ f ∈ L.take i, plyS g f.2.2.1.toNat ≠ p) (fun (i : Nat) => L.length - i) (0) ?hs ?hstep; case hs => exact ⟨Nat.zero_le _, fun x hx => by cases hx⟩
  case hstep =>
   rintro i hinv; try simp only at hinv
   obtain ⟨hi, hall⟩ := hinv; refine rg ?_; refine Sa V.mv ?_; refine Sa V.mv ?_; refine Sa V.ls ?_; refine Sa V.vi ?_; refine ns ?_; refine If (fun c12 => ?_) fun c12 => ?_
   ·
    obtain ⟨al, ol, cll, el, rfl, hJl, hgtl⟩ := hgl (by omega); obtain ⟨f, csf, hf, hcsf, hksf, rfl⟩ := hgtl i (by omega) (by omega); rw [Int.toNat_natCast] at hf; have hkf2 := hksf 2 _ (by decide) rfl; have hflt := hfw.lt f (List.mem_of_getElem? hf); have hfne : f.2.2.1 ≠ g.is.length := fun q => absurd (hfw.cur.1 ⟨f, List.mem_of_getElem? hf, q⟩) id; obtain ⟨ai, oi, cli, ei, rfl, hJi, hgti⟩ := hgi (by omega); obtain ⟨y, csi, hy, hcsi, hksi, rfl⟩ := hgti f.2.2.1 (by omega) (by omega); have hki0 := hksi 0 _ (by decide) rfl; have hply : plyS g f.2.2.1.toNat = y.1 := by unfold plyS; rw [hy]
    refine sk ?_; refine sq ?_; refine WC.block ?_; refine sq ?_; refine WC.draw rfl (by kernel_rfl) (plan := [.val 0, .val 1, .val 2, .val 3, .val 4, .val 5, .val 6, .val 7, .val 8, .val 9, .val 10, .val 11]) (by kernel_rfl) ?_; refine Da rfl V.fa ?_; refine Da rfl V.ld ?_; refine Da rfl V.mv ?_; refine Da rfl V.mv ?_; refine Da rfl V.ix ?_; refine Da rfl V.fa ?_; refine Da rfl V.ld ?_; refine Da rfl V.ix ?_; refine Da rfl V.fa ?_; refine Da rfl V.ld ?_; refine Da rfl V.mv ?_; refine Da rfl V.vi ?_; refine WD.nil ?_; refine sq ?_; refine If (fun c26 => ?_) fun c26 => ?_
    ·
     refine rg ?_; refine Sa V.asg ?_; refine ns ?_; refine WC.ret ?_; refine Lf ?_; first
       | (have c := c26
          exact ⟨⟨false, rfl, by simp; exact hp.1 ⟨f, List.mem_of_getElem? hf, by rw [hply]; exact c26⟩⟩, rfl, hle1⟩)
       | (refine ⟨⟨true, rfl, by
            simp
            apply Classical.byContradiction
            intro q; obtain ⟨f, hf, e⟩ := hp.2 q; rw [List.take_of_length_le (by omega)] at hall; exact hall f hf e⟩, rfl, hle1⟩)
    ·
     refine sq ?_; refine WC.skip ?_; refine rg ?_; refine Sa V.mv ?_; refine Sa V.va ?_; refine Sa V.asg ?_; refine Wn ?_; refine' ⟨(i + 1), _, ?hinv, ?hmeas, rfl, ⟨?m6, rfl, rfl, rfl, trivial⟩, List.Sublist.refl _, rfl⟩; case m6 => exact nq
     case hmeas => exact om
     case hinv => exact ⟨by omega, take_all hall hf (by rw [hply]; exact c26)⟩
   ·
    refine sq ?_; refine WC.exit ?_; refine rg ?_; refine Sa V.asg ?_; refine ns ?_; refine WC.ret ?_; refine Lf ?_; first
      | (refine ⟨⟨true, rfl, by
           simp
           apply Classical.byContradiction
           intro q; obtain ⟨f, hf, e⟩ := hp.2 q; rw [List.take_of_length_le (by omega)] at hall; exact hall f hf e⟩, rfl, hle1⟩)
theorem rparof_fn {g : Gm} {bn bi : Option Addr} {cn ci : Nat} (hg : GmR J g bn cn bi ci) (hf : formS g = 0) :
    Fn (kx Q g0) 55 [gV g bn cn bi ci] [] J (fun u m' J' => ∃ w, u = .tuple #[w, .int .i64 (properS g)] ∧ m' = [] ∧ J.le J') := by
  have qi : addrEq bi bi = true := hg.i.addr; have qn : addrEq bn bn = true := hg.n.addr; have hok := formS_ok hf; have n2 := hok.n2; have i2 := hok.i2; have p4 := hok.p4; refine Fn.of_body (ftGet Tryd.func55) rfl rfl fun H => ?_; refine rg ?_; refine bx fun a1 => ?_; refine Sa V.asg ?_; refine Sa V.asg ?_; refine nr ?_; refine Sa V.asg ?_; refine ns ?_; refine WC.block ?_; refine' WC.weak (l' := [(4, .int .i64 ((0) : Int)), (1, _)]) ⟨?w4, rfl, trivial⟩ (List.Sublist.refl _) ?_; case w4 => exact nq
  refine sq ?_; refine' WC.loopG (α := Nat × Jm) (fun (i, Jc) => [(4, .int .i64 (i : Int))]) (fun (i, Jc) => [(a1, .row (gC g bn cn bi ci) 25)]) (fun (i, Jc) => Jc) (fun (i, Jc) => (i : Int) ≤ g.pl ∧ (∀ p : Int, 0 ≤ p → p < i → perfP g p) ∧ J.le Jc) (fun (i, Jc) => (g.pl - i).toNat) ⟨0, J⟩ ?hs ?hstep; case hs => exact ⟨by have := hok.p1; omega, fun p h1 h2 => by omega, Jm.le.refl _⟩
  case hstep =>
   rintro ⟨i, Jc⟩ hinv; try simp only at hinv
   obtain ⟨hi, hall, hJc⟩ := hinv; refine rg ?_; refine Sa V.mv ?_; refine Sa V.fa ?_; refine Sa V.ld ?_; refine Sa V.vi ?_; refine ns ?_; refine If (fun c13 => ?_) fun c13 => ?_
   ·
    refine sq ?_; refine WC.skip ?_; refine sq ?_; refine WC.block ?_; refine rg ?_; refine Sa V.ldA ?_; refine Sa V.mv ?_; refine cl (G := perffor_fn (p := i) (hg.mono hJc) hok) (h := ?_); rintro v m' J2 hle2 ⟨⟨b, rfl, hb⟩, rfl, _⟩; refine Sa V.nt ?_; refine ns ?_; refine If (fun c19 => ?_) fun c19 => ?_
    ·
     have hbad : properS g = 13 := by
       unfold properS; rw [if_neg (by omega), if_pos ⟨(i : Int), by omega, by omega, fun q => by rw [hb.2 q] at c19; simp at c19⟩]
     refine rg ?_; refine Sa V.asg ?_; refine Sa V.asg ?_; refine ns ?_; refine WC.ret ?_; refine Lf ?_; first
       | (have c := c19
          rw [← hbad]; exact ⟨_, rfl, rfl, hJc.trans hle2⟩)
       | (rw [← hgood]
          exact ⟨_, rfl, rfl, hle12.trans hJd⟩)
    ·
     refine sq ?_; refine WC.skip ?_; refine rg ?_; refine Sa V.mv ?_; refine Sa V.va ?_; refine Sa V.asg ?_; refine Wn ?_; refine' ⟨⟨i + 1, _⟩, _, ?hinv, ?hmeas, rfl, ⟨?m4, rfl, trivial⟩, List.Sublist.refl _, rfl⟩; case m4 => exact nq
     case hmeas => exact om
     case hinv => refine ⟨by omega, fun p h1 h2 => ?_, hJc.trans hle2⟩; by_cases q : p < i; (exact hall p h1 q); (obtain rfl : p = i := by omega); (exact hb.1 (by simpa using c19))
   ·
    have hgood : properS g = 0 := by
      unfold properS; rw [if_neg (by omega), if_neg (fun ⟨p, h1, h2, h3⟩ => h3 (hall p h1 (by omega)))]
    refine sq ?_; refine WC.exit ?_; refine rg ?_; refine Sa V.ldA ?_; refine cl (G := setsof_fn (hg.mono hJc) n2 i2 hok.nodes) (h := ?_); rintro v m' J2 hle2 ⟨bs, cs, rfl, rfl, _, hel⟩; refine Sa V.asg ?_; refine Wn ?_; obtain ⟨_, hge⟩ := hel.at; have hsl : (setsS g).length = g.is.length := setsS_len; have hle12 := hJc.trans hle2; refine rg ?_; refine Sa V.asg ?_; refine nr ?_; refine Sa V.asg ?_; refine ns ?_; refine WC.block ?_; refine' WC.weak (l' := [(6, (.slice none 0 0)), (7, .int .i64 ((0) : Int)), (1, _), (5, _)]) ⟨?w6, ?w7, rfl, rfl, trivial⟩ (List.Sublist.refl _) ?_; case w6 => exact nq
    case w7 => exact nq
    refine sq ?_; refine' WC.loopG (α := Nat × (List (Int × Int)) × Value × Mm × Jm) (fun (k, s, v, mo, Jd) => [(6, v), (7, .int .i64 (k : Int))]) (fun (k, s, v, mo, Jd) => mo ++ [(a1, .row (gC g bn cn bi ci) 25)]) (fun (k, s, v, mo, Jd) => Jd) (fun (k, s, v, mo, Jd) => k ≤ g.is.length ∧ s.length = k ∧ Acc 127 2 v s.length (prC s) mo ∧ J2.le Jd) (fun (k, s, v, mo, Jd) => g.is.length - k) ⟨0, [], .slice none 0 0, [], J2⟩ ?hs ?hstep; case hs => exact ⟨Nat.zero_le _, rfl, .nil, Jm.le.refl _⟩
    case hstep =>
     rintro ⟨k, s, v, mo, Jd⟩ hinv; try simp only at hinv
     obtain ⟨hk, hsk, hacc, hJd⟩ := hinv; refine rg ?_; refine Sa V.mv ?_; refine Sa V.fa ?_; refine Sa V.ld ?_; refine Sa V.ls ?_; refine Sa V.vi ?_; refine ns ?_; refine If (fun c26 => ?_) fun c26 => ?_
     ·
      have hgc := hg.mono (hle12.trans hJd); obtain ⟨_, hgi⟩ := hgc.i.at; obtain ⟨ae, oe, cle, ee, rfl, hJe, hgte⟩ := hge (by omega); obtain ⟨z, css, hs, hcss, hkss, bss, cs0, rfl, hsI⟩ := hgte k (by omega) (by omega); have hks0 := hkss 0 _ (by decide) rfl; obtain ⟨ai, oi, cli, ei, rfl, hJi, hgti⟩ := hgi (by omega); obtain ⟨y, csi, hy, hcsi, hksi, rfl⟩ := hgti k (by omega) (by omega); have hki0 := hksi 0 _ (by decide) rfl; rw [Int.toNat_natCast] at hs hy; have hset : z = setS (k : Int) 0 g.ns := by rw [setsS_get (by omega)] at hs; injection hs with hs; exact hs.symm
      have hsn : z ≠ [] := hok.sets z (List.mem_of_getElem? hs); have hsl0 : 0 < z.length := List.length_pos_iff.2 hsn; have hin : ∀ x ∈ z, ∃ c : Nat, x = (c : Int) ∧ c < g.ns.length := fun x hx => by
        rw [hset] at hx; obtain ⟨c, h1, z, h2, _⟩ := setS_in hx; exact ⟨c, h1, (List.getElem?_eq_some_iff.1 h2).1⟩
      have hJe := hJd _ _ hJe; have hri := hsI.ri []; obtain ⟨asl, offs, cls, rfl, hros, hgts⟩ := hri hsl0; obtain ⟨x0, hx0, hnx0⟩ := hgts 0 (by omega) (by omega); obtain ⟨es, hJs⟩ := hros.pubE; have hJs := hJd _ _ hJs; obtain ⟨c0, hc0, hc0n⟩ := hin x0 (List.mem_of_getElem? hx0); subst hc0; refine sk ?_; refine sq ?_; refine WC.block ?_; refine sq ?_; refine WC.draw rfl (by kernel_rfl) (plan := [.val 0, .val 1, .val 2, .val 3, .val 4, .val 5, .val 6, .val 7, .val 8, .val 9, .val 10, .val 11, .val 12, .chn 13, .val 14]) (by kernel_rfl) ?_; refine Da rfl V.ldA ?_; refine Da rfl V.mv ?_; refine Da rfl V.mv ?_; refine Da rfl V.ix ?_; refine Da rfl V.ld ?_; refine Da rfl V.ix ?_; refine Da rfl V.ld ?_; refine Da rfl V.fa ?_; refine Da rfl V.ld ?_; refine Da rfl V.mv ?_; refine Da rfl V.ix ?_; refine Da rfl V.fa ?_; refine Da rfl V.ld ?_; refine dl rfl (G := rway_fn hgc hok hc0n) (h := ?_); rintro v m' J3 hle3 ⟨bw, cw, aw, rfl, rfl, _, hw⟩; refine Da rfl V.asg ?_; refine WD.nil ?_; obtain ⟨_, hgw⟩ := hw.at; have hwlen : (wayS g (parS g) y.1 c0).length ≤ 2000 := by have := mvL_len (g := g) (P := parS g) (p := y.1) c0 c0 (Nat.le_refl _); unfold wayS wayL; rw [List.length_reverse, List.length_map]; omega
      refine WC.permM (m' := (aw, _) :: (mo ++ _)) (.refl _) ?_; refine rg ?_; refine Sa V.bd ?_; refine' W.step rfl (.of (x_alloc rfl rfl rfl (ze127 Q g0) rfl rfl rfl fun a9 => ?_)); refine Ss ?_; refine nr ?_; refine Sa V.mv ?_; refine Sa V.ls ?_; refine Sa V.vi ?_; refine ns ?_; refine If (fun c46 => ?_) fun c46 => ?_
      ·
       obtain ⟨ax, ox, clx, ex, rfl, hJx, hgtx⟩ := hgw (by omega); obtain ⟨wl, csx, hwl, hcsx, hksx, rfl⟩ := hgtx (((wayS g (parS g) y.1 c0).length : Int) - 1) (by omega) (by omega); have hkx0 := hksx 0 _ (by decide) rfl; have hkx1 := hksx 1 _ (by decide) rfl; refine sq ?_; refine WC.draw rfl (by kernel_rfl) (plan := [.val 0, .val 1, .val 2, .val 3, .val 4, .val 5, .val 6, .val 7, .val 8, .val 9, .val 10, .val 11, .val 12, .val 13, .val 14, .chn 15]) (by kernel_rfl) ?_; refine Da rfl V.mv ?_; refine Da rfl V.mv ?_; refine Da rfl V.ls ?_; refine Da rfl V.va ?_; refine Da rfl V.ix ?_; refine Da rfl V.iA ?_; refine Da rfl V.ld ?_; refine Da rfl V.mv ?_; refine Da rfl V.mv ?_; refine Da rfl V.ls ?_; refine Da rfl V.va ?_; refine Da rfl V.ix ?_; refine Da rfl V.iA ?_; refine Da rfl V.ld ?_; refine Da rfl V.bd ?_; refine Ds rfl ?_; refine WD.nil ?_; refine rg ?_; refine Sa V.mv ?_; refine Sa V.ldA ?_; refine bsl (sb104 Q g0) fun a64 => ?_; refine' W.step rfl (.of (x_accP rfl rfl rfl rfl rfl rfl (sb104 Q g0) (un104 Q g0) (fun i q => by cases q) ?hacc ?hm ?hx ?hnl ?hne ?hl fun w65 mo65 hacc65 => ?_)); case hacc => assumption
       case hm => exact pq
       case hx => exact qx
       case hnl => first | rfl | (simp; done) | (simp; omega)
       case hne => first | rfl | exact ints_one _
       case hl => exact om
       refine Sa V.asg ?_; refine nr ?_; refine Sa V.mv ?_; refine Sa V.va ?_; refine Sa V.asg ?_; refine Wn ?_; refine' ⟨⟨k + 1, s ++ [wl], w65, mo65, _⟩, _, ?hinv, ?hmeas, rfl, ⟨?m6, ?m7, rfl, rfl, trivial⟩, List.Sublist.append (l₁ := mo65) (l₂ := mo65) (.refl _) (.cons _ (.cons _ (.cons _ (.refl _)))), rfl⟩; case m6 => exact nq
       case m7 => exact nq
       case hmeas => exact om
       case hinv => exact ⟨by omega, by simp; omega, hacc65.to (by simp) (by rw [prC_app]; rfl), hJd.trans hle3⟩
      ·
       refine sq ?_; refine WC.skip ?_; refine rg ?_; refine Sa V.mv ?_; refine Sa V.ldA ?_; refine bsl (sb104 Q g0) fun a64 => ?_; refine' W.step rfl (.of (x_accP rfl rfl rfl rfl rfl rfl (sb104 Q g0) (un104 Q g0) (fun i q => by cases q) ?hacc ?hm ?hx ?hnl ?hne ?hl fun w65 mo65 hacc65 => ?_)); case hacc => assumption
       case hm => exact pq
       case hx => exact qx
       case hnl => first | rfl | (simp; done) | (simp; omega)
       case hne => first | rfl | exact ints_one _
       case hl => exact om
       refine Sa V.asg ?_; refine nr ?_; refine Sa V.mv ?_; refine Sa V.va ?_; refine Sa V.asg ?_; refine Wn ?_; refine' ⟨⟨k + 1, s ++ [(-1, -1)], w65, mo65, _⟩, _, ?hinv, ?hmeas, rfl, ⟨?m6, ?m7, rfl, rfl, trivial⟩, List.Sublist.append (l₁ := mo65) (l₂ := mo65) (.refl _) (.cons _ (.cons _ (.cons _ (.refl _)))), rfl⟩; case m6 => exact nq
       case m7 => exact nq
       case hmeas => exact om
       case hinv => exact ⟨by omega, by simp; omega, hacc65.to (by simp) (by rw [prC_app]; rfl), hJd.trans hle3⟩
     ·
      refine sq ?_; refine WC.exit ?_; refine rg ?_; refine Sa V.mv ?_; refine Sa V.asg ?_; refine Sa V.asg ?_; refine ns ?_; refine WC.ret ?_; refine Lf ?_; first
        | (rw [← hgood]
           exact ⟨_, rfl, rfl, hle12.trans hJd⟩)
end
section
variable {Q : Worlds Tryd.prog} {g0 : Nat} {J : Jm}
theorem ready_fn {g : Gm} {bn bi : Option Addr} {cn ci : Nat} (hg : GmR J g bn cn bi ci) :
    Fn (kx Q g0) 39 [gV g bn cn bi ci] [] J (RetJ (.int .i64 (properS g)) J) := by
  have qi : addrEq bi bi = true := hg.i.addr; have qn : addrEq bn bn = true := hg.n.addr; refine Fn.of_body (ftGet Tryd.func39) rfl rfl fun H => ?_; refine rg ?_; refine bx fun a1 => ?_; refine Sa V.asg ?_; refine nr ?_; refine Sa V.ldA ?_; refine cl (G := rform_fn hg) (h := ?_); rintro v m' J1 hle1 ⟨rfl, rfl, _⟩; refine Sa V.asg ?_; refine nr ?_; refine Sa V.mv ?_; refine Sa V.vi ?_; refine ns ?_; refine If (fun c9 => ?_) fun c9 => ?_
  ·
   have hp : properS g = formS g := by unfold properS; rw [if_pos c9]
   refine rg ?_; refine Sa V.mv ?_; refine Sa V.asg ?_; refine ns ?_; refine WC.ret ?_; refine Lf ?_; first
     | (have c := w; exact ⟨rfl, rfl, hle1.trans hle2⟩)
     | (rw [hp]; exact ⟨rfl, rfl, hle1⟩)
  ·
   refine sq ?_; refine WC.skip ?_; refine rg ?_; refine Sa V.ldA ?_; refine cl (G := rparof_fn (hg.mono hle1) (Classical.not_not.1 c9)) (h := ?_); rintro v m' J2 hle2 ⟨w, rfl, rfl, _⟩; refine Sa V.mv ?_; refine Sa V.ex ?_; refine Sa V.ex ?_; refine Sa V.asg ?_; refine Sa V.asg ?_; refine nr ?_; refine Sa V.mv ?_; refine Sa V.asg ?_; refine ns ?_; refine WC.ret ?_; refine Lf ?_; first
     | (have c := w; exact ⟨rfl, rfl, hle1.trans hle2⟩)
     | (rw [hp]; exact ⟨rfl, rfl, hle1⟩)
theorem rlists_fn {g : Gm} {bn bi : Option Addr} {cn ci : Nat} {l : List (List Int)} {b : Option Addr} {c : Nat} {lo : Int} (hg : GmR J g bn cn bi ci) (hl : Elems J 38 1 (LsR J) (.slice b l.length c) l) (h1 : l.length ≤ 1000) (h2 : ∀ r ∈ l, r.length ≤ 1000) :
    Fn (kx Q g0) 56 [gV g bn cn bi ci, .slice b l.length c, .int .i64 lo] [] J (fun u m' J' => u = .int .i64 (listsS g l lo) ∧ m' = [] ∧ J = J') := by
  have qi : addrEq bi bi = true := hg.i.addr; have qn : addrEq bn bn = true := hg.n.addr; obtain ⟨_, hgi⟩ := hg.i.at; obtain ⟨_, hgl⟩ := hl.at; refine Fn.of_body (ftGet Tryd.func56) rfl rfl fun H => ?_; refine rg ?_; refine bx fun a3 => ?_; refine Sa V.asg ?_; refine nr ?_; refine Sa V.mv ?_; refine Sa V.ls ?_; refine Sa V.fa ?_; refine Sa V.ld ?_; refine Sa V.ls ?_; refine Sa V.vi ?_; refine ns ?_; refine If (fun c14 => ?_) fun c14 => ?_
  ·
   refine rg ?_; refine Sa V.asg ?_; refine ns ?_; refine WC.ret ?_; refine Lf ?_; refine ⟨congrArg (Value.int .i64) ?_, rfl, rfl⟩; unfold listsS; first
     | (have c := hrow; rw [if_neg (by omega), hrow, rowsE_end (by omega)])
     | rw [if_pos (by omega)]
  ·
   refine sq ?_; refine WC.skip ?_; refine rg ?_; refine Sa V.asg ?_; refine ns ?_; refine WC.block ?_; refine' WC.weak (l' := [(7, .int .i64 ((0) : Int)), (1, _), (2, _), (3, _)]) ⟨?w7, rfl, rfl, rfl, trivial⟩ (List.Sublist.refl _) ?_; case w7 => exact nq
   refine sq ?_; refine' WC.loopG (α := Nat) (fun (i : Nat) => [(7, .int .i64 (i : Int))]) (fun (i : Nat) => [(a3, .row (gC g bn cn bi ci) 25)]) (fun (i : Nat) => J) (fun (i : Nat) => i ≤ l.length ∧ rowsE lo l g.is = rowsE lo (l.drop i) (g.is.drop i)) (fun (i : Nat) => l.length - i) (0) ?hs ?hstep; case hs => exact ⟨Nat.zero_le _, rfl⟩
   case hstep =>
    rintro i hinv; try simp only at hinv
    obtain ⟨hi, hrow⟩ := hinv; refine rg ?_; refine Sa V.mv ?_; refine Sa V.mv ?_; refine Sa V.ls ?_; refine Sa V.vi ?_; refine ns ?_; refine If (fun c18 => ?_) fun c18 => ?_
    ·
     obtain ⟨ae, oe, cle, ee, rfl, hJe, hgte⟩ := hgl (by omega); obtain ⟨r, css, hr, hcss, hkss, br, cr, rfl, hrI⟩ := hgte i (by omega) (by omega); have hks0 := hkss 0 _ (by decide) rfl; obtain ⟨ai, oi, cli, ei, rfl, hJi, hgti⟩ := hgi (by omega); obtain ⟨y, csi, hy, hcsi, hksi, rfl⟩ := hgti i (by omega) (by omega); have hki1 := hksi 1 _ (by decide) rfl; rw [Int.toNat_natCast] at hr hy; have hr2 := h2 r (List.mem_of_getElem? hr); have hri := hrI.ri []; refine sk ?_; refine sq ?_; refine WC.block ?_; refine sq ?_; refine WC.draw rfl (by kernel_rfl) (plan := [.val 0, .val 1, .val 2, .val 3, .val 4, .val 5, .val 6, .val 7, .val 8, .val 9, .val 10, .val 11]) (by kernel_rfl) ?_; refine Da rfl V.mv ?_; refine Da rfl V.mv ?_; refine Da rfl V.ix ?_; refine Da rfl V.ld ?_; refine Da rfl V.ls ?_; refine Da rfl V.fa ?_; refine Da rfl V.ld ?_; refine Da rfl V.mv ?_; refine Da rfl V.ix ?_; refine Da rfl V.fa ?_; refine Da rfl V.ld ?_; refine Da rfl V.vi ?_; refine WD.nil ?_; refine sq ?_; refine If (fun c32 => ?_) fun c32 => ?_
     ·
      refine rg ?_; refine Sa V.asg ?_; refine ns ?_; refine WC.ret ?_; refine Lf ?_; refine ⟨congrArg (Value.int .i64) ?_, rfl, rfl⟩; unfold listsS; first
        | (have c := c32; rw [if_neg (by omega), hrow, rowsE_at hr hy, if_pos c32])
        | (have c := hrow; rw [if_neg (by omega), hrow, rowsE_end (by omega)])
        | rw [if_pos (by omega)]
     ·
      refine sq ?_; refine WC.skip ?_; refine rg ?_; refine Sa V.asg ?_; refine ns ?_; refine WC.block ?_; refine' WC.weak (l' := [(8, .int .i64 ((0) : Int)), (1, _), (2, _), (3, _), (7, _)]) ⟨?w8, rfl, rfl, rfl, rfl, trivial⟩ (List.Sublist.refl _) ?_; case w8 => exact nq
      refine sq ?_; refine' WC.loopG (α := Nat) (fun (k : Nat) => [(8, .int .i64 (k : Int))]) (fun (k : Nat) => [(a3, .row (gC g bn cn (some ⟨ai, oi, none⟩) ci) 25)]) (fun (k : Nat) => J) (fun (k : Nat) => k ≤ r.length ∧ (r.take k).any (outB lo 70368744177664) = false) (fun (k : Nat) => r.length - k) (0) ?hs ?hstep; case hs => exact ⟨Nat.zero_le _, rfl⟩
      case hstep =>
       rintro k hinv; try simp only at hinv
       obtain ⟨hk, hany⟩ := hinv; refine rg ?_; refine Sa V.mv ?_; refine Sa V.mv ?_; refine Sa V.mv ?_; refine Sa V.ix ?_; refine Sa V.ld ?_; refine Sa V.ls ?_; refine Sa V.vi ?_; refine ns ?_; refine If (fun c39 => ?_) fun c39 => ?_
       ·
        obtain ⟨ax, ox, clx, rfl, hrox, hgtx⟩ := hri (by omega); obtain ⟨ex, hJx⟩ := hrox.pubE; obtain ⟨x, hx, hnx⟩ := hgtx k (by omega) (by omega); refine sk ?_; refine sq ?_; refine WC.block ?_; refine wk [1, 2, 3, 7, 8] ?_; refine sq ?_; refine' WC.cutK 0 [(60, .bool (decide ((x < lo ∨ 70368744177664 < x))))] ?cr11 ?dr11; case cr11 =>
         refine WC.region ?_; refine Sa V.mv ?_; refine Sa V.mv ?_; refine Sa V.ix ?_; refine Sa V.ld ?_; refine Sa V.mv ?_; refine Sa V.ix ?_; refine Sa V.ld ?_; refine Sa V.mv ?_; refine Sa V.vi ?_; refine Sa V.mv ?_; refine Wp 51 (fun gr11_9 => ?_) fun gr11_9 => ?_
         ·
          refine Sn ?_; refine Sn ?_; refine Sn ?_; refine Sn ?_; refine Sn ?_; refine Sn ?_; refine Sn ?_; refine Sn ?_; refine Sa V.pk ?_; refine Wn ?_; exact ce
         ·
          refine Sb V.mv ?_; refine Sb V.mv ?_; refine Sb V.ix ?_; refine Sb V.ld ?_; refine Sb V.mv ?_; refine Sb V.ix ?_; refine Sb V.ld ?_; refine Sb V.vi ?_; refine Sa V.pk ?_; refine Wn ?_; exact ce
        case dr11 =>
         refine sq ?_; refine If (fun c60 => ?_) fun c60 => ?_
         ·
          refine rg ?_; refine Sa V.asg ?_; refine ns ?_; refine WC.ret ?_; refine Lf ?_; refine ⟨congrArg (Value.int .i64) ?_, rfl, rfl⟩; unfold listsS; first
            | (have c := c60; rw [if_neg (by omega), hrow, rowsE_at hr hy, if_neg c32, if_pos (any_at hx (by simp [outB]; omega))])
            | (have c := c32; rw [if_neg (by omega), hrow, rowsE_at hr hy, if_pos c32])
            | (have c := hrow; rw [if_neg (by omega), hrow, rowsE_end (by omega)])
            | rw [if_pos (by omega)]
         ·
          refine sq ?_; refine WC.skip ?_; refine rg ?_; refine Sa V.mv ?_; refine Sa V.va ?_; refine Sa V.asg ?_; refine Wn ?_; refine' ⟨(k + 1), _, ?hinv, ?hmeas, rfl, ⟨?m8, rfl, rfl, rfl, rfl, trivial⟩, List.Sublist.refl _, rfl⟩; case m8 => exact nq
          case hmeas => exact om
          case hinv => exact ⟨by omega, any_next hx hany (by simp [outB]; omega)⟩
       ·
        refine sq ?_; refine WC.exit ?_; refine rg ?_; refine Sa V.mv ?_; refine Sa V.va ?_; refine Sa V.asg ?_; refine Wn ?_; refine' ⟨(i + 1), _, ?hinv, ?hmeas, rfl, ⟨?m7, rfl, rfl, rfl, trivial⟩, List.Sublist.refl _, rfl⟩; case m7 => exact nq
        case hmeas => exact om
        case hinv => refine ⟨by omega, ?_⟩; rw [hrow, rowsE_at hr hy, if_neg c32, if_neg (by rw [List.take_of_length_le (by omega)] at hany; rw [hany]; exact Bool.false_ne_true)]
    ·
     refine sq ?_; refine WC.exit ?_; refine rg ?_; refine Sa V.asg ?_; refine ns ?_; refine WC.ret ?_; refine Lf ?_; refine ⟨congrArg (Value.int .i64) ?_, rfl, rfl⟩; unfold listsS; first
       | (have c := hrow; rw [if_neg (by omega), hrow, rowsE_end (by omega)])
       | rw [if_pos (by omega)]
theorem valid_fn {g : Gm} {bn bi : Option Addr} {cn ci : Nat} {t : Td} {bs bp : Option Addr} {cs cp : Nat} (hg : GmR J g bn cn bi ci) (ht : TdR J t bs cs bp cp) (h1 : t.sum.length ≤ 1000) (h2 : ∀ r ∈ t.sum, r.length ≤ 1000) (h3 : t.pl.length ≤ 1000) (h4 : ∀ r ∈ t.pl, r.length ≤ 1000) :
    Fn (kx Q g0) 40 [gV g bn cn bi ci, tV t bs cs bp cp] [] J (RetJ (.int .i64 (validS g t)) J) := by
  have qi : addrEq bi bi = true := hg.i.addr; have qn : addrEq bn bn = true := hg.n.addr; refine Fn.of_body (ftGet Tryd.func40) rfl rfl fun H => ?_; refine rg ?_; refine bx fun a2 => ?_; refine bx fun a3 => ?_; refine Sa V.asg ?_; refine Wn ?_; refine wk [2, 3] ?_; refine sq ?_; refine' WC.cutK 0 [(23, .bool (decide ((t.r < 0 ∨ 1000000 < t.r ∨ t.s < 0 ∨ 2147483646 < t.s))))] ?cr1 ?dr1; case cr1 =>
   refine WC.region ?_; refine Sa V.fa ?_; refine Sa V.ld ?_; refine Sa V.vi ?_; refine Sa V.mv ?_; refine Wp 9 (fun gr1_3 => ?_) fun gr1_3 => ?_
   ·
    refine Sn ?_; refine Sn ?_; refine Sn ?_; refine Sa V.pk ?_; refine Sa V.mv ?_; refine Sn ?_; refine Sn ?_; refine Sn ?_; refine Sa V.pk ?_; refine Sa V.mv ?_; refine Sn ?_; refine Sn ?_; refine Sn ?_; refine Sa V.pk ?_; refine Wn ?_; exact ce
   ·
    refine Sb V.fa ?_; refine Sb V.ld ?_; refine Sb V.vi ?_; refine Sa V.pk ?_; refine Sa V.mv ?_; refine Wp 14 (fun gr1_8 => ?_) fun gr1_8 => ?_
    ·
     refine Sn ?_; refine Sn ?_; refine Sn ?_; refine Sa V.pk ?_; refine Sa V.mv ?_; refine Sn ?_; refine Sn ?_; refine Sn ?_; refine Sa V.pk ?_; refine Wn ?_; exact ce
    ·
     refine Sb V.fa ?_; refine Sb V.ld ?_; refine Sb V.vi ?_; refine Sa V.pk ?_; refine Sa V.mv ?_; refine Wp 19 (fun gr1_13 => ?_) fun gr1_13 => ?_
     ·
      refine Sn ?_; refine Sn ?_; refine Sn ?_; refine Sa V.pk ?_; refine Wn ?_; exact ce
     ·
      refine Sb V.fa ?_; refine Sb V.ld ?_; refine Sb V.vi ?_; refine Sa V.pk ?_; refine Wn ?_; exact ce
  case dr1 =>
   refine sq ?_; refine If (fun c23 => ?_) fun c23 => ?_
   ·
    refine rg ?_; refine Sa V.asg ?_; refine ns ?_; refine WC.ret ?_; refine Lf ?_; refine ⟨congrArg (Value.int .i64) ?_, rfl, Jm.le.refl _⟩; unfold validS; first
      | rw [if_pos c23]
   ·
    refine sq ?_; refine WC.skip ?_; refine rg ?_; refine Sa V.ldA ?_; refine Sa V.fa ?_; refine Sa V.ld ?_; refine cl (G := rlists_fn hg ht.s h1 h2) (h := ?_); rintro v m' J2 hle2 ⟨rfl, rfl, rfl⟩; refine Sa V.asg ?_; refine nr ?_; refine Sa V.mv ?_; refine Sa V.vi ?_; refine ns ?_; refine If (fun c29 => ?_) fun c29 => ?_
    ·
     refine rg ?_; refine Sa V.mv ?_; refine Sa V.asg ?_; refine ns ?_; refine WC.ret ?_; refine Lf ?_; refine ⟨congrArg (Value.int .i64) ?_, rfl, Jm.le.refl _⟩; unfold validS; first
       | (have c := c29
          first
            | rw [if_neg c23, if_pos c29]
            | rw [if_neg c23, if_neg c29])
       | rw [if_pos c23]
    ·
     refine sq ?_; refine WC.skip ?_; refine rg ?_; refine Sa V.ldA ?_; refine Sa V.fa ?_; refine Sa V.ld ?_; refine cl (G := rlists_fn hg ht.p h3 h4) (h := ?_); rintro v m' J3 hle3 ⟨rfl, rfl, rfl⟩; refine Sa V.asg ?_; refine ns ?_; refine WC.ret ?_; refine Lf ?_; refine ⟨congrArg (Value.int .i64) ?_, rfl, Jm.le.refl _⟩; unfold validS; first
       | (have c := c29
          first
            | rw [if_neg c23, if_pos c29]
            | rw [if_neg c23, if_neg c29])
       | rw [if_pos c23]
theorem rcheck_fn {g : Gm} {bn bi : Option Addr} {cn ci : Nat} {t : Td} {bs bp : Option Addr} {cs cp : Nat} (hg : GmR J g bn cn bi ci) (ht : TdR J t bs cs bp cp) (h1 : t.sum.length ≤ 1000) (h2 : ∀ r ∈ t.sum, r.length ≤ 1000) (h3 : t.pl.length ≤ 1000) (h4 : ∀ r ∈ t.pl, r.length ≤ 1000) :
    Fn (kx Q g0) 24 [gV g bn cn bi ci, tV t bs cs bp cp] [] J (RetJ (.int .i64 (checkS g t)) J) := by
  have qi : addrEq bi bi = true := hg.i.addr; have qn : addrEq bn bn = true := hg.n.addr; refine Fn.of_body (ftGet Tryd.func24) rfl rfl fun H => ?_; refine rg ?_; refine bx fun a2 => ?_; refine bx fun a3 => ?_; refine Sa V.asg ?_; refine nr ?_; refine Sa V.ldA ?_; refine cl (G := ready_fn hg) (h := ?_); rintro v m' J1 hle1 ⟨rfl, rfl, _⟩; refine Sa V.asg ?_; refine nr ?_; refine Sa V.mv ?_; refine Sa V.vi ?_; refine ns ?_; refine If (fun c9 => ?_) fun c9 => ?_
  ·
   refine rg ?_; refine Sa V.mv ?_; refine Sa V.asg ?_; refine ns ?_; refine WC.ret ?_; refine Lf ?_; first
     | (have c := hle2
        refine ⟨congrArg (Value.int .i64) ?_, rfl, hle1.trans hle2⟩; unfold checkS; rw [if_neg c9])
     | (refine ⟨congrArg (Value.int .i64) ?_, rfl, hle1⟩
        unfold checkS; rw [if_pos c9])
  ·
   refine sq ?_; refine WC.skip ?_; refine rg ?_; refine Sa V.ldA ?_; refine Sa V.ldA ?_; refine cl (G := valid_fn (hg.mono hle1) (ht.mono hle1) h1 h2 h3 h4) (h := ?_); rintro v m' J2 hle2 ⟨rfl, rfl, _⟩; refine Sa V.asg ?_; refine ns ?_; refine WC.ret ?_; refine Lf ?_; first
     | (have c := hle2
        refine ⟨congrArg (Value.int .i64) ?_, rfl, hle1.trans hle2⟩; unfold checkS; rw [if_neg c9])
     | (refine ⟨congrArg (Value.int .i64) ?_, rfl, hle1⟩
        unfold checkS; rw [if_pos c9])
end
end Go.Opn

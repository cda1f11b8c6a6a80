/- A part of the proof of ResumeSaves. -/
import Derived.Test.YtmeojgcibppcmaaDoorRa
set_option maxRecDepth 100000
set_option maxHeartbeats 4000000
set_option linter.unusedVariables false
set_option linter.unusedSimpArgs false
namespace Go.Opn
open Go.Cre Go.RowKit Go.Proofs
theorem Acc.to {e : TypeId} {sz k k' : Nat} {v : Value} {cells cells' : List Value} {mo : Mm} (h : Acc e sz v k cells mo) (hk : k = k') (hc : cells = cells') : Acc e sz v k' cells' mo := by subst hk; subst hc; exact h
theorem Acc.addr {e : TypeId} {sz k n c : Nat} {b : Option Addr} {cells : List Value} {mo : Mm} (h : Acc e sz (.slice b n c) k cells mo) : addrEq b b = true := by
  cases h <;> simp [addrEq]
def numA (g : Gm) (i : Nat) : List Int := [g.pl, (g.ns.length : Int)] ++ (g.ns.take i).flatMap ndN
theorem numA_len {g : Gm} (h : ∀ x ∈ g.ns, nodeS g x = 0) (hp : g.pl ≤ 4) (i : Nat) : (numA g i).length ≤ 2 + 200 * i := by
  unfold numA; induction i with
  | zero => simp
  | succ i ih =>
    cases hx : g.ns[i]? with
    | none =>
      have hl : g.ns.length ≤ i := List.getElem?_eq_none_iff.1 hx; rw [List.take_of_length_le (by omega)] at ih ⊢; omega
    | some x =>
      rw [flat_next hx]; obtain ⟨l1, l2, l3⟩ := node_len (h _ (List.mem_of_getElem? hx)) hp; simp only [List.length_append, ndN, List.length_cons, List.length_nil] at ih ⊢; omega
theorem numA_next {g : Gm} {i : Nat} {x : Nd} (hx : g.ns[i]? = some x) : numA g (i + 1) = numA g i ++ ndN x := by
  unfold numA; rw [flat_next hx, List.append_assoc]
def numB (g : Gm) (j : Nat) : List Int := numA g g.ns.length ++ [(g.is.length : Int)] ++ (g.is.take j).flatMap inN
theorem numB_next {g : Gm} {i : Nat} {x : Int × Int} (hx : g.is[i]? = some x) : numB g (i + 1) = numB g i ++ inN x := by
  unfold numB; rw [flat_next hx]; simp only [List.append_assoc]
theorem numB_len (g : Gm) (j : Nat) : (numB g j).length ≤ (numA g g.ns.length).length + 1 + 2 * j := by
  unfold numB; induction j with
  | zero => simp
  | succ i ih =>
    cases hx : g.is[i]? with
    | none =>
      have hl : g.is.length ≤ i := List.getElem?_eq_none_iff.1 hx; rw [List.take_of_length_le (by omega)] at ih ⊢; omega
    | some x =>
      rw [flat_next hx]; simp only [List.length_append, inN, List.length_cons, List.length_nil] at ih ⊢; omega
theorem numB_all (g : Gm) : numB g g.is.length = numsS g := by
  unfold numB numA numsS; rw [List.take_length, List.take_length]
section
variable {Q : Worlds Tryd.prog} {g0 : Nat} {J : Jm}
theorem numbers_fn {g : Gm} {bn bi : Option Addr} {cn ci : Nat} (hok : FormOk g) (hg : GmR J g bn cn bi ci) :
    Fn (kx Q g0) 33 [gV g bn cn bi ci] [] J (fun u m' J' => ∃ b c, u = .slice b (numsS g).length c ∧ m' = [] ∧ J.le J' ∧ IntsR J' (.slice b (numsS g).length c) (numsS g)) := by
  obtain ⟨_, hgn⟩ := hg.n.at; obtain ⟨_, hgi⟩ := hg.i.at; have n2 := hok.n2; have i2 := hok.i2; refine Fn.of_body (ftGet Tryd.func33) rfl rfl fun H => ?_; refine rg ?_; refine bx fun a1 => ?_; refine Sa V.asg ?_; refine nr ?_; refine Sa V.fa ?_; refine Sa V.ld ?_; refine Sa V.fa ?_; refine Sa V.ld ?_; refine Sa V.ls ?_; refine bsl (sb38 Q g0) fun a12 => ?_; refine Sa V.asg ?_; refine Wn ?_; have hacc0 : Acc 3 1 (.slice (some ⟨a12, 0, none⟩) 2 2) (numA g 0).length ((numA g 0).map (Value.int .i64)) [(a12, .row ((numA g 0).map (Value.int .i64)) 3)] := .cap rfl rfl (Nat.le_refl _) (by decide); refine rg ?_; refine Sa V.asg ?_; refine ns ?_; refine WC.block ?_; refine' WC.weak (l' := [(3, (.slice (some ⟨a12, 0, none⟩) 2 2)), (4, .int .i64 ((0) : Int)), (1, _)]) ⟨?w3, ?w4, rfl, trivial⟩ (List.Sublist.refl _) ?_; case w3 => exact nq
  case w4 => exact nq
  refine sq ?_; refine' WC.loopG (α := Nat × Value × Mm) (fun (i, v, mo) => [(3, v), (4, .int .i64 (i : Int))]) (fun (i, v, mo) => mo ++ [(a1, .row (gC g bn cn bi ci) 25)]) (fun (i, v, mo) => J) (fun (i, v, mo) => i ≤ g.ns.length ∧ Acc 3 1 v (numA g i).length ((numA g i).map (Value.int .i64)) mo) (fun (i, v, mo) => g.ns.length - i) ⟨0, .slice (some ⟨a12, 0, none⟩) 2 2, [(a12, .row ((numA g 0).map (Value.int .i64)) 3)]⟩ ?hs ?hstep; case hs => exact ⟨Nat.zero_le _, hacc0⟩
  case hstep =>
   rintro ⟨i, v, mo⟩ hinv; try simp only at hinv
   obtain ⟨hi, hacc⟩ := hinv; refine rg ?_; refine Sa V.mv ?_; refine Sa V.fa ?_; refine Sa V.ld ?_; refine Sa V.ls ?_; refine Sa V.vi ?_; refine ns ?_; refine If (fun c17 => ?_) fun c17 => ?_
   ·
    obtain ⟨a, off, cells, e', rfl, hJ, hget⟩ := hgn (by omega); obtain ⟨x, cs, hx, hcs, _, hR⟩ := hget i (by omega) (by omega); obtain ⟨b1, c1, b2, c2, b3, c3, rfl, ⟨e1, hx1⟩, ⟨e2, hx2⟩, ⟨e3, hx3⟩⟩ := hR; have q1 := hx1.addr; have q2 := hx2.addr; have q3 := hx3.addr; rw [Int.toNat_natCast] at hx; obtain ⟨l1, l2, l3⟩ := node_len (hok.nodes _ (List.mem_of_getElem? hx)) hok.p4; have hnl := numA_len hok.nodes hok.p4 i; refine sk ?_; refine sq ?_; refine WC.block ?_; refine rg ?_; refine Sa V.fa ?_; refine Sa V.ld ?_; refine Sa V.mv ?_; refine Sa V.ix ?_; refine Sa V.ldA ?_; refine' W.step rfl (.of (x_alloc rfl rfl rfl (ze40 Q g0) rfl rfl rfl fun a5 => ?_)); refine Ss ?_; refine nr ?_; refine Sa V.mv ?_; refine Sa V.fa ?_; refine Sa V.ld ?_; refine Sa V.fa ?_; refine Sa V.ld ?_; refine Sa V.fa ?_; refine Sa V.ld ?_; refine Sa V.fa ?_; refine Sa V.ld ?_; refine Sa V.ls ?_; refine bsl (sb38 Q g0) fun a35 => ?_; refine' W.step rfl (.of (x_accP rfl rfl rfl rfl rfl rfl (sb38 Q g0) (un38 Q g0) (fun i q => by cases q) ?hacc ?hm ?hx ?hnl ?hne ?hl fun w36 mo36 hacc36 => ?_)); case hacc => assumption
    case hm => exact pq
    case hx => exact qx
    case hnl => first | rfl | (simp; done) | (simp; omega)
    case hne => first | rfl | exact ints_one _
    case hl => exact om
    refine Sa V.asg ?_; refine ns ?_; refine WC.draw rfl (by kernel_rfl) (plan := [.val 0, .val 1, .val 2, .val 4, .val 5, .val 6, .alc 7, .chk [6, 5, 4, 2, 1, 0], .chn 3, .chk [6, 5, 4], .chn 8, .chn 9]) (by kernel_rfl) ?_; obtain ⟨b36, c36, rfl⟩ := hacc36.form; have q36 := hacc36.addr; refine Da rfl V.mv ?_; refine Da rfl V.fa ?_; refine Da rfl V.ld ?_; refine Da rfl V.fa ?_; refine Da rfl V.ld ?_; refine Da rfl V.ls ?_; refine WD.buildSlice rfl rfl rfl rfl rfl rfl (sb38 Q g0) rfl rfl rfl fun a44 => ?_; refine WD.chk ck ?_; refine' WD.chnX rfl rfl (x_accP rfl rfl rfl rfl rfl rfl (sb38 Q g0) (un38 Q g0) (fun i q => by cases q) ?hacc ?hm ?hx ?hnl ?hne ?hl fun w40 mo40 hacc40 => ?_); case hacc => assumption
    case hm => exact pq
    case hx => exact qx
    case hnl => first | rfl | (simp; done) | (simp; omega)
    case hne => first | rfl | exact ints_one _
    case hl => exact om
    refine WD.chk ck ?_; refine' WD.chnX rfl rfl (x_accP rfl rfl rfl rfl rfl rfl (sb38 Q g0) (un38 Q g0) (fun i q => by cases q) ?hacc ?hm ?hx ?hnl ?hne ?hl fun w45 mo45 hacc45 => ?_); case hacc => assumption
    case hm => exact pq
    case hx => exact qx
    case hnl => first | rfl | (simp; done) | (simp; omega)
    case hne => first | rfl | exact ints_one _
    case hl => exact om
    refine Db rfl V.asg ?_; refine WD.nil ?_; refine sq ?_; refine WC.draw rfl (by kernel_rfl) (plan := [.val 0, .val 1, .val 2, .val 4, .val 5, .val 6, .alc 7, .chk [6, 5, 4, 2, 1, 0], .chn 3, .chk [6, 5, 4], .chn 8, .chn 9]) (by kernel_rfl) ?_; obtain ⟨b45, c45, rfl⟩ := hacc45.form; have q45 := hacc45.addr; refine Da rfl V.mv ?_; refine Da rfl V.fa ?_; refine Da rfl V.ld ?_; refine Da rfl V.fa ?_; refine Da rfl V.ld ?_; refine Da rfl V.ls ?_; refine WD.buildSlice rfl rfl rfl rfl rfl rfl (sb38 Q g0) rfl rfl rfl fun a53 => ?_; refine WD.chk ck ?_; refine' WD.chnX rfl rfl (x_accP rfl rfl rfl rfl rfl rfl (sb38 Q g0) (un38 Q g0) (fun i q => by cases q) ?hacc ?hm ?hx ?hnl ?hne ?hl fun w49 mo49 hacc49 => ?_); case hacc => assumption
    case hm => exact pq
    case hx => exact qx
    case hnl => first | rfl | (simp; done) | (simp; omega)
    case hne => first | rfl | exact ints_one _
    case hl => exact om
    refine WD.chk ck ?_; refine' WD.chnX rfl rfl (x_accP rfl rfl rfl rfl rfl rfl (sb38 Q g0) (un38 Q g0) (fun i q => by cases q) ?hacc ?hm ?hx ?hnl ?hne ?hl fun w54 mo54 hacc54 => ?_); case hacc => assumption
    case hm => exact pq
    case hx => exact qx
    case hnl => first | rfl | (simp; done) | (simp; omega)
    case hne => first | rfl | exact ints_one _
    case hl => exact om
    refine Db rfl V.asg ?_; refine WD.nil ?_; refine rg ?_; refine Sa V.mv ?_; refine Sa V.fa ?_; refine Sa V.ld ?_; refine' W.step rfl (.of (x_accP rfl rfl rfl rfl rfl rfl (sb38 Q g0) (un38 Q g0) (fun i q => by cases q) ?hacc ?hm ?hx ?hnl ?hne ?hl fun w58 mo58 hacc58 => ?_)); case hacc => assumption
    case hm => exact pq
    case hx => exact qx
    case hnl => first | rfl | (simp; done) | (simp; omega)
    case hne => first | rfl | exact ints_one _
    case hl => exact om
    refine Sa V.asg ?_; refine nr ?_; refine Sa V.mv ?_; refine Sa V.va ?_; refine Sa V.asg ?_; refine Wn ?_; refine' ⟨⟨i + 1, w58, mo58⟩, _, ?hinv, ?hmeas, rfl, ⟨?m3, ?m4, rfl, trivial⟩, List.Sublist.append (List.Sublist.refl _) (.cons _ (.cons _ (.cons _ (.cons _ (.cons_cons _ .slnil))))), rfl⟩; case m3 => exact nq
    case m4 => exact nq
    case hmeas => exact om
    case hinv => refine ⟨by omega, hacc58.to ?_ ?_⟩ <;> (rw [numA_next hx]; simp [ndN]; try omega)
   ·
    refine sq ?_; refine WC.exit ?_; have hnl := numA_len hok.nodes hok.p4 i; have hi' : i = g.ns.length := by omega
    refine rg ?_; refine Sa V.mv ?_; refine Sa V.fa ?_; refine Sa V.ld ?_; refine Sa V.ls ?_; refine bsl (sb38 Q g0) fun a63 => ?_; refine' W.step rfl (.of (x_accP rfl rfl rfl rfl rfl rfl (sb38 Q g0) (un38 Q g0) (fun i q => by cases q) ?hacc ?hm ?hx ?hnl ?hne ?hl fun w64 mo64 hacc64 => ?_)); case hacc => assumption
    case hm => exact pq
    case hx => exact qx
    case hnl => first | rfl | (simp; done) | (simp; omega)
    case hne => first | rfl | exact ints_one _
    case hl => exact om
    refine Sa V.asg ?_; refine Wn ?_; have hacc1 : Acc 3 1 w64 (numB g 0).length ((numB g 0).map (Value.int .i64)) mo64 := hacc64.to (by simp [numB, hi']) (by simp [numB, hi']); refine rg ?_; refine Sa V.asg ?_; refine ns ?_; refine WC.block ?_; refine' WC.weak (l' := [(3, (w64)), (6, .int .i64 ((0) : Int)), (1, _)]) ⟨?w3, ?w6, rfl, trivial⟩ (List.Sublist.refl _) ?_; case w3 => exact nq
    case w6 => exact nq
    refine sq ?_; refine' WC.loopG (α := Nat × Value × Mm) (fun (j, v, mo) => [(3, v), (6, .int .i64 (j : Int))]) (fun (j, v, mo) => mo ++ [(a63, .row [.int .i64 (g.is.length : Int)] 3), (a1, .row (gC g bn cn bi ci) 25)]) (fun (j, v, mo) => J) (fun (j, v, mo) => j ≤ g.is.length ∧ Acc 3 1 v (numB g j).length ((numB g j).map (Value.int .i64)) mo) (fun (j, v, mo) => g.is.length - j) ⟨0, w64, mo64⟩ ?hs ?hstep; case hs => exact ⟨Nat.zero_le _, hacc1⟩
    case hstep =>
     rintro ⟨j, v, mo⟩ hinv; try simp only at hinv
     obtain ⟨hj, hacc⟩ := hinv; refine rg ?_; refine Sa V.mv ?_; refine Sa V.fa ?_; refine Sa V.ld ?_; refine Sa V.ls ?_; refine Sa V.vi ?_; refine ns ?_; refine If (fun c69 => ?_) fun c69 => ?_
     ·
      obtain ⟨a, off, cells, e', rfl, hJ, hget⟩ := hgi (by omega); obtain ⟨y, cs, hy, hcs, hks, rfl⟩ := hget j (by omega) (by omega); have hk0 := hks 0 _ (by decide) rfl; have hk1 := hks 1 _ (by decide) rfl; rw [Int.toNat_natCast] at hy; have hnB := numB_len g j; have hnA := numA_len hok.nodes hok.p4 g.ns.length; obtain ⟨bv, cv, rfl⟩ := hacc.form; have qv := hacc.addr; refine sk ?_; refine sq ?_; refine WC.block ?_; refine sq ?_; refine WC.draw rfl (by kernel_rfl) (plan := [.val 0, .val 1, .val 2, .val 3, .val 4, .val 5, .val 6, .val 7, .val 8, .val 9, .val 10, .val 11, .val 12, .alc 13, .chk [12, 11, 10, 9, 8, 7, 6, 5, 4, 3, 2, 1, 0], .chn 14, .chn 15]) (by kernel_rfl) ?_; refine Da rfl V.mv ?_; refine Da rfl V.fa ?_; refine Da rfl V.ld ?_; refine Da rfl V.mv ?_; refine Da rfl V.ix ?_; refine Da rfl V.fa ?_; refine Da rfl V.ld ?_; refine Da rfl V.fa ?_; refine Da rfl V.ld ?_; refine Da rfl V.mv ?_; refine Da rfl V.ix ?_; refine Da rfl V.fa ?_; refine Da rfl V.ld ?_; refine WD.buildSlice rfl rfl rfl rfl rfl rfl (sb38 Q g0) rfl rfl rfl fun a85 => ?_; refine WD.chk ck ?_; refine' WD.chnX rfl rfl (x_accP rfl rfl rfl rfl rfl rfl (sb38 Q g0) (un38 Q g0) (fun i q => by cases q) ?hacc ?hm ?hx ?hnl ?hne ?hl fun w86 mo86 hacc86 => ?_); case hacc => assumption
      case hm => exact pq
      case hx => exact qx
      case hnl => first | rfl | (simp; done) | (simp; omega)
      case hne => first | rfl | exact ints_one _
      case hl => exact om
      refine Db rfl V.asg ?_; refine WD.nil ?_; refine rg ?_; refine Sa V.mv ?_; refine Sa V.va ?_; refine Sa V.asg ?_; refine Wn ?_; refine' ⟨⟨j + 1, w86, mo86⟩, _, ?hinv, ?hmeas, rfl, ⟨?m3, ?m6, rfl, trivial⟩, List.Sublist.append (List.Sublist.refl _) (.cons _ (.refl _)), rfl⟩; case m3 => exact nq
      case m6 => exact nq
      case hmeas => exact om
      case hinv => refine ⟨by omega, hacc86.to ?_ ?_⟩ <;> (rw [numB_next hy]; simp [inN])
     ·
      refine sq ?_; refine WC.exit ?_; refine hacc.pubP (List.Perm.refl _) (fun J2 hle2 hsl => ?_); refine rg ?_; refine Sa V.mv ?_; refine Sa V.asg ?_; refine ns ?_; refine WC.ret ?_; refine Lf ?_; rw [show j = g.is.length by omega, numB_all] at hsl; obtain ⟨b, c, rfl, _⟩ := hsl.inv; exact ⟨b, c, rfl, rfl, hle2, _, hsl⟩
theorem rdig_fn {g : Gm} {bn bi : Option Addr} {cn ci : Nat} (hok : FormOk g) (hg : GmR J g bn cn bi ci) : Fn (kx Q g0) 18 [gV g bn cn bi ci] [] J (RetJ (.int .i64 (digS g)) J) := by
  have hnA := numA_len hok.nodes hok.p4 g.ns.length; have hnB := numB_len g g.is.length; rw [numB_all] at hnB; have n2 := hok.n2; have i2 := hok.i2; refine Fn.of_body (ftGet Tryd.func18) rfl rfl fun H => ?_; refine rg ?_; refine bx fun a1 => ?_; refine Sa V.asg ?_; refine nr ?_; refine Sa V.ldA ?_; refine cl (G := numbers_fn hok hg) (h := ?_); rintro v m' J1 hle1 ⟨b, c, rfl, rfl, _, hl⟩; refine Sa V.asg ?_; refine Sa V.asg ?_; refine Wn ?_; have hri := hl.ri []; refine rg ?_; refine Sa V.asg ?_; refine ns ?_; refine WC.block ?_; refine' WC.weak (l' := [(3, .int .i64 (1)), (5, .int .i64 ((0) : Int)), (4, _)]) ⟨?w3, ?w5, rfl, trivial⟩ (List.Sublist.refl _) ?_; case w3 => exact nq
  case w5 => exact nq
  refine sq ?_; refine' WC.loopC (α := Nat × Int) (fun (i, x0) => [(3, .int .i64 x0), (5, .int .i64 (i : Int))]) (fun (i, x0) => i ≤ (numsS g).length ∧ x0 = dg 1 ((numsS g).take i)) (fun (i, x0) => (numsS g).length - i) ⟨0, 1⟩ ?hs ?hstep; case hs => exact ⟨Nat.zero_le _, rfl⟩
  case hstep =>
   rintro ⟨i, x0⟩ hinv; try simp only at hinv
   obtain ⟨hi, rfl⟩ := hinv; refine rg ?_; refine Sa V.mv ?_; refine Sa V.mv ?_; refine Sa V.ls ?_; refine Sa V.vi ?_; refine ns ?_; refine If (fun c11 => ?_) fun c11 => ?_
   ·
    obtain ⟨a, off, cells, rfl, hro, hget⟩ := hri (by omega); obtain ⟨x, hx, hnx⟩ := hget i (by omega) (by omega); refine sk ?_; refine sq ?_; refine WC.block ?_; refine rg ?_; refine Sa V.mv ?_; refine Sa V.vi ?_; refine Sa V.mv ?_; refine Sa V.mv ?_; refine Sa V.ix ?_; refine' W.step rfl (Exec.val rfl rfl (v_load rfl rfl ?hr (part1 (tAg rfl) ?hv)) ?_); case hr => exact hro.sub (fun _ q => by cases q)
    case hv => first | rfl | assumption
    refine Sa V.vi ?_; refine Sa V.vi ?_; refine Sa V.dv ?_; refine Sa V.asg ?_; refine nr ?_; refine Sa V.mv ?_; refine Sa V.va ?_; refine Sa V.asg ?_; refine Wn ?_; refine' ⟨⟨i + 1, _⟩, _, ?hinv, ?hmeas, rfl, ⟨?m3, ?m5, rfl, trivial⟩, List.Sublist.refl _, rfl⟩; case m3 => exact nq
    case m5 => exact nq
    case hmeas => exact om
    case hinv => exact ⟨by omega, dg_next hx⟩
   ·
    refine sq ?_; refine WC.exit ?_; refine rg ?_; refine Sa V.mv ?_; refine Sa V.asg ?_; refine ns ?_; refine WC.ret ?_; refine Lf ?_; refine ⟨?_, rfl, hle1⟩; rw [List.take_of_length_le (by omega)]; rfl
theorem rdigest_fn {g : Gm} {bn bi : Option Addr} {cn ci : Nat} (hF : ∀ J', J.le J' → Fn (kx Q g0) 17 [gV g bn cn bi ci] [] J' (RetJ (.int .i64 (formS g)) J')) (hg : GmR J g bn cn bi ci) :
    Fn (kx Q g0) 7 [gV g bn cn bi ci] [] J (RetJ (digV g) J) := by
  refine Fn.of_body (ftGet Tryd.func7) rfl rfl fun H => ?_; refine rg ?_; refine bx fun a1 => ?_; refine Sa V.asg ?_; refine Sa V.asg ?_; refine nr ?_; refine Sa V.ldA ?_; refine cl (G := hF _ (Jm.le.refl _)) (h := ?_); rintro v m' J1 hle1 ⟨rfl, rfl, _⟩; refine Sa V.asg ?_; refine nr ?_; refine Sa V.mv ?_; refine Sa V.vi ?_; refine ns ?_; refine If (fun c8 => ?_) fun c8 => ?_
  ·
   refine rg ?_; refine Sa V.mv ?_; refine Sa V.asg ?_; refine Sa V.asg ?_; refine ns ?_; refine WC.ret ?_; refine Lf ?_; first
     | (refine ⟨?_, rfl, hle1⟩
        unfold digV; rw [if_neg c8]; rfl)
     | (refine ⟨?_, rfl, hle1.trans hle2⟩
        unfold digV; rw [if_pos (Classical.not_not.1 c8), Classical.not_not.1 c8]; rfl)
  ·
   have hok := formS_ok (Classical.not_not.1 c8); refine kr ?_; refine Sa V.ldA ?_; refine cl (G := rdig_fn hok (hg.mono hle1)) (h := ?_); rintro v m' J2 hle2 ⟨rfl, rfl, _⟩; refine Sa V.asg ?_; refine Sa V.asg ?_; refine ns ?_; refine WC.ret ?_; refine Lf ?_; first
     | (refine ⟨?_, rfl, hle1⟩
        unfold digV; rw [if_neg c8]; rfl)
     | (refine ⟨?_, rfl, hle1.trans hle2⟩
        unfold digV; rw [if_pos (Classical.not_not.1 c8), Classical.not_not.1 c8]; rfl)
end
end Go.Opn

/- A part of the proof of ResumeSaves. -/
import Derived.Test.YtmeojgcibppcmaaDoorRd
import Derived.Test.YtmeojgcibppcmaaDoorK0
set_option maxRecDepth 100000
set_option maxHeartbeats 4000000
set_option linter.unusedVariables false
set_option linter.unusedSimpArgs false
namespace Go.Opn
open Go.Cre Go.RowKit Go.Proofs
theorem Elems.tail {α : Type} {J : Jm} {e : TypeId} {sz a : Nat} {R : α → List Value → Prop} {w : Value} {xs : List α} {cs : List Value} (ha : a < xs.length)
    (hw : SlC J e sz w (((xs.drop a).length : Int) - 1).toNat ((cs.drop ((1 : Int).toNat * sz)).take ((((xs.drop a).length : Int) - 1).toNat * sz)))
    (hR : ∀ i x, (xs.drop a)[i]? = some x → R x ((cs.drop (i * sz)).take sz)) : ∃ b c, w = .slice b (xs.drop (a + 1)).length c ∧ Elems J e sz R (.slice b (xs.drop (a + 1)).length c) (xs.drop (a + 1)) := by
  have e1 : (((xs.drop a).length : Int) - 1).toNat = (xs.drop (a + 1)).length := by rw [List.length_drop, List.length_drop]; omega
  rw [e1] at hw; obtain ⟨b, c, rfl, _⟩ := hw.inv; refine ⟨b, c, rfl, ⟨_, hw, fun i x hx => ?_⟩⟩; have hi : i < (xs.drop (a + 1)).length := (List.getElem?_eq_some_iff.1 hx).1; have h2 := hR (i + 1) x (by rw [List.getElem?_drop] at hx ⊢; rw [← hx]; congr 1; omega); have hle : i * sz + sz ≤ (xs.drop (a + 1)).length * sz := by rw [← Nat.succ_mul]; exact Nat.mul_le_mul_right _ hi
  rw [List.drop_take, List.drop_drop, List.take_take, Nat.min_eq_left (by omega), show (1 : Int).toNat * sz + i * sz = (i + 1) * sz by rw [Nat.add_mul, show (1 : Int).toNat = 1 from rfl]; omega]; exact h2
theorem trS_no {ns : List Nd} {f a : Nat} {par d : Int} {x : Nd} (hx : ns[a]? = some x) (h : chS (trS ns f a (d + 1)) x.nx (a + 1) = none) : trS ns (f + 1) par d a = none := by
  unfold trS; rw [hx]; simp only; rw [h]
theorem trS_yes {ns : List Nd} {f a n : Nat} {par d : Int} {x : Nd} {es : List Ent} (hx : ns[a]? = some x) (h : chS (trS ns f a (d + 1)) x.nx (a + 1) = some (n, es)) : trS ns (f + 1) par d a = some (n, (par, d, (n : Int) - 1) :: es) := by
  unfold trS; rw [hx]; simp only; rw [h]
section
variable {Q : Worlds Tryd.prog} {g0 : Nat} {J : Jm}
abbrev slF (a n : Nat) : Value := .slice (some ⟨a, 0, none⟩) n n
abbrev inB (a : Nat) (L : List Int) : Nat × PB := (a, .row (L.map (Value.int .i64)) 3)
abbrev wM (aw ap ad al : Nat) (g : Gm) (bn : Option Addr) (cn : Nat) (bi : Option Addr) (ci : Nat) (P D L : List Int) : Mm := [wB aw g bn cn bi ci (slF ap g.ns.length) (slF ad g.ns.length) (slF al g.ns.length), inB ap P, inB ad D, inB al L]
def WalkP (aw ap ad al : Nat) (g : Gm) (bn : Option Addr) (cn : Nat) (bi : Option Addr) (ci : Nat) (a : Nat) (P D L : List Int) (r : Option (Nat × List Ent)) (J : Jm) : Value → Mm → Jm → Prop := fun u m' J' => ∃ b n c ok P' D' L', u = .tuple #[.slice b n c, .bool ok] ∧ m' = wM aw ap ad al g bn cn bi ci P' D' L' ∧ J = J' ∧ P'.length = g.ns.length ∧ D'.length = g.ns.length ∧ L'.length = g.ns.length ∧
  (match r with
  | none => ok = false
  | some (n1, es) => ok = true ∧ P' = putE P a (es.map fun e => e.1) ∧ D' = putE D a (es.map fun e => e.2.1) ∧ L' = putE L a (es.map fun e => e.2.2) ∧ n = (g.ns.drop n1).length ∧ Elems J 40 6 (NdR J) (.slice b (g.ns.drop n1).length c) (g.ns.drop n1))
theorem walk_fn {g : Gm} {bn bi : Option Addr} {cn ci : Nat} {aw ap ad al : Nat} (hg : GmR J g bn cn bi ci) (n2 : g.ns.length ≤ 2000) (hl : ∀ x ∈ g.ns, x.nx.length ≤ 60) : ∀ (f a : Nat) (par d : Int) (P D L : List Int) (bv : Option Addr) (cv : Nat), a ≤ g.ns.length → g.ns.length < a + f → P.length = g.ns.length → D.length = g.ns.length → L.length = g.ns.length → 0 ≤ d → d ≤ a →
    Elems J 40 6 (NdR J) (.slice bv (g.ns.drop a).length cv) (g.ns.drop a) →
    Fn (kx Q g0) 49 [.pointer (some ⟨aw, 0, none⟩), .int .i64 par, .int .i64 d, .slice bv (g.ns.drop a).length cv] (wM aw ap ad al g bn cn bi ci P D L) J (WalkP aw ap ad al g bn cn bi ci a P D L (trS g.ns f par d a) J) := by
  intro f; induction f with
  | zero => intro a par d P D L bv cv h1 h2; omega
  | succ f ih =>
  intro a par d P D L bv cv ha hf hP hD hL hd0 hda hel; have hla : (g.ns.drop a).length = g.ns.length - a := List.length_drop; have qi : addrEq bi bi = true := hg.i.addr; have qn : addrEq bn bn = true := hg.n.addr; refine Fn.of_body (ftGet Tryd.func49) rfl rfl fun H => ?_; refine rg ?_; refine Sa V.asg ?_; refine Sa V.asg ?_; refine nr ?_; refine Sa V.mv ?_; refine Sa V.ls ?_; refine Sa V.vi ?_; refine ns ?_; refine If (fun c17 => ?_) fun c17 => ?_
  ·
   refine rg ?_; refine Sa V.asg ?_; refine Sa V.asg ?_; refine ns ?_; refine WC.ret ?_; refine' ⟨.inr rfl, rfl, _, _, .tmp rfl (.tmp rfl .nil), List.Sublist.refl _, ?_⟩; first
     | exact ⟨_, _, _, _, P, D, L, rfl, rfl, rfl, hP, hD, hL, by rw [show trS g.ns (f + 1) par d a = none by unfold trS; rw [List.getElem?_eq_none (by omega)]]⟩
     | exact ⟨_, _, _, _, P1, D1, L1, rfl, rfl, rfl, hP1l, hD1l, hL1l, by rw [trS_no hxa (chS_no (k := k + 1) (by rw [chS_take hch hxk', if_pos (by omega)]))]⟩
     | exact ⟨_, _, _, _, P2, D2, L2, rfl, rfl, rfl, hP2, hD2, hL2, by
         have : trS g.ns f a (d + 1) cur = none := by
           cases htr : trS g.ns f a (d + 1) cur with
           | none => rfl
           | some p => obtain ⟨n1, e1⟩ := p; rw [htr] at hm; rw [hm.1] at c73; cases c73
         rw [trS_no hxa (chS_no (k := k + 1) (by rw [chS_take hch hxk', this]; split <;> rfl))]⟩
     | (refine ⟨_, _, _, _, P1, D1, _, rfl, rfl, rfl, hP1l, hD1l, ?_, ?_⟩
        rw [List.length_set]; exact hL1l; rw [List.take_of_length_le (by omega)] at hch; rw [trS_yes hxa hch]; refine ⟨rfl, hP1, hD1, ?_, rfl, helr⟩; rw [hL1, putE_set (by simp; omega), List.map_cons]; congr 2; show _ = (cur : Int) - 1; omega)
  ·
   have hlt : a < g.ns.length := by omega
   obtain ⟨_, hat⟩ := hel.at; obtain ⟨a0, off, cells, e', rfl, hJ, hget⟩ := hat (by omega); obtain ⟨x, cs, hx, hcs, hks, hR⟩ := hget 0 (by omega) (by omega); obtain ⟨b1, c1, b2, c2, b3, c3, rfl, hx1, hx2, hx3⟩ := hR; have hk3 := hks 3 _ (by decide) rfl; have hxa : g.ns[a]? = some x := by simpa using hx
   have hx60 := hl x (List.mem_of_getElem? hxa); obtain ⟨cs0, hsl, hRR⟩ := hel.ex; have hri := hx1.ri []; refine sk ?_; refine wk [0, 1, 2, 3] ?_; refine sq ?_; refine' WC.cutK 0 [(10, .int .i64 (a : Int))] ?cr3 ?dr3; case cr3 =>
    refine WC.region ?_; refine Sa V.mv ?_; refine Sa V.nc ?_; refine Sa V.fa ?_; refine Sa V.fa ?_; refine Sa V.ld ?_; refine Sa V.ls ?_; refine Sa V.mv ?_; refine Sa V.ls ?_; refine Sa V.va ?_; refine Sa V.asg ?_; refine Wn ?_; exact ce
   case dr3 =>
    refine sq ?_; refine WC.draw rfl (by kernel_rfl) (plan := [.val 0, .val 1, .val 2, .val 3, .val 4, .val 5, .val 6, .val 7, .val 8, .val 9, .val 10, .val 11, .val 12, .chn 13, .val 14, .chk [11, 9], .chn 15]) (by kernel_rfl) ?_; refine Da rfl V.mv ?_; refine Da rfl V.nc ?_; refine Da rfl V.fa ?_; refine Da rfl V.ld ?_; refine Da rfl V.mv ?_; refine Da rfl V.mv ?_; refine Da rfl V.nc ?_; refine Da rfl V.fa ?_; refine Da rfl V.ld ?_; refine Da rfl V.mv ?_; refine Da rfl V.mv ?_; refine Da rfl V.mv ?_; refine Da rfl V.ix ?_; refine' WD.chnX rfl rfl (x_store rfl rfl rfl rfl (tSz rfl) rfl rfl rfl ?h1 ?hs ?hp ?_); case hp => repeat first | exact .head _ _ _ _ | apply Put.tail | apply Put.app
    case hs => exact splice_ints a (by omega)
    case h1 => first | rfl | assumption
    refine Da rfl V.ix ?_; refine WD.chk ck ?_; refine' WD.chnX rfl rfl (x_store rfl rfl rfl rfl (tSz rfl) rfl rfl rfl ?h1 ?hs ?hp ?_); case hp => repeat first | exact .head _ _ _ _ | apply Put.tail | apply Put.app
    case hs => exact splice_ints a (by omega)
    case h1 => first | rfl | assumption
    refine WD.nil ?_; refine rg ?_; refine Sa V.mv ?_; refine' W.step rfl (.of (x_slice rfl rfl rfl rfl (sb22 Q g0) ?hv ?hk rfl rfl ?h0 ?h1 ?h2 fun w42 hw42 => ?_)); case hv => assumption
    case hk => exact om
    case h0 => exact om
    case h1 => exact om
    case h2 => exact om
    obtain ⟨bw, cw, rfl, helw⟩ := Elems.tail hlt hw42 hRR; refine Sa V.asg ?_; refine Sa V.asg ?_; refine nr ?_; refine Sa V.mv ?_; refine Sa V.ix ?_; refine Sa V.fa ?_; refine Sa V.ld ?_; refine Sa V.ls ?_; refine Sa V.mv ?_; refine ns ?_; refine WC.block ?_; refine' WC.weak (l' := [(11, .slice (bw) (g.ns.drop (a + 1)).length (cw)), (48, .int .i64 ((0) : Int)), (0, _), (2, _), (10, _), (46, _), (47, _)]) ⟨?w11, ?w48, rfl, rfl, rfl, rfl, rfl, trivial⟩ (List.Sublist.refl _) ?_; case w11 => exact nq
    case w48 => exact nq
    refine sq ?_; refine' WC.loopG (α := Nat × Nat × (List Ent) × (Option Addr) × Nat × (List Int) × (List Int) × (List Int)) (fun (k, cur, es, br, cr, P1, D1, L1) => [(11, .slice br (g.ns.drop cur).length cr), (48, .int .i64 (k : Int))]) (fun (k, cur, es, br, cr, P1, D1, L1) => wM aw ap ad al g bn cn bi ci P1 D1 L1) (fun (k, cur, es, br, cr, P1, D1, L1) => J) (fun (k, cur, es, br, cr, P1, D1, L1) => k ≤ x.nx.length ∧ chS (trS g.ns f a (d + 1)) (x.nx.take k) (a + 1) = some (cur, es) ∧ Elems J 40 6 (NdR J) (.slice br (g.ns.drop cur).length cr) (g.ns.drop cur) ∧ P1 = putE P a (par :: es.map fun e => e.1) ∧ D1 = putE D a (d :: es.map fun e => e.2.1) ∧ L1 = putE L (a + 1) (es.map fun e => e.2.2)) (fun (k, cur, es, br, cr, P1, D1, L1) => x.nx.length - k) ⟨0, a + 1, [], bw, cw, P.set a par, D.set a d, L⟩ ?hs ?hstep; case hs => exact ⟨Nat.zero_le _, rfl, helw, set_putE (by omega), set_putE (by omega), (putE_nil _ _).symm⟩
    case hstep =>
     rintro ⟨k, cur, es, br, cr, P1, D1, L1⟩ hinv; try simp only at hinv
     obtain ⟨hk, hch, helr, hP1, hD1, hL1⟩ := hinv; refine rg ?_; refine Sa V.vi ?_; refine ns ?_; refine If (fun c49 => ?_) fun c49 => ?_
     ·
      obtain ⟨a4, off4, cells4, rfl, hro, hget4⟩ := hri (by omega); obtain ⟨x4, hxk, hnx⟩ := hget4 k (by omega) (by omega); have hxk' : x.nx[k]? = some x4 := by simpa using hxk
      obtain ⟨hc1, hc2, hc3⟩ := chS_len (fun p q r s => trS_len _ _ _ p q r s) hch (by omega); have hlc : (g.ns.drop cur).length = g.ns.length - cur := List.length_drop; have hP1l : P1.length = g.ns.length := by rw [hP1, putE_len (by simp; omega)]; exact hP
      have hD1l : D1.length = g.ns.length := by rw [hD1, putE_len (by simp; omega)]; exact hD
      have hL1l : L1.length = g.ns.length := by rw [hL1, putE_len (by simp; omega)]; exact hL
      refine sk ?_; refine sq ?_; refine WC.block ?_; refine rg ?_; refine Sa V.ix ?_; refine' W.step rfl (Exec.val rfl rfl (v_load rfl rfl ?hr (part1 (tAg rfl) ?hv)) ?_); case hr => exact hro.sub (fun _ q => by cases q)
      case hv => first | rfl | assumption
      refine Sa V.asg ?_; refine nr ?_; refine Sa V.mv ?_; refine Sa V.mv ?_; refine Sa V.nc ?_; refine Sa V.fa ?_; refine Sa V.fa ?_; refine Sa V.ld ?_; refine Sa V.ls ?_; refine Sa V.mv ?_; refine Sa V.ls ?_; refine Sa V.va ?_; refine Sa V.vi ?_; refine ns ?_; refine If (fun c62 => ?_) fun c62 => ?_
      ·
       refine rg ?_; refine Sa V.asg ?_; refine Sa V.asg ?_; refine ns ?_; refine WC.ret ?_; refine' ⟨.inr rfl, rfl, _, _, .tmp rfl (.tmp rfl .nil), List.Sublist.refl _, ?_⟩; first
         | exact ⟨_, _, _, _, P, D, L, rfl, rfl, rfl, hP, hD, hL, by rw [show trS g.ns (f + 1) par d a = none by unfold trS; rw [List.getElem?_eq_none (by omega)]]⟩
         | exact ⟨_, _, _, _, P1, D1, L1, rfl, rfl, rfl, hP1l, hD1l, hL1l, by rw [trS_no hxa (chS_no (k := k + 1) (by rw [chS_take hch hxk', if_pos (by omega)]))]⟩
         | exact ⟨_, _, _, _, P2, D2, L2, rfl, rfl, rfl, hP2, hD2, hL2, by
             have : trS g.ns f a (d + 1) cur = none := by
               cases htr : trS g.ns f a (d + 1) cur with
               | none => rfl
               | some p => obtain ⟨n1, e1⟩ := p; rw [htr] at hm; rw [hm.1] at c73; cases c73
             rw [trS_no hxa (chS_no (k := k + 1) (by rw [chS_take hch hxk', this]; split <;> rfl))]⟩
         | (refine ⟨_, _, _, _, P1, D1, _, rfl, rfl, rfl, hP1l, hD1l, ?_, ?_⟩
            rw [List.length_set]; exact hL1l; rw [List.take_of_length_le (by omega)] at hch; rw [trS_yes hxa hch]; refine ⟨rfl, hP1, hD1, ?_, rfl, helr⟩; rw [hL1, putE_set (by simp; omega), List.map_cons]; congr 2; show _ = (cur : Int) - 1; omega)
      ·
       refine sq ?_; refine WC.skip ?_; refine rg ?_; refine Sa V.mv ?_; refine Sa V.mv ?_; refine Sa V.mv ?_; refine Sa V.va ?_; refine Sa V.mv ?_; refine' W.step rfl (Exec.call rfl rfl rfl rfl rfl rfl rfl (mi := wM aw ap ad al g bn cn bi ci P1 D1 L1) (mr := []) (.refl _) trivial (ih cur a (d + 1) P1 D1 L1 br cr hc2 (by omega) hP1l hD1l hL1l (by omega) (by omega) helr) ?_); rintro v m' J' hle ⟨b', n', c', ok, P2, D2, L2, rfl, rfl, rfl, hP2, hD2, hL2, hm⟩; refine Sa V.mv ?_; refine Sa V.ex ?_; refine Sa V.ex ?_; refine Sa V.asg ?_; refine Sa V.asg ?_; refine nr ?_; refine Sa V.mv ?_; refine Sa V.nt ?_; refine ns ?_; refine If (fun c73 => ?_) fun c73 => ?_
       ·
        refine rg ?_; refine Sa V.asg ?_; refine Sa V.asg ?_; refine ns ?_; refine WC.ret ?_; refine' ⟨.inr rfl, rfl, _, _, .tmp rfl (.tmp rfl .nil), List.Sublist.refl _, ?_⟩; first
          | exact ⟨_, _, _, _, P, D, L, rfl, rfl, rfl, hP, hD, hL, by rw [show trS g.ns (f + 1) par d a = none by unfold trS; rw [List.getElem?_eq_none (by omega)]]⟩
          | exact ⟨_, _, _, _, P1, D1, L1, rfl, rfl, rfl, hP1l, hD1l, hL1l, by rw [trS_no hxa (chS_no (k := k + 1) (by rw [chS_take hch hxk', if_pos (by omega)]))]⟩
          | exact ⟨_, _, _, _, P2, D2, L2, rfl, rfl, rfl, hP2, hD2, hL2, by
              have : trS g.ns f a (d + 1) cur = none := by
                cases htr : trS g.ns f a (d + 1) cur with
                | none => rfl
                | some p => obtain ⟨n1, e1⟩ := p; rw [htr] at hm; rw [hm.1] at c73; cases c73
              rw [trS_no hxa (chS_no (k := k + 1) (by rw [chS_take hch hxk', this]; split <;> rfl))]⟩
          | (refine ⟨_, _, _, _, P1, D1, _, rfl, rfl, rfl, hP1l, hD1l, ?_, ?_⟩
             rw [List.length_set]; exact hL1l; rw [List.take_of_length_le (by omega)] at hch; rw [trS_yes hxa hch]; refine ⟨rfl, hP1, hD1, ?_, rfl, helr⟩; rw [hL1, putE_set (by simp; omega), List.map_cons]; congr 2; show _ = (cur : Int) - 1; omega)
       ·
        obtain ⟨n1, e1, htr, hP3, hD3, hL3, rfl, helb⟩ : ∃ n1 e1, trS g.ns f a (d + 1) cur = some (n1, e1) ∧ P2 = putE P1 cur (e1.map fun e => e.1) ∧ D2 = putE D1 cur (e1.map fun e => e.2.1) ∧ L2 = putE L1 cur (e1.map fun e => e.2.2) ∧ n' = (g.ns.drop n1).length ∧ Elems J 40 6 (NdR J) (.slice b' (g.ns.drop n1).length c') (g.ns.drop n1) := by
          cases htr : trS g.ns f a (d + 1) cur with
          | none => rw [htr] at hm; rw [hm] at c73; cases c73
          | some p => obtain ⟨n1, e1⟩ := p; rw [htr] at hm; exact ⟨n1, e1, rfl, hm.2⟩
        subst hP3; subst hD3; subst hL3; refine kr ?_; refine Sa V.va ?_; refine Sa V.mv ?_; refine Wn ?_; refine' ⟨⟨k + 1, n1, es ++ e1, b', c', _, _, _⟩, _, ?hinv, ?hmeas, rfl, ⟨?m11, ?m48, rfl, rfl, rfl, rfl, rfl, trivial⟩, List.Sublist.refl _, rfl⟩; case m11 => exact nq
        case m48 => exact nq
        case hmeas => exact om
        case hinv => refine ⟨by omega, by rw [chS_take hch hxk', if_neg (by omega), htr], helb, ?_, ?_, ?_⟩; (rw [hP1, putE_app (by simp; omega) (by simp; omega)]; simp); (rw [hD1, putE_app (by simp; omega) (by simp; omega)]; simp); (rw [hL1, putE_app (by simp; omega) (by simp; omega)]; simp)
     ·
      obtain ⟨hc1, hc2, hc3⟩ := chS_len (fun p q r s => trS_len _ _ _ p q r s) hch (by omega); have hlc : (g.ns.drop cur).length = g.ns.length - cur := List.length_drop; have hP1l : P1.length = g.ns.length := by rw [hP1, putE_len (by simp; omega)]; exact hP
      have hD1l : D1.length = g.ns.length := by rw [hD1, putE_len (by simp; omega)]; exact hD
      have hL1l : L1.length = g.ns.length := by rw [hL1, putE_len (by simp; omega)]; exact hL
      refine sq ?_; refine WC.exit ?_; refine sq ?_; refine WC.draw rfl (by kernel_rfl) (plan := [.val 0, .val 1, .val 2, .val 3, .val 4, .val 5, .val 6, .val 7, .val 8, .val 9, .val 10, .val 11, .val 12, .val 13, .val 14, .val 15, .chn 16]) (by kernel_rfl) ?_; refine Da rfl V.mv ?_; refine Da rfl V.nc ?_; refine Da rfl V.fa ?_; refine Da rfl V.ld ?_; refine Da rfl V.mv ?_; refine Da rfl V.mv ?_; refine Da rfl V.nc ?_; refine Da rfl V.fa ?_; refine Da rfl V.fa ?_; refine Da rfl V.ld ?_; refine Da rfl V.ls ?_; refine Da rfl V.mv ?_; refine Da rfl V.ls ?_; refine Da rfl V.va ?_; refine Da rfl V.va ?_; refine Da rfl V.ix ?_; refine' WD.chnX rfl rfl (x_store rfl rfl rfl rfl (tSz rfl) rfl rfl rfl ?h1 ?hs ?hp ?_); case hp => repeat first | exact .head _ _ _ _ | apply Put.tail | apply Put.app
      case hs => exact splice_ints a (by omega)
      case h1 => first | rfl | assumption
      refine WD.nil ?_; refine rg ?_; refine Sa V.mv ?_; refine Sa V.asg ?_; refine Sa V.asg ?_; refine ns ?_; refine WC.ret ?_; refine' ⟨.inr rfl, rfl, _, _, .tmp rfl (.tmp rfl .nil), List.Sublist.refl _, ?_⟩; first
        | exact ⟨_, _, _, _, P, D, L, rfl, rfl, rfl, hP, hD, hL, by rw [show trS g.ns (f + 1) par d a = none by unfold trS; rw [List.getElem?_eq_none (by omega)]]⟩
        | exact ⟨_, _, _, _, P1, D1, L1, rfl, rfl, rfl, hP1l, hD1l, hL1l, by rw [trS_no hxa (chS_no (k := k + 1) (by rw [chS_take hch hxk', if_pos (by omega)]))]⟩
        | exact ⟨_, _, _, _, P2, D2, L2, rfl, rfl, rfl, hP2, hD2, hL2, by
            have : trS g.ns f a (d + 1) cur = none := by
              cases htr : trS g.ns f a (d + 1) cur with
              | none => rfl
              | some p => obtain ⟨n1, e1⟩ := p; rw [htr] at hm; rw [hm.1] at c73; cases c73
            rw [trS_no hxa (chS_no (k := k + 1) (by rw [chS_take hch hxk', this]; split <;> rfl))]⟩
        | (refine ⟨_, _, _, _, P1, D1, _, rfl, rfl, rfl, hP1l, hD1l, ?_, ?_⟩
           rw [List.length_set]; exact hL1l; rw [List.take_of_length_le (by omega)] at hch; rw [trS_yes hxa hch]; refine ⟨rfl, hP1, hD1, ?_, rfl, helr⟩; rw [hL1, putE_set (by simp; omega), List.map_cons]; congr 2; show _ = (cur : Int) - 1; omega)
end
open Classical in
noncomputable instance (l : List Int) : Decidable (Asc l) := inferInstance
section
variable {Q : Worlds Tryd.prog} {g0 : Nat} {J : Jm}
/-! ### Lists of numbers: the place of one, the greatest one, in order -/
theorem index_fn {mc : Mm} {b : Option Addr} {c : Nat} {l : List Int} {v : Int} (hl : RI mc J b l) (hn : l.length ≤ 1000000) :
    Fn (kx Q g0) 72 [.slice b l.length c, .int .i64 v] mc J (fun u m' J' => u = .int .i64 (idxS v l 0) ∧ m' = mc ∧ J = J') := by
  refine Fn.of_body (ftGet Tryd.func72) rfl rfl fun H => ?_; refine rg ?_; refine Sa V.asg ?_; refine nr ?_; refine Sa V.mv ?_; refine Sa V.ls ?_; refine Sa V.mv ?_; refine ns ?_; refine WC.block ?_; refine' WC.weak (l' := [(8, .int .i64 ((0) : Int)), (0, _), (1, _), (7, _)]) ⟨?w8, rfl, rfl, rfl, trivial⟩ (List.Sublist.refl _) ?_; case w8 => exact nq
  refine sq ?_; refine' WC.loopG (α := Nat) (fun (i : Nat) => [(8, .int .i64 (i : Int))]) (fun (i : Nat) => mc) (fun (i : Nat) => J) (fun (i : Nat) => i ≤ l.length ∧ idxS v l 0 = idxS v (l.drop i) i) (fun (i : Nat) => l.length - i) (0) ?hs ?hstep; case hs => exact ⟨Nat.zero_le _, rfl⟩
  case hstep =>
   rintro i hinv; try simp only at hinv
   obtain ⟨hi, hix⟩ := hinv; refine rg ?_; refine Sa V.vi ?_; refine ns ?_; refine If (fun c9 => ?_) fun c9 => ?_
   ·
    obtain ⟨a, off, cells, rfl, hro, hget⟩ := hl (by omega); obtain ⟨x, hx, hnx⟩ := hget i (by omega) (by omega); have hx' : l[i]? = some x := by simpa using hx
    refine sk ?_; refine sq ?_; refine WC.block ?_; refine rg ?_; refine Sa V.mv ?_; refine Sa V.asg ?_; refine nr ?_; refine Sa V.mv ?_; refine Sa V.mv ?_; refine Sa V.mv ?_; refine Sa V.ix ?_; refine' W.step rfl (Exec.val rfl rfl (v_load rfl rfl ?hr (part1 (tAg rfl) ?hv)) ?_); case hr => exact hro
    case hv => first | rfl | assumption
    refine Sa V.vi ?_; refine ns ?_; refine If (fun c16 => ?_) fun c16 => ?_
    ·
     refine rg ?_; refine Sa V.mv ?_; refine Sa V.asg ?_; refine ns ?_; refine WC.ret ?_; refine' ⟨.inr rfl, rfl, _, _, .tmp rfl .nil, List.Sublist.refl _, ?_⟩; first
       | exact ⟨by rw [hix, idxS_at hx', if_pos (by simpa using c16)]; rfl, rfl, rfl⟩
       | exact ⟨by rw [hix, idxS_end (by omega)]; rfl, rfl, rfl⟩
    ·
     refine sq ?_; refine WC.skip ?_; refine rg ?_; refine Sa V.va ?_; refine Sa V.mv ?_; refine Wn ?_; refine' ⟨(i + 1), _, ?hinv, ?hmeas, rfl, ⟨?m8, rfl, rfl, rfl, trivial⟩, List.Sublist.refl _, rfl⟩; case m8 => exact nq
     case hmeas => exact om
     case hinv => exact ⟨by omega, by rw [hix, idxS_at hx', if_neg (by simpa using c16)]⟩
   ·
    refine sq ?_; refine WC.exit ?_; refine rg ?_; refine Sa V.asg ?_; refine ns ?_; refine WC.ret ?_; refine' ⟨.inr rfl, rfl, _, _, .tmp rfl .nil, List.Sublist.refl _, ?_⟩; first
      | exact ⟨by rw [hix, idxS_at hx', if_pos (by simpa using c16)]; rfl, rfl, rfl⟩
      | exact ⟨by rw [hix, idxS_end (by omega)]; rfl, rfl, rfl⟩
theorem contains_fn {mc : Mm} {b : Option Addr} {c : Nat} {l : List Int} {v : Int} (hl : RI mc J b l) (hn : l.length ≤ 1000000) :
    Fn (kx Q g0) 62 [.slice b l.length c, .int .i64 v] mc J (fun u m' J' => u = .bool (decide (v ∈ l)) ∧ m' = mc ∧ J = J') := by
  refine Fn.of_body (ftGet Tryd.func62) rfl rfl fun H => ?_; refine rg ?_; refine Sa V.asg ?_; refine nr ?_; refine Sa V.mv ?_; refine Sa V.mv ?_; refine' W.step rfl (Exec.call rfl rfl rfl rfl rfl rfl rfl (mi := mc) (mr := []) (by simp) trivial (index_fn hl hn) ?_); rintro v m' J' hle ⟨rfl, rfl, rfl⟩; rw [List.append_nil]; refine Sa V.vi ?_; refine Sa V.asg ?_; refine ns ?_; refine WC.ret ?_; refine' ⟨.inr rfl, rfl, _, _, .tmp rfl .nil, List.Sublist.refl _, ?_⟩; refine ⟨congrArg Value.bool ?_, rfl, rfl⟩; rw [Bool.eq_iff_iff, decide_eq_true_iff, decide_eq_true_iff]; exact idxS_mem
theorem max_fn {mc : Mm} {b : Option Addr} {c : Nat} {l : List Int} (hl : RI mc J b l) (hn : l.length ≤ 1000000) (h1 : 1 ≤ l.length) :
    Fn (kx Q g0) 50 [.slice b l.length c] mc J (fun u m' J' => u = .int .i64 (maxS l) ∧ m' = mc ∧ J = J') := by
  obtain ⟨a, off, cells, rfl, hro, hget⟩ := hl (by omega); obtain ⟨x0, hx0, hnx0⟩ := hget 0 (by omega) (by omega); refine Fn.of_body (ftGet Tryd.func50) rfl rfl fun H => ?_; refine rg ?_; refine Sa V.asg ?_; refine nr ?_; refine Sa V.mv ?_; refine Sa V.ls ?_; refine Sa V.vi ?_; refine ns ?_; refine If (fun c7 => ?_) fun c7 => ?_
  ·
   exfalso; omega
  ·
   have hm1 : maxS (l.take 1) = x0 := by
     cases l with
     | nil => cases hx0
     | cons y r => simp at hx0; subst hx0; rfl
   refine kr ?_; refine Sa V.mv ?_; refine Sa V.ix ?_; refine' W.step rfl (Exec.val rfl rfl (v_load rfl rfl ?hr (part1 (tAg rfl) ?hv)) ?_); case hr => exact hro
   case hv => first | rfl | assumption
   refine Sa V.asg ?_; refine nr ?_; refine Sa V.asg ?_; refine ns ?_; refine WC.block ?_; refine' WC.weak (l' := [(3, .int .i64 (maxS (l.take (1)))), (4, .int .i64 ((1) : Int)), (0, _)]) ⟨?w3, ?w4, rfl, trivial⟩ (List.Sublist.refl _) ?_; case w3 => exact nq
   case w4 => exact nq
   refine sq ?_; refine' WC.loopG (α := Nat) (fun (i : Nat) => [(3, .int .i64 (maxS (l.take i))), (4, .int .i64 (i : Int))]) (fun (i : Nat) => mc) (fun (i : Nat) => J) (fun (i : Nat) => 1 ≤ i ∧ i ≤ l.length) (fun (i : Nat) => l.length - i) (1) ?hs ?hstep; case hs => exact ⟨Nat.le_refl _, by omega⟩
   case hstep =>
    rintro i hinv; try simp only at hinv
    obtain ⟨hi1, hi⟩ := hinv; refine rg ?_; refine Sa V.mv ?_; refine Sa V.mv ?_; refine Sa V.ls ?_; refine Sa V.vi ?_; refine ns ?_; refine If (fun c15 => ?_) fun c15 => ?_
    ·
     obtain ⟨x, hx, hnx⟩ := hget i (by omega) (by omega); have hx' : l[i]? = some x := by simpa using hx
     have hmx := maxS_next hi1 hx'; refine sk ?_; refine sq ?_; refine WC.block ?_; refine rg ?_; refine Sa V.mv ?_; refine Sa V.mv ?_; refine Sa V.mv ?_; refine Sa V.ix ?_; refine' W.step rfl (Exec.val rfl rfl (v_load rfl rfl ?hr (part1 (tAg rfl) ?hv)) ?_); case hr => exact hro
     case hv => first | rfl | assumption
     refine' W.step rfl (Exec.val rfl rfl (v_max rfl rfl rfl rfl rfl) ?_); refine Sa V.asg ?_; refine nr ?_; refine Sa V.mv ?_; refine Sa V.va ?_; refine Sa V.asg ?_; refine Wn ?_; refine' ⟨(i + 1), _, ?hinv, ?hmeas, rfl, ⟨?m3, ?m4, rfl, trivial⟩, List.Sublist.refl _, rfl⟩; case m3 => exact nq
     case m4 => exact nq
     case hmeas => exact om
     case hinv => exact ⟨by omega, by omega⟩
    ·
     refine sq ?_; refine WC.exit ?_; refine rg ?_; refine Sa V.mv ?_; refine Sa V.asg ?_; refine ns ?_; refine WC.ret ?_; refine' ⟨.inr rfl, rfl, _, _, .tmp rfl .nil, List.Sublist.refl _, ⟨by rw [List.take_of_length_le (by omega)]; rfl, rfl, rfl⟩⟩
theorem isNaN_fn {mc : Mm} {a : Int} : Fn (kx Q g0) 86 [.int .i64 a] mc J (fun u m' J' => u = .bool false ∧ m' = mc ∧ J = J') := by
  refine Fn.of_body (ftGet Tryd.func86) rfl rfl fun H => ?_; refine rg ?_; refine Sa V.asg ?_; refine nr ?_; refine Sa V.mv ?_; refine Sa V.mv ?_; refine Sa V.vi ?_; refine Sa V.asg ?_; refine ns ?_; refine WC.ret ?_; refine' ⟨.inr rfl, rfl, _, _, .tmp rfl .nil, List.Sublist.refl _, ⟨by simp [oneOrTuple], rfl, rfl⟩⟩
theorem less_fn {a b : Int} : Fn (kx Q g0) 73 [.int .i64 a, .int .i64 b] [] J (fun u m' J' => u = .bool (decide (a < b)) ∧ m' = [] ∧ J = J') := by
  refine Fn.of_body (ftGet Tryd.func73) rfl rfl fun H => ?_; refine rg ?_; refine Sa V.asg ?_; refine nr ?_; refine Sa V.mv ?_; refine cl (G := isNaN_fn (mc := [])) (h := ?_); rintro v m' J' hle ⟨rfl, rfl, rfl⟩; refine Sa V.mv ?_; refine Wp 7 (fun gr1_2 => ?_) fun gr1_2 => ?_
  ·
   exfalso; cases gr1_2
  ·
   refine Sn ?_; refine W.guardN rfl rfl rfl rfl rfl ?_; refine Sn ?_; refine Sa V.pk ?_; refine Sa V.mv ?_; refine Sb V.mv ?_; refine Sb V.mv ?_; refine Sb V.vi ?_; refine Sa V.pk ?_; refine Sa V.asg ?_; refine ns ?_; refine WC.ret ?_; refine Lf ?_; refine ⟨congrArg Value.bool ?_, rfl, rfl⟩; first | rfl | simp
theorem isSorted_fn {mc : Mm} {b : Option Addr} {c : Nat} {l : List Int} (hl : RI mc J b l) (hn : l.length ≤ 1000000) (qb : addrEq b b = true) :
    Fn (kx Q g0) 63 [.slice b l.length c] mc J (fun u m' J' => u = .bool (decide (Asc l)) ∧ m' = mc ∧ J = J') := by
  refine Fn.of_body (ftGet Tryd.func63) rfl rfl fun H => ?_; refine rg ?_; refine Sa V.asg ?_; refine nr ?_; refine Sa V.mv ?_; refine Sa V.ls ?_; refine Sa V.va ?_; refine Sa V.asg ?_; refine ns ?_; refine WC.block ?_; refine' WC.weak (l' := [(3, .int .i64 ((l.length : Int) - 1)), (0, _)]) ⟨?w3, rfl, trivial⟩ (List.Sublist.refl _) ?_; case w3 => exact nq
  refine sq ?_; refine' WC.loopG (α := Int) (fun (i : Int) => [(3, .int .i64 i)]) (fun (i : Int) => mc) (fun (i : Int) => J) (fun (i : Int) => i < l.length ∧ -1 ≤ i ∧ (∀ (j : Nat) x y, i ≤ j → l[j]? = some x → l[j + 1]? = some y → ¬ y < x)) (fun (i : Int) => i.toNat) ((l.length : Int) - 1) ?hs ?hstep; case hs => exact ⟨by omega, by omega, fun j x y hj hx hy => by have := (List.getElem?_eq_some_iff.1 hy).1; omega⟩
  case hstep =>
   rintro i hinv; try simp only at hinv
   obtain ⟨hi, hi0, has⟩ := hinv; refine rg ?_; refine Sa V.mv ?_; refine Sa V.vi ?_; refine ns ?_; refine If (fun c8 => ?_) fun c8 => ?_
   ·
    obtain ⟨a, off, cells, rfl, hro, hget⟩ := hl (by omega); obtain ⟨x1, hx1, hnx1⟩ := hget i (by omega) (by omega); obtain ⟨x0, hx0, hnx0⟩ := hget (i - 1) (by omega) (by omega); refine sk ?_; refine sq ?_; refine WC.block ?_; refine sq ?_; refine WC.draw rfl (by kernel_rfl) (plan := [.val 0, .val 1, .val 2, .val 3, .val 4, .val 5, .val 6, .val 7, .val 8, .chn 9]) (by kernel_rfl) ?_; refine Da rfl V.mv ?_; refine Da rfl V.mv ?_; refine Da rfl V.ix ?_; refine' WD.val rfl rfl rfl rfl (v_load rfl rfl ?hr (part1 (tAg rfl) ?hv)) ?_; case hr => exact hro
    case hv => first | rfl | assumption
    refine Da rfl V.mv ?_; refine Da rfl V.mv ?_; refine Da rfl V.va ?_; refine Da rfl V.ix ?_; refine' WD.val rfl rfl rfl rfl (v_load rfl rfl ?hr (part1 (tAg rfl) ?hv)) ?_; case hr => exact hro
    case hv => first | rfl | assumption
    refine' WD.call rfl rfl rfl rfl rfl rfl rfl rfl rfl rfl (mi := []) (mr := mc) (.refl _) trivial (less_fn) ?_; rintro v m' J' hle ⟨rfl, rfl, rfl⟩; rw [List.nil_append]; refine WD.nil ?_; refine sq ?_; refine If (fun c20 => ?_) fun c20 => ?_
    ·
     refine rg ?_; refine Sa V.asg ?_; refine ns ?_; refine WC.ret ?_; refine' ⟨.inr rfl, rfl, _, _, .tmp rfl .nil, List.Sublist.refl _, ?_⟩; first
       | (refine ⟨congrArg Value.bool ?_, rfl, rfl⟩
          symm; rw [decide_eq_false_iff_not]; exact fun q => q (i - 1).toNat _ _ hx0 (by rw [show (i - 1).toNat + 1 = i.toNat by omega]; exact hx1) (by simpa using c20))
       | (refine ⟨congrArg Value.bool ?_, rfl, rfl⟩
          symm; rw [decide_eq_true_iff]; exact fun j x y hx hy => has j x y (by omega) hx hy)
    ·
     refine sq ?_; refine WC.skip ?_; refine rg ?_; refine Sa V.mv ?_; refine Sa V.va ?_; refine Sa V.asg ?_; refine Wn ?_; refine' ⟨(i - 1), _, ?hinv, ?hmeas, rfl, ⟨?m3, rfl, trivial⟩, List.Sublist.refl _, rfl⟩; case m3 => exact nq
     case hmeas => exact om
     case hinv => refine ⟨by omega, by omega, fun j x y hj hx hy => ?_⟩; by_cases q : i ≤ j; (exact has j x y q hx hy); (obtain rfl : j = (i - 1).toNat := by omega); (rw [hx0] at hx; rw [show (i - 1).toNat + 1 = i.toNat by omega, hx1] at hy; injection hx with hx; injection hy with hy; subst hx; subst hy; simpa using c20)
   ·
    refine sq ?_; refine WC.exit ?_; refine rg ?_; refine Sa V.asg ?_; refine ns ?_; refine WC.ret ?_; refine' ⟨.inr rfl, rfl, _, _, .tmp rfl .nil, List.Sublist.refl _, ?_⟩; first
      | (refine ⟨congrArg Value.bool ?_, rfl, rfl⟩
         symm; rw [decide_eq_false_iff_not]; exact fun q => q (i - 1).toNat _ _ hx0 (by rw [show (i - 1).toNat + 1 = i.toNat by omega]; exact hx1) (by simpa using c20))
      | (refine ⟨congrArg Value.bool ?_, rfl, rfl⟩
         symm; rw [decide_eq_true_iff]; exact fun j x y hx hy => has j x y (by omega) hx hy)
end
end Go.Opn

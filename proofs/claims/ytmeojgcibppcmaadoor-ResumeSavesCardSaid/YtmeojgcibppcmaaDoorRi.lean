/- A part of the proof of ResumeSaves. -/
import Derived.Test.YtmeojgcibppcmaaDoorRg
set_option maxRecDepth 100000
set_option maxHeartbeats 4000000
set_option linter.unusedVariables false
set_option linter.unusedSimpArgs false
namespace Go.Opn
open Go.Cre Go.RowKit Go.Proofs
theorem node_move {g : Gm} {x : Nd} (h : nodeS g x = 0) (hk : x.k = 2) : 0 ≤ x.i ∧ x.i < g.is.length ∧ 0 ≤ x.p ∧ x.p < g.pl ∧ 1 ≤ x.nx.length ∧ x.nx.length ≤ 10 := by
  unfold nodeS at h; rw [if_neg (by omega), if_pos hk] at h; split at h
  · omega
  · split at h <;> omega
theorem nodesS_zero {g : Gm} : ∀ {l : List Nd}, (∀ x ∈ l, nodeS g x = 0) → nodesS g l = 0 := by
  intro l; induction l with
  | nil => intro _; rfl
  | cons y r ih =>
    intro h; show (if nodeS g y ≠ 0 then nodeS g y else nodesS g r) = 0; rw [if_neg (by rw [h y (.head _)]; simp)]; exact ih fun x hx => h x (.tail _ hx)
theorem nodesS_first {g : Gm} : ∀ {l : List Nd} {i : Nat} {x : Nd}, (∀ y ∈ l.take i, nodeS g y = 0) → l[i]? = some x → nodeS g x ≠ 0 → nodesS g l = nodeS g x := by
  intro l; induction l with
  | nil => intro i x _ h; cases h
  | cons y r ih =>
    intro i x h hx hn; show (if nodeS g y ≠ 0 then nodeS g y else nodesS g r) = _; cases i with
    | zero => simp at hx; subst hx; rw [if_pos hn]
    | succ i =>
      rw [if_neg (by rw [h y (.head _)]; simp)]; exact ih (fun z hz => h z (.tail _ hz)) (by simpa using hx) hn
theorem take_all {α : Type} {P : α → Prop} {l : List α} {i : Nat} {x : α} (h : ∀ y ∈ l.take i, P y) (hx : l[i]? = some x) (hp : P x) : ∀ y ∈ l.take (i + 1), P y := by
  intro y hy; rw [List.take_add_one, hx] at hy; rcases List.mem_append.1 hy with q | q
  · exact h y q
  · simp at q; subst q; exact hp
section
variable {Q : Worlds Tryd.prog} {g0 : Nat} {J : Jm}
theorem sets_fn {aw : Nat} {g : Gm} {bn bi : Option Addr} {cn ci : Nat} {vp vd vl : Value} {mo : Mm} (hg : GmR J g bn cn bi ci) (hn : ∀ x ∈ g.ns, nodeS g x = 0) (n2 : g.ns.length ≤ 2000) (i2 : g.is.length ≤ 200) :
    Fn (kx Q g0) 51 [.pointer (some ⟨aw, 0, none⟩)] (wB aw g bn cn bi ci vp vd vl :: mo) J (fun u m' J' => u = .int .i64 (setsE g) ∧ m' = wB aw g bn cn bi ci vp vd vl :: mo ∧ J = J') := by
  obtain ⟨_, hgn⟩ := hg.n.at; obtain ⟨_, hgi⟩ := hg.i.at; have qi : addrEq bi bi = true := hg.i.addr; have qn : addrEq bn bn = true := hg.n.addr; refine Fn.of_body (ftGet Tryd.func51) rfl rfl fun H => ?_; refine rg ?_; refine Sa V.asg ?_; refine nr ?_; refine Sa V.mv ?_; refine Sa V.nc ?_; refine Sa V.fa ?_; refine Sa V.fa ?_; refine Sa V.ld ?_; refine Sa V.ls ?_; refine' W.step rfl (.of (x_makeSlice rfl rfl rfl rfl rfl (sb38 Q g0) ?h0 ?h1 ?h2 fun a14 => ?_)); case h0 => exact om
  case h1 => exact om
  case h2 => exact om
  refine Sa V.asg ?_; refine Wn ?_; rw [zero_ints, Int.toNat_natCast, show List.replicate g.is.length (0 : Int) = firstL g g.ns.length from (firstL_end (Nat.le_refl _)).symm]; refine rg ?_; refine Sa V.mv ?_; refine Sa V.nc ?_; refine Sa V.fa ?_; refine Sa V.fa ?_; refine Sa V.ld ?_; refine Sa V.ls ?_; refine Sa V.va ?_; refine Sa V.asg ?_; refine ns ?_; refine WC.block ?_; refine' WC.weak (l' := [(4, .int .i64 (((g.ns.length) : Int) - 1)), (0, _), (3, _)]) ⟨?w4, rfl, rfl, trivial⟩ (List.Sublist.refl _) ?_; case w4 => exact nq
  refine sq ?_; refine' WC.loopG (α := Nat) (fun (k : Nat) => [(4, .int .i64 ((k : Int) - 1))]) (fun (k : Nat) => inB a14 (firstL g k) :: wB aw g bn cn bi ci vp vd vl :: mo) (fun (k : Nat) => J) (fun (k : Nat) => k ≤ g.ns.length) (fun (k : Nat) => k) (g.ns.length) ?hs ?hstep; case hs => exact Nat.le_refl _
  case hstep =>
   rintro k hinv; try simp only at hinv
   have hk := hinv; refine rg ?_; refine Sa V.mv ?_; refine Sa V.vi ?_; refine ns ?_; refine If (fun c23 => ?_) fun c23 => ?_
   ·
    obtain ⟨a, off, cells, e', rfl, hJ, hget⟩ := hgn (by omega); obtain ⟨x, cs, hx, hcs, _, hR⟩ := hget ((k : Int) - 1) (by omega) (by omega); obtain ⟨b1, c1, b2, c2, b3, c3, rfl, hx1, hx2, hx3⟩ := hR; have hx' : g.ns[k - 1]? = some x := by rw [← hx]; congr 1; omega
    have hk1 : k - 1 + 1 = k := by omega
    have hnx := hn x (List.mem_of_getElem? hx'); refine sk ?_; refine sq ?_; refine WC.block ?_; refine rg ?_; refine Sa V.mv ?_; refine Sa V.nc ?_; refine Sa V.fa ?_; refine Sa V.fa ?_; refine Sa V.ld ?_; refine Sa V.mv ?_; refine Sa V.ix ?_; refine Sa V.ldA ?_; refine' W.step rfl (.of (x_alloc rfl rfl rfl (ze40 Q g0) rfl rfl rfl fun a5 => ?_)); refine Ss ?_; refine nr ?_; refine Sa V.fa ?_; refine Sa V.ld ?_; refine Sa V.vi ?_; refine ns ?_; refine If (fun c36 => ?_) fun c36 => ?_
    ·
     have hmv := node_move hnx (by simpa using c36); have hfl : (firstL g k).length = g.is.length := firstL_len; refine rg ?_; refine Sa V.mv ?_; refine Sa V.fa ?_; refine Sa V.ld ?_; refine Sa V.mv ?_; refine Sa V.va ?_; refine Sa V.ix ?_; refine' W.step rfl (.of (x_store rfl rfl rfl rfl (tSz rfl) rfl rfl rfl ?h1 ?hs ?hp ?_)); case hp => repeat first | exact .head _ _ _ _ | apply Put.tail | apply Put.app
     case hs => exact splice_ints x.i.toNat (by omega)
     case h1 => first | rfl | assumption
     refine nr ?_; refine Sa V.mv ?_; refine Sa V.va ?_; refine Sa V.asg ?_; refine Wn ?_; refine' ⟨(k - 1), _, ?hinv, ?hmeas, rfl, ⟨?m4, rfl, rfl, trivial⟩, (by rw [firstL_yes hx' (by simpa using c36) (by omega) (by omega), hk1, show ((k - 1 : Nat) : Int) = (k : Int) - 1 by omega]; exact .cons _ (.refl _)), rfl⟩; case m4 => exact nq
     case hmeas => exact om
     case hinv => omega
    ·
     refine sq ?_; refine WC.skip ?_; refine rg ?_; refine Sa V.mv ?_; refine Sa V.va ?_; refine Sa V.asg ?_; refine Wn ?_; refine' ⟨(k - 1), _, ?hinv, ?hmeas, rfl, ⟨?m4, rfl, rfl, trivial⟩, (by rw [firstL_no hx' (by simpa using c36), hk1]; exact .cons _ (.refl _)), rfl⟩; case m4 => exact nq
     case hmeas => exact om
     case hinv => omega
   ·
    obtain rfl : k = 0 := by omega
    refine sq ?_; refine WC.exit ?_; refine rg ?_; refine Sa V.mv ?_; refine Sa V.nc ?_; refine Sa V.fa ?_; refine Sa V.fa ?_; refine Sa V.ld ?_; refine Sa V.ls ?_; refine Sa V.mv ?_; refine ns ?_; refine WC.block ?_; refine' WC.weak (l' := [(49, .int .i64 ((0) : Int)), (0, _), (3, _), (47, _), (48, _)]) ⟨?w49, rfl, rfl, rfl, rfl, trivial⟩ (List.Sublist.refl _) ?_; case w49 => exact nq
    refine sq ?_; refine' WC.loopG (α := Nat) (fun (i : Nat) => [(49, .int .i64 (i : Int))]) (fun (i : Nat) => inB a14 (firstL g 0) :: wB aw g bn cn bi ci vp vd vl :: mo) (fun (i : Nat) => J) (fun (i : Nat) => i ≤ g.ns.length ∧ ∀ x ∈ g.ns.take i, x.k = 2 → g.is[x.i.toNat]? = some (x.p, (x.nx.length : Int))) (fun (i : Nat) => g.ns.length - i) (0) ?hs ?hstep; case hs => exact ⟨Nat.zero_le _, fun x hx => by cases hx⟩
    case hstep =>
     rintro i hinv; try simp only at hinv
     obtain ⟨hi, hall⟩ := hinv; refine rg ?_; refine Sa V.vi ?_; refine ns ?_; refine If (fun c50 => ?_) fun c50 => ?_
     ·
      obtain ⟨a, off, cells, e', rfl, hJ, hget⟩ := hgn (by omega); obtain ⟨x, cs, hx, hcs, _, hR⟩ := hget i (by omega) (by omega); obtain ⟨b1, c1, b2, c2, b3, c3, rfl, hx1, hx2, hx3⟩ := hR; have q1 : addrEq b1 b1 = true := by obtain ⟨e, h⟩ := hx1; exact h.addr
      rw [Int.toNat_natCast] at hx; have hnx := hn x (List.mem_of_getElem? hx); refine sk ?_; refine sq ?_; refine WC.block ?_; refine rg ?_; refine Sa V.ix ?_; refine Sa V.ldA ?_; refine' W.step rfl (.of (x_alloc rfl rfl rfl (ze40 Q g0) rfl rfl rfl fun a7 => ?_)); refine Ss ?_; refine ns ?_; refine WC.drawR [] rfl (by kernel_rfl) (plan := [.val 0, .val 1, .val 2, .val 3, .val 4, .val 5, .val 6, .val 7, .val 8, .val 9, .val 10, .val 11, .val 12, .val 13, .val 14, .val 15, .val 16, .val 17, .val 18, .val 19, .val 20]) (by kernel_rfl) ?_; refine Ra rfl V.fa ?_; refine Ra rfl V.ld ?_; refine Ra rfl V.vi ?_; refine Ra rfl V.mv ?_; refine Rp 56 (fun gr11_3 => ?_) fun gr11_3 => ?_
      ·
       have hmv := node_move hnx (by simpa using gr11_3); obtain ⟨ai, offi, cellsi, ei', rfl, hJi, hgeti⟩ := hgi (by omega); obtain ⟨y, cs, hy, hcsi, _, rfl⟩ := hgeti x.i (by omega) (by omega); refine Rb rfl V.mv ?_; refine Rb rfl V.nc ?_; refine Rb rfl V.fa ?_; refine Rb rfl V.fa ?_; refine Rb rfl V.ld ?_; refine Rb rfl V.fa ?_; refine Rb rfl V.ld ?_; refine Rb rfl V.ix ?_; refine Rb rfl V.ldA ?_; refine Rb rfl V.fa ?_; refine Rb rfl V.ld ?_; refine Rb rfl V.fa ?_; refine Rb rfl V.ld ?_; refine Rb rfl V.ls ?_; refine Rb rfl V.bd ?_; refine' WR.valY rfl rfl rfl rfl rfl rfl (v_ints rfl (.inr ⟨rfl, rfl⟩) rfl rfl (in51 Q g0) (la := [_, _]) (bs := [_, _]) rfl rfl rfl rfl) ?_; refine Ra rfl V.pk ?_; refine WR.nil ?_; refine sq ?_; refine If (fun c73 => ?_) fun c73 => ?_
       ·
        refine rg ?_; refine Sa V.asg ?_; refine ns ?_; refine WC.ret ?_; refine' ⟨.inr rfl, rfl, _, wB _ _ _ _ _ _ _ _ _ :: mo, .tmp rfl .nil, (by first | exact .cons _ (.refl _) | exact .cons _ (.cons _ (.refl _))), ?_⟩; refine ⟨congrArg (Value.int .i64) ?_, rfl, rfl⟩; have hty : i ≥ g.ns.length → ¬ ∃ x ∈ g.ns, x.k = 2 ∧ g.is[x.i.toNat]? ≠ some (x.p, (x.nx.length : Int)) := by
          rintro hi2 ⟨x, h1, h2, h3⟩; rw [List.take_of_length_le (by omega)] at hall; exact h3 (hall x h1 h2)
        unfold setsE; first
          | (have hx_ := hx; rw [if_pos ⟨x, List.mem_of_getElem? hx, by simpa using gr11_3, fun q => c73 (by rw [hy] at q; injection q with q; rw [q])⟩])
          | (rw [if_neg (hty (by omega)), if_pos (sets_none.2 c76)])
          | (rw [if_neg (hty (by omega)), if_neg (fun q => c76 (sets_none.1 q)), if_pos (sets_asc.2 (by simpa using c79))])
          | (rw [if_neg (hty (by omega)), if_neg (fun q => c76 (sets_none.1 q)), if_neg (fun q => sets_asc.1 q (by simpa using c79))])
       ·
        refine sq ?_; refine WC.skip ?_; refine rg ?_; refine Sa V.va ?_; refine Sa V.mv ?_; refine Wn ?_; refine' ⟨(i + 1), _, ?hinv, ?hmeas, rfl, ⟨?m49, rfl, rfl, rfl, rfl, trivial⟩, .cons _ (.refl _), rfl⟩; case m49 => exact nq
        case hmeas => exact om
        case hinv => refine ⟨by omega, take_all hall hx fun hk => ?_⟩; first | exact absurd hk (by simpa using gr11_3) | (rw [hy]; simp at c73; rw [← c73.1, ← c73.2])
      ·
       refine Rn rfl ?_; refine Rn rfl ?_; refine Rn rfl ?_; refine Rn rfl ?_; refine Rn rfl ?_; refine Rn rfl ?_; refine Rn rfl ?_; refine Rn rfl ?_; refine Rn rfl ?_; refine Rn rfl ?_; refine Rn rfl ?_; refine Rn rfl ?_; refine Rn rfl ?_; refine Rn rfl ?_; refine Rn rfl ?_; refine WR.valN rfl rfl rfl rfl rfl rfl ?_; refine Ra rfl V.pk ?_; refine WR.nil ?_; refine sq ?_; refine WC.condF rfl ?_; refine kr ?_; refine Sa V.va ?_; refine Sa V.mv ?_; refine Wn ?_; refine' ⟨(i + 1), _, ?hinv, ?hmeas, rfl, ⟨?m49, rfl, rfl, rfl, rfl, trivial⟩, .cons _ (.refl _), rfl⟩; case m49 => exact nq
       case hmeas => exact om
       case hinv => refine ⟨by omega, take_all hall hx fun hk => ?_⟩; first | exact absurd hk (by simpa using gr11_3) | (rw [hy]; simp at c73; rw [← c73.1, ← c73.2])
     ·
      refine sq ?_; refine WC.exit ?_; refine rg ?_; refine Sa V.mv ?_; refine' W.step rfl (Exec.call rfl rfl rfl rfl rfl rfl rfl (mi := _) (mr := []) (by rw [List.append_nil]) trivial ((by have h := contains_fn (Q := Q) (g0 := g0) (J := J) (mc := inB a14 (firstL g 0) :: wB aw g bn cn bi ci vp vd vl :: mo) (l := firstL g 0) (c := g.is.length) (v := 0) (RI.own (.head _)) (by rw [firstL_len]; omega); rw [firstL_len] at h; exact h)) ?_); rintro v m' J' hle ⟨rfl, rfl, rfl⟩; rw [List.append_nil]; refine ns ?_; refine If (fun c76 => ?_) fun c76 => ?_
      ·
       refine rg ?_; refine Sa V.asg ?_; refine ns ?_; refine WC.ret ?_; refine' ⟨.inr rfl, rfl, _, wB _ _ _ _ _ _ _ _ _ :: mo, .tmp rfl .nil, (by first | exact .cons _ (.refl _) | exact .cons _ (.cons _ (.refl _))), ?_⟩; refine ⟨congrArg (Value.int .i64) ?_, rfl, rfl⟩; have hty : i ≥ g.ns.length → ¬ ∃ x ∈ g.ns, x.k = 2 ∧ g.is[x.i.toNat]? ≠ some (x.p, (x.nx.length : Int)) := by
         rintro hi2 ⟨x, h1, h2, h3⟩; rw [List.take_of_length_le (by omega)] at hall; exact h3 (hall x h1 h2)
       unfold setsE; first
         | (have hx_ := hx; rw [if_pos ⟨x, List.mem_of_getElem? hx, by simpa using gr11_3, fun q => c73 (by rw [hy] at q; injection q with q; rw [q])⟩])
         | (rw [if_neg (hty (by omega)), if_pos (sets_none.2 c76)])
         | (rw [if_neg (hty (by omega)), if_neg (fun q => c76 (sets_none.1 q)), if_pos (sets_asc.2 (by simpa using c79))])
         | (rw [if_neg (hty (by omega)), if_neg (fun q => c76 (sets_none.1 q)), if_neg (fun q => sets_asc.1 q (by simpa using c79))])
      ·
       refine sq ?_; refine WC.skip ?_; refine rg ?_; refine Sa V.mv ?_; refine' W.step rfl (Exec.call rfl rfl rfl rfl rfl rfl rfl (mi := _) (mr := []) (by rw [List.append_nil]) trivial ((by have h := isSorted_fn (Q := Q) (g0 := g0) (J := J) (mc := inB a14 (firstL g 0) :: wB aw g bn cn bi ci vp vd vl :: mo) (l := firstL g 0) (c := g.is.length) (RI.own (.head _)) (by rw [firstL_len]; omega) (by simp [addrEq]); rw [firstL_len] at h; exact h)) ?_); rintro v m' J' hle ⟨rfl, rfl, rfl⟩; rw [List.append_nil]; refine Sa V.nt ?_; refine ns ?_; refine If (fun c79 => ?_) fun c79 => ?_
       ·
        refine rg ?_; refine Sa V.asg ?_; refine ns ?_; refine WC.ret ?_; refine' ⟨.inr rfl, rfl, _, wB _ _ _ _ _ _ _ _ _ :: mo, .tmp rfl .nil, (by first | exact .cons _ (.refl _) | exact .cons _ (.cons _ (.refl _))), ?_⟩; refine ⟨congrArg (Value.int .i64) ?_, rfl, rfl⟩; have hty : i ≥ g.ns.length → ¬ ∃ x ∈ g.ns, x.k = 2 ∧ g.is[x.i.toNat]? ≠ some (x.p, (x.nx.length : Int)) := by
          rintro hi2 ⟨x, h1, h2, h3⟩; rw [List.take_of_length_le (by omega)] at hall; exact h3 (hall x h1 h2)
        unfold setsE; first
          | (have hx_ := hx; rw [if_pos ⟨x, List.mem_of_getElem? hx, by simpa using gr11_3, fun q => c73 (by rw [hy] at q; injection q with q; rw [q])⟩])
          | (rw [if_neg (hty (by omega)), if_pos (sets_none.2 c76)])
          | (rw [if_neg (hty (by omega)), if_neg (fun q => c76 (sets_none.1 q)), if_pos (sets_asc.2 (by simpa using c79))])
          | (rw [if_neg (hty (by omega)), if_neg (fun q => c76 (sets_none.1 q)), if_neg (fun q => sets_asc.1 q (by simpa using c79))])
       ·
        refine sq ?_; refine WC.skip ?_; refine rg ?_; refine Sa V.asg ?_; refine ns ?_; refine WC.ret ?_; refine' ⟨.inr rfl, rfl, _, wB _ _ _ _ _ _ _ _ _ :: mo, .tmp rfl .nil, (by first | exact .cons _ (.refl _) | exact .cons _ (.cons _ (.refl _))), ?_⟩; refine ⟨congrArg (Value.int .i64) ?_, rfl, rfl⟩; have hty : i ≥ g.ns.length → ¬ ∃ x ∈ g.ns, x.k = 2 ∧ g.is[x.i.toNat]? ≠ some (x.p, (x.nx.length : Int)) := by
          rintro hi2 ⟨x, h1, h2, h3⟩; rw [List.take_of_length_le (by omega)] at hall; exact h3 (hall x h1 h2)
        unfold setsE; first
          | (have hx_ := hx; rw [if_pos ⟨x, List.mem_of_getElem? hx, by simpa using gr11_3, fun q => c73 (by rw [hy] at q; injection q with q; rw [q])⟩])
          | (rw [if_neg (hty (by omega)), if_pos (sets_none.2 c76)])
          | (rw [if_neg (hty (by omega)), if_neg (fun q => c76 (sets_none.1 q)), if_pos (sets_asc.2 (by simpa using c79))])
          | (rw [if_neg (hty (by omega)), if_neg (fun q => c76 (sets_none.1 q)), if_neg (fun q => sets_asc.1 q (by simpa using c79))])
end
theorem formS_range {g : Gm} (h : g.pl < 1 ∨ 4 < g.pl ∨ g.ns.length < 1 ∨ 2000 < g.ns.length ∨ 200 < g.is.length) : formS g = 2 := by unfold formS; rw [if_pos h]
theorem formS_node {g : Gm} (h : ¬ (g.pl < 1 ∨ 4 < g.pl ∨ g.ns.length < 1 ∨ 2000 < g.ns.length ∨ 200 < g.is.length)) (h2 : nodesS g g.ns ≠ 0) : formS g = nodesS g g.ns := by unfold formS; rw [if_neg h, if_pos h2]
theorem formS_order {g : Gm} (h : ¬ (g.pl < 1 ∨ 4 < g.pl ∨ g.ns.length < 1 ∨ 2000 < g.ns.length ∨ 200 < g.is.length)) (h2 : nodesS g g.ns = 0) (h3 : ¬ ∃ es, trS g.ns (g.ns.length + 1) (-1) 0 0 = some (g.ns.length, es)) : formS g = 9 := by
  unfold formS; rw [if_neg h, if_neg (fun q => q h2)]; split
  · rfl
  · rename_i n es h4
    rw [if_pos (fun q => h3 ⟨es, by rw [h4, q]⟩)]
theorem formS_deep {g : Gm} (h : ¬ (g.pl < 1 ∨ 4 < g.pl ∨ g.ns.length < 1 ∨ 2000 < g.ns.length ∨ 200 < g.is.length)) (h2 : nodesS g g.ns = 0) {es : List Ent} (h3 : trS g.ns (g.ns.length + 1) (-1) 0 0 = some (g.ns.length, es)) (h4 : 40 < deepS es) : formS g = 5 := by
  unfold formS; rw [if_neg h, if_neg (fun q => q h2), h3]; simp only; rw [if_neg (fun q => q rfl), if_pos h4]
theorem formS_sets {g : Gm} (h : ¬ (g.pl < 1 ∨ 4 < g.pl ∨ g.ns.length < 1 ∨ 2000 < g.ns.length ∨ 200 < g.is.length)) (h2 : nodesS g g.ns = 0) {es : List Ent} (h3 : trS g.ns (g.ns.length + 1) (-1) 0 0 = some (g.ns.length, es)) (h4 : ¬ 40 < deepS es) : formS g = setsE g := by
  unfold formS; rw [if_neg h, if_neg (fun q => q h2), h3]; simp only; rw [if_neg (fun q => q rfl), if_neg h4]; rfl
theorem putE_all {L vs : List Int} (h : vs.length = L.length) : putE L 0 vs = vs := by
  unfold putE; rw [List.take_zero, List.nil_append, List.drop_eq_nil_of_le (by omega), List.append_nil]
section
variable {Q : Worlds Tryd.prog} {g0 : Nat} {J : Jm}
abbrev wkM (aw ap ad al : Nat) (g : Gm) (bn : Option Addr) (cn : Nat) (bi : Option Addr) (ci : Nat) (es : List Ent) : Mm := wM aw ap ad al g bn cn bi ci (es.map fun e => e.1) (es.map fun e => e.2.1) (es.map fun e => e.2.2)
def WalkedP (g : Gm) (bn : Option Addr) (cn : Nat) (bi : Option Addr) (ci : Nat) (J : Jm) : Value → Mm → Jm → Prop := fun u m' J' => J = J' ∧ ∃ v, u = .tuple #[v, .int .i64 (formS g)] ∧
  (formS g = 0 → ∃ es aw ap ad al, trS g.ns (g.ns.length + 1) (-1) 0 0 = some (g.ns.length, es) ∧ v = .pointer (some ⟨aw, 0, none⟩) ∧ m' = wkM aw ap ad al g bn cn bi ci es)
theorem walked_bad {g : Gm} {bn bi : Option Addr} {cn ci : Nat} {m' : Mm} {e : Int} (h1 : formS g = e) (h2 : e ≠ 0) : WalkedP g bn cn bi ci J (oneOrTuple [.pointer none, .int .i64 e]) m' J :=
  ⟨rfl, _, by rw [h1]; rfl, fun q => absurd (h1.symm.trans q) h2⟩
theorem walked_fn {g : Gm} {bn bi : Option Addr} {cn ci : Nat} (hg : GmR J g bn cn bi ci) :
    Fn (kx Q g0) 29 [gV g bn cn bi ci] [] J (WalkedP g bn cn bi ci J) := by
  obtain ⟨_, hgn⟩ := hg.n.at; have qi : addrEq bi bi = true := hg.i.addr; have qn : addrEq bn bn = true := hg.n.addr; refine Fn.of_body (ftGet Tryd.func29) rfl rfl fun H => ?_; refine rg ?_; refine bx fun a1 => ?_; refine Sa V.asg ?_; refine Sa V.asg ?_; refine Wn ?_; refine wk [1] ?_; refine sq ?_; refine' WC.cutK 0 [(35, .bool (decide ((g.pl < 1 ∨ 4 < g.pl ∨ g.ns.length < 1 ∨ 2000 < g.ns.length ∨ 200 < g.is.length))))] ?cr1 ?dr1; case cr1 =>
   refine WC.region ?_; refine Sa V.fa ?_; refine Sa V.ld ?_; refine Sa V.vi ?_; refine Sa V.mv ?_; refine Wp 13 (fun gr1_3 => ?_) fun gr1_3 => ?_
   ·
    refine Sn ?_; refine Sn ?_; refine Sn ?_; refine Sa V.pk ?_; refine Sa V.mv ?_; refine Sn ?_; refine Sn ?_; refine Sn ?_; refine Sn ?_; refine Sa V.pk ?_; refine Sa V.mv ?_; refine Sn ?_; refine Sn ?_; refine Sn ?_; refine Sn ?_; refine Sa V.pk ?_; refine Sa V.mv ?_; refine Sn ?_; refine Sn ?_; refine Sn ?_; refine Sn ?_; refine Sa V.pk ?_; refine Wn ?_; exact ce
   ·
    refine Sb V.fa ?_; refine Sb V.ld ?_; refine Sb V.vi ?_; refine Sa V.pk ?_; refine Sa V.mv ?_; refine Wp 18 (fun gr1_8 => ?_) fun gr1_8 => ?_
    ·
     refine Sn ?_; refine Sn ?_; refine Sn ?_; refine Sn ?_; refine Sa V.pk ?_; refine Sa V.mv ?_; refine Sn ?_; refine Sn ?_; refine Sn ?_; refine Sn ?_; refine Sa V.pk ?_; refine Sa V.mv ?_; refine Sn ?_; refine Sn ?_; refine Sn ?_; refine Sn ?_; refine Sa V.pk ?_; refine Wn ?_; exact ce
    ·
     refine Sb V.fa ?_; refine Sb V.ld ?_; refine Sb V.ls ?_; refine Sb V.vi ?_; refine Sa V.pk ?_; refine Sa V.mv ?_; refine Wp 24 (fun gr1_14 => ?_) fun gr1_14 => ?_
     ·
      refine Sn ?_; refine Sn ?_; refine Sn ?_; refine Sn ?_; refine Sa V.pk ?_; refine Sa V.mv ?_; refine Sn ?_; refine Sn ?_; refine Sn ?_; refine Sn ?_; refine Sa V.pk ?_; refine Wn ?_; exact ce
     ·
      refine Sb V.fa ?_; refine Sb V.ld ?_; refine Sb V.ls ?_; refine Sb V.vi ?_; refine Sa V.pk ?_; refine Sa V.mv ?_; refine Wp 30 (fun gr1_20 => ?_) fun gr1_20 => ?_
      ·
       refine Sn ?_; refine Sn ?_; refine Sn ?_; refine Sn ?_; refine Sa V.pk ?_; refine Wn ?_; exact ce
      ·
       refine Sb V.fa ?_; refine Sb V.ld ?_; refine Sb V.ls ?_; refine Sb V.vi ?_; refine Sa V.pk ?_; refine Wn ?_; exact ce
  case dr1 =>
   refine sq ?_; refine If (fun c35 => ?_) fun c35 => ?_
   ·
    refine rg ?_; refine Sa V.asg ?_; refine Sa V.asg ?_; refine ns ?_; refine WC.ret ?_; refine' ⟨.inr rfl, rfl, _, _, .tmp rfl (.tmp rfl .nil), (by first | exact .cons_cons _ (.cons_cons _ (.cons_cons _ (.cons_cons _ (List.nil_sublist _)))) | exact List.nil_sublist _), ?_⟩; first
      | exact walked_bad (formS_range c35) (by decide)
      | exact walked_bad ((formS_node c35 (by rw [nodesS_first hall hx c50]; exact c50)).trans (nodesS_first hall hx c50)) c50
      | exact walked_bad (formS_order c35 hns0 (fun q => c87 (hq.1 q))) (by decide)
      | (have hdm := deep_max (by obtain ⟨e, r, h1, _, h2, _⟩ := trS_head htr; exact ⟨e, r, h1, h2⟩ : ∃ e r, es = e :: r ∧ e.2.1 = 0)
         first
           | exact walked_bad (formS_deep c35 hns0 htr (by rw [hdm]; exact c93)) (by decide)
           | (have hfs := formS_sets c35 hns0 htr (by rw [hdm]; exact c93)
              rw [← hfs]; exact ⟨rfl, _, rfl, fun _ => ⟨es, _, _, _, _, htr, rfl, rfl⟩⟩))
   ·
    refine sq ?_; refine WC.skip ?_; refine rg ?_; refine Sa V.ldA ?_; refine Sa V.bd ?_; refine bx fun a38 => ?_; refine Sa V.asg ?_; refine nr ?_; refine Sa V.fa ?_; refine Sa V.ld ?_; refine Sa V.ls ?_; refine Sa V.mv ?_; refine ns ?_; refine WC.block ?_; refine' WC.weak (l' := [(42, .int .i64 ((0) : Int)), (1, _), (4, _), (40, _), (41, _)]) ⟨?w42, rfl, rfl, rfl, rfl, trivial⟩ (List.Sublist.refl _) ?_; case w42 => exact nq
    refine sq ?_; refine' WC.loopG (α := Nat) (fun (i : Nat) => [(42, .int .i64 (i : Int))]) (fun (i : Nat) => wB a38 g bn cn bi ci (.slice none 0 0) (.slice none 0 0) (.slice none 0 0) :: [(a1, .row (gC g bn cn bi ci) 25)]) (fun (i : Nat) => J) (fun (i : Nat) => i ≤ g.ns.length ∧ ∀ x ∈ g.ns.take i, nodeS g x = 0) (fun (i : Nat) => g.ns.length - i) (0) ?hs ?hstep; case hs => exact ⟨Nat.zero_le _, fun x hx => by cases hx⟩
    case hstep =>
     rintro i hinv; try simp only at hinv
     obtain ⟨hi, hall⟩ := hinv; refine rg ?_; refine Sa V.vi ?_; refine ns ?_; refine If (fun c43 => ?_) fun c43 => ?_
     ·
      obtain ⟨a, off, cells, e', rfl, hJ, hget⟩ := hgn (by omega); obtain ⟨x, cs, hx, hcs, _, hR⟩ := hget i (by omega) (by omega); obtain ⟨b1, c1, b2, c2, b3, c3, rfl, hx1, hx2, hx3⟩ := hR; have q1 : addrEq b1 b1 = true := by obtain ⟨e, h⟩ := hx1; exact h.addr
      have q2 : addrEq b2 b2 = true := by obtain ⟨e, h⟩ := hx2; exact h.addr
      have q3 : addrEq b3 b3 = true := by obtain ⟨e, h⟩ := hx3; exact h.addr
      rw [Int.toNat_natCast] at hx; refine sk ?_; refine sq ?_; refine WC.block ?_; refine rg ?_; refine Sa V.ix ?_; refine Sa V.ldA ?_; refine' W.step rfl (.of (x_alloc rfl rfl rfl (ze40 Q g0) rfl rfl rfl fun a6 => ?_)); refine Ss ?_; refine nr ?_; refine Sa V.mv ?_; refine Sa V.ldA ?_; refine' W.step rfl (Exec.call rfl rfl rfl rfl rfl rfl rfl (mi := [wB a38 g _ _ _ _ _ _ _]) (mr := [_, _]) (perm_pick 1 rfl (perm_pick 0 rfl (perm_pick 0 rfl .nil))) trivial (node_fn hx1 hx2 hx3 (by omega) (by omega) (by omega) qi) ?_); rintro v m' J' hle ⟨rfl, rfl, rfl⟩; refine Sa V.asg ?_; refine nr ?_; refine Sa V.mv ?_; refine Sa V.vi ?_; refine ns ?_; refine If (fun c50 => ?_) fun c50 => ?_
      ·
       refine rg ?_; refine Sa V.mv ?_; refine Sa V.asg ?_; refine Sa V.asg ?_; refine ns ?_; refine WC.ret ?_; refine' ⟨.inr rfl, rfl, _, _, .tmp rfl (.tmp rfl .nil), (by first | exact .cons_cons _ (.cons_cons _ (.cons_cons _ (.cons_cons _ (List.nil_sublist _)))) | exact List.nil_sublist _), ?_⟩; first
         | exact walked_bad (formS_range c35) (by decide)
         | exact walked_bad ((formS_node c35 (by rw [nodesS_first hall hx c50]; exact c50)).trans (nodesS_first hall hx c50)) c50
         | exact walked_bad (formS_order c35 hns0 (fun q => c87 (hq.1 q))) (by decide)
         | (have hdm := deep_max (by obtain ⟨e, r, h1, _, h2, _⟩ := trS_head htr; exact ⟨e, r, h1, h2⟩ : ∃ e r, es = e :: r ∧ e.2.1 = 0)
            first
              | exact walked_bad (formS_deep c35 hns0 htr (by rw [hdm]; exact c93)) (by decide)
              | (have hfs := formS_sets c35 hns0 htr (by rw [hdm]; exact c93)
                 rw [← hfs]; exact ⟨rfl, _, rfl, fun _ => ⟨es, _, _, _, _, htr, rfl, rfl⟩⟩))
      ·
       refine sq ?_; refine WC.skip ?_; refine rg ?_; refine Sa V.va ?_; refine Sa V.mv ?_; refine Wn ?_; refine' ⟨(i + 1), _, ?hinv, ?hmeas, rfl, ⟨?m42, rfl, rfl, rfl, rfl, trivial⟩, .cons_cons _ (.cons _ (.cons_cons _ .slnil)), rfl⟩; case m42 => exact nq
       case hmeas => exact om
       case hinv => exact ⟨by omega, take_all hall hx (Classical.not_not.1 c50)⟩
     ·
      have hno : ∀ x ∈ g.ns, nodeS g x = 0 := by
        rw [List.take_of_length_le (by omega)] at hall; exact hall
      have hns0 := nodesS_zero hno; have hl60 : ∀ x ∈ g.ns, x.nx.length ≤ 60 := fun x hx => (node_len (hno x hx) (by omega)).1; refine sq ?_; refine WC.exit ?_; refine sq ?_; refine WC.draw rfl (by kernel_rfl) (plan := [.val 0, .val 1, .val 2, .val 3, .val 4, .val 5, .alc 6, .val 7, .val 8, .val 9, .alc 10, .val 11, .val 12, .val 13, .alc 14, .val 15, .val 16, .chk [13, 12, 11, 9, 8, 7, 5, 4, 3, 2, 1, 0], .chn 17, .val 18, .val 19, .chk [13, 12, 11, 9, 8, 7, 2, 1], .chn 20, .val 21, .val 22, .chk [13, 12, 11, 2], .chn 23]) (by kernel_rfl) ?_; refine Da rfl V.mv ?_; refine Da rfl V.mv ?_; refine Da rfl V.mv ?_; refine Da rfl V.fa ?_; refine Da rfl V.ld ?_; refine Da rfl V.ls ?_; refine WD.makeSlice rfl rfl rfl rfl rfl rfl rfl (sb38 Q g0) ?h0 ?h1 ?h2 fun a59 => ?_; case h0 => exact om
      case h1 => exact om
      case h2 => exact om
      refine Da rfl V.fa ?_; refine Da rfl V.ld ?_; refine Da rfl V.ls ?_; refine WD.makeSlice rfl rfl rfl rfl rfl rfl rfl (sb38 Q g0) ?h0 ?h1 ?h2 fun a63 => ?_; case h0 => exact om
      case h1 => exact om
      case h2 => exact om
      refine Da rfl V.fa ?_; refine Da rfl V.ld ?_; refine Da rfl V.ls ?_; refine WD.makeSlice rfl rfl rfl rfl rfl rfl rfl (sb38 Q g0) ?h0 ?h1 ?h2 fun a67 => ?_; case h0 => exact om
      case h1 => exact om
      case h2 => exact om
      refine Da rfl V.nc ?_; refine Da rfl V.fa ?_; refine WD.chk ck ?_; refine Ds rfl ?_; refine Da rfl V.nc ?_; refine Da rfl V.fa ?_; refine WD.chk ck ?_; refine Ds rfl ?_; refine Da rfl V.nc ?_; refine Da rfl V.fa ?_; refine WD.chk ck ?_; refine Ds rfl ?_; refine WD.nil ?_; rw [zero_ints, Int.toNat_natCast]; refine rg ?_; refine Sa V.mv ?_; refine Sa V.fa ?_; refine Sa V.ld ?_; refine' W.step rfl (Exec.call rfl rfl rfl rfl rfl rfl rfl (mi := wM a38 a59 a63 a67 g bn cn bi ci (List.replicate g.ns.length 0) (List.replicate g.ns.length 0) (List.replicate g.ns.length 0)) (mr := [_]) (perm_pick 3 rfl (perm_pick 2 rfl (perm_pick 1 rfl (perm_pick 0 rfl (perm_pick 0 rfl .nil))))) trivial (walk_fn hg (by omega) hl60 (g.ns.length + 1) 0 (-1) 0 _ _ _ bn cn (Nat.zero_le _) (by omega) (List.length_replicate) (List.length_replicate) (List.length_replicate) (by omega) (by omega) hg.n) ?_); rintro v m' J' hle ⟨b', n', c', ok, P2, D2, L2, rfl, rfl, rfl, hP2, hD2, hL2, hm⟩; refine Sa V.mv ?_; refine Sa V.ex ?_; refine Sa V.ex ?_; refine Sa V.asg ?_; refine Sa V.asg ?_; refine Wn ?_; have hq : (∃ es, trS g.ns (g.ns.length + 1) (-1) 0 0 = some (g.ns.length, es)) ↔ (ok = true ∧ n' = 0) := by
        cases htr : trS g.ns (g.ns.length + 1) (-1) 0 0 with
        | none => rw [htr] at hm; rw [hm]; simp
        | some p =>
          obtain ⟨n1, e1⟩ := p; rw [htr] at hm; obtain ⟨h1, _, _, _, h2, _⟩ := hm; obtain ⟨_, h3, _⟩ := trS_len _ _ _ _ _ _ htr; rw [List.length_drop] at h2; subst h1; constructor
          · rintro ⟨es, q⟩; injection q with q; injection q with q1 q2; exact ⟨rfl, by omega⟩
          · rintro ⟨_, q⟩; exact ⟨e1, by rw [show n1 = g.ns.length by omega]⟩
      refine wk [8, 9, 4] ?_; refine sq ?_; refine' WC.cutK 2 [(87, .bool (decide ((¬ (ok = true ∧ n' = 0)))))] ?cr13 ?dr13; case cr13 =>
       refine WC.region ?_; refine Sa V.mv ?_; refine Sa V.nt ?_; refine Sa V.mv ?_; refine Wp 83 (fun gr13_2 => ?_) fun gr13_2 => ?_
       ·
        refine Sn ?_; refine Sn ?_; refine Sn ?_; refine Sa V.pk ?_; refine Wn ?_; exact ce
       ·
        refine Sb V.mv ?_; refine Sb V.ls ?_; refine Sb V.vi ?_; refine Sa V.pk ?_; refine Wn ?_; exact ce
      case dr13 =>
       refine sq ?_; refine If (fun c87 => ?_) fun c87 => ?_
       ·
        refine rg ?_; refine Sa V.asg ?_; refine Sa V.asg ?_; refine ns ?_; refine WC.ret ?_; refine' ⟨.inr rfl, rfl, _, _, .tmp rfl (.tmp rfl .nil), (by first | exact .cons_cons _ (.cons_cons _ (.cons_cons _ (.cons_cons _ (List.nil_sublist _)))) | exact List.nil_sublist _), ?_⟩; first
          | exact walked_bad (formS_range c35) (by decide)
          | exact walked_bad ((formS_node c35 (by rw [nodesS_first hall hx c50]; exact c50)).trans (nodesS_first hall hx c50)) c50
          | exact walked_bad (formS_order c35 hns0 (fun q => c87 (hq.1 q))) (by decide)
          | (have hdm := deep_max (by obtain ⟨e, r, h1, _, h2, _⟩ := trS_head htr; exact ⟨e, r, h1, h2⟩ : ∃ e r, es = e :: r ∧ e.2.1 = 0)
             first
               | exact walked_bad (formS_deep c35 hns0 htr (by rw [hdm]; exact c93)) (by decide)
               | (have hfs := formS_sets c35 hns0 htr (by rw [hdm]; exact c93)
                  rw [← hfs]; exact ⟨rfl, _, rfl, fun _ => ⟨es, _, _, _, _, htr, rfl, rfl⟩⟩))
       ·
        obtain ⟨es, htr⟩ := hq.2 (Classical.not_not.1 c87); rw [htr] at hm; obtain ⟨_, _, he⟩ := trS_len _ _ _ _ _ _ htr; obtain ⟨_, rfl, rfl, rfl, _, _⟩ := hm; have hP : putE (List.replicate g.ns.length 0) 0 (es.map fun e => e.1) = es.map fun e => e.1 := putE_all (by simp [he]); have hD : putE (List.replicate g.ns.length 0) 0 (es.map fun e => e.2.1) = es.map fun e => e.2.1 := putE_all (by simp [he]); have hL : putE (List.replicate g.ns.length 0) 0 (es.map fun e => e.2.2) = es.map fun e => e.2.2 := putE_all (by simp [he]); rw [hP, hD, hL]; have hdl : (es.map fun e => e.2.1).length = g.ns.length := by simp [he]
        refine kr ?_; refine Sa V.mv ?_; refine Sa V.nc ?_; refine Sa V.fa ?_; refine Sa V.ld ?_; refine' W.step rfl (Exec.call rfl rfl rfl rfl rfl rfl rfl (mi := wkM a38 a59 a63 a67 g bn cn bi ci es) (mr := [_]) (.refl _) trivial ((by have h := max_fn (Q := Q) (g0 := g0) (J := J) (mc := wkM a38 a59 a63 a67 g bn cn bi ci es) (l := es.map fun e => e.2.1) (c := g.ns.length) (RI.own (.tail _ (.tail _ (.head _)))) (by omega) (by omega); rw [hdl] at h; exact h)) ?_); rintro v m' J' hle ⟨rfl, rfl, rfl⟩; refine Sa V.vi ?_; refine ns ?_; refine If (fun c93 => ?_) fun c93 => ?_
        ·
         refine rg ?_; refine Sa V.asg ?_; refine Sa V.asg ?_; refine ns ?_; refine WC.ret ?_; refine' ⟨.inr rfl, rfl, _, _, .tmp rfl (.tmp rfl .nil), (by first | exact .cons_cons _ (.cons_cons _ (.cons_cons _ (.cons_cons _ (List.nil_sublist _)))) | exact List.nil_sublist _), ?_⟩; first
           | exact walked_bad (formS_range c35) (by decide)
           | exact walked_bad ((formS_node c35 (by rw [nodesS_first hall hx c50]; exact c50)).trans (nodesS_first hall hx c50)) c50
           | exact walked_bad (formS_order c35 hns0 (fun q => c87 (hq.1 q))) (by decide)
           | (have hdm := deep_max (by obtain ⟨e, r, h1, _, h2, _⟩ := trS_head htr; exact ⟨e, r, h1, h2⟩ : ∃ e r, es = e :: r ∧ e.2.1 = 0)
              first
                | exact walked_bad (formS_deep c35 hns0 htr (by rw [hdm]; exact c93)) (by decide)
                | (have hfs := formS_sets c35 hns0 htr (by rw [hdm]; exact c93)
                   rw [← hfs]; exact ⟨rfl, _, rfl, fun _ => ⟨es, _, _, _, _, htr, rfl, rfl⟩⟩))
        ·
         refine sq ?_; refine WC.skip ?_; refine rg ?_; refine Sa V.mv ?_; refine Sa V.mv ?_; refine' W.step rfl (Exec.call rfl rfl rfl rfl rfl rfl rfl (mi := wkM a38 a59 a63 a67 g bn cn bi ci es) (mr := [_]) (.refl _) trivial (sets_fn hg hno (by omega) (by omega)) ?_); rintro v m' J' hle ⟨rfl, rfl, rfl⟩; refine Sa V.asg ?_; refine Sa V.asg ?_; refine ns ?_; refine WC.ret ?_; refine' ⟨.inr rfl, rfl, _, _, .tmp rfl (.tmp rfl .nil), (by first | exact .cons_cons _ (.cons_cons _ (.cons_cons _ (.cons_cons _ (List.nil_sublist _)))) | exact List.nil_sublist _), ?_⟩; first
           | exact walked_bad (formS_range c35) (by decide)
           | exact walked_bad ((formS_node c35 (by rw [nodesS_first hall hx c50]; exact c50)).trans (nodesS_first hall hx c50)) c50
           | exact walked_bad (formS_order c35 hns0 (fun q => c87 (hq.1 q))) (by decide)
           | (have hdm := deep_max (by obtain ⟨e, r, h1, _, h2, _⟩ := trS_head htr; exact ⟨e, r, h1, h2⟩ : ∃ e r, es = e :: r ∧ e.2.1 = 0)
              first
                | exact walked_bad (formS_deep c35 hns0 htr (by rw [hdm]; exact c93)) (by decide)
                | (have hfs := formS_sets c35 hns0 htr (by rw [hdm]; exact c93)
                   rw [← hfs]; exact ⟨rfl, _, rfl, fun _ => ⟨es, _, _, _, _, htr, rfl, rfl⟩⟩))
theorem form_fn {g : Gm} {bn bi : Option Addr} {cn ci : Nat} (hg : GmR J g bn cn bi ci) :
    Fn (kx Q g0) 14 [gV g bn cn bi ci] [] J (RetJ (.int .i64 (formS g)) J) := by
  refine Fn.of_body (ftGet Tryd.func14) rfl rfl fun H => ?_; refine rg ?_; refine bx fun a1 => ?_; refine Sa V.asg ?_; refine nr ?_; refine Sa V.ldA ?_; refine' W.step rfl (Exec.call rfl rfl rfl rfl rfl rfl rfl (mi := []) (mr := [_]) (.refl _) trivial (walked_fn hg) ?_); rintro v m' J' hle ⟨rfl, w, rfl, _⟩; refine Sa V.mv ?_; refine Sa V.ex ?_; refine Sa V.ex ?_; refine Sa V.asg ?_; refine Sa V.asg ?_; refine nr ?_; refine Sa V.mv ?_; refine Sa V.asg ?_; refine ns ?_; refine WC.ret ?_; refine Lf ?_; exact ⟨rfl, rfl, Jm.le.refl _⟩
end
end Go.Opn

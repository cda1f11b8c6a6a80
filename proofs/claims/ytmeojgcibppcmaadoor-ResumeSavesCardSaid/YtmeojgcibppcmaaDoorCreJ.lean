/- A part of the proof of ResumeSaves. -/
import Derived.Test.YtmeojgcibppcmaaDoorCreH
set_option linter.unusedVariables false
set_option linter.unusedSimpArgs false
namespace Go.Cre
open Go.RowKit
section
variable {P : Program} {B : Nat → Prop} {w0 w : World} {μ : Mp} {H H' : Hp}
theorem zeroCells_size (z : Array Value) (n : Nat) : (Builtin.zeroCells z n).size = n * z.size := by simp [Builtin.zeroCells]
theorem grown_brel {a b a' b' : List Value} {elem : TypeId} {z : Value} {sz need cap f fz r : Nat} {sh : Bool} {μ' : Mp} (ha : LRel μ' a a') (hb : LRel μ' b b') (hsz : P.cellsOf elem = sz) (hz : z.cells.toList.length = sz) (hl : (a ++ b).length = need * sz) (hcap : need ≤ cap) :
  BRel P μ' ⟨r, cap * sz, sz⟩ (.row (a ++ b) elem true f fz sh) (.cells (a'.toArray ++ (b'.toArray ++ Builtin.zeroCells z.cells (cap - need))) elem) := by
 have hc := ha.append hb; have hzz : z.cells.size = sz := by simpa using hz
 have hes : (a'.toArray ++ (b'.toArray ++ Builtin.zeroCells z.cells (cap - need))) = (a' ++ b').toArray ++ Builtin.zeroCells z.cells (cap - need) := by
  apply Array.ext'; simp
 rw [hes]; refine ⟨rfl, ?_, hsz, ?_, (fun h => by cases h), fun i v v' a b => ?_, ⟨fun off _ h1 h2 => by simp at h2, fun _ => .inl rfl⟩⟩
 ·
  rw [Array.size_append, zeroCells_size, hzz]; simp only [List.size_toArray]; rw [← hc.1, hl, ← Nat.add_mul]; congr 1; omega
 ·
  show (a ++ b).length ≤ cap * sz; rw [hl]; exact Nat.mul_le_mul_right _ hcap
 ·
  refine hc.2 i v v' a ?_; have hi : i < (a' ++ b').length := by
   have := (List.getElem?_eq_some_iff.1 a).1; have := hc.1; omega
  rw [Array.getElem?_append_left (by simpa using hi)] at b; simpa using b
theorem blt_false {a b : Nat} (h : Nat.blt a b = false) : b ≤ a := by
 rcases Nat.lt_or_ge a b with q | q
 ·
  have := Nat.ble_eq_true_of_le q; unfold Nat.blt at h; simp_all
 ·
  exact q
theorem evAppend_sound (h : HRel P B w0 μ H w) {ts tx ty : TypeId} {dx : TypeDesc} {s s' x x' v : Value} (hs : VRel μ s s') (hx : VRel μ x x') (htx : P.underlying tx = some dx) (hdx : ∀ k, dx ≠ .int k) (he : evAppend P H ts s x = some (v, H')) :
  ∃ v' w' μ', (Builtin.append_ #[ts, tx] ty #[s', x']).run P w = .ok v' w' ∧ HRel P B w0 μ' H' w' ∧ Step μ μ' H H' ∧ VRel μ' v v' := by
 unfold evAppend at he; cases hu : P.underlying ts with
 | none => rw [hu] at he; simp at he
 | some d =>
  rw [hu] at he; cases d with
  | slice elem =>
   cases s with
   | slice base sLen sCap =>
    simp only at he; cases hsz : sizeT P elem with
    | none => rw [hsz] at he; simp at he
    | some sz =>
    rw [hsz] at he; cases hby : bytesT P elem with
    | none => rw [hby] at he; simp at he
    | some by_ =>
    rw [hby] at he; cases hz : zeroT P elem with
    | none => rw [hz] at he; simp at he
    | some z =>
    rw [hz] at he; cases hn : lenA x with
    | none => rw [hn] at he; simp at he
    | some n =>
    rw [hn] at he; simp only at he; cases hc1 : (Nat.ble (sLen + n) 1000000 && Nat.ble by_ 1000000 && Nat.beq z.cells.toList.length sz) with
    | false => rw [hc1] at he; simp at he
    | true =>
    rw [hc1] at he; simp only [Bool.not_true, cond_false] at he; simp only [Bool.and_eq_true] at hc1; obtain ⟨⟨q1, q2⟩, q3⟩ := hc1; have q1 := Nat.le_of_ble_eq_true q1; have q2 := Nat.le_of_ble_eq_true q2; have q3 := Nat.eq_of_beq_eq_true q3; cases hf : evFirst H sz n x with
    | none => rw [hf] at he; simp at he
    | some new =>
    rw [hf] at he; simp only at he; cases hc2 : (new.all oneCell && Nat.beq new.length (n * sz)) with
    | false => rw [hc2] at he; simp at he
    | true =>
    rw [hc2] at he; simp only [Bool.not_true, cond_false] at he; simp only [Bool.and_eq_true] at hc2; have q4 := Nat.eq_of_beq_eq_true hc2.2; obtain ⟨new', n1, n2⟩ := evFirst_sound h hx hn (Nat.le_refl _) hf; have hlen := lenA_run (P := P) hx hn; obtain ⟨i, hi, rfl⟩ := bytesT_run hby
    have hzz : i.zero = some z := by simpa [zeroT, hi] using hz
    have hss : i.size = sz := by simpa [sizeT, hi] using hsz
    have hnw : (Builtin.firstCells i.size n x').run P w = .ok new'.toArray w := by rw [hss]; exact n2 w.drawn
    have hop : (openCap : Nat) = 1208925819614629174706176 := rfl; by_cases hopen : sCap = openCap
    ·
     subst hopen; rw [Nat.beq_refl, cond_true] at he; cases base with
     | none => simp at he
     | some a =>
      obtain ⟨id, off, L, off', cap', rfl, hL, rfl, ho, _, hcase⟩ := hs.slice_inv (.inr (.inr (by decide))); simp only at he; cases hm : H.mem.get id with
      | none => rw [hm] at he; simp at he
      | some b =>
       rw [hm] at he; cases b with
       | row cells el opn fam fz sh =>
        cases opn with
        | false => simp at he
        | true =>
        simp only at he; cases hc3 : (Nat.beq el elem && !Nat.blt id H.glo && Nat.ble fz (off + sLen * sz)) with
        | false => rw [hc3] at he; simp at he
        | true =>
        rw [hc3] at he; simp only [Bool.not_true, cond_false] at he; simp only [Bool.and_eq_true, Bool.not_eq_true'] at hc3; obtain ⟨⟨r1, r2⟩, r3⟩ := hc3; have r1 := Nat.eq_of_beq_eq_true r1; subst r1; have r2 := blt_false r2; have r3 := Nat.le_of_ble_eq_true r3; obtain ⟨c, f, g1, g2, g3, g4, g5, g6, g7⟩ := h.row hL hm; have hLsz : L.sz = sz := by rw [← g3]; exact sizeT_cells hsz
        cases hn0 : Nat.beq n 0 with
        | true =>
         rw [hn0, cond_true] at he; simp only [Option.some.injEq, Prod.mk.injEq] at he; obtain ⟨rfl, rfl⟩ := he; have hn0 := Nat.eq_of_beq_eq_true hn0; subst hn0; have hnil : new' = [] := by
          have := n1.1; rw [q4] at this; exact List.length_eq_zero_iff.1 (by omega)
         subst hnil; refine ⟨_, w, μ, ?_, h, Step.refl _ _, hs⟩; have hle : sLen + 0 ≤ cap' := by
          rcases hcase with ⟨c1, _⟩ | ⟨_, c2, _⟩ | ⟨_, c2, c3⟩ <;> omega
         exact run_append_fit ts tx ty el dx i hu htx hdx hi (some ⟨L.r, off', none⟩) sLen cap' 0 x' [] w hlen hnw hle (fun a _ => rfl) (fun q => by cases q)
        | false =>
        rw [hn0, cond_false] at he; have hnpos : 0 < n := by
         rcases Nat.eq_zero_or_pos n with q | q
         ·
          subst q; simp at hn0
         ·
          exact q
        cases ho0 : Nat.beq off 0 with
        | false => rw [ho0] at he; simp at he
        | true =>
        rw [ho0] at he; simp only [Bool.not_true, cond_false] at he; have ho0 := Nat.eq_of_beq_eq_true ho0; subst ho0; cases hold : takeN (sLen * sz) cells with
        | none => rw [hold] at he; simp at he
        | some old =>
        rw [hold] at he; simp only at he; obtain ⟨o1, o2, o3⟩ := takeN_eq hold; cases hfl : H.fam.get fam with
        | none => rw [hfl] at he; simp at he
        | some l =>
        rw [hfl] at he; simp only at he; cases hcut : cutFam H id l with
        | none => rw [hcut] at he; simp at he
        | some p =>
        obtain ⟨l1, H1⟩ := p; rw [hcut] at he; simp only at he; obtain ⟨k1, k2, k3, k4, k5, k6, k7, k8, k9, pre, k10, k11⟩ := cutFam_eq hcut; have hmem1 : ∀ x, H1.mem.get x = H.mem.get x ∨ (H1.mem.get x = some .dead ∧ (isOpen (H.mem.get x) = true ∨ H.mem.get x = some .dead)) := fun x => by
         rcases k9 x with q | q
         ·
          exact .inl q
         ·
          exact .inr ⟨q.1, (h.famMem fam l x hfl q.2).2⟩
        obtain ⟨hH1, hS1⟩ := h.kill (H' := H1) k1 k3 k4 hmem1 (fun f l hl => ⟨l, by rw [k2]; exact hl, List.Sublist.refl _, fun x a b => absurd a b⟩) (fun f l hl => ⟨l, by rw [← k2]; exact hl, List.Sublist.refl _⟩)
        -- the old members that stay are no longer than what is kept
        have hlen1 : ∀ y ∈ l1, ∀ c e f z s, H1.mem.get y = some (.row c e true f z s) → c.length ≤ cells.length := fun y hy c e f z s q => by
         have hsrt := hH1.famSort fam l (by rw [k2]; exact hfl); have hs1 := hsrt.sublist k5; rw [k11] at hs1 hy; rcases List.mem_cons.1 hy with rfl | hy
         ·
          rw [k7, hm] at q; injection q with q; injection q with q; subst q; exact Nat.le_refl _
         ·
          exact (List.pairwise_cons.1 hs1).1 y hy _ _ _ _ _ _ _ _ _ _ (by rw [k7]; exact hm) q
        -- the second cut
        cases hq : cutMore H1 l1 (Nat.beq cells.length (sLen * sz)) with
        | none => rw [hq] at he; simp at he
        | some p =>
        obtain ⟨l2, H2⟩ := p; rw [hq] at he; simp only at he; unfold cutMore at hq
        have hH2 : HRel P B w0 μ H2 w ∧ Step μ μ H H2 ∧ H2.nx = H.nx ∧ H2.nf = H.nf ∧ H2.glo = H.glo ∧ H2.fam.get fam = some l ∧ l2.Sublist l ∧ (∀ x, x ∈ l → x ∉ l2 → H2.mem.get x = some .dead) ∧
          (∀ y ∈ l2, ∀ c e f z s, H2.mem.get y = some (.row c e true f z s) → c.length ≤ sLen * sz) ∧ (∀ x, H2.mem.get x = H.mem.get x ∨ H2.mem.get x = some .dead) := by
         cases hb : Nat.beq cells.length (sLen * sz) with
         | true =>
          rw [hb, cond_true] at hq; simp only [Option.some.injEq, Prod.mk.injEq] at hq; obtain ⟨rfl, rfl⟩ := hq; have hb := Nat.eq_of_beq_eq_true hb; exact ⟨hH1, hS1, k1, k3, k4, by rw [k2]; exact hfl, k5, k8, fun y hy c e f z s q => by have := hlen1 y hy c e f z s q; omega, fun x => (hmem1 x).imp (fun q => q) And.left⟩
         | false =>
          rw [hb, cond_false] at hq; cases hk : killAll H1 H1.nx l1 with
          | none => rw [hk] at hq; simp at hq
          | some H2' =>
           rw [hk] at hq; simp only [Option.some.injEq, Prod.mk.injEq] at hq; obtain ⟨rfl, rfl⟩ := hq; obtain ⟨a1, a2, a3, a4, a5, a6⟩ := killAll_eq hk; have hin : ∀ x, x ∈ l1 → H2'.mem.get x = some .dead := fun x hx => a5 x hx (fun e => by
            have := (hH1.famMem fam l x (by rw [k2]; exact hfl) (k5.mem hx)).1; omega)
           have hmem2 : ∀ x, H2'.mem.get x = H1.mem.get x ∨ (H2'.mem.get x = some .dead ∧ (isOpen (H1.mem.get x) = true ∨ H1.mem.get x = some .dead)) := fun x => by
            by_cases hx : x ∈ l1
            ·
             exact .inr ⟨hin x hx, (hH1.famMem fam l x (by rw [k2]; exact hfl) (k5.mem hx)).2⟩
            ·
             exact .inl (a6 x (.inl hx))
           obtain ⟨hH2, hS2⟩ := hH1.kill (H' := H2') a1 a3 a4 hmem2 (fun f l hl => ⟨l, by rw [a2]; exact hl, List.Sublist.refl _, fun x a b => absurd a b⟩) (fun f l hl => ⟨l, by rw [← a2]; exact hl, List.Sublist.refl _⟩); refine ⟨hH2, hS1.trans hS2, by omega, by omega, by omega, by rw [a2, k2]; exact hfl, List.nil_sublist _, fun x hx _ => ?_, fun y hy => by simp at hy, fun x => ?_⟩
           ·
            by_cases hx1 : x ∈ l1
            ·
             exact hin x hx1
            ·
             have := k8 x hx hx1; rcases hmem2 x with q | q
             ·
              rw [q]; exact this
             ·
              exact q.1
           ·
            rcases hmem2 x with q | q
            ·
             rw [q]; exact (hmem1 x).imp (fun q => q) And.left
            ·
             exact .inr q.1
        obtain ⟨hH2, hS2, m1, m2, m3, m4, m5, m6, m7, m8⟩ := hH2; cases hset : H2.setFam fam (H2.nx :: l2) with
        | none => rw [hset] at he; simp at he
        | some H3 =>
        rw [hset] at he; simp only at he; obtain ⟨s1, s2, s3, s4, s5⟩ := Hp.setFam_eq hset; cases hnewb : H3.new (.row (old ++ new) el true fam fz sh) with
        | none => rw [hnewb] at he; simp at he
        | some p =>
        obtain ⟨nid, H4⟩ := p; rw [hnewb] at he; simp only [Option.some.injEq, Prod.mk.injEq] at he; obtain ⟨rfl, rfl⟩ := he; obtain ⟨rfl, t1, t2, t3, t4, t5⟩ := Hp.new_eq hnewb; have e1 : H4.nx = H2.nx + 1 := by omega
        have e5 : ∀ m, H4.mem.get m = if m = H2.nx then some (.row (old ++ new) el true fam fz sh) else H2.mem.get m := fun m => by rw [t5, s1, s2]
        have e6 : ∀ m, H4.fam.get m = if m = fam then some (H2.nx :: l2) else H2.fam.get m := fun m => by rw [t2, s5]
        have hfam : fam < H2.nf := by have := h.famLt _ _ _ _ _ _ hm; omega
        have hlenon : (old ++ new).length = (sLen + n) * sz := by rw [List.length_append, o2, q4, Nat.add_mul]
        have hsort : ∀ y ∈ l2, ∀ c e f z s, H2.mem.get y = some (.row c e true f z s) → c.length ≤ (old ++ new).length := fun y hy c e f z s q => by
         have := m7 y hy c e f z s q; rw [List.length_append, o2]; omega
        -- what is kept, really
        have hold' : LRel μ old (c.toList.take (sLen * sz)) := by
         have := g6.take (sLen * sz); rw [← o1, List.take_take, Nat.min_eq_left o3] at this; exact this
        rw [s1]; rcases hcase with ⟨c1, _⟩ | ⟨_, c2, rfl, c3⟩ | ⟨_, rfl, rfl⟩
        ·
         omega
        ·
         -- a slice with room of its own, or none
         by_cases hfit : sLen + n ≤ cap'
         ·
          -- in place
          rw [hLsz] at c3; have hroom : (sLen + n) * sz ≤ L.N := by
           have := Nat.mul_le_mul_right sz hfit; omega
          have hst := run_storeCells_row (P := P) L.r (sLen * sz) el f new' 0 c w g1 (by rw [← n1.1, q4, g2]; rw [Nat.add_mul] at hroom; omega) (fun j hj => by
           rw [← n1.1, q4] at hj; exact frz_ok g7 (by rw [Nat.add_mul] at hroom; omega) (by omega)) (all_oneCell n1 hc2.1)
          simp only [Nat.add_zero] at hst
          obtain ⟨hH4, hS4⟩ := hH2.pushSame (H' := H4) (f := fam) (id := id) (l := l2) (l0 := l) (cells := old ++ new) (elem := el) (fz := fz) (sh := sh) (o := .cells c el f) (o' := .cells (splA c (sLen * sz) new') el f) (L := L) m4 m5 m6 hfam hL (by omega) (h.new id L hL (by omega) (by rw [hm]; intro q; cases q)) e1 (by omega) (by omega) e5 e6 hsort
           (fun y L' hy hr => by
            by_cases hdead : H2.mem.get y = some .dead
            ·
             exact .inl hdead
            ·
             right
             have hyl : y ∈ l ∧ inFam H y fam := by
              by_cases hyi : y = id
              ·
               subst hyi; exact ⟨k5.mem k6, ⟨_, _, _, _, hm⟩⟩
              ·
               rcases h.sep id y L L' (Ne.symm hyi) hL hy hr.symm with d | d | ⟨f', l', ⟨c1, e1', z1, s1', q⟩, q', hl', _, m2'⟩
               ·
                rw [hm] at d; cases d
               ·
                exact absurd ((m8 y).elim (fun q => q.trans d) (fun q => q)) hdead
               ·
                rw [hm] at q; injection q with q; injection q with _ _ _ q; subst q
                rw [hfl] at hl'; injection hl' with hl'; subst hl'
                exact ⟨m2', q'⟩
             have hyl2 : y ∈ l2 := Classical.byContradiction fun hno => hdead (m6 y hyl.1 hno); obtain ⟨b, o, p1, p2, p3⟩ := hH2.blk y L' hy; have hget : H2.mem.get y = H.mem.get y := (m8 y).resolve_right hdead; obtain ⟨cy, ey, zy, sy, qy⟩ := hyl.2; have p1' := p1; rw [hget, qy] at p1; injection p1 with p1; subst p1
             have hly := m7 y hyl2 _ _ _ _ _ (hget.trans qy); refine ⟨⟨cy, ey, zy, sy, hget.trans qy⟩, hyl2, _, hget.trans qy, ?_⟩; rw [hr, g1] at p2; injection p2 with p2; subst p2
             obtain ⟨z1, z2, z3, z4, z5, z6, z7⟩ := p3; refine ⟨z1, by rw [splA_size]; exact z2, z3, z4, fun q => (by cases q), fun j v v' a b => ?_, z7⟩; rw [splA_get _ _ _ _ (by rw [← n1.1, q4, g2]; rw [Nat.add_mul] at hroom; omega)] at b; have hj := (List.getElem?_eq_some_iff.1 a).1; rw [if_neg (by omega)] at b; exact z6 j v v' a b)
           (by
            refine ⟨rfl, by rw [splA_size]; exact g2, g3, by rw [hlenon]; exact hroom, fun q => (by cases q), fun j v v' a b => ?_, g7⟩; rw [splA_get _ _ _ _ (by rw [← n1.1, q4, g2]; rw [Nat.add_mul] at hroom; omega)] at b; rw [List.getElem?_append] at a; rw [o2] at a; split at a
            ·
             rename_i hj; rw [if_neg (by omega)] at b; refine hold'.2 j v v' a ?_; rw [List.getElem?_take, if_pos hj]; simpa using b
            ·
             rename_i hj; have hj2 := (List.getElem?_eq_some_iff.1 a).1; rw [if_pos (by rw [← n1.1]; omega)] at b; exact n1.2 _ v v' a b)
          refine ⟨.slice (some ⟨L.r, 0, none⟩) (sLen + n) cap', _, _, ?_, hH4, hS2.trans hS4, ?_⟩
          ·
           exact run_append_fit ts tx ty el dx i hu htx hdx hi (some ⟨L.r, 0, none⟩) sLen cap' n x' new' _ hlen hnw hfit (fun a q => by
            injection q with q; subst q
            rw [Addr.add_mk, hss, Nat.zero_add]; exact hst) (fun q => by cases q)
          ·
           exact .sliceO H2.nx 0 (sLen + n) cap' L (Mp.put_self _ _ _) hfit (by rw [hLsz]; exact c3)
         ·
          -- it grows
          have hrun := run_append_gen (P := P) (w := w) ts tx ty el dx i z hu htx hdx hi hzz (some ⟨L.r, 0, none⟩) sLen cap' n x' (c.toList.take (sLen * sz)) new' hlen
           (fun nd => by
            rw [hss]; refine run_firstCells_some (P := P) { w with drawn := nd } sz sLen ⟨L.r, 0, none⟩ sLen cap' _ (by rw [← hold'.1, o2]) (fun j v hj => ?_); rw [Addr.add_mk, Nat.zero_add]; have := cell_of_row (w := { w with drawn := nd }) g1 j; rw [this]; rw [List.getElem?_take] at hj; split at hj
            ·
             simpa using hj
            ·
             cases hj)
           (fun nd => by rw [hss]; exact n2 nd) (by omega) q1 q2
          have hge := grownCap_ge w (sLen + n) cap' el
          obtain ⟨hH4, hS4⟩ := hH2.drew.pushNew (H' := H4) (f := fam) (l := l2) (l0 := l) (cells := old ++ new) (elem := el) (fz := fz) (sh := sh)
           (o := .cells ((c.toList.take (sLen * sz)).toArray ++ (new'.toArray ++ Builtin.zeroCells z.cells (grownCap w (sLen + n) cap' el - (sLen + n)))) el) (L := ⟨w.heap.size, grownCap w (sLen + n) cap' el * sz, sz⟩) m4 m5 m6 hfam e1 (by omega) (by omega) e5 e6 hsort rfl
           (grown_brel (hold'.mono (hH2.ext_put _)) (n1.mono (hH2.ext_put _)) (by rw [g3, hLsz]) q3 hlenon hge)
          refine ⟨_, _, _, hrun, hH4, hS2.trans hS4, ?_⟩; exact .sliceO H2.nx 0 (sLen + n) _ ⟨w.heap.size, grownCap w (sLen + n) cap' el * sz, sz⟩ (Mp.put_self _ _ _) hge (by simp)
        ·
         -- a slice without room
         have hrun := run_append_gen (P := P) (w := w) ts tx ty el dx i z hu htx hdx hi hzz (some ⟨L.r, off', none⟩) 0 0 n x' [] new' hlen
          (fun nd => by simp [Builtin.firstCells, loadCells, loadCellsFrom])
          (fun nd => by rw [hss]; exact n2 nd) (by omega) q1 q2
         have hge := grownCap_ge w (0 + n) 0 el; have ho2 : old = [] := List.length_eq_zero_iff.1 (by omega); subst ho2
         obtain ⟨hH4, hS4⟩ := hH2.drew.pushNew (H' := H4) (f := fam) (l := l2) (l0 := l) (cells := [] ++ new) (elem := el) (fz := fz) (sh := sh)
          (o := .cells (([] : List Value).toArray ++ (new'.toArray ++ Builtin.zeroCells z.cells (grownCap w (0 + n) 0 el - (0 + n)))) el) (L := ⟨w.heap.size, grownCap w (0 + n) 0 el * sz, sz⟩) m4 m5 m6 hfam e1 (by omega) (by omega) e5 e6 hsort rfl
          (grown_brel (LRel.nil _) (n1.mono (hH2.ext_put _)) (by rw [g3, hLsz]) q3 hlenon hge)
         refine ⟨_, _, _, hrun, hH4, hS2.trans hS4, ?_⟩; exact .sliceO H2.nx 0 (0 + n) _ ⟨w.heap.size, grownCap w (0 + n) 0 el * sz, sz⟩ (Mp.put_self _ _ _) hge (by simp)
       | _ => simp at he
    ·
     rw [beq_false hopen, cond_false] at he
     -- the exact ones
     have hsp : ∀ a, base = some a → a.spot = none := fun a q => by
      subst q; cases q : a.spot with
      | none => rfl
      | some k =>
       exfalso; cases hf : Nat.ble (sLen + n) sCap with
       | true => rw [hf] at he; simp [q] at he
       | false => rw [hf] at he; simp [noSpot, q] at he
     have hbase : (base = none ∧ s' = .slice none sLen sCap) ∨ (∃ id off L, base = some ⟨id, off, none⟩ ∧ μ id = some L ∧ s' = .slice (some ⟨L.r, off, none⟩) sLen sCap) := by
      cases base with
      | none => exact .inl ⟨rfl, hs.slice_nil⟩
      | some a =>
       obtain ⟨id, off, L, off', cap', rfl, hL, rfl, ho, _, hcase⟩ := hs.slice_inv (.inl (hsp a rfl)); rcases hcase with ⟨_, rfl, rfl⟩ | ⟨q, _⟩ | ⟨q, _⟩
       ·
        exact .inr ⟨id, off', L, rfl, hL, rfl⟩
       ·
        exact absurd q hopen
       ·
        exact absurd q hopen
     cases hfit : Nat.ble (sLen + n) sCap with
     | true =>
      rw [hfit, cond_true] at he; have hfit := Nat.le_of_ble_eq_true hfit; rcases hbase with ⟨rfl, rfl⟩ | ⟨id, off, L, rfl, hL, rfl⟩
      ·
       simp only at he; cases hn0 : Nat.beq n 0 with
       | false => rw [hn0] at he; simp at he
       | true =>
        rw [hn0, cond_true] at he; simp only [Option.some.injEq, Prod.mk.injEq] at he; obtain ⟨rfl, rfl⟩ := he; have hn0 := Nat.eq_of_beq_eq_true hn0; subst hn0; refine ⟨_, w, μ, ?_, h, Step.refl _ _, hs⟩; exact run_append_fit ts tx ty elem dx i hu htx hdx hi none sLen sCap 0 x' new' w hlen hnw hfit (fun a q => by cases q) (fun _ => rfl)
      ·
       simp only at he; cases hst : evStoreCells H id (off + sLen * sz) new with
       | none => rw [hst] at he; simp at he
       | some H1 =>
        rw [hst] at he; simp only [Option.some.injEq, Prod.mk.injEq] at he; obtain ⟨rfl, rfl⟩ := he; obtain ⟨w', a1, a2, a3⟩ := evStoreCells_sound h hL n1 hst; refine ⟨.slice (some ⟨L.r, off, none⟩) (sLen + n) sCap, w', μ, ?_, a2, a3, ?_⟩
        ·
         exact run_append_fit ts tx ty elem dx i hu htx hdx hi (some ⟨L.r, off, none⟩) sLen sCap n x' new' w' hlen hnw hfit (fun a q => by
          injection q with q; subst q
          rw [Addr.add_mk, hss]; exact a1) (fun q => by cases q)
        ·
         have hlt : sCap < openCap := by
          obtain ⟨_, _, _, _, _, _, _, _, _, _, hcase⟩ := hs.slice_inv (.inl rfl); rcases hcase with ⟨q, _⟩ | ⟨q, _⟩ | ⟨q, _⟩
          ·
           exact q
          ·
           exact absurd q hopen
          ·
           exact absurd q hopen
         exact .sliceE id off _ _ L hL hlt
     | false =>
      rw [hfit, cond_false, show noSpot base = true from by rcases hbase with ⟨rfl, _⟩ | ⟨_, _, _, rfl, _⟩ <;> rfl, cond_true] at he; have hfit : sCap < sLen + n := by
       rcases Nat.lt_or_ge sCap (sLen + n) with q | q
       ·
        exact q
       ·
        rw [Nat.ble_eq_true_of_le q] at hfit; cases hfit
      cases hold : evFirst H sz sLen (.slice base sLen sCap) with
      | none => rw [hold] at he; simp at he
      | some old =>
       rw [hold] at he; simp only at he; obtain ⟨old', o1, o2⟩ := evFirst_sound h hs (m := sLen) rfl (Nat.le_refl _) hold; cases hlo : Nat.beq old.length (sLen * sz) with
       | false => rw [hlo] at he; simp at he
       | true =>
        rw [hlo, cond_true] at he; have hlo := Nat.eq_of_beq_eq_true hlo; unfold fresh at he; cases hno : H.newOpen (old ++ new) elem false with
        | none => rw [hno] at he; simp at he
        | some p =>
         obtain ⟨nid, H1⟩ := p; rw [hno] at he; simp only [Option.some.injEq, Prod.mk.injEq] at he; obtain ⟨rfl, rfl⟩ := he; have hge := grownCap_ge w (sLen + n) sCap elem; have hlenon : (old ++ new).length = (sLen + n) * sz := by rw [List.length_append, hlo, q4, Nat.add_mul]
         obtain ⟨a1, a2, rfl⟩ := h.drew.madeOpen (o := .cells (old'.toArray ++ (new'.toArray ++ Builtin.zeroCells z.cells (grownCap w (sLen + n) sCap elem - (sLen + n)))) elem) (L := ⟨w.heap.size, grownCap w (sLen + n) sCap elem * sz, sz⟩) hno rfl
          (fun f => grown_brel (o1.mono (h.ext_put _)) (n1.mono (h.ext_put _)) (sizeT_cells hsz) q3 hlenon hge)
         have hs' : ∃ b', s' = .slice b' sLen sCap := by
          rcases hbase with ⟨_, q⟩ | ⟨_, _, _, _, _, q⟩
          ·
           exact ⟨_, q⟩
          ·
           exact ⟨_, q⟩
         obtain ⟨b', rfl⟩ := hs'
         have hrun := run_append_gen (P := P) (w := w) ts tx ty elem dx i z hu htx hdx hi hzz b' sLen sCap n x' old' new' hlen
          (fun nd => by rw [hss]; exact o2 nd) (fun nd => by rw [hss]; exact n2 nd) hfit q1 q2
         exact ⟨_, _, _, hrun, a1, a2, .sliceO H.nx 0 (sLen + n) _ _ (Mp.put_self _ _ _) hge (by simp)⟩
   | _ => simp at he
  | _ => simp at he
end
end Go.Cre

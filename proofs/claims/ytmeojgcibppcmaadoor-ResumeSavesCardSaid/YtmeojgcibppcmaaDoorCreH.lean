/- A part of the proof of ResumeSaves. -/
import Derived.Test.YtmeojgcibppcmaaDoorCreF
import Derived.Laws.MakeOwn
set_option linter.unusedVariables false
set_option linter.unusedSimpArgs false
namespace Go.Cre
open Go.RowKit
section
variable {P : Program} {B : Nat → Prop} {w0 w : World} {μ : Mp} {H H' : Hp}
def ORel (μ : Mp) : Option Value → Option Value → Prop
 | none, none => True
 | some v, some v' => VRel μ v v'
 | _, _ => False
theorem run_sliceBound {k : IntKind} {n y : Nat} (h : n ≤ y) (code : BoundsCode) (w : World) : (Instr.sliceBound (.int k (n : Int)) y code).run P w = .ok n w := by
 have : (n : Int) ≤ (y : Int) := by omega
 simp [Instr.sliceBound, asIntOf, this]
theorem bounds_sound {lo lo' hi hi' : Option Value} (hlo : ORel μ lo lo') (hhi : ORel μ hi hi') {len top top' h l : Nat} {isS : Bool} (hh : bnd len top hi = some h) (hl : bnd 0 h lo = some l) (ht : top ≤ top') (w : World) :
  (Instr.sliceBounds isS len top' lo' hi' none).run P w = .ok (l, h, top') w ∧ l ≤ h ∧ (len ≤ top' → h ≤ top') := by
 have h1 : (hi = none ∧ hi' = none ∧ h = len) ∨ (∃ k, hi = some (.int k h) ∧ hi' = some (.int k h) ∧ h ≤ top) := by
  cases hi with
  | none => cases hi' with
   | none => simp [bnd] at hh; exact .inl ⟨rfl, rfl, hh.symm⟩
   | some v => exact hhi.elim
  | some v => cases hi' with
   | none => exact hhi.elim
   | some v' =>
    cases v with
    | int k i =>
     obtain ⟨rfl, hle⟩ := intUp_spec (by simpa [bnd] using hh); have := VRel.int_inv hhi; subst this; exact .inr ⟨k, rfl, rfl, hle⟩
    | _ => simp [bnd] at hh
 have h2 : (lo = none ∧ lo' = none ∧ l = 0) ∨ (∃ k, lo = some (.int k l) ∧ lo' = some (.int k l) ∧ l ≤ h) := by
  cases lo with
  | none => cases lo' with
   | none => simp [bnd] at hl; exact .inl ⟨rfl, rfl, hl.symm⟩
   | some v => exact hlo.elim
  | some v => cases lo' with
   | none => exact hlo.elim
   | some v' =>
    cases v with
    | int k i =>
     obtain ⟨rfl, hle⟩ := intUp_spec (by simpa [bnd] using hl); have := VRel.int_inv hlo; subst this; exact .inr ⟨k, rfl, rfl, hle⟩
    | _ => simp [bnd] at hl
 rcases h1 with ⟨_, rfl, rfl⟩ | ⟨k, _, rfl, e1⟩ <;> rcases h2 with ⟨_, rfl, rfl⟩ | ⟨k', _, rfl, e2⟩
 ·
  exact ⟨by simp [Instr.sliceBounds], by omega, by omega⟩
 ·
  exact ⟨by simp [Instr.sliceBounds, run_sliceBound e2], by omega, by omega⟩
 ·
  exact ⟨by simp [Instr.sliceBounds, run_sliceBound (show h ≤ top' by omega)], by omega, by omega⟩
 ·
  exact ⟨by simp [Instr.sliceBounds, run_sliceBound (show h ≤ top' by omega), run_sliceBound e2], by omega, by omega⟩
theorem beq_false {a b : Nat} (h : a ≠ b) : Nat.beq a b = false := by
 cases q : Nat.beq a b
 ·
  rfl
 ·
  exact absurd (Nat.eq_of_beq_eq_true q) h
theorem evSlice_sound (h : HRel P B w0 μ H w) {t : TypeId} {x x' v : Value} {lo lo' hi hi' : Option Value} (hx : VRel μ x x') (hlo : ORel μ lo lo') (hhi : ORel μ hi hi') (he : evSlice P H t x lo hi = some v) :
  ∃ v', (Instr.sliceAt t x' lo' hi' none).run P w = .ok v' w ∧ VRel μ v v' := by
 unfold evSlice at he; cases hu : P.underlying t with
 | none => rw [hu] at he; simp at he
 | some d =>
  rw [hu] at he; cases d with
  | array n elem =>
   cases x with
   | pointer a =>
    cases a with
    | none => simp at he
    | some a =>
     obtain ⟨id, off, L, rfl, hL, rfl⟩ := hx.ptr_inv; simp only at he; cases hs : sizeT P elem with
     | none => rw [hs] at he; simp at he
     | some sz =>
      rw [hs] at he; simp only at he; cases hcap : Nat.blt n openCap with
      | false => rw [hcap] at he; simp at he
      | true =>
      rw [hcap] at he; simp only [Bool.not_true, cond_false] at he; have hcap' : n < openCap := Nat.le_of_ble_eq_true hcap; cases hh : bnd n n hi with
      | none => rw [hh] at he; simp at he
      | some hh' =>
       rw [hh] at he; simp only at he; cases hl : bnd 0 hh' lo with
       | none => rw [hl] at he; simp at he
       | some l =>
        rw [hl] at he; simp only [Option.some.injEq] at he; subst he; obtain ⟨b1, b2, b3⟩ := bounds_sound (P := P) (isS := false) hlo hhi hh hl (Nat.le_refl _) w; show ∃ v', _ ∧ VRel μ (.slice (some (bif Nat.beq n l then _ else _)) (hh' - l) (n - l)) v'; by_cases hnl : n = l
        ·
         subst hnl; refine ⟨.slice (some ⟨L.r, off, none⟩) (hh' - n) (n - n), ?_, ?_⟩
         ·
          simp [Instr.sliceAt, und_run hu, Instr.sureAddr, b1, sizeT_run hs]
         ·
          rw [Nat.beq_refl n, cond_true]; exact .sliceE id off (hh' - n) (n - n) L hL (by omega)
        ·
         refine ⟨.slice (some ⟨L.r, off + l * sz, none⟩) (hh' - l) (n - l), ?_, ?_⟩
         ·
          simp [Instr.sliceAt, und_run hu, Instr.sureAddr, b1, sizeT_run hs, hnl, Addr.add_mk]
         ·
          rw [beq_false hnl, cond_false]; exact .sliceE id (off + l * sz) (hh' - l) (n - l) L hL (by omega)
   | _ => simp at he
  | slice elem =>
   cases x with
   | slice a len cap =>
    cases a with
    | none => simp at he
    | some a =>
     have hsp : a.spot = none := by
      cases q : a.spot with
      | none => rfl
      | some _ => simp [q] at he
     obtain ⟨id, off, L, off', cap', rfl, hL, rfl, ho, _, hcase⟩ := hx.slice_inv (.inl hsp); simp only at he; cases hs : sizeT P elem with
     | none => rw [hs] at he; simp at he
     | some sz =>
      rw [hs] at he; simp only at he; by_cases hop : cap = openCap
      ·
       subst hop; rw [Nat.beq_refl, cond_true] at he; cases hm : H.mem.get id with
       | none => rw [hm] at he; simp at he
       | some b =>
        rw [hm] at he; cases b with
        | row cells el opn fam fz sh =>
         simp only at he; cases hel : Nat.beq el elem with
         | false => rw [hel] at he; simp at he
         | true =>
          rw [hel] at he; simp only [Bool.not_true, cond_false] at he; have := Nat.eq_of_beq_eq_true hel; subst this; obtain ⟨c, f, r1, r2, r3, r4, r5, r6, r7⟩ := h.row hL hm; have hsz : L.sz = sz := by rw [← r3]; exact sizeT_cells hs
          cases hh : bnd len len hi with
          | none => rw [hh] at he; simp at he
          | some g =>
           rw [hh] at he; simp only at he; cases hl : bnd 0 g lo with
           | none => rw [hl] at he; simp at he
           | some l =>
            rw [hl] at he; simp only [Option.some.injEq] at he; subst he; show ∃ v', _ ∧ VRel μ (.slice _ (g - l) openCap) v'; rcases hcase with ⟨c1, _, _⟩ | ⟨_, c2, rfl, c3⟩ | ⟨_, rfl, rfl⟩
            ·
             omega
            ·
             obtain ⟨b1, b2, b3⟩ := bounds_sound (P := P) (isS := true) hlo hhi hh hl c2 w; have hg : g ≤ len := by
              have := (bounds_sound (P := P) (isS := true) hlo hhi hh hl (Nat.le_refl _) w).2.2; exact this (Nat.le_refl _)
             by_cases hlc : cap' = l
             ·
              subst hlc; refine ⟨.slice (some ⟨L.r, off', none⟩) (g - cap') (cap' - cap'), ?_, ?_⟩
              ·
               simp [Instr.sliceAt, Instr.slice, und_run hu, b1, sizeT_run hs]
              ·
               have e1 : g - cap' = 0 := by omega
               rw [e1, Nat.sub_self]; exact .sliceZ id _ off' L hL
             ·
              refine ⟨.slice (some ⟨L.r, off' + l * sz, none⟩) (g - l) (cap' - l), ?_, ?_⟩
              ·
               simp [Instr.sliceAt, Instr.slice, und_run hu, b1, sizeT_run hs, hlc, Addr.add_mk]
              ·
               refine .sliceO id _ _ _ L hL (by omega) ?_; rw [hsz] at c3 ⊢; have : cap' * sz = l * sz + (cap' - l) * sz := by rw [← Nat.add_mul]; congr 1; omega
               omega
            ·
             obtain ⟨b1, b2, b3⟩ := bounds_sound (P := P) (isS := true) (top' := 0) hlo hhi hh hl (Nat.le_refl _) w; have := b3 (Nat.le_refl _); have e1 : g = 0 := by omega
             have e2 : l = 0 := by omega
             subst e1; subst e2; refine ⟨.slice (some ⟨L.r, off', none⟩) 0 0, ?_, ?_⟩
             ·
              simp [Instr.sliceAt, Instr.slice, und_run hu, b1, sizeT_run hs]
             ·
              exact .sliceZ id _ off' L hL
        | _ => simp at he
      ·
       rw [beq_false hop, cond_false] at he; rcases hcase with ⟨c1, rfl, rfl⟩ | ⟨q, _⟩ | ⟨q, _⟩
       ·
        cases hh : bnd len cap' hi with
        | none => rw [hh] at he; simp at he
        | some g =>
         rw [hh] at he; simp only at he; cases hl : bnd 0 g lo with
         | none => rw [hl] at he; simp at he
         | some l =>
          rw [hl] at he; simp only [Option.some.injEq] at he; subst he; show ∃ v', _ ∧ VRel μ (.slice (some (bif Nat.beq cap' l then _ else _)) (g - l) (cap' - l)) v'; obtain ⟨b1, b2, b3⟩ := bounds_sound (P := P) (isS := true) hlo hhi hh hl (Nat.le_refl _) w; by_cases hnl : cap' = l
          ·
           subst hnl; refine ⟨.slice (some ⟨L.r, off', none⟩) (g - cap') (cap' - cap'), ?_, ?_⟩
           ·
            simp [Instr.sliceAt, Instr.slice, und_run hu, b1, sizeT_run hs]
           ·
            rw [Nat.beq_refl, cond_true]; exact .sliceE id off' _ _ L hL (by omega)
          ·
           refine ⟨.slice (some ⟨L.r, off' + l * sz, none⟩) (g - l) (cap' - l), ?_, ?_⟩
           ·
            simp [Instr.sliceAt, Instr.slice, und_run hu, b1, sizeT_run hs, hnl, Addr.add_mk]
           ·
            rw [beq_false hnl, cond_false]; exact .sliceE id _ _ _ L hL (by omega)
       ·
        exact absurd q hop
       ·
        exact absurd q hop
   | _ => simp at he
  | _ => simp at he
theorem zeroCellsL_zero (z : List Value) : zeroCellsL z 0 = [] := by
 rcases z with _ | ⟨a, _ | ⟨b, z⟩⟩ <;> rfl
theorem zeroCellsL_succ (z : List Value) (n : Nat) : zeroCellsL z (n + 1) = z ++ zeroCellsL z n := by
 rcases z with _ | ⟨a, _ | ⟨b, z⟩⟩ <;> rfl
theorem zeroCellsL_length (z : List Value) (n : Nat) : (zeroCellsL z n).length = n * z.length := by
 induction n with
 | zero => simp [zeroCellsL_zero]
 | succ n ih => simp [zeroCellsL_succ, ih, Nat.succ_mul]; omega
theorem zeroCellsL_get (z : List Value) (n i : Nat) (h : i < n * z.length) : (zeroCellsL z n)[i]? = z[i % z.length]? := by
 induction n generalizing i with
 | zero => simp at h
 | succ n ih =>
  simp only [zeroCellsL_succ]; rw [List.getElem?_append]; split
  ·
   rename_i hi; rw [Nat.mod_eq_of_lt hi]
  ·
   rename_i hi; rw [ih (i - z.length) (by rw [Nat.succ_mul] at h; omega)]; congr 1
   exact (Nat.mod_eq_sub_mod (by omega)).symm
theorem zeroCellsL_mem {z : List Value} {n : Nat} {v : Value} {p : Value → Prop} (h : v ∈ zeroCellsL z n) (hp : ∀ u ∈ z, p u) : p v := by
 induction n with
 | zero => simp [zeroCellsL_zero] at h
 | succ m ih =>
  simp only [zeroCellsL_succ, List.mem_append] at h; rcases h with h | h
  ·
   exact hp v h
  ·
   exact ih h
theorem bytesT_run {t : TypeId} {n : Nat} (h : bytesT P t = some n) : ∃ i, P.info? t = some i ∧ i.bytes = n := by
 unfold bytesT at h; cases hi : P.info? t with
 | none => rw [hi] at h; cases h
 | some i => rw [hi] at h; injection h with h; exact ⟨i, rfl, h⟩
theorem zeroCells_eq (z : List Value) (n : Nat) : (Array.range (n * z.length)).map (fun i => (z.toArray)[i % z.toArray.size]!) = (zeroCellsL z n).toArray := by
 apply Array.ext_getElem?
 intro i; by_cases hi : i < n * z.length
 ·
  have hz : 0 < z.length := by
   rcases Nat.eq_zero_or_pos z.length with q | q
   ·
    rw [q] at hi; simp at hi
   ·
    exact q
  have hm : i % z.length < z.length := Nat.mod_lt _ hz; have e : (zeroCellsL z n).toArray[i]? = z[i % z.length]? := by rw [← zeroCellsL_get z n i hi]; simp
  rw [e]; simp [hi, hm]
 ·
  rw [Array.getElem?_eq_none (by simp; omega), Array.getElem?_eq_none (by simp [zeroCellsL_length]; omega)]
theorem plain_rel {v : Value} (h : plain v = true) : VRel μ v v := VRel.of_plain h
theorem plain_eq {v v' : Value} (h : plain v = true) (hr : VRel μ v v') : v' = v := VRel.plain_eq h hr
theorem LRel.self_of {l : List Value} (h : ∀ v ∈ l, VRel μ v v) : LRel μ l l := ⟨rfl, fun i v v' a b => by
 rw [a] at b; injection b with b; subst b; exact h v (List.mem_of_getElem? a)⟩
theorem evMakeSlice_sound (h : HRel P B w0 μ H w) {t : TypeId} {l l' c c' v : Value} (hl : VRel μ l l') (hc : VRel μ c c') (he : evMakeSlice P H t l c = some (v, H')) :
    ∃ v' w' μ', (Instr.makeSlice t l' c').run P w = .ok v' w' ∧ HRel P B w0 μ' H' w' ∧ Step μ μ' H H' ∧ VRel μ' v v' := by
  unfold evMakeSlice at he; cases l with
  | int k1 l =>
    cases c with
    | int k2 c =>
      obtain rfl := hl.int_inv; obtain rfl := hc.int_inv; cases hu : P.underlying t with
      | none => rw [hu] at he; simp at he
      | some d =>
        rw [hu] at he; cases d with
        | slice elem =>
          simp only at he; cases hz : zeroT P elem with
          | none => rw [hz] at he; simp at he
          | some z =>
            rw [hz] at he; cases hby : bytesT P elem with
            | none => rw [hby] at he; simp at he
            | some by_ =>
              rw [hby] at he; cases hs : sizeT P elem with
              | none => rw [hs] at he; simp at he
              | some sz =>
                rw [hs] at he; simp only at he; cases hc' : intUp c 1000000 with
                | none => rw [hc'] at he; simp at he
                | some cn =>
                  rw [hc'] at he; cases hl' : intUp l 1000000 with
                  | none => rw [hl'] at he; simp at he
                  | some ln =>
                    rw [hl'] at he; simp only at he; cases hcond : (Nat.ble ln cn && Nat.ble by_ 1000000 && Nat.beq z.cells.toList.length sz && z.cells.toList.all oneCell && plain z) with
                    | false => rw [hcond] at he; simp at he
                    | true =>
                      rw [hcond, cond_true] at he; simp only [Bool.and_eq_true] at hcond; obtain ⟨⟨⟨⟨q1, q2⟩, q3⟩, q4⟩, q5⟩ := hcond; have q1 := Nat.le_of_ble_eq_true q1; have q2 := Nat.le_of_ble_eq_true q2; have q3 := Nat.eq_of_beq_eq_true q3; obtain ⟨rfl, hc2⟩ := intUp_spec hc'; obtain ⟨rfl, hl2⟩ := intUp_spec hl'; cases hn : newRowA H elem (zeroCellsL z.cells.toList cn) with
                      | none => rw [hn] at he; simp at he
                      | some p =>
                        obtain ⟨id, H1⟩ := p; rw [hn] at he; simp only [Option.some.injEq, Prod.mk.injEq] at he; obtain ⟨rfl, rfl⟩ := he; have hzr : LRel μ z.cells.toList z.cells.toList := (plain_rel q5).cells; have hcells : LRel μ (zeroCellsL z.cells.toList cn) (zeroCellsL z.cells.toList cn) := LRel.self_of fun v hv => by
                          exact zeroCellsL_mem (p := fun v => VRel μ v v) hv (fun u hu => by
                            obtain ⟨i, hi⟩ := List.mem_iff_getElem?.1 hu; exact hzr.2 i u u hi hi)
                        obtain ⟨μ', L, a, b, c1, d1, _⟩ := newRow_sound h hcells hn; refine ⟨.slice (some ⟨w.heap.size, 0, none⟩) ln cn, _, μ', ?_, a, b, ?_⟩
                        · obtain ⟨i, hi, rfl⟩ := bytesT_run hby
                          have hzz : i.zero = some z := by simpa [zeroT, hi] using hz
                          have hss : i.size = sz := by simpa [sizeT, hi] using hs
                          have hmul : i.bytes * cn ≤ 1000000 * 1000000 := Nat.mul_le_mul q2 hc2; have hz2 := zeroCells_eq z.cells.toList cn; have hrun := run_make (P := P) w t elem i z hu hi hzz k1 k2 (ln : Int) (cn : Int) (by omega) (by omega) (by
                            have : (i.bytes : Int) * (cn : Int) = ((i.bytes * cn : Nat) : Int) := by simp
                            rw [this]; omega) (by omega)
                          rw [hrun]; simp only [Int.toNat_natCast]; congr 3
                          rw [← hz2]; simp [madeCells, hss, ← q3]
                        · rw [← d1]; exact .sliceE id 0 ln cn L c1 (by have : (1000000 : Nat) < openCap := by decide
                                                                       omega)
        | _ => simp at he
    | _ => simp at he
  | _ => simp at he
end
end Go.Cre
namespace Go.Cre
open Go.RowKit
section
variable {P : Program} {B : Nat → Prop} {w0 w : World} {μ : Mp} {H H' : Hp}
theorem lenA_run {x x' : Value} {m : Nat} (hx : VRel μ x x') (hm : lenA x = some m) (w : World) : (Builtin.lenOf x').run P w = .ok m w := by
 cases x with
 | slice a len cap =>
  simp [lenA] at hm; subst hm; cases a with
  | none => rw [hx.slice_nil]; simp [Builtin.lenOf]
  | some a => obtain ⟨a', cap', rfl⟩ := hx.slice_some; simp [Builtin.lenOf]
 | string s => rw [hx.string_inv]; simp [lenA] at hm; subst hm; rfl
 | _ => simp [lenA] at hm
theorem byteMap (s : ByteArray) (n : Nat) : ((s.extract 0 n).data.map fun b => Value.int .u8 b.toNat) = ((s.data.toList.take n).map fun b => Value.int .u8 b.toNat).toArray := by
 apply Array.ext'
 simp [ByteArray.data_extract]
theorem evFirst_sound (h : HRel P B w0 μ H w) {x x' : Value} {sz n m : Nat} {l : List Value} (hx : VRel μ x x') (hm : lenA x = some m) (hn : n ≤ m) (he : evFirst H sz n x = some l) :
  ∃ l', LRel μ l l' ∧ ∀ nd, (Builtin.firstCells sz n x').run P { w with drawn := nd } = .ok l'.toArray { w with drawn := nd } := by
 cases x with
 | slice a len cap =>
  simp [lenA] at hm; subst hm; cases a with
  | none =>
   rw [hx.slice_nil]; cases n with
   | zero => simp [evFirst] at he; subst he; exact ⟨[], LRel.nil _, fun nd => by simp [Builtin.firstCells]⟩
   | succ n => simp [evFirst] at he
  | some a =>
   cases n with
   | zero =>
    obtain ⟨a', cap', rfl⟩ := hx.slice_some; simp [evFirst] at he; subst he; exact ⟨[], LRel.nil _, fun nd => by simp [Builtin.firstCells, loadCells, loadCellsFrom]⟩
   | succ n =>
    obtain ⟨id, off, L, off', cap', rfl, hL, rfl, ho, _⟩ := hx.slice_inv (.inr (.inl (by omega))); simp only [evFirst] at he; rw [ho (by omega)]; cases hmm : H.mem.get id with
    | none => rw [hmm] at he; simp at he
    | some b =>
     rw [hmm] at he; cases b with
     | row cells elem opn fam fz sh =>
      simp only at he; obtain ⟨l', g1, g2, g3⟩ := h.cells hL hmm he; refine ⟨l', g1, fun nd => ?_⟩; exact run_firstCells_some (P := P) { w with drawn := nd } sz (n + 1) ⟨L.r, off, none⟩ len cap' l' (by rw [g2]) (fun j v hj => by rw [Addr.add_mk]; exact g3 j v hj)
     | _ => simp at he
 | string s =>
  rw [hx.string_inv]; simp only [evFirst] at he; cases ht : takeN n s.data.toList with
  | none => rw [ht] at he; simp at he
  | some bs =>
   rw [ht] at he; simp only [Option.some.injEq] at he; subst he; obtain ⟨e1, e2, e3⟩ := takeN_eq ht; refine ⟨bs.map fun b => .int .u8 b.toNat, LRel.self_of fun v hv => ?_, fun nd => ?_⟩
   ·
    obtain ⟨b, _, rfl⟩ := List.mem_map.1 hv; exact .atom _ rfl
   ·
    simp only [Builtin.firstCells, byteMap, e1]; rfl
 | _ => simp [lenA] at hm
theorem run_append_gen (t tx ty e : TypeId) (dx : TypeDesc) (i : TypeInfo) (z : Value) (ht : P.underlying t = some (.slice e)) (htx : P.underlying tx = some dx) (hdx : ∀ k, dx ≠ .int k) (hi : P.info? e = some i) (hz : i.zero = some z)
  (base : Option Addr) (sLen sCap n : Nat) (x : Value) (olds news : List Value) (hlen : ∀ w, (Builtin.lenOf x).run P w = .ok n w)
  (hold : ∀ nd, (Builtin.firstCells i.size sLen (.slice base sLen sCap)).run P { w with drawn := nd } = .ok olds.toArray { w with drawn := nd })
  (hnew : ∀ nd, (Builtin.firstCells i.size n x).run P { w with drawn := nd } = .ok news.toArray { w with drawn := nd })
  (hg : sCap < sLen + n) (h63 : sLen + n ≤ 1000000) (hby : i.bytes ≤ 1000000) :
  (Builtin.append_ #[t, tx] ty #[.slice base sLen sCap, x]).run P w =
   .ok (.slice (some ⟨w.heap.size, 0, none⟩) (sLen + n) (grownCap w (sLen + n) sCap e))
    (w.drew.alloc (.cells (olds.toArray ++ (news.toArray ++ Builtin.zeroCells z.cells (grownCap w (sLen + n) sCap e - (sLen + n)))) e)) := by
 have hn : ¬ (sLen + n ≤ sCap) := by omega
 have h63' : ¬ (9223372036854775807 < ((sLen : Int) + (n : Int))) := by omega
 have hmul : (sLen + n) * i.bytes ≤ 1000000 * 1000000 := Nat.mul_le_mul h63 hby
 have h48' : ¬ (281474976710656 < Builtin.nextslicecap (sLen + n) sCap * i.bytes) := by
  have := growslice_fits (bytes := i.bytes) hg (by omega); omega
 have ho := hold (w.drawn + 1); have hw := hnew (w.drawn + 1); have ew : ({ w with drawn := w.drawn + 1 } : World) = w.drew := rfl; rw [ew] at ho hw; simp [Builtin.append_, run_underlying ht, run_underlying htx, sizeOf, typeInfo, zeroValue, hi, hz, hlen, hn, h63', h48', Question.forced, hw, ho, newRow, grownCap]
theorem run_append_fit (t tx ty e : TypeId) (dx : TypeDesc) (i : TypeInfo) (ht : P.underlying t = some (.slice e)) (htx : P.underlying tx = some dx) (hdx : ∀ k, dx ≠ .int k) (hi : P.info? e = some i)
  (base : Option Addr) (sLen sCap n : Nat) (x : Value) (news : List Value) (w' : World) (hlen : ∀ w, (Builtin.lenOf x).run P w = .ok n w)
  (hnew : (Builtin.firstCells i.size n x).run P w = .ok news.toArray w) (hg : sLen + n ≤ sCap)
  (hst : ∀ a, base = some a → (storeCells (a.add (sLen * i.size)) news).run P w = .ok () w') (hno : base = none → w' = w) :
  (Builtin.append_ #[t, tx] ty #[.slice base sLen sCap, x]).run P w = .ok (.slice base (sLen + n) sCap) w' := by
 cases base with
 | none =>
  rw [hno rfl]; simp [Builtin.append_, run_underlying ht, run_underlying htx, sizeOf, typeInfo, hi, hlen, hg, hnew]
 | some a =>
  have := hst a rfl; simp [Builtin.append_, run_underlying ht, run_underlying htx, sizeOf, typeInfo, hi, hlen, hg, hnew, this]
end
end Go.Cre

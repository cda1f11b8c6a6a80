/- A part of the proof of ResumeSaves. -/
import Derived.Test.YtmeojgcibppcmaaDoorCreL
import Derived.Laws.BytesString
import Derived.Laws.IdiomStrings
import Derived.Laws.BytesArg
import Derived.Lib.UnsafeStr
set_option linter.unusedVariables false
set_option linter.unusedSimpArgs false
namespace Go.Cre
open Go.RowKit
section
variable {P : Program} {B : Nat → Prop} {w0 w : World} {μ : Mp} {H H' : Hp}
theorem bytesOfCells_eq : ∀ {l : List Value} {bs : List UInt8}, bytesOfCells l = some bs → l = bs.map (fun b => Value.int .u8 (b.toNat : Int)) := by
 intro l; induction l with
 | nil => intro bs h; simp [bytesOfCells] at h; subst h; rfl
 | cons v l ih =>
  intro bs h; cases v with
  | int k n =>
   cases k with
   | u8 =>
    cases n with
    | ofNat n =>
     simp only [bytesOfCells] at h; cases hlt : Nat.blt n 256 with
     | false => rw [hlt] at h; simp at h
     | true =>
      rw [hlt, cond_true] at h; have hlt : n < 256 := Nat.le_of_ble_eq_true hlt; cases hb : bytesOfCells l with
      | none => rw [hb] at h; simp at h
      | some r =>
       rw [hb] at h; simp only [Option.some.injEq] at h; subst h; rw [List.map_cons, ← ih hb]; congr 2
       have : (UInt8.ofNat n).toNat = n := by simp; omega
       rw [this]; rfl
    | negSucc n => simp [bytesOfCells] at h
   | _ => simp [bytesOfCells] at h
  | _ => simp [bytesOfCells] at h
theorem LRel.bytes {bs : List UInt8} {l' : List Value} (h : LRel μ (bs.map fun b => Value.int .u8 (b.toNat : Int)) l') : l' = bs.map fun b => Value.int .u8 (b.toNat : Int) := by
 induction bs generalizing l' with
 | nil => exact h.inv_nil
 | cons b bs ih =>
  obtain ⟨v', t, rfl, h1, h2⟩ := h.inv_cons; rw [h1.int_inv, ih h2]; rfl
theorem isByte_spec {v : Value} (h : isByte v = true) : ∃ n, v = .int .u8 (.ofNat n) ∧ Nat.blt n 256 = true := by
 cases v with
 | int k i =>
  cases k with
  | u8 => cases i with
   | ofNat n => exact ⟨n, rfl, h⟩
   | negSucc n => cases h
  | _ => cases h
 | _ => cases h
theorem bytes_takeB : ∀ (c r : List Value), (∀ v ∈ c, isByte v = true) → bytesOfCells c = some (takeB c.length (c ++ r)) := by
 intro c; induction c with
 | nil => intro r _; cases r <;> rfl
 | cons v c ih =>
  intro r h; obtain ⟨n, rfl, hn⟩ := isByte_spec (h v (by simp)); have hi := ih r fun u hu => h u (by simp [hu]); simp only [bytesOfCells, hn, cond_true, hi]; rfl
theorem dcOk_succ (k : Nat) (l : List Value) : dcOk (k + 1) l = Option.rec (motive := fun _ => Option (List Value)) none (dcOk k) (dcOk k l) := rfl
theorem dcOk_spec : ∀ {k : Nat} {l r : List Value}, dcOk k l = some r → ∃ c, l = c ++ r ∧ c.length = 2 ^ k ∧ ∀ v ∈ c, isByte v = true := by
 intro k; induction k with
 | zero =>
  intro l r h; cases l with
  | nil => cases h
  | cons v l =>
   have h : Bool.rec (motive := fun _ => Option (List Value)) none (some l) (isByte v) = some r := h; cases hb : isByte v with
   | false => rw [hb] at h; cases h
   | true => rw [hb] at h; injection h with h; subst h; exact ⟨[v], rfl, rfl, fun u hu => by simp at hu; rw [hu]; exact hb⟩
 | succ k ih =>
  intro l r h; rw [dcOk_succ] at h; cases h1 : dcOk k l with
  | none => rw [h1] at h; cases h
  | some m =>
   rw [h1] at h; have h : dcOk k m = some r := h; obtain ⟨c1, rfl, e2, e3⟩ := ih h1; obtain ⟨c2, rfl, e5, e6⟩ := ih h; refine ⟨c1 ++ c2, by simp, by simp [e2, e5, Nat.pow_succ]; omega, fun v hv => ?_⟩; rcases List.mem_append.1 hv with q | q
   ·
    exact e3 v q
   ·
    exact e6 v q
theorem dcOkN_succ (k n : Nat) (l : List Value) : dcOkN (k + 1) n l = Bool.rec (motive := fun _ => Bool) (Option.rec (motive := fun _ => Bool) false (fun r => dcOkN k (Nat.sub n (Nat.pow 2 k)) r) (dcOk k l)) (dcOkN k n l) (Nat.blt n (Nat.pow 2 k)) := rfl
theorem dcOkN_spec : ∀ {k n : Nat} {l : List Value}, dcOkN k n l = true → ∃ c r, l = c ++ r ∧ c.length = n ∧ ∀ v ∈ c, isByte v = true := by
 intro k; induction k with
 | zero =>
  intro n l h; have h : Nat.beq n 0 = true := h; exact ⟨[], l, rfl, (Nat.eq_of_beq_eq_true h).symm, fun v hv => by cases hv⟩
 | succ k ih =>
  intro n l h; rw [dcOkN_succ] at h; cases hb : Nat.blt n (Nat.pow 2 k) with
  | true => rw [hb] at h; exact ih h
  | false =>
   rw [hb] at h; have hge : 2 ^ k ≤ n := by
    rcases Nat.lt_or_ge n (2 ^ k) with q | q
    ·
     have : Nat.blt n (Nat.pow 2 k) = true := Nat.ble_eq_true_of_le q; rw [hb] at this; cases this
    ·
     exact q
   cases h1 : dcOk k l with
   | none => rw [h1] at h; cases h
   | some m =>
    rw [h1] at h; have h : dcOkN k (n - 2 ^ k) m = true := h; obtain ⟨c1, rfl, e2, e3⟩ := dcOk_spec h1; obtain ⟨c2, r, rfl, e5, e6⟩ := ih h; have e5 : c2.length = n - 2 ^ k := e5; refine ⟨c1 ++ c2, r, by simp, by rw [List.length_append, e2, e5]; omega, fun v hv => ?_⟩; rcases List.mem_append.1 hv with q | q
    ·
     exact e3 v q
    ·
     exact e6 v q
theorem takeN_of {α : Type} : ∀ {c : List α} (r : List α), takeN c.length (c ++ r) = some c := by
 intro c; induction c with
 | nil => intro r; rfl
 | cons a c ih => intro r; simp only [List.length_cons, List.cons_append, takeN]; rw [ih r]
theorem evToStringL_spec {src dst : TypeId} {x v : Value} (he : evToStringL P H src dst x = some v) : evToString P H src dst x = some v := by
 unfold evToStringL at he; unfold evToString; cases h1 : P.underlying src with
 | none => rw [h1] at he; cases he
 | some ts =>
  rw [h1] at he; cases h2 : P.underlying dst with
  | none => rw [h2] at he; cases ts <;> cases he
  | some td =>
   rw [h2] at he; cases ts with
   | slice e =>
    cases td with
    | string =>
     cases x with
     | slice b len cap =>
      cases b with
      | none => cases he
      | some a =>
       simp only at he ⊢; cases q1 : P.underlying e with
       | none => rw [q1] at he; cases he
       | some te =>
        rw [q1] at he; cases q2 : a.spot with
        | some s => rw [q2] at he; cases te <;> first | (cases he; done) | (rename_i k; cases k <;> cases he)
        | none =>
         rw [q2] at he; cases te with
         | int k =>
          cases k with
          | u8 =>
           cases q3 : H.mem.get a.block with
           | none => rw [q3] at he; cases he
           | some bb =>
            rw [q3] at he; cases bb with
            | row cells el opn fam fz sh =>
             simp only at he ⊢; unfold toStr at he; cases hd : dcOkN 21 len (dropN a.off cells) with
             | false => rw [hd] at he; cases he
             | true =>
              rw [hd, cond_true] at he; obtain ⟨c, r, e1, e2, e3⟩ := dcOkN_spec hd; have hf : evFirst H 1 len (.slice (some a) len 0) = some c := by
               unfold evFirst; simp only [q2]; cases len with
               | zero => simp only; rw [List.length_eq_zero_iff.1 e2]
               | succ m =>
                simp only [q3, Nat.mul_one]; rw [e1, ← e2]; exact takeN_of r
              simp only [hf, bytes_takeB c r e3, noSpot, q2, Bool.not_true, cond_false]; rw [e2, ← e1]; exact he
            | _ => cases he
          | _ => cases he
         | _ => cases he
     | _ => cases he
    | _ => cases x <;> first | (cases he; done) | (rename_i b _ _; cases b <;> cases he)
   | _ => cases he
theorem evToStringD_spec {src dst : TypeId} {x v : Value} (he : evToStringD P H src dst x = some v) : evToString P H src dst x = some v := by
 unfold evToStringD at he; cases hl : longer x with
 | false => rw [hl] at he; exact he
 | true => rw [hl] at he; exact evToStringL_spec he
theorem evToString_sound (h : HRel P B w0 μ H w) {src dst : TypeId} {x x' v : Value} (hx : VRel μ x x') (he : evToString P H src dst x = some v) :
  ∃ v', (convert src dst x').run P w = .ok v' w ∧ VRel μ v v' := by
 unfold evToString at he; cases hu : P.underlying src with
 | none => rw [hu] at he; simp at he
 | some ds =>
  rw [hu] at he; cases hd : P.underlying dst with
  | none => rw [hd] at he; simp at he
  | some dd =>
   rw [hd] at he; cases ds with
   | slice e =>
    cases dd with
    | string =>
     cases x with
     | slice a len cap =>
      cases a with
      | none =>
       rw [hx.slice_nil]; simp only at he; cases hee : P.underlying e with
       | none => rw [hee] at he; simp at he
       | some de =>
        rw [hee] at he; cases de with
        | int k =>
         cases k with
         | u8 =>
          simp only [Option.some.injEq] at he; subst he; refine ⟨.string .empty, ?_, .atom _ rfl⟩; rw [run_convert_bytes_string w src dst e _ _ _ hu hee hd]; simp [Conv.bytesToString]
         | _ => simp at he
        | _ => simp at he
      | some a =>
       have hsp : a.spot = none := by
        cases q : a.spot with
        | none => rfl
        | some _ => simp [noSpot, q] at he
       obtain ⟨id, off, L, off', cap', rfl, hL, rfl, ho, _, _⟩ := hx.slice_inv (.inl hsp); simp only [noSpot, Bool.not_true, cond_false] at he; cases hee : P.underlying e with
       | none => rw [hee] at he; simp at he
       | some de =>
        rw [hee] at he; cases de with
        | int k =>
         cases k with
         | u8 =>
          simp only at he; cases hf : evFirst H 1 len (.slice (some ⟨id, off, none⟩) len 0) with
          | none => rw [hf] at he; simp at he
          | some cells =>
           rw [hf] at he; simp only at he; cases hb : bytesOfCells cells with
           | none => rw [hb] at he; simp at he
           | some bs =>
            rw [hb] at he; simp only [Option.some.injEq] at he; subst he; have hce := bytesOfCells_eq hb; have hsx : VRel μ (.slice (some ⟨id, off, none⟩) len 0) (.slice (some ⟨L.r, off, none⟩) len 0) := .sliceE id off len 0 L hL (by decide); obtain ⟨l', g1, g2⟩ := evFirst_sound h hsx (m := len) rfl (Nat.le_refl _) hf; rw [hce] at g1; have hl' := g1.bytes; subst hl'; have hlc : (loadCells ⟨L.r, off', none⟩ len).run P w = .ok ((bs.map fun b => (b.toNat : Int)).map (Value.int .u8)).toArray w := by
             by_cases h0 : 0 < len
             ·
              rw [ho h0]; have := g2 w.drawn; simp only [Builtin.firstCells, Nat.mul_one] at this; rw [this]; simp
             ·
              have hl0 : len = 0 := by omega
              subst hl0; have hcn : bs.map (fun b => Value.int .u8 (b.toNat : Int)) = [] := by
               rw [← hce]; simp [evFirst] at hf; exact hf
              have : bs = [] := by simpa using hcn
              subst this; simp [loadCells, loadCellsFrom]
            refine ⟨.string ⟨bs.toArray⟩, ?_, .atom _ rfl⟩; rw [run_convert_bytes_string w src dst e _ _ _ hu hee hd, run_bytesToString w ⟨L.r, off', none⟩ len cap' _ hlc, foldl_push_bytes]; congr 2
            have hid : ((fun n : Int => UInt8.ofNat n.toNat) ∘ fun b : UInt8 => (b.toNat : Int)) = _root_.id := by funext b; simp
            apply ByteArray.ext
            simp [hid]
         | _ => simp at he
        | _ => simp at he
     | _ => simp at he
    | _ => simp at he
   | _ => cases dd <;> simp at he
theorem freeze_row {r n : Nat} {c : Array Value} {e : TypeId} {f : Nat × Nat} (h : w.heap[r]? = some (.cells c e f)) (hn : n ≠ 0) :
  w.freeze ⟨r, 0, none⟩ n = { w with heap := w.heap.setIfInBounds r (.cells c e (if f.1 == f.2 then (0, 0 + n) else (min f.1 0, max f.2 (0 + n)))) } := by
 have hr : r < w.heap.size := by
  rcases Nat.lt_or_ge r w.heap.size with hh | hh
  ·
   exact hh
  ·
   rw [Array.getElem?_eq_none hh] at h; cases h
 unfold World.freeze; rw [if_neg hn]; congr 1
 apply Array.ext_getElem?
 intro i; rw [Array.getElem?_modify, Array.getElem?_setIfInBounds]; by_cases hi : r = i
 ·
  subst hi; rw [if_pos rfl, if_pos rfl, h, if_pos hr]; rfl
 ·
  simp [hi]
theorem evUnsafeString_sound (h : HRel P B w0 μ H w) {pt it ty : TypeId} {p p' n n' v : Value} (hp : VRel μ p p') (hn : VRel μ n n') (he : evUnsafeString P H pt p n = some (v, H')) :
  ∃ v' w', (Builtin.unsafeString_ #[pt, it] ty #[p', n']).run P w = .ok v' w' ∧ HRel P B w0 μ H' w' ∧ Step μ μ H H' ∧ VRel μ v v' := by
 unfold evUnsafeString at he; cases p with
 | pointer a =>
  cases n with
  | int k i =>
   cases k with
   | i64 =>
    obtain rfl := hn.int_inv; cases i with
    | ofNat m =>
     cases m with
     | zero =>
      cases a with
      | none =>
       rw [hp.pnil]; simp only [Option.some.injEq, Prod.mk.injEq] at he; obtain ⟨rfl, rfl⟩ := he; exact ⟨_, w, Lib.run_unsafeString_none w pt it ty none, h, Step.refl _ _, .atom _ rfl⟩
      | some a =>
       obtain ⟨id, off, L, rfl, hL, rfl⟩ := hp.ptr_inv; simp only [Option.some.injEq, Prod.mk.injEq] at he; obtain ⟨rfl, rfl⟩ := he; exact ⟨_, w, Lib.run_unsafeString_none w pt it ty _, h, Step.refl _ _, .atom _ rfl⟩
     | succ m =>
      cases a with
      | none => exact absurd (show none = some (v, H') from he) (by simp)
      | some a =>
       obtain ⟨id, off, L, rfl, hL, rfl⟩ := hp.ptr_inv; simp only at he; cases hu : P.underlying pt with
       | none => rw [hu] at he; simp at he
       | some d =>
        rw [hu] at he; cases d with
        | pointer u =>
         cases hm : H.mem.get id with
         | none => rw [hm] at he; simp at he
         | some b =>
          rw [hm] at he; cases b with
          | row cells e opn fam fz sh =>
           simp only at he; cases hc : (Nat.beq e u && Nat.beq (P.cellsOf e) 1 && Nat.ble (m + 1) 1000000 && !Nat.blt id H.glo && Nat.beq off 0 && !sh) with
           | false => rw [hc] at he; simp at he
           | true =>
            rw [hc] at he; simp only [Bool.not_true, cond_false] at he; simp only [Bool.and_eq_true, Bool.not_eq_true'] at hc; obtain ⟨⟨⟨⟨⟨q1, q2⟩, q3⟩, q4⟩, q5⟩, q6⟩ := hc; have q1 := Nat.eq_of_beq_eq_true q1; subst q1; have q2 := Nat.eq_of_beq_eq_true q2; have q3 := Nat.le_of_ble_eq_true q3; have q4 := blt_false q4; have q5 := Nat.eq_of_beq_eq_true q5; subst q5; cases ht : takeN (m + 1) cells with
            | none => rw [ht] at he; simp at he
            | some l =>
             rw [ht] at he; simp only at he; cases hb : bytesOfCells l with
             | none => rw [hb] at he; simp at he
             | some bs =>
              rw [hb] at he; simp only at he; cases hupd : H.upd id (.row cells e opn fam (bif sh then farFz else Nat.max fz (m + 1)) sh) with
              | none => rw [hupd] at he; simp at he
              | some H0 =>
               rw [hupd] at he; simp only at he; cases hkill : (bif opn then killOthers H0 id fam else some H0) with
               | none => rw [hkill] at he; simp at he
               | some H1 =>
               rw [hkill] at he; simp only [Option.some.injEq, Prod.mk.injEq] at he; obtain ⟨rfl, rfl⟩ := he; obtain ⟨c, f, g1, g2, g3, g4, g5, g6, g7⟩ := h.row hL hm; obtain ⟨t1, t2, t3⟩ := takeN_eq ht; have hle := bytesOfCells_eq hb; have hbl : bs.length = m + 1 := by have := congrArg List.length hle; simp at this; omega
               have hl' : LRel μ l ((c.toList.take cells.length).take (m + 1)) := by rw [t1]; exact g6.take (m + 1)
               rw [hle] at hl'; have hbytes := hl'.bytes; have hsh : w.shape? L.r = some (e, c.size) := by simp [World.shape?, g1]
               have hrun := Lib.run_unsafeString_row (P := P) w pt it ty e hu q2 L.r c.size hsh bs (by intro q; rw [q] at hbl; simp at hbl) (by omega) (by omega) (fun j x hj => by
                rw [Addr.add_mk, Nat.zero_add, cell_of_row g1]; have : ((c.toList.take cells.length).take (m + 1))[j]? = some (Value.int .u8 (x.toNat : Int)) := by rw [hbytes, List.getElem?_map, hj]; rfl
                rw [List.getElem?_take] at this; split at this
                ·
                 rw [List.getElem?_take] at this; split at this
                 ·
                  simpa using this
                 ·
                  cases this
                ·
                 cases this)
               rw [hbl] at hrun; have hfr := freeze_row (n := m + 1) g1 (by omega); rw [hfr] at hrun; have hb : BRel P μ L (.row cells e opn fam (bif sh then farFz else Nat.max fz (m + 1)) sh) (.cells c e (if f.1 == f.2 then (0, 0 + (m + 1)) else (min f.1 0, max f.2 (0 + (m + 1))))) := by
                refine ⟨rfl, g2, g3, g4, g5, fun i v v' q q' => g6.2 i v v' q ?_, ?_⟩
                ·
                 have hi := (List.getElem?_eq_some_iff.1 q).1; rw [List.getElem?_take, if_pos hi]; simpa using q'
                ·
                 cases sh with
                 | true => cases q6
                 | false =>
                  simp only [cond_false]; have hmx : m + 1 ≤ Nat.max fz (m + 1) := Nat.le_max_right _ _; have hmx2 : fz ≤ Nat.max fz (m + 1) := Nat.le_max_left _ _; rcases g7.2 rfl with q | q
                  ·
                   rw [if_pos (by simpa using q)]; exact ⟨fun off _ _ h2 => by simp at h2; omega, fun _ => .inr (by simpa using hmx)⟩
                  ·
                   by_cases hff : f.1 = f.2
                   ·
                    rw [if_pos (by simpa using hff)]; exact ⟨fun off _ _ h2 => by simp at h2; omega, fun _ => .inr (by simpa using hmx)⟩
                   ·
                    rw [if_neg (by simpa using hff)]; have : max f.2 (0 + (m + 1)) ≤ Nat.max fz (m + 1) := Nat.max_le.2 ⟨by omega, by omega⟩; exact ⟨fun off _ _ h2 => by simp only at h2; omega, fun _ => .inr this⟩
               obtain ⟨r1, r2⟩ := h.writeRow hL q4 hm rfl hupd hkill hb; exact ⟨_, _, hrun, r1, r2, .atom _ rfl⟩
          | _ => simp at he
        | _ => simp at he
    | negSucc m => cases a <;> simp at he
   | _ => cases a <;> simp at he
  | _ => cases a <;> simp at he
 | _ => simp at he
theorem strCells_eq (l : List UInt8) : strCells l = l.map fun b => Value.int .u8 b.toNat := by
 induction l with
 | nil => rfl
 | cons b l ih => show Value.int .u8 (.ofNat b.toNat) :: strCells l = _; rw [ih]; rfl
theorem Hp.newOpen_nx {H H1 : Hp} {cells : List Value} {e : TypeId} {sh : Bool} {id : Nat} (hn : H.newOpen cells e sh = some (id, H1)) : H1.nx = H.nx + 1 := by
 unfold Hp.newOpen at hn; cases hf : H.newFam with
 | none => rw [hf] at hn; cases hn
 | some p =>
  obtain ⟨f, H2⟩ := p; rw [hf] at hn; have h1 := (Hp.new_eq hn).2.1; have h2 := (Hp.newFam_eq hf).2.1; omega
theorem evStrBytes_nx {src dst : TypeId} {s : ByteArray} {v : Value} {H1 : Hp} (he : evStrBytes P H src dst s = some (v, H1)) : H1.nx = H.nx + 1 := by
 unfold evStrBytes at he; split at he
 ·
  split at he
  ·
   rename_i e _ _ _ _; cases hb : Nat.beq (P.cellsOf e) 1 with
   | false => rw [hb] at he; cases he
   | true =>
    rw [hb, cond_true] at he; cases hn : H.newOpen (strCells s.data.toList) e true with
    | none => rw [hn] at he; cases he
    | some p =>
     obtain ⟨id, H2⟩ := p; rw [hn] at he; have he : some (Value.slice (some ⟨id, 0, none⟩) s.data.toList.length openCap, H2) = some (v, H1) := he; simp only [Option.some.injEq, Prod.mk.injEq] at he; obtain ⟨_, rfl⟩ := he; exact Hp.newOpen_nx hn
  ·
   cases he
 ·
  cases he
theorem evStrBytes_sound (h : HRel P B w0 μ H w) {src dst : TypeId} {s : ByteArray} {v : Value} {H1 : Hp} (he : evStrBytes P H src dst s = some (v, H1)) :
  ∃ v' w' μ', (convert src dst (.string s)).run P w = .ok v' w' ∧ HRel P B w0 μ' H1 w' ∧ Step μ μ' H H1 ∧ VRel μ' v v' := by
 unfold evStrBytes at he; split at he
 ·
  rename_i e h1 h2; split at he
  ·
   rename_i h3; cases hb : Nat.beq (P.cellsOf e) 1 with
   | false => rw [hb] at he; cases he
   | true =>
    rw [hb, cond_true] at he; cases hn : H.newOpen (strCells s.data.toList) e true with
    | none => rw [hn] at he; cases he
    | some p =>
     obtain ⟨id, H2⟩ := p; rw [hn] at he; have he : some (Value.slice (some ⟨id, 0, none⟩) s.data.toList.length openCap, H2) = some (v, H1) := he; simp only [Option.some.injEq, Prod.mk.injEq] at he; obtain ⟨rfl, rfl⟩ := he; have hce := Nat.eq_of_beq_eq_true hb; have hge := grownCap_ge w s.size 0 e; have hsz : s.size = s.data.toList.length := by rw [Array.length_toList]; rfl
     have hrow : (bytesRow s (grownCap w s.size 0 e)).size = grownCap w s.size 0 e := by
      unfold bytesRow; have : s.data.size = s.size := rfl; simp [this]; omega
     obtain ⟨a1, a2, rfl⟩ := h.drew.madeOpen (o := .cells (bytesRow s (grownCap w s.size 0 e)) e ((bytesRow s (grownCap w s.size 0 e)).size, (bytesRow s (grownCap w s.size 0 e)).size + 1)) (L := ⟨w.heap.size, grownCap w s.size 0 e, 1⟩) hn rfl (fun f => by
      refine ⟨rfl, hrow, hce, ?_, (fun q => by cases q), fun i u u' x y => ?_, ⟨fun off ho h1 h2 => ?_, (fun q => by cases q)⟩⟩
      ·
       rw [strCells_eq, List.length_map, ← hsz]; exact hge
      ·
       rw [strCells_eq, List.getElem?_map] at x; obtain ⟨b, hb1, rfl⟩ := Option.map_eq_some_iff.1 x; have hi : i < s.data.size := by
        have := (List.getElem?_eq_some_iff.1 hb1).1; simpa using this
       unfold bytesRow at y; rw [Array.getElem?_append, if_pos (by simpa using hi)] at y; rw [Array.getElem?_map, ← Array.getElem?_toList, hb1] at y; simp only [Option.map_some, Option.some.injEq] at y; subst y; exact .atom _ rfl
      ·
       rw [hrow] at h1; show off < 0; have : off < grownCap w s.size 0 e := ho; omega)
     refine ⟨_, _, _, run_bytes_of_string w src dst e s h1 h2 h3, a1, a2, ?_⟩; rw [← hsz]; exact .sliceO H.nx 0 s.size _ ⟨w.heap.size, grownCap w s.size 0 e, 1⟩ (Mp.put_self _ _ _) hge (by simp)
  ·
   cases he
 ·
  cases he
end
end Go.Cre

/- A part of the proof of ResumeSaves. -/
import Derived.Test.YtmeojgcibppcmaaDoorOpnR
import Derived.ChangeArms
import Derived.DataReads
import Derived.Carry
import Derived.ChangeSame
import Derived.OpenShut
set_option linter.unusedVariables false
set_option linter.unusedSimpArgs false
namespace Go.Opn
open Go.Cre Go.RowKit
noncomputable def cutW (a0 off cap sz : Nat) (a b : Int) : Value :=
 if cap = openCap then .slice (some ⟨a0, off + a.toNat * sz, none⟩) (b - a).toNat openCap
 else if cap = a.toNat then .slice (some ⟨a0, off, none⟩) (b - a).toNat (cap - a.toNat)
 else .slice (some ⟨a0, off + a.toNat * sz, none⟩) (b - a).toNat (cap - a.toNat)
section
variable {K : Kx} {B : Bs} {o : Oper} {n : Nat} {ds : Dx} {l : List (Nat × Value)} {m m' : Mm} {J : Jm} {Ψ : En → Mm → Jm → Prop} {d : Nat}
theorem cutW_sl {e : TypeId} {a0 off k cap sz : Nat} {cs : List Value} {a b : Int} (hv : SlC J e sz (.slice (some ⟨a0, off, none⟩) k cap) k cs) (hk : 0 < k) (h0 : 0 ≤ a) (h1 : a ≤ b) (h2 : b ≤ k) :
  SlC J e sz (cutW a0 off cap sz a b) (b - a).toNat ((cs.drop (a.toNat * sz)).take ((b - a).toNat * sz)) := by
 generalize hkk : k = kk at hv; have hv' := hv; cases hv with
 | emp a off cap h => exact absurd hk (by omega)
 | @row a0 off k cap cells cs e' r1 r2 r3 r4 r5 =>
  subst hkk; have hlen : k * sz ≤ (cells.drop off).length := by
   have : ((cells.drop off).take (k * sz)).length = k * sz := by rw [r2]; exact r3
   rw [List.length_take] at this; omega
  have hle : a.toNat * sz + (b - a).toNat * sz ≤ k * sz := by
   rw [← Nat.add_mul]; exact Nat.mul_le_mul_right _ (by omega)
  have hcs : (cells.drop (off + a.toNat * sz)).take ((b - a).toNat * sz) = (cs.drop (a.toNat * sz)).take ((b - a).toNat * sz) := by
   rw [← r2, List.drop_take, List.take_take, List.drop_drop, Nat.min_eq_left (by omega)]
  have hcl : ((cs.drop (a.toNat * sz)).take ((b - a).toNat * sz)).length = (b - a).toNat * sz := by
   rw [List.length_take, List.length_drop, r3]; omega
  unfold cutW; split
  ·
   exact .row r1 hcs hcl (fun q => absurd rfl q) (fun _ => r5 (by assumption))
  ·
   rename_i hc; split
   ·
    have hz0 : (b - a).toNat = 0 := by have := (r4 hc).1; omega
    have : (cs.drop (a.toNat * sz)).take ((b - a).toNat * sz) = [] := by rw [hz0]; simp
    rw [this, hz0]; exact .emp _ _ _ (by have := (r4 hc).2; omega)
   ·
    refine .row r1 hcs hcl (fun _ => ⟨by have := (r4 hc).1; omega, by have := (r4 hc).2; omega⟩) (fun q => ?_); have := (r4 hc).2; omega
end
end Go.Opn
namespace Go.Opn
open Go.Cre Go.RowKit Go.ChangeShapes
theorem add_mk' {b off i : Nat} {sp : Option Nat} (h : sp = none) : (⟨b, off, sp⟩ : Addr).add i = ⟨b, off + i, none⟩ := by
 subst h; unfold Addr.add; split
 ·
  rename_i q; subst q; rfl
 ·
  rfl
theorem cells_row {W : World} {base k : Nat} {a : Addr} {cs : List Value} (h : W.cells? base a k = some cs) (hk : 0 < k) : ∃ c e f, W.heap[a.block]? = some (.cells c e f) ∧ a.spot = none ∧ cs.length = k ∧ ∀ j, j < k → c[a.off + j]? = cs[j]? := by
 obtain ⟨_, h2, h3⟩ := World.cells?_some h; obtain ⟨b, off, sp⟩ := a; have h0 := h3 0 hk; have hc0 : ∃ v, cs[0]? = some v := ⟨cs[0]'(by omega), List.getElem?_eq_getElem _⟩; obtain ⟨v0, hv0⟩ := hc0; have e0 : (⟨b, off, sp⟩ : Addr).add 0 = ⟨b, off, sp⟩ := rfl; rw [e0, hv0] at h0; unfold World.cell? at h0; cases hh : W.heap[b]? with
 | none => rw [show (⟨b, off, sp⟩ : Addr).block = b from rfl, hh] at h0; cases h0
 | some o =>
  rw [show (⟨b, off, sp⟩ : Addr).block = b from rfl, hh] at h0; cases o with
  | cells c e f =>
   simp only at h0; cases sp with
   | some s => simp at h0
   | none =>
    refine ⟨c, e, f, by first | rfl | exact hh, rfl, h2, fun j hj => ?_⟩; have := h3 j hj; rw [add_mk' rfl] at this; unfold World.cell? at this; rw [show (⟨b, off + j, none⟩ : Addr).block = b from rfl, hh] at this; simpa using this
  | _ => cases h0
section
variable {H : Type} {enc : TypeId × Value → H} {P : Program} {W : World} {fuel : Nat} {t e : TypeId} {cs : List Value} {x : DataW H × List MemPlace}
abbrev trodA (enc : TypeId × Value → H) (P : Program) (W : World) := DataW.trod enc P W 0 (fun _ => true) true
theorem slice_of {sz : Nat} (ht : P.underlying t = some (.slice e)) (hsz : P.cellsOf e = sz) (h0 : 0 < sz) (h : trodA enc P W fuel t cs = some x) :
  ∃ (b : Option Addr) (n c : Nat) (rows : List Value) (el : List (List Value)) (ds : List (DataW H × List MemPlace)) (m : Nat), cs.map (absV P W) = [.slice b n c] ∧ cs.length = 1 ∧ (∀ e', SlC (jA P W) e' sz (.slice b n c) n (rows.map (absV P W))) ∧ el.length = n ∧ ds.length = n ∧
   (∀ i cs', el[i]? = some cs' → cs'.length = sz ∧ (rows.drop (i * sz)).take sz = cs' ∧ ∃ y, ds[i]? = some y ∧ trodA enc P W m e cs' = some y) ∧
   (∀ y ∈ ds, ∀ z ∈ y.1.weights P e, z ∈ x.1.weights P t) ∧ n ≤ maxLen := by
 rcases DataW.trod_slice ht h with ⟨rfl, rfl⟩ | ⟨a, len, cap, elems, rest, n, rfl, rfl, rfl, h1, h2, h3, h4, h5, h6, h7⟩
 ·
  exact ⟨none, 0, 0, [], [], [], 0, by rw [List.map_cons, absV_atom rfl]; rfl, rfl, fun e' => .nil, rfl, rfl, (fun i cs' q => by simp at q), (fun y hy => by cases hy), Nat.zero_le _⟩
 ·
  have hcap : cap < openCap := Nat.lt_of_le_of_lt h3 (by unfold maxLen openCap; decide); have hw : ∀ y ∈ elems, ∀ z ∈ y.1.weights P e, z ∈ (DataW.slice (elems.map (·.1)) (rest.map (·.1)) : DataW H).weights P t := fun y hy z hz => by
   rw [DataW.weights, ht]; refine List.mem_cons_of_mem _ (List.mem_append_left _ ?_); have : ∀ l : List (DataW H × List MemPlace), y ∈ l → z ∈ DataW.weightsAll P e (l.map (·.1)) := fun l => by
    induction l with
    | nil => intro q; cases q
    | cons d r ih =>
     intro q; rw [List.map_cons, DataW.weightsAll]; rcases List.mem_cons.1 q with rfl | q
     ·
      exact List.mem_append_left _ hz
     ·
      exact List.mem_append_right _ (ih q)
   exact this elems hy
  have hel : ∀ i, i < len → ∃ cs' y, W.cells? 0 (a.add (i * sz)) sz = some cs' ∧ elems[i]? = some y ∧ trodA enc P W n e cs' = some y := fun i hi => by
   have h5i := h5 i hi; rw [hsz] at h5i; have hi' : i < elems.length := by omega
   rw [List.getElem?_eq_getElem hi'] at h5i; obtain ⟨cs', q1, q2⟩ := Option.bind_eq_some_iff.1 h5i; exact ⟨cs', _, q1, List.getElem?_eq_getElem hi', q2⟩
  by_cases hl : len = 0
  ·
   subst hl; have hel0 : elems = [] := List.length_eq_zero_iff.1 h4; subst hel0; by_cases hr : a.spot = none ∧ (rowOf W a.block).isSome
   ·
    refine ⟨some a, 0, cap, [], [], [], n, ?_, rfl, fun e' => ?_, rfl, rfl, (fun i cs' q => by simp at q), hw, Nat.zero_le _⟩
    ·
     show [absV P W _] = _; unfold absV; simp only; rw [if_pos ⟨hr.1, hr.2, hcap⟩]
    ·
     obtain ⟨b, off, sp⟩ := a; obtain ⟨rfl, _⟩ := hr; exact .emp _ _ _ hcap
   ·
    have hc0 : cap = 0 := by
     apply Classical.byContradiction; intro hc
     obtain ⟨r1, r2⟩ := h6 rfl; have hj := r2 0 (by omega); rw [hsz] at hj; have h0r : 0 < rest.length := by omega
     rw [List.getElem?_eq_getElem h0r] at hj; obtain ⟨cs', q1, q2⟩ := Option.bind_eq_some_iff.1 hj; have e0 : a.add ((0 + 0) * sz) = a := by simp [Addr.add]
     rw [e0] at q1; obtain ⟨c, e', f, g1, g2, _⟩ := cells_row q1 h0; exact hr ⟨g2, by rw [rowOf_mk g1]; rfl⟩
    subst hc0; refine ⟨some ⟨0, 0, some 0⟩, 0, 0, [], [], [], n, ?_, rfl, fun e' => .emx, rfl, rfl, (fun i cs' q => by simp at q), hw, Nat.zero_le _⟩; show [absV P W _] = _; unfold absV; simp only; rw [if_neg (fun q => hr ⟨q.1, q.2.1⟩), if_pos (by simp)]
  ·
   obtain ⟨cs0, y0, q1, q2, q3⟩ := hel 0 (by omega); have e0 : a.add (0 * sz) = a := by simp [Addr.add]
   rw [e0] at q1; obtain ⟨c, e', f, g1, g2, g3, g4⟩ := cells_row q1 h0; obtain ⟨b, off, sp⟩ := a; have g2 : sp = none := g2; subst g2; have g1 : W.heap[b]? = some (.cells c e' f) := g1; have hrow := rowOf_mk g1; have hcell : ∀ i, i < len → ∃ cs' y, elems[i]? = some y ∧ trodA enc P W n e cs' = some y ∧ cs'.length = sz ∧ ∀ j, j < sz → c.toList[off + (i * sz + j)]? = cs'[j]? := fun i hi => by
    obtain ⟨cs', y, k1, k2, k3⟩ := hel i hi; rw [add_mk' rfl] at k1; obtain ⟨c', e'', f', m1, _, m3, m4⟩ := cells_row k1 h0; have m1 : W.heap[b]? = some (.cells c' e'' f') := m1; rw [g1] at m1; injection m1 with m1; injection m1 with m1 _ _
    subst m1; exact ⟨cs', y, k2, k3, m3, fun j hj => by have := m4 j hj; rw [show off + (i * sz + j) = off + i * sz + j by omega]; simpa using this⟩
   have hlen : off + len * sz ≤ c.toList.length := by
    obtain ⟨cs', y, _, _, k3, k4⟩ := hcell (len - 1) (by omega); have := k4 (sz - 1) (by omega); rw [List.getElem?_eq_getElem (show sz - 1 < cs'.length by omega)] at this; have h9 : off + ((len - 1) * sz + (sz - 1)) < c.toList.length := by
     rcases Nat.lt_or_ge (off + ((len - 1) * sz + (sz - 1))) c.toList.length with q | q
     ·
      exact q
     ·
      rw [List.getElem?_eq_none q] at this; cases this
    have : len * sz = (len - 1) * sz + sz := by
     rw [← Nat.succ_mul]; congr 1; omega
    omega
   refine ⟨some ⟨b, off, none⟩, len, cap, (c.toList.drop off).take (len * sz), (List.range len).map fun i => (c.toList.drop (off + i * sz)).take sz, elems, n, ?_, rfl, fun e'' => ?_, by simp, h4, fun i cs' hi => ?_, hw, Nat.le_trans h2 h3⟩
   ·
    show [absV P W _] = _; unfold absV; simp only; rw [if_pos (by simp only [true_and]; exact ⟨by rw [hrow]; rfl, hcap⟩)]
   ·
    refine .row (rowA_mk hrow) (by rw [← List.map_drop, ← List.map_take]) ?_ (fun _ => ⟨h2, hcap⟩) (fun q => by omega); rw [List.length_map, List.length_take, List.length_drop]; omega
   ·
    rw [List.getElem?_map] at hi; have hil : i < len := by
     rcases Nat.lt_or_ge i len with q | q
     ·
      exact q
     ·
      rw [List.getElem?_eq_none (by simpa using q)] at hi; cases hi
    rw [List.getElem?_range hil] at hi; simp only [Option.map_some, Option.some.injEq] at hi; obtain ⟨cs2, y, k1, k2, k3, k4⟩ := hcell i hil; have hle : i * sz + sz ≤ len * sz := by rw [← Nat.succ_mul]; exact Nat.mul_le_mul_right _ hil
    have hcs : (c.toList.drop (off + i * sz)).take sz = cs2 := by
     refine List.ext_getElem? fun j => ?_; rw [List.getElem?_take]; split
     ·
      rename_i hj; rw [List.getElem?_drop, ← k4 j hj]; congr 1; omega
     ·
      rw [List.getElem?_eq_none (by omega)]
    rw [hcs] at hi; subst hi; refine ⟨k3, ?_, y, k1, k2⟩; rw [← hcs, List.drop_take, List.drop_drop, List.take_take, Nat.min_eq_left (by omega)]
theorem ints_of (ht : P.underlying t = some (.slice e)) (he : P.underlying e = some (.int .i64)) (hsz : P.cellsOf e = 1) (h : trodA enc P W fuel t cs = some x) :
  ∃ (l : List Int) (b : Option Addr) (c : Nat), cs.map (absV P W) = [.slice b l.length c] ∧ ∀ e', SlC (jA P W) e' 1 (.slice b l.length c) l.length (l.map (Value.int .i64)) := by
 obtain ⟨b, n, c, rows, el, ds, m, h1, h2, h3, h4, h5, h6, _, _⟩ := slice_of ht hsz (by omega) h; have hlen : rows.length = n := by have := (h3 0).len; simpa using this
 have hint : ∀ v ∈ rows, ∃ i : Int, v = .int .i64 i := fun v hv => by
  obtain ⟨j, hj⟩ := List.getElem?_of_mem hv; have hjn : j < n := by have := (List.getElem?_eq_some_iff.1 hj).1; omega
  obtain ⟨q1, q2, y, q3, q4⟩ := h6 j _ (List.getElem?_eq_getElem (show j < el.length by omega)); obtain ⟨i, r1, _⟩ := DataW.trod_int he q4; rw [r1] at q2; rw [Nat.mul_one] at q2; have : ((rows.drop j).take 1)[0]? = some v := by rw [List.getElem?_take, if_pos (by omega), List.getElem?_drop, Nat.add_zero]; exact hj
  rw [q2] at this; injection this with this
  exact ⟨i, this.symm⟩
 have hl : ∃ l : List Int, rows = l.map (Value.int .i64) := by
  clear h3 h6 hlen
  induction rows with
  | nil => exact ⟨[], rfl⟩
  | cons v r ih =>
   obtain ⟨i, hi⟩ := hint v (.head _); obtain ⟨l, hl⟩ := ih (fun v hv => hint v (.tail _ hv)); exact ⟨i :: l, by rw [hi, hl]; rfl⟩
 obtain ⟨l, rfl⟩ := hl; have hll : n = l.length := by simpa using hlen.symm
 subst hll; refine ⟨l, b, c, h1, fun e' => ?_⟩; have := h3 e'; have e1 : (l.map (Value.int .i64)).map (absV P W) = l.map (Value.int .i64) := by
  rw [List.map_map]; exact List.map_congr_left fun i _ => absV_atom rfl
 rwa [e1] at this
theorem int_of (ht : P.underlying t = some (.int .i64)) (h : trodA enc P W fuel t cs = some x) : ∃ i : Int, cs = [.int .i64 i] ∧ cs.map (absV P W) = [.int .i64 i] := by
 obtain ⟨i, rfl, _⟩ := DataW.trod_int ht h; exact ⟨i, rfl, by rw [List.map_cons, absV_atom rfl]; rfl⟩
theorem str_of (ht : P.underlying t = some .string) (h : trodA enc P W fuel t cs = some x) : ∃ s : List UInt8, cs = [.string ⟨⟨s⟩⟩] ∧ cs.map (absV P W) = [.string ⟨⟨s⟩⟩] ∧ s.length ∈ x.1.weights P t := by
 obtain ⟨s, rfl, rfl, _⟩ := DataW.trod_string ht h; obtain ⟨⟨s⟩⟩ := s; exact ⟨s, rfl, by rw [List.map_cons, absV_atom rfl]; rfl, by rw [DataW.weights]; exact List.mem_singleton.2 rfl⟩
noncomputable def structN (P : Program) (t : TypeId) : Option Nat := match P.underlying t with | some (.struct fs) => some fs.size | _ => none
theorem struct_of {k : Nat} (hk : structN P t = some k) (h : trodA enc P W fuel t cs = some x) : ∃ n, cs.length = P.cellsOf t ∧ ∀ i ty off sz, i < k → fieldT P t i = some (ty, off) → P.cellsOf ty = sz → ∃ y, trodA enc P W n ty ((cs.drop off).take sz) = some y ∧ ∀ z ∈ y.1.weights P ty, z ∈ x.1.weights P t := by
 unfold structN at hk; split at hk
 ·
  rename_i fs hu; injection hk with hk; subst hk
  obtain ⟨xs, n, rfl, rfl, h1, h2, h3⟩ := DataW.trod_struct hu h; refine ⟨n, h1, fun i ty off sz hi hf hz => ?_⟩; unfold fieldT at hf; rw [hu] at hf; simp only at hf; have hfi := Array.getElem?_eq_getElem hi; rw [hfi] at hf; simp only [Option.some.injEq, Prod.mk.injEq] at hf; obtain ⟨rfl, rfl⟩ := hf; subst hz; have h3i := h3 i _ hfi; have hx : i < xs.length := by omega
  rw [List.getElem?_eq_getElem hx] at h3i; refine ⟨_, h3i, fun z hz => ?_⟩; rw [DataW.weights, hu]; show z ∈ DataW.weightsEach P (fs.toList.map (·.type)) (xs.map (·.1)); have key : ∀ (ts : List TypeId) (l : List (DataW H)) (j : Nat) (ty : TypeId) (y : DataW H), ts[j]? = some ty → l[j]? = some y → ∀ z ∈ y.weights P ty, z ∈ DataW.weightsEach P ts l := by
   intro ts; induction ts with
   | nil => intro l j ty y q; simp at q
   | cons t0 ts ih =>
    intro l j ty y q1 q2 z hz; cases l with
    | nil => simp at q2
    | cons d l =>
     rw [DataW.weightsEach]; cases j with
     | zero =>
      simp at q1 q2; subst q1; subst q2; exact List.mem_append_left _ hz
     | succ j => exact List.mem_append_right _ (ih l j ty y (by simpa using q1) (by simpa using q2) z hz)
  exact key _ _ i _ _ (by simp [hfi]) (by simp [hx]) z hz
 ·
  cases hk
end
end Go.Opn
namespace Go.Opn
open Go.Cre Go.RowKit Go.ChangeShapes Go.WideShapes
noncomputable def lk {α : Type} : List (Nat × α) → Nat → Option α
 | [], _ => none
 | (u, v) :: l, t => bif Nat.beq t u then some v else lk l t
noncomputable def memB : Nat → List Nat → Bool
 | _, [] => false
 | t, u :: l => bif Nat.beq t u then true else memB t l
theorem trodAll_stays {H : Type} {enc : TypeId × Value → H} {P : Program} {W W' : World} (hl : laidOutB P = true) (hb : Below W.heap.size W W') {sp : Nat → Bool} :
  ∀ {ts : List TypeId} {vs : List Value} {ds : List (DataW H)} {ps : List MemPlace}, (∀ t ∈ ts, P.readableRec t = true ∧ t < P.types.size) → DataW.TrodAll enc P W 0 (fun _ => true) true ts vs ds ps → (∀ p ∈ ps, p.block < W.heap.size) → (∀ p ∈ ps, sp p.block = true) → DataW.TrodAll enc P W' 0 sp true ts vs ds ps
 | [], _, _, _, _, h, _, _ => by
  obtain ⟨rfl, rfl, rfl⟩ := trodAll_nil h; rfl
 | t :: ts, _, _, _, hr, h, hlt, hs => by
  obtain ⟨v, vs1, d, ds1, a, b, rfl, rfl, rfl, h1, h2⟩ := trodAll_cons h
  exact ⟨a, b, WideElems.Trod_stays hl (hr t (.head _)).1 (hr t (.head _)).2 h1 (fun x hx => hb.same (hlt x (List.mem_append_left _ hx))) (fun x hx => hs x (List.mem_append_left _ hx)),
   trodAll_stays hl hb (fun u hu => hr u (.tail _ hu)) h2 (fun p hp => hlt p (List.mem_append_right _ hp)) (fun p hp => hs p (List.mem_append_right _ hp)), rfl⟩
theorem post_open {H : Type} {enc : TypeId × Value → H} {P : Program} {f : Func} {s : ChangeSpec} {apart fresh handsOn : Bool} {W W' : World} {args : Array Value} {v : Value} {ds gs : List (DataW H)} {before : List MemPlace}
  (hW : DataW.Whole enc P f.params.toList s.vars apart W args.toList ds gs before) (hb : Below W.heap.size W W') (hl : laidOutB P = true) (hrd : ∀ t ∈ f.params.toList, P.readableRec t = true ∧ t < P.types.size) (hv : s.vars = [])
  (hargs : (s.fn H (ds ++ gs)).args = ds) (hvs : (s.fn H (ds ++ gs)).vars = [])
  (hres : ∀ (b : Nat) (sp : Nat → Bool) (hd : Bool), DataW.TrodAll enc P W' b sp hd f.resultTypes.toList (v.resultList f.resultTypes.size) (s.fn H (ds ++ gs)).results []) :
  s.post enc P f apart fresh handsOn false W args v W' := by
 have hlt := hW.lt; obtain ⟨p, q, h1, h2, rfl, h3, h4⟩ := id hW; have hlp : ∀ x ∈ p, x.block < W.heap.size := fun x hx => hlt x (List.mem_append_left _ hx); refine ⟨ds, gs, p ++ q, [], p, [], hW, hres _ _ _, ?_, ?_, World.keptBut_mono (fun p hp => by cases hp) (hb.frame fun p => p ∈ ([] : List MemPlace)), fun h => by cases h⟩
 ·
  rw [hargs]; exact trodAll_stays hl hb hrd h1 hlp (fun x hx => by simpa using hlp x hx)
 ·
  rw [hv, hvs]; rfl
end Go.Opn

/- A part of the proof of ResumeSaves. -/
import Derived.Test.YtmeojgcibppcmaaDoorCreC
import Derived.Laws.Append
import Derived.Laws.AppendOwn
set_option linter.unusedVariables false
set_option linter.unusedSimpArgs false
namespace Go.Cre
open Go.RowKit
def frzOk (N fz : Nat) (sh : Bool) (f : Nat × Nat) : Prop := (∀ off, off < N → f.1 ≤ off → off < f.2 → off < fz) ∧ (sh = false → f.1 = f.2 ∨ f.2 ≤ fz)
inductive ERel0 (μ : Mp) : List MapEntry → List MapEntry → Prop
 | nil : ERel0 μ [] []
 | cons (e e' : MapEntry) (es es' : List MapEntry) : e'.key = e.key → plain e.key = true → VRel μ e.val e'.val → ERel0 μ es es' → ERel0 μ (e :: es) (e' :: es')
def ERel (μ : Mp) (es es' : List MapEntry) : Prop := ∃ l, l.Perm es' ∧ ERel0 μ es l
theorem ERel0.mono {μ μ' : Mp} {l m : List MapEntry} (h : ERel0 μ l m) (e : Ext μ μ') : ERel0 μ' l m := by
 induction h with
 | nil => exact .nil
 | cons a b es es' h1 h2 h3 _ ih => exact .cons a b es es' h1 h2 (h3.mono e) ih
theorem ERel0.length {μ : Mp} {l m : List MapEntry} (h : ERel0 μ l m) : l.length = m.length := by
 induction h with
 | nil => rfl
 | cons a b es es' h1 h2 h3 _ ih => simp [ih]
theorem ERel.length {μ : Mp} {l m : List MapEntry} (h : ERel μ l m) : l.length = m.length := by
 obtain ⟨k, h1, h2⟩ := h; rw [h2.length, h1.length_eq]
theorem ERel.nil (μ : Mp) : ERel μ [] [] := ⟨[], .refl _, .nil⟩
theorem ERel0.append {μ : Mp} {a b c d : List MapEntry} (h : ERel0 μ a b) (k : ERel0 μ c d) : ERel0 μ (a ++ c) (b ++ d) := by
 induction h with
 | nil => exact k
 | cons x y es es' h1 h2 h3 _ ih => exact .cons x y _ _ h1 h2 h3 ih
theorem ERel0.mem {μ : Mp} {l m : List MapEntry} (h : ERel0 μ l m) {y : MapEntry} (hy : y ∈ m) : ∃ x ∈ l, y.key = x.key := by
 induction h with
 | nil => cases hy
 | cons a b es es' h1 h2 h3 _ ih =>
  rcases List.mem_cons.1 hy with rfl | q
  ·
   exact ⟨a, by simp, h1⟩
  ·
   obtain ⟨x, q1, q2⟩ := ih q; exact ⟨x, by simp [q1], q2⟩
theorem ERel0.split {μ : Mp} {pre post : List MapEntry} {e : MapEntry} : ∀ {l : List MapEntry}, ERel0 μ (pre ++ e :: post) l → ∃ l1 y l2, l = l1 ++ y :: l2 ∧ ERel0 μ pre l1 ∧ y.key = e.key ∧ plain e.key = true ∧ VRel μ e.val y.val ∧ ERel0 μ post l2 := by
 induction pre with
 | nil =>
  intro l h; cases h with
  | cons a b es es' h1 h2 h3 h4 => exact ⟨[], b, es', rfl, .nil, h1, h2, h3, h4⟩
 | cons a pre ih =>
  intro l h; cases h with
  | cons a b es es' h1 h2 h3 h4 =>
   obtain ⟨l1, y, l2, rfl, q1, q2⟩ := ih h4; exact ⟨b :: l1, y, l2, rfl, .cons a b _ _ h1 h2 h3 q1, q2⟩
def TRel (μ : Mp) (T : Tr Value) (n : Nat) (tmps : Array Value) : Prop := n ≤ tmps.size ∧ ∀ t v, T.get t = some v → VRel μ v (tmps.getD t undef)
def BRel (P : Program) (μ : Mp) (L : Loc) : Blk → Obj → Prop
 | .row cells elem opn _ fz sh, .cells c e f => e = elem ∧ c.size = L.N ∧ P.cellsOf elem = L.sz ∧ cells.length ≤ L.N ∧ (opn = false → cells.length = L.N) ∧
   (∀ (i : Nat) v v', cells[i]? = some v → c[i]? = some v' → VRel μ v v') ∧ frzOk L.N fz sh f
 | .map es _, .map es' _ => ERel μ es es'.toList
 | .loop l, .loop l' => l'.state = l.state ∧ l'.pending = l.pending ∧ l'.params.toList = l.params ∧ l'.assign = l.assign ∧ l'.body = l.body ∧ TRel μ l.T l.n l'.tmps ∧ ∃ L', μ l.dfr = some L' ∧ l'.defers = L'.r
 | .dfr ds, .deferred ds' => ds' = ds ∧ (ds = some [] ∨ ds = none)
 | .dead, _ => True
 | _, _ => False
theorem TRel.mono {μ μ' : Mp} {T : Tr Value} {n : Nat} {tmps : Array Value} (h : TRel μ T n tmps) (e : Ext μ μ') : TRel μ' T n tmps := ⟨h.1, fun t v x => (h.2 t v x).mono e⟩
theorem BRel.mono {P : Program} {μ μ' : Mp} {L : Loc} {b : Blk} {o : Obj} (h : BRel P μ L b o) (e : Ext μ μ') : BRel P μ' L b o := by
 cases b with
 | row cells elem opn fam fz sh =>
  cases o with
  | cells c e' f => obtain ⟨h1, h2, h3, h4, h5, h6, h7⟩ := h; exact ⟨h1, h2, h3, h4, h5, fun i v v' a b => (h6 i v v' a b).mono e, h7⟩
  | _ => exact h
 | map es clock =>
  cases o with
  | map es' clock' => obtain ⟨l, h1, h2⟩ := h; exact ⟨l, h1, h2.mono e⟩
  | _ => exact h
 | loop l =>
  cases o with
  | loop l' => obtain ⟨h1, h2, h3, h4, h5, h6, L', h7, h8⟩ := h; exact ⟨h1, h2, h3, h4, h5, h6.mono e, L', e _ _ h7, h8⟩
  | _ => exact h
 | dfr ds =>
  cases o with
  | deferred ds' => exact h
  | _ => exact h
 | dead => cases o <;> trivial
def isOpen : Option Blk → Bool
 | some (.row _ _ opn _ _ _) => opn
 | _ => false
def inFam (H : Hp) (id f : Nat) : Prop := ∃ c e z s, H.mem.get id = some (.row c e true f z s)
def Apart (H : Hp) (id id' : Nat) : Prop :=
 H.mem.get id = some .dead ∨ H.mem.get id' = some .dead ∨ ∃ f l, inFam H id f ∧ inFam H id' f ∧ H.fam.get f = some l ∧ id ∈ l ∧ id' ∈ l
def Sorted (H : Hp) (l : List Nat) : Prop :=
 l.Pairwise fun x y => ∀ c e f z s c' e' f' z' s', H.mem.get x = some (.row c e true f z s) → H.mem.get y = some (.row c' e' true f' z' s') → c'.length ≤ c.length
structure Kept (B : Nat → Prop) (w w' : World) : Prop where
 os : w'.os = w.os
 tape : w'.tape = w.tape
 output : w'.output = w.output
 size : w.heap.size ≤ w'.heap.size
 block : ∀ k, B k → w'.heap[k]? = w.heap[k]?
theorem Kept.refl (B : Nat → Prop) (w : World) : Kept B w w := ⟨rfl, rfl, rfl, Nat.le_refl _, fun _ _ => rfl⟩
theorem Kept.trans {B : Nat → Prop} {a b c : World} (h : Kept B a b) (k : Kept B b c) : Kept B a c :=
 ⟨k.os.trans h.os, k.tape.trans h.tape, k.output.trans h.output, Nat.le_trans h.size k.size, fun i hi => (k.block i hi).trans (h.block i hi)⟩
theorem Kept.mono {B B' : Nat → Prop} {w w' : World} (h : Kept B w w') (hB : ∀ k, B' k → B k) : Kept B' w w' := ⟨h.os, h.tape, h.output, h.size, fun k hk => h.block k (hB k hk)⟩
theorem Kept.drew {B : Nat → Prop} {a w : World} (h : Kept B a w) : Kept B a w.drew := ⟨h.os, h.tape, h.output, h.size, h.block⟩
theorem Kept.alloc {B : Nat → Prop} {a w : World} (h : Kept B a w) (hB : ∀ k, B k → k < w.heap.size) (o : Obj) : Kept B a (w.alloc o) :=
 h.trans ⟨rfl, rfl, rfl, by simp, fun k hk => Below.heap_alloc _ _ _ (hB k hk)⟩
theorem Kept.below {n : Nat} {w w' : World} (h : Kept (fun k => k < n) w w') : Below n w w' := ⟨h.os, h.tape, h.output, h.size, h.block⟩
theorem Kept.of_below {n : Nat} {B : Nat → Prop} {w w' : World} (h : Below n w w') (hB : ∀ k, B k → k < n) : Kept B w w' := ⟨h.os, h.tape, h.output, h.size, fun k hk => h.block k (hB k hk)⟩
structure HRel (P : Program) (B : Nat → Prop) (w0 : World) (μ : Mp) (H : Hp) (w : World) : Prop where
 below : Kept B w0 w
 bsz : ∀ k, B k → k < w.heap.size
 blk : ∀ id L, μ id = some L → ∃ b o, H.mem.get id = some b ∧ w.heap[L.r]? = some o ∧ BRel P μ L b o
 sep : ∀ id id' L L', id ≠ id' → μ id = some L → μ id' = some L' → L.r = L'.r → Apart H id id'
 lt : ∀ id L, μ id = some L → id < H.nx
 own : ∀ id L, μ id = some L → id < H.glo → L.r = id
 new : ∀ id L, μ id = some L → H.glo ≤ id → H.mem.get id ≠ some .dead → ¬ B L.r
 glob : ∀ g c e o f z s, g < H.glo → H.mem.get g = some (.row c e o f z s) → ∃ L, μ g = some L
 glt : H.glo ≤ H.nx
 famLt : ∀ id c e f z s, H.mem.get id = some (.row c e true f z s) → f < H.nf
 famMem : ∀ f l x, H.fam.get f = some l → x ∈ l → x < H.nx ∧ (isOpen (H.mem.get x) = true ∨ H.mem.get x = some .dead)
 famSort : ∀ f l, H.fam.get f = some l → Sorted H l
structure Step (μ μ' : Mp) (H H' : Hp) : Prop where
 ext : Ext μ μ'
 nx : H.nx ≤ H'.nx
 glo : H'.glo = H.glo
 keep : ∀ id, id < H.nx → μ id = none → μ' id = none ∧ (isOpen (H.mem.get id) = false → H'.mem.get id = H.mem.get id)
theorem Step.refl (μ : Mp) (H : Hp) : Step μ μ H H := ⟨Ext.refl μ, Nat.le_refl _, rfl, fun _ _ h => ⟨h, fun _ => rfl⟩⟩
theorem Step.trans {μ μ1 μ2 : Mp} {H H1 H2 : Hp} (h : Step μ μ1 H H1) (k : Step μ1 μ2 H1 H2) : Step μ μ2 H H2 :=
 ⟨h.ext.trans k.ext, Nat.le_trans h.nx k.nx, k.glo.trans h.glo, fun id hi hn => by
  obtain ⟨a, b⟩ := h.keep id hi hn; obtain ⟨c, d⟩ := k.keep id (Nat.lt_of_lt_of_le hi h.nx) a; exact ⟨c, fun ho => by rw [d (by rw [b ho]; exact ho), b ho]⟩⟩
theorem Hp.upd_eq {H H' : Hp} {id : Nat} {b : Blk} (h : H.upd id b = some H') : H'.nx = H.nx ∧ H'.fam = H.fam ∧ H'.nf = H.nf ∧ H'.glo = H.glo ∧ ∀ m, H'.mem.get m = if m = id then some b else H.mem.get m := by
 obtain ⟨mem, nx, fam, nf, glo⟩ := H; simp only [Hp.upd] at h; cases hp : Tr.put b mem id with
 | none => rw [hp] at h; cases h
 | some m => rw [hp] at h; injection h with h; subst h; exact ⟨rfl, rfl, rfl, rfl, Tr.get_put hp⟩
theorem Hp.new_eq {H H' : Hp} {id : Nat} {b : Blk} (h : H.new b = some (id, H')) : id = H.nx ∧ H'.nx = H.nx + 1 ∧ H'.fam = H.fam ∧ H'.nf = H.nf ∧ H'.glo = H.glo ∧ ∀ m, H'.mem.get m = if m = H.nx then some b else H.mem.get m := by
 obtain ⟨mem, nx, fam, nf, glo⟩ := H; simp only [Hp.new] at h; cases hp : Tr.put b mem nx with
 | none => rw [hp] at h; cases h
 | some m =>
  rw [hp] at h; simp only [Hp.new2, Hp.new3, Option.some.injEq, Prod.mk.injEq] at h; obtain ⟨rfl, rfl⟩ := h; exact ⟨rfl, rfl, rfl, rfl, rfl, Tr.get_put hp⟩
theorem Hp.setFam_eq {H H' : Hp} {f : Nat} {l : List Nat} (h : H.setFam f l = some H') : H'.nx = H.nx ∧ H'.mem = H.mem ∧ H'.nf = H.nf ∧ H'.glo = H.glo ∧ ∀ m, H'.fam.get m = if m = f then some l else H.fam.get m := by
 obtain ⟨mem, nx, fam, nf, glo⟩ := H; simp only [Hp.setFam] at h; cases hp : Tr.put l fam f with
 | none => rw [hp] at h; cases h
 | some m => rw [hp] at h; injection h with h; subst h; exact ⟨rfl, rfl, rfl, rfl, Tr.get_put hp⟩
theorem Hp.newFam_eq {H H' : Hp} {f : Nat} (h : H.newFam = some (f, H')) : f = H.nf ∧ H'.nx = H.nx ∧ H'.mem = H.mem ∧ H'.nf = H.nf + 1 ∧ H'.glo = H.glo ∧ ∀ m, H'.fam.get m = if m = H.nf then some [H.nx] else H.fam.get m := by
 obtain ⟨mem, nx, fam, nf, glo⟩ := H; simp only [Hp.newFam] at h; cases hp : Tr.put [nx] fam nf with
 | none => rw [hp] at h; cases h
 | some m =>
  rw [hp] at h; simp only [Hp.newFam2, Hp.newFam3, Option.some.injEq, Prod.mk.injEq] at h; obtain ⟨rfl, rfl⟩ := h; exact ⟨rfl, rfl, rfl, rfl, rfl, Tr.get_put hp⟩
def Mp.put (μ : Mp) (id : Nat) (L : Loc) : Mp := fun x => if x = id then some L else μ x
theorem Mp.put_self (μ : Mp) (id : Nat) (L : Loc) : μ.put id L id = some L := by simp [Mp.put]
theorem Mp.put_other (μ : Mp) {id x : Nat} (L : Loc) (h : x ≠ id) : μ.put id L x = μ x := by simp [Mp.put, h]
section
variable {P : Program} {B : Nat → Prop} {w0 w : World} {μ : Mp} {H H' : Hp}
theorem HRel.none_nx (h : HRel P B w0 μ H w) : μ H.nx = none := by
 cases hx : μ H.nx with
 | none => rfl
 | some L => have := h.lt _ _ hx; omega
theorem HRel.ext_put (h : HRel P B w0 μ H w) (L : Loc) : Ext μ (μ.put H.nx L) := fun id L' hx => by
 by_cases e : id = H.nx
 ·
  subst e; rw [h.none_nx] at hx; cases hx
 ·
  rw [Mp.put_other _ _ e]; exact hx
theorem HRel.drew (h : HRel P B w0 μ H w) : HRel P B w0 μ H w.drew :=
 ⟨h.below.drew, h.bsz, h.blk, h.sep, h.lt, h.own, h.new, h.glob, h.glt, h.famLt, h.famMem, h.famSort⟩
theorem HRel.drawn (h : HRel P B w0 μ H w) (n : Nat) : HRel P B w0 μ H { w with drawn := n } :=
 ⟨⟨h.below.os, h.below.tape, h.below.output, h.below.size, h.below.block⟩, h.bsz, h.blk, h.sep, h.lt, h.own, h.new, h.glob, h.glt, h.famLt, h.famMem, h.famSort⟩
theorem heap_alloc_get (w : World) (o : Obj) (r : Nat) : (w.alloc o).heap[r]? = if r = w.heap.size then some o else w.heap[r]? := by
 show (w.heap.push o)[r]? = _; rw [Array.getElem?_push]
theorem HRel.madeAt (h : HRel P B w0 μ H w) {b : Blk} {o : Obj} {L : Loc} (e1 : H'.nx = H.nx + 1) (e4 : H'.glo = H.glo) (e5 : ∀ m, H'.mem.get m = if m = H.nx then some b else H.mem.get m)
  (hnf : H.nf ≤ H'.nf) (hfam : ∀ f l, H'.fam.get f = some l → H.fam.get f = some l ∨ (l = [H.nx] ∧ isOpen (some b) = true)) (hfam2 : ∀ f l, f < H.nf → H.fam.get f = some l → H'.fam.get f = some l)
  (hopn : ∀ c e f z s, b = .row c e true f z s → f < H'.nf) (hr : L.r = w.heap.size) (hb : BRel P (μ.put H.nx L) L b o) :
  HRel P B w0 (μ.put H.nx L) H' (w.alloc o) ∧ Step μ (μ.put H.nx L) H H' := by
 have hext := h.ext_put L; have old : ∀ x L', (μ.put H.nx L) x = some L' → x ≠ H.nx → μ x = some L' := fun x L' a b => by rwa [Mp.put_other _ _ b] at a
 have hlt : ∀ x L', μ x = some L' → L'.r < w.heap.size := fun x L' hx => by
  obtain ⟨b', o', _, ho, _⟩ := h.blk x L' hx; rcases Nat.lt_or_ge L'.r w.heap.size with hh | hh
  ·
   exact hh
  ·
   rw [Array.getElem?_eq_none hh] at ho; cases ho
 refine ⟨⟨h.below.alloc h.bsz o, ?_, ?_, ?_, ?_, ?_, ?_, ?_, ?_, ?_, ?_, ?_⟩, ⟨hext, by omega, e4, ?_⟩⟩
 ·
  intro k hk; have := h.bsz k hk; show k < (w.heap.push o).size; rw [Array.size_push]; omega
 ·
  intro x L' hx; by_cases hxn : x = H.nx
  ·
   subst hxn; rw [Mp.put_self] at hx; injection hx with hx; subst hx
   exact ⟨b, o, by rw [e5]; simp, by rw [heap_alloc_get, hr]; simp, hb⟩
  ·
   have hx' := old x L' hx hxn; obtain ⟨b', o', h1, h2, h3⟩ := h.blk x L' hx'; exact ⟨b', o', by rw [e5, if_neg hxn]; exact h1, by rw [heap_alloc_get, if_neg (by have := hlt x L' hx'; omega)]; exact h2, h3.mono hext⟩
 ·
  intro x y L1 L2 hxy hx hy hrr; by_cases hxn : x = H.nx
  ·
   subst hxn; rw [Mp.put_self] at hx; injection hx with hx; subst hx
   have := hlt y L2 (old y L2 hy (Ne.symm hxy)); omega
  ·
   by_cases hyn : y = H.nx
   ·
    subst hyn; rw [Mp.put_self] at hy; injection hy with hy; subst hy
    have := hlt x L1 (old x L1 hx hxn); omega
   ·
    rcases h.sep x y L1 L2 hxy (old x L1 hx hxn) (old y L2 hy hyn) hrr with d | d | ⟨f, l, ⟨c, e, z, s, q⟩, ⟨c', e', z', s', q'⟩, hl, m1, m2⟩
    ·
     exact .inl (by rw [e5, if_neg hxn]; exact d)
    ·
     exact .inr (.inl (by rw [e5, if_neg hyn]; exact d))
    ·
     exact .inr (.inr ⟨f, l, ⟨c, e, z, s, by rw [e5, if_neg hxn]; exact q⟩, ⟨c', e', z', s', by rw [e5, if_neg hyn]; exact q'⟩, hfam2 f l (h.famLt _ _ _ _ _ _ q) hl, m1, m2⟩)
 ·
  intro x L' hx; by_cases hxn : x = H.nx
  ·
   omega
  ·
   have := h.lt x L' (old x L' hx hxn); omega
 ·
  intro x L' hx hg; rw [e4] at hg; have hxn : x ≠ H.nx := by have := h.glt; omega
  exact h.own x L' (old x L' hx hxn) hg
 ·
  intro x L' hx hg hnd; rw [e4] at hg; by_cases hxn : x = H.nx
  ·
   subst hxn; rw [Mp.put_self] at hx; injection hx with hx; subst hx
   rw [hr]; exact fun q => Nat.lt_irrefl _ (h.bsz _ q)
  ·
   exact h.new x L' (old x L' hx hxn) hg (by rw [e5, if_neg hxn] at hnd; exact hnd)
 ·
  intro g c e o f z s hg hm; rw [e4] at hg; have hgn : g ≠ H.nx := by have := h.glt; omega
  rw [e5, if_neg hgn] at hm; obtain ⟨L', hL⟩ := h.glob g c e o f z s hg hm; exact ⟨L', hext _ _ hL⟩
 ·
  rw [e4, e1]; have := h.glt; omega
 ·
  intro x c e f z s hm; rw [e5] at hm; split at hm
  ·
   injection hm with hm; exact hopn c e f z s hm
  ·
   exact Nat.lt_of_lt_of_le (h.famLt x c e f z s hm) hnf
 ·
  intro f l x hl hx; rcases hfam f l hl with hl | ⟨rfl, ho⟩
  ·
   obtain ⟨a, d⟩ := h.famMem f l x hl hx; have hxn : x ≠ H.nx := by omega
   refine ⟨by omega, ?_⟩; rw [e5, if_neg hxn]; exact d
  ·
   simp at hx; subst hx; exact ⟨by omega, .inl (by rw [e5]; simpa using ho)⟩
 ·
  intro f l hl; rcases hfam f l hl with hl | ⟨rfl, _⟩
  ·
   refine (h.famSort f l hl).imp_of_mem ?_; intro x y hx hy hxy c e f1 z s c' e' f' z' s' q q'; have hx' := (h.famMem f l x hl hx).1; have hy' := (h.famMem f l y hl hy).1; rw [e5, if_neg (by omega)] at q q'; exact hxy c e _ z s c' e' f' z' s' q q'
  ·
   exact List.pairwise_singleton _ _
 ·
  intro x hx hn0; have hxn : x ≠ H.nx := by omega
  exact ⟨by rw [Mp.put_other _ _ hxn]; exact hn0, fun _ => by rw [e5, if_neg hxn]⟩
theorem HRel.made (h : HRel P B w0 μ H w) {id : Nat} {b : Blk} {o : Obj} {L : Loc} (hn : H.new b = some (id, H')) (ho : isOpen (some b) = false) (hr : L.r = w.heap.size) (hb : BRel P (μ.put H.nx L) L b o) :
  HRel P B w0 (μ.put H.nx L) H' (w.alloc o) ∧ Step μ (μ.put H.nx L) H H' ∧ id = H.nx := by
 obtain ⟨rfl, e1, e2, e3, e4, e5⟩ := Hp.new_eq hn; obtain ⟨a, b⟩ := h.madeAt (H' := H') e1 e4 e5 (by omega) (fun f l x => .inl (by rw [← e2]; exact x)) (fun f l _ x => by rw [e2]; exact x) (fun c e f z s q => by rw [q] at ho; simp [isOpen] at ho) hr hb; exact ⟨a, b, rfl⟩
theorem HRel.madeOpen (h : HRel P B w0 μ H w) {id : Nat} {cells : List Value} {elem : TypeId} {sh : Bool} {o : Obj} {L : Loc} (hn : H.newOpen cells elem sh = some (id, H')) (hr : L.r = w.heap.size)
  (hb : ∀ f, BRel P (μ.put H.nx L) L (.row cells elem true f 0 sh) o) :
  HRel P B w0 (μ.put H.nx L) H' (w.alloc o) ∧ Step μ (μ.put H.nx L) H H' ∧ id = H.nx := by
 unfold Hp.newOpen at hn; cases hf : H.newFam with
 | none => rw [hf] at hn; cases hn
 | some p =>
  obtain ⟨f, H1⟩ := p; rw [hf] at hn; obtain ⟨rfl, a1, a2, a3, a4, a5⟩ := Hp.newFam_eq hf; obtain ⟨rfl, e1, e2, e3, e4, e5⟩ := Hp.new_eq hn
  obtain ⟨x, y⟩ := h.madeAt (H' := H') (b := .row cells elem true H.nf 0 sh) (o := o) (L := L) (by omega) (by rw [e4, a4]) (fun m => by rw [e5, a1, a2]) (by omega)
   (fun f l hl => by
    rw [e2, a5] at hl; split at hl
    ·
     injection hl with hl; exact .inr ⟨hl.symm, rfl⟩
    ·
     exact .inl hl)
   (fun f l hf hl => by rw [e2, a5, if_neg (by omega)]; exact hl)
   (fun c e f z s q => by injection q with _ _ _ q; omega) hr (hb _)
  exact ⟨x, y, a1⟩
theorem HRel.write (h : HRel P B w0 μ H w) {id : Nat} {L : Loc} {b' : Blk} {o' : Obj} (hL : μ id = some L) (hg : H.glo ≤ id) (hlive : H.mem.get id ≠ some .dead)
  (e1 : H'.nx = H.nx) (e2 : H'.nf = H.nf) (e3 : H'.glo = H.glo) (eid : H'.mem.get id = some b')
  (eo : ∀ x, x ≠ id → H'.mem.get x = H.mem.get x ∨ (H'.mem.get x = some .dead ∧ (isOpen (H.mem.get x) = true ∨ H.mem.get x = some .dead)))
  (esh : ∀ x L', x ≠ id → μ x = some L' → L'.r = L.r → H'.mem.get x = some .dead)
  (efam : ∀ f l, H.fam.get f = some l → H'.fam.get f = some l ∨ ∀ x y, x ∈ l → y ∈ l → x ≠ y → H'.mem.get x = some .dead ∨ H'.mem.get y = some .dead)
  (efm : ∀ f l, H'.fam.get f = some l → H.fam.get f = some l ∨ (l = [id] ∧ isOpen (some b') = true))
  (hop : ∀ c e f z s, b' = .row c e true f z s → ∃ c' e' z' s', H.mem.get id = some (.row c' e' true f z' s') ∧ c'.length = c.length)
  (hop2 : isOpen (H.mem.get id) = true → isOpen (some b') = true) (hb : BRel P μ L b' o') :
  HRel P B w0 μ H' { w with heap := w.heap.setIfInBounds L.r o' } ∧ Step μ μ H H' := by
 have hdead : ∀ x, H.mem.get x = some .dead → H'.mem.get x = some .dead := fun x hx => by
  have hne : x ≠ id := fun e => hlive (e ▸ hx); rcases eo x hne with q | q
  ·
   rw [q, hx]
  ·
   exact q.1
 have hfam : ∀ x f, inFam H x f → H'.mem.get x = some .dead ∨ inFam H' x f := fun x f hx => by
  obtain ⟨c, e, z, s, q⟩ := hx; by_cases hxi : x = id
  ·
   subst hxi; right
   have ho := hop2 (by rw [q]; rfl); cases b' with
   | row c1 e1' o1 f1 z1 s1 =>
    simp only [isOpen] at ho; subst ho; obtain ⟨c', e', z', s', q', _⟩ := hop c1 e1' f1 z1 s1 rfl; rw [q] at q'; injection q' with q'; injection q' with _ _ _ qf; subst qf
    exact ⟨c1, e1', z1, s1, eid⟩
   | _ => simp [isOpen] at ho
  ·
   rcases eo x hxi with p | p
   ·
    right; exact ⟨c, e, z, s, by rw [p]; exact q⟩
   ·
    left; exact p.1
 have hLr : L.r < w.heap.size := by
  obtain ⟨b, o, _, ho, _⟩ := h.blk id L hL; rcases Nat.lt_or_ge L.r w.heap.size with hh | hh
  ·
   exact hh
  ·
   rw [Array.getElem?_eq_none hh] at ho; cases ho
 have hBr := h.new id L hL hg hlive; have hget : ∀ r, ({ w with heap := w.heap.setIfInBounds L.r o' } : World).heap[r]? = if r = L.r then some o' else w.heap[r]? := fun r => by
  show (w.heap.setIfInBounds L.r o')[r]? = _; rw [Array.getElem?_setIfInBounds]; by_cases hr : L.r = r
  ·
   subst hr; simp [hLr]
  ·
   rw [if_neg hr, if_neg (Ne.symm hr)]
 have hrow : ∀ x c e f z s, H'.mem.get x = some (.row c e true f z s) → ∃ c' e' z' s', H.mem.get x = some (.row c' e' true f z' s') ∧ c'.length = c.length := fun x c e f z s hm => by
  by_cases hxi : x = id
  ·
   subst hxi; rw [eid] at hm; injection hm with hm
   exact hop c e f z s hm
  ·
   rcases eo x hxi with q | q
   ·
    rw [q] at hm; exact ⟨c, e, z, s, hm, rfl⟩
   ·
    rw [q.1] at hm; cases hm
 refine ⟨⟨⟨h.below.os, h.below.tape, h.below.output, ?_, ?_⟩, ?_, ?_, ?_, ?_, ?_, ?_, ?_, ?_, ?_, ?_, ?_⟩, ⟨Ext.refl _, by omega, e3, ?_⟩⟩
 ·
  show w0.heap.size ≤ (w.heap.setIfInBounds L.r o').size; rw [Array.size_setIfInBounds]; exact h.below.size
 ·
  intro k hk; rw [hget, if_neg (fun e => by subst e; exact hBr hk)]; exact h.below.block k hk
 ·
  intro k hk; show k < (w.heap.setIfInBounds L.r o').size; rw [Array.size_setIfInBounds]; exact h.bsz k hk
 ·
  intro x L' hx; by_cases hxi : x = id
  ·
   subst hxi; rw [hL] at hx; injection hx with hx; subst hx
   exact ⟨b', o', eid, by rw [hget]; simp, hb⟩
  ·
   by_cases hr : L'.r = L.r
   ·
    exact ⟨.dead, o', esh x L' hxi hx hr, by rw [hget, if_pos hr], by simp [BRel]⟩
   ·
    obtain ⟨b, o, p1, p2, p3⟩ := h.blk x L' hx; rcases eo x hxi with q | q
    ·
     exact ⟨b, o, by rw [q]; exact p1, by rw [hget, if_neg hr]; exact p2, p3⟩
    ·
     exact ⟨.dead, o, q.1, by rw [hget, if_neg hr]; exact p2, by cases o <;> simp [BRel]⟩
 ·
  intro x y L1 L2 hxy hx hy hrr; rcases h.sep x y L1 L2 hxy hx hy hrr with d | d | ⟨f, l, q, q', hl, m1, m2⟩
  ·
   exact .inl (hdead x d)
  ·
   exact .inr (.inl (hdead y d))
  ·
   rcases hfam x f q with d | q
   ·
    exact .inl d
   ·
    rcases hfam y f q' with d | q'
    ·
     exact .inr (.inl d)
    ·
     rcases efam f l hl with hl' | hall
     ·
      exact .inr (.inr ⟨f, l, q, q', hl', m1, m2⟩)
     ·
      rcases hall x y m1 m2 hxy with d | d
      ·
       exact .inl d
      ·
       exact .inr (.inl d)
 ·
  intro x L' hx; rw [e1]; exact h.lt x L' hx
 ·
  intro x L' hx hx'; rw [e3] at hx'; exact h.own x L' hx hx'
 ·
  intro x L' hx hx' hnd; rw [e3] at hx'; exact h.new x L' hx hx' fun q => hnd (hdead x q)
 ·
  intro g c e o f z s hgl hm; rw [e3] at hgl; have hne : g ≠ id := by omega
  rcases eo g hne with q | q
  ·
   rw [q] at hm; exact h.glob g c e o f z s hgl hm
  ·
   rw [q.1] at hm; cases hm
 ·
  rw [e3, e1]; exact h.glt
 ·
  intro x c e f z s hm; rw [e2]; by_cases hxi : x = id
  ·
   subst hxi; rw [eid] at hm; injection hm with hm
   obtain ⟨c', e', z', s', q', _⟩ := hop c e f z s hm; exact h.famLt _ _ _ _ _ _ q'
  ·
   rcases eo x hxi with q | q
   ·
    rw [q] at hm; exact h.famLt x c e f z s hm
   ·
    rw [q.1] at hm; cases hm
 ·
  intro f l x hl hx; rw [e1]; rcases efm f l hl with hl | ⟨rfl, ho⟩
  ·
   obtain ⟨a, d⟩ := h.famMem f l x hl hx; refine ⟨a, ?_⟩; rcases d with d | d
   ·
    by_cases hxi : x = id
    ·
     subst hxi; left; rw [eid]; exact hop2 d
    ·
     rcases eo x hxi with q | q
     ·
      left; rw [q]; exact d
     ·
      right; exact q.1
   ·
    right; exact hdead x d
  ·
   simp at hx; subst hx; exact ⟨h.lt _ _ hL, .inl (by rw [eid]; exact ho)⟩
 ·
  intro f l hl; rcases efm f l hl with hl | ⟨rfl, _⟩
  ·
   refine (h.famSort f l hl).imp ?_; intro x y hxy c e f z s c' e' f' z' s' q q'; obtain ⟨c1, e1', z1, s1, q1, q2⟩ := hrow x c e f z s q; obtain ⟨c2, e2', z2, s2, q3, q4⟩ := hrow y c' e' f' z' s' q'; have := hxy _ _ _ _ _ _ _ _ _ _ q1 q3; omega
  ·
   exact List.pairwise_singleton _ _
 ·
  intro x hx hn0; refine ⟨hn0, fun ho => ?_⟩; have hxi : x ≠ id := fun e => by subst e; rw [hL] at hn0; cases hn0
  rcases eo x hxi with q | q
  ·
   exact q
  ·
   rcases q.2 with r | r
   ·
    rw [ho] at r; cases r
   ·
    rw [q.1, r]
theorem HRel.kill (h : HRel P B w0 μ H w) (e1 : H'.nx = H.nx) (e2 : H'.nf = H.nf) (e3 : H'.glo = H.glo)
  (eo : ∀ x, H'.mem.get x = H.mem.get x ∨ (H'.mem.get x = some .dead ∧ (isOpen (H.mem.get x) = true ∨ H.mem.get x = some .dead)))
  (efam : ∀ f l, H.fam.get f = some l → ∃ l', H'.fam.get f = some l' ∧ l'.Sublist l ∧ ∀ x, x ∈ l → x ∉ l' → H'.mem.get x = some .dead)
  (efm : ∀ f l', H'.fam.get f = some l' → ∃ l, H.fam.get f = some l ∧ l'.Sublist l) :
  HRel P B w0 μ H' w ∧ Step μ μ H H' := by
 have hdead : ∀ x, H.mem.get x = some .dead → H'.mem.get x = some .dead := fun x hx => by
  rcases eo x with q | q
  ·
   rw [q, hx]
  ·
   exact q.1
 have hfam : ∀ x f, inFam H x f → H'.mem.get x = some .dead ∨ inFam H' x f := fun x f hx => by
  obtain ⟨c, e, z, s, q⟩ := hx; rcases eo x with p | p
  ·
   right; exact ⟨c, e, z, s, by rw [p]; exact q⟩
  ·
   left; exact p.1
 have hrow : ∀ x c e f z s, H'.mem.get x = some (.row c e true f z s) → H.mem.get x = some (.row c e true f z s) := fun x c e f z s hm => by
  rcases eo x with q | q
  ·
   rw [q] at hm; exact hm
  ·
   rw [q.1] at hm; cases hm
 refine ⟨⟨h.below, h.bsz, ?_, ?_, ?_, ?_, ?_, ?_, ?_, ?_, ?_, ?_⟩, ⟨Ext.refl _, by omega, e3, ?_⟩⟩
 ·
  intro x L' hx; obtain ⟨b, o, p1, p2, p3⟩ := h.blk x L' hx; rcases eo x with q | q
  ·
   exact ⟨b, o, by rw [q]; exact p1, p2, p3⟩
  ·
   exact ⟨.dead, o, q.1, p2, by cases o <;> simp [BRel]⟩
 ·
  intro x y L1 L2 hxy hx hy hrr; rcases h.sep x y L1 L2 hxy hx hy hrr with d | d | ⟨f, l, q, q', hl, m1, m2⟩
  ·
   exact .inl (hdead x d)
  ·
   exact .inr (.inl (hdead y d))
  ·
   rcases hfam x f q with d | q
   ·
    exact .inl d
   ·
    rcases hfam y f q' with d | q'
    ·
     exact .inr (.inl d)
    ·
     obtain ⟨l', h1, _, h3⟩ := efam f l hl; by_cases hxl : x ∈ l'
     ·
      by_cases hyl : y ∈ l'
      ·
       exact .inr (.inr ⟨f, l', q, q', h1, hxl, hyl⟩)
      ·
       exact .inr (.inl (h3 y m2 hyl))
     ·
      exact .inl (h3 x m1 hxl)
 ·
  intro x L' hx; rw [e1]; exact h.lt x L' hx
 ·
  intro x L' hx hx'; rw [e3] at hx'; exact h.own x L' hx hx'
 ·
  intro x L' hx hx' hnd; rw [e3] at hx'; exact h.new x L' hx hx' fun q => hnd (hdead x q)
 ·
  intro g c e o f z s hgl hm; rw [e3] at hgl; rcases eo g with q | q
  ·
   rw [q] at hm; exact h.glob g c e o f z s hgl hm
  ·
   rw [q.1] at hm; cases hm
 ·
  rw [e3, e1]; exact h.glt
 ·
  intro x c e f z s hm; rw [e2]; exact h.famLt x c e f z s (hrow x c e f z s hm)
 ·
  intro f l x hl hx; rw [e1]; obtain ⟨l0, h1, h2⟩ := efm f l hl; obtain ⟨a, d⟩ := h.famMem f l0 x h1 (h2.mem hx); refine ⟨a, ?_⟩; rcases eo x with q | q
  ·
   rw [q]; exact d
  ·
   right; exact q.1
 ·
  intro f l hl; obtain ⟨l0, h1, h2⟩ := efm f l hl; refine ((h.famSort f l0 h1).sublist h2).imp ?_; intro x y hxy c e f z s c' e' f' z' s' q q'; exact hxy _ _ _ _ _ _ _ _ _ _ (hrow _ _ _ _ _ _ q) (hrow _ _ _ _ _ _ q')
 ·
  intro x hx hn0; refine ⟨hn0, fun ho => ?_⟩; rcases eo x with q | q
  ·
   exact q
  ·
   rcases q.2 with r | r
   ·
    rw [ho] at r; cases r
   ·
    rw [q.1, r]
theorem sorted_push (h : HRel P B w0 μ H w) {f : Nat} {l l0 : List Nat} {cells : List Value} {elem : TypeId} {fz : Nat} {sh : Bool} (hl : H.fam.get f = some l0) (hsub : l.Sublist l0)
  (e5 : ∀ m, H'.mem.get m = if m = H.nx then some (.row cells elem true f fz sh) else H.mem.get m)
  (e6 : ∀ m, H'.fam.get m = if m = f then some (H.nx :: l) else H.fam.get m) (hsort : ∀ y ∈ l, ∀ c e f z s, H.mem.get y = some (.row c e true f z s) → c.length ≤ cells.length) :
  ∀ f' l', H'.fam.get f' = some l' → Sorted H' l' := by
 have oldS : ∀ f' l', H.fam.get f' = some l' → Sorted H' l' := fun f' l' hl' => by
  refine (h.famSort f' l' hl').imp_of_mem ?_; intro x y hx hy hxy c e f1 z s c' e' f2 z' s' q q'; have hx' := (h.famMem f' l' x hl' hx).1; have hy' := (h.famMem f' l' y hl' hy).1; rw [e5, if_neg (by omega)] at q q'; exact hxy _ _ _ _ _ _ _ _ _ _ q q'
 intro f' l' hl'; rw [e6] at hl'; split at hl'
 ·
  injection hl' with hl'; subst hl'
  refine List.pairwise_cons.2 ⟨fun y hy c e f1 z s c' e' f2 z' s' q q' => ?_, (oldS f l0 hl).sublist hsub⟩; have hy' := (h.famMem f l0 y hl (hsub.mem hy)).1; rw [e5, if_pos rfl] at q; rw [e5, if_neg (by omega)] at q'; injection q with q; injection q with q; subst q
  exact hsort y hy _ _ _ _ _ q'
 ·
  exact oldS f' l' hl'
theorem HRel.pushNew (h : HRel P B w0 μ H w) {f : Nat} {l l0 : List Nat} {cells : List Value} {elem : TypeId} {fz : Nat} {sh : Bool} {o : Obj} {L : Loc} (hl : H.fam.get f = some l0) (hsub : l.Sublist l0) (hrem : ∀ x, x ∈ l0 → x ∉ l → H.mem.get x = some .dead) (hf : f < H.nf)
  (e1 : H'.nx = H.nx + 1) (e2 : H'.nf = H.nf) (e4 : H'.glo = H.glo) (e5 : ∀ m, H'.mem.get m = if m = H.nx then some (.row cells elem true f fz sh) else H.mem.get m)
  (e6 : ∀ m, H'.fam.get m = if m = f then some (H.nx :: l) else H.fam.get m) (hsort : ∀ y ∈ l, ∀ c e f z s, H.mem.get y = some (.row c e true f z s) → c.length ≤ cells.length)
  (hr : L.r = w.heap.size) (hb : BRel P (μ.put H.nx L) L (.row cells elem true f fz sh) o) :
  HRel P B w0 (μ.put H.nx L) H' (w.alloc o) ∧ Step μ (μ.put H.nx L) H H' := by
 have hext := h.ext_put L; have old : ∀ x L', (μ.put H.nx L) x = some L' → x ≠ H.nx → μ x = some L' := fun x L' a b => by rwa [Mp.put_other _ _ b] at a
 have hlt : ∀ x L', μ x = some L' → L'.r < w.heap.size := fun x L' hx => by
  obtain ⟨b', o', _, ho, _⟩ := h.blk x L' hx; rcases Nat.lt_or_ge L'.r w.heap.size with hh | hh
  ·
   exact hh
  ·
   rw [Array.getElem?_eq_none hh] at ho; cases ho
 refine ⟨⟨h.below.alloc h.bsz o, ?_, ?_, ?_, ?_, ?_, ?_, ?_, ?_, ?_, ?_, ?_⟩, ⟨hext, by omega, e4, ?_⟩⟩
 ·
  intro k hk; have := h.bsz k hk; show k < (w.heap.push o).size; rw [Array.size_push]; omega
 ·
  intro x L' hx; by_cases hxn : x = H.nx
  ·
   subst hxn; rw [Mp.put_self] at hx; injection hx with hx; subst hx
   exact ⟨_, o, by rw [e5]; simp, by rw [heap_alloc_get, hr]; simp, hb⟩
  ·
   have hx' := old x L' hx hxn; obtain ⟨b', o', h1, h2, h3⟩ := h.blk x L' hx'; exact ⟨b', o', by rw [e5, if_neg hxn]; exact h1, by rw [heap_alloc_get, if_neg (by have := hlt x L' hx'; omega)]; exact h2, h3.mono hext⟩
 ·
  intro x y L1 L2 hxy hx hy hrr; by_cases hxn : x = H.nx
  ·
   subst hxn; rw [Mp.put_self] at hx; injection hx with hx; subst hx
   have := hlt y L2 (old y L2 hy (Ne.symm hxy)); omega
  ·
   by_cases hyn : y = H.nx
   ·
    subst hyn; rw [Mp.put_self] at hy; injection hy with hy; subst hy
    have := hlt x L1 (old x L1 hx hxn); omega
   ·
    rcases h.sep x y L1 L2 hxy (old x L1 hx hxn) (old y L2 hy hyn) hrr with d | d | ⟨f', l', ⟨c, e, z, s, q⟩, ⟨c', e', z', s', q'⟩, hl', m1, m2⟩
    ·
     exact .inl (by rw [e5, if_neg hxn]; exact d)
    ·
     exact .inr (.inl (by rw [e5, if_neg hyn]; exact d))
    ·
     by_cases hff : f' = f
     ·
      subst hff; rw [hl] at hl'; injection hl' with hl'; subst hl'
      by_cases hx0 : x ∈ l
      ·
       by_cases hy0 : y ∈ l
       ·
        exact .inr (.inr ⟨f', H.nx :: l, ⟨c, e, z, s, by rw [e5, if_neg hxn]; exact q⟩, ⟨c', e', z', s', by rw [e5, if_neg hyn]; exact q'⟩, by rw [e6]; simp, by simp [hx0], by simp [hy0]⟩)
       ·
        exact .inr (.inl (by rw [e5, if_neg hyn]; exact hrem y m2 hy0))
      ·
       exact .inl (by rw [e5, if_neg hxn]; exact hrem x m1 hx0)
     ·
      exact .inr (.inr ⟨f', l', ⟨c, e, z, s, by rw [e5, if_neg hxn]; exact q⟩, ⟨c', e', z', s', by rw [e5, if_neg hyn]; exact q'⟩, by rw [e6, if_neg hff]; exact hl', m1, m2⟩)
 ·
  intro x L' hx; by_cases hxn : x = H.nx
  ·
   omega
  ·
   have := h.lt x L' (old x L' hx hxn); omega
 ·
  intro x L' hx hg; rw [e4] at hg; have hxn : x ≠ H.nx := by have := h.glt; omega
  exact h.own x L' (old x L' hx hxn) hg
 ·
  intro x L' hx hg hnd; rw [e4] at hg; by_cases hxn : x = H.nx
  ·
   subst hxn; rw [Mp.put_self] at hx; injection hx with hx; subst hx
   rw [hr]; exact fun q => Nat.lt_irrefl _ (h.bsz _ q)
  ·
   exact h.new x L' (old x L' hx hxn) hg (by rw [e5, if_neg hxn] at hnd; exact hnd)
 ·
  intro g c e o f z s hg hm; rw [e4] at hg; have hgn : g ≠ H.nx := by have := h.glt; omega
  rw [e5, if_neg hgn] at hm; obtain ⟨L', hL⟩ := h.glob g c e o f z s hg hm; exact ⟨L', hext _ _ hL⟩
 ·
  rw [e4, e1]; have := h.glt; omega
 ·
  intro x c e f' z s hm; rw [e5] at hm; split at hm
  ·
   injection hm with hm; injection hm with _ _ _ hm; omega
  ·
   have := h.famLt x c e f' z s hm; omega
 ·
  intro f' l' x hl' hx; rw [e6] at hl'; split at hl'
  ·
   injection hl' with hl'; subst hl'
   simp at hx; rcases hx with hx | hx
   ·
    subst hx; exact ⟨by omega, .inl (by rw [e5]; simp [isOpen])⟩
   ·
    obtain ⟨a, d⟩ := h.famMem f l0 x hl (hsub.mem hx); exact ⟨by omega, by rw [e5, if_neg (by omega)]; exact d⟩
  ·
   obtain ⟨a, d⟩ := h.famMem f' l' x hl' hx; exact ⟨by omega, by rw [e5, if_neg (by omega)]; exact d⟩
 ·
  exact sorted_push h hl hsub e5 e6 hsort
 ·
  intro x hx hn0; have hxn : x ≠ H.nx := by omega
  exact ⟨by rw [Mp.put_other _ _ hxn]; exact hn0, fun _ => by rw [e5, if_neg hxn]⟩
theorem HRel.pushSame (h : HRel P B w0 μ H w) {f id : Nat} {l l0 : List Nat} {cells : List Value} {elem : TypeId} {fz : Nat} {sh : Bool} {o o' : Obj} {L : Loc} (hl : H.fam.get f = some l0) (hsub : l.Sublist l0) (hrem : ∀ x, x ∈ l0 → x ∉ l → H.mem.get x = some .dead) (hf : f < H.nf) (hL : μ id = some L) (hg : H.glo ≤ id) (hBr : ¬ B L.r)
  (e1 : H'.nx = H.nx + 1) (e2 : H'.nf = H.nf) (e4 : H'.glo = H.glo) (e5 : ∀ m, H'.mem.get m = if m = H.nx then some (.row cells elem true f fz sh) else H.mem.get m)
  (e6 : ∀ m, H'.fam.get m = if m = f then some (H.nx :: l) else H.fam.get m) (hsort : ∀ y ∈ l, ∀ c e f z s, H.mem.get y = some (.row c e true f z s) → c.length ≤ cells.length)
  (hmem : ∀ y L', μ y = some L' → L'.r = L.r → H.mem.get y = some .dead ∨ (inFam H y f ∧ y ∈ l ∧ ∃ b, H.mem.get y = some b ∧ BRel P μ L' b o'))
  (hb : BRel P μ L (.row cells elem true f fz sh) o') :
  HRel P B w0 (μ.put H.nx L) H' { w with heap := w.heap.setIfInBounds L.r o' } ∧ Step μ (μ.put H.nx L) H H' := by
 have _ := o; have hext := h.ext_put L; have old : ∀ x L', (μ.put H.nx L) x = some L' → x ≠ H.nx → μ x = some L' := fun x L' a b => by rwa [Mp.put_other _ _ b] at a
 have hLr : L.r < w.heap.size := by
  obtain ⟨b, o, _, ho, _⟩ := h.blk id L hL; rcases Nat.lt_or_ge L.r w.heap.size with hh | hh
  ·
   exact hh
  ·
   rw [Array.getElem?_eq_none hh] at ho; cases ho
 have hget : ∀ r, ({ w with heap := w.heap.setIfInBounds L.r o' } : World).heap[r]? = if r = L.r then some o' else w.heap[r]? := fun r => by
  show (w.heap.setIfInBounds L.r o')[r]? = _; rw [Array.getElem?_setIfInBounds]; by_cases hr : L.r = r
  ·
   subst hr; simp [hLr]
  ·
   rw [if_neg hr, if_neg (Ne.symm hr)]
 have hnew : inFam H' H.nx f := ⟨cells, elem, fz, sh, by rw [e5]; simp⟩; have hflist : H'.fam.get f = some (H.nx :: l) := by rw [e6]; simp
 have side : ∀ y L2, y ≠ H.nx → μ y = some L2 → L2.r = L.r → Apart H' H.nx y := fun y L2 hyn hy hrr => by
  rcases hmem y L2 hy hrr with d | ⟨⟨c, e, z, s, q⟩, m, _⟩
  ·
   exact .inr (.inl (by rw [e5, if_neg hyn]; exact d))
  ·
   exact .inr (.inr ⟨f, _, hnew, ⟨c, e, z, s, by rw [e5, if_neg hyn]; exact q⟩, hflist, by simp, by simp [m]⟩)
 refine ⟨⟨⟨h.below.os, h.below.tape, h.below.output, ?_, ?_⟩, ?_, ?_, ?_, ?_, ?_, ?_, ?_, ?_, ?_, ?_, ?_⟩, ⟨hext, by omega, e4, ?_⟩⟩
 ·
  show w0.heap.size ≤ (w.heap.setIfInBounds L.r o').size; rw [Array.size_setIfInBounds]; exact h.below.size
 ·
  intro k hk; rw [hget, if_neg (fun e => by subst e; exact hBr hk)]; exact h.below.block k hk
 ·
  intro k hk; show k < (w.heap.setIfInBounds L.r o').size; rw [Array.size_setIfInBounds]; exact h.bsz k hk
 ·
  intro x L' hx; by_cases hxn : x = H.nx
  ·
   subst hxn; rw [Mp.put_self] at hx; injection hx with hx; subst hx
   exact ⟨_, o', by rw [e5]; simp, by rw [hget]; simp, hb.mono hext⟩
  ·
   have hx' := old x L' hx hxn; by_cases hr : L'.r = L.r
   ·
    rcases hmem x L' hx' hr with d | ⟨_, _, b, q1, q2⟩
    ·
     exact ⟨.dead, o', by rw [e5, if_neg hxn]; exact d, by rw [hget, if_pos hr], by cases o' <;> simp [BRel]⟩
    ·
     exact ⟨b, o', by rw [e5, if_neg hxn]; exact q1, by rw [hget, if_pos hr], q2.mono hext⟩
   ·
    obtain ⟨b', o1, h1, h2, h3⟩ := h.blk x L' hx'; exact ⟨b', o1, by rw [e5, if_neg hxn]; exact h1, by rw [hget, if_neg hr]; exact h2, h3.mono hext⟩
 ·
  intro x y L1 L2 hxy hx hy hrr; by_cases hxn : x = H.nx
  ·
   subst hxn; rw [Mp.put_self] at hx; injection hx with hx; subst hx
   exact side y L2 (Ne.symm hxy) (old y L2 hy (Ne.symm hxy)) hrr.symm
  ·
   by_cases hyn : y = H.nx
   ·
    subst hyn; rw [Mp.put_self] at hy; injection hy with hy; subst hy
    rcases side x L1 hxn (old x L1 hx hxn) hrr with d | d | ⟨f', l', q, q', hl', m1, m2⟩
    ·
     exact .inr (.inl d)
    ·
     exact .inl d
    ·
     exact .inr (.inr ⟨f', l', q', q, hl', m2, m1⟩)
   ·
    rcases h.sep x y L1 L2 hxy (old x L1 hx hxn) (old y L2 hy hyn) hrr with d | d | ⟨f', l', ⟨c, e, z, s, q⟩, ⟨c', e', z', s', q'⟩, hl', m1, m2⟩
    ·
     exact .inl (by rw [e5, if_neg hxn]; exact d)
    ·
     exact .inr (.inl (by rw [e5, if_neg hyn]; exact d))
    ·
     by_cases hff : f' = f
     ·
      subst hff; rw [hl] at hl'; injection hl' with hl'; subst hl'
      by_cases hx0 : x ∈ l
      ·
       by_cases hy0 : y ∈ l
       ·
        exact .inr (.inr ⟨f', H.nx :: l, ⟨c, e, z, s, by rw [e5, if_neg hxn]; exact q⟩, ⟨c', e', z', s', by rw [e5, if_neg hyn]; exact q'⟩, by rw [e6]; simp, by simp [hx0], by simp [hy0]⟩)
       ·
        exact .inr (.inl (by rw [e5, if_neg hyn]; exact hrem y m2 hy0))
      ·
       exact .inl (by rw [e5, if_neg hxn]; exact hrem x m1 hx0)
     ·
      exact .inr (.inr ⟨f', l', ⟨c, e, z, s, by rw [e5, if_neg hxn]; exact q⟩, ⟨c', e', z', s', by rw [e5, if_neg hyn]; exact q'⟩, by rw [e6, if_neg hff]; exact hl', m1, m2⟩)
 ·
  intro x L' hx; by_cases hxn : x = H.nx
  ·
   omega
  ·
   have := h.lt x L' (old x L' hx hxn); omega
 ·
  intro x L' hx hg; rw [e4] at hg; have hxn : x ≠ H.nx := by have := h.glt; omega
  exact h.own x L' (old x L' hx hxn) hg
 ·
  intro x L' hx hg hnd; rw [e4] at hg; by_cases hxn : x = H.nx
  ·
   subst hxn; rw [Mp.put_self] at hx; injection hx with hx; subst hx
   exact hBr
  ·
   exact h.new x L' (old x L' hx hxn) hg (by rw [e5, if_neg hxn] at hnd; exact hnd)
 ·
  intro g c e o f z s hg hm; rw [e4] at hg; have hgn : g ≠ H.nx := by have := h.glt; omega
  rw [e5, if_neg hgn] at hm; obtain ⟨L', hL⟩ := h.glob g c e o f z s hg hm; exact ⟨L', hext _ _ hL⟩
 ·
  rw [e4, e1]; have := h.glt; omega
 ·
  intro x c e f' z s hm; rw [e5] at hm; split at hm
  ·
   injection hm with hm; injection hm with _ _ _ hm; omega
  ·
   have := h.famLt x c e f' z s hm; omega
 ·
  intro f' l' x hl' hx; rw [e6] at hl'; split at hl'
  ·
   injection hl' with hl'; subst hl'
   simp at hx; rcases hx with hx | hx
   ·
    subst hx; exact ⟨by omega, .inl (by rw [e5]; simp [isOpen])⟩
   ·
    obtain ⟨a, d⟩ := h.famMem f l0 x hl (hsub.mem hx); exact ⟨by omega, by rw [e5, if_neg (by omega)]; exact d⟩
  ·
   obtain ⟨a, d⟩ := h.famMem f' l' x hl' hx; exact ⟨by omega, by rw [e5, if_neg (by omega)]; exact d⟩
 ·
  exact sorted_push h hl hsub e5 e6 hsort
 ·
  intro x hx hn0; have hxn : x ≠ H.nx := by omega
  exact ⟨by rw [Mp.put_other _ _ hxn]; exact hn0, fun _ => by rw [e5, if_neg hxn]⟩
theorem killAll_eq {me : Nat} : ∀ {l : List Nat} {H H' : Hp}, killAll H me l = some H' → H'.nx = H.nx ∧ H'.fam = H.fam ∧ H'.nf = H.nf ∧ H'.glo = H.glo ∧
  (∀ x, x ∈ l → x ≠ me → H'.mem.get x = some .dead) ∧ (∀ x, x ∉ l ∨ x = me → H'.mem.get x = H.mem.get x) := by
 intro l; induction l with
 | nil => intro H H' h; simp [killAll] at h; subst h; exact ⟨rfl, rfl, rfl, rfl, fun x hx => by simp at hx, fun x _ => rfl⟩
 | cons y l ih =>
  intro H H' h; simp only [killAll] at h; cases hy : Nat.beq y me with
  | true =>
   rw [hy] at h; have hym := Nat.eq_of_beq_eq_true hy; obtain ⟨a1, a2, a3, a4, a5, a6⟩ := ih (by simpa using h); refine ⟨a1, a2, a3, a4, fun x hx hne => ?_, fun x hx => ?_⟩
   ·
    simp at hx; rcases hx with rfl | hx
    ·
     exact absurd hym hne
    ·
     exact a5 x hx hne
   ·
    refine a6 x ?_; rcases hx with hx | hx
    ·
     left; simp at hx; exact hx.2
    ·
     right; exact hx
  | false =>
   rw [hy] at h; have hym : y ≠ me := fun e => by subst e; simp at hy
   simp only [cond_false] at h; cases hu : H.upd y .dead with
   | none => rw [hu] at h; cases h
   | some H1 =>
    rw [hu] at h; obtain ⟨b1, b2, b3, b4, b5⟩ := Hp.upd_eq hu; obtain ⟨a1, a2, a3, a4, a5, a6⟩ := ih h; refine ⟨by omega, by rw [a2, b2], by omega, by omega, fun x hx hne => ?_, fun x hx => ?_⟩
    ·
     by_cases hxl : x ∈ l
     ·
      exact a5 x hxl hne
     ·
      have hxy : x = y := by simp at hx; rcases hx with q | q; exact q; exact absurd q hxl
      rw [a6 x (.inl hxl), b5, if_pos hxy]
    ·
     have hxy : x ≠ y := by
      rcases hx with q | q
      ·
       simp at q; exact q.1
      ·
       rw [q]; exact Ne.symm hym
     have : x ∉ l ∨ x = me := by
      rcases hx with q | q
      ·
       left; simp at q; exact q.2
      ·
       right; exact q
     rw [a6 x this, b5, if_neg hxy]
theorem cutFam_eq {id : Nat} : ∀ {l l' : List Nat} {H H' : Hp}, cutFam H id l = some (l', H') → H'.nx = H.nx ∧ H'.fam = H.fam ∧ H'.nf = H.nf ∧ H'.glo = H.glo ∧ l'.Sublist l ∧ id ∈ l' ∧ H'.mem.get id = H.mem.get id ∧
  (∀ x, x ∈ l → x ∉ l' → H'.mem.get x = some .dead) ∧ (∀ x, H'.mem.get x = H.mem.get x ∨ (H'.mem.get x = some .dead ∧ x ∈ l)) ∧ (∃ pre, l = pre ++ l' ∧ l' = id :: l'.tail) := by
 intro l; induction l with
 | nil => intro l' H H' h; simp [cutFam] at h
 | cons y l ih =>
  intro l' H H' h; simp only [cutFam] at h; cases hy : Nat.beq y id with
  | true =>
   rw [hy, cond_true] at h; simp only [Option.some.injEq, Prod.mk.injEq] at h; obtain ⟨rfl, rfl⟩ := h; have := Nat.eq_of_beq_eq_true hy; subst this; exact ⟨rfl, rfl, rfl, rfl, List.Sublist.refl _, by simp, rfl, fun x a b => absurd a b, fun x => .inl rfl, [], rfl, rfl⟩
  | false =>
   rw [hy, cond_false] at h; have hym : y ≠ id := fun e => by subst e; simp at hy
   cases hu : H.upd y .dead with
   | none => rw [hu] at h; cases h
   | some H1 =>
    rw [hu] at h; obtain ⟨b1, b2, b3, b4, b5⟩ := Hp.upd_eq hu; obtain ⟨a1, a2, a3, a4, a5, a6, a7, a8, a9, pre, a10, a11⟩ := ih h; refine ⟨by omega, by rw [a2, b2], by omega, by omega, a5.cons _, a6, by rw [a7, b5, if_neg (Ne.symm hym)], fun x hx hxl => ?_, fun x => ?_, y :: pre, by rw [a10]; rfl, a11⟩
    ·
     by_cases hx' : x ∈ l
     ·
      exact a8 x hx' hxl
     ·
      have hxy : x = y := by simp at hx; rcases hx with q | q; exact q; exact absurd q hx'
      rcases a9 x with q | q
      ·
       rw [q, b5, if_pos hxy]
      ·
       exact q.1
    ·
     rcases a9 x with q | q
     ·
      rw [b5] at q; split at q
      ·
       rename_i hxy; exact .inr ⟨q, by simp [hxy]⟩
      ·
       exact .inl q
     ·
      exact .inr ⟨q.1, by simp [q.2]⟩
end
end Go.Cre

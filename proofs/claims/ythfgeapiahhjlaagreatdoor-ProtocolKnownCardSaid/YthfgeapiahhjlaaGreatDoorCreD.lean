/- A part of a verified evaluator of closed calls: see YthfgeapiahhjlaaGreatDoorCreZ. -/
import Derived.Test.YthfgeapiahhjlaaGreatDoorCreC
import Derived.Below
set_option linter.unusedVariables false
set_option linter.unusedSimpArgs false
namespace Go.Cre
open Go.RowKit

/-! ### The trees -/
theorem Tr.get_leaf {α : Type} (n : Nat) : (Tr.leaf : Tr α).get n = none := rfl
theorem Tr.get_zero {α : Type} (v : Option α) (l r : Tr α) : (Tr.node v l r).get 0 = v := rfl
theorem Tr.get_succ {α : Type} (v : Option α) (l r : Tr α) (m : Nat) : (Tr.node v l r).get (m + 1) = if m % 2 = 0 then l.get (m / 2) else r.get (m / 2) := by
  show Bool.rec (motive := fun _ => Option α) (r.get (m / 2)) (l.get (m / 2)) (Nat.beq (m % 2) 0) = _
  by_cases h : m % 2 = 0
  · rw [if_pos h]; simp [h]
  · rw [if_neg h]
    have : Nat.beq (m % 2) 0 = false := by
      cases hb : Nat.beq (m % 2) 0
      · rfl
      · exact absurd (Nat.eq_of_beq_eq_true hb) h
    rw [this]

theorem Tr.put_leaf_zero {α : Type} (a : α) : Tr.put a .leaf 0 = some (.node (some a) .leaf .leaf) := rfl
theorem Tr.put_leaf_succ {α : Type} (a : α) (m : Nat) : Tr.put a .leaf (m + 1) = none := rfl
theorem Tr.put_zero {α : Type} (a : α) (v : Option α) (l r : Tr α) : Tr.put a (.node v l r) 0 = some (.node (some a) l r) := rfl
theorem Tr.put_succ {α : Type} (a : α) (v : Option α) (l r : Tr α) (m : Nat) :
    Tr.put a (.node v l r) (m + 1) = if m % 2 = 0 then Tr.left v r (Tr.put a l (m / 2)) else Tr.right v l (Tr.put a r (m / 2)) := by
  show Bool.rec (motive := fun _ => Option (Tr α)) (Tr.right v l (Tr.put a r (m / 2))) (Tr.left v r (Tr.put a l (m / 2))) (Nat.beq (m % 2) 0) = _
  by_cases h : m % 2 = 0
  · rw [if_pos h]; simp [h]
  · rw [if_neg h]
    have : Nat.beq (m % 2) 0 = false := by
      cases hb : Nat.beq (m % 2) 0
      · rfl
      · exact absurd (Nat.eq_of_beq_eq_true hb) h
    rw [this]

theorem Tr.get_put {α : Type} {a : α} {t t' : Tr α} {n : Nat} (h : Tr.put a t n = some t') (m : Nat) : t'.get m = if m = n then some a else t.get m := by
  induction t generalizing t' n m with
  | leaf =>
    cases n with
    | zero =>
      rw [Tr.put_leaf_zero] at h; injection h with h; subst h
      cases m with
      | zero => simp [Tr.get_zero]
      | succ m => rw [Tr.get_succ]; simp [Tr.get_leaf]
    | succ n => rw [Tr.put_leaf_succ] at h; cases h
  | node v l r ihl ihr =>
    cases n with
    | zero =>
      rw [Tr.put_zero] at h; injection h with h; subst h
      cases m with
      | zero => simp [Tr.get_zero]
      | succ m => rw [Tr.get_succ, Tr.get_succ]; simp
    | succ n =>
      rw [Tr.put_succ] at h
      by_cases hn : n % 2 = 0
      · rw [if_pos hn] at h
        cases hl : Tr.put a l (n / 2) with
        | none => rw [hl] at h; cases h
        | some l' =>
          rw [hl] at h; injection h with h; subst h
          cases m with
          | zero => simp [Tr.get_zero]
          | succ m =>
            rw [Tr.get_succ, Tr.get_succ, ihl hl]
            by_cases hm : m % 2 = 0
            · rw [if_pos hm, if_pos hm]
              have : (m / 2 = n / 2) ↔ (m + 1 = n + 1) := by omega
              simp [this]
            · rw [if_neg hm, if_neg hm]
              have : ¬ (m + 1 = n + 1) := by omega
              rw [if_neg this]
      · rw [if_neg hn] at h
        cases hr : Tr.put a r (n / 2) with
        | none => rw [hr] at h; cases h
        | some r' =>
          rw [hr] at h; injection h with h; subst h
          cases m with
          | zero => simp [Tr.get_zero]
          | succ m =>
            rw [Tr.get_succ, Tr.get_succ, ihr hr]
            by_cases hm : m % 2 = 0
            · rw [if_pos hm, if_pos hm]
              have : ¬ (m + 1 = n + 1) := by omega
              rw [if_neg this]
            · rw [if_neg hm, if_neg hm]
              have : (m / 2 = n / 2) ↔ (m + 1 = n + 1) := by omega
              simp [this]

theorem Tr.get_set {α : Type} {a : α} {t t' : Tr α} {d n : Nat} (h : Tr.set d t n a = some t') (m : Nat) : t'.get m = if m = n then some a else t.get m := Tr.get_put h m

theorem nth_eq {α : Type} (l : List α) (n : Nat) : nth l n = l[n]? := by
  induction l generalizing n with
  | nil => rfl
  | cons a l ih => cases n with
    | zero => rfl
    | succ n => exact ih n

theorem dropN_eq {α : Type} (n : Nat) (l : List α) : dropN n l = l.drop n := by
  induction l generalizing n with
  | nil => simp [dropN]
  | cons a l ih => cases n with
    | zero => rfl
    | succ n => exact ih n

theorem takeN_eq {α : Type} {n : Nat} {l r : List α} (h : takeN n l = some r) : r = l.take n ∧ r.length = n ∧ n ≤ l.length := by
  induction n generalizing l r with
  | zero => simp [takeN] at h; subst h; simp
  | succ n ih =>
    cases l with
    | nil => simp [takeN] at h
    | cons a l =>
      simp only [takeN] at h
      cases ht : takeN n l with
      | none => rw [ht] at h; cases h
      | some r' =>
        rw [ht] at h; injection h with h; subst h
        obtain ⟨e1, e2, e3⟩ := ih ht
        refine ⟨by rw [e1, List.take_succ_cons], by simp [e2], by simp; omega⟩

/-- 'splice' writes vs from place n on. -/
theorem splice_spec {α : Type} {n : Nat} {l vs r : List α} (h : splice n l vs = some r) :
    r.length = l.length ∧ n + vs.length ≤ l.length ∧ ∀ i, r[i]? = if n ≤ i ∧ i < n + vs.length then vs[i - n]? else l[i]? := by
  induction n generalizing l r with
  | zero =>
    induction vs generalizing l r with
    | nil => simp [splice] at h; subst h; exact ⟨rfl, by simp, fun i => by simp⟩
    | cons v vs ih =>
      cases l with
      | nil => simp [splice] at h
      | cons a l =>
        simp only [splice] at h
        cases hs : splice 0 l vs with
        | none => rw [hs] at h; cases h
        | some r' =>
          rw [hs] at h; injection h with h; subst h
          obtain ⟨e1, e2, e3⟩ := ih hs
          refine ⟨by simp [e1], by simp at *; omega, fun i => ?_⟩
          cases i with
          | zero => simp
          | succ i =>
            have := e3 i
            simp only [List.getElem?_cons_succ, this]
            simp
  | succ n ih =>
    cases l with
    | nil => simp [splice] at h
    | cons a l =>
      simp only [splice] at h
      cases hs : splice n l vs with
      | none => rw [hs] at h; cases h
      | some r' =>
        rw [hs] at h; injection h with h; subst h
        obtain ⟨e1, e2, e3⟩ := ih hs
        refine ⟨by simp [e1], by simp; omega, fun i => ?_⟩
        cases i with
        | zero => simp
        | succ i =>
          have := e3 i
          simp only [List.getElem?_cons_succ, this]
          have hc : (n + 1 ≤ i + 1 ∧ i + 1 < n + 1 + vs.length) ↔ (n ≤ i ∧ i < n + vs.length) := by omega
          simp only [hc]
          split
          · rw [show i + 1 - (n + 1) = i - n from by omega]
          · rfl

/-! ### Values -/
structure Loc where
  r : Nat
  N : Nat
  sz : Nat

abbrev Mp := Nat → Option Loc

def isAtom : Value → Bool
  | .bool _ | .int _ _ | .float _ _ | .string _ | .nilFunc | .nilIface | .pointer none | .slice none _ _ | .map none => true
  | _ => false

inductive VRel (μ : Mp) : Value → Value → Prop
  | atom (v : Value) : isAtom v = true → VRel μ v v
  | ptr (id off : Nat) (L : Loc) : μ id = some L → VRel μ (.pointer (some ⟨id, off, none⟩)) (.pointer (some ⟨L.r, off, none⟩))
  | sliceE (id off len cap : Nat) (L : Loc) : μ id = some L → cap < openCap → VRel μ (.slice (some ⟨id, off, none⟩) len cap) (.slice (some ⟨L.r, off, none⟩) len cap)
  | sliceO (id off len cap : Nat) (L : Loc) : μ id = some L → len ≤ cap → off + cap * L.sz ≤ L.N → VRel μ (.slice (some ⟨id, off, none⟩) len openCap) (.slice (some ⟨L.r, off, none⟩) len cap)
  | sliceZ (id off off' : Nat) (L : Loc) : μ id = some L → VRel μ (.slice (some ⟨id, off, none⟩) 0 openCap) (.slice (some ⟨L.r, off', none⟩) 0 0)
  | map (id : Nat) (L : Loc) : μ id = some L → VRel μ (.map (some id)) (.map (some L.r))
  | func (fn : Fn) (a b a' b' : Array Value) : notYield fn = true → a.size = a'.size → b.size = b'.size →
      (∀ (i : Nat) v v', a[i]? = some v → a'[i]? = some v' → VRel μ v v') → (∀ (i : Nat) v v', b[i]? = some v → b'[i]? = some v' → VRel μ v v') → VRel μ (.func fn a b) (.func fn a' b')
  | yield (l : Nat) (L : Loc) : μ l = some L → VRel μ (.func (.yield l) #[] #[]) (.func (.yield L.r) #[] #[])
  | iface (t : TypeId) (v v' : Value) : VRel μ v v' → VRel μ (.iface t v) (.iface t v')
  | agg (a a' : Array Value) : a.size = a'.size → (∀ (i : Nat) v v', a[i]? = some v → a'[i]? = some v' → VRel μ v v') → VRel μ (.agg a) (.agg a')
  | tuple (a a' : Array Value) : a.size = a'.size → (∀ (i : Nat) v v', a[i]? = some v → a'[i]? = some v' → VRel μ v v') → VRel μ (.tuple a) (.tuple a')

def LRel (μ : Mp) (l l' : List Value) : Prop := l.length = l'.length ∧ ∀ (i : Nat) v v', l[i]? = some v → l'[i]? = some v' → VRel μ v v'

def Ext (μ μ' : Mp) : Prop := ∀ id L, μ id = some L → μ' id = some L
theorem Ext.refl (μ : Mp) : Ext μ μ := fun _ _ h => h
theorem Ext.trans {a b c : Mp} (h : Ext a b) (k : Ext b c) : Ext a c := fun id L x => k id L (h id L x)

theorem VRel.mono {μ μ' : Mp} {v v' : Value} (h : VRel μ v v') (e : Ext μ μ') : VRel μ' v v' := by
  induction h with
  | atom v h => exact .atom v h
  | ptr id off L h => exact .ptr id off L (e _ _ h)
  | sliceE id off len cap L h hc => exact .sliceE id off len cap L (e _ _ h) hc
  | sliceO id off len cap L h hc hn => exact .sliceO id off len cap L (e _ _ h) hc hn
  | sliceZ id off off' L h => exact .sliceZ id off off' L (e _ _ h)
  | map id L h => exact .map id L (e _ _ h)
  | func fn a b a' b' hy ha hb _ _ iha ihb => exact .func fn a b a' b' hy ha hb iha ihb
  | yield l L h => exact .yield l L (e _ _ h)
  | iface t v v' _ ih => exact .iface t v v' ih
  | agg a a' hs _ ih => exact .agg a a' hs ih
  | tuple a a' hs _ ih => exact .tuple a a' hs ih

theorem LRel.mono {μ μ' : Mp} {l l' : List Value} (h : LRel μ l l') (e : Ext μ μ') : LRel μ' l l' := ⟨h.1, fun i v v' a b => (h.2 i v v' a b).mono e⟩

theorem LRel.nil (μ : Mp) : LRel μ [] [] := ⟨rfl, fun i v v' h => by simp at h⟩
theorem LRel.cons {μ : Mp} {v v' : Value} {l l' : List Value} (h : VRel μ v v') (t : LRel μ l l') : LRel μ (v :: l) (v' :: l') := by
  refine ⟨by simp [t.1], fun i a b ha hb => ?_⟩
  cases i with
  | zero => simp at ha hb; subst ha; subst hb; exact h
  | succ i => simp at ha hb; exact t.2 i a b ha hb
theorem LRel.inv_cons {μ : Mp} {v : Value} {l m : List Value} (h : LRel μ (v :: l) m) : ∃ v' l', m = v' :: l' ∧ VRel μ v v' ∧ LRel μ l l' := by
  cases m with
  | nil => have := h.1; simp at this
  | cons v' l' =>
    refine ⟨v', l', rfl, h.2 0 v v' rfl rfl, by have := h.1; simpa using this, fun i a b ha hb => h.2 (i + 1) a b (by simpa using ha) (by simpa using hb)⟩
theorem LRel.inv_nil {μ : Mp} {m : List Value} (h : LRel μ [] m) : m = [] := by
  have := h.1
  exact List.length_eq_zero_iff.1 (by simpa using this.symm)
theorem LRel.append {μ : Mp} {l l' m m' : List Value} (h : LRel μ l l') (k : LRel μ m m') : LRel μ (l ++ m) (l' ++ m') := by
  refine ⟨by simp [h.1, k.1], fun i a b ha hb => ?_⟩
  rw [List.getElem?_append] at ha hb
  rw [← h.1] at hb
  split at ha
  · rename_i hi; rw [if_pos hi] at hb; exact h.2 i a b ha hb
  · rename_i hi; rw [if_neg hi] at hb; exact k.2 _ a b ha hb
theorem LRel.take {μ : Mp} {l l' : List Value} (h : LRel μ l l') (n : Nat) : LRel μ (l.take n) (l'.take n) := by
  refine ⟨by simp [h.1], fun i a b ha hb => ?_⟩
  rw [List.getElem?_take] at ha hb
  split at ha
  · rename_i hi; rw [if_pos hi] at hb; exact h.2 i a b ha hb
  · cases ha
theorem LRel.drop {μ : Mp} {l l' : List Value} (h : LRel μ l l') (n : Nat) : LRel μ (l.drop n) (l'.drop n) := by
  refine ⟨by simp [h.1], fun i a b ha hb => ?_⟩
  rw [List.getElem?_drop] at ha hb
  exact h.2 _ a b ha hb
theorem LRel.get {μ : Mp} {l l' : List Value} (h : LRel μ l l') {i : Nat} {v : Value} (hv : l[i]? = some v) : ∃ v', l'[i]? = some v' ∧ VRel μ v v' := by
  have hi : i < l.length := by
    rcases Nat.lt_or_ge i l.length with x | x
    · exact x
    · rw [List.getElem?_eq_none x] at hv; cases hv
  have hi' : i < l'.length := h.1 ▸ hi
  exact ⟨l'[i], List.getElem?_eq_getElem hi', h.2 i v _ hv (List.getElem?_eq_getElem hi')⟩

theorem VRel.agg' {μ : Mp} {l l' : List Value} (h : LRel μ l l') : VRel μ (.agg l.toArray) (.agg l'.toArray) :=
  .agg _ _ (by simp [h.1]) fun i v v' a b => h.2 i v v' (by simpa using a) (by simpa using b)
theorem VRel.tuple' {μ : Mp} {l l' : List Value} (h : LRel μ l l') : VRel μ (.tuple l.toArray) (.tuple l'.toArray) :=
  .tuple _ _ (by simp [h.1]) fun i v v' a b => h.2 i v v' (by simpa using a) (by simpa using b)
theorem VRel.agg_inv {μ : Mp} {a : Array Value} {v : Value} (h : VRel μ (.agg a) v) : ∃ a', v = .agg a' ∧ LRel μ a.toList a'.toList := by
  cases h with
  | atom _ h => simp [isAtom] at h
  | agg _ a' hs hr => exact ⟨a', rfl, by simpa using hs, fun i v v' x y => hr i v v' (by simpa using x) (by simpa using y)⟩
theorem VRel.tuple_inv {μ : Mp} {a : Array Value} {v : Value} (h : VRel μ (.tuple a) v) : ∃ a', v = .tuple a' ∧ LRel μ a.toList a'.toList := by
  cases h with
  | atom _ h => simp [isAtom] at h
  | tuple _ a' hs hr => exact ⟨a', rfl, by simpa using hs, fun i v v' x y => hr i v v' (by simpa using x) (by simpa using y)⟩

theorem VRel.undef (μ : Mp) : VRel μ undef undef := .tuple _ _ rfl fun i v v' h => by simp at h

/-- A plain value is related to itself, and to nothing else. -/
theorem VRel.of_plain {μ : Mp} : ∀ {n : Nat} {v : Value}, plainN n v = true → VRel μ v v := by
  intro n
  induction n with
  | zero => intro v h; simp [plainN] at h
  | succ n ih =>
    intro v h
    cases v with
    | bool b => exact .atom _ rfl
    | int k n => exact .atom _ rfl
    | float k b => exact .atom _ rfl
    | complex k a b => simp [plainN] at h
    | string s => exact .atom _ rfl
    | pointer a => cases a with
      | none => exact .atom _ rfl
      | some a => simp [plainN] at h
    | slice a l c => cases a with
      | none => exact .atom _ rfl
      | some a => simp [plainN] at h
    | map r => cases r with
      | none => exact .atom _ rfl
      | some a => simp [plainN] at h
    | chan r => simp [plainN] at h
    | func fn a b =>
      cases fn with
      | func f =>
        simp [plainN] at h
        obtain ⟨rfl, rfl⟩ := h
        exact .func _ _ _ _ _ rfl rfl rfl (fun i v v' h => by simp at h) (fun i v v' h => by simp at h)
      | _ => simp [plainN] at h
    | nilFunc => exact .atom _ rfl
    | iface t v => simp only [plainN] at h; exact .iface _ _ _ (ih h)
    | nilIface => exact .atom _ rfl
    | agg cs =>
      simp only [plainN, List.all_eq_true] at h
      exact .agg _ _ rfl fun i v v' a b => by
        rw [a] at b; injection b with b; subst b
        exact ih (h v (Array.mem_toList_iff.2 (Array.mem_of_getElem? a)))
    | tuple cs =>
      simp only [plainN, List.all_eq_true] at h
      exact .tuple _ _ rfl fun i v v' a b => by
        rw [a] at b; injection b with b; subst b
        exact ih (h v (Array.mem_toList_iff.2 (Array.mem_of_getElem? a)))

theorem array_ext_of {a b : Array Value} (hs : a.size = b.size) (h : ∀ (i : Nat) v v', a[i]? = some v → b[i]? = some v' → v' = v) : b = a := by
  apply Array.ext hs.symm
  intro i h1 h2
  exact h i a[i] b[i] (Array.getElem?_eq_getElem h2) (Array.getElem?_eq_getElem h1)

theorem VRel.plain_eq {μ : Mp} : ∀ {n : Nat} {v v' : Value}, plainN n v = true → VRel μ v v' → v' = v := by
  intro n
  induction n with
  | zero => intro v v' h; simp [plainN] at h
  | succ n ih =>
    intro v v' h hr
    cases hr with
    | atom _ _ => rfl
    | ptr => simp [plainN] at h
    | sliceE => simp [plainN] at h
    | sliceO => simp [plainN] at h
    | sliceZ => simp [plainN] at h
    | map => simp [plainN] at h
    | func fn a b a' b' hy ha hb hra hrb =>
      cases fn with
      | func f =>
        simp [plainN] at h
        obtain ⟨rfl, rfl⟩ := h
        have e1 : a' = #[] := Array.eq_empty_of_size_eq_zero (by simpa using ha.symm)
        have e2 : b' = #[] := Array.eq_empty_of_size_eq_zero (by simpa using hb.symm)
        rw [e1, e2]
      | _ => simp [plainN] at h
    | yield => simp [plainN] at h
    | iface t v v' hv => simp only [plainN] at h; rw [ih h hv]
    | agg a a' hs hv =>
      simp only [plainN, List.all_eq_true] at h
      rw [array_ext_of hs fun i v v' x y => ih (h v (Array.mem_toList_iff.2 (Array.mem_of_getElem? x))) (hv i v v' x y)]
    | tuple a a' hs hv =>
      simp only [plainN, List.all_eq_true] at h
      rw [array_ext_of hs fun i v v' x y => ih (h v (Array.mem_toList_iff.2 (Array.mem_of_getElem? x))) (hv i v v' x y)]

theorem VRel.cells {μ : Mp} {v v' : Value} (h : VRel μ v v') : LRel μ v.cells.toList v'.cells.toList := by
  cases h with
  | agg a a' hs hv => exact ⟨by simpa [Value.cells] using hs, fun i v v' x y => hv i v v' (by simpa [Value.cells] using x) (by simpa [Value.cells] using y)⟩
  | atom v h => cases v <;> first | (simp [isAtom] at h; done) | exact LRel.cons (.atom _ h) (LRel.nil _)
  | ptr id off L h => exact LRel.cons (.ptr id off L h) (LRel.nil _)
  | sliceE id off len cap L h hc => exact LRel.cons (.sliceE id off len cap L h hc) (LRel.nil _)
  | sliceO id off len cap L h hc hn => exact LRel.cons (.sliceO id off len cap L h hc hn) (LRel.nil _)
  | sliceZ id off off' L h => exact LRel.cons (.sliceZ id off off' L h) (LRel.nil _)
  | map id L h => exact LRel.cons (.map id L h) (LRel.nil _)
  | func fn a b a' b' hy ha hb hra hrb => exact LRel.cons (.func fn a b a' b' hy ha hb hra hrb) (LRel.nil _)
  | yield l L h => exact LRel.cons (.yield l L h) (LRel.nil _)
  | iface t v v' hv => exact LRel.cons (.iface t v v' hv) (LRel.nil _)
  | tuple a a' hs hv => exact LRel.cons (.tuple a a' hs hv) (LRel.nil _)

theorem VRel.oneCell {μ : Mp} {v v' : Value} (h : VRel μ v v') : oneCell v' = oneCell v := by
  cases h <;> rfl

end Go.Cre

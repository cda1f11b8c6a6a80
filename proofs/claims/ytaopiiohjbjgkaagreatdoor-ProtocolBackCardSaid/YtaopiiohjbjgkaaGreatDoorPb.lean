/- A part of the proof of ProtocolBack. -/
import Derived.Test.YtaopiiohjbjgkaaGreatDoorWm
set_option linter.unusedVariables false
set_option linter.unusedSimpArgs false
namespace Go.Opn
open Go
/-- what is read of a line so far: its kind, name, numbers, the number of its form, whether the name stood -/
structure Rs where
  k : Int
  tx : List UInt8
  N : List Int
  fk : Int
  nm : Bool
def kindS (w : List UInt8) : Int := if w = wordF 1 then 1 else if w = wordF 2 then 2 else if w = wordF 3 then 3 else if w = wordF 4 then 4 else if w = wordF 5 then 5 else if w = wordF 6 then 6 else if w = wordF 7 then 7 else if w = wordF 8 then 8 else if w = wordF 9 then 9 else if w = wordF 10 then 10 else if w = wordF 11 then 11 else 0
theorem kindS_word {k : Int} (h : ¬ (k < 1 ∨ 11 < k)) : kindS (wordF k) = k := by
  have : k = 1 ∨ k = 2 ∨ k = 3 ∨ k = 4 ∨ k = 5 ∨ k = 6 ∨ k = 7 ∨ k = 8 ∨ k = 9 ∨ k = 10 ∨ k = 11 := by omega
  rcases this with rfl | rfl | rfl | rfl | rfl | rfl | rfl | rfl | rfl | rfl | rfl <;> rfl
theorem word_kindS {w : List UInt8} (h : kindS w ≠ 0) : wordF (kindS w) = w ∧ ¬ (kindS w < 1 ∨ 11 < kindS w) := by
  unfold kindS at h ⊢
  split
  · rename_i q; exact ⟨q.symm, by omega⟩
  · rename_i q1; rw [if_neg q1] at h; split
    · rename_i q; exact ⟨q.symm, by omega⟩
    · rename_i q1; rw [if_neg q1] at h; split
      · rename_i q; exact ⟨q.symm, by omega⟩
      · rename_i q1; rw [if_neg q1] at h; split
        · rename_i q; exact ⟨q.symm, by omega⟩
        · rename_i q1; rw [if_neg q1] at h; split
          · rename_i q; exact ⟨q.symm, by omega⟩
          · rename_i q1; rw [if_neg q1] at h; split
            · rename_i q; exact ⟨q.symm, by omega⟩
            · rename_i q1; rw [if_neg q1] at h; split
              · rename_i q; exact ⟨q.symm, by omega⟩
              · rename_i q1; rw [if_neg q1] at h; split
                · rename_i q; exact ⟨q.symm, by omega⟩
                · rename_i q1; rw [if_neg q1] at h; split
                  · rename_i q; exact ⟨q.symm, by omega⟩
                  · rename_i q1; rw [if_neg q1] at h; split
                    · rename_i q; exact ⟨q.symm, by omega⟩
                    · rename_i q1; rw [if_neg q1] at h; split
                      · rename_i q; exact ⟨q.symm, by omega⟩
                      · rename_i q; rw [if_neg q] at h; exact absurd rfl h
theorem word_nb {k : Int} (h : ¬ (k < 1 ∨ 11 < k)) : (32 : UInt8) ∉ wordF k ∧ (wordF k).length ≤ 6 := by
  have : k = 1 ∨ k = 2 ∨ k = 3 ∨ k = 4 ∨ k = 5 ∨ k = 6 ∨ k = 7 ∨ k = 8 ∨ k = 9 ∨ k = 10 ∨ k = 11 := by omega
  rcases this with rfl | rfl | rfl | rfl | rfl | rfl | rfl | rfl | rfl | rfl | rfl <;> decide
/-- a word at a place -/
def tkS (r : Rs) (p : Int) (w : List UInt8) : Rs ⊕ (Int × Int) :=
  if p = 0 then (if kindS w = 0 then .inr (7, 0) else .inl { r with k := kindS w, fk := kindS w })
  else if named r.fk = true ∧ r.nm = false then (if isNm w = true then .inl { r with tx := w, nm := true } else .inr (11, p))
  else if (r.N.length : Int) = (counts r.fk).2 then .inr (11, p - 1)
  else match numS w with
    | none => .inr (11, p)
    | some n => .inl { r with N := r.N ++ [n] }
def runW : Rs → Int → List (List UInt8) → Rs ⊕ (Int × Int)
  | r, _, [] => .inl r
  | r, p, w :: ws => match tkS r p w with
    | .inl r' => runW r' (p + (w.length + 1)) ws
    | .inr f => .inr f
def rs0 : Rs := ⟨0, [], [], 0, false⟩
/-- what a text is: a line, or a fault and where -/
noncomputable def parseS (s : List UInt8) : (Int × List UInt8 × List Int) ⊕ (Int × Int) :=
  if 200 < s.length then .inr (4, 200) else match runW rs0 0 (spl s) with
    | .inr f => .inr f
    | .inl r => if r.nm ≠ named r.fk ∨ (r.N.length : Int) < (counts r.fk).1 then .inr (11, s.length) else if chk r.k r.tx r.N ≠ 0 then .inr (chk r.k r.tx r.N, 0) else .inl (r.k, r.tx, r.N)
/-- a line's words -/
def wsS (k : Int) (tx : List UInt8) (N : List Int) : List (List UInt8) := wordF k :: ((if named k = true then [tx] else []) ++ N.map Lib.itoa)
noncomputable def fmtS (k : Int) (tx : List UInt8) (N : List Int) : List UInt8 × Int := if chk k tx N ≠ 0 then ([], chk k tx N) else (jn (wsS k tx N), 0)

/-! ### Reading what was written -/
theorem lim_all {k i : Int} (hk : ¬ (k < 1 ∨ 11 < k)) : -1000000000 ≤ (limits k i).1 ∧ (limits k i).2 ≤ 1000000000 := by
  unfold limits
  repeat' split
  all_goals (first | omega | (constructor <;> simp <;> omega) | (constructor <;> decide))
theorem nm_nb {s : List UInt8} (h : isNm s = true) : (32 : UInt8) ∉ s ∧ s.length ≤ 40 := by
  unfold isNm at h
  simp only [Bool.and_eq_true, decide_eq_true_eq, List.all_eq_true] at h
  refine ⟨fun q => ?_, h.2⟩
  have := h.1.2 _ q
  revert this
  decide
theorem runW_nums : ∀ (N : List Int) (r : Rs) (p : Int), 0 < p → ¬ (named r.fk = true ∧ r.nm = false) → (∀ x ∈ N, -1000000000 ≤ x ∧ x ≤ 1000000000) → ((r.N.length + N.length : Nat) : Int) ≤ (counts r.fk).2 → runW r p (N.map Lib.itoa) = .inl { r with N := r.N ++ N } := by
  intro N
  induction N with
  | nil => intro r p hp hn hx hc; simp [runW]
  | cons x N ih =>
    intro r p hp hn hx hc
    rw [List.map_cons]
    show (match tkS r p (Lib.itoa x) with | .inl r' => _ | .inr f => _) = _
    have h1 : tkS r p (Lib.itoa x) = .inl { r with N := r.N ++ [x] } := by
      unfold tkS
      rw [if_neg (by omega), if_neg hn, if_neg (by simp only [List.length_cons] at hc; omega), numS_itoa (hx x (.head _)).1 (hx x (.head _)).2]
    rw [h1]
    simp only
    rw [ih { r with N := r.N ++ [x] } _ (by omega) hn (fun y hy => hx y (.tail _ hy)) (by simp only [List.length_append, List.length_cons, List.length_nil] at hc ⊢; omega)]
    simp
theorem chk_lim {k : Int} {tx : List UInt8} {N : List Int} (h : chk k tx N = 0) : ∀ x ∈ N, -1000000000 ≤ x ∧ x ≤ 1000000000 := by
  obtain ⟨hk, _, hr, _⟩ := chk_ok h
  intro x hx
  obtain ⟨i, hi⟩ := List.getElem?_of_mem hx
  have h2 := lim_all (i := i) hk
  have : ¬ (x < (limits k i).1 ∨ (limits k i).2 < x) := fun q => hr ⟨i, x, hi, q⟩
  omega
theorem sum_le : ∀ (N : List Int), (∀ x ∈ N, -1000000000 ≤ x ∧ x ≤ 1000000000) → ((N.map Lib.itoa).map fun w => w.length + 1).sum ≤ 12 * N.length := by
  intro N
  induction N with
  | nil => intro _; simp
  | cons x N ih =>
    intro h
    have h1 := ih (fun y hy => h y (.tail _ hy))
    have h2 := (itoa_trim (h x (.head _)).1 (h x (.head _)).2).2
    simp only [List.map_cons, List.sum_cons, List.length_cons]
    omega
/-- THE FIRST LAW: a line is read from its text -/
theorem parse_fmt {k : Int} {tx : List UInt8} {N : List Int} (h : chk k tx N = 0) : parseS (jn (wsS k tx N)) = .inl (k, tx, N) := by
  obtain ⟨hk, hf, _, _⟩ := chk_ok h
  have hl := chk_lim h
  have hw := word_nb hk
  have hs := sum_le N hl
  unfold FormBad at hf
  simp only [not_or, not_and] at hf
  obtain ⟨f1, f2, f3, f4, _⟩ := hf
  have c1 : (counts k).1 ≤ (N.length : Int) ∧ (N.length : Int) ≤ (counts k).2 := by constructor <;> omega
  have hnb : ∀ w ∈ N.map Lib.itoa, (32 : UInt8) ∉ w := fun w hw => by
    obtain ⟨x, _, rfl⟩ := List.mem_map.1 hw; exact itoa_nb x
  have h14 := counts_le k
  cases hn : named k with
  | true =>
    have hnm : isNm tx = true := by cases q : isNm tx with | true => rfl | false => exact absurd q (f1 hn)
    have ht := nm_nb hnm
    have hk2 : (counts k).2 ≤ 1 := by
      unfold named at hn
      simp only [Bool.or_eq_true, decide_eq_true_eq] at hn
      rcases hn with rfl | rfl <;> decide
    have e : wsS k tx N = wordF k :: tx :: N.map Lib.itoa := by unfold wsS; rw [if_pos hn]; rfl
    unfold parseS
    rw [e, if_neg (by rw [jn_len]; simp only [List.map_cons, List.sum_cons]; omega), spl_jn _ _ (fun w hw' => by
      rcases List.mem_cons.1 hw' with q | q
      · rw [q]; exact hw.1
      · rcases List.mem_cons.1 q with q | q
        · rw [q]; exact ht.1
        · exact hnb w q)]
    have r1 : runW rs0 0 (wordF k :: tx :: N.map Lib.itoa) = .inl ⟨k, tx, N, k, true⟩ := by
      show (match tkS rs0 0 (wordF k) with | .inl r' => _ | .inr f => _) = _
      have : tkS rs0 0 (wordF k) = .inl ⟨k, [], [], k, false⟩ := by
        unfold tkS; rw [if_pos rfl, kindS_word hk, if_neg (by omega)]; rfl
      rw [this]
      simp only
      show (match tkS ⟨k, [], [], k, false⟩ (0 + ((wordF k).length + 1)) tx with | .inl r' => _ | .inr f => _) = _
      have : tkS ⟨k, [], [], k, false⟩ (0 + (((wordF k).length : Int) + 1)) tx = .inl ⟨k, tx, [], k, true⟩ := by
        unfold tkS; rw [if_neg (by omega), if_pos ⟨hn, rfl⟩, if_pos hnm]
      rw [this]
      simp only
      rw [runW_nums _ _ _ (by omega) (fun q => by cases q.2) hl (by simpa using c1.2)]
      rfl
    rw [r1]
    simp only
    rw [if_neg (by rintro (q | q); exact q hn.symm; omega), if_neg (fun q => q h)]
  | false =>
    have htx : tx = [] := Classical.not_not.1 (f2 hn)
    subst htx
    have e : wsS k [] N = wordF k :: N.map Lib.itoa := by unfold wsS; rw [if_neg (by rw [hn]; simp)]; rfl
    unfold parseS
    rw [e, if_neg (by rw [jn_len]; omega), spl_jn _ _ (fun w hw' => by
      rcases List.mem_cons.1 hw' with q | q
      · rw [q]; exact hw.1
      · exact hnb w q)]
    have r1 : runW rs0 0 (wordF k :: N.map Lib.itoa) = .inl ⟨k, [], N, k, false⟩ := by
      show (match tkS rs0 0 (wordF k) with | .inl r' => _ | .inr f => _) = _
      have : tkS rs0 0 (wordF k) = .inl ⟨k, [], [], k, false⟩ := by
        unfold tkS; rw [if_pos rfl, kindS_word hk, if_neg (by omega)]; rfl
      rw [this]
      simp only
      rw [runW_nums _ _ _ (by omega) (fun q => by rw [hn] at q; cases q.1) hl (by simpa using c1.2)]
      rfl
    rw [r1]
    simp only
    rw [if_neg (by rintro (q | q); exact q hn.symm; omega), if_neg (fun q => q h)]

/-! ### Writing what was read -/
def outR (r : Rs) : List (List UInt8) := wordF r.fk :: ((if r.nm = true then [r.tx] else []) ++ r.N.map Lib.itoa)
theorem runW_out : ∀ (ws : List (List UInt8)) (r r' : Rs) (p : Int), 0 < p → (r.nm = true → named r.fk = true) → (named r.fk = true → r.nm = false → r.N = []) → runW r p ws = .inl r' → outR r' = outR r ++ ws ∧ r'.fk = r.fk ∧ r'.k = r.k := by
  intro ws
  induction ws with
  | nil => intro r r' p hp _ _ h; injection h with h; subst h; exact ⟨by simp, rfl, rfl⟩
  | cons w ws ih =>
    intro r r' p hp hn0 hn h
    have h : (match tkS r p w with | .inl r1 => runW r1 (p + (w.length + 1)) ws | .inr f => .inr f) = Sum.inl r' := h
    unfold tkS at h
    rw [if_neg (by omega)] at h
    by_cases h1 : named r.fk = true ∧ r.nm = false
    · rw [if_pos h1] at h
      by_cases h2 : isNm w = true
      · rw [if_pos h2] at h
        simp only at h
        obtain ⟨a, b, c⟩ := ih { r with tx := w, nm := true } r' _ (by omega) (fun _ => h1.1) (fun _ q => by cases q) h
        refine ⟨?_, b, c⟩
        rw [a]
        unfold outR
        simp only [h1.2, hn h1.1 h1.2]
        simp
      · rw [if_neg h2] at h; cases h
    · rw [if_neg h1] at h
      by_cases h2 : (r.N.length : Int) = (counts r.fk).2
      · rw [if_pos h2] at h; cases h
      · rw [if_neg h2] at h
        cases h3 : numS w with
        | none => rw [h3] at h; cases h
        | some n =>
          rw [h3] at h
          simp only at h
          obtain ⟨a, b, c⟩ := ih { r with N := r.N ++ [n] } r' _ (by omega) hn0 (fun q1 q2 => absurd ⟨q1, q2⟩ h1) h
          refine ⟨?_, b, c⟩
          rw [a]
          unfold outR
          simp [numS_inv h3]
/-- THE SECOND LAW: only this text has the line -/
theorem fmt_parse {s : List UInt8} {k : Int} {tx : List UInt8} {N : List Int} (h : parseS s = .inl (k, tx, N)) : fmtS k tx N = (s, 0) := by
  unfold parseS at h
  split at h
  · cases h
  · cases hr : runW rs0 0 (spl s) with
    | inr f => rw [hr] at h; cases h
    | inl r =>
      rw [hr] at h
      simp only at h
      split at h
      · cases h
      · rename_i h1
        split at h
        · cases h
        · rename_i h2
          injection h with h
          simp only [Prod.mk.injEq] at h
          obtain ⟨rfl, rfl, rfl⟩ := h
          have hc : chk r.k r.tx r.N = 0 := Classical.not_not.1 h2
          unfold fmtS
          rw [if_neg h2]
          congr 1
          have hnm : r.nm = named r.fk := Classical.not_not.1 (fun q => h1 (.inl q))
          cases hs : spl s with
          | nil => exact absurd hs (spl_ne s)
          | cons w ws =>
            rw [hs] at hr
            have hr : (match tkS rs0 0 w with | .inl r1 => runW r1 (0 + (w.length + 1)) ws | .inr f => .inr f) = Sum.inl r := hr
            unfold tkS at hr
            rw [if_pos rfl] at hr
            by_cases hk : kindS w = 0
            · rw [if_pos hk] at hr; cases hr
            · rw [if_neg hk] at hr
              simp only at hr
              obtain ⟨a, b, c⟩ := runW_out _ _ _ _ (by omega) (fun q => by cases q) (fun _ _ => rfl) hr
              have hkk : r.k = r.fk := by rw [b, c]
              have e : wsS r.k r.tx r.N = outR r := by
                unfold wsS outR; rw [hkk, hnm]
              rw [e, a]
              have : outR { rs0 with k := kindS w, fk := kindS w } = [w] := by
                unfold outR rs0
                simp [(word_kindS hk).1]
              rw [this]
              have : [w] ++ ws = spl s := by rw [hs]; rfl
              rw [this, jn_spl]
end Go.Opn

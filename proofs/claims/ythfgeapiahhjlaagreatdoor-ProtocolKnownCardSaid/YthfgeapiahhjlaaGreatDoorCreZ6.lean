/- A part of a verified evaluator of closed calls: see YthfgeapiahhjlaaGreatDoorCreZ. -/
import Derived.Test.YthfgeapiahhjlaaGreatDoorCreZ5
import Derived.Lib.LaidTab
set_option linter.unusedVariables false
set_option linter.unusedSimpArgs false
namespace Go.Cre

/-! ### Listed tables of booleans -/
def boolData {H : Type} (bs : List Bool) : DataW H := .agg (bs.map fun b => .lit (.bool b))
def BoolsAre (P : Program) (w : World) (name : String) (bs : List Bool) : Prop := w.var? P name = some (bs.map Value.bool).toArray

theorem bools_cells {H : Type} {enc : TypeId × Value → H} {P : Program} {w : World} {base : Nat} {sp : Nat → Bool} {held : Bool} {fuel : Nat} {t e : TypeId} {n : Nat} {cs : List Value} {bs : List Bool} {p : List MemPlace}
    (ht : P.underlying t = some (.array n e)) (he : P.underlying e = some .bool) (hce : P.cellsOf e = 1) (hct : P.cellsOf t = n)
    (h : DataW.trod enc P w base sp held fuel t cs = some (boolData bs, p)) : cs = bs.map Value.bool := by
  cases fuel with
  | zero => simp [DataW.trod] at h
  | succ fuel =>
    simp only [DataW.trod, ht, hce, hct, Nat.mul_one] at h
    split at h
    · rename_i hl
      obtain ⟨xs, hm, hx⟩ := Option.map_eq_some_iff.1 h
      have e1 : xs.map (·.1) = bs.map fun b => (DataW.lit (.bool b) : DataW H) := by have := congrArg Prod.fst hx; simpa [boolData] using this
      have e2 : xs.length = n := by simpa using Lib.mapM_length hm
      have e3 : bs.length = n := by have := congrArg List.length e1; simp at this; omega
      refine List.ext_getElem? fun i => ?_
      rcases Nat.lt_or_ge i n with hi | hi
      · obtain ⟨b, hb, hf⟩ := Lib.mapM_at hm i i (by simp [hi])
        obtain ⟨z, hc, rfl⟩ := DataW.trod_bool he hf
        have h1 : cs[i]? = some (.bool z) := by have := congrArg (·[0]?) hc; simpa [List.getElem?_take, List.getElem?_drop] using this
        have h2 : (xs.map (·.1))[i]? = some (DataW.lit (.bool z) : DataW H) := by simp [hb]
        rw [e1] at h2
        simp only [List.getElem?_map, Option.map_eq_some_iff, DataW.lit.injEq, Lit.bool.injEq] at h2
        obtain ⟨z', hz', rfl⟩ := h2
        simp [h1, hz']
      · rw [List.getElem?_eq_none (by omega), List.getElem?_eq_none (by simp; omega)]
    · cases h

theorem bools_head {P : Program} {W : World} {name : String} {bs : List Bool} {rest : List (String × DataW Unit)} {g : Nat} {t e : TypeId} {n : Nat}
    (hg : P.globalNamed name = some g) (hty : (P.globals[g]?).map (·.type) = some t) (ht : P.underlying t = some (.array n e)) (he : P.underlying e = some .bool) (hce : P.cellsOf e = 1) (hct : P.cellsOf t = n)
    (h : laidMet P ((name, boolData bs) :: rest) W) : BoolsAre P W name bs := by
  obtain ⟨ps, ⟨g', t', cs, fuel, p, q, hg', ht', hvar, hd, _, _⟩, _⟩ := h
  obtain rfl := Option.some.inj (hg.symm.trans hg')
  obtain rfl := Option.some.inj (hty.symm.trans ht')
  unfold BoolsAre
  rw [hvar, ← bools_cells ht he hce hct hd]

theorem laid_rowB {P : Program} {W : World} {name : String} {bs : List Bool} {g : Nat} {t : TypeId} (hg : P.globalNamed name = some g) (hlt : g < P.globals.size)
    (hr : (((begin P (fun _ _ => 0) default).world.heap[g]?).bind Obj.row?).map (·.2) = some t) (hs : W.ShapedOpen P) (ht : BoolsAre P W name bs) : ∃ f, W.heap[g]? = some (.cells (bs.map Value.bool).toArray t f) := by
  obtain ⟨⟨zero, t'⟩, h1, h2⟩ := Option.map_eq_some_iff.1 hr
  simp only at h2; subst h2
  obtain ⟨cs, a, _⟩ := hs.1 g zero t' hlt h1
  unfold BoolsAre World.var? at ht
  rw [hg] at ht
  simp only [Option.bind_some, a, Option.some.injEq] at ht
  subst ht
  exact ⟨_, a⟩
end Go.Cre

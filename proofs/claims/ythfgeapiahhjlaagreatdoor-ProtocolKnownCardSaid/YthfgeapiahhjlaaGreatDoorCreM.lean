/- A part of a verified evaluator of closed calls: see YthfgeapiahhjlaaGreatDoorCreZ. -/
import Derived.Test.YthfgeapiahhjlaaGreatDoorCreL
import Derived.Laws.BytesString
import Derived.Laws.BytesArg
import Derived.Lib.UnsafeStr
set_option linter.unusedVariables false
set_option linter.unusedSimpArgs false
namespace Go.Cre
open Go.RowKit

section
variable {P : Program} {B : Nat → Prop} {w0 w : World} {μ : Mp} {H H' : Hp}

theorem evTypeAssert_sound {x x' v : Value} {xt asserted : TypeId} {ok : Bool} (hx : VRel μ x x') (he : evTypeAssert P x asserted ok = some v) (w : World) :
    ∃ v', (Instr.typeAssert x' xt asserted ok).run P w = .ok v' w ∧ VRel μ v v' := by
  unfold evTypeAssert at he
  simp only at he
  have hfail : ∀ v, (bif ok then (match zeroT P asserted with | some z => bif plain z then some (Value.tuple #[z, .bool false]) else none | none => none) else none) = some v →
      ok = true ∧ ∃ z, zeroT P asserted = some z ∧ plain z = true ∧ v = .tuple #[z, .bool false] := by
    intro v hv
    cases ok with
    | false => simp at hv
    | true =>
      simp only [cond_true] at hv
      cases hz : zeroT P asserted with
      | none => rw [hz] at hv; simp at hv
      | some z =>
        rw [hz] at hv
        simp only at hv
        cases hp : plain z with
        | false => rw [hp] at hv; simp at hv
        | true => rw [hp] at hv; simp at hv; exact ⟨rfl, z, rfl, hp, hv.symm⟩
  have hrel : ∀ z, plain z = true → VRel μ (.tuple #[z, .bool false]) (.tuple #[z, .bool false]) := fun z hz => VRel.tuple' (LRel.cons (plain_rel hz) (LRel.cons (.atom _ rfl) (LRel.nil _)))
  have hrel2 : ∀ y y', VRel μ y y' → VRel μ (bif ok then .tuple #[y, .bool true] else y) (if ok then .tuple #[y', .bool true] else y') := fun y y' hy => by
    cases ok with
    | true => exact VRel.tuple' (LRel.cons hy (LRel.cons (.atom _ rfl) (LRel.nil _)))
    | false => exact hy
  cases hu : P.underlying asserted with
  | none => rw [hu] at he; simp at he
  | some d =>
    rw [hu] at he
    cases x with
    | nilIface =>
      rw [hx.nilIface_inv]
      have hv : (bif ok then (match zeroT P asserted with | some z => bif plain z then some (Value.tuple #[z, .bool false]) else none | none => none) else none) = some v := by
        cases d <;> exact he
      obtain ⟨rfl, z, hz, hp, rfl⟩ := hfail v hv
      refine ⟨_, ?_, hrel z hp⟩
      cases d <;> simp [Instr.typeAssert, und_run hu, zeroT_run hz]
    | iface t y =>
      obtain ⟨y', rfl, hy⟩ := hx.iface_inv
      by_cases hi : ∃ want, d = .interface want
      · obtain ⟨want, rfl⟩ := hi
        simp only at he
        cases hinf : P.info? t with
        | none => rw [hinf] at he; simp at he
        | some i =>
          rw [hinf] at he
          simp only at he
          cases hmm : Instr.missingMethod want i.methods with
          | none =>
            rw [hmm] at he
            simp only [Option.some.injEq] at he
            subst he
            refine ⟨_, ?_, hrel2 _ _ (.iface t y y' hy)⟩
            simp [Instr.typeAssert, und_run hu, typeInfo, hinf, hmm]
          | some nm =>
            rw [hmm] at he
            obtain ⟨rfl, z, hz, hp, rfl⟩ := hfail v he
            refine ⟨_, ?_, hrel z hp⟩
            simp [Instr.typeAssert, und_run hu, typeInfo, hinf, hmm, zeroT_run hz]
      · have he' : (bif Nat.beq t asserted then some (bif ok then .tuple #[y, .bool true] else y) else (bif ok then (match zeroT P asserted with | some z => bif plain z then some (Value.tuple #[z, .bool false]) else none | none => none) else none)) = some v := by
          cases d <;> first | exact he | exact absurd ⟨_, rfl⟩ hi
        cases hb : Nat.beq t asserted with
        | true =>
          rw [hb, cond_true] at he'
          simp only [Option.some.injEq] at he'
          subst he'
          have := Nat.eq_of_beq_eq_true hb; subst this
          refine ⟨_, ?_, hrel2 _ _ hy⟩
          cases d <;> first | exact absurd ⟨_, rfl⟩ hi | simp [Instr.typeAssert, und_run hu]
        | false =>
          rw [hb, cond_false] at he'
          obtain ⟨rfl, z, hz, hp, rfl⟩ := hfail v he'
          have hne : t ≠ asserted := fun e => by subst e; simp at hb
          refine ⟨_, ?_, hrel z hp⟩
          cases d <;> first | exact absurd ⟨_, rfl⟩ hi | simp [Instr.typeAssert, und_run hu, hne, zeroT_run hz]
    | _ => cases d <;> simp at he

theorem evEqNil_sound {t : TypeId} {x x' y y' : Value} {r : Bool} (hx : VRel μ x x') (hy : VRel μ y y') (he : evEqNil P t x y = some r) (d : Nat) (w : World) : (Op.equalIn (d + 1) t x' y').run P w = .ok r w := by
  unfold evEqNil at he
  cases hu : P.underlying t with
  | none => rw [hu] at he; simp at he
  | some td =>
    rw [hu] at he
    cases td with
    | pointer elem =>
      cases x with
      | pointer a =>
        cases y with
        | pointer b =>
          cases a with
          | none =>
            rw [hx.pnil]
            cases b with
            | none => rw [hy.pnil]; simp at he; subst he; simp [Op.equalIn, und_run hu]
            | some b => obtain ⟨id, off, L, rfl, hL, rfl⟩ := hy.ptr_inv; simp at he; subst he; simp [Op.equalIn, und_run hu]
          | some a =>
            obtain ⟨id, off, L, rfl, hL, rfl⟩ := hx.ptr_inv
            cases b with
            | none => rw [hy.pnil]; simp at he; subst he; simp [Op.equalIn, und_run hu]
            | some b =>
              obtain ⟨id', off', L', rfl, hL', rfl⟩ := hy.ptr_inv
              simp only at he
              cases hs : sizeT P elem with
              | none => rw [hs] at he; simp at he
              | some n =>
                rw [hs] at he
                cases n with
                | zero => simp at he
                | succ n =>
                  simp only at he
                  cases hb : Nat.beq id id' with
                  | false => rw [hb] at he; simp at he
                  | true =>
                    rw [hb, cond_true] at he
                    have := Nat.eq_of_beq_eq_true hb; subst this
                    rw [hL] at hL'; injection hL' with hL'; subst hL'
                    simp only [Option.some.injEq] at he
                    subst he
                    have heq : (({ block := id, off := off } : Addr) == { block := id, off := off' }) = (({ block := L.r, off := off } : Addr) == { block := L.r, off := off' }) := by
                      rw [Bool.eq_iff_iff]; simp
                    rw [heq]
                    simp [Op.equalIn, und_run hu, sizeT_run hs, sameAddr]
        | _ => simp at he
      | _ => simp at he
    | slice elem =>
      cases x with
      | slice a l c =>
        cases y with
        | slice b l' c' =>
          cases a with
          | none =>
            rw [hx.slice_nil]
            cases b with
            | none => rw [hy.slice_nil]; simp at he; subst he; simp [Op.equalIn, und_run hu]
            | some b => obtain ⟨_, _, _, _, _, rfl, _, rfl, _⟩ := hy.slice_inv; simp at he; subst he; simp [Op.equalIn, und_run hu]
          | some a =>
            obtain ⟨_, _, _, _, _, rfl, _, rfl, _⟩ := hx.slice_inv
            cases b with
            | none => rw [hy.slice_nil]; simp at he; subst he; simp [Op.equalIn, und_run hu]
            | some b => simp at he
        | _ => simp at he
      | _ => simp at he
    | map k e =>
      cases x with
      | map a =>
        cases y with
        | map b =>
          cases a with
          | none =>
            rw [hx.mnil]
            cases b with
            | none => rw [hy.mnil]; simp at he; subst he; simp [Op.equalIn, und_run hu]
            | some b => obtain ⟨_, _, rfl⟩ := hy.map_inv; simp at he; subst he; simp [Op.equalIn, und_run hu]
          | some a =>
            obtain ⟨_, _, rfl⟩ := hx.map_inv
            cases b with
            | none => rw [hy.mnil]; simp at he; subst he; simp [Op.equalIn, und_run hu]
            | some b => simp at he
        | _ => simp at he
      | _ => simp at he
    | func ps rs v =>
      cases x with
      | nilFunc =>
        rw [hx.nilFunc_inv]
        cases y with
        | func fn a b =>
          simp at he; subst he
          cases hy with
          | atom _ q => simp [isAtom] at q
          | func => simp [Op.equalIn, und_run hu]
          | yield => simp [Op.equalIn, und_run hu]
        | _ => simp at he
      | func fn a b =>
        cases y with
        | nilFunc =>
          rw [hy.nilFunc_inv]
          simp at he; subst he
          cases hx with
          | atom _ q => simp [isAtom] at q
          | func => simp [Op.equalIn, und_run hu]
          | yield => simp [Op.equalIn, und_run hu]
        | _ => simp at he
      | _ => simp at he
    | interface ms =>
      cases x with
      | nilIface =>
        rw [hx.nilIface_inv]
        cases y with
        | iface t y => obtain ⟨_, rfl, _⟩ := hy.iface_inv; simp at he; subst he; simp [Op.equalIn, und_run hu]
        | _ => simp at he
      | iface t x =>
        obtain ⟨_, rfl, _⟩ := hx.iface_inv
        cases y with
        | nilIface => rw [hy.nilIface_inv]; simp at he; subst he; simp [Op.equalIn, und_run hu]
        | _ => simp at he
      | _ => simp at he
    | _ => simp at he

theorem shape_row {r : Nat} {c : Array Value} {e : TypeId} {f : Nat × Nat} (h : w.heap[r]? = some (.cells c e f)) : (shape r).run P w = .ok (some (e, c.size)) w := by
  simp [shape, Sem.run, World.shape?, h]
theorem viewAt_row {r : Nat} {c : Array Value} {e : TypeId} {f : Nat × Nat} (h : w.heap[r]? = some (.cells c e f)) : (viewAt r).run P w = .ok none w := by
  simp [viewAt, shape_row h]
theorem cellsIn_row {r : Nat} {c : Array Value} {e : TypeId} {f : Nat × Nat} (h : w.heap[r]? = some (.cells c e f)) : (cellsIn r).run P w = .ok (some c.size) w := by
  simp [cellsIn, shape_row h]

theorem evConvPtr_sound (h : HRel P B w0 μ H w) {src dst : TypeId} {x x' v : Value} (hx : VRel μ x x') (he : evConvPtr P H src dst x = some v) :
    ∃ v', (convert src dst x').run P w = .ok v' w ∧ VRel μ v v' := by
  unfold evConvPtr at he
  cases hu : P.underlying src with
  | none => rw [hu] at he; simp at he
  | some ds =>
    rw [hu] at he
    cases hd : P.underlying dst with
    | none => rw [hd] at he; simp at he
    | some dd =>
      rw [hd] at he
      cases ds with
      | pointer t =>
        cases dd with
        | unsafePointer =>
          cases x with
          | pointer a =>
            cases a with
            | none => simp at he
            | some a =>
              obtain ⟨id, off, L, rfl, hL, rfl⟩ := hx.ptr_inv
              simp only at he
              cases hs : sizeT P t with
              | none => rw [hs] at he; simp at he
              | some n =>
                rw [hs] at he
                cases n with
                | zero => simp at he
                | succ n =>
                  cases hm : H.mem.get id with
                  | none => rw [hm] at he; simp at he
                  | some b =>
                    rw [hm] at he
                    cases b with
                    | row cells el opn fam fz sh =>
                      simp only at he
                      cases hb : Nat.blt off cells.length with
                      | false => rw [hb] at he; simp at he
                      | true =>
                        rw [hb, cond_true] at he
                        simp only [Option.some.injEq] at he; subst he
                        have hb : off < cells.length := Nat.le_of_ble_eq_true hb
                        obtain ⟨c, f, g1, g2, g3, g4, g5, g6, g7⟩ := h.row hL hm
                        have hlt : ¬ (c.size ≤ off) := by omega
                        refine ⟨_, ?_, hx⟩
                        simp [convert, und_run hu, und_run hd, Conv.unsafePointer, Conv.seenAt, viewAt_row g1, cellsIn_row g1, hlt, sizeT_run hs]
                    | _ => simp at he
          | _ => simp at he
        | _ => simp at he
      | unsafePointer =>
        cases dd with
        | pointer u =>
          cases x with
          | pointer a =>
            cases a with
            | none => simp at he
            | some a =>
              obtain ⟨id, off, L, rfl, hL, rfl⟩ := hx.ptr_inv
              simp only at he
              cases hs : sizeT P u with
              | none => rw [hs] at he; simp at he
              | some n =>
                rw [hs] at he
                cases n with
                | zero => simp at he
                | succ n =>
                  cases hm : H.mem.get id with
                  | none => rw [hm] at he; simp at he
                  | some b =>
                    rw [hm] at he
                    cases b with
                    | row cells el opn fam fz sh =>
                      cases opn with
                      | true => simp at he
                      | false =>
                        simp only at he
                        cases hb : liesAt P P.depth el (cells.length / P.cellsOf el) off u 1 with
                        | false => rw [hb] at he; simp at he
                        | true =>
                          rw [hb, cond_true] at he
                          simp only [Option.some.injEq] at he; subst he
                          obtain ⟨c, f, g1, g2, g3, g4, g5, g6, g7⟩ := h.row hL hm
                          have hcl : c.size = cells.length := by rw [g2, g5 rfl]
                          have hsh : w.shape? L.r = some (el, c.size) := by simp [World.shape?, g1]
                          refine ⟨_, ?_, hx⟩
                          simp [convert, und_run hu, und_run hd, Conv.unsafePointer, Conv.seenAt, viewAt_row g1, sizeT_run hs, variablesAt, hsh, hcl, hb]
                    | _ => simp at he
          | _ => simp at he
        | _ => simp at he
      | _ => cases dd <;> simp at he

end
end Go.Cre

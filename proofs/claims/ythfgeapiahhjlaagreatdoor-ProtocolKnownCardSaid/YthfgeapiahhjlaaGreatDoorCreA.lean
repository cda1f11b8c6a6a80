/- A part of a verified evaluator of closed calls: see YthfgeapiahhjlaaGreatDoorCreZ. -/
import GoSem.Step
import Derived.Calls
import Derived.Defers
import Derived.Recover
set_option linter.unusedVariables false
set_option linter.unusedSimpArgs false
namespace Go.Cre

/-! ### A map from numbers -/
inductive Tr (α : Type) where
  | leaf
  | node (v : Option α) (l r : Tr α)

/-- (By the recursor itself: the kernel's run is the shorter.) -/
noncomputable def Tr.get {α : Type} (t : Tr α) : Nat → Option α :=
  Tr.rec (motive := fun _ => Nat → Option α) (fun _ => none)
    (fun v _ _ l r n => Nat.rec (motive := fun _ => Option α) v (fun m _ => Bool.rec (motive := fun _ => Option α) (r (Nat.div m 2)) (l (Nat.div m 2)) (Nat.beq (Nat.mod m 2) 0)) n) t

noncomputable def Tr.left {α : Type} (v : Option α) (r : Tr α) (l : Option (Tr α)) : Option (Tr α) := Option.rec (motive := fun _ => Option (Tr α)) none (fun l => some (.node v l r)) l
noncomputable def Tr.right {α : Type} (v : Option α) (l : Tr α) (r : Option (Tr α)) : Option (Tr α) := Option.rec (motive := fun _ => Option (Tr α)) none (fun r => some (.node v l r)) r

noncomputable def Tr.put {α : Type} (a : α) (t : Tr α) : Nat → Option (Tr α) :=
  Tr.rec (motive := fun _ => Nat → Option (Tr α))
    (fun n => Nat.rec (motive := fun _ => Option (Tr α)) (some (.node (some a) .leaf .leaf)) (fun _ _ => none) n)
    (fun v l r pl pr n => Nat.rec (motive := fun _ => Option (Tr α)) (some (.node (some a) l r))
      (fun m _ => Bool.rec (motive := fun _ => Option (Tr α)) (Tr.right v l (pr (Nat.div m 2))) (Tr.left v r (pl (Nat.div m 2))) (Nat.beq (Nat.mod m 2) 0)) n) t

noncomputable def Tr.set {α : Type} (_ : Nat) (t : Tr α) (n : Nat) (a : α) : Option (Tr α) := Tr.put a t n

/-- a full tree of d floors -/
noncomputable def Tr.full {α : Type} (a : α) (d : Nat) : Tr α := Nat.rec (motive := fun _ => Tr α) .leaf (fun _ t => .node (some a) t t) d

noncomputable def trDepth : Nat := 64

/-! ### The abstract memory -/
structure ALoop where
  state : LoopState
  pending : Option Code
  T : Tr Value
  n : Nat
  params : List Tmp
  assign : Code
  body : Code
  dfr : Nat

inductive Blk where
  | row (cells : List Value) (elem : TypeId) (opn : Bool) (fam : Nat) (fz : Nat) (sh : Bool)
  | map (es : List MapEntry) (clock : Nat)
  | loop (l : ALoop)
  | dfr (ds : Option (List Deferred))
  | dead

structure Hp where
  mem : Tr Blk
  nx : Nat
  fam : Tr (List Nat)
  nf : Nat
  glo : Nat

structure St where
  T : Tr Value
  n : Nat
  ds : List Deferred
  dfd : Bool
  um : FrameMode
  rnd : Option Nat

noncomputable def openCap : Nat := 1208925819614629174706176
noncomputable def farFz : Nat := 1208925819614629174706176

noncomputable def Hp.upd2 (nx : Nat) (fam : Tr (List Nat)) (nf glo : Nat) : Option (Tr Blk) → Option Hp
  | some m => some ⟨m, nx, fam, nf, glo⟩
  | none => none
noncomputable def Hp.upd (H : Hp) (id : Nat) (b : Blk) : Option Hp :=
  match H with
  | ⟨mem, nx, fam, nf, glo⟩ => Hp.upd2 nx fam nf glo (Tr.put b mem id)

/-- the next number as a numeral -/
noncomputable def Hp.new3 (nx : Nat) (fam : Tr (List Nat)) (nf glo : Nat) (m : Tr Blk) : Nat → Option (Nat × Hp)
  | 0 => none
  | n + 1 => some (nx, ⟨m, n + 1, fam, nf, glo⟩)
noncomputable def Hp.new2 (nx : Nat) (fam : Tr (List Nat)) (nf glo : Nat) : Option (Tr Blk) → Option (Nat × Hp)
  | some m => Hp.new3 nx fam nf glo m (Nat.succ nx)
  | none => none
noncomputable def Hp.new (H : Hp) (b : Blk) : Option (Nat × Hp) :=
  match H with
  | ⟨mem, nx, fam, nf, glo⟩ => Hp.new2 nx fam nf glo (Tr.put b mem nx)

noncomputable def Hp.setFam2 (mem : Tr Blk) (nx nf glo : Nat) : Option (Tr (List Nat)) → Option Hp
  | some f => some ⟨mem, nx, f, nf, glo⟩
  | none => none
/-- the members of family f are l -/
noncomputable def Hp.setFam (H : Hp) (f : Nat) (l : List Nat) : Option Hp :=
  match H with
  | ⟨mem, nx, fam, nf, glo⟩ => Hp.setFam2 mem nx nf glo (Tr.put l fam f)

noncomputable def Hp.newFam3 (mem : Tr Blk) (nx : Nat) (fam : Tr (List Nat)) (nf glo : Nat) : Nat → Option (Nat × Hp)
  | 0 => none
  | n + 1 => some (nf, ⟨mem, nx, fam, n + 1, glo⟩)
noncomputable def Hp.newFam2 (mem : Tr Blk) (nx nf glo : Nat) : Option (Tr (List Nat)) → Option (Nat × Hp)
  | some f => Hp.newFam3 mem nx f nf glo (Nat.succ nf)
  | none => none
/-- a new family, of the block that is made next -/
noncomputable def Hp.newFam (H : Hp) : Option (Nat × Hp) :=
  match H with
  | ⟨mem, nx, fam, nf, glo⟩ => Hp.newFam2 mem nx nf glo (Tr.put [nx] fam nf)

/-- a new open row -/
noncomputable def Hp.newOpen (H : Hp) (cells : List Value) (elem : TypeId) (sh : Bool) : Option (Nat × Hp) :=
  match H.newFam with
  | some (f, H) => H.new (.row cells elem true f 0 sh)
  | none => none

/-! ### Values -/
noncomputable def plainN : Nat → Value → Bool
  | 0, _ => false
  | n + 1, v =>
    match v with
    | .bool _ | .int _ _ | .float _ _ | .string _ | .nilFunc | .nilIface => true
    | .pointer none | .slice none _ _ | .map none => true
    | .iface _ v => plainN n v
    | .agg cs => cs.toList.all (plainN n)
    | .tuple cs => cs.toList.all (plainN n)
    | .func (.func _) a b => a.isEmpty && b.isEmpty
    | _ => false

noncomputable def plain (v : Value) : Bool := plainN 8 v

noncomputable def nth {α : Type} (l : List α) : Nat → Option α :=
  List.rec (motive := fun _ => Nat → Option α) (fun _ => none) (fun a _ r n => Nat.rec (motive := fun _ => Option α) (some a) (fun m _ => r m) n) l

noncomputable def dropN {α : Type} (n : Nat) (l : List α) : List α :=
  List.rec (motive := fun _ => Nat → List α) (fun _ => []) (fun a t r n => Nat.rec (motive := fun _ => List α) (a :: t) (fun m _ => r m) n) l n

/-- the first n, or none -/
noncomputable def takeN {α : Type} : Nat → List α → Option (List α)
  | 0, _ => some []
  | _ + 1, [] => none
  | n + 1, a :: l => match takeN n l with | some r => some (a :: r) | none => none

/-- vs written over l from place n on, or none -/
noncomputable def splice {α : Type} : Nat → List α → List α → Option (List α)
  | 0, l, [] => some l
  | 0, [], _ :: _ => none
  | 0, _ :: l, v :: vs => match splice 0 l vs with | some r => some (v :: r) | none => none
  | _ + 1, [], _ => none
  | n + 1, a :: l, vs => match splice n l vs with | some r => some (a :: r) | none => none

noncomputable def oneCell : Value → Bool
  | .agg _ => false
  | .tuple _ => false
  | _ => true

/-! ### A tree of the model's that asks nothing -/
noncomputable def evPure {α : Type} (P : Program) : Sem α → Option α
  | .pure a => some a
  | .program k => evPure P (k P)
  | .mark _ k => evPure P k
  | _ => none

/-! ### Operands -/
noncomputable def tget (T : Tr Value) (t : Nat) : Value := Option.rec (motive := fun _ => Value) undef (fun v => v) (T.get t)

noncomputable def opdGlob (H : Hp) (g : Nat) : Option Value :=
  bif Nat.blt g H.glo then (match H.mem.get g with | some (.row _ _ _ _ _ _) => some (.pointer (some ⟨g, 0, none⟩)) | _ => none) else none
noncomputable def opdConst (v : Value) : Option Value := bif plain v then some v else none
noncomputable def opd (T : Tr Value) (H : Hp) (x : Operand) : Option Value :=
  Operand.rec (motive := fun _ => Option Value) (fun t => T.get t) opdConst (opdGlob H) (fun f => some (.func (.func f) #[] #[])) x

noncomputable def opds (T : Tr Value) (H : Hp) : List Operand → Option (List Value)
  | [] => some []
  | x :: l => match opd T H x with
    | some v => match opds T H l with | some vs => some (v :: vs) | none => none
    | none => none

/-! ### Types -/
/-- none: not known; some none: one cell; some (some n): n cells -/
noncomputable def aggSize (P : Program) (t : TypeId) : Option (Option Nat) :=
  match P.info? t with
  | none => none
  | some i => match P.underlying t with
    | some (.struct _) => some (some i.size)
    | some (.array _ _) => some (some i.size)
    | some _ => some none
    | none => none

noncomputable def sizeT (P : Program) (t : TypeId) : Option Nat := match P.info? t with | some i => some i.size | none => none
noncomputable def zeroT (P : Program) (t : TypeId) : Option Value := match P.info? t with | some i => i.zero | none => none
noncomputable def bytesT (P : Program) (t : TypeId) : Option Nat := match P.info? t with | some i => some i.bytes | none => none

/-! ### Memory operations -/
noncomputable def evPart (P : Program) (t : TypeId) (cs : List Value) (off : Nat) : Option Value :=
  match aggSize P t with
  | some (some n) => match takeN n (dropN off cs) with | some l => some (.agg l.toArray) | none => none
  | some none => nth cs off
  | none => none

noncomputable def evLoadAt (P : Program) (H : Hp) (t : TypeId) (a : Addr) : Option Value :=
  match a.spot with
  | some _ => none
  | none => match H.mem.get a.block with
    | some (.row cells _ _ _ _ _) => evPart P t cells a.off
    | _ => none

noncomputable def evLoad (P : Program) (H : Hp) (t : TypeId) : Value → Option Value
  | .pointer (some a) => evLoadAt P H t a
  | _ => none

/-- all of a family but one are dead -/
noncomputable def killAll (H : Hp) (me : Nat) : List Nat → Option Hp
  | [] => some H
  | x :: l => bif Nat.beq x me then killAll H me l else
    match H.upd x .dead with | some H => killAll H me l | none => none

/-- after a write to block id, an open row of family fam -/
noncomputable def killOthers (H : Hp) (id fam : Nat) : Option Hp :=
  match H.fam.get fam with
  | none => none
  | some l =>
    match killAll H id l with
    | none => none
    | some H => H.setFam fam [id]

/-- vs stored from cell (id, off) on -/
noncomputable def evStoreCells (H : Hp) (id off : Nat) (vs : List Value) : Option Hp :=
  match vs with
  | [] => some H
  | _ => bif Nat.blt id H.glo then none else
    match H.mem.get id with
    | some (.row cells elem opn fam fz sh) =>
      bif Nat.ble fz off && vs.all oneCell then
        match splice off cells vs with
        | none => none
        | some cells =>
          match H.upd id (.row cells elem opn fam fz sh) with
          | none => none
          | some H => bif opn then killOthers H id fam else some H
      else none
    | _ => none

noncomputable def evStore (P : Program) (H : Hp) (t : TypeId) (p v : Value) : Option Hp :=
  match p with
  | .pointer (some a) => match a.spot with
    | some _ => none
    | none => match sizeT P t with
      | some n => bif Nat.beq v.cells.toList.length n then evStoreCells H a.block a.off v.cells.toList else none
      | none => none
  | _ => none

noncomputable def newRowA (H : Hp) (elem : TypeId) (cells : List Value) : Option (Nat × Hp) := H.new (.row cells elem false 0 0 false)

noncomputable def evBox (H : Hp) (elem : TypeId) (v : Value) : Option (Value × Hp) :=
  bif v.cells.toList.all oneCell then
    match newRowA H elem v.cells.toList with
    | some (id, H) => some (.pointer (some ⟨id, 0, none⟩), H)
    | none => none
  else none

noncomputable def evFieldAddr (P : Program) (s : TypeId) (p : Value) (field : Nat) : Option Value :=
  match p with
  | .pointer (some a) => match a.spot with
    | some _ => none
    | none => match P.underlying s with
      | some (.struct fields) => match fields[field]? with
        | some f => match sizeT P f.type with
          | some (_ + 1) => some (.pointer (some ⟨a.block, a.off + f.offset, none⟩))
          | _ => none
        | none => none
      | _ => none
  | _ => none

noncomputable def intIn (i : Int) (len : Nat) : Option Nat :=
  match i with
  | .ofNat n => bif Nat.blt n len then some n else none
  | .negSucc _ => none

noncomputable def intUp (i : Int) (len : Nat) : Option Nat :=
  match i with
  | .ofNat n => bif Nat.ble n len then some n else none
  | .negSucc _ => none

noncomputable def evIndexAddr (P : Program) (t : TypeId) (x ix : Value) : Option Value :=
  match ix with
  | .int _ i =>
    match P.underlying t, x with
    | some (.array len elem), .pointer (some a) => match a.spot with
      | some _ => none
      | none => match intIn i len, sizeT P elem with
        | some n, some sz => some (.pointer (some ⟨a.block, a.off + n * sz, none⟩))
        | _, _ => none
    | some (.slice elem), .slice (some a) len _ => match a.spot with
      | some _ => none
      | none => match intIn i len, sizeT P elem with
        | some n, some sz => some (.pointer (some ⟨a.block, a.off + n * sz, none⟩))
        | _, _ => none
    | _, _ => none
  | _ => none

noncomputable def bnd (d : Nat) (top : Nat) : Option Value → Option Nat
  | none => some d
  | some (.int _ i) => intUp i top
  | some _ => none

/-- slicing; three indexes are not taken -/
noncomputable def evSlice (P : Program) (H : Hp) (t : TypeId) (x : Value) (lo hi : Option Value) : Option Value :=
  match P.underlying t, x with
  | some (.array n elem), .pointer (some a) => match a.spot with
    | some _ => none
    | none => match sizeT P elem with
      | none => none
      | some sz => bif !Nat.blt n openCap then none else match bnd n n hi with
        | none => none
        | some h => match bnd 0 h lo with
          | none => none
          | some l => some (.slice (some (bif Nat.beq n l then a else ⟨a.block, a.off + l * sz, none⟩)) (Nat.sub h l) (Nat.sub n l))
  | some (.slice elem), .slice (some a) len cap => match a.spot with
    | some _ => none
    | none => match sizeT P elem with
      | none => none
      | some sz =>
        bif Nat.beq cap openCap then
          match H.mem.get a.block with
          | some (.row _ el _ _ _ _) => bif !Nat.beq el elem then none else
            (match bnd len len hi with
            | none => none
            | some h => match bnd 0 h lo with
              | none => none
              | some l => some (.slice (some ⟨a.block, a.off + l * sz, none⟩) (Nat.sub h l) openCap))
          | _ => none
        else
          match bnd len cap hi with
          | none => none
          | some h => match bnd 0 h lo with
            | none => none
            | some l => some (.slice (some (bif Nat.beq cap l then a else ⟨a.block, a.off + l * sz, none⟩)) (Nat.sub h l) (Nat.sub cap l))
  | _, _ => none

noncomputable def roomCap : Nat := 1099511627776

noncomputable def zeroOne (v : Value) (n : Nat) : List Value := Nat.rec (motive := fun _ => List Value) [] (fun _ ih => v :: ih) n
noncomputable def zeroMany (z : List Value) (n : Nat) : List Value := Nat.rec (motive := fun _ => List Value) [] (fun _ ih => z ++ ih) n
/-- n times z -/
noncomputable def zeroCellsL (z : List Value) (n : Nat) : List Value :=
  match z with
  | [] => []
  | [v] => zeroOne v n
  | a :: b :: z => zeroMany (a :: b :: z) n

noncomputable def evMakeSlice (P : Program) (H : Hp) (t : TypeId) (l c : Value) : Option (Value × Hp) :=
  match l, c, P.underlying t with
  | .int _ l, .int _ c, some (.slice elem) =>
    match zeroT P elem, bytesT P elem, sizeT P elem with
    | some z, some by_, some sz =>
      match intUp c 1000000, intUp l 1000000 with
      | some c, some l =>
        bif Nat.ble l c && Nat.ble by_ 1000000 && Nat.beq z.cells.toList.length sz && z.cells.toList.all oneCell && plain z then
          match newRowA H elem (zeroCellsL z.cells.toList c) with
          | some (id, H) => some (.slice (some ⟨id, 0, none⟩) l c, H)
          | none => none
        else none
      | _, _ => none
    | _, _, _ => none
  | _, _, _ => none

/-- the first n elements (sz cells each) of a slice or string -/
noncomputable def evFirst (H : Hp) (sz n : Nat) : Value → Option (List Value)
  | .slice (some a) _ _ => match a.spot with
    | some _ => none
    | none => match n with
      | 0 => some []
      | _ => match H.mem.get a.block with
        | some (.row cells _ _ _ _ _) => takeN (n * sz) (dropN a.off cells)
        | _ => none
  | .slice none _ _ => match n with | 0 => some [] | _ => none
  | .string s => match takeN n s.data.toList with
    | some l => some (l.map fun b => .int .u8 b.toNat)
    | none => none
  | _ => none

noncomputable def lenA : Value → Option Nat
  | .slice _ n _ => some n
  | .string s => some s.data.toList.length
  | _ => none

/-- the members of a family before (and with) the one of that name; those behind it die -/
noncomputable def cutFam (H : Hp) (id : Nat) : List Nat → Option (List Nat × Hp)
  | [] => none
  | x :: l => bif Nat.beq x id then some (x :: l, H) else
    match H.upd x .dead with | some H => cutFam H id l | none => none

/-- the members that are longer than what is kept die too -/
noncomputable def cutMore (H : Hp) (l : List Nat) (same : Bool) : Option (List Nat × Hp) :=
  bif same then some (l, H) else (match killAll H H.nx l with | some H => some ([], H) | none => none)

noncomputable def fresh (H : Hp) (elem : TypeId) (cells : List Value) (len : Nat) : Option (Value × Hp) :=
  match H.newOpen cells elem false with
  | some (id, H) => some (.slice (some ⟨id, 0, none⟩) len openCap, H)
  | none => none

noncomputable def evAppend (P : Program) (H : Hp) (ts : TypeId) (s x : Value) : Option (Value × Hp) :=
  match P.underlying ts, s with
  | some (.slice elem), .slice base sLen sCap =>
    match sizeT P elem, bytesT P elem, zeroT P elem, lenA x with
    | some sz, some by_, some z, some n =>
      bif !(Nat.ble (sLen + n) 1000000 && Nat.ble by_ 1000000 && Nat.beq z.cells.toList.length sz) then none else
      match evFirst H sz n x with
      | none => none
      | some new =>
        bif !(new.all oneCell && Nat.beq new.length (n * sz)) then none else
        bif Nat.beq sCap openCap then
          match base with
          | some a => match a.spot with
            | some _ => none
            | none => match H.mem.get a.block with
              | some (.row cells el true fam fz sh) =>
                bif !(Nat.beq el elem && !Nat.blt a.block H.glo && Nat.ble fz (a.off + sLen * sz)) then none else
                bif Nat.beq n 0 then some (s, H) else
                bif !(Nat.beq a.off 0) then none else
                match takeN (sLen * sz) cells with
                | none => none
                | some old =>
                  match H.fam.get fam with
                  | none => none
                  | some l =>
                    match cutFam H a.block l with
                    | none => none
                    | some (l, H) =>
                      match cutMore H l (Nat.beq cells.length (sLen * sz)) with
                      | none => none
                      | some (l, H) =>
                        match H.setFam fam (H.nx :: l) with
                        | none => none
                        | some H => match H.new (.row (old ++ new) elem true fam fz sh) with
                          | some (id, H) => some (.slice (some ⟨id, 0, none⟩) (sLen + n) openCap, H)
                          | none => none
              | _ => none
          | none => none
        else
          bif Nat.ble (sLen + n) sCap then
            match base with
            | none => bif Nat.beq n 0 then some (s, H) else none
            | some a => match a.spot with
              | some _ => none
              | none => match evStoreCells H a.block (a.off + sLen * sz) new with
                | some H => some (.slice base (sLen + n) sCap, H)
                | none => none
          else
            match evFirst H sz sLen s with
            | none => none
            | some old => bif Nat.beq old.length (sLen * sz) then fresh H elem (old ++ new) (sLen + n) else none
    | _, _, _, _ => none
  | _, _ => none

noncomputable def evCopy (P : Program) (H : Hp) (td : TypeId) (d s : Value) : Option (Value × Hp) :=
  match P.underlying td, d, lenA s with
  | some (.slice elem), .slice base dLen _, some sLen =>
    match sizeT P elem with
    | none => none
    | some sz =>
      let n := bif Nat.ble sLen dLen then sLen else dLen
      match evFirst H sz n s with
      | none => none
      | some cells => match base with
        | none => some (.int .i64 n, H)
        | some a => match a.spot with
          | some _ => none
          | none => bif !(cells.all oneCell) then none else match evStoreCells H a.block a.off cells with
            | some H => some (.int .i64 n, H)
            | none => none
  | _, _, _ => none

noncomputable def places (P : Program) : List Field → Option (List (Nat × Nat))
  | [] => some []
  | f :: l => match sizeT P f.type, places P l with
    | some n, some r => some ((f.offset, n) :: r)
    | _, _ => none

/-- the parts laid over the cells -/
noncomputable def fillA (place : Nat → Option (Nat × Nat)) : List Value → List (Nat × Value) → Option (List Value)
  | cells, [] => some cells
  | cells, (i, v) :: rest => match place i with
    | none => none
    | some (off, size) => bif Nat.beq v.cells.toList.length size then
        (match splice off cells v.cells.toList with
          | some cells => fillA place cells rest
          | none => none)
      else none

noncomputable def evBuild (P : Program) (t : TypeId) (parts : List (Nat × Value)) : Option Value :=
  match zeroT P t, P.underlying t with
  | some z, some (.struct fields) => bif plain z then
      match places P fields.toList with
      | some ps => match fillA (nth ps) z.cells.toList parts with
        | some cells => some (.agg cells.toArray)
        | none => none
      | none => none
    else none
  | some z, some (.array _ elem) => bif plain z then
      match sizeT P elem with
      | some sz => match fillA (fun i => some (i * sz, sz)) z.cells.toList parts with
        | some cells => some (.agg cells.toArray)
        | none => none
      | none => none
    else none
  | _, _ => none

noncomputable def evBuildSlice (P : Program) (H : Hp) (t : TypeId) (len : Nat) (parts : List (Nat × Value)) : Option (Value × Hp) :=
  match P.underlying t with
  | some (.slice elem) => match sizeT P elem, zeroT P elem with
    | some sz, some z =>
      bif Nat.ble len 100000 && Nat.ble (len * sz) 100000 && plain z && Nat.beq z.cells.toList.length sz then
        match fillA (fun i => some (i * sz, sz)) (zeroCellsL z.cells.toList len) parts with
        | some cells => bif cells.all oneCell then
            (match newRowA H elem cells with
              | some (id, H) => some (.slice (some ⟨id, 0, none⟩) len len, H)
              | none => none)
          else none
        | none => none
      else none
    | _, _ => none
  | _ => none

noncomputable def pairs (T : Tr Value) (H : Hp) : List (Nat × Operand) → Option (List (Nat × Value))
  | [] => some []
  | (i, x) :: l => match opd T H x with
    | some v => match pairs T H l with | some r => some ((i, v) :: r) | none => none
    | none => none

/-! ### Maps: keys are plain -/
noncomputable def testA (P : Program) (kt : TypeId) (kd : TypeDesc) (k key : Value) : Option Bool :=
  match Instr.sameNow kd k key with
  | some b => some b
  | none => evPure P (Op.equal kt k key)
noncomputable def foundA (i : Nat) (v : Value) : Option (Option (Nat × Value)) → Option (Option (Nat × Value))
  | some none => some (some (i, v))
  | _ => none
/-- (all keys are looked at: in the machine's memory they may lie in another order) -/
noncomputable def findA (P : Program) (kt : TypeId) (kd : TypeDesc) (k : Value) : List MapEntry → Nat → Option (Option (Nat × Value))
  | [], _ => some none
  | e :: es, i => match testA P kt kd k e.key with
    | some true => foundA i e.val (findA P kt kd k es (Nat.succ i))
    | some false => findA P kt kd k es (Nat.succ i)
    | none => none

noncomputable def keyOk (P : Program) (kt : TypeId) (k : Value) (empty : Bool) : Bool :=
  plain k && (match evPure P (Instr.checkKey empty 10000 kt k) with | some _ => true | none => false)

noncomputable def mapEntries (H : Hp) : Value → Option (List MapEntry)
  | .map none => some []
  | .map (some r) => (match H.mem.get r with | some (.map es _) => some es | _ => none)
  | _ => none

noncomputable def evLookup (P : Program) (H : Hp) (t : TypeId) (x k : Value) (ok : Bool) : Option Value :=
  match P.underlying t with
  | some (.map key elem) =>
    match mapEntries H x with
    | none => none
    | some es => bif !(keyOk P key k es.isEmpty) then none else
      match P.underlying key, zeroT P elem with
      | some kd, some z => bif !(plain z) then none else
        match findA P key kd k es 0 with
        | some (some (_, v)) => some (bif ok then .tuple #[v, .bool true] else v)
        | some none => some (bif ok then .tuple #[z, .bool false] else z)
        | none => none
      | _, _ => none
  | _ => none

noncomputable def setVal : List MapEntry → Nat → Value → Value → List MapEntry
  | [], _, _, _ => []
  | e :: es, 0, k, v => { e with key := k, val := v } :: es
  | e :: es, n + 1, k, v => e :: setVal es n k v

noncomputable def evMapUpdate (P : Program) (H : Hp) (t : TypeId) (m k v : Value) : Option Hp :=
  match P.underlying t, m with
  | some (.map key _), .map (some r) => match H.mem.get r with
    | some (.map es clock) => bif !(keyOk P key k false && !Nat.blt r H.glo) then none else
      match P.underlying key with
      | none => none
      | some kd => match findA P key kd k es 0 with
        | some (some (i, _)) => match nth es i with
          | none => none
          | some e => bif Instr.sameBits 10000 e.key k then H.upd r (.map (setVal es i k v) clock) else none
        | some none => H.upd r (.map (es ++ [{ key := k, val := v, born := clock }]) (Nat.succ clock))
        | none => none
    | _ => none
  | _, _ => none

/-! ### The other operations on values -/
noncomputable def evTypeAssert (P : Program) (x : Value) (asserted : TypeId) (ok : Bool) : Option Value :=
  let fails : Option Value := bif ok then (match zeroT P asserted with | some z => bif plain z then some (.tuple #[z, .bool false]) else none | none => none) else none
  match P.underlying asserted, x with
  | some (.interface _), .nilIface => fails
  | some (.interface want), .iface t _ => match P.info? t with
    | some i => match Instr.missingMethod want i.methods with
      | none => some (bif ok then .tuple #[x, .bool true] else x)
      | some _ => fails
    | none => none
  | some _, .nilIface => fails
  | some _, .iface t v => bif Nat.beq t asserted then some (bif ok then .tuple #[v, .bool true] else v) else fails
  | _, _ => none

/-- a conversion between a pointer and an untyped one -/
noncomputable def evConvPtr (P : Program) (H : Hp) (src dst : TypeId) (x : Value) : Option Value :=
  match P.underlying src, P.underlying dst, x with
  | some (.pointer t), some .unsafePointer, .pointer (some a) => (match a.spot, sizeT P t, H.mem.get a.block with
    | none, some (_ + 1), some (.row cells _ _ _ _ _) => bif Nat.blt a.off cells.length then some x else none
    | _, _, _ => none)
  | some .unsafePointer, some (.pointer u), .pointer (some a) => (match a.spot, sizeT P u, H.mem.get a.block with
    | none, some (_ + 1), some (.row cells e false _ _ _) => bif liesAt P P.depth e (cells.length / P.cellsOf e) a.off u 1 then some x else none
    | _, _, _ => none)
  | _, _, _ => none

noncomputable def bytesOfCells : List Value → Option (List UInt8)
  | [] => some []
  | .int .u8 (.ofNat n) :: l => bif Nat.blt n 256 then (match bytesOfCells l with | some r => some (UInt8.ofNat n :: r) | none => none) else none
  | _ :: _ => none

/-- string(b) -/
noncomputable def evToString (P : Program) (H : Hp) (src dst : TypeId) (x : Value) : Option Value :=
  match P.underlying src, P.underlying dst, x with
  | some (.slice e), some .string, .slice (some a) len _ => (match P.underlying e with
    | some (.int .u8) => (match evFirst H 1 len (.slice (some a) len 0) with
      | some cells => (match bytesOfCells cells with
        | some bs => some (.string ⟨bs.toArray⟩)
        | none => none)
      | none => none)
    | _ => none)
  | some (.slice e), some .string, .slice none _ _ => (match P.underlying e with
    | some (.int .u8) => some (.string .empty)
    | _ => none)
  | _, _, _ => none

/-! the same by halves: no deep recursion at long rows (by the recursors themselves: the kernel's run is the shorter) -/
noncomputable def isByte (v : Value) : Bool := match v with
  | .int .u8 (.ofNat n) => Nat.blt n 256
  | _ => false
noncomputable def byteOf (v : Value) : UInt8 := match v with
  | .int .u8 (.ofNat n) => UInt8.ofNat n
  | _ => 0
noncomputable def okOne (l : List Value) : Option (List Value) := List.rec (motive := fun _ => Option (List Value)) none (fun v t _ => Bool.rec (motive := fun _ => Option (List Value)) none (some t) (isByte v)) l
/-- the list behind 2^k bytes -/
noncomputable def dcOk (k : Nat) : List Value → Option (List Value) :=
  Nat.rec (motive := fun _ => List Value → Option (List Value)) okOne (fun _ ih l => Option.rec (motive := fun _ => Option (List Value)) none ih (ih l)) k
/-- are the first n, fewer than 2^k, bytes -/
noncomputable def dcOkN (k : Nat) : Nat → List Value → Bool :=
  Nat.rec (motive := fun _ => Nat → List Value → Bool) (fun n _ => Nat.beq n 0)
    (fun k ih n l => Bool.rec (motive := fun _ => Bool) (Option.rec (motive := fun _ => Bool) false (fun r => ih (Nat.sub n (Nat.pow 2 k)) r) (dcOk k l)) (ih n l) (Nat.blt n (Nat.pow 2 k))) k
noncomputable def takeB (n : Nat) (l : List Value) : List UInt8 :=
  List.rec (motive := fun _ => Nat → List UInt8) (fun _ => []) (fun v _ ih n => Nat.rec (motive := fun _ => List UInt8) [] (fun m _ => byteOf v :: ih m) n) l n
noncomputable def toStr (len : Nat) (cells : List Value) : Option Value := bif dcOkN 21 len cells then some (.string ⟨(takeB len cells).toArray⟩) else none
noncomputable def evToStringL (P : Program) (H : Hp) (src dst : TypeId) (x : Value) : Option Value :=
  match P.underlying src, P.underlying dst, x with
  | some (.slice e), some .string, .slice (some a) len _ => (match P.underlying e, a.spot, H.mem.get a.block with
    | some (.int .u8), none, some (.row cells _ _ _ _ _) => toStr len (dropN a.off cells)
    | _, _, _ => none)
  | _, _, _ => none
noncomputable def longer (x : Value) : Bool := match x with
  | .slice _ len _ => Nat.blt 256 len
  | _ => false
noncomputable def evToStringD (P : Program) (H : Hp) (src dst : TypeId) (x : Value) : Option Value :=
  bif longer x then evToStringL P H src dst x else evToString P H src dst x

noncomputable def isNil {α : Type} (l : List α) : Bool := List.rec (motive := fun _ => Bool) true (fun _ _ _ => false) l
noncomputable def dropOne {α : Type} (l : List α) : Option (List α) := List.rec (motive := fun _ => Option (List α)) none (fun _ t _ => some t) l
/-- the list behind 2^k -/
noncomputable def dcDrop {α : Type} (k : Nat) : List α → Option (List α) :=
  Nat.rec (motive := fun _ => List α → Option (List α)) dropOne (fun _ ih l => Option.rec (motive := fun _ => Option (List α)) none ih (ih l)) k
/-- the length, below 2^k, and n -/
noncomputable def dcSize {α : Type} (k : Nat) : Nat → List α → Option Nat :=
  Nat.rec (motive := fun _ => Nat → List α → Option Nat) (fun n l => Bool.rec (motive := fun _ => Option Nat) none (some n) (isNil l))
    (fun k ih n l => Option.rec (motive := fun _ => Option Nat) (ih n l) (fun r => ih (Nat.add n (Nat.pow 2 k)) r) (dcDrop k l)) k
noncomputable def lenD {α : Type} (l : List α) : Option Nat := bif isNil (dropN 256 l) then some l.length else
  match dcSize 17 0 l with
  | some n => some n
  | none => dcSize 21 0 l

/-- []byte(s): a new row, with room that nobody knows -/
noncomputable def strCells (l : List UInt8) : List Value := List.rec (motive := fun _ => List Value) [] (fun b _ r => Value.int .u8 (.ofNat b.toNat) :: r) l
noncomputable def evStrBytes2 (n : Nat) : Option (Nat × Hp) → Option (Value × Hp)
  | some (id, H) => some (.slice (some ⟨id, 0, none⟩) n openCap, H)
  | none => none
noncomputable def evStrBytes (P : Program) (H : Hp) (src dst : TypeId) (s : ByteArray) : Option (Value × Hp) :=
  match P.underlying src, P.underlying dst with
  | some .string, some (.slice e) => (match P.underlying e with
    | some (.int .u8) => bif Nat.beq (P.cellsOf e) 1 then evStrBytes2 s.data.toList.length (H.newOpen (strCells s.data.toList) e true) else none
    | _ => none)
  | _, _ => none

/-- a string over bytes that lie there -/
noncomputable def evUnsafeString (P : Program) (H : Hp) (pt : TypeId) (p n : Value) : Option (Value × Hp) :=
  match p, n with
  | .pointer (some a), .int .i64 (.ofNat 0) => (match a.spot with | none => some (.string .empty, H) | some _ => none)
  | .pointer none, .int .i64 (.ofNat 0) => some (.string .empty, H)
  | .pointer (some a), .int .i64 (.ofNat (n + 1)) => (match a.spot, P.underlying pt, H.mem.get a.block with
    | none, some (.pointer u), some (.row cells e opn fam fz sh) =>
      bif !(Nat.beq e u && Nat.beq (P.cellsOf e) 1 && Nat.ble (n + 1) 1000000 && !Nat.blt a.block H.glo && Nat.beq a.off 0 && !sh) then none else
      (match takeN (n + 1) cells with
      | none => none
      | some l => (match bytesOfCells l with
        | none => none
        | some bs =>
          match H.upd a.block (.row cells e opn fam (bif sh then farFz else Nat.max fz (n + 1)) sh) with
          | some H => (match (bif opn then killOthers H a.block fam else some H) with
            | some H => some (.string ⟨bs.toArray⟩, H)
            | none => none)
          | none => none))
    | _, _, _ => none)
  | _, _ => none

/-- '==' of pointers, slices, maps, functions and interfaces, one side nil -/
noncomputable def evEqNil (P : Program) (t : TypeId) (x y : Value) : Option Bool :=
  match P.underlying t, x, y with
  | some (.pointer _), .pointer none, .pointer b => some b.isNone
  | some (.pointer _), .pointer (some _), .pointer none => some false
  | some (.pointer elem), .pointer (some a), .pointer (some b) => (match sizeT P elem with
    | some (_ + 1) => bif Nat.beq a.block b.block then some (a == b) else none
    | _ => none)
  | some (.slice _), .slice none _ _, .slice b _ _ => some b.isNone
  | some (.slice _), .slice (some _) _ _, .slice none _ _ => some false
  | some (.map _ _), .map none, .map b => some b.isNone
  | some (.map _ _), .map (some _), .map none => some false
  | some (.func _ _ _), .nilFunc, .func _ _ _ => some false
  | some (.func _ _ _), .func _ _ _, .nilFunc => some false
  | some (.interface _), .nilIface, .iface _ _ => some false
  | some (.interface _), .iface _ _, .nilIface => some false
  | _, _, _ => none

end Go.Cre

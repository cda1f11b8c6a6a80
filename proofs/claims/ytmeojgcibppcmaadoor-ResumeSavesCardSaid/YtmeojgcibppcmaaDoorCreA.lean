/- A part of the proof of ResumeSaves. -/
import GoSem.Step
import Derived.Calls
import Derived.Defers
import Derived.Recover
set_option linter.unusedVariables false
set_option linter.unusedSimpArgs false
namespace Go.Cre
inductive Tr (α : Type) where
 | leaf
 | node (v : Option α) (l r : Tr α)
noncomputable def Tr.get {α : Type} (t : Tr α) : Nat → Option α :=
 Tr.rec (motive := fun _ => Nat → Option α) (fun _ => none)
  (fun v _ _ l r n => Nat.rec (motive := fun _ => Option α) v (fun m _ => Bool.rec (motive := fun _ => Option α) (r (Nat.div m 2)) (l (Nat.div m 2)) (Nat.beq (Nat.mod m 2) 0)) n) t
noncomputable def Tr.left {α : Type} (v : Option α) (r : Tr α) (l : Option (Tr α)) : Option (Tr α) := Option.rec (motive := fun _ => Option (Tr α)) none (fun l => some (.node v l r)) l
noncomputable def Tr.right {α : Type} (v : Option α) (l : Tr α) (r : Option (Tr α)) : Option (Tr α) := Option.rec (motive := fun _ => Option (Tr α)) none (fun r => some (.node v l r)) r
noncomputable def Tr.put {α : Type} (a : α) (t : Tr α) : Nat → Option (Tr α) :=
 Tr.rec (motive := fun _ => Nat → Option (Tr α))
  (fun n => Nat.rec (motive := fun _ => Option (Tr α)) (some (.node (some a) .leaf .leaf)) (fun _ _ => none) n)
  (fun v l r pl pr n => Nat.rec (motive := fun _ => Option (Tr α)) (some (.node (some a) l r))
   (fun m _ => Bool.rec (motive := fun _ => Option (Tr α)) (Tr.right v l (pr (Nat.div m 2))) (Tr.left v r (pl (Nat.div m 2))) (Nat.beq (Nat.mod m 2) 0)) n) t
noncomputable def Tr.set {α : Type} (_ : Nat) (t : Tr α) (n : Nat) (a : α) : Option (Tr α) := Tr.put a t n
noncomputable def Tr.full {α : Type} (a : α) (d : Nat) : Tr α := Nat.rec (motive := fun _ => Tr α) .leaf (fun _ t => .node (some a) t t) d
noncomputable def trDepth : Nat := 64
structure ALoop where
 state : LoopState
 pending : Option Code
 T : Tr Value
 n : Nat
 params : List Tmp
 assign : Code
 body : Code
 dfr : Nat
inductive Blk where
 | row (cells : List Value) (elem : TypeId) (opn : Bool) (fam : Nat) (fz : Nat) (sh : Bool)
 | map (es : List MapEntry) (clock : Nat)
 | loop (l : ALoop)
 | dfr (ds : Option (List Deferred))
 | dead
structure Hp where
 mem : Tr Blk
 nx : Nat
 fam : Tr (List Nat)
 nf : Nat
 glo : Nat
structure St where
 T : Tr Value
 n : Nat
 ds : List Deferred
 dfd : Bool
 um : FrameMode
 rnd : Option Nat
noncomputable def openCap : Nat := 1208925819614629174706176
noncomputable def farFz : Nat := 1208925819614629174706176
noncomputable def Hp.upd2 (nx : Nat) (fam : Tr (List Nat)) (nf glo : Nat) : Option (Tr Blk) → Option Hp
 | some m => some ⟨m, nx, fam, nf, glo⟩
 | none => none
noncomputable def Hp.upd (H : Hp) (id : Nat) (b : Blk) : Option Hp :=
 match H with
 | ⟨mem, nx, fam, nf, glo⟩ => Hp.upd2 nx fam nf glo (Tr.put b mem id)
noncomputable def Hp.new3 (nx : Nat) (fam : Tr (List Nat)) (nf glo : Nat) (m : Tr Blk) : Nat → Option (Nat × Hp)
 | 0 => none
 | n + 1 => some (nx, ⟨m, n + 1, fam, nf, glo⟩)
noncomputable def Hp.new2 (nx : Nat) (fam : Tr (List Nat)) (nf glo : Nat) : Option (Tr Blk) → Option (Nat × Hp)
 | some m => Hp.new3 nx fam nf glo m (Nat.succ nx)
 | none => none
noncomputable def Hp.new (H : Hp) (b : Blk) : Option (Nat × Hp) :=
 match H with
 | ⟨mem, nx, fam, nf, glo⟩ => Hp.new2 nx fam nf glo (Tr.put b mem nx)
noncomputable def Hp.setFam2 (mem : Tr Blk) (nx nf glo : Nat) : Option (Tr (List Nat)) → Option Hp
 | some f => some ⟨mem, nx, f, nf, glo⟩
 | none => none
noncomputable def Hp.setFam (H : Hp) (f : Nat) (l : List Nat) : Option Hp :=
 match H with
 | ⟨mem, nx, fam, nf, glo⟩ => Hp.setFam2 mem nx nf glo (Tr.put l fam f)
noncomputable def Hp.newFam3 (mem : Tr Blk) (nx : Nat) (fam : Tr (List Nat)) (nf glo : Nat) : Nat → Option (Nat × Hp)
 | 0 => none
 | n + 1 => some (nf, ⟨mem, nx, fam, n + 1, glo⟩)
noncomputable def Hp.newFam2 (mem : Tr Blk) (nx nf glo : Nat) : Option (Tr (List Nat)) → Option (Nat × Hp)
 | some f => Hp.newFam3 mem nx f nf glo (Nat.succ nf)
 | none => none
noncomputable def Hp.newFam (H : Hp) : Option (Nat × Hp) :=
 match H with
 | ⟨mem, nx, fam, nf, glo⟩ => Hp.newFam2 mem nx nf glo (Tr.put [nx] fam nf)
noncomputable def Hp.newOpen (H : Hp) (cells : List Value) (elem : TypeId) (sh : Bool) : Option (Nat × Hp) :=
 match H.newFam with
 | some (f, H) => H.new (.row cells elem true f 0 sh)
 | none => none
noncomputable def plainN : Nat → Value → Bool
 | 0, _ => false
 | n + 1, v =>
  match v with
  | .bool _ | .int _ _ | .float _ _ | .string _ | .nilFunc | .nilIface => true
  | .pointer none | .slice none _ _ | .map none => true
  | .iface _ v => plainN n v
  | .agg cs => cs.toList.all (plainN n)
  | .tuple cs => cs.toList.all (plainN n)
  | .func (.func _) a b => a.isEmpty && b.isEmpty
  | _ => false
noncomputable def plain (v : Value) : Bool := plainN 8 v
noncomputable def nth {α : Type} (l : List α) : Nat → Option α :=
 List.rec (motive := fun _ => Nat → Option α) (fun _ => none) (fun a _ r n => Nat.rec (motive := fun _ => Option α) (some a) (fun m _ => r m) n) l
noncomputable def dropN {α : Type} (n : Nat) (l : List α) : List α :=
 List.rec (motive := fun _ => Nat → List α) (fun _ => []) (fun a t r n => Nat.rec (motive := fun _ => List α) (a :: t) (fun m _ => r m) n) l n
noncomputable def takeN {α : Type} : Nat → List α → Option (List α)
 | 0, _ => some []
 | _ + 1, [] => none
 | n + 1, a :: l => match takeN n l with | some r => some (a :: r) | none => none
noncomputable def splice {α : Type} : Nat → List α → List α → Option (List α)
 | 0, l, [] => some l
 | 0, [], _ :: _ => none
 | 0, _ :: l, v :: vs => match splice 0 l vs with | some r => some (v :: r) | none => none
 | _ + 1, [], _ => none
 | n + 1, a :: l, vs => match splice n l vs with | some r => some (a :: r) | none => none
noncomputable def oneCell : Value → Bool
 | .agg _ => false
 | .tuple _ => false
 | _ => true
noncomputable def evPure {α : Type} (P : Program) : Sem α → Option α
 | .pure a => some a
 | .program k => evPure P (k P)
 | .mark _ k => evPure P k
 | _ => none
noncomputable def opdGlob (H : Hp) (g : Nat) : Option Value :=
 bif Nat.blt g H.glo then (match H.mem.get g with | some (.row _ _ _ _ _ _) => some (.pointer (some ⟨g, 0, none⟩)) | _ => none) else none
noncomputable def opdConst (v : Value) : Option Value := bif plain v then some v else none
noncomputable def opd (T : Tr Value) (H : Hp) (x : Operand) : Option Value :=
 Operand.rec (motive := fun _ => Option Value) (fun t => T.get t) opdConst (opdGlob H) (fun f => some (.func (.func f) #[] #[])) x
noncomputable def opds (T : Tr Value) (H : Hp) : List Operand → Option (List Value)
 | [] => some []
 | x :: l => match opd T H x with
  | some v => match opds T H l with | some vs => some (v :: vs) | none => none
  | none => none
noncomputable def aggSize (P : Program) (t : TypeId) : Option (Option Nat) :=
 match P.info? t with
 | none => none
 | some i => match P.underlying t with
  | some (.struct _) => some (some i.size)
  | some (.array _ _) => some (some i.size)
  | some _ => some none
  | none => none
noncomputable def sizeT (P : Program) (t : TypeId) : Option Nat := match P.info? t with | some i => some i.size | none => none
noncomputable def zeroT (P : Program) (t : TypeId) : Option Value := match P.info? t with | some i => i.zero | none => none
noncomputable def bytesT (P : Program) (t : TypeId) : Option Nat := match P.info? t with | some i => some i.bytes | none => none
noncomputable def evPart (P : Program) (t : TypeId) (cs : List Value) (off : Nat) : Option Value :=
 match aggSize P t with
 | some (some n) => match takeN n (dropN off cs) with | some l => some (.agg l.toArray) | none => none
 | some none => nth cs off
 | none => none
noncomputable def evLoadAt (P : Program) (H : Hp) (t : TypeId) (a : Addr) : Option Value :=
 match a.spot with
 | some _ => none
 | none => match H.mem.get a.block with
  | some (.row cells _ _ _ _ _) => evPart P t cells a.off
  | _ => none
noncomputable def evLoad (P : Program) (H : Hp) (t : TypeId) : Value → Option Value
 | .pointer (some a) => evLoadAt P H t a
 | _ => none
noncomputable def killAll (H : Hp) (me : Nat) : List Nat → Option Hp
 | [] => some H
 | x :: l => bif Nat.beq x me then killAll H me l else
  match H.upd x .dead with | some H => killAll H me l | none => none
noncomputable def killOthers (H : Hp) (id fam : Nat) : Option Hp :=
 match H.fam.get fam with
 | none => none
 | some l =>
  match killAll H id l with
  | none => none
  | some H => H.setFam fam [id]
noncomputable def evStoreCells (H : Hp) (id off : Nat) (vs : List Value) : Option Hp :=
 match vs with
 | [] => some H
 | _ => bif Nat.blt id H.glo then none else
  match H.mem.get id with
  | some (.row cells elem opn fam fz sh) =>
   bif Nat.ble fz off && vs.all oneCell then
    match splice off cells vs with
    | none => none
    | some cells =>
     match H.upd id (.row cells elem opn fam fz sh) with
     | none => none
     | some H => bif opn then killOthers H id fam else some H
   else none
  | _ => none
noncomputable def evStore (P : Program) (H : Hp) (t : TypeId) (p v : Value) : Option Hp :=
 match p with
 | .pointer (some a) => match a.spot with
  | some _ => none
  | none => match sizeT P t with
   | some n => bif Nat.beq v.cells.toList.length n then evStoreCells H a.block a.off v.cells.toList else none
   | none => none
 | _ => none
noncomputable def newRowA (H : Hp) (elem : TypeId) (cells : List Value) : Option (Nat × Hp) := H.new (.row cells elem false 0 0 false)
noncomputable def evBox (H : Hp) (elem : TypeId) (v : Value) : Option (Value × Hp) :=
 bif v.cells.toList.all oneCell then
  match newRowA H elem v.cells.toList with
  | some (id, H) => some (.pointer (some ⟨id, 0, none⟩), H)
  | none => none
 else none
noncomputable def evFieldAddr (P : Program) (s : TypeId) (p : Value) (field : Nat) : Option Value :=
 match p with
 | .pointer (some a) => match a.spot with
  | some _ => none
  | none => match P.underlying s with
   | some (.struct fields) => match fields[field]? with
    | some f => match sizeT P f.type with
     | some (_ + 1) => some (.pointer (some ⟨a.block, a.off + f.offset, none⟩))
     | _ => none
    | none => none
   | _ => none
 | _ => none
noncomputable def intIn (i : Int) (len : Nat) : Option Nat :=
 match i with
 | .ofNat n => bif Nat.blt n len then some n else none
 | .negSucc _ => none
noncomputable def intUp (i : Int) (len : Nat) : Option Nat :=
 match i with
 | .ofNat n => bif Nat.ble n len then some n else none
 | .negSucc _ => none
noncomputable def evIndexAddr (P : Program) (t : TypeId) (x ix : Value) : Option Value :=
 match ix with
 | .int _ i =>
  match P.underlying t, x with
  | some (.array len elem), .pointer (some a) => match a.spot with
   | some _ => none
   | none => match intIn i len, sizeT P elem with
    | some n, some sz => some (.pointer (some ⟨a.block, a.off + n * sz, none⟩))
    | _, _ => none
  | some (.slice elem), .slice (some a) len _ => match a.spot with
   | some _ => none
   | none => match intIn i len, sizeT P elem with
    | some n, some sz => some (.pointer (some ⟨a.block, a.off + n * sz, none⟩))
    | _, _ => none
  | _, _ => none
 | _ => none
noncomputable def bnd (d : Nat) (top : Nat) : Option Value → Option Nat
 | none => some d
 | some (.int _ i) => intUp i top
 | some _ => none
noncomputable def evSlice (P : Program) (H : Hp) (t : TypeId) (x : Value) (lo hi : Option Value) : Option Value :=
 match P.underlying t, x with
 | some (.array n elem), .pointer (some a) => match a.spot with
  | some _ => none
  | none => match sizeT P elem with
   | none => none
   | some sz => bif !Nat.blt n openCap then none else match bnd n n hi with
    | none => none
    | some h => match bnd 0 h lo with
     | none => none
     | some l => some (.slice (some (bif Nat.beq n l then a else ⟨a.block, a.off + l * sz, none⟩)) (Nat.sub h l) (Nat.sub n l))
 | some (.slice elem), .slice (some a) len cap => match a.spot with
  | some _ => none
  | none => match sizeT P elem with
   | none => none
   | some sz =>
    bif Nat.beq cap openCap then
     match H.mem.get a.block with
     | some (.row _ el _ _ _ _) => bif !Nat.beq el elem then none else
      (match bnd len len hi with
      | none => none
      | some h => match bnd 0 h lo with
       | none => none
       | some l => some (.slice (some ⟨a.block, a.off + l * sz, none⟩) (Nat.sub h l) openCap))
     | _ => none
    else
     match bnd len cap hi with
     | none => none
     | some h => match bnd 0 h lo with
      | none => none
      | some l => some (.slice (some (bif Nat.beq cap l then a else ⟨a.block, a.off + l * sz, none⟩)) (Nat.sub h l) (Nat.sub cap l))
 | _, _ => none
noncomputable def roomCap : Nat := 1099511627776
noncomputable def zeroOne (v : Value) (n : Nat) : List Value := Nat.rec (motive := fun _ => List Value) [] (fun _ ih => v :: ih) n
noncomputable def zeroMany (z : List Value) (n : Nat) : List Value := Nat.rec (motive := fun _ => List Value) [] (fun _ ih => z ++ ih) n
noncomputable def zeroCellsL (z : List Value) (n : Nat) : List Value :=
 match z with
 | [] => []
 | [v] => zeroOne v n
 | a :: b :: z => zeroMany (a :: b :: z) n
noncomputable def evMakeSlice (P : Program) (H : Hp) (t : TypeId) (l c : Value) : Option (Value × Hp) :=
 match l, c, P.underlying t with
 | .int _ l, .int _ c, some (.slice elem) =>
  match zeroT P elem, bytesT P elem, sizeT P elem with
  | some z, some by_, some sz =>
   match intUp c 1000000, intUp l 1000000 with
   | some c, some l =>
    bif Nat.ble l c && Nat.ble by_ 1000000 && Nat.beq z.cells.toList.length sz && z.cells.toList.all oneCell && plain z then
     match newRowA H elem (zeroCellsL z.cells.toList c) with
     | some (id, H) => some (.slice (some ⟨id, 0, none⟩) l c, H)
     | none => none
    else none
   | _, _ => none
  | _, _, _ => none
 | _, _, _ => none
noncomputable def evFirst (H : Hp) (sz n : Nat) : Value → Option (List Value)
 | .slice (some a) _ _ => match n with
  | 0 => some []
  | _ => match a.spot with
   | some _ => none
   | none => match H.mem.get a.block with
    | some (.row cells _ _ _ _ _) => takeN (n * sz) (dropN a.off cells)
    | _ => none
 | .slice none _ _ => match n with | 0 => some [] | _ => none
 | .string s => match takeN n s.data.toList with
  | some l => some (l.map fun b => .int .u8 b.toNat)
  | none => none
 | _ => none
noncomputable def lenA : Value → Option Nat
 | .slice _ n _ => some n
 | .string s => some s.data.toList.length
 | _ => none
noncomputable def cutFam (H : Hp) (id : Nat) : List Nat → Option (List Nat × Hp)
 | [] => none
 | x :: l => bif Nat.beq x id then some (x :: l, H) else
  match H.upd x .dead with | some H => cutFam H id l | none => none
noncomputable def cutMore (H : Hp) (l : List Nat) (same : Bool) : Option (List Nat × Hp) :=
 bif same then some (l, H) else (match killAll H H.nx l with | some H => some ([], H) | none => none)
noncomputable def fresh (H : Hp) (elem : TypeId) (cells : List Value) (len : Nat) : Option (Value × Hp) :=
 match H.newOpen cells elem false with
 | some (id, H) => some (.slice (some ⟨id, 0, none⟩) len openCap, H)
 | none => none
noncomputable def noSpot : Option Addr → Bool
 | some a => (match a.spot with | none => true | some _ => false)
 | none => true
noncomputable def evAppend (P : Program) (H : Hp) (ts : TypeId) (s x : Value) : Option (Value × Hp) :=
 match P.underlying ts, s with
 | some (.slice elem), .slice base sLen sCap =>
  match sizeT P elem, bytesT P elem, zeroT P elem, lenA x with
  | some sz, some by_, some z, some n =>
   bif !(Nat.ble (sLen + n) 1000000 && Nat.ble by_ 1000000 && Nat.beq z.cells.toList.length sz) then none else
   match evFirst H sz n x with
   | none => none
   | some new =>
    bif !(new.all oneCell && Nat.beq new.length (n * sz)) then none else
    bif Nat.beq sCap openCap then
     match base with
     | some a => match a.spot with
      | some _ => none
      | none => match H.mem.get a.block with
       | some (.row cells el true fam fz sh) =>
        bif !(Nat.beq el elem && !Nat.blt a.block H.glo && Nat.ble fz (a.off + sLen * sz)) then none else
        bif Nat.beq n 0 then some (s, H) else
        bif !(Nat.beq a.off 0) then none else
        match takeN (sLen * sz) cells with
        | none => none
        | some old =>
         match H.fam.get fam with
         | none => none
         | some l =>
          match cutFam H a.block l with
          | none => none
          | some (l, H) =>
           match cutMore H l (Nat.beq cells.length (sLen * sz)) with
           | none => none
           | some (l, H) =>
            match H.setFam fam (H.nx :: l) with
            | none => none
            | some H => match H.new (.row (old ++ new) elem true fam fz sh) with
             | some (id, H) => some (.slice (some ⟨id, 0, none⟩) (sLen + n) openCap, H)
             | none => none
       | _ => none
     | none => none
    else
     bif Nat.ble (sLen + n) sCap then
      match base with
      | none => bif Nat.beq n 0 then some (s, H) else none
      | some a => match a.spot with
       | some _ => none
       | none => match evStoreCells H a.block (a.off + sLen * sz) new with
        | some H => some (.slice base (sLen + n) sCap, H)
        | none => none
     else
      bif noSpot base then
       match evFirst H sz sLen s with
       | none => none
       | some old => bif Nat.beq old.length (sLen * sz) then fresh H elem (old ++ new) (sLen + n) else none
      else none
  | _, _, _, _ => none
 | _, _ => none
noncomputable def evCopy (P : Program) (H : Hp) (td : TypeId) (d s : Value) : Option (Value × Hp) :=
 match P.underlying td, d, lenA s with
 | some (.slice elem), .slice base dLen _, some sLen =>
  match sizeT P elem with
  | none => none
  | some sz =>
   let n := bif Nat.ble sLen dLen then sLen else dLen
   match evFirst H sz n s with
   | none => none
   | some cells => match base with
    | none => some (.int .i64 n, H)
    | some a => match a.spot with
     | some _ => none
     | none => bif !(cells.all oneCell) then none else match evStoreCells H a.block a.off cells with
      | some H => some (.int .i64 n, H)
      | none => none
 | _, _, _ => none
noncomputable def places (P : Program) : List Field → Option (List (Nat × Nat))
 | [] => some []
 | f :: l => match sizeT P f.type, places P l with
  | some n, some r => some ((f.offset, n) :: r)
  | _, _ => none
noncomputable def fillA (place : Nat → Option (Nat × Nat)) : List Value → List (Nat × Value) → Option (List Value)
 | cells, [] => some cells
 | cells, (i, v) :: rest => match place i with
  | none => none
  | some (off, size) => bif Nat.beq v.cells.toList.length size then
    (match splice off cells v.cells.toList with
     | some cells => fillA place cells rest
     | none => none)
   else none
noncomputable def evBuild (P : Program) (t : TypeId) (parts : List (Nat × Value)) : Option Value :=
 match zeroT P t, P.underlying t with
 | some z, some (.struct fields) => bif plain z then
   match places P fields.toList with
   | some ps => match fillA (nth ps) z.cells.toList parts with
    | some cells => some (.agg cells.toArray)
    | none => none
   | none => none
  else none
 | some z, some (.array _ elem) => bif plain z then
   match sizeT P elem with
   | some sz => match fillA (fun i => some (i * sz, sz)) z.cells.toList parts with
    | some cells => some (.agg cells.toArray)
    | none => none
   | none => none
  else none
 | _, _ => none
noncomputable def evBuildSlice (P : Program) (H : Hp) (t : TypeId) (len : Nat) (parts : List (Nat × Value)) : Option (Value × Hp) :=
 match P.underlying t with
 | some (.slice elem) => match sizeT P elem, zeroT P elem with
  | some sz, some z =>
   bif Nat.ble len 100000 && Nat.ble (len * sz) 100000 && plain z && Nat.beq z.cells.toList.length sz then
    match fillA (fun i => some (i * sz, sz)) (zeroCellsL z.cells.toList len) parts with
    | some cells => bif cells.all oneCell then
      (match newRowA H elem cells with
       | some (id, H) => some (.slice (some ⟨id, 0, none⟩) len len, H)
       | none => none)
     else none
    | none => none
   else none
  | _, _ => none
 | _ => none
noncomputable def pairs (T : Tr Value) (H : Hp) : List (Nat × Operand) → Option (List (Nat × Value))
 | [] => some []
 | (i, x) :: l => match opd T H x with
  | some v => match pairs T H l with | some r => some ((i, v) :: r) | none => none
  | none => none
noncomputable def testA (P : Program) (kt : TypeId) (kd : TypeDesc) (k key : Value) : Option Bool :=
 match Instr.sameNow kd k key with
 | some b => some b
 | none => evPure P (Op.equal kt k key)
noncomputable def foundA (i : Nat) (v : Value) : Option (Option (Nat × Value)) → Option (Option (Nat × Value))
 | some none => some (some (i, v))
 | _ => none
noncomputable def findA (P : Program) (kt : TypeId) (kd : TypeDesc) (k : Value) : List MapEntry → Nat → Option (Option (Nat × Value))
 | [], _ => some none
 | e :: es, i => match testA P kt kd k e.key with
  | some true => foundA i e.val (findA P kt kd k es (Nat.succ i))
  | some false => findA P kt kd k es (Nat.succ i)
  | none => none
noncomputable def keyOk (P : Program) (kt : TypeId) (k : Value) (empty : Bool) : Bool :=
 plain k && (match evPure P (Instr.checkKey empty 10000 kt k) with | some _ => true | none => false)
noncomputable def mapEntries (H : Hp) : Value → Option (List MapEntry)
 | .map none => some []
 | .map (some r) => (match H.mem.get r with | some (.map es _) => some es | _ => none)
 | _ => none
noncomputable def evLookup (P : Program) (H : Hp) (t : TypeId) (x k : Value) (ok : Bool) : Option Value :=
 match P.underlying t with
 | some (.map key elem) =>
  match mapEntries H x with
  | none => none
  | some es => bif !(keyOk P key k es.isEmpty) then none else
   match P.underlying key, zeroT P elem with
   | some kd, some z => bif !(plain z) then none else
    match findA P key kd k es 0 with
    | some (some (_, v)) => some (bif ok then .tuple #[v, .bool true] else v)
    | some none => some (bif ok then .tuple #[z, .bool false] else z)
    | none => none
   | _, _ => none
 | _ => none
noncomputable def setVal : List MapEntry → Nat → Value → Value → List MapEntry
 | [], _, _, _ => []
 | e :: es, 0, k, v => { e with key := k, val := v } :: es
 | e :: es, n + 1, k, v => e :: setVal es n k v
noncomputable def evMapUpdate (P : Program) (H : Hp) (t : TypeId) (m k v : Value) : Option Hp :=
 match P.underlying t, m with
 | some (.map key _), .map (some r) => match H.mem.get r with
  | some (.map es clock) => bif !(keyOk P key k false && !Nat.blt r H.glo) then none else
   match P.underlying key with
   | none => none
   | some kd => match findA P key kd k es 0 with
    | some (some (i, _)) => match nth es i with
     | none => none
     | some e => bif Instr.sameBits 10000 e.key k then H.upd r (.map (setVal es i k v) clock) else none
    | some none => H.upd r (.map (es ++ [{ key := k, val := v, born := clock }]) (Nat.succ clock))
    | none => none
  | _ => none
 | _, _ => none
noncomputable def evTypeAssert (P : Program) (x : Value) (asserted : TypeId) (ok : Bool) : Option Value :=
 let fails : Option Value := bif ok then (match zeroT P asserted with | some z => bif plain z then some (.tuple #[z, .bool false]) else none | none => none) else none
 match P.underlying asserted, x with
 | some (.interface _), .nilIface => fails
 | some (.interface want), .iface t _ => match P.info? t with
  | some i => match Instr.missingMethod want i.methods with
   | none => some (bif ok then .tuple #[x, .bool true] else x)
   | some _ => fails
  | none => none
 | some _, .nilIface => fails
 | some _, .iface t v => bif Nat.beq t asserted then some (bif ok then .tuple #[v, .bool true] else v) else fails
 | _, _ => none
noncomputable def evConvPtr (P : Program) (H : Hp) (src dst : TypeId) (x : Value) : Option Value :=
 match P.underlying src, P.underlying dst, x with
 | some (.pointer t), some .unsafePointer, .pointer (some a) => (match a.spot, sizeT P t, H.mem.get a.block with
  | none, some (_ + 1), some (.row cells _ _ _ _ _) => bif Nat.blt a.off cells.length then some x else none
  | _, _, _ => none)
 | some .unsafePointer, some (.pointer u), .pointer (some a) => (match a.spot, sizeT P u, H.mem.get a.block with
  | none, some (_ + 1), some (.row cells e false _ _ _) => bif liesAt P P.depth e (cells.length / P.cellsOf e) a.off u 1 then some x else none
  | _, _, _ => none)
 | _, _, _ => none
noncomputable def bytesOfCells : List Value → Option (List UInt8)
 | [] => some []
 | .int .u8 (.ofNat n) :: l => bif Nat.blt n 256 then (match bytesOfCells l with | some r => some (UInt8.ofNat n :: r) | none => none) else none
 | _ :: _ => none
noncomputable def evToString (P : Program) (H : Hp) (src dst : TypeId) (x : Value) : Option Value :=
 match P.underlying src, P.underlying dst, x with
 | some (.slice e), some .string, .slice (some a) len _ => bif !(noSpot (some a)) then none else (match P.underlying e with
  | some (.int .u8) => (match evFirst H 1 len (.slice (some a) len 0) with
   | some cells => (match bytesOfCells cells with
    | some bs => some (.string ⟨bs.toArray⟩)
    | none => none)
   | none => none)
  | _ => none)
 | some (.slice e), some .string, .slice none _ _ => (match P.underlying e with
  | some (.int .u8) => some (.string .empty)
  | _ => none)
 | _, _, _ => none
noncomputable def isByte (v : Value) : Bool := match v with
 | .int .u8 (.ofNat n) => Nat.blt n 256
 | _ => false
noncomputable def byteOf (v : Value) : UInt8 := match v with
 | .int .u8 (.ofNat n) => UInt8.ofNat n
 | _ => 0
noncomputable def okOne (l : List Value) : Option (List Value) := List.rec (motive := fun _ => Option (List Value)) none (fun v t _ => Bool.rec (motive := fun _ => Option (List Value)) none (some t) (isByte v)) l
noncomputable def dcOk (k : Nat) : List Value → Option (List Value) :=
 Nat.rec (motive := fun _ => List Value → Option (List Value)) okOne (fun _ ih l => Option.rec (motive := fun _ => Option (List Value)) none ih (ih l)) k
noncomputable def dcOkN (k : Nat) : Nat → List Value → Bool :=
 Nat.rec (motive := fun _ => Nat → List Value → Bool) (fun n _ => Nat.beq n 0)
  (fun k ih n l => Bool.rec (motive := fun _ => Bool) (Option.rec (motive := fun _ => Bool) false (fun r => ih (Nat.sub n (Nat.pow 2 k)) r) (dcOk k l)) (ih n l) (Nat.blt n (Nat.pow 2 k))) k
noncomputable def takeB (n : Nat) (l : List Value) : List UInt8 :=
 List.rec (motive := fun _ => Nat → List UInt8) (fun _ => []) (fun v _ ih n => Nat.rec (motive := fun _ => List UInt8) [] (fun m _ => byteOf v :: ih m) n) l n
noncomputable def toStr (len : Nat) (cells : List Value) : Option Value := bif dcOkN 21 len cells then some (.string ⟨(takeB len cells).toArray⟩) else none
noncomputable def evToStringL (P : Program) (H : Hp) (src dst : TypeId) (x : Value) : Option Value :=
 match P.underlying src, P.underlying dst, x with
 | some (.slice e), some .string, .slice (some a) len _ => (match P.underlying e, a.spot, H.mem.get a.block with
  | some (.int .u8), none, some (.row cells _ _ _ _ _) => toStr len (dropN a.off cells)
  | _, _, _ => none)
 | _, _, _ => none
noncomputable def longer (x : Value) : Bool := match x with
 | .slice _ len _ => Nat.blt 256 len
 | _ => false
noncomputable def evToStringD (P : Program) (H : Hp) (src dst : TypeId) (x : Value) : Option Value :=
 bif longer x then evToStringL P H src dst x else evToString P H src dst x
noncomputable def isNil {α : Type} (l : List α) : Bool := List.rec (motive := fun _ => Bool) true (fun _ _ _ => false) l
noncomputable def dropOne {α : Type} (l : List α) : Option (List α) := List.rec (motive := fun _ => Option (List α)) none (fun _ t _ => some t) l
noncomputable def dcDrop {α : Type} (k : Nat) : List α → Option (List α) :=
 Nat.rec (motive := fun _ => List α → Option (List α)) dropOne (fun _ ih l => Option.rec (motive := fun _ => Option (List α)) none ih (ih l)) k
noncomputable def dcSize {α : Type} (k : Nat) : Nat → List α → Option Nat :=
 Nat.rec (motive := fun _ => Nat → List α → Option Nat) (fun n l => Bool.rec (motive := fun _ => Option Nat) none (some n) (isNil l))
  (fun k ih n l => Option.rec (motive := fun _ => Option Nat) (ih n l) (fun r => ih (Nat.add n (Nat.pow 2 k)) r) (dcDrop k l)) k
noncomputable def lenD {α : Type} (l : List α) : Option Nat := bif isNil (dropN 256 l) then some l.length else
 match dcSize 17 0 l with
 | some n => some n
 | none => match dcSize 21 0 l with
  | some n => some n
  | none => some l.length
noncomputable def strCells (l : List UInt8) : List Value := List.rec (motive := fun _ => List Value) [] (fun b _ r => Value.int .u8 (.ofNat b.toNat) :: r) l
noncomputable def evStrBytes2 (n : Nat) : Option (Nat × Hp) → Option (Value × Hp)
 | some (id, H) => some (.slice (some ⟨id, 0, none⟩) n openCap, H)
 | none => none
noncomputable def evStrBytes (P : Program) (H : Hp) (src dst : TypeId) (s : ByteArray) : Option (Value × Hp) :=
 match P.underlying src, P.underlying dst with
 | some .string, some (.slice e) => (match P.underlying e with
  | some (.int .u8) => bif Nat.beq (P.cellsOf e) 1 then evStrBytes2 s.data.toList.length (H.newOpen (strCells s.data.toList) e true) else none
  | _ => none)
 | _, _ => none
noncomputable def evUnsafeString (P : Program) (H : Hp) (pt : TypeId) (p n : Value) : Option (Value × Hp) :=
 match p, n with
 | .pointer (some a), .int .i64 (.ofNat 0) => (match a.spot with | none => some (.string .empty, H) | some _ => none)
 | .pointer none, .int .i64 (.ofNat 0) => some (.string .empty, H)
 | .pointer (some a), .int .i64 (.ofNat (n + 1)) => (match a.spot, P.underlying pt, H.mem.get a.block with
  | none, some (.pointer u), some (.row cells e opn fam fz sh) =>
   bif !(Nat.beq e u && Nat.beq (P.cellsOf e) 1 && Nat.ble (n + 1) 1000000 && !Nat.blt a.block H.glo && Nat.beq a.off 0 && !sh) then none else
   (match takeN (n + 1) cells with
   | none => none
   | some l => (match bytesOfCells l with
    | none => none
    | some bs =>
     match H.upd a.block (.row cells e opn fam (bif sh then farFz else Nat.max fz (n + 1)) sh) with
     | some H => (match (bif opn then killOthers H a.block fam else some H) with
      | some H => some (.string ⟨bs.toArray⟩, H)
      | none => none)
     | none => none))
  | _, _, _ => none)
 | _, _ => none
noncomputable def evEqNil (P : Program) (t : TypeId) (x y : Value) : Option Bool :=
 match P.underlying t, x, y with
 | some (.pointer _), .pointer none, .pointer b => some b.isNone
 | some (.pointer _), .pointer (some _), .pointer none => some false
 | some (.pointer elem), .pointer (some a), .pointer (some b) => (match sizeT P elem with
  | some (_ + 1) => bif Nat.beq a.block b.block then some (a == b) else none
  | _ => none)
 | some (.slice _), .slice none _ _, .slice b _ _ => some b.isNone
 | some (.slice _), .slice (some _) _ _, .slice none _ _ => some false
 | some (.map _ _), .map none, .map b => some b.isNone
 | some (.map _ _), .map (some _), .map none => some false
 | some (.func _ _ _), .nilFunc, .func _ _ _ => some false
 | some (.func _ _ _), .func _ _ _, .nilFunc => some false
 | some (.interface _), .nilIface, .iface _ _ => some false
 | some (.interface _), .iface _ _, .nilIface => some false
 | _, _, _ => none
end Go.Cre
namespace Go.Cre
inductive OpRes where
 | val (v : Value) (H : Hp)
 | skip (H : Hp)
 | dfr (d : Deferred)
 | pan (chain : List PanicEntry) (H : Hp)
 | rcv
noncomputable def vRes (v : Option Value) (H : Hp) : Option OpRes := Option.rec (motive := fun _ => Option OpRes) none (fun v => some (.val v H)) v
noncomputable def vhRes : Option (Value × Hp) → Option OpRes
 | some (v, H) => some (.val v H)
 | none => none
noncomputable def hRes : Option Hp → Option OpRes
 | some H => some (.skip H)
 | none => none
noncomputable def opdOr (T : Tr Value) (H : Hp) (x : Operand) : Value := match opd T H x with | some v => v | none => undef
noncomputable def evPlain (P : Program) (T : Tr Value) (H : Hp) (o : Oper) : Option OpRes :=
 match opds T H o.op.operands.toList with
 | none => none
 | some vs => bif vs.all plain then
   match evPure P (execOp (opdOr T H) o) with
   | some (.value v) => bif plain v then some (.val v H) else none
   | some .skip => some (.skip H)
   | _ => none
  else none
noncomputable def orElse (a b : Option OpRes) : Option OpRes := match a with | some x => some x | none => b
abbrev CallEv := FuncId → List Value → Hp → Option (Ending × Hp)
abbrev YieldEv := Nat → List Value → Hp → Option (Ending × Hp)
noncomputable def evMethod (P : Program) (H : Hp) (recv : Value) (name : String) (rest : List Value) : Option (FuncId × List Value) :=
 match recv with
 | .iface t v => match P.info? t with
  | none => none
  | some i => match i.methods.find? (·.name == name) with
   | none => none
   | some m => bif !m.path.isEmpty then none else
    match m.func with
    | none => none
    | some (f, pr) => match P.underlying t, pr with
     | some (.pointer _), true => some (f, v :: rest)
     | some (.pointer _), false => none
     | some _, false => some (f, v :: rest)
     | _, _ => none
 | _ => none
noncomputable def evFn (P : Program) (H : Hp) (fn : Fn) (args captured : List Value) : Option (FuncId × List Value) :=
 match fn with
 | .func f => some (f, args ++ captured)
 | .method name => match args with | r :: rest => evMethod P H r name rest | [] => none
 | .methodOf t name => match args with
  | r :: rest => match P.underlying t with
   | some (.interface _) => evMethod P H r name rest
   | some _ => evMethod P H (.iface t r) name rest
   | none => none
  | [] => none
 | _ => none
noncomputable def endRes : Option (Ending × Hp) → Option OpRes
 | some (.returned v, H) => some (.val v H)
 | some (.panicked chain, H) => some (.pan chain H)
 | _ => none
noncomputable def yldRes : Option (Ending × Hp) → Option OpRes
 | some (.returned v, H) => some (.val v H)
 | _ => none
noncomputable def evCallee (P : Program) (call : CallEv) (yld : YieldEv) (T : Tr Value) (H : Hp) (c : Call) : Option OpRes :=
 match opds T H c.args.toList with
 | none => none
 | some args => match c.callee with
  | .value f => match opd T H f with
   | some (.func (.yield l) first captured) => bif first.isEmpty && captured.isEmpty then yldRes (yld l args H) else none
   | some (.func fn first captured) => match evFn P H fn (first.toList ++ args) captured.toList with
    | some (f, as) => endRes (call f as H)
    | none => none
   | _ => none
  | .invoke recv name => match opd T H recv with
   | some r => match evMethod P H r name args with
    | some (f, as) => endRes (call f as H)
    | none => none
   | none => none
  | .builtin _ => none
noncomputable def forceInt {α : Type} (n : Int) (k : Int → α) : α :=
 match n with
 | .ofNat 0 => k (.ofNat 0)
 | .ofNat (m + 1) => k (.ofNat (m + 1))
 | .negSucc 0 => k (.negSucc 0)
 | .negSucc (m + 1) => k (.negSucc (m + 1))
noncomputable def retInt (H : Hp) (k : IntKind) (n : Int) : Option OpRes := some (.val (.int k n) H)
noncomputable def evBuiltin (P : Program) (S : St) (H : Hp) (o : Oper) (b : Builtin) (c : Call) : Option OpRes :=
 match opds S.T H c.args.toList with
 | none => none
 | some args => match b, args, c.argTypes.toList with
  | .len, [.slice _ n _], [t] => (match P.underlying t with
   | some (.slice _) => some (.val (.int .i64 n) H)
   | _ => none)
  | .len, [.map (some r)], [t] => (match P.underlying t with
   | some (.map _ _) => (match H.mem.get r with
    | some (.map es _) => some (.val (.int .i64 es.length) H)
    | _ => none)
   | _ => none)
  | .len, [.string s], [t] => (match P.underlying t with
   | some .string => (match lenD s.data.toList with | some n => forceInt (.ofNat n) (retInt H .i64) | none => none)
   | _ => none)
  | .append, [s, x], [ts, tx] => (match P.underlying tx with
   | some (.int _) => none
   | some _ => vhRes (evAppend P H ts s x)
   | none => none)
  | .cap, [.slice (some _) _ c], [t] => (match P.underlying t with
   | some (.slice _) => bif Nat.beq c openCap then none else some (.val (.int .i64 c) H)
   | _ => none)
  | .unsafeSliceData, [.slice (some a) len c], _ => bif Nat.beq c openCap && Nat.beq len 0 then none else bif Nat.beq c 0 then none else some (.val (.pointer (some a)) H)
  | .unsafeString, [p, n], [pt, _] => vhRes (evUnsafeString P H pt p n)
  | .copy, [d, s], [td, _] => vhRes (evCopy P H td d s)
  | .panic, [.iface t v], _ => some (.pan [{ v := .iface t v, recovered := false }] H)
  | .recover, [], _ => some .rcv
  | _, _, _ => evPlain P S.T H o
noncomputable def notYield : Fn → Bool
 | .yield _ => false
 | _ => true
noncomputable def evDefer (_P : Program) (T : Tr Value) (H : Hp) (c : Call) : Option OpRes :=
 match opds T H c.args.toList with
 | none => none
 | some args => match c.callee with
  | .value f => match opd T H f with
   | some (.func fn first captured) => bif notYield fn then some (.dfr { target := .fn fn captured, args := (first.toList ++ args).toArray }) else none
   | _ => none
  | .invoke recv name => match opd T H recv with
   | some r => some (.dfr { target := .fn (.method name) #[], args := (r :: args).toArray })
   | none => none
  | .builtin _ => none
noncomputable def optOpd (T : Tr Value) (H : Hp) : Option Operand → Option (Option Value)
 | none => some none
 | some x => match opd T H x with | some v => some (some v) | none => none
structure Cx where
 call : CallEv
 yld : YieldEv
 S : St
 H : Hp
 o : Oper
noncomputable def Cx.opd (X : Cx) (x : Operand) : Option Value := Cre.opd X.S.T X.H x
noncomputable def Cx.plainly (P : Program) (X : Cx) : Option OpRes := evPlain P X.S.T X.H X.o
noncomputable def opMove (P : Program) (X : Cx) (x : Operand) : Option OpRes := vRes (X.opd x) X.H
noncomputable def opPick2 (P : Program) (X : Cx) (a b : Operand) : Option Value → Option OpRes
 | some (.bool true) => vRes (X.opd a) X.H
 | some (.bool false) => vRes (X.opd b) X.H
 | _ => none
noncomputable def opPick (P : Program) (X : Cx) (c a b : Operand) : Option OpRes := opPick2 P X a b (X.opd c)
noncomputable def opAlloc2 (P : Program) (X : Cx) (elem : TypeId) : Option Value → Option OpRes
 | some z => bif plain z then vhRes (evBox X.H elem z) else none
 | none => none
noncomputable def opAlloc (P : Program) (X : Cx) (elem : TypeId) : Option OpRes := opAlloc2 P X elem (zeroT P elem)
noncomputable def opBox2 (P : Program) (X : Cx) (elem : TypeId) : Option Value → Option OpRes
 | some v => vhRes (evBox X.H elem v)
 | none => none
noncomputable def opBox (P : Program) (X : Cx) (elem : TypeId) (x : Operand) : Option OpRes := opBox2 P X elem (X.opd x)
noncomputable def opBuild2 (P : Program) (X : Cx) (t : TypeId) : Option (List (Nat × Value)) → Option OpRes
 | some ps => vRes (evBuild P t ps) X.H
 | none => none
noncomputable def opBuild (P : Program) (X : Cx) (t : TypeId) (parts : Array (Nat × Operand)) : Option OpRes := opBuild2 P X t (pairs X.S.T X.H parts.toList)
noncomputable def opBuildSlice2 (P : Program) (X : Cx) (t : TypeId) (len : Nat) : Option (List (Nat × Value)) → Option OpRes
 | some ps => vhRes (evBuildSlice P X.H t len ps)
 | none => none
noncomputable def opBuildSlice (P : Program) (X : Cx) (t : TypeId) (len : Nat) (parts : Array (Nat × Operand)) : Option OpRes := opBuildSlice2 P X t len (pairs X.S.T X.H parts.toList)
noncomputable def opLoad2 (P : Program) (X : Cx) (t : TypeId) : Option Value → Option OpRes
 | some p => vRes (evLoad P X.H t p) X.H
 | none => none
noncomputable def opLoad (P : Program) (X : Cx) (t : TypeId) (a : Operand) : Option OpRes := opLoad2 P X t (X.opd a)
noncomputable def opStore2 (P : Program) (X : Cx) (t : TypeId) : Option Value → Option Value → Option OpRes
 | some p, some v => hRes (evStore P X.H t p v)
 | _, _ => none
noncomputable def opStore (P : Program) (X : Cx) (t : TypeId) (a x : Operand) : Option OpRes := opStore2 P X t (X.opd a) (X.opd x)
noncomputable def opNilCheck2 (P : Program) (X : Cx) : Option Value → Option OpRes
 | some (.pointer (some a)) => some (.val (.pointer (some a)) X.H)
 | some (.func (.func f) a b) => some (.val (.func (.func f) a b) X.H)
 | some (.iface t v) => some (.val (.iface t v) X.H)
 | _ => none
noncomputable def opNilCheck (P : Program) (X : Cx) (x : Operand) : Option OpRes := opNilCheck2 P X (X.opd x)
noncomputable def limOf : IntKind → Nat
 | .i8 => 0 | .i16 => 0 | .i32 => 2147483648 | .i64 => 9223372036854775808
 | .u8 => 256 | .u16 => 65536 | .u32 => 4294967296 | .u64 => 18446744073709551616
noncomputable def wrapF (k : IntKind) (n : Int) : Int :=
 match n with
 | .ofNat m => bif Nat.blt m (limOf k) then .ofNat m else k.wrap (.ofNat m)
 | .negSucc m => bif k.signed && Nat.blt m (limOf k) then .negSucc m else k.wrap (.negSucc m)
noncomputable def intLt : Int → Int → Bool
 | .ofNat a, .ofNat b => Nat.blt a b
 | .negSucc _, .ofNat _ => true
 | .ofNat _, .negSucc _ => false
 | .negSucc a, .negSucc b => Nat.blt b a
noncomputable def intEq : Int → Int → Bool
 | .ofNat a, .ofNat b => Nat.beq a b
 | .negSucc a, .negSucc b => Nat.beq a b
 | _, _ => false
noncomputable def retBool (H : Hp) : Bool → Option OpRes
 | true => some (.val (.bool true) H)
 | false => some (.val (.bool false) H)
noncomputable def intBin (H : Hp) (k : IntKind) (a b : Int) (slow : Option OpRes) : BinOp → Option OpRes
 | .add => forceInt (wrapF k (a + b)) (retInt H k)
 | .sub => forceInt (wrapF k (a - b)) (retInt H k)
 | .mul => forceInt (wrapF k (a * b)) (retInt H k)
 | .eql => retBool H (intEq a b)
 | .neq => retBool H (!intEq a b)
 | .lss => retBool H (intLt a b)
 | .leq => retBool H (!intLt b a)
 | .gtr => retBool H (intLt b a)
 | .geq => retBool H (!intLt a b)
 | _ => slow
noncomputable def opBinEq (P : Program) (X : Cx) (t : TypeId) (a b : Value) : BinOp → Option OpRes
 | .eql => (match evEqNil P t a b with | some r => some (.val (.bool r) X.H) | none => none)
 | .neq => (match evEqNil P t a b with | some r => some (.val (.bool (!r)) X.H) | none => none)
 | _ => none
noncomputable def opBinSlow (P : Program) (X : Cx) (op : BinOp) (t : TypeId) (a b : Value) : Option OpRes := orElse (Cx.plainly P X) (opBinEq P X t a b op)
noncomputable def kindEq : IntKind → IntKind → Bool
 | .i8, .i8 => true | .i16, .i16 => true | .i32, .i32 => true | .i64, .i64 => true | .u8, .u8 => true | .u16, .u16 => true | .u32, .u32 => true | .u64, .u64 => true
 | _, _ => false
noncomputable def opBin3 (P : Program) (X : Cx) (op : BinOp) (t : TypeId) (k : IntKind) (a : Int) (l : IntKind) (b : Int) : Option OpRes :=
 bif kindEq k l then intBin X.H k a b (Cx.plainly P X) op else opBinSlow P X op t (.int k a) (.int l b)
noncomputable def opBin2 (P : Program) (X : Cx) (op : BinOp) (t : TypeId) : Option Value → Option Value → Option OpRes
 | some (.int k a), some (.int l b) => opBin3 P X op t k a l b
 | some a, some b => opBinSlow P X op t a b
 | _, _ => none
noncomputable def opBin (P : Program) (X : Cx) (op : BinOp) (t : TypeId) (x y : Operand) (_ : TypeId) : Option OpRes := opBin2 P X op t (X.opd x) (X.opd y)
noncomputable def opConvert2 (P : Program) (X : Cx) (src dst : TypeId) : Option Value → Option OpRes
 | none => none
 | some (.string s) => orElse (vhRes (evStrBytes P X.H src dst s)) (Cx.plainly P X)
 | some (.pointer (some a)) => vRes (evConvPtr P X.H src dst (.pointer (some a))) X.H
 | some (.slice b l c) => vRes (evToStringD P X.H src dst (.slice b l c)) X.H
 | some (.int _ n) => (match P.underlying src, P.underlying dst with
  | some _, some (.int k) => forceInt (wrapF k n) (retInt X.H k)
  | _, _ => (Cx.plainly P X))
 | some _ => (Cx.plainly P X)
noncomputable def opConvert (P : Program) (X : Cx) (src dst : TypeId) (x : Operand) : Option OpRes := opConvert2 P X src dst (X.opd x)
noncomputable def opMakeInterface2 (P : Program) (X : Cx) (t : TypeId) : Option Value → Option TypeDesc → Option OpRes
 | some _, some (.interface _) => none
 | some v, some _ => some (.val (.iface t v) X.H)
 | _, _ => none
noncomputable def opMakeInterface (P : Program) (X : Cx) (t : TypeId) (x : Operand) : Option OpRes := opMakeInterface2 P X t (X.opd x) (P.underlying t)
noncomputable def opMakeFunc2 (P : Program) (X : Cx) (fn : Fn) : Option (List Value) → Option (List Value) → Option OpRes
 | some a, some b => (match fn with
  | .yield _ => none
  | fn => some (.val (.func fn a.toArray b.toArray) X.H))
 | _, _ => none
noncomputable def opMakeFunc (P : Program) (X : Cx) (fn : Fn) (first captured : Array Operand) : Option OpRes := opMakeFunc2 P X fn (opds X.S.T X.H first.toList) (opds X.S.T X.H captured.toList)
noncomputable def opMakeMap (P : Program) (X : Cx) (_ : TypeId) : Option Operand → Option OpRes
 | none => (match X.H.new (.map [] 0) with
  | some (id, H) => some (.val (.map (some id)) H)
  | none => none)
 | some _ => none
noncomputable def opMakeSlice2 (P : Program) (X : Cx) (t : TypeId) : Option Value → Option Value → Option OpRes
 | some l, some c => vhRes (evMakeSlice P X.H t l c)
 | _, _ => none
noncomputable def opMakeSlice (P : Program) (X : Cx) (t : TypeId) (l c : Operand) : Option OpRes := opMakeSlice2 P X t (X.opd l) (X.opd c)
noncomputable def opSlice2 (P : Program) (X : Cx) (t : TypeId) : Option Value → Option (Option Value) → Option (Option Value) → Option OpRes
 | some v, some lo, some hi => orElse (vRes (evSlice P X.H t v lo hi) X.H) (Cx.plainly P X)
 | _, _, _ => none
noncomputable def opSlice (P : Program) (X : Cx) (t : TypeId) (x : Operand) (lo hi : Option Operand) : Option Operand → Option OpRes
 | none => opSlice2 P X t (X.opd x) (optOpd X.S.T X.H lo) (optOpd X.S.T X.H hi)
 | some _ => none
noncomputable def opFieldAddr2 (P : Program) (X : Cx) (s : TypeId) (f : Nat) : Option Value → Option OpRes
 | some p => vRes (evFieldAddr P s p f) X.H
 | none => none
noncomputable def opFieldAddr (P : Program) (X : Cx) (s : TypeId) (x : Operand) (f : Nat) : Option OpRes := opFieldAddr2 P X s f (X.opd x)
noncomputable def opField2 (P : Program) (X : Cx) (f : Nat) : Option Value → Option TypeDesc → Option OpRes
 | some (.agg cs), some (.struct fields) => (match fields[f]? with
  | some f => vRes (evPart P f.type cs.toList f.offset) X.H
  | none => none)
 | _, _ => none
noncomputable def opField (P : Program) (X : Cx) (t : TypeId) (x : Operand) (f : Nat) : Option OpRes := opField2 P X f (X.opd x) (P.underlying t)
noncomputable def opIndexAddr2 (P : Program) (X : Cx) (t : TypeId) : Option Value → Option Value → Option OpRes
 | some x, some ix => vRes (evIndexAddr P t x ix) X.H
 | _, _ => none
noncomputable def opIndexAddr (P : Program) (X : Cx) (t : TypeId) (x ix : Operand) : Option OpRes := opIndexAddr2 P X t (X.opd x) (X.opd ix)
noncomputable def opIndex2 (P : Program) (X : Cx) : Option Value → Option Value → Option TypeDesc → Option OpRes
 | some (.agg cs), some (.int _ i), some (.array len elem) => (match intIn i len, sizeT P elem with
  | some n, some sz => vRes (evPart P elem cs.toList (n * sz)) X.H
  | _, _ => none)
 | some (.string s), some (.int _ i), some .string => (match i with
  | .ofNat n => (match nth s.data.toList n with
   | some b => forceInt (.ofNat b.toNat) (retInt X.H .u8)
   | none => none)
  | .negSucc _ => none)
 | _, _, _ => none
noncomputable def opIndex (P : Program) (X : Cx) (t : TypeId) (x ix : Operand) : Option OpRes := opIndex2 P X (X.opd x) (X.opd ix) (P.underlying t)
noncomputable def opLookup2 (P : Program) (X : Cx) (t : TypeId) (ok : Bool) : Option Value → Option Value → Option OpRes
 | some x, some k => vRes (evLookup P X.H t x k ok) X.H
 | _, _ => none
noncomputable def opLookup (P : Program) (X : Cx) (t : TypeId) (x k : Operand) (ok : Bool) : Option OpRes := opLookup2 P X t ok (X.opd x) (X.opd k)
noncomputable def opMapUpdate2 (P : Program) (X : Cx) (t : TypeId) : Option Value → Option Value → Option Value → Option OpRes
 | some m, some k, some v => hRes (evMapUpdate P X.H t m k v)
 | _, _, _ => none
noncomputable def opMapUpdate (P : Program) (X : Cx) (t : TypeId) (m k x : Operand) : Option OpRes := opMapUpdate2 P X t (X.opd m) (X.opd k) (X.opd x)
noncomputable def opTypeAssert2 (P : Program) (X : Cx) (asserted : TypeId) (ok : Bool) : Option Value → Option OpRes
 | some v => vRes (evTypeAssert P v asserted ok) X.H
 | none => none
noncomputable def opTypeAssert (P : Program) (X : Cx) (x : Operand) (_ asserted : TypeId) (ok : Bool) : Option OpRes := opTypeAssert2 P X asserted ok (X.opd x)
noncomputable def opExtract2 (P : Program) (X : Cx) (ix : Nat) : Option Value → Option OpRes
 | some (.tuple vs) => vRes (nth vs.toList ix) X.H
 | _ => none
noncomputable def opExtract (P : Program) (X : Cx) (t : Operand) (ix : Nat) : Option OpRes := opExtract2 P X ix (X.opd t)
noncomputable def opCall (P : Program) (X : Cx) (c : Call) : Option OpRes :=
 match c.callee with
 | .builtin b => evBuiltin P X.S X.H X.o b c
 | _ => evCallee P X.call X.yld X.S.T X.H c
noncomputable def opDefer (P : Program) (X : Cx) (c : Call) : Option OpRes :=
 match X.S.rnd with
 | none => evDefer P X.S.T X.H c
 | some _ => none
noncomputable def opPanic2 (P : Program) (X : Cx) : Option Value → Option OpRes
 | some (.iface t v) => some (.pan [{ v := .iface t v, recovered := false }] X.H)
 | _ => none
noncomputable def opPanic (P : Program) (X : Cx) (x : Operand) : Option OpRes := opPanic2 P X (X.opd x)
noncomputable def no1.{u} {a : Sort u} (_ : a) : Option OpRes := none
noncomputable def no2.{u, v} {a : Sort u} {b : Sort v} (_ : a) (_ : b) : Option OpRes := none
noncomputable def no3.{u, v, w} {a : Sort u} {b : Sort v} {c : Sort w} (_ : a) (_ : b) (_ : c) : Option OpRes := none
noncomputable def no4.{u, v, w, x} {a : Sort u} {b : Sort v} {c : Sort w} {d : Sort x} (_ : a) (_ : b) (_ : c) (_ : d) : Option OpRes := none
noncomputable def opUn (P : Program) (X : Cx) (_ : UnOp) (_ : TypeId) (_ : Operand) : Option OpRes := (Cx.plainly P X)
noncomputable def evOpX (P : Program) (X : Cx) : Option OpRes :=
 Op.rec (motive := fun _ => Option OpRes)
  (opMove P X) (opMove P X) (opPick P X) (opAlloc P X) (opBox P X) (opBuild P X) (opBuildSlice P X) (opMapUpdate P X) (opLoad P X) (opStore P X)
  no1 no1 (opNilCheck P X) (opBin P X) (opUn P X) (opConvert P X) no2 (opMakeInterface P X) (opMakeFunc P X) (opMakeMap P X) no2 (opMakeSlice P X)
  (opSlice P X) (opFieldAddr P X) (opField P X) (opIndexAddr P X) (opIndex P X) (opLookup P X) (opMapUpdate P X) no3 no4 no2 no2 no1 (opTypeAssert P X) (opExtract P X)
  (opCall P X) no1 (opDefer P X) (opPanic P X) no2 no3 no2 X.o.op
noncomputable def evOp (P : Program) (call : CallEv) (yld : YieldEv) (S : St) (H : Hp) (o : Oper) : Option OpRes := evOpX P ⟨call, yld, S, H, o⟩
noncomputable def St.put3 (n : Nat) (ds : List Deferred) (dfd : Bool) (um : FrameMode) (rnd : Option Nat) (T : Option (Tr Value)) : Option St :=
 Option.rec (motive := fun _ => Option St) none (fun T => some ⟨T, n, ds, dfd, um, rnd⟩) T
noncomputable def St.put2 (v : Value) (S : St) (d : Tmp) : Option St :=
 St.rec (motive := fun _ => Option St) (fun T n ds dfd um rnd => Bool.rec (motive := fun _ => Option St) none (St.put3 n ds dfd um rnd (Tr.put v T d)) (Nat.ble (Nat.succ d) n)) S
noncomputable def St.put (S : St) (dst : Option Tmp) (v : Value) : Option St := Option.rec (motive := fun _ => Option St) (some S) (St.put2 v S) dst
noncomputable def St.withDs (d : Deferred) : St → St
 | ⟨T, n, ds, dfd, um, rnd⟩ => ⟨T, n, d :: ds, dfd, um, rnd⟩
noncomputable def St.withUm (um : FrameMode) : St → St
 | ⟨T, n, ds, dfd, _, rnd⟩ => ⟨T, n, ds, dfd, um, rnd⟩
noncomputable def guardC (ops : List Oper) (T : Tr Value) : Nat × Bool → Option Bool
 | (j, want) => match nth ops j with
  | some p => match p.dst with
   | some d => match T.get d with
    | some (.bool b) => some (b == want)
    | some (.chan _) => none
    | some _ => some false
    | none => none
   | none => some false
  | none => some false
noncomputable def guardB (ops : List Oper) (T : Tr Value) (o : Oper) : Option Bool := Option.rec (motive := fun _ => Option Bool) (some true) (guardC ops T) o.guard
inductive RegRes where
 | ok (S : St) (H : Hp)
 | pan (chain : List PanicEntry) (S : St) (H : Hp)
noncomputable def regOk (H : Hp) (S : Option St) : Option RegRes := Option.rec (motive := fun _ => Option RegRes) none (fun S => some (.ok S H)) S
noncomputable def regPut (S : St) (dst : Option Tmp) (v : Value) (H : Hp) : Option RegRes := regOk H (S.put dst v)
noncomputable def rcvOf (S : St) : Option (Value × FrameMode) :=
 match S.rnd with
 | some _ => none
 | none => bif S.dfd then (match S.um with
   | .panicking ({ v, recovered := false, goexit := false } :: older) => some (v, .panicking ({ v, recovered := true } :: older))
   | m => some (.nilIface, m))
  else some (.nilIface, S.um)
noncomputable def oneRcv (S : St) (H : Hp) (dst : Option Tmp) : Option (Value × FrameMode) → Option RegRes
 | some (v, um) => regPut (S.withUm um) dst v H
 | none => none
noncomputable def oneDfr (S : St) (H : Hp) (dst : Option Tmp) (d : Deferred) : Option RegRes :=
 match S.rnd with
 | none => regPut (S.withDs d) dst undef H
 | some _ => none
noncomputable def oneAfter2 (S : St) (H : Hp) (dst : Option Tmp) (r : OpRes) : Option RegRes :=
 OpRes.rec (motive := fun _ => Option RegRes) (regPut S dst) (regPut S dst undef) (oneDfr S H dst) (fun chain H => some (.pan chain S H)) (oneRcv S H dst (rcvOf S)) r
noncomputable def oneAfter (S : St) (H : Hp) (dst : Option Tmp) (r : Option OpRes) : Option RegRes := Option.rec (motive := fun _ => Option RegRes) none (oneAfter2 S H dst) r
noncomputable def oneIf (P : Program) (call : CallEv) (yld : YieldEv) (S : St) (H : Hp) (o : Oper) (b : Bool) : Option RegRes :=
 Bool.rec (motive := fun _ => Option RegRes) (regPut S o.dst undef H) (oneAfter S H o.dst (evOp P call yld S H o)) b
noncomputable def one (P : Program) (call : CallEv) (yld : YieldEv) (ops : List Oper) (S : St) (H : Hp) (o : Oper) : Option RegRes :=
 Option.rec (motive := fun _ => Option RegRes) none (oneIf P call yld S H o) (guardB ops S.T o)
noncomputable def regNext (k : St → Hp → Option RegRes) (r : RegRes) : Option RegRes := RegRes.rec (motive := fun _ => Option RegRes) k (fun chain S H => some (.pan chain S H)) r
noncomputable def evOpsNext (k : St → Hp → Option RegRes) (r : Option RegRes) : Option RegRes := Option.rec (motive := fun _ => Option RegRes) none (regNext k) r
noncomputable def evOps (P : Program) (call : CallEv) (yld : YieldEv) (ops : List Oper) (l : List Oper) : St → Hp → Option RegRes :=
 List.rec (motive := fun _ => St → Hp → Option RegRes) (fun S H => some (.ok S H)) (fun o _ rest S H => evOpsNext rest (one P call yld ops S H o)) l
end Go.Cre

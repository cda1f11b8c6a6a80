/- A part of a verified evaluator of closed calls: see YthfgeapiahhjlaaGreatDoorCreZ. -/
import Derived.Test.YthfgeapiahhjlaaGreatDoorCreA
set_option linter.unusedVariables false
set_option linter.unusedSimpArgs false
namespace Go.Cre

inductive OpRes where
  | val (v : Value) (H : Hp)
  | skip (H : Hp)
  | dfr (d : Deferred)
  | pan (chain : List PanicEntry) (H : Hp)
  | rcv

noncomputable def vRes (v : Option Value) (H : Hp) : Option OpRes := Option.rec (motive := fun _ => Option OpRes) none (fun v => some (.val v H)) v
noncomputable def vhRes : Option (Value × Hp) → Option OpRes
  | some (v, H) => some (.val v H)
  | none => none
noncomputable def hRes : Option Hp → Option OpRes
  | some H => some (.skip H)
  | none => none

noncomputable def opdOr (T : Tr Value) (H : Hp) (x : Operand) : Value := match opd T H x with | some v => v | none => undef

/-- what an operation on plain values yields, by the model's own tree -/
noncomputable def evPlain (P : Program) (T : Tr Value) (H : Hp) (o : Oper) : Option OpRes :=
  match opds T H o.op.operands.toList with
  | none => none
  | some vs => bif vs.all plain then
      match evPure P (execOp (opdOr T H) o) with
      | some (.value v) => bif plain v then some (.val v H) else none
      | some .skip => some (.skip H)
      | _ => none
    else none

noncomputable def orElse (a b : Option OpRes) : Option OpRes := match a with | some x => some x | none => b

/-! ### Calls -/
abbrev CallEv := FuncId → List Value → Hp → Option (Ending × Hp)
/-- the round of a loop over a function: its number, the arguments -/
abbrev YieldEv := Nat → List Value → Hp → Option (Ending × Hp)

noncomputable def evMethod (P : Program) (H : Hp) (recv : Value) (name : String) (rest : List Value) : Option (FuncId × List Value) :=
  match recv with
  | .iface t v => match P.info? t with
    | none => none
    | some i => match i.methods.find? (·.name == name) with
      | none => none
      | some m => bif !m.path.isEmpty then none else
        match m.func with
        | none => none
        | some (f, pr) => match P.underlying t, pr with
          | some (.pointer _), true => some (f, v :: rest)
          | some (.pointer _), false => none
          | some _, false => some (f, v :: rest)
          | _, _ => none
  | _ => none

noncomputable def evFn (P : Program) (H : Hp) (fn : Fn) (args captured : List Value) : Option (FuncId × List Value) :=
  match fn with
  | .func f => some (f, args ++ captured)
  | .method name => match args with | r :: rest => evMethod P H r name rest | [] => none
  | .methodOf t name => match args with
    | r :: rest => match P.underlying t with
      | some (.interface _) => evMethod P H r name rest
      | some _ => evMethod P H (.iface t r) name rest
      | none => none
    | [] => none
  | _ => none

noncomputable def endRes : Option (Ending × Hp) → Option OpRes
  | some (.returned v, H) => some (.val v H)
  | some (.panicked chain, H) => some (.pan chain H)
  | _ => none

noncomputable def yldRes : Option (Ending × Hp) → Option OpRes
  | some (.returned v, H) => some (.val v H)
  | _ => none

noncomputable def evCallee (P : Program) (call : CallEv) (yld : YieldEv) (T : Tr Value) (H : Hp) (c : Call) : Option OpRes :=
  match opds T H c.args.toList with
  | none => none
  | some args => match c.callee with
    | .value f => match opd T H f with
      | some (.func (.yield l) first captured) => bif first.isEmpty && captured.isEmpty then yldRes (yld l args H) else none
      | some (.func fn first captured) => match evFn P H fn (first.toList ++ args) captured.toList with
        | some (f, as) => endRes (call f as H)
        | none => none
      | _ => none
    | .invoke recv name => match opd T H recv with
      | some r => match evMethod P H r name args with
        | some (f, as) => endRes (call f as H)
        | none => none
      | none => none
    | .builtin _ => none

/-- the number as a numeral, then on -/
noncomputable def forceInt {α : Type} (n : Int) (k : Int → α) : α :=
  match n with
  | .ofNat 0 => k (.ofNat 0)
  | .ofNat (m + 1) => k (.ofNat (m + 1))
  | .negSucc 0 => k (.negSucc 0)
  | .negSucc (m + 1) => k (.negSucc (m + 1))

noncomputable def retInt (H : Hp) (k : IntKind) (n : Int) : Option OpRes := some (.val (.int k n) H)

noncomputable def evBuiltin (P : Program) (S : St) (H : Hp) (o : Oper) (b : Builtin) (c : Call) : Option OpRes :=
  match opds S.T H c.args.toList with
  | none => none
  | some args => match b, args, c.argTypes.toList with
    | .len, [.slice _ n _], [t] => (match P.underlying t with
      | some (.slice _) => some (.val (.int .i64 n) H)
      | _ => none)
    | .len, [.map (some r)], [t] => (match P.underlying t with
      | some (.map _ _) => (match H.mem.get r with
        | some (.map es _) => some (.val (.int .i64 es.length) H)
        | _ => none)
      | _ => none)
    | .len, [.string s], [t] => (match P.underlying t with
      | some .string => (match lenD s.data.toList with | some n => forceInt (.ofNat n) (retInt H .i64) | none => none)
      | _ => none)
    | .append, [s, x], [ts, tx] => (match P.underlying tx with
      | some (.int _) => none
      | some _ => vhRes (evAppend P H ts s x)
      | none => none)
    | .cap, [.slice (some _) _ c], [t] => (match P.underlying t with
      | some (.slice _) => bif Nat.beq c openCap then none else some (.val (.int .i64 c) H)
      | _ => none)
    | .unsafeSliceData, [.slice (some a) len c], _ => bif Nat.beq c openCap && Nat.beq len 0 then none else bif Nat.beq c 0 then none else some (.val (.pointer (some a)) H)
    | .unsafeString, [p, n], [pt, _] => vhRes (evUnsafeString P H pt p n)
    | .copy, [d, s], [td, _] => vhRes (evCopy P H td d s)
    | .panic, [.iface t v], _ => some (.pan [{ v := .iface t v, recovered := false }] H)
    | .recover, [], _ => some .rcv
    | _, _, _ => evPlain P S.T H o

noncomputable def notYield : Fn → Bool
  | .yield _ => false
  | _ => true

noncomputable def evDefer (_P : Program) (T : Tr Value) (H : Hp) (c : Call) : Option OpRes :=
  match opds T H c.args.toList with
  | none => none
  | some args => match c.callee with
    | .value f => match opd T H f with
      | some (.func fn first captured) => bif notYield fn then some (.dfr { target := .fn fn captured, args := (first.toList ++ args).toArray }) else none
      | _ => none
    | .invoke recv name => match opd T H recv with
      | some r => some (.dfr { target := .fn (.method name) #[], args := (r :: args).toArray })
      | none => none
    | .builtin _ => none

noncomputable def optOpd (T : Tr Value) (H : Hp) : Option Operand → Option (Option Value)
  | none => some none
  | some x => match opd T H x with | some v => some (some v) | none => none


/-! ### One operation. (Small definitions: the kernel copies what it instantiates.) -/
structure Cx where
  call : CallEv
  yld : YieldEv
  S : St
  H : Hp
  o : Oper

noncomputable def Cx.opd (X : Cx) (x : Operand) : Option Value := Cre.opd X.S.T X.H x
noncomputable def Cx.plainly (P : Program) (X : Cx) : Option OpRes := evPlain P X.S.T X.H X.o

noncomputable def opMove (P : Program) (X : Cx) (x : Operand) : Option OpRes := vRes (X.opd x) X.H
noncomputable def opPick2 (P : Program) (X : Cx) (a b : Operand) : Option Value → Option OpRes
  | some (.bool true) => vRes (X.opd a) X.H
  | some (.bool false) => vRes (X.opd b) X.H
  | _ => none
noncomputable def opPick (P : Program) (X : Cx) (c a b : Operand) : Option OpRes := opPick2 P X a b (X.opd c)
noncomputable def opAlloc2 (P : Program) (X : Cx) (elem : TypeId) : Option Value → Option OpRes
  | some z => bif plain z then vhRes (evBox X.H elem z) else none
  | none => none
noncomputable def opAlloc (P : Program) (X : Cx) (elem : TypeId) : Option OpRes := opAlloc2 P X elem (zeroT P elem)
noncomputable def opBox2 (P : Program) (X : Cx) (elem : TypeId) : Option Value → Option OpRes
  | some v => vhRes (evBox X.H elem v)
  | none => none
noncomputable def opBox (P : Program) (X : Cx) (elem : TypeId) (x : Operand) : Option OpRes := opBox2 P X elem (X.opd x)
noncomputable def opBuild2 (P : Program) (X : Cx) (t : TypeId) : Option (List (Nat × Value)) → Option OpRes
  | some ps => vRes (evBuild P t ps) X.H
  | none => none
noncomputable def opBuild (P : Program) (X : Cx) (t : TypeId) (parts : Array (Nat × Operand)) : Option OpRes := opBuild2 P X t (pairs X.S.T X.H parts.toList)
noncomputable def opBuildSlice2 (P : Program) (X : Cx) (t : TypeId) (len : Nat) : Option (List (Nat × Value)) → Option OpRes
  | some ps => vhRes (evBuildSlice P X.H t len ps)
  | none => none
noncomputable def opBuildSlice (P : Program) (X : Cx) (t : TypeId) (len : Nat) (parts : Array (Nat × Operand)) : Option OpRes := opBuildSlice2 P X t len (pairs X.S.T X.H parts.toList)
noncomputable def opLoad2 (P : Program) (X : Cx) (t : TypeId) : Option Value → Option OpRes
  | some p => vRes (evLoad P X.H t p) X.H
  | none => none
noncomputable def opLoad (P : Program) (X : Cx) (t : TypeId) (a : Operand) : Option OpRes := opLoad2 P X t (X.opd a)
noncomputable def opStore2 (P : Program) (X : Cx) (t : TypeId) : Option Value → Option Value → Option OpRes
  | some p, some v => hRes (evStore P X.H t p v)
  | _, _ => none
noncomputable def opStore (P : Program) (X : Cx) (t : TypeId) (a x : Operand) : Option OpRes := opStore2 P X t (X.opd a) (X.opd x)
noncomputable def opNilCheck2 (P : Program) (X : Cx) : Option Value → Option OpRes
  | some (.pointer (some a)) => some (.val (.pointer (some a)) X.H)
  | some (.func (.func f) a b) => some (.val (.func (.func f) a b) X.H)
  | some (.iface t v) => some (.val (.iface t v) X.H)
  | _ => none
noncomputable def opNilCheck (P : Program) (X : Cx) (x : Operand) : Option OpRes := opNilCheck2 P X (X.opd x)

noncomputable def limOf : IntKind → Nat
  | .i8 => 0 | .i16 => 0 | .i32 => 2147483648 | .i64 => 9223372036854775808
  | .u8 => 256 | .u16 => 65536 | .u32 => 4294967296 | .u64 => 18446744073709551616
/-- the wrap, quick where nothing is to do -/
noncomputable def wrapF (k : IntKind) (n : Int) : Int :=
  match n with
  | .ofNat m => bif Nat.blt m (limOf k) then .ofNat m else k.wrap (.ofNat m)
  | .negSucc m => bif k.signed && Nat.blt m (limOf k) then .negSucc m else k.wrap (.negSucc m)

noncomputable def intLt : Int → Int → Bool
  | .ofNat a, .ofNat b => Nat.blt a b
  | .negSucc _, .ofNat _ => true
  | .ofNat _, .negSucc _ => false
  | .negSucc a, .negSucc b => Nat.blt b a
noncomputable def intEq : Int → Int → Bool
  | .ofNat a, .ofNat b => Nat.beq a b
  | .negSucc a, .negSucc b => Nat.beq a b
  | _, _ => false

noncomputable def retBool (H : Hp) : Bool → Option OpRes
  | true => some (.val (.bool true) H)
  | false => some (.val (.bool false) H)
/-- two numbers of one kind; what is not here goes the slow way -/
noncomputable def intBin (H : Hp) (k : IntKind) (a b : Int) (slow : Option OpRes) : BinOp → Option OpRes
  | .add => forceInt (wrapF k (a + b)) (retInt H k)
  | .sub => forceInt (wrapF k (a - b)) (retInt H k)
  | .mul => forceInt (wrapF k (a * b)) (retInt H k)
  | .eql => retBool H (intEq a b)
  | .neq => retBool H (!intEq a b)
  | .lss => retBool H (intLt a b)
  | .leq => retBool H (!intLt b a)
  | .gtr => retBool H (intLt b a)
  | .geq => retBool H (!intLt a b)
  | _ => slow
noncomputable def opBinEq (P : Program) (X : Cx) (t : TypeId) (a b : Value) : BinOp → Option OpRes
  | .eql => (match evEqNil P t a b with | some r => some (.val (.bool r) X.H) | none => none)
  | .neq => (match evEqNil P t a b with | some r => some (.val (.bool (!r)) X.H) | none => none)
  | _ => none
noncomputable def opBinSlow (P : Program) (X : Cx) (op : BinOp) (t : TypeId) (a b : Value) : Option OpRes := orElse (Cx.plainly P X) (opBinEq P X t a b op)
noncomputable def kindEq : IntKind → IntKind → Bool
  | .i8, .i8 => true | .i16, .i16 => true | .i32, .i32 => true | .i64, .i64 => true | .u8, .u8 => true | .u16, .u16 => true | .u32, .u32 => true | .u64, .u64 => true
  | _, _ => false
noncomputable def opBin3 (P : Program) (X : Cx) (op : BinOp) (t : TypeId) (k : IntKind) (a : Int) (l : IntKind) (b : Int) : Option OpRes :=
  bif kindEq k l then intBin X.H k a b (Cx.plainly P X) op else opBinSlow P X op t (.int k a) (.int l b)
noncomputable def opBin2 (P : Program) (X : Cx) (op : BinOp) (t : TypeId) : Option Value → Option Value → Option OpRes
  | some (.int k a), some (.int l b) => opBin3 P X op t k a l b
  | some a, some b => opBinSlow P X op t a b
  | _, _ => none
noncomputable def opBin (P : Program) (X : Cx) (op : BinOp) (t : TypeId) (x y : Operand) (_ : TypeId) : Option OpRes := opBin2 P X op t (X.opd x) (X.opd y)
noncomputable def opConvert2 (P : Program) (X : Cx) (src dst : TypeId) : Option Value → Option OpRes
  | none => none
  | some (.string s) => orElse (vhRes (evStrBytes P X.H src dst s)) (Cx.plainly P X)
  | some (.pointer (some a)) => vRes (evConvPtr P X.H src dst (.pointer (some a))) X.H
  | some (.slice b l c) => vRes (evToStringD P X.H src dst (.slice b l c)) X.H
  | some (.int _ n) => (match P.underlying src, P.underlying dst with
    | some _, some (.int k) => forceInt (wrapF k n) (retInt X.H k)
    | _, _ => (Cx.plainly P X))
  | some _ => (Cx.plainly P X)
noncomputable def opConvert (P : Program) (X : Cx) (src dst : TypeId) (x : Operand) : Option OpRes := opConvert2 P X src dst (X.opd x)
noncomputable def opMakeInterface2 (P : Program) (X : Cx) (t : TypeId) : Option Value → Option TypeDesc → Option OpRes
  | some _, some (.interface _) => none
  | some v, some _ => some (.val (.iface t v) X.H)
  | _, _ => none
noncomputable def opMakeInterface (P : Program) (X : Cx) (t : TypeId) (x : Operand) : Option OpRes := opMakeInterface2 P X t (X.opd x) (P.underlying t)
noncomputable def opMakeFunc2 (P : Program) (X : Cx) (fn : Fn) : Option (List Value) → Option (List Value) → Option OpRes
  | some a, some b => (match fn with
    | .yield _ => none
    | fn => some (.val (.func fn a.toArray b.toArray) X.H))
  | _, _ => none
noncomputable def opMakeFunc (P : Program) (X : Cx) (fn : Fn) (first captured : Array Operand) : Option OpRes := opMakeFunc2 P X fn (opds X.S.T X.H first.toList) (opds X.S.T X.H captured.toList)
noncomputable def opMakeMap (P : Program) (X : Cx) (_ : TypeId) : Option Operand → Option OpRes
  | none => (match X.H.new (.map [] 0) with
    | some (id, H) => some (.val (.map (some id)) H)
    | none => none)
  | some _ => none
noncomputable def opMakeSlice2 (P : Program) (X : Cx) (t : TypeId) : Option Value → Option Value → Option OpRes
  | some l, some c => vhRes (evMakeSlice P X.H t l c)
  | _, _ => none
noncomputable def opMakeSlice (P : Program) (X : Cx) (t : TypeId) (l c : Operand) : Option OpRes := opMakeSlice2 P X t (X.opd l) (X.opd c)
noncomputable def opSlice2 (P : Program) (X : Cx) (t : TypeId) : Option Value → Option (Option Value) → Option (Option Value) → Option OpRes
  | some v, some lo, some hi => orElse (vRes (evSlice P X.H t v lo hi) X.H) (Cx.plainly P X)
  | _, _, _ => none
noncomputable def opSlice (P : Program) (X : Cx) (t : TypeId) (x : Operand) (lo hi : Option Operand) : Option Operand → Option OpRes
  | none => opSlice2 P X t (X.opd x) (optOpd X.S.T X.H lo) (optOpd X.S.T X.H hi)
  | some _ => none
noncomputable def opFieldAddr2 (P : Program) (X : Cx) (s : TypeId) (f : Nat) : Option Value → Option OpRes
  | some p => vRes (evFieldAddr P s p f) X.H
  | none => none
noncomputable def opFieldAddr (P : Program) (X : Cx) (s : TypeId) (x : Operand) (f : Nat) : Option OpRes := opFieldAddr2 P X s f (X.opd x)
noncomputable def opField2 (P : Program) (X : Cx) (f : Nat) : Option Value → Option TypeDesc → Option OpRes
  | some (.agg cs), some (.struct fields) => (match fields[f]? with
    | some f => vRes (evPart P f.type cs.toList f.offset) X.H
    | none => none)
  | _, _ => none
noncomputable def opField (P : Program) (X : Cx) (t : TypeId) (x : Operand) (f : Nat) : Option OpRes := opField2 P X f (X.opd x) (P.underlying t)
noncomputable def opIndexAddr2 (P : Program) (X : Cx) (t : TypeId) : Option Value → Option Value → Option OpRes
  | some x, some ix => vRes (evIndexAddr P t x ix) X.H
  | _, _ => none
noncomputable def opIndexAddr (P : Program) (X : Cx) (t : TypeId) (x ix : Operand) : Option OpRes := opIndexAddr2 P X t (X.opd x) (X.opd ix)
noncomputable def opIndex2 (P : Program) (X : Cx) : Option Value → Option Value → Option TypeDesc → Option OpRes
  | some (.agg cs), some (.int _ i), some (.array len elem) => (match intIn i len, sizeT P elem with
    | some n, some sz => vRes (evPart P elem cs.toList (n * sz)) X.H
    | _, _ => none)
  | some (.string s), some (.int _ i), some .string => (match i with
    | .ofNat n => (match nth s.data.toList n with
      | some b => forceInt (.ofNat b.toNat) (retInt X.H .u8)
      | none => none)
    | .negSucc _ => none)
  | _, _, _ => none
noncomputable def opIndex (P : Program) (X : Cx) (t : TypeId) (x ix : Operand) : Option OpRes := opIndex2 P X (X.opd x) (X.opd ix) (P.underlying t)
noncomputable def opLookup2 (P : Program) (X : Cx) (t : TypeId) (ok : Bool) : Option Value → Option Value → Option OpRes
  | some x, some k => vRes (evLookup P X.H t x k ok) X.H
  | _, _ => none
noncomputable def opLookup (P : Program) (X : Cx) (t : TypeId) (x k : Operand) (ok : Bool) : Option OpRes := opLookup2 P X t ok (X.opd x) (X.opd k)
noncomputable def opMapUpdate2 (P : Program) (X : Cx) (t : TypeId) : Option Value → Option Value → Option Value → Option OpRes
  | some m, some k, some v => hRes (evMapUpdate P X.H t m k v)
  | _, _, _ => none
noncomputable def opMapUpdate (P : Program) (X : Cx) (t : TypeId) (m k x : Operand) : Option OpRes := opMapUpdate2 P X t (X.opd m) (X.opd k) (X.opd x)
noncomputable def opTypeAssert2 (P : Program) (X : Cx) (asserted : TypeId) (ok : Bool) : Option Value → Option OpRes
  | some v => vRes (evTypeAssert P v asserted ok) X.H
  | none => none
noncomputable def opTypeAssert (P : Program) (X : Cx) (x : Operand) (_ asserted : TypeId) (ok : Bool) : Option OpRes := opTypeAssert2 P X asserted ok (X.opd x)
noncomputable def opExtract2 (P : Program) (X : Cx) (ix : Nat) : Option Value → Option OpRes
  | some (.tuple vs) => vRes (nth vs.toList ix) X.H
  | _ => none
noncomputable def opExtract (P : Program) (X : Cx) (t : Operand) (ix : Nat) : Option OpRes := opExtract2 P X ix (X.opd t)
noncomputable def opCall (P : Program) (X : Cx) (c : Call) : Option OpRes :=
  match c.callee with
  | .builtin b => evBuiltin P X.S X.H X.o b c
  | _ => evCallee P X.call X.yld X.S.T X.H c
noncomputable def opDefer (P : Program) (X : Cx) (c : Call) : Option OpRes :=
  match X.S.rnd with
  | none => evDefer P X.S.T X.H c
  | some _ => none
noncomputable def opPanic2 (P : Program) (X : Cx) : Option Value → Option OpRes
  | some (.iface t v) => some (.pan [{ v := .iface t v, recovered := false }] X.H)
  | _ => none
noncomputable def opPanic (P : Program) (X : Cx) (x : Operand) : Option OpRes := opPanic2 P X (X.opd x)

noncomputable def no1.{u} {a : Sort u} (_ : a) : Option OpRes := none
noncomputable def no2.{u, v} {a : Sort u} {b : Sort v} (_ : a) (_ : b) : Option OpRes := none
noncomputable def no3.{u, v, w} {a : Sort u} {b : Sort v} {c : Sort w} (_ : a) (_ : b) (_ : c) : Option OpRes := none
noncomputable def no4.{u, v, w, x} {a : Sort u} {b : Sort v} {c : Sort w} {d : Sort x} (_ : a) (_ : b) (_ : c) (_ : d) : Option OpRes := none
noncomputable def opUn (P : Program) (X : Cx) (_ : UnOp) (_ : TypeId) (_ : Operand) : Option OpRes := (Cx.plainly P X)

noncomputable def evOpX (P : Program) (X : Cx) : Option OpRes :=
  Op.rec (motive := fun _ => Option OpRes)
    (opMove P X) (opMove P X) (opPick P X) (opAlloc P X) (opBox P X) (opBuild P X) (opBuildSlice P X) (opMapUpdate P X) (opLoad P X) (opStore P X)
    no1 no1 (opNilCheck P X) (opBin P X) (opUn P X) (opConvert P X) no2 (opMakeInterface P X) (opMakeFunc P X) (opMakeMap P X) no2 (opMakeSlice P X)
    (opSlice P X) (opFieldAddr P X) (opField P X) (opIndexAddr P X) (opIndex P X) (opLookup P X) (opMapUpdate P X) no3 no4 no2 no2 no1 (opTypeAssert P X) (opExtract P X)
    (opCall P X) no1 (opDefer P X) (opPanic P X) no2 no3 no2 X.o.op

noncomputable def evOp (P : Program) (call : CallEv) (yld : YieldEv) (S : St) (H : Hp) (o : Oper) : Option OpRes := evOpX P ⟨call, yld, S, H, o⟩

/-! ### A region -/
noncomputable def St.put3 (n : Nat) (ds : List Deferred) (dfd : Bool) (um : FrameMode) (rnd : Option Nat) (T : Option (Tr Value)) : Option St :=
  Option.rec (motive := fun _ => Option St) none (fun T => some ⟨T, n, ds, dfd, um, rnd⟩) T
noncomputable def St.put2 (v : Value) (S : St) (d : Tmp) : Option St :=
  St.rec (motive := fun _ => Option St) (fun T n ds dfd um rnd => Bool.rec (motive := fun _ => Option St) none (St.put3 n ds dfd um rnd (Tr.put v T d)) (Nat.ble (Nat.succ d) n)) S
noncomputable def St.put (S : St) (dst : Option Tmp) (v : Value) : Option St := Option.rec (motive := fun _ => Option St) (some S) (St.put2 v S) dst
noncomputable def St.withDs (d : Deferred) : St → St
  | ⟨T, n, ds, dfd, um, rnd⟩ => ⟨T, n, d :: ds, dfd, um, rnd⟩
noncomputable def St.withUm (um : FrameMode) : St → St
  | ⟨T, n, ds, dfd, _, rnd⟩ => ⟨T, n, ds, dfd, um, rnd⟩

noncomputable def guardC (ops : List Oper) (T : Tr Value) : Nat × Bool → Option Bool
  | (j, want) => match nth ops j with
    | some p => match p.dst with
      | some d => match T.get d with
        | some (.bool b) => some (b == want)
        | some _ => some false
        | none => none
      | none => some false
    | none => some false
noncomputable def guardB (ops : List Oper) (T : Tr Value) (o : Oper) : Option Bool := Option.rec (motive := fun _ => Option Bool) (some true) (guardC ops T) o.guard

inductive RegRes where
  | ok (S : St) (H : Hp)
  | pan (chain : List PanicEntry) (S : St) (H : Hp)


noncomputable def regOk (H : Hp) (S : Option St) : Option RegRes := Option.rec (motive := fun _ => Option RegRes) none (fun S => some (.ok S H)) S
noncomputable def regPut (S : St) (dst : Option Tmp) (v : Value) (H : Hp) : Option RegRes := regOk H (S.put dst v)
/-- what recover() yields here, and the mode of the frame below it then -/
noncomputable def rcvOf (S : St) : Option (Value × FrameMode) :=
  match S.rnd with
  | some _ => none
  | none => bif S.dfd then (match S.um with
      | .panicking ({ v, recovered := false, goexit := false } :: older) => some (v, .panicking ({ v, recovered := true } :: older))
      | m => some (.nilIface, m))
    else some (.nilIface, S.um)
noncomputable def oneRcv (S : St) (H : Hp) (dst : Option Tmp) : Option (Value × FrameMode) → Option RegRes
  | some (v, um) => regPut (S.withUm um) dst v H
  | none => none
noncomputable def oneDfr (S : St) (H : Hp) (dst : Option Tmp) (d : Deferred) : Option RegRes :=
  match S.rnd with
  | none => regPut (S.withDs d) dst undef H
  | some _ => none
noncomputable def oneAfter2 (S : St) (H : Hp) (dst : Option Tmp) (r : OpRes) : Option RegRes :=
  OpRes.rec (motive := fun _ => Option RegRes) (regPut S dst) (regPut S dst undef) (oneDfr S H dst) (fun chain H => some (.pan chain S H)) (oneRcv S H dst (rcvOf S)) r
noncomputable def oneAfter (S : St) (H : Hp) (dst : Option Tmp) (r : Option OpRes) : Option RegRes := Option.rec (motive := fun _ => Option RegRes) none (oneAfter2 S H dst) r

noncomputable def oneIf (P : Program) (call : CallEv) (yld : YieldEv) (S : St) (H : Hp) (o : Oper) (b : Bool) : Option RegRes :=
  Bool.rec (motive := fun _ => Option RegRes) (regPut S o.dst undef H) (oneAfter S H o.dst (evOp P call yld S H o)) b
noncomputable def one (P : Program) (call : CallEv) (yld : YieldEv) (ops : List Oper) (S : St) (H : Hp) (o : Oper) : Option RegRes :=
  Option.rec (motive := fun _ => Option RegRes) none (oneIf P call yld S H o) (guardB ops S.T o)

noncomputable def regNext (k : St → Hp → Option RegRes) (r : RegRes) : Option RegRes := RegRes.rec (motive := fun _ => Option RegRes) k (fun chain S H => some (.pan chain S H)) r
noncomputable def evOpsNext (k : St → Hp → Option RegRes) (r : Option RegRes) : Option RegRes := Option.rec (motive := fun _ => Option RegRes) none (regNext k) r

noncomputable def evOps (P : Program) (call : CallEv) (yld : YieldEv) (ops : List Oper) (l : List Oper) : St → Hp → Option RegRes :=
  List.rec (motive := fun _ => St → Hp → Option RegRes) (fun S H => some (.ok S H)) (fun o _ rest S H => evOpsNext rest (one P call yld ops S H o)) l

end Go.Cre

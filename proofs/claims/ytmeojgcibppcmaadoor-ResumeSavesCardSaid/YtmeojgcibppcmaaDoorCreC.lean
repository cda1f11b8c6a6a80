/- A part of the proof of ResumeSaves. -/
import Derived.Test.YtmeojgcibppcmaaDoorCreA
import Derived.Below
set_option linter.unusedVariables false
set_option linter.unusedSimpArgs false
namespace Go.Cre
noncomputable def isChain0 : Op → Bool
 | .store .. | .mapUpdate .. | .insert .. | .mapEntry .. | .entryStore .. | .next .. | .go _ | .defer _ | .panic _ | .send .. | .recv .. | .select .. | .ready _ => true
 | .call { callee := .builtin b, .. } => match b with | .len | .cap | .min | .max => false | _ => true
 | .call _ => true
 | _ => false
noncomputable def isAllocOp : Op → Bool
 | .alloc _ | .box .. | .buildSlice .. | .makeMap .. | .makeSlice .. => true
 | _ => false
noncomputable def looks (ops : List Oper) (o : Oper) : List Tmp :=
  (o.op.operands.toList.filterMap fun | .tmp t => some t | _ => none) ++
  (match o.guard with
   | some (g, _) => (match nth ops g with | some p => p.dst.toList | none => [])
   | none => [])

noncomputable def edgeMask : List Edge → Nat
 | [] => 0
 | e :: l => bif Region.binds .any e then Nat.lor (Nat.pow 2 e.on) (edgeMask l) else edgeMask l
noncomputable def Oper.mask (o : Oper) : Nat := edgeMask o.after.toList
noncomputable def sub (a b : Nat) : Bool := Nat.beq (Nat.land a b) a
noncomputable def looksAtDst (ops : List Oper) (a b : Oper) : Bool := match a.dst with | some d => (looks ops b).any (Nat.beq d) | none => false
noncomputable def anti (ops : List Oper) (i : Nat) (a : Oper) : List Oper → Bool
 | [] => false
 | b :: l => (looksAtDst ops a b && !Nat.testBit (Oper.mask b) i) || anti ops i a l
noncomputable def chainM (ops : List Oper) : List Oper → Nat → Nat
 | [], _ => 0
 | o :: l, i => Nat.lor (bif isChain0 o.op || anti ops i o ops then Nat.pow 2 i else 0) (chainM ops l (i + 1))
noncomputable def allocM : List Oper → Nat → Nat
 | [], _ => 0
 | o :: l, i => Nat.lor (bif isAllocOp o.op then Nat.pow 2 i else 0) (allocM l (i + 1))
inductive DStep where
 | val (i : Nat)
 | alc (i : Nat)
 | chn (i : Nat)
 | chk (l : List Nat)
noncomputable def pickReady (ok : Nat → Bool) (C : Nat) : List Oper → Nat → Option Nat
 | [], _ => none
 | o :: l, i => bif !Nat.testBit C i && ok i && sub (Oper.mask o) C then some i else pickReady ok C l (i + 1)
noncomputable def closeK (ops : List Oper) : Nat → Nat → Nat
 | 0, K => K
 | n + 1, K => closeK ops n (bif Nat.testBit K n then (match nth ops n with | some o => Nat.lor K (Oper.mask o) | none => K) else K)
noncomputable def bitsOf (m : Nat) : Nat → List Nat
 | 0 => []
 | n + 1 => bif Nat.testBit m n then n :: bitsOf m n else bitsOf m n
noncomputable def maskOf : List Nat → Nat
 | [] => 0
 | i :: l => Nat.lor (Nat.pow 2 i) (maskOf l)
noncomputable def mkPlan (ops : List Oper) (ch al : Nat) : Nat → Nat → Nat → Nat → List DStep
 | 0, _, _, _ => []
 | n + 1, C, K, G =>
  match pickReady (fun i => !Nat.testBit ch i && Nat.testBit al i) C ops 0 with
  | some i => .alc i :: mkPlan ops ch al n (Nat.lor C (Nat.pow 2 i)) K (Nat.lor (Nat.land G al) (Nat.pow 2 i))
  | none => match pickReady (fun i => !Nat.testBit ch i && !Nat.testBit al i) C ops 0 with
   | some i => .val i :: mkPlan ops ch al n (Nat.lor C (Nat.pow 2 i)) K (Nat.lor G (Nat.pow 2 i))
   | none => match bitsOf (Nat.xor C (Nat.land C (Nat.lor K G))) ops.length with
    | i :: l => .chk (i :: l) :: mkPlan ops ch al n C K (Nat.lor G (maskOf (i :: l)))
    | [] => match pickReady (Nat.testBit ch) C ops 0 with
     | some i => .chn i :: mkPlan ops ch al n (Nat.lor C (Nat.pow 2 i)) (closeK ops ops.length (Nat.lor K (Nat.pow 2 i))) (Nat.land G al)
     | none => []
noncomputable def only (C i : Nat) : List Oper → Nat → Bool
 | [], _ => true
 | o :: l, k => (Nat.testBit C k || Nat.beq k i || !sub (Oper.mask o) C) && only C i l (k + 1)
noncomputable def isIn (C : Nat) : Nat → Bool
 | 0 => true
 | n + 1 => Nat.testBit C n && isIn C n
noncomputable def fits (ops : List Oper) (C i : Nat) : Bool := !Nat.testBit C i && (match nth ops i with | some o => sub (Oper.mask o) C | none => false)
noncomputable def allVal (ch al C : Nat) : List Nat → Bool
 | [] => true
 | i :: l => Nat.testBit C i && !Nat.testBit al i && allVal ch al C l
noncomputable def planOk (ops : List Oper) (ch al : Nat) : Nat → Nat → Nat → List DStep → Bool
 | C, K, G, [] => isIn C ops.length && sub C (Nat.lor K G)
 | C, K, G, .val i :: l => fits ops C i && !Nat.testBit ch i && !Nat.testBit al i && planOk ops ch al (Nat.lor C (Nat.pow 2 i)) K (Nat.lor G (Nat.pow 2 i)) l
 | C, K, G, .alc i :: l => fits ops C i && !Nat.testBit ch i && Nat.testBit al i && planOk ops ch al (Nat.lor C (Nat.pow 2 i)) K (Nat.lor (Nat.land G al) (Nat.pow 2 i)) l
 | C, K, G, .chk s :: l => allVal ch al C s && planOk ops ch al C K (Nat.lor G (maskOf s)) l
 | C, K, G, .chn i :: l => fits ops C i && Nat.testBit ch i && only C i ops 0 && sub C (Nat.lor K G) &&
   (match nth ops i with | some o => sub (Oper.mask o) (closeK ops ops.length (Nat.lor K (Nat.pow 2 i))) && Nat.testBit (closeK ops ops.length (Nat.lor K (Nat.pow 2 i))) i | none => false) &&
   planOk ops ch al (Nat.lor C (Nat.pow 2 i)) (closeK ops ops.length (Nat.lor K (Nat.pow 2 i))) (Nat.land G al) l
noncomputable def sameDst (a b : Oper) : Bool := match a.dst, b.dst with | some d, some e => Nat.beq d e | _, _ => false
noncomputable def pairOk (ops : List Oper) (ch i j : Nat) (a b : Oper) : Bool :=
 (Nat.beq i j || !sameDst a b) && (!looksAtDst ops a b || Nat.testBit (Oper.mask b) i || (Nat.testBit ch i && (Nat.beq i j || Nat.testBit (Oper.mask a) j)))
noncomputable def pairsOk2 (ops : List Oper) (ch i : Nat) (a : Oper) : List Oper → Nat → Bool
 | [], _ => true
 | b :: l, j => pairOk ops ch i j a b && pairsOk2 ops ch i a l (j + 1)
noncomputable def pairsOk (ops : List Oper) (ch : Nat) : List Oper → Nat → Bool
 | [], _ => true
 | a :: l, i => pairsOk2 ops ch i a ops 0 && Nat.blt (Oper.mask a) (Nat.pow 2 i) && (Nat.testBit ch i || !isChain0 a.op) && pairsOk ops ch l (i + 1)
noncomputable def drawOk (ops : List Oper) : Bool :=
 pairsOk ops (chainM ops ops 0) ops 0 && planOk ops (chainM ops ops 0) (allocM ops 0) 0 0 0 (mkPlan ops (chainM ops ops 0) (allocM ops 0) (3 * ops.length + 3) 0 0 0)
noncomputable def all2 (f : Value → Value → Bool) : List Value → List Value → Bool
 | [], [] => true
 | x :: l, y :: m => f x y && all2 f l m
 | _, _ => false
noncomputable def addrEq : Option Addr → Option Addr → Bool
 | none, none => true
 | some ⟨a, b, none⟩, some ⟨c, d, none⟩ => Nat.beq a c && Nat.beq b d
 | some ⟨0, 0, some 0⟩, some ⟨0, 0, some 0⟩ => true
 | _, _ => false
noncomputable def natOEq : Option Nat → Option Nat → Bool
 | none, none => true
 | some a, some b => Nat.beq a b
 | _, _ => false
noncomputable def boolEq : Bool → Bool → Bool
 | true, true => true
 | false, false => true
 | _, _ => false
noncomputable def fnEq : Fn → Fn → Bool
 | .func f, .func g => Nat.beq f g
 | _, _ => false
noncomputable def veq : Nat → Value → Value → Bool
 | 0, _, _ => false
 | n + 1, a, b => match a, b with
  | .bool a, .bool b => boolEq a b
  | .int k a, .int l b => kindEq k l && intEq a b
  | .string a, .string b => decide (a.data.toList = b.data.toList)
  | .pointer a, .pointer b => addrEq a b
  | .slice a l c, .slice b m d => addrEq a b && Nat.beq l m && Nat.beq c d
  | .map a, .map b => natOEq a b
  | .nilFunc, .nilFunc => true
  | .nilIface, .nilIface => true
  | .iface t v, .iface u w => Nat.beq t u && veq n v w
  | .agg a, .agg b => all2 (veq n) a.toList b.toList
  | .tuple a, .tuple b => all2 (veq n) a.toList b.toList
  | .func f a b, .func g c d => fnEq f g && all2 (veq n) a.toList c.toList && all2 (veq n) b.toList d.toList
  | _, _ => false
inductive AV where
 | ptr
 | slc (len cap : Nat)
 | map
noncomputable def AV.at (id : Nat) : AV → Value
 | .ptr => .pointer (some ⟨id, 0, none⟩)
 | .slc l c => .slice (some ⟨id, 0, none⟩) l c
 | .map => .map (some id)
noncomputable def opdT (T : Tr Value) (x : Operand) : Option Value :=
 Operand.rec (motive := fun _ => Option Value) (fun t => T.get t) opdConst (fun _ => none) (fun f => some (.func (.func f) #[] #[])) x
noncomputable def pairsT (T : Tr Value) : List (Nat × Operand) → Option (List (Nat × Value))
 | [] => some []
 | (i, x) :: l => match opdT T x with
  | some v => match pairsT T l with | some r => some ((i, v) :: r) | none => none
  | none => none
noncomputable def allocBox (elem : TypeId) (v : Value) : Option (Blk × AV) :=
 bif v.cells.toList.all oneCell then some (.row v.cells.toList elem false 0 0 false, .ptr) else none
noncomputable def allocMake (P : Program) (t : TypeId) (l c : Value) : Option (Blk × AV) :=
 match l, c, P.underlying t with
 | .int _ l, .int _ c, some (.slice elem) =>
  match zeroT P elem, bytesT P elem, sizeT P elem with
  | some z, some by_, some sz =>
   match intUp c 1000000, intUp l 1000000 with
   | some c, some l =>
    bif Nat.ble l c && Nat.ble by_ 1000000 && Nat.beq z.cells.toList.length sz && z.cells.toList.all oneCell && plain z then
     some (.row (zeroCellsL z.cells.toList c) elem false 0 0 false, .slc l c)
    else none
   | _, _ => none
  | _, _, _ => none
 | _, _, _ => none
noncomputable def allocBuild (P : Program) (t : TypeId) (len : Nat) (parts : List (Nat × Value)) : Option (Blk × AV) :=
 match P.underlying t with
 | some (.slice elem) => match sizeT P elem, zeroT P elem with
  | some sz, some z =>
   bif Nat.ble len 100000 && Nat.ble (len * sz) 100000 && plain z && Nat.beq z.cells.toList.length sz then
    match fillA (fun i => some (i * sz, sz)) (zeroCellsL z.cells.toList len) parts with
    | some cells => bif cells.all oneCell then some (.row cells elem false 0 0 false, .slc len len) else none
    | none => none
   else none
  | _, _ => none
 | _ => none
noncomputable def litMake (P : Program) (t : TypeId) (r : Operand) : Option (Blk × AV) :=
 match r with
 | .const (.int .i64 (.ofNat 0)) => (match P.underlying t with | some (.map _ _) => some (Blk.dead, AV.map) | _ => none)
 | _ => none
noncomputable def allocOf (P : Program) (T : Tr Value) : Op → Option (Blk × AV)
 | .alloc elem => (match zeroT P elem with | some z => bif plain z then allocBox elem z else none | none => none)
 | .box elem x => (match opdT T x with | some v => allocBox elem v | none => none)
 | .buildSlice t len parts => (match pairsT T parts.toList with | some ps => allocBuild P t len ps | none => none)
 | .makeMap _ none => some (.map [] 0, .map)
 | .makeMap t (some r) => litMake P t r
 | .makeSlice t l c => (match opdT T l, opdT T c with | some l, some c => allocMake P t l c | _, _ => none)
 | _ => none
abbrev Kont := St → Hp → Option RegRes
noncomputable def stepPut (k : Kont) (H : Hp) (S : Option St) : Option RegRes := Option.rec (motive := fun _ => Option RegRes) none (fun S => k S H) S
noncomputable def valRes (S : St) (H : Hp) (dst : Option Tmp) (k : Kont) : Option OpRes → Option RegRes
 | some (.val v H') => bif Nat.beq H'.nx H.nx then stepPut k H (S.put dst v) else none
 | _ => none
noncomputable def valIf (P : Program) (call : CallEv) (yld : YieldEv) (S : St) (H : Hp) (o : Oper) (k : Kont) (b : Bool) : Option RegRes :=
 Bool.rec (motive := fun _ => Option RegRes) (stepPut k H (S.put o.dst undef)) (valRes S H o.dst k (evOp P call yld S H o)) b
noncomputable def valStep (P : Program) (call : CallEv) (yld : YieldEv) (ops : List Oper) (S : St) (H : Hp) (k : Kont) (o : Oper) : Option RegRes :=
 Option.rec (motive := fun _ => Option RegRes) none (valIf P call yld S H o k) (guardB ops S.T o)
noncomputable def alcRes2 (S : St) (dst : Option Tmp) (k : Kont) (kv : AV) : Option (Nat × Hp) → Option RegRes
 | some (a, H) => stepPut k H (S.put dst (kv.at a))
 | none => none
noncomputable def alcRes (S : St) (H : Hp) (dst : Option Tmp) (k : Kont) : Option (Blk × AV) → Option RegRes
 | some (b, kv) => alcRes2 S dst k kv (H.new b)
 | none => none
noncomputable def alcIf (P : Program) (S : St) (H : Hp) (o : Oper) (k : Kont) (b : Bool) : Option RegRes :=
 Bool.rec (motive := fun _ => Option RegRes) (stepPut k H (S.put o.dst undef)) (alcRes S H o.dst k (allocOf P S.T o.op)) b
noncomputable def alcStep (P : Program) (ops : List Oper) (S : St) (H : Hp) (k : Kont) (o : Oper) : Option RegRes :=
 Option.rec (motive := fun _ => Option RegRes) none (alcIf P S H o k) (guardB ops S.T o)
noncomputable def chnStep (k : Kont) : Option RegRes → Option RegRes
 | some (.ok S H) => k S H
 | _ => none
noncomputable def chkVal (nx : Nat) (T : Tr Value) (dst : Option Tmp) : Option OpRes → Bool
 | some (.val v H') => Nat.beq H'.nx nx && (match dst with
  | none => true
  | some d => (match T.get d with | some u => veq 8 v u | none => false))
 | _ => false
noncomputable def chkOne2 (P : Program) (call : CallEv) (yld : YieldEv) (ops : List Oper) (S : St) (H : Hp) (o : Oper) : Option Bool → Bool
 | some true => chkVal H.nx S.T o.dst (evOp P call yld S H o)
 | some false => true
 | none => false
noncomputable def chkOne (P : Program) (call : CallEv) (yld : YieldEv) (ops : List Oper) (S : St) (H : Hp) (i : Nat) : Bool :=
 match nth ops i with
 | some o => chkOne2 P call yld ops S H o (guardB ops S.T o)
 | none => false
noncomputable def onOp (ops : List Oper) (i : Nat) (f : Oper → Option RegRes) : Option RegRes := Option.rec (motive := fun _ => Option RegRes) none f (nth ops i)
noncomputable def chkStep (P : Program) (call : CallEv) (yld : YieldEv) (ops : List Oper) (S : St) (H : Hp) (k : Kont) (l : List Nat) : Option RegRes :=
 bif l.all (chkOne P call yld ops S H) then k S H else none
noncomputable def dStep (P : Program) (call : CallEv) (yld : YieldEv) (ops : List Oper) (k : Kont) (S : St) (H : Hp) (s : DStep) : Option RegRes :=
 DStep.rec (motive := fun _ => Option RegRes) (fun i => onOp ops i (valStep P call yld ops S H k)) (fun i => onOp ops i (alcStep P ops S H k)) (fun i => onOp ops i fun o => chnStep k (one P call yld ops S H o)) (chkStep P call yld ops S H k) s
noncomputable def drawGo (P : Program) (call : CallEv) (yld : YieldEv) (ops : List Oper) (l : List DStep) : Kont :=
 List.rec (motive := fun _ => Kont) (fun S H => some (.ok S H)) (fun s _ k S H => dStep P call yld ops k S H s) l
noncomputable def planOf (ops : List Oper) : List DStep := mkPlan ops (chainM ops ops 0) (allocM ops 0) (3 * ops.length + 3) 0 0 0
noncomputable def evDraw (P : Program) (call : CallEv) (yld : YieldEv) (ops : List Oper) (S : St) (H : Hp) : Option RegRes :=
 bif drawOk ops then drawGo P call yld ops (planOf ops) S H else none
noncomputable def allIx (f : Nat → Oper → Bool) : List Oper → Nat → Bool
 | [], _ => true
 | o :: l, i => f i o && allIx f l (Nat.succ i)
noncomputable def isT (t : Nat) : Operand → Bool
 | .tmp u => Nat.beq u t
 | _ => false
noncomputable def dstIs (t : Nat) : Option Tmp → Bool
 | some u => Nat.beq u t
 | none => false
noncomputable def safeX (l : List Oper) (mask : Nat) : Operand → Bool
 | .tmp u => allIx (fun i o => !dstIs u o.dst || Nat.testBit mask i) l 0
 | _ => true
structure Lit where
 t : Nat
 m : Nat
 ty : TypeId
 n : Nat
noncomputable def litOp (L : Lit) (i : Nat) (o : Oper) : Oper :=
 match o.op with
 | .insert _ _ k x => { o with op := .makeFunc (.func 0) #[k, x] #[] }
 | .makeMap ty none => bif Nat.beq i L.m then { o with op := .makeMap ty (some (.const (.int .i64 (.ofNat 0)))) } else o
 | _ => o
noncomputable def litOps (L : Lit) : List Oper → Nat → List Oper
 | [], _ => []
 | o :: l, i => litOp L i o :: litOps L l (Nat.succ i)
noncomputable def litAt (L : Lit) (ops : List Oper) (ch : Nat) (i : Nat) (o : Oper) : Bool :=
 o.guard.isNone && (match o.op with
 | .insert ty m k x => isT L.t m && Nat.beq ty L.ty && o.dst.isNone && Nat.testBit (Oper.mask o) L.m && safeX ops (Oper.mask o) k && safeX ops (Oper.mask o) x && !Nat.testBit ch i
 | .makeMap ty none => (bif Nat.beq i L.m then dstIs L.t o.dst && Nat.beq ty L.ty && !Nat.testBit ch i else !dstIs L.t o.dst)
 | _ => !Nat.beq i L.m && !dstIs L.t o.dst)
noncomputable def litT : List Oper → Option (Nat × TypeId)
 | [] => none
 | o :: l => match o.op with
  | .insert ty (.tmp t) _ _ => some (t, ty)
  | _ => litT l
noncomputable def litM (t : Nat) : List Oper → Nat → Nat
 | [], i => i
 | o :: l, i => bif dstIs t o.dst then i else litM t l (Nat.succ i)
noncomputable def litN : List Oper → Nat → Nat → Nat
 | [], _, n => n
 | o :: l, i, n => match o.op with
  | .insert _ _ _ _ => litN l (Nat.succ i) (Nat.succ i)
  | _ => litN l (Nat.succ i) n
noncomputable def litOf (ops : List Oper) : Option Lit := match litT ops with
 | some (t, ty) => some ⟨t, litM t ops 0, ty, litN ops 0 0⟩
 | none => none
noncomputable def litOk (L : Lit) (ops : List Oper) : Bool :=
 Nat.ble L.n ops.length && Nat.blt L.m L.n && drawOk (litOps L (ops.take L.n) 0) && allIx (litAt L (ops.take L.n) (chainM (litOps L (ops.take L.n) 0) (litOps L (ops.take L.n) 0) 0)) (ops.take L.n) 0 &&
 allIx (fun i o => isIn (Oper.mask o) i && Nat.blt (Oper.mask o) (Nat.pow 2 i)) (ops.drop L.n) L.n
noncomputable def litGo (P : Program) (T : Tr Value) (key : TypeId) : List Oper → Nat → Option (List (Nat × Value × Value))
 | [], _ => some []
 | o :: l, i => match o.op with
  | .insert _ _ k x => (match opdT T k, opdT T x, litGo P T key l (Nat.succ i) with
   | some kv, some xv, some r => bif keyOk P key kv false then some ((i, kv, xv) :: r) else none
   | _, _, _ => none)
  | _ => litGo P T key l (Nat.succ i)
noncomputable def isNo : Option Bool → Bool
 | some false => true
 | _ => false
noncomputable def apartK (P : Program) (kt : TypeId) (kd : TypeDesc) : List (Nat × Value × Value) → Bool
 | [] => true
 | e :: l => l.all (fun x => isNo (testA P kt kd e.2.1 x.2.1) && isNo (testA P kt kd x.2.1 e.2.1)) && apartK P kt kd l
noncomputable def litEs (l : List (Nat × Value × Value)) : List MapEntry := l.map fun x => { key := x.2.1, val := x.2.2, born := 0 }
noncomputable def litEnd3 (P : Program) (call : CallEv) (yld : YieldEv) (ops : List Oper) (L : Lit) (H : Hp) : Option St → Option RegRes
 | some S => evOps P call yld ops (ops.drop L.n) S H
 | none => none
noncomputable def litEnd2 (P : Program) (call : CallEv) (yld : YieldEv) (ops : List Oper) (L : Lit) (S : St) : Option (Nat × Hp) → Option RegRes
 | some (a, H) => litEnd3 P call yld ops L H (S.put (some L.t) (.map (some a)))
 | none => none
noncomputable def litEnd (P : Program) (call : CallEv) (yld : YieldEv) (ops : List Oper) (L : Lit) (S : St) (H : Hp) (key : TypeId) (kd : TypeDesc) : Option (List (Nat × Value × Value)) → Option RegRes
 | some es => bif apartK P key kd es then litEnd2 P call yld ops L S (H.new (.map (litEs es) es.length)) else none
 | none => none
noncomputable def litRun (P : Program) (call : CallEv) (yld : YieldEv) (ops : List Oper) (L : Lit) (key : TypeId) (kd : TypeDesc) : Option RegRes → Option RegRes
 | some (.ok S H) => (match S.T.get L.t with
  | some (.map (some _)) => litEnd P call yld ops L S H key kd (litGo P S.T key (ops.take L.n) 0)
  | _ => none)
 | _ => none
noncomputable def evLit (P : Program) (call : CallEv) (yld : YieldEv) (ops : List Oper) (S : St) (H : Hp) (L : Lit) : Option RegRes :=
 bif litOk L ops then
  match P.underlying L.ty with
  | some (.map key _) => (match P.underlying key with
   | some kd => litRun P call yld ops L key kd (drawGo P call yld (litOps L (ops.take L.n) 0) (planOf (litOps L (ops.take L.n) 0)) S H)
   | none => none)
  | _ => none
 else none
noncomputable def evDrawA (P : Program) (call : CallEv) (yld : YieldEv) (ops : List Oper) (S : St) (H : Hp) : Option RegRes :=
 Option.rec (motive := fun _ => Option RegRes) (evDraw P call yld ops S H) (evLit P call yld ops S H) (litOf ops)
structure Evs where
 code : Code → St → Hp → Option (Exit × St × Hp)
 body : FuncId → List Value → Bool → FrameMode → Hp → Option (Ending × FrameMode × Hp)
noncomputable def Evs.call (E : Evs) : CallEv := fun f args H => match E.body f args false .run H with
 | some (e, _, H) => some (e, H)
 | none => none
noncomputable def putAll : Tr Value → List Tmp → List Value → Option (Tr Value)
 | T, [], [] => some T
 | T, t :: ts, v :: vs => match T.set trDepth t v with | some T => putAll T ts vs | none => none
 | _, _, _ => none
noncomputable def allBelow (n : Nat) : List Nat → Bool
 | [] => true
 | x :: l => Nat.blt x n && allBelow n l
noncomputable def jumpOf : Exit → Option (Option Code)
 | .normal => some none
 | .ret => some (some .ret)
 | .exit id => some (some (.exit id))
 | _ => none
noncomputable def yldEnd2 (j : Option Code) : Option Hp → Option (Ending × Hp)
 | some H => some (.returned (.bool j.isNone), H)
 | none => none
noncomputable def yldEnd (H : Hp) (l : Nat) (j : Option Code) : Option (Ending × Hp) :=
 match H.mem.get l with
 | some (.loop r) => yldEnd2 j (H.upd l (.loop { r with state := if j.isNone then .ready else .done, pending := j }))
 | _ => none
noncomputable def yldBody (l : Nat) : Option (Exit × St × Hp) → Option (Ending × Hp)
 | some (e, _, H) => (match jumpOf e with
  | some j => yldEnd H l j
  | none => none)
 | none => none
noncomputable def yldBegin2 (E : Evs) (l : Nat) (body : Code) (S : St) : Option Hp → Option (Ending × Hp)
 | some H => yldBody l (E.code body S H)
 | none => none
noncomputable def yldBegin (E : Evs) (l : Nat) (body : Code) (S : St) (H : Hp) : Option (Ending × Hp) :=
 match H.mem.get l with
 | some (.loop r) => (match r.state with
  | .ready => yldBegin2 E l body S (H.upd l (.loop { r with state := .busy }))
  | _ => none)
 | _ => none
noncomputable def yldAssign (E : Evs) (l : Nat) (body : Code) : Option (Exit × St × Hp) → Option (Ending × Hp)
 | some (.normal, S, H) => yldBegin E l body S H
 | _ => none
noncomputable def yldPut (E : Evs) (l : Nat) (r : ALoop) (H : Hp) : Option (Tr Value) → Option (Ending × Hp)
 | some T => yldAssign E l r.body (E.code r.assign ⟨T, r.n, [], false, .run, some l⟩ H)
 | none => none
noncomputable def Evs.yld (E : Evs) : YieldEv := fun l args H =>
 match H.mem.get l with
 | some (.loop r) => bif Nat.ble H.glo l && allBelow r.n r.params then yldPut E l r H (putAll r.T r.params args) else none
 | _ => none
noncomputable def regExit : Option RegRes → Option (Exit × St × Hp)
 | some (.ok S H) => some (.normal, S, H)
 | some (.pan chain S H) => some (.panic chain, S, H)
 | none => none
noncomputable def rangeStart (S : St) (H : Hp) : Option (Nat × List Deferred × Hp) :=
 match S.rnd with
 | some l => (match H.mem.get l with | some (.loop r) => some (r.dfr, S.ds, H) | _ => none)
 | none => (match H.new (.dfr (some [])) with | some (r, H) => some (r, { target := .collected r, args := #[] } :: S.ds, H) | none => none)
noncomputable def rangeEnd3 (S : St) : Option Code → Hp → Option (Exit × St × Hp)
 | none, H => some (.normal, S, H)
 | some .ret, H => some (.ret, S, H)
 | some (.exit id), H => some (.exit id, S, H)
 | some _, _ => none
noncomputable def rangeEnd2 (S : St) (l : Nat) (H : Hp) : Option (Exit × St × Hp) :=
 match H.mem.get l with
 | some (.loop r) => (match r.state with
  | .busy => none
  | _ => (match H.upd l (.loop { r with state := .exhausted }) with
   | none => none
   | some H => rangeEnd3 S r.pending H))
 | _ => none
noncomputable def rangeEnd (S : St) (l : Nat) : Option (Ending × FrameMode × Hp) → Option (Exit × St × Hp)
 | some (.returned _, _, H) => rangeEnd2 S l H
 | some (.panicked chain, _, H) => some (.panic chain, S, H)
 | _ => none
noncomputable def rangeCall (P : Program) (E : Evs) (S : St) (l : Nat) (H : Hp) : Option Value → Option (Exit × St × Hp)
 | some (.func fn first captured) => (match evFn P H fn (first.toList ++ [.func (.yield l) #[] #[]]) captured.toList with
  | none => none
  | some (g, as) => rangeEnd S l (E.body g as false .run H))
 | _ => none
noncomputable def evRange (P : Program) (E : Evs) (f : Operand) (params : Array Tmp) (assign body : Code) (S : St) (H : Hp) : Option (Exit × St × Hp) :=
 match rangeStart S H with
 | none => none
 | some (d, ds, H) =>
  match H.new (.loop { state := .ready, pending := none, T := S.T, n := S.n, params := params.toList, assign, body, dfr := d }) with
  | none => none
  | some (l, H) => rangeCall P E { S with ds := ds } l H (opd S.T H f)
noncomputable def cSeq2 (E : Evs) (b : Code) : Option (Exit × St × Hp) → Option (Exit × St × Hp)
 | some (.normal, S, H) => E.code b S H
 | r => r
noncomputable def cSeq (E : Evs) (S : St) (H : Hp) (a b : Code) : Option (Exit × St × Hp) := cSeq2 E b (E.code a S H)
noncomputable def cCond2 (E : Evs) (S : St) (H : Hp) (x y : Code) : Option Value → Option (Exit × St × Hp)
 | some (.bool true) => E.code x S H
 | some (.bool false) => E.code y S H
 | _ => none
noncomputable def cCond (E : Evs) (S : St) (H : Hp) (c : Operand) (x y : Code) : Option (Exit × St × Hp) := cCond2 E S H x y (opd S.T H c)
noncomputable def cBlock2 (id : Nat) : Option (Exit × St × Hp) → Option (Exit × St × Hp)
 | some (.exit id', S, H) => bif Nat.beq id' id then some (.normal, S, H) else some (.exit id', S, H)
 | r => r
noncomputable def cBlock (E : Evs) (S : St) (H : Hp) (id : Nat) (c : Code) : Option (Exit × St × Hp) := cBlock2 id (E.code c S H)
noncomputable def cLoop (E : Evs) (S : St) (H : Hp) (c : Code) : Option (Exit × St × Hp) := cSeq2 E (.loop c) (E.code c S H)
noncomputable def cScope2 : Option (Exit × St × Hp) → Option (Exit × St × Hp)
 | some (.goto _, _, _) => none
 | r => r
noncomputable def cScope (E : Evs) (S : St) (H : Hp) (c : Code) : Option (Exit × St × Hp) := cScope2 (E.code c S H)
noncomputable def cRegion (P : Program) (E : Evs) (S : St) (H : Hp) (_ : Nat) (ops : Array Oper) : Bool → Option (Exit × St × Hp)
 | false => regExit (evOps P E.call E.yld ops.toList ops.toList S H)
 | true => regExit (evDrawA P E.call E.yld ops.toList S H)
noncomputable def cRange (P : Program) (E : Evs) (S : St) (H : Hp) (f : Operand) (params : Array Tmp) (assign body : Code) : Option (Exit × St × Hp) := evRange P E f params assign body S H
noncomputable def cExit (S : St) (H : Hp) (id : Nat) : Option (Exit × St × Hp) := some (.exit id, S, H)
noncomputable def cNo1.{u} {a : Sort u} (_ : a) : Option (Exit × St × Hp) := none
noncomputable def cNorm (S : St) (H : Hp) (_ : Nat) : Option (Exit × St × Hp) := some (.normal, S, H)
noncomputable def evCode (P : Program) (E : Evs) (c : Code) (S : St) (H : Hp) : Option (Exit × St × Hp) :=
 Code.casesOn (motive := fun _ => Option (Exit × St × Hp)) c
  (some (.normal, S, H)) (cRegion P E S H) (cSeq E S H) (cCond E S H) (cBlock E S H) (cLoop E S H) (cRange P E S H) (cExit S H) (cScope E S H) (cNorm S H) cNo1 (some (.ret, S, H)) cNo1
noncomputable def evResults (P : Program) (T : Tr Value) (H : Hp) : List ResultVar → Option (List Value)
 | [] => some []
 | .tmp t :: l => (match T.get t with
  | some v => (match evResults P T H l with | some r => some (v :: r) | none => none)
  | none => none)
 | .cell a t :: l => (match T.get a with
  | some p => (match evLoad P H t p with
   | some v => (match evResults P T H l with | some r => some (v :: r) | none => none)
   | none => none)
  | none => none)
noncomputable def oneOrTuple : List Value → Value
 | [v] => v
 | vs => .tuple vs.toArray
noncomputable def isRun : FrameMode → Bool
 | .run => true
 | _ => false
noncomputable def evLeave (P : Program) (E : Evs) (fn : Func) (T : Tr Value) : List Deferred → FrameMode → Hp → Option (Ending × Hp)
 | [], .returning, H => match evResults P T H fn.results.toList with
  | some vs => some (.returned (oneOrTuple vs), H)
  | none => none
 | [], .panicking chain, H => some (.panicked chain, H)
 | [], .run, _ => none
 | d :: ds, u, H => bif isRun u then none else match d.target with
  | .fn fv cap => match evFn P H fv d.args.toList cap.toList with
   | none => none
   | some (f, args) => match E.body f args true u H with
    | some (.returned _, u, H) => evLeave P E fn T ds (settle u) H
    | some (.panicked chain, u, H) => evLeave P E fn T ds (raised u chain) H
    | _ => none
  | .collected r => match H.mem.get r with
   | some (.dfr (some [])) => bif Nat.ble H.glo r then (match H.upd r (.dfr none) with
    | some H => evLeave P E fn T ds u H
    | none => none) else none
   | _ => none
  | _ => none
noncomputable def floors (n : Nat) : Nat := Nat.succ (Nat.log2 (Nat.succ n))
noncomputable def blank (n : Nat) : Tr Value := Tr.full undef (floors n)
noncomputable def argsT : List Value → Nat → Tr Value → Option (Tr Value)
 | [], _, T => some T
 | v :: l, i, T => match T.set trDepth i v with | some T => argsT l (Nat.succ i) T | none => none
noncomputable def extNoZero2 (e : TypeId) (n : Nat) (H : Hp) : Option (Ending × Hp) :=
 match H.newOpen [] e false with
 | some (id, H) => some (.returned (.slice (some ⟨id, 0, none⟩) n openCap), H)
 | none => none
noncomputable def extNoZero (P : Program) (fn : Func) (H : Hp) : List Value → List TypeId → Option (Ending × Hp)
 | [.int .i64 (.ofNat n)], [t] => bif decide (fn.name = "internal/bytealg.MakeNoZero") && decide (fn.origin = "") && Nat.ble n 1000000 then
   (match P.underlying t with
   | some (.slice e) => bif Nat.beq (P.cellsOf e) 1 then extNoZero2 e n H else none
   | _ => none)
  else none
 | _, _ => none
noncomputable def extPlain2 (P : Program) (fn : Func) (args : List Value) (H : Hp) : Option Next → Option (Ending × Hp)
 | some (.value v) => bif plain v then some (.returned v, H) else none
 | _ => extNoZero P fn H args fn.resultTypes.toList
noncomputable def extSame (fn : Func) (H : Hp) : List Value → Option (Ending × Hp)
 | [v] => bif decide (fn.name = "internal/abi.NoEscape") && decide (fn.origin = "") then some (.returned v, H) else none
 | _ => none
noncomputable def evExtern (P : Program) (fn : Func) (f : FuncId) (args : List Value) (H : Hp) : Option (Ending × Hp) :=
 bif args.all plain then extPlain2 P fn args H (evPure P (callFunc f args.toArray)) else extSame fn H args
noncomputable def bodyEnd2 (um : FrameMode) : Option (Ending × Hp) → Option (Ending × FrameMode × Hp)
 | some (e, H) => some (e, um, H)
 | none => none
noncomputable def bodyEnd (P : Program) (E : Evs) (fn : Func) : Option (Exit × St × Hp) → Option (Ending × FrameMode × Hp)
 | some (.normal, S, H) => bodyEnd2 S.um (evLeave P E fn S.T S.ds .returning H)
 | some (.ret, S, H) => bodyEnd2 S.um (evLeave P E fn S.T S.ds .returning H)
 | some (.panic chain, S, H) => bodyEnd2 S.um (evLeave P E fn S.T S.ds (.panicking chain) H)
 | _ => none
noncomputable def bodyRun (P : Program) (E : Evs) (fn : Func) (c : Code) (dfd : Bool) (um : FrameMode) (H : Hp) : Option (Tr Value) → Option (Ending × FrameMode × Hp)
 | some T => bodyEnd P E fn (E.code c ⟨T, fn.ntmps, [], dfd, um, none⟩ H)
 | none => none
noncomputable def bodyOf (P : Program) (E : Evs) (f : FuncId) (fn : Func) (args : List Value) (dfd : Bool) (um : FrameMode) (H : Hp) : Option Code → Option (Ending × FrameMode × Hp)
 | some c => bodyRun P E fn c dfd um H (argsT args 0 (blank fn.ntmps))
 | none => bif dfd then none else bodyEnd2 um (evExtern P fn f args H)
noncomputable def evBody (P : Program) (ft : Tr Func) (E : Evs) (f : FuncId) (args : List Value) (dfd : Bool) (um : FrameMode) (H : Hp) : Option (Ending × FrameMode × Hp) :=
 match ft.get f with
 | none => none
 | some fn => bodyOf P E f fn args dfd um H fn.body
noncomputable def evs (P : Program) (ft : Tr Func) (n : Nat) : Evs :=
 Nat.rec (motive := fun _ => Evs) ⟨fun _ _ _ => none, fun _ _ _ _ _ => none⟩ (fun _ E => ⟨evCode P E, evBody P ft E⟩) n
noncomputable def trOf {α : Type} : List α → Nat → Tr α → Option (Tr α)
 | [], _, T => some T
 | v :: l, i, T => match T.set trDepth i v with | some T => trOf l (Nat.succ i) T | none => none
end Go.Cre
namespace Go.Cre
open Go.RowKit
theorem Tr.get_leaf {α : Type} (n : Nat) : (Tr.leaf : Tr α).get n = none := rfl
theorem Tr.get_zero {α : Type} (v : Option α) (l r : Tr α) : (Tr.node v l r).get 0 = v := rfl
theorem Tr.get_succ {α : Type} (v : Option α) (l r : Tr α) (m : Nat) : (Tr.node v l r).get (m + 1) = if m % 2 = 0 then l.get (m / 2) else r.get (m / 2) := by
 show Bool.rec (motive := fun _ => Option α) (r.get (m / 2)) (l.get (m / 2)) (Nat.beq (m % 2) 0) = _; by_cases h : m % 2 = 0
 ·
  rw [if_pos h]; simp [h]
 ·
  rw [if_neg h]; have : Nat.beq (m % 2) 0 = false := by
   cases hb : Nat.beq (m % 2) 0
   ·
    rfl
   ·
    exact absurd (Nat.eq_of_beq_eq_true hb) h
  rw [this]
theorem Tr.put_leaf_zero {α : Type} (a : α) : Tr.put a .leaf 0 = some (.node (some a) .leaf .leaf) := rfl
theorem Tr.put_leaf_succ {α : Type} (a : α) (m : Nat) : Tr.put a .leaf (m + 1) = none := rfl
theorem Tr.put_zero {α : Type} (a : α) (v : Option α) (l r : Tr α) : Tr.put a (.node v l r) 0 = some (.node (some a) l r) := rfl
theorem Tr.put_succ {α : Type} (a : α) (v : Option α) (l r : Tr α) (m : Nat) :
  Tr.put a (.node v l r) (m + 1) = if m % 2 = 0 then Tr.left v r (Tr.put a l (m / 2)) else Tr.right v l (Tr.put a r (m / 2)) := by
 show Bool.rec (motive := fun _ => Option (Tr α)) (Tr.right v l (Tr.put a r (m / 2))) (Tr.left v r (Tr.put a l (m / 2))) (Nat.beq (m % 2) 0) = _; by_cases h : m % 2 = 0
 ·
  rw [if_pos h]; simp [h]
 ·
  rw [if_neg h]; have : Nat.beq (m % 2) 0 = false := by
   cases hb : Nat.beq (m % 2) 0
   ·
    rfl
   ·
    exact absurd (Nat.eq_of_beq_eq_true hb) h
  rw [this]
theorem Tr.get_put {α : Type} {a : α} {t t' : Tr α} {n : Nat} (h : Tr.put a t n = some t') (m : Nat) : t'.get m = if m = n then some a else t.get m := by
 induction t generalizing t' n m with
 | leaf =>
  cases n with
  | zero =>
   rw [Tr.put_leaf_zero] at h; injection h with h; subst h
   cases m with
   | zero => simp [Tr.get_zero]
   | succ m => rw [Tr.get_succ]; simp [Tr.get_leaf]
  | succ n => rw [Tr.put_leaf_succ] at h; cases h
 | node v l r ihl ihr =>
  cases n with
  | zero =>
   rw [Tr.put_zero] at h; injection h with h; subst h
   cases m with
   | zero => simp [Tr.get_zero]
   | succ m => rw [Tr.get_succ, Tr.get_succ]; simp
  | succ n =>
   rw [Tr.put_succ] at h; by_cases hn : n % 2 = 0
   ·
    rw [if_pos hn] at h; cases hl : Tr.put a l (n / 2) with
    | none => rw [hl] at h; cases h
    | some l' =>
     rw [hl] at h; injection h with h; subst h
     cases m with
     | zero => simp [Tr.get_zero]
     | succ m =>
      rw [Tr.get_succ, Tr.get_succ, ihl hl]; by_cases hm : m % 2 = 0
      ·
       rw [if_pos hm, if_pos hm]; have : (m / 2 = n / 2) ↔ (m + 1 = n + 1) := by omega
       simp [this]
      ·
       rw [if_neg hm, if_neg hm]; have : ¬ (m + 1 = n + 1) := by omega
       rw [if_neg this]
   ·
    rw [if_neg hn] at h; cases hr : Tr.put a r (n / 2) with
    | none => rw [hr] at h; cases h
    | some r' =>
     rw [hr] at h; injection h with h; subst h
     cases m with
     | zero => simp [Tr.get_zero]
     | succ m =>
      rw [Tr.get_succ, Tr.get_succ, ihr hr]; by_cases hm : m % 2 = 0
      ·
       rw [if_pos hm, if_pos hm]; have : ¬ (m + 1 = n + 1) := by omega
       rw [if_neg this]
      ·
       rw [if_neg hm, if_neg hm]; have : (m / 2 = n / 2) ↔ (m + 1 = n + 1) := by omega
       simp [this]
theorem Tr.get_set {α : Type} {a : α} {t t' : Tr α} {d n : Nat} (h : Tr.set d t n a = some t') (m : Nat) : t'.get m = if m = n then some a else t.get m := Tr.get_put h m
theorem nth_eq {α : Type} (l : List α) (n : Nat) : nth l n = l[n]? := by
 induction l generalizing n with
 | nil => rfl
 | cons a l ih => cases n with
  | zero => rfl
  | succ n => exact ih n
theorem dropN_eq {α : Type} (n : Nat) (l : List α) : dropN n l = l.drop n := by
 induction l generalizing n with
 | nil => simp [dropN]
 | cons a l ih => cases n with
  | zero => rfl
  | succ n => exact ih n
theorem takeN_eq {α : Type} {n : Nat} {l r : List α} (h : takeN n l = some r) : r = l.take n ∧ r.length = n ∧ n ≤ l.length := by
 induction n generalizing l r with
 | zero => simp [takeN] at h; subst h; simp
 | succ n ih =>
  cases l with
  | nil => simp [takeN] at h
  | cons a l =>
   simp only [takeN] at h; cases ht : takeN n l with
   | none => rw [ht] at h; cases h
   | some r' =>
    rw [ht] at h; injection h with h; subst h
    obtain ⟨e1, e2, e3⟩ := ih ht; refine ⟨by rw [e1, List.take_succ_cons], by simp [e2], by simp; omega⟩
theorem splice_spec {α : Type} {n : Nat} {l vs r : List α} (h : splice n l vs = some r) :
  r.length = l.length ∧ n + vs.length ≤ l.length ∧ ∀ i, r[i]? = if n ≤ i ∧ i < n + vs.length then vs[i - n]? else l[i]? := by
 induction n generalizing l r with
 | zero =>
  induction vs generalizing l r with
  | nil => simp [splice] at h; subst h; exact ⟨rfl, by simp, fun i => by simp⟩
  | cons v vs ih =>
   cases l with
   | nil => simp [splice] at h
   | cons a l =>
    simp only [splice] at h; cases hs : splice 0 l vs with
    | none => rw [hs] at h; cases h
    | some r' =>
     rw [hs] at h; injection h with h; subst h
     obtain ⟨e1, e2, e3⟩ := ih hs; refine ⟨by simp [e1], by simp at *; omega, fun i => ?_⟩; cases i with
     | zero => simp
     | succ i =>
      have := e3 i; simp only [List.getElem?_cons_succ, this]; simp
 | succ n ih =>
  cases l with
  | nil => simp [splice] at h
  | cons a l =>
   simp only [splice] at h; cases hs : splice n l vs with
   | none => rw [hs] at h; cases h
   | some r' =>
    rw [hs] at h; injection h with h; subst h
    obtain ⟨e1, e2, e3⟩ := ih hs; refine ⟨by simp [e1], by simp; omega, fun i => ?_⟩; cases i with
    | zero => simp
    | succ i =>
     have := e3 i; simp only [List.getElem?_cons_succ, this]; have hc : (n + 1 ≤ i + 1 ∧ i + 1 < n + 1 + vs.length) ↔ (n ≤ i ∧ i < n + vs.length) := by omega
     simp only [hc]; split
     ·
      rw [show i + 1 - (n + 1) = i - n from by omega]
     ·
      rfl
structure Loc where
 r : Nat
 N : Nat
 sz : Nat
abbrev Mp := Nat → Option Loc
def isAtom : Value → Bool
 | .bool _ | .int _ _ | .float _ _ | .string _ | .nilFunc | .nilIface | .pointer none | .slice none _ _ | .map none => true
 | _ => false
inductive VRel (μ : Mp) : Value → Value → Prop
 | atom (v : Value) : isAtom v = true → VRel μ v v
 | ptr (id off : Nat) (L : Loc) : μ id = some L → VRel μ (.pointer (some ⟨id, off, none⟩)) (.pointer (some ⟨L.r, off, none⟩))
 | sliceE (id off len cap : Nat) (L : Loc) : μ id = some L → cap < openCap → VRel μ (.slice (some ⟨id, off, none⟩) len cap) (.slice (some ⟨L.r, off, none⟩) len cap)
 | sliceO (id off len cap : Nat) (L : Loc) : μ id = some L → len ≤ cap → off + cap * L.sz ≤ L.N → VRel μ (.slice (some ⟨id, off, none⟩) len openCap) (.slice (some ⟨L.r, off, none⟩) len cap)
 | sliceZ (id off off' : Nat) (L : Loc) : μ id = some L → VRel μ (.slice (some ⟨id, off, none⟩) 0 openCap) (.slice (some ⟨L.r, off', none⟩) 0 0)
 | sliceX (a : Addr) : VRel μ (.slice (some ⟨0, 0, some 0⟩) 0 0) (.slice (some a) 0 0)
 | map (id : Nat) (L : Loc) : μ id = some L → VRel μ (.map (some id)) (.map (some L.r))
 | wild (v : Value) : oneCell v = true → VRel μ (.chan none) v
 | func (fn : Fn) (a b a' b' : Array Value) : notYield fn = true → a.size = a'.size → b.size = b'.size →
   (∀ (i : Nat) v v', a[i]? = some v → a'[i]? = some v' → VRel μ v v') → (∀ (i : Nat) v v', b[i]? = some v → b'[i]? = some v' → VRel μ v v') → VRel μ (.func fn a b) (.func fn a' b')
 | yield (l : Nat) (L : Loc) : μ l = some L → VRel μ (.func (.yield l) #[] #[]) (.func (.yield L.r) #[] #[])
 | iface (t : TypeId) (v v' : Value) : VRel μ v v' → VRel μ (.iface t v) (.iface t v')
 | agg (a a' : Array Value) : a.size = a'.size → (∀ (i : Nat) v v', a[i]? = some v → a'[i]? = some v' → VRel μ v v') → VRel μ (.agg a) (.agg a')
 | tuple (a a' : Array Value) : a.size = a'.size → (∀ (i : Nat) v v', a[i]? = some v → a'[i]? = some v' → VRel μ v v') → VRel μ (.tuple a) (.tuple a')
def LRel (μ : Mp) (l l' : List Value) : Prop := l.length = l'.length ∧ ∀ (i : Nat) v v', l[i]? = some v → l'[i]? = some v' → VRel μ v v'
def Ext (μ μ' : Mp) : Prop := ∀ id L, μ id = some L → μ' id = some L
theorem Ext.refl (μ : Mp) : Ext μ μ := fun _ _ h => h
theorem Ext.trans {a b c : Mp} (h : Ext a b) (k : Ext b c) : Ext a c := fun id L x => k id L (h id L x)
theorem VRel.mono {μ μ' : Mp} {v v' : Value} (h : VRel μ v v') (e : Ext μ μ') : VRel μ' v v' := by
 induction h with
 | atom v h => exact .atom v h
 | ptr id off L h => exact .ptr id off L (e _ _ h)
 | sliceE id off len cap L h hc => exact .sliceE id off len cap L (e _ _ h) hc
 | sliceO id off len cap L h hc hn => exact .sliceO id off len cap L (e _ _ h) hc hn
 | sliceZ id off off' L h => exact .sliceZ id off off' L (e _ _ h)
 | sliceX a => exact .sliceX a
 | map id L h => exact .map id L (e _ _ h)
 | wild v h => exact .wild v h
 | func fn a b a' b' hy ha hb _ _ iha ihb => exact .func fn a b a' b' hy ha hb iha ihb
 | yield l L h => exact .yield l L (e _ _ h)
 | iface t v v' _ ih => exact .iface t v v' ih
 | agg a a' hs _ ih => exact .agg a a' hs ih
 | tuple a a' hs _ ih => exact .tuple a a' hs ih
theorem LRel.mono {μ μ' : Mp} {l l' : List Value} (h : LRel μ l l') (e : Ext μ μ') : LRel μ' l l' := ⟨h.1, fun i v v' a b => (h.2 i v v' a b).mono e⟩
theorem LRel.nil (μ : Mp) : LRel μ [] [] := ⟨rfl, fun i v v' h => by simp at h⟩
theorem LRel.cons {μ : Mp} {v v' : Value} {l l' : List Value} (h : VRel μ v v') (t : LRel μ l l') : LRel μ (v :: l) (v' :: l') := by
 refine ⟨by simp [t.1], fun i a b ha hb => ?_⟩; cases i with
 | zero => simp at ha hb; subst ha; subst hb; exact h
 | succ i => simp at ha hb; exact t.2 i a b ha hb
theorem LRel.inv_cons {μ : Mp} {v : Value} {l m : List Value} (h : LRel μ (v :: l) m) : ∃ v' l', m = v' :: l' ∧ VRel μ v v' ∧ LRel μ l l' := by
 cases m with
 | nil => have := h.1; simp at this
 | cons v' l' =>
  refine ⟨v', l', rfl, h.2 0 v v' rfl rfl, by have := h.1; simpa using this, fun i a b ha hb => h.2 (i + 1) a b (by simpa using ha) (by simpa using hb)⟩
theorem LRel.inv_nil {μ : Mp} {m : List Value} (h : LRel μ [] m) : m = [] := by
 have := h.1; exact List.length_eq_zero_iff.1 (by simpa using this.symm)
theorem LRel.append {μ : Mp} {l l' m m' : List Value} (h : LRel μ l l') (k : LRel μ m m') : LRel μ (l ++ m) (l' ++ m') := by
 refine ⟨by simp [h.1, k.1], fun i a b ha hb => ?_⟩; rw [List.getElem?_append] at ha hb; rw [← h.1] at hb; split at ha
 ·
  rename_i hi; rw [if_pos hi] at hb; exact h.2 i a b ha hb
 ·
  rename_i hi; rw [if_neg hi] at hb; exact k.2 _ a b ha hb
theorem LRel.take {μ : Mp} {l l' : List Value} (h : LRel μ l l') (n : Nat) : LRel μ (l.take n) (l'.take n) := by
 refine ⟨by simp [h.1], fun i a b ha hb => ?_⟩; rw [List.getElem?_take] at ha hb; split at ha
 ·
  rename_i hi; rw [if_pos hi] at hb; exact h.2 i a b ha hb
 ·
  cases ha
theorem LRel.drop {μ : Mp} {l l' : List Value} (h : LRel μ l l') (n : Nat) : LRel μ (l.drop n) (l'.drop n) := by
 refine ⟨by simp [h.1], fun i a b ha hb => ?_⟩; rw [List.getElem?_drop] at ha hb; exact h.2 _ a b ha hb
theorem LRel.get {μ : Mp} {l l' : List Value} (h : LRel μ l l') {i : Nat} {v : Value} (hv : l[i]? = some v) : ∃ v', l'[i]? = some v' ∧ VRel μ v v' := by
 have hi : i < l.length := by
  rcases Nat.lt_or_ge i l.length with x | x
  ·
   exact x
  ·
   rw [List.getElem?_eq_none x] at hv; cases hv
 have hi' : i < l'.length := h.1 ▸ hi; exact ⟨l'[i], List.getElem?_eq_getElem hi', h.2 i v _ hv (List.getElem?_eq_getElem hi')⟩
theorem VRel.agg' {μ : Mp} {l l' : List Value} (h : LRel μ l l') : VRel μ (.agg l.toArray) (.agg l'.toArray) :=
 .agg _ _ (by simp [h.1]) fun i v v' a b => h.2 i v v' (by simpa using a) (by simpa using b)
theorem VRel.tuple' {μ : Mp} {l l' : List Value} (h : LRel μ l l') : VRel μ (.tuple l.toArray) (.tuple l'.toArray) :=
 .tuple _ _ (by simp [h.1]) fun i v v' a b => h.2 i v v' (by simpa using a) (by simpa using b)
theorem VRel.agg_inv {μ : Mp} {a : Array Value} {v : Value} (h : VRel μ (.agg a) v) : ∃ a', v = .agg a' ∧ LRel μ a.toList a'.toList := by
 cases h with
 | atom _ h => simp [isAtom] at h
 | agg _ a' hs hr => exact ⟨a', rfl, by simpa using hs, fun i v v' x y => hr i v v' (by simpa using x) (by simpa using y)⟩
theorem VRel.tuple_inv {μ : Mp} {a : Array Value} {v : Value} (h : VRel μ (.tuple a) v) : ∃ a', v = .tuple a' ∧ LRel μ a.toList a'.toList := by
 cases h with
 | atom _ h => simp [isAtom] at h
 | tuple _ a' hs hr => exact ⟨a', rfl, by simpa using hs, fun i v v' x y => hr i v v' (by simpa using x) (by simpa using y)⟩
theorem VRel.undef (μ : Mp) : VRel μ undef undef := .tuple _ _ rfl fun i v v' h => by simp at h
theorem VRel.of_plain {μ : Mp} : ∀ {n : Nat} {v : Value}, plainN n v = true → VRel μ v v := by
 intro n; induction n with
 | zero => intro v h; simp [plainN] at h
 | succ n ih =>
  intro v h; cases v with
  | bool b => exact .atom _ rfl
  | int k n => exact .atom _ rfl
  | float k b => exact .atom _ rfl
  | complex k a b => simp [plainN] at h
  | string s => exact .atom _ rfl
  | pointer a => cases a with
   | none => exact .atom _ rfl
   | some a => simp [plainN] at h
  | slice a l c => cases a with
   | none => exact .atom _ rfl
   | some a => simp [plainN] at h
  | map r => cases r with
   | none => exact .atom _ rfl
   | some a => simp [plainN] at h
  | chan r => simp [plainN] at h
  | func fn a b =>
   cases fn with
   | func f =>
    simp [plainN] at h; obtain ⟨rfl, rfl⟩ := h; exact .func _ _ _ _ _ rfl rfl rfl (fun i v v' h => by simp at h) (fun i v v' h => by simp at h)
   | _ => simp [plainN] at h
  | nilFunc => exact .atom _ rfl
  | iface t v => simp only [plainN] at h; exact .iface _ _ _ (ih h)
  | nilIface => exact .atom _ rfl
  | agg cs =>
   simp only [plainN, List.all_eq_true] at h; exact .agg _ _ rfl fun i v v' a b => by
    rw [a] at b; injection b with b; subst b
    exact ih (h v (Array.mem_toList_iff.2 (Array.mem_of_getElem? a)))
  | tuple cs =>
   simp only [plainN, List.all_eq_true] at h; exact .tuple _ _ rfl fun i v v' a b => by
    rw [a] at b; injection b with b; subst b
    exact ih (h v (Array.mem_toList_iff.2 (Array.mem_of_getElem? a)))
theorem array_ext_of {a b : Array Value} (hs : a.size = b.size) (h : ∀ (i : Nat) v v', a[i]? = some v → b[i]? = some v' → v' = v) : b = a := by
 apply Array.ext hs.symm
 intro i h1 h2; exact h i a[i] b[i] (Array.getElem?_eq_getElem h2) (Array.getElem?_eq_getElem h1)
theorem VRel.plain_eq {μ : Mp} : ∀ {n : Nat} {v v' : Value}, plainN n v = true → VRel μ v v' → v' = v := by
 intro n; induction n with
 | zero => intro v v' h; simp [plainN] at h
 | succ n ih =>
  intro v v' h hr; cases hr with
  | atom _ _ => rfl
  | ptr => simp [plainN] at h
  | sliceE => simp [plainN] at h
  | sliceO => simp [plainN] at h
  | sliceZ => simp [plainN] at h
  | sliceX => simp [plainN] at h
  | map => simp [plainN] at h
  | wild => simp [plainN] at h
  | func fn a b a' b' hy ha hb hra hrb =>
   cases fn with
   | func f =>
    simp [plainN] at h; obtain ⟨rfl, rfl⟩ := h; have e1 : a' = #[] := Array.eq_empty_of_size_eq_zero (by simpa using ha.symm); have e2 : b' = #[] := Array.eq_empty_of_size_eq_zero (by simpa using hb.symm); rw [e1, e2]
   | _ => simp [plainN] at h
  | yield => simp [plainN] at h
  | iface t v v' hv => simp only [plainN] at h; rw [ih h hv]
  | agg a a' hs hv =>
   simp only [plainN, List.all_eq_true] at h; rw [array_ext_of hs fun i v v' x y => ih (h v (Array.mem_toList_iff.2 (Array.mem_of_getElem? x))) (hv i v v' x y)]
  | tuple a a' hs hv =>
   simp only [plainN, List.all_eq_true] at h; rw [array_ext_of hs fun i v v' x y => ih (h v (Array.mem_toList_iff.2 (Array.mem_of_getElem? x))) (hv i v v' x y)]
theorem VRel.cells {μ : Mp} {v v' : Value} (h : VRel μ v v') : LRel μ v.cells.toList v'.cells.toList := by
 cases h with
 | agg a a' hs hv => exact ⟨by simpa [Value.cells] using hs, fun i v v' x y => hv i v v' (by simpa [Value.cells] using x) (by simpa [Value.cells] using y)⟩
 | atom v h => cases v <;> first | (simp [isAtom] at h; done) | exact LRel.cons (.atom _ h) (LRel.nil _)
 | ptr id off L h => exact LRel.cons (.ptr id off L h) (LRel.nil _)
 | sliceE id off len cap L h hc => exact LRel.cons (.sliceE id off len cap L h hc) (LRel.nil _)
 | sliceO id off len cap L h hc hn => exact LRel.cons (.sliceO id off len cap L h hc hn) (LRel.nil _)
 | sliceZ id off off' L h => exact LRel.cons (.sliceZ id off off' L h) (LRel.nil _)
 | sliceX a => exact LRel.cons (.sliceX a) (LRel.nil _)
 | map id L h => exact LRel.cons (.map id L h) (LRel.nil _)
 | wild _ h => cases v' <;> first | (simp [oneCell] at h; done) | exact LRel.cons (.wild _ h) (LRel.nil _)
 | func fn a b a' b' hy ha hb hra hrb => exact LRel.cons (.func fn a b a' b' hy ha hb hra hrb) (LRel.nil _)
 | yield l L h => exact LRel.cons (.yield l L h) (LRel.nil _)
 | iface t v v' hv => exact LRel.cons (.iface t v v' hv) (LRel.nil _)
 | tuple a a' hs hv => exact LRel.cons (.tuple a a' hs hv) (LRel.nil _)
theorem VRel.oneCell {μ : Mp} {v v' : Value} (h : VRel μ v v') : oneCell v' = oneCell v := by
 cases h <;> first | rfl | assumption
end Go.Cre

/- A part of the proof of TableMetric. -/
import Derived.Test.YtmmfodofkbmfnaaGreatDoorCaa
set_option linter.unusedVariables false
set_option linter.unusedSimpArgs false
namespace Go.Cre
noncomputable section
inductive b9 where
 |val (v:Value) (H:ah)
 |skip (H:ah)
 |fN (d:Deferred)
 |hj (chain:List PanicEntry) (H:ah)
 |uI
def e' (v:Option Value)(H:ah):Option b9:=Option.rec (motive:=fun _=>Option b9) none (fun v=>some (.val v H)) v
def jT:Option (Value×ah)->Option b9
 |some (v,H)=>some (.val v H)
 |none=>none
def Bj:Option ah->Option b9
 |some H=>some (.skip H)
 |none=>none
def mS (T:aL Value)(H:ah)(x:Operand):Value:=match aR T H x with|some v=>v|none=>undef
def ek (P:Program)(T:aL Value)(H:ah)(o:Oper):Option b9:=
 match ev T H o.op.operands.toList with
 |none=>none
 |some vs=>bif vs.all plain then
  match en P (execOp (mS T H) o) with
  |some (.value v)=>bif plain v then some (.val v H) else none
  |some .skip=>some (.skip H)
  |_=>none
  else none
def orElse (a b:Option b9):Option b9:=match a with|some x=>some x|none=>b
abbrev dI:=FuncId->List Value->ah->Option (Ending×ah)
abbrev ff:=Nat->List Value->ah->Option (Ending×ah)
def r0 (P:Program)(H:ah)(recv:Value)(name:String)(rest:List Value):Option (FuncId×List Value):=
 match recv with
 |.iface t v=>match P.info? t with
  |none=>none
  |some i=>match i.methods.find? (·.name==name) with
   |none=>none
   |some m=>bif !m.path.isEmpty then none else
    match m.func with
    |none=>none
    |some (f,uH)=>match P.underlying t,uH with
     |some (.pointer _),true=>some (f,v::rest)
     |some (.pointer _),false=>none
     |some _,false=>some (f,v::rest)
     |_,_=>none
 |_=>none
def ji (P:Program)(H:ah)(fn:Fn)(args captured:List Value):Option (FuncId×List Value):=
 match fn with
 |.func f=>some (f,args++captured)
 |.method name=>match args with|r::rest=>r0 P H r name rest|[]=>none
 |.methodOf t name=>match args with
  |r::rest=>match P.underlying t with
   |some (.interface _)=>r0 P H r name rest
   |some _=>r0 P H (.iface t r) name rest
   |none=>none
  |[]=>none
 |_=>none
def ng:Option (Ending×ah)->Option b9
 |some (.returned v,H)=>some (.val v H)
 |some (.panicked chain,H)=>some (.hj chain H)
 |_=>none
def z9:Option (Ending×ah)->Option b9
 |some (.returned v,H)=>some (.val v H)
 |_=>none
def ms (P:Program)(call:dI)(az:ff)(T:aL Value)(H:ah)(c:Call):Option b9:=
 match ev T H c.args.toList with
 |none=>none
 |some args=>match c.callee with
  |.value f=>match aR T H f with
   |some (.func (.yield l) first captured)=>bif first.isEmpty&&captured.isEmpty then z9 (az l args H) else none
   |some (.func fn first captured)=>match ji P H fn (first.toList++args) captured.toList with
    |some (f,ca)=>ng (call f ca H)
    |none=>none
   |_=>none
  |.invoke recv name=>match aR T H recv with
   |some r=>match r0 P H r name args with
    |some (f,ca)=>ng (call f ca H)
    |none=>none
   |none=>none
  |.builtin _=>none
def mv {α:Type}(n:Int)(k:Int->α):α:=
 match n with
 |.ofNat 0=>k (.ofNat 0)
 |.ofNat (m+1)=>k (.ofNat (m+1))
 |.negSucc 0=>k (.negSucc 0)
 |.negSucc (m+1)=>k (.negSucc (m+1))
def ln (H:ah)(k:IntKind)(n:Int):Option b9:=some (.val (.int k n) H)
def mr (P:Program)(S:aO)(H:ah)(o:Oper)(b:Builtin)(c:Call):Option b9:=
 match ev S.T H c.args.toList with
 |none=>none
 |some args=>match b,args,c.argTypes.toList with
  |.len,[.slice _ n _],[t]=>(match P.underlying t with
   |some (.slice _)=>some (.val (.int .i64 n) H)
   |_=>none)
  |.len,[.map (some r)],[t]=>(match P.underlying t with
   |some (.map _ _)=>(match H.mem.get r with
    |some (.map es _)=>some (.val (.int .i64 es.length) H)
    |_=>none)
   |_=>none)
  |.len,[.string s],[t]=>(match P.underlying t with
   |some .string=>(match uq s.data.toList with|some n=>mv (.ofNat n) (ln H .i64)|none=>none)
   |_=>none)
  |.append,[s,x],[ft,fK]=>(match P.underlying fK with
   |some (.int _)=>none
   |some _=>jT (lK P H ft s x)
   |none=>none)
  |.cap,[.slice (some _) _ c],[t]=>(match P.underlying t with
   |some (.slice _)=>bif Nat.beq c cf then none else some (.val (.int .i64 c) H)
   |_=>none)
  |.unsafeSliceData,[.slice (some a) len c],_=>bif Nat.beq c cf&&Nat.beq len 0 then none else bif Nat.beq c 0 then none else some (.val (.pointer (some a)) H)
  |.unsafeString,[p,n],[nI,_]=>jT (D7 P H nI p n)
  |.copy,[d,s],[mX,_]=>jT (D2 P H mX d s)
  |.clear,[x],[t]=>jT (DZ P H t x)
  |.panic,[.iface t v],_=>some (.hj [{v:=.iface t v,recovered:=false}] H)
  |.recover,[],_=>some .uI
  |_,_,_=>ek P S.T H o
def q4:Fn->Bool
 |.yield _=>false
 |_=>true
def ya (aaL:Program)(T:aL Value)(H:ah)(c:Call):Option b9:=
 match ev T H c.args.toList with
 |none=>none
 |some args=>match c.callee with
  |.value f=>match aR T H f with
   |some (.func fn first captured)=>bif q4 fn then some (.fN {target:=.fn fn captured,args:=(first.toList++args).toArray}) else none
   |_=>none
  |.invoke recv name=>match aR T H recv with
   |some r=>some (.fN {target:=.fn (.method name) #[],args:=(r::args).toArray})
   |none=>none
  |.builtin _=>none
def gA (T:aL Value)(H:ah):Option Operand->Option (Option Value)
 |none=>some none
 |some x=>match aR T H x with|some v=>some (some v)|none=>none
structure df where
 call:dI
 az:ff
 S:aO
 H:ah
 o:Oper
def df.aR (X:df)(x:Operand):Option Value:=Cre.aR X.S.T X.H x
def df.kx (P:Program)(X:df):Option b9:=ek P X.S.T X.H X.o
def Mn (P:Program)(X:df)(x:Operand):Option b9:=e' (X.aR x) X.H
def sJ (P:Program)(X:df)(a b:Operand):Option Value->Option b9
 |some (.bool true)=>e' (X.aR a) X.H
 |some (.bool false)=>e' (X.aR b) X.H
 |_=>none
def W9 (P:Program)(X:df)(c a b:Operand):Option b9:=sJ P X a b (X.aR c)
def Gy (P:Program)(X:df)(elem:TypeId):Option Value->Option b9
 |some z=>bif plain z then jT (qx X.H elem z) else none
 |none=>none
def WR (P:Program)(X:df)(elem:TypeId):Option b9:=Gy P X elem (fw P elem)
def zH (P:Program)(X:df)(elem:TypeId):Option Value->Option b9
 |some v=>jT (qx X.H elem v)
 |none=>none
def WT (P:Program)(X:df)(elem:TypeId)(x:Operand):Option b9:=zH P X elem (X.aR x)
def uA (P:Program)(X:df)(t:TypeId):Option (List (Nat×Value))->Option b9
 |some ps=>e' (x9 P t ps) X.H
 |none=>none
def WU (P:Program)(X:df)(t:TypeId)(parts:Array (Nat×Operand)):Option b9:=uA P X t (iw X.S.T X.H parts.toList)
def zI (P:Program)(X:df)(t:TypeId)(len:Nat):Option (List (Nat×Value))->Option b9
 |some ps=>jT (x' P X.H t len ps)
 |none=>none
def WV (P:Program)(X:df)(t:TypeId)(len:Nat)(parts:Array (Nat×Operand)):Option b9:=zI P X t len (iw X.S.T X.H parts.toList)
def uD (P:Program)(X:df)(t:TypeId):Option Value->Option b9
 |some p=>e' (tA P X.H t p) X.H
 |none=>none
def W2 (P:Program)(X:df)(t:TypeId)(a:Operand):Option b9:=uD P X t (X.aR a)
def wO (P:Program)(X:df)(t:TypeId):Option Value->Option Value->Option b9
 |some p,some v=>Bj (tB P X.H t p v)
 |_,_=>none
def Xa (P:Program)(X:df)(t:TypeId)(a x:Operand):Option b9:=wO P X t (X.aR a) (X.aR x)
def uG (P:Program)(X:df):Option Value->Option b9
 |some (.pointer (some a))=>some (.val (.pointer (some a)) X.H)
 |some (.func (.func f) a b)=>some (.val (.func (.func f) a b) X.H)
 |some (.iface t v)=>some (.val (.iface t v) X.H)
 |_=>none
def W6 (P:Program)(X:df)(x:Operand):Option b9:=uG P X (X.aR x)
def oD:IntKind->Nat
 |.i8=>0|.i16=>0|.i32=>2147483648|.i64=>9223372036854775808
 |.u8=>256|.u16=>65536|.u32=>4294967296|.u64=>18446744073709551616
def sY (k:IntKind)(n:Int):Int:=
 match n with
 |.ofNat m=>bif Nat.blt m (oD k) then .ofNat m else k.wrap (.ofNat m)
 |.negSucc m=>bif k.signed&&Nat.blt m (oD k) then .negSucc m else k.wrap (.negSucc m)
def lX:Int->Int->Bool
 |.ofNat a,.ofNat b=>Nat.blt a b
 |.negSucc _,.ofNat _=>true
 |.ofNat _,.negSucc _=>false
 |.negSucc a,.negSucc b=>Nat.blt b a
def lW:Int->Int->Bool
 |.ofNat a,.ofNat b=>Nat.beq a b
 |.negSucc a,.negSucc b=>Nat.beq a b
 |_,_=>false
def rf (H:ah):Bool->Option b9
 |true=>some (.val (.bool true) H)
 |false=>some (.val (.bool false) H)
def h1 (H:ah)(k:IntKind)(a b:Int)(sS:Option b9):BinOp->Option b9
 |.add=>mv (sY k (a+b)) (ln H k)
 |.sub=>mv (sY k (a -b)) (ln H k)
 |.mul=>mv (sY k (a*b)) (ln H k)
 |.eql=>rf H (lW a b)
 |.neq=>rf H (!lW a b)
 |.lss=>rf H (lX a b)
 |.leq=>rf H (!lX b a)
 |.gtr=>rf H (lX b a)
 |.geq=>rf H (!lX a b)
 |_=>sS
def pR (P:Program)(X:df)(t:TypeId)(a b:Value):BinOp->Option b9
 |.eql=>(match qy P t a b with|some r=>some (.val (.bool r) X.H)|none=>none)
 |.neq=>(match qy P t a b with|some r=>some (.val (.bool (!r)) X.H)|none=>none)
 |_=>none
def oL (P:Program)(X:df)(op:BinOp)(t:TypeId)(a b:Value):Option b9:=orElse (df.kx P X) (pR P X t a b op)
def kr:IntKind->IntKind->Bool
 |.i8,.i8=>true|.i16,.i16=>true|.i32,.i32=>true|.i64,.i64=>true|.u8,.u8=>true|.u16,.u16=>true|.u32,.u32=>true|.u64,.u64=>true
 |_,_=>false
def Gz (P:Program)(X:df)(op:BinOp)(t:TypeId)(k:IntKind)(a:Int)(l:IntKind)(b:Int):Option b9:=
 bif kr k l then h1 X.H k a b (df.kx P X) op else oL P X op t (.int k a) (.int l b)
def ja (P:Program)(X:df)(op:BinOp)(t:TypeId):Option Value->Option Value->Option b9
 |some (.int k a),some (.int l b)=>Gz P X op t k a l b
 |some a,some b=>oL P X op t a b
 |_,_=>none
def WS (P:Program)(X:df)(op:BinOp)(t:TypeId)(x y:Operand)(_:TypeId):Option b9:=ja P X op t (X.aR x) (X.aR y)
def q7 (P:Program)(X:df)(src dst:TypeId):Option Value->Option b9
 |none=>none
 |some (.string s)=>orElse (jT (qA P X.H src dst s)) (df.kx P X)
 |some (.pointer (some a))=>e' (D1 P X.H src dst (.pointer (some a))) X.H
 |some (.slice b l c)=>e' (D4 P X.H src dst (.slice b l c)) X.H
 |some (.int _ n)=>(match P.underlying src,P.underlying dst with
  |some _,some (.int k)=>mv (sY k n) (ln X.H k)
  |_,_=>(df.kx P X))
 |some _=>(df.kx P X)
def WW (P:Program)(X:df)(src dst:TypeId)(x:Operand):Option b9:=q7 P X src dst (X.aR x)
def uF (P:Program)(X:df)(t:TypeId):Option Value->Option TypeDesc->Option b9
 |some _,some (.interface _)=>none
 |some v,some _=>some (.val (.iface t v) X.H)
 |_,_=>none
def W4 (P:Program)(X:df)(t:TypeId)(x:Operand):Option b9:=uF P X t (X.aR x) (P.underlying t)
def uE (P:Program)(X:df)(fn:Fn):Option (List Value)->Option (List Value)->Option b9
 |some a,some b=>(match fn with
  |.yield _=>none
  |fn=>some (.val (.func fn a.toArray b.toArray) X.H))
 |_,_=>none
def W3 (P:Program)(X:df)(fn:Fn)(first captured:Array Operand):Option b9:=uE P X fn (ev X.S.T X.H first.toList) (ev X.S.T X.H captured.toList)
def zJ (P:Program)(X:df)(t:TypeId):Option Value->Option Value->Option b9
 |some l,some c=>jT (yc P X.H t l c)
 |_,_=>none
def W5 (P:Program)(X:df)(t:TypeId)(l c:Operand):Option b9:=zJ P X t (X.aR l) (X.aR c)
def kv (P:Program)(X:df)(t:TypeId):Option Value->Option (Option Value)->Option (Option Value)->Option b9
 |some v,some fR,some aq=>orElse (e' (iI P X.H t v fR aq) X.H) (df.kx P X)
 |_,_,_=>none
def W' (P:Program)(X:df)(t:TypeId)(x:Operand)(fR aq:Option Operand):Option Operand->Option b9
 |none=>kv P X t (X.aR x) (gA X.S.T X.H fR) (gA X.S.T X.H aq)
 |some _=>none
def uC (P:Program)(X:df)(s:TypeId)(f:Nat):Option Value->Option b9
 |some p=>e' (yb P s p f) X.H
 |none=>none
def WZ (P:Program)(X:df)(s:TypeId)(x:Operand)(f:Nat):Option b9:=uC P X s f (X.aR x)
def sH (P:Program)(X:df)(f:Nat):Option Value->Option TypeDesc->Option b9
 |some (.agg cs),some (.struct fields)=>(match fields[f]? with
  |some f=>e' (jj P f.type cs.toList f.offset) X.H
  |none=>none)
 |_,_=>none
def WY (P:Program)(X:df)(t:TypeId)(x:Operand)(f:Nat):Option b9:=sH P X f (X.aR x) (P.underlying t)
def q8 (P:Program)(X:df)(t:TypeId):Option Value->Option Value->Option b9
 |some x,some bw=>e' (qz P t x bw) X.H
 |_,_=>none
def W1 (P:Program)(X:df)(t:TypeId)(x bw:Operand):Option b9:=q8 P X t (X.aR x) (X.aR bw)
def sI (P:Program)(X:df):Option Value->Option Value->Option TypeDesc->Option b9
 |some (.agg cs),some (.int _ i),some (.array len elem)=>(match oA i len,dD P elem with
  |some n,some sz=>e' (jj P elem cs.toList (n*sz)) X.H
  |_,_=>none)
 |some (.string s),some (.int _ i),some .string=>(match i with
  |.ofNat n=>(match nth s.data.toList n with
   |some b=>mv (.ofNat b.toNat) (ln X.H .u8)
   |none=>none)
  |.negSucc _=>none)
 |_,_,_=>none
def W0 (P:Program)(X:df)(t:TypeId)(x bw:Operand):Option b9:=sI P X (X.aR x) (X.aR bw) (P.underlying t)
def wP (P:Program)(X:df)(asserted:TypeId)(ok:Bool):Option Value->Option b9
 |some v=>e' (D6 P v asserted ok) X.H
 |none=>none
def Xb (P:Program)(X:df)(x:Operand)(_ asserted:TypeId)(ok:Bool):Option b9:=wP P X asserted ok (X.aR x)
def uB (P:Program)(X:df)(bw:Nat):Option Value->Option b9
 |some (.tuple vs)=>e' (nth vs.toList bw) X.H
 |_=>none
def WX (P:Program)(X:df)(t:Operand)(bw:Nat):Option b9:=uB P X bw (X.aR t)
def js (P:Program)(X:df)(c:Call):Option b9:=
 match c.callee with
 |.builtin b=>mr P X.S X.H X.o b c
 |_=>ms P X.call X.az X.S.T X.H c
def pS (P:Program)(X:df)(c:Call):Option b9:=
 match X.S.b3 with
 |none=>ya P X.S.T X.H c
 |some _=>none
def Co (P:Program)(X:df):Option Value->Option b9
 |some (.iface t v)=>some (.hj [{v:=.iface t v,recovered:=false}] X.H)
 |_=>none
def W8 (P:Program)(X:df)(x:Operand):Option b9:=Co P X (X.aR x)
def Ch.{u} {a:Sort u} (_:a):Option b9:=none
def uv.{u,v} {a:Sort u} {b:Sort v} (_:a) (_:b):Option b9:=none
def L9.{u,v,w} {a:Sort u} {b:Sort v} {c:Sort w} (_:a) (_:b) (_:c):Option b9:=none
def Ci.{u,v,w,x} {a:Sort u} {b:Sort v} {c:Sort w} {d:Sort x} (_:a) (_:b) (_:c) (_:d):Option b9:=none
def Xc (P:Program)(X:df)(_:UnOp)(_:TypeId)(_:Operand):Option b9:=(df.kx P X)
def eh (P:Program)(X:df):Option b9:=
 Op.rec (motive:=fun _=>Option b9)
  (Mn P X) (Mn P X) (W9 P X) (WR P X) (WT P X) (WU P X) (WV P X) Ci (W2 P X) (Xa P X)
  Ch Ch (W6 P X) (WS P X) (Xc P X) (WW P X) uv (W4 P X) (W3 P X) uv uv (W5 P X)
  (W' P X) (WZ P X) (WY P X) (W1 P X) (W0 P X) Ci Ci L9 Ci uv uv Ch (Xb P X) (WX P X)
  (js P X) Ch (pS P X) (W8 P X) uv L9 uv X.o.op
def cc (P:Program)(call:dI)(az:ff)(S:aO)(H:ah)(o:Oper):Option b9:=eh P ⟨call,az,S,H,o⟩
def aO.oN (n:Nat)(ds:List Deferred)(bu:Bool)(a7:FrameMode)(b3:Option Nat)(T:Option (aL Value)):Option aO:=
 Option.rec (motive:=fun _=>Option aO) none (fun T=>some ⟨T,n,ds,bu,a7,b3⟩) T
def aO.XE (v:Value)(S:aO)(d:Tmp):Option aO:=
 aO.rec (motive:=fun _=>Option aO) (fun T n ds bu a7 b3=>Bool.rec (motive:=fun _=>Option aO) none (aO.oN n ds bu a7 b3 (aL.put v T d)) (Nat.ble (Nat.succ d) n)) S
def aO.put (S:aO)(dst:Option Tmp)(v:Value):Option aO:=Option.rec (motive:=fun _=>Option aO) (some S) (aO.XE v S) dst
def aO.xf (d:Deferred):aO->aO
 |⟨T,n,ds,bu,a7,b3⟩=>⟨T,n,d::ds,bu,a7,b3⟩
def aO.rq (a7:FrameMode):aO->aO
 |⟨T,n,ds,bu,_,b3⟩=>⟨T,n,ds,bu,a7,b3⟩
def po (ops:List Oper)(T:aL Value):Nat×Bool->Option Bool
 |(aa,want)=>match nth ops aa with
  |some p=>match p.dst with
   |some d=>match T.get d with
    |some (.bool b)=>some (b==want)
    |some (.chan _)=>none
    |some _=>some false
    |none=>none
   |none=>some false
  |none=>some false
def eI (ops:List Oper)(T:aL Value)(o:Oper):Option Bool:=Option.rec (motive:=fun _=>Option Bool) (some true) (po ops T) o.guard
inductive cS where
 |ok (S:aO) (H:ah)
 |hj (chain:List PanicEntry) (S:aO) (H:ah)
def mV (H:ah)(S:Option aO):Option cS:=Option.rec (motive:=fun _=>Option cS) none (fun S=>some (.ok S H)) S
def jc (S:aO)(dst:Option Tmp)(v:Value)(H:ah):Option cS:=mV H (S.put dst v)
def mU (S:aO):Option (Value×FrameMode):=
 match S.b3 with
 |some _=>none
 |none=>bif S.bu then(match S.a7 with
  |.panicking ({v,recovered:=false,goexit:=false}::Cn)=>some (v,.panicking ({v,recovered:=true}::Cn))
  |m=>some (.nilIface,m))
  else some (.nilIface,S.a7)
def zF (S:aO)(H:ah)(dst:Option Tmp):Option (Value×FrameMode)->Option cS
 |some (v,a7)=>jc (S.rq a7) dst v H
 |none=>none
def uz (S:aO)(H:ah)(dst:Option Tmp)(d:Deferred):Option cS:=
 match S.b3 with
 |none=>jc (S.xf d) dst undef H
 |some _=>none
def Ml (S:aO)(H:ah)(dst:Option Tmp)(r:b9):Option cS:=
 b9.rec (motive:=fun _=>Option cS) (jc S dst) (jc S dst undef) (uz S H dst) (fun chain H=>some (.hj chain S H)) (zF S H dst (mU S)) r
def mR (S:aO)(H:ah)(dst:Option Tmp)(r:Option b9):Option cS:=Option.rec (motive:=fun _=>Option cS) none (Ml S H dst) r
def WM (P:Program)(call:dI)(az:ff)(S:aO)(H:ah)(o:Oper)(b:Bool):Option cS:=
 Bool.rec (motive:=fun _=>Option cS) (jc S o.dst undef H) (mR S H o.dst (cc P call az S H o)) b
def one (P:Program)(call:dI)(az:ff)(ops:List Oper)(S:aO)(H:ah)(o:Oper):Option cS:=
 Option.rec (motive:=fun _=>Option cS) none (WM P call az S H o) (eI ops S.T o)
def Ya (k:aO->ah->Option cS)(r:cS):Option cS:=cS.rec (motive:=fun _=>Option cS) k (fun chain S H=>some (.hj chain S H)) r
def Ju (k:aO->ah->Option cS)(r:Option cS):Option cS:=Option.rec (motive:=fun _=>Option cS) none (Ya k) r
def vz (P:Program)(call:dI)(az:ff)(ops:List Oper)(l:List Oper):aO->ah->Option cS:=
 List.rec (motive:=fun _=>aO->ah->Option cS) (fun S H=>some (.ok S H)) (fun o _ rest S H=>Ju rest (one P call az ops S H o)) l
end
end Go.Cre

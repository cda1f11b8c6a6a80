/- A part of the proof of SampleParts. -/
import Derived.Test.YtdbhjgpppmkagaaGreatCaa
set_option linter.unusedVariables false
set_option linter.unusedSimpArgs false
namespace Go.Cre
noncomputable section
inductive cF where
 |val (v:Value) (H:ao)
 |skip (H:ao)
 |gh (d:Deferred)
 |jh (chain:List PanicEntry) (H:ao)
 |Cl
def g2 (v:Option Value)(H:ao):Option cF:=Option.rec (motive:=fun _=>Option cF) none (fun v=>some (.val v H)) v
def l8:Option (Value×ao)->Option cF
 |some (v,H)=>some (.val v H)
 |none=>none
def HE:Option ao->Option cF
 |some H=>some (.skip H)
 |none=>none
def rH (T:aX Value)(H:ao)(x:Operand):Value:=match a6 T H x with|some v=>v|none=>undef
def gH (P:Program)(T:aX Value)(H:ao)(o:Oper):Option cF:=
 match fQ T H o.op.operands.toList with
 |none=>none
 |some vs=>bif vs.all plain then
  match fI P (execOp (rH T H) o) with
  |some (.value v)=>bif plain v then some (.val v H) else none
  |some .skip=>some (.skip H)
  |_=>none
  else none
def orElse (a b:Option cF):Option cF:=match a with|some x=>some x|none=>b
abbrev eS:=FuncId->List Value->ao->Option (Ending×ao)
abbrev gU:=Nat->List Value->ao->Option (Ending×ao)
def tC (P:Program)(H:ao)(recv:Value)(name:String)(rest:List Value):Option (FuncId×List Value):=
 match recv with
 |.iface t v=>match P.info? t with
  |none=>none
  |some i=>match i.methods.find? (·.name==name) with
   |none=>none
   |some m=>bif !m.path.isEmpty then none else
    match m.func with
    |none=>none
    |some (f,sR)=>match P.underlying t,sR with
     |some (.pointer _),true=>some (f,v::rest)
     |some (.pointer _),false=>none
     |some _,false=>some (f,v::rest)
     |_,_=>none
 |_=>none
def mj (P:Program)(H:ao)(fn:Fn)(args captured:List Value):Option (FuncId×List Value):=
 match fn with
 |.func f=>some (f,args++captured)
 |.method name=>match args with|r::rest=>tC P H r name rest|[]=>none
 |.methodOf t name=>match args with
  |r::rest=>match P.underlying t with
   |some (.interface _)=>tC P H r name rest
   |some _=>tC P H (.iface t r) name rest
   |none=>none
  |[]=>none
 |_=>none
def q3:Option (Ending×ao)->Option cF
 |some (.returned v,H)=>some (.val v H)
 |some (.panicked chain,H)=>some (.jh chain H)
 |_=>none
def CE:Option (Ending×ao)->Option cF
 |some (.returned v,H)=>some (.val v H)
 |_=>none
def nh (P:Program)(call:eS)(aL:gU)(T:aX Value)(H:ao)(c:Call):Option cF:=
 match fQ T H c.args.toList with
 |none=>none
 |some args=>match c.callee with
  |.value f=>match a6 T H f with
   |some (.func (.yield l) first captured)=>bif first.isEmpty&&captured.isEmpty then CE (aL l args H) else none
   |some (.func fn first captured)=>match mj P H fn (first.toList++args) captured.toList with
    |some (f,bJ)=>q3 (call f bJ H)
    |none=>none
   |_=>none
  |.invoke recv name=>match a6 T H recv with
   |some r=>match tC P H r name args with
    |some (f,bJ)=>q3 (call f bJ H)
    |none=>none
   |none=>none
  |.builtin _=>none
def pY {α:Type}(n:Int)(k:Int->α):α:=
 match n with
 |.ofNat 0=>k (.ofNat 0)
 |.ofNat (m+1)=>k (.ofNat (m+1))
 |.negSucc 0=>k (.negSucc 0)
 |.negSucc (m+1)=>k (.negSucc (m+1))
def oQ (H:ao)(k:IntKind)(n:Int):Option cF:=some (.val (.int k n) H)
def q4 (P:Program)(S:aQ)(H:ao)(o:Oper)(b:Builtin)(c:Call):Option cF:=
 match fQ S.T H c.args.toList with
 |none=>none
 |some args=>match b,args,c.argTypes.toList with
  |.len,[.slice _ n _],[t]=>(match P.underlying t with
   |some (.slice _)=>some (.val (.int .i64 n) H)
   |_=>none)
  |.len,[.map (some r)],[t]=>(match P.underlying t with
   |some (.map _ _)=>(match H.mem.get r with
    |some (.map es _)=>some (.val (.int .i64 es.length) H)
    |_=>none)
   |_=>none)
  |.len,[.string s],[t]=>(match P.underlying t with
   |some .string=>(match zE s.data.toList with|some n=>pY (.ofNat n) (oQ H .i64)|none=>none)
   |_=>none)
  |.append,[s,x],[fN,hq]=>(match P.underlying hq with
   |some (.int _)=>none
   |some _=>l8 (pa P H fN s x)
   |none=>none)
  |.cap,[.slice (some _) _ c],[t]=>(match P.underlying t with
   |some (.slice _)=>bif Nat.beq c cR then none else some (.val (.int .i64 c) H)
   |_=>none)
  |.unsafeSliceData,[.slice (some a) len c],_=>bif Nat.beq c cR&&Nat.beq len 0 then none else bif Nat.beq c 0 then none else some (.val (.pointer (some a)) H)
  |.unsafeString,[p,n],[rL,_]=>l8 (Ld P H rL p n)
  |.copy,[d,s],[qC,_]=>l8 (K9 P H qC d s)
  |.clear,[x],[t]=>l8 (yT P H t x)
  |.panic,[.iface t v],_=>some (.jh [{v:=.iface t v,recovered:=false}] H)
  |.recover,[],_=>some .Cl
  |_,_,_=>gH P S.T H o
def vT:Fn->Bool
 |.yield _=>false
 |_=>true
def Hj (alQ:Program)(T:aX Value)(H:ao)(c:Call):Option cF:=
 match fQ T H c.args.toList with
 |none=>none
 |some args=>match c.callee with
  |.value f=>match a6 T H f with
   |some (.func fn first captured)=>bif vT fn then some (.gh {target:=.fn fn captured,args:=(first.toList++args).toArray}) else none
   |_=>none
  |.invoke recv name=>match a6 T H recv with
   |some r=>some (.gh {target:=.fn (.method name) #[],args:=(r::args).toArray})
   |none=>none
  |.builtin _=>none
def h7 (T:aX Value)(H:ao):Option Operand->Option (Option Value)
 |none=>some none
 |some x=>match a6 T H x with|some v=>some (some v)|none=>none
structure ej where
 call:eS
 aL:gU
 S:aQ
 H:ao
 o:Oper
def ej.a6 (X:ej)(x:Operand):Option Value:=Cre.a6 X.S.T X.H x
def ej.oP (P:Program)(X:ej):Option cF:=gH P X.S.T X.H X.o
def US (P:Program)(X:ej)(x:Operand):Option cF:=g2 (X.a6 x) X.H
def xS (P:Program)(X:ej)(a b:Operand):Option Value->Option cF
 |some (.bool true)=>g2 (X.a6 a) X.H
 |some (.bool false)=>g2 (X.a6 b) X.H
 |_=>none
def agT (P:Program)(X:ej)(c a b:Operand):Option cF:=xS P X a b (X.a6 c)
def NQ (P:Program)(X:ej)(elem:TypeId):Option Value->Option cF
 |some z=>bif plain z then l8 (vg X.H elem z) else none
 |none=>none
def agB (P:Program)(X:ej)(elem:TypeId):Option cF:=NQ P X elem (fO P elem)
def FC (P:Program)(X:ej)(elem:TypeId):Option Value->Option cF
 |some v=>l8 (vg X.H elem v)
 |none=>none
def agD (P:Program)(X:ej)(elem:TypeId)(x:Operand):Option cF:=FC P X elem (X.a6 x)
def zQ (P:Program)(X:ej)(t:TypeId):Option (List (Nat×Value))->Option cF
 |some dx=>g2 (DL P t dx) X.H
 |none=>none
def agE (P:Program)(X:ej)(t:TypeId)(parts:Array (Nat×Operand)):Option cF:=zQ P X t (kX X.S.T X.H parts.toList)
def FD (P:Program)(X:ej)(t:TypeId)(len:Nat):Option (List (Nat×Value))->Option cF
 |some dx=>l8 (DM P X.H t len dx)
 |none=>none
def agF (P:Program)(X:ej)(t:TypeId)(len:Nat)(parts:Array (Nat×Operand)):Option cF:=FD P X t len (kX X.S.T X.H parts.toList)
def zT (P:Program)(X:ej)(t:TypeId):Option Value->Option cF
 |some p=>g2 (yW P X.H t p) X.H
 |none=>none
def agM (P:Program)(X:ej)(t:TypeId)(a:Operand):Option cF:=zT P X t (X.a6 a)
def B9 (P:Program)(X:ej)(t:TypeId):Option Value->Option Value->Option cF
 |some p,some v=>HE (yX P X.H t p v)
 |_,_=>none
def agV (P:Program)(X:ej)(t:TypeId)(a x:Operand):Option cF:=B9 P X t (X.a6 a) (X.a6 x)
def zW (P:Program)(X:ej):Option Value->Option cF
 |some (.pointer (some a))=>some (.val (.pointer (some a)) X.H)
 |some (.func (.func f) a b)=>some (.val (.func (.func f) a b) X.H)
 |some (.iface t v)=>some (.val (.iface t v) X.H)
 |_=>none
def agQ (P:Program)(X:ej)(x:Operand):Option cF:=zW P X (X.a6 x)
def sI:IntKind->Nat
 |.i8=>0|.i16=>0|.i32=>2147483648|.i64=>9223372036854775808
 |.u8=>256|.u16=>65536|.u32=>4294967296|.u64=>18446744073709551616
def yf (k:IntKind)(n:Int):Int:=
 match n with
 |.ofNat m=>bif Nat.blt m (sI k) then .ofNat m else k.wrap (.ofNat m)
 |.negSucc m=>bif k.signed&&Nat.blt m (sI k) then .negSucc m else k.wrap (.negSucc m)
def ps:Int->Int->Bool
 |.ofNat a,.ofNat b=>Nat.blt a b
 |.negSucc _,.ofNat _=>true
 |.ofNat _,.negSucc _=>false
 |.negSucc a,.negSucc b=>Nat.blt b a
def pr:Int->Int->Bool
 |.ofNat a,.ofNat b=>Nat.beq a b
 |.negSucc a,.negSucc b=>Nat.beq a b
 |_,_=>false
def v9 (H:ao):Bool->Option cF
 |true=>some (.val (.bool true) H)
 |false=>some (.val (.bool false) H)
def mu (H:ao)(k:IntKind)(a b:Int)(x5:Option cF):BinOp->Option cF
 |.add=>pY (yf k (a+b)) (oQ H k)
 |.sub=>pY (yf k (a -b)) (oQ H k)
 |.mul=>pY (yf k (a*b)) (oQ H k)
 |.eql=>v9 H (pr a b)
 |.neq=>v9 H (!pr a b)
 |.lss=>v9 H (ps a b)
 |.leq=>v9 H (!ps b a)
 |.gtr=>v9 H (ps b a)
 |.geq=>v9 H (!ps a b)
 |_=>x5
def vZ (P:Program)(X:ej)(t:TypeId)(a b:Value):BinOp->Option cF
 |.eql=>(match w5 P t a b with|some r=>some (.val (.bool r) X.H)|none=>none)
 |.neq=>(match w5 P t a b with|some r=>some (.val (.bool (!r)) X.H)|none=>none)
 |_=>none
def sP (P:Program)(X:ej)(op:BinOp)(t:TypeId)(a b:Value):Option cF:=orElse (ej.oP P X) (vZ P X t a b op)
def sG:IntKind->IntKind->Bool
 |.i8,.i8=>true|.i16,.i16=>true|.i32,.i32=>true|.i64,.i64=>true|.u8,.u8=>true|.u16,.u16=>true|.u32,.u32=>true|.u64,.u64=>true
 |_,_=>false
def NR (P:Program)(X:ej)(op:BinOp)(t:TypeId)(k:IntKind)(a:Int)(l:IntKind)(b:Int):Option cF:=
 bif sG k l then mu X.H k a b (ej.oP P X) op else sP P X op t (.int k a) (.int l b)
def nr (P:Program)(X:ej)(op:BinOp)(t:TypeId):Option Value->Option Value->Option cF
 |some (.int k a),some (.int l b)=>NR P X op t k a l b
 |some a,some b=>sP P X op t a b
 |_,_=>none
def agC (P:Program)(X:ej)(op:BinOp)(t:TypeId)(x y:Operand)(_:TypeId):Option cF:=nr P X op t (X.a6 x) (X.a6 y)
def v0 (P:Program)(X:ej)(src dst:TypeId):Option Value->Option cF
 |none=>none
 |some (.string s)=>orElse (l8 (vh P X.H src dst s)) (ej.oP P X)
 |some (.pointer (some a))=>g2 (K8 P X.H src dst (.pointer (some a))) X.H
 |some (.slice b l c)=>g2 (La P X.H src dst (.slice b l c)) X.H
 |some (.int _ n)=>(match P.underlying src,P.underlying dst with
  |some _,some (.int k)=>pY (yf k n) (oQ X.H k)
  |_,_=>(ej.oP P X))
 |some _=>(ej.oP P X)
def agG (P:Program)(X:ej)(src dst:TypeId)(x:Operand):Option cF:=v0 P X src dst (X.a6 x)
def zV (P:Program)(X:ej)(t:TypeId):Option Value->Option TypeDesc->Option cF
 |some _,some (.interface _)=>none
 |some v,some _=>some (.val (.iface t v) X.H)
 |_,_=>none
def agO (P:Program)(X:ej)(t:TypeId)(x:Operand):Option cF:=zV P X t (X.a6 x) (P.underlying t)
def zU (P:Program)(X:ej)(fn:Fn):Option (List Value)->Option (List Value)->Option cF
 |some a,some b=>(match fn with
  |.yield _=>none
  |fn=>some (.val (.func fn a.toArray b.toArray) X.H))
 |_,_=>none
def agN (P:Program)(X:ej)(fn:Fn)(first captured:Array Operand):Option cF:=zU P X fn (fQ X.S.T X.H first.toList) (fQ X.S.T X.H captured.toList)
def FE (P:Program)(X:ej)(t:TypeId):Option Value->Option Value->Option cF
 |some l,some c=>l8 (DP P X.H t l c)
 |_,_=>none
def agP (P:Program)(X:ej)(t:TypeId)(l c:Operand):Option cF:=FE P X t (X.a6 l) (X.a6 c)
def n5 (P:Program)(X:ej)(t:TypeId):Option Value->Option (Option Value)->Option (Option Value)->Option cF
 |some v,some cL,some ak=>orElse (g2 (mP P X.H t v cL ak) X.H) (ej.oP P X)
 |_,_,_=>none
def agU (P:Program)(X:ej)(t:TypeId)(x:Operand)(cL ak:Option Operand):Option Operand->Option cF
 |none=>n5 P X t (X.a6 x) (h7 X.S.T X.H cL) (h7 X.S.T X.H ak)
 |some _=>none
def zS (P:Program)(X:ej)(s:TypeId)(f:Nat):Option Value->Option cF
 |some p=>g2 (DO P s p f) X.H
 |none=>none
def agJ (P:Program)(X:ej)(s:TypeId)(x:Operand)(f:Nat):Option cF:=zS P X s f (X.a6 x)
def xP (P:Program)(X:ej)(f:Nat):Option Value->Option TypeDesc->Option cF
 |some (.agg cs),some (.struct fields)=>(match fields[f]? with
  |some f=>g2 (lS P f.type cs.toList f.offset) X.H
  |none=>none)
 |_,_=>none
def agI (P:Program)(X:ej)(t:TypeId)(x:Operand)(f:Nat):Option cF:=xP P X f (X.a6 x) (P.underlying t)
def xR (P:Program)(X:ej)(t:TypeId):Option Value->Option Value->Option cF
 |some x,some bf=>g2 (yV P t x bf) X.H
 |_,_=>none
def agL (P:Program)(X:ej)(t:TypeId)(x bf:Operand):Option cF:=xR P X t (X.a6 x) (X.a6 bf)
def xQ (P:Program)(X:ej):Option Value->Option Value->Option TypeDesc->Option cF
 |some (.agg cs),some (.int _ i),some (.array len elem)=>(match sF i len,eB P elem with
  |some n,some aj=>g2 (lS P elem cs.toList (n*aj)) X.H
  |_,_=>none)
 |some (.string s),some (.int _ i),some .string=>(match i with
  |.ofNat n=>(match nth s.data.toList n with
   |some b=>pY (.ofNat b.toNat) (oQ X.H .u8)
   |none=>none)
  |.negSucc _=>none)
 |_,_,_=>none
def agK (P:Program)(X:ej)(t:TypeId)(x bf:Operand):Option cF:=xQ P X (X.a6 x) (X.a6 bf) (P.underlying t)
def B' (P:Program)(X:ej)(asserted:TypeId)(ok:Bool):Option Value->Option cF
 |some v=>g2 (Lc P v asserted ok) X.H
 |none=>none
def agW (P:Program)(X:ej)(x:Operand)(_ asserted:TypeId)(ok:Bool):Option cF:=B' P X asserted ok (X.a6 x)
def zR (P:Program)(X:ej)(bf:Nat):Option Value->Option cF
 |some (.tuple vs)=>g2 (nth vs.toList bf) X.H
 |_=>none
def agH (P:Program)(X:ej)(t:Operand)(bf:Nat):Option cF:=zR P X bf (X.a6 t)
def lg (P:Program)(X:ej)(c:Call):Option cF:=
 match c.callee with
 |.builtin b=>q4 P X.S X.H X.o b c
 |_=>nh P X.call X.aL X.S.T X.H c
def xO (P:Program)(X:ej)(c:Call):Option cF:=
 match X.S.cB with
 |none=>Hj P X.S.T X.H c
 |some _=>none
def IZ (P:Program)(X:ej):Option Value->Option cF
 |some (.iface t v)=>some (.jh [{v:=.iface t v,recovered:=false}] X.H)
 |_=>none
def agS (P:Program)(X:ej)(x:Operand):Option cF:=IZ P X (X.a6 x)
def IT.{u} {a:Sort u} (_:a):Option cF:=none
def zO.{u,v} {a:Sort u} {b:Sort v} (_:a) (_:b):Option cF:=none
def UH.{u,v,w} {a:Sort u} {b:Sort v} {c:Sort w} (_:a) (_:b) (_:c):Option cF:=none
def IU.{u,v,w,x} {a:Sort u} {b:Sort v} {c:Sort w} {d:Sort x} (_:a) (_:b) (_:c) (_:d):Option cF:=none
def agX (P:Program)(X:ej)(_:UnOp)(_:TypeId)(_:Operand):Option cF:=(ej.oP P X)
def fU (P:Program)(X:ej):Option cF:=
 Op.rec (motive:=fun _=>Option cF)
  (US P X) (US P X) (agT P X) (agB P X) (agD P X) (agE P X) (agF P X) IU (agM P X) (agV P X)
  IT IT (agQ P X) (agC P X) (agX P X) (agG P X) zO (agO P X) (agN P X) zO zO (agP P X)
  (agU P X) (agJ P X) (agI P X) (agL P X) (agK P X) IU IU UH IU zO zO IT (agW P X) (agH P X)
  (lg P X) IT (xO P X) (agS P X) zO UH zO X.o.op
def cY (P:Program)(call:eS)(aL:gU)(S:aQ)(H:ao)(o:Oper):Option cF:=fU P ⟨call,aL,S,H,o⟩
def aQ.rM (n:Nat)(ds:List Deferred)(b0:Bool)(b8:FrameMode)(cB:Option Nat)(T:Option (aX Value)):Option aQ:=
 Option.rec (motive:=fun _=>Option aQ) none (fun T=>some ⟨T,n,ds,b0,b8,cB⟩) T
def aQ.ah2 (v:Value)(S:aQ)(d:Tmp):Option aQ:=
 aQ.rec (motive:=fun _=>Option aQ) (fun T n ds b0 b8 cB=>Bool.rec (motive:=fun _=>Option aQ) none (aQ.rM n ds b0 b8 cB (aX.put v T d)) (Nat.ble (Nat.succ d) n)) S
def aQ.put (S:aQ)(dst:Option Tmp)(v:Value):Option aQ:=Option.rec (motive:=fun _=>Option aQ) (some S) (aQ.ah2 v S) dst
def aQ.Gb (d:Deferred):aQ->aQ
 |⟨T,n,ds,b0,b8,cB⟩=>⟨T,n,d::ds,b0,b8,cB⟩
def aQ.Cz (b8:FrameMode):aQ->aQ
 |⟨T,n,ds,b0,_,cB⟩=>⟨T,n,ds,b0,b8,cB⟩
def tJ (ops:List Oper)(T:aX Value):Nat×Bool->Option Bool
 |(j,want)=>match nth ops j with
  |some p=>match p.dst with
   |some d=>match T.get d with
    |some (.bool b)=>some (b==want)
    |some (.chan _)=>none
    |some _=>some false
    |none=>none
   |none=>some false
  |none=>some false
def fW (ops:List Oper)(T:aX Value)(o:Oper):Option Bool:=Option.rec (motive:=fun _=>Option Bool) (some true) (tJ ops T) o.guard
inductive dz where
 |ok (S:aQ) (H:ao)
 |jh (chain:List PanicEntry) (S:aQ) (H:ao)
def n8 (H:ao)(S:Option aQ):Option dz:=Option.rec (motive:=fun _=>Option dz) none (fun S=>some (.ok S H)) S
def l5 (S:aQ)(dst:Option Tmp)(v:Value)(H:ao):Option dz:=n8 H (S.put dst v)
def us (S:aQ):Option (Value×FrameMode):=
 match S.cB with
 |some _=>none
 |none=>bif S.b0 then(match S.b8 with
  |.panicking ({v,recovered:=false,goexit:=false}::UP)=>some (v,.panicking ({v,recovered:=true}::UP))
  |m=>some (.nilIface,m))
  else some (.nilIface,S.b8)
def IY (S:aQ)(H:ao)(dst:Option Tmp):Option (Value×FrameMode)->Option dz
 |some (v,b8)=>l5 (S.Cz b8) dst v H
 |none=>none
def FB (S:aQ)(H:ao)(dst:Option Tmp)(d:Deferred):Option dz:=
 match S.cB with
 |none=>l5 (S.Gb d) dst undef H
 |some _=>none
def UR (S:aQ)(H:ao)(dst:Option Tmp)(r:cF):Option dz:=
 cF.rec (motive:=fun _=>Option dz) (l5 S dst) (l5 S dst undef) (FB S H dst) (fun chain H=>some (.jh chain S H)) (IY S H dst (us S)) r
def qs (S:aQ)(H:ao)(dst:Option Tmp)(r:Option cF):Option dz:=Option.rec (motive:=fun _=>Option dz) none (UR S H dst) r
def agy (P:Program)(call:eS)(aL:gU)(S:aQ)(H:ao)(o:Oper)(b:Bool):Option dz:=
 Bool.rec (motive:=fun _=>Option dz) (l5 S o.dst undef H) (qs S H o.dst (cY P call aL S H o)) b
def one (P:Program)(call:eS)(aL:gU)(ops:List Oper)(S:aQ)(H:ao)(o:Oper):Option dz:=
 Option.rec (motive:=fun _=>Option dz) none (agy P call aL S H o) (fW ops S.T o)
def aiv (k:aQ->ao->Option dz)(r:dz):Option dz:=dz.rec (motive:=fun _=>Option dz) k (fun chain S H=>some (.jh chain S H)) r
def RH (k:aQ->ao->Option dz)(r:Option dz):Option dz:=Option.rec (motive:=fun _=>Option dz) none (aiv k) r
def AX (P:Program)(call:eS)(aL:gU)(ops:List Oper)(l:List Oper):aQ->ao->Option dz:=
 List.rec (motive:=fun _=>aQ->ao->Option dz) (fun S H=>some (.ok S H)) (fun o _ rest S H=>RH rest (one P call aL ops S H o)) l
end
end Go.Cre

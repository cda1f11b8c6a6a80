/- A part of the proof of TableClose. -/
import Derived.Test.YtpahonhejmlnpaaGreatDoorCaa
set_option linter.unusedVariables false
set_option linter.unusedSimpArgs false
namespace Go.Cre
noncomputable section
inductive cv where
 |val (v:Value) (H:ai)
 |skip (H:ai)
 |ft (d:Deferred)
 |h9 (chain:List PanicEntry) (H:ai)
 |wz
def fT (v:Option Value)(H:ai):Option cv:=Option.rec (motive:=fun _=>Option cv) none (fun v=>some (.val v H)) v
def k1:Option (Value×ai)->Option cv
 |some (v,H)=>some (.val v H)
 |none=>none
def Dc:Option ai->Option cv
 |some H=>some (.skip H)
 |none=>none
def oA (T:aQ Value)(H:ai)(x:Operand):Value:=match aW T H x with|some v=>v|none=>undef
def eI (P:Program)(T:aQ Value)(H:ai)(o:Oper):Option cv:=
 match eQ T H o.op.operands.toList with
 |none=>none
 |some vs=>bif vs.all plain then
  match eJ P (execOp (oA T H) o) with
  |some (.value v)=>bif plain v then some (.val v H) else none
  |some .skip=>some (.skip H)
  |_=>none
  else none
def orElse (a b:Option cv):Option cv:=match a with|some x=>some x|none=>b
abbrev ed:=FuncId->List Value->ai->Option (Ending×ai)
abbrev fX:=Nat->List Value->ai->Option (Ending×ai)
def tP (P:Program)(H:ai)(recv:Value)(name:String)(rest:List Value):Option (FuncId×List Value):=
 match recv with
 |.iface t v=>match P.info? t with
  |none=>none
  |some i=>match i.methods.find? (·.name==name) with
   |none=>none
   |some m=>bif !m.path.isEmpty then none else
    match m.func with
    |none=>none
    |some (f,wy)=>match P.underlying t,wy with
     |some (.pointer _),true=>some (f,v::rest)
     |some (.pointer _),false=>none
     |some _,false=>some (f,v::rest)
     |_,_=>none
 |_=>none
def j9 (P:Program)(H:ai)(fn:Fn)(args captured:List Value):Option (FuncId×List Value):=
 match fn with
 |.func f=>some (f,args++captured)
 |.method name=>match args with|r::rest=>tP P H r name rest|[]=>none
 |.methodOf t name=>match args with
  |r::rest=>match P.underlying t with
   |some (.interface _)=>tP P H r name rest
   |some _=>tP P H (.iface t r) name rest
   |none=>none
  |[]=>none
 |_=>none
def oY:Option (Ending×ai)->Option cv
 |some (.returned v,H)=>some (.val v H)
 |some (.panicked chain,H)=>some (.h9 chain H)
 |_=>none
def y2:Option (Ending×ai)->Option cv
 |some (.returned v,H)=>some (.val v H)
 |_=>none
def mE (P:Program)(call:ed)(aE:fX)(T:aQ Value)(H:ai)(c:Call):Option cv:=
 match eQ T H c.args.toList with
 |none=>none
 |some args=>match c.callee with
  |.value f=>match aW T H f with
   |some (.func (.yield l) first captured)=>bif first.isEmpty&&captured.isEmpty then y2 (aE l args H) else none
   |some (.func fn first captured)=>match j9 P H fn (first.toList++args) captured.toList with
    |some (f,cl)=>oY (call f cl H)
    |none=>none
   |_=>none
  |.invoke recv name=>match aW T H recv with
   |some r=>match tP P H r name args with
    |some (f,cl)=>oY (call f cl H)
    |none=>none
   |none=>none
  |.builtin _=>none
def n5 {α:Type}(n:Int)(k:Int->α):α:=
 match n with
 |.ofNat 0=>k (.ofNat 0)
 |.ofNat (m+1)=>k (.ofNat (m+1))
 |.negSucc 0=>k (.negSucc 0)
 |.negSucc (m+1)=>k (.negSucc (m+1))
def m5 (H:ai)(k:IntKind)(n:Int):Option cv:=some (.val (.int k n) H)
def n3 (P:Program)(S:aT)(H:ai)(o:Oper)(b:Builtin)(c:Call):Option cv:=
 match eQ S.T H c.args.toList with
 |none=>none
 |some args=>match b,args,c.argTypes.toList with
  |.len,[.slice _ n _],[t]=>(match P.underlying t with
   |some (.slice _)=>some (.val (.int .i64 n) H)
   |_=>none)
  |.len,[.map (some r)],[t]=>(match P.underlying t with
   |some (.map _ _)=>(match H.mem.get r with
    |some (.map es _)=>some (.val (.int .i64 es.length) H)
    |_=>none)
   |_=>none)
  |.len,[.string s],[t]=>(match P.underlying t with
   |some .string=>(match v8 s.data.toList with|some n=>n5 (.ofNat n) (m5 H .i64)|none=>none)
   |_=>none)
  |.append,[s,x],[e1,gu]=>(match P.underlying gu with
   |some (.int _)=>none
   |some _=>k1 (nr P H e1 s x)
   |none=>none)
  |.cap,[.slice (some _) _ c],[t]=>(match P.underlying t with
   |some (.slice _)=>bif Nat.beq c cu then none else some (.val (.int .i64 c) H)
   |_=>none)
  |.unsafeSliceData,[.slice (some a) len c],_=>bif Nat.beq c cu&&Nat.beq len 0 then none else bif Nat.beq c 0 then none else some (.val (.pointer (some a)) H)
  |.unsafeString,[p,n],[pv,_]=>k1 (GC P H pv p n)
  |.copy,[d,s],[oF,_]=>k1 (Gx P H oF d s)
  |.clear,[x],[t]=>k1 (Gv P H t x)
  |.panic,[.iface t v],_=>some (.h9 [{v:=.iface t v,recovered:=false}] H)
  |.recover,[],_=>some .wz
  |_,_,_=>eI P S.T H o
def s7:Fn->Bool
 |.yield _=>false
 |_=>true
def zU (afE:Program)(T:aQ Value)(H:ai)(c:Call):Option cv:=
 match eQ T H c.args.toList with
 |none=>none
 |some args=>match c.callee with
  |.value f=>match aW T H f with
   |some (.func fn first captured)=>bif s7 fn then some (.ft {target:=.fn fn captured,args:=(first.toList++args).toArray}) else none
   |_=>none
  |.invoke recv name=>match aW T H recv with
   |some r=>some (.ft {target:=.fn (.method name) #[],args:=(r::args).toArray})
   |none=>none
  |.builtin _=>none
def g4 (T:aQ Value)(H:ai):Option Operand->Option (Option Value)
 |none=>some none
 |some x=>match aW T H x with|some v=>some (some v)|none=>none
structure dF where
 call:ed
 aE:fX
 S:aT
 H:ai
 o:Oper
def dF.aW (X:dF)(x:Operand):Option Value:=Cre.aW X.S.T X.H x
def dF.lO (P:Program)(X:dF):Option cv:=eI P X.S.T X.H X.o
def PZ (P:Program)(X:dF)(x:Operand):Option cv:=fT (X.aW x) X.H
def uB (P:Program)(X:dF)(a b:Operand):Option Value->Option cv
 |some (.bool true)=>fT (X.aW a) X.H
 |some (.bool false)=>fT (X.aW b) X.H
 |_=>none
def abA (P:Program)(X:dF)(c a b:Operand):Option cv:=uB P X a b (X.aW c)
def Jm (P:Program)(X:dF)(elem:TypeId):Option Value->Option cv
 |some z=>bif plain z then k1 (sv X.H elem z) else none
 |none=>none
def abh (P:Program)(X:dF)(elem:TypeId):Option cv:=Jm P X elem (fG P elem)
def Bw (P:Program)(X:dF)(elem:TypeId):Option Value->Option cv
 |some v=>k1 (sv X.H elem v)
 |none=>none
def abj (P:Program)(X:dF)(elem:TypeId)(x:Operand):Option cv:=Bw P X elem (X.aW x)
def wk (P:Program)(X:dF)(t:TypeId):Option (List (Nat×Value))->Option cv
 |some ps=>fT (zS P t ps) X.H
 |none=>none
def abk (P:Program)(X:dF)(t:TypeId)(parts:Array (Nat×Operand)):Option cv:=wk P X t (jF X.S.T X.H parts.toList)
def Bx (P:Program)(X:dF)(t:TypeId)(len:Nat):Option (List (Nat×Value))->Option cv
 |some ps=>k1 (zT P X.H t len ps)
 |none=>none
def abl (P:Program)(X:dF)(t:TypeId)(len:Nat)(parts:Array (Nat×Operand)):Option cv:=Bx P X t len (jF X.S.T X.H parts.toList)
def wq (P:Program)(X:dF)(t:TypeId):Option Value->Option cv
 |some p=>fT (vw P X.H t p) X.H
 |none=>none
def abt (P:Program)(X:dF)(t:TypeId)(a:Operand):Option cv:=wq P X t (X.aW a)
def yB (P:Program)(X:dF)(t:TypeId):Option Value->Option Value->Option cv
 |some p,some v=>Dc (vx P X.H t p v)
 |_,_=>none
def abC (P:Program)(X:dF)(t:TypeId)(a x:Operand):Option cv:=yB P X t (X.aW a) (X.aW x)
def wx (P:Program)(X:dF):Option Value->Option cv
 |some (.pointer (some a))=>some (.val (.pointer (some a)) X.H)
 |some (.func (.func f) a b)=>some (.val (.func (.func f) a b) X.H)
 |some (.iface t v)=>some (.val (.iface t v) X.H)
 |_=>none
def abx (P:Program)(X:dF)(x:Operand):Option cv:=wx P X (X.aW x)
def qi:IntKind->Nat
 |.i8=>0|.i16=>0|.i32=>2147483648|.i64=>9223372036854775808
 |.u8=>256|.u16=>65536|.u32=>4294967296|.u64=>18446744073709551616
def uQ (k:IntKind)(n:Int):Int:=
 match n with
 |.ofNat m=>bif Nat.blt m (qi k) then .ofNat m else k.wrap (.ofNat m)
 |.negSucc m=>bif k.signed&&Nat.blt m (qi k) then .negSucc m else k.wrap (.negSucc m)
def nB:Int->Int->Bool
 |.ofNat a,.ofNat b=>Nat.blt a b
 |.negSucc _,.ofNat _=>true
 |.ofNat _,.negSucc _=>false
 |.negSucc a,.negSucc b=>Nat.blt b a
def lI:Int->Int->Bool
 |.ofNat a,.ofNat b=>Nat.beq a b
 |.negSucc a,.negSucc b=>Nat.beq a b
 |_,_=>false
def th (H:ai):Bool->Option cv
 |true=>some (.val (.bool true) H)
 |false=>some (.val (.bool false) H)
def ir (H:ai)(k:IntKind)(a b:Int)(uI:Option cv):BinOp->Option cv
 |.add=>n5 (uQ k (a+b)) (m5 H k)
 |.sub=>n5 (uQ k (a -b)) (m5 H k)
 |.mul=>n5 (uQ k (a*b)) (m5 H k)
 |.eql=>th H (lI a b)
 |.neq=>th H (!lI a b)
 |.lss=>th H (nB a b)
 |.leq=>th H (!nB b a)
 |.gtr=>th H (nB b a)
 |.geq=>th H (!nB a b)
 |_=>uI
def rU (P:Program)(X:dF)(t:TypeId)(a b:Value):BinOp->Option cv
 |.eql=>(match sw P t a b with|some r=>some (.val (.bool r) X.H)|none=>none)
 |.neq=>(match sw P t a b with|some r=>some (.val (.bool (!r)) X.H)|none=>none)
 |_=>none
def qt (P:Program)(X:dF)(op:BinOp)(t:TypeId)(a b:Value):Option cv:=orElse (dF.lO P X) (rU P X t a b op)
def jR:IntKind->IntKind->Bool
 |.i8,.i8=>true|.i16,.i16=>true|.i32,.i32=>true|.i64,.i64=>true|.u8,.u8=>true|.u16,.u16=>true|.u32,.u32=>true|.u64,.u64=>true
 |_,_=>false
def Jn (P:Program)(X:dF)(op:BinOp)(t:TypeId)(k:IntKind)(a:Int)(l:IntKind)(b:Int):Option cv:=
 bif jR k l then ir X.H k a b (dF.lO P X) op else qt P X op t (.int k a) (.int l b)
def jV (P:Program)(X:dF)(op:BinOp)(t:TypeId):Option Value->Option Value->Option cv
 |some (.int k a),some (.int l b)=>Jn P X op t k a l b
 |some a,some b=>qt P X op t a b
 |_,_=>none
def abi (P:Program)(X:dF)(op:BinOp)(t:TypeId)(x y:Operand)(_:TypeId):Option cv:=jV P X op t (X.aW x) (X.aW y)
def tb (P:Program)(X:dF)(src dst:TypeId):Option Value->Option cv
 |none=>none
 |some (.string s)=>orElse (k1 (sy P X.H src dst s)) (dF.lO P X)
 |some (.pointer (some a))=>fT (Gw P X.H src dst (.pointer (some a))) X.H
 |some (.slice b l c)=>fT (Gz P X.H src dst (.slice b l c)) X.H
 |some (.int _ n)=>(match P.underlying src,P.underlying dst with
  |some _,some (.int k)=>n5 (uQ k n) (m5 X.H k)
  |_,_=>(dF.lO P X))
 |some _=>(dF.lO P X)
def abm (P:Program)(X:dF)(src dst:TypeId)(x:Operand):Option cv:=tb P X src dst (X.aW x)
def wv (P:Program)(X:dF)(t:TypeId):Option Value->Option TypeDesc->Option cv
 |some _,some (.interface _)=>none
 |some v,some _=>some (.val (.iface t v) X.H)
 |_,_=>none
def abv (P:Program)(X:dF)(t:TypeId)(x:Operand):Option cv:=wv P X t (X.aW x) (P.underlying t)
def wu (P:Program)(X:dF)(fn:Fn):Option (List Value)->Option (List Value)->Option cv
 |some a,some b=>(match fn with
  |.yield _=>none
  |fn=>some (.val (.func fn a.toArray b.toArray) X.H))
 |_,_=>none
def abu (P:Program)(X:dF)(fn:Fn)(first captured:Array Operand):Option cv:=wu P X fn (eQ X.S.T X.H first.toList) (eQ X.S.T X.H captured.toList)
def By (P:Program)(X:dF)(t:TypeId):Option Value->Option Value->Option cv
 |some l,some c=>k1 (zW P X.H t l c)
 |_,_=>none
def abw (P:Program)(X:dF)(t:TypeId)(l c:Operand):Option cv:=By P X t (X.aW l) (X.aW c)
def lN (P:Program)(X:dF)(t:TypeId):Option Value->Option (Option Value)->Option (Option Value)->Option cv
 |some v,some gE,some ar=>orElse (fT (jN P X.H t v gE ar) X.H) (dF.lO P X)
 |_,_,_=>none
def abB (P:Program)(X:dF)(t:TypeId)(x:Operand)(gE ar:Option Operand):Option Operand->Option cv
 |none=>lN P X t (X.aW x) (g4 X.S.T X.H gE) (g4 X.S.T X.H ar)
 |some _=>none
def wo (P:Program)(X:dF)(s:TypeId)(f:Nat):Option Value->Option cv
 |some p=>fT (zV P s p f) X.H
 |none=>none
def abp (P:Program)(X:dF)(s:TypeId)(x:Operand)(f:Nat):Option cv:=wo P X s f (X.aW x)
def uz (P:Program)(X:dF)(f:Nat):Option Value->Option TypeDesc->Option cv
 |some (.agg cs),some (.struct fields)=>(match fields[f]? with
  |some f=>fT (kv P f.type cs.toList f.offset) X.H
  |none=>none)
 |_,_=>none
def abo (P:Program)(X:dF)(t:TypeId)(x:Operand)(f:Nat):Option cv:=uz P X f (X.aW x) (P.underlying t)
def tc (P:Program)(X:dF)(t:TypeId):Option Value->Option Value->Option cv
 |some x,some bj=>fT (sx P t x bj) X.H
 |_,_=>none
def abr (P:Program)(X:dF)(t:TypeId)(x bj:Operand):Option cv:=tc P X t (X.aW x) (X.aW bj)
def uA (P:Program)(X:dF):Option Value->Option Value->Option TypeDesc->Option cv
 |some (.agg cs),some (.int _ i),some (.array len elem)=>(match qf i len,ea P elem with
  |some n,some sz=>fT (kv P elem cs.toList (n*sz)) X.H
  |_,_=>none)
 |some (.string s),some (.int _ i),some .string=>(match i with
  |.ofNat n=>(match nth s.data.toList n with
   |some b=>n5 (.ofNat b.toNat) (m5 X.H .u8)
   |none=>none)
  |.negSucc _=>none)
 |_,_,_=>none
def abq (P:Program)(X:dF)(t:TypeId)(x bj:Operand):Option cv:=uA P X (X.aW x) (X.aW bj) (P.underlying t)
def yC (P:Program)(X:dF)(asserted:TypeId)(ok:Bool):Option Value->Option cv
 |some v=>fT (GB P v asserted ok) X.H
 |none=>none
def abD (P:Program)(X:dF)(x:Operand)(_ asserted:TypeId)(ok:Bool):Option cv:=yC P X asserted ok (X.aW x)
def wm (P:Program)(X:dF)(bj:Nat):Option Value->Option cv
 |some (.tuple vs)=>fT (nth vs.toList bj) X.H
 |_=>none
def abn (P:Program)(X:dF)(t:Operand)(bj:Nat):Option cv:=wm P X bj (X.aW t)
def jW (P:Program)(X:dF)(c:Call):Option cv:=
 match c.callee with
 |.builtin b=>n3 P X.S X.H X.o b c
 |_=>mE P X.call X.aE X.S.T X.H c
def rV (P:Program)(X:dF)(c:Call):Option cv:=
 match X.S.b8 with
 |none=>zU P X.S.T X.H c
 |some _=>none
def Eo (P:Program)(X:dF):Option Value->Option cv
 |some (.iface t v)=>some (.h9 [{v:=.iface t v,recovered:=false}] X.H)
 |_=>none
def abz (P:Program)(X:dF)(x:Operand):Option cv:=Eo P X (X.aW x)
def Eh.{u} {a:Sort u} (_:a):Option cv:=none
def we.{u,v} {a:Sort u} {b:Sort v} (_:a) (_:b):Option cv:=none
def PI.{u,v,w} {a:Sort u} {b:Sort v} {c:Sort w} (_:a) (_:b) (_:c):Option cv:=none
def Ei.{u,v,w,x} {a:Sort u} {b:Sort v} {c:Sort w} {d:Sort x} (_:a) (_:b) (_:c) (_:d):Option cv:=none
def abE (P:Program)(X:dF)(_:UnOp)(_:TypeId)(_:Operand):Option cv:=(dF.lO P X)
def eA (P:Program)(X:dF):Option cv:=
 Op.rec (motive:=fun _=>Option cv)
  (PZ P X) (PZ P X) (abA P X) (abh P X) (abj P X) (abk P X) (abl P X) Ei (abt P X) (abC P X)
  Eh Eh (abx P X) (abi P X) (abE P X) (abm P X) we (abv P X) (abu P X) we we (abw P X)
  (abB P X) (abp P X) (abo P X) (abr P X) (abq P X) Ei Ei PI Ei we we Eh (abD P X) (abn P X)
  (jW P X) Eh (rV P X) (abz P X) we PI we X.o.op
def ct (P:Program)(call:ed)(aE:fX)(S:aT)(H:ai)(o:Oper):Option cv:=eA P ⟨call,aE,S,H,o⟩
def aT.pw (n:Nat)(ds:List Deferred)(bB:Bool)(bf:FrameMode)(b8:Option Nat)(T:Option (aQ Value)):Option aT:=
 Option.rec (motive:=fun _=>Option aT) none (fun T=>some ⟨T,n,ds,bB,bf,b8⟩) T
def aT.aca (v:Value)(S:aT)(d:Tmp):Option aT:=
 aT.rec (motive:=fun _=>Option aT) (fun T n ds bB bf b8=>Bool.rec (motive:=fun _=>Option aT) none (aT.pw n ds bB bf b8 (aQ.put v T d)) (Nat.ble (Nat.succ d) n)) S
def aT.put (S:aT)(dst:Option Tmp)(v:Value):Option aT:=Option.rec (motive:=fun _=>Option aT) (some S) (aT.aca v S) dst
def aT.yY (d:Deferred):aT->aT
 |⟨T,n,ds,bB,bf,b8⟩=>⟨T,n,d::ds,bB,bf,b8⟩
def aT.tp (bf:FrameMode):aT->aT
 |⟨T,n,ds,bB,_,b8⟩=>⟨T,n,ds,bB,bf,b8⟩
def rm (ops:List Oper)(T:aQ Value):Nat×Bool->Option Bool
 |(j,want)=>match nth ops j with
  |some p=>match p.dst with
   |some d=>match T.get d with
    |some (.bool b)=>some (b==want)
    |some (.chan _)=>none
    |some _=>some false
    |none=>none
   |none=>some false
  |none=>some false
def eZ (ops:List Oper)(T:aQ Value)(o:Oper):Option Bool:=Option.rec (motive:=fun _=>Option Bool) (some true) (rm ops T) o.guard
inductive c6 where
 |ok (S:aT) (H:ai)
 |h9 (chain:List PanicEntry) (S:aT) (H:ai)
def m3 (H:ai)(S:Option aT):Option c6:=Option.rec (motive:=fun _=>Option c6) none (fun S=>some (.ok S H)) S
def km (S:aT)(dst:Option Tmp)(v:Value)(H:ai):Option c6:=m3 H (S.put dst v)
def oC (S:aT):Option (Value×FrameMode):=
 match S.b8 with
 |some _=>none
 |none=>bif S.bB then(match S.bf with
  |.panicking ({v,recovered:=false,goexit:=false}::Em)=>some (v,.panicking ({v,recovered:=true}::Em))
  |m=>some (.nilIface,m))
  else some (.nilIface,S.bf)
def Bu (S:aT)(H:ai)(dst:Option Tmp):Option (Value×FrameMode)->Option c6
 |some (v,bf)=>km (S.tp bf) dst v H
 |none=>none
def wj (S:aT)(H:ai)(dst:Option Tmp)(d:Deferred):Option c6:=
 match S.b8 with
 |none=>km (S.yY d) dst undef H
 |some _=>none
def PX (S:aT)(H:ai)(dst:Option Tmp)(r:cv):Option c6:=
 cv.rec (motive:=fun _=>Option c6) (km S dst) (km S dst undef) (wj S H dst) (fun chain H=>some (.h9 chain S H)) (Bu S H dst (oC S)) r
def oy (S:aT)(H:ai)(dst:Option Tmp)(r:Option cv):Option c6:=Option.rec (motive:=fun _=>Option c6) none (PX S H dst) r
def abc (P:Program)(call:ed)(aE:fX)(S:aT)(H:ai)(o:Oper)(b:Bool):Option c6:=
 Bool.rec (motive:=fun _=>Option c6) (km S o.dst undef H) (oy S H o.dst (ct P call aE S H o)) b
def one (P:Program)(call:ed)(aE:fX)(ops:List Oper)(S:aT)(H:ai)(o:Oper):Option c6:=
 Option.rec (motive:=fun _=>Option c6) none (abc P call aE S H o) (eZ ops S.T o)
def acI (k:aT->ai->Option c6)(r:c6):Option c6:=c6.rec (motive:=fun _=>Option c6) k (fun chain S H=>some (.h9 chain S H)) r
def MT (k:aT->ai->Option c6)(r:Option c6):Option c6:=Option.rec (motive:=fun _=>Option c6) none (acI k) r
def xo (P:Program)(call:ed)(aE:fX)(ops:List Oper)(l:List Oper):aT->ai->Option c6:=
 List.rec (motive:=fun _=>aT->ai->Option c6) (fun S H=>some (.ok S H)) (fun o _ rest S H=>MT rest (one P call aE ops S H o)) l
end
end Go.Cre

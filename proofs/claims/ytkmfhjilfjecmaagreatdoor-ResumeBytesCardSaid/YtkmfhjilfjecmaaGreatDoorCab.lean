/- A part of the proof of ResumeBytes. -/
import Derived.Test.YtkmfhjilfjecmaaGreatDoorCaa
set_option linter.unusedVariables false
set_option linter.unusedSimpArgs false
namespace Go.Cre
noncomputable section
inductive cL where
 |val (v:Value) (H:aA)
 |skip (H:aA)
 |iW (d:Deferred)
 |iO (chain:List PanicEntry) (H:aA)
 |Cp
def fZ (v:Option Value)(H:aA):Option cL:=Option.rec (motive:=fun _=>Option cL) none (fun v=>some (.val v H)) v
def mq:Option (Value×aA)->Option cL
 |some (v,H)=>some (.val v H)
 |none=>none
def Hf:Option aA->Option cL
 |some H=>some (.skip H)
 |none=>none
def pR (T:bg Value)(H:aA)(x:Operand):Value:=match bj T H x with|some v=>v|none=>undef
def gm (P:Program)(T:bg Value)(H:aA)(o:Oper):Option cL:=
 match eI T H o.op.operands.toList with
 |none=>none
 |some vs=>bif vs.all plain then
  match eY P (execOp (pR T H) o) with
  |some (.value v)=>bif plain v then some (.val v H) else none
  |some .skip=>some (.skip H)
  |_=>none
  else none
def orElse (a b:Option cL):Option cL:=match a with|some x=>some x|none=>b
abbrev eH:=FuncId->List Value->aA->Option (Ending×aA)
abbrev gR:=Nat->List Value->aA->Option (Ending×aA)
def y8 (P:Program)(H:aA)(recv:Value)(name:String)(rest:List Value):Option (FuncId×List Value):=
 match recv with
 |.iface t v=>match P.info? t with
  |none=>none
  |some i=>match i.methods.find? (·.name==name) with
   |none=>none
   |some m=>bif !m.path.isEmpty then none else
    match m.func with
    |none=>none
    |some (f,Ck)=>match P.underlying t,Ck with
     |some (.pointer _),true=>some (f,v::rest)
     |some (.pointer _),false=>none
     |some _,false=>some (f,v::rest)
     |_,_=>none
 |_=>none
def l7 (P:Program)(H:aA)(fn:Fn)(args captured:List Value):Option (FuncId×List Value):=
 match fn with
 |.func f=>some (f,args++captured)
 |.method name=>match args with|r::rest=>y8 P H r name rest|[]=>none
 |.methodOf t name=>match args with
  |r::rest=>match P.underlying t with
   |some (.interface _)=>y8 P H r name rest
   |some _=>y8 P H (.iface t r) name rest
   |none=>none
  |[]=>none
 |_=>none
def pv:Option (Ending×aA)->Option cL
 |some (.returned v,H)=>some (.val v H)
 |some (.panicked chain,H)=>some (.iO chain H)
 |_=>none
def Ju:Option (Ending×aA)->Option cL
 |some (.returned v,H)=>some (.val v H)
 |_=>none
def n9 (P:Program)(call:eH)(aR:gR)(T:bg Value)(H:aA)(c:Call):Option cL:=
 match eI T H c.args.toList with
 |none=>none
 |some args=>match c.callee with
  |.value f=>match bj T H f with
   |some (.func (.yield l) first captured)=>bif first.isEmpty&&captured.isEmpty then Ju (aR l args H) else none
   |some (.func fn first captured)=>match l7 P H fn (first.toList++args) captured.toList with
    |some (f,bT)=>pv (call f bT H)
    |none=>none
   |_=>none
  |.invoke recv name=>match bj T H recv with
   |some r=>match y8 P H r name args with
    |some (f,bT)=>pv (call f bT H)
    |none=>none
   |none=>none
  |.builtin _=>none
def rp {α:Type}(n:Int)(k:Int->α):α:=
 match n with
 |.ofNat 0=>k (.ofNat 0)
 |.ofNat (m+1)=>k (.ofNat (m+1))
 |.negSucc 0=>k (.negSucc 0)
 |.negSucc (m+1)=>k (.negSucc (m+1))
def pT (H:aA)(k:IntKind)(n:Int):Option cL:=some (.val (.int k n) H)
def pw (P:Program)(S:bh)(H:aA)(o:Oper)(b:Builtin)(c:Call):Option cL:=
 match eI S.T H c.args.toList with
 |none=>none
 |some args=>match b,args,c.argTypes.toList with
  |.len,[.slice _ n _],[t]=>(match P.underlying t with
   |some (.slice _)=>some (.val (.int .i64 n) H)
   |_=>none)
  |.len,[.map (some r)],[t]=>(match P.underlying t with
   |some (.map _ _)=>(match H.mem.get r with
    |some (.map es _)=>some (.val (.int .i64 es.length) H)
    |_=>none)
   |_=>none)
  |.len,[.string s],[t]=>(match P.underlying t with
   |some .string=>(match BV s.data.toList with|some n=>rp (.ofNat n) (pT H .i64)|none=>none)
   |_=>none)
  |.append,[s,x],[hh,hx]=>(match P.underlying hx with
   |some (.int _)=>none
   |some _=>mq (qc P H hh s x)
   |none=>none)
  |.cap,[.slice (some _) _ c],[t]=>(match P.underlying t with
   |some (.slice _)=>bif Nat.beq c cZ then none else some (.val (.int .i64 c) H)
   |_=>none)
  |.unsafeSliceData,[.slice (some a) len c],_=>bif Nat.beq c cZ&&Nat.beq len 0 then none else bif Nat.beq c 0 then none else some (.val (.pointer (some a)) H)
  |.unsafeString,[p,n],[pe,_]=>mq (GR P H pe p n)
  |.copy,[d,s],[r7,_]=>mq (GM P H r7 d s)
  |.panic,[.iface t v],_=>some (.iO [{v:=.iface t v,recovered:=false}] H)
  |.recover,[],_=>some .Cp
  |_,_,_=>gm P S.T H o
def x9:Fn->Bool
 |.yield _=>false
 |_=>true
def GN (aqP:Program)(T:bg Value)(H:aA)(c:Call):Option cL:=
 match eI T H c.args.toList with
 |none=>none
 |some args=>match c.callee with
  |.value f=>match bj T H f with
   |some (.func fn first captured)=>bif x9 fn then some (.iW {target:=.fn fn captured,args:=(first.toList++args).toArray}) else none
   |_=>none
  |.invoke recv name=>match bj T H recv with
   |some r=>some (.iW {target:=.fn (.method name) #[],args:=(r::args).toArray})
   |none=>none
  |.builtin _=>none
def jQ (T:bg Value)(H:aA):Option Operand->Option (Option Value)
 |none=>some none
 |some x=>match bj T H x with|some v=>some (some v)|none=>none
structure en where
 call:eH
 aR:gR
 S:bh
 H:aA
 o:Oper
def en.bj (X:en)(x:Operand):Option Value:=Cre.bj X.S.T X.H x
def en.ow (P:Program)(X:en):Option cL:=gm P X.S.T X.H X.o
def Yh (P:Program)(X:en)(x:Operand):Option cL:=fZ (X.bj x) X.H
def zP (P:Program)(X:en)(a b:Operand):Option Value->Option cL
 |some (.bool true)=>fZ (X.bj a) X.H
 |some (.bool false)=>fZ (X.bj b) X.H
 |_=>none
def amc (P:Program)(X:en)(c a b:Operand):Option cL:=zP P X a b (X.bj c)
def Q4 (P:Program)(X:en)(elem:TypeId):Option Value->Option cL
 |some z=>bif plain z then mq (xh X.H elem z) else none
 |none=>none
def alV (P:Program)(X:en)(elem:TypeId):Option cL:=Q4 P X elem (fy P elem)
def IM (P:Program)(X:en)(elem:TypeId):Option Value->Option cL
 |some v=>mq (xh X.H elem v)
 |none=>none
def alX (P:Program)(X:en)(elem:TypeId)(x:Operand):Option cL:=IM P X elem (X.bj x)
def Cb (P:Program)(X:en)(t:TypeId):Option (List (Nat×Value))->Option cL
 |some ew=>fZ (GK P t ew) X.H
 |none=>none
def alY (P:Program)(X:en)(t:TypeId)(parts:Array (Nat×Operand)):Option cL:=Cb P X t (ls X.S.T X.H parts.toList)
def IN (P:Program)(X:en)(t:TypeId)(len:Nat):Option (List (Nat×Value))->Option cL
 |some ew=>mq (GL P X.H t len ew)
 |none=>none
def alZ (P:Program)(X:en)(t:TypeId)(len:Nat)(parts:Array (Nat×Operand)):Option cL:=IN P X t len (ls X.S.T X.H parts.toList)
def Ce (P:Program)(X:en)(t:TypeId):Option Value->Option cL
 |some p=>fZ (AZ P X.H t p) X.H
 |none=>none
def al6 (P:Program)(X:en)(t:TypeId)(a:Operand):Option cL:=Ce P X t (X.bj a)
def Ci (P:Program)(X:en)(t:TypeId):Option Value->Option Value->Option cL
 |some p,some v=>Hf (xj P X.H t p v)
 |_,_=>none
def ame (P:Program)(X:en)(t:TypeId)(a x:Operand):Option cL:=Ci P X t (X.bj a) (X.bj x)
def Ch (P:Program)(X:en):Option Value->Option cL
 |some (.pointer (some a))=>some (.val (.pointer (some a)) X.H)
 |some (.func (.func f) a b)=>some (.val (.func (.func f) a b) X.H)
 |some (.iface t v)=>some (.val (.iface t v) X.H)
 |_=>none
def al' (P:Program)(X:en)(x:Operand):Option cL:=Ch P X (X.bj x)
def ux:IntKind->Nat
 |.i8=>0|.i16=>0|.i32=>2147483648|.i64=>9223372036854775808
 |.u8=>256|.u16=>65536|.u32=>4294967296|.u64=>18446744073709551616
def Ai (k:IntKind)(n:Int):Int:=
 match n with
 |.ofNat m=>bif Nat.blt m (ux k) then .ofNat m else k.wrap (.ofNat m)
 |.negSucc m=>bif k.signed&&Nat.blt m (ux k) then .negSucc m else k.wrap (.negSucc m)
def qv:Int->Int->Bool
 |.ofNat a,.ofNat b=>Nat.blt a b
 |.negSucc _,.ofNat _=>true
 |.ofNat _,.negSucc _=>false
 |.negSucc a,.negSucc b=>Nat.blt b a
def qu:Int->Int->Bool
 |.ofNat a,.ofNat b=>Nat.beq a b
 |.negSucc a,.negSucc b=>Nat.beq a b
 |_,_=>false
def yh (H:aA):Bool->Option cL
 |true=>some (.val (.bool true) H)
 |false=>some (.val (.bool false) H)
def nj (H:aA)(k:IntKind)(a b:Int)(z7:Option cL):BinOp->Option cL
 |.add=>rp (Ai k (a+b)) (pT H k)
 |.sub=>rp (Ai k (a -b)) (pT H k)
 |.mul=>rp (Ai k (a*b)) (pT H k)
 |.eql=>yh H (qu a b)
 |.neq=>yh H (!qu a b)
 |.lss=>yh H (qv a b)
 |.leq=>yh H (!qv b a)
 |.gtr=>yh H (qv b a)
 |.geq=>yh H (!qv a b)
 |_=>z7
def wk (P:Program)(X:en)(t:TypeId)(a b:Value):BinOp->Option cL
 |.eql=>(match vx P t a b with|some r=>some (.val (.bool r) X.H)|none=>none)
 |.neq=>(match vx P t a b with|some r=>some (.val (.bool (!r)) X.H)|none=>none)
 |_=>none
def uD (P:Program)(X:en)(op:BinOp)(t:TypeId)(a b:Value):Option cL:=orElse (en.ow P X) (wk P X t a b op)
def uw:IntKind->IntKind->Bool
 |.i8,.i8=>true|.i16,.i16=>true|.i32,.i32=>true|.i64,.i64=>true|.u8,.u8=>true|.u16,.u16=>true|.u32,.u32=>true|.u64,.u64=>true
 |_,_=>false
def Q5 (P:Program)(X:en)(op:BinOp)(t:TypeId)(k:IntKind)(a:Int)(l:IntKind)(b:Int):Option cL:=
 bif uw k l then nj X.H k a b (en.ow P X) op else uD P X op t (.int k a) (.int l b)
def pd (P:Program)(X:en)(op:BinOp)(t:TypeId):Option Value->Option Value->Option cL
 |some (.int k a),some (.int l b)=>Q5 P X op t k a l b
 |some a,some b=>uD P X op t a b
 |_,_=>none
def alW (P:Program)(X:en)(op:BinOp)(t:TypeId)(x y:Operand)(_:TypeId):Option cL:=pd P X op t (X.bj x) (X.bj y)
def rZ (P:Program)(X:en)(src dst:TypeId):Option Value->Option cL
 |none=>none
 |some (.string s)=>orElse (mq (sC P X.H src dst s)) (en.ow P X)
 |some (.pointer (some a))=>fZ (AW P X.H src dst (.pointer (some a))) X.H
 |some (.slice b l c)=>fZ (DP P X.H src dst (.slice b l c)) X.H
 |some (.int _ n)=>(match P.underlying src,P.underlying dst with
  |some _,some (.int k)=>rp (Ai k n) (pT X.H k)
  |_,_=>(en.ow P X))
 |some _=>(en.ow P X)
def al0 (P:Program)(X:en)(src dst:TypeId)(x:Operand):Option cL:=rZ P X src dst (X.bj x)
def Cg (P:Program)(X:en)(t:TypeId):Option Value->Option TypeDesc->Option cL
 |some _,some (.interface _)=>none
 |some v,some _=>some (.val (.iface t v) X.H)
 |_,_=>none
def al8 (P:Program)(X:en)(t:TypeId)(x:Operand):Option cL:=Cg P X t (X.bj x) (P.underlying t)
def Cf (P:Program)(X:en)(fn:Fn):Option (List Value)->Option (List Value)->Option cL
 |some a,some b=>(match fn with
  |.yield _=>none
  |fn=>some (.val (.func fn a.toArray b.toArray) X.H))
 |_,_=>none
def al7 (P:Program)(X:en)(fn:Fn)(first captured:Array Operand):Option cL:=Cf P X fn (eI X.S.T X.H first.toList) (eI X.S.T X.H captured.toList)
def IP (P:Program)(X:en)(t:TypeId):Option Value->Option Value->Option cL
 |some l,some c=>mq (GP P X.H t l c)
 |_,_=>none
def al9 (P:Program)(X:en)(t:TypeId)(l c:Operand):Option cL:=IP P X t (X.bj l) (X.bj c)
def qD (P:Program)(X:en)(t:TypeId):Option Value->Option (Option Value)->Option (Option Value)->Option cL
 |some v,some cm,some ao=>orElse (fZ (oS P X.H t v cm ao) X.H) (en.ow P X)
 |_,_,_=>none
def amd (P:Program)(X:en)(t:TypeId)(x:Operand)(cm ao:Option Operand):Option Operand->Option cL
 |none=>qD P X t (X.bj x) (jQ X.S.T X.H cm) (jQ X.S.T X.H ao)
 |some _=>none
def Cd (P:Program)(X:en)(s:TypeId)(f:Nat):Option Value->Option cL
 |some p=>fZ (GO P s p f) X.H
 |none=>none
def al3 (P:Program)(X:en)(s:TypeId)(x:Operand)(f:Nat):Option cL:=Cd P X s f (X.bj x)
def EW (P:Program)(X:en)(f:Nat):Option Value->Option TypeDesc->Option cL
 |some (.agg cs),some (.struct fields)=>(match fields[f]? with
  |some f=>fZ (mX P f.type cs.toList f.offset) X.H
  |none=>none)
 |_,_=>none
def al2 (P:Program)(X:en)(t:TypeId)(x:Operand)(f:Nat):Option cL:=EW P X f (X.bj x) (P.underlying t)
def zN (P:Program)(X:en)(t:TypeId):Option Value->Option Value->Option cL
 |some x,some aW=>fZ (AY P t x aW) X.H
 |_,_=>none
def al5 (P:Program)(X:en)(t:TypeId)(x aW:Operand):Option cL:=zN P X t (X.bj x) (X.bj aW)
def zM (P:Program)(X:en):Option Value->Option Value->Option TypeDesc->Option cL
 |some (.agg cs),some (.int _ i),some (.array len elem)=>(match uv i len,ef P elem with
  |some n,some sz=>fZ (mX P elem cs.toList (n*sz)) X.H
  |_,_=>none)
 |some (.string s),some (.int _ i),some .string=>(match i with
  |.ofNat n=>(match nth s.data.toList n with
   |some b=>rp (.ofNat b.toNat) (pT X.H .u8)
   |none=>none)
  |.negSucc _=>none)
 |_,_,_=>none
def al4 (P:Program)(X:en)(t:TypeId)(x aW:Operand):Option cL:=zM P X (X.bj x) (X.bj aW) (P.underlying t)
def zQ (P:Program)(X:en)(asserted:TypeId)(ok:Bool):Option Value->Option cL
 |some v=>fZ (y' P v asserted ok) X.H
 |none=>none
def amf (P:Program)(X:en)(x:Operand)(_ asserted:TypeId)(ok:Bool):Option cL:=zQ P X asserted ok (X.bj x)
def Cc (P:Program)(X:en)(aW:Nat):Option Value->Option cL
 |some (.tuple vs)=>fZ (nth vs.toList aW) X.H
 |_=>none
def al1 (P:Program)(X:en)(t:Operand)(aW:Nat):Option cL:=Cc P X aW (X.bj t)
def kU (P:Program)(X:en)(c:Call):Option cL:=
 match c.callee with
 |.builtin b=>pw P X.S X.H X.o b c
 |_=>n9 P X.call X.aR X.S.T X.H c
def wm (P:Program)(X:en)(c:Call):Option cL:=
 match X.S.cK with
 |none=>GN P X.S.T X.H c
 |some _=>none
def IQ (P:Program)(X:en):Option Value->Option cL
 |some (.iface t v)=>some (.iO [{v:=.iface t v,recovered:=false}] X.H)
 |_=>none
def amb (P:Program)(X:en)(x:Operand):Option cL:=IQ P X (X.bj x)
def LI.{u} {a:Sort u} (_:a):Option cL:=none
def B8.{u,v} {a:Sort u} {b:Sort v} (_:a) (_:b):Option cL:=none
def XZ.{u,v,w} {a:Sort u} {b:Sort v} {c:Sort w} (_:a) (_:b) (_:c):Option cL:=none
def LJ.{u,v,w,x} {a:Sort u} {b:Sort v} {c:Sort w} {d:Sort x} (_:a) (_:b) (_:c) (_:d):Option cL:=none
def amg (P:Program)(X:en)(_:UnOp)(_:TypeId)(_:Operand):Option cL:=(en.ow P X)
def fe (P:Program)(X:en):Option cL:=
 Op.rec (motive:=fun _=>Option cL)
  (Yh P X) (Yh P X) (amc P X) (alV P X) (alX P X) (alY P X) (alZ P X) LJ (al6 P X) (ame P X)
  LI LI (al' P X) (alW P X) (amg P X) (al0 P X) B8 (al8 P X) (al7 P X) B8 B8 (al9 P X)
  (amd P X) (al3 P X) (al2 P X) (al5 P X) (al4 P X) LJ LJ XZ LJ B8 B8 LI (amf P X) (al1 P X)
  (kU P X) LI (wm P X) (amb P X) B8 XZ B8 X.o.op
def cJ (P:Program)(call:eH)(aR:gR)(S:bh)(H:aA)(o:Oper):Option cL:=fe P ⟨call,aR,S,H,o⟩
def bh.uE (n:Nat)(ds:List Deferred)(b5:Bool)(bF:FrameMode)(cK:Option Nat)(T:Option (bg Value)):Option bh:=
 Option.rec (motive:=fun _=>Option bh) none (fun T=>some ⟨T,n,ds,b5,bF,cK⟩) T
def bh.am8 (v:Value)(S:bh)(d:Tmp):Option bh:=
 bh.rec (motive:=fun _=>Option bh) (fun T n ds b5 bF cK=>Bool.rec (motive:=fun _=>Option bh) none (bh.uE n ds b5 bF cK (bg.put v T d)) (Nat.ble (Nat.succ d) n)) S
def bh.put (S:bh)(dst:Option Tmp)(v:Value):Option bh:=Option.rec (motive:=fun _=>Option bh) (some S) (bh.am8 v S) dst
def bh.Fp (d:Deferred):bh->bh
 |⟨T,n,ds,b5,bF,cK⟩=>⟨T,n,d::ds,b5,bF,cK⟩
def bh.yt (bF:FrameMode):bh->bh
 |⟨T,n,ds,b5,_,cK⟩=>⟨T,n,ds,b5,bF,cK⟩
def vF (ops:List Oper)(T:bg Value):Nat×Bool->Option Bool
 |(j,want)=>match nth ops j with
  |some p=>match p.dst with
   |some d=>match T.get d with
    |some (.bool b)=>some (b==want)
    |some (.chan _)=>none
    |some _=>some false
    |none=>none
   |none=>some false
  |none=>some false
def fD (ops:List Oper)(T:bg Value)(o:Oper):Option Bool:=Option.rec (motive:=fun _=>Option Bool) (some true) (vF ops T) o.guard
inductive dJ where
 |ok (S:bh) (H:aA)
 |iO (chain:List PanicEntry) (S:bh) (H:aA)
def pg (H:aA)(S:Option bh):Option dJ:=Option.rec (motive:=fun _=>Option dJ) none (fun S=>some (.ok S H)) S
def mo (S:bh)(dst:Option Tmp)(v:Value)(H:aA):Option dJ:=pg H (S.put dst v)
def r1 (S:bh):Option (Value×FrameMode):=
 match S.cK with
 |some _=>none
 |none=>bif S.b5 then(match S.bF with
  |.panicking ({v,recovered:=false,goexit:=false}::LP)=>some (v,.panicking ({v,recovered:=true}::LP))
  |m=>some (.nilIface,m))
  else some (.nilIface,S.bF)
def IK (S:bh)(H:aA)(dst:Option Tmp):Option (Value×FrameMode)->Option dJ
 |some (v,bF)=>mo (S.yt bF) dst v H
 |none=>none
def Ca (S:bh)(H:aA)(dst:Option Tmp)(d:Deferred):Option dJ:=
 match S.cK with
 |none=>mo (S.Fp d) dst undef H
 |some _=>none
def Yg (S:bh)(H:aA)(dst:Option Tmp)(r:cL):Option dJ:=
 cL.rec (motive:=fun _=>Option dJ) (mo S dst) (mo S dst undef) (Ca S H dst) (fun chain H=>some (.iO chain S H)) (IK S H dst (r1 S)) r
def pP (S:bh)(H:aA)(dst:Option Tmp)(r:Option cL):Option dJ:=Option.rec (motive:=fun _=>Option dJ) none (Yg S H dst) r
def alS (P:Program)(call:eH)(aR:gR)(S:bh)(H:aA)(o:Oper)(b:Bool):Option dJ:=
 Bool.rec (motive:=fun _=>Option dJ) (mo S o.dst undef H) (pP S H o.dst (cJ P call aR S H o)) b
def one (P:Program)(call:eH)(aR:gR)(ops:List Oper)(S:bh)(H:aA)(o:Oper):Option dJ:=
 Option.rec (motive:=fun _=>Option dJ) none (alS P call aR S H o) (fD ops S.T o)
def anC (k:bh->aA->Option dJ)(r:dJ):Option dJ:=dJ.rec (motive:=fun _=>Option dJ) k (fun chain S H=>some (.iO chain S H)) r
def US (k:bh->aA->Option dJ)(r:Option dJ):Option dJ:=Option.rec (motive:=fun _=>Option dJ) none (anC k) r
def DO (P:Program)(call:eH)(aR:gR)(ops:List Oper)(l:List Oper):bh->aA->Option dJ:=
 List.rec (motive:=fun _=>bh->aA->Option dJ) (fun S H=>some (.ok S H)) (fun o _ rest S H=>US rest (one P call aR ops S H o)) l
end
end Go.Cre

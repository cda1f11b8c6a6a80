/- A part of the proof of ResumeBack. -/
import Derived.Test.YtiemfjdacfioeaaGreatDoorCaa
set_option linter.unusedVariables false
set_option linter.unusedSimpArgs false
namespace Go.Cre
noncomputable section
inductive cM where
 |val (v:Value) (H:aB)
 |skip (H:aB)
 |iT (d:Deferred)
 |jE (chain:List PanicEntry) (H:aB)
 |Cd
def gp (v:Option Value)(H:aB):Option cM:=Option.rec (motive:=fun _=>Option cM) none (fun v=>some (.val v H)) v
def mJ:Option (Value×aB)->Option cM
 |some (v,H)=>some (.val v H)
 |none=>none
def Kl:Option aB->Option cM
 |some H=>some (.skip H)
 |none=>none
def pG (T:bg Value)(H:aB)(x:Operand):Value:=match bk T H x with|some v=>v|none=>undef
def fI (P:Program)(T:bg Value)(H:aB)(o:Oper):Option cM:=
 match ez T H o.op.operands.toList with
 |none=>none
 |some vs=>bif vs.all plain then
  match eP P (execOp (pG T H) o) with
  |some (.value v)=>bif plain v then some (.val v H) else none
  |some .skip=>some (.skip H)
  |_=>none
  else none
def orElse (a b:Option cM):Option cM:=match a with|some x=>some x|none=>b
abbrev eH:=FuncId->List Value->aB->Option (Ending×aB)
abbrev gR:=Nat->List Value->aB->Option (Ending×aB)
def yZ (P:Program)(H:aB)(recv:Value)(name:String)(rest:List Value):Option (FuncId×List Value):=
 match recv with
 |.iface t v=>match P.info? t with
  |none=>none
  |some i=>match i.methods.find? (·.name==name) with
   |none=>none
   |some m=>bif !m.path.isEmpty then none else
    match m.func with
    |none=>none
    |some (f,B')=>match P.underlying t,B' with
     |some (.pointer _),true=>some (f,v::rest)
     |some (.pointer _),false=>none
     |some _,false=>some (f,v::rest)
     |_,_=>none
 |_=>none
def mU (P:Program)(H:aB)(fn:Fn)(args captured:List Value):Option (FuncId×List Value):=
 match fn with
 |.func f=>some (f,args++captured)
 |.method name=>match args with|r::rest=>yZ P H r name rest|[]=>none
 |.methodOf t name=>match args with
  |r::rest=>match P.underlying t with
   |some (.interface _)=>yZ P H r name rest
   |some _=>yZ P H (.iface t r) name rest
   |none=>none
  |[]=>none
 |_=>none
def q8:Option (Ending×aB)->Option cM
 |some (.returned v,H)=>some (.val v H)
 |some (.panicked chain,H)=>some (.jE chain H)
 |_=>none
def Ja:Option (Ending×aB)->Option cM
 |some (.returned v,H)=>some (.val v H)
 |_=>none
def po (P:Program)(call:eH)(aR:gR)(T:bg Value)(H:aB)(c:Call):Option cM:=
 match ez T H c.args.toList with
 |none=>none
 |some args=>match c.callee with
  |.value f=>match bk T H f with
   |some (.func (.yield l) first captured)=>bif first.isEmpty&&captured.isEmpty then Ja (aR l args H) else none
   |some (.func fn first captured)=>match mU P H fn (first.toList++args) captured.toList with
    |some (f,b6)=>q8 (call f b6 H)
    |none=>none
   |_=>none
  |.invoke recv name=>match bk T H recv with
   |some r=>match yZ P H r name args with
    |some (f,b6)=>q8 (call f b6 H)
    |none=>none
   |none=>none
  |.builtin _=>none
def q' {α:Type}(n:Int)(k:Int->α):α:=
 match n with
 |.ofNat 0=>k (.ofNat 0)
 |.ofNat (m+1)=>k (.ofNat (m+1))
 |.negSucc 0=>k (.negSucc 0)
 |.negSucc (m+1)=>k (.negSucc (m+1))
def pJ (H:aB)(k:IntKind)(n:Int):Option cM:=some (.val (.int k n) H)
def pn (P:Program)(S:bi)(H:aB)(o:Oper)(b:Builtin)(c:Call):Option cM:=
 match ez S.T H c.args.toList with
 |none=>none
 |some args=>match b,args,c.argTypes.toList with
  |.len,[.slice _ n _],[t]=>(match P.underlying t with
   |some (.slice _)=>some (.val (.int .i64 n) H)
   |_=>none)
  |.len,[.map (some r)],[t]=>(match P.underlying t with
   |some (.map _ _)=>(match H.mem.get r with
    |some (.map es _)=>some (.val (.int .i64 es.length) H)
    |_=>none)
   |_=>none)
  |.len,[.string s],[t]=>(match P.underlying t with
   |some .string=>(match BL s.data.toList with|some n=>q' (.ofNat n) (pJ H .i64)|none=>none)
   |_=>none)
  |.append,[s,x],[hi,hy]=>(match P.underlying hy with
   |some (.int _)=>none
   |some _=>mJ (p6 P H hi s x)
   |none=>none)
  |.cap,[.slice (some _) _ c],[t]=>(match P.underlying t with
   |some (.slice _)=>bif Nat.beq c c9 then none else some (.val (.int .i64 c) H)
   |_=>none)
  |.unsafeSliceData,[.slice (some a) len c],_=>bif Nat.beq c c9&&Nat.beq len 0 then none else bif Nat.beq c 0 then none else some (.val (.pointer (some a)) H)
  |.unsafeString,[p,n],[o5,_]=>mJ (Gz P H o5 p n)
  |.copy,[d,s],[rV,_]=>mJ (Gt P H rV d s)
  |.panic,[.iface t v],_=>some (.jE [{v:=.iface t v,recovered:=false}] H)
  |.recover,[],_=>some .Cd
  |_,_,_=>fI P S.T H o
def xT:Fn->Bool
 |.yield _=>false
 |_=>true
def Gu (ap3:Program)(T:bg Value)(H:aB)(c:Call):Option cM:=
 match ez T H c.args.toList with
 |none=>none
 |some args=>match c.callee with
  |.value f=>match bk T H f with
   |some (.func fn first captured)=>bif xT fn then some (.iT {target:=.fn fn captured,args:=(first.toList++args).toArray}) else none
   |_=>none
  |.invoke recv name=>match bk T H recv with
   |some r=>some (.iT {target:=.fn (.method name) #[],args:=(r::args).toArray})
   |none=>none
  |.builtin _=>none
def jD (T:bg Value)(H:aB):Option Operand->Option (Option Value)
 |none=>some none
 |some x=>match bk T H x with|some v=>some (some v)|none=>none
structure ek where
 call:eH
 aR:gR
 S:bi
 H:aB
 o:Oper
def ek.bk (X:ek)(x:Operand):Option Value:=Cre.bk X.S.T X.H x
def ek.oh (P:Program)(X:ek):Option cM:=fI P X.S.T X.H X.o
def XS (P:Program)(X:ek)(x:Operand):Option cM:=gp (X.bk x) X.H
def zN (P:Program)(X:ek)(a b:Operand):Option Value->Option cM
 |some (.bool true)=>gp (X.bk a) X.H
 |some (.bool false)=>gp (X.bk b) X.H
 |_=>none
def alA (P:Program)(X:ek)(c a b:Operand):Option cM:=zN P X a b (X.bk c)
def QE (P:Program)(X:ek)(elem:TypeId):Option Value->Option cM
 |some z=>bif plain z then mJ (w4 X.H elem z) else none
 |none=>none
def alh (P:Program)(X:ek)(elem:TypeId):Option cM:=QE P X elem (fw P elem)
def Iu (P:Program)(X:ek)(elem:TypeId):Option Value->Option cM
 |some v=>mJ (w4 X.H elem v)
 |none=>none
def alj (P:Program)(X:ek)(elem:TypeId)(x:Operand):Option cM:=Iu P X elem (X.bk x)
def B0 (P:Program)(X:ek)(t:TypeId):Option (List (Nat×Value))->Option cM
 |some eG=>gp (Gr P t eG) X.H
 |none=>none
def alk (P:Program)(X:ek)(t:TypeId)(parts:Array (Nat×Operand)):Option cM:=B0 P X t (lj X.S.T X.H parts.toList)
def Iv (P:Program)(X:ek)(t:TypeId)(len:Nat):Option (List (Nat×Value))->Option cM
 |some eG=>mJ (Gs P X.H t len eG)
 |none=>none
def alm (P:Program)(X:ek)(t:TypeId)(len:Nat)(parts:Array (Nat×Operand)):Option cM:=Iv P X t len (lj X.S.T X.H parts.toList)
def B3 (P:Program)(X:ek)(t:TypeId):Option Value->Option cM
 |some p=>gp (AS P X.H t p) X.H
 |none=>none
def alt (P:Program)(X:ek)(t:TypeId)(a:Operand):Option cM:=B3 P X t (X.bk a)
def EI (P:Program)(X:ek)(t:TypeId):Option Value->Option Value->Option cM
 |some p,some v=>Kl (AT P X.H t p v)
 |_,_=>none
def alC (P:Program)(X:ek)(t:TypeId)(a x:Operand):Option cM:=EI P X t (X.bk a) (X.bk x)
def B6 (P:Program)(X:ek):Option Value->Option cM
 |some (.pointer (some a))=>some (.val (.pointer (some a)) X.H)
 |some (.func (.func f) a b)=>some (.val (.func (.func f) a b) X.H)
 |some (.iface t v)=>some (.val (.iface t v) X.H)
 |_=>none
def alx (P:Program)(X:ek)(x:Operand):Option cM:=B6 P X (X.bk x)
def um:IntKind->Nat
 |.i8=>0|.i16=>0|.i32=>2147483648|.i64=>9223372036854775808
 |.u8=>256|.u16=>65536|.u32=>4294967296|.u64=>18446744073709551616
def Ah (k:IntKind)(n:Int):Int:=
 match n with
 |.ofNat m=>bif Nat.blt m (um k) then .ofNat m else k.wrap (.ofNat m)
 |.negSucc m=>bif k.signed&&Nat.blt m (um k) then .negSucc m else k.wrap (.negSucc m)
def qs:Int->Int->Bool
 |.ofNat a,.ofNat b=>Nat.blt a b
 |.negSucc _,.ofNat _=>true
 |.ofNat _,.negSucc _=>false
 |.negSucc a,.negSucc b=>Nat.blt b a
def qq:Int->Int->Bool
 |.ofNat a,.ofNat b=>Nat.beq a b
 |.negSucc a,.negSucc b=>Nat.beq a b
 |_,_=>false
def x0 (H:aB):Bool->Option cM
 |true=>some (.val (.bool true) H)
 |false=>some (.val (.bool false) H)
def nd (H:aB)(k:IntKind)(a b:Int)(zZ:Option cM):BinOp->Option cM
 |.add=>q' (Ah k (a+b)) (pJ H k)
 |.sub=>q' (Ah k (a -b)) (pJ H k)
 |.mul=>q' (Ah k (a*b)) (pJ H k)
 |.eql=>x0 H (qq a b)
 |.neq=>x0 H (!qq a b)
 |.lss=>x0 H (qs a b)
 |.leq=>x0 H (!qs b a)
 |.gtr=>x0 H (qs b a)
 |.geq=>x0 H (!qs a b)
 |_=>zZ
def uw (P:Program)(X:ek)(t:TypeId)(a b:Value):BinOp->Option cM
 |.eql=>(match tA P t a b with|some r=>some (.val (.bool r) X.H)|none=>none)
 |.neq=>(match tA P t a b with|some r=>some (.val (.bool (!r)) X.H)|none=>none)
 |_=>none
def ux (P:Program)(X:ek)(op:BinOp)(t:TypeId)(a b:Value):Option cM:=orElse (ek.oh P X) (uw P X t a b op)
def uk:IntKind->IntKind->Bool
 |.i8,.i8=>true|.i16,.i16=>true|.i32,.i32=>true|.i64,.i64=>true|.u8,.u8=>true|.u16,.u16=>true|.u32,.u32=>true|.u64,.u64=>true
 |_,_=>false
def QF (P:Program)(X:ek)(op:BinOp)(t:TypeId)(k:IntKind)(a:Int)(l:IntKind)(b:Int):Option cM:=
 bif uk k l then nd X.H k a b (ek.oh P X) op else ux P X op t (.int k a) (.int l b)
def nM (P:Program)(X:ek)(op:BinOp)(t:TypeId):Option Value->Option Value->Option cM
 |some (.int k a),some (.int l b)=>QF P X op t k a l b
 |some a,some b=>ux P X op t a b
 |_,_=>none
def ali (P:Program)(X:ek)(op:BinOp)(t:TypeId)(x y:Operand)(_:TypeId):Option cM:=nM P X op t (X.bk x) (X.bk y)
def uy (P:Program)(X:ek)(src dst:TypeId):Option Value->Option cM
 |none=>none
 |some (.string s)=>orElse (mJ (w7 P X.H src dst s)) (ek.oh P X)
 |some (.pointer (some a))=>gp (AP P X.H src dst (.pointer (some a))) X.H
 |some (.slice b l c)=>gp (NC P X.H src dst (.slice b l c)) X.H
 |some (.int _ n)=>(match P.underlying src,P.underlying dst with
  |some _,some (.int k)=>q' (Ah k n) (pJ X.H k)
  |_,_=>(ek.oh P X))
 |some _=>(ek.oh P X)
def aln (P:Program)(X:ek)(src dst:TypeId)(x:Operand):Option cM:=uy P X src dst (X.bk x)
def B5 (P:Program)(X:ek)(t:TypeId):Option Value->Option TypeDesc->Option cM
 |some _,some (.interface _)=>none
 |some v,some _=>some (.val (.iface t v) X.H)
 |_,_=>none
def alv (P:Program)(X:ek)(t:TypeId)(x:Operand):Option cM:=B5 P X t (X.bk x) (P.underlying t)
def B4 (P:Program)(X:ek)(fn:Fn):Option (List Value)->Option (List Value)->Option cM
 |some a,some b=>(match fn with
  |.yield _=>none
  |fn=>some (.val (.func fn a.toArray b.toArray) X.H))
 |_,_=>none
def alu (P:Program)(X:ek)(fn:Fn)(first captured:Array Operand):Option cM:=B4 P X fn (ez X.S.T X.H first.toList) (ez X.S.T X.H captured.toList)
def Iw (P:Program)(X:ek)(t:TypeId):Option Value->Option Value->Option cM
 |some l,some c=>mJ (Gw P X.H t l c)
 |_,_=>none
def alw (P:Program)(X:ek)(t:TypeId)(l c:Operand):Option cM:=Iw P X t (X.bk l) (X.bk c)
def qA (P:Program)(X:ek)(t:TypeId):Option Value->Option (Option Value)->Option (Option Value)->Option cM
 |some v,some cm,some ao=>orElse (gp (oJ P X.H t v cm ao) X.H) (ek.oh P X)
 |_,_,_=>none
def alB (P:Program)(X:ek)(t:TypeId)(x:Operand)(cm ao:Option Operand):Option Operand->Option cM
 |none=>qA P X t (X.bk x) (jD X.S.T X.H cm) (jD X.S.T X.H ao)
 |some _=>none
def B2 (P:Program)(X:ek)(s:TypeId)(f:Nat):Option Value->Option cM
 |some p=>gp (Gv P s p f) X.H
 |none=>none
def alq (P:Program)(X:ek)(s:TypeId)(x:Operand)(f:Nat):Option cM:=B2 P X s f (X.bk x)
def zJ (P:Program)(X:ek)(f:Nat):Option Value->Option TypeDesc->Option cM
 |some (.agg cs),some (.struct fields)=>(match fields[f]? with
  |some f=>gp (mo P f.type cs.toList f.offset) X.H
  |none=>none)
 |_,_=>none
def alp (P:Program)(X:ek)(t:TypeId)(x:Operand)(f:Nat):Option cM:=zJ P X f (X.bk x) (P.underlying t)
def zL (P:Program)(X:ek)(t:TypeId):Option Value->Option Value->Option cM
 |some x,some aX=>gp (AR P t x aX) X.H
 |_,_=>none
def als (P:Program)(X:ek)(t:TypeId)(x aX:Operand):Option cM:=zL P X t (X.bk x) (X.bk aX)
def zK (P:Program)(X:ek):Option Value->Option Value->Option TypeDesc->Option cM
 |some (.agg cs),some (.int _ i),some (.array len elem)=>(match uj i len,ej P elem with
  |some n,some sz=>gp (mo P elem cs.toList (n*sz)) X.H
  |_,_=>none)
 |some (.string s),some (.int _ i),some .string=>(match i with
  |.ofNat n=>(match nth s.data.toList n with
   |some b=>q' (.ofNat b.toNat) (pJ X.H .u8)
   |none=>none)
  |.negSucc _=>none)
 |_,_,_=>none
def alr (P:Program)(X:ek)(t:TypeId)(x aX:Operand):Option cM:=zK P X (X.bk x) (X.bk aX) (P.underlying t)
def B7 (P:Program)(X:ek)(asserted:TypeId)(ok:Bool):Option Value->Option cM
 |some v=>gp (Gy P v asserted ok) X.H
 |none=>none
def alD (P:Program)(X:ek)(x:Operand)(_ asserted:TypeId)(ok:Bool):Option cM:=B7 P X asserted ok (X.bk x)
def B1 (P:Program)(X:ek)(aX:Nat):Option Value->Option cM
 |some (.tuple vs)=>gp (nth vs.toList aX) X.H
 |_=>none
def alo (P:Program)(X:ek)(t:Operand)(aX:Nat):Option cM:=B1 P X aX (X.bk t)
def lI (P:Program)(X:ek)(c:Call):Option cM:=
 match c.callee with
 |.builtin b=>pn P X.S X.H X.o b c
 |_=>po P X.call X.aR X.S.T X.H c
def vW (P:Program)(X:ek)(c:Call):Option cM:=
 match X.S.cJ with
 |none=>Gu P X.S.T X.H c
 |some _=>none
def Lt (P:Program)(X:ek):Option Value->Option cM
 |some (.iface t v)=>some (.jE [{v:=.iface t v,recovered:=false}] X.H)
 |_=>none
def alz (P:Program)(X:ek)(x:Operand):Option cM:=Lt P X (X.bk x)
def Ll.{u} {a:Sort u} (_:a):Option cM:=none
def BX.{u,v} {a:Sort u} {b:Sort v} (_:a) (_:b):Option cM:=none
def Xw.{u,v,w} {a:Sort u} {b:Sort v} {c:Sort w} (_:a) (_:b) (_:c):Option cM:=none
def Lm.{u,v,w,x} {a:Sort u} {b:Sort v} {c:Sort w} {d:Sort x} (_:a) (_:b) (_:c) (_:d):Option cM:=none
def alE (P:Program)(X:ek)(_:UnOp)(_:TypeId)(_:Operand):Option cM:=(ek.oh P X)
def fq (P:Program)(X:ek):Option cM:=
 Op.rec (motive:=fun _=>Option cM)
  (XS P X) (XS P X) (alA P X) (alh P X) (alj P X) (alk P X) (alm P X) Lm (alt P X) (alC P X)
  Ll Ll (alx P X) (ali P X) (alE P X) (aln P X) BX (alv P X) (alu P X) BX BX (alw P X)
  (alB P X) (alq P X) (alp P X) (als P X) (alr P X) Lm Lm Xw Lm BX BX Ll (alD P X) (alo P X)
  (lI P X) Ll (vW P X) (alz P X) BX Xw BX X.o.op
def cO (P:Program)(call:eH)(aR:gR)(S:bi)(H:aB)(o:Oper):Option cM:=fq P ⟨call,aR,S,H,o⟩
def bi.uA (n:Nat)(ds:List Deferred)(b2:Bool)(bJ:FrameMode)(cJ:Option Nat)(T:Option (bg Value)):Option bi:=
 Option.rec (motive:=fun _=>Option bi) none (fun T=>some ⟨T,n,ds,b2,bJ,cJ⟩) T
def bi.amu (v:Value)(S:bi)(d:Tmp):Option bi:=
 bi.rec (motive:=fun _=>Option bi) (fun T n ds b2 bJ cJ=>Bool.rec (motive:=fun _=>Option bi) none (bi.uA n ds b2 bJ cJ (bg.put v T d)) (Nat.ble (Nat.succ d) n)) S
def bi.put (S:bi)(dst:Option Tmp)(v:Value):Option bi:=Option.rec (motive:=fun _=>Option bi) (some S) (bi.amu v S) dst
def bi.Ff (d:Deferred):bi->bi
 |⟨T,n,ds,b2,bJ,cJ⟩=>⟨T,n,d::ds,b2,bJ,cJ⟩
def bi.ye (bJ:FrameMode):bi->bi
 |⟨T,n,ds,b2,_,cJ⟩=>⟨T,n,ds,b2,bJ,cJ⟩
def vw (ops:List Oper)(T:bg Value):Nat×Bool->Option Bool
 |(j,want)=>match nth ops j with
  |some p=>match p.dst with
   |some d=>match T.get d with
    |some (.bool b)=>some (b==want)
    |some (.chan _)=>none
    |some _=>some false
    |none=>none
   |none=>some false
  |none=>some false
def fj (ops:List Oper)(T:bg Value)(o:Oper):Option Bool:=Option.rec (motive:=fun _=>Option Bool) (some true) (vw ops T) o.guard
inductive dH where
 |ok (S:bi) (H:aB)
 |jE (chain:List PanicEntry) (S:bi) (H:aB)
def pI (H:aB)(S:Option bi):Option dH:=Option.rec (motive:=fun _=>Option dH) none (fun S=>some (.ok S H)) S
def ma (S:bi)(dst:Option Tmp)(v:Value)(H:aB):Option dH:=pI H (S.put dst v)
def rO (S:bi):Option (Value×FrameMode):=
 match S.cJ with
 |some _=>none
 |none=>bif S.b2 then(match S.bJ with
  |.panicking ({v,recovered:=false,goexit:=false}::Ls)=>some (v,.panicking ({v,recovered:=true}::Ls))
  |m=>some (.nilIface,m))
  else some (.nilIface,S.bJ)
def It (S:bi)(H:aB)(dst:Option Tmp):Option (Value×FrameMode)->Option dH
 |some (v,bJ)=>ma (S.ye bJ) dst v H
 |none=>none
def BZ (S:bi)(H:aB)(dst:Option Tmp)(d:Deferred):Option dH:=
 match S.cJ with
 |none=>ma (S.Ff d) dst undef H
 |some _=>none
def XQ (S:bi)(H:aB)(dst:Option Tmp)(r:cM):Option dH:=
 cM.rec (motive:=fun _=>Option dH) (ma S dst) (ma S dst undef) (BZ S H dst) (fun chain H=>some (.jE chain S H)) (It S H dst (rO S)) r
def pD (S:bi)(H:aB)(dst:Option Tmp)(r:Option cM):Option dH:=Option.rec (motive:=fun _=>Option dH) none (XQ S H dst) r
def ale (P:Program)(call:eH)(aR:gR)(S:bi)(H:aB)(o:Oper)(b:Bool):Option dH:=
 Bool.rec (motive:=fun _=>Option dH) (ma S o.dst undef H) (pD S H o.dst (cO P call aR S H o)) b
def one (P:Program)(call:eH)(aR:gR)(ops:List Oper)(S:bi)(H:aB)(o:Oper):Option dH:=
 Option.rec (motive:=fun _=>Option dH) none (ale P call aR S H o) (fj ops S.T o)
def amX (k:bi->aB->Option dH)(r:dH):Option dH:=dH.rec (motive:=fun _=>Option dH) k (fun chain S H=>some (.jE chain S H)) r
def Un (k:bi->aB->Option dH)(r:Option dH):Option dH:=Option.rec (motive:=fun _=>Option dH) none (amX k) r
def Dy (P:Program)(call:eH)(aR:gR)(ops:List Oper)(l:List Oper):bi->aB->Option dH:=
 List.rec (motive:=fun _=>bi->aB->Option dH) (fun S H=>some (.ok S H)) (fun o _ rest S H=>Un rest (one P call aR ops S H o)) l
end
end Go.Cre

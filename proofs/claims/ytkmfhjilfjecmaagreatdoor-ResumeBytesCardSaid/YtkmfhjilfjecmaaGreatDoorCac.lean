/- A part of the proof of ResumeBytes. -/
import Derived.Test.YtkmfhjilfjecmaaGreatDoorCab
import Derived.Below
set_option linter.unusedVariables false
set_option linter.unusedSimpArgs false
namespace Go.Cre
noncomputable section
def EF:Op->Bool
 |.store ..|.mapUpdate ..|.insert ..|.mapEntry ..|.entryStore ..|.next ..|.go _|.defer _|.panic _|.send ..|.recv ..|.select ..|.ready _=>true
 |.call {callee:=.builtin b,..}=>match b with|.len|.cap|.min|.max=>false|_=>true
 |.call _=>true
 |_=>false
def zz:Op->Bool
 |.alloc _|.box ..|.buildSlice ..|.makeMap ..|.makeSlice ..=>true
 |_=>false
def looks (ops:List Oper)(o:Oper):List Tmp:=
 (o.op.operands.toList.filterMap fun|.tmp t=>some t|_=>none)++
 (match o.guard with
  |some (g,_)=>(match nth ops g with|some p=>p.dst.toList|none=>[])
  |none=>[])
def DH:List Edge->Nat
 |[]=>0
 |e::l=>bif Region.binds .any e then Nat.lor (Nat.pow 2 e.on) (DH l) else DH l
def Oper.fM (o:Oper):Nat:=DH o.after.toList
def sub (a b:Nat):Bool:=Nat.beq (Nat.land a b) a
def QF (ops:List Oper)(a b:Oper):Bool:=match a.dst with|some d=>(looks ops b).any (Nat.beq d)|none=>false
def Tg (ops:List Oper)(i:Nat)(a:Oper):List Oper->Bool
 |[]=>false
 |b::l=>(QF ops a b&&!Nat.testBit (Oper.fM b) i)||Tg ops i a l
def Dq (ops:List Oper):List Oper->Nat->Nat
 |[],_=>0
 |o::l,i=>Nat.lor (bif EF o.op||Tg ops i o ops then Nat.pow 2 i else 0) (Dq ops l (i+1))
def yM:List Oper->Nat->Nat
 |[],_=>0
 |o::l,i=>Nat.lor (bif zz o.op then Nat.pow 2 i else 0) (yM l (i+1))
inductive jF where
 |val (i:Nat)
 |gk (i:Nat)
 |bR (i:Nat)
 |cA (l:List Nat)
def LZ (ok:Nat->Bool)(C:Nat):List Oper->Nat->Option Nat
 |[],_=>none
 |o::l,i=>bif !Nat.testBit C i&&ok i&&sub (Oper.fM o) C then some i else LZ ok C l (i+1)
def vm (ops:List Oper):Nat->Nat->Nat
 |0,K=>K
 |n+1,K=>vm ops n (bif Nat.testBit K n then(match nth ops n with|some o=>Nat.lor K (Oper.fM o)|none=>K) else K)
def bitsOf (m:Nat):Nat->List Nat
 |0=>[]
 |n+1=>bif Nat.testBit m n then n::bitsOf m n else bitsOf m n
def BZ:List Nat->Nat
 |[]=>0
 |i::l=>Nat.lor (Nat.pow 2 i) (BZ l)
def EK (ops:List Oper)(bK cj:Nat):Nat->Nat->Nat->Nat->List jF
 |0,_,_,_=>[]
 |n+1,C,K,G=>
  match LZ (fun i=>!Nat.testBit bK i&&Nat.testBit cj i) C ops 0 with
  |some i=>.gk i::EK ops bK cj n (Nat.lor C (Nat.pow 2 i)) K (Nat.lor (Nat.land G cj) (Nat.pow 2 i))
  |none=>match LZ (fun i=>!Nat.testBit bK i&&!Nat.testBit cj i) C ops 0 with
   |some i=>.val i::EK ops bK cj n (Nat.lor C (Nat.pow 2 i)) K (Nat.lor G (Nat.pow 2 i))
   |none=>match bitsOf (Nat.xor C (Nat.land C (Nat.lor K G))) ops.length with
    |i::l=>.cA (i::l)::EK ops bK cj n C K (Nat.lor G (BZ (i::l)))
    |[]=>match LZ (Nat.testBit bK) C ops 0 with
     |some i=>.bR i::EK ops bK cj n (Nat.lor C (Nat.pow 2 i)) (vm ops ops.length (Nat.lor K (Nat.pow 2 i))) (Nat.land G cj)
     |none=>[]
def only(C i:Nat):List Oper->Nat->Bool
 |[],_=>true
 |o::l,k=>(Nat.testBit C k||Nat.beq k i||!sub (Oper.fM o) C)&&only C i l (k+1)
def Lm (C:Nat):Nat->Bool
 |0=>true
 |n+1=>Nat.testBit C n&&Lm C n
def fits (ops:List Oper)(C i:Nat):Bool:=!Nat.testBit C i&&(match nth ops i with|some o=>sub (Oper.fM o) C|none=>false)
def J2 (bK cj C:Nat):List Nat->Bool
 |[]=>true
 |i::l=>Nat.testBit C i&&!Nat.testBit cj i&&J2 bK cj C l
def ox (ops:List Oper)(bK cj:Nat):Nat->Nat->Nat->List jF->Bool
 |C,K,G,[]=>Lm C ops.length&&sub C (Nat.lor K G)
 |C,K,G,.val i::l=>fits ops C i&&!Nat.testBit bK i&&!Nat.testBit cj i&&ox ops bK cj (Nat.lor C (Nat.pow 2 i)) K (Nat.lor G (Nat.pow 2 i)) l
 |C,K,G,.gk i::l=>fits ops C i&&!Nat.testBit bK i&&Nat.testBit cj i&&ox ops bK cj (Nat.lor C (Nat.pow 2 i)) K (Nat.lor (Nat.land G cj) (Nat.pow 2 i)) l
 |C,K,G,.cA s::l=>J2 bK cj C s&&ox ops bK cj C K (Nat.lor G (BZ s)) l
 |C,K,G,.bR i::l=>fits ops C i&&Nat.testBit bK i&&only C i ops 0&&sub C (Nat.lor K G)&&
  (match nth ops i with|some o=>sub (Oper.fM o) (vm ops ops.length (Nat.lor K (Nat.pow 2 i)))&&Nat.testBit (vm ops ops.length (Nat.lor K (Nat.pow 2 i))) i|none=>false)&&
  ox ops bK cj (Nat.lor C (Nat.pow 2 i)) (vm ops ops.length (Nat.lor K (Nat.pow 2 i))) (Nat.land G cj) l
def Zf (a b:Oper):Bool:=match a.dst,b.dst with|some d,some e=>Nat.beq d e|_,_=>false
def EY (ops:List Oper)(bK i j:Nat)(a b:Oper):Bool:=
 (Nat.beq i j||!Zf a b)&&(!QF ops a b||Nat.testBit (Oper.fM b) i||(Nat.testBit bK i&&(Nat.beq i j||Nat.testBit (Oper.fM a) j)))
def LS (ops:List Oper)(bK i:Nat)(a:Oper):List Oper->Nat->Bool
 |[],_=>true
 |b::l,j=>EY ops bK i j a b&&LS ops bK i a l (j+1)
def IT (ops:List Oper)(bK:Nat):List Oper->Nat->Bool
 |[],_=>true
 |a::l,i=>LS ops bK i a ops 0&&Nat.blt (Oper.fM a) (Nat.pow 2 i)&&(Nat.testBit bK i||!EF a.op)&&IT ops bK l (i+1)
def DE (ops:List Oper):Bool:=
 IT ops (Dq ops ops 0) ops 0&&ox ops (Dq ops ops 0) (yM ops 0) 0 0 0 (EK ops (Dq ops ops 0) (yM ops 0) (3*ops.length+3) 0 0 0)
def vb (f:Value->Value->Bool):List Value->List Value->Bool
 |[],[]=>true
 |x::l,y::m=>f x y&&vb f l m
 |_,_=>false
def addrEq:Option Addr->Option Addr->Bool
 |none,none=>true
 |some ⟨a,b,none⟩,some ⟨c,d,none⟩=>Nat.beq a c&&Nat.beq b d
 |some ⟨0,0,some 0⟩,some ⟨0,0,some 0⟩=>true
 |_,_=>false
def XS:Option Nat->Option Nat->Bool
 |none,none=>true
 |some a,some b=>Nat.beq a b
 |_,_=>false
def abV:Bool->Bool->Bool
 |true,true=>true
 |false,false=>true
 |_,_=>false
def U5:Fn->Fn->Bool
 |.func f,.func g=>Nat.beq f g
 |_,_=>false
def j3:Nat->Value->Value->Bool
 |0,_,_=>false
 |n+1,a,b=>match a,b with
  |.bool a,.bool b=>abV a b
  |.int k a,.int l b=>uw k l&&qu a b
  |.string a,.string b=>decide (a.data.toList=b.data.toList)
  |.pointer a,.pointer b=>addrEq a b
  |.slice a l c,.slice b m d=>addrEq a b&&Nat.beq l m&&Nat.beq c d
  |.map a,.map b=>XS a b
  |.nilFunc,.nilFunc=>true
  |.nilIface,.nilIface=>true
  |.iface t v,.iface u w=>Nat.beq t u&&j3 n v w
  |.agg a,.agg b=>vb (j3 n) a.toList b.toList
  |.tuple a,.tuple b=>vb (j3 n) a.toList b.toList
  |.func f a b,.func g c d=>U5 f g&&vb (j3 n) a.toList c.toList&&vb (j3 n) b.toList d.toList
  |_,_=>false
inductive iR where
 |ptr
 |Cw (len cap:Nat)
 |map
def iR.at (id:Nat):iR->Value
 |.ptr=>.pointer (some ⟨id,0,none⟩)
 |.Cw l c=>.slice (some ⟨id,0,none⟩) l c
 |.map=>.map (some id)
def qE (T:bg Value)(x:Operand):Option Value:=
 Operand.rec (motive:=fun _=>Option Value) (fun t=>T.get t) Q6 (fun _=>none) (fun f=>some (.func (.func f) #[] #[])) x
def s8 (T:bg Value):List (Nat×Operand)->Option (List (Nat×Value))
 |[]=>some []
 |(i,x)::l=>match qE T x with
  |some v=>match s8 T l with|some r=>some ((i,v)::r)|none=>none
  |none=>none
def AH (elem:TypeId)(v:Value):Option (fg×iR):=
 bif v.cells.toList.all eM then some (.row v.cells.toList elem false 0 0 false,.ptr) else none
def F2 (P:Program)(t:TypeId)(l c:Value):Option (fg×iR):=
 match l,c,P.underlying t with
 |.int _ l,.int _ c,some (.slice elem)=>
  match fy P elem,vh P elem,ef P elem with
  |some z,some fO,some sz=>
   match qw c 1000000,qw l 1000000 with
   |some c,some l=>
    bif Nat.ble l c&&Nat.ble fO 1000000&&Nat.beq z.cells.toList.length sz&&z.cells.toList.all eM&&plain z then
     some (.row (gG z.cells.toList c) elem false 0 0 false,.Cw l c)
    else none
   |_,_=>none
  |_,_,_=>none
 |_,_,_=>none
def F1 (P:Program)(t:TypeId)(len:Nat)(parts:List (Nat×Value)):Option (fg×iR):=
 match P.underlying t with
 |some (.slice elem)=>match ef P elem,fy P elem with
  |some sz,some z=>
   bif Nat.ble len 100000&&Nat.ble (len*sz) 100000&&plain z&&Nat.beq z.cells.toList.length sz then
    match nK (fun i=>some (i*sz,sz)) (gG z.cells.toList len) parts with
    |some cells=>bif cells.all eM then some (.row cells elem false 0 0 false,.Cw len len) else none
    |none=>none
   else none
  |_,_=>none
 |_=>none
def Im (P:Program)(t:TypeId)(r:Operand):Option (fg×iR):=
 match r with
 |.const (.int .i64 (.ofNat 0))=>(match P.underlying t with|some (.map _ _)=>some (fg.dead,iR.map)|_=>none)
 |_=>none
def nE (P:Program)(T:bg Value):Op->Option (fg×iR)
 |.alloc elem=>(match fy P elem with|some z=>bif plain z then AH elem z else none|none=>none)
 |.box elem x=>(match qE T x with|some v=>AH elem v|none=>none)
 |.buildSlice t len parts=>(match s8 T parts.toList with|some ew=>F1 P t len ew|none=>none)
 |.makeMap _ none=>some (.map [] 0,.map)
 |.makeMap t (some r)=>Im P t r
 |.makeSlice t l c=>(match qE T l,qE T c with|some l,some c=>F2 P t l c|_,_=>none)
 |_=>none
abbrev q2:=bh->aA->Option dJ
def pX (k:q2)(H:aA)(S:Option bh):Option dJ:=Option.rec (motive:=fun _=>Option dJ) none (fun S=>k S H) S
def CH (S:bh)(H:aA)(dst:Option Tmp)(k:q2):Option cL->Option dJ
 |some (.val v H')=>bif Nat.beq H'.ak H.ak then pX k H (S.put dst v) else none
 |_=>none
def aae (P:Program)(call:eH)(aR:gR)(S:bh)(H:aA)(o:Oper)(k:q2)(b:Bool):Option dJ:=
 Bool.rec (motive:=fun _=>Option dJ) (pX k H (S.put o.dst undef)) (CH S H o.dst k (cJ P call aR S H o)) b
def mM (P:Program)(call:eH)(aR:gR)(ops:List Oper)(S:bh)(H:aA)(k:q2)(o:Oper):Option dJ:=
 Option.rec (motive:=fun _=>Option dJ) none (aae P call aR S H o k) (fD ops S.T o)
def M9 (S:bh)(dst:Option Tmp)(k:q2)(er:iR):Option (Nat×aA)->Option dJ
 |some (a,H)=>pX k H (S.put dst (er.at a))
 |none=>none
def M8 (S:bh)(H:aA)(dst:Option Tmp)(k:q2):Option (fg×iR)->Option dJ
 |some (b,er)=>M9 S dst k er (H.new b)
 |none=>none
def Ta (P:Program)(S:bh)(H:aA)(o:Oper)(k:q2)(b:Bool):Option dJ:=
 Bool.rec (motive:=fun _=>Option dJ) (pX k H (S.put o.dst undef)) (M8 S H o.dst k (nE P S.T o.op)) b
def FZ (P:Program)(ops:List Oper)(S:bh)(H:aA)(k:q2)(o:Oper):Option dJ:=
 Option.rec (motive:=fun _=>Option dJ) none (Ta P S H o k) (fD ops S.T o)
def kr (k:q2):Option dJ->Option dJ
 |some (.ok S H)=>k S H
 |_=>none
def Nz (ak:Nat)(T:bg Value)(dst:Option Tmp):Option cL->Bool
 |some (.val v H')=>Nat.beq H'.ak ak&&(match dst with
  |none=>true
  |some d=>(match T.get d with|some u=>j3 8 v u|none=>false))
 |_=>false
def Uf (P:Program)(call:eH)(aR:gR)(ops:List Oper)(S:bh)(H:aA)(o:Oper):Option Bool->Bool
 |some true=>Nz H.ak S.T o.dst (cJ P call aR S H o)
 |some false=>true
 |none=>false
def AR (P:Program)(call:eH)(aR:gR)(ops:List Oper)(S:bh)(H:aA)(i:Nat):Bool:=
 match nth ops i with
 |some o=>Uf P call aR ops S H o (fD ops S.T o)
 |none=>false
def jy (ops:List Oper)(i:Nat)(f:Oper->Option dJ):Option dJ:=Option.rec (motive:=fun _=>Option dJ) none f (nth ops i)
def AS (P:Program)(call:eH)(aR:gR)(ops:List Oper)(S:bh)(H:aA)(k:q2)(l:List Nat):Option dJ:=
 bif l.all (AR P call aR ops S H) then k S H else none
def Ur (P:Program)(call:eH)(aR:gR)(ops:List Oper)(k:q2)(S:bh)(H:aA)(s:jF):Option dJ:=
 jF.rec (motive:=fun _=>Option dJ) (fun i=>jy ops i (mM P call aR ops S H k)) (fun i=>jy ops i (FZ P ops S H k)) (fun i=>jy ops i fun o=>kr k (one P call aR ops S H o)) (AS P call aR ops S H k) s
def dL (P:Program)(call:eH)(aR:gR)(ops:List Oper)(l:List jF):q2:=
 List.rec (motive:=fun _=>q2) (fun S H=>some (.ok S H)) (fun s _ k S H=>Ur P call aR ops k S H s) l
def IV (ops:List Oper):List jF:=EK ops (Dq ops ops 0) (yM ops 0) (3*ops.length+3) 0 0 0
def xi (P:Program)(call:eH)(aR:gR)(ops:List Oper)(S:bh)(H:aA):Option dJ:=
 bif DE ops then dL P call aR ops (IV ops) S H else none
def aeu (t:Nat):Option Tmp->Bool
 |some u=>Nat.beq u t
 |none=>false
structure Lit where
 t:Nat
 m:Nat
 eS:TypeId
 n:Nat
def Xy:List Oper->Option (Nat×TypeId)
 |[]=>none
 |o::l=>match o.op with
  |.insert eS (.tmp t) _ _=>some (t,eS)
  |_=>Xy l
def Xw (t:Nat):List Oper->Nat->Nat
 |[],i=>i
 |o::l,i=>bif aeu t o.dst then i else Xw t l (Nat.succ i)
def QD:List Oper->Nat->Nat->Nat
 |[],_,n=>n
 |o::l,i,n=>match o.op with
  |.insert _ _ _ _=>QD l (Nat.succ i) (Nat.succ i)
  |_=>QD l (Nat.succ i) n
def Io (ops:List Oper):Option Lit:=match Xy ops with
 |some (t,eS)=>some ⟨t,Xw t ops 0,eS,QD ops 0 0⟩
 |none=>none
def vw (P:Program)(call:eH)(aR:gR)(ops:List Oper)(S:bh)(H:aA):Option dJ:=
 Option.rec (motive:=fun _=>Option dJ) (xi P call aR ops S H) (fun _=>none) (Io ops)
structure gZ where
 code:Code->bh->aA->Option (Exit×bh×aA)
 body:FuncId->List Value->Bool->FrameMode->aA->Option (Ending×FrameMode×aA)
def gZ.call (E:gZ):eH:=fun f args H=>match E.body f args false .run H with
 |some (e,_,H)=>some (e,H)
 |none=>none
def gZ.aR (_:gZ):gR:=fun _ _ _=>none
def r2:Option dJ->Option (Exit×bh×aA)
 |some (.ok S H)=>some (.normal,S,H)
 |some (.iO chain S H)=>some (.panic chain,S,H)
 |none=>none
def Gp (E:gZ)(b:Code):Option (Exit×bh×aA)->Option (Exit×bh×aA)
 |some (.normal,S,H)=>E.code b S H
 |r=>r
def acI (E:gZ)(S:bh)(H:aA)(a b:Code):Option (Exit×bh×aA):=Gp E b (E.code a S H)
def Kf (E:gZ)(S:bh)(H:aA)(x y:Code):Option Value->Option (Exit×bh×aA)
 |some (.bool true)=>E.code x S H
 |some (.bool false)=>E.code y S H
 |_=>none
def acB (E:gZ)(S:bh)(H:aA)(c:Operand)(x y:Code):Option (Exit×bh×aA):=Kf E S H x y (bj S.T H c)
def Nu (id:Nat):Option (Exit×bh×aA)->Option (Exit×bh×aA)
 |some (.exit mi,S,H)=>bif Nat.beq mi id then some (.normal,S,H) else some (.exit mi,S,H)
 |r=>r
def acA (E:gZ)(S:bh)(H:aA)(id:Nat)(c:Code):Option (Exit×bh×aA):=Nu id (E.code c S H)
def acD (E:gZ)(S:bh)(H:aA)(c:Code):Option (Exit×bh×aA):=Gp E (.loop c) (E.code c S H)
def T3:Option (Exit×bh×aA)->Option (Exit×bh×aA)
 |some (.goto _,_,_)=>none
 |r=>r
def acH (E:gZ)(S:bh)(H:aA)(c:Code):Option (Exit×bh×aA):=T3 (E.code c S H)
def acG (P:Program)(E:gZ)(S:bh)(H:aA)(_:Nat)(ops:Array Oper):Bool->Option (Exit×bh×aA)
 |false=>r2 (DO P E.call E.aR ops.toList ops.toList S H)
 |true=>r2 (vw P E.call E.aR ops.toList S H)
def acF (P:Program)(E:gZ)(S:bh)(H:aA)(f:Operand)(params:Array Tmp)(assign body:Code):Option (Exit×bh×aA):=none
def acC (S:bh)(H:aA)(id:Nat):Option (Exit×bh×aA):=some (.exit id,S,H)
def T2.{u} {a:Sort u} (_:a):Option (Exit×bh×aA):=none
def acE (S:bh)(H:aA)(_:Nat):Option (Exit×bh×aA):=some (.normal,S,H)
def Kp (P:Program)(E:gZ)(c:Code)(S:bh)(H:aA):Option (Exit×bh×aA):=
 Code.casesOn (motive:=fun _=>Option (Exit×bh×aA)) c
  (some (.normal,S,H)) (acG P E S H) (acI E S H) (acB E S H) (acA E S H) (acD E S H) (acF P E S H) (acC S H) (acH E S H) (acE S H) T2 (some (.ret,S,H)) T2
def qd (P:Program)(T:bg Value)(H:aA):List ResultVar->Option (List Value)
 |[]=>some []
 |.tmp t::l=>(match T.get t with
  |some v=>(match qd P T H l with|some r=>some (v::r)|none=>none)
  |none=>none)
 |.cell a t::l=>(match T.get a with
  |some p=>(match AZ P H t p with
   |some v=>(match qd P T H l with|some r=>some (v::r)|none=>none)
   |none=>none)
  |none=>none)
def qC:List Value->Value
 |[v]=>v
 |vs=>.tuple vs.toArray
def Ln:FrameMode->Bool
 |.run=>true
 |_=>false
def iM (P:Program)(E:gZ)(fn:Func)(T:bg Value):List Deferred->FrameMode->aA->Option (Ending×aA)
 |[],.returning,H=>match qd P T H fn.results.toList with
  |some vs=>some (.returned (qC vs),H)
  |none=>none
 |[],.panicking chain,H=>some (.panicked chain,H)
 |[],.run,_=>none
 |d::ds,u,H=>bif Ln u then none else match d.target with
  |.fn fv cap=>match l7 P H fv d.args.toList cap.toList with
   |none=>none
   |some (f,args)=>match E.body f args true u H with
    |some (.returned _,u,H)=>iM P E fn T ds (settle u) H
    |some (.panicked chain,u,H)=>iM P E fn T ds (raised u chain) H
    |_=>none
  |.collected r=>match H.mem.get r with
   |some (.iW (some []))=>bif Nat.ble H.bW r then(match H.upd r (.iW none) with
    |some H=>iM P E fn T ds u H
    |none=>none) else none
   |_=>none
  |_=>none
def N8 (n:Nat):Nat:=Nat.succ (Nat.log2 (Nat.succ n))
def blank (n:Nat):bg Value:=bg.full undef (N8 n)
def n2:List Value->Nat->bg Value->Option (bg Value)
 |[],_,T=>some T
 |v::l,i,T=>match T.set Mv i v with|some T=>n2 l (Nat.succ i) T|none=>none
def UW (e:TypeId)(n:Nat)(H:aA):Option (Ending×aA):=
 match H.nl [] e false with
 |some (id,H)=>some (.returned (.slice (some ⟨id,0,none⟩) n cZ),H)
 |none=>none
def N4 (P:Program)(fn:Func)(H:aA):List Value->List TypeId->Option (Ending×aA)
 |[.int .i64 (.ofNat n)],[t]=>bif decide (fn.name= "internal/bytealg.MakeNoZero")&&decide (fn.origin= "")&&Nat.ble n 1000000 then
  (match P.underlying t with
  |some (.slice e)=>bif Nat.beq (P.cellsOf e) 1 then UW e n H else none
  |_=>none)
  else none
 |_,_=>none
def UX (P:Program)(fn:Func)(args:List Value)(H:aA):Option Next->Option (Ending×aA)
 |some (.value v)=>bif plain v then some (.returned v,H) else none
 |_=>N4 P fn H args fn.resultTypes.toList
def N5 (fn:Func)(H:aA):List Value->Option (Ending×aA)
 |[v]=>bif decide (fn.name= "internal/abi.NoEscape")&&decide (fn.origin= "") then some (.returned v,H) else none
 |_=>none
def AX (P:Program)(fn:Func)(f:FuncId)(args:List Value)(H:aA):Option (Ending×aA):=
 bif args.all plain then UX P fn args H (eY P (callFunc f args.toArray)) else N5 fn H args
def sq (bF:FrameMode):Option (Ending×aA)->Option (Ending×FrameMode×aA)
 |some (e,H)=>some (e,bF,H)
 |none=>none
def w2 (P:Program)(E:gZ)(fn:Func):Option (Exit×bh×aA)->Option (Ending×FrameMode×aA)
 |some (.normal,S,H)=>sq S.bF (iM P E fn S.T S.ds .returning H)
 |some (.ret,S,H)=>sq S.bF (iM P E fn S.T S.ds .returning H)
 |some (.panic chain,S,H)=>sq S.bF (iM P E fn S.T S.ds (.panicking chain) H)
 |_=>none
def Ga (P:Program)(E:gZ)(fn:Func)(c:Code)(b5:Bool)(bF:FrameMode)(H:aA):Option (bg Value)->Option (Ending×FrameMode×aA)
 |some T=>w2 P E fn (E.code c ⟨T,fn.ntmps,[],b5,bF,none⟩ H)
 |none=>none
def F' (P:Program)(E:gZ)(f:FuncId)(fn:Func)(args:List Value)(b5:Bool)(bF:FrameMode)(H:aA):Option Code->Option (Ending×FrameMode×aA)
 |some c=>Ga P E fn c b5 bF H (n2 args 0 (blank fn.ntmps))
 |none=>bif b5 then none else sq bF (AX P fn f args H)
def sB (P:Program)(fq:bg Func)(E:gZ)(f:FuncId)(args:List Value)(b5:Bool)(bF:FrameMode)(H:aA):Option (Ending×FrameMode×aA):=
 match fq.get f with
 |none=>none
 |some fn=>F' P E f fn args b5 bF H fn.body
def vy (P:Program)(fq:bg Func)(n:Nat):gZ:=
 Nat.rec (motive:=fun _=>gZ) ⟨fun _ _ _=>none,fun _ _ _ _ _=>none⟩ (fun _ E=>⟨Kp P E,sB P fq E⟩) n
def yn {α:Type}:List α->Nat->bg α->Option (bg α)
 |[],_,T=>some T
 |v::l,i,T=>match T.set Mv i v with|some T=>yn l (Nat.succ i) T|none=>none
end
end Go.Cre
namespace Go.Cre
noncomputable section
open Go.RowKit
theorem bg.Vb{α:Type}(n:Nat):(bg.leaf:bg α).get n=none:=rfl
theorem bg.G0{α:Type}(v:Option α)(l r:bg α):(bg.node v l r).get 0=v:=rfl
theorem bg.rq{α:Type}(v:Option α)(l r:bg α)(m:Nat):(bg.node v l r).get (m+1)=if m % 2=0 then l.get (m / 2) else r.get (m / 2):=by
 show Bool.rec (motive:=fun _=>Option α) (r.get (m / 2)) (l.get (m / 2)) (Nat.beq (m % 2) 0)=_;by_cases h:m % 2=0
 ·rw[aE h];simp[h]
 ·rw[an h];have:Nat.beq (m % 2) 0=false:=by
   cases ap:Nat.beq (m % 2) 0
   ·rfl
   ·exact absurd (eO ap) h
  rw[this]
theorem bg.anb{α:Type}(a:α):bg.put a .leaf 0=some (.node (some a) .leaf .leaf):=rfl
theorem bg.ana{α:Type}(a:α)(m:Nat):bg.put a .leaf (m+1)=none:=rfl
theorem bg.anf{α:Type}(a:α)(v:Option α)(l r:bg α):bg.put a (.node v l r) 0=some (.node (some a) l r):=rfl
theorem bg.L4{α:Type}(a:α)(v:Option α)(l r:bg α)(m:Nat):
 bg.put a (.node v l r) (m+1)=if m % 2=0 then bg.left v r (bg.put a l (m / 2)) else bg.right v l (bg.put a r (m / 2)):=by
 show Bool.rec (motive:=fun _=>Option (bg α)) (bg.right v l (bg.put a r (m / 2))) (bg.left v r (bg.put a l (m / 2))) (Nat.beq (m % 2) 0)=_;by_cases h:m % 2=0
 ·rw[aE h];simp[h]
 ·rw[an h];have:Nat.beq (m % 2) 0=false:=by
   cases ap:Nat.beq (m % 2) 0
   ·rfl
   ·exact absurd (eO ap) h
  rw[this]
theorem bg.get_put{α:Type}{a:α}{t ek:bg α}{n:Nat}(h:bg.put a t n=some ek)(m:Nat):ek.get m=if m=n then some a else t.get m:=by
 induction t generalizing ek n m with
 |leaf=>
  cases n with
  |zero=>
   rw[bg.anb] at h;injection h with h;subst h
   cases m with
   |zero=>simp[bg.G0]
   |succ m=>rw[bg.rq];simp[bg.Vb]
  |succ n=>rw[bg.ana] at h;cases h
 |node v l r xY xZ=>
  cases n with
  |zero=>
   rw[bg.anf] at h;injection h with h;subst h
   cases m with
   |zero=>simp[bg.G0]
   |succ m=>rw[bg.rq,bg.rq];simp
  |succ n=>
   rw[bg.L4] at h;by_cases aP:n % 2=0
   ·rw[aE aP] at h;cases av:bg.put a l (n / 2) with
    |none=>rw[av] at h;cases h
    |some l'=>
     rw[av] at h;injection h with h;subst h
     cases m with
     |zero=>simp[bg.G0]
     |succ m=>
      rw[bg.rq,bg.rq,xY av];by_cases hm:m % 2=0
      ·rw[aE hm,aE hm];have:(m / 2=n / 2)↔(m+1=n+1):=by omega
       simp[this]
      ·rw[an hm,an hm];have:¬(m+1=n+1):=by omega
       rw[an this]
   ·rw[an aP] at h;cases aw:bg.put a r (n / 2) with
    |none=>rw[aw] at h;cases h
    |some dx=>
     rw[aw] at h;injection h with h;subst h
     cases m with
     |zero=>simp[bg.G0]
     |succ m=>
      rw[bg.rq,bg.rq,xZ aw];by_cases hm:m % 2=0
      ·rw[aE hm,aE hm];have:¬(m+1=n+1):=by omega
       rw[an this]
      ·rw[an hm,an hm];have:(m / 2=n / 2)↔(m+1=n+1):=by omega
       simp[this]
theorem bg.Vc{α:Type}{a:α}{t ek:bg α}{d n:Nat}(h:bg.set d t n a=some ek)(m:Nat):ek.get m=if m=n then some a else t.get m:=bg.get_put h m
theorem kE{α:Type}(l:List α)(n:Nat):nth l n=l[n]?:=by
 induction l generalizing n with
 |nil=>rfl
 |cons a l aI=>cases n with
  |zero=>rfl
  |succ n=>exact aI n
theorem tJ{α:Type}(n:Nat)(l:List α):nJ n l=l.drop n:=by
 induction l generalizing n with
 |nil=>simp[nJ]
 |cons a l aI=>cases n with
  |zero=>rfl
  |succ n=>exact aI n
theorem Fh{α:Type}{n:Nat}{l r:List α}(h:takeN n l=some r):r=l.take n/\r.length=n/\n<=l.length:=by
 induction n generalizing l r with
 |zero=>simp[takeN] at h;subst h;simp
 |succ n aI=>
  cases l with
  |nil=>simp[takeN] at h
  |cons a l=>
   simp only[takeN] at h;cases aB:takeN n l with
   |none=>rw[aB] at h;cases h
   |some dx=>
    rw[aB] at h;injection h with h;subst h
    obtain⟨aL,bk,cG⟩:=aI aB;refine⟨by rw[aL,JO],by simp[bk],by simp;omega⟩
theorem RF{α:Type}{n:Nat}{l vs r:List α}(h:gg n l vs=some r):
 r.length=l.length/\n+vs.length<=l.length/\∀i,r[i]?=if n<=i/\i<n+vs.length then vs[i -n]? else l[i]?:=by
 induction n generalizing l r with
 |zero=>
  induction vs generalizing l r with
  |nil=>simp[gg] at h;subst h;exact⟨rfl,by simp,fun i=>by simp⟩
  |cons v vs aI=>
   cases l with
   |nil=>simp[gg] at h
   |cons a l=>
    simp only[gg] at h;cases hs:gg 0 l vs with
    |none=>rw[hs] at h;cases h
    |some dx=>
     rw[hs] at h;injection h with h;subst h
     obtain⟨aL,bk,cG⟩:=aI hs;refine⟨by simp[aL],by simp at*;omega,fun i=>?_⟩;cases i with
     |zero=>simp
     |succ i=>
      have:=cG i;simp only[yB,this];simp
 |succ n aI=>
  cases l with
  |nil=>simp[gg] at h
  |cons a l=>
   simp only[gg] at h;cases hs:gg n l vs with
   |none=>rw[hs] at h;cases h
   |some dx=>
    rw[hs] at h;injection h with h;subst h
    obtain⟨aL,bk,cG⟩:=aI hs;refine⟨by simp[aL],by simp;omega,fun i=>?_⟩;cases i with
    |zero=>simp
    |succ i=>
     have:=cG i;simp only[yB,this];have aC:(n+1<=i+1/\i+1<n+1+vs.length)↔(n<=i/\i<n+vs.length):=by omega
     simp only[aC];split
     ·rw[show i+1 -(n+1)=i -n from by omega]
     ·rfl
structure Loc where
 r:Nat
 N:Nat
 sz:Nat
abbrev bY:=Nat->Option Loc
def isAtom:Value->Bool
 |.bool _|.int _ _|.float _ _|.string _|.nilFunc|.nilIface|.pointer none|.slice none _ _|.map none=>true
 |_=>false
inductive bB (μ:bY):Value->Value->Prop
 |atom (v:Value):isAtom v=true->bB μ v v
 |ptr (id off:Nat) (L:Loc):μ id=some L->bB μ (.pointer (some ⟨id,off,none⟩)) (.pointer (some ⟨L.r,off,none⟩))
 |nU (id off len cap:Nat) (L:Loc):μ id=some L->cap<cZ->bB μ (.slice (some ⟨id,off,none⟩) len cap) (.slice (some ⟨L.r,off,none⟩) len cap)
 |pW (id off len cap:Nat) (L:Loc):μ id=some L->len<=cap->off+cap*L.sz<=L.N->bB μ (.slice (some ⟨id,off,none⟩) len cZ) (.slice (some ⟨L.r,off,none⟩) len cap)
 |wy (id off gf:Nat) (L:Loc):μ id=some L->bB μ (.slice (some ⟨id,off,none⟩) 0 cZ) (.slice (some ⟨L.r,gf,none⟩) 0 0)
 |yk (a:Addr):bB μ (.slice (some ⟨0,0,some 0⟩) 0 0) (.slice (some a) 0 0)
 |map (id:Nat) (L:Loc):μ id=some L->bB μ (.map (some id)) (.map (some L.r))
 |yr (v:Value):eM v=true->bB μ (.chan none) v
 |func (fn:Fn) (a b bV b':Array Value):x9 fn=true->a.size=bV.size->b.size=b'.size->
  (∀(i:Nat) v v',a[i]?=some v->bV[i]?=some v'->bB μ v v')->(∀(i:Nat) v v',b[i]?=some v->b'[i]?=some v'->bB μ v v')->bB μ (.func fn a b) (.func fn bV b')
 |yield (l:Nat) (L:Loc):μ l=some L->bB μ (.func (.yield l) #[] #[]) (.func (.yield L.r) #[] #[])
 |iface (t:TypeId) (v v':Value):bB μ v v'->bB μ (.iface t v) (.iface t v')
 |agg (a bV:Array Value):a.size=bV.size->(∀(i:Nat) v v',a[i]?=some v->bV[i]?=some v'->bB μ v v')->bB μ (.agg a) (.agg bV)
 |tuple (a bV:Array Value):a.size=bV.size->(∀(i:Nat) v v',a[i]?=some v->bV[i]?=some v'->bB μ v v')->bB μ (.tuple a) (.tuple bV)
def b0(μ:bY)(l l':List Value):Prop:=l.length=l'.length/\∀(i:Nat) v v',l[i]?=some v->l'[i]?=some v'->bB μ v v'
def Ext(μ bD:bY):Prop:=∀id L,μ id=some L->bD id=some L
theorem Ext.refl(μ:bY):Ext μ μ:=fun _ _ h=>h
theorem Ext.trans{a b c:bY}(h:Ext a b)(k:Ext b c):Ext a c:=fun id L x=>k id L (h id L x)
theorem bB.mono{μ bD:bY}{v v':Value}(h:bB μ v v')(e:Ext μ bD):bB bD v v':=by
 induction h with
 |atom v h=>exact .atom v h
 |ptr id off L h=>exact .ptr id off L (e _ _ h)
 |nU id off len cap L h aC=>exact .nU id off len cap L (e _ _ h) aC
 |pW id off len cap L h aC aP=>exact .pW id off len cap L (e _ _ h) aC aP
 |wy id off gf L h=>exact .wy id off gf L (e _ _ h)
 |yk a=>exact .yk a
 |map id L h=>exact .map id L (e _ _ h)
 |yr v h=>exact .yr v h
 |func fn a b bV b' ai a1 ap _ _ akj akk=>exact .func fn a b bV b' ai a1 ap akj akk
 |yield l L h=>exact .yield l L (e _ _ h)
 |iface t v v' _ aI=>exact .iface t v v' aI
 |agg a bV hs _ aI=>exact .agg a bV hs aI
 |tuple a bV hs _ aI=>exact .tuple a bV hs aI
theorem b0.mono{μ bD:bY}{l l':List Value}(h:b0 μ l l')(e:Ext μ bD):b0 bD l l':=⟨h.1,fun i v v' a b=>(h.2 i v v' a b).mono e⟩
theorem b0.nil(μ:bY):b0 μ [] []:=⟨rfl,fun i v v' h=>by simp at h⟩
theorem b0.cons{μ:bY}{v v':Value}{l l':List Value}(h:bB μ v v')(t:b0 μ l l'):b0 μ (v::l) (v'::l'):=by
 refine⟨by simp[t.1],fun i a b a1 ap=>?_⟩;cases i with
 |zero=>simp at a1 ap;subst a1;subst ap;exact h
 |succ i=>simp at a1 ap;exact t.2 i a b a1 ap
theorem b0.jP{μ:bY}{v:Value}{l m:List Value}(h:b0 μ (v::l) m):∃v' l',m=v'::l'/\bB μ v v'/\b0 μ l l':=by
 cases m with
 |nil=>have:=h.1;simp at this
 |cons v' l'=>
  refine⟨v',l',rfl,h.2 0 v v' rfl rfl,by have:=h.1;simpa using this,fun i a b a1 ap=>h.2 (i+1) a b (by simpa using a1) (by simpa using ap)⟩
theorem b0.lm{μ:bY}{m:List Value}(h:b0 μ [] m):m=[]:=by
 have:=h.1;exact q5.1 (by simpa using this.symm)
theorem b0.append{μ:bY}{l l' m m':List Value}(h:b0 μ l l')(k:b0 μ m m'):b0 μ (l++m) (l'++m'):=by
 refine⟨by simp[h.1,k.1],fun i a b a1 ap=>?_⟩;rw[SF] at a1 ap;rw[<-h.1] at ap;split at a1
 ·rename_i ao;rw[aE ao] at ap;exact h.2 i a b a1 ap
 ·rename_i ao;rw[an ao] at ap;exact k.2 _ a b a1 ap
theorem b0.take{μ:bY}{l l':List Value}(h:b0 μ l l')(n:Nat):b0 μ (l.take n) (l'.take n):=by
 refine⟨by simp[h.1],fun i a b a1 ap=>?_⟩;rw[kK] at a1 ap;split at a1
 ·rename_i ao;rw[aE ao] at ap;exact h.2 i a b a1 ap
 ·cases a1
theorem b0.drop{μ:bY}{l l':List Value}(h:b0 μ l l')(n:Nat):b0 μ (l.drop n) (l'.drop n):=by
 refine⟨by simp[h.1],fun i a b a1 ap=>?_⟩;rw[q4] at a1 ap;exact h.2 _ a b a1 ap
theorem b0.get{μ:bY}{l l':List Value}(h:b0 μ l l'){i:Nat}{v:Value}(ay:l[i]?=some v):∃v',l'[i]?=some v'/\bB μ v v':=by
 have ao:i<l.length:=by
  rcases ji i l.length with x|x
  ·exact x
  ·rw[fo x] at ay;cases ay
 have hi':i<l'.length:=h.1▸ao;exact⟨l'[i],dj hi',h.2 i v _ ay (dj hi')⟩
theorem bB.J1{μ:bY}{l l':List Value}(h:b0 μ l l'):bB μ (.agg l.toArray) (.agg l'.toArray):=
 .agg _ _ (by simp[h.1]) fun i v v' a b=>h.2 i v v' (by simpa using a) (by simpa using b)
theorem bB.RP{μ:bY}{l l':List Value}(h:b0 μ l l'):bB μ (.tuple l.toArray) (.tuple l'.toArray):=
 .tuple _ _ (by simp[h.1]) fun i v v' a b=>h.2 i v v' (by simpa using a) (by simpa using b)
theorem bB.S'{μ:bY}{a:Array Value}{v:Value}(h:bB μ (.agg a) v):∃bV,v=.agg bV/\b0 μ a.toList bV.toList:=by
 cases h with
 |atom _ h=>simp[isAtom] at h
 |agg _ bV hs aw=>exact⟨bV,rfl,by simpa using hs,fun i v v' x y=>aw i v v' (by simpa using x) (by simpa using y)⟩
theorem bB.ao2{μ:bY}{a:Array Value}{v:Value}(h:bB μ (.tuple a) v):∃bV,v=.tuple bV/\b0 μ a.toList bV.toList:=by
 cases h with
 |atom _ h=>simp[isAtom] at h
 |tuple _ bV hs aw=>exact⟨bV,rfl,by simpa using hs,fun i v v' x y=>aw i v v' (by simpa using x) (by simpa using y)⟩
theorem bB.undef(μ:bY):bB μ undef undef:=.tuple _ _ rfl fun i v v' h=>by simp at h
theorem bB.alN{μ:bY}:∀{n:Nat} {v:Value},iF n v=true->bB μ v v:=by
 intro n;induction n with
 |zero=>intro v h;simp[iF] at h
 |succ n aI=>
  intro v h;cases v with
  |bool b=>exact .atom _ rfl
  |int k n=>exact .atom _ rfl
  |float k b=>exact .atom _ rfl
  |complex k a b=>simp[iF] at h
  |string s=>exact .atom _ rfl
  |pointer a=>cases a with
   |none=>exact .atom _ rfl
   |some a=>simp[iF] at h
  |slice a l c=>cases a with
   |none=>exact .atom _ rfl
   |some a=>simp[iF] at h
  |map r=>cases r with
   |none=>exact .atom _ rfl
   |some a=>simp[iF] at h
  |chan r=>simp[iF] at h
  |func fn a b=>
   cases fn with
   |func f=>
    simp[iF] at h;obtain⟨rfl,rfl⟩:=h;exact .func _ _ _ _ _ rfl rfl rfl (fun i v v' h=>by simp at h) (fun i v v' h=>by simp at h)
   |_=>simp[iF] at h
  |nilFunc=>exact .atom _ rfl
  |iface t v=>simp only[iF] at h;exact .iface _ _ _ (aI h)
  |nilIface=>exact .atom _ rfl
  |agg cs=>
   simp only[iF,tk] at h;exact .agg _ _ rfl fun i v v' a b=>by
    rw[a] at b;injection b with b;subst b
    exact aI (h v (Fv.2 (Jv a)))
  |tuple cs=>
   simp only[iF,tk] at h;exact .tuple _ _ rfl fun i v v' a b=>by
    rw[a] at b;injection b with b;subst b
    exact aI (h v (Fv.2 (Jv a)))
theorem Tk{a b:Array Value}(hs:a.size=b.size)(h:∀(i:Nat) v v',a[i]?=some v->b[i]?=some v'->v'=v):b=a:=by
 apply Array.ext hs.symm
 intro i aa ae;exact h i a[i] b[i] (CT ae) (CT aa)
theorem bB.Cj{μ:bY}:∀{n:Nat} {v v':Value},iF n v=true->bB μ v v'->v'=v:=by
 intro n;induction n with
 |zero=>intro v v' h;simp[iF] at h
 |succ n aI=>
  intro v v' h aw;cases aw with
  |atom _ _=>rfl
  |ptr=>simp[iF] at h
  |nU=>simp[iF] at h
  |pW=>simp[iF] at h
  |wy=>simp[iF] at h
  |yk=>simp[iF] at h
  |map=>simp[iF] at h
  |yr=>simp[iF] at h
  |func fn a b bV b' ai a1 ap vX vY=>
   cases fn with
   |func f=>
    simp[iF] at h;obtain⟨rfl,rfl⟩:=h;have aL:bV=#[]:=aaM (by simpa using a1.symm);have bk:b'=#[]:=aaM (by simpa using ap.symm);rw[aL,bk]
   |_=>simp[iF] at h
  |yield=>simp[iF] at h
  |iface t v v' ay=>simp only[iF] at h;rw[aI h ay]
  |agg a bV hs ay=>
   simp only[iF,tk] at h;rw[Tk hs fun i v v' x y=>aI (h v (Fv.2 (Jv x))) (ay i v v' x y)]
  |tuple a bV hs ay=>
   simp only[iF,tk] at h;rw[Tk hs fun i v v' x y=>aI (h v (Fv.2 (Jv x))) (ay i v v' x y)]
theorem bB.cells{μ:bY}{v v':Value}(h:bB μ v v'):b0 μ v.cells.toList v'.cells.toList:=by
 cases h with
 |agg a bV hs ay=>exact⟨by simpa[Value.cells] using hs,fun i v v' x y=>ay i v v' (by simpa[Value.cells] using x) (by simpa[Value.cells] using y)⟩
 |atom v h=>cases v<;>first|(simp[isAtom] at h;done)|exact b0.cons (.atom _ h) (b0.nil _)
 |ptr id off L h=>exact b0.cons (.ptr id off L h) (b0.nil _)
 |nU id off len cap L h aC=>exact b0.cons (.nU id off len cap L h aC) (b0.nil _)
 |pW id off len cap L h aC aP=>exact b0.cons (.pW id off len cap L h aC aP) (b0.nil _)
 |wy id off gf L h=>exact b0.cons (.wy id off gf L h) (b0.nil _)
 |yk a=>exact b0.cons (.yk a) (b0.nil _)
 |map id L h=>exact b0.cons (.map id L h) (b0.nil _)
 |yr _ h=>cases v'<;>first|(simp[eM] at h;done)|exact b0.cons (.yr _ h) (b0.nil _)
 |func fn a b bV b' ai a1 ap vX vY=>exact b0.cons (.func fn a b bV b' ai a1 ap vX vY) (b0.nil _)
 |yield l L h=>exact b0.cons (.yield l L h) (b0.nil _)
 |iface t v v' ay=>exact b0.cons (.iface t v v' ay) (b0.nil _)
 |tuple a bV hs ay=>exact b0.cons (.tuple a bV hs ay) (b0.nil _)
theorem bB.eM{μ:bY}{v v':Value}(h:bB μ v v'):eM v'=eM v:=by
 cases h<;>first|rfl|assumption
end
end Go.Cre

/- A part of the proof of TableClose. -/
import Derived.Test.YtpahonhejmlnpaaGreatDoorCab
set_option linter.unusedVariables false
set_option linter.unusedSimpArgs false
namespace Go.Cre
noncomputable section
def ym:Op->Bool
 |.store ..|.mapUpdate ..|.insert ..|.mapEntry ..|.entryStore ..|.next ..|.go _|.defer _|.panic _|.send ..|.recv ..|.select ..|.ready _=>true
 |.call {callee:=.builtin b,..}=>match b with|.len|.cap|.min|.max=>false|_=>true
 |.call _=>true
 |_=>false
def um:Op->Bool
 |.alloc _|.box ..|.buildSlice ..|.makeMap ..|.makeSlice ..=>true
 |_=>false
def looks (ops:List Oper)(o:Oper):List Tmp:=
 (o.op.operands.toList.filterMap fun|.tmp t=>some t|_=>none)++
 (match o.guard with
  |some (g,_)=>(match nth ops g with|some p=>p.dst.toList|none=>[])
  |none=>[])
def xj:List Edge->Nat
 |[]=>0
 |e::l=>bif Region.binds .any e then Nat.lor (Nat.pow 2 e.on) (xj l) else xj l
def Oper.hi (o:Oper):Nat:=xj o.after.toList
def sub (a b:Nat):Bool:=Nat.beq (Nat.land a b) a
def IP (ops:List Oper)(a b:Oper):Bool:=match a.dst with|some d=>(looks ops b).any (Nat.beq d)|none=>false
def LS (ops:List Oper)(i:Nat)(a:Oper):List Oper->Bool
 |[]=>false
 |b::l=>(IP ops a b&&!Nat.testBit (Oper.hi b) i)||LS ops i a l
def xb (ops:List Oper):List Oper->Nat->Nat
 |[],_=>0
 |o::l,i=>Nat.lor (bif ym o.op||LS ops i o ops then Nat.pow 2 i else 0) (xb ops l (i+1))
def tC:List Oper->Nat->Nat
 |[],_=>0
 |o::l,i=>Nat.lor (bif um o.op then Nat.pow 2 i else 0) (tC l (i+1))
inductive hT where
 |val (i:Nat)
 |iL (i:Nat)
 |bA (i:Nat)
 |b2 (l:List Nat)
def Eu (ok:Nat->Bool)(C:Nat):List Oper->Nat->Option Nat
 |[],_=>none
 |o::l,i=>bif !Nat.testBit C i&&ok i&&sub (Oper.hi o) C then some i else Eu ok C l (i+1)
def q8 (ops:List Oper):Nat->Nat->Nat
 |0,K=>K
 |n+1,K=>q8 ops n (bif Nat.testBit K n then(match nth ops n with|some o=>Nat.lor K (Oper.hi o)|none=>K) else K)
def bitsOf (m:Nat):Nat->List Nat
 |0=>[]
 |n+1=>bif Nat.testBit m n then n::bitsOf m n else bitsOf m n
def wa:List Nat->Nat
 |[]=>0
 |i::l=>Nat.lor (Nat.pow 2 i) (wa l)
def yv (ops:List Oper)(cf dv:Nat):Nat->Nat->Nat->Nat->List hT
 |0,_,_,_=>[]
 |n+1,C,K,G=>
  match Eu (fun i=>!Nat.testBit cf i&&Nat.testBit dv i) C ops 0 with
  |some i=>.iL i::yv ops cf dv n (Nat.lor C (Nat.pow 2 i)) K (Nat.lor (Nat.land G dv) (Nat.pow 2 i))
  |none=>match Eu (fun i=>!Nat.testBit cf i&&!Nat.testBit dv i) C ops 0 with
   |some i=>.val i::yv ops cf dv n (Nat.lor C (Nat.pow 2 i)) K (Nat.lor G (Nat.pow 2 i))
   |none=>match bitsOf (Nat.xor C (Nat.land C (Nat.lor K G))) ops.length with
    |i::l=>.b2 (i::l)::yv ops cf dv n C K (Nat.lor G (wa (i::l)))
    |[]=>match Eu (Nat.testBit cf) C ops 0 with
     |some i=>.bA i::yv ops cf dv n (Nat.lor C (Nat.pow 2 i)) (q8 ops ops.length (Nat.lor K (Nat.pow 2 i))) (Nat.land G dv)
     |none=>[]
def only(C i:Nat):List Oper->Nat->Bool
 |[],_=>true
 |o::l,k=>(Nat.testBit C k||Nat.beq k i||!sub (Oper.hi o) C)&&only C i l (k+1)
def DY (C:Nat):Nat->Bool
 |0=>true
 |n+1=>Nat.testBit C n&&DY C n
def fits (ops:List Oper)(C i:Nat):Bool:=!Nat.testBit C i&&(match nth ops i with|some o=>sub (Oper.hi o) C|none=>false)
def Cy (cf dv C:Nat):List Nat->Bool
 |[]=>true
 |i::l=>Nat.testBit C i&&!Nat.testBit dv i&&Cy cf dv C l
def lP (ops:List Oper)(cf dv:Nat):Nat->Nat->Nat->List hT->Bool
 |C,K,G,[]=>DY C ops.length&&sub C (Nat.lor K G)
 |C,K,G,.val i::l=>fits ops C i&&!Nat.testBit cf i&&!Nat.testBit dv i&&lP ops cf dv (Nat.lor C (Nat.pow 2 i)) K (Nat.lor G (Nat.pow 2 i)) l
 |C,K,G,.iL i::l=>fits ops C i&&!Nat.testBit cf i&&Nat.testBit dv i&&lP ops cf dv (Nat.lor C (Nat.pow 2 i)) K (Nat.lor (Nat.land G dv) (Nat.pow 2 i)) l
 |C,K,G,.b2 s::l=>Cy cf dv C s&&lP ops cf dv C K (Nat.lor G (wa s)) l
 |C,K,G,.bA i::l=>fits ops C i&&Nat.testBit cf i&&only C i ops 0&&sub C (Nat.lor K G)&&
  (match nth ops i with|some o=>sub (Oper.hi o) (q8 ops ops.length (Nat.lor K (Nat.pow 2 i)))&&Nat.testBit (q8 ops ops.length (Nat.lor K (Nat.pow 2 i))) i|none=>false)&&
  lP ops cf dv (Nat.lor C (Nat.pow 2 i)) (q8 ops ops.length (Nat.lor K (Nat.pow 2 i))) (Nat.land G dv) l
def QO (a b:Oper):Bool:=match a.dst,b.dst with|some d,some e=>Nat.beq d e|_,_=>false
def yF (ops:List Oper)(cf i j:Nat)(a b:Oper):Bool:=
 (Nat.beq i j||!QO a b)&&(!IP ops a b||Nat.testBit (Oper.hi b) i||(Nat.testBit cf i&&(Nat.beq i j||Nat.testBit (Oper.hi a) j)))
def Es (ops:List Oper)(cf i:Nat)(a:Oper):List Oper->Nat->Bool
 |[],_=>true
 |b::l,j=>yF ops cf i j a b&&Es ops cf i a l (j+1)
def BB (ops:List Oper)(cf:Nat):List Oper->Nat->Bool
 |[],_=>true
 |a::l,i=>Es ops cf i a ops 0&&Nat.blt (Oper.hi a) (Nat.pow 2 i)&&(Nat.testBit cf i||!ym a.op)&&BB ops cf l (i+1)
def zP (ops:List Oper):Bool:=
 BB ops (xb ops ops 0) ops 0&&lP ops (xb ops ops 0) (tC ops 0) 0 0 0 (yv ops (xb ops ops 0) (tC ops 0) (3*ops.length+3) 0 0 0)
def gP (f:Value->Value->Bool):List Value->List Value->Bool
 |[],[]=>true
 |x::l,y::m=>f x y&&gP f l m
 |_,_=>false
def addrEq:Option Addr->Option Addr->Bool
 |none,none=>true
 |some ⟨a,b,none⟩,some ⟨c,d,none⟩=>Nat.beq a c&&Nat.beq b d
 |some ⟨0,0,some 0⟩,some ⟨0,0,some 0⟩=>true
 |_,_=>false
def PB:Option Nat->Option Nat->Bool
 |none,none=>true
 |some a,some b=>Nat.beq a b
 |_,_=>false
def L9:Bool->Bool->Bool
 |true,true=>true
 |false,false=>true
 |_,_=>false
def MZ:Fn->Fn->Bool
 |.func f,.func g=>Nat.beq f g
 |_,_=>false
def c4:Nat->Value->Value->Bool
 |0,_,_=>false
 |n+1,a,b=>match a,b with
  |.bool a,.bool b=>L9 a b
  |.int k a,.int l b=>jR k l&&lI a b
  |.string a,.string b=>decide (a.data.toList=b.data.toList)
  |.pointer a,.pointer b=>addrEq a b
  |.slice a l c,.slice b m d=>addrEq a b&&Nat.beq l m&&Nat.beq c d
  |.map a,.map b=>PB a b
  |.nilFunc,.nilFunc=>true
  |.nilIface,.nilIface=>true
  |.iface t v,.iface u w=>Nat.beq t u&&c4 n v w
  |.agg a,.agg b=>gP (c4 n) a.toList b.toList
  |.tuple a,.tuple b=>gP (c4 n) a.toList b.toList
  |.func f a b,.func g c d=>MZ f g&&gP (c4 n) a.toList c.toList&&gP (c4 n) b.toList d.toList
  |_,_=>false
inductive hp where
 |ptr
 |wG (len cap:Nat)
 |map
def hp.at (id:Nat):hp->Value
 |.ptr=>.pointer (some ⟨id,0,none⟩)
 |.wG l c=>.slice (some ⟨id,0,none⟩) l c
 |.map=>.map (some id)
def nI (T:aQ Value)(x:Operand):Option Value:=
 Operand.rec (motive:=fun _=>Option Value) (fun t=>T.get t) Jo (fun _=>none) (fun f=>some (.func (.func f) #[] #[])) x
def pu (T:aQ Value):List (Nat×Operand)->Option (List (Nat×Value))
 |[]=>some []
 |(i,x)::l=>match nI T x with
  |some v=>match pu T l with|some r=>some ((i,v)::r)|none=>none
  |none=>none
def u7 (elem:TypeId)(v:Value):Option (eF×hp):=
 bif v.cells.toList.all ev then some (.row v.cells.toList elem false 0 0 false,.ptr) else none
def zs (P:Program)(t:TypeId)(l c:Value):Option (eF×hp):=
 match l,c,P.underlying t with
 |.int _ l,.int _ c,some (.slice elem)=>
  match fG P elem,q6 P elem,ea P elem with
  |some z,some gq,some sz=>
   match nC c 1000000,nC l 1000000 with
   |some c,some l=>
    bif Nat.ble l c&&Nat.ble gq 1000000&&Nat.beq z.cells.toList.length sz&&z.cells.toList.all ev&&plain z then
     some (.row (eN z.cells.toList c) elem false 0 0 false,.wG l c)
    else none
   |_,_=>none
  |_,_,_=>none
 |_,_,_=>none
def zr (P:Program)(t:TypeId)(len:Nat)(parts:List (Nat×Value)):Option (eF×hp):=
 match P.underlying t with
 |some (.slice elem)=>match ea P elem,fG P elem with
  |some sz,some z=>
   bif Nat.ble len 100000&&Nat.ble (len*sz) 100000&&plain z&&Nat.beq z.cells.toList.length sz then
    match lc (fun i=>some (i*sz,sz)) (eN z.cells.toList len) parts with
    |some cells=>bif cells.all ev then some (.row cells elem false 0 0 false,.wG len len) else none
    |none=>none
   else none
  |_,_=>none
 |_=>none
def A8 (P:Program)(t:TypeId)(r:Operand):Option (eF×hp):=
 match r with
 |.const (.int .i64 (.ofNat 0))=>(match P.underlying t with|some (.map _ _)=>some (eF.dead,hp.map)|_=>none)
 |_=>none
def k' (P:Program)(T:aQ Value):Op->Option (eF×hp)
 |.alloc elem=>(match fG P elem with|some z=>bif plain z then u7 elem z else none|none=>none)
 |.box elem x=>(match nI T x with|some v=>u7 elem v|none=>none)
 |.buildSlice t len parts=>(match pu T parts.toList with|some ps=>zr P t len ps|none=>none)
 |.makeMap _ none=>some (.map [] 0,.map)
 |.makeMap t (some r)=>A8 P t r
 |.makeSlice t l c=>(match nI T l,nI T c with|some l,some c=>zs P t l c|_,_=>none)
 |_=>none
abbrev nO:=aT->ai->Option c6
def m7 (k:nO)(H:ai)(S:Option aT):Option c6:=Option.rec (motive:=fun _=>Option c6) none (fun S=>k S H) S
def yX (S:aT)(H:ai)(dst:Option Tmp)(k:nO):Option cv->Option c6
 |some (.val v H')=>bif Nat.beq H'.ax H.ax then m7 k H (S.put dst v) else none
 |_=>none
def RC (P:Program)(call:ed)(aE:fX)(S:aT)(H:ai)(o:Oper)(k:nO)(b:Bool):Option c6:=
 Bool.rec (motive:=fun _=>Option c6) (m7 k H (S.put o.dst undef)) (yX S H o.dst k (ct P call aE S H o)) b
def kH (P:Program)(call:ed)(aE:fX)(ops:List Oper)(S:aT)(H:ai)(k:nO)(o:Oper):Option c6:=
 Option.rec (motive:=fun _=>Option c6) none (RC P call aE S H o k) (eZ ops S.T o)
def FL (S:aT)(dst:Option Tmp)(k:nO)(dN:hp):Option (Nat×ai)->Option c6
 |some (a,H)=>m7 k H (S.put dst (dN.at a))
 |none=>none
def FK (S:aT)(H:ai)(dst:Option Tmp)(k:nO):Option (eF×hp)->Option c6
 |some (b,dN)=>FL S dst k dN (H.new b)
 |none=>none
def LP (P:Program)(S:aT)(H:ai)(o:Oper)(k:nO)(b:Bool):Option c6:=
 Bool.rec (motive:=fun _=>Option c6) (m7 k H (S.put o.dst undef)) (FK S H o.dst k (k' P S.T o.op)) b
def zq (P:Program)(ops:List Oper)(S:aT)(H:ai)(k:nO)(o:Oper):Option c6:=
 Option.rec (motive:=fun _=>Option c6) none (LP P S H o k) (eZ ops S.T o)
def j7 (k:nO):Option c6->Option c6
 |some (.ok S H)=>k S H
 |_=>none
def CG (ax:Nat)(T:aQ Value)(dst:Option Tmp):Option cv->Bool
 |some (.val v H')=>Nat.beq H'.ax ax&&(match dst with
  |none=>true
  |some d=>(match T.get d with|some u=>c4 8 v u|none=>false))
 |_=>false
def CF (P:Program)(call:ed)(aE:fX)(ops:List Oper)(S:aT)(H:ai)(o:Oper):Option Bool->Bool
 |some true=>CG H.ax S.T o.dst (ct P call aE S H o)
 |some false=>true
 |none=>false
def sr (P:Program)(call:ed)(aE:fX)(ops:List Oper)(S:aT)(H:ai)(i:Nat):Bool:=
 match nth ops i with
 |some o=>CF P call aE ops S H o (eZ ops S.T o)
 |none=>false
def iv (ops:List Oper)(i:Nat)(f:Oper->Option c6):Option c6:=Option.rec (motive:=fun _=>Option c6) none f (nth ops i)
def zG (P:Program)(call:ed)(aE:fX)(ops:List Oper)(S:aT)(H:ai)(k:nO)(l:List Nat):Option c6:=
 bif l.all (sr P call aE ops S H) then k S H else none
def Mu (P:Program)(call:ed)(aE:fX)(ops:List Oper)(k:nO)(S:aT)(H:ai)(s:hT):Option c6:=
 hT.rec (motive:=fun _=>Option c6) (fun i=>iv ops i (kH P call aE ops S H k)) (fun i=>iv ops i (zq P ops S H k)) (fun i=>iv ops i fun o=>j7 k (one P call aE ops S H o)) (zG P call aE ops S H k) s
def dy (P:Program)(call:ed)(aE:fX)(ops:List Oper)(l:List hT):nO:=
 List.rec (motive:=fun _=>nO) (fun S H=>some (.ok S H)) (fun s _ k S H=>Mu P call aE ops k S H s) l
def Ew (ops:List Oper):List hT:=yv ops (xb ops ops 0) (tC ops 0) (3*ops.length+3) 0 0 0
def vu (P:Program)(call:ed)(aE:fX)(ops:List Oper)(S:aT)(H:ai):Option c6:=
 bif zP ops then dy P call aE ops (Ew ops) S H else none
def U9 (t:Nat):Option Tmp->Bool
 |some u=>Nat.beq u t
 |none=>false
structure Lit where
 t:Nat
 m:Nat
 dK:TypeId
 n:Nat
def Pe:List Oper->Option (Nat×TypeId)
 |[]=>none
 |o::l=>match o.op with
  |.insert dK (.tmp t) _ _=>some (t,dK)
  |_=>Pe l
def Pc (t:Nat):List Oper->Nat->Nat
 |[],i=>i
 |o::l,i=>bif U9 t o.dst then i else Pc t l (Nat.succ i)
def IK:List Oper->Nat->Nat->Nat
 |[],_,n=>n
 |o::l,i,n=>match o.op with
  |.insert _ _ _ _=>IK l (Nat.succ i) (Nat.succ i)
  |_=>IK l (Nat.succ i) n
def D6 (ops:List Oper):Option Lit:=match Pe ops with
 |some (t,dK)=>some ⟨t,Pc t ops 0,dK,IK ops 0 0⟩
 |none=>none
def tO (P:Program)(call:ed)(aE:fX)(ops:List Oper)(S:aT)(H:ai):Option c6:=
 Option.rec (motive:=fun _=>Option c6) (vu P call aE ops S H) (fun _=>none) (D6 ops)
structure eT where
 code:Code->aT->ai->Option (Exit×aT×ai)
 body:FuncId->List Value->Bool->FrameMode->ai->Option (Ending×FrameMode×ai)
def eT.call (E:eT):ed:=fun f args H=>match E.body f args false .run H with
 |some (e,_,H)=>some (e,H)
 |none=>none
def qw:aQ Value->List Tmp->List Value->Option (aQ Value)
 |T,[],[]=>some T
 |T,t::e1,v::vs=>match T.set yQ t v with|some T=>qw T e1 vs|none=>none
 |_,_,_=>none
def q3 (n:Nat):List Nat->Bool
 |[]=>true
 |x::l=>Nat.blt x n&&q3 n l
def yp:Exit->Option (Option Code)
 |.normal=>some none
 |.ret=>some (some .ret)
 |.exit id=>some (some (.exit id))
 |_=>none
def afc (j:Option Code):Option ai->Option (Ending×ai)
 |some H=>some (.returned (.bool j.isNone),H)
 |none=>none
def wS (H:ai)(l:Nat)(j:Option Code):Option (Ending×ai):=
 match H.mem.get l with
 |some (.loop r)=>afc j (H.upd l (.loop {r with state:=if j.isNone then .ready else .done,pending:=j}))
 |_=>none
def Kx (l:Nat):Option (Exit×aT×ai)->Option (Ending×ai)
 |some (e,_,H)=>(match yp e with
  |some j=>wS H l j
  |none=>none)
 |none=>none
def afb (E:eT)(l:Nat)(body:Code)(S:aT):Option ai->Option (Ending×ai)
 |some H=>Kx l (E.code body S H)
 |none=>none
def B1 (E:eT)(l:Nat)(body:Code)(S:aT)(H:ai):Option (Ending×ai):=
 match H.mem.get l with
 |some (.loop r)=>(match r.state with
  |.ready=>afb E l body S (H.upd l (.loop {r with state:=.busy}))
  |_=>none)
 |_=>none
def Kw (E:eT)(l:Nat)(body:Code):Option (Exit×aT×ai)->Option (Ending×ai)
 |some (.normal,S,H)=>B1 E l body S H
 |_=>none
def R6 (E:eT)(l:Nat)(r:mm)(H:ai):Option (aQ Value)->Option (Ending×ai)
 |some T=>Kw E l r.body (E.code r.assign ⟨T,r.n,[],false,.run,some l⟩ H)
 |none=>none
def eT.aE (E:eT):fX:=fun l args H=>
 match H.mem.get l with
 |some (.loop r)=>bif Nat.ble H.bp l&&q3 r.n r.params then R6 E l r H (qw r.T r.params args) else none
 |_=>none
def qB:Option c6->Option (Exit×aT×ai)
 |some (.ok S H)=>some (.normal,S,H)
 |some (.h9 chain S H)=>some (.panic chain,S,H)
 |none=>none
def BI (S:aT)(H:ai):Option (Nat×List Deferred×ai):=
 match S.b8 with
 |some l=>(match H.mem.get l with|some (.loop r)=>some (r.ft,S.ds,H)|_=>none)
 |none=>(match H.new (.ft (some [])) with|some (r,H)=>some (r,{target:=.collected r,args:=#[]}::S.ds,H)|none=>none)
def JC (S:aT):Option Code->ai->Option (Exit×aT×ai)
 |none,H=>some (.normal,S,H)
 |some .ret,H=>some (.ret,S,H)
 |some (.exit id),H=>some (.exit id,S,H)
 |some _,_=>none
def BH (S:aT)(l:Nat)(H:ai):Option (Exit×aT×ai):=
 match H.mem.get l with
 |some (.loop r)=>(match r.state with
  |.busy=>none
  |_=>(match H.upd l (.loop {r with state:=.exhausted}) with
   |none=>none
   |some H=>JC S r.pending H))
 |_=>none
def JB (S:aT)(l:Nat):Option (Ending×FrameMode×ai)->Option (Exit×aT×ai)
 |some (.returned _,_,H)=>BH S l H
 |some (.panicked chain,_,H)=>some (.panic chain,S,H)
 |_=>none
def Qt (P:Program)(E:eT)(S:aT)(l:Nat)(H:ai):Option Value->Option (Exit×aT×ai)
 |some (.func fn first captured)=>(match j9 P H fn (first.toList++[.func (.yield l) #[] #[]]) captured.toList with
  |none=>none
  |some (g,cl)=>JB S l (E.body g cl false .run H))
 |_=>none
def xp (P:Program)(E:eT)(f:Operand)(params:Array Tmp)(assign body:Code)(S:aT)(H:ai):Option (Exit×aT×ai):=
 match BI S H with
 |none=>none
 |some (d,ds,H)=>
  match H.new (.loop {state:=.ready,pending:=none,T:=S.T,n:=S.n,params:=params.toList,assign,body,ft:=d}) with
  |none=>none
  |some (l,H)=>Qt P E {S with ds:=ds} l H (aW S.T H f)
def zC (E:eT)(b:Code):Option (Exit×aT×ai)->Option (Exit×aT×ai)
 |some (.normal,S,H)=>E.code b S H
 |r=>r
def T0 (E:eT)(S:aT)(H:ai)(a b:Code):Option (Exit×aT×ai):=zC E b (E.code a S H)
def CD (E:eT)(S:aT)(H:ai)(x y:Code):Option Value->Option (Exit×aT×ai)
 |some (.bool true)=>E.code x S H
 |some (.bool false)=>E.code y S H
 |_=>none
def TR (E:eT)(S:aT)(H:ai)(c:Operand)(x y:Code):Option (Exit×aT×ai):=CD E S H x y (aW S.T H c)
def Ga (id:Nat):Option (Exit×aT×ai)->Option (Exit×aT×ai)
 |some (.exit kg,S,H)=>bif Nat.beq kg id then some (.normal,S,H) else some (.exit kg,S,H)
 |r=>r
def TQ (E:eT)(S:aT)(H:ai)(id:Nat)(c:Code):Option (Exit×aT×ai):=Ga id (E.code c S H)
def TT (E:eT)(S:aT)(H:ai)(c:Code):Option (Exit×aT×ai):=zC E (.loop c) (E.code c S H)
def Mg:Option (Exit×aT×ai)->Option (Exit×aT×ai)
 |some (.goto _,_,_)=>none
 |r=>r
def TZ (E:eT)(S:aT)(H:ai)(c:Code):Option (Exit×aT×ai):=Mg (E.code c S H)
def TY (P:Program)(E:eT)(S:aT)(H:ai)(_:Nat)(ops:Array Oper):Bool->Option (Exit×aT×ai)
 |false=>qB (xo P E.call E.aE ops.toList ops.toList S H)
 |true=>qB (tO P E.call E.aE ops.toList S H)
def TX (P:Program)(E:eT)(S:aT)(H:ai)(f:Operand)(params:Array Tmp)(assign body:Code):Option (Exit×aT×ai):=xp P E f params assign body S H
def TS (S:aT)(H:ai)(id:Nat):Option (Exit×aT×ai):=some (.exit id,S,H)
def Mf.{u} {a:Sort u} (_:a):Option (Exit×aT×ai):=none
def TU (S:aT)(H:ai)(_:Nat):Option (Exit×aT×ai):=some (.normal,S,H)
def CQ (P:Program)(E:eT)(c:Code)(S:aT)(H:ai):Option (Exit×aT×ai):=
 Code.casesOn (motive:=fun _=>Option (Exit×aT×ai)) c
  (some (.normal,S,H)) (TY P E S H) (T0 E S H) (TR E S H) (TQ E S H) (TT E S H) (TX P E S H) (TS S H) (TZ E S H) (TU S H) Mf (some (.ret,S,H)) Mf
def ns (P:Program)(T:aQ Value)(H:ai):List ResultVar->Option (List Value)
 |[]=>some []
 |.tmp t::l=>(match T.get t with
  |some v=>(match ns P T H l with|some r=>some (v::r)|none=>none)
  |none=>none)
 |.cell a t::l=>(match T.get a with
  |some p=>(match vw P H t p with
   |some v=>(match ns P T H l with|some r=>some (v::r)|none=>none)
   |none=>none)
  |none=>none)
def oz:List Value->Value
 |[v]=>v
 |vs=>.tuple vs.toArray
def A0:FrameMode->Bool
 |.run=>true
 |_=>false
def gl (P:Program)(E:eT)(fn:Func)(T:aQ Value):List Deferred->FrameMode->ai->Option (Ending×ai)
 |[],.returning,H=>match ns P T H fn.results.toList with
  |some vs=>some (.returned (oz vs),H)
  |none=>none
 |[],.panicking chain,H=>some (.panicked chain,H)
 |[],.run,_=>none
 |d::ds,u,H=>bif A0 u then none else match d.target with
  |.fn jd cap=>match j9 P H jd d.args.toList cap.toList with
   |none=>none
   |some (f,args)=>match E.body f args true u H with
    |some (.returned _,u,H)=>gl P E fn T ds (settle u) H
    |some (.panicked chain,u,H)=>gl P E fn T ds (raised u chain) H
    |_=>none
  |.collected r=>match H.mem.get r with
   |some (.ft (some []))=>bif Nat.ble H.bp r then(match H.upd r (.ft none) with
    |some H=>gl P E fn T ds u H
    |none=>none) else none
   |_=>none
  |_=>none
def GH (n:Nat):Nat:=Nat.succ (Nat.log2 (Nat.succ n))
def blank (n:Nat):aQ Value:=aQ.full undef (GH n)
def lA:List Value->Nat->aQ Value->Option (aQ Value)
 |[],_,T=>some T
 |v::l,i,T=>match T.set yQ i v with|some T=>lA l (Nat.succ i) T|none=>none
def MW (e:TypeId)(n:Nat)(H:ai):Option (Ending×ai):=
 match H.lM [] e false with
 |some (id,H)=>some (.returned (.slice (some ⟨id,0,none⟩) n cu),H)
 |none=>none
def GF (P:Program)(fn:Func)(H:ai):List Value->List TypeId->Option (Ending×ai)
 |[.int .i64 (.ofNat n)],[t]=>bif decide (fn.name= "internal/bytealg.MakeNoZero")&&decide (fn.origin= "")&&Nat.ble n 1000000 then
  (match P.underlying t with
  |some (.slice e)=>bif Nat.beq (P.cellsOf e) 1 then MW e n H else none
  |_=>none)
  else none
 |_,_=>none
def GG (P:Program)(fn:Func)(args:List Value)(H:ai):Option Next->Option (Ending×ai)
 |some (.value v)=>bif plain v then some (.returned v,H) else none
 |_=>GF P fn H args fn.resultTypes.toList
def MX (fn:Func)(H:ai):List Value->Option (Ending×ai)
 |[v]=>bif decide (fn.name= "internal/abi.NoEscape")&&decide (fn.origin= "") then some (.returned v,H) else none
 |_=>none
def vv (P:Program)(fn:Func)(f:FuncId)(args:List Value)(H:ai):Option (Ending×ai):=
 bif args.all plain then GG P fn args H (eJ P (callFunc f args.toArray)) else MX fn H args
def nk (bf:FrameMode):Option (Ending×ai)->Option (Ending×FrameMode×ai)
 |some (e,H)=>some (e,bf,H)
 |none=>none
def so (P:Program)(E:eT)(fn:Func):Option (Exit×aT×ai)->Option (Ending×FrameMode×ai)
 |some (.normal,S,H)=>nk S.bf (gl P E fn S.T S.ds .returning H)
 |some (.ret,S,H)=>nk S.bf (gl P E fn S.T S.ds .returning H)
 |some (.panic chain,S,H)=>nk S.bf (gl P E fn S.T S.ds (.panicking chain) H)
 |_=>none
def zv (P:Program)(E:eT)(fn:Func)(c:Code)(bB:Bool)(bf:FrameMode)(H:ai):Option (aQ Value)->Option (Ending×FrameMode×ai)
 |some T=>so P E fn (E.code c ⟨T,fn.ntmps,[],bB,bf,none⟩ H)
 |none=>none
def zu (P:Program)(E:eT)(f:FuncId)(fn:Func)(args:List Value)(bB:Bool)(bf:FrameMode)(H:ai):Option Code->Option (Ending×FrameMode×ai)
 |some c=>zv P E fn c bB bf H (lA args 0 (blank fn.ntmps))
 |none=>bif bB then none else nk bf (vv P fn f args H)
def oZ (P:Program)(eK:aQ Func)(E:eT)(f:FuncId)(args:List Value)(bB:Bool)(bf:FrameMode)(H:ai):Option (Ending×FrameMode×ai):=
 match eK.get f with
 |none=>none
 |some fn=>zu P E f fn args bB bf H fn.body
def ri (P:Program)(eK:aQ Func)(n:Nat):eT:=
 Nat.rec (motive:=fun _=>eT) ⟨fun _ _ _=>none,fun _ _ _ _ _=>none⟩ (fun _ E=>⟨CQ P E,oZ P eK E⟩) n
def tl {α:Type}:List α->Nat->aQ α->Option (aQ α)
 |[],_,T=>some T
 |v::l,i,T=>match T.set yQ i v with|some T=>tl l (Nat.succ i) T|none=>none
end
end Go.Cre

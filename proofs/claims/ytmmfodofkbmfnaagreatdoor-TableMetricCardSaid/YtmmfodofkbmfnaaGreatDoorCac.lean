/- A part of the proof of TableMetric. -/
import Derived.Test.YtmmfodofkbmfnaaGreatDoorCab
set_option linter.unusedVariables false
set_option linter.unusedSimpArgs false
namespace Go.Cre
noncomputable section
def wA:Op->Bool
 |.store ..|.mapUpdate ..|.insert ..|.mapEntry ..|.entryStore ..|.next ..|.go _|.defer _|.panic _|.send ..|.recv ..|.select ..|.ready _=>true
 |.call {callee:=.builtin b,..}=>match b with|.len|.cap|.min|.max=>false|_=>true
 |.call _=>true
 |_=>false
def sr:Op->Bool
 |.alloc _|.box ..|.buildSlice ..|.makeMap ..|.makeSlice ..=>true
 |_=>false
def looks (ops:List Oper)(o:Oper):List Tmp:=
 (o.op.operands.toList.filterMap fun|.tmp t=>some t|_=>none)++
 (match o.guard with
  |some (g,_)=>(match nth ops g with|some p=>p.dst.toList|none=>[])
  |none=>[])
def vt:List Edge->Nat
 |[]=>0
 |e::l=>bif Region.binds .any e then Nat.lor (Nat.pow 2 e.on) (vt l) else vt l
def Oper.gK (o:Oper):Nat:=vt o.after.toList
def sub (a b:Nat):Bool:=Nat.beq (Nat.land a b) a
def F7 (ops:List Oper)(a b:Oper):Bool:=match a.dst with|some d=>(looks ops b).any (Nat.beq d)|none=>false
def ID (ops:List Oper)(i:Nat)(a:Oper):List Oper->Bool
 |[]=>false
 |b::l=>(F7 ops a b&&!Nat.testBit (Oper.gK b) i)||ID ops i a l
def vk (ops:List Oper):List Oper->Nat->Nat
 |[],_=>0
 |o::l,i=>Nat.lor (bif wA o.op||ID ops i o ops then Nat.pow 2 i else 0) (vk ops l (i+1))
def rN:List Oper->Nat->Nat
 |[],_=>0
 |o::l,i=>Nat.lor (bif sr o.op then Nat.pow 2 i else 0) (rN l (i+1))
inductive g9 where
 |val (i:Nat)
 |kF (i:Nat)
 |bZ (i:Nat)
 |cq (l:List Nat)
def Ct (ok:Nat->Bool)(C:Nat):List Oper->Nat->Option Nat
 |[],_=>none
 |o::l,i=>bif !Nat.testBit C i&&ok i&&sub (Oper.gK o) C then some i else Ct ok C l (i+1)
def o9 (ops:List Oper):Nat->Nat->Nat
 |0,K=>K
 |n+1,K=>o9 ops n (bif Nat.testBit K n then(match nth ops n with|some o=>Nat.lor K (Oper.gK o)|none=>K) else K)
def bitsOf (m:Nat):Nat->List Nat
 |0=>[]
 |n+1=>bif Nat.testBit m n then n::bitsOf m n else bitsOf m n
def ur:List Nat->Nat
 |[]=>0
 |i::l=>Nat.lor (Nat.pow 2 i) (ur l)
def wJ (ops:List Oper)(bT c7:Nat):Nat->Nat->Nat->Nat->List g9
 |0,_,_,_=>[]
 |n+1,C,K,G=>
  match Ct (fun i=>!Nat.testBit bT i&&Nat.testBit c7 i) C ops 0 with
  |some i=>.kF i::wJ ops bT c7 n (Nat.lor C (Nat.pow 2 i)) K (Nat.lor (Nat.land G c7) (Nat.pow 2 i))
  |none=>match Ct (fun i=>!Nat.testBit bT i&&!Nat.testBit c7 i) C ops 0 with
   |some i=>.val i::wJ ops bT c7 n (Nat.lor C (Nat.pow 2 i)) K (Nat.lor G (Nat.pow 2 i))
   |none=>match bitsOf (Nat.xor C (Nat.land C (Nat.lor K G))) ops.length with
    |i::l=>.cq (i::l)::wJ ops bT c7 n C K (Nat.lor G (ur (i::l)))
    |[]=>match Ct (Nat.testBit bT) C ops 0 with
     |some i=>.bZ i::wJ ops bT c7 n (Nat.lor C (Nat.pow 2 i)) (o9 ops ops.length (Nat.lor K (Nat.pow 2 i))) (Nat.land G c7)
     |none=>[]
def only(C i:Nat):List Oper->Nat->Bool
 |[],_=>true
 |o::l,k=>(Nat.testBit C k||Nat.beq k i||!sub (Oper.gK o) C)&&only C i l (k+1)
def BX (C:Nat):Nat->Bool
 |0=>true
 |n+1=>Nat.testBit C n&&BX C n
def fits (ops:List Oper)(C i:Nat):Bool:=!Nat.testBit C i&&(match nth ops i with|some o=>sub (Oper.gK o) C|none=>false)
def AK (bT c7 C:Nat):List Nat->Bool
 |[]=>true
 |i::l=>Nat.testBit C i&&!Nat.testBit c7 i&&AK bT c7 C l
def ky (ops:List Oper)(bT c7:Nat):Nat->Nat->Nat->List g9->Bool
 |C,K,G,[]=>BX C ops.length&&sub C (Nat.lor K G)
 |C,K,G,.val i::l=>fits ops C i&&!Nat.testBit bT i&&!Nat.testBit c7 i&&ky ops bT c7 (Nat.lor C (Nat.pow 2 i)) K (Nat.lor G (Nat.pow 2 i)) l
 |C,K,G,.kF i::l=>fits ops C i&&!Nat.testBit bT i&&Nat.testBit c7 i&&ky ops bT c7 (Nat.lor C (Nat.pow 2 i)) K (Nat.lor (Nat.land G c7) (Nat.pow 2 i)) l
 |C,K,G,.cq s::l=>AK bT c7 C s&&ky ops bT c7 C K (Nat.lor G (ur s)) l
 |C,K,G,.bZ i::l=>fits ops C i&&Nat.testBit bT i&&only C i ops 0&&sub C (Nat.lor K G)&&
  (match nth ops i with|some o=>sub (Oper.gK o) (o9 ops ops.length (Nat.lor K (Nat.pow 2 i)))&&Nat.testBit (o9 ops ops.length (Nat.lor K (Nat.pow 2 i))) i|none=>false)&&
  ky ops bT c7 (Nat.lor C (Nat.pow 2 i)) (o9 ops ops.length (Nat.lor K (Nat.pow 2 i))) (Nat.land G c7) l
def M2 (a b:Oper):Bool:=match a.dst,b.dst with|some d,some e=>Nat.beq d e|_,_=>false
def wT (ops:List Oper)(bT i aa:Nat)(a b:Oper):Bool:=
 (Nat.beq i aa||!M2 a b)&&(!F7 ops a b||Nat.testBit (Oper.gK b) i||(Nat.testBit bT i&&(Nat.beq i aa||Nat.testBit (Oper.gK a) aa)))
def Cr (ops:List Oper)(bT i:Nat)(a:Oper):List Oper->Nat->Bool
 |[],_=>true
 |b::l,aa=>wT ops bT i aa a b&&Cr ops bT i a l (aa+1)
def zM (ops:List Oper)(bT:Nat):List Oper->Nat->Bool
 |[],_=>true
 |a::l,i=>Cr ops bT i a ops 0&&Nat.blt (Oper.gK a) (Nat.pow 2 i)&&(Nat.testBit bT i||!wA a.op)&&zM ops bT l (i+1)
def x6 (ops:List Oper):Bool:=
 zM ops (vk ops ops 0) ops 0&&ky ops (vk ops ops 0) (rN ops 0) 0 0 0 (wJ ops (vk ops ops 0) (rN ops 0) (3*ops.length+3) 0 0 0)
def iU (f:Value->Value->Bool):List Value->List Value->Bool
 |[],[]=>true
 |x::l,y::m=>f x y&&iU f l m
 |_,_=>false
def addrEq:Option Addr->Option Addr->Bool
 |none,none=>true
 |some ⟨a,b,none⟩,some ⟨c,d,none⟩=>Nat.beq a c&&Nat.beq b d
 |some ⟨0,0,some 0⟩,some ⟨0,0,some 0⟩=>true
 |_,_=>false
def L2:Option Nat->Option Nat->Bool
 |none,none=>true
 |some a,some b=>Nat.beq a b
 |_,_=>false
def IT:Bool->Bool->Bool
 |true,true=>true
 |false,false=>true
 |_,_=>false
def JA:Fn->Fn->Bool
 |.func f,.func g=>Nat.beq f g
 |_,_=>false
def ee:Nat->Value->Value->Bool
 |0,_,_=>false
 |n+1,a,b=>match a,b with
  |.bool a,.bool b=>IT a b
  |.int k a,.int l b=>kr k l&&lW a b
  |.string a,.string b=>decide (a.data.toList=b.data.toList)
  |.pointer a,.pointer b=>addrEq a b
  |.slice a l c,.slice b m d=>addrEq a b&&Nat.beq l m&&Nat.beq c d
  |.map a,.map b=>L2 a b
  |.nilFunc,.nilFunc=>true
  |.nilIface,.nilIface=>true
  |.iface t v,.iface u w=>Nat.beq t u&&ee n v w
  |.agg a,.agg b=>iU (ee n) a.toList b.toList
  |.tuple a,.tuple b=>iU (ee n) a.toList b.toList
  |.func f a b,.func g c d=>JA f g&&iU (ee n) a.toList c.toList&&iU (ee n) b.toList d.toList
  |_,_=>false
inductive gO where
 |ptr
 |w5 (len cap:Nat)
 |map
def gO.at (id:Nat):gO->Value
 |.ptr=>.pointer (some ⟨id,0,none⟩)
 |.w5 l c=>.slice (some ⟨id,0,none⟩) l c
 |.map=>.map (some id)
def l5 (T:aL Value)(x:Operand):Option Value:=
 Operand.rec (motive:=fun _=>Option Value) (fun t=>T.get t) GA (fun _=>none) (fun f=>some (.func (.func f) #[] #[])) x
def pT (T:aL Value):List (Nat×Operand)->Option (List (Nat×Value))
 |[]=>some []
 |(i,x)::l=>match l5 T x with
  |some v=>match pT T l with|some r=>some ((i,v)::r)|none=>none
  |none=>none
def tk (elem:TypeId)(v:Value):Option (ef×gO):=
 bif v.cells.toList.all dY then some (.row v.cells.toList elem false 0 0 false,.ptr) else none
def xK (P:Program)(t:TypeId)(l c:Value):Option (ef×gO):=
 match l,c,P.underlying t with
 |.int _ l,.int _ c,some (.slice elem)=>
  match fw P elem,o8 P elem,dD P elem with
  |some z,some fG,some sz=>
   match lY c 1000000,lY l 1000000 with
   |some c,some l=>
    bif Nat.ble l c&&Nat.ble fG 1000000&&Nat.beq z.cells.toList.length sz&&z.cells.toList.all dY&&plain z then
     some (.row (fb z.cells.toList c) elem false 0 0 false,.w5 l c)
    else none
   |_,_=>none
  |_,_,_=>none
 |_,_,_=>none
def AL (P:Program)(t:TypeId)(len:Nat)(parts:List (Nat×Value)):Option (ef×gO):=
 match P.underlying t with
 |some (.slice elem)=>match dD P elem,fw P elem with
  |some sz,some z=>
   bif Nat.ble len 100000&&Nat.ble (len*sz) 100000&&plain z&&Nat.beq z.cells.toList.length sz then
    match km (fun i=>some (i*sz,sz)) (fb z.cells.toList len) parts with
    |some cells=>bif cells.all dY then some (.row cells elem false 0 0 false,.w5 len len) else none
    |none=>none
   else none
  |_,_=>none
 |_=>none
def zn (P:Program)(t:TypeId)(r:Operand):Option (ef×gO):=
 match r with
 |.const (.int .i64 (.ofNat 0))=>(match P.underlying t with|some (.map _ _)=>some (ef.dead,gO.map)|_=>none)
 |_=>none
def kh (P:Program)(T:aL Value):Op->Option (ef×gO)
 |.alloc elem=>(match fw P elem with|some z=>bif plain z then tk elem z else none|none=>none)
 |.box elem x=>(match l5 T x with|some v=>tk elem v|none=>none)
 |.buildSlice t len parts=>(match pT T parts.toList with|some ps=>AL P t len ps|none=>none)
 |.makeMap _ none=>some (.map [] 0,.map)
 |.makeMap t (some r)=>zn P t r
 |.makeSlice t l c=>(match l5 T l,l5 T c with|some l,some c=>xK P t l c|_,_=>none)
 |_=>none
abbrev mf:=aO->ah->Option cS
def l7 (k:mf)(H:ah)(S:Option aO):Option cS:=Option.rec (motive:=fun _=>Option cS) none (fun S=>k S H) S
def xd (S:aO)(H:ah)(dst:Option Tmp)(k:mf):Option b9->Option cS
 |some (.val v H')=>bif Nat.beq H'.av H.av then l7 k H (S.put dst v) else none
 |_=>none
def NM (P:Program)(call:dI)(az:ff)(S:aO)(H:ah)(o:Oper)(k:mf)(b:Bool):Option cS:=
 Bool.rec (motive:=fun _=>Option cS) (l7 k H (S.put o.dst undef)) (xd S H o.dst k (cc P call az S H o)) b
def kA (P:Program)(call:dI)(az:ff)(ops:List Oper)(S:aO)(H:ah)(k:mf)(o:Oper):Option cS:=
 Option.rec (motive:=fun _=>Option cS) none (NM P call az S H o k) (eI ops S.T o)
def Dr (S:aO)(dst:Option Tmp)(k:mf)(dm:gO):Option (Nat×ah)->Option cS
 |some (a,H)=>l7 k H (S.put dst (dm.at a))
 |none=>none
def Dq (S:aO)(H:ah)(dst:Option Tmp)(k:mf):Option (ef×gO)->Option cS
 |some (b,dm)=>Dr S dst k dm (H.new b)
 |none=>none
def Iz (P:Program)(S:aO)(H:ah)(o:Oper)(k:mf)(b:Bool):Option cS:=
 Bool.rec (motive:=fun _=>Option cS) (l7 k H (S.put o.dst undef)) (Dq S H o.dst k (kh P S.T o.op)) b
def xI (P:Program)(ops:List Oper)(S:aO)(H:ah)(k:mf)(o:Oper):Option cS:=
 Option.rec (motive:=fun _=>Option cS) none (Iz P S H o k) (eI ops S.T o)
def j1 (k:mf):Option cS->Option cS
 |some (.ok S H)=>k S H
 |_=>none
def AV (av:Nat)(T:aL Value)(dst:Option Tmp):Option b9->Bool
 |some (.val v H')=>Nat.beq H'.av av&&(match dst with
  |none=>true
  |some d=>(match T.get d with|some u=>ee 8 v u|none=>false))
 |_=>false
def AU (P:Program)(call:dI)(az:ff)(ops:List Oper)(S:aO)(H:ah)(o:Oper):Option Bool->Bool
 |some true=>AV H.av S.T o.dst (cc P call az S H o)
 |some false=>true
 |none=>false
def qt (P:Program)(call:dI)(az:ff)(ops:List Oper)(S:aO)(H:ah)(i:Nat):Bool:=
 match nth ops i with
 |some o=>AU P call az ops S H o (eI ops S.T o)
 |none=>false
def iv (ops:List Oper)(i:Nat)(f:Oper->Option cS):Option cS:=Option.rec (motive:=fun _=>Option cS) none f (nth ops i)
def xX (P:Program)(call:dI)(az:ff)(ops:List Oper)(S:aO)(H:ah)(k:mf)(l:List Nat):Option cS:=
 bif l.all (qt P call az ops S H) then k S H else none
def I8 (P:Program)(call:dI)(az:ff)(ops:List Oper)(k:mf)(S:aO)(H:ah)(s:g9):Option cS:=
 g9.rec (motive:=fun _=>Option cS) (fun i=>iv ops i (kA P call az ops S H k)) (fun i=>iv ops i (xI P ops S H k)) (fun i=>iv ops i fun o=>j1 k (one P call az ops S H o)) (xX P call az ops S H k) s
def dt (P:Program)(call:dI)(az:ff)(ops:List Oper)(l:List g9):mf:=
 List.rec (motive:=fun _=>mf) (fun S H=>some (.ok S H)) (fun s _ k S H=>I8 P call az ops k S H s) l
def Cv (ops:List Oper):List g9:=wJ ops (vk ops ops 0) (rN ops 0) (3*ops.length+3) 0 0 0
def ty (P:Program)(call:dI)(az:ff)(ops:List Oper)(S:aO)(H:ah):Option cS:=
 bif x6 ops then dt P call az ops (Cv ops) S H else none
def Re (t:Nat):Option Tmp->Bool
 |some u=>Nat.beq u t
 |none=>false
structure Lit where
 t:Nat
 m:Nat
 dq:TypeId
 n:Nat
def LC:List Oper->Option (Nat×TypeId)
 |[]=>none
 |o::l=>match o.op with
  |.insert dq (.tmp t) _ _=>some (t,dq)
  |_=>LC l
def LA (t:Nat):List Oper->Nat->Nat
 |[],i=>i
 |o::l,i=>bif Re t o.dst then i else LA t l (Nat.succ i)
def F3:List Oper->Nat->Nat->Nat
 |[],_,n=>n
 |o::l,i,n=>match o.op with
  |.insert _ _ _ _=>F3 l (Nat.succ i) (Nat.succ i)
  |_=>F3 l (Nat.succ i) n
def B4 (ops:List Oper):Option Lit:=match LC ops with
 |some (t,dq)=>some ⟨t,LA t ops 0,dq,F3 ops 0 0⟩
 |none=>none
def rZ (P:Program)(call:dI)(az:ff)(ops:List Oper)(S:aO)(H:ah):Option cS:=
 Option.rec (motive:=fun _=>Option cS) (ty P call az ops S H) (fun _=>none) (B4 ops)
structure eC where
 code:Code->aO->ah->Option (Exit×aO×ah)
 body:FuncId->List Value->Bool->FrameMode->ah->Option (Ending×FrameMode×ah)
def eC.call (E:eC):dI:=fun f args H=>match E.body f args false .run H with
 |some (e,_,H)=>some (e,H)
 |none=>none
def sM:aL Value->List Tmp->List Value->Option (aL Value)
 |T,[],[]=>some T
 |T,t::ft,v::vs=>match T.set w7 t v with|some T=>sM T ft vs|none=>none
 |_,_,_=>none
def xJ (n:Nat):List Nat->Bool
 |[]=>true
 |x::l=>Nat.blt x n&&xJ n l
def FX:Exit->Option (Option Code)
 |.normal=>some none
 |.ret=>some (some .ret)
 |.exit id=>some (some (.exit id))
 |_=>none
def aan (aa:Option Code):Option ah->Option (Ending×ah)
 |some H=>some (.returned (.bool aa.isNone),H)
 |none=>none
def CV (H:ah)(l:Nat)(aa:Option Code):Option (Ending×ah):=
 match H.mem.get l with
 |some (.loop r)=>aan aa (H.upd l (.loop {r with state:=if aa.isNone then .ready else .done,pending:=aa}))
 |_=>none
def Om (l:Nat):Option (Exit×aO×ah)->Option (Ending×ah)
 |some (e,_,H)=>(match FX e with
  |some aa=>CV H l aa
  |none=>none)
 |none=>none
def aam (E:eC)(l:Nat)(body:Code)(S:aO):Option ah->Option (Ending×ah)
 |some H=>Om l (E.code body S H)
 |none=>none
def Hr (E:eC)(l:Nat)(body:Code)(S:aO)(H:ah):Option (Ending×ah):=
 match H.mem.get l with
 |some (.loop r)=>(match r.state with
  |.ready=>aam E l body S (H.upd l (.loop {r with state:=.busy}))
  |_=>none)
 |_=>none
def Ol (E:eC)(l:Nat)(body:Code):Option (Exit×aO×ah)->Option (Ending×ah)
 |some (.normal,S,H)=>Hr E l body S H
 |_=>none
def aao (E:eC)(l:Nat)(r:xi)(H:ah):Option (aL Value)->Option (Ending×ah)
 |some T=>Ol E l r.body (E.code r.assign ⟨T,r.n,[],false,.run,some l⟩ H)
 |none=>none
def eC.az (E:eC):ff:=fun l args H=>
 match H.mem.get l with
 |some (.loop r)=>bif Nat.ble H.bf l&&xJ r.n r.params then aao E l r H (sM r.T r.params args) else none
 |_=>none
def oR:Option cS->Option (Exit×aO×ah)
 |some (.ok S H)=>some (.normal,S,H)
 |some (.hj chain S H)=>some (.panic chain,S,H)
 |none=>none
def CA (S:aO)(H:ah):Option (Nat×List Deferred×ah):=
 match S.b3 with
 |some l=>(match H.mem.get l with|some (.loop r)=>some (r.fN,S.ds,H)|_=>none)
 |none=>(match H.new (.fN (some [])) with|some (r,H)=>some (r,{target:=.collected r,args:=#[]}::S.ds,H)|none=>none)
def MN (S:aO):Option Code->ah->Option (Exit×aO×ah)
 |none,H=>some (.normal,S,H)
 |some .ret,H=>some (.ret,S,H)
 |some (.exit id),H=>some (.exit id,S,H)
 |some _,_=>none
def GJ (S:aO)(l:Nat)(H:ah):Option (Exit×aO×ah):=
 match H.mem.get l with
 |some (.loop r)=>(match r.state with
  |.busy=>none
  |_=>(match H.upd l (.loop {r with state:=.exhausted}) with
   |none=>none
   |some H=>MN S r.pending H))
 |_=>none
def MM (S:aO)(l:Nat):Option (Ending×FrameMode×ah)->Option (Exit×aO×ah)
 |some (.returned _,_,H)=>GJ S l H
 |some (.panicked chain,_,H)=>some (.panic chain,S,H)
 |_=>none
def XZ (P:Program)(E:eC)(S:aO)(l:Nat)(H:ah):Option Value->Option (Exit×aO×ah)
 |some (.func fn first captured)=>(match ji P H fn (first.toList++[.func (.yield l) #[] #[]]) captured.toList with
  |none=>none
  |some (g,ca)=>MM S l (E.body g ca false .run H))
 |_=>none
def A' (P:Program)(E:eC)(f:Operand)(params:Array Tmp)(assign body:Code)(S:aO)(H:ah):Option (Exit×aO×ah):=
 match CA S H with
 |none=>none
 |some (d,ds,H)=>
  match H.new (.loop {state:=.ready,pending:=none,T:=S.T,n:=S.n,params:=params.toList,assign,body,fN:=d}) with
  |none=>none
  |some (l,H)=>XZ P E {S with ds:=ds} l H (aR S.T H f)
def xU (E:eC)(b:Code):Option (Exit×aO×ah)->Option (Exit×aO×ah)
 |some (.normal,S,H)=>E.code b S H
 |r=>r
def P4 (E:eC)(S:aO)(H:ah)(a b:Code):Option (Exit×aO×ah):=xU E b (E.code a S H)
def AR (E:eC)(S:aO)(H:ah)(x y:Code):Option Value->Option (Exit×aO×ah)
 |some (.bool true)=>E.code x S H
 |some (.bool false)=>E.code y S H
 |_=>none
def PX (E:eC)(S:aO)(H:ah)(c:Operand)(x y:Code):Option (Exit×aO×ah):=AR E S H x y (aR S.T H c)
def DJ (id:Nat):Option (Exit×aO×ah)->Option (Exit×aO×ah)
 |some (.exit iY,S,H)=>bif Nat.beq iY id then some (.normal,S,H) else some (.exit iY,S,H)
 |r=>r
def PW (E:eC)(S:aO)(H:ah)(id:Nat)(c:Code):Option (Exit×aO×ah):=DJ id (E.code c S H)
def PZ (E:eC)(S:aO)(H:ah)(c:Code):Option (Exit×aO×ah):=xU E (.loop c) (E.code c S H)
def IZ:Option (Exit×aO×ah)->Option (Exit×aO×ah)
 |some (.goto _,_,_)=>none
 |r=>r
def P3 (E:eC)(S:aO)(H:ah)(c:Code):Option (Exit×aO×ah):=IZ (E.code c S H)
def P2 (P:Program)(E:eC)(S:aO)(H:ah)(_:Nat)(ops:Array Oper):Bool->Option (Exit×aO×ah)
 |false=>oR (vz P E.call E.az ops.toList ops.toList S H)
 |true=>oR (rZ P E.call E.az ops.toList S H)
def P1 (P:Program)(E:eC)(S:aO)(H:ah)(f:Operand)(params:Array Tmp)(assign body:Code):Option (Exit×aO×ah):=A' P E f params assign body S H
def PY (S:aO)(H:ah)(id:Nat):Option (Exit×aO×ah):=some (.exit id,S,H)
def IY.{u} {a:Sort u} (_:a):Option (Exit×aO×ah):=none
def P0 (S:aO)(H:ah)(_:Nat):Option (Exit×aO×ah):=some (.normal,S,H)
def A5 (P:Program)(E:eC)(c:Code)(S:aO)(H:ah):Option (Exit×aO×ah):=
 Code.casesOn (motive:=fun _=>Option (Exit×aO×ah)) c
  (some (.normal,S,H)) (P2 P E S H) (P4 E S H) (PX E S H) (PW E S H) (PZ E S H) (P1 P E S H) (PY S H) (P3 E S H) (P0 S H) IY (some (.ret,S,H)) IY
def lL (P:Program)(T:aL Value)(H:ah):List ResultVar->Option (List Value)
 |[]=>some []
 |.tmp t::l=>(match T.get t with
  |some v=>(match lL P T H l with|some r=>some (v::r)|none=>none)
  |none=>none)
 |.cell a t::l=>(match T.get a with
  |some p=>(match tA P H t p with
   |some v=>(match lL P T H l with|some r=>some (v::r)|none=>none)
   |none=>none)
  |none=>none)
def pQ:List Value->Value
 |[v]=>v
 |vs=>.tuple vs.toArray
def BY:FrameMode->Bool
 |.run=>true
 |_=>false
def gF (P:Program)(E:eC)(fn:Func)(T:aL Value):List Deferred->FrameMode->ah->Option (Ending×ah)
 |[],.returning,H=>match lL P T H fn.results.toList with
  |some vs=>some (.returned (pQ vs),H)
  |none=>none
 |[],.panicking chain,H=>some (.panicked chain,H)
 |[],.run,_=>none
 |d::ds,u,H=>bif BY u then none else match d.target with
  |.fn h9 cap=>match ji P H h9 d.args.toList cap.toList with
   |none=>none
   |some (f,args)=>match E.body f args true u H with
    |some (.returned _,u,H)=>gF P E fn T ds (settle u) H
    |some (.panicked chain,u,H)=>gF P E fn T ds (raised u chain) H
    |_=>none
  |.collected r=>match H.mem.get r with
   |some (.fN (some []))=>bif Nat.ble H.bf r then(match H.upd r (.fN none) with
    |some H=>gF P E fn T ds u H
    |none=>none) else none
   |_=>none
  |_=>none
def Eb (n:Nat):Nat:=Nat.succ (Nat.log2 (Nat.succ n))
def blank (n:Nat):aL Value:=aL.full undef (Eb n)
def ki:List Value->Nat->aL Value->Option (aL Value)
 |[],_,T=>some T
 |v::l,i,T=>match T.set w7 i v with|some T=>ki l (Nat.succ i) T|none=>none
def Jx (e:TypeId)(n:Nat)(H:ah):Option (Ending×ah):=
 match H.kt [] e false with
 |some (id,H)=>some (.returned (.slice (some ⟨id,0,none⟩) n cf),H)
 |none=>none
def D' (P:Program)(fn:Func)(H:ah):List Value->List TypeId->Option (Ending×ah)
 |[.int .i64 (.ofNat n)],[t]=>bif decide (fn.name= "internal/bytealg.MakeNoZero")&&decide (fn.origin= "")&&Nat.ble n 1000000 then
  (match P.underlying t with
  |some (.slice e)=>bif Nat.beq (P.cellsOf e) 1 then Jx e n H else none
  |_=>none)
  else none
 |_,_=>none
def Ea (P:Program)(fn:Func)(args:List Value)(H:ah):Option Next->Option (Ending×ah)
 |some (.value v)=>bif plain v then some (.returned v,H) else none
 |_=>D' P fn H args fn.resultTypes.toList
def Jy (fn:Func)(H:ah):List Value->Option (Ending×ah)
 |[v]=>bif decide (fn.name= "internal/abi.NoEscape")&&decide (fn.origin= "") then some (.returned v,H) else none
 |_=>none
def tz (P:Program)(fn:Func)(f:FuncId)(args:List Value)(H:ah):Option (Ending×ah):=
 bif args.all plain then Ea P fn args H (en P (callFunc f args.toArray)) else Jy fn H args
def na (a7:FrameMode):Option (Ending×ah)->Option (Ending×FrameMode×ah)
 |some (e,H)=>some (e,a7,H)
 |none=>none
def ql (P:Program)(E:eC)(fn:Func):Option (Exit×aO×ah)->Option (Ending×FrameMode×ah)
 |some (.normal,S,H)=>na S.a7 (gF P E fn S.T S.ds .returning H)
 |some (.ret,S,H)=>na S.a7 (gF P E fn S.T S.ds .returning H)
 |some (.panic chain,S,H)=>na S.a7 (gF P E fn S.T S.ds (.panicking chain) H)
 |_=>none
def xN (P:Program)(E:eC)(fn:Func)(c:Code)(bu:Bool)(a7:FrameMode)(H:ah):Option (aL Value)->Option (Ending×FrameMode×ah)
 |some T=>ql P E fn (E.code c ⟨T,fn.ntmps,[],bu,a7,none⟩ H)
 |none=>none
def xM (P:Program)(E:eC)(f:FuncId)(fn:Func)(args:List Value)(bu:Bool)(a7:FrameMode)(H:ah):Option Code->Option (Ending×FrameMode×ah)
 |some c=>xN P E fn c bu a7 H (ki args 0 (blank fn.ntmps))
 |none=>bif bu then none else na a7 (tz P fn f args H)
def nh (P:Program)(eo:aL Func)(E:eC)(f:FuncId)(args:List Value)(bu:Bool)(a7:FrameMode)(H:ah):Option (Ending×FrameMode×ah):=
 match eo.get f with
 |none=>none
 |some fn=>xM P E f fn args bu a7 H fn.body
def pi (P:Program)(eo:aL Func)(n:Nat):eC:=
 Nat.rec (motive:=fun _=>eC) ⟨fun _ _ _=>none,fun _ _ _ _ _=>none⟩ (fun _ E=>⟨A5 P E,nh P eo E⟩) n
def rl {α:Type}:List α->Nat->aL α->Option (aL α)
 |[],_,T=>some T
 |v::l,i,T=>match T.set w7 i v with|some T=>rl l (Nat.succ i) T|none=>none
end
end Go.Cre

/- A part of the proof of TableTurns. -/
import Derived.Test.YtlgjlbpafcifoaaGreatDoorCaa
import Derived.Below
set_option linter.unusedVariables false
set_option linter.unusedSimpArgs false
namespace Go.Cre
noncomputable section
def C7:Op->Bool
 |.store ..|.mapUpdate ..|.insert ..|.mapEntry ..|.entryStore ..|.next ..|.go _|.defer _|.panic _|.send ..|.recv ..|.select ..|.ready _=>true
 |.call {callee:=.builtin b,..}=>match b with|.len|.cap|.min|.max=>false|_=>true
 |.call _=>true
 |_=>false
def yC:Op->Bool
 |.alloc _|.box ..|.buildSlice ..|.makeMap ..|.makeSlice ..=>true
 |_=>false
def looks (ops:List Oper)(o:Oper):List Tmp:=
 (o.op.operands.toList.filterMap fun|.tmp t=>some t|_=>none)++
 (match o.guard with
  |some (g,_)=>(match nth ops g with|some p=>p.dst.toList|none=>[])
  |none=>[])
def B9:List Edge->Nat
 |[]=>0
 |e::l=>bif Region.binds .any e then Nat.lor (Nat.pow 2 e.on) (B9 l) else B9 l
def Oper.ib (o:Oper):Nat:=B9 o.after.toList
def sub (a b:Nat):Bool:=Nat.beq (Nat.land a b) a
def Qj (ops:List Oper)(a b:Oper):Bool:=match a.dst with|some d=>(looks ops b).any (Nat.beq d)|none=>false
def TD (ops:List Oper)(i:Nat)(a:Oper):List Oper->Bool
 |[]=>false
 |b::l=>(Qj ops a b&&!Nat.testBit (Oper.ib b) i)||TD ops i a l
def B2 (ops:List Oper):List Oper->Nat->Nat
 |[],_=>0
 |o::l,i=>Nat.lor (bif C7 o.op||TD ops i o ops then Nat.pow 2 i else 0) (B2 ops l (i+1))
def xZ:List Oper->Nat->Nat
 |[],_=>0
 |o::l,i=>Nat.lor (bif yC o.op then Nat.pow 2 i else 0) (xZ l (i+1))
inductive iG where
 |val (i:Nat)
 |ir (i:Nat)
 |bD (i:Nat)
 |ca (l:List Nat)
def K1 (ok:Nat->Bool)(C:Nat):List Oper->Nat->Option Nat
 |[],_=>none
 |o::l,i=>bif !Nat.testBit C i&&ok i&&sub (Oper.ib o) C then some i else K1 ok C l (i+1)
def uC (ops:List Oper):Nat->Nat->Nat
 |0,K=>K
 |n+1,K=>uC ops n (bif Nat.testBit K n then(match nth ops n with|some o=>Nat.lor K (Oper.ib o)|none=>K) else K)
def bitsOf (m:Nat):Nat->List Nat
 |0=>[]
 |n+1=>bif Nat.testBit m n then n::bitsOf m n else bitsOf m n
def AH:List Nat->Nat
 |[]=>0
 |i::l=>Nat.lor (Nat.pow 2 i) (AH l)
def Dh (ops:List Oper)(bk c3:Nat):Nat->Nat->Nat->Nat->List iG
 |0,_,_,_=>[]
 |n+1,C,K,G=>
  match K1 (fun i=>!Nat.testBit bk i&&Nat.testBit c3 i) C ops 0 with
  |some i=>.ir i::Dh ops bk c3 n (Nat.lor C (Nat.pow 2 i)) K (Nat.lor (Nat.land G c3) (Nat.pow 2 i))
  |none=>match K1 (fun i=>!Nat.testBit bk i&&!Nat.testBit c3 i) C ops 0 with
   |some i=>.val i::Dh ops bk c3 n (Nat.lor C (Nat.pow 2 i)) K (Nat.lor G (Nat.pow 2 i))
   |none=>match bitsOf (Nat.xor C (Nat.land C (Nat.lor K G))) ops.length with
    |i::l=>.ca (i::l)::Dh ops bk c3 n C K (Nat.lor G (AH (i::l)))
    |[]=>match K1 (Nat.testBit bk) C ops 0 with
     |some i=>.bD i::Dh ops bk c3 n (Nat.lor C (Nat.pow 2 i)) (uC ops ops.length (Nat.lor K (Nat.pow 2 i))) (Nat.land G c3)
     |none=>[]
def only(C i:Nat):List Oper->Nat->Bool
 |[],_=>true
 |o::l,k=>(Nat.testBit C k||Nat.beq k i||!sub (Oper.ib o) C)&&only C i l (k+1)
def Ke (C:Nat):Nat->Bool
 |0=>true
 |n+1=>Nat.testBit C n&&Ke C n
def fits (ops:List Oper)(C i:Nat):Bool:=!Nat.testBit C i&&(match nth ops i with|some o=>sub (Oper.ib o) C|none=>false)
def IG (bk c3 C:Nat):List Nat->Bool
 |[]=>true
 |i::l=>Nat.testBit C i&&!Nat.testBit c3 i&&IG bk c3 C l
def n' (ops:List Oper)(bk c3:Nat):Nat->Nat->Nat->List iG->Bool
 |C,K,G,[]=>Ke C ops.length&&sub C (Nat.lor K G)
 |C,K,G,.val i::l=>fits ops C i&&!Nat.testBit bk i&&!Nat.testBit c3 i&&n' ops bk c3 (Nat.lor C (Nat.pow 2 i)) K (Nat.lor G (Nat.pow 2 i)) l
 |C,K,G,.ir i::l=>fits ops C i&&!Nat.testBit bk i&&Nat.testBit c3 i&&n' ops bk c3 (Nat.lor C (Nat.pow 2 i)) K (Nat.lor (Nat.land G c3) (Nat.pow 2 i)) l
 |C,K,G,.ca s::l=>IG bk c3 C s&&n' ops bk c3 C K (Nat.lor G (AH s)) l
 |C,K,G,.bD i::l=>fits ops C i&&Nat.testBit bk i&&only C i ops 0&&sub C (Nat.lor K G)&&
  (match nth ops i with|some o=>sub (Oper.ib o) (uC ops ops.length (Nat.lor K (Nat.pow 2 i)))&&Nat.testBit (uC ops ops.length (Nat.lor K (Nat.pow 2 i))) i|none=>false)&&
  n' ops bk c3 (Nat.lor C (Nat.pow 2 i)) (uC ops ops.length (Nat.lor K (Nat.pow 2 i))) (Nat.land G c3) l
def ZB (a b:Oper):Bool:=match a.dst,b.dst with|some d,some e=>Nat.beq d e|_,_=>false
def Dy (ops:List Oper)(bk i j:Nat)(a b:Oper):Bool:=
 (Nat.beq i j||!ZB a b)&&(!Qj ops a b||Nat.testBit (Oper.ib b) i||(Nat.testBit bk i&&(Nat.beq i j||Nat.testBit (Oper.ib a) j)))
def KY (ops:List Oper)(bk i:Nat)(a:Oper):List Oper->Nat->Bool
 |[],_=>true
 |b::l,j=>Dy ops bk i j a b&&KY ops bk i a l (j+1)
def Hg (ops:List Oper)(bk:Nat):List Oper->Nat->Bool
 |[],_=>true
 |a::l,i=>KY ops bk i a ops 0&&Nat.blt (Oper.ib a) (Nat.pow 2 i)&&(Nat.testBit bk i||!C7 a.op)&&Hg ops bk l (i+1)
def B7 (ops:List Oper):Bool:=
 Hg ops (B2 ops ops 0) ops 0&&n' ops (B2 ops ops 0) (xZ ops 0) 0 0 0 (Dh ops (B2 ops ops 0) (xZ ops 0) (3*ops.length+3) 0 0 0)
def ks (f:Value->Value->Bool):List Value->List Value->Bool
 |[],[]=>true
 |x::l,y::m=>f x y&&ks f l m
 |_,_=>false
def addrEq:Option Addr->Option Addr->Bool
 |none,none=>true
 |some ⟨a,b,none⟩,some ⟨c,d,none⟩=>Nat.beq a c&&Nat.beq b d
 |some ⟨0,0,some 0⟩,some ⟨0,0,some 0⟩=>true
 |_,_=>false
def X4:Option Nat->Option Nat->Bool
 |none,none=>true
 |some a,some b=>Nat.beq a b
 |_,_=>false
def TO:Bool->Bool->Bool
 |true,true=>true
 |false,false=>true
 |_,_=>false
def NL:Fn->Fn->Bool
 |.func f,.func g=>Nat.beq f g
 |_,_=>false
def eJ:Nat->Value->Value->Bool
 |0,_,_=>false
 |n+1,a,b=>match a,b with
  |.bool a,.bool b=>TO a b
  |.int k a,.int l b=>lT k l&&qc a b
  |.string a,.string b=>decide (a.data.toList=b.data.toList)
  |.pointer a,.pointer b=>addrEq a b
  |.slice a l c,.slice b m d=>addrEq a b&&Nat.beq l m&&Nat.beq c d
  |.map a,.map b=>X4 a b
  |.nilFunc,.nilFunc=>true
  |.nilIface,.nilIface=>true
  |.iface t v,.iface u w=>Nat.beq t u&&eJ n v w
  |.agg a,.agg b=>ks (eJ n) a.toList b.toList
  |.tuple a,.tuple b=>ks (eJ n) a.toList b.toList
  |.func f a b,.func g c d=>NL f g&&ks (eJ n) a.toList c.toList&&ks (eJ n) b.toList d.toList
  |_,_=>false
inductive iE where
 |ptr
 |A7 (len cap:Nat)
 |map
def iE.at (id:Nat):iE->Value
 |.ptr=>.pointer (some ⟨id,0,none⟩)
 |.A7 l c=>.slice (some ⟨id,0,none⟩) l c
 |.map=>.map (some id)
def qm (T:aW Value)(x:Operand):Option Value:=
 Operand.rec (motive:=fun _=>Option Value) (fun t=>T.get t) Q2 (fun _=>none) (fun f=>some (.func (.func f) #[] #[])) x
def so (T:aW Value):List (Nat×Operand)->Option (List (Nat×Value))
 |[]=>some []
 |(i,x)::l=>match qm T x with
  |some v=>match so T l with|some r=>some ((i,v)::r)|none=>none
  |none=>none
def zz (elem:TypeId)(v:Value):Option (e3×iE):=
 bif v.cells.toList.all eV then some (.row v.cells.toList elem false 0 0 false,.ptr) else none
def Ep (P:Program)(t:TypeId)(l c:Value):Option (e3×iE):=
 match l,c,P.underlying t with
 |.int _ l,.int _ c,some (.slice elem)=>
  match gX P elem,uB P elem,ey P elem with
  |some z,some iL,some sz=>
   match qe c 1000000,qe l 1000000 with
   |some c,some l=>
    bif Nat.ble l c&&Nat.ble iL 1000000&&Nat.beq z.cells.toList.length sz&&z.cells.toList.all eV&&plain z then
     some (.row (fp z.cells.toList c) elem false 0 0 false,.A7 l c)
    else none
   |_,_=>none
  |_,_,_=>none
 |_,_,_=>none
def Eo (P:Program)(t:TypeId)(len:Nat)(parts:List (Nat×Value)):Option (e3×iE):=
 match P.underlying t with
 |some (.slice elem)=>match ey P elem,gX P elem with
  |some sz,some z=>
   bif Nat.ble len 100000&&Nat.ble (len*sz) 100000&&plain z&&Nat.beq z.cells.toList.length sz then
    match m8 (fun i=>some (i*sz,sz)) (fp z.cells.toList len) parts with
    |some cells=>bif cells.all eV then some (.row cells elem false 0 0 false,.A7 len len) else none
    |none=>none
   else none
  |_,_=>none
 |_=>none
def Gu (P:Program)(t:TypeId)(r:Operand):Option (e3×iE):=
 match r with
 |.const (.int .i64 (.ofNat 0))=>(match P.underlying t with|some (.map _ _)=>some (e3.dead,iE.map)|_=>none)
 |_=>none
def m2 (P:Program)(T:aW Value):Op->Option (e3×iE)
 |.alloc elem=>(match gX P elem with|some z=>bif plain z then zz elem z else none|none=>none)
 |.box elem x=>(match qm T x with|some v=>zz elem v|none=>none)
 |.buildSlice t len parts=>(match so T parts.toList with|some ps=>Eo P t len ps|none=>none)
 |.makeMap _ none=>some (.map [] 0,.map)
 |.makeMap t (some r)=>Gu P t r
 |.makeSlice t l c=>(match qm T l,qm T c with|some l,some c=>Ep P t l c|_,_=>none)
 |_=>none
abbrev qC:=aV->an->Option dd
def oL (k:qC)(H:an)(S:Option aV):Option dd:=Option.rec (motive:=fun _=>Option dd) none (fun S=>k S H) S
def Bl (S:aV)(H:an)(dst:Option Tmp)(k:qC):Option cE->Option dd
 |some (.val v H')=>bif Nat.beq H'.ay H.ay then oL k H (S.put dst v) else none
 |_=>none
def aaE (P:Program)(call:eo)(aE:gU)(S:aV)(H:an)(o:Oper)(k:qC)(b:Bool):Option dd:=
 Bool.rec (motive:=fun _=>Option dd) (oL k H (S.put o.dst undef)) (Bl S H o.dst k (cj P call aE S H o)) b
def k9 (P:Program)(call:eo)(aE:gU)(ops:List Oper)(S:aV)(H:an)(k:qC)(o:Oper):Option dd:=
 Option.rec (motive:=fun _=>Option dd) none (aaE P call aE S H o k) (fa ops S.T o)
def Mv (S:aV)(dst:Option Tmp)(k:qC)(ei:iE):Option (Nat×an)->Option dd
 |some (a,H)=>oL k H (S.put dst (ei.at a))
 |none=>none
def Mu (S:aV)(H:an)(dst:Option Tmp)(k:qC):Option (e3×iE)->Option dd
 |some (b,ei)=>Mv S dst k ei (H.new b)
 |none=>none
def Tz (P:Program)(S:aV)(H:an)(o:Oper)(k:qC)(b:Bool):Option dd:=
 Bool.rec (motive:=fun _=>Option dd) (oL k H (S.put o.dst undef)) (Mu S H o.dst k (m2 P S.T o.op)) b
def En (P:Program)(ops:List Oper)(S:aV)(H:an)(k:qC)(o:Oper):Option dd:=
 Option.rec (motive:=fun _=>Option dd) none (Tz P S H o k) (fa ops S.T o)
def aW.fF {α:Type}:aW α->(Nat->Bool)->aW α
 |.leaf,_=>.leaf
 |.node v l r,p=>.node (if p 0 then v else none) (l.fF fun k=>p (2*k+1)) (r.fF fun k=>p (2*k+2))
def aV.only (S:aV)(p:Nat->Bool):aV:=⟨S.T.fF p,S.n,S.ds,S.bG,S.bd,S.cc⟩
def aV.gone (S:aV)(p:Nat->Bool):aV:=⟨S.T.fF p,0,S.ds,S.bG,S.bd,S.cc⟩
def vg (ops:List Oper)(t:Nat):Bool:=ops.all fun o=>match o.dst with|some u=>!Nat.beq u t|none=>true
def iM (ops:List Oper)(k:qC):Option dd->Option dd
 |some (.ok S H)=>k S H
 |some (.fO chain S H)=>some (.fO chain (S.gone (vg ops)) H)
 |none=>none
def IY (ay:Nat)(T:aW Value)(dst:Option Tmp):Option cE->Bool
 |some (.val v H')=>Nat.beq H'.ay ay&&(match dst with
  |none=>true
  |some d=>(match T.get d with|some u=>eJ 8 v u|none=>false))
 |_=>false
def IX (P:Program)(call:eo)(aE:gU)(ops:List Oper)(S:aV)(H:an)(o:Oper):Option Bool->Bool
 |some true=>IY H.ay S.T o.dst (cj P call aE S H o)
 |some false=>true
 |none=>false
def vX (P:Program)(call:eo)(aE:gU)(ops:List Oper)(S:aV)(H:an)(i:Nat):Bool:=
 match nth ops i with
 |some o=>IX P call aE ops S H o (fa ops S.T o)
 |none=>false
def h3 (ops:List Oper)(i:Nat)(f:Oper->Option dd):Option dd:=Option.rec (motive:=fun _=>Option dd) none f (nth ops i)
def zH (P:Program)(call:eo)(aE:gU)(ops:List Oper)(S:aV)(H:an)(k:qC)(l:List Nat):Option dd:=
 bif l.all (vX P call aE ops S H) then k S H else none
def Uc (P:Program)(call:eo)(aE:gU)(ops:List Oper)(k:qC)(S:aV)(H:an)(s:iG):Option dd:=
 iG.rec (motive:=fun _=>Option dd) (fun i=>h3 ops i (k9 P call aE ops S H k)) (fun i=>h3 ops i (En P ops S H k)) (fun i=>h3 ops i fun o=>iM ops k (one P call aE ops S H o)) (zH P call aE ops S H k) s
def c4 (P:Program)(call:eo)(aE:gU)(ops:List Oper)(l:List iG):qC:=
 List.rec (motive:=fun _=>qC) (fun S H=>some (.ok S H)) (fun s _ k S H=>Uc P call aE ops k S H s) l
def Hh (ops:List Oper):List iG:=Dh ops (B2 ops ops 0) (xZ ops 0) (3*ops.length+3) 0 0 0
def wc (P:Program)(call:eo)(aE:gU)(ops:List Oper)(S:aV)(H:an):Option dd:=
 bif B7 ops then c4 P call aE ops (Hh ops) S H else none
def afl (t:Nat):Option Tmp->Bool
 |some u=>Nat.beq u t
 |none=>false
structure Lit where
 t:Nat
 m:Nat
 dx:TypeId
 n:Nat
def Xr:List Oper->Option (Nat×TypeId)
 |[]=>none
 |o::l=>match o.op with
  |.insert dx (.tmp t) _ _=>some (t,dx)
  |_=>Xr l
def Xp (t:Nat):List Oper->Nat->Nat
 |[],i=>i
 |o::l,i=>bif afl t o.dst then i else Xp t l (Nat.succ i)
def Qe:List Oper->Nat->Nat->Nat
 |[],_,n=>n
 |o::l,i,n=>match o.op with
  |.insert _ _ _ _=>Qe l (Nat.succ i) (Nat.succ i)
  |_=>Qe l (Nat.succ i) n
def Gv (ops:List Oper):Option Lit:=match Xr ops with
 |some (t,dx)=>some ⟨t,Xp t ops 0,dx,Qe ops 0 0⟩
 |none=>none
def uI (P:Program)(call:eo)(aE:gU)(ops:List Oper)(S:aV)(H:an):Option dd:=
 Option.rec (motive:=fun _=>Option dd) (wc P call aE ops S H) (fun _=>none) (Gv ops)
structure fv where
 code:Code->aV->an->Option (Exit×aV×an)
 body:FuncId->List Value->Bool->FrameMode->an->Option (Ending×FrameMode×an)
def fv.call (E:fv):eo:=fun f args H=>match E.body f args false .run H with
 |some (e,_,H)=>some (e,H)
 |none=>none
def tM:aW Value->List Tmp->List Value->Option (aW Value)
 |T,[],[]=>some T
 |T,t::ts,v::vs=>match T.set DL t v with|some T=>tM T ts vs|none=>none
 |_,_,_=>none
def uw (n:Nat):List Nat->Bool
 |[]=>true
 |x::l=>Nat.blt x n&&uw n l
def C':Exit->Option (Option Code)
 |.normal=>some none
 |.ret=>some (some .ret)
 |.exit id=>some (some (.exit id))
 |_=>none
def arE (j:Option Code):Option an->Option (Ending×an)
 |some H=>some (.returned (.bool j.isNone),H)
 |none=>none
def Bv (H:an)(l:Nat)(j:Option Code):Option (Ending×an):=
 match H.mem.get l with
 |some (.loop r)=>arE j (H.upd l (.loop {r with state:=if j.isNone then .ready else .done,pending:=j}))
 |_=>none
def HQ (H:an):Exit->List Deferred->Option (Ending×an)
 |.panic chain,[]=>some (.panicked chain,H)
 |_,_=>none
def LF (l:Nat):Option (Exit×aV×an)->Option (Ending×an)
 |some (e,S,H)=>(match C' e with
  |some j=>Bv H l j
  |none=>HQ H e S.ds)
 |none=>none
def arD (E:fv)(l:Nat)(body:Code)(S:aV):Option an->Option (Ending×an)
 |some H=>LF l (E.code body S H)
 |none=>none
def HP (E:fv)(l:Nat)(body:Code)(S:aV)(H:an):Option (Ending×an):=
 match H.mem.get l with
 |some (.loop r)=>(match r.state with
  |.ready=>arD E l body S (H.upd l (.loop {r with state:=.busy}))
  |_=>none)
 |_=>none
def Sh (E:fv)(l:Nat)(body:Code):Option (Exit×aV×an)->Option (Ending×an)
 |some (.normal,S,H)=>HP E l body S H
 |_=>none
def aa3 (E:fv)(l:Nat)(r:oP)(H:an):Option (aW Value)->Option (Ending×an)
 |some T=>Sh E l r.body (E.code r.assign ⟨T,r.n,[],false,.run,some l⟩ H)
 |none=>none
def fv.aE (E:fv):gU:=fun l args H=>
 match H.mem.get l with
 |some (.loop r)=>bif Nat.ble H.bz l&&uw r.n r.params then aa3 E l r H (tM r.T r.params args) else none
 |_=>none
def qp:Option dd->Option (Exit×aV×an)
 |some (.ok S H)=>some (.normal,S,H)
 |some (.fO chain S H)=>some (.panic chain,S,H)
 |none=>none
def Hl (S:aV)(H:an):Option (Nat×List Deferred×an):=
 match S.cc with
 |some l=>(match H.mem.get l with|some (.loop r)=>some (r.gk,S.ds,H)|_=>none)
 |none=>(match H.new (.gk (some [])) with|some (r,H)=>some (r,{target:=.collected r,args:=#[]}::S.ds,H)|none=>none)
def Rf (S:aV):Option Code->an->Option (Exit×aV×an)
 |none,H=>some (.normal,S,H)
 |some .ret,H=>some (.ret,S,H)
 |some (.exit id),H=>some (.exit id,S,H)
 |some _,_=>none
def Hk (S:aV)(l:Nat)(H:an):Option (Exit×aV×an):=
 match H.mem.get l with
 |some (.loop r)=>(match r.state with
  |.busy=>none
  |_=>(match H.upd l (.loop {r with state:=.exhausted}) with
   |none=>none
   |some H=>Rf S r.pending H))
 |_=>none
def K8 (S:aV)(l:Nat):Option (Ending×FrameMode×an)->Option (Exit×aV×an)
 |some (.returned _,_,H)=>Hk S l H
 |some (.panicked chain,_,H)=>some (.panic chain,S,H)
 |_=>none
def Y3 (P:Program)(E:fv)(S:aV)(l:Nat)(H:an):Option Value->Option (Exit×aV×an)
 |some (.func fn first captured)=>(match jG P H fn (first.toList++[.func (.yield l) #[] #[]]) captured.toList with
  |none=>none
  |some (g,bV)=>K8 S l (E.body g bV false .run H))
 |_=>none
def Ce (P:Program)(E:fv)(f:Operand)(params:Array Tmp)(assign body:Code)(S:aV)(H:an):Option (Exit×aV×an):=
 match Hl S H with
 |none=>none
 |some (d,ds,H)=>
  match H.new (.loop {state:=.ready,pending:=none,T:=S.T,n:=S.n,params:=params.toList,assign,body,gk:=d}) with
  |none=>none
  |some (l,H)=>Y3 P E {S with ds:=ds} l H (a1 S.T H f)
def EJ (E:fv)(b:Code):Option (Exit×aV×an)->Option (Exit×aV×an)
 |some (.normal,S,H)=>E.code b S H
 |r=>r
def adz (E:fv)(S:aV)(H:an)(a b:Code):Option (Exit×aV×an):=EJ E b (E.code a S H)
def IU (E:fv)(S:aV)(H:an)(x y:Code):Option Value->Option (Exit×aV×an)
 |some (.bool true)=>E.code x S H
 |some (.bool false)=>E.code y S H
 |_=>none
def ads (E:fv)(S:aV)(H:an)(c:Operand)(x y:Code):Option (Exit×aV×an):=IU E S H x y (a1 S.T H c)
def MR (id:Nat):Option (Exit×aV×an)->Option (Exit×aV×an)
 |some (.exit lR,S,H)=>bif Nat.beq lR id then some (.normal,S,H) else some (.exit lR,S,H)
 |r=>r
def adr (E:fv)(S:aV)(H:an)(id:Nat)(c:Code):Option (Exit×aV×an):=MR id (E.code c S H)
def adu (E:fv)(S:aV)(H:an)(c:Code):Option (Exit×aV×an):=EJ E (.loop c) (E.code c S H)
def TV:Option (Exit×aV×an)->Option (Exit×aV×an)
 |some (.goto _,_,_)=>none
 |r=>r
def ady (E:fv)(S:aV)(H:an)(c:Code):Option (Exit×aV×an):=TV (E.code c S H)
def adx (P:Program)(E:fv)(S:aV)(H:an)(_:Nat)(ops:Array Oper):Bool->Option (Exit×aV×an)
 |false=>qp (Cd P E.call E.aE ops.toList ops.toList S H)
 |true=>qp (uI P E.call E.aE ops.toList S H)
def adw (P:Program)(E:fv)(S:aV)(H:an)(f:Operand)(params:Array Tmp)(assign body:Code):Option (Exit×aV×an):=Ce P E f params assign body S H
def adt (S:aV)(H:an)(id:Nat):Option (Exit×aV×an):=some (.exit id,S,H)
def TU.{u} {a:Sort u} (_:a):Option (Exit×aV×an):=none
def adv (S:aV)(H:an)(_:Nat):Option (Exit×aV×an):=some (.normal,S,H)
def I4 (P:Program)(E:fv)(c:Code)(S:aV)(H:an):Option (Exit×aV×an):=
 Code.casesOn (motive:=fun _=>Option (Exit×aV×an)) c
  (some (.normal,S,H)) (adx P E S H) (adz E S H) (ads E S H) (adr E S H) (adu E S H) (adw P E S H) (adt S H) (ady E S H) (adv S H) TU (some (.ret,S,H)) TU
def pZ (P:Program)(T:aW Value)(H:an):List ResultVar->Option (List Value)
 |[]=>some []
 |.tmp t::l=>(match T.get t with
  |some v=>(match pZ P T H l with|some r=>some (v::r)|none=>none)
  |none=>none)
 |.cell a t::l=>(match T.get a with
  |some p=>(match zU P H t p with
   |some v=>(match pZ P T H l with|some r=>some (v::r)|none=>none)
   |none=>none)
  |none=>none)
def ql:List Value->Value
 |[v]=>v
 |vs=>.tuple vs.toArray
def Gn:FrameMode->Bool
 |.run=>true
 |_=>false
def g8 (P:Program)(E:fv)(fn:Func)(T:aW Value):List Deferred->FrameMode->an->Option (Ending×an)
 |[],.returning,H=>match pZ P T H fn.results.toList with
  |some vs=>some (.returned (ql vs),H)
  |none=>none
 |[],.panicking chain,H=>some (.panicked chain,H)
 |[],.run,_=>none
 |d::ds,u,H=>bif Gn u then none else match d.target with
  |.fn kv cap=>match jG P H kv d.args.toList cap.toList with
   |none=>none
   |some (f,args)=>match E.body f args true u H with
    |some (.returned _,u,H)=>g8 P E fn T ds (settle u) H
    |some (.panicked chain,u,H)=>g8 P E fn T ds (raised u chain) H
    |_=>none
  |.collected r=>match H.mem.get r with
   |some (.gk (some []))=>bif Nat.ble H.bz r then(match H.upd r (.gk none) with
    |some H=>g8 P E fn T ds u H
    |none=>none) else none
   |_=>none
  |_=>none
def NK (n:Nat):Nat:=Nat.succ (Nat.log2 (Nat.succ n))
def blank (n:Nat):aW Value:=aW.full undef (NK n)
def nJ:List Value->Nat->aW Value->Option (aW Value)
 |[],_,T=>some T
 |v::l,i,T=>match T.set DL i v with|some T=>nJ l (Nat.succ i) T|none=>none
def UG (e:TypeId)(n:Nat)(H:an):Option (Ending×an):=
 match H.n8 [] e false with
 |some (id,H)=>some (.returned (.slice (some ⟨id,0,none⟩) n cG),H)
 |none=>none
def NF (P:Program)(fn:Func)(H:an):List Value->List TypeId->Option (Ending×an)
 |[.int .i64 (.ofNat n)],[t]=>bif decide (fn.name= "internal/bytealg.MakeNoZero")&&decide (fn.origin= "")&&Nat.ble n 1000000 then
  (match P.underlying t with
  |some (.slice e)=>bif Nat.beq (P.cellsOf e) 1 then UG e n H else none
  |_=>none)
  else none
 |_,_=>none
def NG (P:Program)(fn:Func)(args:List Value)(H:an):Option Next->Option (Ending×an)
 |some (.value v)=>bif plain v then some (.returned v,H) else none
 |_=>NF P fn H args fn.resultTypes.toList
def UH (fn:Func)(H:an):List Value->Option (Ending×an)
 |[v]=>bif decide (fn.name= "internal/abi.NoEscape")&&decide (fn.origin= "") then some (.returned v,H) else none
 |_=>none
def zT (P:Program)(fn:Func)(f:FuncId)(args:List Value)(H:an):Option (Ending×an):=
 bif args.all plain then NG P fn args H (e0 P (callFunc f args.toArray)) else UH fn H args
def pT (bd:FrameMode):Option (Ending×an)->Option (Ending×FrameMode×an)
 |some (e,H)=>some (e,bd,H)
 |none=>none
def vS (P:Program)(E:fv)(fn:Func):Option (Exit×aV×an)->Option (Ending×FrameMode×an)
 |some (.normal,S,H)=>pT S.bd (g8 P E fn S.T S.ds .returning H)
 |some (.ret,S,H)=>pT S.bd (g8 P E fn S.T S.ds .returning H)
 |some (.panic chain,S,H)=>pT S.bd (g8 P E fn S.T S.ds (.panicking chain) H)
 |_=>none
def Eu (P:Program)(E:fv)(fn:Func)(c:Code)(bG:Bool)(bd:FrameMode)(H:an):Option (aW Value)->Option (Ending×FrameMode×an)
 |some T=>vS P E fn (E.code c ⟨T,fn.ntmps,[],bG,bd,none⟩ H)
 |none=>none
def Et (P:Program)(E:fv)(f:FuncId)(fn:Func)(args:List Value)(bG:Bool)(bd:FrameMode)(H:an):Option Code->Option (Ending×FrameMode×an)
 |some c=>Eu P E fn c bG bd H (nJ args 0 (blank fn.ntmps))
 |none=>bif bG then none else pT bd (zT P fn f args H)
def rS (P:Program)(e5:aW Func)(E:fv)(f:FuncId)(args:List Value)(bG:Bool)(bd:FrameMode)(H:an):Option (Ending×FrameMode×an):=
 match e5.get f with
 |none=>none
 |some fn=>Et P E f fn args bG bd H fn.body
def uJ (P:Program)(e5:aW Func)(n:Nat):fv:=
 Nat.rec (motive:=fun _=>fv) ⟨fun _ _ _=>none,fun _ _ _ _ _=>none⟩ (fun _ E=>⟨I4 P E,rS P e5 E⟩) n
def xz {α:Type}:List α->Nat->aW α->Option (aW α)
 |[],_,T=>some T
 |v::l,i,T=>match T.set DL i v with|some T=>xz l (Nat.succ i) T|none=>none
end
end Go.Cre
namespace Go.Cre
noncomputable section
open Go.RowKit
theorem aW.UX{α:Type}(n:Nat):(aW.leaf:aW α).get n=none:=rfl
theorem aW.Fb{α:Type}(v:Option α)(l r:aW α):(aW.node v l r).get 0=v:=rfl
theorem aW.qV{α:Type}(v:Option α)(l r:aW α)(m:Nat):(aW.node v l r).get (m+1)=if m % 2=0 then l.get (m / 2) else r.get (m / 2):=by
 show Bool.rec (motive:=fun _=>Option α) (r.get (m / 2)) (l.get (m / 2)) (Nat.beq (m % 2) 0)=_;by_cases h:m % 2=0
 ·rw[a2 h];simp[h]
 ·rw[aZ h];have:Nat.beq (m % 2) 0=false:=by
   cases ai:Nat.beq (m % 2) 0
   ·rfl
   ·exact absurd (eb ai) h
  rw[this]
theorem aW.anO{α:Type}(a:α):aW.put a .leaf 0=some (.node (some a) .leaf .leaf):=rfl
theorem aW.anN{α:Type}(a:α)(m:Nat):aW.put a .leaf (m+1)=none:=rfl
theorem aW.anR{α:Type}(a:α)(v:Option α)(l r:aW α):aW.put a (.node v l r) 0=some (.node (some a) l r):=rfl
theorem aW.K4{α:Type}(a:α)(v:Option α)(l r:aW α)(m:Nat):
 aW.put a (.node v l r) (m+1)=if m % 2=0 then aW.left v r (aW.put a l (m / 2)) else aW.right v l (aW.put a r (m / 2)):=by
 show Bool.rec (motive:=fun _=>Option (aW α)) (aW.right v l (aW.put a r (m / 2))) (aW.left v r (aW.put a l (m / 2))) (Nat.beq (m % 2) 0)=_;by_cases h:m % 2=0
 ·rw[a2 h];simp[h]
 ·rw[aZ h];have:Nat.beq (m % 2) 0=false:=by
   cases ai:Nat.beq (m % 2) 0
   ·rfl
   ·exact absurd (eb ai) h
  rw[this]
theorem aW.get_put{α:Type}{a:α}{t k7:aW α}{n:Nat}(h:aW.put a t n=some k7)(m:Nat):k7.get m=if m=n then some a else t.get m:=by
 induction t generalizing k7 n m with
 |leaf=>
  cases n with
  |zero=>
   rw[aW.anO] at h;injection h with h;subst h
   cases m with
   |zero=>simp[aW.Fb]
   |succ m=>rw[aW.qV];simp[aW.UX]
  |succ n=>rw[aW.anN] at h;cases h
 |node v l r wY wZ=>
  cases n with
  |zero=>
   rw[aW.anR] at h;injection h with h;subst h
   cases m with
   |zero=>simp[aW.Fb]
   |succ m=>rw[aW.qV,aW.qV];simp
  |succ n=>
   rw[aW.K4] at h;by_cases az:n % 2=0
   ·rw[a2 az] at h;cases ap:aW.put a l (n / 2) with
    |none=>rw[ap] at h;cases h
    |some l'=>
     rw[ap] at h;injection h with h;subst h
     cases m with
     |zero=>simp[aW.Fb]
     |succ m=>
      rw[aW.qV,aW.qV,wY ap];by_cases hm:m % 2=0
      ·rw[a2 hm,a2 hm];have:(m / 2=n / 2)↔(m+1=n+1):=by omega
       simp[this]
      ·rw[aZ hm,aZ hm];have:¬(m+1=n+1):=by omega
       rw[aZ this]
   ·rw[aZ az] at h;cases aq:aW.put a r (n / 2) with
    |none=>rw[aq] at h;cases h
    |some ch=>
     rw[aq] at h;injection h with h;subst h
     cases m with
     |zero=>simp[aW.Fb]
     |succ m=>
      rw[aW.qV,aW.qV,wZ aq];by_cases hm:m % 2=0
      ·rw[a2 hm,a2 hm];have:¬(m+1=n+1):=by omega
       rw[aZ this]
      ·rw[aZ hm,aZ hm];have:(m / 2=n / 2)↔(m+1=n+1):=by omega
       simp[this]
theorem aW.NS{α:Type}{a:α}{t k7:aW α}{d n:Nat}(h:aW.set d t n a=some k7)(m:Nat):k7.get m=if m=n then some a else t.get m:=aW.get_put h m
theorem kA{α:Type}(l:List α)(n:Nat):nth l n=l[n]?:=by
 induction l generalizing n with
 |nil=>rfl
 |cons a l aP=>cases n with
  |zero=>rfl
  |succ n=>exact aP n
theorem v9{α:Type}(n:Nat)(l:List α):nP n l=l.drop n:=by
 induction l generalizing n with
 |nil=>simp[nP]
 |cons a l aP=>cases n with
  |zero=>rfl
  |succ n=>exact aP n
theorem DK{α:Type}{n:Nat}{l r:List α}(h:takeN n l=some r):r=l.take n/\r.length=n/\n<=l.length:=by
 induction n generalizing l r with
 |zero=>simp[takeN] at h;subst h;simp
 |succ n aP=>
  cases l with
  |nil=>simp[takeN] at h
  |cons a l=>
   simp only[takeN] at h;cases aJ:takeN n l with
   |none=>rw[aJ] at h;cases h
   |some ch=>
    rw[aJ] at h;injection h with h;subst h
    obtain⟨aw,aR,cf⟩:=aP aJ;refine⟨by rw[aw,D8],by simp[aR],by simp;omega⟩
theorem RC{α:Type}{n:Nat}{l vs r:List α}(h:gf n l vs=some r):
 r.length=l.length/\n+vs.length<=l.length/\∀i,r[i]?=if n<=i/\i<n+vs.length then vs[i -n]? else l[i]?:=by
 induction n generalizing l r with
 |zero=>
  induction vs generalizing l r with
  |nil=>simp[gf] at h;subst h;exact⟨rfl,by simp,fun i=>by simp⟩
  |cons v vs aP=>
   cases l with
   |nil=>simp[gf] at h
   |cons a l=>
    simp only[gf] at h;cases hs:gf 0 l vs with
    |none=>rw[hs] at h;cases h
    |some ch=>
     rw[hs] at h;injection h with h;subst h
     obtain⟨aw,aR,cf⟩:=aP hs;refine⟨by simp[aw],by simp at*;omega,fun i=>?_⟩;cases i with
     |zero=>simp
     |succ i=>
      have:=cf i;simp only[SO,this];simp
 |succ n aP=>
  cases l with
  |nil=>simp[gf] at h
  |cons a l=>
   simp only[gf] at h;cases hs:gf n l vs with
   |none=>rw[hs] at h;cases h
   |some ch=>
    rw[hs] at h;injection h with h;subst h
    obtain⟨aw,aR,cf⟩:=aP hs;refine⟨by simp[aw],by simp;omega,fun i=>?_⟩;cases i with
    |zero=>simp
    |succ i=>
     have:=cf i;simp only[SO,this];have aD:(n+1<=i+1/\i+1<n+1+vs.length)↔(n<=i/\i<n+vs.length):=by omega
     simp only[aD];split
     ·rw[show i+1 -(n+1)=i -n from by omega]
     ·rfl
structure Loc where
 r:Nat
 N:Nat
 sz:Nat
abbrev bL:=Nat->Option Loc
def isAtom:Value->Bool
 |.bool _|.int _ _|.float _ _|.string _|.nilFunc|.nilIface|.pointer none|.slice none _ _|.map none=>true
 |_=>false
inductive bg (μ:bL):Value->Value->Prop
 |atom (v:Value):isAtom v=true->bg μ v v
 |ptr (id off:Nat) (L:Loc):μ id=some L->bg μ (.pointer (some ⟨id,off,none⟩)) (.pointer (some ⟨L.r,off,none⟩))
 |nu (id off len cap:Nat) (L:Loc):μ id=some L->cap<cG->bg μ (.slice (some ⟨id,off,none⟩) len cap) (.slice (some ⟨L.r,off,none⟩) len cap)
 |pE (id off len cap:Nat) (L:Loc):μ id=some L->len<=cap->off+cap*L.sz<=L.N->bg μ (.slice (some ⟨id,off,none⟩) len cG) (.slice (some ⟨L.r,off,none⟩) len cap)
 |vp (id off fI:Nat) (L:Loc):μ id=some L->bg μ (.slice (some ⟨id,off,none⟩) 0 cG) (.slice (some ⟨L.r,fI,none⟩) 0 0)
 |xv (a:Addr):bg μ (.slice (some ⟨0,0,some 0⟩) 0 0) (.slice (some a) 0 0)
 |map (id:Nat) (L:Loc):μ id=some L->bg μ (.map (some id)) (.map (some L.r))
 |xF (v:Value):eV v=true->bg μ (.chan none) v
 |func (fn:Fn) (a b bO b':Array Value):w9 fn=true->a.size=bO.size->b.size=b'.size->
  (∀(i:Nat) v v',a[i]?=some v->bO[i]?=some v'->bg μ v v')->(∀(i:Nat) v v',b[i]?=some v->b'[i]?=some v'->bg μ v v')->bg μ (.func fn a b) (.func fn bO b')
 |yield (l:Nat) (L:Loc):μ l=some L->bg μ (.func (.yield l) #[] #[]) (.func (.yield L.r) #[] #[])
 |iface (t:TypeId) (v v':Value):bg μ v v'->bg μ (.iface t v) (.iface t v')
 |agg (a bO:Array Value):a.size=bO.size->(∀(i:Nat) v v',a[i]?=some v->bO[i]?=some v'->bg μ v v')->bg μ (.agg a) (.agg bO)
 |tuple (a bO:Array Value):a.size=bO.size->(∀(i:Nat) v v',a[i]?=some v->bO[i]?=some v'->bg μ v v')->bg μ (.tuple a) (.tuple bO)
def bT(μ:bL)(l l':List Value):Prop:=l.length=l'.length/\∀(i:Nat) v v',l[i]?=some v->l'[i]?=some v'->bg μ v v'
def Ext(μ bf:bL):Prop:=∀id L,μ id=some L->bf id=some L
theorem Ext.refl(μ:bL):Ext μ μ:=fun _ _ h=>h
theorem Ext.trans{a b c:bL}(h:Ext a b)(k:Ext b c):Ext a c:=fun id L x=>k id L (h id L x)
theorem bg.mono{μ bf:bL}{v v':Value}(h:bg μ v v')(e:Ext μ bf):bg bf v v':=by
 induction h with
 |atom v h=>exact .atom v h
 |ptr id off L h=>exact .ptr id off L (e _ _ h)
 |nu id off len cap L h aD=>exact .nu id off len cap L (e _ _ h) aD
 |pE id off len cap L h aD az=>exact .pE id off len cap L (e _ _ h) aD az
 |vp id off fI L h=>exact .vp id off fI L (e _ _ h)
 |xv a=>exact .xv a
 |map id L h=>exact .map id L (e _ _ h)
 |xF v h=>exact .xF v h
 |func fn a b bO b' au aF ai _ _ akg akh=>exact .func fn a b bO b' au aF ai akg akh
 |yield l L h=>exact .yield l L (e _ _ h)
 |iface t v v' _ aP=>exact .iface t v v' aP
 |agg a bO hs _ aP=>exact .agg a bO hs aP
 |tuple a bO hs _ aP=>exact .tuple a bO hs aP
theorem bT.mono{μ bf:bL}{l l':List Value}(h:bT μ l l')(e:Ext μ bf):bT bf l l':=⟨h.1,fun i v v' a b=>(h.2 i v v' a b).mono e⟩
theorem bT.nil(μ:bL):bT μ [] []:=⟨rfl,fun i v v' h=>by simp at h⟩
theorem bT.cons{μ:bL}{v v':Value}{l l':List Value}(h:bg μ v v')(t:bT μ l l'):bT μ (v::l) (v'::l'):=by
 refine⟨by simp[t.1],fun i a b aF ai=>?_⟩;cases i with
 |zero=>simp at aF ai;subst aF;subst ai;exact h
 |succ i=>simp at aF ai;exact t.2 i a b aF ai
theorem bT.iZ{μ:bL}{v:Value}{l m:List Value}(h:bT μ (v::l) m):∃v' l',m=v'::l'/\bg μ v v'/\bT μ l l':=by
 cases m with
 |nil=>have:=h.1;simp at this
 |cons v' l'=>
  refine⟨v',l',rfl,h.2 0 v v' rfl rfl,by have:=h.1;simpa using this,fun i a b aF ai=>h.2 (i+1) a b (by simpa using aF) (by simpa using ai)⟩
theorem bT.kz{μ:bL}{m:List Value}(h:bT μ [] m):m=[]:=by
 have:=h.1;exact zk.1 (by simpa using this.symm)
theorem bT.append{μ:bL}{l l' m m':List Value}(h:bT μ l l')(k:bT μ m m'):bT μ (l++m) (l'++m'):=by
 refine⟨by simp[h.1,k.1],fun i a b aF ai=>?_⟩;rw[SN] at aF ai;rw[<-h.1] at ai;split at aF
 ·rename_i ak;rw[a2 ak] at ai;exact h.2 i a b aF ai
 ·rename_i ak;rw[aZ ak] at ai;exact k.2 _ a b aF ai
theorem bT.take{μ:bL}{l l':List Value}(h:bT μ l l')(n:Nat):bT μ (l.take n) (l'.take n):=by
 refine⟨by simp[h.1],fun i a b aF ai=>?_⟩;rw[iH] at aF ai;split at aF
 ·rename_i ak;rw[a2 ak] at ai;exact h.2 i a b aF ai
 ·cases aF
theorem bT.drop{μ:bL}{l l':List Value}(h:bT μ l l')(n:Nat):bT μ (l.drop n) (l'.drop n):=by
 refine⟨by simp[h.1],fun i a b aF ai=>?_⟩;rw[oX] at aF ai;exact h.2 _ a b aF ai
theorem bT.get{μ:bL}{l l':List Value}(h:bT μ l l'){i:Nat}{v:Value}(ar:l[i]?=some v):∃v',l'[i]?=some v'/\bg μ v v':=by
 have ak:i<l.length:=by
  rcases hL i l.length with x|x
  ·exact x
  ·rw[oe x] at ar;cases ar
 have lp:i<l'.length:=h.1▸ak;exact⟨l'[i],dX lp,h.2 i v _ ar (dX lp)⟩
theorem bg.Em{μ:bL}{l l':List Value}(h:bT μ l l'):bg μ (.agg l.toArray) (.agg l'.toArray):=
 .agg _ _ (by simp[h.1]) fun i v v' a b=>h.2 i v v' (by simpa using a) (by simpa using b)
theorem bg.RP{μ:bL}{l l':List Value}(h:bT μ l l'):bg μ (.tuple l.toArray) (.tuple l'.toArray):=
 .tuple _ _ (by simp[h.1]) fun i v v' a b=>h.2 i v v' (by simpa using a) (by simpa using b)
theorem bg.Ty{μ:bL}{a:Array Value}{v:Value}(h:bg μ (.agg a) v):∃bO,v=.agg bO/\bT μ a.toList bO.toList:=by
 cases h with
 |atom _ h=>simp[isAtom] at h
 |agg _ bO hs aq=>exact⟨bO,rfl,by simpa using hs,fun i v v' x y=>aq i v v' (by simpa using x) (by simpa using y)⟩
theorem bg.aqi{μ:bL}{a:Array Value}{v:Value}(h:bg μ (.tuple a) v):∃bO,v=.tuple bO/\bT μ a.toList bO.toList:=by
 cases h with
 |atom _ h=>simp[isAtom] at h
 |tuple _ bO hs aq=>exact⟨bO,rfl,by simpa using hs,fun i v v' x y=>aq i v v' (by simpa using x) (by simpa using y)⟩
theorem bg.undef(μ:bL):bg μ undef undef:=.tuple _ _ rfl fun i v v' h=>by simp at h
theorem bg.ams{μ:bL}:∀{n:Nat} {v:Value},iz n v=true->bg μ v v:=by
 intro n;induction n with
 |zero=>intro v h;simp[iz] at h
 |succ n aP=>
  intro v h;cases v with
  |bool b=>exact .atom _ rfl
  |int k n=>exact .atom _ rfl
  |float k b=>exact .atom _ rfl
  |complex k a b=>simp[iz] at h
  |string s=>exact .atom _ rfl
  |pointer a=>cases a with
   |none=>exact .atom _ rfl
   |some a=>simp[iz] at h
  |slice a l c=>cases a with
   |none=>exact .atom _ rfl
   |some a=>simp[iz] at h
  |map r=>cases r with
   |none=>exact .atom _ rfl
   |some a=>simp[iz] at h
  |chan r=>simp[iz] at h
  |func fn a b=>
   cases fn with
   |func f=>
    simp[iz] at h;obtain⟨rfl,rfl⟩:=h;exact .func _ _ _ _ _ rfl rfl rfl (fun i v v' h=>by simp at h) (fun i v v' h=>by simp at h)
   |_=>simp[iz] at h
  |nilFunc=>exact .atom _ rfl
  |iface t v=>simp only[iz] at h;exact .iface _ _ _ (aP h)
  |nilIface=>exact .atom _ rfl
  |agg cs=>
   simp only[iz,rF] at h;exact .agg _ _ rfl fun i v v' a b=>by
    rw[a] at b;injection b with b;subst b
    exact aP (h v (DX.2 (HW a)))
  |tuple cs=>
   simp only[iz,rF] at h;exact .tuple _ _ rfl fun i v v' a b=>by
    rw[a] at b;injection b with b;subst b
    exact aP (h v (DX.2 (HW a)))
theorem TG{a b:Array Value}(hs:a.size=b.size)(h:∀(i:Nat) v v',a[i]?=some v->b[i]?=some v'->v'=v):b=a:=by
 apply Array.ext hs.symm
 intro i ab ad;exact h i a[i] b[i] (zf ad) (zf ab)
theorem bg.K2{μ:bL}:∀{n:Nat} {v v':Value},iz n v=true->bg μ v v'->v'=v:=by
 intro n;induction n with
 |zero=>intro v v' h;simp[iz] at h
 |succ n aP=>
  intro v v' h aq;cases aq with
  |atom _ _=>rfl
  |ptr=>simp[iz] at h
  |nu=>simp[iz] at h
  |pE=>simp[iz] at h
  |vp=>simp[iz] at h
  |xv=>simp[iz] at h
  |map=>simp[iz] at h
  |xF=>simp[iz] at h
  |func fn a b bO b' au aF ai JY yv=>
   cases fn with
   |func f=>
    simp[iz] at h;obtain⟨rfl,rfl⟩:=h;have aw:bO=#[]:=aa6 (by simpa using aF.symm);have aR:b'=#[]:=aa6 (by simpa using ai.symm);rw[aw,aR]
   |_=>simp[iz] at h
  |yield=>simp[iz] at h
  |iface t v v' ar=>simp only[iz] at h;rw[aP h ar]
  |agg a bO hs ar=>
   simp only[iz,rF] at h;rw[TG hs fun i v v' x y=>aP (h v (DX.2 (HW x))) (ar i v v' x y)]
  |tuple a bO hs ar=>
   simp only[iz,rF] at h;rw[TG hs fun i v v' x y=>aP (h v (DX.2 (HW x))) (ar i v v' x y)]
theorem bg.cells{μ:bL}{v v':Value}(h:bg μ v v'):bT μ v.cells.toList v'.cells.toList:=by
 cases h with
 |agg a bO hs ar=>exact⟨by simpa[Value.cells] using hs,fun i v v' x y=>ar i v v' (by simpa[Value.cells] using x) (by simpa[Value.cells] using y)⟩
 |atom v h=>cases v<;>first|(simp[isAtom] at h;done)|exact bT.cons (.atom _ h) (bT.nil _)
 |ptr id off L h=>exact bT.cons (.ptr id off L h) (bT.nil _)
 |nu id off len cap L h aD=>exact bT.cons (.nu id off len cap L h aD) (bT.nil _)
 |pE id off len cap L h aD az=>exact bT.cons (.pE id off len cap L h aD az) (bT.nil _)
 |vp id off fI L h=>exact bT.cons (.vp id off fI L h) (bT.nil _)
 |xv a=>exact bT.cons (.xv a) (bT.nil _)
 |map id L h=>exact bT.cons (.map id L h) (bT.nil _)
 |xF _ h=>cases v'<;>first|(simp[eV] at h;done)|exact bT.cons (.xF _ h) (bT.nil _)
 |func fn a b bO b' au aF ai JY yv=>exact bT.cons (.func fn a b bO b' au aF ai JY yv) (bT.nil _)
 |yield l L h=>exact bT.cons (.yield l L h) (bT.nil _)
 |iface t v v' ar=>exact bT.cons (.iface t v v' ar) (bT.nil _)
 |tuple a bO hs ar=>exact bT.cons (.tuple a bO hs ar) (bT.nil _)
theorem bg.eV{μ:bL}{v v':Value}(h:bg μ v v'):eV v'=eV v:=by
 cases h<;>first|rfl|assumption
end
end Go.Cre

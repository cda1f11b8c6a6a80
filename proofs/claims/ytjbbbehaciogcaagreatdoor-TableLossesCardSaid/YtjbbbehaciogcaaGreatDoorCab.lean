/- A part of the proof of TableLosses. -/
import Derived.Test.YtjbbbehaciogcaaGreatDoorCaa
import Derived.Below
set_option linter.unusedVariables false
set_option linter.unusedSimpArgs false
namespace Go.Cre
noncomputable section
def Ff:Op->Bool
 |.store ..|.mapUpdate ..|.insert ..|.mapEntry ..|.entryStore ..|.next ..|.go _|.defer _|.panic _|.send ..|.recv ..|.select ..|.ready _=>true
 |.call {callee:=.builtin b,..}=>match b with|.len|.cap|.min|.max=>false|_=>true
 |.call _=>true
 |_=>false
def Ah:Op->Bool
 |.alloc _|.box ..|.buildSlice ..|.makeMap ..|.makeSlice ..=>true
 |_=>false
def looks (ops:List Oper)(o:Oper):List Tmp:=
 (o.op.operands.toList.filterMap fun|.tmp t=>some t|_=>none)++
 (match o.guard with
  |some (g,_)=>(match nth ops g with|some p=>p.dst.toList|none=>[])
  |none=>[])
def Eh:List Edge->Nat
 |[]=>0
 |e::l=>bif Region.binds .any e then Nat.lor (Nat.pow 2 e.on) (Eh l) else Eh l
def Oper.iU (o:Oper):Nat:=Eh o.after.toList
def sub (a b:Nat):Bool:=Nat.beq (Nat.land a b) a
def TB (ops:List Oper)(a b:Oper):Bool:=match a.dst with|some d=>(looks ops b).any (Nat.beq d)|none=>false
def WT (ops:List Oper)(i:Nat)(a:Oper):List Oper->Bool
 |[]=>false
 |b::l=>(TB ops a b&&!Nat.testBit (Oper.iU b) i)||WT ops i a l
def Ea (ops:List Oper):List Oper->Nat->Nat
 |[],_=>0
 |o::l,i=>Nat.lor (bif Ff o.op||WT ops i o ops then Nat.pow 2 i else 0) (Ea ops l (i+1))
def zx:List Oper->Nat->Nat
 |[],_=>0
 |o::l,i=>Nat.lor (bif Ah o.op then Nat.pow 2 i else 0) (zx l (i+1))
inductive jo where
 |val (i:Nat)
 |kG (i:Nat)
 |bE (i:Nat)
 |b9 (l:List Nat)
def NH (ok:Nat->Bool)(C:Nat):List Oper->Nat->Option Nat
 |[],_=>none
 |o::l,i=>bif !Nat.testBit C i&&ok i&&sub (Oper.iU o) C then some i else NH ok C l (i+1)
def vM (ops:List Oper):Nat->Nat->Nat
 |0,K=>K
 |n+1,K=>vM ops n (bif Nat.testBit K n then(match nth ops n with|some o=>Nat.lor K (Oper.iU o)|none=>K) else K)
def bitsOf (m:Nat):Nat->List Nat
 |0=>[]
 |n+1=>bif Nat.testBit m n then n::bitsOf m n else bitsOf m n
def CG:List Nat->Nat
 |[]=>0
 |i::l=>Nat.lor (Nat.pow 2 i) (CG l)
def Fv (ops:List Oper)(bw cV:Nat):Nat->Nat->Nat->Nat->List jo
 |0,_,_,_=>[]
 |n+1,C,K,G=>
  match NH (fun i=>!Nat.testBit bw i&&Nat.testBit cV i) C ops 0 with
  |some i=>.kG i::Fv ops bw cV n (Nat.lor C (Nat.pow 2 i)) K (Nat.lor (Nat.land G cV) (Nat.pow 2 i))
  |none=>match NH (fun i=>!Nat.testBit bw i&&!Nat.testBit cV i) C ops 0 with
   |some i=>.val i::Fv ops bw cV n (Nat.lor C (Nat.pow 2 i)) K (Nat.lor G (Nat.pow 2 i))
   |none=>match bitsOf (Nat.xor C (Nat.land C (Nat.lor K G))) ops.length with
    |i::l=>.b9 (i::l)::Fv ops bw cV n C K (Nat.lor G (CG (i::l)))
    |[]=>match NH (Nat.testBit bw) C ops 0 with
     |some i=>.bE i::Fv ops bw cV n (Nat.lor C (Nat.pow 2 i)) (vM ops ops.length (Nat.lor K (Nat.pow 2 i))) (Nat.land G cV)
     |none=>[]
def only(C i:Nat):List Oper->Nat->Bool
 |[],_=>true
 |o::l,k=>(Nat.testBit C k||Nat.beq k i||!sub (Oper.iU o) C)&&only C i l (k+1)
def MS (C:Nat):Nat->Bool
 |0=>true
 |n+1=>Nat.testBit C n&&MS C n
def fits (ops:List Oper)(C i:Nat):Bool:=!Nat.testBit C i&&(match nth ops i with|some o=>sub (Oper.iU o) C|none=>false)
def K6 (bw cV C:Nat):List Nat->Bool
 |[]=>true
 |i::l=>Nat.testBit C i&&!Nat.testBit cV i&&K6 bw cV C l
def oR (ops:List Oper)(bw cV:Nat):Nat->Nat->Nat->List jo->Bool
 |C,K,G,[]=>MS C ops.length&&sub C (Nat.lor K G)
 |C,K,G,.val i::l=>fits ops C i&&!Nat.testBit bw i&&!Nat.testBit cV i&&oR ops bw cV (Nat.lor C (Nat.pow 2 i)) K (Nat.lor G (Nat.pow 2 i)) l
 |C,K,G,.kG i::l=>fits ops C i&&!Nat.testBit bw i&&Nat.testBit cV i&&oR ops bw cV (Nat.lor C (Nat.pow 2 i)) K (Nat.lor (Nat.land G cV) (Nat.pow 2 i)) l
 |C,K,G,.b9 s::l=>K6 bw cV C s&&oR ops bw cV C K (Nat.lor G (CG s)) l
 |C,K,G,.bE i::l=>fits ops C i&&Nat.testBit bw i&&only C i ops 0&&sub C (Nat.lor K G)&&
  (match nth ops i with|some o=>sub (Oper.iU o) (vM ops ops.length (Nat.lor K (Nat.pow 2 i)))&&Nat.testBit (vM ops ops.length (Nat.lor K (Nat.pow 2 i))) i|none=>false)&&
  oR ops bw cV (Nat.lor C (Nat.pow 2 i)) (vM ops ops.length (Nat.lor K (Nat.pow 2 i))) (Nat.land G cV) l
def ads (a b:Oper):Bool:=match a.dst,b.dst with|some d,some e=>Nat.beq d e|_,_=>false
def FM (ops:List Oper)(bw i j:Nat)(a b:Oper):Bool:=
 (Nat.beq i j||!ads a b)&&(!TB ops a b||Nat.testBit (Oper.iU b) i||(Nat.testBit bw i&&(Nat.beq i j||Nat.testBit (Oper.iU a) j)))
def ND (ops:List Oper)(bw i:Nat)(a:Oper):List Oper->Nat->Bool
 |[],_=>true
 |b::l,j=>FM ops bw i j a b&&ND ops bw i a l (j+1)
def JL (ops:List Oper)(bw:Nat):List Oper->Nat->Bool
 |[],_=>true
 |a::l,i=>ND ops bw i a ops 0&&Nat.blt (Oper.iU a) (Nat.pow 2 i)&&(Nat.testBit bw i||!Ff a.op)&&JL ops bw l (i+1)
def Ef (ops:List Oper):Bool:=
 JL ops (Ea ops ops 0) ops 0&&oR ops (Ea ops ops 0) (zx ops 0) 0 0 0 (Fv ops (Ea ops ops 0) (zx ops 0) (3*ops.length+3) 0 0 0)
def je (f:Value->Value->Bool):List Value->List Value->Bool
 |[],[]=>true
 |x::l,y::m=>f x y&&je f l m
 |_,_=>false
def addrEq:Option Addr->Option Addr->Bool
 |none,none=>true
 |some ⟨a,b,none⟩,some ⟨c,d,none⟩=>Nat.beq a c&&Nat.beq b d
 |some ⟨0,0,some 0⟩,some ⟨0,0,some 0⟩=>true
 |_,_=>false
def abP:Option Nat->Option Nat->Bool
 |none,none=>true
 |some a,some b=>Nat.beq a b
 |_,_=>false
def Xa:Bool->Bool->Bool
 |true,true=>true
 |false,false=>true
 |_,_=>false
def QW:Fn->Fn->Bool
 |.func f,.func g=>Nat.beq f g
 |_,_=>false
def eg:Nat->Value->Value->Bool
 |0,_,_=>false
 |n+1,a,b=>match a,b with
  |.bool a,.bool b=>Xa a b
  |.int k a,.int l b=>mD k l&&q9 a b
  |.string a,.string b=>decide (a.data.toList=b.data.toList)
  |.pointer a,.pointer b=>addrEq a b
  |.slice a l c,.slice b m d=>addrEq a b&&Nat.beq l m&&Nat.beq c d
  |.map a,.map b=>abP a b
  |.nilFunc,.nilFunc=>true
  |.nilIface,.nilIface=>true
  |.iface t v,.iface u w=>Nat.beq t u&&eg n v w
  |.agg a,.agg b=>je (eg n) a.toList b.toList
  |.tuple a,.tuple b=>je (eg n) a.toList b.toList
  |.func f a b,.func g c d=>QW f g&&je (eg n) a.toList c.toList&&je (eg n) b.toList d.toList
  |_,_=>false
inductive jn where
 |ptr
 |C' (len cap:Nat)
 |map
def jn.at (id:Nat):jn->Value
 |.ptr=>.pointer (some ⟨id,0,none⟩)
 |.C' l c=>.slice (some ⟨id,0,none⟩) l c
 |.map=>.map (some id)
def rh (T:a0 Value)(x:Operand):Option Value:=
 Operand.rec (motive:=fun _=>Option Value) (fun t=>T.get t) Ue (fun _=>none) (fun f=>some (.func (.func f) #[] #[])) x
def ti (T:a0 Value):List (Nat×Operand)->Option (List (Nat×Value))
 |[]=>some []
 |(i,x)::l=>match rh T x with
  |some v=>match ti T l with|some r=>some ((i,v)::r)|none=>none
  |none=>none
def Bb (elem:TypeId)(v:Value):Option (fB×jn):=
 bif v.cells.toList.all fh then some (.row v.cells.toList elem false 0 0 false,.ptr) else none
def GH (P:Program)(t:TypeId)(l c:Value):Option (fB×jn):=
 match l,c,P.underlying t with
 |.int _ l,.int _ c,some (.slice elem)=>
  match hA P elem,vF P elem,eV P elem with
  |some z,some ju,some sz=>
   match ra c 1000000,ra l 1000000 with
   |some c,some l=>
    bif Nat.ble l c&&Nat.ble ju 1000000&&Nat.beq z.cells.toList.length sz&&z.cells.toList.all fh&&plain z then
     some (.row (fM z.cells.toList c) elem false 0 0 false,.C' l c)
    else none
   |_,_=>none
  |_,_,_=>none
 |_,_,_=>none
def GG (P:Program)(t:TypeId)(len:Nat)(parts:List (Nat×Value)):Option (fB×jn):=
 match P.underlying t with
 |some (.slice elem)=>match eV P elem,hA P elem with
  |some sz,some z=>
   bif Nat.ble len 100000&&Nat.ble (len*sz) 100000&&plain z&&Nat.beq z.cells.toList.length sz then
    match nX (fun i=>some (i*sz,sz)) (fM z.cells.toList len) parts with
    |some cells=>bif cells.all fh then some (.row cells elem false 0 0 false,.C' len len) else none
    |none=>none
   else none
  |_,_=>none
 |_=>none
def I3 (P:Program)(t:TypeId)(r:Operand):Option (fB×jn):=
 match r with
 |.const (.int .i64 (.ofNat 0))=>(match P.underlying t with|some (.map _ _)=>some (fB.dead,jn.map)|_=>none)
 |_=>none
def nT (P:Program)(T:a0 Value):Op->Option (fB×jn)
 |.alloc elem=>(match hA P elem with|some z=>bif plain z then Bb elem z else none|none=>none)
 |.box elem x=>(match rh T x with|some v=>Bb elem v|none=>none)
 |.buildSlice t len parts=>(match ti T parts.toList with|some ps=>GG P t len ps|none=>none)
 |.makeMap _ none=>some (.map [] 0,.map)
 |.makeMap t (some r)=>I3 P t r
 |.makeSlice t l c=>(match rh T l,rh T c with|some l,some c=>GH P t l c|_,_=>none)
 |_=>none
abbrev rz:=aZ->ar->Option dJ
def px (k:rz)(H:ar)(S:Option aZ):Option dJ:=Option.rec (motive:=fun _=>Option dJ) none (fun S=>k S H) S
def Dh (S:aZ)(H:ar)(dst:Option Tmp)(k:rz):Option cP->Option dJ
 |some (.val v H')=>bif Nat.beq H'.an H.an then px k H (S.put dst v) else none
 |_=>none
def aeH (P:Program)(call:eI)(aJ:hl)(S:aZ)(H:ar)(o:Oper)(k:rz)(b:Bool):Option dJ:=
 Bool.rec (motive:=fun _=>Option dJ) (px k H (S.put o.dst undef)) (Dh S H o.dst k (cz P call aJ S H o)) b
def lZ (P:Program)(call:eI)(aJ:hl)(ops:List Oper)(S:aZ)(H:ar)(k:rz)(o:Oper):Option dJ:=
 Option.rec (motive:=fun _=>Option dJ) none (aeH P call aJ S H o k) (fT ops S.T o)
def Pr (S:aZ)(dst:Option Tmp)(k:rz)(eD:jn):Option (Nat×ar)->Option dJ
 |some (a,H)=>px k H (S.put dst (eD.at a))
 |none=>none
def Pq (S:aZ)(H:ar)(dst:Option Tmp)(k:rz):Option (fB×jn)->Option dJ
 |some (b,eD)=>Pr S dst k eD (H.new b)
 |none=>none
def WO (P:Program)(S:aZ)(H:ar)(o:Oper)(k:rz)(b:Bool):Option dJ:=
 Bool.rec (motive:=fun _=>Option dJ) (px k H (S.put o.dst undef)) (Pq S H o.dst k (nT P S.T o.op)) b
def GD (P:Program)(ops:List Oper)(S:aZ)(H:ar)(k:rz)(o:Oper):Option dJ:=
 Option.rec (motive:=fun _=>Option dJ) none (WO P S H o k) (fT ops S.T o)
def a0.gn {α:Type}:a0 α->(Nat->Bool)->a0 α
 |.leaf,_=>.leaf
 |.node v l r,p=>.node (if p 0 then v else none) (l.gn fun k=>p (2*k+1)) (r.gn fun k=>p (2*k+2))
def aZ.only (S:aZ)(p:Nat->Bool):aZ:=⟨S.T.gn p,S.n,S.ds,S.bR,S.bg,S.cr⟩
def aZ.gone (S:aZ)(p:Nat->Bool):aZ:=⟨S.T.gn p,0,S.ds,S.bR,S.bg,S.cr⟩
def wJ (ops:List Oper)(t:Nat):Bool:=ops.all fun o=>match o.dst with|some u=>!Nat.beq u t|none=>true
def lG (ops:List Oper)(k:rz):Option dJ->Option dJ
 |some (.ok S H)=>k S H
 |some (.gx chain S H)=>some (.gx chain (S.gone (wJ ops)) H)
 |none=>none
def Lv (an:Nat)(T:a0 Value)(dst:Option Tmp):Option cP->Bool
 |some (.val v H')=>Nat.beq H'.an an&&(match dst with
  |none=>true
  |some d=>(match T.get d with|some u=>eg 8 v u|none=>false))
 |_=>false
def Lu (P:Program)(call:eI)(aJ:hl)(ops:List Oper)(S:aZ)(H:ar)(o:Oper):Option Bool->Bool
 |some true=>Lv H.an S.T o.dst (cz P call aJ S H o)
 |some false=>true
 |none=>false
def xD (P:Program)(call:eI)(aJ:hl)(ops:List Oper)(S:aZ)(H:ar)(i:Nat):Bool:=
 match nth ops i with
 |some o=>Lu P call aJ ops S H o (fT ops S.T o)
 |none=>false
def jP (ops:List Oper)(i:Nat)(f:Oper->Option dJ):Option dJ:=Option.rec (motive:=fun _=>Option dJ) none f (nth ops i)
def Bj (P:Program)(call:eI)(aJ:hl)(ops:List Oper)(S:aZ)(H:ar)(k:rz)(l:List Nat):Option dJ:=
 bif l.all (xD P call aJ ops S H) then k S H else none
def XD (P:Program)(call:eI)(aJ:hl)(ops:List Oper)(k:rz)(S:aZ)(H:ar)(s:jo):Option dJ:=
 jo.rec (motive:=fun _=>Option dJ) (fun i=>jP ops i (lZ P call aJ ops S H k)) (fun i=>jP ops i (GD P ops S H k)) (fun i=>jP ops i fun o=>lG ops k (one P call aJ ops S H o)) (Bj P call aJ ops S H k) s
def dM (P:Program)(call:eI)(aJ:hl)(ops:List Oper)(l:List jo):rz:=
 List.rec (motive:=fun _=>rz) (fun S H=>some (.ok S H)) (fun s _ k S H=>XD P call aJ ops k S H s) l
def JM (ops:List Oper):List jo:=Fv ops (Ea ops ops 0) (zx ops 0) (3*ops.length+3) 0 0 0
def xS (P:Program)(call:eI)(aJ:hl)(ops:List Oper)(S:aZ)(H:ar):Option dJ:=
 bif Ef ops then dM P call aJ ops (JM ops) S H else none
def ajP (t:Nat):Option Tmp->Bool
 |some u=>Nat.beq u t
 |none=>false
structure Lit where
 t:Nat
 m:Nat
 dH:TypeId
 n:Nat
def aa0:List Oper->Option (Nat×TypeId)
 |[]=>none
 |o::l=>match o.op with
  |.insert dH (.tmp t) _ _=>some (t,dH)
  |_=>aa0 l
def aaY (t:Nat):List Oper->Nat->Nat
 |[],i=>i
 |o::l,i=>bif ajP t o.dst then i else aaY t l (Nat.succ i)
def Tw:List Oper->Nat->Nat->Nat
 |[],_,n=>n
 |o::l,i,n=>match o.op with
  |.insert _ _ _ _=>Tw l (Nat.succ i) (Nat.succ i)
  |_=>Tw l (Nat.succ i) n
def I4 (ops:List Oper):Option Lit:=match aa0 ops with
 |some (t,dH)=>some ⟨t,aaY t ops 0,dH,Tw ops 0 0⟩
 |none=>none
def vT (P:Program)(call:eI)(aJ:hl)(ops:List Oper)(S:aZ)(H:ar):Option dJ:=
 Option.rec (motive:=fun _=>Option dJ) (xS P call aJ ops S H) (fun _=>none) (I4 ops)
structure fZ where
 code:Code->aZ->ar->Option (Exit×aZ×ar)
 body:FuncId->List Value->Bool->FrameMode->ar->Option (Ending×FrameMode×ar)
def fZ.call (E:fZ):eI:=fun f args H=>match E.body f args false .run H with
 |some (e,_,H)=>some (e,H)
 |none=>none
def uQ:a0 Value->List Tmp->List Value->Option (a0 Value)
 |T,[],[]=>some T
 |T,t::ts,v::vs=>match T.set F1 t v with|some T=>uQ T ts vs|none=>none
 |_,_,_=>none
def vA (n:Nat):List Nat->Bool
 |[]=>true
 |x::l=>Nat.blt x n&&vA n l
def Fi:Exit->Option (Option Code)
 |.normal=>some none
 |.ret=>some (some .ret)
 |.exit id=>some (some (.exit id))
 |_=>none
def axm (j:Option Code):Option ar->Option (Ending×ar)
 |some H=>some (.returned (.bool j.isNone),H)
 |none=>none
def Dp (H:ar)(l:Nat)(j:Option Code):Option (Ending×ar):=
 match H.mem.get l with
 |some (.loop r)=>axm j (H.upd l (.loop {r with state:=if j.isNone then .ready else .done,pending:=j}))
 |_=>none
def Kn (H:ar):Exit->List Deferred->Option (Ending×ar)
 |.panic chain,[]=>some (.panicked chain,H)
 |_,_=>none
def Ou (l:Nat):Option (Exit×aZ×ar)->Option (Ending×ar)
 |some (e,S,H)=>(match Fi e with
  |some j=>Dp H l j
  |none=>Kn H e S.ds)
 |none=>none
def axl (E:fZ)(l:Nat)(body:Code)(S:aZ):Option ar->Option (Ending×ar)
 |some H=>Ou l (E.code body S H)
 |none=>none
def Km (E:fZ)(l:Nat)(body:Code)(S:aZ)(H:ar):Option (Ending×ar):=
 match H.mem.get l with
 |some (.loop r)=>(match r.state with
  |.ready=>axl E l body S (H.upd l (.loop {r with state:=.busy}))
  |_=>none)
 |_=>none
def Vv (E:fZ)(l:Nat)(body:Code):Option (Exit×aZ×ar)->Option (Ending×ar)
 |some (.normal,S,H)=>Km E l body S H
 |_=>none
def afg (E:fZ)(l:Nat)(r:pB)(H:ar):Option (a0 Value)->Option (Ending×ar)
 |some T=>Vv E l r.body (E.code r.assign ⟨T,r.n,[],false,.run,some l⟩ H)
 |none=>none
def fZ.aJ (E:fZ):hl:=fun l args H=>
 match H.mem.get l with
 |some (.loop r)=>bif Nat.ble H.bL l&&vA r.n r.params then afg E l r H (uQ r.T r.params args) else none
 |_=>none
def rj:Option dJ->Option (Exit×aZ×ar)
 |some (.ok S H)=>some (.normal,S,H)
 |some (.gx chain S H)=>some (.panic chain,S,H)
 |none=>none
def JS (S:aZ)(H:ar):Option (Nat×List Deferred×ar):=
 match S.cr with
 |some l=>(match H.mem.get l with|some (.loop r)=>some (r.gP,S.ds,H)|_=>none)
 |none=>(match H.new (.gP (some [])) with|some (r,H)=>some (r,{target:=.collected r,args:=#[]}::S.ds,H)|none=>none)
def Uw (S:aZ):Option Code->ar->Option (Exit×aZ×ar)
 |none,H=>some (.normal,S,H)
 |some .ret,H=>some (.ret,S,H)
 |some (.exit id),H=>some (.exit id,S,H)
 |some _,_=>none
def JR (S:aZ)(l:Nat)(H:ar):Option (Exit×aZ×ar):=
 match H.mem.get l with
 |some (.loop r)=>(match r.state with
  |.busy=>none
  |_=>(match H.upd l (.loop {r with state:=.exhausted}) with
   |none=>none
   |some H=>Uw S r.pending H))
 |_=>none
def NQ (S:aZ)(l:Nat):Option (Ending×FrameMode×ar)->Option (Exit×aZ×ar)
 |some (.returned _,_,H)=>JR S l H
 |some (.panicked chain,_,H)=>some (.panic chain,S,H)
 |_=>none
def acY (P:Program)(E:fZ)(S:aZ)(l:Nat)(H:ar):Option Value->Option (Exit×aZ×ar)
 |some (.func fn first captured)=>(match kY P H fn (first.toList++[.func (.yield l) #[] #[]]) captured.toList with
  |none=>none
  |some (g,bO)=>NQ S l (E.body g bO false .run H))
 |_=>none
def Em (P:Program)(E:fZ)(f:Operand)(params:Array Tmp)(assign body:Code)(S:aZ)(H:ar):Option (Exit×aZ×ar):=
 match JS S H with
 |none=>none
 |some (d,ds,H)=>
  match H.new (.loop {state:=.ready,pending:=none,T:=S.T,n:=S.n,params:=params.toList,assign,body,gP:=d}) with
  |none=>none
  |some (l,H)=>acY P E {S with ds:=ds} l H (a3 S.T H f)
def GW (E:fZ)(b:Code):Option (Exit×aZ×ar)->Option (Exit×aZ×ar)
 |some (.normal,S,H)=>E.code b S H
 |r=>r
def ahL (E:fZ)(S:aZ)(H:ar)(a b:Code):Option (Exit×aZ×ar):=GW E b (E.code a S H)
def Lo (E:fZ)(S:aZ)(H:ar)(x y:Code):Option Value->Option (Exit×aZ×ar)
 |some (.bool true)=>E.code x S H
 |some (.bool false)=>E.code y S H
 |_=>none
def ahE (E:fZ)(S:aZ)(H:ar)(c:Operand)(x y:Code):Option (Exit×aZ×ar):=Lo E S H x y (a3 S.T H c)
def P7 (id:Nat):Option (Exit×aZ×ar)->Option (Exit×aZ×ar)
 |some (.exit mC,S,H)=>bif Nat.beq mC id then some (.normal,S,H) else some (.exit mC,S,H)
 |r=>r
def ahD (E:fZ)(S:aZ)(H:ar)(id:Nat)(c:Code):Option (Exit×aZ×ar):=P7 id (E.code c S H)
def ahG (E:fZ)(S:aZ)(H:ar)(c:Code):Option (Exit×aZ×ar):=GW E (.loop c) (E.code c S H)
def Xg:Option (Exit×aZ×ar)->Option (Exit×aZ×ar)
 |some (.goto _,_,_)=>none
 |r=>r
def ahK (E:fZ)(S:aZ)(H:ar)(c:Code):Option (Exit×aZ×ar):=Xg (E.code c S H)
def ahJ (P:Program)(E:fZ)(S:aZ)(H:ar)(_:Nat)(ops:Array Oper):Bool->Option (Exit×aZ×ar)
 |false=>rj (El P E.call E.aJ ops.toList ops.toList S H)
 |true=>rj (vT P E.call E.aJ ops.toList S H)
def ahI (P:Program)(E:fZ)(S:aZ)(H:ar)(f:Operand)(params:Array Tmp)(assign body:Code):Option (Exit×aZ×ar):=Em P E f params assign body S H
def ahF (S:aZ)(H:ar)(id:Nat):Option (Exit×aZ×ar):=some (.exit id,S,H)
def Xf.{u} {a:Sort u} (_:a):Option (Exit×aZ×ar):=none
def ahH (S:aZ)(H:ar)(_:Nat):Option (Exit×aZ×ar):=some (.normal,S,H)
def LD (P:Program)(E:fZ)(c:Code)(S:aZ)(H:ar):Option (Exit×aZ×ar):=
 Code.casesOn (motive:=fun _=>Option (Exit×aZ×ar)) c
  (some (.normal,S,H)) (ahJ P E S H) (ahL E S H) (ahE E S H) (ahD E S H) (ahG E S H) (ahI P E S H) (ahF S H) (ahK E S H) (ahH S H) Xf (some (.ret,S,H)) Xf
def qT (P:Program)(T:a0 Value)(H:ar):List ResultVar->Option (List Value)
 |[]=>some []
 |.tmp t::l=>(match T.get t with
  |some v=>(match qT P T H l with|some r=>some (v::r)|none=>none)
  |none=>none)
 |.cell a t::l=>(match T.get a with
  |some p=>(match Bw P H t p with
   |some v=>(match qT P T H l with|some r=>some (v::r)|none=>none)
   |none=>none)
  |none=>none)
def pr:List Value->Value
 |[v]=>v
 |vs=>.tuple vs.toArray
def IX:FrameMode->Bool
 |.run=>true
 |_=>false
def hL (P:Program)(E:fZ)(fn:Func)(T:a0 Value):List Deferred->FrameMode->ar->Option (Ending×ar)
 |[],.returning,H=>match qT P T H fn.results.toList with
  |some vs=>some (.returned (pr vs),H)
  |none=>none
 |[],.panicking chain,H=>some (.panicked chain,H)
 |[],.run,_=>none
 |d::ds,u,H=>bif IX u then none else match d.target with
  |.fn lf cap=>match kY P H lf d.args.toList cap.toList with
   |none=>none
   |some (f,args)=>match E.body f args true u H with
    |some (.returned _,u,H)=>hL P E fn T ds (settle u) H
    |some (.panicked chain,u,H)=>hL P E fn T ds (raised u chain) H
    |_=>none
  |.collected r=>match H.mem.get r with
   |some (.gP (some []))=>bif Nat.ble H.bL r then(match H.upd r (.gP none) with
    |some H=>hL P E fn T ds u H
    |none=>none) else none
   |_=>none
  |_=>none
def QU (n:Nat):Nat:=Nat.succ (Nat.log2 (Nat.succ n))
def blank (n:Nat):a0 Value:=a0.full undef (QU n)
def ou:List Value->Nat->a0 Value->Option (a0 Value)
 |[],_,T=>some T
 |v::l,i,T=>match T.set F1 i v with|some T=>ou l (Nat.succ i) T|none=>none
def X' (e:TypeId)(n:Nat)(H:ar):Option (Ending×ar):=
 match H.oO [] e false with
 |some (id,H)=>some (.returned (.slice (some ⟨id,0,none⟩) n cO),H)
 |none=>none
def QP (P:Program)(fn:Func)(H:ar):List Value->List TypeId->Option (Ending×ar)
 |[.int .i64 (.ofNat n)],[t]=>bif decide (fn.name= "internal/bytealg.MakeNoZero")&&decide (fn.origin= "")&&Nat.ble n 1000000 then
  (match P.underlying t with
  |some (.slice e)=>bif Nat.beq (P.cellsOf e) 1 then X' e n H else none
  |_=>none)
  else none
 |_,_=>none
def QQ (P:Program)(fn:Func)(args:List Value)(H:ar):Option Next->Option (Ending×ar)
 |some (.value v)=>bif plain v then some (.returned v,H) else none
 |_=>QP P fn H args fn.resultTypes.toList
def Ya (fn:Func)(H:ar):List Value->Option (Ending×ar)
 |[v]=>bif decide (fn.name= "internal/abi.NoEscape")&&decide (fn.origin= "") then some (.returned v,H) else none
 |_=>none
def Bv (P:Program)(fn:Func)(f:FuncId)(args:List Value)(H:ar):Option (Ending×ar):=
 bif args.all plain then QQ P fn args H (eR P (callFunc f args.toArray)) else Ya fn H args
def qM (bg:FrameMode):Option (Ending×ar)->Option (Ending×FrameMode×ar)
 |some (e,H)=>some (e,bg,H)
 |none=>none
def xx (P:Program)(E:fZ)(fn:Func):Option (Exit×aZ×ar)->Option (Ending×FrameMode×ar)
 |some (.normal,S,H)=>qM S.bg (hL P E fn S.T S.ds .returning H)
 |some (.ret,S,H)=>qM S.bg (hL P E fn S.T S.ds .returning H)
 |some (.panic chain,S,H)=>qM S.bg (hL P E fn S.T S.ds (.panicking chain) H)
 |_=>none
def GM (P:Program)(E:fZ)(fn:Func)(c:Code)(bR:Bool)(bg:FrameMode)(H:ar):Option (a0 Value)->Option (Ending×FrameMode×ar)
 |some T=>xx P E fn (E.code c ⟨T,fn.ntmps,[],bR,bg,none⟩ H)
 |none=>none
def GL (P:Program)(E:fZ)(f:FuncId)(fn:Func)(args:List Value)(bR:Bool)(bg:FrameMode)(H:ar):Option Code->Option (Ending×FrameMode×ar)
 |some c=>GM P E fn c bR bg H (ou args 0 (blank fn.ntmps))
 |none=>bif bR then none else qM bg (Bv P fn f args H)
def sM (P:Program)(fE:a0 Func)(E:fZ)(f:FuncId)(args:List Value)(bR:Bool)(bg:FrameMode)(H:ar):Option (Ending×FrameMode×ar):=
 match fE.get f with
 |none=>none
 |some fn=>GL P E f fn args bR bg H fn.body
def vU (P:Program)(fE:a0 Func)(n:Nat):fZ:=
 Nat.rec (motive:=fun _=>fZ) ⟨fun _ _ _=>none,fun _ _ _ _ _=>none⟩ (fun _ E=>⟨LD P E,sM P fE E⟩) n
def y7 {α:Type}:List α->Nat->a0 α->Option (a0 α)
 |[],_,T=>some T
 |v::l,i,T=>match T.set F1 i v with|some T=>y7 l (Nat.succ i) T|none=>none
end
end Go.Cre
namespace Go.Cre
noncomputable section
open Go.RowKit
theorem a0.Yx{α:Type}(n:Nat):(a0.leaf:a0 α).get n=none:=rfl
theorem a0.HF{α:Type}(v:Option α)(l r:a0 α):(a0.node v l r).get 0=v:=rfl
theorem a0.rO{α:Type}(v:Option α)(l r:a0 α)(m:Nat):(a0.node v l r).get (m+1)=if m % 2=0 then l.get (m / 2) else r.get (m / 2):=by
 show Bool.rec (motive:=fun _=>Option α) (r.get (m / 2)) (l.get (m / 2)) (Nat.beq (m % 2) 0)=_;by_cases h:m % 2=0
 ·rw[aV h];simp[h]
 ·rw[aQ h];have:Nat.beq (m % 2) 0=false:=by
   cases ai:Nat.beq (m % 2) 0
   ·rfl
   ·exact absurd (ez ai) h
  rw[this]
theorem a0.as8{α:Type}(a:α):a0.put a .leaf 0=some (.node (some a) .leaf .leaf):=rfl
theorem a0.as7{α:Type}(a:α)(m:Nat):a0.put a .leaf (m+1)=none:=rfl
theorem a0.ata{α:Type}(a:α)(v:Option α)(l r:a0 α):a0.put a (.node v l r) 0=some (.node (some a) l r):=rfl
theorem a0.NK{α:Type}(a:α)(v:Option α)(l r:a0 α)(m:Nat):
 a0.put a (.node v l r) (m+1)=if m % 2=0 then a0.left v r (a0.put a l (m / 2)) else a0.right v l (a0.put a r (m / 2)):=by
 show Bool.rec (motive:=fun _=>Option (a0 α)) (a0.right v l (a0.put a r (m / 2))) (a0.left v r (a0.put a l (m / 2))) (Nat.beq (m % 2) 0)=_;by_cases h:m % 2=0
 ·rw[aV h];simp[h]
 ·rw[aQ h];have:Nat.beq (m % 2) 0=false:=by
   cases ai:Nat.beq (m % 2) 0
   ·rfl
   ·exact absurd (ez ai) h
  rw[this]
theorem a0.get_put{α:Type}{a:α}{t lx:a0 α}{n:Nat}(h:a0.put a t n=some lx)(m:Nat):lx.get m=if m=n then some a else t.get m:=by
 induction t generalizing lx n m with
 |leaf=>
  cases n with
  |zero=>
   rw[a0.as8] at h;injection h with h;subst h
   cases m with
   |zero=>simp[a0.HF]
   |succ m=>rw[a0.rO];simp[a0.Yx]
  |succ n=>rw[a0.as7] at h;cases h
 |node v l r yr yt=>
  cases n with
  |zero=>
   rw[a0.ata] at h;injection h with h;subst h
   cases m with
   |zero=>simp[a0.HF]
   |succ m=>rw[a0.rO,a0.rO];simp
  |succ n=>
   rw[a0.NK] at h;by_cases aE:n % 2=0
   ·rw[aV aE] at h;cases aq:a0.put a l (n / 2) with
    |none=>rw[aq] at h;cases h
    |some l'=>
     rw[aq] at h;injection h with h;subst h
     cases m with
     |zero=>simp[a0.HF]
     |succ m=>
      rw[a0.rO,a0.rO,yr aq];by_cases hm:m % 2=0
      ·rw[aV hm,aV hm];have:(m / 2=n / 2)↔(m+1=n+1):=by omega
       simp[this]
      ·rw[aQ hm,aQ hm];have:¬(m+1=n+1):=by omega
       rw[aQ this]
   ·rw[aQ aE] at h;cases ao:a0.put a r (n / 2) with
    |none=>rw[ao] at h;cases h
    |some cv=>
     rw[ao] at h;injection h with h;subst h
     cases m with
     |zero=>simp[a0.HF]
     |succ m=>
      rw[a0.rO,a0.rO,yt ao];by_cases hm:m % 2=0
      ·rw[aV hm,aV hm];have:¬(m+1=n+1):=by omega
       rw[aQ this]
      ·rw[aQ hm,aQ hm];have:(m / 2=n / 2)↔(m+1=n+1):=by omega
       simp[this]
theorem a0.Q6{α:Type}{a:α}{t lx:a0 α}{d n:Nat}(h:a0.set d t n a=some lx)(m:Nat):lx.get m=if m=n then some a else t.get m:=a0.get_put h m
theorem lT{α:Type}(l:List α)(n:Nat):nth l n=l[n]?:=by
 induction l generalizing n with
 |nil=>rfl
 |cons a l aP=>cases n with
  |zero=>rfl
  |succ n=>exact aP n
theorem xO{α:Type}(n:Nat)(l:List α):pY n l=l.drop n:=by
 induction l generalizing n with
 |nil=>simp[pY]
 |cons a l aP=>cases n with
  |zero=>rfl
  |succ n=>exact aP n
theorem F0{α:Type}{n:Nat}{l r:List α}(h:takeN n l=some r):r=l.take n/\r.length=n/\n<=l.length:=by
 induction n generalizing l r with
 |zero=>simp[takeN] at h;subst h;simp
 |succ n aP=>
  cases l with
  |nil=>simp[takeN] at h
  |cons a l=>
   simp only[takeN] at h;cases aI:takeN n l with
   |none=>rw[aI] at h;cases h
   |some cv=>
    rw[aI] at h;injection h with h;subst h
    obtain⟨ax,aS,cl⟩:=aP aI;refine⟨by rw[ax,DK],by simp[aS],by simp;omega⟩
theorem UV{α:Type}{n:Nat}{l vs r:List α}(h:gS n l vs=some r):
 r.length=l.length/\n+vs.length<=l.length/\∀i,r[i]?=if n<=i/\i<n+vs.length then vs[i -n]? else l[i]?:=by
 induction n generalizing l r with
 |zero=>
  induction vs generalizing l r with
  |nil=>simp[gS] at h;subst h;exact⟨rfl,by simp,fun i=>by simp⟩
  |cons v vs aP=>
   cases l with
   |nil=>simp[gS] at h
   |cons a l=>
    simp only[gS] at h;cases hs:gS 0 l vs with
    |none=>rw[hs] at h;cases h
    |some cv=>
     rw[hs] at h;injection h with h;subst h
     obtain⟨ax,aS,cl⟩:=aP hs;refine⟨by simp[ax],by simp at*;omega,fun i=>?_⟩;cases i with
     |zero=>simp
     |succ i=>
      have:=cl i;simp only[OL,this];simp
 |succ n aP=>
  cases l with
  |nil=>simp[gS] at h
  |cons a l=>
   simp only[gS] at h;cases hs:gS n l vs with
   |none=>rw[hs] at h;cases h
   |some cv=>
    rw[hs] at h;injection h with h;subst h
    obtain⟨ax,aS,cl⟩:=aP hs;refine⟨by simp[ax],by simp;omega,fun i=>?_⟩;cases i with
    |zero=>simp
    |succ i=>
     have:=cl i;simp only[OL,this];have aC:(n+1<=i+1/\i+1<n+1+vs.length)↔(n<=i/\i<n+vs.length):=by omega
     simp only[aC];split
     ·rw[show i+1 -(n+1)=i -n from by omega]
     ·rfl
structure Loc where
 r:Nat
 N:Nat
 sz:Nat
abbrev bY:=Nat->Option Loc
def isAtom:Value->Bool
 |.bool _|.int _ _|.float _ _|.string _|.nilFunc|.nilIface|.pointer none|.slice none _ _|.map none=>true
 |_=>false
inductive bj (μ:bY):Value->Value->Prop
 |atom (v:Value):isAtom v=true->bj μ v v
 |ptr (id off:Nat) (L:Loc):μ id=some L->bj μ (.pointer (some ⟨id,off,none⟩)) (.pointer (some ⟨L.r,off,none⟩))
 |oc (id off len cap:Nat) (L:Loc):μ id=some L->cap<cO->bj μ (.slice (some ⟨id,off,none⟩) len cap) (.slice (some ⟨L.r,off,none⟩) len cap)
 |qA (id off len cap:Nat) (L:Loc):μ id=some L->len<=cap->off+cap*L.sz<=L.N->bj μ (.slice (some ⟨id,off,none⟩) len cO) (.slice (some ⟨L.r,off,none⟩) len cap)
 |wV (id off gw:Nat) (L:Loc):μ id=some L->bj μ (.slice (some ⟨id,off,none⟩) 0 cO) (.slice (some ⟨L.r,gw,none⟩) 0 0)
 |y2 (a:Addr):bj μ (.slice (some ⟨0,0,some 0⟩) 0 0) (.slice (some a) 0 0)
 |map (id:Nat) (L:Loc):μ id=some L->bj μ (.map (some id)) (.map (some L.r))
 |zb (v:Value):fh v=true->bj μ (.chan none) v
 |func (fn:Fn) (a b b0 b':Array Value):yH fn=true->a.size=b0.size->b.size=b'.size->
  (∀(i:Nat) v v',a[i]?=some v->b0[i]?=some v'->bj μ v v')->(∀(i:Nat) v v',b[i]?=some v->b'[i]?=some v'->bj μ v v')->bj μ (.func fn a b) (.func fn b0 b')
 |yield (l:Nat) (L:Loc):μ l=some L->bj μ (.func (.yield l) #[] #[]) (.func (.yield L.r) #[] #[])
 |iface (t:TypeId) (v v':Value):bj μ v v'->bj μ (.iface t v) (.iface t v')
 |agg (a b0:Array Value):a.size=b0.size->(∀(i:Nat) v v',a[i]?=some v->b0[i]?=some v'->bj μ v v')->bj μ (.agg a) (.agg b0)
 |tuple (a b0:Array Value):a.size=b0.size->(∀(i:Nat) v v',a[i]?=some v->b0[i]?=some v'->bj μ v v')->bj μ (.tuple a) (.tuple b0)
def b3(μ:bY)(l l':List Value):Prop:=l.length=l'.length/\∀(i:Nat) v v',l[i]?=some v->l'[i]?=some v'->bj μ v v'
def Ext(μ bh:bY):Prop:=∀id L,μ id=some L->bh id=some L
theorem Ext.refl(μ:bY):Ext μ μ:=fun _ _ h=>h
theorem Ext.trans{a b c:bY}(h:Ext a b)(k:Ext b c):Ext a c:=fun id L x=>k id L (h id L x)
theorem bj.mono{μ bh:bY}{v v':Value}(h:bj μ v v')(e:Ext μ bh):bj bh v v':=by
 induction h with
 |atom v h=>exact .atom v h
 |ptr id off L h=>exact .ptr id off L (e _ _ h)
 |oc id off len cap L h aC=>exact .oc id off len cap L (e _ _ h) aC
 |qA id off len cap L h aC aE=>exact .qA id off len cap L (e _ _ h) aC aE
 |wV id off gw L h=>exact .wV id off gw L (e _ _ h)
 |y2 a=>exact .y2 a
 |map id L h=>exact .map id L (e _ _ h)
 |zb v h=>exact .zb v h
 |func fn a b b0 b' ap aF ai _ _ aps apt=>exact .func fn a b b0 b' ap aF ai aps apt
 |yield l L h=>exact .yield l L (e _ _ h)
 |iface t v v' _ aP=>exact .iface t v v' aP
 |agg a b0 hs _ aP=>exact .agg a b0 hs aP
 |tuple a b0 hs _ aP=>exact .tuple a b0 hs aP
theorem b3.mono{μ bh:bY}{l l':List Value}(h:b3 μ l l')(e:Ext μ bh):b3 bh l l':=⟨h.1,fun i v v' a b=>(h.2 i v v' a b).mono e⟩
theorem b3.nil(μ:bY):b3 μ [] []:=⟨rfl,fun i v v' h=>by simp at h⟩
theorem b3.cons{μ:bY}{v v':Value}{l l':List Value}(h:bj μ v v')(t:b3 μ l l'):b3 μ (v::l) (v'::l'):=by
 refine⟨by simp[t.1],fun i a b aF ai=>?_⟩;cases i with
 |zero=>simp at aF ai;subst aF;subst ai;exact h
 |succ i=>simp at aF ai;exact t.2 i a b aF ai
theorem b3.jK{μ:bY}{v:Value}{l m:List Value}(h:b3 μ (v::l) m):∃v' l',m=v'::l'/\bj μ v v'/\b3 μ l l':=by
 cases m with
 |nil=>have:=h.1;simp at this
 |cons v' l'=>
  refine⟨v',l',rfl,h.2 0 v v' rfl rfl,by have:=h.1;simpa using this,fun i a b aF ai=>h.2 (i+1) a b (by simpa using aF) (by simpa using ai)⟩
theorem b3.lr{μ:bY}{m:List Value}(h:b3 μ [] m):m=[]:=by
 have:=h.1;exact w'.1 (by simpa using this.symm)
theorem b3.append{μ:bY}{l l' m m':List Value}(h:b3 μ l l')(k:b3 μ m m'):b3 μ (l++m) (l'++m'):=by
 refine⟨by simp[h.1,k.1],fun i a b aF ai=>?_⟩;rw[V3] at aF ai;rw[<-h.1] at ai;split at aF
 ·rename_i ak;rw[aV ak] at ai;exact h.2 i a b aF ai
 ·rename_i ak;rw[aQ ak] at ai;exact k.2 _ a b aF ai
theorem b3.take{μ:bY}{l l':List Value}(h:b3 μ l l')(n:Nat):b3 μ (l.take n) (l'.take n):=by
 refine⟨by simp[h.1],fun i a b aF ai=>?_⟩;rw[jY] at aF ai;split at aF
 ·rename_i ak;rw[aV ak] at ai;exact h.2 i a b aF ai
 ·cases aF
theorem b3.drop{μ:bY}{l l':List Value}(h:b3 μ l l')(n:Nat):b3 μ (l.drop n) (l'.drop n):=by
 refine⟨by simp[h.1],fun i a b aF ai=>?_⟩;rw[o0] at aF ai;exact h.2 _ a b aF ai
theorem b3.get{μ:bY}{l l':List Value}(h:b3 μ l l'){i:Nat}{v:Value}(av:l[i]?=some v):∃v',l'[i]?=some v'/\bj μ v v':=by
 have ak:i<l.length:=by
  rcases hH i l.length with x|x
  ·exact x
  ·rw[jX x] at av;cases av
 have lk:i<l'.length:=h.1▸ak;exact⟨l'[i],ey lk,h.2 i v _ av (ey lk)⟩
theorem bj.GC{μ:bY}{l l':List Value}(h:b3 μ l l'):bj μ (.agg l.toArray) (.agg l'.toArray):=
 .agg _ _ (by simp[h.1]) fun i v v' a b=>h.2 i v v' (by simpa using a) (by simpa using b)
theorem bj.U8{μ:bY}{l l':List Value}(h:b3 μ l l'):bj μ (.tuple l.toArray) (.tuple l'.toArray):=
 .tuple _ _ (by simp[h.1]) fun i v v' a b=>h.2 i v v' (by simpa using a) (by simpa using b)
theorem bj.WM{μ:bY}{a:Array Value}{v:Value}(h:bj μ (.agg a) v):∃b0,v=.agg b0/\b3 μ a.toList b0.toList:=by
 cases h with
 |atom _ h=>simp[isAtom] at h
 |agg _ b0 hs ao=>exact⟨b0,rfl,by simpa using hs,fun i v v' x y=>ao i v v' (by simpa using x) (by simpa using y)⟩
theorem bj.avW{μ:bY}{a:Array Value}{v:Value}(h:bj μ (.tuple a) v):∃b0,v=.tuple b0/\b3 μ a.toList b0.toList:=by
 cases h with
 |atom _ h=>simp[isAtom] at h
 |tuple _ b0 hs ao=>exact⟨b0,rfl,by simpa using hs,fun i v v' x y=>ao i v v' (by simpa using x) (by simpa using y)⟩
theorem bj.undef(μ:bY):bj μ undef undef:=.tuple _ _ rfl fun i v v' h=>by simp at h
theorem bj.arQ{μ:bY}:∀{n:Nat} {v:Value},iV n v=true->bj μ v v:=by
 intro n;induction n with
 |zero=>intro v h;simp[iV] at h
 |succ n aP=>
  intro v h;cases v with
  |bool b=>exact .atom _ rfl
  |int k n=>exact .atom _ rfl
  |float k b=>exact .atom _ rfl
  |complex k a b=>simp[iV] at h
  |string s=>exact .atom _ rfl
  |pointer a=>cases a with
   |none=>exact .atom _ rfl
   |some a=>simp[iV] at h
  |slice a l c=>cases a with
   |none=>exact .atom _ rfl
   |some a=>simp[iV] at h
  |map r=>cases r with
   |none=>exact .atom _ rfl
   |some a=>simp[iV] at h
  |chan r=>simp[iV] at h
  |func fn a b=>
   cases fn with
   |func f=>
    simp[iV] at h;obtain⟨rfl,rfl⟩:=h;exact .func _ _ _ _ _ rfl rfl rfl (fun i v v' h=>by simp at h) (fun i v v' h=>by simp at h)
   |_=>simp[iV] at h
  |nilFunc=>exact .atom _ rfl
  |iface t v=>simp only[iV] at h;exact .iface _ _ _ (aP h)
  |nilIface=>exact .atom _ rfl
  |agg cs=>
   simp only[iV,rA] at h;exact .agg _ _ rfl fun i v v' a b=>by
    rw[a] at b;injection b with b;subst b
    exact aP (h v (Gi.2 (Ku a)))
  |tuple cs=>
   simp only[iV,rA] at h;exact .tuple _ _ rfl fun i v v' a b=>by
    rw[a] at b;injection b with b;subst b
    exact aP (h v (Gi.2 (Ku a)))
theorem WX{a b:Array Value}(hs:a.size=b.size)(h:∀(i:Nat) v v',a[i]?=some v->b[i]?=some v'->v'=v):b=a:=by
 apply Array.ext hs.symm
 intro i ad ae;exact h i a[i] b[i] (AT ae) (AT ad)
theorem bj.NI{μ:bY}:∀{n:Nat} {v v':Value},iV n v=true->bj μ v v'->v'=v:=by
 intro n;induction n with
 |zero=>intro v v' h;simp[iV] at h
 |succ n aP=>
  intro v v' h ao;cases ao with
  |atom _ _=>rfl
  |ptr=>simp[iV] at h
  |oc=>simp[iV] at h
  |qA=>simp[iV] at h
  |wV=>simp[iV] at h
  |y2=>simp[iV] at h
  |map=>simp[iV] at h
  |zb=>simp[iV] at h
  |func fn a b b0 b' ap aF ai MB z'=>
   cases fn with
   |func f=>
    simp[iV] at h;obtain⟨rfl,rfl⟩:=h;have ax:b0=#[]:=afl (by simpa using aF.symm);have aS:b'=#[]:=afl (by simpa using ai.symm);rw[ax,aS]
   |_=>simp[iV] at h
  |yield=>simp[iV] at h
  |iface t v v' av=>simp only[iV] at h;rw[aP h av]
  |agg a b0 hs av=>
   simp only[iV,rA] at h;rw[WX hs fun i v v' x y=>aP (h v (Gi.2 (Ku x))) (av i v v' x y)]
  |tuple a b0 hs av=>
   simp only[iV,rA] at h;rw[WX hs fun i v v' x y=>aP (h v (Gi.2 (Ku x))) (av i v v' x y)]
theorem bj.cells{μ:bY}{v v':Value}(h:bj μ v v'):b3 μ v.cells.toList v'.cells.toList:=by
 cases h with
 |agg a b0 hs av=>exact⟨by simpa[Value.cells] using hs,fun i v v' x y=>av i v v' (by simpa[Value.cells] using x) (by simpa[Value.cells] using y)⟩
 |atom v h=>cases v<;>first|(simp[isAtom] at h;done)|exact b3.cons (.atom _ h) (b3.nil _)
 |ptr id off L h=>exact b3.cons (.ptr id off L h) (b3.nil _)
 |oc id off len cap L h aC=>exact b3.cons (.oc id off len cap L h aC) (b3.nil _)
 |qA id off len cap L h aC aE=>exact b3.cons (.qA id off len cap L h aC aE) (b3.nil _)
 |wV id off gw L h=>exact b3.cons (.wV id off gw L h) (b3.nil _)
 |y2 a=>exact b3.cons (.y2 a) (b3.nil _)
 |map id L h=>exact b3.cons (.map id L h) (b3.nil _)
 |zb _ h=>cases v'<;>first|(simp[fh] at h;done)|exact b3.cons (.zb _ h) (b3.nil _)
 |func fn a b b0 b' ap aF ai MB z'=>exact b3.cons (.func fn a b b0 b' ap aF ai MB z') (b3.nil _)
 |yield l L h=>exact b3.cons (.yield l L h) (b3.nil _)
 |iface t v v' av=>exact b3.cons (.iface t v v' av) (b3.nil _)
 |tuple a b0 hs av=>exact b3.cons (.tuple a b0 hs av) (b3.nil _)
theorem bj.fh{μ:bY}{v v':Value}(h:bj μ v v'):fh v'=fh v:=by
 cases h<;>first|rfl|assumption
end
end Go.Cre

/- A part of the proof of TableRounds. -/
import Derived.Test.YtfdhclnfkafebaaGreatDoorCaa
import Derived.Below
set_option linter.unusedVariables false
set_option linter.unusedSimpArgs false
namespace Go.Cre
noncomputable section
def Ds:Op->Bool
 |.store ..|.mapUpdate ..|.insert ..|.mapEntry ..|.entryStore ..|.next ..|.go _|.defer _|.panic _|.send ..|.recv ..|.select ..|.ready _=>true
 |.call {callee:=.builtin b,..}=>match b with|.len|.cap|.min|.max=>false|_=>true
 |.call _=>true
 |_=>false
def yZ:Op->Bool
 |.alloc _|.box ..|.buildSlice ..|.makeMap ..|.makeSlice ..=>true
 |_=>false
def looks (ops:List Oper)(o:Oper):List Tmp:=
 (o.op.operands.toList.filterMap fun|.tmp t=>some t|_=>none)++
 (match o.guard with
  |some (g,_)=>(match nth ops g with|some p=>p.dst.toList|none=>[])
  |none=>[])
def Ct:List Edge->Nat
 |[]=>0
 |e::l=>bif Region.binds .any e then Nat.lor (Nat.pow 2 e.on) (Ct l) else Ct l
def Oper.jb (o:Oper):Nat:=Ct o.after.toList
def sub (a b:Nat):Bool:=Nat.beq (Nat.land a b) a
def Qv (ops:List Oper)(a b:Oper):Bool:=match a.dst with|some d=>(looks ops b).any (Nat.beq d)|none=>false
def TN (ops:List Oper)(i:Nat)(a:Oper):List Oper->Bool
 |[]=>false
 |b::l=>(Qv ops a b&&!Nat.testBit (Oper.jb b) i)||TN ops i a l
def Cm (ops:List Oper):List Oper->Nat->Nat
 |[],_=>0
 |o::l,i=>Nat.lor (bif Ds o.op||TN ops i o ops then Nat.pow 2 i else 0) (Cm ops l (i+1))
def yj:List Oper->Nat->Nat
 |[],_=>0
 |o::l,i=>Nat.lor (bif yZ o.op then Nat.pow 2 i else 0) (yj l (i+1))
inductive jP where
 |val (i:Nat)
 |ka (i:Nat)
 |bR (i:Nat)
 |b9 (l:List Nat)
def Lo (ok:Nat->Bool)(C:Nat):List Oper->Nat->Option Nat
 |[],_=>none
 |o::l,i=>bif !Nat.testBit C i&&ok i&&sub (Oper.jb o) C then some i else Lo ok C l (i+1)
def uS (ops:List Oper):Nat->Nat->Nat
 |0,K=>K
 |n+1,K=>uS ops n (bif Nat.testBit K n then(match nth ops n with|some o=>Nat.lor K (Oper.jb o)|none=>K) else K)
def bitsOf (m:Nat):Nat->List Nat
 |0=>[]
 |n+1=>bif Nat.testBit m n then n::bitsOf m n else bitsOf m n
def A':List Nat->Nat
 |[]=>0
 |i::l=>Nat.lor (Nat.pow 2 i) (A' l)
def DE (ops:List Oper)(ct dp:Nat):Nat->Nat->Nat->Nat->List jP
 |0,_,_,_=>[]
 |n+1,C,K,G=>
  match Lo (fun i=>!Nat.testBit ct i&&Nat.testBit dp i) C ops 0 with
  |some i=>.ka i::DE ops ct dp n (Nat.lor C (Nat.pow 2 i)) K (Nat.lor (Nat.land G dp) (Nat.pow 2 i))
  |none=>match Lo (fun i=>!Nat.testBit ct i&&!Nat.testBit dp i) C ops 0 with
   |some i=>.val i::DE ops ct dp n (Nat.lor C (Nat.pow 2 i)) K (Nat.lor G (Nat.pow 2 i))
   |none=>match bitsOf (Nat.xor C (Nat.land C (Nat.lor K G))) ops.length with
    |i::l=>.b9 (i::l)::DE ops ct dp n C K (Nat.lor G (A' (i::l)))
    |[]=>match Lo (Nat.testBit ct) C ops 0 with
     |some i=>.bR i::DE ops ct dp n (Nat.lor C (Nat.pow 2 i)) (uS ops ops.length (Nat.lor K (Nat.pow 2 i))) (Nat.land G dp)
     |none=>[]
def only(C i:Nat):List Oper->Nat->Bool
 |[],_=>true
 |o::l,k=>(Nat.testBit C k||Nat.beq k i||!sub (Oper.jb o) C)&&only C i l (k+1)
def KB (C:Nat):Nat->Bool
 |0=>true
 |n+1=>Nat.testBit C n&&KB C n
def fits (ops:List Oper)(C i:Nat):Bool:=!Nat.testBit C i&&(match nth ops i with|some o=>sub (Oper.jb o) C|none=>false)
def Ja (ct dp C:Nat):List Nat->Bool
 |[]=>true
 |i::l=>Nat.testBit C i&&!Nat.testBit dp i&&Ja ct dp C l
def oo (ops:List Oper)(ct dp:Nat):Nat->Nat->Nat->List jP->Bool
 |C,K,G,[]=>KB C ops.length&&sub C (Nat.lor K G)
 |C,K,G,.val i::l=>fits ops C i&&!Nat.testBit ct i&&!Nat.testBit dp i&&oo ops ct dp (Nat.lor C (Nat.pow 2 i)) K (Nat.lor G (Nat.pow 2 i)) l
 |C,K,G,.ka i::l=>fits ops C i&&!Nat.testBit ct i&&Nat.testBit dp i&&oo ops ct dp (Nat.lor C (Nat.pow 2 i)) K (Nat.lor (Nat.land G dp) (Nat.pow 2 i)) l
 |C,K,G,.b9 s::l=>Ja ct dp C s&&oo ops ct dp C K (Nat.lor G (A' s)) l
 |C,K,G,.bR i::l=>fits ops C i&&Nat.testBit ct i&&only C i ops 0&&sub C (Nat.lor K G)&&
  (match nth ops i with|some o=>sub (Oper.jb o) (uS ops ops.length (Nat.lor K (Nat.pow 2 i)))&&Nat.testBit (uS ops ops.length (Nat.lor K (Nat.pow 2 i))) i|none=>false)&&
  oo ops ct dp (Nat.lor C (Nat.pow 2 i)) (uS ops ops.length (Nat.lor K (Nat.pow 2 i))) (Nat.land G dp) l
def Zo (a b:Oper):Bool:=match a.dst,b.dst with|some d,some e=>Nat.beq d e|_,_=>false
def DW (ops:List Oper)(ct i j:Nat)(a b:Oper):Bool:=
 (Nat.beq i j||!Zo a b)&&(!Qv ops a b||Nat.testBit (Oper.jb b) i||(Nat.testBit ct i&&(Nat.beq i j||Nat.testBit (Oper.jb a) j)))
def Ll (ops:List Oper)(ct i:Nat)(a:Oper):List Oper->Nat->Bool
 |[],_=>true
 |b::l,j=>DW ops ct i j a b&&Ll ops ct i a l (j+1)
def HJ (ops:List Oper)(ct:Nat):List Oper->Nat->Bool
 |[],_=>true
 |a::l,i=>Ll ops ct i a ops 0&&Nat.blt (Oper.jb a) (Nat.pow 2 i)&&(Nat.testBit ct i||!Ds a.op)&&HJ ops ct l (i+1)
def Fp (ops:List Oper):Bool:=
 HJ ops (Cm ops ops 0) ops 0&&oo ops (Cm ops ops 0) (yj ops 0) 0 0 0 (DE ops (Cm ops ops 0) (yj ops 0) (3*ops.length+3) 0 0 0)
def jB (f:Value->Value->Bool):List Value->List Value->Bool
 |[],[]=>true
 |x::l,y::m=>f x y&&jB f l m
 |_,_=>false
def addrEq:Option Addr->Option Addr->Bool
 |none,none=>true
 |some ⟨a,b,none⟩,some ⟨c,d,none⟩=>Nat.beq a c&&Nat.beq b d
 |some ⟨0,0,some 0⟩,some ⟨0,0,some 0⟩=>true
 |_,_=>false
def X7:Option Nat->Option Nat->Bool
 |none,none=>true
 |some a,some b=>Nat.beq a b
 |_,_=>false
def T8:Bool->Bool->Bool
 |true,true=>true
 |false,false=>true
 |_,_=>false
def NT:Fn->Fn->Bool
 |.func f,.func g=>Nat.beq f g
 |_,_=>false
def eD:Nat->Value->Value->Bool
 |0,_,_=>false
 |n+1,a,b=>match a,b with
  |.bool a,.bool b=>T8 a b
  |.int k a,.int l b=>mi k l&&qx a b
  |.string a,.string b=>decide (a.data.toList=b.data.toList)
  |.pointer a,.pointer b=>addrEq a b
  |.slice a l c,.slice b m d=>addrEq a b&&Nat.beq l m&&Nat.beq c d
  |.map a,.map b=>X7 a b
  |.nilFunc,.nilFunc=>true
  |.nilIface,.nilIface=>true
  |.iface t v,.iface u w=>Nat.beq t u&&eD n v w
  |.agg a,.agg b=>jB (eD n) a.toList b.toList
  |.tuple a,.tuple b=>jB (eD n) a.toList b.toList
  |.func f a b,.func g c d=>NT f g&&jB (eD n) a.toList c.toList&&jB (eD n) b.toList d.toList
  |_,_=>false
inductive jg where
 |ptr
 |BB (len cap:Nat)
 |map
def jg.at (id:Nat):jg->Value
 |.ptr=>.pointer (some ⟨id,0,none⟩)
 |.BB l c=>.slice (some ⟨id,0,none⟩) l c
 |.map=>.map (some id)
def qF (T:a4 Value)(x:Operand):Option Value:=
 Operand.rec (motive:=fun _=>Option Value) (fun t=>T.get t) Rg (fun _=>none) (fun f=>some (.func (.func f) #[] #[])) x
def sN (T:a4 Value):List (Nat×Operand)->Option (List (Nat×Value))
 |[]=>some []
 |(i,x)::l=>match qF T x with
  |some v=>match sN T l with|some r=>some ((i,v)::r)|none=>none
  |none=>none
def zW (elem:TypeId)(v:Value):Option (fs×jg):=
 bif v.cells.toList.all ff then some (.row v.cells.toList elem false 0 0 false,.ptr) else none
def EQ (P:Program)(t:TypeId)(l c:Value):Option (fs×jg):=
 match l,c,P.underlying t with
 |.int _ l,.int _ c,some (.slice elem)=>
  match gR P elem,uQ P elem,eV P elem with
  |some z,some jm,some sz=>
   match qz c 1000000,qz l 1000000 with
   |some c,some l=>
    bif Nat.ble l c&&Nat.ble jm 1000000&&Nat.beq z.cells.toList.length sz&&z.cells.toList.all ff&&plain z then
     some (.row (fM z.cells.toList c) elem false 0 0 false,.BB l c)
    else none
   |_,_=>none
  |_,_,_=>none
 |_,_,_=>none
def EP (P:Program)(t:TypeId)(len:Nat)(parts:List (Nat×Value)):Option (fs×jg):=
 match P.underlying t with
 |some (.slice elem)=>match eV P elem,gR P elem with
  |some sz,some z=>
   bif Nat.ble len 100000&&Nat.ble (len*sz) 100000&&plain z&&Nat.beq z.cells.toList.length sz then
    match nr (fun i=>some (i*sz,sz)) (fM z.cells.toList len) parts with
    |some cells=>bif cells.all ff then some (.row cells elem false 0 0 false,.BB len len) else none
    |none=>none
   else none
  |_,_=>none
 |_=>none
def GV (P:Program)(t:TypeId)(r:Operand):Option (fs×jg):=
 match r with
 |.const (.int .i64 (.ofNat 0))=>(match P.underlying t with|some (.map _ _)=>some (fs.dead,jg.map)|_=>none)
 |_=>none
def nm (P:Program)(T:a4 Value):Op->Option (fs×jg)
 |.alloc elem=>(match gR P elem with|some z=>bif plain z then zW elem z else none|none=>none)
 |.box elem x=>(match qF T x with|some v=>zW elem v|none=>none)
 |.buildSlice t len parts=>(match sN T parts.toList with|some ps=>EP P t len ps|none=>none)
 |.makeMap _ none=>some (.map [] 0,.map)
 |.makeMap t (some r)=>GV P t r
 |.makeSlice t l c=>(match qF T l,qF T c with|some l,some c=>EQ P t l c|_,_=>none)
 |_=>none
abbrev qS:=a5->aw->Option dI
def pR (k:qS)(H:aw)(S:Option a5):Option dI:=Option.rec (motive:=fun _=>Option dI) none (fun S=>k S H) S
def D' (S:a5)(H:aw)(dst:Option Tmp)(k:qS):Option cT->Option dI
 |some (.val v H')=>bif Nat.beq H'.aG H.aG then pR k H (S.put dst v) else none
 |_=>none
def aaq (P:Program)(call:eZ)(aQ:hd)(S:a5)(H:aw)(o:Oper)(k:qS)(b:Bool):Option dI:=
 Bool.rec (motive:=fun _=>Option dI) (pR k H (S.put o.dst undef)) (D' S H o.dst k (cL P call aQ S H o)) b
def mN (P:Program)(call:eZ)(aQ:hd)(ops:List Oper)(S:a5)(H:aw)(k:qS)(o:Oper):Option dI:=
 Option.rec (motive:=fun _=>Option dI) none (aaq P call aQ S H o k) (gp ops S.T o)
def MH (S:a5)(dst:Option Tmp)(k:qS)(eJ:jg):Option (Nat×aw)->Option dI
 |some (a,H)=>pR k H (S.put dst (eJ.at a))
 |none=>none
def MG (S:a5)(H:aw)(dst:Option Tmp)(k:qS):Option (fs×jg)->Option dI
 |some (b,eJ)=>MH S dst k eJ (H.new b)
 |none=>none
def TI (P:Program)(S:a5)(H:aw)(o:Oper)(k:qS)(b:Bool):Option dI:=
 Bool.rec (motive:=fun _=>Option dI) (pR k H (S.put o.dst undef)) (MG S H o.dst k (nm P S.T o.op)) b
def EN (P:Program)(ops:List Oper)(S:a5)(H:aw)(k:qS)(o:Oper):Option dI:=
 Option.rec (motive:=fun _=>Option dI) none (TI P S H o k) (gp ops S.T o)
def kG (k:qS):Option dI->Option dI
 |some (.ok S H)=>k S H
 |_=>none
def M9 (aG:Nat)(T:a4 Value)(dst:Option Tmp):Option cT->Bool
 |some (.val v H')=>Nat.beq H'.aG aG&&(match dst with
  |none=>true
  |some d=>(match T.get d with|some u=>eD 8 v u|none=>false))
 |_=>false
def Ul (P:Program)(call:eZ)(aQ:hd)(ops:List Oper)(S:a5)(H:aw)(o:Oper):Option Bool->Bool
 |some true=>M9 H.aG S.T o.dst (cL P call aQ S H o)
 |some false=>true
 |none=>false
def z4 (P:Program)(call:eZ)(aQ:hd)(ops:List Oper)(S:a5)(H:aw)(i:Nat):Bool:=
 match nth ops i with
 |some o=>Ul P call aQ ops S H o (gp ops S.T o)
 |none=>false
def jN (ops:List Oper)(i:Nat)(f:Oper->Option dI):Option dI:=Option.rec (motive:=fun _=>Option dI) none f (nth ops i)
def E' (P:Program)(call:eZ)(aQ:hd)(ops:List Oper)(S:a5)(H:aw)(k:qS)(l:List Nat):Option dI:=
 bif l.all (z4 P call aQ ops S H) then k S H else none
def Ut (P:Program)(call:eZ)(aQ:hd)(ops:List Oper)(k:qS)(S:a5)(H:aw)(s:jP):Option dI:=
 jP.rec (motive:=fun _=>Option dI) (fun i=>jN ops i (mN P call aQ ops S H k)) (fun i=>jN ops i (EN P ops S H k)) (fun i=>jN ops i fun o=>kG k (one P call aQ ops S H o)) (E' P call aQ ops S H k) s
def dU (P:Program)(call:eZ)(aQ:hd)(ops:List Oper)(l:List jP):qS:=
 List.rec (motive:=fun _=>qS) (fun S H=>some (.ok S H)) (fun s _ k S H=>Ut P call aQ ops k S H s) l
def Lq (ops:List Oper):List jP:=DE ops (Cm ops ops 0) (yj ops 0) (3*ops.length+3) 0 0 0
def Ab (P:Program)(call:eZ)(aQ:hd)(ops:List Oper)(S:a5)(H:aw):Option dI:=
 bif Fp ops then dU P call aQ ops (Lq ops) S H else none
def ae6 (t:Nat):Option Tmp->Bool
 |some u=>Nat.beq u t
 |none=>false
structure Lit where
 t:Nat
 m:Nat
 dH:TypeId
 n:Nat
def Xx:List Oper->Option (Nat×TypeId)
 |[]=>none
 |o::l=>match o.op with
  |.insert dH (.tmp t) _ _=>some (t,dH)
  |_=>Xx l
def Xv (t:Nat):List Oper->Nat->Nat
 |[],i=>i
 |o::l,i=>bif ae6 t o.dst then i else Xv t l (Nat.succ i)
def Qp:List Oper->Nat->Nat->Nat
 |[],_,n=>n
 |o::l,i,n=>match o.op with
  |.insert _ _ _ _=>Qp l (Nat.succ i) (Nat.succ i)
  |_=>Qp l (Nat.succ i) n
def KI (ops:List Oper):Option Lit:=match Xx ops with
 |some (t,dH)=>some ⟨t,Xv t ops 0,dH,Qp ops 0 0⟩
 |none=>none
def yz (P:Program)(call:eZ)(aQ:hd)(ops:List Oper)(S:a5)(H:aw):Option dI:=
 Option.rec (motive:=fun _=>Option dI) (Ab P call aQ ops S H) (fun _=>none) (KI ops)
structure fN where
 code:Code->a5->aw->Option (Exit×a5×aw)
 body:FuncId->List Value->Bool->FrameMode->aw->Option (Ending×FrameMode×aw)
def fN.call (E:fN):eZ:=fun f args H=>match E.body f args false .run H with
 |some (e,_,H)=>some (e,H)
 |none=>none
def zd:a4 Value->List Tmp->List Value->Option (a4 Value)
 |T,[],[]=>some T
 |T,t::gF,v::vs=>match T.set D6 t v with|some T=>zd T gF vs|none=>none
 |_,_,_=>none
def EO (n:Nat):List Nat->Bool
 |[]=>true
 |x::l=>Nat.blt x n&&EO n l
def Qh:Exit->Option (Option Code)
 |.normal=>some none
 |.ret=>some (some .ret)
 |.exit id=>some (some (.exit id))
 |_=>none
def aqC (j:Option Code):Option aw->Option (Ending×aw)
 |some H=>some (.returned (.bool j.isNone),H)
 |none=>none
def LZ (H:aw)(l:Nat)(j:Option Code):Option (Ending×aw):=
 match H.mem.get l with
 |some (.loop r)=>aqC j (H.upd l (.loop {r with state:=if j.isNone then .ready else .done,pending:=j}))
 |_=>none
def aaV (l:Nat):Option (Exit×a5×aw)->Option (Ending×aw)
 |some (e,_,H)=>(match Qh e with
  |some j=>LZ H l j
  |none=>none)
 |none=>none
def aqB (E:fN)(l:Nat)(body:Code)(S:a5):Option aw->Option (Ending×aw)
 |some H=>aaV l (E.code body S H)
 |none=>none
def Ss (E:fN)(l:Nat)(body:Code)(S:a5)(H:aw):Option (Ending×aw):=
 match H.mem.get l with
 |some (.loop r)=>(match r.state with
  |.ready=>aqB E l body S (H.upd l (.loop {r with state:=.busy}))
  |_=>none)
 |_=>none
def aaU (E:fN)(l:Nat)(body:Code):Option (Exit×a5×aw)->Option (Ending×aw)
 |some (.normal,S,H)=>Ss E l body S H
 |_=>none
def aqD (E:fN)(l:Nat)(r:Ek)(H:aw):Option (a4 Value)->Option (Ending×aw)
 |some T=>aaU E l r.body (E.code r.assign ⟨T,r.n,[],false,.run,some l⟩ H)
 |none=>none
def fN.aQ (E:fN):hd:=fun l args H=>
 match H.mem.get l with
 |some (.loop r)=>bif Nat.ble H.bU l&&EO r.n r.params then aqD E l r H (zd r.T r.params args) else none
 |_=>none
def uf:Option dI->Option (Exit×a5×aw)
 |some (.ok S H)=>some (.normal,S,H)
 |some (.jc chain S H)=>some (.panic chain,S,H)
 |none=>none
def Lw (S:a5)(H:aw):Option (Nat×List Deferred×aw):=
 match S.cP with
 |some l=>(match H.mem.get l with|some (.loop r)=>some (r.hR,S.ds,H)|_=>none)
 |none=>(match H.new (.hR (some [])) with|some (r,H)=>some (r,{target:=.collected r,args:=#[]}::S.ds,H)|none=>none)
def Y4 (S:a5):Option Code->aw->Option (Exit×a5×aw)
 |none,H=>some (.normal,S,H)
 |some .ret,H=>some (.ret,S,H)
 |some (.exit id),H=>some (.exit id,S,H)
 |some _,_=>none
def Rp (S:a5)(l:Nat)(H:aw):Option (Exit×a5×aw):=
 match H.mem.get l with
 |some (.loop r)=>(match r.state with
  |.busy=>none
  |_=>(match H.upd l (.loop {r with state:=.exhausted}) with
   |none=>none
   |some H=>Y4 S r.pending H))
 |_=>none
def Y3 (S:a5)(l:Nat):Option (Ending×FrameMode×aw)->Option (Exit×a5×aw)
 |some (.returned _,_,H)=>Rp S l H
 |some (.panicked chain,_,H)=>some (.panic chain,S,H)
 |_=>none
def am9 (P:Program)(E:fN)(S:a5)(l:Nat)(H:aw):Option Value->Option (Exit×a5×aw)
 |some (.func fn first captured)=>(match kY P H fn (first.toList++[.func (.yield l) #[] #[]]) captured.toList with
  |none=>none
  |some (g,b2)=>Y3 S l (E.body g b2 false .run H))
 |_=>none
def JA (P:Program)(E:fN)(f:Operand)(params:Array Tmp)(assign body:Code)(S:a5)(H:aw):Option (Exit×a5×aw):=
 match Lw S H with
 |none=>none
 |some (d,ds,H)=>
  match H.new (.loop {state:=.ready,pending:=none,T:=S.T,n:=S.n,params:=params.toList,assign,body,hR:=d}) with
  |none=>none
  |some (l,H)=>am9 P E {S with ds:=ds} l H (ba S.T H f)
def E7 (E:fN)(b:Code):Option (Exit×a5×aw)->Option (Exit×a5×aw)
 |some (.normal,S,H)=>E.code b S H
 |r=>r
def adk (E:fN)(S:a5)(H:aw)(a b:Code):Option (Exit×a5×aw):=E7 E b (E.code a S H)
def Jn (E:fN)(S:a5)(H:aw)(x y:Code):Option Value->Option (Exit×a5×aw)
 |some (.bool true)=>E.code x S H
 |some (.bool false)=>E.code y S H
 |_=>none
def adb (E:fN)(S:a5)(H:aw)(c:Operand)(x y:Code):Option (Exit×a5×aw):=Jn E S H x y (ba S.T H c)
def M4 (id:Nat):Option (Exit×a5×aw)->Option (Exit×a5×aw)
 |some (.exit mg,S,H)=>bif Nat.beq mg id then some (.normal,S,H) else some (.exit mg,S,H)
 |r=>r
def ada (E:fN)(S:a5)(H:aw)(id:Nat)(c:Code):Option (Exit×a5×aw):=M4 id (E.code c S H)
def adf (E:fN)(S:a5)(H:aw)(c:Code):Option (Exit×a5×aw):=E7 E (.loop c) (E.code c S H)
def Ud:Option (Exit×a5×aw)->Option (Exit×a5×aw)
 |some (.goto _,_,_)=>none
 |r=>r
def adj (E:fN)(S:a5)(H:aw)(c:Code):Option (Exit×a5×aw):=Ud (E.code c S H)
def adi (P:Program)(E:fN)(S:a5)(H:aw)(_:Nat)(ops:Array Oper):Bool->Option (Exit×a5×aw)
 |false=>uf (Cx P E.call E.aQ ops.toList ops.toList S H)
 |true=>uf (yz P E.call E.aQ ops.toList S H)
def adh (P:Program)(E:fN)(S:a5)(H:aw)(f:Operand)(params:Array Tmp)(assign body:Code):Option (Exit×a5×aw):=JA P E f params assign body S H
def ade (S:a5)(H:aw)(id:Nat):Option (Exit×a5×aw):=some (.exit id,S,H)
def Uc.{u} {a:Sort u} (_:a):Option (Exit×a5×aw):=none
def adg (S:a5)(H:aw)(_:Nat):Option (Exit×a5×aw):=some (.normal,S,H)
def Jv (P:Program)(E:fN)(c:Code)(S:a5)(H:aw):Option (Exit×a5×aw):=
 Code.casesOn (motive:=fun _=>Option (Exit×a5×aw)) c
  (some (.normal,S,H)) (adi P E S H) (adk E S H) (adb E S H) (ada E S H) (adf E S H) (adh P E S H) (ade S H) (adj E S H) (adg S H) Uc (some (.ret,S,H)) Uc
def qi (P:Program)(T:a4 Value)(H:aw):List ResultVar->Option (List Value)
 |[]=>some []
 |.tmp t::l=>(match T.get t with
  |some v=>(match qi P T H l with|some r=>some (v::r)|none=>none)
  |none=>none)
 |.cell a t::l=>(match T.get a with
  |some p=>(match Ad P H t p with
   |some v=>(match qi P T H l with|some r=>some (v::r)|none=>none)
   |none=>none)
  |none=>none)
def tZ:List Value->Value
 |[v]=>v
 |vs=>.tuple vs.toArray
def KC:FrameMode->Bool
 |.run=>true
 |_=>false
def iY (P:Program)(E:fN)(fn:Func)(T:a4 Value):List Deferred->FrameMode->aw->Option (Ending×aw)
 |[],.returning,H=>match qi P T H fn.results.toList with
  |some vs=>some (.returned (tZ vs),H)
  |none=>none
 |[],.panicking chain,H=>some (.panicked chain,H)
 |[],.run,_=>none
 |d::ds,u,H=>bif KC u then none else match d.target with
  |.fn k0 cap=>match kY P H k0 d.args.toList cap.toList with
   |none=>none
   |some (f,args)=>match E.body f args true u H with
    |some (.returned _,u,H)=>iY P E fn T ds (settle u) H
    |some (.panicked chain,u,H)=>iY P E fn T ds (raised u chain) H
    |_=>none
  |.collected r=>match H.mem.get r with
   |some (.hR (some []))=>bif Nat.ble H.bU r then(match H.upd r (.hR none) with
    |some H=>iY P E fn T ds u H
    |none=>none) else none
   |_=>none
  |_=>none
def NR (n:Nat):Nat:=Nat.succ (Nat.log2 (Nat.succ n))
def blank (n:Nat):a4 Value:=a4.full undef (NR n)
def nS:List Value->Nat->a4 Value->Option (a4 Value)
 |[],_,T=>some T
 |v::l,i,T=>match T.set D6 i v with|some T=>nS l (Nat.succ i) T|none=>none
def UU (e:TypeId)(n:Nat)(H:aw):Option (Ending×aw):=
 match H.oj [] e false with
 |some (id,H)=>some (.returned (.slice (some ⟨id,0,none⟩) n cQ),H)
 |none=>none
def NN (P:Program)(fn:Func)(H:aw):List Value->List TypeId->Option (Ending×aw)
 |[.int .i64 (.ofNat n)],[t]=>bif decide (fn.name= "internal/bytealg.MakeNoZero")&&decide (fn.origin= "")&&Nat.ble n 1000000 then
  (match P.underlying t with
  |some (.slice e)=>bif Nat.beq (P.cellsOf e) 1 then UU e n H else none
  |_=>none)
  else none
 |_,_=>none
def NO (P:Program)(fn:Func)(args:List Value)(H:aw):Option Next->Option (Ending×aw)
 |some (.value v)=>bif plain v then some (.returned v,H) else none
 |_=>NN P fn H args fn.resultTypes.toList
def UV (fn:Func)(H:aw):List Value->Option (Ending×aw)
 |[v]=>bif decide (fn.name= "internal/abi.NoEscape")&&decide (fn.origin= "") then some (.returned v,H) else none
 |_=>none
def Ac (P:Program)(fn:Func)(f:FuncId)(args:List Value)(H:aw):Option (Ending×aw):=
 bif args.all plain then NO P fn args H (fc P (callFunc f args.toArray)) else UV fn H args
def r7 (bE:FrameMode):Option (Ending×aw)->Option (Ending×FrameMode×aw)
 |some (e,H)=>some (e,bE,H)
 |none=>none
def wi (P:Program)(E:fN)(fn:Func):Option (Exit×a5×aw)->Option (Ending×FrameMode×aw)
 |some (.normal,S,H)=>r7 S.bE (iY P E fn S.T S.ds .returning H)
 |some (.ret,S,H)=>r7 S.bE (iY P E fn S.T S.ds .returning H)
 |some (.panic chain,S,H)=>r7 S.bE (iY P E fn S.T S.ds (.panicking chain) H)
 |_=>none
def EU (P:Program)(E:fN)(fn:Func)(c:Code)(cb:Bool)(bE:FrameMode)(H:aw):Option (a4 Value)->Option (Ending×FrameMode×aw)
 |some T=>wi P E fn (E.code c ⟨T,fn.ntmps,[],cb,bE,none⟩ H)
 |none=>none
def ET (P:Program)(E:fN)(f:FuncId)(fn:Func)(args:List Value)(cb:Bool)(bE:FrameMode)(H:aw):Option Code->Option (Ending×FrameMode×aw)
 |some c=>EU P E fn c cb bE H (nS args 0 (blank fn.ntmps))
 |none=>bif cb then none else r7 bE (Ac P fn f args H)
def sd (P:Program)(fF:a4 Func)(E:fN)(f:FuncId)(args:List Value)(cb:Bool)(bE:FrameMode)(H:aw):Option (Ending×FrameMode×aw):=
 match fF.get f with
 |none=>none
 |some fn=>ET P E f fn args cb bE H fn.body
def uY (P:Program)(fF:a4 Func)(n:Nat):fN:=
 Nat.rec (motive:=fun _=>fN) ⟨fun _ _ _=>none,fun _ _ _ _ _=>none⟩ (fun _ E=>⟨Jv P E,sd P fF E⟩) n
def xT {α:Type}:List α->Nat->a4 α->Option (a4 α)
 |[],_,T=>some T
 |v::l,i,T=>match T.set D6 i v with|some T=>xT l (Nat.succ i) T|none=>none
end
end Go.Cre
namespace Go.Cre
noncomputable section
open Go.RowKit
theorem a4.Va{α:Type}(n:Nat):(a4.leaf:a4 α).get n=none:=rfl
theorem a4.FF{α:Type}(v:Option α)(l r:a4 α):(a4.node v l r).get 0=v:=rfl
theorem a4.q6{α:Type}(v:Option α)(l r:a4 α)(m:Nat):(a4.node v l r).get (m+1)=if m % 2=0 then l.get (m / 2) else r.get (m / 2):=by
 show Bool.rec (motive:=fun _=>Option α) (r.get (m / 2)) (l.get (m / 2)) (Nat.beq (m % 2) 0)=_;by_cases h:m % 2=0
 ·rw[bj h];simp[h]
 ·rw[bd h];have:Nat.beq (m % 2) 0=false:=by
   cases ak:Nat.beq (m % 2) 0
   ·rfl
   ·exact absurd (eC ak) h
  rw[this]
theorem a4.am0{α:Type}(a:α):a4.put a .leaf 0=some (.node (some a) .leaf .leaf):=rfl
theorem a4.amZ{α:Type}(a:α)(m:Nat):a4.put a .leaf (m+1)=none:=rfl
theorem a4.am3{α:Type}(a:α)(v:Option α)(l r:a4 α):a4.put a (.node v l r) 0=some (.node (some a) l r):=rfl
theorem a4.Ls{α:Type}(a:α)(v:Option α)(l r:a4 α)(m:Nat):
 a4.put a (.node v l r) (m+1)=if m % 2=0 then a4.left v r (a4.put a l (m / 2)) else a4.right v l (a4.put a r (m / 2)):=by
 show Bool.rec (motive:=fun _=>Option (a4 α)) (a4.right v l (a4.put a r (m / 2))) (a4.left v r (a4.put a l (m / 2))) (Nat.beq (m % 2) 0)=_;by_cases h:m % 2=0
 ·rw[bj h];simp[h]
 ·rw[bd h];have:Nat.beq (m % 2) 0=false:=by
   cases ak:Nat.beq (m % 2) 0
   ·rfl
   ·exact absurd (eC ak) h
  rw[this]
theorem a4.get_put{α:Type}{a:α}{t lJ:a4 α}{n:Nat}(h:a4.put a t n=some lJ)(m:Nat):lJ.get m=if m=n then some a else t.get m:=by
 induction t generalizing lJ n m with
 |leaf=>
  cases n with
  |zero=>
   rw[a4.am0] at h;injection h with h;subst h
   cases m with
   |zero=>simp[a4.FF]
   |succ m=>rw[a4.q6];simp[a4.Va]
  |succ n=>rw[a4.amZ] at h;cases h
 |node v l r xh xi=>
  cases n with
  |zero=>
   rw[a4.am3] at h;injection h with h;subst h
   cases m with
   |zero=>simp[a4.FF]
   |succ m=>rw[a4.q6,a4.q6];simp
  |succ n=>
   rw[a4.Ls] at h;by_cases aE:n % 2=0
   ·rw[bj aE] at h;cases aD:a4.put a l (n / 2) with
    |none=>rw[aD] at h;cases h
    |some l'=>
     rw[aD] at h;injection h with h;subst h
     cases m with
     |zero=>simp[a4.FF]
     |succ m=>
      rw[a4.q6,a4.q6,xh aD];by_cases hm:m % 2=0
      ·rw[bj hm,bj hm];have:(m / 2=n / 2)↔(m+1=n+1):=by omega
       simp[this]
      ·rw[bd hm,bd hm];have:¬(m+1=n+1):=by omega
       rw[bd this]
   ·rw[bd aE] at h;cases av:a4.put a r (n / 2) with
    |none=>rw[av] at h;cases h
    |some cW=>
     rw[av] at h;injection h with h;subst h
     cases m with
     |zero=>simp[a4.FF]
     |succ m=>
      rw[a4.q6,a4.q6,xi av];by_cases hm:m % 2=0
      ·rw[bj hm,bj hm];have:¬(m+1=n+1):=by omega
       rw[bd this]
      ·rw[bd hm,bd hm];have:(m / 2=n / 2)↔(m+1=n+1):=by omega
       simp[this]
theorem a4.N1{α:Type}{a:α}{t lJ:a4 α}{d n:Nat}(h:a4.set d t n a=some lJ)(m:Nat):lJ.get m=if m=n then some a else t.get m:=a4.get_put h m
theorem lH{α:Type}(l:List α)(n:Nat):nth l n=l[n]?:=by
 induction l generalizing n with
 |nil=>rfl
 |cons a l aZ=>cases n with
  |zero=>rfl
  |succ n=>exact aZ n
theorem wy{α:Type}(n:Nat)(l:List α):nY n l=l.drop n:=by
 induction l generalizing n with
 |nil=>simp[nY]
 |cons a l aZ=>cases n with
  |zero=>rfl
  |succ n=>exact aZ n
theorem D5{α:Type}{n:Nat}{l r:List α}(h:takeN n l=some r):r=l.take n/\r.length=n/\n<=l.length:=by
 induction n generalizing l r with
 |zero=>simp[takeN] at h;subst h;simp
 |succ n aZ=>
  cases l with
  |nil=>simp[takeN] at h
  |cons a l=>
   simp only[takeN] at h;cases aS:takeN n l with
   |none=>rw[aS] at h;cases h
   |some cW=>
    rw[aS] at h;injection h with h;subst h
    obtain⟨aC,aW,cw⟩:=aZ aS;refine⟨by rw[aC,Mi],by simp[aW],by simp;omega⟩
theorem RN{α:Type}{n:Nat}{l vs r:List α}(h:gw n l vs=some r):
 r.length=l.length/\n+vs.length<=l.length/\∀i,r[i]?=if n<=i/\i<n+vs.length then vs[i -n]? else l[i]?:=by
 induction n generalizing l r with
 |zero=>
  induction vs generalizing l r with
  |nil=>simp[gw] at h;subst h;exact⟨rfl,by simp,fun i=>by simp⟩
  |cons v vs aZ=>
   cases l with
   |nil=>simp[gw] at h
   |cons a l=>
    simp only[gw] at h;cases ag:gw 0 l vs with
    |none=>rw[ag] at h;cases h
    |some cW=>
     rw[ag] at h;injection h with h;subst h
     obtain⟨aC,aW,cw⟩:=aZ ag;refine⟨by simp[aC],by simp at*;omega,fun i=>?_⟩;cases i with
     |zero=>simp
     |succ i=>
      have:=cw i;simp only[SY,this];simp
 |succ n aZ=>
  cases l with
  |nil=>simp[gw] at h
  |cons a l=>
   simp only[gw] at h;cases ag:gw n l vs with
   |none=>rw[ag] at h;cases h
   |some cW=>
    rw[ag] at h;injection h with h;subst h
    obtain⟨aC,aW,cw⟩:=aZ ag;refine⟨by simp[aC],by simp;omega,fun i=>?_⟩;cases i with
    |zero=>simp
    |succ i=>
     have:=cw i;simp only[SY,this];have aJ:(n+1<=i+1/\i+1<n+1+vs.length)↔(n<=i/\i<n+vs.length):=by omega
     simp only[aJ];split
     ·rw[show i+1 -(n+1)=i -n from by omega]
     ·rfl
structure Loc where
 r:Nat
 N:Nat
 sz:Nat
abbrev b5:=Nat->Option Loc
def isAtom:Value->Bool
 |.bool _|.int _ _|.float _ _|.string _|.nilFunc|.nilIface|.pointer none|.slice none _ _|.map none=>true
 |_=>false
inductive bu (μ:b5):Value->Value->Prop
 |atom (v:Value):isAtom v=true->bu μ v v
 |ptr (id off:Nat) (L:Loc):μ id=some L->bu μ (.pointer (some ⟨id,off,none⟩)) (.pointer (some ⟨L.r,off,none⟩))
 |nJ (id off len cap:Nat) (L:Loc):μ id=some L->cap<cQ->bu μ (.slice (some ⟨id,off,none⟩) len cap) (.slice (some ⟨L.r,off,none⟩) len cap)
 |pQ (id off len cap:Nat) (L:Loc):μ id=some L->len<=cap->off+cap*L.sz<=L.N->bu μ (.slice (some ⟨id,off,none⟩) len cQ) (.slice (some ⟨L.r,off,none⟩) len cap)
 |vM (id off fV:Nat) (L:Loc):μ id=some L->bu μ (.slice (some ⟨id,off,none⟩) 0 cQ) (.slice (some ⟨L.r,fV,none⟩) 0 0)
 |xQ (a:Addr):bu μ (.slice (some ⟨0,0,some 0⟩) 0 0) (.slice (some a) 0 0)
 |map (id:Nat) (L:Loc):μ id=some L->bu μ (.map (some id)) (.map (some L.r))
 |x0 (v:Value):ff v=true->bu μ (.chan none) v
 |func (fn:Fn) (a b bV b':Array Value):xv fn=true->a.size=bV.size->b.size=b'.size->
  (∀(i:Nat) v v',a[i]?=some v->bV[i]?=some v'->bu μ v v')->(∀(i:Nat) v v',b[i]?=some v->b'[i]?=some v'->bu μ v v')->bu μ (.func fn a b) (.func fn bV b')
 |yield (l:Nat) (L:Loc):μ l=some L->bu μ (.func (.yield l) #[] #[]) (.func (.yield L.r) #[] #[])
 |iface (t:TypeId) (v v':Value):bu μ v v'->bu μ (.iface t v) (.iface t v')
 |agg (a bV:Array Value):a.size=bV.size->(∀(i:Nat) v v',a[i]?=some v->bV[i]?=some v'->bu μ v v')->bu μ (.agg a) (.agg bV)
 |tuple (a bV:Array Value):a.size=bV.size->(∀(i:Nat) v v',a[i]?=some v->bV[i]?=some v'->bu μ v v')->bu μ (.tuple a) (.tuple bV)
def ca(μ:b5)(l l':List Value):Prop:=l.length=l'.length/\∀(i:Nat) v v',l[i]?=some v->l'[i]?=some v'->bu μ v v'
def Ext(μ bw:b5):Prop:=∀id L,μ id=some L->bw id=some L
theorem Ext.refl(μ:b5):Ext μ μ:=fun _ _ h=>h
theorem Ext.trans{a b c:b5}(h:Ext a b)(k:Ext b c):Ext a c:=fun id L x=>k id L (h id L x)
theorem bu.mono{μ bw:b5}{v v':Value}(h:bu μ v v')(e:Ext μ bw):bu bw v v':=by
 induction h with
 |atom v h=>exact .atom v h
 |ptr id off L h=>exact .ptr id off L (e _ _ h)
 |nJ id off len cap L h aJ=>exact .nJ id off len cap L (e _ _ h) aJ
 |pQ id off len cap L h aJ aE=>exact .pQ id off len cap L (e _ _ h) aJ aE
 |vM id off fV L h=>exact .vM id off fV L (e _ _ h)
 |xQ a=>exact .xQ a
 |map id L h=>exact .map id L (e _ _ h)
 |x0 v h=>exact .x0 v h
 |func fn a b bV b' aB aI ak _ _ ajK ajL=>exact .func fn a b bV b' aB aI ak ajK ajL
 |yield l L h=>exact .yield l L (e _ _ h)
 |iface t v v' _ aZ=>exact .iface t v v' aZ
 |agg a bV ag _ aZ=>exact .agg a bV ag aZ
 |tuple a bV ag _ aZ=>exact .tuple a bV ag aZ
theorem ca.mono{μ bw:b5}{l l':List Value}(h:ca μ l l')(e:Ext μ bw):ca bw l l':=⟨h.1,fun i v v' a b=>(h.2 i v v' a b).mono e⟩
theorem ca.nil(μ:b5):ca μ [] []:=⟨rfl,fun i v v' h=>by simp at h⟩
theorem ca.cons{μ:b5}{v v':Value}{l l':List Value}(h:bu μ v v')(t:ca μ l l'):ca μ (v::l) (v'::l'):=by
 refine⟨by simp[t.1],fun i a b aI ak=>?_⟩;cases i with
 |zero=>simp at aI ak;subst aI;subst ak;exact h
 |succ i=>simp at aI ak;exact t.2 i a b aI ak
theorem ca.jH{μ:b5}{v:Value}{l m:List Value}(h:ca μ (v::l) m):∃v' l',m=v'::l'/\bu μ v v'/\ca μ l l':=by
 cases m with
 |nil=>have:=h.1;simp at this
 |cons v' l'=>
  refine⟨v',l',rfl,h.2 0 v v' rfl rfl,by have:=h.1;simpa using this,fun i a b aI ak=>h.2 (i+1) a b (by simpa using aI) (by simpa using ak)⟩
theorem ca.k5{μ:b5}{m:List Value}(h:ca μ [] m):m=[]:=by
 have:=h.1;exact zH.1 (by simpa using this.symm)
theorem ca.append{μ:b5}{l l' m m':List Value}(h:ca μ l l')(k:ca μ m m'):ca μ (l++m) (l'++m'):=by
 refine⟨by simp[h.1,k.1],fun i a b aI ak=>?_⟩;rw[SX] at aI ak;rw[<-h.1] at ak;split at aI
 ·rename_i ar;rw[bj ar] at ak;exact h.2 i a b aI ak
 ·rename_i ar;rw[bd ar] at ak;exact k.2 _ a b aI ak
theorem ca.take{μ:b5}{l l':List Value}(h:ca μ l l')(n:Nat):ca μ (l.take n) (l'.take n):=by
 refine⟨by simp[h.1],fun i a b aI ak=>?_⟩;rw[ji] at aI ak;split at aI
 ·rename_i ar;rw[bj ar] at ak;exact h.2 i a b aI ak
 ·cases aI
theorem ca.drop{μ:b5}{l l':List Value}(h:ca μ l l')(n:Nat):ca μ (l.drop n) (l'.drop n):=by
 refine⟨by simp[h.1],fun i a b aI ak=>?_⟩;rw[p5] at aI ak;exact h.2 _ a b aI ak
theorem ca.get{μ:b5}{l l':List Value}(h:ca μ l l'){i:Nat}{v:Value}(az:l[i]?=some v):∃v',l'[i]?=some v'/\bu μ v v':=by
 have ar:i<l.length:=by
  rcases iK i l.length with x|x
  ·exact x
  ·rw[qT x] at az;cases az
 have lZ:i<l'.length:=h.1▸ar;exact⟨l'[i],eE lZ,h.2 i v _ az (eE lZ)⟩
theorem bu.I9{μ:b5}{l l':List Value}(h:ca μ l l'):bu μ (.agg l.toArray) (.agg l'.toArray):=
 .agg _ _ (by simp[h.1]) fun i v v' a b=>h.2 i v v' (by simpa using a) (by simpa using b)
theorem bu.R1{μ:b5}{l l':List Value}(h:ca μ l l'):bu μ (.tuple l.toArray) (.tuple l'.toArray):=
 .tuple _ _ (by simp[h.1]) fun i v v' a b=>h.2 i v v' (by simpa using a) (by simpa using b)
theorem bu.TH{μ:b5}{a:Array Value}{v:Value}(h:bu μ (.agg a) v):∃bV,v=.agg bV/\ca μ a.toList bV.toList:=by
 cases h with
 |atom _ h=>simp[isAtom] at h
 |agg _ bV ag av=>exact⟨bV,rfl,by simpa using ag,fun i v v' x y=>av i v v' (by simpa using x) (by simpa using y)⟩
theorem bu.apg{μ:b5}{a:Array Value}{v:Value}(h:bu μ (.tuple a) v):∃bV,v=.tuple bV/\ca μ a.toList bV.toList:=by
 cases h with
 |atom _ h=>simp[isAtom] at h
 |tuple _ bV ag av=>exact⟨bV,rfl,by simpa using ag,fun i v v' x y=>av i v v' (by simpa using x) (by simpa using y)⟩
theorem bu.undef(μ:b5):bu μ undef undef:=.tuple _ _ rfl fun i v v' h=>by simp at h
theorem bu.alJ{μ:b5}:∀{n:Nat} {v:Value},jd n v=true->bu μ v v:=by
 intro n;induction n with
 |zero=>intro v h;simp[jd] at h
 |succ n aZ=>
  intro v h;cases v with
  |bool b=>exact .atom _ rfl
  |int k n=>exact .atom _ rfl
  |float k b=>exact .atom _ rfl
  |complex k a b=>simp[jd] at h
  |string s=>exact .atom _ rfl
  |pointer a=>cases a with
   |none=>exact .atom _ rfl
   |some a=>simp[jd] at h
  |slice a l c=>cases a with
   |none=>exact .atom _ rfl
   |some a=>simp[jd] at h
  |map r=>cases r with
   |none=>exact .atom _ rfl
   |some a=>simp[jd] at h
  |chan r=>simp[jd] at h
  |func fn a b=>
   cases fn with
   |func f=>
    simp[jd] at h;obtain⟨rfl,rfl⟩:=h;exact .func _ _ _ _ _ rfl rfl rfl (fun i v v' h=>by simp at h) (fun i v v' h=>by simp at h)
   |_=>simp[jd] at h
  |nilFunc=>exact .atom _ rfl
  |iface t v=>simp only[jd] at h;exact .iface _ _ _ (aZ h)
  |nilIface=>exact .atom _ rfl
  |agg cs=>
   simp only[jd,uE] at h;exact .agg _ _ rfl fun i v v' a b=>by
    rw[a] at b;injection b with b;subst b
    exact aZ (h v (Em.2 (Iq a)))
  |tuple cs=>
   simp only[jd,uE] at h;exact .tuple _ _ rfl fun i v v' a b=>by
    rw[a] at b;injection b with b;subst b
    exact aZ (h v (Em.2 (Iq a)))
theorem TW{a b:Array Value}(ag:a.size=b.size)(h:∀(i:Nat) v v',a[i]?=some v->b[i]?=some v'->v'=v):b=a:=by
 apply Array.ext ag.symm
 intro i ad af;exact h i a[i] b[i] (zA af) (zA ad)
theorem bu.Lp{μ:b5}:∀{n:Nat} {v v':Value},jd n v=true->bu μ v v'->v'=v:=by
 intro n;induction n with
 |zero=>intro v v' h;simp[jd] at h
 |succ n aZ=>
  intro v v' h av;cases av with
  |atom _ _=>rfl
  |ptr=>simp[jd] at h
  |nJ=>simp[jd] at h
  |pQ=>simp[jd] at h
  |vM=>simp[jd] at h
  |xQ=>simp[jd] at h
  |map=>simp[jd] at h
  |x0=>simp[jd] at h
  |func fn a b bV b' aB aI ak Kj yS=>
   cases fn with
   |func f=>
    simp[jd] at h;obtain⟨rfl,rfl⟩:=h;have aC:bV=#[]:=aaZ (by simpa using aI.symm);have aW:b'=#[]:=aaZ (by simpa using ak.symm);rw[aC,aW]
   |_=>simp[jd] at h
  |yield=>simp[jd] at h
  |iface t v v' az=>simp only[jd] at h;rw[aZ h az]
  |agg a bV ag az=>
   simp only[jd,uE] at h;rw[TW ag fun i v v' x y=>aZ (h v (Em.2 (Iq x))) (az i v v' x y)]
  |tuple a bV ag az=>
   simp only[jd,uE] at h;rw[TW ag fun i v v' x y=>aZ (h v (Em.2 (Iq x))) (az i v v' x y)]
theorem bu.cells{μ:b5}{v v':Value}(h:bu μ v v'):ca μ v.cells.toList v'.cells.toList:=by
 cases h with
 |agg a bV ag az=>exact⟨by simpa[Value.cells] using ag,fun i v v' x y=>az i v v' (by simpa[Value.cells] using x) (by simpa[Value.cells] using y)⟩
 |atom v h=>cases v<;>first|(simp[isAtom] at h;done)|exact ca.cons (.atom _ h) (ca.nil _)
 |ptr id off L h=>exact ca.cons (.ptr id off L h) (ca.nil _)
 |nJ id off len cap L h aJ=>exact ca.cons (.nJ id off len cap L h aJ) (ca.nil _)
 |pQ id off len cap L h aJ aE=>exact ca.cons (.pQ id off len cap L h aJ aE) (ca.nil _)
 |vM id off fV L h=>exact ca.cons (.vM id off fV L h) (ca.nil _)
 |xQ a=>exact ca.cons (.xQ a) (ca.nil _)
 |map id L h=>exact ca.cons (.map id L h) (ca.nil _)
 |x0 _ h=>cases v'<;>first|(simp[ff] at h;done)|exact ca.cons (.x0 _ h) (ca.nil _)
 |func fn a b bV b' aB aI ak Kj yS=>exact ca.cons (.func fn a b bV b' aB aI ak Kj yS) (ca.nil _)
 |yield l L h=>exact ca.cons (.yield l L h) (ca.nil _)
 |iface t v v' az=>exact ca.cons (.iface t v v' az) (ca.nil _)
 |tuple a bV ag az=>exact ca.cons (.tuple a bV ag az) (ca.nil _)
theorem bu.ff{μ:b5}{v v':Value}(h:bu μ v v'):ff v'=ff v:=by
 cases h<;>first|rfl|assumption
end
end Go.Cre

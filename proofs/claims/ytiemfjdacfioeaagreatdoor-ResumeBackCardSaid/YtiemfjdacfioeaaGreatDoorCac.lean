/- A part of the proof of ResumeBack. -/
import Derived.Test.YtiemfjdacfioeaaGreatDoorCab
import Derived.Below
set_option linter.unusedVariables false
set_option linter.unusedSimpArgs false
namespace Go.Cre
noncomputable section
def Eo:Op->Bool
 |.store ..|.mapUpdate ..|.insert ..|.mapEntry ..|.entryStore ..|.next ..|.go _|.defer _|.panic _|.send ..|.recv ..|.select ..|.ready _=>true
 |.call {callee:=.builtin b,..}=>match b with|.len|.cap|.min|.max=>false|_=>true
 |.call _=>true
 |_=>false
def zt:Op->Bool
 |.alloc _|.box ..|.buildSlice ..|.makeMap ..|.makeSlice ..=>true
 |_=>false
def looks (ops:List Oper)(o:Oper):List Tmp:=
 (o.op.operands.toList.filterMap fun|.tmp t=>some t|_=>none)++
 (match o.guard with
  |some (g,_)=>(match nth ops g with|some p=>p.dst.toList|none=>[])
  |none=>[])
def Dr:List Edge->Nat
 |[]=>0
 |e::l=>bif Region.binds .any e then Nat.lor (Nat.pow 2 e.on) (Dr l) else Dr l
def Oper.fL (o:Oper):Nat:=Dr o.after.toList
def sub (a b:Nat):Bool:=Nat.beq (Nat.land a b) a
def Qg (ops:List Oper)(a b:Oper):Bool:=match a.dst with|some d=>(looks ops b).any (Nat.beq d)|none=>false
def SU (ops:List Oper)(i:Nat)(a:Oper):List Oper->Bool
 |[]=>false
 |b::l=>(Qg ops a b&&!Nat.testBit (Oper.fL b) i)||SU ops i a l
def Dc (ops:List Oper):List Oper->Nat->Nat
 |[],_=>0
 |o::l,i=>Nat.lor (bif Eo o.op||SU ops i o ops then Nat.pow 2 i else 0) (Dc ops l (i+1))
def yD:List Oper->Nat->Nat
 |[],_=>0
 |o::l,i=>Nat.lor (bif zt o.op then Nat.pow 2 i else 0) (yD l (i+1))
inductive jr where
 |val (i:Nat)
 |gh (i:Nat)
 |bV (i:Nat)
 |cF (l:List Nat)
def LD (ok:Nat->Bool)(C:Nat):List Oper->Nat->Option Nat
 |[],_=>none
 |o::l,i=>bif !Nat.testBit C i&&ok i&&sub (Oper.fL o) C then some i else LD ok C l (i+1)
def vg (ops:List Oper):Nat->Nat->Nat
 |0,K=>K
 |n+1,K=>vg ops n (bif Nat.testBit K n then(match nth ops n with|some o=>Nat.lor K (Oper.fL o)|none=>K) else K)
def bitsOf (m:Nat):Nat->List Nat
 |0=>[]
 |n+1=>bif Nat.testBit m n then n::bitsOf m n else bitsOf m n
def BO:List Nat->Nat
 |[]=>0
 |i::l=>Nat.lor (Nat.pow 2 i) (BO l)
def Eu (ops:List Oper)(bU cg:Nat):Nat->Nat->Nat->Nat->List jr
 |0,_,_,_=>[]
 |n+1,C,K,G=>
  match LD (fun i=>!Nat.testBit bU i&&Nat.testBit cg i) C ops 0 with
  |some i=>.gh i::Eu ops bU cg n (Nat.lor C (Nat.pow 2 i)) K (Nat.lor (Nat.land G cg) (Nat.pow 2 i))
  |none=>match LD (fun i=>!Nat.testBit bU i&&!Nat.testBit cg i) C ops 0 with
   |some i=>.val i::Eu ops bU cg n (Nat.lor C (Nat.pow 2 i)) K (Nat.lor G (Nat.pow 2 i))
   |none=>match bitsOf (Nat.xor C (Nat.land C (Nat.lor K G))) ops.length with
    |i::l=>.cF (i::l)::Eu ops bU cg n C K (Nat.lor G (BO (i::l)))
    |[]=>match LD (Nat.testBit bU) C ops 0 with
     |some i=>.bV i::Eu ops bU cg n (Nat.lor C (Nat.pow 2 i)) (vg ops ops.length (Nat.lor K (Nat.pow 2 i))) (Nat.land G cg)
     |none=>[]
def only(C i:Nat):List Oper->Nat->Bool
 |[],_=>true
 |o::l,k=>(Nat.testBit C k||Nat.beq k i||!sub (Oper.fL o) C)&&only C i l (k+1)
def K3 (C:Nat):Nat->Bool
 |0=>true
 |n+1=>Nat.testBit C n&&K3 C n
def fits (ops:List Oper)(C i:Nat):Bool:=!Nat.testBit C i&&(match nth ops i with|some o=>sub (Oper.fL o) C|none=>false)
def JE (bU cg C:Nat):List Nat->Bool
 |[]=>true
 |i::l=>Nat.testBit C i&&!Nat.testBit cg i&&JE bU cg C l
def oi (ops:List Oper)(bU cg:Nat):Nat->Nat->Nat->List jr->Bool
 |C,K,G,[]=>K3 C ops.length&&sub C (Nat.lor K G)
 |C,K,G,.val i::l=>fits ops C i&&!Nat.testBit bU i&&!Nat.testBit cg i&&oi ops bU cg (Nat.lor C (Nat.pow 2 i)) K (Nat.lor G (Nat.pow 2 i)) l
 |C,K,G,.gh i::l=>fits ops C i&&!Nat.testBit bU i&&Nat.testBit cg i&&oi ops bU cg (Nat.lor C (Nat.pow 2 i)) K (Nat.lor (Nat.land G cg) (Nat.pow 2 i)) l
 |C,K,G,.cF s::l=>JE bU cg C s&&oi ops bU cg C K (Nat.lor G (BO s)) l
 |C,K,G,.bV i::l=>fits ops C i&&Nat.testBit bU i&&only C i ops 0&&sub C (Nat.lor K G)&&
  (match nth ops i with|some o=>sub (Oper.fL o) (vg ops ops.length (Nat.lor K (Nat.pow 2 i)))&&Nat.testBit (vg ops ops.length (Nat.lor K (Nat.pow 2 i))) i|none=>false)&&
  oi ops bU cg (Nat.lor C (Nat.pow 2 i)) (vg ops ops.length (Nat.lor K (Nat.pow 2 i))) (Nat.land G cg) l
def YN (a b:Oper):Bool:=match a.dst,b.dst with|some d,some e=>Nat.beq d e|_,_=>false
def EK (ops:List Oper)(bU i j:Nat)(a b:Oper):Bool:=
 (Nat.beq i j||!YN a b)&&(!Qg ops a b||Nat.testBit (Oper.fL b) i||(Nat.testBit bU i&&(Nat.beq i j||Nat.testBit (Oper.fL a) j)))
def Lw (ops:List Oper)(bU i:Nat)(a:Oper):List Oper->Nat->Bool
 |[],_=>true
 |b::l,j=>EK ops bU i j a b&&Lw ops bU i a l (j+1)
def Iz (ops:List Oper)(bU:Nat):List Oper->Nat->Bool
 |[],_=>true
 |a::l,i=>Lw ops bU i a ops 0&&Nat.blt (Oper.fL a) (Nat.pow 2 i)&&(Nat.testBit bU i||!Eo a.op)&&Iz ops bU l (i+1)
def Dn (ops:List Oper):Bool:=
 Iz ops (Dc ops ops 0) ops 0&&oi ops (Dc ops ops 0) (yD ops 0) 0 0 0 (Eu ops (Dc ops ops 0) (yD ops 0) (3*ops.length+3) 0 0 0)
def u5 (f:Value->Value->Bool):List Value->List Value->Bool
 |[],[]=>true
 |x::l,y::m=>f x y&&u5 f l m
 |_,_=>false
def addrEq:Option Addr->Option Addr->Bool
 |none,none=>true
 |some ⟨a,b,none⟩,some ⟨c,d,none⟩=>Nat.beq a c&&Nat.beq b d
 |some ⟨0,0,some 0⟩,some ⟨0,0,some 0⟩=>true
 |_,_=>false
def Xp:Option Nat->Option Nat->Bool
 |none,none=>true
 |some a,some b=>Nat.beq a b
 |_,_=>false
def abt:Bool->Bool->Bool
 |true,true=>true
 |false,false=>true
 |_,_=>false
def UA:Fn->Fn->Bool
 |.func f,.func g=>Nat.beq f g
 |_,_=>false
def iC:Nat->Value->Value->Bool
 |0,_,_=>false
 |n+1,a,b=>match a,b with
  |.bool a,.bool b=>abt a b
  |.int k a,.int l b=>uk k l&&qq a b
  |.string a,.string b=>decide (a.data.toList=b.data.toList)
  |.pointer a,.pointer b=>addrEq a b
  |.slice a l c,.slice b m d=>addrEq a b&&Nat.beq l m&&Nat.beq c d
  |.map a,.map b=>Xp a b
  |.nilFunc,.nilFunc=>true
  |.nilIface,.nilIface=>true
  |.iface t v,.iface u w=>Nat.beq t u&&iC n v w
  |.agg a,.agg b=>u5 (iC n) a.toList b.toList
  |.tuple a,.tuple b=>u5 (iC n) a.toList b.toList
  |.func f a b,.func g c d=>UA f g&&u5 (iC n) a.toList c.toList&&u5 (iC n) b.toList d.toList
  |_,_=>false
inductive iN where
 |ptr
 |Ck (len cap:Nat)
 |map
def iN.at (id:Nat):iN->Value
 |.ptr=>.pointer (some ⟨id,0,none⟩)
 |.Ck l c=>.slice (some ⟨id,0,none⟩) l c
 |.map=>.map (some id)
def qB (T:bg Value)(x:Operand):Option Value:=
 Operand.rec (motive:=fun _=>Option Value) (fun t=>T.get t) QG (fun _=>none) (fun f=>some (.func (.func f) #[] #[])) x
def sS (T:bg Value):List (Nat×Operand)->Option (List (Nat×Value))
 |[]=>some []
 |(i,x)::l=>match qB T x with
  |some v=>match sS T l with|some r=>some ((i,v)::r)|none=>none
  |none=>none
def Az (elem:TypeId)(v:Value):Option (ff×iN):=
 bif v.cells.toList.all eQ then some (.row v.cells.toList elem false 0 0 false,.ptr) else none
def FN (P:Program)(t:TypeId)(l c:Value):Option (ff×iN):=
 match l,c,P.underlying t with
 |.int _ l,.int _ c,some (.slice elem)=>
  match fw P elem,vb P elem,ej P elem with
  |some z,some gS,some sz=>
   match qt c 1000000,qt l 1000000 with
   |some c,some l=>
    bif Nat.ble l c&&Nat.ble gS 1000000&&Nat.beq z.cells.toList.length sz&&z.cells.toList.all eQ&&plain z then
     some (.row (gG z.cells.toList c) elem false 0 0 false,.Ck l c)
    else none
   |_,_=>none
  |_,_,_=>none
 |_,_,_=>none
def FM (P:Program)(t:TypeId)(len:Nat)(parts:List (Nat×Value)):Option (ff×iN):=
 match P.underlying t with
 |some (.slice elem)=>match ej P elem,fw P elem with
  |some sz,some z=>
   bif Nat.ble len 100000&&Nat.ble (len*sz) 100000&&plain z&&Nat.beq z.cells.toList.length sz then
    match nC (fun i=>some (i*sz,sz)) (gG z.cells.toList len) parts with
    |some cells=>bif cells.all eQ then some (.row cells elem false 0 0 false,.Ck len len) else none
    |none=>none
   else none
  |_,_=>none
 |_=>none
def H3 (P:Program)(t:TypeId)(r:Operand):Option (ff×iN):=
 match r with
 |.const (.int .i64 (.ofNat 0))=>(match P.underlying t with|some (.map _ _)=>some (ff.dead,iN.map)|_=>none)
 |_=>none
def nx (P:Program)(T:bg Value):Op->Option (ff×iN)
 |.alloc elem=>(match fw P elem with|some z=>bif plain z then Az elem z else none|none=>none)
 |.box elem x=>(match qB T x with|some v=>Az elem v|none=>none)
 |.buildSlice t len parts=>(match sS T parts.toList with|some eG=>FM P t len eG|none=>none)
 |.makeMap _ none=>some (.map [] 0,.map)
 |.makeMap t (some r)=>H3 P t r
 |.makeSlice t l c=>(match qB T l,qB T c with|some l,some c=>FN P t l c|_,_=>none)
 |_=>none
abbrev qS:=bi->aB->Option dH
def pM (k:qS)(H:aB)(S:Option bi):Option dH:=Option.rec (motive:=fun _=>Option dH) none (fun S=>k S H) S
def Ct (S:bi)(H:aB)(dst:Option Tmp)(k:qS):Option cM->Option dH
 |some (.val v H')=>bif Nat.beq H'.ak H.ak then pM k H (S.put dst v) else none
 |_=>none
def ZS (P:Program)(call:eH)(aR:gR)(S:bi)(H:aB)(o:Oper)(k:qS)(b:Bool):Option dH:=
 Bool.rec (motive:=fun _=>Option dH) (pM k H (S.put o.dst undef)) (Ct S H o.dst k (cO P call aR S H o)) b
def mI (P:Program)(call:eH)(aR:gR)(ops:List Oper)(S:bi)(H:aB)(k:qS)(o:Oper):Option dH:=
 Option.rec (motive:=fun _=>Option dH) none (ZS P call aR S H o k) (fj ops S.T o)
def MH (S:bi)(dst:Option Tmp)(k:qS)(ep:iN):Option (Nat×aB)->Option dH
 |some (a,H)=>pM k H (S.put dst (ep.at a))
 |none=>none
def MG (S:bi)(H:aB)(dst:Option Tmp)(k:qS):Option (ff×iN)->Option dH
 |some (b,ep)=>MH S dst k ep (H.new b)
 |none=>none
def SN (P:Program)(S:bi)(H:aB)(o:Oper)(k:qS)(b:Bool):Option dH:=
 Bool.rec (motive:=fun _=>Option dH) (pM k H (S.put o.dst undef)) (MG S H o.dst k (nx P S.T o.op)) b
def FK (P:Program)(ops:List Oper)(S:bi)(H:aB)(k:qS)(o:Oper):Option dH:=
 Option.rec (motive:=fun _=>Option dH) none (SN P S H o k) (fj ops S.T o)
def kn (k:qS):Option dH->Option dH
 |some (.ok S H)=>k S H
 |_=>none
def JV (ak:Nat)(T:bg Value)(dst:Option Tmp):Option cM->Bool
 |some (.val v H')=>Nat.beq H'.ak ak&&(match dst with
  |none=>true
  |some d=>(match T.get d with|some u=>iC 8 v u|none=>false))
 |_=>false
def JU (P:Program)(call:eH)(aR:gR)(ops:List Oper)(S:bi)(H:aB)(o:Oper):Option Bool->Bool
 |some true=>JV H.ak S.T o.dst (cO P call aR S H o)
 |some false=>true
 |none=>false
def wR (P:Program)(call:eH)(aR:gR)(ops:List Oper)(S:bi)(H:aB)(i:Nat):Bool:=
 match nth ops i with
 |some o=>JU P call aR ops S H o (fj ops S.T o)
 |none=>false
def jl (ops:List Oper)(i:Nat)(f:Oper->Option dH):Option dH:=Option.rec (motive:=fun _=>Option dH) none f (nth ops i)
def AJ (P:Program)(call:eH)(aR:gR)(ops:List Oper)(S:bi)(H:aB)(k:qS)(l:List Nat):Option dH:=
 bif l.all (wR P call aR ops S H) then k S H else none
def TX (P:Program)(call:eH)(aR:gR)(ops:List Oper)(k:qS)(S:bi)(H:aB)(s:jr):Option dH:=
 jr.rec (motive:=fun _=>Option dH) (fun i=>jl ops i (mI P call aR ops S H k)) (fun i=>jl ops i (FK P ops S H k)) (fun i=>jl ops i fun o=>kn k (one P call aR ops S H o)) (AJ P call aR ops S H k) s
def dK (P:Program)(call:eH)(aR:gR)(ops:List Oper)(l:List jr):qS:=
 List.rec (motive:=fun _=>qS) (fun S H=>some (.ok S H)) (fun s _ k S H=>TX P call aR ops k S H s) l
def IB (ops:List Oper):List jr:=Eu ops (Dc ops ops 0) (yD ops 0) (3*ops.length+3) 0 0 0
def w5 (P:Program)(call:eH)(aR:gR)(ops:List Oper)(S:bi)(H:aB):Option dH:=
 bif Dn ops then dK P call aR ops (IB ops) S H else none
def adY (t:Nat):Option Tmp->Bool
 |some u=>Nat.beq u t
 |none=>false
structure Lit where
 t:Nat
 m:Nat
 eD:TypeId
 n:Nat
def W7:List Oper->Option (Nat×TypeId)
 |[]=>none
 |o::l=>match o.op with
  |.insert eD (.tmp t) _ _=>some (t,eD)
  |_=>W7 l
def W5 (t:Nat):List Oper->Nat->Nat
 |[],i=>i
 |o::l,i=>bif adY t o.dst then i else W5 t l (Nat.succ i)
def Qd:List Oper->Nat->Nat->Nat
 |[],_,n=>n
 |o::l,i,n=>match o.op with
  |.insert _ _ _ _=>Qd l (Nat.succ i) (Nat.succ i)
  |_=>Qd l (Nat.succ i) n
def H4 (ops:List Oper):Option Lit:=match W7 ops with
 |some (t,eD)=>some ⟨t,W5 t ops 0,eD,Qd ops 0 0⟩
 |none=>none
def vo (P:Program)(call:eH)(aR:gR)(ops:List Oper)(S:bi)(H:aB):Option dH:=
 Option.rec (motive:=fun _=>Option dH) (w5 P call aR ops S H) (fun _=>none) (H4 ops)
structure gQ where
 code:Code->bi->aB->Option (Exit×bi×aB)
 body:FuncId->List Value->Bool->FrameMode->aB->Option (Ending×FrameMode×aB)
def gQ.call (E:gQ):eH:=fun f args H=>match E.body f args false .run H with
 |some (e,_,H)=>some (e,H)
 |none=>none
def gQ.aR (_:gQ):gR:=fun _ _ _=>none
def rP:Option dH->Option (Exit×bi×aB)
 |some (.ok S H)=>some (.normal,S,H)
 |some (.jE chain S H)=>some (.panic chain,S,H)
 |none=>none
def F9 (E:gQ)(b:Code):Option (Exit×bi×aB)->Option (Exit×bi×aB)
 |some (.normal,S,H)=>E.code b S H
 |r=>r
def ab9 (E:gQ)(S:bi)(H:aB)(a b:Code):Option (Exit×bi×aB):=F9 E b (E.code a S H)
def JS (E:gQ)(S:bi)(H:aB)(x y:Code):Option Value->Option (Exit×bi×aB)
 |some (.bool true)=>E.code x S H
 |some (.bool false)=>E.code y S H
 |_=>none
def ab2 (E:gQ)(S:bi)(H:aB)(c:Operand)(x y:Code):Option (Exit×bi×aB):=JS E S H x y (bk S.T H c)
def M3 (id:Nat):Option (Exit×bi×aB)->Option (Exit×bi×aB)
 |some (.exit l4,S,H)=>bif Nat.beq l4 id then some (.normal,S,H) else some (.exit l4,S,H)
 |r=>r
def ab1 (E:gQ)(S:bi)(H:aB)(id:Nat)(c:Code):Option (Exit×bi×aB):=M3 id (E.code c S H)
def ab4 (E:gQ)(S:bi)(H:aB)(c:Code):Option (Exit×bi×aB):=F9 E (.loop c) (E.code c S H)
def TA:Option (Exit×bi×aB)->Option (Exit×bi×aB)
 |some (.goto _,_,_)=>none
 |r=>r
def ab8 (E:gQ)(S:bi)(H:aB)(c:Code):Option (Exit×bi×aB):=TA (E.code c S H)
def ab7 (P:Program)(E:gQ)(S:bi)(H:aB)(_:Nat)(ops:Array Oper):Bool->Option (Exit×bi×aB)
 |false=>rP (Dy P E.call E.aR ops.toList ops.toList S H)
 |true=>rP (vo P E.call E.aR ops.toList S H)
def ab6 (P:Program)(E:gQ)(S:bi)(H:aB)(f:Operand)(params:Array Tmp)(assign body:Code):Option (Exit×bi×aB):=none
def ab3 (S:bi)(H:aB)(id:Nat):Option (Exit×bi×aB):=some (.exit id,S,H)
def Tz.{u} {a:Sort u} (_:a):Option (Exit×bi×aB):=none
def ab5 (S:bi)(H:aB)(_:Nat):Option (Exit×bi×aB):=some (.normal,S,H)
def J4 (P:Program)(E:gQ)(c:Code)(S:bi)(H:aB):Option (Exit×bi×aB):=
 Code.casesOn (motive:=fun _=>Option (Exit×bi×aB)) c
  (some (.normal,S,H)) (ab7 P E S H) (ab9 E S H) (ab2 E S H) (ab1 E S H) (ab4 E S H) (ab6 P E S H) (ab3 S H) (ab8 E S H) (ab5 S H) Tz (some (.ret,S,H)) Tz
def p8 (P:Program)(T:bg Value)(H:aB):List ResultVar->Option (List Value)
 |[]=>some []
 |.tmp t::l=>(match T.get t with
  |some v=>(match p8 P T H l with|some r=>some (v::r)|none=>none)
  |none=>none)
 |.cell a t::l=>(match T.get a with
  |some p=>(match AS P H t p with
   |some v=>(match p8 P T H l with|some r=>some (v::r)|none=>none)
   |none=>none)
  |none=>none)
def pE:List Value->Value
 |[v]=>v
 |vs=>.tuple vs.toArray
def K4:FrameMode->Bool
 |.run=>true
 |_=>false
def iI (P:Program)(E:gQ)(fn:Func)(T:bg Value):List Deferred->FrameMode->aB->Option (Ending×aB)
 |[],.returning,H=>match p8 P T H fn.results.toList with
  |some vs=>some (.returned (pE vs),H)
  |none=>none
 |[],.panicking chain,H=>some (.panicked chain,H)
 |[],.run,_=>none
 |d::ds,u,H=>bif K4 u then none else match d.target with
  |.fn fv cap=>match mU P H fv d.args.toList cap.toList with
   |none=>none
   |some (f,args)=>match E.body f args true u H with
    |some (.returned _,u,H)=>iI P E fn T ds (settle u) H
    |some (.panicked chain,u,H)=>iI P E fn T ds (raised u chain) H
    |_=>none
  |.collected r=>match H.mem.get r with
   |some (.iT (some []))=>bif Nat.ble H.bZ r then(match H.upd r (.iT none) with
    |some H=>iI P E fn T ds u H
    |none=>none) else none
   |_=>none
  |_=>none
def NK (n:Nat):Nat:=Nat.succ (Nat.log2 (Nat.succ n))
def blank (n:Nat):bg Value:=bg.full undef (NK n)
def nV:List Value->Nat->bg Value->Option (bg Value)
 |[],_,T=>some T
 |v::l,i,T=>match T.set L5 i v with|some T=>nV l (Nat.succ i) T|none=>none
def Ur (e:TypeId)(n:Nat)(H:aB):Option (Ending×aB):=
 match H.od [] e false with
 |some (id,H)=>some (.returned (.slice (some ⟨id,0,none⟩) n c9),H)
 |none=>none
def NG (P:Program)(fn:Func)(H:aB):List Value->List TypeId->Option (Ending×aB)
 |[.int .i64 (.ofNat n)],[t]=>bif decide (fn.name= "internal/bytealg.MakeNoZero")&&decide (fn.origin= "")&&Nat.ble n 1000000 then
  (match P.underlying t with
  |some (.slice e)=>bif Nat.beq (P.cellsOf e) 1 then Ur e n H else none
  |_=>none)
  else none
 |_,_=>none
def Us (P:Program)(fn:Func)(args:List Value)(H:aB):Option Next->Option (Ending×aB)
 |some (.value v)=>bif plain v then some (.returned v,H) else none
 |_=>NG P fn H args fn.resultTypes.toList
def NH (fn:Func)(H:aB):List Value->Option (Ending×aB)
 |[v]=>bif decide (fn.name= "internal/abi.NoEscape")&&decide (fn.origin= "") then some (.returned v,H) else none
 |_=>none
def AQ (P:Program)(fn:Func)(f:FuncId)(args:List Value)(H:aB):Option (Ending×aB):=
 bif args.all plain then Us P fn args H (eP P (callFunc f args.toArray)) else NH fn H args
def r9 (bJ:FrameMode):Option (Ending×aB)->Option (Ending×FrameMode×aB)
 |some (e,H)=>some (e,bJ,H)
 |none=>none
def wI (P:Program)(E:gQ)(fn:Func):Option (Exit×bi×aB)->Option (Ending×FrameMode×aB)
 |some (.normal,S,H)=>r9 S.bJ (iI P E fn S.T S.ds .returning H)
 |some (.ret,S,H)=>r9 S.bJ (iI P E fn S.T S.ds .returning H)
 |some (.panic chain,S,H)=>r9 S.bJ (iI P E fn S.T S.ds (.panicking chain) H)
 |_=>none
def FX (P:Program)(E:gQ)(fn:Func)(c:Code)(b2:Bool)(bJ:FrameMode)(H:aB):Option (bg Value)->Option (Ending×FrameMode×aB)
 |some T=>wI P E fn (E.code c ⟨T,fn.ntmps,[],b2,bJ,none⟩ H)
 |none=>none
def FW (P:Program)(E:gQ)(f:FuncId)(fn:Func)(args:List Value)(b2:Bool)(bJ:FrameMode)(H:aB):Option Code->Option (Ending×FrameMode×aB)
 |some c=>FX P E fn c b2 bJ H (nV args 0 (blank fn.ntmps))
 |none=>bif b2 then none else r9 bJ (AQ P fn f args H)
def p7 (P:Program)(fb:bg Func)(E:gQ)(f:FuncId)(args:List Value)(b2:Bool)(bJ:FrameMode)(H:aB):Option (Ending×FrameMode×aB):=
 match fb.get f with
 |none=>none
 |some fn=>FW P E f fn args b2 bJ H fn.body
def vp (P:Program)(fb:bg Func)(n:Nat):gQ:=
 Nat.rec (motive:=fun _=>gQ) ⟨fun _ _ _=>none,fun _ _ _ _ _=>none⟩ (fun _ E=>⟨J4 P E,p7 P fb E⟩) n
def x7 {α:Type}:List α->Nat->bg α->Option (bg α)
 |[],_,T=>some T
 |v::l,i,T=>match T.set L5 i v with|some T=>x7 l (Nat.succ i) T|none=>none
end
end Go.Cre
namespace Go.Cre
noncomputable section
open Go.RowKit
theorem bg.UK{α:Type}(n:Nat):(bg.leaf:bg α).get n=none:=rfl
theorem bg.GJ{α:Type}(v:Option α)(l r:bg α):(bg.node v l r).get 0=v:=rfl
theorem bg.ra{α:Type}(v:Option α)(l r:bg α)(m:Nat):(bg.node v l r).get (m+1)=if m % 2=0 then l.get (m / 2) else r.get (m / 2):=by
 show Bool.rec (motive:=fun _=>Option α) (r.get (m / 2)) (l.get (m / 2)) (Nat.beq (m % 2) 0)=_;by_cases h:m % 2=0
 ·rw[aE h];simp[h]
 ·rw[ap h];have:Nat.beq (m % 2) 0=false:=by
   cases au:Nat.beq (m % 2) 0
   ·rfl
   ·exact absurd (eN au) h
  rw[this]
theorem bg.amy{α:Type}(a:α):bg.put a .leaf 0=some (.node (some a) .leaf .leaf):=rfl
theorem bg.amx{α:Type}(a:α)(m:Nat):bg.put a .leaf (m+1)=none:=rfl
theorem bg.amB{α:Type}(a:α)(v:Option α)(l r:bg α):bg.put a (.node v l r) 0=some (.node (some a) l r):=rfl
theorem bg.LJ{α:Type}(a:α)(v:Option α)(l r:bg α)(m:Nat):
 bg.put a (.node v l r) (m+1)=if m % 2=0 then bg.left v r (bg.put a l (m / 2)) else bg.right v l (bg.put a r (m / 2)):=by
 show Bool.rec (motive:=fun _=>Option (bg α)) (bg.right v l (bg.put a r (m / 2))) (bg.left v r (bg.put a l (m / 2))) (Nat.beq (m % 2) 0)=_;by_cases h:m % 2=0
 ·rw[aE h];simp[h]
 ·rw[ap h];have:Nat.beq (m % 2) 0=false:=by
   cases au:Nat.beq (m % 2) 0
   ·rfl
   ·exact absurd (eN au) h
  rw[this]
theorem bg.get_put{α:Type}{a:α}{t fo:bg α}{n:Nat}(h:bg.put a t n=some fo)(m:Nat):fo.get m=if m=n then some a else t.get m:=by
 induction t generalizing fo n m with
 |leaf=>
  cases n with
  |zero=>
   rw[bg.amy] at h;injection h with h;subst h
   cases m with
   |zero=>simp[bg.GJ]
   |succ m=>rw[bg.ra];simp[bg.UK]
  |succ n=>rw[bg.amx] at h;cases h
 |node v l r xK xL=>
  cases n with
  |zero=>
   rw[bg.amB] at h;injection h with h;subst h
   cases m with
   |zero=>simp[bg.GJ]
   |succ m=>rw[bg.ra,bg.ra];simp
  |succ n=>
   rw[bg.LJ] at h;by_cases aP:n % 2=0
   ·rw[aE aP] at h;cases av:bg.put a l (n / 2) with
    |none=>rw[av] at h;cases h
    |some l'=>
     rw[av] at h;injection h with h;subst h
     cases m with
     |zero=>simp[bg.GJ]
     |succ m=>
      rw[bg.ra,bg.ra,xK av];by_cases hm:m % 2=0
      ·rw[aE hm,aE hm];have:(m / 2=n / 2)↔(m+1=n+1):=by omega
       simp[this]
      ·rw[ap hm,ap hm];have:¬(m+1=n+1):=by omega
       rw[ap this]
   ·rw[ap aP] at h;cases ay:bg.put a r (n / 2) with
    |none=>rw[ay] at h;cases h
    |some dw=>
     rw[ay] at h;injection h with h;subst h
     cases m with
     |zero=>simp[bg.GJ]
     |succ m=>
      rw[bg.ra,bg.ra,xL ay];by_cases hm:m % 2=0
      ·rw[aE hm,aE hm];have:¬(m+1=n+1):=by omega
       rw[ap this]
      ·rw[ap hm,ap hm];have:(m / 2=n / 2)↔(m+1=n+1):=by omega
       simp[this]
theorem bg.UL{α:Type}{a:α}{t fo:bg α}{d n:Nat}(h:bg.set d t n a=some fo)(m:Nat):fo.get m=if m=n then some a else t.get m:=bg.get_put h m
theorem kR{α:Type}(l:List α)(n:Nat):nth l n=l[n]?:=by
 induction l generalizing n with
 |nil=>rfl
 |cons a l aK=>cases n with
  |zero=>rfl
  |succ n=>exact aK n
theorem wY{α:Type}(n:Nat)(l:List α):oG n l=l.drop n:=by
 induction l generalizing n with
 |nil=>simp[oG]
 |cons a l aK=>cases n with
  |zero=>rfl
  |succ n=>exact aK n
theorem E4{α:Type}{n:Nat}{l r:List α}(h:takeN n l=some r):r=l.take n/\r.length=n/\n<=l.length:=by
 induction n generalizing l r with
 |zero=>simp[takeN] at h;subst h;simp
 |succ n aK=>
  cases l with
  |nil=>simp[takeN] at h
  |cons a l=>
   simp only[takeN] at h;cases aD:takeN n l with
   |none=>rw[aD] at h;cases h
   |some dw=>
    rw[aD] at h;injection h with h;subst h
    obtain⟨aN,bn,cP⟩:=aK aD;refine⟨by rw[aN,Mv],by simp[bn],by simp;omega⟩
theorem Rg{α:Type}{n:Nat}{l vs r:List α}(h:gD n l vs=some r):
 r.length=l.length/\n+vs.length<=l.length/\∀i,r[i]?=if n<=i/\i<n+vs.length then vs[i -n]? else l[i]?:=by
 induction n generalizing l r with
 |zero=>
  induction vs generalizing l r with
  |nil=>simp[gD] at h;subst h;exact⟨rfl,by simp,fun i=>by simp⟩
  |cons v vs aK=>
   cases l with
   |nil=>simp[gD] at h
   |cons a l=>
    simp only[gD] at h;cases af:gD 0 l vs with
    |none=>rw[af] at h;cases h
    |some dw=>
     rw[af] at h;injection h with h;subst h
     obtain⟨aN,bn,cP⟩:=aK af;refine⟨by simp[aN],by simp at*;omega,fun i=>?_⟩;cases i with
     |zero=>simp
     |succ i=>
      have:=cP i;simp only[yr,this];simp
 |succ n aK=>
  cases l with
  |nil=>simp[gD] at h
  |cons a l=>
   simp only[gD] at h;cases af:gD n l vs with
   |none=>rw[af] at h;cases h
   |some dw=>
    rw[af] at h;injection h with h;subst h
    obtain⟨aN,bn,cP⟩:=aK af;refine⟨by simp[aN],by simp;omega,fun i=>?_⟩;cases i with
    |zero=>simp
    |succ i=>
     have:=cP i;simp only[yr,this];have aH:(n+1<=i+1/\i+1<n+1+vs.length)↔(n<=i/\i<n+vs.length):=by omega
     simp only[aH];split
     ·rw[show i+1 -(n+1)=i -n from by omega]
     ·rfl
structure Loc where
 r:Nat
 N:Nat
 sz:Nat
abbrev b1:=Nat->Option Loc
def isAtom:Value->Bool
 |.bool _|.int _ _|.float _ _|.string _|.nilFunc|.nilIface|.pointer none|.slice none _ _|.map none=>true
 |_=>false
inductive bF (μ:b1):Value->Value->Prop
 |atom (v:Value):isAtom v=true->bF μ v v
 |ptr (id off:Nat) (L:Loc):μ id=some L->bF μ (.pointer (some ⟨id,off,none⟩)) (.pointer (some ⟨L.r,off,none⟩))
 |nP (id off len cap:Nat) (L:Loc):μ id=some L->cap<c9->bF μ (.slice (some ⟨id,off,none⟩) len cap) (.slice (some ⟨L.r,off,none⟩) len cap)
 |pL (id off len cap:Nat) (L:Loc):μ id=some L->len<=cap->off+cap*L.sz<=L.N->bF μ (.slice (some ⟨id,off,none⟩) len c9) (.slice (some ⟨L.r,off,none⟩) len cap)
 |v8 (id off gb:Nat) (L:Loc):μ id=some L->bF μ (.slice (some ⟨id,off,none⟩) 0 c9) (.slice (some ⟨L.r,gb,none⟩) 0 0)
 |x3 (a:Addr):bF μ (.slice (some ⟨0,0,some 0⟩) 0 0) (.slice (some a) 0 0)
 |map (id:Nat) (L:Loc):μ id=some L->bF μ (.map (some id)) (.map (some L.r))
 |yd (v:Value):eQ v=true->bF μ (.chan none) v
 |func (fn:Fn) (a b bY b':Array Value):xT fn=true->a.size=bY.size->b.size=b'.size->
  (∀(i:Nat) v v',a[i]?=some v->bY[i]?=some v'->bF μ v v')->(∀(i:Nat) v v',b[i]?=some v->b'[i]?=some v'->bF μ v v')->bF μ (.func fn a b) (.func fn bY b')
 |yield (l:Nat) (L:Loc):μ l=some L->bF μ (.func (.yield l) #[] #[]) (.func (.yield L.r) #[] #[])
 |iface (t:TypeId) (v v':Value):bF μ v v'->bF μ (.iface t v) (.iface t v')
 |agg (a bY:Array Value):a.size=bY.size->(∀(i:Nat) v v',a[i]?=some v->bY[i]?=some v'->bF μ v v')->bF μ (.agg a) (.agg bY)
 |tuple (a bY:Array Value):a.size=bY.size->(∀(i:Nat) v v',a[i]?=some v->bY[i]?=some v'->bF μ v v')->bF μ (.tuple a) (.tuple bY)
def b4(μ:b1)(l l':List Value):Prop:=l.length=l'.length/\∀(i:Nat) v v',l[i]?=some v->l'[i]?=some v'->bF μ v v'
def Ext(μ bI:b1):Prop:=∀id L,μ id=some L->bI id=some L
theorem Ext.refl(μ:b1):Ext μ μ:=fun _ _ h=>h
theorem Ext.trans{a b c:b1}(h:Ext a b)(k:Ext b c):Ext a c:=fun id L x=>k id L (h id L x)
theorem bF.mono{μ bI:b1}{v v':Value}(h:bF μ v v')(e:Ext μ bI):bF bI v v':=by
 induction h with
 |atom v h=>exact .atom v h
 |ptr id off L h=>exact .ptr id off L (e _ _ h)
 |nP id off len cap L h aH=>exact .nP id off len cap L (e _ _ h) aH
 |pL id off len cap L h aH aP=>exact .pL id off len cap L (e _ _ h) aH aP
 |v8 id off gb L h=>exact .v8 id off gb L (e _ _ h)
 |x3 a=>exact .x3 a
 |map id L h=>exact .map id L (e _ _ h)
 |yd v h=>exact .yd v h
 |func fn a b bY b' ai a' au _ _ ajI ajJ=>exact .func fn a b bY b' ai a' au ajI ajJ
 |yield l L h=>exact .yield l L (e _ _ h)
 |iface t v v' _ aK=>exact .iface t v v' aK
 |agg a bY af _ aK=>exact .agg a bY af aK
 |tuple a bY af _ aK=>exact .tuple a bY af aK
theorem b4.mono{μ bI:b1}{l l':List Value}(h:b4 μ l l')(e:Ext μ bI):b4 bI l l':=⟨h.1,fun i v v' a b=>(h.2 i v v' a b).mono e⟩
theorem b4.nil(μ:b1):b4 μ [] []:=⟨rfl,fun i v v' h=>by simp at h⟩
theorem b4.cons{μ:b1}{v v':Value}{l l':List Value}(h:bF μ v v')(t:b4 μ l l'):b4 μ (v::l) (v'::l'):=by
 refine⟨by simp[t.1],fun i a b a' au=>?_⟩;cases i with
 |zero=>simp at a' au;subst a';subst au;exact h
 |succ i=>simp at a' au;exact t.2 i a b a' au
theorem b4.jC{μ:b1}{v:Value}{l m:List Value}(h:b4 μ (v::l) m):∃v' l',m=v'::l'/\bF μ v v'/\b4 μ l l':=by
 cases m with
 |nil=>have:=h.1;simp at this
 |cons v' l'=>
  refine⟨v',l',rfl,h.2 0 v v' rfl rfl,by have:=h.1;simpa using this,fun i a b a' au=>h.2 (i+1) a b (by simpa using a') (by simpa using au)⟩
theorem b4.lf{μ:b1}{m:List Value}(h:b4 μ [] m):m=[]:=by
 have:=h.1;exact s9.1 (by simpa using this.symm)
theorem b4.append{μ:b1}{l l' m m':List Value}(h:b4 μ l l')(k:b4 μ m m'):b4 μ (l++m) (l'++m'):=by
 refine⟨by simp[h.1,k.1],fun i a b a' au=>?_⟩;rw[Sh] at a' au;rw[<-h.1] at au;split at a'
 ·rename_i ao;rw[aE ao] at au;exact h.2 i a b a' au
 ·rename_i ao;rw[ap ao] at au;exact k.2 _ a b a' au
theorem b4.take{μ:b1}{l l':List Value}(h:b4 μ l l')(n:Nat):b4 μ (l.take n) (l'.take n):=by
 refine⟨by simp[h.1],fun i a b a' au=>?_⟩;rw[kI] at a' au;split at a'
 ·rename_i ao;rw[aE ao] at au;exact h.2 i a b a' au
 ·cases a'
theorem b4.drop{μ:b1}{l l':List Value}(h:b4 μ l l')(n:Nat):b4 μ (l.drop n) (l'.drop n):=by
 refine⟨by simp[h.1],fun i a b a' au=>?_⟩;rw[pY] at a' au;exact h.2 _ a b a' au
theorem b4.get{μ:b1}{l l':List Value}(h:b4 μ l l'){i:Nat}{v:Value}(az:l[i]?=some v):∃v',l'[i]?=some v'/\bF μ v v':=by
 have ao:i<l.length:=by
  rcases kY i l.length with x|x
  ·exact x
  ·rw[fx x] at az;cases az
 have hi':i<l'.length:=h.1▸ao;exact⟨l'[i],de hi',h.2 i v _ az (de hi')⟩
theorem bF.JD{μ:b1}{l l':List Value}(h:b4 μ l l'):bF μ (.agg l.toArray) (.agg l'.toArray):=
 .agg _ _ (by simp[h.1]) fun i v v' a b=>h.2 i v v' (by simpa using a) (by simpa using b)
theorem bF.Rq{μ:b1}{l l':List Value}(h:b4 μ l l'):bF μ (.tuple l.toArray) (.tuple l'.toArray):=
 .tuple _ _ (by simp[h.1]) fun i v v' a b=>h.2 i v v' (by simpa using a) (by simpa using b)
theorem bF.SM{μ:b1}{a:Array Value}{v:Value}(h:bF μ (.agg a) v):∃bY,v=.agg bY/\b4 μ a.toList bY.toList:=by
 cases h with
 |atom _ h=>simp[isAtom] at h
 |agg _ bY af ay=>exact⟨bY,rfl,by simpa using af,fun i v v' x y=>ay i v v' (by simpa using x) (by simpa using y)⟩
theorem bF.aol{μ:b1}{a:Array Value}{v:Value}(h:bF μ (.tuple a) v):∃bY,v=.tuple bY/\b4 μ a.toList bY.toList:=by
 cases h with
 |atom _ h=>simp[isAtom] at h
 |tuple _ bY af ay=>exact⟨bY,rfl,by simpa using af,fun i v v' x y=>ay i v v' (by simpa using x) (by simpa using y)⟩
theorem bF.undef(μ:b1):bF μ undef undef:=.tuple _ _ rfl fun i v v' h=>by simp at h
theorem bF.ak'{μ:b1}:∀{n:Nat} {v:Value},iA n v=true->bF μ v v:=by
 intro n;induction n with
 |zero=>intro v h;simp[iA] at h
 |succ n aK=>
  intro v h;cases v with
  |bool b=>exact .atom _ rfl
  |int k n=>exact .atom _ rfl
  |float k b=>exact .atom _ rfl
  |complex k a b=>simp[iA] at h
  |string s=>exact .atom _ rfl
  |pointer a=>cases a with
   |none=>exact .atom _ rfl
   |some a=>simp[iA] at h
  |slice a l c=>cases a with
   |none=>exact .atom _ rfl
   |some a=>simp[iA] at h
  |map r=>cases r with
   |none=>exact .atom _ rfl
   |some a=>simp[iA] at h
  |chan r=>simp[iA] at h
  |func fn a b=>
   cases fn with
   |func f=>
    simp[iA] at h;obtain⟨rfl,rfl⟩:=h;exact .func _ _ _ _ _ rfl rfl rfl (fun i v v' h=>by simp at h) (fun i v v' h=>by simp at h)
   |_=>simp[iA] at h
  |nilFunc=>exact .atom _ rfl
  |iface t v=>simp only[iA] at h;exact .iface _ _ _ (aK h)
  |nilIface=>exact .atom _ rfl
  |agg cs=>
   simp only[iA,s8] at h;exact .agg _ _ rfl fun i v v' a b=>by
    rw[a] at b;injection b with b;subst b
    exact aK (h v (Fj.2 (Jb a)))
  |tuple cs=>
   simp only[iA,s8] at h;exact .tuple _ _ rfl fun i v v' a b=>by
    rw[a] at b;injection b with b;subst b
    exact aK (h v (Fj.2 (Jb a)))
theorem SY{a b:Array Value}(af:a.size=b.size)(h:∀(i:Nat) v v',a[i]?=some v->b[i]?=some v'->v'=v):b=a:=by
 apply Array.ext af.symm
 intro i aa ae;exact h i a[i] b[i] (CD ae) (CD aa)
theorem bF.B9{μ:b1}:∀{n:Nat} {v v':Value},iA n v=true->bF μ v v'->v'=v:=by
 intro n;induction n with
 |zero=>intro v v' h;simp[iA] at h
 |succ n aK=>
  intro v v' h ay;cases ay with
  |atom _ _=>rfl
  |ptr=>simp[iA] at h
  |nP=>simp[iA] at h
  |pL=>simp[iA] at h
  |v8=>simp[iA] at h
  |x3=>simp[iA] at h
  |map=>simp[iA] at h
  |yd=>simp[iA] at h
  |func fn a b bY b' ai a' au qm qn=>
   cases fn with
   |func f=>
    simp[iA] at h;obtain⟨rfl,rfl⟩:=h;have aN:bY=#[]:=aan (by simpa using a'.symm);have bn:b'=#[]:=aan (by simpa using au.symm);rw[aN,bn]
   |_=>simp[iA] at h
  |yield=>simp[iA] at h
  |iface t v v' az=>simp only[iA] at h;rw[aK h az]
  |agg a bY af az=>
   simp only[iA,s8] at h;rw[SY af fun i v v' x y=>aK (h v (Fj.2 (Jb x))) (az i v v' x y)]
  |tuple a bY af az=>
   simp only[iA,s8] at h;rw[SY af fun i v v' x y=>aK (h v (Fj.2 (Jb x))) (az i v v' x y)]
theorem bF.cells{μ:b1}{v v':Value}(h:bF μ v v'):b4 μ v.cells.toList v'.cells.toList:=by
 cases h with
 |agg a bY af az=>exact⟨by simpa[Value.cells] using af,fun i v v' x y=>az i v v' (by simpa[Value.cells] using x) (by simpa[Value.cells] using y)⟩
 |atom v h=>cases v<;>first|(simp[isAtom] at h;done)|exact b4.cons (.atom _ h) (b4.nil _)
 |ptr id off L h=>exact b4.cons (.ptr id off L h) (b4.nil _)
 |nP id off len cap L h aH=>exact b4.cons (.nP id off len cap L h aH) (b4.nil _)
 |pL id off len cap L h aH aP=>exact b4.cons (.pL id off len cap L h aH aP) (b4.nil _)
 |v8 id off gb L h=>exact b4.cons (.v8 id off gb L h) (b4.nil _)
 |x3 a=>exact b4.cons (.x3 a) (b4.nil _)
 |map id L h=>exact b4.cons (.map id L h) (b4.nil _)
 |yd _ h=>cases v'<;>first|(simp[eQ] at h;done)|exact b4.cons (.yd _ h) (b4.nil _)
 |func fn a b bY b' ai a' au qm qn=>exact b4.cons (.func fn a b bY b' ai a' au qm qn) (b4.nil _)
 |yield l L h=>exact b4.cons (.yield l L h) (b4.nil _)
 |iface t v v' az=>exact b4.cons (.iface t v v' az) (b4.nil _)
 |tuple a bY af az=>exact b4.cons (.tuple a bY af az) (b4.nil _)
theorem bF.eQ{μ:b1}{v v':Value}(h:bF μ v v'):eQ v'=eQ v:=by
 cases h<;>first|rfl|assumption
end
end Go.Cre

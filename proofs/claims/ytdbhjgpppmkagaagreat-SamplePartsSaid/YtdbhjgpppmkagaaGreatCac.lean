/- A part of the proof of SampleParts. -/
import Derived.Test.YtdbhjgpppmkagaaGreatCab
set_option linter.unusedVariables false
set_option linter.unusedSimpArgs false
namespace Go.Cre
noncomputable section
def BO:Op->Bool
 |.store ..|.mapUpdate ..|.insert ..|.mapEntry ..|.entryStore ..|.next ..|.go _|.defer _|.panic _|.send ..|.recv ..|.select ..|.ready _=>true
 |.call {callee:=.builtin b,..}=>match b with|.len|.cap|.min|.max=>false|_=>true
 |.call _=>true
 |_=>false
def xC:Op->Bool
 |.alloc _|.box ..|.buildSlice ..|.makeMap ..|.makeSlice ..=>true
 |_=>false
def looks (ops:List Oper)(o:Oper):List Tmp:=
 (o.op.operands.toList.filterMap fun|.tmp t=>some t|_=>none)++
 (match o.guard with
  |some (g,_)=>(match nth ops g with|some p=>p.dst.toList|none=>[])
  |none=>[])
def AS:List Edge->Nat
 |[]=>0
 |e::l=>bif Region.binds .any e then Nat.lor (Nat.pow 2 e.on) (AS l) else AS l
def Oper.fP (o:Oper):Nat:=AS o.after.toList
def sub (a b:Nat):Bool:=Nat.beq (Nat.land a b) a
def Nv (ops:List Oper)(a b:Oper):Bool:=match a.dst with|some d=>(looks ops b).any (Nat.beq d)|none=>false
def Qt (ops:List Oper)(i:Nat)(a:Oper):List Oper->Bool
 |[]=>false
 |b::l=>(Nv ops a b&&!Nat.testBit (Oper.fP b) i)||Qt ops i a l
def AN (ops:List Oper):List Oper->Nat->Nat
 |[],_=>0
 |o::l,i=>Nat.lor (bif BO o.op||Qt ops i o ops then Nat.pow 2 i else 0) (AN ops l (i+1))
def wJ:List Oper->Nat->Nat
 |[],_=>0
 |o::l,i=>Nat.lor (bif xC o.op then Nat.pow 2 i else 0) (wJ l (i+1))
inductive iW where
 |val (i:Nat)
 |f' (i:Nat)
 |cv (i:Nat)
 |c9 (l:List Nat)
def I' (ok:Nat->Bool)(C:Nat):List Oper->Nat->Option Nat
 |[],_=>none
 |o::l,i=>bif !Nat.testBit C i&&ok i&&sub (Oper.fP o) C then some i else I' ok C l (i+1)
def ts (ops:List Oper):Nat->Nat->Nat
 |0,K=>K
 |n+1,K=>ts ops n (bif Nat.testBit K n then(match nth ops n with|some o=>Nat.lor K (Oper.fP o)|none=>K) else K)
def bitsOf (m:Nat):Nat->List Nat
 |0=>[]
 |n+1=>bif Nat.testBit m n then n::bitsOf m n else bitsOf m n
def zI:List Nat->Nat
 |[]=>0
 |i::l=>Nat.lor (Nat.pow 2 i) (zI l)
def BX (ops:List Oper)(ca cq:Nat):Nat->Nat->Nat->Nat->List iW
 |0,_,_,_=>[]
 |n+1,C,K,G=>
  match I' (fun i=>!Nat.testBit ca i&&Nat.testBit cq i) C ops 0 with
  |some i=>.f' i::BX ops ca cq n (Nat.lor C (Nat.pow 2 i)) K (Nat.lor (Nat.land G cq) (Nat.pow 2 i))
  |none=>match I' (fun i=>!Nat.testBit ca i&&!Nat.testBit cq i) C ops 0 with
   |some i=>.val i::BX ops ca cq n (Nat.lor C (Nat.pow 2 i)) K (Nat.lor G (Nat.pow 2 i))
   |none=>match bitsOf (Nat.xor C (Nat.land C (Nat.lor K G))) ops.length with
    |i::l=>.c9 (i::l)::BX ops ca cq n C K (Nat.lor G (zI (i::l)))
    |[]=>match I' (Nat.testBit ca) C ops 0 with
     |some i=>.cv i::BX ops ca cq n (Nat.lor C (Nat.pow 2 i)) (ts ops ops.length (Nat.lor K (Nat.pow 2 i))) (Nat.land G cq)
     |none=>[]
def only(C i:Nat):List Oper->Nat->Bool
 |[],_=>true
 |o::l,k=>(Nat.testBit C k||Nat.beq k i||!sub (Oper.fP o) C)&&only C i l (k+1)
def It (C:Nat):Nat->Bool
 |0=>true
 |n+1=>Nat.testBit C n&&It C n
def fits (ops:List Oper)(C i:Nat):Bool:=!Nat.testBit C i&&(match nth ops i with|some o=>sub (Oper.fP o) C|none=>false)
def GR (ca cq C:Nat):List Nat->Bool
 |[]=>true
 |i::l=>Nat.testBit C i&&!Nat.testBit cq i&&GR ca cq C l
def nv (ops:List Oper)(ca cq:Nat):Nat->Nat->Nat->List iW->Bool
 |C,K,G,[]=>It C ops.length&&sub C (Nat.lor K G)
 |C,K,G,.val i::l=>fits ops C i&&!Nat.testBit ca i&&!Nat.testBit cq i&&nv ops ca cq (Nat.lor C (Nat.pow 2 i)) K (Nat.lor G (Nat.pow 2 i)) l
 |C,K,G,.f' i::l=>fits ops C i&&!Nat.testBit ca i&&Nat.testBit cq i&&nv ops ca cq (Nat.lor C (Nat.pow 2 i)) K (Nat.lor (Nat.land G cq) (Nat.pow 2 i)) l
 |C,K,G,.c9 s::l=>GR ca cq C s&&nv ops ca cq C K (Nat.lor G (zI s)) l
 |C,K,G,.cv i::l=>fits ops C i&&Nat.testBit ca i&&only C i ops 0&&sub C (Nat.lor K G)&&
  (match nth ops i with|some o=>sub (Oper.fP o) (ts ops ops.length (Nat.lor K (Nat.pow 2 i)))&&Nat.testBit (ts ops ops.length (Nat.lor K (Nat.pow 2 i))) i|none=>false)&&
  nv ops ca cq (Nat.lor C (Nat.pow 2 i)) (ts ops ops.length (Nat.lor K (Nat.pow 2 i))) (Nat.land G cq) l
def VT (a b:Oper):Bool:=match a.dst,b.dst with|some d,some e=>Nat.beq d e|_,_=>false
def Cb (ops:List Oper)(ca i j:Nat)(a b:Oper):Bool:=
 (Nat.beq i j||!VT a b)&&(!Nv ops a b||Nat.testBit (Oper.fP b) i||(Nat.testBit ca i&&(Nat.beq i j||Nat.testBit (Oper.fP a) j)))
def I3 (ops:List Oper)(ca i:Nat)(a:Oper):List Oper->Nat->Bool
 |[],_=>true
 |b::l,j=>Cb ops ca i j a b&&I3 ops ca i a l (j+1)
def FH (ops:List Oper)(ca:Nat):List Oper->Nat->Bool
 |[],_=>true
 |a::l,i=>I3 ops ca i a ops 0&&Nat.blt (Oper.fP a) (Nat.pow 2 i)&&(Nat.testBit ca i||!BO a.op)&&FH ops ca l (i+1)
def DI (ops:List Oper):Bool:=
 FH ops (AN ops ops 0) ops 0&&nv ops (AN ops ops 0) (wJ ops 0) 0 0 0 (BX ops (AN ops ops 0) (wJ ops 0) (3*ops.length+3) 0 0 0)
def qS (f:Value->Value->Bool):List Value->List Value->Bool
 |[],[]=>true
 |x::l,y::m=>f x y&&qS f l m
 |_,_=>false
def addrEq:Option Addr->Option Addr->Bool
 |none,none=>true
 |some ⟨a,b,none⟩,some ⟨c,d,none⟩=>Nat.beq a c&&Nat.beq b d
 |some ⟨0,0,some 0⟩,some ⟨0,0,some 0⟩=>true
 |_,_=>false
def UB:Option Nat->Option Nat->Bool
 |none,none=>true
 |some a,some b=>Nat.beq a b
 |_,_=>false
def Yy:Bool->Bool->Bool
 |true,true=>true
 |false,false=>true
 |_,_=>false
def Lh:Fn->Fn->Bool
 |.func f,.func g=>Nat.beq f g
 |_,_=>false
def hA:Nat->Value->Value->Bool
 |0,_,_=>false
 |n+1,a,b=>match a,b with
  |.bool a,.bool b=>Yy a b
  |.int k a,.int l b=>sG k l&&pr a b
  |.string a,.string b=>decide (a.data.toList=b.data.toList)
  |.pointer a,.pointer b=>addrEq a b
  |.slice a l c,.slice b m d=>addrEq a b&&Nat.beq l m&&Nat.beq c d
  |.map a,.map b=>UB a b
  |.nilFunc,.nilFunc=>true
  |.nilIface,.nilIface=>true
  |.iface t v,.iface u w=>Nat.beq t u&&hA n v w
  |.agg a,.agg b=>qS (hA n) a.toList b.toList
  |.tuple a,.tuple b=>qS (hA n) a.toList b.toList
  |.func f a b,.func g c d=>Lh f g&&qS (hA n) a.toList c.toList&&qS (hA n) b.toList d.toList
  |_,_=>false
inductive iy where
 |ptr
 |z6 (len cap:Nat)
 |map
def iy.at (id:Nat):iy->Value
 |.ptr=>.pointer (some ⟨id,0,none⟩)
 |.z6 l c=>.slice (some ⟨id,0,none⟩) l c
 |.map=>.map (some id)
def py (T:aX Value)(x:Operand):Option Value:=
 Operand.rec (motive:=fun _=>Option Value) (fun t=>T.get t) NS (fun _=>none) (fun f=>some (.func (.func f) #[] #[])) x
def rI (T:aX Value):List (Nat×Operand)->Option (List (Nat×Value))
 |[]=>some []
 |(i,x)::l=>match py T x with
  |some v=>match rI T l with|some r=>some ((i,v)::r)|none=>none
  |none=>none
def wI (elem:TypeId)(v:Value):Option (fa×iy):=
 bif v.cells.toList.all eT then some (.row v.cells.toList elem false 0 0 false,.ptr) else none
def Db (P:Program)(t:TypeId)(l c:Value):Option (fa×iy):=
 match l,c,P.underlying t with
 |.int _ l,.int _ c,some (.slice elem)=>
  match fO P elem,tp P elem,eB P elem with
  |some z,some hZ,some aj=>
   match pt c 1000000,pt l 1000000 with
   |some c,some l=>
    bif Nat.ble l c&&Nat.ble hZ 1000000&&Nat.beq z.cells.toList.length aj&&z.cells.toList.all eT&&plain z then
     some (.row (gp z.cells.toList c) elem false 0 0 false,.z6 l c)
    else none
   |_,_=>none
  |_,_,_=>none
 |_,_,_=>none
def Da (P:Program)(t:TypeId)(len:Nat)(parts:List (Nat×Value)):Option (fa×iy):=
 match P.underlying t with
 |some (.slice elem)=>match eB P elem,fO P elem with
  |some aj,some z=>
   bif Nat.ble len 100000&&Nat.ble (len*aj) 100000&&plain z&&Nat.beq z.cells.toList.length aj then
    match mQ (fun i=>some (i*aj,aj)) (gp z.cells.toList len) parts with
    |some cells=>bif cells.all eT then some (.row cells elem false 0 0 false,.z6 len len) else none
    |none=>none
   else none
  |_,_=>none
 |_=>none
def Fh (P:Program)(t:TypeId)(r:Operand):Option (fa×iy):=
 match r with
 |.const (.int .i64 (.ofNat 0))=>(match P.underlying t with|some (.map _ _)=>some (fa.dead,iy.map)|_=>none)
 |_=>none
def mg (P:Program)(T:aX Value):Op->Option (fa×iy)
 |.alloc elem=>(match fO P elem with|some z=>bif plain z then wI elem z else none|none=>none)
 |.box elem x=>(match py T x with|some v=>wI elem v|none=>none)
 |.buildSlice t len parts=>(match rI T parts.toList with|some dx=>Da P t len dx|none=>none)
 |.makeMap _ none=>some (.map [] 0,.map)
 |.makeMap t (some r)=>Fh P t r
 |.makeSlice t l c=>(match py T l,py T c with|some l,some c=>Db P t l c|_,_=>none)
 |_=>none
abbrev pL:=aQ->ao->Option dz
def qz (k:pL)(H:ao)(S:Option aQ):Option dz:=Option.rec (motive:=fun _=>Option dz) none (fun S=>k S H) S
def F6 (S:aQ)(H:ao)(dst:Option Tmp)(k:pL):Option cF->Option dz
 |some (.val v H')=>bif Nat.beq H'.af H.af then qz k H (S.put dst v) else none
 |_=>none
def WT (P:Program)(call:eS)(aL:gU)(S:aQ)(H:ao)(o:Oper)(k:pL)(b:Bool):Option dz:=
 Bool.rec (motive:=fun _=>Option dz) (qz k H (S.put o.dst undef)) (F6 S H o.dst k (cY P call aL S H o)) b
def pG (P:Program)(call:eS)(aL:gU)(ops:List Oper)(S:aQ)(H:ao)(k:pL)(o:Oper):Option dz:=
 Option.rec (motive:=fun _=>Option dz) none (WT P call aL S H o k) (fW ops S.T o)
def Kr (S:aQ)(dst:Option Tmp)(k:pL)(ef:iy):Option (Nat×ao)->Option dz
 |some (a,H)=>qz k H (S.put dst (ef.at a))
 |none=>none
def Kq (S:aQ)(H:ao)(dst:Option Tmp)(k:pL):Option (fa×iy)->Option dz
 |some (b,ef)=>Kr S dst k ef (H.new b)
 |none=>none
def Qn (P:Program)(S:aQ)(H:ao)(o:Oper)(k:pL)(b:Bool):Option dz:=
 Bool.rec (motive:=fun _=>Option dz) (qz k H (S.put o.dst undef)) (Kq S H o.dst k (mg P S.T o.op)) b
def C9 (P:Program)(ops:List Oper)(S:aQ)(H:ao)(k:pL)(o:Oper):Option dz:=
 Option.rec (motive:=fun _=>Option dz) none (Qn P S H o k) (fW ops S.T o)
def ls (k:pL):Option dz->Option dz
 |some (.ok S H)=>k S H
 |_=>none
def G7 (af:Nat)(T:aX Value)(dst:Option Tmp):Option cF->Bool
 |some (.val v H')=>Nat.beq H'.af af&&(match dst with
  |none=>true
  |some d=>(match T.get d with|some u=>hA 8 v u|none=>false))
 |_=>false
def G6 (P:Program)(call:eS)(aL:gU)(ops:List Oper)(S:aQ)(H:ao)(o:Oper):Option Bool->Bool
 |some true=>G7 H.af S.T o.dst (cY P call aL S H o)
 |some false=>true
 |none=>false
def u2 (P:Program)(call:eS)(aL:gU)(ops:List Oper)(S:aQ)(H:ao)(i:Nat):Bool:=
 match nth ops i with
 |some o=>G6 P call aL ops S H o (fW ops S.T o)
 |none=>false
def kW (ops:List Oper)(i:Nat)(f:Oper->Option dz):Option dz:=Option.rec (motive:=fun _=>Option dz) none f (nth ops i)
def Dx (P:Program)(call:eS)(aL:gU)(ops:List Oper)(S:aQ)(H:ao)(k:pL)(l:List Nat):Option dz:=
 bif l.all (u2 P call aL ops S H) then k S H else none
def Ri (P:Program)(call:eS)(aL:gU)(ops:List Oper)(k:pL)(S:aQ)(H:ao)(s:iW):Option dz:=
 iW.rec (motive:=fun _=>Option dz) (fun i=>kW ops i (pG P call aL ops S H k)) (fun i=>kW ops i (C9 P ops S H k)) (fun i=>kW ops i fun o=>ls k (one P call aL ops S H o)) (Dx P call aL ops S H k) s
def eH (P:Program)(call:eS)(aL:gU)(ops:List Oper)(l:List iW):pL:=
 List.rec (motive:=fun _=>pL) (fun S H=>some (.ok S H)) (fun s _ k S H=>Ri P call aL ops k S H s) l
def Jb (ops:List Oper):List iW:=BX ops (AN ops ops 0) (wJ ops 0) (3*ops.length+3) 0 0 0
def yU (P:Program)(call:eS)(aL:gU)(ops:List Oper)(S:aQ)(H:ao):Option dz:=
 bif DI ops then eH P call aL ops (Jb ops) S H else none
def aaj (t:Nat):Option Tmp->Bool
 |some u=>Nat.beq u t
 |none=>false
structure Lit where
 t:Nat
 m:Nat
 eV:TypeId
 n:Nat
def Ug:List Oper->Option (Nat×TypeId)
 |[]=>none
 |o::l=>match o.op with
  |.insert eV (.tmp t) _ _=>some (t,eV)
  |_=>Ug l
def Ue (t:Nat):List Oper->Nat->Nat
 |[],i=>i
 |o::l,i=>bif aaj t o.dst then i else Ue t l (Nat.succ i)
def Ns:List Oper->Nat->Nat->Nat
 |[],_,n=>n
 |o::l,i,n=>match o.op with
  |.insert _ _ _ _=>Ns l (Nat.succ i) (Nat.succ i)
  |_=>Ns l (Nat.succ i) n
def ID (ops:List Oper):Option Lit:=match Ug ops with
 |some (t,eV)=>some ⟨t,Ue t ops 0,eV,Ns ops 0 0⟩
 |none=>none
def w4 (P:Program)(call:eS)(aL:gU)(ops:List Oper)(S:aQ)(H:ao):Option dz:=
 Option.rec (motive:=fun _=>Option dz) (yU P call aL ops S H) (fun _=>none) (ID ops)
structure fY where
 code:Code->aQ->ao->Option (Exit×aQ×ao)
 body:FuncId->List Value->Bool->FrameMode->ao->Option (Ending×FrameMode×ao)
def fY.call (E:fY):eS:=fun f args H=>match E.body f args false .run H with
 |some (e,_,H)=>some (e,H)
 |none=>none
def sS:aX Value->List Tmp->List Value->Option (aX Value)
 |T,[],[]=>some T
 |T,t::fN,v::vs=>match T.set Cu t v with|some T=>sS T fN vs|none=>none
 |_,_,_=>none
def tk (n:Nat):List Nat->Bool
 |[]=>true
 |x::l=>Nat.blt x n&&tk n l
def BR:Exit->Option (Option Code)
 |.normal=>some none
 |.ret=>some (some .ret)
 |.exit id=>some (some (.exit id))
 |_=>none
def alo (j:Option Code):Option ao->Option (Ending×ao)
 |some H=>some (.returned (.bool j.isNone),H)
 |none=>none
def Ah (H:ao)(l:Nat)(j:Option Code):Option (Ending×ao):=
 match H.mem.get l with
 |some (.loop r)=>alo j (H.upd l (.loop {r with state:=if j.isNone then .ready else .done,pending:=j}))
 |_=>none
def Pc (l:Nat):Option (Exit×aQ×ao)->Option (Ending×ao)
 |some (e,_,H)=>(match BR e with
  |some j=>Ah H l j
  |none=>none)
 |none=>none
def aln (E:fY)(l:Nat)(body:Code)(S:aQ):Option ao->Option (Ending×ao)
 |some H=>Pc l (E.code body S H)
 |none=>none
def Ge (E:fY)(l:Nat)(body:Code)(S:aQ)(H:ao):Option (Ending×ao):=
 match H.mem.get l with
 |some (.loop r)=>(match r.state with
  |.ready=>aln E l body S (H.upd l (.loop {r with state:=.busy}))
  |_=>none)
 |_=>none
def Pb (E:fY)(l:Nat)(body:Code):Option (Exit×aQ×ao)->Option (Ending×ao)
 |some (.normal,S,H)=>Ge E l body S H
 |_=>none
def Xf (E:fY)(l:Nat)(r:pI)(H:ao):Option (aX Value)->Option (Ending×ao)
 |some T=>Pb E l r.body (E.code r.assign ⟨T,r.n,[],false,.run,some l⟩ H)
 |none=>none
def fY.aL (E:fY):gU:=fun l args H=>
 match H.mem.get l with
 |some (.loop r)=>bif Nat.ble H.bq l&&tk r.n r.params then Xf E l r H (sS r.T r.params args) else none
 |_=>none
def sV:Option dz->Option (Exit×aQ×ao)
 |some (.ok S H)=>some (.normal,S,H)
 |some (.jh chain S H)=>some (.panic chain,S,H)
 |none=>none
def FP (S:aQ)(H:ao):Option (Nat×List Deferred×ao):=
 match S.cB with
 |some l=>(match H.mem.get l with|some (.loop r)=>some (r.gh,S.ds,H)|_=>none)
 |none=>(match H.new (.gh (some [])) with|some (r,H)=>some (r,{target:=.collected r,args:=#[]}::S.ds,H)|none=>none)
def Oe (S:aQ):Option Code->ao->Option (Exit×aQ×ao)
 |none,H=>some (.normal,S,H)
 |some .ret,H=>some (.ret,S,H)
 |some (.exit id),H=>some (.exit id,S,H)
 |some _,_=>none
def FO (S:aQ)(l:Nat)(H:ao):Option (Exit×aQ×ao):=
 match H.mem.get l with
 |some (.loop r)=>(match r.state with
  |.busy=>none
  |_=>(match H.upd l (.loop {r with state:=.exhausted}) with
   |none=>none
   |some H=>Oe S r.pending H))
 |_=>none
def Od (S:aQ)(l:Nat):Option (Ending×FrameMode×ao)->Option (Exit×aQ×ao)
 |some (.returned _,_,H)=>FO S l H
 |some (.panicked chain,_,H)=>some (.panic chain,S,H)
 |_=>none
def Vz (P:Program)(E:fY)(S:aQ)(l:Nat)(H:ao):Option Value->Option (Exit×aQ×ao)
 |some (.func fn first captured)=>(match mj P H fn (first.toList++[.func (.yield l) #[] #[]]) captured.toList with
  |none=>none
  |some (g,bJ)=>Od S l (E.body g bJ false .run H))
 |_=>none
def AZ (P:Program)(E:fY)(f:Operand)(params:Array Tmp)(assign body:Code)(S:aQ)(H:ao):Option (Exit×aQ×ao):=
 match FP S H with
 |none=>none
 |some (d,ds,H)=>
  match H.new (.loop {state:=.ready,pending:=none,T:=S.T,n:=S.n,params:=params.toList,assign,body,gh:=d}) with
  |none=>none
  |some (l,H)=>Vz P E {S with ds:=ds} l H (a6 S.T H f)
def Du (E:fY)(b:Code):Option (Exit×aQ×ao)->Option (Exit×aQ×ao)
 |some (.normal,S,H)=>E.code b S H
 |r=>r
def Y2 (E:fY)(S:aQ)(H:ao)(a b:Code):Option (Exit×aQ×ao):=Du E b (E.code a S H)
def G3 (E:fY)(S:aQ)(H:ao)(x y:Code):Option Value->Option (Exit×aQ×ao)
 |some (.bool true)=>E.code x S H
 |some (.bool false)=>E.code y S H
 |_=>none
def YV (E:fY)(S:aQ)(H:ao)(c:Operand)(x y:Code):Option (Exit×aQ×ao):=G3 E S H x y (a6 S.T H c)
def KM (id:Nat):Option (Exit×aQ×ao)->Option (Exit×aQ×ao)
 |some (.exit lF,S,H)=>bif Nat.beq lF id then some (.normal,S,H) else some (.exit lF,S,H)
 |r=>r
def YU (E:fY)(S:aQ)(H:ao)(id:Nat)(c:Code):Option (Exit×aQ×ao):=KM id (E.code c S H)
def YX (E:fY)(S:aQ)(H:ao)(c:Code):Option (Exit×aQ×ao):=Du E (.loop c) (E.code c S H)
def Q0:Option (Exit×aQ×ao)->Option (Exit×aQ×ao)
 |some (.goto _,_,_)=>none
 |r=>r
def Y1 (E:fY)(S:aQ)(H:ao)(c:Code):Option (Exit×aQ×ao):=Q0 (E.code c S H)
def Y0 (P:Program)(E:fY)(S:aQ)(H:ao)(_:Nat)(ops:Array Oper):Bool->Option (Exit×aQ×ao)
 |false=>sV (AX P E.call E.aL ops.toList ops.toList S H)
 |true=>sV (w4 P E.call E.aL ops.toList S H)
def YZ (P:Program)(E:fY)(S:aQ)(H:ao)(f:Operand)(params:Array Tmp)(assign body:Code):Option (Exit×aQ×ao):=AZ P E f params assign body S H
def YW (S:aQ)(H:ao)(id:Nat):Option (Exit×aQ×ao):=some (.exit id,S,H)
def QZ.{u} {a:Sort u} (_:a):Option (Exit×aQ×ao):=none
def YY (S:aQ)(H:ao)(_:Nat):Option (Exit×aQ×ao):=some (.normal,S,H)
def Hi (P:Program)(E:fY)(c:Code)(S:aQ)(H:ao):Option (Exit×aQ×ao):=
 Code.casesOn (motive:=fun _=>Option (Exit×aQ×ao)) c
  (some (.normal,S,H)) (Y0 P E S H) (Y2 E S H) (YV E S H) (YU E S H) (YX E S H) (YZ P E S H) (YW S H) (Y1 E S H) (YY S H) QZ (some (.ret,S,H)) QZ
def pb (P:Program)(T:aX Value)(H:ao):List ResultVar->Option (List Value)
 |[]=>some []
 |.tmp t::l=>(match T.get t with
  |some v=>(match pb P T H l with|some r=>some (v::r)|none=>none)
  |none=>none)
 |.cell a t::l=>(match T.get a with
  |some p=>(match yW P H t p with
   |some v=>(match pb P T H l with|some r=>some (v::r)|none=>none)
   |none=>none)
  |none=>none)
def qt:List Value->Value
 |[v]=>v
 |vs=>.tuple vs.toArray
def Iu:FrameMode->Bool
 |.run=>true
 |_=>false
def jN (P:Program)(E:fY)(fn:Func)(T:aX Value):List Deferred->FrameMode->ao->Option (Ending×ao)
 |[],.returning,H=>match pb P T H fn.results.toList with
  |some vs=>some (.returned (qt vs),H)
  |none=>none
 |[],.panicking chain,H=>some (.panicked chain,H)
 |[],.run,_=>none
 |d::ds,u,H=>bif Iu u then none else match d.target with
  |.fn fv cap=>match mj P H fv d.args.toList cap.toList with
   |none=>none
   |some (f,args)=>match E.body f args true u H with
    |some (.returned _,u,H)=>jN P E fn T ds (settle u) H
    |some (.panicked chain,u,H)=>jN P E fn T ds (raised u chain) H
    |_=>none
  |.collected r=>match H.mem.get r with
   |some (.gh (some []))=>bif Nat.ble H.bq r then(match H.upd r (.gh none) with
    |some H=>jN P E fn T ds u H
    |none=>none) else none
   |_=>none
  |_=>none
def Lg (n:Nat):Nat:=Nat.succ (Nat.log2 (Nat.succ n))
def blank (n:Nat):aX Value:=aX.full undef (Lg n)
def qT:List Value->Nat->aX Value->Option (aX Value)
 |[],_,T=>some T
 |v::l,i,T=>match T.set Cu i v with|some T=>qT l (Nat.succ i) T|none=>none
def RK (e:TypeId)(n:Nat)(H:ao):Option (Ending×ao):=
 match H.nq [] e false with
 |some (id,H)=>some (.returned (.slice (some ⟨id,0,none⟩) n cR),H)
 |none=>none
def Lf (P:Program)(fn:Func)(H:ao):List Value->List TypeId->Option (Ending×ao)
 |[.int .i64 (.ofNat n)],[t]=>bif decide (fn.name= "internal/bytealg.MakeNoZero")&&decide (fn.origin= "")&&Nat.ble n 1000000 then
  (match P.underlying t with
  |some (.slice e)=>bif Nat.beq (P.cellsOf e) 1 then RK e n H else none
  |_=>none)
  else none
 |_,_=>none
def RL (P:Program)(fn:Func)(args:List Value)(H:ao):Option Next->Option (Ending×ao)
 |some (.value v)=>bif plain v then some (.returned v,H) else none
 |_=>Lf P fn H args fn.resultTypes.toList
def RM (fn:Func)(H:ao):List Value->Option (Ending×ao)
 |[v]=>bif decide (fn.name= "internal/abi.NoEscape")&&decide (fn.origin= "") then some (.returned v,H) else none
 |_=>none
def DN (P:Program)(fn:Func)(f:FuncId)(args:List Value)(H:ao):Option (Ending×ao):=
 bif args.all plain then RL P fn args H (fI P (callFunc f args.toArray)) else RM fn H args
def to (b8:FrameMode):Option (Ending×ao)->Option (Ending×FrameMode×ao)
 |some (e,H)=>some (e,b8,H)
 |none=>none
def GZ (P:Program)(E:fY)(fn:Func):Option (Exit×aQ×ao)->Option (Ending×FrameMode×ao)
 |some (.normal,S,H)=>to S.b8 (jN P E fn S.T S.ds .returning H)
 |some (.ret,S,H)=>to S.b8 (jN P E fn S.T S.ds .returning H)
 |some (.panic chain,S,H)=>to S.b8 (jN P E fn S.T S.ds (.panicking chain) H)
 |_=>none
def Kz (P:Program)(E:fY)(fn:Func)(c:Code)(b0:Bool)(b8:FrameMode)(H:ao):Option (aX Value)->Option (Ending×FrameMode×ao)
 |some T=>GZ P E fn (E.code c ⟨T,fn.ntmps,[],b0,b8,none⟩ H)
 |none=>none
def QM (P:Program)(E:fY)(f:FuncId)(fn:Func)(args:List Value)(b0:Bool)(b8:FrameMode)(H:ao):Option Code->Option (Ending×FrameMode×ao)
 |some c=>Kz P E fn c b0 b8 H (qT args 0 (blank fn.ntmps))
 |none=>bif b0 then none else to b8 (DN P fn f args H)
def w3 (P:Program)(gI:aX Func)(E:fY)(f:FuncId)(args:List Value)(b0:Bool)(b8:FrameMode)(H:ao):Option (Ending×FrameMode×ao):=
 match gI.get f with
 |none=>none
 |some fn=>QM P E f fn args b0 b8 H fn.body
def tD (P:Program)(gI:aX Func)(n:Nat):fY:=
 Nat.rec (motive:=fun _=>fY) ⟨fun _ _ _=>none,fun _ _ _ _ _=>none⟩ (fun _ E=>⟨Hi P E,w3 P gI E⟩) n
def wh {α:Type}:List α->Nat->aX α->Option (aX α)
 |[],_,T=>some T
 |v::l,i,T=>match T.set Cu i v with|some T=>wh l (Nat.succ i) T|none=>none
end
end Go.Cre

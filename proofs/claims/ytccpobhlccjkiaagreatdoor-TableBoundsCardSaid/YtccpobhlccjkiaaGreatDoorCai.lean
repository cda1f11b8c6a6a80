/- A part of the proof of TableBounds. -/
import Derived.Test.YtccpobhlccjkiaaGreatDoorCah
import Derived.Test.YtccpobhlccjkiaaGreatDoorCaf
set_option linter.defProp false
set_option maxRecDepth 100000
set_option linter.unusedVariables false
set_option linter.unusedSimpArgs false
set_option maxHeartbeats 8000000
namespace Go.Opn
noncomputable section
open Go.Cre Go.RowKit Go.Proofs
def wrap_u64{n:Int}(aQ:0<=n)(ae:n<18446744073709551616):IntKind.u64.wrap n=n:=by
 unfold IntKind.wrap IntKind.signed IntKind.bits;simp only[GJ,zN,y8];omega
def wrap_u32{n:Int}(aQ:0<=n)(ae:n<4294967296):IntKind.u32.wrap n=n:=by
 unfold IntKind.wrap IntKind.signed IntKind.bits;simp only[GJ,zN,y8];omega
section
variable {Q:da jD}{g0:Nat}
def zf{α β:Type}{f:Nat->Option β}{g:α->β}:∀{L:List (Nat×α)},L.map (fun x=>f x.1)=L.map (fun x=>some (g x.2))->∀{t:Nat} {r:α},uf L t=some r->f t=some (g r):=by
 intro L;induction L with
 |nil=>intro _ t r h;cases h
 |cons x L aC=>
  obtain⟨u,v⟩:=x;intro h t r ar;rw[tp,tp,List.cons.injEq] at h;simp only[uf] at ar;cases ak:Nat.beq t u with
  |true=>
   rw[ak,cd] at ar;injection ar with ar;subst ar
   obtain rfl:=eM ak;exact h.1
  |false=>rw[ak,dQ] at ar;exact aC h.2 ar
def U0{f:Nat->Bool}:∀{L:List Nat},L.all f=true->∀{t:Nat},FO t L=true->f t=true:=by
 intro L;induction L with
 |nil=>intro _ t h;cases h
 |cons u L aC=>
  intro h t aM;rw[DQ,gQ] at h;simp only[FO] at aM;cases ak:Nat.beq t u with
  |true=>obtain rfl:=eM ak;exact h.1
  |false=>rw[ak,dQ] at aM;exact aC h.2 aM
def fJ{t:Nat}{r:Option Nat}(h:uf Qy t=some r):tu (aU Q g0).P t=some r:=zf (f:=fun t=>tu jD t) (g:=id) ajk h
def o6{t:Nat}{r:Nat}(h:uf WG t=some r):e6 (aU Q g0).P t=some r:=zf (f:=fun t=>e6 jD t) (g:=id) azt h
def ee{t:Nat}{r:TypeId×Nat×List Value}(h:uf Wk t=some r):nF (aU Q g0).P t=some r:=zf (f:=fun t=>nF jD t) (g:=id) ayj h
def Pr{t:Nat}{r:Value}(h:uf Xj t=some r):h2 (aU Q g0).P t=some r:=zf (f:=fun t=>h2 jD t) (g:=id) aBk h
def zB{t f:Nat}{r:Nat}(h:uf R4 (t*100+f)=some r)(ay:Nat.blt f 100=true):EJ (aU Q g0).P t f=some r:=by
 have:=zf (f:=fun k=>EJ jD (k / 100) (k % 100)) (g:=id) anS h;have ay:f<100:=by simpa[Nat.blt,x'] using ay
 rwa [show(t*100+f) / 100=t by omega,show(t*100+f) % 100=f by omega] at this
def agw{t:Nat}{r:Nat×Nat×Nat}(h:uf QE t=some r):z8 (aU Q g0).P t=some r:=zf (f:=fun t=>z8 jD t) (g:=id) ajC h
def agx{t:Nat}{r:Nat}(h:uf RN t=some r):EB (aU Q g0).P t=some r:=zf (f:=fun t=>EB jD t) (g:=id) am2 h
def agy{t:Nat}(h:FO t acW=true):isSlice (aU Q g0).P t=true:=U0 (f:=fun t=>isSlice jD t) isOk h
def azx{t:Nat}(h:FO t acX=true):FD (aU Q g0).P t=true:=U0 (f:=fun t=>FD jD t) as9 h
def agz{t:Nat}(h:FO t aei=true):CP (aU Q g0).P t=true:=U0 (f:=fun t=>CP jD t) auV h
def azv{t:Nat}{r:Sum (List (Nat×Nat)) Nat×List Value}(h:uf QU t=some r):Hz (aU Q g0).P t=some r:=zf (f:=fun t=>Hz jD t) (g:=id) ajX h
def azw{s t:Nat}{r:IntKind}(h:uf Rw (s*10000+t)=some r)(ay:Nat.blt t 10000=true):isInt (aU Q g0).P s t=some r:=by
 have:=zf (f:=fun k=>isInt jD (k / 10000) (k % 10000)) (g:=id) alP h;have ay:t<10000:=by simpa[Nat.blt,x'] using ay
 rwa [show(s*10000+t) / 10000=s by omega,show(s*10000+t) % 10000=t by omega] at this
structure Hid (p:Prop):Prop where
 out:p
section
variable {B:dN}{o:Oper}{n:Nat}{ds:er}{l:List (Nat×Value)}{m m':aJ}{J:ai}{d:Nat}
def afA{a:Nat}{cells:List Value}(h:mo m J a cells:=by first|exact .own (by repeat first|exact .head _|refine .tail _ ?_|refine j7 _ ?_)|exact .eG (by assumption)|exact .opn (by repeat first|exact .head _|refine .tail _ ?_|refine j7 _ ?_)):mo m J a cells:=h
def V.eC{x:Operand}{v:Value}(al:o.op=.move x:=by exact I) (U:bS l x=some v:=by exact I):dr (aU Q g0) B o n ds l m J (v):=WS al U
def V.LU{x:Operand}{v:Value}(al:o.op=.assign x:=by exact I) (U:bS l x=some v:=by exact I):dr (aU Q g0) B o n ds l m J (v):=az8 al U
def V.aah{s:TypeId}{x:Operand}{f a off k:Nat}(al:o.op=.fieldAddr s x f:=by exact I) (U:bS l x=some (.pointer (some ⟨a,off,none⟩)):=by exact I) (ay:EJ (aU Q g0).P s f=some k:=by exact zB I I):dr (aU Q g0) B o n ds l m J (.pointer (some ⟨a,off+k,none⟩)):=zH al U ay
def V.r0{t:TypeId}{x:Operand}{a off:Nat}{cells:List Value}{v:Value}(al:o.op=.load t x:=by exact I) (U:bS l x=some (.pointer (some ⟨a,off,none⟩)):=by exact I) (ar:mo m J a cells:=by exact afA) (az:n8 (aU Q g0).P t cells off=some v:=by exact g8 (fJ I) (by first|rfl|assumption)):dr (aU Q g0) B o n ds l m J (v):=j1 al U ar az
def V.ade{t:TypeId}{x:Operand}{a off:Nat}{cells:List Value}{v:Value}(al:o.op=.load t x:=by exact I) (U:bS l x=some (.pointer (some ⟨a,off,none⟩)):=by exact I) (ar:mo m J a cells:=by exact afA) (az:n8 (aU Q g0).P t cells off=some v:=by exact vP (fJ I) (by first|rfl|assumption)):dr (aU Q g0) B o n ds l m J (v):=j1 al U ar az
def V.cg{c x y:Operand}{t:Bool}{v:Value}(al:o.op=.pick c x y:=by exact I) (ax:bS l c=some (.bool t):=by exact I) (az:(if t=true then bS l x else bS l y)=some v:=by exact I):dr (aU Q g0) B o n ds l m J (v):=aAo al ax az
def V.ahq{op:BinOp}{t eE:TypeId}{x y:Operand}{k:IntKind}{a b:Int}{v:Value}(al:o.op=.binOp op t x y eE:=by exact I) (U:bS l x=some (.int k a):=by exact I) (an:bS l y=some (.int k b):=by exact I) (az:QP k a b op=some v:=by exact I):dr (aU Q g0) B o n ds l m J (v):=ag7 al U an az
def V.n0{op:BinOp}{t eE:TypeId}{x y:Operand}{k:IntKind}{a b c c':Int}(al:o.op=.binOp op t x y eE:=by exact I) (U:bS l x=some (.int k a):=by exact I) (an:bS l y=some (.int k b):=by exact I) (az:QD a b op=some c:=by exact I) (hw:k.wrap c=c':=by first|exact wrap_i64 (by omega) (by omega)|exact wrap_u8 (by omega) (by omega)|exact wrap_u64 (by omega) (by omega)|exact wrap_u32 (by omega) (by omega)|rfl):dr (aU Q g0) B o n ds l m J (.int k c'):=ag4 al U an az hw
def V.Ms{op:BinOp}{t eE:TypeId}{x y:Operand}{k:IntKind}{a b:Int}{v:Value}(al:o.op=.binOp op t x y eE:=by exact I) (U:bS l x=some (.int k a):=by exact I) (an:bS l y=some (.int k b):=by exact I) (az:Ev k a b op=some v:=by exact I) (ak:b≠0:=by first|decide|omega):dr (aU Q g0) B o n ds l m J (v):=aAb al U an az ak
def V.aer{v:Value}(h:dr (aU Q g0) B o n ds l m J v:=by first|exact aAm I I|exact ag8 I I):dr (aU Q g0) B o n ds l m J (v):=h
def V.ex{x:Operand}{dM:Nat}{vs:Array Value}{v:Value}(al:o.op=.extract x dM:=by exact I) (U:bS l x=some (.tuple vs):=by exact I) (az:nth vs.toList dM=some v:=by exact I):dr (aU Q g0) B o n ds l m J (v):=aAc al U az
def V.il{v:Value}(h:dr (aU Q g0) B o n ds l m J v:=by exact aAk I I I I (agy I)):dr (aU Q g0) B o n ds l m J (v):=h
def V.dM{t:TypeId}{x dM:Operand}{a off len cap sz:Nat}{k:IntKind}{i:Int}(al:o.op=.indexAddr t x dM:=by exact I) (U:bS l x=some (.slice (some ⟨a,off,none⟩) len cap):=by exact I) (hi:bS l dM=some (.int k i):=by exact I) (aM:EB (aU Q g0).P t=some sz:=by exact agx I) (aQ:0<=i:=by first|omega|(simp;omega)) (ae:i<len:=by first|omega|(simp;omega)):dr (aU Q g0) B o n ds l m J (.pointer (some ⟨a,off+i.toNat*sz,none⟩)):=ag6 al U hi aM aQ ae
def V.acO{t elem:TypeId}{x dM:Operand}{a off len sz:Nat}{k:IntKind}{i:Int}(al:o.op=.indexAddr t x dM:=by exact I) (U:bS l x=some (.pointer (some ⟨a,off,none⟩)):=by exact I) (hi:bS l dM=some (.int k i):=by exact I) (aM:z8 (aU Q g0).P t=some (len,elem,sz):=by exact agw I) (aQ:0<=i:=by first|omega|(simp;omega)) (ae:i<len:=by first|omega|(simp;omega)):dr (aU Q g0) B o n ds l m J (.pointer (some ⟨a,off+i.toNat*sz,none⟩)):=aAf al U hi aM aQ ae
def V.yi{v:Value}(h:dr (aU Q g0) B o n ds l m J v:=by exact az' I I (azv I) I):dr (aU Q g0) B o n ds l m J (v):=h
def V.aec{v:Value}(h:dr (aU Q g0) B o n ds l m J v:=by exact aAl I I):dr (aU Q g0) B o n ds l m J (v):=h
def V.i'{v:Value}(h:dr (aU Q g0) B o n ds l m J v:=by exact aAa I I (azw I I) (by first|exact wrap_i64 (by omega) (by omega)|exact wrap_u8 (by omega) (by omega)|exact wrap_u64 (by omega) (by omega)|exact wrap_u32 (by omega) (by omega)|rfl)):dr (aU Q g0) B o n ds l m J (v):=h
def V.fn{v:Value}(h:dr (aU Q g0) B o n ds l m J v:=by exact aAd I I I):dr (aU Q g0) B o n ds l m J (v):=h
def V.acR{v:Value}(h:dr (aU Q g0) B o n ds l m J v:=by exact aAe I I (agz I)):dr (aU Q g0) B o n ds l m J (v):=h
def V.Wj{v:Value}(h:dr (aU Q g0) B o n ds l m J v:=by exact aAu (op:=.eql) I I I (agy I)):dr (aU Q g0) B o n ds l m J (v):=h
section
variable {ops rest:List Oper}{bq:Option (List PanicEntry)->bY->aJ->ai->Prop}
def hA{v:Value}(az:dr (aU Q g0) B o n ds l m J v)(h:W (aU Q g0) B ops rest ⟨n,ds,(d,v)::l⟩ m J bq)(aB:o.guard=none:=by exact I) (av:o.dst=some d:=by exact I) (aA:Nat.blt d n=true:=by exact I):W (aU Q g0) B ops (o::rest) ⟨n,ds,l⟩ m J bq:=W.step aB (Exec.val av aA az h)
def Qn{v:Value}{g:Nat}{want b:Bool}(az:dr (aU Q g0) B o n ds l m J v)(h:W (aU Q g0) B ops rest ⟨n,ds,(d,v)::l⟩ m J bq)(aB:nl ops o=some (g,want):=by exact I) (ak:look l g=some (.bool b):=by exact I) (hw:(b==want)=true:=by exact I) (av:o.dst=some d:=by exact I) (aA:Nat.blt d n=true:=by exact I):W (aU Q g0) B ops (o::rest) ⟨n,ds,l⟩ m J bq:=W.Ix aB ak hw (Exec.val av aA az h)
def yc{e:Nat}{want b:Bool}(h:W (aU Q g0) B ops rest ⟨n,ds,(e,undef)::l⟩ m J bq)(aB:nl ops o=some (d,want):=by exact I) (ak:look l d=some (.bool b):=by exact I) (hw:(b==want)=false:=by exact I) (av:o.dst=some e:=by exact I) (aA:Nat.blt e n=true:=by exact I):W (aU Q g0) B ops (o::rest) ⟨n,ds,l⟩ m J bq:=W.aaF aB ak hw av aA h
def ai1{e:Nat}{want:Bool}(h:W (aU Q g0) B ops rest ⟨n,ds,(e,undef)::l⟩ m J bq)(aB:nl ops o=some (d,want):=by exact I) (ak:look l d=some undef:=by exact I) (av:o.dst=some e:=by exact I) (aA:Nat.blt e n=true:=by exact I):W (aU Q g0) B ops (o::rest) ⟨n,ds,l⟩ m J bq:=W.aoP aB ak av aA h
def ai0{t:TypeId}{x y:Operand}{a off k:Nat}{v:Value}{vs cells cells':List Value}{e:TypeId}(h:W (aU Q g0) B ops rest ⟨n,ds,l⟩ m' J bq)(aB:o.guard=none:=by exact I) (al:o.op=.store t x y:=by exact I) (av:o.dst=none:=by exact I) (U:bS l x=some (.pointer (some ⟨a,off,none⟩)):=by exact I) (an:bS l y=some v:=by exact I) (hk:e6 (aU Q g0).P t=some k:=by exact o6 I) (ax:v.cells.toList=vs:=by exact I) (aj:Nat.beq vs.length k=true:=by exact I) (aQ:Nat.blt 0 vs.length=true:=by exact I) (ae:vs.all fx=true:=by exact I) (ap:fY m a (.row cells e) (.row cells' e) m':=by repeat first|exact .head _ _ _ _|apply fY.tail|apply fY.app) (hs:gO off cells vs=some cells':=by exact I):W (aU Q g0) B ops (o::rest) ⟨n,ds,l⟩ m J bq:=W.step aB (.of (uE al av U an hk ax aj aQ ae hs ap h))
end
section
variable {ops:List Oper}{a0:List jM}{F:List (FuncId×List Value)}{i:Nat}{bq:bY->aJ->ai->Prop}
def GK{v:Value}(hi:nth ops i=some o)(az:dr (aU Q g0) B o n ds l m J v)(h:bX (aU Q g0) B ops a0 F ⟨n,ds,(d,v)::l⟩ m J bq)(aB:o.guard=none:=by exact I) (av:o.dst=some d:=by exact I) (aA:Nat.blt d n=true:=by exact I):bX (aU Q g0) B ops (.val i::a0) F ⟨n,ds,l⟩ m J bq:=bX.val hi aB av aA az h
def Xv{v:Value}(hi:nth ops i=some o)(az:dr (aU Q g0) B o n ds l m J v)(h:bX (aU Q g0) B ops a0 F ⟨n,ds,(d,v)::l⟩ m J bq)(aB:o.guard=none:=by exact I) (av:o.dst=some d:=by exact I) (aA:Nat.blt d n=true:=by exact I):bX (aU Q g0) B ops (.bw i::a0) F ⟨n,ds,l⟩ m J bq:=bX.akU hi aB av aA az h
def ah7{t:TypeId}{x y:Operand}{a off k:Nat}{v:Value}{vs cells cells':List Value}{e:TypeId}(hi:nth ops i=some o)(h:bX (aU Q g0) B ops a0 F ⟨n,ds,l⟩ m' J bq)(aB:o.guard=none:=by exact I) (al:o.op=.store t x y:=by exact I) (av:o.dst=none:=by exact I) (U:bS l x=some (.pointer (some ⟨a,off,none⟩)):=by exact I) (an:bS l y=some v:=by exact I) (hk:e6 (aU Q g0).P t=some k:=by exact o6 I) (ax:v.cells.toList=vs:=by exact I) (aj:Nat.beq vs.length k=true:=by exact I) (aQ:Nat.blt 0 vs.length=true:=by exact I) (ae:vs.all fx=true:=by exact I) (ap:fY m a (.row cells e) (.row cells' e) m':=by repeat first|exact .head _ _ _ _|apply fY.tail|apply fY.app) (hs:gO off cells vs=some cells':=by exact I):bX (aU Q g0) B ops (.bw i::a0) F ⟨n,ds,l⟩ m J bq:=bX.nP hi aB (uE al av U an hk ax aj aQ ae hs ap h)
end
section
variable {R:wC}{ops:List Oper}{a0:List jM}{i g:Nat}{want b:Bool}{bq:bY->aJ->ai->Prop}
def aiO{v:Value}(hi:nth ops i=some o)(az:dr (aU Q g0) B o n ds l m J v)(h:hK (aU Q g0) B R ops a0 ⟨n,ds,(d,v)::l⟩ m J bq)(aB:o.guard=none:=by exact I) (av:o.dst=some d:=by exact I) (aA:Nat.blt d n=true:=by exact I):hK (aU Q g0) B R ops (.val i::a0) ⟨n,ds,l⟩ m J bq:=hK.val hi aB av aA az h
def aiP{v:Value}(hi:nth ops i=some o)(az:dr (aU Q g0) B o n ds l m J v)(h:hK (aU Q g0) B R ops a0 ⟨n,ds,(d,v)::l⟩ m J bq)(aB:nl ops o=some (g,want):=by exact I) (ak:look l g=some (.bool b):=by exact I) (hw:(b==want)=true:=by exact I) (av:o.dst=some d:=by exact I) (aA:Nat.blt d n=true:=by exact I):hK (aU Q g0) B R ops (.val i::a0) ⟨n,ds,l⟩ m J bq:=hK.ahl hi aB ak hw av aA az h
end
def lU{v u:Value}(h:ep 8 v u=true:=by first|assumption|rfl|exact aho _ _ _|exact ahn _ _|exact ahp (by assumption) _ _ _|(refine aAA ?_;repeat first|exact aAD|refine aAC ?_ ?_|exact aho _ _ _|exact ahn _ _|exact ahp (by assumption) _ _ _)|simp[ep,addrEq]):ep 8 v u=true:=h
def e7{v:Value}(h:dr (aU Q g0) B o n ds l m J v:=by first|exact V.eC|exact V.LU|exact V.aah|exact V.r0|exact V.ade|exact V.dM|exact V.cg|exact V.n0|exact V.ahq|exact V.ex|exact V.yi|exact V.aer|exact V.n0|exact V.Ms|exact V.il|exact V.aec|exact V.i'|exact V.fn|exact V.acR|exact V.acO|exact V.Wj):dr (aU Q g0) B o n ds l m J v:=h
def eN{ops:List Oper}{is:List Nat}(h:x3 (aU Q g0) B ops n ds l m J is:=by
 repeat first
  |exact trivial
  |exact kq.val I I I e7 I lU
  |refine⟨?_,?_⟩):x3 (aU Q g0) B ops n ds l m J is:=h
def nh{ops:List Oper}{E:bY}{bq:Option (List PanicEntry)->bY->aJ->ai->Prop}(h:bq none E m J):W (aU Q g0) B ops [] E m J bq:=W.nil h
def rg{p q:Prop}(h:p)(nV:Hid p->q:=by
 intro oT;repeat refine aK.seq ?_
 refine aK.region ?_;exact oT.out):q:=nV ⟨h⟩
def bp{p q:Prop}(h:p)(nV:Hid p->q:=by
 intro oT;repeat refine aK.seq ?_
 exact oT.out):q:=nV ⟨h⟩
def Ox{p q:Prop}(h:p)(nV:Hid p->q:=by
 intro oT;refine nh ?_;repeat refine aK.seq ?_
 refine aK.region ?_;exact oT.out):q:=nV ⟨h⟩
def ns{p q:Prop}(h:p)(nV:Hid p->q:=by
 intro oT;refine nh ?_;repeat refine aK.seq ?_
 exact oT.out):q:=nV ⟨h⟩
def lu{p q:Prop}(h:p)(nV:Hid p->q:=by
 intro oT;repeat refine aK.seq ?_
 refine aK.skip ?_;exact oT.out):q:=nV ⟨h⟩
def JP{p q:Prop}(h:p)(nV:Hid p->q:=by
 intro oT;repeat refine aK.seq ?_
 refine aK.skip ?_;repeat refine aK.seq ?_
 refine aK.region ?_;exact oT.out):q:=nV ⟨h⟩
structure pN (t:Bool) (dj hQ:Prop):Prop where
 y:t=true->dj
 n:t=false->hQ
def pN.p(p:Prop)[Decidable p]:pN (decide p) p (¬p):=⟨OE,of_decide_eq_false⟩
def pN.b(t:Bool):pN t (t=true) (t=false):=⟨id,id⟩
def If{cp:Exit->bY->aJ->ai->Prop}{x:Operand}{a b:Code}{t:Bool}{dj hQ:Prop}(ae:dj->aK (aU Q g0) B a ⟨n,ds,l⟩ m J cp)(aQ:hQ->aK (aU Q g0) B b ⟨n,ds,l⟩ m J cp)(U:bS l x=some (.bool t):=by exact I) (hs:pN t dj hQ:=by first|exact pN.p _|exact pN.b _):aK (aU Q g0) B (.cond x a b) ⟨n,ds,l⟩ m J cp:=aK.cond U (fun q=>ae (hs.y q)) (fun q=>aQ (hs.n q))
def eX{ops rest:List Oper}{bq:Option (List PanicEntry)->bY->aJ->ai->Prop}(d:Nat){b:Bool}{dj hQ:Prop}(ae:dj->W (aU Q g0) B ops rest ⟨n,ds,(d,.bool true)::l⟩ m J bq)(aQ:hQ->W (aU Q g0) B ops rest ⟨n,ds,(d,.bool false)::l⟩ m J bq)(ak:look l d=some (.bool b):=by exact I) (hs:pN b dj hQ:=by first|exact pN.p _|exact pN.b _):W (aU Q g0) B ops rest ⟨n,ds,l⟩ m J bq:=W.split ak (fun q=>ae (hs.y q)) (fun q=>aQ (hs.n q))
def z2{R:wC}{ops:List Oper}{a0:List jM}{bq:bY->aJ->ai->Prop}(d:Nat){b:Bool}{dj hQ:Prop}(ae:dj->hK (aU Q g0) B R ops a0 ⟨n,ds,(d,.bool true)::l⟩ m J bq)(aQ:hQ->hK (aU Q g0) B R ops a0 ⟨n,ds,(d,.bool false)::l⟩ m J bq)(ak:look l d=some (.bool b):=by exact I) (hs:pN b dj hQ:=by first|exact pN.p _|exact pN.b _):hK (aU Q g0) B R ops a0 ⟨n,ds,l⟩ m J bq:=hK.split ak (fun q=>ae (hs.y q)) (fun q=>aQ (hs.n q))
def rz{l:List (Nat×Value)}{t:Nat}{v:Value}(h:look l t=some v:=by first|exact I|exact Zw I (by first|omega|(simp_all;done))|exact Zu I (by first|omega|(simp_all;done))|exact Zv I (by first|omega|(simp_all;done)|(simp_all;omega))|exact Zt I (by simp_all)|exact dh some (dh (Value.int .i64) (by omega))):look l t=some v:=h
def ce{p:Prop}(h:p:=by
 refine⟨⟨_,I,?_⟩,iC _,?_⟩
 ·repeat first|exact trivial|refine⟨rz,?_⟩
 ·first|exact I|exact ai.le.refl _|assumption):p:=h
def OQ (l:List (Nat×Value)):List Nat->Option (List (Nat×Value))
 |[]=>some []
 |t::ts=>match look l t with
  |some v=>(match OQ l ts with|some r=>some ((t,v)::r)|none=>none)
  |none=>none
def awH{l:List (Nat×Value)}:∀{ts:List Nat} {a9:List (Nat×Value)},OQ l ts=some a9->lT l a9:=by
 intro ts;induction ts with
 |nil=>intro a9 h;injection h with h;subst h;trivial
 |cons t ts aC=>
  intro a9 h;unfold OQ at h;split at h
  ·rename_i v az;split at h
   ·rename_i r ar;injection h with h;subst h
    exact⟨az,aC ar⟩
   ·cases h
  ·cases h
def fc{cp:Exit->bY->aJ->ai->Prop}{c:Code}{a9:List (Nat×Value)}(ts:List Nat)(h:aK (aU Q g0) B c ⟨n,ds,a9⟩ m J cp)(aj:OQ l ts=some a9:=by exact I):aK (aU Q g0) B c ⟨n,ds,l⟩ m J cp:=aK.PI (awH aj) (iC _) h
section
variable {ops rest:List Oper}{bq:Option (List PanicEntry)->bY->aJ->ai->Prop}{c:Call}{x:Operand}{f:FuncId}{first cap:Array Value}{args gG:List Value}{a1 cB:aJ}{dI:Value->aJ->ai->Prop}
def cl(aB:o.guard=none:=by exact I) (al:o.op=.call c:=by exact I) (av:o.dst=some d:=by exact I) (aA:Nat.blt d n=true:=by exact I) (ax:c.callee=.value x:=by exact I) (U:bS l x=some (.func (.func f) first cap):=by exact I) (aI:jH l c.args.toList=some args:=by exact I) (has:(first.toList++args)++cap.toList=gG:=by exact I) (ap:(a1++cB).Perm m:=by exact .refl _) (G:Fn (aU Q g0) f gG a1 J dI) (h:∀v m' ah,J.le ah->dI v m' ah->W (aU Q g0) B ops rest ⟨n,ds,(d,v)::l⟩ (m'++cB) ah bq):W (aU Q g0) B ops (o::rest) ⟨n,ds,l⟩ m J bq:=W.step aB (Exec.call al av aA ax U aI has ap trivial G h)
def BJ{g:Nat}{want b:Bool}(aB:nl ops o=some (g,want):=by exact I) (ak:look l g=some (.bool b):=by exact I) (hw:(b==want)=true:=by exact I) (al:o.op=.call c:=by exact I) (av:o.dst=some d:=by exact I) (aA:Nat.blt d n=true:=by exact I) (ax:c.callee=.value x:=by exact I) (U:bS l x=some (.func (.func f) first cap):=by exact I) (aI:jH l c.args.toList=some args:=by exact I) (has:(first.toList++args)++cap.toList=gG:=by exact I) (ap:(a1++cB).Perm m:=by exact .refl _) (G:Fn (aU Q g0) f gG a1 J dI) (h:∀v m' ah,J.le ah->dI v m' ah->W (aU Q g0) B ops rest ⟨n,ds,(d,v)::l⟩ (m'++cB) ah bq):W (aU Q g0) B ops (o::rest) ⟨n,ds,l⟩ m J bq:=W.Ix aB ak hw (Exec.call al av aA ax U aI has ap trivial G h)
end
section
variable {ops:List Oper}{a0:List jM}{F:List (FuncId×List Value)}{i:Nat}{bq:bY->aJ->ai->Prop}{c:Call}{x:Operand}{f:FuncId}{first cap:Array Value}{args gG:List Value}{a1 cB:aJ}{dI:Value->aJ->ai->Prop}
def dl(hi:nth ops i=some o)(aB:o.guard=none:=by exact I) (al:o.op=.call c:=by exact I) (av:o.dst=some d:=by exact I) (aA:Nat.blt d n=true:=by exact I) (ax:c.callee=.value x:=by exact I) (U:bS l x=some (.func (.func f) first cap):=by exact I) (aI:jH l c.args.toList=some args:=by exact I) (has:(first.toList++args)++cap.toList=gG:=by exact I) (ay:F.all (fun g=>!Nat.beq g.1 f)=true:=by exact I) (ap:(a1++cB).Perm m:=by exact .refl _) (G:Fn (aU Q g0) f gG a1 J dI) (h:∀v m' ah,J.le ah->dI v m' ah->bX (aU Q g0) B ops a0 ((f,gG)::F) ⟨n,ds,(d,v)::l⟩ (m'++cB) ah bq):bX (aU Q g0) B ops (.bw i::a0) F ⟨n,ds,l⟩ m J bq:=bX.call hi aB al av aA ax U aI has ay ap trivial G h
end
def pE{E:bY}{t:Tmp}{eE:TypeId}{a:Nat}{cells:List Value}{e:TypeId}{v:Value}{rs:List ResultVar}{vs:List Value}(ar:nN (aU Q g0).P E m J rs vs)(ae:look E.l t=some (.pointer (some ⟨a,0,none⟩)):=by exact I) (ag:(a,df.row cells e)∈m:=by repeat first|exact .head _|refine .tail _ ?_|refine j7 _ ?_) (aE:n8 (aU Q g0).P eE cells 0=some v:=by first|exact vP (fJ I) I|exact g8 (fJ I) I):nN (aU Q g0).P E m J (.cell t eE::rs) (v::vs):=.cell ae ag aE ar
def mP{e:Exit}{E:bY}{rs:List ResultVar}{vs:List Value}{z0:List Value->aJ->Prop}(ap:z0 vs m')(he:e=.normal\/e=.ret:=by first|exact .inl I|exact .inr I) (av:E.ds.ds=[]:=by exact I) (ar:nN (aU Q g0).P E m J rs vs:=by first|exact .tmp I .nil|exact .tmp I (.tmp I .nil)|exact .nil|exact pE .nil|exact pE (pE .nil)|exact .tmp I (.tmp I (.tmp I .nil))|exact pE (pE (pE .nil))) (hs:m'.Sublist m:=by first|exact kt _|exact iC _):(e=.normal\/e=.ret)/\E.ds.ds=[]/\∃vs m',nN (aU Q g0).P E m J rs vs/\m'.Sublist m/\z0 vs m':=⟨he,av,vs,m',ar,hs,ap⟩
end
end
def au8{p:Prop}(h:p:=by first|rfl|exact dh some (dh (Value.int .i64) (by omega))):p:=h
def cJ{p:Prop}(h:p:=by first|omega|(simp;omega)|(simp only;omega)):p:=h
def lR{p:Prop}(h:p:=by first|exact fg.rd (by assumption)|exact pe.own (by repeat first|exact .head _|refine .tail _ ?_|refine j7 _ ?_) I):p:=h
def qr{p:Prop}(h:p:=by first|exact .own (by repeat first|exact .head _|refine .tail _ ?_|refine j7 _ ?_)|exact .eG (by assumption)|exact .opn (by repeat first|exact .head _|refine .tail _ ?_|refine j7 _ ?_)):p:=h
def Kr{p:Prop}(h:p:=by first|exact XP _|exact Kp|exact OP|exact ae0):p:=h
section
variable {Q:da jD}{g0:Nat}
section
variable {B:dN}{o:Oper}{n:Nat}{ds:er}{l:List (Nat×Value)}{m:aJ}{J:ai}{d:Nat}
section
variable {ops rest:List Oper}{bq:Option (List PanicEntry)->bY->aJ->ai->Prop}
def fq{t:TypeId}{x:Operand}{v:Value}{cells:List Value}(h:∀a,W (aU Q g0) B ops rest ⟨n,ds,(d,.pointer (some ⟨a,0,none⟩))::l⟩ ((a,.row cells t)::m) J bq)(aB:o.guard=none:=by exact I) (al:o.op=.box t x:=by exact I) (av:o.dst=some d:=by exact I) (aA:Nat.blt d n=true:=by exact I) (U:bS l x=some v:=by exact I) (ax:v.cells.toList=cells:=by exact I) (ae:cells.all fx=true:=by exact I):W (aU Q g0) B ops (o::rest) ⟨n,ds,l⟩ m J bq:=W.step aB (.of (aA' al av aA U ax ae h))
def jG{t e:TypeId}{k sz:Nat}{gA cells:List Value}{ps:Array (Nat×Operand)}{vs:List (Nat×Value)}(h:∀a,W (aU Q g0) B ops rest ⟨n,ds,(d,.slice (some ⟨a,0,none⟩) k k)::l⟩ ((a,.row cells e)::m) J bq)(aB:o.guard=none:=by exact I) (al:o.op=.buildSlice t k ps:=by exact I) (av:o.dst=some d:=by exact I) (aA:Nat.blt d n=true:=by exact I) (ap:u7 l ps.toList=some vs:=by exact I) (aM:nF (aU Q g0).P t=some (e,sz,gA):=by exact ee I) (hk:(Nat.ble k 100000&&Nat.ble (k*sz) 100000)=true:=by exact I) (ay:oN (fun i=>some (i*sz,sz)) (fp gA k) vs=some cells:=by exact I) (ae:cells.all fx=true:=by exact I):W (aU Q g0) B ops (o::rest) ⟨n,ds,l⟩ m J bq:=W.step aB (.of (aBa al av aA ap aM hk ay ae h))
end
section
variable {R:wC}{ops:List Oper}{a0:List jM}{i g:Nat}{want b:Bool}{bq:bY->aJ->ai->Prop}
def aiV(hi:nth ops i=some o)(h:hK (aU Q g0) B R ops a0 ⟨n,ds,(d,undef)::l⟩ m J bq)(aB:nl ops o=some (g,want):=by exact I) (ak:look l g=some (.bool b):=by exact I) (hw:(b==want)=false:=by exact I) (av:o.dst=some d:=by exact I) (aA:Nat.blt d n=true:=by exact I):hK (aU Q g0) B R ops (.val i::a0) ⟨n,ds,l⟩ m J bq:=hK.PC hi aB ak hw av aA h
end
end
end
structure XO where
 d:List (Nat×Value)
 m:aJ
 j:ai
 i:Prop
 k:Nat
section
variable {K:dW}{B:dN}{cp:Exit->bY->aJ->ai->Prop}{n:Nat}{ds:er}
def aK.bK{α:Type}{c:Code}{base:List (Nat×Value)}(r:α->XO)(s:α)(hs:(r s).i)
 (bn:∀s,(r s).i->aK K B c ⟨n,ds,(r s).d++base⟩ (r s).m (r s).j fun e E m J=>match e with
  |.normal=>∃de l,(r de).i/\(r de).k<(r s).k/\E=⟨n,ds,l⟩/\lT l ((r de).d++base)/\((r de).m).Sublist m/\J=(r de).j
  |e=>cp e E m J):aK K B (.loop c) ⟨n,ds,(r s).d++base⟩ (r s).m (r s).j cp:=
 aK.atS (fun s=>(r s).d) (fun s=>(r s).m) (fun s=>(r s).j) (fun s=>(r s).i) (fun s=>(r s).k) s hs bn
def eS{α:Type}{r:α->XO}{base l:List (Nat×Value)}{ik:Nat}{m:aJ}{J:ai}(de:α)(hi:(r de).i)(hm:((r de).m).Sublist m:=by exact .refl _) (aW:J=(r de).j:=by exact I) (hk:(r de).k<ik:=by first|omega|(simp;omega)|(simp only;omega)) (aj:lT l ((r de).d++base):=by repeat first|exact trivial|refine⟨by first|rfl|exact dh some (dh (Value.int .i64) (by omega)),?_⟩):∃de a9,(r de).i/\(r de).k<ik/\(⟨n,ds,l⟩:bY)=⟨n,ds,a9⟩/\lT a9 ((r de).d++base)/\((r de).m).Sublist m/\J=(r de).j:=⟨de,l,hi,hk,I,aj,hm,aW⟩
end
def aa{p:Prop}(h:p:=by omega):p:=h
def bI{p:Prop}(h:p:=by decide):p:=h
section
variable {K:dW}{B:dN}{E:bY}{m e1:aJ}{J:ai}{cp:Exit->bY->aJ->ai->Prop}
end
def x9(J:ai)(s:List Int)(cs:List Value):Prop:=∃b c,cs=[.slice b s.length c]/\gl J (.slice b s.length c) s
def x9.mono{J ah:ai}(hle:J.le ah){s:List Int}{cs:List Value}(h:x9 J s cs):x9 ah s cs:=by
 obtain⟨b,c,ae,ag⟩:=h;exact⟨b,c,ae,ag.mono hle⟩
section
variable {K:dW}{B:dN}{o:Oper}{n:Nat}{ds:er}{l:List (Nat×Value)}{m m':aJ}{J:ai}{fe:bY->aJ->ai->Prop}{d:Nat}
end
section
variable {K:dW}{B:dN}{ops:List Oper}{a0:List jM}{E:bY}{m m':aJ}{J:ai}{o:Oper}{bq:bY->aJ->ai->Prop}{cp:Exit->bY->aJ->ai->Prop}
variable {n:Nat}{ds:er}{l:List (Nat×Value)}{d i:Nat}
end
section
variable {K:dW}{B:dN}{o:Oper}{n:Nat}{ds:er}{l:List (Nat×Value)}{m m':aJ}{J:ai}{fe:bY->aJ->ai->Prop}{d:Nat}
def Gr{t:TypeId}{x:Operand}{k:IntKind}{a b:Int}(al:o.op=.unOp .neg t x)(U:bS l x=some (.int k a))(hw:k.wrap (-a)=b):dr K B o n ds l m J (.int k b):=by
 intro call aO S H au aD;unfold cA fi;simp only[al];show fQ K.P S.T H o=_;refine ae2 au (by rw[al];rfl) U I ?_ I;unfold execOp;simp only[al];rw[jb au H U,<-hw];show some (Next.value (.int k (k.wrap (0 -a))))=_;rw[Int.zero_sub]
end
section
variable {K:dW}{B:dN}{ops:List Oper}{a0:List jM}{F:List (FuncId×List Value)}{E:bY}{m:aJ}{J:ai}{bq:bY->aJ->ai->Prop}
end
open Classical
def u4 (f:FuncId)(args:List Value)(bg:FrameMode)(H:aw)(r:Ending×FrameMode×aw):FuncId->List Value->Bool->FrameMode->aw->Option (Ending×FrameMode×aw):=fun ck bV bQ hl H'=>if ck=f/\bV=args/\bQ=true/\hl=bg/\H'=H then some r else none
def DG{P:Program}(Q:da P)(f:FuncId)(args:List Value)(bg:FrameMode)(H:aw)(e:Ending)(hl:FrameMode)(H':aw):Prop:=∀B w0,Q.ok B w0->wb P B w0 (u4 f args bg H (e,hl,H'))
def ql {P:Program}(Q:da P)(gg:Code->aY->aw->Option (Exit×aY×aw))(xM:FuncId->List Value->Bool->FrameMode->aw->Option (Ending×FrameMode×aw)):gu:=
 ⟨su Q gg,fun f args bQ bg H=>if bQ=true then(match xM f args bQ bg H with
  |some (e,je,H')=>if DG Q f args bg H e je H' then some (e,je,H') else none
  |none=>none) else none⟩
section
variable {P:Program}{Q:da P}{B:Nat->Prop}{w0:World}
def Xx(gg:Code->aY->aw->Option (Exit×aY×aw))(xM:FuncId->List Value->Bool->FrameMode->aw->Option (Ending×FrameMode×aw))(hf:Q.ok B w0):wb P B w0 (ql Q gg xM).body:=by
 intro f args bg H e hl H' he;unfold ql at he;simp only[NS] at he;split at he
 ·split at he
  ·rename_i dU;simp only[cb,c8] at he;obtain⟨rfl,rfl,rfl⟩:=he;exact dU B w0 hf f args bg H _ _ _ (by unfold u4;rw[aP ⟨I,I,I,I,I⟩])
  ·cases he
 ·cases he
def ah8(gg:Code->aY->aw->Option (Exit×aY×aw)){f:FuncId}{args:List Value}{bg hl:FrameMode}{H H':aw}{e:Ending}(h:DG Q f args bg H e hl H'):(ql Q gg (u4 f args bg H (e,hl,H'))).body f args true bg H=some (e,hl,H'):=by
 unfold ql;simp only[NS];have:u4 f args bg H (e,hl,H') f args true bg H=some (e,hl,H'):=by unfold u4;rw[aP ⟨I,I,I,I,I⟩]
 rw[this];simp only;rw[aP h]
def xD:FuncId->List Value->Bool->FrameMode->aw->Option (Ending×FrameMode×aw):=fun _ _ _ _ _=>none
def j5.Gg{fR:aZ Func}(cZ:uS P fR){f:FuncId}{fn:Func}{c:Code}{args:List Value}{T:aZ Value}{H H1 H':aw}{a3:aY}{x:Exit}{e:Ending}{bg:FrameMode}(xM:FuncId->List Value->Bool->FrameMode->aw->Option (Ending×FrameMode×aw))(ay:fR.get f=some fn)(ak:fn.body=some c)(aI:pg args 0 (Go.Cre.blank fn.ntmps)=some T)
 (ax:dR Q c ⟨T,fn.ntmps,[],false,.run,none⟩ H x a3 H1)(he:yk P (ql Q (lE c ⟨T,fn.ntmps,[],false,.run,none⟩ H (x,a3,H1)) xM) fn (some (x,a3,H1))=some (e,bg,H')):j5 Q f args H e H':=by
 intro B w0 hf f1 wJ re aF La vr;unfold lD at vr;split at vr
 ·rename_i q;obtain⟨rfl,rfl,rfl⟩:=q;simp only[cb,c8] at vr;obtain⟨rfl,rfl⟩:=vr;refine RO (E:=ql Q (lE c ⟨T,fn.ntmps,[],false,.run,none⟩ re (x,a3,H1)) xM) cZ (Ep _ hf) (Xx _ xM hf) f1 wJ re _ _ ?_;unfold gu.call;simp only
  have:tA P fR (ql Q (lE c ⟨T,fn.ntmps,[],false,.run,none⟩ re (x,a3,H1)) xM) f1 wJ false .run re=some (e,bg,H'):=by
   unfold tA;rw[ay];show Hu P _ f1 fn wJ false .run re fn.body=_;rw[ak];show Hv P _ fn c false .run re (pg wJ 0 (Go.Cre.blank fn.ntmps))=_;rw[aI];show yk P _ fn (su Q _ c ⟨T,fn.ntmps,[],false,.run,none⟩ re)=_;rw[Eo ax];exact he
  rw[this]
 ·cases vr
def DG.run{fR:aZ Func}(cZ:uS P fR){f:FuncId}{fn:Func}{c:Code}{args:List Value}{T:aZ Value}{H H1 H':aw}{a3:aY}{x:Exit}{e:Ending}{u bg:FrameMode}(ay:fR.get f=some fn)(ak:fn.body=some c)(aI:pg args 0 (Go.Cre.blank fn.ntmps)=some T)
 (ax:dR Q c ⟨T,fn.ntmps,[],true,u,none⟩ H x a3 H1)(he:yk P (ql Q (lE c ⟨T,fn.ntmps,[],true,u,none⟩ H (x,a3,H1)) xD) fn (some (x,a3,H1))=some (e,bg,H')):DG Q f args u H e bg H':=by
 intro B w0 hf f1 wJ fK re aF WO La vr;unfold u4 at vr;split at vr
 ·rename_i q;obtain⟨rfl,rfl,_,rfl,rfl⟩:=q;simp only[cb,c8] at vr;obtain⟨rfl,rfl,rfl⟩:=vr;refine Z5 (E:=ql Q (lE c ⟨T,fn.ntmps,[],true,fK,none⟩ re (x,a3,H1)) xD) cZ (Ep _ hf) (Xx _ xD hf) f1 wJ fK re _ _ _ ?_;unfold tA;rw[ay];show Hu P _ f1 fn wJ true fK re fn.body=_;rw[ak];show Hv P _ fn c true fK re (pg wJ 0 (Go.Cre.blank fn.ntmps))=_;rw[aI];show yk P _ fn (su Q _ c ⟨T,fn.ntmps,[],true,fK,none⟩ re)=_;rw[Eo ax];exact he
 ·cases vr
end
section
variable {K:dW}{B:dN}{f:FuncId}{fn:Func}{c:Code}{args:List Value}{a1:aJ}{J:ai}
def mO.afv{hW:Value->aJ->ai->Prop}(h:mO K f args a1 J hW fun _ _ _=>False):Fn K f args a1 J hW:=fun H aD=>by
 obtain⟨H',ah,m',ae,ag⟩:=h H aD;rcases ag with⟨v,aE,a6⟩|⟨bx,aE,a6⟩
 ·exact⟨v,H',ah,m',aE,ae,a6⟩
 ·exact a6.elim
def tm(K:dW)(f:FuncId)(args:List Value)(bg:FrameMode)(a1:aJ)(J:ai)(dI:FrameMode->aJ->ai->Prop):Prop:=
 ∀H,Inv K.g0 (iJ a1 H J) J a1 H->∃v hl H' ah m',DG K.Q f args bg H (.returned v) hl H'/\Inv K.g0 (iJ a1 H J) ah m' H'/\dI hl m' ah
def ZP(bg:FrameMode):er:=⟨[],none,true,bg⟩
def QG{fn:Func}{args:List Value}{e0:er}(aj:Nat.ble args.length fn.ntmps=true):∃T,pg args 0 (Go.Cre.blank fn.ntmps)=some T/\∀bQ bg,e0=⟨[],none,bQ,bg⟩->Sat ⟨fn.ntmps,e0,uX args 0⟩ ⟨T,fn.ntmps,[],bQ,bg,none⟩:=by
 obtain⟨T,ba,br,bG⟩:=QH (vs:=args) (i:=0) (n:=fn.ntmps) (QQ fn.ntmps) (by have:=iE aj;omega);refine⟨T,ba,fun bQ bg av=>?_⟩;subst av;refine⟨I,I,I,I,I,br,fun t v q=>?_⟩;obtain⟨_,aH⟩:=QF q;show T.get t=some v;have:t<args.length:=by
  rcases ha t args.length with r|r
  ·exact r
  ·rw[jq (by omega)] at aH;cases aH
 rw[bG,aP (by omega)];exact aH
def tm.b9{bg:FrameMode}{dI:FrameMode->aJ->ai->Prop}(ay:K.fR.get f=some fn)(ak:fn.body=some c)(aj:Nat.ble args.length fn.ntmps=true)
 (h:∀H,aK K (iJ a1 H J) c ⟨fn.ntmps,ZP bg,uX args 0⟩ a1 J fun e E m ah=>(e=.normal\/e=.ret)/\E.ds.ds=[]/\∃vs m',nN K.P E m ah fn.results.toList vs/\m'.Sublist m/\dI E.ds.bg m' ah):tm K f args bg a1 J dI:=by
 intro H aD;obtain⟨T,ba,br⟩:=QG (e0:=ZP bg) aj;have au:=br true bg I;obtain⟨e,aL,H',E',cz,ah,aX,aT,bd,cm,fz,vs,m',kh,rX,ua⟩:=h H _ H au aD;have sN:aL.ds=[]:=aT.ds.trans fz;have ar:=kh.Ai aT bd;refine⟨p6 vs,aL.bg,H',ah,m',?_,bd.sub rX,by rw[aT.bg];exact ua⟩;refine DG.run K.cZ ay ak ba aX ?_;rcases cm with rfl|rfl
 ·show rq aL.bg (ig K.P _ fn aL.T aL.ds .returning H')=_;rw[sN];unfold ig;rw[ar];rfl
 ·show rq aL.bg (ig K.P _ fn aL.T aL.ds .returning H')=_;rw[sN];unfold ig;rw[ar];rfl
def J1:Exit->Option FrameMode
 |.normal=>some .returning
 |.ret=>some .returning
 |.panic bx=>some (.panicking bx)
 |_=>none
def Ends(K:dW)(fn:Func)(E:bY)(m:aJ)(J:ai)(u:FrameMode)(hW:Value->aJ->ai->Prop)(fX:List PanicEntry->aJ->ai->Prop):Prop:=
 (u=.returning/\∃vs m',nN K.P E m J fn.results.toList vs/\m'.Sublist m/\hW (p6 vs) m' J)\/∃bx m',u=.panicking bx/\m'.Sublist m/\fX bx m' J
def Leaves(K:dW)(fn:Func)(e:Exit)(E:bY)(m:aJ)(J:ai)(hW:Value->aJ->ai->Prop)(fX:List PanicEntry->aJ->ai->Prop):Prop:=
 ∃u,J1 e=some u/\((E.ds.ds=[]/\Ends K fn E m J u hW fX)\/
  ∃fd cap wR a1 cB,E.ds.ds=[⟨.fn (.func fd) cap,wR⟩]/\(a1++cB).Perm m/\tm K fd (wR.toList++cap.toList) u a1 J fun je m' ah=>J.le ah->Ends K fn E (m'++cB) ah (settle je) hW fX)
def Ed{P:Program}{E:gu}{e:Exit}{u:FrameMode}{S:aY}{H:aw}(h:J1 e=some u):yk P E fn (some (e,S,H))=rq S.bg (ig P E fn S.T S.ds u H):=by
 cases e<;>first|(injection h with h;subst h;rfl)|cases h
def Ends.Ai{E:bY}{m:aJ}{u:FrameMode}{hW:Value->aJ->ai->Prop}{fX:List PanicEntry->aJ->ai->Prop}{S:aY}{H:aw}{V:gu}(h:Ends K fn E m J u hW fX)(au:Sat E S)(aD:Inv K.g0 B J m H):
 ∃m',Inv K.g0 B J m' H/\((∃v,ig K.P V fn S.T [] u H=some (.returned v,H)/\hW v m' J)\/∃bx,ig K.P V fn S.T [] u H=some (.panicked bx,H)/\fX bx m' J):=by
 rcases h with⟨rfl,vs,m',ae,ag,aE⟩|⟨bx,m',rfl,ag,aE⟩
 ·refine⟨m',aD.sub ag,.inl ⟨p6 vs,?_,aE⟩⟩;unfold ig;rw[ae.Ai au aD]
 ·exact⟨m',aD.sub ag,.inr ⟨bx,by unfold ig;rfl,aE⟩⟩
def adY{e:Exit}{u:FrameMode}(h:J1 e=some u):JK u=false:=by
 cases e<;>first|(injection h with h;subst h;rfl)|cases h
def mO.b9{hW:Value->aJ->ai->Prop}{fX:List PanicEntry->aJ->ai->Prop}(ay:K.fR.get f=some fn)(ak:fn.body=some c)(aj:Nat.ble args.length fn.ntmps=true)
 (h:∀H,aK K (iJ a1 H J) c ⟨fn.ntmps,Ag,uX args 0⟩ a1 J fun e E m ah=>Leaves K fn e E m ah hW fX):mO K f args a1 J hW fX:=by
 intro H aD;obtain⟨T,ba,br⟩:=QG (e0:=Ag) aj;have au:=br false .run I;obtain⟨e,aL,H',E',cz,ah,aX,aT,bd,u,cm,fz⟩:=h H _ H au aD;have M3:=aT.ds;rcases fz with⟨fz,kh⟩|⟨fd,cap,wR,vF,cB,fz,kh,rX⟩
 ·obtain⟨m',ae,ag⟩:=kh.Ai (V:=ql K.Q (lE c ⟨T,fn.ntmps,[],false,.run,none⟩ H (e,aL,H')) xD) aT bd;refine⟨H',ah,m',ae,?_⟩;rcases ag with⟨v,ag,aE⟩|⟨bx,ag,aE⟩
  ·refine .inl ⟨v,j5.Gg K.cZ xD ay ak ba aX (bg:=aL.bg) ?_,aE⟩;rw[Ed cm,M3,fz,ag];rfl
  ·refine .inr ⟨bx,j5.Gg K.cZ xD ay ak ba aX (bg:=aL.bg) ?_,aE⟩;rw[Ed cm,M3,fz,ag];rfl
 ·obtain⟨v,hl,bT,c3,cX,d1,d2,d3⟩:=rX H' (bd.enter kh trivial);obtain⟨ua,UR⟩:=bd.leave kh d2;obtain⟨m',ae,ag⟩:=(d3 UR).Ai (V:=ql K.Q (lE c ⟨T,fn.ntmps,[],false,.run,none⟩ H (e,aL,H')) (u4 fd (wR.toList++cap.toList) u H' (.returned v,hl,bT))) aT ua
  have oU:∀r,ig K.P (ql K.Q (lE c ⟨T,fn.ntmps,[],false,.run,none⟩ H (e,aL,H')) (u4 fd (wR.toList++cap.toList) u H' (.returned v,hl,bT))) fn aL.T [] (settle hl) bT=some r->
   ig K.P (ql K.Q (lE c ⟨T,fn.ntmps,[],false,.run,none⟩ H (e,aL,H')) (u4 fd (wR.toList++cap.toList) u H' (.returned v,hl,bT))) fn aL.T [⟨.fn (.func fd) cap,wR⟩] u H'=some r:=fun r ar=>by
   rw[ig];rw[adY cm,dQ];simp only
   show(match kY K.P H' (.func fd) wR.toList cap.toList with|none=>none|some (f,args)=>_)=_
   unfold kY;simp only
   rw[ah8 _ d1];exact ar
  refine⟨bT,c3,m',ae,?_⟩;rcases ag with⟨w,ag,aE⟩|⟨bx,ag,aE⟩
  ·refine .inl ⟨w,j5.Gg K.cZ (u4 fd (wR.toList++cap.toList) u H' (.returned v,hl,bT)) ay ak ba aX (bg:=aL.bg) ?_,aE⟩;rw[Ed cm,M3,fz,oU _ ag];rfl
  ·refine .inr ⟨bx,j5.Gg K.cZ (u4 fd (wR.toList++cap.toList) u H' (.returned v,hl,bT)) ay ak ba aX (bg:=aL.bg) ?_,aE⟩;rw[Ed cm,M3,fz,oU _ ag];rfl
end
section
variable {K:dW}{B:dN}{ops rest:List Oper}{o:Oper}{n:Nat}{ds:er}{l:List (Nat×Value)}{d:Nat}{m:aJ}{J:ai}{bq:Option (List PanicEntry)->bY->aJ->ai->Prop}
def CW{S:aY}{H:aw}{gg:Code->aY->aw->Option (Exit×aY×aw)}{cg:eW}(aB:o.guard=none):one K.P (hY K.Q cg) (fW K.Q gg cg).aO ops S H o=o2 S H o.dst (cA K.P (hY K.Q cg) (fW K.Q gg cg).aO S H o):=by
 unfold one gK;rw[aB];rfl
def Za{S:aY}{H H':aw}{e:Ending}{c:Call}{x:Operand}{f:FuncId}{first cap:Array Value}{args bP:List Value}(au:Sat ⟨n,ds,l⟩ S)(al:o.op=.call c)(ax:c.callee=.value x)(U:bS l x=some (.func (.func f) first cap))(aI:jH l c.args.toList=some args)(has:(first.toList++args)++cap.toList=bP)(h:j5 K.Q f bP H e H'):
 cA K.P (hY K.Q (lD f bP H (e,H'))) (fW K.Q g7 (lD f bP H (e,H'))).aO S H o=oL (some (e,H')):=by
 unfold cA fi;simp only[al];show kN K.P _ c=_;unfold kN;rw[ax];show nj K.P _ _ S.T H c=_;unfold nj;rw[pQ au H aI];simp only[ax];rw[dw au H U];simp only
 show(match kY K.P H (.func f) (first.toList++args) cap.toList with|some (f,bP)=>oL (hY K.Q _ f bP H)|none=>none)=_
 unfold kY;simp only
 rw[has,Ac h (by unfold lD;rw[aP ⟨I,I,I⟩])]
def W.Mg{c:Call}{x:Operand}{f:FuncId}{first cap:Array Value}{args bP:List Value}{a1 cB:aJ}{hW:Value->aJ->ai->Prop}{fX:List PanicEntry->aJ->ai->Prop}
 (aB:o.guard=none)(al:o.op=.call c)(av:o.dst=some d)(aA:Nat.blt d n=true)(ax:c.callee=.value x)(U:bS l x=some (.func (.func f) first cap))(aI:jH l c.args.toList=some args)(has:(first.toList++args)++cap.toList=bP)
 (ap:(a1++cB).Perm m)(bC:mO K f bP a1 J hW fX)(h:∀v m' ah,J.le ah->hW v m' ah->W K B ops rest ⟨n,ds,(d,v)::l⟩ (m'++cB) ah bq)
 (b3:∀bx m' ah,J.le ah->fX bx m' ah->bq (some bx) ⟨n,ds,l⟩ (m'++cB) ah):W K B ops (o::rest) ⟨n,ds,l⟩ m J bq:=by
 intro S H au aD;obtain⟨H',ah,m',aT,bd⟩:=bC H (aD.enter ap trivial);obtain⟨cm,fz⟩:=aD.leave ap aT;rcases bd with⟨v,aX,bd⟩|⟨bx,aX,bd⟩
 ·obtain⟨a3,s1,s2⟩:=au.put (dst:=some d) aA v;obtain⟨p,aL,oz,E',ki,pa,dc,c9,fI,iL⟩:=h v m' ah fz bd a3 H' s2 cm;refine⟨p,aL,oz,E',ki,pa,.cons g7 (lD f bP H (.returned v,H')) ?_ dc,c9,fI,iL⟩;rw[CW aB,Za au al ax U aI has aX,av];show oq H' (S.put (some d) v)=_;rw[s1];rfl
 ·refine⟨some bx,S,H',⟨n,ds,l⟩,m'++cB,ah,.gN g7 (lD f bP H (.panicked bx,H')) ?_,au,cm,b3 bx m' ah fz bd⟩;rw[CW aB,Za au al ax U aI has aX];rfl
def W.panic{x:Operand}{t:TypeId}{v:Value}(aB:o.guard=none)(al:o.op=.panic x)(U:bS l x=some (.iface t v))(h:bq (some [{v:=.iface t v,recovered:=false}]) ⟨n,ds,l⟩ m J):W K B ops (o::rest) ⟨n,ds,l⟩ m J bq:=by
 intro S H au aD;refine⟨some [{v:=.iface t v,recovered:=false}],S,H,⟨n,ds,l⟩,m,J,.gN g7 lP ?_,au,aD,h⟩;rw[CW aB];have:cA K.P (hY K.Q lP) (fW K.Q g7 lP).aO S H o=some (.gN [{v:=.iface t v,recovered:=false}] H):=by
  unfold cA fi;simp only[al];show Kj K.P _ (a5 S.T H x)=_;rw[dw au H U];rfl
 rw[this];rfl
def W.defer{c:Call}{x:Operand}{f:FuncId}{first cap:Array Value}{args:List Value}(aB:o.guard=none)(al:o.op=.defer c)(av:o.dst=none)(ax:c.callee=.value x)(U:bS l x=some (.func (.func f) first cap))(aI:jH l c.args.toList=some args)(ar:ds.cx=none)
 (h:W K B ops rest ⟨n,⟨⟨.fn (.func f) cap,(first.toList++args).toArray⟩::ds.ds,ds.cx,ds.bQ,ds.bg⟩,l⟩ m J bq):W K B ops (o::rest) ⟨n,ds,l⟩ m J bq:=by
 intro S H au aD;have Ca:Sat ⟨n,⟨⟨.fn (.func f) cap,(first.toList++args).toArray⟩::ds.ds,ds.cx,ds.bQ,ds.bg⟩,l⟩ (S.Gy ⟨.fn (.func f) cap,(first.toList++args).toArray⟩):=by
  obtain⟨T,kM,fy,al2,hl,axR⟩:=S;exact⟨au.n,(by show _::fy=_::ds.ds;rw[show fy=ds.ds from au.ds]),au.bQ,au.bg,au.cx,au.has,au.get⟩
 obtain⟨p,aL,oz,E',ki,pa,dc,c9,fI,iL⟩:=h _ H Ca aD;refine⟨p,aL,oz,E',ki,pa,.cons g7 lP ?_ dc,c9,fI,iL⟩;rw[CW aB];have vx:S.cx=none:=au.cx.trans ar;have:cA K.P (hY K.Q lP) (fW K.Q g7 lP).aO S H o=some (.g6 ⟨.fn (.func f) cap,(first.toList++args).toArray⟩):=by
  unfold cA fi;simp only[al];show xL K.P _ c=_;unfold xL;simp only[vx];unfold Ia;rw[pQ au H aI];simp only[ax];rw[dw au H U];rfl
 rw[this,av];show AX S H none _=_;unfold AX;rw[vx];rfl
def afp (ds:er):Option (Value×FrameMode):=
 match ds.cx with
 |some _=>none
 |none=>bif ds.bQ then(match ds.bg with
  |.panicking ({v,recovered:=false,goexit:=false}::OI)=>some (v,.panicking ({v,recovered:=true}::OI))
  |m=>some (.nilIface,m))
  else some (.nilIface,ds.bg)
def W.recover{c:Call}{v:Value}{bg:FrameMode}(aB:o.guard=none)(al:o.op=.call c)(ax:c.callee=.builtin .recover)(aI:c.args.toList=[])(av:o.dst=some d)(aA:Nat.blt d n=true)(ar:afp ds=some (v,bg))
 (h:W K B ops rest ⟨n,⟨ds.ds,ds.cx,ds.bQ,bg⟩,(d,v)::l⟩ m J bq):W K B ops (o::rest) ⟨n,ds,l⟩ m J bq:=by
 intro S H au aD;have w6:Sat ⟨n,⟨ds.ds,ds.cx,ds.bQ,bg⟩,l⟩ (S.zJ bg):=by
  obtain⟨T,kM,fy,al2,hl,axR⟩:=S;exact⟨au.n,au.ds,au.bQ,I,au.cx,au.has,au.get⟩
 obtain⟨a3,s1,s2⟩:=w6.put (dst:=some d) aA v;obtain⟨p,aL,oz,E',ki,pa,dc,c9,fI,iL⟩:=h a3 H s2 aD;refine⟨p,aL,oz,E',ki,pa,.cons g7 lP ?_ dc,c9,fI,iL⟩;rw[CW aB];have:cA K.P (hY K.Q lP) (fW K.Q g7 lP).aO S H o=some .A4:=by
  unfold cA fi;simp only[al];show kN K.P _ c=_;unfold kN;rw[ax];simp only
  unfold tB;rw[aI];rfl
 rw[this,av];show F3 S H (some d) (q5 S)=_;have e:q5 S=some (v,bg):=by
  unfold q5;unfold afp at ar;rw[au.cx,au.bQ,au.bg];exact ar
 rw[e];show m5 (S.zJ bg) (some d) v H=_;show oq H ((S.zJ bg).put (some d) v)=_;rw[s1];rfl
end
section
variable {g0:Nat}{B:dN}{H:aw}{J:ai}{m m':aJ}
def Inv.axL{a z:Nat}{full:List Value}{e:TypeId}{rest:List Nat}(h:Inv g0 B J ((a,.opn full e rest z)::m) H)(cells':List Value):
 ∃f H1 bT fL,H.mem.get a=some (.row full e true f z false)/\H.bF.get f=some (a::rest)/\uc H H.ao (a::rest)=some H1/\H1.td f [H.ao]=some bT/\H1.ao=H.ao/\bT.ao=H.ao/\bT.new (.row cells' e true f z false)=some (H.ao,fL)/\Inv g0 B J ((H.ao,.opn cells' e [] z)::m) fL:=by
 obtain⟨aX,aT,bd,cm⟩:=h.own a _ (.head _);obtain⟨f,f1,f2,f3⟩:=aX;have cI:=h.lt (.head _);have eb:=h.gZ;rw[show ids ((a,df.opn full e rest z)::m)=a::(rest++ids m) from I,uL,mm,Lq] at eb;obtain⟨tQ,Fg,Nr,Tf⟩:=eb;have qQ:∀x∈a::rest,x<H.ao:=fun x U=>by
  rcases fs.1 U with q|q
  ·subst q;exact cI
  ·exact(h.opn a _ (.head _) x q).1
 obtain⟨H1,aF,bE⟩:=ac6 (qW:=H.ao) (a::rest) h.wf qQ;obtain⟨v1,v2,nH,v4,Bi,v6⟩:=N2 aF;have jd:f<H1.cC:=by rw[nH];exact h.wf.Ik f3
 obtain⟨bT,aV⟩:=bE.td [H.ao] jd;obtain⟨s2,s1,jZ,Gh,vW⟩:=aw.Gj aV;have hZ:bT.ao=H.ao:=by rw[s2,v1]
 have Ct:∀x,x≠a->x∉rest->bT.mem.get x=H.mem.get x:=fun x aN aH=>by
  rw[s1,v6 x (.inl (fun q=>by rcases fs.1 q with q|q;exact aN q;exact aH q))]
 have E5:∀g,g≠f->bT.bF.get g=H.bF.get g:=fun g q=>by rw[vW,aG q,v2]
 have hm:Inv g0 B J m bT:=by
  refine⟨bE.Wl jd aV,by rw[Gh,v4];exact h.bJ,by rw[hZ];exact h.ao,by rw[jZ,nH];exact h.cC,fun x U eO=>?_,fun g aB=>?_,fun x c bA aW=>?_,h.le,h.fresh,fun x b ak=>?_,fun x b ak y an=>by rw[hZ];exact h.opn x b (.tail _ ak) y an,Nr⟩
  ·rw[Ct x (fun q=>by subst q;rcases aT with q|q;·omega
                      ·exact eO q) (fun q=>by rcases(h.opn a _ (.head _) x q).2.1 with r|r;·omega
                                              ·exact eO r)]
   exact h.fU x U eO
  ·rw[E5 g (fun q=>aB (by rw[q];exact f1))];exact h.oe g aB
  ·obtain⟨o,ck,iV,s,q⟩:=h.eG x c bA aW
   exact⟨o,ck,iV,s,by rw[Ct x (fun r=>by subst r;rw[bd] at aW;cases aW) (fun r=>by have:=(h.opn a _ (.head _) x r).2.2;rw[this] at aW;cases aW)];exact q⟩
  ·obtain⟨eR,eo,kJ,m0⟩:=h.own x b (.tail _ ak)
   have CC:x∈ids m:=AJ ak;refine⟨?_,eo,kJ,m0⟩;refine df.yg eR (Ct x (fun r=>tQ (.inr (r▸CC))) (fun r=>Tf _ r _ CC I)) fun g r aB=>?_;rw[E5 g (fun dE=>by
        subst dE;rw[f3] at aB;injection aB with aB;injection aB with aB
        exact tQ (.inr (aB▸CC)))]
   exact aB
 obtain⟨fL,cj⟩:=hm.wf.new (.row cells' e true f z false);obtain⟨_,c2,fb,gf,hP,e2⟩:=aw.p4 cj;refine⟨f,H1,bT,fL,f2,f3,aF,aV,v1,hZ,by rw[<-hZ];exact cj,?_⟩;have ag:Inv g0 B J m fL:=by
  refine⟨hm.wf.Vr cj,hP.trans hm.bJ,by have:=hm.ao;omega,by rw[gf];exact hm.cC,fun x U eO=>?_,fun g aB=>by rw[fb];exact hm.oe g aB,fun x c e aW=>?_,hm.le,hm.fresh,fun x b ak=>?_,fun x b ak y an=>?_,hm.gZ⟩
  ·rw[e2,aG (by have:=hm.ao;omega)];exact hm.fU x U eO
  ·obtain⟨o,f,z,s,q⟩:=hm.eG x c e aW
   exact⟨o,f,z,s,by rw[e2,aG (by have:=hm.wf.lt q;omega)];exact q⟩
  ·obtain⟨eR,eo,kJ,m0⟩:=hm.own x b ak
   exact⟨df.yg eR (by rw[e2,aG (by have:=hm.lt ak;omega)]) (fun f l ay=>by rw[fb];exact ay),eo,kJ,m0⟩
  ·obtain⟨eR,eo,kJ⟩:=hm.opn x b ak y an
   exact⟨by omega,eo,kJ⟩
 refine⟨ag.wf,ag.bJ,ag.ao,ag.cC,ag.fU,ag.oe,ag.eG,ag.le,ag.fresh,fun x b ak=>?_,fun x b ak y an=>?_,?_⟩
 ·rcases fs.1 ak with q|q
  ·injection q with aN aH;subst aN;subst aH
   exact⟨⟨f,f1,by rw[e2,hZ,aP I],by rw[fb,vW,aP I]⟩,.inl h.ao,h.Vu,h.Sd⟩
  ·exact ag.own x b q
 ·rcases fs.1 ak with q|q
  ·injection q with aN aH;subst aN;subst aH;cases an
  ·exact ag.opn x b q y an
 ·show(H.ao::([]++ids m)).Nodup
  rw[nL,uL];refine⟨fun q=>?_,Nr⟩;have:=hm.Oe q;omega
end
structure Xo (e:TypeId) (sz:Nat) (v:Value) (k:Nat) (cells:List Value) (aS:aJ) (a:Nat) (full:List Value) (rest:List Nat) (z:Nat):Prop where
 v:v=.slice (some ⟨a,0,none⟩) k cK
 aS:aS=[(a,.opn full e rest z)]
 lt:k*sz<full.length
 cut:full.take (k*sz)=cells
 z:z<=k*sz
section
variable {K:dW}{B:dN}{o:Oper}{n:Nat}{ds:er}{l:List (Nat×Value)}{m m':aJ}{J:ai}{fe:bY->aJ->ai->Prop}{d:Nat}
def aA8{c:Call}{t iA e:TypeId}{sz k j a z:Nat}{gA cells new full:List Value}{rest:List Nat}{v x:Value}{aS e1:aJ}{e0:TypeDesc}(al:o.op=.call c)(ax:c.callee=.builtin .append)(av:o.dst=some d)(aA:Nat.blt d n=true)(aI:jH l c.args.toList=some [v,x])(tV:c.argTypes.toList=[t,iA])(aM:nF K.P t=some (e,sz,gA))(lN:K.P.underlying iA=some e0)(xh:∀i,e0≠.int i)
 (az:Xo e sz v k cells aS a full rest z)(hm:m.Perm (aS++e1))(U:pe K.g0 B J m sz x j new)(cH:new.length=j*sz)(c7:new.all fx=true)(aW:0<j)(aj:k+j<=1000000)
 (h:∀w kj,Acc e sz w (k+j) (cells++new) kj->(z=0->iV kj)->vH kj->fe ⟨n,ds,(d,w)::l⟩ (kj++e1) J):kr K B o ⟨n,ds,l⟩ m J fe:=by
 obtain⟨rfl,rfl,cI,E2,jw⟩:=az;obtain⟨hu,en,jR,DC,iR,aR,bc,rfl,bl,b0,dp⟩:=vX aM;refine kr.Dt av aA fun S H au aD=>?_;obtain⟨dH,eP⟩:=U H aD;have aD:=aD.perm hm;have hD:∀call aO,cA K.P call aO S H o=ou (rB K.P H t (.slice (some ⟨a,0,none⟩) k cK) x):=fun call aO=>by
  rw[H9 al ax];unfold tB;rw[pQ au H aI,tV];simp only[lN]
 have lJ:(!(Nat.ble (k+j) 1000000&&Nat.ble jR 1000000&&Nat.beq DC.cells.toList.length sz))=false:=by
  rw[bc,bl,ix,show Nat.ble (k+j) 1000000=true from nc aj];rfl
 have sU:(!(new.all fx&&Nat.beq new.length (j*sz)))=false:=by
  rw[c7,cH,ix];rfl
 have l8:cells.length=k*sz:=by rw[<-E2,eL];omega
 obtain⟨f,H1,bT,fL,ca,b7,cw,f',gJ,hL,hd,pR⟩:=Inv.axL (m:=e1) aD (cells++new);have qK:Nat.blt a H.bJ=false:=by
  cases q:Nat.blt a H.bJ
  ·rfl
  ·have:a<H.bJ:=by simpa[Nat.blt,x'] using q
   have:=(aD.own _ _ (.head _)).2.2.2;have:=aD.bJ;omega
 have AH:Nat.ble z (0+k*sz)=true:=nc (by omega);refine⟨.slice (some ⟨H.ao,0,none⟩) (k+j) cK,fL,(H.ao,.opn (cells++new) e [] z)::e1,J,fun call aO=>?_,pR,?_⟩
 ·rw[hD];have Ty:Nat.beq j 0=false:=by
   cases q:Nat.beq j 0
   ·rfl
   ·exact absurd (eM q) (by omega)
  have hle:Nat.beq full.length (k*sz)=false:=by
   cases q:Nat.beq full.length (k*sz)
   ·rfl
   ·exact absurd (eM q) (by omega)
  have Jt:takeN (k*sz) full=some cells:=by rw[zC (by omega),E2]
  unfold rB;simp only[hu,en,iR,aR,dH,lJ,dQ,eP,sU,ix,cd,ca,qK,Xt,zM,AH,ow,Ty,Jt,b7,Af,hle,HT,cw,gJ,f',hL,hd];rfl
 ·exact h (.slice (some ⟨H.ao,0,none⟩) (k+j) cK) [(H.ao,.opn (cells++new) e [] z)] (.opn (by rw[dv,l8,cH,g']) (by rw[dv];omega)) (fun q bD c' bA r h8 hm=>by rcases fs.1 hm with r|r;(cases r;exact q);cases r) (fun bD c' bA hm=>by rcases fs.1 hm with r|r;cases r;cases r)
def KP{t e:TypeId}{x:Operand}{hi:Operand}{sz a len z:Nat}{gA full:List Value}{rest:List Nat}{b:Int}{ub:IntKind}(al:o.op=.slice t x none (some hi) none)(U:bS l x=some (.slice (some ⟨a,0,none⟩) len cK))(lK:bS l hi=some (.int ub b))(aM:nF K.P t=some (e,sz,gA))(hm:(a,df.opn full e rest z)∈m)(aQ:0<=b)(ae:b<=len):
 dr K B o n ds l m J (.slice (some ⟨a,0,none⟩) b.toNat cK):=by
 obtain⟨hu,en,jR,DC,iR,aR,bc,rfl,bl,b0,dp⟩:=vX aM;intro call aO S H au aD;obtain⟨f,_,mb,_⟩:=(aD.own _ _ hm).1;unfold cA fi;simp only[al];show oi K.P _ t (a5 S.T H x) (some none) (iT S.T H (some hi))=_;rw[dw au H U];show oi K.P _ t _ (some none) (match a5 S.T H hi with|some v=>some (some v)|none=>none)=_
 rw[dw au H lK];have apT:rV b len=some b.toNat:=by
  obtain⟨c,rfl⟩:∃c:Nat,b=(c:Int):=⟨b.toNat,by omega⟩;show(bif Nat.ble c len then some c else none)=_;rw[show Nat.ble c len=true from nc (by omega)];rfl
 have:l4 K.P H t (.slice (some ⟨a,0,none⟩) len cK) none (some (.int ub b))=some (.slice (some ⟨a,0,none⟩) b.toNat cK):=by
  unfold l4;simp only[hu,en,ix,cd,mb,ow,dQ,l2,apT,nM,pc];rfl
 show orElse (hH (l4 K.P H t (.slice (some ⟨a,0,none⟩) len cK) none (some (.int ub b))) H) _=_;rw[this];rfl
def dY(e:TypeId)(sz:Nat)(v:Value)(k:Nat)(cells:List Value)(aS:aJ):Prop:=(Acc e sz v k cells aS/\iV aS/\vH aS)\/∃a full rest,Xo e sz v k cells aS a full rest 0
def dY.form{e:TypeId}{sz k:Nat}{v:Value}{cells:List Value}{aS:aJ}(h:dY e sz v k cells aS):(∃b,v=.slice b 0 0/\k=0/\cells=[]/\aS=[])\/∃a full rest,v=.slice (some ⟨a,0,none⟩) k cK/\aS=[(a,.opn full e rest 0)]/\full.take (k*sz)=cells/\k*sz<=full.length:=by
 rcases h with⟨h,aR,aA⟩|⟨a,full,rest,ae,ag,aE,a6,dK⟩
 ·cases h with
  |nil=>exact .inl ⟨_,I,I,I,I⟩
  |kA a=>exact .inl ⟨_,I,I,I,I⟩
  |opn ae ag=>
   have:=aR _ _ _ _ _ (.head _);subst this;exact .inr ⟨_,_,_,I,I,by rw[<-ae,uM],by omega⟩
  |cap=>exact absurd (.head _) (aA _ _ _)
 ·exact .inr ⟨a,full,rest,ae,ag,a6,by omega⟩
def dY.of{e:TypeId}{sz k a:Nat}{full:List Value}{rest:List Nat}(hk:k*sz<=full.length):dY e sz (.slice (some ⟨a,0,none⟩) k cK) k (full.take (k*sz)) [(a,.opn full e rest 0)]:=by
 by_cases q:k*sz=full.length
 ·refine .inl ⟨?_,fun bD c bA r z hm=>?_,fun bD c bA hm=>?_⟩
  ·have:=Acc.opn (a:=a) (e:=e) (rest:=rest) (z:=0) q.symm (c6 _);rw[q,uM];exact this
  ·rcases fs.1 hm with q|q
   ·cases q;rfl
   ·cases q
  ·rcases fs.1 hm with q|q
   ·cases q
   ·cases q
 ·exact .inr ⟨a,full,rest,I,I,by omega,I,c6 _⟩
def dY.cut{e:TypeId}{sz k fT:Nat}{v:Value}{cells:List Value}{aS:aJ}(h:dY e sz v k cells aS)(hk:fT<=k)(aQ:0<k):∃a full rest,v=.slice (some ⟨a,0,none⟩) k cK/\aS=[(a,.opn full e rest 0)]/\dY e sz (.slice (some ⟨a,0,none⟩) fT cK) fT (cells.take (fT*sz)) aS:=by
 rcases h.form with⟨b,_,q,_⟩|⟨a,full,rest,rfl,rfl,rfl,a6⟩
 ·omega
 ·have:fT*sz<=k*sz:=hJ _ hk;refine⟨a,full,rest,I,I,?_⟩;rw[qq,gv this];exact dY.of (by omega)
def dY.row{e:TypeId}{sz k:Nat}{v:Value}{cells:List Value}{aS:aJ}(h:dY e sz v k cells aS)(aQ:0<k):∃a full rest,v=.slice (some ⟨a,0,none⟩) k cK/\aS=[(a,.opn full e rest 0)]/\full.take (k*sz)=cells/\k*sz<=full.length:=by
 rcases h.form with⟨b,_,q,_⟩|q
 ·omega
 ·exact q
def Vx{full cells:List Value}{n i:Nat}(h:full.take n=cells)(hi:i<n):nth full i=nth cells i:=by
 rw[lQ,lQ,<-h,P6 hi]
def v3{c:Call}{t iA e:TypeId}{sz k j:Nat}{gA cells new:List Value}{v x:Value}{aS e1:aJ}{e0:TypeDesc}(al:o.op=.call c)(ax:c.callee=.builtin .append)(av:o.dst=some d)(aA:Nat.blt d n=true)(aI:jH l c.args.toList=some [v,x])(tV:c.argTypes.toList=[t,iA])(aM:nF K.P t=some (e,sz,gA))(lN:K.P.underlying iA=some e0)(xh:∀i,e0≠.int i)
 (az:dY e sz v k cells aS)(hm:m.Perm (aS++e1))(U:pe K.g0 B J m sz x j new)(cH:new.length=j*sz)(c7:new.all fx=true)(aW:0<j)(aj:k+j<=1000000)
 (h:∀w kj,dY e sz w (k+j) (cells++new) kj->fe ⟨n,ds,(d,w)::l⟩ (kj++e1) J):kr K B o ⟨n,ds,l⟩ m J fe:=by
 rcases az with⟨az,ae,ag⟩|⟨a,full,rest,az⟩
 ·exact uD al ax av aA aI tV aM lN xh az hm U cH c7 aj fun w kj q r=>h w kj (.inl ⟨q,r.1 ae,r.2 ag⟩)
 ·exact aA8 al ax av aA aI tV aM lN xh az hm U cH c7 aW aj fun w kj q dc c9=>h w kj (.inl ⟨q,dc I,c9⟩)
end
section
variable {K:dW}{B:dN}{o:Oper}{n:Nat}{ds:er}{l:List (Nat×Value)}{m:aJ}{J:ai}
def Hs (k:IntKind)(a b:Int):BinOp->Option Value
 |.shr=>some (.int k (a.fdiv (2 ^ b.toNat)))
 |.and=>some (.int k (k.wrap (BitVec.ofInt k.bits a &&& BitVec.ofInt k.bits b).toNat))
 |_=>none
def az9{op:BinOp}{t eE:TypeId}{x y:Operand}{k:IntKind}{a b:Int}{v:Value}(al:o.op=.binOp op t x y eE)(U:bS l x=some (.int k a))(an:bS l y=some (.int k b))(az:Hs k a b op=some v)(ak:0<=b)(jv:b<=k.bits):dr K B o n ds l m J v:=by
 intro call aO S H au aD;unfold cA fi;simp only[al];show mG K.P _ op t (a5 S.T H x) (a5 S.T H y)=_;rw[dw au H U,dw au H an];show(bif ny k k then kf H k a b _ op else _)=_;rw[FG,cd];have key:∀(zp:BinOp),op=zp->(zp=.shr\/zp=.and)->fQ K.P S.T H o=some (.val v H):=by
  intro zp e h;subst e;refine p9 au (by rw[al];rfl) U an I I ?_ ?_
  ·unfold execOp;simp only[al];rw[jb au H U,jb au H an];rcases h with rfl|rfl
   ·simp only[Hs,cb] at az;subst az;have aB:fw K.P (eqGuard .shr t x y (.int k a) (.int k b))=some ():=rfl;have kE:binOp .shr t (.int k a) (.int k b)=pure (.int k (a.fdiv (2 ^ b.toNat))):=by
     simp[binOp,Op.shift,show ¬b<0 by omega,gv (show b.toNat<=k.bits by omega)]
    rw[e' (a:=.int k (a.fdiv (2 ^ b.toNat)))]
    ·rfl
    rw[e' aB,kE];rfl
   ·simp only[Hs,cb] at az;subst az;have aB:fw K.P (eqGuard .and t x y (.int k a) (.int k b))=some ():=rfl;have kE:binOp .and t (.int k a) (.int k b)=pure (.int k (k.wrap (BitVec.ofInt k.bits a &&& BitVec.ofInt k.bits b).toNat)):=by simp[binOp,Op.intBits]
    rw[e' (a:=.int k (k.wrap (BitVec.ofInt k.bits a &&& BitVec.ofInt k.bits b).toNat))]
    ·rfl
    rw[e' aB,kE];rfl
  ·rcases h with rfl|rfl<;>simp only[Hs,cb] at az<;>subst az<;>rfl
 cases op<;>simp only[Hs,reduceCtorEq] at az
 ·show _=_;exact(show kf H k a b _ .and=_ from key .and I (.inr I))
 ·exact(show kf H k a b _ .shr=_ from key .shr I (.inl I))
end
def ajv{a:Int}(h:0<=a)(ag:a<9223372036854775808):IntKind.i64.wrap (BitVec.ofInt IntKind.i64.bits a &&& BitVec.ofInt IntKind.i64.bits 1).toNat=a % 2:=by
 have e:(BitVec.ofInt 64 a &&& BitVec.ofInt 64 1).toNat=a.toNat % 2:=by
  rw[BitVec.toNat_and];have ae:(BitVec.ofInt 64 a).toNat=a.toNat:=by
   rw[BitVec.toNat_ofInt];congr 1
   omega
  rw[ae];show a.toNat &&& 1=_;exact Nat.and_one_is_mod _
 show IntKind.i64.wrap ((BitVec.ofInt 64 a &&& BitVec.ofInt 64 1).toNat:Int)=_;rw[e,wrap_i64 (by omega) (by omega)];omega
def Gl{a:Nat}{q:Nat}:(a:Int).fdiv (2 ^ q)=((a / 2 ^ q:Nat):Int):=by
 rw[Int.fdiv_eq_ediv_of_nonneg _ (by exact PY (Int.pow_pos (by omega)))];simp
section
variable {K:dW}{B:dN}{n:Nat}{ds:er}{l:List (Nat×Value)}{m m':aJ}{J:ai}{cp:Exit->bY->aJ->ai->Prop}{f:FuncId}{args:List Value}
def ath{α:Type}{m:List α}:∃j,(m++j).Perm m:=⟨[],by rw[gC]⟩
def ac3{α:Type}{m m':List α}(h:m.Sublist m'):∃j,(m++j).Perm m':=by
 induction h with
 |slnil=>exact⟨[],.refl _⟩
 |cons a _ aC=>obtain⟨j,h⟩:=aC;exact⟨a::j,List.perm_middle.trans (h.cons a)⟩
 |cons_cons a _ aC=>obtain⟨j,h⟩:=aC;exact⟨j,h.cons a⟩
def aK.alN{α:Type}{c:Code}(k:Nat)(uk:α->List (Nat×Value))(mem:α->aJ)(eG:α->ai)(inv:α->Prop)(ae:aK K B c ⟨n,ds,l⟩ m J fun e E' m' ah=>match e with
 |.normal=>∃s a9,inv s/\E'=⟨n,ds,a9⟩/\lT a9 (uk s++l.drop k)/\(∃j,(mem s++j).Perm m')/\ah=eG s
 |e=>cp e E' m' ah)(ag:∀s,inv s->cp .normal ⟨n,ds,uk s++l.drop k⟩ (mem s) (eG s)):aK K B c ⟨n,ds,l⟩ m J cp:=by
 intro S H au aD;obtain⟨e,aL,H',E',cz,ah,aX,aT,bd,cm⟩:=ae S H au aD;cases e with
 |normal=>
  obtain⟨s,a9,ik,rfl,fz,⟨j,kh⟩,rfl⟩:=cm;exact⟨_,aL,H',_,_,_,aX,aT.sub fz,(bd.perm kh.symm).sub (oB _ _),ag s ik⟩
 |exit i=>exact⟨_,aL,H',_,_,_,aX,aT,bd,cm⟩
 |goto i=>exact⟨_,aL,H',_,_,_,aX,aT,bd,cm⟩
 |ret=>exact⟨_,aL,H',_,_,_,aX,aT,bd,cm⟩
 |panic c=>exact⟨_,aL,H',_,_,_,aX,aT,bd,cm⟩
 |outgrown=>exact⟨_,aL,H',_,_,_,aX,aT,bd,cm⟩
def aK.fU{c:Code}{E:bY}{ki:aJ}(ap:(m'++ki).Perm m)(h:aK K B c E m' J cp):aK K B c E m J cp:=fun S H au aD=>h S H au ((aD.perm ap.symm).sub (oB _ _))
def Fn.frame{a1 cB:aJ}{dI:Value->aJ->ai->Prop}(h:Fn K f args a1 J dI)(ap:(a1++cB).Perm m):Fn K f args m J fun v cX ah=>J.le ah/\∃m',cX=m'++cB/\dI v m' ah:=fun H aD=>by
 obtain⟨v,H',ah,m',ae,ag,aE⟩:=h H (aD.enter ap trivial);obtain⟨aX,aT⟩:=aD.leave ap ag;exact⟨v,H',ah,_,ae,aX,aT,m',I,aE⟩
end
structure uH where
 f:FuncId
 bP:List Value
 a1:aJ
 J:ai
 dI:Value->aJ->ai->Prop
 new:Bool
def uH.aif(x:uH)(K:dW)(f:FuncId)(bP:List Value)(H:aw)(r:Ending×aw):Prop:=
 x.f=f/\x.bP=bP/\Inv K.g0 (iJ x.a1 H x.J) x.J x.a1 H/\∃v H' ah m',r=(Ending.returned v,H')/\j5 K.Q f bP H (.returned v) H'/\Inv K.g0 (iJ x.a1 H x.J) ah m' H'/\x.dI v m' ah
def bB(K:dW)(B:dN)(ops:List Oper)(a0:List jM)(F:List uH)(E:bY)(m:aJ)(J:ai)(bq:bY->aJ->ai->Prop):Prop:=
 ∀(T:eW) (S:aY) (H:aw),(∀f bP H1 r,T f bP H1=some r->∃x∈F,x.aif K f bP H1 r/\(x.new=true->H1.ao<H.ao))->Sat E S->Inv K.g0 B J m H->∃cg:eW,(∀f bP H r cu,T f bP H=some r->cg f bP H=some cu->cu=r)/\∃aL H' E' m' ah,
  (∀eh:eW,(∀f args H r,cg f args H=some r->eh f args H=some r)->dA K.P (hY K.Q eh) (fW K.Q g7 eh).aO ops a0 S H=some (.ok aL H'))/\Sat E' aL/\Inv K.g0 B ah m' H'/\bq E' m' ah
section
variable {K:dW}{B:dN}{ops:List Oper}{a0:List jM}{F:List uH}{F':List (FuncId×List Value)}{E:bY}{m m':aJ}{J:ai}{o:Oper}{bq:bY->aJ->ai->Prop}
variable {n:Nat}{ds:er}{l:List (Nat×Value)}{d i:Nat}
def bX.aew(h:bB K B ops a0 [] E m J bq):bX K B ops a0 [] E m J bq:=by
 intro S H au aD;obtain⟨cg,_,ag⟩:=h (fun _ _ _=>none) S H (fun _ _ _ _ q=>by cases q) au aD;exact⟨cg,(fun _ _ _ _ _ q=>by cases q),ag⟩
def bB.OC(bC:∀x∈F,(x.f,x.bP)∈F')(h:bX K B ops a0 F' E m J bq):bB K B ops a0 F E m J bq:=by
 intro T S H cq au aD;obtain⟨cg,ae,ag⟩:=h S H au aD;refine⟨cg,fun f bP H1 r cu aN aH=>?_,ag⟩;obtain⟨x,U,⟨aF,aV,_⟩,_⟩:=cq f bP H1 r aN;exact absurd (by rw[<-aF,<-aV];exact bC x U) (ae f bP H1 cu aH)
def bB.val{v:Value}(hi:nth ops i=some o)(aB:o.guard=none)(av:o.dst=some d)(aA:Nat.blt d n=true)(az:dr K B o n ds l m J v)(h:bB K B ops a0 F ⟨n,ds,(d,v)::l⟩ m J bq):bB K B ops (.val i::a0) F ⟨n,ds,l⟩ m J bq:=by
 intro T S H cq au aD;obtain⟨a3,s1,s2⟩:=au.put (dst:=some d) aA v;obtain⟨cg,dj,aL,H',E',m',ah,ae,ag,aE,a6⟩:=h T a3 H cq s2 aD;refine⟨cg,dj,aL,H',E',m',ah,fun eh q=>?_,ag,aE,a6⟩;show jl ops i (mM K.P _ _ ops S H (dA K.P _ _ ops a0))=_;unfold jl;rw[hi];show mM K.P _ _ ops S H (dA K.P _ _ ops a0) o=_;unfold mM gK;rw[aB];show Du S H o.dst (dA K.P _ _ ops a0) (cA K.P _ _ S H o)=_;rw[az _ _ S H au aD,av];show(bif Nat.beq H.ao H.ao then qe (dA K.P _ _ ops a0) H (S.put (some d) v) else none)=_;rw[ix,cd,s1];exact ae eh q
def bB.b6{is:List Nat}(ax:x3 K B ops n ds l m J is)(h:bB K B ops a0 F ⟨n,ds,l⟩ m J bq):bB K B ops (.b6 is::a0) F ⟨n,ds,l⟩ m J bq:=by
 intro T S H cq au aD;obtain⟨cg,dj,aL,H',E',m',ah,ae,ag,aE,a6⟩:=h T S H cq au aD;refine⟨cg,dj,aL,H',E',m',ah,fun eh q=>?_,ag,aE,a6⟩;show HL K.P _ _ ops S H (dA K.P _ _ ops a0) is=_;unfold HL;rw[x3.all au aD ax,cd];exact ae eh q
def bB.akG{mk:Bool}{c:Call}{x:Operand}{f:FuncId}{first cap:Array Value}{args bP:List Value}{a1 cB:aJ}{dI:Value->aJ->ai->Prop}
 (hi:nth ops i=some o)(aB:o.guard=none)(al:o.op=.call c)(av:o.dst=some d)(aA:Nat.blt d n=true)(ax:c.callee=.value x)(U:bS l x=some (.func (.func f) first cap))(aI:jH l c.args.toList=some args)(has:(first.toList++args)++cap.toList=bP)
 (hs:∀x∈F,x.f=f->x.bP=bP->(x.a1=a1/\x.J=J/\x.dI=dI)\/(∀H,Inv K.g0 (iJ x.a1 H x.J) x.J x.a1 H->Inv K.g0 (iJ a1 H J) J a1 H->False)\/x.new=true)
 (arb:mk=true->a1=[]/\∀v m' ah,dI v m' ah->∃a b,(a,b)∈m')
 (ap:(a1++cB).Perm m)(fB:AR a1)(bC:Fn K f bP a1 J dI)(h:∀v m' ah,J.le ah->dI v m' ah->bB K B ops a0 (⟨f,bP,a1,J,dI,mk⟩::F) ⟨n,ds,(d,v)::l⟩ (m'++cB) ah bq):bB K B ops (.bw i::a0) F ⟨n,ds,l⟩ m J bq:=by
 intro T S H cq au aD;have gW:=aD.enter ap fB;obtain⟨v,H',ah,m',aX,aT,bd,ik⟩:∃v H' ah m',j5 K.Q f bP H (.returned v) H'/\Inv K.g0 (iJ a1 H J) ah m' H'/\dI v m' ah/\∀r,T f bP H=some r->r=(Ending.returned v,H'):=by
  cases vk:T f bP H with
  |none=>
   obtain⟨v,H',ah,m',aX,aT,bd⟩:=bC H gW;exact⟨v,H',ah,m',aX,aT,bd,fun r q=>by cases q⟩
  |some r=>
   obtain⟨x,U,⟨aF,aV,Sx,v,H',ah,m',sv,aX,aT,bd⟩,nU⟩:=cq _ _ _ _ vk;rcases hs x U aF aV with⟨aN,aH,bo⟩|q|q
   ·rw[aN,aH] at aT;rw[bo] at bd;exact⟨v,H',ah,m',aX,aT,bd,fun cu q=>by injection q with q;rw[<-q];exact sv⟩
   ·exact(q H Sx gW).elim
   ·exact absurd (nU q) (DY _)
 have hZ:H.ao<=H'.ao:=aT.ao;have cH:mk=true->H.ao<H'.ao:=fun q=>by
  obtain⟨e,he⟩:=arb q;subst e;obtain⟨a,b,hr⟩:=he _ _ _ bd;have al:=aT.own _ _ hr;rcases al.2.1 with q|q
  ·exact jg q (df.YG aT.wf al.1)
  ·exact absurd q (Lr)
 obtain⟨cm,fz⟩:=aD.leave ap aT;obtain⟨a3,s1,s2⟩:=au.put (dst:=some d) aA v
 classical
 obtain⟨cg,dj,aL,oz,E',ki,pa,ae,ag,aE,a6⟩:=h v m' ah fz bd (fun ck jF H1=>if ck=f/\jF=bP/\H1=H then some (.returned v,H') else T ck jF H1) a3 H' (fun ck jF H1 r q=>by
  split at q
  ·rename_i e;obtain⟨rfl,rfl,rfl⟩:=e;injection q with q
   exact⟨_,.head _,⟨I,I,gW,v,H',ah,m',q.symm,aX,aT,bd⟩,cH⟩
  ·obtain⟨x,U,cu,sT⟩:=cq _ _ _ _ q;exact⟨x,.tail _ U,cu,fun e=>kw (sT e) hZ⟩) s2 cm
 refine⟨fun ck bV H1=>if ck=f/\bV=bP/\H1=H then some (.returned v,H') else cg ck bV H1,fun ck bV H1 r cu aN aH=>?_,aL,oz,E',ki,pa,fun eh q=>?_,ag,aE,a6⟩
 ·dsimp only at aH
  split at aH
  ·rename_i e;obtain⟨rfl,rfl,rfl⟩:=e;injection aH with aH
   rw[ik r aN,aH]
  ·rename_i e;exact dj ck bV H1 r cu (by rw[aG e];exact aN) aH
 ·have gT:eh f bP H=some (.returned v,H'):=q f bP H _ (by simp only[LQ,aP]);have vw:∀ck bV H1 r,cg ck bV H1=some r->eh ck bV H1=some r:=fun ck bV H1 r ar=>by
   by_cases e:ck=f/\bV=bP/\H1=H
   ·have:=dj ck bV H1 (.returned v,H') r (by rw[aP e]) ar;rw[this,e.1,e.2.1,e.2.2];exact gT
   ·exact q ck bV H1 r (by dsimp only;rw[aG e];exact ar)
  show jl ops i (fun o=>jS ops (dA K.P _ _ ops a0) (one K.P _ _ ops S H o))=_;unfold jl;rw[hi];show jS ops (dA K.P _ _ ops a0) (one K.P _ _ ops S H o)=_;unfold one gK;rw[aB];show jS ops (dA K.P _ _ ops a0) (o2 S H o.dst (cA K.P _ _ S H o))=_;have he:cA K.P (hY K.Q eh) (fW K.Q g7 eh).aO S H o=some (.val v H'):=by
   unfold cA fi;simp only[al];show kN K.P _ c=_;unfold kN;rw[ax];show nj K.P _ _ S.T H c=_;unfold nj;rw[pQ au H aI];simp only[ax];rw[dw au H U];simp only
   show(match kY K.P H (.func f) (first.toList++args) cap.toList with|some (f,bP)=>oL (hY K.Q _ f bP H)|none=>none)=_
   unfold kY;simp only
   rw[has,Ac aX gT];rfl
  rw[he,av];show jS ops (dA K.P _ _ ops a0) (oq H' (S.put (some d) v))=_;rw[s1];exact ae eh vw
def bB.call{c:Call}{x:Operand}{f:FuncId}{first cap:Array Value}{args bP:List Value}{a1 cB:aJ}{dI:Value->aJ->ai->Prop}
 (hi:nth ops i=some o)(aB:o.guard=none)(al:o.op=.call c)(av:o.dst=some d)(aA:Nat.blt d n=true)(ax:c.callee=.value x)(U:bS l x=some (.func (.func f) first cap))(aI:jH l c.args.toList=some args)(has:(first.toList++args)++cap.toList=bP)
 (hs:∀x∈F,x.f=f->x.bP=bP->(x.a1=a1/\x.J=J/\x.dI=dI)\/(∀H,Inv K.g0 (iJ x.a1 H x.J) x.J x.a1 H->Inv K.g0 (iJ a1 H J) J a1 H->False)\/x.new=true)
 (ap:(a1++cB).Perm m)(fB:AR a1)(bC:Fn K f bP a1 J dI)(h:∀v m' ah,J.le ah->dI v m' ah->bB K B ops a0 (⟨f,bP,a1,J,dI,false⟩::F) ⟨n,ds,(d,v)::l⟩ (m'++cB) ah bq):bB K B ops (.bw i::a0) F ⟨n,ds,l⟩ m J bq:=
 bB.akG hi aB al av aA ax U aI has hs (fun q=>by cases q) ap fB bC h
end
def as1{g0:Nat}{B ah3:dN}{J ah:ai}{m m':aJ}{H:aw}{a:Nat}{c c':List Value}{e bA:TypeId}(h:Inv g0 B J ((a,.row c e)::m) H)(h4:Inv g0 ah3 ah ((a,.row c' bA)::m') H):c=c':=by
 have ae:H.mem.get a=some (.row c e false 0 0 false):=(h.own _ _ (.head _)).1;have ag:H.mem.get a=some (.row c' bA false 0 0 false):=(h4.own _ _ (.head _)).1;rw[ae] at ag;injection ag with ag;injection ag
section
variable {K:dW}{B:dN}{R:wC}{ops:List Oper}{a0:List jM}{m:aJ}{J:ai}{o:Oper}{bq:bY->aJ->ai->Prop}
variable {n:Nat}{ds:er}{l:List (Nat×Value)}{d i g:Nat}{want b:Bool}
end
section
variable {K:dW}{B:dN}{o:Oper}{n:Nat}{ds:er}{l:List (Nat×Value)}{m:aJ}{J:ai}{fe:bY->aJ->ai->Prop}{d:Nat}
def aAt{t e:TypeId}{x:Operand}{hi:Operand}{iZ off k cap sz:Nat}{gA:List Value}{b:Int}{ub:IntKind}(al:o.op=.slice t x none (some hi) none)(U:bS l x=some (.slice (some ⟨iZ,off,none⟩) k cap))(aM:nF K.P t=some (e,sz,gA))(lK:bS l hi=some (.int ub b))(aQ:0<=b)(ae:b<=cap)(ax:cap<cK)(my:0<cap):dr K B o n ds l m J (.slice (some ⟨iZ,off,none⟩) b.toNat cap):=by
 obtain⟨hu,en,_⟩:=vX aM;intro call aO S H au aD;obtain⟨CS,s8,s9⟩:=Aa (ju:=k) (top:=cap) (dl:=(k:Int)) (i:=b) (x:=some hi) au H (by unfold yj;simp only[lK]) aQ ae I;unfold cA fi;simp only[al];show oi K.P _ t (a5 S.T H x) (iT S.T H none) (iT S.T H (some hi))=_;rw[dw au H U,s8,show iT S.T H none=some none from I];unfold oi;simp only
 have:l4 K.P H t (.slice (some ⟨iZ,off,none⟩) k cap) none CS=some (.slice (some ⟨iZ,off,none⟩) b.toNat cap):=by
  unfold l4;simp only[hu,en];rw[show Nat.beq cap cK=false from by
   cases ak:Nat.beq cap cK with
   |false=>rfl
   |true=>have:=eM ak;omega,dQ,s9]
  simp only[l2];rw[show Nat.beq cap 0=false from by
   cases ak:Nat.beq cap 0 with
   |false=>rfl
   |true=>have:=eM ak;omega,dQ]
  simp
 rw[this];rfl
end
section
variable {K:dW}{B:dN}{R:wC}{ops:List Oper}{a0:List jM}{m:aJ}{J:ai}{o:Oper}{bq:bY->aJ->ai->Prop}
variable {n:Nat}{ds:er}{l:List (Nat×Value)}{d i g:Nat}{want b:Bool}
end
section
variable {K:dW}{B:dN}{o:Oper}{n:Nat}{ds:er}{l:List (Nat×Value)}{m m':aJ}{J:ai}{fe:bY->aJ->ai->Prop}
end
def cc(k:IntKind)(l:List Nat):List Value:=l.map fun x:Nat=>Value.int k (x:Int)
def vL{k:IntKind}{l:List Nat}:(cc k l).length=l.length:=e9 _
def Kc{k:IntKind}{l:List Nat}{i x:Nat}(h:l[i]?=some x):(cc k l)[i]?=some (.int k (x:Int)):=by unfold cc;rw[h',h];rfl
def uo{k:IntKind}{l:List Nat}{i off x:Nat}(h:l[i]?=some x)(al:off=i:=by omega):nth (cc k l) off=some (.int k (x:Int)):=by subst al;rw[lQ];exact Kc h
def zn{k:IntKind}{a b:List Nat}:cc k (a++b)=cc k a++cc k b:=zW
def s7{k:IntKind}{l:List Nat}{off:Nat}{x:Nat}(i:Nat)(h:i<l.length)(al:off=i:=by omega):gO off (cc k l) [.int k (x:Int)]=some (cc k (l.set i x)):=by
 subst al;exact Pm (f:=fun x:Nat=>Value.int k (x:Int)) h
def Kd{k:IntKind}(l:List Nat):(cc k l).all fx=true:=by
 induction l with
 |nil=>rfl
 |cons a l aC=>show(fx (Value.int k (a:Int))&&_)=true;unfold cc at aC;rw[aC];rfl
def zero_num{k:IntKind}{n:Nat}:fp [.int k 0] n=cc k (List.replicate n 0):=by rw[Xm];unfold cc;rw[List.map_replicate];rfl
def dZ(k:IntKind)(J:ai)(v:Value)(l:List Nat):Prop:=∃e,fg J e 1 v l.length (cc k l)
def dZ.mono{k:IntKind}{J ah:ai}(hle:J.le ah){v:Value}{l:List Nat}(h:dZ k J v l):dZ k ah v l:=by obtain⟨e,h⟩:=h;exact⟨e,h.mono hle⟩
def dZ.addr{k:IntKind}{J:ai}{b:Option Addr}{n c:Nat}{l:List Nat}(h:dZ k J (.slice b n c) l):addrEq b b=true:=by obtain⟨e,h⟩:=h;exact h.addr
def dZ.form{k:IntKind}{J:ai}{v:Value}{l:List Nat}(h:dZ k J v l):∃b c,v=.slice b l.length c:=by
 obtain⟨e,h⟩:=h;obtain⟨b,c,ae,_⟩:=fg.inv h;exact⟨b,c,ae⟩
def dZ.eG{k:IntKind}{J:ai}{b:Option Addr}{n c:Nat}{l:List Nat}(h:dZ k J (.slice b n c) l)(ap:0<l.length):∃a off cells e,b=some ⟨a,off,none⟩/\J a=some (cells,e)/\∀i x:Nat,l[i]?=some x->nth cells (off+i*1)=some (.int k (x:Int)):=by
 obtain⟨e,h⟩:=h;obtain⟨b',c',ae,_,_,aE⟩:=fg.inv h;injection ae with a6 dK ga
 subst a6;obtain⟨a,off,cells,e,aX,aT,bd⟩:=aE ap;refine⟨a,off,cells,e,aX,aT,fun i x U=>?_⟩;have hi:=(dO.1 U).1;rw[jr,bd i aa];exact Kc U
def dZ.rd{k:IntKind}{g0:Nat}{B:dN}{J:ai}{m:aJ}{v:Value}{l:List Nat}(h:dZ k J v l):pe g0 B J m 1 v l.length (cc k l):=by obtain⟨e,h⟩:=h;exact h.rd
def dZ.nil{k:IntKind}{J:ai}:dZ k J (.slice none 0 0) []:=⟨3,.nil⟩
def dZ.row{k:IntKind}{J:ai}{a n cap:Nat}{l:List Nat}{e:TypeId}(aA:n<=l.length)(ax:n<=cap)(hM:cap<cK)(h:J a=some (cc k l,e)):dZ k J (.slice (some ⟨a,0,none⟩) n cap) (l.take n):=by
 have aj:(l.take n).length=n:=by rw[eL];omega
 refine⟨e,?_⟩;rw[aj];refine .row h ?_ ?_ (fun _=>⟨ax,hM⟩) (fun q=>absurd q aa)
 ·rw[iD,jr];unfold cc;rw[GY]
 ·rw[vL,aj,jr]
def cF:List Nat->Nat
 |[]=>0
 |x::l=>x+18446744073709551616*cF l
def okW(l:List Nat):Prop:=∀x∈l,x<18446744073709551616
def zP(l:List Nat):Prop:=okW l/\∀x,l.getLast?=some x->x≠0
def a7(n:Nat):List Nat:=if h:n=0 then[] else n % 18446744073709551616::a7 (n / 18446744073709551616)
termination_by n
decreasing_by omega
def th:a7 0=[]:=by unfold a7;rfl
def xY{n:Nat}(h:n≠0):a7 n=n % 18446744073709551616::a7 (n / 18446744073709551616):=by rw[a7];rw[dif_neg h]
def nI:∀n:Nat,cF (a7 n)=n:=by
 intro n
 induction n using Nat.strongRecOn with
 |_ n aC=>
  by_cases h:n=0
  ·subst h;rw[th];rfl
  ·rw[xY h]
   show n % 18446744073709551616+18446744073709551616*cF (a7 (n / 18446744073709551616))=n
   rw[aC _ (by omega)];omega
def xI:∀n:Nat,okW (a7 n):=by
 intro n
 induction n using Nat.strongRecOn with
 |_ n aC=>
  by_cases h:n=0
  ·subst h;rw[th];intro x U;cases U
  ·rw[xY h]
   intro x U
   rcases fs.1 U with rfl|U
   ·omega
   ·exact aC _ (by omega) x U
def aAV:∀(n:Nat) (x:Nat),(a7 n).getLast?=some x->x≠0:=by
 intro n
 induction n using Nat.strongRecOn with
 |_ n aC=>
  intro x U
  by_cases h:n=0
  ·subst h;rw[th] at U;cases U
  ·rw[xY h] at U
   by_cases ag:n / 18446744073709551616=0
   ·rw[ag,th] at U
    have U:n % 18446744073709551616=x:=by simpa using U
    omega
   ·rw[xY ag,P8,<-xY ag] at U
    exact aC _ (by omega) x U
def Zy(n:Nat):zP (a7 n):=⟨xI n,aAV n⟩
def okW.tail{x:Nat}{l:List Nat}(h:okW (x::l)):okW l:=fun y an=>h y (.tail _ an)
def Zp{x:Nat}{l:List Nat}(h:zP (x::l)):zP l:=⟨h.1.tail,fun y an=>by
 cases l with
 |nil=>cases an
 |cons z l=>exact h.2 y (by rw[P8];exact an)⟩
def ahj:∀{l:List Nat},zP l->cF l=0->l=[]
 |[],_,_=>rfl
 |x::l,h,aQ=>by
  have aQ:x+18446744073709551616*cF l=0:=aQ
  have:=ahj (Zp h) (by omega)
  subst this
  exact absurd (show x=0 by omega) (h.2 x I)
def Mq:∀{l:List Nat},zP l->l=a7 (cF l)
 |[],_=>by show[]=a7 0;rw[th]
 |x::l,h=>by
  have U:=h.1 x (.head _)
  have aC:=Mq (Zp h)
  have aA:cF (x::l)≠0:=fun q=>by have:=ahj h q;cases this
  rw[xY aA]
  have aF:cF (x::l) % 18446744073709551616=x:=by show(x+18446744073709551616*cF l) % 18446744073709551616=x;omega
  have aV:cF (x::l) / 18446744073709551616=cF l:=by show(x+18446744073709551616*cF l) / 18446744073709551616=cF l;omega
  rw[aF,aV,<-aC]
def KS:∀(a b:List Nat),cF (a++b)=cF a+18446744073709551616 ^ a.length*cF b
 |[],b=>by show cF b=0+1*cF b;omega
 |x::a,b=>by
  show x+18446744073709551616*cF (a++b)=x+18446744073709551616*cF a+18446744073709551616 ^ (a.length+1)*cF b
  rw[KS a b,hV,lz,lY,DW,D1]
def PE(x:Nat):cF [x]=x:=by show x+18446744073709551616*0=x;omega
def Gv:∀{l:List Nat},okW l->cF l<18446744073709551616 ^ l.length
 |[],_=>by decide
 |x::l,h=>by
  have aC:=Gv h.tail
  have U:=h x (.head _)
  show x+18446744073709551616*cF l<18446744073709551616 ^ (l.length+1)
  rw[lz]
  omega
def ahh{l:List Nat}(h:zP l)(aA:l≠[]):18446744073709551616 ^ (l.length -1)<=cF l:=by
 have e:=ail aA
 have aQ:l.getLast aA≠0:=h.2 _ (aip aA)
 rw[<-e,KS,PE,dv,x8,zX]
 have:18446744073709551616 ^ l.dropLast.length*1<=18446744073709551616 ^ l.dropLast.length*l.getLast aA:=DZ _ (by omega)
 omega
def Dv{l:List Nat}{i x:Nat}(h:l[i]?=some x):cF (l.take (i+1))=cF (l.take i)+18446744073709551616 ^ i*x:=by
 have hi:=(dO.1 h).1
 rw[ly,h,Yg,KS,PE,eL,gv (by omega)]
def KT{l:List Nat}{i x:Nat}(h:l[i]?=some x):cF (l.drop i)=x+18446744073709551616*cF (l.drop (i+1)):=by
 have hi:=(dO.1 h).1
 have U:l[i]=x:=by rw[cU hi] at h;injection h
 rw[tn hi,U];rfl
def KU(l:List Nat)(i:Nat)(hi:i<=l.length):cF l=cF (l.take i)+18446744073709551616 ^ i*cF (l.drop i):=by
 have:=KS (l.take i) (l.drop i)
 rwa [Lu,eL,gv hi] at this
def ahi{l:List Nat}{i x y:Nat}(h:l[i]?=some x):cF (l.set i y)+18446744073709551616 ^ i*x=cF l+18446744073709551616 ^ i*y:=by
 have hi:=(dO.1 h).1
 have aF:=KU l i (by omega)
 have aV:=KU (l.set i y) i (by rw[hy];omega)
 rw[Qa (b2 i),KT (i:=i) (x:=y) (by rw[qp,aP I,aP hi]),P4 (by omega)] at aV
 rw[KT h] at aF
 rw[aF,aV,hV,hV]
 omega
def F2{l:List Nat}{i y:Nat}(h:okW l)(an:y<18446744073709551616):okW (l.set i y):=fun x U=>by
 rcases Lp U with q|q
 ·exact h x q
 ·omega
def VG{a b:List Nat}(ae:okW a)(ag:okW b):okW (a++b):=fun x U=>by
 rcases mm.1 U with q|q
 ·exact ae x q
 ·exact ag x q
def Ke{l:List Nat}{i:Nat}(h:okW l):okW (l.take i):=fun x U=>h x (DU U)
def OG{l:List Nat}{i x:Nat}(h:okW l)(U:l[i]?=some x):x<18446744073709551616:=h x (dq U)
def OH{n:Nat}:okW (List.replicate n 0):=fun x U=>by rw[DS U];decide
def ahk:∀n:Nat,cF (List.replicate n 0)=0
 |0=>rfl
 |n+1=>by rw[Lt];show 0+18446744073709551616*cF (List.replicate n 0)=0;rw[ahk n]
def aAw{a b:List Nat}(aI:okW a)(ak:zP b)(h:a.length<b.length):cF a<cF b:=by
 have ae:=Gv aI
 have ag:=ahh ak (fun q=>by rw[q] at h;exact D2 _ h)
 have aE:18446744073709551616 ^ a.length<=18446744073709551616 ^ (b.length -1):=nd (by decide) (by omega)
 omega
def aAx{a b:List Nat}{i x y:Nat}(aI:okW a)(U:a[i]?=some x)(an:b[i]?=some y)(av:a.drop (i+1)=b.drop (i+1))(h:x<y):cF a<cF b:=by
 have asM:=(dO.1 U).1
 have asN:=(dO.1 an).1
 have aF:=KU a (i+1) (by omega)
 have aV:=KU b (i+1) (by omega)
 rw[Dv U,av] at aF
 rw[Dv an] at aV
 have ae:=Gv (Ke (i:=i) aI)
 rw[eL,gv (by omega)] at ae
 have ag:18446744073709551616 ^ i*(x+1)<=18446744073709551616 ^ i*y:=DZ _ h
 rw[hV,jr] at ag
 generalize 18446744073709551616 ^ (i+1)*cF (b.drop (i+1))=R at aF aV
 generalize 18446744073709551616 ^ i*x=X at aF ag
 generalize 18446744073709551616 ^ i*y=Y at aV ag
 omega
section
variable {Q:da Tryz.prog}{g0:Nat}{B:dN}{o:Oper}{n:Nat}{ds:er}{l:List (Nat×Value)}{m:aJ}{J:ai}
def afI{a:Nat}{cells:List Value}(h:mo m J a cells:=by first|exact .eG (by assumption)|exact .own (by repeat first|exact .head _|refine .tail _ ?_|refine j7 _ ?_)|exact .opn (by repeat first|exact .head _|refine .tail _ ?_|refine j7 _ ?_)):mo m J a cells:=h
def V.adf{t:TypeId}{x:Operand}{a off:Nat}{cells:List Value}{v:Value}(al:o.op=.load t x:=by exact I) (U:bS l x=some (.pointer (some ⟨a,off,none⟩)):=by exact I) (ar:mo m J a cells:=by exact afI) (az:n8 (aU Q g0).P t cells off=some v:=by exact g8 (fJ I) (by first|rfl|assumption)):dr (aU Q g0) B o n ds l m J (v):=j1 al U ar az
def V.UW{t:TypeId}{x:Operand}{a off:Nat}{cells:List Value}{v:Value}(al:o.op=.load t x:=by exact I) (U:bS l x=some (.pointer (some ⟨a,off,none⟩)):=by exact I) (ar:mo m J a cells:=by exact afI) (az:n8 (aU Q g0).P t cells off=some v:=by exact vP (fJ I) (by first|rfl|assumption)):dr (aU Q g0) B o n ds l m J (v):=j1 al U ar az
end
def ayJ{cells:List Value}{off:Nat}{v:Value}(i:Nat)(h:i<cells.length)(al:off=i:=by omega):gO off cells [v]=some (cells.set i v):=by
 subst al;have:=Pm (f:=fun v:Value=>v) (L:=cells) (x:=v) h;rwa [XV,XV] at this
def dz.at{α:Type}{J:ai}{e:TypeId}{sz n c:Nat}{b:Option Addr}{R:α->List Value->Prop}{xs:List α}(h:dz J e sz R (.slice b n c) xs):n=xs.length/\(0<xs.length->∃a off cells bA,b=some ⟨a,off,none⟩/\J a=some (cells,bA)/\
 ∀i:Int,0<=i->i<xs.length->∃x cs,xs[i.toNat]?=some x/\takeN sz (qH (off+i.toNat*sz) cells)=some cs/\(∀k v,k<sz->nth cs k=some v->nth cells (off+i.toNat*sz+k)=some v)/\R x cs):=by
 obtain⟨ae,ag⟩:=h.get;refine⟨ae,fun ap=>?_⟩;obtain⟨a,off,cells,bA,aX,aT,bd⟩:=ag ap;refine⟨a,off,cells,bA,aX,aT,fun i i0 i1=>?_⟩;have U:=cU (l:=xs) (i:=i.toNat) aa;obtain⟨cs,bb,bt⟩:=bd _ _ U;rw[ff] at bb;refine⟨_,cs,U,bb,fun k v hk az=>?_,bt⟩;obtain⟨q,_,_⟩:=Gm bb;rw[lQ] at az ⊢;rw[q,wS,iY,aP hk,n2] at az;exact az
def mo.cons{m:aJ}{J:ai}{a:Nat}{cells:List Value}{x:Nat×df}(h:mo m J a cells):mo (x::m) J a cells:=by
 cases h with
 |own h=>exact .own (.tail _ h)
 |opn h=>exact .opn (.tail _ h)
 |eG h=>exact .eG h
def mo.sub{m m':aJ}{J:ai}{a:Nat}{cells:List Value}(h:mo m J a cells)(hs:∀x∈m,x∈m'):mo m' J a cells:=by
 cases h with
 |own h=>exact .own (hs _ h)
 |opn h=>exact .opn (hs _ h)
 |eG h=>exact .eG h
section
variable {Q:da Tryz.prog}{g0:Nat}{J:ai}
def gl.vQ{b:Option Addr}{n c:Nat}{l:List Int}(h:gl J (.slice b n c) l):0<l.length->∃a off cells e,b=some ⟨a,off,none⟩/\J a=some (cells,e)/\∀i:Nat,i<l.length->∃x,l[i]?=some x/\nth cells (off+i*1)=some (.int .i64 x):=fun ap=>by
 obtain⟨_,_,aE⟩:=h.get;obtain⟨a,off,cells,e,a6,dK,ga⟩:=aE ap;refine⟨a,off,cells,e,a6,dK,fun i hi=>?_⟩;have:=ga i aa aa;rwa [ff] at this
end
section
variable {K:dW}{B:dN}{o:Oper}{n:Nat}{ds:er}{l:List (Nat×Value)}{m:aJ}{J:ai}
def ag3{t eE:TypeId}{x y:Operand}{k:IntKind}{a b:Int}(al:o.op=.binOp .and t x y eE)(U:bS l x=some (.int k a))(an:bS l y=some (.int k b)):dr K B o n ds l m J (.int k (k.wrap (BitVec.ofInt k.bits a &&& BitVec.ofInt k.bits b).toNat)):=by
 intro call aO S H au aD;unfold cA fi;simp only[al];show mG K.P _ .and t (a5 S.T H x) (a5 S.T H y)=_;rw[dw au H U,dw au H an];show(bif ny k k then kf H k a b _ .and else _)=_;rw[FG,cd];have key:fQ K.P S.T H o=some (.val (.int k (k.wrap (BitVec.ofInt k.bits a &&& BitVec.ofInt k.bits b).toNat)) H):=by
  refine p9 au (by rw[al];rfl) U an I I ?_ I;unfold execOp;simp only[al];rw[jb au H U,jb au H an];have aB:fw K.P (eqGuard .and t x y (.int k a) (.int k b))=some ():=rfl;have kE:binOp .and t (.int k a) (.int k b)=pure (.int k (k.wrap (BitVec.ofInt k.bits a &&& BitVec.ofInt k.bits b).toNat)):=by simp[binOp,Op.intBits]
  rw[e' (a:=.int k (k.wrap (BitVec.ofInt k.bits a &&& BitVec.ofInt k.bits b).toNat))]
  ·rfl
  rw[e' aB,kE];rfl
 exact(show kf H k a b _ .and=_ from key)
def c5(J:ai)(v:Value)(x:Nat):Prop:=dZ .u64 J v (a7 x)
def c5.mono{J ah:ai}(hle:J.le ah){v:Value}{x:Nat}(h:c5 J v x):c5 ah v x:=dZ.mono hle h
def ye(x n:Nat):Prop:=n=(a7 x).length
def ye.z{x n:Nat}(h:ye x n)(aA:n=0):x=0:=by
 by_cases q:x=0
 ·exact q
 ·have h:n=(a7 x).length:=h
  rw[xY q,ks] at h;omega
def ye.iV{x n:Nat}(h:ye x n)(U:x=0):n=0:=by subst U;exact h.trans (by rw[th];rfl)
def c5.bz{J:ai}{v:Value}{x:Nat}(h:c5 J v x):∃b n c,v=.slice b n c/\addrEq b b=true/\ye x n/\True:=by
 have h:dZ .u64 J v (a7 x):=h;obtain⟨b,c,rfl⟩:=h.form;exact⟨b,_,c,I,h.addr,I,trivial⟩
def ye.p{x n:Nat}(h:ye x n)(U:x≠0):0<n:=Hb fun q=>U (h.z q)
def ye.aev{x n:Nat}(h:ye x n)(U:n≠0):x≠0:=fun q=>U (h.iV q)
def c5.ch{J:ai}{v:Value}{x:Nat}(h:c5 J v x):∃b c,v=.slice b (a7 x).length c/\addrEq b b=true:=by
 have h:dZ .u64 J v (a7 x):=h;obtain⟨b,c,rfl⟩:=h.form;exact⟨b,c,I,h.addr⟩
def c5.zero{J:ai}{b:Option Addr}{c:Nat}(h:∃e,fg J e 1 (.slice b 0 c) 0 []):c5 J (.slice b 0 c) 0:=by
 obtain⟨e,h⟩:=h;show dZ .u64 J _ (a7 0);rw[th];exact⟨e,h⟩
def c5.nil{J:ai}:c5 J (.slice none 0 0) 0:=.zero ⟨3,.nil⟩
def c5.row{J:ai}{a n cap x:Nat}{l:List Nat}{e:TypeId}(aA:l.take n=a7 x)(aj:n<=l.length)(ax:n<=cap)(hM:cap<cK)(h:J a=some (cc .u64 l,e)):c5 J (.slice (some ⟨a,0,none⟩) n cap) x:=by
 have:=dZ.row aj ax hM h;rw[aA] at this;exact this
def aAn{t eE:TypeId}{x y:Operand}{k:IntKind}{a b:Int}(al:o.op=.binOp .or t x y eE)(U:bS l x=some (.int k a))(an:bS l y=some (.int k b)):dr K B o n ds l m J (.int k (k.wrap (BitVec.ofInt k.bits a ||| BitVec.ofInt k.bits b).toNat)):=by
 intro call aO S H au aD;unfold cA fi;simp only[al];show mG K.P _ .or t (a5 S.T H x) (a5 S.T H y)=_;rw[dw au H U,dw au H an];show(bif ny k k then kf H k a b _ .or else _)=_;rw[FG,cd];have key:fQ K.P S.T H o=some (.val (.int k (k.wrap (BitVec.ofInt k.bits a ||| BitVec.ofInt k.bits b).toNat)) H):=by
  refine p9 au (by rw[al];rfl) U an I I ?_ I;unfold execOp;simp only[al];rw[jb au H U,jb au H an];have aB:fw K.P (eqGuard .or t x y (.int k a) (.int k b))=some ():=rfl;have kE:binOp .or t (.int k a) (.int k b)=pure (.int k (k.wrap (BitVec.ofInt k.bits a ||| BitVec.ofInt k.bits b).toNat)):=by simp[binOp,Op.intBits]
  rw[e' (a:=.int k (k.wrap (BitVec.ofInt k.bits a ||| BitVec.ofInt k.bits b).toNat))]
  ·rfl
  rw[e' aB,kE];rfl
 exact(show kf H k a b _ .or=_ from key)
def aAp{t eE:TypeId}{x y:Operand}{k aT:IntKind}{a b:Int}(al:o.op=.binOp .shl t x y eE)(U:bS l x=some (.int k a))(an:bS l y=some (.int aT b))(nr:ny k aT=false)(aQ:0<=b)(ae:b<=k.bits):dr K B o n ds l m J (.int k (k.wrap (a*2 ^ b.toNat))):=by
 intro call aO S H au aD;unfold cA fi;simp only[al];show mG K.P _ .shl t (a5 S.T H x) (a5 S.T H y)=_;rw[dw au H U,dw au H an];show(bif ny k aT then kf H k a b _ .shl else _)=_;rw[nr,dQ];have key:fQ K.P S.T H o=some (.val (.int k (k.wrap (a*2 ^ b.toNat))) H):=by
  refine p9 au (by rw[al];rfl) U an I I ?_ I;unfold execOp;simp only[al];rw[jb au H U,jb au H an];have aB:fw K.P (eqGuard .shl t x y (.int k a) (.int aT b))=some ():=rfl;have kE:binOp .shl t (.int k a) (.int aT b)=pure (.int k (k.wrap (a*2 ^ b.toNat))):=by
   simp[binOp,Op.shift,show ¬b<0 by omega,gv (show b.toNat<=k.bits by omega)]
  rw[e' (a:=.int k (k.wrap (a*2 ^ b.toNat)))]
  ·rfl
  rw[e' aB,kE];rfl
 show orElse (fQ K.P S.T H o) _=_;rw[key];rfl
def aAq{t eE:TypeId}{x y:Operand}{k aT:IntKind}{a b:Int}(al:o.op=.binOp .shl t x y eE)(U:bS l x=some (.int k a))(an:bS l y=some (.int aT b))(aQ:0<=b)(ae:b<=k.bits):dr K B o n ds l m J (.int k (k.wrap (a*2 ^ b.toNat))):=by
 cases nr:ny k aT with
 |false=>exact aAp al U an nr aQ ae
 |true=>
  obtain rfl:k=aT:=by revert nr;cases k<;>cases aT<;>intro nr<;>first|rfl|cases nr
  intro call aO S H au aD;unfold cA fi;simp only[al];show mG K.P _ .shl t (a5 S.T H x) (a5 S.T H y)=_;rw[dw au H U,dw au H an];show(bif ny k k then kf H k a b _ .shl else _)=_;rw[nr,cd];have key:fQ K.P S.T H o=some (.val (.int k (k.wrap (a*2 ^ b.toNat))) H):=by
   refine p9 au (by rw[al];rfl) U an I I ?_ I;unfold execOp;simp only[al];rw[jb au H U,jb au H an];have aB:fw K.P (eqGuard .shl t x y (.int k a) (.int k b))=some ():=rfl;have kE:binOp .shl t (.int k a) (.int k b)=pure (.int k (k.wrap (a*2 ^ b.toNat))):=by
    simp[binOp,Op.shift,show ¬b<0 by omega,gv (show b.toNat<=k.bits by omega)]
   rw[e' (a:=.int k (k.wrap (a*2 ^ b.toNat)))]
   ·rfl
   rw[e' aB,kE];rfl
  exact(show kf H k a b _ .shl=_ from key)
def aAr{t eE:TypeId}{x y:Operand}{k aT:IntKind}{a b:Int}(al:o.op=.binOp .shr t x y eE)(U:bS l x=some (.int k a))(an:bS l y=some (.int aT b))(nr:ny k aT=false)(aQ:0<=b)(ae:b<=k.bits):dr K B o n ds l m J (.int k (a.fdiv (2 ^ b.toNat))):=by
 intro call aO S H au aD;unfold cA fi;simp only[al];show mG K.P _ .shr t (a5 S.T H x) (a5 S.T H y)=_;rw[dw au H U,dw au H an];show(bif ny k aT then kf H k a b _ .shr else _)=_;rw[nr,dQ];have key:fQ K.P S.T H o=some (.val (.int k (a.fdiv (2 ^ b.toNat))) H):=by
  refine p9 au (by rw[al];rfl) U an I I ?_ I;unfold execOp;simp only[al];rw[jb au H U,jb au H an];have aB:fw K.P (eqGuard .shr t x y (.int k a) (.int aT b))=some ():=rfl;have kE:binOp .shr t (.int k a) (.int aT b)=pure (.int k (a.fdiv (2 ^ b.toNat))):=by
   simp[binOp,Op.shift,show ¬b<0 by omega,gv (show b.toNat<=k.bits by omega)]
  rw[e' (a:=.int k (a.fdiv (2 ^ b.toNat)))]
  ·rfl
  rw[e' aB,kE];rfl
 show orElse (fQ K.P S.T H o) _=_;rw[key];rfl
def ag9{t eE:TypeId}{x y:Operand}{k aT:IntKind}{a b:Int}(al:o.op=.binOp .shr t x y eE)(U:bS l x=some (.int k a))(an:bS l y=some (.int aT b))(aQ:0<=b)(ae:b<=k.bits):dr K B o n ds l m J (.int k (a.fdiv (2 ^ b.toNat))):=by
 cases nr:ny k aT with
 |false=>exact aAr al U an nr aQ ae
 |true=>
  obtain rfl:k=aT:=by revert nr;cases k<;>cases aT<;>intro nr<;>first|rfl|cases nr
  intro call aO S H au aD;unfold cA fi;simp only[al];show mG K.P _ .shr t (a5 S.T H x) (a5 S.T H y)=_;rw[dw au H U,dw au H an];show(bif ny k k then kf H k a b _ .shr else _)=_;rw[nr,cd];have key:fQ K.P S.T H o=some (.val (.int k (a.fdiv (2 ^ b.toNat))) H):=by
   refine p9 au (by rw[al];rfl) U an I I ?_ I;unfold execOp;simp only[al];rw[jb au H U,jb au H an];have aB:fw K.P (eqGuard .shr t x y (.int k a) (.int k b))=some ():=rfl;have kE:binOp .shr t (.int k a) (.int k b)=pure (.int k (a.fdiv (2 ^ b.toNat))):=by
    simp[binOp,Op.shift,show ¬b<0 by omega,gv (show b.toNat<=k.bits by omega)]
   rw[e' (a:=.int k (a.fdiv (2 ^ b.toNat)))]
   ·rfl
   rw[e' aB,kE];rfl
  exact(show kf H k a b _ .shr=_ from key)
end
end
end Go.Opn

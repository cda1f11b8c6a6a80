/- A part of the proof of ResumeBytes. -/
import Derived.Test.YtkmfhjilfjecmaaGreatDoorCau
import Derived.Test.YtkmfhjilfjecmaaGreatDoorCav
set_option maxRecDepth 100000
set_option linter.unusedVariables false
set_option linter.unusedSimpArgs false
namespace Go.Opn
noncomputable section
open Go.Cre Go.RowKit Go.Proofs
section
variable {Q:dD k3}{g0:Nat}
theorem BW{α β:Type}{f:Nat->Option β}{g:α->β}:∀{L:List (Nat×α)},L.map (fun x=>f x.1)=L.map (fun x=>some (g x.2))->∀{t:Nat} {r:α},wc L t=some r->f t=some (g r):=by
 intro L;induction L with
 |nil=>intro _ t r h;cases h
 |cons x L aI=>
  obtain⟨u,v⟩:=x;intro h t r aw;rw[nz,nz,List.cons.injEq] at h;simp only[wc] at aw;cases ap:Nat.beq t u with
  |true=>
   rw[ap,b7] at aw;injection aw with aw;subst aw
   obtain rfl:=eO ap;exact h.1
  |false=>rw[ap,dT] at aw;exact aI h.2 aw
theorem QE{f:Nat->Bool}:∀{L:List Nat},L.all f=true->∀{t:Nat},EJ t L=true->f t=true:=by
 intro L;induction L with
 |nil=>intro _ t h;cases h
 |cons u L aI=>
  intro h t aB;rw[sb,fS] at h;simp only[EJ] at aB;cases ap:Nat.beq t u with
  |true=>obtain rfl:=eO ap;exact h.1
  |false=>rw[ap,dT] at aB;exact aI h.2 aB
theorem eW{t:Nat}{r:Option Nat}(h:wc M7 t=some r):sl (bd Q g0).P t=some r:=BW (f:=fun t=>sl k3 t) (g:=id) abo h
theorem fQ{t:Nat}{r:Nat}(h:wc RM t=some r):ef (bd Q g0).P t=some r:=BW (f:=fun t=>ef k3 t) (g:=id) aoL h
theorem ZL{t f:Nat}{r:Nat}(h:wc N' (t*100+f)=some r)(aD:Nat.blt f 100=true):DR (bd Q g0).P t f=some r:=by
 have:=BW (f:=fun k=>DR k3 (k / 100) (k % 100)) (g:=id) afw h;have aD:f<100:=by simpa[Nat.blt,u0] using aD
 rwa [show(t*100+f) / 100=t by omega,show(t*100+f) % 100=f by omega] at this
theorem aoN{t:Nat}{r:Nat×Nat×Nat}(h:wc Nc t=some r):AI (bd Q g0).P t=some r:=BW (f:=fun t=>AI k3 t) (g:=id) abD h
theorem aoQ{t:Nat}{r:Nat}(h:wc N0 t=some r):DJ (bd Q g0).P t=some r:=BW (f:=fun t=>DJ k3 t) (g:=id) aeG h
theorem aoR{t:Nat}(h:EJ t Xd=true):isSlice (bd Q g0).P t=true:=QE (f:=fun t=>isSlice k3 t) isOk h
theorem Mn{t:Nat}(h:EJ t Xf=true):sW (bd Q g0).P t=true:=QE (f:=fun t=>sW k3 t) akA h
theorem ZM{t:Nat}(h:EJ t XY=true):B9 (bd Q g0).P t=true:=QE (f:=fun t=>B9 k3 t) alu h
theorem aoO{t:Nat}{r:Sum (List (Nat×Nat)) Nat×List Value}(h:wc Ni t=some r):Gg (bd Q g0).P t=some r:=BW (f:=fun t=>Gg k3 t) (g:=id) ab0 h
theorem aoP{s t:Nat}{r:IntKind}(h:wc NN (s*10000+t)=some r)(aD:Nat.blt t 10000=true):isInt (bd Q g0).P s t=some r:=by
 have:=BW (f:=fun k=>isInt k3 (k / 10000) (k % 10000)) (g:=id) adE h;have aD:t<10000:=by simpa[Nat.blt,u0] using aD
 rwa [show(s*10000+t) / 10000=s by omega,show(s*10000+t) % 10000=t by omega] at this
structure Hid (p:Prop):Prop where
 out:p
section
variable {B:dV}{o:Oper}{n:Nat}{ds:e7}{l:List (Nat×Value)}{m m':aN}{J:aH}{d:Nat}
theorem Y2{a:Nat}{cells:List Value}(h:hW m J a cells:=by first|exact .own (by repeat first|exact .head _|refine .tail _ ?_|refine hT _ ?_)|exact .fw (by assumption)|exact .opn (by repeat first|exact .head _|refine .tail _ ?_|refine hT _ ?_)):hW m J a cells:=h
theorem V.ag{x:Operand}{v:Value}(ar:o.op=.move x:=by exact rfl) (U:b6 l x=some v:=by exact rfl):dm (bd Q g0) B o n ds l m J (v):=apv ar U
theorem V.az{x:Operand}{v:Value}(ar:o.op=.assign x:=by exact rfl) (U:b6 l x=some v:=by exact rfl):dm (bd Q g0) B o n ds l m J (v):=apf ar U
theorem V.ba{s:TypeId}{x:Operand}{f a off k:Nat}(ar:o.op=.fieldAddr s x f:=by exact rfl) (U:b6 l x=some (.pointer (some ⟨a,off,none⟩)):=by exact rfl) (aD:DR (bd Q g0).P s f=some k:=by exact ZL rfl rfl):dm (bd Q g0) B o n ds l m J (.pointer (some ⟨a,off+k,none⟩)):=Z6 ar U aD
theorem V.aG{t:TypeId}{x:Operand}{a off:Nat}{cells:List Value}{v:Value}(ar:o.op=.load t x:=by exact rfl) (U:b6 l x=some (.pointer (some ⟨a,off,none⟩)):=by exact rfl) (aw:hW m J a cells:=by exact Y2) (ay:mX (bd Q g0).P t cells off=some v:=by exact ho (eW rfl) (by first|rfl|assumption)):dm (bd Q g0) B o n ds l m J (v):=gP ar U aw ay
theorem V.c9{t:TypeId}{x:Operand}{a off:Nat}{cells:List Value}{v:Value}(ar:o.op=.load t x:=by exact rfl) (U:b6 l x=some (.pointer (some ⟨a,off,none⟩)):=by exact rfl) (aw:hW m J a cells:=by exact Y2) (ay:mX (bd Q g0).P t cells off=some v:=by exact mm (eW rfl) (by first|rfl|assumption)):dm (bd Q g0) B o n ds l m J (v):=gP ar U aw ay
theorem V.aU{c x y:Operand}{t:Bool}{v:Value}(ar:o.op=.pick c x y:=by exact rfl) (aC:b6 l c=some (.bool t):=by exact rfl) (ay:(if t=true then b6 l x else b6 l y)=some v:=by exact rfl):dm (bd Q g0) B o n ds l m J (v):=apz ar aC ay
theorem V.aZ{op:BinOp}{t eS:TypeId}{x y:Operand}{k:IntKind}{a b:Int}{v:Value}(ar:o.op=.binOp op t x y eS:=by exact rfl) (U:b6 l x=some (.int k a):=by exact rfl) (ai:b6 l y=some (.int k b):=by exact rfl) (ay:Nf k a b op=some v:=by exact rfl):dm (bd Q g0) B o n ds l m J (v):=Z7 ar U ai ay
theorem V.bt{op:BinOp}{t eS:TypeId}{x y:Operand}{k:IntKind}{a b c cd:Int}(ar:o.op=.binOp op t x y eS:=by exact rfl) (U:b6 l x=some (.int k a):=by exact rfl) (ai:b6 l y=some (.int k b):=by exact rfl) (ay:Nb a b op=some c:=by exact rfl) (hw:k.wrap c=cd:=by first|exact wrap_i64 (by omega) (by omega)|exact wrap_u8 (by omega) (by omega)|rfl):dm (bd Q g0) B o n ds l m J (.int k cd):=My ar U ai ay hw
theorem V.xf{op:BinOp}{t eS:TypeId}{x y:Operand}{k:IntKind}{a b:Int}{v:Value}(ar:o.op=.binOp op t x y eS:=by exact rfl) (U:b6 l x=some (.int k a):=by exact rfl) (ai:b6 l y=some (.int k b):=by exact rfl) (ay:Dz k a b op=some v:=by exact rfl) (ap:b≠0:=by first|decide|omega):dm (bd Q g0) B o n ds l m J (v):=Z5 ar U ai ay ap
theorem V.ou{v:Value}(h:dm (bd Q g0) B o n ds l m J v:=by first|exact apx rfl rfl|exact Z9 rfl rfl):dm (bd Q g0) B o n ds l m J (v):=h
theorem V.ex{x:Operand}{aW:Nat}{vs:Array Value}{v:Value}(ar:o.op=.extract x aW:=by exact rfl) (U:b6 l x=some (.tuple vs):=by exact rfl) (ay:nth vs.toList aW=some v:=by exact rfl):dm (bd Q g0) B o n ds l m J (v):=apj ar U ay
theorem V.bL{v:Value}(h:dm (bd Q g0) B o n ds l m J v:=by exact apt rfl rfl rfl rfl (aoR rfl)):dm (bd Q g0) B o n ds l m J (v):=h
theorem V.x2{v:Value}(h:dm (bd Q g0) B o n ds l m J v:=by exact aps rfl rfl rfl rfl (Mn rfl)):dm (bd Q g0) B o n ds l m J (v):=h
theorem V.aW{t:TypeId}{x aW:Operand}{a off len cap sz:Nat}{k:IntKind}{i:Int}(ar:o.op=.indexAddr t x aW:=by exact rfl) (U:b6 l x=some (.slice (some ⟨a,off,none⟩) len cap):=by exact rfl) (ao:b6 l aW=some (.int k i):=by exact rfl) (aB:DJ (bd Q g0).P t=some sz:=by exact aoQ rfl) (bw:0<=i:=by first|omega|(simp;omega)) (aa:i<len:=by first|omega|(simp;omega)):dm (bd Q g0) B o n ds l m J (.pointer (some ⟨a,off+i.toNat*sz,none⟩)):=apm ar U ao aB bw aa
theorem V.Lg{t elem:TypeId}{x aW:Operand}{a off len sz:Nat}{k:IntKind}{i:Int}(ar:o.op=.indexAddr t x aW:=by exact rfl) (U:b6 l x=some (.pointer (some ⟨a,off,none⟩)):=by exact rfl) (ao:b6 l aW=some (.int k i):=by exact rfl) (aB:AI (bd Q g0).P t=some (len,elem,sz):=by exact aoN rfl) (bw:0<=i:=by first|omega|(simp;omega)) (aa:i<len:=by first|omega|(simp;omega)):dm (bd Q g0) B o n ds l m J (.pointer (some ⟨a,off+i.toNat*sz,none⟩)):=apn ar U ao aB bw aa
theorem V.jl{v:Value}(h:dm (bd Q g0) B o n ds l m J v:=by exact aph rfl rfl (aoO rfl) rfl):dm (bd Q g0) B o n ds l m J (v):=h
theorem V.pb{v:Value}(h:dm (bd Q g0) B o n ds l m J v:=by exact apw rfl rfl):dm (bd Q g0) B o n ds l m J (v):=h
theorem V.gJ{v:Value}(h:dm (bd Q g0) B o n ds l m J v:=by exact api rfl rfl (aoP rfl rfl) (by first|exact wrap_i64 (by omega) (by omega)|exact wrap_u8 (by omega) (by omega)|rfl)):dm (bd Q g0) B o n ds l m J (v):=h
theorem V.fn{v:Value}(h:dm (bd Q g0) B o n ds l m J v:=by exact apk rfl rfl rfl):dm (bd Q g0) B o n ds l m J (v):=h
theorem V.Xa{v:Value}(h:dm (bd Q g0) B o n ds l m J v:=by exact apl rfl rfl (ZM rfl)):dm (bd Q g0) B o n ds l m J (v):=h
theorem V.BQ{t:TypeId}{x aW:Operand}{s:List UInt8}{k:IntKind}{i:Int}{b:UInt8}(ar:o.op=.index t x aW:=by exact rfl) (U:b6 l x=some (.string ⟨⟨s⟩⟩):=by exact rfl) (ao:b6 l aW=some (.int k i):=by exact rfl) (aB:sW (bd Q g0).P t=true:=by exact Mn rfl) (bw:0<=i:=by first|omega|(simp;omega)) (ap:s[i.toNat]?=some b:=by first|assumption|exact dj (by first|omega|(simp;omega))):dm (bd Q g0) B o n ds l m J (.int .u8 b.toNat):=apo ar U ao aB bw ap
section
variable {ops rest:List Oper}{bH:Option (List PanicEntry)->cf->aN->aH->Prop}
theorem I{v:Value}(ay:dm (bd Q g0) B o n ds l m J v)(h:W (bd Q g0) B ops rest ⟨n,ds,(d,v)::l⟩ m J bH)(aq:o.guard=none:=by exact rfl) (aV:o.dst=some d:=by exact rfl) (aP:Nat.blt d n=true:=by exact rfl):W (bd Q g0) B ops (o::rest) ⟨n,ds,l⟩ m J bH:=W.step aq (Exec.val aV aP ay h)
theorem aX{v:Value}{g:Nat}{want b:Bool}(ay:dm (bd Q g0) B o n ds l m J v)(h:W (bd Q g0) B ops rest ⟨n,ds,(d,v)::l⟩ m J bH)(aq:mY ops o=some (g,want):=by exact rfl) (ap:look l g=some (.bool b):=by exact rfl) (hw:(b==want)=true:=by exact rfl) (aV:o.dst=some d:=by exact rfl) (aP:Nat.blt d n=true:=by exact rfl):W (bd Q g0) B ops (o::rest) ⟨n,ds,l⟩ m J bH:=W.sH aq ap hw (Exec.val aV aP ay h)
theorem ah{e:Nat}{want b:Bool}(h:W (bd Q g0) B ops rest ⟨n,ds,(e,undef)::l⟩ m J bH)(aq:mY ops o=some (d,want):=by exact rfl) (ap:look l d=some (.bool b):=by exact rfl) (hw:(b==want)=false:=by exact rfl) (aV:o.dst=some e:=by exact rfl) (aP:Nat.blt e n=true:=by exact rfl):W (bd Q g0) B ops (o::rest) ⟨n,ds,l⟩ m J bH:=W.oU aq ap hw aV aP h
theorem oH{e:Nat}{want:Bool}(h:W (bd Q g0) B ops rest ⟨n,ds,(e,undef)::l⟩ m J bH)(aq:mY ops o=some (d,want):=by exact rfl) (ap:look l d=some undef:=by exact rfl) (aV:o.dst=some e:=by exact rfl) (aP:Nat.blt e n=true:=by exact rfl):W (bd Q g0) B ops (o::rest) ⟨n,ds,l⟩ m J bH:=W.agP aq ap aV aP h
theorem dC{t:TypeId}{x y:Operand}{a off k:Nat}{v:Value}{vs cells cells':List Value}{e:TypeId}(h:W (bd Q g0) B ops rest ⟨n,ds,l⟩ m' J bH)(aq:o.guard=none:=by exact rfl) (ar:o.op=.store t x y:=by exact rfl) (aV:o.dst=none:=by exact rfl) (U:b6 l x=some (.pointer (some ⟨a,off,none⟩)):=by exact rfl) (ai:b6 l y=some v:=by exact rfl) (aO:ef (bd Q g0).P t=some k:=by exact fQ rfl) (aC:v.cells.toList=vs:=by exact rfl) (av:Nat.beq vs.length k=true:=by exact rfl) (bw:Nat.blt 0 vs.length=true:=by exact rfl) (aa:vs.all eM=true:=by exact rfl) (au:cQ m a (.row cells e) (.row cells' e) m':=by repeat first|exact .head _ _ _ _|apply cQ.tail|apply cQ.app) (hs:gg off cells vs=some cells':=by exact rfl):W (bd Q g0) B ops (o::rest) ⟨n,ds,l⟩ m J bH:=W.step aq (.of (hy ar aV U ai aO aC av bw aa hs au h))
end
section
variable {ops:List Oper}{bc:List jF}{F:List (FuncId×List Value)}{i:Nat}{bH:cf->aN->aH->Prop}
theorem al{v:Value}(ao:nth ops i=some o)(ay:dm (bd Q g0) B o n ds l m J v)(h:a8 (bd Q g0) B ops bc F ⟨n,ds,(d,v)::l⟩ m J bH)(aq:o.guard=none:=by exact rfl) (aV:o.dst=some d:=by exact rfl) (aP:Nat.blt d n=true:=by exact rfl):a8 (bd Q g0) B ops (.val i::bc) F ⟨n,ds,l⟩ m J bH:=a8.val ao aq aV aP ay h
theorem FA{v:Value}(ao:nth ops i=some o)(ay:dm (bd Q g0) B o n ds l m J v)(h:a8 (bd Q g0) B ops bc F ⟨n,ds,(d,v)::l⟩ m J bH)(aq:o.guard=none:=by exact rfl) (aV:o.dst=some d:=by exact rfl) (aP:Nat.blt d n=true:=by exact rfl):a8 (bd Q g0) B ops (.bR i::bc) F ⟨n,ds,l⟩ m J bH:=a8.Ug ao aq aV aP ay h
theorem kn{t:TypeId}{x y:Operand}{a off k:Nat}{v:Value}{vs cells cells':List Value}{e:TypeId}(ao:nth ops i=some o)(h:a8 (bd Q g0) B ops bc F ⟨n,ds,l⟩ m' J bH)(aq:o.guard=none:=by exact rfl) (ar:o.op=.store t x y:=by exact rfl) (aV:o.dst=none:=by exact rfl) (U:b6 l x=some (.pointer (some ⟨a,off,none⟩)):=by exact rfl) (ai:b6 l y=some v:=by exact rfl) (aO:ef (bd Q g0).P t=some k:=by exact fQ rfl) (aC:v.cells.toList=vs:=by exact rfl) (av:Nat.beq vs.length k=true:=by exact rfl) (bw:Nat.blt 0 vs.length=true:=by exact rfl) (aa:vs.all eM=true:=by exact rfl) (au:cQ m a (.row cells e) (.row cells' e) m':=by repeat first|exact .head _ _ _ _|apply cQ.tail|apply cQ.app) (hs:gg off cells vs=some cells':=by exact rfl):a8 (bd Q g0) B ops (.bR i::bc) F ⟨n,ds,l⟩ m J bH:=a8.fP ao aq (hy ar aV U ai aO aC av bw aa hs au h)
end
section
variable {R:u2}{ops:List Oper}{bc:List jF}{i g:Nat}{want b:Bool}{bH:cf->aN->aH->Prop}
theorem dk{v:Value}(ao:nth ops i=some o)(ay:dm (bd Q g0) B o n ds l m J v)(h:dv (bd Q g0) B R ops bc ⟨n,ds,(d,v)::l⟩ m J bH)(aq:o.guard=none:=by exact rfl) (aV:o.dst=some d:=by exact rfl) (aP:Nat.blt d n=true:=by exact rfl):dv (bd Q g0) B R ops (.val i::bc) ⟨n,ds,l⟩ m J bH:=dv.val ao aq aV aP ay h
theorem df{v:Value}(ao:nth ops i=some o)(ay:dm (bd Q g0) B o n ds l m J v)(h:dv (bd Q g0) B R ops bc ⟨n,ds,(d,v)::l⟩ m J bH)(aq:mY ops o=some (g,want):=by exact rfl) (ap:look l g=some (.bool b):=by exact rfl) (hw:(b==want)=true:=by exact rfl) (aV:o.dst=some d:=by exact rfl) (aP:Nat.blt d n=true:=by exact rfl):dv (bd Q g0) B R ops (.val i::bc) ⟨n,ds,l⟩ m J bH:=dv.aag ao aq ap hw aV aP ay h
end
theorem MB{v u:Value}(h:j3 8 v u=true:=by first|rfl|exact aak _ _ _|exact aal (by assumption) _ _ _|(refine apF ?_;repeat first|exact apI|refine apH ?_ ?_|exact aak _ _ _|exact aal (by assumption) _ _ _)|simp[j3,addrEq]):j3 8 v u=true:=h
theorem fx{v:Value}(h:dm (bd Q g0) B o n ds l m J v:=by first|exact V.ag|exact V.az|exact V.ba|exact V.aG|exact V.c9|exact V.aW|exact V.aU|exact V.bt|exact V.aZ|exact V.ex|exact V.jl|exact V.ou|exact V.bt|exact V.xf|exact V.bL|exact V.x2|exact V.pb|exact V.gJ|exact V.fn|exact V.Xa|exact V.BQ|exact V.Lg):dm (bd Q g0) B o n ds l m J v:=h
theorem eX{ops:List Oper}{is:List Nat}(h:th (bd Q g0) B ops n ds l m J is:=by
 repeat first
  |exact trivial
  |exact Ao.val rfl rfl rfl fx rfl MB
  |refine⟨?_,?_⟩):th (bd Q g0) B ops n ds l m J is:=h
theorem a6{ops:List Oper}{E:cf}{bH:Option (List PanicEntry)->cf->aN->aH->Prop}(h:bH none E m J):W (bd Q g0) B ops [] E m J bH:=W.nil h
theorem rg{p q:Prop}(h:p)(mG:Hid p->q:=by
 intro pD;repeat refine ab.seq ?_
 refine ab.region ?_;exact pD.out):q:=mG ⟨h⟩
theorem aj{p q:Prop}(h:p)(mG:Hid p->q:=by
 intro pD;repeat refine ab.seq ?_
 exact pD.out):q:=mG ⟨h⟩
theorem bi{p q:Prop}(h:p)(mG:Hid p->q:=by
 intro pD;refine a6 ?_;repeat refine ab.seq ?_
 refine ab.region ?_;exact pD.out):q:=mG ⟨h⟩
theorem ns{p q:Prop}(h:p)(mG:Hid p->q:=by
 intro pD;refine a6 ?_;repeat refine ab.seq ?_
 exact pD.out):q:=mG ⟨h⟩
theorem c7{p q:Prop}(h:p)(mG:Hid p->q:=by
 intro pD;repeat refine ab.seq ?_
 refine ab.skip ?_;exact pD.out):q:=mG ⟨h⟩
theorem ln{p q:Prop}(h:p)(mG:Hid p->q:=by
 intro pD;repeat refine ab.seq ?_
 refine ab.skip ?_;repeat refine ab.seq ?_
 refine ab.region ?_;exact pD.out):q:=mG ⟨h⟩
structure q9 (t:Bool) (dH hH:Prop):Prop where
 y:t=true->dH
 n:t=false->hH
theorem q9.p(p:Prop)[Decidable p]:q9 (decide p) p (¬p):=⟨lV,of_decide_eq_false⟩
theorem q9.b(t:Bool):q9 t (t=true) (t=false):=⟨id,id⟩
theorem If{cX:Exit->cf->aN->aH->Prop}{x:Operand}{a b:Code}{t:Bool}{dH hH:Prop}(aa:dH->ab (bd Q g0) B a ⟨n,ds,l⟩ m J cX)(bw:hH->ab (bd Q g0) B b ⟨n,ds,l⟩ m J cX)(U:b6 l x=some (.bool t):=by exact rfl) (hs:q9 t dH hH:=by first|exact q9.p _|exact q9.b _):ab (bd Q g0) B (.cond x a b) ⟨n,ds,l⟩ m J cX:=ab.cond U (fun q=>aa (hs.y q)) (fun q=>bw (hs.n q))
theorem dr{ops rest:List Oper}{bH:Option (List PanicEntry)->cf->aN->aH->Prop}(d:Nat){b:Bool}{dH hH:Prop}(aa:dH->W (bd Q g0) B ops rest ⟨n,ds,(d,.bool true)::l⟩ m J bH)(bw:hH->W (bd Q g0) B ops rest ⟨n,ds,(d,.bool false)::l⟩ m J bH)(ap:look l d=some (.bool b):=by exact rfl) (hs:q9 b dH hH:=by first|exact q9.p _|exact q9.b _):W (bd Q g0) B ops rest ⟨n,ds,l⟩ m J bH:=W.split ap (fun q=>aa (hs.y q)) (fun q=>bw (hs.n q))
theorem ts{R:u2}{ops:List Oper}{bc:List jF}{bH:cf->aN->aH->Prop}(d:Nat){b:Bool}{dH hH:Prop}(aa:dH->dv (bd Q g0) B R ops bc ⟨n,ds,(d,.bool true)::l⟩ m J bH)(bw:hH->dv (bd Q g0) B R ops bc ⟨n,ds,(d,.bool false)::l⟩ m J bH)(ap:look l d=some (.bool b):=by exact rfl) (hs:q9 b dH hH:=by first|exact q9.p _|exact q9.b _):dv (bd Q g0) B R ops bc ⟨n,ds,l⟩ m J bH:=dv.split ap (fun q=>aa (hs.y q)) (fun q=>bw (hs.n q))
theorem Un{l:List (Nat×Value)}{t:Nat}{v:Value}(h:look l t=some v:=by first|exact rfl|exact iV rfl (by first|omega|(simp_all;done))|exact iT rfl (by first|omega|(simp_all;done))|exact iU rfl (by first|omega|(simp_all;done)|(simp_all;omega))|exact cD some (cD (Value.int .i64) (by omega))):look l t=some v:=h
theorem ce{p:Prop}(h:p:=by
 refine⟨⟨_,rfl,?_⟩,bu _,?_⟩
 ·repeat first|exact trivial|refine⟨Un,?_⟩
 ·first|exact rfl|exact aH.le.refl _|assumption):p:=h
def LY (l:List (Nat×Value)):List Nat->Option (List (Nat×Value))
 |[]=>some []
 |t::hh=>match look l t with
  |some v=>(match LY l hh with|some r=>some ((t,v)::r)|none=>none)
  |none=>none
theorem amP{l:List (Nat×Value)}:∀{hh:List Nat} {l':List (Nat×Value)},LY l hh=some l'->pY l l':=by
 intro hh;induction hh with
 |nil=>intro l' h;injection h with h;subst h;trivial
 |cons t hh aI=>
  intro l' h;unfold LY at h;split at h
  ·rename_i v ay;split at h
   ·rename_i r aw;injection h with h;subst h
    exact⟨ay,aI aw⟩
   ·cases h
  ·cases h
theorem fR{cX:Exit->cf->aN->aH->Prop}{c:Code}{l':List (Nat×Value)}(hh:List Nat)(h:ab (bd Q g0) B c ⟨n,ds,l'⟩ m J cX)(av:LY l hh=some l':=by exact rfl):ab (bd Q g0) B c ⟨n,ds,l⟩ m J cX:=ab.c0 (amP av) (bu _) h
section
variable {ops rest:List Oper}{bH:Option (List PanicEntry)->cf->aN->aH->Prop}{c:Call}{x:Operand}{f:FuncId}{first cap:Array Value}{args aM:List Value}{bf bM:aN}{eP:Value->aN->aH->Prop}
theorem cl(aq:o.guard=none:=by exact rfl) (ar:o.op=.call c:=by exact rfl) (aV:o.dst=some d:=by exact rfl) (aP:Nat.blt d n=true:=by exact rfl) (aC:c.callee=.value x:=by exact rfl) (U:b6 l x=some (.func (.func f) first cap):=by exact rfl) (a1:hY l c.args.toList=some args:=by exact rfl) (has:(first.toList++args)++cap.toList=aM:=by exact rfl) (au:(bf++bM).Perm m:=by exact .refl _) (G:Fn (bd Q g0) f aM bf J eP) (h:∀v m' af,J.le af->eP v m' af->W (bd Q g0) B ops rest ⟨n,ds,(d,v)::l⟩ (m'++bM) af bH):W (bd Q g0) B ops (o::rest) ⟨n,ds,l⟩ m J bH:=W.step aq (Exec.call ar aV aP aC U a1 has au trivial G h)
theorem ks{v:Value}(aq:o.guard=none:=by exact rfl) (ar:o.op=.call c:=by exact rfl) (aV:o.dst=some d:=by exact rfl) (aP:Nat.blt d n=true:=by exact rfl) (aC:c.callee=.value x:=by exact rfl) (U:b6 l x=some (.func (.func f) first cap):=by exact rfl) (a1:hY l c.args.toList=some args:=by exact rfl) (has:(first.toList++args)++cap.toList=aM:=by exact rfl) (G:Fn (bd Q g0) f aM [] J (fun w m' af=>w=v/\m'=[]/\af=J)) (h:W (bd Q g0) B ops rest ⟨n,ds,(d,v)::l⟩ m J bH):W (bd Q g0) B ops (o::rest) ⟨n,ds,l⟩ m J bH:=W.step aq (Exec.call ar aV aP aC U a1 has (.refl _) trivial G (fun v' m' af _ q=>by obtain⟨rfl,rfl,rfl⟩:=q;exact h))
theorem AN{g:Nat}{want b:Bool}(aq:mY ops o=some (g,want):=by exact rfl) (ap:look l g=some (.bool b):=by exact rfl) (hw:(b==want)=true:=by exact rfl) (ar:o.op=.call c:=by exact rfl) (aV:o.dst=some d:=by exact rfl) (aP:Nat.blt d n=true:=by exact rfl) (aC:c.callee=.value x:=by exact rfl) (U:b6 l x=some (.func (.func f) first cap):=by exact rfl) (a1:hY l c.args.toList=some args:=by exact rfl) (has:(first.toList++args)++cap.toList=aM:=by exact rfl) (au:(bf++bM).Perm m:=by exact .refl _) (G:Fn (bd Q g0) f aM bf J eP) (h:∀v m' af,J.le af->eP v m' af->W (bd Q g0) B ops rest ⟨n,ds,(d,v)::l⟩ (m'++bM) af bH):W (bd Q g0) B ops (o::rest) ⟨n,ds,l⟩ m J bH:=W.sH aq ap hw (Exec.call ar aV aP aC U a1 has au trivial G h)
end
section
variable {ops:List Oper}{bc:List jF}{F:List (FuncId×List Value)}{i:Nat}{bH:cf->aN->aH->Prop}{c:Call}{x:Operand}{f:FuncId}{first cap:Array Value}{args aM:List Value}{bf bM:aN}{eP:Value->aN->aH->Prop}
theorem dl(ao:nth ops i=some o)(aq:o.guard=none:=by exact rfl) (ar:o.op=.call c:=by exact rfl) (aV:o.dst=some d:=by exact rfl) (aP:Nat.blt d n=true:=by exact rfl) (aC:c.callee=.value x:=by exact rfl) (U:b6 l x=some (.func (.func f) first cap):=by exact rfl) (a1:hY l c.args.toList=some args:=by exact rfl) (has:(first.toList++args)++cap.toList=aM:=by exact rfl) (aD:F.all (fun g=>!Nat.beq g.1 f)=true:=by exact rfl) (au:(bf++bM).Perm m:=by exact .refl _) (G:Fn (bd Q g0) f aM bf J eP) (h:∀v m' af,J.le af->eP v m' af->a8 (bd Q g0) B ops bc ((f,aM)::F) ⟨n,ds,(d,v)::l⟩ (m'++bM) af bH):a8 (bd Q g0) B ops (.bR i::bc) F ⟨n,ds,l⟩ m J bH:=a8.call ao aq ar aV aP aC U a1 has aD au trivial G h
end
theorem Co{E:cf}{t:Tmp}{eS:TypeId}{a:Nat}{cells:List Value}{e:TypeId}{v:Value}{nr:List ResultVar}{vs:List Value}(aw:pq (bd Q g0).P E m J nr vs)(aa:look E.l t=some (.pointer (some ⟨a,0,none⟩)):=by exact rfl) (ae:(a,cC.row cells e)∈m:=by repeat first|exact .head _|refine .tail _ ?_|refine hT _ ?_) (aF:mX (bd Q g0).P eS cells 0=some v:=by first|exact mm (eW rfl) rfl|exact ho (eW rfl) rfl):pq (bd Q g0).P E m J (.cell t eS::nr) (v::vs):=.cell aa ae aF aw
theorem c5{e:Exit}{E:cf}{nr:List ResultVar}{vs:List Value}{SW:List Value->aN->Prop}(au:SW vs m')(he:e=.normal\/e=.ret:=by first|exact .inl rfl|exact .inr rfl) (aV:E.ds.ds=[]:=by exact rfl) (aw:pq (bd Q g0).P E m J nr vs:=by first|exact .tmp rfl .nil|exact .tmp rfl (.tmp rfl .nil)|exact .nil|exact Co .nil|exact Co (Co .nil)|exact .tmp rfl (.tmp rfl (.tmp rfl .nil))|exact Co (Co (Co .nil))) (hs:m'.Sublist m:=by first|exact h5 _|exact bu _):(e=.normal\/e=.ret)/\E.ds.ds=[]/\∃vs m',pq (bd Q g0).P E m J nr vs/\m'.Sublist m/\SW vs m':=⟨he,aV,vs,m',aw,hs,au⟩
end
end
theorem bP{p:Prop}(h:p:=by first|rfl|exact cD some (cD (Value.int .i64) (by omega))):p:=h
theorem cc{p:Prop}(h:p:=by first|omega|(simp;omega)|(simp only;omega)):p:=h
theorem hR{p:Prop}(h:p:=by first|exact hL.rd (by assumption)|exact mR.str|exact mR.own (by repeat first|exact .head _|refine .tail _ ?_|refine hT _ ?_) rfl):p:=h
theorem qr{p:Prop}(h:p:=by first|exact .own (by repeat first|exact .head _|refine .tail _ ?_|refine hT _ ?_)|exact .fw (by assumption)|exact .opn (by repeat first|exact .head _|refine .tail _ ?_|refine hT _ ?_)):p:=h
theorem s'{p:Prop}(h:p:=by first|exact Sz _|exact EZ|exact LX|exact Rf):p:=h
section
variable {Q:dD k3}{g0:Nat}
section
variable {B:dV}{o:Oper}{n:Nat}{ds:e7}{l:List (Nat×Value)}{m:aN}{J:aH}{d:Nat}
section
variable {ops rest:List Oper}{bH:Option (List PanicEntry)->cf->aN->aH->Prop}
theorem dK{t:TypeId}{x:Operand}{v:Value}{cells:List Value}(h:∀a,W (bd Q g0) B ops rest ⟨n,ds,(d,.pointer (some ⟨a,0,none⟩))::l⟩ ((a,.row cells t)::m) J bH)(aq:o.guard=none:=by exact rfl) (ar:o.op=.box t x:=by exact rfl) (aV:o.dst=some d:=by exact rfl) (aP:Nat.blt d n=true:=by exact rfl) (U:b6 l x=some v:=by exact rfl) (aC:v.cells.toList=cells:=by exact rfl) (aa:cells.all eM=true:=by exact rfl):W (bd Q g0) B ops (o::rest) ⟨n,ds,l⟩ m J bH:=W.step aq (.of (aqe ar aV aP U aC aa h))
theorem jK{t e:TypeId}{k sz:Nat}{gi cells:List Value}{ew:Array (Nat×Operand)}{vs:List (Nat×Value)}(aB:j2 (bd Q g0).P t=some (e,sz,gi))(h:∀a,W (bd Q g0) B ops rest ⟨n,ds,(d,.slice (some ⟨a,0,none⟩) k k)::l⟩ ((a,.row cells e)::m) J bH)(aq:o.guard=none:=by exact rfl) (ar:o.op=.buildSlice t k ew:=by exact rfl) (aV:o.dst=some d:=by exact rfl) (aP:Nat.blt d n=true:=by exact rfl) (au:tK l ew.toList=some vs:=by exact rfl) (aO:(Nat.ble k 100000&&Nat.ble (k*sz) 100000)=true:=by exact rfl) (aD:nK (fun i=>some (i*sz,sz)) (gG gi k) vs=some cells:=by exact rfl) (aa:cells.all eM=true:=by exact rfl):W (bd Q g0) B ops (o::rest) ⟨n,ds,l⟩ m J bH:=W.step aq (.of (aqf ar aV aP au aB aO aD aa h))
end
section
variable {R:u2}{ops:List Oper}{bc:List jF}{i g:Nat}{want b:Bool}{bH:cf->aN->aH->Prop}
theorem cg(ao:nth ops i=some o)(h:dv (bd Q g0) B R ops bc ⟨n,ds,(d,undef)::l⟩ m J bH)(aq:mY ops o=some (g,want):=by exact rfl) (ap:look l g=some (.bool b):=by exact rfl) (hw:(b==want)=false:=by exact rfl) (aV:o.dst=some d:=by exact rfl) (aP:Nat.blt d n=true:=by exact rfl):dv (bd Q g0) B R ops (.val i::bc) ⟨n,ds,l⟩ m J bH:=dv.aaf ao aq ap hw aV aP h
end
end
end
structure Sx where
 d:List (Nat×Value)
 m:aN
 j:aH
 i:Prop
 k:Nat
section
variable {K:eE}{B:dV}{cX:Exit->cf->aN->aH->Prop}{n:Nat}{ds:e7}
theorem ab.dF{α:Type}{c:Code}{base:List (Nat×Value)}(r:α->Sx)(s:α)(hs:(r s).i)
 (bA:∀s,(r s).i->ab K B c ⟨n,ds,(r s).d++base⟩ (r s).m (r s).j fun e E m J=>match e with
  |.normal=>∃c4 l,(r c4).i/\(r c4).k<(r s).k/\E=⟨n,ds,l⟩/\pY l ((r c4).d++base)/\((r c4).m).Sublist m/\J=(r c4).j
  |e=>cX e E m J):ab K B (.loop c) ⟨n,ds,(r s).d++base⟩ (r s).m (r s).j cX:=
 ab.akY (fun s=>(r s).d) (fun s=>(r s).m) (fun s=>(r s).j) (fun s=>(r s).i) (fun s=>(r s).k) s hs bA
theorem cB{α:Type}{r:α->Sx}{base l:List (Nat×Value)}{hv:Nat}{m:aN}{J:aH}(c4:α)(ao:(r c4).i)(hm:((r c4).m).Sublist m:=by exact .refl _) (a':J=(r c4).j:=by exact rfl) (aO:(r c4).k<hv:=by first|omega|(simp;omega)|(simp only;omega)) (av:pY l ((r c4).d++base):=by repeat first|exact trivial|refine⟨by first|rfl|exact cD some (cD (Value.int .i64) (by omega)),?_⟩):∃c4 l',(r c4).i/\(r c4).k<hv/\(⟨n,ds,l⟩:cf)=⟨n,ds,l'⟩/\pY l' ((r c4).d++base)/\((r c4).m).Sublist m/\J=(r c4).j:=⟨c4,l,ao,aO,rfl,av,hm,a'⟩
end
theorem aM{p q:Prop}(h:p)(mG:Hid p->q:=by
 intro pD;repeat first
  |refine I V.ag ?_
  |refine I V.ba ?_
  |refine I V.az ?_
  |refine I V.pb ?_
  |refine I V.bL ?_
  |refine I V.ex ?_
  |refine I V.jl ?_
  |refine I V.fn ?_
  |refine I V.x2 ?_
 exact pD.out):q:=mG ⟨h⟩
theorem cq{p q:Prop}(h:p)(mG:Hid p->q:=by
 intro pD;repeat first
  |refine al rfl V.ag ?_
  |refine al rfl V.ba ?_
  |refine al rfl V.az ?_
  |refine al rfl V.pb ?_
  |refine al rfl V.bL ?_
  |refine al rfl V.ex ?_
  |refine al rfl V.jl ?_
  |refine al rfl V.fn ?_
  |refine al rfl V.x2 ?_
 exact pD.out):q:=mG ⟨h⟩
end
end Go.Opn
namespace Go.Opn
noncomputable section
open Go.Cre Go.RowKit
theorem N7{α:Type}:∀{l:List (List α)} {j:Nat} {m:List α},l[j]?=some m->l.flatten.Perm (m++(l.eraseIdx j).flatten):=by
 intro l;induction l with
 |nil=>intro j m h;cases h
 |cons x r aI=>
  intro j m h;cases j with
  |zero=>simp at h;subst h;exact .refl _
  |succ j=>
   have:=aI (j:=j) (m:=m) (by simpa using h);show(x++r.flatten).Perm (m++(x++(r.eraseIdx j).flatten));refine(this.append_left x).trans ?_;rw[<-gw,<-gw];exact(hU).append_right _
theorem Kw{α:Type}{l:List (List α)}{j:Nat}{m:List α}(h:j<l.length):(l.set j m).flatten.Perm (m++(l.eraseIdx j).flatten):=by
 have aa:(l.set j m)[j]?=some m:=by rw[kJ];simp[h]
 have ae:=N7 aa;rwa [List.eraseIdx_set_eq] at ae
structure qR (e:TypeId) (gX:List (List Int)) (vs:List Value) (h3:List aN):Prop where
 lv:vs.length=gX.length
 zD:h3.length=gX.length
 at_:∀(j:Nat) (s:List Int) (v:Value) (m:aN),gX[j]?=some s->vs[j]?=some v->h3[j]?=some m->Acc e 1 v s.length (s.map (Value.int .i64)) m
theorem qR.init{e:TypeId}(n:Nat):qR e (List.replicate n []) (List.replicate n (.slice none 0 0)) (List.replicate n []):=by
 refine⟨by simp,by simp,fun j s v m aa ae aF=>?_⟩;rw[C1] at aa ae aF;split at aa
 ·rename_i q;rw[aE q] at ae aF;injection aa with aa;injection ae with ae;injection aF with aF
  subst aa;subst ae;subst aF;exact .nil
 ·cases aa
theorem U4{α:Type}{n:Nat}:(List.replicate n ([]:List α)).flatten=[]:=by simp
theorem qR.get{e:TypeId}{gX:List (List Int)}{vs:List Value}{h3:List aN}(h:qR e gX vs h3){j:Nat}{s:List Int}(hs:gX[j]?=some s):∃v m,vs[j]?=some v/\h3[j]?=some m/\Acc e 1 v s.length (s.map (Value.int .i64)) m:=by
 have a':j<gX.length:=(dY.1 hs).1;have aa:=dj (l:=vs) (i:=j) (by rw[h.lv];exact a');have ae:=dj (l:=h3) (i:=j) (by rw[h.zD];exact a');exact⟨_,_,aa,ae,h.at_ j s _ _ hs aa ae⟩
theorem qR.set{e:TypeId}{gX:List (List Int)}{vs:List Value}{h3:List aN}(h:qR e gX vs h3){j:Nat}{s:List Int}{v:Value}{m:aN}(a1:Acc e 1 v s.length (s.map (Value.int .i64)) m):qR e (gX.set j s) (vs.set j v) (h3.set j m):=by
 refine⟨by simp[h.lv],by simp[h.zD],fun i c4 v' m' aa ae aF=>?_⟩;rw[kJ] at aa ae aF;split at aa
 ·rename_i q;subst q;rw[aE rfl] at ae aF;split at aa
  ·rename_i a7;rw[aE (by rw[h.lv];exact a7)] at ae;rw[aE (by rw[h.zD];exact a7)] at aF;injection aa with aa;injection ae with ae;injection aF with aF
   subst aa;subst ae;subst aF;exact a1
  ·cases aa
 ·rename_i q;rw[an q] at ae aF;exact h.at_ i c4 v' m' aa ae aF
theorem Da{α:Type}{x y z:α}{sE aY E R:List α}(h:sE.Perm (aY++E)):(x::y::z::(sE++R)).Perm (aY++x::y::z::(E++R)):=by
 refine(((((h.append_right R).cons z).cons y).cons x)).trans ?_;rw[gw];exact Rf
section
variable {K:eE}{B:dV}{E:cf}{m m0:aN}{J:aH}{cX:Exit->cf->aN->aH->Prop}
theorem ab.YM{c:Code}{e:TypeId}:∀{h3:List aN} {gX:List (List Int)} {vs:List Value} {m m0:aN} {J:aH},qR e gX vs h3->m.Perm (h3.flatten++m0)->
 (∀af,J.le af->(∀(j:Nat) (s:List Int) (v:Value),gX[j]?=some s->vs[j]?=some v->hL af e 1 v s.length (s.map (Value.int .i64)))->ab K B c E m0 af cX)->ab K B c E m J cX:=by
 intro h3;induction h3 with
 |nil=>
  intro gX vs m m0 J h hm aO;refine ab.gN hm.symm (aO J (aH.le.refl _) fun j s v hs ay=>?_);have:gX=[]:=q5.1 h.zD.symm;subst this;cases hs
 |cons aY r aI=>
  intro gX vs m m0 J h hm aO;cases gX with
  |nil=>have:=h.zD;cases this
  |cons s gX=>
   cases vs with
   |nil=>have:=h.lv;cases this
   |cons v vs=>
    have a1:=h.at_ 0 s v aY rfl rfl rfl;have aw:qR e gX vs r:=⟨by simpa using h.lv,by simpa using h.zD,fun j c4 v' m' aa ae aF=>h.at_ (j+1) c4 v' m' (by simpa using aa) (by simpa using ae) (by simpa using aF)⟩;refine a1.hQ (m0:=r.flatten++m0) (by rw[<-gw];exact hm) fun dO ch lj=>?_;refine aI aw (.refl _) fun e2 cF bx=>?_;refine aO e2 (ch.trans cF) fun j c4 v' aa ae=>?_;cases j with
    |zero=>simp at aa ae;subst aa;subst ae;exact lj.mono cF
    |succ j=>exact bx j c4 v' (by simpa using aa) (by simpa using ae)
end
def jW(J:aH)(s:List Int)(cs:List Value):Prop:=∃b c,cs=[.slice b s.length c]/\dI J (.slice b s.length c) s
theorem jW.mono{J af:aH}(hle:J.le af){s:List Int}{cs:List Value}(h:jW J s cs):jW af s cs:=by
 obtain⟨b,c,aa,ae⟩:=h;exact⟨b,c,aa,ae.mono hle⟩
theorem UG{J:aH}{e UK:TypeId}{a:Nat}{gX:List (List Int)}{vs:List Value}(h:J a=some (vs,e))(av:vs.length=gX.length)(aC:gX.length<cZ)(bx:∀(j:Nat) (s:List Int) (v:Value),gX[j]?=some s->vs[j]?=some v->hL J UK 1 v s.length (s.map (Value.int .i64))):fc J e 1 (jW J) (.slice (some ⟨a,0,none⟩) gX.length gX.length) gX:=by
 refine⟨vs,.row h (by rw[mr,eo (by omega)]) (by omega) (fun _=>⟨cW _,aC⟩) (fun _=>rfl),fun i s hs=>?_⟩;have ao:i<vs.length:=by rw[av];exact(dY.1 hs).1
 have ay:=dj ao;have aa:=bx i s _ hs ay;obtain⟨b,c,ae,_⟩:=aa.inv;rw[yE,ny ao,JO,JP,ae];rw[ae] at aa;exact⟨b,c,rfl,UK,aa⟩
end
end Go.Opn

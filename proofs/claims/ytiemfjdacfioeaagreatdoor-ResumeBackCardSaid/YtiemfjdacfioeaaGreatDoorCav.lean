/- A part of the proof of ResumeBack. -/
import Derived.Test.YtiemfjdacfioeaaGreatDoorCat
import Derived.Test.YtiemfjdacfioeaaGreatDoorCau
set_option maxRecDepth 100000
set_option linter.unusedVariables false
set_option linter.unusedSimpArgs false
namespace Go.Opn
noncomputable section
open Go.Cre Go.RowKit Go.Proofs
section
variable {Q:dI kk}{g0:Nat}
theorem zz{α β:Type}{f:Nat->Option β}{g:α->β}:∀{L:List (Nat×α)},L.map (fun x=>f x.1)=L.map (fun x=>some (g x.2))->∀{t:Nat} {r:α},uo L t=some r->f t=some (g r):=by
 intro L;induction L with
 |nil=>intro _ t r h;cases h
 |cons x L aK=>
  obtain⟨u,v⟩:=x;intro h t r ay;rw[nR,nR,List.cons.injEq] at h;simp only[uo] at ay;cases au:Nat.beq t u with
  |true=>
   rw[au,cb] at ay;injection ay with ay;subst ay
   obtain rfl:=eN au;exact h.1
  |false=>rw[au,dZ] at ay;exact aK h.2 ay
theorem Qe{f:Nat->Bool}:∀{L:List Nat},L.all f=true->∀{t:Nat},Et t L=true->f t=true:=by
 intro L;induction L with
 |nil=>intro _ t h;cases h
 |cons u L aK=>
  intro h t aD;rw[r1,fU] at h;simp only[Et] at aD;cases au:Nat.beq t u with
  |true=>obtain rfl:=eN au;exact h.1
  |false=>rw[au,dZ] at aD;exact aK h.2 aD
theorem eV{t:Nat}{r:Option Nat}(h:uo MF t=some r):r6 (bb Q g0).P t=some r:=zz (f:=fun t=>r6 kk t) (g:=id) aaZ h
theorem fY{t:Nat}{r:Nat}(h:uo Rn t=some r):ej (bb Q g0).P t=some r:=zz (f:=fun t=>ej kk t) (g:=id) an7 h
theorem Zj{t f:Nat}{r:Nat}(h:uo NM (t*100+f)=some r)(aC:Nat.blt f 100=true):DD (bb Q g0).P t f=some r:=by
 have:=zz (f:=fun k=>DD kk (k / 100) (k % 100)) (g:=id) ae0 h;have aC:f<100:=by simpa[Nat.blt,tc] using aC
 rwa [show(t*100+f) / 100=t by omega,show(t*100+f) % 100=f by omega] at this
theorem Zk{t f:Nat}{r:Nat×Nat}(h:uo NP (t*100+f)=some r)(aC:Nat.blt f 100=true):GB (bb Q g0).P t f=some r:=by
 have:=zz (f:=fun k=>GB kk (k / 100) (k % 100)) (g:=id) ae8 h;have aC:f<100:=by simpa[Nat.blt,tc] using aC
 rwa [show(t*100+f) / 100=t by omega,show(t*100+f) % 100=f by omega] at this
theorem an9{t:Nat}{r:Nat×Nat×Nat}(h:uo ML t=some r):AA (bb Q g0).P t=some r:=zz (f:=fun t=>AA kk t) (g:=id) abb h
theorem aob{t:Nat}{r:Nat}(h:uo Nz t=some r):Dt (bb Q g0).P t=some r:=zz (f:=fun t=>Dt kk t) (g:=id) ad' h
theorem Zl{t:Nat}(h:Et t WN=true):isSlice (bb Q g0).P t=true:=Qe (f:=fun t=>isSlice kk t) isOk h
theorem L2{t:Nat}(h:Et t WQ=true):sJ (bb Q g0).P t=true:=Qe (f:=fun t=>sJ kk t) ajZ h
theorem aoc{t:Nat}(h:Et t Xv=true):Io (bb Q g0).P t=true:=Qe (f:=fun t=>Io kk t) akR h
theorem an'{t:Nat}{r:Sum (List (Nat×Nat)) Nat×List Value}(h:uo MR t=some r):F3 (bb Q g0).P t=some r:=zz (f:=fun t=>F3 kk t) (g:=id) aby h
theorem aoa{s t:Nat}{r:IntKind}(h:uo Nl (s*10000+t)=some r)(aC:Nat.blt t 10000=true):isInt (bb Q g0).P s t=some r:=by
 have:=zz (f:=fun k=>isInt kk (k / 10000) (k % 10000)) (g:=id) ac5 h;have aC:t<10000:=by simpa[Nat.blt,tc] using aC
 rwa [show(s*10000+t) / 10000=s by omega,show(s*10000+t) % 10000=t by omega] at this
structure Hid (p:Prop):Prop where
 out:p
section
variable {B:ea}{o:Oper}{n:Nat}{ds:e7}{l:List (Nat×Value)}{m m':aO}{J:aI}{d:Nat}
theorem YA{a:Nat}{cells:List Value}(h:ij m J a cells:=by first|exact .own (by repeat first|exact .head _|refine .tail _ ?_|refine h2 _ ?_)|exact .fz (by assumption)|exact .opn (by repeat first|exact .head _|refine .tail _ ?_|refine h2 _ ?_)):ij m J a cells:=h
theorem V.ah{x:Operand}{v:Value}(ar:o.op=.move x:=by exact rfl) (U:b7 l x=some v:=by exact rfl):cV (bb Q g0) B o n ds l m J (v):=aoJ ar U
theorem V.aA{x:Operand}{v:Value}(ar:o.op=.assign x:=by exact rfl) (U:b7 l x=some v:=by exact rfl):cV (bb Q g0) B o n ds l m J (v):=aov ar U
theorem V.bc{s:TypeId}{x:Operand}{f a off k:Nat}(ar:o.op=.fieldAddr s x f:=by exact rfl) (U:b7 l x=some (.pointer (some ⟨a,off,none⟩)):=by exact rfl) (aC:DD (bb Q g0).P s f=some k:=by exact Zj rfl rfl):cV (bb Q g0) B o n ds l m J (.pointer (some ⟨a,off+k,none⟩)):=ZG ar U aC
theorem V.aF{t:TypeId}{x:Operand}{a off:Nat}{cells:List Value}{v:Value}(ar:o.op=.load t x:=by exact rfl) (U:b7 l x=some (.pointer (some ⟨a,off,none⟩)):=by exact rfl) (ay:ij m J a cells:=by exact YA) (az:mo (bb Q g0).P t cells off=some v:=by exact hp (eV rfl) (by first|rfl|assumption)):cV (bb Q g0) B o n ds l m J (v):=gY ar U ay az
theorem V.c8{t:TypeId}{x:Operand}{a off:Nat}{cells:List Value}{v:Value}(ar:o.op=.load t x:=by exact rfl) (U:b7 l x=some (.pointer (some ⟨a,off,none⟩)):=by exact rfl) (ay:ij m J a cells:=by exact YA) (az:mo (bb Q g0).P t cells off=some v:=by exact l8 (eV rfl) (by first|rfl|assumption)):cV (bb Q g0) B o n ds l m J (v):=gY ar U ay az
theorem V.aV{c x y:Operand}{t:Bool}{v:Value}(ar:o.op=.pick c x y:=by exact rfl) (aH:b7 l c=some (.bool t):=by exact rfl) (az:(if t=true then b7 l x else b7 l y)=some v:=by exact rfl):cV (bb Q g0) B o n ds l m J (v):=aoN ar aH az
theorem V.a1{op:BinOp}{t eD:TypeId}{x y:Operand}{k:IntKind}{a b:Int}{v:Value}(ar:o.op=.binOp op t x y eD:=by exact rfl) (U:b7 l x=some (.int k a):=by exact rfl) (ai:b7 l y=some (.int k b):=by exact rfl) (az:MN k a b op=some v:=by exact rfl):cV (bb Q g0) B o n ds l m J (v):=ZH ar U ai az
theorem V.bx{op:BinOp}{t eD:TypeId}{x y:Operand}{k:IntKind}{a b c ch:Int}(ar:o.op=.binOp op t x y eD:=by exact rfl) (U:b7 l x=some (.int k a):=by exact rfl) (ai:b7 l y=some (.int k b):=by exact rfl) (az:MK a b op=some c:=by exact rfl) (hw:k.wrap c=ch:=by first|exact wrap_i64 (by omega) (by omega)|exact wrap_u8 (by omega) (by omega)|rfl):cV (bb Q g0) B o n ds l m J (.int k ch):=Rx ar U ai az hw
theorem V.w1{op:BinOp}{t eD:TypeId}{x y:Operand}{k:IntKind}{a b:Int}{v:Value}(ar:o.op=.binOp op t x y eD:=by exact rfl) (U:b7 l x=some (.int k a):=by exact rfl) (ai:b7 l y=some (.int k b):=by exact rfl) (az:Dl k a b op=some v:=by exact rfl) (au:b≠0:=by first|decide|omega):cV (bb Q g0) B o n ds l m J (v):=ZE ar U ai az au
theorem V.oe{v:Value}(h:cV (bb Q g0) B o n ds l m J v:=by first|exact aoL rfl rfl|exact ZK rfl rfl):cV (bb Q g0) B o n ds l m J (v):=h
theorem V.YQ{v:Value}(h:cV (bb Q g0) B o n ds l m J v:=by exact ZO rfl rfl rfl (.inl ⟨rfl,rfl⟩)):cV (bb Q g0) B o n ds l m J (v):=h
theorem V.dM{v:Value}(h:cV (bb Q g0) B o n ds l m J v:=by exact ZO rfl rfl rfl (.inr ⟨rfl,rfl⟩)):cV (bb Q g0) B o n ds l m J (v):=h
theorem V.ex{x:Operand}{aX:Nat}{vs:Array Value}{v:Value}(ar:o.op=.extract x aX:=by exact rfl) (U:b7 l x=some (.tuple vs):=by exact rfl) (az:nth vs.toList aX=some v:=by exact rfl):cV (bb Q g0) B o n ds l m J (v):=aoz ar U az
theorem V.bP{v:Value}(h:cV (bb Q g0) B o n ds l m J v:=by exact aoH rfl rfl rfl rfl (Zl rfl)):cV (bb Q g0) B o n ds l m J (v):=h
theorem V.zy{v:Value}(h:cV (bb Q g0) B o n ds l m J v:=by exact aoG rfl rfl rfl rfl (L2 rfl)):cV (bb Q g0) B o n ds l m J (v):=h
theorem V.aX{t:TypeId}{x aX:Operand}{a off len cap sz:Nat}{k:IntKind}{i:Int}(ar:o.op=.indexAddr t x aX:=by exact rfl) (U:b7 l x=some (.slice (some ⟨a,off,none⟩) len cap):=by exact rfl) (ao:b7 l aX=some (.int k i):=by exact rfl) (aD:Dt (bb Q g0).P t=some sz:=by exact aob rfl) (bD:0<=i:=by first|omega|(simp;omega)) (aa:i<len:=by first|omega|(simp;omega)):cV (bb Q g0) B o n ds l m J (.pointer (some ⟨a,off+i.toNat*sz,none⟩)):=aoC ar U ao aD bD aa
theorem V.KZ{t elem:TypeId}{x aX:Operand}{a off len sz:Nat}{k:IntKind}{i:Int}(ar:o.op=.indexAddr t x aX:=by exact rfl) (U:b7 l x=some (.pointer (some ⟨a,off,none⟩)):=by exact rfl) (ao:b7 l aX=some (.int k i):=by exact rfl) (aD:AA (bb Q g0).P t=some (len,elem,sz):=by exact an9 rfl) (bD:0<=i:=by first|omega|(simp;omega)) (aa:i<len:=by first|omega|(simp;omega)):cV (bb Q g0) B o n ds l m J (.pointer (some ⟨a,off+i.toNat*sz,none⟩)):=aoD ar U ao aD bD aa
theorem V.jL{v:Value}(h:cV (bb Q g0) B o n ds l m J v:=by exact aox rfl rfl (an' rfl) rfl):cV (bb Q g0) B o n ds l m J (v):=h
theorem V.o2{v:Value}(h:cV (bb Q g0) B o n ds l m J v:=by exact aoK rfl rfl):cV (bb Q g0) B o n ds l m J (v):=h
theorem V.fd{v:Value}(h:cV (bb Q g0) B o n ds l m J v:=by exact ZF rfl rfl (Zk rfl rfl) (hp (eV rfl) rfl)):cV (bb Q g0) B o n ds l m J (v):=h
theorem V.aeK{v:Value}(h:cV (bb Q g0) B o n ds l m J v:=by exact ZF rfl rfl (Zk rfl rfl) (l8 (eV rfl) rfl)):cV (bb Q g0) B o n ds l m J (v):=h
theorem V.gJ{v:Value}(h:cV (bb Q g0) B o n ds l m J v:=by exact aoy rfl rfl (aoa rfl rfl) (by first|exact wrap_i64 (by omega) (by omega)|exact wrap_u8 (by omega) (by omega)|rfl)):cV (bb Q g0) B o n ds l m J (v):=h
theorem V.fn{v:Value}(h:cV (bb Q g0) B o n ds l m J v:=by exact aoA rfl rfl rfl):cV (bb Q g0) B o n ds l m J (v):=h
theorem V.ajH{v:Value}(h:cV (bb Q g0) B o n ds l m J v:=by exact aoB rfl rfl (aoc rfl)):cV (bb Q g0) B o n ds l m J (v):=h
theorem V.BF{t:TypeId}{x aX:Operand}{s:List UInt8}{k:IntKind}{i:Int}{b:UInt8}(ar:o.op=.index t x aX:=by exact rfl) (U:b7 l x=some (.string ⟨⟨s⟩⟩):=by exact rfl) (ao:b7 l aX=some (.int k i):=by exact rfl) (aD:sJ (bb Q g0).P t=true:=by exact L2 rfl) (bD:0<=i:=by first|omega|(simp;omega)) (au:s[i.toNat]?=some b:=by first|assumption|exact de (by first|omega|(simp;omega))):cV (bb Q g0) B o n ds l m J (.int .u8 b.toNat):=aoE ar U ao aD bD au
theorem V.ank{v:Value}(h:cV (bb Q g0) B o n ds l m J v:=by exact aoQ (op:=.eql) rfl rfl rfl (Zl rfl)):cV (bb Q g0) B o n ds l m J (v):=h
section
variable {ops rest:List Oper}{bL:Option (List PanicEntry)->cn->aO->aI->Prop}
theorem I{v:Value}(az:cV (bb Q g0) B o n ds l m J v)(h:W (bb Q g0) B ops rest ⟨n,ds,(d,v)::l⟩ m J bL)(aq:o.guard=none:=by exact rfl) (aZ:o.dst=some d:=by exact rfl) (aP:Nat.blt d n=true:=by exact rfl):W (bb Q g0) B ops (o::rest) ⟨n,ds,l⟩ m J bL:=W.step aq (Exec.val aZ aP az h)
theorem aW{v:Value}{g:Nat}{want b:Bool}(az:cV (bb Q g0) B o n ds l m J v)(h:W (bb Q g0) B ops rest ⟨n,ds,(d,v)::l⟩ m J bL)(aq:mr ops o=some (g,want):=by exact rfl) (au:look l g=some (.bool b):=by exact rfl) (hw:(b==want)=true:=by exact rfl) (aZ:o.dst=some d:=by exact rfl) (aP:Nat.blt d n=true:=by exact rfl):W (bb Q g0) B ops (o::rest) ⟨n,ds,l⟩ m J bL:=W.rb aq au hw (Exec.val aZ aP az h)
theorem al{e:Nat}{want b:Bool}(h:W (bb Q g0) B ops rest ⟨n,ds,(e,undef)::l⟩ m J bL)(aq:mr ops o=some (d,want):=by exact rfl) (au:look l d=some (.bool b):=by exact rfl) (hw:(b==want)=false:=by exact rfl) (aZ:o.dst=some e:=by exact rfl) (aP:Nat.blt e n=true:=by exact rfl):W (bb Q g0) B ops (o::rest) ⟨n,ds,l⟩ m J bL:=W.oL aq au hw aZ aP h
theorem Sz{e:Nat}{want:Bool}(h:W (bb Q g0) B ops rest ⟨n,ds,(e,undef)::l⟩ m J bL)(aq:mr ops o=some (d,want):=by exact rfl) (au:look l d=some undef:=by exact rfl) (aZ:o.dst=some e:=by exact rfl) (aP:Nat.blt e n=true:=by exact rfl):W (bb Q g0) B ops (o::rest) ⟨n,ds,l⟩ m J bL:=W.agf aq au aZ aP h
theorem dN{t:TypeId}{x y:Operand}{a off k:Nat}{v:Value}{vs cells cells':List Value}{e:TypeId}(h:W (bb Q g0) B ops rest ⟨n,ds,l⟩ m' J bL)(aq:o.guard=none:=by exact rfl) (ar:o.op=.store t x y:=by exact rfl) (aZ:o.dst=none:=by exact rfl) (U:b7 l x=some (.pointer (some ⟨a,off,none⟩)):=by exact rfl) (ai:b7 l y=some v:=by exact rfl) (aU:ej (bb Q g0).P t=some k:=by exact fY rfl) (aH:v.cells.toList=vs:=by exact rfl) (av:Nat.beq vs.length k=true:=by exact rfl) (bD:Nat.blt 0 vs.length=true:=by exact rfl) (aa:vs.all eQ=true:=by exact rfl) (aw:cR m a (.row cells e) (.row cells' e) m':=by repeat first|exact .head _ _ _ _|apply cR.tail|apply cR.app) (af:gD off cells vs=some cells':=by exact rfl):W (bb Q g0) B ops (o::rest) ⟨n,ds,l⟩ m J bL:=W.step aq (.of (hz ar aZ U ai aU aH av bD aa af aw h))
end
section
variable {ops:List Oper}{bf:List jr}{F:List (FuncId×List Value)}{i:Nat}{bL:cn->aO->aI->Prop}
theorem an{v:Value}(ao:nth ops i=some o)(az:cV (bb Q g0) B o n ds l m J v)(h:a7 (bb Q g0) B ops bf F ⟨n,ds,(d,v)::l⟩ m J bL)(aq:o.guard=none:=by exact rfl) (aZ:o.dst=some d:=by exact rfl) (aP:Nat.blt d n=true:=by exact rfl):a7 (bb Q g0) B ops (.val i::bf) F ⟨n,ds,l⟩ m J bL:=a7.val ao aq aZ aP az h
theorem Fo{v:Value}(ao:nth ops i=some o)(az:cV (bb Q g0) B o n ds l m J v)(h:a7 (bb Q g0) B ops bf F ⟨n,ds,(d,v)::l⟩ m J bL)(aq:o.guard=none:=by exact rfl) (aZ:o.dst=some d:=by exact rfl) (aP:Nat.blt d n=true:=by exact rfl):a7 (bb Q g0) B ops (.bV i::bf) F ⟨n,ds,l⟩ m J bL:=a7.TM ao aq aZ aP az h
theorem kW{t:TypeId}{x y:Operand}{a off k:Nat}{v:Value}{vs cells cells':List Value}{e:TypeId}(ao:nth ops i=some o)(h:a7 (bb Q g0) B ops bf F ⟨n,ds,l⟩ m' J bL)(aq:o.guard=none:=by exact rfl) (ar:o.op=.store t x y:=by exact rfl) (aZ:o.dst=none:=by exact rfl) (U:b7 l x=some (.pointer (some ⟨a,off,none⟩)):=by exact rfl) (ai:b7 l y=some v:=by exact rfl) (aU:ej (bb Q g0).P t=some k:=by exact fY rfl) (aH:v.cells.toList=vs:=by exact rfl) (av:Nat.beq vs.length k=true:=by exact rfl) (bD:Nat.blt 0 vs.length=true:=by exact rfl) (aa:vs.all eQ=true:=by exact rfl) (aw:cR m a (.row cells e) (.row cells' e) m':=by repeat first|exact .head _ _ _ _|apply cR.tail|apply cR.app) (af:gD off cells vs=some cells':=by exact rfl):a7 (bb Q g0) B ops (.bV i::bf) F ⟨n,ds,l⟩ m J bL:=a7.fO ao aq (hz ar aZ U ai aU aH av bD aa af aw h)
end
section
variable {R:uW}{ops:List Oper}{bf:List jr}{i g:Nat}{want b:Bool}{bL:cn->aO->aI->Prop}
theorem dp{v:Value}(ao:nth ops i=some o)(az:cV (bb Q g0) B o n ds l m J v)(h:dx (bb Q g0) B R ops bf ⟨n,ds,(d,v)::l⟩ m J bL)(aq:o.guard=none:=by exact rfl) (aZ:o.dst=some d:=by exact rfl) (aP:Nat.blt d n=true:=by exact rfl):dx (bb Q g0) B R ops (.val i::bf) ⟨n,ds,l⟩ m J bL:=dx.val ao aq aZ aP az h
theorem dj{v:Value}(ao:nth ops i=some o)(az:cV (bb Q g0) B o n ds l m J v)(h:dx (bb Q g0) B R ops bf ⟨n,ds,(d,v)::l⟩ m J bL)(aq:mr ops o=some (g,want):=by exact rfl) (au:look l g=some (.bool b):=by exact rfl) (hw:(b==want)=true:=by exact rfl) (aZ:o.dst=some d:=by exact rfl) (aP:Nat.blt d n=true:=by exact rfl):dx (bb Q g0) B R ops (.val i::bf) ⟨n,ds,l⟩ m J bL:=dx.L8 ao aq au hw aZ aP az h
end
theorem IX{v u:Value}(h:iC 8 v u=true:=by first|rfl|exact ZY _ _ _|exact ZX _ _|exact Z0 _ _|exact ZZ (by assumption) _ _ _|(refine aoT ?_;repeat first|exact aoW|refine aoV ?_ ?_|exact ZY _ _ _|exact Z0 _ _|exact ZX _ _|exact ZZ (by assumption) _ _ _)|simp[iC,addrEq]):iC 8 v u=true:=h
theorem fp{v:Value}(h:cV (bb Q g0) B o n ds l m J v:=by first|exact V.ah|exact V.aA|exact V.bc|exact V.aF|exact V.c8|exact V.aX|exact V.aV|exact V.bx|exact V.a1|exact V.ex|exact V.jL|exact V.oe|exact V.bx|exact V.w1|exact V.bP|exact V.zy|exact V.YQ|exact V.dM|exact V.o2|exact V.fd|exact V.aeK|exact V.gJ|exact V.fn|exact V.ajH|exact V.BF|exact V.KZ|exact V.ank):cV (bb Q g0) B o n ds l m J v:=h
theorem fC{ops:List Oper}{is:List Nat}(h:s4 (bb Q g0) B ops n ds l m J is:=by
 repeat first
  |exact trivial
  |exact nQ.val rfl rfl rfl fp rfl IX
  |exact nQ.L8 rfl rfl rfl rfl rfl fp rfl IX
  |exact nQ.no rfl (UG rfl rfl rfl)
  |exact nQ.no rfl (UH rfl rfl)
  |refine⟨?_,?_⟩):s4 (bb Q g0) B ops n ds l m J is:=h
theorem a8{ops:List Oper}{E:cn}{bL:Option (List PanicEntry)->cn->aO->aI->Prop}(h:bL none E m J):W (bb Q g0) B ops [] E m J bL:=W.nil h
theorem rg{p q:Prop}(h:p)(mw:Hid p->q:=by
 intro pu;repeat refine ab.seq ?_
 refine ab.region ?_;exact pu.out):q:=mw ⟨h⟩
theorem aj{p q:Prop}(h:p)(mw:Hid p->q:=by
 intro pu;repeat refine ab.seq ?_
 exact pu.out):q:=mw ⟨h⟩
theorem bj{p q:Prop}(h:p)(mw:Hid p->q:=by
 intro pu;refine a8 ?_;repeat refine ab.seq ?_
 refine ab.region ?_;exact pu.out):q:=mw ⟨h⟩
theorem ns{p q:Prop}(h:p)(mw:Hid p->q:=by
 intro pu;refine a8 ?_;repeat refine ab.seq ?_
 exact pu.out):q:=mw ⟨h⟩
theorem c5{p q:Prop}(h:p)(mw:Hid p->q:=by
 intro pu;repeat refine ab.seq ?_
 refine ab.skip ?_;exact pu.out):q:=mw ⟨h⟩
theorem nf{p q:Prop}(h:p)(mw:Hid p->q:=by
 intro pu;repeat refine ab.seq ?_
 refine ab.skip ?_;repeat refine ab.seq ?_
 refine ab.region ?_;exact pu.out):q:=mw ⟨h⟩
structure qY (t:Bool) (dS iL:Prop):Prop where
 y:t=true->dS
 n:t=false->iL
theorem qY.p(p:Prop)[Decidable p]:qY (decide p) p (¬p):=⟨mA,of_decide_eq_false⟩
theorem qY.b(t:Bool):qY t (t=true) (t=false):=⟨id,id⟩
theorem If{c0:Exit->cn->aO->aI->Prop}{x:Operand}{a b:Code}{t:Bool}{dS iL:Prop}(aa:dS->ab (bb Q g0) B a ⟨n,ds,l⟩ m J c0)(bD:iL->ab (bb Q g0) B b ⟨n,ds,l⟩ m J c0)(U:b7 l x=some (.bool t):=by exact rfl) (af:qY t dS iL:=by first|exact qY.p _|exact qY.b _):ab (bb Q g0) B (.cond x a b) ⟨n,ds,l⟩ m J c0:=ab.cond U (fun q=>aa (af.y q)) (fun q=>bD (af.n q))
theorem dq{ops rest:List Oper}{bL:Option (List PanicEntry)->cn->aO->aI->Prop}(d:Nat){b:Bool}{dS iL:Prop}(aa:dS->W (bb Q g0) B ops rest ⟨n,ds,(d,.bool true)::l⟩ m J bL)(bD:iL->W (bb Q g0) B ops rest ⟨n,ds,(d,.bool false)::l⟩ m J bL)(au:look l d=some (.bool b):=by exact rfl) (af:qY b dS iL:=by first|exact qY.p _|exact qY.b _):W (bb Q g0) B ops rest ⟨n,ds,l⟩ m J bL:=W.split au (fun q=>aa (af.y q)) (fun q=>bD (af.n q))
theorem th{R:uW}{ops:List Oper}{bf:List jr}{bL:cn->aO->aI->Prop}(d:Nat){b:Bool}{dS iL:Prop}(aa:dS->dx (bb Q g0) B R ops bf ⟨n,ds,(d,.bool true)::l⟩ m J bL)(bD:iL->dx (bb Q g0) B R ops bf ⟨n,ds,(d,.bool false)::l⟩ m J bL)(au:look l d=some (.bool b):=by exact rfl) (af:qY b dS iL:=by first|exact qY.p _|exact qY.b _):dx (bb Q g0) B R ops bf ⟨n,ds,l⟩ m J bL:=dx.split au (fun q=>aa (af.y q)) (fun q=>bD (af.n q))
theorem TT{l:List (Nat×Value)}{t:Nat}{v:Value}(h:look l t=some v:=by first|exact rfl|exact j2 rfl (by first|omega|(simp_all;done))|exact j0 rfl (by first|omega|(simp_all;done))|exact j1 rfl (by first|omega|(simp_all;done)|(simp_all;omega))|exact jZ rfl (by simp_all)|exact cC some (cC (Value.int .i64) (by omega))):look l t=some v:=h
theorem ce{p:Prop}(h:p:=by
 refine⟨⟨_,rfl,?_⟩,bA _,?_⟩
 ·repeat first|exact trivial|refine⟨TT,?_⟩
 ·first|exact rfl|exact aI.le.refl _|assumption):p:=h
def LC (l:List (Nat×Value)):List Nat->Option (List (Nat×Value))
 |[]=>some []
 |t::hi=>match look l t with
  |some v=>(match LC l hi with|some r=>some ((t,v)::r)|none=>none)
  |none=>none
theorem amd{l:List (Nat×Value)}:∀{hi:List Nat} {l':List (Nat×Value)},LC l hi=some l'->pN l l':=by
 intro hi;induction hi with
 |nil=>intro l' h;injection h with h;subst h;trivial
 |cons t hi aK=>
  intro l' h;unfold LC at h;split at h
  ·rename_i v az;split at h
   ·rename_i r ay;injection h with h;subst h
    exact⟨az,aK ay⟩
   ·cases h
  ·cases h
theorem fT{c0:Exit->cn->aO->aI->Prop}{c:Code}{l':List (Nat×Value)}(hi:List Nat)(h:ab (bb Q g0) B c ⟨n,ds,l'⟩ m J c0)(av:LC l hi=some l':=by exact rfl):ab (bb Q g0) B c ⟨n,ds,l⟩ m J c0:=ab.c2 (amd av) (bA _) h
section
variable {ops rest:List Oper}{bL:Option (List PanicEntry)->cn->aO->aI->Prop}{c:Call}{x:Operand}{f:FuncId}{first cap:Array Value}{args aM:List Value}{bh bW:aO}{eO:Value->aO->aI->Prop}
theorem cl(aq:o.guard=none:=by exact rfl) (ar:o.op=.call c:=by exact rfl) (aZ:o.dst=some d:=by exact rfl) (aP:Nat.blt d n=true:=by exact rfl) (aH:c.callee=.value x:=by exact rfl) (U:b7 l x=some (.func (.func f) first cap):=by exact rfl) (a':h5 l c.args.toList=some args:=by exact rfl) (has:(first.toList++args)++cap.toList=aM:=by exact rfl) (aw:(bh++bW).Perm m:=by exact .refl _) (G:Fn (bb Q g0) f aM bh J eO) (h:∀v m' ag,J.le ag->eO v m' ag->W (bb Q g0) B ops rest ⟨n,ds,(d,v)::l⟩ (m'++bW) ag bL):W (bb Q g0) B ops (o::rest) ⟨n,ds,l⟩ m J bL:=W.step aq (Exec.call ar aZ aP aH U a' has aw trivial G h)
theorem ko{v:Value}(aq:o.guard=none:=by exact rfl) (ar:o.op=.call c:=by exact rfl) (aZ:o.dst=some d:=by exact rfl) (aP:Nat.blt d n=true:=by exact rfl) (aH:c.callee=.value x:=by exact rfl) (U:b7 l x=some (.func (.func f) first cap):=by exact rfl) (a':h5 l c.args.toList=some args:=by exact rfl) (has:(first.toList++args)++cap.toList=aM:=by exact rfl) (G:Fn (bb Q g0) f aM [] J (fun w m' ag=>w=v/\m'=[]/\ag=J)) (h:W (bb Q g0) B ops rest ⟨n,ds,(d,v)::l⟩ m J bL):W (bb Q g0) B ops (o::rest) ⟨n,ds,l⟩ m J bL:=W.step aq (Exec.call ar aZ aP aH U a' has (.refl _) trivial G (fun v' m' ag _ q=>by obtain⟨rfl,rfl,rfl⟩:=q;exact h))
theorem Db{g:Nat}{want b:Bool}(aq:mr ops o=some (g,want):=by exact rfl) (au:look l g=some (.bool b):=by exact rfl) (hw:(b==want)=true:=by exact rfl) (ar:o.op=.call c:=by exact rfl) (aZ:o.dst=some d:=by exact rfl) (aP:Nat.blt d n=true:=by exact rfl) (aH:c.callee=.value x:=by exact rfl) (U:b7 l x=some (.func (.func f) first cap):=by exact rfl) (a':h5 l c.args.toList=some args:=by exact rfl) (has:(first.toList++args)++cap.toList=aM:=by exact rfl) (aw:(bh++bW).Perm m:=by exact .refl _) (G:Fn (bb Q g0) f aM bh J eO) (h:∀v m' ag,J.le ag->eO v m' ag->W (bb Q g0) B ops rest ⟨n,ds,(d,v)::l⟩ (m'++bW) ag bL):W (bb Q g0) B ops (o::rest) ⟨n,ds,l⟩ m J bL:=W.rb aq au hw (Exec.call ar aZ aP aH U a' has aw trivial G h)
end
section
variable {ops:List Oper}{bf:List jr}{F:List (FuncId×List Value)}{i:Nat}{bL:cn->aO->aI->Prop}{c:Call}{x:Operand}{f:FuncId}{first cap:Array Value}{args aM:List Value}{bh bW:aO}{eO:Value->aO->aI->Prop}
theorem dl(ao:nth ops i=some o)(aq:o.guard=none:=by exact rfl) (ar:o.op=.call c:=by exact rfl) (aZ:o.dst=some d:=by exact rfl) (aP:Nat.blt d n=true:=by exact rfl) (aH:c.callee=.value x:=by exact rfl) (U:b7 l x=some (.func (.func f) first cap):=by exact rfl) (a':h5 l c.args.toList=some args:=by exact rfl) (has:(first.toList++args)++cap.toList=aM:=by exact rfl) (aC:F.all (fun g=>!Nat.beq g.1 f)=true:=by exact rfl) (aw:(bh++bW).Perm m:=by exact .refl _) (G:Fn (bb Q g0) f aM bh J eO) (h:∀v m' ag,J.le ag->eO v m' ag->a7 (bb Q g0) B ops bf ((f,aM)::F) ⟨n,ds,(d,v)::l⟩ (m'++bW) ag bL):a7 (bb Q g0) B ops (.bV i::bf) F ⟨n,ds,l⟩ m J bL:=a7.call ao aq ar aZ aP aH U a' has aC aw trivial G h
theorem pk{v:Value}(ao:nth ops i=some o)(aq:o.guard=none:=by exact rfl) (ar:o.op=.call c:=by exact rfl) (aZ:o.dst=some d:=by exact rfl) (aP:Nat.blt d n=true:=by exact rfl) (aH:c.callee=.value x:=by exact rfl) (U:b7 l x=some (.func (.func f) first cap):=by exact rfl) (a':h5 l c.args.toList=some args:=by exact rfl) (has:(first.toList++args)++cap.toList=aM:=by exact rfl) (aC:F.all (fun g=>!Nat.beq g.1 f)=true:=by exact rfl) (G:Fn (bb Q g0) f aM [] J (fun w m' ag=>w=v/\m'=[]/\ag=J)) (h:a7 (bb Q g0) B ops bf ((f,aM)::F) ⟨n,ds,(d,v)::l⟩ m J bL):a7 (bb Q g0) B ops (.bV i::bf) F ⟨n,ds,l⟩ m J bL:=a7.call ao aq ar aZ aP aH U a' has aC (.refl _) trivial G (fun v' m' ag _ q=>by obtain⟨rfl,rfl,rfl⟩:=q;exact h)
end
theorem ER{E:cn}{t:Tmp}{eD:TypeId}{a:Nat}{cells:List Value}{e:TypeId}{v:Value}{nk:List ResultVar}{vs:List Value}(ay:p1 (bb Q g0).P E m J nk vs)(aa:look E.l t=some (.pointer (some ⟨a,0,none⟩)):=by exact rfl) (ae:(a,cK.row cells e)∈m:=by repeat first|exact .head _|refine .tail _ ?_|refine h2 _ ?_) (aG:mo (bb Q g0).P eD cells 0=some v:=by first|exact l8 (eV rfl) rfl|exact hp (eV rfl) rfl):p1 (bb Q g0).P E m J (.cell t eD::nk) (v::vs):=.cell aa ae aG ay
theorem c'{e:Exit}{E:cn}{nk:List ResultVar}{vs:List Value}{Sx:List Value->aO->Prop}(aw:Sx vs m')(he:e=.normal\/e=.ret:=by first|exact .inl rfl|exact .inr rfl) (aZ:E.ds.ds=[]:=by exact rfl) (ay:p1 (bb Q g0).P E m J nk vs:=by first|exact .tmp rfl .nil|exact .tmp rfl (.tmp rfl .nil)|exact .nil|exact ER .nil|exact ER (ER .nil)|exact .tmp rfl (.tmp rfl (.tmp rfl .nil))|exact ER (ER (ER .nil))) (af:m'.Sublist m:=by first|exact iR _|exact bA _):(e=.normal\/e=.ret)/\E.ds.ds=[]/\∃vs m',p1 (bb Q g0).P E m J nk vs/\m'.Sublist m/\Sx vs m':=⟨he,aZ,vs,m',ay,af,aw⟩
end
end
theorem bS{p:Prop}(h:p:=by first|rfl|exact cC some (cC (Value.int .i64) (by omega))):p:=h
theorem cf{p:Prop}(h:p:=by first|omega|(simp;omega)|(simp only;omega)):p:=h
theorem hP{p:Prop}(h:p:=by first|exact hL.rd (by assumption)|exact mQ.str|exact mQ.own (by repeat first|exact .head _|refine .tail _ ?_|refine h2 _ ?_) rfl):p:=h
theorem qr{p:Prop}(h:p:=by first|exact .own (by repeat first|exact .head _|refine .tail _ ?_|refine h2 _ ?_)|exact .fz (by assumption)|exact .opn (by repeat first|exact .head _|refine .tail _ ?_|refine h2 _ ?_)):p:=h
theorem sU{p:Prop}(h:p:=by first|exact Sc _|exact B8|exact LA|exact LB|exact al5):p:=h
section
variable {Q:dI kk}{g0:Nat}
section
variable {B:ea}{o:Oper}{n:Nat}{ds:e7}{l:List (Nat×Value)}{m:aO}{J:aI}{d:Nat}
section
variable {ops rest:List Oper}{bL:Option (List PanicEntry)->cn->aO->aI->Prop}
theorem dJ{t:TypeId}{x:Operand}{v:Value}{cells:List Value}(h:∀a,W (bb Q g0) B ops rest ⟨n,ds,(d,.pointer (some ⟨a,0,none⟩))::l⟩ ((a,.row cells t)::m) J bL)(aq:o.guard=none:=by exact rfl) (ar:o.op=.box t x:=by exact rfl) (aZ:o.dst=some d:=by exact rfl) (aP:Nat.blt d n=true:=by exact rfl) (U:b7 l x=some v:=by exact rfl) (aH:v.cells.toList=cells:=by exact rfl) (aa:cells.all eQ=true:=by exact rfl):W (bb Q g0) B ops (o::rest) ⟨n,ds,l⟩ m J bL:=W.step aq (.of (apt ar aZ aP U aH aa h))
theorem jw{t e:TypeId}{k sz:Nat}{gf cells:List Value}{eG:Array (Nat×Operand)}{vs:List (Nat×Value)}(aD:jS (bb Q g0).P t=some (e,sz,gf))(h:∀a,W (bb Q g0) B ops rest ⟨n,ds,(d,.slice (some ⟨a,0,none⟩) k k)::l⟩ ((a,.row cells e)::m) J bL)(aq:o.guard=none:=by exact rfl) (ar:o.op=.buildSlice t k eG:=by exact rfl) (aZ:o.dst=some d:=by exact rfl) (aP:Nat.blt d n=true:=by exact rfl) (aw:tz l eG.toList=some vs:=by exact rfl) (aU:(Nat.ble k 100000&&Nat.ble (k*sz) 100000)=true:=by exact rfl) (aC:nC (fun i=>some (i*sz,sz)) (gG gf k) vs=some cells:=by exact rfl) (aa:cells.all eQ=true:=by exact rfl):W (bb Q g0) B ops (o::rest) ⟨n,ds,l⟩ m J bL:=W.step aq (.of (apu ar aZ aP aw aD aU aC aa h))
end
section
variable {R:uW}{ops:List Oper}{bf:List jr}{i g:Nat}{want b:Bool}{bL:cn->aO->aI->Prop}
theorem cx(ao:nth ops i=some o)(h:dx (bb Q g0) B R ops bf ⟨n,ds,(d,undef)::l⟩ m J bL)(aq:mr ops o=some (g,want):=by exact rfl) (au:look l g=some (.bool b):=by exact rfl) (hw:(b==want)=false:=by exact rfl) (aZ:o.dst=some d:=by exact rfl) (aP:Nat.blt d n=true:=by exact rfl):dx (bb Q g0) B R ops (.val i::bf) ⟨n,ds,l⟩ m J bL:=dx.ZT ao aq au hw aZ aP h
end
end
end
structure Sa where
 d:List (Nat×Value)
 m:aO
 j:aI
 i:Prop
 k:Nat
section
variable {K:eL}{B:ea}{c0:Exit->cn->aO->aI->Prop}{n:Nat}{ds:e7}
theorem ab.dF{α:Type}{c:Code}{base:List (Nat×Value)}(r:α->Sa)(s:α)(af:(r s).i)
 (bE:∀s,(r s).i->ab K B c ⟨n,ds,(r s).d++base⟩ (r s).m (r s).j fun e E m J=>match e with
  |.normal=>∃c3 l,(r c3).i/\(r c3).k<(r s).k/\E=⟨n,ds,l⟩/\pN l ((r c3).d++base)/\((r c3).m).Sublist m/\J=(r c3).j
  |e=>c0 e E m J):ab K B (.loop c) ⟨n,ds,(r s).d++base⟩ (r s).m (r s).j c0:=
 ab.akn (fun s=>(r s).d) (fun s=>(r s).m) (fun s=>(r s).j) (fun s=>(r s).i) (fun s=>(r s).k) s af bE
theorem cA{α:Type}{r:α->Sa}{base l:List (Nat×Value)}{hv:Nat}{m:aO}{J:aI}(c3:α)(ao:(r c3).i)(hm:((r c3).m).Sublist m:=by exact .refl _) (ba:J=(r c3).j:=by exact rfl) (aU:(r c3).k<hv:=by first|omega|(simp;omega)|(simp only;omega)) (av:pN l ((r c3).d++base):=by repeat first|exact trivial|refine⟨by first|rfl|exact cC some (cC (Value.int .i64) (by omega)),?_⟩):∃c3 l',(r c3).i/\(r c3).k<hv/\(⟨n,ds,l⟩:cn)=⟨n,ds,l'⟩/\pN l' ((r c3).d++base)/\((r c3).m).Sublist m/\J=(r c3).j:=⟨c3,l,ao,aU,rfl,av,hm,ba⟩
end
theorem aM{p q:Prop}(h:p)(mw:Hid p->q:=by
 intro pu;repeat first
  |refine I V.ah ?_
  |refine I V.bc ?_
  |refine I V.aA ?_
  |refine I V.o2 ?_
  |refine I V.bP ?_
  |refine I V.ex ?_
  |refine I V.jL ?_
  |refine I V.fn ?_
  |refine I V.zy ?_
 exact pu.out):q:=mw ⟨h⟩
theorem cq{p q:Prop}(h:p)(mw:Hid p->q:=by
 intro pu;repeat first
  |refine an rfl V.ah ?_
  |refine an rfl V.bc ?_
  |refine an rfl V.aA ?_
  |refine an rfl V.o2 ?_
  |refine an rfl V.bP ?_
  |refine an rfl V.ex ?_
  |refine an rfl V.jL ?_
  |refine an rfl V.fn ?_
  |refine an rfl V.zy ?_
 exact pu.out):q:=mw ⟨h⟩
end
end Go.Opn
namespace Go.Opn
noncomputable section
structure cS where
 k:Int
 p:Int
 i:Int
 ak:List Int
 ws:List Int
 fE:List Int
structure bz where
 pl:Int
 ns:List cS
 is:List (Int×Int)
open Classical
def ev (g:bz)(x:cS):Int:=
 if x.k=1 then
  if x.p≠0\/x.i≠0\/0<x.fE.length\/x.ak.length<1\/60<x.ak.length\/x.ws.length≠x.ak.length then 3
  else if ∃w∈x.ws,w<1\/1000<w then 2 else 0
 else if x.k=2 then
  if 0<x.fE.length\/0<x.ws.length\/x.ak.length<1\/10<x.ak.length then 3
  else if x.p<0\/g.pl<=x.p\/x.i<0\/(g.is.length:Int)<=x.i then 2 else 0
 else if x.k=3 then
  if x.p≠0\/x.i≠0\/0<x.ak.length\/0<x.ws.length\/(x.fE.length:Int)≠g.pl then 3
  else if ∃w∈x.fE,w< -1000000\/1000000<w then 2 else 0
 else 3
def o3 (g:bz):List cS->Int
 |[]=>0
 |x::r=>if ev g x≠0 then ev g x else o3 g r
abbrev gq:=Int×Int×Int
def hl(rec:Nat->Option (Nat×List gq)):List Int->Nat->Option (Nat×List gq)
 |[],n=>some (n,[])
 |c::r,n=>if c≠(n:Int) then none else match rec n with
  |none=>none
  |some (b0,es)=>match hl rec r b0 with
   |none=>none
   |some (dn,Gq)=>some (dn,es++Gq)
def dP(ns:List cS):Nat->Int->Int->Nat->Option (Nat×List gq)
 |0,_,_,_=>none
 |f+1,kB,d,a=>match ns[a]? with
  |none=>none
  |some x=>match hl (dP ns f a (d+1)) x.ak (a+1) with
   |none=>none
   |some (n,es)=>some (n,(kB,d,(n:Int) -1)::es)
def q7(es:List gq):Int:=es.foldl (fun m e=>max m e.2.1) 0
def eJ(i:Int):Nat->List cS->List Int
 |_,[]=>[]
 |j,x::r=>if x.k=2/\x.i=i then(j:Int)::eJ i (j+1) r else eJ i (j+1) r
def gC(g:bz):List (List Int):=(List.range g.is.length).map fun(i:Nat)=>eJ (i:Int) 0 g.ns
def fc(l:List Int):Int:=match l with|[]=>-1|x::_=>x
def h6 (g:bz):Int:=
 if g.pl<1\/4<g.pl\/g.ns.length<1\/2000<g.ns.length\/200<g.is.length then 2
 else if o3 g g.ns≠0 then o3 g g.ns
 else match dP g.ns (g.ns.length+1) (-1) 0 0 with
  |none=>9
  |some (n,es)=>
   if n≠g.ns.length then 9
   else if 40<q7 es then 5
   else if ∃x∈g.ns,x.k=2/\g.is[x.i.toNat]?≠some (x.p,(x.ak.length:Int)) then 10
   else if ∃s∈gC g,s=[] then 18
   else if ∃(i:Nat) (s t:List Int),(gC g)[i]?=some s/\(gC g)[i+1]?=some t/\fc t<fc s then 9
   else 0
theorem akY{g:bz}:∀{l:List cS},o3 g l=0->∀x∈l,ev g x=0:=by
 intro l;induction l with
 |nil=>intro _ x U;cases U
 |cons y r aK=>
  intro h x U;have h:(if ev g y≠0 then ev g y else o3 g r)=0:=h;by_cases q:ev g y=0
  ·rw[ap (fun k=>k q)] at h;rcases fg.1 U with e|e
   ·rw[e];exact q
   ·exact aK h x e
  ·rw[aE q] at h;exact absurd h q
theorem EE{g:bz}{x:cS}(h:ev g x=0)(aw:g.pl<=4):x.ak.length<=60/\x.ws.length<=60/\x.fE.length<=60:=by
 unfold ev at h;split at h
 ·split at h
  ·omega
  ·split at h<;>omega
 ·split at h
  ·split at h
   ·omega
   ·split at h<;>omega
  ·split at h
   ·split at h
    ·omega
    ·split at h<;>omega
   ·omega
structure ym (g:bz):Prop where
 dS:1<=g.pl
 lJ:g.pl<=4
 b0:1<=g.ns.length
 dn:g.ns.length<=2000
 i2:g.is.length<=200
 nodes:∀x∈g.ns,ev g x=0
 walk:∃es,dP g.ns (g.ns.length+1) (-1) 0 0=some (g.ns.length,es)/\q7 es<=40
 types:∀x∈g.ns,x.k=2->g.is[x.i.toNat]?=some (x.p,(x.ak.length:Int))
 Ra:∀s∈gC g,s≠[]
theorem GG{g:bz}(h:h6 g=0):ym g:=by
 unfold h6 at h;split at h
 ·omega
 rename_i aa;split at h
 ·rename_i q;exact absurd h q
 rename_i ae;split at h
 ·omega
 rename_i n es aG;split at h
 ·omega
 rename_i br;split at h
 ·omega
 rename_i eu;split at h
 ·omega
 rename_i gK;split at h
 ·omega
 rename_i ks;have br:n=g.ns.length:=gP.1 br;subst br;refine⟨by omega,by omega,by omega,by omega,by omega,akY (gP.1 ae),⟨es,aG,by omega⟩,fun x U aU=>?_,fun s af q=>ks ⟨s,af,q⟩⟩;exact qN fun q=>gK ⟨x,U,aU,q⟩
def BU(x:cS):List Int:=[x.k,x.p,x.i]++((x.ak.length:Int)::x.ak)++((x.ws.length:Int)::x.ws)++((x.fE.length:Int)::x.fE)
def P1(x:Int×Int):List Int:=[x.1,x.2]
def Ip(g:bz):List Int:=[g.pl,(g.ns.length:Int)]++g.ns.flatMap BU++[(g.is.length:Int)]++g.is.flatMap P1
theorem Uy{α:Type}{f:α->List Int}{l:List α}{i:Nat}{x:α}(U:l[i]?=some x):(l.take (i+1)).flatMap f=(l.take i).flatMap f++f x:=by
 rw[nS,U];simp
end
end Go.Opn

/- A part of the proof of TableTurns. -/
import Derived.Test.YtlgjlbpafcifoaaGreatDoorCap
import Derived.Test.YtlgjlbpafcifoaaGreatDoorCao
set_option maxRecDepth 100000
set_option linter.unusedVariables false
set_option linter.unusedSimpArgs false
namespace Go.Opn
noncomputable section
open Go.Cre Go.RowKit Go.Proofs
theorem wrap_u64{n:Int}(aN:0<=n)(ab:n<18446744073709551616):IntKind.u64.wrap n=n:=by
 unfold IntKind.wrap IntKind.signed IntKind.bits;simp only[DY,By,Ay];omega
theorem wrap_u32{n:Int}(aN:0<=n)(ab:n<4294967296):IntKind.u32.wrap n=n:=by
 unfold IntKind.wrap IntKind.signed IntKind.bits;simp only[DY,By,Ay];omega
section
variable {Q:cZ im}{g0:Nat}
theorem w4{α β:Type}{f:Nat->Option β}{g:α->β}:∀{L:List (Nat×α)},L.map (fun x=>f x.1)=L.map (fun x=>some (g x.2))->∀{t:Nat} {r:α},si L t=some r->f t=some (g r):=by
 intro L;induction L with
 |nil=>intro _ t r h;cases h
 |cons x L aP=>
  obtain⟨u,v⟩:=x;intro h t r aq;rw[uj,uj,List.cons.injEq] at h;simp only[si] at aq;cases ai:Nat.beq t u with
  |true=>
   rw[ai,b4] at aq;injection aq with aq;subst aq
   obtain rfl:=eb ai;exact h.1
  |false=>rw[ai,da] at aq;exact aP h.2 aq
theorem Qf{f:Nat->Bool}:∀{L:List Nat},L.all f=true->∀{t:Nat},Dg t L=true->f t=true:=by
 intro L;induction L with
 |nil=>intro _ t h;cases h
 |cons u L aP=>
  intro h t aJ;rw[BG,gg] at h;simp only[Dg] at aJ;cases ai:Nat.beq t u with
  |true=>obtain rfl:=eb ai;exact h.1
  |false=>rw[ai,da] at aJ;exact aP h.2 aJ
theorem g2{t:Nat}{r:Option Nat}(h:si Mt t=some r):rM (aT Q g0).P t=some r:=w4 (f:=fun t=>rM im t) (g:=id) acs h
theorem tT{t:Nat}{r:Nat}(h:si RK t=some r):ey (aT Q g0).P t=some r:=w4 (f:=fun t=>ey im t) (g:=id) apV h
theorem eB{t:Nat}{r:TypeId×Nat×List Value}(h:si Rs t=some r):mr (aT Q g0).P t=some r:=w4 (f:=fun t=>mr im t) (g:=id) aoT h
theorem Ll{t:Nat}{r:Value}(h:si Sj t=some r):gX (aT Q g0).P t=some r:=w4 (f:=fun t=>gX im t) (g:=id) arJ h
theorem A9{t f:Nat}{r:Nat}(h:si NN (t*100+f)=some r)(aA:Nat.blt f 100=true):Ci (aT Q g0).P t f=some r:=by
 have:=w4 (f:=fun k=>Ci im (k / 100) (k % 100)) (g:=id) ago h;have aA:f<100:=by simpa[Nat.blt,vK] using aA
 rwa [show(t*100+f) / 100=t by omega,show(t*100+f) % 100=f by omega] at this
theorem Z9{t:Nat}{r:Nat×Nat×Nat}(h:si My t=some r):x0 (aT Q g0).P t=some r:=w4 (f:=fun t=>x0 im t) (g:=id) acG h
theorem apZ{t:Nat}{r:Nat}(h:si Nt t=some r):Ca (aT Q g0).P t=some r:=w4 (f:=fun t=>Ca im t) (g:=id) afz h
theorem ap0{t:Nat}(h:Dg t WT=true):isSlice (aT Q g0).P t=true:=Qf (f:=fun t=>isSlice im t) isOk h
theorem RL{t:Nat}(h:Dg t WU=true):u9 (aT Q g0).P t=true:=Qf (f:=fun t=>u9 im t) akv h
theorem Z'{t:Nat}(h:Dg t Yb=true):AL (aT Q g0).P t=true:=Qf (f:=fun t=>AL im t) al3 h
theorem apX{t:Nat}{r:Sum (List (Nat×Nat)) Nat×List Value}(h:si MJ t=some r):Ez (aT Q g0).P t=some r:=w4 (f:=fun t=>Ez im t) (g:=id) acV h
theorem apY{s t:Nat}{r:IntKind}(h:si Na (s*10000+t)=some r)(aA:Nat.blt t 10000=true):isInt (aT Q g0).P s t=some r:=by
 have:=w4 (f:=fun k=>isInt im (k / 10000) (k % 10000)) (g:=id) aes h;have aA:t<10000:=by simpa[Nat.blt,vK] using aA
 rwa [show(s*10000+t) / 10000=s by omega,show(s*10000+t) % 10000=t by omega] at this
structure Hid (p:Prop):Prop where
 out:p
section
variable {B:c5}{o:Oper}{n:Nat}{ds:dJ}{l:List (Nat×Value)}{m m':aO}{J:af}{d:Nat}
theorem Ze{a:Nat}{cells:List Value}(h:pQ m J a cells:=by first|exact .own (by repeat first|exact .head _|refine .tail _ ?_|refine iI _ ?_)|exact .ed (by assumption)|exact .opn (by repeat first|exact .head _|refine .tail _ ?_|refine iI _ ?_)):pQ m J a cells:=h
theorem V.k2{x:Operand}{v:Value}(ah:o.op=.move x:=by exact rfl) (U:bx l x=some v:=by exact rfl):cO (aT Q g0) B o n ds l m J (v):=Lr ah U
theorem V.IJ{x:Operand}{v:Value}(ah:o.op=.assign x:=by exact rfl) (U:bx l x=some v:=by exact rfl):cO (aT Q g0) B o n ds l m J (v):=aqy ah U
theorem V.NH{s:TypeId}{x:Operand}{f a off k:Nat}(ah:o.op=.fieldAddr s x f:=by exact rfl) (U:bx l x=some (.pointer (some ⟨a,off,none⟩)):=by exact rfl) (aA:Ci (aT Q g0).P s f=some k:=by exact A9 rfl rfl):cO (aT Q g0) B o n ds l m J (.pointer (some ⟨a,off+k,none⟩)):=Bi ah U aA
theorem V.lx{t:TypeId}{x:Operand}{a off:Nat}{cells:List Value}{v:Value}(ah:o.op=.load t x:=by exact rfl) (U:bx l x=some (.pointer (some ⟨a,off,none⟩)):=by exact rfl) (aq:pQ m J a cells:=by exact Ze) (ar:mD (aT Q g0).P t cells off=some v:=by exact iy (g2 rfl) (by first|rfl|assumption)):cO (aT Q g0) B o n ds l m J (v):=ob ah U aq ar
theorem V.W8{t:TypeId}{x:Operand}{a off:Nat}{cells:List Value}{v:Value}(ah:o.op=.load t x:=by exact rfl) (U:bx l x=some (.pointer (some ⟨a,off,none⟩)):=by exact rfl) (aq:pQ m J a cells:=by exact Ze) (ar:mD (aT Q g0).P t cells off=some v:=by exact yX (g2 rfl) (by first|rfl|assumption)):cO (aT Q g0) B o n ds l m J (v):=ob ah U aq ar
theorem V.ck{c x y:Operand}{t:Bool}{v:Value}(ah:o.op=.pick c x y:=by exact rfl) (aD:bx l c=some (.bool t):=by exact rfl) (ar:(if t=true then bx l x else bx l y)=some v:=by exact rfl):cO (aT Q g0) B o n ds l m J (v):=aqR ah aD ar
theorem V.Lv{op:BinOp}{t dx:TypeId}{x y:Operand}{k:IntKind}{a b:Int}{v:Value}(ah:o.op=.binOp op t x y dx:=by exact rfl) (U:bx l x=some (.int k a):=by exact rfl) (au:bx l y=some (.int k b):=by exact rfl) (ar:MF k a b op=some v:=by exact rfl):cO (aT Q g0) B o n ds l m J (v):=aaB ah U au ar
theorem V.hI{op:BinOp}{t dx:TypeId}{x y:Operand}{k:IntKind}{a b c c':Int}(ah:o.op=.binOp op t x y dx:=by exact rfl) (U:bx l x=some (.int k a):=by exact rfl) (au:bx l y=some (.int k b):=by exact rfl) (ar:Mx a b op=some c:=by exact rfl) (hw:k.wrap c=c':=by first|exact wrap_i64 (by omega) (by omega)|exact wrap_u8 (by omega) (by omega)|exact wrap_u64 (by omega) (by omega)|exact wrap_u32 (by omega) (by omega)|rfl):cO (aT Q g0) B o n ds l m J (.int k c'):=aqw ah U au ar hw
theorem V.EV{op:BinOp}{t dx:TypeId}{x y:Operand}{k:IntKind}{a b:Int}{v:Value}(ah:o.op=.binOp op t x y dx:=by exact rfl) (U:bx l x=some (.int k a):=by exact rfl) (au:bx l y=some (.int k b):=by exact rfl) (ar:B5 k a b op=some v:=by exact rfl) (ai:b≠0:=by first|decide|omega):cO (aT Q g0) B o n ds l m J (v):=aqC ah U au ar ai
theorem V.GX{v:Value}(h:cO (aT Q g0) B o n ds l m J v:=by first|exact aqP rfl rfl|exact aaC rfl rfl):cO (aT Q g0) B o n ds l m J (v):=h
theorem V.ex{x:Operand}{c7:Nat}{vs:Array Value}{v:Value}(ah:o.op=.extract x c7:=by exact rfl) (U:bx l x=some (.tuple vs):=by exact rfl) (ar:nth vs.toList c7=some v:=by exact rfl):cO (aT Q g0) B o n ds l m J (v):=aqD ah U ar
theorem V.Kl{v:Value}(h:cO (aT Q g0) B o n ds l m J v:=by exact aqL rfl rfl rfl rfl (ap0 rfl)):cO (aT Q g0) B o n ds l m J (v):=h
theorem V.P'{v:Value}(h:cO (aT Q g0) B o n ds l m J v:=by exact aqK rfl rfl rfl rfl (RL rfl)):cO (aT Q g0) B o n ds l m J (v):=h
theorem V.c7{t:TypeId}{x c7:Operand}{a off len cap sz:Nat}{k:IntKind}{i:Int}(ah:o.op=.indexAddr t x c7:=by exact rfl) (U:bx l x=some (.slice (some ⟨a,off,none⟩) len cap):=by exact rfl) (ak:bx l c7=some (.int k i):=by exact rfl) (aJ:Ca (aT Q g0).P t=some sz:=by exact apZ rfl) (aN:0<=i:=by first|omega|(simp;omega)) (ab:i<len:=by first|omega|(simp;omega)):cO (aT Q g0) B o n ds l m J (.pointer (some ⟨a,off+i.toNat*sz,none⟩)):=aqG ah U ak aJ aN ab
theorem V.WL{t elem:TypeId}{x c7:Operand}{a off len sz:Nat}{k:IntKind}{i:Int}(ah:o.op=.indexAddr t x c7:=by exact rfl) (U:bx l x=some (.pointer (some ⟨a,off,none⟩)):=by exact rfl) (ak:bx l c7=some (.int k i):=by exact rfl) (aJ:x0 (aT Q g0).P t=some (len,elem,sz):=by exact Z9 rfl) (aN:0<=i:=by first|omega|(simp;omega)) (ab:i<len:=by first|omega|(simp;omega)):cO (aT Q g0) B o n ds l m J (.pointer (some ⟨a,off+i.toNat*sz,none⟩)):=aqH ah U ak aJ aN ab
theorem V.uz{v:Value}(h:cO (aT Q g0) B o n ds l m J v:=by exact aqA rfl rfl (apX rfl) rfl):cO (aT Q g0) B o n ds l m J (v):=h
theorem V.QC{v:Value}(h:cO (aT Q g0) B o n ds l m J v:=by exact aqO rfl rfl):cO (aT Q g0) B o n ds l m J (v):=h
theorem V.o5{v:Value}(h:cO (aT Q g0) B o n ds l m J v:=by exact aqB rfl rfl (apY rfl rfl) (by first|exact wrap_i64 (by omega) (by omega)|exact wrap_u8 (by omega) (by omega)|exact wrap_u64 (by omega) (by omega)|exact wrap_u32 (by omega) (by omega)|rfl)):cO (aT Q g0) B o n ds l m J (v):=h
theorem V.fn{v:Value}(h:cO (aT Q g0) B o n ds l m J v:=by exact aqE rfl rfl rfl):cO (aT Q g0) B o n ds l m J (v):=h
theorem V.WN{v:Value}(h:cO (aT Q g0) B o n ds l m J v:=by exact aqF rfl rfl (Z' rfl)):cO (aT Q g0) B o n ds l m J (v):=h
theorem V.akb{t:TypeId}{x c7:Operand}{s:List UInt8}{k:IntKind}{i:Int}{b:UInt8}(ah:o.op=.index t x c7:=by exact rfl) (U:bx l x=some (.string ⟨⟨s⟩⟩):=by exact rfl) (ak:bx l c7=some (.int k i):=by exact rfl) (aJ:u9 (aT Q g0).P t=true:=by exact RL rfl) (aN:0<=i:=by first|omega|(simp;omega)) (ai:s[i.toNat]?=some b:=by first|assumption|exact dX (by first|omega|(simp;omega))):cO (aT Q g0) B o n ds l m J (.int .u8 b.toNat):=aaA ah U ak aJ aN ai
section
variable {ops rest:List Oper}{ba:Option (List PanicEntry)->b0->aO->af->Prop}
theorem eT{v:Value}(ar:cO (aT Q g0) B o n ds l m J v)(h:W (aT Q g0) B ops rest ⟨n,ds,(d,v)::l⟩ m J ba)(ax:o.guard=none:=by exact rfl) (al:o.dst=some d:=by exact rfl) (az:Nat.blt d n=true:=by exact rfl):W (aT Q g0) B ops (o::rest) ⟨n,ds,l⟩ m J ba:=W.step ax (Exec.val al az ar h)
theorem Iw{v:Value}{g:Nat}{want b:Bool}(ar:cO (aT Q g0) B o n ds l m J v)(h:W (aT Q g0) B ops rest ⟨n,ds,(d,v)::l⟩ m J ba)(ax:jZ ops o=some (g,want):=by exact rfl) (ai:look l g=some (.bool b):=by exact rfl) (hw:(b==want)=true:=by exact rfl) (al:o.dst=some d:=by exact rfl) (az:Nat.blt d n=true:=by exact rfl):W (aT Q g0) B ops (o::rest) ⟨n,ds,l⟩ m J ba:=W.U0 ax ai hw (Exec.val al az ar h)
theorem ab7{e:Nat}{want b:Bool}(h:W (aT Q g0) B ops rest ⟨n,ds,(e,undef)::l⟩ m J ba)(ax:jZ ops o=some (d,want):=by exact rfl) (ai:look l d=some (.bool b):=by exact rfl) (hw:(b==want)=false:=by exact rfl) (al:o.dst=some e:=by exact rfl) (az:Nat.blt e n=true:=by exact rfl):W (aT Q g0) B ops (o::rest) ⟨n,ds,l⟩ m J ba:=W.UY ax ai hw al az h
theorem ab'{e:Nat}{want:Bool}(h:W (aT Q g0) B ops rest ⟨n,ds,(e,undef)::l⟩ m J ba)(ax:jZ ops o=some (d,want):=by exact rfl) (ai:look l d=some undef:=by exact rfl) (al:o.dst=some e:=by exact rfl) (az:Nat.blt e n=true:=by exact rfl):W (aT Q g0) B ops (o::rest) ⟨n,ds,l⟩ m J ba:=W.ag5 ax ai al az h
theorem ab9{t:TypeId}{x y:Operand}{a off k:Nat}{v:Value}{vs cells cells':List Value}{e:TypeId}(h:W (aT Q g0) B ops rest ⟨n,ds,l⟩ m' J ba)(ax:o.guard=none:=by exact rfl) (ah:o.op=.store t x y:=by exact rfl) (al:o.dst=none:=by exact rfl) (U:bx l x=some (.pointer (some ⟨a,off,none⟩)):=by exact rfl) (au:bx l y=some v:=by exact rfl) (hk:ey (aT Q g0).P t=some k:=by exact tT rfl) (aD:v.cells.toList=vs:=by exact rfl) (ap:Nat.beq vs.length k=true:=by exact rfl) (aN:Nat.blt 0 vs.length=true:=by exact rfl) (ab:vs.all eV=true:=by exact rfl) (ao:eS m a (.row cells e) (.row cells' e) m':=by repeat first|exact .head _ _ _ _|apply eS.tail|apply eS.app) (hs:gf off cells vs=some cells':=by exact rfl):W (aT Q g0) B ops (o::rest) ⟨n,ds,l⟩ m J ba:=W.step ax (.of (Bs ah al U au hk aD ap aN ab hs ao h))
end
section
variable {ops:List Oper}{aX:List iG}{F:List (FuncId×List Value)}{i:Nat}{ba:b0->aO->af->Prop}
theorem xM{v:Value}(ak:nth ops i=some o)(ar:cO (aT Q g0) B o n ds l m J v)(h:cm (aT Q g0) B ops aX F ⟨n,ds,(d,v)::l⟩ m J ba)(ax:o.guard=none:=by exact rfl) (al:o.dst=some d:=by exact rfl) (az:Nat.blt d n=true:=by exact rfl):cm (aT Q g0) B ops (.val i::aX) F ⟨n,ds,l⟩ m J ba:=cm.val ak ax al az ar h
theorem abb{v:Value}(ak:nth ops i=some o)(ar:cO (aT Q g0) B o n ds l m J v)(h:cm (aT Q g0) B ops aX F ⟨n,ds,(d,v)::l⟩ m J ba)(ax:o.guard=none:=by exact rfl) (al:o.dst=some d:=by exact rfl) (az:Nat.blt d n=true:=by exact rfl):cm (aT Q g0) B ops (.bD i::aX) F ⟨n,ds,l⟩ m J ba:=cm.adG ak ax al az ar h
theorem abd{t:TypeId}{x y:Operand}{a off k:Nat}{v:Value}{vs cells cells':List Value}{e:TypeId}(ak:nth ops i=some o)(h:cm (aT Q g0) B ops aX F ⟨n,ds,l⟩ m' J ba)(ax:o.guard=none:=by exact rfl) (ah:o.op=.store t x y:=by exact rfl) (al:o.dst=none:=by exact rfl) (U:bx l x=some (.pointer (some ⟨a,off,none⟩)):=by exact rfl) (au:bx l y=some v:=by exact rfl) (hk:ey (aT Q g0).P t=some k:=by exact tT rfl) (aD:v.cells.toList=vs:=by exact rfl) (ap:Nat.beq vs.length k=true:=by exact rfl) (aN:Nat.blt 0 vs.length=true:=by exact rfl) (ab:vs.all eV=true:=by exact rfl) (ao:eS m a (.row cells e) (.row cells' e) m':=by repeat first|exact .head _ _ _ _|apply eS.tail|apply eS.app) (hs:gf off cells vs=some cells':=by exact rfl):cm (aT Q g0) B ops (.bD i::aX) F ⟨n,ds,l⟩ m J ba:=cm.pW ak ax (Bs ah al U au hk aD ap aN ab hs ao h)
end
section
variable {R:uq}{ops:List Oper}{aX:List iG}{i g:Nat}{want b:Bool}{ba:b0->aO->af->Prop}
theorem abY{v:Value}(ak:nth ops i=some o)(ar:cO (aT Q g0) B o n ds l m J v)(h:fL (aT Q g0) B R ops aX ⟨n,ds,(d,v)::l⟩ m J ba)(ax:o.guard=none:=by exact rfl) (al:o.dst=some d:=by exact rfl) (az:Nat.blt d n=true:=by exact rfl):fL (aT Q g0) B R ops (.val i::aX) ⟨n,ds,l⟩ m J ba:=fL.val ak ax al az ar h
theorem abZ{v:Value}(ak:nth ops i=some o)(ar:cO (aT Q g0) B o n ds l m J v)(h:fL (aT Q g0) B R ops aX ⟨n,ds,(d,v)::l⟩ m J ba)(ax:jZ ops o=some (g,want):=by exact rfl) (ai:look l g=some (.bool b):=by exact rfl) (hw:(b==want)=true:=by exact rfl) (al:o.dst=some d:=by exact rfl) (az:Nat.blt d n=true:=by exact rfl):fL (aT Q g0) B R ops (.val i::aX) ⟨n,ds,l⟩ m J ba:=fL.RZ ak ax ai hw al az ar h
end
theorem mu{v u:Value}(h:eJ 8 v u=true:=by first|assumption|rfl|exact aaP _ _ _|exact aaO _ _|exact aaQ (by assumption) _ _ _|(refine aq7 ?_;repeat first|exact aq'|refine aq9 ?_ ?_|exact aaP _ _ _|exact aaO _ _|exact aaQ (by assumption) _ _ _)|simp[eJ,addrEq]):eJ 8 v u=true:=h
theorem gw{v:Value}(h:cO (aT Q g0) B o n ds l m J v:=by first|exact V.k2|exact V.IJ|exact V.NH|exact V.lx|exact V.W8|exact V.c7|exact V.ck|exact V.hI|exact V.Lv|exact V.ex|exact V.uz|exact V.GX|exact V.hI|exact V.EV|exact V.Kl|exact V.P'|exact V.QC|exact V.o5|exact V.fn|exact V.WN|exact V.akb|exact V.WL|exact V.auJ):cO (aT Q g0) B o n ds l m J v:=h
theorem ft{ops:List Oper}{is:List Nat}(h:sH (aT Q g0) B ops n ds l m J is:=by
 repeat first
  |exact trivial
  |exact h6.val rfl rfl rfl gw rfl mu
  |exact h6.RZ rfl rfl rfl rfl rfl gw rfl mu
  |exact h6.no rfl (Je rfl rfl rfl)
  |exact h6.no rfl (NR rfl rfl)
  |refine⟨?_,?_⟩):sH (aT Q g0) B ops n ds l m J is:=h
theorem kr{ops:List Oper}{E:b0}{ba:Option (List PanicEntry)->b0->aO->af->Prop}(h:ba none E m J):W (aT Q g0) B ops [] E m J ba:=W.nil h
theorem rg{p q:Prop}(h:p)(nk:Hid p->q:=by
 intro me;repeat refine aB.seq ?_
 refine aB.region ?_;exact me.out):q:=nk ⟨h⟩
theorem a'{p q:Prop}(h:p)(nk:Hid p->q:=by
 intro me;repeat refine aB.seq ?_
 exact me.out):q:=nk ⟨h⟩
theorem Yg{p q:Prop}(h:p)(nk:Hid p->q:=by
 intro me;refine kr ?_;repeat refine aB.seq ?_
 refine aB.region ?_;exact me.out):q:=nk ⟨h⟩
theorem sn{p q:Prop}(h:p)(nk:Hid p->q:=by
 intro me;refine kr ?_;repeat refine aB.seq ?_
 exact me.out):q:=nk ⟨h⟩
theorem jg{p q:Prop}(h:p)(nk:Hid p->q:=by
 intro me;repeat refine aB.seq ?_
 refine aB.skip ?_;exact me.out):q:=nk ⟨h⟩
theorem P7{p q:Prop}(h:p)(nk:Hid p->q:=by
 intro me;repeat refine aB.seq ?_
 refine aB.skip ?_;repeat refine aB.seq ?_
 refine aB.region ?_;exact me.out):q:=nk ⟨h⟩
structure oo (t:Bool) (cP ic:Prop):Prop where
 y:t=true->cP
 n:t=false->ic
theorem oo.p(p:Prop)[Decidable p]:oo (decide p) p (¬p):=⟨G3,of_decide_eq_false⟩
theorem oo.b(t:Bool):oo t (t=true) (t=false):=⟨id,id⟩
theorem If{cd:Exit->b0->aO->af->Prop}{x:Operand}{a b:Code}{t:Bool}{cP ic:Prop}(ab:cP->aB (aT Q g0) B a ⟨n,ds,l⟩ m J cd)(aN:ic->aB (aT Q g0) B b ⟨n,ds,l⟩ m J cd)(U:bx l x=some (.bool t):=by exact rfl) (hs:oo t cP ic:=by first|exact oo.p _|exact oo.b _):aB (aT Q g0) B (.cond x a b) ⟨n,ds,l⟩ m J cd:=aB.cond U (fun q=>ab (hs.y q)) (fun q=>aN (hs.n q))
theorem fs{ops rest:List Oper}{ba:Option (List PanicEntry)->b0->aO->af->Prop}(d:Nat){b:Bool}{cP ic:Prop}(ab:cP->W (aT Q g0) B ops rest ⟨n,ds,(d,.bool true)::l⟩ m J ba)(aN:ic->W (aT Q g0) B ops rest ⟨n,ds,(d,.bool false)::l⟩ m J ba)(ai:look l d=some (.bool b):=by exact rfl) (hs:oo b cP ic:=by first|exact oo.p _|exact oo.b _):W (aT Q g0) B ops rest ⟨n,ds,l⟩ m J ba:=W.split ai (fun q=>ab (hs.y q)) (fun q=>aN (hs.n q))
theorem Mk{R:uq}{ops:List Oper}{aX:List iG}{ba:b0->aO->af->Prop}(d:Nat){b:Bool}{cP ic:Prop}(ab:cP->fL (aT Q g0) B R ops aX ⟨n,ds,(d,.bool true)::l⟩ m J ba)(aN:ic->fL (aT Q g0) B R ops aX ⟨n,ds,(d,.bool false)::l⟩ m J ba)(ai:look l d=some (.bool b):=by exact rfl) (hs:oo b cP ic:=by first|exact oo.p _|exact oo.b _):fL (aT Q g0) B R ops aX ⟨n,ds,l⟩ m J ba:=fL.split ai (fun q=>ab (hs.y q)) (fun q=>aN (hs.n q))
theorem aeh{l:List (Nat×Value)}{t:Nat}{v:Value}(h:look l t=some v:=by first|exact rfl|exact Ub rfl (by first|omega|(simp_all;done))|exact T' rfl (by first|omega|(simp_all;done))|exact Ua rfl (by first|omega|(simp_all;done)|(simp_all;omega))|exact aen rfl (by simp_all)|exact b6 some (b6 (Value.int .i64) (by omega))):look l t=some v:=h
theorem ce{p:Prop}(h:p:=by
 refine⟨⟨_,rfl,?_⟩,ih _,?_⟩
 ·repeat first|exact trivial|refine⟨aeh,?_⟩
 ·first|exact rfl|exact af.le.refl _|assumption):p:=h
def K0 (l:List (Nat×Value)):List Nat->Option (List (Nat×Value))
 |[]=>some []
 |t::ts=>match look l t with
  |some v=>(match K0 l ts with|some r=>some ((t,v)::r)|none=>none)
  |none=>none
theorem anp{l:List (Nat×Value)}:∀{ts:List Nat} {l':List (Nat×Value)},K0 l ts=some l'->kl l l':=by
 intro ts;induction ts with
 |nil=>intro l' h;injection h with h;subst h;trivial
 |cons t ts aP=>
  intro l' h;unfold K0 at h;split at h
  ·rename_i v ar;split at h
   ·rename_i r aq;injection h with h;subst h
    exact⟨ar,aP aq⟩
   ·cases h
  ·cases h
theorem dN{cd:Exit->b0->aO->af->Prop}{c:Code}{l':List (Nat×Value)}(ts:List Nat)(h:aB (aT Q g0) B c ⟨n,ds,l'⟩ m J cd)(ap:K0 l ts=some l':=by exact rfl):aB (aT Q g0) B c ⟨n,ds,l⟩ m J cd:=aB.Lz (anp ap) (ih _) h
section
variable {ops rest:List Oper}{ba:Option (List PanicEntry)->b0->aO->af->Prop}{c:Call}{x:Operand}{f:FuncId}{first cap:Array Value}{args eZ:List Value}{bl c2:aO}{dg:Value->aO->af->Prop}
theorem br(ax:o.guard=none:=by exact rfl) (ah:o.op=.call c:=by exact rfl) (al:o.dst=some d:=by exact rfl) (az:Nat.blt d n=true:=by exact rfl) (aD:c.callee=.value x:=by exact rfl) (U:bx l x=some (.func (.func f) first cap):=by exact rfl) (aF:hC l c.args.toList=some args:=by exact rfl) (has:(first.toList++args)++cap.toList=eZ:=by exact rfl) (ao:(bl++c2).Perm m:=by exact .refl _) (G:Fn (aT Q g0) f eZ bl J dg) (h:∀v m' ae,J.le ae->dg v m' ae->W (aT Q g0) B ops rest ⟨n,ds,(d,v)::l⟩ (m'++c2) ae ba):W (aT Q g0) B ops (o::rest) ⟨n,ds,l⟩ m J ba:=W.step ax (Exec.call ah al az aD U aF has ao trivial G h)
theorem hX{v:Value}(ax:o.guard=none:=by exact rfl) (ah:o.op=.call c:=by exact rfl) (al:o.dst=some d:=by exact rfl) (az:Nat.blt d n=true:=by exact rfl) (aD:c.callee=.value x:=by exact rfl) (U:bx l x=some (.func (.func f) first cap):=by exact rfl) (aF:hC l c.args.toList=some args:=by exact rfl) (has:(first.toList++args)++cap.toList=eZ:=by exact rfl) (G:Fn (aT Q g0) f eZ [] J (fun w m' ae=>w=v/\m'=[]/\ae=J)) (h:W (aT Q g0) B ops rest ⟨n,ds,(d,v)::l⟩ m J ba):W (aT Q g0) B ops (o::rest) ⟨n,ds,l⟩ m J ba:=W.step ax (Exec.call ah al az aD U aF has (.refl _) trivial G (fun v' m' ae _ q=>by obtain⟨rfl,rfl,rfl⟩:=q;exact h))
theorem vV{g:Nat}{want b:Bool}(ax:jZ ops o=some (g,want):=by exact rfl) (ai:look l g=some (.bool b):=by exact rfl) (hw:(b==want)=true:=by exact rfl) (ah:o.op=.call c:=by exact rfl) (al:o.dst=some d:=by exact rfl) (az:Nat.blt d n=true:=by exact rfl) (aD:c.callee=.value x:=by exact rfl) (U:bx l x=some (.func (.func f) first cap):=by exact rfl) (aF:hC l c.args.toList=some args:=by exact rfl) (has:(first.toList++args)++cap.toList=eZ:=by exact rfl) (ao:(bl++c2).Perm m:=by exact .refl _) (G:Fn (aT Q g0) f eZ bl J dg) (h:∀v m' ae,J.le ae->dg v m' ae->W (aT Q g0) B ops rest ⟨n,ds,(d,v)::l⟩ (m'++c2) ae ba):W (aT Q g0) B ops (o::rest) ⟨n,ds,l⟩ m J ba:=W.U0 ax ai hw (Exec.call ah al az aD U aF has ao trivial G h)
end
section
variable {ops:List Oper}{aX:List iG}{F:List (FuncId×List Value)}{i:Nat}{ba:b0->aO->af->Prop}{c:Call}{x:Operand}{f:FuncId}{first cap:Array Value}{args eZ:List Value}{bl c2:aO}{dg:Value->aO->af->Prop}
theorem dl(ak:nth ops i=some o)(ax:o.guard=none:=by exact rfl) (ah:o.op=.call c:=by exact rfl) (al:o.dst=some d:=by exact rfl) (az:Nat.blt d n=true:=by exact rfl) (aD:c.callee=.value x:=by exact rfl) (U:bx l x=some (.func (.func f) first cap):=by exact rfl) (aF:hC l c.args.toList=some args:=by exact rfl) (has:(first.toList++args)++cap.toList=eZ:=by exact rfl) (aA:F.all (fun g=>!Nat.beq g.1 f)=true:=by exact rfl) (ao:(bl++c2).Perm m:=by exact .refl _) (G:Fn (aT Q g0) f eZ bl J dg) (h:∀v m' ae,J.le ae->dg v m' ae->cm (aT Q g0) B ops aX ((f,eZ)::F) ⟨n,ds,(d,v)::l⟩ (m'++c2) ae ba):cm (aT Q g0) B ops (.bD i::aX) F ⟨n,ds,l⟩ m J ba:=cm.call ak ax ah al az aD U aF has aA ao trivial G h
theorem kO{v:Value}(ak:nth ops i=some o)(ax:o.guard=none:=by exact rfl) (ah:o.op=.call c:=by exact rfl) (al:o.dst=some d:=by exact rfl) (az:Nat.blt d n=true:=by exact rfl) (aD:c.callee=.value x:=by exact rfl) (U:bx l x=some (.func (.func f) first cap):=by exact rfl) (aF:hC l c.args.toList=some args:=by exact rfl) (has:(first.toList++args)++cap.toList=eZ:=by exact rfl) (aA:F.all (fun g=>!Nat.beq g.1 f)=true:=by exact rfl) (G:Fn (aT Q g0) f eZ [] J (fun w m' ae=>w=v/\m'=[]/\ae=J)) (h:cm (aT Q g0) B ops aX ((f,eZ)::F) ⟨n,ds,(d,v)::l⟩ m J ba):cm (aT Q g0) B ops (.bD i::aX) F ⟨n,ds,l⟩ m J ba:=cm.call ak ax ah al az aD U aF has aA (.refl _) trivial G (fun v' m' ae _ q=>by obtain⟨rfl,rfl,rfl⟩:=q;exact h)
end
theorem oa{E:b0}{t:Tmp}{dx:TypeId}{a:Nat}{cells:List Value}{e:TypeId}{v:Value}{rs:List ResultVar}{vs:List Value}(aq:l6 (aT Q g0).P E m J rs vs)(ab:look E.l t=some (.pointer (some ⟨a,0,none⟩)):=by exact rfl) (ad:(a,dw.row cells e)∈m:=by repeat first|exact .head _|refine .tail _ ?_|refine iI _ ?_) (aL:mD (aT Q g0).P dx cells 0=some v:=by first|exact yX (g2 rfl) rfl|exact iy (g2 rfl) rfl):l6 (aT Q g0).P E m J (.cell t dx::rs) (v::vs):=.cell ab ad aL aq
theorem mx{e:Exit}{E:b0}{rs:List ResultVar}{vs:List Value}{xV:List Value->aO->Prop}(ao:xV vs m')(he:e=.normal\/e=.ret:=by first|exact .inl rfl|exact .inr rfl) (al:E.ds.ds=[]:=by exact rfl) (aq:l6 (aT Q g0).P E m J rs vs:=by first|exact .tmp rfl .nil|exact .tmp rfl (.tmp rfl .nil)|exact .nil|exact oa .nil|exact oa (oa .nil)|exact .tmp rfl (.tmp rfl (.tmp rfl .nil))|exact oa (oa (oa .nil))) (hs:m'.Sublist m:=by first|exact kF _|exact ih _):(e=.normal\/e=.ret)/\E.ds.ds=[]/\∃vs m',l6 (aT Q g0).P E m J rs vs/\m'.Sublist m/\xV vs m':=⟨he,al,vs,m',aq,hs,ao⟩
end
end
theorem al'{p:Prop}(h:p:=by first|rfl|exact b6 some (b6 (Value.int .i64) (by omega))):p:=h
theorem cC{p:Prop}(h:p:=by first|omega|(simp;omega)|(simp only;omega)):p:=h
theorem pB{p:Prop}(h:p:=by first|exact fg.rd (by assumption)|exact nG.str|exact nG.own (by repeat first|exact .head _|refine .tail _ ?_|refine iI _ ?_) rfl):p:=h
theorem qr{p:Prop}(h:p:=by first|exact .own (by repeat first|exact .head _|refine .tail _ ?_|refine iI _ ?_)|exact .ed (by assumption)|exact .opn (by repeat first|exact .head _|refine .tail _ ?_|refine iI _ ?_)):p:=h
theorem anE{p:Prop}(h:p:=by first|exact List.Perm.refl _|exact KZ|exact YF|exact anl):p:=h
section
variable {Q:cZ im}{g0:Nat}
section
variable {B:c5}{o:Oper}{n:Nat}{ds:dJ}{l:List (Nat×Value)}{m:aO}{J:af}{d:Nat}
section
variable {ops rest:List Oper}{ba:Option (List PanicEntry)->b0->aO->af->Prop}
theorem gZ{t:TypeId}{x:Operand}{v:Value}{cells:List Value}(h:∀a,W (aT Q g0) B ops rest ⟨n,ds,(d,.pointer (some ⟨a,0,none⟩))::l⟩ ((a,.row cells t)::m) J ba)(ax:o.guard=none:=by exact rfl) (ah:o.op=.box t x:=by exact rfl) (al:o.dst=some d:=by exact rfl) (az:Nat.blt d n=true:=by exact rfl) (U:bx l x=some v:=by exact rfl) (aD:v.cells.toList=cells:=by exact rfl) (ab:cells.all eV=true:=by exact rfl):W (aT Q g0) B ops (o::rest) ⟨n,ds,l⟩ m J ba:=W.step ax (.of (arw ah al az U aD ab h))
theorem lj{t e:TypeId}{k sz:Nat}{zs cells:List Value}{ps:Array (Nat×Operand)}{vs:List (Nat×Value)}(h:∀a,W (aT Q g0) B ops rest ⟨n,ds,(d,.slice (some ⟨a,0,none⟩) k k)::l⟩ ((a,.row cells e)::m) J ba)(ax:o.guard=none:=by exact rfl) (ah:o.op=.buildSlice t k ps:=by exact rfl) (al:o.dst=some d:=by exact rfl) (az:Nat.blt d n=true:=by exact rfl) (ao:s9 l ps.toList=some vs:=by exact rfl) (aJ:mr (aT Q g0).P t=some (e,sz,zs):=by exact eB rfl) (hk:(Nat.ble k 100000&&Nat.ble (k*sz) 100000)=true:=by exact rfl) (aA:m8 (fun i=>some (i*sz,sz)) (fp zs k) vs=some cells:=by exact rfl) (ab:cells.all eV=true:=by exact rfl):W (aT Q g0) B ops (o::rest) ⟨n,ds,l⟩ m J ba:=W.step ax (.of (arx ah al az ao aJ hk aA ab h))
end
section
variable {R:uq}{ops:List Oper}{aX:List iG}{i g:Nat}{want b:Bool}{ba:b0->aO->af->Prop}
theorem ab2(ak:nth ops i=some o)(h:fL (aT Q g0) B R ops aX ⟨n,ds,(d,undef)::l⟩ m J ba)(ax:jZ ops o=some (g,want):=by exact rfl) (ai:look l g=some (.bool b):=by exact rfl) (hw:(b==want)=false:=by exact rfl) (al:o.dst=some d:=by exact rfl) (az:Nat.blt d n=true:=by exact rfl):fL (aT Q g0) B R ops (.val i::aX) ⟨n,ds,l⟩ m J ba:=fL.RX ak ax ai hw al az h
end
end
end
structure SI where
 d:List (Nat×Value)
 m:aO
 j:af
 i:Prop
 k:Nat
section
variable {K:dy}{B:c5}{cd:Exit->b0->aO->af->Prop}{n:Nat}{ds:dJ}
theorem aB.bA{α:Type}{c:Code}{base:List (Nat×Value)}(r:α->SI)(s:α)(hs:(r s).i)
 (bb:∀s,(r s).i->aB K B c ⟨n,ds,(r s).d++base⟩ (r s).m (r s).j fun e E m J=>match e with
  |.normal=>∃cQ l,(r cQ).i/\(r cQ).k<(r s).k/\E=⟨n,ds,l⟩/\kl l ((r cQ).d++base)/\((r cQ).m).Sublist m/\J=(r cQ).j
  |e=>cd e E m J):aB K B (.loop c) ⟨n,ds,(r s).d++base⟩ (r s).m (r s).j cd:=
 aB.alj (fun s=>(r s).d) (fun s=>(r s).m) (fun s=>(r s).j) (fun s=>(r s).i) (fun s=>(r s).k) s hs bb
theorem eH{α:Type}{r:α->SI}{base l:List (Nat×Value)}{jM:Nat}{m:aO}{J:af}(cQ:α)(ak:(r cQ).i)(hm:((r cQ).m).Sublist m:=by exact .refl _) (aY:J=(r cQ).j:=by exact rfl) (hk:(r cQ).k<jM:=by first|omega|(simp;omega)|(simp only;omega)) (ap:kl l ((r cQ).d++base):=by repeat first|exact trivial|refine⟨by first|rfl|exact b6 some (b6 (Value.int .i64) (by omega)),?_⟩):∃cQ l',(r cQ).i/\(r cQ).k<jM/\(⟨n,ds,l⟩:b0)=⟨n,ds,l'⟩/\kl l' ((r cQ).d++base)/\((r cQ).m).Sublist m/\J=(r cQ).j:=⟨cQ,l,ak,hk,rfl,ap,hm,aY⟩
end
theorem eZ{p q:Prop}(h:p)(nk:Hid p->q:=by
 intro me;repeat first
  |refine eT V.k2 ?_
  |refine eT V.NH ?_
  |refine eT V.IJ ?_
  |refine eT V.QC ?_
  |refine eT V.Kl ?_
  |refine eT V.ex ?_
  |refine eT V.uz ?_
  |refine eT V.fn ?_
  |refine eT V.P' ?_
 exact me.out):q:=nk ⟨h⟩
theorem I{p:Prop}(h:p:=by omega):p:=h
theorem bm{p:Prop}(h:p:=by decide):p:=h
end
end Go.Opn
namespace Go.Opn
noncomputable section
open Go.Cre Go.RowKit
section
variable {K:dy}{B:c5}{E:b0}{m fH:aO}{J:af}{cd:Exit->b0->aO->af->Prop}
end
section
variable {K:dy}{B:c5}{o:Oper}{n:Nat}{ds:dJ}{l:List (Nat×Value)}{m m':aO}{J:af}{e7:b0->aO->af->Prop}{d:Nat}
end
section
variable {K:dy}{B:c5}{ops:List Oper}{aX:List iG}{E:b0}{m m':aO}{J:af}{o:Oper}{ba:b0->aO->af->Prop}{cd:Exit->b0->aO->af->Prop}
variable {n:Nat}{ds:dJ}{l:List (Nat×Value)}{d i:Nat}
end
section
variable {K:dy}{B:c5}{o:Oper}{n:Nat}{ds:dJ}{l:List (Nat×Value)}{m m':aO}{J:af}{e7:b0->aO->af->Prop}{d:Nat}
theorem xC{t:TypeId}{x:Operand}{k:IntKind}{a b:Int}(ah:o.op=.unOp .neg t x)(U:bx l x=some (.int k a))(hw:k.wrap (-a)=b):cO K B o n ds l m J (.int k b):=by
 intro call aE S H aj av;unfold cj eF;simp only[ah];show fl K.P S.T H o=_;refine YH aj (by rw[ah];rfl) U rfl ?_ rfl;unfold execOp;simp only[ah];rw[hN aj H U,<-hw];show some (Next.value (.int k (k.wrap (0 -a))))=_;rw[Int.zero_sub]
end
section
variable {K:dy}{B:c5}{ops:List Oper}{aX:List iG}{F:List (FuncId×List Value)}{E:b0}{m:aO}{J:af}{ba:b0->aO->af->Prop}
end
open Classical
def s8 (f:FuncId)(args:List Value)(bd:FrameMode)(H:an)(r:Ending×FrameMode×an):FuncId->List Value->Bool->FrameMode->an->Option (Ending×FrameMode×an):=fun f' bP bG gv H'=>if f'=f/\bP=args/\bG=true/\gv=bd/\H'=H then some r else none
def Bz{P:Program}(Q:cZ P)(f:FuncId)(args:List Value)(bd:FrameMode)(H:an)(e:Ending)(gv:FrameMode)(H':an):Prop:=∀B w0,Q.ok B w0->ud P B w0 (s8 f args bd H (e,gv,H'))
def oR {P:Program}(Q:cZ P)(ek:Code->aV->an->Option (Exit×aV×an))(vl:FuncId->List Value->Bool->FrameMode->an->Option (Ending×FrameMode×an)):fv:=
 ⟨qQ Q ek,fun f args bG bd H=>if bG=true then(match vl f args bG bd H with
  |some (e,h5,H')=>if Bz Q f args bd H e h5 H' then some (e,h5,H') else none
  |none=>none) else none⟩
section
variable {P:Program}{Q:cZ P}{B:Nat->Prop}{w0:World}
theorem Sy(ek:Code->aV->an->Option (Exit×aV×an))(vl:FuncId->List Value->Bool->FrameMode->an->Option (Ending×FrameMode×an))(fY:Q.ok B w0):ud P B w0 (oR Q ek vl).body:=by
 intro f args bd H e gv H' he;unfold oR at he;simp only[Kc] at he;split at he
 ·split at he
  ·rename_i dq;simp only[cl,dm] at he;obtain⟨rfl,rfl,rfl⟩:=he;exact dq B w0 fY f args bd H _ _ _ (by unfold s8;rw[a2 ⟨rfl,rfl,rfl,rfl,rfl⟩])
  ·cases he
 ·cases he
theorem abe(ek:Code->aV->an->Option (Exit×aV×an)){f:FuncId}{args:List Value}{bd gv:FrameMode}{H H':an}{e:Ending}(h:Bz Q f args bd H e gv H'):(oR Q ek (s8 f args bd H (e,gv,H'))).body f args true bd H=some (e,gv,H'):=by
 unfold oR;simp only[Kc];have:s8 f args bd H (e,gv,H') f args true bd H=some (e,gv,H'):=by unfold s8;rw[a2 ⟨rfl,rfl,rfl,rfl,rfl⟩]
 rw[this];simp only;rw[a2 h]
def vf:FuncId->List Value->Bool->FrameMode->an->Option (Ending×FrameMode×an):=fun _ _ _ _ _=>none
theorem iS.DG{e5:aW Func}(cw:sT P e5){f:FuncId}{fn:Func}{c:Code}{args:List Value}{T:aW Value}{H H1 H':an}{a0:aV}{x:Exit}{e:Ending}{bd:FrameMode}(vl:FuncId->List Value->Bool->FrameMode->an->Option (Ending×FrameMode×an))(aA:e5.get f=some fn)(ai:fn.body=some c)(aF:nJ args 0 (Go.Cre.blank fn.ntmps)=some T)
 (aD:dk Q c ⟨T,fn.ntmps,[],false,.run,none⟩ H x a0 H1)(he:vS P (oR Q (kb c ⟨T,fn.ntmps,[],false,.run,none⟩ H (x,a0,H1)) vl) fn (some (x,a0,H1))=some (e,bd,H')):iS Q f args H e H':=by
 intro B w0 fY f1 ux pJ aw H4 tp;unfold ka at tp;split at tp
 ·rename_i q;obtain⟨rfl,rfl,rfl⟩:=q;simp only[cl,dm] at tp;obtain⟨rfl,rfl⟩:=tp;refine Nv (E:=oR Q (kb c ⟨T,fn.ntmps,[],false,.run,none⟩ pJ (x,a0,H1)) vl) cw (B4 _ fY) (Sy _ vl fY) f1 ux pJ _ _ ?_;unfold fv.call;simp only
  have:rS P e5 (oR Q (kb c ⟨T,fn.ntmps,[],false,.run,none⟩ pJ (x,a0,H1)) vl) f1 ux false .run pJ=some (e,bd,H'):=by
   unfold rS;rw[aA];show Et P _ f1 fn ux false .run pJ fn.body=_;rw[ai];show Eu P _ fn c false .run pJ (nJ ux 0 (Go.Cre.blank fn.ntmps))=_;rw[aF];show vS P _ fn (qQ Q _ c ⟨T,fn.ntmps,[],false,.run,none⟩ pJ)=_;rw[B3 aD];exact he
  rw[this]
 ·cases tp
theorem Bz.run{e5:aW Func}(cw:sT P e5){f:FuncId}{fn:Func}{c:Code}{args:List Value}{T:aW Value}{H H1 H':an}{a0:aV}{x:Exit}{e:Ending}{u bd:FrameMode}(aA:e5.get f=some fn)(ai:fn.body=some c)(aF:nJ args 0 (Go.Cre.blank fn.ntmps)=some T)
 (aD:dk Q c ⟨T,fn.ntmps,[],true,u,none⟩ H x a0 H1)(he:vS P (oR Q (kb c ⟨T,fn.ntmps,[],true,u,none⟩ H (x,a0,H1)) vf) fn (some (x,a0,H1))=some (e,bd,H')):Bz Q f args u H e bd H':=by
 intro B w0 fY f1 ux u1 pJ aw RS H4 tp;unfold s8 at tp;split at tp
 ·rename_i q;obtain⟨rfl,rfl,_,rfl,rfl⟩:=q;simp only[cl,dm] at tp;obtain⟨rfl,rfl,rfl⟩:=tp;refine Ux (E:=oR Q (kb c ⟨T,fn.ntmps,[],true,u1,none⟩ pJ (x,a0,H1)) vf) cw (B4 _ fY) (Sy _ vf fY) f1 ux u1 pJ _ _ _ ?_;unfold rS;rw[aA];show Et P _ f1 fn ux true u1 pJ fn.body=_;rw[ai];show Eu P _ fn c true u1 pJ (nJ ux 0 (Go.Cre.blank fn.ntmps))=_;rw[aF];show vS P _ fn (qQ Q _ c ⟨T,fn.ntmps,[],true,u1,none⟩ pJ)=_;rw[B3 aD];exact he
 ·cases tp
end
section
variable {K:dy}{B:c5}{f:FuncId}{fn:Func}{c:Code}{args:List Value}{bl:aO}{J:af}
theorem lb.Za{gT:Value->aO->af->Prop}(h:lb K f args bl J gT fun _ _ _=>False):Fn K f args bl J gT:=fun H av=>by
 obtain⟨H',ae,m',ab,ad⟩:=h H av;rcases ad with⟨v,aL,a6⟩|⟨bk,aL,a6⟩
 ·exact⟨v,H',ae,m',aL,ab,a6⟩
 ·exact a6.elim
def pI(K:dy)(f:FuncId)(args:List Value)(bd:FrameMode)(bl:aO)(J:af)(dg:FrameMode->aO->af->Prop):Prop:=
 ∀H,Inv K.g0 (hS bl H J) J bl H->∃v gv H' ae m',Bz K.Q f args bd H (.returned v) gv H'/\Inv K.g0 (hS bl H J) ae m' H'/\dg gv m' ae
def Um(bd:FrameMode):dJ:=⟨[],none,true,bd⟩
theorem MA{fn:Func}{args:List Value}{eM:dJ}(ap:Nat.ble args.length fn.ntmps=true):∃T,nJ args 0 (Go.Cre.blank fn.ntmps)=some T/\∀bG bd,eM=⟨[],none,bG,bd⟩->Sat ⟨fn.ntmps,eM,sY args 0⟩ ⟨T,fn.ntmps,[],bG,bd,none⟩:=by
 obtain⟨T,a7,bc,cu⟩:=MB (vs:=args) (i:=0) (n:=fn.ntmps) (MG fn.ntmps) (by have:=hv ap;omega);refine⟨T,a7,fun bG bd al=>?_⟩;subst al;refine⟨rfl,rfl,rfl,rfl,rfl,bc,fun t v q=>?_⟩;obtain⟨_,aH⟩:=Mz q;show T.get t=some v;have:t<args.length:=by
  rcases hL t args.length with r|r
  ·exact r
  ·rw[oe (by omega)] at aH;cases aH
 rw[cu,a2 (by omega)];exact aH
theorem pI.b8{bd:FrameMode}{dg:FrameMode->aO->af->Prop}(aA:K.e5.get f=some fn)(ai:fn.body=some c)(ap:Nat.ble args.length fn.ntmps=true)
 (h:∀H,aB K (hS bl H J) c ⟨fn.ntmps,Um bd,sY args 0⟩ bl J fun e E m ae=>(e=.normal\/e=.ret)/\E.ds.ds=[]/\∃vs m',l6 K.P E m ae fn.results.toList vs/\m'.Sublist m/\dg E.ds.bd m' ae):pI K f args bd bl J dg:=by
 intro H av;obtain⟨T,a7,bc⟩:=MA (eM:=Um bd) ap;have aj:=bc true bd rfl;obtain⟨e,aC,H',E',cL,ae,aU,aQ,bj,ct,fo,vs,m',jN,oD,rj⟩:=h H _ H aj av;have q5:aC.ds=[]:=aQ.ds.trans fo;have aq:=jN.uH aQ bj;refine⟨ql vs,aC.bd,H',ae,m',?_,bj.sub oD,by rw[aQ.bd];exact rj⟩;refine Bz.run K.cw aA ai a7 aU ?_;rcases ct with rfl|rfl
 ·show pT aC.bd (g8 K.P _ fn aC.T aC.ds .returning H')=_;rw[q5];unfold g8;rw[aq];rfl
 ·show pT aC.bd (g8 K.P _ fn aC.T aC.ds .returning H')=_;rw[q5];unfold g8;rw[aq];rfl
def GL:Exit->Option FrameMode
 |.normal=>some .returning
 |.ret=>some .returning
 |.panic bk=>some (.panicking bk)
 |_=>none
def Ends(K:dy)(fn:Func)(E:b0)(m:aO)(J:af)(u:FrameMode)(gT:Value->aO->af->Prop)(e9:List PanicEntry->aO->af->Prop):Prop:=
 (u=.returning/\∃vs m',l6 K.P E m J fn.results.toList vs/\m'.Sublist m/\gT (ql vs) m' J)\/∃bk m',u=.panicking bk/\m'.Sublist m/\e9 bk m' J
def Leaves(K:dy)(fn:Func)(e:Exit)(E:b0)(m:aO)(J:af)(gT:Value->aO->af->Prop)(e9:List PanicEntry->aO->af->Prop):Prop:=
 ∃u,GL e=some u/\((E.ds.ds=[]/\Ends K fn E m J u gT e9)\/
  ∃fd cap uE bl c2,E.ds.ds=[⟨.fn (.func fd) cap,uE⟩]/\(bl++c2).Perm m/\pI K fd (uE.toList++cap.toList) u bl J fun h5 m' ae=>J.le ae->Ends K fn E (m'++c2) ae (settle h5) gT e9)
theorem BY{P:Program}{E:fv}{e:Exit}{u:FrameMode}{S:aV}{H:an}(h:GL e=some u):vS P E fn (some (e,S,H))=pT S.bd (g8 P E fn S.T S.ds u H):=by
 cases e<;>first|(injection h with h;subst h;rfl)|cases h
theorem Ends.uH{E:b0}{m:aO}{u:FrameMode}{gT:Value->aO->af->Prop}{e9:List PanicEntry->aO->af->Prop}{S:aV}{H:an}{V:fv}(h:Ends K fn E m J u gT e9)(aj:Sat E S)(av:Inv K.g0 B J m H):
 ∃m',Inv K.g0 B J m' H/\((∃v,g8 K.P V fn S.T [] u H=some (.returned v,H)/\gT v m' J)\/∃bk,g8 K.P V fn S.T [] u H=some (.panicked bk,H)/\e9 bk m' J):=by
 rcases h with⟨rfl,vs,m',ab,ad,aL⟩|⟨bk,m',rfl,ad,aL⟩
 ·refine⟨m',av.sub ad,.inl ⟨ql vs,?_,aL⟩⟩;unfold g8;rw[ab.uH aj av]
 ·exact⟨m',av.sub ad,.inr ⟨bk,by unfold g8;rfl,aL⟩⟩
theorem XX{e:Exit}{u:FrameMode}(h:GL e=some u):Gn u=false:=by
 cases e<;>first|(injection h with h;subst h;rfl)|cases h
theorem lb.b8{gT:Value->aO->af->Prop}{e9:List PanicEntry->aO->af->Prop}(aA:K.e5.get f=some fn)(ai:fn.body=some c)(ap:Nat.ble args.length fn.ntmps=true)
 (h:∀H,aB K (hS bl H J) c ⟨fn.ntmps,x8,sY args 0⟩ bl J fun e E m ae=>Leaves K fn e E m ae gT e9):lb K f args bl J gT e9:=by
 intro H av;obtain⟨T,a7,bc⟩:=MA (eM:=x8) ap;have aj:=bc false .run rfl;obtain⟨e,aC,H',E',cL,ae,aU,aQ,bj,u,ct,fo⟩:=h H _ H aj av;have Ju:=aQ.ds;rcases fo with⟨fo,jN⟩|⟨fd,cap,uE,aub,c2,fo,jN,oD⟩
 ·obtain⟨m',ab,ad⟩:=jN.uH (V:=oR K.Q (kb c ⟨T,fn.ntmps,[],false,.run,none⟩ H (e,aC,H')) vf) aQ bj;refine⟨H',ae,m',ab,?_⟩;rcases ad with⟨v,ad,aL⟩|⟨bk,ad,aL⟩
  ·refine .inl ⟨v,iS.DG K.cw vf aA ai a7 aU (bd:=aC.bd) ?_,aL⟩;rw[BY ct,Ju,fo,ad];rfl
  ·refine .inr ⟨bk,iS.DG K.cw vf aA ai a7 aU (bd:=aC.bd) ?_,aL⟩;rw[BY ct,Ju,fo,ad];rfl
 ·obtain⟨v,gv,bK,de,eA,d1,d2,d3⟩:=oD H' (bj.enter jN trivial);obtain⟨rj,P6⟩:=bj.leave jN d2;obtain⟨m',ab,ad⟩:=(d3 P6).uH (V:=oR K.Q (kb c ⟨T,fn.ntmps,[],false,.run,none⟩ H (e,aC,H')) (s8 fd (uE.toList++cap.toList) u H' (.returned v,gv,bK))) aQ rj
  have q9:∀r,g8 K.P (oR K.Q (kb c ⟨T,fn.ntmps,[],false,.run,none⟩ H (e,aC,H')) (s8 fd (uE.toList++cap.toList) u H' (.returned v,gv,bK))) fn aC.T [] (settle gv) bK=some r->
   g8 K.P (oR K.Q (kb c ⟨T,fn.ntmps,[],false,.run,none⟩ H (e,aC,H')) (s8 fd (uE.toList++cap.toList) u H' (.returned v,gv,bK))) fn aC.T [⟨.fn (.func fd) cap,uE⟩] u H'=some r:=fun r aq=>by
   rw[g8];rw[XX ct,da];simp only
   show(match jG K.P H' (.func fd) uE.toList cap.toList with|none=>none|some (f,args)=>_)=_
   unfold jG;simp only
   rw[abe _ d1];exact aq
  refine⟨bK,de,m',ab,?_⟩;rcases ad with⟨w,ad,aL⟩|⟨bk,ad,aL⟩
  ·refine .inl ⟨w,iS.DG K.cw (s8 fd (uE.toList++cap.toList) u H' (.returned v,gv,bK)) aA ai a7 aU (bd:=aC.bd) ?_,aL⟩;rw[BY ct,Ju,fo,q9 _ ad];rfl
  ·refine .inr ⟨bk,iS.DG K.cw (s8 fd (uE.toList++cap.toList) u H' (.returned v,gv,bK)) aA ai a7 aU (bd:=aC.bd) ?_,aL⟩;rw[BY ct,Ju,fo,q9 _ ad];rfl
end
section
variable {K:dy}{B:c5}{ops rest:List Oper}{o:Oper}{n:Nat}{ds:dJ}{l:List (Nat×Value)}{d:Nat}{m:aO}{J:af}{ba:Option (List PanicEntry)->b0->aO->af->Prop}
theorem AP{S:aV}{H:an}{ek:Code->aV->an->Option (Exit×aV×an)}{ck:eo}(ax:o.guard=none):one K.P (gV K.Q ck) (e8 K.Q ek ck).aE ops S H o=np S H o.dst (cj K.P (gV K.Q ck) (e8 K.Q ek ck).aE S H o):=by
 unfold one fa;rw[ax];rfl
theorem TW{S:aV}{H H':an}{e:Ending}{c:Call}{x:Operand}{f:FuncId}{first cap:Array Value}{args bV:List Value}(aj:Sat ⟨n,ds,l⟩ S)(ah:o.op=.call c)(aD:c.callee=.value x)(U:bx l x=some (.func (.func f) first cap))(aF:hC l c.args.toList=some args)(has:(first.toList++args)++cap.toList=bV)(h:iS K.Q f bV H e H'):
 cj K.P (gV K.Q (ka f bV H (e,H'))) (e8 K.Q gd (ka f bV H (e,H'))).aE S H o=m5 (some (e,H')):=by
 unfold cj eF;simp only[ah];show ju K.P _ c=_;unfold ju;rw[aD];show lK K.P _ _ S.T H c=_;unfold lK;rw[m6 aj H aF];simp only[aD];rw[c6 aj H U];simp only
 show(match jG K.P H (.func f) (first.toList++args) cap.toList with|some (f,bV)=>m5 (gV K.Q _ f bV H)|none=>none)=_
 unfold jG;simp only
 rw[has,x3 h (by unfold ka;rw[a2 ⟨rfl,rfl,rfl⟩])]
theorem W.IV{c:Call}{x:Operand}{f:FuncId}{first cap:Array Value}{args bV:List Value}{bl c2:aO}{gT:Value->aO->af->Prop}{e9:List PanicEntry->aO->af->Prop}
 (ax:o.guard=none)(ah:o.op=.call c)(al:o.dst=some d)(az:Nat.blt d n=true)(aD:c.callee=.value x)(U:bx l x=some (.func (.func f) first cap))(aF:hC l c.args.toList=some args)(has:(first.toList++args)++cap.toList=bV)
 (ao:(bl++c2).Perm m)(b3:lb K f bV bl J gT e9)(h:∀v m' ae,J.le ae->gT v m' ae->W K B ops rest ⟨n,ds,(d,v)::l⟩ (m'++c2) ae ba)
 (bI:∀bk m' ae,J.le ae->e9 bk m' ae->ba (some bk) ⟨n,ds,l⟩ (m'++c2) ae):W K B ops (o::rest) ⟨n,ds,l⟩ m J ba:=by
 intro S H aj av;obtain⟨H',ae,m',aQ,bj⟩:=b3 H (av.enter ao trivial);obtain⟨ct,fo⟩:=av.leave ao aQ;rcases bj with⟨v,aU,bj⟩|⟨bk,aU,bj⟩
 ·obtain⟨a0,s1,s2⟩:=aj.put (dst:=some d) az v;obtain⟨p,aC,mV,E',k0,nA,cX,cW,eR,hH⟩:=h v m' ae fo bj a0 H' s2 ct;refine⟨p,aC,mV,E',k0,nA,.cons gd (ka f bV H (.returned v,H')) ?_ cX,cW,eR,hH⟩;rw[AP ax,TW aj ah aD U aF has aU,al];show mq H' (S.put (some d) v)=_;rw[s1];rfl
 ·refine⟨some bk,S,H',⟨n,ds,l⟩,m'++c2,ae,.fO gd (ka f bV H (.panicked bk,H')) ?_,aj,ct,bI bk m' ae fo bj⟩;rw[AP ax,TW aj ah aD U aF has aU];rfl
theorem W.panic{x:Operand}{t:TypeId}{v:Value}(ax:o.guard=none)(ah:o.op=.panic x)(U:bx l x=some (.iface t v))(h:ba (some [{v:=.iface t v,recovered:=false}]) ⟨n,ds,l⟩ m J):W K B ops (o::rest) ⟨n,ds,l⟩ m J ba:=by
 intro S H aj av;refine⟨some [{v:=.iface t v,recovered:=false}],S,H,⟨n,ds,l⟩,m,J,.fO gd j2 ?_,aj,av,h⟩;rw[AP ax];have:cj K.P (gV K.Q j2) (e8 K.Q gd j2).aE S H o=some (.fO [{v:=.iface t v,recovered:=false}] H):=by
  unfold cj eF;simp only[ah];show Ha K.P _ (a1 S.T H x)=_;rw[c6 aj H U];rfl
 rw[this];rfl
theorem W.defer{c:Call}{x:Operand}{f:FuncId}{first cap:Array Value}{args:List Value}(ax:o.guard=none)(ah:o.op=.defer c)(al:o.dst=none)(aD:c.callee=.value x)(U:bx l x=some (.func (.func f) first cap))(aF:hC l c.args.toList=some args)(aq:ds.cc=none)
 (h:W K B ops rest ⟨n,⟨⟨.fn (.func f) cap,(first.toList++args).toArray⟩::ds.ds,ds.cc,ds.bG,ds.bd⟩,l⟩ m J ba):W K B ops (o::rest) ⟨n,ds,l⟩ m J ba:=by
 intro S H aj av;have wu:Sat ⟨n,⟨⟨.fn (.func f) cap,(first.toList++args).toArray⟩::ds.ds,ds.cc,ds.bG,ds.bd⟩,l⟩ (S.DP ⟨.fn (.func f) cap,(first.toList++args).toArray⟩):=by
  obtain⟨T,Kw,eL,aeE,gv,aoz⟩:=S;exact⟨aj.n,(by show _::eL=_::ds.ds;rw[show eL=ds.ds from aj.ds]),aj.bG,aj.bd,aj.cc,aj.has,aj.get⟩
 obtain⟨p,aC,mV,E',k0,nA,cX,cW,eR,hH⟩:=h _ H wu av;refine⟨p,aC,mV,E',k0,nA,.cons gd j2 ?_ cX,cW,eR,hH⟩;rw[AP ax];have tw:S.cc=none:=aj.cc.trans aq;have:cj K.P (gV K.Q j2) (e8 K.Q gd j2).aE S H o=some (.gk ⟨.fn (.func f) cap,(first.toList++args).toArray⟩):=by
  unfold cj eF;simp only[ah];show vk K.P _ c=_;unfold vk;simp only[tw];unfold E1;rw[m6 aj H aF];simp only[aD];rw[c6 aj H U];rfl
 rw[this,al];show yR S H none _=_;unfold yR;rw[tw];rfl
def Y6 (ds:dJ):Option (Value×FrameMode):=
 match ds.cc with
 |some _=>none
 |none=>bif ds.bG then(match ds.bd with
  |.panicking ({v,recovered:=false,goexit:=false}::KT)=>some (v,.panicking ({v,recovered:=true}::KT))
  |m=>some (.nilIface,m))
  else some (.nilIface,ds.bd)
theorem W.recover{c:Call}{v:Value}{bd:FrameMode}(ax:o.guard=none)(ah:o.op=.call c)(aD:c.callee=.builtin .recover)(aF:c.args.toList=[])(al:o.dst=some d)(az:Nat.blt d n=true)(aq:Y6 ds=some (v,bd))
 (h:W K B ops rest ⟨n,⟨ds.ds,ds.cc,ds.bG,bd⟩,(d,v)::l⟩ m J ba):W K B ops (o::rest) ⟨n,ds,l⟩ m J ba:=by
 intro S H aj av;have uQ:Sat ⟨n,⟨ds.ds,ds.cc,ds.bG,bd⟩,l⟩ (S.xG bd):=by
  obtain⟨T,Kw,eL,aeE,gv,aoz⟩:=S;exact⟨aj.n,aj.ds,aj.bG,rfl,aj.cc,aj.has,aj.get⟩
 obtain⟨a0,s1,s2⟩:=uQ.put (dst:=some d) az v;obtain⟨p,aC,mV,E',k0,nA,cX,cW,eR,hH⟩:=h a0 H s2 av;refine⟨p,aC,mV,E',k0,nA,.cons gd j2 ?_ cX,cW,eR,hH⟩;rw[AP ax];have:cj K.P (gV K.Q j2) (e8 K.Q gd j2).aE S H o=some .y0:=by
  unfold cj eF;simp only[ah];show ju K.P _ c=_;unfold ju;rw[aD];simp only
  unfold pY;rw[aF];rfl
 rw[this,al];show Dt S H (some d) (pC S)=_;have e:pC S=some (v,bd):=by
  unfold pC;unfold Y6 at aq;rw[aj.cc,aj.bG,aj.bd];exact aq
 rw[e];show lz (S.xG bd) (some d) v H=_;show mq H ((S.xG bd).put (some d) v)=_;rw[s1];rfl
end
end
end Go.Opn

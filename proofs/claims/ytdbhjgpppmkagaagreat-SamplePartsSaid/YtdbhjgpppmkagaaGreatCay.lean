/- A part of the proof of SampleParts. -/
import Derived.Test.YtdbhjgpppmkagaaGreatCax
set_option maxRecDepth 100000
set_option linter.unusedVariables false
set_option linter.unusedSimpArgs false
namespace Go.Opn
noncomputable section
open Go.Cre Go.RowKit Go.Proofs
section
variable {Q:db j4}{g0:Nat}
theorem xF{α β:Type}{f:Nat->Option β}{g:α->β}:∀{L:List (Nat×α)},L.map (fun x=>f x.1)=L.map (fun x=>some (g x.2))->∀{t:Nat} {r:α},sJ L t=some r->f t=some (g r):=by
 intro L;induction L with
 |nil=>intro _ t r h;cases h
 |cons x L aG=>
  obtain⟨u,v⟩:=x;intro h t r ax;rw[k2,k2,List.cons.injEq] at h;simp only[sJ] at ax;cases ai:Nat.beq t u with
  |true=>
   rw[ai,cc] at ax;injection ax with ax;subst ax
   obtain rfl:=eK ai;exact h.1
  |false=>rw[ai,dN] at ax;exact aG h.2 ax
theorem Nt{f:Nat->Bool}:∀{L:List Nat},L.all f=true->∀{t:Nat},BW t L=true->f t=true:=by
 intro L;induction L with
 |nil=>intro _ t h;cases h
 |cons u L aG=>
  intro h t aN;rw[CO,fR] at h;simp only[BW] at aN;cases ai:Nat.beq t u with
  |true=>obtain rfl:=eK ai;exact h.1
  |false=>rw[ai,dN] at aN;exact aG h.2 aN
theorem hh{t:Nat}{r:Option Nat}(h:sJ Kp t=some r):qR (a2 Q g0).P t=some r:=xF (f:=fun t=>qR j4 t) (g:=id) Ya h
theorem h'{t:Nat}{r:Nat}(h:sJ OJ t=some r):eB (a2 Q g0).P t=some r:=xF (f:=fun t=>eB j4 t) (g:=id) ajS h
theorem ON{t f:Nat}{r:Nat}(h:sJ Lj (t*100+f)=some r)(aw:Nat.blt f 100=true):A2 (a2 Q g0).P t f=some r:=by
 have:=xF (f:=fun k=>A2 j4 (k / 100) (k % 100)) (g:=id) abm h;have aw:f<100:=by simpa[Nat.blt,tb] using aw
 rwa [show(t*100+f) / 100=t by omega,show(t*100+f) % 100=f by omega] at this
theorem Ws{t f:Nat}{r:Nat×Nat}(h:sJ Ll (t*100+f)=some r)(aw:Nat.blt f 100=true):DS (a2 Q g0).P t f=some r:=by
 have:=xF (f:=fun k=>DS j4 (k / 100) (k % 100)) (g:=id) abv h;have aw:f<100:=by simpa[Nat.blt,tb] using aw
 rwa [show(t*100+f) / 100=t by omega,show(t*100+f) % 100=f by omega] at this
theorem OL{t:Nat}{r:Nat×Nat×Nat}(h:sJ Kv t=some r):wM (a2 Q g0).P t=some r:=xF (f:=fun t=>wM j4 t) (g:=id) Yl h
theorem ajV{t:Nat}{r:Nat}(h:sJ K7 t=some r):AU (a2 Q g0).P t=some r:=xF (f:=fun t=>AU j4 t) (g:=id) aaw h
theorem OO{t:Nat}(h:BW t TZ=true):isSlice (a2 Q g0).P t=true:=Nt (f:=fun t=>isSlice j4 t) isOk h
theorem Wt{t:Nat}(h:BW t T0=true):ue (a2 Q g0).P t=true:=Nt (f:=fun t=>ue j4 t) afc h
theorem ajW{t:Nat}(h:BW t UG=true):Fy (a2 Q g0).P t=true:=Nt (f:=fun t=>Fy j4 t) af6 h
theorem ajU{t:Nat}{r:Sum (List (Nat×Nat)) Nat×List Value}(h:sJ KB t=some r):Dl (a2 Q g0).P t=some r:=xF (f:=fun t=>Dl j4 t) (g:=id) YA h
theorem OM{s t:Nat}{r:IntKind}(h:sJ KZ (s*10000+t)=some r)(aw:Nat.blt t 10000=true):isInt (a2 Q g0).P s t=some r:=by
 have:=xF (f:=fun k=>isInt j4 (k / 10000) (k % 10000)) (g:=id) ZM h;have aw:t<10000:=by simpa[Nat.blt,tb] using aw
 rwa [show(s*10000+t) / 10000=s by omega,show(s*10000+t) % 10000=t by omega] at this
structure Hid (p:Prop):Prop where
 out:p
section
variable {B:dO}{o:Oper}{n:Nat}{ds:eQ}{l:List (Nat×Value)}{m m':aI}{J:aA}{d:Nat}
theorem VF{a:Nat}{cells:List Value}(h:iI m J a cells:=by first|exact .own (by repeat first|exact .head _|refine .tail _ ?_|refine lm _ ?_)|exact .fj (by assumption)|exact .opn (by repeat first|exact .head _|refine .tail _ ?_|refine lm _ ?_)):iI m J a cells:=h
theorem V.az{x:Operand}{v:Value}(an:o.op=.move x:=by exact rfl) (I:bW l x=some v:=by exact rfl):c1 (a2 Q g0) B o n ds l m J (v):=WM an I
theorem V.a7{x:Operand}{v:Value}(an:o.op=.assign x:=by exact rfl) (I:bW l x=some v:=by exact rfl):c1 (a2 Q g0) B o n ds l m J (v):=ake an I
theorem V.bU{s:TypeId}{x:Operand}{f a off k:Nat}(an:o.op=.fieldAddr s x f:=by exact rfl) (I:bW l x=some (.pointer (some ⟨a,off,none⟩)):=by exact rfl) (aw:A2 (a2 Q g0).P s f=some k:=by exact ON rfl rfl):c1 (a2 Q g0) B o n ds l m J (.pointer (some ⟨a,off+k,none⟩)):=OW an I aw
theorem V.a9{t:TypeId}{x:Operand}{a off:Nat}{cells:List Value}{v:Value}(an:o.op=.load t x:=by exact rfl) (I:bW l x=some (.pointer (some ⟨a,off,none⟩)):=by exact rfl) (ax:iI m J a cells:=by exact VF) (ap:lS (a2 Q g0).P t cells off=some v:=by exact iR (hh rfl) (by first|rfl|assumption)):c1 (a2 Q g0) B o n ds l m J (v):=ix an I ax ap
theorem V.hb{t:TypeId}{x:Operand}{a off:Nat}{cells:List Value}{v:Value}(an:o.op=.load t x:=by exact rfl) (I:bW l x=some (.pointer (some ⟨a,off,none⟩)):=by exact rfl) (ax:iI m J a cells:=by exact VF) (ap:lS (a2 Q g0).P t cells off=some v:=by exact v5 (hh rfl) (by first|rfl|assumption)):c1 (a2 Q g0) B o n ds l m J (v):=ix an I ax ap
theorem V.bc{c x y:Operand}{t:Bool}{v:Value}(an:o.op=.pick c x y:=by exact rfl) (av:bW l c=some (.bool t):=by exact rfl) (ap:(if t=true then bW l x else bW l y)=some v:=by exact rfl):c1 (a2 Q g0) B o n ds l m J (v):=aku an av ap
theorem V.bm{op:BinOp}{t eV:TypeId}{x y:Operand}{k:IntKind}{a b:Int}{v:Value}(an:o.op=.binOp op t x y eV:=by exact rfl) (I:bW l x=some (.int k a):=by exact rfl) (ah:bW l y=some (.int k b):=by exact rfl) (ap:Ky k a b op=some v:=by exact rfl):c1 (a2 Q g0) B o n ds l m J (v):=WK an I ah ap
theorem V.va{op:BinOp}{t eV:TypeId}{x y:Operand}{k:IntKind}{a b c b1:Int}(an:o.op=.binOp op t x y eV:=by exact rfl) (I:bW l x=some (.int k a):=by exact rfl) (ah:bW l y=some (.int k b):=by exact rfl) (ap:Ku a b op=some c:=by exact rfl) (hw:k.wrap c=b1:=by first|exact wrap_i64 (by omega) (by omega)|exact wrap_u8 (by omega) (by omega)|rfl):c1 (a2 Q g0) B o n ds l m J (.int k b1):=WI an I ah ap hw
theorem V.tz{op:BinOp}{t eV:TypeId}{x y:Operand}{k:IntKind}{a b:Int}{v:Value}(an:o.op=.binOp op t x y eV:=by exact rfl) (I:bW l x=some (.int k a):=by exact rfl) (ah:bW l y=some (.int k b):=by exact rfl) (ap:AP k a b op=some v:=by exact rfl) (ai:b≠0:=by first|decide|omega):c1 (a2 Q g0) B o n ds l m J (v):=akh an I ah ap ai
theorem V.oL{v:Value}(h:c1 (a2 Q g0) B o n ds l m J v:=by first|exact akt rfl rfl|exact WO rfl rfl):c1 (a2 Q g0) B o n ds l m J (v):=h
theorem V.aiJ{v:Value}(h:c1 (a2 Q g0) B o n ds l m J v:=by exact WS rfl rfl rfl (.inl ⟨rfl,rfl⟩)):c1 (a2 Q g0) B o n ds l m J (v):=h
theorem V.eR{v:Value}(h:c1 (a2 Q g0) B o n ds l m J v:=by exact WS rfl rfl rfl (.inr ⟨rfl,rfl⟩)):c1 (a2 Q g0) B o n ds l m J (v):=h
theorem V.ex{x:Operand}{bf:Nat}{vs:Array Value}{v:Value}(an:o.op=.extract x bf:=by exact rfl) (I:bW l x=some (.tuple vs):=by exact rfl) (ap:nth vs.toList bf=some v:=by exact rfl):c1 (a2 Q g0) B o n ds l m J (v):=aki an I ap
theorem V.cr{v:Value}(h:c1 (a2 Q g0) B o n ds l m J v:=by exact WL rfl rfl rfl rfl (OO rfl)):c1 (a2 Q g0) B o n ds l m J (v):=h
theorem V.Nq{v:Value}(h:c1 (a2 Q g0) B o n ds l m J v:=by exact akr rfl rfl rfl rfl (Wt rfl)):c1 (a2 Q g0) B o n ds l m J (v):=h
theorem V.bf{t:TypeId}{x bf:Operand}{a off len cap aj:Nat}{k:IntKind}{i:Int}(an:o.op=.indexAddr t x bf:=by exact rfl) (I:bW l x=some (.slice (some ⟨a,off,none⟩) len cap):=by exact rfl) (ak:bW l bf=some (.int k i):=by exact rfl) (aN:AU (a2 Q g0).P t=some aj:=by exact ajV rfl) (bt:0<=i:=by first|omega|(simp;omega)) (aa:i<len:=by first|omega|(simp;omega)):c1 (a2 Q g0) B o n ds l m J (.pointer (some ⟨a,off+i.toNat*aj,none⟩)):=akl an I ak aN bt aa
theorem V.TR{t elem:TypeId}{x bf:Operand}{a off len aj:Nat}{k:IntKind}{i:Int}(an:o.op=.indexAddr t x bf:=by exact rfl) (I:bW l x=some (.pointer (some ⟨a,off,none⟩)):=by exact rfl) (ak:bW l bf=some (.int k i):=by exact rfl) (aN:wM (a2 Q g0).P t=some (len,elem,aj):=by exact OL rfl) (bt:0<=i:=by first|omega|(simp;omega)) (aa:i<len:=by first|omega|(simp;omega)):c1 (a2 Q g0) B o n ds l m J (.pointer (some ⟨a,off+i.toNat*aj,none⟩)):=akm an I ak aN bt aa
theorem V.lp{v:Value}(h:c1 (a2 Q g0) B o n ds l m J v:=by exact akg rfl rfl (ajU rfl) rfl):c1 (a2 Q g0) B o n ds l m J (v):=h
theorem V.l2{v:Value}(h:c1 (a2 Q g0) B o n ds l m J v:=by exact WN rfl rfl):c1 (a2 Q g0) B o n ds l m J (v):=h
theorem V.fd{v:Value}(h:c1 (a2 Q g0) B o n ds l m J v:=by exact WJ rfl rfl (Ws rfl rfl) (iR (hh rfl) rfl)):c1 (a2 Q g0) B o n ds l m J (v):=h
theorem V.aa'{v:Value}(h:c1 (a2 Q g0) B o n ds l m J v:=by exact WJ rfl rfl (Ws rfl rfl) (v5 (hh rfl) rfl)):c1 (a2 Q g0) B o n ds l m J (v):=h
theorem V.eY{v:Value}(h:c1 (a2 Q g0) B o n ds l m J v:=by exact OV rfl rfl (OM rfl rfl) (by first|exact wrap_i64 (by omega) (by omega)|exact wrap_u8 (by omega) (by omega)|rfl)):c1 (a2 Q g0) B o n ds l m J (v):=h
theorem V.fn{v:Value}(h:c1 (a2 Q g0) B o n ds l m J v:=by exact akj rfl rfl rfl):c1 (a2 Q g0) B o n ds l m J (v):=h
theorem V.TV{v:Value}(h:c1 (a2 Q g0) B o n ds l m J v:=by exact akk rfl rfl (ajW rfl)):c1 (a2 Q g0) B o n ds l m J (v):=h
theorem V.aeS{t:TypeId}{x bf:Operand}{s:List UInt8}{k:IntKind}{i:Int}{b:UInt8}(an:o.op=.index t x bf:=by exact rfl) (I:bW l x=some (.string ⟨⟨s⟩⟩):=by exact rfl) (ak:bW l bf=some (.int k i):=by exact rfl) (aN:ue (a2 Q g0).P t=true:=by exact Wt rfl) (bt:0<=i:=by first|omega|(simp;omega)) (ai:s[i.toNat]?=some b:=by first|assumption|exact du (by first|omega|(simp;omega))):c1 (a2 Q g0) B o n ds l m J (.int .u8 b.toNat):=akn an I ak aN bt ai
theorem V.VR{v:Value}(h:c1 (a2 Q g0) B o n ds l m J v:=by exact akw (op:=.eql) rfl rfl rfl (OO rfl)):c1 (a2 Q g0) B o n ds l m J (v):=h
section
variable {ops rest:List Oper}{bD:Option (List PanicEntry)->b9->aI->aA->Prop}
theorem U{v:Value}(ap:c1 (a2 Q g0) B o n ds l m J v)(h:W (a2 Q g0) B ops rest ⟨n,ds,(d,v)::l⟩ m J bD)(ar:o.guard=none:=by exact rfl) (aS:o.dst=some d:=by exact rfl) (aM:Nat.blt d n=true:=by exact rfl):W (a2 Q g0) B ops (o::rest) ⟨n,ds,l⟩ m J bD:=W.step ar (Exec.val aS aM ap h)
theorem bg{v:Value}{g:Nat}{want b:Bool}(ap:c1 (a2 Q g0) B o n ds l m J v)(h:W (a2 Q g0) B ops rest ⟨n,ds,(d,v)::l⟩ m J bD)(ar:lz ops o=some (g,want):=by exact rfl) (ai:look l g=some (.bool b):=by exact rfl) (hw:(b==want)=true:=by exact rfl) (aS:o.dst=some d:=by exact rfl) (aM:Nat.blt d n=true:=by exact rfl):W (a2 Q g0) B ops (o::rest) ⟨n,ds,l⟩ m J bD:=W.sk ar ai hw (Exec.val aS aM ap h)
theorem a0{e:Nat}{want b:Bool}(h:W (a2 Q g0) B ops rest ⟨n,ds,(e,undef)::l⟩ m J bD)(ar:lz ops o=some (d,want):=by exact rfl) (ai:look l d=some (.bool b):=by exact rfl) (hw:(b==want)=false:=by exact rfl) (aS:o.dst=some e:=by exact rfl) (aM:Nat.blt e n=true:=by exact rfl):W (a2 Q g0) B ops (o::rest) ⟨n,ds,l⟩ m J bD:=W.p2 ar ai hw aS aM h
theorem alN{e:Nat}{want:Bool}(h:W (a2 Q g0) B ops rest ⟨n,ds,(e,undef)::l⟩ m J bD)(ar:lz ops o=some (d,want):=by exact rfl) (ai:look l d=some undef:=by exact rfl) (aS:o.dst=some e:=by exact rfl) (aM:Nat.blt e n=true:=by exact rfl):W (a2 Q g0) B ops (o::rest) ⟨n,ds,l⟩ m J bD:=W.abS ar ai aS aM h
theorem fF{t:TypeId}{x y:Operand}{a off k:Nat}{v:Value}{vs cells cells':List Value}{e:TypeId}(h:W (a2 Q g0) B ops rest ⟨n,ds,l⟩ m' J bD)(ar:o.guard=none:=by exact rfl) (an:o.op=.store t x y:=by exact rfl) (aS:o.dst=none:=by exact rfl) (I:bW l x=some (.pointer (some ⟨a,off,none⟩)):=by exact rfl) (ah:bW l y=some v:=by exact rfl) (aH:eB (a2 Q g0).P t=some k:=by exact h' rfl) (av:v.cells.toList=vs:=by exact rfl) (ay:Nat.beq vs.length k=true:=by exact rfl) (bt:Nat.blt 0 vs.length=true:=by exact rfl) (aa:vs.all eT=true:=by exact rfl) (au:dc m a (.row cells e) (.row cells' e) m':=by repeat first|exact .head _ _ _ _|apply dc.tail|apply dc.app) (al:gE off cells vs=some cells':=by exact rfl):W (a2 Q g0) B ops (o::rest) ⟨n,ds,l⟩ m J bD:=W.step ar (.of (jY an aS I ah aH av ay bt aa al au h))
end
section
variable {ops:List Oper}{a8:List iW}{F:List (FuncId×List Value)}{i:Nat}{bD:b9->aI->aA->Prop}
theorem aB{v:Value}(ak:nth ops i=some o)(ap:c1 (a2 Q g0) B o n ds l m J v)(h:a3 (a2 Q g0) B ops a8 F ⟨n,ds,(d,v)::l⟩ m J bD)(ar:o.guard=none:=by exact rfl) (aS:o.dst=some d:=by exact rfl) (aM:Nat.blt d n=true:=by exact rfl):a3 (a2 Q g0) B ops (.val i::a8) F ⟨n,ds,l⟩ m J bD:=a3.val ak ar aS aM ap h
theorem Gl{v:Value}(ak:nth ops i=some o)(ap:c1 (a2 Q g0) B o n ds l m J v)(h:a3 (a2 Q g0) B ops a8 F ⟨n,ds,(d,v)::l⟩ m J bD)(ar:o.guard=none:=by exact rfl) (aS:o.dst=some d:=by exact rfl) (aM:Nat.blt d n=true:=by exact rfl):a3 (a2 Q g0) B ops (.cv i::a8) F ⟨n,ds,l⟩ m J bD:=a3.Zd ak ar aS aM ap h
theorem m6{t:TypeId}{x y:Operand}{a off k:Nat}{v:Value}{vs cells cells':List Value}{e:TypeId}(ak:nth ops i=some o)(h:a3 (a2 Q g0) B ops a8 F ⟨n,ds,l⟩ m' J bD)(ar:o.guard=none:=by exact rfl) (an:o.op=.store t x y:=by exact rfl) (aS:o.dst=none:=by exact rfl) (I:bW l x=some (.pointer (some ⟨a,off,none⟩)):=by exact rfl) (ah:bW l y=some v:=by exact rfl) (aH:eB (a2 Q g0).P t=some k:=by exact h' rfl) (av:v.cells.toList=vs:=by exact rfl) (ay:Nat.beq vs.length k=true:=by exact rfl) (bt:Nat.blt 0 vs.length=true:=by exact rfl) (aa:vs.all eT=true:=by exact rfl) (au:dc m a (.row cells e) (.row cells' e) m':=by repeat first|exact .head _ _ _ _|apply dc.tail|apply dc.app) (al:gE off cells vs=some cells':=by exact rfl):a3 (a2 Q g0) B ops (.cv i::a8) F ⟨n,ds,l⟩ m J bD:=a3.ij ak ar (jY an aS I ah aH av ay bt aa al au h)
end
section
variable {R:qN}{ops:List Oper}{a8:List iW}{i g:Nat}{want b:Bool}{bD:b9->aI->aA->Prop}
theorem dJ{v:Value}(ak:nth ops i=some o)(ap:c1 (a2 Q g0) B o n ds l m J v)(h:eb (a2 Q g0) B R ops a8 ⟨n,ds,(d,v)::l⟩ m J bD)(ar:o.guard=none:=by exact rfl) (aS:o.dst=some d:=by exact rfl) (aM:Nat.blt d n=true:=by exact rfl):eb (a2 Q g0) B R ops (.val i::a8) ⟨n,ds,l⟩ m J bD:=eb.val ak ar aS aM ap h
theorem eG{v:Value}(ak:nth ops i=some o)(ap:c1 (a2 Q g0) B o n ds l m J v)(h:eb (a2 Q g0) B R ops a8 ⟨n,ds,(d,v)::l⟩ m J bD)(ar:lz ops o=some (g,want):=by exact rfl) (ai:look l g=some (.bool b):=by exact rfl) (hw:(b==want)=true:=by exact rfl) (aS:o.dst=some d:=by exact rfl) (aM:Nat.blt d n=true:=by exact rfl):eb (a2 Q g0) B R ops (.val i::a8) ⟨n,ds,l⟩ m J bD:=eb.Cw ak ar ai hw aS aM ap h
end
theorem s4{v u:Value}(h:hA 8 v u=true:=by first|assumption|rfl|exact WX _ _ _|exact WW _ _|exact WZ _ _|exact WY (by assumption) _ _ _|(refine aky ?_;repeat first|exact akB|refine akA ?_ ?_|exact WX _ _ _|exact WZ _ _|exact WW _ _|exact WY (by assumption) _ _ _)|simp[hA,addrEq]):hA 8 v u=true:=h
theorem fs{v:Value}(h:c1 (a2 Q g0) B o n ds l m J v:=by first|exact V.az|exact V.a7|exact V.bU|exact V.a9|exact V.hb|exact V.bf|exact V.bc|exact V.va|exact V.bm|exact V.ex|exact V.lp|exact V.oL|exact V.va|exact V.tz|exact V.cr|exact V.Nq|exact V.aiJ|exact V.eR|exact V.l2|exact V.fd|exact V.aa'|exact V.eY|exact V.fn|exact V.TV|exact V.aeS|exact V.TR|exact V.VR):c1 (a2 Q g0) B o n ds l m J v:=h
theorem g7{ops:List Oper}{is:List Nat}(h:uG (a2 Q g0) B ops n ds l m J is:=by
 repeat first
  |exact trivial
  |exact kH.val rfl rfl rfl fs rfl s4
  |exact kH.Cw rfl rfl rfl rfl rfl fs rfl s4
  |exact kH.no rfl (Lo rfl rfl rfl)
  |exact kH.no rfl (abD rfl rfl)
  |refine⟨?_,?_⟩):uG (a2 Q g0) B ops n ds l m J is:=h
theorem bu{ops:List Oper}{E:b9}{bD:Option (List PanicEntry)->b9->aI->aA->Prop}(h:bD none E m J):W (a2 Q g0) B ops [] E m J bD:=W.nil h
theorem rg{p q:Prop}(h:p)(lW:Hid p->q:=by
 intro ox;repeat refine ae.seq ?_
 refine ae.region ?_;exact ox.out):q:=lW ⟨h⟩
theorem aJ{p q:Prop}(h:p)(lW:Hid p->q:=by
 intro ox;repeat refine ae.seq ?_
 exact ox.out):q:=lW ⟨h⟩
theorem bP{p q:Prop}(h:p)(lW:Hid p->q:=by
 intro ox;refine bu ?_;repeat refine ae.seq ?_
 refine ae.region ?_;exact ox.out):q:=lW ⟨h⟩
theorem ns{p q:Prop}(h:p)(lW:Hid p->q:=by
 intro ox;refine bu ?_;repeat refine ae.seq ?_
 exact ox.out):q:=lW ⟨h⟩
theorem gn{p q:Prop}(h:p)(lW:Hid p->q:=by
 intro ox;repeat refine ae.seq ?_
 refine ae.skip ?_;exact ox.out):q:=lW ⟨h⟩
theorem n0{p q:Prop}(h:p)(lW:Hid p->q:=by
 intro ox;repeat refine ae.seq ?_
 refine ae.skip ?_;repeat refine ae.seq ?_
 refine ae.region ?_;exact ox.out):q:=lW ⟨h⟩
structure pP (t:Bool) (dS hz:Prop):Prop where
 y:t=true->dS
 n:t=false->hz
theorem pP.p(p:Prop)[Decidable p]:pP (decide p) p (¬p):=⟨B7,of_decide_eq_false⟩
theorem pP.b(t:Bool):pP t (t=true) (t=false):=⟨id,id⟩
theorem If{cx:Exit->b9->aI->aA->Prop}{x:Operand}{a b:Code}{t:Bool}{dS hz:Prop}(aa:dS->ae (a2 Q g0) B a ⟨n,ds,l⟩ m J cx)(bt:hz->ae (a2 Q g0) B b ⟨n,ds,l⟩ m J cx)(I:bW l x=some (.bool t):=by exact rfl) (al:pP t dS hz:=by first|exact pP.p _|exact pP.b _):ae (a2 Q g0) B (.cond x a b) ⟨n,ds,l⟩ m J cx:=ae.cond I (fun q=>aa (al.y q)) (fun q=>bt (al.n q))
theorem eu{ops rest:List Oper}{bD:Option (List PanicEntry)->b9->aI->aA->Prop}(d:Nat){b:Bool}{dS hz:Prop}(aa:dS->W (a2 Q g0) B ops rest ⟨n,ds,(d,.bool true)::l⟩ m J bD)(bt:hz->W (a2 Q g0) B ops rest ⟨n,ds,(d,.bool false)::l⟩ m J bD)(ai:look l d=some (.bool b):=by exact rfl) (al:pP b dS hz:=by first|exact pP.p _|exact pP.b _):W (a2 Q g0) B ops rest ⟨n,ds,l⟩ m J bD:=W.split ai (fun q=>aa (al.y q)) (fun q=>bt (al.n q))
theorem te{R:qN}{ops:List Oper}{a8:List iW}{bD:b9->aI->aA->Prop}(d:Nat){b:Bool}{dS hz:Prop}(aa:dS->eb (a2 Q g0) B R ops a8 ⟨n,ds,(d,.bool true)::l⟩ m J bD)(bt:hz->eb (a2 Q g0) B R ops a8 ⟨n,ds,(d,.bool false)::l⟩ m J bD)(ai:look l d=some (.bool b):=by exact rfl) (al:pP b dS hz:=by first|exact pP.p _|exact pP.b _):eb (a2 Q g0) B R ops a8 ⟨n,ds,l⟩ m J bD:=eb.split ai (fun q=>aa (al.y q)) (fun q=>bt (al.n q))
theorem gu{l:List (Nat×Value)}{t:Nat}{v:Value}(h:look l t=some v:=by first|exact rfl|exact u9 rfl (by first|omega|(simp_all;done))|exact u6 rfl (by first|omega|(simp_all;done))|exact u7 rfl (by first|omega|(simp_all;done)|(simp_all;omega))|exact u5 rfl (by simp_all)|exact fl some (fl (Value.int .i64) (by omega))):look l t=some v:=h
theorem ce{p:Prop}(h:p:=by
 refine⟨⟨_,rfl,?_⟩,bV _,?_⟩
 ·repeat first|exact trivial|refine⟨gu,?_⟩
 ·first|exact rfl|exact aA.le.refl _|assumption):p:=h
def I9 (l:List (Nat×Value)):List Nat->Option (List (Nat×Value))
 |[]=>some []
 |t::fN=>match look l t with
  |some v=>(match I9 l fN with|some r=>some ((t,v)::r)|none=>none)
  |none=>none
theorem ahJ{l:List (Nat×Value)}:∀{fN:List Nat} {l':List (Nat×Value)},I9 l fN=some l'->oT l l':=by
 intro fN;induction fN with
 |nil=>intro l' h;injection h with h;subst h;trivial
 |cons t fN aG=>
  intro l' h;unfold I9 at h;split at h
  ·rename_i v ap;split at h
   ·rename_i r ax;injection h with h;subst h
    exact⟨ap,aG ax⟩
   ·cases h
  ·cases h
theorem kq{cx:Exit->b9->aI->aA->Prop}{c:Code}{l':List (Nat×Value)}(fN:List Nat)(h:ae (a2 Q g0) B c ⟨n,ds,l'⟩ m J cx)(ay:I9 l fN=some l':=by exact rfl):ae (a2 Q g0) B c ⟨n,ds,l⟩ m J cx:=ae.fy (ahJ ay) (bV _) h
section
variable {ops rest:List Oper}{bD:Option (List PanicEntry)->b9->aI->aA->Prop}{c:Call}{x:Operand}{f:FuncId}{first cap:Array Value}{args aV:List Value}{a4 b2:aI}{dT:Value->aI->aA->Prop}
theorem cl(ar:o.guard=none:=by exact rfl) (an:o.op=.call c:=by exact rfl) (aS:o.dst=some d:=by exact rfl) (aM:Nat.blt d n=true:=by exact rfl) (av:c.callee=.value x:=by exact rfl) (I:bW l x=some (.func (.func f) first cap):=by exact rfl) (aW:il l c.args.toList=some args:=by exact rfl) (has:(first.toList++args)++cap.toList=aV:=by exact rfl) (au:(a4++b2).Perm m:=by exact .refl _) (G:Fn (a2 Q g0) f aV a4 J dT) (h:∀v m' ag,J.le ag->dT v m' ag->W (a2 Q g0) B ops rest ⟨n,ds,(d,v)::l⟩ (m'++b2) ag bD):W (a2 Q g0) B ops (o::rest) ⟨n,ds,l⟩ m J bD:=W.step ar (Exec.call an aS aM av I aW has au trivial G h)
theorem pV{v:Value}(ar:o.guard=none:=by exact rfl) (an:o.op=.call c:=by exact rfl) (aS:o.dst=some d:=by exact rfl) (aM:Nat.blt d n=true:=by exact rfl) (av:c.callee=.value x:=by exact rfl) (I:bW l x=some (.func (.func f) first cap):=by exact rfl) (aW:il l c.args.toList=some args:=by exact rfl) (has:(first.toList++args)++cap.toList=aV:=by exact rfl) (G:Fn (a2 Q g0) f aV [] J (fun w m' ag=>w=v/\m'=[]/\ag=J)) (h:W (a2 Q g0) B ops rest ⟨n,ds,(d,v)::l⟩ m J bD):W (a2 Q g0) B ops (o::rest) ⟨n,ds,l⟩ m J bD:=W.step ar (Exec.call an aS aM av I aW has (.refl _) trivial G (fun v' m' ag _ q=>by obtain⟨rfl,rfl,rfl⟩:=q;exact h))
theorem qX{g:Nat}{want b:Bool}(ar:lz ops o=some (g,want):=by exact rfl) (ai:look l g=some (.bool b):=by exact rfl) (hw:(b==want)=true:=by exact rfl) (an:o.op=.call c:=by exact rfl) (aS:o.dst=some d:=by exact rfl) (aM:Nat.blt d n=true:=by exact rfl) (av:c.callee=.value x:=by exact rfl) (I:bW l x=some (.func (.func f) first cap):=by exact rfl) (aW:il l c.args.toList=some args:=by exact rfl) (has:(first.toList++args)++cap.toList=aV:=by exact rfl) (au:(a4++b2).Perm m:=by exact .refl _) (G:Fn (a2 Q g0) f aV a4 J dT) (h:∀v m' ag,J.le ag->dT v m' ag->W (a2 Q g0) B ops rest ⟨n,ds,(d,v)::l⟩ (m'++b2) ag bD):W (a2 Q g0) B ops (o::rest) ⟨n,ds,l⟩ m J bD:=W.sk ar ai hw (Exec.call an aS aM av I aW has au trivial G h)
end
section
variable {ops:List Oper}{a8:List iW}{F:List (FuncId×List Value)}{i:Nat}{bD:b9->aI->aA->Prop}{c:Call}{x:Operand}{f:FuncId}{first cap:Array Value}{args aV:List Value}{a4 b2:aI}{dT:Value->aI->aA->Prop}
theorem dl(ak:nth ops i=some o)(ar:o.guard=none:=by exact rfl) (an:o.op=.call c:=by exact rfl) (aS:o.dst=some d:=by exact rfl) (aM:Nat.blt d n=true:=by exact rfl) (av:c.callee=.value x:=by exact rfl) (I:bW l x=some (.func (.func f) first cap):=by exact rfl) (aW:il l c.args.toList=some args:=by exact rfl) (has:(first.toList++args)++cap.toList=aV:=by exact rfl) (aw:F.all (fun g=>!Nat.beq g.1 f)=true:=by exact rfl) (au:(a4++b2).Perm m:=by exact .refl _) (G:Fn (a2 Q g0) f aV a4 J dT) (h:∀v m' ag,J.le ag->dT v m' ag->a3 (a2 Q g0) B ops a8 ((f,aV)::F) ⟨n,ds,(d,v)::l⟩ (m'++b2) ag bD):a3 (a2 Q g0) B ops (.cv i::a8) F ⟨n,ds,l⟩ m J bD:=a3.call ak ar an aS aM av I aW has aw au trivial G h
theorem ik{v:Value}(ak:nth ops i=some o)(ar:o.guard=none:=by exact rfl) (an:o.op=.call c:=by exact rfl) (aS:o.dst=some d:=by exact rfl) (aM:Nat.blt d n=true:=by exact rfl) (av:c.callee=.value x:=by exact rfl) (I:bW l x=some (.func (.func f) first cap):=by exact rfl) (aW:il l c.args.toList=some args:=by exact rfl) (has:(first.toList++args)++cap.toList=aV:=by exact rfl) (aw:F.all (fun g=>!Nat.beq g.1 f)=true:=by exact rfl) (G:Fn (a2 Q g0) f aV [] J (fun w m' ag=>w=v/\m'=[]/\ag=J)) (h:a3 (a2 Q g0) B ops a8 ((f,aV)::F) ⟨n,ds,(d,v)::l⟩ m J bD):a3 (a2 Q g0) B ops (.cv i::a8) F ⟨n,ds,l⟩ m J bD:=a3.call ak ar an aS aM av I aW has aw (.refl _) trivial G (fun v' m' ag _ q=>by obtain⟨rfl,rfl,rfl⟩:=q;exact h)
end
theorem Ck{E:b9}{t:Tmp}{eV:TypeId}{a:Nat}{cells:List Value}{e:TypeId}{v:Value}{g1:List ResultVar}{vs:List Value}(ax:pO (a2 Q g0).P E m J g1 vs)(aa:look E.l t=some (.pointer (some ⟨a,0,none⟩)):=by exact rfl) (ab:(a,cI.row cells e)∈m:=by repeat first|exact .head _|refine .tail _ ?_|refine lm _ ?_) (aK:lS (a2 Q g0).P eV cells 0=some v:=by first|exact v5 (hh rfl) rfl|exact iR (hh rfl) rfl):pO (a2 Q g0).P E m J (.cell t eV::g1) (v::vs):=.cell aa ab aK ax
theorem hk{e:Exit}{E:b9}{g1:List ResultVar}{vs:List Value}{P4:List Value->aI->Prop}(au:P4 vs m')(he:e=.normal\/e=.ret:=by first|exact .inl rfl|exact .inr rfl) (aS:E.ds.ds=[]:=by exact rfl) (ax:pO (a2 Q g0).P E m J g1 vs:=by first|exact .tmp rfl .nil|exact .tmp rfl (.tmp rfl .nil)|exact .nil|exact Ck .nil|exact Ck (Ck .nil)|exact .tmp rfl (.tmp rfl (.tmp rfl .nil))|exact Ck (Ck (Ck .nil))) (al:m'.Sublist m:=by first|exact mc _|exact bV _):(e=.normal\/e=.ret)/\E.ds.ds=[]/\∃vs m',pO (a2 Q g0).P E m J g1 vs/\m'.Sublist m/\P4 vs m':=⟨he,aS,vs,m',ax,al,au⟩
end
end
theorem ec{p:Prop}(h:p:=by first|rfl|exact fl some (fl (Value.int .i64) (by omega))):p:=h
theorem cQ{p:Prop}(h:p:=by first|omega|(simp;omega)|(simp only;omega)):p:=h
theorem nw{p:Prop}(h:p:=by first|exact hl.rd (by assumption)|exact nb.str|exact nb.own (by repeat first|exact .head _|refine .tail _ ?_|refine lm _ ?_) rfl):p:=h
theorem qr{p:Prop}(h:p:=by first|exact .own (by repeat first|exact .head _|refine .tail _ ?_|refine lm _ ?_)|exact .fj (by assumption)|exact .opn (by repeat first|exact .head _|refine .tail _ ?_|refine lm _ ?_)):p:=h
theorem Jd{p:Prop}(h:p:=by first|exact PE _|exact Ce|exact I6|exact I7|exact ahs):p:=h
section
variable {Q:db j4}{g0:Nat}
section
variable {B:dO}{o:Oper}{n:Nat}{ds:eQ}{l:List (Nat×Value)}{m:aI}{J:aA}{d:Nat}
section
variable {ops rest:List Oper}{bD:Option (List PanicEntry)->b9->aI->aA->Prop}
theorem fG{t:TypeId}{x:Operand}{v:Value}{cells:List Value}(h:∀a,W (a2 Q g0) B ops rest ⟨n,ds,(d,.pointer (some ⟨a,0,none⟩))::l⟩ ((a,.row cells t)::m) J bD)(ar:o.guard=none:=by exact rfl) (an:o.op=.box t x:=by exact rfl) (aS:o.dst=some d:=by exact rfl) (aM:Nat.blt d n=true:=by exact rfl) (I:bW l x=some v:=by exact rfl) (av:v.cells.toList=cells:=by exact rfl) (aa:cells.all eT=true:=by exact rfl):W (a2 Q g0) B ops (o::rest) ⟨n,ds,l⟩ m J bD:=W.step ar (.of (alc an aS aM I av aa h))
theorem uV{t e:TypeId}{k aj:Nat}{gd cells:List Value}{dx:Array (Nat×Operand)}{vs:List (Nat×Value)}(aN:kn (a2 Q g0).P t=some (e,aj,gd))(h:∀a,W (a2 Q g0) B ops rest ⟨n,ds,(d,.slice (some ⟨a,0,none⟩) k k)::l⟩ ((a,.row cells e)::m) J bD)(ar:o.guard=none:=by exact rfl) (an:o.op=.buildSlice t k dx:=by exact rfl) (aS:o.dst=some d:=by exact rfl) (aM:Nat.blt d n=true:=by exact rfl) (au:sb l dx.toList=some vs:=by exact rfl) (aH:(Nat.ble k 100000&&Nat.ble (k*aj) 100000)=true:=by exact rfl) (aw:mQ (fun i=>some (i*aj,aj)) (gp gd k) vs=some cells:=by exact rfl) (aa:cells.all eT=true:=by exact rfl):W (a2 Q g0) B ops (o::rest) ⟨n,ds,l⟩ m J bD:=W.step ar (.of (ald an aS aM au aN aH aw aa h))
end
section
variable {R:qN}{ops:List Oper}{a8:List iW}{i g:Nat}{want b:Bool}{bD:b9->aI->aA->Prop}
theorem cW(ak:nth ops i=some o)(h:eb (a2 Q g0) B R ops a8 ⟨n,ds,(d,undef)::l⟩ m J bD)(ar:lz ops o=some (g,want):=by exact rfl) (ai:look l g=some (.bool b):=by exact rfl) (hw:(b==want)=false:=by exact rfl) (aS:o.dst=some d:=by exact rfl) (aM:Nat.blt d n=true:=by exact rfl):eb (a2 Q g0) B R ops (.val i::a8) ⟨n,ds,l⟩ m J bD:=eb.JG ak ar ai hw aS aM h
end
end
end
structure PC where
 d:List (Nat×Value)
 m:aI
 j:aA
 i:Prop
 k:Nat
section
variable {K:eN}{B:dO}{cx:Exit->b9->aI->aA->Prop}{n:Nat}{ds:eQ}
theorem ae.cf{α:Type}{c:Code}{base:List (Nat×Value)}(r:α->PC)(s:α)(al:(r s).i)
 (cp:∀s,(r s).i->ae K B c ⟨n,ds,(r s).d++base⟩ (r s).m (r s).j fun e E m J=>match e with
  |.normal=>∃cZ l,(r cZ).i/\(r cZ).k<(r s).k/\E=⟨n,ds,l⟩/\oT l ((r cZ).d++base)/\((r cZ).m).Sublist m/\J=(r cZ).j
  |e=>cx e E m J):ae K B (.loop c) ⟨n,ds,(r s).d++base⟩ (r s).m (r s).j cx:=
 ae.afz (fun s=>(r s).d) (fun s=>(r s).m) (fun s=>(r s).j) (fun s=>(r s).i) (fun s=>(r s).k) s al cp
theorem e2{α:Type}{r:α->PC}{base l:List (Nat×Value)}{gX:Nat}{m:aI}{J:aA}(cZ:α)(ak:(r cZ).i)(hm:((r cZ).m).Sublist m:=by exact .refl _) (aU:J=(r cZ).j:=by exact rfl) (aH:(r cZ).k<gX:=by first|omega|(simp;omega)|(simp only;omega)) (ay:oT l ((r cZ).d++base):=by repeat first|exact trivial|refine⟨by first|rfl|exact fl some (fl (Value.int .i64) (by omega)),?_⟩):∃cZ l',(r cZ).i/\(r cZ).k<gX/\(⟨n,ds,l⟩:b9)=⟨n,ds,l'⟩/\oT l' ((r cZ).d++base)/\((r cZ).m).Sublist m/\J=(r cZ).j:=⟨cZ,l,ak,aH,rfl,ay,hm,aU⟩
end
theorem aV{p q:Prop}(h:p)(lW:Hid p->q:=by
 intro ox;repeat first
  |refine U V.az ?_
  |refine U V.bU ?_
  |refine U V.a7 ?_
  |refine U V.l2 ?_
  |refine U V.cr ?_
  |refine U V.ex ?_
  |refine U V.lp ?_
  |refine U V.fn ?_
  |refine U V.Nq ?_
 exact ox.out):q:=lW ⟨h⟩
theorem cm{p q:Prop}(h:p)(lW:Hid p->q:=by
 intro ox;repeat first
  |refine aB rfl V.az ?_
  |refine aB rfl V.bU ?_
  |refine aB rfl V.a7 ?_
  |refine aB rfl V.l2 ?_
  |refine aB rfl V.cr ?_
  |refine aB rfl V.ex ?_
  |refine aB rfl V.lp ?_
  |refine aB rfl V.fn ?_
  |refine aB rfl V.Nq ?_
 exact ox.out):q:=lW ⟨h⟩
end
end Go.Opn
namespace Go.Opn
noncomputable section
structure cH where
 k:Int
 p:Int
 i:Int
 af:List Int
 ws:List Int
 gw:List Int
structure bp where
 pl:Int
 ns:List cH
 is:List (Int×Int)
open Classical
def fh (g:bp)(x:cH):Int:=
 if x.k=1 then
  if x.p≠0\/x.i≠0\/0<x.gw.length\/x.af.length<1\/60<x.af.length\/x.ws.length≠x.af.length then 3
  else if ∃w∈x.ws,w<1\/1000<w then 2 else 0
 else if x.k=2 then
  if 0<x.gw.length\/0<x.ws.length\/x.af.length<1\/10<x.af.length then 3
  else if x.p<0\/g.pl<=x.p\/x.i<0\/(g.is.length:Int)<=x.i then 2 else 0
 else if x.k=3 then
  if x.p≠0\/x.i≠0\/0<x.af.length\/0<x.ws.length\/(x.gw.length:Int)≠g.pl then 3
  else if ∃w∈x.gw,w< -1000000\/1000000<w then 2 else 0
 else 3
def n2 (g:bp):List cH->Int
 |[]=>0
 |x::r=>if fh g x≠0 then fh g x else n2 g r
abbrev fD:=Int×Int×Int
def gL(rec:Nat->Option (Nat×List fD)):List Int->Nat->Option (Nat×List fD)
 |[],n=>some (n,[])
 |c::r,n=>if c≠(n:Int) then none else match rec n with
  |none=>none
  |some (b5,es)=>match gL rec r b5 with
   |none=>none
   |some (dr,vf)=>some (dr,es++vf)
def dW(ns:List cH):Nat->Int->Int->Nat->Option (Nat×List fD)
 |0,_,_,_=>none
 |f+1,iQ,d,a=>match ns[a]? with
  |none=>none
  |some x=>match gL (dW ns f a (d+1)) x.af (a+1) with
   |none=>none
   |some (n,es)=>some (n,(iQ,d,(n:Int) -1)::es)
def vc(es:List fD):Int:=es.foldl (fun m e=>max m e.2.1) 0
def fx(i:Int):Nat->List cH->List Int
 |_,[]=>[]
 |j,x::r=>if x.k=2/\x.i=i then(j:Int)::fx i (j+1) r else fx i (j+1) r
def jE(g:bp):List (List Int):=(List.range g.is.length).map fun(i:Nat)=>fx (i:Int) 0 g.ns
def nP(l:List Int):Int:=match l with|[]=>-1|x::_=>x
def kR (g:bp):Int:=
 if g.pl<1\/4<g.pl\/g.ns.length<1\/2000<g.ns.length\/200<g.is.length then 2
 else if n2 g g.ns≠0 then n2 g g.ns
 else match dW g.ns (g.ns.length+1) (-1) 0 0 with
  |none=>9
  |some (n,es)=>
   if n≠g.ns.length then 9
   else if 40<vc es then 5
   else if ∃x∈g.ns,x.k=2/\g.is[x.i.toNat]?≠some (x.p,(x.af.length:Int)) then 10
   else if ∃s∈jE g,s=[] then 18
   else if ∃(i:Nat) (s t:List Int),(jE g)[i]?=some s/\(jE g)[i+1]?=some t/\nP t<nP s then 9
   else 0
theorem agb{g:bp}:∀{l:List cH},n2 g l=0->∀x∈l,fh g x=0:=by
 intro l;induction l with
 |nil=>intro _ x I;cases I
 |cons y r aG=>
  intro h x I;have h:(if fh g y≠0 then fh g y else n2 g r)=0:=h;by_cases q:fh g y=0
  ·rw[aq (fun k=>k q)] at h;rcases ft.1 I with e|e
   ·rw[e];exact q
   ·exact aG h x e
  ·rw[aF q] at h;exact absurd h q
theorem UI{g:bp}{x:cH}(h:fh g x=0)(au:g.pl<=4):x.af.length<=60/\x.ws.length<=60/\x.gw.length<=60:=by
 unfold fh at h;split at h
 ·split at h
  ·omega
  ·split at h<;>omega
 ·split at h
  ·split at h
   ·omega
   ·split at h<;>omega
  ·split at h
   ·split at h
    ·omega
    ·split at h<;>omega
   ·omega
structure uJ (g:bp):Prop where
 dS:1<=g.pl
 jA:g.pl<=4
 b5:1<=g.ns.length
 dr:g.ns.length<=2000
 i2:g.is.length<=200
 nodes:∀x∈g.ns,fh g x=0
 walk:∃es,dW g.ns (g.ns.length+1) (-1) 0 0=some (g.ns.length,es)/\vc es<=40
 types:∀x∈g.ns,x.k=2->g.is[x.i.toNat]?=some (x.p,(x.af.length:Int))
 ai0:∀s∈jE g,s≠[]
theorem Hr{g:bp}(h:kR g=0):uJ g:=by
 unfold kR at h;split at h
 ·omega
 rename_i aa;split at h
 ·rename_i q;exact absurd h q
 rename_i ab;split at h
 ·omega
 rename_i n es aK;split at h
 ·omega
 rename_i bh;split at h
 ·omega
 rename_i ff;split at h
 ·omega
 rename_i gz;split at h
 ·omega
 rename_i ml;have bh:n=g.ns.length:=uH.1 bh;subst bh;refine⟨by omega,by omega,by omega,by omega,by omega,agb (uH.1 ab),⟨es,aK,by omega⟩,fun x I aH=>?_,fun s al q=>ml ⟨s,al,q⟩⟩;exact CI fun q=>gz ⟨x,I,aH,q⟩
end
end Go.Opn

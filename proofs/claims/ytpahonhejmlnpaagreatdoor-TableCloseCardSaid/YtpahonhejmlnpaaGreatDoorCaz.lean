/- A part of the proof of TableClose. -/
import Derived.Test.YtpahonhejmlnpaaGreatDoorCax
import Derived.Test.YtpahonhejmlnpaaGreatDoorCay
import Derived.Test.YtpahonhejmlnpaaGreatDoorCaw
set_option maxRecDepth 100000
set_option linter.unusedVariables false
set_option linter.unusedSimpArgs false
namespace Go.Opn
noncomputable section
open Go.Cre Go.RowKit Go.Proofs
theorem wrap_u64{n:Int}(aX:0<=n)(aa:n<18446744073709551616):IntKind.u64.wrap n=n:=by
 unfold IntKind.wrap IntKind.signed IntKind.bits;simp only[B',y8,yi];omega
theorem wrap_u32{n:Int}(aX:0<=n)(aa:n<4294967296):IntKind.u32.wrap n=n:=by
 unfold IntKind.wrap IntKind.signed IntKind.bits;simp only[B',y8,yi];omega
section
variable {Q:ek hE}{g0:Nat}
theorem us{α β:Type}{f:Nat->Option β}{g:α->β}:∀{L:List (Nat×α)},L.map (fun x=>f x.1)=L.map (fun x=>some (g x.2))->∀{t:Nat} {r:α},ql L t=some r->f t=some (g r):=by
 intro L;induction L with
 |nil=>intro _ t r h;cases h
 |cons x L aP=>
  obtain⟨u,v⟩:=x;intro h t r al;rw[u0,u0,List.cons.injEq] at h;simp only[ql] at al;cases ah:Nat.beq t u with
  |true=>
   rw[ah,b1] at al;injection al with al;subst al
   obtain rfl:=dX ah;exact h.1
  |false=>rw[ah,da] at al;exact aP h.2 al
theorem IL{f:Nat->Bool}:∀{L:List Nat},L.all f=true->∀{t:Nat},yu t L=true->f t=true:=by
 intro L;induction L with
 |nil=>intro _ t h;cases h
 |cons u L aP=>
  intro h t aM;rw[zd,fp] at h;simp only[yu] at aM;cases ah:Nat.beq t u with
  |true=>obtain rfl:=dX ah;exact h.1
  |false=>rw[ah,da] at aM;exact aP h.2 aM
theorem dw{t:Nat}{r:Option Nat}(h:ql FJ t=some r):oR (aO Q g0).P t=some r:=us (f:=fun t=>oR hE t) (g:=id) Tc h
theorem jX{t:Nat}{r:Nat}(h:ql J3 t=some r):ea (aO Q g0).P t=some r:=us (f:=fun t=>ea hE t) (g:=id) adT h
theorem wH{t f:Nat}{r:Nat}(h:ql GJ (t*100+f)=some r)(az:Nat.blt f 100=true):xu (aO Q g0).P t f=some r:=by
 have:=us (f:=fun k=>xu hE (k / 100) (k % 100)) (g:=id) V0 h;have az:f<100:=by simpa[Nat.blt,qY] using az
 rwa [show(t*100+f) / 100=t by omega,show(t*100+f) % 100=f by omega] at this
theorem Rh{t f:Nat}{r:Nat×Nat}(h:ql GL (t*100+f)=some r)(az:Nat.blt f 100=true):zZ (aO Q g0).P t f=some r:=by
 have:=us (f:=fun k=>zZ hE (k / 100) (k % 100)) (g:=id) V' h;have az:f<100:=by simpa[Nat.blt,qY] using az
 rwa [show(t*100+f) / 100=t by omega,show(t*100+f) % 100=f by omega] at this
theorem Rg{t:Nat}{r:Nat×Nat×Nat}(h:ql FP t=some r):tD (aO Q g0).P t=some r:=us (f:=fun t=>tD hE t) (g:=id) Tp h
theorem EN{t:Nat}{r:Nat}(h:ql Gt t=some r):xl (aO Q g0).P t=some r:=us (f:=fun t=>xl hE t) (g:=id) Vi h
theorem Ri{t:Nat}(h:yu t OW=true):isSlice (aO Q g0).P t=true:=IL (f:=fun t=>isSlice hE t) isOk h
theorem Rj{t:Nat}(h:yu t OX=true):rN (aO Q g0).P t=true:=IL (f:=fun t=>rN hE t) ZA h
theorem adX{t:Nat}(h:yu t PH=true):Bn (aO Q g0).P t=true:=IL (f:=fun t=>Bn hE t) aaF h
theorem adV{t:Nat}{r:Sum (List (Nat×Nat)) Nat×List Value}(h:ql F2 t=some r):zz (aO Q g0).P t=some r:=us (f:=fun t=>zz hE t) (g:=id) Tv h
theorem adW{s t:Nat}{r:IntKind}(h:ql Gm (s*10000+t)=some r)(az:Nat.blt t 10000=true):isInt (aO Q g0).P s t=some r:=by
 have:=us (f:=fun k=>isInt hE (k / 10000) (k % 10000)) (g:=id) Uz h;have az:t<10000:=by simpa[Nat.blt,qY] using az
 rwa [show(s*10000+t) / 10000=s by omega,show(s*10000+t) % 10000=t by omega] at this
structure Hid (p:Prop):Prop where
 out:p
section
variable {B:dt}{o:Oper}{n:Nat}{ds:dQ}{l:List (Nat×Value)}{m m':aU}{J:an}{d:Nat}
theorem QE{a:Nat}{cells:List Value}(h:ni m J a cells:=by first|exact .own (by repeat first|exact .head _|refine .tail _ ?_|refine d' _ ?_)|exact .dB (by assumption)|exact .opn (by repeat first|exact .head _|refine .tail _ ?_|refine d' _ ?_)):ni m J a cells:=h
theorem V.aJ{x:Operand}{v:Value}(ag:o.op=.move x:=by exact rfl) (U:bH l x=some v:=by exact rfl):cC (aO Q g0) B o n ds l m J (v):=wM ag U
theorem V.aI{x:Operand}{v:Value}(ag:o.op=.assign x:=by exact rfl) (U:bH l x=some v:=by exact rfl):cC (aO Q g0) B o n ds l m J (v):=ael ag U
theorem V.cF{s:TypeId}{x:Operand}{f a off k:Nat}(ag:o.op=.fieldAddr s x f:=by exact rfl) (U:bH l x=some (.pointer (some ⟨a,off,none⟩)):=by exact rfl) (az:xu (aO Q g0).P s f=some k:=by exact wH rfl rfl):cC (aO Q g0) B o n ds l m J (.pointer (some ⟨a,off+k,none⟩)):=wL ag U az
theorem V.cP{t:TypeId}{x:Operand}{a off:Nat}{cells:List Value}{v:Value}(ag:o.op=.load t x:=by exact rfl) (U:bH l x=some (.pointer (some ⟨a,off,none⟩)):=by exact rfl) (al:ni m J a cells:=by exact QE) (ay:kv (aO Q g0).P t cells off=some v:=by exact iV (dw rfl) (by first|rfl|assumption)):cC (aO Q g0) B o n ds l m J (v):=kG ag U al ay
theorem V.gU{t:TypeId}{x:Operand}{a off:Nat}{cells:List Value}{v:Value}(ag:o.op=.load t x:=by exact rfl) (U:bH l x=some (.pointer (some ⟨a,off,none⟩)):=by exact rfl) (al:ni m J a cells:=by exact QE) (ay:kv (aO Q g0).P t cells off=some v:=by exact fb (dw rfl) (by first|rfl|assumption)):cC (aO Q g0) B o n ds l m J (v):=kG ag U al ay
theorem V.bo{c x y:Operand}{t:Bool}{v:Value}(ag:o.op=.pick c x y:=by exact rfl) (aL:bH l c=some (.bool t):=by exact rfl) (ay:(if t=true then bH l x else bH l y)=some v:=by exact rfl):cC (aO Q g0) B o n ds l m J (v):=aeD ag aL ay
theorem V.a'{op:BinOp}{t dK:TypeId}{x y:Operand}{k:IntKind}{a b:Int}{v:Value}(ag:o.op=.binOp op t x y dK:=by exact rfl) (U:bH l x=some (.int k a):=by exact rfl) (aF:bH l y=some (.int k b):=by exact rfl) (ay:FZ k a b op=some v:=by exact rfl):cC (aO Q g0) B o n ds l m J (v):=Ry ag U aF ay
theorem V.bW{op:BinOp}{t dK:TypeId}{x y:Operand}{k:IntKind}{a b c bw:Int}(ag:o.op=.binOp op t x y dK:=by exact rfl) (U:bH l x=some (.int k a):=by exact rfl) (aF:bH l y=some (.int k b):=by exact rfl) (ay:FO a b op=some c:=by exact rfl) (hw:k.wrap c=bw:=by first|exact wrap_i64 (by omega) (by omega)|exact wrap_u8 (by omega) (by omega)|exact wrap_u64 (by omega) (by omega)|exact wrap_u32 (by omega) (by omega)|rfl):cC (aO Q g0) B o n ds l m J (.int k bw):=aek ag U aF ay hw
theorem V.ha{op:BinOp}{t dK:TypeId}{x y:Operand}{k:IntKind}{a b:Int}{v:Value}(ag:o.op=.binOp op t x y dK:=by exact rfl) (U:bH l x=some (.int k a):=by exact rfl) (aF:bH l y=some (.int k b):=by exact rfl) (ay:xg k a b op=some v:=by exact rfl) (ah:b≠0:=by first|decide|omega):cC (aO Q g0) B o n ds l m J (v):=aeo ag U aF ay ah
theorem V.nG{v:Value}(h:cC (aO Q g0) B o n ds l m J v:=by first|exact aeB rfl rfl|exact Rz rfl rfl):cC (aO Q g0) B o n ds l m J (v):=h
theorem V.ac1{v:Value}(h:cC (aO Q g0) B o n ds l m J v:=by exact RB rfl rfl rfl (.inl ⟨rfl,rfl⟩)):cC (aO Q g0) B o n ds l m J (v):=h
theorem V.adb{v:Value}(h:cC (aO Q g0) B o n ds l m J v:=by exact RB rfl rfl rfl (.inr ⟨rfl,rfl⟩)):cC (aO Q g0) B o n ds l m J (v):=h
theorem V.ex{x:Operand}{bj:Nat}{vs:Array Value}{v:Value}(ag:o.op=.extract x bj:=by exact rfl) (U:bH l x=some (.tuple vs):=by exact rfl) (ay:nth vs.toList bj=some v:=by exact rfl):cC (aO Q g0) B o n ds l m J (v):=aep ag U ay
theorem V.gL{v:Value}(h:cC (aO Q g0) B o n ds l m J v:=by exact aey rfl rfl rfl rfl (Ri rfl)):cC (aO Q g0) B o n ds l m J (v):=h
theorem V.D4{v:Value}(h:cC (aO Q g0) B o n ds l m J v:=by exact aex rfl rfl rfl rfl (Rj rfl)):cC (aO Q g0) B o n ds l m J (v):=h
theorem V.bj{t:TypeId}{x bj:Operand}{a off len cap sz:Nat}{k:IntKind}{i:Int}(ag:o.op=.indexAddr t x bj:=by exact rfl) (U:bH l x=some (.slice (some ⟨a,off,none⟩) len cap):=by exact rfl) (ar:bH l bj=some (.int k i):=by exact rfl) (aM:xl (aO Q g0).P t=some sz:=by exact EN rfl) (aX:0<=i:=by first|omega|(simp;omega)) (aa:i<len:=by first|omega|(simp;omega)):cC (aO Q g0) B o n ds l m J (.pointer (some ⟨a,off+i.toNat*sz,none⟩)):=ES ag U ar aM aX aa
theorem V.Zi{t elem:TypeId}{x bj:Operand}{a off len sz:Nat}{k:IntKind}{i:Int}(ag:o.op=.indexAddr t x bj:=by exact rfl) (U:bH l x=some (.pointer (some ⟨a,off,none⟩)):=by exact rfl) (ar:bH l bj=some (.int k i):=by exact rfl) (aM:tD (aO Q g0).P t=some (len,elem,sz):=by exact Rg rfl) (aX:0<=i:=by first|omega|(simp;omega)) (aa:i<len:=by first|omega|(simp;omega)):cC (aO Q g0) B o n ds l m J (.pointer (some ⟨a,off+i.toNat*sz,none⟩)):=aet ag U ar aM aX aa
theorem V.jx{v:Value}(h:cC (aO Q g0) B o n ds l m J v:=by exact aem rfl rfl (adV rfl) rfl):cC (aO Q g0) B o n ds l m J (v):=h
theorem V.Bj{v:Value}(h:cC (aO Q g0) B o n ds l m J v:=by exact aeA rfl rfl):cC (aO Q g0) B o n ds l m J (v):=h
theorem V.fd{v:Value}(h:cC (aO Q g0) B o n ds l m J v:=by exact Rx rfl rfl (Rh rfl rfl) (iV (dw rfl) rfl)):cC (aO Q g0) B o n ds l m J (v):=h
theorem V.VT{v:Value}(h:cC (aO Q g0) B o n ds l m J v:=by exact Rx rfl rfl (Rh rfl rfl) (fb (dw rfl) rfl)):cC (aO Q g0) B o n ds l m J (v):=h
theorem V.gk{v:Value}(h:cC (aO Q g0) B o n ds l m J v:=by exact aen rfl rfl (adW rfl rfl) (by first|exact wrap_i64 (by omega) (by omega)|exact wrap_u8 (by omega) (by omega)|exact wrap_u64 (by omega) (by omega)|exact wrap_u32 (by omega) (by omega)|rfl)):cC (aO Q g0) B o n ds l m J (v):=h
theorem V.fn{v:Value}(h:cC (aO Q g0) B o n ds l m J v:=by exact aeq rfl rfl rfl):cC (aO Q g0) B o n ds l m J (v):=h
theorem V.Zn{v:Value}(h:cC (aO Q g0) B o n ds l m J v:=by exact aer rfl rfl (adX rfl)):cC (aO Q g0) B o n ds l m J (v):=h
theorem V.Zj{t:TypeId}{x bj:Operand}{s:List UInt8}{k:IntKind}{i:Int}{b:UInt8}(ag:o.op=.index t x bj:=by exact rfl) (U:bH l x=some (.string ⟨⟨s⟩⟩):=by exact rfl) (ar:bH l bj=some (.int k i):=by exact rfl) (aM:rN (aO Q g0).P t=true:=by exact Rj rfl) (aX:0<=i:=by first|omega|(simp;omega)) (ah:s[i.toNat]?=some b:=by first|assumption|exact eO (by first|omega|(simp;omega))):cC (aO Q g0) B o n ds l m J (.int .u8 b.toNat):=aev ag U ar aM aX ah
theorem V.JL{v:Value}(h:cC (aO Q g0) B o n ds l m J v:=by exact aeG (op:=.eql) rfl rfl rfl (Ri rfl)):cC (aO Q g0) B o n ds l m J (v):=h
section
variable {ops rest:List Oper}{bm:Option (List PanicEntry)->b3->aU->an->Prop}
theorem I{v:Value}(ay:cC (aO Q g0) B o n ds l m J v)(h:W (aO Q g0) B ops rest ⟨n,ds,(d,v)::l⟩ m J bm)(aq:o.guard=none:=by exact rfl) (au:o.dst=some d:=by exact rfl) (aw:Nat.blt d n=true:=by exact rfl):W (aO Q g0) B ops (o::rest) ⟨n,ds,l⟩ m J bm:=W.step aq (Exec.val au aw ay h)
theorem bM{v:Value}{g:Nat}{want b:Bool}(ay:cC (aO Q g0) B o n ds l m J v)(h:W (aO Q g0) B ops rest ⟨n,ds,(d,v)::l⟩ m J bm)(aq:ka ops o=some (g,want):=by exact rfl) (ah:look l g=some (.bool b):=by exact rfl) (hw:(b==want)=true:=by exact rfl) (au:o.dst=some d:=by exact rfl) (aw:Nat.blt d n=true:=by exact rfl):W (aO Q g0) B ops (o::rest) ⟨n,ds,l⟩ m J bm:=W.GX aq ah hw (Exec.val au aw ay h)
theorem c7{e:Nat}{want b:Bool}(h:W (aO Q g0) B ops rest ⟨n,ds,(e,undef)::l⟩ m J bm)(aq:ka ops o=some (d,want):=by exact rfl) (ah:look l d=some (.bool b):=by exact rfl) (hw:(b==want)=false:=by exact rfl) (au:o.dst=some e:=by exact rfl) (aw:Nat.blt e n=true:=by exact rfl):W (aO Q g0) B ops (o::rest) ⟨n,ds,l⟩ m J bm:=W.Ni aq ah hw au aw h
theorem eG{t:TypeId}{x y:Operand}{a off k:Nat}{v:Value}{vs cells cells':List Value}{e:TypeId}(h:W (aO Q g0) B ops rest ⟨n,ds,l⟩ m' J bm)(aq:o.guard=none:=by exact rfl) (ag:o.op=.store t x y:=by exact rfl) (au:o.dst=none:=by exact rfl) (U:bH l x=some (.pointer (some ⟨a,off,none⟩)):=by exact rfl) (aF:bH l y=some v:=by exact rfl) (hk:ea (aO Q g0).P t=some k:=by exact jX rfl) (aL:v.cells.toList=vs:=by exact rfl) (aA:Nat.beq vs.length k=true:=by exact rfl) (aX:Nat.blt 0 vs.length=true:=by exact rfl) (aa:vs.all ev=true:=by exact rfl) (ao:dp m a (.row cells e) (.row cells' e) m':=by repeat first|exact .head _ _ _ _|apply dp.tail|apply dp.app) (af:fO off cells vs=some cells':=by exact rfl):W (aO Q g0) B ops (o::rest) ⟨n,ds,l⟩ m J bm:=W.step aq (.of (k4 ag au U aF hk aL aA aX aa af ao h))
end
section
variable {ops:List Oper}{a2:List hT}{F:List (FuncId×List Value)}{i:Nat}{bm:b3->aU->an->Prop}
theorem a6{v:Value}(ar:nth ops i=some o)(ay:cC (aO Q g0) B o n ds l m J v)(h:bi (aO Q g0) B ops a2 F ⟨n,ds,(d,v)::l⟩ m J bm)(aq:o.guard=none:=by exact rfl) (au:o.dst=some d:=by exact rfl) (aw:Nat.blt d n=true:=by exact rfl):bi (aO Q g0) B ops (.val i::a2) F ⟨n,ds,l⟩ m J bm:=bi.val ar aq au aw ay h
theorem ts{v:Value}(ar:nth ops i=some o)(ay:cC (aO Q g0) B o n ds l m J v)(h:bi (aO Q g0) B ops a2 F ⟨n,ds,(d,v)::l⟩ m J bm)(aq:o.guard=none:=by exact rfl) (au:o.dst=some d:=by exact rfl) (aw:Nat.blt d n=true:=by exact rfl):bi (aO Q g0) B ops (.bA i::a2) F ⟨n,ds,l⟩ m J bm:=bi.T7 ar aq au aw ay h
theorem k7{t:TypeId}{x y:Operand}{a off k:Nat}{v:Value}{vs cells cells':List Value}{e:TypeId}(ar:nth ops i=some o)(h:bi (aO Q g0) B ops a2 F ⟨n,ds,l⟩ m' J bm)(aq:o.guard=none:=by exact rfl) (ag:o.op=.store t x y:=by exact rfl) (au:o.dst=none:=by exact rfl) (U:bH l x=some (.pointer (some ⟨a,off,none⟩)):=by exact rfl) (aF:bH l y=some v:=by exact rfl) (hk:ea (aO Q g0).P t=some k:=by exact jX rfl) (aL:v.cells.toList=vs:=by exact rfl) (aA:Nat.beq vs.length k=true:=by exact rfl) (aX:Nat.blt 0 vs.length=true:=by exact rfl) (aa:vs.all ev=true:=by exact rfl) (ao:dp m a (.row cells e) (.row cells' e) m':=by repeat first|exact .head _ _ _ _|apply dp.tail|apply dp.app) (af:fO off cells vs=some cells':=by exact rfl):bi (aO Q g0) B ops (.bA i::a2) F ⟨n,ds,l⟩ m J bm:=bi.tG ar aq (k4 ag au U aF hk aL aA aX aa af ao h)
end
section
variable {R:q0}{ops:List Oper}{a2:List hT}{i g:Nat}{want b:Bool}{bm:b3->aU->an->Prop}
theorem nW{v:Value}(ar:nth ops i=some o)(ay:cC (aO Q g0) B o n ds l m J v)(h:fW (aO Q g0) B R ops a2 ⟨n,ds,(d,v)::l⟩ m J bm)(aq:o.guard=none:=by exact rfl) (au:o.dst=some d:=by exact rfl) (aw:Nat.blt d n=true:=by exact rfl):fW (aO Q g0) B R ops (.val i::a2) ⟨n,ds,l⟩ m J bm:=fW.val ar aq au aw ay h
theorem Ly{v:Value}(ar:nth ops i=some o)(ay:cC (aO Q g0) B o n ds l m J v)(h:fW (aO Q g0) B R ops a2 ⟨n,ds,(d,v)::l⟩ m J bm)(aq:ka ops o=some (g,want):=by exact rfl) (ah:look l g=some (.bool b):=by exact rfl) (hw:(b==want)=true:=by exact rfl) (au:o.dst=some d:=by exact rfl) (aw:Nat.blt d n=true:=by exact rfl):fW (aO Q g0) B R ops (.val i::a2) ⟨n,ds,l⟩ m J bm:=fW.Kd ar aq ah hw au aw ay h
end
theorem hB{v u:Value}(h:c4 8 v u=true:=by first|assumption|rfl|exact RM _ _ _|exact RL _ _|exact RO _ _|exact RN (by assumption) _ _ _|(refine aeJ ?_;repeat first|exact aeM|refine aeL ?_ ?_|exact RM _ _ _|exact RO _ _|exact RL _ _|exact RN (by assumption) _ _ _)|simp[c4,addrEq]):c4 8 v u=true:=h
theorem RT{v:Value}(h:cC (aO Q g0) B o n ds l m J v:=by first|exact V.aJ|exact V.aI|exact V.cF|exact V.cP|exact V.gU|exact V.bj|exact V.bo|exact V.bW|exact V.a'|exact V.ex|exact V.jx|exact V.nG|exact V.bW|exact V.ha|exact V.gL|exact V.D4|exact V.ac1|exact V.adb|exact V.Bj|exact V.fd|exact V.VT|exact V.gk|exact V.fn|exact V.Zn|exact V.Zj|exact V.Zi|exact V.JL):cC (aO Q g0) B o n ds l m J v:=h
theorem ez{ops:List Oper}{is:List Nat}(h:r5 (aO Q g0) B ops n ds l m J is:=by
 repeat first
  |exact trivial
  |exact fH.val rfl rfl rfl RT rfl hB
  |exact fH.Kd rfl rfl rfl rfl rfl RT rfl hB
  |exact fH.no rfl (C3 rfl rfl rfl)
  |exact fH.no rfl (Wh rfl rfl)
  |refine⟨?_,?_⟩):r5 (aO Q g0) B ops n ds l m J is:=h
theorem bR{ops:List Oper}{E:b3}{bm:Option (List PanicEntry)->b3->aU->an->Prop}(h:bm none E m J):W (aO Q g0) B ops [] E m J bm:=W.nil h
theorem rg{p q:Prop}(h:p)(l6:Hid p->q:=by
 intro mL;repeat refine ad.seq ?_
 refine ad.region ?_;exact mL.out):q:=l6 ⟨h⟩
theorem aG{p q:Prop}(h:p)(l6:Hid p->q:=by
 intro mL;repeat refine ad.seq ?_
 exact mL.out):q:=l6 ⟨h⟩
theorem bb{p q:Prop}(h:p)(l6:Hid p->q:=by
 intro mL;refine bR ?_;repeat refine ad.seq ?_
 refine ad.region ?_;exact mL.out):q:=l6 ⟨h⟩
theorem aD{p q:Prop}(h:p)(l6:Hid p->q:=by
 intro mL;refine bR ?_;repeat refine ad.seq ?_
 exact mL.out):q:=l6 ⟨h⟩
theorem e4{p q:Prop}(h:p)(l6:Hid p->q:=by
 intro mL;repeat refine ad.seq ?_
 refine ad.skip ?_;exact mL.out):q:=l6 ⟨h⟩
theorem l8{p q:Prop}(h:p)(l6:Hid p->q:=by
 intro mL;repeat refine ad.seq ?_
 refine ad.skip ?_;repeat refine ad.seq ?_
 refine ad.region ?_;exact mL.out):q:=l6 ⟨h⟩
structure lZ (t:Bool) (dm kY:Prop):Prop where
 y:t=true->dm
 n:t=false->kY
theorem lZ.p(p:Prop)[Decidable p]:lZ (decide p) p (¬p):=⟨yz,of_decide_eq_false⟩
theorem lZ.b(t:Bool):lZ t (t=true) (t=false):=⟨id,id⟩
theorem If{cB:Exit->b3->aU->an->Prop}{x:Operand}{a b:Code}{t:Bool}{dm kY:Prop}(aa:dm->ad (aO Q g0) B a ⟨n,ds,l⟩ m J cB)(aX:kY->ad (aO Q g0) B b ⟨n,ds,l⟩ m J cB)(U:bH l x=some (.bool t):=by exact rfl) (af:lZ t dm kY:=by first|exact lZ.p _|exact lZ.b _):ad (aO Q g0) B (.cond x a b) ⟨n,ds,l⟩ m J cB:=ad.cond U (fun q=>aa (af.y q)) (fun q=>aX (af.n q))
theorem gz{ops rest:List Oper}{bm:Option (List PanicEntry)->b3->aU->an->Prop}(d:Nat){b:Bool}{dm kY:Prop}(aa:dm->W (aO Q g0) B ops rest ⟨n,ds,(d,.bool true)::l⟩ m J bm)(aX:kY->W (aO Q g0) B ops rest ⟨n,ds,(d,.bool false)::l⟩ m J bm)(ah:look l d=some (.bool b):=by exact rfl) (af:lZ b dm kY:=by first|exact lZ.p _|exact lZ.b _):W (aO Q g0) B ops rest ⟨n,ds,l⟩ m J bm:=W.split ah (fun q=>aa (af.y q)) (fun q=>aX (af.n q))
theorem S0{R:q0}{ops:List Oper}{a2:List hT}{bm:b3->aU->an->Prop}(d:Nat){b:Bool}{dm kY:Prop}(aa:dm->fW (aO Q g0) B R ops a2 ⟨n,ds,(d,.bool true)::l⟩ m J bm)(aX:kY->fW (aO Q g0) B R ops a2 ⟨n,ds,(d,.bool false)::l⟩ m J bm)(ah:look l d=some (.bool b):=by exact rfl) (af:lZ b dm kY:=by first|exact lZ.p _|exact lZ.b _):fW (aO Q g0) B R ops a2 ⟨n,ds,l⟩ m J bm:=fW.split ah (fun q=>aa (af.y q)) (fun q=>aX (af.n q))
theorem n2{l:List (Nat×Value)}{t:Nat}{v:Value}(h:look l t=some v:=by first|exact rfl|exact rc rfl (by first|omega|(simp_all;done))|exact ra rfl (by first|omega|(simp_all;done))|exact rb rfl (by first|omega|(simp_all;done)|(simp_all;omega))|exact q' rfl (by simp_all)|exact aj some (aj (Value.int .i64) (by omega))):look l t=some v:=h
theorem ce{p:Prop}(h:p:=by
 refine⟨⟨_,rfl,?_⟩,cd _,?_⟩
 ·repeat first|exact trivial|refine⟨n2,?_⟩
 ·first|exact rfl|exact an.le.refl _|assumption):p:=h
def Et (l:List (Nat×Value)):List Nat->Option (List (Nat×Value))
 |[]=>some []
 |t::e1=>match look l t with
  |some v=>(match Et l e1 with|some r=>some ((t,v)::r)|none=>none)
  |none=>none
theorem abY{l:List (Nat×Value)}:∀{e1:List Nat} {l':List (Nat×Value)},Et l e1=some l'->mg l l':=by
 intro e1;induction e1 with
 |nil=>intro l' h;injection h with h;subst h;trivial
 |cons t e1 aP=>
  intro l' h;unfold Et at h;split at h
  ·rename_i v ay;split at h
   ·rename_i r al;injection h with h;subst h
    exact⟨ay,aP al⟩
   ·cases h
  ·cases h
theorem mj{cB:Exit->b3->aU->an->Prop}{c:Code}{l':List (Nat×Value)}(e1:List Nat)(h:ad (aO Q g0) B c ⟨n,ds,l'⟩ m J cB)(aA:Et l e1=some l':=by exact rfl):ad (aO Q g0) B c ⟨n,ds,l⟩ m J cB:=ad.eH (abY aA) (cd _) h
section
variable {ops rest:List Oper}{bm:Option (List PanicEntry)->b3->aU->an->Prop}{c:Call}{x:Operand}{f:FuncId}{first cap:Array Value}{args aH:List Value}{bU eD:aU}{du:Value->aU->an->Prop}
theorem b4(aq:o.guard=none:=by exact rfl) (ag:o.op=.call c:=by exact rfl) (au:o.dst=some d:=by exact rfl) (aw:Nat.blt d n=true:=by exact rfl) (aL:c.callee=.value x:=by exact rfl) (U:bH l x=some (.func (.func f) first cap):=by exact rfl) (aK:hJ l c.args.toList=some args:=by exact rfl) (has:(first.toList++args)++cap.toList=aH:=by exact rfl) (ao:(bU++eD).Perm m:=by exact .refl _) (G:Fn (aO Q g0) f aH bU J du) (h:∀v m' ae,J.le ae->du v m' ae->W (aO Q g0) B ops rest ⟨n,ds,(d,v)::l⟩ (m'++eD) ae bm):W (aO Q g0) B ops (o::rest) ⟨n,ds,l⟩ m J bm:=W.step aq (Exec.call ag au aw aL U aK has ao trivial G h)
theorem eV{v:Value}(aq:o.guard=none:=by exact rfl) (ag:o.op=.call c:=by exact rfl) (au:o.dst=some d:=by exact rfl) (aw:Nat.blt d n=true:=by exact rfl) (aL:c.callee=.value x:=by exact rfl) (U:bH l x=some (.func (.func f) first cap):=by exact rfl) (aK:hJ l c.args.toList=some args:=by exact rfl) (has:(first.toList++args)++cap.toList=aH:=by exact rfl) (G:Fn (aO Q g0) f aH [] J (fun w m' ae=>w=v/\m'=[]/\ae=J)) (h:W (aO Q g0) B ops rest ⟨n,ds,(d,v)::l⟩ m J bm):W (aO Q g0) B ops (o::rest) ⟨n,ds,l⟩ m J bm:=W.step aq (Exec.call ag au aw aL U aK has (.refl _) trivial G (fun v' m' ae _ q=>by obtain⟨rfl,rfl,rfl⟩:=q;exact h))
theorem vg{g:Nat}{want b:Bool}(aq:ka ops o=some (g,want):=by exact rfl) (ah:look l g=some (.bool b):=by exact rfl) (hw:(b==want)=true:=by exact rfl) (ag:o.op=.call c:=by exact rfl) (au:o.dst=some d:=by exact rfl) (aw:Nat.blt d n=true:=by exact rfl) (aL:c.callee=.value x:=by exact rfl) (U:bH l x=some (.func (.func f) first cap):=by exact rfl) (aK:hJ l c.args.toList=some args:=by exact rfl) (has:(first.toList++args)++cap.toList=aH:=by exact rfl) (ao:(bU++eD).Perm m:=by exact .refl _) (G:Fn (aO Q g0) f aH bU J du) (h:∀v m' ae,J.le ae->du v m' ae->W (aO Q g0) B ops rest ⟨n,ds,(d,v)::l⟩ (m'++eD) ae bm):W (aO Q g0) B ops (o::rest) ⟨n,ds,l⟩ m J bm:=W.GX aq ah hw (Exec.call ag au aw aL U aK has ao trivial G h)
end
section
variable {ops:List Oper}{a2:List hT}{F:List (FuncId×List Value)}{i:Nat}{bm:b3->aU->an->Prop}{c:Call}{x:Operand}{f:FuncId}{first cap:Array Value}{args aH:List Value}{bU eD:aU}{du:Value->aU->an->Prop}
theorem dl(ar:nth ops i=some o)(aq:o.guard=none:=by exact rfl) (ag:o.op=.call c:=by exact rfl) (au:o.dst=some d:=by exact rfl) (aw:Nat.blt d n=true:=by exact rfl) (aL:c.callee=.value x:=by exact rfl) (U:bH l x=some (.func (.func f) first cap):=by exact rfl) (aK:hJ l c.args.toList=some args:=by exact rfl) (has:(first.toList++args)++cap.toList=aH:=by exact rfl) (az:F.all (fun g=>!Nat.beq g.1 f)=true:=by exact rfl) (ao:(bU++eD).Perm m:=by exact .refl _) (G:Fn (aO Q g0) f aH bU J du) (h:∀v m' ae,J.le ae->du v m' ae->bi (aO Q g0) B ops a2 ((f,aH)::F) ⟨n,ds,(d,v)::l⟩ (m'++eD) ae bm):bi (aO Q g0) B ops (.bA i::a2) F ⟨n,ds,l⟩ m J bm:=bi.call ar aq ag au aw aL U aK has az ao trivial G h
theorem j8{v:Value}(ar:nth ops i=some o)(aq:o.guard=none:=by exact rfl) (ag:o.op=.call c:=by exact rfl) (au:o.dst=some d:=by exact rfl) (aw:Nat.blt d n=true:=by exact rfl) (aL:c.callee=.value x:=by exact rfl) (U:bH l x=some (.func (.func f) first cap):=by exact rfl) (aK:hJ l c.args.toList=some args:=by exact rfl) (has:(first.toList++args)++cap.toList=aH:=by exact rfl) (az:F.all (fun g=>!Nat.beq g.1 f)=true:=by exact rfl) (G:Fn (aO Q g0) f aH [] J (fun w m' ae=>w=v/\m'=[]/\ae=J)) (h:bi (aO Q g0) B ops a2 ((f,aH)::F) ⟨n,ds,(d,v)::l⟩ m J bm):bi (aO Q g0) B ops (.bA i::a2) F ⟨n,ds,l⟩ m J bm:=bi.call ar aq ag au aw aL U aK has az (.refl _) trivial G (fun v' m' ae _ q=>by obtain⟨rfl,rfl,rfl⟩:=q;exact h)
end
theorem yJ{E:b3}{t:Tmp}{dK:TypeId}{a:Nat}{cells:List Value}{e:TypeId}{v:Value}{rs:List ResultVar}{vs:List Value}(al:mw (aO Q g0).P E m J rs vs)(aa:look E.l t=some (.pointer (some ⟨a,0,none⟩)):=by exact rfl) (ab:(a,dh.row cells e)∈m:=by repeat first|exact .head _|refine .tail _ ?_|refine d' _ ?_) (aY:kv (aO Q g0).P dK cells 0=some v:=by first|exact fb (dw rfl) rfl|exact iV (dw rfl) rfl):mw (aO Q g0).P E m J (.cell t dK::rs) (v::vs):=.cell aa ab aY al
theorem oK{e:Exit}{E:b3}{rs:List ResultVar}{vs:List Value}{Lw:List Value->aU->Prop}(ao:Lw vs m')(he:e=.normal\/e=.ret:=by first|exact .inl rfl|exact .inr rfl) (au:E.ds.ds=[]:=by exact rfl) (al:mw (aO Q g0).P E m J rs vs:=by first|exact .tmp rfl .nil|exact .tmp rfl (.tmp rfl .nil)|exact .nil|exact yJ .nil|exact yJ (yJ .nil)|exact .tmp rfl (.tmp rfl (.tmp rfl .nil))|exact yJ (yJ (yJ .nil))) (af:m'.Sublist m:=by first|exact bZ _|exact cd _):(e=.normal\/e=.ret)/\E.ds.ds=[]/\∃vs m',mw (aO Q g0).P E m J rs vs/\m'.Sublist m/\Lw vs m':=⟨he,au,vs,m',al,af,ao⟩
end
end
theorem cq{p:Prop}(h:p:=by first|rfl|exact aj some (aj (Value.int .i64) (by omega))):p:=h
theorem bS{p:Prop}(h:p:=by first|omega|(simp;omega)|(simp only;omega)):p:=h
theorem qz{p:Prop}(h:p:=by first|exact ey.rd (by assumption)|exact ko.str|exact ko.own (by repeat first|exact .head _|refine .tail _ ?_|refine d' _ ?_) rfl):p:=h
theorem qr{p:Prop}(h:p:=by first|exact .own (by repeat first|exact .head _|refine .tail _ ?_|refine d' _ ?_)|exact .dB (by assumption)|exact .opn (by repeat first|exact .head _|refine .tail _ ?_|refine d' _ ?_)):p:=h
theorem ab6{p:Prop}(h:p:=by first|exact List.Perm.refl _|exact BC|exact Qc|exact Qd|exact abU):p:=h
section
variable {Q:ek hE}{g0:Nat}
section
variable {B:dt}{o:Oper}{n:Nat}{ds:dQ}{l:List (Nat×Value)}{m:aU}{J:an}{d:Nat}
section
variable {ops rest:List Oper}{bm:Option (List PanicEntry)->b3->aU->an->Prop}
theorem fc{t:TypeId}{x:Operand}{v:Value}{cells:List Value}(h:∀a,W (aO Q g0) B ops rest ⟨n,ds,(d,.pointer (some ⟨a,0,none⟩))::l⟩ ((a,.row cells t)::m) J bm)(aq:o.guard=none:=by exact rfl) (ag:o.op=.box t x:=by exact rfl) (au:o.dst=some d:=by exact rfl) (aw:Nat.blt d n=true:=by exact rfl) (U:bH l x=some v:=by exact rfl) (aL:v.cells.toList=cells:=by exact rfl) (aa:cells.all ev=true:=by exact rfl):W (aO Q g0) B ops (o::rest) ⟨n,ds,l⟩ m J bm:=W.step aq (.of (ae8 ag au aw U aL aa h))
theorem ja{t e:TypeId}{k sz:Nat}{fz cells:List Value}{ps:Array (Nat×Operand)}{vs:List (Nat×Value)}(aM:iY (aO Q g0).P t=some (e,sz,fz))(h:∀a,W (aO Q g0) B ops rest ⟨n,ds,(d,.slice (some ⟨a,0,none⟩) k k)::l⟩ ((a,.row cells e)::m) J bm)(aq:o.guard=none:=by exact rfl) (ag:o.op=.buildSlice t k ps:=by exact rfl) (au:o.dst=some d:=by exact rfl) (aw:Nat.blt d n=true:=by exact rfl) (ao:pQ l ps.toList=some vs:=by exact rfl) (hk:(Nat.ble k 100000&&Nat.ble (k*sz) 100000)=true:=by exact rfl) (az:lc (fun i=>some (i*sz,sz)) (eN fz k) vs=some cells:=by exact rfl) (aa:cells.all ev=true:=by exact rfl):W (aO Q g0) B ops (o::rest) ⟨n,ds,l⟩ m J bm:=W.step aq (.of (ae9 ag au aw ao aM hk az aa h))
end
section
variable {R:q0}{ops:List Oper}{a2:List hT}{i g:Nat}{want b:Bool}{bm:b3->aU->an->Prop}
theorem Lz(ar:nth ops i=some o)(h:fW (aO Q g0) B R ops a2 ⟨n,ds,(d,undef)::l⟩ m J bm)(aq:ka ops o=some (g,want):=by exact rfl) (ah:look l g=some (.bool b):=by exact rfl) (hw:(b==want)=false:=by exact rfl) (au:o.dst=some d:=by exact rfl) (aw:Nat.blt d n=true:=by exact rfl):fW (aO Q g0) B R ops (.val i::a2) ⟨n,ds,l⟩ m J bm:=fW.na ar aq ah hw au aw h
end
end
end
structure KY where
 d:List (Nat×Value)
 m:aU
 j:an
 i:Prop
 k:Nat
section
variable {K:dG}{B:dt}{cB:Exit->b3->aU->an->Prop}{n:Nat}{ds:dQ}
theorem ad.b0{α:Type}{c:Code}{base:List (Nat×Value)}(r:α->KY)(s:α)(af:(r s).i)
 (bT:∀s,(r s).i->ad K B c ⟨n,ds,(r s).d++base⟩ (r s).m (r s).j fun e E m J=>match e with
  |.normal=>∃df l,(r df).i/\(r df).k<(r s).k/\E=⟨n,ds,l⟩/\mg l ((r df).d++base)/\((r df).m).Sublist m/\J=(r df).j
  |e=>cB e E m J):ad K B (.loop c) ⟨n,ds,(r s).d++base⟩ (r s).m (r s).j cB:=
 ad.Z6 (fun s=>(r s).d) (fun s=>(r s).m) (fun s=>(r s).j) (fun s=>(r s).i) (fun s=>(r s).k) s af bT
theorem gF{α:Type}{r:α->KY}{base l:List (Nat×Value)}{lk:Nat}{m:aU}{J:an}(df:α)(ar:(r df).i)(hm:((r df).m).Sublist m:=by exact .refl _) (a5:J=(r df).j:=by exact rfl) (hk:(r df).k<lk:=by first|omega|(simp;omega)|(simp only;omega)) (aA:mg l ((r df).d++base):=by repeat first|exact trivial|refine⟨by first|rfl|exact aj some (aj (Value.int .i64) (by omega)),?_⟩):∃df l',(r df).i/\(r df).k<lk/\(⟨n,ds,l⟩:b3)=⟨n,ds,l'⟩/\mg l' ((r df).d++base)/\((r df).m).Sublist m/\J=(r df).j:=⟨df,l,ar,hk,rfl,aA,hm,a5⟩
end
theorem aH{p q:Prop}(h:p)(l6:Hid p->q:=by
 intro mL;repeat first
  |refine I V.aJ ?_
  |refine I V.cF ?_
  |refine I V.aI ?_
  |refine I V.Bj ?_
  |refine I V.gL ?_
  |refine I V.ex ?_
  |refine I V.jx ?_
  |refine I V.fn ?_
  |refine I V.D4 ?_
 exact mL.out):q:=l6 ⟨h⟩
theorem e3{p q:Prop}(h:p)(l6:Hid p->q:=by
 intro mL;repeat first
  |refine a6 rfl V.aJ ?_
  |refine a6 rfl V.cF ?_
  |refine a6 rfl V.aI ?_
  |refine a6 rfl V.Bj ?_
  |refine a6 rfl V.gL ?_
  |refine a6 rfl V.ex ?_
  |refine a6 rfl V.jx ?_
  |refine a6 rfl V.fn ?_
  |refine a6 rfl V.D4 ?_
 exact mL.out):q:=l6 ⟨h⟩
end
end Go.Opn
namespace Go.Opn
noncomputable section
open Go.Cre Go.RowKit
section
variable {K:dG}{B:dt}{E:b3}{m dV:aU}{J:an}{cB:Exit->b3->aU->an->Prop}
end
section
variable {K:dG}{B:dt}{o:Oper}{n:Nat}{ds:dQ}{l:List (Nat×Value)}{m m':aU}{J:an}{eg:b3->aU->an->Prop}{d:Nat}
end
section
variable {K:dG}{B:dt}{ops:List Oper}{a2:List hT}{E:b3}{m m':aU}{J:an}{o:Oper}{bm:b3->aU->an->Prop}{cB:Exit->b3->aU->an->Prop}
variable {n:Nat}{ds:dQ}{l:List (Nat×Value)}{d i:Nat}
end
section
variable {K:dG}{B:dt}{o:Oper}{n:Nat}{ds:dQ}{l:List (Nat×Value)}{m m':aU}{J:an}{eg:b3->aU->an->Prop}{d:Nat}
theorem uP{t:TypeId}{x:Operand}{k:IntKind}{a b:Int}(ag:o.op=.unOp .neg t x)(U:bH l x=some (.int k a))(hw:k.wrap (-a)=b):cC K B o n ds l m J (.int k b):=by
 intro call aE S H ak av;unfold ct eA;simp only[ag];show eI K.P S.T H o=_;refine Qf ak (by rw[ag];rfl) U rfl ?_ rfl;unfold execOp;simp only[ag];rw[gS ak H U,<-hw];show some (Next.value (.int k (k.wrap (0 -a))))=_;rw[Int.zero_sub]
theorem wrap_i32{a:Int}(aX:-2147483648<=a)(aa:a<=2147483647):IntKind.i32.wrap a=a:=by
 unfold IntKind.wrap;simp[IntKind.bits,IntKind.signed];omega
end
section
variable {K:dG}{B:dt}{ops:List Oper}{a2:List hT}{F:List (FuncId×List Value)}{E:b3}{m:aU}{J:an}{bm:b3->aU->an->Prop}
end
end
end Go.Opn

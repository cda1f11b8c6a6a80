/- A part of the proof of TableMetric. -/
import Derived.Test.YtmmfodofkbmfnaaGreatDoorCax
import Derived.Test.YtmmfodofkbmfnaaGreatDoorCaw
set_option maxRecDepth 100000
set_option linter.unusedVariables false
set_option linter.unusedSimpArgs false
namespace Go.Opn
noncomputable section
open Go.Cre Go.RowKit Go.Proofs
theorem wrap_u64{n:Int}(a2:0<=n)(U:n<18446744073709551616):IntKind.u64.wrap n=n:=by
 unfold IntKind.wrap IntKind.signed IntKind.bits;simp only[Ai,Aj,zd];omega
theorem wrap_u32{n:Int}(a2:0<=n)(U:n<4294967296):IntKind.u32.wrap n=n:=by
 unfold IntKind.wrap IntKind.signed IntKind.bits;simp only[Ai,Aj,zd];omega
section
variable {Q:eF gY}{g0:Nat}
theorem sx{α β:Type}{f:Nat->Option β}{g:α->β}:∀{L:List (Nat×α)},L.map (fun x=>f x.1)=L.map (fun x=>some (g x.2))->∀{t:Nat} {r:α},oE L t=some r->f t=some (g r):=by
 intro L;induction L with
 |nil=>intro _ t r h;cases h
 |cons x L aN=>
  obtain⟨u,v⟩:=x;intro h t r ap;rw[s9,s9,List.cons.injEq] at h;simp only[oE] at ap;cases af:Nat.beq t u with
  |true=>
   rw[af,bH] at ap;injection ap with ap;subst ap
   obtain rfl:=dB af;exact h.1
  |false=>rw[af,cZ] at ap;exact aN h.2 ap
theorem F4{f:Nat->Bool}:∀{L:List Nat},L.all f=true->∀{t:Nat},wH t L=true->f t=true:=by
 intro L;induction L with
 |nil=>intro _ t h;cases h
 |cons u L aN=>
  intro h t aG;rw[xr,eT] at h;simp only[wH] at aG;cases af:Nat.beq t u with
  |true=>obtain rfl:=dB af;exact h.1
  |false=>rw[af,cZ] at aG;exact aN h.2 aG
theorem fs{t:Nat}{r:Option Nat}(h:oE Dp t=some r):m8 (aS Q g0).P t=some r:=sx (f:=fun t=>m8 gY t) (g:=id) Pg h
theorem lq{t:Nat}{r:Nat}(h:oE G3 t=some r):dD (aS Q g0).P t=some r:=sx (f:=fun t=>dD gY t) (g:=id) Y9 h
theorem Zd{t f:Nat}{r:Nat}(h:oE Ed (t*100+f)=some r)(ay:Nat.blt f 100=true):vD (aS Q g0).P t f=some r:=by
 have:=sx (f:=fun k=>vD gY (k / 100) (k % 100)) (g:=id) R7 h;have ay:f<100:=by simpa[Nat.blt,o5] using ay
 rwa [show(t*100+f) / 100=t by omega,show(t*100+f) % 100=f by omega] at this
theorem Nq{t f:Nat}{r:Nat×Nat}(h:oE Ef (t*100+f)=some r)(ay:Nat.blt f 100=true):yf (aS Q g0).P t f=some r:=by
 have:=sx (f:=fun k=>yf gY (k / 100) (k % 100)) (g:=id) Sg h;have ay:f<100:=by simpa[Nat.blt,o5] using ay
 rwa [show(t*100+f) / 100=t by omega,show(t*100+f) % 100=f by omega] at this
theorem Np{t:Nat}{r:Nat×Nat×Nat}(h:oE Dv t=some r):rP (aS Q g0).P t=some r:=sx (f:=fun t=>rP gY t) (g:=id) Pr h
theorem Zc{t:Nat}{r:Nat}(h:oE DX t=some r):vv (aS Q g0).P t=some r:=sx (f:=fun t=>vv gY t) (g:=id) Ro h
theorem Nr{t:Nat}(h:wH t Lg=true):isSlice (aS Q g0).P t=true:=F4 (f:=fun t=>isSlice gY t) isOk h
theorem Ns{t:Nat}(h:wH t Lh=true):pE (aS Q g0).P t=true:=F4 (f:=fun t=>pE gY t) Ve h
theorem Ze{t:Nat}(h:wH t L8=true):zz (aS Q g0).P t=true:=F4 (f:=fun t=>zz gY t) Wm h
theorem Za{t:Nat}{r:Sum (List (Nat×Nat)) Nat×List Value}(h:oE DD t=some r):xR (aS Q g0).P t=some r:=sx (f:=fun t=>xR gY t) (g:=id) PG h
theorem Zb{s t:Nat}{r:IntKind}(h:oE DS (s*10000+t)=some r)(ay:Nat.blt t 10000=true):isInt (aS Q g0).P s t=some r:=by
 have:=sx (f:=fun k=>isInt gY (k / 10000) (k % 10000)) (g:=id) QC h;have ay:t<10000:=by simpa[Nat.blt,o5] using ay
 rwa [show(s*10000+t) / 10000=s by omega,show(s*10000+t) % 10000=t by omega] at this
structure Hid (p:Prop):Prop where
 out:p
section
variable {B:c6}{o:Oper}{n:Nat}{ds:dL}{l:List (Nat×Value)}{m m':aU}{J:an}{d:Nat}
theorem MW{a:Nat}{cells:List Value}(h:lG m J a cells:=by first|exact .own (by repeat first|exact .head _|refine .tail _ ?_|refine eU _ ?_)|exact .dv (by assumption)|exact .opn (by repeat first|exact .head _|refine .tail _ ?_|refine eU _ ?_)):lG m J a cells:=h
theorem V.aT{x:Operand}{v:Value}(ae:o.op=.move x:=by exact rfl) (j:bB l x=some v:=by exact rfl):ch (aS Q g0) B o n ds l m J (v):=ZN ae j
theorem V.aI{x:Operand}{v:Value}(ae:o.op=.assign x:=by exact rfl) (j:bB l x=some v:=by exact rfl):ch (aS Q g0) B o n ds l m J (v):=Zv ae j
theorem V.cN{s:TypeId}{x:Operand}{f a off k:Nat}(ae:o.op=.fieldAddr s x f:=by exact rfl) (j:bB l x=some (.pointer (some ⟨a,off,none⟩)):=by exact rfl) (ay:vD (aS Q g0).P s f=some k:=by exact Zd rfl rfl):ch (aS Q g0) B o n ds l m J (.pointer (some ⟨a,off+k,none⟩)):=ZA ae j ay
theorem V.cP{t:TypeId}{x:Operand}{a off:Nat}{cells:List Value}{v:Value}(ae:o.op=.load t x:=by exact rfl) (j:bB l x=some (.pointer (some ⟨a,off,none⟩)):=by exact rfl) (ap:lG m J a cells:=by exact MW) (aD:jj (aS Q g0).P t cells off=some v:=by exact zN (fs rfl) (by first|rfl|assumption)):ch (aS Q g0) B o n ds l m J (v):=CP ae j ap aD
theorem V.fH{t:TypeId}{x:Operand}{a off:Nat}{cells:List Value}{v:Value}(ae:o.op=.load t x:=by exact rfl) (j:bB l x=some (.pointer (some ⟨a,off,none⟩)):=by exact rfl) (ap:lG m J a cells:=by exact MW) (aD:jj (aS Q g0).P t cells off=some v:=by exact gh (fs rfl) (by first|rfl|assumption)):ch (aS Q g0) B o n ds l m J (v):=CP ae j ap aD
theorem V.bx{c x y:Operand}{t:Bool}{v:Value}(ae:o.op=.pick c x y:=by exact rfl) (aF:bB l c=some (.bool t):=by exact rfl) (aD:(if t=true then bB l x else bB l y)=some v:=by exact rfl):ch (aS Q g0) B o n ds l m J (v):=ZR ae aF aD
theorem V.bk{op:BinOp}{t dq:TypeId}{x y:Operand}{k:IntKind}{a b:Int}{v:Value}(ae:o.op=.binOp op t x y dq:=by exact rfl) (j:bB l x=some (.int k a):=by exact rfl) (aC:bB l y=some (.int k b):=by exact rfl) (aD:Dy k a b op=some v:=by exact rfl):ch (aS Q g0) B o n ds l m J (v):=NH ae j aC aD
theorem V.bX{op:BinOp}{t dq:TypeId}{x y:Operand}{k:IntKind}{a b c bo:Int}(ae:o.op=.binOp op t x y dq:=by exact rfl) (j:bB l x=some (.int k a):=by exact rfl) (aC:bB l y=some (.int k b):=by exact rfl) (aD:Du a b op=some c:=by exact rfl) (hw:k.wrap c=bo:=by first|exact wrap_i64 (by omega) (by omega)|exact wrap_u8 (by omega) (by omega)|exact wrap_u64 (by omega) (by omega)|exact wrap_u32 (by omega) (by omega)|rfl):ch (aS Q g0) B o n ds l m J (.int k bo):=Zu ae j aC aD hw
theorem V.hU{op:BinOp}{t dq:TypeId}{x y:Operand}{k:IntKind}{a b:Int}{v:Value}(ae:o.op=.binOp op t x y dq:=by exact rfl) (j:bB l x=some (.int k a):=by exact rfl) (aC:bB l y=some (.int k b):=by exact rfl) (aD:vq k a b op=some v:=by exact rfl) (af:b≠0:=by first|decide|omega):ch (aS Q g0) B o n ds l m J (v):=Zy ae j aC aD af
theorem V.pO{v:Value}(h:ch (aS Q g0) B o n ds l m J v:=by first|exact ZP rfl rfl|exact NI rfl rfl):ch (aS Q g0) B o n ds l m J (v):=h
theorem V.Ym{v:Value}(h:ch (aS Q g0) B o n ds l m J v:=by exact NL rfl rfl rfl (.inl ⟨rfl,rfl⟩)):ch (aS Q g0) B o n ds l m J (v):=h
theorem V.Yu{v:Value}(h:ch (aS Q g0) B o n ds l m J v:=by exact NL rfl rfl rfl (.inr ⟨rfl,rfl⟩)):ch (aS Q g0) B o n ds l m J (v):=h
theorem V.ex{x:Operand}{bw:Nat}{vs:Array Value}{v:Value}(ae:o.op=.extract x bw:=by exact rfl) (j:bB l x=some (.tuple vs):=by exact rfl) (aD:nth vs.toList bw=some v:=by exact rfl):ch (aS Q g0) B o n ds l m J (v):=Zz ae j aD
theorem V.h2{v:Value}(h:ch (aS Q g0) B o n ds l m J v:=by exact ZK rfl rfl rfl rfl (Nr rfl)):ch (aS Q g0) B o n ds l m J (v):=h
theorem V.B3{v:Value}(h:ch (aS Q g0) B o n ds l m J v:=by exact ZJ rfl rfl rfl rfl (Ns rfl)):ch (aS Q g0) B o n ds l m J (v):=h
theorem V.bw{t:TypeId}{x bw:Operand}{a off len cap sz:Nat}{k:IntKind}{i:Int}(ae:o.op=.indexAddr t x bw:=by exact rfl) (j:bB l x=some (.slice (some ⟨a,off,none⟩) len cap):=by exact rfl) (aq:bB l bw=some (.int k i):=by exact rfl) (aG:vv (aS Q g0).P t=some sz:=by exact Zc rfl) (a2:0<=i:=by first|omega|(simp;omega)) (U:i<len:=by first|omega|(simp;omega)):ch (aS Q g0) B o n ds l m J (.pointer (some ⟨a,off+i.toNat*sz,none⟩)):=ZE ae j aq aG a2 U
theorem V.UY{t elem:TypeId}{x bw:Operand}{a off len sz:Nat}{k:IntKind}{i:Int}(ae:o.op=.indexAddr t x bw:=by exact rfl) (j:bB l x=some (.pointer (some ⟨a,off,none⟩)):=by exact rfl) (aq:bB l bw=some (.int k i):=by exact rfl) (aG:rP (aS Q g0).P t=some (len,elem,sz):=by exact Np rfl) (a2:0<=i:=by first|omega|(simp;omega)) (U:i<len:=by first|omega|(simp;omega)):ch (aS Q g0) B o n ds l m J (.pointer (some ⟨a,off+i.toNat*sz,none⟩)):=ZF ae j aq aG a2 U
theorem V.kH{v:Value}(h:ch (aS Q g0) B o n ds l m J v:=by exact Zw rfl rfl (Za rfl) rfl):ch (aS Q g0) B o n ds l m J (v):=h
theorem V.zv{v:Value}(h:ch (aS Q g0) B o n ds l m J v:=by exact ZO rfl rfl):ch (aS Q g0) B o n ds l m J (v):=h
theorem V.fd{v:Value}(h:ch (aS Q g0) B o n ds l m J v:=by exact NG rfl rfl (Nq rfl rfl) (zN (fs rfl) rfl)):ch (aS Q g0) B o n ds l m J (v):=h
theorem V.R0{v:Value}(h:ch (aS Q g0) B o n ds l m J v:=by exact NG rfl rfl (Nq rfl rfl) (gh (fs rfl) rfl)):ch (aS Q g0) B o n ds l m J (v):=h
theorem V.gb{v:Value}(h:ch (aS Q g0) B o n ds l m J v:=by exact Zx rfl rfl (Zb rfl rfl) (by first|exact wrap_i64 (by omega) (by omega)|exact wrap_u8 (by omega) (by omega)|exact wrap_u64 (by omega) (by omega)|exact wrap_u32 (by omega) (by omega)|rfl)):ch (aS Q g0) B o n ds l m J (v):=h
theorem V.fn{v:Value}(h:ch (aS Q g0) B o n ds l m J v:=by exact ZB rfl rfl rfl):ch (aS Q g0) B o n ds l m J (v):=h
theorem V.U3{v:Value}(h:ch (aS Q g0) B o n ds l m J v:=by exact ZC rfl rfl (Ze rfl)):ch (aS Q g0) B o n ds l m J (v):=h
theorem V.UZ{t:TypeId}{x bw:Operand}{s:List UInt8}{k:IntKind}{i:Int}{b:UInt8}(ae:o.op=.index t x bw:=by exact rfl) (j:bB l x=some (.string ⟨⟨s⟩⟩):=by exact rfl) (aq:bB l bw=some (.int k i):=by exact rfl) (aG:pE (aS Q g0).P t=true:=by exact Ns rfl) (a2:0<=i:=by first|omega|(simp;omega)) (af:s[i.toNat]?=some b:=by first|assumption|exact fx (by first|omega|(simp;omega))):ch (aS Q g0) B o n ds l m J (.int .u8 b.toNat):=ZH ae j aq aG a2 af
theorem V.GQ{v:Value}(h:ch (aS Q g0) B o n ds l m J v:=by exact ZU (op:=.eql) rfl rfl rfl (Nr rfl)):ch (aS Q g0) B o n ds l m J (v):=h
section
variable {ops rest:List Oper}{bt:Option (List PanicEntry)->bK->aU->an->Prop}
theorem I{v:Value}(aD:ch (aS Q g0) B o n ds l m J v)(h:W (aS Q g0) B ops rest ⟨n,ds,(d,v)::l⟩ m J bt)(ar:o.guard=none:=by exact rfl) (ax:o.dst=some d:=by exact rfl) (aE:Nat.blt d n=true:=by exact rfl):W (aS Q g0) B ops (o::rest) ⟨n,ds,l⟩ m J bt:=W.step ar (Exec.val ax aE aD h)
theorem bF{v:Value}{g:Nat}{want b:Bool}(aD:ch (aS Q g0) B o n ds l m J v)(h:W (aS Q g0) B ops rest ⟨n,ds,(d,v)::l⟩ m J bt)(ar:jF ops o=some (g,want):=by exact rfl) (af:look l g=some (.bool b):=by exact rfl) (hw:(b==want)=true:=by exact rfl) (ax:o.dst=some d:=by exact rfl) (aE:Nat.blt d n=true:=by exact rfl):W (aS Q g0) B ops (o::rest) ⟨n,ds,l⟩ m J bt:=W.Er ar af hw (Exec.val ax aE aD h)
theorem cz{e:Nat}{want b:Bool}(h:W (aS Q g0) B ops rest ⟨n,ds,(e,undef)::l⟩ m J bt)(ar:jF ops o=some (d,want):=by exact rfl) (af:look l d=some (.bool b):=by exact rfl) (hw:(b==want)=false:=by exact rfl) (ax:o.dst=some e:=by exact rfl) (aE:Nat.blt e n=true:=by exact rfl):W (aS Q g0) B ops (o::rest) ⟨n,ds,l⟩ m J bt:=W.yk ar af hw ax aE h
theorem fM{t:TypeId}{x y:Operand}{a off k:Nat}{v:Value}{vs cells cells':List Value}{e:TypeId}(h:W (aS Q g0) B ops rest ⟨n,ds,l⟩ m' J bt)(ar:o.guard=none:=by exact rfl) (ae:o.op=.store t x y:=by exact rfl) (ax:o.dst=none:=by exact rfl) (j:bB l x=some (.pointer (some ⟨a,off,none⟩)):=by exact rfl) (aC:bB l y=some v:=by exact rfl) (hk:dD (aS Q g0).P t=some k:=by exact lq rfl) (aF:v.cells.toList=vs:=by exact rfl) (aw:Nat.beq vs.length k=true:=by exact rfl) (a2:Nat.blt 0 vs.length=true:=by exact rfl) (U:vs.all dY=true:=by exact rfl) (ao:e6 m a (.row cells e) (.row cells' e) m':=by repeat first|exact .head _ _ _ _|apply e6.tail|apply e6.app) (ag:fD off cells vs=some cells':=by exact rfl):W (aS Q g0) B ops (o::rest) ⟨n,ds,l⟩ m J bt:=W.step ar (.of (nP ae ax j aC hk aF aw a2 U ag ao h))
end
section
variable {ops:List Oper}{a6:List g9}{F:List (FuncId×List Value)}{i:Nat}{bt:bK->aU->an->Prop}
theorem bd{v:Value}(aq:nth ops i=some o)(aD:ch (aS Q g0) B o n ds l m J v)(h:bR (aS Q g0) B ops a6 F ⟨n,ds,(d,v)::l⟩ m J bt)(ar:o.guard=none:=by exact rfl) (ax:o.dst=some d:=by exact rfl) (aE:Nat.blt d n=true:=by exact rfl):bR (aS Q g0) B ops (.val i::a6) F ⟨n,ds,l⟩ m J bt:=bR.val aq ar ax aE aD h
theorem rv{v:Value}(aq:nth ops i=some o)(aD:ch (aS Q g0) B o n ds l m J v)(h:bR (aS Q g0) B ops a6 F ⟨n,ds,(d,v)::l⟩ m J bt)(ar:o.guard=none:=by exact rfl) (ax:o.dst=some d:=by exact rfl) (aE:Nat.blt d n=true:=by exact rfl):bR (aS Q g0) B ops (.bZ i::a6) F ⟨n,ds,l⟩ m J bt:=bR.Qa aq ar ax aE aD h
theorem oZ{t:TypeId}{x y:Operand}{a off k:Nat}{v:Value}{vs cells cells':List Value}{e:TypeId}(aq:nth ops i=some o)(h:bR (aS Q g0) B ops a6 F ⟨n,ds,l⟩ m' J bt)(ar:o.guard=none:=by exact rfl) (ae:o.op=.store t x y:=by exact rfl) (ax:o.dst=none:=by exact rfl) (j:bB l x=some (.pointer (some ⟨a,off,none⟩)):=by exact rfl) (aC:bB l y=some v:=by exact rfl) (hk:dD (aS Q g0).P t=some k:=by exact lq rfl) (aF:v.cells.toList=vs:=by exact rfl) (aw:Nat.beq vs.length k=true:=by exact rfl) (a2:Nat.blt 0 vs.length=true:=by exact rfl) (U:vs.all dY=true:=by exact rfl) (ao:e6 m a (.row cells e) (.row cells' e) m':=by repeat first|exact .head _ _ _ _|apply e6.tail|apply e6.app) (ag:fD off cells vs=some cells':=by exact rfl):bR (aS Q g0) B ops (.bZ i::a6) F ⟨n,ds,l⟩ m J bt:=bR.I3 aq ar (nP ae ax j aC hk aF aw a2 U ag ao h)
end
section
variable {R:o6}{ops:List Oper}{a6:List g9}{i g:Nat}{want b:Bool}{bt:bK->aU->an->Prop}
theorem mh{v:Value}(aq:nth ops i=some o)(aD:ch (aS Q g0) B o n ds l m J v)(h:fe (aS Q g0) B R ops a6 ⟨n,ds,(d,v)::l⟩ m J bt)(ar:o.guard=none:=by exact rfl) (ax:o.dst=some d:=by exact rfl) (aE:Nat.blt d n=true:=by exact rfl):fe (aS Q g0) B R ops (.val i::a6) ⟨n,ds,l⟩ m J bt:=fe.val aq ar ax aE aD h
theorem Ii{v:Value}(aq:nth ops i=some o)(aD:ch (aS Q g0) B o n ds l m J v)(h:fe (aS Q g0) B R ops a6 ⟨n,ds,(d,v)::l⟩ m J bt)(ar:jF ops o=some (g,want):=by exact rfl) (af:look l g=some (.bool b):=by exact rfl) (hw:(b==want)=true:=by exact rfl) (ax:o.dst=some d:=by exact rfl) (aE:Nat.blt d n=true:=by exact rfl):fe (aS Q g0) B R ops (.val i::a6) ⟨n,ds,l⟩ m J bt:=fe.Hc aq ar af hw ax aE aD h
end
theorem NV{v u:Value}(h:ee 8 v u=true:=by first|assumption|rfl|exact NX _ _ _|exact NW _ _|exact NZ _ _|exact NY (by assumption) _ _ _|(refine ZZ ?_;repeat first|exact Z2|refine Z1 ?_ ?_|exact NX _ _ _|exact NZ _ _|exact NW _ _|exact NY (by assumption) _ _ _)|simp[ee,addrEq]):ee 8 v u=true:=h
theorem N6{v:Value}(h:ch (aS Q g0) B o n ds l m J v:=by first|exact V.aT|exact V.aI|exact V.cN|exact V.cP|exact V.fH|exact V.bw|exact V.bx|exact V.bX|exact V.bk|exact V.ex|exact V.kH|exact V.pO|exact V.bX|exact V.hU|exact V.h2|exact V.B3|exact V.Ym|exact V.Yu|exact V.zv|exact V.fd|exact V.R0|exact V.gb|exact V.fn|exact V.U3|exact V.UZ|exact V.UY|exact V.GQ):ch (aS Q g0) B o n ds l m J v:=h
theorem eV{ops:List Oper}{is:List Nat}(h:p6 (aS Q g0) B ops n ds l m J is:=by
 repeat first
  |exact trivial
  |exact lB.val rfl rfl rfl N6 rfl NV
  |exact lB.Hc rfl rfl rfl rfl rfl N6 rfl NV
  |exact lB.no rfl (JJ rfl rfl rfl)
  |exact lB.no rfl (So rfl rfl)
  |refine⟨?_,?_⟩):p6 (aS Q g0) B ops n ds l m J is:=h
theorem bU{ops:List Oper}{E:bK}{bt:Option (List PanicEntry)->bK->aU->an->Prop}(h:bt none E m J):W (aS Q g0) B ops [] E m J bt:=W.nil h
theorem rg{p q:Prop}(h:p)(kP:Hid p->q:=by
 intro k9;repeat refine ad.seq ?_
 refine ad.region ?_;exact k9.out):q:=kP ⟨h⟩
theorem aM{p q:Prop}(h:p)(kP:Hid p->q:=by
 intro k9;repeat refine ad.seq ?_
 exact k9.out):q:=kP ⟨h⟩
theorem bg{p q:Prop}(h:p)(kP:Hid p->q:=by
 intro k9;refine bU ?_;repeat refine ad.seq ?_
 refine ad.region ?_;exact k9.out):q:=kP ⟨h⟩
theorem aJ{p q:Prop}(h:p)(kP:Hid p->q:=by
 intro k9;refine bU ?_;repeat refine ad.seq ?_
 exact k9.out):q:=kP ⟨h⟩
theorem fJ{p q:Prop}(h:p)(kP:Hid p->q:=by
 intro k9;repeat refine ad.seq ?_
 refine ad.skip ?_;exact k9.out):q:=kP ⟨h⟩
theorem lf{p q:Prop}(h:p)(kP:Hid p->q:=by
 intro k9;repeat refine ad.seq ?_
 refine ad.skip ?_;repeat refine ad.seq ?_
 refine ad.region ?_;exact k9.out):q:=kP ⟨h⟩
structure mi (t:Bool) (dG kR:Prop):Prop where
 y:t=true->dG
 n:t=false->kR
theorem mi.p(p:Prop)[Decidable p]:mi (decide p) p (¬p):=⟨Cl,of_decide_eq_false⟩
theorem mi.b(t:Bool):mi t (t=true) (t=false):=⟨id,id⟩
theorem If{cC:Exit->bK->aU->an->Prop}{x:Operand}{a b:Code}{t:Bool}{dG kR:Prop}(U:dG->ad (aS Q g0) B a ⟨n,ds,l⟩ m J cC)(a2:kR->ad (aS Q g0) B b ⟨n,ds,l⟩ m J cC)(j:bB l x=some (.bool t):=by exact rfl) (ag:mi t dG kR:=by first|exact mi.p _|exact mi.b _):ad (aS Q g0) B (.cond x a b) ⟨n,ds,l⟩ m J cC:=ad.cond j (fun q=>U (ag.y q)) (fun q=>a2 (ag.n q))
theorem gP{ops rest:List Oper}{bt:Option (List PanicEntry)->bK->aU->an->Prop}(d:Nat){b:Bool}{dG kR:Prop}(U:dG->W (aS Q g0) B ops rest ⟨n,ds,(d,.bool true)::l⟩ m J bt)(a2:kR->W (aS Q g0) B ops rest ⟨n,ds,(d,.bool false)::l⟩ m J bt)(af:look l d=some (.bool b):=by exact rfl) (ag:mi b dG kR:=by first|exact mi.p _|exact mi.b _):W (aS Q g0) B ops rest ⟨n,ds,l⟩ m J bt:=W.split af (fun q=>U (ag.y q)) (fun q=>a2 (ag.n q))
theorem O5{R:o6}{ops:List Oper}{a6:List g9}{bt:bK->aU->an->Prop}(d:Nat){b:Bool}{dG kR:Prop}(U:dG->fe (aS Q g0) B R ops a6 ⟨n,ds,(d,.bool true)::l⟩ m J bt)(a2:kR->fe (aS Q g0) B R ops a6 ⟨n,ds,(d,.bool false)::l⟩ m J bt)(af:look l d=some (.bool b):=by exact rfl) (ag:mi b dG kR:=by first|exact mi.p _|exact mi.b _):fe (aS Q g0) B R ops a6 ⟨n,ds,l⟩ m J bt:=fe.split af (fun q=>U (ag.y q)) (fun q=>a2 (ag.n q))
theorem DR{l:List (Nat×Value)}{t:Nat}{v:Value}(h:look l t=some v:=by first|exact rfl|exact pe rfl (by first|omega|(simp_all;done))|exact pc rfl (by first|omega|(simp_all;done))|exact pd rfl (by first|omega|(simp_all;done)|(simp_all;omega))|exact pb rfl (by simp_all)|exact ak some (ak (Value.int .i64) (by omega))):look l t=some v:=h
theorem ce{p:Prop}(h:p:=by
 refine⟨⟨_,rfl,?_⟩,cl _,?_⟩
 ·repeat first|exact trivial|refine⟨DR,?_⟩
 ·first|exact rfl|exact an.le.refl _|assumption):p:=h
def Cs (l:List (Nat×Value)):List Nat->Option (List (Nat×Value))
 |[]=>some []
 |t::ft=>match look l t with
  |some v=>(match Cs l ft with|some r=>some ((t,v)::r)|none=>none)
  |none=>none
theorem Xr{l:List (Nat×Value)}:∀{ft:List Nat} {l':List (Nat×Value)},Cs l ft=some l'->lp l l':=by
 intro ft;induction ft with
 |nil=>intro l' h;injection h with h;subst h;trivial
 |cons t ft aN=>
  intro l' h;unfold Cs at h;split at h
  ·rename_i v aD;split at h
   ·rename_i r ap;injection h with h;subst h
    exact⟨aD,aN ap⟩
   ·cases h
  ·cases h
theorem ma{cC:Exit->bK->aU->an->Prop}{c:Code}{l':List (Nat×Value)}(ft:List Nat)(h:ad (aS Q g0) B c ⟨n,ds,l'⟩ m J cC)(aw:Cs l ft=some l':=by exact rfl):ad (aS Q g0) B c ⟨n,ds,l⟩ m J cC:=ad.eZ (Xr aw) (cl _) h
section
variable {ops rest:List Oper}{bt:Option (List PanicEntry)->bK->aU->an->Prop}{c:Call}{x:Operand}{f:FuncId}{first cap:Array Value}{args aH:List Value}{ck e8:aU}{er:Value->aU->an->Prop}
theorem cm(ar:o.guard=none:=by exact rfl) (ae:o.op=.call c:=by exact rfl) (ax:o.dst=some d:=by exact rfl) (aE:Nat.blt d n=true:=by exact rfl) (aF:c.callee=.value x:=by exact rfl) (j:bB l x=some (.func (.func f) first cap):=by exact rfl) (aK:hz l c.args.toList=some args:=by exact rfl) (has:(first.toList++args)++cap.toList=aH:=by exact rfl) (ao:(ck++e8).Perm m:=by exact .refl _) (G:Fn (aS Q g0) f aH ck J er) (h:∀v m' ai,J.le ai->er v m' ai->W (aS Q g0) B ops rest ⟨n,ds,(d,v)::l⟩ (m'++e8) ai bt):W (aS Q g0) B ops (o::rest) ⟨n,ds,l⟩ m J bt:=W.step ar (Exec.call ae ax aE aF j aK has ao trivial G h)
theorem gR{v:Value}(ar:o.guard=none:=by exact rfl) (ae:o.op=.call c:=by exact rfl) (ax:o.dst=some d:=by exact rfl) (aE:Nat.blt d n=true:=by exact rfl) (aF:c.callee=.value x:=by exact rfl) (j:bB l x=some (.func (.func f) first cap):=by exact rfl) (aK:hz l c.args.toList=some args:=by exact rfl) (has:(first.toList++args)++cap.toList=aH:=by exact rfl) (G:Fn (aS Q g0) f aH [] J (fun w m' ai=>w=v/\m'=[]/\ai=J)) (h:W (aS Q g0) B ops rest ⟨n,ds,(d,v)::l⟩ m J bt):W (aS Q g0) B ops (o::rest) ⟨n,ds,l⟩ m J bt:=W.step ar (Exec.call ae ax aE aF j aK has (.refl _) trivial G (fun v' m' ai _ q=>by obtain⟨rfl,rfl,rfl⟩:=q;exact h))
theorem to{g:Nat}{want b:Bool}(ar:jF ops o=some (g,want):=by exact rfl) (af:look l g=some (.bool b):=by exact rfl) (hw:(b==want)=true:=by exact rfl) (ae:o.op=.call c:=by exact rfl) (ax:o.dst=some d:=by exact rfl) (aE:Nat.blt d n=true:=by exact rfl) (aF:c.callee=.value x:=by exact rfl) (j:bB l x=some (.func (.func f) first cap):=by exact rfl) (aK:hz l c.args.toList=some args:=by exact rfl) (has:(first.toList++args)++cap.toList=aH:=by exact rfl) (ao:(ck++e8).Perm m:=by exact .refl _) (G:Fn (aS Q g0) f aH ck J er) (h:∀v m' ai,J.le ai->er v m' ai->W (aS Q g0) B ops rest ⟨n,ds,(d,v)::l⟩ (m'++e8) ai bt):W (aS Q g0) B ops (o::rest) ⟨n,ds,l⟩ m J bt:=W.Er ar af hw (Exec.call ae ax aE aF j aK has ao trivial G h)
end
section
variable {ops:List Oper}{a6:List g9}{F:List (FuncId×List Value)}{i:Nat}{bt:bK->aU->an->Prop}{c:Call}{x:Operand}{f:FuncId}{first cap:Array Value}{args aH:List Value}{ck e8:aU}{er:Value->aU->an->Prop}
theorem dl(aq:nth ops i=some o)(ar:o.guard=none:=by exact rfl) (ae:o.op=.call c:=by exact rfl) (ax:o.dst=some d:=by exact rfl) (aE:Nat.blt d n=true:=by exact rfl) (aF:c.callee=.value x:=by exact rfl) (j:bB l x=some (.func (.func f) first cap):=by exact rfl) (aK:hz l c.args.toList=some args:=by exact rfl) (has:(first.toList++args)++cap.toList=aH:=by exact rfl) (ay:F.all (fun g=>!Nat.beq g.1 f)=true:=by exact rfl) (ao:(ck++e8).Perm m:=by exact .refl _) (G:Fn (aS Q g0) f aH ck J er) (h:∀v m' ai,J.le ai->er v m' ai->bR (aS Q g0) B ops a6 ((f,aH)::F) ⟨n,ds,(d,v)::l⟩ (m'++e8) ai bt):bR (aS Q g0) B ops (.bZ i::a6) F ⟨n,ds,l⟩ m J bt:=bR.call aq ar ae ax aE aF j aK has ay ao trivial G h
end
theorem wZ{E:bK}{t:Tmp}{dq:TypeId}{a:Nat}{cells:List Value}{e:TypeId}{v:Value}{rs:List ResultVar}{vs:List Value}(ap:lF (aS Q g0).P E m J rs vs)(U:look E.l t=some (.pointer (some ⟨a,0,none⟩)):=by exact rfl) (ab:(a,db.row cells e)∈m:=by repeat first|exact .head _|refine .tail _ ?_|refine eU _ ?_) (aV:jj (aS Q g0).P dq cells 0=some v:=by first|exact gh (fs rfl) rfl|exact zN (fs rfl) rfl):lF (aS Q g0).P E m J (.cell t dq::rs) (v::vs):=.cell U ab aV ap
theorem m2{e:Exit}{E:bK}{rs:List ResultVar}{vs:List Value}{Ig:List Value->aU->Prop}(ao:Ig vs m')(he:e=.normal\/e=.ret:=by first|exact .inl rfl|exact .inr rfl) (ax:E.ds.ds=[]:=by exact rfl) (ap:lF (aS Q g0).P E m J rs vs:=by first|exact .tmp rfl .nil|exact .tmp rfl (.tmp rfl .nil)|exact .nil|exact wZ .nil|exact wZ (wZ .nil)|exact .tmp rfl (.tmp rfl (.tmp rfl .nil))|exact wZ (wZ (wZ .nil))) (ag:m'.Sublist m:=by first|exact b1 _|exact cl _):(e=.normal\/e=.ret)/\E.ds.ds=[]/\∃vs m',lF (aS Q g0).P E m J rs vs/\m'.Sublist m/\Ig vs m':=⟨he,ax,vs,m',ap,ag,ao⟩
end
end
theorem cu{p:Prop}(h:p:=by first|rfl|exact ak some (ak (Value.int .i64) (by omega))):p:=h
theorem cQ{p:Prop}(h:p:=by first|omega|(simp;omega)|(simp only;omega)):p:=h
theorem wW{p:Prop}(h:p:=by first|exact ew.rd (by assumption)|exact jg.str|exact jg.own (by repeat first|exact .head _|refine .tail _ ?_|refine eU _ ?_) rfl):p:=h
theorem Xz{p:Prop}(h:p:=by first|exact List.Perm.refl _|exact zO|exact Mx|exact My|exact Xp):p:=h
section
variable {Q:eF gY}{g0:Nat}
section
variable {B:c6}{o:Oper}{n:Nat}{ds:dL}{l:List (Nat×Value)}{m:aU}{J:an}{d:Nat}
section
variable {ops rest:List Oper}{bt:Option (List PanicEntry)->bK->aU->an->Prop}
theorem fl{t:TypeId}{x:Operand}{v:Value}{cells:List Value}(h:∀a,W (aS Q g0) B ops rest ⟨n,ds,(d,.pointer (some ⟨a,0,none⟩))::l⟩ ((a,.row cells t)::m) J bt)(ar:o.guard=none:=by exact rfl) (ae:o.op=.box t x:=by exact rfl) (ax:o.dst=some d:=by exact rfl) (aE:Nat.blt d n=true:=by exact rfl) (j:bB l x=some v:=by exact rfl) (aF:v.cells.toList=cells:=by exact rfl) (U:cells.all dY=true:=by exact rfl):W (aS Q g0) B ops (o::rest) ⟨n,ds,l⟩ m J bt:=W.step ar (.of (aaj ae ax aE j aF U h))
theorem jA{t e:TypeId}{k sz:Nat}{fc cells:List Value}{ps:Array (Nat×Operand)}{vs:List (Nat×Value)}(aG:jd (aS Q g0).P t=some (e,sz,fc))(h:∀a,W (aS Q g0) B ops rest ⟨n,ds,(d,.slice (some ⟨a,0,none⟩) k k)::l⟩ ((a,.row cells e)::m) J bt)(ar:o.guard=none:=by exact rfl) (ae:o.op=.buildSlice t k ps:=by exact rfl) (ax:o.dst=some d:=by exact rfl) (aE:Nat.blt d n=true:=by exact rfl) (ao:tx l ps.toList=some vs:=by exact rfl) (hk:(Nat.ble k 100000&&Nat.ble (k*sz) 100000)=true:=by exact rfl) (ay:km (fun i=>some (i*sz,sz)) (fb fc k) vs=some cells:=by exact rfl) (U:cells.all dY=true:=by exact rfl):W (aS Q g0) B ops (o::rest) ⟨n,ds,l⟩ m J bt:=W.step ar (.of (Oi ae ax aE ao aG hk ay U h))
end
section
variable {R:o6}{ops:List Oper}{a6:List g9}{i g:Nat}{want b:Bool}{bt:bK->aU->an->Prop}
theorem Ij(aq:nth ops i=some o)(h:fe (aS Q g0) B R ops a6 ⟨n,ds,(d,undef)::l⟩ m J bt)(ar:jF ops o=some (g,want):=by exact rfl) (af:look l g=some (.bool b):=by exact rfl) (hw:(b==want)=false:=by exact rfl) (ax:o.dst=some d:=by exact rfl) (aE:Nat.blt d n=true:=by exact rfl):fe (aS Q g0) B R ops (.val i::a6) ⟨n,ds,l⟩ m J bt:=fe.ZW aq ar af hw ax aE h
end
end
end
structure HO where
 d:List (Nat×Value)
 m:aU
 aa:an
 i:Prop
 k:Nat
section
variable {K:di}{B:c6}{cC:Exit->bK->aU->an->Prop}{n:Nat}{ds:dL}
theorem ad.hN{α:Type}{c:Code}{base:List (Nat×Value)}(r:α->HO)(s:α)(ag:(r s).i)
 (b2:∀s,(r s).i->ad K B c ⟨n,ds,(r s).d++base⟩ (r s).m (r s).aa fun e E m J=>match e with
  |.normal=>∃c1 l,(r c1).i/\(r c1).k<(r s).k/\E=⟨n,ds,l⟩/\lp l ((r c1).d++base)/\((r c1).m).Sublist m/\J=(r c1).aa
  |e=>cC e E m J):ad K B (.loop c) ⟨n,ds,(r s).d++base⟩ (r s).m (r s).aa cC:=
 ad.VM (fun s=>(r s).d) (fun s=>(r s).m) (fun s=>(r s).aa) (fun s=>(r s).i) (fun s=>(r s).k) s ag b2
theorem hO{α:Type}{r:α->HO}{base l:List (Nat×Value)}{pG:Nat}{m:aU}{J:an}(c1:α)(aq:(r c1).i)(hm:((r c1).m).Sublist m:=by exact .refl _) (aX:J=(r c1).aa:=by exact rfl) (hk:(r c1).k<pG:=by first|omega|(simp;omega)|(simp only;omega)) (aw:lp l ((r c1).d++base):=by repeat first|exact trivial|refine⟨by first|rfl|exact ak some (ak (Value.int .i64) (by omega)),?_⟩):∃c1 l',(r c1).i/\(r c1).k<pG/\(⟨n,ds,l⟩:bK)=⟨n,ds,l'⟩/\lp l' ((r c1).d++base)/\((r c1).m).Sublist m/\J=(r c1).aa:=⟨c1,l,aq,hk,rfl,aw,hm,aX⟩
end
theorem aH{p q:Prop}(h:p)(kP:Hid p->q:=by
 intro k9;repeat first
  |refine I V.aT ?_
  |refine I V.cN ?_
  |refine I V.aI ?_
  |refine I V.zv ?_
  |refine I V.h2 ?_
  |refine I V.ex ?_
  |refine I V.kH ?_
  |refine I V.fn ?_
  |refine I V.B3 ?_
 exact k9.out):q:=kP ⟨h⟩
theorem fX{p q:Prop}(h:p)(kP:Hid p->q:=by
 intro k9;repeat first
  |refine bd rfl V.aT ?_
  |refine bd rfl V.cN ?_
  |refine bd rfl V.aI ?_
  |refine bd rfl V.zv ?_
  |refine bd rfl V.h2 ?_
  |refine bd rfl V.ex ?_
  |refine bd rfl V.kH ?_
  |refine bd rfl V.fn ?_
  |refine bd rfl V.B3 ?_
 exact k9.out):q:=kP ⟨h⟩
end
end Go.Opn
namespace Go.Opn
noncomputable section
open Go.Cre Go.RowKit
section
variable {K:di}{B:c6}{E:bK}{m dK:aU}{J:an}{cC:Exit->bK->aU->an->Prop}
end
section
variable {K:di}{B:c6}{o:Oper}{n:Nat}{ds:dL}{l:List (Nat×Value)}{m m':aU}{J:an}{dS:bK->aU->an->Prop}{d:Nat}
end
section
variable {K:di}{B:c6}{ops:List Oper}{a6:List g9}{E:bK}{m m':aU}{J:an}{o:Oper}{bt:bK->aU->an->Prop}{cC:Exit->bK->aU->an->Prop}
variable {n:Nat}{ds:dL}{l:List (Nat×Value)}{d i:Nat}
end
section
variable {K:di}{B:c6}{o:Oper}{n:Nat}{ds:dL}{l:List (Nat×Value)}{m m':aU}{J:an}{dS:bK->aU->an->Prop}{d:Nat}
theorem CQ{t:TypeId}{x:Operand}{k:IntKind}{a b:Int}(ae:o.op=.unOp .neg t x)(j:bB l x=some (.int k a))(hw:k.wrap (-a)=b):ch K B o n ds l m J (.int k b):=by
 intro call az S H al au;unfold cc eh;simp only[ae];show ek K.P S.T H o=_;refine MA al (by rw[ae];rfl) j rfl ?_ rfl;unfold execOp;simp only[ae];rw[gx al H j,<-hw];show some (Next.value (.int k (k.wrap (0 -a))))=_;rw[Int.zero_sub]
theorem wrap_i32{a:Int}(a2:-2147483648<=a)(U:a<=2147483647):IntKind.i32.wrap a=a:=by
 unfold IntKind.wrap;simp[IntKind.bits,IntKind.signed];omega
end
section
variable {K:di}{B:c6}{ops:List Oper}{a6:List g9}{F:List (FuncId×List Value)}{E:bK}{m:aU}{J:an}{bt:bK->aU->an->Prop}
end
end
end Go.Opn

/- A part of the proof of ResumeBack. -/
import Derived.Test.YtiemfjdacfioeaaGreatDoorCbd
import Derived.Test.YtiemfjdacfioeaaGreatDoorCbf
import Derived.Test.YtiemfjdacfioeaaGreatDoorCbc
import Derived.Test.YtiemfjdacfioeaaGreatDoorCas
set_option maxRecDepth 100000
set_option maxHeartbeats 4000000
set_option linter.unusedVariables false
set_option linter.unusedSimpArgs false
namespace Go.Opn
noncomputable section
open Go.Cre Go.RowKit Go.Proofs
section
variable {Q:dI Tryz.prog}{g0:Nat}{J:aI}
theorem WV{bm bl:Option Addr}{bt bw:Nat}{cU ee:List Int}(aa:dG J (.slice bm cU.length bt) cU)(ae:dG J (.slice bl ee.length bw) ee)(av:cU.length<=1000000):
 Fn (bb Q g0) 48 [.slice bm cU.length bt,.slice bl ee.length bw] [] J (fun u m' ag=>u=.bool (decide (cU=ee))/\m'=[]/\J=ag):=by
 have cI:=aa.iB [];have ei:=ae.iB [];refine Fn.cH (cQ Tryz.func48) rfl rfl fun H=>?_;refine rg ?_;refine I V.aA ?_;refine bj ?_;refine aM ?_;refine I V.a1 ?_;refine ns ?_;refine If (fun eE=>?_) fun eE=>?_
 ·refine rg ?_;refine I V.aA ?_;refine ns ?_;refine ab.ret ?_;refine c' ?_;refine⟨cC Value.bool ?_,rfl,rfl⟩;first
   |(have c:=bB;symm;rw[lS]
     apply lp
     intro j;by_cases q:j<i
     ·exact bB j q
     ·rw[fx (by omega),fx (by omega)])
   |(symm;rw[mm];intro q;rw[q] at eE;exact eE rfl)
 ·refine aj ?_;refine ab.skip ?_;refine rg ?_;refine I V.aA ?_;refine ns ?_;refine ab.block ?_;refine' ab.c2 (l':=[(5,.int .i64 ((0):Int)),(0,_),(1,_)]) ⟨?pR,rfl,rfl,trivial⟩ (bA _) ?_;case pR=>exact bS
  refine aj ?_;refine' ab.rG (α:=(Nat)) (fun(i:Nat)=>[(5,.int .i64 (i:Int))]) (fun(i:Nat)=>i<=cU.length/\∀j,j<i->cU[j]?=ee[j]?) (fun(i:Nat)=>cU.length -i) (0) ?af ?bE;case af=>exact⟨cB _,fun j ba=>by omega⟩
  case bE=>
   rintro i hinv;try simp only at hinv
   obtain⟨ao,bB⟩:=hinv;refine rg ?_;refine aM ?_;refine I V.a1 ?_;refine ns ?_;refine If (fun ly=>?_) fun ly=>?_
   ·obtain⟨bo,uv,M9,rfl,PC,pt⟩:=cI (by omega);obtain⟨a2,vV,M',rfl,aiU,oS⟩:=ei (by omega);obtain⟨aN,GQ⟩:=PC.QS;obtain⟨bn,GR⟩:=aiU.QS;obtain⟨x,U,e0⟩:=pt i (by omega) (by omega);obtain⟨y,ai,ub⟩:=oS i (by omega) (by omega);rw[cy] at U ai;refine c5 ?_;refine aj ?_;refine ab.block ?_;refine aj ?_;refine ab.draw rfl (by kernel_rfl) (bf:=[.val 0,.val 1,.val 2,.val 3,.val 4,.val 5,.val 6,.val 7,.val 8]) (by kernel_rfl) ?_;refine cq ?_;refine an rfl V.aX ?_;refine an rfl V.aF ?_;refine cq ?_;refine an rfl V.aX ?_;refine an rfl V.aF ?_;refine an rfl V.a1 ?_;refine a7.nil ?_;refine aj ?_;refine If (fun oA=>?_) fun oA=>?_
    ·refine rg ?_;refine I V.aA ?_;refine ns ?_;refine ab.ret ?_;refine c' ?_;refine⟨cC Value.bool ?_,rfl,rfl⟩;first
       |(have c:=oA;symm;rw[mm];intro q;subst q;rw[U] at ai;injection ai with ai;exact oA ai)
       |(have c:=bB;symm;rw[lS]
         apply lp
         intro j;by_cases q:j<i
         ·exact bB j q
         ·rw[fx (by omega),fx (by omega)])
       |(symm;rw[mm];intro q;rw[q] at eE;exact eE rfl)
    ·refine aj ?_;refine ab.skip ?_;refine rg ?_;refine I V.ah ?_;refine I V.bx ?_;refine I V.aA ?_;refine a8 ?_;refine'⟨(i+1),_,?hinv,?kw,rfl,⟨?m5,rfl,rfl,trivial⟩,bA _,rfl⟩;case m5=>exact bS
     case kw=>exact cf
     case hinv=>refine⟨by omega,fun j ba=>?_⟩;by_cases q:j<i;(exact bB j q);(obtain rfl:j=i:=by omega);(rw[U,ai];exact cC some (gP.1 oA))
   ·refine aj ?_;refine ab.exit ?_;refine rg ?_;refine I V.aA ?_;refine ns ?_;refine ab.ret ?_;refine c' ?_;refine⟨cC Value.bool ?_,rfl,rfl⟩;first
     |(have c:=bB;symm;rw[lS]
       apply lp
       intro j;by_cases q:j<i
       ·exact bB j q
       ·rw[fx (by omega),fx (by omega)])
     |(symm;rw[mm];intro q;rw[q] at eE;exact eE rfl)
theorem W1{bm bl:Option Addr}{bt bw:Nat}{cU ee:List (List Int)}(aa:fa J 22 1 (jI J) (.slice bm cU.length bt) cU)(ae:fa J 22 1 (jI J) (.slice bl ee.length bw) ee)(av:cU.length<=1000000)(ay:∀r∈cU,r.length<=1000000):
 Fn (bb Q g0) 26 [.slice bm cU.length bt,.slice bl ee.length bw] [] J (fun u m' ag=>u=.bool (decide (cU=ee))/\m'=[]/\J=ag):=by
 obtain⟨_,Bh⟩:=aa.at;obtain⟨_,vA⟩:=ae.at;refine Fn.cH (cQ Tryz.func26) rfl rfl fun H=>?_;refine rg ?_;refine I V.aA ?_;refine bj ?_;refine aM ?_;refine I V.a1 ?_;refine ns ?_;refine If (fun eE=>?_) fun eE=>?_
 ·refine rg ?_;refine I V.aA ?_;refine ns ?_;refine ab.ret ?_;refine c' ?_;refine⟨cC Value.bool ?_,rfl,rfl⟩;first
   |(have c:=bB;symm;rw[lS]
     apply lp
     intro j;by_cases q:j<i
     ·exact bB j q
     ·rw[fx (by omega),fx (by omega)])
   |(symm;rw[mm];intro q;rw[q] at eE;exact eE rfl)
 ·refine aj ?_;refine ab.skip ?_;refine rg ?_;refine I V.aA ?_;refine ns ?_;refine ab.block ?_;refine' ab.c2 (l':=[(5,.int .i64 ((0):Int)),(0,_),(1,_)]) ⟨?pR,rfl,rfl,trivial⟩ (bA _) ?_;case pR=>exact bS
  refine aj ?_;refine' ab.rG (α:=(Nat)) (fun(i:Nat)=>[(5,.int .i64 (i:Int))]) (fun(i:Nat)=>i<=cU.length/\∀j,j<i->cU[j]?=ee[j]?) (fun(i:Nat)=>cU.length -i) (0) ?af ?bE;case af=>exact⟨cB _,fun j ba=>by omega⟩
  case bE=>
   rintro i hinv;try simp only at hinv
   obtain⟨ao,bB⟩:=hinv;refine rg ?_;refine aM ?_;refine I V.a1 ?_;refine ns ?_;refine If (fun ly=>?_) fun ly=>?_
   ·obtain⟨bo,uv,M9,aN,rfl,GQ,pt⟩:=Bh (by omega);obtain⟨a2,vV,M',bn,rfl,GR,oS⟩:=vA (by omega);obtain⟨x,cs,U,y9,Hi,dJ,hb,rfl,HO⟩:=pt i (by omega) (by omega);obtain⟨y,cs,ai,Vx,ahX,gS,TW,rfl,WA⟩:=oS i (by omega) (by omega);have ahW:=Hi 0 _ (by decide) rfl;have asq:=ahX 0 _ (by decide) rfl;rw[cy] at U ai;have kP:=ay x (cd U);have hP:addrEq dJ dJ=true:=by obtain⟨e,h⟩:=HO;exact h.addr
    have IE:addrEq gS gS=true:=by obtain⟨e,h⟩:=WA;exact h.addr
    refine c5 ?_;refine aj ?_;refine ab.block ?_;refine aj ?_;refine ab.draw rfl (by kernel_rfl) (bf:=[.val 0,.val 1,.val 2,.val 3,.val 4,.val 5,.val 6,.val 7,.bV 8,.val 9]) (by kernel_rfl) ?_;refine cq ?_;refine an rfl V.aX ?_;refine an rfl V.aF ?_;refine cq ?_;refine an rfl V.aX ?_;refine an rfl V.aF ?_;refine dl rfl (G:=WV HO WA kP) (h:=?_);rintro v m' ag hle ⟨rfl,rfl,rfl⟩;refine an rfl V.oe ?_;refine a7.nil ?_;refine aj ?_;refine If (fun ny=>?_) fun ny=>?_
    ·refine rg ?_;refine I V.aA ?_;refine ns ?_;refine ab.ret ?_;refine c' ?_;refine⟨cC Value.bool ?_,rfl,rfl⟩;first
       |(have c:=ny;symm;rw[mm];intro q;subst q;rw[U] at ai;injection ai with ai;exact absurd ai (by simpa using ny))
       |(have c:=bB;symm;rw[lS]
         apply lp
         intro j;by_cases q:j<i
         ·exact bB j q
         ·rw[fx (by omega),fx (by omega)])
       |(symm;rw[mm];intro q;rw[q] at eE;exact eE rfl)
    ·refine aj ?_;refine ab.skip ?_;refine rg ?_;refine I V.ah ?_;refine I V.bx ?_;refine I V.aA ?_;refine a8 ?_;refine'⟨(i+1),_,?hinv,?kw,rfl,⟨?m5,rfl,rfl,trivial⟩,bA _,rfl⟩;case m5=>exact bS
     case kw=>exact cf
     case hinv=>refine⟨by omega,fun j ba=>?_⟩;by_cases q:j<i;(exact bB j q);(obtain rfl:j=i:=by omega);(rw[U,ai];exact cC some (by simpa using ny))
   ·refine aj ?_;refine ab.exit ?_;refine rg ?_;refine I V.aA ?_;refine ns ?_;refine ab.ret ?_;refine c' ?_;refine⟨cC Value.bool ?_,rfl,rfl⟩;first
     |(have c:=bB;symm;rw[lS]
       apply lp
       intro j;by_cases q:j<i
       ·exact bB j q
       ·rw[fx (by omega),fx (by omega)])
     |(symm;rw[mm];intro q;rw[q] at eE;exact eE rfl)
theorem aka{t u:gI}{bm bl b8 gx:Option Addr}{bt bw dh sb:Nat}(aD:iS J t bm bt bl bw)(hu:iS J u b8 dh gx sb)(av:t.sum.length<=1000000)(ay:∀r∈t.sum,r.length<=1000000)(c6:t.pl.length<=1000000)(nc:∀r∈t.pl,r.length<=1000000)(h:t=u):
 Fn (bb Q g0) 8 [mG t bm bt bl bw,mG u b8 dh gx sb] [] J (fun v m' ag=>v=.bool true/\m'=[]/\J=ag):=by
 subst h;have bd:addrEq bm bm=true:=aD.s.addr;have a6:addrEq bl bl=true:=aD.p.addr;have b9:addrEq b8 b8=true:=hu.s.addr;have fN:addrEq gx gx=true:=hu.p.addr;refine Fn.cH (cQ Tryz.func8) rfl rfl fun H=>?_;refine rg ?_;refine dJ fun a2=>?_;refine dJ fun a3=>?_;refine I V.aA ?_;refine bj ?_;refine I V.bc ?_;refine I V.aF ?_;refine I V.bc ?_;refine I V.aF ?_;refine I V.a1 ?_;refine I V.ah ?_;refine dq 10 (fun UO=>?_) fun UO=>?_
 ·refine aW V.bc ?_;refine aW V.aF ?_;refine aW V.bc ?_;refine aW V.aF ?_;refine aW V.a1 ?_;refine I V.aV ?_;refine I V.ah ?_;refine dq 17 (fun UM=>?_) fun UM=>?_
  ·refine aW V.bc ?_;refine aW V.aF ?_;refine aW V.bc ?_;refine aW V.aF ?_;refine Db (G:=W1 aD.s hu.s av ay) (h:=?_);rintro v m' ag hle ⟨rfl,rfl,rfl⟩;refine I V.aV ?_;refine I V.ah ?_;refine dq 24 (fun UN=>?_) fun UN=>?_
   ·refine aW V.bc ?_;refine aW V.aF ?_;refine aW V.bc ?_;refine aW V.aF ?_;refine Db (G:=W1 aD.p hu.p c6 nc) (h:=?_);rintro v m' ag hle ⟨rfl,rfl,rfl⟩;refine I V.aV ?_;refine I V.aA ?_;refine ns ?_;refine ab.ret ?_;refine c' ?_;exact⟨by simp[pE],rfl,rfl⟩
   ·exfalso;simp at UN
  ·exfalso;simp at UM
 ·exfalso;exact UO rfl
theorem am8{s:Int}(aa:1<=s)(ae:s<2147483647):Fn (bb Q g0) 60 [.int .i64 s] [] J (fun v m' ag=>v=.tuple #[.int .i64 ((48271*s).tmod 2147483647),.int .i64 0]/\m'=[]/\J=ag):=by
 refine Fn.cH (cQ Tryz.func60) rfl rfl fun H=>?_;refine rg ?_;refine aM ?_;refine a8 ?_;refine fT [0] ?_;refine aj ?_;refine' ab.ht 0 [(9,.bool (decide ((s<1\/2147483647<=s))))] ?mT ?n1;case mT=>
  refine ab.region ?_;refine I V.ah ?_;refine I V.a1 ?_;refine I V.ah ?_;refine dq 6 (fun Kc=>?_) fun Kc=>?_
  ·refine al ?_;refine al ?_;refine I V.aV ?_;refine a8 ?_;exact ce
  ·refine aW V.ah ?_;refine aW V.a1 ?_;refine I V.aV ?_;refine a8 ?_;exact ce
 case n1=>
  refine aj ?_;refine If (fun dR=>?_) fun dR=>?_
  ·exfalso;omega
  ·refine aj ?_;refine ab.skip ?_;refine rg ?_;refine I V.ah ?_;refine I V.bx ?_;refine I V.w1 ?_;refine aM ?_;refine ns ?_;refine ab.ret ?_;refine c' ?_;exact⟨rfl,rfl,rfl⟩
end
end
end Go.Opn
namespace Go.Opn
noncomputable section
open Go.Cre Go.RowKit
def u1(K:eL)(B:ea)(ops:List Oper)(bf:List jr)(E:cn)(m:aO)(J:aI)(bL:cn->aO->aI->Prop):Prop:=
 ∀S H,Sat E S->Inv K.g0 B J m H->∃aS H' cL m' ag,
  (∀e9:eH,dK K.P (il K.Q e9) (g' K.Q hN e9).aR ops bf S H=some (.ok aS H'))/\Sat cL aS/\Inv K.g0 B ag m' H'/\bL cL m' ag
section
variable {K:eL}{B:ea}{ops:List Oper}{bf:List jr}{E:cn}{m m':aO}{J:aI}{o:Oper}{bL:cn->aO->aI->Prop}{c0:Exit->cn->aO->aI->Prop}
variable {n:Nat}{ds:e7}{l:List (Nat×Value)}{d i:Nat}
theorem u1.nil(h:bL E m J):u1 K B ops [] E m J bL:=fun S H ax aJ=>⟨S,H,E,m,J,fun _=>rfl,ax,aJ,h⟩
theorem u1.val{v:Value}(ao:nth ops i=some o)(aq:o.guard=none)(aZ:o.dst=some d)(aP:Nat.blt d n=true)(az:cV K B o n ds l m J v)(h:u1 K B ops bf ⟨n,ds,(d,v)::l⟩ m J bL):u1 K B ops (.val i::bf) ⟨n,ds,l⟩ m J bL:=by
 intro S H ax aJ;obtain⟨bq,s1,s2⟩:=ax.put (dst:=some d) aP v;obtain⟨aS,H',cL,m',ag,aa,ae,aG,br⟩:=h bq H s2 aJ;refine⟨aS,H',cL,m',ag,fun e9=>?_,ae,aG,br⟩;show jl ops i (mI K.P _ _ ops S H (dK K.P _ _ ops bf))=_;unfold jl;rw[ao];show mI K.P _ _ ops S H (dK K.P _ _ ops bf) o=_;unfold mI fj;rw[aq];show Ct S H o.dst (dK K.P _ _ ops bf) (cO K.P _ _ S H o)=_;rw[az _ _ S H ax aJ,aZ];show(bif Nat.beq H.ak H.ak then pM (dK K.P _ _ ops bf) H (S.put (some d) v) else none)=_;rw[hA,cb,s1];exact aa e9
theorem gw.TC{c:Call}{x:Operand}{f:FuncId}{first cap:Array Value}{args b6:List Value}{eO:Value->aO->aI->Prop}
 (ao:nth ops i=some o)(aq:o.guard=none)(ar:o.op=.call c)(aZ:o.dst=some d)(aP:Nat.blt d n=true)(aH:c.callee=.value x)(U:b7 l x=some (.func (.func f) first cap))(a':h5 l c.args.toList=some args)(has:(first.toList++args)++cap.toList=b6)
 (fQ:Fn K f b6 [] J eO)(h:∀v m' ag,J.le ag->eO v m' ag->u1 K B ops bf ⟨n,ds,(d,v)::l⟩ (m'++m) ag bL):gw K B ops (.bV i::bf) ⟨n,ds,l⟩ m J bL:=by
 intro S H ax aJ;obtain⟨v,H',ag,m',bp,bC,b5⟩:=fQ H (aJ.enter (bh:=[]) (bW:=m) (.refl _) trivial);obtain⟨da,gM⟩:=aJ.leave (bh:=[]) (bW:=m) (.refl _) bC;obtain⟨bq,s1,s2⟩:=ax.put (dst:=some d) aP v;obtain⟨aS,qQ,cL,iy,s7,aa,ae,aG,br⟩:=h v m' ag gM b5 bq H' s2 da;refine⟨fun cW cz H1=>nz f b6 H (.returned v,H') cW cz H1,fun cW cz H1 r q=>?_,aS,qQ,cL,iy,s7,fun e9 q=>?_,ae,aG,br⟩
 ·simp only at q;unfold nz at q;split at q
  ·rename_i e;rw[e.2.2];exact cZ _
  ·cases q
 ·have hC:e9 f b6 H=some (.returned v,H'):=q f b6 H _ (by simp only;unfold nz;rw[aE ⟨rfl,rfl,rfl⟩]);show jl ops i (fun o=>kn (dK K.P _ _ ops bf) (one K.P _ _ ops S H o))=_;unfold jl;rw[ao];show kn (dK K.P _ _ ops bf) (one K.P _ _ ops S H o)=_;unfold one fj;rw[aq];show kn (dK K.P _ _ ops bf) (pD S H o.dst (cO K.P _ _ S H o))=_;have he:cO K.P (il K.Q e9) (g' K.Q hN e9).aR S H o=some (.val v H'):=by
   unfold cO fq;simp only[ar];show lI K.P _ c=_;unfold lI;rw[aH];show po K.P _ _ S.T H c=_;unfold po;rw[oI ax H a'];simp only[aH];rw[du ax H U];simp only
   show(match mU K.P H (.func f) (first.toList++args) cap.toList with|some (f,b6)=>q8 (il K.Q _ f b6 H)|none=>none)=_
   unfold mU;simp only
   rw[has,F' bp hC];rfl
  rw[he,aZ];show kn (dK K.P _ _ ops bf) (pI H' (S.put (some d) v))=_;rw[s1];exact aa e9
theorem ab.T3{id:Nat}{a:Array Oper}(av:H4 a.toList=none)(dt:Dn a.toList=true)(aw:IB a.toList=bf)(h:gw K B a.toList bf E m J fun E m J=>c0 .normal E m J):ab K B (.region id a true) E m J c0:=by
 intro S H ax aJ;obtain⟨aV,_,aS,H',cL,m',ag,aa,ae,aG,br⟩:=h S H ax aJ;refine⟨.normal,aS,H',cL,m',ag,ef.xW K.dD.rH hN aV ?_,ae,aG,br⟩;show rP (vo K.P (g' K.Q hN aV).call (g' K.Q hN aV).aR a.toList S H)=_;rw[Jg];unfold vo;rw[av];show rP (w5 K.P (il K.Q aV) (g' K.Q hN aV).aR a.toList S H)=_;unfold w5;rw[dt,cb,aw,aa aV (fun _ _ _ _ q=>q)];rfl
end
section
variable {K:eL}{B:ea}{o:Oper}{n:Nat}{ds:e7}{l:List (Nat×Value)}{m m':aO}{J:aI}{eR:cn->aO->aI->Prop}{d:Nat}
theorem wrap_i32{a:Int}(bD:-2147483648<=a)(aa:a<=2147483647):IntKind.i32.wrap a=a:=by
 unfold IntKind.wrap;simp[IntKind.bits,IntKind.signed];omega
end
section
variable {K:eL}{B:ea}{ops:List Oper}{bf:List jr}{F:List (FuncId×List Value)}{E:cn}{m:aO}{J:aI}{bL:cn->aO->aI->Prop}
theorem a7.akM{a b:Nat}{p q:cK}{m0:aO}(aw:m.Perm ((a,p)::(b,q)::m0))(h:a≠b->a7 K B ops bf F E m J bL):a7 K B ops bf F E m J bL:=fun S H ax aJ=>h (fun e=>by
 have aP:=(aJ.perm aw).gm;rw[show ids ((a,p)::(b,q)::m0)=a::(p.rest++(b::(q.rest++ids m0))) from rfl,uU] at aP;exact aP.1 (h2 _ (by rw[e];exact .head _))) S H ax aJ
end
theorem RE(x:Int):-9223372036854775808<=IntKind.i64.wrap x/\IntKind.i64.wrap x<=9223372036854775807:=by
 unfold IntKind.wrap IntKind.signed IntKind.bits;simp only[Je,Gj];split<;>omega
open Classical
def tw (f:FuncId)(args:List Value)(bJ:FrameMode)(H:aB)(r:Ending×FrameMode×aB):FuncId->List Value->Bool->FrameMode->aB->Option (Ending×FrameMode×aB):=fun cW cz b2 gd H'=>if cW=f/\cz=args/\b2=true/\gd=bJ/\H'=H then some r else none
def CG{P:Program}(Q:dI P)(f:FuncId)(args:List Value)(bJ:FrameMode)(H:aB)(e:Ending)(gd:FrameMode)(H':aB):Prop:=∀B w0,Q.ok B w0->uR P B w0 (tw f args bJ H (e,gd,H'))
def qO {P:Program}(Q:dI P)(fu:Code->bi->aB->Option (Exit×bi×aB))(pH:FuncId->List Value->Bool->FrameMode->aB->Option (Ending×FrameMode×aB)):gQ:=
 ⟨tu Q fu,fun f args b2 bJ H=>if b2=true then(match pH f args b2 bJ H with
  |some (e,ie,H')=>if CG Q f args bJ H e ie H' then some (e,ie,H') else none
  |none=>none) else none⟩
section
variable {P:Program}{Q:dI P}{B:Nat->Prop}{w0:World}
theorem RZ(fu:Code->bi->aB->Option (Exit×bi×aB))(pH:FuncId->List Value->Bool->FrameMode->aB->Option (Ending×FrameMode×aB))(fR:Q.ok B w0):uR P B w0 (qO Q fu pH).body:=by
 intro f args bJ H e gd H' he;unfold qO at he;simp only[Ek] at he;split at he
 ·split at he
  ·rename_i ey;simp only[cp,dC] at he;obtain⟨rfl,rfl,rfl⟩:=he;exact ey B w0 fR f args bJ H _ _ _ (by unfold tw;rw[aE ⟨rfl,rfl,rfl,rfl,rfl⟩])
  ·cases he
 ·cases he
theorem aau(fu:Code->bi->aB->Option (Exit×bi×aB)){f:FuncId}{args:List Value}{bJ gd:FrameMode}{H H':aB}{e:Ending}(h:CG Q f args bJ H e gd H'):(qO Q fu (tw f args bJ H (e,gd,H'))).body f args true bJ H=some (e,gd,H'):=by
 unfold qO;simp only[Ek];have:tw f args bJ H (e,gd,H') f args true bJ H=some (e,gd,H'):=by unfold tw;rw[aE ⟨rfl,rfl,rfl,rfl,rfl⟩]
 rw[this];simp only;rw[aE h]
def EB:FuncId->List Value->Bool->FrameMode->aB->Option (Ending×FrameMode×aB):=fun _ _ _ _ _=>none
theorem lL.LP{fb:bg Func}(dD:td P fb){f:FuncId}{fn:Func}{c:Code}{args:List Value}{T:bg Value}{H H1 H':aB}{bq:bi}{x:Exit}{e:Ending}{bJ:FrameMode}(pH:FuncId->List Value->Bool->FrameMode->aB->Option (Ending×FrameMode×aB))(aC:fb.get f=some fn)(au:fn.body=some c)(a':nV args 0 (Go.Cre.blank fn.ntmps)=some T)
 (aH:ef Q c ⟨T,fn.ntmps,[],false,.run,none⟩ H x bq H1)(he:wI P (qO Q (lz c ⟨T,fn.ntmps,[],false,.run,none⟩ H (x,bq,H1)) pH) fn (some (x,bq,H1))=some (e,bJ,H')):lL Q f args H e H':=by
 intro B w0 fR f1 u7 qR aN Jh sv;unfold nz at sv;split at sv
 ·rename_i q;obtain⟨rfl,rfl,rfl⟩:=q;simp only[cp,dC] at sv;obtain⟨rfl,rfl⟩:=sv;refine NA (E:=qO Q (lz c ⟨T,fn.ntmps,[],false,.run,none⟩ qR (x,bq,H1)) pH) dD (Dg _ fR) (RZ _ pH fR) f1 u7 qR _ _ ?_;unfold gQ.call;simp only
  have:p7 P fb (qO Q (lz c ⟨T,fn.ntmps,[],false,.run,none⟩ qR (x,bq,H1)) pH) f1 u7 false .run qR=some (e,bJ,H'):=by
   unfold p7;rw[aC];show FW P _ f1 fn u7 false .run qR fn.body=_;rw[au];show FX P _ fn c false .run qR (nV u7 0 (Go.Cre.blank fn.ntmps))=_;rw[a'];show wI P _ fn (tu Q _ c ⟨T,fn.ntmps,[],false,.run,none⟩ qR)=_;rw[Df aH];exact he
  rw[this]
 ·cases sv
theorem CG.run{fb:bg Func}(dD:td P fb){f:FuncId}{fn:Func}{c:Code}{args:List Value}{T:bg Value}{H H1 H':aB}{bq:bi}{x:Exit}{e:Ending}{u bJ:FrameMode}(aC:fb.get f=some fn)(au:fn.body=some c)(a':nV args 0 (Go.Cre.blank fn.ntmps)=some T)
 (aH:ef Q c ⟨T,fn.ntmps,[],true,u,none⟩ H x bq H1)(he:wI P (qO Q (lz c ⟨T,fn.ntmps,[],true,u,none⟩ H (x,bq,H1)) EB) fn (some (x,bq,H1))=some (e,bJ,H')):CG Q f args u H e bJ H':=by
 intro B w0 fR f1 u7 jT qR aN Rs Jh sv;unfold tw at sv;split at sv
 ·rename_i q;obtain⟨rfl,rfl,_,rfl,rfl⟩:=q;simp only[cp,dC] at sv;obtain⟨rfl,rfl,rfl⟩:=sv;refine Ug (E:=qO Q (lz c ⟨T,fn.ntmps,[],true,jT,none⟩ qR (x,bq,H1)) EB) dD (Dg _ fR) (RZ _ EB fR) f1 u7 jT qR _ _ _ ?_;unfold p7;rw[aC];show FW P _ f1 fn u7 true jT qR fn.body=_;rw[au];show FX P _ fn c true jT qR (nV u7 0 (Go.Cre.blank fn.ntmps))=_;rw[a'];show wI P _ fn (tu Q _ c ⟨T,fn.ntmps,[],true,jT,none⟩ qR)=_;rw[Df aH];exact he
 ·cases sv
end
section
variable {K:eL}{B:ea}{f:FuncId}{fn:Func}{c:Code}{args:List Value}{bh:aO}{J:aI}
def CI(K:eL)(f:FuncId)(args:List Value)(bh:aO)(J:aI)(pf:Value->aO->aI->Prop)(r2:List PanicEntry->aO->aI->Prop):Prop:=
 ∀H,Inv K.g0 (lg bh H J) J bh H->∃H' ag m',Inv K.g0 (lg bh H J) ag m' H'/\((∃v,lL K.Q f args H (.returned v) H'/\pf v m' ag)\/∃bU,lL K.Q f args H (.panicked bU) H'/\r2 bU m' ag)
theorem CI.am2{pf:Value->aO->aI->Prop}(h:CI K f args bh J pf fun _ _ _=>False):Fn K f args bh J pf:=fun H aJ=>by
 obtain⟨H',ag,m',aa,ae⟩:=h H aJ;rcases ae with⟨v,aG,br⟩|⟨bU,aG,br⟩
 ·exact⟨v,H',ag,m',aG,aa,br⟩
 ·exact br.elim
def yl(K:eL)(f:FuncId)(args:List Value)(bJ:FrameMode)(bh:aO)(J:aI)(eO:FrameMode->aO->aI->Prop):Prop:=
 ∀H,Inv K.g0 (lg bh H J) J bh H->∃v gd H' ag m',CG K.Q f args bJ H (.returned v) gd H'/\Inv K.g0 (lg bh H J) ag m' H'/\eO gd m' ag
def T7(bJ:FrameMode):e7:=⟨[],none,true,bJ⟩
theorem SW{fn:Func}{args:List Value}{hn:e7}(av:Nat.ble args.length fn.ntmps=true):∃T,nV args 0 (Go.Cre.blank fn.ntmps)=some T/\∀b2 bJ,hn=⟨[],none,b2,bJ⟩->Sat ⟨fn.ntmps,hn,yG args 0⟩ ⟨T,fn.ntmps,[],b2,bJ,none⟩:=by
 obtain⟨T,bo,a2,a3⟩:=SX (vs:=args) (i:=0) (n:=fn.ntmps) (S' fn.ntmps) (by have:=h3 av;omega);refine⟨T,bo,fun b2 bJ aZ=>?_⟩;subst aZ;refine⟨rfl,rfl,rfl,rfl,rfl,a2,fun t v q=>?_⟩;obtain⟨_,a6⟩:=SV q;show T.get t=some v;have:t<args.length:=by
  rcases kY t args.length with r|r
  ·exact r
  ·rw[fx (by omega)] at a6;cases a6
 rw[a3,aE (by omega)];exact a6
theorem yl.cH{bJ:FrameMode}{eO:FrameMode->aO->aI->Prop}(aC:K.fb.get f=some fn)(au:fn.body=some c)(av:Nat.ble args.length fn.ntmps=true)
 (h:∀H,ab K (lg bh H J) c ⟨fn.ntmps,T7 bJ,yG args 0⟩ bh J fun e E m ag=>(e=.normal\/e=.ret)/\E.ds.ds=[]/\∃vs m',p1 K.P E m ag fn.results.toList vs/\m'.Sublist m/\eO E.ds.bJ m' ag):yl K f args bJ bh J eO:=by
 intro H aJ;obtain⟨T,bo,a2⟩:=SW (hn:=T7 bJ) av;have ax:=a2 true bJ rfl;obtain⟨e,aS,H',cL,m1,ag,bp,bC,b5,da,gM,vs,m',ob,zu,zv⟩:=h H _ H ax aJ;have xn:aS.ds=[]:=bC.ds.trans gM;have ay:=ob.Dw bC b5;refine⟨pE vs,aS.bJ,H',ag,m',?_,b5.sub zu,by rw[bC.bJ];exact zv⟩;refine CG.run K.dD aC au bo bp ?_;rcases da with rfl|rfl
 ·show r9 aS.bJ (iI K.P _ fn aS.T aS.ds .returning H')=_;rw[xn];unfold iI;rw[ay];rfl
 ·show r9 aS.bJ (iI K.P _ fn aS.T aS.ds .returning H')=_;rw[xn];unfold iI;rw[ay];rfl
def Ql:Exit->Option FrameMode
 |.normal=>some .returning
 |.ret=>some .returning
 |.panic bU=>some (.panicking bU)
 |_=>none
def Ends(K:eL)(fn:Func)(E:cn)(m:aO)(J:aI)(u:FrameMode)(pf:Value->aO->aI->Prop)(r2:List PanicEntry->aO->aI->Prop):Prop:=
 (u=.returning/\∃vs m',p1 K.P E m J fn.results.toList vs/\m'.Sublist m/\pf (pE vs) m' J)\/∃bU m',u=.panicking bU/\m'.Sublist m/\r2 bU m' J
def Leaves(K:eL)(fn:Func)(e:Exit)(E:cn)(m:aO)(J:aI)(pf:Value->aO->aI->Prop)(r2:List PanicEntry->aO->aI->Prop):Prop:=
 ∃u,Ql e=some u/\((E.ds.ds=[]/\Ends K fn E m J u pf r2)\/
  ∃fd cap vk bh bW,E.ds.ds=[⟨.fn (.func fd) cap,vk⟩]/\(bh++bW).Perm m/\yl K fd (vk.toList++cap.toList) u bh J fun ie m' ag=>J.le ag->Ends K fn E (m'++bW) ag (settle ie) pf r2)
theorem JN{P:Program}{E:gQ}{e:Exit}{u:FrameMode}{S:bi}{H:aB}(h:Ql e=some u):wI P E fn (some (e,S,H))=r9 S.bJ (iI P E fn S.T S.ds u H):=by
 cases e<;>first|(injection h with h;subst h;rfl)|cases h
theorem Ends.Dw{E:cn}{m:aO}{u:FrameMode}{pf:Value->aO->aI->Prop}{r2:List PanicEntry->aO->aI->Prop}{S:bi}{H:aB}{V:gQ}(h:Ends K fn E m J u pf r2)(ax:Sat E S)(aJ:Inv K.g0 B J m H):
 ∃m',Inv K.g0 B J m' H/\((∃v,iI K.P V fn S.T [] u H=some (.returned v,H)/\pf v m' J)\/∃bU,iI K.P V fn S.T [] u H=some (.panicked bU,H)/\r2 bU m' J):=by
 rcases h with⟨rfl,vs,m',aa,ae,aG⟩|⟨bU,m',rfl,ae,aG⟩
 ·refine⟨m',aJ.sub ae,.inl ⟨pE vs,?_,aG⟩⟩;unfold iI;rw[aa.Dw ax aJ]
 ·exact⟨m',aJ.sub ae,.inr ⟨bU,by unfold iI;rfl,aG⟩⟩
theorem akJ{e:Exit}{u:FrameMode}(h:Ql e=some u):K4 u=false:=by
 cases e<;>first|(injection h with h;subst h;rfl)|cases h
theorem CI.cH{pf:Value->aO->aI->Prop}{r2:List PanicEntry->aO->aI->Prop}(aC:K.fb.get f=some fn)(au:fn.body=some c)(av:Nat.ble args.length fn.ntmps=true)
 (h:∀H,ab K (lg bh H J) c ⟨fn.ntmps,J2,yG args 0⟩ bh J fun e E m ag=>Leaves K fn e E m ag pf r2):CI K f args bh J pf r2:=by
 intro H aJ;obtain⟨T,bo,a2⟩:=SW (hn:=J2) av;have ax:=a2 false .run rfl;obtain⟨e,aS,H',cL,m1,ag,bp,bC,b5,u,da,gM⟩:=h H _ H ax aJ;have Km:=bC.ds;rcases gM with⟨gM,ob⟩|⟨fd,cap,vk,ur,bW,gM,ob,zu⟩
 ·obtain⟨m',aa,ae⟩:=ob.Dw (V:=qO K.Q (lz c ⟨T,fn.ntmps,[],false,.run,none⟩ H (e,aS,H')) EB) bC b5;refine⟨H',ag,m',aa,?_⟩;rcases ae with⟨v,ae,aG⟩|⟨bU,ae,aG⟩
  ·refine .inl ⟨v,lL.LP K.dD EB aC au bo bp (bJ:=aS.bJ) ?_,aG⟩;rw[JN da,Km,gM,ae];rfl
  ·refine .inr ⟨bU,lL.LP K.dD EB aC au bo bp (bJ:=aS.bJ) ?_,aG⟩;rw[JN da,Km,gM,ae];rfl
 ·obtain⟨v,gd,cN,eZ,m2,d1,d2,d3⟩:=zu H' (b5.enter ob trivial);obtain⟨zv,P9⟩:=b5.leave ob d2;obtain⟨m',aa,ae⟩:=(d3 P9).Dw (V:=qO K.Q (lz c ⟨T,fn.ntmps,[],false,.run,none⟩ H (e,aS,H')) (tw fd (vk.toList++cap.toList) u H' (.returned v,gd,cN))) bC zv
  have sD:∀r,iI K.P (qO K.Q (lz c ⟨T,fn.ntmps,[],false,.run,none⟩ H (e,aS,H')) (tw fd (vk.toList++cap.toList) u H' (.returned v,gd,cN))) fn aS.T [] (settle gd) cN=some r->
   iI K.P (qO K.Q (lz c ⟨T,fn.ntmps,[],false,.run,none⟩ H (e,aS,H')) (tw fd (vk.toList++cap.toList) u H' (.returned v,gd,cN))) fn aS.T [⟨.fn (.func fd) cap,vk⟩] u H'=some r:=fun r ay=>by
   rw[iI];rw[akJ da,dZ];simp only
   show(match mU K.P H' (.func fd) vk.toList cap.toList with|none=>none|some (f,args)=>_)=_
   unfold mU;simp only
   rw[aau _ d1];exact ay
  refine⟨cN,eZ,m',aa,?_⟩;rcases ae with⟨w,ae,aG⟩|⟨bU,ae,aG⟩
  ·refine .inl ⟨w,lL.LP K.dD (tw fd (vk.toList++cap.toList) u H' (.returned v,gd,cN)) aC au bo bp (bJ:=aS.bJ) ?_,aG⟩;rw[JN da,Km,gM,sD _ ae];rfl
  ·refine .inr ⟨bU,lL.LP K.dD (tw fd (vk.toList++cap.toList) u H' (.returned v,gd,cN)) aC au bo bp (bJ:=aS.bJ) ?_,aG⟩;rw[JN da,Km,gM,sD _ ae];rfl
end
section
variable {K:eL}{B:ea}{ops rest:List Oper}{o:Oper}{n:Nat}{ds:e7}{l:List (Nat×Value)}{d:Nat}{m:aO}{J:aI}{bL:Option (List PanicEntry)->cn->aO->aI->Prop}
theorem XR{S:bi}{H:aB}{fu:Code->bi->aB->Option (Exit×bi×aB)}{aV:eH}(aq:o.guard=none):one K.P (il K.Q aV) (g' K.Q fu aV).aR ops S H o=pD S H o.dst (cO K.P (il K.Q aV) (g' K.Q fu aV).aR S H o):=by
 unfold one fj;rw[aq];rfl
theorem W.defer{c:Call}{x:Operand}{f:FuncId}{first cap:Array Value}{args:List Value}(aq:o.guard=none)(ar:o.op=.defer c)(aZ:o.dst=none)(aH:c.callee=.value x)(U:b7 l x=some (.func (.func f) first cap))(a':h5 l c.args.toList=some args)(ay:ds.cJ=none)
 (h:W K B ops rest ⟨n,⟨⟨.fn (.func f) cap,(first.toList++args).toArray⟩::ds.ds,ds.cJ,ds.b2,ds.bJ⟩,l⟩ m J bL):W K B ops (o::rest) ⟨n,ds,l⟩ m J bL:=by
 intro S H ax aJ;have Kn:Sat ⟨n,⟨⟨.fn (.func f) cap,(first.toList++args).toArray⟩::ds.ds,ds.cJ,ds.b2,ds.bJ⟩,l⟩ (S.Ff ⟨.fn (.func f) cap,(first.toList++args).toArray⟩):=by
  obtain⟨T,nL,e5,ado,gd,am7⟩:=S;exact⟨ax.n,(by show _::e5=_::ds.ds;rw[show e5=ds.ds from ax.ds]),ax.b2,ax.bJ,ax.cJ,ax.has,ax.get⟩
 obtain⟨p,aS,qQ,cL,iy,s7,cI,ei,gN,iZ⟩:=h _ H Kn aJ;refine⟨p,aS,qQ,cL,iy,s7,.cons hN mz ?_ cI,ei,gN,iZ⟩;rw[XR aq];have qo:S.cJ=none:=ax.cJ.trans ay;have:cO K.P (il K.Q mz) (g' K.Q hN mz).aR S H o=some (.iT ⟨.fn (.func f) cap,(first.toList++args).toArray⟩):=by
  unfold cO fq;simp only[ar];show vW K.P _ c=_;unfold vW;simp only[qo];unfold Gu;rw[oI ax H a'];simp only[aH];rw[du ax H U];rfl
 rw[this,aZ];show BZ S H none _=_;unfold BZ;rw[qo];rfl
def Yu (ds:e7):Option (Value×FrameMode):=
 match ds.cJ with
 |some _=>none
 |none=>bif ds.b2 then(match ds.bJ with
  |.panicking ({v,recovered:=false,goexit:=false}::Ls)=>some (v,.panicking ({v,recovered:=true}::Ls))
  |m=>some (.nilIface,m))
  else some (.nilIface,ds.bJ)
theorem W.recover{c:Call}{v:Value}{bJ:FrameMode}(aq:o.guard=none)(ar:o.op=.call c)(aH:c.callee=.builtin .recover)(a':c.args.toList=[])(aZ:o.dst=some d)(aP:Nat.blt d n=true)(ay:Yu ds=some (v,bJ))
 (h:W K B ops rest ⟨n,⟨ds.ds,ds.cJ,ds.b2,bJ⟩,(d,v)::l⟩ m J bL):W K B ops (o::rest) ⟨n,ds,l⟩ m J bL:=by
 intro S H ax aJ;have agK:Sat ⟨n,⟨ds.ds,ds.cJ,ds.b2,bJ⟩,l⟩ (S.ye bJ):=by
  obtain⟨T,nL,e5,ado,gd,am7⟩:=S;exact⟨ax.n,ax.ds,ax.b2,rfl,ax.cJ,ax.has,ax.get⟩
 obtain⟨bq,s1,s2⟩:=agK.put (dst:=some d) aP v;obtain⟨p,aS,qQ,cL,iy,s7,cI,ei,gN,iZ⟩:=h bq H s2 aJ;refine⟨p,aS,qQ,cL,iy,s7,.cons hN mz ?_ cI,ei,gN,iZ⟩;rw[XR aq];have:cO K.P (il K.Q mz) (g' K.Q hN mz).aR S H o=some .Cd:=by
  unfold cO fq;simp only[ar];show lI K.P _ c=_;unfold lI;rw[aH];simp only
  unfold pn;rw[a'];rfl
 rw[this,aZ];show It S H (some d) (rO S)=_;have e:rO S=some (v,bJ):=by
  unfold rO;unfold Yu at ay;rw[ax.cJ,ax.b2,ax.bJ];exact ay
 rw[e];show ma (S.ye bJ) (some d) v H=_;show pI H ((S.ye bJ).put (some d) v)=_;rw[s1];rfl
end
section
variable {g0:Nat}{B:ea}{H:aB}{J:aI}{m m':aO}
theorem Inv.amW{a z:Nat}{full:List Value}{e:TypeId}{rest:List Nat}(h:Inv g0 B J ((a,.opn full e rest z)::m) H)(cells':List Value):
 ∃f H1 cN o9,H.mem.get a=some (.row full e true f z false)/\H.bM.get f=some (a::rest)/\sK H H.ak (a::rest)=some H1/\H1.rS f [H.ak]=some cN/\H1.ak=H.ak/\cN.ak=H.ak/\cN.new (.row cells' e true f z false)=some (H.ak,o9)/\Inv g0 B J ((H.ak,.opn cells' e [] z)::m) o9:=by
 obtain⟨bp,bC,b5,da⟩:=h.own a _ (.head _);obtain⟨f,f1,f2,f3⟩:=bp;have c4:=h.lt (.head _);have d':=h.gm;rw[show ids ((a,cK.opn full e rest z)::m)=a::(rest++ids m) from rfl,uU,kX,Jq] at d';obtain⟨D5,Hp,Ho,OI⟩:=d';have Ea:∀x∈a::rest,x<H.ak:=fun x U=>by
  rcases fg.1 U with q|q
  ·subst q;exact c4
  ·exact(h.opn a _ (.head _) x q).1
 obtain⟨H1,aN,e3⟩:=WY (pA:=H.ak) (a::rest) h.wf Ea;obtain⟨v1,v2,v3,v4,v5,v6⟩:=K8 aN;have iK:f<H1.ct:=by rw[v3];exact h.wf.GF f3
 obtain⟨cN,bn⟩:=e3.rS [H.ak] iK;obtain⟨s2,s1,zU,ES,uF⟩:=aB.EX bn;have e0:cN.ak=H.ak:=by rw[s2,v1]
 have Bt:∀x,x≠a->x∉rest->cN.mem.get x=H.mem.get x:=fun x bd a6=>by
  rw[s1,v6 x (.inl (fun q=>by rcases fg.1 q with q|q;exact bd q;exact a6 q))]
 have G':∀g,g≠f->cN.bM.get g=H.bM.get g:=fun g q=>by rw[uF,ap q,v2]
 have hm:Inv g0 B J m cN:=by
  refine⟨e3.Q9 iK bn,by rw[ES,v4];exact h.bZ,by rw[e0];exact h.ak,by rw[zU,v3];exact h.ct,fun x U k6=>?_,fun g aq=>?_,fun x c bG ba=>?_,h.le,h.fresh,fun x b au=>?_,fun x b au y ai=>by rw[e0];exact h.opn x b (.tail _ au) y ai,Ho⟩
  ·rw[Bt x (fun q=>by subst q;rcases bC with q|q;·omega
                      ·exact k6 q) (fun q=>by rcases(h.opn a _ (.head _) x q).2.1 with r|r;·omega
                                              ·exact k6 r)]
   exact h.eF x U k6
  ·rw[G' g (fun q=>aq (by rw[q];exact f1))];exact h.oc g aq
  ·obtain⟨o,cW,z0,s,q⟩:=h.fz x c bG ba
   exact⟨o,cW,z0,s,by rw[Bt x (fun r=>by subst r;rw[b5] at ba;cases ba) (fun r=>by have:=(h.opn a _ (.head _) x r).2.2;rw[this] at ba;cases ba)];exact q⟩
  ·obtain⟨cU,ee,mx,rE⟩:=h.own x b (.tail _ au)
   have jR:x∈ids m:=BG au;refine⟨?_,ee,mx,rE⟩;refine cK.yI cU (Bt x (fun r=>D5 (.inr (r▸jR))) (fun r=>OI _ r _ jR rfl)) fun g r aq=>?_;rw[G' g (fun dz=>by
        subst dz;rw[f3] at aq;injection aq with aq;injection aq with aq
        exact D5 (.inr (aq▸jR)))]
   exact aq
 obtain⟨o9,cP⟩:=hm.wf.new (.row cells' e true f z false);obtain⟨_,dn,lh,vT,rJ,l7⟩:=aB.qz cP;refine⟨f,H1,cN,o9,f2,f3,aN,bn,v1,e0,by rw[<-e0];exact cP,?_⟩;have ae:Inv g0 B J m o9:=by
  refine⟨hm.wf.Qs cP,rJ.trans hm.bZ,by have:=hm.ak;omega,by rw[vT];exact hm.ct,fun x U k6=>?_,fun g aq=>by rw[lh];exact hm.oc g aq,fun x c e ba=>?_,hm.le,hm.fresh,fun x b au=>?_,fun x b au y ai=>?_,hm.gm⟩
  ·rw[l7,ap (by have:=hm.ak;omega)];exact hm.eF x U k6
  ·obtain⟨o,f,z,s,q⟩:=hm.fz x c e ba
   exact⟨o,f,z,s,by rw[l7,ap (by have:=hm.wf.lt q;omega)];exact q⟩
  ·obtain⟨cU,ee,mx,rE⟩:=hm.own x b au
   exact⟨cK.yI cU (by rw[l7,ap (by have:=hm.lt au;omega)]) (fun f l aC=>by rw[lh];exact aC),ee,mx,rE⟩
  ·obtain⟨cU,ee,mx⟩:=hm.opn x b au y ai
   exact⟨by omega,ee,mx⟩
 refine⟨ae.wf,ae.bZ,ae.ak,ae.ct,ae.eF,ae.oc,ae.fz,ae.le,ae.fresh,fun x b au=>?_,fun x b au y ai=>?_,?_⟩
 ·rcases fg.1 au with q|q
  ·injection q with bd a6;subst bd;subst a6
   exact⟨⟨f,f1,by rw[l7,e0,aE rfl],by rw[lh,uF,aE rfl]⟩,.inl h.ak,h.Qv,h.NV⟩
  ·exact ae.own x b q
 ·rcases fg.1 au with q|q
  ·injection q with bd a6;subst bd;subst a6;cases ai
  ·exact ae.opn x b q y ai
 ·show(H.ak::([]++ids m)).Nodup
  rw[me,uU];refine⟨fun q=>?_,Ho⟩;have:=hm.Lb q;omega
end
structure RP (e:TypeId) (sz:Nat) (v:Value) (k:Nat) (cells:List Value) (aY:aO) (a:Nat) (full:List Value) (rest:List Nat) (z:Nat):Prop where
 v:v=.slice (some ⟨a,0,none⟩) k c9
 aY:aY=[(a,.opn full e rest z)]
 lt:k*sz<full.length
 cut:full.take (k*sz)=cells
 z:z<=k*sz
section
variable {K:eL}{B:ea}{o:Oper}{n:Nat}{ds:e7}{l:List (Nat×Value)}{m m':aO}{J:aI}{eR:cn->aO->aI->Prop}{d:Nat}
theorem aps{c:Call}{t hy e:TypeId}{sz k j a z:Nat}{gf cells new full:List Value}{rest:List Nat}{v x:Value}{aY m0:aO}{hn:TypeDesc}(ar:o.op=.call c)(aH:c.callee=.builtin .append)(aZ:o.dst=some d)(aP:Nat.blt d n=true)(a':h5 l c.args.toList=some [v,x])(oY:c.argTypes.toList=[t,hy])(aD:jS K.P t=some (e,sz,gf))(jQ:K.P.underlying hy=some hn)(vL:∀i,hn≠.int i)
 (az:RP e sz v k cells aY a full rest z)(hm:m.Perm (aY++m0))(U:mQ K.g0 B J m sz x j new)(cr:new.length=j*sz)(cc:new.all eQ=true)(ba:0<j)(av:k+j<=1000000)
 (h:∀w hF,Acc e sz w (k+j) (cells++new) hF->(z=0->z0 hF)->my hF->eR ⟨n,ds,(d,w)::l⟩ (hF++m0) J):hZ K B o ⟨n,ds,l⟩ m J eR:=by
 obtain⟨rfl,rfl,c4,DT,ug⟩:=az;obtain⟨hu,eU,gS,CC,h',bN,bm,rfl,bl,b8,gx⟩:=x2 aD;refine hZ.x' aZ aP fun S H ax aJ=>?_;obtain⟨hj,ig⟩:=U H aJ;have aJ:=aJ.perm hm;have hV:∀call aR,cO K.P call aR S H o=mJ (p6 K.P H t (.slice (some ⟨a,0,none⟩) k c9) x):=fun call aR=>by
  rw[yY ar aH];unfold pn;rw[oI ax H a',oY];simp only[jQ]
 have lX:(!(Nat.ble (k+j) 1000000&&Nat.ble gS 1000000&&Nat.beq CC.cells.toList.length sz))=false:=by
  rw[bm,bl,hA,show Nat.ble (k+j) 1000000=true from lr av];rfl
 have ql:(!(new.all eQ&&Nat.beq new.length (j*sz)))=false:=by
  rw[cc,cr,hA];rfl
 have k8:cells.length=k*sz:=by rw[<-DT,h1];omega
 obtain⟨f,H1,cN,o9,g1,g2,g3,g4,g5,g6,g7,g8⟩:=Inv.amW (m:=m0) aJ (cells++new);have rk:Nat.blt a H.bZ=false:=by
  cases q:Nat.blt a H.bZ
  ·rfl
  ·have:a<H.bZ:=by simpa[Nat.blt,tc] using q
   have:=(aJ.own _ _ (.head _)).2.2.2;have:=aJ.bZ;omega
 have KY:Nat.ble z (0+k*sz)=true:=lr (by omega);refine⟨.slice (some ⟨H.ak,0,none⟩) (k+j) c9,o9,(H.ak,.opn (cells++new) e [] z)::m0,J,fun call aR=>?_,g8,?_⟩
 ·rw[hV];have O4:Nat.beq j 0=false:=by
   cases q:Nat.beq j 0
   ·rfl
   ·exact absurd (eN q) (by omega)
  have hle:Nat.beq full.length (k*sz)=false:=by
   cases q:Nat.beq full.length (k*sz)
   ·rfl
   ·exact absurd (eN q) (by omega)
  have PN:takeN (k*sz) full=some cells:=by rw[x6 (by omega),DT]
  unfold p6;simp only[hu,eU,h',bN,hj,lX,dZ,ig,ql,hA,cb,g1,rk,Ml,wg,KY,lK,O4,PN,g2,yS,hle,Gg,g3,g5,g4,g6,g7];rfl
 ·exact h (.slice (some ⟨H.ak,0,none⟩) (k+j) c9) [(H.ak,.opn (cells++new) e [] z)] (.opn (by rw[dv,k8,cr,nr]) (by rw[dv];omega)) (fun q bY ch bG r hQ hm=>by rcases fg.1 hm with r|r;(cases r;exact q);cases r) (fun bY ch bG hm=>by rcases fg.1 hm with r|r;cases r;cases r)
theorem ZM{t e:TypeId}{x:Operand}{ao:Operand}{sz a len z:Nat}{gf full:List Value}{rest:List Nat}{b:Int}{zw:IntKind}(ar:o.op=.slice t x none (some ao) none)(U:b7 l x=some (.slice (some ⟨a,0,none⟩) len c9))(lB:b7 l ao=some (.int zw b))(aD:jS K.P t=some (e,sz,gf))(hm:(a,cK.opn full e rest z)∈m)(bD:0<=b)(aa:b<=len):
 cV K B o n ds l m J (.slice (some ⟨a,0,none⟩) b.toNat c9):=by
 obtain⟨hu,eU,gS,CC,h',bN,bm,rfl,bl,b8,gx⟩:=x2 aD;intro call aR S H ax aJ;obtain⟨f,_,gj,_⟩:=(aJ.own _ _ hm).1;unfold cO fq;simp only[ar];show qA K.P _ t (bk S.T H x) (some none) (jD S.T H (some ao))=_;rw[du ax H U];show qA K.P _ t _ (some none) (match bk S.T H ao with|some v=>some (some v)|none=>none)=_
 rw[du ax H lB];have ag1:qt b len=some b.toNat:=by
  obtain⟨c,rfl⟩:∃c:Nat,b=(c:Int):=⟨b.toNat,by omega⟩;show(bif Nat.ble c len then some c else none)=_;rw[show Nat.ble c len=true from lr (by omega)];rfl
 have:oJ K.P H t (.slice (some ⟨a,0,none⟩) len c9) none (some (.int zw b))=some (.slice (some ⟨a,0,none⟩) b.toNat c9):=by
  unfold oJ;simp only[hu,eU,hA,cb,gj,lK,dZ,lx,ag1,Jv,ta];rfl
 show orElse (gp (oJ K.P H t (.slice (some ⟨a,0,none⟩) len c9) none (some (.int zw b))) H) _=_;rw[this];rfl
end
end
end Go.Opn

/- A part of the proof of ResumeBytes. -/
import Derived.Test.YtkmfhjilfjecmaaGreatDoorCbk
import Derived.Test.YtkmfhjilfjecmaaGreatDoorCay
import Derived.Test.YtkmfhjilfjecmaaGreatDoorCbj
set_option maxRecDepth 100000
set_option maxHeartbeats 4000000
set_option linter.unusedVariables false
set_option linter.unusedSimpArgs false
namespace Go.Opn
noncomputable section
open Go.Cre Go.RowKit Go.Proofs
theorem Yv{α:Type}{d p:α}{l r:List α}:([d]++(l++p::r)).Perm (l++p::d::r):=(wM (l₁:=l) (l₂:=p::r)).symm.trans (At _ (List.Perm.swap _ _ _))
theorem amu{α:Type}{q d p:α}{l r:List α}:(q::([d]++(l++p::r))).Perm (l++q::p::d::r):=(List.Perm.cons q Yv).trans List.perm_middle.symm
theorem amv{α:Type}{a b c d:α}:[a,b,c,d].Perm (d::[a,b,c]):=hU (l₁:=[a,b,c]) (l₂:=[d])
theorem YP{full new:List Value}{p m:Nat}(h:p+new.length<=full.length):(full.take p++new++full.drop (p+new.length))[m]?=if m<p then full[m]? else if m<p+new.length then new[m -p]? else full[m]?:=by
 have aa:(full.take p).length=p:=by rw[iu];omega
 by_cases q:m<p
 ·rw[aE q,gw,k1 (by omega),kK,aE q]
 ·rw[an q]
  by_cases a7:m<p+new.length
  ·rw[aE a7,k1 (by rw[dP];omega),pk (by omega),aa]
  ·rw[an a7,pk (by rw[dP];omega),q4,dP,aa]
   congr 1;omega
theorem hp.put{α:Type}{sz:Nat}{R R':Nat->α->List Value->Prop}{full new:List Value}{xs:List α}(h:hp sz R (full.take (xs.length*sz)) xs)(aD:xs.length*sz<=full.length)(ei:∀i x cs,R i x cs->R' i x cs){k:Nat}{y:α}(aO:k<xs.length)(aP:new.length=sz)(ai:R' k y new):hp sz R' ((full.take (k*sz)++new++full.drop (k*sz+new.length)).take (xs.length*sz)) (xs.set k y):=by
 have iz:k*sz+sz<=xs.length*sz:=by rw[<-po];exact nB _ aO
 refine⟨by rw[iu,dP,dP,iu,ms,fz];omega,fun i x U=>?_⟩;have ao:i<xs.length:=by have:=(dY.1 U).1;rw[fz] at this;exact this
 have rG:i*sz+sz<=xs.length*sz:=by rw[<-po];exact nB _ ao
 by_cases q:i=k
 ·subst q
  rw[List.getElem?_set_self aO] at U;injection U with U;subst U
  rw[show((full.take (i*sz)++new++full.drop (i*sz+new.length)).take (xs.length*sz) |>.drop (i*sz)).take sz=new from ?_]
  ·exact ai
  ·apply lA
   intro j;rw[kK];by_cases Cm:j<sz
   ·rw[aE Cm,q4,kK,aE (by omega),YP (by omega),an (by omega),aE (by omega)]
    congr 1;omega
   ·rw[an Cm,fo (by omega)]
 ·rw[List.getElem?_set_ne (fun r=>q r.symm)] at U
  have ae:=ei _ _ _ (h.2 i x U);have aV:i*sz+sz<=k*sz\/k*sz+sz<=i*sz:=by
   rcases ji i k with r|r
   ·exact .inl (by rw[<-po];exact nB _ r)
   ·exact .inr (by rw[<-po];exact nB _ (by omega))
  rw[show((full.take (k*sz)++new++full.drop (k*sz+new.length)).take (xs.length*sz) |>.drop (i*sz)).take sz=((full.take (xs.length*sz)).drop (i*sz)).take sz from ?_]
  ·exact ae
  ·apply lA
   intro j;rw[kK,kK];by_cases Cm:j<sz
   ·rw[aE Cm,aE Cm,q4,q4,kK,kK,aE (by omega),aE (by omega),YP (by omega)]
    rcases aV with r|r
    ·rw[aE (by omega)]
    ·rw[an (by omega),an (by omega)]
   ·rw[an Cm,an Cm]
section
variable {Q:dD Tryz.prog}{g0:Nat}{J:aH}
theorem ak7{am ad bO:Nat}{lv fx e':Value}{aY iE:Int}{s:Bool}{pl:Nat}{cY:Option Addr}{cl a at_:Nat}{l:List Int}{mO:List cR}{fn:List Value}{rn:List Nat}
 (av:dI J (.slice cY l.length cl) l)(hE:l.length<=1000000)(a1:a<=l.length)(dE:pl<=100)
 (aP:hp 6 (fun _=>nC J) (fn.take (mO.length*6)) mO)(aD:mO.length*6<=fn.length)(fK:at_<mO.length)(cr:mO.length<=100000):
 Fn (bd Q g0) 50 [.pointer (some ⟨am,0,none⟩),.int .i64 (at_:Int)] [ka ad cY cl l a,(am,.row (we ad lv fx aY iE false s pl (nn bO mO.length) e') 85),(bO,.opn fn 47 rn 0)] J
  (fun u m' af=>J.le af/\∃bV A2 L9,m'=[(bO,.opn A2 47 L9 0),ka ad cY cl l bV,(am,.row (we ad lv fx aY iE false s pl (nn bO mO.length) e') 85)]/\bV<=l.length/\l.drop bV=(ov pl (l.drop a)).2/\A2.length=fn.length/\
     hp 6 (fun _=>nC af) (A2.take (mO.length*6)) (mO.set at_ ⟨3,0,0,[],[],(ov pl (l.drop a)).1⟩)):=by
 refine Fn.cH (cM Tryz.func50) rfl rfl fun H=>?_;refine rg ?_;refine I V.jl ?_;refine' W.step rfl (.of (eT rfl rfl rfl (oB Q g0) rfl rfl rfl fun a4=>?_));refine dC ?_;refine bi ?_;refine I V.az ?_;refine ns ?_;refine ab.block ?_;refine' ab.c0 (l':=[(5,.int .i64 ((0):Int)),(0,_),(1,_),(4,_)]) ⟨?p2,rfl,rfl,rfl,trivial⟩ (bu _) ?_;case p2=>exact bP
 refine aj ?_;refine' ab.dF (fun(bC:Nat×Nat×(List Int)×Value×aN)=>match bC with|(i,bm,oR,v,ml)=>⟨[(5,.int .i64 (i:Int))],ml++[(a4,.row [.int .i64 3,.int .i64 0,.int .i64 0,.slice none 0 0,.slice none 0 0,v] 47),ka ad cY cl l bm,(am,.row (we ad lv fx aY iE false s pl (nn bO mO.length) e') 85),(bO,.opn fn 47 rn 0)],J,i<=pl/\bm<=l.length/\oR.length=i/\Acc 3 1 v oR.length (oR.map (Value.int .i64)) ml/\ov pl (l.drop a)=(oR++(ov (pl -i) (l.drop bm)).1,(ov (pl -i) (l.drop bm)).2),pl -i⟩) ⟨0,a,[],.slice none 0 0,[]⟩ ?hs ?bA
 case hs=>exact⟨cy _,a1,rfl,.nil,rfl⟩
 case bA=>
  rintro⟨i,bm,oR,v,ml⟩ hinv;try simp only at hinv
  obtain⟨ao,Hm,O4,cw,xR⟩:=hinv;obtain⟨sr,sx,rfl,auV⟩:=cw.iN;refine rg ?_;refine aM ?_;refine I V.aG ?_;refine I V.aZ ?_;refine ns ?_;refine If (fun p9=>?_) fun p9=>?_
  ·refine aj ?_;refine ab.skip ?_;refine aj ?_;refine ab.block ?_;refine aj ?_;refine ab.draw rfl (by kernel_rfl) (bc:=[.val 0,.val 1,.val 2,.val 3,.val 4,.val 5,.bR 6,.val 7,.gk 8,.cA [7,1,0],.bR 9,.val 10,.bR 11]) (by kernel_rfl) ?_;refine al rfl V.ba ?_;refine al rfl V.aG ?_;refine cq ?_;refine al rfl V.aG ?_;refine' a8.call rfl rfl rfl rfl rfl rfl rfl rfl rfl rfl (bf:=[ka ad cY cl l bm]) (bM:=ml++_::[_,_]) Yv trivial (B7 av hE Hm (by decide)) ?_;rintro v m' af hle ⟨rfl,rfl,rfl⟩;refine al rfl V.bt ?_;refine a8.buildSlice rfl rfl rfl rfl rfl rfl (e0 Q g0) rfl rfl rfl fun a24=>?_;refine a8.cA ⟨?hv,?bl,?bp,trivial⟩ ?_;case hv=>
    refine' Ao.val rfl rfl rfl (My rfl rfl rfl rfl ?hw) rfl ?he;case hw=>first|exact wrap_i64 (by omega) (by omega)|exact wrap_u8 (by omega) (by omega)|rfl
    case he=>exact MB
   case bl=>
    refine' Ao.val rfl rfl rfl (gP rfl rfl ?aw (ho (eW rfl) ?ay)) rfl ?he;case aw=>exact qr
    case ay=>first|rfl|assumption
    case he=>exact MB
   case bp=>
    refine' Ao.val rfl rfl rfl (Z6 rfl rfl (ZL rfl rfl)) rfl ?he;case he=>exact MB
   refine' a8.fP rfl rfl (kk rfl rfl rfl rfl rfl rfl (e0 Q g0) (pZ Q g0) (fun i q=>by cases q) ?cw ?hm ?U ?cr ?ca ?av fun Jl XM D5=>?_);case cw=>assumption
   case hm=>exact amu
   case U=>exact hR
   case cr=>first|rfl|(simp;done)|(simp;omega)
   case ca=>first|rfl|exact hf _
   case av=>exact cc
   have HF:=pN (l:=l.drop bm) (n:=7) (by omega);have hw:IntKind.i64.wrap (ej (l.drop bm) 7 -3)=ej (l.drop bm) 7 -3:=wrap_i64 (by omega) (by omega);obtain⟨Dd,oM,rfl,auA⟩:=D5.iN;refine al rfl V.ba ?_;refine kn rfl ?_;refine a8.nil ?_;refine rg ?_;refine I V.ag ?_;refine I V.bt ?_;refine I V.az ?_;refine a6 ?_;refine cB ⟨i+1,kM l bm 7,oR++[ej (l.drop bm) 7 -3],.slice Dd (oR.length+1) oM,XM⟩ ?_ (hm:=(List.Sublist.cons _ (bu _)).append_left _);refine⟨by omega,tv Hm,by rw[dP,O4];rfl,?_,?_⟩;(rw[dP,MY];rw[hw] at D5;exact D5);(rw[xR,show pl -i=(pl -(i+1))+1 by omega,yQ,gw];rfl)
  ·refine aj ?_;refine ab.exit ?_;refine rg ?_;refine aM ?_;refine I V.aG ?_;refine I V.ag ?_;refine dr 31 (fun KA=>?_) fun KA=>?_
   ·exfalso;cases KA
   ·refine ah ?_;refine ah ?_;refine ah ?_;refine ah ?_;refine ah ?_;refine ah ?_;refine I V.aU ?_;refine ns ?_;refine ab.w' rfl ?_;refine c7 ?_;refine cw.hQ (Sz _) (fun e2 cF lj=>?_);refine aj ?_;refine ab.draw rfl (by kernel_rfl) (bc:=[.val 0,.val 1,.val 2,.val 3,.val 4,.val 5,.val 6,.val 7,.bR 8]) (by kernel_rfl) ?_;refine cq ?_;refine al rfl V.aG ?_;refine al rfl V.ag ?_;refine al rfl V.c9 ?_;refine al rfl V.aW ?_;refine' a8.fP rfl rfl (Ak rfl rfl rfl rfl (fQ rfl) rfl rfl rfl ?aa ?hs ?bE ?au ?_);case au=>exact amv
    case hs=>exact Cy _ _ _ (by show 0+(at_:Int).toNat*6+6<=fn.length;omega)
    case aa=>first|rfl|assumption
    case bE=>exact cy _
    refine a8.nil ?_;refine'⟨.inl rfl,rfl,_,_,.nil,List.Sublist.cons_cons _ (List.Sublist.cons _ (bu _)),?_⟩;rw[show pl -i=0 by omega] at xR;have au:ov pl (l.drop a)=(oR,l.drop bm):=by rw[xR];exact cD (·,l.drop bm) (gj oR)
    rw[au];have bE:0+(at_:Int).toNat*6=at_*6:=by omega
    refine⟨cF,bm,_,_,rfl,Hm,rfl,?_,?_⟩
    ·rw[bE]
     show(_++[_,_,_,_,_,_]++_:List Value).length=_;rw[dP,dP,iu,ms];show Nat.min (at_*6) fn.length+6+(fn.length -(at_*6+6))=fn.length;have:Nat.min (at_*6) fn.length=at_*6:=mu (by omega);omega
    ·rw[bE]
     exact hp.put (R':=fun _=>nC e2) aP aD (fun _ _ _ q=>q.mono cF) fK (new:=[.int .i64 3,.int .i64 0,.int .i64 0,.slice none 0 0,.slice none 0 0,.slice sr oR.length sx]) rfl ⟨_,_,_,_,_,_,rfl,⟨3,.nil⟩,⟨3,.nil⟩,⟨3,lj⟩⟩
end
end
end Go.Opn
namespace Go.Opn
noncomputable section
open Go.Cre Go.RowKit
structure Fz where
 f:FuncId
 bT:List Value
 bf:aN
 J:aH
 eP:Value->aN->aH->Prop
 new:Bool
def Fz.aaZ(x:Fz)(K:eE)(f:FuncId)(bT:List Value)(H:aA)(r:Ending×aA):Prop:=
 x.f=f/\x.bT=bT/\Inv K.g0 (lo x.bf H x.J) x.J x.bf H/\∃v H' af m',r=(Ending.returned v,H')/\ly K.Q f bT H (.returned v) H'/\Inv K.g0 (lo x.bf H x.J) af m' H'/\x.eP v m' af
def ga(K:eE)(B:dV)(ops:List Oper)(bc:List jF)(F:List Fz)(E:cf)(m:aN)(J:aH)(bH:cf->aN->aH->Prop):Prop:=
 ∀(T:eH) (S:bh) (H:aA),(∀f bT H1 r,T f bT H1=some r->∃x∈F,x.aaZ K f bT H1 r/\(x.new=true->H1.ak<H.ak))->Sat E S->Inv K.g0 B J m H->∃aU:eH,(∀f bT H r dx,T f bT H=some r->aU f bT H=some dx->dx=r)/\∃aS H' E' m' af,
  (∀fa:eH,(∀f args H r,aU f args H=some r->fa f args H=some r)->dL K.P (hM K.Q fa) (gH K.Q gW fa).aR ops bc S H=some (.ok aS H'))/\Sat E' aS/\Inv K.g0 B af m' H'/\bH E' m' af
section
variable {K:eE}{B:dV}{ops:List Oper}{bc:List jF}{F:List Fz}{Sq:List (FuncId×List Value)}{E:cf}{m m':aN}{J:aH}{o:Oper}{bH:cf->aN->aH->Prop}
variable {n:Nat}{ds:e7}{l:List (Nat×Value)}{d i:Nat}
theorem a8.IJ(h:ga K B ops bc [] E m J bH):a8 K B ops bc [] E m J bH:=by
 intro S H ax aJ;obtain⟨aU,_,ae⟩:=h (fun _ _ _=>none) S H (fun _ _ _ _ q=>by cases q) ax aJ;exact⟨aU,(fun _ _ _ _ _ q=>by cases q),ae⟩
theorem ga.II(fJ:∀x∈F,(x.f,x.bT)∈Sq)(h:a8 K B ops bc Sq E m J bH):ga K B ops bc F E m J bH:=by
 intro T S H dn ax aJ;obtain⟨aU,aa,ae⟩:=h S H ax aJ;refine⟨aU,fun f bT H1 r dx bb a7=>?_,ae⟩;obtain⟨x,U,⟨aL,bk,_⟩,_⟩:=dn f bT H1 r bb;exact absurd (by rw[<-aL,<-bk];exact fJ x U) (aa f bT H1 dx a7)
theorem ga.val{v:Value}(ao:nth ops i=some o)(aq:o.guard=none)(aV:o.dst=some d)(aP:Nat.blt d n=true)(ay:dm K B o n ds l m J v)(h:ga K B ops bc F ⟨n,ds,(d,v)::l⟩ m J bH):ga K B ops (.val i::bc) F ⟨n,ds,l⟩ m J bH:=by
 intro T S H dn ax aJ;obtain⟨bn,s1,s2⟩:=ax.put (dst:=some d) aP v;obtain⟨aU,dH,aS,H',E',m',af,aa,ae,aF,bo⟩:=h T bn H dn s2 aJ;refine⟨aU,dH,aS,H',E',m',af,fun fa q=>?_,ae,aF,bo⟩;show jy ops i (mM K.P _ _ ops S H (dL K.P _ _ ops bc))=_;unfold jy;rw[ao];show mM K.P _ _ ops S H (dL K.P _ _ ops bc) o=_;unfold mM fD;rw[aq];show CH S H o.dst (dL K.P _ _ ops bc) (cJ K.P _ _ S H o)=_;rw[ay _ _ S H ax aJ,aV];show(bif Nat.beq H.ak H.ak then pX (dL K.P _ _ ops bc) H (S.put (some d) v) else none)=_;rw[hz,b7,s1];exact aa fa q
theorem ga.cA{is:List Nat}(aC:th K B ops n ds l m J is)(h:ga K B ops bc F ⟨n,ds,l⟩ m J bH):ga K B ops (.cA is::bc) F ⟨n,ds,l⟩ m J bH:=by
 intro T S H dn ax aJ;obtain⟨aU,dH,aS,H',E',m',af,aa,ae,aF,bo⟩:=h T S H dn ax aJ;refine⟨aU,dH,aS,H',E',m',af,fun fa q=>?_,ae,aF,bo⟩;show AS K.P _ _ ops S H (dL K.P _ _ ops bc) is=_;unfold AS;rw[th.all ax aJ aC,b7];exact aa fa q
theorem ga.T5{mk:Bool}{c:Call}{x:Operand}{f:FuncId}{first cap:Array Value}{args bT:List Value}{bf bM:aN}{eP:Value->aN->aH->Prop}
 (ao:nth ops i=some o)(aq:o.guard=none)(ar:o.op=.call c)(aV:o.dst=some d)(aP:Nat.blt d n=true)(aC:c.callee=.value x)(U:b6 l x=some (.func (.func f) first cap))(a1:hY l c.args.toList=some args)(has:(first.toList++args)++cap.toList=bT)
 (hs:∀x∈F,x.f=f->x.bT=bT->(x.bf=bf/\x.J=J/\x.eP=eP)\/(∀H,Inv K.g0 (lo x.bf H x.J) x.J x.bf H->Inv K.g0 (lo bf H J) J bf H->False)\/x.new=true)
 (HC:mk=true->bf=[]/\∀v m' af,eP v m' af->∃a b,(a,b)∈m')
 (au:(bf++bM).Perm m)(fB:ER bf)(fJ:Fn K f bT bf J eP)(h:∀v m' af,J.le af->eP v m' af->ga K B ops bc (⟨f,bT,bf,J,eP,mk⟩::F) ⟨n,ds,(d,v)::l⟩ (m'++bM) af bH):ga K B ops (.bR i::bc) F ⟨n,ds,l⟩ m J bH:=by
 intro T S H dn ax aJ;have ix:=aJ.enter au fB;obtain⟨v,H',af,m',bl,bp,bQ,hv⟩:∃v H' af m',ly K.Q f bT H (.returned v) H'/\Inv K.g0 (lo bf H J) af m' H'/\eP v m' af/\∀r,T f bT H=some r->r=(Ending.returned v,H'):=by
  cases ahk:T f bT H with
  |none=>
   obtain⟨v,H',af,m',bl,bp,bQ⟩:=fJ H ix;exact⟨v,H',af,m',bl,bp,bQ,fun r q=>by cases q⟩
  |some r=>
   obtain⟨x,U,⟨aL,bk,ag2,v,H',af,m',aeE,bl,bp,bQ⟩,qp⟩:=dn _ _ _ _ ahk;rcases hs x U aL bk with⟨bb,a7,b8⟩|q|q
   ·rw[bb,a7] at bp;rw[b8] at bQ;exact⟨v,H',af,m',bl,bp,bQ,fun dx q=>by injection q with q;rw[<-q];exact aeE⟩
   ·exact(q H ag2 ix).elim
   ·exact absurd (qp q) (FL _)
 have e4:H.ak<=H'.ak:=bp.ak;have cr:mk=true->H.ak<H'.ak:=fun q=>by
  obtain⟨e,he⟩:=HC q;subst e;obtain⟨a,b,nb⟩:=he _ _ _ bQ;have ar:=bp.own _ _ nb;rcases ar.2.1 with q|q
  ·exact wN q (cC.Tq bp.wf ar.1)
  ·exact absurd q (JK)
 obtain⟨cU,gb⟩:=aJ.leave au bp;obtain⟨bn,s1,s2⟩:=ax.put (dst:=some d) aP v
 classical
 obtain⟨aU,dH,aS,pi,E',h2,q0,aa,ae,aF,bo⟩:=h v m' af gb bQ (fun cP jJ H1=>if cP=f/\jJ=bT/\H1=H then some (.returned v,H') else T cP jJ H1) bn H' (fun cP jJ H1 r q=>by
  split at q
  ·rename_i e;obtain⟨rfl,rfl,rfl⟩:=e;injection q with q
   exact⟨_,.head _,⟨rfl,rfl,ix,v,H',af,m',q.symm,bl,bp,bQ⟩,cr⟩
  ·obtain⟨x,U,dx,zn⟩:=dn _ _ _ _ q;exact⟨x,.tail _ U,dx,fun e=>yD (zn e) e4⟩) s2 cU
 refine⟨fun cP cz H1=>if cP=f/\cz=bT/\H1=H then some (.returned v,H') else aU cP cz H1,fun cP cz H1 r dx bb a7=>?_,aS,pi,E',h2,q0,fun fa q=>?_,ae,aF,bo⟩
 ·dsimp only at a7
  split at a7
  ·rename_i e;obtain⟨rfl,rfl,rfl⟩:=e;injection a7 with a7
   rw[hv r bb,a7]
  ·rename_i e;exact dH cP cz H1 r dx (by rw[an e];exact bb) a7
 ·have hD:fa f bT H=some (.returned v,H'):=q f bT H _ (by simp only[and_self,aE]);have BE:∀cP cz H1 r,aU cP cz H1=some r->fa cP cz H1=some r:=fun cP cz H1 r aw=>by
   by_cases e:cP=f/\cz=bT/\H1=H
   ·have:=dH cP cz H1 (.returned v,H') r (by rw[aE e]) aw;rw[this,e.1,e.2.1,e.2.2];exact hD
   ·exact q cP cz H1 r (by dsimp only;rw[an e];exact aw)
  show jy ops i (fun o=>kr (dL K.P _ _ ops bc) (one K.P _ _ ops S H o))=_;unfold jy;rw[ao];show kr (dL K.P _ _ ops bc) (one K.P _ _ ops S H o)=_;unfold one fD;rw[aq];show kr (dL K.P _ _ ops bc) (pP S H o.dst (cJ K.P _ _ S H o))=_;have he:cJ K.P (hM K.Q fa) (gH K.Q gW fa).aR S H o=some (.val v H'):=by
   unfold cJ fe;simp only[ar];show kU K.P _ c=_;unfold kU;rw[aC];show n9 K.P _ _ S.T H c=_;unfold n9;rw[n8 ax H a1];simp only[aC];rw[dy ax H U];simp only
   show(match l7 K.P H (.func f) (first.toList++args) cap.toList with|some (f,bT)=>pv (hM K.Q _ f bT H)|none=>none)=_
   unfold l7;simp only
   rw[has,Dm bl hD];rfl
  rw[he,aV];show kr (dL K.P _ _ ops bc) (pg H' (S.put (some d) v))=_;rw[s1];exact aa fa BE
theorem ga.call{c:Call}{x:Operand}{f:FuncId}{first cap:Array Value}{args bT:List Value}{bf bM:aN}{eP:Value->aN->aH->Prop}
 (ao:nth ops i=some o)(aq:o.guard=none)(ar:o.op=.call c)(aV:o.dst=some d)(aP:Nat.blt d n=true)(aC:c.callee=.value x)(U:b6 l x=some (.func (.func f) first cap))(a1:hY l c.args.toList=some args)(has:(first.toList++args)++cap.toList=bT)
 (hs:∀x∈F,x.f=f->x.bT=bT->(x.bf=bf/\x.J=J/\x.eP=eP)\/(∀H,Inv K.g0 (lo x.bf H x.J) x.J x.bf H->Inv K.g0 (lo bf H J) J bf H->False)\/x.new=true)
 (au:(bf++bM).Perm m)(fB:ER bf)(fJ:Fn K f bT bf J eP)(h:∀v m' af,J.le af->eP v m' af->ga K B ops bc (⟨f,bT,bf,J,eP,false⟩::F) ⟨n,ds,(d,v)::l⟩ (m'++bM) af bH):ga K B ops (.bR i::bc) F ⟨n,ds,l⟩ m J bH:=
 ga.T5 ao aq ar aV aP aC U a1 has hs (fun q=>by cases q) au fB fJ h
theorem ga.yZ{c:Call}{x:Operand}{f:FuncId}{first cap:Array Value}{args bT:List Value}{eP:Value->aN->aH->Prop}
 (ao:nth ops i=some o)(aq:o.guard=none)(ar:o.op=.call c)(aV:o.dst=some d)(aP:Nat.blt d n=true)(aC:c.callee=.value x)(U:b6 l x=some (.func (.func f) first cap))(a1:hY l c.args.toList=some args)(has:(first.toList++args)++cap.toList=bT)
 (hs:∀x∈F,x.new=true)(HC:∀v m' af,eP v m' af->∃a b,(a,b)∈m')
 (fJ:Fn K f bT [] J eP)(h:∀v m' af,J.le af->eP v m' af->ga K B ops bc (⟨f,bT,[],J,eP,true⟩::F) ⟨n,ds,(d,v)::l⟩ (m'++m) af bH):ga K B ops (.bR i::bc) F ⟨n,ds,l⟩ m J bH:=
 ga.T5 (mk:=true) (bM:=m) ao aq ar aV aP aC U a1 has (fun x U _ _=>.inr (.inr (hs x U))) (fun _=>⟨rfl,HC⟩) (.refl _) trivial fJ h
end
theorem akt{g0:Nat}{B qS:dV}{J af:aH}{m m':aN}{H:aA}{a:Nat}{c cd:List Value}{e bz:TypeId}(h:Inv g0 B J ((a,.row c e)::m) H)(oV:Inv g0 qS af ((a,.row cd bz)::m') H):c=cd:=by
 have aa:H.mem.get a=some (.row c e false 0 0 false):=(h.own _ _ (.head _)).1;have ae:H.mem.get a=some (.row cd bz false 0 0 false):=(oV.own _ _ (.head _)).1;rw[aa] at ae;injection ae with ae;injection ae
end
end Go.Opn
namespace Go.Opn
noncomputable section
open Go.Cre Go.RowKit Go.Proofs
theorem hp.mono{α:Type}{sz:Nat}{R R':Nat->α->List Value->Prop}{cells:List Value}{xs:List α}(h:hp sz R cells xs)(ei:∀i x cs,R i x cs->R' i x cs):hp sz R' cells xs:=⟨h.1,fun i x U=>ei _ _ _ (h.2 i x U)⟩
theorem C'.mono{J af:aH}(hle:J.le af){i:Nat}{x:jI}{cs:List Value}(h:C' J i x cs):C' af i x cs:=by
 obtain⟨b,c,aa,ae⟩:=h;exact⟨b,c,aa,ae.mono hle⟩
structure jG (J:aH) (σ:ea) (a:Nat) (l:List Int) (fx fk e':Value) (ag gp bf:aN):Prop where
 le:a<=l.length
 qb:σ.l=l.drop a
 v:∃gJ,hj 136 4 fx σ.vs.length gJ ag/\hp 4 (C' J) gJ σ.vs
 n:∃aQ,hj 47 6 fk σ.ns.length aQ gp/\hp 6 (fun _=>nC J) aQ σ.ns
 i:∃ci,hj 77 2 e' σ.is.length ci bf/\hp 2 MR ci σ.is
 uJ:∀x∈σ.vs,x.seen.length<=1000
theorem jG.mono{J af:aH}{σ:ea}{a:Nat}{l:List Int}{fx fk e':Value}{ag gp bf:aN}(h:jG J σ a l fx fk e' ag gp bf)(hle:J.le af):jG af σ a l fx fk e' ag gp bf:=by
 obtain⟨aa,ae,⟨gJ,aF,bo⟩,⟨aQ,eB,ht⟩,lI,A'⟩:=h;exact⟨aa,ae,⟨gJ,aF,bo.mono fun _ _ _ q=>q.mono hle⟩,⟨aQ,eB,ht.mono fun _ _ _ q=>q.mono hle⟩,lI,A'⟩
theorem jG.next{J:aH}{σ:ea}{a:Nat}{l:List Int}{fx fk e':Value}{ag gp bf:aN}(h:jG J σ a l fx fk e' ag gp bf)(n:Int):jG J {σ with l:=fY σ.l n} (kM l a n) l fx fk e' ag gp bf:=by
 obtain⟨aa,ae,aF,bo,eB,ht⟩:=h;exact⟨tv aa,by show fY σ.l n=_;rw[ae,yQ],aF,bo,eB,ht⟩
theorem jG.cI{J:aH}{σ:ea}{a:Nat}{l:List Int}{fx fk e':Value}{ag gp bf:aN}(h:jG J σ a l fx fk e' ag gp bf)(p:Int):jG J {σ with cI:=p} a l fx fk e' ag gp bf:=⟨h.le,h.qb,h.v,h.n,h.i,h.uJ⟩
theorem jG.push{J:aH}{σ:ea}{a:Nat}{l:List Int}{fx fk EU e':Value}{ag gp sZ bf:aN}{aQ:List Value}(h:jG J σ a l fx fk e' ag gp bf)(he:hp 6 (fun _=>nC J) aQ σ.ns)
 (aP:hj 47 6 EU (σ.ns.length+1) (aQ++[.int .i64 0,.int .i64 0,.int .i64 0,.slice none 0 0,.slice none 0 0,.slice none 0 0]) sZ)(seen:List (List Int)):jG J (kV seen σ) a l fx EU e' ag sZ bf:=
 ⟨h.le,h.qb,h.v,⟨_,by show hj _ _ _ (σ.ns++[_]).length _ _;rw[dP];exact aP,he.app (x:=sn) ⟨_,_,_,_,_,_,rfl,⟨3,.nil⟩,⟨3,.nil⟩,⟨3,.nil⟩⟩ rfl⟩,h.i,h.uJ⟩
theorem jG.GY{J:aH}{σ:ea}{a:Nat}{l:List Int}{fx fk e':Value}{ag gp bf:aN}(h:jG J σ a l fx fk e' ag gp bf):(∃b c,fx=.slice b σ.vs.length c/\addrEq b b=true)/\(∃b c,fk=.slice b σ.ns.length c/\addrEq b b=true)/\∃b c,e'=.slice b σ.is.length c/\addrEq b b=true:=by
 obtain⟨gJ,aa,_⟩:=h.v;obtain⟨aQ,ae,_⟩:=h.n;obtain⟨ci,aF,_⟩:=h.i;exact⟨aa.iN,ae.iN,aF.iN⟩
section
variable {Q:dD Tryz.prog}{g0:Nat}{J:aH}{am ad:Nat}{lv fx fk e':Value}{ag gp bf:aN}{aY iE:Int}{s:Bool}{pl:Nat}{cY:Option Addr}{cl a:Nat}{l:List Int}{σ:ea}
abbrev iZ(am ad:Nat)(lv:Value)(aY:Int)(s:Bool)(pl:Nat)(cY:Option Addr)(cl:Nat)(l:List Int)(iE:Int)(a:Nat)(fx fk e':Value)(ag gp bf:aN):aN:=
 (am,.row (we ad lv fx aY iE false s pl fk e') 85)::ka ad cY cl l a::(ag++(gp++bf))
theorem XH{n:Int}(av:dI J (.slice cY l.length cl) l)(hE:l.length<=1000000)(h:jG J σ a l fx fk e' ag gp bf)(hm:n<=4611686018427387904):
 Fn (bd Q g0) 30 [.pointer (some ⟨ad,0,none⟩),.int .i64 n] (iZ am ad lv aY s pl cY cl l iE a fx fk e' ag gp bf) J (fun u m' af=>J=af/\u=.int .i64 (ej σ.l n)/\m'=iZ am ad lv aY s pl cY cl l iE (kM l a n) fx fk e' ag gp bf):=by
 refine((B7 av hE h.le hm).frame (bf:=[ka ad cY cl l a]) (bM:=(am,_)::(ag++(gp++bf))) (List.Perm.swap _ _ _)).perm ?_;rintro v m' af ⟨_,m2,rfl,rfl,rfl,rfl⟩;exact⟨_,List.Perm.swap _ _ _,rfl,by rw[h.qb],rfl⟩
theorem Yw{α:Type}{x y:α}{u v w:List α}:(y::x::v++(u++w)).Perm (x::y::(u++(v++w))):=by
 refine(List.Perm.swap _ _ _).trans (List.Perm.cons _ (List.Perm.cons _ ?_));show(v++(u++w)).Perm _;rw[<-gw,<-gw];exact List.perm_append_comm.append_right w
theorem QH{at_:Nat}(av:dI J (.slice cY l.length cl) l)(hE:l.length<=1000000)(h:jG J σ a l fx fk e' ag gp bf)(dE:pl<=100)(fK:at_<σ.ns.length)(cr:σ.ns.length<=100000):
 Fn (bd Q g0) 50 [.pointer (some ⟨am,0,none⟩),.int .i64 (at_:Int)] (iZ am ad lv aY s pl cY cl l iE a fx fk e' ag gp bf) J (fun u m' af=>J.le af/\∃bV sZ,m'=iZ am ad lv aY s pl cY cl l iE bV fx fk e' ag sZ bf/\jG af (vv pl at_ σ) bV l fx fk e' ag sZ bf):=by
 obtain⟨aQ,aP,ua⟩:=h.n;obtain⟨bO,fn,rn,rfl,rfl,ql,aD⟩:=aP.row (by omega);subst ql;refine((ak7 (am:=am) (s:=s) (fx:=fx) (e':=e') (iE:=iE) (aY:=aY) (lv:=lv) (rn:=rn) av hE h.le dE ua aD fK cr).frame (bM:=ag++bf) (Yw (v:=[(bO,cC.opn fn 47 rn 0)]))).perm ?_;rintro v m' af ⟨_,m2,rfl,hle,bV,A2,L9,rfl,KM,xR,h1,oZ⟩;refine⟨_,?_,hle,bV,[(bO,cC.opn A2 47 L9 0)],rfl,?_⟩
 ·refine List.Perm.trans ?_ (Yw (v:=[(bO,cC.opn A2 47 L9 0)]))
  exact hU (l₁:=[(bO,_)]) (l₂:=[_,_]) |>.append_right _
 ·have hm:=h.mono hle
  refine⟨KM,by show(ov pl σ.l).2=_;rw[xR,h.qb],hm.v,⟨A2.take (σ.ns.length*6),?_,?_⟩,hm.i,hm.uJ⟩
  ·show hj _ _ _ (σ.ns.set _ _).length _ _
   rw[fz];exact hj.of (by omega)
  ·show hp _ _ _ (σ.ns.set _ _)
   rw[h.qb];exact oZ
theorem Yx{α:Type}{u v w:List α}:((u++w)++v).Perm (u++(v++w)):=by
 rw[gw];exact List.perm_append_comm.append_left u
open Classical in
theorem ak'{p:ep}{L:Nat}{b:Option Addr}{c:Nat}{seen:List Int}(av:dI J (.slice cY l.length cl) l)(hE:l.length<=1000000)(h:jG J σ a l fx fk e' ag gp bf)(oo:σ.is.length=σ.vs.length)(rQ:σ.vs.length<=100000)(hs:dI J (.slice b seen.length c) seen)(kR:seen.length<=1000):
 Fn (bd Q g0) 51 [.pointer (some ⟨am,0,none⟩),.int .i64 p.bZ,.int .i64 (L:Int),.slice b seen.length c] (iZ am ad lv aY s pl cY cl l iE a fx fk e' ag gp bf) J (fun u m' af=>J=af/\u=.int .i64 ((eD p L seen σ).2:Int)/\∃bV ph o8 wg uz,m'=iZ am ad lv aY s pl cY cl l iE bV ph fk o8 wg gp uz/\jG J (eD p L seen σ).1 bV l ph fk o8 wg gp uz):=by
 obtain⟨gJ,ay,uc⟩:=h.v;obtain⟨ci,ao,vK⟩:=h.i;refine((afk (am:=am) (ad:=ad) (fk:=fk) (iE:=iE) (aY:=aY) (z:=false) (s:=s) (pl:=pl) (lv:=lv) (bZ:=p.bZ) (L:=L) av hE h.le ay uc ao vK oo rQ hs (fun x U=>by have:=h.uJ x U;omega)).frame (bM:=gp) ?_).perm ?_
 ·exact List.Perm.cons _ (List.Perm.cons _ Yx)
 ·rintro v m' af ⟨_,m2,rfl,rfl,ph,o8,wg,uz,NL,NA,bV,kH,Ik,k,rfl,au,KM,v7,VX,hi',OZ,aw⟩
  refine⟨_,(au.append_right gp).trans (List.Perm.cons _ (List.Perm.cons _ Yx)),rfl,?_⟩;rcases aw with⟨aD,rfl,rfl,rfl⟩|⟨aD,rfl,rfl,rfl,rfl⟩
  ·have e:eD p L seen σ=(σ,k):=by unfold eD;rw[aD]
   rw[e];exact⟨rfl,_,_,_,_,_,rfl,KM,h.qb,⟨_,v7,VX⟩,h.n,⟨_,hi',OZ⟩,h.uJ⟩
  ·have e:eD p L seen σ=({σ with l:=fY σ.l 3,vs:=σ.vs++[⟨p.bZ,L,seen⟩],is:=σ.is++[(p.bZ,1+ej σ.l 3)]},σ.vs.length):=by unfold eD;rw[aD]
   rw[e];refine⟨rfl,_,_,_,_,_,rfl,KM,by show fY σ.l 3=_;rw[h.qb,yQ],⟨_,v7,VX⟩,h.n,⟨_,by rw[<-h.qb] at hi';exact hi',by rw[<-h.qb] at OZ;exact OZ⟩,fun x U=>?_⟩;rcases ko.1 U with q|q
   ·exact h.uJ x q
   ·simp at q;subst q;exact kR
end
end
end Go.Opn
namespace Go.Opn
noncomputable section
def fG (seen:List (List Int))(σ:ea):ea:={kV seen σ with l:=fY σ.l 8}
open Classical in
def hg (p:ep)(L:Nat)(seen:List (List Int))(σ:ea):ea:=if p.bZ<0 then fG seen σ else(eD p L (fb p seen) (fG seen σ)).1
open Classical in
def o7 (p:ep)(L:Nat)(seen:List (List Int))(σ:ea):Nat:=if p.bZ<0 then 0 else(eD p L (fb p seen) (fG seen σ)).2
open Classical in
def iY (p:ep)(L:Nat)(seen:List (List Int))(σ:ea):Int:=if p.bZ<0 then p.many else sj (eD p L (fb p seen) (fG seen σ)).2 (eD p L (fb p seen) (fG seen σ)).1
def s4 (p:ep)(L:Nat)(seen:List (List Int))(σ:ea)(ak ws:List Int):cR:=if p.bZ<0 then⟨1,0,0,ak,ws,[]⟩ else⟨2,p.bZ,(o7 p L seen σ:Int),ak,ws,[]⟩
open Classical in
theorem w3{most:Int}{pl:Nat}{p:ep}{lv:List ep}{L:Nat}{seen:List (List Int)}{σ:ea}:l4 most pl (p::lv) L seen σ=
 if ej σ.l 8=1 then vv pl σ.ns.length (fG seen σ) else
 if most<(σ.ns.length:Int)+1+(hg p L seen σ).cI+iY p L seen σ then vv pl σ.ns.length (jq (o7 p L seen σ) p.bZ (hg p L seen σ)) else
 let r:=kids (l4 most pl lv (L+1)) p seen (iY p L seen σ).toNat 0 {hg p L seen σ with cI:=(hg p L seen σ).cI+iY p L seen σ} [] []
 {r.1 with ns:=r.1.ns.set σ.ns.length (s4 p L seen σ r.2.1 r.2.2)}:=by
 show(if ej σ.l 8=1 then _ else if p.bZ<0 then _ else _)=_;by_cases aa:ej σ.l 8=1
 ·rw[aE aa,aE aa];rfl
 ·rw[an aa,an aa];by_cases ae:p.bZ<0
  ·rw[aE ae];have aL:hg p L seen σ=fG seen σ:=by unfold hg;rw[aE ae]
   have bk:iY p L seen σ=p.many:=by unfold iY;rw[aE ae]
   have cG:∀a b,s4 p L seen σ a b=⟨1,0,0,a,b,[]⟩:=fun a b=>by unfold s4;rw[aE ae]
   have eL:jq (o7 p L seen σ) p.bZ (fG seen σ)=fG seen σ:=by unfold jq;rw[aE (.inl ae)]
   rw[aL,bk,eL];simp only[cG];rfl
  ·rw[an ae];have aL:hg p L seen σ=(eD p L (fb p seen) (fG seen σ)).1:=by unfold hg;rw[an ae]
   have bk:iY p L seen σ=sj (eD p L (fb p seen) (fG seen σ)).2 (eD p L (fb p seen) (fG seen σ)).1:=by unfold iY;rw[an ae]
   have cu:o7 p L seen σ=(eD p L (fb p seen) (fG seen σ)).2:=by unfold o7;rw[an ae]
   have cG:∀a b,s4 p L seen σ a b=⟨2,p.bZ,((eD p L (fb p seen) (fG seen σ)).2:Int),a,b,[]⟩:=fun a b=>by unfold s4;rw[an ae,cu]
   rw[aL,bk,cu];simp only[cG];rfl
open Classical in
theorem aom{most:Int}{L:Nat}{σ:ea}{p:ep}{seen:List (List Int)}(e6:jY most L σ)(Wh:2<=p.many)(K3:p.many<=3):
 (hg p L seen σ).ns=σ.ns++[sn]/\(hg p L seen σ).cI=σ.cI -1/\1<=iY p L seen σ/\iY p L seen σ<=3/\jY most (L+1) (hg p L seen σ)/\(¬most<(σ.ns.length:Int)+1+(hg p L seen σ).cI+iY p L seen σ->jY most (L+1) {hg p L seen σ with cI:=(hg p L seen σ).cI+iY p L seen σ})/\
 (0<=p.bZ->∃y,(hg p L seen σ).is[o7 p L seen σ]?=some y/\y.2=iY p L seen σ):=by
 by_cases ae:p.bZ<0
 ·have aL:hg p L seen σ=fG seen σ:=by unfold hg;rw[aE ae]
  have bk:iY p L seen σ=p.many:=by unfold iY;rw[aE ae]
  rw[aL,bk];have hs:=e6.sum;refine⟨rfl,rfl,by omega,by omega,Cz e6 rfl rfl (.inl ⟨rfl,rfl⟩) (by show _+(σ.cI -1)<=_;omega),fun q=>Cz e6 rfl rfl (.inl ⟨rfl,rfl⟩) (by show _+(σ.cI -1+p.many)<=_;have q:¬most<(σ.ns.length:Int)+1+(σ.cI -1)+p.many:=q;omega),fun q=>by omega⟩
 ·have aL:hg p L seen σ=(eD p L (fb p seen) (fG seen σ)).1:=by unfold hg;rw[an ae]
  have bk:iY p L seen σ=sj (eD p L (fb p seen) (fG seen σ)).2 (eD p L (fb p seen) (fG seen σ)).1:=by unfold iY;rw[an ae]
  have cu:o7 p L seen σ=(eD p L (fb p seen) (fG seen σ)).2:=by unfold o7;rw[an ae]
  rw[aL,bk,cu];have hs:=e6.sum
  obtain⟨v1,v2,v3,v4,v5,v6⟩:(eD p L (fb p seen) (fG seen σ)).1.ns=σ.ns++[sn]/\(eD p L (fb p seen) (fG seen σ)).1.bO=σ.bO++[seen]/\(eD p L (fb p seen) (fG seen σ)).1.cI=σ.cI -1/\
   (((eD p L (fb p seen) (fG seen σ)).1.vs=σ.vs/\(eD p L (fb p seen) (fG seen σ)).1.is=σ.is)\/∃v y,(eD p L (fb p seen) (fG seen σ)).1.vs=σ.vs++[v]/\(eD p L (fb p seen) (fG seen σ)).1.is=σ.is++[y]/\v.level=L/\y.1=v.bZ/\1<=y.2/\y.2<=3)/\
   (∃v,(eD p L (fb p seen) (fG seen σ)).1.vs[(eD p L (fb p seen) (fG seen σ)).2]?=some v)/\
   ∃y,(eD p L (fb p seen) (fG seen σ)).1.is[(eD p L (fb p seen) (fG seen σ)).2]?=some y/\y.2=sj (eD p L (fb p seen) (fG seen σ)).2 (eD p L (fb p seen) (fG seen σ)).1:=by
   unfold eD;cases aD:ku ⟨p.bZ,L,fb p seen⟩ (fG seen σ).vs 0 with
   |some k=>
    simp only
    obtain⟨_,a7⟩:=GV aD;rw[Az] at a7;have aO:k<σ.is.length:=by rw[e6.is];exact eU a7
    have ai:=dj aO;refine⟨rfl,rfl,rfl,.inl ⟨rfl,rfl⟩,⟨_,a7⟩,⟨_,ai,?_⟩⟩;unfold sj;rw[show(fG seen σ).is[k]?=_ from ai]
   |none=>
    simp only
    have aw:=pN (l:=(fG seen σ).l) (n:=3) (by omega);refine⟨rfl,rfl,rfl,.inr ⟨_,_,rfl,rfl,rfl,rfl,by show 1<=1+ej (fG seen σ).l 3;omega,by show 1+ej (fG seen σ).l 3<=3;omega⟩,⟨_,qh⟩,?_⟩;have av:((fG seen σ).is++[(p.bZ,1+ej (fG seen σ).l 3)])[(fG seen σ).vs.length]?=some (p.bZ,1+ej (fG seen σ).l 3):=by
     rw[show(fG seen σ).vs.length=(fG seen σ).is.length from e6.is.symm,qh]
    refine⟨_,av,?_⟩;unfold sj;rw[av]
  have dw:jY most (L+1) (eD p L (fb p seen) (fG seen σ)).1:=Cz e6 v1 v2 v4 (by rw[v3];omega);obtain⟨v,ay⟩:=v5;obtain⟨y,ai,sV⟩:=v6;have dq:=dw.ok _ v y ay ai;refine⟨v1,v3,by rw[<-sV];exact dq.2.1,by rw[<-sV];exact dq.2.2,dw,fun q=>?_,fun _=>⟨y,ai,sV⟩⟩;refine Cz e6 v1 v2 v4 ?_;show(σ.ns.length:Int)+1+((eD p L (fb p seen) (fG seen σ)).1.cI+sj _ _)<=most;omega
def qy (p:ep)(σ:ea):ea:=if p.bZ<0 then{σ with l:=fY σ.l 3} else σ
def qz (p:ep)(σ:ea)(ws:List Int):List Int:=if p.bZ<0 then ws++[1+ej σ.l 3] else ws
theorem akI{rec:List (List Int)->ea->ea}{p:ep}{seen:List (List Int)}{k i:Nat}{σ:ea}{ak ws:List Int}:kids rec p seen (k+1) i σ ak ws=kids rec p seen k (i+1) (rec (kD p i seen) (qy p σ)) (ak++[(σ.ns.length:Int)]) (qz p σ ws):=by
 show(if p.bZ<0 then _ else _)=_;unfold qy qz;by_cases h:p.bZ<0
 ·rw[aE h,aE h,aE h]
 ·rw[an h,an h,an h]
theorem akG{most:Int}{L:Nat}{σ:ea}{p:ep}(h:jY most L σ):jY most L (qy p σ)/\(qy p σ).cI=σ.cI/\(qy p σ).ns=σ.ns:=by
 unfold qy;split
 ·exact⟨h.l _,rfl,rfl⟩
 ·exact⟨h,rfl,rfl⟩
theorem alE{p:ep}{i q:Nat}{seen:List (List Int)}{s:List Int}(h:seen[q]?=some s):(kD p i seen).take (q+1)=(kD p i seen).take q++[s++[rX p i q]]:=by
 have:(kD p i seen)[q]?=some (s++[rX p i q]):=by unfold kD;rw[aa3,h];rfl
 rw[nY,this];rfl
end
end Go.Opn
namespace Go.Opn
noncomputable section
open Go.Cre Go.RowKit Go.Proofs
section
variable {Q:dD Tryz.prog}{g0:Nat}{J:aH}{am ad:Nat}{lv fx fk e':Value}{ag gp bf:aN}{aY iE:Int}{s:Bool}{pl:Nat}{cY:Option Addr}{cl a:Nat}{l:List Int}{σ:ea}
theorem aep{info bZ:Int}{z:Bool}(au:bZ<0)(m0:aN):
 Fn (bd Q g0) 52 [.pointer (some ⟨am,0,none⟩),.int .i64 info,.int .i64 bZ] m0 J (fun u m' af=>J=af/\m'=m0):=by
 refine Fn.cH (cM Tryz.func52) rfl rfl fun H=>?_;refine rg ?_;refine I V.ag ?_;refine I V.aZ ?_;refine I V.ag ?_;refine dr 9 (fun Oi=>?_) fun Oi=>?_
 ·refine ah ?_;refine ah ?_;refine ah ?_;refine ah ?_;refine ah ?_;refine ah ?_;refine ah ?_;refine ah ?_;refine ah ?_;refine I V.aU ?_;refine ns ?_;refine ab.Kk rfl ?_;refine aj ?_;refine ab.ret ?_;refine'⟨.inr rfl,rfl,_,_,.nil,bu _,⟨rfl,rfl⟩⟩
 ·exfalso;omega
theorem ak9{info:Nat}{bZ:Int}(h:jG J σ a l fx fk e' ag gp bf)(oo:σ.is.length=σ.vs.length)(ao:info<σ.is.length)(aP:0<σ.ns.length)(cr:σ.ns.length<=100000)(mE:σ.is.length<=100000):
 Fn (bd Q g0) 52 [.pointer (some ⟨am,0,none⟩),.int .i64 (info:Int),.int .i64 bZ] (iZ am ad lv aY s pl cY cl l iE a fx fk e' ag gp bf) J (fun u m' af=>J=af/\∃ph o8,m'=iZ am ad lv aY s pl cY cl l iE a ph fk o8 ag gp bf/\jG J (jq (info:Int) bZ σ) a l ph fk o8 ag gp bf):=by
 obtain⟨gJ,ay,uc⟩:=h.v;obtain⟨aQ,zn,ua⟩:=h.n;obtain⟨ci,hi',vK⟩:=h.i;obtain⟨yR,fv,rv,rfl,rfl,Pb,sQ⟩:=ay.row (by omega);obtain⟨bO,fn,rn,rfl,rfl,ql,uh⟩:=zn.row (by omega);obtain⟨g',zc,iH,rfl,rfl,O9,aiI⟩:=hi'.row (by omega);subst ql;refine((aer (am:=am) (ad:=ad) (lv:=lv) (aY:=aY) (iE:=iE) (z:=false) (s:=s) (pl:=pl) (yR:=yR) (bO:=bO) (g':=g') (bZ:=bZ) (info:=(info:Int)) (fv:=fv) (rv:=rv) (zc:=zc) (iH:=iH) (rn:=rn) ua (by omega) oo.symm (by omega) cr mE).frame (bM:=[ka ad cY cl l a]) ?_).perm ?_
 ·exact(hU (l₂:=[ka ad cY cl l a])).trans (List.Perm.swap _ _ _)
 ·rintro v m' af ⟨_,m2,rfl,rfl,k,rfl,aO⟩
  refine⟨_,(hU (l₂:=[ka ad cY cl l a])).trans (List.Perm.swap _ _ _),rfl,_,_,rfl,?_⟩;by_cases c1:bZ<0\/(info:Int)≠(σ.is.length:Int) -1
  ·rw[aE c1] at aO
   have e:jq (info:Int) bZ σ=σ:=by unfold jq;rw[aE c1]
   rw[e,aO,oo];rw[oo] at h;exact h
  ·rw[an c1] at aO
   by_cases c2:wC (info:Int) σ.ns=true
   ·rw[aE c2] at aO
    have e:jq (info:Int) bZ σ=σ:=by unfold jq;rw[an c1,aE c2]
    rw[e,aO,oo];rw[oo] at h;exact h
   ·rw[an c2] at aO
    have e:jq (info:Int) bZ σ={σ with is:=σ.is.take (info:Int).toNat,vs:=σ.vs.take (σ.vs.length -1)}:=by unfold jq;rw[an c1,an c2]
    rw[e];have aO:k=info:=by omega
    have lN:info=σ.vs.length -1:=by omega
    subst aO;refine⟨h.le,h.qb,⟨(fv.take (k*4)),?_,?_⟩,h.n,⟨zc.take (k*2),?_,?_⟩,fun x U=>h.uJ x (SI U)⟩
    ·show hj _ _ _ (σ.vs.take _).length _ _
     rw[iu,<-lN,mu (by omega)];exact hj.of (by omega)
    ·have:=uc.take (k:=k) (by omega)
     rw[<-Pb,yC,mu (by omega)] at this;rw[<-lN];exact this
    ·show hj _ _ _ (σ.is.take _).length _ _
     rw[iu,cx,mu (by omega)];exact hj.of (by omega)
    ·have:=vK.take (k:=k) (by omega)
     rw[<-O9,yC,mu (by omega)] at this;rw[cx];exact this
end
end
end Go.Opn

/- A part of the proof of ResumeBack. -/
import Derived.Test.YtiemfjdacfioeaaGreatDoorCbh
import Derived.Test.YtiemfjdacfioeaaGreatDoorCbf
set_option linter.unusedVariables false
set_option linter.unusedSimpArgs false
namespace Go.Opn
noncomputable section
open Go.Cre Go.RowKit
structure Fm where
 f:FuncId
 b6:List Value
 bh:aO
 J:aI
 eO:Value->aO->aI->Prop
 new:Bool
def Fm.aaB(x:Fm)(K:eL)(f:FuncId)(b6:List Value)(H:aB)(r:Ending×aB):Prop:=
 x.f=f/\x.b6=b6/\Inv K.g0 (lg x.bh H x.J) x.J x.bh H/\∃v H' ag m',r=(Ending.returned v,H')/\lL K.Q f b6 H (.returned v) H'/\Inv K.g0 (lg x.bh H x.J) ag m' H'/\x.eO v m' ag
def f'(K:eL)(B:ea)(ops:List Oper)(bf:List jr)(F:List Fm)(E:cn)(m:aO)(J:aI)(bL:cn->aO->aI->Prop):Prop:=
 ∀(T:eH) (S:bi) (H:aB),(∀f b6 H1 r,T f b6 H1=some r->∃x∈F,x.aaB K f b6 H1 r/\(x.new=true->H1.ak<H.ak))->Sat E S->Inv K.g0 B J m H->∃aV:eH,(∀f b6 H r dw,T f b6 H=some r->aV f b6 H=some dw->dw=r)/\∃aS H' cL m' ag,
  (∀e9:eH,(∀f args H r,aV f args H=some r->e9 f args H=some r)->dK K.P (il K.Q e9) (g' K.Q hN e9).aR ops bf S H=some (.ok aS H'))/\Sat cL aS/\Inv K.g0 B ag m' H'/\bL cL m' ag
section
variable {K:eL}{B:ea}{ops:List Oper}{bf:List jr}{F:List Fm}{R0:List (FuncId×List Value)}{E:cn}{m m':aO}{J:aI}{o:Oper}{bL:cn->aO->aI->Prop}
variable {n:Nat}{ds:e7}{l:List (Nat×Value)}{d i:Nat}
theorem a7.Is(h:f' K B ops bf [] E m J bL):a7 K B ops bf [] E m J bL:=by
 intro S H ax aJ;obtain⟨aV,_,ae⟩:=h (fun _ _ _=>none) S H (fun _ _ _ _ q=>by cases q) ax aJ;exact⟨aV,(fun _ _ _ _ _ q=>by cases q),ae⟩
theorem f'.Ir(fQ:∀x∈F,(x.f,x.b6)∈R0)(h:a7 K B ops bf R0 E m J bL):f' K B ops bf F E m J bL:=by
 intro T S H dy ax aJ;obtain⟨aV,aa,ae⟩:=h S H ax aJ;refine⟨aV,fun f b6 H1 r dw bd a6=>?_,ae⟩;obtain⟨x,U,⟨aN,bn,_⟩,_⟩:=dy f b6 H1 r bd;exact absurd (by rw[<-aN,<-bn];exact fQ x U) (aa f b6 H1 dw a6)
theorem f'.val{v:Value}(ao:nth ops i=some o)(aq:o.guard=none)(aZ:o.dst=some d)(aP:Nat.blt d n=true)(az:cV K B o n ds l m J v)(h:f' K B ops bf F ⟨n,ds,(d,v)::l⟩ m J bL):f' K B ops (.val i::bf) F ⟨n,ds,l⟩ m J bL:=by
 intro T S H dy ax aJ;obtain⟨bq,s1,s2⟩:=ax.put (dst:=some d) aP v;obtain⟨aV,dS,aS,H',cL,m',ag,aa,ae,aG,br⟩:=h T bq H dy s2 aJ;refine⟨aV,dS,aS,H',cL,m',ag,fun e9 q=>?_,ae,aG,br⟩;show jl ops i (mI K.P _ _ ops S H (dK K.P _ _ ops bf))=_;unfold jl;rw[ao];show mI K.P _ _ ops S H (dK K.P _ _ ops bf) o=_;unfold mI fj;rw[aq];show Ct S H o.dst (dK K.P _ _ ops bf) (cO K.P _ _ S H o)=_;rw[az _ _ S H ax aJ,aZ];show(bif Nat.beq H.ak H.ak then pM (dK K.P _ _ ops bf) H (S.put (some d) v) else none)=_;rw[hA,cb,s1];exact aa e9 q
theorem f'.cF{is:List Nat}(aH:s4 K B ops n ds l m J is)(h:f' K B ops bf F ⟨n,ds,l⟩ m J bL):f' K B ops (.cF is::bf) F ⟨n,ds,l⟩ m J bL:=by
 intro T S H dy ax aJ;obtain⟨aV,dS,aS,H',cL,m',ag,aa,ae,aG,br⟩:=h T S H dy ax aJ;refine⟨aV,dS,aS,H',cL,m',ag,fun e9 q=>?_,ae,aG,br⟩;show AJ K.P _ _ ops S H (dK K.P _ _ ops bf) is=_;unfold AJ;rw[s4.all ax aJ aH,cb];exact aa e9 q
theorem f'.TB{mk:Bool}{c:Call}{x:Operand}{f:FuncId}{first cap:Array Value}{args b6:List Value}{bh bW:aO}{eO:Value->aO->aI->Prop}
 (ao:nth ops i=some o)(aq:o.guard=none)(ar:o.op=.call c)(aZ:o.dst=some d)(aP:Nat.blt d n=true)(aH:c.callee=.value x)(U:b7 l x=some (.func (.func f) first cap))(a':h5 l c.args.toList=some args)(has:(first.toList++args)++cap.toList=b6)
 (af:∀x∈F,x.f=f->x.b6=b6->(x.bh=bh/\x.J=J/\x.eO=eO)\/(∀H,Inv K.g0 (lg x.bh H x.J) x.J x.bh H->Inv K.g0 (lg bh H J) J bh H->False)\/x.new=true)
 (Hl:mk=true->bh=[]/\∀v m' ag,eO v m' ag->∃a b,(a,b)∈m')
 (aw:(bh++bW).Perm m)(fy:ED bh)(fQ:Fn K f b6 bh J eO)(h:∀v m' ag,J.le ag->eO v m' ag->f' K B ops bf (⟨f,b6,bh,J,eO,mk⟩::F) ⟨n,ds,(d,v)::l⟩ (m'++bW) ag bL):f' K B ops (.bV i::bf) F ⟨n,ds,l⟩ m J bL:=by
 intro T S H dy ax aJ;have j4:=aJ.enter aw fy;obtain⟨v,H',ag,m',bp,bC,b5,hv⟩:∃v H' ag m',lL K.Q f b6 H (.returned v) H'/\Inv K.g0 (lg bh H J) ag m' H'/\eO v m' ag/\∀r,T f b6 H=some r->r=(Ending.returned v,H'):=by
  cases agL:T f b6 H with
  |none=>
   obtain⟨v,H',ag,m',bp,bC,b5⟩:=fQ H j4;exact⟨v,H',ag,m',bp,bC,b5,fun r q=>by cases q⟩
  |some r=>
   obtain⟨x,U,⟨aN,bn,ags,v,H',ag,m',ad8,bp,bC,b5⟩,qk⟩:=dy _ _ _ _ agL;rcases af x U aN bn with⟨bd,a6,b9⟩|q|q
   ·rw[bd,a6] at bC;rw[b9] at b5;exact⟨v,H',ag,m',bp,bC,b5,fun dw q=>by injection q with q;rw[<-q];exact ad8⟩
   ·exact(q H ags j4).elim
   ·exact absurd (qk q) (Fx _)
 have e0:H.ak<=H'.ak:=bC.ak;have cr:mk=true->H.ak<H'.ak:=fun q=>by
  obtain⟨e,he⟩:=Hl q;subst e;obtain⟨a,b,mV⟩:=he _ _ _ b5;have ar:=bC.own _ _ mV;rcases ar.2.1 with q|q
  ·exact wu q (cK.S3 bC.wf ar.1)
  ·exact absurd q (Jr)
 obtain⟨da,gM⟩:=aJ.leave aw bC;obtain⟨bq,s1,s2⟩:=ax.put (dst:=some d) aP v
 classical
 obtain⟨aV,dS,aS,qQ,cL,iy,s7,aa,ae,aG,br⟩:=h v m' ag gM b5 (fun cW jv H1=>if cW=f/\jv=b6/\H1=H then some (.returned v,H') else T cW jv H1) bq H' (fun cW jv H1 r q=>by
  split at q
  ·rename_i e;obtain⟨rfl,rfl,rfl⟩:=e;injection q with q
   exact⟨_,.head _,⟨rfl,rfl,j4,v,H',ag,m',q.symm,bp,bC,b5⟩,cr⟩
  ·obtain⟨x,U,dw,ze⟩:=dy _ _ _ _ q;exact⟨x,.tail _ U,dw,fun e=>yv (ze e) e0⟩) s2 da
 refine⟨fun cW cz H1=>if cW=f/\cz=b6/\H1=H then some (.returned v,H') else aV cW cz H1,fun cW cz H1 r dw bd a6=>?_,aS,qQ,cL,iy,s7,fun e9 q=>?_,ae,aG,br⟩
 ·dsimp only at a6
  split at a6
  ·rename_i e;obtain⟨rfl,rfl,rfl⟩:=e;injection a6 with a6
   rw[hv r bd,a6]
  ·rename_i e;exact dS cW cz H1 r dw (by rw[ap e];exact bd) a6
 ·have hC:e9 f b6 H=some (.returned v,H'):=q f b6 H _ (by simp only[and_self,aE]);have Bw:∀cW cz H1 r,aV cW cz H1=some r->e9 cW cz H1=some r:=fun cW cz H1 r ay=>by
   by_cases e:cW=f/\cz=b6/\H1=H
   ·have:=dS cW cz H1 (.returned v,H') r (by rw[aE e]) ay;rw[this,e.1,e.2.1,e.2.2];exact hC
   ·exact q cW cz H1 r (by dsimp only;rw[ap e];exact ay)
  show jl ops i (fun o=>kn (dK K.P _ _ ops bf) (one K.P _ _ ops S H o))=_;unfold jl;rw[ao];show kn (dK K.P _ _ ops bf) (one K.P _ _ ops S H o)=_;unfold one fj;rw[aq];show kn (dK K.P _ _ ops bf) (pD S H o.dst (cO K.P _ _ S H o))=_;have he:cO K.P (il K.Q e9) (g' K.Q hN e9).aR S H o=some (.val v H'):=by
   unfold cO fq;simp only[ar];show lI K.P _ c=_;unfold lI;rw[aH];show po K.P _ _ S.T H c=_;unfold po;rw[oI ax H a'];simp only[aH];rw[du ax H U];simp only
   show(match mU K.P H (.func f) (first.toList++args) cap.toList with|some (f,b6)=>q8 (il K.Q _ f b6 H)|none=>none)=_
   unfold mU;simp only
   rw[has,F' bp hC];rfl
  rw[he,aZ];show kn (dK K.P _ _ ops bf) (pI H' (S.put (some d) v))=_;rw[s1];exact aa e9 Bw
theorem f'.call{c:Call}{x:Operand}{f:FuncId}{first cap:Array Value}{args b6:List Value}{bh bW:aO}{eO:Value->aO->aI->Prop}
 (ao:nth ops i=some o)(aq:o.guard=none)(ar:o.op=.call c)(aZ:o.dst=some d)(aP:Nat.blt d n=true)(aH:c.callee=.value x)(U:b7 l x=some (.func (.func f) first cap))(a':h5 l c.args.toList=some args)(has:(first.toList++args)++cap.toList=b6)
 (af:∀x∈F,x.f=f->x.b6=b6->(x.bh=bh/\x.J=J/\x.eO=eO)\/(∀H,Inv K.g0 (lg x.bh H x.J) x.J x.bh H->Inv K.g0 (lg bh H J) J bh H->False)\/x.new=true)
 (aw:(bh++bW).Perm m)(fy:ED bh)(fQ:Fn K f b6 bh J eO)(h:∀v m' ag,J.le ag->eO v m' ag->f' K B ops bf (⟨f,b6,bh,J,eO,false⟩::F) ⟨n,ds,(d,v)::l⟩ (m'++bW) ag bL):f' K B ops (.bV i::bf) F ⟨n,ds,l⟩ m J bL:=
 f'.TB ao aq ar aZ aP aH U a' has af (fun q=>by cases q) aw fy fQ h
theorem f'.yQ{c:Call}{x:Operand}{f:FuncId}{first cap:Array Value}{args b6:List Value}{eO:Value->aO->aI->Prop}
 (ao:nth ops i=some o)(aq:o.guard=none)(ar:o.op=.call c)(aZ:o.dst=some d)(aP:Nat.blt d n=true)(aH:c.callee=.value x)(U:b7 l x=some (.func (.func f) first cap))(a':h5 l c.args.toList=some args)(has:(first.toList++args)++cap.toList=b6)
 (af:∀x∈F,x.new=true)(Hl:∀v m' ag,eO v m' ag->∃a b,(a,b)∈m')
 (fQ:Fn K f b6 [] J eO)(h:∀v m' ag,J.le ag->eO v m' ag->f' K B ops bf (⟨f,b6,[],J,eO,true⟩::F) ⟨n,ds,(d,v)::l⟩ (m'++m) ag bL):f' K B ops (.bV i::bf) F ⟨n,ds,l⟩ m J bL:=
 f'.TB (mk:=true) (bW:=m) ao aq ar aZ aP aH U a' has (fun x U _ _=>.inr (.inr (af x U))) (fun _=>⟨rfl,Hl⟩) (.refl _) trivial fQ h
end
theorem ajT{g0:Nat}{B Jd:ea}{J ag:aI}{m m':aO}{H:aB}{a:Nat}{c ch:List Value}{e bG:TypeId}(h:Inv g0 B J ((a,.row c e)::m) H)(oM:Inv g0 Jd ag ((a,.row ch bG)::m') H):c=ch:=by
 have aa:H.mem.get a=some (.row c e false 0 0 false):=(h.own _ _ (.head _)).1;have ae:H.mem.get a=some (.row ch bG false 0 0 false):=(oM.own _ _ (.head _)).1;rw[aa] at ae;injection ae with ae;injection ae
end
end Go.Opn
set_option maxRecDepth 100000
set_option maxHeartbeats 4000000
namespace Go.Opn
noncomputable section
open Go.Cre Go.RowKit Go.Proofs
theorem hr.mono{α:Type}{sz:Nat}{R R':Nat->α->List Value->Prop}{cells:List Value}{xs:List α}(h:hr sz R cells xs)(ey:∀i x cs,R i x cs->R' i x cs):hr sz R' cells xs:=⟨h.1,fun i x U=>ey _ _ _ (h.2 i x U)⟩
theorem CW.mono{J ag:aI}(hle:J.le ag){i:Nat}{x:ju}{cs:List Value}(h:CW J i x cs):CW ag i x cs:=by
 obtain⟨b,c,aa,ae⟩:=h;exact⟨b,c,aa,ae.mono hle⟩
structure js (J:aI) (σ:eb) (a:Nat) (l:List Int) (fp fm e8:Value) (ah gl bh:aO):Prop where
 le:a<=l.length
 pk:σ.l=l.drop a
 v:∃gJ,hk 136 4 fp σ.vs.length gJ ah/\hr 4 (CW J) gJ σ.vs
 n:∃aQ,hk 45 6 fm σ.ns.length aQ gl/\hr 6 (fun _=>nu J) aQ σ.ns
 i:∃ci,hk 77 2 e8 σ.is.length ci bh/\hr 2 Mn ci σ.is
 uH:∀x∈σ.vs,x.seen.length<=1000
theorem js.mono{J ag:aI}{σ:eb}{a:Nat}{l:List Int}{fp fm e8:Value}{ah gl bh:aO}(h:js J σ a l fp fm e8 ah gl bh)(hle:J.le ag):js ag σ a l fp fm e8 ah gl bh:=by
 obtain⟨aa,ae,⟨gJ,aG,br⟩,⟨aQ,eu,gK⟩,ks,A3⟩:=h;exact⟨aa,ae,⟨gJ,aG,br.mono fun _ _ _ q=>q.mono hle⟩,⟨aQ,eu,gK.mono fun _ _ _ q=>q.mono hle⟩,ks,A3⟩
theorem js.next{J:aI}{σ:eb}{a:Nat}{l:List Int}{fp fm e8:Value}{ah gl bh:aO}(h:js J σ a l fp fm e8 ah gl bh)(n:Int):js J {σ with l:=fX σ.l n} (kK l a n) l fp fm e8 ah gl bh:=by
 obtain⟨aa,ae,aG,br,eu,gK⟩:=h;exact⟨tk aa,by show fX σ.l n=_;rw[ae,yH],aG,br,eu,gK⟩
theorem js.cG{J:aI}{σ:eb}{a:Nat}{l:List Int}{fp fm e8:Value}{ah gl bh:aO}(h:js J σ a l fp fm e8 ah gl bh)(p:Int):js J {σ with cG:=p} a l fp fm e8 ah gl bh:=⟨h.le,h.pk,h.v,h.n,h.i,h.uH⟩
theorem js.push{J:aI}{σ:eb}{a:Nat}{l:List Int}{fp fm EG e8:Value}{ah gl sM bh:aO}{aQ:List Value}(h:js J σ a l fp fm e8 ah gl bh)(he:hr 6 (fun _=>nu J) aQ σ.ns)
 (aP:hk 45 6 EG (σ.ns.length+1) (aQ++[.int .i64 0,.int .i64 0,.int .i64 0,.slice none 0 0,.slice none 0 0,.slice none 0 0]) sM)(seen:List (List Int)):js J (kS seen σ) a l fp EG e8 ah sM bh:=
 ⟨h.le,h.pk,h.v,⟨_,by show hk _ _ _ (σ.ns++[_]).length _ _;rw[dv];exact aP,he.app (x:=r7) ⟨_,_,_,_,_,_,rfl,⟨3,.nil⟩,⟨3,.nil⟩,⟨3,.nil⟩⟩ rfl⟩,h.i,h.uH⟩
theorem js.GH{J:aI}{σ:eb}{a:Nat}{l:List Int}{fp fm e8:Value}{ah gl bh:aO}(h:js J σ a l fp fm e8 ah gl bh):(∃b c,fp=.slice b σ.vs.length c/\addrEq b b=true)/\(∃b c,fm=.slice b σ.ns.length c/\addrEq b b=true)/\∃b c,e8=.slice b σ.is.length c/\addrEq b b=true:=by
 obtain⟨gJ,aa,_⟩:=h.v;obtain⟨aQ,ae,_⟩:=h.n;obtain⟨ci,aG,_⟩:=h.i;exact⟨aa.iJ,ae.iJ,aG.iJ⟩
section
variable {Q:dI Tryz.prog}{g0:Nat}{J:aI}{am ad:Nat}{lv fp fm e8:Value}{ah gl bh:aO}{aY hq:Int}{s:Bool}{pl:Nat}{c1:Option Addr}{cl a:Nat}{l:List Int}{σ:eb}
abbrev iV(am ad:Nat)(lv:Value)(aY:Int)(s:Bool)(pl:Nat)(c1:Option Addr)(cl:Nat)(l:List Int)(hq:Int)(a:Nat)(fp fm e8:Value)(ah gl bh:aO):aO:=
 (am,.row (vQ ad lv fp aY hq false s pl fm e8) 85)::j3 ad c1 cl l a::(ah++(gl++bh))
theorem Xe{n:Int}(av:dG J (.slice c1 l.length cl) l)(hE:l.length<=1000000)(h:js J σ a l fp fm e8 ah gl bh)(hm:n<=4611686018427387904):
 Fn (bb Q g0) 30 [.pointer (some ⟨ad,0,none⟩),.int .i64 n] (iV am ad lv aY s pl c1 cl l hq a fp fm e8 ah gl bh) J (fun u m' ag=>J=ag/\u=.int .i64 (eh σ.l n)/\m'=iV am ad lv aY s pl c1 cl l hq (kK l a n) fp fm e8 ah gl bh):=by
 refine((BW av hE h.le hm).frame (bh:=[j3 ad c1 cl l a]) (bW:=(am,_)::(ah++(gl++bh))) (List.Perm.swap _ _ _)).perm ?_;rintro v m' ag ⟨_,m2,rfl,rfl,rfl,rfl⟩;exact⟨_,List.Perm.swap _ _ _,rfl,by rw[h.pk],rfl⟩
theorem X5{α:Type}{x y:α}{u v w:List α}:(y::x::v++(u++w)).Perm (x::y::(u++(v++w))):=by
 refine(List.Perm.swap _ _ _).trans (List.Perm.cons _ (List.Perm.cons _ ?_));show(v++(u++w)).Perm _;rw[<-gH,<-gH];exact List.perm_append_comm.append_right w
theorem Qi{at_:Nat}(av:dG J (.slice c1 l.length cl) l)(hE:l.length<=1000000)(h:js J σ a l fp fm e8 ah gl bh)(dO:pl<=100)(fJ:at_<σ.ns.length)(cr:σ.ns.length<=100000):
 Fn (bb Q g0) 50 [.pointer (some ⟨am,0,none⟩),.int .i64 (at_:Int)] (iV am ad lv aY s pl c1 cl l hq a fp fm e8 ah gl bh) J (fun u m' ag=>J.le ag/\∃bY sM,m'=iV am ad lv aY s pl c1 cl l hq bY fp fm e8 ah sM bh/\js ag (vn pl at_ σ) bY l fp fm e8 ah sM bh):=by
 obtain⟨aQ,aP,tT⟩:=h.n;obtain⟨bR,fn,rn,rfl,rfl,qg,aC⟩:=aP.row (by omega);subst qg;refine((akw (am:=am) (s:=s) (fp:=fp) (e8:=e8) (hq:=hq) (aY:=aY) (lv:=lv) (rn:=rn) av hE h.le dO tT aC fJ cr).frame (bW:=ah++bh) (X5 (v:=[(bR,cK.opn fn 45 rn 0)]))).perm ?_;rintro v m' ag ⟨_,m2,rfl,hle,bY,AV,LO,rfl,Kq,xC,iK,oQ⟩;refine⟨_,?_,hle,bY,[(bR,cK.opn AV 45 LO 0)],rfl,?_⟩
 ·refine List.Perm.trans ?_ (X5 (v:=[(bR,cK.opn AV 45 LO 0)]))
  exact hR (l₁:=[(bR,_)]) (l₂:=[_,_]) |>.append_right _
 ·have hm:=h.mono hle
  refine⟨Kq,by show(og pl σ.l).2=_;rw[xC,h.pk],hm.v,⟨AV.take (σ.ns.length*6),?_,?_⟩,hm.i,hm.uH⟩
  ·show hk _ _ _ (σ.ns.set _ _).length _ _
   rw[gu];exact hk.of (by omega)
  ·show hr _ _ _ (σ.ns.set _ _)
   rw[h.pk];exact oQ
theorem X6{α:Type}{u v w:List α}:((u++w)++v).Perm (u++(v++w)):=by
 rw[gH];exact List.perm_append_comm.append_left u
open Classical in
theorem akz{p:en}{L:Nat}{b:Option Addr}{c:Nat}{seen:List Int}(av:dG J (.slice c1 l.length cl) l)(hE:l.length<=1000000)(h:js J σ a l fp fm e8 ah gl bh)(lF:σ.is.length=σ.vs.length)(xG:σ.vs.length<=100000)(af:dG J (.slice b seen.length c) seen)(kN:seen.length<=1000):
 Fn (bb Q g0) 51 [.pointer (some ⟨am,0,none⟩),.int .i64 p.b3,.int .i64 (L:Int),.slice b seen.length c] (iV am ad lv aY s pl c1 cl l hq a fp fm e8 ah gl bh) J (fun u m' ag=>J=ag/\u=.int .i64 ((eC p L seen σ).2:Int)/\∃bY o7 o0 vR ur,m'=iV am ad lv aY s pl c1 cl l hq bY o7 fm o0 vR gl ur/\js J (eC p L seen σ).1 bY l o7 fm o0 vR gl ur):=by
 obtain⟨gJ,az,tV⟩:=h.v;obtain⟨ci,ao,vB⟩:=h.i;refine((aeO (am:=am) (ad:=ad) (fm:=fm) (hq:=hq) (aY:=aY) (z:=false) (s:=s) (pl:=pl) (lv:=lv) (b3:=p.b3) (L:=L) av hE h.le az tV ao vB lF xG af (fun x U=>by have:=h.uH x U;omega)).frame (bW:=gl) ?_).perm ?_
 ·exact List.Perm.cons _ (List.Perm.cons _ X6)
 ·rintro v m' ag ⟨_,m2,rfl,rfl,o7,o0,vR,ur,Nj,M8,bY,kD,H2,k,rfl,aw,Kq,vN,Vw,hi',OE,ay⟩
  refine⟨_,(aw.append_right gl).trans (List.Perm.cons _ (List.Perm.cons _ X6)),rfl,?_⟩;rcases ay with⟨aC,rfl,rfl,rfl⟩|⟨aC,rfl,rfl,rfl,rfl⟩
  ·have e:eC p L seen σ=(σ,k):=by unfold eC;rw[aC]
   rw[e];exact⟨rfl,_,_,_,_,_,rfl,Kq,h.pk,⟨_,vN,Vw⟩,h.n,⟨_,hi',OE⟩,h.uH⟩
  ·have e:eC p L seen σ=({σ with l:=fX σ.l 3,vs:=σ.vs++[⟨p.b3,L,seen⟩],is:=σ.is++[(p.b3,1+eh σ.l 3)]},σ.vs.length):=by unfold eC;rw[aC]
   rw[e];refine⟨rfl,_,_,_,_,_,rfl,Kq,by show fX σ.l 3=_;rw[h.pk,yH],⟨_,vN,Vw⟩,h.n,⟨_,by rw[<-h.pk] at hi';exact hi',by rw[<-h.pk] at OE;exact OE⟩,fun x U=>?_⟩;rcases kX.1 U with q|q
   ·exact h.uH x q
   ·simp at q;subst q;exact kN
end
end
end Go.Opn
namespace Go.Opn
noncomputable section
def fF (seen:List (List Int))(σ:eb):eb:={kS seen σ with l:=fX σ.l 8}
open Classical in
def hh (p:en)(L:Nat)(seen:List (List Int))(σ:eb):eb:=if p.b3<0 then fF seen σ else(eC p L (e' p seen) (fF seen σ)).1
open Classical in
def oZ (p:en)(L:Nat)(seen:List (List Int))(σ:eb):Nat:=if p.b3<0 then 0 else(eC p L (e' p seen) (fF seen σ)).2
open Classical in
def iU (p:en)(L:Nat)(seen:List (List Int))(σ:eb):Int:=if p.b3<0 then p.many else r4 (eC p L (e' p seen) (fF seen σ)).2 (eC p L (e' p seen) (fF seen σ)).1
def sO (p:en)(L:Nat)(seen:List (List Int))(σ:eb)(ak ws:List Int):cS:=if p.b3<0 then⟨1,0,0,ak,ws,[]⟩ else⟨2,p.b3,(oZ p L seen σ:Int),ak,ws,[]⟩
open Classical in
theorem wJ{most:Int}{pl:Nat}{p:en}{lv:List en}{L:Nat}{seen:List (List Int)}{σ:eb}:lR most pl (p::lv) L seen σ=
 if eh σ.l 8=1 then vn pl σ.ns.length (fF seen σ) else
 if most<(σ.ns.length:Int)+1+(hh p L seen σ).cG+iU p L seen σ then vn pl σ.ns.length (jf (oZ p L seen σ) p.b3 (hh p L seen σ)) else
 let r:=kids (lR most pl lv (L+1)) p seen (iU p L seen σ).toNat 0 {hh p L seen σ with cG:=(hh p L seen σ).cG+iU p L seen σ} [] []
 {r.1 with ns:=r.1.ns.set σ.ns.length (sO p L seen σ r.2.1 r.2.2)}:=by
 show(if eh σ.l 8=1 then _ else if p.b3<0 then _ else _)=_;by_cases aa:eh σ.l 8=1
 ·rw[aE aa,aE aa];rfl
 ·rw[ap aa,ap aa];by_cases ae:p.b3<0
  ·rw[aE ae];have aN:hh p L seen σ=fF seen σ:=by unfold hh;rw[aE ae]
   have bn:iU p L seen σ=p.many:=by unfold iU;rw[aE ae]
   have cP:∀a b,sO p L seen σ a b=⟨1,0,0,a,b,[]⟩:=fun a b=>by unfold sO;rw[aE ae]
   have eW:jf (oZ p L seen σ) p.b3 (fF seen σ)=fF seen σ:=by unfold jf;rw[aE (.inl ae)]
   rw[aN,bn,eW];simp only[cP];rfl
  ·rw[ap ae];have aN:hh p L seen σ=(eC p L (e' p seen) (fF seen σ)).1:=by unfold hh;rw[ap ae]
   have bn:iU p L seen σ=r4 (eC p L (e' p seen) (fF seen σ)).2 (eC p L (e' p seen) (fF seen σ)).1:=by unfold iU;rw[ap ae]
   have cv:oZ p L seen σ=(eC p L (e' p seen) (fF seen σ)).2:=by unfold oZ;rw[ap ae]
   have cP:∀a b,sO p L seen σ a b=⟨2,p.b3,((eC p L (e' p seen) (fF seen σ)).2:Int),a,b,[]⟩:=fun a b=>by unfold sO;rw[ap ae,cv]
   rw[aN,bn,cv];simp only[cP];rfl
open Classical in
theorem anJ{most:Int}{L:Nat}{σ:eb}{p:en}{seen:List (List Int)}(e2:jK most L σ)(VT:2<=p.many)(KJ:p.many<=3):
 (hh p L seen σ).ns=σ.ns++[r7]/\(hh p L seen σ).cG=σ.cG -1/\1<=iU p L seen σ/\iU p L seen σ<=3/\jK most (L+1) (hh p L seen σ)/\(¬most<(σ.ns.length:Int)+1+(hh p L seen σ).cG+iU p L seen σ->jK most (L+1) {hh p L seen σ with cG:=(hh p L seen σ).cG+iU p L seen σ})/\
 (0<=p.b3->∃y,(hh p L seen σ).is[oZ p L seen σ]?=some y/\y.2=iU p L seen σ):=by
 by_cases ae:p.b3<0
 ·have aN:hh p L seen σ=fF seen σ:=by unfold hh;rw[aE ae]
  have bn:iU p L seen σ=p.many:=by unfold iU;rw[aE ae]
  rw[aN,bn];have af:=e2.sum;refine⟨rfl,rfl,by omega,by omega,Cn e2 rfl rfl (.inl ⟨rfl,rfl⟩) (by show _+(σ.cG -1)<=_;omega),fun q=>Cn e2 rfl rfl (.inl ⟨rfl,rfl⟩) (by show _+(σ.cG -1+p.many)<=_;have q:¬most<(σ.ns.length:Int)+1+(σ.cG -1)+p.many:=q;omega),fun q=>by omega⟩
 ·have aN:hh p L seen σ=(eC p L (e' p seen) (fF seen σ)).1:=by unfold hh;rw[ap ae]
  have bn:iU p L seen σ=r4 (eC p L (e' p seen) (fF seen σ)).2 (eC p L (e' p seen) (fF seen σ)).1:=by unfold iU;rw[ap ae]
  have cv:oZ p L seen σ=(eC p L (e' p seen) (fF seen σ)).2:=by unfold oZ;rw[ap ae]
  rw[aN,bn,cv];have af:=e2.sum
  obtain⟨v1,v2,v3,v4,v5,v6⟩:(eC p L (e' p seen) (fF seen σ)).1.ns=σ.ns++[r7]/\(eC p L (e' p seen) (fF seen σ)).1.bR=σ.bR++[seen]/\(eC p L (e' p seen) (fF seen σ)).1.cG=σ.cG -1/\
   (((eC p L (e' p seen) (fF seen σ)).1.vs=σ.vs/\(eC p L (e' p seen) (fF seen σ)).1.is=σ.is)\/∃v y,(eC p L (e' p seen) (fF seen σ)).1.vs=σ.vs++[v]/\(eC p L (e' p seen) (fF seen σ)).1.is=σ.is++[y]/\v.level=L/\y.1=v.b3/\1<=y.2/\y.2<=3)/\
   (∃v,(eC p L (e' p seen) (fF seen σ)).1.vs[(eC p L (e' p seen) (fF seen σ)).2]?=some v)/\
   ∃y,(eC p L (e' p seen) (fF seen σ)).1.is[(eC p L (e' p seen) (fF seen σ)).2]?=some y/\y.2=r4 (eC p L (e' p seen) (fF seen σ)).2 (eC p L (e' p seen) (fF seen σ)).1:=by
   unfold eC;cases aC:kq ⟨p.b3,L,e' p seen⟩ (fF seen σ).vs 0 with
   |some k=>
    simp only
    obtain⟨_,a6⟩:=GC aC;rw[Au] at a6;have aU:k<σ.is.length:=by rw[e2.is];exact eT a6
    have ai:=de aU;refine⟨rfl,rfl,rfl,.inl ⟨rfl,rfl⟩,⟨_,a6⟩,⟨_,ai,?_⟩⟩;unfold r4;rw[show(fF seen σ).is[k]?=_ from ai]
   |none=>
    simp only
    have ay:=pB (l:=(fF seen σ).l) (n:=3) (by omega);refine⟨rfl,rfl,rfl,.inr ⟨_,_,rfl,rfl,rfl,rfl,by show 1<=1+eh (fF seen σ).l 3;omega,by show 1+eh (fF seen σ).l 3<=3;omega⟩,⟨_,qb⟩,?_⟩;have av:((fF seen σ).is++[(p.b3,1+eh (fF seen σ).l 3)])[(fF seen σ).vs.length]?=some (p.b3,1+eh (fF seen σ).l 3):=by
     rw[show(fF seen σ).vs.length=(fF seen σ).is.length from e2.is.symm,qb]
    refine⟨_,av,?_⟩;unfold r4;rw[av]
  have di:jK most (L+1) (eC p L (e' p seen) (fF seen σ)).1:=Cn e2 v1 v2 v4 (by rw[v3];omega);obtain⟨v,az⟩:=v5;obtain⟨y,ai,sI⟩:=v6;have dt:=di.ok _ v y az ai;refine⟨v1,v3,by rw[<-sI];exact dt.2.1,by rw[<-sI];exact dt.2.2,di,fun q=>?_,fun _=>⟨y,ai,sI⟩⟩;refine Cn e2 v1 v2 v4 ?_;show(σ.ns.length:Int)+1+((eC p L (e' p seen) (fF seen σ)).1.cG+r4 _ _)<=most;omega
def qv (p:en)(σ:eb):eb:=if p.b3<0 then{σ with l:=fX σ.l 3} else σ
def qw (p:en)(σ:eb)(ws:List Int):List Int:=if p.b3<0 then ws++[1+eh σ.l 3] else ws
theorem aj7{rec:List (List Int)->eb->eb}{p:en}{seen:List (List Int)}{k i:Nat}{σ:eb}{ak ws:List Int}:kids rec p seen (k+1) i σ ak ws=kids rec p seen k (i+1) (rec (kA p i seen) (qv p σ)) (ak++[(σ.ns.length:Int)]) (qw p σ ws):=by
 show(if p.b3<0 then _ else _)=_;unfold qv qw;by_cases h:p.b3<0
 ·rw[aE h,aE h,aE h]
 ·rw[ap h,ap h,ap h]
theorem aj5{most:Int}{L:Nat}{σ:eb}{p:en}(h:jK most L σ):jK most L (qv p σ)/\(qv p σ).cG=σ.cG/\(qv p σ).ns=σ.ns:=by
 unfold qv;split
 ·exact⟨h.l _,rfl,rfl⟩
 ·exact⟨h,rfl,rfl⟩
theorem ak1{p:en}{i q:Nat}{seen:List (List Int)}{s:List Int}(h:seen[q]?=some s):(kA p i seen).take (q+1)=(kA p i seen).take q++[s++[rL p i q]]:=by
 have:(kA p i seen)[q]?=some (s++[rL p i q]):=by unfold kA;rw[aaD,h];rfl
 rw[nS,this];rfl
end
end Go.Opn
namespace Go.Opn
noncomputable section
open Go.Cre Go.RowKit Go.Proofs
section
variable {Q:dI Tryz.prog}{g0:Nat}{J:aI}{am ad:Nat}{lv fp fm e8:Value}{ah gl bh:aO}{aY hq:Int}{s:Bool}{pl:Nat}{c1:Option Addr}{cl a:Nat}{l:List Int}{σ:eb}
theorem adS{info b3:Int}{z:Bool}(aw:b3<0)(m0:aO):
 Fn (bb Q g0) 52 [.pointer (some ⟨am,0,none⟩),.int .i64 info,.int .i64 b3] m0 J (fun u m' ag=>J=ag/\m'=m0):=by
 refine Fn.cH (cQ Tryz.func52) rfl rfl fun H=>?_;refine rg ?_;refine I V.ah ?_;refine I V.a1 ?_;refine I V.ah ?_;refine dq 9 (fun NW=>?_) fun NW=>?_
 ·refine al ?_;refine al ?_;refine al ?_;refine al ?_;refine al ?_;refine al ?_;refine al ?_;refine al ?_;refine al ?_;refine I V.aV ?_;refine ns ?_;refine ab.Nd rfl ?_;refine aj ?_;refine ab.ret ?_;refine'⟨.inr rfl,rfl,_,_,.nil,bA _,⟨rfl,rfl⟩⟩
 ·exfalso;omega
theorem aky{info:Nat}{b3:Int}(h:js J σ a l fp fm e8 ah gl bh)(lF:σ.is.length=σ.vs.length)(ao:info<σ.is.length)(aP:0<σ.ns.length)(cr:σ.ns.length<=100000)(oT:σ.is.length<=100000):
 Fn (bb Q g0) 52 [.pointer (some ⟨am,0,none⟩),.int .i64 (info:Int),.int .i64 b3] (iV am ad lv aY s pl c1 cl l hq a fp fm e8 ah gl bh) J (fun u m' ag=>J=ag/\∃o7 o0,m'=iV am ad lv aY s pl c1 cl l hq a o7 fm o0 ah gl bh/\js J (jf (info:Int) b3 σ) a l o7 fm o0 ah gl bh):=by
 obtain⟨gJ,az,tV⟩:=h.v;obtain⟨aQ,ze,tT⟩:=h.n;obtain⟨ci,hi',vB⟩:=h.i;obtain⟨yJ,fv,rv,rfl,rfl,OR,sD⟩:=az.row (by omega);obtain⟨bR,fn,rn,rfl,rfl,qg,xx⟩:=ze.row (by omega);obtain⟨ha,y3,iB,rfl,rfl,OO,KH⟩:=hi'.row (by omega);subst qg;refine((adV (am:=am) (ad:=ad) (lv:=lv) (aY:=aY) (hq:=hq) (z:=false) (s:=s) (pl:=pl) (yJ:=yJ) (bR:=bR) (ha:=ha) (b3:=b3) (info:=(info:Int)) (fv:=fv) (rv:=rv) (y3:=y3) (iB:=iB) (rn:=rn) tT (by omega) lF.symm (by omega) cr oT).frame (bW:=[j3 ad c1 cl l a]) ?_).perm ?_
 ·exact(hR (l₂:=[j3 ad c1 cl l a])).trans (List.Perm.swap _ _ _)
 ·rintro v m' ag ⟨_,m2,rfl,rfl,k,rfl,aU⟩
  refine⟨_,(hR (l₂:=[j3 ad c1 cl l a])).trans (List.Perm.swap _ _ _),rfl,_,_,rfl,?_⟩;by_cases bt:b3<0\/(info:Int)≠(σ.is.length:Int) -1
  ·rw[aE bt] at aU
   have e:jf (info:Int) b3 σ=σ:=by unfold jf;rw[aE bt]
   rw[e,aU,lF];rw[lF] at h;exact h
  ·rw[ap bt] at aU
   by_cases bw:wb (info:Int) σ.ns=true
   ·rw[aE bw] at aU
    have e:jf (info:Int) b3 σ=σ:=by unfold jf;rw[ap bt,aE bw]
    rw[e,aU,lF];rw[lF] at h;exact h
   ·rw[ap bw] at aU
    have e:jf (info:Int) b3 σ={σ with is:=σ.is.take (info:Int).toNat,vs:=σ.vs.take (σ.vs.length -1)}:=by unfold jf;rw[ap bt,ap bw]
    rw[e];have aU:k=info:=by omega
    have lC:info=σ.vs.length -1:=by omega
    subst aU;refine⟨h.le,h.pk,⟨(fv.take (k*4)),?_,?_⟩,h.n,⟨y3.take (k*2),?_,?_⟩,fun x U=>h.uH x (Sk U)⟩
    ·show hk _ _ _ (σ.vs.take _).length _ _
     rw[h1,<-lC,mf (by omega)];exact hk.of (by omega)
    ·have:=tV.take (k:=k) (by omega)
     rw[<-OR,yu,mf (by omega)] at this;rw[<-lC];exact this
    ·show hk _ _ _ (σ.is.take _).length _ _
     rw[h1,cy,mf (by omega)];exact hk.of (by omega)
    ·have:=vB.take (k:=k) (by omega)
     rw[<-OO,yu,mf (by omega)] at this;rw[cy];exact this
end
end
end Go.Opn

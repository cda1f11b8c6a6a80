/- A part of the proof of TableRounds. -/
import Derived.Test.YtfdhclnfkafebaaGreatDoorCav
import Derived.Test.YtfdhclnfkafebaaGreatDoorCal
set_option linter.unusedVariables false
set_option linter.unusedSimpArgs false
namespace Go.Opn
noncomputable section
open Go.Cre Go.RowKit Go.Proofs
section
variable {K:ef}{B:dy}{ops:List Oper}{a':List jP}{F:List uw}{E:cC}{m m':a8}{J:an}{o:Oper}{bF:cC->a8->an->Prop}
variable {n:Nat}{ds:eK}{l:List (Nat×Value)}{d i:Nat}
theorem bc.uo{v:Value}{Aj:Nat}{want:Bool}(ar:nth ops i=some o)(aF:lr ops o=some (Aj,want))(ak:look l Aj=some (.bool want))(aq:o.dst=some d)(aE:Nat.blt d n=true)(az:c5 K B o n ds l m J v)(h:bc K B ops a' F ⟨n,ds,(d,v)::l⟩ m J bF):bc K B ops (.val i::a') F ⟨n,ds,l⟩ m J bF:=by
 intro T S H cB ax aH;obtain⟨bl,s1,s2⟩:=ax.put (dst:=some d) aE v;obtain⟨bt,dr,aP,H',cV,m',ah,ad,af,aV,bq⟩:=h T bl H cB s2 aH;refine⟨bt,dr,aP,H',cV,m',ah,fun fY q=>?_,af,aV,bq⟩;show jN ops i (mN K.P _ _ ops S H (dU K.P _ _ ops a'))=_;unfold jN;rw[ar];show mN K.P _ _ ops S H (dU K.P _ _ ops a') o=_;unfold mN;rw[CH aF (ax.get Aj _ ak),show(want==want)=true by cases want<;>rfl];show D' S H o.dst (dU K.P _ _ ops a') (cL K.P _ _ S H o)=_;rw[az _ _ S H ax aH,aq];show(bif Nat.beq H.aG H.aG then pR (dU K.P _ _ ops a') H (S.put (some d) v) else none)=_;rw[hY,cv,s1];exact ad fY q
theorem bc.adm{c:Call}{x:Operand}{f:FuncId}{first cap:Array Value}{Aj:Nat}{want:Bool}{args al:List Value}{ek:Value->a8->an->Prop}
 (ar:nth ops i=some o)(aF:lr ops o=some (Aj,want))(ak:look l Aj=some (.bool want))(aj:o.op=.call c)(aq:o.dst=some d)(aE:Nat.blt d n=true)(aJ:c.callee=.value x)(ab:bT l x=some (.func (.func f) first cap))(aI:ix l c.args.toList=some args)(has:(first.toList++args)++cap.toList=al)
 (ag:∀x∈F,zF J f al ek x)(b4:Fn K f al [] J ek)(h:∀v m' ah,J.le ah->ek v m' ah->bc K B ops a' (⟨f,al,[],J,ek,false⟩::F) ⟨n,ds,(d,v)::l⟩ (m'++m) ah bF):bc K B ops (.bR i::a') F ⟨n,ds,l⟩ m J bF:=by
 intro T S H cB ax aH;have ap:([]++m).Perm m:=.refl _;have fS:=aH.enter (cj:=[]) ap trivial;obtain⟨v,H',ah,m',a7,a0,bJ,kx⟩:∃v H' ah m',kS K.Q f al H (.returned v) H'/\Inv K.g0 (ky [] H J) ah m' H'/\ek v m' ah/\∀r,T f al H=some r->r=(Ending.returned v,H'):=by
  cases wO:T f al H with
  |none=>
   obtain⟨v,H',ah,m',a7,a0,bJ⟩:=b4 H fS;exact⟨v,H',ah,m',a7,a0,bJ,fun r q=>by cases q⟩
  |some r=>
   obtain⟨x,ab,⟨aC,aW,Ok,v,H',bK,m',nZ,a7,a0,bJ⟩,mF⟩:=cB _ _ _ _ wO;obtain⟨aX,aU,b0⟩:=ag x ab aC aW;rw[aX] at a0;obtain⟨GQ,GR⟩:=fS.W4 aU a0;exact⟨v,H',_,m',a7,GQ,b0 v m' bK _ bJ GR an.join_le,fun cW q=>by injection q with q;rw[<-q];exact nZ⟩
 have ly:H.aG<=H'.aG:=a0.aG;obtain⟨cO,gj⟩:=aH.leave ap a0;obtain⟨bl,s1,s2⟩:=ax.put (dst:=some d) aE v
 classical
 obtain⟨bt,dr,aP,p2,cV,ru,qR,ad,af,aV,bq⟩:=h v m' ah gj bJ (fun f' zZ H1=>if f'=f/\zZ=al/\H1=H then some (.returned v,H') else T f' zZ H1) bl H' (fun f' zZ H1 r q=>by
  split at q
  ·rename_i e;obtain⟨rfl,rfl,rfl⟩:=e;injection q with q
   exact⟨_,.head _,⟨rfl,rfl,fS,v,H',ah,m',q.symm,a7,a0,bJ⟩,fun e=>by cases e⟩
  ·obtain⟨x,ab,cW,w4⟩:=cB _ _ _ _ q;exact⟨x,.tail _ ab,cW,fun e=>iJ (w4 e) ly⟩) s2 cO
 refine⟨fun f' cq H1=>if f'=f/\cq=al/\H1=H then some (.returned v,H') else bt f' cq H1,fun f' cq H1 r cW aX aU=>?_,aP,p2,cV,ru,qR,fun fY q=>?_,af,aV,bq⟩
 ·dsimp only at aU
  split at aU
  ·rename_i e;obtain⟨rfl,rfl,rfl⟩:=e;injection aU with aU
   rw[kx r aX,aU]
  ·rename_i e;exact dr f' cq H1 r cW (by rw[bd e];exact aX) aU
 ·have ih:fY f al H=some (.returned v,H'):=q f al H _ (by simp only[and_self,bj]);have AM:∀f' cq H1 r,bt f' cq H1=some r->fY f' cq H1=some r:=fun f' cq H1 r av=>by
   by_cases e:f'=f/\cq=al/\H1=H
   ·have:=dr f' cq H1 (.returned v,H') r (by rw[bj e]) av;rw[this,e.1,e.2.1,e.2.2];exact ih
   ·exact q f' cq H1 r (by dsimp only;rw[bd e];exact av)
  show jN ops i (fun o=>kG (dU K.P _ _ ops a') (one K.P _ _ ops S H o))=_;unfold jN;rw[ar];show kG (dU K.P _ _ ops a') (one K.P _ _ ops S H o)=_;unfold one;rw[CH aF (ax.get Aj _ ak),show(want==want)=true by cases want<;>rfl];show kG (dU K.P _ _ ops a') (qE S H o.dst (cL K.P _ _ S H o))=_;have he:cL K.P (iO K.Q fY) (hO K.Q il fY).aQ S H o=some (.val v H'):=by
   unfold cL e3;simp only[aj];show k9 K.P _ c=_;unfold k9;rw[aJ];show n0 K.P _ _ S.T H c=_;unfold n0;rw[oG ax H aI];simp only[aJ];rw[dg ax H ab];simp only
   show(match kY K.P H (.func f) (first.toList++args) cap.toList with|some (f,al)=>pk (iO K.Q _ f al H)|none=>none)=_
   unfold kY;simp only
   rw[has,Cl a7 ih];rfl
  rw[he,aq];show kG (dU K.P _ _ ops a') (ot H' (S.put (some d) v))=_;rw[s1];exact ad fY AM
theorem bc.aoe{b:Bool}(ak:look l d=some (.bool b))(ad:b=true->bc K B ops a' F ⟨n,ds,(d,.bool true)::l⟩ m J bF)(aO:b=false->bc K B ops a' F ⟨n,ds,(d,.bool false)::l⟩ m J bF):bc K B ops a' F ⟨n,ds,l⟩ m J bF:=by
 intro T S H cB ax aH;have key:∀c:Bool,b=c->Sat ⟨n,ds,(d,.bool c)::l⟩ S:=fun c e=>by
  subst e;refine⟨ax.n,ax.ds,ax.cb,ax.bE,ax.cP,ax.has,fun t v q=>?_⟩;have aU:(bif Nat.beq t d then some (Value.bool b) else look l t)=some v:=q;cases bS:Nat.beq t d with
  |true=>rw[bS,cv] at aU;obtain rfl:=eC bS;rw[<-aU];exact ax.get _ _ ak
  |false=>rw[bS,dB] at aU;exact ax.get t v aU
 cases b with
 |true=>exact ad rfl T S H cB (key true rfl) aH
 |false=>exact aO rfl T S H cB (key false rfl) aH
theorem bc.LR(ar:nth ops i=some o)(e4:∀S,Sat ⟨n,ds,l⟩ S->gp ops S.T o=some false)(aq:o.dst=some d)(aE:Nat.blt d n=true)(h:bc K B ops a' F ⟨n,ds,(d,undef)::l⟩ m J bF):bc K B ops (.val i::a') F ⟨n,ds,l⟩ m J bF:=by
 intro T S H cB ax aH;obtain⟨bl,s1,s2⟩:=ax.put (dst:=some d) aE undef;obtain⟨bt,dr,aP,H',cV,m',ah,ad,af,aV,bq⟩:=h T bl H cB s2 aH;refine⟨bt,dr,aP,H',cV,m',ah,fun fY q=>?_,af,aV,bq⟩;show jN ops i (mN K.P _ _ ops S H (dU K.P _ _ ops a'))=_;unfold jN;rw[ar];show mN K.P _ _ ops S H (dU K.P _ _ ops a') o=_;unfold mN;rw[e4 S ax];show pR (dU K.P _ _ ops a') H (S.put o.dst undef)=_;rw[aq,s1];exact ad fY q
theorem bc.adu(ar:nth ops i=some o)(e4:∀S,Sat ⟨n,ds,l⟩ S->gp ops S.T o=some false)(aq:o.dst=some d)(aE:Nat.blt d n=true)(h:bc K B ops a' F ⟨n,ds,(d,undef)::l⟩ m J bF):bc K B ops (.bR i::a') F ⟨n,ds,l⟩ m J bF:=by
 intro T S H cB ax aH;obtain⟨bl,s1,s2⟩:=ax.put (dst:=some d) aE undef;obtain⟨bt,dr,aP,H',cV,m',ah,ad,af,aV,bq⟩:=h T bl H cB s2 aH;refine⟨bt,dr,aP,H',cV,m',ah,fun fY q=>?_,af,aV,bq⟩;show jN ops i (fun o=>kG (dU K.P _ _ ops a') (one K.P _ _ ops S H o))=_;unfold jN;rw[ar];show kG (dU K.P _ _ ops a') (one K.P _ _ ops S H o)=_;unfold one;rw[e4 S ax];show kG (dU K.P _ _ ops a') (ot H (S.put o.dst undef))=_;rw[aq,s1];exact ad fY q
theorem bc.rN{g:Nat}{want b:Bool}(ar:nth ops i=some o)(aF:lr ops o=some (g,want))(ak:look l g=some (.bool b))(hw:(b==want)=false)(aq:o.dst=some d)(aE:Nat.blt d n=true)(h:bc K B ops a' F ⟨n,ds,(d,undef)::l⟩ m J bF):bc K B ops (.val i::a') F ⟨n,ds,l⟩ m J bF:=bc.LR ar (NZ aF ak hw) aq aE h
theorem bc.ads{g:Nat}{want b:Bool}(ar:nth ops i=some o)(aF:lr ops o=some (g,want))(ak:look l g=some (.bool b))(hw:(b==want)=false)(aq:o.dst=some d)(aE:Nat.blt d n=true)(h:bc K B ops a' F ⟨n,ds,(d,undef)::l⟩ m J bF):bc K B ops (.bR i::a') F ⟨n,ds,l⟩ m J bF:=bc.adu ar (NZ aF ak hw) aq aE h
theorem bc.nil(h:bF E m J):bc K B ops [] F E m J bF:=bc.iQ (F':=F.map fun x=>(x.f,x.b2)) (fun x ab=>iV (f:=fun x=>(x.f,x.b2)) ab) (bp.nil h)
theorem aa'(d:Nat){b:Bool}{dr jw:Prop}(ad:dr->bc K B ops a' F ⟨n,ds,(d,.bool true)::l⟩ m J bF)(aO:jw->bc K B ops a' F ⟨n,ds,(d,.bool false)::l⟩ m J bF)(ak:look l d=some (.bool b):=by exact rfl) (ag:oD b dr jw:=by first|exact oD.p _|exact oD.b _):bc K B ops a' F ⟨n,ds,l⟩ m J bF:=bc.aoe ak (fun q=>ad (ag.y q)) (fun q=>aO (ag.n q))
end
end
end Go.Opn
set_option maxRecDepth 100000
set_option maxHeartbeats 8000000
namespace Go.Opn
noncomputable section
open Go.Cre Go.RowKit Go.Proofs
def jr(d:Nat):Nat:=if d=1 then 0 else d
structure fZ (J:an) (r:cE) (v1 v2:Value):Prop where
 n:cx J v1 r.z.natAbs
 d:cx J v2 (jr r.d)
theorem fZ.mono{J ah:an}(hle:J.le ah){r:cE}{v1 v2:Value}(h:fZ J r v1 v2):fZ ah r v1 v2:=⟨h.n.mono hle,h.d.mono hle⟩
abbrev qj(r:cE)(v1 v2:Value):List Value:=[.bool (decide (r.z<0)),v1,v2]
abbrev c8(r:cE)(v1 v2:Value):Value:=.agg #[.bool (decide (r.z<0)),v1,v2]
abbrev p8(J:an)(r:cE):Value->a8->an->Prop:=fun u m' ah=>J.le ah/\m'=[]/\∃v1 v2,u=c8 r v1 v2/\fZ ah r v1 v2
theorem Nf{r:cE}(h:r.g4)(aL:r.z=0):r.d=1:=by
 have:=h.2;rw[aL] at this;exact(Mo r.d).symm.trans this
section
variable {Q:dD Tryz.prog}{g0:Nat}{J:an}
theorem G4{r:cE}{v w:Value}{neg:Bool}(ad:cx J v r.z.natAbs)(af:cx J w r.d)(aE:r.z≠0->neg=decide (r.z<0))(aL:r.z=0->r.d=1)(aq:r.d≠0)(cI:(aR r.d).length<=100000):Fn (a1 Q g0) 75 [.bool neg,v,w] [] J (p8 J r):=by
 have ku:=ad;have jW:=af;obtain⟨bQ,dv,bH,rfl,aX,h6,gN⟩:=ad.b6;obtain⟨bL,dV,bM,rfl,aU,l1,gO⟩:=af.b6;refine Fn.cr (cu Tryz.func75) rfl rfl fun H=>?_;refine rg ?_;refine' W.step rfl (.of (gx rfl rfl rfl (nh Q g0) rfl rfl rfl fun e6=>?_));refine a2 ?_;refine al ?_;refine U V.bb ?_;refine aA ?_;refine If (fun fp=>?_) fun fp=>?_
 ·refine rg ?_;refine U V.kW ?_;refine e9 ?_;refine aA ?_;refine ae.ret ?_;refine'⟨.inr rfl,rfl,_,[],.cell rfl (by repeat first|exact .head _|refine .tail _ ?_|refine eF _ ?_) (fA (dm rfl) rfl) (.nil),br _,?_⟩;first
   |(have e1:r.z=0:=ox.1 (h6.z I)
     exact⟨an.le.refl _,rfl,.slice none 0 0,.slice none 0 0,by rw[show c8 r (.slice none 0 0) (.slice none 0 0)=.agg #[.bool (decide (r.z<0)),.slice none 0 0,.slice none 0 0] from rfl,e1];rfl,by rw[e1];exact cx.nil,by unfold jr;rw[bj (aL e1)];exact cx.nil⟩)
 ·refine ao ?_;refine ae.skip ?_;refine rg ?_;refine U V.ay ?_;refine bN (G:=Du jW cI) (h:=?_);rintro v' m' ah hle ⟨rfl,rfl,rfl⟩;refine aA ?_;refine If (fun jn=>?_) fun jn=>?_
  ·refine rg ?_;refine U V.au ?_;refine a2 ?_;refine al ?_;refine e9 ?_;refine aA ?_;refine ae.ret ?_;refine'⟨.inr rfl,rfl,_,[],.cell rfl (by repeat first|exact .head _|refine .tail _ ?_|refine eF _ ?_) (fA (dm rfl) rfl) (.nil),br _,?_⟩;first
    |(have c:=jn
      have e1:r.z≠0:=fun q=>fp (by have:=h6.ir (by rw[q];rfl);omega);first
          |exact⟨an.le.refl _,rfl,_,_,by rw[aE e1];rfl,ku,by unfold jr;rw[bj c];exact cx.nil⟩
          |exact⟨an.le.refl _,rfl,_,_,by rw[aE e1];rfl,ku,by unfold jr;rw[bd c];exact jW⟩)
    |(have e1:r.z=0:=ox.1 (h6.z I)
      exact⟨an.le.refl _,rfl,.slice none 0 0,.slice none 0 0,by rw[show c8 r (.slice none 0 0) (.slice none 0 0)=.agg #[.bool (decide (r.z<0)),.slice none 0 0,.slice none 0 0] from rfl,e1];rfl,by rw[e1];exact cx.nil,by unfold jr;rw[bj (aL e1)];exact cx.nil⟩)
  ·refine ao ?_;refine ae.skip ?_;refine rg ?_;refine al ?_;refine e9 ?_;refine aA ?_;refine ae.ret ?_;refine'⟨.inr rfl,rfl,_,[],.cell rfl (by repeat first|exact .head _|refine .tail _ ?_|refine eF _ ?_) (fA (dm rfl) rfl) (.nil),br _,?_⟩;first
    |(have c:=jn
      have e1:r.z≠0:=fun q=>fp (by have:=h6.ir (by rw[q];rfl);omega);first
          |exact⟨an.le.refl _,rfl,_,_,by rw[aE e1];rfl,ku,by unfold jr;rw[bj c];exact cx.nil⟩
          |exact⟨an.le.refl _,rfl,_,_,by rw[aE e1];rfl,ku,by unfold jr;rw[bd c];exact jW⟩)
    |(have e1:r.z=0:=ox.1 (h6.z I)
      exact⟨an.le.refl _,rfl,.slice none 0 0,.slice none 0 0,by rw[show c8 r (.slice none 0 0) (.slice none 0 0)=.agg #[.bool (decide (r.z<0)),.slice none 0 0,.slice none 0 0] from rfl,e1];rfl,by rw[e1];exact cx.nil,by unfold jr;rw[bj (aL e1)];exact cx.nil⟩)
theorem pe{r:cE}{v1 v2:Value}{neg:Bool}(h:fZ J r v1 v2)(aq:r.d≠0):Fn (a1 Q g0) 72 [.agg #[.bool neg,v1,v2]] [] J (j' J r.d):=by
 have jW:=h.d;obtain⟨bQ,dv,bH,rfl,aX,h6,gN⟩:=h.n.b6;obtain⟨bL,dV,bM,rfl,aU,l1,gO⟩:=h.d.b6;refine Fn.cr (cu Tryz.func72) rfl rfl fun H=>?_;refine rg ?_;refine gU fun bO=>?_;refine U V.au ?_;refine a2 ?_;refine U V.cJ ?_;refine U V.cI ?_;refine U V.h7 ?_;refine U V.bb ?_;refine aA ?_;refine If (fun e7=>?_) fun e7=>?_
 ·refine rg ?_;refine ll (kj Q g0) fun fK=>?_;refine U V.au ?_;refine a3 ?_;refine ae.h9 rfl fun bi=>?_;refine ao ?_;refine ae.ret ?_;refine'⟨.inr rfl,rfl,_,[],.tmp rfl .nil,br _,?_⟩;first
   |(have c:=e7
     first
         |exact⟨bi,rfl,by
             have e:r.d=1:=by
              have p:=l1.z I;unfold jr at p;split at p<;>omega
             rw[e];exact cx.row (n:=1) (l:=[1]) (by rw[s4 bC bC];rfl) (by simp) (by simp) bC (an.g7 _ _ _)⟩
         |exact⟨an.le.refl _,rfl,by
             have e:jr r.d=r.d:=by
              have p:=l1.Q' I;unfold jr at*;split at p
              ·exact absurd rfl p
              ·rename_i q;rw[bd q]
             rw[e] at jW;exact jW⟩)
 ·refine ao ?_;refine ae.skip ?_;refine rg ?_;refine U V.cJ ?_;refine U V.cI ?_;refine U V.au ?_;refine aA ?_;refine ae.ret ?_;refine'⟨.inr rfl,rfl,_,[],.tmp rfl .nil,br _,?_⟩;first
   |(have c:=e7
     first
         |exact⟨bi,rfl,by
             have e:r.d=1:=by
              have p:=l1.z I;unfold jr at p;split at p<;>omega
             rw[e];exact cx.row (n:=1) (l:=[1]) (by rw[s4 bC bC];rfl) (by simp) (by simp) bC (an.g7 _ _ _)⟩
         |exact⟨an.le.refl _,rfl,by
             have e:jr r.d=r.d:=by
              have p:=l1.Q' I;unfold jr at*;split at p
              ·exact absurd rfl p
              ·rename_i q;rw[bd q]
             rw[e] at jW;exact jW⟩)
theorem ale{r:cE}{v1 v2:Value}(h:fZ J r v1 v2):Fn (a1 Q g0) 94 [c8 r v1 v2] [] J (fun u m' ah=>u=c8 ⟨-r.z,r.d⟩ v1 v2/\m'=[]/\J=ah):=by
 obtain⟨bQ,dv,bH,rfl,aX,h6,gN⟩:=h.n.b6;obtain⟨bL,dV,bM,rfl,aU,l1,gO⟩:=h.d.b6;refine Fn.cr (cu Tryz.func94) rfl rfl fun H=>?_;refine rg ?_;refine gU fun bO=>?_;refine' W.step rfl (.of (gx rfl rfl rfl (nh Q g0) rfl rfl rfl fun bA=>?_));refine a2 ?_;refine U V.cJ ?_;refine U V.cI ?_;refine U V.rB ?_;refine U V.ay ?_;refine ft 6 (fun jD=>?_) fun jD=>?_
 ·refine bo V.cJ ?_;refine bo V.cI ?_;refine bo V.h7 ?_;refine bo V.bb ?_;refine U V.bt ?_;refine U V.cJ ?_;refine U V.cI ?_;refine U V.cJ ?_;refine U V.cI ?_;refine U V.kW ?_;refine e9 ?_;refine aA ?_;refine ae.ret ?_;refine'⟨.inr rfl,rfl,_,[],.cell rfl (by repeat first|exact .head _|refine .tail _ ?_|refine eF _ ?_) (fA (dm rfl) rfl) (.nil),br _,?_⟩;first
   |(have c:=jD
     have dr:r.z≠0->0<dv:=fun q=>h6.p (B0.2 q);have hC:r.z=0->dv=0:=fun q=>h6.ir (ox.2 q);refine⟨?_,rfl,rfl⟩;show Value.agg #[.bool _,_,_]=Value.agg #[.bool _,_,_];congr 4
     first
         |(by_cases q:0<r.z
           ·rw[ie (show -r.z<0 by omega)];try (first|(simp;done)|(simp;omega))
           ·rw[fx (show ¬-r.z<0 by omega)];try (first|(simp;done)|(simp;simp at c;omega))))
 ·refine bs ?_;refine bs ?_;refine bs ?_;refine bs ?_;refine U V.bt ?_;refine U V.cJ ?_;refine U V.cI ?_;refine U V.cJ ?_;refine U V.cI ?_;refine U V.kW ?_;refine e9 ?_;refine aA ?_;refine ae.ret ?_;refine'⟨.inr rfl,rfl,_,[],.cell rfl (by repeat first|exact .head _|refine .tail _ ?_|refine eF _ ?_) (fA (dm rfl) rfl) (.nil),br _,?_⟩;first
   |(have c:=jD
     have dr:r.z≠0->0<dv:=fun q=>h6.p (B0.2 q);have hC:r.z=0->dv=0:=fun q=>h6.ir (ox.2 q);refine⟨?_,rfl,rfl⟩;show Value.agg #[.bool _,_,_]=Value.agg #[.bool _,_,_];congr 4
     first
         |(by_cases q:0<r.z
           ·rw[ie (show -r.z<0 by omega)];try (first|(simp;done)|(simp;omega))
           ·rw[fx (show ¬-r.z<0 by omega)];try (first|(simp;done)|(simp;simp at c;omega))))
theorem ab1{r:cE}{v1 v2:Value}(h:fZ J r v1 v2):Fn (a1 Q g0) 61 [c8 r v1 v2] [] J (fun u m' ah=>u=c8 ⟨(r.z.natAbs:Int),r.d⟩ v1 v2/\m'=[]/\J=ah):=by
 obtain⟨bQ,dv,bH,rfl,aX,h6,gN⟩:=h.n.b6;obtain⟨bL,dV,bM,rfl,aU,l1,gO⟩:=h.d.b6;refine Fn.cr (cu Tryz.func61) rfl rfl fun H=>?_;refine rg ?_;refine gU fun bO=>?_;refine' W.step rfl (.of (gx rfl rfl rfl (nh Q g0) rfl rfl rfl fun bA=>?_));refine a2 ?_;refine U V.cJ ?_;refine U V.cI ?_;refine U V.cJ ?_;refine U V.cI ?_;refine U V.kW ?_;refine e9 ?_;refine aA ?_;refine ae.ret ?_;refine'⟨.inr rfl,rfl,_,[],.cell rfl (by repeat first|exact .head _|refine .tail _ ?_|refine eF _ ?_) (fA (dm rfl) rfl) (.nil),br _,⟨by rw[show c8 (⟨(r.z.natAbs:Int),r.d⟩:cE) (.slice bQ dv bH) (.slice bL dV bM)=.agg #[.bool (decide ((r.z.natAbs:Int)<0)),.slice bQ dv bH,.slice bL dV bM] from rfl,fx (show ¬((r.z.natAbs:Int)<0) by omega)];rfl,rfl,rfl⟩⟩
theorem an2{du dt:Int}{X3 X4:Bool}{v w:Value}(aC:X3=decide (du<0))(aW:X4=decide (dt<0))(ad:cx J v du.natAbs)(af:cx J w dt.natAbs)(jf:du≠0)(l9:dt≠0)(dF:(aR du.natAbs).length<=100000)(dq:(aR dt.natAbs).length<=100000):Fn (a1 Q g0) 93 [.bool X3,v,.bool X4,w] [] J (fun u m' ah=>J.le ah/\m'=[]/\∃b w,u=.tuple #[.bool b,w]/\cx ah w (du+dt).natAbs/\(du+dt≠0->b=decide (du+dt<0))):=by
 subst aC;subst aW;have ku:=ad;have jW:=af;obtain⟨bQ,dv,bH,rfl,aX,h6,gN⟩:=ad.b6;obtain⟨bL,dV,bM,rfl,aU,l1,gO⟩:=af.b6;refine Fn.cr (cu Tryz.func93) rfl rfl fun H=>?_;refine rg ?_;refine al ?_;refine a3 ?_;refine eP [0,1,2,3] ?_;refine ao ?_;refine' ae.hf 0 [(12,.bool (decide (((du<0)↔(dt<0)))))] ?m0 ?m2;case m0=>
  refine ae.region ?_;refine al ?_;refine' W.step rfl (Exec.val rfl rfl (um rfl rfl rfl (.inl ⟨rfl,rfl⟩) (by kernel_rfl)) ?_);refine a3 ?_;refine'⟨⟨_,rfl,⟨?ml,rfl,rfl,rfl,rfl,trivial⟩⟩,bx _,rfl⟩;case ml=>first|exact fw rfl (by first|omega|(by_cases a:du<0<;>by_cases b:dt<0<;>simp[a,b]))|exact fu rfl (by first|omega|(by_cases a:du<0<;>by_cases b:dt<0<;>simp[a,b]))|exact fv rfl (by first|omega|(by_cases a:du<0<;>by_cases b:dt<0<;>simp[a,b]))|exact fE rfl (by first|omega|(by_cases a:du<0<;>by_cases b:dt<0<;>simp[a,b]))
 case m2=>
  refine ao ?_;refine If (fun jn=>?_) fun jn=>?_
  ·refine rg ?_;refine al ?_;refine bN (G:=amL ku jW dF dq) (h:=?_);rintro v' m' bK aK ⟨_,rfl,hw⟩;have ob:=hw;obtain⟨cZ,en,db,rfl,b0,_,_⟩:=hw.b6;refine al ?_;refine aA ?_;refine ae.ret ?_;refine'⟨.inr rfl,rfl,_,[],.tmp rfl (.tmp rfl .nil),br _,?_⟩;refine⟨aK,rfl,_,_,rfl,?_,fun aO=>?_⟩
   ·first
        |(rw[show(du+dt).natAbs=du.natAbs+dt.natAbs by omega];exact ob)
        |(rw[show(du+dt).natAbs=dt.natAbs -du.natAbs by omega];exact ob)
        |(rw[show(du+dt).natAbs=du.natAbs -dt.natAbs by omega];exact ob)
   ·first
        |(by_cases a:du<0
          ·rw[ie a,ie I]
          ·rw[fx a,fx I])
        |(by_cases a:dt<0
          ·rw[ie a,ie I]
          ·rw[fx a,fx I])
  ·refine ao ?_;refine ae.skip ?_;refine rg ?_;refine al ?_;refine bN (G:=Fc ku jW dF dq) (h:=?_);rintro v' m' ah hle ⟨rfl,rfl,rfl⟩;refine U V.bb ?_;refine aA ?_;refine If (fun iw=>?_) fun iw=>?_
   ·have cA:=r'.1 iw;refine rg ?_;refine al ?_;refine bN (G:=XU jW ku dq dF I) (h:=?_);rintro v' m' bK aK ⟨_,rfl,hw⟩;have ob:=hw;obtain⟨cZ,en,db,rfl,b0,_,_⟩:=hw.b6;refine al ?_;refine aA ?_;refine ae.ret ?_;refine'⟨.inr rfl,rfl,_,[],.tmp rfl (.tmp rfl .nil),br _,?_⟩;refine⟨aK,rfl,_,_,rfl,?_,fun aO=>?_⟩
    ·first
      |(rw[show(du+dt).natAbs=du.natAbs+dt.natAbs by omega];exact ob)
      |(rw[show(du+dt).natAbs=dt.natAbs -du.natAbs by omega];exact ob)
      |(rw[show(du+dt).natAbs=du.natAbs -dt.natAbs by omega];exact ob)
    ·first
      |(by_cases a:du<0
        ·rw[ie a,ie I]
        ·rw[fx a,fx I])
      |(by_cases a:dt<0
        ·rw[ie a,ie I]
        ·rw[fx a,fx I])
   ·have jZ:=qW fun h=>iw (r'.2 h);refine fy ?_;refine al ?_;refine bN (G:=XU ku jW dF dq jZ) (h:=?_);rintro v' m' bK aK ⟨_,rfl,hw⟩;have ob:=hw;obtain⟨cZ,en,db,rfl,b0,_,_⟩:=hw.b6;refine al ?_;refine aA ?_;refine ae.ret ?_;refine'⟨.inr rfl,rfl,_,[],.tmp rfl (.tmp rfl .nil),br _,?_⟩;refine⟨aK,rfl,_,_,rfl,?_,fun aO=>?_⟩
    ·first
      |(rw[show(du+dt).natAbs=du.natAbs+dt.natAbs by omega];exact ob)
      |(rw[show(du+dt).natAbs=dt.natAbs -du.natAbs by omega];exact ob)
      |(rw[show(du+dt).natAbs=du.natAbs -dt.natAbs by omega];exact ob)
    ·first
      |(by_cases a:du<0
        ·rw[ie a,ie I]
        ·rw[fx a,fx I])
      |(by_cases a:dt<0
        ·rw[ie a,ie I]
        ·rw[fx a,fx I])
end
end
end Go.Opn
namespace Go.Opn
noncomputable section
theorem QW{z:Int}{h:Nat}(ap:0<h)(aq:h ∣ z.natAbs):∃q:Int,z=q*h/\z.natAbs / h=q.natAbs/\(z<0↔q<0)/\(z=0↔q=0):=by
 obtain⟨q,bS⟩:=rU.2 aq;have e:z=q*h:=by rw[bS,kC]
 have ar:(0:Int)<h:=by omega
 refine⟨q,e,?_,?_,?_⟩
 ·rw[e,lc,hP,tc _ ap]
 ·rw[e];constructor
  ·intro k;rcases vX q 0 with j|j
   ·exact j
   ·have:=kT j (uy ar);omega
  ·intro k;exact BX k ar
 ·rw[e];constructor
  ·intro k;rcases Int.mul_eq_zero.1 k with j|j
   ·exact j
   ·omega
  ·intro k;rw[k,x8]
theorem Fm{n g:Nat}(ap:0<g)(aE:0<n)(aq:g ∣ n):∃u,n / g=u/\n=u*g/\0<u/\u<=n:=by
 obtain⟨u,hu⟩:=aq;have oQ:n=u*g:=by rw[hu,dz]
 have aO:0<u:=by
  rcases jj u with k|k
  ·rw[k,j8] at oQ;omega
  ·exact k
 exact⟨u,by rw[oQ,tc _ ap],oQ,aO,by rw[oQ];exact Nat.le_mul_of_pos_right _ ap⟩
structure aaX (r s:cE) (g u v h w:Nat) (t q:Int):Prop where
 g0:0<g
 ck:Nat.gcd r.d s.d=g
 u1:r.d / g=u
 v1:s.d / g=v
 bI:0<u
 v0:0<v
 cm:u<=r.d
 v2:v<=s.d
 t1:t=r.z*v+s.z*u
 aO:0<h
 ad:Nat.gcd t.natAbs g=h
 aX:t.natAbs / h=q.natAbs
 aU:t<0↔q<0
 b0:t=0↔q=0
 bm:s.d / h=w
 w0:0<w
 bW:w<=s.d
 ch:g<=r.d
 ir:t=0->r.z*s.d+s.z*r.d=0
 xK:(⟨q,u*w⟩:cE)=bk (r.z*s.d+s.z*r.d) (r.d*s.d)
theorem ab5{r s:cE}(av:r.g4)(ag:s.g4):∃g u v h w t q,aaX r s g u v h w t q:=by
 have rd:=av.1;have hL:=ag.1;have aF:0<Nat.gcd r.d s.d:=abG _ rd;obtain⟨u,aC,aW,cw,ed⟩:=Fm aF rd (lf _ _);obtain⟨v,f1,f2,f3,f4⟩:=Fm aF hL (nl _ _);have c9:0<Nat.gcd (r.z*v+s.z*u).natAbs (Nat.gcd r.d s.d):=ya _ aF;obtain⟨q,aX,aU,b0,dN⟩:=QW c9 (lf _ _);obtain⟨w,bm,bW,eu,kR⟩:=Fm c9 hL (IT (nl _ _) (nl _ _));refine⟨_,u,v,_,w,_,q,aF,rfl,aC,f1,cw,f3,ed,f4,rfl,c9,rfl,aU,b0,dN,bm,eu,kR,IV rd (lf _ _),fun aO=>?_,aj8 av ag rfl aW f2 rfl rfl aX bW⟩;have:(r.z*v+s.z*u)*(Nat.gcd r.d s.d:Nat)=r.z*s.d+s.z*r.d:=by
  have a7:(s.d:Int)=v*(Nat.gcd r.d s.d:Nat):=by rw[<-gM,<-f2]
  have a0:(r.d:Int)=u*(Nat.gcd r.d s.d:Nat):=by rw[<-gM,<-aW]
  rw[qQ];conv=>rhs;rw[a7,a0]
  rw[jR,jR]
 rw[<-this,aO,x8]
structure abz (r s:cE) (g h b e:Nat) (p q:Int):Prop where
 g0:0<g
 ck:Nat.gcd r.z.natAbs s.d=g
 aO:0<h
 ad:Nat.gcd s.z.natAbs r.d=h
 dr:r.z.natAbs / g=p.natAbs
 hC:r.z<0↔p<0
 aX:s.z.natAbs / h=q.natAbs
 aU:s.z<0↔q<0
 oX:p≠0
 b0:q≠0
 bQ:r.d / h=b
 g8:0<b
 bL:b<=r.d
 aC:s.d / g=e
 jC:0<e
 aW:e<=s.d
 DV:p.natAbs<=r.z.natAbs
 dN:q.natAbs<=s.z.natAbs
 xK:(⟨p*q,b*e⟩:cE)=bk (r.z*s.z) (r.d*s.d)
theorem ak8{r s:cE}(av:r.g4)(ag:s.g4)(xO:r.z≠0)(sz:s.z≠0):∃g h b e p q,abz r s g h b e p q:=by
 have rd:=av.1;have hL:=ag.1;have aF:0<Nat.gcd r.z.natAbs s.d:=ya _ hL;have c9:0<Nat.gcd s.z.natAbs r.d:=ya _ rd;obtain⟨p,dr,hC,oX,DV⟩:=QW aF (lf _ _);obtain⟨q,aX,aU,b0,dN⟩:=QW c9 (lf _ _);obtain⟨b,bQ,bL,cZ,dE⟩:=Fm c9 rd (nl _ _);obtain⟨e,aC,aW,cw,ed⟩:=Fm aF hL (nl _ _);refine⟨_,_,b,e,p,q,aF,rfl,c9,rfl,hC,oX,aU,b0,fun k=>xO (DV.2 k),fun k=>sz (dN.2 k),bQ,cZ,dE,aC,cw,ed,by rw[<-hC];exact rZ _ _,by rw[<-aU];exact rZ _ _,?_⟩;exact aj9 (a:=0) (c:=0) av ag rfl rfl xO sz dr aX bL aW
theorem Hk{X Y:Int}{d e:Nat}(aq:0<d)(he:0<e):bk ((bk X d).z*(bk Y e).d+(bk Y e).z*(bk X d).d) ((bk X d).d*(bk Y e).d)=bk (X*e+Y*d) (d*e):=by
 have bH:=(im (z:=X) aq).1;have bM:=(im (z:=Y) he).1;have ad:=sL (z:=X) aq;have af:=sL (z:=Y) he;rw[Hl (iW bH bM) (iW aq he)];generalize (bk X d).z=a at*;generalize (bk Y e).z=b at*;generalize (bk X d).d=p at*;generalize (bk Y e).d=q at*;rw[gM,gM,qQ,qQ];congr 1
 ·calc a*q*(d*e)=(a*d)*(q*e):=by simp only[jR,kC,o5]
   _=X*p*(q*e):=by rw[ad]
   _=X*e*(p*q):=by simp only[jR,kC,o5]
 ·calc b*p*(d*e)=(b*e)*(p*d):=by simp only[jR,kC,o5]
   _=Y*q*(p*d):=by rw[af]
   _=Y*d*(p*q):=by simp only[jR,kC,o5]
theorem Q3{X Y:Int}{d:Nat}(aq:0<d):bk ((bk X d).z*(bk Y d).d+(bk Y d).z*(bk X d).d) ((bk X d).d*(bk Y d).d)=bk (X+Y) d:=by
 rw[Hk aq aq,Hl (iW aq aq) aq,<-qQ,gM,jR]
theorem Yl{X:Int}{d:Nat}(aq:0<d):(⟨-(bk X d).z,(bk X d).d⟩:cE)=bk (-X) d:=by
 have c:=im (z:=X) aq;refine xw ⟨c.1,?_⟩ aq ?_
 ·show Nat.Coprime (-(bk X d).z).natAbs _;rw[vZ];exact c.2
 ·show -(bk X d).z*d=-X*(bk X d).d;rw[nL,sL aq,nL]
theorem Yi{X:Int}{d:Nat}(aq:0<d):(⟨((bk X d).z.natAbs:Int),(bk X d).d⟩:cE)=bk (X.natAbs:Int) d:=by
 have c:=im (z:=X) aq;refine xw ⟨c.1,c.2⟩ aq ?_;have h:=aa Int.natAbs (sL (z:=X) aq);rw[lc,lc,hP,hP] at h;show((bk X d).z.natAbs:Int)*(d:Int)=(X.natAbs:Int)*((bk X d).d:Int);rw[<-gM,<-gM,h]
theorem Yj{X:Int}{d:Nat}(aq:0<d):bk ((bk X d).z*1) ((bk X d).d*2)=bk X (d*2):=by
 have c:=im (z:=X) aq;rw[Hl (iW c.1 (by decide)) (iW aq (by decide)),Iy,gM,gM,<-jR,sL aq,jR]
end
end Go.Opn
namespace Go.Opn
noncomputable section
open Go.Cre Go.RowKit Go.Proofs
theorem cx.o2{J ah:an}{v w:Value}{x y:Nat}(h:cx J v x)(fR:cx ah w y)(hle:J.le ah)(e:v=w):x=y:=by subst e;exact h.xW fR hle
structure hW (k:Nat) (r:cE):Prop where
 n:(aR r.z.natAbs).length<=k
 d:(aR r.d).length<=k
theorem agf{z:Int}{d k:Nat}(aq:0<d)(ad:(aR z.natAbs).length<=k)(af:(aR d).length<=k):hW k (bk z d):=by
 obtain⟨dv,dV⟩:=K8 (z:=z) aq;exact⟨cY (jv dv) ad,cY (jv dV) af⟩
theorem X6(z:Int)(d:Nat):(z*(d:Int)).natAbs=z.natAbs*d:=by rw[lc,hP]
theorem agh{r s:cE}{k j:Nat}{u v:Nat}(av:hW k r)(ag:hW j s)(hu:(aR u).length<=k)(az:(aR v).length<=j):(aR (r.z*(v:Int)+s.z*(u:Int)).natAbs).length<=k+j+1:=by
 have ad:=vD av.n az;have af:=vD ag.n hu;have aV:=X5 ad (show(aR (s.z.natAbs*u)).length<=k+j by omega);refine cY (jv ?_) aV;rw[<-X6,<-X6];exact Int.natAbs_add_le _ _
theorem nn(b:Bool):T8 b b=true:=by cases b<;>rfl
theorem aeU{d e:Nat}(aq:0<d)(he:0<e)(h:jr d=jr e):d=e:=by
 unfold jr at h;split at h<;>split at h<;>omega
theorem fZ.Fl{J ah:an}{r s:cE}{v1 v2 bm bW:Value}{x y:Bool}(h:fZ J r v1 v2)(fR:fZ ah s bm bW)(hle:J.le ah)(aq:0<r.d)(he:0<s.d)(e:[Value.agg #[.bool x,v1,v2]]=[Value.agg #[.bool y,bm,bW]]):r.d=s.d:=by
 injection e with e
 injection e with e
 injection e with e
 injection e with _ e
 injection e with _ e
 injection e with e
 exact aeU aq he (h.d.o2 fR.d hle e)
theorem lL{a b c d:Value}(h:[a,b]=[c,d]):a=c/\b=d:=by
 injection h with ad af
 injection af with af
 exact⟨ad,af⟩
theorem CC{r s:cE}{v1 v2:Value}(h:r=s):c8 r v1 v2=c8 s v1 v2:=by rw[h]
theorem fZ.cast{J:an}{r s:cE}{v1 v2:Value}(h:fZ J r v1 v2)(e:r=s):fZ J s v1 v2:=e▸h
section
variable {Q:dD Tryz.prog}{g0:Nat}{J:an}
theorem TB{r s:cE}{v1 v2 bm bW:Value}(av:fZ J r v1 v2)(ag:fZ J s bm bW)(hl:r.g4)(cs:s.g4){k j:Nat}(fr:hW k r)(g9:hW j s)(hk:k<=30000)(bf:j<=30000):Fn (a1 Q g0) 59 [c8 r v1 v2,c8 s bm bW] [] J (p8 J (bk (r.z*s.d+s.z*r.d) (r.d*s.d))):=by
 obtain⟨bQ,dv,bH,rfl,aX,h6,gN⟩:=av.n.b6;obtain⟨bL,dV,bM,rfl,aU,l1,gO⟩:=av.d.b6;obtain⟨cZ,en,db,rfl,b0,yP,w7⟩:=ag.n.b6;obtain⟨dE,fH,dZ,rfl,dN,Gg,w8⟩:=ag.d.b6;obtain⟨g,u,v,h,w,t,q,D⟩:=ab5 hl cs;have rd:=hl.1;have hL:=cs.1;have Uv:=D.g0;have aer:=D.aO;have ae7:=D.cm;have hn:=D.v2;have ae9:=D.bW;have aeq:=D.ch;have Uz:=D.bI;have ae8:=D.v0;have UA:=D.w0;have Wx:(s.z*(u:Int)).natAbs=s.z.natAbs*u:=by rw[lc,hP]
 have Wu:(r.z*(v:Int)).natAbs=r.z.natAbs*v:=by rw[lc,hP]
 have aS:=D.t1;have Qz:=fr.n;have Qy:=fr.d;have XF:=g9.n;have XE:=g9.d;have A6:=cY (jv ae7) fr.d;have GY:=cY (jv hn) g9.d;have lw:=cY (jv ae9) g9.d;have Xs:=cY (jv aeq) fr.d;have lt:(aR t.natAbs).length<=k+j+1:=by rw[aS];exact agh fr g9 A6 GY
 have atf:=vD fr.n GY;have atg:=vD g9.n A6;have aky:=cY (jv (show h<=g by rw[<-D.ad];exact Te _ Uv)) Xs;have GS:=jl Uv;have GU:=jl aer;have as3:=jl Uz;have as4:=jl ae8;have as5:=jl UA;have tR:=jl rd;have vw:=jl hL;have xb:eD 8 (c8 r (.slice bQ dv bH) (.slice bL dV bM)) (c8 r (.slice bQ dv bH) (.slice bL dV bM))=true:=by simp[eD,jB,aX,aU,nn]
 have AR:eD 8 (c8 s (.slice cZ en db) (.slice dE fH dZ)) (c8 s (.slice cZ en db) (.slice dE fH dZ))=true:=by simp[eD,jB,b0,dN,nn]
 refine Fn.cr (cu Tryz.func59) rfl rfl fun H=>?_;refine rg ?_;refine gU fun bA=>?_;refine gU fun cU=>?_;refine' W.step rfl (.of (gx rfl rfl rfl (nh Q g0) rfl rfl rfl fun dn=>?_));refine a2 ?_;refine U V.cJ ?_;refine U V.cI ?_;refine U V.h7 ?_;refine U V.bb ?_;refine aA ?_;refine If (fun gJ=>?_) fun gJ=>?_
 ·have yT:r.z=0:=by
   exact ox.1 (h6.z I)
  have nZ:bk (r.z*s.d+s.z*r.d) (r.d*s.d)=s:=by
   rw[yT,Nf hl yT,x8,L',iL,show s.z*((1:Nat):Int)=s.z from Iy _];exact Bg cs
  refine rg ?_;refine U V.ik ?_;refine e9 ?_;refine aA ?_;refine ae.ret ?_;refine'⟨.inr rfl,rfl,_,[],.cell rfl (by repeat first|exact .head _|refine .tail _ ?_|refine eF _ ?_) (fA (dm rfl) rfl) (.nil),br _,?_⟩;first
   |(rw[nZ];first|exact⟨an.le.refl _,rfl,_,_,rfl,ag⟩|exact⟨an.le.refl _,rfl,_,_,rfl,av⟩)
 ·have yT:r.z≠0:=fun k=>by have:=h6.ir (ox.2 k);omega
  refine fy ?_;refine U V.cJ ?_;refine U V.cI ?_;refine U V.h7 ?_;refine U V.bb ?_;refine aA ?_;refine If (fun q2=>?_) fun q2=>?_
  ·have ea:s.z=0:=by
    exact ox.1 (yP.z I)
   have nZ:bk (r.z*s.d+s.z*r.d) (r.d*s.d)=r:=by
    rw[ea,Nf cs ea,x8,Int.add_zero,gT,show r.z*((1:Nat):Int)=r.z from Iy _];exact Bg hl
   refine rg ?_;refine U V.ik ?_;refine e9 ?_;refine aA ?_;refine ae.ret ?_;refine'⟨.inr rfl,rfl,_,[],.cell rfl (by repeat first|exact .head _|refine .tail _ ?_|refine eF _ ?_) (fA (dm rfl) rfl) (.nil),br _,?_⟩;first
    |(rw[nZ];first|exact⟨an.le.refl _,rfl,_,_,rfl,ag⟩|exact⟨an.le.refl _,rfl,_,_,rfl,av⟩)
  ·have ea:s.z≠0:=fun k=>by have:=yP.ir (ox.2 k);omega
   have ala:r.z*(v:Int)≠0:=SL yT I;have alc:s.z*(u:Int)≠0:=SL ea I;have aeo:(decide (r.z<0))=decide (r.z*(v:Int)<0):=by
    congr 1;apply propext
    constructor
    ·intro k;exact BX k I
    ·intro k
     rcases vX r.z 0 with j|j
     ·exact j
     ·have:=kT j (show(0:Int)<=v by omega);omega
   have aep:(decide (s.z<0))=decide (s.z*(u:Int)<0):=by
    congr 1;apply propext
    constructor
    ·intro k;exact BX k I
    ·intro k
     rcases vX s.z 0 with j|j
     ·exact j
     ·have:=kT j (show(0:Int)<=u by omega);omega
   refine dW ?_;refine ao ?_;refine ae.draw rfl (by kernel_rfl) (a':=[.val 0,.val 2,.bR 1,.b9 [2],.bR 3,.bR 4,.val 5]) (by kernel_rfl) ?_;refine aT rfl V.ik ?_;refine aT rfl V.ik ?_;refine bp.iR ?_;refine' bc.dA rfl rfl rfl rfl rfl rfl rfl rfl rfl dx (pe av tR) ?_;rintro v' m' bK aK ⟨_,rfl,oe⟩;have rm:=oe;obtain⟨fI,kg,gV,rfl,gl,_,_⟩:=oe.b6;refine bc.b9 eH ?_;refine' bc.dA rfl rfl rfl rfl rfl rfl rfl rfl rfl (de (fun _ aI=>j'.ag aK (av.Fl (ag.mono aK) aK rd hL aI) rfl) dx) (pe (ag.mono aK) vw) ?_;rintro v' m' dT bi ⟨_,rfl,tP⟩;have pA:=tP;obtain⟨gz,gk,e7,rfl,iC,_,_⟩:=tP.b6;refine' bc.dA rfl rfl rfl rfl rfl rfl rfl rfl rfl (de (eI rfl) (de (eI rfl) dx)) (LH (rm.mono bi) pA I I) ?_;rintro v' m' ga cn ⟨_,rfl,sD⟩;rw[D.ck] at sD;have oc:=sD;obtain⟨mB,vC,hE,rfl,nH,_,_⟩:=sD.b6;have w7:=((av.mono aK).mono bi).mono cn;have w9:=((ag.mono aK).mono bi).mono cn;refine bc.iQ (fun x ab=>iV (f:=fun x=>(x.f,x.b2)) ab) ?_;refine aT rfl V.au ?_;refine bp.nil ?_;refine ao ?_;refine ae.draw rfl (by kernel_rfl) (a':=[.val 0,.val 2,.val 4,.val 6,.bR 1,.b9 [6,4,2],.bR 3,.b9 [6,4],.bR 5,.b9 [6],.bR 7,.val 8,.val 9]) (by kernel_rfl) ?_;refine aT rfl V.ik ?_;refine aT rfl V.ay ?_;refine aT rfl V.ik ?_;refine aT rfl V.ay ?_;refine bp.iR ?_;refine' bc.dA rfl rfl rfl rfl rfl rfl rfl rfl rfl dx (pe w7 tR) ?_;rintro v' m' mQ eL ⟨_,rfl,sE⟩;have rn:=sE;obtain⟨mW,nD,jU,rfl,oq,_,_⟩:=sE.b6;refine bc.b9 eH ?_;refine' bc.dA rfl rfl rfl rfl rfl rfl rfl rfl rfl (de (eI rfl) dx) (ze rn (oc.mono eL) I I GS) ?_;rintro v' m' p4 gu ⟨_,rfl,Dj⟩;rw[D.u1] at Dj;have od:=Dj;obtain⟨iN,mK,fp,rfl,mM,_,_⟩:=Dj.b6
   refine bc.b9 eH ?_;refine' bc.dA rfl rfl rfl rfl rfl rfl rfl rfl rfl (de (eI rfl) (de (fun _ aI=>j'.ag (eL.trans gu) (w7.Fl ((w9.mono eL).mono gu) (eL.trans gu) rd hL aI) rfl) dx)) (pe ((w9.mono eL).mono gu) vw) ?_;rintro v' m' uC h5 ⟨_,rfl,GH⟩;have GB:=GH;obtain⟨kr,k7,cl,rfl,nb,_,_⟩:=GH.b6;refine bc.b9 eH ?_;refine' bc.dA rfl rfl rfl rfl rfl rfl rfl rfl rfl (de (eI rfl) (de (fun _ aI=>j'.ag (gu.trans h5) (aa (·/ g) (rn.o2 GB (gu.trans h5) (lL aI).1)) rfl) (de (eI rfl) dx))) (ze GB (((oc.mono eL).mono gu).mono h5) I I GS) ?_;rintro v' m' zG kd ⟨_,rfl,Dg⟩;rw[D.v1] at Dg;have AS:=Dg;obtain⟨TY,QM,kb,rfl,YS,_,_⟩:=Dg.b6;have od:=(od.mono h5).mono kd;have oc:=(((oc.mono eL).mono gu).mono h5).mono kd;have Gp:=(((w7.mono eL).mono gu).mono h5).mono kd;have C':=(((w9.mono eL).mono gu).mono h5).mono kd;refine bc.iQ (fun x ab=>iV (f:=fun x=>(x.f,x.b2)) ab) ?_;refine eg ?_;refine bp.nil ?_;refine ao ?_;refine ae.draw rfl (by kernel_rfl) (a':=[.val 0,.val 1,.val 2,.val 3,.val 4,.val 6,.val 7,.val 8,.val 9,.val 10,.bR 5,.b9 [10,9,8,7,6,1,0],.bR 11,.b9 [7,6,1,0],.bR 12,.val 13,.val 14,.val 15,.val 16,.val 17]) (by kernel_rfl) ?_;refine aT rfl V.cJ ?_;refine aT rfl V.cI ?_;refine aT rfl V.cJ ?_;refine aT rfl V.cI ?_;refine eg ?_;refine aT rfl V.cI ?_;refine aT rfl V.cJ ?_;refine aT rfl V.cI ?_;refine aT rfl V.ay ?_;refine bp.iR ?_;refine' bc.dA rfl rfl rfl rfl rfl rfl rfl rfl rfl dx (BD Gp.n AS I I) ?_;rintro v' m' B2 iz ⟨_,rfl,GI⟩;have Kq:=GI;obtain⟨ML,ml,jn,rfl,Rn,_,_⟩:=GI.b6;refine bc.b9 eH ?_
   refine' bc.dA rfl rfl rfl rfl rfl rfl rfl rfl rfl (de (fun _ aI=>j'.ag iz (by rw[Gp.n.o2 (C'.mono iz).n iz (lL aI).1,AS.o2 (od.mono iz) iz (lL aI).2]) rfl) dx) (BD (C'.mono iz).n (od.mono iz) I I) ?_;rintro v' m' B3 jF ⟨_,rfl,GJ⟩;have Kr:=GJ;obtain⟨Jf,Ha,q1,rfl,YT,_,_⟩:=GJ.b6;refine bc.b9 eH ?_;refine' bc.dA rfl rfl rfl rfl rfl rfl rfl rfl rfl (de (eI rfl) (de (eI rfl) dx)) (an2 (du:=r.z*v) (dt:=s.z*u) aeo aep (by rw[Wu];exact Kq.mono jF) (by rw[Wx];exact Kr) ala alc (by rw[Wu];omega) (by rw[Wx];omega)) ?_;rintro v' m' Ma mE ⟨_,rfl,acC,atQ,rfl,Dh,Gv⟩;rw[<-aS] at Dh Gv;have De:=Dh;obtain⟨Jg,Hb,gJ,rfl,YU,Wc,_⟩:=Dh.b6;have oc:=((oc.mono iz).mono jF).mono mE;have od:=((od.mono iz).mono jF).mono mE;have aiZ:=((C'.mono iz).mono jF).mono mE;refine bc.iQ (fun x ab=>iV (f:=fun x=>(x.f,x.b2)) ab) ?_;refine eg ?_;refine bp.nil ?_;refine rg ?_;refine al ?_;refine U V.bb ?_;refine aA ?_;refine If (fun E3=>?_) fun E3=>?_
   ·have sB:t=0:=by
     exact ox.1 (Wc.z I)
    have nZ:bk (r.z*s.d+s.z*r.d) (r.d*s.d)=⟨0,1⟩:=by rw[D.ir sB];exact rA (iW rd hL)
    refine rg ?_;refine U V.kW ?_;refine e9 ?_;refine aA ?_;refine ae.ret ?_;refine'⟨.inr rfl,rfl,_,[],.cell rfl (by repeat first|exact .head _|refine .tail _ ?_|refine eF _ ?_) (fA (dm rfl) rfl) (.nil),br _,?_⟩;first
     |(have c:=E3
       first
           |(rw[nZ];exact⟨((((((((aK.trans bi).trans cn).trans eL).trans gu).trans h5).trans kd).trans iz).trans jF).trans mE,rfl,.slice none 0 0,.slice none 0 0,rfl,cx.nil,cx.nil⟩)
           |exact⟨((((((((((((((aK.trans bi).trans cn).trans eL).trans gu).trans h5).trans kd).trans iz).trans jF).trans mE).trans qp).trans pv).trans vh).trans J').trans Ga).trans V5,rfl,_,_,CC D.xK,cp.cast D.xK⟩)
     |(rw[nZ];first|exact⟨an.le.refl _,rfl,_,_,rfl,ag⟩|exact⟨an.le.refl _,rfl,_,_,rfl,av⟩)
   ·have sB:t≠0:=fun k=>by have:=Wc.ir (ox.2 k);omega
    refine fy ?_;refine al ?_;refine bN (G:=LH De oc I I) (h:=?_);rintro v' m' abe qp ⟨_,rfl,Di⟩;rw[D.ad] at Di;have GC:=Di;obtain⟨Cf,Hc,eR,rfl,YV,_,_⟩:=Di.b6;have ai0:=aiZ.mono qp;refine U V.au ?_;refine aA ?_;refine ae.draw rfl (by kernel_rfl) (a':=[.val 0,.val 1,.val 2,.val 4,.val 5,.val 7,.bR 3,.b9 [7,5,4,0],.bR 6,.b9 [7,4,0],.bR 8,.b9 [4,0],.bR 9,.b9 [0],.bR 10,.bR 11]) (by kernel_rfl) ?_;refine eg ?_;refine aT rfl V.ik ?_;refine aT rfl V.ay ?_;refine bp.iR ?_;refine' bc.dA rfl rfl rfl rfl rfl rfl rfl rfl rfl dx (ze (De.mono qp) GC I I GU) ?_;rintro v' m' abf pv ⟨_,rfl,GK⟩;have Ks:=GK;obtain⟨Cg,QO,jo,rfl,YW,_,_⟩:=GK.b6;refine bc.b9 eH ?_;refine' bc.dA rfl rfl rfl rfl rfl rfl rfl rfl rfl (de (eI rfl) dx) (pe (ai0.mono pv) vw) ?_;rintro v' m' abg vh ⟨_,rfl,WL⟩;have WJ:=WL;obtain⟨TZ,KV,lU,rfl,YX,_,_⟩:=WL.b6;refine bc.b9 eH ?_;refine' bc.dA rfl rfl rfl rfl rfl rfl rfl rfl rfl (de (eI rfl) (de (fun _ aI=>j'.ag (pv.trans vh) (aa (·/ h) ((De.mono qp).o2 WJ (pv.trans vh) (lL aI).1)) rfl) dx)) (ze WJ ((GC.mono pv).mono vh) I I GU) ?_;rintro v' m' aqY J' ⟨_,rfl,P4⟩;rw[D.bm] at P4;have ajt:=P4;obtain⟨T0,DH,kE,rfl,YY,_,_⟩:=P4.b6;refine bc.b9 eH ?_;refine' bc.dA rfl rfl rfl rfl rfl rfl rfl rfl rfl (de (eI rfl) (de (eI rfl) (de (eI rfl) dx))) (BD ((((od.mono qp).mono pv).mono vh).mono J') ajt I I) ?_;rintro v' m' aqZ Ga ⟨_,rfl,WM⟩;have GD:=WM;obtain⟨MM,alb,q2,rfl,YZ,_,_⟩:=WM.b6;refine bc.b9 eH ?_;refine' bc.dA rfl rfl rfl rfl rfl rfl rfl rfl rfl (de (eI rfl) (de (eI rfl) (de (eI rfl) (de (eI rfl) dx)))) (G4 (r:=⟨q,u*w⟩) (by rw[D.aX] at Ks;exact((Ks.mono vh).mono J').mono Ga) GD (fun _=>by rw[Gv sB];exact m1.2 D.aU) (fun k=>absurd (D.b0.2 k) sB) (jl (iW Uz UA)) (by have:=vD A6 lw;show(aR (u*w)).length<=100000;omega)) ?_
    rintro v' m' aq0 V5 ⟨_,rfl,ev,gH,rfl,b4⟩;have cp:=b4;obtain⟨MN,xu,iw,rfl,Y0,_,_⟩:=b4.n.b6;obtain⟨arn,vB,mX,rfl,atA,_,_⟩:=b4.d.b6;refine bc.iQ (fun x ab=>iV (f:=fun x=>(x.f,x.b2)) ab) ?_;refine mw rfl ?_;refine bp.nil ?_;refine ao ?_;refine ae.ret ?_;refine'⟨.inr rfl,rfl,_,[],.cell rfl (by repeat first|exact .head _|refine .tail _ ?_|refine eF _ ?_) (fA (dm rfl) rfl) (.nil),br _,?_⟩;first
     |(have c:=E3
       first
           |(rw[nZ];exact⟨((((((((aK.trans bi).trans cn).trans eL).trans gu).trans h5).trans kd).trans iz).trans jF).trans mE,rfl,.slice none 0 0,.slice none 0 0,rfl,cx.nil,cx.nil⟩)
           |exact⟨((((((((((((((aK.trans bi).trans cn).trans eL).trans gu).trans h5).trans kd).trans iz).trans jF).trans mE).trans qp).trans pv).trans vh).trans J').trans Ga).trans V5,rfl,_,_,CC D.xK,cp.cast D.xK⟩)
     |(rw[nZ];first|exact⟨an.le.refl _,rfl,_,_,rfl,ag⟩|exact⟨an.le.refl _,rfl,_,_,rfl,av⟩)
end
end
end Go.Opn

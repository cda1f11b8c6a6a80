/- A part of the proof of TableRounds. -/
import Derived.Test.YtfdhclnfkafebaaGreatDoorCbf
import Derived.Test.YtfdhclnfkafebaaGreatDoorCbb
import Derived.Test.YtfdhclnfkafebaaGreatDoorCbc
set_option maxRecDepth 100000
set_option maxHeartbeats 8000000
set_option linter.unusedVariables false
set_option linter.unusedSimpArgs false
namespace Go.Opn
noncomputable section
open Go.Cre Go.RowKit Go.Proofs
theorem rr{x y j k:Nat}(ab:(ai x).length<=j)(aB:(ai y).length<=k):(ai (x*y)).length<=j+k:=by
 refine mG ?_;rw[oB];exact abJ (oi ab) (r0 (oi aB)) (uI bC)
theorem Qm{x y k:Nat}(ab:(ai x).length<=k)(aB:(ai y).length<=k):(ai (x+y)).length<=k+1:=by
 refine mG ?_;have ad:=oi ab;have af:=oi aB;rw[fC];omega
theorem cM.xW{J ah:an}{v:Value}{x y:Nat}(h:cM J v x)(fR:cM ah v y)(hle:J.le ah):x=y:=by
 have e:ai x=ai y:=cR.xW h fR hle;rw[<-e5 x,<-e5 y,e]
theorem cM.uj{J ah:an}{v w:Value}{x y:Nat}(h:cM J v x)(fR:cM ah w y)(hle:J.le ah)(e:v=w):x=y:=by subst e;exact h.xW fR hle
theorem pb.ag{J ta:an}{x jf:Nat}(hle:ta.le J)(eM:jf=x){cj:a8}(hm:cj=[]):cj=[]/\ta.le J/\∀v m' bK dT,pb ta jf v m' bK->bK.le dT->J.le dT->pb J x v m' dT:=
 ⟨hm,hle,fun v m' bK dT ⟨_,af,aV⟩ bq fL=>⟨fL,af,eM▸aV.mono bq⟩⟩
abbrev r4(J:an)(r:cE):Value->a8->an->Prop:=fun u m' ah=>J.le ah/\m'=[]/\∃v1 v2,u=c8 r v1 v2/\fO ah r v1 v2
theorem alv{z:Int}{d:Nat}(aq:0<d):(bk z d).z.natAbs=z.natAbs / Nat.gcd z.natAbs d/\(bk z d).d=d / Nat.gcd z.natAbs d:=by
 obtain⟨g,e,q,aF,he,aL,F3,_,aE,aic⟩:=y3 (z:=z) aq;rw[aE,<-aic];refine⟨?_,?_⟩
 ·rw[aL,lc,hP,v7 _ aF]
 ·rw[F3,v7 _ aF]
theorem KJ{J:an}{a:Nat}{e:TypeId}(h:J a=some ([.int .u32 1],e)):cM J (.slice (some ⟨a,0,none⟩) 1 1) 1:=by
 show cR .u32 J _ (ai 1);rw[sH (x:=1) bC bC];exact⟨e,.row h rfl rfl (fun _=>⟨bX _,Hy⟩) (fun q=>absurd q (ED Hy))⟩
theorem amK{a b:Int}{d e x y:Nat}{z:Int}(aq:0<d)(he:0<e)(ab:x=a.natAbs*e)(aB:y=b.natAbs*d)(aL:z=a*e+b*d):
 ((a<0↔b<0)->z.natAbs=x+y/\(z≠0->(a<0↔z<0)))/\(¬(a<0↔b<0)->(y<=x->z.natAbs=x -y/\(z≠0->(a<0↔z<0)))/\(x<y->z.natAbs=y -x/\(z≠0->(b<0↔z<0)))):=by
 have ad:(a*(e:Int)).natAbs=x:=by rw[lc,hP,ab]
 have af:(b*(d:Int)).natAbs=y:=by rw[lc,hP,aB]
 have s1:a<0↔a*(e:Int)<0:=⟨fun h=>BX h I,fun h=>by
  rcases vX a 0 with q|q
  ·exact q
  ·have:=kT q (show(0:Int)<=(e:Int) by omega);omega⟩
 have s2:b<0↔b*(d:Int)<0:=⟨fun h=>BX h I,fun h=>by
  rcases vX b 0 with q|q
  ·exact q
  ·have:=kT q (show(0:Int)<=(d:Int) by omega);omega⟩
 rw[s1,s2];generalize a*(e:Int)=X at*;generalize b*(d:Int)=Y at*;refine⟨fun h=>⟨I,fun aE=>by omega⟩,fun h=>⟨fun k=>⟨I,fun aE=>by omega⟩,fun k=>⟨I,fun aE=>by omega⟩⟩⟩
section
variable {Q:dD Tryz.prog}{g0:Nat}{J:an}
theorem A5{neg:Bool}{v w:Value}{z:Int}{n d:Nat}(aq:0<d)(aL:z.natAbs=n)(w5:z≠0->neg=decide (z<0))(ad:cM J v n)(af:cM J w d)(mD:(ai n).length<=60000)(n6:(ai d).length<=60000):Fn (a1 Q g0) 83 [.bool neg,v,w] [] J (r4 J (bk z d)):=by
 subst aL;have ku:cR .u32 J v (ai z.natAbs):=ad;have jW:cR .u32 J w (ai d):=af;obtain⟨bQ,bH,rfl⟩:=ku.form;obtain⟨bL,bM,rfl⟩:=jW.form;obtain⟨air,aim⟩:=alv (z:=z) aq;refine Fn.cr (cu Tryz.func83) rfl rfl fun H=>?_;refine rg ?_;refine' W.step rfl (.of (gx rfl rfl rfl (lb Q g0) rfl rfl rfl fun e6=>?_));refine a2 ?_;refine al ?_;refine U V.bb ?_;refine aA ?_;refine If (fun cl=>?_) fun cl=>?_
 ·have e1:z=0:=by
   rcases jj z.natAbs with q|q
   ·omega
   ·have:=tT (jl q);omega
  refine rg ?_;refine ll (hb Q g0) fun r5=>?_;refine W.et rfl fun aK sj=>?_;refine U V.kW ?_;refine e9 ?_;refine aA ?_;refine ae.ret ?_;refine'⟨.inr rfl,rfl,_,[],.cell rfl (by repeat first|exact .head _|refine .tail _ ?_|refine eF _ ?_) (fA (dm rfl) rfl) (.nil),br _,?_⟩;first
   |(have c:=hG
     exact⟨aK.trans (bi.trans cn),rfl,.slice fI _ gV,.slice gz _ e7,by rw[w5 e1,<-m1.2 (K9 (z:=z) aq).2.1];rfl,n9.mono cn,qs⟩)
   |exact⟨aK,rfl,.slice none 0 0,_,by rw[e1,rA aq];rfl,by rw[e1,rA aq];exact K2,by rw[e1,rA aq];exact KJ sj⟩
 ·have e1:z≠0:=fun q=>by
   rw[q] at cl;rw[show(0:Int).natAbs=0 from rfl,l5] at cl;exact cl rfl
  have hG:0<z.natAbs:=I
  refine fy ?_;refine al ?_;refine bN (G:=Nj ad af mD n6) (h:=?_);rintro v' m' bK hle ⟨aK,rfl,aF⟩;have wV:(ai (Nat.gcd z.natAbs d)).length<=60000:=cY (lD (Nat.gcd_le_left d hG)) mD;have VS:Nat.gcd z.natAbs d≠0:=jl (ya _ aq);refine U V.au ?_;refine a2 ?_;refine al ?_;refine bN (G:=Lk (ad.mono aK) aF VS mD wV) (h:=?_);rintro v' m' dT hle ⟨bi,rfl,bm,bW,rfl,n9,gN⟩;rw[<-air] at n9;obtain⟨fI,gV,rfl,gl⟩:=n9.bG;refine al ?_;refine a2 ?_;refine al ?_;refine bN (G:=Lk ((af.mono aK).mono bi) (aF.mono bi) VS n6 wV) (h:=?_);rintro v' m' ga hle ⟨cn,rfl,eu,kR,rfl,qs,gO⟩;rw[<-aim] at qs;obtain⟨gz,e7,rfl,iC⟩:=qs.bG;refine al ?_;refine a2 ?_;refine al ?_;refine e9 ?_;refine aA ?_;refine ae.ret ?_;refine'⟨.inr rfl,rfl,_,[],.cell rfl (by repeat first|exact .head _|refine .tail _ ?_|refine eF _ ?_) (fA (dm rfl) rfl) (.nil),br _,?_⟩;first
   |(have c:=hG
     exact⟨aK.trans (bi.trans cn),rfl,.slice fI _ gV,.slice gz _ e7,by rw[w5 e1,<-m1.2 (K9 (z:=z) aq).2.1];rfl,n9.mono cn,qs⟩)
   |exact⟨aK,rfl,.slice none 0 0,_,by rw[e1,rA aq];rfl,by rw[e1,rA aq];exact K2,by rw[e1,rA aq];exact KJ sj⟩
end
theorem gy.amV{g0:Nat}{B:dy}{J:an}{H:aw}{e:TypeId}{sz k:Nat}{v:Value}{cells:List Value}{bZ:a8}(h:gy e sz v k cells bZ)(aH:Inv g0 B J bZ H):∃ah,J.le ah/\Inv g0 B ah [] H/\fP ah e sz v k cells:=by
 rcases jj k with rfl|hk
 ·rcases h with⟨h,aL,aE⟩|⟨a,full,rest,rfl,rfl,aV,bq,fL⟩
  ·cases h with
   |nil=>exact⟨J,an.le.refl _,aH,.nil⟩
   |js a=>exact⟨J,an.le.refl _,aH,.js _ _ _ bC⟩
   |opn ad af=>
    obtain⟨a7,a0⟩:=aH.h9 (x:=(_,e)) rfl;exact⟨_,a0,a7,.row (an.g7 _ _ _) (by rw[j8] at ad ⊢;rw[kU ad];rfl) ad (fun q=>absurd rfl q) (fun _=>rfl)⟩
   |cap=>exact absurd (.head _) (aE _ _ _)
  ·obtain⟨a7,a0⟩:=aH.h9 (x:=(full,e)) rfl
   exact⟨_,a0,a7,.row (an.g7 _ _ _) (by rw[hi];exact bq) (by rw[<-bq,dY];omega) (fun q=>absurd rfl q) (fun _=>rfl)⟩
 ·obtain⟨a,full,rest,rfl,rfl,bq,aV⟩:=h.row hk
  obtain⟨a7,a0⟩:=aH.h9 (x:=(full,e)) rfl;exact⟨_,a0,a7,.row (an.g7 _ _ _) (by rw[hi];exact bq) (by rw[<-bq,dY];omega) (fun q=>absurd rfl q) (fun _=>rfl)⟩
def sU(z:Int):Int:=if z=0 then 0 else if z<0 then -1 else 1
section
variable {Q:dD Tryz.prog}{g0:Nat}{J:an}
theorem XT{v w:Value}{x y:Nat}(ad:cM J v x)(af:cM J w y)(eM:y<=x)(aD:(ai x).length<=200000)(n6:(ai y).length<=200000):Fn (a1 Q g0) 90 [v,w] [] J (pb J (x -y)):=fun H aH=>by
 obtain⟨u,H',ah,m',a7,a0,rfl,n2⟩:=XS ad af eM aD n6 H aH;obtain⟨dT,aX,aU,b0⟩:=n2.amV a0;exact⟨u,H',dT,[],a7,aU,aX,rfl,b0⟩
theorem HK{r s:cE}{x y:Bool}{v1 v2 bm bW:Value}(ahK:x=decide (r.z<0))(h3:y=decide (s.z<0))(av:fO J r v1 v2)(ag:fO J s bm bW)(rd:0<r.d)(hL:0<s.d)(dF:(ai r.z.natAbs).length<=20000)(dq:(ai r.d).length<=20000)(ja:(ai s.z.natAbs).length<=20000)(k6:(ai s.d).length<=20000):Fn (a1 Q g0) 52 [.agg #[.bool x,v1,v2],.agg #[.bool y,bm,bW]] [] J (r4 J (bk (r.z*s.d+s.z*r.d) (r.d*s.d))):=by
 subst ahK;subst h3
 have dj:=av;have eX:=ag;obtain⟨bQ,bH,rfl,aX⟩:=av.n.bG;obtain⟨bL,bM,rfl,aU⟩:=av.d.bG;obtain⟨cZ,db,rfl,b0⟩:=ag.n.bG;obtain⟨dE,dZ,rfl,dN⟩:=ag.d.bG;obtain⟨X,fG⟩:∃X,X=r.z.natAbs*s.d:=⟨_,rfl⟩;obtain⟨Y,kJ⟩:∃Y,Y=s.z.natAbs*r.d:=⟨_,rfl⟩;obtain⟨D,cy⟩:∃D,D=r.d*s.d:=⟨_,rfl⟩;obtain⟨Z,tA⟩:∃Z,Z=r.z*s.d+s.z*r.d:=⟨_,rfl⟩;have KH:(ai X).length<=40000:=by rw[fG];exact rr dF k6
 have Xb:(ai Y).length<=40000:=by rw[kJ];exact rr ja dq
 have Xa:(ai D).length<=40000:=by rw[cy];exact rr dq k6
 have KG:(ai (X+Y)).length<=40001:=Qm KH Xb;have as7:(ai (X -Y)).length<=40000:=cY (lD (Nat.sub_le _ _)) KH;have as8:(ai (Y -X)).length<=40000:=cY (lD (Nat.sub_le _ _)) Xb;have tx:0<D:=by rw[cy];exact iW rd hL
 obtain⟨dr,hC⟩:=amK rd hL fG kJ tA;rw[<-tA,<-cy];refine Fn.cr (cu Tryz.func52) rfl rfl fun H=>?_;refine rg ?_;refine gU fun bA=>?_;refine gU fun cU=>?_;refine' W.step rfl (.of (gx rfl rfl rfl (lb Q g0) rfl rfl rfl fun dn=>?_));refine aA ?_;refine ae.draw rfl (by kernel_rfl) (a':=[.val 0,.val 1,.val 2,.val 3,.val 5,.val 6,.val 7,.val 8,.val 10,.val 11,.val 12,.val 13,.bR 4,.b9 [13,12,11,10,8,7,6,5],.bR 9,.b9 [13,12,11,10],.bR 14,.val 15,.val 16,.val 17]) (by kernel_rfl) ?_;refine aT rfl V.cJ ?_;refine aT rfl V.cI ?_;refine aT rfl V.cJ ?_;refine aT rfl V.cI ?_;refine aT rfl V.cJ ?_;refine aT rfl V.cI ?_;refine aT rfl V.cJ ?_;refine aT rfl V.cI ?_;refine aT rfl V.cJ ?_;refine aT rfl V.cI ?_;refine aT rfl V.cJ ?_;refine aT rfl V.cI ?_;refine bp.iR ?_;refine' bc.dA rfl rfl rfl rfl rfl rfl rfl rfl rfl dx (uh dj.n eX.d I I) ?_;rintro v' m' bK aK ⟨_,rfl,eT⟩;have hF:=eT.fU;obtain⟨fI,gV,rfl,gl⟩:=hF.bG;refine bc.b9 eH ?_;refine' bc.dA rfl rfl rfl rfl rfl rfl rfl rfl rfl (de (fun _ aI=>pb.ag aK (by rw[dj.n.uj (eX.n.mono aK) aK (lL aI).1,eX.d.uj (dj.d.mono aK) aK (lL aI).2]) rfl) dx) (uh (eX.n.mono aK) (dj.d.mono aK) I I) ?_;rintro v' m' dT bi ⟨_,rfl,e4⟩;have h1:=e4.fU;obtain⟨gz,e7,rfl,iC⟩:=h1.bG;refine bc.b9 eH ?_;refine' bc.dA rfl rfl rfl rfl rfl rfl rfl rfl rfl (de (fun _ aI=>pb.ag bi (by rw[(eX.n.mono aK).uj ((dj.d.mono aK).mono bi) bi (lL aI).1,(dj.d.mono aK).uj ((eX.d.mono aK).mono bi) bi (lL aI).2]) rfl) (de (fun _ aI=>pb.ag (aK.trans bi) (by rw[dj.n.uj ((dj.d.mono aK).mono bi) (aK.trans bi) (lL aI).1]) rfl) dx)) (uh ((dj.d.mono aK).mono bi) ((eX.d.mono aK).mono bi) I I) ?_
 rintro v' m' ga cn ⟨_,rfl,hx⟩;have si:=hx.fU;obtain⟨mB,hE,rfl,nH⟩:=si.bG;rw[<-fG] at hF;rw[<-kJ] at h1;rw[<-cy] at si;have hF:=(hF.mono bi).mono cn;have h1:=h1.mono cn;rw[<-fG,<-kJ,<-cy];refine bc.iQ (fun x ab=>iV (f:=fun x=>(x.f,x.b2)) ab) ?_;refine eg ?_;refine bp.nil ?_;refine eP [2,3,4,5,6,7] ?_;refine ao ?_;refine' ae.hf 0 [(27,.bool (decide (((r.z<0)↔(s.z<0)))))] ?ph ?pj;case ph=>
  refine ae.region ?_;refine U V.cJ ?_;refine U V.cI ?_;refine U V.cJ ?_;refine U V.cI ?_;refine' W.step rfl (Exec.val rfl rfl (um rfl rfl rfl (.inl ⟨rfl,rfl⟩) (by kernel_rfl)) ?_);refine a3 ?_;refine'⟨⟨_,rfl,⟨?QQ,rfl,rfl,rfl,rfl,rfl,rfl,trivial⟩⟩,bx _,rfl⟩;case QQ=>first|exact fw rfl (by first|omega|(by_cases a:r.z<0<;>by_cases b:s.z<0<;>simp[a,b]))|exact fu rfl (by first|omega|(by_cases a:r.z<0<;>by_cases b:s.z<0<;>simp[a,b]))|exact fv rfl (by first|omega|(by_cases a:r.z<0<;>by_cases b:s.z<0<;>simp[a,b]))|exact fE rfl (by first|omega|(by_cases a:r.z<0<;>by_cases b:s.z<0<;>simp[a,b]))
 case pj=>
  refine ao ?_;refine If (fun hD=>?_) fun hD=>?_
  ·have p:=dr hD;refine ao ?_;refine ae.draw rfl (by kernel_rfl) (a':=[.val 0,.val 1,.val 2,.val 3,.val 5,.bR 4,.b9 [5,1,0],.bR 6,.bR 7]) (by kernel_rfl) ?_;refine aT rfl V.cJ ?_;refine aT rfl V.cI ?_;refine aT rfl V.ay ?_;refine aT rfl V.ay ?_;refine aT rfl V.ay ?_;refine bp.iR ?_;refine' bc.dA rfl rfl rfl rfl rfl rfl rfl rfl rfl dx (amJ hF h1 I I) ?_;rintro v' m' mQ eL ⟨_,rfl,ax⟩;have sl:=ax.fU;obtain⟨mW,jU,rfl,oq⟩:=sl.bG;refine bc.b9 eH ?_;refine' bc.dA rfl rfl rfl rfl rfl rfl rfl rfl rfl (de (eI rfl) dx) (A5 (z:=Z) tx p.1 (fun h=>m1.2 (p.2 h)) sl (si.mono eL) I I) ?_;rintro v' m' p4 gu ⟨_,rfl,ev,gH,rfl,b4⟩;have cp:=b4;obtain⟨iN,fp,rfl,mM⟩:=b4.n.bG;obtain⟨kr,cl,rfl,nb⟩:=b4.d.bG;refine bc.iQ (fun x ab=>iV (f:=fun x=>(x.f,x.b2)) ab) ?_;refine mw rfl ?_;refine bp.nil ?_;refine ao ?_;refine ae.ret ?_;refine'⟨.inr rfl,rfl,_,[],.cell rfl (by repeat first|exact .head _|refine .tail _ ?_|refine eF _ ?_) (fA (dm rfl) rfl) (.nil),br _,⟨aK.trans (bi.trans (cn.trans (eL.trans gu))),rfl,_,_,rfl,cp⟩⟩
  ·have YK:=hC hD;refine fy ?_;refine al ?_;refine bN (G:=Lj hF h1 I) (h:=?_);rintro v' m' ah hle ⟨rfl,rfl,rfl⟩;refine U V.bb ?_;refine aA ?_;refine If (fun qe=>?_) fun qe=>?_
   ·have jZ:Y<=X:=by
      rcases iK X Y with q|q
      ·rw[pf q] at qe;omega
      ·exact q
    have p:=YK.1 jZ;refine ao ?_;refine ae.draw rfl (by kernel_rfl) (a':=[.val 0,.val 1,.val 2,.val 3,.val 5,.bR 4,.b9 [5,1,0],.bR 6,.bR 7]) (by kernel_rfl) ?_;refine aT rfl V.cJ ?_;refine aT rfl V.cI ?_;refine aT rfl V.ay ?_;refine aT rfl V.ay ?_;refine aT rfl V.ay ?_;refine bp.iR ?_;refine' bc.dA rfl rfl rfl rfl rfl rfl rfl rfl rfl dx (XT hF h1 jZ I I) ?_;rintro v' m' mQ eL ⟨_,rfl,ax⟩;have sl:=ax.fU;obtain⟨mW,jU,rfl,oq⟩:=sl.bG;refine bc.b9 eH ?_;refine' bc.dA rfl rfl rfl rfl rfl rfl rfl rfl rfl (de (eI rfl) dx) (A5 (z:=Z) tx p.1 (fun h=>m1.2 (p.2 h)) sl (si.mono eL) I I) ?_;rintro v' m' p4 gu ⟨_,rfl,ev,gH,rfl,b4⟩;have cp:=b4;obtain⟨iN,fp,rfl,mM⟩:=b4.n.bG;obtain⟨kr,cl,rfl,nb⟩:=b4.d.bG;refine bc.iQ (fun x ab=>iV (f:=fun x=>(x.f,x.b2)) ab) ?_;refine mw rfl ?_;refine bp.nil ?_;refine ao ?_;refine ae.ret ?_;refine'⟨.inr rfl,rfl,_,[],.cell rfl (by repeat first|exact .head _|refine .tail _ ?_|refine eF _ ?_) (fA (dm rfl) rfl) (.nil),br _,⟨aK.trans (bi.trans (cn.trans (eL.trans gu))),rfl,_,_,rfl,cp⟩⟩
   ·have cA:X<Y:=by
      rcases iK X Y with q|q
      ·exact q
      ·exfalso
       rcases Nat.eq_or_lt_of_le q with q|q
       ·rw[nW q.symm] at qe;omega
       ·rw[tn q] at qe;omega
    have p:=YK.2 cA;refine dW ?_;refine ao ?_;refine ae.draw rfl (by kernel_rfl) (a':=[.val 0,.val 1,.val 2,.val 3,.val 5,.bR 4,.b9 [5,1,0],.bR 6,.bR 7]) (by kernel_rfl) ?_;refine aT rfl V.cJ ?_;refine aT rfl V.cI ?_;refine aT rfl V.ay ?_;refine aT rfl V.ay ?_;refine aT rfl V.ay ?_;refine bp.iR ?_;refine' bc.dA rfl rfl rfl rfl rfl rfl rfl rfl rfl dx (XT h1 hF (r0 cA) I I) ?_;rintro v' m' mQ eL ⟨_,rfl,ax⟩;have sl:=ax.fU;obtain⟨mW,jU,rfl,oq⟩:=sl.bG;refine bc.b9 eH ?_;refine' bc.dA rfl rfl rfl rfl rfl rfl rfl rfl rfl (de (eI rfl) dx) (A5 (z:=Z) tx p.1 (fun h=>m1.2 (p.2 h)) sl (si.mono eL) I I) ?_;rintro v' m' p4 gu ⟨_,rfl,ev,gH,rfl,b4⟩;have cp:=b4;obtain⟨iN,fp,rfl,mM⟩:=b4.n.bG;obtain⟨kr,cl,rfl,nb⟩:=b4.d.bG;refine bc.iQ (fun x ab=>iV (f:=fun x=>(x.f,x.b2)) ab) ?_;refine mw rfl ?_;refine bp.nil ?_;refine ao ?_;refine ae.ret ?_;refine'⟨.inr rfl,rfl,_,[],.cell rfl (by repeat first|exact .head _|refine .tail _ ?_|refine eF _ ?_) (fA (dm rfl) rfl) (.nil),br _,⟨aK.trans (bi.trans (cn.trans (eL.trans gu))),rfl,_,_,rfl,cp⟩⟩
theorem QG{r:cE}{v1 v2:Value}(av:fO J r v1 v2):Fn (a1 Q g0) 57 [c8 r v1 v2] [] J (fun u m' ah=>u=c8 ⟨-r.z,r.d⟩ v1 v2/\m'=[]/\J=ah):=by
 obtain⟨bQ,bH,rfl,aX⟩:=av.n.bG;obtain⟨bL,bM,rfl,aU⟩:=av.d.bG;refine Fn.cr (cu Tryz.func57) rfl rfl fun H=>?_;refine rg ?_;refine gU fun bO=>?_;refine' W.step rfl (.of (gx rfl rfl rfl (lb Q g0) rfl rfl rfl fun bA=>?_));refine a2 ?_;refine U V.cJ ?_;refine U V.cI ?_;refine U V.rB ?_;refine U V.ay ?_;refine ft 6 (fun jD=>?_) fun jD=>?_
 ·refine bo V.cJ ?_;refine bo V.cI ?_;refine bo V.h7 ?_;refine bo V.bb ?_;refine U V.bt ?_;refine U V.cJ ?_;refine e9 ?_;refine a2 ?_;refine U V.ik ?_;refine e9 ?_;refine aA ?_;refine ae.ret ?_;refine'⟨.inr rfl,rfl,_,[],.cell rfl (by repeat first|exact .head _|refine .tail _ ?_|refine eF _ ?_) (fA (dm rfl) rfl) (.nil),br _,?_⟩;first
   |exact⟨aa (fun b=>Value.agg #[.bool b,.slice bQ _ bH,.slice bL _ bM]) (show decide (0<((ai r.z.natAbs).length:Int))=decide (-r.z<0) from m1.2 ⟨fun h=>by have:=oT (x:=r.z.natAbs) I;omega,fun h=>by have:=tT (x:=r.z.natAbs) I;omega⟩),rfl,rfl⟩
   |exact⟨aa (fun b=>Value.agg #[.bool b,.slice bQ _ bH,.slice bL _ bM]) (show false=decide (-r.z<0) from(fx I).symm),rfl,rfl⟩
 ·refine bs ?_;refine bs ?_;refine bs ?_;refine bs ?_;refine U V.bt ?_;refine U V.cJ ?_;refine e9 ?_;refine a2 ?_;refine U V.ik ?_;refine e9 ?_;refine aA ?_;refine ae.ret ?_;refine'⟨.inr rfl,rfl,_,[],.cell rfl (by repeat first|exact .head _|refine .tail _ ?_|refine eF _ ?_) (fA (dm rfl) rfl) (.nil),br _,?_⟩;first
   |exact⟨aa (fun b=>Value.agg #[.bool b,.slice bQ _ bH,.slice bL _ bM]) (show decide (0<((ai r.z.natAbs).length:Int))=decide (-r.z<0) from m1.2 ⟨fun h=>by have:=oT (x:=r.z.natAbs) I;omega,fun h=>by have:=tT (x:=r.z.natAbs) I;omega⟩),rfl,rfl⟩
   |exact⟨aa (fun b=>Value.agg #[.bool b,.slice bQ _ bH,.slice bL _ bM]) (show false=decide (-r.z<0) from(fx I).symm),rfl,rfl⟩
theorem YA{r s:cE}{v1 v2 bm bW:Value}(av:fO J r v1 v2)(ag:fO J s bm bW)(rd:0<r.d)(hL:0<s.d)(dF:(ai r.z.natAbs).length<=20000)(dq:(ai r.d).length<=20000)(ja:(ai s.z.natAbs).length<=20000)(k6:(ai s.d).length<=20000):Fn (a1 Q g0) 53 [c8 r v1 v2,c8 s bm bW] [] J (fun u m' ah=>J.le ah/\m'=[]/\u=.int .i64 (sU (r.z*s.d -s.z*r.d))):=by
 have dj:=av;have eX:=ag;obtain⟨bQ,bH,rfl,aX⟩:=av.n.bG;obtain⟨bL,bM,rfl,aU⟩:=av.d.bG;obtain⟨cZ,db,rfl,b0⟩:=ag.n.bG;obtain⟨dE,dZ,rfl,dN⟩:=ag.d.bG;have tx:0<r.d*s.d:=iW rd hL;have Kd:fO J (⟨-s.z,s.d⟩:cE) (.slice cZ (ai s.z.natAbs).length db) (.slice dE (ai s.d).length dZ):=⟨by show cM J _ (-s.z).natAbs;rw[vZ];exact eX.n,eX.d⟩;have akI:(ai (-s.z).natAbs).length<=20000:=by rw[vZ];exact ja
 obtain⟨Z,tA⟩:∃Z,Z=r.z*s.d+-s.z*r.d:=⟨_,rfl⟩;have ahr:r.z*s.d -s.z*r.d=Z:=by rw[tA,nL,IA]
 rw[ahr];have ha:=K9 (z:=Z) tx;refine Fn.cr (cu Tryz.func53) rfl rfl fun H=>?_;refine rg ?_;refine gU fun bA=>?_;refine gU fun cU=>?_;refine U V.au ?_;refine aA ?_;refine ae.draw rfl (by kernel_rfl) (a':=[.ka 4,.val 0,.val 1,.bR 2,.b9 [0],.bR 3,.bR 5]) (by kernel_rfl) ?_;refine bp.alloc rfl rfl rfl rfl rfl (lb Q g0) rfl rfl rfl fun cK=>?_;refine aT rfl V.ik ?_;refine aT rfl V.ik ?_;refine bp.iR ?_;refine' bc.dA rfl rfl rfl rfl rfl rfl rfl rfl rfl dx (QG eX) ?_;rintro v' m' ah hle ⟨rfl,rfl,rfl⟩;refine bc.b9 eH ?_;refine' bc.dA rfl rfl rfl rfl rfl rfl rfl rfl rfl (de (eI rfl) dx) (HK (s:=⟨-s.z,s.d⟩) rfl rfl dj Kd rd hL dF dq akI k6) ?_;rintro v' m' bK aK ⟨_,rfl,ev,gH,rfl,b4⟩;rw[show r.z*((⟨-s.z,s.d⟩:cE).d:Int)+(⟨-s.z,s.d⟩:cE).z*r.d=Z from tA.symm,show r.d*(⟨-s.z,s.d⟩:cE).d=r.d*s.d from rfl] at b4 ⊢;have cp:=b4;obtain⟨iN,fp,rfl,mM⟩:=b4.n.bG;obtain⟨kr,cl,rfl,nb⟩:=b4.d.bG;refine bc.iQ (fun x ab=>iV (f:=fun x=>(x.f,x.b2)) ab) ?_;refine mw rfl ?_;refine bp.nil ?_;refine ao ?_;refine ae.block ?_;refine rg ?_;refine U V.cJ ?_;refine U V.cI ?_;refine U V.h7 ?_;refine U V.bb ?_;refine U V.au ?_;refine aA ?_;refine If (fun cl=>?_) fun cl=>?_
 ·have aL:(bk Z (r.d*s.d)).z=0:=by
   rcases jj (bk Z (r.d*s.d)).z.natAbs with q|q
   ·omega
   ·have:=tT (jl q);omega
  refine rg ?_;refine U V.au ?_;refine aA ?_;refine ae.ret ?_;refine'⟨.inr rfl,rfl,_,[],.tmp rfl .nil,br _,?_⟩;first
   |exact⟨aK,rfl,by rw[ha.2.2.1 aL];rfl⟩
 ·have aL:(bk Z (r.d*s.d)).z≠0:=fun q=>by
   rw[q] at cl;rw[show(0:Int).natAbs=0 from rfl,l5] at cl;exact cl rfl
  refine rg ?_;refine U V.cJ ?_;refine U V.cI ?_;refine U V.au ?_;refine aA ?_;refine If (fun eR=>?_) fun eR=>?_
  ·refine rg ?_;refine U V.au ?_;refine aA ?_;refine ae.ret ?_;refine'⟨.inr rfl,rfl,_,[],.tmp rfl .nil,br _,?_⟩;first
    |exact⟨aK,rfl,by rw[ha.2.2.1 aL];rfl⟩
    |(have c:=eR
      exact⟨aK,rfl,by
          have ad:=mt ha.2.2.2 aL;have af:=ha.2.1.1 c;unfold sU;rw[bd ad,bj af];rfl⟩)
    |(have c:=eR
      exact⟨aK,rfl,by
          have ad:=mt ha.2.2.2 aL;have af:=mt ha.2.1.2 c;unfold sU;rw[bd ad,bd af];rfl⟩)
  ·refine ao ?_;refine ae.skip ?_;refine rg ?_;refine U V.au ?_;refine aA ?_;refine ae.ret ?_;refine'⟨.inr rfl,rfl,_,[],.tmp rfl .nil,br _,?_⟩;first
    |exact⟨aK,rfl,by rw[ha.2.2.1 aL];rfl⟩
    |(have c:=eR
      exact⟨aK,rfl,by
          have ad:=mt ha.2.2.2 aL;have af:=ha.2.1.1 c;unfold sU;rw[bd ad,bj af];rfl⟩)
    |(have c:=eR
      exact⟨aK,rfl,by
          have ad:=mt ha.2.2.2 aL;have af:=mt ha.2.1.2 c;unfold sU;rw[bd ad,bd af];rfl⟩)
end
theorem Xt{n c:Nat}{out:List Nat}(aJ:c≠0)(h:out++ai c=ai n):(out++[c % 1000000000])++ai (c / 1000000000)=ai n:=by
 rw[<-h,tU aJ,nM];rfl
section
variable {Q:dD Tryz.prog}{g0:Nat}{J:an}
theorem an4{n:Nat}(aE:n<1000000000000000000):Fn (a1 Q g0) 84 [.int .i64 (n:Int)] [] J (pb J n):=by
 have aD:(ai n).length<=2:=mG (iJ aE bC);refine Fn.cr (cu Tryz.func84) rfl rfl fun H=>?_;refine rg ?_;refine U V.au ?_;refine a2 ?_;refine U V.au ?_;refine aA ?_;refine ae.block ?_;refine' ae.dO (l':=[(0,.int .i64 ((n):Int)),(3,(.slice none 0 0))]) ⟨?w0,?eu,trivial⟩ (bx _) ?_;case w0=>first|exact bg|exact aa some (aa (Value.int .u64) I)|exact aa some (aa (Value.int .u32) I)|exact aa some (aa (Value.int .i64) I)
 case eu=>first|exact bg|exact aa some (aa (Value.int .u64) I)|exact aa some (aa (Value.int .u32) I)|exact aa some (aa (Value.int .i64) I)
 refine ao ?_;refine' ae.e2 (fun(a6:Nat×(List Nat)×Value×a8)=>match a6 with|(c,out,eu,bZ)=>⟨[(0,.int .i64 (c:Int)),(3,eu)],bZ,J,c<=n/\out++ai c=ai n/\Acc 72 1 eu out.length (b7 .u32 out) bZ,c⟩) ⟨n,[],.slice none 0 0,[]⟩ ?ag ?bD
 case ag=>exact⟨bX _,rfl,.nil⟩
 case bD=>
  rintro⟨c,out,eu,bZ⟩ hinv;try simp only at hinv
  obtain⟨aJ,aj,eW⟩:=hinv;refine rg ?_;refine U V.ay ?_;refine U V.bb ?_;refine aA ?_;refine If (fun e7=>?_) fun e7=>?_
  ·have lu:c≠0:=I
   have iP:out.length<=2:=by
    have:=aa List.length aj;rw[eS] at this;omega
   have Gd:(c:Int).tmod 1000000000=((c % 1000000000:Nat):Int):=(Iz c 1000000000).symm;have F2:(c:Int).tdiv 1000000000=((c / 1000000000:Nat):Int):=(B1 c 1000000000).symm;have C6:max ((c % 1000000000:Nat):Int) (-((c % 1000000000:Nat):Int))=((c % 1000000000:Nat):Int):=I
   have hw:IntKind.u32.wrap ((c % 1000000000:Nat):Int)=((c % 1000000000:Nat):Int):=wrap_u32 I I;have rl:IntKind.i64.wrap ((c / 1000000000:Nat):Int)=((c / 1000000000:Nat):Int):=wrap_i64 I I;refine dW ?_;refine ao ?_;refine ae.block ?_;refine rg ?_;refine U V.ay ?_;refine U V.hn ?_;refine U V.au ?_;refine a3 ?_;rw[Gd];refine rg ?_;refine al ?_;refine' W.step rfl (Exec.val rfl rfl (zu rfl rfl ?hw) ?_);case hw=>first|exact wrap_i64 I I|exact wrap_u8 I I|exact wrap_u64 I I|exact wrap_u32 I I|rfl
   refine' W.step rfl (Exec.val rfl rfl (H8 rfl rfl rfl rfl rfl) ?_);rw[C6];refine U V.d' ?_;refine ll (hb Q g0) fun qa=>?_;refine' W.step rfl (.of (qM rfl rfl rfl rfl rfl rfl (hb Q g0) (sZ Q g0) (fun i q=>by cases q) ?eW ?hm ?ab ?ei ?eh ?aD fun xZ G7 OF ajA=>?_));case eW=>exact eW
   case hm=>exact(zL _ bZ).symm
   case ab=>exact zf
   case ei=>first|rfl|(simp;done)|(simp;omega)
   case eh=>first|rfl|exact A0 _
   case aD=>exact(show out.length+1<=1000000 by omega)
   refine U V.au ?_;refine a2 ?_;refine U V.ay ?_;refine U V.hn ?_;refine U V.au ?_;refine a3 ?_;rw[F2,rl];have bD:c / 1000000000<=n/\(out++[c % 1000000000])++ai (c / 1000000000)=ai n/\Acc 72 1 xZ (out++[c % 1000000000]).length (b7 .u32 (out++[c % 1000000000])) G7:=⟨I,Xt lu aj,by rw[y4,eS];exact OF⟩;refine fl ⟨c / 1000000000,out++[c % 1000000000],xZ,G7⟩ ?_ (hm:=zM _ _);exact bD
  ·obtain rfl:c=0:=I
   rw[l5,iU] at aj;refine Acc.pO eW (.of_eq (iU bZ).symm) fun bK aK ax=>?_;rw[aj] at ax;refine ao ?_;refine ae.exit ?_;refine rg ?_;refine al ?_;refine aA ?_;refine ae.ret ?_;refine'⟨.inr rfl,rfl,_,[],.tmp rfl .nil,br _,⟨aK,rfl,ax⟩⟩
end
theorem Z3{α:Type}{l m:List α}{i:Nat}{x y:α}(h:l.take i=m.take i)(ab:l[i]?=some x)(aB:m[i]?=some y):x=y↔l.take (i+1)=m.take (i+1):=by
 rw[oz,oz,ab,aB,h];exact⟨fun q=>by rw[q],fun q=>by
  have:=List.append_cancel_left q;injection this⟩
theorem RY{α:Type}{l m:List α}(aD:l.length=m.length)(h:l.take l.length=m.take l.length):l=m:=by
 rw[uH,aD,uH] at h;exact h
theorem aoX{α:Type}{l m:List α}{i:Nat}(h:¬l.take i=m.take i):¬l=m:=fun q=>h (by rw[q])
theorem Qn{x y:Nat}(h:ai x=ai y):x=y:=by rw[<-e5 x,<-e5 y,h]
theorem xN{r s:cE}:r=s↔((r.z<0↔s.z<0)/\r.z.natAbs=s.z.natAbs/\r.d=s.d):=
 ⟨fun h=>by rw[h];exact⟨Iff.rfl,rfl,rfl⟩,fun⟨ad,af,aV⟩=>cE.NM I aV⟩
section
variable {Q:dD Tryz.prog}{g0:Nat}{J:an}
theorem TK{v w:Value}{x y:Nat}(ad:cM J v x)(af:cM J w y)(aD:(ai x).length<=60000):Fn (a1 Q g0) 31 [v,w] [] J (fun u m' ah=>m'=[]/\J=ah/\∃b,u=.bool b/\(b=true↔x=y)):=by
 have ku:cR .u32 J v (ai x):=ad;have jW:cR .u32 J w (ai y):=af;obtain⟨bQ,bH,rfl⟩:=ku.form;obtain⟨bL,bM,rfl⟩:=jW.form;refine Fn.cr (cu Tryz.func31) rfl rfl fun H=>?_;refine rg ?_;refine U V.au ?_;refine a2 ?_;refine al ?_;refine U V.bb ?_;refine aA ?_;refine If (fun cl=>?_) fun cl=>?_
 ·refine rg ?_;refine U V.au ?_;refine aA ?_;refine ae.ret ?_;refine'⟨.inr rfl,rfl,_,[],.tmp rfl .nil,br _,?_⟩;first
   |(have c:=cl;exact⟨rfl,rfl,false,rfl,(fun h=>by cases h),fun h=>by rw[h] at c;exact absurd rfl c⟩)
   |exact⟨rfl,rfl,true,rfl,(fun _=>Qn (RY I (by rw[show(ai x).length=i by omega];exact aS))),fun _=>rfl⟩
 ·refine ao ?_;refine ae.skip ?_;refine rg ?_;refine U V.au ?_;refine aA ?_;refine ae.block ?_;refine' ae.dO (l':=[(5,.int .i64 ((0):Int)),(0,_),(1,_)]) ⟨?gm,rfl,rfl,trivial⟩ (bx _) ?_;case gm=>first|exact bg|exact aa some (aa (Value.int .u64) I)|exact aa some (aa (Value.int .u32) I)|exact aa some (aa (Value.int .i64) I)
  refine ao ?_;refine' ae.lE (α:=(Nat)) (fun(i:Nat)=>[(5,.int .i64 (i:Int))]) (fun(i:Nat)=>i<=(ai x).length/\(ai x).take i=(ai y).take i) (fun(i:Nat)=>(ai x).length -i) (0) ?ag ?bD;case ag=>exact⟨ep _,by rw[fh,fh]⟩
  case bD=>
   rintro i hinv;try simp only at hinv
   obtain⟨ar,aS⟩:=hinv;refine rg ?_;refine al ?_;refine U V.bb ?_;refine aA ?_;refine If (fun gJ=>?_) fun gJ=>?_
   ·obtain⟨a,o,pi,e,rfl,hy,az⟩:=ku.at I;obtain⟨bV,o',Fk,b3,rfl,wJ,qv⟩:=jW.at I;obtain⟨p,ap,ha⟩:=az i I;obtain⟨q,bS,nz⟩:=qv i I;have ha:nth pi (o+((i:Int)).toNat*1)=some (.int .u32 (p:Int)):=ha;have nz:nth Fk (o'+((i:Int)).toNat*1)=some (.int .u32 (q:Int)):=nz;refine dW ?_;refine ao ?_;refine ae.block ?_;refine ao ?_;refine ae.draw rfl (by kernel_rfl) (a':=[.val 0,.val 1,.val 2,.val 3,.val 4,.val 5,.val 6,.val 7,.val 8]) (by kernel_rfl) ?_;refine eg ?_;refine aT rfl V.bh ?_;refine aT rfl V.cg ?_;refine eg ?_;refine aT rfl V.bh ?_;refine aT rfl V.cg ?_;refine aT rfl V.bb ?_;refine bp.nil ?_;refine ao ?_;refine If (fun mY=>?_) fun mY=>?_
    ·refine rg ?_;refine U V.au ?_;refine aA ?_;refine ae.ret ?_;refine'⟨.inr rfl,rfl,_,[],.tmp rfl .nil,br _,?_⟩;first
       |(have c:=cl;exact⟨rfl,rfl,false,rfl,(fun h=>by cases h),fun h=>by rw[h] at c;exact absurd rfl c⟩)
       |(have c:=mY;exact⟨rfl,rfl,false,rfl,(fun h=>by cases h),fun h=>by
            have k:=mt (Z3 aS ap bS).2 I;exact absurd (aa ai h) (aoX k)⟩)
       |exact⟨rfl,rfl,true,rfl,(fun _=>Qn (RY I (by rw[show(ai x).length=i by omega];exact aS))),fun _=>rfl⟩
    ·refine ao ?_;refine ae.skip ?_;refine rg ?_;refine U V.ay ?_;refine U V.aY ?_;refine U V.au ?_;refine a3 ?_;refine'⟨(i+1),_,?hinv,?gi,rfl,⟨?j1,rfl,rfl,trivial⟩,bx _,rfl⟩;case j1=>first|exact bg|exact aa some (aa (Value.int .u64) I)|exact aa some (aa (Value.int .u32) I)|exact aa some (aa (Value.int .i64) I)
     case gi=>exact bz
     case hinv=>exact⟨I,(Z3 aS ap bS).1 I⟩
   ·refine ao ?_;refine ae.exit ?_;refine rg ?_;refine U V.au ?_;refine aA ?_;refine ae.ret ?_;refine'⟨.inr rfl,rfl,_,[],.tmp rfl .nil,br _,?_⟩;first
     |(have c:=cl;exact⟨rfl,rfl,false,rfl,(fun h=>by cases h),fun h=>by rw[h] at c;exact absurd rfl c⟩)
     |exact⟨rfl,rfl,true,rfl,(fun _=>Qn (RY I (by rw[show(ai x).length=i by omega];exact aS))),fun _=>rfl⟩
theorem anO{r s:cE}{v1 v2 bm bW:Value}(av:fO J r v1 v2)(ag:fO J s bm bW)(dF:(ai r.z.natAbs).length<=60000)(dq:(ai r.d).length<=60000):Fn (a1 Q g0) 12 [c8 r v1 v2,c8 s bm bW] [] J (fun u m' ah=>m'=[]/\J=ah/\∃b,u=.bool b/\(b=true↔r=s)):=by
 have dj:=av;have eX:=ag;obtain⟨bQ,bH,rfl,aX⟩:=av.n.bG;obtain⟨bL,bM,rfl,aU⟩:=av.d.bG;obtain⟨cZ,db,rfl,b0⟩:=ag.n.bG;obtain⟨dE,dZ,rfl,dN⟩:=ag.d.bG;refine Fn.cr (cu Tryz.func12) rfl rfl fun H=>?_;refine rg ?_;refine gU fun bA=>?_;refine gU fun cU=>?_;refine U V.au ?_;refine a2 ?_;refine U V.cJ ?_;refine U V.cI ?_;refine U V.cJ ?_;refine U V.cI ?_;refine' W.step rfl (Exec.val rfl rfl (um rfl rfl rfl (.inl ⟨rfl,rfl⟩) (by kernel_rfl)) ?_);refine U V.ay ?_;refine ft 10 (fun N5=>?_) fun N5=>?_
 ·refine bo V.cJ ?_;refine bo V.cI ?_;refine bo V.cJ ?_;refine bo V.cI ?_;refine qf (G:=TK dj.n eX.n dF) (h:=?_);rintro v' m' ah hle ⟨rfl,rfl,MT,rfl,FX⟩;refine U V.bt ?_;refine U V.ay ?_;refine ft 17 (fun N4=>?_) fun N4=>?_
  ·refine bo V.cJ ?_;refine bo V.cI ?_;refine bo V.cJ ?_;refine bo V.cI ?_;refine qf (G:=TK dj.d eX.d dq) (h:=?_);rintro v' m' ah hle ⟨rfl,rfl,kW,rfl,oI⟩;refine U V.bt ?_;refine U V.au ?_;refine aA ?_;refine ae.ret ?_;refine'⟨.inr rfl,rfl,_,[],.tmp rfl .nil,br _,?_⟩;first
    |(have c:=oI;exact⟨rfl,rfl,kW,rfl,by rw[oI,xN];simp_all⟩)
    |(have c:=FX;exact⟨rfl,rfl,MT,rfl,by rw[xN];simp_all⟩)
    |exact⟨rfl,rfl,_,rfl,by rw[xN];simp_all⟩
  ·refine bs ?_;refine bs ?_;refine bs ?_;refine bs ?_;refine W.wH rfl rfl rfl rfl rfl ?_;refine U V.bt ?_;refine U V.au ?_;refine aA ?_;refine ae.ret ?_;refine'⟨.inr rfl,rfl,_,[],.tmp rfl .nil,br _,?_⟩;first
    |(have c:=oI;exact⟨rfl,rfl,kW,rfl,by rw[oI,xN];simp_all⟩)
    |(have c:=FX;exact⟨rfl,rfl,MT,rfl,by rw[xN];simp_all⟩)
    |exact⟨rfl,rfl,_,rfl,by rw[xN];simp_all⟩
 ·refine bs ?_;refine bs ?_;refine bs ?_;refine bs ?_;refine W.wH rfl rfl rfl rfl rfl ?_;refine U V.bt ?_;refine U V.ay ?_;refine bs ?_;refine bs ?_;refine bs ?_;refine bs ?_;refine W.wH rfl rfl rfl rfl rfl ?_;refine U V.bt ?_;refine U V.au ?_;refine aA ?_;refine ae.ret ?_;refine'⟨.inr rfl,rfl,_,[],.tmp rfl .nil,br _,?_⟩;first
   |(have c:=oI;exact⟨rfl,rfl,kW,rfl,by rw[oI,xN];simp_all⟩)
   |(have c:=FX;exact⟨rfl,rfl,MT,rfl,by rw[xN];simp_all⟩)
   |exact⟨rfl,rfl,_,rfl,by rw[xN];simp_all⟩
end
end
end Go.Opn
namespace Go.Opn
noncomputable section
structure cG where
 neg:Bool
 num:List Nat
 den:List Nat
open Classical in
def mm (l:List Nat):Int:=if j6 l then 0 else 3
open Classical in
def mq (n d:List Nat):Int:=if j6 n/\j6 d then(if d=[] then 6 else 0) else 3
open Classical in
def nc (x:cG):Int:=if mq x.num x.den=0 then(if(x.num=[]/\x.neg=true)\/Nat.gcd (aN x.num) (aN x.den)≠1 then 3 else 0) else mq x.num x.den
open Classical in
def lp (x:cG):Int:=if nc x=0 then(if x.neg=true then 2 else 0) else nc x
theorem nE{l:List Nat}(h:j6 l):mm l=0:=bj h
theorem Bd{l:List Nat}(h:¬j6 l):mm l=3:=bd h
theorem KY{l:List Nat}(h:mm l=0):j6 l:=by
 apply jh
 intro q;rw[Bd q] at h;cases h
theorem Uq{l:List Nat}{i x:Nat}(ab:l[i]?=some x)(h:1000000000<=x):¬j6 l:=fun q=>by
 have:=q.1 x (jS ab)
 omega
theorem Ur{l:List Nat}{x:Nat}(aD:l.length≠0)(ab:l[l.length -1]?=some x)(h:x=0):¬j6 l:=fun q=>q.2 x (by rw[qU];exact ab) h
theorem oF{l:List Nat}(h:∀z∈l.take l.length,z<1000000000)(aD:l.length≠0->∃x,l[l.length -1]?=some x/\x≠0):j6 l:=by
 rw[uH] at h
 refine⟨h,fun x ab=>?_⟩
 rw[qU] at ab
 by_cases q:l.length=0
 ·rw[kU q] at ab;cases ab
 ·obtain⟨y,ad,af⟩:=aD q
  rw[ad] at ab;injection ab with ab;rw[<-ab];exact af
theorem HX{α:Type}{P:α->Prop}{l:List α}{i:Nat}{x:α}(h:∀z∈l.take i,P z)(ab:l[i]?=some x)(ap:P x):∀z∈l.take (i+1),P z:=fun z aL=>by
 rw[oz,ab] at aL
 rcases qV.1 aL with q|q
 ·exact h z q
 ·rw[zK.1 q];exact ap
theorem YN{n d:List Nat}(h:mm n≠0):mq n d=mm n:=by
 have ad:¬j6 n:=fun q=>h (nE q)
 rw[Bd ad];exact bd fun q=>ad q.1
theorem YM{n d:List Nat}(h:mm d≠0):mq n d=mm d:=by
 have ad:¬j6 d:=fun q=>h (nE q)
 rw[Bd ad];exact bd fun q=>ad q.2
theorem YL{n d:List Nat}(ad:mm n=0)(af:mm d=0)(h:d.length=0):mq n d=6:=by
 unfold mq;rw[bj ⟨KY ad,KY af⟩,bj (kU h)]
theorem YO{n d:List Nat}(ad:mm n=0)(af:mm d=0)(h:d.length≠0):mq n d=0:=by
 unfold mq;rw[bj ⟨KY ad,KY af⟩,bd fun q=>h (by rw[q];rfl)]
theorem Rl{n d:List Nat}(h:mq n d=0):j6 n/\j6 d/\aN d≠0:=by
 unfold mq at h
 split at h
 ·next ad=>
  split at h
  ·cases h
  ·next af=>exact⟨ad.1,ad.2,fun q=>af (Sb ad.2 q)⟩
 ·cases h
theorem Rq{x:cG}(h:mq x.num x.den≠0):nc x=mq x.num x.den:=bd h
theorem je{x:cG}(h:mq x.num x.den=0)(af:(x.num=[]/\x.neg=true)\/Nat.gcd (aN x.num) (aN x.den)≠1):nc x=3:=by unfold nc;rw[bj h,bj af]
theorem sP{x:cG}(h:mq x.num x.den=0)(af:¬((x.num=[]/\x.neg=true)\/Nat.gcd (aN x.num) (aN x.den)≠1)):nc x=0:=by unfold nc;rw[bj h,bd af]
theorem ana{x:cG}(h:nc x=0):j6 x.num/\j6 x.den/\aN x.den≠0/\Nat.gcd (aN x.num) (aN x.den)=1:=by
 by_cases q:mq x.num x.den=0
 ·obtain⟨ad,af,aV⟩:=Rl q
  refine⟨ad,af,aV,jh fun e=>?_⟩
  rw[je q (.inr e)] at h;cases h
 ·rw[Rq q] at h;exact absurd h q
theorem NB{x:cG}(h:nc x≠0):lp x=nc x:=bd h
theorem NA{x:cG}(h:nc x=0)(aE:x.neg=true):lp x=2:=by unfold lp;rw[bj h,bj aE]
theorem UH{x:cG}(h:nc x=0)(aE:x.neg=false):lp x=0:=by unfold lp;rw[bj h,bd (by rw[aE];exact Bool.false_ne_true)]
def cG.rt(x:cG):cE:=⟨(aN x.num:Int),aN x.den⟩
theorem sc{x:cG}(h:lp x=0):x.neg=false/\x.num=ai (aN x.num)/\x.den=ai (aN x.den)/\x.rt.g4:=by
 by_cases q:nc x=0
 ·obtain⟨ad,af,aV,bq⟩:=ana q
  refine⟨?_,pg ad,pg af,r2 aV,bq⟩
  cases aE:x.neg with
  |false=>rfl
  |true=>rw[NA q aE] at h;cases h
 ·rw[NB q] at h;exact absurd h q
end
end Go.Opn
namespace Go.Opn
noncomputable section
open Go.Cre Go.RowKit Go.Proofs
structure p' (J:an) (x:cG) (v1 v2:Value):Prop where
 n:cR .u32 J v1 x.num
 d:cR .u32 J v2 x.den
 fU:x.num.length<=4
 cI:x.den.length<=4
theorem p'.mono{J ah:an}(hle:J.le ah){x:cG}{v1 v2:Value}(h:p' J x v1 v2):p' ah x v1 v2:=⟨h.n.mono hle,h.d.mono hle,h.fU,h.cI⟩
abbrev D1(x:cG)(v1 v2:Value):Value:=.agg #[.bool x.neg,v1,v2]
theorem p'.zg{J:an}{x:cG}{v1 v2:Value}(h:p' J x v1 v2)(aJ:j6 x.num/\j6 x.den):fO J x.rt v1 v2:=⟨by
 show cM J v1 (aN x.num);unfold cM;rw[<-pg aJ.1];exact h.n,by
 show cM J v2 (aN x.den);unfold cM;rw[<-pg aJ.2];exact h.d⟩
section
variable {Q:dD Tryz.prog}{g0:Nat}{J:an}
theorem X'{v:Value}{l:List Nat}(h:cR .u32 J v l)(aD:l.length<=4):Fn (a1 Q g0) 113 [v] [] J (fun u m' ah=>u=.int .i64 (mm l)/\m'=[]/\J=ah):=by
 obtain⟨bQ,bH,rfl⟩:=h.form;have g':=h.at;refine Fn.cr (cu Tryz.func113) rfl rfl fun H=>?_;refine rg ?_;refine U V.au ?_;refine a2 ?_;refine al ?_;refine U V.bb ?_;refine aA ?_;refine If (fun hE=>?_) fun hE=>?_
 ·exfalso;omega
 ·refine ao ?_;refine ae.skip ?_;refine rg ?_;refine al ?_;refine aA ?_;refine ae.block ?_;refine' ae.dO (l':=[(10,.int .i64 ((0):Int)),(0,_),(8,_),(9,_)]) ⟨?ur,rfl,rfl,rfl,trivial⟩ (bx _) ?_;case ur=>first|exact bg|exact aa some (aa (Value.int .u64) I)|exact aa some (aa (Value.int .u32) I)|exact aa some (aa (Value.int .i64) I)
  refine ao ?_;refine' ae.lE (α:=(Nat)) (fun(i:Nat)=>[(10,.int .i64 (i:Int))]) (fun(i:Nat)=>i<=l.length/\(∀z∈l.take i,z<1000000000)) (fun(i:Nat)=>l.length -i) (0) ?ag ?bD;case ag=>exact⟨ep _,fun z aL=>by rw[fh] at aL;cases aL⟩
  case bD=>
   rintro i hinv;try simp only at hinv
   obtain⟨ar,h2⟩:=hinv;refine rg ?_;refine U V.bb ?_;refine aA ?_;refine If (fun kb=>?_) fun kb=>?_
   ·obtain⟨a,o,pi,e,rfl,hy,az⟩:=g' I;obtain⟨p,ap,ha⟩:=az i I;refine dW ?_;refine ao ?_;refine ae.block ?_;refine rg ?_;refine U V.bh ?_;refine U V.cg ?_;refine U V.au ?_;refine a2 ?_;refine U V.ay ?_;refine U V.bb ?_;refine aA ?_;refine If (fun eR=>?_) fun eR=>?_
    ·have tB:=Bd (Uq ap I);refine rg ?_;refine U V.au ?_;refine aA ?_;refine ae.ret ?_;refine'⟨.inr rfl,rfl,_,[],.tmp rfl .nil,br _,?_⟩;first
       |exact⟨by rw[tB];rfl,rfl,rfl⟩
       |exact⟨by rw[nE (oF h2 (fun _=>⟨p,ap,I⟩))];rfl,rfl,rfl⟩
       |exact⟨by rw[nE (oF h2 (fun q=>absurd q I))];rfl,rfl,rfl⟩
    ·refine ao ?_;refine ae.skip ?_;refine rg ?_;refine U V.aY ?_;refine U V.ay ?_;refine a3 ?_;refine'⟨(i+1),_,?hinv,?gi,rfl,⟨?tV,rfl,rfl,rfl,trivial⟩,bx _,rfl⟩;case tV=>first|exact bg|exact aa some (aa (Value.int .u64) I)|exact aa some (aa (Value.int .u32) I)|exact aa some (aa (Value.int .i64) I)
     case gi=>exact bz
     case hinv=>exact⟨I,HX h2 ap I⟩
   ·have AA:i=l.length:=I
    rw[AA] at h2;refine ao ?_;refine ae.exit ?_;refine rg ?_;refine al ?_;refine U V.bb ?_;refine U V.ay ?_;refine ft 20 (fun agG=>?_) fun agG=>?_
    ·obtain⟨a,o,pi,e,rfl,hy,az⟩:=g' I;obtain⟨p,ap,ha⟩:=az (l.length -1) I;have ha:nth pi (o+((l.length:Int) -1).toNat*1)=some (.int .u32 (p:Int)):=by
       rw[show((l.length:Int) -1).toNat=l.length -1 by omega];exact ha
     refine bo V.ay ?_;refine bo V.ay ?_;refine bo V.h7 ?_;refine bo V.aY ?_;refine bo V.bh ?_;refine bo V.cg ?_;refine bo V.bb ?_;refine U V.bt ?_;refine aA ?_;refine If (fun MZ=>?_) fun MZ=>?_
     ·have tB:=Bd (Ur I ap I);refine rg ?_;refine U V.au ?_;refine aA ?_;refine ae.ret ?_;refine'⟨.inr rfl,rfl,_,[],.tmp rfl .nil,br _,?_⟩;first
       |exact⟨by rw[tB];rfl,rfl,rfl⟩
       |exact⟨by rw[nE (oF h2 (fun _=>⟨p,ap,I⟩))];rfl,rfl,rfl⟩
       |exact⟨by rw[nE (oF h2 (fun q=>absurd q I))];rfl,rfl,rfl⟩
     ·refine ao ?_;refine ae.skip ?_;refine rg ?_;refine U V.au ?_;refine aA ?_;refine ae.ret ?_;refine'⟨.inr rfl,rfl,_,[],.tmp rfl .nil,br _,?_⟩;first
       |exact⟨by rw[tB];rfl,rfl,rfl⟩
       |exact⟨by rw[nE (oF h2 (fun _=>⟨p,ap,I⟩))];rfl,rfl,rfl⟩
       |exact⟨by rw[nE (oF h2 (fun q=>absurd q I))];rfl,rfl,rfl⟩
    ·refine bs ?_;refine bs ?_;refine bs ?_;refine bs ?_;refine bs ?_;refine bs ?_;refine bs ?_;refine U V.bt ?_;refine aA ?_;refine ae.sb rfl ?_;refine fy ?_;refine U V.au ?_;refine aA ?_;refine ae.ret ?_;refine'⟨.inr rfl,rfl,_,[],.tmp rfl .nil,br _,?_⟩;first
       |exact⟨by rw[tB];rfl,rfl,rfl⟩
       |exact⟨by rw[nE (oF h2 (fun _=>⟨p,ap,I⟩))];rfl,rfl,rfl⟩
       |exact⟨by rw[nE (oF h2 (fun q=>absurd q I))];rfl,rfl,rfl⟩
theorem anH{v w:Value}{n d:List Nat}(ad:cR .u32 J v n)(af:cR .u32 J w d)(dF:n.length<=4)(dq:d.length<=4):Fn (a1 Q g0) 80 [v,w] [] J (fun u m' ah=>u=.int .i64 (mq n d)/\m'=[]/\J=ah):=by
 have ku:=ad;have jW:=af;obtain⟨bQ,bH,rfl⟩:=ad.form;obtain⟨bL,bM,rfl⟩:=af.form;refine Fn.cr (cu Tryz.func80) rfl rfl fun H=>?_;refine rg ?_;refine U V.au ?_;refine a2 ?_;refine U V.ay ?_;refine bN (G:=X' ku dF) (h:=?_);rintro v' m' ah hle ⟨rfl,rfl,rfl⟩;refine U V.au ?_;refine a3 ?_;refine eP [1,5] ?_;refine ao ?_;refine' ae.hf 0 [(10,.bool (decide ((mm n≠0))))] ?ph ?pj;case ph=>
  refine ae.region ?_;refine U V.ay ?_;refine U V.bb ?_;refine a3 ?_;refine'⟨⟨_,rfl,⟨?k7,rfl,rfl,trivial⟩⟩,bx _,rfl⟩;case k7=>first|exact fw rfl I|exact fu rfl I|exact fv rfl I|exact fE rfl I
 case pj=>
  refine ao ?_;refine If (fun cl=>?_) fun cl=>?_
  ·have he:=YN (d:=d) cl;refine rg ?_;refine al ?_;refine aA ?_;refine ae.ret ?_;refine'⟨.inr rfl,rfl,_,[],.tmp rfl .nil,br _,⟨by rw[he];rfl,rfl,rfl⟩⟩
  ·have cl:mm n=0:=jh fun q=>cl q;refine fy ?_;refine U V.ay ?_;refine bN (G:=X' jW dq) (h:=?_);rintro v' m' ah hle ⟨rfl,rfl,rfl⟩;refine U V.au ?_;refine a3 ?_;refine eP [1,6] ?_;refine ao ?_;refine' ae.hf 0 [(15,.bool (decide ((mm d≠0))))] ?Ff ?Fo;case Ff=>
    refine ae.region ?_;refine U V.ay ?_;refine U V.bb ?_;refine a3 ?_;refine'⟨⟨_,rfl,⟨?Hc,rfl,rfl,trivial⟩⟩,bx _,rfl⟩;case Hc=>first|exact fw rfl I|exact fu rfl I|exact fv rfl I|exact fE rfl I
   case Fo=>
    refine ao ?_;refine If (fun eR=>?_) fun eR=>?_
    ·have he:=YM (n:=n) eR;refine rg ?_;refine al ?_;refine aA ?_;refine ae.ret ?_;refine'⟨.inr rfl,rfl,_,[],.tmp rfl .nil,br _,⟨by rw[he];rfl,rfl,rfl⟩⟩
    ·have eR:mm d=0:=jh fun q=>eR q;refine fy ?_;refine al ?_;refine U V.bb ?_;refine aA ?_;refine If (fun q2=>?_) fun q2=>?_
     ·have he:=YL cl eR I;refine rg ?_;refine U V.au ?_;refine aA ?_;refine ae.ret ?_;refine'⟨.inr rfl,rfl,_,[],.tmp rfl .nil,br _,⟨by rw[he];rfl,rfl,rfl⟩⟩
     ·have he:=YO cl eR I;refine fy ?_;refine U V.au ?_;refine aA ?_;refine ae.ret ?_;refine'⟨.inr rfl,rfl,_,[],.tmp rfl .nil,br _,⟨by rw[he];rfl,rfl,rfl⟩⟩
theorem anf{x:cG}{v1 v2:Value}{e:TypeId}(cB:J 2=some (b7 .u8 pT,e))(aF:Nat.blt 2 (a1 Q g0).g0=true)(h:p' J x v1 v2):Fn (a1 Q g0) 47 [D1 x v1 v2] [] J (fun u m' ah=>u=.int .i64 (nc x)/\m'=[]/\J.le ah):=by
 have aO:=h;obtain⟨bQ,bH,rfl⟩:=h.n.form;obtain⟨bL,bM,rfl⟩:=h.d.form;refine Fn.cr (cu Tryz.func47) rfl rfl fun H=>?_;refine rg ?_;refine gU fun bO=>?_;refine U V.au ?_;refine a2 ?_;refine U V.cJ ?_;refine U V.cg ?_;refine U V.cJ ?_;refine U V.cg ?_;refine bN (G:=anH aO.n aO.d aO.fU aO.cI) (h:=?_);rintro v' m' ah hle ⟨rfl,rfl,rfl⟩;refine U V.au ?_;refine a3 ?_;refine eP [1,3] ?_;refine ao ?_;refine' ae.hf 0 [(10,.bool (decide ((mq x.num x.den≠0))))] ?ph ?pj;case ph=>
  refine ae.region ?_;refine U V.ay ?_;refine U V.bb ?_;refine a3 ?_;refine'⟨⟨_,rfl,⟨?k7,rfl,rfl,trivial⟩⟩,bx _,rfl⟩;case k7=>first|exact fw rfl I|exact fu rfl I|exact fv rfl I|exact fE rfl I
 case pj=>
  refine ao ?_;refine If (fun cl=>?_) fun cl=>?_
  ·have he:=Rq cl;refine rg ?_;refine al ?_;refine aA ?_;refine ae.ret ?_;refine'⟨.inr rfl,rfl,_,[],.tmp rfl .nil,br _,?_⟩;first
    |exact⟨by rw[he];rfl,rfl,an.le.refl _⟩
    |exact⟨by rw[je cl (.inl ⟨kU I,q8⟩)];rfl,rfl,an.le.refl _⟩
    |exact⟨by rw[je cl (.inr hD)];rfl,rfl,aK⟩
    |exact⟨by rw[sP cl (fun q=>q.elim (fun q=>by first|exact absurd (q.2.symm.trans q8) bC|exact wG (by rw[q.1];rfl)) hD)];rfl,rfl,aK⟩
  ·have cl:mq x.num x.den=0:=jh fun q=>cl q;have sn:=Rl cl;have c0:=aO.zg ⟨sn.1,sn.2.1⟩;have fU:(ai (aN x.num)).length<=100000:=by rw[<-pg sn.1];exact cY aO.fU bC
   have cI:(ai (aN x.den)).length<=100000:=by rw[<-pg sn.2.1];exact cY aO.cI bC
   refine fy ?_;refine U V.cJ ?_;refine U V.cg ?_;refine U V.h7 ?_;refine U V.bb ?_;refine U V.ay ?_;refine ft 16 (fun wG=>?_) fun wG=>?_
   ·refine bo V.cJ ?_;refine bo V.cg ?_;refine U V.bt ?_;refine U V.ay ?_;refine ft 20 (fun q8=>?_) fun q8=>?_
    ·refine bs ?_;refine bs ?_;refine bs ?_;refine bs ?_;refine W.wH rfl rfl rfl rfl rfl ?_;refine bs ?_;refine U V.bt ?_;refine aA ?_;refine ae.Fe rfl ?_;refine rg ?_;refine U V.au ?_;refine aA ?_;refine ae.ret ?_;refine'⟨.inr rfl,rfl,_,[],.tmp rfl .nil,br _,?_⟩;first
        |exact⟨by rw[he];rfl,rfl,an.le.refl _⟩
        |exact⟨by rw[je cl (.inl ⟨kU I,q8⟩)];rfl,rfl,an.le.refl _⟩
        |exact⟨by rw[je cl (.inr hD)];rfl,rfl,aK⟩
        |exact⟨by rw[sP cl (fun q=>q.elim (fun q=>by first|exact absurd (q.2.symm.trans q8) bC|exact wG (by rw[q.1];rfl)) hD)];rfl,rfl,aK⟩
    ·refine bo V.cJ ?_;refine bo V.cg ?_;refine bo V.cJ ?_;refine bo V.cg ?_;refine qf (G:=Xe cB aF c0.n c0.d fU cI) (h:=?_);rintro v' m' bK hle ⟨rfl,rfl,aK⟩;refine bo V.rB ?_;refine U V.bt ?_;refine aA ?_;refine If (fun hD=>?_) fun hD=>?_
     ·refine rg ?_;refine U V.au ?_;refine aA ?_;refine ae.ret ?_;refine'⟨.inr rfl,rfl,_,[],.tmp rfl .nil,br _,?_⟩;first
       |exact⟨by rw[he];rfl,rfl,an.le.refl _⟩
       |exact⟨by rw[je cl (.inl ⟨kU I,q8⟩)];rfl,rfl,an.le.refl _⟩
       |exact⟨by rw[je cl (.inr hD)];rfl,rfl,aK⟩
       |exact⟨by rw[sP cl (fun q=>q.elim (fun q=>by first|exact absurd (q.2.symm.trans q8) bC|exact wG (by rw[q.1];rfl)) hD)];rfl,rfl,aK⟩
     ·refine ao ?_;refine ae.skip ?_;refine rg ?_;refine U V.au ?_;refine aA ?_;refine ae.ret ?_;refine'⟨.inr rfl,rfl,_,[],.tmp rfl .nil,br _,?_⟩;first
       |exact⟨by rw[he];rfl,rfl,an.le.refl _⟩
       |exact⟨by rw[je cl (.inl ⟨kU I,q8⟩)];rfl,rfl,an.le.refl _⟩
       |exact⟨by rw[je cl (.inr hD)];rfl,rfl,aK⟩
       |exact⟨by rw[sP cl (fun q=>q.elim (fun q=>by first|exact absurd (q.2.symm.trans q8) bC|exact wG (by rw[q.1];rfl)) hD)];rfl,rfl,aK⟩
   ·refine bs ?_;refine bs ?_;refine U V.bt ?_;refine U V.ay ?_;refine bo V.cJ ?_;refine bo V.cg ?_;refine bo V.cJ ?_;refine bo V.cg ?_;refine qf (G:=Xe cB aF c0.n c0.d fU cI) (h:=?_);rintro v' m' bK hle ⟨rfl,rfl,aK⟩;refine bo V.rB ?_;refine U V.bt ?_;refine aA ?_;refine If (fun hD=>?_) fun hD=>?_
    ·refine rg ?_;refine U V.au ?_;refine aA ?_;refine ae.ret ?_;refine'⟨.inr rfl,rfl,_,[],.tmp rfl .nil,br _,?_⟩;first
        |exact⟨by rw[he];rfl,rfl,an.le.refl _⟩
        |exact⟨by rw[je cl (.inl ⟨kU I,q8⟩)];rfl,rfl,an.le.refl _⟩
        |exact⟨by rw[je cl (.inr hD)];rfl,rfl,aK⟩
        |exact⟨by rw[sP cl (fun q=>q.elim (fun q=>by first|exact absurd (q.2.symm.trans q8) bC|exact wG (by rw[q.1];rfl)) hD)];rfl,rfl,aK⟩
    ·refine ao ?_;refine ae.skip ?_;refine rg ?_;refine U V.au ?_;refine aA ?_;refine ae.ret ?_;refine'⟨.inr rfl,rfl,_,[],.tmp rfl .nil,br _,?_⟩;first
        |exact⟨by rw[he];rfl,rfl,an.le.refl _⟩
        |exact⟨by rw[je cl (.inl ⟨kU I,q8⟩)];rfl,rfl,an.le.refl _⟩
        |exact⟨by rw[je cl (.inr hD)];rfl,rfl,aK⟩
        |exact⟨by rw[sP cl (fun q=>q.elim (fun q=>by first|exact absurd (q.2.symm.trans q8) bC|exact wG (by rw[q.1];rfl)) hD)];rfl,rfl,aK⟩
end
end
end Go.Opn

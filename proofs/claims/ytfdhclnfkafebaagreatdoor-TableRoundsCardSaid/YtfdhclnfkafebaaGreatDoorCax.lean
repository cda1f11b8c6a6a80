/- A part of the proof of TableRounds. -/
import Derived.Test.YtfdhclnfkafebaaGreatDoorCaw
import Derived.Test.YtfdhclnfkafebaaGreatDoorCal
import Derived.Test.YtfdhclnfkafebaaGreatDoorCas
set_option maxRecDepth 100000
set_option maxHeartbeats 8000000
set_option linter.unusedVariables false
set_option linter.unusedSimpArgs false
namespace Go.Opn
noncomputable section
open Go.Cre Go.RowKit Go.Proofs
theorem fZ.neg{J:an}{r:cE}{v1 v2:Value}(h:fZ J r v1 v2):fZ J ⟨-r.z,r.d⟩ v1 v2:=⟨by show cx J v1 (-r.z).natAbs;rw[vZ];exact h.n,h.d⟩
theorem adX{r:cE}(h:r.g4):(⟨-r.z,r.d⟩:cE).g4:=⟨h.1,by show Nat.Coprime (-r.z).natAbs r.d;rw[vZ];exact h.2⟩
theorem hW.neg{k:Nat}{r:cE}(h:hW k r):hW k ⟨-r.z,r.d⟩:=⟨by show(aR (-r.z).natAbs).length<=k;rw[vZ];exact h.n,h.d⟩
theorem alf{p q:Int}(ap:p≠0)(bS:q≠0):decide (¬(decide (p<0)=decide (q<0)))=decide (p*q<0):=by
 rcases vX p 0 with a|a
 ·rcases vX q 0 with b|b
  ·have:=aba a b
   rw[ie a,ie b,fx (show ¬p*q<0 by omega)];rfl
  ·have:=BX a (show 0<q by omega)
   rw[ie a,fx (show ¬q<0 by omega),ie this];rfl
 ·rcases vX q 0 with b|b
  ·have:=SM (show 0<p by omega) b
   rw[fx (show ¬p<0 by omega),ie b,ie this];rfl
  ·have:=kT a b
   rw[fx (show ¬p<0 by omega),fx (show ¬q<0 by omega),fx (show ¬p*q<0 by omega)];rfl
section
variable {Q:dD Tryz.prog}{g0:Nat}{J:an}
theorem aoJ{r s:cE}{v1 v2 bm bW:Value}(av:fZ J r v1 v2)(ag:fZ J s bm bW)(hl:r.g4)(cs:s.g4){k j:Nat}(fr:hW k r)(g9:hW j s)(hk:k<=30000)(bf:j<=30000):Fn (a1 Q g0) 60 [c8 r v1 v2,c8 s bm bW] [] J (p8 J (bk (r.z*s.d+-s.z*r.d) (r.d*s.d))):=by
 have dj:=av;have eX:=ag;obtain⟨bQ,dv,bH,rfl,aX,h6,gN⟩:=av.n.b6;obtain⟨bL,dV,bM,rfl,aU,l1,gO⟩:=av.d.b6;obtain⟨cZ,en,db,rfl,b0,yP,w7⟩:=ag.n.b6;obtain⟨dE,fH,dZ,rfl,dN,Gg,w8⟩:=ag.d.b6;have xb:eD 8 (c8 r (.slice bQ dv bH) (.slice bL dV bM)) (c8 r (.slice bQ dv bH) (.slice bL dV bM))=true:=by simp[eD,jB,aX,aU,nn]
 refine Fn.cr (cu Tryz.func60) rfl rfl fun H=>?_;refine rg ?_;refine gU fun bA=>?_;refine gU fun cU=>?_;refine' W.step rfl (.of (gx rfl rfl rfl (nh Q g0) rfl rfl rfl fun dn=>?_));refine aA ?_;refine ae.draw rfl (by kernel_rfl) (a':=[.val 0,.val 1,.bR 2,.b9 [0],.bR 3,.bR 4]) (by kernel_rfl) ?_;refine aT rfl V.ik ?_;refine aT rfl V.ik ?_;refine bp.iR ?_;refine' bc.dA rfl rfl rfl rfl rfl rfl rfl rfl rfl dx (ale eX) ?_;rintro v' m' ah hle ⟨rfl,rfl,rfl⟩;refine bc.b9 eH ?_;refine' bc.dA rfl rfl rfl rfl rfl rfl rfl rfl rfl (de (eI rfl) dx) (TB dj eX.neg hl (adX cs) fr g9.neg hk bf) ?_;rintro v' m' bK aK ⟨_,rfl,ev,gH,rfl,b4⟩;have cp:=b4;obtain⟨fI,kg,gV,rfl,gl,_,_⟩:=b4.n.b6;obtain⟨gz,gk,e7,rfl,iC,_,_⟩:=b4.d.b6;refine bc.iQ (fun x ab=>iV (f:=fun x=>(x.f,x.b2)) ab) ?_;refine mw rfl ?_;refine bp.nil ?_;refine ao ?_;refine ae.ret ?_;refine'⟨.inr rfl,rfl,_,[],.cell rfl (by repeat first|exact .head _|refine .tail _ ?_|refine eF _ ?_) (fA (dm rfl) rfl) (.nil),br _,⟨aK,rfl,_,_,rfl,cp⟩⟩
theorem X2{r s:cE}{v1 v2 bm bW:Value}(av:fZ J r v1 v2)(ag:fZ J s bm bW)(hl:r.g4)(cs:s.g4)(sz:s.z≠0){k j:Nat}(fr:hW k r)(g9:hW j s)(hk:k<=30000)(bf:j<=30000):Fn (a1 Q g0) 41 [c8 r v1 v2,c8 s bm bW] [] J (p8 J (bk (r.z*s.z) (r.d*s.d))):=by
 have dj:=av;have eX:=ag;obtain⟨bQ,dv,bH,rfl,aX,h6,gN⟩:=av.n.b6;obtain⟨bL,dV,bM,rfl,aU,l1,gO⟩:=av.d.b6;obtain⟨cZ,en,db,rfl,b0,yP,w7⟩:=ag.n.b6;obtain⟨dE,fH,dZ,rfl,dN,Gg,w8⟩:=ag.d.b6;have rd:=hl.1;have hL:=cs.1;have Qz:=fr.n;have Qy:=fr.d;have XF:=g9.n;have XE:=g9.d;have tR:=jl rd;have vw:=jl hL;have xb:eD 8 (c8 r (.slice bQ dv bH) (.slice bL dV bM)) (c8 r (.slice bQ dv bH) (.slice bL dV bM))=true:=by simp[eD,jB,aX,aU,nn]
 have AR:eD 8 (c8 s (.slice cZ en db) (.slice dE fH dZ)) (c8 s (.slice cZ en db) (.slice dE fH dZ))=true:=by simp[eD,jB,b0,dN,nn]
 refine Fn.cr (cu Tryz.func41) rfl rfl fun H=>?_;refine rg ?_;refine gU fun bA=>?_;refine gU fun cU=>?_;refine' W.step rfl (.of (gx rfl rfl rfl (nh Q g0) rfl rfl rfl fun dn=>?_));refine a3 ?_;refine eP [2,3,4] ?_;refine ao ?_;refine' ae.hf 0 [(18,.bool (decide ((dv=0\/en=0))))] ?m0 ?m2;case m0=>
  refine ae.region ?_;refine U V.cJ ?_;refine U V.cI ?_;refine U V.h7 ?_;refine U V.bb ?_;refine U V.ay ?_;refine ft 13 (fun agw=>?_) fun agw=>?_
  ·refine bs ?_;refine bs ?_;refine bs ?_;refine bs ?_;refine U V.bt ?_;refine a3 ?_;refine'⟨⟨_,rfl,⟨?DH,rfl,rfl,rfl,trivial⟩⟩,bx _,rfl⟩;case DH=>first|exact fw rfl (by first|omega|(simp_all))|exact fu rfl (by first|omega|(simp_all))|exact fv rfl (by first|omega|(simp_all))|exact fE rfl (by first|omega|(simp_all))
  ·refine bo V.cJ ?_;refine bo V.cI ?_;refine bo V.h7 ?_;refine bo V.bb ?_;refine U V.bt ?_;refine a3 ?_;refine'⟨⟨_,rfl,⟨?DH,rfl,rfl,rfl,trivial⟩⟩,bx _,rfl⟩;case DH=>first|exact fw rfl (by first|omega|(simp_all))|exact fu rfl (by first|omega|(simp_all))|exact fv rfl (by first|omega|(simp_all))|exact fE rfl (by first|omega|(simp_all))
 case m2=>
  refine ao ?_;refine If (fun kE=>?_) fun kE=>?_
  ·have yT:r.z=0:=by
    rcases kE with k|k
    ·exact ox.1 (h6.z k)
    ·exact absurd (ox.1 (yP.z k)) sz
   have nZ:bk (r.z*s.z) (r.d*s.d)=⟨0,1⟩:=by rw[yT,x8];exact rA (iW rd hL)
   refine rg ?_;refine U V.kW ?_;refine e9 ?_;refine aA ?_;refine ae.ret ?_;refine'⟨.inr rfl,rfl,_,[],.cell rfl (by repeat first|exact .head _|refine .tail _ ?_|refine eF _ ?_) (fA (dm rfl) rfl) (.nil),br _,?_⟩;first
    |(rw[nZ];exact⟨an.le.refl _,rfl,.slice none 0 0,.slice none 0 0,rfl,cx.nil,cx.nil⟩)
    |exact⟨(((((((((((aK.trans bi).trans cn).trans eL).trans gu).trans h5).trans kd).trans iz).trans jF).trans mE).trans qp).trans pv).trans vh,rfl,_,_,CC D.xK,cp.cast D.xK⟩
  ·have yT:r.z≠0:=fun k=>kE (.inl (h6.ir (ox.2 k)));obtain⟨g,h,b,e,p,q,D⟩:=ak8 hl cs yT sz;have GS:=jl D.g0;have GU:=jl D.aO;have aj3:=jl D.g8;have aj5:=jl D.jC;have asZ:=B0.2 D.oX;have as0:=B0.2 D.b0;have e2:=cY (jv D.DV) fr.n;have ate:=cY (jv D.dN) g9.n;have pF:=cY (jv D.bL) fr.d;have le:=cY (jv D.aW) g9.d;have Xs:=cY (jv (show g<=s.d by rw[<-D.ck];exact Te _ hL)) g9.d;have aky:=cY (jv (show h<=r.d by rw[<-D.ad];exact Te _ rd)) fr.d;refine dW ?_;refine ao ?_;refine ae.draw rfl (by kernel_rfl) (a':=[.val 0,.val 1,.val 2,.val 5,.val 6,.val 7,.bR 3,.b9 [7,6,5,1,0],.bR 4,.b9 [7,6,5],.bR 8,.b9 [6,5],.bR 9,.val 10,.val 11]) (by kernel_rfl) ?_;refine aT rfl V.cJ ?_;refine aT rfl V.cI ?_;refine aT rfl V.ik ?_;refine aT rfl V.cJ ?_;refine aT rfl V.cI ?_;refine aT rfl V.ik ?_;refine bp.iR ?_;refine' bc.dA rfl rfl rfl rfl rfl rfl rfl rfl rfl dx (pe eX vw) ?_;rintro v' m' bK aK ⟨_,rfl,oe⟩;have rm:=oe;obtain⟨fI,kg,gV,rfl,gl,_,_⟩:=oe.b6;refine bc.b9 eH ?_;refine' bc.dA rfl rfl rfl rfl rfl rfl rfl rfl rfl (de (eI rfl) dx) (LH (dj.mono aK).n rm I I) ?_;rintro v' m' dT bi ⟨_,rfl,tP⟩;have pA:=tP;obtain⟨gz,gk,e7,rfl,iC,_,_⟩:=tP.b6;refine bc.b9 eH ?_;refine' bc.dA rfl rfl rfl rfl rfl rfl rfl rfl rfl (de (eI rfl) (de (fun _ aI=>j'.ag (aK.trans bi) (eX.Fl ((dj.mono aK).mono bi) (aK.trans bi) hL rd aI) rfl) dx)) (pe ((dj.mono aK).mono bi) tR) ?_;rintro v' m' ga cn ⟨_,rfl,sD⟩;have oc:=sD;obtain⟨mB,vC,hE,rfl,nH,_,_⟩:=sD.b6
   refine bc.b9 eH ?_;refine' bc.dA rfl rfl rfl rfl rfl rfl rfl rfl rfl (de (eI rfl) (de (fun _ aI=>j'.ag (bi.trans cn) (by rw[(dj.mono aK).n.o2 (((eX.mono aK).mono bi).mono cn).n (bi.trans cn) (lL aI).1,rm.o2 oc (bi.trans cn) (lL aI).2]) rfl) (de (eI rfl) dx))) (LH (((eX.mono aK).mono bi).mono cn).n oc I I) ?_;rintro v' m' mQ eL ⟨_,rfl,sE⟩;rw[D.ad] at sE;have rn:=sE;obtain⟨mW,nD,jU,rfl,oq,_,_⟩:=sE.b6;rw[D.ck] at pA;have pA:=(pA.mono cn).mono eL;have w8:=(((dj.mono aK).mono bi).mono cn).mono eL;have sy:=(((eX.mono aK).mono bi).mono cn).mono eL;refine bc.iQ (fun x ab=>iV (f:=fun x=>(x.f,x.b2)) ab) ?_;refine eg ?_;refine bp.nil ?_;refine ao ?_;refine ae.draw rfl (by kernel_rfl) (a':=[.val 0,.val 1,.val 2,.val 4,.val 5,.val 6,.bR 3,.b9 [6,5,4],.bR 7,.bR 8,.val 9]) (by kernel_rfl) ?_;refine aT rfl V.cJ ?_;refine aT rfl V.cI ?_;refine eg ?_;refine aT rfl V.cI ?_;refine aT rfl V.ay ?_;refine bp.iR ?_;refine' bc.dA rfl rfl rfl rfl rfl rfl rfl rfl rfl dx (ze w8.n pA I I GS) ?_;rintro v' m' p4 gu ⟨_,rfl,Dj⟩;have od:=Dj;obtain⟨iN,mK,fp,rfl,mM,_,_⟩:=Dj.b6;refine bc.b9 eH ?_;refine' bc.dA rfl rfl rfl rfl rfl rfl rfl rfl rfl (de (fun _ aI=>j'.ag gu (by rw[w8.n.o2 (sy.mono gu).n gu (lL aI).1,pA.o2 (rn.mono gu) gu (lL aI).2]) rfl) dx) (ze (sy.mono gu).n (rn.mono gu) I I GU) ?_;rintro v' m' uC h5 ⟨_,rfl,GH⟩;have GB:=GH;obtain⟨kr,k7,cl,rfl,nb,_,_⟩:=GH.b6;rw[D.dr] at od;rw[D.aX] at GB;refine' bc.dA rfl rfl rfl rfl rfl rfl rfl rfl rfl (de (eI rfl) (de (eI rfl) dx)) (BD (od.mono h5) GB I I) ?_
   rintro v' m' zG kd ⟨_,rfl,Dg⟩;have AS:=Dg;obtain⟨TY,QM,kb,rfl,YS,_,_⟩:=Dg.b6;have Gp:=((w8.mono gu).mono h5).mono kd;have C':=((sy.mono gu).mono h5).mono kd;have pA:=((pA.mono gu).mono h5).mono kd;have rn:=((rn.mono gu).mono h5).mono kd;refine bc.iQ (fun x ab=>iV (f:=fun x=>(x.f,x.b2)) ab) ?_;refine aT rfl V.au ?_;refine bp.nil ?_;refine ao ?_;refine ae.draw rfl (by kernel_rfl) (a':=[.val 0,.val 2,.val 4,.val 6,.bR 1,.b9 [6,4,2],.bR 3,.b9 [6,4],.bR 5,.b9 [6],.bR 7,.bR 8,.val 9]) (by kernel_rfl) ?_;refine aT rfl V.ik ?_;refine aT rfl V.ay ?_;refine aT rfl V.ik ?_;refine aT rfl V.ay ?_;refine bp.iR ?_;refine' bc.dA rfl rfl rfl rfl rfl rfl rfl rfl rfl dx (pe Gp tR) ?_;rintro v' m' B2 iz ⟨_,rfl,GI⟩;have Kq:=GI;obtain⟨ML,ml,jn,rfl,Rn,_,_⟩:=GI.b6;refine bc.b9 eH ?_;refine' bc.dA rfl rfl rfl rfl rfl rfl rfl rfl rfl (de (eI rfl) dx) (ze Kq (rn.mono iz) I I GU) ?_;rintro v' m' B3 jF ⟨_,rfl,GJ⟩;have Kr:=GJ;obtain⟨Jf,Ha,q1,rfl,YT,_,_⟩:=GJ.b6;refine bc.b9 eH ?_;refine' bc.dA rfl rfl rfl rfl rfl rfl rfl rfl rfl (de (eI rfl) (de (fun _ aI=>j'.ag (iz.trans jF) (Gp.Fl ((C'.mono iz).mono jF) (iz.trans jF) rd hL aI) rfl) dx)) (pe ((C'.mono iz).mono jF) vw) ?_;rintro v' m' Ma mE ⟨_,rfl,Dh⟩;have De:=Dh;obtain⟨Jg,Hb,gJ,rfl,YU,_,_⟩:=Dh.b6;refine bc.b9 eH ?_;refine' bc.dA rfl rfl rfl rfl rfl rfl rfl rfl rfl (de (eI rfl) (de (fun _ aI=>j'.ag (jF.trans mE) (by rw[Kq.o2 De (jF.trans mE) (lL aI).1,(rn.mono iz).o2 (((pA.mono iz).mono jF).mono mE) (jF.trans mE) (lL aI).2]) rfl) (de (eI rfl) dx))) (ze De (((pA.mono iz).mono jF).mono mE) I I GS) ?_
   rintro v' m' abe qp ⟨_,rfl,Di⟩;have GC:=Di;obtain⟨Cf,Hc,eR,rfl,YV,_,_⟩:=Di.b6;rw[D.bQ] at Kr;rw[D.aC] at GC;refine' bc.dA rfl rfl rfl rfl rfl rfl rfl rfl rfl (de (eI rfl) (de (eI rfl) (de (eI rfl) (de (eI rfl) dx)))) (BD ((Kr.mono mE).mono qp) GC I I) ?_;rintro v' m' abf pv ⟨_,rfl,GK⟩;have Ks:=GK;obtain⟨Cg,QO,jo,rfl,YW,_,_⟩:=GK.b6;have AS:=((((AS.mono iz).mono jF).mono mE).mono qp).mono pv;refine bc.iQ (fun x ab=>iV (f:=fun x=>(x.f,x.b2)) ab) ?_;refine aT rfl V.au ?_;refine bp.nil ?_;refine rg ?_;refine U V.cJ ?_;refine U V.cI ?_;refine U V.cJ ?_;refine U V.cI ?_;refine' W.step rfl (Exec.val rfl rfl (um rfl rfl rfl (.inr ⟨rfl,rfl⟩) (by kernel_rfl)) ?_);refine al ?_;refine bN (G:=G4 (r:=⟨p*q,b*e⟩) (by rw[<-lc] at AS;exact AS) Ks (fun _=>by rw[m1.2 D.hC,m1.2 D.aU];exact alf D.oX D.b0) (fun k=>absurd k (SL D.oX D.b0)) (Nat.mul_ne_zero aj3 aj5) (by have:=vD pF le;show(aR (b*e)).length<=100000;omega)) (h:=?_);rintro v' m' abg vh ⟨_,rfl,ev,gH,rfl,b4⟩;have cp:=b4;obtain⟨TZ,KV,lU,rfl,YX,_,_⟩:=b4.n.b6;obtain⟨T0,DH,aru,rfl,YY,_,_⟩:=b4.d.b6;refine e9 ?_;refine aA ?_;refine ae.ret ?_;refine'⟨.inr rfl,rfl,_,[],.cell rfl (by repeat first|exact .head _|refine .tail _ ?_|refine eF _ ?_) (fA (dm rfl) rfl) (.nil),br _,?_⟩;first
    |(rw[nZ];exact⟨an.le.refl _,rfl,.slice none 0 0,.slice none 0 0,rfl,cx.nil,cx.nil⟩)
    |exact⟨(((((((((((aK.trans bi).trans cn).trans eL).trans gu).trans h5).trans kd).trans iz).trans jF).trans mE).trans qp).trans pv).trans vh,rfl,_,_,CC D.xK,cp.cast D.xK⟩
theorem aex{r s:cE}{v1 v2 bm bW:Value}(av:fZ J r v1 v2)(ag:fZ J s bm bW)(hl:r.g4)(cs:s.g4)(sz:0<s.z){k j:Nat}(fr:hW k r)(g9:hW j s)(hk:k<=30000)(bf:j<=30000):Fn (a1 Q g0) 62 [c8 r v1 v2,c8 s bm bW] [] J (p8 J (bk (r.z*s.d) (r.d*s.z.natAbs))):=by
 have dj:=av;have eX:=ag;obtain⟨bQ,dv,bH,rfl,aX,h6,gN⟩:=av.n.b6;obtain⟨bL,dV,bM,rfl,aU,l1,gO⟩:=av.d.b6;obtain⟨cZ,en,db,rfl,b0,yP,w7⟩:=ag.n.b6;obtain⟨dE,fH,dZ,rfl,dN,Gg,w8⟩:=ag.d.b6;have hL:=cs.1;have vw:=jl hL;have W':s.z.natAbs≠0:=B0.2 I;have Nk:(⟨(s.d:Int),s.z.natAbs⟩:cE).g4:=⟨r2 W',by show Nat.Coprime ((s.d:Int).natAbs) s.z.natAbs;rw[hP];exact cs.2.symm⟩;have xb:eD 8 (c8 r (.slice bQ dv bH) (.slice bL dV bM)) (c8 r (.slice bQ dv bH) (.slice bL dV bM))=true:=by simp[eD,jB,aX,aU,nn]
 have AR:eD 8 (c8 s (.slice cZ en db) (.slice dE fH dZ)) (c8 s (.slice cZ en db) (.slice dE fH dZ))=true:=by simp[eD,jB,b0,dN,nn]
 refine Fn.cr (cu Tryz.func62) rfl rfl fun H=>?_;refine rg ?_;refine gU fun bA=>?_;refine gU fun cU=>?_;refine' W.step rfl (.of (gx rfl rfl rfl (nh Q g0) rfl rfl rfl fun dn=>?_));refine aA ?_;refine ae.draw rfl (by kernel_rfl) (a':=[.val 0,.val 1,.val 2,.val 3,.val 5,.val 6,.bR 4,.b9 [6,5,2,1,0],.bR 7,.b9 [0],.bR 8,.bR 9]) (by kernel_rfl) ?_;refine aT rfl V.ik ?_;refine aT rfl V.cJ ?_;refine aT rfl V.cI ?_;refine aT rfl V.ik ?_;refine aT rfl V.cJ ?_;refine aT rfl V.cI ?_;refine bp.iR ?_;refine' bc.dA rfl rfl rfl rfl rfl rfl rfl rfl rfl dx (pe eX vw) ?_;rintro v' m' bK aK ⟨_,rfl,oe⟩;have rm:=oe;obtain⟨fI,kg,gV,rfl,gl,_,_⟩:=oe.b6;refine bc.b9 eH ?_;refine' bc.dA rfl rfl rfl rfl rfl rfl rfl rfl rfl (de (eI rfl) dx) (G4 (r:=⟨(s.d:Int),s.z.natAbs⟩) rm (eX.mono aK).n (fun _=>by rw[fx (show ¬s.z<0 by omega),fx (show ¬(s.d:Int)<0 by omega)]) (fun k=>absurd k (show(s.d:Int)≠0 by omega)) W' (by have:=g9.n;show(aR s.z.natAbs).length<=100000;omega)) ?_;rintro v' m' dT bi ⟨_,rfl,ev,gH,rfl,b4⟩;have cp:=b4;obtain⟨TZ,KV,lU,rfl,YX,_,_⟩:=b4.n.b6;obtain⟨T0,DH,kE,rfl,YY,_,_⟩:=b4.d.b6;refine bc.b9 eH ?_;refine' bc.dA rfl rfl rfl rfl rfl rfl rfl rfl rfl (de (eI rfl) (de (eI rfl) dx)) (X2 ((dj.mono aK).mono bi) cp hl Nk (show(s.d:Int)≠0 by omega) fr (hW.mk (k:=j) (r:=⟨(s.d:Int),s.z.natAbs⟩) (by show(aR (s.d:Int).natAbs).length<=j;rw[hP];exact g9.d) g9.n) hk bf) ?_;rintro v' m' ga cn ⟨_,rfl,hU,iH,rfl,yF⟩;have FM:=yF;obtain⟨MM,alb,q2,rfl,YZ,_,_⟩:=yF.n.b6;obtain⟨MN,xu,iw,rfl,Y0,_,_⟩:=yF.d.b6;refine bc.iQ (fun x ab=>iV (f:=fun x=>(x.f,x.b2)) ab) ?_
 refine mw rfl ?_;refine bp.nil ?_;refine ao ?_;refine ae.ret ?_;refine'⟨.inr rfl,rfl,_,[],.cell rfl (by repeat first|exact .head _|refine .tail _ ?_|refine eF _ ?_) (fA (dm rfl) rfl) (.nil),br _,⟨(aK.trans bi).trans cn,rfl,_,_,rfl,FM⟩⟩
theorem akU{n:Nat}(aO:n≠0)(aE:n<9223372036854775808):Fn (a1 Q g0) 70 [.int .i64 (n:Int)] [] J (j' J n):=by
 refine Fn.cr (cu Tryz.func70) rfl rfl fun H=>?_;refine rg ?_;refine U V.au ?_;refine a2 ?_;refine U V.ay ?_;refine U V.bb ?_;refine aA ?_;refine If (fun dZ=>?_) fun dZ=>?_
 ·exfalso;omega
 ·refine ao ?_;refine ae.skip ?_;refine rg ?_;refine U V.ay ?_;refine U V.bb ?_;refine aA ?_;refine If (fun e7=>?_) fun e7=>?_
  ·exfalso;omega
  ·refine ao ?_;refine ae.skip ?_;refine rg ?_;refine U V.ay ?_;refine U V.d' ?_;refine ll (kj Q g0) fun abY=>?_;refine U V.au ?_;refine a3 ?_;refine ae.h9 rfl fun bi=>?_;refine ao ?_;refine ae.ret ?_;refine'⟨.inr rfl,rfl,_,[],.tmp rfl .nil,br _,⟨bi,rfl,cx.row (n:=1) (l:=[n]) (by rw[s4 aO I];rfl) (by simp) (by simp) bC (an.g7 _ _ _)⟩⟩
theorem Qe{n:Nat}(aO:n≠0)(aE:n<9223372036854775808):Fn (a1 Q g0) 42 [.int .i64 (n:Int)] [] J (p8 J ⟨(n:Int),1⟩):=by
 refine Fn.cr (cu Tryz.func42) rfl rfl fun H=>?_;refine rg ?_;refine' W.step rfl (.of (gx rfl rfl rfl (nh Q g0) rfl rfl rfl fun bA=>?_));refine a2 ?_;refine U V.ay ?_;refine U V.bb ?_;refine U V.ay ?_;refine bN (G:=akU aO aE) (h:=?_);rintro v' m' bK aK ⟨_,rfl,oe⟩;have rm:=oe;obtain⟨fI,kg,gV,rfl,gl,_,_⟩:=oe.b6;refine U V.kW ?_;refine e9 ?_;refine aA ?_;refine ae.ret ?_;refine'⟨.inr rfl,rfl,_,[],.cell rfl (by repeat first|exact .head _|refine .tail _ ?_|refine eF _ ?_) (fA (dm rfl) rfl) (.nil),br _,⟨aK,rfl,_,.slice none 0 0,rfl,rm,cx.nil⟩⟩
theorem ZH{r:cE}{v1 v2:Value}(h:fZ J r v1 v2)(aL:0<r.z):Fn (a1 Q g0) 78 [c8 r v1 v2] [] J (fun u m' ah=>u=.int .i64 1/\m'=[]/\J.le ah):=by
 obtain⟨bQ,dv,bH,rfl,aX,h6,gN⟩:=h.n.b6;obtain⟨bL,dV,bM,rfl,aU,l1,gO⟩:=h.d.b6;refine Fn.cr (cu Tryz.func78) rfl rfl fun H=>?_;refine rg ?_;refine gU fun bO=>?_;refine U V.au ?_;refine a2 ?_;refine U V.cJ ?_;refine U V.cI ?_;refine U V.h7 ?_;refine U V.bb ?_;refine aA ?_;refine If (fun e7=>?_) fun e7=>?_
 ·exfalso;have:=ox.1 (h6.z I);omega
 ·refine ao ?_;refine ae.skip ?_;refine rg ?_;refine U V.cJ ?_;refine U V.cI ?_;refine aA ?_;refine If (fun jU=>?_) fun jU=>?_
  ·exfalso;omega
  ·refine ao ?_;refine ae.skip ?_;refine rg ?_;refine U V.au ?_;refine aA ?_;refine ae.ret ?_;refine'⟨.inr rfl,rfl,_,[],.tmp rfl .nil,br _,⟨rfl,rfl,an.le.refl _⟩⟩
theorem adW{r s:cE}{v1 v2 bm bW:Value}(av:fZ J r v1 v2)(ag:fZ J s bm bW)(hl:r.g4)(cs:s.g4)(xO:0<r.z)(sz:0<s.z){k j:Nat}(fr:hW k r)(g9:hW j s)(hk:k<=30000)(bf:j<=30000):Fn (a1 Q g0) 46 [c8 r v1 v2,c8 s bm bW] [] J (fun u m' ah=>u=.int .i64 (jq (r.z.natAbs*s.d) (s.z.natAbs*r.d))/\m'=[]/\J.le ah):=by
 have dj:=av;have eX:=ag;obtain⟨bQ,dv,bH,rfl,aX,h6,gN⟩:=av.n.b6;obtain⟨bL,dV,bM,rfl,aU,l1,gO⟩:=av.d.b6;obtain⟨cZ,en,db,rfl,b0,yP,w7⟩:=ag.n.b6;obtain⟨dE,fH,dZ,rfl,dN,Gg,w8⟩:=ag.d.b6;have rd:=hl.1;have hL:=cs.1;have tR:=jl rd;have vw:=jl hL;have Qz:=fr.n;have Qy:=fr.d;have XF:=g9.n;have XE:=g9.d;have ata:=vD fr.n g9.d;have atb:=vD g9.n fr.d;have as1:=B0.2 (show r.z≠0 by omega);have as2:=B0.2 (show s.z≠0 by omega);have xb:eD 8 (c8 r (.slice bQ dv bH) (.slice bL dV bM)) (c8 r (.slice bQ dv bH) (.slice bL dV bM))=true:=by simp[eD,jB,aX,aU,nn]
 have AR:eD 8 (c8 s (.slice cZ en db) (.slice dE fH dZ)) (c8 s (.slice cZ en db) (.slice dE fH dZ))=true:=by simp[eD,jB,b0,dN,nn]
 refine Fn.cr (cu Tryz.func46) rfl rfl fun H=>?_;refine rg ?_;refine gU fun bA=>?_;refine gU fun cU=>?_;refine U V.au ?_;refine aA ?_;refine ae.draw rfl (by kernel_rfl) (a':=[.val 0,.val 2,.bR 1,.b9 [2],.bR 3,.val 4,.val 5]) (by kernel_rfl) ?_;refine aT rfl V.ik ?_;refine aT rfl V.ik ?_;refine bp.iR ?_;refine' bc.dA rfl rfl rfl rfl rfl rfl rfl rfl rfl dx (ZH dj xO) ?_;rintro v' m' abh ss ⟨rfl,rfl,_⟩;refine bc.b9 eH ?_;refine' bc.dA rfl rfl rfl rfl rfl rfl rfl rfl rfl (de (fun _ _=>⟨rfl,ss,fun v m' bK dT ⟨a,b,c⟩ ad af=>⟨a,b,af⟩⟩) dx) (ZH (eX.mono ss) sz) ?_;rintro v' m' abi vg ⟨rfl,rfl,_⟩;have dj:=(dj.mono ss).mono vg;have eX:=(eX.mono ss).mono vg;refine bc.iQ (fun x ab=>iV (f:=fun x=>(x.f,x.b2)) ab) ?_;refine eg ?_;refine bp.nil ?_;refine rg ?_;refine al ?_;refine U V.bb ?_;refine U V.ay ?_;refine ft 15 (fun CG=>?_) fun CG=>?_
 ·exfalso;exact CG rfl
 ·refine bo V.ay ?_;refine bo V.bb ?_;refine U V.bt ?_;refine aA ?_;refine If (fun kE=>?_) fun kE=>?_
  ·exfalso;simp at kE
  ·refine ao ?_;refine ae.skip ?_;refine ao ?_;refine ae.draw rfl (by kernel_rfl) (a':=[.val 0,.val 1,.val 2,.val 5,.val 6,.val 7,.bR 3,.b9 [7,6,5,1,0],.bR 4,.b9 [7,6,5],.bR 8,.b9 [6,5],.bR 9,.bR 10,.val 11]) (by kernel_rfl) ?_;refine aT rfl V.cJ ?_;refine aT rfl V.cI ?_;refine aT rfl V.ik ?_;refine aT rfl V.cJ ?_;refine aT rfl V.cI ?_;refine aT rfl V.ik ?_;refine bp.iR ?_;refine' bc.dA rfl rfl rfl rfl rfl rfl rfl rfl rfl dx (pe eX vw) ?_;rintro v' m' bK aK ⟨_,rfl,oe⟩;have rm:=oe;obtain⟨fI,kg,gV,rfl,gl,_,_⟩:=oe.b6;refine bc.b9 eH ?_;refine' bc.dA rfl rfl rfl rfl rfl rfl rfl rfl rfl (de (eI rfl) dx) (BD (dj.mono aK).n rm I I) ?_;rintro v' m' dT bi ⟨_,rfl,tP⟩;have pA:=tP;obtain⟨gz,gk,e7,rfl,iC,_,_⟩:=tP.b6;refine bc.b9 eH ?_;refine' bc.dA rfl rfl rfl rfl rfl rfl rfl rfl rfl (de (eI rfl) (de (fun _ aI=>j'.ag (aK.trans bi) (eX.Fl ((dj.mono aK).mono bi) (aK.trans bi) hL rd aI) rfl) dx)) (pe ((dj.mono aK).mono bi) tR) ?_;rintro v' m' ga cn ⟨_,rfl,sD⟩;have oc:=sD;obtain⟨mB,vC,hE,rfl,nH,_,_⟩:=sD.b6;refine bc.b9 eH ?_;refine' bc.dA rfl rfl rfl rfl rfl rfl rfl rfl rfl (de (eI rfl) (de (fun _ aI=>j'.ag (bi.trans cn) (by rw[(dj.mono aK).n.o2 (((eX.mono aK).mono bi).mono cn).n (bi.trans cn) (lL aI).1,rm.o2 oc (bi.trans cn) (lL aI).2]) rfl) (de (eI rfl) dx))) (BD (((eX.mono aK).mono bi).mono cn).n oc I I) ?_;rintro v' m' mQ eL ⟨_,rfl,sE⟩;have rn:=sE;obtain⟨mW,nD,jU,rfl,oq,_,_⟩:=sE.b6;refine' bc.dA rfl rfl rfl rfl rfl rfl rfl rfl rfl (de (eI rfl) (de (eI rfl) (de (eI rfl) (de (eI rfl) dx)))) (Fc ((pA.mono cn).mono eL) rn I I) ?_
   rintro v' m' ah hle ⟨rfl,rfl,rfl⟩;refine bc.iQ (fun x ab=>iV (f:=fun x=>(x.f,x.b2)) ab) ?_;refine aT rfl V.au ?_;refine bp.nil ?_;refine rg ?_;refine U V.cJ ?_;refine U V.cI ?_;refine aA ?_;refine If (fun E1=>?_) fun E1=>?_
   ·exfalso;omega
   ·refine ao ?_;refine ae.skip ?_;refine rg ?_;refine al ?_;refine aA ?_;refine ae.ret ?_;refine'⟨.inr rfl,rfl,_,[],.tmp rfl .nil,br _,⟨rfl,rfl,((((ss.trans vg).trans aK).trans bi).trans cn).trans eL⟩⟩
end
end
end Go.Opn
namespace Go.Opn
noncomputable section
theorem aqj{l:List Nat}(cc:okW l)(h:l.length<=(aR (a9 l)).length):l=aR (a9 l):=by
 refine Js ⟨cc,fun x ab aO=>?_⟩;subst aO;rcases List.eq_nil_or_concat l with rfl|⟨l',y,rfl⟩
 ·cases ab
 ·rw[List.concat_eq_append] at ab cc h;rw[II,Mf] at ab;injection ab with ab
  subst ab;rw[BM,jk,iI,eS,x9] at h;have ad:=rO (l:=l') (fun z aL=>cc z (nN _ aL));have:=aaM ad;omega
theorem aql{l:List Nat}{c:Nat}(cc:okW l)(aO:c≠0)(aJ:c<18446744073709551616):l++[c]=aR (a9 l+18446744073709551616 ^ l.length*c):=by
 rw[<-BM];refine Js ⟨Hs cc fun z aL=>by rw[zK.1 aL];exact aJ,fun x ab=>?_⟩;rw[II,Mf] at ab;injection ab with ab
 rw[<-ab];exact aO
theorem aqk{x y:Nat}(h:x<=y):(aR x).length<=(aR y).length:=by
 apply qW
 intro q;have:=Ed q;omega
theorem agd{D w:List Nat}{j c a P:Nat}(aq:D.length=j)(aI:w[j]?=some a)(h:a9 D+18446744073709551616 ^ j*c=1000000000*a9 (w.take j)+P):
 a9 (D++[(a*1000000000+c) % 18446744073709551616])+18446744073709551616 ^ (j+1)*((a*1000000000+c) / 18446744073709551616)=1000000000*a9 (w.take (j+1))+P:=by
 rw[BM,aq,la aI,cS];have e:18446744073709551616 ^ j*(a*1000000000+c)=18446744073709551616 ^ j*((a*1000000000+c) % 18446744073709551616)+18446744073709551616 ^ (j+1)*((a*1000000000+c) / 18446744073709551616):=by
  conv=>lhs;rw[<-yb (a*1000000000+c) 18446744073709551616]
  rw[cS,fC,fi]
 rw[cS] at e;have aW:1000000000*(18446744073709551616 ^ j*a)=18446744073709551616 ^ j*(a*1000000000):=by
  rw[qX,dz 1000000000 a]
 omega
theorem agb{D:List Nat}{X c P n:Nat}(aq:D.length=n)(aE:n=(aR X).length)(cc:okW D)(aJ:c<18446744073709551616)(h:a9 D+18446744073709551616 ^ n*c=1000000000*X+P):
 (c=0->D=aR (P+1000000000*X))/\(c≠0->D++[c]=aR (P+1000000000*X)):=by
 refine⟨fun aO=>?_,fun aO=>?_⟩
 ·rw[aO,jk,iI] at h;have e:a9 D=P+1000000000*X:=by omega
  rw[<-e];refine aqj cc ?_;rw[aq,aE,e];exact aqk (by omega)
 ·rw[aql cc aO aJ,aq,h,Ta]
theorem ao7{L:List Nat}{x Y r:Nat}(h:aN L+1000000000 ^ L.length*Y=x)(av:r=Y % 1000000000000000000):
 aN (L++[r % 1000000000,r / 1000000000])+1000000000 ^ (L++[r % 1000000000,r / 1000000000]).length*(Y / 1000000000000000000)=x:=by
 rw[rM,eS,show([r % 1000000000,r / 1000000000]:List Nat).length=2 from rfl,oB];rw[show aN [r % 1000000000,r / 1000000000]=r from by show r % 1000000000+1000000000*(r / 1000000000+1000000000*0)=r;omega];rw[fi,B8,<-cS,show(1000000000:Nat) ^ 2=1000000000000000000 from rfl];rw[show r+1000000000000000000*(Y / 1000000000000000000)=Y by omega];exact h
theorem Xu{x k:Nat}(h:x<1000000000 ^ k):(ai x).length<=k:=by
 apply qW
 intro q;have eh:ai x≠[]:=fun e=>by rw[e] at q;exact EE _ q
 have ad:=Sa (z5 x) eh;rw[e5] at ad;have:1000000000 ^ k<=1000000000 ^ ((ai x).length -1):=my (by decide) (by omega);omega
theorem akF{x k:Nat}(h:(aR x).length<=k):(ai x).length<=3*k:=by
 refine Xu ?_;have ad:=zx h;have:18446744073709551616 ^ k<=(1000000000 ^ 3) ^ k:=Mv (by decide) k;rw[<-EF] at this;omega
theorem amS(n k a b c:Nat)(aI:a=4)(ak:b=8)(hk:k=a*b*c)(aE:64*n=(119*b+6)*c):(1000000000:Nat) ^ k<=18446744073709551616 ^ n:=by
 have aW:(1000000000 ^ a) ^ b<=(2 ^ 119) ^ b*2 ^ 6:=by subst aI;subst ak;decide
 rw[hk,EF,EF,show(18446744073709551616:Nat)=2 ^ 64 from rfl,<-EF 2 64 n,aE,EF 2 (119*b+6),oB,EF 2 119];exact Mv aW c
theorem aqr{x n k:Nat}(h:n<(aR x).length)(fL:(1000000000:Nat) ^ k<=18446744073709551616 ^ n):k<(ai x).length:=by
 apply IW
 intro q;have eh:aR x≠[]:=fun e=>by rw[e] at h;exact EE _ h
 have ad:=aay (Us x) eh;rw[hp] at ad;have af:18446744073709551616 ^ n<=18446744073709551616 ^ ((aR x).length -1):=my (by decide) (by omega);have aV:=k' (hB x);rw[e5] at aV;have bq:1000000000 ^ (ai x).length<=1000000000 ^ k:=my (by decide) q;exact absurd (iJ aV (cY bq (cY fL (cY af ad)))) (zQ _)
theorem zy{x:Nat}(h:479<(aR x).length):1024<(ai x).length:=by
 obtain⟨k,hk⟩:∃k,k=1024:=⟨_,rfl⟩;obtain⟨n,aE⟩:∃n,n=479:=⟨_,rfl⟩;rw[<-hk];exact aqr (n:=n) (by omega) (amS n k 4 8 32 rfl rfl (by omega) (by omega))
theorem ao6{L:List Nat}{x:Nat}(cc:dS L)(az:aN L=x)(F9:L=[]\/∃l a b,L=l++[a,b]/\¬(a=0/\b=0)):
 (∀y,L.getLast?=some y->y≠0)/\L=ai x\/L.getLast?=some 0/\L.take (L.length -1)=ai x:=by
 rcases F9 with rfl|⟨l,a,b,rfl,i'⟩
 ·left
  refine⟨fun y aB=>(by cases aB),?_⟩;rw[<-az];show[]=ai 0;rw[l5]
 ·by_cases ak:b=0
  ·right
   subst ak;refine⟨by simp,?_⟩;have e:(l++[a,0]).take ((l++[a,0]).length -1)=l++[a]:=by
    rw[show l++[a,0]=(l++[a])++[0] by simp,eS,x9,ld,List.take_left]
   rw[e];have AP:aN (l++[a])=x:=by
    rw[<-az,show l++[a,0]=(l++[a])++[0] by simp,rM (l++[a]),H9,jk,iI]
   rw[<-AP];refine pg ⟨fun z aL=>cc z (by rw[show l++[a,0]=(l++[a])++[0] by simp];exact nN _ aL),fun y aB=>?_⟩;rw[II,Mf] at aB;injection aB with aB
   rw[<-aB];exact fun q=>i' ⟨q,rfl⟩
  ·left
   have aD:∀y,(l++[a,b]).getLast?=some y->y≠0:=fun y aB=>by
    rw[II] at aB;injection aB with aB
    rw[<-aB];exact ak
   exact⟨aD,by rw[<-az];exact pg ⟨cc,aD⟩⟩
end
end Go.Opn
namespace Go.Opn
noncomputable section
open Go.Cre Go.RowKit Go.Proofs
def cM(J:an)(v:Value)(x:Nat):Prop:=cR .u32 J v (ai x)
theorem cM.mono{J ah:an}(hle:J.le ah){v:Value}{x:Nat}(h:cM J v x):cM ah v x:=cR.mono hle h
theorem cM.bG{J:an}{v:Value}{x:Nat}(h:cM J v x):∃b c,v=.slice b (ai x).length c/\addrEq b b=true:=by
 have h:cR .u32 J v (ai x):=h;obtain⟨b,c,rfl⟩:=h.form;exact⟨b,c,rfl,h.addr⟩
theorem cM.b6{J:an}{v:Value}{x:Nat}(h:cM J v x):∃b n c,v=.slice b n c/\addrEq b b=true:=by
 obtain⟨b,c,ad,af⟩:=h.bG;exact⟨b,_,c,ad,af⟩
theorem cM.o2{J ah:an}{v w:Value}{x y:Nat}(h:cM J v x)(fR:cM ah w y)(hle:J.le ah)(e:v=w):x=y:=by
 subst e;have:=aa aN (cR.xW h fR hle);rwa [e5,e5] at this
theorem BS:ir []:=fun a c e r z h=>by cases h
theorem Bb:tX []:=fun a c e h=>by cases h
theorem Acc.Yn{w:Value}{t k:Nat}{cells:List Value}{bZ:a8}(h:Acc t 1 w k cells bZ)(aL:ir bZ)(aE:tX bZ)(ad:k≠0):∃a r,w=.slice (some ⟨a,0,none⟩) k cQ/\bZ=[(a,.opn cells t r 0)]:=by
 cases h with
 |nil=>exact absurd rfl ad
 |js a=>exact absurd rfl ad
 |@opn a k cells rest z aD e1=>
  have:z=0:=aL _ _ _ _ _ (.head _);subst this;exact⟨a,rest,rfl,rfl⟩
 |cap=>exact absurd (List.Mem.head _) (aE _ _ _)
abbrev sT(k:IntKind)(t a:Nat)(l:List Nat)(r:List Nat):Nat×ec:=(a,.opn (b7 k l) t r 0)
structure tf (w:Value) (l:List Nat) (bZ:a8):Prop where
 acc:Acc 122 1 w l.length (b7 .u64 l) bZ
 z:ir bZ
 n:tX bZ
theorem tf.nil:tf (.slice none 0 0) [] []:=⟨.nil,BS,Bb⟩
theorem anL{k:IntKind}{t a:Nat}{l r:List Nat}:ir [sT k t a l r]:=fun bV c e cW z h=>by
 rcases gb.1 h with h|h
 ·injection h with _ h;injection h
 ·cases h
theorem anK{k:IntKind}{t a:Nat}{l r:List Nat}:tX [sT k t a l r]:=fun bV c e h=>by
 rcases gb.1 h with h|h
 ·injection h with _ h;cases h
 ·cases h
theorem tf.row{a:Nat}{l r:List Nat}{n:Nat}(aE:l.length=n):tf (.slice (some ⟨a,0,none⟩) n cQ) l [sT .u64 122 a l r]:=by
 subst aE;exact⟨.opn (by rw[oU,gT]) (ep _),anL,anK⟩
theorem tf.form{w:Value}{l:List Nat}{bZ:a8}(h:tf w l bZ):∃b c,w=.slice b l.length c/\addrEq b b=true:=h.acc.wF
theorem tf.at{b:Option Addr}{n c:Nat}{l:List Nat}{bZ:a8}(h:tf (.slice b n c) l bZ)(aO:l.length≠0):∃a r,b=some ⟨a,0,none⟩/\c=cQ/\bZ=[sT .u64 122 a l r]:=by
 obtain⟨a,r,e,hm⟩:=h.acc.Yn h.z h.n aO;injection e with aC aW cw
 exact⟨a,r,aC,cw,hm⟩
section
variable {Q:dD Tryz.prog}{g0:Nat}{J:an}
theorem U1{v:Value}{x:Nat}(h:cM J v x)(gP:(ai x).length<=100000):Fn (a1 Q g0) 118 [v] [] J (j' J x):=by
 have aO:=h;obtain⟨b,d',rfl,kA⟩:=h.bG;refine Fn.cr (cu Tryz.func118) rfl rfl fun H=>?_;refine rg ?_;refine U V.au ?_;refine a2 ?_;refine U V.au ?_;refine a2 ?_;refine al ?_;refine U V.aY ?_;refine U V.au ?_;refine aA ?_;refine ae.block ?_;refine' ae.dO (l':=[(4,.int .i64 ((((ai x).length):Int) -1)),(3,(.slice none 0 0)),(0,_)]) ⟨?kR,?eu,rfl,trivial⟩ (bx _) ?_;case kR=>first|exact bg|exact aa some (aa (Value.int .u64) I)|exact aa some (aa (Value.int .i64) I)
 case eu=>first|exact bg|exact aa some (aa (Value.int .u64) I)|exact aa some (aa (Value.int .i64) I)
 refine ao ?_;refine' ae.e2 (fun(a6:Nat×Value×a8)=>match a6 with|(k,w,bZ)=>⟨[(4,.int .i64 ((k:Int) -1)),(3,w)],bZ,J,k<=(ai x).length/\tf w (aR (aN ((ai x).drop k))) bZ,k⟩) ⟨(ai x).length,.slice none 0 0,[]⟩ ?ag ?bD
 case ag=>exact⟨bX _,by rw[oy (bX _),show aN []=0 from rfl,rQ];exact .nil⟩
 case bD=>
  rintro⟨k,w,bZ⟩ hinv;try simp only at hinv
  obtain⟨hk,gX⟩:=hinv;obtain⟨wj,wq,rfl,Lt⟩:=gX.form;refine rg ?_;refine U V.ay ?_;refine U V.bb ?_;refine aA ?_;refine If (fun gJ=>?_) fun gJ=>?_
  ·obtain⟨tg,eN,nV,ex,rfl,tz,k3⟩:=cR.at (k:=.u32) (l:=ai x) aO I;obtain⟨p,ap,y2⟩:=k3 (k -1) I;have e2:=pJ (hB x) ap;have y2:nth nV (eN+((k:Int) -1).toNat*1)=some (.int .u32 (p:Int)):=by rw[show((k:Int) -1).toNat=k -1 by omega];exact y2
   obtain⟨X,fG⟩:∃X,X=aN ((ai x).drop k):=⟨_,rfl⟩;have Vt:aN ((ai x).drop (k -1))=p+1000000000*X:=by
    rw[drop_cons ap,show k -1+1=k by omega,fG];rfl
   rw[<-fG] at gX ⊢;have wQ:(aR X).length<=(ai x).length:=by
    refine Hf ?_;have ad:=k' (Ld (i:=k) (hB x));rw[<-fG] at ad;refine iJ ad (cY (Mv bC _) (my bC (by rw[lQ];omega)))
   refine dW ?_;refine ao ?_;refine ae.block ?_;refine rg ?_;refine al ?_;refine U V.bh ?_;refine U V.cg ?_;refine U V.d' ?_;refine U V.au ?_;refine a2 ?_;refine al ?_;refine aA ?_;refine ae.block ?_;refine' ae.dO (l':=[(24,.int .i64 ((0):Int)),(5,.int .u64 ((p):Int)),(0,_),(3,_),(4,_),(23,_)]) ⟨?ap7,?gm,rfl,rfl,rfl,rfl,trivial⟩ (bx _) ?_;case ap7=>first|exact bg|exact aa some (aa (Value.int .u64) I)|exact aa some (aa (Value.int .i64) I)
   case gm=>first|exact bg|exact aa some (aa (Value.int .u64) I)|exact aa some (aa (Value.int .i64) I)
   refine ao ?_;refine' ae.e2 (fun(a6:Nat×Nat×(List Nat)×a8)=>match a6 with|(j,c,D,DF)=>⟨[(24,.int .i64 (j:Int)),(5,.int .u64 (c:Int))],DF,J,j<=(aR X).length/\c<18446744073709551616/\D.length=j/\okW D/\a9 D+18446744073709551616 ^ j*c=1000000000*a9 ((aR X).take j)+p/\tf (.slice wj (aR X).length wq) (D++(aR X).drop j) DF,(aR X).length -j⟩) ⟨0,p,[],bZ⟩ ?ag ?bD
   case ag=>exact⟨ep _,I,rfl,Ht,by rw[fh,yc,iL];rfl,by rw[kp,hi];exact gX⟩
   case bD=>
    rintro⟨j,c,D,DF⟩ hinv;try simp only at hinv
    obtain⟨bf,aJ,cy,cc,az,CP⟩:=hinv;refine rg ?_;refine U V.bb ?_;refine aA ?_;refine If (fun mY=>?_) fun mY=>?_
    ·obtain⟨a,aI,ju⟩:=zh (nF X) (i:=j) I;obtain⟨acp,b1,rfl,rfl,rfl⟩:=CP.at (by rw[eS,lQ];omega);have QV:nth (b7 .u64 (D++(aR X).drop j)) (0+(j:Int).toNat*1)=some (.int .u64 (a:Int)):=by
        have:=DL (A:=[]) (C:=[]) cy (bX _) aI (off:=0+(j:Int).toNat*1) (by show 0+(j:Int).toNat*1=0+j;omega);rwa [iU,kp] at this
     have sa:∀y:Nat,gw (0+(j:Int).toNat*1) (b7 .u64 (D++(aR X).drop j)) [.int .u64 (y:Int)]=some (b7 .u64 ((D++[y])++(aR X).drop (j+1))):=fun y=>by
        have:=HT (A:=[]) (C:=[]) (y:=y) cy (show j<(aR X).length by omega) (off:=0+(j:Int).toNat*1) (by show 0+(j:Int).toNat*1=0+j;omega);rwa [iU,kp,iU,kp] at this
     obtain⟨P,cX⟩:∃P,P=a*1000000000:=⟨_,rfl⟩;have sk:P<=18446744073709551615*1000000000:=by rw[cX];exact e0 _ I
     refine dW ?_;refine ao ?_;refine ae.block ?_;refine rg ?_;refine al ?_;refine a2 ?_;refine al ?_;refine U V.bh ?_;refine U V.cg ?_;refine bN (G:=DG (y:=1000000000) ju bC) (h:=?_);rintro v' m' ah hle ⟨rfl,rfl,rfl⟩;rw[<-cX];refine al ?_;refine a2 ?_;refine U V.au ?_;refine a2 ?_;refine al ?_;refine bN (G:=we (c:=0) I) (h:=?_);rintro v' m' ah hle ⟨rfl,rfl,rfl⟩;rw[show(P % 18446744073709551616+c+0) % 18446744073709551616=(P+c) % 18446744073709551616 by omega,cX];refine al ?_;refine U V.bh ?_;refine' W.step rfl (.of (Ii rfl rfl rfl rfl (hh rfl) rfl rfl rfl ?ad ?ag ?aL ?ap ?_));case ap=>exact .refl _
     case ag=>exact sa _
     case ad=>first|rfl|assumption
     case aL=>exact ep _
     refine U V.au ?_;refine a2 ?_;refine al ?_;refine U V.aY ?_;rw[show((a*1000000000 / 18446744073709551616:Nat):Int)+(((a*1000000000 % 18446744073709551616+c+0) / 18446744073709551616:Nat):Int)=(((a*1000000000+c) / 18446744073709551616:Nat):Int) by omega];refine U V.au ?_;refine a2 ?_;refine U V.aY ?_;refine U V.ay ?_;refine a3 ?_;refine fl ⟨j+1,(a*1000000000+c) / 18446744073709551616,D++[(a*1000000000+c) % 18446744073709551616],[sT .u64 122 acp ((D++[(a*1000000000+c) % 18446744073709551616])++(aR X).drop (j+1)) []]⟩ ?_;exact⟨I,I,xl cy,Hu cc (fJ _ bC),agd cy aI az,.row (by rw[eS,xl cy,lQ];omega)⟩
    ·obtain rfl:j=(aR X).length:=I
     rw[dd (bX _),hp] at az;rw[oy (bX _),iU] at CP;obtain⟨f1,f2⟩:=agb cy rfl cc aJ az;rw[<-Vt] at f1 f2;refine ao ?_;refine ae.exit ?_;refine rg ?_;refine U V.ay ?_;refine U V.bb ?_;refine a3 ?_;refine eP [3,5,49,0,4] ?_;refine ao ?_;refine' ae.lW (α:=(Value)×(a8)) 3 (fun(a6:(Value)×(a8))=>match a6 with|(bW,tW)=>[(3,bW)]) (fun(a6:(Value)×(a8))=>match a6 with|(bW,tW)=>tW) (fun(a6:(Value)×(a8))=>match a6 with|(bW,tW)=>J) (fun(a6:(Value)×(a8))=>match a6 with|(bW,tW)=>tf bW (aR (aN ((ai x).drop (k -1)))) tW) ?adH ?aeQ
     case adH=>
      refine If (fun ac1=>?_) fun ac1=>?_
      ·
        refine rg ?_;refine al ?_;refine ll (kj Q g0) fun ard=>?_;refine' W.step rfl (.of (qM rfl rfl rfl rfl rfl rfl (kj Q g0) (R6 Q g0) (fun i q=>by cases q) ?eW ?hm ?ab ?ei ?eh ?aD fun aqd ak2 ahE WT=>?_));case eW=>exact(show Acc 122 1 (.slice wj (aR X).length wq) (aR X).length (b7 .u64 D) DF from cy▸CP.acc)
        case hm=>exact(zL _ DF).symm
        case ab=>exact mA.own (cells:=b7 .u64 [c]) (.head _) rfl
        case ei=>exact rfl
        case eh=>exact xx _
        case aD=>exact(show(aR X).length+1<=1000000 by omega)
        refine U V.au ?_;refine a3 ?_;refine'⟨⟨aqd,ak2⟩,_,?hinv,rfl,⟨?mH,rfl,rfl,trivial⟩,⟨_,.refl _⟩,rfl⟩;case mH=>first|exact bg|exact aa some (aa (Value.int .u64) I)|exact aa some (aa (Value.int .i64) I)
        case hinv=>rw[<-f2 I];exact⟨by rw[y4,eS,cy];exact ahE,WT.1 CP.z,WT.2 CP.n⟩
      ·
        refine ao ?_;refine ae.skip ?_;refine'⟨⟨.slice wj (aR X).length wq,DF⟩,_,?hinv,rfl,⟨?mH,rfl,rfl,trivial⟩,gK,rfl⟩;case mH=>first|exact bg|exact aa some (aa (Value.int .u64) I)|exact aa some (aa (Value.int .i64) I)
        case hinv=>rw[<-f1 I];exact CP
     case aeQ=>
      rintro⟨bW,tW⟩ hinv;try simp only at hinv
      refine rg ?_;refine U V.ay ?_;refine U V.aY ?_;refine U V.au ?_;refine a3 ?_;refine fl ⟨k -1,bW,tW⟩ ?_;exact⟨I,hinv⟩
  ·obtain rfl:k=0:=I
   rw[hi,e5] at gX ⊢;refine ao ?_;refine ae.exit ?_;refine gX.acc.pO (by rw[iU]) fun bK aK qu=>?_;refine rg ?_;refine al ?_;refine aA ?_;refine ae.ret ?_;refine'⟨.inr rfl,rfl,_,[],.tmp rfl .nil,br _,⟨aK,rfl,122,qu⟩⟩
end
end
end Go.Opn

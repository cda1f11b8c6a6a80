/- A part of the proof of TableMetric. -/
import Derived.Test.YtmmfodofkbmfnaaGreatDoorCbc
set_option maxRecDepth 100000
set_option maxHeartbeats 8000000
set_option linter.unusedVariables false
set_option linter.unusedSimpArgs false
namespace Go.Opn
noncomputable section
open Go.Cre Go.RowKit Go.Proofs
theorem fE.neg{J:an}{r:cv}{v1 v2:Value}(h:fE J r v1 v2):fE J ⟨-r.z,r.d⟩ v1 v2:=⟨by show cn J v1 (-r.z).natAbs;rw[xn];exact h.n,h.d⟩
theorem Qq{r:cv}(h:r.fi):(⟨-r.z,r.d⟩:cv).fi:=⟨h.1,by show Nat.Coprime (-r.z).natAbs r.d;rw[xn];exact h.2⟩
theorem Wg{p q:Int}(ao:p≠0)(bY:q≠0):decide (¬(decide (p<0)=decide (q<0)))=decide (p*q<0):=by
 rcases p8 p 0 with a|a
 ·rcases p8 q 0 with b|b
  ·have:=Int.mul_pos_of_neg_of_neg a b
   rw[hv a,hv b,gd (show ¬p*q<0 by omega)];rfl
  ·have:=xm a (show 0<q by omega)
   rw[hv a,gd (show ¬q<0 by omega),hv this];rfl
 ·rcases p8 q 0 with b|b
  ·have:=OE (show 0<p by omega) b
   rw[gd (show ¬p<0 by omega),hv b,hv this];rfl
  ·have:=u7 a b
   rw[gd (show ¬p<0 by omega),gd (show ¬q<0 by omega),gd (show ¬p*q<0 by omega)];rfl
section
variable {Q:eF Tryz.prog}{g0:Nat}{J:an}
theorem Y1{r s:cv}{v1 v2 bc b6:Value}(ap:fE J r v1 v2)(ag:fE J s bc b6)(gR:r.fi)(cs:s.fi)(cJ:r.z.natAbs<=60000)(cW:r.d<=60000)(s1:s.z.natAbs<=60000)(s2:s.d<=60000):Fn (aS Q g0) 42 [dF r v1 v2,dF s bc b6] [] J (n2 J (a9 (r.z*s.d+-s.z*r.d) (r.d*s.d))):=by
 have dR:=ap;have gg:=ag;obtain⟨bV,cV,bE,rfl,aQ,eu,gI⟩:=ap.n.bN;obtain⟨b7,dn,b8,rfl,aP,eX,gW⟩:=ap.d.bN;obtain⟨c5,ep,dj,rfl,bC,uc,sj⟩:=ag.n.bN;obtain⟨dM,fp,eg,rfl,dp,BB,sk⟩:=ag.d.bN;have wk:ee 8 (dF r (.slice bV cV bE) (.slice b7 dn b8)) (dF r (.slice bV cV bE) (.slice b7 dn b8))=true:=by simp[ee,iU,aQ,aP,n3]
 refine Fn.cH (cK Tryz.func42) rfl rfl fun H=>?_;refine rg ?_;refine fl fun bS=>?_;refine fl fun cE=>?_;refine' W.step rfl (.of (gN rfl rfl rfl (ly Q g0) rfl rfl rfl fun c4=>?_));refine aJ ?_;refine ad.draw rfl (by kernel_rfl) (a6:=[.val 0,.val 1,.bZ 2,.cq [0],.bZ 3,.bZ 4]) (by kernel_rfl) ?_;refine bd rfl V.fH ?_;refine bd rfl V.fH ?_;refine bR.jP ?_;refine' bh.ea rfl rfl rfl rfl rfl rfl rfl rfl rfl dC (Wf gg) ?_;rintro v' m' ai hle ⟨rfl,rfl,rfl⟩;refine bh.cq eV ?_;refine' bh.ea rfl rfl rfl rfl rfl rfl rfl rfl rfl (cp (c0 rfl) dC) (Is dR gg.neg gR (Qq cs) cJ cW (by show(-s.z).natAbs<=_;rw[xn];exact s1) s2) ?_;rintro v' m' bO a' ⟨_,rfl,fa,fh,rfl,cg⟩;have da:=cg;obtain⟨fF,hi,hb,rfl,gi,_,_⟩:=cg.n.bN;obtain⟨gp,ed,e1,rfl,iO,_,_⟩:=cg.d.bN;refine bh.jO (fun x j=>jX (f:=fun x=>(x.f,x.ca)) j) ?_;refine oZ rfl ?_;refine bR.nil ?_;refine aM ?_;refine ad.ret ?_;refine'⟨.inr rfl,rfl,_,[],.cell rfl (by repeat first|exact .head _|refine .tail _ ?_|refine eU _ ?_) (gh (fs rfl) rfl) (.nil),b1 _,⟨a',rfl,_,_,rfl,da⟩⟩
theorem V3{r s:cv}{v1 v2 bc b6:Value}(ap:fE J r v1 v2)(ag:fE J s bc b6)(gR:r.fi)(cs:s.fi)(sz:s.z≠0)(cJ:r.z.natAbs<=60000)(cW:r.d<=60000)(s1:s.z.natAbs<=60000)(s2:s.d<=60000):Fn (aS Q g0) 74 [dF r v1 v2,dF s bc b6] [] J (n2 J (a9 (r.z*s.z) (r.d*s.d))):=by
 have dR:=ap;have gg:=ag;obtain⟨bV,cV,bE,rfl,aQ,eu,gI⟩:=ap.n.bN;obtain⟨b7,dn,b8,rfl,aP,eX,gW⟩:=ap.d.bN;obtain⟨c5,ep,dj,rfl,bC,uc,sj⟩:=ag.n.bN;obtain⟨dM,fp,eg,rfl,dp,BB,sk⟩:=ag.d.bN;have rd:=gR.1;have gM:=cs.1;have aS:r.z.natAbs<18446744073709551616:=hn cJ (by decide);have wE:s.z.natAbs<18446744073709551616:=hn s1 (by decide);have a8:r.d<18446744073709551616:=hn cW (by decide);have a5:s.d<18446744073709551616:=hn s2 (by decide);have sv:=hR rd;have oC:=hR gM;have wk:ee 8 (dF r (.slice bV cV bE) (.slice b7 dn b8)) (dF r (.slice bV cV bE) (.slice b7 dn b8))=true:=by simp[ee,iU,aQ,aP,n3]
 have FL:ee 8 (dF s (.slice c5 ep dj) (.slice dM fp eg)) (dF s (.slice c5 ep dj) (.slice dM fp eg))=true:=by simp[ee,iU,bC,dp,n3]
 refine Fn.cH (cK Tryz.func74) rfl rfl fun H=>?_;refine rg ?_;refine fl fun bS=>?_;refine fl fun cE=>?_;refine' W.step rfl (.of (gN rfl rfl rfl (ly Q g0) rfl rfl rfl fun c4=>?_));refine bU ?_;refine ma [2,3,4] ?_;refine aM ?_;refine' ad.nd 0 [(18,.bool (decide ((cV=0\/ep=0))))] ?ts ?tw;case ts=>
  refine ad.region ?_;refine I V.cN ?_;refine I V.cP ?_;refine I V.h2 ?_;refine I V.bk ?_;refine I V.aT ?_;refine gP 13 (fun Su=>?_) fun Su=>?_
  ·refine cz ?_;refine cz ?_;refine cz ?_;refine cz ?_;refine I V.bx ?_;refine bU ?_;refine'⟨⟨_,rfl,⟨?wK,rfl,rfl,rfl,trivial⟩⟩,cl _,rfl⟩;case wK=>first|exact pe rfl (by first|omega|(simp_all))|exact pc rfl (by first|omega|(simp_all))|exact pd rfl (by first|omega|(simp_all))|exact pb rfl (by first|omega|(simp_all))
  ·refine bF V.cN ?_;refine bF V.cP ?_;refine bF V.h2 ?_;refine bF V.bk ?_;refine I V.bx ?_;refine bU ?_;refine'⟨⟨_,rfl,⟨?wK,rfl,rfl,rfl,trivial⟩⟩,cl _,rfl⟩;case wK=>first|exact pe rfl (by first|omega|(simp_all))|exact pc rfl (by first|omega|(simp_all))|exact pd rfl (by first|omega|(simp_all))|exact pb rfl (by first|omega|(simp_all))
 case tw=>
  refine aM ?_;refine If (fun jh=>?_) fun jh=>?_
  ·have qO:r.z=0:=by
    rcases jh with k|k
    ·exact me.1 (eu.z k)
    ·exact absurd (me.1 (uc.z k)) sz
   have k3:a9 (r.z*s.z) (r.d*s.d)=⟨0,1⟩:=by rw[qO,u'];exact pN (gm rd gM)
   refine rg ?_;refine I V.kH ?_;refine fM ?_;refine aJ ?_;refine ad.ret ?_;refine'⟨.inr rfl,rfl,_,[],.cell rfl (by repeat first|exact .head _|refine .tail _ ?_|refine eU _ ?_) (gh (fs rfl) rfl) (.nil),b1 _,?_⟩;first
    |(rw[k3];exact⟨an.le.refl _,rfl,.slice none 0 0,.slice none 0 0,rfl,cn.nil,cn.nil⟩)
    |exact⟨(((((((((((a'.trans bW).trans dc).trans dz).trans eA).trans fB).trans g3).trans fY).trans hL).trans jo).trans lR).trans k').trans px,rfl,_,_,yi D.rc,da.cast D.rc⟩
  ·have qO:r.z≠0:=fun k=>jh (.inl (eu.sA (me.2 k)));obtain⟨g,h,b,e,p,q,D⟩:=V2 gR cs qO sz;have zi:=hR D.g0;have zj:=hR D.a2;have Lk:=hR D.IJ;have Ll:=hR D.h7;have Vp:=u9.2 D.kw;have Vr:=u9.2 D.bC;have Vo:p.natAbs<4294967296:=hn (ej D.wS cJ) (by decide);have Vq:q.natAbs<4294967296:=hn (ej D.dp s1) (by decide);have Vg:b<4294967296:=hn (ej D.b7 cW) (by decide);have Vj:e<4294967296:=hn (ej D.aW s2) (by decide);refine fJ ?_;refine aM ?_;refine ad.draw rfl (by kernel_rfl) (a6:=[.val 0,.val 1,.val 2,.val 5,.val 6,.val 7,.bZ 3,.cq [7,6,5,1,0],.bZ 4,.cq [7,6,5],.bZ 8,.cq [6,5],.bZ 9,.val 10,.val 11]) (by kernel_rfl) ?_;refine bd rfl V.cN ?_;refine bd rfl V.cP ?_;refine bd rfl V.fH ?_;refine bd rfl V.cN ?_;refine bd rfl V.cP ?_;refine bd rfl V.fH ?_;refine bR.jP ?_;refine' bh.ea rfl rfl rfl rfl rfl rfl rfl rfl rfl dC (mm gg oC) ?_;rintro v' m' bO a' ⟨_,rfl,lV⟩;have oy:=lV;obtain⟨fF,hi,hb,rfl,gi,_,_⟩:=lV.bN;refine bh.cq eV ?_;refine' bh.ea rfl rfl rfl rfl rfl rfl rfl rfl rfl (cp (c0 rfl) dC) (CG (dR.mono a').n oy aS a5) ?_;rintro v' m' eL bW ⟨_,rfl,so⟩;have mJ:=so;obtain⟨gp,ed,e1,rfl,iO,_,_⟩:=so.bN;refine bh.cq eV ?_;refine' bh.ea rfl rfl rfl rfl rfl rfl rfl rfl rfl (cp (c0 rfl) (cp (fun _ aK=>hS.ag (a'.trans bW) (gg.x4 ((dR.mono a').mono bW) (a'.trans bW) gM rd aK) rfl) dC)) (mm ((dR.mono a').mono bW) sv) ?_;rintro v' m' hG dc ⟨_,rfl,qT⟩;have lc:=qT;obtain⟨kG,nF,hJ,rfl,nJ,_,_⟩:=qT.bN
   refine bh.cq eV ?_;refine' bh.ea rfl rfl rfl rfl rfl rfl rfl rfl rfl (cp (c0 rfl) (cp (fun _ aK=>hS.ag (bW.trans dc) (by rw[(dR.mono a').n.lu (((gg.mono a').mono bW).mono dc).n (bW.trans dc) (jR aK).1,oy.lu lc (bW.trans dc) (jR aK).2]) rfl) (cp (c0 rfl) dC))) (CG (((gg.mono a').mono bW).mono dc).n lc wE a8) ?_;rintro v' m' kc dz ⟨_,rfl,qU⟩;rw[D.U] at qU;have oz:=qU;obtain⟨lH,nG,jB,rfl,rb,_,_⟩:=qU.bN;rw[D.b4] at mJ;have mJ:=(mJ.mono dc).mono dz;have sk:=(((dR.mono a').mono bW).mono dc).mono dz;have qP:=(((gg.mono a').mono bW).mono dc).mono dz;refine bh.jO (fun x j=>jX (f:=fun x=>(x.f,x.ca)) j) ?_;refine fX ?_;refine bR.nil ?_;refine aM ?_;refine ad.draw rfl (by kernel_rfl) (a6:=[.val 0,.val 1,.val 2,.val 4,.val 5,.val 6,.bZ 3,.cq [6,5,4],.bZ 7,.bZ 8,.val 9]) (by kernel_rfl) ?_;refine bd rfl V.cN ?_;refine bd rfl V.cP ?_;refine fX ?_;refine bd rfl V.cP ?_;refine bd rfl V.aT ?_;refine bR.jP ?_;refine' bh.ea rfl rfl rfl rfl rfl rfl rfl rfl rfl dC (sP sk.n mJ zi aS) ?_;rintro v' m' nW eA ⟨_,rfl,wv⟩;have ny:=wv;obtain⟨m9,Cb,gQ,rfl,sO,_,_⟩:=wv.bN;refine bh.cq eV ?_;refine' bh.ea rfl rfl rfl rfl rfl rfl rfl rfl rfl (cp (fun _ aK=>hS.ag eA (by rw[sk.n.lu (qP.mono eA).n eA (jR aK).1,mJ.lu (oz.mono eA) eA (jR aK).2]) rfl) dC) (sP (qP.mono eA).n (oz.mono eA) zj wE) ?_;rintro v' m' xp fB ⟨_,rfl,y7⟩;have y4:=y7;obtain⟨qk,sB,dP,rfl,sN,_,_⟩:=y7.bN;rw[D.dG] at ny;rw[D.aQ] at y4;refine' bh.ea rfl rfl rfl rfl rfl rfl rfl rfl rfl (cp (c0 rfl) (cp (c0 rfl) dC)) (uR (ny.mono fB) y4 Vp Vr Vo Vq) ?_;rintro v' m' s5 g3 ⟨_,rfl,wo⟩;have ui:=wo;obtain⟨Pv,V6,qm,rfl,XM,_,_⟩:=wo.bN;have yW:=((sk.mono eA).mono fB).mono g3;have wg:=((qP.mono eA).mono fB).mono g3;have mJ:=((mJ.mono eA).mono fB).mono g3;have oz:=((oz.mono eA).mono fB).mono g3
   refine bh.jO (fun x j=>jX (f:=fun x=>(x.f,x.ca)) j) ?_;refine bd rfl V.aI ?_;refine bR.nil ?_;refine aM ?_;refine ad.draw rfl (by kernel_rfl) (a6:=[.val 0,.val 2,.val 4,.val 6,.bZ 1,.cq [6,4,2],.bZ 3,.cq [6,4],.bZ 5,.cq [6],.bZ 7,.bZ 8,.val 9]) (by kernel_rfl) ?_;refine bd rfl V.fH ?_;refine bd rfl V.aT ?_;refine bd rfl V.fH ?_;refine bd rfl V.aT ?_;refine bR.jP ?_;refine' bh.ea rfl rfl rfl rfl rfl rfl rfl rfl rfl dC (mm yW sv) ?_;rintro v' m' HM fY ⟨_,rfl,y8⟩;have BP:=y8;obtain⟨Pw,zu,kI,rfl,XN,_,_⟩:=y8.bN;refine bh.cq eV ?_;refine' bh.ea rfl rfl rfl rfl rfl rfl rfl rfl rfl (cp (c0 rfl) dC) (sP BP (oz.mono fY) zj a8) ?_;rintro v' m' s6 hL ⟨_,rfl,y9⟩;have BQ:=y9;obtain⟨Px,V7,PL,rfl,XO,_,_⟩:=y9.bN;refine bh.cq eV ?_;refine' bh.ea rfl rfl rfl rfl rfl rfl rfl rfl rfl (cp (c0 rfl) (cp (fun _ aK=>hS.ag (fY.trans hL) (yW.x4 ((wg.mono fY).mono hL) (fY.trans hL) rd gM aK) rfl) dC)) (mm ((wg.mono fY).mono hL) oC) ?_;rintro v' m' C8 jo ⟨_,rfl,wq⟩;have wm:=wq;obtain⟨Py,V8,iF,rfl,XP,_,_⟩:=wq.bN;refine bh.cq eV ?_;refine' bh.ea rfl rfl rfl rfl rfl rfl rfl rfl rfl (cp (c0 rfl) (cp (fun _ aK=>hS.ag (hL.trans jo) (by rw[BP.lu wm (hL.trans jo) (jR aK).1,(oz.mono fY).lu (((mJ.mono fY).mono hL).mono jo) (hL.trans jo) (jR aK).2]) rfl) (cp (c0 rfl) dC))) (sP wm (((mJ.mono fY).mono hL).mono jo) zi a5) ?_;rintro v' m' OG lR ⟨_,rfl,wu⟩;have y5:=wu;obtain⟨Pz,V9,fW,rfl,XQ,_,_⟩:=wu.bN;rw[D.bV] at BQ;rw[D.aA] at y5;refine' bh.ea rfl rfl rfl rfl rfl rfl rfl rfl rfl (cp (c0 rfl) (cp (c0 rfl) (cp (c0 rfl) (cp (c0 rfl) dC)))) (uR ((BQ.mono jo).mono lR) y5 Lk Ll Vg Vj) ?_
   rintro v' m' OH k' ⟨_,rfl,y'⟩;have BR:=y';obtain⟨PA,V',mn,rfl,XR,_,_⟩:=y'.bN;have ui:=((((ui.mono fY).mono hL).mono jo).mono lR).mono k';refine bh.jO (fun x j=>jX (f:=fun x=>(x.f,x.ca)) j) ?_;refine bd rfl V.aI ?_;refine bR.nil ?_;refine rg ?_;refine I V.cN ?_;refine I V.cP ?_;refine I V.cN ?_;refine I V.cP ?_;refine' W.step rfl (Exec.val rfl rfl (z1 rfl rfl rfl (.inr ⟨rfl,rfl⟩) (by kernel_rfl)) ?_);refine aH ?_;refine cm (G:=B8 (r:=⟨p*q,b*e⟩) (by rw[<-iC] at ui;exact ui) BR (fun _=>by rw[mo.2 D.iN,mo.2 D.aP];exact Wg D.kw D.bC) (fun k=>absurd k (HH D.kw D.bC)) (Nat.mul_ne_zero Lk Ll)) (h:=?_);rintro v' m' OI px ⟨_,rfl,fa,fh,rfl,cg⟩;have da:=cg;obtain⟨IK,LZ,qn,rfl,MG,_,_⟩:=cg.n.bN;obtain⟨IL,wK,aa4,rfl,MH,_,_⟩:=cg.d.bN;refine fM ?_;refine aJ ?_;refine ad.ret ?_;refine'⟨.inr rfl,rfl,_,[],.cell rfl (by repeat first|exact .head _|refine .tail _ ?_|refine eU _ ?_) (gh (fs rfl) rfl) (.nil),b1 _,?_⟩;first
    |(rw[k3];exact⟨an.le.refl _,rfl,.slice none 0 0,.slice none 0 0,rfl,cn.nil,cn.nil⟩)
    |exact⟨(((((((((((a'.trans bW).trans dc).trans dz).trans eA).trans fB).trans g3).trans fY).trans hL).trans jo).trans lR).trans k').trans px,rfl,_,_,yi D.rc,da.cast D.rc⟩
theorem QW{r s:cv}{v1 v2 bc b6:Value}(ap:fE J r v1 v2)(ag:fE J s bc b6)(gR:r.fi)(cs:s.fi)(sz:0<s.z)(cJ:r.z.natAbs<=60000)(cW:r.d<=60000)(s1:s.z.natAbs<=60000)(s2:s.d<=60000):Fn (aS Q g0) 44 [dF r v1 v2,dF s bc b6] [] J (n2 J (a9 (r.z*s.d) (r.d*s.z.natAbs))):=by
 have dR:=ap;have gg:=ag;obtain⟨bV,cV,bE,rfl,aQ,eu,gI⟩:=ap.n.bN;obtain⟨b7,dn,b8,rfl,aP,eX,gW⟩:=ap.d.bN;obtain⟨c5,ep,dj,rfl,bC,uc,sj⟩:=ag.n.bN;obtain⟨dM,fp,eg,rfl,dp,BB,sk⟩:=ag.d.bN;have gM:=cs.1;have oC:=hR gM;have Ls:s.z.natAbs≠0:=u9.2 (by omega);have DR:(⟨(s.d:Int),s.z.natAbs⟩:cv).fi:=⟨Nat.pos_of_ne_zero Ls,by show Nat.Coprime ((s.d:Int).natAbs) s.z.natAbs;rw[iD];exact cs.2.symm⟩;have wk:ee 8 (dF r (.slice bV cV bE) (.slice b7 dn b8)) (dF r (.slice bV cV bE) (.slice b7 dn b8))=true:=by simp[ee,iU,aQ,aP,n3]
 have FL:ee 8 (dF s (.slice c5 ep dj) (.slice dM fp eg)) (dF s (.slice c5 ep dj) (.slice dM fp eg))=true:=by simp[ee,iU,bC,dp,n3]
 refine Fn.cH (cK Tryz.func44) rfl rfl fun H=>?_;refine rg ?_;refine fl fun bS=>?_;refine fl fun cE=>?_;refine' W.step rfl (.of (gN rfl rfl rfl (ly Q g0) rfl rfl rfl fun c4=>?_));refine aJ ?_;refine ad.draw rfl (by kernel_rfl) (a6:=[.val 0,.val 1,.val 2,.val 3,.val 5,.val 6,.bZ 4,.cq [6,5,2,1,0],.bZ 7,.cq [0],.bZ 8,.bZ 9]) (by kernel_rfl) ?_;refine bd rfl V.fH ?_;refine bd rfl V.cN ?_;refine bd rfl V.cP ?_;refine bd rfl V.fH ?_;refine bd rfl V.cN ?_;refine bd rfl V.cP ?_;refine bR.jP ?_;refine' bh.ea rfl rfl rfl rfl rfl rfl rfl rfl rfl dC (mm gg oC) ?_;rintro v' m' bO a' ⟨_,rfl,lV⟩;have oy:=lV;obtain⟨fF,hi,hb,rfl,gi,_,_⟩:=lV.bN;refine bh.cq eV ?_;refine' bh.ea rfl rfl rfl rfl rfl rfl rfl rfl rfl (cp (c0 rfl) dC) (B8 (r:=⟨(s.d:Int),s.z.natAbs⟩) oy (gg.mono a').n (fun _=>by rw[gd (show ¬s.z<0 by omega),gd (show ¬(s.d:Int)<0 by omega)]) (fun k=>absurd k (show(s.d:Int)≠0 by omega)) Ls) ?_;rintro v' m' eL bW ⟨_,rfl,fa,fh,rfl,cg⟩;have da:=cg;obtain⟨IK,LZ,qn,rfl,MG,_,_⟩:=cg.n.bN;obtain⟨IL,wK,jh,rfl,MH,_,_⟩:=cg.d.bN;refine bh.cq eV ?_;refine' bh.ea rfl rfl rfl rfl rfl rfl rfl rfl rfl (cp (c0 rfl) (cp (c0 rfl) dC)) (V3 ((dR.mono a').mono bW) da gR DR (show(s.d:Int)≠0 by omega) cJ cW (by show((s.d:Int)).natAbs<=_;rw[iD];exact s2) s1) ?_;rintro v' m' hG dc ⟨_,rfl,p1,p2,rfl,r4⟩;have SW:=r4;obtain⟨PB,Wa,qo,rfl,XS,_,_⟩:=r4.n.bN;obtain⟨PC,Wc,kk,rfl,XT,_,_⟩:=r4.d.bN;refine bh.jO (fun x j=>jX (f:=fun x=>(x.f,x.ca)) j) ?_;refine oZ rfl ?_;refine bR.nil ?_;refine aM ?_;refine ad.ret ?_;refine'⟨.inr rfl,rfl,_,[],.cell rfl (by repeat first|exact .head _|refine .tail _ ?_|refine eU _ ?_) (gh (fs rfl) rfl) (.nil),b1 _,⟨(a'.trans bW).trans dc,rfl,_,_,rfl,SW⟩⟩
theorem VQ{n:Nat}(a2:n≠0)(aE:n<9223372036854775808):Fn (aS Q g0) 67 [.int .i64 (n:Int)] [] J (hS J n):=by
 refine Fn.cH (cK Tryz.func67) rfl rfl fun H=>?_;refine rg ?_;refine I V.aI ?_;refine bg ?_;refine I V.aT ?_;refine I V.bk ?_;refine aJ ?_;refine If (fun eg=>?_) fun eg=>?_
 ·exfalso;omega
 ·refine aM ?_;refine ad.skip ?_;refine rg ?_;refine I V.aT ?_;refine I V.bk ?_;refine aJ ?_;refine If (fun e1=>?_) fun e1=>?_
  ·exfalso;omega
  ·refine aM ?_;refine ad.skip ?_;refine rg ?_;refine I V.aT ?_;refine I V.gb ?_;refine jA (jQ Q g0) fun O9=>?_;refine I V.aI ?_;refine bU ?_;refine ad.ju rfl fun bW=>?_;refine aM ?_;refine ad.ret ?_;refine'⟨.inr rfl,rfl,_,[],.tmp rfl .nil,b1 _,⟨bW,rfl,cn.row (n:=1) (l:=[n]) (by unfold iz;rw[a1 a2];rfl) (by simp) (by simp) (by decide) (an.h6 _ _ _)⟩⟩
theorem Lf{n:Nat}(a2:n≠0)(aE:n<9223372036854775808):Fn (aS Q g0) 39 [.int .i64 (n:Int)] [] J (n2 J ⟨(n:Int),1⟩):=by
 refine Fn.cH (cK Tryz.func39) rfl rfl fun H=>?_;refine rg ?_;refine' W.step rfl (.of (gN rfl rfl rfl (ly Q g0) rfl rfl rfl fun bS=>?_));refine bg ?_;refine I V.aT ?_;refine I V.bk ?_;refine I V.aT ?_;refine cm (G:=VQ a2 aE) (h:=?_);rintro v' m' bO a' ⟨_,rfl,lV⟩;have oy:=lV;obtain⟨fF,hi,hb,rfl,gi,_,_⟩:=lV.bN;refine I V.kH ?_;refine fM ?_;refine aJ ?_;refine ad.ret ?_;refine'⟨.inr rfl,rfl,_,[],.cell rfl (by repeat first|exact .head _|refine .tail _ ?_|refine eU _ ?_) (gh (fs rfl) rfl) (.nil),b1 _,⟨a',rfl,_,.slice none 0 0,rfl,oy,cn.nil⟩⟩
theorem Nd{r:cv}{v1 v2:Value}(h:fE J r v1 v2)(a0:0<r.z):Fn (aS Q g0) 63 [dF r v1 v2] [] J (fun u m' ai=>u=.int .i64 1/\m'=[]/\J.le ai):=by
 obtain⟨bV,cV,bE,rfl,aQ,eu,gI⟩:=h.n.bN;obtain⟨b7,dn,b8,rfl,aP,eX,gW⟩:=h.d.bN;refine Fn.cH (cK Tryz.func63) rfl rfl fun H=>?_;refine rg ?_;refine fl fun bP=>?_;refine I V.aI ?_;refine bg ?_;refine I V.cN ?_;refine I V.cP ?_;refine I V.h2 ?_;refine I V.bk ?_;refine aJ ?_;refine If (fun e1=>?_) fun e1=>?_
 ·exfalso;have:=me.1 (eu.z (by omega));omega
 ·refine aM ?_;refine ad.skip ?_;refine rg ?_;refine I V.cN ?_;refine I V.cP ?_;refine aJ ?_;refine If (fun jB=>?_) fun jB=>?_
  ·exfalso;omega
  ·refine aM ?_;refine ad.skip ?_;refine rg ?_;refine I V.aI ?_;refine aJ ?_;refine ad.ret ?_;refine'⟨.inr rfl,rfl,_,[],.tmp rfl .nil,b1 _,⟨rfl,rfl,an.le.refl _⟩⟩
theorem Qp{r s:cv}{v1 v2 bc b6:Value}(ap:fE J r v1 v2)(ag:fE J s bc b6)(gR:r.fi)(cs:s.fi)(w2:0<r.z)(sz:0<s.z)(cJ:r.z.natAbs<=60000)(cW:r.d<=60000)(s1:s.z.natAbs<=60000)(s2:s.d<=60000):Fn (aS Q g0) 38 [dF r v1 v2,dF s bc b6] [] J (fun u m' ai=>u=.int .i64 (jD (r.z.natAbs*s.d) (s.z.natAbs*r.d))/\m'=[]/\J.le ai):=by
 have dR:=ap;have gg:=ag;obtain⟨bV,cV,bE,rfl,aQ,eu,gI⟩:=ap.n.bN;obtain⟨b7,dn,b8,rfl,aP,eX,gW⟩:=ap.d.bN;obtain⟨c5,ep,dj,rfl,bC,uc,sj⟩:=ag.n.bN;obtain⟨dM,fp,eg,rfl,dp,BB,sk⟩:=ag.d.bN;have rd:=gR.1;have gM:=cs.1;have sv:=hR rd;have oC:=hR gM;have aS:r.z.natAbs<4294967296:=hn cJ (by decide);have wE:s.z.natAbs<4294967296:=hn s1 (by decide);have a8:r.d<4294967296:=hn cW (by decide);have a5:s.d<4294967296:=hn s2 (by decide);have Vs:=u9.2 (show r.z≠0 by omega);have Vt:=u9.2 (show s.z≠0 by omega);have wk:ee 8 (dF r (.slice bV cV bE) (.slice b7 dn b8)) (dF r (.slice bV cV bE) (.slice b7 dn b8))=true:=by simp[ee,iU,aQ,aP,n3]
 have FL:ee 8 (dF s (.slice c5 ep dj) (.slice dM fp eg)) (dF s (.slice c5 ep dj) (.slice dM fp eg))=true:=by simp[ee,iU,bC,dp,n3]
 refine Fn.cH (cK Tryz.func38) rfl rfl fun H=>?_;refine rg ?_;refine fl fun bS=>?_;refine fl fun cE=>?_;refine I V.aI ?_;refine aJ ?_;refine ad.draw rfl (by kernel_rfl) (a6:=[.val 0,.val 2,.bZ 1,.cq [2],.bZ 3,.val 4,.val 5]) (by kernel_rfl) ?_;refine bd rfl V.fH ?_;refine bd rfl V.fH ?_;refine bR.jP ?_;refine' bh.ea rfl rfl rfl rfl rfl rfl rfl rfl rfl dC (Nd dR w2) ?_;rintro v' m' aaC tZ ⟨rfl,rfl,_⟩;refine bh.cq eV ?_;refine' bh.ea rfl rfl rfl rfl rfl rfl rfl rfl rfl (cp (fun _ _=>⟨rfl,tZ,fun v m' bO eL ⟨a,b,c⟩ U ab=>⟨a,b,ab⟩⟩) dC) (Nd (gg.mono tZ) sz) ?_;rintro v' m' aaD t' ⟨rfl,rfl,_⟩;have dR:=(dR.mono tZ).mono t';have gg:=(gg.mono tZ).mono t';refine bh.jO (fun x j=>jX (f:=fun x=>(x.f,x.ca)) j) ?_;refine fX ?_;refine bR.nil ?_;refine rg ?_;refine aH ?_;refine I V.bk ?_;refine I V.aT ?_;refine gP 15 (fun JN=>?_) fun JN=>?_
 ·exfalso;exact JN rfl
 ·refine bF V.aT ?_;refine bF V.bk ?_;refine I V.bx ?_;refine aJ ?_;refine If (fun jh=>?_) fun jh=>?_
  ·exfalso;simp at jh
  ·refine aM ?_;refine ad.skip ?_;refine aM ?_;refine ad.draw rfl (by kernel_rfl) (a6:=[.val 0,.val 1,.val 2,.val 5,.val 6,.val 7,.bZ 3,.cq [7,6,5,1,0],.bZ 4,.cq [7,6,5],.bZ 8,.cq [6,5],.bZ 9,.bZ 10,.val 11]) (by kernel_rfl) ?_;refine bd rfl V.cN ?_;refine bd rfl V.cP ?_;refine bd rfl V.fH ?_;refine bd rfl V.cN ?_;refine bd rfl V.cP ?_;refine bd rfl V.fH ?_;refine bR.jP ?_;refine' bh.ea rfl rfl rfl rfl rfl rfl rfl rfl rfl dC (mm gg oC) ?_;rintro v' m' bO a' ⟨_,rfl,lV⟩;have oy:=lV;obtain⟨fF,hi,hb,rfl,gi,_,_⟩:=lV.bN;refine bh.cq eV ?_;refine' bh.ea rfl rfl rfl rfl rfl rfl rfl rfl rfl (cp (c0 rfl) dC) (uR (dR.mono a').n oy Vs oC aS a5) ?_;rintro v' m' eL bW ⟨_,rfl,so⟩;have mJ:=so;obtain⟨gp,ed,e1,rfl,iO,_,_⟩:=so.bN;refine bh.cq eV ?_;refine' bh.ea rfl rfl rfl rfl rfl rfl rfl rfl rfl (cp (c0 rfl) (cp (fun _ aK=>hS.ag (a'.trans bW) (gg.x4 ((dR.mono a').mono bW) (a'.trans bW) gM rd aK) rfl) dC)) (mm ((dR.mono a').mono bW) sv) ?_;rintro v' m' hG dc ⟨_,rfl,qT⟩;have lc:=qT;obtain⟨kG,nF,hJ,rfl,nJ,_,_⟩:=qT.bN;refine bh.cq eV ?_;refine' bh.ea rfl rfl rfl rfl rfl rfl rfl rfl rfl (cp (c0 rfl) (cp (fun _ aK=>hS.ag (bW.trans dc) (by rw[(dR.mono a').n.lu (((gg.mono a').mono bW).mono dc).n (bW.trans dc) (jR aK).1,oy.lu lc (bW.trans dc) (jR aK).2]) rfl) (cp (c0 rfl) dC))) (uR (((gg.mono a').mono bW).mono dc).n lc Vt sv wE a8) ?_;rintro v' m' kc dz ⟨_,rfl,qU⟩;have oz:=qU;obtain⟨lH,nG,jB,rfl,rb,_,_⟩:=qU.bN;refine' bh.ea rfl rfl rfl rfl rfl rfl rfl rfl rfl (cp (c0 rfl) (cp (c0 rfl) (cp (c0 rfl) (cp (c0 rfl) dC)))) (x0 ((mJ.mono dc).mono dz) oz) ?_;rintro v' m' ai hle ⟨rfl,rfl,rfl⟩
   refine bh.jO (fun x j=>jX (f:=fun x=>(x.f,x.ca)) j) ?_;refine bd rfl V.aI ?_;refine bR.nil ?_;refine rg ?_;refine I V.cN ?_;refine I V.cP ?_;refine aJ ?_;refine If (fun PQ=>?_) fun PQ=>?_
   ·exfalso;omega
   ·refine aM ?_;refine ad.skip ?_;refine rg ?_;refine aH ?_;refine aJ ?_;refine ad.ret ?_;refine'⟨.inr rfl,rfl,_,[],.tmp rfl .nil,b1 _,⟨rfl,rfl,((((tZ.trans t').trans a').trans bW).trans dc).trans dz⟩⟩
end
def dE(J:an)(v:Value)(x:Nat):Prop:=dx .u32 J v (aj x)
theorem dE.mono{J ai:an}(hle:J.le ai){v:Value}{x:Nat}(h:dE J v x):dE ai v x:=dx.mono hle h
theorem zm{x:Nat}(h:x<1000000000):aj x=iz x:=by
 unfold iz;split
 ·rename_i q;rw[q,ks]
 ·rename_i q
  rw[pJ q,o3 h,ks,qc h]
theorem dE.un{J:an}{v:Value}{x:Nat}(h:dE J v x)(j:x<1000000000):∃b n c,v=.slice b n c/\addrEq b b=true/\j0 x n/\(n=1->∃a off cells e,b=some ⟨a,off,none⟩/\J a=some (cells,e)/\nth cells (off+0)=some (.int .u32 (x:Int))):=by
 have h:dx .u32 J v (aj x):=h;rw[zm j] at h;obtain⟨b,c,rfl⟩:=h.form;have hw:=Hi (n:=x);refine⟨b,_,c,rfl,h.addr,?_,fun aE=>?_⟩
 ·unfold j0
  by_cases q:x=0
  ·rw[bs q] at hw;exact .inl ⟨q,hw⟩
  ·rw[a1 q] at hw;exact .inr ⟨q,hw⟩
 ·obtain⟨a,off,cells,e,U,ab,aV⟩:=h.dv (by omega)
  have q:x≠0:=fun q=>by rw[bs q] at hw;omega
  exact⟨a,off,cells,e,U,ab,aV 0 x (by unfold iz;rw[a1 q];rfl)⟩
theorem CY:je []:=fun a c e r z h=>by cases h
theorem Cc:q3 []:=fun a c e h=>by cases h
theorem Acc.Wv{w:Value}{t k:Nat}{cells:List Value}{bq:aU}(h:Acc t 1 w k cells bq)(a0:je bq)(aE:q3 bq)(U:k≠0):∃a r,w=.slice (some ⟨a,0,none⟩) k cf/\bq=[(a,.opn cells t r 0)]:=by
 cases h with
 |nil=>exact absurd rfl U
 |hy a=>exact absurd rfl U
 |@opn a k cells rest z aw fC=>
  have:z=0:=a0 _ _ _ _ _ (.head _);subst this;exact⟨a,rest,rfl,rfl⟩
 |cap=>exact absurd (List.Mem.head _) (aE _ _ _)
theorem j0.cV{x n:Nat}(h:j0 x n)(a2:x≠0):n=1:=by unfold j0 at h;omega
theorem j0.Gs{x n:Nat}(h:j0 x n)(a2:n≠0):x≠0:=by unfold j0 at h;omega
theorem j0.le{x n:Nat}(h:j0 x n):n<=1:=by unfold j0 at h;omega
abbrev w1(k:IntKind)(t a:Nat)(l:List Nat)(r:List Nat):Nat×db:=(a,.opn (cj k l) t r 0)
section
variable {Q:eF Tryz.prog}{g0:Nat}{J:an}
theorem Zl{a:Nat}{l r:List Nat}(g2:l.length<1000000):
 Fn (aS Q g0) 92 [.slice (some ⟨a,0,none⟩) l.length cf] [w1 .u64 92 a l r] J (fun u m' ai=>∃k,u=.slice (some ⟨a,0,none⟩) k cf/\k<=l.length/\(∀aa y,k<=aa->l[aa]?=some y->y=0)/\(∀y,0<k->l[k -1]?=some y->y≠0)/\m'=[w1 .u64 92 a l r]/\J=ai):=by
 refine Fn.cH (cK Tryz.func92) rfl rfl fun H=>?_;refine rg ?_;refine I V.aI ?_;refine bg ?_;refine aH ?_;refine aJ ?_;refine ad.block ?_;refine' ad.eZ (l':=[(3,.int .i64 ((l.length):Int)),(0,_)]) ⟨?dX,rfl,trivial⟩ (cl _) ?_;case dX=>first|exact cu|exact ak some (ak (Value.int .u64) (by omega))|exact ak some (ak (Value.int .i64) (by omega))
 refine aM ?_;refine' ad.l2 (α:=(Nat)) (fun(k:Nat)=>[(3,.int .i64 (k:Int))]) (fun(k:Nat)=>k<=l.length/\∀aa y,k<=aa->l[aa]?=some y->y=0) (fun(k:Nat)=>k) (l.length) ?ag ?b2;case ag=>exact⟨c9 _,fun aa y U ab=>by have:=(h4.1 ab).1;omega⟩
 case b2=>
  rintro k hinv;try simp only at hinv
  obtain⟨hk,a0⟩:=hinv;refine rg ?_;refine I V.aT ?_;refine I V.bk ?_;refine I V.aT ?_;refine gP 8 (fun En=>?_) fun En=>?_
  ·obtain⟨x,j⟩:∃x,l[k -1]?=some x:=⟨_,fx (by omega)⟩;have aE:nth (cj .u64 l) (0+((k:Int) -1).toNat*1)=some (.int .u64 (x:Int)):=ux j (by omega);refine bF V.aT ?_;refine bF V.aT ?_;refine bF V.bX ?_;refine bF V.bw ?_;refine bF V.cP ?_;refine bF V.bk ?_;refine I V.bx ?_;refine aJ ?_;refine If (fun fW=>?_) fun fW=>?_
   ·refine aM ?_;refine ad.skip ?_;refine aM ?_;refine ad.block ?_;refine rg ?_;refine I V.aT ?_;refine I V.bX ?_;refine I V.aI ?_;refine bU ?_;refine'⟨(k -1),_,?hinv,?g5,rfl,⟨?mN,rfl,trivial⟩,cl _,rfl⟩;case mN=>first|exact cu|exact ak some (ak (Value.int .u64) (by omega))|exact ak some (ak (Value.int .i64) (by omega))
    case g5=>exact cQ
    case hinv=>
     exact⟨by omega,fun aa y U ab=>by
         by_cases q:k<=aa
         ·exact a0 aa y q ab
         ·obtain rfl:aa=k -1:=by omega
          rw[j] at ab;injection ab with ab;omega⟩
   ·refine aM ?_;refine ad.exit ?_;refine rg ?_;refine aH ?_;refine' W.step rfl (Exec.val rfl rfl (Hb rfl rfl rfl (jQ Q g0) ?hm ?a2 ?U) ?_);case hm=>repeat first|exact .head _|refine .tail _ ?_|refine eU _ ?_
    case a2=>exact cQ
    case U=>exact cQ
    refine I V.aI ?_;refine aJ ?_;refine ad.ret ?_;refine'⟨.inr rfl,rfl,_,_,.tmp rfl .nil,cl _,?_⟩;first
      |(have c:=fW;exact⟨k,by rw[jW];rfl,hk,a0,fun y U ab=>by rw[j] at ab;injection ab with ab;omega,rfl,rfl⟩)
      |exact⟨k,by rw[jW];rfl,hk,a0,fun y U ab=>by omega,rfl,rfl⟩
  ·refine cz ?_;refine cz ?_;refine cz ?_;refine cz ?_;refine cz ?_;refine cz ?_;refine I V.bx ?_;refine aJ ?_;refine ad.rU rfl ?_;refine aM ?_;refine ad.exit ?_;refine rg ?_;refine aH ?_;refine' W.step rfl (Exec.val rfl rfl (Hb rfl rfl rfl (jQ Q g0) ?hm ?a2 ?U) ?_);case hm=>repeat first|exact .head _|refine .tail _ ?_|refine eU _ ?_
   case a2=>exact cQ
   case U=>exact cQ
   refine I V.aI ?_;refine aJ ?_;refine ad.ret ?_;refine'⟨.inr rfl,rfl,_,_,.tmp rfl .nil,cl _,?_⟩;first
    |exact⟨k,by rw[jW];rfl,hk,a0,fun y U ab=>by omega,rfl,rfl⟩
theorem aad{v:Value}{x:Nat}(h:cn J v x)(gC:x≠0):Fn (aS Q g0) 93 [v] [] J (fun u m' ai=>J=ai/\∃a r,u=.slice (some ⟨a,0,none⟩) 1 cf/\m'=[w1 .u64 92 a [x] r]):=by
 have a2:=h;obtain⟨b,n,c,rfl,nK,aE,ap⟩:=h.bN;obtain rfl:=aE.cV gC;obtain⟨a,off,cells,e,rfl,gT,aD⟩:=ap rfl;have US:iz x=[x]:=by unfold iz;rw[a1 gC]
 have U:dx .u64 J (.slice (some ⟨a,off,none⟩) 1 c) [x]:=by have a2:dx .u64 J _ (iz x):=a2;rw[US] at a2;exact a2
 refine Fn.cH (cK Tryz.func93) rfl rfl fun H=>?_;refine rg ?_;refine I V.aI ?_;refine bg ?_;refine I V.aT ?_;refine I V.GQ ?_;refine aJ ?_;refine If (fun eg=>?_) fun eg=>?_
 ·exfalso;cases eg
 ·refine aM ?_;refine ad.skip ?_;refine rg ?_;refine jA (jQ Q g0) fun cO=>?_;refine I V.aT ?_;refine' W.step rfl (.of (rr rfl rfl rfl rfl rfl rfl (jQ Q g0) (G9 Q g0) (fun i q=>by cases q) ?ez ?hm ?j ?dQ ?dV ?aw fun l9 VZ EL FQ=>?_));case ez=>exact .hy _
  case hm=>exact .refl _
  case j=>exact U.rd
  case dQ=>exact rfl
  case dV=>exact zD _
  case aw=>exact(show 0+1<=1000000 by decide)
  obtain⟨ac,MQ,rfl,rfl⟩:=EL.Wv (FQ.1 CY) (FQ.2 Cc) (by simp);refine I V.aI ?_;refine aJ ?_;refine ad.ret ?_;refine'⟨.inr rfl,rfl,_,_,.tmp rfl .nil,.cons_cons _ (b1 _),⟨rfl,ac,MQ,rfl,rfl⟩⟩
theorem JC{v:Value}{x:Nat}(h:dE J v x)(j:x<1000000000):Fn (aS Q g0) 88 [v] [] J (hS J x):=by
 obtain⟨b,n,c,rfl,nK,aE,ap⟩:=h.un j;have BC:=aE.le;refine Fn.cH (cK Tryz.func88) rfl rfl fun H=>?_;refine rg ?_;refine I V.aI ?_;refine bg ?_;refine I V.aI ?_;refine bg ?_;refine aH ?_;refine I V.bX ?_;refine I V.aI ?_;refine aJ ?_;refine ad.block ?_;refine' ad.eZ (l':=[(4,.int .i64 (((n):Int) -1)),(3,(.slice none 0 0)),(0,_)]) ⟨?l8,?dX,rfl,trivial⟩ (cl _) ?_;case l8=>first|exact cu|exact ak some (ak (Value.int .u64) (by omega))|exact ak some (ak (Value.int .i64) (by omega))
 case dX=>first|exact cu|exact ak some (ak (Value.int .u64) (by omega))|exact ak some (ak (Value.int .i64) (by omega))
 refine aM ?_;refine' ad.hN (fun(cT:Nat×Value×aU)=>match cT with|(k,w,bq)=>⟨[(4,.int .i64 ((k:Int) -1)),(3,w)],bq,J,k<=n/\(k=n->w=.slice none 0 0/\bq=[])/\(k<n->Acc 92 1 w 1 (cj .u64 [x]) bq),k⟩) ⟨n,.slice none 0 0,[]⟩ ?ag ?b2
 case ag=>exact⟨c9 _,fun _=>⟨rfl,rfl⟩,fun q=>absurd q (tg _)⟩
 case b2=>
  rintro⟨k,w,bq⟩ hinv;try simp only at hinv
  obtain⟨hk,mE,pv⟩:=hinv;refine rg ?_;refine I V.aT ?_;refine I V.bk ?_;refine aJ ?_;refine If (fun iF=>?_) fun iF=>?_
  ·have E5:k=n:=by omega
   obtain⟨rfl,rfl⟩:=mE E5;obtain⟨bP,l4,tq,aA,rfl,nl,kp⟩:=ap (by omega);have a2:((k:Int) -1).toNat=0:=by omega
   have kp:nth tq (l4+((k:Int) -1).toNat*1)=some (.int .u32 (x:Int)):=by rw[a2];exact kp
   have e7:=aE.Gs (by omega);refine fJ ?_;refine aM ?_;refine ad.block ?_;refine rg ?_;refine aH ?_;refine I V.bw ?_;refine I V.ec ?_;refine I V.gb ?_;refine I V.aI ?_;refine bg ?_;refine aH ?_;refine aJ ?_;refine ad.block ?_;refine aM ?_;refine ad.F8 ?_;refine rg ?_;refine I V.bk ?_;refine aJ ?_;refine If (fun qq=>?_) fun qq=>?_
   ·exfalso;simp at qq
   ·refine aM ?_;refine ad.exit ?_;refine rg ?_;refine I V.aT ?_;refine I V.bk ?_;refine aJ ?_;refine If (fun PS=>?_) fun PS=>?_
    ·refine rg ?_;refine aH ?_;refine jA (jQ Q g0) fun aaQ=>?_;refine' W.step rfl (.of (Of rfl rfl rfl rfl rfl rfl (jQ Q g0) (G9 Q g0) (fun i q=>by cases q) ?ez ?hm ?j ?dQ ?dV ?aw fun aaa VY Tk=>?_));case ez=>exact .nil
     case hm=>exact .refl _
     case j=>exact jg.own (cells:=cj .u64 [x]) (.head _) rfl
     case dQ=>first|rfl|(simp;done)|(simp;omega)
     case dV=>exact zD [x]
     case aw=>exact cQ
     refine I V.aI ?_;refine bg ?_;refine I V.aT ?_;refine I V.bX ?_;refine I V.aI ?_;refine bU ?_;refine hO ⟨k -1,aaa,VY⟩ ?_ (hm:=vd _ _);exact⟨by omega,fun q=>by omega,fun _=>Tk⟩
    ·exfalso;omega
  ·have yL:k=0:=by omega
   have ot:(iz x).length=n:=by
    rw[Hi];split
    ·rename_i q;rw[aE.sA q]
    ·rename_i q;rw[aE.cV q]
   have e3:Acc 92 1 w n (cj .u64 (iz x)) bq:=by
    by_cases q:n=0
    ·obtain⟨rfl,rfl⟩:=mE (by omega)
     rw[aE.z q,q];exact .nil
    ·have h:=pv (by omega)
     have aQ:n=1:=by omega
     rw[show iz x=[x] from by unfold iz;rw[a1 (aE.Gs q)],aQ];exact h
   refine aM ?_;refine ad.exit ?_;refine e3.pU (by rw[kW]) fun bO a' y1=>?_;refine rg ?_;refine aH ?_;refine aJ ?_;refine ad.ret ?_;refine'⟨.inr rfl,rfl,_,[],.tmp rfl .nil,b1 _,⟨a',rfl,92,by rw[ot];exact y1⟩⟩
end
end
end Go.Opn

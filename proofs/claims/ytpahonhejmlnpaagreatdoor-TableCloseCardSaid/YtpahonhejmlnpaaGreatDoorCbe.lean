/- A part of the proof of TableClose. -/
import Derived.Test.YtpahonhejmlnpaaGreatDoorCbd
set_option maxRecDepth 100000
set_option maxHeartbeats 8000000
set_option linter.unusedVariables false
set_option linter.unusedSimpArgs false
namespace Go.Opn
noncomputable section
open Go.Cre Go.RowKit Go.Proofs
theorem e5.neg{J:an}{r:cH}{v1 v2:Value}(h:e5 J r v1 v2):e5 J ⟨-r.z,r.d⟩ v1 v2:=⟨by show cA J v1 (-r.z).natAbs;rw[y'];exact h.n,h.d⟩
theorem Up{r:cH}(h:r.fP):(⟨-r.z,r.d⟩:cH).fP:=⟨h.1,by show Nat.Coprime (-r.z).natAbs r.d;rw[y'];exact h.2⟩
theorem aaz{p q:Int}(ao:p≠0)(cc:q≠0):decide (¬(decide (p<0)=decide (q<0)))=decide (p*q<0):=by
 rcases r7 p 0 with a|a
 ·rcases r7 q 0 with b|b
  ·have:=Sm a b
   rw[g2 a,g2 b,e8 (show ¬p*q<0 by omega)];rfl
  ·have:=wZ a (show 0<q by omega)
   rw[g2 a,e8 (show ¬q<0 by omega),g2 this];rfl
 ·rcases r7 q 0 with b|b
  ·have:=KM (show 0<p by omega) b
   rw[e8 (show ¬p<0 by omega),g2 b,g2 this];rfl
  ·have:=w1 a b
   rw[e8 (show ¬p<0 by omega),e8 (show ¬q<0 by omega),e8 (show ¬p*q<0 by omega)];rfl
section
variable {Q:ek Tryz.prog}{g0:Nat}{J:an}
theorem adL{r s:cH}{v1 v2 bh cb:Value}(al:e5 J r v1 v2)(af:e5 J s bh cb)(eV:r.fP)(cs:s.fP)(cX:r.z.natAbs<=1000000000)(cM:r.d<=1000000000)(s1:s.z.natAbs<=1000000000)(s2:s.d<=1000000000):Fn (aO Q g0) 68 [cO r v1 v2,cO s bh cb] [] J (nX J (aV (r.z*s.d+-s.z*r.d) (r.d*s.d))):=by
 have dL:=al;have gf:=af;obtain⟨br,bI,bn,rfl,aR,eb,gK⟩:=al.n.bD;obtain⟨bN,cY,bQ,rfl,aN,e',gT⟩:=al.d.bD;obtain⟨cW,ee,cZ,rfl,bG,ua,sR⟩:=af.n.bD;obtain⟨dj,fa,dH,rfl,dd,Az,sS⟩:=af.d.bD;have qb:c4 8 (cO r (.slice br bI bn) (.slice bN cY bQ)) (cO r (.slice br bI bn) (.slice bN cY bQ))=true:=by simp[c4,gP,aR,aN,j6]
 refine Fn.ck (ch Tryz.func68) rfl rfl fun H=>?_;refine rg ?_;refine fc fun bX=>?_;refine fc fun cy=>?_;refine' W.step rfl (.of (eS rfl rfl rfl (k5 Q g0) rfl rfl rfl fun c0=>?_));refine aD ?_;refine ad.draw rfl (by kernel_rfl) (a2:=[.val 0,.val 1,.bA 2,.b2 [0],.bA 3,.bA 4]) (by kernel_rfl) ?_;refine a6 rfl V.gU ?_;refine a6 rfl V.gU ?_;refine bi.iU ?_;refine' aS.dO rfl rfl rfl rfl rfl rfl rfl rfl rfl c8 (aay gf) ?_;rintro v' m' ae hle ⟨rfl,rfl,rfl⟩;refine aS.b2 ez ?_;refine' aS.dO rfl rfl rfl rfl rfl rfl rfl rfl rfl (cj (cT rfl) c8) (LI dL gf.neg eV (Up cs) cX cM (by show(-s.z).natAbs<=_;rw[y'];exact s1) s2) ?_;rintro v' m' bq a8 ⟨_,rfl,fy,fF,rfl,bY⟩;have cK:=bY;obtain⟨eU,gV,e2,rfl,fm,_,_⟩:=bY.n.bD;obtain⟨eP,ef,dU,rfl,ho,_,_⟩:=bY.d.bD;refine aS.jj (fun x U=>ju (f:=fun x=>(x.f,x.cl)) U) ?_;refine k7 rfl ?_;refine bi.nil ?_;refine aG ?_;refine ad.ret ?_;refine'⟨.inr rfl,rfl,_,[],.cell rfl (by repeat first|exact .head _|refine .tail _ ?_|refine d' _ ?_) (fb (dw rfl) rfl) (.nil),bZ _,⟨a8,rfl,_,_,rfl,cK⟩⟩
theorem Px{r s:cH}{v1 v2 bh cb:Value}(al:e5 J r v1 v2)(af:e5 J s bh cb)(eV:r.fP)(cs:s.fP)(sz:s.z≠0)(cX:r.z.natAbs<=1000000000)(cM:r.d<=1000000000)(s1:s.z.natAbs<=1000000000)(s2:s.d<=1000000000):Fn (aO Q g0) 49 [cO r v1 v2,cO s bh cb] [] J (nX J (aV (r.z*s.z) (r.d*s.d))):=by
 have dL:=al;have gf:=af;obtain⟨br,bI,bn,rfl,aR,eb,gK⟩:=al.n.bD;obtain⟨bN,cY,bQ,rfl,aN,e',gT⟩:=al.d.bD;obtain⟨cW,ee,cZ,rfl,bG,ua,sR⟩:=af.n.bD;obtain⟨dj,fa,dH,rfl,dd,Az,sS⟩:=af.d.bD;have rd:=eV.1;have gM:=cs.1;have aO:r.z.natAbs<18446744073709551616:=hC cX (by decide);have yr:s.z.natAbs<18446744073709551616:=hC s1 (by decide);have a9:r.d<18446744073709551616:=hC cM (by decide);have a4:s.d<18446744073709551616:=hC s2 (by decide);have pj:=hD rd;have qh:=hD gM;have qb:c4 8 (cO r (.slice br bI bn) (.slice bN cY bQ)) (cO r (.slice br bI bn) (.slice bN cY bQ))=true:=by simp[c4,gP,aR,aN,j6]
 have ug:c4 8 (cO s (.slice cW ee cZ) (.slice dj fa dH)) (cO s (.slice cW ee cZ) (.slice dj fa dH))=true:=by simp[c4,gP,bG,dd,j6]
 refine Fn.ck (ch Tryz.func49) rfl rfl fun H=>?_;refine rg ?_;refine fc fun bX=>?_;refine fc fun cy=>?_;refine' W.step rfl (.of (eS rfl rfl rfl (k5 Q g0) rfl rfl rfl fun c0=>?_));refine bR ?_;refine mj [2,3,4] ?_;refine aG ?_;refine' ad.oU 0 [(18,.bool (decide ((bI=0\/ee=0))))] ?vl ?vq;case vl=>
  refine ad.region ?_;refine I V.cF ?_;refine I V.cP ?_;refine I V.gL ?_;refine I V.a' ?_;refine I V.aJ ?_;refine gz 13 (fun Wp=>?_) fun Wp=>?_
  ·refine c7 ?_;refine c7 ?_;refine c7 ?_;refine c7 ?_;refine I V.bo ?_;refine bR ?_;refine'⟨⟨_,rfl,⟨?yw,rfl,rfl,rfl,trivial⟩⟩,cd _,rfl⟩;case yw=>first|exact rc rfl (by first|omega|(simp_all))|exact ra rfl (by first|omega|(simp_all))|exact rb rfl (by first|omega|(simp_all))|exact q' rfl (by first|omega|(simp_all))
  ·refine bM V.cF ?_;refine bM V.cP ?_;refine bM V.gL ?_;refine bM V.a' ?_;refine I V.bo ?_;refine bR ?_;refine'⟨⟨_,rfl,⟨?yw,rfl,rfl,rfl,trivial⟩⟩,cd _,rfl⟩;case yw=>first|exact rc rfl (by first|omega|(simp_all))|exact ra rfl (by first|omega|(simp_all))|exact rb rfl (by first|omega|(simp_all))|exact q' rfl (by first|omega|(simp_all))
 case vq=>
  refine aG ?_;refine If (fun hY=>?_) fun hY=>?_
  ·have sT:r.z=0:=by
    rcases hY with k|k
    ·exact mo.1 (eb.z k)
    ·exact absurd (mo.1 (ua.z k)) sz
   have mD:aV (r.z*s.z) (r.d*s.d)=⟨0,1⟩:=by rw[sT,uW];exact mV (hV rd gM)
   refine rg ?_;refine I V.jx ?_;refine eG ?_;refine aD ?_;refine ad.ret ?_;refine'⟨.inr rfl,rfl,_,[],.cell rfl (by repeat first|exact .head _|refine .tail _ ?_|refine d' _ ?_) (fb (dw rfl) rfl) (.nil),bZ _,?_⟩;first
    |(rw[mD];exact⟨an.le.refl _,rfl,.slice none 0 0,.slice none 0 0,rfl,cA.nil,cA.nil⟩)
    |exact⟨(((((((((((a8.trans bO).trans cL).trans eM).trans gC).trans iI).trans je).trans ht).trans jf).trans ky).trans kz).trans kA).trans mM,rfl,_,_,z2 D.m4,cK.cast D.m4⟩
  ·have sT:r.z≠0:=fun k=>hY (.inl (eb.uv (mo.2 k)));obtain⟨g,h,b,e,p,q,D⟩:=aal eV cs sT sz;have A2:=hD D.g0;have A3:=hD D.aX;have O0:=hD D.LY;have O1:=hD D.ku;have ZK:=w2.2 D.lm;have ZM:=w2.2 D.bG;have ZJ:p.natAbs<4294967296:=hC (eh D.uD cX) (by decide);have ZL:q.natAbs<4294967296:=hC (eh D.dd s1) (by decide);have kb:b<4294967296:=hC (eh D.bN cM) (by decide);have ZE:e<4294967296:=hC (eh D.aZ s2) (by decide);refine e4 ?_;refine aG ?_;refine ad.draw rfl (by kernel_rfl) (a2:=[.val 0,.val 1,.val 2,.val 5,.val 6,.val 7,.bA 3,.b2 [7,6,5,1,0],.bA 4,.b2 [7,6,5],.bA 8,.b2 [6,5],.bA 9,.val 10,.val 11]) (by kernel_rfl) ?_;refine a6 rfl V.cF ?_;refine a6 rfl V.cP ?_;refine a6 rfl V.gU ?_;refine a6 rfl V.cF ?_;refine a6 rfl V.cP ?_;refine a6 rfl V.gU ?_;refine bi.iU ?_;refine' aS.dO rfl rfl rfl rfl rfl rfl rfl rfl rfl c8 (my gf qh) ?_;rintro v' m' bq a8 ⟨_,rfl,lH⟩;have oo:=lH;obtain⟨eU,gV,e2,rfl,fm,_,_⟩:=lH.bD;refine aS.b2 ez ?_;refine' aS.dO rfl rfl rfl rfl rfl rfl rfl rfl rfl (cj (cT rfl) c8) (EH (dL.mono a8).n oo aO a4) ?_;rintro v' m' dR bO ⟨_,rfl,qd⟩;have nz:=qd;obtain⟨eP,ef,dU,rfl,ho,_,_⟩:=qd.bD;refine aS.b2 ez ?_;refine' aS.dO rfl rfl rfl rfl rfl rfl rfl rfl rfl (cj (cT rfl) (cj (fun _ aK=>iK.af (a8.trans bO) (gf.zN ((dL.mono a8).mono bO) (a8.trans bO) gM rd aK) rfl) c8)) (my ((dL.mono a8).mono bO) pj) ?_;rintro v' m' fV cL ⟨_,rfl,pf⟩;have lG:=pf;obtain⟨jM,lL,gA,rfl,mf,_,_⟩:=pf.bD
   refine aS.b2 ez ?_;refine' aS.dO rfl rfl rfl rfl rfl rfl rfl rfl rfl (cj (cT rfl) (cj (fun _ aK=>iK.af (bO.trans cL) (by rw[(dL.mono a8).n.mh (((gf.mono a8).mono bO).mono cL).n (bO.trans cL) (k0 aK).1,oo.mh lG (bO.trans cL) (k0 aK).2]) rfl) (cj (cT rfl) c8))) (EH (((gf.mono a8).mono bO).mono cL).n lG yr a9) ?_;rintro v' m' lV eM ⟨_,rfl,pg⟩;rw[D.aa] at pg;have oq:=pg;obtain⟨j5,nF,gR,rfl,m2,_,_⟩:=pg.bD;rw[D.cm] at nz;have nz:=(nz.mono cL).mono eM;have sS:=(((dL.mono a8).mono bO).mono cL).mono eM;have sU:=(((gf.mono a8).mono bO).mono cL).mono eM;refine aS.jj (fun x U=>ju (f:=fun x=>(x.f,x.cl)) U) ?_;refine e3 ?_;refine bi.nil ?_;refine aG ?_;refine ad.draw rfl (by kernel_rfl) (a2:=[.val 0,.val 1,.val 2,.val 4,.val 5,.val 6,.bA 3,.b2 [6,5,4],.bA 7,.bA 8,.val 9]) (by kernel_rfl) ?_;refine a6 rfl V.cF ?_;refine a6 rfl V.cP ?_;refine e3 ?_;refine a6 rfl V.cP ?_;refine a6 rfl V.aJ ?_;refine bi.iU ?_;refine' aS.dO rfl rfl rfl rfl rfl rfl rfl rfl rfl c8 (uF sS.n nz A2 aO) ?_;rintro v' m' qR gC ⟨_,rfl,yh⟩;have pe:=yh;obtain⟨hI,po,e7,rfl,lo,_,_⟩:=yh.bD;refine aS.b2 ez ?_;refine' aS.dO rfl rfl rfl rfl rfl rfl rfl rfl rfl (cj (fun _ aK=>iK.af gC (by rw[sS.n.mh (sU.mono gC).n gC (k0 aK).1,nz.mh (oq.mono gC) gC (k0 aK).2]) rfl) c8) (uF (sU.mono gC).n (oq.mono gC) A3 yr) ?_;rintro v' m' KV iI ⟨_,rfl,AS⟩;have AP:=AS;obtain⟨i',ma,dq,rfl,ln,_,_⟩:=AS.bD;rw[D.dm] at pe;rw[D.aR] at AP;refine' aS.dO rfl rfl rfl rfl rfl rfl rfl rfl rfl (cj (cT rfl) (cj (cT rfl) c8)) (wI (pe.mono iI) AP ZK ZM ZJ ZL) ?_;rintro v' m' Cg je ⟨_,rfl,ye⟩;have v0:=ye;obtain⟨va,aao,mA,rfl,BE,_,_⟩:=ye.bD;have AI:=((sS.mono gC).mono iI).mono je;have x9:=((sU.mono gC).mono iI).mono je;have nz:=((nz.mono gC).mono iI).mono je;have oq:=((oq.mono gC).mono iI).mono je
   refine aS.jj (fun x U=>ju (f:=fun x=>(x.f,x.cl)) U) ?_;refine a6 rfl V.aI ?_;refine bi.nil ?_;refine aG ?_;refine ad.draw rfl (by kernel_rfl) (a2:=[.val 0,.val 2,.val 4,.val 6,.bA 1,.b2 [6,4,2],.bA 3,.b2 [6,4],.bA 5,.b2 [6],.bA 7,.bA 8,.val 9]) (by kernel_rfl) ?_;refine a6 rfl V.gU ?_;refine a6 rfl V.aJ ?_;refine a6 rfl V.gU ?_;refine a6 rfl V.aJ ?_;refine bi.iU ?_;refine' aS.dO rfl rfl rfl rfl rfl rfl rfl rfl rfl c8 (my AI pj) ?_;rintro v' m' KW ht ⟨_,rfl,AT⟩;have DP:=AT;obtain⟨vb,Bi,jb,rfl,BF,_,_⟩:=AT.bD;refine aS.b2 ez ?_;refine' aS.dO rfl rfl rfl rfl rfl rfl rfl rfl rfl (cj (cT rfl) c8) (uF DP (oq.mono ht) A3 a9) ?_;rintro v' m' Ch jf ⟨_,rfl,AU⟩;have DQ:=AU;obtain⟨FT,aap,zA,rfl,Jw,_,_⟩:=AU.bD;refine aS.b2 ez ?_;refine' aS.dO rfl rfl rfl rfl rfl rfl rfl rfl rfl (cj (cT rfl) (cj (fun _ aK=>iK.af (ht.trans jf) (AI.zN ((x9.mono ht).mono jf) (ht.trans jf) rd gM aK) rfl) c8)) (my ((x9.mono ht).mono jf) qh) ?_;rintro v' m' Fg ky ⟨_,rfl,yf⟩;have yd:=yf;obtain⟨FU,aaq,gQ,rfl,Jx,_,_⟩:=yf.bD;refine aS.b2 ez ?_;refine' aS.dO rfl rfl rfl rfl rfl rfl rfl rfl rfl (cj (cT rfl) (cj (fun _ aK=>iK.af (jf.trans ky) (by rw[DP.mh yd (jf.trans ky) (k0 aK).1,(oq.mono ht).mh (((nz.mono ht).mono jf).mono ky) (jf.trans ky) (k0 aK).2]) rfl) (cj (cT rfl) c8))) (uF yd (((nz.mono ht).mono jf).mono ky) A2 a4) ?_;rintro v' m' KQ kz ⟨_,rfl,yg⟩;have AQ:=yg;obtain⟨LZ,aar,fQ,rfl,Ql,_,_⟩:=yg.bD;rw[D.br] at DQ;rw[D.aC] at AQ;refine' aS.dO rfl rfl rfl rfl rfl rfl rfl rfl rfl (cj (cT rfl) (cj (cT rfl) (cj (cT rfl) (cj (cT rfl) c8)))) (wI ((DQ.mono ky).mono kz) AQ O0 O1 kb ZE) ?_
   rintro v' m' KR kA ⟨_,rfl,AV⟩;have DR:=AV;obtain⟨L0,aas,nm,rfl,Qm,_,_⟩:=AV.bD;have v0:=((((v0.mono ht).mono jf).mono ky).mono kz).mono kA;refine aS.jj (fun x U=>ju (f:=fun x=>(x.f,x.cl)) U) ?_;refine a6 rfl V.aI ?_;refine bi.nil ?_;refine rg ?_;refine I V.cF ?_;refine I V.cP ?_;refine I V.cF ?_;refine I V.cP ?_;refine' W.step rfl (Exec.val rfl rfl (uO rfl rfl rfl (.inr ⟨rfl,rfl⟩) (by kernel_rfl)) ?_);refine aH ?_;refine b4 (G:=Bb (r:=⟨p*q,b*e⟩) (by rw[<-jo] at v0;exact v0) DR (fun _=>by rw[oW.2 D.hA,oW.2 D.aN];exact aaz D.lm D.bG) (fun k=>absurd k (KL D.lm D.bG)) (Nat.mul_ne_zero O0 O1)) (h:=?_);rintro v' m' KS mM ⟨_,rfl,fy,fF,rfl,bY⟩;have cK:=bY;obtain⟨FV,Py,ve,rfl,Jy,_,_⟩:=bY.n.bD;obtain⟨FW,yw,afX,rfl,Jz,_,_⟩:=bY.d.bD;refine eG ?_;refine aD ?_;refine ad.ret ?_;refine'⟨.inr rfl,rfl,_,[],.cell rfl (by repeat first|exact .head _|refine .tail _ ?_|refine d' _ ?_) (fb (dw rfl) rfl) (.nil),bZ _,?_⟩;first
    |(rw[mD];exact⟨an.le.refl _,rfl,.slice none 0 0,.slice none 0 0,rfl,cA.nil,cA.nil⟩)
    |exact⟨(((((((((((a8.trans bO).trans cL).trans eM).trans gC).trans iI).trans je).trans ht).trans jf).trans ky).trans kz).trans kA).trans mM,rfl,_,_,z2 D.m4,cK.cast D.m4⟩
theorem UT{r s:cH}{v1 v2 bh cb:Value}(al:e5 J r v1 v2)(af:e5 J s bh cb)(eV:r.fP)(cs:s.fP)(sz:0<s.z)(cX:r.z.natAbs<=1000000000)(cM:r.d<=1000000000)(s1:s.z.natAbs<=1000000000)(s2:s.d<=1000000000):Fn (aO Q g0) 70 [cO r v1 v2,cO s bh cb] [] J (nX J (aV (r.z*s.d) (r.d*s.z.natAbs))):=by
 have dL:=al;have gf:=af;obtain⟨br,bI,bn,rfl,aR,eb,gK⟩:=al.n.bD;obtain⟨bN,cY,bQ,rfl,aN,e',gT⟩:=al.d.bD;obtain⟨cW,ee,cZ,rfl,bG,ua,sR⟩:=af.n.bD;obtain⟨dj,fa,dH,rfl,dd,Az,sS⟩:=af.d.bD;have gM:=cs.1;have qh:=hD gM;have O8:s.z.natAbs≠0:=w2.2 (by omega);have n2:(⟨(s.d:Int),s.z.natAbs⟩:cH).fP:=⟨Lq O8,by show Nat.Coprime ((s.d:Int).natAbs) s.z.natAbs;rw[g8];exact cs.2.symm⟩;have qb:c4 8 (cO r (.slice br bI bn) (.slice bN cY bQ)) (cO r (.slice br bI bn) (.slice bN cY bQ))=true:=by simp[c4,gP,aR,aN,j6]
 have ug:c4 8 (cO s (.slice cW ee cZ) (.slice dj fa dH)) (cO s (.slice cW ee cZ) (.slice dj fa dH))=true:=by simp[c4,gP,bG,dd,j6]
 refine Fn.ck (ch Tryz.func70) rfl rfl fun H=>?_;refine rg ?_;refine fc fun bX=>?_;refine fc fun cy=>?_;refine' W.step rfl (.of (eS rfl rfl rfl (k5 Q g0) rfl rfl rfl fun c0=>?_));refine aD ?_;refine ad.draw rfl (by kernel_rfl) (a2:=[.val 0,.val 1,.val 2,.val 3,.val 5,.val 6,.bA 4,.b2 [6,5,2,1,0],.bA 7,.b2 [0],.bA 8,.bA 9]) (by kernel_rfl) ?_;refine a6 rfl V.gU ?_;refine a6 rfl V.cF ?_;refine a6 rfl V.cP ?_;refine a6 rfl V.gU ?_;refine a6 rfl V.cF ?_;refine a6 rfl V.cP ?_;refine bi.iU ?_;refine' aS.dO rfl rfl rfl rfl rfl rfl rfl rfl rfl c8 (my gf qh) ?_;rintro v' m' bq a8 ⟨_,rfl,lH⟩;have oo:=lH;obtain⟨eU,gV,e2,rfl,fm,_,_⟩:=lH.bD;refine aS.b2 ez ?_;refine' aS.dO rfl rfl rfl rfl rfl rfl rfl rfl rfl (cj (cT rfl) c8) (Bb (r:=⟨(s.d:Int),s.z.natAbs⟩) oo (gf.mono a8).n (fun _=>by rw[e8 (show ¬s.z<0 by omega),e8 (show ¬(s.d:Int)<0 by omega)]) (fun k=>absurd k (show(s.d:Int)≠0 by omega)) O8) ?_;rintro v' m' dR bO ⟨_,rfl,fy,fF,rfl,bY⟩;have cK:=bY;obtain⟨FV,Py,ve,rfl,Jy,_,_⟩:=bY.n.bD;obtain⟨FW,yw,hY,rfl,Jz,_,_⟩:=bY.d.bD;refine aS.b2 ez ?_;refine' aS.dO rfl rfl rfl rfl rfl rfl rfl rfl rfl (cj (cT rfl) (cj (cT rfl) c8)) (Px ((dL.mono a8).mono bO) cK eV n2 (show(s.d:Int)≠0 by omega) cX cM (by show((s.d:Int)).natAbs<=_;rw[g8];exact s2) s1) ?_;rintro v' m' fV cL ⟨_,rfl,ls,lu,rfl,lC⟩;have z6:=lC;obtain⟨L1,aat,oS,rfl,Qn,_,_⟩:=lC.n.bD;obtain⟨L2,aav,la,rfl,Qo,_,_⟩:=lC.d.bD;refine aS.jj (fun x U=>ju (f:=fun x=>(x.f,x.cl)) U) ?_;refine k7 rfl ?_;refine bi.nil ?_;refine aG ?_;refine ad.ret ?_;refine'⟨.inr rfl,rfl,_,[],.cell rfl (by repeat first|exact .head _|refine .tail _ ?_|refine d' _ ?_) (fb (dw rfl) rfl) (.nil),bZ _,⟨(a8.trans bO).trans cL,rfl,_,_,rfl,z6⟩⟩
theorem aac{n:Nat}(aX:n≠0)(aw:n<9223372036854775808):Fn (aO Q g0) 85 [.int .i64 (n:Int)] [] J (iK J n):=by
 refine Fn.ck (ch Tryz.func85) rfl rfl fun H=>?_;refine rg ?_;refine I V.aI ?_;refine bb ?_;refine I V.aJ ?_;refine I V.a' ?_;refine aD ?_;refine If (fun dH=>?_) fun dH=>?_
 ·exfalso;omega
 ·refine aG ?_;refine ad.skip ?_;refine rg ?_;refine I V.aJ ?_;refine I V.a' ?_;refine aD ?_;refine If (fun dU=>?_) fun dU=>?_
  ·exfalso;omega
  ·refine aG ?_;refine ad.skip ?_;refine rg ?_;refine I V.aJ ?_;refine I V.gk ?_;refine ja (kZ Q g0) fun LD=>?_;refine I V.aI ?_;refine bR ?_;refine ad.iW rfl fun bO=>?_;refine aG ?_;refine ad.ret ?_;refine'⟨.inr rfl,rfl,_,[],.tmp rfl .nil,bZ _,⟨bO,rfl,cA.row (n:=1) (l:=[n]) (by unfold jK;rw[a3 aX];rfl) (by simp) (by simp) (by decide) (an.hH _ _ _)⟩⟩
theorem IA{n:Nat}(aX:n≠0)(aw:n<9223372036854775808):Fn (aO Q g0) 50 [.int .i64 (n:Int)] [] J (nX J ⟨(n:Int),1⟩):=by
 refine Fn.ck (ch Tryz.func50) rfl rfl fun H=>?_;refine rg ?_;refine' W.step rfl (.of (eS rfl rfl rfl (k5 Q g0) rfl rfl rfl fun bX=>?_));refine bb ?_;refine I V.aJ ?_;refine I V.a' ?_;refine I V.aJ ?_;refine b4 (G:=aac aX aw) (h:=?_);rintro v' m' bq a8 ⟨_,rfl,lH⟩;have oo:=lH;obtain⟨eU,gV,e2,rfl,fm,_,_⟩:=lH.bD;refine I V.jx ?_;refine eG ?_;refine aD ?_;refine ad.ret ?_;refine'⟨.inr rfl,rfl,_,[],.cell rfl (by repeat first|exact .head _|refine .tail _ ?_|refine d' _ ?_) (fb (dw rfl) rfl) (.nil),bZ _,⟨a8,rfl,_,.slice none 0 0,rfl,oo,cA.nil⟩⟩
theorem Q2{r:cH}{v1 v2:Value}(h:e5 J r v1 v2)(a0:0<r.z):Fn (aO Q g0) 88 [cO r v1 v2] [] J (fun u m' ae=>u=.int .i64 1/\m'=[]/\J.le ae):=by
 obtain⟨br,bI,bn,rfl,aR,eb,gK⟩:=h.n.bD;obtain⟨bN,cY,bQ,rfl,aN,e',gT⟩:=h.d.bD;refine Fn.ck (ch Tryz.func88) rfl rfl fun H=>?_;refine rg ?_;refine fc fun bx=>?_;refine I V.aI ?_;refine bb ?_;refine I V.cF ?_;refine I V.cP ?_;refine I V.gL ?_;refine I V.a' ?_;refine aD ?_;refine If (fun dU=>?_) fun dU=>?_
 ·exfalso;have:=mo.1 (eb.z (by omega));omega
 ·refine aG ?_;refine ad.skip ?_;refine rg ?_;refine I V.cF ?_;refine I V.cP ?_;refine aD ?_;refine If (fun gR=>?_) fun gR=>?_
  ·exfalso;omega
  ·refine aG ?_;refine ad.skip ?_;refine rg ?_;refine I V.aI ?_;refine aD ?_;refine ad.ret ?_;refine'⟨.inr rfl,rfl,_,[],.tmp rfl .nil,bZ _,⟨rfl,rfl,an.le.refl _⟩⟩
theorem Mo{r s:cH}{v1 v2 bh cb:Value}(al:e5 J r v1 v2)(af:e5 J s bh cb)(eV:r.fP)(cs:s.fP)(qD:0<r.z)(sz:0<s.z)(cX:r.z.natAbs<=1000000000)(cM:r.d<=1000000000)(s1:s.z.natAbs<=1000000000)(s2:s.d<=1000000000):Fn (aO Q g0) 54 [cO r v1 v2,cO s bh cb] [] J (fun u m' ae=>u=.int .i64 (g' (r.z.natAbs*s.d) (s.z.natAbs*r.d))/\m'=[]/\J.le ae):=by
 have dL:=al;have gf:=af;obtain⟨br,bI,bn,rfl,aR,eb,gK⟩:=al.n.bD;obtain⟨bN,cY,bQ,rfl,aN,e',gT⟩:=al.d.bD;obtain⟨cW,ee,cZ,rfl,bG,ua,sR⟩:=af.n.bD;obtain⟨dj,fa,dH,rfl,dd,Az,sS⟩:=af.d.bD;have rd:=eV.1;have gM:=cs.1;have pj:=hD rd;have qh:=hD gM;have aO:r.z.natAbs<4294967296:=hC cX (by decide);have yr:s.z.natAbs<4294967296:=hC s1 (by decide);have a9:r.d<4294967296:=hC cM (by decide);have a4:s.d<4294967296:=hC s2 (by decide);have ZN:=w2.2 (show r.z≠0 by omega);have ZO:=w2.2 (show s.z≠0 by omega);have qb:c4 8 (cO r (.slice br bI bn) (.slice bN cY bQ)) (cO r (.slice br bI bn) (.slice bN cY bQ))=true:=by simp[c4,gP,aR,aN,j6]
 have ug:c4 8 (cO s (.slice cW ee cZ) (.slice dj fa dH)) (cO s (.slice cW ee cZ) (.slice dj fa dH))=true:=by simp[c4,gP,bG,dd,j6]
 refine Fn.ck (ch Tryz.func54) rfl rfl fun H=>?_;refine rg ?_;refine fc fun bX=>?_;refine fc fun cy=>?_;refine I V.aI ?_;refine aD ?_;refine ad.draw rfl (by kernel_rfl) (a2:=[.val 0,.val 2,.bA 1,.b2 [2],.bA 3,.val 4,.val 5]) (by kernel_rfl) ?_;refine a6 rfl V.gU ?_;refine a6 rfl V.gU ?_;refine bi.iU ?_;refine' aS.dO rfl rfl rfl rfl rfl rfl rfl rfl rfl c8 (Q2 dL qD) ?_;rintro v' m' Ss o6 ⟨rfl,rfl,_⟩;refine aS.b2 ez ?_;refine' aS.dO rfl rfl rfl rfl rfl rfl rfl rfl rfl (cj (fun _ _=>⟨rfl,o6,fun v m' bq dR ⟨a,b,c⟩ aa ab=>⟨a,b,ab⟩⟩) c8) (Q2 (gf.mono o6) sz) ?_;rintro v' m' St rB ⟨rfl,rfl,_⟩;have dL:=(dL.mono o6).mono rB;have gf:=(gf.mono o6).mono rB;refine aS.jj (fun x U=>ju (f:=fun x=>(x.f,x.cl)) U) ?_;refine e3 ?_;refine bi.nil ?_;refine rg ?_;refine aH ?_;refine I V.a' ?_;refine I V.aJ ?_;refine gz 15 (fun xB=>?_) fun xB=>?_
 ·exfalso;exact xB rfl
 ·refine bM V.aJ ?_;refine bM V.a' ?_;refine I V.bo ?_;refine aD ?_;refine If (fun hY=>?_) fun hY=>?_
  ·exfalso;simp at hY
  ·refine aG ?_;refine ad.skip ?_;refine aG ?_;refine ad.draw rfl (by kernel_rfl) (a2:=[.val 0,.val 1,.val 2,.val 5,.val 6,.val 7,.bA 3,.b2 [7,6,5,1,0],.bA 4,.b2 [7,6,5],.bA 8,.b2 [6,5],.bA 9,.bA 10,.val 11]) (by kernel_rfl) ?_;refine a6 rfl V.cF ?_;refine a6 rfl V.cP ?_;refine a6 rfl V.gU ?_;refine a6 rfl V.cF ?_;refine a6 rfl V.cP ?_;refine a6 rfl V.gU ?_;refine bi.iU ?_;refine' aS.dO rfl rfl rfl rfl rfl rfl rfl rfl rfl c8 (my gf qh) ?_;rintro v' m' bq a8 ⟨_,rfl,lH⟩;have oo:=lH;obtain⟨eU,gV,e2,rfl,fm,_,_⟩:=lH.bD;refine aS.b2 ez ?_;refine' aS.dO rfl rfl rfl rfl rfl rfl rfl rfl rfl (cj (cT rfl) c8) (wI (dL.mono a8).n oo ZN qh aO a4) ?_;rintro v' m' dR bO ⟨_,rfl,qd⟩;have nz:=qd;obtain⟨eP,ef,dU,rfl,ho,_,_⟩:=qd.bD;refine aS.b2 ez ?_;refine' aS.dO rfl rfl rfl rfl rfl rfl rfl rfl rfl (cj (cT rfl) (cj (fun _ aK=>iK.af (a8.trans bO) (gf.zN ((dL.mono a8).mono bO) (a8.trans bO) gM rd aK) rfl) c8)) (my ((dL.mono a8).mono bO) pj) ?_;rintro v' m' fV cL ⟨_,rfl,pf⟩;have lG:=pf;obtain⟨jM,lL,gA,rfl,mf,_,_⟩:=pf.bD;refine aS.b2 ez ?_;refine' aS.dO rfl rfl rfl rfl rfl rfl rfl rfl rfl (cj (cT rfl) (cj (fun _ aK=>iK.af (bO.trans cL) (by rw[(dL.mono a8).n.mh (((gf.mono a8).mono bO).mono cL).n (bO.trans cL) (k0 aK).1,oo.mh lG (bO.trans cL) (k0 aK).2]) rfl) (cj (cT rfl) c8))) (wI (((gf.mono a8).mono bO).mono cL).n lG ZO pj yr a9) ?_;rintro v' m' lV eM ⟨_,rfl,pg⟩;have oq:=pg;obtain⟨j5,nF,gR,rfl,m2,_,_⟩:=pg.bD;refine' aS.dO rfl rfl rfl rfl rfl rfl rfl rfl rfl (cj (cT rfl) (cj (cT rfl) (cj (cT rfl) (cj (cT rfl) c8)))) (zJ ((nz.mono cL).mono eM) oq) ?_;rintro v' m' ae hle ⟨rfl,rfl,rfl⟩
   refine aS.jj (fun x U=>ju (f:=fun x=>(x.f,x.cl)) U) ?_;refine a6 rfl V.aI ?_;refine bi.nil ?_;refine rg ?_;refine I V.cF ?_;refine I V.cP ?_;refine aD ?_;refine If (fun TG=>?_) fun TG=>?_
   ·exfalso;omega
   ·refine aG ?_;refine ad.skip ?_;refine rg ?_;refine aH ?_;refine aD ?_;refine ad.ret ?_;refine'⟨.inr rfl,rfl,_,[],.tmp rfl .nil,bZ _,⟨rfl,rfl,((((o6.trans rB).trans a8).trans bO).trans cL).trans eM⟩⟩
end
def dW(J:an)(v:Value)(x:Nat):Prop:=de .u32 J v (ap x)
theorem dW.mono{J ae:an}(hle:J.le ae){v:Value}{x:Nat}(h:dW J v x):dW ae v x:=de.mono hle h
theorem A7{x:Nat}(h:x<1000000000):ap x=jK x:=by
 unfold jK;split
 ·rename_i q;rw[q,kh]
 ·rename_i q
  rw[qk q,qV h,kh,se h]
theorem dW.un{J:an}{v:Value}{x:Nat}(h:dW J v x)(U:x<1000000000):∃b n c,v=.slice b n c/\addrEq b b=true/\kr x n/\(n=1->∃a off cells e,b=some ⟨a,off,none⟩/\J a=some (cells,e)/\nth cells (off+0)=some (.int .u32 (x:Int))):=by
 have h:de .u32 J v (ap x):=h;rw[A7 U] at h;obtain⟨b,c,rfl⟩:=h.form;have hw:=Km (n:=x);refine⟨b,_,c,rfl,h.addr,?_,fun aw=>?_⟩
 ·unfold kr
  by_cases q:x=0
  ·rw[bg q] at hw;exact .inl ⟨q,hw⟩
  ·rw[a3 q] at hw;exact .inr ⟨q,hw⟩
 ·obtain⟨a,off,cells,e,aa,ab,aY⟩:=h.dB (by omega)
  have q:x≠0:=fun q=>by rw[bg q] at hw;omega
  exact⟨a,off,cells,e,aa,ab,aY 0 x (by unfold jK;rw[a3 q];rfl)⟩
theorem E2:kn []:=fun a c e r z h=>by cases h
theorem Ec:s6 []:=fun a c e h=>by cases h
theorem Acc.aaS{w:Value}{t k:Nat}{cells:List Value}{ba:aU}(h:Acc t 1 w k cells ba)(a0:kn ba)(aw:s6 ba)(aa:k≠0):∃a r,w=.slice (some ⟨a,0,none⟩) k cu/\ba=[(a,.opn cells t r 0)]:=by
 cases h with
 |nil=>exact absurd rfl aa
 |ik a=>exact absurd rfl aa
 |@opn a k cells rest z aA fe=>
  have:z=0:=a0 _ _ _ _ _ (.head _);subst this;exact⟨a,rest,rfl,rfl⟩
 |cap=>exact absurd (List.Mem.head _) (aw _ _ _)
theorem kr.bI{x n:Nat}(h:kr x n)(aX:x≠0):n=1:=by unfold kr at h;omega
theorem kr.Jc{x n:Nat}(h:kr x n)(aX:n≠0):x≠0:=by unfold kr at h;omega
theorem kr.le{x n:Nat}(h:kr x n):n<=1:=by unfold kr at h;omega
abbrev yL(k:IntKind)(t a:Nat)(l:List Nat)(r:List Nat):Nat×dh:=(a,.opn (ca k l) t r 0)
section
variable {Q:ek Tryz.prog}{g0:Nat}{J:an}
theorem ad5{a:Nat}{l r:List Nat}(hd:l.length<1000000):
 Fn (aO Q g0) 110 [.slice (some ⟨a,0,none⟩) l.length cu] [yL .u64 102 a l r] J (fun u m' ae=>∃k,u=.slice (some ⟨a,0,none⟩) k cu/\k<=l.length/\(∀j y,k<=j->l[j]?=some y->y=0)/\(∀y,0<k->l[k -1]?=some y->y≠0)/\m'=[yL .u64 102 a l r]/\J=ae):=by
 refine Fn.ck (ch Tryz.func110) rfl rfl fun H=>?_;refine rg ?_;refine I V.aI ?_;refine bb ?_;refine aH ?_;refine aD ?_;refine ad.block ?_;refine' ad.eH (l':=[(3,.int .i64 ((l.length):Int)),(0,_)]) ⟨?dD,rfl,trivial⟩ (cd _) ?_;case dD=>first|exact cq|exact aj some (aj (Value.int .u64) (by omega))|exact aj some (aj (Value.int .i64) (by omega))
 refine aG ?_;refine' ad.mQ (α:=(Nat)) (fun(k:Nat)=>[(3,.int .i64 (k:Int))]) (fun(k:Nat)=>k<=l.length/\∀j y,k<=j->l[j]?=some y->y=0) (fun(k:Nat)=>k) (l.length) ?af ?bT;case af=>exact⟨c5 _,fun j y aa ab=>by have:=(hq.1 ab).1;omega⟩
 case bT=>
  rintro k hinv;try simp only at hinv
  obtain⟨hk,a0⟩:=hinv;refine rg ?_;refine I V.aJ ?_;refine I V.a' ?_;refine I V.aJ ?_;refine gz 8 (fun vD=>?_) fun vD=>?_
  ·obtain⟨x,U⟩:∃x,l[k -1]?=some x:=⟨_,eO (by omega)⟩;have aw:nth (ca .u64 l) (0+((k:Int) -1).toNat*1)=some (.int .u64 (x:Int)):=s9 U (by omega);refine bM V.aJ ?_;refine bM V.aJ ?_;refine bM V.bW ?_;refine bM V.bj ?_;refine bM V.cP ?_;refine bM V.a' ?_;refine I V.bo ?_;refine aD ?_;refine If (fun fQ=>?_) fun fQ=>?_
   ·refine aG ?_;refine ad.skip ?_;refine aG ?_;refine ad.block ?_;refine rg ?_;refine I V.aJ ?_;refine I V.bW ?_;refine I V.aI ?_;refine bR ?_;refine'⟨(k -1),_,?hinv,?hh,rfl,⟨?jT,rfl,trivial⟩,cd _,rfl⟩;case jT=>first|exact cq|exact aj some (aj (Value.int .u64) (by omega))|exact aj some (aj (Value.int .i64) (by omega))
    case hh=>exact bS
    case hinv=>
     exact⟨by omega,fun j y aa ab=>by
         by_cases q:k<=j
         ·exact a0 j y q ab
         ·obtain rfl:j=k -1:=by omega
          rw[U] at ab;injection ab with ab;omega⟩
   ·refine aG ?_;refine ad.exit ?_;refine rg ?_;refine aH ?_;refine' W.step rfl (Exec.val rfl rfl (Kb rfl rfl rfl (kZ Q g0) ?hm ?aX ?aa) ?_);case hm=>repeat first|exact .head _|refine .tail _ ?_|refine d' _ ?_
    case aX=>exact bS
    case aa=>exact bS
    refine I V.aI ?_;refine aD ?_;refine ad.ret ?_;refine'⟨.inr rfl,rfl,_,_,.tmp rfl .nil,cd _,?_⟩;first
      |(have c:=fQ;exact⟨k,by rw[jq];rfl,hk,a0,fun y aa ab=>by rw[U] at ab;injection ab with ab;omega,rfl,rfl⟩)
      |exact⟨k,by rw[jq];rfl,hk,a0,fun y aa ab=>by omega,rfl,rfl⟩
  ·refine c7 ?_;refine c7 ?_;refine c7 ?_;refine c7 ?_;refine c7 ?_;refine c7 ?_;refine I V.bo ?_;refine aD ?_;refine ad.tJ rfl ?_;refine aG ?_;refine ad.exit ?_;refine rg ?_;refine aH ?_;refine' W.step rfl (Exec.val rfl rfl (Kb rfl rfl rfl (kZ Q g0) ?hm ?aX ?aa) ?_);case hm=>repeat first|exact .head _|refine .tail _ ?_|refine d' _ ?_
   case aX=>exact bS
   case aa=>exact bS
   refine I V.aI ?_;refine aD ?_;refine ad.ret ?_;refine'⟨.inr rfl,rfl,_,_,.tmp rfl .nil,cd _,?_⟩;first
    |exact⟨k,by rw[jq];rfl,hk,a0,fun y aa ab=>by omega,rfl,rfl⟩
theorem ae1{v:Value}{x:Nat}(h:cA J v x)(gN:x≠0):Fn (aO Q g0) 128 [v] [] J (fun u m' ae=>J=ae/\∃a r,u=.slice (some ⟨a,0,none⟩) 1 cu/\m'=[yL .u64 102 a [x] r]):=by
 have aX:=h;obtain⟨b,n,c,rfl,lQ,aw,al⟩:=h.bD;obtain rfl:=aw.bI gN;obtain⟨a,off,cells,e,rfl,fu,ay⟩:=al rfl;have OE:jK x=[x]:=by unfold jK;rw[a3 gN]
 have aa:de .u64 J (.slice (some ⟨a,off,none⟩) 1 c) [x]:=by have aX:de .u64 J _ (jK x):=aX;rw[OE] at aX;exact aX
 refine Fn.ck (ch Tryz.func128) rfl rfl fun H=>?_;refine rg ?_;refine I V.aI ?_;refine bb ?_;refine I V.aJ ?_;refine I V.JL ?_;refine aD ?_;refine If (fun dH=>?_) fun dH=>?_
 ·exfalso;cases dH
 ·refine aG ?_;refine ad.skip ?_;refine rg ?_;refine ja (kZ Q g0) fun cr=>?_;refine I V.aJ ?_;refine' W.step rfl (.of (nL rfl rfl rfl rfl rfl rfl (kZ Q g0) (J' Q g0) (fun i q=>by cases q) ?dr ?hm ?U ?dI ?dP ?aA fun k3 aai Hl Iw=>?_));case dr=>exact .ik _
  case hm=>exact .refl _
  case U=>exact aa.rd
  case dI=>exact rfl
  case dP=>exact Bs _
  case aA=>exact(show 0+1<=1000000 by decide)
  obtain⟨ac,Qw,rfl,rfl⟩:=Hl.aaS (Iw.1 E2) (Iw.2 Ec) (by simp);refine I V.aI ?_;refine aD ?_;refine ad.ret ?_;refine'⟨.inr rfl,rfl,_,_,.tmp rfl .nil,.cons_cons _ (bZ _),⟨rfl,ac,Qw,rfl,rfl⟩⟩
theorem M0{v:Value}{x:Nat}(h:dW J v x)(U:x<1000000000):Fn (aO Q g0) 121 [v] [] J (iK J x):=by
 obtain⟨b,n,c,rfl,lQ,aw,al⟩:=h.un U;have Dx:=aw.le;refine Fn.ck (ch Tryz.func121) rfl rfl fun H=>?_;refine rg ?_;refine I V.aI ?_;refine bb ?_;refine I V.aI ?_;refine bb ?_;refine aH ?_;refine I V.bW ?_;refine I V.aI ?_;refine aD ?_;refine ad.block ?_;refine' ad.eH (l':=[(4,.int .i64 (((n):Int) -1)),(3,(.slice none 0 0)),(0,_)]) ⟨?lS,?dD,rfl,trivial⟩ (cd _) ?_;case lS=>first|exact cq|exact aj some (aj (Value.int .u64) (by omega))|exact aj some (aj (Value.int .i64) (by omega))
 case dD=>first|exact cq|exact aj some (aj (Value.int .u64) (by omega))|exact aj some (aj (Value.int .i64) (by omega))
 refine aG ?_;refine' ad.b0 (fun(cG:Nat×Value×aU)=>match cG with|(k,w,ba)=>⟨[(4,.int .i64 ((k:Int) -1)),(3,w)],ba,J,k<=n/\(k=n->w=.slice none 0 0/\ba=[])/\(k<n->Acc 102 1 w 1 (ca .u64 [x]) ba),k⟩) ⟨n,.slice none 0 0,[]⟩ ?af ?bT
 case af=>exact⟨c5 _,fun _=>⟨rfl,rfl⟩,fun q=>absurd q (u3 _)⟩
 case bT=>
  rintro⟨k,w,ba⟩ hinv;try simp only at hinv
  obtain⟨hk,oe,rz⟩:=hinv;refine rg ?_;refine I V.aJ ?_;refine I V.a' ?_;refine aD ?_;refine If (fun gQ=>?_) fun gQ=>?_
  ·have Dq:k=n:=by omega
   obtain⟨rfl,rfl⟩:=oe Dq;obtain⟨bx,nH,vi,aC,rfl,l3,lF⟩:=al (by omega);have aX:((k:Int) -1).toNat=0:=by omega
   have lF:nth vi (nH+((k:Int) -1).toNat*1)=some (.int .u32 (x:Int)):=by rw[aX];exact lF
   have fD:=aw.Jc (by omega);refine e4 ?_;refine aG ?_;refine ad.block ?_;refine rg ?_;refine aH ?_;refine I V.bj ?_;refine I V.c2 ?_;refine I V.gk ?_;refine I V.aI ?_;refine bb ?_;refine aH ?_;refine aD ?_;refine ad.block ?_;refine aG ?_;refine ad.A9 ?_;refine rg ?_;refine I V.a' ?_;refine aD ?_;refine If (fun sq=>?_) fun sq=>?_
   ·exfalso;simp at sq
   ·refine aG ?_;refine ad.exit ?_;refine rg ?_;refine I V.aJ ?_;refine I V.a' ?_;refine aD ?_;refine If (fun TK=>?_) fun TK=>?_
    ·refine rg ?_;refine aH ?_;refine ja (kZ Q g0) fun afK=>?_;refine' W.step rfl (.of (R1 rfl rfl rfl rfl rfl rfl (kZ Q g0) (J' Q g0) (fun i q=>by cases q) ?dr ?hm ?U ?dI ?dP ?aA fun aeY aah Xk=>?_));case dr=>exact .nil
     case hm=>exact .refl _
     case U=>exact ko.own (cells:=ca .u64 [x]) (.head _) rfl
     case dI=>first|rfl|(simp;done)|(simp;omega)
     case dP=>exact Bs [x]
     case aA=>exact bS
     refine I V.aI ?_;refine bb ?_;refine I V.aJ ?_;refine I V.bW ?_;refine I V.aI ?_;refine bR ?_;refine gF ⟨k -1,aeY,aah⟩ ?_ (hm:=nR _ _);exact⟨by omega,fun q=>by omega,fun _=>Xk⟩
    ·exfalso;omega
  ·have tY:k=0:=by omega
   have p':(jK x).length=n:=by
    rw[Km];split
    ·rename_i q;rw[aw.uv q]
    ·rename_i q;rw[aw.bI q]
   have eL:Acc 102 1 w n (ca .u64 (jK x)) ba:=by
    by_cases q:n=0
    ·obtain⟨rfl,rfl⟩:=oe (by omega)
     rw[aw.z q,q];exact .nil
    ·have h:=rz (by omega)
     have aR:n=1:=by omega
     rw[show jK x=[x] from by unfold jK;rw[a3 (aw.Jc q)],aR];exact h
   refine aG ?_;refine ad.exit ?_;refine eL.m0 (by rw[jr]) fun bq a8 vX=>?_;refine rg ?_;refine aH ?_;refine aD ?_;refine ad.ret ?_;refine'⟨.inr rfl,rfl,_,[],.tmp rfl .nil,bZ _,⟨a8,rfl,102,by rw[p'];exact vX⟩⟩
end
end
end Go.Opn

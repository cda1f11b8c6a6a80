/- A part of the proof of TableLosses. -/
import Derived.Test.YtjbbbehaciogcaaGreatDoorCaw
import Derived.Test.YtjbbbehaciogcaaGreatDoorCal
import Derived.Test.YtjbbbehaciogcaaGreatDoorCat
set_option maxRecDepth 100000
set_option maxHeartbeats 8000000
set_option linter.unusedVariables false
set_option linter.unusedSimpArgs false
namespace Go.Opn
noncomputable section
open Go.Cre Go.RowKit Go.Proofs
theorem cJ.pz{J af:aj}{v w:Value}{x y:Nat}(h:cJ J v x)(hd:cJ af w y)(hle:J.le af)(e:v=w):x=y:=by subst e;exact h.y9 hd hle
structure h2 (k:Nat) (r:bx):Prop where
 n:(aO r.z.natAbs).length<=k
 d:(aO r.d).length<=k
theorem h2.mono{k j:Nat}{r:bx}(h:h2 k r)(hk:k<=j):h2 j r:=⟨cX h.n hk,cX h.d hk⟩
theorem alj{z:Int}{d k:Nat}(au:0<d)(ad:(aO z.natAbs).length<=k)(ae:(aO d).length<=k):h2 k (bk z d):=by
 obtain⟨b1,df⟩:=Np (z:=z) au;exact⟨cX (jN b1) ad,cX (jN df) ae⟩
theorem abO(z:Int)(d:Nat):(z*(d:Int)).natAbs=z.natAbs*d:=by rw[mR,iC]
theorem alk{r s:bx}{k j:Nat}{u v:Nat}(ao:h2 k r)(hs:h2 j s)(hu:(aO u).length<=k)(av:(aO v).length<=j):(aO (r.z*(v:Int)+s.z*(u:Int)).natAbs).length<=k+j+1:=by
 have ad:=yF ao.n av;have ae:=yF hs.n hu;have aD:=abN ad (show(aO (s.z.natAbs*u)).length<=k+j by omega);refine cX (jN ?_) aD;rw[<-abO,<-abO];exact Int.natAbs_add_le _ _
theorem m0(b:Bool):Xa b b=true:=by cases b<;>rfl
theorem ajA{d e:Nat}(au:0<d)(he:0<e)(h:l5 d=l5 e):d=e:=by
 unfold l5 at h;split at h<;>split at h<;>omega
theorem gh.Hc{J af:aj}{r s:bx}{v1 v2 bl b7:Value}{x y:Bool}(h:gh J r v1 v2)(hd:gh af s bl b7)(hle:J.le af)(au:0<r.d)(he:0<s.d)(e:[Value.agg #[.bool x,v1,v2]]=[Value.agg #[.bool y,bl,b7]]):r.d=s.d:=by
 injection e with e
 injection e with e
 injection e with e
 injection e with _ e
 injection e with _ e
 injection e with e
 exact ajA au he (h.d.pz hd.d hle e)
theorem lY{a b c d:Value}(h:[a,b]=[c,d]):a=c/\b=d:=by
 injection h with ad ae
 injection ae with ae
 exact⟨ad,ae⟩
theorem HB{r s:bx}{v1 v2:Value}(h:r=s):dm r v1 v2=dm s v1 v2:=by rw[h]
theorem gh.cast{J:aj}{r s:bx}{v1 v2:Value}(h:gh J r v1 v2)(e:r=s):gh J s v1 v2:=e▸h
section
variable {Q:c7 Tryz.prog}{g0:Nat}{J:aj}
theorem Po{r s:bx}{v1 v2 bl b7:Value}(ao:gh J r v1 v2)(hs:gh J s bl b7)(iQ:r.hG)(cs:s.hG){k j:Nat}(fr:h2 k r)(e5:h2 j s)(hk:k<=30000)(aX:j<=30000):Fn (aU Q g0) 48 [dm r v1 v2,dm s bl b7] [] J (pS J (bk (r.z*s.d+s.z*r.d) (r.d*s.d))):=by
 obtain⟨a',b1,bb,rfl,aL,ix,ks⟩:=ao.n.bN;obtain⟨bf,df,br,rfl,aG,nu,jA⟩:=ao.d.bN;obtain⟨bV,ef,cc,rfl,bt,yb,uA⟩:=hs.n.bN;obtain⟨dx,e9,ej,rfl,du,Iq,yd⟩:=hs.d.bN;obtain⟨g,u,v,h,w,t,q,D⟩:=agt iQ cs;have rd:=iQ.1;have h0:=cs.1;have XG:=D.g0;have ai7:=D.aR;have ajQ:=D.bT;have Hk:=D.v2;have ajS:=D.b7;have ai6:=D.bZ;have XL:=D.bB;have ajR:=D.v0;have XM:=D.w0;have Z0:(s.z*(u:Int)).natAbs=s.z.natAbs*u:=by rw[mR,iC]
 have ZX:(r.z*(v:Int)).natAbs=r.z.natAbs*v:=by rw[mR,iC]
 have aI:=D.t1;have TF:=fr.n;have TE:=fr.d;have abf:=e5.n;have abe:=e5.d;have CC:=cX (jN ajQ) fr.d;have r6:=cX (jN Hk) e5.d;have lw:=cX (jN ajS) e5.d;have Tu:=cX (jN ai6) fr.d;have lt:(aO t.natAbs).length<=k+j+1:=by rw[aI];exact alk fr e5 CC r6
 have aAn:=yF fr.n r6;have aAo:=yF e5.n CC;have aqp:=cX (jN (show h<=g by rw[<-D.ad];exact OY _ XG)) Tu;have IZ:=j1 XG;have I0:=j1 ai7;have aAa:=j1 XL;have aAb:=j1 ajR;have aAc:=j1 XM;have Cx:=j1 rd;have wB:=j1 h0;have wo:eg 8 (dm r (.slice a' b1 bb) (.slice bf df br)) (dm r (.slice a' b1 bb) (.slice bf df br))=true:=by simp[eg,je,aL,aG,m0]
 have E3:eg 8 (dm s (.slice bV ef cc) (.slice dx e9 ej)) (dm s (.slice bV ef cc) (.slice dx e9 ej))=true:=by simp[eg,je,bt,du,m0]
 refine Fn.b5 (b2 Tryz.func48) rfl rfl fun H=>?_;refine rg ?_;refine eQ fun bd=>?_;refine eQ fun cm=>?_;refine fa fun cQ=>?_;refine U 0xbe08553738 ?_;refine If (fun fc=>?_) fun fc=>?_
 ·have Ab:r.z=0:=by
   exact pH.1 (ix.z I)
  have tY:bk (r.z*s.d+s.z*r.d) (r.d*s.d)=s:=by
   rw[Ab,Ly iQ Ab,AY,OH,jb,show s.z*((1:Nat):Int)=s.z from OF _];exact No cs
  refine U 0x357c7179 ?_;refine bp ?_
  rw[tY];exact⟨aj.le.refl _,rfl,_,_,rfl,hs⟩
 ·have Ab:r.z≠0:=fun k=>by have:=ix.iA (pH.2 k);omega
  refine U 0x17c10aa6e757 ?_;refine If (fun sF=>?_) fun sF=>?_
  ·have eb:s.z=0:=by
    exact pH.1 (yb.z I)
   have tY:bk (r.z*s.d+s.z*r.d) (r.d*s.d)=r:=by
    rw[eb,Ly cs eb,AY,Int.add_zero,ha,show r.z*((1:Nat):Int)=r.z from OF _];exact No iQ
   refine U 0x357c7179 ?_;refine bp ?_
   rw[tY];exact⟨aj.le.refl _,rfl,_,_,rfl,ao⟩
  ·have eb:s.z≠0:=fun k=>by have:=yb.iA (pH.2 k);omega
   have arc:r.z*(v:Int)≠0:=VT Ab I;have arf:s.z*(u:Int)≠0:=VT eb I;have ai4:(decide (r.z<0))=decide (r.z*(v:Int)<0):=by
    congr 1;apply propext
    constructor
    ·intro k;exact Dx k I
    ·intro k
     rcases vh r.z 0 with j|j
     ·exact j
     ·have:=k9 j (show(0:Int)<=v by omega);omega
   have ai5:(decide (s.z<0))=decide (s.z*(u:Int)<0):=by
    congr 1;apply propext
    constructor
    ·intro k;exact Dx k I
    ·intro k
     rcases vh s.z 0 with j|j
     ·exact j
     ·have:=k9 j (show(0:Int)<=u by omega);omega
   refine U 0x5f57 ?_;refine az.draw rfl (by kernel_rfl) (a1:=[.val 0,.val 2,.bE 1,.b9 [2],.bE 3,.bE 4,.val 5]) (by kernel_rfl) ?_;refine U 0x796b ?_;refine' bz.dE rfl rfl rfl rfl rfl rfl rfl rfl rfl dF (rI ao Cx) ?_;rintro v' m' bu aY ⟨_,rfl,m8⟩;have qh:=m8;obtain⟨fs,hv,gl,rfl,fU,_,_⟩:=m8.bN;refine bz.b9 fD ?_;refine' bz.dE rfl rfl rfl rfl rfl rfl rfl rfl rfl (dj (fun _ aF=>kk.hs aY (ao.Hc (hs.mono aY) aY rd h0 aF) rfl) dF) (rI (hs.mono aY) wB) ?_;rintro v' m' cZ bG ⟨_,rfl,uH⟩;have qi:=uH;obtain⟨fb,fe,eo,rfl,ih,_,_⟩:=uH.bN;refine' bz.dE rfl rfl rfl rfl rfl rfl rfl rfl rfl (dj (eC rfl) (dj (eC rfl) dF)) (NZ (qh.mono bG) qi I I) ?_;rintro v' m' gi cR ⟨_,rfl,yl⟩;rw[D.b4] at yl;have qj:=yl;obtain⟨iq,mG,fC,rfl,mK,_,_⟩:=yl.bN;have uA:=((ao.mono aY).mono bG).mono cR;have ye:=((hs.mono aY).mono bG).mono cR;refine U 0xbe05e ?_;refine az.draw rfl (by kernel_rfl) (a1:=[.val 0,.val 2,.val 4,.val 6,.bE 1,.b9 [6,4,2],.bE 3,.b9 [6,4],.bE 5,.b9 [6],.bE 7,.val 8,.val 9]) (by kernel_rfl) ?_;refine U 0x1e0ac2b ?_;refine' bz.dE rfl rfl rfl rfl rfl rfl rfl rfl rfl dF (rI uA Cx) ?_;rintro v' m' qI gE ⟨_,rfl,ym⟩;have uF:=ym;obtain⟨km,m9,hq,rfl,oS,_,_⟩:=ym.bN;refine bz.b9 fD ?_;refine' bz.dE rfl rfl rfl rfl rfl rfl rfl rfl rfl (dj (eC rfl) dF) (wT uF (qj.mono gE) I I IZ) ?_;rintro v' m' pK gg ⟨_,rfl,E9⟩;rw[D.u1] at E9;have q7:=E9;obtain⟨ir,qo,ep,rfl,oT,_,_⟩:=E9.bN;refine bz.b9 fD ?_;refine' bz.dE rfl rfl rfl rfl rfl rfl rfl rfl rfl (dj (eC rfl) (dj (fun _ aF=>kk.hs (gE.trans gg) (uA.Hc ((ye.mono gE).mono gg) (gE.trans gg) rd h0 aF) rfl) dF)) (rI ((ye.mono gE).mono gg) wB) ?_
   rintro v' m' zj iw ⟨_,rfl,IQ⟩;have IK:=IQ;obtain⟨kT,tf,dp,rfl,oa,_,_⟩:=IQ.bN;refine bz.b9 fD ?_;refine' bz.dE rfl rfl rfl rfl rfl rfl rfl rfl rfl (dj (eC rfl) (dj (fun _ aF=>kk.hs (gg.trans iw) (cC (·/ g) (uF.pz IK (gg.trans iw) (lY aF).1)) rfl) (dj (eC rfl) dF))) (wT IK (((qj.mono gE).mono gg).mono iw) I I IZ) ?_;rintro v' m' vk ll ⟨_,rfl,E6⟩;rw[D.v1] at E6;have Co:=E6;obtain⟨xq,yE,kn,rfl,JP,_,_⟩:=E6.bN;have q7:=(q7.mono iw).mono ll;have qj:=(((qj.mono gE).mono gg).mono iw).mono ll;have IC:=(((uA.mono gE).mono gg).mono iw).mono ll;have EX:=(((ye.mono gE).mono gg).mono iw).mono ll;refine U 0x17c085e ?_;refine az.draw rfl (by kernel_rfl) (a1:=[.val 0,.val 1,.val 2,.val 3,.val 4,.val 6,.val 7,.val 8,.val 9,.val 10,.bE 5,.b9 [10,9,8,7,6,1,0],.bE 11,.b9 [7,6,1,0],.bE 12,.val 13,.val 14,.val 15,.val 16,.val 17]) (by kernel_rfl) ?_;refine U 0x782a6a9a15354d ?_;refine' bz.dE rfl rfl rfl rfl rfl rfl rfl rfl rfl dF (Da IC.n Co I I) ?_;rintro v' m' KG iS ⟨_,rfl,IR⟩;have MG:=IR;obtain⟨K',Ak,j3,rfl,NL,_,_⟩:=IR.bN;refine bz.b9 fD ?_;refine' bz.dE rfl rfl rfl rfl rfl rfl rfl rfl rfl (dj (fun _ aF=>kk.hs iS (by rw[IC.n.pz (EX.mono iS).n iS (lY aF).1,Co.pz (q7.mono iS) iS (lY aF).2]) rfl) dF) (Da (EX.mono iS).n (q7.mono iS) I I) ?_;rintro v' m' tB iT ⟨_,rfl,IS⟩;have MH:=IS;obtain⟨La,M',tO,rfl,NM,_,_⟩:=IS.bN;refine bz.b9 fD ?_;refine' bz.dE rfl rfl rfl rfl rfl rfl rfl rfl rfl (dj (eC rfl) (dj (eC rfl) dF)) (auD (e':=r.z*v) (fj:=s.z*u) ai4 ai5 (by rw[ZX];exact MG.mono iT) (by rw[Z0];exact MH) arc arf (by rw[ZX];omega) (by rw[Z0];omega)) ?_
   rintro v' m' OI oH ⟨_,rfl,o4,aBa,rfl,E7,IF⟩;rw[<-aI] at E7 IF;have E4:=E7;obtain⟨DZ,Fy,fc,rfl,acR,ZF,_⟩:=E7.bN;have qj:=((qj.mono iS).mono iT).mono oH;have q7:=((q7.mono iS).mono iT).mono oH;have aou:=((EX.mono iS).mono iT).mono oH;refine U 0x17c10a1ce04239c3e ?_;refine If (fun xz=>?_) fun xz=>?_
   ·have s6:t=0:=by
     exact pH.1 (ZF.z I)
    have tY:bk (r.z*s.d+s.z*r.d) (r.d*s.d)=⟨0,1⟩:=by rw[D.iA s6];exact yJ (jr rd h0)
    refine U 0x357c7219 ?_;refine bp ?_
    rw[tY];exact⟨((((((((aY.trans bG).trans cR).trans gE).trans gg).trans iw).trans ll).trans iS).trans iT).trans oH,rfl,.slice none 0 0,.slice none 0 0,rfl,cJ.nil,cJ.nil⟩
   ·have s6:t≠0:=fun k=>by have:=ZF.iA (pH.2 k);omega
    refine U 0x10e757 ?_;refine bC (G:=NZ E4 qj I I) (h:=?_);rintro v' m' afA uw ⟨_,rfl,E8⟩;rw[D.ad] at E8;have IL:=E8;obtain⟨D1,Fz,fV,rfl,acS,_,_⟩:=E8.bN;have aov:=aou.mono uw;refine U 0x5f02 ?_;refine az.draw rfl (by kernel_rfl) (a1:=[.val 0,.val 1,.val 2,.val 4,.val 5,.val 7,.bE 3,.b9 [7,5,4,0],.bE 6,.b9 [7,4,0],.bE 8,.b9 [4,0],.bE 9,.b9 [0],.bE 10,.bE 11]) (by kernel_rfl) ?_;refine U 0x782b08421 ?_;refine' bz.dE rfl rfl rfl rfl rfl rfl rfl rfl rfl dF (wT (E4.mono uw) IL I I I0) ?_;rintro v' m' afB hP ⟨_,rfl,IT⟩;have MI:=IT;obtain⟨agS,ard,kV,rfl,atb,_,_⟩:=IT.bN;refine bz.b9 fD ?_;refine' bz.dE rfl rfl rfl rfl rfl rfl rfl rfl rfl (dj (eC rfl) dF) (rI (aov.mono hP) wB) ?_;rintro v' m' afC z5 ⟨_,rfl,aaf⟩;have aac:=aaf;obtain⟨WZ,abJ,zz,rfl,acT,_,_⟩:=aaf.bN;refine bz.b9 fD ?_;refine' bz.dE rfl rfl rfl rfl rfl rfl rfl rfl rfl (dj (eC rfl) (dj (fun _ aF=>kk.hs (hP.trans z5) (cC (·/ h) ((E4.mono uw).pz aac (hP.trans z5) (lY aF).1)) rfl) dF)) (wT aac ((IL.mono hP).mono z5) I I I0) ?_;rintro v' m' axD Sf ⟨_,rfl,S8⟩;rw[D.bl] at S8;have ao3:=S8;obtain⟨W0,abK,iO,rfl,acU,_,_⟩:=S8.bN;refine bz.b9 fD ?_;refine' bz.dE rfl rfl rfl rfl rfl rfl rfl rfl rfl (dj (eC rfl) (dj (eC rfl) (dj (eC rfl) dF))) (Da ((((q7.mono uw).mono hP).mono z5).mono Sf) ao3 I I) ?_;rintro v' m' axE Zw ⟨_,rfl,aag⟩;have IM:=aag;obtain⟨D2,are,sF,rfl,Ur,_,_⟩:=aag.bN;refine bz.b9 fD ?_;refine' bz.dE rfl rfl rfl rfl rfl rfl rfl rfl rfl (dj (eC rfl) (dj (eC rfl) (dj (eC rfl) (dj (eC rfl) dF)))) (Ja (r:=⟨q,u*w⟩) (by rw[D.aL] at MI;exact((MI.mono z5).mono Sf).mono Zw) IM (fun _=>by rw[IF s6];exact pX.2 D.aG) (fun k=>absurd (D.bt.2 k) s6) (j1 (jr XL XM)) (by have:=yF CC lw;show(aO (u*w)).length<=100000;omega)) ?_
    rintro v' m' axF anU ⟨_,rfl,dW,fi,rfl,bM⟩;have ch:=bM;obtain⟨PB,arh,hC,rfl,acV,_,_⟩:=bM.n.bN;obtain⟨ax4,aAv,o5,rfl,aAM,_,_⟩:=bM.d.bN;refine U 0x1abe39e ?_;refine bp ?_
    exact⟨((((((((((((((aY.trans bG).trans cR).trans gE).trans gg).trans iw).trans ll).trans iS).trans iT).trans oH).trans uw).trans hP).trans z5).trans Sf).trans Zw).trans anU,rfl,_,_,HB D.mi,ch.cast D.mi⟩
end
theorem gh.neg{J:aj}{r:bx}{v1 v2:Value}(h:gh J r v1 v2):gh J ⟨-r.z,r.d⟩ v1 v2:=⟨by show cJ J v1 (-r.z).natAbs;rw[AX];exact h.n,h.d⟩
theorem aiu{r:bx}(h:r.hG):(⟨-r.z,r.d⟩:bx).hG:=⟨h.1,by show Nat.Coprime (-r.z).natAbs r.d;rw[AX];exact h.2⟩
theorem h2.neg{k:Nat}{r:bx}(h:h2 k r):h2 k ⟨-r.z,r.d⟩:=⟨by show(aO (-r.z).natAbs).length<=k;rw[AX];exact h.n,h.d⟩
theorem arj{p q:Int}(aw:p≠0)(bQ:q≠0):decide (¬(decide (p<0)=decide (q<0)))=decide (p*q<0):=by
 rcases vh p 0 with a|a
 ·rcases vh q 0 with b|b
  ·have:=afx a b
   rw[jx a,jx b,fW (show ¬p*q<0 by omega)];rfl
  ·have:=Dx a (show 0<q by omega)
   rw[jx a,fW (show ¬q<0 by omega),jx this];rfl
 ·rcases vh q 0 with b|b
  ·have:=VU (show 0<p by omega) b
   rw[fW (show ¬p<0 by omega),jx b,jx this];rfl
  ·have:=k9 a b
   rw[fW (show ¬p<0 by omega),fW (show ¬q<0 by omega),fW (show ¬p*q<0 by omega)];rfl
section
variable {Q:c7 Tryz.prog}{g0:Nat}{J:aj}
theorem avk{r s:bx}{v1 v2 bl b7:Value}(ao:gh J r v1 v2)(hs:gh J s bl b7)(iQ:r.hG)(cs:s.hG){k j:Nat}(fr:h2 k r)(e5:h2 j s)(hk:k<=30000)(aX:j<=30000):Fn (aU Q g0) 49 [dm r v1 v2,dm s bl b7] [] J (pS J (bk (r.z*s.d+-s.z*r.d) (r.d*s.d))):=by
 have cT:=ao;have eB:=hs;obtain⟨a',b1,bb,rfl,aL,ix,ks⟩:=ao.n.bN;obtain⟨bf,df,br,rfl,aG,nu,jA⟩:=ao.d.bN;obtain⟨bV,ef,cc,rfl,bt,yb,uA⟩:=hs.n.bN;obtain⟨dx,e9,ej,rfl,du,Iq,yd⟩:=hs.d.bN;have wo:eg 8 (dm r (.slice a' b1 bb) (.slice bf df br)) (dm r (.slice a' b1 bb) (.slice bf df br))=true:=by simp[eg,je,aL,aG,m0]
 refine Fn.b5 (b2 Tryz.func49) rfl rfl fun H=>?_;refine rg ?_;refine eQ fun bd=>?_;refine eQ fun cm=>?_;refine fa fun cQ=>?_;refine ns ?_;refine az.draw rfl (by kernel_rfl) (a1:=[.val 0,.val 1,.bE 2,.b9 [0],.bE 3,.bE 4]) (by kernel_rfl) ?_;refine U 0x796b ?_;refine' bz.dE rfl rfl rfl rfl rfl rfl rfl rfl rfl dF (ari eB) ?_;rintro v' m' af hle ⟨rfl,rfl,rfl⟩;refine bz.b9 fD ?_;refine' bz.dE rfl rfl rfl rfl rfl rfl rfl rfl rfl (dj (eC rfl) dF) (Po cT eB.neg iQ (aiu cs) fr e5.neg hk aX) ?_;rintro v' m' bu aY ⟨_,rfl,dW,fi,rfl,bM⟩;have ch:=bM;obtain⟨fs,hv,gl,rfl,fU,_,_⟩:=bM.n.bN;obtain⟨fb,fe,eo,rfl,ih,_,_⟩:=bM.d.bN;refine U 0x1abe39e ?_;refine bp ?_;exact⟨aY,rfl,_,_,rfl,ch⟩
theorem abH{r s:bx}{v1 v2 bl b7:Value}(ao:gh J r v1 v2)(hs:gh J s bl b7)(iQ:r.hG)(cs:s.hG){k j:Nat}(fr:h2 k r)(e5:h2 j s)(hk:k<=30000)(aX:j<=30000):Fn (aU Q g0) 55 [dm r v1 v2,dm s bl b7] [] J (pS J (bk (r.z*s.z) (r.d*s.d))):=by
 have cT:=ao;have eB:=hs;obtain⟨a',b1,bb,rfl,aL,ix,ks⟩:=ao.n.bN;obtain⟨bf,df,br,rfl,aG,nu,jA⟩:=ao.d.bN;obtain⟨bV,ef,cc,rfl,bt,yb,uA⟩:=hs.n.bN;obtain⟨dx,e9,ej,rfl,du,Iq,yd⟩:=hs.d.bN;have rd:=iQ.1;have h0:=cs.1;have TF:=fr.n;have TE:=fr.d;have abf:=e5.n;have abe:=e5.d;have Cx:=j1 rd;have wB:=j1 h0;have wo:eg 8 (dm r (.slice a' b1 bb) (.slice bf df br)) (dm r (.slice a' b1 bb) (.slice bf df br))=true:=by simp[eg,je,aL,aG,m0]
 have E3:eg 8 (dm s (.slice bV ef cc) (.slice dx e9 ej)) (dm s (.slice bV ef cc) (.slice dx e9 ej))=true:=by simp[eg,je,bt,du,m0]
 refine Fn.b5 (b2 Tryz.func55) rfl rfl fun H=>?_;refine rg ?_;refine eQ fun bd=>?_;refine eQ fun cm=>?_;refine fa fun cQ=>?_;refine nS ?_;refine c4 [2,3,4] ?_;refine a2 ?_;refine' az.en 0 [(18,.bool (decide ((b1=0\/ef=0))))] ?jh ?ji;case jh=>
  refine U 0x242a9ba ?_;refine c0 13 (fun Rb=>?_) fun Rb=>?_
  ·refine U 0x308def7b ?_;refine di (dk ?_);omega
  ·refine U 0x3082154d ?_;refine di (dk ?_);omega
 case ji=>
  refine a2 ?_;refine If (fun iO=>?_) fun iO=>?_
  ·have Ab:r.z=0\/s.z=0:=by
    rcases iO with k|k
    ·exact .inl (pH.1 (ix.z k))
    ·exact .inr (pH.1 (yb.z k))
   have tY:bk (r.z*s.z) (r.d*s.d)=⟨0,1⟩:=by rw[VS.2 Ab];exact yJ (jr rd h0)
   refine U 0x357c7219 ?_;refine bp ?_
   rw[tY];exact⟨aj.le.refl _,rfl,.slice none 0 0,.slice none 0 0,rfl,cJ.nil,cJ.nil⟩
  ·have sz:s.z≠0:=fun k=>iO (.inr (yb.iA (pH.2 k)));have Ab:r.z≠0:=fun k=>iO (.inl (ix.iA (pH.2 k)));obtain⟨g,h,b,e,p,q,D⟩:=aq9 iQ cs Ab sz;have IZ:=j1 D.g0;have I0:=j1 D.aR;have apP:=j1 D.gI;have apQ:=j1 D.hb;have az7:=Dz.2 D.lu;have az8:=Dz.2 D.bt;have bH:=cX (jN D.yQ) fr.n;have kv:=cX (jN D.du) e5.n;have ql:=cX (jN D.bf) fr.d;have le:=cX (jN D.aS) e5.d;have Tu:=cX (jN (show g<=s.d by rw[<-D.b4];exact OY _ h0)) e5.d;have aqp:=cX (jN (show h<=r.d by rw[<-D.ad];exact OY _ rd)) fr.d;refine U 0x5f57 ?_;refine az.draw rfl (by kernel_rfl) (a1:=[.val 0,.val 1,.val 2,.val 5,.val 6,.val 7,.bE 3,.b9 [7,6,5,1,0],.bE 4,.b9 [7,6,5],.bE 8,.b9 [6,5],.bE 9,.val 10,.val 11]) (by kernel_rfl) ?_;refine U 0x796a6ad4d ?_;refine' bz.dE rfl rfl rfl rfl rfl rfl rfl rfl rfl dF (rI eB wB) ?_;rintro v' m' bu aY ⟨_,rfl,m8⟩;have qh:=m8;obtain⟨fs,hv,gl,rfl,fU,_,_⟩:=m8.bN;refine bz.b9 fD ?_;refine' bz.dE rfl rfl rfl rfl rfl rfl rfl rfl rfl (dj (eC rfl) dF) (NZ (cT.mono aY).n qh I I) ?_;rintro v' m' cZ bG ⟨_,rfl,uH⟩;have qi:=uH;obtain⟨fb,fe,eo,rfl,ih,_,_⟩:=uH.bN;refine bz.b9 fD ?_;refine' bz.dE rfl rfl rfl rfl rfl rfl rfl rfl rfl (dj (eC rfl) (dj (fun _ aF=>kk.hs (aY.trans bG) (eB.Hc ((cT.mono aY).mono bG) (aY.trans bG) h0 rd aF) rfl) dF)) (rI ((cT.mono aY).mono bG) Cx) ?_;rintro v' m' gi cR ⟨_,rfl,yl⟩;have qj:=yl;obtain⟨iq,mG,fC,rfl,mK,_,_⟩:=yl.bN;refine bz.b9 fD ?_
   refine' bz.dE rfl rfl rfl rfl rfl rfl rfl rfl rfl (dj (eC rfl) (dj (fun _ aF=>kk.hs (bG.trans cR) (by rw[(cT.mono aY).n.pz (((eB.mono aY).mono bG).mono cR).n (bG.trans cR) (lY aF).1,qh.pz qj (bG.trans cR) (lY aF).2]) rfl) (dj (eC rfl) dF))) (NZ (((eB.mono aY).mono bG).mono cR).n qj I I) ?_;rintro v' m' qI gE ⟨_,rfl,ym⟩;rw[D.ad] at ym;have uF:=ym;obtain⟨km,m9,hq,rfl,oS,_,_⟩:=ym.bN;rw[D.b4] at qi;have qi:=(qi.mono cR).mono gE;have yd:=(((cT.mono aY).mono bG).mono cR).mono gE;have s4:=(((eB.mono aY).mono bG).mono cR).mono gE;refine U 0x17c085e ?_;refine az.draw rfl (by kernel_rfl) (a1:=[.val 0,.val 1,.val 2,.val 4,.val 5,.val 6,.bE 3,.b9 [6,5,4],.bE 7,.bE 8,.val 9]) (by kernel_rfl) ?_;refine U 0x782a6854d ?_;refine' bz.dE rfl rfl rfl rfl rfl rfl rfl rfl rfl dF (wT yd.n qi I I IZ) ?_;rintro v' m' pK gg ⟨_,rfl,E9⟩;have q7:=E9;obtain⟨ir,qo,ep,rfl,oT,_,_⟩:=E9.bN;refine bz.b9 fD ?_;refine' bz.dE rfl rfl rfl rfl rfl rfl rfl rfl rfl (dj (fun _ aF=>kk.hs gg (by rw[yd.n.pz (s4.mono gg).n gg (lY aF).1,qi.pz (uF.mono gg) gg (lY aF).2]) rfl) dF) (wT (s4.mono gg).n (uF.mono gg) I I I0) ?_;rintro v' m' zj iw ⟨_,rfl,IQ⟩;have IK:=IQ;obtain⟨kT,tf,dp,rfl,oa,_,_⟩:=IQ.bN;rw[D.dg] at q7;rw[D.aL] at IK;refine' bz.dE rfl rfl rfl rfl rfl rfl rfl rfl rfl (dj (eC rfl) (dj (eC rfl) dF)) (Da (q7.mono iw) IK I I) ?_;rintro v' m' vk ll ⟨_,rfl,E6⟩;have Co:=E6;obtain⟨xq,yE,kn,rfl,JP,_,_⟩:=E6.bN;have IC:=((yd.mono gg).mono iw).mono ll;have EX:=((s4.mono gg).mono iw).mono ll;have qi:=((qi.mono gg).mono iw).mono ll;have uF:=((uF.mono gg).mono iw).mono ll
   refine U 0xbe05e ?_;refine az.draw rfl (by kernel_rfl) (a1:=[.val 0,.val 2,.val 4,.val 6,.bE 1,.b9 [6,4,2],.bE 3,.b9 [6,4],.bE 5,.b9 [6],.bE 7,.bE 8,.val 9]) (by kernel_rfl) ?_;refine U 0x1e0ac2b ?_;refine' bz.dE rfl rfl rfl rfl rfl rfl rfl rfl rfl dF (rI IC Cx) ?_;rintro v' m' KG iS ⟨_,rfl,IR⟩;have MG:=IR;obtain⟨K',Ak,j3,rfl,NL,_,_⟩:=IR.bN;refine bz.b9 fD ?_;refine' bz.dE rfl rfl rfl rfl rfl rfl rfl rfl rfl (dj (eC rfl) dF) (wT MG (uF.mono iS) I I I0) ?_;rintro v' m' tB iT ⟨_,rfl,IS⟩;have MH:=IS;obtain⟨La,M',tO,rfl,NM,_,_⟩:=IS.bN;refine bz.b9 fD ?_;refine' bz.dE rfl rfl rfl rfl rfl rfl rfl rfl rfl (dj (eC rfl) (dj (fun _ aF=>kk.hs (iS.trans iT) (IC.Hc ((EX.mono iS).mono iT) (iS.trans iT) rd h0 aF) rfl) dF)) (rI ((EX.mono iS).mono iT) wB) ?_;rintro v' m' OI oH ⟨_,rfl,E7⟩;have E4:=E7;obtain⟨DZ,Fy,fc,rfl,acR,_,_⟩:=E7.bN;refine bz.b9 fD ?_;refine' bz.dE rfl rfl rfl rfl rfl rfl rfl rfl rfl (dj (eC rfl) (dj (fun _ aF=>kk.hs (iT.trans oH) (by rw[MG.pz E4 (iT.trans oH) (lY aF).1,(uF.mono iS).pz (((qi.mono iS).mono iT).mono oH) (iT.trans oH) (lY aF).2]) rfl) (dj (eC rfl) dF))) (wT E4 (((qi.mono iS).mono iT).mono oH) I I IZ) ?_;rintro v' m' afA uw ⟨_,rfl,E8⟩;have IL:=E8;obtain⟨D1,Fz,fV,rfl,acS,_,_⟩:=E8.bN;rw[D.a'] at MH;rw[D.ax] at IL;refine' bz.dE rfl rfl rfl rfl rfl rfl rfl rfl rfl (dj (eC rfl) (dj (eC rfl) (dj (eC rfl) (dj (eC rfl) dF)))) (Da ((MH.mono oH).mono uw) IL I I) ?_;rintro v' m' afB hP ⟨_,rfl,IT⟩;have MI:=IT;obtain⟨agS,ard,kV,rfl,atb,_,_⟩:=IT.bN;have Co:=((((Co.mono iS).mono iT).mono oH).mono uw).mono hP
   refine U 0x5354dce05e ?_;refine' W.step rfl (Exec.val rfl rfl (u6 rfl rfl rfl (.inr ⟨rfl,rfl⟩) (by kernel_rfl)) ?_);refine U 0x21 ?_;refine bC (G:=Ja (r:=⟨p*q,b*e⟩) (by rw[<-mR] at Co;exact Co) MI (fun _=>by rw[pX.2 D.gp,pX.2 D.aG];exact arj D.lu D.bt) (fun k=>absurd k (VT D.lu D.bt)) (Nat.mul_ne_zero apP apQ) (by have:=yF ql le;show(aO (b*e)).length<=100000;omega)) (h:=?_);rintro v' m' afC z5 ⟨_,rfl,dW,fi,rfl,bM⟩;have ch:=bM;obtain⟨WZ,abJ,zz,rfl,acT,_,_⟩:=bM.n.bN;obtain⟨W0,abK,ax9,rfl,acU,_,_⟩:=bM.d.bN;refine U 0xd5f1c ?_;refine bp ?_
   exact⟨(((((((((((aY.trans bG).trans cR).trans gE).trans gg).trans iw).trans ll).trans iS).trans iT).trans oH).trans uw).trans hP).trans z5,rfl,_,_,HB D.mi,ch.cast D.mi⟩
theorem ajc{r s:bx}{v1 v2 bl b7:Value}(ao:gh J r v1 v2)(hs:gh J s bl b7)(iQ:r.hG)(cs:s.hG)(sz:0<s.z){k j:Nat}(fr:h2 k r)(e5:h2 j s)(hk:k<=30000)(aX:j<=30000):Fn (aU Q g0) 51 [dm r v1 v2,dm s bl b7] [] J (pS J (bk (r.z*s.d) (r.d*s.z.natAbs))):=by
 have cT:=ao;have eB:=hs;obtain⟨a',b1,bb,rfl,aL,ix,ks⟩:=ao.n.bN;obtain⟨bf,df,br,rfl,aG,nu,jA⟩:=ao.d.bN;obtain⟨bV,ef,cc,rfl,bt,yb,uA⟩:=hs.n.bN;obtain⟨dx,e9,ej,rfl,du,Iq,yd⟩:=hs.d.bN;have h0:=cs.1;have wB:=j1 h0;have aaC:s.z.natAbs≠0:=Dz.2 I;have Qk:(⟨(s.d:Int),s.z.natAbs⟩:bx).hG:=⟨tE aaC,by show Nat.Coprime ((s.d:Int).natAbs) s.z.natAbs;rw[iC];exact cs.2.symm⟩;have wo:eg 8 (dm r (.slice a' b1 bb) (.slice bf df br)) (dm r (.slice a' b1 bb) (.slice bf df br))=true:=by simp[eg,je,aL,aG,m0]
 have E3:eg 8 (dm s (.slice bV ef cc) (.slice dx e9 ej)) (dm s (.slice bV ef cc) (.slice dx e9 ej))=true:=by simp[eg,je,bt,du,m0]
 refine Fn.b5 (b2 Tryz.func51) rfl rfl fun H=>?_;refine rg ?_;refine eQ fun bd=>?_;refine eQ fun cm=>?_;refine fa fun cQ=>?_;refine ns ?_;refine az.draw rfl (by kernel_rfl) (a1:=[.val 0,.val 1,.val 2,.val 3,.val 5,.val 6,.bE 4,.b9 [6,5,2,1,0],.bE 7,.b9 [0],.bE 8,.bE 9]) (by kernel_rfl) ?_;refine U 0x794d5a9ab ?_;refine' bz.dE rfl rfl rfl rfl rfl rfl rfl rfl rfl dF (rI eB wB) ?_;rintro v' m' bu aY ⟨_,rfl,m8⟩;have qh:=m8;obtain⟨fs,hv,gl,rfl,fU,_,_⟩:=m8.bN;refine bz.b9 fD ?_;refine' bz.dE rfl rfl rfl rfl rfl rfl rfl rfl rfl (dj (eC rfl) dF) (Ja (r:=⟨(s.d:Int),s.z.natAbs⟩) qh (eB.mono aY).n (fun _=>by rw[fW (show ¬s.z<0 by omega),fW (show ¬(s.d:Int)<0 by omega)]) (fun k=>absurd k (show(s.d:Int)≠0 by omega)) aaC (by have:=e5.n;show(aO s.z.natAbs).length<=100000;omega)) ?_;rintro v' m' cZ bG ⟨_,rfl,dW,fi,rfl,bM⟩;have ch:=bM;obtain⟨WZ,abJ,zz,rfl,acT,_,_⟩:=bM.n.bN;obtain⟨W0,abK,iO,rfl,acU,_,_⟩:=bM.d.bN;refine bz.b9 fD ?_;refine' bz.dE rfl rfl rfl rfl rfl rfl rfl rfl rfl (dj (eC rfl) (dj (eC rfl) dF)) (abH ((cT.mono aY).mono bG) ch iQ Qk fr (h2.mk (k:=j) (r:=⟨(s.d:Int),s.z.natAbs⟩) (by show(aO (s.d:Int).natAbs).length<=j;rw[iC];exact e5.d) e5.n) hk aX) ?_;rintro v' m' gi cR ⟨_,rfl,hz,iX,rfl,qW⟩;have BL:=qW;obtain⟨D2,are,sF,rfl,Ur,_,_⟩:=qW.n.bN;obtain⟨PB,arh,hC,rfl,acV,_,_⟩:=qW.d.bN;refine U 0x1abe39e ?_;refine bp ?_;exact⟨(aY.trans bG).trans cR,rfl,_,_,rfl,BL⟩
theorem TK{n:Nat}(aE:n<9223372036854775808):Fn (aU Q g0) 47 [.int .i64 (n:Int)] [] J (kk J n):=by
 refine Fn.b5 (b2 Tryz.func47) rfl rfl fun H=>?_;refine U 0xbe081ce059 ?_;refine If (fun ej=>?_) fun ej=>?_
 ·have aR:n=0:=I
  refine U 0x1abe059 ?_;refine bp ?_
  exact⟨aj.le.refl _,rfl,by rw[aR];exact cJ.nil⟩
 ·have aR:n≠0:=I
  refine U 0x5f040e757 ?_;refine If (fun eo=>?_) fun eo=>?_
  ·exfalso;omega
  ·refine U 0xe0e757 ?_;refine mr fun Pl=>?_;refine U 0x302 ?_;refine az.ie rfl fun bG=>?_;refine U 0x357 ?_;refine bp ?_
   exact⟨bG,rfl,cJ.row (n:=1) (l:=[n]) (by rw[F8 aR I];rfl) (by simp) (by simp) bI (aj.iE _ _ _)⟩
theorem Tj{n:Nat}(aE:n<9223372036854775808):Fn (aU Q g0) 52 [.int .i64 (n:Int)] [] J (pS J ⟨(n:Int),1⟩):=by
 refine Fn.b5 (b2 Tryz.func52) rfl rfl fun H=>?_;refine rg ?_;refine fa fun bd=>?_;refine U 0x120738 ?_;refine bC (G:=TK aE) (h:=?_);rintro v' m' bu aY ⟨_,rfl,m8⟩;have qh:=m8;obtain⟨fs,hv,gl,rfl,fU,_,_⟩:=m8.bN;refine U 0x1abe390 ?_;refine bp ?_;exact⟨aY,rfl,_,.slice none 0 0,rfl,qh,cJ.nil⟩
theorem adJ{r:bx}{v1 v2:Value}(h:gh J r v1 v2)(aM:0<r.z):Fn (aU Q g0) 91 [dm r v1 v2] [] J (fun u m' af=>u=.int .i64 1/\m'=[]/\J.le af):=by
 obtain⟨a',b1,bb,rfl,aL,ix,ks⟩:=h.n.bN;obtain⟨bf,df,br,rfl,aG,nu,jA⟩:=h.d.bN;refine Fn.b5 (b2 Tryz.func91) rfl rfl fun H=>?_;refine rg ?_;refine eQ fun ba=>?_;refine U 0x17c10aa6e702 ?_;refine If (fun eo=>?_) fun eo=>?_
 ·exfalso;have:=pH.1 (ix.z I);omega
 ·refine U 0x5f0a6e757 ?_;refine If (fun hq=>?_) fun hq=>?_
  ·exfalso;omega
  ·refine U 0x6af816757 ?_;refine bp ?_;exact⟨rfl,rfl,aj.le.refl _⟩
theorem ait{r s:bx}{v1 v2 bl b7:Value}(ao:gh J r v1 v2)(hs:gh J s bl b7)(iQ:r.hG)(cs:s.hG)(yZ:0<r.z)(sz:0<s.z){k j:Nat}(fr:h2 k r)(e5:h2 j s)(hk:k<=30000)(aX:j<=30000):Fn (aU Q g0) 54 [dm r v1 v2,dm s bl b7] [] J (fun u m' af=>u=.int .i64 (l4 (r.z.natAbs*s.d) (s.z.natAbs*r.d))/\m'=[]/\J.le af):=by
 have cT:=ao;have eB:=hs;obtain⟨a',b1,bb,rfl,aL,ix,ks⟩:=ao.n.bN;obtain⟨bf,df,br,rfl,aG,nu,jA⟩:=ao.d.bN;obtain⟨bV,ef,cc,rfl,bt,yb,uA⟩:=hs.n.bN;obtain⟨dx,e9,ej,rfl,du,Iq,yd⟩:=hs.d.bN;have rd:=iQ.1;have h0:=cs.1;have Cx:=j1 rd;have wB:=j1 h0;have TF:=fr.n;have TE:=fr.d;have abf:=e5.n;have abe:=e5.d;have aAj:=yF fr.n e5.d;have aAk:=yF e5.n fr.d;have az9:=Dz.2 (show r.z≠0 by omega);have az':=Dz.2 (show s.z≠0 by omega);have wo:eg 8 (dm r (.slice a' b1 bb) (.slice bf df br)) (dm r (.slice a' b1 bb) (.slice bf df br))=true:=by simp[eg,je,aL,aG,m0]
 have E3:eg 8 (dm s (.slice bV ef cc) (.slice dx e9 ej)) (dm s (.slice bV ef cc) (.slice dx e9 ej))=true:=by simp[eg,je,bt,du,m0]
 refine Fn.b5 (b2 Tryz.func54) rfl rfl fun H=>?_;refine rg ?_;refine eQ fun bd=>?_;refine eQ fun cm=>?_;refine U 0x5f02 ?_;refine az.draw rfl (by kernel_rfl) (a1:=[.val 0,.val 2,.bE 1,.b9 [2],.bE 3,.val 4,.val 5]) (by kernel_rfl) ?_;refine U 0x796b ?_;refine' bz.dE rfl rfl rfl rfl rfl rfl rfl rfl rfl dF (adJ cT yZ) ?_;rintro v' m' afD rX ⟨rfl,rfl,_⟩;refine bz.b9 fD ?_;refine' bz.dE rfl rfl rfl rfl rfl rfl rfl rfl rfl (dj (fun _ _=>⟨rfl,rX,fun v m' bu cZ ⟨a,b,c⟩ ad ae=>⟨a,b,ae⟩⟩) dF) (adJ (eB.mono rX) sz) ?_;rintro v' m' afE we ⟨rfl,rfl,_⟩;have cT:=(cT.mono rX).mono we;have eB:=(eB.mono rX).mono we;refine U 0x120439c085e ?_;refine c0 15 (fun BH=>?_) fun BH=>?_
 ·exfalso;exact BH rfl
 ·refine U 0x17c2081 ?_;refine If (fun iO=>?_) fun iO=>?_
  ·exfalso;simp at iO
  ·refine U 0x5f57 ?_;refine az.draw rfl (by kernel_rfl) (a1:=[.val 0,.val 1,.val 2,.val 5,.val 6,.val 7,.bE 3,.b9 [7,6,5,1,0],.bE 4,.b9 [7,6,5],.bE 8,.b9 [6,5],.bE 9,.bE 10,.val 11]) (by kernel_rfl) ?_;refine U 0x796a6ad4d ?_;refine' bz.dE rfl rfl rfl rfl rfl rfl rfl rfl rfl dF (rI eB wB) ?_;rintro v' m' bu aY ⟨_,rfl,m8⟩;have qh:=m8;obtain⟨fs,hv,gl,rfl,fU,_,_⟩:=m8.bN;refine bz.b9 fD ?_;refine' bz.dE rfl rfl rfl rfl rfl rfl rfl rfl rfl (dj (eC rfl) dF) (Da (cT.mono aY).n qh I I) ?_;rintro v' m' cZ bG ⟨_,rfl,uH⟩;have qi:=uH;obtain⟨fb,fe,eo,rfl,ih,_,_⟩:=uH.bN;refine bz.b9 fD ?_;refine' bz.dE rfl rfl rfl rfl rfl rfl rfl rfl rfl (dj (eC rfl) (dj (fun _ aF=>kk.hs (aY.trans bG) (eB.Hc ((cT.mono aY).mono bG) (aY.trans bG) h0 rd aF) rfl) dF)) (rI ((cT.mono aY).mono bG) Cx) ?_;rintro v' m' gi cR ⟨_,rfl,yl⟩;have qj:=yl;obtain⟨iq,mG,fC,rfl,mK,_,_⟩:=yl.bN;refine bz.b9 fD ?_;refine' bz.dE rfl rfl rfl rfl rfl rfl rfl rfl rfl (dj (eC rfl) (dj (fun _ aF=>kk.hs (bG.trans cR) (by rw[(cT.mono aY).n.pz (((eB.mono aY).mono bG).mono cR).n (bG.trans cR) (lY aF).1,qh.pz qj (bG.trans cR) (lY aF).2]) rfl) (dj (eC rfl) dF))) (Da (((eB.mono aY).mono bG).mono cR).n qj I I) ?_;rintro v' m' qI gE ⟨_,rfl,ym⟩;have uF:=ym;obtain⟨km,m9,hq,rfl,oS,_,_⟩:=ym.bN;refine' bz.dE rfl rfl rfl rfl rfl rfl rfl rfl rfl (dj (eC rfl) (dj (eC rfl) (dj (eC rfl) (dj (eC rfl) dF)))) (G4 ((qi.mono cR).mono gE) uF I I) ?_;rintro v' m' af hle ⟨rfl,rfl,rfl⟩;refine U 0xbe14dce05e ?_;refine If (fun iP=>?_) fun iP=>?_
   ·exfalso;omega
   ·refine U 0xd5f020e757 ?_;refine bp ?_;exact⟨rfl,rfl,((((rX.trans we).trans aY).trans bG).trans cR).trans gE⟩
end
end
end Go.Opn
namespace Go.Opn
noncomputable section
theorem aw1{l:List Nat}(bn:okW l)(h:l.length<=(aO (a5 l)).length):l=aO (a5 l):=by
 refine LA ⟨bn,fun x aa aR=>?_⟩;subst aR;rcases List.eq_nil_or_concat l with rfl|⟨l',y,rfl⟩
 ·cases aa
 ·rw[List.concat_eq_append] at aa bn h;rw[KL,OO] at aa;injection aa with aa
  subst aa;rw[Dj,js,iD,eX,zl] at h;have ad:=sj (l:=l') (fun z aM=>bn z (om _ aM));have:=ae4 ad;omega
theorem aw3{l:List Nat}{c:Nat}(bn:okW l)(aR:c≠0)(aC:c<18446744073709551616):l++[c]=aO (a5 l+18446744073709551616 ^ l.length*c):=by
 rw[<-Dj];refine LA ⟨Jv bn fun z aM=>by rw[A2.1 aM];exact aC,fun x aa=>?_⟩;rw[KL,OO] at aa;injection aa with aa
 rw[<-aa];exact aR
theorem aw2{x y:Nat}(h:x<=y):(aO x).length<=(aO y).length:=by
 apply sv
 intro q;have:=Oj q;omega
theorem alh{D w:List Nat}{j c a P:Nat}(au:D.length=j)(aF:w[j]?=some a)(h:a5 D+18446744073709551616 ^ j*c=1000000000*a5 (w.take j)+P):
 a5 (D++[(a*1000000000+c) % 18446744073709551616])+18446744073709551616 ^ (j+1)*((a*1000000000+c) / 18446744073709551616)=1000000000*a5 (w.take (j+1))+P:=by
 rw[Dj,au,lz aF,cL];have e:18446744073709551616 ^ j*(a*1000000000+c)=18446744073709551616 ^ j*((a*1000000000+c) % 18446744073709551616)+18446744073709551616 ^ (j+1)*((a*1000000000+c) / 18446744073709551616):=by
  conv=>lhs;rw[<-zn (a*1000000000+c) 18446744073709551616]
  rw[cL,fP,fy]
 rw[cL] at e;have aS:1000000000*(18446744073709551616 ^ j*a)=18446744073709551616 ^ j*(a*1000000000):=by
  rw[rE,dP 1000000000 a]
 omega
theorem alf{D:List Nat}{X c P n:Nat}(au:D.length=n)(aE:n=(aO X).length)(bn:okW D)(aC:c<18446744073709551616)(h:a5 D+18446744073709551616 ^ n*c=1000000000*X+P):
 (c=0->D=aO (P+1000000000*X))/\(c≠0->D++[c]=aO (P+1000000000*X)):=by
 refine⟨fun aR=>?_,fun aR=>?_⟩
 ·rw[aR,js,iD] at h;have e:a5 D=P+1000000000*X:=by omega
  rw[<-e];refine aw1 bn ?_;rw[au,aE,e];exact aw2 (by omega)
 ·rw[aw3 bn aR aC,au,h,Gq]
theorem avL{L:List Nat}{x Y r:Nat}(h:aK L+1000000000 ^ L.length*Y=x)(ao:r=Y % 1000000000000000000):
 aK (L++[r % 1000000000,r / 1000000000])+1000000000 ^ (L++[r % 1000000000,r / 1000000000]).length*(Y / 1000000000000000000)=x:=by
 rw[si,eX,show([r % 1000000000,r / 1000000000]:List Nat).length=2 from rfl,o1];rw[show aK [r % 1000000000,r / 1000000000]=r from by show r % 1000000000+1000000000*(r / 1000000000+1000000000*0)=r;omega];rw[fy,DL,<-cL,show(1000000000:Nat) ^ 2=1000000000000000000 from rfl];rw[show r+1000000000000000000*(Y / 1000000000000000000)=Y by omega];exact h
theorem aaX{x k:Nat}(h:x<1000000000 ^ k):(ag x).length<=k:=by
 apply sv
 intro q;have dX:ag x≠[]:=fun e=>by rw[e] at q;exact Gu _ q
 have ad:=Vf (Bk x) dX;rw[g'] at ad;have:1000000000 ^ k<=1000000000 ^ ((ag x).length -1):=mV (by decide) (by omega);omega
theorem aqw{x k:Nat}(h:(aO x).length<=k):(ag x).length<=3*k:=by
 refine aaX ?_;have ad:=AN h;have:18446744073709551616 ^ k<=(1000000000 ^ 3) ^ k:=O9 (by decide) k;rw[<-Gv] at this;omega
theorem asU(n k a b c:Nat)(aF:a=4)(ai:b=8)(hk:k=a*b*c)(aE:64*n=(119*b+6)*c):(1000000000:Nat) ^ k<=18446744073709551616 ^ n:=by
 have aS:(1000000000 ^ a) ^ b<=(2 ^ 119) ^ b*2 ^ 6:=by subst aF;subst ai;decide
 rw[hk,Gv,Gv,show(18446744073709551616:Nat)=2 ^ 64 from rfl,<-Gv 2 64 n,aE,Gv 2 (119*b+6),o1,Gv 2 119];exact O9 aS c
theorem axa{x n k:Nat}(h:n<(aO x).length)(eM:(1000000000:Nat) ^ k<=18446744073709551616 ^ n):k<(ag x).length:=by
 apply O3
 intro q;have dX:aO x≠[]:=fun e=>by rw[e] at h;exact Gu _ h
 have ad:=aeP (XC x) dX;rw[kd] at ad;have ae:18446744073709551616 ^ n<=18446744073709551616 ^ ((aO x).length -1):=mV (by decide) (by omega);have aD:=ly (hR x);rw[g'] at aD;have a6:1000000000 ^ (ag x).length<=1000000000 ^ k:=mV (by decide) q;exact absurd (iM aD (cX a6 (cX eM (cX ae ad)))) (A7 _)
theorem ae6{x:Nat}(h:479<(aO x).length):1024<(ag x).length:=by
 obtain⟨k,hk⟩:∃k,k=1024:=⟨_,rfl⟩;obtain⟨n,aE⟩:∃n,n=479:=⟨_,rfl⟩;rw[<-hk];exact axa (n:=n) (by omega) (asU n k 4 8 32 rfl rfl (by omega) (by omega))
theorem avK{L:List Nat}{x:Nat}(bn:dU L)(av:aK L=x)(Ii:L=[]\/∃l a b,L=l++[a,b]/\¬(a=0/\b=0)):
 (∀y,L.getLast?=some y->y≠0)/\L=ag x\/L.getLast?=some 0/\L.take (L.length -1)=ag x:=by
 rcases Ii with rfl|⟨l,a,b,rfl,jk⟩
 ·left
  refine⟨fun y ap=>(by cases ap),?_⟩;rw[<-av];show[]=ag 0;rw[lR]
 ·by_cases ai:b=0
  ·right
   subst ai;refine⟨by simp,?_⟩;have e:(l++[a,0]).take ((l++[a,0]).length -1)=l++[a]:=by
    rw[show l++[a,0]=(l++[a])++[0] by simp,eX,zl,oo,Wg]
   rw[e];have yi:aK (l++[a])=x:=by
    rw[<-av,show l++[a,0]=(l++[a])++[0] by simp,si (l++[a]),Kc,js,iD]
   rw[<-yi];refine qQ ⟨fun z aM=>bn z (by rw[show l++[a,0]=(l++[a])++[0] by simp];exact om _ aM),fun y ap=>?_⟩;rw[KL,OO] at ap;injection ap with ap
   rw[<-ap];exact fun q=>jk ⟨q,rfl⟩
  ·left
   have aq:∀y,(l++[a,b]).getLast?=some y->y≠0:=fun y ap=>by
    rw[KL] at ap;injection ap with ap
    rw[<-ap];exact ai
   exact⟨aq,by rw[<-av];exact qQ ⟨bn,aq⟩⟩
end
end Go.Opn
namespace Go.Opn
noncomputable section
open Go.Cre Go.RowKit Go.Proofs
def cS(J:aj)(v:Value)(x:Nat):Prop:=c9 .u32 J v (ag x)
theorem cS.mono{J af:aj}(hle:J.le af){v:Value}{x:Nat}(h:cS J v x):cS af v x:=c9.mono hle h
theorem cS.bA{J:aj}{v:Value}{x:Nat}(h:cS J v x):∃b c,v=.slice b (ag x).length c/\addrEq b b=true:=by
 have h:c9 .u32 J v (ag x):=h;obtain⟨b,c,rfl⟩:=h.form;exact⟨b,c,rfl,h.addr⟩
theorem cS.bN{J:aj}{v:Value}{x:Nat}(h:cS J v x):∃b n c,v=.slice b n c/\addrEq b b=true:=by
 obtain⟨b,c,ad,ae⟩:=h.bA;exact⟨b,_,c,ad,ae⟩
theorem cS.pz{J af:aj}{v w:Value}{x y:Nat}(h:cS J v x)(hd:cS af w y)(hle:J.le af)(e:v=w):x=y:=by
 subst e;have:=cC aK (c9.y9 h hd hle);rwa [g',g'] at this
theorem Dq:iA []:=fun a c e r z h=>by cases h
theorem CI:uM []:=fun a c e h=>by cases h
theorem Acc.ab'{w:Value}{t k:Nat}{cells:List Value}{bc:aN}(h:Acc t 1 w k cells bc)(aM:iA bc)(aE:uM bc)(ad:k≠0):∃a r,w=.slice (some ⟨a,0,none⟩) k cO/\bc=[(a,.opn cells t r 0)]:=by
 cases h with
 |nil=>exact absurd rfl ad
 |jH a=>exact absurd rfl ad
 |@opn a k cells rest z aq ht=>
  have:z=0:=aM _ _ _ _ _ (.head _);subst this;exact⟨a,rest,rfl,rfl⟩
 |cap=>exact absurd (List.Mem.head _) (aE _ _ _)
abbrev tm(k:IntKind)(t a:Nat)(l:List Nat)(r:List Nat):Nat×dI:=(a,.opn (cj k l) t r 0)
structure tJ (w:Value) (l:List Nat) (bc:aN):Prop where
 acc:Acc 129 1 w l.length (cj .u64 l) bc
 z:iA bc
 n:uM bc
theorem tJ.nil:tJ (.slice none 0 0) [] []:=⟨.nil,Dq,CI⟩
theorem at4{k:IntKind}{t a:Nat}{l r:List Nat}:iA [tm k t a l r]:=fun b0 c e cv z h=>by
 rcases gj.1 h with h|h
 ·injection h with _ h;injection h
 ·cases h
theorem at3{k:IntKind}{t a:Nat}{l r:List Nat}:uM [tm k t a l r]:=fun b0 c e h=>by
 rcases gj.1 h with h|h
 ·injection h with _ h;cases h
 ·cases h
theorem tJ.row{a:Nat}{l r:List Nat}{n:Nat}(aE:l.length=n):tJ (.slice (some ⟨a,0,none⟩) n cO) l [tm .u64 129 a l r]:=by
 subst aE;exact⟨.opn (by rw[r8,ha]) (c5 _),at4,at3⟩
theorem tJ.form{w:Value}{l:List Nat}{bc:aN}(h:tJ w l bc):∃b c,w=.slice b l.length c/\addrEq b b=true:=h.acc.BB
theorem tJ.at{b:Option Addr}{n c:Nat}{l:List Nat}{bc:aN}(h:tJ (.slice b n c) l bc)(aR:l.length≠0):∃a r,b=some ⟨a,0,none⟩/\c=cO/\bc=[tm .u64 129 a l r]:=by
 obtain⟨a,r,e,hm⟩:=h.acc.ab' h.z h.n aR;injection e with ax aS cl
 exact⟨a,r,ax,cl,hm⟩
section
variable {Q:c7 Tryz.prog}{g0:Nat}{J:aj}
theorem Ym{v:Value}{x:Nat}(h:cS J v x)(g4:(ag x).length<=100000):Fn (aU Q g0) 127 [v] [] J (kk J x):=by
 have aR:=h;obtain⟨b,lH,rfl,k6⟩:=h.bA;refine Fn.b5 (b2 Tryz.func127) rfl rfl fun H=>?_;refine U 0x357c08650e702ce059 ?_;refine c3 [(4,.int .i64 ((((ag x).length):Int) -1)),(3,(.slice none 0 0)),(0,_)] ?_;refine a2 ?_;refine' az.bH (fun(bK:Nat×Value×aN)=>match bK with|(k,w,bc)=>⟨[(4,.int .i64 ((k:Int) -1)),(3,w)],bc,J,k<=(ag x).length/\tJ w (aO (aK ((ag x).drop k))) bc,k⟩) ⟨(ag x).length,.slice none 0 0,[]⟩ ?hs ?a7
 case hs=>exact⟨bU _,by rw[oi (bU _),show aK []=0 from rfl,sk];exact .nil⟩
 case a7=>
  rintro⟨k,w,bc⟩ hinv;try simp only at hinv
  obtain⟨hk,hN⟩:=hinv;obtain⟨tN,tU,rfl,Uv⟩:=hN.form;refine U 0x17c1039 ?_;refine If (fun fc=>?_) fun fc=>?_
  ·obtain⟨sD,eF,oz,ex,rfl,lj,lp⟩:=c9.at (k:=.u32) (l:=ag x) aR I;obtain⟨p,aw,An⟩:=lp (k -1) I;have bH:=qp (hR x) aw;have An:nth oz (eF+((k:Int) -1).toNat*1)=some (.int .u32 (p:Int)):=by rw[show((k:Int) -1).toNat=k -1 by omega];exact An
   obtain⟨X,ft⟩:∃X,X=aK ((ag x).drop k):=⟨_,rfl⟩;have YV:aK ((ag x).drop (k -1))=p+1000000000*X:=by
    rw[drop_cons aw,show k -1+1=k by omega,ft];rfl
   rw[<-ft] at hN ⊢;have x3:(aO X).length<=(ag x).length:=by
    refine Jj ?_;have ad:=ly (Nw (i:=k) (hR x));rw[<-ft] at ad;refine iM ad (cX (O9 bI _) (mV bI (by rw[jZ];omega)))
   refine U 0x6af809439c09c930439d5f57 ?_;refine c3 [(24,.int .i64 ((0):Int)),(5,.int .u64 ((p):Int)),(0,_),(3,_),(4,_),(23,_)] ?_;refine a2 ?_;refine' az.bH (fun(bK:Nat×Nat×(List Nat)×aN)=>match bK with|(j,c,D,Fw)=>⟨[(24,.int .i64 (j:Int)),(5,.int .u64 (c:Int))],Fw,J,j<=(aO X).length/\c<18446744073709551616/\D.length=j/\okW D/\a5 D+18446744073709551616 ^ j*c=1000000000*a5 ((aO X).take j)+p/\tJ (.slice tN (aO X).length tU) (D++(aO X).drop j) Fw,(aO X).length -j⟩) ⟨0,p,[],bc⟩ ?hs ?a7
   case hs=>exact⟨c5 _,I,rfl,Jw,by rw[fO,zo,jb];rfl,by rw[kj,gO];exact hN⟩
   case a7=>
    rintro⟨j,c,D,Fw⟩ hinv;try simp only at hinv
    obtain⟨aX,aC,cp,bn,av,EF⟩:=hinv;refine U 0xbe099 ?_;refine If (fun qO=>?_) fun qO=>?_
    ·obtain⟨a,aF,la⟩:=Aw (n9 X) (i:=j) I;obtain⟨kl,c8,rfl,rfl,rfl⟩:=EF.at (by rw[eX,jZ];omega);have TR:nth (cj .u64 (D++(aO X).drop j)) (0+(j:Int).toNat*1)=some (.int .u64 (a:Int)):=by
        have:=FC (A:=[]) (C:=[]) cp (bU _) aF (off:=0+(j:Int).toNat*1) (by show 0+(j:Int).toNat*1=0+j;omega);rwa [hi,kj] at this
     have sa:∀y:Nat,gS (0+(j:Int).toNat*1) (cj .u64 (D++(aO X).drop j)) [.int .u64 (y:Int)]=some (cj .u64 ((D++[y])++(aO X).drop (j+1))):=fun y=>by
        have:=JX (A:=[]) (C:=[]) (y:=y) cp (show j<(aO X).length by omega) (off:=0+(j:Int).toNat*1) (by show 0+(j:Int).toNat*1=0+j;omega);rwa [hi,kj,hi,kj] at this
     obtain⟨P,cI⟩:∃P,P=a*1000000000:=⟨_,rfl⟩;have sT:P<=18446744073709551615*1000000000:=by rw[cI];exact fq _ I
     refine U 0x930439c0839d5f57 ?_;refine bC (G:=Fx (y:=1000000000) la bI) (h:=?_);rintro v' m' af hle ⟨rfl,rfl,rfl⟩;rw[<-cI];refine U 0x21087381670211ce1 ?_;refine bC (G:=xm (c:=0) I) (h:=?_);rintro v' m' af hle ⟨rfl,rfl,rfl⟩;rw[show(P % 18446744073709551616+c+0) % 18446744073709551616=(P+c) % 18446744073709551616 by omega,cI];refine U 0x31ce1 ?_;refine' W.step rfl (.of (Vs rfl rfl rfl rfl (u2 rfl) rfl rfl rfl ?ad ?hs ?aM ?aw ?_));case aw=>exact .refl _
     case hs=>exact sa _
     case ad=>rfl
     case aM=>exact c5 _
     refine U 0x610e702 ?_;rw[show((a*1000000000 / 18446744073709551616:Nat):Int)+(((a*1000000000 % 18446744073709551616+c+0) / 18446744073709551616:Nat):Int)=(((a*1000000000+c) / 18446744073709551616:Nat):Int) by omega];refine U 0x3011e702 ?_;refine dN ⟨j+1,(a*1000000000+c) / 18446744073709551616,D++[(a*1000000000+c) % 18446744073709551616],[tm .u64 129 kl ((D++[(a*1000000000+c) % 18446744073709551616])++(aO X).drop (j+1)) []]⟩ ?_;exact⟨I,I,yz cp,Jx bn (gA _ bI),alh cp aF av,.row (by rw[eX,yz cp,jZ];omega)⟩
    ·obtain rfl:j=(aO X).length:=I
     rw[cU (bU _),kd] at av;rw[oi (bU _),hi] at EF;obtain⟨f1,f2⟩:=alf cp rfl bn aC av;rw[<-YV] at f1 f2;refine U 0x3040e757 ?_;refine c4 [3,5,49,0,4] ?_;refine a2 ?_;refine' az.lb 3 (fun(bK:(Value)×(aN))=>match bK with|(b7,Aj)=>⟨[(3,b7)],Aj,J,tJ b7 (aO (aK ((ag x).drop (k -1)))) Aj⟩) ?aid ?ajw
     case aid=>
      refine If (fun P0=>?_) fun P0=>?_
      ·
        refine U 0x439 ?_;refine mr fun axT=>?_;refine' W.step rfl (.of (tt rfl rfl rfl rfl rfl rfl (eW rfl) (Vc Q g0) (fun i q=>by cases q) ?eT ?hm ?aa ?dT ?dX ?aq fun awU aq3 am0 aam=>?_));case eT=>exact(show Acc 129 1 (.slice tN (aO X).length tU) (aO X).length (cj .u64 D) Fw from cp▸EF.acc)
        case hm=>exact(zm _ Fw).symm
        case aa=>exact mW.own (cells:=cj .u64 [c]) (.head _) rfl
        case dT=>exact rfl
        case dX=>exact CO _
        case aq=>exact(show(aO X).length+1<=1000000 by omega)
        refine U 0x302 ?_;refine fG ⟨awU,aq3⟩ ?_ (hm:=⟨_,.refl _⟩);try dsimp only
        rw[<-f2 I];exact⟨by rw[CN,eX,cp];exact am0,aam.1 EF.z,aam.2 EF.n⟩
      ·
        refine hx ?_;refine fG ⟨.slice tN (aO X).length tU,Fw⟩ ?_;try dsimp only
        rw[<-f1 I];exact EF
     case ajw=>
      rintro⟨b7,Aj⟩ hinv;try simp only at hinv
      refine U 0x1810c39 ?_;refine dN ⟨k -1,b7,Aj⟩ ?_;exact⟨I,hinv⟩
  ·obtain rfl:k=0:=I
   rw[gO,g'] at hN ⊢;refine U 0x357 ?_;refine hN.acc.qv (by rw[hi]) fun bu aY n6=>?_;refine U 0x357c0839 ?_;refine bp ?_;exact⟨aY,rfl,129,n6⟩
end
end
end Go.Opn

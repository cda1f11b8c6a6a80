/- A part of the proof of TableTurns. -/
import Derived.Test.YtlgjlbpafcifoaaGreatDoorCaw
import Derived.Test.YtlgjlbpafcifoaaGreatDoorCal
import Derived.Test.YtlgjlbpafcifoaaGreatDoorCat
set_option maxRecDepth 100000
set_option maxHeartbeats 8000000
set_option linter.unusedVariables false
set_option linter.unusedSimpArgs false
namespace Go.Opn
noncomputable section
open Go.Cre Go.RowKit Go.Proofs
theorem cp.oO{J ae:af}{v w:Value}{x y:Nat}(h:cp J v x)(gO:cp ae w y)(hle:J.le ae)(e:v=w):x=y:=by subst e;exact h.Bf gO hle
structure lG (k:Nat) (r:cY):Prop where
 n:(aS r.z.natAbs).length<=k
 d:(aS r.d).length<=k
theorem agz{z:Int}{d k:Nat}(al:0<d)(ab:(aS z.natAbs).length<=k)(ad:(aS d).length<=k):lG k (bn z d):=by
 obtain⟨d',ej⟩:=QK (z:=z) al;exact⟨dA (ki d') ab,dA (ki ej) ad⟩
theorem X3(z:Int)(d:Nat):(z*(d:Int)).natAbs=z.natAbs*d:=by rw[l4,hK]
theorem agA{r s:cY}{k j:Nat}{u v:Nat}(aq:lG k r)(hs:lG j s)(hu:(aS u).length<=k)(ar:(aS v).length<=j):(aS (r.z*(v:Int)+s.z*(u:Int)).natAbs).length<=k+j+1:=by
 have ab:=w8 aq.n ar;have ad:=w8 hs.n hu;have aL:=alW ab (show(aS (s.z.natAbs*u)).length<=k+j by omega);refine dA (ki ?_) aL;rw[<-X3,<-X3];exact Int.natAbs_add_le _ _
theorem qK(b:Bool):TO b b=true:=by cases b<;>rfl
theorem ae9{d e:Nat}(al:0<d)(he:0<e)(h:iO d=iO e):d=e:=by
 unfold iO at h;split at h<;>split at h<;>omega
theorem h8.ET{J ae:af}{r s:cY}{v1 v2 bt cv:Value}{x y:Bool}(h:h8 J r v1 v2)(gO:h8 ae s bt cv)(hle:J.le ae)(al:0<r.d)(he:0<s.d)(e:[Value.agg #[.bool x,v1,v2]]=[Value.agg #[.bool y,bt,cv]]):r.d=s.d:=by
 injection e with e
 injection e with e
 injection e with e
 injection e with _ e
 injection e with _ e
 injection e with e
 exact ae9 al he (h.d.oO gO.d hle e)
theorem mR{a b c d:Value}(h:[a,b]=[c,d]):a=c/\b=d:=by
 injection h with ab ad
 injection ad with ad
 exact⟨ab,ad⟩
theorem Jd{r s:cY}{v1 v2:Value}(h:r=s):eC r v1 v2=eC s v1 v2:=by rw[h]
theorem h8.cast{J:af}{r s:cY}{v1 v2:Value}(h:h8 J r v1 v2)(e:r=s):h8 J s v1 v2:=e▸h
section
variable {Q:cZ Tryz.prog}{g0:Nat}{J:af}
theorem acn{r s:cY}{v1 v2 bt cv:Value}(aq:h8 J r v1 v2)(hs:h8 J s bt cv)(hX:r.h7)(cs:s.h7){k j:Nat}(fr:lG k r)(hO:lG j s)(hk:k<=30000)(aY:j<=30000):Fn (aT Q g0) 78 [eC r v1 v2,eC s bt cv] [] J (ur J (bn (r.z*s.d+s.z*r.d) (r.d*s.d))):=by
 obtain⟨bs,d',bp,rfl,aK,jJ,h1⟩:=aq.n.cA;obtain⟨bM,ej,bN,rfl,aH,mH,jK⟩:=aq.d.cA;obtain⟨cB,eD,cN,rfl,bJ,CL,An⟩:=hs.n.cA;obtain⟨ep,gA,e',rfl,dU,O9,Ao⟩:=hs.d.cA;obtain⟨g,u,v,h,w,t,q,D⟩:=acm hX cs;have rd:=hX.1;have hU:=cs.1;have Ue:=D.g0;have aeI:=D.aN;have afm:=D.bU;have EV:=D.v2;have afo:=D.cv;have aeH:=D.bZ;have Uk:=D.bq;have afn:=D.v0;have Ul:=D.w0;have Wn:(s.z*(u:Int)).natAbs=s.z.natAbs*u:=by rw[l4,hK]
 have Wk:(r.z*(v:Int)).natAbs=r.z.natAbs*v:=by rw[l4,hK]
 have aJ:=D.t1;have Xy:=fr.n;have Xx:=fr.d;have XA:=hO.n;have Xz:=hO.d;have AE:=dA (ki afm) fr.d;have Gz:=dA (ki EV) hO.d;have lw:=dA (ki afo) hO.d;have Xm:=dA (ki aeH) fr.d;have lt:(aS t.natAbs).length<=k+j+1:=by rw[aJ];exact agA fr hO AE Gz
 have at7:=w8 fr.n Gz;have aua:=w8 hO.n AE;have ak7:=dA (ki (show h<=g by rw[<-D.ab];exact S9 _ Ue)) Xm;have Gs:=jl Ue;have Gt:=jl aeI;have atW:=jl Uk;have atX:=jl afn;have atY:=jl Ul;have tE:=jl rd;have yE:=jl hU;have F7:eJ 8 (eC r (.slice bs d' bp) (.slice bM ej bN)) (eC r (.slice bs d' bp) (.slice bM ej bN))=true:=by simp[eJ,ks,aK,aH,qK]
 have CU:eJ 8 (eC s (.slice cB eD cN) (.slice ep gA e')) (eC s (.slice cB eD cN) (.slice ep gA e'))=true:=by simp[eJ,ks,bJ,dU,qK]
 refine Fn.b8 (b7 Tryz.func78) rfl rfl fun H=>?_;refine rg ?_;refine gZ fun bc=>?_;refine gZ fun cu=>?_;refine gn fun c9=>?_;refine aa 0xbe08553738 ?_;refine If (fun dZ=>?_) fun dZ=>?_
 ·have yw:r.z=0:=by
   exact pK.1 (jJ.z I)
  have nQ:bn (r.z*s.d+s.z*r.d) (r.d*s.d)=s:=by
   rw[yw,M0 hX yw,xP,LV,h',show s.z*((1:Nat):Int)=s.z from LP _];exact AM cs
  refine aa 0x357c7179 ?_;refine bo ?_;first
   |(rw[nQ];first|exact⟨af.le.refl _,rfl,_,_,rfl,hs⟩|exact⟨af.le.refl _,rfl,_,_,rfl,aq⟩)
 ·have yw:r.z≠0:=fun k=>by have:=jJ.iR (pK.2 k);omega
  refine aa 0x17c10aa6e757 ?_;refine If (fun m4=>?_) fun m4=>?_
  ·have dF:s.z=0:=by
    exact pK.1 (CL.z I)
   have nQ:bn (r.z*s.d+s.z*r.d) (r.d*s.d)=r:=by
    rw[dF,M0 cs dF,xP,Int.add_zero,gJ,show r.z*((1:Nat):Int)=r.z from LP _];exact AM hX
   refine aa 0x357c7179 ?_;refine bo ?_;first
    |(rw[nQ];first|exact⟨af.le.refl _,rfl,_,_,rfl,hs⟩|exact⟨af.le.refl _,rfl,_,_,rfl,aq⟩)
  ·have dF:s.z≠0:=fun k=>by have:=CL.iR (pK.2 k);omega
   have alN:r.z*(v:Int)≠0:=SB yw I;have alV:s.z*(u:Int)≠0:=SB dF I;have aeF:(decide (r.z<0))=decide (r.z*(v:Int)<0):=by
    congr 1;apply propext
    constructor
    ·intro k;exact BC k I
    ·intro k
     rcases vB r.z 0 with j|j
     ·exact j
     ·have:=km j (show(0:Int)<=v by omega);omega
   have aeG:(decide (s.z<0))=decide (s.z*(u:Int)<0):=by
    congr 1;apply propext
    constructor
    ·intro k;exact BC k I
    ·intro k
     rcases vB s.z 0 with j|j
     ·exact j
     ·have:=km j (show(0:Int)<=u by omega);omega
   refine aa 0x5f57 ?_;refine aB.draw rfl (by kernel_rfl) (aX:=[.val 0,.val 2,.bD 1,.ca [2],.bD 3,.bD 4,.val 5]) (by kernel_rfl) ?_;refine aa 0x796b ?_;refine' bh.dV rfl rfl rfl rfl rfl rfl rfl rfl rfl dt (qJ aq tE) ?_;rintro v' m' bi aM ⟨_,rfl,qb⟩;have tA:=qb;obtain⟨fw,jO,gz,rfl,fP,_,_⟩:=qb.cA;refine bh.ca ft ?_;refine' bh.dV rfl rfl rfl rfl rfl rfl rfl rfl rfl (cF (fun _ aF=>jB.hs aM (aq.ET (hs.mono aM) aM rd hU aF) rfl) dt) (qJ (hs.mono aM) yE) ?_;rintro v' m' de a9 ⟨_,rfl,tC⟩;have pi:=tC;obtain⟨fi,gm,eu,rfl,je,_,_⟩:=tC.cA;refine' bh.dV rfl rfl rfl rfl rfl rfl rfl rfl rfl (cF (dh rfl) (cF (dh rfl) dt)) (Lg (tA.mono a9) pi I I) ?_;rintro v' m' fe cq ⟨_,rfl,sb⟩;rw[D.bY] at sb;have n3:=sb;obtain⟨jV,yI,fB,rfl,rq,_,_⟩:=sb.cA;have An:=((aq.mono aM).mono a9).mono cq;have wR:=((hs.mono aM).mono a9).mono cq;refine aa 0xbe05e ?_;refine aB.draw rfl (by kernel_rfl) (aX:=[.val 0,.val 2,.val 4,.val 6,.bD 1,.ca [6,4,2],.bD 3,.ca [6,4],.bD 5,.ca [6],.bD 7,.val 8,.val 9]) (by kernel_rfl) ?_;refine aa 0x1e0ac2b ?_;refine' bh.dV rfl rfl rfl rfl rfl rfl rfl rfl rfl dt (qJ An tE) ?_;rintro v' m' l5 ec ⟨_,rfl,sc⟩;have rh:=sc;obtain⟨jm,oF,fC,rfl,pA,_,_⟩:=sc.cA;refine bh.ca ft ?_;refine' bh.dV rfl rfl rfl rfl rfl rfl rfl rfl rfl (cF (dh rfl) dt) (yZ rh (n3.mono ec) I I Gs) ?_;rintro v' m' qB ga ⟨_,rfl,C0⟩;rw[D.u1] at C0;have sa:=C0;obtain⟨gy,n7,eI,rfl,mO,_,_⟩:=C0.cA;refine bh.ca ft ?_;refine' bh.dV rfl rfl rfl rfl rfl rfl rfl rfl rfl (cF (dh rfl) (cF (fun _ aF=>jB.hs (ec.trans ga) (An.ET ((wR.mono ec).mono ga) (ec.trans ga) rd hU aF) rfl) dt)) (qJ ((wR.mono ec).mono ga) yE) ?_
   rintro v' m' BF h0 ⟨_,rfl,Gf⟩;have Ga:=Gf;obtain⟨kJ,w7,b2,rfl,nr,_,_⟩:=Gf.cA;refine bh.ca ft ?_;refine' bh.dV rfl rfl rfl rfl rfl rfl rfl rfl rfl (cF (dh rfl) (cF (fun _ aF=>jB.hs (ga.trans h0) (b6 (·/ g) (rh.oO Ga (ga.trans h0) (mR aF).1)) rfl) (cF (dh rfl) dt))) (yZ Ga (((n3.mono ec).mono ga).mono h0) I I Gs) ?_;rintro v' m' xQ iQ ⟨_,rfl,CX⟩;rw[D.v1] at CX;have As:=CX;obtain⟨TI,alO,pV,rfl,YT,_,_⟩:=CX.cA;have sa:=(sa.mono h0).mono iQ;have n3:=(((n3.mono ec).mono ga).mono h0).mono iQ;have FY:=(((An.mono ec).mono ga).mono h0).mono iQ;have CP:=(((wR.mono ec).mono ga).mono h0).mono iQ;refine aa 0x17c085e ?_;refine aB.draw rfl (by kernel_rfl) (aX:=[.val 0,.val 1,.val 2,.val 3,.val 4,.val 6,.val 7,.val 8,.val 9,.val 10,.bD 5,.ca [10,9,8,7,6,1,0],.bD 11,.ca [7,6,1,0],.bD 12,.val 13,.val 14,.val 15,.val 16,.val 17]) (by kernel_rfl) ?_;refine aa 0x782a6a9a15354d ?_;refine' bh.dV rfl rfl rfl rfl rfl rfl rfl rfl rfl dt (Ba FY.n As I I) ?_;rintro v' m' vD g9 ⟨_,rfl,Gg⟩;have J4:=Gg;obtain⟨MC,GP,j9,rfl,Rc,_,_⟩:=Gg.cA;refine bh.ca ft ?_;refine' bh.dV rfl rfl rfl rfl rfl rfl rfl rfl rfl (cF (fun _ aF=>jB.hs g9 (by rw[FY.n.oO (CP.mono g9).n g9 (mR aF).1,As.oO (sa.mono g9) g9 (mR aF).2]) rfl) dt) (Ba (CP.mono g9).n (sa.mono g9) I I) ?_;rintro v' m' rE hi ⟨_,rfl,Gh⟩;have J5:=Gh;obtain⟨IK,alP,qM,rfl,YU,_,_⟩:=Gh.cA;refine bh.ca ft ?_;refine' bh.dV rfl rfl rfl rfl rfl rfl rfl rfl rfl (cF (dh rfl) (cF (dh rfl) dt)) (ao8 (dI:=r.z*v) (dB:=s.z*u) aeF aeG (by rw[Wk];exact J4.mono hi) (by rw[Wn];exact J5) alN alV (by rw[Wk];omega) (by rw[Wn];omega)) ?_
   rintro v' m' LW mg ⟨_,rfl,o3,auQ,rfl,CY,F3⟩;rw[<-aJ] at CY F3;have CV:=CY;obtain⟨IL,alQ,dZ,rfl,YV,V1,_⟩:=CY.cA;have n3:=((n3.mono g9).mono hi).mono mg;have sa:=((sa.mono g9).mono hi).mono mg;have ajv:=((CP.mono g9).mono hi).mono mg;refine aa 0x17c10a1ce04239c3e ?_;refine If (fun EF=>?_) fun EF=>?_
   ·have r9:t=0:=by
     exact pK.1 (V1.z I)
    have nQ:bn (r.z*s.d+s.z*r.d) (r.d*s.d)=⟨0,1⟩:=by rw[D.iR r9];exact pr (kp rd hU)
    refine aa 0x357c7219 ?_;refine bo ?_;first
     |(have c:=EF
       first
           |(rw[nQ];exact⟨((((((((aM.trans a9).trans cq).trans ec).trans ga).trans h0).trans iQ).trans g9).trans hi).trans mg,rfl,.slice none 0 0,.slice none 0 0,rfl,cp.nil,cp.nil⟩)
           |exact⟨((((((((((((((aM.trans a9).trans cq).trans ec).trans ga).trans h0).trans iQ).trans g9).trans hi).trans mg).trans p4).trans nX).trans pa).trans JO).trans FI).trans VT,rfl,_,_,Jd D.j3,cg.cast D.j3⟩)
     |(rw[nQ];first|exact⟨af.le.refl _,rfl,_,_,rfl,hs⟩|exact⟨af.le.refl _,rfl,_,_,rfl,aq⟩)
   ·have r9:t≠0:=fun k=>by have:=V1.iR (pK.2 k);omega
    refine aa 0x10e757 ?_;refine br (G:=Lg CV n3 I I) (h:=?_);rintro v' m' abn p4 ⟨_,rfl,CZ⟩;rw[D.ab] at CZ;have Gb:=CZ;obtain⟨BT,alR,dR,rfl,YW,_,_⟩:=CZ.cA;have ajw:=ajv.mono p4;refine aa 0x5f02 ?_;refine aB.draw rfl (by kernel_rfl) (aX:=[.val 0,.val 1,.val 2,.val 4,.val 5,.val 7,.bD 3,.ca [7,5,4,0],.bD 6,.ca [7,4,0],.bD 8,.ca [4,0],.bD 9,.ca [0],.bD 10,.bD 11]) (by kernel_rfl) ?_;refine aa 0x782b08421 ?_;refine' bh.dV rfl rfl rfl rfl rfl rfl rfl rfl rfl dt (yZ (CV.mono p4) Gb I I Gt) ?_;rintro v' m' abo nX ⟨_,rfl,Gi⟩;have J6:=Gi;obtain⟨BU,alS,l8,rfl,YX,_,_⟩:=Gi.cA;refine bh.ca ft ?_;refine' bh.dV rfl rfl rfl rfl rfl rfl rfl rfl rfl (cF (dh rfl) dt) (qJ (ajw.mono nX) yE) ?_;rintro v' m' abp pa ⟨_,rfl,Wz⟩;have Wx:=Wz;obtain⟨acI,alT,EB,rfl,anS,_,_⟩:=Wz.cA;refine bh.ca ft ?_;refine' bh.dV rfl rfl rfl rfl rfl rfl rfl rfl rfl (cF (dh rfl) (cF (fun _ aF=>jB.hs (nX.trans pa) (b6 (·/ h) ((CV.mono p4).oO Wx (nX.trans pa) (mR aF).1)) rfl) dt)) (yZ Wx ((Gb.mono nX).mono pa) I I Gt) ?_;rintro v' m' arX JO ⟨_,rfl,PT⟩;rw[D.bt] at PT;have aj2:=PT;obtain⟨acJ,alU,hW,rfl,anT,_,_⟩:=PT.cA;refine bh.ca ft ?_;refine' bh.dV rfl rfl rfl rfl rfl rfl rfl rfl rfl (cF (dh rfl) (cF (dh rfl) (cF (dh rfl) dt))) (Ba ((((sa.mono p4).mono nX).mono pa).mono JO) aj2 I I) ?_;rintro v' m' arY FI ⟨_,rfl,WA⟩;have Gc:=WA;obtain⟨asl,aui,m4,rfl,auu,_,_⟩:=WA.cA;refine bh.ca ft ?_;refine' bh.dV rfl rfl rfl rfl rfl rfl rfl rfl rfl (cF (dh rfl) (cF (dh rfl) (cF (dh rfl) (cF (dh rfl) dt)))) (Kp (r:=⟨q,u*w⟩) (by rw[D.aK] at J6;exact((J6.mono pa).mono JO).mono FI) Gc (fun _=>by rw[F3 r9];exact lJ.2 D.aH) (fun k=>absurd (D.bJ.2 k) r9) (jl (kp Uk Ul)) (by have:=w8 AE lw;show(aS (u*w)).length<=100000;omega)) ?_
    rintro v' m' arZ VT ⟨_,rfl,en,fR,rfl,b3⟩;have cg:=b3;obtain⟨asm,auj,hM,rfl,auw,_,_⟩:=b3.n.cA;obtain⟨asn,auk,j',rfl,auy,_,_⟩:=b3.d.cA;refine aa 0x1abe39e ?_;refine bo ?_;first
     |(have c:=EF
       first
           |(rw[nQ];exact⟨((((((((aM.trans a9).trans cq).trans ec).trans ga).trans h0).trans iQ).trans g9).trans hi).trans mg,rfl,.slice none 0 0,.slice none 0 0,rfl,cp.nil,cp.nil⟩)
           |exact⟨((((((((((((((aM.trans a9).trans cq).trans ec).trans ga).trans h0).trans iQ).trans g9).trans hi).trans mg).trans p4).trans nX).trans pa).trans JO).trans FI).trans VT,rfl,_,_,Jd D.j3,cg.cast D.j3⟩)
     |(rw[nQ];first|exact⟨af.le.refl _,rfl,_,_,rfl,hs⟩|exact⟨af.le.refl _,rfl,_,_,rfl,aq⟩)
end
theorem alX{p q:Int}(ao:p≠0)(bI:q≠0):decide (¬(decide (p<0)=decide (q<0)))=decide (p*q<0):=by
 rcases vB p 0 with a|a
 ·rcases vB q 0 with b|b
  ·have:=abj a b
   rw[g7 a,g7 b,gL (show ¬p*q<0 by omega)];rfl
  ·have:=BC a (show 0<q by omega)
   rw[g7 a,gL (show ¬q<0 by omega),g7 this];rfl
 ·rcases vB q 0 with b|b
  ·have:=SC (show 0<p by omega) b
   rw[gL (show ¬p<0 by omega),g7 b,g7 this];rfl
  ·have:=km a b
   rw[gL (show ¬p<0 by omega),gL (show ¬q<0 by omega),gL (show ¬p*q<0 by omega)];rfl
section
variable {Q:cZ Tryz.prog}{g0:Nat}{J:af}
theorem alJ{r s:cY}{v1 v2 bt cv:Value}(aq:h8 J r v1 v2)(hs:h8 J s bt cv)(hX:r.h7)(cs:s.h7)(sz:s.z≠0){k j:Nat}(fr:lG k r)(hO:lG j s)(hk:k<=30000)(aY:j<=30000):Fn (aT Q g0) 55 [eC r v1 v2,eC s bt cv] [] J (ur J (bn (r.z*s.z) (r.d*s.d))):=by
 have cx:=aq;have fE:=hs;obtain⟨bs,d',bp,rfl,aK,jJ,h1⟩:=aq.n.cA;obtain⟨bM,ej,bN,rfl,aH,mH,jK⟩:=aq.d.cA;obtain⟨cB,eD,cN,rfl,bJ,CL,An⟩:=hs.n.cA;obtain⟨ep,gA,e',rfl,dU,O9,Ao⟩:=hs.d.cA;have rd:=hX.1;have hU:=cs.1;have Xy:=fr.n;have Xx:=fr.d;have XA:=hO.n;have Xz:=hO.d;have tE:=jl rd;have yE:=jl hU;have F7:eJ 8 (eC r (.slice bs d' bp) (.slice bM ej bN)) (eC r (.slice bs d' bp) (.slice bM ej bN))=true:=by simp[eJ,ks,aK,aH,qK]
 have CU:eJ 8 (eC s (.slice cB eD cN) (.slice ep gA e')) (eC s (.slice cB eD cN) (.slice ep gA e'))=true:=by simp[eJ,ks,bJ,dU,qK]
 refine Fn.b8 (b7 Tryz.func55) rfl rfl fun H=>?_;refine rg ?_;refine gZ fun bc=>?_;refine gZ fun cu=>?_;refine gn fun c9=>?_;refine kr ?_;refine dN [2,3,4] ?_;refine a' ?_;refine' aB.fD 0 [(18,.bool (decide ((d'=0\/eD=0))))] ?kM ?kP;case kM=>
  refine aa 0x242a9ba ?_;refine fs 13 (fun agQ=>?_) fun agQ=>?_
  ·refine aa 0x308def7b ?_;refine dO (dS ?_);first|omega|(simp_all)
  ·refine aa 0x3082154d ?_;refine dO (dS ?_);first|omega|(simp_all)
 case kP=>
  refine a' ?_;refine If (fun hW=>?_) fun hW=>?_
  ·have yw:r.z=0:=by
    rcases hW with k|k
    ·exact pK.1 (jJ.z k)
    ·exact absurd (pK.1 (CL.z k)) sz
   have nQ:bn (r.z*s.z) (r.d*s.d)=⟨0,1⟩:=by rw[yw,xP];exact pr (kp rd hU)
   refine aa 0x357c7219 ?_;refine bo ?_;first
    |(rw[nQ];exact⟨af.le.refl _,rfl,.slice none 0 0,.slice none 0 0,rfl,cp.nil,cp.nil⟩)
    |exact⟨(((((((((((aM.trans a9).trans cq).trans ec).trans ga).trans h0).trans iQ).trans g9).trans hi).trans mg).trans p4).trans nX).trans pa,rfl,_,_,Jd D.j3,cg.cast D.j3⟩
  ·have yw:r.z≠0:=fun k=>hW (.inl (jJ.iR (pK.2 k)));obtain⟨g,h,b,e,p,q,D⟩:=alI hX cs yw sz;have Gs:=jl D.g0;have Gt:=jl D.aN;have akz:=jl D.gi;have akB:=jl D.jX;have atS:=LR.2 D.nq;have atT:=LR.2 D.bJ;have bA:=dA (ki D.yV) fr.n;have ja:=dA (ki D.dU) hO.n;have po:=dA (ki D.bM) fr.d;have le:=dA (ki D.aR) hO.d;have Xm:=dA (ki (show g<=s.d by rw[<-D.bY];exact S9 _ hU)) hO.d;have ak7:=dA (ki (show h<=r.d by rw[<-D.ab];exact S9 _ rd)) fr.d;refine aa 0x5f57 ?_;refine aB.draw rfl (by kernel_rfl) (aX:=[.val 0,.val 1,.val 2,.val 5,.val 6,.val 7,.bD 3,.ca [7,6,5,1,0],.bD 4,.ca [7,6,5],.bD 8,.ca [6,5],.bD 9,.val 10,.val 11]) (by kernel_rfl) ?_;refine aa 0x796a6ad4d ?_;refine' bh.dV rfl rfl rfl rfl rfl rfl rfl rfl rfl dt (qJ fE yE) ?_;rintro v' m' bi aM ⟨_,rfl,qb⟩;have tA:=qb;obtain⟨fw,jO,gz,rfl,fP,_,_⟩:=qb.cA;refine bh.ca ft ?_;refine' bh.dV rfl rfl rfl rfl rfl rfl rfl rfl rfl (cF (dh rfl) dt) (Lg (cx.mono aM).n tA I I) ?_;rintro v' m' de a9 ⟨_,rfl,tC⟩;have pi:=tC;obtain⟨fi,gm,eu,rfl,je,_,_⟩:=tC.cA;refine bh.ca ft ?_;refine' bh.dV rfl rfl rfl rfl rfl rfl rfl rfl rfl (cF (dh rfl) (cF (fun _ aF=>jB.hs (aM.trans a9) (fE.ET ((cx.mono aM).mono a9) (aM.trans a9) hU rd aF) rfl) dt)) (qJ ((cx.mono aM).mono a9) tE) ?_;rintro v' m' fe cq ⟨_,rfl,sb⟩;have n3:=sb;obtain⟨jV,yI,fB,rfl,rq,_,_⟩:=sb.cA;refine bh.ca ft ?_;refine' bh.dV rfl rfl rfl rfl rfl rfl rfl rfl rfl (cF (dh rfl) (cF (fun _ aF=>jB.hs (a9.trans cq) (by rw[(cx.mono aM).n.oO (((fE.mono aM).mono a9).mono cq).n (a9.trans cq) (mR aF).1,tA.oO n3 (a9.trans cq) (mR aF).2]) rfl) (cF (dh rfl) dt))) (Lg (((fE.mono aM).mono a9).mono cq).n n3 I I) ?_
   rintro v' m' l5 ec ⟨_,rfl,sc⟩;rw[D.ab] at sc;have rh:=sc;obtain⟨jm,oF,fC,rfl,pA,_,_⟩:=sc.cA;rw[D.bY] at pi;have pi:=(pi.mono cq).mono ec;have Ao:=(((cx.mono aM).mono a9).mono cq).mono ec;have r7:=(((fE.mono aM).mono a9).mono cq).mono ec;refine aa 0x17c085e ?_;refine aB.draw rfl (by kernel_rfl) (aX:=[.val 0,.val 1,.val 2,.val 4,.val 5,.val 6,.bD 3,.ca [6,5,4],.bD 7,.bD 8,.val 9]) (by kernel_rfl) ?_;refine aa 0x782a6854d ?_;refine' bh.dV rfl rfl rfl rfl rfl rfl rfl rfl rfl dt (yZ Ao.n pi I I Gs) ?_;rintro v' m' qB ga ⟨_,rfl,C0⟩;have sa:=C0;obtain⟨gy,n7,eI,rfl,mO,_,_⟩:=C0.cA;refine bh.ca ft ?_;refine' bh.dV rfl rfl rfl rfl rfl rfl rfl rfl rfl (cF (fun _ aF=>jB.hs ga (by rw[Ao.n.oO (r7.mono ga).n ga (mR aF).1,pi.oO (rh.mono ga) ga (mR aF).2]) rfl) dt) (yZ (r7.mono ga).n (rh.mono ga) I I Gt) ?_;rintro v' m' BF h0 ⟨_,rfl,Gf⟩;have Ga:=Gf;obtain⟨kJ,w7,b2,rfl,nr,_,_⟩:=Gf.cA;rw[D.cP] at sa;rw[D.aK] at Ga;refine' bh.dV rfl rfl rfl rfl rfl rfl rfl rfl rfl (cF (dh rfl) (cF (dh rfl) dt)) (Ba (sa.mono h0) Ga I I) ?_;rintro v' m' xQ iQ ⟨_,rfl,CX⟩;have As:=CX;obtain⟨TI,alO,pV,rfl,YT,_,_⟩:=CX.cA;have FY:=((Ao.mono ga).mono h0).mono iQ;have CP:=((r7.mono ga).mono h0).mono iQ;have pi:=((pi.mono ga).mono h0).mono iQ;have rh:=((rh.mono ga).mono h0).mono iQ;refine aa 0xbe05e ?_;refine aB.draw rfl (by kernel_rfl) (aX:=[.val 0,.val 2,.val 4,.val 6,.bD 1,.ca [6,4,2],.bD 3,.ca [6,4],.bD 5,.ca [6],.bD 7,.bD 8,.val 9]) (by kernel_rfl) ?_;refine aa 0x1e0ac2b ?_;refine' bh.dV rfl rfl rfl rfl rfl rfl rfl rfl rfl dt (qJ FY tE) ?_
   rintro v' m' vD g9 ⟨_,rfl,Gg⟩;have J4:=Gg;obtain⟨MC,GP,j9,rfl,Rc,_,_⟩:=Gg.cA;refine bh.ca ft ?_;refine' bh.dV rfl rfl rfl rfl rfl rfl rfl rfl rfl (cF (dh rfl) dt) (yZ J4 (rh.mono g9) I I Gt) ?_;rintro v' m' rE hi ⟨_,rfl,Gh⟩;have J5:=Gh;obtain⟨IK,alP,qM,rfl,YU,_,_⟩:=Gh.cA;refine bh.ca ft ?_;refine' bh.dV rfl rfl rfl rfl rfl rfl rfl rfl rfl (cF (dh rfl) (cF (fun _ aF=>jB.hs (g9.trans hi) (FY.ET ((CP.mono g9).mono hi) (g9.trans hi) rd hU aF) rfl) dt)) (qJ ((CP.mono g9).mono hi) yE) ?_;rintro v' m' LW mg ⟨_,rfl,CY⟩;have CV:=CY;obtain⟨IL,alQ,dZ,rfl,YV,_,_⟩:=CY.cA;refine bh.ca ft ?_;refine' bh.dV rfl rfl rfl rfl rfl rfl rfl rfl rfl (cF (dh rfl) (cF (fun _ aF=>jB.hs (hi.trans mg) (by rw[J4.oO CV (hi.trans mg) (mR aF).1,(rh.mono g9).oO (((pi.mono g9).mono hi).mono mg) (hi.trans mg) (mR aF).2]) rfl) (cF (dh rfl) dt))) (yZ CV (((pi.mono g9).mono hi).mono mg) I I Gs) ?_;rintro v' m' abn p4 ⟨_,rfl,CZ⟩;have Gb:=CZ;obtain⟨BT,alR,dR,rfl,YW,_,_⟩:=CZ.cA;rw[D.bs] at J5;rw[D.aw] at Gb;refine' bh.dV rfl rfl rfl rfl rfl rfl rfl rfl rfl (cF (dh rfl) (cF (dh rfl) (cF (dh rfl) (cF (dh rfl) dt)))) (Ba ((J5.mono mg).mono p4) Gb I I) ?_;rintro v' m' abo nX ⟨_,rfl,Gi⟩;have J6:=Gi;obtain⟨BU,alS,l8,rfl,YX,_,_⟩:=Gi.cA;have As:=((((As.mono g9).mono hi).mono mg).mono p4).mono nX;refine aa 0x5354dce05e ?_;refine' W.step rfl (Exec.val rfl rfl (xB rfl rfl rfl (.inr ⟨rfl,rfl⟩) (by kernel_rfl)) ?_);refine aa 0x21 ?_;refine br (G:=Kp (r:=⟨p*q,b*e⟩) (by rw[<-l4] at As;exact As) J6 (fun _=>by rw[lJ.2 D.gW,lJ.2 D.aH];exact alX D.nq D.bJ) (fun k=>absurd k (SB D.nq D.bJ)) (Nat.mul_ne_zero akz akB) (by have:=w8 po le;show(aS (b*e)).length<=100000;omega)) (h:=?_)
   rintro v' m' abp pa ⟨_,rfl,en,fR,rfl,b3⟩;have cg:=b3;obtain⟨acI,alT,EB,rfl,anS,_,_⟩:=b3.n.cA;obtain⟨acJ,alU,ast,rfl,anT,_,_⟩:=b3.d.cA;refine aa 0xd5f1c ?_;refine bo ?_;first
    |(rw[nQ];exact⟨af.le.refl _,rfl,.slice none 0 0,.slice none 0 0,rfl,cp.nil,cp.nil⟩)
    |exact⟨(((((((((((aM.trans a9).trans cq).trans ec).trans ga).trans h0).trans iQ).trans g9).trans hi).trans mg).trans p4).trans nX).trans pa,rfl,_,_,Jd D.j3,cg.cast D.j3⟩
theorem alv{n:Nat}(aN:n≠0)(az:n<9223372036854775808):Fn (aT Q g0) 84 [.int .i64 (n:Int)] [] J (jB J n):=by
 refine Fn.b8 (b7 Tryz.func84) rfl rfl fun H=>?_;refine aa 0xbe081ce059 ?_;refine If (fun e'=>?_) fun e'=>?_
 ·exfalso;omega
 ·refine aa 0x5f040e757 ?_;refine If (fun eu=>?_) fun eu=>?_
  ·exfalso;omega
  ·refine aa 0xe0e757 ?_;refine lj fun ar6=>?_;refine aa 0x302 ?_;refine aB.hy rfl fun a9=>?_;refine aa 0x357 ?_;refine bo ?_;exact⟨a9,rfl,cp.row (n:=1) (l:=[n]) (by rw[sC aN I];rfl) (by simp) (by simp) bm (af.gC _ _ _)⟩
theorem WR{n:Nat}(aN:n≠0)(az:n<9223372036854775808):Fn (aT Q g0) 56 [.int .i64 (n:Int)] [] J (ur J ⟨(n:Int),1⟩):=by
 refine Fn.b8 (b7 Tryz.func56) rfl rfl fun H=>?_;refine rg ?_;refine gn fun bc=>?_;refine aa 0x120738 ?_;refine br (G:=alv aN az) (h:=?_);rintro v' m' bi aM ⟨_,rfl,qb⟩;have tA:=qb;obtain⟨fw,jO,gz,rfl,fP,_,_⟩:=qb.cA;refine aa 0x1abe390 ?_;refine bo ?_;exact⟨aM,rfl,_,.slice none 0 0,rfl,tA,cp.nil⟩
theorem ZQ{r:cY}{v1 v2:Value}(h:h8 J r v1 v2)(aG:0<r.z):Fn (aT Q g0) 94 [eC r v1 v2] [] J (fun u m' ae=>u=.int .i64 1/\m'=[]/\J.le ae):=by
 obtain⟨bs,d',bp,rfl,aK,jJ,h1⟩:=h.n.cA;obtain⟨bM,ej,bN,rfl,aH,mH,jK⟩:=h.d.cA;refine Fn.b8 (b7 Tryz.func94) rfl rfl fun H=>?_;refine rg ?_;refine gZ fun a7=>?_;refine aa 0x17c10aa6e702 ?_;refine If (fun eu=>?_) fun eu=>?_
 ·exfalso;have:=pK.1 (jJ.z I);omega
 ·refine aa 0x5f0a6e757 ?_;refine If (fun fC=>?_) fun fC=>?_
  ·exfalso;omega
  ·refine aa 0x6af816757 ?_;refine bo ?_;exact⟨rfl,rfl,af.le.refl _⟩
theorem ad8{r s:cY}{v1 v2 bt cv:Value}(aq:h8 J r v1 v2)(hs:h8 J s bt cv)(hX:r.h7)(cs:s.h7)(xr:0<r.z)(sz:0<s.z){k j:Nat}(fr:lG k r)(hO:lG j s)(hk:k<=30000)(aY:j<=30000):Fn (aT Q g0) 60 [eC r v1 v2,eC s bt cv] [] J (fun u m' ae=>u=.int .i64 (iN (r.z.natAbs*s.d) (s.z.natAbs*r.d))/\m'=[]/\J.le ae):=by
 have cx:=aq;have fE:=hs;obtain⟨bs,d',bp,rfl,aK,jJ,h1⟩:=aq.n.cA;obtain⟨bM,ej,bN,rfl,aH,mH,jK⟩:=aq.d.cA;obtain⟨cB,eD,cN,rfl,bJ,CL,An⟩:=hs.n.cA;obtain⟨ep,gA,e',rfl,dU,O9,Ao⟩:=hs.d.cA;have rd:=hX.1;have hU:=cs.1;have tE:=jl rd;have yE:=jl hU;have Xy:=fr.n;have Xx:=fr.d;have XA:=hO.n;have Xz:=hO.d;have at3:=w8 fr.n hO.d;have at4:=w8 hO.n fr.d;have atU:=LR.2 (show r.z≠0 by omega);have atV:=LR.2 (show s.z≠0 by omega);have F7:eJ 8 (eC r (.slice bs d' bp) (.slice bM ej bN)) (eC r (.slice bs d' bp) (.slice bM ej bN))=true:=by simp[eJ,ks,aK,aH,qK]
 have CU:eJ 8 (eC s (.slice cB eD cN) (.slice ep gA e')) (eC s (.slice cB eD cN) (.slice ep gA e'))=true:=by simp[eJ,ks,bJ,dU,qK]
 refine Fn.b8 (b7 Tryz.func60) rfl rfl fun H=>?_;refine rg ?_;refine gZ fun bc=>?_;refine gZ fun cu=>?_;refine aa 0x5f02 ?_;refine aB.draw rfl (by kernel_rfl) (aX:=[.val 0,.val 2,.bD 1,.ca [2],.bD 3,.val 4,.val 5]) (by kernel_rfl) ?_;refine aa 0x796b ?_;refine' bh.dV rfl rfl rfl rfl rfl rfl rfl rfl rfl dt (ZQ cx xr) ?_;rintro v' m' abq r4 ⟨rfl,rfl,_⟩;refine bh.ca ft ?_;refine' bh.dV rfl rfl rfl rfl rfl rfl rfl rfl rfl (cF (fun _ _=>⟨rfl,r4,fun v m' bi de ⟨a,b,c⟩ ab ad=>⟨a,b,ad⟩⟩) dt) (ZQ (fE.mono r4) sz) ?_;rintro v' m' abr uV ⟨rfl,rfl,_⟩;have cx:=(cx.mono r4).mono uV;have fE:=(fE.mono r4).mono uV;refine aa 0x120439c085e ?_;refine fs 15 (fun Co=>?_) fun Co=>?_
 ·exfalso;exact Co rfl
 ·refine aa 0x17c2081 ?_;refine If (fun hW=>?_) fun hW=>?_
  ·exfalso;simp at hW
  ·refine aa 0x5f57 ?_;refine aB.draw rfl (by kernel_rfl) (aX:=[.val 0,.val 1,.val 2,.val 5,.val 6,.val 7,.bD 3,.ca [7,6,5,1,0],.bD 4,.ca [7,6,5],.bD 8,.ca [6,5],.bD 9,.bD 10,.val 11]) (by kernel_rfl) ?_;refine aa 0x796a6ad4d ?_;refine' bh.dV rfl rfl rfl rfl rfl rfl rfl rfl rfl dt (qJ fE yE) ?_;rintro v' m' bi aM ⟨_,rfl,qb⟩;have tA:=qb;obtain⟨fw,jO,gz,rfl,fP,_,_⟩:=qb.cA;refine bh.ca ft ?_;refine' bh.dV rfl rfl rfl rfl rfl rfl rfl rfl rfl (cF (dh rfl) dt) (Ba (cx.mono aM).n tA I I) ?_;rintro v' m' de a9 ⟨_,rfl,tC⟩;have pi:=tC;obtain⟨fi,gm,eu,rfl,je,_,_⟩:=tC.cA;refine bh.ca ft ?_;refine' bh.dV rfl rfl rfl rfl rfl rfl rfl rfl rfl (cF (dh rfl) (cF (fun _ aF=>jB.hs (aM.trans a9) (fE.ET ((cx.mono aM).mono a9) (aM.trans a9) hU rd aF) rfl) dt)) (qJ ((cx.mono aM).mono a9) tE) ?_;rintro v' m' fe cq ⟨_,rfl,sb⟩;have n3:=sb;obtain⟨jV,yI,fB,rfl,rq,_,_⟩:=sb.cA;refine bh.ca ft ?_;refine' bh.dV rfl rfl rfl rfl rfl rfl rfl rfl rfl (cF (dh rfl) (cF (fun _ aF=>jB.hs (a9.trans cq) (by rw[(cx.mono aM).n.oO (((fE.mono aM).mono a9).mono cq).n (a9.trans cq) (mR aF).1,tA.oO n3 (a9.trans cq) (mR aF).2]) rfl) (cF (dh rfl) dt))) (Ba (((fE.mono aM).mono a9).mono cq).n n3 I I) ?_;rintro v' m' l5 ec ⟨_,rfl,sc⟩;have rh:=sc;obtain⟨jm,oF,fC,rfl,pA,_,_⟩:=sc.cA;refine' bh.dV rfl rfl rfl rfl rfl rfl rfl rfl rfl (cF (dh rfl) (cF (dh rfl) (cF (dh rfl) (cF (dh rfl) dt)))) (EO ((pi.mono cq).mono ec) rh I I) ?_;rintro v' m' ae hle ⟨rfl,rfl,rfl⟩;refine aa 0xbe14dce05e ?_;refine If (fun ED=>?_) fun ED=>?_
   ·exfalso;omega
   ·refine aa 0xd5f020e757 ?_;refine bo ?_;exact⟨rfl,rfl,((((r4.trans uV).trans aM).trans a9).trans cq).trans ec⟩
end
end
end Go.Opn
namespace Go.Opn
noncomputable section
theorem arh{l:List Nat}(bu:okW l)(h:l.length<=(aS (a3 l)).length):l=aS (a3 l):=by
 refine I2 ⟨bu,fun x U aN=>?_⟩;subst aN;rcases List.eq_nil_or_concat l with rfl|⟨l',y,rfl⟩
 ·cases U
 ·rw[List.concat_eq_append] at U bu h;rw[SQ,SR] at U;injection U with U
  subst U;rw[Bn,jk,ik,eY,zl] at h;have ab:=ry (l:=l') (fun z aG=>bu z (og _ aG));have:=aaV ab;omega
theorem arj{l:List Nat}{c:Nat}(bu:okW l)(aN:c≠0)(aD:c<18446744073709551616):l++[c]=aS (a3 l+18446744073709551616 ^ l.length*c):=by
 rw[<-Bn];refine I2 ⟨KR bu fun z aG=>by rw[zn.1 aG];exact aD,fun x U=>?_⟩;rw[SQ,SR] at U;injection U with U
 rw[<-U];exact aN
theorem ari{x y:Nat}(h:x<=y):(aS x).length<=(aS y).length:=by
 apply qF
 intro q;have:=DO q;omega
theorem agx{D w:List Nat}{j c a P:Nat}(al:D.length=j)(aF:w[j]?=some a)(h:a3 D+18446744073709551616 ^ j*c=1000000000*a3 (w.take j)+P):
 a3 (D++[(a*1000000000+c) % 18446744073709551616])+18446744073709551616 ^ (j+1)*((a*1000000000+c) / 18446744073709551616)=1000000000*a3 (w.take (j+1))+P:=by
 rw[Bn,al,kC aF,cH];have e:18446744073709551616 ^ j*(a*1000000000+c)=18446744073709551616 ^ j*((a*1000000000+c) % 18446744073709551616)+18446744073709551616 ^ (j+1)*((a*1000000000+c) / 18446744073709551616):=by
  conv=>lhs;rw[<-xS (a*1000000000+c) 18446744073709551616]
  rw[cH,ff,e4]
 rw[cH] at e;have aR:1000000000*(18446744073709551616 ^ j*a)=18446744073709551616 ^ j*(a*1000000000):=by
  rw[rJ,dp 1000000000 a]
 omega
theorem agv{D:List Nat}{X c P n:Nat}(al:D.length=n)(az:n=(aS X).length)(bu:okW D)(aD:c<18446744073709551616)(h:a3 D+18446744073709551616 ^ n*c=1000000000*X+P):
 (c=0->D=aS (P+1000000000*X))/\(c≠0->D++[c]=aS (P+1000000000*X)):=by
 refine⟨fun aN=>?_,fun aN=>?_⟩
 ·rw[aN,jk,ik] at h;have e:a3 D=P+1000000000*X:=by omega
  rw[<-e];refine arh bu ?_;rw[al,az,e];exact ari (by omega)
 ·rw[arj bu aN aD,al,h,S5]
theorem ala{x k:Nat}(h:x<1000000000 ^ k):(ag x).length<=k:=by
 apply qF
 intro q;have dQ:ag x≠[]:=fun e=>by rw[e] at q;exact Ee _ q
 have ab:=RV (zI x) dQ;rw[e1] at ab;have:1000000000 ^ k<=1000000000 ^ ((ag x).length -1):=nE (by decide) (by omega);omega
end
end Go.Opn
namespace Go.Opn
noncomputable section
open Go.Cre Go.RowKit Go.Proofs
def cD(J:af)(v:Value)(x:Nat):Prop:=cJ .u32 J v (ag x)
theorem cD.mono{J ae:af}(hle:J.le ae){v:Value}{x:Nat}(h:cD J v x):cD ae v x:=cJ.mono hle h
theorem cD.bQ{J:af}{v:Value}{x:Nat}(h:cD J v x):∃b c,v=.slice b (ag x).length c/\addrEq b b=true:=by
 have h:cJ .u32 J v (ag x):=h;obtain⟨b,c,rfl⟩:=h.form;exact⟨b,c,rfl,h.addr⟩
theorem cD.cA{J:af}{v:Value}{x:Nat}(h:cD J v x):∃b n c,v=.slice b n c/\addrEq b b=true:=by
 obtain⟨b,c,ab,ad⟩:=h.bQ;exact⟨b,_,c,ab,ad⟩
theorem cD.oO{J ae:af}{v w:Value}{x y:Nat}(h:cD J v x)(gO:cD ae w y)(hle:J.le ae)(e:v=w):x=y:=by
 subst e;have:=b6 aI (cJ.Bf h gO hle);rwa [e1,e1] at this
theorem rz:iR []:=fun a c e r z h=>by cases h
theorem rl:tH []:=fun a c e h=>by cases h
theorem Acc.ami{w:Value}{t k:Nat}{cells:List Value}{a8:aO}(h:Acc t 1 w k cells a8)(aG:iR a8)(az:tH a8)(ab:k≠0):∃a r,w=.slice (some ⟨a,0,none⟩) k cG/\a8=[(a,.opn cells t r 0)]:=by
 cases h with
 |nil=>exact absurd rfl ab
 |jF a=>exact absurd rfl ab
 |@opn a k cells rest z ap eG=>
  have:z=0:=aG _ _ _ _ _ (.head _);subst this;exact⟨a,rest,rfl,rfl⟩
 |cap=>exact absurd (List.Mem.head _) (az _ _ _)
abbrev Hq(k:IntKind)(t a:Nat)(l:List Nat)(r:List Nat):Nat×dw:=(a,.opn (bW k l) t r 0)
structure sW (w:Value) (l:List Nat) (a8:aO):Prop where
 acc:Acc 120 1 w l.length (bW .u64 l) a8
 z:iR a8
 n:tH a8
theorem sW.nil:sW (.slice none 0 0) [] []:=⟨.nil,rz,rl⟩
theorem aoN{k:IntKind}{t a:Nat}{l r:List Nat}:iR [Hq k t a l r]:=fun bO c e ch z h=>by
 rcases fU.1 h with h|h
 ·injection h with _ h;injection h
 ·cases h
theorem aoM{k:IntKind}{t a:Nat}{l r:List Nat}:tH [Hq k t a l r]:=fun bO c e h=>by
 rcases fU.1 h with h|h
 ·injection h with _ h;cases h
 ·cases h
theorem sW.row{a:Nat}{l r:List Nat}{n:Nat}(az:l.length=n):sW (.slice (some ⟨a,0,none⟩) n cG) l [Hq .u64 120 a l r]:=by
 subst az;exact⟨.opn (by rw[qj,gJ]) (df _),aoN,aoM⟩
theorem sW.form{w:Value}{l:List Nat}{a8:aO}(h:sW w l a8):∃b c,w=.slice b l.length c/\addrEq b b=true:=h.acc.tc
theorem sW.at{b:Option Addr}{n c:Nat}{l:List Nat}{a8:aO}(h:sW (.slice b n c) l a8)(aN:l.length≠0):∃a r,b=some ⟨a,0,none⟩/\c=cG/\a8=[Hq .u64 120 a l r]:=by
 obtain⟨a,r,e,hm⟩:=h.acc.ami h.z h.n aN;injection e with aw aR cf
 exact⟨a,r,aw,cf,hm⟩
section
variable {Q:cZ Tryz.prog}{g0:Nat}{J:af}
theorem UM{v:Value}{x:Nat}(h:cD J v x)(hb:(ag x).length<=100000):Fn (aT Q g0) 145 [v] [] J (jB J x):=by
 have aN:=h;obtain⟨b,o5,rfl,ly⟩:=h.bQ;refine Fn.b8 (b7 Tryz.func145) rfl rfl fun H=>?_;refine aa 0x357c08650e702ce059 ?_;refine c8 [(4,.int .i64 ((((ag x).length):Int) -1)),(3,(.slice none 0 0)),(0,_)] ?_;refine a' ?_;refine' aB.bA (fun(bE:Nat×Value×aO)=>match bE with|(k,w,a8)=>⟨[(4,.int .i64 ((k:Int) -1)),(3,w)],a8,J,k<=(ag x).length/\sW w (aS (aI ((ag x).drop k))) a8,k⟩) ⟨(ag x).length,.slice none 0 0,[]⟩ ?hs ?bb
 case hs=>exact⟨bF _,by rw[oW (bF _),show aI []=0 from rfl,sD];exact .nil⟩
 case bb=>
  rintro⟨k,w,a8⟩ hinv;try simp only at hinv
  obtain⟨hk,gE⟩:=hinv;obtain⟨MK,Nb,rfl,auA⟩:=gE.form;refine aa 0x17c1039 ?_;refine If (fun dZ=>?_) fun dZ=>?_
  ·obtain⟨sZ,er,nL,ex,rfl,th,kx⟩:=cJ.at (k:=.u32) (l:=ag x) aN I;obtain⟨p,ao,yM⟩:=kx (k -1) I;have bA:=pv (hx x) ao;have yM:nth nL (er+((k:Int) -1).toNat*1)=some (.int .u32 (p:Int)):=by rw[show((k:Int) -1).toNat=k -1 by omega];exact yM
   obtain⟨X,dr⟩:∃X,X=aI ((ag x).drop k):=⟨_,rfl⟩;have Vk:aI ((ag x).drop (k -1))=p+1000000000*X:=by
    rw[drop_cons ao,show k -1+1=k by omega,dr];rfl
   rw[<-dr] at gE ⊢;have wz:(aS X).length<=(ag x).length:=by
    refine GQ ?_;have ab:=lB (KP (i:=k) (hx x));rw[<-dr] at ab;refine hA ab (dA (Nat.pow_le_pow_left bm _) (nE bm (by rw[ld];omega)))
   refine aa 0x6af809439c09c930439d5f57 ?_;refine c8 [(24,.int .i64 ((0):Int)),(5,.int .u64 ((p):Int)),(0,_),(3,_),(4,_),(23,_)] ?_;refine a' ?_;refine' aB.bA (fun(bE:Nat×Nat×(List Nat)×aO)=>match bE with|(j,c,D,Di)=>⟨[(24,.int .i64 (j:Int)),(5,.int .u64 (c:Int))],Di,J,j<=(aS X).length/\c<18446744073709551616/\D.length=j/\okW D/\a3 D+18446744073709551616 ^ j*c=1000000000*a3 ((aS X).take j)+p/\sW (.slice MK (aS X).length Nb) (D++(aS X).drop j) Di,(aS X).length -j⟩) ⟨0,p,[],a8⟩ ?hs ?bb
   case hs=>exact⟨df _,I,rfl,QW,by rw[fq,zu,h'];rfl,by rw[kE,g5];exact gE⟩
   case bb=>
    rintro⟨j,c,D,Di⟩ hinv;try simp only at hinv
    obtain⟨aY,aD,cK,bu,ar,Cv⟩:=hinv;refine aa 0xbe099 ?_;refine If (fun qN=>?_) fun qN=>?_
    ·obtain⟨a,aF,jt⟩:=A3 (oH X) (i:=j) I;obtain⟨kt,bB,rfl,rfl,rfl⟩:=Cv.at (by rw[eY,ld];omega);have X2:nth (bW .u64 (D++(aS X).drop j)) (0+(j:Int).toNat*1)=some (.int .u64 (a:Int)):=by
        have:=Dk (A:=[]) (C:=[]) cK (bF _) aF (off:=0+(j:Int).toNat*1) (by show 0+(j:Int).toNat*1=0+j;omega);rwa [ij,kE] at this
     have aoP:∀y:Nat,gf (0+(j:Int).toNat*1) (bW .u64 (D++(aS X).drop j)) [.int .u64 (y:Int)]=some (bW .u64 ((D++[y])++(aS X).drop (j+1))):=fun y=>by
        have:=Hs (A:=[]) (C:=[]) (y:=y) cK (show j<(aS X).length by omega) (off:=0+(j:Int).toNat*1) (by show 0+(j:Int).toNat*1=0+j;omega);rwa [ij,kE,ij,kE] at this
     obtain⟨P,cw⟩:∃P,P=a*1000000000:=⟨_,rfl⟩;have rY:P<=18446744073709551615*1000000000:=by rw[cw];exact eK _ I
     refine aa 0x930439c0839d5f57 ?_;refine br (G:=Dj (y:=1000000000) jt bm) (h:=?_);rintro v' m' ae hle ⟨rfl,rfl,rfl⟩;rw[<-cw];refine aa 0x21087381670211ce1 ?_;refine br (G:=vO (c:=0) I) (h:=?_);rintro v' m' ae hle ⟨rfl,rfl,rfl⟩;rw[show(P % 18446744073709551616+c+0) % 18446744073709551616=(P+c) % 18446744073709551616 by omega,cw];refine aa 0x31ce1 ?_;refine' W.step rfl (.of (LD rfl rfl rfl rfl (tT rfl) rfl rfl rfl ?ab ?hs ?aG ?ao ?_));case ao=>exact .refl _
     case hs=>exact aoP _
     case ab=>first|rfl|assumption
     case aG=>exact df _
     refine aa 0x610e702 ?_;rw[show((a*1000000000 / 18446744073709551616:Nat):Int)+(((a*1000000000 % 18446744073709551616+c+0) / 18446744073709551616:Nat):Int)=(((a*1000000000+c) / 18446744073709551616:Nat):Int) by omega];refine aa 0x3011e702 ?_;refine eH ⟨j+1,(a*1000000000+c) / 18446744073709551616,D++[(a*1000000000+c) % 18446744073709551616],[Hq .u64 120 kt ((D++[(a*1000000000+c) % 18446744073709551616])++(aS X).drop (j+1)) []]⟩ ?_;exact⟨I,I,w3 cK,G4 bu (fz _ bm),agx cK aF ar,.row (by rw[eY,w3 cK,ld];omega)⟩
    ·obtain rfl:j=(aS X).length:=I
     rw[cM (bF _),hr] at ar;rw[oW (bF _),ij] at Cv;obtain⟨f1,f2⟩:=agv cK rfl bu aD ar;rw[<-Vk] at f1 f2;refine aa 0x3040e757 ?_;refine dN [3,5,49,0,4] ?_;refine a' ?_;refine' aB.lk 3 (fun(bE:(Value)×(aO))=>match bE with|(cv,yG)=>⟨[(3,cv)],yG,J,sW cv (aS (aI ((ag x).drop (k -1)))) yG⟩) ?adU ?ae5
     case adU=>
      refine If (fun adi=>?_) fun adi=>?_
      ·
        refine aa 0x439 ?_;refine lj fun asc=>?_;refine' W.step rfl (.of (t' rfl rfl rfl rfl rfl rfl (eB rfl) (aqs Q g0) (fun i q=>by cases q) ?ev ?hm ?U ?dE ?dQ ?ap fun are alE ah4 WH=>?_));case ev=>exact(show Acc 120 1 (.slice MK (aS X).length Nb) (aS X).length (bW .u64 D) Di from cK▸Cv.acc)
        case hm=>exact(vH _ Di).symm
        case U=>exact nG.own (cells:=bW .u64 [c]) (.head _) rfl
        case dE=>exact rfl
        case dQ=>exact Dl _
        case ap=>exact(show(aS X).length+1<=1000000 by omega)
        refine aa 0x302 ?_;refine fW ⟨are,alE⟩ ?_ (hm:=⟨_,.refl _⟩);try dsimp only
        rw[<-f2 I];exact⟨by rw[AO,eY,cK];exact ah4,WH.1 Cv.z,WH.2 Cv.n⟩
      ·
        refine jg ?_;refine fW ⟨.slice MK (aS X).length Nb,Di⟩ ?_;try dsimp only
        rw[<-f1 I];exact Cv
     case ae5=>
      rintro⟨cv,yG⟩ hinv;try simp only at hinv
      refine aa 0x1810c39 ?_;refine eH ⟨k -1,cv,yG⟩ ?_;exact⟨I,hinv⟩
  ·obtain rfl:k=0:=I
   rw[g5,e1] at gE ⊢;refine aa 0x357 ?_;refine gE.acc.mo (by rw[ij]) fun bi aM uZ=>?_;refine aa 0x357c0839 ?_;refine bo ?_;exact⟨aM,rfl,120,uZ⟩
end
section
variable {Q:cZ Tryz.prog}{g0:Nat}{J:af}
end
def g4{α:Type}(sz:Nat)(R:Nat->α->List Value->Prop)(cells:List Value)(xs:List α):Prop:=cells.length=xs.length*sz/\∀i x,xs[i]?=some x->R i x ((cells.drop (i*sz)).take sz)
theorem g4.at{α:Type}{sz:Nat}{R:Nat->α->List Value->Prop}{cells full:List Value}{xs:List α}(h:g4 sz R cells xs)(aA:full.take (xs.length*sz)=cells){i:Nat}(ak:i<xs.length):∃x cs,xs[i]?=some x/\takeN sz (nP (0+i*sz) full)=some cs/\(∀k v,k<sz->nth cs k=some v->nth full (0+i*sz+k)=some v)/\R i x cs:=by
 have ab:=h.2 i _ (dX ak);have hs:i*sz+sz<=xs.length*sz:=by rw[<-oZ];exact eK _ ak
 have ap:xs.length*sz<=full.length:=by
  have:=h.1;rw[<-aA,dY] at this;omega
 refine⟨_,_,dX ak,?_,fun k v hk ar=>?_,ab⟩
 ·rw[kH,v9,xx (by rw[ld];omega),<-aA,Ie,sP,fV I]
 ·rw[kA,iH,a2 hk,oX,<-aA,iH,a2 I] at ar
  rw[kA,kH];exact ar
theorem g4.app{α:Type}{sz:Nat}{R:Nat->α->List Value->Prop}{cells new:List Value}{xs:List α}{x:α}(h:g4 sz R cells xs)(U:R xs.length x new)(az:new.length=sz):g4 sz R (cells++new) (xs++[x]):=by
 refine⟨by rw[eY,eY,h.1,az,zl,cR,h'],fun i y au=>?_⟩;by_cases q:i<xs.length
 ·rw[D4 q] at au
  have hs:i*sz+sz<=xs.length*sz:=by rw[<-oZ];exact eK _ q
  rw[abv (by rw[h.1];omega),List.take_append_of_le_length (by rw[ld,h.1];omega)];exact h.2 i y au
 ·rw[D5 I] at au
  have aN:i=xs.length:=by
   have:=(gS.1 au).1;rw[zl] at this;omega
  subst aN;rw[sR] at au;injection au with au;subst au
  rw[List.drop_left' (by rw[h.1]),cM I];exact U
theorem g4.mono{α:Type}{sz:Nat}{R R':Nat->α->List Value->Prop}{cells:List Value}{xs:List α}(h:g4 sz R cells xs)(dq:∀i x cs,R i x cs->R' i x cs):g4 sz R' cells xs:=⟨h.1,fun i x U=>dq _ _ _ (h.2 i x U)⟩
structure kI (J:af) (r:cY) (v1 v2:Value):Prop where
 n:cD J v1 r.z.natAbs
 d:cD J v2 r.d
theorem kI.mono{J ae:af}(hle:J.le ae){r:cY}{v1 v2:Value}(h:kI J r v1 v2):kI ae r v1 v2:=⟨h.n.mono hle,h.d.mono hle⟩
def pO(J:af)(r:cY)(cs:List Value):Prop:=∃v1 v2,cs=rU r v1 v2/\kI J r v1 v2
def mw(J:af)(r:cY)(cs:List Value):Prop:=∃v1 v2,cs=rU r v1 v2/\h8 J r v1 v2
theorem pO.mono{J ae:af}(hle:J.le ae){r:cY}{cs:List Value}(h:pO J r cs):pO ae r cs:=by
 obtain⟨v1,v2,ab,ad⟩:=h;exact⟨v1,v2,ab,ad.mono hle⟩
theorem mw.mono{J ae:af}(hle:J.le ae){r:cY}{cs:List Value}(h:mw J r cs):mw ae r cs:=by
 obtain⟨v1,v2,ab,ad⟩:=h;exact⟨v1,v2,ab,ad.mono hle⟩
theorem Li{d z rest new:List Value}{off:Nat}(ah:off=d.length)(aG:z.length=new.length):gf off (d++(z++rest)) new=some (d++(new++rest)):=by
 subst ah;rw[Hu _ _ _ (by rw[eY,eY];omega),List.take_left,my];congr 3
 rw[<-my,abv (by rw[eY];omega),sL (by rw[eY];omega),kE]
structure Ip (k:Nat) (r:cY):Prop where
 n:(ag r.z.natAbs).length<=k
 d:(ag r.d).length<=k
theorem GB(x:Nat):(aS x).length<=(ag x).length:=by
 refine GQ ?_;have ab:=lB (hx x);rw[e1] at ab;exact hA ab (Nat.pow_le_pow_left bm _)
theorem Ip.ef{k:Nat}{r:cY}(h:Ip k r):lG k r:=⟨dA (GB _) h.n,dA (GB _) h.d⟩
section
variable {Q:cZ Tryz.prog}{g0:Nat}{J:af}
theorem agw{r:cY}{v1 v2:Value}(aq:kI J r v1 v2)(Gy:Ip 10000 r)(hX:r.h7):Fn (aT Q g0) 113 [eC r v1 v2] [] J (ur J r):=by
 have cx:=aq;have rd:=hX.1;have dL:=Gy.n;have du:=Gy.d;have js:=Gy.ef.d;obtain⟨bs,d',bp,rfl,aK⟩:=aq.n.cA;obtain⟨bM,ej,bN,rfl,aH⟩:=aq.d.cA;refine Fn.b8 (b7 Tryz.func113) rfl rfl fun H=>?_;refine rg ?_;refine gZ fun a7=>?_;refine gn fun bc=>?_;refine sn ?_;refine aB.draw rfl (by kernel_rfl) (aX:=[.val 0,.val 1,.val 2,.val 3,.val 5,.val 6,.bD 4,.ca [6,5,1,0],.bD 7,.ca [1,0],.bD 8,.bD 9]) (by kernel_rfl) ?_;refine aa 0x794d5354d ?_;refine' bh.dV rfl rfl rfl rfl rfl rfl rfl rfl rfl dt (UM cx.n I) ?_;rintro v' m' bi aM ⟨_,rfl,pk⟩;have rf:=pk;obtain⟨cB,eD,cN,rfl,bJ,_,_⟩:=pk.cA;refine bh.ca ft ?_;refine' bh.dV rfl rfl rfl rfl rfl rfl rfl rfl rfl (cF (fun _ aF=>jB.hs aM (cx.n.oO (cx.mono aM).d aM (Ib aF).1) rfl) dt) (UM (cx.mono aM).d I) ?_;rintro v' m' de a9 ⟨_,rfl,Gj⟩;have tz:=Gj;obtain⟨ep,gA,e',rfl,dU,_,_⟩:=Gj.cA;refine bh.ca ft ?_;refine' bh.dV rfl rfl rfl rfl rfl rfl rfl rfl rfl (cF (dh rfl) (cF (dh rfl) dt)) (Kp (r:=r) (rf.mono a9) tz (fun _=>rfl) (M0 hX) (jl rd) I) ?_;rintro v' m' fe cq ⟨_,rfl,en,fR,rfl,b3⟩;have cg:=b3;obtain⟨fw,jO,gz,rfl,fP,_,_⟩:=b3.n.cA;obtain⟨fi,gm,eu,rfl,je,_,_⟩:=b3.d.cA;refine aa 0x1abe39e ?_;refine bo ?_;exact⟨(aM.trans a9).trans cq,rfl,_,_,rfl,cg⟩
theorem list_fn{rs:List cY}{b:Option Addr}{c:Nat}(h:dz J 47 3 (pO J) (.slice b rs.length c) rs)(ap:rs.length<=1000)(ai:∀r∈rs,r.h7/\Ip 10000 r):
 Fn (aT Q g0) 75 [.slice b rs.length c] [] J (fun u m' ae=>J.le ae/\m'=[]/\∃b' c',u=.slice b' rs.length c'/\dz ae 82 3 (mw ae) (.slice b' rs.length c') rs):=by
 have ly:addrEq b b=true:=h.addr;obtain⟨_,db⟩:=h.at;refine Fn.b8 (b7 Tryz.func75) rfl rfl fun H=>?_;refine aa 0xa1ce059 ?_;refine' W.step rfl (.of (pG rfl rfl rfl rfl rfl (eB rfl) ?aN ?ab ?ad fun j7=>?_));case aN=>exact cC
 case ab=>exact cC
 case ad=>exact cC
 refine aa 0x302 ?_;rw[h9];refine aa 0x6af809439 ?_;refine c8 [(11,.int .i64 ((0):Int)),(3,_),(9,_),(10,_)] ?_;refine a' ?_;refine' aB.bA (fun(bE:Nat×(List Value)×af)=>match bE with|(i,d,cb)=>⟨[(11,.int .i64 (i:Int))],[(j7,.row (d++fp [.bool false,.slice none 0 0,.slice none 0 0] (rs.length -i)) 82)],cb,i<=rs.length/\J.le cb/\g4 3 (fun _=>mw cb) d (rs.take i),rs.length -i⟩) ⟨0,[],J⟩ ?hs ?bb
 case hs=>exact⟨df _,af.le.refl _,rfl,fun i x h=>by cases h⟩
 case bb=>
  rintro⟨i,d,cb⟩ hinv;try simp only at hinv
  obtain⟨ak,bS,e6⟩:=hinv;refine aa 0xbe099 ?_;refine If (fun j9=>?_) fun j9=>?_
  ·obtain⟨a,off,cells,bC,rfl,ke,fN⟩:=db I;obtain⟨r,cs,aq,hZ,q8,v1,v2,rfl,dq⟩:=fN i I I;rw[h9] at aq;have ke:=bS _ _ ke;obtain⟨hX,Gy⟩:=ai r (gh aq);have nb:=dq;obtain⟨bs,d',bp,rfl,aK⟩:=dq.n.cA;obtain⟨bM,ej,bN,rfl,aH⟩:=dq.d.cA;have nW:d.length=i*3:=by rw[e6.1,dY,fV ak]
   refine aa 0x61839d5f57 ?_;refine gn fun cI=>?_;refine aa 0x3021ce382 ?_;refine br (G:=agw (nb.mono bS) Gy hX) (h:=?_);rintro v' m' bi aM ⟨_,rfl,en,fR,rfl,b3⟩;have cg:=b3;obtain⟨fi,gm,eu,rfl,je,_,_⟩:=b3.n.cA;obtain⟨jV,yI,fB,rfl,rq,_,_⟩:=b3.d.cA;refine eT V.c7 ?_;refine' iK ?hs ?_;case hs=>exact(by rw[show rs.length -i=(rs.length -(i+1))+1 by omega,Bw];exact Li (by rw[nW];omega) rfl)
   refine kr ?_;have mE:g4 3 (fun _=>mw bi) (d++rU r (.slice fi gm eu) (.slice jV yI fB)) (rs.take (i+1)):=by
    rw[ko,aq];exact(e6.mono fun _ _ _ q=>q.mono aM).app ⟨_,_,rfl,cg⟩ rfl
   rw[<-my];refine aa 0xc0479 ?_;refine eH ⟨i+1,d++rU r (.slice fi gm eu) (.slice jV yI fB),bi⟩ ?_ (hm:=.cons _ (.refl _));exact⟨I,bS.trans aM,mE⟩
  ·refine aa 0x357 ?_;obtain rfl:i=rs.length:=I
   refine aB.mN (m':=[(j7,.row d 82)]) (by show List.Perm _ [(j7,dw.row (d++fp [.bool false,.slice none 0 0,.slice none 0 0] (rs.length -rs.length)) 82)];rw[sR,DU,ij]) ?_;refine aB.hy rfl fun a9=>?_;rw[sO] at e6;refine aa 0x357c0839 ?_;refine bo ?_;refine⟨bS.trans a9,rfl,some ⟨j7,0,none⟩,rs.length,rfl,d,fg.row (af.gC _ _ _) (by rw[g5,cM (by rw[e6.1];exact bF _)]) e6.1 (fun _=>⟨bF _,nC ap bm⟩) (fun _=>rfl),fun j x U=>(e6.2 j x U).mono a9⟩
end
end
end Go.Opn
namespace Go.Opn
noncomputable section
end
end Go.Opn

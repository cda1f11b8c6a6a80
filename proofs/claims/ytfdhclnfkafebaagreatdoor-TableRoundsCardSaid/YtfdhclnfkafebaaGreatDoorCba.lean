/- A part of the proof of TableRounds. -/
import Derived.Test.YtfdhclnfkafebaaGreatDoorCaz
set_option linter.unusedVariables false
set_option linter.unusedSimpArgs false
set_option maxRecDepth 100000
namespace Go.Opn
noncomputable section
theorem ak5{W vs D:List Nat}{i g c w u z c':Nat}(aq:D.length=i)(hw:vs[i]?=some w)(hu:W[i]?=some u)(h:aN D+g*aN (vs.take i)=aN (W.take i)+1000000000 ^ i*c)
 (e:z+g*w+c=u+1000000000*c'):aN (D++[z])+g*aN (vs.take (i+1))=aN (W.take (i+1))+1000000000 ^ (i+1)*c':=by
 rw[Ia,aq,l7 hw,l7 hu,cS]
 have ed:=aa (1000000000 ^ i*·) e
 simp only[cS] at ed
 have cH:∀t:Nat,1000000000 ^ i*(1000000000*t)=1000000000 ^ (i+1)*t:=fun t=>by rw[fC,fi]
 rw[cH] at ed
 have h0:g*(1000000000 ^ i*w)=1000000000 ^ i*(g*w):=qX _ _ _
 rw[h0]
 omega
theorem ab4{W vs D:List Nat}{i c w u z c':Nat}(aq:D.length=i)(hw:vs[i]?=some w)(hu:W[i]?=some u)(h:aN D+1000000000 ^ i*c=aN (W.take i)+aN (vs.take i))(e:z+1000000000*c'=u+w+c):
 aN (D++[z])+1000000000 ^ (i+1)*c'=aN (W.take (i+1))+aN (vs.take (i+1)):=by
 rw[Ia,aq,l7 hw,l7 hu]
 have ed:=aa (1000000000 ^ i*·) e
 simp only[cS] at ed
 have cH:∀t:Nat,1000000000 ^ i*(1000000000*t)=1000000000 ^ (i+1)*t:=fun t=>by rw[fC,fi]
 rw[cH] at ed
 omega
theorem aeu{W vs D:List Nat}{n g c un:Nat}(gX:W.length=n+1)(az:vs.length=n)(cy:D.length=n)(Yq:dS D)(oW:dS vs)(hu:W[n]?=some un)(h:aN D+g*aN (vs.take n)=aN (W.take n)+1000000000 ^ n*c)(aJ:c<=un)(ad:aN W<(g+1)*aN vs):aN W / aN vs=g/\aN W % aN vs=aN D:=by
 have pn:=l7 hu
 rw[dd (show W.length<=n+1 by omega)] at pn
 rw[dd (show vs.length<=n by omega)] at h
 have lA:=k' oW
 rw[az] at lA
 rw[c3,iL] at ad
 have aji:un=c:=by
  apply Tf _ aJ
  apply qW
  intro q
  have:=hs (1000000000 ^ n) (show c+1<=un from q)
  rw[cS,gT] at this
  omega
 rw[aji] at pn
 have af:g*aN vs<=aN W:=I
 obtain⟨aX,aU⟩:=xJ af (show aN W<(g+1)*aN vs by rw[c3,iL];exact ad)
 exact⟨aX,by rw[aU];omega⟩
theorem aev{W vs D E:List Nat}{n g c un m:Nat}(gX:W.length=n+1)(az:vs.length=n)(cy:D.length=n)(fS:E.length=n)(Yq:dS D)(alK:dS E)(oW:dS vs)(hu:W[n]?=some un)(h:aN D+g*aN (vs.take n)=aN (W.take n)+1000000000 ^ n*c)(aJ:un<c)(af:g*aN vs<aN W+aN vs)
 (aV:aN E+1000000000 ^ n*m=aN D+aN (vs.take n))(hm:m<=1):1<=g/\aN W / aN vs=g -1/\aN W % aN vs=aN E:=by
 have pn:=l7 hu
 rw[dd (show W.length<=n+1 by omega)] at pn
 rw[dd (show vs.length<=n by omega)] at h aV
 have lA:=k' oW
 rw[az] at lA
 have JI:=k' Yq
 rw[cy] at JI
 have Vg:=k' alK
 rw[fS] at Vg
 have aF:1<=g:=by
  rcases jj g with k|k
  ·rw[k,j8,iI] at h
   have:=hs (1000000000 ^ n) (show 1<=c by omega)
   omega
  ·exact k
 obtain⟨p,rfl⟩:∃p,g=p+1:=⟨g -1,I⟩
 rw[c3,iL] at h af
 rw[ld]
 have n4:c=un+m:=by
  obtain⟨d,aq⟩:∃d,c=un+d:=⟨c -un,I⟩
  have aC:1000000000 ^ n*c=1000000000 ^ n*un+1000000000 ^ n*d:=by rw[aq,cS]
  rcases Tg d m with k|k|k
  ·have:m=1/\d=0:=I
   omega
  ·omega
  ·have:=hs (1000000000 ^ n) (show m+1<=d from k)
   rw[cS,gT] at this
   omega
 have aC:1000000000 ^ n*c=1000000000 ^ n*un+1000000000 ^ n*m:=by rw[n4,cS]
 have fL:=hs (1000000000 ^ n) (show un+1<=c from aJ)
 rw[cS,gT] at fL
 have bq:p*aN vs<=aN W:=I
 obtain⟨aX,aU⟩:=xJ (c4:=aN W) (V:=aN vs) (g:=p) bq (by rw[c3,iL];omega)
 exact⟨aF,aX,by rw[aU];omega⟩
theorem alr{y f t:Nat}(aE:(ai y)[(ai y).length -1]?=some t)(aO:y≠0)(aM:f=1000000000 / (t+1)):
 1<=f/\f<=500000000/\y*f<1000000000 ^ (ai y).length/\(∀l:List Nat,dS l->l.length=(ai y).length->aN l=y*f->∀v1,l[(ai y).length -1]?=some v1->500000000<=v1)/\1000000000 ^ ((ai y).length -1)*f<=y*f:=by
 have aD:0<(ai y).length:=by have:=tT aO;omega
 have sB:t≠0:=Dx y t (by rw[qU];exact aE)
 have tM:=pJ (hB y) aE
 have pr:1<=f:=by rw[aM];exact Mm I I
 have ah4:f*(t+1)<=1000000000:=by rw[aM];exact Nat.div_mul_le_self _ _
 have asn:1000000000<(f+1)*(t+1):=by
  rw[aM]
  have:=Nat.lt_succ_iff.1 (Nat.lt_succ_of_le (bX (1000000000 / (t+1))))
  have ad:=lR 1000000000 (t+1)
  have af:=fJ 1000000000 (show 0<t+1 by omega)
  rw[c3,iL,dz]
  omega
 have tH:f<=500000000:=by
  have:f*2<=f*(t+1):=hs _ I
  omega
 have ajd:500000000<=t*f:=by
  --f is at least half of LV it ati be
  rcases iK f 2 with k|k
  ·obtain rfl:f=1:=I
   omega
  ·have ad:t*1<=t*f:=hs _ pr
   have aC:f*(t+1)=t*f+f:=by rw[cS,gT,dz]
   have aW:(f+1)*(t+1)=t*f+t+f+1:=by rw[c3,cS,dz f];omega
   --t*f+t+f+1>10^9 and t*f+f<=10^9
   have af:f*1<=f*t:=hs _ I
   rw[dz f t] at af
   have aV:(t -1)*(f -1)>=0:=ep _
   have bq:t+f<=t*f+1:=by
        obtain⟨a,rfl⟩:∃a,t=a+1:=⟨t -1,I⟩
        obtain⟨b,rfl⟩:∃b,f=b+1:=⟨f -1,I⟩
        rw[c3,cS]
        omega
   omega
 obtain⟨k,hk⟩:∃k,(ai y).length=k+1:=⟨(ai y).length -1,I⟩
 rw[hk,ld] at aE
 have n1:=l7 aE
 rw[dd I,e5] at n1
 have hz:=k' (vF (i:=k) (hB y))
 rw[dY,gn I] at hz
 rw[hk,ld]
 have aq:y*f=aN ((ai y).take k)*f+1000000000 ^ k*(t*f):=by
  conv=>lhs;rw[n1]
  rw[c3,fi]
 have cA:y*f<1000000000 ^ (k+1):=by
  have ad:aN ((ai y).take k)*f<1000000000 ^ k*f:=B9 hz pr
  have af:1000000000 ^ k*(f*(t+1))<=1000000000 ^ k*1000000000:=hs _ ah4
  rw[cS,gT,cS,dz f t] at af
  rw[fC,aq]
  omega
 refine⟨pr,tH,cA,fun l cc ke vj v1 l4=>?_,?_⟩
 ·have el:=l7 l4
  rw[dd I,vj] at el
  have ad:=k' (vF (i:=k) cc)
  rw[dY,gn I] at ad
  have aV:1000000000 ^ k*500000000<=1000000000 ^ k*(t*f):=hs _ ajd
  have bq:1000000000 ^ k*500000000<1000000000 ^ k*(v1+1):=by rw[cS,gT];omega
  have:=Mq bq
  omega
 ·refine e0 _ ?_
  have ad:1000000000 ^ k*1<=1000000000 ^ k*t:=hs _ I
  omega
theorem ao'{rR:List Nat}{x f aG kz gQ:Nat}(aD:rR.length=aG+1)(az:aN rR=x*f)(aM:0<f)(ab:x<1000000000 ^ aG)(ad:1<=kz)(af:kz<=aG)(oR:1000000000 ^ (kz -1)*f<=gQ):aN (rR.drop (aG -kz+1))<gQ:=by
 have e:=zv rR (aG -kz+1) I
 have aV:x*f<1000000000 ^ aG*f:=B9 ab aM
 have bq:1000000000 ^ aG*f=1000000000 ^ (aG -kz+1)*(1000000000 ^ (kz -1)*f):=by
  rw[<-fi,<-oB,show aG -kz+1+(kz -1)=aG by omega]
 have fL:=hs (1000000000 ^ (aG -kz+1)) oR
 refine Mq (a:=1000000000 ^ (aG -kz+1)) ?_
 omega
end
end Go.Opn
set_option maxHeartbeats 8000000
namespace Go.Opn
noncomputable section
open Go.Cre Go.RowKit Go.Proofs
theorem Rc{D:List Nat}{z:Nat}(h:dS D)(aL:z<1000000000):dS (D++[z]):=Bh h fun x ab=>by rw[zK.1 ab];exact aL
theorem K'{A D W C:List Nat}{i k off x:Nat}(aq:D.length=i)(hk:i<=k)(h:W[k]?=some x)(aj:off=A.length+k):nth (b7 .u32 (A++(D++W.drop i)++C)) off=some (.int .u32 (x:Int)):=by
 refine oV (i:=A.length+k) ?_ aj;rw[U9 aq hk (gS.1 h).1];exact h
theorem Q5{A W C:List Nat}{k off x:Nat}(h:W[k]?=some x)(aj:off=A.length+k):nth (b7 .u32 (A++W++C)) off=some (.int .u32 (x:Int)):=by
 have:=K' (A:=A) (D:=[]) (W:=W) (C:=C) (i:=0) rfl (ep k) h aj;rwa [kp,hi] at this
theorem RG{A D W C:List Nat}{i y off:Nat}(aq:D.length=i)(h:i<W.length)(aj:off=A.length+i):gw off (b7 .u32 (A++(D++W.drop i)++C)) [.int .u32 (y:Int)]=some (b7 .u32 (A++((D++[y])++W.drop (i+1))++C)):=by
 rw[<-qG aq h];exact k8 (A.length+i) (by rw[eS,eS,eS,lQ];omega) aj
theorem cR.akN{J:an}{b:Option Addr}{n c:Nat}{l:List Nat}(h:cR .u32 J (.slice b n c) l)(aj:dS l)(ap:0<l.length):∃a off cells e,b=some ⟨a,off,none⟩/\J a=some (cells,e)/\∀i:Nat,i<l.length->∃x,l[i]?=some x/\nth cells (off+i*1)=some (.int .u32 (x:Int))/\x<1000000000:=by
 obtain⟨a,off,cells,e,ad,af,aV⟩:=cR.at h ap;exact⟨a,off,cells,e,ad,af,fun i ar=>by obtain⟨x,a7,a0⟩:=aV i ar;exact⟨x,a7,a0,pJ aj a7⟩⟩
section
variable {Q:dD Tryz.prog}{g0:Nat}{J:an}
theorem akk{a n cap:Nat}{v:Value}{A ww C vs:List Nat}(az:cR .u32 J v vs)(lA:vs.length=n+2)(oW:dS vs)(wP:ww.length=n+3)(nG:dS ww)(n7:n<=100000)(m5:n+3<=cap)(ahO:cap<1000000)(eT:A.length<=1000000)
 (sC:∀v1,vs[n+1]?=some v1->500000000<=v1)(cA:aN ww<1000000000*aN vs):
 Fn (a1 Q g0) 153 [.slice (some ⟨a,A.length,none⟩) (n+3) cap,v] [eO .u32 72 a (A++ww++C)] J (fun u m' ah=>∃x2,u=.int .u32 ((aN ww / aN vs:Nat):Int)/\m'=[eO .u32 72 a (A++x2++C)]/\x2.length=n+3/\dS x2/\aN x2=aN ww % aN vs/\aN ww / aN vs<1000000000/\J=ah):=by
 obtain⟨bv,d',rfl⟩:=az.form;obtain⟨zY,HI,Fa,yy,rfl,ag4,xc⟩:=az.akN oW I;obtain⟨cm,oQ,akP⟩:=HP nG (i:=n+2) I;obtain⟨u1,Dc,DC⟩:=HP nG (i:=n+1) I;obtain⟨bI,yV,A7⟩:=HP nG (i:=n) I;obtain⟨v1,l4,Hp,GZ⟩:=xc (n+1) I;obtain⟨v0,Dd,Ho,A8⟩:=xc n I;have aph:=sC v1 l4;have A2:=aka wP lA nG oW oQ Dc yV l4 Dd;have alz:nth (b7 .u32 (A++ww++C)) (A.length+((n+2:Nat):Int).toNat*1)=some (.int .u32 (cm:Int)):=Q5 oQ I;have aly:nth (b7 .u32 (A++ww++C)) (A.length+(((n+2:Nat):Int) -1).toNat*1)=some (.int .u32 (u1:Int)):=Q5 Dc I;have alx:nth (b7 .u32 (A++ww++C)) (A.length+(((n+2:Nat):Int) -2).toNat*1)=some (.int .u32 (bI:Int)):=Q5 yV I;have Hp:nth Fa (HI+(((n+2:Nat):Int) -1).toNat*1)=some (.int .u32 (v1:Int)):=by rw[show(((n+2:Nat):Int) -1).toNat=n+1 by omega];exact Hp
 have Ho:nth Fa (HI+(((n+2:Nat):Int) -2).toNat*1)=some (.int .u32 (v0:Int)):=by rw[show(((n+2:Nat):Int) -2).toNat=n by omega];exact Ho
 have FU:0<aN vs:=by
  have e:=l7 l4;rw[dd (show vs.length<=n+1+1 by omega)] at e;have:0<1000000000 ^ (n+1)*v1:=iW (uI bC) I;omega
 --sX first as' is not ark sX arB
 have asN:cm<=v1:=by
  have aC:=l7 oQ;rw[dd (show ww.length<=n+2+1 by omega)] at aC;have aW:=l7 l4;rw[dd (show vs.length<=n+1+1 by omega)] at aW;have dq:=k' (vF (i:=n+1) oW);rw[dY,gn I] at dq;apply qW
  intro q;have ad:1000000000 ^ (n+2)*(v1+1)<=1000000000 ^ (n+2)*cm:=hs _ q;have af:1000000000*aN vs<1000000000*(1000000000 ^ (n+1)*(v1+1)):=Mt (by rw[cS,gT];omega) bC;have aV:1000000000*(1000000000 ^ (n+1)*(v1+1))=1000000000 ^ (n+2)*(v1+1):=by rw[fC 1000000000 (n+1)];ac_rfl
  omega
 rw[lA];refine Fn.cr (cu Tryz.func153) rfl rfl fun H=>?_;refine rg ?_;refine U V.au ?_;refine a2 ?_;refine al ?_;refine aA ?_;refine ae.draw rfl (by kernel_rfl) (a':=[.val 0,.val 1,.val 2,.val 3,.val 4,.val 5,.val 6,.val 7,.val 8,.val 9,.val 10,.val 11,.val 12,.val 13]) (by kernel_rfl) ?_;refine eg ?_;refine aT rfl V.bh ?_;refine aT rfl V.cg ?_;refine aT rfl V.d' ?_;refine aT rfl V.aY ?_;refine eg ?_;refine aT rfl V.aY ?_;refine aT rfl V.bh ?_;refine aT rfl V.cg ?_;refine aT rfl V.d' ?_;refine aT rfl V.aY ?_;refine aT rfl V.au ?_;refine bp.nil ?_;rw[show(cm:Int)*1000000000+(u1:Int)=((cm*1000000000+u1:Nat):Int) by omega];obtain⟨iq,sv⟩:∃q,q=(cm*1000000000+u1) / v1:=⟨_,rfl⟩;obtain⟨ki,dj⟩:∃r,r=(cm*1000000000+u1) % v1:=⟨_,rfl⟩;have hm:iq*v1+ki=cm*1000000000+u1:=by rw[sv,dj,dz];exact lR _ v1
 have Wq:ki<v1:=by rw[dj];exact fJ _ I
 have eX:aN ww<(iq+1)*aN vs:=A2.start A7 (by rw[c3,iL];omega);have Gm:iq<=1000000001:=by
  rw[sv];have:(cm*1000000000+u1) / v1<1000000002:=(mV I).2 I;omega
 refine ao ?_;refine ae.draw rfl (by kernel_rfl) (a':=[.val 0,.val 1,.val 2,.val 3,.val 4,.val 5,.val 6,.val 7,.val 8,.val 9,.val 10,.val 11,.val 12,.val 13,.val 14,.val 15,.val 16,.val 17]) (by kernel_rfl) ?_;refine eg ?_;refine aT rfl V.aY ?_;refine aT rfl V.bh ?_;refine aT rfl V.cg ?_;refine aT rfl V.d' ?_;refine aT rfl V.hn ?_;rw[rJ (x:=cm*1000000000+u1) (d:=v1) I,<-sv];refine eg ?_;refine aT rfl V.aY ?_;refine aT rfl V.bh ?_;refine aT rfl V.cg ?_;refine aT rfl V.d' ?_;refine aT rfl V.hn ?_;rw[show(((cm*1000000000+u1:Nat):Int)).tmod (v1:Int)=(ki:Int) from by rw[dj];rfl];refine eg ?_;refine bp.nil ?_;refine eP [7,8,0,1,5] ?_;refine ao ?_;refine' ae.lW (α:=(Nat)) 2 (fun(g:Nat)=>[(7,.int .u64 (g:Int))]) (fun(g:Nat)=>[eO .u32 72 a (A++ww++C)]) (fun(g:Nat)=>J) (fun(g:Nat)=>g<=1000000000/\aN ww<(g+1)*aN vs/\g*aN vs<aN ww+aN vs) ?wm ?wx;case wm=>
  refine ae.block ?_;refine' ae.dO (l':=[(7,.int .u64 ((iq):Int)),(8,.int .u64 ((ki):Int)),(0,_),(1,_),(5,_)]) ⟨?kk,?l8,rfl,rfl,rfl,trivial⟩ (bx _) ?_;case kk=>first|exact bg|exact aa some (aa (Value.int .u64) I)|exact aa some (aa (Value.int .u32) I)|exact aa some (aa (Value.int .i64) I)
  case l8=>first|exact bg|exact aa some (aa (Value.int .u64) I)|exact aa some (aa (Value.int .u32) I)|exact aa some (aa (Value.int .i64) I)
  refine ao ?_;refine' ae.lE (α:=(Nat)×(Nat)) (fun(a6:(Nat)×(Nat))=>match a6 with|(g,r)=>[(7,.int .u64 (g:Int)),(8,.int .u64 (r:Int))]) (fun(a6:(Nat)×(Nat))=>match a6 with|(g,r)=>g<=1000000001/\(r<1000000000\/g<=1000000000)/\r<2000000000/\g*v1+r=cm*1000000000+u1/\aN ww<(g+1)*aN vs) (fun(a6:(Nat)×(Nat))=>match a6 with|(g,r)=>g) ⟨iq,ki⟩ ?ag ?bD
  case ag=>exact⟨Gm,.inl I,I,hm,eX⟩
  case bD=>
   rintro⟨g,r⟩ hinv;try simp only at hinv
   obtain⟨jE,Az,yS,CY,vd⟩:=hinv;obtain⟨P,cX⟩:∃P,P=g*v0:=⟨_,rfl⟩;have sk:P<=1000000001*999999999:=by rw[cX];exact r1 jE I
   have Vq:(g:Int)*(v0:Int)=(P:Int):=by rw[cX,gM]
   refine eP [0,1,5,7,8] ?_;refine ao ?_;refine' ae.hf 0 [(74,.bool (decide ((r<1000000000/\(1000000000<=g\/r*1000000000+bI<P)))))] ?z6 ?z';case z6=>
    refine ae.ae1 [] rfl (by kernel_rfl) (a':=[.val 0,.val 1,.val 2,.val 3,.val 4,.val 5,.val 6,.val 7,.val 8,.val 9,.val 10,.val 11,.val 12,.val 13,.val 14,.val 15,.val 16,.val 17,.val 18,.val 19,.val 20,.val 21,.val 22,.val 23,.val 24,.val 25]) (by kernel_rfl) ?_;refine Cb rfl V.ay ?_;refine Cb rfl V.bb ?_;refine Cb rfl V.ay ?_;refine Tt 51 (fun agB=>?_) fun agB=>?_
    ·refine lh rfl V.ay ?_;refine lh rfl V.bb ?_;refine lh rfl V.ay ?_;refine Tt 54 (fun agD=>?_) fun agD=>?_
     ·refine lT rfl ?_;refine lT rfl ?_;refine lT rfl ?_;refine lT rfl ?_;refine lT rfl ?_;refine lT rfl ?_;refine lT rfl ?_;refine lT rfl ?_;refine lT rfl ?_;refine lT rfl ?_;refine lT rfl ?_;refine lT rfl ?_;refine lT rfl ?_;refine lT rfl ?_;refine lT rfl ?_;refine lT rfl ?_;refine lT rfl ?_;refine lT rfl ?_;refine lh rfl V.bt ?_;refine Cb rfl V.bt ?_;refine eQ.nil ?_;refine'⟨⟨_,rfl,⟨?Hd,rfl,rfl,rfl,rfl,rfl,trivial⟩⟩,bx _,rfl⟩;case Hd=>first|exact fw rfl (by first|omega|(simp_all;done)|(simp_all;omega))|exact fu rfl (by first|omega|(simp_all;done)|(simp_all;omega))|exact fv rfl (by first|omega|(simp_all;done)|(simp_all;omega))|exact fE rfl (by first|omega|(simp_all;done)|(simp_all;omega))
     ·refine lh rfl V.ay ?_;refine lh rfl V.ay ?_;refine lh rfl V.ay ?_;refine lh rfl V.aY ?_;refine lh rfl V.bh ?_;refine lh rfl V.cg ?_;refine lh rfl V.d' ?_;refine lh rfl V.aY ?_;refine lh rfl V.ay ?_;refine lh rfl V.aY ?_;refine lh rfl V.ay ?_;refine lh rfl V.ay ?_;refine lh rfl V.aY ?_;refine lh rfl V.bh ?_;refine lh rfl V.cg ?_;refine lh rfl V.d' ?_;refine lh rfl V.aY ?_;refine lh rfl V.bb ?_;refine lh rfl V.bt ?_;refine Cb rfl V.bt ?_;refine eQ.nil ?_;refine'⟨⟨_,rfl,⟨?Hd,rfl,rfl,rfl,rfl,rfl,trivial⟩⟩,bx _,rfl⟩;case Hd=>first|exact fw rfl (by first|omega|(simp_all;done)|(simp_all;omega))|exact fu rfl (by first|omega|(simp_all;done)|(simp_all;omega))|exact fv rfl (by first|omega|(simp_all;done)|(simp_all;omega))|exact fE rfl (by first|omega|(simp_all;done)|(simp_all;omega))
    ·refine lT rfl ?_;refine lT rfl ?_;refine lT rfl ?_;refine eQ.nK rfl rfl rfl rfl rfl ?_;refine eQ.nK rfl rfl rfl rfl rfl ?_;refine eQ.nK rfl rfl rfl rfl rfl ?_;refine eQ.nK rfl rfl rfl rfl rfl ?_;refine eQ.nK rfl rfl rfl rfl rfl ?_;refine eQ.nK rfl rfl rfl rfl rfl ?_;refine eQ.nK rfl rfl rfl rfl rfl ?_;refine eQ.nK rfl rfl rfl rfl rfl ?_;refine eQ.nK rfl rfl rfl rfl rfl ?_;refine eQ.nK rfl rfl rfl rfl rfl ?_;refine eQ.nK rfl rfl rfl rfl rfl ?_;refine eQ.nK rfl rfl rfl rfl rfl ?_;refine eQ.nK rfl rfl rfl rfl rfl ?_;refine eQ.nK rfl rfl rfl rfl rfl ?_;refine eQ.nK rfl rfl rfl rfl rfl ?_;refine eQ.nK rfl rfl rfl rfl rfl ?_;refine eQ.nK rfl rfl rfl rfl rfl ?_;refine eQ.nK rfl rfl rfl rfl rfl ?_;refine lT rfl ?_;refine Cb rfl V.bt ?_;refine eQ.nil ?_;refine'⟨⟨_,rfl,⟨?Hd,rfl,rfl,rfl,rfl,rfl,trivial⟩⟩,bx _,rfl⟩;case Hd=>first|exact fw rfl (by first|omega|(simp_all;done)|(simp_all;omega))|exact fu rfl (by first|omega|(simp_all;done)|(simp_all;omega))|exact fv rfl (by first|omega|(simp_all;done)|(simp_all;omega))|exact fE rfl (by first|omega|(simp_all;done)|(simp_all;omega))
   case z'=>
    refine ao ?_;refine If (fun Ub=>?_) fun Ub=>?_
    ·have C5:aN ww<g*aN vs:=by
       obtain⟨a7,a0⟩:=Ub;by_cases k:r*1000000000+bI<g*v0
       ·exact A2.more CY k
       ·have bJ:1000000000<=g:=by rcases a0 with a0|a0<;>omega
        exact iJ cA (e0 _ bJ)
     have qo:1<=g:=by
       rcases jj g with k|k
       ·rw[k,j8] at C5;omega
       ·exact k
     refine dW ?_;refine ao ?_;refine ae.block ?_;refine rg ?_;refine U V.ay ?_;refine U V.aY ?_;refine U V.au ?_;refine a2 ?_;refine al ?_;refine U V.aY ?_;refine U V.bh ?_;refine U V.cg ?_;refine U V.d' ?_;refine U V.aY ?_;refine U V.au ?_;refine a3 ?_;refine'⟨⟨g -1,r+v1⟩,_,?hinv,?gi,rfl,⟨?na,?G3,rfl,rfl,rfl,trivial⟩,bx _,rfl⟩;case na=>first|exact bg|exact aa some (aa (Value.int .u64) I)|exact aa some (aa (Value.int .u32) I)|exact aa some (aa (Value.int .i64) I)
     case G3=>first|exact bg|exact aa some (aa (Value.int .u64) I)|exact aa some (aa (Value.int .u32) I)|exact aa some (aa (Value.int .i64) I)
     case gi=>exact bz
     case hinv=>
      exact⟨I,.inr I,I,by
          obtain⟨p,rfl⟩:∃p,g=p+1:=⟨g -1,I⟩;rw[c3,iL] at CY;rw[ld];omega,by rw[yd qo];exact C5⟩
    ·have OZ:g<=1000000000:=I
     have ahh:g*v0<=r*1000000000+bI:=by
       rw[<-cX];by_cases k:r<1000000000
       ·omega
       ·have a0:P<=1000000000*999999999:=by rw[cX];exact r1 OZ I
        omega
     refine ao ?_;refine ae.exit ?_;refine'⟨(g),_,?hinv,rfl,⟨?na,rfl,rfl,rfl,trivial⟩,gK,rfl⟩;case na=>first|exact bg|exact aa some (aa (Value.int .u64) I)|exact aa some (aa (Value.int .u32) I)|exact aa some (aa (Value.int .i64) I)
     case hinv=>exact⟨OZ,vd,A2.less CY ahh OZ bC I⟩
 case wx=>
  rintro g hinv;try simp only at hinv
  obtain⟨jE,vd,aib⟩:=hinv;refine rg ?_;refine U V.au ?_;refine a2 ?_;refine al ?_;refine aA ?_;refine ae.block ?_;refine' ae.dO (l':=[(87,.int .i64 ((0):Int)),(9,.int .u64 ((0):Int)),(0,_),(1,_),(5,_),(7,_),(85,_),(86,_)]) ⟨?aqf,?Eb,rfl,rfl,rfl,rfl,rfl,rfl,trivial⟩ (bx _) ?_;case aqf=>first|exact bg|exact aa some (aa (Value.int .u64) I)|exact aa some (aa (Value.int .u32) I)|exact aa some (aa (Value.int .i64) I)
  case Eb=>first|exact bg|exact aa some (aa (Value.int .u64) I)|exact aa some (aa (Value.int .u32) I)|exact aa some (aa (Value.int .i64) I)
  refine ao ?_;refine' ae.e2 (fun(a6:Nat×Nat×(List Nat))=>match a6 with|(i,c,D)=>⟨[(87,.int .i64 (i:Int)),(9,.int .u64 (c:Int))],[eO .u32 72 a (A++(D++ww.drop i)++C)],J,i<=n+2/\c<=1000000000/\D.length=i/\dS D/\aN D+g*aN (vs.take i)=aN (ww.take i)+1000000000 ^ i*c,n+2 -i⟩) ⟨0,0,[]⟩ ?ag ?bD
  case ag=>exact⟨ep _,by decide,rfl,Le,by rw[fh,fh];rfl⟩
  case bD=>
   rintro⟨i,c,D⟩ hinv;try simp only at hinv
   obtain⟨ar,aJ,cy,cc,k1⟩:=hinv;refine rg ?_;refine U V.bb ?_;refine aA ?_;refine If (fun E6=>?_) fun E6=>?_
   ·obtain⟨w,hw,Q9,lw⟩:=xc i I;obtain⟨u,hu,A6⟩:=HP nG (i:=i) I;have Hn:nth (b7 .u32 (A++(D++ww.drop i)++C)) (A.length+(i:Int).toNat*1)=some (.int .u32 (u:Int)):=K' cy (bX _) hu I;obtain⟨P,cX⟩:∃P,P=g*w:=⟨_,rfl⟩;have sk:P<=1000000000*999999999:=by rw[cX];exact r1 jE I
    have Vq:(g:Int)*(w:Int)=(P:Int):=by rw[cX,gM]
    obtain⟨s,ag⟩:∃s,s=P+c:=⟨_,rfl⟩;refine dW ?_;refine ao ?_;refine ae.block ?_;refine rg ?_;refine U V.ay ?_;refine U V.bh ?_;refine U V.cg ?_;refine al ?_;refine a2 ?_;refine al ?_;refine U V.d' ?_;refine U V.aY ?_;refine U V.ay ?_;refine U V.aY ?_;refine U V.au ?_;refine a3 ?_;rw[show(g:Int)*(w:Int)+(c:Int)=(s:Int) by omega];refine rg ?_;refine U V.ay ?_;refine U V.hn ?_;refine U V.au ?_;refine a3 ?_;rw[show IntKind.u64.wrap ((s:Int).tdiv 1000000000)=((s / 1000000000:Nat):Int) from rJ (d:=1000000000) I];refine rg ?_;refine al ?_;refine U V.bh ?_;refine U V.cg ?_;refine U V.d' ?_;refine U V.ay ?_;refine U V.hn ?_;rw[show(s:Int).tmod 1000000000=((s % 1000000000:Nat):Int) from rfl];refine U V.d' ?_;refine U V.aY ?_;refine U V.au ?_;refine a2 ?_;refine U V.ay ?_;refine U V.bb ?_;refine a3 ?_;refine eP [9,13,110,0,1,5,7,10,85,86,87] ?_;refine ao ?_;refine' ae.lW (α:=(Nat)×(Nat)) 3 (fun(a6:(Nat)×(Nat))=>match a6 with|(z,bM)=>[(13,.int .i64 (z:Int)),(9,.int .u64 (bM:Int))]) (fun(a6:(Nat)×(Nat))=>match a6 with|(z,bM)=>[eO .u32 72 a (A++(D++ww.drop i)++C)]) (fun(a6:(Nat)×(Nat))=>match a6 with|(z,bM)=>J) (fun(a6:(Nat)×(Nat))=>match a6 with|(z,bM)=>z<1000000000/\z+P+c=u+1000000000*bM/\bM<=1000000000) ?adv ?aeE
    case adv=>
     refine If (fun acN=>?_) fun acN=>?_
     ·refine rg ?_;refine U V.ay ?_;refine U V.aY ?_;refine U V.au ?_;refine a2 ?_;refine U V.ay ?_;refine U V.aY ?_;refine U V.au ?_;refine a3 ?_;refine'⟨⟨u+1000000000 -s % 1000000000,s / 1000000000+1⟩,_,?hinv,rfl,⟨?xp,?QE,rfl,rfl,rfl,rfl,rfl,rfl,rfl,rfl,trivial⟩,gK,rfl⟩;case xp=>first|exact bg|exact aa some (aa (Value.int .u64) I)|exact aa some (aa (Value.int .u32) I)|exact aa some (aa (Value.int .i64) I)
      case QE=>first|exact bg|exact aa some (aa (Value.int .u64) I)|exact aa some (aa (Value.int .u32) I)|exact aa some (aa (Value.int .i64) I)
      case hinv=>exact⟨I,I,I⟩
     ·refine ao ?_;refine ae.skip ?_;refine'⟨⟨u -s % 1000000000,s / 1000000000⟩,_,?hinv,rfl,⟨?xp,?QE,rfl,rfl,rfl,rfl,rfl,rfl,rfl,rfl,trivial⟩,gK,rfl⟩;case xp=>first|exact bg|exact aa some (aa (Value.int .u64) I)|exact aa some (aa (Value.int .u32) I)|exact aa some (aa (Value.int .i64) I)
      case QE=>first|exact bg|exact aa some (aa (Value.int .u64) I)|exact aa some (aa (Value.int .u32) I)|exact aa some (aa (Value.int .i64) I)
      case hinv=>exact⟨I,I,I⟩
    case aeE=>
     rintro⟨z,bM⟩ hinv;try simp only at hinv
     obtain⟨aL,P',gY⟩:=hinv;refine rg ?_;refine al ?_;refine U V.d' ?_;refine U V.bh ?_;refine' W.step rfl (.of (ia rfl rfl rfl rfl (hh rfl) rfl rfl rfl ?ad ?ag ?ap ?_));case ap=>repeat first|exact .head _ _ _ _|apply dh.tail|apply dh.app
     case ag=>exact RG cy I I
     case ad=>first|rfl|assumption
     refine a2 ?_;refine U V.aY ?_;refine U V.ay ?_;refine a3 ?_;refine fl ⟨i+1,bM,D++[z]⟩ ?_;exact⟨I,gY,xl cy,Rc cc aL,ak5 cy hw hu k1 (by rw[<-cX];exact P')⟩
   ·obtain rfl:i=n+2:=I
    have atr:nth (b7 .u32 (A++(D++ww.drop (n+2))++C)) (A.length+((n+2:Nat):Int).toNat*1)=some (.int .u32 (cm:Int)):=K' cy (bX _) oQ I;refine ao ?_;refine ae.exit ?_;refine rg ?_;refine al ?_;refine U V.bh ?_;refine U V.cg ?_;refine U V.d' ?_;refine U V.ay ?_;refine U V.bb ?_;refine a3 ?_;refine eP [1,7,127,0,5] ?_;refine ao ?_;refine' ae.lW (α:=(Nat)×(List Nat)) 3 (fun(a6:(Nat)×(List Nat))=>match a6 with|(ch,E)=>[(7,.int .u64 (ch:Int))]) (fun(a6:(Nat)×(List Nat))=>match a6 with|(ch,E)=>[eO .u32 72 a (A++(E++ww.drop (n+2))++C)]) (fun(a6:(Nat)×(List Nat))=>match a6 with|(ch,E)=>J) (fun(a6:(Nat)×(List Nat))=>match a6 with|(ch,E)=>aN ww / aN vs=ch/\aN ww % aN vs=aN E/\E.length=n+2/\dS E) ?adw ?aeF
    case adw=>
     refine If (fun acQ=>?_) fun acQ=>?_
     ·have qo:1<=g:=by
       rcases jj g with k|k
       ·have aC:=k' cc
        rw[cy] at aC;rw[k,j8,iI] at k1;have:=hs (1000000000 ^ (n+2)) (show 1<=c by omega);omega
       ·exact k
      have alO:dS (D++ww.drop (n+2)):=Bh cc (Ld nG);have as9:(D++ww.drop (n+2)).length=n+3:=by rw[eS,lQ];omega
      refine rg ?_;refine U V.ay ?_;refine U V.aY ?_;refine U V.au ?_;refine a3 ?_;rw[show(g:Int) -1=((g -1:Nat):Int) by omega];refine rg ?_;refine U V.au ?_;refine a2 ?_;refine al ?_;refine aA ?_;refine ae.block ?_;refine' ae.dO (l':=[(132,.int .i64 ((0):Int)),(14,.int .u32 ((0):Int)),(0,_),(5,_),(7,_),(130,_),(131,_)]) ⟨?ap3,?us,rfl,rfl,rfl,rfl,rfl,trivial⟩ (bx _) ?_;case ap3=>first|exact bg|exact aa some (aa (Value.int .u64) I)|exact aa some (aa (Value.int .u32) I)|exact aa some (aa (Value.int .i64) I)
      case us=>first|exact bg|exact aa some (aa (Value.int .u64) I)|exact aa some (aa (Value.int .u32) I)|exact aa some (aa (Value.int .i64) I)
      refine ao ?_;refine' ae.e2 (fun(a6:Nat×Nat×(List Nat))=>match a6 with|(i,m,E)=>⟨[(132,.int .i64 (i:Int)),(14,.int .u32 (m:Int))],[eO .u32 72 a (A++(E++(D++ww.drop (n+2)).drop i)++C)],J,i<=n+2/\m<=1/\E.length=i/\dS E/\aN E+1000000000 ^ i*m=aN ((D++ww.drop (n+2)).take i)+aN (vs.take i),n+2 -i⟩) ⟨0,0,[]⟩ ?ag ?bD
      case ag=>exact⟨ep _,by decide,rfl,Le,by rw[fh,fh];rfl⟩
      case bD=>
       rintro⟨i,m,E⟩ hinv;try simp only at hinv
       obtain⟨ar,C4,fS,tK,PW⟩:=hinv;refine rg ?_;refine U V.bb ?_;refine aA ?_;refine If (fun acR=>?_) fun acR=>?_
       ·obtain⟨w,hw,Q9,lw⟩:=xc i I;obtain⟨u,hu,A6⟩:=HP alO (i:=i) I;have Hn:nth (b7 .u32 (A++(E++(D++ww.drop (n+2)).drop i)++C)) (A.length+(i:Int).toNat*1)=some (.int .u32 (u:Int)):=K' fS (bX _) hu I;refine dW ?_;refine ao ?_;refine ae.block ?_;refine rg ?_;refine U V.ay ?_;refine U V.bh ?_;refine U V.cg ?_;refine al ?_;refine a2 ?_;refine al ?_;refine U V.bh ?_;refine U V.cg ?_;refine U V.ay ?_;refine U V.aY ?_;refine U V.ay ?_;refine U V.aY ?_;refine U V.au ?_;refine a2 ?_;refine U V.au ?_;refine a2 ?_;refine U V.ay ?_;refine U V.bb ?_;refine a3 ?_;refine eP [14,17,146,0,5,7,15,130,131,132] ?_;refine ao ?_;refine' ae.lW (α:=(Nat)×(Nat)) 3 (fun(a6:(Nat)×(Nat))=>match a6 with|(z,fq)=>[(17,.int .u32 (z:Int)),(14,.int .u32 (fq:Int))]) (fun(a6:(Nat)×(Nat))=>match a6 with|(z,fq)=>[eO .u32 72 a (A++(E++(D++ww.drop (n+2)).drop i)++C)]) (fun(a6:(Nat)×(Nat))=>match a6 with|(z,fq)=>J) (fun(a6:(Nat)×(Nat))=>match a6 with|(z,fq)=>z<1000000000/\z+1000000000*fq=u+w+m/\fq<=1) ?adx ?aeG
        case adx=>
         refine If (fun acT=>?_) fun acT=>?_
         ·refine rg ?_;refine U V.ay ?_;refine U V.aY ?_;refine U V.au ?_;refine a2 ?_;refine U V.au ?_;refine a3 ?_;refine'⟨⟨u+w+m -1000000000,1⟩,_,?hinv,rfl,⟨?QD,?A9,rfl,rfl,rfl,rfl,rfl,rfl,rfl,trivial⟩,gK,rfl⟩;case QD=>first|exact bg|exact aa some (aa (Value.int .u64) I)|exact aa some (aa (Value.int .u32) I)|exact aa some (aa (Value.int .i64) I)
          case A9=>first|exact bg|exact aa some (aa (Value.int .u64) I)|exact aa some (aa (Value.int .u32) I)|exact aa some (aa (Value.int .i64) I)
          case hinv=>exact⟨I,I,I⟩
         ·refine ao ?_;refine ae.skip ?_;refine'⟨⟨u+w+m,0⟩,_,?hinv,rfl,⟨?QD,?A9,rfl,rfl,rfl,rfl,rfl,rfl,rfl,trivial⟩,gK,rfl⟩;case QD=>first|exact bg|exact aa some (aa (Value.int .u64) I)|exact aa some (aa (Value.int .u32) I)|exact aa some (aa (Value.int .i64) I)
          case A9=>first|exact bg|exact aa some (aa (Value.int .u64) I)|exact aa some (aa (Value.int .u32) I)|exact aa some (aa (Value.int .i64) I)
          case hinv=>exact⟨I,I,I⟩
        case aeG=>
         rintro⟨z,fq⟩ hinv;try simp only at hinv
         obtain⟨aL,P',Wb⟩:=hinv;refine rg ?_;refine al ?_;refine U V.bh ?_;refine' W.step rfl (.of (ia rfl rfl rfl rfl (hh rfl) rfl rfl rfl ?ad ?ag ?ap ?_));case ap=>repeat first|exact .head _ _ _ _|apply dh.tail|apply dh.app
         case ag=>exact RG fS I I
         case ad=>first|rfl|assumption
         refine a2 ?_;refine U V.aY ?_;refine U V.ay ?_;refine a3 ?_;refine fl ⟨i+1,fq,E++[z]⟩ ?_;exact⟨I,Wb,xl fS,Rc tK aL,ab4 fS hw hu PW P'⟩
       ·obtain rfl:i=n+2:=I
        rw[List.take_left' cy] at PW;have m6:=aev (n:=n+2) wP lA cy fS cc tK oW oQ k1 I aib PW C4;refine ao ?_;refine ae.exit ?_;refine'⟨⟨g -1,E⟩,_,?hinv,rfl,⟨?na,rfl,rfl,trivial⟩,⟨[],by rw[iU];show List.Perm [(a,ec.row (b7 .u32 (A++(E++ww.drop (n+2))++C)) 72)] [(a,ec.row (b7 .u32 (A++(E++(D++ww.drop (n+2)).drop (n+2))++C)) 72)];rw[List.drop_left' cy]⟩,rfl⟩;case na=>first|exact bg|exact aa some (aa (Value.int .u64) I)|exact aa some (aa (Value.int .u32) I)|exact aa some (aa (Value.int .i64) I)
        case hinv=>exact⟨m6.2.1,m6.2.2,fS,tK⟩
     ·have m6:=aeu (n:=n+2) wP lA cy cc oW oQ k1 I vd;refine dW ?_;refine'⟨⟨g,D⟩,_,?hinv,rfl,⟨?na,rfl,rfl,trivial⟩,gK,rfl⟩;case na=>first|exact bg|exact aa some (aa (Value.int .u64) I)|exact aa some (aa (Value.int .u32) I)|exact aa some (aa (Value.int .i64) I)
      case hinv=>exact⟨m6.1,m6.2,cy,cc⟩
    case aeF=>
     rintro⟨ch,E⟩ hinv;try simp only at hinv
     obtain⟨pr,tH,fS,tK⟩:=hinv;refine rg ?_;refine al ?_;refine U V.bh ?_;refine' W.step rfl (.of (ia rfl rfl rfl rfl (hh rfl) rfl rfl rfl ?ad ?ag ?ap ?_));case ap=>repeat first|exact .head _ _ _ _|apply dh.tail|apply dh.app
     case ag=>exact RG (y:=0) fS I I
     case ad=>first|rfl|assumption
     refine a3 ?_;have aiO:ch<1000000000:=by
       rw[<-pr];exact(mV FU).2 cA
     refine rg ?_;refine U V.ay ?_;refine U V.d' ?_;refine U V.au ?_;refine aA ?_;refine ae.ret ?_;refine'⟨.inr rfl,rfl,_,_,.tmp rfl .nil,bx _,⟨E++[0],by rw[pr];rfl,by rw[oy (show ww.length<=n+2+1 by omega),iU],xl fS,Rc tK bC,by rw[Ia,jk,iI,tH],by rw[pr];exact aiO,rfl⟩⟩
end
section
variable {Q:dD Tryz.prog}{g0:Nat}{J:an}
theorem Xg{v w:Value}{x y:Nat}(ab:cM J v x)(aB:cM J w y)(gP:(ai x).length<=100000)(jK:(ai y).length<=100000)(l9:y≠0):Fn (a1 Q g0) 142 [v,w] [] J (fun u m' ah=>J.le ah/\m'=[]/\∃q r,u=.tuple #[q,r]/\cM ah q (x / y)/\cM ah r (x % y)):=by
 have dM:=ab;have eU:=aB;obtain⟨bQ,bH,rfl,aX⟩:=ab.bG;obtain⟨bL,bM,rfl,aU⟩:=aB.bG;refine Fn.cr (cu Tryz.func142) rfl rfl fun H=>?_;refine rg ?_;refine al ?_;refine a2 ?_;refine al ?_;refine bN (G:=Xd dM eU gP jK) (h:=?_);rintro v' m' ah hle ⟨rfl,rfl,rfl⟩;refine U V.bb ?_;refine aA ?_;refine If (fun jo=>?_) fun jo=>?_
 ·have cA:=r'.1 jo;refine rg ?_;refine U V.ay ?_;refine bN (G:=Xf dM gP) (h:=?_);rintro v' m' bK aK ⟨_,rfl,PZ⟩;refine al ?_;refine aA ?_;refine ae.ret ?_;refine'⟨.inr rfl,rfl,_,[],.tmp rfl (.tmp rfl .nil),br _,?_⟩;first
   |exact⟨aK,rfl,_,_,rfl,by rw[rY cA];exact cM.nil,by rw[nO cA];exact PZ⟩
 ·have jZ:y<=x:=qW fun h=>jo (r'.2 h);have ke:(ai y).length<=(ai x).length:=xk jZ;have xe:0<(ai y).length:=by have:=tT l9;omega
  obtain⟨Ce,hI,tm,n1,rfl,CN,og⟩:=eU.at l9;refine fy ?_;refine al ?_;refine U V.bb ?_;refine aA ?_;refine If (fun mX=>?_) fun mX=>?_
  ·obtain⟨aC,aW,cw⟩:=Qo (x:=y) I;obtain⟨d,aq,gv,_⟩:=og 0 I;rw[aC] at aq;obtain rfl:y=d:=v9 aq;have asv:x % y<y:=fJ _ I;refine rg ?_;refine al ?_;refine U V.bh ?_;refine U V.cg ?_;refine bN (G:=ZF dM gP I I) (h:=?_);rintro v' m' bK aK ⟨_,rfl,Eh,rfl,qw⟩;refine al ?_;refine a2 ?_;refine al ?_;refine U V.d' ?_;refine bN (G:=Qs (n:=x % y) I) (h:=?_);rintro v' m' dT bi ⟨_,rfl,pB⟩;refine al ?_;refine aA ?_;refine ae.ret ?_;refine'⟨.inr rfl,rfl,_,[],.tmp rfl (.tmp rfl .nil),br _,?_⟩;first
    |exact⟨aK,rfl,_,_,rfl,by rw[rY cA];exact cM.nil,by rw[nO cA];exact PZ⟩
    |(have c:=mX
      exact⟨aK.trans bi,rfl,_,_,rfl,qw.mono bi,pB⟩)
  ·obtain⟨n,aE⟩:∃n,(ai y).length=n+2:=⟨(ai y).length -2,I⟩;obtain⟨qO,P6,Hq,XN⟩:=og ((ai y).length -1) I;have Hq:nth tm (hI+(((ai y).length:Int) -1).toNat*1)=some (.int .u32 (qO:Int)):=by rw[show(((ai y).length:Int) -1).toNat=(ai y).length -1 by omega];exact Hq
   obtain⟨md,Ge⟩:∃md,md=(ai x).length -(ai y).length+1:=⟨_,rfl⟩;obtain⟨f,aM⟩:∃f,f=1000000000 / (qO+1):=⟨_,rfl⟩;obtain⟨f1,f2,lz,GA,Gy⟩:=alr P6 l9 aM;obtain⟨kl,oR⟩:∃kl,kl=y*f:=⟨_,rfl⟩;rw[<-oR] at lz GA Gy;have PX:0<kl:=by rw[oR];exact iW I f1
   have AU:=oi (x:=x) (bX _);refine fy ?_;refine al ?_;refine a2 ?_;refine al ?_;refine U V.aY ?_;refine U V.bh ?_;refine U V.cg ?_;refine U V.d' ?_;refine U V.aY ?_;rw[show(qO:Int)+1=((qO+1:Nat):Int) by omega];refine U V.hn ?_;refine U V.au ?_;refine a3 ?_;rw[show IntKind.u64.wrap ((1000000000:Int).tdiv ((qO+1:Nat):Int))=(f:Int) from by rw[aM];exact rJ (x:=1000000000) (d:=qO+1) bC];refine rg ?_;refine al ?_;refine U V.aY ?_;rw[show((ai x).length:Int)+1=(((ai x).length+1:Nat):Int) by omega];refine bN (G:=XG (size:=(ai x).length+1) dM I I I (by rw[fC];exact Ms AU I)) (h:=?_);rintro v' m' ah hle ⟨uO,rR,rfl,rfl,G0,Rd,Ic,rfl⟩;refine U V.au ?_;refine a2 ?_;refine al ?_;refine bN (G:=XG (size:=(ai y).length) eU (bX _) I I (by rw[<-oR];exact lz)) (h:=?_);rintro v' m' ah hle ⟨zY,mv,rfl,rfl,XP,DP,vR,rfl⟩;refine U V.au ?_;refine a3 ?_;refine ae.h9 rfl fun Pd=>?_;rw[<-oR] at vR;have Ko:=cR.row (J:=J.add zY (b7 .u32 mv,72)) (k:=.u32) (l:=mv) (n:=(ai y).length) (cap:=(ai y).length) I (bX _) (kF I) (an.g7 _ _ _);rw[dd (show mv.length<=(ai y).length by omega)] at Ko;refine rg ?_;refine al ?_;refine U V.aY ?_;refine U V.aY ?_;refine' W.step rfl (.of (qN rfl rfl rfl rfl rfl (hb Q g0) ?aO ?ad ?af fun I6=>?_));case aO=>exact bz
   case ad=>exact bz
   case af=>exact bz
   rw[show(((ai x).length:Int) -((ai y).length:Int)+1).toNat=md by omega,zero_num];refine U V.au ?_;refine a2 ?_;refine al ?_;refine U V.aY ?_;refine U V.au ?_;refine aA ?_;refine ae.block ?_;refine ao ?_;refine ae.ub (.swap _ _ _) ?_;refine' ae.dO (l':=[(12,.int .i64 (((md):Int) -1)),(4,_),(8,_),(9,_),(10,_),(11,_)]) ⟨?qK,rfl,rfl,rfl,rfl,rfl,trivial⟩ (bx _) ?_;case qK=>first|exact bg|exact aa some (aa (Value.int .u64) I)|exact aa some (aa (Value.int .u32) I)|exact aa some (aa (Value.int .i64) I)
   refine ao ?_;refine' ae.e2 (fun(a6:Nat×(List Nat)×(List Nat))=>match a6 with|(k,ul,q)=>⟨[(12,.int .i64 ((k:Int) -1))],[eO .u32 72 uO ul,eO .u32 72 I6 q],(J.add zY (b7 .u32 mv,72)),k<=md/\ul.length=(ai x).length+1/\dS ul/\q.length=md/\dS q/\aN (ul.drop k)<kl/\x*f=aN ul+1000000000 ^ k*(kl*aN (q.drop k)),k⟩) ⟨md,rR,List.replicate md 0⟩ ?ag ?bD
   case ag=>exact⟨bX _,G0,Rd,mT,DO,by rw[Ge];exact ao' G0 Ic f1 AU xe ke Gy,by rw[oy (by rw[mT];exact bX _),Ic];rfl⟩
   case bD=>
    rintro⟨k,ul,q⟩ hinv;try simp only at hinv
    obtain⟨hk,vo,cc,bS,Gi,pq,cB⟩:=hinv;refine rg ?_;refine U V.ay ?_;refine U V.bb ?_;refine aA ?_;refine If (fun Ck=>?_) fun Ck=>?_
    ·obtain⟨j,rfl⟩:∃j,k=j+1:=⟨k -1,I⟩;obtain⟨hJ,vI,fg,rfl,Od,wP⟩:=ZN (l:=ul) (j:=j) (n:=(ai y).length+1) I;subst Od;have Po:dS hJ:=fun z aL=>cc z (nN _ (nN _ aL));have Pp:dS fg:=fun z aL=>cc z (eF _ aL);obtain⟨P1,si,Pq⟩:=aqo cc wP lz pq;refine dW ?_;refine ao ?_;refine ae.block ?_;refine rg ?_;refine al ?_;refine U V.aY ?_;refine U V.aY ?_;refine' W.step rfl (Exec.val rfl rfl (aap rfl rfl (hb Q g0) rfl rfl ?aO ?ad ?af ?aV ?bq) ?_);case aO=>exact bz
     case ad=>exact bz
     case af=>exact bz
     case aV=>exact bz
     case bq=>exact bz
     rw[show 0+(((hJ.length+1:Nat):Int) -1).toNat*1=hJ.length by omega,show(((hJ.length+1:Nat):Int) -1+((ai y).length:Int)+1 -(((hJ.length+1:Nat):Int) -1)).toNat=n+3 by omega,show(((hJ.length+1:Nat):Int) -1).toNat=hJ.length by omega];refine U V.ay ?_;refine' W.step rfl (Exec.call rfl rfl rfl rfl rfl rfl rfl (cj:=[eO .u32 72 uO (hJ++vI++fg)]) (eB:=[eO .u32 72 I6 q]) (.refl _) trivial (akk (n:=n) Ko I DP I Pq I I I I (fun v1 ad=>GA _ DP XP vR v1 (by rw[show(ai y).length -1=n+1 by omega];exact ad)) (by rw[vR];exact P1)) ?_);rintro v' m' ah hle ⟨Br,rfl,rfl,P0,P2,GG,Py,rfl⟩;refine U V.bh ?_;refine' W.step rfl (.of (ia rfl rfl rfl rfl (hh rfl) rfl rfl rfl ?ad ?ag ?ap ?_));case ap=>repeat first|exact .head _ _ _ _|apply dh.tail|apply dh.app
     case ag=>exact k8 hJ.length I
     case ad=>first|rfl|assumption
     refine a3 ?_;have JR:x*f=aN (hJ++Br++fg)+1000000000 ^ hJ.length*(kl*aN ((q.set hJ.length (aN vI / aN mv)).drop hJ.length)):=by
        rw[apR I,cS kl,qX kl];refine aqq (n:=n+3) I P0 si (by rw[GG,vR]) (by rw[vR]) cB
     have OQ:aN ((hJ++Br++fg).drop hJ.length)<kl:=by
        rw[nM,Mb,oy (bX _),kp,uJ,hi,rM,si,jk,iI,GG,vR];exact fJ _ PX
     refine rg ?_;refine U V.ay ?_;refine U V.aY ?_;refine U V.au ?_;refine a3 ?_;refine fl ⟨hJ.length,hJ++Br++fg,q.set hJ.length (aN vI / aN mv)⟩ ?_;exact⟨I,by rw[eS,eS] at vo ⊢;omega,Bh (Bh Po P2) Pp,by rw[hr];exact bS,y6 Gi Py,OQ,JR⟩
    ·obtain rfl:k=0:=I
     rw[yc,iL,hi] at cB;rw[hi] at pq;obtain⟨f3,f4⟩:=xJ (c4:=x*f) (V:=kl) (g:=aN q) (by rw[dz (aN q) kl];omega) (by rw[c3,iL,dz (aN q) kl];omega);obtain⟨s1,s2⟩:=Nq (N:=x) (d:=y) f1;rw[<-oR,f3] at s1;rw[<-oR,f4,show x*f -aN q*kl=aN ul by rw[dz (aN q)];omega] at s2;obtain⟨Kn,_⟩:=apQ (n:=(ai y).length) cc I (zR pq lz);refine ao ?_;refine ae.exit ?_;refine rg ?_;refine al ?_;refine' W.step rfl (Exec.val rfl rfl (BJ rfl rfl (hb Q g0) rfl ?aO ?ad ?af) ?_);case aO=>exact bz
     case ad=>exact bz
     case af=>first|assumption|exact kF bz
     refine' W.step rfl (Exec.call rfl rfl rfl rfl rfl rfl rfl (cj:=[eO .u32 72 uO ul]) (eB:=[eO .u32 72 I6 q]) (.refl _) trivial (KO (l:=ul) (n:=(ai y).length) cc I I I) ?_);rintro v' m' ah hle ⟨Qj,rfl,ail,AX,rfl,rfl⟩;refine W.et rfl fun Pc On=>?_;rw[Kn] at AX;have P3:cM _ (.slice (some ⟨uO,0,none⟩) Qj ((ai x).length+1)) (aN ul):=cM.row AX I I (kF I) On;refine U V.ay ?_;refine U V.d' ?_;refine bN (G:=ZF P3 (by rw[<-AX,dY];omega) f1 I) (h:=?_);rintro v' m' ga cn ⟨_,rfl,wr,rfl,pB⟩;refine al ?_;refine a2 ?_;refine U V.ay ?_;refine' W.step rfl (Exec.call rfl rfl rfl rfl rfl rfl rfl (cj:=[eO .u32 72 I6 q]) (eB:=[]) (.refl _) trivial (KO (l:=q) Gi I (bX _) I) ?_);rintro v' m' ah hle ⟨akb,rfl,O8,Qa,rfl,rfl⟩;refine al ?_;refine a3 ?_;refine ae.h9 rfl fun Gb=>?_;refine ao ?_;refine ae.ret ?_;refine'⟨.inr rfl,rfl,_,[],.tmp rfl (.tmp rfl .nil),br _,?_⟩;first
        |exact⟨aK,rfl,_,_,rfl,by rw[rY cA];exact cM.nil,by rw[nO cA];exact PZ⟩
        |(have c:=Ck
          exact⟨((Pd.trans Pc).trans cn).trans Gb,rfl,_,_,rfl,cM.row (by rw[Qa,<-bS,dd (bX _),s1]) I O8 (kF I) (an.g7 _ _ _),by rw[<-s2];exact pB.mono Gb⟩)
        |(have c:=mX
          exact⟨aK.trans bi,rfl,_,_,rfl,qw.mono bi,pB⟩)
end
end
end Go.Opn

/- A part of the proof of TableMetric. -/
import Derived.Test.YtmmfodofkbmfnaaGreatDoorCbi
set_option maxRecDepth 100000
set_option maxHeartbeats 8000000
set_option linter.unusedVariables false
set_option linter.unusedSimpArgs false
namespace Go.Opn
noncomputable section
open Go.Cre Go.RowKit Go.Proofs
theorem wF{x y aa k:Nat}(j:(aj x).length<=aa)(aC:(aj y).length<=k):(aj (x*y)).length<=aa+k:=by
 refine nB ?_;rw[Ia];exact O0 (sw j) (xB (sw aC)) (AD (by decide))
theorem Ly{x y k:Nat}(j:(aj x).length<=k)(aC:(aj y).length<=k):(aj (x+y)).length<=k+1:=by
 refine nB ?_;have U:=sw j;have ab:=sw aC;rw[m4];omega
theorem dx.sX{k:IntKind}{J ai:an}{v:Value}{l l':List Nat}(h:dx k J v l)(fO:dx k ai v l')(hle:J.le ai):l=l':=by
 obtain⟨b,c,rfl⟩:=h.form;obtain⟨b',bo,e⟩:=fO.form;injection e with aA aW cr
 subst aA;by_cases ao:0<l.length
 ·obtain⟨a,off,cells,e,U,ab,aV⟩:=h.dv ao
  obtain⟨bA,eB,cells',bl,Bf,vJ,SF⟩:=fO.dv (by omega);rw[U] at Bf;injection Bf with w
  injection w with bc b6
  subst bc;subst b6;rw[hle _ _ ab] at vJ;injection vJ with vJ
  injection vJ with bc b6
  subst bc;refine List.ext_getElem aW fun i i1 i2=>?_;have aQ:=aV i _ (fx i1);have aP:=SF i _ (fx i2);rw[aQ] at aP;injection aP with aP
  injection aP with _ aP
  omega
 ·rw[nY (show l.length=0 by omega),nY (show l'.length=0 by omega)]
theorem dE.dJ{J:an}{v:Value}{x:Nat}(h:dE J v x):∃b c,v=.slice b (aj x).length c/\addrEq b b=true:=by
 have h:dx .u32 J v (aj x):=h;obtain⟨b,c,rfl⟩:=h.form;exact⟨b,c,rfl,h.addr⟩
theorem dE.sX{J ai:an}{v:Value}{x y:Nat}(h:dE J v x)(fO:dE ai v y)(hle:J.le ai):x=y:=by
 have e:aj x=aj y:=dx.sX h fO hle;rw[<-gj x,<-gj y,e]
theorem dE.uU{J ai:an}{v w:Value}{x y:Nat}(h:dE J v x)(fO:dE ai w y)(hle:J.le ai)(e:v=w):x=y:=by subst e;exact h.sX fO hle
theorem m7.ag{J nX:an}{x gC:Nat}(hle:nX.le J)(dy:gC=x){ck:aU}(hm:ck=[]):ck=[]/\nX.le J/\∀v m' bO eL,m7 nX gC v m' bO->bO.le eL->J.le eL->m7 J x v m' eL:=
 ⟨hm,hle,fun v m' bO eL ⟨_,ab,aV⟩ br gq=>⟨gq,ab,dy▸aV.mono br⟩⟩
abbrev AG(J:an)(r:cv):Value->aU->an->Prop:=fun u m' ai=>J.le ai/\m'=[]/\∃v1 v2,u=dF r v1 v2/\ho ai r v1 v2
theorem Mc{z:Int}{d:Nat}(ax:0<d):(a9 z d).z.natAbs=z.natAbs / Nat.gcd z.natAbs d/\(a9 z d).d=d / Nat.gcd z.natAbs d:=by
 obtain⟨g,e,q,ar,he,a0,TA,_,aE,TP⟩:=uw (z:=z) ax;rw[aE,<-TP];refine⟨?_,?_⟩
 ·rw[a0,iC,iD,Az _ ar]
 ·rw[TA,Az _ ar]
theorem F5{J:an}{a:Nat}{e:TypeId}(h:J a=some ([.int .u32 1],e)):dE J (.slice (some ⟨a,0,none⟩) 1 1) 1:=by
 show dx .u32 J _ (aj 1);rw[show aj 1=[1] by rw[zm (by decide)];rfl];exact⟨e,.row h rfl rfl (fun _=>⟨c9 _,zG⟩) (fun q=>absurd q (xC zG))⟩
theorem Xv{a b:Int}{d e x y:Nat}{z:Int}(ax:0<d)(he:0<e)(j:x=a.natAbs*e)(aC:y=b.natAbs*d)(a0:z=a*e+b*d):
 ((a<0↔b<0)->z.natAbs=x+y/\(z≠0->(a<0↔z<0)))/\(¬(a<0↔b<0)->(y<=x->z.natAbs=x -y/\(z≠0->(a<0↔z<0)))/\(x<y->z.natAbs=y -x/\(z≠0->(b<0↔z<0)))):=by
 have U:(a*(e:Int)).natAbs=x:=by rw[iC,iD,j]
 have ab:(b*(d:Int)).natAbs=y:=by rw[iC,iD,aC]
 have s1:a<0↔a*(e:Int)<0:=⟨fun h=>xm h (by omega),fun h=>by
  rcases p8 a 0 with q|q
  ·exact q
  ·have:=u7 q (show(0:Int)<=(e:Int) by omega);omega⟩
 have s2:b<0↔b*(d:Int)<0:=⟨fun h=>xm h (by omega),fun h=>by
  rcases p8 b 0 with q|q
  ·exact q
  ·have:=u7 q (show(0:Int)<=(d:Int) by omega);omega⟩
 rw[s1,s2];generalize a*(e:Int)=X at*;generalize b*(d:Int)=Y at*;refine⟨fun h=>⟨by omega,fun aE=>by omega⟩,fun h=>⟨fun k=>⟨by omega,fun aE=>by omega⟩,fun k=>⟨by omega,fun aE=>by omega⟩⟩⟩
section
variable {Q:eF Tryz.prog}{g0:Nat}{J:an}
theorem B5{neg:Bool}{v w:Value}{z:Int}{n d:Nat}(ax:0<d)(a0:z.natAbs=n)(KI:z≠0->neg=decide (z<0))(U:dE J v n)(ab:dE J w d)(iK:(aj n).length<=100)(ia:(aj d).length<=100):Fn (aS Q g0) 24 [.bool neg,v,w] [] J (AG J (a9 z d)):=by
 subst a0;have gS:dx .u32 J v (aj z.natAbs):=U;have g1:dx .u32 J w (aj d):=ab;obtain⟨bV,bE,rfl⟩:=gS.form;obtain⟨b7,b8,rfl⟩:=g1.form;obtain⟨yQ,yO⟩:=Mc (z:=z) ax;refine Fn.cH (cK Tryz.func24) rfl rfl fun H=>?_;refine rg ?_;refine' W.step rfl (.of (gN rfl rfl rfl (kT Q g0) rfl rfl rfl fun ey=>?_));refine bg ?_;refine aH ?_;refine I V.bk ?_;refine aJ ?_;refine If (fun dP=>?_) fun dP=>?_
 ·have fC:z=0:=by
   rcases ke z.natAbs with q|q
   ·omega
   ·have:=pI (hR q);omega
  refine rg ?_;refine jA (iQ Q g0) fun ti=>?_;refine W.dv rfl fun a' nl=>?_;refine I V.kH ?_;refine fM ?_;refine aJ ?_;refine ad.ret ?_;refine'⟨.inr rfl,rfl,_,[],.cell rfl (by repeat first|exact .head _|refine .tail _ ?_|refine eU _ ?_) (gh (fs rfl) rfl) (.nil),b1 _,?_⟩;first
   |(have c:=gV
     exact⟨a'.trans (bW.trans dc),rfl,.slice fF _ hb,.slice gp _ e1,by rw[KI fC,<-mo.2 (zB (z:=z) ax).2.1];rfl,wb.mono dc,BF⟩)
   |exact⟨a',rfl,.slice none 0 0,_,by rw[fC,pN ax];rfl,by rw[fC,pN ax];exact Cg,by rw[fC,pN ax];exact F5 nl⟩
 ·have fC:z≠0:=fun q=>by
   rw[q] at dP;rw[show(0:Int).natAbs=0 from rfl,ks] at dP;exact dP rfl
  have gV:0<z.natAbs:=by omega
  refine lf ?_;refine aH ?_;refine cm (G:=DQ U ab iK ia) (h:=?_);rintro v' m' bO hle ⟨a',rfl,ar⟩;have r7:(aj (Nat.gcd z.natAbs d)).length<=100:=ej (q0 (Nat.gcd_le_left d gV)) iK;have EV:Nat.gcd z.natAbs d≠0:=hR (rF _ ax);refine I V.aI ?_;refine bg ?_;refine aH ?_;refine cm (G:=GC (U.mono a') ar EV iK r7) (h:=?_);rintro v' m' eL hle ⟨bW,rfl,bc,b6,rfl,wb,gI⟩;rw[<-yQ] at wb;obtain⟨fF,hb,rfl,gi⟩:=wb.dJ;refine aH ?_;refine bg ?_;refine aH ?_;refine cm (G:=GC ((ab.mono a').mono bW) (ar.mono bW) EV ia r7) (h:=?_);rintro v' m' hG hle ⟨dc,rfl,dX,l8,rfl,BF,gW⟩;rw[<-yO] at BF;obtain⟨gp,e1,rfl,iO⟩:=BF.dJ;refine aH ?_;refine bg ?_;refine aH ?_;refine fM ?_;refine aJ ?_;refine ad.ret ?_;refine'⟨.inr rfl,rfl,_,[],.cell rfl (by repeat first|exact .head _|refine .tail _ ?_|refine eU _ ?_) (gh (fs rfl) rfl) (.nil),b1 _,?_⟩;first
   |(have c:=gV
     exact⟨a'.trans (bW.trans dc),rfl,.slice fF _ hb,.slice gp _ e1,by rw[KI fC,<-mo.2 (zB (z:=z) ax).2.1];rfl,wb.mono dc,BF⟩)
   |exact⟨a',rfl,.slice none 0 0,_,by rw[fC,pN ax];rfl,by rw[fC,pN ax];exact Cg,by rw[fC,pN ax];exact F5 nl⟩
end
theorem eK.XB{g0:Nat}{B:c6}{J:an}{H:ah}{e:TypeId}{sz k:Nat}{v:Value}{cells:List Value}{bq:aU}(h:eK e sz v k cells bq)(au:Inv g0 B J bq H):∃ai,J.le ai/\Inv g0 B ai [] H/\ew ai e sz v k cells:=by
 rcases ke k with rfl|hk
 ·rcases h with⟨h,a0,aE⟩|⟨a,full,rest,rfl,rfl,aV,br,gq⟩
  ·cases h with
   |nil=>exact⟨J,an.le.refl _,au,.nil⟩
   |hy a=>exact⟨J,an.le.refl _,au,.hy _ _ _ (by decide)⟩
   |opn U ab=>
    obtain⟨a8,a5⟩:=au.ju (x:=(_,e)) rfl;exact⟨_,a5,a8,.row (an.h6 _ _ _) (by rw[qf] at U ⊢;rw[nY U];rfl) U (fun q=>absurd rfl q) (fun _=>rfl)⟩
   |cap=>exact absurd (.head _) (aE _ _ _)
  ·obtain⟨a8,a5⟩:=au.ju (x:=(full,e)) rfl
   exact⟨_,a5,a8,.row (an.h6 _ _ _) (by rw[kd];exact br) (by rw[<-br,hQ];omega) (fun q=>absurd rfl q) (fun _=>rfl)⟩
 ·obtain⟨a,full,rest,rfl,rfl,br,aV⟩:=h.row hk
  obtain⟨a8,a5⟩:=au.ju (x:=(full,e)) rfl;exact⟨_,a5,a8,.row (an.h6 _ _ _) (by rw[kd];exact br) (by rw[<-br,hQ];omega) (fun q=>absurd rfl q) (fun _=>rfl)⟩
def oT(z:Int):Int:=if z=0 then 0 else if z<0 then -1 else 1
theorem M9{z:Int}:oT z<=0↔z<=0:=by unfold oT;split<;>(try split)<;>omega
section
variable {Q:eF Tryz.prog}{g0:Nat}{J:an}
theorem LO{v w:Value}{x y:Nat}(U:dE J v x)(ab:dE J w y)(dy:y<=x)(aw:(aj x).length<=1000)(ia:(aj y).length<=1000):Fn (aS Q g0) 30 [v,w] [] J (m7 J (x -y)):=fun H au=>by
 obtain⟨u,H',ai,m',a8,a5,rfl,mx⟩:=LN U ab dy aw ia H au;obtain⟨eL,aQ,aP,bC⟩:=mx.XB a5;exact⟨u,H',eL,[],a8,aP,aQ,rfl,bC⟩
theorem MB{r s:cv}{x y:Bool}{v1 v2 bc b6:Value}(vR:x=decide (r.z<0))(fQ:y=decide (s.z<0))(ap:ho J r v1 v2)(ag:ho J s bc b6)(rd:0<r.d)(gM:0<s.d)(eJ:(aj r.z.natAbs).length<=10)(ei:(aj r.d).length<=10)(iu:(aj s.z.natAbs).length<=10)(ka:(aj s.d).length<=10):Fn (aS Q g0) 13 [.agg #[.bool x,v1,v2],.agg #[.bool y,bc,b6]] [] J (AG J (a9 (r.z*s.d+s.z*r.d) (r.d*s.d))):=by
 subst vR;subst fQ
 have dR:=ap;have gg:=ag;obtain⟨bV,bE,rfl,aQ⟩:=ap.n.dJ;obtain⟨b7,b8,rfl,aP⟩:=ap.d.dJ;obtain⟨c5,dj,rfl,bC⟩:=ag.n.dJ;obtain⟨dM,eg,rfl,dp⟩:=ag.d.dJ;obtain⟨X,fA⟩:∃X,X=r.z.natAbs*s.d:=⟨_,rfl⟩;obtain⟨Y,k7⟩:∃Y,Y=s.z.natAbs*r.d:=⟨_,rfl⟩;obtain⟨D,eb⟩:∃D,D=r.d*s.d:=⟨_,rfl⟩;obtain⟨Z,yA⟩:∃Z,Z=r.z*s.d+s.z*r.d:=⟨_,rfl⟩;have Lt:(aj X).length<=20:=by rw[fA];exact wF eJ ka
 have Lu:(aj Y).length<=20:=by rw[k7];exact wF iu ei
 have acp:(aj D).length<=20:=by rw[eb];exact wF ei ka
 have B3:(aj (X+Y)).length<=21:=Ly Lt Lu;have acq:(aj (X -Y)).length<=20:=ej (q0 (Nat.sub_le _ _)) Lt;have acr:(aj (Y -X)).length<=20:=ej (q0 (Nat.sub_le _ _)) Lu;have nk:0<D:=by rw[eb];exact gm rd gM
 obtain⟨dG,iN⟩:=Xv rd gM fA k7 yA;rw[<-yA,<-eb];refine Fn.cH (cK Tryz.func13) rfl rfl fun H=>?_;refine rg ?_;refine fl fun bS=>?_;refine fl fun cE=>?_;refine' W.step rfl (.of (gN rfl rfl rfl (kT Q g0) rfl rfl rfl fun c4=>?_));refine aJ ?_;refine ad.draw rfl (by kernel_rfl) (a6:=[.val 0,.val 1,.val 2,.val 3,.val 5,.val 6,.val 7,.val 8,.val 10,.val 11,.val 12,.val 13,.bZ 4,.cq [13,12,11,10,8,7,6,5],.bZ 9,.cq [13,12,11,10],.bZ 14,.val 15,.val 16,.val 17]) (by kernel_rfl) ?_;refine bd rfl V.cN ?_;refine bd rfl V.cP ?_;refine bd rfl V.cN ?_;refine bd rfl V.cP ?_;refine bd rfl V.cN ?_;refine bd rfl V.cP ?_;refine bd rfl V.cN ?_;refine bd rfl V.cP ?_;refine bd rfl V.cN ?_;refine bd rfl V.cP ?_;refine bd rfl V.cN ?_;refine bd rfl V.cP ?_;refine bR.jP ?_;refine' bh.ea rfl rfl rfl rfl rfl rfl rfl rfl rfl dC (uQ dR.n gg.d (by omega) (by omega)) ?_;rintro v' m' bO a' ⟨_,rfl,e3⟩;have jk:=e3.gJ;obtain⟨fF,hb,rfl,gi⟩:=jk.dJ;refine bh.cq eV ?_;refine' bh.ea rfl rfl rfl rfl rfl rfl rfl rfl rfl (cp (fun _ aK=>m7.ag a' (by rw[dR.n.uU (gg.n.mono a') a' (jR aK).1,gg.d.uU (dR.d.mono a') a' (jR aK).2]) rfl) dC) (uQ (gg.n.mono a') (dR.d.mono a') (by omega) (by omega)) ?_;rintro v' m' eL bW ⟨_,rfl,fm⟩;have k4:=fm.gJ;obtain⟨gp,e1,rfl,iO⟩:=k4.dJ;refine bh.cq eV ?_;refine' bh.ea rfl rfl rfl rfl rfl rfl rfl rfl rfl (cp (fun _ aK=>m7.ag bW (by rw[(gg.n.mono a').uU ((dR.d.mono a').mono bW) bW (jR aK).1,(dR.d.mono a').uU ((gg.d.mono a').mono bW) bW (jR aK).2]) rfl) (cp (fun _ aK=>m7.ag (a'.trans bW) (by rw[dR.n.uU ((dR.d.mono a').mono bW) (a'.trans bW) (jR aK).1]) rfl) dC)) (uQ ((dR.d.mono a').mono bW) ((gg.d.mono a').mono bW) (by omega) (by omega)) ?_
 rintro v' m' hG dc ⟨_,rfl,hA⟩;have oc:=hA.gJ;obtain⟨kG,hJ,rfl,nJ⟩:=oc.dJ;rw[<-fA] at jk;rw[<-k7] at k4;rw[<-eb] at oc;have jk:=(jk.mono bW).mono dc;have k4:=k4.mono dc;rw[<-fA,<-k7,<-eb];refine bh.jO (fun x j=>jX (f:=fun x=>(x.f,x.ca)) j) ?_;refine fX ?_;refine bR.nil ?_;refine ma [2,3,4,5,6,7] ?_;refine aM ?_;refine' ad.nd 0 [(27,.bool (decide (((r.z<0)↔(s.z<0)))))] ?Qy ?Q8;case Qy=>
  refine ad.region ?_;refine I V.cN ?_;refine I V.cP ?_;refine I V.cN ?_;refine I V.cP ?_;refine' W.step rfl (Exec.val rfl rfl (z1 rfl rfl rfl (.inl ⟨rfl,rfl⟩) (by kernel_rfl)) ?_);refine bU ?_;refine'⟨⟨_,rfl,⟨?Wd,rfl,rfl,rfl,rfl,rfl,rfl,trivial⟩⟩,cl _,rfl⟩;case Wd=>first|exact pe rfl (by first|omega|(by_cases a:r.z<0<;>by_cases b:s.z<0<;>simp[a,b]))|exact pc rfl (by first|omega|(by_cases a:r.z<0<;>by_cases b:s.z<0<;>simp[a,b]))|exact pd rfl (by first|omega|(by_cases a:r.z<0<;>by_cases b:s.z<0<;>simp[a,b]))|exact pb rfl (by first|omega|(by_cases a:r.z<0<;>by_cases b:s.z<0<;>simp[a,b]))
 case Q8=>
  refine aM ?_;refine If (fun kJ=>?_) fun kJ=>?_
  ·have p:=dG kJ;refine aM ?_;refine ad.draw rfl (by kernel_rfl) (a6:=[.val 0,.val 1,.val 2,.val 3,.val 5,.bZ 4,.cq [5,1,0],.bZ 6,.bZ 7]) (by kernel_rfl) ?_;refine bd rfl V.cN ?_;refine bd rfl V.cP ?_;refine bd rfl V.aT ?_;refine bd rfl V.aT ?_;refine bd rfl V.aT ?_;refine bR.jP ?_;refine' bh.ea rfl rfl rfl rfl rfl rfl rfl rfl rfl dC (Xu jk k4 (by omega) (by omega)) ?_;rintro v' m' kc dz ⟨_,rfl,al⟩;have nm:=al.gJ;obtain⟨lH,jB,rfl,rb⟩:=nm.dJ;refine bh.cq eV ?_;refine' bh.ea rfl rfl rfl rfl rfl rfl rfl rfl rfl (cp (c0 rfl) dC) (B5 (z:=Z) nk p.1 (fun h=>mo.2 (p.2 h)) nm (oc.mono dz) (by omega) (by omega)) ?_;rintro v' m' nW eA ⟨_,rfl,fa,fh,rfl,cg⟩;have da:=cg;obtain⟨m9,gQ,rfl,sO⟩:=cg.n.dJ;obtain⟨qk,dP,rfl,sN⟩:=cg.d.dJ;refine bh.jO (fun x j=>jX (f:=fun x=>(x.f,x.ca)) j) ?_;refine oZ rfl ?_;refine bR.nil ?_;refine aM ?_;refine ad.ret ?_;refine'⟨.inr rfl,rfl,_,[],.cell rfl (by repeat first|exact .head _|refine .tail _ ?_|refine eU _ ?_) (gh (fs rfl) rfl) (.nil),b1 _,⟨a'.trans (bW.trans (dc.trans (dz.trans eA))),rfl,_,_,rfl,da⟩⟩
  ·have MC:=iN kJ;refine lf ?_;refine aH ?_;refine cm (G:=GB jk k4 (by omega)) (h:=?_);rintro v' m' ai hle ⟨rfl,rfl,rfl⟩;refine I V.bk ?_;refine aJ ?_;refine If (fun vj=>?_) fun vj=>?_
   ·have hZ:Y<=X:=by
      rcases gX X Y with q|q
      ·rw[vl q] at vj;omega
      ·exact q
    have p:=MC.1 hZ;refine aM ?_;refine ad.draw rfl (by kernel_rfl) (a6:=[.val 0,.val 1,.val 2,.val 3,.val 5,.bZ 4,.cq [5,1,0],.bZ 6,.bZ 7]) (by kernel_rfl) ?_;refine bd rfl V.cN ?_;refine bd rfl V.cP ?_;refine bd rfl V.aT ?_;refine bd rfl V.aT ?_;refine bd rfl V.aT ?_;refine bR.jP ?_;refine' bh.ea rfl rfl rfl rfl rfl rfl rfl rfl rfl dC (LO jk k4 hZ (by omega) (by omega)) ?_;rintro v' m' kc dz ⟨_,rfl,al⟩;have nm:=al.gJ;obtain⟨lH,jB,rfl,rb⟩:=nm.dJ;refine bh.cq eV ?_;refine' bh.ea rfl rfl rfl rfl rfl rfl rfl rfl rfl (cp (c0 rfl) dC) (B5 (z:=Z) nk p.1 (fun h=>mo.2 (p.2 h)) nm (oc.mono dz) (by omega) (by omega)) ?_;rintro v' m' nW eA ⟨_,rfl,fa,fh,rfl,cg⟩;have da:=cg;obtain⟨m9,gQ,rfl,sO⟩:=cg.n.dJ;obtain⟨qk,dP,rfl,sN⟩:=cg.d.dJ;refine bh.jO (fun x j=>jX (f:=fun x=>(x.f,x.ca)) j) ?_;refine oZ rfl ?_;refine bR.nil ?_;refine aM ?_;refine ad.ret ?_;refine'⟨.inr rfl,rfl,_,[],.cell rfl (by repeat first|exact .head _|refine .tail _ ?_|refine eU _ ?_) (gh (fs rfl) rfl) (.nil),b1 _,⟨a'.trans (bW.trans (dc.trans (dz.trans eA))),rfl,_,_,rfl,da⟩⟩
   ·have cx:X<Y:=by
      rcases gX X Y with q|q
      ·exact q
      ·exfalso
       rcases Nat.eq_or_lt_of_le q with q|q
       ·rw[tr q.symm] at vj;omega
       ·rw[xZ q] at vj;omega
    have p:=MC.2 cx;refine fJ ?_;refine aM ?_;refine ad.draw rfl (by kernel_rfl) (a6:=[.val 0,.val 1,.val 2,.val 3,.val 5,.bZ 4,.cq [5,1,0],.bZ 6,.bZ 7]) (by kernel_rfl) ?_;refine bd rfl V.cN ?_;refine bd rfl V.cP ?_;refine bd rfl V.aT ?_;refine bd rfl V.aT ?_;refine bd rfl V.aT ?_;refine bR.jP ?_;refine' bh.ea rfl rfl rfl rfl rfl rfl rfl rfl rfl dC (LO k4 jk (xB cx) (by omega) (by omega)) ?_;rintro v' m' kc dz ⟨_,rfl,al⟩;have nm:=al.gJ;obtain⟨lH,jB,rfl,rb⟩:=nm.dJ;refine bh.cq eV ?_;refine' bh.ea rfl rfl rfl rfl rfl rfl rfl rfl rfl (cp (c0 rfl) dC) (B5 (z:=Z) nk p.1 (fun h=>mo.2 (p.2 h)) nm (oc.mono dz) (by omega) (by omega)) ?_;rintro v' m' nW eA ⟨_,rfl,fa,fh,rfl,cg⟩;have da:=cg;obtain⟨m9,gQ,rfl,sO⟩:=cg.n.dJ;obtain⟨qk,dP,rfl,sN⟩:=cg.d.dJ;refine bh.jO (fun x j=>jX (f:=fun x=>(x.f,x.ca)) j) ?_;refine oZ rfl ?_;refine bR.nil ?_;refine aM ?_;refine ad.ret ?_;refine'⟨.inr rfl,rfl,_,[],.cell rfl (by repeat first|exact .head _|refine .tail _ ?_|refine eU _ ?_) (gh (fs rfl) rfl) (.nil),b1 _,⟨a'.trans (bW.trans (dc.trans (dz.trans eA))),rfl,_,_,rfl,da⟩⟩
theorem VW{r:cv}{v1 v2:Value}(ap:ho J r v1 v2):Fn (aS Q g0) 23 [dF r v1 v2] [] J (fun u m' ai=>u=dF ⟨-r.z,r.d⟩ v1 v2/\m'=[]/\J=ai):=by
 obtain⟨bV,bE,rfl,aQ⟩:=ap.n.dJ;obtain⟨b7,b8,rfl,aP⟩:=ap.d.dJ;refine Fn.cH (cK Tryz.func23) rfl rfl fun H=>?_;refine rg ?_;refine fl fun bP=>?_;refine' W.step rfl (.of (gN rfl rfl rfl (kT Q g0) rfl rfl rfl fun bS=>?_));refine bg ?_;refine I V.cN ?_;refine I V.cP ?_;refine I V.pO ?_;refine I V.aT ?_;refine gP 6 (fun jE=>?_) fun jE=>?_
 ·refine bF V.cN ?_;refine bF V.cP ?_;refine bF V.h2 ?_;refine bF V.bk ?_;refine I V.bx ?_;refine I V.cN ?_;refine fM ?_;refine bg ?_;refine I V.fH ?_;refine fM ?_;refine aJ ?_;refine ad.ret ?_;refine'⟨.inr rfl,rfl,_,[],.cell rfl (by repeat first|exact .head _|refine .tail _ ?_|refine eU _ ?_) (gh (fs rfl) rfl) (.nil),b1 _,?_⟩;first
   |exact⟨ak (fun b=>Value.agg #[.bool b,.slice bV _ bE,.slice b7 _ b8]) (show decide (0<((aj r.z.natAbs).length:Int))=decide (-r.z<0) from mo.2 ⟨fun h=>by have:=F1 (x:=r.z.natAbs) (by omega);omega,fun h=>by have:=pI (x:=r.z.natAbs) (by omega);omega⟩),rfl,rfl⟩
   |exact⟨ak (fun b=>Value.agg #[.bool b,.slice bV _ bE,.slice b7 _ b8]) (show false=decide (-r.z<0) from(gd (by omega)).symm),rfl,rfl⟩
 ·refine cz ?_;refine cz ?_;refine cz ?_;refine cz ?_;refine I V.bx ?_;refine I V.cN ?_;refine fM ?_;refine bg ?_;refine I V.fH ?_;refine fM ?_;refine aJ ?_;refine ad.ret ?_;refine'⟨.inr rfl,rfl,_,[],.cell rfl (by repeat first|exact .head _|refine .tail _ ?_|refine eU _ ?_) (gh (fs rfl) rfl) (.nil),b1 _,?_⟩;first
   |exact⟨ak (fun b=>Value.agg #[.bool b,.slice bV _ bE,.slice b7 _ b8]) (show decide (0<((aj r.z.natAbs).length:Int))=decide (-r.z<0) from mo.2 ⟨fun h=>by have:=F1 (x:=r.z.natAbs) (by omega);omega,fun h=>by have:=pI (x:=r.z.natAbs) (by omega);omega⟩),rfl,rfl⟩
   |exact⟨ak (fun b=>Value.agg #[.bool b,.slice bV _ bE,.slice b7 _ b8]) (show false=decide (-r.z<0) from(gd (by omega)).symm),rfl,rfl⟩
theorem Ms{r s:cv}{v1 v2 bc b6:Value}(ap:ho J r v1 v2)(ag:ho J s bc b6)(rd:0<r.d)(gM:0<s.d)(eJ:(aj r.z.natAbs).length<=10)(ei:(aj r.d).length<=10)(iu:(aj s.z.natAbs).length<=10)(ka:(aj s.d).length<=10):Fn (aS Q g0) 8 [dF r v1 v2,dF s bc b6] [] J (fun u m' ai=>J.le ai/\m'=[]/\u=.int .i64 (oT (r.z*s.d -s.z*r.d))):=by
 have dR:=ap;have gg:=ag;obtain⟨bV,bE,rfl,aQ⟩:=ap.n.dJ;obtain⟨b7,b8,rfl,aP⟩:=ap.d.dJ;obtain⟨c5,dj,rfl,bC⟩:=ag.n.dJ;obtain⟨dM,eg,rfl,dp⟩:=ag.d.dJ;have nk:0<r.d*s.d:=gm rd gM;have KJ:ho J (⟨-s.z,s.d⟩:cv) (.slice c5 (aj s.z.natAbs).length dj) (.slice dM (aj s.d).length eg):=⟨by show dE J _ (-s.z).natAbs;rw[xn];exact gg.n,gg.d⟩;have VL:(aj (-s.z).natAbs).length<=10:=by rw[xn];exact iu
 obtain⟨Z,yA⟩:∃Z,Z=r.z*s.d+-s.z*r.d:=⟨_,rfl⟩;have Tc:r.z*s.d -s.z*r.d=Z:=by rw[yA,Aq,HL]
 rw[Tc];have hf:=zB (z:=Z) nk;refine Fn.cH (cK Tryz.func8) rfl rfl fun H=>?_;refine rg ?_;refine fl fun bS=>?_;refine fl fun cE=>?_;refine I V.aI ?_;refine aJ ?_;refine ad.draw rfl (by kernel_rfl) (a6:=[.kF 4,.val 0,.val 1,.bZ 2,.cq [0],.bZ 3,.bZ 5]) (by kernel_rfl) ?_;refine bR.alloc rfl rfl rfl rfl rfl (kT Q g0) rfl rfl rfl fun cO=>?_;refine bd rfl V.fH ?_;refine bd rfl V.fH ?_;refine bR.jP ?_;refine' bh.ea rfl rfl rfl rfl rfl rfl rfl rfl rfl dC (VW gg) ?_;rintro v' m' ai hle ⟨rfl,rfl,rfl⟩;refine bh.cq eV ?_;refine' bh.ea rfl rfl rfl rfl rfl rfl rfl rfl rfl (cp (c0 rfl) dC) (MB (s:=⟨-s.z,s.d⟩) rfl rfl dR KJ rd gM eJ ei VL ka) ?_;rintro v' m' bO a' ⟨_,rfl,fa,fh,rfl,cg⟩;rw[show r.z*((⟨-s.z,s.d⟩:cv).d:Int)+(⟨-s.z,s.d⟩:cv).z*r.d=Z from yA.symm,show r.d*(⟨-s.z,s.d⟩:cv).d=r.d*s.d from rfl] at cg ⊢;have da:=cg;obtain⟨m9,gQ,rfl,sO⟩:=cg.n.dJ;obtain⟨qk,dP,rfl,sN⟩:=cg.d.dJ;refine bh.jO (fun x j=>jX (f:=fun x=>(x.f,x.ca)) j) ?_;refine oZ rfl ?_;refine bR.nil ?_;refine aM ?_;refine ad.block ?_;refine rg ?_;refine I V.cN ?_;refine I V.cP ?_;refine I V.h2 ?_;refine I V.bk ?_;refine I V.aI ?_;refine aJ ?_;refine If (fun dP=>?_) fun dP=>?_
 ·have a0:(a9 Z (r.d*s.d)).z=0:=by
   rcases ke (a9 Z (r.d*s.d)).z.natAbs with q|q
   ·omega
   ·have:=pI (hR q);omega
  refine rg ?_;refine I V.aI ?_;refine aJ ?_;refine ad.ret ?_;refine'⟨.inr rfl,rfl,_,[],.tmp rfl .nil,b1 _,?_⟩;first
   |exact⟨a',rfl,by rw[hf.2.2.1 a0];rfl⟩
 ·have a0:(a9 Z (r.d*s.d)).z≠0:=fun q=>by
   rw[q] at dP;rw[show(0:Int).natAbs=0 from rfl,ks] at dP;exact dP rfl
  refine rg ?_;refine I V.cN ?_;refine I V.cP ?_;refine I V.aI ?_;refine aJ ?_;refine If (fun fW=>?_) fun fW=>?_
  ·refine rg ?_;refine I V.aI ?_;refine aJ ?_;refine ad.ret ?_;refine'⟨.inr rfl,rfl,_,[],.tmp rfl .nil,b1 _,?_⟩;first
    |exact⟨a',rfl,by rw[hf.2.2.1 a0];rfl⟩
    |(have c:=fW
      exact⟨a',rfl,by
          have U:=mt hf.2.2.2 a0;have ab:=hf.2.1.1 c;unfold oT;rw[a1 U,bs ab];rfl⟩)
    |(have c:=fW
      exact⟨a',rfl,by
          have U:=mt hf.2.2.2 a0;have ab:=mt hf.2.1.2 c;unfold oT;rw[a1 U,a1 ab];rfl⟩)
  ·refine aM ?_;refine ad.skip ?_;refine rg ?_;refine I V.aI ?_;refine aJ ?_;refine ad.ret ?_;refine'⟨.inr rfl,rfl,_,[],.tmp rfl .nil,b1 _,?_⟩;first
    |exact⟨a',rfl,by rw[hf.2.2.1 a0];rfl⟩
    |(have c:=fW
      exact⟨a',rfl,by
          have U:=mt hf.2.2.2 a0;have ab:=hf.2.1.1 c;unfold oT;rw[a1 U,bs ab];rfl⟩)
    |(have c:=fW
      exact⟨a',rfl,by
          have U:=mt hf.2.2.2 a0;have ab:=mt hf.2.1.2 c;unfold oT;rw[a1 U,a1 ab];rfl⟩)
theorem aas{r:cv}{v1 v2:Value}(ap:ho J r v1 v2):Fn (aS Q g0) 11 [dF r v1 v2] [] J (fun u m' ai=>u=.bool (decide (r.z=0))/\m'=[]/\J=ai):=by
 obtain⟨bV,bE,rfl,aQ⟩:=ap.n.dJ;obtain⟨b7,b8,rfl,aP⟩:=ap.d.dJ;refine Fn.cH (cK Tryz.func11) rfl rfl fun H=>?_;refine rg ?_;refine fl fun bP=>?_;refine I V.aI ?_;refine bg ?_;refine I V.cN ?_;refine I V.cP ?_;refine I V.h2 ?_;refine I V.bk ?_;refine I V.aI ?_;refine aJ ?_;refine ad.ret ?_;refine'⟨.inr rfl,rfl,_,[],.tmp rfl .nil,b1 _,?_⟩;exact⟨ak Value.bool (show decide (((aj r.z.natAbs).length:Int)=0)=decide (r.z=0) from mo.2 ⟨fun h=>by
  rcases ke r.z.natAbs with q|q
  ·omega
  ·have:=pI (hR q);omega,fun h=>by rw[h,show(0:Int).natAbs=0 from rfl,ks];rfl⟩),rfl,rfl⟩
theorem Xo{v w:Value}{x y:Nat}(U:dE J v x)(ab:dE J w y)(oV:y≠0)(iK:(aj x).length<=100)(ia:(aj y).length<=100):Fn (aS Q g0) 45 [v,w] [] J (fun u m' ai=>u=.int .i64 0/\m'=[]/\J=ai):=by
 have gS:=U;have g1:=ab;obtain⟨bV,bE,rfl,aQ⟩:=U.dJ;obtain⟨b7,b8,rfl,aP⟩:=ab.dJ;have aC:=pI oV;refine Fn.cH (cK Tryz.func45) rfl rfl fun H=>?_;refine rg ?_;refine I V.aI ?_;refine bg ?_;refine I V.aT ?_;refine cm (G:=I2 gS iK) (h:=?_);rintro v' m' ai hle ⟨rfl,rfl,rfl⟩;refine I V.aI ?_;refine bg ?_;refine I V.aT ?_;refine I V.bk ?_;refine aJ ?_;refine If (fun dP=>?_) fun dP=>?_
 ·exfalso;exact dP rfl
 ·refine aM ?_;refine ad.skip ?_;refine rg ?_;refine I V.aT ?_;refine cm (G:=I2 g1 ia) (h:=?_);rintro v' m' ai hle ⟨rfl,rfl,rfl⟩;refine I V.aI ?_;refine bg ?_;refine I V.aT ?_;refine I V.bk ?_;refine aJ ?_;refine If (fun fW=>?_) fun fW=>?_
  ·exfalso;exact fW rfl
  ·refine aM ?_;refine ad.skip ?_;refine rg ?_;refine aH ?_;refine I V.bk ?_;refine aJ ?_;refine If (fun qo=>?_) fun qo=>?_
   ·exfalso;omega
   ·refine aM ?_;refine ad.skip ?_;refine rg ?_;refine I V.aI ?_;refine aJ ?_;refine ad.ret ?_;refine'⟨.inr rfl,rfl,_,[],.tmp rfl .nil,b1 _,⟨rfl,rfl,rfl⟩⟩
theorem P'{r:cv}{v1 v2:Value}(ap:ho J r v1 v2)(gR:r.fi)(iK:(aj r.z.natAbs).length<=100)(ia:(aj r.d).length<=100):Fn (aS Q g0) 22 [dF r v1 v2] [] J (fun u m' ai=>J.le ai/\m'=[]/\u=.int .i64 0):=by
 have dR:=ap;obtain⟨bV,bE,rfl,aQ⟩:=ap.n.dJ;obtain⟨b7,b8,rfl,aP⟩:=ap.d.dJ;have ar:Nat.gcd r.z.natAbs r.d=1:=gR.2;have JT:aj 1=[1]:=by rw[zm (by decide)];rfl
 refine Fn.cH (cK Tryz.func22) rfl rfl fun H=>?_;refine rg ?_;refine fl fun bP=>?_;refine I V.aI ?_;refine bg ?_;refine I V.cN ?_;refine I V.ec ?_;refine I V.cN ?_;refine I V.ec ?_;refine cm (G:=Xo dR.n dR.d (hR gR.1) iK ia) (h:=?_);rintro v' m' ai hle ⟨rfl,rfl,rfl⟩;refine I V.aI ?_;refine bg ?_;refine I V.aT ?_;refine I V.bk ?_;refine aJ ?_;refine If (fun dP=>?_) fun dP=>?_
 ·exfalso;exact dP rfl
 ·refine aM ?_;refine ad.skip ?_;refine rg ?_;refine I V.cN ?_;refine I V.ec ?_;refine I V.cN ?_;refine I V.ec ?_;refine cm (G:=DQ dR.n dR.d iK ia) (h:=?_);rintro v' m' bO hle ⟨a',rfl,hA⟩;rw[ar] at hA;have oc:dx .u32 bO v' (aj 1):=hA;rw[JT] at oc;have SP:∃b c,v'=.slice b 1 c:=oc.form;obtain⟨fF,hb,rfl⟩:=SP;refine I V.h2 ?_;refine I V.bk ?_;refine I V.aT ?_;refine gP 19 (fun Sz=>?_) fun Sz=>?_
  ·exfalso;omega
  ·refine bF V.cN ?_;refine bF V.ec ?_;refine bF V.cN ?_;refine bF V.ec ?_;refine to (G:=DQ (dR.n.mono a') (dR.d.mono a') iK ia) (h:=?_);rintro v' m' eL hle ⟨bW,rfl,jl⟩;rw[ar] at jl;have Ew:dx .u32 eL v' (aj 1):=jl;rw[JT] at Ew;have SS:∃b c,v'=.slice b 1 c:=Ew.form;obtain⟨gp,e1,rfl⟩:=SS;obtain⟨aaT,Wz,Qf,abh,rfl,abu,UF⟩:=Ew.dv Nat.one_pos;have abT:nth Qf (Wz+(0:Int).toNat*1)=some (.int .u32 1):=UF 0 1 rfl;refine bF V.bw ?_;refine bF V.ec ?_;refine bF V.bk ?_;refine I V.bx ?_;refine I V.aT ?_;refine gP 29 (fun Sx=>?_) fun Sx=>?_
   ·exfalso;omega
   ·refine bF V.cN ?_;refine bF V.ec ?_;refine bF V.aT ?_;refine gP 32 (fun Sy=>?_) fun Sy=>?_
    ·refine bF V.cN ?_;refine bF V.ec ?_;refine bF V.h2 ?_;refine bF V.bk ?_;refine bF V.bx ?_;refine I V.bx ?_;refine aJ ?_;refine If (fun vj=>?_) fun vj=>?_
     ·exfalso;have:=pI (x:=r.z.natAbs) (by omega);omega
     ·refine aM ?_;refine ad.skip ?_;refine rg ?_;refine I V.aI ?_;refine aJ ?_;refine ad.ret ?_;refine'⟨.inr rfl,rfl,_,[],.tmp rfl .nil,b1 _,⟨a'.trans bW,rfl,rfl⟩⟩
    ·refine cz ?_;refine cz ?_;refine cz ?_;refine cz ?_;refine bF V.bx ?_;refine I V.bx ?_;refine aJ ?_;refine ad.rU rfl ?_;refine lf ?_;refine I V.aI ?_;refine aJ ?_;refine ad.ret ?_;refine'⟨.inr rfl,rfl,_,[],.tmp rfl .nil,b1 _,⟨a'.trans bW,rfl,rfl⟩⟩
theorem VH{rs:List cv}{b:Option Addr}{c:Nat}(h:eO J 32 3 (gn J) (.slice b rs.length c) rs)(aw:rs.length<=1000)(aF:∀r∈rs,r.fi/\(aj r.z.natAbs).length<=100/\(aj r.d).length<=100):Fn (aS Q g0) 7 [.slice b rs.length c] [] J (fun u m' ai=>J.le ai/\m'=[]/\u=.int .i64 0):=by
 obtain⟨_,iW⟩:=h.at;refine Fn.cH (cK Tryz.func7) rfl rfl fun H=>?_;refine rg ?_;refine I V.aI ?_;refine bg ?_;refine I V.aI ?_;refine aJ ?_;refine ad.block ?_;refine' ad.eZ (l':=[(3,.int .i64 ((0):Int)),(0,_)]) ⟨?dX,rfl,trivial⟩ (cl _) ?_;case dX=>first|exact cu|exact ak some (ak (Value.int .u64) (by omega))|exact ak some (ak (Value.int .i64) (by omega))
 refine aM ?_;refine' ad.hN (fun(cT:Nat×an)=>match cT with|(i,fT)=>⟨[(3,.int .i64 (i:Int))],[],fT,i<=rs.length/\J.le fT,rs.length -i⟩) ⟨0,J⟩ ?ag ?b2
 case ag=>exact⟨fj _,an.le.refl _⟩
 case b2=>
  rintro⟨i,fT⟩ hinv;try simp only at hinv
  obtain⟨aq,fP⟩:=hinv;refine rg ?_;refine aH ?_;refine I V.bk ?_;refine aJ ?_;refine If (fun jB=>?_) fun jB=>?_
  ·obtain⟨a,off,cells,bl,rfl,kL,kN⟩:=iW (by omega);obtain⟨r,cs,ap,hK,yN,v1,v2,rfl,et⟩:=kN i (by omega) (by omega);rw[jW] at ap;have kL:=fP _ _ kL;have af:=aF r (nZ ap);have k6:=et.mono fP;obtain⟨bV,bE,rfl,aQ⟩:=et.n.dJ;obtain⟨b7,b8,rfl,aP⟩:=et.d.dJ;refine fJ ?_;refine aM ?_;refine ad.block ?_;refine rg ?_;refine aH ?_;refine I V.bw ?_;refine I V.kQ ?_;refine cm (G:=P' k6 af.1 af.2.1 af.2.2) (h:=?_);rintro v' m' bO hle ⟨a',rfl,rfl⟩;refine I V.aI ?_;refine bg ?_;refine I V.aT ?_;refine I V.bk ?_;refine aJ ?_;refine If (fun qn=>?_) fun qn=>?_
   ·exfalso;exact qn rfl
   ·refine aM ?_;refine ad.skip ?_;refine rg ?_;refine I V.aT ?_;refine I V.bX ?_;refine I V.aI ?_;refine bU ?_;refine hO ⟨i+1,bO⟩ ?_;exact⟨by omega,fP.trans a'⟩
  ·refine aM ?_;refine ad.exit ?_;refine rg ?_;refine I V.aI ?_;refine aJ ?_;refine ad.ret ?_;refine'⟨.inr rfl,rfl,_,[],.tmp rfl .nil,b1 _,⟨fP,rfl,rfl⟩⟩
end
end
end Go.Opn

/- A part of the proof of TableClose. -/
import Derived.Test.YtpahonhejmlnpaaGreatDoorCbm
set_option maxRecDepth 100000
set_option maxHeartbeats 8000000
set_option linter.unusedVariables false
set_option linter.unusedSimpArgs false
namespace Go.Opn
noncomputable section
open Go.Cre Go.RowKit Go.Proofs
theorem fh.ab8{g0:Nat}{B:dt}{J:an}{H:ai}{e:TypeId}{sz k:Nat}{v:Value}{cells:List Value}{ba:aU}(h:fh e sz v k cells ba)(av:Inv g0 B J ba H):∃ae,J.le ae/\Inv g0 B ae [] H/\ey ae e sz v k cells:=by
 rcases ly k with rfl|hk
 ·rcases h with⟨h,a0,aw⟩|⟨a,full,rest,rfl,rfl,aY,bu,gI⟩
  ·cases h with
   |nil=>exact⟨J,an.le.refl _,av,.nil⟩
   |ik a=>exact⟨J,an.le.refl _,av,.ik _ _ _ (by decide)⟩
   |opn aa ab=>
    obtain⟨a9,a4⟩:=av.iW (x:=(_,e)) rfl;exact⟨_,a4,a9,.row (an.hH _ _ _) (by rw[nV] at aa ⊢;rw[pH aa];rfl) aa (fun q=>absurd rfl q) (fun _=>rfl)⟩
   |cap=>exact absurd (.head _) (aw _ _ _)
  ·obtain⟨a9,a4⟩:=av.iW (x:=(full,e)) rfl
   exact⟨_,a4,a9,.row (an.hH _ _ _) (by rw[kJ];exact bu) (by rw[<-bu,gp];omega) (fun q=>absurd rfl q) (fun _=>rfl)⟩
 ·obtain⟨a,full,rest,rfl,rfl,bu,aY⟩:=h.row hk
  obtain⟨a9,a4⟩:=av.iW (x:=(full,e)) rfl;exact⟨_,a4,a9,.row (an.hH _ _ _) (by rw[kJ];exact bu) (by rw[<-bu,gp];omega) (fun q=>absurd rfl q) (fun _=>rfl)⟩
def rZ(z:Int):Int:=if z=0 then 0 else if z<0 then -1 else 1
section
variable {Q:ek Tryz.prog}{g0:Nat}{J:an}
theorem Pq{v w:Value}{x y:Nat}(aa:dW J v x)(ab:dW J w y)(dT:y<=x)(aA:(ap x).length<=1000)(fZ:(ap y).length<=1000):Fn (aO Q g0) 30 [v,w] [] J (kp J (x -y)):=fun H av=>by
 obtain⟨u,H',ae,m',a9,a4,rfl,n8⟩:=Pp aa ab dT aA fZ H av;obtain⟨dR,aR,aN,bG⟩:=n8.ab8 a4;exact⟨u,H',dR,[],a9,aN,aR,rfl,bG⟩
theorem Qg{r s:cH}{x y:Bool}{v1 v2 bh cb:Value}(Xr:x=decide (r.z<0))(gJ:y=decide (s.z<0))(al:iD J r v1 v2)(af:iD J s bh cb)(rd:0<r.d)(gM:0<s.d)(fM:(ap r.z.natAbs).length<=10)(fg:(ap r.d).length<=10)(iu:(ap s.z.natAbs).length<=10)(jS:(ap s.d).length<=10):Fn (aO Q g0) 7 [.agg #[.bool x,v1,v2],.agg #[.bool y,bh,cb]] [] J (kq J (aV (r.z*s.d+s.z*r.d) (r.d*s.d))):=by
 subst Xr;subst gJ
 have dL:=al;have gf:=af;obtain⟨br,bn,rfl,aR⟩:=al.n.cU;obtain⟨bN,bQ,rfl,aN⟩:=al.d.cU;obtain⟨cW,cZ,rfl,bG⟩:=af.n.cU;obtain⟨dj,dH,rfl,dd⟩:=af.d.cU;obtain⟨X,fl⟩:∃X,X=r.z.natAbs*s.d:=⟨_,rfl⟩;obtain⟨Y,im⟩:∃Y,Y=s.z.natAbs*r.d:=⟨_,rfl⟩;obtain⟨D,er⟩:∃D,D=r.d*s.d:=⟨_,rfl⟩;obtain⟨Z,Af⟩:∃Z,Z=r.z*s.d+s.z*r.d:=⟨_,rfl⟩;have IG:(ap X).length<=20:=by rw[fl];exact A5 fM jS
 have O9:(ap Y).length<=20:=by rw[im];exact A5 iu fg
 have ZU:(ap D).length<=20:=by rw[er];exact A5 fg jS
 have D4:(ap (X+Y)).length<=21:=Z2 IG O9;have ahD:(ap (X -Y)).length<=20:=eh (v9 (Nat.sub_le _ _)) IG;have ahE:(ap (Y -X)).length<=20:=eh (v9 (Nat.sub_le _ _)) O9;have o2:0<D:=by rw[er];exact hV rd gM
 obtain⟨dm,hA⟩:=ab3 rd gM fl im Af;rw[<-Af,<-er];refine Fn.ck (ch Tryz.func7) rfl rfl fun H=>?_;refine rg ?_;refine fc fun bX=>?_;refine fc fun cy=>?_;refine' W.step rfl (.of (eS rfl rfl rfl (jY Q g0) rfl rfl rfl fun c0=>?_));refine aD ?_;refine ad.draw rfl (by kernel_rfl) (a2:=[.val 0,.val 1,.val 2,.val 3,.val 5,.val 6,.val 7,.val 8,.val 10,.val 11,.val 12,.val 13,.bA 4,.b2 [13,12,11,10,8,7,6,5],.bA 9,.b2 [13,12,11,10],.bA 14,.val 15,.val 16,.val 17]) (by kernel_rfl) ?_;refine a6 rfl V.cF ?_;refine a6 rfl V.cP ?_;refine a6 rfl V.cF ?_;refine a6 rfl V.cP ?_;refine a6 rfl V.cF ?_;refine a6 rfl V.cP ?_;refine a6 rfl V.cF ?_;refine a6 rfl V.cP ?_;refine a6 rfl V.cF ?_;refine a6 rfl V.cP ?_;refine a6 rfl V.cF ?_;refine a6 rfl V.cP ?_;refine bi.iU ?_;refine' aS.dO rfl rfl rfl rfl rfl rfl rfl rfl rfl c8 (tk dL.n gf.d (by omega) (by omega)) ?_;rintro v' m' bq a8 ⟨_,rfl,eL⟩;have gr:=eL.f';obtain⟨eU,e2,rfl,fm⟩:=gr.cU;refine aS.b2 ez ?_;refine' aS.dO rfl rfl rfl rfl rfl rfl rfl rfl rfl (cj (fun _ aK=>kp.af a8 (by rw[dL.n.wK (gf.n.mono a8) a8 (k0 aK).1,gf.d.wK (dL.d.mono a8) a8 (k0 aK).2]) rfl) c8) (tk (gf.n.mono a8) (dL.d.mono a8) (by omega) (by omega)) ?_;rintro v' m' dR bO ⟨_,rfl,ep⟩;have h2:=ep.f';obtain⟨eP,dU,rfl,ho⟩:=h2.cU;refine aS.b2 ez ?_;refine' aS.dO rfl rfl rfl rfl rfl rfl rfl rfl rfl (cj (fun _ aK=>kp.af bO (by rw[(gf.n.mono a8).wK ((dL.d.mono a8).mono bO) bO (k0 aK).1,(dL.d.mono a8).wK ((gf.d.mono a8).mono bO) bO (k0 aK).2]) rfl) (cj (fun _ aK=>kp.af (a8.trans bO) (by rw[dL.n.wK ((dL.d.mono a8).mono bO) (a8.trans bO) (k0 aK).1]) rfl) c8)) (tk ((dL.d.mono a8).mono bO) ((gf.d.mono a8).mono bO) (by omega) (by omega)) ?_
 rintro v' m' fV cL ⟨_,rfl,il⟩;have rn:=il.f';obtain⟨jM,gA,rfl,mf⟩:=rn.cU;rw[<-fl] at gr;rw[<-im] at h2;rw[<-er] at rn;have gr:=(gr.mono bO).mono cL;have h2:=h2.mono cL;rw[<-fl,<-im,<-er];refine aS.jj (fun x U=>ju (f:=fun x=>(x.f,x.cl)) U) ?_;refine e3 ?_;refine bi.nil ?_;refine mj [2,3,4,5,6,7] ?_;refine aG ?_;refine' ad.oU 0 [(27,.bool (decide (((r.z<0)↔(s.z<0)))))] ?Uw ?U3;case Uw=>
  refine ad.region ?_;refine I V.cF ?_;refine I V.cP ?_;refine I V.cF ?_;refine I V.cP ?_;refine' W.step rfl (Exec.val rfl rfl (uO rfl rfl rfl (.inl ⟨rfl,rfl⟩) (by kernel_rfl)) ?_);refine bR ?_;refine'⟨⟨_,rfl,⟨?aaw,rfl,rfl,rfl,rfl,rfl,rfl,trivial⟩⟩,cd _,rfl⟩;case aaw=>first|exact rc rfl (by first|omega|(by_cases a:r.z<0<;>by_cases b:s.z<0<;>simp[a,b]))|exact ra rfl (by first|omega|(by_cases a:r.z<0<;>by_cases b:s.z<0<;>simp[a,b]))|exact rb rfl (by first|omega|(by_cases a:r.z<0<;>by_cases b:s.z<0<;>simp[a,b]))|exact q' rfl (by first|omega|(by_cases a:r.z<0<;>by_cases b:s.z<0<;>simp[a,b]))
 case U3=>
  refine aG ?_;refine If (fun kt=>?_) fun kt=>?_
  ·have p:=dm kt;refine aG ?_;refine ad.draw rfl (by kernel_rfl) (a2:=[.val 0,.val 1,.val 2,.val 3,.val 5,.bA 4,.b2 [5,1,0],.bA 6,.bA 7]) (by kernel_rfl) ?_;refine a6 rfl V.cF ?_;refine a6 rfl V.cP ?_;refine a6 rfl V.aJ ?_;refine a6 rfl V.aJ ?_;refine a6 rfl V.aJ ?_;refine bi.iU ?_;refine' aS.dO rfl rfl rfl rfl rfl rfl rfl rfl rfl c8 (ab2 gr h2 (by omega) (by omega)) ?_;rintro v' m' lV eM ⟨_,rfl,ak⟩;have ru:=ak.f';obtain⟨j5,gR,rfl,m2⟩:=ru.cU;refine aS.b2 ez ?_;refine' aS.dO rfl rfl rfl rfl rfl rfl rfl rfl rfl (cj (cT rfl) c8) (yt (z:=Z) o2 p.1 (fun h=>oW.2 (p.2 h)) ru (rn.mono eM) (by omega) (by omega)) ?_;rintro v' m' qR gC ⟨_,rfl,fy,fF,rfl,bY⟩;have cK:=bY;obtain⟨hI,e7,rfl,lo⟩:=bY.n.cU;obtain⟨i',dq,rfl,ln⟩:=bY.d.cU;refine aS.jj (fun x U=>ju (f:=fun x=>(x.f,x.cl)) U) ?_;refine k7 rfl ?_;refine bi.nil ?_;refine aG ?_;refine ad.ret ?_;refine'⟨.inr rfl,rfl,_,[],.cell rfl (by repeat first|exact .head _|refine .tail _ ?_|refine d' _ ?_) (fb (dw rfl) rfl) (.nil),bZ _,⟨a8.trans (bO.trans (cL.trans (eM.trans gC))),rfl,_,_,rfl,cK⟩⟩
  ·have Qh:=hA kt;refine l8 ?_;refine aH ?_;refine b4 (G:=Jq gr h2 (by omega)) (h:=?_);rintro v' m' ae hle ⟨rfl,rfl,rfl⟩;refine I V.a' ?_;refine aD ?_;refine If (fun xa=>?_) fun xa=>?_
   ·have iR:Y<=X:=by
      rcases hr X Y with q|q
      ·rw[xc q] at xa;omega
      ·exact q
    have p:=Qh.1 iR;refine aG ?_;refine ad.draw rfl (by kernel_rfl) (a2:=[.val 0,.val 1,.val 2,.val 3,.val 5,.bA 4,.b2 [5,1,0],.bA 6,.bA 7]) (by kernel_rfl) ?_;refine a6 rfl V.cF ?_;refine a6 rfl V.cP ?_;refine a6 rfl V.aJ ?_;refine a6 rfl V.aJ ?_;refine a6 rfl V.aJ ?_;refine bi.iU ?_;refine' aS.dO rfl rfl rfl rfl rfl rfl rfl rfl rfl c8 (Pq gr h2 iR (by omega) (by omega)) ?_;rintro v' m' lV eM ⟨_,rfl,ak⟩;have ru:=ak.f';obtain⟨j5,gR,rfl,m2⟩:=ru.cU;refine aS.b2 ez ?_;refine' aS.dO rfl rfl rfl rfl rfl rfl rfl rfl rfl (cj (cT rfl) c8) (yt (z:=Z) o2 p.1 (fun h=>oW.2 (p.2 h)) ru (rn.mono eM) (by omega) (by omega)) ?_;rintro v' m' qR gC ⟨_,rfl,fy,fF,rfl,bY⟩;have cK:=bY;obtain⟨hI,e7,rfl,lo⟩:=bY.n.cU;obtain⟨i',dq,rfl,ln⟩:=bY.d.cU;refine aS.jj (fun x U=>ju (f:=fun x=>(x.f,x.cl)) U) ?_;refine k7 rfl ?_;refine bi.nil ?_;refine aG ?_;refine ad.ret ?_;refine'⟨.inr rfl,rfl,_,[],.cell rfl (by repeat first|exact .head _|refine .tail _ ?_|refine d' _ ?_) (fb (dw rfl) rfl) (.nil),bZ _,⟨a8.trans (bO.trans (cL.trans (eM.trans gC))),rfl,_,_,rfl,cK⟩⟩
   ·have cD:X<Y:=by
      rcases hr X Y with q|q
      ·exact q
      ·exfalso
       rcases Nat.eq_or_lt_of_le q with q|q
       ·rw[vj q.symm] at xa;omega
       ·rw[zI q] at xa;omega
    have p:=Qh.2 cD;refine e4 ?_;refine aG ?_;refine ad.draw rfl (by kernel_rfl) (a2:=[.val 0,.val 1,.val 2,.val 3,.val 5,.bA 4,.b2 [5,1,0],.bA 6,.bA 7]) (by kernel_rfl) ?_;refine a6 rfl V.cF ?_;refine a6 rfl V.cP ?_;refine a6 rfl V.aJ ?_;refine a6 rfl V.aJ ?_;refine a6 rfl V.aJ ?_;refine bi.iU ?_;refine' aS.dO rfl rfl rfl rfl rfl rfl rfl rfl rfl c8 (Pq h2 gr (zj cD) (by omega) (by omega)) ?_;rintro v' m' lV eM ⟨_,rfl,ak⟩;have ru:=ak.f';obtain⟨j5,gR,rfl,m2⟩:=ru.cU;refine aS.b2 ez ?_;refine' aS.dO rfl rfl rfl rfl rfl rfl rfl rfl rfl (cj (cT rfl) c8) (yt (z:=Z) o2 p.1 (fun h=>oW.2 (p.2 h)) ru (rn.mono eM) (by omega) (by omega)) ?_;rintro v' m' qR gC ⟨_,rfl,fy,fF,rfl,bY⟩;have cK:=bY;obtain⟨hI,e7,rfl,lo⟩:=bY.n.cU;obtain⟨i',dq,rfl,ln⟩:=bY.d.cU;refine aS.jj (fun x U=>ju (f:=fun x=>(x.f,x.cl)) U) ?_;refine k7 rfl ?_;refine bi.nil ?_;refine aG ?_;refine ad.ret ?_;refine'⟨.inr rfl,rfl,_,[],.cell rfl (by repeat first|exact .head _|refine .tail _ ?_|refine d' _ ?_) (fb (dw rfl) rfl) (.nil),bZ _,⟨a8.trans (bO.trans (cL.trans (eM.trans gC))),rfl,_,_,rfl,cK⟩⟩
theorem aaf{r:cH}{v1 v2:Value}(al:iD J r v1 v2):Fn (aO Q g0) 32 [cO r v1 v2] [] J (fun u m' ae=>u=cO ⟨-r.z,r.d⟩ v1 v2/\m'=[]/\J=ae):=by
 obtain⟨br,bn,rfl,aR⟩:=al.n.cU;obtain⟨bN,bQ,rfl,aN⟩:=al.d.cU;refine Fn.ck (ch Tryz.func32) rfl rfl fun H=>?_;refine rg ?_;refine fc fun bx=>?_;refine' W.step rfl (.of (eS rfl rfl rfl (jY Q g0) rfl rfl rfl fun bX=>?_));refine bb ?_;refine I V.cF ?_;refine I V.cP ?_;refine I V.nG ?_;refine I V.aJ ?_;refine gz 6 (fun j'=>?_) fun j'=>?_
 ·refine bM V.cF ?_;refine bM V.cP ?_;refine bM V.gL ?_;refine bM V.a' ?_;refine I V.bo ?_;refine I V.cF ?_;refine eG ?_;refine bb ?_;refine I V.gU ?_;refine eG ?_;refine aD ?_;refine ad.ret ?_;refine'⟨.inr rfl,rfl,_,[],.cell rfl (by repeat first|exact .head _|refine .tail _ ?_|refine d' _ ?_) (fb (dw rfl) rfl) (.nil),bZ _,?_⟩;first
   |exact⟨aj (fun b=>Value.agg #[.bool b,.slice br _ bn,.slice bN _ bQ]) (show decide (0<((ap r.z.natAbs).length:Int))=decide (-r.z<0) from oW.2 ⟨fun h=>by have:=II (x:=r.z.natAbs) (by omega);omega,fun h=>by have:=qj (x:=r.z.natAbs) (by omega);omega⟩),rfl,rfl⟩
   |exact⟨aj (fun b=>Value.agg #[.bool b,.slice br _ bn,.slice bN _ bQ]) (show false=decide (-r.z<0) from(e8 (by omega)).symm),rfl,rfl⟩
 ·refine c7 ?_;refine c7 ?_;refine c7 ?_;refine c7 ?_;refine I V.bo ?_;refine I V.cF ?_;refine eG ?_;refine bb ?_;refine I V.gU ?_;refine eG ?_;refine aD ?_;refine ad.ret ?_;refine'⟨.inr rfl,rfl,_,[],.cell rfl (by repeat first|exact .head _|refine .tail _ ?_|refine d' _ ?_) (fb (dw rfl) rfl) (.nil),bZ _,?_⟩;first
   |exact⟨aj (fun b=>Value.agg #[.bool b,.slice br _ bn,.slice bN _ bQ]) (show decide (0<((ap r.z.natAbs).length:Int))=decide (-r.z<0) from oW.2 ⟨fun h=>by have:=II (x:=r.z.natAbs) (by omega);omega,fun h=>by have:=qj (x:=r.z.natAbs) (by omega);omega⟩),rfl,rfl⟩
   |exact⟨aj (fun b=>Value.agg #[.bool b,.slice br _ bn,.slice bN _ bQ]) (show false=decide (-r.z<0) from(e8 (by omega)).symm),rfl,rfl⟩
theorem P3{r s:cH}{v1 v2 bh cb:Value}(al:iD J r v1 v2)(af:iD J s bh cb)(rd:0<r.d)(gM:0<s.d)(fM:(ap r.z.natAbs).length<=10)(fg:(ap r.d).length<=10)(iu:(ap s.z.natAbs).length<=10)(jS:(ap s.d).length<=10):Fn (aO Q g0) 10 [cO r v1 v2,cO s bh cb] [] J (fun u m' ae=>J.le ae/\m'=[]/\u=.int .i64 (rZ (r.z*s.d -s.z*r.d))):=by
 have dL:=al;have gf:=af;obtain⟨br,bn,rfl,aR⟩:=al.n.cU;obtain⟨bN,bQ,rfl,aN⟩:=al.d.cU;obtain⟨cW,cZ,rfl,bG⟩:=af.n.cU;obtain⟨dj,dH,rfl,dd⟩:=af.d.cU;have o2:0<r.d*s.d:=hV rd gM;have HQ:iD J (⟨-s.z,s.d⟩:cH) (.slice cW (ap s.z.natAbs).length cZ) (.slice dj (ap s.d).length dH):=⟨by show dW J _ (-s.z).natAbs;rw[y'];exact gf.n,gf.d⟩;have Z5:(ap (-s.z).natAbs).length<=10:=by rw[y'];exact iu
 obtain⟨Z,Af⟩:∃Z,Z=r.z*s.d+-s.z*r.d:=⟨_,rfl⟩;have Xd:r.z*s.d -s.z*r.d=Z:=by rw[Af,za,KP]
 rw[Xd];have h3:=Bq (z:=Z) o2;refine Fn.ck (ch Tryz.func10) rfl rfl fun H=>?_;refine rg ?_;refine fc fun bX=>?_;refine fc fun cy=>?_;refine I V.aI ?_;refine aD ?_;refine ad.draw rfl (by kernel_rfl) (a2:=[.iL 4,.val 0,.val 1,.bA 2,.b2 [0],.bA 3,.bA 5]) (by kernel_rfl) ?_;refine bi.alloc rfl rfl rfl rfl rfl (jY Q g0) rfl rfl rfl fun cr=>?_;refine a6 rfl V.gU ?_;refine a6 rfl V.gU ?_;refine bi.iU ?_;refine' aS.dO rfl rfl rfl rfl rfl rfl rfl rfl rfl c8 (aaf gf) ?_;rintro v' m' ae hle ⟨rfl,rfl,rfl⟩;refine aS.b2 ez ?_;refine' aS.dO rfl rfl rfl rfl rfl rfl rfl rfl rfl (cj (cT rfl) c8) (Qg (s:=⟨-s.z,s.d⟩) rfl rfl dL HQ rd gM fM fg Z5 jS) ?_;rintro v' m' bq a8 ⟨_,rfl,fy,fF,rfl,bY⟩;rw[show r.z*((⟨-s.z,s.d⟩:cH).d:Int)+(⟨-s.z,s.d⟩:cH).z*r.d=Z from Af.symm,show r.d*(⟨-s.z,s.d⟩:cH).d=r.d*s.d from rfl] at bY ⊢;have cK:=bY;obtain⟨hI,e7,rfl,lo⟩:=bY.n.cU;obtain⟨i',dq,rfl,ln⟩:=bY.d.cU;refine aS.jj (fun x U=>ju (f:=fun x=>(x.f,x.cl)) U) ?_;refine k7 rfl ?_;refine bi.nil ?_;refine aG ?_;refine ad.block ?_;refine rg ?_;refine I V.cF ?_;refine I V.cP ?_;refine I V.gL ?_;refine I V.a' ?_;refine I V.aI ?_;refine aD ?_;refine If (fun dq=>?_) fun dq=>?_
 ·have a0:(aV Z (r.d*s.d)).z=0:=by
   rcases ly (aV Z (r.d*s.d)).z.natAbs with q|q
   ·omega
   ·have:=qj (hD q);omega
  refine rg ?_;refine I V.aI ?_;refine aD ?_;refine ad.ret ?_;refine'⟨.inr rfl,rfl,_,[],.tmp rfl .nil,bZ _,?_⟩;first
   |exact⟨a8,rfl,by rw[h3.2.2.1 a0];rfl⟩
 ·have a0:(aV Z (r.d*s.d)).z≠0:=fun q=>by
   rw[q] at dq;rw[show(0:Int).natAbs=0 from rfl,kh] at dq;exact dq rfl
  refine rg ?_;refine I V.cF ?_;refine I V.cP ?_;refine I V.aI ?_;refine aD ?_;refine If (fun fQ=>?_) fun fQ=>?_
  ·refine rg ?_;refine I V.aI ?_;refine aD ?_;refine ad.ret ?_;refine'⟨.inr rfl,rfl,_,[],.tmp rfl .nil,bZ _,?_⟩;first
    |exact⟨a8,rfl,by rw[h3.2.2.1 a0];rfl⟩
    |(have c:=fQ
      exact⟨a8,rfl,by
          have aa:=mt h3.2.2.2 a0;have ab:=h3.2.1.1 c;unfold rZ;rw[a3 aa,bg ab];rfl⟩)
    |(have c:=fQ
      exact⟨a8,rfl,by
          have aa:=mt h3.2.2.2 a0;have ab:=mt h3.2.1.2 c;unfold rZ;rw[a3 aa,a3 ab];rfl⟩)
  ·refine aG ?_;refine ad.skip ?_;refine rg ?_;refine I V.aI ?_;refine aD ?_;refine ad.ret ?_;refine'⟨.inr rfl,rfl,_,[],.tmp rfl .nil,bZ _,?_⟩;first
    |exact⟨a8,rfl,by rw[h3.2.2.1 a0];rfl⟩
    |(have c:=fQ
      exact⟨a8,rfl,by
          have aa:=mt h3.2.2.2 a0;have ab:=h3.2.1.1 c;unfold rZ;rw[a3 aa,bg ab];rfl⟩)
    |(have c:=fQ
      exact⟨a8,rfl,by
          have aa:=mt h3.2.2.2 a0;have ab:=mt h3.2.1.2 c;unfold rZ;rw[a3 aa,a3 ab];rfl⟩)
theorem afi{r:cH}{v1 v2:Value}(al:iD J r v1 v2):Fn (aO Q g0) 12 [cO r v1 v2] [] J (fun u m' ae=>u=.bool (decide (r.z=0))/\m'=[]/\J=ae):=by
 obtain⟨br,bn,rfl,aR⟩:=al.n.cU;obtain⟨bN,bQ,rfl,aN⟩:=al.d.cU;refine Fn.ck (ch Tryz.func12) rfl rfl fun H=>?_;refine rg ?_;refine fc fun bx=>?_;refine I V.aI ?_;refine bb ?_;refine I V.cF ?_;refine I V.cP ?_;refine I V.gL ?_;refine I V.a' ?_;refine I V.aI ?_;refine aD ?_;refine ad.ret ?_;refine'⟨.inr rfl,rfl,_,[],.tmp rfl .nil,bZ _,?_⟩;exact⟨aj Value.bool (show decide (((ap r.z.natAbs).length:Int)=0)=decide (r.z=0) from oW.2 ⟨fun h=>by
  rcases ly r.z.natAbs with q|q
  ·omega
  ·have:=qj (hD q);omega,fun h=>by rw[h,show(0:Int).natAbs=0 from rfl,kh];rfl⟩),rfl,rfl⟩
theorem abT{v w:Value}{x y:Nat}(aa:dW J v x)(ab:dW J w y)(qJ:y≠0)(fR:(ap x).length<=100)(fZ:(ap y).length<=100):Fn (aO Q g0) 42 [v,w] [] J (fun u m' ae=>u=.int .i64 0/\m'=[]/\J=ae):=by
 have g3:=aa;have hb:=ab;obtain⟨br,bn,rfl,aR⟩:=aa.cU;obtain⟨bN,bQ,rfl,aN⟩:=ab.cU;have aF:=qj qJ;refine Fn.ck (ch Tryz.func42) rfl rfl fun H=>?_;refine rg ?_;refine I V.aI ?_;refine bb ?_;refine I V.aJ ?_;refine b4 (G:=Mj g3 fR) (h:=?_);rintro v' m' ae hle ⟨rfl,rfl,rfl⟩;refine I V.aI ?_;refine bb ?_;refine I V.aJ ?_;refine I V.a' ?_;refine aD ?_;refine If (fun dq=>?_) fun dq=>?_
 ·exfalso;exact dq rfl
 ·refine aG ?_;refine ad.skip ?_;refine rg ?_;refine I V.aJ ?_;refine b4 (G:=Mj hb fZ) (h:=?_);rintro v' m' ae hle ⟨rfl,rfl,rfl⟩;refine I V.aI ?_;refine bb ?_;refine I V.aJ ?_;refine I V.a' ?_;refine aD ?_;refine If (fun fQ=>?_) fun fQ=>?_
  ·exfalso;exact fQ rfl
  ·refine aG ?_;refine ad.skip ?_;refine rg ?_;refine aH ?_;refine I V.a' ?_;refine aD ?_;refine If (fun oS=>?_) fun oS=>?_
   ·exfalso;omega
   ·refine aG ?_;refine ad.skip ?_;refine rg ?_;refine I V.aI ?_;refine aD ?_;refine ad.ret ?_;refine'⟨.inr rfl,rfl,_,[],.tmp rfl .nil,bZ _,⟨rfl,rfl,rfl⟩⟩
theorem T6{r:cH}{v1 v2:Value}(al:iD J r v1 v2)(eV:r.fP)(fR:(ap r.z.natAbs).length<=100)(fZ:(ap r.d).length<=100):Fn (aO Q g0) 17 [cO r v1 v2] [] J (fun u m' ae=>J.le ae/\m'=[]/\u=.int .i64 0):=by
 have dL:=al;obtain⟨br,bn,rfl,aR⟩:=al.n.cU;obtain⟨bN,bQ,rfl,aN⟩:=al.d.cU;have aq:Nat.gcd r.z.natAbs r.d=1:=eV.2;have Nk:ap 1=[1]:=by rw[A7 (by decide)];rfl
 refine Fn.ck (ch Tryz.func17) rfl rfl fun H=>?_;refine rg ?_;refine fc fun bx=>?_;refine I V.aI ?_;refine bb ?_;refine I V.cF ?_;refine I V.c2 ?_;refine I V.cF ?_;refine I V.c2 ?_;refine b4 (G:=abT dL.n dL.d (hD eV.1) fR fZ) (h:=?_);rintro v' m' ae hle ⟨rfl,rfl,rfl⟩;refine I V.aI ?_;refine bb ?_;refine I V.aJ ?_;refine I V.a' ?_;refine aD ?_;refine If (fun dq=>?_) fun dq=>?_
 ·exfalso;exact dq rfl
 ·refine aG ?_;refine ad.skip ?_;refine rg ?_;refine I V.cF ?_;refine I V.c2 ?_;refine I V.cF ?_;refine I V.c2 ?_;refine b4 (G:=Gj dL.n dL.d fR fZ) (h:=?_);rintro v' m' bq hle ⟨a8,rfl,il⟩;rw[aq] at il;have rn:de .u32 bq v' (ap 1):=il;rw[Nk] at rn;have WJ:∃b c,v'=.slice b 1 c:=rn.form;obtain⟨eU,e2,rfl⟩:=WJ;refine I V.gL ?_;refine I V.a' ?_;refine I V.aJ ?_;refine gz 19 (fun Wv=>?_) fun Wv=>?_
  ·exfalso;omega
  ·refine bM V.cF ?_;refine bM V.c2 ?_;refine bM V.cF ?_;refine bM V.c2 ?_;refine vg (G:=Gj (dL.n.mono a8) (dL.d.mono a8) fR fZ) (h:=?_);rintro v' m' dR hle ⟨bO,rfl,hL⟩;rw[aq] at hL;have G0:de .u32 dR v' (ap 1):=hL;rw[Nk] at G0;have WN:∃b c,v'=.slice b 1 c:=G0.form;obtain⟨eP,dU,rfl⟩:=WN;obtain⟨afM,aaW,Uc,agd,rfl,agq,YY⟩:=G0.dB Nat.one_pos;have agX:nth Uc (aaW+(0:Int).toNat*1)=some (.int .u32 1):=YY 0 1 rfl;refine bM V.bj ?_;refine bM V.c2 ?_;refine bM V.a' ?_;refine I V.bo ?_;refine I V.aJ ?_;refine gz 29 (fun Ws=>?_) fun Ws=>?_
   ·exfalso;omega
   ·refine bM V.cF ?_;refine bM V.c2 ?_;refine bM V.aJ ?_;refine gz 32 (fun Wt=>?_) fun Wt=>?_
    ·refine bM V.cF ?_;refine bM V.c2 ?_;refine bM V.gL ?_;refine bM V.a' ?_;refine bM V.bo ?_;refine I V.bo ?_;refine aD ?_;refine If (fun xa=>?_) fun xa=>?_
     ·exfalso;have:=qj (x:=r.z.natAbs) (by omega);omega
     ·refine aG ?_;refine ad.skip ?_;refine rg ?_;refine I V.aI ?_;refine aD ?_;refine ad.ret ?_;refine'⟨.inr rfl,rfl,_,[],.tmp rfl .nil,bZ _,⟨a8.trans bO,rfl,rfl⟩⟩
    ·refine c7 ?_;refine c7 ?_;refine c7 ?_;refine c7 ?_;refine bM V.bo ?_;refine I V.bo ?_;refine aD ?_;refine ad.tJ rfl ?_;refine l8 ?_;refine I V.aI ?_;refine aD ?_;refine ad.ret ?_;refine'⟨.inr rfl,rfl,_,[],.tmp rfl .nil,bZ _,⟨a8.trans bO,rfl,rfl⟩⟩
end
theorem MK{x n:Int}(aw:1<=n):x % n=if x.tmod n<0 then x.tmod n+n else x.tmod n:=by
 have h:=Int.tmod_eq_emod (a:=x) (b:=n);have aa:=Int.emod_nonneg x (show n≠0 by omega);have ab:=Int.emod_lt_of_pos x (show 0<n by omega);by_cases q:0<=x\/n ∣ x
 ·rw[bg q] at h
  rw[a3 (by omega)];omega
 ·rw[a3 q] at h
  rw[bg (by omega)];omega
theorem D5{n c:Nat}{out:List Nat}(aL:c≠0)(h:out++ap c=ap n):(out++[c % 1000000000])++ap (c / 1000000000)=ap n:=by
 rw[<-h,qk aL,r9];rfl
section
variable {Q:ek Tryz.prog}{g0:Nat}{J:an}
theorem IY{x n:Int}(aw:1<=n)(hm:n<=4611686018427387904):Fn (aO Q g0) 4 [.int .i64 x,.int .i64 n] [] J (fun u m' ae=>u=.int .i64 (x % n)/\m'=[]/\J=ae):=by
 have cD:=Int.tmod_lt_of_pos x (show 0<n by omega);have kQ:=Int.lt_tmod_of_pos x (show 0<n by omega);refine Fn.ck (ch Tryz.func4) rfl rfl fun H=>?_;refine rg ?_;refine I V.aI ?_;refine bb ?_;refine aH ?_;refine I V.ha ?_;refine I V.aI ?_;refine bb ?_;refine I V.aJ ?_;refine I V.a' ?_;refine aD ?_;refine If (fun e7=>?_) fun e7=>?_
 ·refine rg ?_;refine aH ?_;refine I V.bW ?_;refine I V.aI ?_;refine bb ?_;refine aH ?_;refine aD ?_;refine ad.ret ?_;refine oK ?_;refine⟨?_,rfl,rfl⟩;rw[MK aw];first
   |(have c:=e7;rw[bg e7];rfl)
   |(rw[a3 e7];rfl)
 ·refine aG ?_;refine ad.skip ?_;refine rg ?_;refine aH ?_;refine aD ?_;refine ad.ret ?_;refine oK ?_;refine⟨?_,rfl,rfl⟩;rw[MK aw];first
   |(have c:=e7;rw[bg e7];rfl)
   |(rw[a3 e7];rfl)
theorem Wj{x y:Nat}(U:x<1000000000)(aF:y<1000000000):Fn (aO Q g0) 78 [.int .i64 (x:Int),.int .i64 (y:Int)] [] J (fun u m' ae=>u=.int .i64 (Nat.gcd x y:Int)/\m'=[]/\J=ae):=by
 refine Fn.ck (ch Tryz.func78) rfl rfl fun H=>?_;refine rg ?_;refine I V.aI ?_;refine aD ?_;refine ad.block ?_;refine' ad.eH (l':=[(0,.int .i64 ((x):Int)),(1,.int .i64 ((y):Int))]) ⟨?w0,?bh,trivial⟩ (cd _) ?_;case w0=>first|exact cq|exact aj some (aj (Value.int .u64) (by omega))|exact aj some (aj (Value.int .i64) (by omega))
 case bh=>first|exact cq|exact aj some (aj (Value.int .u64) (by omega))|exact aj some (aj (Value.int .i64) (by omega))
 refine aG ?_;refine' ad.mQ (α:=(Nat)×(Nat)) (fun(cG:(Nat)×(Nat))=>match cG with|(a,b)=>[(0,.int .i64 (a:Int)),(1,.int .i64 (b:Int))]) (fun(cG:(Nat)×(Nat))=>match cG with|(a,b)=>a<1000000000/\b<1000000000/\Nat.gcd a b=Nat.gcd x y) (fun(cG:(Nat)×(Nat))=>match cG with|(a,b)=>b) ⟨x,y⟩ ?af ?bT
 case af=>exact⟨U,aF,rfl⟩
 case bT=>
  rintro⟨a,b⟩ hinv;try simp only at hinv
  obtain⟨aK,ah,aq⟩:=hinv;refine rg ?_;refine I V.aJ ?_;refine I V.a' ?_;refine aD ?_;refine If (fun dU=>?_) fun dU=>?_
  ·have N6:a % b<b:=oN _ (by omega);have p9:(a:Int).tmod (b:Int)=((a % b:Nat):Int):=(uV a b).symm;refine e4 ?_;refine aG ?_;refine ad.block ?_;refine aG ?_;refine ad.draw rfl (by kernel_rfl) (a2:=[.val 0,.val 1,.val 2,.val 3,.bA 4,.b2 [3,2],.bA 5]) (by kernel_rfl) ?_;refine e3 ?_;refine a6 rfl V.ha ?_;refine ts rfl V.aI ?_;refine bi.b2 ez ?_;refine ts rfl V.aI ?_;refine bi.nil ?_;rw[p9];refine'⟨⟨b,a % b⟩,_,?hinv,?hh,rfl,⟨?dV,?cE,trivial⟩,cd _,rfl⟩;case dV=>first|exact cq|exact aj some (aj (Value.int .u64) (by omega))|exact aj some (aj (Value.int .i64) (by omega))
   case cE=>first|exact cq|exact aj some (aj (Value.int .u64) (by omega))|exact aj some (aj (Value.int .i64) (by omega))
   case hh=>exact bS
   case hinv=>exact⟨ah,by omega,by rw[<-aq,oL a b,w7 b a,oL (a % b) b]⟩
  ·obtain rfl:b=0:=by omega
   rw[u2] at aq;have rD:max (a:Int) (-(a:Int))=(Nat.gcd x y:Int):=by rw[<-aq];omega
   refine aG ?_;refine ad.exit ?_;refine rg ?_;refine aH ?_;refine' W.step rfl (Exec.val rfl rfl (uP rfl rfl ?hw) ?_);case hw=>first|exact wrap_i64 (by omega) (by omega)|exact wrap_u8 (by omega) (by omega)|exact wrap_u64 (by omega) (by omega)|exact wrap_u32 (by omega) (by omega)|rfl
   refine' W.step rfl (Exec.val rfl rfl (yU rfl rfl rfl rfl rfl) ?_);refine I V.aI ?_;refine aD ?_;refine ad.ret ?_;refine'⟨.inr rfl,rfl,_,[],.tmp rfl .nil,bZ _,⟨aj (Value.int .i64) rD,rfl,rfl⟩⟩
theorem PD{n:Nat}(aw:n<1000000000000000000):Fn (aO Q g0) 79 [.int .i64 (n:Int)] [] J (kp J n):=by
 have aA:(ap n).length<=2:=l9 (jL aw (by decide));refine Fn.ck (ch Tryz.func79) rfl rfl fun H=>?_;refine rg ?_;refine I V.aI ?_;refine bb ?_;refine I V.aI ?_;refine aD ?_;refine ad.block ?_;refine' ad.eH (l':=[(0,.int .i64 ((n):Int)),(3,(.slice none 0 0))]) ⟨?w0,?dD,trivial⟩ (cd _) ?_;case w0=>first|exact cq|exact aj some (aj (Value.int .u64) (by omega))|exact aj some (aj (Value.int .i64) (by omega))
 case dD=>first|exact cq|exact aj some (aj (Value.int .u64) (by omega))|exact aj some (aj (Value.int .i64) (by omega))
 refine aG ?_;refine' ad.b0 (fun(cG:Nat×(List Nat)×Value×aU)=>match cG with|(c,out,dD,ba)=>⟨[(0,.int .i64 (c:Int)),(3,dD)],ba,J,c<=n/\out++ap c=ap n/\Acc 40 1 dD out.length (ca .u32 out) ba,c⟩) ⟨n,[],.slice none 0 0,[]⟩ ?af ?bT
 case af=>exact⟨c5 _,rfl,.nil⟩
 case bT=>
  rintro⟨c,out,dD,ba⟩ hinv;try simp only at hinv
  obtain⟨aL,ag,dr⟩:=hinv;refine rg ?_;refine I V.aJ ?_;refine I V.a' ?_;refine aD ?_;refine If (fun e2=>?_) fun e2=>?_
  ·have jO:c≠0:=by omega
   have h4:out.length<=2:=by
    have:=aj List.length ag;rw[g1] at this;omega
   have p9:(c:Int).tmod 1000000000=((c % 1000000000:Nat):Int):=(uV c 1000000000).symm;have sG:(c:Int).tdiv 1000000000=((c / 1000000000:Nat):Int):=(oJ c 1000000000).symm;have hw:IntKind.u32.wrap ((c % 1000000000:Nat):Int)=((c % 1000000000:Nat):Int):=wrap_u32 (by omega) (by omega);have ny:IntKind.i64.wrap ((c / 1000000000:Nat):Int)=((c / 1000000000:Nat):Int):=wrap_i64 (by omega) (by omega);refine e4 ?_;refine aG ?_;refine ad.block ?_;refine rg ?_;refine aH ?_;refine I V.ha ?_;rw[p9];refine I V.gk ?_;refine ja (iy Q g0) fun sl=>?_;refine' W.step rfl (.of (nL rfl rfl rfl rfl rfl rfl (iy Q g0) (tm Q g0) (fun i q=>by cases q) ?dr ?hm ?U ?dI ?dP ?aA fun qH Be Hj Ze=>?_));case dr=>exact dr
   case hm=>exact(tu _ ba).symm
   case U=>exact qz
   case dI=>first|rfl|(simp;done)|(simp;omega)
   case dP=>first|rfl|exact rM _
   case aA=>exact(show out.length+1<=1000000 by omega)
   refine I V.aI ?_;refine bb ?_;refine I V.aJ ?_;refine I V.ha ?_;refine I V.aI ?_;refine bR ?_;rw[sG,ny];have bT:c / 1000000000<=n/\(out++[c % 1000000000])++ap (c / 1000000000)=ap n/\Acc 40 1 qH (out++[c % 1000000000]).length (ca .u32 (out++[c % 1000000000])) Be:=⟨by omega,D5 jO ag,by rw[wh,g1];exact Hj⟩;refine gF ⟨c / 1000000000,out++[c % 1000000000],qH,Be⟩ ?_ (hm:=nR _ _);exact bT
  ·obtain rfl:c=0:=by omega
   rw[kh,jr] at ag;refine Acc.m0 dr (.of_eq (jr ba).symm) fun bq a8 ak=>?_;rw[ag] at ak;refine aG ?_;refine ad.exit ?_;refine rg ?_;refine aH ?_;refine aD ?_;refine ad.ret ?_;refine'⟨.inr rfl,rfl,_,[],.tmp rfl .nil,bZ _,⟨a8,rfl,ak⟩⟩
theorem JP{n:Nat}(aw:n<1000000000000000000):Fn (aO Q g0) 31 [.int .i64 (n:Int)] [] J (kp J n):=by
 have aA:(ap n).length<=2:=l9 (jL aw (by decide));refine Fn.ck (ch Tryz.func31) rfl rfl fun H=>?_;refine rg ?_;refine I V.aI ?_;refine bb ?_;refine I V.aI ?_;refine aD ?_;refine ad.block ?_;refine' ad.eH (l':=[(0,.int .i64 ((n):Int)),(3,(.slice none 0 0))]) ⟨?w0,?dD,trivial⟩ (cd _) ?_;case w0=>first|exact cq|exact aj some (aj (Value.int .u64) (by omega))|exact aj some (aj (Value.int .i64) (by omega))
 case dD=>first|exact cq|exact aj some (aj (Value.int .u64) (by omega))|exact aj some (aj (Value.int .i64) (by omega))
 refine aG ?_;refine' ad.b0 (fun(cG:Nat×(List Nat)×Value×aU)=>match cG with|(c,out,dD,ba)=>⟨[(0,.int .i64 (c:Int)),(3,dD)],ba,J,c<=n/\out++ap c=ap n/\Acc 40 1 dD out.length (ca .u32 out) ba,c⟩) ⟨n,[],.slice none 0 0,[]⟩ ?af ?bT
 case af=>exact⟨c5 _,rfl,.nil⟩
 case bT=>
  rintro⟨c,out,dD,ba⟩ hinv;try simp only at hinv
  obtain⟨aL,ag,dr⟩:=hinv;refine rg ?_;refine I V.aJ ?_;refine I V.a' ?_;refine aD ?_;refine If (fun dU=>?_) fun dU=>?_
  ·have jO:c≠0:=by omega
   have h4:out.length<=2:=by
    have:=aj List.length ag;rw[g1] at this;omega
   have p9:(c:Int).tmod 1000000000=((c % 1000000000:Nat):Int):=(uV c 1000000000).symm;have sG:(c:Int).tdiv 1000000000=((c / 1000000000:Nat):Int):=(oJ c 1000000000).symm;have rD:max ((c % 1000000000:Nat):Int) (-((c % 1000000000:Nat):Int))=((c % 1000000000:Nat):Int):=by omega
   have hw:IntKind.u32.wrap ((c % 1000000000:Nat):Int)=((c % 1000000000:Nat):Int):=wrap_u32 (by omega) (by omega);have ny:IntKind.i64.wrap ((c / 1000000000:Nat):Int)=((c / 1000000000:Nat):Int):=wrap_i64 (by omega) (by omega);refine e4 ?_;refine aG ?_;refine ad.block ?_;refine rg ?_;refine I V.aJ ?_;refine I V.ha ?_;refine I V.aI ?_;refine bR ?_;rw[p9];refine rg ?_;refine aH ?_;refine' W.step rfl (Exec.val rfl rfl (uP rfl rfl ?hw) ?_);case hw=>first|exact wrap_i64 (by omega) (by omega)|exact wrap_u8 (by omega) (by omega)|exact wrap_u64 (by omega) (by omega)|exact wrap_u32 (by omega) (by omega)|rfl
   refine' W.step rfl (Exec.val rfl rfl (yU rfl rfl rfl rfl rfl) ?_);rw[rD];refine I V.gk ?_;refine ja (iy Q g0) fun q1=>?_;refine' W.step rfl (.of (nL rfl rfl rfl rfl rfl rfl (iy Q g0) (tm Q g0) (fun i q=>by cases q) ?dr ?hm ?U ?dI ?dP ?aA fun B0 Bf Hk Zf=>?_));case dr=>exact dr
   case hm=>exact(tu _ ba).symm
   case U=>exact qz
   case dI=>first|rfl|(simp;done)|(simp;omega)
   case dP=>first|rfl|exact rM _
   case aA=>exact(show out.length+1<=1000000 by omega)
   refine I V.aI ?_;refine bb ?_;refine I V.aJ ?_;refine I V.ha ?_;refine I V.aI ?_;refine bR ?_;rw[sG,ny];have bT:c / 1000000000<=n/\(out++[c % 1000000000])++ap (c / 1000000000)=ap n/\Acc 40 1 B0 (out++[c % 1000000000]).length (ca .u32 (out++[c % 1000000000])) Bf:=⟨by omega,D5 jO ag,by rw[wh,g1];exact Hk⟩;refine gF ⟨c / 1000000000,out++[c % 1000000000],B0,Bf⟩ ?_ (hm:=nR _ _);exact bT
  ·obtain rfl:c=0:=by omega
   rw[kh,jr] at ag;refine Acc.m0 dr (.of_eq (jr ba).symm) fun bq a8 ak=>?_;rw[ag] at ak;refine aG ?_;refine ad.exit ?_;refine rg ?_;refine aH ?_;refine aD ?_;refine ad.ret ?_;refine'⟨.inr rfl,rfl,_,[],.tmp rfl .nil,bZ _,⟨a8,rfl,ak⟩⟩
theorem acy{n d:Nat}(aw:n<1000000000)(au:d<1000000000)(gm:0<d):Fn (aO Q g0) 48 [.int .i64 (n:Int),.int .i64 (d:Int)] [] J (kq J (aV (n:Int) d)):=by
 obtain⟨g,aq⟩:∃g,g=Nat.gcd n d:=⟨_,rfl⟩;have Dl:0<g:=by rw[aq];exact sd _ gm
 have rD:max (n:Int) (-(n:Int))=(n:Int):=by omega
 obtain⟨p,ao⟩:∃p,p=n / g:=⟨_,rfl⟩;obtain⟨q,cc⟩:∃q,q=d / g:=⟨_,rfl⟩;have rG:p<1000000000:=by rw[ao];exact hC (sc _ _) aw
 have DF:q<1000000000:=by rw[cc];exact hC (sc _ _) au
 have HX:(n:Int).tdiv (g:Int)=(p:Int):=by rw[ao];exact(oJ n g).symm
 have H4:(d:Int).tdiv (g:Int)=(q:Int):=by rw[cc];exact(oJ d g).symm
 obtain⟨Aw,At⟩:=PL (z:=(n:Int)) gm;have Aw:(aV (n:Int) d).z.natAbs=p:=by rw[Aw,ao,aq];rfl
 have At:(aV (n:Int) d).d=q:=by rw[At,cc,aq];rfl
 have o7:=pp (X:=n) gm;refine Fn.ck (ch Tryz.func48) rfl rfl fun H=>?_;refine rg ?_;refine' W.step rfl (.of (eS rfl rfl rfl (jY Q g0) rfl rfl rfl fun c0=>?_));refine bb ?_;refine aH ?_;refine' W.step rfl (Exec.val rfl rfl (uP rfl rfl ?hw) ?_);case hw=>first|exact wrap_i64 (by omega) (by omega)|exact wrap_u8 (by omega) (by omega)|exact wrap_u64 (by omega) (by omega)|exact wrap_u32 (by omega) (by omega)|rfl
 refine' W.step rfl (Exec.val rfl rfl (yU rfl rfl rfl rfl rfl) ?_);refine I V.aJ ?_;rw[rD];refine b4 (G:=Wj aw au) (h:=?_);rintro v' m' ae hle ⟨rfl,rfl,rfl⟩;rw[<-aq];refine I V.aI ?_;refine aD ?_;refine ad.draw rfl (by kernel_rfl) (a2:=[.val 0,.val 1,.val 2,.val 3,.val 4,.val 5,.bA 6,.b2 [5,4,3],.bA 7]) (by kernel_rfl) ?_;refine e3 ?_;refine a6 rfl V.ha ?_;refine e3 ?_;refine a6 rfl V.ha ?_;refine ts rfl V.aI ?_;refine bi.b2 ez ?_;refine ts rfl V.aI ?_;refine bi.nil ?_;rw[HX,H4,show IntKind.i64.wrap (p:Int)=(p:Int) from wrap_i64 (by omega) (by omega),show IntKind.i64.wrap (q:Int)=(q:Int) from wrap_i64 (by omega) (by omega)];refine rg ?_;refine I V.aJ ?_;refine I V.a' ?_;refine aD ?_;refine If (fun oS=>?_) fun oS=>?_
 ·exfalso;omega
 ·refine aG ?_;refine ad.skip ?_;refine rg ?_;refine I V.aJ ?_;refine b4 (G:=PD (n:=p) (by omega)) (h:=?_);rintro v' m' bq hle ⟨a8,rfl,eL⟩;have gr:=eL.f';obtain⟨eU,e2,rfl,fm⟩:=gr.cU;refine I V.aJ ?_;refine b4 (G:=PD (n:=q) (by omega)) (h:=?_);rintro v' m' dR hle ⟨bO,rfl,ep⟩;have h2:=ep.f';obtain⟨eP,dU,rfl,ho⟩:=h2.cU;refine I V.jx ?_;refine eG ?_;refine aD ?_;refine ad.ret ?_;refine'⟨.inr rfl,rfl,_,[],.cell rfl (by repeat first|exact .head _|refine .tail _ ?_|refine d' _ ?_) (fb (dw rfl) rfl) (.nil),bZ _,⟨a8.trans bO,rfl,.slice eU _ e2,.slice eP _ dU,by rw[<-e8 o7];rfl,by rw[Aw];exact gr.mono bO,by rw[At];exact h2⟩⟩
end
end
end Go.Opn

/- A part of the proof of TableRounds. -/
import Derived.Test.YtfdhclnfkafebaaGreatDoorCay
import Derived.Test.YtfdhclnfkafebaaGreatDoorCbe
import Derived.Test.YtfdhclnfkafebaaGreatDoorCaw
set_option maxRecDepth 100000
set_option maxHeartbeats 8000000
set_option linter.unusedVariables false
set_option linter.unusedSimpArgs false
namespace Go.Opn
noncomputable section
open Go.Cre Go.RowKit Go.Proofs
theorem fZ.aqH{J ah:an}{r s:cE}{v1 v2 bm bW:Value}{x y:Bool}(h:fZ J r v1 v2)(fR:fZ ah s bm bW)(hle:J.le ah)(e:[Value.agg #[.bool x,v1,v2]]=[Value.agg #[.bool y,bm,bW]]):r.z.natAbs=s.z.natAbs:=by
 injection e with e
 injection e with e
 have e:[Value.bool x,v1,v2]=[.bool y,bm,bW]:=aa Array.toList e;injection e with _ e
 injection e with e _
 exact h.n.o2 fR.n hle e
def nI(z:Int):Int:=if z=0 then 0 else 1
section
variable {Q:dD Tryz.prog}{g0:Nat}{J:an}
theorem ZG{r:cE}{v1 v2:Value}(h:fZ J r v1 v2)(aL:0<=r.z):Fn (a1 Q g0) 78 [c8 r v1 v2] [] J (fun u m' ah=>u=.int .i64 (nI r.z)/\m'=[]/\J.le ah):=by
 obtain⟨bQ,dv,bH,rfl,aX,h6,gN⟩:=h.n.b6;obtain⟨bL,dV,bM,rfl,aU,l1,gO⟩:=h.d.b6;refine Fn.cr (cu Tryz.func78) rfl rfl fun H=>?_;refine rg ?_;refine gU fun bO=>?_;refine U V.au ?_;refine a2 ?_;refine U V.cJ ?_;refine U V.cI ?_;refine U V.h7 ?_;refine U V.bb ?_;refine aA ?_;refine If (fun e7=>?_) fun e7=>?_
 ·have e1:r.z=0:=ox.1 (h6.z I);refine rg ?_;refine U V.au ?_;refine aA ?_;refine ae.ret ?_;refine'⟨.inr rfl,rfl,_,[],.tmp rfl .nil,br _,?_⟩;first
   |(have c:=e1;exact⟨by unfold nI;rw[bj e1];rfl,rfl,an.le.refl _⟩)
   |exact⟨by unfold nI;rw[bd xf];rfl,rfl,an.le.refl _⟩
 ·have xf:r.z≠0:=fun q=>by have:=h6.ir (ox.2 q);omega
  refine fy ?_;refine U V.cJ ?_;refine U V.cI ?_;refine aA ?_;refine If (fun jU=>?_) fun jU=>?_
  ·exfalso;omega
  ·refine ao ?_;refine ae.skip ?_;refine rg ?_;refine U V.au ?_;refine aA ?_;refine ae.ret ?_;refine'⟨.inr rfl,rfl,_,[],.tmp rfl .nil,br _,?_⟩;first
    |(have c:=e1;exact⟨by unfold nI;rw[bj e1];rfl,rfl,an.le.refl _⟩)
    |exact⟨by unfold nI;rw[bd xf];rfl,rfl,an.le.refl _⟩
theorem Un{r s:cE}{v1 v2 bm bW:Value}(av:fZ J r v1 v2)(ag:fZ J s bm bW)(xO:0<=r.z)(sz:0<=s.z)(rd:0<r.d)(hL:0<s.d)(aO:r.z=0\/s.z=0):Fn (a1 Q g0) 46 [c8 r v1 v2,c8 s bm bW] [] J (fun u m' ah=>u=.int .i64 (jq (r.z.natAbs*s.d) (s.z.natAbs*r.d))/\m'=[]/\J.le ah):=by
 have dj:=av;have eX:=ag;obtain⟨bQ,dv,bH,rfl,aX,h6,gN⟩:=av.n.b6;obtain⟨bL,dV,bM,rfl,aU,l1,gO⟩:=av.d.b6;obtain⟨cZ,en,db,rfl,b0,yP,w7⟩:=ag.n.b6;obtain⟨dE,fH,dZ,rfl,dN,Gg,w8⟩:=ag.d.b6;have xb:eD 8 (c8 r (.slice bQ dv bH) (.slice bL dV bM)) (c8 r (.slice bQ dv bH) (.slice bL dV bM))=true:=by simp[eD,jB,aX,aU,nn]
 have AR:eD 8 (c8 s (.slice cZ en db) (.slice dE fH dZ)) (c8 s (.slice cZ en db) (.slice dE fH dZ))=true:=by simp[eD,jB,b0,dN,nn]
 have sx:min (max (nI r.z -nI s.z) (-1)) 1=jq (r.z.natAbs*s.d) (s.z.natAbs*r.d):=by
  unfold nI jq;by_cases ad:r.z=0
  ·rw[bj ad,ad,SO,j8]
   by_cases af:s.z=0
   ·rw[bj af,af,SO,j8];rfl
   ·have:=iW (Int.natAbs_pos.2 af) rd
    rw[bd af,bj this];rfl
  ·have af:s.z=0:=by rcases aO with h|h;exact absurd h ad;exact h
   have:=iW (Int.natAbs_pos.2 ad) hL;rw[bd ad,bj af,af,SO,j8,bd I,bj this];rfl
 have hw:IntKind.i64.wrap (nI r.z -nI s.z)=nI r.z -nI s.z:=by
  unfold nI;split<;>split<;>rfl
 have hA:nI r.z=nI s.z->¬nI r.z=0->False:=fun ad af=>by
  rcases aO with h|h
  ·exact af (by unfold nI;rw[bj h])
  ·exact af (ad.trans (by unfold nI;rw[bj h]))
 refine Fn.cr (cu Tryz.func46) rfl rfl fun H=>?_;refine rg ?_;refine gU fun bA=>?_;refine gU fun cU=>?_;refine U V.au ?_;refine aA ?_;refine ae.draw rfl (by kernel_rfl) (a':=[.val 0,.val 2,.bR 1,.b9 [2],.bR 3,.val 4,.val 5]) (by kernel_rfl) ?_;refine aT rfl V.ik ?_;refine aT rfl V.ik ?_;refine bp.iR ?_;refine' bc.dA rfl rfl rfl rfl rfl rfl rfl rfl rfl dx (ZG dj xO) ?_;rintro v' m' abh ss ⟨rfl,rfl,_⟩;refine bc.b9 eH ?_;refine' bc.dA rfl rfl rfl rfl rfl rfl rfl rfl rfl (de (fun _ aI=>⟨rfl,ss,fun v m' bK dT ⟨a,b,c⟩ ad af=>⟨by rw[a,show r.z=s.z by have:=dj.aqH eX (an.le.refl _) aI;omega],b,af⟩⟩) dx) (ZG (eX.mono ss) sz) ?_;rintro v' m' abi vg ⟨rfl,rfl,_⟩;refine bc.iQ (fun x ab=>iV (f:=fun x=>(x.f,x.b2)) ab) ?_;refine eg ?_;refine bp.nil ?_;refine rg ?_;refine al ?_;refine U V.bb ?_;refine U V.ay ?_;refine ft 15 (fun CG=>?_) fun CG=>?_
 ·skip
  refine bs ?_;refine bs ?_;refine U V.bt ?_;refine aA ?_;refine ae.Fe rfl ?_;refine rg ?_;refine al ?_;refine U V.aY ?_;refine' W.step rfl (Exec.val rfl rfl (H8 rfl rfl rfl rfl rfl) ?_);refine' W.step rfl (Exec.val rfl rfl (R8 rfl rfl rfl rfl rfl) ?_);refine U V.au ?_;refine aA ?_;refine ae.ret ?_;refine'⟨.inr rfl,rfl,_,[],.tmp rfl .nil,br _,⟨by first|(rw[hw,sx];rfl)|(rw[sx];rfl),rfl,ss.trans vg⟩⟩
 ·refine bo V.ay ?_;refine bo V.bb ?_;refine U V.bt ?_;refine aA ?_;refine If (fun kE=>?_) fun kE=>?_
  ·refine rg ?_;refine al ?_;refine U V.aY ?_;refine' W.step rfl (Exec.val rfl rfl (H8 rfl rfl rfl rfl rfl) ?_);refine' W.step rfl (Exec.val rfl rfl (R8 rfl rfl rfl rfl rfl) ?_);refine U V.au ?_;refine aA ?_;refine ae.ret ?_;refine'⟨.inr rfl,rfl,_,[],.tmp rfl .nil,br _,⟨by first|(rw[hw,sx];rfl)|(rw[sx];rfl),rfl,ss.trans vg⟩⟩
  ·exfalso;first|exact kE rfl|exact hA (Classical.not_not.1 CG) kE|exact hA CG kE
theorem Um{r s:cE}{v1 v2 bm bW:Value}(av:fZ J r v1 v2)(ag:fZ J s bm bW)(hl:r.g4)(cs:s.g4)(xO:0<=r.z)(sz:0<=s.z){k j:Nat}(fr:hW k r)(g9:hW j s)(hk:k<=30000)(bf:j<=30000):Fn (a1 Q g0) 46 [c8 r v1 v2,c8 s bm bW] [] J (fun u m' ah=>u=.int .i64 (jq (r.z.natAbs*s.d) (s.z.natAbs*r.d))/\m'=[]/\J.le ah):=by
 by_cases ad:r.z=0
 ·exact Un av ag xO sz hl.1 cs.1 (.inl ad)
 ·by_cases af:s.z=0
  ·exact Un av ag xO sz hl.1 cs.1 (.inr af)
  ·exact adW av ag hl cs I I fr g9 hk bf
theorem akS{v w:Value}{neg:Bool}(ad:cx J v 0){d:Nat}(af:cx J w d):Fn (a1 Q g0) 75 [.bool neg,v,w] [] J (p8 J ⟨0,1⟩):=by
 have ku:=ad;have jW:=af;obtain⟨bQ,dv,bH,rfl,aX,h6,gN⟩:=ad.b6;obtain⟨bL,dV,bM,rfl,aU,l1,gO⟩:=af.b6;have asw:=h6.ir rfl;refine Fn.cr (cu Tryz.func75) rfl rfl fun H=>?_;refine rg ?_;refine' W.step rfl (.of (gx rfl rfl rfl (nh Q g0) rfl rfl rfl fun e6=>?_));refine a2 ?_;refine al ?_;refine U V.bb ?_;refine aA ?_;refine If (fun fp=>?_) fun fp=>?_
 ·refine rg ?_;refine U V.kW ?_;refine e9 ?_;refine aA ?_;refine ae.ret ?_;refine'⟨.inr rfl,rfl,_,[],.cell rfl (by repeat first|exact .head _|refine .tail _ ?_|refine eF _ ?_) (fA (dm rfl) rfl) (.nil),br _,⟨an.le.refl _,rfl,.slice none 0 0,.slice none 0 0,rfl,cx.nil,cx.nil⟩⟩
 ·exfalso;omega
end
def sS(r:cE):cE:=bk ((r.z.natAbs % r.d:Nat):Int) r.d
theorem anJ{r:cE}(hl:r.g4)(h:r.z.natAbs % r.d=0):sS r=⟨0,1⟩:=by unfold sS;rw[h];exact rA hl.1
theorem anI{r:cE}(hl:r.g4):sS r=⟨((r.z.natAbs % r.d:Nat):Int),r.d⟩\/r.z.natAbs % r.d=0:=by
 refine .inl (Bg (r:=⟨((r.z.natAbs % r.d:Nat):Int),r.d⟩) ⟨hl.1,?_⟩);show Nat.gcd (((r.z.natAbs % r.d:Nat):Int)).natAbs r.d=1;rw[hP,<-zO,oA];exact hl.2
section
variable {Q:dD Tryz.prog}{g0:Nat}{J:an}
theorem akT{r:cE}{v w:Value}(hl:r.g4)(ad:cx J v (r.z.natAbs % r.d))(af:cx J w r.d)(aD:(aR r.d).length<=100000):Fn (a1 Q g0) 75 [.bool false,v,w] [] J (p8 J (sS r)):=by
 by_cases aO:r.z.natAbs % r.d=0
 ·rw[anJ hl aO]
  rw[aO] at ad;exact akS ad af
 ·rcases anI hl with e|e
  ·rw[e]
   exact G4 (r:=⟨((r.z.natAbs % r.d:Nat):Int),r.d⟩) (by show cx J v (((r.z.natAbs % r.d:Nat):Int)).natAbs;rw[hP];exact ad) af (fun _=>(fx (by show ¬((r.z.natAbs % r.d:Nat):Int)<0;omega)).symm) (fun h=>absurd h (by show ¬((r.z.natAbs % r.d:Nat):Int)=0;omega)) (jl hl.1) aD
  ·exact absurd e aO
theorem aqm{r:cE}{v1 v2:Value}(av:fZ J r v1 v2)(hl:r.g4)(fr:hW 30000 r)(qt:r.z.natAbs / r.d<9223372036854775808):Fn (a1 Q g0) 43 [c8 r v1 v2] [] J (fun u m' ah=>J.le ah/\m'=[]/\∃bm bW,u=.tuple #[.int .i64 ((r.z.natAbs / r.d:Nat):Int),c8 (sS r) bm bW]/\fZ ah (sS r) bm bW):=by
 have dj:=av;obtain⟨bQ,dv,bH,rfl,aX,h6,gN⟩:=av.n.b6;obtain⟨bL,dV,bM,rfl,aU,l1,gO⟩:=av.d.b6;have tR:=jl hl.1;have fU:=fr.n;have cI:=fr.d;have xb:eD 8 (c8 r (.slice bQ dv bH) (.slice bL dV bM)) (c8 r (.slice bQ dv bH) (.slice bL dV bM))=true:=by simp[eD,jB,aX,aU,nn]
 refine Fn.cr (cu Tryz.func43) rfl rfl fun H=>?_;refine rg ?_;refine gU fun bO=>?_;refine U V.au ?_;refine' W.step rfl (.of (gx rfl rfl rfl (nh Q g0) rfl rfl rfl fun cU=>?_));refine aA ?_;refine ae.draw rfl (by kernel_rfl) (a':=[.val 0,.val 1,.val 2,.bR 3,.b9 [1,0],.bR 4,.val 5,.val 6,.val 7,.val 8,.val 9]) (by kernel_rfl) ?_;refine aT rfl V.cJ ?_;refine aT rfl V.cI ?_;refine aT rfl V.ik ?_;refine bp.iR ?_;refine' bc.dA rfl rfl rfl rfl rfl rfl rfl rfl rfl dx (pe dj tR) ?_;rintro v' m' bK aK ⟨_,rfl,oe⟩;have rm:=oe;obtain⟨fI,kg,gV,rfl,gl,_,_⟩:=oe.b6;refine bc.b9 eH ?_;refine' bc.dA rfl rfl rfl rfl rfl rfl rfl rfl rfl (de (eI rfl) dx) (Nr (dj.mono aK).n rm I I tR) ?_;rintro v' m' dT bi ⟨_,rfl,j4,kk,rfl,tP,sD⟩;have pA:=tP;have oc:=sD;obtain⟨gz,gk,e7,rfl,iC,Wd,asJ⟩:=tP.b6;obtain⟨mB,vC,hE,rfl,nH,_,_⟩:=sD.b6;have PA:=(dj.mono aK).mono bi;refine bc.iQ (fun x ab=>iV (f:=fun x=>(x.f,x.b2)) ab) ?_;refine eg ?_;refine bp.nil ?_;refine rg ?_;refine U V.ay ?_;refine U V.ik ?_;refine bN (G:=pe PA tR) (h:=?_);rintro v' m' ga cn ⟨_,rfl,sE⟩;have rn:=sE;obtain⟨mW,nD,jU,rfl,oq,_,_⟩:=sE.b6;refine bN (G:=akT hl (oc.mono cn) rn I) (h:=?_);rintro v' m' mQ eL ⟨_,rfl,hU,iH,rfl,b4⟩;have cp:=b4;obtain⟨iN,mK,fp,rfl,mM,_,_⟩:=b4.n.b6;obtain⟨kr,k7,cl,rfl,nb,_,_⟩:=b4.d.b6;refine' W.step rfl (.of (gx rfl rfl rfl (nh Q g0) rfl rfl rfl fun e6=>?_));refine e9 ?_;refine a2 ?_;refine al ?_;refine U V.bb ?_;refine aA ?_;refine If (fun mX=>?_) fun mX=>?_
 ·have e1:r.z.natAbs / r.d=0:=Wd.z I;have AR:eD 8 (c8 (sS r) (.slice iN mK fp) (.slice kr k7 cl)) (c8 (sS r) (.slice iN mK fp) (.slice kr k7 cl))=true:=by simp[eD,jB,mM,nb,nn]
  refine ao ?_;refine ae.draw rfl (by kernel_rfl) (a':=[.val 0,.val 1,.bR 2]) (by kernel_rfl) ?_;refine aT rfl V.ik ?_;refine aT rfl V.au ?_;refine mw rfl ?_;refine bp.nil ?_;refine ao ?_;refine ae.ret ?_;refine'⟨.inr rfl,rfl,_,[],.tmp rfl (.cell rfl (by repeat first|exact .head _|refine .tail _ ?_|refine eF _ ?_) (fA (dm rfl) rfl) (.nil)),br _,?_⟩;first
   |(have c:=mX;exact⟨((aK.trans bi).trans cn).trans eL,rfl,_,_,by rw[e1];rfl,cp⟩)
   |exact⟨((aK.trans bi).trans cn).trans eL,rfl,_,_,by rw[wrap_i64 (Int.le_trans bC (o6 _)) I];rfl,cp⟩
 ·have xf:=Wd.Q' (fun q=>mX I);obtain⟨e6,ats,arw,h0,rfl,Vi,AQ⟩:=pA.at xf;have pz:=s4 xf I;rw[pz] at AQ;obtain⟨BR,P5,AQ,_⟩:=AQ 0 Nat.one_pos;injection P5 with P5;subst P5
  have Vi:=eL _ _ (cn _ _ Vi);have AR:eD 8 (c8 (sS r) (.slice iN mK fp) (.slice kr k7 cl)) (c8 (sS r) (.slice iN mK fp) (.slice kr k7 cl))=true:=by simp[eD,jB,mM,nb,nn]
  refine dW ?_;refine ao ?_;refine ae.draw rfl (by kernel_rfl) (a':=[.val 0,.val 1,.val 2,.val 3,.val 4,.val 5,.bR 6]) (by kernel_rfl) ?_;refine aT rfl V.ay ?_;refine aT rfl V.bh ?_;refine aT rfl V.cI ?_;refine aT rfl V.d' ?_;refine aT rfl V.ik ?_;refine aT rfl V.au ?_;refine mw rfl ?_;refine bp.nil ?_;refine ao ?_;refine ae.ret ?_;refine'⟨.inr rfl,rfl,_,[],.tmp rfl (.cell rfl (by repeat first|exact .head _|refine .tail _ ?_|refine eF _ ?_) (fA (dm rfl) rfl) (.nil)),br _,?_⟩;first
   |(have c:=mX;exact⟨((aK.trans bi).trans cn).trans eL,rfl,_,_,by rw[e1];rfl,cp⟩)
   |exact⟨((aK.trans bi).trans cn).trans eL,rfl,_,_,by rw[wrap_i64 (Int.le_trans bC (o6 _)) I];rfl,cp⟩
end
abbrev mJ(pre:List Value)(L:List Int)(post:List Value):List Value:=pre++(L.map (Value.int .i64)++post)
theorem Hm{pre post:List Value}{L:List Int}{j k:Nat}{x:Int}(h:L[j]?=some x)(hk:k=pre.length+j):nth (mJ pre L post) k=some (.int .i64 x):=by
 subst hk;have aD:=(gS.1 h).1;rw[lH,Eu I,B6 (by rw[g6];omega),show pre.length+j -pre.length=j by omega,ko,h];rfl
theorem ZM{pre post:List Value}{L:List Int}{j k:Nat}{v:Int}(h:j<L.length)(hk:k=pre.length+j):gw k (mJ pre L post) [.int .i64 v]=some (mJ pre (L.set j v) post):=by
 subst hk;rw[aoc (pre.length+j) (by rw[eS,eS,g6];omega)];unfold mJ;rw[IN _ _ I,S8 _ _ (by rw[g6];omega),show pre.length+j -pre.length=j by omega,IJ]
theorem getD_some{L:List Int}{j:Nat}{x:Int}(h:L[j]?=some x):L.getD j 0=x:=by rw[g5,h];rfl
theorem acJ{f:Int->Int->Int}{M:List Int}{j:Nat}(bf:1<=j)(h:f (M.getD j 0) (M.getD (j -1) 0)<0):kD f (j -1) (rG M (j -1))=kD f j M:=by
 obtain⟨k,rfl⟩:∃k,j=k+1:=⟨j -1,I⟩;rw[ld] at h;show kD f k (rG M k)=if f (M.getD (k+1) 0) (M.getD k 0)<0 then kD f k (rG M k) else M;rw[bj h]
theorem acG{f:Int->Int->Int}{M:List Int}{j:Nat}(h:¬(1<=j/\f (M.getD j 0) (M.getD (j -1) 0)<0)):kD f j M=M:=by
 cases j with
 |zero=>rfl
 |succ k=>
  rw[ld] at h;show(if f (M.getD (k+1) 0) (M.getD k 0)<0 then kD f k (rG M k) else M)=M;rw[bd (fun q=>h ⟨I,q⟩)]
section
variable {Q:dD Tryz.prog}{g0:Nat}{J:an}
theorem ajY{oE off cap n:Nat}{e:TypeId}{pre post:List Value}{D:List Int}{yB:FuncId}{q3:Array Value}{f:Int->Int->Int}{ok:Int->Prop}{rv:a8}(cy:D.length=n)(aE:n<=1000)(Ki:pre.length=off)(cc:∀x∈D,ok x)
 (aJ:∀bK:an,J.le bK->∀a b,ok a->ok b->Fn (a1 Q g0) yB (.int .i64 a::.int .i64 b::q3.toList) [] bK (fun v m' ah=>v=.int .i64 (f a b)/\m'=[]/\bK.le ah)):
 Fn (a1 Q g0) 111 [.slice (some ⟨oE,off,none⟩) n cap,.int .i64 0,.int .i64 (n:Int),.func (.func yB) #[] q3] ((oE,.row (mJ pre D post) e)::rv) J (fun v m' ah=>m'=(oE,.row (mJ pre (mh f (n -1) D) post) e)::rv/\J.le ah):=by
 refine Fn.cr (cu Tryz.func111) rfl rfl fun H=>?_;refine rg ?_;refine U V.ay ?_;refine U V.aY ?_;refine U V.au ?_;refine aA ?_;refine ae.block ?_;refine' ae.dO (l':=[(8,.int .i64 (((0)+1:Nat):Int)),(0,_),(1,_),(2,_),(3,_)]) ⟨?l8,rfl,rfl,rfl,rfl,trivial⟩ (bx _) ?_;case l8=>first|exact bg|exact aa some (aa (Value.int .u64) I)|exact aa some (aa (Value.int .u32) I)|exact aa some (aa (Value.int .i64) I)
 refine ao ?_;refine' ae.e2 (fun(a6:Nat×(List Int)×an)=>match a6 with|(k,L,dw)=>⟨[(8,.int .i64 ((k+1:Nat):Int))],(oE,.row (mJ pre L post) e)::rv,dw,(k=0\/k+1<=n)/\L=mh f k D/\L.length=n/\(∀x∈L,ok x)/\J.le dw,n -(k+1)⟩) ⟨0,D,J⟩ ?ag ?bD
 case ag=>exact⟨.inl rfl,rfl,cy,cc,an.le.refl _⟩
 case bD=>
  rintro⟨k,L,dw⟩ hinv;try simp only at hinv
  obtain⟨hk,bB,n7,JJ,c2⟩:=hinv;refine rg ?_;refine al ?_;refine U V.bb ?_;refine aA ?_;refine If (fun gJ=>?_) fun gJ=>?_
  ·refine ao ?_;refine ae.skip ?_;refine ao ?_;refine ae.block ?_;refine rg ?_;refine al ?_;refine aA ?_;refine ae.block ?_;refine' ae.dO (l':=[(9,.int .i64 ((k+1):Int)),(0,_),(1,_),(2,_),(3,_),(8,_)]) ⟨?Eb,rfl,rfl,rfl,rfl,rfl,trivial⟩ (bx _) ?_;case Eb=>first|exact bg|exact aa some (aa (Value.int .u64) I)|exact aa some (aa (Value.int .u32) I)|exact aa some (aa (Value.int .i64) I)
   refine ao ?_;refine' ae.e2 (fun(a6:Nat×(List Int)×an)=>match a6 with|(j,M,iv)=>⟨[(9,.int .i64 (j:Int))],(oE,.row (mJ pre M post) e)::rv,iv,j<=k+1/\kD f j M=kD f (k+1) L/\M.length=n/\(∀x∈M,ok x)/\J.le iv,j⟩) ⟨k+1,L,dw⟩ ?ag ?bD
   case ag=>exact⟨bX _,rfl,n7,JJ,c2⟩
   case bD=>
    rintro⟨j,M,iv⟩ hinv;try simp only at hinv
    obtain⟨bf,u7,Vn,JL,wK⟩:=hinv;have asq:k+1<n:=I
    refine eP [0,1,2,3,8,9] ?_;refine ao ?_;refine' ae.aea 0 [(34,.bool (decide (1<=j/\f (M.getD j 0) (M.getD (j -1) 0)<0)))] ?z6 ?z';case z6=>
     refine ae.draw rfl (by kernel_rfl) (a':=[.val 0,.val 1,.val 2,.val 3,.val 4,.val 5,.val 6,.val 7,.val 8,.val 9,.val 10,.val 11,.val 12,.val 13,.bR 14,.val 15,.val 16]) (by kernel_rfl) ?_;refine bp.iR ?_;refine bc.val rfl rfl rfl rfl V.ay ?_;refine bc.val rfl rfl rfl rfl V.ay ?_;refine bc.val rfl rfl rfl rfl V.bb ?_;refine bc.val rfl rfl rfl rfl V.ay ?_;refine aa' 21 (fun agC=>?_) fun agC=>?_
     ·obtain⟨x,ab⟩:∃x,M[j]?=some x:=⟨_,eE I⟩;obtain⟨y,aB⟩:∃y,M[j -1]?=some y:=⟨_,eE I⟩;have ex:=getD_some ab;have n1:=getD_some aB;have VY:1<=j:=I
      refine bc.uo rfl rfl rfl rfl rfl V.ay ?_;refine bc.uo rfl rfl rfl rfl rfl V.ay ?_;refine bc.uo rfl rfl rfl rfl rfl V.ay ?_;refine bc.uo rfl rfl rfl rfl rfl V.bh ?_;refine' bc.uo rfl rfl rfl rfl rfl (lM rfl rfl ?av (iB (dm rfl) ?az)) ?_;case av=>exact qr
      case az=>exact Hm ab I
      refine bc.uo rfl rfl rfl rfl rfl V.ay ?_;refine bc.uo rfl rfl rfl rfl rfl V.ay ?_;refine bc.uo rfl rfl rfl rfl rfl V.aY ?_;refine bc.uo rfl rfl rfl rfl rfl V.bh ?_;refine' bc.uo rfl rfl rfl rfl rfl (lM rfl rfl ?av (iB (dm rfl) ?az)) ?_;case av=>exact qr
      case az=>exact Hm aB I
      refine' bc.adm rfl rfl rfl rfl rfl rfl rfl rfl rfl rfl dx (aJ iv wK x y (JL x (jS ab)) (JL y (jS aB))) ?_;rintro v' m' IB hle ⟨rfl,rfl,_⟩;refine bc.uo rfl rfl rfl rfl rfl V.bb ?_;refine bc.val rfl rfl rfl rfl V.bt ?_;refine bc.nil ?_;exact ce
     ·have VY:¬1<=j:=I
      refine bc.rN rfl rfl rfl rfl rfl rfl ?_;refine bc.rN rfl rfl rfl rfl rfl rfl ?_;refine bc.rN rfl rfl rfl rfl rfl rfl ?_;refine bc.rN rfl rfl rfl rfl rfl rfl ?_;refine bc.rN rfl rfl rfl rfl rfl rfl ?_;refine bc.rN rfl rfl rfl rfl rfl rfl ?_;refine bc.rN rfl rfl rfl rfl rfl rfl ?_;refine bc.rN rfl rfl rfl rfl rfl rfl ?_;refine bc.rN rfl rfl rfl rfl rfl rfl ?_;refine bc.rN rfl rfl rfl rfl rfl rfl ?_;refine bc.ads rfl rfl rfl rfl rfl rfl ?_;refine bc.rN rfl rfl rfl rfl rfl rfl ?_;refine bc.val rfl rfl rfl rfl V.bt ?_;refine bc.nil ?_;exact ce
    case z'=>
     intro SP aio;have wL:=wK.trans aio;refine ao ?_;refine If (fun yn=>?_) fun yn=>?_
     ·obtain⟨VY,cA⟩:=yn;obtain⟨x,ab⟩:∃x,M[j]?=some x:=⟨_,eE I⟩;obtain⟨y,aB⟩:∃y,M[j -1]?=some y:=⟨_,eE I⟩;have ex:=getD_some ab;have n1:=getD_some aB;refine dW ?_;refine ao ?_;refine ae.block ?_;refine ao ?_;refine ae.draw rfl (by kernel_rfl) (a':=[.val 0,.val 1,.val 2,.val 3,.val 4,.val 5,.val 6,.val 7,.val 8,.val 9,.val 10,.val 11,.val 12,.val 13,.val 14,.bR 15,.val 16,.b9 [4,3,2],.bR 17]) (by kernel_rfl) ?_;refine eg ?_;refine aT rfl V.aY ?_;refine eg ?_;refine aT rfl V.aY ?_;refine aT rfl V.bh ?_;refine' bp.val rfl rfl rfl rfl (lM rfl rfl ?av (iB (dm rfl) ?az)) ?_;case av=>exact qr
      case az=>exact Hm aB I
      refine eg ?_;refine aT rfl V.bh ?_;refine' bp.val rfl rfl rfl rfl (lM rfl rfl ?av (iB (dm rfl) ?az)) ?_;case av=>exact qr
      case az=>exact Hm ab I
      refine aT rfl V.bh ?_;refine' bp.uR rfl rfl (ia rfl rfl rfl rfl (hh rfl) rfl rfl rfl ?ad ?ag ?ap ?_);case ap=>repeat first|exact .head _ _ _ _|apply dh.tail|apply dh.app
      case ag=>exact ZM (L:=M) (v:=y) (j:=j) I I
      case ad=>first|rfl|assumption
      refine aT rfl V.bh ?_;refine bp.b9 eH ?_;refine' bp.uR rfl rfl (ia rfl rfl rfl rfl (hh rfl) rfl rfl rfl ?ad ?ag ?ap ?_);case ap=>repeat first|exact .head _ _ _ _|apply dh.tail|apply dh.app
      case ag=>exact ZM (L:=M.set j y) (v:=x) (j:=j -1) (by rw[hr];omega) I
      case ad=>first|rfl|assumption
      refine bp.nil ?_;rw[show(M.set j y).set (j -1) x=rG M (j -1) from by unfold rG;rw[yd (show 1<=j by omega),ex,n1]];refine rg ?_;refine U V.ay ?_;refine U V.aY ?_;refine U V.au ?_;refine a3 ?_;refine fl ⟨j -1,rG M (j -1),SP⟩ ?_;exact⟨I,(acJ I cA).trans u7,by rw[BC];exact Vn,fun x ab=>JL x ((RV I).mem_iff.1 ab),wL⟩
     ·have m6:M=mh f (k+1) D:=by show M=kD f (k+1) (mh f k D);rw[<-bB,<-u7,acG yn]
      refine ao ?_;refine ae.exit ?_;refine rg ?_;refine U V.ay ?_;refine U V.aY ?_;refine U V.au ?_;refine a3 ?_;refine fl ⟨k+1,M,SP⟩ ?_;exact⟨I,m6,Vn,JL,wL⟩
  ·obtain rfl:k=n -1:=I
   refine ao ?_;refine ae.exit ?_;refine'⟨.inl rfl,rfl,_,_,.nil,bx _,⟨by rw[bB],c2⟩⟩
theorem aoC{oE off cap n:Nat}{e:TypeId}{pre post:List Value}{D:List Int}{yB:FuncId}{q3:Array Value}{f:Int->Int->Int}{ok:Int->Prop}{rv:a8}(cy:D.length=n)(aE:n<20)(Ki:pre.length=off)(cc:∀x∈D,ok x)
 (aJ:∀bK:an,J.le bK->∀a b,ok a->ok b->Fn (a1 Q g0) yB (.int .i64 a::.int .i64 b::q3.toList) [] bK (fun v m' ah=>v=.int .i64 (f a b)/\m'=[]/\bK.le ah)):
 Fn (a1 Q g0) 77 [.slice (some ⟨oE,off,none⟩) n cap,.int .i64 (n:Int),.func (.func yB) #[] q3] ((oE,.row (mJ pre D post) e)::rv) J (fun v m' ah=>m'=(oE,.row (mJ pre (mh f (n -1) D) post) e)::rv/\J.le ah):=by
 refine Fn.cr (cu Tryz.func77) rfl rfl fun H=>?_;refine rg ?_;refine U V.au ?_;refine a2 ?_;refine al ?_;refine aA ?_;refine ae.block ?_;refine ao ?_;refine ae.Qw ?_;refine rg ?_;refine al ?_;refine U V.bb ?_;refine aA ?_;refine If (fun q1=>?_) fun q1=>?_
 ·exfalso;omega
 ·refine ao ?_;refine ae.exit ?_;refine rg ?_;refine al ?_;refine' W.step rfl (Exec.call rfl rfl rfl rfl rfl rfl rfl (cj:=(oE,.row (mJ pre D post) e)::rv) (eB:=[]) (by simp) trivial (ajY cy I Ki cc aJ) ?_);rintro v m' ah hle ⟨rfl,Pb⟩;rw[iU];refine aA ?_;refine ae.block ?_;refine ao ?_;refine ae.Qw ?_;refine rg ?_;refine al ?_;refine U V.bb ?_;refine aA ?_;refine If (fun acW=>?_) fun acW=>?_
  ·exfalso;omega
  ·refine ao ?_;refine ae.exit ?_;refine'⟨.inl rfl,rfl,_,_,.nil,bx _,⟨rfl,Pb⟩⟩
theorem aoa{oE off cap n:Nat}{e:TypeId}{pre post:List Value}{D:List Int}{yB:FuncId}{q3:Array Value}{f:Int->Int->Int}{ok:Int->Prop}{rv:a8}(cy:D.length=n)(aE:n<20)(Ki:pre.length=off)(cc:∀x∈D,ok x)
 (aJ:∀bK:an,J.le bK->∀a b,ok a->ok b->Fn (a1 Q g0) yB (.int .i64 a::.int .i64 b::q3.toList) [] bK (fun v m' ah=>v=.int .i64 (f a b)/\m'=[]/\bK.le ah)):
 Fn (a1 Q g0) 44 [.slice (some ⟨oE,off,none⟩) n cap,.func (.func yB) #[] q3] ((oE,.row (mJ pre D post) e)::rv) J (fun v m' ah=>m'=(oE,.row (mJ pre (mh f (n -1) D) post) e)::rv/\J.le ah):=by
 refine Fn.cr (cu Tryz.func44) rfl rfl fun H=>?_;refine rg ?_;refine al ?_;refine' W.step rfl (Exec.call rfl rfl rfl rfl rfl rfl rfl (cj:=(oE,.row (mJ pre D post) e)::rv) (eB:=[]) (by simp) trivial (aoC cy aE Ki cc aJ) ?_);rintro v m' ah hle ⟨rfl,Pb⟩;rw[iU];refine a3 ?_;refine'⟨.inl rfl,rfl,_,_,.nil,bx _,⟨rfl,Pb⟩⟩
end
theorem Yk{X:Int}{d M:Nat}(aq:0<d):bk ((bk X d).z*(M:Int)) ((bk X d).d*1)=bk (X*M) d:=by
 have aJ:=(im (z:=X) aq).1;refine(Hl (iW aJ Nat.one_pos) aq).2 ?_;have h:=sL (z:=X) aq;rw[gT,L8,h,L8]
theorem Ym{X d:Nat}(aq:0<d):(bk (X:Int) d).z.natAbs / (bk (X:Int) d).d=X / d/\sS (bk (X:Int) d)=bk ((X % d:Nat):Int) d:=by
 obtain⟨g,e,q,aF,he,aL,F3,J1,aE,_⟩:=y3 (z:=(X:Int)) aq;unfold sS;rw[aE];show q.natAbs / e=X / d/\bk ((q.natAbs % e:Nat):Int) e=_;have fG:X=g*q.natAbs:=by
  have:=aa Int.natAbs aL;rwa [hP,lc,hP] at this
 subst F3;rw[fG,Nat.mul_div_mul_left _ _ aF,Nat.mul_mod_mul_left];refine⟨rfl,(Hl he aq).2 ?_⟩;rw[gM,gM]
 ac_rfl
theorem alt{X Y d:Nat}(aq:0<d):jq ((bk (X:Int) d).z.natAbs*(bk (Y:Int) d).d) ((bk (Y:Int) d).z.natAbs*(bk (X:Int) d).d)=jq X Y:=by
 obtain⟨g,e,q,aF,he,aL,F3,_,aE,_⟩:=y3 (z:=(X:Int)) aq;obtain⟨h,f,r,c9,aM,hw,ahU,_,hm,_⟩:=y3 (z:=(Y:Int)) aq;rw[aE,hm];show jq (q.natAbs*f) (r.natAbs*e)=_;have fG:X=g*q.natAbs:=by
  have:=aa Int.natAbs aL;rwa [hP,lc,hP] at this
 have kJ:Y=h*r.natAbs:=by
  have:=aa Int.natAbs hw;rwa [hP,lc,hP] at this
 have a7:X*d=(g*h)*(q.natAbs*f):=by rw[fG,ahU];ac_rfl
 have a0:Y*d=(g*h)*(r.natAbs*e):=by rw[kJ,F3];ac_rfl
 have ap:=iW aF c9;have dF:q.natAbs*f<r.natAbs*e↔X<Y:=by
  rw[<-Nat.mul_lt_mul_left ap,<-a7,<-a0];exact abK aq
 have dq:r.natAbs*e<q.natAbs*f↔Y<X:=by
  rw[<-Nat.mul_lt_mul_left ap,<-a7,<-a0];exact abK aq
 unfold jq;simp only[dF,dq]
theorem ZE{b:Nat}(h:b<=30):IntKind.i64.wrap (1*2 ^ ((b:Nat):Int).toNat)=((2 ^ b:Nat):Int)/\2 ^ b<=1073741824/\0<2 ^ b:=by
 have:∀b:Nat,b<31->IntKind.i64.wrap (1*2 ^ ((b:Nat):Int).toNat)=((2 ^ b:Nat):Int)/\2 ^ b<=1073741824/\0<2 ^ b:=by decide+kernel
 exact this b I
theorem Zj{M s p:Nat}(ag:0<s):b1 M s p<s:=fJ _ ag
section
variable {Q:dD Tryz.prog}{g0:Nat}{J:an}
theorem anC{ps:List Nat}{s M fK lm:Nat}{fo:Option Addr}(nt:J fK=some ([.slice fo ps.length lm],59))(fS:ew J 67 3 (mP J) (.slice fo ps.length lm) (ps.map fun p=>bk ((b1 M s p:Nat):Int) s))(ag:0<s)(iA:(aR s).length<=10000){a b:Int}(aI:0<=a/\a<ps.length)(ak:0<=b/\b<ps.length):
 Fn (a1 Q g0) 45 [.int .i64 a,.int .i64 b,.pointer (some ⟨fK,0,none⟩)] [] J (fun v m' ah=>v=.int .i64 (yr ps s M a b)/\m'=[]/\J.le ah):=by
 have kA:addrEq fo fo=true:=fS.addr;obtain⟨_,g'⟩:=fS.at;rw[g6] at g';obtain⟨I7,off,cells,b3,rfl,iZ,kv⟩:=g' I;obtain⟨r,cs,av,h4,pu,v1,v2,rfl,c0⟩:=kv a aI.1 I;rw[ko] at av;obtain⟨p,n8,rfl⟩:=qY.1 av;obtain⟨cW,cN,yR,OO,O9,bm,bW,rfl,pp⟩:=kv b ak.1 I;rw[ko] at yR;obtain⟨q,AL,rfl⟩:=qY.1 yR;have jt:=c0;have wM:=pp;obtain⟨bQ,dv,bH,rfl,aX,_,_⟩:=c0.n.b6;obtain⟨bL,dV,bM,rfl,aU,_,_⟩:=c0.d.b6;obtain⟨cZ,en,db,rfl,b0,_,_⟩:=pp.n.b6;obtain⟨dE,fH,dZ,rfl,dN,_,_⟩:=pp.d.b6;have a7:=Zj (M:=M) (p:=p) ag;have a0:=Zj (M:=M) (p:=q) ag;have ev:=sg (n:=b1 M s p) ag (cY (jv (r0 a7)) iA) iA;have uv:=sg (n:=b1 M s q) ag (cY (jv (r0 a0)) iA) iA;have sx:yr ps s M a b=jq (b1 M s q) (b1 M s p):=by
  unfold yr;rw[g5,g5,n8,AL];rfl
 have xb:eD 8 (c8 (bk ((b1 M s p:Nat):Int) s) (.slice bQ dv bH) (.slice bL dV bM)) (c8 (bk ((b1 M s p:Nat):Int) s) (.slice bQ dv bH) (.slice bL dV bM))=true:=by simp[eD,jB,aX,aU,nn]
 have AR:eD 8 (c8 (bk ((b1 M s q:Nat):Int) s) (.slice cZ en db) (.slice dE fH dZ)) (c8 (bk ((b1 M s q:Nat):Int) s) (.slice cZ en db) (.slice dE fH dZ))=true:=by simp[eD,jB,b0,dN,nn]
 refine Fn.cr (cu Tryz.func45) rfl rfl fun H=>?_;refine rg ?_;refine U V.au ?_;refine aA ?_;refine ae.draw rfl (by kernel_rfl) (a':=[.val 0,.val 1,.val 2,.val 3,.val 4,.val 5,.val 6,.val 7,.bR 8,.val 9]) (by kernel_rfl) ?_;refine aT rfl V.cg ?_;refine aT rfl V.ay ?_;refine aT rfl V.bh ?_;refine aT rfl V.hT ?_;refine aT rfl V.cg ?_;refine aT rfl V.ay ?_;refine aT rfl V.bh ?_;refine aT rfl V.hT ?_;refine dl rfl (G:=Um wM jt (im ag) (im ag) (by have:=qD (X:=b1 M s q) ag;omega) (by have:=qD (X:=b1 M s p) ag;omega) uv ev I I) (h:=?_);rintro v' m' bK aK ⟨rfl,rfl,hle⟩;refine aT rfl V.au ?_;refine bp.nil ?_;refine ao ?_;refine ae.ret ?_;refine'⟨.inr rfl,rfl,_,[],.tmp rfl .nil,br _,⟨by rw[alt ag,sx];rfl,rfl,hle⟩⟩
end
abbrev za (n i:Nat):List Value:=((jI n).take i).map (Value.int .i64)++fM [.int .i64 0] (n -i)
theorem amm{n i off:Nat}(ar:i<n)(aj:i=off:=by omega):gw off (za n i) [.int .i64 (i:Int)]=some (za n (i+1)):=by
 subst aj;unfold za;rw[show n -i=(n -(i+1))+1 by omega,Ej,oz,KA ar,Mg];rw[show([Value.int .i64 0]++fM [.int .i64 0] (n -(i+1)))=[Value.int .i64 0]++fM [.int .i64 0] (n -(i+1)) from rfl];have h:=RM (d:=((jI n).take i).map (Value.int .i64)) (z:=[Value.int .i64 0]) (rest:=fM [.int .i64 0] (n -(i+1))) (new:=[.int .i64 (i:Int)]) (off:=i) (by rw[g6,dY,pD];omega) rfl;rw[h,<-nM];rfl
theorem aml{n:Nat}:za n n=mJ [] (jI n) []:=by
 unfold za mJ;rw[uJ,Io,dd (by rw[pD];exact bX _),kp]
abbrev xG(o:List Nat)(n i:Nat):List Value:=b7 .i64 (o.take i++List.replicate (n -i) 0)
theorem amq{o:List Nat}{n i x:Nat}(aE:o.length=n)(ar:i<n)(ab:o[i]?=some x){off:Nat}(aj:i=off:=by omega):gw off (xG o n i) [.int .i64 (x:Int)]=some (xG o n (i+1)):=by
 subst aj;rw[k8 i (by rw[eS,dY,mT];omega) rfl];congr 2
 rw[show n -i=(n -(i+1))+1 by omega,S7,IN _ _ (by rw[dY];omega),dY,gn I,uJ,Mh,oz,ab];simp
theorem amp{o:List Nat}{n:Nat}(aE:o.length=n):xG o n n=b7 .i64 o:=by
 unfold xG;rw[uJ,dd I];simp
theorem alw{o:List Nat}{n i x off:Nat}(ab:o[i]?=some x)(aj:i=off:=by omega):nth (xG o n (i+1)) off=some (.int .i64 (x:Int)):=by
 subst aj;refine oV ?_ rfl;have:=(gS.1 ab).1;rw[B6 (by rw[dY];omega),ji,bj I,ab]
theorem UZ{L:List Int}{o:List Nat}{k y:Nat}{x:Int}(ab:L[k]?=some x)(aB:((L.take k).foldl kf o)[x.toNat]?=some y):((L.take k).foldl kf o).set x.toNat (y+1)=(L.take (k+1)).foldl kf o:=by
 rw[oz,ab,List.foldl_append];show _=kf ((L.take k).foldl kf o) x;rw[show kf ((L.take k).foldl kf o) x=((L.take k).foldl kf o).set x.toNat (((L.take k).foldl kf o).getD x.toNat 0+1) from rfl,g5,aB];rfl
theorem abL{k:IntKind}{J:an}{a n:Nat}{l:List Nat}{e:TypeId}(aE:l.length=n)(h:J a=some (b7 k l,e))(aJ:n<cQ):cR k J (.slice (some ⟨a,0,none⟩) n n) l:=by
 have:=cR.row (k:=k) (n:=n) (cap:=n) I (bX _) aJ h;rwa [dd I] at this
section
variable {Q:dD Tryz.prog}{g0:Nat}{J:an}
theorem anE{ps:List Nat}{s bits:Nat}{b:Option Addr}{c:Nat}(h:ew J 67 3 (mP J) (.slice b ps.length c) (ps.map fun p:Nat=>bk (p:Int) s))(mD:1<=ps.length)(n6:ps.length<=10)(ag:0<s)(iA:(aR s).length<=10000)(ap:ps.sum=s)(OK:bits<=30):
 Fn (a1 Q g0) 22 [.slice b ps.length c,.int .i64 (bits:Int)] [] J (fun u m' ah=>J.le ah/\m'=[]/\∃b' c',u=.slice b' ps.length c'/\cR .i64 ah (.slice b' ps.length c') (By ps s (2 ^ bits))):=by
 have kA:addrEq b b=true:=h.addr;obtain⟨_,g'⟩:=h.at;rw[g6] at g';obtain⟨u7,ag9,ag8⟩:=ZE OK;generalize 2 ^ bits=M at*;have F:=Ly (M:=M) mD ag ap;have iP:(fX ps s M).length=ps.length:=g6 _;have m5:ps.length<cQ:=p7 n6 bC;have asi:0<ps.length:=mD;have ahM:(0:Int)<=(bits:Int)/\(bits:Int)<=64:=I
 refine Fn.cr (cu Tryz.func22) rfl rfl fun H=>?_;refine rg ?_;refine U V.au ?_;refine aA ?_;refine ae.draw rfl (by kernel_rfl) (a':=[.ka 9,.val 0,.val 1,.ka 2,.val 3,.val 4,.ka 5,.val 6,.val 7,.ka 8,.val 10,.val 11,.b9 [7,6,4,3,1,0],.bR 12]) (by kernel_rfl) ?_;refine bp.alloc rfl rfl rfl rfl rfl (aqL Q g0) rfl rfl rfl fun fK=>?_;refine aT rfl V.ay ?_;refine aT rfl V.h7 ?_;refine bp.makeSlice rfl rfl rfl rfl rfl rfl rfl (HR Q g0) ?aO ?ad ?af fun qa=>?_;case aO=>exact bz
 case ad=>exact bz
 case af=>exact bz
 refine aT rfl V.ay ?_;refine aT rfl V.h7 ?_;refine bp.makeSlice rfl rfl rfl rfl rfl rfl rfl (HR Q g0) ?aO ?ad ?af fun zV=>?_;case aO=>exact bz
 case ad=>exact bz
 case af=>exact bz
 refine aT rfl V.ay ?_;refine aT rfl V.h7 ?_;refine bp.makeSlice rfl rfl rfl rfl rfl rfl rfl (Zs Q g0) ?aO ?ad ?af fun qb=>?_;case aO=>exact bz
 case ad=>exact bz
 case af=>exact bz
 refine eg ?_;refine bp.b9 eH ?_;refine mw rfl ?_;refine bp.nil ?_;rw[jy];refine rg ?_;refine U V.ay ?_;refine' W.step rfl (Exec.val rfl rfl (s0 rfl rfl rfl ?aO ?ad) ?_);case aO=>exact bz
 case ad=>first|decide|exact bz|exact(show _<=((64:Nat):Int) from I)
 refine U V.au ?_;refine a3 ?_;rw[u7];refine rg ?_;refine al ?_;refine aA ?_;refine ae.block ?_;refine ao ?_;refine ae.ub (m':=[(fK,.row [.slice (some ⟨qb,0,none⟩) ps.length ps.length] 59),(qb,.row ([]++fM [.bool false,.slice none 0 0,.slice none 0 0] (ps.length -0)) 67),(zV,.row (za ps.length 0) 3),(qa,.row (xG (fX ps s M) ps.length 0) 3)]) (by rw[show xG (fX ps s M) ps.length 0=fM [.int .i64 0] ps.length from zero_num.symm];exact IM (l₁:=[_]) (l₂:=[_,_,_])) ?_;refine' ae.dO (l':=[(26,.int .i64 ((0):Int)),(8,.int .i64 ((M:Int) -(((fX ps s M).take (0)).sum:Int))),(1,_),(5,_),(6,_),(7,_),(24,_),(25,_)]) ⟨?ap8,?l8,rfl,rfl,rfl,rfl,rfl,rfl,trivial⟩ (bx _) ?_;case ap8=>first|exact bg|exact aa some (aa (Value.int .u64) I)|exact aa some (aa (Value.int .u32) I)|exact aa some (aa (Value.int .i64) I)
 case l8=>first|exact bg|exact aa some (aa (Value.int .u64) I)|exact aa some (aa (Value.int .u32) I)|exact aa some (aa (Value.int .i64) I)
 refine ao ?_;refine' ae.e2 (fun(a6:Nat×(List Value)×an)=>match a6 with|(i,d,dw)=>⟨[(26,.int .i64 (i:Int)),(8,.int .i64 ((M:Int) -(((fX ps s M).take i).sum:Int)))],[(fK,.row [.slice (some ⟨qb,0,none⟩) ps.length ps.length] 59),(qb,.row (d++fM [.bool false,.slice none 0 0,.slice none 0 0] (ps.length -i)) 67),(zV,.row (za ps.length i) 3),(qa,.row (xG (fX ps s M) ps.length i) 3)],dw,i<=ps.length/\J.le dw/\lO 3 (fun _=>mP dw) d ((ps.map fun p=>bk ((b1 M s p:Nat):Int) s).take i),ps.length -i⟩) ⟨0,[],J⟩ ?ag ?bD
 case ag=>exact⟨ep _,an.le.refl _,rfl,fun i x h=>by cases h⟩
 case bD=>
  rintro⟨i,d,dw⟩ hinv;try simp only at hinv
  obtain⟨ar,c2,jY⟩:=hinv;refine rg ?_;refine U V.bb ?_;refine aA ?_;refine If (fun hD=>?_) fun hD=>?_
  ·obtain⟨I7,off,cells,b3,rfl,iZ,kv⟩:=g' I;obtain⟨r,cs,av,h4,pu,v1,v2,rfl,c0⟩:=kv i I I;rw[jy,ko] at av;obtain⟨p,n8,rfl⟩:=qY.1 av;have iZ:=c2 _ _ iZ;have jt:=c0.mono c2;obtain⟨bQ,dv,bH,rfl,aX,_,_⟩:=c0.n.b6;obtain⟨bL,dV,bM,rfl,aU,_,_⟩:=c0.d.b6;have aiL:=xr (jS n8);have fa:=cY (jv (show p<=s by omega)) iA;have ev:=sg (n:=p) ag fa iA;have pq:d.length=i*3:=by rw[jY.1,dY,g6,gn ar]
   have C7:(fX ps s M)[i]?=some (p*M / s):=by unfold fX;rw[ko,n8];rfl
   have dR:=RU C7;have qu:=D4 (l:=fX ps s M) (i:=i+1);have ai4:=F.out;have Ps:(aR (p*M)).length<=10000+1:=vD fa (Bc I);have Wo:p*M / s<=M:=by
    rw[abD ag];have:=e0 M (show p<=s by omega);omega
   have ah1:hW 1 (⟨(M:Int),1⟩:cE):=hW.mk (by show(aR ((M:Nat):Int).natAbs).length<=1;rw[hP];exact Bc I) (by show(aR 1).length<=1;exact Bc bC);have hmul:=Yk (X:=(p:Int)) (M:=M) ag;rw[<-gM] at hmul;obtain⟨pz,rl⟩:=Ym (X:=p*M) ag;have uv:=sg (n:=p*M) ag (cY Ps (show _<=30000 by decide)) (cY iA bC);refine dW ?_;refine ao ?_;refine ae.block ?_;refine rg ?_;refine U V.ay ?_;refine U V.bh ?_;refine U V.hT ?_;refine' W.step rfl (.of (gx rfl rfl rfl (nh Q g0) rfl rfl rfl fun uM=>?_));refine U V.au ?_;refine e9 ?_;refine aA ?_;refine ae.draw rfl (by kernel_rfl) (a':=[.val 0,.val 1,.val 2,.val 3,.val 4,.val 5,.val 6,.bR 7,.b9 [4,3,2,1,0],.bR 8,.b9 [3,2,1,0],.bR 9,.val 10,.val 11,.val 12,.val 13,.b9 [3,2,1,0],.bR 14,.val 15,.b9 [12,3,2],.bR 16]) (by kernel_rfl) ?_;refine eg ?_;refine aT rfl V.cg ?_;refine aT rfl V.ay ?_;refine aT rfl V.hT ?_;refine aT rfl V.ay ?_;refine' bp.val rfl rfl rfl rfl (s0 rfl rfl rfl ?aO ?ad) ?_;case aO=>exact bz
   case ad=>first|decide|exact bz|exact(show _<=((64:Nat):Int) from I)
   rw[u7];refine dl rfl (G:=Qe (n:=M) I I) (h:=?_);rintro v' m' bK aK ⟨_,rfl,du,dt,rfl,cp⟩;have oH:=cp;obtain⟨fI,kg,gV,rfl,gl,_,_⟩:=cp.n.b6;obtain⟨gz,gk,e7,rfl,iC,_,_⟩:=cp.d.b6;refine bp.b9 eH ?_;refine dl rfl (G:=X2 (jt.mono aK) oH (im ag) ⟨Nat.one_pos,Ml _⟩ (by show((M:Nat):Int)≠0;omega) ev ah1 I I) (h:=?_);rintro v' m' dT bi ⟨_,rfl,du,dt,rfl,e'⟩;rw[hmul] at e';have yG:=e';obtain⟨mB,vC,hE,rfl,nH,_,_⟩:=e'.n.b6;obtain⟨mW,nD,jU,rfl,oq,_,_⟩:=e'.d.b6;rw[hmul];refine bp.b9 eH ?_;refine dl rfl (G:=aqm yG (im ag) uv (by rw[pz];omega)) (h:=?_);rintro v' m' ga cn ⟨_,rfl,du,dt,rfl,bB⟩;rw[rl] at bB;have Al:=bB;obtain⟨iN,mK,fp,rfl,mM,_,_⟩:=bB.n.b6;obtain⟨kr,k7,cl,rfl,nb,_,_⟩:=bB.d.b6;rw[pz,rl];refine eg ?_;refine aT rfl V.bh ?_;refine bp.b9 eH ?_;refine' bp.uR rfl rfl (ia rfl rfl rfl rfl (hh rfl) rfl rfl rfl ?ad ?ag ?ap ?_);case ap=>repeat first|exact .head _ _ _ _|apply dh.tail|apply dh.app
   case ag=>exact amq iP I C7
   case ad=>first|rfl|assumption
   refine aT rfl V.bh ?_;refine bp.b9 eH ?_;refine' bp.uR rfl rfl (ia rfl rfl rfl rfl (hh rfl) rfl rfl rfl ?ad ?ag ?ap ?_);case ap=>repeat first|exact .head _ _ _ _|apply dh.tail|apply dh.app
   case ag=>exact(by rw[show ps.length -i=(ps.length -(i+1))+1 by omega,Ej];exact RM (by rw[pq];omega) rfl)
   case ad=>first|rfl|assumption
   refine bp.nil ?_;refine rg ?_;refine al ?_;refine U V.bh ?_;refine' W.step rfl (Exec.val rfl rfl (lM rfl rfl ?av (iB (dm rfl) ?az)) ?_);case av=>exact qr
   case az=>exact alw C7
   refine U V.aY ?_;refine U V.au ?_;refine a2 ?_;refine al ?_;refine U V.bh ?_;refine' W.step rfl (.of (ia rfl rfl rfl rfl (hh rfl) rfl rfl rfl ?ad ?ag ?ap ?_));case ap=>repeat first|exact .head _ _ _ _|apply dh.tail|apply dh.app
   case ag=>exact amm I
   case ad=>first|rfl|assumption
   refine a3 ?_;have Av:lO 3 (fun _=>mP ga) (d++qj (bk ((b1 M s p:Nat):Int) s) (.slice iN mK fp) (.slice kr k7 cl)) ((ps.map fun p=>bk ((b1 M s p:Nat):Int) s).take (i+1)):=by
    rw[oz,ko,n8];exact(jY.mono fun _ _ _ q=>((q.mono aK).mono bi).mono cn).app ⟨_,_,rfl,Al⟩ rfl
   rw[<-nM];refine rg ?_;refine U V.aY ?_;refine U V.ay ?_;refine a3 ?_;refine fl ⟨i+1,d++qj (bk ((b1 M s p:Nat):Int) s) (.slice iN mK fp) (.slice kr k7 cl),ga⟩ ?_ (hm:=.cons _ (.refl _));exact⟨I,((c2.trans aK).trans bi).trans cn,Av⟩
  ·obtain rfl:i=ps.length:=I
   rw[dd (by rw[g6];exact bX _)] at jY;have AE:(M:Int) -(((fX ps s M).take ps.length).sum:Int)=((lF ps s M:Nat):Int):=by
    rw[dd I];have:=F.out;unfold lF;omega
   have Pk:=F.KQ;refine ao ?_;refine ae.exit ?_;refine ae.ub (m':=[(fK,.row [.slice (some ⟨qb,0,none⟩) ps.length ps.length] 59),(qb,.row d 67),(zV,.row (mJ [] (jI ps.length) []) 3),(qa,.row (b7 .i64 (fX ps s M)) 3)]) (by show List.Perm _ [(fK,ec.row [.slice (some ⟨qb,0,none⟩) ps.length ps.length] 59),(qb,.row (d++fM [.bool false,.slice none 0 0,.slice none 0 0] (ps.length -ps.length)) 67),(zV,.row (za ps.length ps.length) 3),(qa,.row (xG (fX ps s M) ps.length ps.length) 3)];rw[uJ,Io,iU,aml,amp iP]) ?_;refine ae.h9 rfl fun kd=>?_;refine ae.h9 rfl fun Pa=>?_;have nt:=Pa _ _ (an.g7 dw fK ([.slice (some ⟨qb,0,none⟩) ps.length ps.length],59));have agV:ew ((dw.add fK ([.slice (some ⟨qb,0,none⟩) ps.length ps.length],59)).add qb (d,67)) 67 3 (mP ((dw.add fK ([.slice (some ⟨qb,0,none⟩) ps.length ps.length],59)).add qb (d,67))) (.slice (some ⟨qb,0,none⟩) ps.length ps.length) (ps.map fun p=>bk ((b1 M s p:Nat):Int) s):=by
    have n7:(ps.map fun p=>bk ((b1 M s p:Nat):Int) s).length=ps.length:=g6 _;refine⟨d,?_,fun j x ab=>(jY.2 j x ab).mono (kd.trans Pa)⟩;rw[n7];have VI:d.length=ps.length*3:=by rw[jY.1,n7]
    exact fP.row (an.g7 _ _ _) (by rw[hi,dd I]) VI (fun _=>⟨bX _,m5⟩) (fun _=>rfl)
   refine rg ?_;refine al ?_;refine' W.step rfl (Exec.call rfl rfl rfl rfl rfl rfl rfl (cj:=[(zV,.row (mJ [] (jI ps.length) []) 3)]) (eB:=[(qa,.row (b7 .i64 (fX ps s M)) 3)]) (.refl _) trivial (aoa (pre:=[]) (post:=[]) (D:=jI ps.length) (f:=yr ps s M) (ok:=fun x=>0<=x/\x<ps.length) (rv:=[]) (off:=0) pD I rfl W0 (fun bK sj a b aI ak=>anC (sj _ _ nt) (ew.mono (R':=mP bK) sj (fun _ _ q=>q.mono sj) agV) ag iA aI ak)) ?_);rintro v' m' p4 hle ⟨rfl,gu⟩;rw[show mh (yr ps s M) (ps.length -1) (jI ps.length)=fW ps s M from rfl];refine a2 ?_;refine U V.ay ?_;refine U V.ay ?_;rw[AE];refine' W.step rfl (Exec.val rfl rfl (apO rfl rfl (HR Q g0) rfl ?aO ?ad ?af ?aV) ?_);case aO=>exact bz
   case ad=>exact bz
   case af=>first|exact bC|assumption
   case aV=>first|exact bC|assumption
   rw[jy];refine al ?_;refine aA ?_;refine ae.block ?_;refine' ae.dO (l':=[(64,.int .i64 ((0):Int)),(5,_),(62,_),(63,_)]) ⟨?aqe,rfl,rfl,rfl,trivial⟩ (bx _) ?_;case aqe=>first|exact bg|exact aa some (aa (Value.int .u64) I)|exact aa some (aa (Value.int .u32) I)|exact aa some (aa (Value.int .i64) I)
   refine ao ?_;refine' ae.e2 (fun(k:Nat)=>⟨[(64,.int .i64 (k:Int))],[(zV,.row (mJ [] (fW ps s M) []) 3),(qa,.row (b7 .i64 (((fW ps s M).take k).foldl kf (fX ps s M))) 3)],p4,k<=lF ps s M,lF ps s M -k⟩) (0) ?ag ?bD;case ag=>exact ep _
   case bD=>
    rintro k hinv;try simp only at hinv
    have hk:=hinv;refine rg ?_;refine U V.bb ?_;refine aA ?_;refine If (fun Ck=>?_) fun Ck=>?_
    ·obtain⟨x,ab⟩:∃x,(fW ps s M)[k]?=some x:=⟨_,eE (by rw[F.Hw];omega)⟩;have AU:=F.xB x (jS ab);have kc:(((fW ps s M).take k).foldl kf (fX ps s M)).length=ps.length:=(Dm _ _ (fun x ab=>by rw[iP];exact F.xB x (x' ab)) (F.DR.sublist (IQ _ _))).1.trans iP;have OX:=(Dm ((fW ps s M).take k) (fX ps s M) (fun x ab=>by rw[iP];exact F.xB x (x' ab)) (F.DR.sublist (IQ _ _))).2.1;rw[dY] at OX;have Ax:=F.out;obtain⟨y,aB⟩:∃y,(((fW ps s M).take k).foldl kf (fX ps s M))[x.toNat]?=some y:=⟨_,eE I⟩;refine dW ?_;refine ao ?_;refine ae.block ?_;refine rg ?_;refine U V.bh ?_;refine' W.step rfl (Exec.val rfl rfl (lM rfl rfl ?av (iB (dm rfl) ?az)) ?_);case av=>exact qr
     case az=>exact Hm ab (by show _=0+k;omega)
     refine U V.au ?_;refine a2 ?_;refine al ?_;refine U V.bh ?_;refine' W.step rfl (Exec.val rfl rfl (lM rfl rfl ?av (iB (dm rfl) ?az)) ?_);case av=>exact qr
     case az=>exact oV aB I
     refine U V.aY ?_;have WQ:=xr (jS aB);rw[wrap_i64 (n:=(y:Int)+1) I I];refine U V.bh ?_;refine' W.step rfl (.of (ia rfl rfl rfl rfl (hh rfl) rfl rfl rfl ?ad ?ag ?ap ?_));case ap=>repeat first|exact .head _ _ _ _|apply dh.tail|apply dh.app
     case ag=>exact(k8 (k:=.i64) (l:=((fW ps s M).take k).foldl kf (fX ps s M)) (x:=y+1) (off:=0+x.toNat*1) x.toNat I I)
     case ad=>first|rfl|assumption
     refine a3 ?_;rw[UZ ab aB];refine rg ?_;refine U V.aY ?_;refine U V.ay ?_;refine a3 ?_;refine fl (k+1) ?_ (hm:=.refl _);exact I
    ·refine ao ?_;refine ae.exit ?_;obtain rfl:k=lF ps s M:=I
     refine ae.ub (m':=[(qa,.row (b7 .i64 (By ps s M)) 3),(zV,.row (mJ [] (fW ps s M) []) 3)]) (IM (l₁:=[_]) (l₂:=[_])) ?_;refine ae.h9 rfl fun Ga=>?_;refine rg ?_;refine al ?_;refine aA ?_;refine ae.ret ?_;refine'⟨.inr rfl,rfl,_,[],.tmp rfl .nil,br _,⟨((c2.trans (kd.trans Pa)).trans gu).trans Ga,rfl,_,_,rfl,abL (Zc mD ag ap).len (an.g7 _ _ _) m5⟩⟩
end
section
variable {Q:dD Tryz.prog}{g0:Nat}{J:an}
theorem Nj{v w:Value}{x y:Nat}(ad:cM J v x)(af:cM J w y)(mD:(ai x).length<=60000)(n6:(ai y).length<=60000):Fn (a1 Q g0) 86 [v,w] [] J (fun u m' ah=>J.le ah/\m'=[]/\cM ah u (Nat.gcd x y)):=by
 have ku:cR .u32 J v (ai x):=ad;have jW:cR .u32 J w (ai y):=af;obtain⟨bQ,bH,rfl⟩:=ku.form;obtain⟨bL,bM,rfl⟩:=jW.form;refine Fn.cr (cu Tryz.func86) rfl rfl fun H=>?_;refine rg ?_;refine U V.au ?_;refine aA ?_;refine ae.block ?_;refine' ae.dO (l':=[(0,.slice (bQ) (ai (x)).length (bH)),(1,.slice (bL) (ai (y)).length (bM))]) ⟨?w0,?bm,trivial⟩ (bx _) ?_;case w0=>first|exact bg|exact aa some (aa (Value.int .u64) I)|exact aa some (aa (Value.int .u32) I)|exact aa some (aa (Value.int .i64) I)
 case bm=>first|exact bg|exact aa some (aa (Value.int .u64) I)|exact aa some (aa (Value.int .u32) I)|exact aa some (aa (Value.int .i64) I)
 refine ao ?_;refine' ae.e2 (fun(a6:Nat×Nat×(Option Addr)×(Option Addr)×Nat×Nat×an)=>match a6 with|(a,b,MO,fo,q3,E8,dw)=>⟨[(0,.slice MO (ai a).length q3),(1,.slice fo (ai b).length E8)],[],dw,J.le dw/\cM dw (.slice MO (ai a).length q3) a/\cM dw (.slice fo (ai b).length E8) b/\(ai a).length<=60000/\(ai b).length<=60000/\Nat.gcd a b=Nat.gcd x y,b⟩) ⟨x,y,bQ,bL,bH,bM,J⟩ ?ag ?bD
 case ag=>exact⟨an.le.refl _,ad,af,mD,n6,rfl⟩
 case bD=>
  rintro⟨a,b,MO,fo,q3,E8,dw⟩ hinv;try simp only at hinv
  obtain⟨c2,eT,e4,ss,vg,aF⟩:=hinv;refine rg ?_;refine al ?_;refine U V.bb ?_;refine aA ?_;refine If (fun fp=>?_) fun fp=>?_
  ·have gr:b≠0:=oT I;have w2:a % b<b:=fJ _ I;refine dW ?_;refine ao ?_;refine ae.block ?_;refine rg ?_;refine al ?_;refine bN (G:=Lk eT e4 gr ss vg) (h:=?_);rintro v' m' bK hle ⟨aK,rfl,bm,bW,rfl,bS,av⟩;have dj:cR .u32 bK bW (ai (a % b)):=av;obtain⟨dE,dZ,rfl⟩:=dj.form;refine al ?_;refine a2 ?_;refine al ?_;refine a3 ?_;have bD:J.le bK/\cM bK (.slice fo (ai b).length E8) b/\cM bK (.slice dE (ai (a % b)).length dZ) (a % b)/\(ai b).length<=60000/\(ai (a % b)).length<=60000/\Nat.gcd b (a % b)=Nat.gcd x y:=⟨c2.trans aK,e4.mono aK,av,vg,cY (lD (r0 w2)) vg,by
    rw[<-aF,oA a b,zO b a,oA (a % b) b]⟩
   refine fl ⟨b,a % b,fo,dE,E8,dZ,bK⟩ ?_;exact bD
  ·have gr:b=0:=by
    rcases jj b with q|q
    ·exact q
    ·have:=tT (jl q);omega
   rw[gr,zP] at aF;refine ao ?_;refine ae.exit ?_;refine rg ?_;refine al ?_;refine aA ?_;refine ae.ret ?_;refine'⟨.inr rfl,rfl,_,[],.tmp rfl .nil,br _,⟨c2,rfl,by rw[<-aF];exact eT⟩⟩
end
end
end Go.Opn

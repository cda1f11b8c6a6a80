/- A part of the proof of TableClose. -/
import Derived.Test.YtpahonhejmlnpaaGreatDoorCbk
set_option maxRecDepth 100000
set_option maxHeartbeats 8000000
set_option linter.unusedVariables false
set_option linter.unusedSimpArgs false
namespace Go.Opn
noncomputable section
open Go.Cre Go.RowKit Go.Proofs
abbrev kE(pre:List Value)(L:List Int)(post:List Value):List Value:=pre++(L.map (Value.int .i64)++post)
theorem Br{pre post:List Value}{L:List Int}{j k:Nat}{x:Int}(h:L[j]?=some x)(hk:k=pre.length+j):nth (kE pre L post) k=some (.int .i64 x):=by
 subst hk;have aA:=(hq.1 h).1;rw[jU,K5 (by omega),K4 (by rw[gx];omega),show pre.length+j -pre.length=j by omega,jt,h];rfl
theorem Q7{pre post:List Value}{L:List Int}{j k:Nat}{v:Int}(h:j<L.length)(hk:k=pre.length+j):fO k (kE pre L post) [.int .i64 v]=some (kE pre (L.set j v) post):=by
 subst hk;rw[adh (pre.length+j) (by rw[g1,g1,gx];omega)];unfold kE;rw[SE _ _ (by omega),List.set_append_left _ _ (by rw[gx];omega),show pre.length+j -pre.length=j by omega,Fl]
theorem getD_some{L:List Int}{j:Nat}{x:Int}(h:L[j]?=some x):L.getD j 0=x:=by rw[js,h];rfl
theorem Tz{f:Int->Int->Int}{M:List Int}{j:Nat}(a5:1<=j)(h:f (M.getD j 0) (M.getD (j -1) 0)<0):mz f (j -1) (oE M (j -1))=mz f j M:=by
 obtain⟨k,rfl⟩:∃k,j=k+1:=⟨j -1,by omega⟩;rw[Fq] at h;show mz f k (oE M k)=if f (M.getD (k+1) 0) (M.getD k 0)<0 then mz f k (oE M k) else M;rw[bg h]
theorem Tw{f:Int->Int->Int}{M:List Int}{j:Nat}(h:¬(1<=j/\f (M.getD j 0) (M.getD (j -1) 0)<0)):mz f j M=M:=by
 cases j with
 |zero=>rfl
 |succ k=>
  rw[Fq] at h;show(if f (M.getD (k+1) 0) (M.getD k 0)<0 then mz f k (oE M k) else M)=M;rw[a3 (fun q=>h ⟨by omega,q⟩)]
section
variable {Q:ek Tryz.prog}{g0:Nat}{J:an}
theorem Zz{hG off cap n:Nat}{e:TypeId}{pre post:List Value}{D:List Int}{tQ:FuncId}{nZ:Array Value}{f:Int->Int->Int}{ok:Int->Prop}{hy:aU}(er:D.length=n)(aw:n<=1000)(DD:pre.length=off)(hN:∀x∈D,ok x)
 (aL:∀bq:an,J.le bq->∀a b,ok a->ok b->Fn (aO Q g0) tQ (.int .i64 a::.int .i64 b::nZ.toList) [] bq (fun v m' ae=>v=.int .i64 (f a b)/\m'=[]/\bq.le ae)):
 Fn (aO Q g0) 116 [.slice (some ⟨hG,off,none⟩) n cap,.int .i64 0,.int .i64 (n:Int),.func (.func tQ) #[] nZ] ((hG,.row (kE pre D post) e)::hy) J (fun v m' ae=>m'=(hG,.row (kE pre (qe f (n -1) D) post) e)::hy/\J.le ae):=by
 refine Fn.ck (ch Tryz.func116) rfl rfl fun H=>?_;refine rg ?_;refine I V.aJ ?_;refine I V.bW ?_;refine I V.aI ?_;refine aD ?_;refine ad.block ?_;refine' ad.eH (l':=[(8,.int .i64 (((0)+1:Nat):Int)),(0,_),(1,_),(2,_),(3,_)]) ⟨?qI,rfl,rfl,rfl,rfl,trivial⟩ (cd _) ?_;case qI=>first|exact cq|exact aj some (aj (Value.int .u64) (by omega))|exact aj some (aj (Value.int .i64) (by omega))
 refine aG ?_;refine' ad.b0 (fun(cG:Nat×(List Int)×an)=>match cG with|(k,L,dn)=>⟨[(8,.int .i64 ((k+1:Nat):Int))],(hG,.row (kE pre L post) e)::hy,dn,(k=0\/k+1<=n)/\L=qe f k D/\L.length=n/\(∀x∈L,ok x)/\J.le dn,n -(k+1)⟩) ⟨0,D,J⟩ ?af ?bT
 case af=>exact⟨.inl rfl,rfl,er,hN,an.le.refl _⟩
 case bT=>
  rintro⟨k,L,dn⟩ hinv;try simp only at hinv
  obtain⟨hk,bP,x2,C9,et⟩:=hinv;refine rg ?_;refine aH ?_;refine I V.a' ?_;refine aD ?_;refine If (fun gQ=>?_) fun gQ=>?_
  ·refine aG ?_;refine ad.skip ?_;refine aG ?_;refine ad.block ?_;refine rg ?_;refine aH ?_;refine aD ?_;refine ad.block ?_;refine' ad.eH (l':=[(9,.int .i64 ((k+1):Int)),(0,_),(1,_),(2,_),(3,_),(8,_)]) ⟨?Kl,rfl,rfl,rfl,rfl,rfl,trivial⟩ (cd _) ?_;case Kl=>first|exact cq|exact aj some (aj (Value.int .u64) (by omega))|exact aj some (aj (Value.int .i64) (by omega))
   refine aG ?_;refine' ad.b0 (fun(cG:Nat×(List Int)×an)=>match cG with|(j,M,Ci)=>⟨[(9,.int .i64 (j:Int))],(hG,.row (kE pre M post) e)::hy,Ci,j<=k+1/\mz f j M=mz f (k+1) L/\M.length=n/\(∀x∈M,ok x)/\J.le Ci,j⟩) ⟨k+1,L,dn⟩ ?af ?bT
   case af=>exact⟨c5 _,rfl,x2,C9,et⟩
   case bT=>
    rintro⟨j,M,Ci⟩ hinv;try simp only at hinv
    obtain⟨a5,iG,NA,Db,Ns⟩:=hinv;have Dq:k+1<n:=by omega
    refine mj [0,1,2,3,8,9] ?_;refine aG ?_;refine' ad.Mt 0 [(34,.bool (decide (1<=j/\f (M.getD j 0) (M.getD (j -1) 0)<0)))] ?Gl ?Gr;case Gl=>
     refine ad.draw rfl (by kernel_rfl) (a2:=[.val 0,.val 1,.val 2,.val 3,.val 4,.val 5,.val 6,.val 7,.val 8,.val 9,.val 10,.val 11,.val 12,.val 13,.bA 14,.val 15,.val 16]) (by kernel_rfl) ?_;refine bi.iU ?_;refine aS.val rfl rfl rfl rfl V.aJ ?_;refine aS.val rfl rfl rfl rfl V.aJ ?_;refine aS.val rfl rfl rfl rfl V.a' ?_;refine aS.val rfl rfl rfl rfl V.aJ ?_;refine wY 21 (fun Wu=>?_) fun Wu=>?_
     ·obtain⟨x,U⟩:∃x,M[j]?=some x:=⟨_,eO (by omega)⟩;obtain⟨y,aF⟩:∃y,M[j -1]?=some y:=⟨_,eO (by omega)⟩;have ex:=getD_some U;have CY:=getD_some aF;have NZ:1<=j:=by omega
      refine aS.ew rfl rfl rfl rfl rfl V.aJ ?_;refine aS.ew rfl rfl rfl rfl rfl V.aJ ?_;refine aS.ew rfl rfl rfl rfl rfl V.aJ ?_;refine aS.ew rfl rfl rfl rfl rfl V.bj ?_;refine' aS.ew rfl rfl rfl rfl rfl (kG rfl rfl ?al (iV (dw rfl) ?ay)) ?_;case al=>exact qr
      case ay=>exact Br U (by omega)
      refine aS.ew rfl rfl rfl rfl rfl V.aJ ?_;refine aS.ew rfl rfl rfl rfl rfl V.aJ ?_;refine aS.ew rfl rfl rfl rfl rfl V.bW ?_;refine aS.ew rfl rfl rfl rfl rfl V.bj ?_;refine' aS.ew rfl rfl rfl rfl rfl (kG rfl rfl ?al (iV (dw rfl) ?ay)) ?_;case al=>exact qr
      case ay=>exact Br aF (by omega)
      refine' aS.n0 rfl rfl rfl rfl rfl rfl rfl rfl rfl rfl c8 (aL Ci Ns x y (Db x (k8 U)) (Db y (k8 aF))) ?_;rintro v' m' afz hle ⟨rfl,rfl,_⟩;refine aS.ew rfl rfl rfl rfl rfl V.a' ?_;refine aS.val rfl rfl rfl rfl V.bo ?_;refine aS.nil ?_;exact ce
     ·have NZ:¬1<=j:=by omega
      refine aS.na rfl rfl rfl rfl rfl rfl ?_;refine aS.na rfl rfl rfl rfl rfl rfl ?_;refine aS.na rfl rfl rfl rfl rfl rfl ?_;refine aS.na rfl rfl rfl rfl rfl rfl ?_;refine aS.na rfl rfl rfl rfl rfl rfl ?_;refine aS.na rfl rfl rfl rfl rfl rfl ?_;refine aS.na rfl rfl rfl rfl rfl rfl ?_;refine aS.na rfl rfl rfl rfl rfl rfl ?_;refine aS.na rfl rfl rfl rfl rfl rfl ?_;refine aS.na rfl rfl rfl rfl rfl rfl ?_;refine aS.Mk rfl rfl rfl rfl rfl rfl ?_;refine aS.na rfl rfl rfl rfl rfl rfl ?_;refine aS.val rfl rfl rfl rfl V.bo ?_;refine aS.nil ?_;exact ce
    case Gr=>
     intro KX Ya;have Nt:=Ns.trans Ya;refine aG ?_;refine If (fun vf=>?_) fun vf=>?_
     ·obtain⟨NZ,cD⟩:=vf;obtain⟨x,U⟩:∃x,M[j]?=some x:=⟨_,eO (by omega)⟩;obtain⟨y,aF⟩:∃y,M[j -1]?=some y:=⟨_,eO (by omega)⟩;have ex:=getD_some U;have CY:=getD_some aF;refine e4 ?_;refine aG ?_;refine ad.block ?_;refine aG ?_;refine ad.draw rfl (by kernel_rfl) (a2:=[.val 0,.val 1,.val 2,.val 3,.val 4,.val 5,.val 6,.val 7,.val 8,.val 9,.val 10,.val 11,.val 12,.val 13,.val 14,.bA 15,.val 16,.b2 [4,3,2],.bA 17]) (by kernel_rfl) ?_;refine e3 ?_;refine a6 rfl V.bW ?_;refine e3 ?_;refine a6 rfl V.bW ?_;refine a6 rfl V.bj ?_;refine' bi.val rfl rfl rfl rfl (kG rfl rfl ?al (iV (dw rfl) ?ay)) ?_;case al=>exact qr
      case ay=>exact Br aF (by omega)
      refine e3 ?_;refine a6 rfl V.bj ?_;refine' bi.val rfl rfl rfl rfl (kG rfl rfl ?al (iV (dw rfl) ?ay)) ?_;case al=>exact qr
      case ay=>exact Br U (by omega)
      refine a6 rfl V.bj ?_;refine' bi.tG rfl rfl (k4 rfl rfl rfl rfl (jX rfl) rfl rfl rfl ?aa ?af ?ao ?_);case ao=>repeat first|exact .head _ _ _ _|apply dp.tail|apply dp.app
      case af=>exact Q7 (L:=M) (v:=y) (j:=j) (by omega) (by omega)
      case aa=>first|rfl|assumption
      refine a6 rfl V.bj ?_;refine bi.b2 ez ?_;refine' bi.tG rfl rfl (k4 rfl rfl rfl rfl (jX rfl) rfl rfl rfl ?aa ?af ?ao ?_);case ao=>repeat first|exact .head _ _ _ _|apply dp.tail|apply dp.app
      case af=>exact Q7 (L:=M.set j y) (v:=x) (j:=j -1) (by rw[nP];omega) (by omega)
      case aa=>first|rfl|assumption
      refine bi.nil ?_;rw[show(M.set j y).set (j -1) x=oE M (j -1) from by unfold oE;rw[Nat.sub_add_cancel (show 1<=j by omega),ex,CY]];refine rg ?_;refine I V.aJ ?_;refine I V.bW ?_;refine I V.aI ?_;refine bR ?_;refine gF ⟨j -1,oE M (j -1),KX⟩ ?_;exact⟨by omega,(Tz (by omega) cD).trans iG,by rw[J1];exact NA,fun x U=>Db x ((J2 (by omega)).mem_iff.1 U),Nt⟩
     ·have XP:M=qe f (k+1) D:=by show M=mz f (k+1) (qe f k D);rw[<-bP,<-iG,Tw vf]
      refine aG ?_;refine ad.exit ?_;refine rg ?_;refine I V.aJ ?_;refine I V.bW ?_;refine I V.aI ?_;refine bR ?_;refine gF ⟨k+1,M,KX⟩ ?_;exact⟨by omega,XP,NA,Db,Nt⟩
  ·obtain rfl:k=n -1:=by omega
   refine aG ?_;refine ad.exit ?_;refine'⟨.inl rfl,rfl,_,_,.nil,cd _,⟨by rw[bP],et⟩⟩
theorem adH{hG off cap n:Nat}{e:TypeId}{pre post:List Value}{D:List Int}{tQ:FuncId}{nZ:Array Value}{f:Int->Int->Int}{ok:Int->Prop}{hy:aU}(er:D.length=n)(aw:n<20)(DD:pre.length=off)(hN:∀x∈D,ok x)
 (aL:∀bq:an,J.le bq->∀a b,ok a->ok b->Fn (aO Q g0) tQ (.int .i64 a::.int .i64 b::nZ.toList) [] bq (fun v m' ae=>v=.int .i64 (f a b)/\m'=[]/\bq.le ae)):
 Fn (aO Q g0) 87 [.slice (some ⟨hG,off,none⟩) n cap,.int .i64 (n:Int),.func (.func tQ) #[] nZ] ((hG,.row (kE pre D post) e)::hy) J (fun v m' ae=>m'=(hG,.row (kE pre (qe f (n -1) D) post) e)::hy/\J.le ae):=by
 refine Fn.ck (ch Tryz.func87) rfl rfl fun H=>?_;refine rg ?_;refine I V.aI ?_;refine bb ?_;refine aH ?_;refine aD ?_;refine ad.block ?_;refine aG ?_;refine ad.A9 ?_;refine rg ?_;refine aH ?_;refine I V.a' ?_;refine aD ?_;refine If (fun zA=>?_) fun zA=>?_
 ·exfalso;omega
 ·refine aG ?_;refine ad.exit ?_;refine rg ?_;refine aH ?_;refine' W.step rfl (Exec.call rfl rfl rfl rfl rfl rfl rfl (bU:=(hG,.row (kE pre D post) e)::hy) (eD:=[]) (by simp) trivial (Zz er (by omega) DD hN aL) ?_);rintro v m' ae hle ⟨rfl,HJ⟩;rw[jr];refine aD ?_;refine ad.block ?_;refine aG ?_;refine ad.A9 ?_;refine rg ?_;refine aH ?_;refine I V.a' ?_;refine aD ?_;refine If (fun F6=>?_) fun F6=>?_
  ·exfalso;omega
  ·refine aG ?_;refine ad.exit ?_;refine'⟨.inl rfl,rfl,_,_,.nil,cd _,⟨rfl,HJ⟩⟩
theorem adf{hG off cap n:Nat}{e:TypeId}{pre post:List Value}{D:List Int}{tQ:FuncId}{nZ:Array Value}{f:Int->Int->Int}{ok:Int->Prop}{hy:aU}(er:D.length=n)(aw:n<20)(DD:pre.length=off)(hN:∀x∈D,ok x)
 (aL:∀bq:an,J.le bq->∀a b,ok a->ok b->Fn (aO Q g0) tQ (.int .i64 a::.int .i64 b::nZ.toList) [] bq (fun v m' ae=>v=.int .i64 (f a b)/\m'=[]/\bq.le ae)):
 Fn (aO Q g0) 52 [.slice (some ⟨hG,off,none⟩) n cap,.func (.func tQ) #[] nZ] ((hG,.row (kE pre D post) e)::hy) J (fun v m' ae=>m'=(hG,.row (kE pre (qe f (n -1) D) post) e)::hy/\J.le ae):=by
 refine Fn.ck (ch Tryz.func52) rfl rfl fun H=>?_;refine rg ?_;refine aH ?_;refine' W.step rfl (Exec.call rfl rfl rfl rfl rfl rfl rfl (bU:=(hG,.row (kE pre D post) e)::hy) (eD:=[]) (by simp) trivial (adH er aw DD hN aL) ?_);rintro v m' ae hle ⟨rfl,HJ⟩;rw[jr];refine bR ?_;refine'⟨.inl rfl,rfl,_,_,.nil,cd _,⟨rfl,HJ⟩⟩
end
theorem PM{X:Int}{d M:Nat}(au:0<d):aV ((aV X d).z*(M:Int)) ((aV X d).d*1)=aV (X*M) d:=by
 have aL:=(h8 (z:=X) au).1;refine(Bo (hV aL Nat.one_pos) au).2 ?_;have h:=qo (z:=X) au;rw[iZ,Int.mul_right_comm,h,Int.mul_right_comm]
theorem aaQ{X d:Nat}(au:0<d):(aV (X:Int) d).z.natAbs / (aV (X:Int) d).d=X / d/\py (aV (X:Int) d)=aV ((X % d:Nat):Int) d:=by
 obtain⟨g,e,q,aq,he,a0,Aj,Hr,aw,_⟩:=rT (z:=(X:Int)) au;unfold py;rw[aw];show q.natAbs / e=X / d/\aV ((q.natAbs % e:Nat):Int) e=_;have fl:X=g*q.natAbs:=by
  have:=aj Int.natAbs a0;rwa [g8,jo,g8] at this
 subst Aj;rw[fl,Nat.mul_div_mul_left _ _ aq,Nat.mul_mod_mul_left];refine⟨rfl,(Bo he au).2 ?_⟩;rw[gZ,gZ]
 ac_rfl
theorem aaM{X Y d:Nat}(au:0<d):g' ((aV (X:Int) d).z.natAbs*(aV (Y:Int) d).d) ((aV (Y:Int) d).z.natAbs*(aV (X:Int) d).d)=g' X Y:=by
 obtain⟨g,e,q,aq,he,a0,Aj,_,aw,_⟩:=rT (z:=(X:Int)) au;obtain⟨h,f,r,cS,az,hw,XF,_,hm,_⟩:=rT (z:=(Y:Int)) au;rw[aw,hm];show g' (q.natAbs*f) (r.natAbs*e)=_;have fl:X=g*q.natAbs:=by
  have:=aj Int.natAbs a0;rwa [g8,jo,g8] at this
 have im:Y=h*r.natAbs:=by
  have:=aj Int.natAbs hw;rwa [g8,jo,g8] at this
 have a9:X*d=(g*h)*(q.natAbs*f):=by rw[fl,XF];ac_rfl
 have a4:Y*d=(g*h)*(r.natAbs*e):=by rw[im,Aj];ac_rfl
 have ao:=hV aq cS;have fM:q.natAbs*f<r.natAbs*e↔X<Y:=by
  rw[<-Nat.mul_lt_mul_left ao,<-a9,<-a4];exact SS au
 have fg:r.natAbs*e<q.natAbs*f↔Y<X:=by
  rw[<-Nat.mul_lt_mul_left ao,<-a9,<-a4];exact SS au
 unfold g';simp only[fM,fg]
theorem BM{b:Nat}(h:b<=12):IntKind.i64.wrap (1*2 ^ ((b:Nat):Int).toNat)=((2 ^ b:Nat):Int)/\2 ^ b<=4096/\0<2 ^ b:=by
 have:∀b:Nat,b<13->IntKind.i64.wrap (1*2 ^ ((b:Nat):Int).toNat)=((2 ^ b:Nat):Int)/\2 ^ b<=4096/\0<2 ^ b:=by decide+kernel
 exact this b (by omega)
theorem QL{M s p:Nat}(af:0<s):bV M s p<s:=oN _ af
section
variable {Q:ek Tryz.prog}{g0:Nat}{J:an}
theorem acR{ps:List Nat}{s M fI jA:Nat}{ks:Option Addr}(sA:J fI=some ([.slice ks ps.length jA],63))(hL:fA J 81 3 (j1 J) (.slice ks ps.length jA) (ps.map fun p=>aV ((bV M s p:Nat):Int) s))(af:0<s)(kf:s<=4096){a b:Int}(aK:0<=a/\a<ps.length)(ah:0<=b/\b<ps.length):
 Fn (aO Q g0) 53 [.int .i64 a,.int .i64 b,.pointer (some ⟨fI,0,none⟩)] [] J (fun v m' ae=>v=.int .i64 (vk ps s M a b)/\m'=[]/\J.le ae):=by
 have lQ:addrEq ks ks=true:=hL.addr;obtain⟨_,iH⟩:=hL.at;rw[gx] at iH;obtain⟨q2,off,cells,bk,rfl,gb,kQ⟩:=iH (by omega);obtain⟨r,cs,al,iq,xW,v1,v2,rfl,eC⟩:=kQ a aK.1 (by omega);rw[jt] at al;obtain⟨p,kS,rfl⟩:=sg.1 al;obtain⟨cg,cw,AH,Xz,X5,bh,cb,rfl,vG⟩:=kQ b ah.1 (by omega);rw[jt] at AH;obtain⟨q,DG,rfl⟩:=sg.1 AH;have lf:=eC;have Hc:=vG;obtain⟨br,bI,bn,rfl,aR,_,_⟩:=eC.n.bD;obtain⟨bN,cY,bQ,rfl,aN,_,_⟩:=eC.d.bD;obtain⟨cW,ee,cZ,rfl,bG,_,_⟩:=vG.n.bD;obtain⟨dj,fa,dH,rfl,dd,_,_⟩:=vG.d.bD;have a9:=QL (M:=M) (p:=p) af;have a4:=QL (M:=M) (p:=q) af;obtain⟨fy,fF⟩:=ll (X:=((bV M s p:Nat):Int)) (B:=1000000000) af (by omega) (by omega);obtain⟨wP,uR⟩:=ll (X:=((bV M s q:Nat):Int)) (B:=1000000000) af (by omega) (by omega);have mN:vk ps s M a b=g' (bV M s q) (bV M s p):=by
  unfold vk;rw[js,js,kS,DG];rfl
 have qb:c4 8 (cO (aV ((bV M s p:Nat):Int) s) (.slice br bI bn) (.slice bN cY bQ)) (cO (aV ((bV M s p:Nat):Int) s) (.slice br bI bn) (.slice bN cY bQ))=true:=by simp[c4,gP,aR,aN,j6]
 have ug:c4 8 (cO (aV ((bV M s q:Nat):Int) s) (.slice cW ee cZ) (.slice dj fa dH)) (cO (aV ((bV M s q:Nat):Int) s) (.slice cW ee cZ) (.slice dj fa dH))=true:=by simp[c4,gP,bG,dd,j6]
 refine Fn.ck (ch Tryz.func53) rfl rfl fun H=>?_;refine rg ?_;refine I V.aI ?_;refine aD ?_;refine ad.draw rfl (by kernel_rfl) (a2:=[.val 0,.val 1,.val 2,.val 3,.val 4,.val 5,.val 6,.val 7,.bA 8,.val 9]) (by kernel_rfl) ?_;refine a6 rfl V.c2 ?_;refine a6 rfl V.aJ ?_;refine a6 rfl V.bj ?_;refine a6 rfl V.hx ?_;refine a6 rfl V.c2 ?_;refine a6 rfl V.aJ ?_;refine a6 rfl V.bj ?_;refine a6 rfl V.hx ?_;refine dl rfl (G:=Uo Hc lf (h8 af) (h8 af) (by have:=pp (X:=bV M s q) af;omega) (by have:=pp (X:=bV M s p) af;omega) wP uR fy fF) (h:=?_);rintro v' m' bq a8 ⟨rfl,rfl,hle⟩;refine a6 rfl V.aI ?_;refine bi.nil ?_;refine aG ?_;refine ad.ret ?_;refine'⟨.inr rfl,rfl,_,[],.tmp rfl .nil,bZ _,⟨by rw[aaM af,mN];rfl,rfl,hle⟩⟩
end
abbrev uC (n i:Nat):List Value:=((lJ n).take i).map (Value.int .i64)++eN [.int .i64 0] (n -i)
theorem abK{n i off:Nat}(ar:i<n)(ag:i=off:=by omega):fO off (uC n i) [.int .i64 (i:Int)]=some (uC n (i+1)):=by
 subst ag;unfold uC;rw[show n -i=(n -(i+1))+1 by omega,wT,tv,OU ar,K'];rw[show([Value.int .i64 0]++eN [.int .i64 0] (n -(i+1)))=[Value.int .i64 0]++eN [.int .i64 0] (n -(i+1)) from rfl];have h:=EK (d:=((lJ n).take i).map (Value.int .i64)) (z:=[Value.int .i64 0]) (rest:=eN [.int .i64 0] (n -(i+1))) (new:=[.int .i64 (i:Int)]) (off:=i) (by rw[gx,gp,v7];omega) rfl;rw[h,<-r9];rfl
theorem abJ{n:Nat}:uC n n=kE [] (lJ n) []:=by
 unfold uC kE;rw[sf,y5,ib (by rw[v7];exact c5 _),sb]
abbrev te(o:List Nat)(n i:Nat):List Value:=ca .i64 (o.take i++List.replicate (n -i) 0)
theorem abM{o:List Nat}{n i x:Nat}(aw:o.length=n)(ar:i<n)(U:o[i]?=some x){off:Nat}(ag:i=off:=by omega):fO off (te o n i) [.int .i64 (x:Int)]=some (te o n (i+1)):=by
 subst ag;rw[pq i (by rw[g1,gp,Fk];omega) rfl];congr 2
 rw[show n -i=(n -(i+1))+1 by omega,List.replicate_succ,SE _ _ (by rw[gp];omega),gp,g9 (by omega),sf,List.set_cons_zero,tv,U];simp
theorem abL{o:List Nat}{n:Nat}(aw:o.length=n):te o n n=ca .i64 o:=by
 unfold te;rw[sf,ib (by omega)];simp
theorem aaR{o:List Nat}{n i x off:Nat}(U:o[i]?=some x)(ag:i=off:=by omega):nth (te o n (i+1)) off=some (.int .i64 (x:Int)):=by
 subst ag;refine s9 ?_ rfl;have:=(hq.1 U).1;rw[K4 (by rw[gp];omega),lW,bg (by omega),U]
theorem V1{L:List Int}{o:List Nat}{k y:Nat}{x:Int}(U:L[k]?=some x)(aF:((L.take k).foldl jD o)[x.toNat]?=some y):((L.take k).foldl jD o).set x.toNat (y+1)=(L.take (k+1)).foldl jD o:=by
 rw[tv,U,List.foldl_append];show _=jD ((L.take k).foldl jD o) x;rw[show jD ((L.take k).foldl jD o) x=((L.take k).foldl jD o).set x.toNat (((L.take k).foldl jD o).getD x.toNat 0+1) from rfl,js,aF];rfl
theorem SU{k:IntKind}{J:an}{a n:Nat}{l:List Nat}{e:TypeId}(aw:l.length=n)(h:J a=some (ca k l,e))(aL:n<cu):de k J (.slice (some ⟨a,0,none⟩) n n) l:=by
 have:=de.row (k:=k) (n:=n) (cap:=n) (by omega) (c5 _) aL h;rwa [ib (by omega)] at this
section
variable {Q:ek Tryz.prog}{g0:Nat}{J:an}
theorem QD{ps:List Nat}{s bits:Nat}{b:Option Addr}{c:Nat}(h:fA J 81 3 (j1 J) (.slice b ps.length c) (ps.map fun p:Nat=>aV (p:Int) s))(fR:1<=ps.length)(fZ:ps.length<=10)(af:0<s)(kf:s<=4096)(ao:ps.sum=s)(pY:bits<=12):
 Fn (aO Q g0) 24 [.slice b ps.length c,.int .i64 (bits:Int)] [] J (fun u m' ae=>J.le ae/\m'=[]/\∃b' bw,u=.slice b' ps.length bw/\de .i64 ae (.slice b' ps.length bw) (yK ps s (2 ^ bits))):=by
 have lQ:addrEq b b=true:=h.addr;obtain⟨_,iH⟩:=h.at;rw[gx] at iH;obtain⟨iG,o3,mH⟩:=BM pY;generalize 2 ^ bits=M at*;have F:=QB (M:=M) fR af ao;have h4:(hl ps s M).length=ps.length:=gx _;have kO:ps.length<cu:=hC fZ (by decide);have agL:0<ps.length:=fR;have agJ:(0:Int)<=(bits:Int)/\(bits:Int)<=64:=by omega
 refine Fn.ck (ch Tryz.func24) rfl rfl fun H=>?_;refine rg ?_;refine I V.aI ?_;refine aD ?_;refine ad.draw rfl (by kernel_rfl) (a2:=[.iL 9,.val 0,.val 1,.iL 2,.val 3,.val 4,.iL 5,.val 6,.val 7,.iL 8,.val 10,.val 11,.b2 [7,6,4,3,1,0],.bA 12]) (by kernel_rfl) ?_;refine bi.alloc rfl rfl rfl rfl rfl (afg Q g0) rfl rfl rfl fun fI=>?_;refine a6 rfl V.aJ ?_;refine a6 rfl V.gL ?_;refine bi.makeSlice rfl rfl rfl rfl rfl rfl rfl (BK Q g0) ?aX ?aa ?ab fun q1=>?_;case aX=>exact bS
 case aa=>exact bS
 case ab=>exact bS
 refine a6 rfl V.aJ ?_;refine a6 rfl V.gL ?_;refine bi.makeSlice rfl rfl rfl rfl rfl rfl rfl (BK Q g0) ?aX ?aa ?ab fun u5=>?_;case aX=>exact bS
 case aa=>exact bS
 case ab=>exact bS
 refine a6 rfl V.aJ ?_;refine a6 rfl V.gL ?_;refine bi.makeSlice rfl rfl rfl rfl rfl rfl rfl (QQ Q g0) ?aX ?aa ?ab fun l1=>?_;case aX=>exact bS
 case aa=>exact bS
 case ab=>exact bS
 refine e3 ?_;refine bi.b2 ez ?_;refine k7 rfl ?_;refine bi.nil ?_;rw[jq];refine rg ?_;refine I V.aJ ?_;refine' W.step rfl (Exec.val rfl rfl (qG rfl rfl rfl ?aX ?aa) ?_);case aX=>exact bS
 case aa=>first|decide|exact bS|exact(show _<=((64:Nat):Int) from(by omega))
 refine I V.aI ?_;refine bR ?_;rw[iG];refine rg ?_;refine aH ?_;refine aD ?_;refine ad.block ?_;refine aG ?_;refine ad.mY (m':=[(fI,.row [.slice (some ⟨l1,0,none⟩) ps.length ps.length] 63),(l1,.row ([]++eN [.bool false,.slice none 0 0,.slice none 0 0] (ps.length -0)) 81),(u5,.row (uC ps.length 0) 3),(q1,.row (te (hl ps s M) ps.length 0) 3)]) (by rw[show te (hl ps s M) ps.length 0=eN [.int .i64 0] ps.length from zero_num.symm];exact ng (l₁:=[_]) (l₂:=[_,_,_])) ?_;refine' ad.eH (l':=[(26,.int .i64 ((0):Int)),(8,.int .i64 ((M:Int) -(((hl ps s M).take (0)).sum:Int))),(1,_),(5,_),(6,_),(7,_),(24,_),(25,_)]) ⟨?Kh,?qI,rfl,rfl,rfl,rfl,rfl,rfl,trivial⟩ (cd _) ?_;case Kh=>first|exact cq|exact aj some (aj (Value.int .u64) (by omega))|exact aj some (aj (Value.int .i64) (by omega))
 case qI=>first|exact cq|exact aj some (aj (Value.int .u64) (by omega))|exact aj some (aj (Value.int .i64) (by omega))
 refine aG ?_;refine' ad.b0 (fun(cG:Nat×(List Value)×an)=>match cG with|(i,d,dn)=>⟨[(26,.int .i64 (i:Int)),(8,.int .i64 ((M:Int) -(((hl ps s M).take i).sum:Int)))],[(fI,.row [.slice (some ⟨l1,0,none⟩) ps.length ps.length] 63),(l1,.row (d++eN [.bool false,.slice none 0 0,.slice none 0 0] (ps.length -i)) 81),(u5,.row (uC ps.length i) 3),(q1,.row (te (hl ps s M) ps.length i) 3)],dn,i<=ps.length/\J.le dn/\nd 3 (fun _=>j1 dn) d ((ps.map fun p=>aV ((bV M s p:Nat):Int) s).take i),ps.length -i⟩) ⟨0,[],J⟩ ?af ?bT
 case af=>exact⟨fB _,an.le.refl _,rfl,fun i x h=>by cases h⟩
 case bT=>
  rintro⟨i,d,dn⟩ hinv;try simp only at hinv
  obtain⟨ar,et,hs⟩:=hinv;refine rg ?_;refine I V.a' ?_;refine aD ?_;refine If (fun kt=>?_) fun kt=>?_
  ·obtain⟨q2,off,cells,bk,rfl,gb,kQ⟩:=iH (by omega);obtain⟨r,cs,al,iq,xW,v1,v2,rfl,eC⟩:=kQ i (by omega) (by omega);rw[jq,jt] at al;obtain⟨p,kS,rfl⟩:=sg.1 al;have gb:=et _ _ gb;have lf:=eC.mono et;obtain⟨br,bI,bn,rfl,aR,_,_⟩:=eC.n.bD;obtain⟨bN,cY,bQ,rfl,aN,_,_⟩:=eC.d.bD;have rG:=rR (k8 kS);obtain⟨fy,fF⟩:=ll (X:=(p:Int)) (B:=4096) af (by omega) kf;have sH:d.length=i*3:=by rw[hs.1,gp,gx,g9 ar]
   have HS:(hl ps s M)[i]?=some (p*M / s):=by unfold hl;rw[jt,kS];rfl
   have dM:=J0 HS;have vX:=BO (l:=hl ps s M) (i:=i+1);have ag':=F.out;have Yu:p*M<=4096*4096:=pJ (by omega) o3;have hmul:=PM (X:=(p:Int)) (M:=M) af;rw[<-gZ] at hmul;obtain⟨yc,ny⟩:=aaQ (X:=p*M) af;obtain⟨wP,uR⟩:=ll (X:=((p*M:Nat):Int)) (B:=4096*4096) af (by omega) (by omega);refine e4 ?_;refine aG ?_;refine ad.block ?_;refine rg ?_;refine I V.aJ ?_;refine I V.bj ?_;refine I V.hx ?_;refine' W.step rfl (.of (eS rfl rfl rfl (k5 Q g0) rfl rfl rfl fun sl=>?_));refine I V.aI ?_;refine eG ?_;refine aD ?_;refine ad.draw rfl (by kernel_rfl) (a2:=[.val 0,.val 1,.val 2,.val 3,.val 4,.val 5,.val 6,.bA 7,.b2 [4,3,2,1,0],.bA 8,.b2 [3,2,1,0],.bA 9,.val 10,.val 11,.val 12,.val 13,.b2 [3,2,1,0],.bA 14,.val 15,.b2 [12,3,2],.bA 16]) (by kernel_rfl) ?_;refine e3 ?_;refine a6 rfl V.c2 ?_;refine a6 rfl V.aJ ?_;refine a6 rfl V.hx ?_;refine a6 rfl V.aJ ?_;refine' bi.val rfl rfl rfl rfl (qG rfl rfl rfl ?aX ?aa) ?_;case aX=>exact bS
   case aa=>first|decide|exact bS|exact(show _<=((64:Nat):Int) from(by omega))
   rw[iG];refine dl rfl (G:=IA (n:=M) (by omega) (by omega)) (h:=?_);rintro v' m' bq a8 ⟨_,rfl,dE,ej,rfl,cK⟩;have sB:=cK;obtain⟨eU,gV,e2,rfl,fm,_,_⟩:=cK.n.bD;obtain⟨eP,ef,dU,rfl,ho,_,_⟩:=cK.d.bD;refine bi.b2 ez ?_;refine dl rfl (G:=Px (lf.mono a8) sB (h8 af) ⟨Nat.one_pos,Lg _⟩ (by show((M:Nat):Int)≠0;omega) (by omega) (by omega) (by show((M:Nat):Int).natAbs<=_;omega) (by show(1:Nat)<=_;omega)) (h:=?_);rintro v' m' dR bO ⟨_,rfl,dE,ej,rfl,n7⟩;rw[hmul] at n7;have WY:=n7;obtain⟨jM,lL,gA,rfl,mf,_,_⟩:=n7.n.bD;obtain⟨j5,nF,gR,rfl,m2,_,_⟩:=n7.d.bD;rw[hmul];refine bi.b2 ez ?_;refine dl rfl (G:=ae2 WY (h8 af) (by omega)) (h:=?_);rintro v' m' fV cL ⟨_,rfl,dE,ej,rfl,bP⟩;rw[ny] at bP;have G9:=bP;obtain⟨hI,po,e7,rfl,lo,_,_⟩:=bP.n.bD;obtain⟨i',ma,dq,rfl,ln,_,_⟩:=bP.d.bD;rw[yc,ny];refine e3 ?_;refine a6 rfl V.bj ?_;refine bi.b2 ez ?_;refine' bi.tG rfl rfl (k4 rfl rfl rfl rfl (jX rfl) rfl rfl rfl ?aa ?af ?ao ?_);case ao=>repeat first|exact .head _ _ _ _|apply dp.tail|apply dp.app
   case af=>exact abM h4 (by omega) HS
   case aa=>first|rfl|assumption
   refine a6 rfl V.bj ?_;refine bi.b2 ez ?_;refine' bi.tG rfl rfl (k4 rfl rfl rfl rfl (jX rfl) rfl rfl rfl ?aa ?af ?ao ?_);case ao=>repeat first|exact .head _ _ _ _|apply dp.tail|apply dp.app
   case af=>exact(by rw[show ps.length -i=(ps.length -(i+1))+1 by omega,wT];exact EK (by rw[sH];omega) rfl)
   case aa=>first|rfl|assumption
   refine bi.nil ?_;refine rg ?_;refine aH ?_;refine I V.bj ?_;refine' W.step rfl (Exec.val rfl rfl (kG rfl rfl ?al (iV (dw rfl) ?ay)) ?_);case al=>exact qr
   case ay=>exact aaR HS
   refine I V.bW ?_;refine I V.aI ?_;refine bb ?_;refine aH ?_;refine I V.bj ?_;refine' W.step rfl (.of (k4 rfl rfl rfl rfl (jX rfl) rfl rfl rfl ?aa ?af ?ao ?_));case ao=>repeat first|exact .head _ _ _ _|apply dp.tail|apply dp.app
   case af=>exact abK (by omega)
   case aa=>first|rfl|assumption
   refine bR ?_;have Ak:nd 3 (fun _=>j1 fV) (d++o1 (aV ((bV M s p:Nat):Int) s) (.slice hI po e7) (.slice i' ma dq)) ((ps.map fun p=>aV ((bV M s p:Nat):Int) s).take (i+1)):=by
    rw[tv,jt,kS];exact(hs.mono fun _ _ _ q=>((q.mono a8).mono bO).mono cL).app ⟨_,_,rfl,G9⟩ rfl
   rw[<-r9];refine rg ?_;refine I V.bW ?_;refine I V.aJ ?_;refine bR ?_;refine gF ⟨i+1,d++o1 (aV ((bV M s p:Nat):Int) s) (.slice hI po e7) (.slice i' ma dq),fV⟩ ?_ (hm:=.cons _ (.refl _));exact⟨by omega,((et.trans a8).trans bO).trans cL,Ak⟩
  ·obtain rfl:i=ps.length:=by omega
   rw[ib (by rw[gx];exact c5 _)] at hs;have Ax:(M:Int) -(((hl ps s M).take ps.length).sum:Int)=((lK ps s M:Nat):Int):=by
    rw[ib (by omega)];have:=F.out;unfold lK;omega
   have N7:=F.IS;refine aG ?_;refine ad.exit ?_;refine ad.mY (m':=[(fI,.row [.slice (some ⟨l1,0,none⟩) ps.length ps.length] 63),(l1,.row d 81),(u5,.row (kE [] (lJ ps.length) []) 3),(q1,.row (ca .i64 (hl ps s M)) 3)]) (by show List.Perm _ [(fI,dh.row [.slice (some ⟨l1,0,none⟩) ps.length ps.length] 63),(l1,.row (d++eN [.bool false,.slice none 0 0,.slice none 0 0] (ps.length -ps.length)) 81),(u5,.row (uC ps.length ps.length) 3),(q1,.row (te (hl ps s M) ps.length ps.length) 3)];rw[sf,y5,jr,abJ,abL h4]) ?_;refine ad.iW rfl fun je=>?_;refine ad.iW rfl fun p6=>?_;have sA:=p6 _ _ (an.hH dn fI ([.slice (some ⟨l1,0,none⟩) ps.length ps.length],63));have G4:fA ((dn.add fI ([.slice (some ⟨l1,0,none⟩) ps.length ps.length],63)).add l1 (d,81)) 81 3 (j1 ((dn.add fI ([.slice (some ⟨l1,0,none⟩) ps.length ps.length],63)).add l1 (d,81))) (.slice (some ⟨l1,0,none⟩) ps.length ps.length) (ps.map fun p=>aV ((bV M s p:Nat):Int) s):=by
    have x2:(ps.map fun p=>aV ((bV M s p:Nat):Int) s).length=ps.length:=gx _;refine⟨d,?_,fun j x U=>(hs.2 j x U).mono (je.trans p6)⟩;rw[x2];have Ht:d.length=ps.length*3:=by rw[hs.1,x2]
    exact ey.row (an.hH _ _ _) (by rw[kJ,ib (by omega)]) Ht (fun _=>⟨c5 _,kO⟩) (fun _=>rfl)
   refine rg ?_;refine aH ?_;refine' W.step rfl (Exec.call rfl rfl rfl rfl rfl rfl rfl (bU:=[(u5,.row (kE [] (lJ ps.length) []) 3)]) (eD:=[(q1,.row (ca .i64 (hl ps s M)) 3)]) (.refl _) trivial (adf (pre:=[]) (post:=[]) (D:=lJ ps.length) (f:=vk ps s M) (ok:=fun x=>0<=x/\x<ps.length) (hy:=[]) (off:=0) v7 (by omega) rfl OV (fun bq l3 a b aK ah=>acR (l3 _ _ sA) (fA.mono (R':=j1 bq) l3 (fun _ _ q=>q.mono l3) G4) af kf aK ah)) ?_);rintro v' m' qR hle ⟨rfl,gC⟩;rw[show qe (vk ps s M) (ps.length -1) (lJ ps.length)=hz ps s M from rfl];refine bb ?_;refine I V.aJ ?_;refine I V.aJ ?_;rw[Ax];refine' W.step rfl (Exec.val rfl rfl (Kc rfl rfl (BK Q g0) rfl ?aX ?aa ?ab ?aY) ?_);case aX=>exact bS
   case aa=>exact bS
   case ab=>first|exact(by decide)|assumption
   case aY=>first|exact(by decide)|assumption
   rw[jq];refine aH ?_;refine aD ?_;refine ad.block ?_;refine' ad.eH (l':=[(64,.int .i64 ((0):Int)),(5,_),(62,_),(63,_)]) ⟨?aeZ,rfl,rfl,rfl,trivial⟩ (cd _) ?_;case aeZ=>first|exact cq|exact aj some (aj (Value.int .u64) (by omega))|exact aj some (aj (Value.int .i64) (by omega))
   refine aG ?_;refine' ad.b0 (fun(k:Nat)=>⟨[(64,.int .i64 (k:Int))],[(u5,.row (kE [] (hz ps s M) []) 3),(q1,.row (ca .i64 (((hz ps s M).take k).foldl jD (hl ps s M))) 3)],qR,k<=lK ps s M,lK ps s M -k⟩) (0) ?af ?bT;case af=>exact fB _
   case bT=>
    rintro k hinv;try simp only at hinv
    have hk:=hinv;refine rg ?_;refine I V.a' ?_;refine aD ?_;refine If (fun TM=>?_) fun TM=>?_
    ·obtain⟨x,U⟩:∃x,(hz ps s M)[k]?=some x:=⟨_,eO (by rw[F.PW];omega)⟩;have OI:=F.En x (k8 U);have hg:(((hz ps s M).take k).foldl jD (hl ps s M)).length=ps.length:=(DX _ _ (fun x U=>by rw[h4];exact F.En x (Fm U)) (F.Jk.sublist (Ld _ _))).1.trans h4;have XT:=(DX ((hz ps s M).take k) (hl ps s M) (fun x U=>by rw[h4];exact F.En x (Fm U)) (F.Jk.sublist (Ld _ _))).2.1;rw[gp] at XT;have xT:=F.out;obtain⟨y,aF⟩:∃y,(((hz ps s M).take k).foldl jD (hl ps s M))[x.toNat]?=some y:=⟨_,eO (by omega)⟩;refine e4 ?_;refine aG ?_;refine ad.block ?_;refine rg ?_;refine I V.bj ?_;refine' W.step rfl (Exec.val rfl rfl (kG rfl rfl ?al (iV (dw rfl) ?ay)) ?_);case al=>exact qr
     case ay=>exact Br U (by show _=0+k;omega)
     refine I V.aI ?_;refine bb ?_;refine aH ?_;refine I V.bj ?_;refine' W.step rfl (Exec.val rfl rfl (kG rfl rfl ?al (iV (dw rfl) ?ay)) ?_);case al=>exact qr
     case ay=>exact s9 aF (by omega)
     refine I V.bW ?_;have ahj:=rR (k8 aF);rw[wrap_i64 (n:=(y:Int)+1) (by omega) (by omega)];refine I V.bj ?_;refine' W.step rfl (.of (k4 rfl rfl rfl rfl (jX rfl) rfl rfl rfl ?aa ?af ?ao ?_));case ao=>repeat first|exact .head _ _ _ _|apply dp.tail|apply dp.app
     case af=>exact(pq (k:=.i64) (l:=((hz ps s M).take k).foldl jD (hl ps s M)) (x:=y+1) (off:=0+x.toNat*1) x.toNat (by omega) (by omega))
     case aa=>first|rfl|assumption
     refine bR ?_;rw[V1 U aF];refine rg ?_;refine I V.bW ?_;refine I V.aJ ?_;refine bR ?_;refine gF (k+1) ?_ (hm:=.refl _);exact(by omega)
    ·refine aG ?_;refine ad.exit ?_;obtain rfl:k=lK ps s M:=by omega
     refine ad.mY (m':=[(q1,.row (ca .i64 (yK ps s M)) 3),(u5,.row (kE [] (hz ps s M) []) 3)]) (ng (l₁:=[_]) (l₂:=[_])) ?_;refine ad.iW rfl fun oh=>?_;refine rg ?_;refine aH ?_;refine aD ?_;refine ad.ret ?_;refine'⟨.inr rfl,rfl,_,[],.tmp rfl .nil,bZ _,⟨((et.trans (je.trans p6)).trans gC).trans oh,rfl,_,_,rfl,SU (JG fR af ao).len (an.hH _ _ _) kO⟩⟩
end
end
end Go.Opn

/- A part of the proof of TableClose. -/
import Derived.Test.YtpahonhejmlnpaaGreatDoorCbe
import Derived.Test.YtpahonhejmlnpaaGreatDoorCar
set_option maxRecDepth 100000
set_option maxHeartbeats 8000000
set_option linter.unusedVariables false
set_option linter.unusedSimpArgs false
namespace Go.Opn
noncomputable section
open Go.Cre Go.RowKit Go.Proofs
def Qq(x:Nat):Nat->List Nat
 |0=>[0]
 |_+1=>[x]
abbrev Fz(J:an)(x:Nat):Value->aU->an->Prop:=fun u m' ae=>J.le ae/\m'=[]/\∃w,u=.tuple #[w,.bool true]/\dW ae w x
section
variable {Q:ek Tryz.prog}{g0:Nat}{J:an}
theorem ae0{v:Value}(h:cA J v 0):Fn (aO Q g0) 128 [v] [] J (fun u m' ae=>J=ae/\m'=[]/\∃b c,u=.slice b 0 c/\addrEq b b=true):=by
 have aX:=h;obtain⟨b,n,c,rfl,lQ,aw,al⟩:=h.bD;obtain rfl:=aw.uv rfl;obtain⟨ku,vX⟩:=aX;refine Fn.ck (ch Tryz.func128) rfl rfl fun H=>?_;refine rg ?_;refine I V.aI ?_;refine bb ?_;refine I V.aJ ?_;refine I V.JL ?_;refine aD ?_;refine If (fun dH=>?_) fun dH=>?_
 ·refine rg ?_;refine I V.aI ?_;refine aD ?_;refine ad.ret ?_;refine'⟨.inr rfl,rfl,_,[],.tmp rfl .nil,bZ _,?_⟩;first
   |(have c:=dH
     first
         |exact⟨rfl,rfl,CB,CN,rfl,JA⟩
         |exact⟨rfl,rfl,none,0,rfl,rfl⟩)
 ·refine aG ?_;refine ad.skip ?_;refine rg ?_;refine ja (kZ Q g0) fun cr=>?_;refine I V.aJ ?_;refine' W.step rfl (.of (nL rfl rfl rfl rfl rfl rfl (kZ Q g0) (J' Q g0) (fun i q=>by cases q) ?dr ?hm ?U ?dI ?dP ?aA fun k3 aai Hl Iw=>?_));case dr=>exact .ik _
  case hm=>exact .refl _
  case U=>exact vX.rd
  case dI=>exact rfl
  case dP=>exact rfl
  case aA=>exact(show 0+0<=1000000 by decide)
  obtain⟨CB,CN,rfl,JA⟩:=Hl.xv;refine I V.aI ?_;refine aD ?_;refine ad.ret ?_;refine'⟨.inr rfl,rfl,_,[],.tmp rfl .nil,bZ _,?_⟩;first
   |(have c:=dH
     first
        |exact⟨rfl,rfl,CB,CN,rfl,JA⟩
        |exact⟨rfl,rfl,none,0,rfl,rfl⟩)
theorem ad2{v:Value}(h:cA J v 0):Fn (aO Q g0) 101 [v] [] J (Fz J 0):=by
 have aX:=h;obtain⟨b,n,c,rfl,lQ,aw,al⟩:=h.bD;obtain rfl:=aw.uv rfl;refine Fn.ck (ch Tryz.func101) rfl rfl fun H=>?_;refine rg ?_;refine aH ?_;refine bb ?_;refine aH ?_;refine I V.a' ?_;refine aD ?_;refine If (fun mA=>?_) fun mA=>?_
 ·exfalso;omega
 ·refine aG ?_;refine ad.skip ?_;refine rg ?_;refine I V.aJ ?_;refine b4 (G:=ae0 aX) (h:=?_);rintro v' m' ae hle ⟨rfl,rfl,CB,CN,rfl,JA⟩;refine I V.aI ?_;refine bb ?_;refine I V.aI ?_;refine aD ?_;refine ad.block ?_;refine aG ?_;refine ad.A9 ?_;refine rg ?_;refine aH ?_;refine I V.a' ?_;refine aD ?_;refine If (fun nm=>?_) fun nm=>?_
  ·exfalso;omega
  ·refine aG ?_;refine ad.exit ?_;refine rg ?_;refine aH ?_;refine bb ?_;refine I V.aJ ?_;refine I V.a' ?_;refine I V.aJ ?_;refine gz 51 (fun GU=>?_) fun GU=>?_
   ·exfalso;omega
   ·refine c7 ?_;refine c7 ?_;refine c7 ?_;refine c7 ?_;refine c7 ?_;refine c7 ?_;refine I V.bo ?_;refine aD ?_;refine ad.tJ rfl ?_;refine l8 ?_;refine aH ?_;refine I V.a' ?_;refine aH ?_;refine aD ?_;refine ad.ret ?_;refine'⟨.inr rfl,rfl,_,[],.tmp rfl (.tmp rfl .nil),bZ _,⟨an.le.refl _,rfl,_,rfl,by unfold dW;rw[kh];exact de.nil⟩⟩
theorem ad3{v:Value}{x:Nat}(h:cA J v x)(gN:x≠0)(U:x<1000000000):Fn (aO Q g0) 101 [v] [] J (Fz J x):=by
 have aX:=h;obtain⟨b,n,c,rfl,lQ,aw,al⟩:=h.bD;obtain rfl:=aw.bI gN;have gm:x / 1000000000000000000=0:=qV (by omega);have Yc:x % 1000000000000000000=x:=se (by omega);have AM:(x:Int).tmod 1000000000=(x:Int):=by
  rw[Int.tmod_eq_emod_of_nonneg (by omega)];omega
 have Ou:IntKind.u64.wrap ((x:Int).tdiv 1000000000)=0:=by
  rw[show(x:Int).tdiv 1000000000=((x / 1000000000:Nat):Int) from rfl,qV U];rfl
 have fR:ap x=[x]:=by rw[A7 U];unfold jK;rw[a3 gN]
 refine Fn.ck (ch Tryz.func101) rfl rfl fun H=>?_;refine rg ?_;refine aH ?_;refine bb ?_;refine aH ?_;refine I V.a' ?_;refine aD ?_;refine If (fun mA=>?_) fun mA=>?_
 ·exfalso;omega
 ·refine aG ?_;refine ad.skip ?_;refine rg ?_;refine I V.aJ ?_;refine b4 (G:=ae1 aX gN) (h:=?_);rintro v' m' ae hle ⟨rfl,ac,px,rfl,rfl⟩;refine I V.aI ?_;refine bb ?_;refine I V.aI ?_;refine aD ?_;refine ad.block ?_;refine' ad.eH (l':=[(4,.slice (some ⟨ac,0,none⟩) (1) cu),(5,(.slice none 0 0))]) ⟨?lS,?gh,trivial⟩ (cd _) ?_;case lS=>first|exact cq|exact aj some (aj (Value.int .u64) (by omega))|exact aj some (aj (Value.int .i64) (by omega))
  case gh=>first|exact cq|exact aj some (aj (Value.int .u64) (by omega))|exact aj some (aj (Value.int .i64) (by omega))
  refine aG ?_;refine' ad.b0 (fun(cG:Nat×Value×aU×(List Nat))=>match cG with|(k,o,ba,bV)=>⟨[(4,.slice (some ⟨ac,0,none⟩) k cu),(5,o)],ba++[yL .u64 102 ac (Qq x k) bV],J,k<=1/\(k=1->o=.slice none 0 0/\ba=[])/\(k=0->Acc 40 1 o 2 (ca .u32 [x,0]) ba),k⟩) ⟨1,.slice none 0 0,[],px⟩ ?af ?bT
  case af=>exact⟨c5 _,fun _=>⟨rfl,rfl⟩,fun q=>absurd q (by decide)⟩
  case bT=>
   rintro⟨k,o,ba,bV⟩ hinv;try simp only at hinv
   obtain⟨hk,oe,rz⟩:=hinv;refine rg ?_;refine aH ?_;refine I V.a' ?_;refine aD ?_;refine If (fun nm=>?_) fun nm=>?_
   ·obtain rfl:k=1:=by omega
    obtain⟨rfl,rfl⟩:=oe rfl;refine e4 ?_;refine aG ?_;refine ad.block ?_;refine rg ?_;refine I V.aI ?_;refine bb ?_;refine aH ?_;refine I V.bW ?_;refine I V.aI ?_;refine aD ?_;refine ad.block ?_;refine' ad.eH (l':=[(7,.int .i64 (((1):Int) -1)),(6,.int .u64 ((EA x (1):Nat):Int)),(4,_),(5,_)]) ⟨?k3,?mi,rfl,rfl,trivial⟩ (cd _) ?_;case k3=>first|exact cq|exact aj some (aj (Value.int .u64) (by omega))|exact aj some (aj (Value.int .i64) (by omega))
    case mi=>first|exact cq|exact aj some (aj (Value.int .u64) (by omega))|exact aj some (aj (Value.int .i64) (by omega))
    refine aG ?_;refine' ad.b0 (fun(cG:Nat×(List Nat))=>match cG with|(j,cM)=>⟨[(7,.int .i64 ((j:Int) -1)),(6,.int .u64 ((EA x j:Nat):Int))],[yL .u64 102 ac (Qq x j) cM],J,j<=1,j⟩) ⟨1,bV⟩ ?af ?bT
    case af=>exact c5 _
    case bT=>
     rintro⟨j,cM⟩ hinv;try simp only at hinv
     have a5:=hinv;refine rg ?_;refine I V.aJ ?_;refine I V.a' ?_;refine aD ?_;refine If (fun nn=>?_) fun nn=>?_
     ·obtain rfl:j=1:=by omega
      refine e4 ?_;refine aG ?_;refine ad.block ?_;refine rg ?_;refine aH ?_;refine I V.bj ?_;refine I V.cP ?_;refine b4 (G:=Mw (x:=x) (d:=1000000000000000000) (by omega) (by decide)) (h:=?_);rintro v' m' ae hle ⟨rfl,rfl,rfl⟩;rw[gm,Yc];refine aH ?_;refine I V.bj ?_;refine' W.step rfl (.of (Kr rfl rfl rfl rfl (jX rfl) rfl rfl rfl ?aa ?af ?a0 ?ao ?_));case ao=>exact .refl _
      case af=>exact pq (l:=[x]) (x:=0) 0 (by simp) (by omega)
      case aa=>first|rfl|assumption
      case a0=>exact fB _
      refine I V.aI ?_;refine bb ?_;refine I V.aJ ?_;refine I V.bW ?_;refine I V.aI ?_;refine bR ?_;refine gF ⟨0,[]⟩ ?_;exact(fB _)
     ·obtain rfl:j=0:=by omega
      refine aG ?_;refine ad.exit ?_;refine mj [4,6,5] ?_;refine aG ?_;refine' ad.oU 2 [(6,.int .u64 (x:Int)),(4,.slice (some ⟨ac,0,none⟩) 0 cu)] ?Gk ?Gq;case Gk=>
       refine ad.region ?_;refine I V.aJ ?_;refine' W.step rfl (Exec.call rfl rfl rfl rfl rfl rfl rfl (bU:=[yL .u64 102 ac [0] cM]) (eD:=[]) (.refl _) trivial (ad5 (l:=[0]) (by decide)) ?_);rintro v' m' ae hle ⟨a4,rfl,X2,a0,nx,rfl,rfl⟩;obtain rfl:a4=0:=by(rcases ly a4 with q|q;exact q;exact absurd rfl (nx 0 q (by rw[show a4 -1=0 by simp at X2;omega];rfl)))
       refine I V.aI ?_;refine bR ?_;refine'⟨⟨_,rfl,⟨?ef,?fa,rfl,trivial⟩⟩,cd _,rfl⟩;case ef=>rfl
       case fa=>rfl
      case Gq=>
       refine rg ?_;refine aH ?_;refine I V.ha ?_;rw[AM];refine I V.gk ?_;refine I V.aJ ?_;refine I V.ha ?_;rw[Ou];refine I V.gk ?_;refine ja (iy Q g0) fun afI=>?_;refine' W.step rfl (.of (R1 rfl rfl rfl rfl rfl rfl (iy Q g0) (tm Q g0) (fun i q=>by cases q) ?dr ?hm ?U ?dI ?dP ?aA fun aeX aag Xi=>?_));case dr=>exact .nil
       case hm=>exact .refl _
       case U=>exact ko.own (cells:=ca .u32 [x,0]) (.head _) rfl
       case dI=>exact rfl
       case dP=>exact Bs _
       case aA=>exact bS
       refine I V.aI ?_;refine bR ?_;refine gF ⟨0,aeX,aag,cM⟩ ?_ (hm:=.append (.refl _) (.cons _ (.refl _)));exact⟨fB _,fun q=>absurd q (by decide),fun _=>Xi⟩
   ·obtain rfl:k=0:=by omega
    have eL:=rz rfl;obtain⟨afU,co,rfl,ahT⟩:=eL.xv;refine aG ?_;refine ad.exit ?_;refine eL.m0 (.refl _) fun fV cL vX=>?_;obtain⟨_,_,aC,_,_,p4⟩:=vX.inv;injection aC with aC _ pP
    subst aC;subst pP;obtain⟨afQ,Jl,Ui,agj,rfl,agw,gD⟩:=p4 (by decide);have eb:nth Ui (Jl+1)=some (.int .u32 0):=gD 1 (by decide);refine rg ?_;refine aH ?_;refine bb ?_;refine I V.aJ ?_;refine I V.a' ?_;refine I V.aJ ?_;refine gz 51 (fun GU=>?_) fun GU=>?_
    ·refine bM V.aJ ?_;refine bM V.aJ ?_;refine bM V.bW ?_;refine bM V.bj ?_;refine bM V.cP ?_;refine bM V.a' ?_;refine I V.bo ?_;refine aD ?_;refine If (fun Md=>?_) fun Md=>?_
     ·refine rg ?_;refine aH ?_;refine I V.bW ?_;refine' W.step rfl (.of (R4 rfl rfl rfl rfl (iy Q g0) ?ay ?hk rfl rfl ?aX ?aa ?ab fun ah8 OD=>?_));case ay=>assumption
      case hk=>exact bS
      case aX=>exact bS
      case aa=>exact bS
      case ab=>exact bS
      obtain⟨CB,CN,rfl,_⟩:=OD.inv;refine I V.aI ?_;refine bb ?_;refine aH ?_;refine I V.a' ?_;refine aH ?_;refine aD ?_;refine ad.ret ?_;refine'⟨.inr rfl,rfl,_,[],.tmp rfl (.tmp rfl .nil),bZ _,⟨cL,rfl,_,rfl,40,by rw[fR];exact OD⟩⟩
     ·exfalso;exact Md rfl
    ·exfalso;omega
end
def nd{α:Type}(sz:Nat)(R:Nat->α->List Value->Prop)(cells:List Value)(xs:List α):Prop:=cells.length=xs.length*sz/\∀i x,xs[i]?=some x->R i x ((cells.drop (i*sz)).take sz)
theorem nd.app{α:Type}{sz:Nat}{R:Nat->α->List Value->Prop}{cells new:List Value}{xs:List α}{x:α}(h:nd sz R cells xs)(U:R xs.length x new)(aw:new.length=sz):nd sz R (cells++new) (xs++[x]):=by
 refine⟨by rw[g1,g1,h.1,aw,zg,iC,w8],fun i y aF=>?_⟩;by_cases q:i<xs.length
 ·rw[K4 q] at aF
  have af:i*sz+sz<=xs.length*sz:=by rw[<-zn];exact lY _ q
  rw[Sw (by rw[h.1];omega),List.take_append_of_le_length (by rw[r',h.1];omega)];exact h.2 i y aF
 ·rw[K5 (by omega)] at aF
  have aX:i=xs.length:=by
   have:=(hq.1 aF).1;rw[zg] at this;omega
  subst aX;rw[sf] at aF;injection aF with aF;subst aF
  rw[List.drop_left' (by rw[h.1]),ib (by omega)];exact U
theorem nd.mono{α:Type}{sz:Nat}{R R':Nat->α->List Value->Prop}{cells:List Value}{xs:List α}(h:nd sz R cells xs)(eC:∀i x cs,R i x cs->R' i x cs):nd sz R' cells xs:=⟨h.1,fun i x U=>eC _ _ _ (h.2 i x U)⟩
structure iD (J:an) (r:cH) (v1 v2:Value):Prop where
 n:dW J v1 r.z.natAbs
 d:dW J v2 r.d
theorem iD.mono{J ae:an}(hle:J.le ae){r:cH}{v1 v2:Value}(h:iD J r v1 v2):iD ae r v1 v2:=⟨h.n.mono hle,h.d.mono hle⟩
def ic(J:an)(r:cH)(cs:List Value):Prop:=∃v1 v2,cs=o1 r v1 v2/\iD J r v1 v2
def j1(J:an)(r:cH)(cs:List Value):Prop:=∃v1 v2,cs=o1 r v1 v2/\e5 J r v1 v2
theorem ic.mono{J ae:an}(hle:J.le ae){r:cH}{cs:List Value}(h:ic J r cs):ic ae r cs:=by
 obtain⟨v1,v2,aa,ab⟩:=h;exact⟨v1,v2,aa,ab.mono hle⟩
theorem j1.mono{J ae:an}(hle:J.le ae){r:cH}{cs:List Value}(h:j1 J r cs):j1 ae r cs:=by
 obtain⟨v1,v2,aa,ab⟩:=h;exact⟨v1,v2,aa,ab.mono hle⟩
abbrev SY(J:an)(r:cH):Value->aU->an->Prop:=fun u m' ae=>J.le ae/\m'=[]/\∃v1 v2,u=.tuple #[cO r v1 v2,.bool true]/\iD ae r v1 v2
theorem EK{d z rest new:List Value}{off:Nat}(ag:off=d.length)(a0:z.length=new.length):fO off (d++(z++rest)) new=some (d++(new++rest)):=by
 subst ag;rw[EL _ _ _ (by rw[g1,g1];omega),List.take_left,r9];congr 3
 rw[<-r9,Sw (by rw[g1];omega),w3 (by rw[g1];omega),sb]
theorem dW.bD{J:an}{v:Value}{x:Nat}(h:dW J v x):∃b n c,v=.slice b n c/\addrEq b b=true:=by
 have h:de .u32 J v (ap x):=h;obtain⟨b,c,rfl⟩:=h.form;exact⟨b,_,c,rfl,h.addr⟩
theorem dW.mh{J ae:an}{v w:Value}{x y:Nat}(h:dW J v x)(gB:dW ae w y)(hle:J.le ae)(U:x<1000000000)(aF:y<1000000000)(e:v=w):x=y:=by
 subst e;obtain⟨b,n,c,rfl,_,aa,ab⟩:=h.un U;obtain⟨b',wc,bw,e,_,aY,bu⟩:=gB.un aF;injection e with aC aZ cJ
 subst aC;subst aZ;by_cases q:n=0
 ·rw[aa.z q,aY.z q]
 ·have q:n=1:=by have:=aa.le;omega
  obtain⟨a,off,cells,e,rfl,a9,a4⟩:=ab q;obtain⟨bE,e0,cells',bk,w,s4,qg⟩:=bu q;injection w with w
  injection w with bh cb
  subst bh;subst cb;rw[hle _ _ a9] at s4;injection s4 with s4
  injection s4 with bh cb
  subst bh;rw[a4] at qg;injection qg with qg
  injection qg with _ qg
  omega
section
variable {Q:ek Tryz.prog}{g0:Nat}{J:an}
theorem Rn{v:Value}{x:Nat}(h:cA J v x)(U:x<1000000000):Fn (aO Q g0) 101 [v] [] J (Fz J x):=by
 by_cases q:x=0
 ·subst q;exact ad2 h
 ·exact ad3 h q U
theorem acv{r:cH}{v1 v2:Value}(al:e5 J r v1 v2)(a0:r.z.natAbs<1000000000)(au:r.d<1000000000)(gm:r.d≠0):Fn (aO Q g0) 66 [cO r v1 v2] [] J (SY J r):=by
 have dL:=al;obtain⟨br,bI,bn,rfl,aR,eb,gK⟩:=al.n.bD;obtain⟨bN,cY,bQ,rfl,aN,e',gT⟩:=al.d.bD;refine Fn.ck (ch Tryz.func66) rfl rfl fun H=>?_;refine rg ?_;refine fc fun bx=>?_;refine' W.step rfl (.of (eS rfl rfl rfl (jY Q g0) rfl rfl rfl fun bX=>?_));refine I V.aI ?_;refine bb ?_;refine I V.cF ?_;refine I V.cP ?_;refine b4 (G:=Rn dL.n a0) (h:=?_);rintro v' m' bq a8 ⟨_,rfl,bh,rfl,yc⟩;have nA:=yc;obtain⟨cW,ee,cZ,rfl,bG⟩:=yc.bD;refine aH ?_;refine bb ?_;refine I V.aJ ?_;refine I V.nG ?_;refine aD ?_;refine If (fun gQ=>?_) fun gQ=>?_
 ·exfalso;simp at gQ
 ·refine aG ?_;refine ad.skip ?_;refine rg ?_;refine I V.gU ?_;refine b4 (G:=my (dL.mono a8) gm) (h:=?_);rintro v' m' dR bO ⟨_,rfl,AW⟩;have ny:=AW;obtain⟨dj,fa,dH,rfl,dd,_,_⟩:=AW.bD;refine b4 (G:=Rn ny au) (h:=?_);rintro v' m' fV cL ⟨_,rfl,dD,rfl,OC⟩;have Zb:=OC;obtain⟨eU,gV,e2,rfl,fm⟩:=OC.bD;refine aH ?_;refine bb ?_;refine I V.aJ ?_;refine I V.nG ?_;refine aD ?_;refine If (fun mB=>?_) fun mB=>?_
  ·exfalso;simp at mB
  ·refine aG ?_;refine ad.skip ?_;refine rg ?_;refine I V.cF ?_;refine I V.cP ?_;refine aH ?_;refine eG ?_;refine I V.aI ?_;refine aD ?_;refine ad.ret ?_;refine'⟨.inr rfl,rfl,_,[],.cell rfl (by repeat first|exact .head _|refine .tail _ ?_|refine d' _ ?_) (fb (dw rfl) rfl) (.tmp rfl .nil),bZ _,⟨(a8.trans bO).trans cL,rfl,_,_,rfl,(nA.mono bO).mono cL,Zb⟩⟩
theorem V9{r:cH}{v1 v2:Value}(al:iD J r v1 v2)(a0:r.z.natAbs<1000000000)(au:r.d<1000000000)(eV:r.fP):Fn (aO Q g0) 92 [cO r v1 v2] [] J (nX J r):=by
 have dL:=al;have rd:=eV.1;obtain⟨br,bI,bn,rfl,aR⟩:=al.n.bD;obtain⟨bN,cY,bQ,rfl,aN⟩:=al.d.bD;refine Fn.ck (ch Tryz.func92) rfl rfl fun H=>?_;refine rg ?_;refine fc fun bx=>?_;refine' W.step rfl (.of (eS rfl rfl rfl (k5 Q g0) rfl rfl rfl fun bX=>?_));refine aD ?_;refine ad.draw rfl (by kernel_rfl) (a2:=[.val 0,.val 1,.val 2,.val 3,.val 5,.val 6,.bA 4,.b2 [6,5,1,0],.bA 7,.b2 [1,0],.bA 8,.bA 9]) (by kernel_rfl) ?_;refine a6 rfl V.cF ?_;refine a6 rfl V.cP ?_;refine a6 rfl V.cF ?_;refine a6 rfl V.cP ?_;refine a6 rfl V.cF ?_;refine a6 rfl V.cP ?_;refine bi.iU ?_;refine' aS.dO rfl rfl rfl rfl rfl rfl rfl rfl rfl c8 (M0 dL.n a0) ?_;rintro v' m' bq a8 ⟨_,rfl,nA⟩;have yc:=nA;obtain⟨cW,ee,cZ,rfl,bG,_,_⟩:=nA.bD;refine aS.b2 ez ?_;refine' aS.dO rfl rfl rfl rfl rfl rfl rfl rfl rfl (cj (fun _ aK=>iK.af a8 (dL.n.mh (dL.mono a8).d a8 a0 au (List.cons.inj aK).1) rfl) c8) (M0 (dL.mono a8).d au) ?_;rintro v' m' dR bO ⟨_,rfl,AW⟩;have ny:=AW;obtain⟨dj,fa,dH,rfl,dd,_,_⟩:=AW.bD;refine aS.b2 ez ?_;refine' aS.dO rfl rfl rfl rfl rfl rfl rfl rfl rfl (cj (cT rfl) (cj (cT rfl) c8)) (Bb (r:=r) (yc.mono bO) ny (fun _=>rfl) (Gh eV) (hD rd)) ?_;rintro v' m' fV cL ⟨_,rfl,fy,fF,rfl,bY⟩;have cK:=bY;obtain⟨eU,gV,e2,rfl,fm,_,_⟩:=bY.n.bD;obtain⟨eP,ef,dU,rfl,ho,_,_⟩:=bY.d.bD;refine aS.jj (fun x U=>ju (f:=fun x=>(x.f,x.cl)) U) ?_;refine k7 rfl ?_;refine bi.nil ?_;refine aG ?_;refine ad.ret ?_;refine'⟨.inr rfl,rfl,_,[],.cell rfl (by repeat first|exact .head _|refine .tail _ ?_|refine d' _ ?_) (fb (dw rfl) rfl) (.nil),bZ _,⟨(a8.trans bO).trans cL,rfl,_,_,rfl,cK⟩⟩
theorem list_fn{rs:List cH}{b:Option Addr}{c:Nat}(h:fA J 35 3 (ic J) (.slice b rs.length c) rs)(aA:rs.length<=1000)(ah:∀r∈rs,r.fP/\r.z.natAbs<1000000000/\r.d<1000000000):
 Fn (aO Q g0) 56 [.slice b rs.length c] [] J (fun u m' ae=>J.le ae/\m'=[]/\∃b' bw,u=.slice b' rs.length bw/\fA ae 81 3 (j1 ae) (.slice b' rs.length bw) rs):=by
 have lQ:addrEq b b=true:=h.addr;obtain⟨_,iH⟩:=h.at;refine Fn.ck (ch Tryz.func56) rfl rfl fun H=>?_;refine rg ?_;refine I V.aI ?_;refine bb ?_;refine aH ?_;refine' W.step rfl (.of (wQ rfl rfl rfl rfl rfl (QQ Q g0) ?aX ?aa ?ab fun jw=>?_));case aX=>exact bS
 case aa=>exact bS
 case ab=>exact bS
 refine I V.aI ?_;refine bR ?_;rw[jq];refine rg ?_;refine aH ?_;refine aD ?_;refine ad.block ?_;refine' ad.eH (l':=[(11,.int .i64 ((0):Int)),(3,_),(9,_),(10,_)]) ⟨?qH,rfl,rfl,rfl,trivial⟩ (cd _) ?_;case qH=>first|exact cq|exact aj some (aj (Value.int .u64) (by omega))|exact aj some (aj (Value.int .i64) (by omega))
 refine aG ?_;refine' ad.b0 (fun(cG:Nat×(List Value)×an)=>match cG with|(i,d,dn)=>⟨[(11,.int .i64 (i:Int))],[(jw,.row (d++eN [.bool false,.slice none 0 0,.slice none 0 0] (rs.length -i)) 81)],dn,i<=rs.length/\J.le dn/\nd 3 (fun _=>j1 dn) d (rs.take i),rs.length -i⟩) ⟨0,[],J⟩ ?af ?bT
 case af=>exact⟨fB _,an.le.refl _,rfl,fun i x h=>by cases h⟩
 case bT=>
  rintro⟨i,d,dn⟩ hinv;try simp only at hinv
  obtain⟨ar,et,hs⟩:=hinv;refine rg ?_;refine I V.a' ?_;refine aD ?_;refine If (fun jb=>?_) fun jb=>?_
  ·obtain⟨a,off,cells,bk,rfl,gb,kQ⟩:=iH (by omega);obtain⟨r,cs,al,iq,xW,v1,v2,rfl,eC⟩:=kQ i (by omega) (by omega);rw[jq] at al;have gb:=et _ _ gb;obtain⟨eV,qD,rd⟩:=ah r (k8 al);have lf:=eC;obtain⟨br,bI,bn,rfl,aR⟩:=eC.n.bD;obtain⟨bN,cY,bQ,rfl,aN⟩:=eC.d.bD;have sH:d.length=i*3:=by rw[hs.1,gp,g9 ar]
   refine e4 ?_;refine aG ?_;refine ad.block ?_;refine rg ?_;refine I V.aJ ?_;refine I V.bj ?_;refine I V.hx ?_;refine' W.step rfl (.of (eS rfl rfl rfl (jY Q g0) rfl rfl rfl fun cr=>?_));refine I V.aI ?_;refine eG ?_;refine bb ?_;refine aH ?_;refine I V.hx ?_;refine b4 (G:=V9 (lf.mono et) qD rd eV) (h:=?_);rintro v' m' bq a8 ⟨_,rfl,fy,fF,rfl,bY⟩;have cK:=bY;obtain⟨eP,ef,dU,rfl,ho,_,_⟩:=bY.n.bD;obtain⟨jM,lL,gA,rfl,mf,_,_⟩:=bY.d.bD;refine I V.bj ?_;refine' W.step rfl (.of (k4 rfl rfl rfl rfl (jX rfl) rfl rfl rfl ?aa ?af ?ao ?_));case ao=>repeat first|exact .head _ _ _ _|apply dp.tail|apply dp.app
   case af=>exact(by rw[show rs.length -i=(rs.length -(i+1))+1 by omega,wT];exact EK (by rw[sH];omega) rfl)
   case aa=>first|rfl|assumption
   refine bR ?_;have Ak:nd 3 (fun _=>j1 bq) (d++o1 r (.slice eP ef dU) (.slice jM lL gA)) (rs.take (i+1)):=by
    rw[tv,al];exact(hs.mono fun _ _ _ q=>q.mono a8).app ⟨_,_,rfl,cK⟩ rfl
   rw[<-r9];refine rg ?_;refine I V.bW ?_;refine I V.aJ ?_;refine bR ?_;refine gF ⟨i+1,d++o1 r (.slice eP ef dU) (.slice jM lL gA),bq⟩ ?_ (hm:=.cons _ (.refl _));exact⟨by omega,et.trans a8,Ak⟩
  ·refine aG ?_;refine ad.exit ?_;obtain rfl:i=rs.length:=by omega
   refine ad.mY (m':=[(jw,.row d 81)]) (by show List.Perm _ [(jw,dh.row (d++eN [.bool false,.slice none 0 0,.slice none 0 0] (rs.length -rs.length)) 81)];rw[sf,y5,jr]) ?_;refine ad.iW rfl fun bO=>?_;rw[zi] at hs;refine rg ?_;refine aH ?_;refine aD ?_;refine ad.ret ?_;refine'⟨.inr rfl,rfl,_,[],.tmp rfl .nil,bZ _,?_⟩;refine⟨et.trans bO,rfl,some ⟨jw,0,none⟩,rs.length,rfl,d,ey.row (an.hH _ _ _) (by rw[kJ,ib (by rw[hs.1];exact c5 _)]) hs.1 (fun _=>⟨c5 _,hC aA (by decide)⟩) (fun _=>rfl),fun j x U=>(hs.2 j x U).mono bO⟩
end
end
end Go.Opn
namespace Go.Opn
noncomputable section
def eR(sa c9:Nat):List Nat->List Nat->Nat
 |p::ps,q::cI=>((p:Int)*c9 -(q:Int)*sa).natAbs+eR sa c9 ps cI
 |_,_=>0
theorem EV{sa c9:Nat}:∀{ps cI:List Nat},eR sa c9 ps cI<=ps.sum*c9+cI.sum*sa
 |[],_=>by show 0<=_;omega
 |_::_,[]=>by show 0<=_;omega
 |p::ps,q::cI=>by
  have aP:=EV (sa:=sa) (c9:=c9) (ps:=ps) (cI:=cI);show _+eR sa c9 ps cI<=_;rw[mr,mr,iC,iC];have:((p:Int)*c9 -(q:Int)*sa).natAbs<=p*c9+q*sa:=by
   have aC:((p*c9:Nat):Int)=(p:Int)*c9:=gZ _ _;have aZ:((q*sa:Nat):Int)=(q:Int)*sa:=gZ _ _;omega
  omega
end
end Go.Opn
namespace Go.Opn
noncomputable section
open Go.Cre Go.RowKit Go.Proofs
theorem pp{X d:Nat}(au:0<d):¬(aV (X:Int) d).z<0:=fun h=>by
 have:=(Bq (z:=(X:Int)) au).2.1.1 h;omega
theorem ll{X:Int}{d B:Nat}(au:0<d)(aa:X.natAbs<=B)(ab:d<=B):(aV X d).z.natAbs<=B/\(aV X d).d<=B:=⟨eh (I8 au).1 aa,eh (I8 au).2 ab⟩
theorem J0{l:List Nat}{i x:Nat}(h:l[i]?=some x):(l.take (i+1)).sum=(l.take i).sum+x:=by
 rw[tv,h];simp
theorem BO{l:List Nat}:∀{i:Nat},(l.take i).sum<=l.sum:=by
 induction l with
 |nil=>intro i;simp
 |cons a l aP=>
  intro i;cases i with
  |zero=>simp
  |succ i=>rw[List.take_succ_cons,mr,mr];have:=aP (i:=i);omega
section
variable {Q:ek Tryz.prog}{g0:Nat}{J:an}
theorem LJ{r s:cH}{x y:Bool}{v1 v2 bh cb:Value}(U:x=decide (r.z<0))(aF:y=decide (s.z<0))(al:e5 J r v1 v2)(af:e5 J s bh cb)(eV:r.fP)(cs:s.fP)(cX:r.z.natAbs<=1000000000)(cM:r.d<=1000000000)(s1:s.z.natAbs<=1000000000)(s2:s.d<=1000000000):Fn (aO Q g0) 67 [.agg #[.bool x,v1,v2],.agg #[.bool y,bh,cb]] [] J (nX J (aV (r.z*s.d+s.z*r.d) (r.d*s.d))):=by
 subst U;subst aF;exact LI al af eV cs cX cM s1 s2
theorem UU{r s:cH}{x:Bool}{v1 v2 bh cb:Value}(U:x=decide (r.z<0))(al:e5 J r v1 v2)(af:e5 J s bh cb)(eV:r.fP)(cs:s.fP)(sz:0<s.z)(cX:r.z.natAbs<=1000000000)(cM:r.d<=1000000000)(s1:s.z.natAbs<=1000000000)(s2:s.d<=1000000000):Fn (aO Q g0) 70 [.agg #[.bool x,v1,v2],cO s bh cb] [] J (nX J (aV (r.z*s.d) (r.d*s.z.natAbs))):=by
 subst U;exact UT al af eV cs sz cX cM s1 s2
theorem ad4{ps:List Nat}{s:Nat}{b:Option Addr}{c:Nat}(h:fA J 81 3 (j1 J) (.slice b ps.length c) (ps.map fun p:Nat=>aV (p:Int) s))(af:0<s)(kf:s<=1000000000)(ao:ps.sum<=1000000000)(aA:ps.length<=1000):
 Fn (aO Q g0) 57 [.slice b ps.length c] [] J (nX J (aV (ps.sum:Int) s)):=by
 have lQ:addrEq b b=true:=h.addr;obtain⟨x2,iH⟩:=h.at;rw[gx] at iH;have ot:aV ((0:Nat):Int) s=⟨0,1⟩:=mV af;refine Fn.ck (ch Tryz.func57) rfl rfl fun H=>?_;refine rg ?_;refine' W.step rfl (.of (eS rfl rfl rfl (k5 Q g0) rfl rfl rfl fun bX=>?_));refine bb ?_;refine' W.step rfl (.of (eS rfl rfl rfl (k5 Q g0) rfl rfl rfl fun cy=>?_));refine bb ?_;refine aH ?_;refine aD ?_;refine ad.block ?_;refine' ad.eH (l':=[(8,.int .i64 ((0):Int)),(2,_),(3,_),(6,_),(7,_)]) ⟨?qI,rfl,rfl,rfl,rfl,trivial⟩ (cd _) ?_;case qI=>first|exact cq|exact aj some (aj (Value.int .u64) (by omega))|exact aj some (aj (Value.int .i64) (by omega))
 refine aG ?_;refine' ad.b0 (fun(cG:Nat×Value×Value×an)=>match cG with|(i,bh,cb,dn)=>⟨[(8,.int .i64 (i:Int))],[(cy,.row [.bool false,bh,cb] 81),(bX,.row [.bool false,.slice none 0 0,.slice none 0 0] 81)],dn,i<=ps.length/\J.le dn/\e5 dn (aV (((ps.take i).sum:Nat):Int) s) bh cb,ps.length -i⟩) ⟨0,.slice none 0 0,.slice none 0 0,J⟩ ?af ?bT
 case af=>exact⟨fB _,an.le.refl _,by rw[nS,List.sum_nil,ot];exact⟨cA.nil,cA.nil⟩⟩
 case bT=>
  rintro⟨i,bh,cb,dn⟩ hinv;try simp only at hinv
  obtain⟨ar,et,bY⟩:=hinv;have pV:=bY;obtain⟨cW,ee,cZ,rfl,bG,_,_⟩:=bY.n.bD;obtain⟨dj,fa,dH,rfl,dd,_,_⟩:=bY.d.bD;refine rg ?_;refine I V.a' ?_;refine aD ?_;refine If (fun e7=>?_) fun e7=>?_
  ·obtain⟨a,off,cells,bk,rfl,gb,kQ⟩:=iH (by omega);obtain⟨r,cs,al,iq,xW,v1,v2,rfl,eC⟩:=kQ i (by omega) (by omega);rw[jq,jt] at al;obtain⟨p,kS,rfl⟩:=sg.1 al;have gb:=et _ _ gb;have lf:=eC.mono et;obtain⟨br,bI,bn,rfl,aR,_,_⟩:=eC.n.bD;obtain⟨bN,cY,bQ,rfl,aN,_,_⟩:=eC.d.bD;have dM:=J0 kS;have Ib:=BO (l:=ps) (i:=i+1);obtain⟨ls,lu⟩:=ll (X:=(((ps.take i).sum:Nat):Int)) (B:=1000000000) af (by omega) kf;obtain⟨y0,y1⟩:=ll (X:=(p:Int)) (B:=1000000000) af (by omega) kf;have qK:=pp (X:=(ps.take i).sum) af;have EZ:=pp (X:=p) af;have Ku:=pp (X:=(ps.take (i+1)).sum) af;have Kv:=PK (X:=(((ps.take i).sum:Nat):Int)) (Y:=(p:Int)) af;rw[<-Fc,<-dM] at Kv;refine e4 ?_;refine aG ?_;refine ad.block ?_;refine rg ?_;refine I V.bj ?_;refine I V.hx ?_;refine' W.step rfl (.of (eS rfl rfl rfl (k5 Q g0) rfl rfl rfl fun cr=>?_));refine eG ?_;refine bb ?_;refine I V.hx ?_;refine I V.hx ?_;refine b4 (G:=LJ (by rw[e8 qK]) rfl pV lf (h8 af) (h8 af) ls lu y0 y1) (h:=?_);rintro v' m' bq a8 ⟨_,rfl,fy,fF,rfl,cK⟩;rw[Kv] at cK;have hc:=cK;obtain⟨eU,gV,e2,rfl,fm,_,_⟩:=cK.n.bD;obtain⟨eP,ef,dU,rfl,ho,_,_⟩:=cK.d.bD;rw[Kv];refine eG ?_;refine bR ?_;rw[e8 Ku];refine rg ?_;refine I V.bW ?_;refine I V.aJ ?_;refine bR ?_;refine gF ⟨i+1,.slice eU gV e2,.slice eP ef dU,bq⟩ ?_ (hm:=.cons _ (.refl _));exact⟨by omega,et.trans a8,hc⟩
  ·obtain rfl:i=ps.length:=by omega
   rw[zi] at pV;have qK:=pp (X:=ps.sum) af;refine aG ?_;refine ad.exit ?_;refine rg ?_;refine I V.hx ?_;refine eG ?_;refine aD ?_;refine ad.ret ?_;refine'⟨.inr rfl,rfl,_,[],.cell rfl (by repeat first|exact .head _|refine .tail _ ?_|refine d' _ ?_) (fb (dw rfl) rfl) (.nil),bZ _,⟨et,rfl,_,_,by rw[show cO (aV (ps.sum:Int) s) (.slice cW ee cZ) (.slice dj fa dH)=.agg #[.bool (decide ((aV (ps.sum:Int) s).z<0)),.slice cW ee cZ,.slice dj fa dH] from rfl,e8 qK];rfl,pV⟩⟩
end
theorem rR:∀{l:List Nat} {x:Nat},x∈l->x<=l.sum
 |a::l,x,h=>by
  rw[mr];rcases gj.1 h with rfl|h
  ·omega
  ·have:=rR h;omega
theorem RS{sa c9:Nat}:∀{ps cI:List Nat} {i p q:Nat},ps[i]?=some p->cI[i]?=some q->eR sa c9 (ps.take (i+1)) (cI.take (i+1))=eR sa c9 (ps.take i) (cI.take i)+((p:Int)*c9 -(q:Int)*sa).natAbs
 |[],_,i,_,_,h,_=>by cases i<;>cases h
 |_::_,[],i,_,_,_,h=>by cases i<;>cases h
 |a::ps,b::cI,0,p,q,aa,ab=>by
  injection aa with aa;injection ab with ab;subst aa;subst ab
  show((a:Int)*c9 -(b:Int)*sa).natAbs+eR sa c9 [] []=eR sa c9 [] []+_;show _+0=0+_;omega
 |a::ps,b::cI,i+1,p,q,aa,ab=>by
  have aP:=RS (sa:=sa) (c9:=c9) (ps:=ps) (cI:=cI) (i:=i) aa ab;show((a:Int)*c9 -(b:Int)*sa).natAbs+eR sa c9 (ps.take (i+1)) (cI.take (i+1))=((a:Int)*c9 -(b:Int)*sa).natAbs+eR sa c9 (ps.take i) (cI.take i)+_;rw[aP];omega
theorem aeO{sa c9:Nat}{ps cI:List Nat}{i:Nat}:eR sa c9 (ps.take i) (cI.take i)<=ps.sum*c9+cI.sum*sa:=
 eh EV (Lf (lY _ BO) (lY _ BO))
section
variable {Q:ek Tryz.prog}{g0:Nat}{J:an}
theorem aeI{ps cI:List Nat}{sa c9:Nat}{b b':Option Addr}{c bw:Nat}(h:fA J 81 3 (j1 J) (.slice b ps.length c) (ps.map fun p:Nat=>aV (p:Int) sa))(gB:fA J 81 3 (j1 J) (.slice b' cI.length bw) (cI.map fun p:Nat=>aV (p:Int) c9))(DK:0<sa)(x':0<c9)(aK:sa<=4096)(ah:c9<=4096)(ao:ps.sum=sa)(cc:cI.sum=c9)(aA:ps.length<=1000)(p8:ps.length=cI.length):
 Fn (aO Q g0) 41 [.slice b ps.length c,.slice b' cI.length bw] [] J (nX J (aV (eR sa c9 ps cI:Int) (sa*c9*2))):=by
 have lQ:addrEq b b=true:=h.addr;have acm:addrEq b' b'=true:=gB.addr;obtain⟨_,iH⟩:=h.at;obtain⟨_,NK⟩:=gB.at;rw[gx] at iH NK;have er:0<sa*c9:=hV DK x';have C6:sa*c9<=16777216:=eh (pJ aK ah) (by decide);have GZ:c9*sa<=16777216:=by rw[j4];exact C6
 have ot:aV ((0:Nat):Int) (sa*c9)=⟨0,1⟩:=mV er;have rI:∀i,eR sa c9 (ps.take i) (cI.take i)<=33554432:=fun i=>by
  have:=aeO (sa:=sa) (c9:=c9) (ps:=ps) (cI:=cI) (i:=i);rw[ao,cc] at this;exact eh this (by omega)
 refine Fn.ck (ch Tryz.func41) rfl rfl fun H=>?_;refine rg ?_;refine' W.step rfl (.of (eS rfl rfl rfl (k5 Q g0) rfl rfl rfl fun c0=>?_));refine bb ?_;refine' W.step rfl (.of (eS rfl rfl rfl (k5 Q g0) rfl rfl rfl fun cr=>?_));refine bb ?_;refine aH ?_;refine aD ?_;refine ad.block ?_;refine' ad.eH (l':=[(10,.int .i64 ((0):Int)),(1,_),(4,_),(5,_),(8,_),(9,_)]) ⟨?BZ,rfl,rfl,rfl,rfl,rfl,trivial⟩ (cd _) ?_;case BZ=>first|exact cq|exact aj some (aj (Value.int .u64) (by omega))|exact aj some (aj (Value.int .i64) (by omega))
 refine aG ?_;refine' ad.b0 (fun(cG:Nat×Value×Value×an)=>match cG with|(i,bh,cb,dn)=>⟨[(10,.int .i64 (i:Int))],[(cr,.row [.bool false,bh,cb] 81),(c0,.row [.bool false,.slice none 0 0,.slice none 0 0] 81)],dn,i<=ps.length/\J.le dn/\e5 dn (aV ((eR sa c9 (ps.take i) (cI.take i):Nat):Int) (sa*c9)) bh cb,ps.length -i⟩) ⟨0,.slice none 0 0,.slice none 0 0,J⟩ ?af ?bT
 case af=>exact⟨fB _,an.le.refl _,by rw[nS,nS];show e5 J (aV ((0:Nat):Int) (sa*c9)) _ _;rw[ot];exact⟨cA.nil,cA.nil⟩⟩
 case bT=>
  rintro⟨i,bh,cb,dn⟩ hinv;try simp only at hinv
  obtain⟨ar,et,bY⟩:=hinv;have pV:=bY;obtain⟨cW,ee,cZ,rfl,bG,_,_⟩:=bY.n.bD;obtain⟨dj,fa,dH,rfl,dd,_,_⟩:=bY.d.bD;refine rg ?_;refine I V.a' ?_;refine aD ?_;refine If (fun mA=>?_) fun mA=>?_
  ·obtain⟨a,off,cells,bk,rfl,gb,kQ⟩:=iH (by omega);obtain⟨r,cs,al,iq,xW,v1,v2,rfl,eC⟩:=kQ i (by omega) (by omega);rw[jq,jt] at al;obtain⟨p,kS,rfl⟩:=sg.1 al;have gb:=et _ _ gb;have lf:=eC.mono et;obtain⟨br,bI,bn,rfl,aR,_,_⟩:=eC.n.bD;obtain⟨bN,cY,bQ,rfl,aN,_,_⟩:=eC.d.bD;obtain⟨bE,e0,cells',aZ,rfl,Nr,XX⟩:=NK (by omega);obtain⟨cg,cw,AH,Xz,X5,ah2,ah3,rfl,vG⟩:=XX i (by omega) (by omega);rw[jq,jt] at AH;obtain⟨q,DG,rfl⟩:=sg.1 AH;have Nr:=et _ _ Nr;have Hc:=vG.mono et;obtain⟨eU,gV,e2,rfl,fm,_,_⟩:=vG.n.bD;obtain⟨eP,ef,dU,rfl,ho,_,_⟩:=vG.d.bD;have x6:=eh (rR (k8 kS)) (Nat.le_of_eq ao);have ag8:=eh (rR (k8 DG)) (Nat.le_of_eq cc);have dM:=RS (sa:=sa) (c9:=c9) kS DG;have ahf:=rI i;have ahg:=rI (i+1);have NO:((p:Int)*c9+-(q:Int)*sa).natAbs<=1000000000:=by
    rw[za,<-KP];omega
   obtain⟨fy,fF⟩:=ll (X:=(p:Int)) (B:=1000000000) DK (by omega) (by omega);obtain⟨wP,uR⟩:=ll (X:=(q:Int)) (B:=1000000000) x' (by omega) (by omega);obtain⟨EX,EY⟩:=ll (X:=(eR sa c9 (ps.take i) (cI.take i):Int)) (B:=1000000000) er (by omega) (by omega);obtain⟨ae4,ae5⟩:=ll (X:=(((p:Int)*c9+-(q:Int)*sa).natAbs:Int)) (B:=1000000000) er (by omega) (by omega);have ls:=pp (X:=eR sa c9 (ps.take i) (cI.take i)) er;have lu:=pp (X:=eR sa c9 (ps.take (i+1)) (cI.take (i+1))) er;have y0:aV ((aV (p:Int) sa).z*(aV (q:Int) c9).d+-(aV (q:Int) c9).z*(aV (p:Int) sa).d) ((aV (p:Int) sa).d*(aV (q:Int) c9).d)=aV ((p:Int)*c9+-(q:Int)*sa) (sa*c9):=by
    have a9:=aaP (X:=(q:Int)) x';have a4:=I7 (X:=(p:Int)) (Y:=-(q:Int)) DK x';rw[<-a9] at a4;exact a4
   have y1:=aaL (X:=(p:Int)*c9+-(q:Int)*sa) er;have qK:=PK (X:=(eR sa c9 (ps.take i) (cI.take i):Int)) (Y:=(((p:Int)*c9+-(q:Int)*sa).natAbs:Int)) er;have EZ:(eR sa c9 (ps.take i) (cI.take i):Int)+(((p:Int)*c9+-(q:Int)*sa).natAbs:Int)=(eR sa c9 (ps.take (i+1)) (cI.take (i+1)):Int):=by
    rw[dM,Fc,za,<-KP]
   rw[EZ] at qK;have qb:c4 8 (.agg #[.bool false,.slice cW ee cZ,.slice dj fa dH]) (.agg #[.bool false,.slice cW ee cZ,.slice dj fa dH])=true:=by simp[c4,gP,bG,dd,j6]
   refine e4 ?_;refine aG ?_;refine ad.block ?_;refine rg ?_;refine I V.aJ ?_;refine I V.bj ?_;refine I V.hx ?_;refine' W.step rfl (.of (eS rfl rfl rfl (k5 Q g0) rfl rfl rfl fun fI=>?_));refine I V.aI ?_;refine eG ?_;refine aD ?_;refine ad.draw rfl (by kernel_rfl) (a2:=[.val 0,.val 1,.val 2,.val 3,.val 4,.val 5,.bA 6,.b2 [0],.bA 7,.b2 [0],.bA 8,.bA 9]) (by kernel_rfl) ?_;refine a6 rfl V.hx ?_;refine a6 rfl V.hx ?_;refine e3 ?_;refine a6 rfl V.bj ?_;refine a6 rfl V.hx ?_;refine dl rfl (G:=adL lf Hc (h8 DK) (h8 x') fy fF wP uR) (h:=?_);rintro v' m' bq a8 ⟨_,rfl,dE,ej,rfl,cK⟩;rw[y0] at cK;have sB:=cK;obtain⟨jM,lL,gA,rfl,mf,_,_⟩:=cK.n.bD;obtain⟨j5,nF,gR,rfl,m2,_,_⟩:=cK.d.bD;rw[y0];refine bi.b2 ez ?_;refine dl rfl (G:=S8 sB) (h:=?_);rintro v' m' ae hle ⟨rfl,rfl,rfl⟩;rw[y1];refine bi.b2 ez ?_;refine dl rfl (G:=LJ (r:=aV (eR sa c9 (ps.take i) (cI.take i):Int) (sa*c9)) (by rw[e8 ls]) rfl (pV.mono a8) (s:=aV (((p:Int)*c9+-(q:Int)*sa).natAbs:Int) (sa*c9)) (by rw[<-y1];exact⟨sB.n,sB.d⟩) (h8 er) (h8 er) EX EY ae4 ae5) (h:=?_);rintro v' m' fV cL ⟨_,rfl,dE,ej,rfl,n7⟩;rw[qK] at n7;have hc:=n7;obtain⟨hI,po,e7,rfl,lo,_,_⟩:=n7.n.bD;obtain⟨i',ma,dq,rfl,ln,_,_⟩:=n7.d.bD;rw[qK];refine k7 rfl ?_;refine bi.nil ?_;rw[e8 lu];refine rg ?_;refine I V.bW ?_;refine I V.aJ ?_;refine bR ?_;refine gF ⟨i+1,.slice hI po e7,.slice i' ma dq,fV⟩ ?_ (hm:=.cons _ (.refl _));exact⟨by omega,((et.trans a8).trans cL),hc⟩
  ·obtain rfl:i=ps.length:=by omega
   have Y4:=rI ps.length;rw[zi,show cI.take ps.length=cI from ib (by omega)] at pV Y4;have qK:=pp (X:=eR sa c9 ps cI) er;obtain⟨EX,EY⟩:=ll (X:=(eR sa c9 ps cI:Int)) (B:=1000000000) er (by omega) (by omega);have qb:c4 8 (.agg #[.bool false,.slice cW ee cZ,.slice dj fa dH]) (.agg #[.bool false,.slice cW ee cZ,.slice dj fa dH])=true:=by simp[c4,gP,bG,dd,j6]
   refine aG ?_;refine ad.exit ?_;refine aG ?_;refine ad.draw rfl (by kernel_rfl) (a2:=[.val 0,.bA 1,.b2 [0],.bA 2,.bA 3]) (by kernel_rfl) ?_;refine a6 rfl V.hx ?_;refine dl rfl (G:=IA (n:=2) (by decide) (by decide)) (h:=?_);rintro v' m' bq a8 ⟨_,rfl,dE,ej,rfl,cK⟩;have sB:=cK;obtain⟨jM,lL,gA,rfl,mf,_,_⟩:=cK.n.bD;obtain⟨j5,nF,gR,rfl,m2,_,_⟩:=cK.d.bD;refine bi.b2 ez ?_;refine dl rfl (G:=UU (r:=aV (eR sa c9 ps cI:Int) (sa*c9)) (by rw[e8 qK]) (pV.mono a8) sB (h8 er) ⟨by decide,by decide⟩ (by decide) EX EY (by decide) (by decide)) (h:=?_);rintro v' m' dR bO ⟨_,rfl,dE,ej,rfl,n7⟩;have hc:=n7;obtain⟨hI,po,e7,rfl,lo,_,_⟩:=n7.n.bD;obtain⟨i',ma,dq,rfl,ln,_,_⟩:=n7.d.bD;refine k7 rfl ?_;refine bi.nil ?_;refine aG ?_;refine ad.ret ?_;refine'⟨.inr rfl,rfl,_,[],.cell rfl (by repeat first|exact .head _|refine .tail _ ?_|refine d' _ ?_) (fb (dw rfl) rfl) (.nil),bZ _,?_⟩;have e:aV ((aV (eR sa c9 ps cI:Int) (sa*c9)).z*((1:Nat):Int)) ((aV (eR sa c9 ps cI:Int) (sa*c9)).d*2)=aV (eR sa c9 ps cI:Int) (sa*c9*2):=aaN er;exact⟨(et.trans a8).trans bO,rfl,_,_,z2 e,hc.cast e⟩
end
end
end Go.Opn

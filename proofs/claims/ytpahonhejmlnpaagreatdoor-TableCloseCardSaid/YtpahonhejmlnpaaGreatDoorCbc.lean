/- A part of the proof of TableClose. -/
import Derived.Test.YtpahonhejmlnpaaGreatDoorCbb
set_option maxRecDepth 100000
set_option maxHeartbeats 4000000
set_option linter.unusedVariables false
set_option linter.unusedSimpArgs false
namespace Go.Opn
noncomputable section
open Go.Cre Go.RowKit Go.Proofs
section
variable {Q:ek Tryz.prog}{g0:Nat}{J:an}
theorem wI{v w:Value}{x y:Nat}(U:cA J v x)(aF:cA J w y)(gN:x≠0)(qJ:y≠0)(fc:x<4294967296)(gq:y<4294967296):Fn (aO Q g0) 82 [v,w] [] J (iK J (x*y)):=by
 have fD:=U;have h6:=aF;obtain⟨br,bI,bn,rfl,aR,eb,gK⟩:=U.un;obtain⟨bN,cY,bQ,rfl,aN,e',gT⟩:=aF.un;obtain rfl:bI=1:=by omega
 obtain rfl:cY=1:=by omega
 obtain⟨bx,nH,vi,aC,rfl,l3,lF⟩:=gK rfl;obtain⟨bX,pr,zH,aZ,rfl,xF,sW⟩:=gT rfl;have eB:x*y<18446744073709551616:=jL (Nat.mul_lt_mul'' fc gq) (by decide);refine Fn.ck (ch Tryz.func82) rfl rfl fun H=>?_;refine rg ?_;refine I V.aI ?_;refine bb ?_;refine aH ?_;refine I V.a' ?_;refine I V.aJ ?_;refine gz 17 (fun j'=>?_) fun j'=>?_
 ·exfalso;omega
 ·refine bM V.aJ ?_;refine bM V.gL ?_;refine bM V.a' ?_;refine I V.bo ?_;refine aD ?_;refine If (fun nn=>?_) fun nn=>?_
  ·exfalso;omega
  ·refine aG ?_;refine ad.skip ?_;refine rg ?_;refine I V.aJ ?_;refine b4 (G:=yo fD) (h:=?_);rintro v' m' ae hle ⟨rfl,rfl,rfl⟩;refine aD ?_;refine If (fun mB=>?_) fun mB=>?_
   ·refine rg ?_;refine aH ?_;refine aD ?_;refine ad.ret ?_;refine'⟨.inr rfl,rfl,_,[],.tmp rfl .nil,bZ _,?_⟩;first
     |(have c:=mB
       exact⟨an.le.refl _,rfl,by rw[c,w8];exact h6⟩)
     |exact⟨a8,rfl,cA.row (wJ (n:=1) hk a0 nx) hk hk (by decide) (an.hH _ _ _)⟩
   ·refine aG ?_;refine ad.skip ?_;refine rg ?_;refine I V.aJ ?_;refine b4 (G:=yo h6) (h:=?_);rintro v' m' ae hle ⟨rfl,rfl,rfl⟩;refine aD ?_;refine If (fun q7=>?_) fun q7=>?_
    ·refine rg ?_;refine aH ?_;refine aD ?_;refine ad.ret ?_;refine'⟨.inr rfl,rfl,_,[],.tmp rfl .nil,bZ _,?_⟩;first
        |(have c:=q7
          exact⟨an.le.refl _,rfl,by rw[c,iZ];exact fD⟩)
        |(have c:=mB
          exact⟨an.le.refl _,rfl,by rw[c,w8];exact h6⟩)
        |exact⟨a8,rfl,cA.row (wJ (n:=1) hk a0 nx) hk hk (by decide) (an.hH _ _ _)⟩
    ·refine aG ?_;refine ad.skip ?_;refine rg ?_;refine aH ?_;refine I V.bW ?_;refine' W.step rfl (.of (wQ rfl rfl rfl rfl rfl (kZ Q g0) ?aX ?aa ?ab fun FH=>?_));case aX=>exact bS
     case aa=>exact bS
     case ab=>exact bS
     refine I V.aI ?_;refine bR ?_;rw[show(((1:Nat):Int)+((1:Nat):Int)).toNat=2 from rfl,zero_num];refine rg ?_;refine aH ?_;refine aD ?_;refine ad.block ?_;refine' ad.eH (l':=[(36,.int .i64 ((0):Int)),(1,_),(5,_),(34,_),(35,_)]) ⟨?aeV,rfl,rfl,rfl,rfl,trivial⟩ (cd _) ?_;case aeV=>first|exact cq|exact aj some (aj (Value.int .u64) (by omega))|exact aj some (aj (Value.int .i64) (by omega))
     refine aG ?_;refine' ad.b0 (fun(i:Nat)=>⟨[(36,.int .i64 (i:Int))],[lR .u64 102 FH (E4 (x*y) i)],J,i<=1,1 -i⟩) (0) ?af ?bT;case af=>exact fB _
     case bT=>
      rintro i hinv;try simp only at hinv
      have ar:=hinv;refine rg ?_;refine I V.a' ?_;refine aD ?_;refine If (fun F7=>?_) fun F7=>?_
      ·
        obtain rfl:i=0:=by omega
        refine e4 ?_;refine aG ?_;refine ad.block ?_;refine rg ?_;refine I V.aJ ?_;refine I V.bj ?_;refine I V.c2 ?_;refine aH ?_;refine bb ?_;refine I V.aI ?_;refine bb ?_;refine aH ?_;refine aD ?_;refine ad.block ?_;refine' ad.eH (l':=[(43,.int .i64 ((0):Int)),(8,.int .u64 0),(1,_),(5,_),(6,_),(7,_),(34,_),(35,_),(36,_),(41,_),(42,_)]) ⟨?aeW,?qI,rfl,rfl,rfl,rfl,rfl,rfl,rfl,rfl,rfl,trivial⟩ (cd _) ?_;case aeW=>first|exact cq|exact aj some (aj (Value.int .u64) (by omega))|exact aj some (aj (Value.int .i64) (by omega))
        case qI=>first|exact cq|exact aj some (aj (Value.int .u64) (by omega))|exact aj some (aj (Value.int .i64) (by omega))
        refine aG ?_;refine' ad.b0 (fun(j:Nat)=>⟨[(43,.int .i64 (j:Int)),(8,.int .u64 0)],[lR .u64 102 FH (E4 (x*y) j)],J,j<=1,1 -j⟩) (0) ?af ?bT;case af=>exact fB _
        case bT=>
         rintro j hinv;try simp only at hinv
         have a5:=hinv;refine rg ?_;refine I V.a' ?_;refine aD ?_;refine If (fun TH=>?_) fun TH=>?_
         ·obtain rfl:j=0:=by omega
          have fe:nth (ca .u64 (E4 (x*y) 0)) (0+(((0:Nat):Int)+((0:Nat):Int)).toNat*1)=some (.int .u64 ((0:Nat):Int)):=rfl;refine e4 ?_;refine aG ?_;refine ad.block ?_;refine rg ?_;refine I V.aJ ?_;refine I V.bj ?_;refine I V.c2 ?_;refine aH ?_;refine bb ?_;refine aH ?_;refine b4 (G:=aak fc gq) (h:=?_);rintro v' m' ae hle ⟨rfl,rfl,rfl⟩;refine aH ?_;refine bb ?_;refine I V.aI ?_;refine bb ?_;refine aH ?_;refine I V.bW ?_;refine I V.bj ?_;refine I V.c2 ?_;refine b4 (G:=FI (x:=x*y) (y:=0) (by omega)) (h:=?_);rintro v' m' ae hle ⟨rfl,rfl,rfl⟩;refine aH ?_;refine bb ?_;refine aH ?_;refine I V.bW ?_;refine I V.aI ?_;refine bb ?_;refine aH ?_;refine b4 (G:=FI (x:=x*y) (y:=0) (by omega)) (h:=?_);rintro v' m' ae hle ⟨rfl,rfl,rfl⟩;refine aH ?_;refine bb ?_;refine aH ?_;refine I V.bW ?_;refine aH ?_;refine I V.bW ?_;refine I V.bj ?_;refine' W.step rfl (.of (k4 rfl rfl rfl rfl (jX rfl) rfl rfl rfl ?aa ?af ?ao ?_));case ao=>repeat first|exact .head _ _ _ _|apply dp.tail|apply dp.app
          case af=>exact pq (l:=[0,0]) (x:=x*y) 0 (by decide) (by omega)
          case aa=>first|rfl|assumption
          refine I V.aI ?_;refine bb ?_;refine I V.bW ?_;refine I V.aJ ?_;refine bR ?_;refine gF (1) ?_;exact(c5 _)
         ·obtain rfl:j=1:=by omega
          refine aG ?_;refine ad.exit ?_;refine rg ?_;refine aH ?_;refine I V.bW ?_;refine I V.aJ ?_;refine I V.bj ?_;refine' W.step rfl (.of (k4 rfl rfl rfl rfl (jX rfl) rfl rfl rfl ?aa ?af ?ao ?_));case ao=>repeat first|exact .head _ _ _ _|apply dp.tail|apply dp.app
          case af=>exact pq (l:=[x*y,0]) (x:=0) 1 (by simp) (by omega)
          case aa=>first|rfl|assumption
          refine bb ?_;refine I V.bW ?_;refine I V.aJ ?_;refine bR ?_;refine gF (1) ?_;exact(c5 _)
      ·
        obtain rfl:i=1:=by omega
        refine aG ?_;refine ad.exit ?_;refine rg ?_;refine I V.aJ ?_;refine' W.step rfl (Exec.call rfl rfl rfl rfl rfl rfl rfl (bU:=[lR .u64 102 FH [x*y,0]]) (eD:=[]) (.refl _) trivial (BQ (l:=[x*y,0]) (by simp) (by decide) (by decide)) ?_);rintro v' m' ae hle ⟨k,rfl,hk,a0,nx,rfl,rfl⟩;refine I V.aI ?_;refine bR ?_;refine ad.iW rfl fun a8=>?_;refine aG ?_;refine ad.ret ?_;refine'⟨.inr rfl,rfl,_,[],.tmp rfl .nil,bZ _,?_⟩;first
         |(have c:=q7
           exact⟨an.le.refl _,rfl,by rw[c,iZ];exact fD⟩)
         |(have c:=mB
           exact⟨an.le.refl _,rfl,by rw[c,w8];exact h6⟩)
         |exact⟨a8,rfl,cA.row (wJ (n:=1) hk a0 nx) hk hk (by decide) (an.hH _ _ _)⟩
theorem My{v:Value}{x d:Nat}(U:cA J v x)(gN:x≠0)(au:0<d)(ah:x<18446744073709551616):Fn (aO Q g0) 111 [v,.int .u64 (d:Int)] [] J (fun u m' ae=>J.le ae/\m'=[]/\∃w,u=.tuple #[w,.int .u64 ((x % d:Nat):Int)]/\cA ae w (x / d)):=by
 obtain⟨br,bI,bn,rfl,aR,eb,gK⟩:=U.un;obtain rfl:bI=1:=by omega
 obtain⟨bx,nH,vi,aC,rfl,l3,lF⟩:=gK rfl;refine Fn.ck (ch Tryz.func111) rfl rfl fun H=>?_;refine rg ?_;refine aH ?_;refine bb ?_;refine aH ?_;refine' W.step rfl (.of (wQ rfl rfl rfl rfl rfl (kZ Q g0) ?aX ?aa ?ab fun tB=>?_));case aX=>exact bS
 case aa=>exact bS
 case ab=>exact bS
 refine I V.aI ?_;refine bR ?_;rw[show((1:Nat):Int).toNat=1 from rfl,zero_num];refine rg ?_;refine I V.aI ?_;refine bb ?_;refine aH ?_;refine I V.bW ?_;refine I V.aI ?_;refine aD ?_;refine ad.block ?_;refine' ad.eH (l':=[(8,.int .i64 (((1):Int) -1)),(7,.int .u64 ((EA (x % d) (1):Nat):Int)),(0,_),(1,_),(6,_)]) ⟨?qI,?k3,rfl,rfl,rfl,trivial⟩ (cd _) ?_;case qI=>first|exact cq|exact aj some (aj (Value.int .u64) (by omega))|exact aj some (aj (Value.int .i64) (by omega))
 case k3=>first|exact cq|exact aj some (aj (Value.int .u64) (by omega))|exact aj some (aj (Value.int .i64) (by omega))
 refine aG ?_;refine' ad.b0 (fun(k:Nat)=>⟨[(8,.int .i64 ((k:Int) -1)),(7,.int .u64 ((EA (x % d) k:Nat):Int))],[lR .u64 102 tB (Qp (x / d) k)],J,k<=1,k⟩) (1) ?af ?bT;case af=>exact c5 _
 case bT=>
  rintro k hinv;try simp only at hinv
  have hk:=hinv;refine rg ?_;refine I V.aJ ?_;refine I V.a' ?_;refine aD ?_;refine If (fun nm=>?_) fun nm=>?_
  ·obtain rfl:k=1:=by omega
   refine e4 ?_;refine aG ?_;refine ad.block ?_;refine rg ?_;refine aH ?_;refine I V.bj ?_;refine I V.c2 ?_;refine I V.aJ ?_;refine b4 (G:=Mw ah au) (h:=?_);rintro v' m' ae hle ⟨rfl,rfl,rfl⟩;refine aH ?_;refine I V.bj ?_;refine' W.step rfl (.of (k4 rfl rfl rfl rfl (jX rfl) rfl rfl rfl ?aa ?af ?ao ?_));case ao=>repeat first|exact .head _ _ _ _|apply dp.tail|apply dp.app
   case af=>exact pq (l:=[0]) (x:=x / d) 0 (by decide) (by omega)
   case aa=>first|rfl|assumption
   refine I V.aI ?_;refine bb ?_;refine I V.aJ ?_;refine I V.bW ?_;refine I V.aI ?_;refine bR ?_;refine gF (0) ?_;exact(fB _)
  ·obtain rfl:k=0:=by omega
   refine aG ?_;refine ad.exit ?_;refine rg ?_;refine I V.aJ ?_;refine' W.step rfl (Exec.call rfl rfl rfl rfl rfl rfl rfl (bU:=[lR .u64 102 tB [x / d]]) (eD:=[]) (.refl _) trivial (BQ (l:=[x / d]) (by simp) (by decide) (by decide)) ?_);rintro v' m' ae hle ⟨k,rfl,hk,a0,nx,rfl,rfl⟩;refine aH ?_;refine bR ?_;refine ad.iW rfl fun a8=>?_;refine aG ?_;refine ad.ret ?_;refine'⟨.inr rfl,rfl,_,[],.tmp rfl (.tmp rfl .nil),bZ _,⟨a8,rfl,_,rfl,cA.row (wJ (n:=0) hk a0 nx) hk hk (by decide) (an.hH _ _ _)⟩⟩
theorem Mx{v w:Value}{x y:Nat}(U:cA J v x)(aF:cA J w y)(qJ:y≠0)(ah:x<18446744073709551616):Fn (aO Q g0) 86 [v,w] [] J (fun u m' ae=>J.le ae/\m'=[]/\∃q r,u=.tuple #[q,r]/\cA ae q (x / y)/\cA ae r (x % y)):=by
 have fD:=U;have h6:=aF;obtain⟨br,bI,bn,rfl,aR,eb,gK⟩:=U.un;obtain⟨bN,cY,bQ,rfl,aN,e',gT⟩:=aF.un;obtain rfl:cY=1:=by omega
 obtain⟨bX,pr,zH,aZ,rfl,xF,sW⟩:=gT rfl;refine Fn.ck (ch Tryz.func86) rfl rfl fun H=>?_;refine rg ?_;refine aH ?_;refine bb ?_;refine aH ?_;refine b4 (G:=zJ fD h6) (h:=?_);rintro v' m' ae hle ⟨rfl,rfl,rfl⟩;refine I V.a' ?_;refine aD ?_;refine If (fun nm=>?_) fun nm=>?_
 ·have cD:=tI.1 nm;refine rg ?_;refine aH ?_;refine aD ?_;refine ad.ret ?_;refine'⟨.inr rfl,rfl,_,[],.tmp rfl (.tmp rfl .nil),bZ _,?_⟩;first
   |exact⟨an.le.refl _,rfl,_,_,rfl,by rw[qV cD];exact cA.nil,by rw[se cD];exact fD⟩
 ·have iR:¬x<y:=fun h=>nm (tI.2 h);refine l8 ?_;refine aH ?_;refine I V.a' ?_;refine aD ?_;refine If (fun la=>?_) fun la=>?_
  ·refine rg ?_;refine aH ?_;refine I V.bj ?_;refine I V.c2 ?_;refine b4 (G:=My fD (by omega) (by omega) ah) (h:=?_);rintro v' m' bq a8 ⟨_,rfl,RX,rfl,uh⟩;obtain⟨cW,ee,cZ,rfl,bG,_,_⟩:=uh.un;refine aH ?_;refine bb ?_;refine aH ?_;refine ja (kZ Q g0) fun FG=>?_;refine' W.step rfl (Exec.call rfl rfl rfl rfl rfl rfl rfl (bU:=[lR .u64 102 FG [x % y]]) (eD:=[]) (.refl _) trivial (BQ (l:=[x % y]) (by simp) (by decide) (by decide)) ?_);rintro v' m' ae hle ⟨k,rfl,hk,a0,nx,rfl,rfl⟩;refine aH ?_;refine bR ?_;refine ad.iW rfl fun bO=>?_;refine aG ?_;refine ad.ret ?_;refine'⟨.inr rfl,rfl,_,[],.tmp rfl (.tmp rfl .nil),bZ _,?_⟩;first
    |(have c:=la
      exact⟨a8.trans bO,rfl,_,_,rfl,uh.mono bO,cA.row (wJ (n:=0) hk a0 nx) hk hk (by decide) (an.hH _ _ _)⟩)
    |exact⟨an.le.refl _,rfl,_,_,rfl,by rw[qV cD];exact cA.nil,by rw[se cD];exact fD⟩
  ·exfalso;exact la rfl
theorem uF{v w:Value}{x y:Nat}(U:cA J v x)(aF:cA J w y)(qJ:y≠0)(ah:x<18446744073709551616):Fn (aO Q g0) 83 [v,w] [] J (iK J (x / y)):=by
 have fD:=U;have h6:=aF;obtain⟨br,bI,bn,rfl,aR,eb,gK⟩:=U.un;obtain⟨bN,cY,bQ,rfl,aN,e',gT⟩:=aF.un;refine Fn.ck (ch Tryz.func83) rfl rfl fun H=>?_;refine rg ?_;refine I V.aI ?_;refine bb ?_;refine I V.aJ ?_;refine b4 (G:=yo h6) (h:=?_);rintro v' m' ae hle ⟨rfl,rfl,rfl⟩;refine aD ?_;refine If (fun gR=>?_) fun gR=>?_
 ·refine rg ?_;refine aH ?_;refine aD ?_;refine ad.ret ?_;refine'⟨.inr rfl,rfl,_,[],.tmp rfl .nil,bZ _,?_⟩;first
   |(have c:=gR
     first
         |exact⟨an.le.refl _,rfl,by rw[c,Nat.div_one];exact fD⟩
         |exact⟨a8,rfl,uh⟩)
 ·refine aG ?_;refine ad.skip ?_;refine rg ?_;refine aH ?_;refine b4 (G:=Mx fD h6 qJ ah) (h:=?_);rintro v' m' bq a8 ⟨_,rfl,RX,wr,rfl,uh,Za⟩;obtain⟨cW,ee,cZ,rfl,bG,_,_⟩:=uh.un;obtain⟨dj,fa,dH,rfl,dd,_,_⟩:=Za.un;refine aH ?_;refine bb ?_;refine aH ?_;refine aD ?_;refine ad.ret ?_;refine'⟨.inr rfl,rfl,_,[],.tmp rfl .nil,bZ _,?_⟩;first
   |(have c:=gR
     first
         |exact⟨an.le.refl _,rfl,by rw[c,Nat.div_one];exact fD⟩
         |exact⟨a8,rfl,uh⟩)
theorem Ur{v w:Value}{x y:Nat}(U:cA J v x)(aF:cA J w y)(fc:x<18446744073709551616)(gq:y<18446744073709551616):Fn (aO Q g0) 107 [v,w] [] J (iK J (Nat.gcd x y)):=by
 have fD:=U;have h6:=aF;obtain⟨br,bI,bn,rfl,aR,eb,gK⟩:=U.un;obtain⟨bN,cY,bQ,rfl,aN,e',gT⟩:=aF.un;refine Fn.ck (ch Tryz.func107) rfl rfl fun H=>?_;refine rg ?_;refine I V.aI ?_;refine bb ?_;refine aH ?_;refine b4 (G:=zJ fD h6) (h:=?_);rintro v' m' ae hle ⟨rfl,rfl,rfl⟩;refine I V.a' ?_;refine bR ?_;refine mj [0,1,18] ?_;refine aG ?_;refine' ad.Ms (α:=(Value)×(Value)×(Nat)×(Nat)) 3 (fun(cG:(Value)×(Value)×(Nat)×(Nat))=>match cG with|(bW,tn,a,b)=>[(0,bW),(1,tn)]) (fun(cG:(Value)×(Value)×(Nat)×(Nat))=>match cG with|(bW,tn,a,b)=>[]) (fun(cG:(Value)×(Value)×(Nat)×(Nat))=>match cG with|(bW,tn,a,b)=>J) (fun(cG:(Value)×(Value)×(Nat)×(Nat))=>match cG with|(bW,tn,a,b)=>cA J bW a/\cA J tn b/\b<=a/\a<18446744073709551616/\Nat.gcd a b=Nat.gcd x y) ?T9 ?UX
 case T9=>
  refine If (fun hY=>?_) fun hY=>?_
  ·refine rg ?_;refine aH ?_;refine bR ?_;refine'⟨⟨.slice bN cY bQ,.slice br bI bn,y,x⟩,_,?hinv,rfl,⟨?dV,?cE,trivial⟩,DZ,rfl⟩;case dV=>first|exact cq|exact aj some (aj (Value.int .u64) (by omega))|exact aj some (aj (Value.int .i64) (by omega))
   case cE=>first|exact cq|exact aj some (aj (Value.int .u64) (by omega))|exact aj some (aj (Value.int .i64) (by omega))
   case hinv=>exact⟨h6,fD,by have:=tI.1 hY;omega,gq,oL _ _⟩
  ·refine aG ?_;refine ad.skip ?_;refine'⟨⟨.slice br bI bn,.slice bN cY bQ,x,y⟩,_,?hinv,rfl,⟨?dV,?cE,trivial⟩,DZ,rfl⟩;case dV=>first|exact cq|exact aj some (aj (Value.int .u64) (by omega))|exact aj some (aj (Value.int .i64) (by omega))
   case cE=>first|exact cq|exact aj some (aj (Value.int .u64) (by omega))|exact aj some (aj (Value.int .i64) (by omega))
   case hinv=>exact⟨fD,h6,Nat.le_of_not_lt fun h=>hY (tI.2 h),fc,rfl⟩
 case UX=>
  rintro⟨bW,tn,a,b⟩ hinv;try simp only at hinv
  obtain⟨eL,ep,agI,mI,cK⟩:=hinv;have gr:=eL;have h2:=ep;obtain⟨eU,gV,e2,rfl,fm,N9,ag9⟩:=eL.un;obtain⟨eP,ef,dU,rfl,ho,AA,H8⟩:=ep.un;refine aG ?_;refine ad.block ?_;refine aG ?_;refine ad.A9 ?_;refine rg ?_;refine aH ?_;refine I V.a' ?_;refine aD ?_;refine If (fun mB=>?_) fun mB=>?_
  ·exfalso;omega
  ·refine aG ?_;refine ad.exit ?_;refine rg ?_;refine aH ?_;refine I V.a' ?_;refine aD ?_;refine If (fun F9=>?_) fun F9=>?_
   ·refine rg ?_;refine aH ?_;refine aD ?_;refine ad.ret ?_;refine'⟨.inr rfl,rfl,_,[],.tmp rfl .nil,bZ _,?_⟩;first
      |(have c:=F9
        first
           |exact⟨an.le.refl _,rfl,by rw[<-cK,show b=0 by omega,u2];exact gr⟩
           |exact⟨a8.trans bO,rfl,by
               obtain rfl:r=0:=by omega
               rw[<-HC,u2];exact cA.row (n:=1) (l:=[g]) (by unfold jK;rw[a3 (by omega)];rfl) (by simp) (by simp) (by decide) (an.hH _ _ _)⟩)
   ·obtain⟨dY,ahK,af4,h0,rfl,G8,YX⟩:=H8 (by omega);refine l8 ?_;refine I V.aJ ?_;refine I V.bj ?_;refine I V.c2 ?_;refine I V.aI ?_;refine bb ?_;refine aH ?_;refine b4 (G:=My gr (by omega) (by omega) mI) (h:=?_);rintro v' m' bq a8 ⟨_,rfl,RX,rfl,uh⟩;obtain⟨cW,ee,cZ,rfl,bG,_,_⟩:=uh.un;refine aH ?_;refine aD ?_;refine ad.block ?_;refine' ad.eH (l':=[(12,.int .u64 ((b):Int)),(14,.int .u64 ((a % b):Int))]) ⟨?Kf,?Kg,trivial⟩ (cd _) ?_;case Kf=>first|exact cq|exact aj some (aj (Value.int .u64) (by omega))|exact aj some (aj (Value.int .i64) (by omega))
    case Kg=>first|exact cq|exact aj some (aj (Value.int .u64) (by omega))|exact aj some (aj (Value.int .i64) (by omega))
    refine aG ?_;refine' ad.b0 (fun(cG:Nat×Nat)=>match cG with|(g,r)=>⟨[(12,.int .u64 (g:Int)),(14,.int .u64 (r:Int))],[],bq,0<g/\Nat.gcd g r=Nat.gcd x y,r⟩) ⟨b,a % b⟩ ?af ?bT
    case af=>exact⟨by omega,by rw[<-cK,oL b,oL a,w7 b a]⟩
    case bT=>
     rintro⟨g,r⟩ hinv;try simp only at hinv
     obtain⟨aq,HC⟩:=hinv;refine rg ?_;refine I V.aJ ?_;refine I V.a' ?_;refine aD ?_;refine If (fun TO=>?_) fun TO=>?_
     ·refine aG ?_;refine ad.skip ?_;refine aG ?_;refine ad.block ?_;refine aG ?_;refine ad.draw rfl (by kernel_rfl) (a2:=[.val 0,.val 1,.val 2,.val 3,.bA 4,.b2 [3,2],.bA 5]) (by kernel_rfl) ?_;refine e3 ?_;refine a6 rfl V.ha ?_;refine ts rfl V.aI ?_;refine bi.b2 ez ?_;refine ts rfl V.aI ?_;refine bi.nil ?_;refine gF ⟨r,g % r⟩ ?_ (hk:=by exact oN _ (by omega));exact⟨by omega,by rw[<-HC,oL r,oL g,w7 r g]⟩
     ·refine aG ?_;refine ad.exit ?_;refine rg ?_;refine I V.aJ ?_;refine ja (kZ Q g0) fun afL=>?_;refine I V.aI ?_;refine bR ?_;refine ad.iW rfl fun bO=>?_;refine aG ?_;refine ad.ret ?_;refine'⟨.inr rfl,rfl,_,[],.tmp rfl .nil,bZ _,?_⟩;first
       |(have c:=F9
         first
             |exact⟨an.le.refl _,rfl,by rw[<-cK,show b=0 by omega,u2];exact gr⟩
             |exact⟨a8.trans bO,rfl,by
                 obtain rfl:r=0:=by omega
                 rw[<-HC,u2];exact cA.row (n:=1) (l:=[g]) (by unfold jK;rw[a3 (by omega)];rfl) (by simp) (by simp) (by decide) (an.hH _ _ _)⟩)
theorem EH{v w:Value}{x y:Nat}(U:cA J v x)(aF:cA J w y)(fc:x<18446744073709551616)(gq:y<18446744073709551616):Fn (aO Q g0) 80 [v,w] [] J (iK J (Nat.gcd x y)):=by
 have fD:=U;have h6:=aF;obtain⟨br,bI,bn,rfl,aR,eb,gK⟩:=U.un;obtain⟨bN,cY,bQ,rfl,aN,e',gT⟩:=aF.un;refine Fn.ck (ch Tryz.func80) rfl rfl fun H=>?_;refine rg ?_;refine I V.aI ?_;refine bR ?_;refine mj [0,1] ?_;refine aG ?_;refine' ad.oU 0 [(10,.bool (decide ((x=1\/y=1))))] ?vl ?vq;case vl=>
  refine ad.region ?_;refine I V.aJ ?_;refine b4 (G:=yo fD) (h:=?_);rintro v' m' ae hle ⟨rfl,rfl,rfl⟩;refine I V.aJ ?_;refine gz 7 (fun Wo=>?_) fun Wo=>?_
  ·refine c7 ?_;refine W.Ni rfl rfl rfl rfl rfl ?_;refine I V.bo ?_;refine bR ?_;refine'⟨⟨_,rfl,⟨?ma,rfl,rfl,trivial⟩⟩,cd _,rfl⟩;case ma=>first|exact rc rfl (by first|omega|(simp_all))|exact ra rfl (by first|omega|(simp_all))|exact rb rfl (by first|omega|(simp_all))|exact q' rfl (by first|omega|(simp_all))
  ·refine bM V.aJ ?_;refine vg (G:=yo h6) (h:=?_);rintro v' m' ae hle ⟨rfl,rfl,rfl⟩;refine I V.bo ?_;refine bR ?_;refine'⟨⟨_,rfl,⟨?ma,rfl,rfl,trivial⟩⟩,cd _,rfl⟩;case ma=>first|exact rc rfl (by first|omega|(simp_all))|exact ra rfl (by first|omega|(simp_all))|exact rb rfl (by first|omega|(simp_all))|exact q' rfl (by first|omega|(simp_all))
 case vq=>
  refine aG ?_;refine If (fun dq=>?_) fun dq=>?_
  ·refine rg ?_;refine ja (kZ Q g0) fun tB=>?_;refine I V.aI ?_;refine bR ?_;refine ad.iW rfl fun bO=>?_;refine aG ?_;refine ad.ret ?_;refine'⟨.inr rfl,rfl,_,[],.tmp rfl .nil,bZ _,?_⟩;first
    |exact⟨bO,rfl,by
      have e:Nat.gcd x y=1:=by
       rcases dq with rfl|rfl
       ·exact Li _
       ·exact Lj _
      rw[e];exact cA.row (n:=1) (l:=[1]) rfl (by simp) (by simp) (by decide) (an.hH _ _ _)⟩
  ·refine aG ?_;refine ad.skip ?_;refine rg ?_;refine aH ?_;refine b4 (G:=zJ fD h6) (h:=?_);rintro v' m' ae hle ⟨rfl,rfl,rfl⟩;refine I V.a' ?_;refine aD ?_;refine If (fun fQ=>?_) fun fQ=>?_
   ·refine rg ?_;refine aH ?_;refine aD ?_;refine ad.ret ?_;refine'⟨.inr rfl,rfl,_,[],.tmp rfl .nil,bZ _,?_⟩;first
      |(have c:=fQ
        first
           |exact⟨an.le.refl _,rfl,by rw[<-Mm.1 c,Nat.gcd_self];exact fD⟩
           |exact⟨a8,rfl,hw⟩)
      |exact⟨bO,rfl,by
        have e:Nat.gcd x y=1:=by
         rcases dq with rfl|rfl
         ·exact Li _
         ·exact Lj _
        rw[e];exact cA.row (n:=1) (l:=[1]) rfl (by simp) (by simp) (by decide) (an.hH _ _ _)⟩
   ·refine aG ?_;refine ad.skip ?_;refine rg ?_;refine aH ?_;refine b4 (G:=Ur fD h6 fc gq) (h:=?_);rintro v' m' bq a8 ⟨_,rfl,hw⟩;obtain⟨cW,ee,cZ,rfl,bG,_,_⟩:=hw.un;refine I V.aI ?_;refine aD ?_;refine ad.ret ?_;refine'⟨.inr rfl,rfl,_,[],.tmp rfl .nil,bZ _,?_⟩;first
      |(have c:=fQ
        first
           |exact⟨an.le.refl _,rfl,by rw[<-Mm.1 c,Nat.gcd_self];exact fD⟩
           |exact⟨a8,rfl,hw⟩)
      |exact⟨bO,rfl,by
        have e:Nat.gcd x y=1:=by
         rcases dq with rfl|rfl
         ·exact Li _
         ·exact Lj _
        rw[e];exact cA.row (n:=1) (l:=[1]) rfl (by simp) (by simp) (by decide) (an.hH _ _ _)⟩
end
def an.join(J bq:an):an:=fun a=>match J a with|some x=>some x|none=>bq a
theorem an.join_le{J bq:an}:J.le (J.join bq):=fun a x h=>by unfold an.join;rw[h]
theorem Inv.OZ{g0:Nat}{J uX bq:an}{m':aU}{H H':ai}(h:Inv g0 (h7 [] H J) J [] H)(aX:uX.le J)(hk:Inv g0 (h7 [] H uX) bq m' H'):Inv g0 (h7 [] H J) (J.join bq) m' H'/\bq.le (J.join bq):=by
 have cD:∀a x,J a=some x->a<H.ax:=fun a x q=>by
  obtain⟨c,e⟩:=x;obtain⟨o,f,z,s,q⟩:=h.dB a c e q;exact h.wf.lt q
 have fl:∀a,¬rL [] a:=fun a q=>absurd q (by unfold rL;exact Lb);have As:∀a,a<H.ax->H'.mem.get a=H.mem.get a:=fun a q=>hk.ff a q (fl a);have AF:∀a c e,J.join bq a=some (c,e)->∃o f z s,H'.mem.get a=some (.row c e o f z s):=fun a c e q=>by
  unfold an.join at q;cases fu:J a with
  |some x=>
   rw[fu] at q;injection q with q
   subst q;rw[As a (cD a _ fu)];exact h.dB a c e fu
  |none=>rw[fu] at q;exact hk.dB a c e q
 refine⟨⟨hk.wf,hk.bp,hk.ax,hk.b7,hk.ff,hk.kX,AF,an.join_le,fun a x aR aN=>?_,fun a b q=>?_,fun a b q x U=>?_,hk.fw⟩,fun a x q=>?_⟩
 ·have aR:J a=none:=aR;unfold an.join at aN;rw[aR] at aN;refine hk.fresh a x ?_ aN;show uX a=none;cases aa:uX a with
  |none=>rfl
  |some y=>rw[aX _ _ aa] at aR;cases aR
 ·obtain⟨a9,a4,bJ,cx⟩:=hk.own a b q;refine⟨a9,a4,?_,cx⟩;unfold an.join;cases fu:J a with
  |none=>exact bJ
  |some y=>
   rcases a4 with k|k
   ·exact absurd (cD a y fu) (Nat.not_lt_of_le k)
   ·exact absurd k (fl a)
 ·obtain⟨a9,a4,bJ⟩:=hk.opn a b q x U;refine⟨a9,a4,?_⟩;unfold an.join;cases fu:J x with
  |none=>exact bJ
  |some y=>
   rcases a4 with k|k
   ·exact absurd (cD x y fu) (Nat.not_lt_of_le k)
   ·exact absurd k (fl x)
 ·unfold an.join;cases fu:J a with
  |none=>exact q
  |some y=>
   obtain⟨c,e⟩:=x;obtain⟨bw,bk⟩:=y;obtain⟨o,f,z,s,cX⟩:=hk.dB a c e q;obtain⟨o',cz,gi,df,cM⟩:=h.dB a bw bk fu;rw[<-As a (cD a _ fu),cX] at cM;injection cM with cM
   injection cM with aC aZ
   subst aC;subst aZ;rfl
section
variable {K:dG}{B:dt}{ops:List Oper}{a2:List hT}{F:List qL}{E:b3}{m m':aU}{J:an}{o:Oper}{bm:b3->aU->an->Prop}
variable {n:Nat}{ds:dQ}{l:List (Nat×Value)}{d i:Nat}
def uU(J:an)(f:FuncId)(aH:List Value)(du:Value->aU->an->Prop)(x:qL):Prop:=x.f=f->x.cl=aH->x.bU=[]/\x.J.le J/\∀v m' bq dR,x.du v m' bq->bq.le dR->J.le dR->du v m' dR
theorem c8{J:an}{f:FuncId}{aH:List Value}{du:Value->aU->an->Prop}:∀x∈([]:List qL),uU J f aH du x:=fun x U=>by cases U
theorem cj{J:an}{f:FuncId}{aH:List Value}{du:Value->aU->an->Prop}{gN:qL}(aX:uU J f aH du gN)(h:∀x∈F,uU J f aH du x):∀x∈gN::F,uU J f aH du x:=fun x U=>by
 rcases gj.1 U with rfl|U
 ·exact aX
 ·exact h x U
theorem cT{J:an}{f:FuncId}{aH:List Value}{du:Value->aU->an->Prop}{gN:qL}(h:Nat.beq gN.f f=false):uU J f aH du gN:=fun az=>by
 rw[az,gH] at h;cases h
theorem aS.dO{c:Call}{x:Operand}{f:FuncId}{first cap:Array Value}{args aH:List Value}{du:Value->aU->an->Prop}
 (ar:nth ops i=some o)(aq:o.guard=none)(ag:o.op=.call c)(au:o.dst=some d)(aw:Nat.blt d n=true)(aL:c.callee=.value x)(U:bH l x=some (.func (.func f) first cap))(aK:hJ l c.args.toList=some args)(has:(first.toList++args)++cap.toList=aH)
 (af:∀x∈F,uU J f aH du x)(bY:Fn K f aH [] J du)(h:∀v m' ae,J.le ae->du v m' ae->aS K B ops a2 (⟨f,aH,[],J,du,false⟩::F) ⟨n,ds,(d,v)::l⟩ (m'++m) ae bm):aS K B ops (.bA i::a2) F ⟨n,ds,l⟩ m J bm:=by
 intro T S H b6 ak av;have ao:([]++m).Perm m:=.refl _;have hL:=av.enter (bU:=[]) ao trivial;obtain⟨v,H',ae,m',a9,a4,bJ,lk⟩:∃v H' ae m',jn K.Q f aH H (.returned v) H'/\Inv K.g0 (h7 [] H J) ae m' H'/\du v m' ae/\∀r,T f aH H=some r->r=(Ending.returned v,H'):=by
  cases vI:T f aH H with
  |none=>
   obtain⟨v,H',ae,m',a9,a4,bJ⟩:=bY H hL;exact⟨v,H',ae,m',a9,a4,bJ,fun r q=>by cases q⟩
  |some r=>
   obtain⟨x,U,⟨aC,aZ,WV,v,H',bq,m',mD,a9,a4,bJ⟩,lj⟩:=b6 _ _ _ _ vI;obtain⟨aR,aN,bG⟩:=af x U aC aZ;rw[aR] at a4;obtain⟨ID,IE⟩:=hL.OZ aN a4;exact⟨v,H',_,m',a9,ID,bG v m' bq _ bJ IE an.join_le,fun cg q=>by injection q with q;rw[<-q];exact mD⟩
 have jg:H.ax<=H'.ax:=a4.ax;obtain⟨cx,fL⟩:=av.leave ao a4;obtain⟨a1,s1,s2⟩:=ak.put (dst:=some d) aw v
 classical
 obtain⟨bo,dm,aB,qQ,E',mR,mq,aa,ab,aY,bu⟩:=h v m' ae fL bJ (fun cz u' H1=>if cz=f/\u'=aH/\H1=H then some (.returned v,H') else T cz u' H1) a1 H' (fun cz u' H1 r q=>by
  split at q
  ·rename_i e;obtain⟨rfl,rfl,rfl⟩:=e;injection q with q
   exact⟨_,.head _,⟨rfl,rfl,hL,v,H',ae,m',q.symm,a9,a4,bJ⟩,fun e=>by cases e⟩
  ·obtain⟨x,U,cg,t'⟩:=b6 _ _ _ _ q;exact⟨x,.tail _ U,cg,fun e=>jL (t' e) jg⟩) s2 cx
 refine⟨fun cz b5 H1=>if cz=f/\b5=aH/\H1=H then some (.returned v,H') else bo cz b5 H1,fun cz b5 H1 r cg aR aN=>?_,aB,qQ,E',mR,mq,fun fE q=>?_,ab,aY,bu⟩
 ·dsimp only at aN
  split at aN
  ·rename_i e;obtain⟨rfl,rfl,rfl⟩:=e;injection aN with aN
   rw[lk r aR,aN]
  ·rename_i e;exact dm cz b5 H1 r cg (by rw[a3 e];exact aR) aN
 ·have hf:fE f aH H=some (.returned v,H'):=q f aH H _ (by simp only[and_self,bg]);have AL:∀cz b5 H1 r,bo cz b5 H1=some r->fE cz b5 H1=some r:=fun cz b5 H1 r al=>by
   by_cases e:cz=f/\b5=aH/\H1=H
   ·have:=dm cz b5 H1 (.returned v,H') r (by rw[bg e]) al;rw[this,e.1,e.2.1,e.2.2];exact hf
   ·exact q cz b5 H1 r (by dsimp only;rw[a3 e];exact al)
  show iv ops i (fun o=>j7 (dy K.P _ _ ops a2) (one K.P _ _ ops S H o))=_;unfold iv;rw[ar];show j7 (dy K.P _ _ ops a2) (one K.P _ _ ops S H o)=_;unfold one eZ;rw[aq];show j7 (dy K.P _ _ ops a2) (oy S H o.dst (ct K.P _ _ S H o))=_;have he:ct K.P (hZ K.Q fE) (fU K.Q hQ fE).aE S H o=some (.val v H'):=by
   unfold ct eA;simp only[ag];show jW K.P _ c=_;unfold jW;rw[aL];show mE K.P _ _ S.T H c=_;unfold mE;rw[nq ak H aK];simp only[aL];rw[c1 ak H U];simp only
   show(match j9 K.P H (.func f) (first.toList++args) cap.toList with|some (f,aH)=>oY (hZ K.Q _ f aH H)|none=>none)=_
   unfold j9;simp only
   rw[has,zD a9 hf];rfl
  rw[he,au];show j7 (dy K.P _ _ ops a2) (m3 H' (S.put (some d) v))=_;rw[s1];exact aa fE AL
end
def kr(x n:Nat):Prop:=x=0/\n=0\/x≠0/\n=1
theorem kr.z{x n:Nat}(h:kr x n)(aX:n=0):x=0:=by unfold kr at h;omega
theorem kr.uv{x n:Nat}(h:kr x n)(aX:x=0):n=0:=by unfold kr at h;omega
theorem cA.bD{J:an}{v:Value}{x:Nat}(h:cA J v x):∃b n c,v=.slice b n c/\addrEq b b=true/\kr x n/\(n=1->∃a off cells e,b=some ⟨a,off,none⟩/\J a=some (cells,e)/\nth cells (off+0)=some (.int .u64 (x:Int))):=h.un
theorem cA.BT{J ae:an}{v:Value}{x y:Nat}(h:cA J v x)(gB:cA ae v y)(hle:J.le ae):x=y:=by
 obtain⟨b,n,c,rfl,_,aa,ab⟩:=h.un;obtain⟨b',wc,bw,e,_,aY,bu⟩:=gB.un;injection e with aC aZ cJ
 subst aC;subst aZ;rcases aa with⟨p,q⟩|⟨p,q⟩
 ·rcases aY with⟨gg,c3⟩|⟨gg,c3⟩
  ·omega
  ·omega
 ·obtain⟨a,off,cells,e,rfl,a9,a4⟩:=ab q;obtain⟨bE,e0,cells',bk,w,s4,qg⟩:=bu q;injection w with w
  injection w with bh cb
  subst bh;subst cb;rw[hle _ _ a9] at s4;injection s4 with s4
  injection s4 with bh cb
  subst bh;rw[a4] at qg;injection qg with qg
  injection qg with _ qg
  omega
theorem iK.af{J pG:an}{x gN:Nat}(hle:pG.le J)(dT:gN=x){bU:aU}(hm:bU=[]):bU=[]/\pG.le J/\∀v m' bq dR,iK pG gN v m' bq->bq.le dR->J.le dR->iK J x v m' dR:=
 ⟨hm,hle,fun v m' bq dR ⟨_,ab,aY⟩ bu gI=>⟨gI,ab,dT▸aY.mono bu⟩⟩
end
end Go.Opn

/- A part of the proof of TableRounds. -/
import Derived.Test.YtfdhclnfkafebaaGreatDoorCbb
set_option maxRecDepth 100000
set_option maxHeartbeats 8000000
set_option linter.unusedVariables false
set_option linter.unusedSimpArgs false
namespace Go.Opn
noncomputable section
open Go.Cre Go.RowKit Go.Proofs
theorem tdiv_cases(T:Int):T.tdiv 1000000000*1000000000+T.tmod 1000000000=T/\(0<=T->0<=T.tmod 1000000000/\T.tmod 1000000000<1000000000)/\(T<=0->T.tmod 1000000000<=0/\-1000000000<T.tmod 1000000000):=by
 refine⟨by have:=Int.tdiv_mul_add_tmod T 1000000000;omega,fun h=>?_,fun h=>?_⟩
 ·rw[abc h];omega
 ·have ad:T.tmod 1000000000=-((-T) % 1000000000):=by
   have:=Int.neg_tmod (-T) 1000000000;rw[L9] at this;rw[this,abc (show 0<=-T by omega)]
  rw[ad];omega
section
variable {Q:dD Tryz.prog}{g0:Nat}{J:an}
theorem XV{v w:Value}{A B P:Nat}{x y:Int}(ab:cM J v A)(aB:cM J w B)(gP:(ai A).length<=100000)(FI:(ai B).length<=(ai A).length)(ev:-1000000000<x)(gH:x<1000000000)(hU:-1000000000<y)(iH:y<1000000000)(cX:x*A+y*B=(P:Int))(ar6:P<=A):Fn (a1 Q g0) 143 [v,w,.int .i64 x,.int .i64 y] [] J (EI J P):=by
 have dM:=ab;have eU:=aB;obtain⟨bQ,bH,rfl,aX⟩:=ab.bG;obtain⟨bL,bM,rfl,aU⟩:=aB.bG;refine Fn.cr (cu Tryz.func143) rfl rfl fun H=>?_;refine rg ?_;refine U V.au ?_;refine a2 ?_;refine al ?_;refine' W.step rfl (.of (qN rfl rfl rfl rfl rfl (hb Q g0) ?aO ?ad ?af fun qa=>?_));case aO=>exact bz
 case ad=>exact bz
 case af=>exact bz
 refine U V.au ?_;refine a3 ?_;rw[show((ai A).length:Int).toNat=(ai A).length by omega,zero_num];refine rg ?_;refine U V.au ?_;refine a2 ?_;refine al ?_;refine aA ?_;refine ae.block ?_;refine' ae.dO (l':=[(18,.int .i64 ((0):Int)),(10,.int .i64 (0)),(0,_),(1,_),(2,_),(3,_),(9,_),(17,_)]) ⟨?Ig,?ur,rfl,rfl,rfl,rfl,rfl,rfl,trivial⟩ (bx _) ?_;case Ig=>first|exact bg|exact aa some (aa (Value.int .u64) I)|exact aa some (aa (Value.int .u32) I)|exact aa some (aa (Value.int .i64) I)
 case ur=>first|exact bg|exact aa some (aa (Value.int .u64) I)|exact aa some (aa (Value.int .u32) I)|exact aa some (aa (Value.int .i64) I)
 refine ao ?_;refine' ae.e2 (fun(a6:Nat×Int×(List Nat))=>match a6 with|(i,c,z)=>⟨[(18,.int .i64 (i:Int)),(10,.int .i64 c)],[eO .u32 72 qa z],J,i<=(ai A).length/\-3000000000<=c/\c<=3000000000/\z.length=(ai A).length/\dS z/\(aN (z.take i):Int)+((1000000000 ^ i:Nat):Int)*c=x*(aN ((ai A).take i):Int)+y*(aN ((ai B).take i):Int),(ai A).length -i⟩) ⟨0,0,List.replicate (ai A).length 0⟩ ?ag ?bD
 case ag=>exact⟨ep _,by decide,by decide,mT,DO,by rw[fh,fh,fh];show((0:Nat):Int)+_*0=x*((0:Nat):Int)+y*((0:Nat):Int);omega⟩
 case bD=>
  rintro⟨i,c,z⟩ hinv;try simp only at hinv
  obtain⟨ar,vc,gY,aL,cc,az⟩:=hinv;refine rg ?_;refine U V.bb ?_;refine aA ?_;refine If (fun q2=>?_) fun q2=>?_
  ·obtain⟨tg,eN,nV,ex,rfl,tz,k3⟩:=dM.at (oT I);obtain⟨a,aI,QV,ju⟩:=k3 i I;obtain⟨EJ,FV⟩:∃EJ,EJ=x*(a:Int):=⟨_,rfl⟩;have asd:EJ<=1000000000*1000000000:=by
    have ad:=L7 (show x<=1000000000 by omega) (o6 a);omega
   have Vt:-(1000000000*1000000000)<=EJ:=by
    have ad:=L7 (show -1000000000<=x by omega) (o6 a);omega
   have pF:=tu (hB B) i;obtain⟨Cd,CQ⟩:∃Cd,Cd=y*(((ai B).getD i 0:Nat):Int):=⟨_,rfl⟩;have Vv:Cd<=1000000000*1000000000:=by
    have ad:=L7 (show y<=1000000000 by omega) (o6 ((ai B).getD i 0));omega
   have asf:-(1000000000*1000000000)<=Cd:=by
    have ad:=L7 (show -1000000000<=y by omega) (o6 ((ai B).getD i 0));omega
   obtain⟨T,cB⟩:∃T,T=EJ+c+Cd:=⟨_,rfl⟩;obtain⟨F1,J3,VI⟩:=tdiv_cases T;obtain⟨Cc,Vr⟩:∃Cc,Cc=T.tdiv 1000000000:=⟨_,rfl⟩;rw[<-Vr] at F1;refine dW ?_;refine ao ?_;refine ae.block ?_;refine rg ?_;refine al ?_;refine a2 ?_;refine al ?_;refine U V.bh ?_;refine U V.cg ?_;refine U V.d' ?_;refine U V.aY ?_;refine U V.ay ?_;refine U V.aY ?_;refine U V.au ?_;refine a2 ?_;refine al ?_;refine U V.bb ?_;refine a3 ?_;refine eP [12,33,0,1,2,3,9,11,17,18] ?_;refine ao ?_;refine' ae.hf 2 [(12,.int .i64 T)] ?adD ?aeM;case adD=>
    refine If (fun E0=>?_) fun E0=>?_
    ·obtain⟨Ce,hI,tm,n1,rfl,CN,og⟩:=eU.at (oT I);obtain⟨p,ap,y2,e2⟩:=og i I;have asg:y*(p:Int)=Cd:=by rw[CQ,ig ap]
     refine rg ?_;refine al ?_;refine U V.bh ?_;refine U V.cg ?_;refine U V.d' ?_;refine U V.aY ?_;refine U V.aY ?_;refine U V.au ?_;refine a3 ?_;refine'⟨⟨_,rfl,⟨?ml,rfl,rfl,rfl,rfl,rfl,rfl,rfl,rfl,trivial⟩⟩,bx _,rfl⟩;case ml=>first|exact aa some (aa (Value.int .i64) (by rw[cB,CQ,ig ap,FV]))|exact aa some (aa (Value.int .i64) (by rw[cB,CQ,lX (l:=ai B) I,FV];omega))
    ·refine ao ?_;refine ae.skip ?_;refine'⟨⟨_,rfl,⟨?ml,rfl,rfl,rfl,rfl,rfl,rfl,rfl,rfl,trivial⟩⟩,bx _,rfl⟩;case ml=>first|exact aa some (aa (Value.int .i64) (by rw[cB,CQ,ig ap,FV]))|exact aa some (aa (Value.int .i64) (by rw[cB,CQ,lX (l:=ai B) I,FV];omega))
   case aeM=>
    refine rg ?_;refine U V.ay ?_;refine U V.hn ?_;refine U V.au ?_;refine a3 ?_;rw[show IntKind.i64.wrap (T.tdiv 1000000000)=Cc from by rw[<-Vr];exact wrap_i64 I I];refine rg ?_;refine al ?_;refine U V.aY ?_;refine U V.aY ?_;rw[show T -Cc*1000000000=T.tmod 1000000000 by omega];refine U V.au ?_;refine a2 ?_;refine U V.ay ?_;refine U V.bb ?_;refine a3 ?_;refine eP [10,12,50,0,1,2,3,9,11,17,18] ?_;refine ao ?_;refine' ae.lW (α:=(Nat)×(Int)) 3 (fun(a6:(Nat)×(Int))=>match a6 with|(d9,fp)=>[(12,.int .i64 (d9:Int)),(10,.int .i64 fp)]) (fun(a6:(Nat)×(Int))=>match a6 with|(d9,fp)=>[eO .u32 72 qa z]) (fun(a6:(Nat)×(Int))=>match a6 with|(d9,fp)=>J) (fun(a6:(Nat)×(Int))=>match a6 with|(d9,fp)=>d9<1000000000/\(d9:Int)+1000000000*fp=T/\-3000000000<=fp/\fp<=3000000000) ?adI ?aeR
    case adI=>
     refine If (fun ac2=>?_) fun ac2=>?_
     ·refine rg ?_;refine U V.ay ?_;refine U V.aY ?_;refine U V.au ?_;refine a2 ?_;refine U V.ay ?_;refine U V.aY ?_;refine U V.au ?_;refine a3 ?_;refine'⟨⟨(T.tmod 1000000000+1000000000).toNat,Cc -1⟩,_,?hinv,rfl,⟨?QB,?tV,rfl,rfl,rfl,rfl,rfl,rfl,rfl,rfl,trivial⟩,gK,rfl⟩;case QB=>first|exact bg|exact aa some (aa (Value.int .u64) I)|exact aa some (aa (Value.int .u32) I)|exact aa some (aa (Value.int .i64) I)
      case tV=>first|exact bg|exact aa some (aa (Value.int .u64) I)|exact aa some (aa (Value.int .u32) I)|exact aa some (aa (Value.int .i64) I)
      case hinv=>exact⟨I,I,I,I⟩
     ·refine ao ?_;refine ae.skip ?_;refine'⟨⟨(T.tmod 1000000000).toNat,Cc⟩,_,?hinv,rfl,⟨?QB,?tV,rfl,rfl,rfl,rfl,rfl,rfl,rfl,rfl,trivial⟩,gK,rfl⟩;case QB=>first|exact bg|exact aa some (aa (Value.int .u64) I)|exact aa some (aa (Value.int .u32) I)|exact aa some (aa (Value.int .i64) I)
      case tV=>first|exact bg|exact aa some (aa (Value.int .u64) I)|exact aa some (aa (Value.int .u32) I)|exact aa some (aa (Value.int .i64) I)
      case hinv=>exact⟨I,I,I,I⟩
    case aeR=>
     rintro⟨d9,fp⟩ hinv;try simp only at hinv
     obtain⟨agQ,agR,agO,agP⟩:=hinv;refine rg ?_;refine al ?_;refine U V.d' ?_;refine U V.bh ?_;refine' W.step rfl (.of (ia rfl rfl rfl rfl (hh rfl) rfl rfl rfl ?ad ?ag ?ap ?_));case ap=>repeat first|exact .head _ _ _ _|apply dh.tail|apply dh.app
     case ag=>exact k8 i I
     case ad=>first|rfl|assumption
     refine a2 ?_;refine U V.aY ?_;refine U V.ay ?_;refine a3 ?_;refine fl ⟨i+1,fp,z.set i d9⟩ ?_;exact⟨I,agO,agP,by rw[hr];exact aL,y6 cc agQ,akY I (ig aI) rfl az (by rw[agR,cB,CQ,FV])⟩
  ·obtain rfl:i=(ai A).length:=I
   rw[<-aL,dd (bX _),aL,dd (l:=ai A) (bX _),dd (l:=ai B) FI,e5,e5,cX] at az;have m6:aN z=P:=by
    have ad:=k' cc;rw[aL] at ad;have af:=oi (x:=A) (bX _);generalize asH:1000000000 ^ (ai A).length=vI at*;rcases Int.lt_trichotomy c 0 with k|k|k
    ·have:=vY (show c<=-1 by omega) (o6 vI)
     rw[Ix,Iy] at this;omega
    ·rw[k,SN] at az;omega
    ·have:=vY (show 1<=c by omega) (o6 vI)
     omega
   refine ao ?_;refine ae.exit ?_;refine rg ?_;refine U V.ay ?_;refine' W.step rfl (Exec.call rfl rfl rfl rfl rfl rfl rfl (cj:=[eO .u32 72 qa z]) (eB:=[]) (.refl _) trivial (KO (l:=z) cc I (bX _) I) ?_);rintro v' m' ah hle ⟨k,rfl,hk,gD,rfl,rfl⟩;refine U V.au ?_;refine a3 ?_;refine ae.h9 rfl fun aK=>?_;refine ao ?_;refine ae.ret ?_;refine'⟨.inr rfl,rfl,_,[],.tmp rfl .nil,br _,⟨aK,rfl,cM.row (by rw[gD,<-aL,dd (bX _),m6]) I hk (kF I) (an.g7 _ _ _)⟩⟩
theorem akx{v w:Value}{x y:Nat}{e:TypeId}(cB:J 2=some (b7 .u8 pT,e))(aF:Nat.blt 2 (a1 Q g0).g0=true)(ab:cM J v x)(aB:cM J w y)(gP:(ai x).length<=100000)(jK:(ai y).length<=100000):Fn (a1 Q g0) 117 [v,w] [] J (EI J (Nat.gcd x y)):=by
 have dM:=ab;have eU:=aB;obtain⟨bQ,bH,rfl,aX⟩:=ab.bG;obtain⟨bL,bM,rfl,aU⟩:=aB.bG;refine Fn.cr (cu Tryz.func117) rfl rfl fun H=>?_;refine rg ?_;refine U V.au ?_;refine a3 ?_;refine eP [0,1] ?_;refine ao ?_;refine' ae.hf 0 [(20,.bool (decide (((ai x).length<=2/\(ai y).length<=2))))] ?m0 ?m2;case m0=>
  refine ae.region ?_;refine al ?_;refine U V.bb ?_;refine U V.ay ?_;refine ft 16 (fun jD=>?_) fun jD=>?_
  ·refine bo V.ay ?_;refine bo V.h7 ?_;refine bo V.bb ?_;refine U V.bt ?_;refine a3 ?_;refine'⟨⟨_,rfl,⟨?xu,rfl,rfl,trivial⟩⟩,bx _,rfl⟩;case xu=>first|exact fw rfl (by first|omega|(simp_all;done)|(simp_all;omega))|exact fu rfl (by first|omega|(simp_all;done)|(simp_all;omega))|exact fv rfl (by first|omega|(simp_all;done)|(simp_all;omega))|exact fE rfl (by first|omega|(simp_all;done)|(simp_all;omega))
  ·refine bs ?_;refine bs ?_;refine bs ?_;refine U V.bt ?_;refine a3 ?_;refine'⟨⟨_,rfl,⟨?xu,rfl,rfl,trivial⟩⟩,bx _,rfl⟩;case xu=>first|exact fw rfl (by first|omega|(simp_all;done)|(simp_all;omega))|exact fu rfl (by first|omega|(simp_all;done)|(simp_all;omega))|exact fv rfl (by first|omega|(simp_all;done)|(simp_all;omega))|exact fE rfl (by first|omega|(simp_all;done)|(simp_all;omega))
 case m2=>
  refine ao ?_;refine If (fun iw=>?_) fun iw=>?_
  ·have Sn:=oi iw.1;have aqA:=oi iw.2;have jE:Nat.gcd x y<1000000000000000000:=by
    rcases jj x with k|k
    ·rw[k,Mo];omega
    ·exact p7 (IV k (lf _ _)) I
   refine rg ?_;refine U V.ay ?_;refine bN (G:=Eg dM iw.1) (h:=?_);rintro v' m' ah hle ⟨rfl,rfl,rfl⟩;refine U V.ay ?_;refine bN (G:=Eg eU iw.2) (h:=?_);rintro v' m' ah hle ⟨rfl,rfl,rfl⟩;refine bN (G:=MR cB aF I I) (h:=?_);rintro v' m' ah hle ⟨rfl,rfl,rfl⟩;refine bN (G:=Qs jE) (h:=?_);rintro v' m' bK hle ⟨aK,rfl,hw⟩;obtain⟨cZ,db,rfl,b0⟩:=hw.bG;refine U V.au ?_;refine aA ?_;refine ae.ret ?_;refine'⟨.inr rfl,rfl,_,[],.tmp rfl .nil,br _,?_⟩;first
    |exact⟨aK,rfl,hw⟩
  ·refine ao ?_;refine ae.skip ?_;refine eP [0,1] ?_;refine ao ?_;refine' ae.hf 0 [(32,.bool (decide ((x=1\/y=1))))] ?ad8 ?aeZ;case ad8=>
    refine ae.region ?_;refine U V.ay ?_;refine bN (G:=Qt dM gP) (h:=?_);rintro v' m' ah hle ⟨rfl,rfl,rfl⟩;refine U V.ay ?_;refine ft 29 (fun JG=>?_) fun JG=>?_
    ·refine bs ?_;refine W.wH rfl rfl rfl rfl rfl ?_;refine U V.bt ?_;refine a3 ?_;refine'⟨⟨_,rfl,⟨?QR,rfl,rfl,trivial⟩⟩,bx _,rfl⟩;case QR=>first|exact fw rfl (by first|omega|(simp_all))|exact fu rfl (by first|omega|(simp_all))|exact fv rfl (by first|omega|(simp_all))|exact fE rfl (by first|omega|(simp_all))
    ·refine bo V.ay ?_;refine qf (G:=Qt eU jK) (h:=?_);rintro v' m' ah hle ⟨rfl,rfl,rfl⟩;refine U V.bt ?_;refine a3 ?_;refine'⟨⟨_,rfl,⟨?QR,rfl,rfl,trivial⟩⟩,bx _,rfl⟩;case QR=>first|exact fw rfl (by first|omega|(simp_all))|exact fu rfl (by first|omega|(simp_all))|exact fv rfl (by first|omega|(simp_all))|exact fE rfl (by first|omega|(simp_all))
   case aeZ=>
    refine ao ?_;refine If (fun r9=>?_) fun r9=>?_
    ·refine rg ?_;refine bN (G:=akJ) (h:=?_);rintro v' m' bK hle ⟨aK,rfl,hw⟩;obtain⟨cZ,db,rfl,b0⟩:=hw.bG;refine U V.au ?_;refine aA ?_;refine ae.ret ?_;refine'⟨.inr rfl,rfl,_,[],.tmp rfl .nil,br _,?_⟩;first
        |(have c:=r9
          exact⟨aK,rfl,by
           have e:Nat.gcd x y=1:=by
            rcases r9 with rfl|rfl
            ·exact Ez _
            ·exact EA _
           rw[e];exact hw⟩)
        |exact⟨aK,rfl,hw⟩
    ·refine ao ?_;refine ae.skip ?_;refine rg ?_;refine al ?_;refine bN (G:=Xd dM eU gP jK) (h:=?_);rintro v' m' ah hle ⟨rfl,rfl,rfl⟩;refine U V.bb ?_;refine a3 ?_;refine eP [0,1,37] ?_;refine ao ?_;refine' ae.lW (α:=(Value)×(Value)×(Nat)×(Nat)) 3 (fun(a6:(Value)×(Value)×(Nat)×(Nat))=>match a6 with|(aY,h',a,b)=>[(0,aY),(1,h')]) (fun(a6:(Value)×(Value)×(Nat)×(Nat))=>match a6 with|(aY,h',a,b)=>[]) (fun(a6:(Value)×(Value)×(Nat)×(Nat))=>match a6 with|(aY,h',a,b)=>J) (fun(a6:(Value)×(Value)×(Nat)×(Nat))=>match a6 with|(aY,h',a,b)=>cM J aY a/\cM J h' b/\b<=a/\(ai a).length<=100000/\Nat.gcd a b=Nat.gcd x y) ?Nb ?Nu
     case Nb=>
      refine If (fun z2=>?_) fun z2=>?_
      ·
        refine rg ?_;refine al ?_;refine a3 ?_;refine'⟨⟨.slice bL (ai y).length bM,.slice bQ (ai x).length bH,y,x⟩,_,?hinv,rfl,⟨?dc,?c1,trivial⟩,gK,rfl⟩;case dc=>first|exact bg|exact aa some (aa (Value.int .u64) I)|exact aa some (aa (Value.int .u32) I)|exact aa some (aa (Value.int .i64) I)
        case c1=>first|exact bg|exact aa some (aa (Value.int .u64) I)|exact aa some (aa (Value.int .u32) I)|exact aa some (aa (Value.int .i64) I)
        case hinv=>exact⟨eU,dM,by have:=r'.1 z2;omega,jK,oA _ _⟩
      ·
        refine ao ?_;refine ae.skip ?_;refine'⟨⟨.slice bQ (ai x).length bH,.slice bL (ai y).length bM,x,y⟩,_,?hinv,rfl,⟨?dc,?c1,trivial⟩,gK,rfl⟩;case dc=>first|exact bg|exact aa some (aa (Value.int .u64) I)|exact aa some (aa (Value.int .u32) I)|exact aa some (aa (Value.int .i64) I)
        case c1=>first|exact bg|exact aa some (aa (Value.int .u64) I)|exact aa some (aa (Value.int .u32) I)|exact aa some (aa (Value.int .i64) I)
        case hinv=>exact⟨dM,eU,qW fun h=>z2 (r'.2 h),gP,rfl⟩
     case Nu=>
      rintro⟨aY,h',a,b⟩ hinv;try simp only at hinv
      obtain⟨eT,e4,n3,ju,cp⟩:=hinv;refine ao ?_;refine ae.block ?_;refine' ae.dO (l':=[(0,(aY)),(1,(h'))]) ⟨?w0,?bm,trivial⟩ (bx _) ?_;case w0=>first|exact bg|exact aa some (aa (Value.int .u64) I)|exact aa some (aa (Value.int .u32) I)|exact aa some (aa (Value.int .i64) I)
      case bm=>first|exact bg|exact aa some (aa (Value.int .u64) I)|exact aa some (aa (Value.int .u32) I)|exact aa some (aa (Value.int .i64) I)
      refine ao ?_;refine' ae.e2 (fun(a6:Value×Value×Nat×Nat×an)=>match a6 with|(aY,h',a,b,dw)=>⟨[(0,aY),(1,h')],[],dw,J.le dw/\cM dw aY a/\cM dw h' b/\b<=a/\(ai a).length<=100000/\Nat.gcd a b=Nat.gcd x y,b⟩) ⟨aY,h',a,b,J⟩ ?ag ?bD
      case ag=>exact⟨an.le.refl _,eT,e4,n3,ju,cp⟩
      case bD=>
        rintro⟨aY,h',a,b,dw⟩ hinv;try simp only at hinv
        obtain⟨c2,eT,e4,n3,ju,cp⟩:=hinv;have hF:=eT;have h1:=e4;obtain⟨fI,gV,rfl,gl⟩:=eT.bG;obtain⟨gz,e7,rfl,iC⟩:=e4.bG;have pF:=cY (xk n3) ju;refine rg ?_;refine al ?_;refine U V.bb ?_;refine aA ?_;refine If (fun acY=>?_) fun acY=>?_
        ·obtain⟨m,hm⟩:∃m,(ai a).length=m+3:=⟨(ai a).length -3,by have:=xk n3;omega⟩;have FY:0<b:=r2 (oT I);refine dW ?_;refine eP [0,1] ?_;refine ao ?_;refine' ae.lW (α:=(Value)×(Value)×(Nat)×(Nat)×(an)) 2 (fun(a6:(Value)×(Value)×(Nat)×(Nat)×(an))=>match a6 with|(pV,pW,bV,b',iv)=>[(0,pV),(1,pW)]) (fun(a6:(Value)×(Value)×(Nat)×(Nat)×(an))=>match a6 with|(pV,pW,bV,b',iv)=>[]) (fun(a6:(Value)×(Value)×(Nat)×(Nat)×(an))=>match a6 with|(pV,pW,bV,b',iv)=>iv) (fun(a6:(Value)×(Value)×(Nat)×(Nat)×(an))=>match a6 with|(pV,pW,bV,b',iv)=>dw.le iv/\cM iv pV bV/\cM iv pW b'/\b'<bV/\bV<=a/\b'<b/\Nat.gcd bV b'=Nat.gcd a b) ?adZ ?aeV
         case adZ=>
          refine ae.block ?_;refine rg ?_;refine al ?_;refine bN (G:=akm hF h1 hm I n3) (h:=?_);rintro v' m' bK hle ⟨aK,rfl,X,Y,rfl,wQ,FR⟩;refine al ?_;refine bN (G:=aoF wQ FR) (h:=?_);rintro v' m' ah hle ⟨⟨w,atX,atZ,z,rfl,oI,dR⟩,rfl,rfl⟩;refine al ?_;refine a2 ?_;refine U V.ay ?_;refine U V.bb ?_;refine aA ?_;refine If (fun ac3=>?_) fun ac3=>?_
          ·refine rg ?_;refine al ?_;refine bN (G:=Xg (hF.mono aK) (h1.mono aK) ju pF I) (h:=?_);rintro v' m' dT bi ⟨_,rfl,Eh,wr,rfl,qw,pB⟩;refine al ?_;refine a2 ?_;refine al ?_;refine aA ?_;refine ae.exit ?_;refine'⟨⟨.slice gz (ai b).length e7,wr,b,a % b,dT⟩,_,?hinv,rfl,⟨?dc,?c1,trivial⟩,gK,rfl⟩;case dc=>first|exact bg|exact aa some (aa (Value.int .u64) I)|exact aa some (aa (Value.int .u32) I)|exact aa some (aa (Value.int .i64) I)
           case c1=>first|exact bg|exact aa some (aa (Value.int .u64) I)|exact aa some (aa (Value.int .u32) I)|exact aa some (aa (Value.int .i64) I)
           case hinv=>exact⟨aK.trans bi,(h1.mono aK).mono bi,pB,fJ _ FY,n3,fJ _ FY,by rw[oA,<-zO,oA]⟩
          ·obtain⟨P,R,vl,iA,w9,sy,ai1⟩:=dR I;refine fy ?_;refine al ?_;refine bN (G:=XV (hF.mono aK) (h1.mono aK) ju (xk n3) I I I I vl I) (h:=?_);rintro v' m' dT hle ⟨bi,rfl,GF⟩;obtain⟨uu,rfl⟩:∃uu,uu=v':=⟨_,rfl⟩;refine al ?_;refine bN (G:=XV ((hF.mono aK).mono bi) ((h1.mono aK).mono bi) ju (xk n3) I I I I iA I) (h:=?_);rintro v' m' ga hle ⟨cn,rfl,vp⟩;obtain⟨wf,rfl⟩:∃wf,wf=v':=⟨_,rfl⟩;refine al ?_;refine a3 ?_;refine'⟨⟨uu,wf,P,R,ga⟩,_,?hinv,rfl,⟨?dc,?c1,trivial⟩,gK,rfl⟩;case dc=>first|exact bg|exact aa some (aa (Value.int .u64) I)|exact aa some (aa (Value.int .u32) I)|exact aa some (aa (Value.int .i64) I)
           case c1=>first|exact bg|exact aa some (aa (Value.int .u64) I)|exact aa some (aa (Value.int .u32) I)|exact aa some (aa (Value.int .i64) I)
           case hinv=>exact⟨(aK.trans bi).trans cn,GF.mono cn,vp,w9,cY sy n3,iJ w9 sy,ai1⟩
         case aeV=>
          rintro⟨pV,pW,bV,b',iv⟩ hinv;try simp only at hinv
          obtain⟨wK,hx,cy,cA,hle,aip,FM⟩:=hinv;have hlen:=cY (xk hle) ju;refine fl ⟨pV,pW,bV,b',iv⟩ ?_;exact⟨c2.trans wK,hx,cy,r0 cA,hlen,FM.trans cp⟩
        ·refine ao ?_;refine ae.exit ?_;refine rg ?_;refine al ?_;refine U V.bb ?_;refine aA ?_;refine If (fun E4=>?_) fun E4=>?_
         ·have gr:b=0:=jh fun q=>tT q I;rw[gr,zP] at cp;refine rg ?_;refine U V.ay ?_;refine bN (G:=Xf hF ju) (h:=?_);rintro v' m' bK hle ⟨aK,rfl,hw⟩;obtain⟨cZ,db,rfl,b0⟩:=hw.bG;refine U V.au ?_;refine aA ?_;refine ae.ret ?_;refine'⟨.inr rfl,rfl,_,[],.tmp rfl .nil,br _,?_⟩;first
           |(have c:=E4
             first
              |exact⟨c2.trans aK,rfl,by rw[<-cp];exact hw⟩
              |exact⟨(c2.trans aK).trans bi,rfl,by rw[<-Az];exact hw⟩)
           |(have c:=r9
             exact⟨aK,rfl,by
              have e:Nat.gcd x y=1:=by
               rcases r9 with rfl|rfl
               ·exact Ez _
               ·exact EA _
              rw[e];exact hw⟩)
           |exact⟨aK,rfl,hw⟩
         ·have gr:b≠0:=oT I;have iy:=oi (x:=b) (k:=2) I;have w2:a % b<b:=fJ _ (r2 gr);have jE:Nat.gcd b (a % b)<1000000000000000000:=p7 (IV (r2 gr) (lf _ _)) I;have Az:Nat.gcd b (a % b)=Nat.gcd x y:=by rw[<-cp,oA b,oA a,zO b a]
          refine fy ?_;refine al ?_;refine bN (G:=Xg hF h1 ju pF gr) (h:=?_);rintro v' m' bK aK ⟨_,rfl,Eh,wr,rfl,qw,pB⟩;refine al ?_;refine a2 ?_;refine U V.ay ?_;refine bN (G:=Eg (h1.mono aK) I) (h:=?_);rintro v' m' ah hle ⟨rfl,rfl,rfl⟩;refine U V.ay ?_;refine bN (G:=Eg pB (by have:=xk (r0 w2);omega)) (h:=?_);rintro v' m' ah hle ⟨rfl,rfl,rfl⟩;refine bN (G:=MR (aK _ _ (c2 _ _ cB)) aF I I) (h:=?_);rintro v' m' ah hle ⟨rfl,rfl,rfl⟩;refine bN (G:=Qs jE) (h:=?_);rintro v' m' dT hle ⟨bi,rfl,hw⟩;obtain⟨cZ,db,rfl,b0⟩:=hw.bG;refine U V.au ?_;refine aA ?_;refine ae.ret ?_;refine'⟨.inr rfl,rfl,_,[],.tmp rfl .nil,br _,?_⟩;first
           |(have c:=E4
             first
                 |exact⟨c2.trans aK,rfl,by rw[<-cp];exact hw⟩
                 |exact⟨(c2.trans aK).trans bi,rfl,by rw[<-Az];exact hw⟩)
           |(have c:=r9
             exact⟨aK,rfl,by
              have e:Nat.gcd x y=1:=by
               rcases r9 with rfl|rfl
               ·exact Ez _
               ·exact EA _
              rw[e];exact hw⟩)
           |exact⟨aK,rfl,hw⟩
theorem Xe{v w:Value}{x y:Nat}{e:TypeId}(cB:J 2=some (b7 .u8 pT,e))(aF:Nat.blt 2 (a1 Q g0).g0=true)(ab:cM J v x)(aB:cM J w y)(gP:(ai x).length<=100000)(jK:(ai y).length<=100000):Fn (a1 Q g0) 81 [v,w] [] J (fun u m' ah=>u=.bool (decide (Nat.gcd x y=1))/\m'=[]/\J.le ah):=by
 have dM:=ab;have eU:=aB;obtain⟨bQ,bH,rfl,aX⟩:=ab.bG;obtain⟨bL,bM,rfl,aU⟩:=aB.bG;refine Fn.cr (cu Tryz.func81) rfl rfl fun H=>?_;refine rg ?_;refine U V.au ?_;refine a3 ?_;refine eP [0,1] ?_;refine ao ?_;refine' ae.hf 0 [(12,.bool (decide (((ai x).length<=2/\(ai y).length<=2))))] ?m0 ?m2;case m0=>
  refine ae.region ?_;refine al ?_;refine U V.bb ?_;refine U V.ay ?_;refine ft 8 (fun jD=>?_) fun jD=>?_
  ·refine bo V.ay ?_;refine bo V.h7 ?_;refine bo V.bb ?_;refine U V.bt ?_;refine a3 ?_;refine'⟨⟨_,rfl,⟨?ml,rfl,rfl,trivial⟩⟩,bx _,rfl⟩;case ml=>first|exact fw rfl (by first|omega|(simp_all;done)|(simp_all;omega))|exact fu rfl (by first|omega|(simp_all;done)|(simp_all;omega))|exact fv rfl (by first|omega|(simp_all;done)|(simp_all;omega))|exact fE rfl (by first|omega|(simp_all;done)|(simp_all;omega))
  ·refine bs ?_;refine bs ?_;refine bs ?_;refine U V.bt ?_;refine a3 ?_;refine'⟨⟨_,rfl,⟨?ml,rfl,rfl,trivial⟩⟩,bx _,rfl⟩;case ml=>first|exact fw rfl (by first|omega|(simp_all;done)|(simp_all;omega))|exact fu rfl (by first|omega|(simp_all;done)|(simp_all;omega))|exact fv rfl (by first|omega|(simp_all;done)|(simp_all;omega))|exact fE rfl (by first|omega|(simp_all;done)|(simp_all;omega))
 case m2=>
  refine ao ?_;refine If (fun jn=>?_) fun jn=>?_
  ·have Sn:=oi jn.1;have aqA:=oi jn.2;refine rg ?_;refine U V.ay ?_;refine bN (G:=Eg dM jn.1) (h:=?_);rintro v' m' ah hle ⟨rfl,rfl,rfl⟩;refine U V.ay ?_;refine bN (G:=Eg eU jn.2) (h:=?_);rintro v' m' ah hle ⟨rfl,rfl,rfl⟩;refine bN (G:=MR cB aF I I) (h:=?_);rintro v' m' ah hle ⟨rfl,rfl,rfl⟩;refine U V.bb ?_;refine U V.au ?_;refine aA ?_;refine ae.ret ?_;refine'⟨.inr rfl,rfl,_,[],.tmp rfl .nil,br _,?_⟩;first
    |exact⟨rfl,rfl,aK⟩
    |exact⟨aa Value.bool (m1.2 I),rfl,an.le.refl _⟩
  ·refine ao ?_;refine ae.skip ?_;refine rg ?_;refine al ?_;refine bN (G:=akx cB aF dM eU gP jK) (h:=?_);rintro v' m' bK hle ⟨aK,rfl,hw⟩;have ob:=hw;obtain⟨cZ,db,rfl,b0⟩:=hw.bG;refine bN (G:=Qt ob (by
    rcases jj x with k|k
    ·rw[k,Mo];exact jK
    ·exact cY (xk (IV k (lf _ _))) gP)) (h:=?_)
   rintro v' m' ah hle ⟨rfl,rfl,rfl⟩;refine U V.au ?_;refine aA ?_;refine ae.ret ?_;refine'⟨.inr rfl,rfl,_,[],.tmp rfl .nil,br _,?_⟩;first
    |exact⟨rfl,rfl,aK⟩
    |exact⟨aa Value.bool (m1.2 I),rfl,an.le.refl _⟩
end
def zN(J:an)(v:Value)(x:Nat):Prop:=fP J 72 1 v (ai x).length (b7 .u32 (ai x))
theorem zN.fU{J:an}{v:Value}{x:Nat}(h:zN J v x):cM J v x:=⟨_,h⟩
theorem zN.mono{J ah:an}(hle:J.le ah){v:Value}{x:Nat}(h:zN J v x):zN ah v x:=fP.mono hle h
abbrev pb(J:an)(x:Nat):Value->a8->an->Prop:=fun u m' ah=>J.le ah/\m'=[]/\zN ah u x
section
variable {Q:dD Tryz.prog}{g0:Nat}{J:an}
theorem HZ{v:Value}{l:List Nat}(h:fP J 72 1 v l.length (b7 .u32 l))(aj:dS l)(aD:l.length<=200000):Fn (a1 Q g0) 120 [v] [] J (fun u m' ah=>m'=[]/\J=ah/\zN J u (aN l)):=by
 obtain⟨b,c,rfl,_⟩:=h.inv;refine Fn.cr (cu Tryz.func120) rfl rfl fun H=>?_;refine rg ?_;refine U V.au ?_;refine aA ?_;refine ae.block ?_;refine' ae.dO (l':=[(0,.slice (b) (l.length) (c))]) ⟨?w0,trivial⟩ (bx _) ?_;case w0=>first|exact bg|exact aa some (aa (Value.int .u64) I)|exact aa some (aa (Value.int .u32) I)|exact aa some (aa (Value.int .i64) I)
 refine ao ?_;refine' ae.lE (α:=(Nat)×(Option Addr)×(Nat)) (fun(a6:(Nat)×(Option Addr)×(Nat))=>match a6 with|(k,fo,kX)=>[(0,.slice fo k kX)]) (fun(a6:(Nat)×(Option Addr)×(Nat))=>match a6 with|(k,fo,kX)=>k<=l.length/\fP J 72 1 (.slice fo k kX) k ((b7 .u32 l).take k)/\∀j y,k<=j->l[j]?=some y->y=0) (fun(a6:(Nat)×(Option Addr)×(Nat))=>match a6 with|(k,fo,kX)=>k) ⟨l.length,b,c⟩ ?ag ?bD
 case ag=>exact⟨bX _,by rw[dd (by rw[oU];exact bX _)];exact h,fun j y ad af=>by have:=(gS.1 af).1;omega⟩
 case bD=>
  rintro⟨k,fo,kX⟩ hinv;try simp only at hinv
  obtain⟨hk,ax,aL⟩:=hinv;refine rg ?_;refine al ?_;refine U V.bb ?_;refine U V.ay ?_;refine ft 6 (fun jD=>?_) fun jD=>?_
  ·obtain⟨x,ab⟩:∃x,l[k -1]?=some x:=⟨_,eE I⟩;obtain⟨_,_,bm,_,_,bW⟩:=ax.inv;obtain⟨a,off,cells,b3,aX,hy,az⟩:=bW I;injection bm with bm _ _
   subst bm;subst aX;have aE:nth cells (off+((k:Int) -1).toNat*1)=some (.int .u32 (x:Int)):=by
    rw[show((k:Int) -1).toNat*1=k -1 by omega,az (k -1) I,ji,bj I,La ab]
   refine bo V.ay ?_;refine bo V.ay ?_;refine bo V.h7 ?_;refine bo V.aY ?_;refine bo V.bh ?_;refine bo V.cg ?_;refine bo V.bb ?_;refine U V.bt ?_;refine aA ?_;refine If (fun gJ=>?_) fun gJ=>?_
   ·refine ao ?_;refine ae.skip ?_;refine ao ?_;refine ae.block ?_;refine rg ?_;refine al ?_;refine U V.aY ?_;refine' W.step rfl (.of (aaS rfl rfl rfl rfl (hb Q g0) ?az ?hk rfl rfl ?aO ?ad ?af fun aaK GD=>?_));case az=>assumption
    case hk=>exact bz
    case aO=>exact bz
    case ad=>exact bz
    case af=>exact bz
    refine U V.au ?_;refine a3 ?_;obtain⟨iN,fp,rfl,_⟩:=GD.inv;have Fq:((k:Int) -1 -0).toNat=k -1:=I
    have od:fP J 72 1 (.slice iN (k -1) fp) (k -1) ((b7 .u32 l).take (k -1)):=by
      rw[Fq] at GD;have Ny:(((b7 .u32 l).take k).drop ((0:Int).toNat*1)).take ((k -1)*1)=(b7 .u32 l).take (k -1):=by rw[show(0:Int).toNat*1=0 from rfl,hi,rX,gT,gn I]
      rw[<-Ny];exact GD
    rw[Fq];refine'⟨⟨k -1,iN,fp⟩,_,?hinv,?gi,rfl,⟨?dc,trivial⟩,bx _,rfl⟩;case dc=>first|exact bg|exact aa some (aa (Value.int .u64) I)|exact aa some (aa (Value.int .u32) I)|exact aa some (aa (Value.int .i64) I)
    case gi=>exact bz
    case hinv=>
     exact⟨I,od,fun j y ad af=>by
         by_cases q:k<=j
         ·exact aL j y q af
         ·obtain rfl:j=k -1:=I
          rw[ab] at af;injection af with af;omega⟩
   ·refine ao ?_;refine ae.exit ?_;refine rg ?_;refine al ?_;refine aA ?_;refine ae.ret ?_;refine'⟨.inr rfl,rfl,_,[],.tmp rfl .nil,br _,?_⟩;first
      |(have c:=gJ;exact⟨rfl,rfl,by
           show fP J 72 1 _ (ai (aN l)).length (b7 .u32 (ai (aN l)));rw[<-BE aj hk aL fun y ad af=>by rw[ab] at af;injection af with af;omega];rw[dY,gn hk];unfold b7;rw[zI];exact ax⟩)
      |exact⟨rfl,rfl,by
           show fP J 72 1 _ (ai (aN l)).length (b7 .u32 (ai (aN l)));rw[<-BE aj hk aL fun y ad af=>by omega];rw[dY,gn hk];unfold b7;rw[zI];exact ax⟩
  ·refine bs ?_;refine bs ?_;refine bs ?_;refine bs ?_;refine bs ?_;refine bs ?_;refine bs ?_;refine U V.bt ?_;refine aA ?_;refine ae.sb rfl ?_;refine ao ?_;refine ae.exit ?_;refine rg ?_;refine al ?_;refine aA ?_;refine ae.ret ?_;refine'⟨.inr rfl,rfl,_,[],.tmp rfl .nil,br _,?_⟩;first
    |exact⟨rfl,rfl,by
          show fP J 72 1 _ (ai (aN l)).length (b7 .u32 (ai (aN l)));rw[<-BE aj hk aL fun y ad af=>by omega];rw[dY,gn hk];unfold b7;rw[zI];exact ax⟩
end
theorem Hy:1<cQ:=by decide
theorem alT{x:Nat}:[x].length<=200000:=by rw[x9];decide
section
variable {Q:dD Tryz.prog}{g0:Nat}{J:an}
theorem Lj{v w:Value}{x y:Nat}(ad:cM J v x)(af:cM J w y)(aD:(ai x).length<=200000):Fn (a1 Q g0) 89 [v,w] [] J (fun u m' ah=>u=.int .i64 (jq x y)/\m'=[]/\J=ah):=by
 have ad:cR .u32 J v (ai x):=ad;have af:cR .u32 J w (ai y):=af;obtain⟨bQ,bH,rfl⟩:=ad.form;obtain⟨bL,bM,rfl⟩:=af.form;refine Fn.cr (cu Tryz.func89) rfl rfl fun H=>?_;refine rg ?_;refine U V.au ?_;refine a2 ?_;refine al ?_;refine U V.bb ?_;refine aA ?_;refine If (fun cl=>?_) fun cl=>?_
 ·refine rg ?_;refine al ?_;refine U V.bb ?_;refine aA ?_;refine If (fun eR=>?_) fun eR=>?_
  ·refine rg ?_;refine U V.au ?_;refine aA ?_;refine ae.ret ?_;refine'⟨.inr rfl,rfl,_,[],.tmp rfl .nil,br _,?_⟩;first
    |(have c:=eR;exact⟨by rw[pf (vx I)];rfl,rfl,rfl⟩)
    |(have c:=eR;exact⟨by rw[tn (vx I)];rfl,rfl,rfl⟩)
    |exact⟨by
      obtain rfl:k=0:=I
      rw[nW (show x=y by rw[<-e5 x,<-e5 y];exact aa aN aq)];rfl,rfl,rfl⟩
  ·refine ao ?_;refine ae.skip ?_;refine rg ?_;refine U V.au ?_;refine aA ?_;refine ae.ret ?_;refine'⟨.inr rfl,rfl,_,[],.tmp rfl .nil,br _,?_⟩;first
    |(have c:=eR;exact⟨by rw[pf (vx I)];rfl,rfl,rfl⟩)
    |(have c:=eR;exact⟨by rw[tn (vx I)];rfl,rfl,rfl⟩)
    |exact⟨by
      obtain rfl:k=0:=I
      rw[nW (show x=y by rw[<-e5 x,<-e5 y];exact aa aN aq)];rfl,rfl,rfl⟩
 ·refine ao ?_;refine ae.skip ?_;refine rg ?_;refine al ?_;refine U V.aY ?_;refine U V.au ?_;refine aA ?_;refine ae.block ?_;refine' ae.dO (l':=[(5,.int .i64 ((((ai x).length):Int) -1)),(0,_),(1,_)]) ⟨?gm,rfl,rfl,trivial⟩ (bx _) ?_;case gm=>first|exact bg|exact aa some (aa (Value.int .u64) I)|exact aa some (aa (Value.int .u32) I)|exact aa some (aa (Value.int .i64) I)
  refine ao ?_;refine' ae.lE (α:=(Nat)) (fun(k:Nat)=>[(5,.int .i64 ((k:Int) -1))]) (fun(k:Nat)=>k<=(ai x).length/\(ai x).drop k=(ai y).drop k) (fun(k:Nat)=>k) ((ai x).length) ?ag ?bD;case ag=>exact⟨bX _,by rw[tb I,tb I]⟩
  case bD=>
   rintro k hinv;try simp only at hinv
   obtain⟨hk,aq⟩:=hinv;refine rg ?_;refine U V.ay ?_;refine U V.bb ?_;refine aA ?_;refine If (fun iw=>?_) fun iw=>?_
   ·obtain⟨a,o,bN,e,rfl,hy,az⟩:=ad.at I;obtain⟨bV,o',yp,b3,rfl,wJ,qv⟩:=af.at I;obtain⟨p,ap,ha⟩:=az (k -1) I;obtain⟨q,bS,nz⟩:=qv (k -1) I;have ha:nth bN (o+((k:Int) -1).toNat*1)=some (.int .u32 (p:Int)):=by rw[show((k:Int) -1).toNat=k -1 by omega];exact ha
    have nz:nth yp (o'+((k:Int) -1).toNat*1)=some (.int .u32 (q:Int)):=by rw[show((k:Int) -1).toNat=k -1 by omega];exact nz
    refine dW ?_;refine ao ?_;refine ae.block ?_;refine ao ?_;refine ae.draw rfl (by kernel_rfl) (a':=[.val 0,.val 1,.val 2,.val 3,.val 4,.val 5,.val 6,.val 7,.val 8]) (by kernel_rfl) ?_;refine eg ?_;refine aT rfl V.bh ?_;refine aT rfl V.cg ?_;refine eg ?_;refine aT rfl V.bh ?_;refine aT rfl V.cg ?_;refine aT rfl V.bb ?_;refine bp.nil ?_;refine ao ?_;refine If (fun mZ=>?_) fun mZ=>?_
    ·refine rg ?_;refine U V.au ?_;refine aA ?_;refine ae.ret ?_;refine'⟨.inr rfl,rfl,_,[],.tmp rfl .nil,br _,?_⟩;first
       |(have c:=mZ;exact⟨by rw[pf (Dy ap bS (by rw[show k -1+1=k by omega];exact aq) I)];rfl,rfl,rfl⟩)
       |exact⟨by
         obtain rfl:k=0:=I
         rw[nW (show x=y by rw[<-e5 x,<-e5 y];exact aa aN aq)];rfl,rfl,rfl⟩
    ·refine ao ?_;refine ae.skip ?_;refine ao ?_;refine ae.draw rfl (by kernel_rfl) (a':=[.val 0,.val 1,.val 2,.val 3,.val 4,.val 5,.val 6,.val 7,.val 8]) (by kernel_rfl) ?_;refine eg ?_;refine aT rfl V.bh ?_;refine aT rfl V.cg ?_;refine eg ?_;refine aT rfl V.bh ?_;refine aT rfl V.cg ?_;refine aT rfl V.bb ?_;refine bp.nil ?_;refine ao ?_;refine If (fun yo=>?_) fun yo=>?_
     ·refine rg ?_;refine U V.au ?_;refine aA ?_;refine ae.ret ?_;refine'⟨.inr rfl,rfl,_,[],.tmp rfl .nil,br _,?_⟩;first
       |(have c:=mZ;exact⟨by rw[pf (Dy ap bS (by rw[show k -1+1=k by omega];exact aq) I)];rfl,rfl,rfl⟩)
       |(have c:=yo;exact⟨by rw[tn (Dy bS ap (by rw[show k -1+1=k by omega];exact aq.symm) I)];rfl,rfl,rfl⟩)
       |exact⟨by
         obtain rfl:k=0:=I
         rw[nW (show x=y by rw[<-e5 x,<-e5 y];exact aa aN aq)];rfl,rfl,rfl⟩
     ·refine ao ?_;refine ae.skip ?_;refine rg ?_;refine U V.ay ?_;refine U V.aY ?_;refine U V.au ?_;refine a3 ?_;refine'⟨(k -1),_,?hinv,?gi,rfl,⟨?j1,rfl,rfl,trivial⟩,bx _,rfl⟩;case j1=>first|exact bg|exact aa some (aa (Value.int .u64) I)|exact aa some (aa (Value.int .u32) I)|exact aa some (aa (Value.int .i64) I)
      case gi=>exact bz
      case hinv=>exact⟨I,by rw[drop_cons (i:=k -1) ap,drop_cons (i:=k -1) bS,show k -1+1=k by omega,aq];congr 1;omega⟩
   ·refine ao ?_;refine ae.exit ?_;refine rg ?_;refine U V.au ?_;refine aA ?_;refine ae.ret ?_;refine'⟨.inr rfl,rfl,_,[],.tmp rfl .nil,br _,?_⟩;first
     |exact⟨by
       obtain rfl:k=0:=I
       rw[nW (show x=y by rw[<-e5 x,<-e5 y];exact aa aN aq)];rfl,rfl,rfl⟩
theorem RK{x:Nat}(ab:x<1000000000):Fn (a1 Q g0) 121 [.int .u32 (x:Int)] [] J (pb J x):=by
 refine Fn.cr (cu Tryz.func121) rfl rfl fun H=>?_;refine rg ?_;refine U V.au ?_;refine a2 ?_;refine U V.ay ?_;refine ll (hb Q g0) fun dn=>?_;refine W.et rfl fun aK sj=>?_;refine bN (G:=HZ (l:=[x]) (.row sj rfl rfl (fun _=>⟨bX _,Hy⟩) (fun q=>absurd q (ED Hy))) (fun z aL=>by rw[zK.1 aL];exact ab) alT) (h:=?_);rintro v' m' ah hle ⟨rfl,rfl,bB⟩;rw[H9] at bB;refine U V.au ?_;refine aA ?_;refine ae.ret ?_;refine'⟨.inr rfl,rfl,_,[],.tmp rfl .nil,br _,⟨aK,rfl,bB⟩⟩
end
theorem aoK{x y i c:Nat}{out:List Nat}(aj:dS out)(h:aN out+1000000000 ^ i*c=aN ((ai x).take i)+aN ((ai y).take i))(ad:(ai x).length<=i)(af:(ai y).length<=i)(aJ:c=0)(aE:∀z,out.getLast?=some z->z≠0):out=ai (x+y):=by
 rw[aJ,jk,iI,D9 ad,D9 af,e5,e5] at h;rw[<-h];exact pg ⟨aj,aE⟩
theorem aoN{x y i c:Nat}{out:List Nat}(aD:out.length=i)(h:aN out+1000000000 ^ i*c=aN ((ai x).take i)+aN ((ai y).take i)){s:Nat}(ag:s=c+(ai x).getD i 0+(ai y).getD i 0):aN (out++[s % 1000000000])+1000000000 ^ (i+1)*(s / 1000000000)=aN ((ai x).take (i+1))+aN ((ai y).take (i+1)):=by
 rw[Ia,vQ,vQ,aD];have e:1000000000 ^ i*s=1000000000 ^ i*(s % 1000000000)+1000000000 ^ (i+1)*(s / 1000000000):=by
  conv=>lhs;rw[<-yb s 1000000000]
  rw[cS,fC,fi]
 have aW:1000000000 ^ i*s=1000000000 ^ i*c+1000000000 ^ i*(ai x).getD i 0+1000000000 ^ i*(ai y).getD i 0:=by rw[ag,cS,cS]
 omega
theorem aoL{x y i c s:Nat}(ag:s=c+(ai x).getD i 0+(ai y).getD i 0)(wW:i<(ai x).length\/i<(ai y).length\/0<c)(ad:(ai x).length<=i+1)(af:(ai y).length<=i+1)(aJ:s / 1000000000=0):s % 1000000000≠0:=by
 have hm:s % 1000000000=s:=nO I;rw[hm];have ab:∀z:Nat,i<(ai z).length->(ai z).length<=i+1->(ai z).getD i 0≠0:=fun z p q=>by
  have e:(ai z).length -1=i:=I
  refine Dx z _ ?_;rw[qU,e,g5,eE p];rfl
 rcases wW with q|q|q
 ·have:=ab x q ad;omega
 ·have:=ab y q af;omega
 ·omega
theorem akf:∀z:Nat,([]:List Nat).getLast?=some z->z≠0:=fun z aL=>(by cases aL)
theorem W.amU{K:ef}{B:dy}{m dc bZ:a8}{J:an}{ops rest:List Oper}{bF:Option (List PanicEntry)->cC->a8->an->Prop}{E:cC}{e:TypeId}{sz k:Nat}{v:Value}{cells:List Value}(h:Acc e sz v k cells bZ)(hm:m=bZ++dc)(hk:∀ah,J.le ah->fP ah e sz v k cells->W K B ops rest E dc ah bF):W K B ops rest E m J bF:=by
 subst hm;cases h with
 |nil=>exact hk J (an.le.refl _) .nil
 |js a=>exact hk J (an.le.refl _) (.js _ _ _ bC)
 |@opn a k cells rest z aD aL=>exact W.et rfl fun ad af=>hk _ ad (.row af (by rw[hi,dd I]) aD (fun q=>absurd rfl q) (fun _=>rfl))
 |@cap a k C cells full el ad af aV bq=>exact W.et rfl fun fL hv=>hk _ fL (.row hv af (by rw[<-af,dY,ad,gn (e0 _ aV)]) (fun _=>⟨aV,bq⟩) (fun q=>absurd q (ED bq)))
theorem gy.pO{K:ef}{B:dy}{m:a8}{J:an}{c7:Exit->cC->a8->an->Prop}{c:Code}{e:TypeId}{sz k:Nat}{v:Value}{cells:List Value}{bZ dc:a8}{E:cC}(h:gy e sz v k cells bZ)(hm:m.Perm (bZ++dc))(hk:∀ah,J.le ah->fP ah e sz v k cells->ae K B c E dc ah c7):ae K B c E m J c7:=by
 rcases h with⟨h,_,_⟩|⟨a,full,rest,rfl,rfl,aV,bq,fL⟩
 ·exact Acc.pO h hm hk
 ·refine ae.ub hm.symm ?_
  refine ae.h9 (x:=(full,e)) rfl fun hle=>?_;exact hk _ hle (.row (an.g7 _ _ _) (by rw[hi];exact bq) (by rw[<-bq,dY];omega) (fun q=>absurd rfl q) (fun _=>rfl))
theorem fP.num{J:an}{e:TypeId}{k:IntKind}{n:Nat}{v:Value}{l:List Nat}(h:fP J e 1 v n (b7 k l)):cR k J v l:=by
 obtain⟨b,c,_,ad,_⟩:=h.inv;rw[oU,gT] at ad;subst ad;exact⟨e,h⟩
section
variable {Q:dD Tryz.prog}{g0:Nat}{J:an}
theorem amJ{v w:Value}{x y:Nat}(ad:cM J v x)(af:cM J w y)(mD:(ai x).length<=200000)(n6:(ai y).length<=200000):Fn (a1 Q g0) 88 [v,w] [] J (pb J (x+y)):=by
 have ad:cR .u32 J v (ai x):=ad;have af:cR .u32 J w (ai y):=af;obtain⟨bQ,bH,rfl⟩:=ad.form;obtain⟨bL,bM,rfl⟩:=af.form;refine Fn.cr (cu Tryz.func88) rfl rfl fun H=>?_;refine rg ?_;refine U V.au ?_;refine a2 ?_;refine U V.au ?_;refine a2 ?_;refine U V.au ?_;refine a2 ?_;refine U V.au ?_;refine aA ?_;refine ae.block ?_;refine' ae.dO (l':=[(7,.int .i64 ((0):Int)),(6,.int .u32 ((0):Int)),(5,(.slice none 0 0)),(0,_),(1,_)]) ⟨?kk,?j4,?gm,rfl,rfl,trivial⟩ (bx _) ?_;case kk=>first|exact bg|exact aa some (aa (Value.int .u64) I)|exact aa some (aa (Value.int .u32) I)|exact aa some (aa (Value.int .i64) I)
 case j4=>first|exact bg|exact aa some (aa (Value.int .u64) I)|exact aa some (aa (Value.int .u32) I)|exact aa some (aa (Value.int .i64) I)
 case gm=>first|exact bg|exact aa some (aa (Value.int .u64) I)|exact aa some (aa (Value.int .u32) I)|exact aa some (aa (Value.int .i64) I)
 refine ao ?_;refine' ae.e2 (fun(a6:Nat×Nat×(List Nat)×Value×a8)=>match a6 with|(i,c,out,gm,bZ)=>⟨[(7,.int .i64 (i:Int)),(6,.int .u32 (c:Int)),(5,gm)],bZ,J,i<=200001/\out.length=i/\c<2/\dS out/\aN out+1000000000 ^ i*c=aN ((ai x).take i)+aN ((ai y).take i)/\(((ai x).length<=i/\(ai y).length<=i/\c=0)->∀z,out.getLast?=some z->z≠0)/\(i=200001->c=0)/\Acc 72 1 gm out.length (b7 .u32 out) bZ,200001 -i⟩) ⟨0,0,[],.slice none 0 0,[]⟩ ?ag ?bD
 case ag=>exact⟨ep _,rfl,by decide,Le,by rw[fh,fh];rfl,fun _=>akf,fun q=>absurd q bC,.nil⟩
 case bD=>
  rintro⟨i,c,out,gm,bZ⟩ hinv;try simp only at hinv
  obtain⟨ar,hz,aJ,cc,az,F9,arP,eW⟩:=hinv;refine eP [0,1,5,6,7] ?_;refine ao ?_;refine' ae.hf 0 [(21,.bool (decide ((i<(ai x).length\/i<(ai y).length\/0<c))))] ?z6 ?z';case z6=>
   refine ae.region ?_;refine al ?_;refine U V.bb ?_;refine U V.ay ?_;refine ft 12 (fun wG=>?_) fun wG=>?_
   ·refine bs ?_;refine bs ?_;refine bs ?_;refine bs ?_;refine U V.bt ?_;refine U V.ay ?_;refine bs ?_;refine bs ?_;refine U V.bt ?_;refine a3 ?_;refine'⟨⟨_,rfl,⟨?vB,rfl,rfl,rfl,rfl,rfl,trivial⟩⟩,bx _,rfl⟩;case vB=>first|exact fw rfl I|exact fu rfl I|exact fv rfl I|exact fE rfl I
   ·refine bo V.ay ?_;refine bo V.ay ?_;refine bo V.h7 ?_;refine bo V.bb ?_;refine U V.bt ?_;refine U V.ay ?_;refine ft 18 (fun agz=>?_) fun agz=>?_
    ·refine bs ?_;refine bs ?_;refine U V.bt ?_;refine a3 ?_;refine'⟨⟨_,rfl,⟨?vB,rfl,rfl,rfl,rfl,rfl,trivial⟩⟩,bx _,rfl⟩;case vB=>first|exact fw rfl I|exact fu rfl I|exact fv rfl I|exact fE rfl I
    ·refine bo V.ay ?_;refine bo V.bb ?_;refine U V.bt ?_;refine a3 ?_;refine'⟨⟨_,rfl,⟨?vB,rfl,rfl,rfl,rfl,rfl,trivial⟩⟩,bx _,rfl⟩;case vB=>first|exact fw rfl I|exact fu rfl I|exact fv rfl I|exact fE rfl I
  case z'=>
   refine ao ?_;refine If (fun mX=>?_) fun mX=>?_
   ·obtain⟨s,ag⟩:∃s,s=c+(ai x).getD i 0+(ai y).getD i 0:=⟨_,rfl⟩;have aX:=tu (hB x) i;have aU:=tu (hB y) i;refine dW ?_;refine ao ?_;refine ae.block ?_;refine rg ?_;refine al ?_;refine U V.bb ?_;refine a3 ?_;refine eP [6,27,0,1,5,7] ?_;refine ao ?_;refine' ae.hf 2 [(6,.int .u32 ((c+(ai x).getD i 0:Nat):Int))] ?adC ?aeL;case adC=>
     refine If (fun hD=>?_) fun hD=>?_
     ·obtain⟨a,o,bN,e,rfl,hy,l4⟩:=ad.at I;obtain⟨p,ap,ha⟩:=l4 i I;have b0:=ig ap;refine rg ?_;refine al ?_;refine U V.bh ?_;refine U V.cg ?_;refine U V.aY ?_;refine U V.au ?_;refine a3 ?_;refine'⟨⟨_,rfl,⟨?gk,rfl,rfl,rfl,rfl,trivial⟩⟩,bx _,rfl⟩;case gk=>first|exact aa some (aa (Value.int .u32) (by rw[ig ap];omega))|exact aa some (aa (Value.int .u32) (by rw[lX (l:=ai x) I];omega))
     ·refine ao ?_;refine ae.skip ?_;refine'⟨⟨_,rfl,⟨?gk,rfl,rfl,rfl,rfl,trivial⟩⟩,bx _,rfl⟩;case gk=>first|exact aa some (aa (Value.int .u32) (by rw[ig ap];omega))|exact aa some (aa (Value.int .u32) (by rw[lX (l:=ai x) I];omega))
    case aeL=>
     refine rg ?_;refine al ?_;refine U V.bb ?_;refine a3 ?_;refine eP [6,37,0,1,5,7] ?_;refine ao ?_;refine' ae.hf 2 [(6,.int .u32 (s:Int))] ?Nb ?Nu;case Nb=>
      refine If (fun z2=>?_) fun z2=>?_
      ·obtain⟨a,o,bN,e,rfl,hy,l4⟩:=af.at I;obtain⟨p,ap,ha⟩:=l4 i I;have b0:=ig ap;refine rg ?_;refine al ?_;refine U V.bh ?_;refine U V.cg ?_;refine U V.aY ?_;refine U V.au ?_;refine a3 ?_;refine'⟨⟨_,rfl,⟨?gk,rfl,rfl,rfl,rfl,trivial⟩⟩,bx _,rfl⟩;case gk=>first|exact aa some (aa (Value.int .u32) (by rw[ag,ig ap];omega))|exact aa some (aa (Value.int .u32) (by rw[ag,lX (l:=ai y) I];omega))
      ·refine ao ?_;refine ae.skip ?_;refine'⟨⟨_,rfl,⟨?gk,rfl,rfl,rfl,rfl,trivial⟩⟩,bx _,rfl⟩;case gk=>first|exact aa some (aa (Value.int .u32) (by rw[ag,ig ap];omega))|exact aa some (aa (Value.int .u32) (by rw[ag,lX (l:=ai y) I];omega))
     case Nu=>
      refine rg ?_;refine al ?_;refine U V.hn ?_;rw[show((s:Int).tmod 1000000000)=((s % 1000000000:Nat):Int) from(Iz s 1000000000).symm];refine ll (hb Q g0) fun arc=>?_;refine' W.step rfl (.of (qM rfl rfl rfl rfl rfl rfl (hb Q g0) (sZ Q g0) (fun i q=>by cases q) ?eW ?hm ?ab ?ei ?eh ?aD fun Sg QJ ahD asS=>?_));case eW=>exact eW
      case hm=>exact(zL _ bZ).symm
      case ab=>exact zf
      case ei=>first|rfl|(simp;done)|(simp;omega)
      case eh=>first|rfl|exact A0 _
      case aD=>exact(show out.length+1<=1000000 by omega)
      refine U V.au ?_;refine a2 ?_;refine U V.ay ?_;refine U V.hn ?_;refine U V.au ?_;refine a3 ?_;rw[show((s:Int).tdiv 1000000000)=((s / 1000000000:Nat):Int) from(B1 s 1000000000).symm,show IntKind.u32.wrap ((s / 1000000000:Nat):Int)=((s / 1000000000:Nat):Int) from wrap_u32 I I];have OD:Acc 72 1 Sg (out++[s % 1000000000]).length (b7 .u32 (out++[s % 1000000000])) QJ:=by
       rw[y4,eS];exact ahD
      have bD:i+1<=200001/\(out++[s % 1000000000]).length=i+1/\s / 1000000000<2/\dS (out++[s % 1000000000])/\aN (out++[s % 1000000000])+1000000000 ^ (i+1)*(s / 1000000000)=aN ((ai x).take (i+1))+aN ((ai y).take (i+1))/\(((ai x).length<=i+1/\(ai y).length<=i+1/\s / 1000000000=0)->∀z,(out++[s % 1000000000]).getLast?=some z->z≠0)/\(i+1=200001->s / 1000000000=0)/\Acc 72 1 Sg (out++[s % 1000000000]).length (b7 .u32 (out++[s % 1000000000])) QJ:=by
       refine⟨I,by rw[eS,hz];rfl,I,Bh cc fun z aL=>by rw[zK.1 aL];exact fJ _ bC,aoN hz az ag,fun⟨a7,a0,bJ⟩ z aL=>?_,fun q=>?_,OD⟩
       ·rw[II,Mf] at aL
        injection aL with aL
        rw[<-aL];exact aoL ag mX a7 a0 bJ
       ·have a7:=lX (l:=ai x) (i:=i) I
        have a0:=lX (l:=ai y) (i:=i) I;omega
      refine rg ?_;refine U V.ay ?_;refine U V.aY ?_;refine U V.au ?_;refine a3 ?_;refine fl ⟨i+1,s / 1000000000,out++[s % 1000000000],Sg,QJ⟩ ?_ (hm:=zM _ _);exact bD
   ·refine Acc.pO eW (.of_eq (iU bZ).symm) fun bK aK ax=>?_;have e:=aoK (x:=x) (y:=y) cc az I I I (F9 ⟨I,I,I⟩);rw[e] at ax;refine ao ?_;refine ae.exit ?_;refine rg ?_;refine al ?_;refine aA ?_;refine ae.ret ?_;refine'⟨.inr rfl,rfl,_,[],.tmp rfl .nil,br _,⟨aK,rfl,ax⟩⟩
end
end
end Go.Opn

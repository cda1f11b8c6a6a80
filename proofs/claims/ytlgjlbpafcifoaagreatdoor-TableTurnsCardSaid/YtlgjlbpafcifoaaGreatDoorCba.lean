/- A part of the proof of TableTurns. -/
import Derived.Test.YtlgjlbpafcifoaaGreatDoorCaz
set_option maxRecDepth 100000
set_option maxHeartbeats 8000000
set_option linter.unusedVariables false
set_option linter.unusedSimpArgs false
namespace Go.Opn
noncomputable section
open Go.Cre Go.RowKit Go.Proofs
theorem tdiv_cases(T:Int):T.tdiv 1000000000*1000000000+T.tmod 1000000000=T/\(0<=T->0<=T.tmod 1000000000/\T.tmod 1000000000<1000000000)/\(T<=0->T.tmod 1000000000<=0/\-1000000000<T.tmod 1000000000):=by
 refine⟨by have:=Int.tdiv_mul_add_tmod T 1000000000;omega,fun h=>?_,fun h=>?_⟩
 ·rw[abl h];omega
 ·have ab:T.tmod 1000000000=-((-T) % 1000000000):=by
   have:=Int.neg_tmod (-T) 1000000000;rw[LU] at this;rw[this,abl (show 0<=-T by omega)]
  rw[ab];omega
section
variable {Q:cZ Tryz.prog}{g0:Nat}{J:af}
theorem XQ{v w:Value}{A B P:Nat}{x y:Int}(U:cD J v A)(au:cD J w B)(hb:(ag A).length<=100000)(Fe:(ag B).length<=(ag A).length)(en:-1000000000<x)(fR:x<1000000000)(jh:-1000000000<y)(kD:y<1000000000)(cw:x*A+y*B=(P:Int))(as2:P<=A):Fn (aT Q g0) 142 [v,w,.int .i64 x,.int .i64 y] [] J (sU J P):=by
 have di:=U;have eN:=au;obtain⟨bs,bp,rfl,aK⟩:=U.bQ;obtain⟨bM,bN,rfl,aH⟩:=au.bQ;refine Fn.b8 (b7 Tryz.func142) rfl rfl fun H=>?_;refine aa 0xa1ce059 ?_;refine' W.step rfl (.of (pG rfl rfl rfl rfl rfl (eB rfl) ?aN ?ab ?ad fun qH=>?_));case aN=>exact cC
 case ab=>exact cC
 case ad=>exact cC
 refine aa 0x302 ?_;rw[show((ag A).length:Int).toNat=(ag A).length by omega,zero_num];refine aa 0x357c04a1ce059 ?_;refine c8 [(18,.int .i64 ((0):Int)),(10,.int .i64 (0)),(0,_),(1,_),(2,_),(3,_),(9,_),(17,_)] ?_;refine a' ?_;refine' aB.bA (fun(bE:Nat×Int×(List Nat))=>match bE with|(i,c,z)=>⟨[(18,.int .i64 (i:Int)),(10,.int .i64 c)],[et .u32 96 qH z],J,i<=(ag A).length/\-3000000000<=c/\c<=3000000000/\z.length=(ag A).length/\dG z/\(aI (z.take i):Int)+((1000000000 ^ i:Nat):Int)*c=x*(aI ((ag A).take i):Int)+y*(aI ((ag B).take i):Int),(ag A).length -i⟩) ⟨0,0,List.replicate (ag A).length 0⟩ ?hs ?bb
 case hs=>exact⟨df _,by decide,by decide,mA,Dr,by rw[fq,fq,fq];show((0:Nat):Int)+_*0=x*((0:Nat):Int)+y*((0:Nat):Int);omega⟩
 case bb=>
  rintro⟨i,c,z⟩ hinv;try simp only at hinv
  obtain⟨ak,yn,gQ,aG,bu,ar⟩:=hinv;refine aa 0xbe099 ?_;refine If (fun m4=>?_) fun m4=>?_
  ·obtain⟨sZ,er,nL,ex,rfl,th,kx⟩:=di.at (oE I);obtain⟨a,aF,X2,jt⟩:=kx i I;obtain⟨Ei,Fp⟩:∃Ei,Ei=x*(a:Int):=⟨_,rfl⟩;have as8:Ei<=1000000000*1000000000:=by
    have ab:=LO (show x<=1000000000 by omega) (nz a);omega
   have Vk:-(1000000000*1000000000)<=Ei:=by
    have ab:=LO (show -1000000000<=x by omega) (nz a);omega
   have po:=td (hx B) i;obtain⟨BR,Cw⟩:∃BR,BR=y*(((ag B).getD i 0:Nat):Int):=⟨_,rfl⟩;have as':BR<=1000000000*1000000000:=by
    have ab:=LO (show y<=1000000000 by omega) (nz ((ag B).getD i 0));omega
   have ata:-(1000000000*1000000000)<=BR:=by
    have ab:=LO (show -1000000000<=y by omega) (nz ((ag B).getD i 0));omega
   obtain⟨T,b1⟩:∃T,T=Ei+c+BR:=⟨_,rfl⟩;obtain⟨Fz,JH,CA⟩:=tdiv_cases T;obtain⟨BQ,Vi⟩:∃BQ,BQ=T.tdiv 1000000000:=⟨_,rfl⟩;rw[<-Vi] at Fz;refine aa 0x30428439c08611b92608439c0839d5f57 ?_;refine dN [12,33,0,1,2,3,9,11,17,18] ?_;refine a' ?_;refine' aB.fD 2 [(12,.int .i64 T)] ?adQ ?ae1;case adQ=>
    refine If (fun EC=>?_) fun EC=>?_
    ·obtain⟨BS,hp,s5,nR,rfl,Ct,n4⟩:=eN.at (oE I);obtain⟨p,ao,yM,bA⟩:=n4 i I;have atb:y*(p:Int)=BR:=by rw[Cw,hP ao]
     refine aa 0xc0863724c108439 ?_;refine'⟨⟨_,rfl,⟨?GP,rfl,rfl,rfl,rfl,rfl,rfl,rfl,rfl,trivial⟩⟩,ih _,rfl⟩;case GP=>first|exact b6 some (b6 (Value.int .i64) (by rw[b1,Cw,hP ao,Fp]))|exact b6 some (b6 (Value.int .i64) (by rw[b1,Cw,lm (l:=ag B) I,Fp];omega))
    ·refine jg ?_;refine'⟨⟨_,rfl,⟨?GP,rfl,rfl,rfl,rfl,rfl,rfl,rfl,rfl,trivial⟩⟩,ih _,rfl⟩;case GP=>first|exact b6 some (b6 (Value.int .i64) (by rw[b1,Cw,hP ao,Fp]))|exact b6 some (b6 (Value.int .i64) (by rw[b1,Cw,lm (l:=ag B) I,Fp];omega))
   case ae1=>
    refine aa 0x1813c39 ?_;rw[show IntKind.i64.wrap (T.tdiv 1000000000)=BQ from by rw[<-Vi];exact wrap_i64 I I];refine aa 0x318439 ?_;rw[show T -BQ*1000000000=T.tmod 1000000000 by omega];refine aa 0x3040e702 ?_;refine dN [10,12,50,0,1,2,3,9,11,17,18] ?_;refine a' ?_;refine' aB.lk 3 (fun(bE:(Nat)×(Int))=>match bE with|(d9,eI)=>⟨[(12,.int .i64 (d9:Int)),(10,.int .i64 eI)],[et .u32 96 qH z],J,d9<1000000000/\(d9:Int)+1000000000*eI=T/\-3000000000<=eI/\eI<=3000000000⟩) ?adV ?ae6
    case adV=>
     refine If (fun adj=>?_) fun adj=>?_
     ·refine aa 0x3021873810c39 ?_;refine fW ⟨(T.tmod 1000000000+1000000000).toNat,BQ -1⟩ ?_;exact⟨I,I,I,I⟩
     ·refine jg ?_;refine fW ⟨(T.tmod 1000000000).toNat,BQ⟩ ?_;exact⟨I,I,I,I⟩
    case ae6=>
     rintro⟨d9,eI⟩ hinv;try simp only at hinv
     obtain⟨ahd,ahe,ahb,ahc⟩:=hinv;refine aa 0xce08439 ?_;refine' iK ?hs ?_;case hs=>exact k3 i I
     refine aa 0x1808f38 ?_;refine eH ⟨i+1,eI,z.set i d9⟩ ?_;exact⟨I,ahb,ahc,by rw[g6];exact aG,yP bu ahd,alA I (hP aF) rfl ar (by rw[ahe,b1,Cw,Fp])⟩
  ·obtain rfl:i=(ag A).length:=I
   rw[<-aG,cM (bF _),aG,cM (l:=ag A) (bF _),cM (l:=ag B) Fe,e1,e1,cw] at ar;have mF:aI z=P:=by
    have ab:=lB bu;rw[aG] at ab;have ad:=n6 (x:=A) (bF _);generalize atA:1000000000 ^ (ag A).length=vm at*;rcases Int.lt_trichotomy c 0 with k|k|k
    ·have:=vC (show c<=-1 by omega) (nz vm)
     rw[H6,LP] at this;omega
    ·rw[k,SD] at ar;omega
    ·have:=vC (show 1<=c by omega) (nz vm)
     omega
   refine aa 0xe757 ?_;refine' W.step rfl (Exec.call rfl rfl rfl rfl rfl rfl rfl (bl:=[et .u32 96 qH z]) (c2:=[]) (.refl _) trivial (Ko (l:=z) bu I (bF _) I) ?_);rintro v' m' ae hle ⟨k,rfl,hk,gl,rfl,rfl⟩;refine aa 0x302 ?_;refine aB.hy rfl fun aM=>?_;refine aa 0x357 ?_;refine bo ?_;exact⟨aM,rfl,cD.row (by rw[gl,<-aG,cM (bF _),mF]) I hk (jD I) (af.gC _ _ _)⟩
theorem ak6{v w:Value}{x y:Nat}{e:TypeId}(b1:J 2=some (bW .u8 ms,e))(ax:Nat.blt 2 (aT Q g0).g0=true)(U:cD J v x)(au:cD J w y)(hb:(ag x).length<=100000)(jb:(ag y).length<=100000):Fn (aT Q g0) 106 [v,w] [] J (sU J (Nat.gcd x y)):=by
 have di:=U;have eN:=au;obtain⟨bs,bp,rfl,aK⟩:=U.bQ;obtain⟨bM,bN,rfl,aH⟩:=au.bQ;refine Fn.b8 (b7 Tryz.func106) rfl rfl fun H=>?_;refine aa 0x6059 ?_;refine dN [0,1] ?_;refine a' ?_;refine' aB.fD 0 [(20,.bool (decide (((ag x).length<=2/\(ag y).length<=2))))] ?kM ?kP;case kM=>
  refine aa 0x12143a ?_;refine fs 16 (fun iU=>?_) fun iU=>?_
  ·refine aa 0x18410a1 ?_;refine dO (dS ?_);first|omega|(simp_all;done)|(simp_all;omega)
  ·refine aa 0x1846f7b ?_;refine dO (dS ?_);first|omega|(simp_all;done)|(simp_all;omega)
 case kP=>
  refine a' ?_;refine If (fun hM=>?_) fun hM=>?_
  ·have Sb:=n6 hM.1;have arC:=n6 hM.2;have iW:Nat.gcd x y<1000000000000000000:=by
    rcases il x with k|k
    ·rw[k,L9];omega
    ·exact nC (It k (kG _ _)) I
   refine aa 0x39 ?_;refine br (G:=zd di hM.1) (h:=?_);rintro v' m' ae hle ⟨rfl,rfl,rfl⟩;refine eT V.k2 ?_;refine br (G:=zd eN hM.2) (h:=?_);rintro v' m' ae hle ⟨rfl,rfl,rfl⟩;refine br (G:=IN b1 ax I I) (h:=?_);rintro v' m' ae hle ⟨rfl,rfl,rfl⟩;refine br (G:=AB iW) (h:=?_);rintro v' m' bi hle ⟨aM,rfl,hw⟩;obtain⟨cB,cN,rfl,bJ⟩:=hw.bQ;refine aa 0xd5f02 ?_;refine bo ?_;first
    |exact⟨aM,rfl,hw⟩
  ·refine jg ?_;refine dN [0,1] ?_;refine a' ?_;refine' aB.fD 0 [(32,.bool (decide ((x=1\/y=1))))] ?aek ?afd;case aek=>
    refine aa 0x3a ?_;refine br (G:=Qh di hb) (h:=?_);rintro v' m' ae hle ⟨rfl,rfl,rfl⟩;refine eT V.k2 ?_;refine fs 29 (fun agT=>?_) fun agT=>?_
    ·refine aa 0xc23fb ?_;refine dO (dS ?_);first|omega|(simp_all)
    ·refine Iw V.k2 ?_;refine vV (G:=Qh eN jb) (h:=?_);rintro v' m' ae hle ⟨rfl,rfl,rfl⟩;refine aa 0x308 ?_;refine dO (dS ?_);first|omega|(simp_all)
   case afd=>
    refine a' ?_;refine If (fun vU=>?_) fun vU=>?_
    ·refine rg ?_;refine br (G:=Xs) (h:=?_);rintro v' m' bi hle ⟨aM,rfl,hw⟩;obtain⟨cB,cN,rfl,bJ⟩:=hw.bQ;refine aa 0xd5f02 ?_;refine bo ?_;first
        |(have c:=vU
          exact⟨aM,rfl,by
           have e:Nat.gcd x y=1:=by
            rcases vU with rfl|rfl
            ·exact Ea _
            ·exact Eb _
           rw[e];exact hw⟩)
        |exact⟨aM,rfl,hw⟩
    ·refine aa 0x10e757 ?_;refine br (G:=W5 di eN hb jb) (h:=?_);rintro v' m' ae hle ⟨rfl,rfl,rfl⟩;refine aa 0x304 ?_;refine dN [0,1,37] ?_;refine a' ?_;refine' aB.lk 3 (fun(bE:(Value)×(Value)×(Nat)×(Nat))=>match bE with|(hI,j4,a,b)=>⟨[(0,hI),(1,j4)],[],J,cD J hI a/\cD J j4 b/\b<=a/\(ag a).length<=100000/\Nat.gcd a b=Nat.gcd x y⟩) ?MX ?Nj
     case MX=>
      refine If (fun zF=>?_) fun zF=>?_
      ·
        refine aa 0x30210439 ?_;refine fW ⟨.slice bM (ag y).length bN,.slice bs (ag x).length bp,y,x⟩ ?_;exact⟨eN,di,by have:=rP.1 zF;omega,jb,oj _ _⟩
      ·
        refine jg ?_;refine fW ⟨.slice bs (ag x).length bp,.slice bM (ag y).length bN,x,y⟩ ?_;exact⟨di,eN,qF fun h=>zF (rP.2 h),hb,rfl⟩
     case Nj=>
      rintro⟨hI,j4,a,b⟩ hinv;try simp only at hinv
      obtain⟨ez,eh,nU,jt,cg⟩:=hinv;refine aa 0x357 ?_;refine c8 [(0,(hI)),(1,(j4))] ?_;refine a' ?_;refine' aB.bA (fun(bE:Value×Value×Nat×Nat×af)=>match bE with|(hI,j4,a,b,cb)=>⟨[(0,hI),(1,j4)],[],cb,J.le cb/\cD cb hI a/\cD cb j4 b/\b<=a/\(ag a).length<=100000/\Nat.gcd a b=Nat.gcd x y,b⟩) ⟨hI,j4,a,b,J⟩ ?hs ?bb
      case hs=>exact⟨af.le.refl _,ez,eh,nU,jt,cg⟩
      case bb=>
        rintro⟨hI,j4,a,b,cb⟩ hinv;try simp only at hinv
        obtain⟨bS,ez,eh,nU,jt,cg⟩:=hinv;have gq:=ez;have g1:=eh;obtain⟨fw,gz,rfl,fP⟩:=ez.bQ;obtain⟨fi,eu,rfl,je⟩:=eh.bQ;have po:=dA (w2 nU) jt;refine aa 0x2f821439 ?_;refine If (fun EE=>?_) fun EE=>?_
        ·obtain⟨m,hm⟩:∃m,(ag a).length=m+3:=⟨(ag a).length -3,by have:=w2 nU;omega⟩;have Fv:0<b:=uk (oE I);refine jg ?_;refine dN [0,1] ?_;refine a' ?_;refine' aB.lk 2 (fun(bE:(Value)×(Value)×(Nat)×(Nat)×(af))=>match bE with|(xD,xE,bO,b',gY)=>⟨[(0,xD),(1,xE)],[],gY,cb.le gY/\cD gY xD bO/\cD gY xE b'/\b'<bO/\bO<=a/\b'<b/\Nat.gcd bO b'=Nat.gcd a b⟩) ?ad' ?ae'
         case ad'=>
          refine aa 0x873a ?_;refine br (G:=akV gq g1 hm I nU) (h:=?_);rintro v' m' bi hle ⟨aM,rfl,X,Y,rfl,wz,Fm⟩;refine aa 0xe7 ?_;refine br (G:=apM wz Fm) (h:=?_);rintro v' m' ae hle ⟨⟨w,au1,au3,z,rfl,wB,dn⟩,rfl,rfl⟩;refine aa 0x5f040e7021084739ce1 ?_;refine If (fun adk=>?_) fun adk=>?_
          ·refine aa 0x439 ?_;refine br (G:=Xa (gq.mono aM) (g1.mono aM) jt po I) (h:=?_);rintro v' m' de a9 ⟨_,rfl,DQ,wr,rfl,qa,pj⟩;refine aa 0x357c08410e70211ce1 ?_;refine fW ⟨.slice fi (ag b).length eu,wr,b,a % b,de⟩ ?_;exact⟨aM.trans a9,(g1.mono aM).mono a9,pj,fz _ Fv,nU,fz _ Fv,by rw[oj,<-zq,oj]⟩
          ·obtain⟨P,R,n1,h2,wR,r7,ajx⟩:=dn I;refine aa 0x4210e757 ?_;refine br (G:=XQ (gq.mono aM) (g1.mono aM) jt (w2 nU) I I I I n1 I) (h:=?_);rintro v' m' de hle ⟨a9,rfl,Gd⟩;obtain⟨tZ,rfl⟩:∃tZ,tZ=v':=⟨_,rfl⟩;refine aa 0x8421 ?_;refine br (G:=XQ ((gq.mono aM).mono a9) ((g1.mono aM).mono a9) jt (w2 nU) I I I I h2 I) (h:=?_);rintro v' m' fe hle ⟨cq,rfl,u3⟩;obtain⟨wf,rfl⟩:∃wf,wf=v':=⟨_,rfl⟩;refine aa 0x6042 ?_;refine fW ⟨tZ,wf,P,R,fe⟩ ?_;exact⟨(aM.trans a9).trans cq,Gd.mono cq,u3,wR,dA r7 nU,hA wR r7,ajx⟩
         case ae'=>
          rintro⟨xD,xE,bO,b',gY⟩ hinv;try simp only at hinv
          obtain⟨mb,gP,cK,b9,hle,aiU,N6⟩:=hinv;have hlen:=dA (w2 hle) jt;refine eH ⟨xD,xE,bO,b',gY⟩ ?_;exact⟨bS.trans mb,gP,cK,rH b9,hlen,N6.trans cg⟩
        ·refine aa 0xbe0850e757 ?_;refine If (fun EG=>?_) fun EG=>?_
         ·have fZ:b=0:=iF fun q=>tG q I;rw[fZ,zr] at cg;refine aa 0x39 ?_;refine br (G:=W7 gq jt) (h:=?_);rintro v' m' bi hle ⟨aM,rfl,hw⟩;obtain⟨cB,cN,rfl,bJ⟩:=hw.bQ;refine aa 0xd5f02 ?_;refine bo ?_;first
           |(have c:=EG
             first
              |exact⟨bS.trans aM,rfl,by rw[<-cg];exact hw⟩
              |exact⟨(bS.trans aM).trans a9,rfl,by rw[<-Ad];exact hw⟩)
           |(have c:=vU
             exact⟨aM,rfl,by
              have e:Nat.gcd x y=1:=by
               rcases vU with rfl|rfl
               ·exact Ea _
               ·exact Eb _
              rw[e];exact hw⟩)
           |exact⟨aM,rfl,hw⟩
         ·have fZ:b≠0:=oE I;have hY:=n6 (x:=b) (k:=2) I;have wL:a % b<b:=fz _ (uk fZ);have iW:Nat.gcd b (a % b)<1000000000000000000:=nC (It (uk fZ) (kG _ _)) I;have Ad:Nat.gcd b (a % b)=Nat.gcd x y:=by rw[<-cg,oj b,oj a,zq b a]
          refine aa 0x10e757 ?_;refine br (G:=Xa gq g1 jt po fZ) (h:=?_);rintro v' m' bi aM ⟨_,rfl,DQ,wr,rfl,qa,pj⟩;refine aa 0xe70211ce1 ?_;refine br (G:=zd (g1.mono aM) I) (h:=?_);rintro v' m' ae hle ⟨rfl,rfl,rfl⟩;refine eT V.k2 ?_;refine br (G:=zd pj (by have:=w2 (rH wL);omega)) (h:=?_);rintro v' m' ae hle ⟨rfl,rfl,rfl⟩;refine br (G:=IN (aM _ _ (bS _ _ b1)) ax I I) (h:=?_);rintro v' m' ae hle ⟨rfl,rfl,rfl⟩;refine br (G:=AB iW) (h:=?_);rintro v' m' de hle ⟨a9,rfl,hw⟩;obtain⟨cB,cN,rfl,bJ⟩:=hw.bQ;refine aa 0xd5f02 ?_;refine bo ?_;first
           |(have c:=EG
             first
                 |exact⟨bS.trans aM,rfl,by rw[<-cg];exact hw⟩
                 |exact⟨(bS.trans aM).trans a9,rfl,by rw[<-Ad];exact hw⟩)
           |(have c:=vU
             exact⟨aM,rfl,by
              have e:Nat.gcd x y=1:=by
               rcases vU with rfl|rfl
               ·exact Ea _
               ·exact Eb _
              rw[e];exact hw⟩)
           |exact⟨aM,rfl,hw⟩
theorem W6{v w:Value}{x y:Nat}{e:TypeId}(b1:J 2=some (bW .u8 ms,e))(ax:Nat.blt 2 (aT Q g0).g0=true)(U:cD J v x)(au:cD J w y)(hb:(ag x).length<=100000)(jb:(ag y).length<=100000):Fn (aT Q g0) 112 [v,w] [] J (fun u m' ae=>u=.bool (decide (Nat.gcd x y=1))/\m'=[]/\J.le ae):=by
 have di:=U;have eN:=au;obtain⟨bs,bp,rfl,aK⟩:=U.bQ;obtain⟨bM,bN,rfl,aH⟩:=au.bQ;refine Fn.b8 (b7 Tryz.func112) rfl rfl fun H=>?_;refine aa 0x6059 ?_;refine dN [0,1] ?_;refine a' ?_;refine' aB.fD 0 [(12,.bool (decide (((ag x).length<=2/\(ag y).length<=2))))] ?kM ?kP;case kM=>
  refine aa 0x12143a ?_;refine fs 8 (fun iU=>?_) fun iU=>?_
  ·refine aa 0x18410a1 ?_;refine dO (dS ?_);first|omega|(simp_all;done)|(simp_all;omega)
  ·refine aa 0x1846f7b ?_;refine dO (dS ?_);first|omega|(simp_all;done)|(simp_all;omega)
 case kP=>
  refine a' ?_;refine If (fun j9=>?_) fun j9=>?_
  ·have Sb:=n6 j9.1;have arC:=n6 j9.2;refine aa 0x39 ?_;refine br (G:=zd di j9.1) (h:=?_);rintro v' m' ae hle ⟨rfl,rfl,rfl⟩;refine eT V.k2 ?_;refine br (G:=zd eN j9.2) (h:=?_);rintro v' m' ae hle ⟨rfl,rfl,rfl⟩;refine br (G:=IN b1 ax I I) (h:=?_);rintro v' m' ae hle ⟨rfl,rfl,rfl⟩;refine aa 0x1abe044 ?_;refine bo ?_;first
    |exact⟨rfl,rfl,aM⟩
    |exact⟨b6 Value.bool (lJ.2 I),rfl,af.le.refl _⟩
  ·refine aa 0x10e757 ?_;refine br (G:=ak6 b1 ax di eN hb jb) (h:=?_);rintro v' m' bi hle ⟨aM,rfl,hw⟩;have n2:=hw;obtain⟨cB,cN,rfl,bJ⟩:=hw.bQ;refine br (G:=Qh n2 (by
    rcases il x with k|k
    ·rw[k,L9];exact jb
    ·exact dA (w2 (It k (kG _ _))) hb)) (h:=?_)
   rintro v' m' ae hle ⟨rfl,rfl,rfl⟩;refine aa 0xd5f02 ?_;refine bo ?_;first
    |exact⟨rfl,rfl,aM⟩
    |exact⟨b6 Value.bool (lJ.2 I),rfl,af.le.refl _⟩
end
def zo(J:af)(v:Value)(x:Nat):Prop:=fg J 96 1 v (ag x).length (bW .u32 (ag x))
theorem zo.fG{J:af}{v:Value}{x:Nat}(h:zo J v x):cD J v x:=⟨_,h⟩
theorem zo.mono{J ae:af}(hle:J.le ae){v:Value}{x:Nat}(h:zo J v x):zo ae v x:=fg.mono hle h
abbrev pP(J:af)(x:Nat):Value->aO->af->Prop:=fun u m' ae=>J.le ae/\m'=[]/\zo ae u x
section
variable {Q:cZ Tryz.prog}{g0:Nat}{J:af}
theorem Hy{v:Value}{l:List Nat}(h:fg J 96 1 v l.length (bW .u32 l))(ah:dG l)(ap:l.length<=200000):Fn (aT Q g0) 133 [v] [] J (fun u m' ae=>m'=[]/\J=ae/\zo J u (aI l)):=by
 obtain⟨b,c,rfl,_⟩:=h.inv;refine Fn.b8 (b7 Tryz.func133) rfl rfl fun H=>?_;refine aa 0x1abe059 ?_;refine c8 [(0,.slice (b) (l.length) (c))] ?_;refine a' ?_;refine' aB.ja (fun(bE:Nat×(Option Addr)×Nat)=>match bE with|(k,fj,ll)=>⟨[(0,.slice fj k ll)],k<=l.length/\fg J 96 1 (.slice fj k ll) k ((bW .u32 l).take k)/\∀j y,k<=j->l[j]?=some y->y=0,k⟩) ⟨l.length,b,c⟩ ?hs ?bb
 case hs=>exact⟨bF _,by rw[cM (by rw[qj];exact bF _)];exact h,fun j y ab ad=>by have:=(gS.1 ad).1;omega⟩
 case bb=>
  rintro⟨k,fj,ll⟩ hinv;try simp only at hinv
  obtain⟨hk,aj,aG⟩:=hinv;refine aa 0x121439 ?_;refine fs 6 (fun iU=>?_) fun iU=>?_
  ·obtain⟨x,U⟩:∃x,l[k -1]?=some x:=⟨_,dX I⟩;obtain⟨_,_,bt,_,_,cv⟩:=aj.inv;obtain⟨a,off,cells,bC,aK,gD,ar⟩:=cv I;injection bt with bt _ _
   subst bt;subst aK;have az:nth cells (off+((k:Int) -1).toNat*1)=some (.int .u32 (x:Int)):=by
    rw[show((k:Int) -1).toNat*1=k -1 by omega,ar (k -1) I,iH,a2 I,KL U]
   refine aa 0x2f84112619421 ?_;refine If (fun dZ=>?_) fun dZ=>?_
   ·refine aa 0x328439d5f57 ?_;refine' W.step rfl (.of (ary rfl rfl rfl rfl (eB rfl) ?ar ?hk rfl rfl ?aN ?ab ?ad fun auT Gc=>?_));case ar=>assumption
    case hk=>exact cC
    case aN=>exact cC
    case ab=>exact cC
    case ad=>exact cC
    refine aa 0x302 ?_;obtain⟨gy,eI,rfl,_⟩:=Gc.inv;have Uo:((k:Int) -1 -0).toNat=k -1:=I
    have sa:fg J 96 1 (.slice gy (k -1) eI) (k -1) ((bW .u32 l).take (k -1)):=by
      rw[Uo] at Gc;have afq:(((bW .u32 l).take k).drop ((0:Int).toNat*1)).take ((k -1)*1)=(bW .u32 l).take (k -1):=by rw[show(0:Int).toNat*1=0 from rfl,g5,sP,gJ,fV I]
      rw[<-afq];exact Gc
    rw[Uo];refine jf ⟨k -1,gy,eI⟩ ?_;exact⟨I,sa,fun j y ab ad=>by
       by_cases q:k<=j
       ·exact aG j y q ad
       ·obtain rfl:j=k -1:=I
        rw[U] at ad;injection ad with ad;omega⟩
   ·refine aa 0xd5f020e757 ?_;refine bo ?_;first
      |(have c:=dZ;exact⟨rfl,rfl,by
           show fg J 96 1 _ (ag (aI l)).length (bW .u32 (ag (aI l)));rw[<-Bb ah hk aG fun y ab ad=>by rw[U] at ad;injection ad with ad;omega];rw[dY,fV hk];unfold bW;rw[BJ];exact aj⟩)
      |exact⟨rfl,rfl,by
           show fg J 96 1 _ (ag (aI l)).length (bW .u32 (ag (aI l)));rw[<-Bb ah hk aG fun y ab ad=>by omega];rw[dY,fV hk];unfold bW;rw[BJ];exact aj⟩
  ·refine aa 0x6af81073abeaf846f7bdef7b ?_;refine bo ?_;first
    |exact⟨rfl,rfl,by
          show fg J 96 1 _ (ag (aI l)).length (bW .u32 (ag (aI l)));rw[<-Bb ah hk aG fun y ab ad=>by omega];rw[dY,fV hk];unfold bW;rw[BJ];exact aj⟩
end
theorem G7:1<cG:=by decide
theorem amC{x:Nat}:[x].length<=200000:=by rw[zl];decide
section
variable {Q:cZ Tryz.prog}{g0:Nat}{J:af}
theorem KW{v w:Value}{x y:Nat}(ab:cD J v x)(ad:cD J w y)(ap:(ag x).length<=200000):Fn (aT Q g0) 99 [v,w] [] J (fun u m' ae=>u=.int .i64 (iN x y)/\m'=[]/\J=ae):=by
 have ab:cJ .u32 J v (ag x):=ab;have ad:cJ .u32 J w (ag y):=ad;obtain⟨bs,bp,rfl⟩:=ab.form;obtain⟨bM,bN,rfl⟩:=ad.form;refine Fn.b8 (b7 Tryz.func99) rfl rfl fun H=>?_;refine aa 0x5f04284a1ce059 ?_;refine If (fun b2=>?_) fun b2=>?_
 ·refine aa 0xbe08509439 ?_;refine If (fun dR=>?_) fun dR=>?_
  ·refine aa 0x1abe059 ?_;refine bo ?_;first
    |(have c:=dR;exact⟨by rw[o4 (va I)];rfl,rfl,rfl⟩)
    |(have c:=dR;exact⟨by rw[s6 (va I)];rfl,rfl,rfl⟩)
    |exact⟨by
      obtain rfl:k=0:=I
      rw[nM (show x=y by rw[<-e1 x,<-e1 y];exact b6 aI al)];rfl,rfl,rfl⟩
  ·refine aa 0x6af816757 ?_;refine bo ?_;first
    |(have c:=dR;exact⟨by rw[o4 (va I)];rfl,rfl,rfl⟩)
    |(have c:=dR;exact⟨by rw[s6 (va I)];rfl,rfl,rfl⟩)
    |exact⟨by
      obtain rfl:k=0:=I
      rw[nM (show x=y by rw[<-e1 x,<-e1 y];exact b6 aI al)];rfl,rfl,rfl⟩
 ·refine aa 0x357c08650e757 ?_;refine c8 [(5,.int .i64 ((((ag x).length):Int) -1)),(0,_),(1,_)] ?_;refine a' ?_;refine' aB.ja (fun(k:Nat)=>⟨[(5,.int .i64 ((k:Int) -1))],k<=(ag x).length/\(ag x).drop k=(ag y).drop k,k⟩) ((ag x).length) ?hs ?bb;case hs=>exact⟨bF _,by rw[sL I,sL I]⟩
  case bb=>
   rintro k hinv;try simp only at hinv
   obtain⟨hk,al⟩:=hinv;refine aa 0x17c1039 ?_;refine If (fun hM=>?_) fun hM=>?_
   ·obtain⟨a,o,br,e,rfl,gD,ar⟩:=ab.at I;obtain⟨bO,o',x4,bC,rfl,yi,p'⟩:=ad.at I;obtain⟨p,ao,ha⟩:=ar (k -1) I;obtain⟨q,bI,pc⟩:=p' (k -1) I;have ha:nth br (o+((k:Int) -1).toNat*1)=some (.int .u32 (p:Int)):=by rw[show((k:Int) -1).toNat=k -1 by omega];exact ha
    have pc:nth x4 (o'+((k:Int) -1).toNat*1)=some (.int .u32 (q:Int)):=by rw[show((k:Int) -1).toNat=k -1 by omega];exact pc
    refine aa 0x17d5f57 ?_;refine aB.draw rfl (by kernel_rfl) (aX:=[.val 0,.val 1,.val 2,.val 3,.val 4,.val 5,.val 6,.val 7,.val 8]) (by kernel_rfl) ?_;refine aa 0x5f044982149821 ?_;refine If (fun mC=>?_) fun mC=>?_
    ·refine aa 0x1abe059 ?_;refine bo ?_;first
       |(have c:=mC;exact⟨by rw[o4 (Dd ao bI (by rw[show k -1+1=k by omega];exact al) I)];rfl,rfl,rfl⟩)
       |exact⟨by
         obtain rfl:k=0:=I
         rw[nM (show x=y by rw[<-e1 x,<-e1 y];exact b6 aI al)];rfl,rfl,rfl⟩
    ·refine aa 0x5f57 ?_;refine aB.draw rfl (by kernel_rfl) (aX:=[.val 0,.val 1,.val 2,.val 3,.val 4,.val 5,.val 6,.val 7,.val 8]) (by kernel_rfl) ?_;refine aa 0x5f044982149821 ?_;refine If (fun s4=>?_) fun s4=>?_
     ·refine aa 0x1abe059 ?_;refine bo ?_;first
       |(have c:=mC;exact⟨by rw[o4 (Dd ao bI (by rw[show k -1+1=k by omega];exact al) I)];rfl,rfl,rfl⟩)
       |(have c:=s4;exact⟨by rw[s6 (Dd bI ao (by rw[show k -1+1=k by omega];exact al.symm) I)];rfl,rfl,rfl⟩)
       |exact⟨by
         obtain rfl:k=0:=I
         rw[nM (show x=y by rw[<-e1 x,<-e1 y];exact b6 aI al)];rfl,rfl,rfl⟩
     ·refine aa 0x60430e757 ?_;refine jf (k -1) ?_;exact⟨I,by rw[drop_cons (i:=k -1) ao,drop_cons (i:=k -1) bI,show k -1+1=k by omega,al];congr 1;omega⟩
   ·refine aa 0x6af816757 ?_;refine bo ?_;first
     |exact⟨by
       obtain rfl:k=0:=I
       rw[nM (show x=y by rw[<-e1 x,<-e1 y];exact b6 aI al)];rfl,rfl,rfl⟩
theorem RA{x:Nat}(U:x<1000000000):Fn (aT Q g0) 134 [.int .u32 (x:Int)] [] J (pP J x):=by
 refine Fn.b8 (b7 Tryz.func134) rfl rfl fun H=>?_;refine aa 0x1ce059 ?_;refine lj fun c9=>?_;refine W.ed rfl fun aM rX=>?_;refine br (G:=Hy (l:=[x]) (.row rX rfl rfl (fun _=>⟨bF _,G7⟩) (fun q=>absurd q (Ed G7))) (fun z aG=>by rw[zn.1 aG];exact U) amC) (h:=?_);rintro v' m' ae hle ⟨rfl,rfl,a4⟩;rw[Ls] at a4;refine aa 0xd5f02 ?_;refine bo ?_;exact⟨aM,rfl,a4⟩
end
theorem apP{x y i c:Nat}{out:List Nat}(ah:dG out)(h:aI out+1000000000 ^ i*c=aI ((ag x).take i)+aI ((ag y).take i))(ab:(ag x).length<=i)(ad:(ag y).length<=i)(aD:c=0)(az:∀z,out.getLast?=some z->z≠0):out=ag (x+y):=by
 rw[aD,jk,ik,DN ab,DN ad,e1,e1] at h;rw[<-h];exact qP ⟨ah,az⟩
theorem apS{x y i c:Nat}{out:List Nat}(ap:out.length=i)(h:aI out+1000000000 ^ i*c=aI ((ag x).take i)+aI ((ag y).take i)){s:Nat}(hs:s=c+(ag x).getD i 0+(ag y).getD i 0):aI (out++[s % 1000000000])+1000000000 ^ (i+1)*(s / 1000000000)=aI ((ag x).take (i+1))+aI ((ag y).take (i+1)):=by
 rw[HF,vu,vu,ap];have e:1000000000 ^ i*s=1000000000 ^ i*(s % 1000000000)+1000000000 ^ (i+1)*(s / 1000000000):=by
  conv=>lhs;rw[<-xS s 1000000000]
  rw[cH,ff,e4]
 have aR:1000000000 ^ i*s=1000000000 ^ i*c+1000000000 ^ i*(ag x).getD i 0+1000000000 ^ i*(ag y).getD i 0:=by rw[hs,cH,cH]
 omega
theorem apQ{x y i c s:Nat}(hs:s=c+(ag x).getD i 0+(ag y).getD i 0)(wG:i<(ag x).length\/i<(ag y).length\/0<c)(ab:(ag x).length<=i+1)(ad:(ag y).length<=i+1)(aD:s / 1000000000=0):s % 1000000000≠0:=by
 have hm:s % 1000000000=s:=nD I;rw[hm];have U:∀z:Nat,i<(ag z).length->(ag z).length<=i+1->(ag z).getD i 0≠0:=fun z p q=>by
  have e:(ag z).length -1=i:=I
  refine Dc z _ ?_;rw[sM,e,gI,dX p];rfl
 rcases wG with q|q|q
 ·have:=U x q ab;omega
 ·have:=U y q ad;omega
 ·omega
theorem akO:∀z:Nat,([]:List Nat).getLast?=some z->z≠0:=fun z aG=>(by cases aG)
theorem W.anI{K:dy}{B:c5}{m fH a8:aO}{J:af}{ops rest:List Oper}{ba:Option (List PanicEntry)->b0->aO->af->Prop}{E:b0}{e:TypeId}{sz k:Nat}{v:Value}{cells:List Value}(h:Acc e sz v k cells a8)(hm:m=a8++fH)(hk:∀ae,J.le ae->fg ae e sz v k cells->W K B ops rest E fH ae ba):W K B ops rest E m J ba:=by
 subst hm;cases h with
 |nil=>exact hk J (af.le.refl _) .nil
 |jF a=>exact hk J (af.le.refl _) (.jF _ _ _ bm)
 |@opn a k cells rest z ap aG=>exact W.ed rfl fun ab ad=>hk _ ab (.row ad (by rw[g5,cM I]) ap (fun q=>absurd rfl q) (fun _=>rfl))
 |@cap a k C cells full el ab ad aL a6=>exact W.ed rfl fun fb fX=>hk _ fb (.row fX ad (by rw[<-ad,dY,ab,fV (eK _ aL)]) (fun _=>⟨aL,a6⟩) (fun q=>absurd q (Ed a6)))
theorem eW.mo{K:dy}{B:c5}{m:aO}{J:af}{cd:Exit->b0->aO->af->Prop}{c:Code}{e:TypeId}{sz k:Nat}{v:Value}{cells:List Value}{a8 fH:aO}{E:b0}(h:eW e sz v k cells a8)(hm:m.Perm (a8++fH))(hk:∀ae,J.le ae->fg ae e sz v k cells->aB K B c E fH ae cd):aB K B c E m J cd:=by
 rcases h with⟨h,_,_⟩|⟨a,full,rest,rfl,rfl,aL,a6,fb⟩
 ·exact Acc.mo h hm hk
 ·refine aB.mN hm.symm ?_
  refine aB.hy (x:=(full,e)) rfl fun hle=>?_;exact hk _ hle (.row (af.gC _ _ _) (by rw[g5];exact a6) (by rw[<-a6,dY];omega) (fun q=>absurd rfl q) (fun _=>rfl))
theorem fg.num{J:af}{e:TypeId}{k:IntKind}{n:Nat}{v:Value}{l:List Nat}(h:fg J e 1 v n (bW k l)):cJ k J v l:=by
 obtain⟨b,c,_,ab,_⟩:=h.inv;rw[qj,gJ] at ab;subst ab;exact⟨e,h⟩
section
variable {Q:cZ Tryz.prog}{g0:Nat}{J:af}
theorem anu{v w:Value}{x y:Nat}(ab:cD J v x)(ad:cD J w y)(mf:(ag x).length<=200000)(ni:(ag y).length<=200000):Fn (aT Q g0) 101 [v,w] [] J (pP J (x+y)):=by
 have ab:cJ .u32 J v (ag x):=ab;have ad:cJ .u32 J w (ag y):=ad;obtain⟨bs,bp,rfl⟩:=ab.form;obtain⟨bM,bN,rfl⟩:=ad.form;refine Fn.b8 (b7 Tryz.func101) rfl rfl fun H=>?_;refine aa 0x357c0b3816702ce059 ?_;refine c8 [(7,.int .i64 ((0):Int)),(6,.int .u32 ((0):Int)),(5,(.slice none 0 0)),(0,_),(1,_)] ?_;refine a' ?_;refine' aB.bA (fun(bE:Nat×Nat×(List Nat)×Value×aO)=>match bE with|(i,c,out,lD,a8)=>⟨[(7,.int .i64 (i:Int)),(6,.int .u32 (c:Int)),(5,lD)],a8,J,i<=200001/\out.length=i/\c<2/\dG out/\aI out+1000000000 ^ i*c=aI ((ag x).take i)+aI ((ag y).take i)/\(((ag x).length<=i/\(ag y).length<=i/\c=0)->∀z,out.getLast?=some z->z≠0)/\(i=200001->c=0)/\Acc 96 1 lD out.length (bW .u32 out) a8,200001 -i⟩) ⟨0,0,[],.slice none 0 0,[]⟩ ?hs ?bb
 case hs=>exact⟨df _,rfl,by decide,KQ,by rw[fq,fq];rfl,fun _=>akO,fun q=>absurd q bm,.nil⟩
 case bb=>
  rintro⟨i,c,out,lD,a8⟩ hinv;try simp only at hinv
  obtain⟨ak,g',aD,bu,ar,aiP,asN,ev⟩:=hinv;refine dN [0,1,5,6,7] ?_;refine a' ?_;refine' aB.fD 0 [(21,.bool (decide ((i<(ag x).length\/i<(ag y).length\/0<c))))] ?zJ ?zP;case zJ=>
   refine aa 0x242843a ?_;refine fs 12 (fun wi=>?_) fun wi=>?_
   ·refine aa 0x308dec28def7b ?_;refine dO (dS ?_);omega
   ·refine aa 0x2821421 ?_;refine fs 18 (fun agV=>?_) fun agV=>?_
    ·refine aa 0xc237b ?_;refine dO (dS ?_);omega
    ·refine aa 0xc2081 ?_;refine dO (dS ?_);omega
  case zP=>
   refine a' ?_;refine If (fun j'=>?_) fun j'=>?_
   ·obtain⟨s,hs⟩:∃s,s=c+(ag x).getD i 0+(ag y).getD i 0:=⟨_,rfl⟩;have aK:=td (hx x) i;have aH:=td (hx y) i;refine aa 0x30428439d5f57 ?_;refine dN [6,27,0,1,5,7] ?_;refine a' ?_;refine' aB.fD 2 [(6,.int .u32 ((c+(ag x).getD i 0:Nat):Int))] ?adP ?ae0;case adP=>
     refine If (fun gK=>?_) fun gK=>?_
     ·obtain⟨a,o,br,e,rfl,gD,lu⟩:=ab.at I;obtain⟨p,ao,ha⟩:=lu i I;have bJ:=hP ao;refine aa 0x1810d2608439 ?_;refine'⟨⟨_,rfl,⟨?gm,rfl,rfl,rfl,rfl,trivial⟩⟩,ih _,rfl⟩;case gm=>first|exact b6 some (b6 (Value.int .u32) (by rw[hP ao];omega))|exact b6 some (b6 (Value.int .u32) (by rw[lm (l:=ag x) I];omega))
     ·refine jg ?_;refine'⟨⟨_,rfl,⟨?gm,rfl,rfl,rfl,rfl,trivial⟩⟩,ih _,rfl⟩;case gm=>first|exact b6 some (b6 (Value.int .u32) (by rw[hP ao];omega))|exact b6 some (b6 (Value.int .u32) (by rw[lm (l:=ag x) I];omega))
    case ae0=>
     refine aa 0x30428439 ?_;refine dN [6,37,0,1,5,7] ?_;refine a' ?_;refine' aB.fD 2 [(6,.int .u32 (s:Int))] ?MX ?Nj;case MX=>
      refine If (fun zF=>?_) fun zF=>?_
      ·obtain⟨a,o,br,e,rfl,gD,lu⟩:=ad.at I;obtain⟨p,ao,ha⟩:=lu i I;have bJ:=hP ao;refine aa 0x1810d2608439 ?_;refine'⟨⟨_,rfl,⟨?gm,rfl,rfl,rfl,rfl,trivial⟩⟩,ih _,rfl⟩;case gm=>first|exact b6 some (b6 (Value.int .u32) (by rw[hs,hP ao];omega))|exact b6 some (b6 (Value.int .u32) (by rw[hs,lm (l:=ag y) I];omega))
      ·refine jg ?_;refine'⟨⟨_,rfl,⟨?gm,rfl,rfl,rfl,rfl,trivial⟩⟩,ih _,rfl⟩;case gm=>first|exact b6 some (b6 (Value.int .u32) (by rw[hs,hP ao];omega))|exact b6 some (b6 (Value.int .u32) (by rw[hs,lm (l:=ag y) I];omega))
     case Nj=>
      refine aa 0x78439 ?_;rw[show((s:Int).tmod 1000000000)=((s % 1000000000:Nat):Int) from(H7 s 1000000000).symm];refine lj fun asb=>?_;refine' W.step rfl (.of (t' rfl rfl rfl rfl rfl rfl (eB rfl) (vr Q g0) (fun i q=>by cases q) ?ev ?hm ?U ?dE ?dQ ?ap fun R3 Qu ah3 atL=>?_));case ev=>exact ev
      case hm=>exact(vH _ a8).symm
      case U=>exact pB
      case dE=>first|rfl|(simp;done)|(simp;omega)
      case dQ=>first|rfl|exact qg _
      case ap=>exact(show out.length+1<=1000000 by omega)
      refine aa 0x604f0e702 ?_;rw[show((s:Int).tdiv 1000000000)=((s / 1000000000:Nat):Int) from(xO s 1000000000).symm,show IntKind.u32.wrap ((s / 1000000000:Nat):Int)=((s / 1000000000:Nat):Int) from wrap_u32 I I];have Ok:Acc 96 1 R3 (out++[s % 1000000000]).length (bW .u32 (out++[s % 1000000000])) Qu:=by
       rw[AO,eY];exact ah3
      have bb:i+1<=200001/\(out++[s % 1000000000]).length=i+1/\s / 1000000000<2/\dG (out++[s % 1000000000])/\aI (out++[s % 1000000000])+1000000000 ^ (i+1)*(s / 1000000000)=aI ((ag x).take (i+1))+aI ((ag y).take (i+1))/\(((ag x).length<=i+1/\(ag y).length<=i+1/\s / 1000000000=0)->∀z,(out++[s % 1000000000]).getLast?=some z->z≠0)/\(i+1=200001->s / 1000000000=0)/\Acc 96 1 R3 (out++[s % 1000000000]).length (bW .u32 (out++[s % 1000000000])) Qu:=by
       refine⟨I,by rw[eY,g'];rfl,I,Dq bu fun z aG=>by rw[zn.1 aG];exact fz _ bm,apS g' ar hs,fun⟨aU,aQ,bj⟩ z aG=>?_,fun q=>?_,Ok⟩
       ·rw[SQ,SR] at aG
        injection aG with aG
        rw[<-aG];exact apQ hs j' aU aQ bj
       ·have aU:=lm (l:=ag x) (i:=i) I
        have aQ:=lm (l:=ag y) (i:=i) I;omega
      refine aa 0x1810c39 ?_;refine eH ⟨i+1,s / 1000000000,out++[s % 1000000000],R3,Qu⟩ ?_ (hm:=lf _ _);exact bb
   ·refine Acc.mo ev (.of_eq (ij a8).symm) fun bi aM aj=>?_;have e:=apP (x:=x) (y:=y) bu ar I I I (aiP ⟨I,I,I⟩);rw[e] at aj;refine aa 0xd5f020e757 ?_;refine bo ?_;exact⟨aM,rfl,aj⟩
end
theorem aeK{x y i b b' d:Nat}{out:List Nat}(ap:out.length=i)(h:aI ((ag x).take i)+1000000000 ^ i*b=aI out+aI ((ag y).take i))(al:d+b+(ag y).getD i 0=(ag x).getD i 0+1000000000*b'):aI ((ag x).take (i+1))+1000000000 ^ (i+1)*b'=aI (out++[d])+aI ((ag y).take (i+1)):=by
 rw[HF,vu,vu,ap];have e:1000000000 ^ i*d+1000000000 ^ i*b+1000000000 ^ i*(ag y).getD i 0=1000000000 ^ i*(ag x).getD i 0+1000000000 ^ (i+1)*b':=by
  rw[ff,e4,<-cH,<-cH,<-cH,al]
 omega
theorem aeJ{x y b:Nat}{out:List Nat}(ew:y<=x)(bu:dG out)(ap:out.length=(ag x).length)(h:aI ((ag x).take (ag x).length)+1000000000 ^ (ag x).length*b=aI out+aI ((ag y).take (ag x).length))(ai:b<2):aI out=x -y:=by
 have hlen:(ag y).length<=(ag x).length:=by
  rcases hL (ag x).length (ag y).length with q|q
  ·have:=n6 (x:=x) (bF _)
   have ab:=aaI (hx x) (zI y) q;rw[e1,e1] at ab;omega
  ·exact q
 rw[DN (bF _),DN hlen,e1,e1] at h;have ad:=lB bu;rw[ap] at ad;rcases(show b=0\/b=1 by omega) with rfl|rfl
 ·rw[jk] at h;omega
 ·rw[gJ] at h;omega
section
variable {Q:cZ Tryz.prog}{g0:Nat}{J:af}
theorem aqg{v:Value}{l:List Nat}{a8:aO}(h:eW 96 1 v l.length (bW .u32 l) a8)(ah:dG l)(ap:l.length<=200000):Fn (aT Q g0) 133 [v] a8 J (fun u m' ae=>m'=a8/\J=ae/\eW 96 1 u (ag (aI l)).length (bW .u32 (ag (aI l))) a8):=by
 have aiC:∃b c,v=.slice b l.length c:=by
  rcases h.form with⟨b,aK,aH,_⟩|⟨a,full,rest,aK,_⟩
  ·exact⟨_,_,by rw[aH];exact aK⟩
  ·exact⟨_,_,aK⟩
 obtain⟨b,c,rfl⟩:=aiC;have kV:=h.row;refine Fn.b8 (b7 Tryz.func133) rfl rfl fun H=>?_;refine aa 0x1abe059 ?_;refine c8 [(0,.slice b (l.length) c)] ?_;refine a' ?_;refine' aB.ja (fun(k:Nat)=>⟨[(0,.slice b k c)],k<=l.length/\∀j y,k<=j->l[j]?=some y->y=0,k⟩) (l.length) ?hs ?bb;case hs=>exact⟨bF _,fun j y ab ad=>by have:=(gS.1 ad).1;omega⟩
 case bb=>
  rintro k hinv;try simp only at hinv
  obtain⟨hk,aG⟩:=hinv;refine aa 0x121439 ?_;refine fs 6 (fun iU=>?_) fun iU=>?_
  ·obtain⟨x,U⟩:∃x,l[k -1]?=some x:=⟨_,dX I⟩;obtain⟨a,full,rest,bt,rfl,jI,CD⟩:=kV I;injection bt with bt _ eO
   subst bt;subst eO;have az:nth full (0+((k:Int) -1).toNat*1)=some (.int .u32 (x:Int)):=by
    rw[QN jI I];exact qk U I
   refine aa 0x2f84114619421 ?_;refine If (fun dZ=>?_) fun dZ=>?_
   ·refine aa 0x328439d5f57 ?_;refine' W.step rfl (Exec.val rfl rfl (aqX rfl rfl rfl (eB rfl) ?hm ?aN ?ab) ?_);case hm=>repeat first|exact .head _|refine .tail _ ?_|refine iI _ ?_
    case aN=>exact cC
    case ab=>exact cC
    refine aa 0x302 ?_;rw[show((k:Int) -1).toNat=k -1 by omega];refine jf (k -1) ?_;exact⟨I,fun j y ab ad=>by
     by_cases q:k<=j
     ·exact aG j y q ad
     ·obtain rfl:j=k -1:=I
      rw[U] at ad;injection ad with ad;omega⟩
   ·refine aa 0xd5f020e757 ?_;refine oi ?_;first
      |(have c:=dZ;exact⟨rfl,rfl,by
           rw[<-Bb ah hk aG fun y ab ad=>by rw[U] at ad;injection ad with ad;omega];rw[dY,fV hk];obtain⟨_,_,_,bt,cv,nT⟩:=h.cut hk I;injection bt with bt
           injection bt with bt
           injection bt with bt
           subst bt;have e:(bW IntKind.u32 l).take (k*1)=bW .u32 (l.take k):=by rw[gJ];unfold bW;rw[BJ]
           rw[<-e];exact nT⟩)
      |exact⟨rfl,rfl,by
           have wH:k=0:=I
           subst wH;rw[<-Bb ah hk aG fun y ab ad=>by omega];rw[fq];rcases il l.length with q|q
           ·have e:l=[]:=kn q
            subst e;exact h
           ·obtain⟨a,full,rest,bt,cv,nT⟩:=h.cut hk q
            injection bt with bt _ eO
            subst bt;subst eO;exact nT⟩
  ·refine aa 0x6af81073abeaf846f7bdef7b ?_;refine oi ?_;first
    |exact⟨rfl,rfl,by
          have wH:k=0:=I
          subst wH;rw[<-Bb ah hk aG fun y ab ad=>by omega];rw[fq];rcases il l.length with q|q
          ·have e:l=[]:=kn q
           subst e;exact h
          ·obtain⟨a,full,rest,bt,cv,nT⟩:=h.cut hk q
           injection bt with bt _ eO
           subst bt;subst eO;exact nT⟩
theorem XM{v w:Value}{x y:Nat}(ab:cD J v x)(ad:cD J w y)(ew:y<=x)(ap:(ag x).length<=200000)(ni:(ag y).length<=200000):Fn (aT Q g0) 102 [v,w] [] J (fun u m' ae=>J=ae/\eW 96 1 u (ag (x -y)).length (bW .u32 (ag (x -y))) m'):=by
 have ab:cJ .u32 J v (ag x):=ab;have ad:cJ .u32 J w (ag y):=ad;obtain⟨bs,bp,rfl⟩:=ab.form;obtain⟨bM,bN,rfl⟩:=ad.form;refine Fn.b8 (b7 Tryz.func102) rfl rfl fun H=>?_;refine aa 0x357c0b3816702ce059 ?_;refine c8 [(7,.int .i64 ((0):Int)),(6,.int .i64 ((0):Int)),(5,(.slice none 0 0)),(0,_),(1,_)] ?_;refine a' ?_;refine' aB.bA (fun(bE:Nat×Nat×(List Nat)×Value×aO)=>match bE with|(i,b,out,lD,a8)=>⟨[(7,.int .i64 (i:Int)),(6,.int .i64 (b:Int)),(5,lD)],a8,J,i<=(ag x).length/\out.length=i/\b<2/\dG out/\aI ((ag x).take i)+1000000000 ^ i*b=aI out+aI ((ag y).take i)/\eW 96 1 lD out.length (bW .u32 out) a8,(ag x).length -i⟩) ⟨0,0,[],.slice none 0 0,[]⟩ ?hs ?bb
 case hs=>exact⟨df _,rfl,by decide,KQ,by rw[fq,fq];rfl,.inl ⟨.nil,rz,rl⟩⟩
 case bb=>
  rintro⟨i,b,out,lD,a8⟩ hinv;try simp only at hinv
  obtain⟨ak,g',aD,bu,ar,ev⟩:=hinv;refine aa 0x5f0428439 ?_;refine If (fun j9=>?_) fun j9=>?_
  ·obtain⟨a,o,br,e,rfl,gD,lu⟩:=ab.at I;obtain⟨p,ao,ha⟩:=lu i I;have aK:=hP ao;have aH:=td (hx y) i;have bJ:=pv (hx x) ao;obtain⟨b',d,wB,JB,al⟩:∃b' d:Nat,d+b+(ag y).getD i 0=p+1000000000*b'/\b'<2/\d<1000000000:=by
    by_cases q:p<b+(ag y).getD i 0
    ·exact⟨1,p+1000000000 -b -(ag y).getD i 0,I,by decide,I⟩
    ·exact⟨0,p -b -(ag y).getD i 0,I,by decide,I⟩
   refine aa 0xc10a10e702185c930439d5f57 ?_;refine dN [8,25,0,1,5,7] ?_;refine a' ?_;refine' aB.fD 2 [(8,.int .i64 ((p:Int) -b -((ag y).getD i 0:Nat)))] ?adO ?aeZ;case adO=>
    refine If (fun qN=>?_) fun qN=>?_
    ·obtain⟨bO,o',x4,bC,rfl,yi,PI⟩:=ad.at I;obtain⟨hG,Am,atw⟩:=PI i I;have dU:=hP Am;have fP:=pv (hx y) Am;refine aa 0x3021b92608439 ?_;refine'⟨⟨_,rfl,⟨?oF,rfl,rfl,rfl,rfl,trivial⟩⟩,ih _,rfl⟩;case oF=>first|exact b6 some (b6 (Value.int .i64) (by have q:=hP Am;omega))|exact b6 some (b6 (Value.int .i64) (by have q:=lm (l:=ag y) (i:=i) I;omega))
    ·refine jg ?_;refine'⟨⟨_,rfl,⟨?oF,rfl,rfl,rfl,rfl,trivial⟩⟩,ih _,rfl⟩;case oF=>first|exact b6 some (b6 (Value.int .i64) (by have q:=hP Am;omega))|exact b6 some (b6 (Value.int .i64) (by have q:=lm (l:=ag y) (i:=i) I;omega))
   case aeZ=>
    refine aa 0x6081ce059 ?_;refine dN [6,8,34,0,1,5,7] ?_;refine a' ?_;refine' aB.fD 3 [(6,.int .i64 (b':Int)),(8,.int .i64 (d:Int))] ?adR ?ae2;case adR=>
     refine If (fun zE=>?_) fun zE=>?_
     ·refine aa 0x30210c39 ?_;refine'⟨⟨_,rfl,⟨?gm,?oF,rfl,rfl,rfl,rfl,trivial⟩⟩,ih _,rfl⟩;case gm=>exact b6 some (b6 (Value.int .i64) I)
      case oF=>exact b6 some (b6 (Value.int .i64) I)
     ·refine jg ?_;refine'⟨⟨_,rfl,⟨?gm,?oF,rfl,rfl,rfl,rfl,trivial⟩⟩,ih _,rfl⟩;case gm=>exact b6 some (b6 (Value.int .i64) I)
      case oF=>exact b6 some (b6 (Value.int .i64) I)
    case ae2=>
     refine aa 0x70439 ?_;refine lj fun ar9=>?_;refine' W.step rfl (.of (ua rfl rfl rfl rfl rfl rfl (eB rfl) (vr Q g0) (fun i q=>by cases q) ?ev ?hm ?U ?dE ?dQ ?aY ?ap fun R2 Qt ah0=>?_));case ev=>exact ev
     case hm=>exact(vH _ a8).symm
     case U=>exact pB
     case dE=>first|rfl|(simp;done)|(simp;omega)
     case dQ=>first|rfl|exact qg _
     case aY=>exact Nat.one_pos
     case ap=>exact(show out.length+1<=1000000 by omega)
     refine aa 0x302 ?_;have Ok:eW 96 1 R2 (out++[d]).length (bW .u32 (out++[d])) Qt:=by
        rw[AO,eY];exact ah0
     have bb:i+1<=(ag x).length/\(out++[d]).length=i+1/\b'<2/\dG (out++[d])/\aI ((ag x).take (i+1))+1000000000 ^ (i+1)*b'=aI (out++[d])+aI ((ag y).take (i+1))/\eW 96 1 R2 (out++[d]).length (bW .u32 (out++[d])) Qt:=
        ⟨I,by rw[eY,g'];rfl,JB,Dq bu fun z aG=>by rw[zn.1 aG];exact al,aeK g' ar (by rw[aK];exact wB),Ok⟩
     refine aa 0x1810c39 ?_;refine eH ⟨i+1,b',out++[d],R2,Qt⟩ ?_ (hm:=lf _ _);exact bb
  ·obtain rfl:i=(ag x).length:=I
   have Wu:=aeJ ew bu g' ar aD;refine aa 0xe757 ?_;refine' W.step rfl (Exec.call rfl rfl rfl rfl rfl rfl rfl (bl:=a8) (c2:=[]) (.of_eq (ij a8)) trivial (aqg ev bu I) ?_);rintro v' m' ae hle ⟨rfl,rfl,nT⟩;rw[Wu] at nT;refine aa 0xd5f02 ?_;refine oi ?_;exact⟨rfl,by rw[ij];exact nT⟩
end
theorem alL{V c i j p R Y q dH T Yx:Nat}(b1:T=c+dH+p*q)(h:V+1000000000 ^ (i+j)*c=R+1000000000 ^ i*(p*Y))(hs:Yx+1000000000 ^ (i+j)*dH=V+1000000000 ^ (i+j)*(T % 1000000000)):Yx+1000000000 ^ (i+(j+1))*(T / 1000000000)=R+1000000000 ^ i*(p*(Y+1000000000 ^ j*q)):=by
 have e:1000000000 ^ (i+j)*T=1000000000 ^ (i+j)*(T % 1000000000)+1000000000 ^ (i+(j+1))*(T / 1000000000):=by
  conv=>lhs;rw[<-xS T 1000000000]
  rw[cH,<-D9 i j 1,ff,e4]
 have aR:1000000000 ^ (i+j)*T=1000000000 ^ (i+j)*c+1000000000 ^ (i+j)*dH+1000000000 ^ (i+j)*(p*q):=by rw[b1,cH,cH]
 have cf:1000000000 ^ i*(p*(Y+1000000000 ^ j*q))=1000000000 ^ i*(p*Y)+1000000000 ^ (i+j)*(p*q):=by
  rw[cH,cH,pN,e4,rJ p]
 omega
theorem ZJ{l:List Nat}{i n v:Nat}(h:∀j z:Nat,n<=j->l[j]?=some z->z=0)(ak:i<n):∀j z:Nat,n<=j->(l.set i v)[j]?=some z->z=0:=fun j z ab ad=>by
 rw[abw I] at ad;exact h j z ab ad
theorem Kn{n:Nat}(h:n<1000000):n<cG:=zt h bm
section
variable {Q:cZ Tryz.prog}{g0:Nat}{J:af}
theorem xy{v w:Value}{x y:Nat}(ab:cD J v x)(ad:cD J w y)(mf:(ag x).length<=100000)(ni:(ag y).length<=100000):Fn (aT Q g0) 97 [v,w] [] J (pP J (x*y)):=by
 have ab:cJ .u32 J v (ag x):=ab;have ad:cJ .u32 J w (ag y):=ad;obtain⟨bs,bp,rfl⟩:=ab.form;obtain⟨bM,bN,rfl⟩:=ad.form;refine Fn.b8 (b7 Tryz.func97) rfl rfl fun H=>?_;refine aa 0x3284a1ce059 ?_;refine' W.step rfl (.of (pG rfl rfl rfl rfl rfl (eB rfl) ?aN ?ab ?ad fun Iz=>?_));case aN=>exact cC
 case ab=>exact cC
 case ad=>exact cC
 refine aa 0x302 ?_;rw[show(((ag x).length:Int)+(ag y).length).toNat=(ag x).length+(ag y).length by omega,zero_num];refine aa 0x1abe059 ?_;refine c8 [(6,.int .i64 ((0):Int)),(0,_),(1,_),(5,_)] ?_;refine a' ?_;refine' aB.bA (fun(bE:Nat×(List Nat))=>match bE with|(i,out)=>⟨[(6,.int .i64 (i:Int))],[et .u32 96 Iz out],J,i<=(ag x).length/\out.length=(ag x).length+(ag y).length/\dG out/\(∀j z:Nat,i+(ag y).length<=j->out[j]?=some z->z=0)/\aI out=aI ((ag x).take i)*y,(ag x).length -i⟩) ⟨0,List.replicate ((ag x).length+(ag y).length) 0⟩ ?hs ?bb
 case hs=>exact⟨df _,mA,Dr,fun j z _ aG=>SM (gh aG),by rw[aaJ,fq];show 0=0*y;omega⟩
 case bb=>
  rintro⟨i,out⟩ hinv;try simp only at hinv
  obtain⟨ak,g',bu,aG,ar⟩:=hinv;refine aa 0x5f0428439 ?_;refine If (fun hW=>?_) fun hW=>?_
  ·obtain⟨a,o,br,e,rfl,gD,lu⟩:=ab.at I;obtain⟨p,ao,ha⟩:=lu i I;have bJ:=pv (hx x) ao;refine aa 0xd5f02ce059d5f57 ?_;refine c8 [(8,.int .i64 ((0):Int)),(7,.int .u64 ((0):Int)),(0,_),(1,_),(5,_),(6,_)] ?_;refine a' ?_;refine' aB.bA (fun(bE:Nat×Nat×(List Nat))=>match bE with|(j,ll,lZ)=>⟨[(8,.int .i64 (j:Int)),(7,.int .u64 (ll:Int))],[et .u32 96 Iz lZ],J,j<=(ag y).length/\ll<1000000000/\lZ.length=(ag x).length+(ag y).length/\dG lZ/\(∀j z:Nat,i+(ag y).length<=j->lZ[j]?=some z->z=0)/\aI lZ+1000000000 ^ (i+j)*ll=aI ((ag x).take i)*y+1000000000 ^ i*(p*aI ((ag y).take j)),(ag y).length -j⟩) ⟨0,0,out⟩ ?hs ?bb
   case hs=>exact⟨df _,by decide,g',bu,aG,by rw[fq];show _=_+1000000000 ^ i*(p*0);rw[ar,jk,jk,jk]⟩
   case bb=>
    rintro⟨j,ll,lZ⟩ hinv;try simp only at hinv
    obtain⟨aY,Vv,VW,Ak,gl,F6⟩:=hinv;refine aa 0x5f0428439 ?_;refine If (fun zC=>?_) fun zC=>?_
    ·obtain⟨bO,o',x4,bC,rfl,yi,PI⟩:=ad.at I;obtain⟨q,bI,pc⟩:=PI j I;have dU:=pv (hx y) bI;obtain⟨dH,hold⟩:∃dH,lZ[i+j]?=some dH:=⟨_,dX I⟩;have fP:=pv Ak hold;have gr:nth (bW .u32 lZ) (0+((i:Int)+(j:Int)).toNat*1)=some (.int .u32 (dH:Int)):=qk hold I;have nk:p*q<=999999999*999999999:=rI I I;obtain⟨s,hs⟩:∃s,s=ll+dH+p*q:=⟨_,rfl⟩;have Pu:(ll:Int)+(dH:Int)+(p:Int)*(q:Int)=(s:Int):=by rw[hs,xN,xN,hc]
     refine aa 0x17d5f57 ?_;refine aB.draw rfl (by kernel_rfl) (aX:=[.val 0,.val 1,.val 2,.val 3,.val 4,.val 5,.val 6,.val 7,.val 8,.val 9,.val 10,.val 11,.val 12,.val 13,.val 14,.val 15,.val 16,.val 17,.val 18,.val 19,.val 20,.bD 21]) (by kernel_rfl) ?_;refine aa 0x60431b926085c930423724c308421 ?_;rw[Pu];refine aa 0x3c2308439 ?_;rw[show((s:Int).tmod 1000000000)=((s % 1000000000:Nat):Int) from(H7 s 1000000000).symm];refine aa 0xce ?_;refine' iK ?hs ?_;case hs=>exact k3 (l:=lZ) (x:=s % 1000000000) (i+j) I I
     refine aa 0x30278738 ?_;rw[show((s:Int).tdiv 1000000000)=((s / 1000000000:Nat):Int) from(xO s 1000000000).symm,show IntKind.u64.wrap ((s / 1000000000:Nat):Int)=((s / 1000000000:Nat):Int) from wrap_u64 I I];have Wv:=alL (p:=p) (R:=aI ((ag x).take i)*y) hs F6 (aaH (y:=s % 1000000000) hold);rw[<-lC bI] at Wv;have ajG:j+1<=(ag y).length/\s / 1000000000<1000000000/\(lZ.set (i+j) (s % 1000000000)).length=(ag x).length+(ag y).length/\dG (lZ.set (i+j) (s % 1000000000))/\(∀k z:Nat,i+(ag y).length<=k->(lZ.set (i+j) (s % 1000000000))[k]?=some z->z=0)/\aI (lZ.set (i+j) (s % 1000000000))+1000000000 ^ (i+(j+1))*(s / 1000000000)=aI ((ag x).take i)*y+1000000000 ^ i*(p*aI ((ag y).take (j+1))):=⟨I,I,by rw[g6];exact VW,yP Ak (fz _ bm),ZJ gl I,Wv⟩;refine aa 0x1810c39 ?_;refine eH ⟨j+1,s / 1000000000,lZ.set (i+j) (s % 1000000000)⟩ ?_;exact ajG
    ·obtain rfl:j=(ag y).length:=I
     obtain⟨dH,hold⟩:∃dH,lZ[i+(ag y).length]?=some dH:=⟨_,dX I⟩;obtain rfl:=gl _ _ (bF _) hold;have bb:i+1<=(ag x).length/\(lZ.set (i+(ag y).length) ll).length=(ag x).length+(ag y).length/\dG (lZ.set (i+(ag y).length) ll)/\(∀k z:Nat,i+1+(ag y).length<=k->(lZ.set (i+(ag y).length) ll)[k]?=some z->z=0)/\aI (lZ.set (i+(ag y).length) ll)=aI ((ag x).take (i+1))*y:=⟨I,by rw[g6];exact VW,yP Ak Vv,ZJ (fun k z aU aQ=>gl k z I aQ) I,by
      have aU:=aaH (y:=ll) hold;rw[DN (bF _),e1] at F6;rw[lC ao,cR,e4];omega⟩
     refine aa 0x19c1194210e757 ?_;refine' iK ?hs ?_;case hs=>exact k3 (l:=lZ) (x:=ll) (i+(ag y).length) I I
     refine aa 0x30218738 ?_;refine eH ⟨i+1,lZ.set (i+(ag y).length) ll⟩ ?_;exact bb
  ·obtain rfl:i=(ag x).length:=I
   rw[DN (bF _),e1] at ar;have aj:∀ae,ae Iz=some (bW .u32 out,96)->fg ae 96 1 (.slice (some ⟨Iz,0,none⟩) ((ag x).length+(ag y).length) ((ag x).length+(ag y).length)) out.length (bW .u32 out):=fun ae yi=>by
    rw[<-g'];exact .row yi (by rw[g5,gJ];exact cM (by rw[qj];exact bF _)) (by rw[qj,gJ]) (fun _=>⟨bF _,Kn I⟩) (fun q=>absurd q (Ed (Kn I)))
   refine aa 0xe757 ?_;refine W.ed rfl fun aM rX=>?_;refine br (G:=Hy (l:=out) (aj _ rX) bu I) (h:=?_);rintro v' m' ae hle ⟨rfl,rfl,a4⟩;rw[ar] at a4;refine aa 0xd5f02 ?_;refine bo ?_;exact⟨aM,rfl,a4⟩
end
end
end Go.Opn

/- A part of the proof of TableTurns. -/
import Derived.Test.YtlgjlbpafcifoaaGreatDoorCat
import Derived.Test.YtlgjlbpafcifoaaGreatDoorCas
set_option maxRecDepth 100000
set_option maxHeartbeats 4000000
set_option linter.unusedVariables false
set_option linter.unusedSimpArgs false
namespace Go.Opn
noncomputable section
open Go.Cre Go.RowKit Go.Proofs
theorem Lt{z:List Nat}{i y:Nat}(h:i<z.length):a3 ((z.set i y).take (i+1))=a3 (z.take i)+18446744073709551616 ^ i*y:=by
 rw[kC (x:=y) (by rw[mz,a2 rfl,a2 h]),Im (bF i)]
theorem IW(i s:Nat):18446744073709551616 ^ i*s=18446744073709551616 ^ i*(s % 18446744073709551616)+18446744073709551616 ^ (i+1)*(s / 18446744073709551616):=by
 conv=>lhs;rw[<-xS s 18446744073709551616]
 rw[cH,ff,e4]
theorem anx{x y:List Nat}{z:List Nat}{i c a b:Nat}(ak:i<z.length)(aF:x.getD i 0=a)(ai:y.getD i 0=b)(h:a3 (z.take i)+18446744073709551616 ^ i*c=a3 (x.take i)+a3 (y.take i)):
 a3 ((z.set i ((a+b+c) % 18446744073709551616)).take (i+1))+18446744073709551616 ^ (i+1)*((a+b+c) / 18446744073709551616)=a3 (x.take (i+1))+a3 (y.take (i+1)):=by
 rw[Lt ak,zc x,zc y,aF,ai];have e:=IW i (a+b+c);rw[cH,cH] at e;omega
theorem aly{x y:List Nat}{z:List Nat}{i c a b:Nat}(ak:i<z.length)(iV:a<18446744073709551616)(hY:b<18446744073709551616)(aD:c<=1)(aF:x.getD i 0=a)(ai:y.getD i 0=b)(h:a3 (z.take i)+a3 (y.take i)=a3 (x.take i)+18446744073709551616 ^ i*c):
 a3 ((z.set i ((a+18446744073709551616 -b -c) % 18446744073709551616)).take (i+1))+a3 (y.take (i+1))=a3 (x.take (i+1))+18446744073709551616 ^ (i+1)*(if a<b+c then 1 else 0):=by
 rw[Lt ak,zc x,zc y,aF,ai];have e:(a+18446744073709551616 -b -c) % 18446744073709551616+b+c=a+18446744073709551616*(if a<b+c then 1 else 0):=by
  split<;>omega
 have aR:=b6 (18446744073709551616 ^ i*·) e;simp only[cH] at aR;have cf:∀t:Nat,18446744073709551616 ^ i*(18446744073709551616*t)=18446744073709551616 ^ (i+1)*t:=fun t=>by rw[ff,e4]
 rw[cf] at aR;omega
section
variable {Q:cZ Tryz.prog}{g0:Nat}{J:af}
theorem anw{v w:Value}{x y:Nat}(U:cp J v x)(au:cp J w y)(hb:(aS x).length<=100000)(jb:(aS y).length<=100000):Fn (aT Q g0) 148 [v,w] [] J (jB J (x+y)):=by
 have di:=U;have eN:=au;obtain⟨bs,bp,rfl,aK⟩:=U.bQ;obtain⟨bM,bN,rfl,aH⟩:=au.bQ;refine Fn.b8 (b7 Tryz.func148) rfl rfl fun H=>?_;refine aa 0x304284a1ce059 ?_;refine dN [0,1,14] ?_;refine a' ?_;refine' aB.lk 3 (fun(bE:(Value)×(Value)×(Nat)×(Nat))=>match bE with|(hI,j4,p,q)=>⟨[(0,hI),(1,j4)],[],J,cp J hI p/\cp J j4 q/\(aS q).length<=(aS p).length/\(aS p).length<=100000/\p+q=x+y⟩) ?MV ?Nh
 case MV=>
  refine If (fun dZ=>?_) fun dZ=>?_
  ·refine aa 0x30210439 ?_;refine fW ⟨.slice bM (aS y).length bN,.slice bs (aS x).length bp,y,x⟩ ?_;exact⟨eN,di,I,jb,I⟩
  ·refine jg ?_;refine fW ⟨.slice bs (aS x).length bp,.slice bM (aS y).length bN,x,y⟩ ?_;exact⟨di,eN,I,hb,rfl⟩
 case Nh=>
  rintro⟨hI,j4,p,q⟩ hinv;try simp only at hinv
  obtain⟨ez,eh,hle,bA,aj⟩:=hinv;have gq:=ez;have g1:=eh;obtain⟨fw,gz,rfl,fP⟩:=ez.bQ;obtain⟨fi,eu,rfl,je⟩:=eh.bQ;refine aa 0x19439 ?_;refine' W.step rfl (.of (pG rfl rfl rfl rfl rfl (eB rfl) ?aN ?ab ?ad fun Tq=>?_));case aN=>exact cC
  case ab=>exact cC
  case ad=>exact cC
  refine aa 0x302 ?_;rw[show(((aS p).length:Int)+1).toNat=(aS p).length+1 by omega,zero_num];refine aa 0x357c04a1ce059 ?_;refine c8 [(23,.int .i64 ((0):Int)),(6,.int .u64 ((0):Int)),(0,_),(1,_),(5,_),(21,_),(22,_)] ?_;refine a' ?_;refine' aB.bA (fun(bE:Nat×Nat×(List Nat))=>match bE with|(i,c,z)=>⟨[(23,.int .i64 (i:Int)),(6,.int .u64 (c:Int))],[et .u64 120 Tq z],J,i<=(aS p).length/\c<=1/\z.length=(aS p).length+1/\okW z/\a3 (z.take i)+18446744073709551616 ^ i*c=a3 ((aS p).take i)+a3 ((aS q).take i),(aS p).length -i⟩) ⟨0,0,List.replicate ((aS p).length+1) 0⟩ ?hs ?bb
  case hs=>exact⟨df _,by decide,mA,yQ,by rw[fq,fq,fq];rfl⟩
  case bb=>
   rintro⟨i,c,z⟩ hinv;try simp only at hinv
   obtain⟨ak,aD,aG,bu,ar⟩:=hinv;refine aa 0xbe099 ?_;refine If (fun zC=>?_) fun zC=>?_
   ·obtain⟨ID,QZ,ad6,afx,rfl,gD,db⟩:=gq.at (nw I);obtain⟨a,aF,nj,iV⟩:=db i I;have rc:=E9 (oH q) i;refine aa 0xc10a10e702ce04249839d5f57 ?_;refine dN [9,31,0,1,5,6,7,8,21,22,23] ?_;refine a' ?_;refine' aB.fD 2 [(9,.int .u64 (((aS q).getD i 0:Nat):Int))] ?MW ?Ni;case MW=>
     refine If (fun mC=>?_) fun mC=>?_
     ·obtain⟨xY,jd,ad3,afu,rfl,ahq,Oy⟩:=g1.at (nw I);obtain⟨b,ai,yt,_⟩:=Oy i I;refine aa 0x604930439 ?_;refine'⟨⟨_,rfl,⟨?n7,rfl,rfl,rfl,rfl,rfl,rfl,rfl,rfl,rfl,trivial⟩⟩,ih _,rfl⟩;case n7=>first|exact b6 some (b6 (Value.int .u64) (by rw[hP ai]))|exact b6 some (b6 (Value.int .u64) (by rw[lm (l:=aS q) I];rfl))
     ·refine jg ?_;refine'⟨⟨_,rfl,⟨?n7,rfl,rfl,rfl,rfl,rfl,rfl,rfl,rfl,rfl,trivial⟩⟩,ih _,rfl⟩;case n7=>first|exact b6 some (b6 (Value.int .u64) (by rw[hP ai]))|exact b6 some (b6 (Value.int .u64) (by rw[lm (l:=aS q) I];rfl))
    case Ni=>
     refine aa 0x2108439 ?_;refine br (G:=vO aD) (h:=?_);rintro v' m' ae hle ⟨rfl,rfl,rfl⟩;refine aa 0x31ce1 ?_;refine' iK ?hs ?_;case hs=>exact k3 i I
     refine aa 0x3011e702 ?_;refine eH ⟨i+1,(a+(aS q).getD i 0+c) / 18446744073709551616,z.set i ((a+(aS q).getD i 0+c) % 18446744073709551616)⟩ ?_;exact⟨I,I,by rw[g6];exact aG,rn bu (fz _ bm),anx I (hP aF) rfl ar⟩
   ·obtain rfl:i=(aS p).length:=I
    refine aa 0x304a10e757 ?_;refine' iK ?hs ?_;case hs=>exact k3 (aS p).length I
    refine aa 0x738 ?_;refine' W.step rfl (Exec.call rfl rfl rfl rfl rfl rfl rfl (bl:=[et .u64 120 Tq (z.set (aS p).length c)]) (c2:=[]) (.refl _) trivial (xA (l:=z.set (aS p).length c) (rn bu I) (by rw[g6,aG];exact bF _) (bF _) I) ?_);rintro v' m' ae hle ⟨k,rfl,hk,gl,rfl,rfl⟩;refine aa 0x302 ?_;refine aB.hy rfl fun aM=>?_;refine aa 0x357 ?_;refine bo ?_;exact⟨aM,rfl,cp.row (by
      rw[gl,Lt I,ar,cM (bF _),cM I,hr,hr,aj]) (by rw[g6,aG];exact hk) hk (jD I) (af.gC _ _ _)⟩
theorem XP{v w:Value}{x y:Nat}(U:cp J v x)(au:cp J w y)(hb:(aS x).length<=100000)(jb:(aS y).length<=100000)(h:y<=x):Fn (aT Q g0) 149 [v,w] [] J (jB J (x -y)):=by
 have di:=U;have eN:=au;obtain⟨bs,bp,rfl,aK⟩:=U.bQ;obtain⟨bM,bN,rfl,aH⟩:=au.bQ;have iX:(aS y).length<=(aS x).length:=ki h;refine Fn.b8 (b7 Tryz.func149) rfl rfl fun H=>?_;refine aa 0xa1ce059 ?_;refine' W.step rfl (.of (pG rfl rfl rfl rfl rfl (eB rfl) ?aN ?ab ?ad fun Ej=>?_));case aN=>exact cC
 case ab=>exact cC
 case ad=>exact cC
 refine aa 0x302 ?_;rw[show((aS x).length:Int).toNat=(aS x).length by omega,zero_num];refine aa 0x357c04a1ce059 ?_;refine c8 [(15,.int .i64 ((0):Int)),(6,.int .u64 ((0):Int)),(1,_),(5,_),(13,_),(14,_)] ?_;refine a' ?_;refine' aB.bA (fun(bE:Nat×Nat×(List Nat))=>match bE with|(i,c,z)=>⟨[(15,.int .i64 (i:Int)),(6,.int .u64 (c:Int))],[et .u64 120 Ej z],J,i<=(aS x).length/\c<=1/\z.length=(aS x).length/\okW z/\a3 (z.take i)+a3 ((aS y).take i)=a3 ((aS x).take i)+18446744073709551616 ^ i*c,(aS x).length -i⟩) ⟨0,0,List.replicate (aS x).length 0⟩ ?hs ?bb
 case hs=>exact⟨df _,by decide,mA,yQ,by rw[fq,fq,fq];rfl⟩
 case bb=>
  rintro⟨i,c,z⟩ hinv;try simp only at hinv
  obtain⟨ak,aD,aG,bu,ar⟩:=hinv;refine aa 0xbe099 ?_;refine If (fun l8=>?_) fun l8=>?_
  ·obtain⟨ID,QZ,ad6,afx,rfl,gD,db⟩:=di.at (nw I);obtain⟨a,aF,nj,iV⟩:=db i I;have rc:=E9 (oH y) i;refine aa 0xc10a10e702ce04249839d5f57 ?_;refine dN [9,23,1,5,6,7,8,13,14,15] ?_;refine a' ?_;refine' aB.fD 2 [(9,.int .u64 (((aS y).getD i 0:Nat):Int))] ?adN ?aeY;case adN=>
    refine If (fun rN=>?_) fun rN=>?_
    ·obtain⟨xY,jd,ad3,afu,rfl,ahq,Oy⟩:=eN.at (nw I);obtain⟨b,ai,yt,_⟩:=Oy i I;refine aa 0x604930439 ?_;refine'⟨⟨_,rfl,⟨?n7,rfl,rfl,rfl,rfl,rfl,rfl,rfl,rfl,trivial⟩⟩,ih _,rfl⟩;case n7=>first|exact b6 some (b6 (Value.int .u64) (by rw[hP ai]))|exact b6 some (b6 (Value.int .u64) (by rw[lm (l:=aS y) I];rfl))
    ·refine jg ?_;refine'⟨⟨_,rfl,⟨?n7,rfl,rfl,rfl,rfl,rfl,rfl,rfl,rfl,trivial⟩⟩,ih _,rfl⟩;case n7=>first|exact b6 some (b6 (Value.int .u64) (by rw[hP ai]))|exact b6 some (b6 (Value.int .u64) (by rw[lm (l:=aS y) I];rfl))
   case aeY=>
    refine aa 0x2108439 ?_;refine br (G:=Lj aD) (h:=?_);rintro v' m' ae hle ⟨rfl,rfl,rfl⟩;refine aa 0x31ce1 ?_;refine' iK ?hs ?_;case hs=>exact k3 i I
    refine aa 0x3011e702 ?_;refine eH ⟨i+1,(if a<(aS y).getD i 0+c then 1 else 0),z.set i ((a+18446744073709551616 -(aS y).getD i 0 -c) % 18446744073709551616)⟩ ?_;exact⟨I,by split<;>omega,by rw[g6];exact aG,rn bu (fz _ bm),aly I iV rc aD (hP aF) rfl ar⟩
  ·obtain rfl:i=(aS x).length:=I
   have kT:c=0:=by
    have ab:=ry (tJ (i:=(aS x).length) bu);rw[dY,aG,Nat.min_self] at ab;rw[cM (l:=aS x) (bF _),cM (l:=aS y) I,hr,hr] at ar;obtain rfl|rfl:c=0\/c=1:=I
    ·rfl
    ·rw[gJ] at ar;omega
   refine aa 0xe757 ?_;refine' W.step rfl (Exec.call rfl rfl rfl rfl rfl rfl rfl (bl:=[et .u64 120 Ej z]) (c2:=[]) (.refl _) trivial (xA (l:=z) bu I (bF _) I) ?_);rintro v' m' ae hle ⟨k,rfl,hk,gl,rfl,rfl⟩;refine aa 0x302 ?_;refine aB.hy rfl fun aM=>?_;refine aa 0x357 ?_;refine bo ?_;exact⟨aM,rfl,cp.row (by
    rw[cM (l:=aS x) (bF _),cM (l:=aS y) I,hr,hr,kT,jk] at ar;rw[gl];congr 1;omega) I hk (jD I) (af.gC _ _ _)⟩
end
theorem GN{a b:Nat}(aF:a<18446744073709551616)(ai:b<18446744073709551616):a*b<=340282366920938463426481119284349108225:=rI (show a<=18446744073709551615 by omega) (show b<=18446744073709551615 by omega)
theorem y4{z:List Nat}{p t y:Nat}(h:t≠p):(z.set p y).getD t 0=z.getD t 0:=by
 rw[gI,gI,mz,aZ (fun q=>h q.symm)]
theorem Jf{z:List Nat}{t:Nat}(h:t<z.length):z[t]?=some (z.getD t 0):=by
 rw[gI,dX h];rfl
theorem ap9{y z:List Nat}{i j t c a b s A:Nat}(aG:z[i+j]?=some t)(h:a3 z+18446744073709551616 ^ (i+j)*c=A+a*18446744073709551616 ^ i*a3 (y.take j))(ai:y[j]?=some b)(hs:s=a*b+t+c):
 a3 (z.set (i+j) (s % 18446744073709551616))+18446744073709551616 ^ (i+(j+1))*(s / 18446744073709551616)=A+a*18446744073709551616 ^ i*a3 (y.take (j+1)):=by
 have aw:=Bm (y:=s % 18446744073709551616) aG;have aR:=IW (i+j) s;rw[kC ai,cH];have cf:a*18446744073709551616 ^ i*(18446744073709551616 ^ j*b)=18446744073709551616 ^ (i+j)*(a*b):=by rw[pN];ac_rfl
 rw[cf];have dK:18446744073709551616 ^ (i+j)*s=18446744073709551616 ^ (i+j)*(a*b)+18446744073709551616 ^ (i+j)*t+18446744073709551616 ^ (i+j)*c:=by rw[hs,cH,cH]
 rw[show i+(j+1)=i+j+1 from rfl];omega
theorem ap8{x z:List Nat}{i n c a Y:Nat}(ak:i+n<z.length)(aG:z.getD (i+n) 0=0)(aF:x[i]?=some a)(h:a3 z+18446744073709551616 ^ (i+n)*c=a3 (x.take i)*Y+a*18446744073709551616 ^ i*Y):
 a3 (z.set (i+n) c)=a3 (x.take (i+1))*Y:=by
 have aw:=Bm (y:=c) (Jf ak);rw[aG,jk,ik,h] at aw;rw[aw,kC aF,cR,dp a]
section
variable {Q:cZ Tryz.prog}{g0:Nat}{J:af}
theorem Ba{v w:Value}{x y:Nat}(U:cp J v x)(au:cp J w y)(hb:(aS x).length<=100000)(jb:(aS y).length<=100000):Fn (aT Q g0) 89 [v,w] [] J (jB J (x*y)):=by
 have di:=U;have eN:=au;obtain⟨bs,bp,rfl,aK⟩:=U.bQ;obtain⟨bM,bN,rfl,aH⟩:=au.bQ;refine Fn.b8 (b7 Tryz.func89) rfl rfl fun H=>?_;refine aa 0x6059 ?_;refine dN [0,1] ?_;refine a' ?_;refine' aB.fD 0 [(21,.bool (decide (((aS x).length=0\/(aS y).length=0))))] ?kM ?kP;case kM=>
  refine aa 0x12143a ?_;refine fs 17 (fun iU=>?_) fun iU=>?_
  ·refine aa 0x1846f7b ?_;refine dO (dS ?_);first|omega|(simp_all;done)
  ·refine aa 0x18410a1 ?_;refine dO (dS ?_);first|omega|(simp_all;done)
 case kP=>
  refine a' ?_;refine If (fun j'=>?_) fun j'=>?_
  ·have aG:x*y=0:=by
    rcases j' with k|k
    ·rw[show x=0 from iF fun q=>HM q k,jA]
    ·rw[show y=0 from iF fun q=>HM q k,jk]
   refine aa 0x1abe059 ?_;refine bo ?_;first
    |exact⟨af.le.refl _,rfl,by rw[aG];exact cp.nil⟩
    |exact⟨aM,rfl,cp.row (by
      rw[gl,<-aG,cM (bF _),ar,cM (bF _),hr]) I hk (jD I) (af.gC _ _ _)⟩
  ·refine aa 0xe757 ?_;refine br (G:=C9 di hb) (h:=?_);rintro v' m' ae hle ⟨rfl,rfl,rfl⟩;refine sn ?_;refine If (fun rN=>?_) fun rN=>?_
   ·refine aa 0x357c0839 ?_;refine bo ?_;first
      |(have c:=rN
        exact⟨af.le.refl _,rfl,by rw[c,h'];exact eN⟩)
      |exact⟨af.le.refl _,rfl,by rw[aG];exact cp.nil⟩
      |exact⟨aM,rfl,cp.row (by
        rw[gl,<-aG,cM (bF _),ar,cM (bF _),hr]) I hk (jD I) (af.gC _ _ _)⟩
   ·refine aa 0xe757 ?_;refine br (G:=C9 eN jb) (h:=?_);rintro v' m' ae hle ⟨rfl,rfl,rfl⟩;refine sn ?_;refine If (fun iv=>?_) fun iv=>?_
    ·refine aa 0x357c0839 ?_;refine bo ?_;first
        |(have c:=iv
          exact⟨af.le.refl _,rfl,by rw[c,gJ];exact di⟩)
        |(have c:=rN
          exact⟨af.le.refl _,rfl,by rw[c,h'];exact eN⟩)
        |exact⟨af.le.refl _,rfl,by rw[aG];exact cp.nil⟩
        |exact⟨aM,rfl,cp.row (by
          rw[gl,<-aG,cM (bF _),ar,cM (bF _),hr]) I hk (jD I) (af.gC _ _ _)⟩
    ·refine aa 0x194250e757 ?_;refine' W.step rfl (.of (pG rfl rfl rfl rfl rfl (eB rfl) ?aN ?ab ?ad fun Mq=>?_));case aN=>exact cC
     case ab=>exact cC
     case ad=>exact cC
     refine aa 0x302 ?_;rw[show(((aS x).length:Int)+((aS y).length:Int)).toNat=(aS x).length+(aS y).length by omega,zero_num];obtain⟨sZ,er,nL,ex,rfl,th,kx⟩:=di.at (nw I);obtain⟨BS,hp,s5,nR,rfl,Ct,n4⟩:=eN.at (nw I);refine aa 0x6af809439 ?_;refine c8 [(36,.int .i64 ((0):Int)),(1,_),(5,_),(34,_),(35,_)] ?_;refine a' ?_;refine' aB.bA (fun(bE:Nat×(List Nat))=>match bE with|(i,z)=>⟨[(36,.int .i64 (i:Int))],[et .u64 120 Mq z],J,i<=(aS x).length/\z.length=(aS x).length+(aS y).length/\okW z/\a3 z=a3 ((aS x).take i)*y/\(∀t,i+(aS y).length<=t->z.getD t 0=0),(aS x).length -i⟩) ⟨0,List.replicate ((aS x).length+(aS y).length) 0⟩ ?hs ?bb
     case hs=>exact⟨df _,mA,yQ,by rw[Lu,fq];show 0=0*y;rw[jA],fun t _=>by rw[gI,L0];split<;>rfl⟩
     case bb=>
      rintro⟨i,z⟩ hinv;try simp only at hinv
      obtain⟨ak,aG,bu,ar,eG⟩:=hinv;refine aa 0xbe099 ?_;refine If (fun zF=>?_) fun zF=>?_
      ·
        obtain⟨a,aF,nj,iV⟩:=kx i I;refine aa 0x1abe0250e702ce04249839d5f57 ?_;refine c8 [(43,.int .i64 ((0):Int)),(8,.int .u64 ((0):Int)),(1,_),(5,_),(6,_),(7,_),(34,_),(35,_),(36,_),(41,_),(42,_)] ?_;refine a' ?_;refine' aB.bA (fun(bE:Nat×Nat×(List Nat))=>match bE with|(j,c,dB)=>⟨[(43,.int .i64 (j:Int)),(8,.int .u64 (c:Int))],[et .u64 120 Mq dB],J,j<=(aS y).length/\c<18446744073709551616/\dB.length=(aS x).length+(aS y).length/\okW dB/\a3 dB+18446744073709551616 ^ (i+j)*c=a3 ((aS x).take i)*y+a*18446744073709551616 ^ i*a3 ((aS y).take j)/\(∀t,i+(aS y).length<=t->dB.getD t 0=0),(aS y).length -j⟩) ⟨0,0,z⟩ ?hs ?bb
        case hs=>exact⟨df _,by decide,aG,bu,by rw[jk,ar,fq];rfl,eG⟩
        case bb=>
         rintro⟨j,c,dB⟩ hinv;try simp only at hinv
         obtain⟨aY,gQ,gl,Ak,F6,PW⟩:=hinv;refine aa 0xbe099 ?_;refine If (fun adg=>?_) fun adg=>?_
         ·obtain⟨b,ai,yt,hY⟩:=n4 j I;obtain⟨P,cw⟩:∃P,P=a*b:=⟨_,rfl⟩;have rY:=GN iV hY;rw[<-cw] at rY;obtain⟨t,aJ⟩:∃t,dB[i+j]?=some t:=⟨_,dX I⟩;have tx:=xb Ak aJ;have eG:nth (bW .u64 dB) (0+((i:Int)+(j:Int)).toNat*1)=some (.int .u64 (t:Int)):=qk aJ I;obtain⟨s,hs⟩:∃s,s=P+t+c:=⟨_,rfl⟩;refine aa 0x21ce04249839d5f57 ?_;refine br (G:=Dj iV hY) (h:=?_);rintro v' m' ae hle ⟨rfl,rfl,rfl⟩;rw[<-cw];refine aa 0x930c21087381670211ce1 ?_;refine br (G:=vO (c:=0) I) (h:=?_);rintro v' m' ae hle ⟨rfl,rfl,rfl⟩;refine aa 0x439c08610e70211ce1 ?_;refine br (G:=vO (c:=0) I) (h:=?_);rintro v' m' ae hle ⟨rfl,rfl,rfl⟩;refine aa 0xc2108c210e70211ce1 ?_;rw[show((P % 18446744073709551616+t+0) % 18446744073709551616+c+0) % 18446744073709551616=s % 18446744073709551616 by omega];rw[show((P / 18446744073709551616:Nat):Int)+(((P % 18446744073709551616+t+0) / 18446744073709551616:Nat):Int)+((((P % 18446744073709551616+t+0) % 18446744073709551616+c+0) / 18446744073709551616:Nat):Int)=((s / 18446744073709551616:Nat):Int) by omega];refine eT V.c7 ?_;refine' iK ?hs ?_;case hs=>exact k3 (i+j) I
          refine aa 0x3011e702 ?_;refine eH ⟨j+1,s / 18446744073709551616,dB.set (i+j) (s % 18446744073709551616)⟩ ?_;exact⟨I,I,by rw[g6];exact gl,rn Ak (fz _ bm),ap9 aJ F6 ai (by rw[hs,cw]),fun t aJ=>by rw[y4 I];exact PW t I⟩
         ·obtain rfl:j=(aS y).length:=I
          have ajS:=F6;refine aa 0xc1194210e757 ?_;refine' iK ?hs ?_;case hs=>exact k3 (i+(aS y).length) I
          refine aa 0x1808f38 ?_;refine eH ⟨i+1,dB.set (i+(aS y).length) c⟩ ?_;exact⟨I,by rw[g6];exact gl,rn Ak gQ,ap8 I (PW _ (bF _)) aF (by rw[ajS,cM (l:=aS y) (bF _),hr]),fun t aJ=>by rw[y4 I];exact PW t I⟩
      ·
        obtain rfl:i=(aS x).length:=I
        refine aa 0xe757 ?_;refine' W.step rfl (Exec.call rfl rfl rfl rfl rfl rfl rfl (bl:=[et .u64 120 Mq z]) (c2:=[]) (.refl _) trivial (xA (l:=z) bu I (bF _) I) ?_);rintro v' m' ae hle ⟨k,rfl,hk,gl,rfl,rfl⟩;refine aa 0x302 ?_;refine aB.hy rfl fun aM=>?_;refine aa 0x357 ?_;refine bo ?_;first
         |(have c:=iv
           exact⟨af.le.refl _,rfl,by rw[c,gJ];exact di⟩)
         |(have c:=rN
           exact⟨af.le.refl _,rfl,by rw[c,h'];exact eN⟩)
         |exact⟨af.le.refl _,rfl,by rw[aG];exact cp.nil⟩
         |exact⟨aM,rfl,cp.row (by
           rw[gl,<-aG,cM (bF _),ar,cM (bF _),hr]) I hk (jD I) (af.gC _ _ _)⟩
end
theorem aeS{x z:List Nat}{i r a d:Nat}(ak:i<z.length)(aF:x[i]?=some a)(h:a3 (x.drop (i+1))=d*a3 (z.drop (i+1))+r):
 a3 (x.drop i)=d*a3 ((z.set i ((r*18446744073709551616+a) / d)).drop i)+(r*18446744073709551616+a) % d:=by
 rw[HH aF,HH (l:=z.set i _) (i:=i) (x:=(r*18446744073709551616+a) / d) (by rw[mz,a2 rfl,a2 ak]),BI I,h];have e:=lI (r*18446744073709551616+a) d;rw[cH,cH];have aR:18446744073709551616*(d*a3 (z.drop (i+1)))=d*(18446744073709551616*a3 (z.drop (i+1))):=rJ _ _ _;omega
theorem vR{s:Nat}(h:s<=64):2 ^ (64 -s)*2 ^ s=18446744073709551616:=by rw[<-pN,xT h]
theorem Rx{w s:Nat}(h:s<=64):w*2 ^ s % 18446744073709551616=w % 2 ^ (64 -s)*2 ^ s/\w*2 ^ s / 18446744073709551616=w / 2 ^ (64 -s):=by
 rw[<-vR h];exact⟨Td _ _ _,Iu _ _ (lh s)⟩
theorem KV{t w s:Nat}(h:s<=64)(aJ:t<2 ^ s):t ||| w*2 ^ s % 18446744073709551616=t+w*2 ^ s % 18446744073709551616:=by
 rw[(Rx h).1,Nat.or_comm,Q4 aJ,S5]
theorem akZ{x z:List Nat}{i w s t:Nat}(hs:s<=64)(ak:i+1<z.length)(aG:z[i]?=some t)(wW:z.getD (i+1) 0=0)(U:x[i]?=some w)(h:a3 z=a3 (x.take i)*2 ^ s):
 a3 ((z.set i (t+w*2 ^ s % 18446744073709551616)).set (i+1) (w / 2 ^ (64 -s)))=a3 (x.take (i+1))*2 ^ s:=by
 have aw:=Bm (y:=t+w*2 ^ s % 18446744073709551616) aG;have aR:=Bm (l:=z.set i (t+w*2 ^ s % 18446744073709551616)) (i:=i+1) (x:=0) (y:=w / 2 ^ (64 -s)) (by
  rw[mz,aZ I,Jf ak,wW])
 rw[jk,ik] at aR;rw[aR,kC U,cR,<-h];have cf:=IW i (w*2 ^ s);rw[(Rx hs).2] at cf;rw[cH] at aw;have dK:18446744073709551616 ^ i*w*2 ^ s=18446744073709551616 ^ i*(w*2 ^ s):=e4 _ _ _;omega
theorem ao6{X w s i:Nat}(hs:s<=64):(X+18446744073709551616 ^ (i+1)*w) / 2 ^ s=X / 2 ^ s+18446744073709551616 ^ i*(w*2 ^ (64 -s)):=by
 have e:18446744073709551616 ^ (i+1)*w=2 ^ s*(18446744073709551616 ^ i*(w*2 ^ (64 -s))):=by
  rw[ff,<-vR hs];ac_rfl
 rw[e,S6 _ _ (lh s)]
theorem aow{x z:List Nat}{i w s t:Nat}(hs:s<=64)(ak:i+1<z.length)(aG:z[i]?=some t)(wW:z.getD (i+1) 0=0)(U:x[i+1]?=some w)(h:a3 z=a3 (x.take (i+1)) / 2 ^ s):
 a3 ((z.set (i+1) (w / 2 ^ s)).set i (t+w*2 ^ (64 -s) % 18446744073709551616))=a3 (x.take (i+2)) / 2 ^ s:=by
 have aw:=Bm (l:=z) (i:=i+1) (x:=0) (y:=w / 2 ^ s) (by rw[Jf ak,wW]);have aR:=Bm (l:=z.set (i+1) (w / 2 ^ s)) (i:=i) (x:=t) (y:=t+w*2 ^ (64 -s) % 18446744073709551616) (by rw[mz,aZ I,aG]);rw[jk,ik] at aw;rw[aw,cH,h] at aR;rw[kC (i:=i+1) U,ao6 hs];have cf:=IW i (w*2 ^ (64 -s));rw[(Rx (s:=64 -s) I).2,show 64 -(64 -s)=s by omega] at cf;omega
section
variable {Q:cZ Tryz.prog}{g0:Nat}{J:af}
theorem Ug{v:Value}{x d:Nat}(U:cp J v x)(hb:(aS x).length<=100000)(al:0<d)(JI:d<18446744073709551616):Fn (aT Q g0) 126 [v,.int .u64 (d:Int)] [] J (fun u m' ae=>J.le ae/\m'=[]/\∃w,u=.tuple #[w,.int .u64 ((x % d:Nat):Int)]/\cp ae w (x / d)):=by
 have di:=U;obtain⟨bs,bp,rfl,aK⟩:=U.bQ;refine Fn.b8 (b7 Tryz.func126) rfl rfl fun H=>?_;refine aa 0x1439c0859 ?_;refine' W.step rfl (.of (pG rfl rfl rfl rfl rfl (eB rfl) ?aN ?ab ?ad fun pS=>?_));case aN=>exact cC
 case ab=>exact cC
 case ad=>exact cC
 refine aa 0x302 ?_;rw[show((aS x).length:Int).toNat=(aS x).length by omega,zero_num];refine aa 0x6af810ca1ce059 ?_;refine c8 [(8,.int .i64 ((((aS x).length):Int) -1)),(7,.int .u64 ((0):Int)),(0,_),(1,_),(6,_)] ?_;refine a' ?_;refine' aB.bA (fun(bE:Nat×Nat×(List Nat))=>match bE with|(k,r,z)=>⟨[(8,.int .i64 ((k:Int) -1)),(7,.int .u64 (r:Int))],[et .u64 120 pS z],J,k<=(aS x).length/\r<d/\z.length=(aS x).length/\okW z/\a3 ((aS x).drop k)=d*a3 (z.drop k)+r,k⟩) ⟨(aS x).length,0,List.replicate (aS x).length 0⟩ ?hs ?bb
 case hs=>exact⟨bF _,al,mA,yQ,by rw[oW (bF _),oW (by rw[mA];exact bF _)];rfl⟩
 case bb=>
  rintro⟨k,r,z⟩ hinv;try simp only at hinv
  obtain⟨hk,aq,aG,bu,ar⟩:=hinv;refine aa 0x17c1039 ?_;refine If (fun l8=>?_) fun l8=>?_
  ·obtain⟨sZ,er,nL,ex,rfl,th,kx⟩:=di.at (nw I);obtain⟨a,aF,nj,iV⟩:=kx (k -1) I;have nj:nth nL (er+((k:Int) -1).toNat*1)=some (.int .u64 (a:Int)):=by rw[show((k:Int) -1).toNat=k -1 by omega];exact nj
   have rc:(r*18446744073709551616+a) / d<18446744073709551616:=(mB al).2 (by
    have:=eK 18446744073709551616 (show r+1<=d from aq);rw[cR,dp d] at this;omega)
   refine aa 0x14982108439d5f57 ?_;refine br (G:=Uf aq iV JI) (h:=?_);rintro v' m' ae hle ⟨rfl,rfl,rfl⟩;refine aa 0x31ce1 ?_;refine' iK ?hs ?_;case hs=>exact k3 (k -1) I
   refine aa 0x60430e702 ?_;refine eH ⟨k -1,(r*18446744073709551616+a) % d,z.set (k -1) ((r*18446744073709551616+a) / d)⟩ ?_;exact⟨I,fz _ al,by rw[g6];exact aG,rn bu rc,aeS I aF (by rw[show k -1+1=k by omega];exact ar)⟩
  ·obtain rfl:k=0:=I
   have mF:x / d=a3 z/\x % d=r:=by
    rw[g5,g5,hr] at ar;have:=xm (cS:=x) (V:=d) (g:=a3 z) (by rw[dp];omega) (by rw[cR,dp];omega);exact⟨this.1,by rw[this.2,dp];omega⟩
   refine aa 0xe757 ?_;refine' W.step rfl (Exec.call rfl rfl rfl rfl rfl rfl rfl (bl:=[et .u64 120 pS z]) (c2:=[]) (.refl _) trivial (xA (l:=z) bu I (bF _) I) ?_);rintro v' m' ae hle ⟨k,rfl,hk,gl,rfl,rfl⟩;refine aa 0xc0841 ?_;refine aB.hy rfl fun aM=>?_;rw[<-mF.2];refine aa 0x357 ?_;refine bo ?_;exact⟨aM,rfl,_,rfl,cp.row (by rw[gl,mF.1,<-aG,cM (bF _)]) I hk (jD I) (af.gC _ _ _)⟩
theorem Xh{v:Value}{x s:Nat}(U:cp J v x)(hb:(aS x).length<=100000)(hs:s<=63):Fn (aT Q g0) 128 [v,.int .u64 (s:Int)] [] J (fun u m' ae=>∃a z,u=.slice (some ⟨a,0,none⟩) ((aS x).length+1) ((aS x).length+1)/\m'=[et .u64 120 a z]/\z.length=(aS x).length+1/\okW z/\a3 z=x*2 ^ s/\J=ae):=by
 have di:=U;obtain⟨bs,bp,rfl,aK⟩:=U.bQ;refine Fn.b8 (b7 Tryz.func128) rfl rfl fun H=>?_;refine aa 0xca1ce059 ?_;refine' W.step rfl (.of (pG rfl rfl rfl rfl rfl (eB rfl) ?aN ?ab ?ad fun pS=>?_));case aN=>exact cC
 case ab=>exact cC
 case ad=>exact cC
 refine aa 0x302 ?_;rw[show(((aS x).length:Int)+1).toNat=(aS x).length+1 by omega,zero_num];refine aa 0x6af809439 ?_;refine c8 [(14,.int .i64 ((0):Int)),(1,_),(5,_),(12,_),(13,_)] ?_;refine a' ?_;refine' aB.bA (fun(bE:Nat×(List Nat))=>match bE with|(i,z)=>⟨[(14,.int .i64 (i:Int))],[et .u64 120 pS z],J,i<=(aS x).length/\z.length=(aS x).length+1/\okW z/\z.getD i 0<2 ^ s/\(∀t,i<t->z.getD t 0=0)/\a3 z=a3 ((aS x).take i)*2 ^ s,(aS x).length -i⟩) ⟨0,List.replicate ((aS x).length+1) 0⟩ ?hs ?bb
 case hs=>exact⟨df _,mA,yQ,by rw[gI,L0,a2 I];exact lh s,fun t _=>by rw[gI,L0];split<;>rfl,by rw[Lu,fq];show 0=0*_;rw[jA]⟩
 case bb=>
  rintro⟨i,z⟩ hinv;try simp only at hinv
  obtain⟨ak,aG,bu,yA,eG,ar⟩:=hinv;refine aa 0xbe099 ?_;refine If (fun dR=>?_) fun dR=>?_
  ·obtain⟨sZ,er,nL,ex,rfl,th,kx⟩:=di.at (nw I);obtain⟨w,hw,tt,tB⟩:=kx i I;obtain⟨t,aJ⟩:∃t,z[i]?=some t:=⟨_,dX I⟩;have tx:=xb bu aJ;have p9:t<2 ^ s:=by rw[hP aJ] at yA;exact yA
   have ai3:nth (bW .u64 z) (0+((i:Int)).toNat*1)=some (.int .u64 (t:Int)):=qk aJ I;have wL:w*2 ^ s % 18446744073709551616<18446744073709551616:=fz _ bm;have JT:t+w*2 ^ s % 18446744073709551616<18446744073709551616:=by rw[<-KV I p9];exact Mf (n:=64) tx wL
   have J8:w / 2 ^ (64 -s)<2 ^ s:=(mB (lh _)).2 (by rw[dp,vR I];exact tB);have J7:w / 2 ^ (64 -s)<18446744073709551616:=nC (qE _ _) tB;refine aa 0x502149821ce04249839d5f57 ?_;rw[y5];refine eT V.o3 ?_;rw[He tx wL,KV I p9];refine eT V.c7 ?_;refine' iK ?hs ?_;case hs=>exact k3 i I
   refine aa 0x1842308738 ?_;rw[show(64:Int) -(s:Int)=((64 -s:Nat):Int) by omega];refine eT V.o3 ?_;rw[xu];refine eT V.c7 ?_;refine' iK ?hs ?_;case hs=>exact k3 (i+1) (by rw[g6];omega)
   refine aa 0x1808f38 ?_;refine eH ⟨i+1,(z.set i (t+w*2 ^ s % 18446744073709551616)).set (i+1) (w / 2 ^ (64 -s))⟩ ?_;exact⟨I,by rw[g6,g6];exact aG,rn (rn bu JT) J7,by rw[gI,mz,a2 rfl,a2 (by rw[g6];omega)];exact J8,fun t aJ=>by rw[y4 I,y4 I];exact eG t I,akZ I I aJ (eG _ I) hw ar⟩
  ·obtain rfl:i=(aS x).length:=I
   refine aa 0xd5f020e757 ?_;refine oi ?_;exact⟨pS,z,rfl,rfl,aG,bu,by rw[ar,cM (bF _),hr],rfl⟩
end
end
end Go.Opn
namespace Go.Opn
noncomputable section
theorem UV{A D W C:List Nat}{i k:Nat}(al:D.length=i)(hk:i<=k)(h:k<W.length):(A++(D++W.drop i)++C)[A.length+k]?=W[k]?:=by
 rw[my,D5 (L' _ _),L5]
 rw[D4 (by rw[eY,ld];omega)]
 rw[D5 (by omega),oX]
 congr 1
 omega
theorem pz{A D W C:List Nat}{i y:Nat}(al:D.length=i)(h:i<W.length):(A++(D++W.drop i)++C).set (A.length+i) y=A++((D++[y])++W.drop (i+1))++C:=by
 rw[my,L3 _ _ (L' _ _),L5]
 rw[abC _ _ (by rw[eY,ld];omega)]
 rw[L3 _ _ (by omega),al,sR,Ic h,S2]
 simp
theorem akH{W vs:List Nat}{n bU u1 bq v1 v0:Nat}(gE:W.length=n+3)(ar:vs.length=n+2)(amw:okW W)(oI:okW vs)(ad:W[n+2]?=some bU)(ab:W[n+1]?=some u1)(aN:W[n]?=some bq)(aU:vs[n+1]?=some v1)(jM:vs[n]?=some v0):
 ui 18446744073709551616 (18446744073709551616 ^ n) (a3 W) (a3 vs) bU u1 bq v1 v0:=by
 have aw:=kC ad
 rw[cM (show W.length<=n+2+1 by omega),kC ab,kC aN] at aw
 have aR:=kC aU
 rw[cM (show vs.length<=n+1+1 by omega),kC jM] at aR
 have dL:=ry (tJ (i:=n) amw)
 have du:=ry (tJ (i:=n) oI)
 rw[dY,fV (by omega)] at dL du
 refine⟨⟨_,?_,dL⟩,⟨_,?_,du⟩⟩
 ·rw[aw,ff 18446744073709551616 (n+1),ff 18446744073709551616 n]
  obtain⟨p,ao⟩:∃p,p=18446744073709551616 ^ n:=⟨_,rfl⟩
  rw[<-ao,cR,cR,cR]
  have a7:p*18446744073709551616*18446744073709551616*bU=bU*18446744073709551616*18446744073709551616*p:=by ac_rfl
  have bc:p*18446744073709551616*u1=u1*18446744073709551616*p:=by ac_rfl
  have cu:p*bq=bq*p:=dp _ _
  rw[a7,bc,cu]
  omega
 ·rw[aR,ff 18446744073709551616 n]
  obtain⟨p,ao⟩:∃p,p=18446744073709551616 ^ n:=⟨_,rfl⟩
  rw[<-ao,cR]
  have bc:p*18446744073709551616*v1=v1*18446744073709551616*p:=by ac_rfl
  have cu:p*v0=v0*p:=dp _ _
  rw[bc,cu]
  omega
theorem alG{W vs D:List Nat}{i g c b w u lo z c' b':Nat}(al:D.length=i)(hw:vs[i]?=some w)(hu:W[i]?=some u)(h:a3 D+g*a3 (vs.take i)=a3 (W.take i)+18446744073709551616 ^ i*(c+b))
 (aw:g*w+c=lo+18446744073709551616*c')(aR:z+lo+b=u+18446744073709551616*b'):
 a3 (D++[z])+g*a3 (vs.take (i+1))=a3 (W.take (i+1))+18446744073709551616 ^ (i+1)*(c'+b'):=by
 rw[Bn,al,kC hw,kC hu,cH]
 have cf:z+g*w+b+c=u+18446744073709551616*(c'+b'):=by omega
 have dK:=b6 (18446744073709551616 ^ i*·) cf
 simp only[cH] at dK
 have cr:∀t:Nat,18446744073709551616 ^ i*(18446744073709551616*t)=18446744073709551616 ^ (i+1)*t:=fun t=>by rw[ff,e4]
 rw[cr,cr] at dK
 have hB:g*(18446744073709551616 ^ i*w)=18446744073709551616 ^ i*(g*w):=rJ _ _ _
 rw[hB]
 rw[cH] at h
 rw[cH]
 omega
theorem alH{W vs D:List Nat}{n g c b u z b':Nat}(al:D.length=n)(gE:W.length=n+1)(ar:vs.length=n)(hu:W[n]?=some u)(h:a3 D+g*a3 (vs.take n)=a3 (W.take n)+18446744073709551616 ^ n*(c+b))
 (aR:z+c+b=u+18446744073709551616*b'):a3 (D++[z])+g*a3 vs=a3 W+18446744073709551616 ^ (n+1)*b':=by
 have o6:=kC hu
 rw[cM (show W.length<=n+1 by omega)] at o6
 rw[Bn,al,o6]
 rw[cM (show vs.length<=n by omega)] at h
 have dK:=b6 (18446744073709551616 ^ n*·) aR
 simp only[cH] at dK
 have cr:∀t:Nat,18446744073709551616 ^ n*(18446744073709551616*t)=18446744073709551616 ^ (n+1)*t:=fun t=>by rw[ff,e4]
 rw[cr] at dK
 rw[cH] at h
 omega
theorem acq{W vs D:List Nat}{i c w u:Nat}(al:D.length=i)(hw:vs[i]?=some w)(hu:W[i]?=some u)(h:a3 D+18446744073709551616 ^ i*c=a3 (W.take i)+a3 (vs.take i)):
 a3 (D++[(u+w+c) % 18446744073709551616])+18446744073709551616 ^ (i+1)*((u+w+c) / 18446744073709551616)=a3 (W.take (i+1))+a3 (vs.take (i+1)):=by
 rw[Bn,al,kC hw,kC hu]
 have e:18446744073709551616 ^ i*(u+w+c)=18446744073709551616 ^ i*((u+w+c) % 18446744073709551616)+18446744073709551616 ^ (i+1)*((u+w+c) / 18446744073709551616):=by
  conv=>lhs;rw[<-xS (u+w+c) 18446744073709551616]
  rw[cH,ff,e4]
 rw[cH,cH] at e
 omega
theorem acr{W vs D:List Nat}{n c u:Nat}(al:D.length=n)(gE:W.length=n+1)(ar:vs.length=n)(hu:W[n]?=some u)(h:a3 D+18446744073709551616 ^ n*c=a3 (W.take n)+a3 (vs.take n)):
 a3 (D++[(u+0+c) % 18446744073709551616])+18446744073709551616 ^ (n+1)*((u+0+c) / 18446744073709551616)=a3 W+a3 vs:=by
 have o6:=kC hu
 rw[cM (show W.length<=n+1 by omega)] at o6
 rw[cM (show vs.length<=n by omega)] at h
 rw[Bn,al,o6]
 have e:18446744073709551616 ^ n*(u+0+c)=18446744073709551616 ^ n*((u+0+c) % 18446744073709551616)+18446744073709551616 ^ (n+1)*((u+0+c) / 18446744073709551616):=by
  conv=>lhs;rw[<-xS (u+0+c) 18446744073709551616]
  rw[cH,ff,e4]
 rw[cH,cH] at e
 omega
theorem acK{Z g cS v P bN To:Nat}(h:Z+g*v=cS+P*1)(aG:Z<P)(b9:cS<(g+1)*v)(e:To+P*bN=Z+v)(aD:bN<=1):1<=g/\To+(g -1)*v=cS+P*(1 -bN)/\cS<(g -1+1)*v:=by
 have ax:1<=g:=by
  rcases il g with k|k
  ·rw[k] at h;omega
  ·exact k
 obtain⟨p,rfl⟩:∃p,g=p+1:=⟨g -1,by omega⟩
 rw[lg]
 rw[cR,h'] at h
 refine⟨ax,?_,by rw[cR,h'];omega⟩
 obtain rfl|rfl:bN=0\/bN=1:=by omega
 ·omega
 ·omega
theorem ui.alp{β P cS V bU u1 bq v1 v0:Nat}(h:ui β P cS V bU u1 bq v1 v0)(nT:cS<β*V)(yy:bq<β)(CT:v0<β)(az:¬bU<v1)(CS:u1<β):cS<(β -1+1)*V:=by
 rw[xT (by omega)];exact nT
end
end Go.Opn
set_option maxHeartbeats 8000000
namespace Go.Opn
noncomputable section
open Go.Cre Go.RowKit Go.Proofs
theorem G4{D:List Nat}{z:Nat}(h:okW D)(aG:z<18446744073709551616):okW (D++[z]):=KR h fun x U=>by rw[zn.1 U];exact aG
theorem w3{D:List Nat}{z i:Nat}(h:D.length=i):(D++[z]).length=i+1:=by rw[eY,h];rfl
theorem cJ.lt{J:af}{b:Option Addr}{n c:Nat}{l:List Nat}(h:cJ .u64 J (.slice b n c) l)(ah:okW l)(ao:0<l.length):∃a off cells e,b=some ⟨a,off,none⟩/\J a=some (cells,e)/\∀i:Nat,i<l.length->∃x,l[i]?=some x/\nth cells (off+i*1)=some (.int .u64 (x:Int))/\x<18446744073709551616:=by
 obtain⟨a,off,cells,e,ab,ad,aL⟩:=h.at ao;exact⟨a,off,cells,e,ab,ad,fun i ak=>by obtain⟨x,aU,aQ⟩:=aL i ak;exact⟨x,aU,aQ,xb ah aU⟩⟩
section
variable {Q:cZ Tryz.prog}{g0:Nat}{J:af}
theorem aov{v:Value}{x s:Nat}(U:cp J v x)(hb:(aS x).length<=100000)(hs:s<=63):Fn (aT Q g0) 130 [v,.int .u64 (s:Int)] [] J (jB J (x / 2 ^ s)):=by
 have di:=U;obtain⟨bs,bp,rfl,aK⟩:=U.bQ;refine Fn.b8 (b7 Tryz.func130) rfl rfl fun H=>?_;refine aa 0xa1ce059 ?_;refine' W.step rfl (.of (pG rfl rfl rfl rfl rfl (eB rfl) ?aN ?ab ?ad fun rL=>?_));case aN=>exact cC
 case ab=>exact cC
 case ad=>exact cC
 refine aa 0x302 ?_;rw[show((aS x).length:Int).toNat=(aS x).length by omega,zero_num];refine aa 0x6af809439 ?_;refine c8 [(13,.int .i64 ((0):Int)),(1,_),(5,_),(11,_),(12,_)] ?_;refine a' ?_;refine' aB.bA (fun(bE:Nat×(List Nat))=>match bE with|(i,z)=>⟨[(13,.int .i64 (i:Int))],[et .u64 120 rL z],J,i<=(aS x).length/\z.length=(aS x).length/\okW z/\(0<i->z.getD (i -1) 0<2 ^ (64 -s))/\(∀t,i<=t->z.getD t 0=0)/\a3 z=a3 ((aS x).take i) / 2 ^ s,(aS x).length -i⟩) ⟨0,List.replicate (aS x).length 0⟩ ?hs ?bb
 case hs=>exact⟨df _,mA,yQ,fun q=>absurd q (BM 0),fun t _=>by rw[gI,L0];split<;>rfl,by rw[Lu,fq];exact(Mg _).symm⟩
 case bb=>
  rintro⟨i,z⟩ hinv;try simp only at hinv
  obtain⟨ak,aG,bu,yA,eG,ar⟩:=hinv;refine aa 0xbe099 ?_;refine If (fun dZ=>?_) fun dZ=>?_
  ·obtain⟨sZ,er,nL,ex,rfl,th,kx⟩:=di.at (nw I);obtain⟨w,hw,tt,tB⟩:=kx i I;have J8:w / 2 ^ s<2 ^ (64 -s):=(mB (lh _)).2 (by rw[vR I];exact tB);have J7:w / 2 ^ s<18446744073709551616:=nC (qE _ _) tB;refine aa 0x1408421ce04249839d5f57 ?_;rw[xu];refine eT V.c7 ?_;refine' iK ?hs ?_;case hs=>exact k3 i I
   refine aa 0x2f820738 ?_;refine If (fun qN=>?_) fun qN=>?_
   ·obtain⟨j,rfl⟩:∃j,i=j+1:=⟨i -1,I⟩;rw[lg] at yA;have yA:=yA (Nat.succ_pos j);obtain⟨t,aJ⟩:∃t,z[j]?=some t:=⟨_,dX I⟩;have tx:=xb bu aJ;have p9:t<2 ^ (64 -s):=by rw[hP aJ] at yA;exact yA
    have ai3:nth (bW .u64 (z.set (j+1) (w / 2 ^ s))) (0+(((j+1:Nat):Int) -1).toNat*1)=some (.int .u64 (t:Int)):=qk (i:=j) (by rw[mz,aZ I];exact aJ) I;have wL:w*2 ^ (64 -s) % 18446744073709551616<18446744073709551616:=fz _ bm;have JT:t+w*2 ^ (64 -s) % 18446744073709551616<18446744073709551616:=by rw[<-KV I p9];exact Mf (n:=64) tx wL
    have bb:j+1+1<=(aS x).length/\((z.set (j+1) (w / 2 ^ s)).set (j+1 -1) (t+w*2 ^ (64 -s) % 18446744073709551616)).length=(aS x).length/\okW ((z.set (j+1) (w / 2 ^ s)).set (j+1 -1) (t+w*2 ^ (64 -s) % 18446744073709551616))/\(0<j+1+1->((z.set (j+1) (w / 2 ^ s)).set (j+1 -1) (t+w*2 ^ (64 -s) % 18446744073709551616)).getD (j+1+1 -1) 0<2 ^ (64 -s))/\(∀u,j+1+1<=u->((z.set (j+1) (w / 2 ^ s)).set (j+1 -1) (t+w*2 ^ (64 -s) % 18446744073709551616)).getD u 0=0)/\a3 ((z.set (j+1) (w / 2 ^ s)).set (j+1 -1) (t+w*2 ^ (64 -s) % 18446744073709551616))=a3 ((aS x).take (j+1+1)) / 2 ^ s:=by
      rw[lg];refine⟨I,by rw[g6,g6];exact aG,rn (rn bu J7) JT,fun _=>?_,fun u hu=>by rw[y4 I,y4 I];exact eG u I,aow I I aJ (eG _ (bF _)) hw ar⟩;rw[lg,y4 I,gI,mz,a2 rfl,a2 I];exact J8
    refine aa 0x30852618439 ?_;rw[show(64:Int) -(s:Int)=((64 -s:Nat):Int) by omega];refine eT V.o3 ?_;rw[y5];refine eT V.o3 ?_;rw[He tx wL,KV I p9];refine eT V.c7 ?_;refine' iK ?hs ?_;case hs=>exact k3 (j+1 -1) (by rw[g6];omega)
    refine aa 0x1808f38 ?_;refine eH ⟨j+1+1,(z.set (j+1) (w / 2 ^ s)).set (j+1 -1) (t+w*2 ^ (64 -s) % 18446744073709551616)⟩ ?_;exact bb
   ·obtain rfl:i=0:=I
    have bb:0+1<=(aS x).length/\(z.set 0 (w / 2 ^ s)).length=(aS x).length/\okW (z.set 0 (w / 2 ^ s))/\(0<0+1->(z.set 0 (w / 2 ^ s)).getD (0+1 -1) 0<2 ^ (64 -s))/\(∀u,0+1<=u->(z.set 0 (w / 2 ^ s)).getD u 0=0)/\a3 (z.set 0 (w / 2 ^ s))=a3 ((aS x).take (0+1)) / 2 ^ s:=by
      refine⟨I,by rw[g6];exact aG,rn bu J7,fun _=>?_,fun u hu=>by rw[y4 I];exact eG u I,?_⟩
      ·rw[gI,mz,a2 rfl,a2 I];exact J8
      ·have aw:=Bm (l:=z) (i:=0) (x:=0) (y:=w / 2 ^ s) (by rw[Jf (z:=z) (t:=0) I,eG 0 (bF _)])
       rw[ar,fq,show a3 []=0 from rfl,Mg,zu] at aw;rw[kC hw,fq,show a3 []=0 from rfl,zu,h',kH];omega
    refine aa 0x3011e757 ?_;refine eH ⟨0+1,z.set 0 (w / 2 ^ s)⟩ ?_;exact bb
  ·obtain rfl:i=(aS x).length:=I
   refine aa 0xe757 ?_;refine' W.step rfl (Exec.call rfl rfl rfl rfl rfl rfl rfl (bl:=[et .u64 120 rL z]) (c2:=[]) (.refl _) trivial (xA (l:=z) bu I (bF _) I) ?_);rintro v' m' ae hle ⟨k,rfl,hk,gl,rfl,rfl⟩;refine aa 0x302 ?_;refine aB.hy rfl fun aM=>?_;refine aa 0x357 ?_;refine bo ?_;exact⟨aM,rfl,cp.row (by rw[gl,<-aG,cM (bF _),ar,cM (bF _),hr]) I hk (jD I) (af.gC _ _ _)⟩
end
end
end Go.Opn

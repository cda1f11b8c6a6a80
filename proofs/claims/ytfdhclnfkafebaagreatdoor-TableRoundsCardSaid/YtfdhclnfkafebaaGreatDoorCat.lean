/- A part of the proof of TableRounds. -/
import Derived.Test.YtfdhclnfkafebaaGreatDoorCas
import Derived.Test.YtfdhclnfkafebaaGreatDoorCar
set_option maxRecDepth 100000
set_option maxHeartbeats 4000000
set_option linter.unusedVariables false
set_option linter.unusedSimpArgs false
namespace Go.Opn
noncomputable section
open Go.Cre Go.RowKit Go.Proofs
theorem LP{z:List Nat}{i y:Nat}(h:i<z.length):a9 ((z.set i y).take (i+1))=a9 (z.take i)+18446744073709551616 ^ i*y:=by
 rw[la (x:=y) (by rw[mS,bj rfl,bj h]),IP (bX i)]
theorem Jo(i s:Nat):18446744073709551616 ^ i*s=18446744073709551616 ^ i*(s % 18446744073709551616)+18446744073709551616 ^ (i+1)*(s / 18446744073709551616):=by
 conv=>lhs;rw[<-yb s 18446744073709551616]
 rw[cS,fC,fi]
theorem amM{x y:List Nat}{z:List Nat}{i c a b:Nat}(ar:i<z.length)(aI:x.getD i 0=a)(ak:y.getD i 0=b)(h:a9 (z.take i)+18446744073709551616 ^ i*c=a9 (x.take i)+a9 (y.take i)):
 a9 ((z.set i ((a+b+c) % 18446744073709551616)).take (i+1))+18446744073709551616 ^ (i+1)*((a+b+c) / 18446744073709551616)=a9 (x.take (i+1))+a9 (y.take (i+1)):=by
 rw[LP ar,zw x,zw y,aI,ak];have e:=Jo i (a+b+c);rw[cS,cS] at e;omega
theorem akX{x y:List Nat}{z:List Nat}{i c a b:Nat}(ar:i<z.length)(i':a<18446744073709551616)(iy:b<18446744073709551616)(aJ:c<=1)(aI:x.getD i 0=a)(ak:y.getD i 0=b)(h:a9 (z.take i)+a9 (y.take i)=a9 (x.take i)+18446744073709551616 ^ i*c):
 a9 ((z.set i ((a+18446744073709551616 -b -c) % 18446744073709551616)).take (i+1))+a9 (y.take (i+1))=a9 (x.take (i+1))+18446744073709551616 ^ (i+1)*(if a<b+c then 1 else 0):=by
 rw[LP ar,zw x,zw y,aI,ak];have e:(a+18446744073709551616 -b -c) % 18446744073709551616+b+c=a+18446744073709551616*(if a<b+c then 1 else 0):=by
  split<;>omega
 have aW:=aa (18446744073709551616 ^ i*·) e;simp only[cS] at aW;have cw:∀t:Nat,18446744073709551616 ^ i*(18446744073709551616*t)=18446744073709551616 ^ (i+1)*t:=fun t=>by rw[fC,fi]
 rw[cw] at aW;omega
section
variable {Q:dD Tryz.prog}{g0:Nat}{J:an}
theorem amL{v w:Value}{x y:Nat}(ab:cx J v x)(aB:cx J w y)(gP:(aR x).length<=100000)(jK:(aR y).length<=100000):Fn (a1 Q g0) 124 [v,w] [] J (j' J (x+y)):=by
 have dM:=ab;have eU:=aB;obtain⟨bQ,bH,rfl,aX⟩:=ab.bG;obtain⟨bL,bM,rfl,aU⟩:=aB.bG;refine Fn.cr (cu Tryz.func124) rfl rfl fun H=>?_;refine rg ?_;refine U V.au ?_;refine a2 ?_;refine al ?_;refine U V.bb ?_;refine a3 ?_;refine eP [0,1,14] ?_;refine ao ?_;refine' ae.lW (α:=(Value)×(Value)×(Nat)×(Nat)) 3 (fun(a6:(Value)×(Value)×(Nat)×(Nat))=>match a6 with|(aY,h',p,q)=>[(0,aY),(1,h')]) (fun(a6:(Value)×(Value)×(Nat)×(Nat))=>match a6 with|(aY,h',p,q)=>[]) (fun(a6:(Value)×(Value)×(Nat)×(Nat))=>match a6 with|(aY,h',p,q)=>J) (fun(a6:(Value)×(Value)×(Nat)×(Nat))=>match a6 with|(aY,h',p,q)=>cx J aY p/\cx J h' q/\(aR q).length<=(aR p).length/\(aR p).length<=100000/\p+q=x+y) ?M' ?Ns
 case M'=>
  refine If (fun gJ=>?_) fun gJ=>?_
  ·refine rg ?_;refine al ?_;refine a3 ?_;refine'⟨⟨.slice bL (aR y).length bM,.slice bQ (aR x).length bH,y,x⟩,_,?hinv,rfl,⟨?dc,?c1,trivial⟩,gK,rfl⟩;case dc=>first|exact bg|exact aa some (aa (Value.int .u64) I)|exact aa some (aa (Value.int .i64) I)
   case c1=>first|exact bg|exact aa some (aa (Value.int .u64) I)|exact aa some (aa (Value.int .i64) I)
   case hinv=>exact⟨eU,dM,I,jK,I⟩
  ·refine ao ?_;refine ae.skip ?_;refine'⟨⟨.slice bQ (aR x).length bH,.slice bL (aR y).length bM,x,y⟩,_,?hinv,rfl,⟨?dc,?c1,trivial⟩,gK,rfl⟩;case dc=>first|exact bg|exact aa some (aa (Value.int .u64) I)|exact aa some (aa (Value.int .i64) I)
   case c1=>first|exact bg|exact aa some (aa (Value.int .u64) I)|exact aa some (aa (Value.int .i64) I)
   case hinv=>exact⟨dM,eU,I,gP,rfl⟩
 case Ns=>
  rintro⟨aY,h',p,q⟩ hinv;try simp only at hinv
  obtain⟨eT,e4,hle,e2,ax⟩:=hinv;have hF:=eT;have h1:=e4;obtain⟨fI,gV,rfl,gl⟩:=eT.bG;obtain⟨gz,e7,rfl,iC⟩:=e4.bG;refine rg ?_;refine al ?_;refine U V.aY ?_;refine' W.step rfl (.of (qN rfl rfl rfl rfl rfl (kj Q g0) ?aO ?ad ?af fun Ty=>?_));case aO=>exact bz
  case ad=>exact bz
  case af=>exact bz
  refine U V.au ?_;refine a3 ?_;rw[show(((aR p).length:Int)+1).toNat=(aR p).length+1 by omega,zero_num];refine rg ?_;refine U V.au ?_;refine a2 ?_;refine al ?_;refine aA ?_;refine ae.block ?_;refine' ae.dO (l':=[(23,.int .i64 ((0):Int)),(6,.int .u64 ((0):Int)),(0,_),(1,_),(5,_),(21,_),(22,_)]) ⟨?ap6,?j4,rfl,rfl,rfl,rfl,rfl,trivial⟩ (bx _) ?_;case ap6=>first|exact bg|exact aa some (aa (Value.int .u64) I)|exact aa some (aa (Value.int .i64) I)
  case j4=>first|exact bg|exact aa some (aa (Value.int .u64) I)|exact aa some (aa (Value.int .i64) I)
  refine ao ?_;refine' ae.e2 (fun(a6:Nat×Nat×(List Nat))=>match a6 with|(i,c,z)=>⟨[(23,.int .i64 (i:Int)),(6,.int .u64 (c:Int))],[eO .u64 122 Ty z],J,i<=(aR p).length/\c<=1/\z.length=(aR p).length+1/\okW z/\a9 (z.take i)+18446744073709551616 ^ i*c=a9 ((aR p).take i)+a9 ((aR q).take i),(aR p).length -i⟩) ⟨0,0,List.replicate ((aR p).length+1) 0⟩ ?ag ?bD
  case ag=>exact⟨ep _,by decide,mT,y7,by rw[fh,fh,fh];rfl⟩
  case bD=>
   rintro⟨i,c,z⟩ hinv;try simp only at hinv
   obtain⟨ar,aJ,aL,cc,az⟩:=hinv;refine rg ?_;refine U V.bb ?_;refine aA ?_;refine If (fun z1=>?_) fun z1=>?_
   ·obtain⟨I7,HA,adU,afg,rfl,hy,g'⟩:=hF.at (ng I);obtain⟨a,aI,ny,i'⟩:=g' i I;have qt:=FE (nF q) i;refine dW ?_;refine ao ?_;refine ae.block ?_;refine rg ?_;refine U V.ay ?_;refine U V.bh ?_;refine U V.cg ?_;refine al ?_;refine a2 ?_;refine U V.au ?_;refine a2 ?_;refine al ?_;refine U V.bb ?_;refine a3 ?_;refine eP [9,31,0,1,5,6,7,8,21,22,23] ?_;refine ao ?_;refine' ae.hf 2 [(9,.int .u64 (((aR q).getD i 0:Nat):Int))] ?Na ?Nt;case Na=>
     refine If (fun mZ=>?_) fun mZ=>?_
     ·obtain⟨yi,jM,adQ,afd,rfl,ag3,As⟩:=h1.at (ng I);obtain⟨b,ak,yQ,_⟩:=As i I;refine rg ?_;refine al ?_;refine U V.bh ?_;refine U V.cg ?_;refine U V.au ?_;refine a3 ?_;refine'⟨⟨_,rfl,⟨?mK,rfl,rfl,rfl,rfl,rfl,rfl,rfl,rfl,rfl,trivial⟩⟩,bx _,rfl⟩;case mK=>first|exact aa some (aa (Value.int .u64) (by rw[ig ak]))|exact aa some (aa (Value.int .u64) (by rw[lX (l:=aR q) I];rfl))
     ·refine ao ?_;refine ae.skip ?_;refine'⟨⟨_,rfl,⟨?mK,rfl,rfl,rfl,rfl,rfl,rfl,rfl,rfl,rfl,trivial⟩⟩,bx _,rfl⟩;case mK=>first|exact aa some (aa (Value.int .u64) (by rw[ig ak]))|exact aa some (aa (Value.int .u64) (by rw[lX (l:=aR q) I];rfl))
    case Nt=>
     refine rg ?_;refine al ?_;refine bN (G:=we aJ) (h:=?_);rintro v' m' ah hle ⟨rfl,rfl,rfl⟩;refine al ?_;refine U V.bh ?_;refine' W.step rfl (.of (ia rfl rfl rfl rfl (hh rfl) rfl rfl rfl ?ad ?ag ?ap ?_));case ap=>repeat first|exact .head _ _ _ _|apply dh.tail|apply dh.app
     case ag=>exact k8 i I
     case ad=>first|rfl|assumption
     refine U V.au ?_;refine a2 ?_;refine U V.aY ?_;refine U V.ay ?_;refine a3 ?_;refine fl ⟨i+1,(a+(aR q).getD i 0+c) / 18446744073709551616,z.set i ((a+(aR q).getD i 0+c) % 18446744073709551616)⟩ ?_;exact⟨I,I,by rw[hr];exact aL,rC cc (fJ _ bC),amM I (ig aI) rfl az⟩
   ·obtain rfl:i=(aR p).length:=I
    refine ao ?_;refine ae.exit ?_;refine rg ?_;refine al ?_;refine U V.bh ?_;refine' W.step rfl (.of (ia rfl rfl rfl rfl (hh rfl) rfl rfl rfl ?ad ?ag ?ap ?_));case ap=>repeat first|exact .head _ _ _ _|apply dh.tail|apply dh.app
    case ag=>exact k8 (aR p).length I
    case ad=>first|rfl|assumption
    refine a2 ?_;refine U V.ay ?_;refine' W.step rfl (Exec.call rfl rfl rfl rfl rfl rfl rfl (cj:=[eO .u64 122 Ty (z.set (aR p).length c)]) (eB:=[]) (.refl _) trivial (xU (l:=z.set (aR p).length c) (rC cc I) (by rw[hr,aL];exact bX _) (bX _) I) ?_);rintro v' m' ah hle ⟨k,rfl,hk,gD,rfl,rfl⟩;refine U V.au ?_;refine a3 ?_;refine ae.h9 rfl fun aK=>?_;refine ao ?_;refine ae.ret ?_;refine'⟨.inr rfl,rfl,_,[],.tmp rfl .nil,br _,?_⟩;exact⟨aK,rfl,cx.row (by
      rw[gD,LP I,az,dd (bX _),dd I,hp,hp,ax]) (by rw[hr,aL];exact hk) hk (kF I) (an.g7 _ _ _)⟩
theorem XU{v w:Value}{x y:Nat}(ab:cx J v x)(aB:cx J w y)(gP:(aR x).length<=100000)(jK:(aR y).length<=100000)(h:y<=x):Fn (a1 Q g0) 125 [v,w] [] J (j' J (x -y)):=by
 have dM:=ab;have eU:=aB;obtain⟨bQ,bH,rfl,aX⟩:=ab.bG;obtain⟨bL,bM,rfl,aU⟩:=aB.bG;have ke:(aR y).length<=(aR x).length:=jv h;refine Fn.cr (cu Tryz.func125) rfl rfl fun H=>?_;refine rg ?_;refine U V.au ?_;refine a2 ?_;refine al ?_;refine' W.step rfl (.of (qN rfl rfl rfl rfl rfl (kj Q g0) ?aO ?ad ?af fun EK=>?_));case aO=>exact bz
 case ad=>exact bz
 case af=>exact bz
 refine U V.au ?_;refine a3 ?_;rw[show((aR x).length:Int).toNat=(aR x).length by omega,zero_num];refine rg ?_;refine U V.au ?_;refine a2 ?_;refine al ?_;refine aA ?_;refine ae.block ?_;refine' ae.dO (l':=[(15,.int .i64 ((0):Int)),(6,.int .u64 ((0):Int)),(1,_),(5,_),(13,_),(14,_)]) ⟨?Ie,?j4,rfl,rfl,rfl,rfl,trivial⟩ (bx _) ?_;case Ie=>first|exact bg|exact aa some (aa (Value.int .u64) I)|exact aa some (aa (Value.int .i64) I)
 case j4=>first|exact bg|exact aa some (aa (Value.int .u64) I)|exact aa some (aa (Value.int .i64) I)
 refine ao ?_;refine' ae.e2 (fun(a6:Nat×Nat×(List Nat))=>match a6 with|(i,c,z)=>⟨[(15,.int .i64 (i:Int)),(6,.int .u64 (c:Int))],[eO .u64 122 EK z],J,i<=(aR x).length/\c<=1/\z.length=(aR x).length/\okW z/\a9 (z.take i)+a9 ((aR y).take i)=a9 ((aR x).take i)+18446744073709551616 ^ i*c,(aR x).length -i⟩) ⟨0,0,List.replicate (aR x).length 0⟩ ?ag ?bD
 case ag=>exact⟨ep _,by decide,mT,y7,by rw[fh,fh,fh];rfl⟩
 case bD=>
  rintro⟨i,c,z⟩ hinv;try simp only at hinv
  obtain⟨ar,aJ,aL,cc,az⟩:=hinv;refine rg ?_;refine U V.bb ?_;refine aA ?_;refine If (fun jo=>?_) fun jo=>?_
  ·obtain⟨I7,HA,adU,afg,rfl,hy,g'⟩:=dM.at (ng I);obtain⟨a,aI,ny,i'⟩:=g' i I;have qt:=FE (nF y) i;refine dW ?_;refine ao ?_;refine ae.block ?_;refine rg ?_;refine U V.ay ?_;refine U V.bh ?_;refine U V.cg ?_;refine al ?_;refine a2 ?_;refine U V.au ?_;refine a2 ?_;refine al ?_;refine U V.bb ?_;refine a3 ?_;refine eP [9,23,1,5,6,7,8,13,14,15] ?_;refine ao ?_;refine' ae.hf 2 [(9,.int .u64 (((aR y).getD i 0:Nat):Int))] ?adA ?aeJ;case adA=>
    refine If (fun r8=>?_) fun r8=>?_
    ·obtain⟨yi,jM,adQ,afd,rfl,ag3,As⟩:=eU.at (ng I);obtain⟨b,ak,yQ,_⟩:=As i I;refine rg ?_;refine al ?_;refine U V.bh ?_;refine U V.cg ?_;refine U V.au ?_;refine a3 ?_;refine'⟨⟨_,rfl,⟨?mK,rfl,rfl,rfl,rfl,rfl,rfl,rfl,rfl,trivial⟩⟩,bx _,rfl⟩;case mK=>first|exact aa some (aa (Value.int .u64) (by rw[ig ak]))|exact aa some (aa (Value.int .u64) (by rw[lX (l:=aR y) I];rfl))
    ·refine ao ?_;refine ae.skip ?_;refine'⟨⟨_,rfl,⟨?mK,rfl,rfl,rfl,rfl,rfl,rfl,rfl,rfl,trivial⟩⟩,bx _,rfl⟩;case mK=>first|exact aa some (aa (Value.int .u64) (by rw[ig ak]))|exact aa some (aa (Value.int .u64) (by rw[lX (l:=aR y) I];rfl))
   case aeJ=>
    refine rg ?_;refine al ?_;refine bN (G:=LJ aJ) (h:=?_);rintro v' m' ah hle ⟨rfl,rfl,rfl⟩;refine al ?_;refine U V.bh ?_;refine' W.step rfl (.of (ia rfl rfl rfl rfl (hh rfl) rfl rfl rfl ?ad ?ag ?ap ?_));case ap=>repeat first|exact .head _ _ _ _|apply dh.tail|apply dh.app
    case ag=>exact k8 i I
    case ad=>first|rfl|assumption
    refine U V.au ?_;refine a2 ?_;refine U V.aY ?_;refine U V.ay ?_;refine a3 ?_;refine fl ⟨i+1,(if a<(aR y).getD i 0+c then 1 else 0),z.set i ((a+18446744073709551616 -(aR y).getD i 0 -c) % 18446744073709551616)⟩ ?_;exact⟨I,by split<;>omega,by rw[hr];exact aL,rC cc (fJ _ bC),akX I i' qt aJ (ig aI) rfl az⟩
  ·obtain rfl:i=(aR x).length:=I
   have lu:c=0:=by
    have ad:=rO (sM (i:=(aR x).length) cc);rw[dY,aL,Nat.min_self] at ad;rw[dd (l:=aR x) (bX _),dd (l:=aR y) I,hp,hp] at az;obtain rfl|rfl:c=0\/c=1:=I
    ·rfl
    ·rw[gT] at az;omega
   refine ao ?_;refine ae.exit ?_;refine rg ?_;refine U V.ay ?_;refine' W.step rfl (Exec.call rfl rfl rfl rfl rfl rfl rfl (cj:=[eO .u64 122 EK z]) (eB:=[]) (.refl _) trivial (xU (l:=z) cc I (bX _) I) ?_);rintro v' m' ah hle ⟨k,rfl,hk,gD,rfl,rfl⟩;refine U V.au ?_;refine a3 ?_;refine ae.h9 rfl fun aK=>?_;refine ao ?_;refine ae.ret ?_;refine'⟨.inr rfl,rfl,_,[],.tmp rfl .nil,br _,?_⟩;exact⟨aK,rfl,cx.row (by
    rw[dd (l:=aR x) (bX _),dd (l:=aR y) I,hp,hp,lu,jk] at az;rw[gD];congr 1;omega) I hk (kF I) (an.g7 _ _ _)⟩
end
theorem G9{a b:Nat}(aI:a<18446744073709551616)(ak:b<18446744073709551616):a*b<=340282366920938463426481119284349108225:=r1 (show a<=18446744073709551615 by omega) (show b<=18446744073709551615 by omega)
theorem zk{z:List Nat}{p t y:Nat}(h:t≠p):(z.set p y).getD t 0=z.getD t 0:=by
 rw[g5,g5,mS,bd (fun q=>h q.symm)]
theorem JF{z:List Nat}{t:Nat}(h:t<z.length):z[t]?=some (z.getD t 0):=by
 rw[g5,eE h];rfl
theorem ao2{y z:List Nat}{i j t c a b s A:Nat}(aL:z[i+j]?=some t)(h:a9 z+18446744073709551616 ^ (i+j)*c=A+a*18446744073709551616 ^ i*a9 (y.take j))(ak:y[j]?=some b)(ag:s=a*b+t+c):
 a9 (z.set (i+j) (s % 18446744073709551616))+18446744073709551616 ^ (i+(j+1))*(s / 18446744073709551616)=A+a*18446744073709551616 ^ i*a9 (y.take (j+1)):=by
 have aC:=BL (y:=s % 18446744073709551616) aL;have aW:=Jo (i+j) s;rw[la ak,cS];have cw:a*18446744073709551616 ^ i*(18446744073709551616 ^ j*b)=18446744073709551616 ^ (i+j)*(a*b):=by rw[oB];ac_rfl
 rw[cw];have ed:18446744073709551616 ^ (i+j)*s=18446744073709551616 ^ (i+j)*(a*b)+18446744073709551616 ^ (i+j)*t+18446744073709551616 ^ (i+j)*c:=by rw[ag,cS,cS]
 rw[show i+(j+1)=i+j+1 from rfl];omega
theorem ao1{x z:List Nat}{i n c a Y:Nat}(ar:i+n<z.length)(aL:z.getD (i+n) 0=0)(aI:x[i]?=some a)(h:a9 z+18446744073709551616 ^ (i+n)*c=a9 (x.take i)*Y+a*18446744073709551616 ^ i*Y):
 a9 (z.set (i+n) c)=a9 (x.take (i+1))*Y:=by
 have aC:=BL (y:=c) (JF ar);rw[aL,jk,iI,h] at aC;rw[aC,la aI,c3,dz a]
section
variable {Q:dD Tryz.prog}{g0:Nat}{J:an}
theorem BD{v w:Value}{x y:Nat}(ab:cx J v x)(aB:cx J w y)(gP:(aR x).length<=100000)(jK:(aR y).length<=100000):Fn (a1 Q g0) 73 [v,w] [] J (j' J (x*y)):=by
 have dM:=ab;have eU:=aB;obtain⟨bQ,bH,rfl,aX⟩:=ab.bG;obtain⟨bL,bM,rfl,aU⟩:=aB.bG;refine Fn.cr (cu Tryz.func73) rfl rfl fun H=>?_;refine rg ?_;refine U V.au ?_;refine a3 ?_;refine eP [0,1] ?_;refine ao ?_;refine' ae.hf 0 [(21,.bool (decide (((aR x).length=0\/(aR y).length=0))))] ?m0 ?m2;case m0=>
  refine ae.region ?_;refine al ?_;refine U V.bb ?_;refine U V.ay ?_;refine ft 17 (fun jD=>?_) fun jD=>?_
  ·refine bs ?_;refine bs ?_;refine bs ?_;refine U V.bt ?_;refine a3 ?_;refine'⟨⟨_,rfl,⟨?vB,rfl,rfl,trivial⟩⟩,bx _,rfl⟩;case vB=>first|exact fw rfl (by first|omega|(simp_all;done))|exact fu rfl (by first|omega|(simp_all;done))|exact fv rfl (by first|omega|(simp_all;done))|exact fE rfl (by first|omega|(simp_all;done))
  ·refine bo V.ay ?_;refine bo V.h7 ?_;refine bo V.bb ?_;refine U V.bt ?_;refine a3 ?_;refine'⟨⟨_,rfl,⟨?vB,rfl,rfl,trivial⟩⟩,bx _,rfl⟩;case vB=>first|exact fw rfl (by first|omega|(simp_all;done))|exact fu rfl (by first|omega|(simp_all;done))|exact fv rfl (by first|omega|(simp_all;done))|exact fE rfl (by first|omega|(simp_all;done))
 case m2=>
  refine ao ?_;refine If (fun mX=>?_) fun mX=>?_
  ·have aL:x*y=0:=by
    rcases mX with k|k
    ·rw[show x=0 from jh fun q=>Ec q k,j8]
    ·rw[show y=0 from jh fun q=>Ec q k,jk]
   refine rg ?_;refine U V.au ?_;refine aA ?_;refine ae.ret ?_;refine'⟨.inr rfl,rfl,_,[],.tmp rfl .nil,br _,?_⟩;first
    |exact⟨an.le.refl _,rfl,by rw[aL];exact cx.nil⟩
    |exact⟨aK,rfl,cx.row (by
      rw[gD,<-aL,dd (bX _),az,dd (bX _),hp]) I hk (kF I) (an.g7 _ _ _)⟩
  ·refine ao ?_;refine ae.skip ?_;refine rg ?_;refine U V.ay ?_;refine bN (G:=Du dM gP) (h:=?_);rintro v' m' ah hle ⟨rfl,rfl,rfl⟩;refine aA ?_;refine If (fun r8=>?_) fun r8=>?_
   ·refine rg ?_;refine al ?_;refine aA ?_;refine ae.ret ?_;refine'⟨.inr rfl,rfl,_,[],.tmp rfl .nil,br _,?_⟩;first
      |(have c:=r8
        exact⟨an.le.refl _,rfl,by rw[c,iL];exact eU⟩)
      |exact⟨an.le.refl _,rfl,by rw[aL];exact cx.nil⟩
      |exact⟨aK,rfl,cx.row (by
        rw[gD,<-aL,dd (bX _),az,dd (bX _),hp]) I hk (kF I) (an.g7 _ _ _)⟩
   ·refine ao ?_;refine ae.skip ?_;refine rg ?_;refine U V.ay ?_;refine bN (G:=Du eU jK) (h:=?_);rintro v' m' ah hle ⟨rfl,rfl,rfl⟩;refine aA ?_;refine If (fun mc=>?_) fun mc=>?_
    ·refine rg ?_;refine al ?_;refine aA ?_;refine ae.ret ?_;refine'⟨.inr rfl,rfl,_,[],.tmp rfl .nil,br _,?_⟩;first
        |(have c:=mc
          exact⟨an.le.refl _,rfl,by rw[c,gT];exact dM⟩)
        |(have c:=r8
          exact⟨an.le.refl _,rfl,by rw[c,iL];exact eU⟩)
        |exact⟨an.le.refl _,rfl,by rw[aL];exact cx.nil⟩
        |exact⟨aK,rfl,cx.row (by
          rw[gD,<-aL,dd (bX _),az,dd (bX _),hp]) I hk (kF I) (an.g7 _ _ _)⟩
    ·refine ao ?_;refine ae.skip ?_;refine rg ?_;refine al ?_;refine U V.aY ?_;refine' W.step rfl (.of (qN rfl rfl rfl rfl rfl (kj Q g0) ?aO ?ad ?af fun MC=>?_));case aO=>exact bz
     case ad=>exact bz
     case af=>exact bz
     refine U V.au ?_;refine a3 ?_;rw[show(((aR x).length:Int)+((aR y).length:Int)).toNat=(aR x).length+(aR y).length by omega,zero_num];obtain⟨tg,eN,nV,ex,rfl,tz,k3⟩:=dM.at (ng I);obtain⟨Ce,hI,tm,n1,rfl,CN,og⟩:=eU.at (ng I);refine rg ?_;refine al ?_;refine aA ?_;refine ae.block ?_;refine' ae.dO (l':=[(36,.int .i64 ((0):Int)),(1,_),(5,_),(34,_),(35,_)]) ⟨?ap',rfl,rfl,rfl,rfl,trivial⟩ (bx _) ?_;case ap'=>first|exact bg|exact aa some (aa (Value.int .u64) I)|exact aa some (aa (Value.int .i64) I)
     refine ao ?_;refine' ae.e2 (fun(a6:Nat×(List Nat))=>match a6 with|(i,z)=>⟨[(36,.int .i64 (i:Int))],[eO .u64 122 MC z],J,i<=(aR x).length/\z.length=(aR x).length+(aR y).length/\okW z/\a9 z=a9 ((aR x).take i)*y/\(∀t,i+(aR y).length<=t->z.getD t 0=0),(aR x).length -i⟩) ⟨0,List.replicate ((aR x).length+(aR y).length) 0⟩ ?ag ?bD
     case ag=>exact⟨ep _,mT,y7,by rw[LQ,fh];show 0=0*y;rw[j8],fun t _=>by rw[g5,Md];split<;>rfl⟩
     case bD=>
      rintro⟨i,z⟩ hinv;try simp only at hinv
      obtain⟨ar,aL,cc,az,e1⟩:=hinv;refine rg ?_;refine U V.bb ?_;refine aA ?_;refine If (fun z2=>?_) fun z2=>?_
      ·
        obtain⟨a,aI,ny,i'⟩:=k3 i I;refine dW ?_;refine ao ?_;refine ae.block ?_;refine rg ?_;refine U V.ay ?_;refine U V.bh ?_;refine U V.cg ?_;refine al ?_;refine a2 ?_;refine U V.au ?_;refine a2 ?_;refine al ?_;refine aA ?_;refine ae.block ?_;refine' ae.dO (l':=[(43,.int .i64 ((0):Int)),(8,.int .u64 ((0):Int)),(1,_),(5,_),(6,_),(7,_),(34,_),(35,_),(36,_),(41,_),(42,_)]) ⟨?aqa,?l8,rfl,rfl,rfl,rfl,rfl,rfl,rfl,rfl,rfl,trivial⟩ (bx _) ?_;case aqa=>first|exact bg|exact aa some (aa (Value.int .u64) I)|exact aa some (aa (Value.int .i64) I)
        case l8=>first|exact bg|exact aa some (aa (Value.int .u64) I)|exact aa some (aa (Value.int .i64) I)
        refine ao ?_;refine' ae.e2 (fun(a6:Nat×Nat×(List Nat))=>match a6 with|(j,c,dt)=>⟨[(43,.int .i64 (j:Int)),(8,.int .u64 (c:Int))],[eO .u64 122 MC dt],J,j<=(aR y).length/\c<18446744073709551616/\dt.length=(aR x).length+(aR y).length/\okW dt/\a9 dt+18446744073709551616 ^ (i+j)*c=a9 ((aR x).take i)*y+a*18446744073709551616 ^ i*a9 ((aR y).take j)/\(∀t,i+(aR y).length<=t->dt.getD t 0=0),(aR y).length -j⟩) ⟨0,0,z⟩ ?ag ?bD
        case ag=>exact⟨ep _,by decide,aL,cc,by rw[jk,az,fh];rfl,e1⟩
        case bD=>
         rintro⟨j,c,dt⟩ hinv;try simp only at hinv
         obtain⟨bf,gY,gD,AH,AP,P7⟩:=hinv;refine rg ?_;refine U V.bb ?_;refine aA ?_;refine If (fun acZ=>?_) fun acZ=>?_
         ·obtain⟨b,ak,yQ,iy⟩:=og j I;obtain⟨P,cX⟩:∃P,P=a*b:=⟨_,rfl⟩;have sk:=G9 i' iy;rw[<-cX] at sk;obtain⟨t,aS⟩:∃t,dt[i+j]?=some t:=⟨_,eE I⟩;have tM:=xz AH aS;have e1:nth (b7 .u64 dt) (0+((i:Int)+(j:Int)).toNat*1)=some (.int .u64 (t:Int)):=oV aS I;obtain⟨s,ag⟩:∃s,s=P+t+c:=⟨_,rfl⟩;refine dW ?_;refine ao ?_;refine ae.block ?_;refine rg ?_;refine U V.ay ?_;refine U V.bh ?_;refine U V.cg ?_;refine al ?_;refine a2 ?_;refine al ?_;refine bN (G:=DG i' iy) (h:=?_);rintro v' m' ah hle ⟨rfl,rfl,rfl⟩;rw[<-cX];refine al ?_;refine a2 ?_;refine U V.au ?_;refine a2 ?_;refine al ?_;refine U V.aY ?_;refine U V.bh ?_;refine U V.cg ?_;refine bN (G:=we (c:=0) I) (h:=?_);rintro v' m' ah hle ⟨rfl,rfl,rfl⟩;refine al ?_;refine a2 ?_;refine al ?_;refine U V.aY ?_;refine U V.au ?_;refine a2 ?_;refine al ?_;refine bN (G:=we (c:=0) I) (h:=?_);rintro v' m' ah hle ⟨rfl,rfl,rfl⟩;refine al ?_;refine a2 ?_;refine al ?_;refine U V.aY ?_;refine al ?_;refine U V.aY ?_;rw[show((P % 18446744073709551616+t+0) % 18446744073709551616+c+0) % 18446744073709551616=s % 18446744073709551616 by omega];rw[show((P / 18446744073709551616:Nat):Int)+(((P % 18446744073709551616+t+0) / 18446744073709551616:Nat):Int)+((((P % 18446744073709551616+t+0) % 18446744073709551616+c+0) / 18446744073709551616:Nat):Int)=((s / 18446744073709551616:Nat):Int) by omega];refine U V.bh ?_;refine' W.step rfl (.of (ia rfl rfl rfl rfl (hh rfl) rfl rfl rfl ?ad ?ag ?ap ?_))
          case ap=>repeat first|exact .head _ _ _ _|apply dh.tail|apply dh.app
          case ag=>exact k8 (i+j) I
          case ad=>first|rfl|assumption
          refine U V.au ?_;refine a2 ?_;refine U V.aY ?_;refine U V.ay ?_;refine a3 ?_;refine fl ⟨j+1,s / 18446744073709551616,dt.set (i+j) (s % 18446744073709551616)⟩ ?_;exact⟨I,I,by rw[hr];exact gD,rC AH (fJ _ bC),ao2 aS AP ak (by rw[ag,cX]),fun t aS=>by rw[zk I];exact P7 t I⟩
         ·obtain rfl:j=(aR y).length:=I
          have ajk:=AP;refine ao ?_;refine ae.exit ?_;refine rg ?_;refine al ?_;refine U V.aY ?_;refine U V.ay ?_;refine U V.bh ?_;refine' W.step rfl (.of (ia rfl rfl rfl rfl (hh rfl) rfl rfl rfl ?ad ?ag ?ap ?_));case ap=>repeat first|exact .head _ _ _ _|apply dh.tail|apply dh.app
          case ag=>exact k8 (i+(aR y).length) I
          case ad=>first|rfl|assumption
          refine a2 ?_;refine U V.aY ?_;refine U V.ay ?_;refine a3 ?_;refine fl ⟨i+1,dt.set (i+(aR y).length) c⟩ ?_;exact⟨I,by rw[hr];exact gD,rC AH gY,ao1 I (P7 _ (bX _)) aI (by rw[ajk,dd (l:=aR y) (bX _),hp]),fun t aS=>by rw[zk I];exact P7 t I⟩
      ·
        obtain rfl:i=(aR x).length:=I
        refine ao ?_;refine ae.exit ?_;refine rg ?_;refine U V.ay ?_;refine' W.step rfl (Exec.call rfl rfl rfl rfl rfl rfl rfl (cj:=[eO .u64 122 MC z]) (eB:=[]) (.refl _) trivial (xU (l:=z) cc I (bX _) I) ?_);rintro v' m' ah hle ⟨k,rfl,hk,gD,rfl,rfl⟩;refine U V.au ?_;refine a3 ?_;refine ae.h9 rfl fun aK=>?_;refine ao ?_;refine ae.ret ?_;refine'⟨.inr rfl,rfl,_,[],.tmp rfl .nil,br _,?_⟩;first
         |(have c:=mc
           exact⟨an.le.refl _,rfl,by rw[c,gT];exact dM⟩)
         |(have c:=r8
           exact⟨an.le.refl _,rfl,by rw[c,iL];exact eU⟩)
         |exact⟨an.le.refl _,rfl,by rw[aL];exact cx.nil⟩
         |exact⟨aK,rfl,cx.row (by
           rw[gD,<-aL,dd (bX _),az,dd (bX _),hp]) I hk (kF I) (an.g7 _ _ _)⟩
end
theorem aeD{x z:List Nat}{i r a d:Nat}(ar:i<z.length)(aI:x[i]?=some a)(h:a9 (x.drop (i+1))=d*a9 (z.drop (i+1))+r):
 a9 (x.drop i)=d*a9 ((z.set i ((r*18446744073709551616+a) / d)).drop i)+(r*18446744073709551616+a) % d:=by
 rw[Ea aI,Ea (l:=z.set i _) (i:=i) (x:=(r*18446744073709551616+a) / d) (by rw[mS,bj rfl,bj ar]),B5 I,h];have e:=lR (r*18446744073709551616+a) d;rw[cS,cS];have aW:18446744073709551616*(d*a9 (z.drop (i+1)))=d*(18446744073709551616*a9 (z.drop (i+1))):=qX _ _ _;omega
theorem wh{s:Nat}(h:s<=64):2 ^ (64 -s)*2 ^ s=18446744073709551616:=by rw[<-oB,yd h]
theorem RI{w s:Nat}(h:s<=64):w*2 ^ s % 18446744073709551616=w % 2 ^ (64 -s)*2 ^ s/\w*2 ^ s / 18446744073709551616=w / 2 ^ (64 -s):=by
 rw[<-wh h];exact⟨Ti _ _ _,IX _ _ (lS s)⟩
theorem Li{t w s:Nat}(h:s<=64)(aS:t<2 ^ s):t ||| w*2 ^ s % 18446744073709551616=t+w*2 ^ s % 18446744073709551616:=by
 rw[(RI h).1,Nat.or_comm,Ri aS,Ta]
theorem akq{x z:List Nat}{i w s t:Nat}(ag:s<=64)(ar:i+1<z.length)(aL:z[i]?=some t)(xf:z.getD (i+1) 0=0)(ab:x[i]?=some w)(h:a9 z=a9 (x.take i)*2 ^ s):
 a9 ((z.set i (t+w*2 ^ s % 18446744073709551616)).set (i+1) (w / 2 ^ (64 -s)))=a9 (x.take (i+1))*2 ^ s:=by
 have aC:=BL (y:=t+w*2 ^ s % 18446744073709551616) aL;have aW:=BL (l:=z.set i (t+w*2 ^ s % 18446744073709551616)) (i:=i+1) (x:=0) (y:=w / 2 ^ (64 -s)) (by
  rw[mS,bd I,JF ar,xf])
 rw[jk,iI] at aW;rw[aW,la ab,c3,<-h];have cw:=Jo i (w*2 ^ s);rw[(RI ag).2] at cw;rw[cS] at aC;have ed:18446744073709551616 ^ i*w*2 ^ s=18446744073709551616 ^ i*(w*2 ^ s):=fi _ _ _;omega
theorem an0{X w s i:Nat}(ag:s<=64):(X+18446744073709551616 ^ (i+1)*w) / 2 ^ s=X / 2 ^ s+18446744073709551616 ^ i*(w*2 ^ (64 -s)):=by
 have e:18446744073709551616 ^ (i+1)*w=2 ^ s*(18446744073709551616 ^ i*(w*2 ^ (64 -s))):=by
  rw[fC,<-wh ag];ac_rfl
 rw[e,Tb _ _ (lS s)]
theorem anu{x z:List Nat}{i w s t:Nat}(ag:s<=64)(ar:i+1<z.length)(aL:z[i]?=some t)(xf:z.getD (i+1) 0=0)(ab:x[i+1]?=some w)(h:a9 z=a9 (x.take (i+1)) / 2 ^ s):
 a9 ((z.set (i+1) (w / 2 ^ s)).set i (t+w*2 ^ (64 -s) % 18446744073709551616))=a9 (x.take (i+2)) / 2 ^ s:=by
 have aC:=BL (l:=z) (i:=i+1) (x:=0) (y:=w / 2 ^ s) (by rw[JF ar,xf]);have aW:=BL (l:=z.set (i+1) (w / 2 ^ s)) (i:=i) (x:=t) (y:=t+w*2 ^ (64 -s) % 18446744073709551616) (by rw[mS,bd I,aL]);rw[jk,iI] at aC;rw[aC,cS,h] at aW;rw[la (i:=i+1) ab,an0 ag];have cw:=Jo i (w*2 ^ (64 -s));rw[(RI (s:=64 -s) I).2,show 64 -(64 -s)=s by omega] at cw;omega
section
variable {Q:dD Tryz.prog}{g0:Nat}{J:an}
theorem Uw{v:Value}{x d:Nat}(ab:cx J v x)(gP:(aR x).length<=100000)(aq:0<d)(yK:d<18446744073709551616):Fn (a1 Q g0) 106 [v,.int .u64 (d:Int)] [] J (fun u m' ah=>J.le ah/\m'=[]/\∃w,u=.tuple #[w,.int .u64 ((x % d:Nat):Int)]/\cx ah w (x / d)):=by
 have dM:=ab;obtain⟨bQ,bH,rfl,aX⟩:=ab.bG;refine Fn.cr (cu Tryz.func106) rfl rfl fun H=>?_;refine rg ?_;refine al ?_;refine a2 ?_;refine al ?_;refine' W.step rfl (.of (qN rfl rfl rfl rfl rfl (kj Q g0) ?aO ?ad ?af fun r5=>?_));case aO=>exact bz
 case ad=>exact bz
 case af=>exact bz
 refine U V.au ?_;refine a3 ?_;rw[show((aR x).length:Int).toNat=(aR x).length by omega,zero_num];refine rg ?_;refine U V.au ?_;refine a2 ?_;refine al ?_;refine U V.aY ?_;refine U V.au ?_;refine aA ?_;refine ae.block ?_;refine' ae.dO (l':=[(8,.int .i64 ((((aR x).length):Int) -1)),(7,.int .u64 ((0):Int)),(0,_),(1,_),(6,_)]) ⟨?l8,?kk,rfl,rfl,rfl,trivial⟩ (bx _) ?_;case l8=>first|exact bg|exact aa some (aa (Value.int .u64) I)|exact aa some (aa (Value.int .i64) I)
 case kk=>first|exact bg|exact aa some (aa (Value.int .u64) I)|exact aa some (aa (Value.int .i64) I)
 refine ao ?_;refine' ae.e2 (fun(a6:Nat×Nat×(List Nat))=>match a6 with|(k,r,z)=>⟨[(8,.int .i64 ((k:Int) -1)),(7,.int .u64 (r:Int))],[eO .u64 122 r5 z],J,k<=(aR x).length/\r<d/\z.length=(aR x).length/\okW z/\a9 ((aR x).drop k)=d*a9 (z.drop k)+r,k⟩) ⟨(aR x).length,0,List.replicate (aR x).length 0⟩ ?ag ?bD
 case ag=>exact⟨bX _,aq,mT,y7,by rw[oy (bX _),oy (by rw[mT];exact bX _)];rfl⟩
 case bD=>
  rintro⟨k,r,z⟩ hinv;try simp only at hinv
  obtain⟨hk,av,aL,cc,az⟩:=hinv;refine rg ?_;refine U V.ay ?_;refine U V.bb ?_;refine aA ?_;refine If (fun jo=>?_) fun jo=>?_
  ·obtain⟨tg,eN,nV,ex,rfl,tz,k3⟩:=dM.at (ng I);obtain⟨a,aI,ny,i'⟩:=k3 (k -1) I;have ny:nth nV (eN+((k:Int) -1).toNat*1)=some (.int .u64 (a:Int)):=by rw[show((k:Int) -1).toNat=k -1 by omega];exact ny
   have qt:(r*18446744073709551616+a) / d<18446744073709551616:=(mV aq).2 (by
    have:=e0 18446744073709551616 (show r+1<=d from av);rw[c3,dz d] at this;omega)
   refine dW ?_;refine ao ?_;refine ae.block ?_;refine rg ?_;refine al ?_;refine U V.bh ?_;refine U V.cg ?_;refine U V.ay ?_;refine bN (G:=Np av i' yK) (h:=?_);rintro v' m' ah hle ⟨rfl,rfl,rfl⟩;refine al ?_;refine U V.bh ?_;refine' W.step rfl (.of (ia rfl rfl rfl rfl (hh rfl) rfl rfl rfl ?ad ?ag ?ap ?_));case ap=>repeat first|exact .head _ _ _ _|apply dh.tail|apply dh.app
   case ag=>exact k8 (k -1) I
   case ad=>first|rfl|assumption
   refine U V.au ?_;refine a2 ?_;refine U V.ay ?_;refine U V.aY ?_;refine U V.au ?_;refine a3 ?_;refine fl ⟨k -1,(r*18446744073709551616+a) % d,z.set (k -1) ((r*18446744073709551616+a) / d)⟩ ?_;exact⟨I,fJ _ aq,by rw[hr];exact aL,rC cc qt,aeD I aI (by rw[show k -1+1=k by omega];exact az)⟩
  ·obtain rfl:k=0:=I
   have m6:x / d=a9 z/\x % d=r:=by
    rw[hi,hi,hp] at az;have:=xJ (c4:=x) (V:=d) (g:=a9 z) (by rw[dz];omega) (by rw[c3,dz];omega);exact⟨this.1,by rw[this.2,dz];omega⟩
   refine ao ?_;refine ae.exit ?_;refine rg ?_;refine U V.ay ?_;refine' W.step rfl (Exec.call rfl rfl rfl rfl rfl rfl rfl (cj:=[eO .u64 122 r5 z]) (eB:=[]) (.refl _) trivial (xU (l:=z) cc I (bX _) I) ?_);rintro v' m' ah hle ⟨k,rfl,hk,gD,rfl,rfl⟩;refine al ?_;refine a3 ?_;refine ae.h9 rfl fun aK=>?_;rw[<-m6.2];refine ao ?_;refine ae.ret ?_;refine'⟨.inr rfl,rfl,_,[],.tmp rfl (.tmp rfl .nil),br _,⟨aK,rfl,_,rfl,cx.row (by rw[gD,m6.1,<-aL,dd (bX _)]) I hk (kF I) (an.g7 _ _ _)⟩⟩
theorem Xn{v:Value}{x s:Nat}(ab:cx J v x)(gP:(aR x).length<=100000)(ag:s<=63):Fn (a1 Q g0) 108 [v,.int .u64 (s:Int)] [] J (fun u m' ah=>∃a z,u=.slice (some ⟨a,0,none⟩) ((aR x).length+1) ((aR x).length+1)/\m'=[eO .u64 122 a z]/\z.length=(aR x).length+1/\okW z/\a9 z=x*2 ^ s/\J=ah):=by
 have dM:=ab;obtain⟨bQ,bH,rfl,aX⟩:=ab.bG;refine Fn.cr (cu Tryz.func108) rfl rfl fun H=>?_;refine rg ?_;refine U V.au ?_;refine a2 ?_;refine al ?_;refine U V.aY ?_;refine' W.step rfl (.of (qN rfl rfl rfl rfl rfl (kj Q g0) ?aO ?ad ?af fun r5=>?_));case aO=>exact bz
 case ad=>exact bz
 case af=>exact bz
 refine U V.au ?_;refine a3 ?_;rw[show(((aR x).length:Int)+1).toNat=(aR x).length+1 by omega,zero_num];refine rg ?_;refine al ?_;refine aA ?_;refine ae.block ?_;refine' ae.dO (l':=[(14,.int .i64 ((0):Int)),(1,_),(5,_),(12,_),(13,_)]) ⟨?us,rfl,rfl,rfl,rfl,trivial⟩ (bx _) ?_;case us=>first|exact bg|exact aa some (aa (Value.int .u64) I)|exact aa some (aa (Value.int .i64) I)
 refine ao ?_;refine' ae.e2 (fun(a6:Nat×(List Nat))=>match a6 with|(i,z)=>⟨[(14,.int .i64 (i:Int))],[eO .u64 122 r5 z],J,i<=(aR x).length/\z.length=(aR x).length+1/\okW z/\z.getD i 0<2 ^ s/\(∀t,i<t->z.getD t 0=0)/\a9 z=a9 ((aR x).take i)*2 ^ s,(aR x).length -i⟩) ⟨0,List.replicate ((aR x).length+1) 0⟩ ?ag ?bD
 case ag=>exact⟨ep _,mT,y7,by rw[g5,Md,bj I];exact lS s,fun t _=>by rw[g5,Md];split<;>rfl,by rw[LQ,fh];show 0=0*_;rw[j8]⟩
 case bD=>
  rintro⟨i,z⟩ hinv;try simp only at hinv
  obtain⟨ar,aL,cc,yY,e1,az⟩:=hinv;refine rg ?_;refine U V.bb ?_;refine aA ?_;refine If (fun eR=>?_) fun eR=>?_
  ·obtain⟨tg,eN,nV,ex,rfl,tz,k3⟩:=dM.at (ng I);obtain⟨w,hw,tI,tO⟩:=k3 i I;obtain⟨t,aS⟩:∃t,z[i]?=some t:=⟨_,eE I⟩;have tM:=xz cc aS;have nA:t<2 ^ s:=by rw[ig aS] at yY;exact yY
   have aiy:nth (b7 .u64 z) (0+((i:Int)).toNat*1)=some (.int .u64 (t:Int)):=oV aS I;have w2:w*2 ^ s % 18446744073709551616<18446744073709551616:=fJ _ bC;have Kf:t+w*2 ^ s % 18446744073709551616<18446744073709551616:=by rw[<-Li I nA];exact Mu (n:=64) tM w2
   have Ku:w / 2 ^ (64 -s)<2 ^ s:=(mV (lS _)).2 (by rw[dz,wh I];exact tO);have Kt:w / 2 ^ (64 -s)<18446744073709551616:=p7 (rZ _ _) tO;refine dW ?_;refine ao ?_;refine ae.block ?_;refine rg ?_;refine U V.ay ?_;refine U V.bh ?_;refine U V.cg ?_;refine al ?_;refine a2 ?_;refine al ?_;refine U V.bh ?_;refine U V.cg ?_;refine al ?_;refine' W.step rfl (Exec.val rfl rfl (s0 rfl rfl rfl ?aO ?ad) ?_);case aO=>exact bz
   case ad=>first|decide|exact bz|exact(show _<=((64:Nat):Int) from I)
   rw[zm];refine' W.step rfl (Exec.val rfl rfl (D8 rfl rfl rfl) ?_);rw[HH tM w2,Li I nA];refine U V.bh ?_;refine' W.step rfl (.of (ia rfl rfl rfl rfl (hh rfl) rfl rfl rfl ?ad ?ag ?ap ?_));case ap=>repeat first|exact .head _ _ _ _|apply dh.tail|apply dh.app
   case ag=>exact k8 i I
   case ad=>first|rfl|assumption
   refine a2 ?_;refine al ?_;refine U V.aY ?_;refine al ?_;refine U V.aY ?_;rw[show(64:Int) -(s:Int)=((64 -s:Nat):Int) by omega];refine' W.step rfl (Exec.val rfl rfl (xY rfl rfl rfl ?aO ?ad) ?_);case aO=>exact bz
   case ad=>first|decide|exact bz|exact(show _<=((64:Nat):Int) from I)
   rw[xP];refine U V.bh ?_;refine' W.step rfl (.of (ia rfl rfl rfl rfl (hh rfl) rfl rfl rfl ?ad ?ag ?ap ?_));case ap=>repeat first|exact .head _ _ _ _|apply dh.tail|apply dh.app
   case ag=>exact k8 (i+1) (by rw[hr];omega)
   case ad=>first|rfl|assumption
   refine a2 ?_;refine U V.aY ?_;refine U V.ay ?_;refine a3 ?_;refine fl ⟨i+1,(z.set i (t+w*2 ^ s % 18446744073709551616)).set (i+1) (w / 2 ^ (64 -s))⟩ ?_;exact⟨I,by rw[hr,hr];exact aL,rC (rC cc Kf) Kt,by rw[g5,mS,bj rfl,bj (by rw[hr];omega)];exact Ku,fun t aS=>by rw[zk I,zk I];exact e1 t I,akq I I aS (e1 _ I) hw az⟩
  ·obtain rfl:i=(aR x).length:=I
   refine ao ?_;refine ae.exit ?_;refine rg ?_;refine al ?_;refine aA ?_;refine ae.ret ?_;refine'⟨.inr rfl,rfl,_,_,.tmp rfl .nil,bx _,⟨r5,z,rfl,rfl,aL,cc,by rw[az,dd (bX _),hp],rfl⟩⟩
end
end
end Go.Opn
namespace Go.Opn
noncomputable section
theorem U9{A D W C:List Nat}{i k:Nat}(aq:D.length=i)(hk:i<=k)(h:k<W.length):(A++(D++W.drop i)++C)[A.length+k]?=W[k]?:=by
 rw[nM,Eu (Mp _ _),Mk]
 rw[B6 (by rw[eS,lQ];omega)]
 rw[Eu (by omega),p5]
 congr 1
 omega
theorem qG{A D W C:List Nat}{i y:Nat}(aq:D.length=i)(h:i<W.length):(A++(D++W.drop i)++C).set (A.length+i) y=A++((D++[y])++W.drop (i+1))++C:=by
 rw[nM,IN _ _ (Mp _ _),Mk]
 rw[S8 _ _ (by rw[eS,lQ];omega)]
 rw[IN _ _ (by omega),aq,uJ,IE h,Mh]
 simp
theorem aj'{W vs:List Nat}{n cm u1 bI v1 v0:Nat}(gX:W.length=n+3)(az:vs.length=n+2)(alN:okW W)(oW:okW vs)(af:W[n+2]?=some cm)(ad:W[n+1]?=some u1)(aO:W[n]?=some bI)(a7:vs[n+1]?=some v1)(kx:vs[n]?=some v0):
 uD 18446744073709551616 (18446744073709551616 ^ n) (a9 W) (a9 vs) cm u1 bI v1 v0:=by
 have aC:=la af
 rw[dd (show W.length<=n+2+1 by omega),la ad,la aO] at aC
 have aW:=la a7
 rw[dd (show vs.length<=n+1+1 by omega),la kx] at aW
 have dF:=rO (sM (i:=n) alN)
 have dq:=rO (sM (i:=n) oW)
 rw[dY,gn (by omega)] at dF dq
 refine⟨⟨_,?_,dF⟩,⟨_,?_,dq⟩⟩
 ·rw[aC,fC 18446744073709551616 (n+1),fC 18446744073709551616 n]
  obtain⟨p,ap⟩:∃p,p=18446744073709551616 ^ n:=⟨_,rfl⟩
  rw[<-ap,c3,c3,c3]
  have bO:p*18446744073709551616*18446744073709551616*cm=cm*18446744073709551616*18446744073709551616*p:=by ac_rfl
  have bA:p*18446744073709551616*u1=u1*18446744073709551616*p:=by ac_rfl
  have cU:p*bI=bI*p:=dz _ _
  rw[bO,bA,cU]
  omega
 ·rw[aW,fC 18446744073709551616 n]
  obtain⟨p,ap⟩:∃p,p=18446744073709551616 ^ n:=⟨_,rfl⟩
  rw[<-ap,c3]
  have bA:p*18446744073709551616*v1=v1*18446744073709551616*p:=by ac_rfl
  have cU:p*v0=v0*p:=dz _ _
  rw[bA,cU]
  omega
theorem ak6{W vs D:List Nat}{i g c b w u lo z c' b':Nat}(aq:D.length=i)(hw:vs[i]?=some w)(hu:W[i]?=some u)(h:a9 D+g*a9 (vs.take i)=a9 (W.take i)+18446744073709551616 ^ i*(c+b))
 (aC:g*w+c=lo+18446744073709551616*c')(aW:z+lo+b=u+18446744073709551616*b'):
 a9 (D++[z])+g*a9 (vs.take (i+1))=a9 (W.take (i+1))+18446744073709551616 ^ (i+1)*(c'+b'):=by
 rw[BM,aq,la hw,la hu,cS]
 have cw:z+g*w+b+c=u+18446744073709551616*(c'+b'):=by omega
 have ed:=aa (18446744073709551616 ^ i*·) cw
 simp only[cS] at ed
 have cH:∀t:Nat,18446744073709551616 ^ i*(18446744073709551616*t)=18446744073709551616 ^ (i+1)*t:=fun t=>by rw[fC,fi]
 rw[cH,cH] at ed
 have h0:g*(18446744073709551616 ^ i*w)=18446744073709551616 ^ i*(g*w):=qX _ _ _
 rw[h0]
 rw[cS] at h
 rw[cS]
 omega
theorem ak7{W vs D:List Nat}{n g c b u z b':Nat}(aq:D.length=n)(gX:W.length=n+1)(az:vs.length=n)(hu:W[n]?=some u)(h:a9 D+g*a9 (vs.take n)=a9 (W.take n)+18446744073709551616 ^ n*(c+b))
 (aW:z+c+b=u+18446744073709551616*b'):a9 (D++[z])+g*a9 vs=a9 W+18446744073709551616 ^ (n+1)*b':=by
 have pn:=la hu
 rw[dd (show W.length<=n+1 by omega)] at pn
 rw[BM,aq,pn]
 rw[dd (show vs.length<=n by omega)] at h
 have ed:=aa (18446744073709551616 ^ n*·) aW
 simp only[cS] at ed
 have cH:∀t:Nat,18446744073709551616 ^ n*(18446744073709551616*t)=18446744073709551616 ^ (n+1)*t:=fun t=>by rw[fC,fi]
 rw[cH] at ed
 rw[cS] at h
 omega
theorem ab7{W vs D:List Nat}{i c w u:Nat}(aq:D.length=i)(hw:vs[i]?=some w)(hu:W[i]?=some u)(h:a9 D+18446744073709551616 ^ i*c=a9 (W.take i)+a9 (vs.take i)):
 a9 (D++[(u+w+c) % 18446744073709551616])+18446744073709551616 ^ (i+1)*((u+w+c) / 18446744073709551616)=a9 (W.take (i+1))+a9 (vs.take (i+1)):=by
 rw[BM,aq,la hw,la hu]
 have e:18446744073709551616 ^ i*(u+w+c)=18446744073709551616 ^ i*((u+w+c) % 18446744073709551616)+18446744073709551616 ^ (i+1)*((u+w+c) / 18446744073709551616):=by
  conv=>lhs;rw[<-yb (u+w+c) 18446744073709551616]
  rw[cS,fC,fi]
 rw[cS,cS] at e
 omega
theorem ab8{W vs D:List Nat}{n c u:Nat}(aq:D.length=n)(gX:W.length=n+1)(az:vs.length=n)(hu:W[n]?=some u)(h:a9 D+18446744073709551616 ^ n*c=a9 (W.take n)+a9 (vs.take n)):
 a9 (D++[(u+0+c) % 18446744073709551616])+18446744073709551616 ^ (n+1)*((u+0+c) / 18446744073709551616)=a9 W+a9 vs:=by
 have pn:=la hu
 rw[dd (show W.length<=n+1 by omega)] at pn
 rw[dd (show vs.length<=n by omega)] at h
 rw[BM,aq,pn]
 have e:18446744073709551616 ^ n*(u+0+c)=18446744073709551616 ^ n*((u+0+c) % 18446744073709551616)+18446744073709551616 ^ (n+1)*((u+0+c) / 18446744073709551616):=by
  conv=>lhs;rw[<-yb (u+0+c) 18446744073709551616]
  rw[cS,fC,fi]
 rw[cS,cS] at e
 omega
theorem acs{Z g c4 v P bM Tw:Nat}(h:Z+g*v=c4+P*1)(aL:Z<P)(cA:c4<(g+1)*v)(e:Tw+P*bM=Z+v)(aJ:bM<=1):1<=g/\Tw+(g -1)*v=c4+P*(1 -bM)/\c4<(g -1+1)*v:=by
 have aF:1<=g:=by
  rcases jj g with k|k
  ·rw[k] at h;omega
  ·exact k
 obtain⟨p,rfl⟩:∃p,g=p+1:=⟨g -1,by omega⟩
 rw[ld]
 rw[c3,iL] at h
 refine⟨aF,?_,by rw[c3,iL];omega⟩
 obtain rfl|rfl:bM=0\/bM=1:=by omega
 ·omega
 ·omega
theorem uD.akO{β P c4 V cm u1 bI v1 v0:Nat}(h:uD β P c4 V cm u1 bI v1 v0)(n2:c4<β*V)(yV:bI<β)(Dd:v0<β)(aE:¬cm<v1)(Dc:u1<β):c4<(β -1+1)*V:=by
 rw[yd (by omega)];exact n2
end
end Go.Opn
set_option maxHeartbeats 8000000
namespace Go.Opn
noncomputable section
open Go.Cre Go.RowKit Go.Proofs
theorem Hu{D:List Nat}{z:Nat}(h:okW D)(aL:z<18446744073709551616):okW (D++[z]):=Hs h fun x ab=>by rw[zK.1 ab];exact aL
theorem xl{D:List Nat}{z i:Nat}(h:D.length=i):(D++[z]).length=i+1:=by rw[eS,h];rfl
theorem cR.lt{J:an}{b:Option Addr}{n c:Nat}{l:List Nat}(h:cR .u64 J (.slice b n c) l)(aj:okW l)(ap:0<l.length):∃a off cells e,b=some ⟨a,off,none⟩/\J a=some (cells,e)/\∀i:Nat,i<l.length->∃x,l[i]?=some x/\nth cells (off+i*1)=some (.int .u64 (x:Int))/\x<18446744073709551616:=by
 obtain⟨a,off,cells,e,ad,af,aV⟩:=h.at ap;exact⟨a,off,cells,e,ad,af,fun i ar=>by obtain⟨x,a7,a0⟩:=aV i ar;exact⟨x,a7,a0,xz aj a7⟩⟩
section
variable {Q:dD Tryz.prog}{g0:Nat}{J:an}
theorem ant{v:Value}{x s:Nat}(ab:cx J v x)(gP:(aR x).length<=100000)(ag:s<=63):Fn (a1 Q g0) 110 [v,.int .u64 (s:Int)] [] J (j' J (x / 2 ^ s)):=by
 have dM:=ab;obtain⟨bQ,bH,rfl,aX⟩:=ab.bG;refine Fn.cr (cu Tryz.func110) rfl rfl fun H=>?_;refine rg ?_;refine U V.au ?_;refine a2 ?_;refine al ?_;refine' W.step rfl (.of (qN rfl rfl rfl rfl rfl (kj Q g0) ?aO ?ad ?af fun uM=>?_));case aO=>exact bz
 case ad=>exact bz
 case af=>exact bz
 refine U V.au ?_;refine a3 ?_;rw[show((aR x).length:Int).toNat=(aR x).length by omega,zero_num];refine rg ?_;refine al ?_;refine aA ?_;refine ae.block ?_;refine' ae.dO (l':=[(13,.int .i64 ((0):Int)),(1,_),(5,_),(11,_),(12,_)]) ⟨?BP,rfl,rfl,rfl,rfl,trivial⟩ (bx _) ?_;case BP=>first|exact bg|exact aa some (aa (Value.int .u64) I)|exact aa some (aa (Value.int .i64) I)
 refine ao ?_;refine' ae.e2 (fun(a6:Nat×(List Nat))=>match a6 with|(i,z)=>⟨[(13,.int .i64 (i:Int))],[eO .u64 122 uM z],J,i<=(aR x).length/\z.length=(aR x).length/\okW z/\(0<i->z.getD (i -1) 0<2 ^ (64 -s))/\(∀t,i<=t->z.getD t 0=0)/\a9 z=a9 ((aR x).take i) / 2 ^ s,(aR x).length -i⟩) ⟨0,List.replicate (aR x).length 0⟩ ?ag ?bD
 case ag=>exact⟨ep _,mT,y7,fun q=>absurd q (zQ 0),fun t _=>by rw[g5,Md];split<;>rfl,by rw[LQ,fh];exact(Mw _).symm⟩
 case bD=>
  rintro⟨i,z⟩ hinv;try simp only at hinv
  obtain⟨ar,aL,cc,yY,e1,az⟩:=hinv;refine rg ?_;refine U V.bb ?_;refine aA ?_;refine If (fun gJ=>?_) fun gJ=>?_
  ·obtain⟨tg,eN,nV,ex,rfl,tz,k3⟩:=dM.at (ng I);obtain⟨w,hw,tI,tO⟩:=k3 i I;have Ku:w / 2 ^ s<2 ^ (64 -s):=(mV (lS _)).2 (by rw[wh I];exact tO);have Kt:w / 2 ^ s<18446744073709551616:=p7 (rZ _ _) tO;refine dW ?_;refine ao ?_;refine ae.block ?_;refine rg ?_;refine U V.ay ?_;refine U V.bh ?_;refine U V.cg ?_;refine al ?_;refine a2 ?_;refine al ?_;refine' W.step rfl (Exec.val rfl rfl (xY rfl rfl rfl ?aO ?ad) ?_);case aO=>exact bz
   case ad=>first|decide|exact bz|exact(show _<=((64:Nat):Int) from I)
   rw[xP];refine U V.bh ?_;refine' W.step rfl (.of (ia rfl rfl rfl rfl (hh rfl) rfl rfl rfl ?ad ?ag ?ap ?_));case ap=>repeat first|exact .head _ _ _ _|apply dh.tail|apply dh.app
   case ag=>exact k8 i I
   case ad=>first|rfl|assumption
   refine a2 ?_;refine U V.ay ?_;refine U V.bb ?_;refine aA ?_;refine If (fun mY=>?_) fun mY=>?_
   ·obtain⟨j,rfl⟩:∃j,i=j+1:=⟨i -1,I⟩;rw[ld] at yY;have yY:=yY (Nat.succ_pos j);obtain⟨t,aS⟩:∃t,z[j]?=some t:=⟨_,eE I⟩;have tM:=xz cc aS;have nA:t<2 ^ (64 -s):=by rw[ig aS] at yY;exact yY
    have aiy:nth (b7 .u64 (z.set (j+1) (w / 2 ^ s))) (0+(((j+1:Nat):Int) -1).toNat*1)=some (.int .u64 (t:Int)):=oV (i:=j) (by rw[mS,bd I];exact aS) I;have w2:w*2 ^ (64 -s) % 18446744073709551616<18446744073709551616:=fJ _ bC;have Kf:t+w*2 ^ (64 -s) % 18446744073709551616<18446744073709551616:=by rw[<-Li I nA];exact Mu (n:=64) tM w2
    have bD:j+1+1<=(aR x).length/\((z.set (j+1) (w / 2 ^ s)).set (j+1 -1) (t+w*2 ^ (64 -s) % 18446744073709551616)).length=(aR x).length/\okW ((z.set (j+1) (w / 2 ^ s)).set (j+1 -1) (t+w*2 ^ (64 -s) % 18446744073709551616))/\(0<j+1+1->((z.set (j+1) (w / 2 ^ s)).set (j+1 -1) (t+w*2 ^ (64 -s) % 18446744073709551616)).getD (j+1+1 -1) 0<2 ^ (64 -s))/\(∀u,j+1+1<=u->((z.set (j+1) (w / 2 ^ s)).set (j+1 -1) (t+w*2 ^ (64 -s) % 18446744073709551616)).getD u 0=0)/\a9 ((z.set (j+1) (w / 2 ^ s)).set (j+1 -1) (t+w*2 ^ (64 -s) % 18446744073709551616))=a9 ((aR x).take (j+1+1)) / 2 ^ s:=by
      rw[ld];refine⟨I,by rw[hr,hr];exact aL,rC (rC cc Kt) Kf,fun _=>?_,fun u hu=>by rw[zk I,zk I];exact e1 u I,anu I I aS (e1 _ (bX _)) hw az⟩;rw[ld,zk I,g5,mS,bj rfl,bj I];exact Ku
    refine rg ?_;refine al ?_;refine U V.aY ?_;refine U V.bh ?_;refine U V.cg ?_;refine al ?_;refine U V.aY ?_;rw[show(64:Int) -(s:Int)=((64 -s:Nat):Int) by omega];refine' W.step rfl (Exec.val rfl rfl (s0 rfl rfl rfl ?aO ?ad) ?_);case aO=>exact bz
    case ad=>first|decide|exact bz|exact(show _<=((64:Nat):Int) from I)
    rw[zm];refine' W.step rfl (Exec.val rfl rfl (D8 rfl rfl rfl) ?_);rw[HH tM w2,Li I nA];refine U V.bh ?_;refine' W.step rfl (.of (ia rfl rfl rfl rfl (hh rfl) rfl rfl rfl ?ad ?ag ?ap ?_));case ap=>repeat first|exact .head _ _ _ _|apply dh.tail|apply dh.app
    case ag=>exact k8 (j+1 -1) (by rw[hr];omega)
    case ad=>first|rfl|assumption
    refine a2 ?_;refine U V.aY ?_;refine U V.ay ?_;refine a3 ?_;refine fl ⟨j+1+1,(z.set (j+1) (w / 2 ^ s)).set (j+1 -1) (t+w*2 ^ (64 -s) % 18446744073709551616)⟩ ?_;exact bD
   ·obtain rfl:i=0:=I
    have bD:0+1<=(aR x).length/\(z.set 0 (w / 2 ^ s)).length=(aR x).length/\okW (z.set 0 (w / 2 ^ s))/\(0<0+1->(z.set 0 (w / 2 ^ s)).getD (0+1 -1) 0<2 ^ (64 -s))/\(∀u,0+1<=u->(z.set 0 (w / 2 ^ s)).getD u 0=0)/\a9 (z.set 0 (w / 2 ^ s))=a9 ((aR x).take (0+1)) / 2 ^ s:=by
      refine⟨I,by rw[hr];exact aL,rC cc Kt,fun _=>?_,fun u hu=>by rw[zk I];exact e1 u I,?_⟩
      ·rw[g5,mS,bj rfl,bj I];exact Ku
      ·have aC:=BL (l:=z) (i:=0) (x:=0) (y:=w / 2 ^ s) (by rw[JF (z:=z) (t:=0) I,e1 0 (bX _)])
       rw[az,fh,show a9 []=0 from rfl,Mw,yc] at aC;rw[la hw,fh,show a9 []=0 from rfl,yc,iL,j7];omega
    refine fy ?_;refine U V.aY ?_;refine U V.ay ?_;refine a3 ?_;refine fl ⟨0+1,z.set 0 (w / 2 ^ s)⟩ ?_;exact bD
  ·obtain rfl:i=(aR x).length:=I
   refine ao ?_;refine ae.exit ?_;refine rg ?_;refine U V.ay ?_;refine' W.step rfl (Exec.call rfl rfl rfl rfl rfl rfl rfl (cj:=[eO .u64 122 uM z]) (eB:=[]) (.refl _) trivial (xU (l:=z) cc I (bX _) I) ?_);rintro v' m' ah hle ⟨k,rfl,hk,gD,rfl,rfl⟩;refine U V.au ?_;refine a3 ?_;refine ae.h9 rfl fun aK=>?_;refine ao ?_;refine ae.ret ?_;refine'⟨.inr rfl,rfl,_,[],.tmp rfl .nil,br _,⟨aK,rfl,cx.row (by rw[gD,<-aL,dd (bX _),az,dd (bX _),hp]) I hk (kF I) (an.g7 _ _ _)⟩⟩
end
end
end Go.Opn

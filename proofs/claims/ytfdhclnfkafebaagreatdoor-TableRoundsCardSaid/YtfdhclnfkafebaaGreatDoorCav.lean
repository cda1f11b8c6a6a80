/- A part of the proof of TableRounds. -/
import Derived.Test.YtfdhclnfkafebaaGreatDoorCau
set_option maxRecDepth 100000
set_option maxHeartbeats 8000000
set_option linter.unusedVariables false
set_option linter.unusedSimpArgs false
namespace Go.Opn
noncomputable section
open Go.Cre Go.RowKit Go.Proofs
theorem Xm{l:List Nat}{n:Nat}(cc:okW l)(aD:l.length<=n+2):∃lo,a9 l=(l.getD (n+1) 0*18446744073709551616+l.getD n 0)*18446744073709551616 ^ n+lo/\lo<18446744073709551616 ^ n:=by
 have aC:=zw l (n+1);rw[dd (show l.length<=n+1+1 by omega),zw l n] at aC;have ad:=rO (sM (i:=n) cc);have af:18446744073709551616 ^ (l.take n).length<=18446744073709551616 ^ n:=my bC (by rw[dY];omega);refine⟨a9 (l.take n),?_,iJ ad af⟩;rw[aC,fC];obtain⟨p,ap⟩:∃p,p=18446744073709551616 ^ n:=⟨_,rfl⟩;rw[<-ap,c3];have bO:p*18446744073709551616*l.getD (n+1) 0=l.getD (n+1) 0*18446744073709551616*p:=by ac_rfl
 have bA:p*l.getD n 0=l.getD n 0*p:=dz _ _;rw[bO,bA];omega
theorem Xl{A bm w0 h n lo:Nat}(c9:h<=63)(eT:A=(bm*18446744073709551616+w0)*18446744073709551616 ^ n+lo)(hz:lo<18446744073709551616 ^ n):
 ∃dp,A=(bm*2 ^ h+w0 / 2 ^ (64 -h))*(2 ^ (64 -h)*18446744073709551616 ^ n)+dp/\dp<2 ^ (64 -h)*18446744073709551616 ^ n:=by
 have ag:=wh (s:=h) I;have aO:=lR w0 (2 ^ (64 -h));have hm:=fJ w0 (lS (64 -h));refine⟨w0 % 2 ^ (64 -h)*18446744073709551616 ^ n+lo,?_,?_⟩
 ·rw[eT]
  have e:bm*18446744073709551616+w0=(bm*2 ^ h+w0 / 2 ^ (64 -h))*2 ^ (64 -h)+w0 % 2 ^ (64 -h):=by
   rw[c3,fi,dz (2 ^ h),ag,dz (w0 / 2 ^ (64 -h))];omega
  rw[e,c3,fi];omega
 ·have ad:(w0 % 2 ^ (64 -h)+1)*18446744073709551616 ^ n<=2 ^ (64 -h)*18446744073709551616 ^ n:=e0 _ hm
  rw[c3,iL] at ad;omega
structure abj (A B n h x y qL:Nat):Prop where
 eT:∃dp th K,A=x*K+dp/\B=y*K+th/\dp<K/\th<K
 aqE:y<=x
 Sn:x<18446744073709551616
theorem akl{A B n h qL:Nat}(FI:B<=A)(aD:(aR A).length=n+2)(Df:(aR A)[n+1]?=some qL)(c9:h=64 -fD qL)(wI:h<=63):
 abj A B n h (qL*2 ^ h+(aR A).getD n 0 / 2 ^ (64 -h)) ((aR B).getD (n+1) 0*2 ^ h+(aR B).getD n 0 / 2 ^ (64 -h)) qL:=by
 have tO:=xz (nF A) Df;have ob:qL≠0:=LU A qL (by rw[qU,aD];exact Df);obtain⟨dv,_,_⟩:=K6 ob tO;rw[<-c9] at dv;obtain⟨lo,aC,dF⟩:=Xm (n:=n) (nF A) I;obtain⟨atc,aW,dq⟩:=Xm (n:=n) (nF B) (by have:=jv FI;omega);rw[hp,ig Df] at aC;rw[hp] at aW;obtain⟨dp,f1,f2⟩:=Xl wI aC dF;obtain⟨th,ck,ch⟩:=Xl wI aW dq;refine⟨⟨dp,th,_,f1,ck,f2,ch⟩,?_,?_⟩
 ·apply qW
  intro q;have ad:=e0 (2 ^ (64 -h)*18446744073709551616 ^ n) (EG q);rw[o9] at ad;omega
 ·have ag:=wh (s:=h) I
  have af:qL<2 ^ (64 -h):=EC (a:=2 ^ h) (by rw[ag];exact dv);have aV:=e0 (2 ^ h) (EG af);rw[ag,o9] at aV;have bq:(aR A).getD n 0 / 2 ^ (64 -h)<2 ^ h:=(mV (lS _)).2 (by rw[dz,ag];exact FE (nF A) n);omega
theorem Xk{bm w0 h x:Nat}(wI:h<=63)(aO:w0<18446744073709551616)(ab:bm*2 ^ h+w0 / 2 ^ (64 -h)=x)(ak:x<18446744073709551616):IntKind.u64.wrap ((BitVec.ofInt IntKind.u64.bits ((bm*2 ^ h % 18446744073709551616:Nat):Int) ||| BitVec.ofInt IntKind.u64.bits ((w0 / 2 ^ (64 -h):Nat):Int)).toNat:Int)=(x:Int):=by
 have aq:w0 / 2 ^ (64 -h)<2 ^ h:=(mV (lS _)).2 (by rw[dz,wh I];exact aO);have hle:bm*2 ^ h<18446744073709551616:=p7 (by rw[<-ab];exact Mp _ _) ak;rw[nO hle,HH hle (p7 (rZ _ _) aO),Ri aq,ab]
section
variable {Q:dD Tryz.prog}{g0:Nat}{J:an}
theorem an3{v w:Value}{x y:Nat}(ab:cx J v x)(aB:cx J w y)(gP:(aR x).length<=100000)(Dk:y<=x)(jK:2<=(aR y).length):Fn (a1 Q g0) 131 [v,w] [] J (fun u m' ah=>(∃bI u1 v0 v1:Nat,∃e:Bool,u=.tuple #[.int .u64 (bI:Int),.int .u64 (u1:Int),.int .u64 (v0:Int),.int .u64 (v1:Int),.bool e]/\bI<18446744073709551616/\u1<18446744073709551616/\v0<18446744073709551616/\v1<18446744073709551616/\(v0≠0->∃a b:Nat,(if e then bI*x=v0*y+a/\v1*y=u1*x+b else v0*y=bI*x+a/\u1*x=v1*y+b)/\b<a/\a<=y/\Nat.gcd a b=Nat.gcd x y))/\m'=[]/\J=ah):=by
 have dM:=ab;have eU:=aB;obtain⟨bQ,bH,rfl,aX⟩:=ab.bG;obtain⟨bL,bM,rfl,aU⟩:=aB.bG;have ke:=jv Dk;obtain⟨n,aE⟩:∃n,(aR x).length=n+2:=⟨(aR x).length -2,I⟩;obtain⟨tg,eN,nV,ex,rfl,tz,k3⟩:=dM.at (ng I);obtain⟨Ce,hI,tm,n1,rfl,CN,og⟩:=eU.at (ng I);obtain⟨qL,Df,Yo,XH⟩:=k3 (n+1) I;obtain⟨LS,tO,Yp,akQ⟩:=k3 n I;have ajw:qL≠0:=LU x qL (by rw[qU,aE];exact Df);have Yo:nth nV (eN+(((n+2:Nat):Int) -1).toNat*1)=some (.int .u64 (qL:Int)):=by rw[show(((n+2:Nat):Int) -1).toNat=n+1 by omega];exact Yo
 have Yp:nth nV (eN+(((n+2:Nat):Int) -2).toNat*1)=some (.int .u64 (LS:Int)):=by rw[show(((n+2:Nat):Int) -2).toNat=n by omega];exact Yp
 obtain⟨h,c9⟩:∃h,h=64 -fD qL:=⟨_,rfl⟩;have wI:h<=63:=by have:=(K6 ajw XH).2.2;omega
 have bB:=akl Dk aE Df c9 wI;obtain⟨X,fG⟩:∃X,qL*2 ^ h+LS / 2 ^ (64 -h)=X:=⟨_,rfl⟩;obtain⟨Y,kJ⟩:∃Y,(aR y).getD (n+1) 0*2 ^ h+(aR y).getD n 0 / 2 ^ (64 -h)=Y:=⟨_,rfl⟩;rw[ig tO,fG,kJ] at bB;obtain⟨dp,th,aq1,eT,e4,h2,q'⟩:=bB.eT;have Vw:=bB.aqE;have wQ:=bB.Sn;rw[aE];refine Fn.cr (cu Tryz.func131) rfl rfl fun H=>?_;refine rg ?_;refine al ?_;refine a2 ?_;refine al ?_;refine a2 ?_;refine al ?_;refine U V.aY ?_;refine U V.bh ?_;refine U V.cg ?_;refine bN (G:=QA XH) (h:=?_);rintro v' m' ah hle ⟨rfl,rfl,rfl⟩;rw[<-c9];refine U V.d' ?_;refine U V.au ?_;refine aA ?_;refine ae.draw rfl (by kernel_rfl) (a':=[.val 0,.val 1,.val 2,.val 3,.val 4,.val 5,.val 6,.val 7,.val 8,.val 9,.val 10,.val 11,.val 12,.val 13,.val 14,.val 15,.val 16]) (by kernel_rfl) ?_;refine eg ?_;refine aT rfl V.aY ?_;refine aT rfl V.bh ?_;refine aT rfl V.cg ?_;refine aT rfl V.ay ?_;refine' bp.val rfl rfl rfl rfl (s0 rfl rfl rfl ?aO ?ad) ?_;case aO=>exact bz
 case ad=>first|decide|exact bz|exact(show _<=((64:Nat):Int) from I)
 rw[zm];refine eg ?_;refine aT rfl V.aY ?_;refine aT rfl V.bh ?_;refine aT rfl V.cg ?_;refine aT rfl V.ay ?_;refine aT rfl V.aY ?_;rw[show(64:Int) -(h:Int)=((64 -h:Nat):Int) by omega];refine' bp.val rfl rfl rfl rfl (xY rfl rfl rfl ?aO ?ad) ?_;case aO=>exact bz
 case ad=>first|decide|exact bz|exact(show _<=((64:Nat):Int) from I)
 rw[xP];refine' bp.val rfl rfl rfl rfl (D8 rfl rfl rfl) ?_;rw[Xk wI akQ fG wQ];refine aT rfl V.au ?_;refine bp.nil ?_;refine rg ?_;refine U V.au ?_;refine a2 ?_;refine U V.ay ?_;refine a3 ?_;refine eP [1,9,10,11,13,45,4,6,7,8,12] ?_;refine ao ?_;refine' ae.lW (α:=(Nat)) 6 (fun(x4:Nat)=>[(13,.int .u64 (x4:Int))]) (fun(x4:Nat)=>[]) (fun(x4:Nat)=>J) (fun(x4:Nat)=>x4=Y) ?wm ?wx;case wm=>
  refine ae.block ?_;refine rg ?_;refine U V.ay ?_;refine U V.bb ?_;refine U V.au ?_;refine aA ?_;refine If (fun ac0=>?_) fun ac0=>?_
  ·obtain⟨dr,aiI,Yh,KL⟩:=og (n+1) I;obtain⟨jw,rj,Hj,XD⟩:=og n I;have Yh:nth tm (hI+(((n+2:Nat):Int) -1).toNat*1)=some (.int .u64 (dr:Int)):=by rw[show(((n+2:Nat):Int) -1).toNat=n+1 by omega];exact Yh
   have Hj:nth tm (hI+(((n+2:Nat):Int) -2).toNat*1)=some (.int .u64 (jw:Int)):=by rw[show(((n+2:Nat):Int) -2).toNat=n by omega];exact Hj
   rw[ig aiI,ig rj] at kJ;refine ao ?_;refine ae.draw rfl (by kernel_rfl) (a':=[.val 0,.val 1,.val 2,.val 3,.val 4,.val 5,.val 6,.val 7,.val 8,.val 9,.val 10,.val 11,.val 12,.val 13,.val 14,.val 15,.val 16]) (by kernel_rfl) ?_;refine eg ?_;refine aT rfl V.aY ?_;refine aT rfl V.bh ?_;refine aT rfl V.cg ?_;refine aT rfl V.ay ?_;refine' bp.val rfl rfl rfl rfl (s0 rfl rfl rfl ?aO ?ad) ?_;case aO=>exact bz
   case ad=>first|decide|exact bz|exact(show _<=((64:Nat):Int) from I)
   rw[zm];refine eg ?_;refine aT rfl V.aY ?_;refine aT rfl V.bh ?_;refine aT rfl V.cg ?_;refine aT rfl V.ay ?_;refine aT rfl V.aY ?_;rw[show(64:Int) -(h:Int)=((64 -h:Nat):Int) by omega];refine' bp.val rfl rfl rfl rfl (xY rfl rfl rfl ?aO ?ad) ?_;case aO=>exact bz
   case ad=>first|decide|exact bz|exact(show _<=((64:Nat):Int) from I)
   rw[xP];refine' bp.val rfl rfl rfl rfl (D8 rfl rfl rfl) ?_;rw[Xk wI XD kJ I];refine aT rfl V.au ?_;refine bp.nil ?_;refine'⟨(Y),_,?hinv,rfl,⟨?xp,rfl,rfl,rfl,rfl,rfl,trivial⟩,gK,rfl⟩;case xp=>first|exact bg|exact aa some (aa (Value.int .u64) I)|exact aa some (aa (Value.int .i64) I)
   case hinv=>rfl
  ·refine rg ?_;refine U V.ay ?_;refine U V.aY ?_;refine U V.bb ?_;refine U V.au ?_;refine aA ?_;refine If (fun Ck=>?_) fun Ck=>?_
   ·obtain⟨jw,rj,Hj,XD⟩:=og n I;have Hj:nth tm (hI+(((n+2:Nat):Int) -2).toNat*1)=some (.int .u64 (jw:Int)):=by rw[show(((n+2:Nat):Int) -2).toNat=n by omega];exact Hj
    rw[ig rj,lX (l:=aR y) (i:=n+1) I,j8,j7] at kJ;refine rg ?_;refine al ?_;refine U V.aY ?_;refine U V.bh ?_;refine U V.cg ?_;refine U V.ay ?_;refine U V.aY ?_;rw[show(64:Int) -(h:Int)=((64 -h:Nat):Int) by omega];refine' W.step rfl (Exec.val rfl rfl (xY rfl rfl rfl ?aO ?ad) ?_);case aO=>exact bz
    case ad=>first|decide|exact bz|exact(show _<=((64:Nat):Int) from I)
    rw[xP,kJ];refine U V.au ?_;refine a3 ?_;refine'⟨(Y),_,?hinv,rfl,⟨?xp,rfl,rfl,rfl,rfl,rfl,trivial⟩,gK,rfl⟩;case xp=>first|exact bg|exact aa some (aa (Value.int .u64) I)|exact aa some (aa (Value.int .i64) I)
    case hinv=>rfl
   ·rw[lX (l:=aR y) (i:=n+1) I,lX (l:=aR y) (i:=n) I,j8,j7,Mw] at kJ;refine dW ?_;refine'⟨(Y),_,?hinv,rfl,⟨?xp,rfl,rfl,rfl,rfl,rfl,trivial⟩,gK,rfl⟩;case xp=>first|exact bg|exact aa some (aa (Value.int .u64) I)|exact aa some (aa (Value.int .i64) I)
    case hinv=>rfl
 case wx=>
  rintro x4 hinv;try simp only at hinv
  subst hinv;refine rg ?_;refine U V.au ?_;refine a2 ?_;refine U V.au ?_;refine a2 ?_;refine U V.au ?_;refine aA ?_;refine ae.block ?_;refine' ae.dO (l':=[(12,.int .u64 ((X):Int)),(13,.int .u64 ((x4):Int)),(4,.int .u64 ((0):Int)),(5,.int .u64 ((1):Int)),(14,.int .u64 ((0):Int)),(6,.int .u64 ((0):Int)),(7,.int .u64 ((0):Int)),(15,.int .u64 ((1):Int)),(8,.bool (false))]) ⟨?qK,?BP,?kR,?gm,?us,?j4,?kk,?Ie,?l8,trivial⟩ (bx _) ?_;case qK=>first|exact bg|exact aa some (aa (Value.int .u64) I)|exact aa some (aa (Value.int .i64) I)
  case BP=>first|exact bg|exact aa some (aa (Value.int .u64) I)|exact aa some (aa (Value.int .i64) I)
  case kR=>first|exact bg|exact aa some (aa (Value.int .u64) I)|exact aa some (aa (Value.int .i64) I)
  case gm=>first|exact bg|exact aa some (aa (Value.int .u64) I)|exact aa some (aa (Value.int .i64) I)
  case us=>first|exact bg|exact aa some (aa (Value.int .u64) I)|exact aa some (aa (Value.int .i64) I)
  case j4=>first|exact bg|exact aa some (aa (Value.int .u64) I)|exact aa some (aa (Value.int .i64) I)
  case kk=>first|exact bg|exact aa some (aa (Value.int .u64) I)|exact aa some (aa (Value.int .i64) I)
  case Ie=>first|exact bg|exact aa some (aa (Value.int .u64) I)|exact aa some (aa (Value.int .i64) I)
  case l8=>first|exact bg|exact aa some (aa (Value.int .u64) I)|exact aa some (aa (Value.int .i64) I)
  refine ao ?_;refine' ae.e2 (fun(a6:Nat×Nat×Nat×Nat×Nat×Nat×Nat×Nat×Bool)=>match a6 with|(bO,bA,bI,u1,cm,v0,v1,v2,e)=>⟨[(12,.int .u64 (bO:Int)),(13,.int .u64 (bA:Int)),(4,.int .u64 (bI:Int)),(5,.int .u64 (u1:Int)),(14,.int .u64 (cm:Int)),(6,.int .u64 (v0:Int)),(7,.int .u64 (v1:Int)),(15,.int .u64 (v2:Int)),(8,.bool e)],[],J,te X x4 x y bO bA bI u1 cm v0 v1 v2 e/\bA<=bO/\bO<18446744073709551616/\bI<18446744073709551616/\u1<18446744073709551616/\cm<18446744073709551616/\v0<18446744073709551616/\v1<18446744073709551616/\v2<18446744073709551616,bA⟩) ⟨X,x4,0,1,0,0,0,1,false⟩ ?ag ?bD
  case ag=>exact⟨te.start,Vw,wQ,by decide,by decide,by decide,by decide,by decide,by decide⟩
  case bD=>
   rintro⟨bO,bA,bI,u1,cm,v0,v1,v2,e⟩ hinv;try simp only at hinv
   obtain⟨ax,a7,a0,bJ,cO,gj,jJ,oS,rp⟩:=hinv;refine eP [4,5,6,7,8,12,13,14,15] ?_;refine ao ?_;refine' ae.hf 0 [(88,.bool (decide ((v2<=bA/\v1+v2<=bO -bA))))] ?ad6 ?aeX;case ad6=>
    refine ae.region ?_;refine al ?_;refine U V.bb ?_;refine U V.ay ?_;refine ft 80 (fun agu=>?_) fun agu=>?_
    ·have ak:=ax.bounds (by have:=ax.BI;omega) (by have:=ax.BI;omega);refine bo V.ay ?_;refine bo V.ay ?_;refine bo V.aY ?_;refine bo V.ay ?_;refine bo V.ay ?_;refine bo V.aY ?_;refine bo V.bb ?_;refine U V.bt ?_;refine a3 ?_;refine'⟨⟨_,rfl,⟨?QT,rfl,rfl,rfl,rfl,rfl,rfl,rfl,rfl,rfl,trivial⟩⟩,bx _,rfl⟩;case QT=>first|exact fw rfl (by first|omega|(simp_all;done)|(simp_all;omega))|exact fu rfl (by first|omega|(simp_all;done)|(simp_all;omega))|exact fv rfl (by first|omega|(simp_all;done)|(simp_all;omega))|exact fE rfl (by first|omega|(simp_all;done)|(simp_all;omega))
    ·refine bs ?_;refine bs ?_;refine bs ?_;refine bs ?_;refine bs ?_;refine bs ?_;refine bs ?_;refine U V.bt ?_;refine a3 ?_;refine'⟨⟨_,rfl,⟨?QT,rfl,rfl,rfl,rfl,rfl,rfl,rfl,rfl,rfl,trivial⟩⟩,bx _,rfl⟩;case QT=>first|exact fw rfl (by first|omega|(simp_all;done)|(simp_all;omega))|exact fu rfl (by first|omega|(simp_all;done)|(simp_all;omega))|exact fv rfl (by first|omega|(simp_all;done)|(simp_all;omega))|exact fE rfl (by first|omega|(simp_all;done)|(simp_all;omega))
   case aeX=>
    refine ao ?_;refine If (fun E6=>?_) fun E6=>?_
    ·have ap:=ax.BI;obtain⟨q,bS⟩:∃q,q=bO / bA:=⟨_,rfl⟩;obtain⟨r,av⟩:∃r,r=bO % bA:=⟨_,rfl⟩;have Gs:r<bA:=by rw[av];exact fJ _ I
     have sm:=ax.next eT e4 h2 q' E6.1 E6.2;rw[<-bS,<-av] at sm;have ajh:u1+q*cm<18446744073709551616:=by
       have:=sm.x3;have aV:=hs (u1+q*cm) (show 1<=bA by omega);omega
     have lz:v1+q*v2<18446744073709551616:=by
       have:=sm.xs;have aV:=hs (v1+q*v2) (show 1<=bA by omega);omega
     refine dW ?_;refine ao ?_;refine ae.block ?_;refine ao ?_;refine ae.draw rfl (by kernel_rfl) (a':=[.val 0,.val 1,.val 2,.val 3,.val 4,.val 5,.val 6,.val 7]) (by kernel_rfl) ?_;refine eg ?_;refine aT rfl V.hn ?_;rw[rJ a0,<-bS];refine eg ?_;refine aT rfl V.hn ?_;rw[show((bO:Int).tmod (bA:Int))=(r:Int) from by rw[av];rfl];refine eg ?_;refine bp.nil ?_;refine rg ?_;refine al ?_;refine a2 ?_;refine al ?_;refine U V.aY ?_;refine U V.aY ?_;refine al ?_;refine a2 ?_;refine al ?_;refine U V.aY ?_;refine U V.aY ?_;refine al ?_;refine a2 ?_;refine U V.ay ?_;refine U V.rB ?_;refine U V.au ?_;refine a3 ?_;refine fl ⟨bA,r,u1,cm,u1+q*cm,v1,v2,v1+q*v2,!e⟩ ?_;exact⟨sm,I,I,I,I,ajh,I,I,lz⟩
    ·refine ao ?_;refine ae.exit ?_;refine rg ?_;refine al ?_;refine aA ?_;refine ae.ret ?_;refine'⟨.inr rfl,rfl,_,[],.tmp rfl (.tmp rfl (.tmp rfl (.tmp rfl (.tmp rfl .nil)))),br _,⟨⟨bI,u1,v0,v1,e,rfl,bJ,cO,jJ,oS,fun h=>ax.out h⟩,rfl,rfl⟩⟩
end
theorem ad2{x y z:List Nat}{i p q eN hI q0 f s f2 s2 Sw MV:Nat}(ar:i<z.length)(h:a9 (z.take i)+q*a9 (y.take i)+18446744073709551616 ^ i*eN=p*a9 (x.take i)+18446744073709551616 ^ i*(q0+hI))
 (aC:f+18446744073709551616*f2=eN+p*x.getD i 0)(aW:s+18446744073709551616*s2=hI+q*y.getD i 0)(cw:Sw+s+q0=f+18446744073709551616*MV):
 a9 ((z.set i Sw).take (i+1))+q*a9 (y.take (i+1))+18446744073709551616 ^ (i+1)*f2=p*a9 (x.take (i+1))+18446744073709551616 ^ (i+1)*(MV+s2):=by
 rw[LP ar,zw x,zw y,cS q,cS p];have ed:Sw+q*y.getD i 0+18446744073709551616*f2+q0+hI=p*x.getD i 0+eN+18446744073709551616*(MV+s2):=I
 have cH:=aa (18446744073709551616 ^ i*·) ed;simp only[cS] at cH;have h0:∀t:Nat,18446744073709551616 ^ i*(18446744073709551616*t)=18446744073709551616 ^ (i+1)*t:=fun t=>by rw[fC,fi]
 rw[h0,h0,h0] at cH;rw[qX q,qX p,cS (18446744073709551616 ^ (i+1))];rw[cS] at h;omega
theorem ad1{z:List Nat}{n p q x y eN hI q0:Nat}(aL:z.length=n)(cc:okW z)(h:a9 z+q*y+18446744073709551616 ^ n*eN=p*x+18446744073709551616 ^ n*(q0+hI))(hle:q*y<=p*x)(cA:p*x<18446744073709551616 ^ n):a9 z=p*x -q*y:=by
 have ad:=rO cc;rw[aL] at ad;rcases Tg eN (q0+hI) with k|k|k
 ·have:=hs (18446744073709551616 ^ n) (EG k)
  rw[Nat.mul_succ] at this;omega
 ·rw[k] at h;omega
 ·have:=hs (18446744073709551616 ^ n) (EG k)
  rw[Nat.mul_succ] at this;omega
section
variable {Q:dD Tryz.prog}{g0:Nat}{J:an}
theorem Jr{v w:Value}{p q x y:Nat}(ab:cx J v x)(aB:cx J w y)(gP:(aR x).length<=100000)(jK:(aR y).length<=100000)(ap:p<18446744073709551616)(bS:q<18446744073709551616)(hle:q*y<=p*x):Fn (a1 Q g0) 132 [.int .u64 (p:Int),v,.int .u64 (q:Int),w] [] J (j' J (p*x -q*y)):=by
 have dM:=ab;have eU:=aB;obtain⟨bQ,bH,rfl,aX⟩:=ab.bG;obtain⟨bL,bM,rfl,aU⟩:=aB.bG;obtain⟨N,gC⟩:∃N,N=max (aR x).length (aR y).length:=⟨_,rfl⟩;have aha:(aR x).length<=N:=I
 have ar4:(aR y).length<=N:=I
 have cA:p*x<18446744073709551616 ^ (N+1):=by
  have ad:=zx aha;rw[fC,dz];exact Ms ad ap
 refine Fn.cr (cu Tryz.func132) rfl rfl fun H=>?_;refine rg ?_;refine U V.au ?_;refine a2 ?_;refine al ?_;refine' W.step rfl (Exec.val rfl rfl (H8 rfl rfl rfl rfl rfl) ?_);rw[show max ((aR x).length:Int) ((aR y).length:Int)=(N:Int) by omega];refine U V.aY ?_;refine' W.step rfl (.of (qN rfl rfl rfl rfl rfl (kj Q g0) ?aO ?ad ?af fun I4=>?_));case aO=>exact bz
 case ad=>exact bz
 case af=>exact bz
 refine U V.au ?_;refine a3 ?_;rw[show((N:Int)+1).toNat=N+1 by omega,zero_num];refine rg ?_;refine al ?_;refine a2 ?_;refine al ?_;refine aA ?_;refine ae.block ?_;refine' ae.dO (l':=[(31,.int .i64 ((0):Int)),(10,.int .u64 ((0):Int)),(11,.int .u64 ((0):Int)),(12,.int .u64 ((0):Int)),(0,_),(1,_),(2,_),(3,_),(9,_),(30,_)]) ⟨?ap9,?ur,?s3,?qK,rfl,rfl,rfl,rfl,rfl,rfl,trivial⟩ (bx _) ?_;case ap9=>first|exact bg|exact aa some (aa (Value.int .u64) I)|exact aa some (aa (Value.int .i64) I)
 case ur=>first|exact bg|exact aa some (aa (Value.int .u64) I)|exact aa some (aa (Value.int .i64) I)
 case s3=>first|exact bg|exact aa some (aa (Value.int .u64) I)|exact aa some (aa (Value.int .i64) I)
 case qK=>first|exact bg|exact aa some (aa (Value.int .u64) I)|exact aa some (aa (Value.int .i64) I)
 refine ao ?_;refine' ae.e2 (fun(a6:Nat×Nat×Nat×Nat×(List Nat))=>match a6 with|(i,eN,hI,q0,z)=>⟨[(31,.int .i64 (i:Int)),(10,.int .u64 (eN:Int)),(11,.int .u64 (hI:Int)),(12,.int .u64 (q0:Int))],[eO .u64 122 I4 z],J,i<=N+1/\eN<18446744073709551616/\hI<18446744073709551616/\q0<=1/\z.length=N+1/\okW z/\a9 (z.take i)+q*a9 ((aR y).take i)+18446744073709551616 ^ i*eN=p*a9 ((aR x).take i)+18446744073709551616 ^ i*(q0+hI),N+1 -i⟩) ⟨0,0,0,0,List.replicate (N+1) 0⟩ ?ag ?bD
 case ag=>exact⟨ep _,by decide,by decide,by decide,mT,y7,by rw[fh,fh,fh];rfl⟩
 case bD=>
  rintro⟨i,eN,hI,q0,z⟩ hinv;try simp only at hinv
  obtain⟨ar,qq,pw,ahJ,aL,cc,az⟩:=hinv;refine rg ?_;refine U V.bb ?_;refine aA ?_;refine If (fun r9=>?_) fun r9=>?_
  ·obtain⟨P,cX⟩:∃P,P=p*(aR x).getD i 0:=⟨_,rfl⟩;obtain⟨R,c0⟩:∃R,R=q*(aR y).getD i 0:=⟨_,rfl⟩;have sk:=G9 ap (FE (nF x) i);rw[<-cX] at sk;have ahj:=G9 bS (FE (nF y) i);rw[<-c0] at ahj;refine dW ?_;refine ao ?_;refine ae.block ?_;refine rg ?_;refine al ?_;refine a2 ?_;refine al ?_;refine a2 ?_;refine al ?_;refine a2 ?_;refine al ?_;refine U V.bb ?_;refine a3 ?_;refine eP [10,14,39,0,1,2,3,9,11,12,13,15,30,31] ?_;refine ao ?_;refine' ae.lW (α:=(Nat)×(Nat)) 3 (fun(a6:(Nat)×(Nat))=>match a6 with|(f,f2)=>[(14,.int .u64 (f:Int)),(10,.int .u64 (f2:Int))]) (fun(a6:(Nat)×(Nat))=>match a6 with|(f,f2)=>[eO .u64 122 I4 z]) (fun(a6:(Nat)×(Nat))=>match a6 with|(f,f2)=>J) (fun(a6:(Nat)×(Nat))=>match a6 with|(f,f2)=>f<18446744073709551616/\f2<18446744073709551616/\f+18446744073709551616*f2=eN+p*(aR x).getD i 0) ?adF ?aeO
   case adF=>
    refine If (fun acX=>?_) fun acX=>?_
    ·obtain⟨tg,atu,nV,ex,rfl,tz,k3⟩:=dM.at (ng I);obtain⟨a,aI,QV,ju⟩:=k3 i I;refine rg ?_;refine al ?_;refine U V.bh ?_;refine U V.cg ?_;refine bN (G:=DG ap ju) (h:=?_);rintro v' m' ah hle ⟨rfl,rfl,rfl⟩;rw[<-ig aI,<-cX];refine al ?_;refine a2 ?_;refine U V.au ?_;refine a2 ?_;refine al ?_;refine bN (G:=we (c:=0) I) (h:=?_);rintro v' m' ah hle ⟨rfl,rfl,rfl⟩;rw[show(eN+P % 18446744073709551616+0) % 18446744073709551616=(eN+P) % 18446744073709551616 by omega];refine al ?_;refine a2 ?_;refine al ?_;refine U V.aY ?_;rw[show((P / 18446744073709551616:Nat):Int)+(((eN+P % 18446744073709551616+0) / 18446744073709551616:Nat):Int)=(((eN+P) / 18446744073709551616:Nat):Int) by omega];refine U V.au ?_;refine a3 ?_;refine'⟨⟨(eN+P) % 18446744073709551616,(eN+P) / 18446744073709551616⟩,_,?hinv,rfl,⟨?A9,?tV,rfl,rfl,rfl,rfl,rfl,rfl,rfl,rfl,rfl,rfl,rfl,trivial⟩,gK,rfl⟩;case A9=>first|exact bg|exact aa some (aa (Value.int .u64) I)|exact aa some (aa (Value.int .i64) I)
     case tV=>first|exact bg|exact aa some (aa (Value.int .u64) I)|exact aa some (aa (Value.int .i64) I)
     case hinv=>exact⟨I,I,by(try rw[<-cX]);omega⟩
    ·refine ao ?_;refine ae.skip ?_;refine'⟨⟨eN,0⟩,_,?hinv,rfl,⟨?A9,?tV,rfl,rfl,rfl,rfl,rfl,rfl,rfl,rfl,rfl,rfl,rfl,trivial⟩,gK,rfl⟩;case A9=>first|exact bg|exact aa some (aa (Value.int .u64) I)|exact aa some (aa (Value.int .i64) I)
     case tV=>first|exact bg|exact aa some (aa (Value.int .u64) I)|exact aa some (aa (Value.int .i64) I)
     case hinv=>exact⟨qq,by decide,by rw[lX (l:=aR x) (i:=i) I,jk];omega⟩
   case aeO=>
    rintro⟨f,f2⟩ hinv;try simp only at hinv
    obtain⟨aM,tH,ah5⟩:=hinv;refine rg ?_;refine al ?_;refine U V.bb ?_;refine a3 ?_;refine eP [11,15,61,0,1,2,3,9,10,12,13,14,30,31] ?_;refine ao ?_;refine' ae.lW (α:=(Nat)×(Nat)) 3 (fun(a6:(Nat)×(Nat))=>match a6 with|(s,s2)=>[(15,.int .u64 (s:Int)),(11,.int .u64 (s2:Int))]) (fun(a6:(Nat)×(Nat))=>match a6 with|(s,s2)=>[eO .u64 122 I4 z]) (fun(a6:(Nat)×(Nat))=>match a6 with|(s,s2)=>J) (fun(a6:(Nat)×(Nat))=>match a6 with|(s,s2)=>s<18446744073709551616/\s2<18446744073709551616/\s+18446744073709551616*s2=hI+q*(aR y).getD i 0) ?adJ ?aeS
    case adJ=>
     refine If (fun Jm=>?_) fun Jm=>?_
     ·obtain⟨Ce,atv,tm,n1,rfl,CN,og⟩:=eU.at (ng I);obtain⟨b,ak,Ya,pF⟩:=og i I;refine rg ?_;refine al ?_;refine U V.bh ?_;refine U V.cg ?_;refine bN (G:=DG bS pF) (h:=?_);rintro v' m' ah hle ⟨rfl,rfl,rfl⟩;rw[<-ig ak,<-c0];refine al ?_;refine a2 ?_;refine U V.au ?_;refine a2 ?_;refine al ?_;refine bN (G:=we (c:=0) I) (h:=?_);rintro v' m' ah hle ⟨rfl,rfl,rfl⟩;rw[show(hI+R % 18446744073709551616+0) % 18446744073709551616=(hI+R) % 18446744073709551616 by omega];refine al ?_;refine a2 ?_;refine al ?_;refine U V.aY ?_;rw[show((R / 18446744073709551616:Nat):Int)+(((hI+R % 18446744073709551616+0) / 18446744073709551616:Nat):Int)=(((hI+R) / 18446744073709551616:Nat):Int) by omega];refine U V.au ?_;refine a3 ?_;refine'⟨⟨(hI+R) % 18446744073709551616,(hI+R) / 18446744073709551616⟩,_,?hinv,rfl,⟨?xq,?G1,rfl,rfl,rfl,rfl,rfl,rfl,rfl,rfl,rfl,rfl,rfl,trivial⟩,gK,rfl⟩;case xq=>first|exact bg|exact aa some (aa (Value.int .u64) I)|exact aa some (aa (Value.int .i64) I)
      case G1=>first|exact bg|exact aa some (aa (Value.int .u64) I)|exact aa some (aa (Value.int .i64) I)
      case hinv=>exact⟨I,I,by(try rw[<-c0]);omega⟩
     ·refine ao ?_;refine ae.skip ?_;refine'⟨⟨hI,0⟩,_,?hinv,rfl,⟨?xq,?G1,rfl,rfl,rfl,rfl,rfl,rfl,rfl,rfl,rfl,rfl,rfl,trivial⟩,gK,rfl⟩;case xq=>first|exact bg|exact aa some (aa (Value.int .u64) I)|exact aa some (aa (Value.int .i64) I)
      case G1=>first|exact bg|exact aa some (aa (Value.int .u64) I)|exact aa some (aa (Value.int .i64) I)
      case hinv=>exact⟨pw,by decide,by rw[lX (l:=aR y) (i:=i) I,jk];omega⟩
    case aeS=>
     rintro⟨s,s2⟩ hinv;try simp only at hinv
     obtain⟨ag,iA,ai2⟩:=hinv;refine rg ?_;refine al ?_;refine bN (G:=LJ ahJ) (h:=?_);rintro v' m' ah hle ⟨rfl,rfl,rfl⟩;refine al ?_;refine U V.bh ?_;refine' W.step rfl (.of (ia rfl rfl rfl rfl (hh rfl) rfl rfl rfl ?ad ?ag ?ap ?_));case ap=>repeat first|exact .head _ _ _ _|apply dh.tail|apply dh.app
     case ag=>exact k8 i I
     case ad=>first|rfl|assumption
     refine U V.au ?_;refine a2 ?_;refine U V.aY ?_;refine U V.ay ?_;refine a3 ?_;refine fl ⟨i+1,f2,s2,(if f<s+q0 then 1 else 0),z.set i ((f+18446744073709551616 -s -q0) % 18446744073709551616)⟩ ?_;exact⟨I,tH,iA,by split<;>omega,by rw[hr];exact aL,rC cc (fJ _ bC),ad2 I az ah5 ai2 (by split<;>omega)⟩
  ·obtain rfl:i=N+1:=I
   rw[<-aL,dd (bX _),aL,dd (l:=aR x) I,dd (l:=aR y) I,hp,hp] at az;have m6:=ad1 aL cc az hle cA;refine ao ?_;refine ae.exit ?_;refine rg ?_;refine U V.ay ?_;refine' W.step rfl (Exec.call rfl rfl rfl rfl rfl rfl rfl (cj:=[eO .u64 122 I4 z]) (eB:=[]) (.refl _) trivial (xU (l:=z) cc I (bX _) I) ?_);rintro v' m' ah hle ⟨k,rfl,hk,gD,rfl,rfl⟩;refine U V.au ?_;refine a3 ?_;refine ae.h9 rfl fun aK=>?_;refine ao ?_;refine ae.ret ?_;refine'⟨.inr rfl,rfl,_,[],.tmp rfl .nil,br _,⟨aK,rfl,cx.row (by rw[gD,<-aL,dd (bX _),m6]) I hk (kF I) (an.g7 _ _ _)⟩⟩
theorem ze{v w:Value}{x y:Nat}(ab:cx J v x)(aB:cx J w y)(gP:(aR x).length<=100000)(jK:(aR y).length<=100000)(l9:y≠0):Fn (a1 Q g0) 74 [v,w] [] J (j' J (x / y)):=by
 have dM:=ab;have eU:=aB;obtain⟨bQ,bH,rfl,aX⟩:=ab.bG;obtain⟨bL,bM,rfl,aU⟩:=aB.bG;refine Fn.cr (cu Tryz.func74) rfl rfl fun H=>?_;refine rg ?_;refine U V.au ?_;refine a2 ?_;refine U V.ay ?_;refine bN (G:=Du eU jK) (h:=?_);rintro v' m' ah hle ⟨rfl,rfl,rfl⟩;refine aA ?_;refine If (fun jU=>?_) fun jU=>?_
 ·refine rg ?_;refine al ?_;refine aA ?_;refine ae.ret ?_;refine'⟨.inr rfl,rfl,_,[],.tmp rfl .nil,br _,?_⟩;first
   |(have c:=jU
     first
         |exact⟨an.le.refl _,rfl,by rw[c,Nat.div_one];exact dM⟩
         |exact⟨aK,rfl,qw⟩)
 ·refine ao ?_;refine ae.skip ?_;refine rg ?_;refine al ?_;refine bN (G:=Nr dM eU gP jK l9) (h:=?_);rintro v' m' bK aK ⟨_,rfl,Eh,wr,rfl,qw,pB⟩;obtain⟨cZ,db,rfl,b0⟩:=qw.bG;obtain⟨dE,dZ,rfl,dN⟩:=pB.bG;refine al ?_;refine a2 ?_;refine al ?_;refine aA ?_;refine ae.ret ?_;refine'⟨.inr rfl,rfl,_,[],.tmp rfl .nil,br _,?_⟩;first
   |(have c:=jU
     first
         |exact⟨an.le.refl _,rfl,by rw[c,Nat.div_one];exact dM⟩
         |exact⟨aK,rfl,qw⟩)
theorem ad3{v w:Value}{x y:Nat}(ab:cx J v x)(aB:cx J w y)(gP:(aR x).length<=100000)(jK:(aR y).length<=100000):Fn (a1 Q g0) 101 [v,w] [] J (j' J (Nat.gcd x y)):=by
 have dM:=ab;have eU:=aB;obtain⟨bQ,bH,rfl,aX⟩:=ab.bG;obtain⟨bL,bM,rfl,aU⟩:=aB.bG;refine Fn.cr (cu Tryz.func101) rfl rfl fun H=>?_;refine rg ?_;refine U V.au ?_;refine a2 ?_;refine al ?_;refine bN (G:=Fc dM eU gP jK) (h:=?_);rintro v' m' ah hle ⟨rfl,rfl,rfl⟩;refine U V.bb ?_;refine a3 ?_;refine eP [0,1,18] ?_;refine ao ?_;refine' ae.lW (α:=(Value)×(Value)×(Nat)×(Nat)) 3 (fun(a6:(Value)×(Value)×(Nat)×(Nat))=>match a6 with|(aY,h',a,b)=>[(0,aY),(1,h')]) (fun(a6:(Value)×(Value)×(Nat)×(Nat))=>match a6 with|(aY,h',a,b)=>[]) (fun(a6:(Value)×(Value)×(Nat)×(Nat))=>match a6 with|(aY,h',a,b)=>J) (fun(a6:(Value)×(Value)×(Nat)×(Nat))=>match a6 with|(aY,h',a,b)=>cx J aY a/\cx J h' b/\b<=a/\(aR a).length<=100000/\Nat.gcd a b=Nat.gcd x y) ?ady ?aeH
 case ady=>
  refine If (fun kE=>?_) fun kE=>?_
  ·refine rg ?_;refine al ?_;refine a3 ?_;refine'⟨⟨.slice bL (aR y).length bM,.slice bQ (aR x).length bH,y,x⟩,_,?hinv,rfl,⟨?dc,?c1,trivial⟩,gK,rfl⟩;case dc=>first|exact bg|exact aa some (aa (Value.int .u64) I)|exact aa some (aa (Value.int .i64) I)
   case c1=>first|exact bg|exact aa some (aa (Value.int .u64) I)|exact aa some (aa (Value.int .i64) I)
   case hinv=>exact⟨eU,dM,by have:=r'.1 kE;omega,jK,oA _ _⟩
  ·refine ao ?_;refine ae.skip ?_;refine'⟨⟨.slice bQ (aR x).length bH,.slice bL (aR y).length bM,x,y⟩,_,?hinv,rfl,⟨?dc,?c1,trivial⟩,gK,rfl⟩;case dc=>first|exact bg|exact aa some (aa (Value.int .u64) I)|exact aa some (aa (Value.int .i64) I)
   case c1=>first|exact bg|exact aa some (aa (Value.int .u64) I)|exact aa some (aa (Value.int .i64) I)
   case hinv=>exact⟨dM,eU,qW fun h=>kE (r'.2 h),gP,rfl⟩
 case aeH=>
  rintro⟨aY,h',a,b⟩ hinv;try simp only at hinv
  obtain⟨eT,e4,n3,ju,cp⟩:=hinv;refine ao ?_;refine ae.block ?_;refine' ae.dO (l':=[(0,(aY)),(1,(h'))]) ⟨?w0,?bm,trivial⟩ (bx _) ?_;case w0=>first|exact bg|exact aa some (aa (Value.int .u64) I)|exact aa some (aa (Value.int .i64) I)
  case bm=>first|exact bg|exact aa some (aa (Value.int .u64) I)|exact aa some (aa (Value.int .i64) I)
  refine ao ?_;refine' ae.e2 (fun(a6:Value×Value×Nat×Nat×an)=>match a6 with|(aY,h',a,b,dw)=>⟨[(0,aY),(1,h')],[],dw,J.le dw/\cx dw aY a/\cx dw h' b/\b<=a/\(aR a).length<=100000/\Nat.gcd a b=Nat.gcd x y,b⟩) ⟨aY,h',a,b,J⟩ ?ag ?bD
  case ag=>exact⟨an.le.refl _,eT,e4,n3,ju,cp⟩
  case bD=>
   rintro⟨aY,h',a,b,dw⟩ hinv;try simp only at hinv
   obtain⟨c2,eT,e4,n3,ju,cp⟩:=hinv;have hF:=eT;have h1:=e4;obtain⟨fI,gV,rfl,gl⟩:=eT.bG;obtain⟨gz,e7,rfl,iC⟩:=e4.bG;have pF:=cY (jv n3) ju;refine rg ?_;refine al ?_;refine U V.bb ?_;refine aA ?_;refine If (fun r8=>?_) fun r8=>?_
   ·refine ao ?_;refine ae.skip ?_;refine ao ?_;refine ae.block ?_;refine rg ?_;refine al ?_;refine bN (G:=an3 hF h1 ju n3 I) (h:=?_);rintro v' m' ah hle ⟨⟨bI,u1,v0,v1,e,rfl,A7,DC,A8,GZ,ai3⟩,rfl,rfl⟩;refine al ?_;refine a3 ?_;refine eP [0,1,5,6,7,8,9] ?_;refine ao ?_;refine' ae.lW (α:=(Value)×(Value)×(Nat)×(Nat)×(an)) 7 (fun(a6:(Value)×(Value)×(Nat)×(Nat)×(an))=>match a6 with|(pV,pW,bV,b',iv)=>[(0,pV),(1,pW)]) (fun(a6:(Value)×(Value)×(Nat)×(Nat)×(an))=>match a6 with|(pV,pW,bV,b',iv)=>[]) (fun(a6:(Value)×(Value)×(Nat)×(Nat)×(an))=>match a6 with|(pV,pW,bV,b',iv)=>iv) (fun(a6:(Value)×(Value)×(Nat)×(Nat)×(an))=>match a6 with|(pV,pW,bV,b',iv)=>dw.le iv/\cx iv pV bV/\cx iv pW b'/\b'<bV/\bV<=a/\b'<b/\Nat.gcd bV b'=Nat.gcd a b) ?Ng ?Nv
    case Ng=>
     refine ae.block ?_;refine rg ?_;refine U V.ay ?_;refine U V.bb ?_;refine U V.au ?_;refine aA ?_;refine If (fun E2=>?_) fun E2=>?_
     ·have FY:0<b:=r2 (ng I);refine rg ?_;refine al ?_;refine bN (G:=Nr hF h1 ju pF (ng I)) (h:=?_);rintro v' m' bK aK ⟨_,rfl,Eh,wr,rfl,qw,pB⟩;refine al ?_;refine a2 ?_;refine al ?_;refine a3 ?_;refine'⟨⟨.slice gz (aR b).length e7,wr,b,a % b,bK⟩,_,?hinv,rfl,⟨?dc,?c1,trivial⟩,gK,rfl⟩;case dc=>first|exact bg|exact aa some (aa (Value.int .u64) I)|exact aa some (aa (Value.int .i64) I)
      case c1=>first|exact bg|exact aa some (aa (Value.int .u64) I)|exact aa some (aa (Value.int .i64) I)
      case hinv=>exact⟨aK,h1.mono aK,pB,fJ _ FY,n3,fJ _ FY,by rw[oA,<-zO,oA]⟩
     ·obtain⟨dr,hC,eX,vl,iA,w9⟩:=ai3 I;refine rg ?_;refine al ?_;refine aA ?_;refine If (fun wk=>?_) fun wk=>?_
      ·have wk:e=true:=wk;rw[wk,bj rfl] at eX;obtain⟨ck,ch⟩:=eX;have KL:bI*a -v0*b=dr:=I
       have Qx:v1*b -u1*a=hC:=I
       refine rg ?_;refine al ?_;refine bN (G:=Jr hF h1 ju pF A7 A8 I) (h:=?_);rw[KL];rintro v' m' bK aK ⟨_,rfl,GF⟩;obtain⟨uu,rfl⟩:∃uu,uu=v':=⟨_,rfl⟩;refine al ?_;refine bN (G:=Jr (h1.mono aK) (hF.mono aK) pF ju GZ DC I) (h:=?_);rw[Qx];rintro v' m' dT bi ⟨_,rfl,vp⟩;obtain⟨wf,rfl⟩:∃wf,wf=v':=⟨_,rfl⟩;refine al ?_;refine a3 ?_;refine'⟨⟨uu,wf,dr,hC,dT⟩,_,?hinv,rfl,⟨?dc,?c1,trivial⟩,gK,rfl⟩;case dc=>first|exact bg|exact aa some (aa (Value.int .u64) I)|exact aa some (aa (Value.int .i64) I)
       case c1=>first|exact bg|exact aa some (aa (Value.int .u64) I)|exact aa some (aa (Value.int .i64) I)
       case hinv=>exact⟨aK.trans bi,GF.mono bi,vp,vl,cY iA n3,iJ vl iA,w9⟩
      ·have wk:e=false:=by simpa using wk
       rw[wk,bd bC] at eX;obtain⟨ck,ch⟩:=eX;have KL:v0*b -bI*a=dr:=I
       have Qx:u1*a -v1*b=hC:=I
       refine rg ?_;refine al ?_;refine bN (G:=Jr h1 hF pF ju A8 A7 I) (h:=?_);rw[KL];rintro v' m' bK aK ⟨_,rfl,GF⟩;obtain⟨uu,rfl⟩:∃uu,uu=v':=⟨_,rfl⟩;refine al ?_;refine bN (G:=Jr (hF.mono aK) (h1.mono aK) ju pF DC GZ I) (h:=?_);rw[Qx];rintro v' m' dT bi ⟨_,rfl,vp⟩;obtain⟨wf,rfl⟩:∃wf,wf=v':=⟨_,rfl⟩;refine al ?_;refine a3 ?_;refine'⟨⟨uu,wf,dr,hC,dT⟩,_,?hinv,rfl,⟨?dc,?c1,trivial⟩,gK,rfl⟩;case dc=>first|exact bg|exact aa some (aa (Value.int .u64) I)|exact aa some (aa (Value.int .i64) I)
       case c1=>first|exact bg|exact aa some (aa (Value.int .u64) I)|exact aa some (aa (Value.int .i64) I)
       case hinv=>exact⟨aK.trans bi,GF.mono bi,vp,vl,cY iA n3,iJ vl iA,w9⟩
    case Nv=>
     rintro⟨pV,pW,bV,b',iv⟩ hinv;try simp only at hinv
     obtain⟨wK,hx,cy,cA,hle,aip,FM⟩:=hinv;have hlen:=cY (jv hle) ju;refine fl ⟨pV,pW,bV,b',iv⟩ ?_;exact⟨c2.trans wK,hx,cy,r0 cA,hlen,FM.trans cp⟩
   ·refine ao ?_;refine ae.exit ?_;refine rg ?_;refine al ?_;refine U V.bb ?_;refine aA ?_;refine If (fun M2=>?_) fun M2=>?_
    ·refine rg ?_;refine al ?_;refine aA ?_;refine ae.ret ?_;refine'⟨.inr rfl,rfl,_,[],.tmp rfl .nil,br _,?_⟩;first
       |(have c:=M2
         first
            |exact⟨c2,rfl,by rw[<-cp,show b=0 from jh fun q=>Ec q I,zP];exact hF⟩
            |exact⟨(c2.trans aK).trans bi,rfl,by
                obtain rfl:r=0:=I
                rw[<-Az,zP];exact cx.row (n:=1) (l:=[g]) (by rw[s4 I jE];rfl) (by simp) (by simp) bC (an.g7 _ _ _)⟩)
    ·obtain⟨aC,aW,cw⟩:=QU (x:=b) I;obtain⟨Ce,hI,tm,n1,rfl,CN,og⟩:=h1.at cw;obtain⟨d,aq,gv,_⟩:=og 0 I;rw[aC] at aq;obtain rfl:b=d:=v9 aq;refine fy ?_;refine U V.ay ?_;refine U V.bh ?_;refine U V.cg ?_;refine U V.au ?_;refine a2 ?_;refine al ?_;refine bN (G:=Uw hF ju I aW) (h:=?_);rintro v' m' bK aK ⟨_,rfl,Eh,rfl,qw⟩;obtain⟨cZ,db,rfl,b0⟩:=qw.bG;refine al ?_;refine aA ?_;refine ae.block ?_;refine' ae.dO (l':=[(12,.int .u64 ((b):Int)),(14,.int .u64 ((a % b):Int))]) ⟨?qK,?us,trivial⟩ (bx _) ?_;case qK=>first|exact bg|exact aa some (aa (Value.int .u64) I)|exact aa some (aa (Value.int .i64) I)
     case us=>first|exact bg|exact aa some (aa (Value.int .u64) I)|exact aa some (aa (Value.int .i64) I)
     refine ao ?_;refine' ae.e2 (fun(a6:Nat×Nat)=>match a6 with|(g,r)=>⟨[(12,.int .u64 (g:Int)),(14,.int .u64 (r:Int))],[],bK,0<g/\g<18446744073709551616/\r<18446744073709551616/\Nat.gcd g r=Nat.gcd x y,r⟩) ⟨b,a % b⟩ ?ag ?bD
     case ag=>exact⟨I,aW,zR (fJ _ I) aW,by rw[<-cp,oA b,oA a,zO b a]⟩
     case bD=>
      rintro⟨g,r⟩ hinv;try simp only at hinv
      obtain⟨aF,jE,yS,Az⟩:=hinv;refine rg ?_;refine U V.ay ?_;refine U V.bb ?_;refine aA ?_;refine If (fun ac6=>?_) fun ac6=>?_
      ·refine ao ?_;refine ae.skip ?_;refine ao ?_;refine ae.block ?_;refine ao ?_;refine ae.draw rfl (by kernel_rfl) (a':=[.val 0,.val 1,.val 2,.val 3,.bR 4,.b9 [3,2],.bR 5]) (by kernel_rfl) ?_;refine eg ?_;refine aT rfl V.hn ?_;refine zD rfl V.au ?_;refine bp.b9 eH ?_;refine zD rfl V.au ?_;refine bp.nil ?_;refine fl ⟨r,g % r⟩ ?_ (hk:=by exact fJ _ I);exact⟨I,I,zR (fJ _ I) yS,by rw[<-Az,oA r,oA g,zO r g]⟩
      ·refine ao ?_;refine ae.exit ?_;refine rg ?_;refine U V.ay ?_;refine ll (kj Q g0) fun are=>?_;refine U V.au ?_;refine a3 ?_;refine ae.h9 rfl fun bi=>?_;refine ao ?_;refine ae.ret ?_;refine'⟨.inr rfl,rfl,_,[],.tmp rfl .nil,br _,?_⟩;first
        |(have c:=M2
          first
              |exact⟨c2,rfl,by rw[<-cp,show b=0 from jh fun q=>Ec q I,zP];exact hF⟩
              |exact⟨(c2.trans aK).trans bi,rfl,by
                  obtain rfl:r=0:=I
                  rw[<-Az,zP];exact cx.row (n:=1) (l:=[g]) (by rw[s4 I jE];rfl) (by simp) (by simp) bC (an.g7 _ _ _)⟩)
theorem LH{v w:Value}{x y:Nat}(ab:cx J v x)(aB:cx J w y)(gP:(aR x).length<=100000)(jK:(aR y).length<=100000):Fn (a1 Q g0) 71 [v,w] [] J (j' J (Nat.gcd x y)):=by
 have dM:=ab;have eU:=aB;obtain⟨bQ,bH,rfl,aX⟩:=ab.bG;obtain⟨bL,bM,rfl,aU⟩:=aB.bG;refine Fn.cr (cu Tryz.func71) rfl rfl fun H=>?_;refine rg ?_;refine U V.au ?_;refine a3 ?_;refine eP [0,1] ?_;refine ao ?_;refine' ae.hf 0 [(10,.bool (decide ((x=1\/y=1))))] ?m0 ?m2;case m0=>
  refine ae.region ?_;refine U V.ay ?_;refine bN (G:=Du dM gP) (h:=?_);rintro v' m' ah hle ⟨rfl,rfl,rfl⟩;refine U V.ay ?_;refine ft 7 (fun FG=>?_) fun FG=>?_
  ·refine bs ?_;refine W.wH rfl rfl rfl rfl rfl ?_;refine U V.bt ?_;refine a3 ?_;refine'⟨⟨_,rfl,⟨?k7,rfl,rfl,trivial⟩⟩,bx _,rfl⟩;case k7=>first|exact fw rfl (by first|omega|(simp_all))|exact fu rfl (by first|omega|(simp_all))|exact fv rfl (by first|omega|(simp_all))|exact fE rfl (by first|omega|(simp_all))
  ·refine bo V.ay ?_;refine qf (G:=Du eU jK) (h:=?_);rintro v' m' ah hle ⟨rfl,rfl,rfl⟩;refine U V.bt ?_;refine a3 ?_;refine'⟨⟨_,rfl,⟨?k7,rfl,rfl,trivial⟩⟩,bx _,rfl⟩;case k7=>first|exact fw rfl (by first|omega|(simp_all))|exact fu rfl (by first|omega|(simp_all))|exact fv rfl (by first|omega|(simp_all))|exact fE rfl (by first|omega|(simp_all))
 case m2=>
  refine ao ?_;refine If (fun cl=>?_) fun cl=>?_
  ·refine rg ?_;refine ll (kj Q g0) fun r5=>?_;refine U V.au ?_;refine a3 ?_;refine ae.h9 rfl fun bi=>?_;refine ao ?_;refine ae.ret ?_;refine'⟨.inr rfl,rfl,_,[],.tmp rfl .nil,br _,?_⟩;first
    |exact⟨bi,rfl,by
      have e:Nat.gcd x y=1:=by
       rcases cl with rfl|rfl
       ·exact Ez _
       ·exact EA _
      rw[e];exact cx.row (n:=1) (l:=[1]) (by rw[s4 bC bC];rfl) (by simp) (by simp) bC (an.g7 _ _ _)⟩
  ·refine ao ?_;refine ae.skip ?_;refine rg ?_;refine al ?_;refine bN (G:=Fc dM eU gP jK) (h:=?_);rintro v' m' ah hle ⟨rfl,rfl,rfl⟩;refine U V.bb ?_;refine aA ?_;refine If (fun eR=>?_) fun eR=>?_
   ·refine rg ?_;refine al ?_;refine aA ?_;refine ae.ret ?_;refine'⟨.inr rfl,rfl,_,[],.tmp rfl .nil,br _,?_⟩;first
      |(have c:=eR
        first
           |exact⟨an.le.refl _,rfl,by rw[<-Nc.1 c,Nat.gcd_self];exact dM⟩
           |exact⟨aK,rfl,hw⟩)
      |exact⟨bi,rfl,by
        have e:Nat.gcd x y=1:=by
         rcases cl with rfl|rfl
         ·exact Ez _
         ·exact EA _
        rw[e];exact cx.row (n:=1) (l:=[1]) (by rw[s4 bC bC];rfl) (by simp) (by simp) bC (an.g7 _ _ _)⟩
   ·refine ao ?_;refine ae.skip ?_;refine rg ?_;refine al ?_;refine bN (G:=ad3 dM eU gP jK) (h:=?_);rintro v' m' bK aK ⟨_,rfl,hw⟩;obtain⟨cZ,db,rfl,b0⟩:=hw.bG;refine U V.au ?_;refine aA ?_;refine ae.ret ?_;refine'⟨.inr rfl,rfl,_,[],.tmp rfl .nil,br _,?_⟩;first
      |(have c:=eR
        first
           |exact⟨an.le.refl _,rfl,by rw[<-Nc.1 c,Nat.gcd_self];exact dM⟩
           |exact⟨aK,rfl,hw⟩)
      |exact⟨bi,rfl,by
        have e:Nat.gcd x y=1:=by
         rcases cl with rfl|rfl
         ·exact Ez _
         ·exact EA _
        rw[e];exact cx.row (n:=1) (l:=[1]) (by rw[s4 bC bC];rfl) (by simp) (by simp) bC (an.g7 _ _ _)⟩
end
def an.join(J bK:an):an:=fun a=>match J a with|some x=>some x|none=>bK a
theorem an.join_le{J bK:an}:J.le (J.join bK):=fun a x h=>by unfold an.join;rw[h]
theorem Inv.W4{g0:Nat}{J uB bK:an}{m':a8}{H H':aw}(h:Inv g0 (ky [] H J) J [] H)(aO:uB.le J)(hk:Inv g0 (ky [] H uB) bK m' H'):Inv g0 (ky [] H J) (J.join bK) m' H'/\bK.le (J.join bK):=by
 have cA:∀a x,J a=some x->a<H.aG:=fun a x q=>by
  obtain⟨c,e⟩:=x;obtain⟨o,f,z,s,q⟩:=h.et a c e q;exact h.wf.lt q
 have fG:∀a,¬vu [] a:=fun a q=>absurd q (by unfold vu;exact IL);have F7:∀a,a<H.aG->H'.mem.get a=H.mem.get a:=fun a q=>hk.gE a q (fG a);have aiM:∀a c e,J.join bK a=some (c,e)->∃o f z s,H'.mem.get a=some (.row c e o f z s):=fun a c e q=>by
  unfold an.join at q;cases hy:J a with
  |some x=>
   rw[hy] at q;injection q with q
   subst q;rw[F7 a (cA a _ hy)];exact h.et a c e hy
  |none=>rw[hy] at q;exact hk.et a c e q
 refine⟨⟨hk.wf,hk.bU,hk.aG,hk.cF,hk.gE,hk.nC,aiM,an.join_le,fun a x aX aU=>?_,fun a b q=>?_,fun a b q x ab=>?_,hk.gv⟩,fun a x q=>?_⟩
 ·have aX:J a=none:=aX;unfold an.join at aU;rw[aX] at aU;refine hk.fresh a x ?_ aU;show uB a=none;cases ad:uB a with
  |none=>rfl
  |some y=>rw[aO _ _ ad] at aX;cases aX
 ·obtain⟨a7,a0,bJ,cO⟩:=hk.own a b q;refine⟨a7,a0,?_,cO⟩;unfold an.join;cases hy:J a with
  |none=>exact bJ
  |some y=>
   rcases a0 with k|k
   ·exact absurd (cA a y hy) (Nat.not_lt_of_le k)
   ·exact absurd k (fG a)
 ·obtain⟨a7,a0,bJ⟩:=hk.opn a b q x ab;refine⟨a7,a0,?_⟩;unfold an.join;cases hy:J x with
  |none=>exact bJ
  |some y=>
   rcases a0 with k|k
   ·exact absurd (cA x y hy) (Nat.not_lt_of_le k)
   ·exact absurd k (fG x)
 ·unfold an.join;cases hy:J a with
  |none=>exact q
  |some y=>
   obtain⟨c,e⟩:=x;obtain⟨c',b3⟩:=y;obtain⟨o,f,z,s,dQ⟩:=hk.et a c e q;obtain⟨o',f',hq,dC,ee⟩:=h.et a c' b3 hy;rw[<-F7 a (cA a _ hy),dQ] at ee;injection ee with ee
   injection ee with aC aW
   subst aC;subst aW;rfl
section
variable {K:ef}{B:dy}{ops:List Oper}{a':List jP}{F:List uw}{E:cC}{m m':a8}{J:an}{o:Oper}{bF:cC->a8->an->Prop}
variable {n:Nat}{ds:eK}{l:List (Nat×Value)}{d i:Nat}
def zF(J:an)(f:FuncId)(al:List Value)(ek:Value->a8->an->Prop)(x:uw):Prop:=x.f=f->x.b2=al->x.cj=[]/\x.J.le J/\∀v m' bK dT,x.ek v m' bK->bK.le dT->J.le dT->ek v m' dT
theorem dx{J:an}{f:FuncId}{al:List Value}{ek:Value->a8->an->Prop}:∀x∈([]:List uw),zF J f al ek x:=fun x ab=>by cases ab
theorem de{J:an}{f:FuncId}{al:List Value}{ek:Value->a8->an->Prop}{jf:uw}(aO:zF J f al ek jf)(h:∀x∈F,zF J f al ek x):∀x∈jf::F,zF J f al ek x:=fun x ab=>by
 rcases gb.1 ab with rfl|ab
 ·exact aO
 ·exact h x ab
theorem eI{J:an}{f:FuncId}{al:List Value}{ek:Value->a8->an->Prop}{jf:uw}(h:Nat.beq jf.f f=false):zF J f al ek jf:=fun aM=>by
 rw[aM,hY] at h;cases h
theorem bc.dA{c:Call}{x:Operand}{f:FuncId}{first cap:Array Value}{args al:List Value}{ek:Value->a8->an->Prop}
 (ar:nth ops i=some o)(aF:o.guard=none)(aj:o.op=.call c)(aq:o.dst=some d)(aE:Nat.blt d n=true)(aJ:c.callee=.value x)(ab:bT l x=some (.func (.func f) first cap))(aI:ix l c.args.toList=some args)(has:(first.toList++args)++cap.toList=al)
 (ag:∀x∈F,zF J f al ek x)(b4:Fn K f al [] J ek)(h:∀v m' ah,J.le ah->ek v m' ah->bc K B ops a' (⟨f,al,[],J,ek,false⟩::F) ⟨n,ds,(d,v)::l⟩ (m'++m) ah bF):bc K B ops (.bR i::a') F ⟨n,ds,l⟩ m J bF:=by
 intro T S H cB ax aH;have ap:([]++m).Perm m:=.refl _;have fS:=aH.enter (cj:=[]) ap trivial;obtain⟨v,H',ah,m',a7,a0,bJ,kx⟩:∃v H' ah m',kS K.Q f al H (.returned v) H'/\Inv K.g0 (ky [] H J) ah m' H'/\ek v m' ah/\∀r,T f al H=some r->r=(Ending.returned v,H'):=by
  cases wO:T f al H with
  |none=>
   obtain⟨v,H',ah,m',a7,a0,bJ⟩:=b4 H fS;exact⟨v,H',ah,m',a7,a0,bJ,fun r q=>by cases q⟩
  |some r=>
   obtain⟨x,ab,⟨aC,aW,Ok,v,H',bK,m',nZ,a7,a0,bJ⟩,mF⟩:=cB _ _ _ _ wO;obtain⟨aX,aU,b0⟩:=ag x ab aC aW;rw[aX] at a0;obtain⟨GQ,GR⟩:=fS.W4 aU a0;exact⟨v,H',_,m',a7,GQ,b0 v m' bK _ bJ GR an.join_le,fun cW q=>by injection q with q;rw[<-q];exact nZ⟩
 have ly:H.aG<=H'.aG:=a0.aG;obtain⟨cO,gj⟩:=aH.leave ap a0;obtain⟨bl,s1,s2⟩:=ax.put (dst:=some d) aE v
 classical
 obtain⟨bt,dr,aP,p2,cV,ru,qR,ad,af,aV,bq⟩:=h v m' ah gj bJ (fun f' zZ H1=>if f'=f/\zZ=al/\H1=H then some (.returned v,H') else T f' zZ H1) bl H' (fun f' zZ H1 r q=>by
  split at q
  ·rename_i e;obtain⟨rfl,rfl,rfl⟩:=e;injection q with q
   exact⟨_,.head _,⟨rfl,rfl,fS,v,H',ah,m',q.symm,a7,a0,bJ⟩,fun e=>by cases e⟩
  ·obtain⟨x,ab,cW,w4⟩:=cB _ _ _ _ q;exact⟨x,.tail _ ab,cW,fun e=>iJ (w4 e) ly⟩) s2 cO
 refine⟨fun f' cq H1=>if f'=f/\cq=al/\H1=H then some (.returned v,H') else bt f' cq H1,fun f' cq H1 r cW aX aU=>?_,aP,p2,cV,ru,qR,fun fY q=>?_,af,aV,bq⟩
 ·dsimp only at aU
  split at aU
  ·rename_i e;obtain⟨rfl,rfl,rfl⟩:=e;injection aU with aU
   rw[kx r aX,aU]
  ·rename_i e;exact dr f' cq H1 r cW (by rw[bd e];exact aX) aU
 ·have ih:fY f al H=some (.returned v,H'):=q f al H _ (by simp only[and_self,bj]);have AM:∀f' cq H1 r,bt f' cq H1=some r->fY f' cq H1=some r:=fun f' cq H1 r av=>by
   by_cases e:f'=f/\cq=al/\H1=H
   ·have:=dr f' cq H1 (.returned v,H') r (by rw[bj e]) av;rw[this,e.1,e.2.1,e.2.2];exact ih
   ·exact q f' cq H1 r (by dsimp only;rw[bd e];exact av)
  show jN ops i (fun o=>kG (dU K.P _ _ ops a') (one K.P _ _ ops S H o))=_;unfold jN;rw[ar];show kG (dU K.P _ _ ops a') (one K.P _ _ ops S H o)=_;unfold one gp;rw[aF];show kG (dU K.P _ _ ops a') (qE S H o.dst (cL K.P _ _ S H o))=_;have he:cL K.P (iO K.Q fY) (hO K.Q il fY).aQ S H o=some (.val v H'):=by
   unfold cL e3;simp only[aj];show k9 K.P _ c=_;unfold k9;rw[aJ];show n0 K.P _ _ S.T H c=_;unfold n0;rw[oG ax H aI];simp only[aJ];rw[dg ax H ab];simp only
   show(match kY K.P H (.func f) (first.toList++args) cap.toList with|some (f,al)=>pk (iO K.Q _ f al H)|none=>none)=_
   unfold kY;simp only
   rw[has,Cl a7 ih];rfl
  rw[he,aq];show kG (dU K.P _ _ ops a') (ot H' (S.put (some d) v))=_;rw[s1];exact ad fY AM
end
end
end Go.Opn

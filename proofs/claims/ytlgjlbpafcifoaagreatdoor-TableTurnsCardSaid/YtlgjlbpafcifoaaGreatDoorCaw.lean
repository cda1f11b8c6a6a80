/- A part of the proof of TableTurns. -/
import Derived.Test.YtlgjlbpafcifoaaGreatDoorCav
import Derived.Test.YtlgjlbpafcifoaaGreatDoorCal
set_option maxRecDepth 100000
set_option maxHeartbeats 8000000
set_option linter.unusedVariables false
set_option linter.unusedSimpArgs false
namespace Go.Opn
noncomputable section
open Go.Cre Go.RowKit Go.Proofs
theorem Xg{l:List Nat}{n:Nat}(bu:okW l)(ap:l.length<=n+2):∃lo,a3 l=(l.getD (n+1) 0*18446744073709551616+l.getD n 0)*18446744073709551616 ^ n+lo/\lo<18446744073709551616 ^ n:=by
 have aw:=zc l (n+1);rw[cM (show l.length<=n+1+1 by omega),zc l n] at aw;have ab:=ry (tJ (i:=n) bu);have ad:18446744073709551616 ^ (l.take n).length<=18446744073709551616 ^ n:=nE bm (by rw[dY];omega);refine⟨a3 (l.take n),?_,hA ab ad⟩;rw[aw,ff];obtain⟨p,ao⟩:∃p,p=18446744073709551616 ^ n:=⟨_,rfl⟩;rw[<-ao,cR];have a7:p*18446744073709551616*l.getD (n+1) 0=l.getD (n+1) 0*18446744073709551616*p:=by ac_rfl
 have bc:p*l.getD n 0=l.getD n 0*p:=dp _ _;rw[a7,bc];omega
theorem Xf{A bt w0 h n lo:Nat}(cT:h<=63)(ez:A=(bt*18446744073709551616+w0)*18446744073709551616 ^ n+lo)(g':lo<18446744073709551616 ^ n):
 ∃c3,A=(bt*2 ^ h+w0 / 2 ^ (64 -h))*(2 ^ (64 -h)*18446744073709551616 ^ n)+c3/\c3<2 ^ (64 -h)*18446744073709551616 ^ n:=by
 have hs:=vR (s:=h) I;have aN:=lI w0 (2 ^ (64 -h));have hm:=fz w0 (lh (64 -h));refine⟨w0 % 2 ^ (64 -h)*18446744073709551616 ^ n+lo,?_,?_⟩
 ·rw[ez]
  have e:bt*18446744073709551616+w0=(bt*2 ^ h+w0 / 2 ^ (64 -h))*2 ^ (64 -h)+w0 % 2 ^ (64 -h):=by
   rw[cR,e4,dp (2 ^ h),hs,dp (w0 / 2 ^ (64 -h))];omega
  rw[e,cR,e4];omega
 ·have ab:(w0 % 2 ^ (64 -h)+1)*18446744073709551616 ^ n<=2 ^ (64 -h)*18446744073709551616 ^ n:=eK _ hm
  rw[cR,h'] at ab;omega
structure abt (A B n h x y qx:Nat):Prop where
 ez:∃c3 s0 K,A=x*K+c3/\B=y*K+s0/\c3<K/\s0<K
 arF:y<=x
 Sb:x<18446744073709551616
theorem akU{A B n h qx:Nat}(Fe:B<=A)(ap:(aS A).length=n+2)(CW:(aS A)[n+1]?=some qx)(cT:h=64 -fk qx)(wj:h<=63):
 abt A B n h (qx*2 ^ h+(aS A).getD n 0 / 2 ^ (64 -h)) ((aS B).getD (n+1) 0*2 ^ h+(aS B).getD n 0 / 2 ^ (64 -h)) qx:=by
 have tB:=xb (oH A) CW;have n2:qx≠0:=Ly A qx (by rw[sM,ap];exact CW);obtain⟨d',_,_⟩:=KG n2 tB;rw[<-cT] at d';obtain⟨lo,aw,dL⟩:=Xg (n:=n) (oH A) I;obtain⟨at5,aR,du⟩:=Xg (n:=n) (oH B) (by have:=ki Fe;omega);rw[hr,hP CW] at aw;rw[hr] at aR;obtain⟨c3,f1,f2⟩:=Xf wj aw dL;obtain⟨s0,bY,bZ⟩:=Xf wj aR du;refine⟨⟨c3,s0,_,f1,bY,f2,bZ⟩,?_,?_⟩
 ·apply qF
  intro q;have ab:=eK (2 ^ (64 -h)*18446744073709551616 ^ n) (Ef q);rw[oZ] at ab;omega
 ·have hs:=vR (s:=h) I
  have ad:qx<2 ^ (64 -h):=Ec (a:=2 ^ h) (by rw[hs];exact d');have aL:=eK (2 ^ h) (Ef ad);rw[hs,oZ] at aL;have a6:(aS A).getD n 0 / 2 ^ (64 -h)<2 ^ h:=(mB (lh _)).2 (by rw[dp,hs];exact E9 (oH A) n);omega
theorem Xe{bt w0 h x:Nat}(wj:h<=63)(aN:w0<18446744073709551616)(U:bt*2 ^ h+w0 / 2 ^ (64 -h)=x)(ai:x<18446744073709551616):IntKind.u64.wrap ((BitVec.ofInt IntKind.u64.bits ((bt*2 ^ h % 18446744073709551616:Nat):Int) ||| BitVec.ofInt IntKind.u64.bits ((w0 / 2 ^ (64 -h):Nat):Int)).toNat:Int)=(x:Int):=by
 have al:w0 / 2 ^ (64 -h)<2 ^ h:=(mB (lh _)).2 (by rw[dp,vR I];exact aN);have hle:bt*2 ^ h<18446744073709551616:=nC (by rw[<-U];exact L' _ _) ai;rw[nD hle,He hle (nC (qE _ _) aN),Q4 al,U]
section
variable {Q:cZ Tryz.prog}{g0:Nat}{J:af}
theorem ao9{v w:Value}{x y:Nat}(U:cp J v x)(au:cp J w y)(hb:(aS x).length<=100000)(C1:y<=x)(jb:2<=(aS y).length):Fn (aT Q g0) 155 [v,w] [] J (fun u m' ae=>(∃bq u1 v0 v1:Nat,∃e:Bool,u=.tuple #[.int .u64 (bq:Int),.int .u64 (u1:Int),.int .u64 (v0:Int),.int .u64 (v1:Int),.bool e]/\bq<18446744073709551616/\u1<18446744073709551616/\v0<18446744073709551616/\v1<18446744073709551616/\(v0≠0->∃a b:Nat,(if e then bq*x=v0*y+a/\v1*y=u1*x+b else v0*y=bq*x+a/\u1*x=v1*y+b)/\b<a/\a<=y/\Nat.gcd a b=Nat.gcd x y))/\m'=[]/\J=ae):=by
 have di:=U;have eN:=au;obtain⟨bs,bp,rfl,aK⟩:=U.bQ;obtain⟨bM,bN,rfl,aH⟩:=au.bQ;have iX:=ki C1;obtain⟨n,az⟩:∃n,(aS x).length=n+2:=⟨(aS x).length -2,I⟩;obtain⟨sZ,er,nL,ex,rfl,th,kx⟩:=di.at (nw I);obtain⟨BS,hp,s5,nR,rfl,Ct,n4⟩:=eN.at (nw I);obtain⟨qx,CW,Yj,XC⟩:=kx (n+1) I;obtain⟨Lx,tB,Yk,alr⟩:=kx n I;have aj4:qx≠0:=Ly x qx (by rw[sM,az];exact CW);have Yj:nth nL (er+(((n+2:Nat):Int) -1).toNat*1)=some (.int .u64 (qx:Int)):=by rw[show(((n+2:Nat):Int) -1).toNat=n+1 by omega];exact Yj
 have Yk:nth nL (er+(((n+2:Nat):Int) -2).toNat*1)=some (.int .u64 (Lx:Int)):=by rw[show(((n+2:Nat):Int) -2).toNat=n by omega];exact Yk
 obtain⟨h,cT⟩:∃h,h=64 -fk qx:=⟨_,rfl⟩;have wj:h<=63:=by have:=(KG aj4 XC).2.2;omega
 have a4:=akU C1 az CW cT wj;obtain⟨X,dr⟩:∃X,qx*2 ^ h+Lx / 2 ^ (64 -h)=X:=⟨_,rfl⟩;obtain⟨Y,hh⟩:∃Y,(aS y).getD (n+1) 0*2 ^ h+(aS y).getD n 0 / 2 ^ (64 -h)=Y:=⟨_,rfl⟩;rw[hP tB,dr,hh] at a4;obtain⟨c3,s0,ar0,ez,eh,hQ,q3⟩:=a4.ez;have Vm:=a4.arF;have wz:=a4.Sb;rw[az];refine Fn.b8 (b7 Tryz.func155) rfl rfl fun H=>?_;refine aa 0x930c21ce042284a1ce04210859 ?_;refine br (G:=Qm XC) (h:=?_);rintro v' m' ae hle ⟨rfl,rfl,rfl⟩;rw[<-cT];refine aa 0xbe04e ?_;refine aB.draw rfl (by kernel_rfl) (aX:=[.val 0,.val 1,.val 2,.val 3,.val 4,.val 5,.val 6,.val 7,.val 8,.val 9,.val 10,.val 11,.val 12,.val 13,.val 14,.val 15,.val 16]) (by kernel_rfl) ?_;refine aa 0x502930c21 ?_;rw[y5];refine aa 0xc2930c21 ?_;rw[show(64:Int) -(h:Int)=((64 -h:Nat):Int) by omega];refine xM rfl V.o3 ?_;rw[xu];refine xM rfl V.o3 ?_;rw[Xe wj alr dr wz];refine aa 0xc073816702 ?_;refine dN [1,9,10,11,13,45,4,6,7,8,12] ?_;refine a' ?_;refine' aB.lk 6 (fun(DT:Nat)=>⟨[(13,.int .u64 (DT:Int))],[],J,DT=Y⟩) ?vY ?v8;case vY=>
  refine aa 0x5f022073a ?_;refine If (fun adh=>?_) fun adh=>?_
  ·obtain⟨cP,ajb,Yf,Kk⟩:=n4 (n+1) I;obtain⟨ic,rb,GW,Xw⟩:=n4 n I;have Yf:nth s5 (hp+(((n+2:Nat):Int) -1).toNat*1)=some (.int .u64 (cP:Int)):=by rw[show(((n+2:Nat):Int) -1).toNat=n+1 by omega];exact Yf
   have GW:nth s5 (hp+(((n+2:Nat):Int) -2).toNat*1)=some (.int .u64 (ic:Int)):=by rw[show(((n+2:Nat):Int) -2).toNat=n by omega];exact GW
   rw[hP ajb,hP rb] at hh;refine a' ?_;refine aB.draw rfl (by kernel_rfl) (aX:=[.val 0,.val 1,.val 2,.val 3,.val 4,.val 5,.val 6,.val 7,.val 8,.val 9,.val 10,.val 11,.val 12,.val 13,.val 14,.val 15,.val 16]) (by kernel_rfl) ?_;refine aa 0x502930c21 ?_;rw[y5];refine aa 0xc2930c21 ?_;rw[show(64:Int) -(h:Int)=((64 -h:Nat):Int) by omega];refine xM rfl V.o3 ?_;rw[xu];refine xM rfl V.o3 ?_;rw[Xe wj Xw hh I];refine aa 0x302 ?_;refine fW (Y) ?_;rfl
  ·refine aa 0x5f0220c39 ?_;refine If (fun B0=>?_) fun B0=>?_
   ·obtain⟨ic,rb,GW,Xw⟩:=n4 n I;have GW:nth s5 (hp+(((n+2:Nat):Int) -2).toNat*1)=some (.int .u64 (ic:Int)):=by rw[show(((n+2:Nat):Int) -2).toNat=n by omega];exact GW
    rw[hP rb,lm (l:=aS y) (i:=n+1) I,jA,kH] at hh;refine aa 0x1852618439 ?_;rw[show(64:Int) -(h:Int)=((64 -h:Nat):Int) by omega];refine eT V.o3 ?_;rw[xu,hh];refine aa 0x302 ?_;refine fW (Y) ?_;rfl
   ·rw[lm (l:=aS y) (i:=n+1) I,lm (l:=aS y) (i:=n) I,jA,kH,Mg] at hh;refine jg ?_;refine fW (Y) ?_;rfl
 case v8=>
  rintro DT hinv;try simp only at hinv
  subst hinv;refine aa 0x6af816702ce059 ?_;refine c8 [(12,.int .u64 ((X):Int)),(13,.int .u64 ((DT):Int)),(4,.int .u64 ((0):Int)),(5,.int .u64 ((1):Int)),(14,.int .u64 ((0):Int)),(6,.int .u64 ((0):Int)),(7,.int .u64 ((0):Int)),(15,.int .u64 ((1):Int)),(8,.bool (false))] ?_;refine a' ?_;refine' aB.bA (fun(bE:Nat×Nat×Nat×Nat×Nat×Nat×Nat×Nat×Bool)=>match bE with|(a7,bc,bq,u1,bU,v0,v1,v2,e)=>⟨[(12,.int .u64 (a7:Int)),(13,.int .u64 (bc:Int)),(4,.int .u64 (bq:Int)),(5,.int .u64 (u1:Int)),(14,.int .u64 (bU:Int)),(6,.int .u64 (v0:Int)),(7,.int .u64 (v1:Int)),(15,.int .u64 (v2:Int)),(8,.bool e)],[],J,sV X DT x y a7 bc bq u1 bU v0 v1 v2 e/\bc<=a7/\a7<18446744073709551616/\bq<18446744073709551616/\u1<18446744073709551616/\bU<18446744073709551616/\v0<18446744073709551616/\v1<18446744073709551616/\v2<18446744073709551616,bc⟩) ⟨X,DT,0,1,0,0,0,1,false⟩ ?hs ?bb
  case hs=>exact⟨sV.start,Vm,wz,by decide,by decide,by decide,by decide,by decide,by decide⟩
  case bb=>
   rintro⟨a7,bc,bq,u1,bU,v0,v1,v2,e⟩ hinv;try simp only at hinv
   obtain⟨aj,aU,aQ,bj,ct,fo,jN,oD,rj⟩:=hinv;refine dN [4,5,6,7,8,12,13,14,15] ?_;refine a' ?_;refine' aB.fD 0 [(88,.bool (decide ((v2<=bc/\v1+v2<=a7 -bc))))] ?M6 ?Nl;case M6=>
    refine aa 0x12043a ?_;refine fs 80 (fun agM=>?_) fun agM=>?_
    ·have ai:=aj.bounds (by have:=aj.Bh;omega) (by have:=aj.Bh;omega);refine aa 0x184106108c21 ?_;refine dO (dS ?_);first|omega|(simp_all;done)|(simp_all;omega)
    ·refine aa 0x1846f7bdef7b ?_;refine dO (dS ?_);first|omega|(simp_all;done)|(simp_all;omega)
   case Nl=>
    refine a' ?_;refine If (fun EI=>?_) fun EI=>?_
    ·have ao:=aj.Bh;obtain⟨q,bI⟩:∃q,q=a7 / bc:=⟨_,rfl⟩;obtain⟨r,aq⟩:∃r,r=a7 % bc:=⟨_,rfl⟩;have hl:r<bc:=by rw[aq];exact fz _ I
     have nc:=aj.next ez eh hQ q3 EI.1 EI.2;rw[<-bI,<-aq] at nc;have ajP:u1+q*bU<18446744073709551616:=by
       have:=nc.xI;have aL:=hf (u1+q*bU) (show 1<=bc by omega);omega
     have ph:v1+q*v2<18446744073709551616:=by
       have:=nc.xs;have aL:=hf (v1+q*v2) (show 1<=bc by omega);omega
     refine aa 0x17d5f57 ?_;refine aB.draw rfl (by kernel_rfl) (aX:=[.val 0,.val 1,.val 2,.val 3,.val 4,.val 5,.val 6,.val 7]) (by kernel_rfl) ?_;refine aa 0x3c21 ?_;rw[sy aQ,<-bI];refine aa 0x3c21 ?_;rw[show((a7:Int).tmod (bc:Int))=(r:Int) from by rw[aq];rfl];refine aa 0x3028873810843184210873810843184210873810821ce042 ?_;refine eH ⟨bc,r,u1,bU,u1+q*bU,v1,v2,v1+q*v2,!e⟩ ?_;exact⟨nc,I,I,I,I,ajP,I,I,ph⟩
    ·refine aa 0xd5f0210842084210e757 ?_;refine'⟨.inr rfl,rfl,_,[],.tmp rfl (.tmp rfl (.tmp rfl (.tmp rfl (.tmp rfl .nil)))),kF _,⟨⟨bq,u1,v0,v1,e,rfl,bj,ct,jN,oD,fun h=>aj.out h⟩,rfl,rfl⟩⟩
end
theorem aeb{x y z:List Nat}{i p q er hp qL f s f2 s2 Sm MI:Nat}(ak:i<z.length)(h:a3 (z.take i)+q*a3 (y.take i)+18446744073709551616 ^ i*er=p*a3 (x.take i)+18446744073709551616 ^ i*(qL+hp))
 (aw:f+18446744073709551616*f2=er+p*x.getD i 0)(aR:s+18446744073709551616*s2=hp+q*y.getD i 0)(cf:Sm+s+qL=f+18446744073709551616*MI):
 a3 ((z.set i Sm).take (i+1))+q*a3 (y.take (i+1))+18446744073709551616 ^ (i+1)*f2=p*a3 (x.take (i+1))+18446744073709551616 ^ (i+1)*(MI+s2):=by
 rw[Lt ak,zc x,zc y,cH q,cH p];have dK:Sm+q*y.getD i 0+18446744073709551616*f2+qL+hp=p*x.getD i 0+er+18446744073709551616*(MI+s2):=I
 have cr:=b6 (18446744073709551616 ^ i*·) dK;simp only[cH] at cr;have hB:∀t:Nat,18446744073709551616 ^ i*(18446744073709551616*t)=18446744073709551616 ^ (i+1)*t:=fun t=>by rw[ff,e4]
 rw[hB,hB,hB] at cr;rw[rJ q,rJ p,cH (18446744073709551616 ^ (i+1))];rw[cH] at h;omega
theorem aea{z:List Nat}{n p q x y er hp qL:Nat}(aG:z.length=n)(bu:okW z)(h:a3 z+q*y+18446744073709551616 ^ n*er=p*x+18446744073709551616 ^ n*(qL+hp))(hle:q*y<=p*x)(b9:p*x<18446744073709551616 ^ n):a3 z=p*x -q*y:=by
 have ab:=ry bu;rw[aG] at ab;rcases Tb er (qL+hp) with k|k|k
 ·have:=hf (18446744073709551616 ^ n) (Ef k)
  rw[Nat.mul_succ] at this;omega
 ·rw[k] at h;omega
 ·have:=hf (18446744073709551616 ^ n) (Ef k)
  rw[Nat.mul_succ] at this;omega
section
variable {Q:cZ Tryz.prog}{g0:Nat}{J:af}
theorem I1{v w:Value}{p q x y:Nat}(U:cp J v x)(au:cp J w y)(hb:(aS x).length<=100000)(jb:(aS y).length<=100000)(ao:p<18446744073709551616)(bI:q<18446744073709551616)(hle:q*y<=p*x):Fn (aT Q g0) 156 [.int .u64 (p:Int),v,.int .u64 (q:Int),w] [] J (jB J (p*x -q*y)):=by
 have di:=U;have eN:=au;obtain⟨bs,bp,rfl,aK⟩:=U.bQ;obtain⟨bM,bN,rfl,aH⟩:=au.bQ;obtain⟨N,nS⟩:∃N,N=max (aS x).length (aS y).length:=⟨_,rfl⟩;have ahy:(aS x).length<=N:=I
 have as0:(aS y).length<=N:=I
 have b9:p*x<18446744073709551616 ^ (N+1):=by
  have ab:=Bq ahy;rw[ff,dp];exact Mc ab ao
 refine Fn.b8 (b7 Tryz.func156) rfl rfl fun H=>?_;refine aa 0x284a1ce059 ?_;refine' W.step rfl (Exec.val rfl rfl (HE rfl rfl rfl rfl rfl) ?_);rw[show max ((aS x).length:Int) ((aS y).length:Int)=(N:Int) by omega];refine eT V.hI ?_;refine' W.step rfl (.of (pG rfl rfl rfl rfl rfl (eB rfl) ?aN ?ab ?ad fun IA=>?_));case aN=>exact cC
 case ab=>exact cC
 case ad=>exact cC
 refine aa 0x302 ?_;rw[show((N:Int)+1).toNat=N+1 by omega,zero_num];refine aa 0xd5f012873810859 ?_;refine c8 [(31,.int .i64 ((0):Int)),(10,.int .u64 ((0):Int)),(11,.int .u64 ((0):Int)),(12,.int .u64 ((0):Int)),(0,_),(1,_),(2,_),(3,_),(9,_),(30,_)] ?_;refine a' ?_;refine' aB.bA (fun(bE:Nat×Nat×Nat×Nat×(List Nat))=>match bE with|(i,er,hp,qL,z)=>⟨[(31,.int .i64 (i:Int)),(10,.int .u64 (er:Int)),(11,.int .u64 (hp:Int)),(12,.int .u64 (qL:Int))],[et .u64 120 IA z],J,i<=N+1/\er<18446744073709551616/\hp<18446744073709551616/\qL<=1/\z.length=N+1/\okW z/\a3 (z.take i)+q*a3 ((aS y).take i)+18446744073709551616 ^ i*er=p*a3 ((aS x).take i)+18446744073709551616 ^ i*(qL+hp),N+1 -i⟩) ⟨0,0,0,0,List.replicate (N+1) 0⟩ ?hs ?bb
 case hs=>exact⟨df _,by decide,by decide,by decide,mA,yQ,by rw[fq,fq,fq];rfl⟩
 case bb=>
  rintro⟨i,er,hp,qL,z⟩ hinv;try simp only at hinv
  obtain⟨ak,p6,pd,ah',aG,bu,ar⟩:=hinv;refine aa 0xbe099 ?_;refine If (fun vU=>?_) fun vU=>?_
  ·obtain⟨P,cw⟩:∃P,P=p*(aS x).getD i 0:=⟨_,rfl⟩;obtain⟨R,dq⟩:∃R,R=q*(aS y).getD i 0:=⟨_,rfl⟩;have rY:=GN ao (E9 (oH x) i);rw[<-cw] at rY;have ahK:=GN bI (E9 (oH y) i);rw[<-dq] at ahK;refine aa 0xc10a10e7021670210439c0839d5f57 ?_;refine dN [10,14,39,0,1,2,3,9,11,12,13,15,30,31] ?_;refine a' ?_;refine' aB.lk 3 (fun(bE:(Nat)×(Nat))=>match bE with|(f,f2)=>⟨[(14,.int .u64 (f:Int)),(10,.int .u64 (f2:Int))],[et .u64 120 IA z],J,f<18446744073709551616/\f2<18446744073709551616/\f+18446744073709551616*f2=er+p*(aS x).getD i 0⟩) ?adS ?ae3
   case adS=>
    refine If (fun adf=>?_) fun adf=>?_
    ·obtain⟨sZ,aup,nL,ex,rfl,th,kx⟩:=di.at (nw I);obtain⟨a,aF,X2,jt⟩:=kx i I;refine aa 0x12608439 ?_;refine br (G:=Dj ao jt) (h:=?_);rintro v' m' ae hle ⟨rfl,rfl,rfl⟩;rw[<-hP aF,<-cw];refine aa 0x87381670211ce1 ?_;refine br (G:=vO (c:=0) I) (h:=?_);rintro v' m' ae hle ⟨rfl,rfl,rfl⟩;rw[show(er+P % 18446744073709551616+0) % 18446744073709551616=(er+P) % 18446744073709551616 by omega];refine aa 0x610e70211ce1 ?_;rw[show((P / 18446744073709551616:Nat):Int)+(((er+P % 18446744073709551616+0) / 18446744073709551616:Nat):Int)=(((er+P) / 18446744073709551616:Nat):Int) by omega];refine aa 0x302 ?_;refine fW ⟨(er+P) % 18446744073709551616,(er+P) / 18446744073709551616⟩ ?_;exact⟨I,I,by(try rw[<-cw]);omega⟩
    ·refine jg ?_;refine fW ⟨er,0⟩ ?_;exact⟨p6,by decide,by rw[lm (l:=aS x) (i:=i) I,jk];omega⟩
   case ae3=>
    rintro⟨f,f2⟩ hinv;try simp only at hinv
    obtain⟨aA,tq,aix⟩:=hinv;refine aa 0x30428439 ?_;refine dN [11,15,61,0,1,2,3,9,10,12,13,14,30,31] ?_;refine a' ?_;refine' aB.lk 3 (fun(bE:(Nat)×(Nat))=>match bE with|(s,s2)=>⟨[(15,.int .u64 (s:Int)),(11,.int .u64 (s2:Int))],[et .u64 120 IA z],J,s<18446744073709551616/\s2<18446744073709551616/\s+18446744073709551616*s2=hp+q*(aS y).getD i 0⟩) ?adW ?ae7
    case adW=>
     refine If (fun IT=>?_) fun IT=>?_
     ·obtain⟨BS,auq,s5,nR,rfl,Ct,n4⟩:=eN.at (nw I);obtain⟨b,ai,X8,po⟩:=n4 i I;refine aa 0x12608439 ?_;refine br (G:=Dj bI po) (h:=?_);rintro v' m' ae hle ⟨rfl,rfl,rfl⟩;rw[<-hP ai,<-dq];refine aa 0x87381670211ce1 ?_;refine br (G:=vO (c:=0) I) (h:=?_);rintro v' m' ae hle ⟨rfl,rfl,rfl⟩;rw[show(hp+R % 18446744073709551616+0) % 18446744073709551616=(hp+R) % 18446744073709551616 by omega];refine aa 0x610e70211ce1 ?_;rw[show((R / 18446744073709551616:Nat):Int)+(((hp+R % 18446744073709551616+0) / 18446744073709551616:Nat):Int)=(((hp+R) / 18446744073709551616:Nat):Int) by omega];refine aa 0x302 ?_;refine fW ⟨(hp+R) % 18446744073709551616,(hp+R) / 18446744073709551616⟩ ?_;exact⟨I,I,by(try rw[<-dq]);omega⟩
     ·refine jg ?_;refine fW ⟨hp,0⟩ ?_;exact⟨pd,by decide,by rw[lm (l:=aS y) (i:=i) I,jk];omega⟩
    case ae7=>
     rintro⟨s,s2⟩ hinv;try simp only at hinv
     obtain⟨hs,h2,ajz⟩:=hinv;refine aa 0x2108439 ?_;refine br (G:=Lj ah') (h:=?_);rintro v' m' ae hle ⟨rfl,rfl,rfl⟩;refine aa 0x31ce1 ?_;refine' iK ?hs ?_;case hs=>exact k3 i I
     refine aa 0x3011e702 ?_;refine eH ⟨i+1,f2,s2,(if f<s+qL then 1 else 0),z.set i ((f+18446744073709551616 -s -qL) % 18446744073709551616)⟩ ?_;exact⟨I,tq,h2,by split<;>omega,by rw[g6];exact aG,rn bu (fz _ bm),aeb I ar aix ajz (by split<;>omega)⟩
  ·obtain rfl:i=N+1:=I
   rw[<-aG,cM (bF _),aG,cM (l:=aS x) I,cM (l:=aS y) I,hr,hr] at ar;have mF:=aea aG bu ar hle b9;refine aa 0xe757 ?_;refine' W.step rfl (Exec.call rfl rfl rfl rfl rfl rfl rfl (bl:=[et .u64 120 IA z]) (c2:=[]) (.refl _) trivial (xA (l:=z) bu I (bF _) I) ?_);rintro v' m' ae hle ⟨k,rfl,hk,gl,rfl,rfl⟩;refine aa 0x302 ?_;refine aB.hy rfl fun aM=>?_;refine aa 0x357 ?_;refine bo ?_;exact⟨aM,rfl,cp.row (by rw[gl,<-aG,cM (bF _),mF]) I hk (jD I) (af.gC _ _ _)⟩
theorem yZ{v w:Value}{x y:Nat}(U:cp J v x)(au:cp J w y)(hb:(aS x).length<=100000)(jb:(aS y).length<=100000)(k':y≠0):Fn (aT Q g0) 90 [v,w] [] J (jB J (x / y)):=by
 have di:=U;have eN:=au;obtain⟨bs,bp,rfl,aK⟩:=U.bQ;obtain⟨bM,bN,rfl,aH⟩:=au.bQ;refine Fn.b8 (b7 Tryz.func90) rfl rfl fun H=>?_;refine aa 0x1ce059 ?_;refine br (G:=C9 eN jb) (h:=?_);rintro v' m' ae hle ⟨rfl,rfl,rfl⟩;refine sn ?_;refine If (fun fC=>?_) fun fC=>?_
 ·refine aa 0x357c0839 ?_;refine bo ?_;first
   |(have c:=fC
     first
         |exact⟨af.le.refl _,rfl,by rw[c,Nat.div_one];exact di⟩
         |exact⟨aM,rfl,qa⟩)
 ·refine aa 0x10e757 ?_;refine br (G:=Ng di eN hb jb k') (h:=?_);rintro v' m' bi aM ⟨_,rfl,DQ,wr,rfl,qa,pj⟩;obtain⟨cB,cN,rfl,bJ⟩:=qa.bQ;obtain⟨ep,e',rfl,dU⟩:=pj.bQ;refine aa 0xd5f020e70211ce1 ?_;refine bo ?_;first
   |(have c:=fC
     first
         |exact⟨af.le.refl _,rfl,by rw[c,Nat.div_one];exact di⟩
         |exact⟨aM,rfl,qa⟩)
theorem aec{v w:Value}{x y:Nat}(U:cp J v x)(au:cp J w y)(hb:(aS x).length<=100000)(jb:(aS y).length<=100000):Fn (aT Q g0) 121 [v,w] [] J (jB J (Nat.gcd x y)):=by
 have di:=U;have eN:=au;obtain⟨bs,bp,rfl,aK⟩:=U.bQ;obtain⟨bM,bN,rfl,aH⟩:=au.bQ;refine Fn.b8 (b7 Tryz.func121) rfl rfl fun H=>?_;refine aa 0x21ce059 ?_;refine br (G:=EO di eN hb jb) (h:=?_);rintro v' m' ae hle ⟨rfl,rfl,rfl⟩;refine aa 0x304 ?_;refine dN [0,1,18] ?_;refine a' ?_;refine' aB.lk 3 (fun(bE:(Value)×(Value)×(Nat)×(Nat))=>match bE with|(hI,j4,a,b)=>⟨[(0,hI),(1,j4)],[],J,cp J hI a/\cp J j4 b/\b<=a/\(aS a).length<=100000/\Nat.gcd a b=Nat.gcd x y⟩) ?adL ?aeW
 case adL=>
  refine If (fun hW=>?_) fun hW=>?_
  ·refine aa 0x30210439 ?_;refine fW ⟨.slice bM (aS y).length bN,.slice bs (aS x).length bp,y,x⟩ ?_;exact⟨eN,di,by have:=rP.1 hW;omega,jb,oj _ _⟩
  ·refine jg ?_;refine fW ⟨.slice bs (aS x).length bp,.slice bM (aS y).length bN,x,y⟩ ?_;exact⟨di,eN,qF fun h=>hW (rP.2 h),hb,rfl⟩
 case aeW=>
  rintro⟨hI,j4,a,b⟩ hinv;try simp only at hinv
  obtain⟨ez,eh,nU,jt,cg⟩:=hinv;refine aa 0x357 ?_;refine c8 [(0,(hI)),(1,(j4))] ?_;refine a' ?_;refine' aB.bA (fun(bE:Value×Value×Nat×Nat×af)=>match bE with|(hI,j4,a,b,cb)=>⟨[(0,hI),(1,j4)],[],cb,J.le cb/\cp cb hI a/\cp cb j4 b/\b<=a/\(aS a).length<=100000/\Nat.gcd a b=Nat.gcd x y,b⟩) ⟨hI,j4,a,b,J⟩ ?hs ?bb
  case hs=>exact⟨af.le.refl _,ez,eh,nU,jt,cg⟩
  case bb=>
   rintro⟨hI,j4,a,b,cb⟩ hinv;try simp only at hinv
   obtain⟨bS,ez,eh,nU,jt,cg⟩:=hinv;have gq:=ez;have g1:=eh;obtain⟨fw,gz,rfl,fP⟩:=ez.bQ;obtain⟨fi,eu,rfl,je⟩:=eh.bQ;have po:=dA (ki nU) jt;refine aa 0x2f821439 ?_;refine If (fun rN=>?_) fun rN=>?_
   ·refine aa 0x439d5f57 ?_;refine br (G:=ao9 gq g1 jt nU I) (h:=?_);rintro v' m' ae hle ⟨⟨bq,u1,v0,v1,e,rfl,AF,Df,AG,GA,ajB⟩,rfl,rfl⟩;refine eZ ?_;refine kr ?_;refine dN [0,1,5,6,7,8,9] ?_;refine a' ?_;refine' aB.lk 7 (fun(bE:(Value)×(Value)×(Nat)×(Nat)×(af))=>match bE with|(xD,xE,bO,b',gY)=>⟨[(0,xD),(1,xE)],[],gY,cb.le gY/\cp gY xD bO/\cp gY xE b'/\b'<bO/\bO<=a/\b'<b/\Nat.gcd bO b'=Nat.gcd a b⟩) ?M1 ?Nk
    case M1=>
     refine aa 0x5f022073a ?_;refine If (fun zG=>?_) fun zG=>?_
     ·have Fv:0<b:=uk (nw I);refine aa 0x439 ?_;refine br (G:=Ng gq g1 jt po (nw I)) (h:=?_);rintro v' m' bi aM ⟨_,rfl,DQ,wr,rfl,qa,pj⟩;refine aa 0xc08410e70211ce1 ?_;refine fW ⟨.slice fi (aS b).length eu,wr,b,a % b,bi⟩ ?_;exact⟨aM,g1.mono aM,pj,fz _ Fv,nU,fz _ Fv,by rw[oj,<-zq,oj]⟩
     ·obtain⟨cP,gW,fE,n1,h2,wR⟩:=ajB I;refine aa 0x17c0839 ?_;refine If (fun rO=>?_) fun rO=>?_
      ·have rO:e=true:=rO;rw[rO,a2 rfl] at fE;obtain⟨bY,bZ⟩:=fE;have Kk:bq*a -v0*b=cP:=I
       have Ql:v1*b -u1*a=gW:=I
       refine aa 0x108439 ?_;refine br (G:=I1 gq g1 jt po AF AG I) (h:=?_);rw[Kk];rintro v' m' bi aM ⟨_,rfl,Gd⟩;obtain⟨tZ,rfl⟩:∃tZ,tZ=v':=⟨_,rfl⟩;refine aa 0x8421 ?_;refine br (G:=I1 (g1.mono aM) (gq.mono aM) po jt GA Df I) (h:=?_);rw[Ql];rintro v' m' de a9 ⟨_,rfl,u3⟩;obtain⟨wf,rfl⟩:∃wf,wf=v':=⟨_,rfl⟩;refine aa 0x6042 ?_;refine fW ⟨tZ,wf,cP,gW,de⟩ ?_;exact⟨aM.trans a9,Gd.mono a9,u3,n1,dA h2 nU,hA n1 h2,wR⟩
      ·have rO:e=false:=by simpa using rO
       rw[rO,aZ bm] at fE;obtain⟨bY,bZ⟩:=fE;have Kk:v0*b -bq*a=cP:=I
       have Ql:u1*a -v1*b=gW:=I
       refine aa 0x108439 ?_;refine br (G:=I1 g1 gq po jt AG AF I) (h:=?_);rw[Kk];rintro v' m' bi aM ⟨_,rfl,Gd⟩;obtain⟨tZ,rfl⟩:∃tZ,tZ=v':=⟨_,rfl⟩;refine aa 0x8421 ?_;refine br (G:=I1 (gq.mono aM) (g1.mono aM) jt po Df GA I) (h:=?_);rw[Ql];rintro v' m' de a9 ⟨_,rfl,u3⟩;obtain⟨wf,rfl⟩:∃wf,wf=v':=⟨_,rfl⟩;refine aa 0x6042 ?_;refine fW ⟨tZ,wf,cP,gW,de⟩ ?_;exact⟨aM.trans a9,Gd.mono a9,u3,n1,dA h2 nU,hA n1 h2,wR⟩
    case Nk=>
     rintro⟨xD,xE,bO,b',gY⟩ hinv;try simp only at hinv
     obtain⟨mb,gP,cK,b9,hle,aiU,N6⟩:=hinv;have hlen:=dA (ki hle) jt;refine eH ⟨xD,xE,bO,b',gY⟩ ?_;exact⟨bS.trans mb,gP,cK,rH b9,hlen,N6.trans cg⟩
   ·refine aa 0xbe0850e757 ?_;refine If (fun MP=>?_) fun MP=>?_
    ·refine aa 0x357c0839 ?_;refine bo ?_;first
       |(have c:=MP
         first
            |exact⟨bS,rfl,by rw[<-cg,show b=0 from iF fun q=>HM q I,zr];exact gq⟩
            |exact⟨(bS.trans aM).trans a9,rfl,by
              obtain rfl:r=0:=I
              rw[<-Ad,zr];exact cp.row (n:=1) (l:=[g]) (by rw[sC I iW];rfl) (by simp) (by simp) bm (af.gC _ _ _)⟩)
    ·obtain⟨aw,aR,cf⟩:=QA (x:=b) I;obtain⟨BS,hp,s5,nR,rfl,Ct,n4⟩:=g1.at cf;obtain⟨d,al,fT,_⟩:=n4 0 I;rw[aw] at al;obtain rfl:b=d:=sS al;refine aa 0x439c09260e757 ?_;refine br (G:=Ug gq jt I aR) (h:=?_);rintro v' m' bi aM ⟨_,rfl,DQ,rfl,qa⟩;obtain⟨cB,cN,rfl,bJ⟩:=qa.bQ;refine aa 0xd5f0211ce1 ?_;refine c8 [(12,.int .u64 ((b):Int)),(14,.int .u64 ((a % b):Int))] ?_;refine a' ?_;refine' aB.bA (fun(bE:Nat×Nat)=>match bE with|(g,r)=>⟨[(12,.int .u64 (g:Int)),(14,.int .u64 (r:Int))],[],bi,0<g/\g<18446744073709551616/\r<18446744073709551616/\Nat.gcd g r=Nat.gcd x y,r⟩) ⟨b,a % b⟩ ?hs ?bb
     case hs=>exact⟨I,aR,zt (fz _ I) aR,by rw[<-cg,oj b,oj a,zq b a]⟩
     case bb=>
      rintro⟨g,r⟩ hinv;try simp only at hinv
      obtain⟨ax,iW,yv,Ad⟩:=hinv;refine aa 0x17c1039 ?_;refine If (fun adn=>?_) fun adn=>?_
      ·refine aa 0x17d5f57 ?_;refine aB.draw rfl (by kernel_rfl) (aX:=[.val 0,.val 1,.val 2,.val 3,.bD 4,.ca [3,2],.bD 5]) (by kernel_rfl) ?_;refine aa 0xc0ba278421 ?_;refine eH ⟨r,g % r⟩ ?_ (hk:=by exact fz _ I);exact⟨I,I,zt (fz _ I) yv,by rw[<-Ad,oj r,oj g,zq r g]⟩
      ·refine aa 0xe757 ?_;refine lj fun asd=>?_;refine aa 0x302 ?_;refine aB.hy rfl fun a9=>?_;refine aa 0x357 ?_;refine bo ?_;first
        |(have c:=MP
          first
              |exact⟨bS,rfl,by rw[<-cg,show b=0 from iF fun q=>HM q I,zr];exact gq⟩
              |exact⟨(bS.trans aM).trans a9,rfl,by
                obtain rfl:r=0:=I
                rw[<-Ad,zr];exact cp.row (n:=1) (l:=[g]) (by rw[sC I iW];rfl) (by simp) (by simp) bm (af.gC _ _ _)⟩)
theorem Lg{v w:Value}{x y:Nat}(U:cp J v x)(au:cp J w y)(hb:(aS x).length<=100000)(jb:(aS y).length<=100000):Fn (aT Q g0) 87 [v,w] [] J (jB J (Nat.gcd x y)):=by
 have di:=U;have eN:=au;obtain⟨bs,bp,rfl,aK⟩:=U.bQ;obtain⟨bM,bN,rfl,aH⟩:=au.bQ;refine Fn.b8 (b7 Tryz.func87) rfl rfl fun H=>?_;refine aa 0x6059 ?_;refine dN [0,1] ?_;refine a' ?_;refine' aB.fD 0 [(10,.bool (decide ((x=1\/y=1))))] ?kM ?kP;case kM=>
  refine aa 0x3a ?_;refine br (G:=C9 di hb) (h:=?_);rintro v' m' ae hle ⟨rfl,rfl,rfl⟩;refine eT V.k2 ?_;refine fs 7 (fun Fc=>?_) fun Fc=>?_
  ·refine aa 0xc23fb ?_;refine dO (dS ?_);first|omega|(simp_all)
  ·refine Iw V.k2 ?_;refine vV (G:=C9 eN jb) (h:=?_);rintro v' m' ae hle ⟨rfl,rfl,rfl⟩;refine aa 0x308 ?_;refine dO (dS ?_);first|omega|(simp_all)
 case kP=>
  refine a' ?_;refine If (fun b2=>?_) fun b2=>?_
  ·refine rg ?_;refine lj fun pS=>?_;refine aa 0x302 ?_;refine aB.hy rfl fun a9=>?_;refine aa 0x357 ?_;refine bo ?_;first
    |exact⟨a9,rfl,by
      have e:Nat.gcd x y=1:=by
       rcases b2 with rfl|rfl
       ·exact Ea _
       ·exact Eb _
      rw[e];exact cp.row (n:=1) (l:=[1]) (by rw[sC bm bm];rfl) (by simp) (by simp) bm (af.gC _ _ _)⟩
  ·refine aa 0x10e757 ?_;refine br (G:=EO di eN hb jb) (h:=?_);rintro v' m' ae hle ⟨rfl,rfl,rfl⟩;refine aa 0x5f04 ?_;refine If (fun dR=>?_) fun dR=>?_
   ·refine aa 0x357c0839 ?_;refine bo ?_;first
      |(have c:=dR
        first
           |exact⟨af.le.refl _,rfl,by rw[<-MY.1 c,Nat.gcd_self];exact di⟩
           |exact⟨aM,rfl,hw⟩)
      |exact⟨a9,rfl,by
        have e:Nat.gcd x y=1:=by
         rcases b2 with rfl|rfl
         ·exact Ea _
         ·exact Eb _
        rw[e];exact cp.row (n:=1) (l:=[1]) (by rw[sC bm bm];rfl) (by simp) (by simp) bm (af.gC _ _ _)⟩
   ·refine aa 0x10e757 ?_;refine br (G:=aec di eN hb jb) (h:=?_);rintro v' m' bi aM ⟨_,rfl,hw⟩;obtain⟨cB,cN,rfl,bJ⟩:=hw.bQ;refine aa 0xd5f02 ?_;refine bo ?_;first
      |(have c:=dR
        first
           |exact⟨af.le.refl _,rfl,by rw[<-MY.1 c,Nat.gcd_self];exact di⟩
           |exact⟨aM,rfl,hw⟩)
      |exact⟨a9,rfl,by
        have e:Nat.gcd x y=1:=by
         rcases b2 with rfl|rfl
         ·exact Ea _
         ·exact Eb _
        rw[e];exact cp.row (n:=1) (l:=[1]) (by rw[sC bm bm];rfl) (by simp) (by simp) bm (af.gC _ _ _)⟩
end
def iO(d:Nat):Nat:=if d=1 then 0 else d
structure h8 (J:af) (r:cY) (v1 v2:Value):Prop where
 n:cp J v1 r.z.natAbs
 d:cp J v2 (iO r.d)
theorem h8.mono{J ae:af}(hle:J.le ae){r:cY}{v1 v2:Value}(h:h8 J r v1 v2):h8 ae r v1 v2:=⟨h.n.mono hle,h.d.mono hle⟩
abbrev rU(r:cY)(v1 v2:Value):List Value:=[.bool (decide (r.z<0)),v1,v2]
abbrev eC(r:cY)(v1 v2:Value):Value:=.agg #[.bool (decide (r.z<0)),v1,v2]
abbrev ur(J:af)(r:cY):Value->aO->af->Prop:=fun u m' ae=>J.le ae/\m'=[]/\∃v1 v2,u=eC r v1 v2/\h8 ae r v1 v2
theorem M0{r:cY}(h:r.h7)(aG:r.z=0):r.d=1:=by
 have:=h.2;rw[aG] at this;exact(L9 r.d).symm.trans this
section
variable {Q:cZ Tryz.prog}{g0:Nat}{J:af}
theorem Kp{r:cY}{v w:Value}{neg:Bool}(ab:cp J v r.z.natAbs)(ad:cp J w r.d)(az:r.z≠0->neg=decide (r.z<0))(aG:r.z=0->r.d=1)(al:r.d≠0)(lx:(aS r.d).length<=100000):Fn (aT Q g0) 91 [.bool neg,v,w] [] J (ur J r):=by
 have kd:=ab;have jH:=ad;obtain⟨bs,d',bp,rfl,aK,jJ,h1⟩:=ab.cA;obtain⟨bM,ej,bN,rfl,aH,mH,jK⟩:=ad.cA;refine Fn.b8 (b7 Tryz.func91) rfl rfl fun H=>?_;refine rg ?_;refine gn fun ee=>?_;refine aa 0x5f0428738 ?_;refine If (fun eI=>?_) fun eI=>?_
 ·refine aa 0x357c7219 ?_;refine bo ?_;first
   |(have eG:r.z=0:=pK.1 (jJ.z I)
     exact⟨af.le.refl _,rfl,.slice none 0 0,.slice none 0 0,by rw[show eC r (.slice none 0 0) (.slice none 0 0)=.agg #[.bool (decide (r.z<0)),.slice none 0 0,.slice none 0 0] from rfl,eG];rfl,by rw[eG];exact cp.nil,by unfold iO;rw[a2 (aG eG)];exact cp.nil⟩)
 ·refine aa 0xe757 ?_;refine br (G:=C9 jH lx) (h:=?_);rintro v' m' ae hle ⟨rfl,rfl,rfl⟩;refine sn ?_;refine If (fun j9=>?_) fun j9=>?_
  ·refine aa 0xd5f1c80421ce059 ?_;refine bo ?_;first
    |(have c:=j9
      have eG:r.z≠0:=fun q=>eI (by have:=jJ.iR (by rw[q];rfl);omega);first
          |exact⟨af.le.refl _,rfl,_,_,by rw[az eG];rfl,kd,by unfold iO;rw[a2 c];exact cp.nil⟩
          |exact⟨af.le.refl _,rfl,_,_,by rw[az eG];rfl,kd,by unfold iO;rw[aZ c];exact jH⟩)
    |(have eG:r.z=0:=pK.1 (jJ.z I)
      exact⟨af.le.refl _,rfl,.slice none 0 0,.slice none 0 0,by rw[show eC r (.slice none 0 0) (.slice none 0 0)=.agg #[.bool (decide (r.z<0)),.slice none 0 0,.slice none 0 0] from rfl,eG];rfl,by rw[eG];exact cp.nil,by unfold iO;rw[a2 (aG eG)];exact cp.nil⟩)
  ·refine aa 0x6af8e40210e757 ?_;refine bo ?_;first
    |(have c:=j9
      have eG:r.z≠0:=fun q=>eI (by have:=jJ.iR (by rw[q];rfl);omega);first
          |exact⟨af.le.refl _,rfl,_,_,by rw[az eG];rfl,kd,by unfold iO;rw[a2 c];exact cp.nil⟩
          |exact⟨af.le.refl _,rfl,_,_,by rw[az eG];rfl,kd,by unfold iO;rw[aZ c];exact jH⟩)
    |(have eG:r.z=0:=pK.1 (jJ.z I)
      exact⟨af.le.refl _,rfl,.slice none 0 0,.slice none 0 0,by rw[show eC r (.slice none 0 0) (.slice none 0 0)=.agg #[.bool (decide (r.z<0)),.slice none 0 0,.slice none 0 0] from rfl,eG];rfl,by rw[eG];exact cp.nil,by unfold iO;rw[a2 (aG eG)];exact cp.nil⟩)
theorem qJ{r:cY}{v1 v2:Value}{neg:Bool}(h:h8 J r v1 v2)(al:r.d≠0):Fn (aT Q g0) 88 [.agg #[.bool neg,v1,v2]] [] J (jB J r.d):=by
 have jH:=h.d;obtain⟨bs,d',bp,rfl,aK,jJ,h1⟩:=h.n.cA;obtain⟨bM,ej,bN,rfl,aH,mH,jK⟩:=h.d.cA;refine Fn.b8 (b7 Tryz.func88) rfl rfl fun H=>?_;refine rg ?_;refine gZ fun a7=>?_;refine aa 0x17c10aa6e702 ?_;refine If (fun eu=>?_) fun eu=>?_
 ·refine rg ?_;refine lj fun fh=>?_;refine aa 0x302 ?_;refine aB.hy rfl fun a9=>?_;refine aa 0x357 ?_;refine bo ?_;first
   |(have c:=eu
     first
         |exact⟨a9,rfl,by
             have e:r.d=1:=by
              have p:=mH.z I;unfold iO at p;split at p<;>omega
             rw[e];exact cp.row (n:=1) (l:=[1]) (by rw[sC bm bm];rfl) (by simp) (by simp) bm (af.gC _ _ _)⟩
         |exact⟨af.le.refl _,rfl,by
             have e:iO r.d=r.d:=by
              have p:=mH.QR I;unfold iO at*;split at p
              ·exact absurd rfl p
              ·rename_i q;rw[aZ q]
             rw[e] at jH;exact jH⟩)
 ·refine aa 0x1abe04a6e757 ?_;refine bo ?_;first
   |(have c:=eu
     first
         |exact⟨a9,rfl,by
           have e:r.d=1:=by
            have p:=mH.z I;unfold iO at p;split at p<;>omega
           rw[e];exact cp.row (n:=1) (l:=[1]) (by rw[sC bm bm];rfl) (by simp) (by simp) bm (af.gC _ _ _)⟩
         |exact⟨af.le.refl _,rfl,by
           have e:iO r.d=r.d:=by
            have p:=mH.QR I;unfold iO at*;split at p
            ·exact absurd rfl p
            ·rename_i q;rw[aZ q]
           rw[e] at jH;exact jH⟩)
theorem ao8{dI dB:Int}{X0 X1:Bool}{v w:Value}(aw:X0=decide (dI<0))(aR:X1=decide (dB<0))(ab:cp J v dI.natAbs)(ad:cp J w dB.natAbs)(jw:dI≠0)(k':dB≠0)(dL:(aS dI.natAbs).length<=100000)(du:(aS dB.natAbs).length<=100000):Fn (aT Q g0) 115 [.bool X0,v,.bool X1,w] [] J (fun u m' ae=>J.le ae/\m'=[]/\∃b w,u=.tuple #[.bool b,w]/\cp ae w (dI+dB).natAbs/\(dI+dB≠0->b=decide (dI+dB<0))):=by
 subst aw;subst aR;have kd:=ab;have jH:=ad;obtain⟨bs,d',bp,rfl,aK,jJ,h1⟩:=ab.cA;obtain⟨bM,ej,bN,rfl,aH,mH,jK⟩:=ad.cA;refine Fn.b8 (b7 Tryz.func115) rfl rfl fun H=>?_;refine aa 0xc0859 ?_;refine dN [0,1,2,3] ?_;refine a' ?_;refine' aB.fD 0 [(12,.bool (decide (((dI<0)↔(dB<0)))))] ?kM ?kP;case kM=>
  refine aa 0x43a ?_;refine' W.step rfl (Exec.val rfl rfl (xB rfl rfl rfl (.inl ⟨rfl,rfl⟩) (by kernel_rfl)) ?_);refine kr ?_;refine dO (dS ?_);first|omega|(by_cases a:dI<0<;>by_cases b:dB<0<;>simp[a,b])
 case kP=>
  refine a' ?_;refine If (fun j9=>?_) fun j9=>?_
  ·refine aa 0x8439 ?_;refine br (G:=anw kd jH dL du) (h:=?_);rintro v' m' bi aM ⟨_,rfl,hw⟩;have n2:=hw;obtain⟨cB,eD,cN,rfl,bJ,_,_⟩:=hw.cA;refine aa 0x1abe042 ?_;refine bo ?_;refine⟨aM,rfl,_,_,rfl,?_,fun aN=>?_⟩
   ·first
        |(rw[show(dI+dB).natAbs=dI.natAbs+dB.natAbs by omega];exact n2)
        |(rw[show(dI+dB).natAbs=dB.natAbs -dI.natAbs by omega];exact n2)
        |(rw[show(dI+dB).natAbs=dI.natAbs -dB.natAbs by omega];exact n2)
   ·first
        |(by_cases a:dI<0
          ·rw[g7 a,g7 I]
          ·rw[gL a,gL I])
        |(by_cases a:dB<0
          ·rw[g7 a,g7 I]
          ·rw[gL a,gL I])
  ·refine aa 0x10e757 ?_;refine br (G:=EO kd jH dL du) (h:=?_);rintro v' m' ae hle ⟨rfl,rfl,rfl⟩;refine aa 0x5f04 ?_;refine If (fun hM=>?_) fun hM=>?_
   ·have b9:=rP.1 hM;refine aa 0x8439 ?_;refine br (G:=XP jH kd du dL I) (h:=?_);rintro v' m' bi aM ⟨_,rfl,hw⟩;have n2:=hw;obtain⟨cB,eD,cN,rfl,bJ,_,_⟩:=hw.cA;refine aa 0x1abe042 ?_;refine bo ?_;refine⟨aM,rfl,_,_,rfl,?_,fun aN=>?_⟩
    ·first
      |(rw[show(dI+dB).natAbs=dI.natAbs+dB.natAbs by omega];exact n2)
      |(rw[show(dI+dB).natAbs=dB.natAbs -dI.natAbs by omega];exact n2)
      |(rw[show(dI+dB).natAbs=dI.natAbs -dB.natAbs by omega];exact n2)
    ·first
      |(by_cases a:dI<0
        ·rw[g7 a,g7 I]
        ·rw[gL a,gL I])
      |(by_cases a:dB<0
        ·rw[g7 a,g7 I]
        ·rw[gL a,gL I])
   ·have jq:=qF fun h=>hM (rP.2 h);refine aa 0x210e757 ?_;refine br (G:=XP kd jH dL du jq) (h:=?_);rintro v' m' bi aM ⟨_,rfl,hw⟩;have n2:=hw;obtain⟨cB,eD,cN,rfl,bJ,_,_⟩:=hw.cA;refine aa 0x1abe042 ?_;refine bo ?_;refine⟨aM,rfl,_,_,rfl,?_,fun aN=>?_⟩
    ·first
      |(rw[show(dI+dB).natAbs=dI.natAbs+dB.natAbs by omega];exact n2)
      |(rw[show(dI+dB).natAbs=dB.natAbs -dI.natAbs by omega];exact n2)
      |(rw[show(dI+dB).natAbs=dI.natAbs -dB.natAbs by omega];exact n2)
    ·first
      |(by_cases a:dI<0
        ·rw[g7 a,g7 I]
        ·rw[gL a,gL I])
      |(by_cases a:dB<0
        ·rw[g7 a,g7 I]
        ·rw[gL a,gL I])
end
end
end Go.Opn
namespace Go.Opn
noncomputable section
theorem QB{z:Int}{h:Nat}(ao:0<h)(al:h ∣ z.natAbs):∃q:Int,z=q*h/\z.natAbs / h=q.natAbs/\(z<0↔q<0)/\(z=0↔q=0):=by
 obtain⟨q,bI⟩:=rC.2 al;have e:z=q*h:=by rw[bI,j5]
 have ak:(0:Int)<h:=by omega
 refine⟨q,e,?_,?_,?_⟩
 ·rw[e,l4,hK,sQ _ ao]
 ·rw[e];constructor
  ·intro k;rcases vB q 0 with j|j
   ·exact j
   ·have:=km j (uf ak);omega
  ·intro k;exact BC k ak
 ·rw[e];constructor
  ·intro k;rcases Int.mul_eq_zero.1 k with j|j
   ·exact j
   ·omega
  ·intro k;rw[k,xP]
theorem EU{n g:Nat}(ao:0<g)(az:0<n)(al:g ∣ n):∃u,n / g=u/\n=u*g/\0<u/\u<=n:=by
 obtain⟨u,hu⟩:=al;have oB:n=u*g:=by rw[hu,dp]
 have aN:0<u:=by
  rcases il u with k|k
  ·rw[k,jA] at oB;omega
  ·exact k
 exact⟨u,by rw[oB,sQ _ ao],oB,aN,by rw[oB];exact Nat.le_mul_of_pos_right _ ao⟩
structure aa4 (r s:cY) (g u v h w:Nat) (t q:Int):Prop where
 g0:0<g
 bY:Nat.gcd r.d s.d=g
 u1:r.d / g=u
 v1:s.d / g=v
 bq:0<u
 v0:0<v
 bU:u<=r.d
 v2:v<=s.d
 t1:t=r.z*v+s.z*u
 aN:0<h
 ab:Nat.gcd t.natAbs g=h
 aK:t.natAbs / h=q.natAbs
 aH:t<0↔q<0
 bJ:t=0↔q=0
 bt:s.d / h=w
 w0:0<w
 cv:w<=s.d
 bZ:g<=r.d
 iR:t=0->r.z*s.d+s.z*r.d=0
 j3:(⟨q,u*w⟩:cY)=bn (r.z*s.d+s.z*r.d) (r.d*s.d)
theorem acm{r s:cY}(aq:r.h7)(hs:s.h7):∃g u v h w t q,aa4 r s g u v h w t q:=by
 have rd:=aq.1;have hU:=hs.1;have ax:0<Nat.gcd r.d s.d:=abP _ rd;obtain⟨u,aw,aR,cf,dK⟩:=EU ax rd (kG _ _);obtain⟨v,f1,f2,f3,f4⟩:=EU ax hU (m0 _ _);have cT:0<Nat.gcd (r.z*v+s.z*u).natAbs (Nat.gcd r.d s.d):=vI _ ax;obtain⟨q,aK,aH,bJ,dU⟩:=QB cT (kG _ _);obtain⟨w,bt,cv,eO,tY⟩:=EU cT hU (Ir (m0 _ _) (m0 _ _));refine⟨_,u,v,_,w,_,q,ax,rfl,aw,f1,cf,f3,dK,f4,rfl,cT,rfl,aH,bJ,dU,bt,eO,tY,It rd (kG _ _),fun aN=>?_,akF aq hs rfl aR f2 rfl rfl aK cv⟩;have:(r.z*v+s.z*u)*(Nat.gcd r.d s.d:Nat)=r.z*s.d+s.z*r.d:=by
  have aU:(s.d:Int)=v*(Nat.gcd r.d s.d:Nat):=by rw[<-hc,<-f2]
  have aQ:(r.d:Int)=u*(Nat.gcd r.d s.d:Nat):=by rw[<-hc,<-aR]
  rw[qA];conv=>rhs;rw[aU,aQ]
  rw[jT,jT]
 rw[<-this,aN,xP]
structure abI (r s:cY) (g h b e:Nat) (p q:Int):Prop where
 g0:0<g
 bY:Nat.gcd r.z.natAbs s.d=g
 aN:0<h
 ab:Nat.gcd s.z.natAbs r.d=h
 cP:r.z.natAbs / g=p.natAbs
 gW:r.z<0↔p<0
 aK:s.z.natAbs / h=q.natAbs
 aH:s.z<0↔q<0
 nq:p≠0
 bJ:q≠0
 bs:r.d / h=b
 gi:0<b
 bM:b<=r.d
 aw:s.d / g=e
 jX:0<e
 aR:e<=s.d
 yV:p.natAbs<=r.z.natAbs
 dU:q.natAbs<=s.z.natAbs
 j3:(⟨p*q,b*e⟩:cY)=bn (r.z*s.z) (r.d*s.d)
theorem alI{r s:cY}(aq:r.h7)(hs:s.h7)(xr:r.z≠0)(sz:s.z≠0):∃g h b e p q,abI r s g h b e p q:=by
 have rd:=aq.1;have hU:=hs.1;have ax:0<Nat.gcd r.z.natAbs s.d:=vI _ hU;have cT:0<Nat.gcd s.z.natAbs r.d:=vI _ rd;obtain⟨p,cP,gW,nq,yV⟩:=QB ax (kG _ _);obtain⟨q,aK,aH,bJ,dU⟩:=QB cT (kG _ _);obtain⟨b,bs,bM,cB,ep⟩:=EU cT rd (m0 _ _);obtain⟨e,aw,aR,cf,dK⟩:=EU ax hU (m0 _ _);refine⟨_,_,b,e,p,q,ax,rfl,cT,rfl,gW,nq,aH,bJ,fun k=>xr (yV.2 k),fun k=>sz (dU.2 k),bs,cB,ep,aw,cf,dK,by rw[<-gW];exact qE _ _,by rw[<-aH];exact qE _ _,?_⟩;exact akG (a:=0) (c:=0) aq hs rfl rfl xr sz cP aK bM aR
theorem QJ{X Y:Int}{d e:Nat}(al:0<d)(he:0<e):bn ((bn X d).z*(bn Y e).d+(bn Y e).z*(bn X d).d) ((bn X d).d*(bn Y e).d)=bn (X*e+Y*d) (d*e):=by
 have bp:=(ml (z:=X) al).1;have bN:=(ml (z:=Y) he).1;have ab:=w' (z:=X) al;have ad:=w' (z:=Y) he;rw[KI (kp bp bN) (kp al he)];generalize (bn X d).z=a at*;generalize (bn Y e).z=b at*;generalize (bn X d).d=p at*;generalize (bn Y e).d=q at*;rw[hc,hc,qA,qA];congr 1
 ·calc a*q*(d*e)=(a*d)*(q*e):=by simp only[jT,j5,oT]
   _=X*p*(q*e):=by rw[ab]
   _=X*e*(p*q):=by simp only[jT,j5,oT]
 ·calc b*p*(d*e)=(b*e)*(p*d):=by simp only[jT,j5,oT]
   _=Y*q*(p*d):=by rw[ad]
   _=Y*d*(p*q):=by simp only[jT,j5,oT]
theorem ama{X Y:Int}{d:Nat}(al:0<d):bn ((bn X d).z*(bn Y d).d+(bn Y d).z*(bn X d).d) ((bn X d).d*(bn Y d).d)=bn (X+Y) d:=by
 rw[QJ al al,KI (kp al al) al,<-qA,hc,jT]
end
end Go.Opn

/- A part of the proof of TableLosses. -/
import Derived.Test.YtjbbbehaciogcaaGreatDoorCav
import Derived.Test.YtjbbbehaciogcaaGreatDoorCal
set_option maxRecDepth 100000
set_option maxHeartbeats 8000000
set_option linter.unusedVariables false
set_option linter.unusedSimpArgs false
namespace Go.Opn
noncomputable section
open Go.Cre Go.RowKit Go.Proofs
theorem aaR{l:List Nat}{n:Nat}(bn:okW l)(aq:l.length<=n+2):∃lo,a5 l=(l.getD (n+1) 0*18446744073709551616+l.getD n 0)*18446744073709551616 ^ n+lo/\lo<18446744073709551616 ^ n:=by
 have ax:=AL l (n+1);rw[cU (show l.length<=n+1+1 by omega),AL l n] at ax;have ad:=sj (th (i:=n) bn);have ae:18446744073709551616 ^ (l.take n).length<=18446744073709551616 ^ n:=mV bI (by rw[eA];omega);refine⟨a5 (l.take n),?_,iM ad ae⟩;rw[ax,fP];obtain⟨p,aw⟩:∃p,p=18446744073709551616 ^ n:=⟨_,rfl⟩;rw[<-aw,c6];have ba:p*18446744073709551616*l.getD (n+1) 0=l.getD (n+1) 0*18446744073709551616*p:=by ac_rfl
 have bd:p*l.getD n 0=l.getD n 0*p:=dP _ _;rw[ba,bd];omega
theorem aaQ{A bl w0 h n lo:Nat}(dh:h<=63)(eS:A=(bl*18446744073709551616+w0)*18446744073709551616 ^ n+lo)(hQ:lo<18446744073709551616 ^ n):
 ∃cV,A=(bl*2 ^ h+w0 / 2 ^ (64 -h))*(2 ^ (64 -h)*18446744073709551616 ^ n)+cV/\cV<2 ^ (64 -h)*18446744073709551616 ^ n:=by
 have hs:=xv (s:=h) I;have aR:=mT w0 (2 ^ (64 -h));have hm:=gA w0 (l3 (64 -h));refine⟨w0 % 2 ^ (64 -h)*18446744073709551616 ^ n+lo,?_,?_⟩
 ·rw[eS]
  have e:bl*18446744073709551616+w0=(bl*2 ^ h+w0 / 2 ^ (64 -h))*2 ^ (64 -h)+w0 % 2 ^ (64 -h):=by
   rw[c6,fy,dP (2 ^ h),hs,dP (w0 / 2 ^ (64 -h))];omega
  rw[e,c6,fy];omega
 ·have ad:(w0 % 2 ^ (64 -h)+1)*18446744073709551616 ^ n<=2 ^ (64 -h)*18446744073709551616 ^ n:=fq _ hm
  rw[c6,jb] at ad;omega
structure afF (A B n h x y rr:Nat):Prop where
 eS:∃cV tM K,A=x*K+cV/\B=y*K+tM/\cV<K/\tM<K
 axn:y<=x
 Kk:x<18446744073709551616
theorem aqb{A B n h rr:Nat}(HK:B<=A)(aq:(aO A).length=n+2)(E5:(aO A)[n+1]?=some rr)(dh:h=64 -fS rr)(xY:h<=63):
 afF A B n h (rr*2 ^ h+(aO A).getD n 0 / 2 ^ (64 -h)) ((aO B).getD (n+1) 0*2 ^ h+(aO B).getD n 0 / 2 ^ (64 -h)) rr:=by
 have uG:=yK (n9 A) E5;have uE:rr≠0:=Oi A rr (by rw[rC,aq];exact E5);obtain⟨b1,_,_⟩:=Nl uE uG;rw[<-dh] at b1;obtain⟨lo,ax,ec⟩:=aaR (n:=n) (n9 A) I;obtain⟨aAl,aS,dA⟩:=aaR (n:=n) (n9 B) (by have:=jN HK;omega);rw[kd,kp E5] at ax;rw[kd] at aS;obtain⟨cV,f1,f2⟩:=aaQ xY ax ec;obtain⟨tM,b4,bZ⟩:=aaQ xY aS dA;refine⟨⟨cV,tM,_,f1,b4,f2,bZ⟩,?_,?_⟩
 ·apply sv
  intro q;have ad:=fq (2 ^ (64 -h)*18446744073709551616 ^ n) (O' q);rw[o2] at ad;omega
 ·have hs:=xv (s:=h) I
  have ae:rr<2 ^ (64 -h):=O2 (a:=2 ^ h) (by rw[hs];exact b1);have aD:=fq (2 ^ h) (O' ae);rw[hs,o2] at aD;have a6:(aO A).getD n 0 / 2 ^ (64 -h)<2 ^ h:=(ni (l3 _)).2 (by rw[dP,hs];exact HD (n9 A) n);omega
theorem aaP{bl w0 h x:Nat}(xY:h<=63)(aR:w0<18446744073709551616)(aa:bl*2 ^ h+w0 / 2 ^ (64 -h)=x)(ai:x<18446744073709551616):IntKind.u64.wrap ((BitVec.ofInt IntKind.u64.bits ((bl*2 ^ h % 18446744073709551616:Nat):Int) ||| BitVec.ofInt IntKind.u64.bits ((w0 / 2 ^ (64 -h):Nat):Int)).toNat:Int)=(x:Int):=by
 have au:w0 / 2 ^ (64 -h)<2 ^ h:=(ni (l3 _)).2 (by rw[dP,xv I];exact aR);have hle:bl*2 ^ h<18446744073709551616:=mU (by rw[<-aa];exact O0 _ _) ai;rw[sw hle,JI hle (mU (tC _ _) aR),Ug au,aa]
section
variable {Q:c7 Tryz.prog}{g0:Nat}{J:aj}
theorem auE{v w:Value}{x y:Nat}(aa:cJ J v x)(ap:cJ J w y)(g4:(aO x).length<=100000)(Fa:y<=x)(jL:2<=(aO y).length):Fn (aU Q g0) 108 [v,w] [] J (fun u m' af=>(∃bB u1 v0 v1:Nat,∃e:Bool,u=.tuple #[.int .u64 (bB:Int),.int .u64 (u1:Int),.int .u64 (v0:Int),.int .u64 (v1:Int),.bool e]/\bB<18446744073709551616/\u1<18446744073709551616/\v0<18446744073709551616/\v1<18446744073709551616/\(v0≠0->∃a b:Nat,(if e then bB*x=v0*y+a/\v1*y=u1*x+b else v0*y=bB*x+a/\u1*x=v1*y+b)/\b<a/\a<=y/\Nat.gcd a b=Nat.gcd x y))/\m'=[]/\J=af):=by
 have dC:=aa;have e8:=ap;obtain⟨a',bb,rfl,aL⟩:=aa.bA;obtain⟨bf,br,rfl,aG⟩:=ap.bA;have l9:=jN Fa;obtain⟨n,aE⟩:∃n,(aO x).length=n+2:=⟨(aO x).length -2,I⟩;obtain⟨sD,eF,oz,ex,rfl,lj,lp⟩:=dC.at (nL I);obtain⟨DY,hX,tS,qU,rfl,ED,oL⟩:=e8.at (nL I);obtain⟨rr,E5,aca,abh⟩:=lp (n+1) I;obtain⟨Oh,uG,acb,aqS⟩:=lp n I;have ao7:rr≠0:=Oi x rr (by rw[rC,aE];exact E5);have aca:nth oz (eF+(((n+2:Nat):Int) -1).toNat*1)=some (.int .u64 (rr:Int)):=by rw[show(((n+2:Nat):Int) -1).toNat=n+1 by omega];exact aca
 have acb:nth oz (eF+(((n+2:Nat):Int) -2).toNat*1)=some (.int .u64 (Oh:Int)):=by rw[show(((n+2:Nat):Int) -2).toNat=n by omega];exact acb
 obtain⟨h,dh⟩:∃h,h=64 -fS rr:=⟨_,rfl⟩;have xY:h<=63:=by have:=(Nl ao7 abh).2.2;omega
 have a9:=aqb Fa aE E5 dh xY;obtain⟨X,ft⟩:∃X,rr*2 ^ h+Oh / 2 ^ (64 -h)=X:=⟨_,rfl⟩;obtain⟨Y,jj⟩:∃Y,(aO y).getD (n+1) 0*2 ^ h+(aO y).getD n 0 / 2 ^ (64 -h)=Y:=⟨_,rfl⟩;rw[kp uG,ft,jj] at a9;obtain⟨cV,tM,axG,eS,ea,lL,sV⟩:=a9.eS;have YY:=a9.axn;have x3:=a9.Kk;rw[aE];refine Fn.b5 (b2 Tryz.func108) rfl rfl fun H=>?_;refine U 0x930c21ce042284a1ce04210859 ?_;refine bC (G:=TG abh) (h:=?_);rintro v' m' af hle ⟨rfl,rfl,rfl⟩;rw[<-dh];refine U 0xbe04e ?_;refine az.draw rfl (by kernel_rfl) (a1:=[.val 0,.val 1,.val 2,.val 3,.val 4,.val 5,.val 6,.val 7,.val 8,.val 9,.val 10,.val 11,.val 12,.val 13,.val 14,.val 15,.val 16]) (by kernel_rfl) ?_;refine U 0x502930c21 ?_;rw[AB];refine U 0xc2930c21 ?_;rw[show(64:Int) -(h:Int)=((64 -h:Nat):Int) by omega];refine zi rfl V.o4 ?_;rw[y1];refine zi rfl V.o4 ?_;rw[aaP xY aqS ft x3];refine U 0xc073816702 ?_;refine c4 [1,9,10,11,13,45,4,6,7,8,12] ?_;refine a2 ?_;refine' az.lb 6 (fun(Gd:Nat)=>⟨[(13,.int .u64 (Gd:Int))],[],J,Gd=Y⟩) ?xE ?xL;case xE=>
  refine U 0x5f022073a ?_;refine If (fun zA=>?_) fun zA=>?_
  ·obtain⟨dg,r0,ab5,M1⟩:=oL (n+1) I;obtain⟨jQ,ma,Jn,aa6⟩:=oL n I;have ab5:nth tS (hX+(((n+2:Nat):Int) -1).toNat*1)=some (.int .u64 (dg:Int)):=by rw[show(((n+2:Nat):Int) -1).toNat=n+1 by omega];exact ab5
   have Jn:nth tS (hX+(((n+2:Nat):Int) -2).toNat*1)=some (.int .u64 (jQ:Int)):=by rw[show(((n+2:Nat):Int) -2).toNat=n by omega];exact Jn
   rw[kp r0,kp ma] at jj;refine a2 ?_;refine az.draw rfl (by kernel_rfl) (a1:=[.val 0,.val 1,.val 2,.val 3,.val 4,.val 5,.val 6,.val 7,.val 8,.val 9,.val 10,.val 11,.val 12,.val 13,.val 14,.val 15,.val 16]) (by kernel_rfl) ?_;refine U 0x502930c21 ?_;rw[AB];refine U 0xc2930c21 ?_;rw[show(64:Int) -(h:Int)=((64 -h:Nat):Int) by omega];refine zi rfl V.o4 ?_;rw[y1];refine zi rfl V.o4 ?_;rw[aaP xY aa6 jj I];refine U 0x302 ?_;refine fG (Y) ?_;rfl
  ·refine U 0x5f0220c39 ?_;refine If (fun P1=>?_) fun P1=>?_
   ·obtain⟨jQ,ma,Jn,aa6⟩:=oL n I;have Jn:nth tS (hX+(((n+2:Nat):Int) -2).toNat*1)=some (.int .u64 (jQ:Int)):=by rw[show(((n+2:Nat):Int) -2).toNat=n by omega];exact Jn
    rw[kp ma,p0 (l:=aO y) (i:=n+1) I,jE,j2] at jj;refine U 0x1852618439 ?_;rw[show(64:Int) -(h:Int)=((64 -h:Nat):Int) by omega];refine eZ V.o4 ?_;rw[y1,jj];refine U 0x302 ?_;refine fG (Y) ?_;rfl
   ·rw[p0 (l:=aO y) (i:=n+1) I,p0 (l:=aO y) (i:=n) I,jE,j2,Pa] at jj;refine hx ?_;refine fG (Y) ?_;rfl
 case xL=>
  rintro Gd hinv;try simp only at hinv
  subst hinv;refine U 0x6af816702ce059 ?_;refine c3 [(12,.int .u64 ((X):Int)),(13,.int .u64 ((Gd):Int)),(4,.int .u64 ((0):Int)),(5,.int .u64 ((1):Int)),(14,.int .u64 ((0):Int)),(6,.int .u64 ((0):Int)),(7,.int .u64 ((0):Int)),(15,.int .u64 ((1):Int)),(8,.bool (false))] ?_;refine a2 ?_;refine' az.bH (fun(bK:Nat×Nat×Nat×Nat×Nat×Nat×Nat×Nat×Bool)=>match bK with|(ba,bd,bB,u1,bT,v0,v1,v2,e)=>⟨[(12,.int .u64 (ba:Int)),(13,.int .u64 (bd:Int)),(4,.int .u64 (bB:Int)),(5,.int .u64 (u1:Int)),(14,.int .u64 (bT:Int)),(6,.int .u64 (v0:Int)),(7,.int .u64 (v1:Int)),(15,.int .u64 (v2:Int)),(8,.bool e)],[],J,tI X Gd x y ba bd bB u1 bT v0 v1 v2 e/\bd<=ba/\ba<18446744073709551616/\bB<18446744073709551616/\u1<18446744073709551616/\bT<18446744073709551616/\v0<18446744073709551616/\v1<18446744073709551616/\v2<18446744073709551616,bd⟩) ⟨X,Gd,0,1,0,0,0,1,false⟩ ?hs ?a7
  case hs=>exact⟨tI.start,YY,x3,by decide,by decide,by decide,by decide,by decide,by decide⟩
  case a7=>
   rintro⟨ba,bd,bB,u1,bT,v0,v1,v2,e⟩ hinv;try simp only at hinv
   obtain⟨al,aW,aT,bo,cu,fm,iG,pk,qk⟩:=hinv;refine c4 [4,5,6,7,8,12,13,14,15] ?_;refine a2 ?_;refine' az.en 0 [(88,.bool (decide ((v2<=bd/\v1+v2<=ba -bd))))] ?G5 ?Hh;case G5=>
    refine U 0x12043a ?_;refine c0 80 (fun alB=>?_) fun alB=>?_
    ·have ai:=al.bounds (by have:=al.De;omega) (by have:=al.De;omega);refine U 0x184106108c21 ?_;refine di (dk ?_);omega
    ·refine U 0x1846f7bdef7b ?_;refine di (dk ?_);omega
   case Hh=>
    refine a2 ?_;refine If (fun GV=>?_) fun GV=>?_
    ·have aw:=al.De;obtain⟨q,bQ⟩:∃q,q=ba / bd:=⟨_,rfl⟩;obtain⟨r,ao⟩:∃r,r=ba % bd:=⟨_,rfl⟩;have lm:r<bd:=by rw[ao];exact gA _ I
     have qY:=al.next eS ea lL sV GV.1 GV.2;rw[<-bQ,<-ao] at qY;have aoR:u1+q*bT<18446744073709551616:=by
       have:=qY.ys;have aD:=hI (u1+q*bT) (show 1<=bd by omega);omega
     have kt:v1+q*v2<18446744073709551616:=by
       have:=qY.xs;have aD:=hI (v1+q*v2) (show 1<=bd by omega);omega
     refine U 0x17d5f57 ?_;refine az.draw rfl (by kernel_rfl) (a1:=[.val 0,.val 1,.val 2,.val 3,.val 4,.val 5,.val 6,.val 7]) (by kernel_rfl) ?_;refine U 0x3c21 ?_;rw[tp aT,<-bQ];refine U 0x3c21 ?_;rw[show((ba:Int).tmod (bd:Int))=(r:Int) from by rw[ao];rfl];refine U 0x3028873810843184210873810843184210873810821ce042 ?_;refine dN ⟨bd,r,u1,bT,u1+q*bT,v1,v2,v1+q*v2,!e⟩ ?_;exact⟨qY,I,I,I,I,aoR,I,I,kt⟩
    ·refine U 0xd5f0210842084210e757 ?_;refine'⟨.inr rfl,rfl,_,[],.tmp rfl (.tmp rfl (.tmp rfl (.tmp rfl (.tmp rfl .nil)))),i' _,⟨⟨bB,u1,v0,v1,e,rfl,bo,cu,iG,pk,fun h=>al.out h⟩,rfl,rfl⟩⟩
end
theorem aiy{x y z:List Nat}{i p q eF hX nU f s f2 s2 VC PU:Nat}(ak:i<z.length)(h:a5 (z.take i)+q*a5 (y.take i)+18446744073709551616 ^ i*eF=p*a5 (x.take i)+18446744073709551616 ^ i*(nU+hX))
 (ax:f+18446744073709551616*f2=eF+p*x.getD i 0)(aS:s+18446744073709551616*s2=hX+q*y.getD i 0)(cl:VC+s+nU=f+18446744073709551616*PU):
 a5 ((z.set i VC).take (i+1))+q*a5 (y.take (i+1))+18446744073709551616 ^ (i+1)*f2=p*a5 (x.take (i+1))+18446744073709551616 ^ (i+1)*(PU+s2):=by
 rw[Od ak,AL x,AL y,cL q,cL p];have dS:VC+q*y.getD i 0+18446744073709551616*f2+nU+hX=p*x.getD i 0+eF+18446744073709551616*(PU+s2):=I
 have cx:=cC (18446744073709551616 ^ i*·) dS;simp only[cL] at cx;have iu:∀t:Nat,18446744073709551616 ^ i*(18446744073709551616*t)=18446744073709551616 ^ (i+1)*t:=fun t=>by rw[fP,fy]
 rw[iu,iu,iu] at cx;rw[rE q,rE p,cL (18446744073709551616 ^ (i+1))];rw[cL] at h;omega
theorem aix{z:List Nat}{n p q x y eF hX nU:Nat}(aM:z.length=n)(bn:okW z)(h:a5 z+q*y+18446744073709551616 ^ n*eF=p*x+18446744073709551616 ^ n*(nU+hX))(hle:q*y<=p*x)(cD:p*x<18446744073709551616 ^ n):a5 z=p*x -q*y:=by
 have ad:=sj bn;rw[aM] at ad;rcases Nat.lt_trichotomy eF (nU+hX) with k|k|k
 ·have:=hI (18446744073709551616 ^ n) (O' k)
  rw[Nat.mul_succ] at this;omega
 ·rw[k] at h;omega
 ·have:=hI (18446744073709551616 ^ n) (O' k)
  rw[Nat.mul_succ] at this;omega
section
variable {Q:c7 Tryz.prog}{g0:Nat}{J:aj}
theorem Lz{v w:Value}{p q x y:Nat}(aa:cJ J v x)(ap:cJ J w y)(g4:(aO x).length<=100000)(jL:(aO y).length<=100000)(aw:p<18446744073709551616)(bQ:q<18446744073709551616)(hle:q*y<=p*x):Fn (aU Q g0) 110 [.int .u64 (p:Int),v,.int .u64 (q:Int),w] [] J (kk J (p*x -q*y)):=by
 have dC:=aa;have e8:=ap;obtain⟨a',bb,rfl,aL⟩:=aa.bA;obtain⟨bf,br,rfl,aG⟩:=ap.bA;obtain⟨N,jy⟩:∃N,N=max (aO x).length (aO y).length:=⟨_,rfl⟩;have amB:(aO x).length<=N:=I
 have ay0:(aO y).length<=N:=I
 have cD:p*x<18446744073709551616 ^ (N+1):=by
  have ad:=AN amB;rw[fP,dP];exact O5 ad aw
 refine Fn.b5 (b2 Tryz.func110) rfl rfl fun H=>?_;refine U 0x284a1ce059 ?_;refine' W.step rfl (Exec.val rfl rfl (wY rfl rfl rfl rfl rfl) ?_);rw[show max ((aO x).length:Int) ((aO y).length:Int)=(N:Int) by omega];refine eZ V.iz ?_;refine' W.step rfl (.of (nf rfl rfl rfl rfl rfl (eW rfl) ?aR ?ad ?ae fun K0=>?_));case aR=>exact ck
 case ad=>exact ck
 case ae=>exact ck
 refine U 0x302 ?_;rw[show((N:Int)+1).toNat=N+1 by omega,zero_num];refine U 0xd5f012873810859 ?_;refine c3 [(31,.int .i64 ((0):Int)),(10,.int .u64 ((0):Int)),(11,.int .u64 ((0):Int)),(12,.int .u64 ((0):Int)),(0,_),(1,_),(2,_),(3,_),(9,_),(30,_)] ?_;refine a2 ?_;refine' az.bH (fun(bK:Nat×Nat×Nat×Nat×(List Nat))=>match bK with|(i,eF,hX,nU,z)=>⟨[(31,.int .i64 (i:Int)),(10,.int .u64 (eF:Int)),(11,.int .u64 (hX:Int)),(12,.int .u64 (nU:Int))],[eO .u64 129 K0 z],J,i<=N+1/\eF<18446744073709551616/\hX<18446744073709551616/\nU<=1/\z.length=N+1/\okW z/\a5 (z.take i)+q*a5 ((aO y).take i)+18446744073709551616 ^ i*eF=p*a5 ((aO x).take i)+18446744073709551616 ^ i*(nU+hX),N+1 -i⟩) ⟨0,0,0,0,List.replicate (N+1) 0⟩ ?hs ?a7
 case hs=>exact⟨c5 _,by decide,by decide,by decide,kE,Aq,by rw[fO,fO,fO];rfl⟩
 case a7=>
  rintro⟨i,eF,hX,nU,z⟩ hinv;try simp only at hinv
  obtain⟨ak,q4,qd,am6,aM,bn,av⟩:=hinv;refine U 0xbe099 ?_;refine If (fun Bd=>?_) fun Bd=>?_
  ·obtain⟨P,cI⟩:∃P,P=p*(aO x).getD i 0:=⟨_,rfl⟩;obtain⟨R,c1⟩:∃R,R=q*(aO y).getD i 0:=⟨_,rfl⟩;have sT:=Jh aw (HD (n9 x) i);rw[<-cI] at sT;have amI:=Jh bQ (HD (n9 y) i);rw[<-c1] at amI;refine U 0xc10a10e7021670210439c0839d5f57 ?_;refine c4 [10,14,39,0,1,2,3,9,11,12,13,15,30,31] ?_;refine a2 ?_;refine' az.lb 3 (fun(bK:(Nat)×(Nat))=>match bK with|(f,f2)=>⟨[(14,.int .u64 (f:Int)),(10,.int .u64 (f2:Int))],[eO .u64 129 K0 z],J,f<18446744073709551616/\f2<18446744073709551616/\f+18446744073709551616*f2=eF+p*(aO x).getD i 0⟩) ?aib ?aju
   case aib=>
    refine If (fun tP=>?_) fun tP=>?_
    ·obtain⟨sD,aAG,oz,ex,rfl,lj,lp⟩:=dC.at (nL I);obtain⟨a,aF,TR,la⟩:=lp i I;refine U 0x12608439 ?_;refine bC (G:=Fx aw la) (h:=?_);rintro v' m' af hle ⟨rfl,rfl,rfl⟩;rw[<-kp aF,<-cI];refine U 0x87381670211ce1 ?_;refine bC (G:=xm (c:=0) I) (h:=?_);rintro v' m' af hle ⟨rfl,rfl,rfl⟩;rw[show(eF+P % 18446744073709551616+0) % 18446744073709551616=(eF+P) % 18446744073709551616 by omega];refine U 0x610e70211ce1 ?_;rw[show((P / 18446744073709551616:Nat):Int)+(((eF+P % 18446744073709551616+0) / 18446744073709551616:Nat):Int)=(((eF+P) / 18446744073709551616:Nat):Int) by omega];refine U 0x302 ?_;refine fG ⟨(eF+P) % 18446744073709551616,(eF+P) / 18446744073709551616⟩ ?_;exact⟨I,I,by(try rw[<-cI]);omega⟩
    ·refine hx ?_;refine fG ⟨eF,0⟩ ?_;exact⟨q4,by decide,by rw[p0 (l:=aO x) (i:=i) I,js];omega⟩
   case aju=>
    rintro⟨f,f2⟩ hinv;try simp only at hinv
    obtain⟨aA,us,ans⟩:=hinv;refine U 0x30428439 ?_;refine c4 [11,15,61,0,1,2,3,9,10,12,13,14,30,31] ?_;refine a2 ?_;refine' az.lb 3 (fun(bK:(Nat)×(Nat))=>match bK with|(s,s2)=>⟨[(15,.int .u64 (s:Int)),(11,.int .u64 (s2:Int))],[eO .u64 129 K0 z],J,s<18446744073709551616/\s2<18446744073709551616/\s+18446744073709551616*s2=hX+q*(aO y).getD i 0⟩) ?aif ?ajy
    case aif=>
     refine If (fun tQ=>?_) fun tQ=>?_
     ·obtain⟨DY,aAH,tS,qU,rfl,ED,oL⟩:=e8.at (nL I);obtain⟨b,ai,abT,ql⟩:=oL i I;refine U 0x12608439 ?_;refine bC (G:=Fx bQ ql) (h:=?_);rintro v' m' af hle ⟨rfl,rfl,rfl⟩;rw[<-kp ai,<-c1];refine U 0x87381670211ce1 ?_;refine bC (G:=xm (c:=0) I) (h:=?_);rintro v' m' af hle ⟨rfl,rfl,rfl⟩;rw[show(hX+R % 18446744073709551616+0) % 18446744073709551616=(hX+R) % 18446744073709551616 by omega];refine U 0x610e70211ce1 ?_;rw[show((R / 18446744073709551616:Nat):Int)+(((hX+R % 18446744073709551616+0) / 18446744073709551616:Nat):Int)=(((hX+R) / 18446744073709551616:Nat):Int) by omega];refine U 0x302 ?_;refine fG ⟨(hX+R) % 18446744073709551616,(hX+R) / 18446744073709551616⟩ ?_;exact⟨I,I,by(try rw[<-c1]);omega⟩
     ·refine hx ?_;refine fG ⟨hX,0⟩ ?_;exact⟨qd,by decide,by rw[p0 (l:=aO y) (i:=i) I,js];omega⟩
    case ajy=>
     rintro⟨s,s2⟩ hinv;try simp only at hinv
     obtain⟨hs,r2,aoA⟩:=hinv;refine U 0x2108439 ?_;refine bC (G:=N3 am6) (h:=?_);rintro v' m' af hle ⟨rfl,rfl,rfl⟩;refine U 0x31ce1 ?_;refine' iN ?hs ?_;case hs=>exact mf i I
     refine U 0x3011e702 ?_;refine dN ⟨i+1,f2,s2,(if f<s+nU then 1 else 0),z.set i ((f+18446744073709551616 -s -nU) % 18446744073709551616)⟩ ?_;exact⟨I,us,r2,by split<;>omega,by rw[im];exact aM,sc bn (gA _ bI),aiy I av ans aoA (by split<;>omega)⟩
  ·obtain rfl:i=N+1:=I
   rw[<-aM,cU (bU _),aM,cU (l:=aO x) I,cU (l:=aO y) I,kd,kd] at av;have mv:=aix aM bn av hle cD;refine U 0xe757 ?_;refine' W.step rfl (Exec.call rfl rfl rfl rfl rfl rfl rfl (bm:=[eO .u64 129 K0 z]) (cN:=[]) (.refl _) trivial (y8 (l:=z) bn I (bU _) I) ?_);rintro v' m' af hle ⟨k,rfl,hk,hg,rfl,rfl⟩;refine U 0x302 ?_;refine az.ie rfl fun aY=>?_;refine U 0x357 ?_;refine bp ?_;exact⟨aY,rfl,cJ.row (by rw[hg,<-aM,cU (bU _),mv]) I hk (mu I) (aj.iE _ _ _)⟩
theorem wT{v w:Value}{x y:Nat}(aa:cJ J v x)(ap:cJ J w y)(g4:(aO x).length<=100000)(jL:(aO y).length<=100000)(kQ:y≠0):Fn (aU Q g0) 84 [v,w] [] J (kk J (x / y)):=by
 have dC:=aa;have e8:=ap;obtain⟨a',bb,rfl,aL⟩:=aa.bA;obtain⟨bf,br,rfl,aG⟩:=ap.bA;refine Fn.b5 (b2 Tryz.func84) rfl rfl fun H=>?_;refine U 0x1ce059 ?_;refine bC (G:=Fh e8 jL) (h:=?_);rintro v' m' af hle ⟨rfl,rfl,rfl⟩;refine ns ?_;refine If (fun hq=>?_) fun hq=>?_
 ·refine U 0x357c0839 ?_;refine bp ?_
  have c:=hq
  exact⟨aj.le.refl _,rfl,by rw[c,Nat.div_one];exact dC⟩
 ·refine U 0x10e757 ?_;refine bC (G:=XH dC e8 g4 jL kQ) (h:=?_);rintro v' m' bu aY ⟨_,rfl,Ga,wr,rfl,s7,q8⟩;obtain⟨bV,cc,rfl,bt⟩:=s7.bA;obtain⟨dx,ej,rfl,du⟩:=q8.bA;refine U 0xd5f020e70211ce1 ?_;refine bp ?_
  have c:=hq
  exact⟨aY,rfl,s7⟩
theorem Xx{v w:Value}{x y:Nat}(aa:cJ J v x)(ap:cJ J w y)(g4:(aO x).length<=100000)(jL:(aO y).length<=100000):Fn (aU Q g0) 82 [v,w] [] J (kk J (Nat.gcd x y)):=by
 have dC:=aa;have e8:=ap;obtain⟨a',bb,rfl,aL⟩:=aa.bA;obtain⟨bf,br,rfl,aG⟩:=ap.bA;refine Fn.b5 (b2 Tryz.func82) rfl rfl fun H=>?_;refine U 0x21ce059 ?_;refine bC (G:=G4 dC e8 g4 jL) (h:=?_);rintro v' m' af hle ⟨rfl,rfl,rfl⟩;refine U 0x304 ?_;refine c4 [0,1,18] ?_;refine a2 ?_;refine' az.lb 3 (fun(bK:(Value)×(Value)×(Nat)×(Nat))=>match bK with|(iz,kP,a,b)=>⟨[(0,iz),(1,kP)],[],J,cJ J iz a/\cJ J kP b/\b<=a/\(aO a).length<=100000/\Nat.gcd a b=Nat.gcd x y⟩) ?ah5 ?ajn
 case ah5=>
  refine If (fun iO=>?_) fun iO=>?_
  ·refine U 0x30210439 ?_;refine fG ⟨.slice bf (aO y).length br,.slice a' (aO x).length bb,y,x⟩ ?_;exact⟨e8,dC,by have:=sI.1 iO;omega,jL,pO _ _⟩
  ·refine hx ?_;refine fG ⟨.slice a' (aO x).length bb,.slice bf (aO y).length br,x,y⟩ ?_;exact⟨dC,e8,sv fun h=>iO (sI.2 h),g4,rfl⟩
 case ajn=>
  rintro⟨iz,kP,a,b⟩ hinv;try simp only at hinv
  obtain⟨eS,ea,oE,la,ch⟩:=hinv;refine U 0x357 ?_;refine c3 [(0,(iz)),(1,(kP))] ?_;refine a2 ?_;refine' az.bH (fun(bK:Value×Value×Nat×Nat×aj)=>match bK with|(iz,kP,a,b,cq)=>⟨[(0,iz),(1,kP)],[],cq,J.le cq/\cJ cq iz a/\cJ cq kP b/\b<=a/\(aO a).length<=100000/\Nat.gcd a b=Nat.gcd x y,b⟩) ⟨iz,kP,a,b,J⟩ ?hs ?a7
  case hs=>exact⟨aj.le.refl _,eS,ea,oE,la,ch⟩
  case a7=>
   rintro⟨iz,kP,a,b,cq⟩ hinv;try simp only at hinv
   obtain⟨cA,eS,ea,oE,la,ch⟩:=hinv;have hU:=eS;have h5:=ea;obtain⟨fs,gl,rfl,fU⟩:=eS.bA;obtain⟨fb,eo,rfl,ih⟩:=ea.bA;have ql:=cX (jN oE) la;refine U 0x2f821439 ?_;refine If (fun ms=>?_) fun ms=>?_
   ·refine U 0x439d5f57 ?_;refine bC (G:=auE hU h5 la oE I) (h:=?_);rintro v' m' af hle ⟨⟨bB,u1,v0,v1,e,rfl,CD,Fs,CE,I8,aoC⟩,rfl,rfl⟩;refine hp ?_;refine nS ?_;refine c4 [0,1,5,6,7,8,9] ?_;refine a2 ?_;refine' az.lb 7 (fun(bK:(Value)×(Value)×(Nat)×(Nat)×(aj))=>match bK with|(za,hy,b0,b',kD)=>⟨[(0,za),(1,hy)],[],kD,cq.le kD/\cJ kD za b0/\cJ kD hy b'/\b'<b0/\b0<=a/\b'<b/\Nat.gcd b0 b'=Nat.gcd a b⟩) ?G1 ?Hf
    case G1=>
     refine U 0x5f022073a ?_;refine If (fun ox=>?_) fun ox=>?_
     ·have H3:0<b:=tE (nL I);refine U 0x439 ?_;refine bC (G:=XH hU h5 la ql (nL I)) (h:=?_);rintro v' m' bu aY ⟨_,rfl,Ga,wr,rfl,s7,q8⟩;refine U 0xc08410e70211ce1 ?_;refine fG ⟨.slice fb (aO b).length eo,wr,b,a % b,bu⟩ ?_;exact⟨aY,h5.mono aY,q8,gA _ H3,oE,gA _ H3,by rw[pO,<-DM,pO]⟩
     ·obtain⟨dg,gp,eB,m7,r2,ye⟩:=aoC I;refine U 0x17c0839 ?_;refine If (fun o7=>?_) fun o7=>?_
      ·have o7:e=true:=o7;rw[o7,aV rfl] at eB;obtain⟨b4,bZ⟩:=eB;have M1:bB*a -v0*b=dg:=I
       have TD:v1*b -u1*a=gp:=I
       refine U 0x108439 ?_;refine bC (G:=Lz hU h5 la ql CD CE I) (h:=?_);rw[M1];rintro v' m' bu aY ⟨_,rfl,IN⟩;obtain⟨u',rfl⟩:∃u',u'=v':=⟨_,rfl⟩;refine U 0x8421 ?_;refine bC (G:=Lz (h5.mono aY) (hU.mono aY) ql la I8 Fs I) (h:=?_);rw[TD];rintro v' m' cZ bG ⟨_,rfl,wq⟩;obtain⟨wf,rfl⟩:∃wf,wf=v':=⟨_,rfl⟩;refine U 0x6042 ?_;refine fG ⟨u',wf,dg,gp,cZ⟩ ?_;exact⟨aY.trans bG,IN.mono bG,wq,m7,cX r2 oE,iM m7 r2,ye⟩
      ·have o7:e=false:=by simpa using o7
       rw[o7,aQ bI] at eB;obtain⟨b4,bZ⟩:=eB;have M1:v0*b -bB*a=dg:=I
       have TD:u1*a -v1*b=gp:=I
       refine U 0x108439 ?_;refine bC (G:=Lz h5 hU ql la CE CD I) (h:=?_);rw[M1];rintro v' m' bu aY ⟨_,rfl,IN⟩;obtain⟨u',rfl⟩:∃u',u'=v':=⟨_,rfl⟩;refine U 0x8421 ?_;refine bC (G:=Lz (hU.mono aY) (h5.mono aY) la ql Fs I8 I) (h:=?_);rw[TD];rintro v' m' cZ bG ⟨_,rfl,wq⟩;obtain⟨wf,rfl⟩:∃wf,wf=v':=⟨_,rfl⟩;refine U 0x6042 ?_;refine fG ⟨u',wf,dg,gp,cZ⟩ ?_;exact⟨aY.trans bG,IN.mono bG,wq,m7,cX r2 oE,iM m7 r2,ye⟩
    case Hf=>
     rintro⟨za,hy,b0,b',kD⟩ hinv;try simp only at hinv
     obtain⟨oD,hM,cp,cD,hle,anX,BL⟩:=hinv;have hlen:=cX (jN hle) la;refine dN ⟨za,hy,b0,b',kD⟩ ?_;exact⟨cA.trans oD,hM,cp,vq cD,hlen,BL.trans ch⟩
   ·refine U 0xbe0850e757 ?_;refine If (fun ahw=>?_) fun ahw=>?_
    ·refine U 0x357c0839 ?_;refine bp ?_
     exact⟨cA,rfl,by rw[<-ch,show b=0 from jD fun q=>Kh q I,Gs];exact hU⟩
    ·obtain⟨ax,aS,cl⟩:=TQ (x:=b) I;obtain⟨DY,hX,tS,qU,rfl,ED,oL⟩:=h5.at cl;obtain⟨d,au,gF,_⟩:=oL 0 I;rw[ax] at au;obtain rfl:b=d:=DQ au;refine U 0x439c09260e757 ?_;refine bC (G:=XI hU la I aS) (h:=?_);rintro v' m' bu aY ⟨_,rfl,Ga,rfl,s7⟩;obtain⟨bV,cc,rfl,bt⟩:=s7.bA;refine U 0xd5f0211ce1 ?_;refine c3 [(12,.int .u64 ((b):Int)),(14,.int .u64 ((a % b):Int))] ?_;refine a2 ?_;refine' az.bH (fun(bK:Nat×Nat)=>match bK with|(g,r)=>⟨[(12,.int .u64 (g:Int)),(14,.int .u64 (r:Int))],[],bu,0<g/\g<18446744073709551616/\r<18446744073709551616/\Nat.gcd g r=Nat.gcd x y,r⟩) ⟨b,a % b⟩ ?hs ?a7
     case hs=>exact⟨I,aS,A8 (gA _ I) aS,by rw[<-ch,pO b,pO a,DM b a]⟩
     case a7=>
      rintro⟨g,r⟩ hinv;try simp only at hinv
      obtain⟨ay,j6,z',Ia⟩:=hinv;refine U 0x17c1039 ?_;refine If (fun ahx=>?_) fun ahx=>?_
      ·refine U 0x17d5f57 ?_;refine az.draw rfl (by kernel_rfl) (a1:=[.val 0,.val 1,.val 2,.val 3,.bE 4,.b9 [3,2],.bE 5]) (by kernel_rfl) ?_;refine U 0xc0ba278421 ?_;refine dN ⟨r,g % r⟩ ?_ (hk:=by exact gA _ I);exact⟨I,I,A8 (gA _ I) z',by rw[<-Ia,pO r,pO g,DM r g]⟩
      ·refine U 0xe757 ?_;refine mr fun axU=>?_;refine U 0x302 ?_;refine az.ie rfl fun bG=>?_;refine U 0x357 ?_;refine bp ?_
       exact⟨(cA.trans aY).trans bG,rfl,by
        obtain rfl:r=0:=I
        rw[<-Ia,Gs];exact cJ.row (n:=1) (l:=[g]) (by rw[F8 I j6];rfl) (by simp) (by simp) bI (aj.iE _ _ _)⟩
theorem NZ{v w:Value}{x y:Nat}(aa:cJ J v x)(ap:cJ J w y)(g4:(aO x).length<=100000)(jL:(aO y).length<=100000):Fn (aU Q g0) 85 [v,w] [] J (kk J (Nat.gcd x y)):=by
 have dC:=aa;have e8:=ap;obtain⟨a',bb,rfl,aL⟩:=aa.bA;obtain⟨bf,br,rfl,aG⟩:=ap.bA;refine Fn.b5 (b2 Tryz.func85) rfl rfl fun H=>?_;refine U 0x6059 ?_;refine c4 [0,1] ?_;refine a2 ?_;refine' az.en 0 [(10,.bool (decide ((x=1\/y=1))))] ?jh ?ji;case jh=>
  refine U 0x3a ?_;refine bC (G:=Fh dC g4) (h:=?_);rintro v' m' af hle ⟨rfl,rfl,rfl⟩;refine eZ V.kK ?_;refine c0 7 (fun Ew=>?_) fun Ew=>?_
  ·refine U 0xc23fb ?_;refine di (dk ?_);omega
  ·refine KX V.kK ?_;refine xB (G:=Fh e8 jL) (h:=?_);rintro v' m' af hle ⟨rfl,rfl,rfl⟩;refine U 0x308 ?_;refine di (dk ?_);omega
 case ji=>
  refine a2 ?_;refine If (fun dp=>?_) fun dp=>?_
  ·refine rg ?_;refine mr fun pW=>?_;refine U 0x302 ?_;refine az.ie rfl fun bG=>?_;refine U 0x357 ?_;refine bp ?_
   exact⟨bG,rfl,by
    have e:Nat.gcd x y=1:=by
        rcases dp with rfl|rfl
        ·exact Nat.gcd_one_left _
        ·exact Nat.gcd_one_right _
    rw[e];exact cJ.row (n:=1) (l:=[1]) (by rw[F8 bI bI];rfl) (by simp) (by simp) bI (aj.iE _ _ _)⟩
  ·refine U 0x10e757 ?_;refine bC (G:=G4 dC e8 g4 jL) (h:=?_);rintro v' m' af hle ⟨rfl,rfl,rfl⟩;refine U 0x5f04 ?_;refine If (fun fV=>?_) fun fV=>?_
   ·refine U 0x357c0839 ?_;refine bp ?_
    have c:=fV
    exact⟨aj.le.refl _,rfl,by rw[<-Xp.1 c,Nat.gcd_self];exact dC⟩
   ·refine U 0x10e757 ?_;refine bC (G:=Xx dC e8 g4 jL) (h:=?_);rintro v' m' bu aY ⟨_,rfl,hw⟩;obtain⟨bV,cc,rfl,bt⟩:=hw.bA;refine U 0xd5f02 ?_;refine bp ?_
    have c:=fV
    exact⟨aY,rfl,hw⟩
end
def l5(d:Nat):Nat:=if d=1 then 0 else d
structure gh (J:aj) (r:bx) (v1 v2:Value):Prop where
 n:cJ J v1 r.z.natAbs
 d:cJ J v2 (l5 r.d)
theorem gh.mono{J af:aj}(hle:J.le af){r:bx}{v1 v2:Value}(h:gh J r v1 v2):gh af r v1 v2:=⟨h.n.mono hle,h.d.mono hle⟩
abbrev ko(r:bx)(v1 v2:Value):List Value:=[.bool (decide (r.z<0)),v1,v2]
abbrev dm(r:bx)(v1 v2:Value):Value:=.agg #[.bool (decide (r.z<0)),v1,v2]
abbrev pS(J:aj)(r:bx):Value->aN->aj->Prop:=fun u m' af=>J.le af/\m'=[]/\∃v1 v2,u=dm r v1 v2/\gh af r v1 v2
theorem Ly{r:bx}(h:r.hG)(aM:r.z=0):r.d=1:=by
 have:=h.2;rw[aM] at this;exact(OZ r.d).symm.trans this
section
variable {Q:c7 Tryz.prog}{g0:Nat}{J:aj}
theorem Ja{r:bx}{v w:Value}{neg:Bool}(ad:cJ J v r.z.natAbs)(ae:cJ J w r.d)(aE:r.z≠0->neg=decide (r.z<0))(aM:r.z=0->r.d=1)(au:r.d≠0)(nC:(aO r.d).length<=100000):Fn (aU Q g0) 83 [.bool neg,v,w] [] J (pS J r):=by
 have k0:=ad;have kq:=ae;obtain⟨a',b1,bb,rfl,aL,ix,ks⟩:=ad.bN;obtain⟨bf,df,br,rfl,aG,nu,jA⟩:=ae.bN;refine Fn.b5 (b2 Tryz.func83) rfl rfl fun H=>?_;refine rg ?_;refine fa fun e0=>?_;refine U 0x5f0428738 ?_;refine If (fun ep=>?_) fun ep=>?_
 ·refine U 0x357c7219 ?_;refine bp ?_
  have ht:r.z=0:=pH.1 (ix.z I)
  exact⟨aj.le.refl _,rfl,.slice none 0 0,.slice none 0 0,by rw[show dm r (.slice none 0 0) (.slice none 0 0)=.agg #[.bool (decide (r.z<0)),.slice none 0 0,.slice none 0 0] from rfl,ht];rfl,by rw[ht];exact cJ.nil,by unfold l5;rw[aV (aM ht)];exact cJ.nil⟩
 ·refine U 0xe757 ?_;refine bC (G:=Fh kq nC) (h:=?_);rintro v' m' af hle ⟨rfl,rfl,rfl⟩;refine ns ?_;refine If (fun j3=>?_) fun j3=>?_
  ·refine U 0xd5f1c80421ce059 ?_;refine bp ?_
   have c:=j3
   have ht:r.z≠0:=fun q=>ep (by have:=ix.iA (by rw[q];rfl);omega)
   exact⟨aj.le.refl _,rfl,_,_,by rw[aE ht];rfl,k0,by unfold l5;rw[aV c];exact cJ.nil⟩
  ·refine U 0x6af8e40210e757 ?_;refine bp ?_
   have c:=j3
   have ht:r.z≠0:=fun q=>ep (by have:=ix.iA (by rw[q];rfl);omega)
   exact⟨aj.le.refl _,rfl,_,_,by rw[aE ht];rfl,k0,by unfold l5;rw[aQ c];exact kq⟩
theorem rI{r:bx}{v1 v2:Value}{neg:Bool}(h:gh J r v1 v2)(au:r.d≠0):Fn (aU Q g0) 86 [.agg #[.bool neg,v1,v2]] [] J (kk J r.d):=by
 have kq:=h.d;obtain⟨a',b1,bb,rfl,aL,ix,ks⟩:=h.n.bN;obtain⟨bf,df,br,rfl,aG,nu,jA⟩:=h.d.bN;refine Fn.b5 (b2 Tryz.func86) rfl rfl fun H=>?_;refine rg ?_;refine eQ fun ba=>?_;refine U 0x17c10aa6e702 ?_;refine If (fun eo=>?_) fun eo=>?_
 ·refine rg ?_;refine mr fun eP=>?_;refine U 0x302 ?_;refine az.ie rfl fun bG=>?_;refine U 0x357 ?_;refine bp ?_
  exact⟨bG,rfl,by
   have e:r.d=1:=by
    have p:=nu.z I;unfold l5 at p;split at p<;>omega
   rw[e];exact cJ.row (n:=1) (l:=[1]) (by rw[F8 bI bI];rfl) (by simp) (by simp) bI (aj.iE _ _ _)⟩
 ·refine U 0x1abe04a6e757 ?_;refine bp ?_
  exact⟨aj.le.refl _,rfl,by
   have e:l5 r.d=r.d:=by
    have p:=nu.arI I;unfold l5 at*;split at p
    ·exact absurd rfl p
    ·rename_i q;rw[aQ q]
   rw[e] at kq;exact kq⟩
theorem ari{r:bx}{v1 v2:Value}(h:gh J r v1 v2):Fn (aU Q g0) 89 [dm r v1 v2] [] J (fun u m' af=>u=dm ⟨-r.z,r.d⟩ v1 v2/\m'=[]/\J=af):=by
 obtain⟨a',b1,bb,rfl,aL,ix,ks⟩:=h.n.bN;obtain⟨bf,df,br,rfl,aG,nu,jA⟩:=h.d.bN;refine Fn.b5 (b2 Tryz.func89) rfl rfl fun H=>?_;refine rg ?_;refine eQ fun ba=>?_;refine fa fun bd=>?_;refine U 0x3153738 ?_;refine c0 6 (fun g2=>?_) fun g2=>?_
 ·refine U 0x357c720a6a9a82154d ?_;refine bp ?_
  have c:=g2
  have dg:r.z≠0->0<b1:=fun q=>ix.p (Dz.2 q);have gp:r.z=0->b1=0:=fun q=>ix.iA (pH.2 q);refine⟨?_,rfl,rfl⟩;show Value.agg #[.bool _,_,_]=Value.agg #[.bool _,_,_];congr 4
  (by_cases q:0<r.z
   ·rw[jx (show -r.z<0 by omega)];try ((simp;omega))
   ·rw[fW (show ¬-r.z<0 by omega)];try ((simp;simp at c;omega)))
 ·refine U 0x357c720a6a9a8def7b ?_;refine bp ?_
  have c:=g2
  have dg:r.z≠0->0<b1:=fun q=>ix.p (Dz.2 q);have gp:r.z=0->b1=0:=fun q=>ix.iA (pH.2 q);refine⟨?_,rfl,rfl⟩;show Value.agg #[.bool _,_,_]=Value.agg #[.bool _,_,_];congr 4
  (by_cases q:0<r.z
   ·rw[jx (show -r.z<0 by omega)];try ((simp;omega))
   ·rw[fW (show ¬-r.z<0 by omega)];try ((simp;simp at c;omega)))
theorem agp{r:bx}{v1 v2:Value}(h:gh J r v1 v2):Fn (aU Q g0) 50 [dm r v1 v2] [] J (fun u m' af=>u=dm ⟨(r.z.natAbs:Int),r.d⟩ v1 v2/\m'=[]/\J=af):=by
 obtain⟨a',b1,bb,rfl,aL,ix,ks⟩:=h.n.bN;obtain⟨bf,df,br,rfl,aG,nu,jA⟩:=h.d.bN;refine Fn.b5 (b2 Tryz.func50) rfl rfl fun H=>?_;refine rg ?_;refine eQ fun ba=>?_;refine fa fun bd=>?_;refine U 0x6af8e414d53738 ?_;refine bp ?_;exact⟨by rw[show dm (⟨(r.z.natAbs:Int),r.d⟩:bx) (.slice a' b1 bb) (.slice bf df br)=.agg #[.bool (decide ((r.z.natAbs:Int)<0)),.slice a' b1 bb,.slice bf df br] from rfl,fW (show ¬((r.z.natAbs:Int)<0) by omega)];rfl,rfl,rfl⟩
theorem auD{e' fj:Int}{abL abM:Bool}{v w:Value}(ax:abL=decide (e'<0))(aS:abM=decide (fj<0))(ad:cJ J v e'.natAbs)(ae:cJ J w fj.natAbs)(h8:e'≠0)(kQ:fj≠0)(ec:(aO e'.natAbs).length<=100000)(dA:(aO fj.natAbs).length<=100000):Fn (aU Q g0) 87 [.bool abL,v,.bool abM,w] [] J (fun u m' af=>J.le af/\m'=[]/\∃b w,u=.tuple #[.bool b,w]/\cJ af w (e'+fj).natAbs/\(e'+fj≠0->b=decide (e'+fj<0))):=by
 subst ax;subst aS;have k0:=ad;have kq:=ae;obtain⟨a',b1,bb,rfl,aL,ix,ks⟩:=ad.bN;obtain⟨bf,df,br,rfl,aG,nu,jA⟩:=ae.bN;refine Fn.b5 (b2 Tryz.func87) rfl rfl fun H=>?_;refine U 0xc0859 ?_;refine c4 [0,1,2,3] ?_;refine a2 ?_;refine' az.en 0 [(12,.bool (decide (((e'<0)↔(fj<0)))))] ?jh ?ji;case jh=>
  refine U 0x43a ?_;refine' W.step rfl (Exec.val rfl rfl (u6 rfl rfl rfl (.inl ⟨rfl,rfl⟩) (by kernel_rfl)) ?_);refine nS ?_;refine di (dk ?_);((by_cases a:e'<0<;>by_cases b:fj<0<;>simp[a,b]))
 case ji=>
  refine a2 ?_;refine If (fun j3=>?_) fun j3=>?_
  ·refine U 0x8439 ?_;refine bC (G:=asQ k0 kq ec dA) (h:=?_);rintro v' m' bu aY ⟨_,rfl,hw⟩;have uE:=hw;obtain⟨bV,ef,cc,rfl,bt,_,_⟩:=hw.bN;refine U 0x1abe042 ?_;refine bp ?_;refine⟨aY,rfl,_,_,rfl,?_,fun aR=>?_⟩
   ·rw[show(e'+fj).natAbs=e'.natAbs+fj.natAbs by omega];exact uE
   ·(by_cases a:e'<0
     ·rw[jx a,jx I]
     ·rw[fW a,fW I])
  ·refine U 0x10e757 ?_;refine bC (G:=G4 k0 kq ec dA) (h:=?_);rintro v' m' af hle ⟨rfl,rfl,rfl⟩;refine U 0x5f04 ?_;refine If (fun hC=>?_) fun hC=>?_
   ·have cD:=sI.1 hC;refine U 0x8439 ?_;refine bC (G:=abx kq k0 dA ec I) (h:=?_);rintro v' m' bu aY ⟨_,rfl,hw⟩;have uE:=hw;obtain⟨bV,ef,cc,rfl,bt,_,_⟩:=hw.bN;refine U 0x1abe042 ?_;refine bp ?_;refine⟨aY,rfl,_,_,rfl,?_,fun aR=>?_⟩
    ·rw[show(e'+fj).natAbs=fj.natAbs -e'.natAbs by omega];exact uE
    ·(by_cases a:fj<0
      ·rw[jx a,jx I]
      ·rw[fW a,fW I])
   ·have jl:=sv fun h=>hC (sI.2 h);refine U 0x210e757 ?_;refine bC (G:=abx k0 kq ec dA jl) (h:=?_);rintro v' m' bu aY ⟨_,rfl,hw⟩;have uE:=hw;obtain⟨bV,ef,cc,rfl,bt,_,_⟩:=hw.bN;refine U 0x1abe042 ?_;refine bp ?_;refine⟨aY,rfl,_,_,rfl,?_,fun aR=>?_⟩
    ·rw[show(e'+fj).natAbs=e'.natAbs -fj.natAbs by omega];exact uE
    ·(by_cases a:e'<0
      ·rw[jx a,jx I]
      ·rw[fW a,fW I])
end
end
end Go.Opn
namespace Go.Opn
noncomputable section
theorem TS{z:Int}{h:Nat}(aw:0<h)(au:h ∣ z.natAbs):∃q:Int,z=q*h/\z.natAbs / h=q.natAbs/\(z<0↔q<0)/\(z=0↔q=0):=by
 obtain⟨q,bQ⟩:=sq.2 au;have e:z=q*h:=by rw[bQ,k8]
 have ak:(0:Int)<h:=by omega
 refine⟨q,e,?_,?_,?_⟩
 ·rw[e,mR,iC,tD _ aw]
 ·rw[e];constructor
  ·intro k;rcases vh q 0 with j|j
   ·exact j
   ·have:=k9 j (vg ak);omega
  ·intro k;exact Dx k ak
 ·rw[e];constructor
  ·intro k;rcases VS.1 k with j|j
   ·exact j
   ·omega
  ·intro k;rw[k,AY]
theorem He{n g:Nat}(aw:0<g)(aE:0<n)(au:g ∣ n):∃u,n / g=u/\n=u*g/\0<u/\u<=n:=by
 obtain⟨u,hu⟩:=au;have pi:n=u*g:=by rw[hu,dP]
 have aR:0<u:=by
  rcases jq u with k|k
  ·rw[k,jE] at pi;omega
  ·exact k
 exact⟨u,by rw[pi,tD _ aw],pi,aR,by rw[pi];exact Nat.le_mul_of_pos_right _ aw⟩
structure afj (r s:bx) (g u v h w:Nat) (t q:Int):Prop where
 g0:0<g
 b4:Nat.gcd r.d s.d=g
 u1:r.d / g=u
 v1:s.d / g=v
 bB:0<u
 v0:0<v
 bT:u<=r.d
 v2:v<=s.d
 t1:t=r.z*v+s.z*u
 aR:0<h
 ad:Nat.gcd t.natAbs g=h
 aL:t.natAbs / h=q.natAbs
 aG:t<0↔q<0
 bt:t=0↔q=0
 bl:s.d / h=w
 w0:0<w
 b7:w<=s.d
 bZ:g<=r.d
 iA:t=0->r.z*s.d+s.z*r.d=0
 mi:(⟨q,u*w⟩:bx)=bk (r.z*s.d+s.z*r.d) (r.d*s.d)
theorem agt{r s:bx}(ao:r.hG)(hs:s.hG):∃g u v h w t q,afj r s g u v h w t q:=by
 have rd:=ao.1;have h0:=hs.1;have ay:0<Nat.gcd r.d s.d:=af2 _ rd;obtain⟨u,ax,aS,cl,dS⟩:=He ay rd (lE _ _);obtain⟨v,f1,f2,f3,f4⟩:=He ay h0 (nQ _ _);have dh:0<Nat.gcd (r.z*v+s.z*u).natAbs (Nat.gcd r.d s.d):=xb _ ay;obtain⟨q,aL,aG,bt,du⟩:=TS dh (lE _ _);obtain⟨w,bl,b7,gq,u9⟩:=He dh h0 (KR (nQ _ _) (nQ _ _));refine⟨_,u,v,_,w,_,q,ay,rfl,ax,f1,cl,f3,dS,f4,rfl,dh,rfl,aG,bt,du,bl,gq,u9,KT rd (lE _ _),fun aR=>?_,apW ao hs rfl aS f2 rfl rfl aL b7⟩;have:(r.z*v+s.z*u)*(Nat.gcd r.d s.d:Nat)=r.z*s.d+s.z*r.d:=by
  have aW:(s.d:Int)=v*(Nat.gcd r.d s.d:Nat):=by rw[<-gY,<-f2]
  have aT:(r.d:Int)=u*(Nat.gcd r.d s.d:Nat):=by rw[<-gY,<-aS]
  rw[ry];conv=>rhs;rw[aW,aT]
  rw[kC,kC]
 rw[<-this,aR,AY]
structure afV (r s:bx) (g h b e:Nat) (p q:Int):Prop where
 g0:0<g
 b4:Nat.gcd r.z.natAbs s.d=g
 aR:0<h
 ad:Nat.gcd s.z.natAbs r.d=h
 dg:r.z.natAbs / g=p.natAbs
 gp:r.z<0↔p<0
 aL:s.z.natAbs / h=q.natAbs
 aG:s.z<0↔q<0
 lu:p≠0
 bt:q≠0
 a':r.d / h=b
 gI:0<b
 bf:b<=r.d
 ax:s.d / g=e
 hb:0<e
 aS:e<=s.d
 yQ:p.natAbs<=r.z.natAbs
 du:q.natAbs<=s.z.natAbs
 mi:(⟨p*q,b*e⟩:bx)=bk (r.z*s.z) (r.d*s.d)
theorem aq9{r s:bx}(ao:r.hG)(hs:s.hG)(yZ:r.z≠0)(sz:s.z≠0):∃g h b e p q,afV r s g h b e p q:=by
 have rd:=ao.1;have h0:=hs.1;have ay:0<Nat.gcd r.z.natAbs s.d:=xb _ h0;have dh:0<Nat.gcd s.z.natAbs r.d:=xb _ rd;obtain⟨p,dg,gp,lu,yQ⟩:=TS ay (lE _ _);obtain⟨q,aL,aG,bt,du⟩:=TS dh (lE _ _);obtain⟨b,a',bf,bV,dx⟩:=He dh rd (nQ _ _);obtain⟨e,ax,aS,cl,dS⟩:=He ay h0 (nQ _ _);refine⟨_,_,b,e,p,q,ay,rfl,dh,rfl,gp,lu,aG,bt,fun k=>yZ (yQ.2 k),fun k=>sz (du.2 k),a',bV,dx,ax,cl,dS,by rw[<-gp];exact tC _ _,by rw[<-aG];exact tC _ _,?_⟩;exact apX (a:=0) (c:=0) ao hs rfl rfl yZ sz dg aL bf aS
theorem Nn{X Y:Int}{d e:Nat}(au:0<d)(he:0<e):bk ((bk X d).z*(bk Y e).d+(bk Y e).z*(bk X d).d) ((bk X d).d*(bk Y e).d)=bk (X*e+Y*d) (d*e):=by
 have bb:=(me (z:=X) au).1;have br:=(me (z:=Y) he).1;have ad:=yI (z:=X) au;have ae:=yI (z:=Y) he;rw[T2 (jr bb br) (jr au he)];generalize (bk X d).z=a at*;generalize (bk Y e).z=b at*;generalize (bk X d).d=p at*;generalize (bk Y e).d=q at*;rw[gY,gY,ry,ry];congr 1
 ·calc a*q*(d*e)=(a*d)*(q*e):=by simp only[kC,k8,pG]
   _=X*p*(q*e):=by rw[ad]
   _=X*e*(p*q):=by simp only[kC,k8,pG]
 ·calc b*p*(d*e)=(b*e)*(p*d):=by simp only[kC,k8,pG]
   _=Y*q*(p*d):=by rw[ae]
   _=Y*d*(p*q):=by simp only[kC,k8,pG]
theorem T1{X Y:Int}{d:Nat}(au:0<d):bk ((bk X d).z*(bk Y d).d+(bk Y d).z*(bk X d).d) ((bk X d).d*(bk Y d).d)=bk (X+Y) d:=by
 rw[Nn au au,T2 (jr au au) au,<-ry,gY,kC]
theorem ab8{X:Int}{d:Nat}(au:0<d):(⟨-(bk X d).z,(bk X d).d⟩:bx)=bk (-X) d:=by
 have c:=me (z:=X) au;refine Ao ⟨c.1,?_⟩ au ?_
 ·show Nat.Coprime (-(bk X d).z).natAbs _;rw[AX];exact c.2
 ·show -(bk X d).z*d=-X*(bk X d).d;rw[oY,yI au,oY]
theorem ab6{X:Int}{d:Nat}(au:0<d):(⟨((bk X d).z.natAbs:Int),(bk X d).d⟩:bx)=bk (X.natAbs:Int) d:=by
 have c:=me (z:=X) au;refine Ao ⟨c.1,c.2⟩ au ?_;have h:=cC Int.natAbs (yI (z:=X) au);rw[mR,mR,iC,iC] at h;show((bk X d).z.natAbs:Int)*(d:Int)=(X.natAbs:Int)*((bk X d).d:Int);rw[<-gY,<-gY,h]
theorem ab7{X:Int}{d:Nat}(au:0<d):bk ((bk X d).z*1) ((bk X d).d*2)=bk X (d*2):=by
 have c:=me (z:=X) au;rw[T2 (jr c.1 (by decide)) (jr au (by decide)),OF,gY,gY,<-kC,yI au,kC]
end
end Go.Opn

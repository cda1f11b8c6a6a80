/- A part of the proof of TableTurns. -/
import Derived.Test.YtlgjlbpafcifoaaGreatDoorCas
import Derived.Test.YtlgjlbpafcifoaaGreatDoorCar
set_option maxRecDepth 100000
set_option maxHeartbeats 4000000
set_option linter.unusedVariables false
set_option linter.unusedSimpArgs false
namespace Go.Opn
noncomputable section
open Go.Cre Go.RowKit Go.Proofs
theorem Er{x:Nat}(h:x<18446744073709551616):IntKind.u64.wrap (BitVec.ofInt IntKind.u64.bits (x:Int) &&& BitVec.ofInt IntKind.u64.bits 4294967295).toNat=((x % 4294967296:Nat):Int):=by
 have e:(BitVec.ofInt 64 (x:Int) &&& BitVec.ofInt 64 4294967295).toNat=x % 4294967296:=by
  rw[BitVec.toNat_and];have ab:(BitVec.ofInt 64 (x:Int)).toNat=x:=by
   rw[BitVec.toNat_ofInt];omega
  have ad:(BitVec.ofInt 64 4294967295).toNat=2 ^ 32 -1:=by decide
  rw[ab,ad,Nat.and_two_pow_sub_one_eq_mod]
 show IntKind.u64.wrap ((BitVec.ofInt 64 (x:Int) &&& BitVec.ofInt 64 4294967295).toNat:Int)=_;rw[e];exact wrap_u64 I I
theorem y6{x:Nat}:(x:Int).fdiv (2 ^ ((32:Int).toNat))=((x / 4294967296:Nat):Int):=Ht (q:=32)
def iN(x y:Nat):Int:=if x<y then -1 else if y<x then 1 else 0
theorem R8{x:Nat}(h:x<18446744073709551616):IntKind.u64.wrap (x:Int)=(x:Int):=wrap_u64 (nz _) I
theorem vd{x y P:Nat}(h:P=x*y):(x:Int)*(y:Int)=(P:Int):=by rw[h];exact(hc x y).symm
theorem LC(x:Nat):IntKind.u64.wrap (x:Int)=((x % 18446744073709551616:Nat):Int):=by
 unfold IntKind.wrap IntKind.signed IntKind.bits;simp only[DY,By,Ay];omega
theorem alK{x y jw en k' jh a b c d:Nat}(U:x=en*4294967296+jw)(au:y=jh*4294967296+k')(aF:a=jw*k')(ai:b=en*k')(aD:c=jw*jh)(al:d=en*jh):x*y=d*18446744073709551616+(b+c)*4294967296+a:=by
 subst U;subst au;subst aF;subst ai;subst aD;subst al;rw[cR,cH,cH,cR];have aw:en*4294967296*(jh*4294967296)=en*jh*18446744073709551616:=by
  rw[show(18446744073709551616:Nat)=4294967296*4294967296 from rfl];ac_rfl
 have aR:en*4294967296*k'=en*k'*4294967296:=by ac_rfl
 have cf:jw*(jh*4294967296)=jw*jh*4294967296:=by ac_rfl
 omega
theorem De{a b:Nat}(aF:a<4294967296)(ai:b<4294967296):a*b<=18446744065119617025:=rI (Nat.le_of_lt_succ (show a<4294967295+1 by omega)) (Nat.le_of_lt_succ (show b<4294967295+1 by omega))
section
variable {Q:cZ Tryz.prog}{g0:Nat}{J:af}
theorem Dj{x y:Nat}(U:x<18446744073709551616)(au:y<18446744073709551616):Fn (aT Q g0) 123 [.int .u64 (x:Int),.int .u64 (y:Int)] [] J (fun u m' ae=>u=.tuple #[.int .u64 ((x*y / 18446744073709551616:Nat):Int),.int .u64 ((x*y % 18446744073709551616:Nat):Int)]/\m'=[]/\J=ae):=by
 obtain⟨jw,di⟩:∃k,k=x % 4294967296:=⟨_,rfl⟩;obtain⟨en,pk⟩:∃k,k=x / 4294967296:=⟨_,rfl⟩;obtain⟨k',eN⟩:∃k,k=y % 4294967296:=⟨_,rfl⟩;obtain⟨jh,Gk⟩:∃k,k=y / 4294967296:=⟨_,rfl⟩;obtain⟨a,aF⟩:∃k,k=jw*k':=⟨_,rfl⟩;obtain⟨b,ai⟩:∃k,k=en*k':=⟨_,rfl⟩;obtain⟨c,aD⟩:∃k,k=jw*jh:=⟨_,rfl⟩;obtain⟨d,al⟩:∃k,k=en*jh:=⟨_,rfl⟩;obtain⟨P,cw⟩:∃k,k=x*y:=⟨_,rfl⟩;have ajd:=alK (x:=x) (y:=y) I I aF ai aD al;rw[<-cw] at ajd ⊢;have XD:jw<4294967296:=I
 have XE:en<4294967296:=I
 have XF:k'<4294967296:=I
 have XG:jh<4294967296:=I
 have jt:=De XD XF;have po:=De XE XF;have akS:=De XD XG;have lx:=De XE XG;rw[<-aF] at jt;rw[<-ai] at po;rw[<-aD] at akS;rw[<-al] at lx;have rY:P<18446744073709551616*18446744073709551616:=by rw[cw];exact Mc U au
 obtain⟨T,b1⟩:∃k,k=b+a / 4294967296:=⟨_,rfl⟩;obtain⟨bt,rf⟩:∃k,k=T % 4294967296:=⟨_,rfl⟩;obtain⟨cv,tz⟩:∃k,k=T / 4294967296:=⟨_,rfl⟩;obtain⟨cS,nT⟩:∃k,k=bt+c:=⟨_,rfl⟩;refine Fn.b8 (b7 Tryz.func123) rfl rfl fun H=>?_;refine aa 0x1815039c0859 ?_;rw[Er U,<-di];refine aa 0x1815039 ?_;rw[y6,<-pk];refine aa 0x1815039 ?_;rw[Er au,<-eN];refine aa 0x1815039 ?_;rw[y6,<-Gk];refine aa 0x30218439 ?_;rw[vd aF];refine aa 0xe8118439 ?_;rw[vd ai,y6,show IntKind.u64.wrap ((b:Int)+((a / 4294967296:Nat):Int))=(T:Int) from by rw[b1,xN];exact wrap_u64 I I];refine aa 0x60540e702 ?_;rw[Er (x:=T) I,<-rf];refine aa 0x1815039 ?_;rw[y6,<-tz];refine aa 0x6308439 ?_;rw[vd aD,show((bt:Int)+(c:Int))=(cS:Int) by rw[nT,xN]];refine aa 0x281184610e702 ?_;rw[vd al,y6];refine eT V.hI ?_;rw[show((d:Int)+(cv:Int)+((cS / 4294967296:Nat):Int))=((P / 18446744073709551616:Nat):Int) by omega];refine aa 0x610e702 ?_;rw[vd cw];refine aa 0xd5f02 ?_;refine mx ?_;first|exact⟨by rw[LC];rfl,rfl,rfl⟩|exact⟨rfl,rfl,rfl⟩
end
def fk(x:Nat):Nat:=if x=0 then 0 else Nat.log2 x+1
theorem IQ{x:Nat}(h:x≠0):2 ^ (fk x -1)<=x/\x<2 ^ fk x/\1<=fk x:=by
 unfold fk;rw[aZ h];have:=(Nat.log2_eq_iff h (k:=Nat.log2 x)).1 rfl;exact⟨by rw[lg];exact this.1,this.2,I⟩
theorem acO{x k:Nat}(ab:2 ^ k<=x)(ad:x<2 ^ (k+1)):fk x=k+1:=by
 have U:x≠0:=fun h=>by rw[h] at ab;have:=lh k;omega
 unfold fk;rw[aZ U,(Nat.log2_eq_iff U).2 ⟨ab,ad⟩]
theorem BW{x k:Nat}(h:2 ^ k<=x):fk x=k+fk (x / 2 ^ k):=by
 have hk:=lh k;have al:x / 2 ^ k≠0:=jl (L7 h hk);obtain⟨ab,ad,aL⟩:=IQ al;have aw:2 ^ (k+(fk (x / 2 ^ k) -1))<=x:=by
  rw[pN,dp];exact(Is hk).1 ab
 have aR:x<2 ^ (k+(fk (x / 2 ^ k) -1)+1):=by
  rw[show k+(fk (x / 2 ^ k) -1)+1=fk (x / 2 ^ k)+k by omega,pN];exact(mB hk).1 ad
 rw[acO aw aR];omega
theorem ao0{x:Nat}:(x:Int).fdiv (2 ^ ((16:Int).toNat))=((x / 65536:Nat):Int):=Ht (q:=16)
theorem ao2{x:Nat}:(x:Int).fdiv (2 ^ ((8:Int).toNat))=((x / 256:Nat):Int):=Ht (q:=8)
def Xi:List UInt8:=[0,1,2,2,3,3,3,3,4,4,4,4,4,4,4,4,5,5,5,5,5,5,5,5,5,5,5,5,5,5,5,5,6,6,6,6,6,6,6,6,6,6,6,6,6,6,6,6,6,6,6,6,6,6,6,6,6,6,6,6,6,6,6,6,7,7,7,7,7,7,7,7,7,7,7,7,7,7,7,7,7,7,7,7,7,7,7,7,7,7,7,7,7,7,7,7,7,7,7,7,7,7,7,7,7,7,7,7,7,7,7,7,7,7,7,7,7,7,7,7,7,7,7,7,7,7,7,7,8,8,8,8,8,8,8,8,8,8,8,8,8,8,8,8,8,8,8,8,8,8,8,8,8,8,8,8,8,8,8,8,8,8,8,8,8,8,8,8,8,8,8,8,8,8,8,8,8,8,8,8,8,8,8,8,8,8,8,8,8,8,8,8,8,8,8,8,8,8,8,8,8,8,8,8,8,8,8,8,8,8,8,8,8,8,8,8,8,8,8,8,8,8,8,8,8,8,8,8,8,8,8,8,8,8,8,8,8,8,8,8,8,8,8,8,8,8,8,8,8,8,8,8,8,8,8,8]
theorem TL:∀y,y<256->Xi[y]?=some (UInt8.ofNat (fk y))/\fk y<=8:=by decide+kernel
theorem ak1{y:Nat}(h:y<256):Xi[((y:Nat):Int).toNat]?=some (UInt8.ofNat (fk y)):=by rw[h9];exact(TL y h).1
section
variable {Q:cZ Tryz.prog}{g0:Nat}{J:af}
theorem ak0{x:Nat}(U:x<18446744073709551616):Fn (aT Q g0) 157 [.int .u64 (x:Int)] [] J (fun u m' ae=>u=.int .i64 ((fk x:Nat):Int)/\m'=[]/\J=ae):=by
 refine Fn.b8 (b7 Tryz.func157) rfl rfl fun H=>?_;refine aa 0x6081ce059 ?_;refine dN [0,2,4] ?_;refine a' ?_;refine' aB.lk 3 (fun(bE:(Nat)×(Nat))=>match bE with|(y,k)=>⟨[(0,.int .u64 (y:Int)),(2,.int .i64 (k:Int))],[],J,y<4294967296/\fk x=k+fk y/\k<=32⟩) ?adT ?ae4
 case adT=>
  refine If (fun e'=>?_) fun e'=>?_
  ·refine aa 0x1815039 ?_;rw[y6];refine aa 0x6059 ?_;refine fW ⟨x / 4294967296,32⟩ ?_;try dsimp only
   first
        |exact⟨I,BW (k:=32) I,I⟩
        |exact⟨I,I,I⟩
  ·refine jg ?_;refine fW ⟨x,0⟩ ?_;try dsimp only
   first
        |exact⟨I,BW (k:=32) I,I⟩
        |exact⟨I,I,I⟩
 case ae4=>
  rintro⟨y,k⟩ hinv;try simp only at hinv
  refine aa 0xc1039 ?_;refine dN [0,2,8] ?_;refine a' ?_;refine' aB.lk 3 (fun(bE:(Nat)×(Nat))=>match bE with|(kD,aQ)=>⟨[(0,.int .u64 (kD:Int)),(2,.int .i64 (aQ:Int))],[],J,kD<65536/\fk x=aQ+fk kD/\aQ<=48⟩) ?adX ?ae8
  case adX=>
   refine If (fun fC=>?_) fun fC=>?_
   ·refine aa 0x1815039 ?_;rw[ao0];refine aa 0x1810c39 ?_;refine fW ⟨y / 65536,k+16⟩ ?_;try dsimp only
    first
     |exact⟨I,by have h:=BW (x:=y) (k:=16) I;rw[show(2:Nat) ^ 16=65536 from rfl] at h;omega,I⟩
     |exact⟨I,hinv.2.1,I⟩
   ·refine jg ?_;refine fW ⟨y,k⟩ ?_;try dsimp only
    first
     |exact⟨I,by have h:=BW (x:=y) (k:=16) I;rw[show(2:Nat) ^ 16=65536 from rfl] at h;omega,I⟩
     |exact⟨I,hinv.2.1,I⟩
  case ae8=>
   rintro⟨kD,aQ⟩ hinv;try simp only at hinv
   refine aa 0xc1039 ?_;refine dN [0,2,14] ?_;refine a' ?_;refine' aB.lk 3 (fun(bE:(Nat)×(Nat))=>match bE with|(nx,bj)=>⟨[(0,.int .u64 (nx:Int)),(2,.int .i64 (bj:Int))],[],J,nx<256/\fk x=bj+fk nx/\bj<=56⟩) ?MV ?Nh
   case MV=>
    refine If (fun dZ=>?_) fun dZ=>?_
    ·refine aa 0x1815039 ?_;rw[ao2];refine aa 0x1810c39 ?_;refine fW ⟨kD / 256,aQ+8⟩ ?_;try dsimp only
     first
      |exact⟨I,by have h:=BW (x:=kD) (k:=8) I;rw[show(2:Nat) ^ 8=256 from rfl] at h;omega,I⟩
      |exact⟨I,hinv.2.1,I⟩
    ·refine jg ?_;refine fW ⟨kD,aQ⟩ ?_;try dsimp only
     first
      |exact⟨I,by have h:=BW (x:=kD) (k:=8) I;rw[show(2:Nat) ^ 8=256 from rfl] at h;omega,I⟩
      |exact⟨I,hinv.2.1,I⟩
   case Nh=>
    rintro⟨nx,bj⟩ hinv;try simp only at hinv
    have Cp:=TL nx I;have hw:IntKind.i64.wrap (((UInt8.ofNat (fk nx)).toNat:Nat):Int)=((fk nx:Nat):Int):=by
      rw[UInt8.toNat_ofNat'];rw[nD I];exact wrap_i64 I I
    refine aa 0x70439 ?_;refine' W.step rfl (Exec.val rfl rfl (aaA rfl rfl rfl (RL rfl) ?aN ?ai) ?_);case ai=>exact ak1 I
    case aN=>exact cC
    refine aa 0x357c086e ?_;refine mx ?_;exact⟨by rw[hw,<-xN,<-hinv.2.1];rfl,rfl,rfl⟩
theorem Qm{x:Nat}(U:x<18446744073709551616):Fn (aT Q g0) 127 [.int .u64 (x:Int)] [] J (fun u m' ae=>u=.int .i64 ((64 -fk x:Nat):Int)/\m'=[]/\J=ae):=by
 have ai:fk x<=64:=by
  by_cases h:x=0
  ·subst h;decide
  ·obtain⟨ab,_,aL⟩:=IQ h
   by_cases k:fk x<=64
   ·exact k
   ·exfalso
    have:2 ^ 64<=2 ^ (fk x -1):=nE bm I;omega
 refine Fn.b8 (b7 Tryz.func127) rfl rfl fun H=>?_;refine aa 0x1ce059 ?_;refine br (G:=ak0 U) (h:=?_);rintro v' m' ae hle ⟨rfl,rfl,rfl⟩;refine aa 0x1abe043 ?_;refine mx ?_;exact⟨by rw[show(64:Int) -((fk x:Nat):Int)=((64 -fk x:Nat):Int) by omega];rfl,rfl,rfl⟩
end
end
end Go.Opn
namespace Go.Opn
noncomputable section
structure la (u bq v1 v0 q r:Nat):Prop where
 e:q*v1+r=u
 lt:u*4294967296+bq<(q+1)*(v1*4294967296+v0)
theorem la.start{u bq v1 v0:Nat}(aN:bq<4294967296)(ar:0<v1):la u bq v1 v0 (u / v1) (u % v1):=by
 refine⟨by rw[dp];exact lI u v1,?_⟩
 have h:u+1<=(u / v1+1)*v1:=by
  rw[cR,h',dp]
  have:=lI u v1
  have:=fz u ar
  omega
 have:=eK 4294967296 h
 rw[cH,<-e4]
 rw[cR] at this
 have aL:0<=(u / v1+1)*v0:=df _
 omega
theorem la.less{u bq v1 v0 q r:Nat}(h:la u bq v1 v0 q r)(hu:u<v1*4294967296+v0)(yy:bq<4294967296)(aN:v0<4294967296)(aq:r<4294967296)(aD:4294967296<=q\/r*4294967296+bq<q*v0):la u bq v1 v0 (q -1) (r+v1)/\1<=q:=by
 have bI:1<=q:=by
  rcases aD with c|c
  ·omega
  ·rcases il q with k|k
   ·rw[k] at c;omega
   ·exact k
 obtain⟨p,rfl⟩:∃p,q=p+1:=⟨q -1,by omega⟩
 refine⟨⟨?_,?_⟩,bI⟩
 ·have:=h.e
  rw[cR] at this
  rw[lg]
  omega
 ·rw[lg]
  rcases aD with c|c
  ·have ab:4294967296*(v1*4294967296+v0)<=(p+1)*(v1*4294967296+v0):=eK _ c
   have ad:(u+1)*4294967296<=(v1*4294967296+v0)*4294967296:=eK _ hu
   have:=h.lt
   rw[cR] at ad
   omega
  ·have e:=h.e
   obtain⟨q,p7⟩:∃q,q=p+1:=⟨_,rfl⟩
   rw[<-p7] at e c ⊢
   rw[cH q,<-e4 q v1]
   have ab:u*4294967296=q*v1*4294967296+r*4294967296:=by rw[<-e,cR]
   rw[ab,D9]
   exact Nat.add_lt_add_left c _
theorem la.done{u bq v1 v0 q r:Nat}(h:la u bq v1 v0 q r)(aD:q*v0<=r*4294967296+bq):(u*4294967296+bq) / (v1*4294967296+v0)=q/\(u*4294967296+bq) % (v1*4294967296+v0)=u*4294967296+bq -q*(v1*4294967296+v0)/\q*(v1*4294967296+v0)<=u*4294967296+bq:=by
 have ab:q*(v1*4294967296+v0)<=u*4294967296+bq:=by
  rw[cH q,<-e4 q v1]
  have ab:u*4294967296=q*v1*4294967296+r*4294967296:=by rw[<-h.e,cR]
  omega
 exact⟨(xm ab h.lt).1,(xm ab h.lt).2,ab⟩
theorem la.TJ{u bq v1 v0 q r:Nat}(h:la u bq v1 v0 q r)(bI:q<=4294967296)(aq:4294967296<=r)(aN:v0<4294967296):q*v0<=r*4294967296+bq:=by
 have ab:q*v0<=4294967296*v0:=eK _ bI
 have ad:4294967296*4294967296<=r*4294967296:=rI aq (bF _)
 omega
theorem la.ap'{u v1 v0 b:Nat}(hu:u<v1*b+v0)(ar:b<=v1*2)(aN:v0<b):u<(b+2)*v1:=by
 rw[cR,dp b,dp 2]
 exact zt hu (Nat.add_lt_add_left (hA aN ar) _)
theorem la.top{u v1 v0:Nat}(hu:u<v1*4294967296+v0)(ar:2147483648<=v1)(aN:v0<4294967296):u / v1<=4294967297:=by
 have h:u<4294967298*v1:=la.ap' hu (by omega) aN
 have:u / v1<4294967298:=(mB (by omega)).2 h
 omega
theorem aeR{cS bq V b:Nat}(jo:0<V):(cS*b+bq) / V=cS / V*b+(cS % V*b+bq) / V/\(cS*b+bq) % V=(cS % V*b+bq) % V:=by
 have e:cS*b+bq=V*(cS / V*b)+(cS % V*b+bq):=by
  conv=>lhs;rw[<-lI cS V]
  rw[cR,e4,D9]
 constructor
 ·rw[e,Tc jo]
 ·rw[e,Nat.mul_add_mod]
theorem aeQ{cS bq V:Nat}(jo:0<V):
 (cS*4294967296+bq) / V=cS / V*4294967296+(cS % V*4294967296+bq) / V/\(cS*4294967296+bq) % V=(cS % V*4294967296+bq) % V:=aeR jo
theorem Nf{N d s:Nat}(hs:0<s):N*s / (d*s)=N / d/\N*s % (d*s) / s=N % d:=by
 refine⟨Iu _ _ hs,?_⟩
 rw[Td,sQ _ hs]
theorem aoY{H L k:Nat}(hk:k<=64)(a4:L<18446744073709551616):(H*18446744073709551616+L)*2 ^ k=(H*2 ^ k+L / 2 ^ (64 -k))*18446744073709551616+L*2 ^ k % 18446744073709551616:=by
 have e:(18446744073709551616:Nat)=2 ^ (64 -k)*2 ^ k:=by rw[<-pN,xT hk]
 have ab:=lI (L*2 ^ k) 18446744073709551616
 have ad:L*2 ^ k / 18446744073709551616=L / 2 ^ (64 -k):=by
  rw[e,Iu _ _ (lh k)]
 rw[ad] at ab
 rw[cR,cR]
 have cf:H*18446744073709551616*2 ^ k=H*2 ^ k*18446744073709551616:=by ac_rfl
 have dK:L / 2 ^ (64 -k)*18446744073709551616=18446744073709551616*(L / 2 ^ (64 -k)):=dp _ _
 omega
theorem Q4{a b k:Nat}(h:b<2 ^ k):a*2 ^ k ||| b=a*2 ^ k+b:=by
 rw[dp,Nat.two_pow_add_eq_or_of_lt h]
end
end Go.Opn
namespace Go.Opn
noncomputable section
open Go.Cre Go.RowKit Go.Proofs
theorem R7(x:Int):IntKind.u64.wrap x=x % 18446744073709551616:=by
 unfold IntKind.wrap IntKind.signed IntKind.bits;simp only[DY,By,Ay];rfl
theorem y5{x k:Nat}:IntKind.u64.wrap ((x:Int)*2 ^ ((k:Int)).toNat)=((x*2 ^ k % 18446744073709551616:Nat):Int):=by
 rw[h9,show(x:Int)*2 ^ k=((x*2 ^ k:Nat):Int) by rw[hc,Int.natCast_pow];rfl];exact LC _
theorem xu{x k:Nat}:(x:Int).fdiv (2 ^ ((k:Int)).toNat)=((x / 2 ^ k:Nat):Int):=by
 rw[h9];exact Ht
theorem He{a b:Nat}(aF:a<18446744073709551616)(ai:b<18446744073709551616):IntKind.u64.wrap ((BitVec.ofInt IntKind.u64.bits (a:Int) ||| BitVec.ofInt IntKind.u64.bits (b:Int)).toNat:Int)=((a ||| b:Nat):Int):=by
 have e:(BitVec.ofInt 64 (a:Int) ||| BitVec.ofInt 64 (b:Int)).toNat=a ||| b:=by
  rw[BitVec.toNat_or];have ab:(BitVec.ofInt 64 (a:Int)).toNat=a:=by rw[BitVec.toNat_ofInt];omega
  have ad:(BitVec.ofInt 64 (b:Int)).toNat=b:=by rw[BitVec.toNat_ofInt];omega
  rw[ab,ad]
 show IntKind.u64.wrap ((BitVec.ofInt 64 (a:Int) ||| BitVec.ofInt 64 (b:Int)).toNat:Int)=_;rw[e];exact R8 (Mf (n:=64) aF ai)
theorem sy{x d:Nat}(U:x<18446744073709551616):IntKind.u64.wrap ((x:Int).tdiv (d:Int))=((x / d:Nat):Int):=by
 have jX:(x:Int).tdiv (d:Int)=((x / d:Nat):Int):=rfl;rw[jX];exact R8 (nC (qE x d) U)
theorem aaW{u u1 P R:Nat}(cw:P+R=u*4294967296+u1)(dq:R<18446744073709551616):IntKind.u64.wrap (IntKind.u64.wrap (IntKind.u64.wrap ((u:Int)*4294967296)+(u1:Int)) -IntKind.u64.wrap (P:Int))=(R:Int):=by
 simp only[R7];omega
theorem acN{x:Nat}(h:x<18446744073709551616):fk x<=64:=by
 by_cases aN:x=0
 ·subst aN;decide
 ·obtain⟨ab,_,aL⟩:=IQ aN
  by_cases k:fk x<=64
  ·exact k
  ·exfalso
   have:2 ^ 64<=2 ^ (fk x -1):=nE bm I;omega
theorem KG{d:Nat}(aN:d≠0)(h:d<18446744073709551616):d*2 ^ (64 -fk d)<18446744073709551616/\9223372036854775808<=d*2 ^ (64 -fk d)/\64 -fk d<=63:=by
 obtain⟨ab,ad,aL⟩:=IQ aN;have a6:=acN h;have aw:2 ^ fk d*2 ^ (64 -fk d)=18446744073709551616:=by rw[<-pN,show fk d+(64 -fk d)=64 by omega]
 have aR:2 ^ (fk d -1)*2 ^ (64 -fk d)=9223372036854775808:=by rw[<-pN,show fk d -1+(64 -fk d)=63 by omega]
 have fb:=BN ad (lh (64 -fk d));have fX:=eK (2 ^ (64 -fk d)) ab;omega
structure abc (H L d k V v1 v0 u w u1 bq iJ:Nat):Prop where
 hk:k=64 -fk d
 WX:k<=63
 jo:d*2 ^ k=V
 uv:V=v1*4294967296+v0
 Iy:V<18446744073709551616
 Lq:2147483648<=v1
 aay:v1<4294967296
 qw:v0<4294967296
 SA:H*2 ^ k<18446744073709551616
 abH:L / 2 ^ (64 -k)<2 ^ k
 abF:L / 2 ^ (64 -k)<18446744073709551616
 hu:u=H*2 ^ k+L / 2 ^ (64 -k)
 aat:u<V
 hw:L*2 ^ k % 18446744073709551616=w
 Lx:w<18446744073709551616
 rf:w / 4294967296=u1
 n2:w % 4294967296=bq
 Bd:u1<4294967296
 Bc:bq<4294967296
 Mi:iJ=(u*4294967296+u1) % V
 Tl:iJ<V
 bI:(H*18446744073709551616+L) / d=(u*4294967296+u1) / V*4294967296+(iJ*4294967296+bq) / V
 aq:(H*18446744073709551616+L) % d=(iJ*4294967296+bq) % V / 2 ^ k
 rc:(u*4294967296+u1) / V*4294967296+(iJ*4294967296+bq) / V<18446744073709551616
theorem aeN{H L d:Nat}(lL:H<d)(a4:L<18446744073709551616)(al:d<18446744073709551616):∃k V v1 v0 u w u1 bq iJ,abc H L d k V v1 v0 u w u1 bq iJ:=by
 have ix:d≠0:=I
 obtain⟨k,hk⟩:∃k,k=64 -fk d:=⟨_,rfl⟩;obtain⟨d',ej,eD⟩:=KG ix al;rw[<-hk] at d' ej eD;obtain⟨V,jo⟩:∃V,d*2 ^ k=V:=⟨_,rfl⟩;rw[jo] at d' ej;obtain⟨w,hw⟩:∃w,L*2 ^ k % 18446744073709551616=w:=⟨_,rfl⟩;have tB:w<18446744073709551616:=by rw[<-hw];exact fz _ bm
 have asP:H*2 ^ k<V:=by rw[<-jo];exact BN lL (lh k)
 have afp:2 ^ (64 -k)*2 ^ k=18446744073709551616:=by rw[<-pN,xT I]
 have ahw:L / 2 ^ (64 -k)<2 ^ k:=(mB (lh _)).2 (by rw[dp,afp];exact a4);obtain⟨u,hu⟩:∃u,u=H*2 ^ k+L / 2 ^ (64 -k):=⟨_,rfl⟩;have ajO:u<V:=by
  have ab:(H+1)*2 ^ k<=V:=by rw[<-jo];exact eK _ lL
  rw[cR,h'] at ab;omega
 have hs:=aoY (H:=H) (k:=k) I a4;rw[<-hu,hw] at hs;have ls:=lh k;have Fo:0<V:=I
 have e:u*18446744073709551616+w=(u*4294967296+w / 4294967296)*4294967296+w % 4294967296:=I
 obtain⟨s1,s2⟩:=Nf (N:=H*18446744073709551616+L) (d:=d) ls;obtain⟨t1,t2⟩:=aeQ (cS:=u*4294967296+w / 4294967296) (bq:=w % 4294967296) Fo;rw[jo,hs,e] at s1 s2;refine⟨k,V,V / 4294967296,V % 4294967296,u,w,w / 4294967296,w % 4294967296,_,hk,eD,jo,I,d',I,I,I,I,ahw,nC (qE _ _) a4,hu,ajO,hw,tB,rfl,rfl,I,I,rfl,fz _ Fo,s1.symm.trans t1,by rw[<-s2,t2],?_⟩;rw[<-t1,s1];exact(mB I).2 (by
  have:=eK 18446744073709551616 lL;rw[dp 18446744073709551616 d];rw[oZ] at this;omega)
section
variable {Q:cZ Tryz.prog}{g0:Nat}{J:af}
theorem Uf{H L d:Nat}(lL:H<d)(a4:L<18446744073709551616)(al:d<18446744073709551616):Fn (aT Q g0) 147 [.int .u64 (H:Int),.int .u64 (L:Int),.int .u64 (d:Int)] [] J (fun u m' ae=>u=.tuple #[.int .u64 (((H*18446744073709551616+L) / d:Nat):Int),.int .u64 (((H*18446744073709551616+L) % d:Nat):Int)]/\m'=[]/\J=ae):=by
 obtain⟨k,gw,v1,v0,u,w,u1,bq,iJ,D⟩:=aeN lL a4 al;have WX:=D.WX;have jo:=D.jo;have uv:=D.uv;have Iy:=D.Iy;have Lq:=D.Lq;have aay:=D.aay;have qw:=D.qw;have aat:=D.aat;have Bd:=D.Bd;have Bc:=D.Bc;have Mi:=D.Mi;have Tl:=D.Tl;have rc:=D.rc;refine Fn.b8 (b7 Tryz.func147) rfl rfl fun arV=>?_;refine aa 0x17c1039c0859 ?_;refine If (fun hM=>?_) fun hM=>?_
 ·exfalso;omega
 ·refine aa 0xbe0810e757 ?_;refine If (fun zC=>?_) fun zC=>?_
  ·exfalso;omega
  ·refine aa 0x5f040e757 ?_;refine If (fun gK=>?_) fun gK=>?_
   ·have aN:H=0:=I
    subst aN;rw[jA,kH];refine a' ?_;refine aB.draw rfl (by kernel_rfl) (aX:=[.val 0,.val 1,.val 2,.val 3,.val 4,.val 5,.val 6,.val 7]) (by kernel_rfl) ?_;refine aa 0x6af8109e10bc21 ?_;refine mx ?_;first
     |(have c:=gK
       exact⟨by rw[sy a4];rfl,rfl,rfl⟩)
     |exact⟨rfl,rfl,rfl⟩
   ·refine aa 0xe757 ?_;refine br (G:=Qm al) (h:=?_);rintro v' m' ae hle ⟨rfl,rfl,rfl⟩;rw[<-D.hk];refine aa 0x1815021ce04e ?_;rw[y5,jo,nD Iy];refine aa 0x5039 ?_;rw[y6,show gw / 4294967296=v1 by omega];refine aa 0x140e702 ?_;rw[Er Iy,show gw % 4294967296=v0 by omega];refine aa 0x2810e702 ?_;rw[y5,nD D.SA];refine aa 0xc21 ?_;rw[show(64:Int) -(k:Int)=((64 -k:Nat):Int) by omega];refine eT V.o3 ?_;rw[xu];refine eT V.o3 ?_;rw[He D.SA D.abF,Q4 D.abH,<-D.hu];refine aa 0x2810e702 ?_;rw[y5,D.hw];refine aa 0x140e702 ?_;rw[y6,D.rf];refine aa 0x140e702 ?_;rw[Er D.Lx,D.n2];refine aa 0x1e10e702 ?_;rw[sy I];obtain⟨hT,r6⟩:∃q,q=u / v1:=⟨_,rfl⟩;obtain⟨kB,cx⟩:∃r,r=u % v1:=⟨_,rfl⟩;have hm:hT*v1+kB=u:=by rw[r6,cx,dp];exact lI u v1
    have Wg:kB<v1:=by rw[cx];exact fz _ I
    have fE:la u u1 v1 v0 hT kB:=by rw[r6,cx];exact la.start Bd I
    have FW:hT<=4294967297:=by rw[r6];exact la.top I Lq qw
    rw[<-r6];refine aa 0x18c210e702 ?_;rw[show(u:Int) -(hT:Int)*(v1:Int)=(kB:Int) by omega];refine aa 0x302 ?_;refine dN [15,16,2,8,9,10,11,13,14] ?_;refine a' ?_;refine' aB.lk 2 (fun(aK:Nat)=>⟨[(15,.int .u64 (aK:Int))],[],J,aK=(u*4294967296+u1) / gw⟩) ?vY ?v8;case vY=>
     refine aB.block ?_;refine c8 [(15,.int .u64 ((hT):Int)),(16,.int .u64 ((kB):Int)),(2,_),(8,_),(9,_),(10,_),(11,_),(13,_),(14,_)] ?_;refine a' ?_;refine' aB.ja (fun(bE:Nat×Nat)=>match bE with|(q,r)=>⟨[(15,.int .u64 (q:Int)),(16,.int .u64 (r:Int))],la u u1 v1 v0 q r/\r<4294967296/\q<=4294967297,q⟩) ⟨hT,kB⟩ ?hs ?bb
     case hs=>exact⟨fE,I,FW⟩
     case bb=>
      rintro⟨q,r⟩ hinv;try simp only at hinv
      obtain⟨cK,aq,bI⟩:=hinv;refine dN [2,8,9,10,11,13,14,15,16] ?_;refine a' ?_;refine' aB.fD 0 [(78,.bool (decide ((4294967296<=q\/r*4294967296+u1<q*v0))))] ?M7 ?Nm;case M7=>
        refine aa 0x903a ?_;refine fs 69 (fun agO=>?_) fun agO=>?_
        ·refine aa 0x308def7bdef7b ?_;refine dO (dS ?_);first|omega|(simp_all;done)|(simp_all;omega)
        ·have ai:=De (a:=q) (b:=v0) I I;refine aa 0x30820c2308c21 ?_;refine dO (dS ?_);first|omega|(simp_all;done)|(simp_all;omega)
      case Nm=>
        refine a' ?_;refine If (fun EH=>?_) fun EH=>?_
        ·have nY:=(cK.less I Bd qw aq EH).2;refine aa 0xbe081ce0430873810c39d5f57 ?_;refine If (fun adp=>?_) fun adp=>?_
         ·refine aa 0x357 ?_;refine fW (q -1) ?_;try dsimp only
          rw[uv];exact((cK.less I Bd qw aq EH).1.done (la.TJ (cK.less I Bd qw aq EH).1 I I qw)).1.symm
         ·refine jg ?_;refine jf ⟨q -1,r+v1⟩ ?_;exact⟨(cK.less I Bd qw aq EH).1,I,I⟩
        ·refine aa 0x357 ?_;refine fW (q) ?_;try dsimp only
         rw[uv];exact(cK.done I).1.symm
    case v8=>
     rintro aK hinv;try simp only at hinv
     have nY:=hinv;have cw:=(show ∃P,P=aK*gw/\P+iJ=u*4294967296+u1 from⟨_,rfl,by rw[nY,Mi,dp];exact lI _ gw⟩);obtain⟨P,Jq,wq⟩:=cw;refine aa 0x31842308c39 ?_;rw[vd Jq,aaW wq I];refine aa 0x1e10e702 ?_;rw[sy I];obtain⟨ic,rb⟩:∃q,q=iJ / v1:=⟨_,rfl⟩;obtain⟨y3,Pt⟩:∃r,r=iJ % v1:=⟨_,rfl⟩;have V0:ic*v1+y3=iJ:=by rw[rb,Pt,dp];exact lI iJ v1
     have atD:y3<v1:=by rw[Pt];exact fz _ I
     have h2:la iJ bq v1 v0 ic y3:=by rw[rb,Pt];exact la.start Bc I
     have aja:ic<=4294967297:=by rw[rb];exact la.top I Lq qw
     rw[<-rb];refine aa 0x18c210e702 ?_;rw[show(iJ:Int) -(ic:Int)*(v1:Int)=(y3:Int) by omega];refine aa 0x302 ?_;refine dN [9,10,16,18,2,8,14,15,17] ?_;refine a' ?_;refine' aB.lk 4 (fun(aH:Nat)=>⟨[(18,.int .u64 (aH:Int))],[],J,aH=(iJ*4294967296+bq) / gw⟩) ?M1 ?Nk;case M1=>
      refine aB.block ?_;refine c8 [(18,.int .u64 ((ic):Int)),(16,.int .u64 ((y3):Int)),(2,_),(8,_),(9,_),(10,_),(14,_),(15,_),(17,_)] ?_;refine a' ?_;refine' aB.ja (fun(bE:Nat×Nat)=>match bE with|(q,r)=>⟨[(18,.int .u64 (q:Int)),(16,.int .u64 (r:Int))],la iJ bq v1 v0 q r/\r<4294967296/\q<=4294967297,q⟩) ⟨ic,y3⟩ ?hs ?bb
      case hs=>exact⟨h2,I,aja⟩
      case bb=>
        rintro⟨q,r⟩ hinv;try simp only at hinv
        obtain⟨cK,aq,bI⟩:=hinv;refine dN [2,8,9,10,14,15,16,17,18] ?_;refine a' ?_;refine' aB.fD 0 [(113,.bool (decide ((4294967296<=q\/r*4294967296+bq<q*v0))))] ?aej ?afc;case aej=>
         refine aa 0x903a ?_;refine fs 104 (fun agR=>?_) fun agR=>?_
         ·refine aa 0x308def7bdef7b ?_;refine dO (dS ?_);first|omega|(simp_all;done)|(simp_all;omega)
         ·have ai:=De (a:=q) (b:=v0) I I;refine aa 0x30820c2308c21 ?_;refine dO (dS ?_);first|omega|(simp_all;done)|(simp_all;omega)
        case afc=>
         refine a' ?_;refine If (fun EA=>?_) fun EA=>?_
         ·have atB:=(cK.less I Bc qw aq EA).2;refine aa 0xbe081ce0430873810c39d5f57 ?_;refine If (fun ac6=>?_) fun ac6=>?_
          ·refine aa 0x357 ?_;refine fW (q -1) ?_;try dsimp only
           rw[uv];exact((cK.less I Bc qw aq EA).1.done (la.TJ (cK.less I Bc qw aq EA).1 I I qw)).1.symm
          ·refine jg ?_;refine jf ⟨q -1,r+v1⟩ ?_;exact⟨(cK.less I Bc qw aq EA).1,I,I⟩
         ·refine aa 0x357 ?_;refine fW (q) ?_;try dsimp only
          rw[uv];exact(cK.done I).1.symm
     case Nk=>
      rintro aH hinv;try simp only at hinv
      have p7:=hinv;obtain⟨BP,ahF,ahG⟩:=(show ∃P,P=aH*gw/\P+(iJ*4294967296+bq) % gw=iJ*4294967296+bq from⟨_,rfl,by rw[p7,dp];exact lI _ gw⟩);have Jr:(iJ*4294967296+bq) % gw<gw:=fz _ I;rw[<-nY,<-p7] at rc;have mF:(aK:Int)*4294967296+(aH:Int)=(((H*18446744073709551616+L) / d:Nat):Int):=by rw[D.bI,<-nY,<-p7,xN,hc];rfl
      refine aa 0x308c39 ?_;rw[mF];refine aa 0x18c2118461 ?_;rw[vd ahF,aaW ahG I];refine aa 0x281 ?_;rw[xu,<-D.aq];refine aa 0x1abe042 ?_;refine mx ?_;first
       |(have c:=gK
         exact⟨by rw[sy a4];rfl,rfl,rfl⟩)
       |exact⟨rfl,rfl,rfl⟩
end
end
end Go.Opn
namespace Go.Opn
noncomputable section
theorem aaK:∀{l:List Nat},(∀j y:Nat,l[j]?=some y->y=0)->a3 l=0
 |[],_=>rfl
 |x::l,h=>by
  show x+18446744073709551616*a3 l=0
  rw[h 0 x rfl,aaK (l:=l) fun j y aY=>h (j+1) y aY]
theorem aqh{l:List Nat}{k:Nat}(ah:okW l)(hk:k<=l.length)(aG:∀j y,k<=j->l[j]?=some y->y=0)(az:∀y,0<k->l[k -1]?=some y->y≠0):l.take k=aS (a3 l):=by
 have ab:xL (l.take k):=⟨tJ ah,fun x U=>by
  have ao:0<k:=by
   rcases il k with q|q
   ·rw[q] at U;cases U
   ·exact q
  refine az x ao ?_
  rw[sM,dY,fV hk,iH,a2 (by omega)] at U
  exact U⟩
 have ad:=Bo l k hk
 rw[aaK (l:=l.drop k) fun j y aY=>by
  rw[oX] at aY
  exact aG (k+j) y (by omega) aY] at ad
 rw[I2 ab,ad]
 congr 1
theorem aaV{x:Nat}:∀{k:Nat},x<18446744073709551616 ^ k->(aS x).length<=k:=by
 intro k
 induction k generalizing x with
 |zero=>
  intro h
  have:x=0:=by rw[zu] at h;omega
  rw[this,sD];exact bF _
 |succ k aP=>
  intro h
  by_cases q:x=0
  ·rw[q,sD];exact df _
  ·rw[vw q,lc]
   have:x / 18446744073709551616<18446744073709551616 ^ k:=by
        rw[mB (by decide),<-ff];exact h
   have:=aP this
   omega
theorem Bq{x k:Nat}(h:(aS x).length<=k):x<18446744073709551616 ^ k:=by
 have ab:=ry (oH x)
 rw[hr] at ab
 exact hA ab (nE (by decide) h)
theorem HM{x:Nat}(h:x≠0):(aS x).length≠0:=by rw[vw h,lc];omega
theorem nw{x:Nat}(h:(aS x).length≠0):x≠0:=fun q=>by rw[q,sD] at h;exact h rfl
theorem DO{x y:Nat}(h:(aS x).length<(aS y).length):x<y:=by
 have:=aq4 (oH x) (aet y) h
 rwa [hr,hr] at this
theorem R5{x y i a b:Nat}(aF:(aS x)[i]?=some a)(ai:(aS y)[i]?=some b)(al:(aS x).drop (i+1)=(aS y).drop (i+1))(h:a<b):x<y:=by
 have:=aq5 (oH x) aF ai al h
 rwa [hr,hr] at this
theorem zc(l:List Nat)(i:Nat):a3 (l.take (i+1))=a3 (l.take i)+18446744073709551616 ^ i*l.getD i 0:=by
 by_cases h:i<l.length
 ·rw[kC (dX h),gI,dX h];rfl
 ·rw[gI,oe (by omega),cM (by omega),cM (by omega)];rfl
theorem Bn(l:List Nat)(x:Nat):a3 (l++[x])=a3 l+18446744073709551616 ^ l.length*x:=by rw[tX,HI]
theorem E9{l:List Nat}(h:okW l)(i:Nat):l.getD i 0<18446744073709551616:=by
 rw[gI]
 rcases q:l[i]? with _|x
 ·decide
 ·exact xb h q
theorem QW:okW []:=fun z aG=>(by cases aG)
end
end Go.Opn
namespace Go.Opn
noncomputable section
open Go.Cre Go.RowKit Go.Proofs
theorem rP{x y:Nat}:iN x y<0↔x<y:=by unfold iN;split<;>(try split)<;>omega
theorem MY{x y:Nat}:iN x y=0↔x=y:=by unfold iN;split<;>(try split)<;>omega
theorem o4{x y:Nat}(h:x<y):iN x y=-1:=by unfold iN;split<;>(try split)<;>omega
theorem s6{x y:Nat}(h:y<x):iN x y=1:=by unfold iN;split<;>(try split)<;>omega
theorem nM{x y:Nat}(h:x=y):iN x y=0:=by unfold iN;split<;>(try split)<;>omega
theorem drop_cons{l:List Nat}{i x:Nat}(h:l[i]?=some x):l.drop i=x::l.drop (i+1):=by
 have ak:=(gS.1 h).1;have U:l[i]=x:=by rw[dX ak] at h;injection h
 rw[Ic ak,U]
theorem hP{l:List Nat}{i x:Nat}(h:l[i]?=some x):l.getD i 0=x:=by rw[gI,h];rfl
theorem lm{l:List Nat}{i:Nat}(h:l.length<=i):l.getD i 0=0:=by rw[gI,oe h];rfl
theorem cJ.at{k:IntKind}{J:af}{b:Option Addr}{n c:Nat}{l:List Nat}(h:cJ k J (.slice b n c) l)(ao:0<l.length):∃a off cells e,b=some ⟨a,off,none⟩/\J a=some (cells,e)/\∀i:Nat,i<l.length->∃x,l[i]?=some x/\nth cells (off+i*1)=some (.int k (x:Int)):=by
 obtain⟨a,off,cells,e,ab,ad,aL⟩:=h.ed ao;exact⟨a,off,cells,e,ab,ad,fun i ak=>⟨l[i],dX ak,aL i _ (dX ak)⟩⟩
theorem Qz{x:Nat}(h:x≠0):0<(aS x).length:=by have:=HM h;omega
theorem ki{x y:Nat}(h:x<=y):(aS x).length<=(aS y).length:=by
 apply qF
 intro q;have:=DO q;omega
theorem GQ{x k:Nat}(h:x<18446744073709551616 ^ k):(aS x).length<=k:=aaV h
theorem alW{x y k:Nat}(U:(aS x).length<=k)(au:(aS y).length<=k):(aS (x+y)).length<=k+1:=by
 have ab:=Bq U;have ad:=Bq au;refine GQ ?_;rw[ff];omega
theorem w8{x y k j:Nat}(U:(aS x).length<=k)(au:(aS y).length<=j):(aS (x*y)).length<=k+j:=by
 have ab:=Bq U;have ad:=Bq au;refine GQ ?_;rw[pN];exact Mc ab ad
theorem GR{x:Nat}(h:x<18446744073709551616):(aS x).length<=1:=GQ (by rw[BO];exact h)
theorem sC{x:Nat}(aN:x≠0)(h:x<18446744073709551616):aS x=[x]:=by
 rw[vw aN,nD h,rG h,sD]
theorem QA{x:Nat}(h:(aS x).length=1):aS x=[x]/\x<18446744073709551616/\x≠0:=by
 have ab:x<18446744073709551616:=by have:=Bq (x:=x) (k:=1) (Nat.le_of_eq h);rwa [BO] at this
 have aN:x≠0:=nw (by show(aS x).length≠0;omega);exact⟨sC aN ab,ab,aN⟩
theorem cp.at{J:af}{b:Option Addr}{n c x:Nat}(h:cp J (.slice b n c) x)(ao:x≠0):∃a off cells e,b=some ⟨a,off,none⟩/\J a=some (cells,e)/\∀i:Nat,i<(aS x).length->∃y,(aS x)[i]?=some y/\nth cells (off+i*1)=some (.int .u64 (y:Int))/\y<18446744073709551616:=by
 obtain⟨a,off,cells,e,ab,ad,aL⟩:=cJ.at h (Qz ao);exact⟨a,off,cells,e,ab,ad,fun i ak=>by obtain⟨y,aU,aQ⟩:=aL i ak;exact⟨y,aU,aQ,xb (oH x) aU⟩⟩
theorem cJ.Bf{k:IntKind}{J ae:af}{v:Value}{l l':List Nat}(h:cJ k J v l)(gO:cJ k ae v l')(hle:J.le ae):l=l':=by
 obtain⟨b,c,aw⟩:=h.form;obtain⟨b',c',aR⟩:=gO.form;rw[aw] at aR;injection aR with _ aR _
 subst aw;apply List.ext_getElem aR
 intro i i1 i2;obtain⟨a,off,cells,e,rfl,Gq,Gr⟩:=cJ.at h I;obtain⟨bO,fI,cells',bC,w,aU,aQ⟩:=cJ.at gO I;injection w with w
 injection w with bt cv
 subst bt;subst cv;rw[hle _ _ Gq] at aU;injection aU with aU
 injection aU with bt cv
 subst bt;obtain⟨x,en,fR⟩:=Gr i i1;obtain⟨y,jh,kD⟩:=aQ i i2;rw[fR] at kD;injection kD with kD
 injection kD with _ kD
 rw[dX i1] at en;rw[dX i2] at jh;injection en with en
 injection jh with jh
 omega
theorem cp.Bf{J ae:af}{v:Value}{x y:Nat}(h:cp J v x)(gO:cp ae v y)(hle:J.le ae):x=y:=by
 have:=b6 a3 (cJ.Bf h gO hle);rwa [hr,hr] at this
section
variable {K:dy}{B:c5}{o:Oper}{n:Nat}{ds:dJ}{l:List (Nat×Value)}{m:aO}{J:af}
theorem Bj{t e:TypeId}{x:Operand}{ak:Operand}{c0 off k cap sz:Nat}{zs:List Value}{b:Int}{qh:IntKind}(ah:o.op=.slice t x none (some ak) none)(U:bx l x=some (.slice (some ⟨c0,off,none⟩) k cap))(aJ:mr K.P t=some (e,sz,zs))(kh:bx l ak=some (.int qh b))(aN:0<=b)(ab:b<=cap)(aD:cap<cG):cO K B o n ds l m J (.slice (some ⟨c0,off,none⟩) b.toNat cap):=by
 obtain⟨hu,dF,_⟩:=sw aJ;intro call aE S H aj av;obtain⟨xa,pt,pu⟩:=uA (iO:=k) (top:=cap) (dl:=(k:Int)) (i:=b) (x:=some ak) aj H (by unfold s3;simp only[kh]) aN ab rfl;unfold cj eF;simp only[ah];show lY K.P _ t (a1 S.T H x) (ho S.T H none) (ho S.T H (some ak))=_;rw[c6 aj H U,pt,show ho S.T H none=some none from rfl];unfold lY;simp only
 have:jY K.P H t (.slice (some ⟨c0,off,none⟩) k cap) none xa=some (.slice (some ⟨c0,off,none⟩) b.toNat cap):=by
  unfold jY;simp only[hu,dF];rw[show Nat.beq cap cG=false from by
   cases ai:Nat.beq cap cG with
   |false=>rfl
   |true=>have:=eb ai;omega,da,pu]
  simp only[jW];cases ai:Nat.beq cap 0 with
  |false=>rw[da];simp
  |true=>rw[b4];simp
 rw[this];rfl
end
abbrev et(k:IntKind)(t a:Nat)(l:List Nat):Nat×dw:=(a,.row (bW k l) t)
abbrev jB(J:af)(x:Nat):Value->aO->af->Prop:=fun u m' ae=>J.le ae/\m'=[]/\cp ae u x
theorem jD{c:Nat}(h:c<1000000):c<cG:=zt h bm
theorem jB.hs{J oU:af}{x jw:Nat}(hle:oU.le J)(ew:jw=x){bl:aO}(hm:bl=[]):bl=[]/\oU.le J/\∀v m' bi de,jB oU jw v m' bi->bi.le de->J.le de->jB J x v m' de:=
 ⟨hm,hle,fun v m' bi de ⟨_,ad,aL⟩ a6 fb=>⟨fb,ad,ew▸aL.mono a6⟩⟩
section
variable {Q:cZ Tryz.prog}{g0:Nat}{J:af}
theorem C9{v:Value}{x:Nat}(h:cp J v x)(ai:(aS x).length<=100000):Fn (aT Q g0) 122 [v] [] J (fun u m' ae=>u=.bool (decide (x=1))/\m'=[]/\J=ae):=by
 obtain⟨b,c,rfl,ly⟩:=h.bQ;refine Fn.b8 (b7 Tryz.func122) rfl rfl fun H=>?_;refine aa 0x90a1ce059 ?_;refine fs 6 (fun iU=>?_) fun iU=>?_
 ·obtain⟨aw,aR,cf⟩:=QA (x:=x) (by show(aS x).length=1;omega);obtain⟨a,off,cells,e,rfl,gD,ar⟩:=h.at cf;obtain⟨y,au,ar,_⟩:=ar 0 (by show 0<(aS x).length;omega);rw[aw] at au;obtain rfl:x=y:=sS au;refine aa 0x1abe048224c1 ?_;refine mx ?_;first
   |(have c:=iU
     exact⟨b6 Value.bool (by first|(by_cases q:x=1<;>simp[q]<;>omega)|(have q:x≠1:=fun q=>c (by rw[q,sC bm bm];rfl);simp[q])),rfl,rfl⟩)
 ·refine aa 0x1abe048def7b ?_;refine mx ?_;first
   |(have c:=iU
     exact⟨b6 Value.bool (by first|(by_cases q:x=1<;>simp[q]<;>omega)|(have q:x≠1:=fun q=>c (by rw[q,sC bm bm];rfl);simp[q])),rfl,rfl⟩)
theorem EO{v w:Value}{x y:Nat}(ab:cp J v x)(ad:cp J w y)(U:(aS x).length<=100000)(au:(aS y).length<=100000):Fn (aT Q g0) 95 [v,w] [] J (fun u m' ae=>u=.int .i64 (iN x y)/\m'=[]/\J=ae):=by
 obtain⟨bs,bp,rfl,aK⟩:=ab.bQ;obtain⟨bM,bN,rfl,aH⟩:=ad.bQ;refine Fn.b8 (b7 Tryz.func95) rfl rfl fun H=>?_;refine aa 0x5f04284a1ce059 ?_;refine If (fun b2=>?_) fun b2=>?_
 ·refine aa 0xbe08509439 ?_;refine If (fun dR=>?_) fun dR=>?_
  ·refine aa 0x1abe059 ?_;refine mx ?_;first
    |(have c:=dR;exact⟨by rw[o4 (DO I)];rfl,rfl,rfl⟩)
    |(have c:=dR;exact⟨by rw[s6 (DO I)];rfl,rfl,rfl⟩)
    |exact⟨by
      obtain rfl:k=0:=I
      rw[nM (show x=y by rw[<-hr x,<-hr y];exact b6 a3 al)];rfl,rfl,rfl⟩
  ·refine aa 0x6af816757 ?_;refine mx ?_;first
    |(have c:=dR;exact⟨by rw[o4 (DO I)];rfl,rfl,rfl⟩)
    |(have c:=dR;exact⟨by rw[s6 (DO I)];rfl,rfl,rfl⟩)
    |exact⟨by
      obtain rfl:k=0:=I
      rw[nM (show x=y by rw[<-hr x,<-hr y];exact b6 a3 al)];rfl,rfl,rfl⟩
 ·refine aa 0x357c08650e757 ?_;refine c8 [(5,.int .i64 ((((aS x).length):Int) -1)),(0,_),(1,_)] ?_;refine a' ?_;refine' aB.ja (fun(k:Nat)=>⟨[(5,.int .i64 ((k:Int) -1))],k<=(aS x).length/\(aS x).drop k=(aS y).drop k,k⟩) ((aS x).length) ?hs ?bb;case hs=>exact⟨bF _,by rw[sL I,sL I]⟩
  case bb=>
   rintro k hinv;try simp only at hinv
   obtain⟨hk,al⟩:=hinv;refine aa 0x17c1039 ?_;refine If (fun hM=>?_) fun hM=>?_
   ·obtain⟨a,o,br,e,rfl,gD,ar⟩:=ab.at (nw I);obtain⟨bO,o',x4,bC,rfl,yi,p'⟩:=ad.at (nw I);obtain⟨p,ao,ha,_⟩:=ar (k -1) (by show k -1<(aS x).length;omega);obtain⟨q,bI,pc,_⟩:=p' (k -1) (by show k -1<(aS y).length;omega);have ha:nth br (o+((k:Int) -1).toNat*1)=some (.int .u64 (p:Int)):=by rw[show((k:Int) -1).toNat=k -1 by omega];exact ha
    have pc:nth x4 (o'+((k:Int) -1).toNat*1)=some (.int .u64 (q:Int)):=by rw[show((k:Int) -1).toNat=k -1 by omega];exact pc
    refine aa 0x17d5f57 ?_;refine aB.draw rfl (by kernel_rfl) (aX:=[.val 0,.val 1,.val 2,.val 3,.val 4,.val 5,.val 6,.val 7,.val 8]) (by kernel_rfl) ?_;refine aa 0x5f044982149821 ?_;refine If (fun mC=>?_) fun mC=>?_
    ·refine aa 0x1abe059 ?_;refine mx ?_;first
       |(have c:=mC;exact⟨by rw[o4 (R5 ao bI (by rw[show k -1+1=k by omega];exact al) I)];rfl,rfl,rfl⟩)
       |exact⟨by
         obtain rfl:k=0:=I
         rw[nM (show x=y by rw[<-hr x,<-hr y];exact b6 a3 al)];rfl,rfl,rfl⟩
    ·refine aa 0x5f57 ?_;refine aB.draw rfl (by kernel_rfl) (aX:=[.val 0,.val 1,.val 2,.val 3,.val 4,.val 5,.val 6,.val 7,.val 8]) (by kernel_rfl) ?_;refine aa 0x5f044982149821 ?_;refine If (fun s4=>?_) fun s4=>?_
     ·refine aa 0x1abe059 ?_;refine mx ?_;first
       |(have c:=mC;exact⟨by rw[o4 (R5 ao bI (by rw[show k -1+1=k by omega];exact al) I)];rfl,rfl,rfl⟩)
       |(have c:=s4;exact⟨by rw[s6 (R5 bI ao (by rw[show k -1+1=k by omega];exact al.symm) I)];rfl,rfl,rfl⟩)
       |exact⟨by
         obtain rfl:k=0:=I
         rw[nM (show x=y by rw[<-hr x,<-hr y];exact b6 a3 al)];rfl,rfl,rfl⟩
     ·refine aa 0x60430e757 ?_;refine jf (k -1) ?_;exact⟨I,by rw[drop_cons (i:=k -1) ao,drop_cons (i:=k -1) bI,show k -1+1=k by omega,al];congr 1;omega⟩
   ·refine aa 0x6af816757 ?_;refine mx ?_;first
     |exact⟨by
       obtain rfl:k=0:=I
       rw[nM (show x=y by rw[<-hr x,<-hr y];exact b6 a3 al)];rfl,rfl,rfl⟩
theorem xA{a n cap:Nat}{l:List Nat}(ah:okW l)(az:n<=l.length)(aD:n<=cap)(gQ:cap<1000000):
 Fn (aT Q g0) 125 [.slice (some ⟨a,0,none⟩) n cap] [et .u64 120 a l] J (fun u m' ae=>∃k,u=.slice (some ⟨a,0,none⟩) k cap/\k<=n/\l.take k=aS (a3 (l.take n))/\m'=[et .u64 120 a l]/\J=ae):=by
 have ai5:cap<cG:=jD gQ;have pb:(l.take n).length=n:=by rw[dY];omega
 have fin:∀k:Nat,k<=n->(∀j y,k<=j->(l.take n)[j]?=some y->y=0)->(∀y,0<k->(l.take n)[k -1]?=some y->y≠0)->l.take k=aS (a3 (l.take n)):=fun k hk ab ad=>by
  rw[<-aqh (tJ ah) (by rw[pb];exact hk) ab ad,sP,fV hk]
 refine Fn.b8 (b7 Tryz.func125) rfl rfl fun H=>?_;refine aa 0x357c08a1ce059 ?_;refine c8 [(3,.int .i64 ((n):Int)),(0,_)] ?_;refine a' ?_;refine' aB.ja (fun(k:Nat)=>⟨[(3,.int .i64 (k:Int))],k<=n/\∀j y,k<=j->(l.take n)[j]?=some y->y=0,k⟩) (n) ?hs ?bb;case hs=>exact⟨bF _,fun j y ab ad=>by have:=(gS.1 ad).1;omega⟩
 case bb=>
  rintro k hinv;try simp only at hinv
  obtain⟨hk,aG⟩:=hinv;refine aa 0x9039 ?_;refine fs 8 (fun Cn=>?_) fun Cn=>?_
  ·obtain⟨x,U⟩:∃x,l[k -1]?=some x:=⟨_,dX I⟩;have gb:(l.take n)[k -1]?=some x:=by rw[iH,a2 I];exact U
   have az:nth (bW .u64 l) (0+((k:Int) -1).toNat*1)=some (.int .u64 (x:Int)):=qk U I;refine aa 0x17c208a30c21 ?_;refine If (fun dR=>?_) fun dR=>?_
   ·refine aa 0x1810c39d5f57 ?_;refine jf (k -1) ?_;exact⟨I,fun j y ab ad=>by
     by_cases q:k<=j
     ·exact aG j y q ad
     ·obtain rfl:j=k -1:=I
      rw[gb] at ad;injection ad with ad;omega⟩
   ·refine aa 0x10e757 ?_;refine' W.step rfl (Exec.val rfl rfl (Bj rfl rfl (eB rfl) rfl ?aN ?ab ?ad) ?_);case aN=>exact cC
    case ab=>exact cC
    case ad=>first|assumption|exact jD cC
    refine aa 0xd5f02 ?_;refine oi ?_;first
      |(have c:=dR;exact⟨k,by rw[h9];rfl,hk,fin k hk aG (fun y ab ad=>by rw[gb] at ad;injection ad with ad;omega),rfl,rfl⟩)
      |exact⟨k,by rw[h9];rfl,hk,fin k hk aG (fun y ab ad=>by omega),rfl,rfl⟩
  ·refine aa 0x439d5f57c237bdef7b ?_;refine' W.step rfl (Exec.val rfl rfl (Bj rfl rfl (eB rfl) rfl ?aN ?ab ?ad) ?_);case aN=>exact cC
   case ab=>exact cC
   case ad=>first|assumption|exact jD cC
   refine aa 0xd5f02 ?_;refine oi ?_;first
    |exact⟨k,by rw[h9];rfl,hk,fin k hk aG (fun y ab ad=>by omega),rfl,rfl⟩
end
end
end Go.Opn

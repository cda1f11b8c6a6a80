/- A part of the proof of TableTurns. -/
import Derived.Test.YtlgjlbpafcifoaaGreatDoorCax
import Derived.Test.YtlgjlbpafcifoaaGreatDoorCav
set_option maxRecDepth 100000
set_option maxHeartbeats 8000000
set_option linter.unusedVariables false
set_option linter.unusedSimpArgs false
namespace Go.Opn
noncomputable section
open Go.Cre Go.RowKit Go.Proofs
theorem yN{X d:Nat}(al:0<d):¬(bn (X:Int) d).z<0:=fun h=>by
 have:=(KJ (z:=(X:Int)) al).2.1.1 h;omega
theorem zZ{n d k:Nat}(al:0<d)(ab:(aS n).length<=k)(ad:(aS d).length<=k):lG k (bn (n:Int) d):=agz al (by rw[hK];exact ab) ad
theorem RI{l:List Nat}{i x:Nat}(h:l[i]?=some x):(l.take (i+1)).sum=(l.take i).sum+x:=by
 rw[ko,h];simp
theorem Lk{l:List Nat}:∀{i:Nat},(l.take i).sum<=l.sum:=by
 induction l with
 |nil=>intro i;simp
 |cons a l aP=>
  intro i;cases i with
  |zero=>simp
  |succ i=>rw[D8,qD,qD];have:=aP (i:=i);omega
section
variable {Q:cZ Tryz.prog}{g0:Nat}{J:af}
theorem aco{r s:cY}{x y:Bool}{v1 v2 bt cv:Value}(U:x=decide (r.z<0))(au:y=decide (s.z<0))(aq:h8 J r v1 v2)(hs:h8 J s bt cv)(hX:r.h7)(cs:s.h7){k j:Nat}(fr:lG k r)(hO:lG j s)(hk:k<=30000)(aY:j<=30000):Fn (aT Q g0) 78 [.agg #[.bool x,v1,v2],.agg #[.bool y,bt,cv]] [] J (ur J (bn (r.z*s.d+s.z*r.d) (r.d*s.d))):=by
 subst U;subst au;exact acn aq hs hX cs fr hO hk aY
theorem aqf{ps:List Nat}{s:Nat}{b:Option Addr}{c:Nat}(h:dz J 82 3 (mw J) (.slice b ps.length c) (ps.map fun p:Nat=>bn (p:Int) s))(hs:0<s)(h2:(aS s).length<=10000)(ao:(aS ps.sum).length<=10000)(ap:ps.length<=1000):
 Fn (aT Q g0) 76 [.slice b ps.length c] [] J (ur J (bn (ps.sum:Int) s)):=by
 have ly:addrEq b b=true:=h.addr;obtain⟨pb,db⟩:=h.at;rw[eP] at db;have ri:bn ((0:Nat):Int) s=⟨0,1⟩:=pr hs;refine Fn.b8 (b7 Tryz.func76) rfl rfl fun H=>?_;refine rg ?_;refine gn fun bc=>?_;refine Yg ?_;refine gn fun cu=>?_;refine aa 0xd5f0128738 ?_;refine c8 [(8,.int .i64 ((0):Int)),(2,_),(3,_),(6,_),(7,_)] ?_;refine a' ?_;refine' aB.bA (fun(bE:Nat×Value×Value×af)=>match bE with|(i,bt,cv,cb)=>⟨[(8,.int .i64 (i:Int))],[(cu,.row [.bool false,bt,cv] 82),(bc,.row [.bool false,.slice none 0 0,.slice none 0 0] 82)],cb,i<=ps.length/\J.le cb/\h8 cb (bn (((ps.take i).sum:Nat):Int) s) bt cv,ps.length -i⟩) ⟨0,.slice none 0 0,.slice none 0 0,J⟩ ?hs ?bb
 case hs=>exact⟨df _,af.le.refl _,by rw[fq,S4,ri];exact⟨cp.nil,cp.nil⟩⟩
 case bb=>
  rintro⟨i,bt,cv,cb⟩ hinv;try simp only at hinv
  obtain⟨ak,bS,b3⟩:=hinv;have yg:=b3;obtain⟨cB,eD,cN,rfl,bJ,_,_⟩:=b3.n.cA;obtain⟨ep,gA,e',rfl,dU,_,_⟩:=b3.d.cA;refine aa 0xbe099 ?_;refine If (fun eI=>?_) fun eI=>?_
  ·obtain⟨a,off,cells,bC,rfl,ke,fN⟩:=db I;obtain⟨r,cs,aq,hZ,q8,v1,v2,rfl,dq⟩:=fN i I I;rw[h9,j6] at aq;obtain⟨p,tv,rfl⟩:=vL.1 aq;have ke:=bS _ _ ke;have nb:=dq.mono bS;obtain⟨bs,d',bp,rfl,aK,_,_⟩:=dq.n.cA;obtain⟨bM,ej,bN,rfl,aH,_,_⟩:=dq.d.cA;have dn:=RI tv;have n1:=Lk (l:=ps) (i:=i+1);have jh:=zZ (n:=(ps.take i).sum) hs (dA (ki Lk) ao) h2;have nx:=zZ (n:=p) hs (dA (ki (show p<=ps.sum by omega)) ao) h2;have HO:=yN (X:=(ps.take i).sum) hs;have Se:=yN (X:=p) hs;have Sf:=yN (X:=(ps.take (i+1)).sum) hs;have Sg:=ama (X:=(((ps.take i).sum:Nat):Int)) (Y:=(p:Int)) hs;rw[<-xN,<-dn] at Sg;refine aa 0x30d9d5f57 ?_;refine gn fun cI=>?_;refine aa 0xc6671c ?_;refine br (G:=aco (by rw[gL HO]) rfl yg nb (ml hs) (ml hs) jh nx I I) (h:=?_);rintro v' m' bi aM ⟨_,rfl,en,fR,rfl,cg⟩;rw[Sg] at cg;have nS:=cg;obtain⟨fw,jO,gz,rfl,fP,_,_⟩:=cg.n.cA;obtain⟨fi,gm,eu,rfl,je,_,_⟩:=cg.d.cA;rw[Sg];refine aa 0x31c ?_;rw[gL Sf];refine aa 0xc0479 ?_;refine eH ⟨i+1,.slice fw jO gz,.slice fi gm eu,bi⟩ ?_ (hm:=.cons _ (.refl _));exact⟨I,bS.trans aM,nS⟩
  ·obtain rfl:i=ps.length:=I
   rw[sO] at yg;have HO:=yN (X:=ps.sum) hs;refine aa 0xd5f1c66757 ?_;refine bo ?_;exact⟨bS,rfl,_,_,by rw[show eC (bn (ps.sum:Int) s) (.slice cB eD cN) (.slice ep gA e')=.agg #[.bool (decide ((bn (ps.sum:Int) s).z<0)),.slice cB eD cN,.slice ep gA e'] from rfl,gL HO];rfl,yg⟩
end
theorem GH:∀{l:List Nat} {x:Nat},x∈l->x<=l.sum
 |a::l,x,h=>by
  rw[qD];rcases fU.1 h with rfl|h
  ·omega
  ·have:=GH h;omega
section
variable {Q:cZ Tryz.prog}{g0:Nat}{J:af}
end
def ms:List Nat:=[0,1,56,2,57,49,28,3,61,58,42,50,38,29,17,4,62,47,59,36,45,43,51,22,53,39,33,30,24,18,12,5,63,55,48,27,60,41,37,16,46,35,44,21,52,32,23,11,54,26,40,15,34,20,31,10,25,14,19,9,13,8,7,6]
theorem RQ:∀{x:Nat},x≠0->∃k o,x=2 ^ k*o/\o % 2=1:=by
 intro x;induction x using Nat.strongRecOn with
 |_ x aP=>
  intro h;rcases Mb x with q|q
  ·obtain⟨k,o,ab,ad⟩:=aP (x / 2) I I
   refine⟨k+1,o,?_,ad⟩;rw[ff,dp (2 ^ k) 2,e4,<-ab];omega
  ·exact⟨0,x,by rw[zu,h'],q⟩
theorem Hz{x k o:Nat}(he:x=2 ^ k*o)(ah:o % 2=1)(U:x<18446744073709551616):k<64/\o<18446744073709551616:=by
 have ab:1<=o:=I
 have ad:2 ^ k*1<=2 ^ k*o:=hf _ ab;have aL:1*o<=2 ^ k*o:=eK _ (lh k);refine⟨?_,I⟩;apply Ta
 intro q;have:2 ^ 64<=2 ^ k:=nE bm q;omega
theorem alm{x k o:Nat}(he:x=2 ^ k*o)(ah:o % 2=1)(U:x<18446744073709551616):x &&& (18446744073709551616 -x)=2 ^ k:=by
 obtain⟨hk,JT⟩:=Hz he ah U;have hs:2 ^ (64 -k)*2 ^ k=18446744073709551616:=vR I;have ia:o<2 ^ (64 -k):=Ec (a:=2 ^ k) (by rw[hs,dp,<-he];exact U);have aR:18446744073709551616 -x=(2 ^ (64 -k) -o)*2 ^ k:=by rw[Tf,hs,he,dp o]
 have aw:o &&& (2 ^ (64 -k) -o)=1:=by
  refine abO fun i=>?_;rw[Nat.testBit_and];obtain⟨m,hm⟩:∃m,o=2*m+1:=⟨o / 2,I⟩;have ab:=Nat.testBit_two_pow_sub_succ (x:=2*m) (n:=64 -k) I i;rw[show 2*m+1=o from hm.symm] at ab;rw[ab];cases i with
  |zero=>
   have ad:Nat.testBit (2*m) 0=false:=by rw[Nat.testBit_zero];simp
   have aL:Nat.testBit o 0=true:=by rw[Nat.testBit_zero,ah];rfl
   rw[ad,aL];have:0<64 -k:=I
   simp[this]
  |succ i=>
   have ad:Nat.testBit (2*m) (i+1)=Nat.testBit o (i+1):=by
        rw[Tg,Tg];congr 1
        omega
   rw[ad,Tg 1];show(Nat.testBit o (i+1)&&(_&&!Nat.testBit o (i+1)))=Nat.testBit 0 i;rw[Nat.zero_testBit];cases Nat.testBit o (i+1)<;>simp
 have cf:x=o*2 ^ k:=by rw[he,dp]
 rw[aR];conv=>lhs;rw[cf]
 rw[<-Te,<-Te,<-Nat.shiftLeft_and_distrib,aw,Te,h']
def Kf(k:Nat):Nat:=(2 ^ k*285870213051353865 % 18446744073709551616) / 288230376151711744
theorem akw:∀k,k<64->Kf k<64/\ms[Kf k]?=some k:=by decide+kernel
theorem acE{a b:Nat}(aF:a<18446744073709551616)(ai:b<18446744073709551616):IntKind.u64.wrap ((BitVec.ofInt IntKind.u64.bits (a:Int) &&& BitVec.ofInt IntKind.u64.bits (b:Int)).toNat:Int)=((a &&& b:Nat):Int):=by
 have e:(BitVec.ofInt 64 (a:Int) &&& BitVec.ofInt 64 (b:Int)).toNat=a &&& b:=by
  rw[BitVec.toNat_and];have ab:(BitVec.ofInt 64 (a:Int)).toNat=a:=by rw[BitVec.toNat_ofInt];omega
  have ad:(BitVec.ofInt 64 (b:Int)).toNat=b:=by rw[BitVec.toNat_ofInt];omega
  rw[ab,ad]
 show IntKind.u64.wrap ((BitVec.ofInt 64 (a:Int) &&& BitVec.ofInt 64 (b:Int)).toNat:Int)=_;rw[e];exact R8 (nC Nat.and_le_left aF)
theorem alZ{x:Nat}(aN:x≠0)(h:x<18446744073709551616):IntKind.u64.wrap (-(x:Int))=((18446744073709551616 -x:Nat):Int):=by
 rw[R7];omega
theorem ao1{x:Nat}:(x:Int).fdiv (2 ^ ((58:Int).toNat))=((x / 288230376151711744:Nat):Int):=Ht (q:=58)
theorem KN{a k:Nat}(aF:a % 2=1):Nat.Coprime a (2 ^ k):=Nat.Coprime.pow_right _ (by
 show Nat.gcd a 2=1;rw[oj,zq,aF];rfl)
theorem KM{d a:Nat}(h:d ∣ a)(aF:a % 2=1):d % 2=1:=by
 obtain⟨c,rfl⟩:=h;rcases Mb d with k|k
 ·rw[Nat.mul_mod,k,jA] at aF;cases aF
 ·exact k
theorem agJ{a b k o:Nat}(aF:a % 2=1)(he:b=2 ^ k*o):Nat.gcd a o=Nat.gcd a b:=by
 rw[he];exact(Nat.Coprime.gcd_mul_left_cancel_right _ (KN (k:=k) aF).symm).symm
theorem agH{x y aT er t o:Nat}(wU:x=2 ^ aT*er)(Av:er % 2=1)(he:x ||| y=2 ^ t*o)(ah:o % 2=1):Nat.gcd x y=Nat.gcd er y*2 ^ t:=by
 have hm:∀k,2 ^ k ∣ x ||| y↔2 ^ k ∣ x/\2 ^ k ∣ y:=fun k=>by
  rw[S8,Nat.or_mod_two_pow,Nat.or_eq_zero_iff,<-S8,<-S8]
 obtain⟨⟨dv,gb⟩,⟨mv,yz⟩⟩:=(hm t).1 ⟨o,he⟩;have ai6:dv % 2=1\/mv % 2=1:=by
  rcases Mb dv with k|k
  ·rcases Mb mv with j|j
   ·exfalso
    obtain⟨c,aD⟩:=abN k;obtain⟨d,al⟩:=abN j;obtain⟨w,hw⟩:=(hm (t+1)).2 ⟨⟨c,by rw[gb,aD,ff,e4]⟩,⟨d,by rw[yz,al,ff,e4]⟩⟩;rw[he,ff,e4] at hw;have:=Nat.eq_of_mul_eq_mul_left (um bm) hw;omega
   ·exact .inr j
  ·exact .inl k
 have wG:Nat.gcd dv mv % 2=1:=by
  rcases ai6 with k|k
  ·exact KM (kG _ _) k
  ·exact KM (m0 _ _) k
 have ab:Nat.gcd x y=2 ^ t*Nat.gcd dv mv:=by rw[gb,yz,Nat.gcd_mul_left]
 have ad:Nat.gcd er y=Nat.gcd dv mv:=by
  refine L8 (D' ?_ ?_) (D' ?_ ?_)
  ·have aU:=KM (kG er y) Av
   have aQ:Nat.gcd er y ∣ 2 ^ t*dv:=by rw[<-gb];exact Ir (kG _ _) ⟨2 ^ aT,by rw[dp];exact wU⟩
   exact(KN aU).dvd_of_dvd_mul_left aQ
  ·have aU:=KM (kG er y) Av
   have aQ:Nat.gcd er y ∣ 2 ^ t*mv:=by rw[<-yz];exact m0 _ _
   exact(KN aU).dvd_of_dvd_mul_left aQ
  ·have aQ:Nat.gcd dv mv ∣ 2 ^ aT*er:=by rw[<-wU,gb];exact Ir (kG _ _) ⟨2 ^ t,dp _ _⟩
   exact(KN wG).dvd_of_dvd_mul_left aQ
  ·rw[yz];exact Ir (m0 _ _) ⟨2 ^ t,dp _ _⟩
 rw[ab,ad,dp]
section
variable {Q:cZ Tryz.prog}{g0:Nat}{J:af}
theorem RR{x k o:Nat}{e:TypeId}(b1:J 2=some (bW .u8 ms,e))(ax:Nat.blt 2 (aT Q g0).g0=true)(he:x=2 ^ k*o)(ah:o % 2=1)(U:x<18446744073709551616):Fn (aT Q g0) 160 [.int .u64 (x:Int)] [] J (fun u m' ae=>u=.int .i64 ((k:Nat):Int)/\m'=[]/\J=ae):=by
 obtain⟨hk,_⟩:=Hz he ah U;have jw:x≠0:=by rw[he];exact Nat.mul_ne_zero (jl (lh k)) I
 obtain⟨ab,ad⟩:=akw k hk;have ap:=alm he ah U;have az:nth (bW .u8 ms) (0+((Kf k:Nat):Int).toNat*1)=some (.int .u8 ((k:Nat):Int)):=qk ad I;refine Fn.b8 (b7 Tryz.func160) rfl rfl fun H=>?_;refine aa 0xbe081ce059 ?_;refine If (fun e'=>?_) fun e'=>?_
 ·exfalso;omega
 ·refine aa 0x10e757 ?_;refine' W.step rfl (Exec.val rfl rfl (xC rfl rfl ?hw) ?_);case hw=>exact alZ jw U
  refine eT V.o3 ?_;rw[acE U I,ap];refine eT V.hI ?_;rw[show((2 ^ k:Nat):Int)*285870213051353865=((2 ^ k*285870213051353865:Nat):Int) by rw[hc];rfl,LC];refine eT V.o3 ?_;rw[ao1,show 2 ^ k*285870213051353865 % 18446744073709551616 / 288230376151711744=Kf k from rfl];refine' W.step rfl (Exec.val rfl rfl (aqI rfl ?ax ?gD rfl (Z9 rfl) ?aN ?ab) ?_);case gD=>assumption
  case ax=>assumption
  case aN=>exact cC
  case ab=>exact cC
  refine aa 0x357c09c9 ?_;refine bo ?_;exact⟨rfl,rfl,rfl⟩
theorem IN{x y:Nat}{e:TypeId}(b1:J 2=some (bW .u8 ms,e))(ax:Nat.blt 2 (aT Q g0).g0=true)(U:x<18446744073709551616)(au:y<18446744073709551616):Fn (aT Q g0) 136 [.int .u64 (x:Int),.int .u64 (y:Int)] [] J (fun u m' ae=>u=.int .u64 (Nat.gcd x y:Nat)/\m'=[]/\J=ae):=by
 refine Fn.b8 (b7 Tryz.func136) rfl rfl fun H=>?_;refine aa 0xbe081ce059 ?_;refine If (fun fB=>?_) fun fB=>?_
 ·have di:x=0:=I
  have Gk:Nat.gcd x y=y:=by rw[di,L9]
  refine aa 0x357c0839 ?_;refine bo ?_;first
   |(have c:=fB;exact⟨by rw[Gk];rfl,rfl,rfl⟩)
   |exact⟨by rw[Cx];rfl,rfl,rfl⟩
 ·have di:x≠0:=I
  refine aa 0x5f040e757 ?_;refine If (fun b2=>?_) fun b2=>?_
  ·have eN:y=0:=I
   have pk:Nat.gcd x y=x:=by rw[eN,zr]
   refine aa 0x357c0839 ?_;refine bo ?_;first
    |(have c:=fB;exact⟨by rw[Gk];rfl,rfl,rfl⟩)
    |(have c:=b2;exact⟨by rw[pk];rfl,rfl,rfl⟩)
    |exact⟨by rw[Cx];rfl,rfl,rfl⟩
  ·have eN:y≠0:=I
   have V6:x ||| y<18446744073709551616:=Mf (n:=64) U au
   obtain⟨t,o,PC,u0⟩:=RQ (x:=x ||| y) (fun q=>di (Nat.or_eq_zero_iff.1 q).1);obtain⟨akK,er,wU,Av⟩:=RQ di;have iW:=agH wU Av PC u0;obtain⟨auO,_⟩:=Hz PC u0 V6;obtain⟨au2,arA⟩:=Hz wU Av U;have wF:Nat.gcd x y<=x:=It (uk di) (kG _ _);have PA:x / 2 ^ akK=er:=by rw[wU,vJ _ (lh _)]
   refine aa 0x2810e757 ?_;rw[He U au];refine br (G:=RR b1 ax PC u0 V6) (h:=?_);rintro v' m' ae hle ⟨rfl,rfl,rfl⟩;refine aa 0x10e702 ?_;refine br (G:=RR b1 ax wU Av U) (h:=?_);rintro v' m' ae hle ⟨rfl,rfl,rfl⟩;refine aa 0x6054 ?_;rw[xu,PA];refine aa 0x357 ?_;refine c8 [(0,.int .u64 ((er):Int)),(1,.int .u64 ((y):Int)),(5,_)] ?_;refine a' ?_;refine' aB.ja (fun(bE:Nat×Nat)=>match bE with|(a,b)=>⟨[(0,.int .u64 (a:Int)),(1,.int .u64 (b:Int))],a % 2=1/\a<18446744073709551616/\b<18446744073709551616/\Nat.gcd a b=Nat.gcd er y,a+b⟩) ⟨er,y⟩ ?hs ?bb
   case hs=>exact⟨Av,arA,au,rfl⟩
   case bb=>
    rintro⟨a,b⟩ hinv;try simp only at hinv
    obtain⟨aF,ym,iP,iV⟩:=hinv;refine aa 0x17c1039 ?_;refine If (fun j'=>?_) fun j'=>?_
    ·have fZ:b≠0:=I
     obtain⟨aky,jd,JC,Ow⟩:=RQ fZ;obtain⟨IP,asp⟩:=Hz JC Ow iP;have Pv:b / 2 ^ aky=jd:=by rw[JC,vJ _ (lh _)]
     have atz:jd<=b:=by rw[<-Pv];exact qE _ _
     have JF:Nat.gcd a jd=Nat.gcd er y:=by rw[agJ aF JC];exact iV
     have jJ:jd<=a->Nat.gcd jd (a -jd)=Nat.gcd er y:=fun h=>by
        rw[abQ h,oj];exact JF
     have mH:a<=jd->Nat.gcd a (jd -a)=Nat.gcd er y:=fun h=>by
        rw[abQ h];exact JF
     refine aa 0x439d5f57 ?_;refine br (G:=RR b1 ax JC Ow iP) (h:=?_);rintro v' m' ae hle ⟨rfl,rfl,rfl⟩;refine aa 0x6054 ?_;rw[xu,Pv];refine aa 0x2f820439 ?_;refine If (fun MM=>?_) fun MM=>?_
     ·refine aa 0xc08610e70210439 ?_;refine jf ⟨jd,a -jd⟩ ?_;exact⟨Ow,I,I,jJ I⟩
     ·refine aa 0xc08610e757 ?_;refine jf ⟨a,jd -a⟩ ?_;exact⟨aF,I,I,mH I⟩
    ·have fZ:b=0:=I
     have Cx:IntKind.u64.wrap ((a:Int)*2 ^ ((t:Int)).toNat)=((Nat.gcd x y:Nat):Int):=by
        rw[fZ,zr] at iV;rw[y5,iW,iV,<-iW,nD I]
     refine aa 0x357c0a810e757 ?_;refine bo ?_;first
        |(have c:=fB;exact⟨by rw[Gk];rfl,rfl,rfl⟩)
        |(have c:=b2;exact⟨by rw[pk];rfl,rfl,rfl⟩)
        |exact⟨by rw[Cx];rfl,rfl,rfl⟩
end
end
end Go.Opn
namespace Go.Opn
noncomputable section
theorem aaF:∀{l:List Nat},(∀j y:Nat,l[j]?=some y->y=0)->aI l=0
 |[],_=>rfl
 |x::l,h=>by
  show x+1000000000*aI l=0
  rw[h 0 x rfl,aaF (l:=l) fun j y aY=>h (j+1) y aY]
theorem Bb{l:List Nat}{k:Nat}(ah:dG l)(hk:k<=l.length)(aG:∀j y,k<=j->l[j]?=some y->y=0)(az:∀y,0<k->l[k -1]?=some y->y≠0):l.take k=ag (aI l):=by
 have ab:jy (l.take k):=⟨vi ah,fun x U=>by
  have ao:0<k:=by
   rcases il k with q|q
   ·rw[q] at U;cases U
   ·exact q
  refine az x ao ?_
  rw[sM,dY,fV hk,iH,a2 I] at U
  exact U⟩
 have ad:=zb l k hk
 rw[aaF (l:=l.drop k) fun j y aY=>by
  rw[oX] at aY
  exact aG (k+j) y I aY] at ad
 rw[qP ab,ad]
 congr 1
theorem kZ{x:Nat}:∀{k:Nat},x<1000000000 ^ k->(ag x).length<=k:=by
 intro k
 induction k generalizing x with
 |zero=>
  intro h
  have:x=0:=by rw[zu] at h;omega
  rw[this,nl];exact bF _
 |succ k aP=>
  intro h
  by_cases q:x=0
  ·rw[q,nl];exact df _
  ·rw[sg q,lc]
   have:x / 1000000000<1000000000 ^ k:=by
        rw[mB bm,<-ff];exact h
   have:=aP this
   omega
theorem n6{x k:Nat}(h:(ag x).length<=k):x<1000000000 ^ k:=by
 have ab:=lB (hx x)
 rw[e1] at ab
 exact hA ab (nE bm h)
theorem tG{x:Nat}(h:x≠0):(ag x).length≠0:=by rw[sg h,lc];omega
theorem oE{x:Nat}(h:(ag x).length≠0):x≠0:=fun q=>by rw[q,nl] at h;exact h rfl
theorem va{x y:Nat}(h:(ag x).length<(ag y).length):x<y:=by
 have:=aaI (hx x) (zI y) h
 rwa [e1,e1] at this
theorem Dd{x y i a b:Nat}(aF:(ag x)[i]?=some a)(ai:(ag y)[i]?=some b)(al:(ag x).drop (i+1)=(ag y).drop (i+1))(h:a<b):x<y:=by
 have:=aq1 (hx x) aF ai al h
 rwa [e1,e1] at this
theorem vu(l:List Nat)(i:Nat):aI (l.take (i+1))=aI (l.take i)+1000000000 ^ i*l.getD i 0:=by
 by_cases h:i<l.length
 ·rw[lC (dX h),gI,dX h];rfl
 ·rw[gI,oe I,cM I,cM I];rfl
theorem HF(l:List Nat)(x:Nat):aI (l++[x])=aI l+1000000000 ^ l.length*x:=by rw[tW,Ls]
theorem td{l:List Nat}(h:dG l)(i:Nat):l.getD i 0<1000000000:=by
 rw[gI]
 rcases q:l[i]? with _|x
 ·decide
 ·exact pv h q
theorem DN{l:List Nat}{i:Nat}(h:l.length<=i):aI (l.take i)=aI l:=by rw[cM h]
theorem KQ:dG []:=fun z aG=>(by cases aG)
theorem aaG{z:List Nat}{i y:Nat}(h:i<z.length):aI ((z.set i y).take (i+1))=aI (z.take i)+1000000000 ^ i*y:=by
 rw[lC (x:=y) (by rw[mz,a2 rfl,a2 h]),Im (bF i)]
theorem adC(i s:Nat):1000000000 ^ i*s=1000000000 ^ i*(s % 1000000000)+1000000000 ^ (i+1)*(s / 1000000000):=by
 conv=>lhs;rw[<-xS s 1000000000]
 rw[cH,ff,e4]
theorem aoZ{x z:List Nat}{i r a d:Nat}(ak:i<z.length)(aF:x[i]?=some a)(h:aI (x.drop (i+1))=d*aI (z.drop (i+1))+r):
 aI (x.drop i)=d*aI ((z.set i ((r*1000000000+a) / d)).drop i)+(r*1000000000+a) % d:=by
 rw[vt aF,vt (l:=z.set i _) (i:=i) (x:=(r*1000000000+a) / d) (by rw[mz,a2 rfl,a2 ak]),BI I,h]
 have e:=lI (r*1000000000+a) d
 rw[cH,cH]
 have aR:1000000000*(d*aI (z.drop (i+1)))=d*(1000000000*aI (z.drop (i+1))):=rJ _ _ _
 omega
theorem aqZ{l:List Nat}{n:Nat}(bu:dG l)(ap:n<=l.length)(h:aI l<1000000000 ^ n):aI (l.take n)=aI l/\aI (l.drop n)=0:=by
 have e:=zb l n ap
 have aG:aI (l.drop n)=0:=by
  rcases il (aI (l.drop n)) with k|k
  ·exact k
  ·have:=hf (1000000000 ^ n) k
   omega
 rw[aG] at e
 exact⟨I,aG⟩
theorem aro{A W C:List Nat}{n gw:Nat}(bu:dG (A++W++C))(gE:W.length=n+1)(ar:gw<1000000000 ^ n)(al:aI ((A++W++C).drop (A.length+1))<gw):
 aI W<1000000000*gw/\aI C=0/\dG W:=by
 rw[my,LZ,oW I,kE,L5] at al
 match W,gE with
 |w0::zx,gE=>
  have gE:zx.length=n:=by simpa using gE
  rw[BH,SL,g5,tW,gE] at al
  have nn:dG (w0::zx):=fun x U=>bu x (og _ (iI _ U))
  have aN:=nn w0 (.head _)
  have gP:aI C=0:=by
   rcases il (aI C) with k|k
   ·exact k
   ·have:=hf (1000000000 ^ n) k
    omega
  rw[gP,jk,ik] at al
  refine⟨?_,gP,nn⟩
  show w0+1000000000*aI zx<_
  omega
theorem arq{A W nH C:List Nat}{n gw T q R:Nat}(gE:W.length=n)(Of:nH.length=n)(gP:aI C=0)(e:aI nH=aI W % gw)(bI:q=aI W / gw)(h:T=aI (A++W++C)+1000000000 ^ (A.length+1)*R):
 T=aI (A++nH++C)+1000000000 ^ A.length*(gw*q+1000000000*R):=by
 rw[h,tW,tW,tW,tW,gP,jk,jk,ik,ik,e,bI]
 have ab:=lI (aI W) gw
 have ad:1000000000 ^ A.length*aI W=1000000000 ^ A.length*(gw*(aI W / gw))+1000000000 ^ A.length*(aI W % gw):=by rw[<-cH,ab]
 rw[ad,cH,ff,e4 _ 1000000000 R]
 omega
theorem aq0{q:List Nat}{j y:Nat}(h:j<q.length):aI ((q.set j y).drop j)=y+1000000000*aI (q.drop (j+1)):=by
 rw[vt (x:=y) (by rw[mz,a2 rfl,a2 h]),BI I]
theorem akI{W vs:List Nat}{n bU u1 bq v1 v0:Nat}(gE:W.length=n+3)(ar:vs.length=n+2)(amu:dG W)(oI:dG vs)(ad:W[n+2]?=some bU)(ab:W[n+1]?=some u1)(aN:W[n]?=some bq)(aU:vs[n+1]?=some v1)(jM:vs[n]?=some v0):
 ui 1000000000 (1000000000 ^ n) (aI W) (aI vs) bU u1 bq v1 v0:=by
 have aw:=lC ad
 rw[cM (show W.length<=n+2+1 by omega),lC ab,lC aN] at aw
 have aR:=lC aU
 rw[cM (show vs.length<=n+1+1 by omega),lC jM] at aR
 have dL:=lB (vi (i:=n) amu)
 have du:=lB (vi (i:=n) oI)
 rw[dY,fV I] at dL du
 refine⟨⟨_,?_,dL⟩,⟨_,?_,du⟩⟩
 ·rw[aw,ff 1000000000 (n+1),ff 1000000000 n]
  obtain⟨p,ao⟩:∃p,p=1000000000 ^ n:=⟨_,rfl⟩
  rw[<-ao,cR,cR,cR]
  have a7:p*1000000000*1000000000*bU=bU*1000000000*1000000000*p:=by ac_rfl
  have bc:p*1000000000*u1=u1*1000000000*p:=by ac_rfl
  have cu:p*bq=bq*p:=dp _ _
  rw[a7,bc,cu]
  omega
 ·rw[aR,ff 1000000000 n]
  obtain⟨p,ao⟩:∃p,p=1000000000 ^ n:=⟨_,rfl⟩
  rw[<-ao,cR]
  have bc:p*1000000000*v1=v1*1000000000*p:=by ac_rfl
  have cu:p*v0=v0*p:=dp _ _
  rw[bc,cu]
  omega
end
end Go.Opn
namespace Go.Opn
noncomputable section
open Go.Cre Go.RowKit Go.Proofs
abbrev sU(J:af)(x:Nat):Value->aO->af->Prop:=fun u m' ae=>J.le ae/\m'=[]/\cD ae u x
theorem cD.at{J:af}{b:Option Addr}{n c x:Nat}(h:cD J (.slice b n c) x)(ao:x≠0):∃a off cells e,b=some ⟨a,off,none⟩/\J a=some (cells,e)/\∀i:Nat,i<(ag x).length->∃y,(ag x)[i]?=some y/\nth cells (off+i*1)=some (.int .u32 (y:Int))/\y<1000000000:=by
 have ap:0<(ag x).length:=by have:=tG ao;omega
 obtain⟨a,off,cells,e,ab,ad,aL⟩:=cJ.at (k:=.u32) (l:=ag x) h ap;exact⟨a,off,cells,e,ab,ad,fun i ak=>by obtain⟨y,aU,aQ⟩:=aL i ak;exact⟨y,aU,aQ,pv (hx x) aU⟩⟩
theorem cD.row{J:af}{a n cap x:Nat}{l:List Nat}{e:TypeId}(az:l.take n=ag x)(ap:n<=l.length)(aD:n<=cap)(gQ:cap<cG)(h:J a=some (bW .u32 l,e)):cD J (.slice (some ⟨a,0,none⟩) n cap) x:=by
 have:=cJ.row (k:=.u32) ap aD gQ h;rw[az] at this;exact this
theorem cD.nil{J:af}:cD J (.slice none 0 0) 0:=by unfold cD;rw[nl];exact cJ.nil
theorem sf{x:Nat}(aN:x≠0)(h:x<1000000000):ag x=[x]:=by
 rw[sg aN,nD h,rG h,nl]
theorem Qd{x:Nat}(h:(ag x).length=1):ag x=[x]/\x<1000000000/\x≠0:=by
 have ab:x<1000000000:=by have:=n6 (x:=x) (k:=1) (Nat.le_of_eq h);rwa [BO] at this
 have aN:x≠0:=oE I;exact⟨sf aN ab,ab,aN⟩
theorem w2{x y:Nat}(h:x<=y):(ag x).length<=(ag y).length:=by
 apply qF
 intro q;have:=va q;omega
theorem Hn{l:List Nat}{i:Nat}(ah:dG l)(h:i<l.length):∃u,l[i]?=some u/\u<1000000000:=⟨_,dX h,pv ah (dX h)⟩
theorem ak'{n c:Nat}{out:List Nat}(aD:c≠0)(h:out++ag c=ag n):out++[c % 1000000000]++ag (c / 1000000000)=ag n:=by
 rw[my,abE,<-sg aD];exact h
section
variable {Q:cZ Tryz.prog}{g0:Nat}{J:af}
theorem Qh{v:Value}{x:Nat}(h:cD J v x)(ai:(ag x).length<=100000):Fn (aT Q g0) 137 [v] [] J (fun u m' ae=>u=.bool (decide (x=1))/\m'=[]/\J=ae):=by
 obtain⟨b,c,rfl,ly⟩:=h.bQ;refine Fn.b8 (b7 Tryz.func137) rfl rfl fun H=>?_;refine aa 0x90a1ce059 ?_;refine fs 6 (fun iU=>?_) fun iU=>?_
 ·obtain⟨aw,aR,cf⟩:=Qd (x:=x) I;obtain⟨a,off,cells,e,rfl,gD,ar⟩:=h.at cf;obtain⟨y,au,ar,_⟩:=ar 0 I;rw[aw] at au;obtain rfl:x=y:=sS au;refine aa 0x1abe048224c1 ?_;refine mx ?_;first
   |(have c:=iU
     exact⟨b6 Value.bool (by first|(by_cases q:x=1<;>simp[q]<;>omega)|(have q:x≠1:=fun q=>c (by rw[q,sf bm bm];rfl);simp[q])),rfl,rfl⟩)
 ·refine aa 0x1abe048def7b ?_;refine mx ?_;first
   |(have c:=iU
     exact⟨b6 Value.bool (by first|(by_cases q:x=1<;>simp[q]<;>omega)|(have q:x≠1:=fun q=>c (by rw[q,sf bm bm];rfl);simp[q])),rfl,rfl⟩)
theorem W5{v w:Value}{x y:Nat}(ab:cD J v x)(ad:cD J w y)(U:(ag x).length<=100000)(au:(ag y).length<=100000):Fn (aT Q g0) 138 [v,w] [] J (fun u m' ae=>u=.int .i64 (iN x y)/\m'=[]/\J=ae):=by
 obtain⟨bs,bp,rfl,aK⟩:=ab.bQ;obtain⟨bM,bN,rfl,aH⟩:=ad.bQ;refine Fn.b8 (b7 Tryz.func138) rfl rfl fun H=>?_;refine aa 0x5f04284a1ce059 ?_;refine If (fun b2=>?_) fun b2=>?_
 ·refine aa 0xbe08509439 ?_;refine If (fun dR=>?_) fun dR=>?_
  ·refine aa 0x1abe059 ?_;refine mx ?_;first
    |(have c:=dR;exact⟨by rw[o4 (va I)];rfl,rfl,rfl⟩)
    |(have c:=dR;exact⟨by rw[s6 (va I)];rfl,rfl,rfl⟩)
    |exact⟨by
      obtain rfl:k=0:=I
      rw[nM (show x=y by rw[<-e1 x,<-e1 y];exact b6 aI al)];rfl,rfl,rfl⟩
  ·refine aa 0x6af816757 ?_;refine mx ?_;first
    |(have c:=dR;exact⟨by rw[o4 (va I)];rfl,rfl,rfl⟩)
    |(have c:=dR;exact⟨by rw[s6 (va I)];rfl,rfl,rfl⟩)
    |exact⟨by
      obtain rfl:k=0:=I
      rw[nM (show x=y by rw[<-e1 x,<-e1 y];exact b6 aI al)];rfl,rfl,rfl⟩
 ·refine aa 0x357c08650e757 ?_;refine c8 [(5,.int .i64 ((((ag x).length):Int) -1)),(0,_),(1,_)] ?_;refine a' ?_;refine' aB.ja (fun(k:Nat)=>⟨[(5,.int .i64 ((k:Int) -1))],k<=(ag x).length/\(ag x).drop k=(ag y).drop k,k⟩) ((ag x).length) ?hs ?bb;case hs=>exact⟨bF _,by rw[sL I,sL I]⟩
  case bb=>
   rintro k hinv;try simp only at hinv
   obtain⟨hk,al⟩:=hinv;refine aa 0x17c1039 ?_;refine If (fun hM=>?_) fun hM=>?_
   ·obtain⟨a,o,br,e,rfl,gD,ar⟩:=ab.at (oE I);obtain⟨bO,o',x4,bC,rfl,yi,p'⟩:=ad.at (oE I);obtain⟨p,ao,ha,_⟩:=ar (k -1) I;obtain⟨q,bI,pc,_⟩:=p' (k -1) I;have ha:nth br (o+((k:Int) -1).toNat*1)=some (.int .u32 (p:Int)):=by rw[show((k:Int) -1).toNat=k -1 by omega];exact ha
    have pc:nth x4 (o'+((k:Int) -1).toNat*1)=some (.int .u32 (q:Int)):=by rw[show((k:Int) -1).toNat=k -1 by omega];exact pc
    refine aa 0x17d5f57 ?_;refine aB.draw rfl (by kernel_rfl) (aX:=[.val 0,.val 1,.val 2,.val 3,.val 4,.val 5,.val 6,.val 7,.val 8]) (by kernel_rfl) ?_;refine aa 0x5f044982149821 ?_;refine If (fun mC=>?_) fun mC=>?_
    ·refine aa 0x1abe059 ?_;refine mx ?_;first
       |(have c:=mC;exact⟨by rw[o4 (Dd ao bI (by rw[show k -1+1=k by omega];exact al) I)];rfl,rfl,rfl⟩)
       |exact⟨by
         obtain rfl:k=0:=I
         rw[nM (show x=y by rw[<-e1 x,<-e1 y];exact b6 aI al)];rfl,rfl,rfl⟩
    ·refine aa 0x5f57 ?_;refine aB.draw rfl (by kernel_rfl) (aX:=[.val 0,.val 1,.val 2,.val 3,.val 4,.val 5,.val 6,.val 7,.val 8]) (by kernel_rfl) ?_;refine aa 0x5f044982149821 ?_;refine If (fun s4=>?_) fun s4=>?_
     ·refine aa 0x1abe059 ?_;refine mx ?_;first
       |(have c:=mC;exact⟨by rw[o4 (Dd ao bI (by rw[show k -1+1=k by omega];exact al) I)];rfl,rfl,rfl⟩)
       |(have c:=s4;exact⟨by rw[s6 (Dd bI ao (by rw[show k -1+1=k by omega];exact al.symm) I)];rfl,rfl,rfl⟩)
       |exact⟨by
         obtain rfl:k=0:=I
         rw[nM (show x=y by rw[<-e1 x,<-e1 y];exact b6 aI al)];rfl,rfl,rfl⟩
     ·refine aa 0x60430e757 ?_;refine jf (k -1) ?_;exact⟨I,by rw[drop_cons (i:=k -1) ao,drop_cons (i:=k -1) bI,show k -1+1=k by omega,al];congr 1;omega⟩
   ·refine aa 0x6af816757 ?_;refine mx ?_;first
     |exact⟨by
       obtain rfl:k=0:=I
       rw[nM (show x=y by rw[<-e1 x,<-e1 y];exact b6 aI al)];rfl,rfl,rfl⟩
theorem Ko{a n cap:Nat}{l:List Nat}(ah:dG l)(az:n<=l.length)(aD:n<=cap)(gQ:cap<1000000):
 Fn (aT Q g0) 166 [.slice (some ⟨a,0,none⟩) n cap] [et .u32 96 a l] J (fun u m' ae=>∃k,u=.slice (some ⟨a,0,none⟩) k cap/\k<=n/\l.take k=ag (aI (l.take n))/\m'=[et .u32 96 a l]/\J=ae):=by
 have ai5:cap<cG:=jD gQ;have pb:(l.take n).length=n:=by rw[dY];omega
 have fin:∀k:Nat,k<=n->(∀j y,k<=j->(l.take n)[j]?=some y->y=0)->(∀y,0<k->(l.take n)[k -1]?=some y->y≠0)->l.take k=ag (aI (l.take n)):=fun k hk ab ad=>by
  rw[<-Bb (vi ah) (by rw[pb];exact hk) ab ad,sP,fV hk]
 refine Fn.b8 (b7 Tryz.func166) rfl rfl fun H=>?_;refine aa 0x1abe059 ?_;refine c8 [(0,.slice (some ⟨a,0,none⟩) (n) cap)] ?_;refine a' ?_;refine' aB.ja (fun(k:Nat)=>⟨[(0,.slice (some ⟨a,0,none⟩) k cap)],k<=n/\∀j y,k<=j->(l.take n)[j]?=some y->y=0,k⟩) (n) ?hs ?bb;case hs=>exact⟨bF _,fun j y ab ad=>by have:=(gS.1 ad).1;omega⟩
 case bb=>
  rintro k hinv;try simp only at hinv
  obtain⟨hk,aG⟩:=hinv;refine aa 0x121439 ?_;refine fs 6 (fun iU=>?_) fun iU=>?_
  ·obtain⟨x,U⟩:∃x,l[k -1]?=some x:=⟨_,dX I⟩;have gb:(l.take n)[k -1]?=some x:=by rw[iH,a2 I];exact U
   have az:nth (bW .u32 l) (0+((k:Int) -1).toNat*1)=some (.int .u32 (x:Int)):=qk U I;refine aa 0x2f84114619421 ?_;refine If (fun dZ=>?_) fun dZ=>?_
   ·refine aa 0x328439d5f57 ?_;refine' W.step rfl (Exec.val rfl rfl (Bj rfl rfl (eB rfl) rfl ?aN ?ab ?ad) ?_);case aN=>exact cC
    case ab=>exact cC
    case ad=>first|assumption|exact jD cC
    refine aa 0x302 ?_;rw[show((k:Int) -1).toNat=k -1 by omega];refine jf (k -1) ?_;exact⟨I,fun j y ab ad=>by
     by_cases q:k<=j
     ·exact aG j y q ad
     ·obtain rfl:j=k -1:=I
      rw[gb] at ad;injection ad with ad;omega⟩
   ·refine aa 0xd5f020e757 ?_;refine oi ?_;first
      |(have c:=dZ;exact⟨k,rfl,hk,fin k hk aG (fun y ab ad=>by rw[gb] at ad;injection ad with ad;omega),rfl,rfl⟩)
      |exact⟨k,rfl,hk,fin k hk aG (fun y ab ad=>by omega),rfl,rfl⟩
  ·refine aa 0x6af81073abeaf846f7bdef7b ?_;refine oi ?_;first
    |exact⟨k,rfl,hk,fin k hk aG (fun y ab ad=>by omega),rfl,rfl⟩
theorem zd{v:Value}{x:Nat}(h:cD J v x)(ap:(ag x).length<=2):Fn (aT Q g0) 105 [v] [] J (fun u m' ae=>u=.int .u64 (x:Int)/\m'=[]/\J=ae):=by
 have aN:=h;have At:=n6 ap;obtain⟨b,c,rfl,ly⟩:=h.bQ;refine Fn.b8 (b7 Tryz.func105) rfl rfl fun H=>?_;refine aa 0x357c08650e702ce059 ?_;refine c8 [(4,.int .i64 ((((ag x).length):Int) -1)),(3,.int .u64 ((0):Int)),(0,_)] ?_;refine a' ?_;refine' aB.ja (fun(bE:Nat×Nat)=>match bE with|(k,y)=>⟨[(4,.int .i64 ((k:Int) -1)),(3,.int .u64 (y:Int))],k<=(ag x).length/\y=aI ((ag x).drop k),k⟩) ⟨(ag x).length,0⟩ ?hs ?bb
 case hs=>exact⟨bF _,by rw[oW (bF _)];rfl⟩
 case bb=>
  rintro⟨k,y⟩ hinv;try simp only at hinv
  obtain⟨hk,au⟩:=hinv;refine aa 0x17c1039 ?_;refine If (fun eI=>?_) fun eI=>?_
  ·obtain⟨a,off,cells,e,rfl,gD,ar⟩:=aN.at (oE I);obtain⟨p,ao,yM,bA⟩:=ar (k -1) I;have yM:nth cells (off+((k:Int) -1).toNat*1)=some (.int .u32 (p:Int)):=by rw[show((k:Int) -1).toNat=k -1 by omega];exact yM
   have WD:y<1000000000:=by
    have ab:=lB (KP (i:=k) (hx x));rw[<-au,ld] at ab;have ad:1000000000 ^ ((ag x).length -k)<=1000000000 ^ 1:=nE bm I;rw[BO] at ad;omega
   refine aa 0xc0861ce043724c108c39d5f57 ?_;refine jf ⟨k -1,y*1000000000+p⟩ ?_;exact⟨I,by rw[vt ao,show k -1+1=k by omega,<-au];omega⟩
  ·obtain rfl:k=0:=I
   rw[g5,e1] at au;refine aa 0xd5f020e757 ?_;refine bo ?_;exact⟨by rw[au];rfl,rfl,rfl⟩
theorem AB{n:Nat}(az:n<1000000000000000000):Fn (aT Q g0) 70 [.int .u64 (n:Int)] [] J (sU J n):=by
 have ap:(ag n).length<=2:=ala (hA az bm);refine Fn.b8 (b7 Tryz.func70) rfl rfl fun H=>?_;refine aa 0xd5f02ce059 ?_;refine c8 [(0,.int .u64 ((n):Int)),(3,(.slice none 0 0))] ?_;refine a' ?_;refine' aB.bA (fun(bE:Nat×(List Nat)×Value×aO)=>match bE with|(c,out,eO,a8)=>⟨[(0,.int .u64 (c:Int)),(3,eO)],a8,J,c<=n/\out++ag c=ag n/\Acc 96 1 eO out.length (bW .u32 out) a8,c⟩) ⟨n,[],.slice none 0 0,[]⟩ ?hs ?bb
 case hs=>exact⟨bF _,rfl,.nil⟩
 case bb=>
  rintro⟨c,out,eO,a8⟩ hinv;try simp only at hinv
  obtain⟨aD,ah,ev⟩:=hinv;refine aa 0x17c1039 ?_;refine If (fun gz=>?_) fun gz=>?_
  ·have kT:c≠0:=I
   have ia:out.length<=2:=by
    have:=b6 List.length ah;rw[eY] at this;omega
   refine aa 0x78439d5f57 ?_;rw[show(c:Int).tmod 1000000000=((c % 1000000000:Nat):Int) from rfl];refine eT V.o5 ?_;refine lj fun rL=>?_;refine' W.step rfl (.of (t' rfl rfl rfl rfl rfl rfl (eB rfl) (vr Q g0) (fun i q=>by cases q) ?ev ?hm ?U ?dE ?dQ ?ap fun aaT XT ahY atI=>?_));case ev=>exact ev
   case hm=>exact(vH _ a8).symm
   case U=>exact pB
   case dE=>first|rfl|(simp;done)|(simp;omega)
   case dQ=>first|rfl|exact qg _
   case ap=>exact(show out.length+1<=1000000 by omega)
   refine aa 0x604f0e702 ?_;rw[show IntKind.u64.wrap ((c:Int).tdiv 1000000000)=((c / 1000000000:Nat):Int) from sy (d:=1000000000) I];have bb:c / 1000000000<=n/\(out++[c % 1000000000])++ag (c / 1000000000)=ag n/\Acc 96 1 aaT (out++[c % 1000000000]).length (bW .u32 (out++[c % 1000000000])) XT:=⟨I,ak' kT ah,by rw[AO,eY];exact ahY⟩;refine eH ⟨c / 1000000000,out++[c % 1000000000],aaT,XT⟩ ?_ (hm:=lf _ _);exact bb
  ·obtain rfl:c=0:=I
   rw[nl,ij] at ah;refine Acc.mo ev (.of_eq (ij a8).symm) fun bi aM aj=>?_;rw[ah] at aj;refine aa 0xd5f020e757 ?_;refine bo ?_;exact⟨aM,rfl,_,aj⟩
theorem Xs:Fn (aT Q g0) 135 [] [] J (sU J 1):=by
 refine Fn.b8 (b7 Tryz.func135) rfl rfl fun H=>?_;refine aa 0xce059 ?_;refine lj fun a7=>?_;refine aa 0x302 ?_;refine aB.hy rfl fun a9=>?_;refine aa 0x357 ?_;refine bo ?_;exact⟨a9,rfl,cD.row (l:=[1]) (n:=1) (by rw[sf bm bm];rfl) bm bm bm (af.gC _ _ _)⟩
theorem W7{v:Value}{x:Nat}(h:cD J v x)(ap:(ag x).length<=100000):Fn (aT Q g0) 107 [v] [] J (sU J x):=by
 have aN:=h;obtain⟨b,c,rfl,ly⟩:=h.bQ;refine Fn.b8 (b7 Tryz.func107) rfl rfl fun H=>?_;refine aa 0x1ce059 ?_;refine' W.step rfl (.of (t' rfl rfl rfl rfl rfl rfl (eB rfl) (vr Q g0) (fun i q=>by cases q) ?ev ?hm ?U ?dE ?dQ ?ap fun tY aue Vs atK=>?_));case ev=>exact .nil
 case hm=>exact .refl _
 case U=>exact cJ.rd aN
 case dE=>exact(show(bW .u32 (ag x)).length=(ag x).length*1 by rw[qj,gJ])
 case dQ=>exact Dl _
 case ap=>exact(show 0+(ag x).length<=1000000 by omega)
 refine aa 0x302 ?_;rw[kH,kE] at Vs;refine Vs.mo (by rw[ij]) fun bi aM aj=>?_;refine aa 0x357 ?_;refine bo ?_;exact⟨aM,rfl,_,aj⟩
theorem ZO{v:Value}{x d:Nat}(U:cD J v x)(hb:(ag x).length<=100000)(al:0<d)(JI:d<4294967296):Fn (aT Q g0) 163 [v,.int .u32 (d:Int)] [] J (fun u m' ae=>J.le ae/\m'=[]/\∃w,u=.tuple #[w,.int .u32 ((x % d:Nat):Int)]/\cD ae w (x / d)):=by
 have di:=U;obtain⟨bs,bp,rfl,aK⟩:=U.bQ;refine Fn.b8 (b7 Tryz.func163) rfl rfl fun H=>?_;refine aa 0x1439c0859 ?_;refine' W.step rfl (.of (pG rfl rfl rfl rfl rfl (eB rfl) ?aN ?ab ?ad fun Ej=>?_));case aN=>exact cC
 case ab=>exact cC
 case ad=>exact cC
 refine aa 0x302 ?_;rw[show((ag x).length:Int).toNat=(ag x).length by omega,zero_num];refine aa 0x6af810ca1ce059 ?_;refine c8 [(8,.int .i64 ((((ag x).length):Int) -1)),(7,.int .u64 ((0):Int)),(0,_),(1,_),(6,_)] ?_;refine a' ?_;refine' aB.bA (fun(bE:Nat×Nat×(List Nat))=>match bE with|(k,r,z)=>⟨[(8,.int .i64 ((k:Int) -1)),(7,.int .u64 (r:Int))],[et .u32 96 Ej z],J,k<=(ag x).length/\r<d/\z.length=(ag x).length/\dG z/\aI ((ag x).drop k)=d*aI (z.drop k)+r,k⟩) ⟨(ag x).length,0,List.replicate (ag x).length 0⟩ ?hs ?bb
 case hs=>exact⟨bF _,al,mA,Dr,by rw[oW (bF _),oW (by rw[mA];exact bF _)];rfl⟩
 case bb=>
  rintro⟨k,r,z⟩ hinv;try simp only at hinv
  obtain⟨hk,aq,aG,bu,ar⟩:=hinv;refine aa 0x17c1039 ?_;refine If (fun EB=>?_) fun EB=>?_
  ·obtain⟨sZ,er,nL,ex,rfl,th,kx⟩:=di.at (oE I);obtain⟨a,aF,nj,iV⟩:=kx (k -1) I;have nj:nth nL (er+((k:Int) -1).toNat*1)=some (.int .u32 (a:Int)):=by rw[show((k:Int) -1).toNat=k -1 by omega];exact nj
   have rc:(r*1000000000+a) / d<1000000000:=(mB al).2 (by
    have:=eK 1000000000 (show r+1<=d from aq);rw[cR,dp d] at this;omega)
   obtain⟨Re,Pn⟩:∃Re,Re=(r*1000000000+a) / d:=⟨_,rfl⟩;rw[<-Pn] at rc;refine aa 0x6043724c108c39d5f57 ?_;rw[show(r:Int)*1000000000+(a:Int)=((r*1000000000+a:Nat):Int) by omega];refine aa 0x3dc108439 ?_;rw[sy (x:=r*1000000000+a) (d:=d) I,<-Pn];refine aa 0xce ?_;refine' iK ?hs ?_;case hs=>exact k3 (k -1) I
   refine aa 0xc09ee08738 ?_;rw[show(((r*1000000000+a:Nat):Int)).tmod (d:Int)=(((r*1000000000+a) % d:Nat):Int) from rfl];refine aa 0x1810c39 ?_;refine eH ⟨k -1,(r*1000000000+a) % d,z.set (k -1) Re⟩ ?_;exact⟨I,fz _ al,by rw[g6];exact aG,yP bu rc,by rw[Pn];exact aoZ I aF (by rw[show k -1+1=k by omega];exact ar)⟩
  ·obtain rfl:k=0:=I
   have mF:x / d=aI z/\x % d=r:=by
    rw[g5,g5,e1] at ar;have:=xm (cS:=x) (V:=d) (g:=aI z) (by rw[dp];omega) (by rw[cR,dp];omega);exact⟨this.1,by rw[this.2,dp];omega⟩
   refine aa 0xe757 ?_;refine' W.step rfl (Exec.call rfl rfl rfl rfl rfl rfl rfl (bl:=[et .u32 96 Ej z]) (c2:=[]) (.refl _) trivial (Ko (l:=z) bu I (bF _) I) ?_);rintro v' m' ae hle ⟨k,rfl,hk,gl,rfl,rfl⟩;refine aa 0x18109c1 ?_;refine aB.hy rfl fun aM=>?_;rw[<-mF.2];refine aa 0x357 ?_;refine bo ?_;exact⟨aM,rfl,_,rfl,cD.row (by rw[gl,mF.1,<-aG,cM (bF _)]) I hk (jD I) (af.gC _ _ _)⟩
theorem XB{v:Value}{x f size:Nat}(U:cD J v x)(hb:(ag x).length<=size)(Kl:size<=100001)(aA:f<=1000000000)(ai:x*f<1000000000 ^ size):Fn (aT Q g0) 164 [v,.int .u64 (f:Int),.int .i64 (size:Int)] [] J (fun u m' ae=>∃a z,u=.slice (some ⟨a,0,none⟩) size size/\m'=[et .u32 96 a z]/\z.length=size/\dG z/\aI z=x*f/\J=ae):=by
 have di:=U;obtain⟨bs,bp,rfl,aK⟩:=U.bQ;refine Fn.b8 (b7 Tryz.func164) rfl rfl fun H=>?_;refine aa 0x1ce059 ?_;refine' W.step rfl (.of (pG rfl rfl rfl rfl rfl (eB rfl) ?aN ?ab ?ad fun pS=>?_));case aN=>exact cC
 case ab=>exact cC
 case ad=>exact cC
 refine aa 0x302 ?_;rw[show((size:Int)).toNat=size by omega,zero_num];refine aa 0x357c04a1ce059 ?_;refine c8 [(14,.int .i64 ((0):Int)),(8,.int .u64 ((0):Int)),(0,_),(1,_),(7,_),(13,_)] ?_;refine a' ?_;refine' aB.bA (fun(bE:Nat×Nat×(List Nat))=>match bE with|(i,c,z)=>⟨[(14,.int .i64 (i:Int)),(8,.int .u64 (c:Int))],[et .u32 96 pS z],J,i<=size/\c<=1000000000/\z.length=size/\dG z/\aI (z.take i)+1000000000 ^ i*c=aI ((ag x).take i)*f,size -i⟩) ⟨0,0,List.replicate size 0⟩ ?hs ?bb
 case hs=>exact⟨df _,by decide,mA,Dr,by rw[fq,fq];show 0+_*0=0*f;rw[jk,jA]⟩
 case bb=>
  rintro⟨i,c,z⟩ hinv;try simp only at hinv
  obtain⟨ak,aD,aG,bu,ar⟩:=hinv;refine aa 0xbe099 ?_;refine If (fun dR=>?_) fun dR=>?_
  ·obtain⟨P,cw⟩:∃P,P=(ag x).getD i 0*f:=⟨_,rfl⟩;have rY:P<=999999999*1000000000:=by rw[cw];exact rI (by have:=td (hx x) i;omega) aA
   obtain⟨s,hs⟩:∃s,s=c+P:=⟨_,rfl⟩;refine aa 0x30428439c0839d5f57 ?_;refine dN [8,20,0,1,7,9,13,14] ?_;refine a' ?_;refine' aB.fD 2 [(8,.int .u64 (s:Int))] ?adM ?aeX;case adM=>
    refine If (fun hM=>?_) fun hM=>?_
    ·obtain⟨sZ,er,nL,ex,rfl,th,kx⟩:=di.at (oE I);obtain⟨p,ao,yM,bA⟩:=kx i I;have as4:(p:Int)*(f:Int)=(P:Int):=by rw[cw,hP ao,hc]
     refine aa 0xc08630b92608439 ?_;refine'⟨⟨_,rfl,⟨?oF,rfl,rfl,rfl,rfl,rfl,rfl,trivial⟩⟩,ih _,rfl⟩;case oF=>first|exact b6 some (b6 (Value.int .u64) (by rw[hs,cw,hP ao];omega))|exact b6 some (b6 (Value.int .u64) (by rw[hs,cw,lm (l:=ag x) I];omega))
    ·refine jg ?_;refine'⟨⟨_,rfl,⟨?oF,rfl,rfl,rfl,rfl,rfl,rfl,trivial⟩⟩,ih _,rfl⟩;case oF=>first|exact b6 some (b6 (Value.int .u64) (by rw[hs,cw,hP ao];omega))|exact b6 some (b6 (Value.int .u64) (by rw[hs,cw,lm (l:=ag x) I];omega))
   case aeX=>
    refine aa 0xf08439 ?_;rw[show(s:Int).tmod 1000000000=((s % 1000000000:Nat):Int) from rfl];refine aa 0xce ?_;refine' iK ?hs ?_;case hs=>exact k3 i I
    refine aa 0x30278738 ?_;rw[show IntKind.u64.wrap ((s:Int).tdiv 1000000000)=((s / 1000000000:Nat):Int) from sy (d:=1000000000) I];refine aa 0xc0479 ?_;refine eH ⟨i+1,s / 1000000000,z.set i (s % 1000000000)⟩ ?_;exact⟨I,I,by rw[g6];exact aG,yP bu (fz _ bm),by
        rw[aaG I,vu (ag x),cR];have e:=adC i s;have aR:1000000000 ^ i*s=1000000000 ^ i*c+1000000000 ^ i*(ag x).getD i 0*f:=by rw[hs,cw,cH,e4]
        omega⟩
  ·obtain rfl:i=size:=I
   rw[cM (l:=ag x) hb,e1,<-aG,cM (bF _),aG] at ar;have kT:c=0:=by
    rcases il c with k|k
    ·exact k
    ·have:=hf (1000000000 ^ i) k
     omega
   refine aa 0xd5f020e757 ?_;refine oi ?_;exact⟨pS,z,rfl,rfl,aG,bu,by rw[<-ar,kT,jk,ik],rfl⟩
end
end
end Go.Opn
namespace Go.Opn
noncomputable section
theorem alF{W vs D:List Nat}{i g c w u z c':Nat}(al:D.length=i)(hw:vs[i]?=some w)(hu:W[i]?=some u)(h:aI D+g*aI (vs.take i)=aI (W.take i)+1000000000 ^ i*c)
 (e:z+g*w+c=u+1000000000*c'):aI (D++[z])+g*aI (vs.take (i+1))=aI (W.take (i+1))+1000000000 ^ (i+1)*c':=by
 rw[HF,al,lC hw,lC hu,cH]
 have dK:=b6 (1000000000 ^ i*·) e
 simp only[cH] at dK
 have cr:∀t:Nat,1000000000 ^ i*(1000000000*t)=1000000000 ^ (i+1)*t:=fun t=>by rw[ff,e4]
 rw[cr] at dK
 have hB:g*(1000000000 ^ i*w)=1000000000 ^ i*(g*w):=rJ _ _ _
 rw[hB]
 omega
theorem ack{W vs D:List Nat}{i c w u z c':Nat}(al:D.length=i)(hw:vs[i]?=some w)(hu:W[i]?=some u)(h:aI D+1000000000 ^ i*c=aI (W.take i)+aI (vs.take i))(e:z+1000000000*c'=u+w+c):
 aI (D++[z])+1000000000 ^ (i+1)*c'=aI (W.take (i+1))+aI (vs.take (i+1)):=by
 rw[HF,al,lC hw,lC hu]
 have dK:=b6 (1000000000 ^ i*·) e
 simp only[cH] at dK
 have cr:∀t:Nat,1000000000 ^ i*(1000000000*t)=1000000000 ^ (i+1)*t:=fun t=>by rw[ff,e4]
 rw[cr] at dK
 omega
theorem aeL{W vs D:List Nat}{n g c un:Nat}(gE:W.length=n+1)(ar:vs.length=n)(cK:D.length=n)(Ym:dG D)(oI:dG vs)(hu:W[n]?=some un)(h:aI D+g*aI (vs.take n)=aI (W.take n)+1000000000 ^ n*c)(aD:c<=un)(ab:aI W<(g+1)*aI vs):aI W / aI vs=g/\aI W % aI vs=aI D:=by
 have o6:=lC hu
 rw[cM (show W.length<=n+1 by omega)] at o6
 rw[cM (show vs.length<=n by omega)] at h
 have lQ:=lB oI
 rw[ar] at lQ
 rw[cR,h'] at ab
 have ajQ:un=c:=by
  apply S' _ aD
  apply qF
  intro q
  have:=hf (1000000000 ^ n) (show c+1<=un from q)
  rw[cH,gJ] at this
  omega
 rw[ajQ] at o6
 have ad:g*aI vs<=aI W:=I
 obtain⟨aK,aH⟩:=xm ad (show aI W<(g+1)*aI vs by rw[cR,h'];exact ab)
 exact⟨aK,by rw[aH];omega⟩
theorem aeM{W vs D E:List Nat}{n g c un m:Nat}(gE:W.length=n+1)(ar:vs.length=n)(cK:D.length=n)(fc:E.length=n)(Ym:dG D)(amt:dG E)(oI:dG vs)(hu:W[n]?=some un)(h:aI D+g*aI (vs.take n)=aI (W.take n)+1000000000 ^ n*c)(aD:un<c)(ad:g*aI vs<aI W+aI vs)
 (aL:aI E+1000000000 ^ n*m=aI D+aI (vs.take n))(hm:m<=1):1<=g/\aI W / aI vs=g -1/\aI W % aI vs=aI E:=by
 have o6:=lC hu
 rw[cM (show W.length<=n+1 by omega)] at o6
 rw[cM (show vs.length<=n by omega)] at h aL
 have lQ:=lB oI
 rw[ar] at lQ
 have Ji:=lB Ym
 rw[cK] at Ji
 have ahi:=lB amt
 rw[fc] at ahi
 have ax:1<=g:=by
  rcases il g with k|k
  ·rw[k,jA,ik] at h
   have:=hf (1000000000 ^ n) (show 1<=c by omega)
   omega
  ·exact k
 obtain⟨p,rfl⟩:∃p,g=p+1:=⟨g -1,I⟩
 rw[cR,h'] at h ad
 rw[lg]
 have nV:c=un+m:=by
  obtain⟨d,al⟩:∃d,c=un+d:=⟨c -un,I⟩
  have aw:1000000000 ^ n*c=1000000000 ^ n*un+1000000000 ^ n*d:=by rw[al,cH]
  rcases Tb d m with k|k|k
  ·have:m=1/\d=0:=I
   omega
  ·omega
  ·have:=hf (1000000000 ^ n) (show m+1<=d from k)
   rw[cH,gJ] at this
   omega
 have aw:1000000000 ^ n*c=1000000000 ^ n*un+1000000000 ^ n*m:=by rw[nV,cH]
 have fb:=hf (1000000000 ^ n) (show un+1<=c from aD)
 rw[cH,gJ] at fb
 have a6:p*aI vs<=aI W:=I
 obtain⟨aK,aH⟩:=xm (cS:=aI W) (V:=aI vs) (g:=p) a6 (by rw[cR,h'];omega)
 exact⟨ax,aK,by rw[aH];omega⟩
theorem al8{y f t:Nat}(az:(ag y)[(ag y).length -1]?=some t)(aN:y≠0)(aA:f=1000000000 / (t+1)):
 1<=f/\f<=500000000/\y*f<1000000000 ^ (ag y).length/\(∀l:List Nat,dG l->l.length=(ag y).length->aI l=y*f->∀v1,l[(ag y).length -1]?=some v1->500000000<=v1)/\1000000000 ^ ((ag y).length -1)*f<=y*f:=by
 have ap:0<(ag y).length:=by have:=tG aN;omega
 have r9:t≠0:=Dc y t (by rw[sM];exact az)
 have tx:=pv (hx y) az
 have o8:1<=f:=by rw[aA];exact L7 I I
 have aiw:f*(t+1)<=1000000000:=by rw[aA];exact Nat.div_mul_le_self _ _
 have ath:1000000000<(f+1)*(t+1):=by
  rw[aA]
  have:=Nat.lt_succ_iff.1 (Nat.lt_succ_of_le (bF (1000000000 / (t+1))))
  have ab:=lI 1000000000 (t+1)
  have ad:=fz 1000000000 (show 0<t+1 by omega)
  rw[cR,h',dp]
  omega
 have tq:f<=500000000:=by
  have:f*2<=f*(t+1):=hf _ I
  omega
 have ajL:500000000<=t*f:=by
  --f is at least half of LA it auc be
  rcases hL f 2 with k|k
  ·obtain rfl:f=1:=I
   omega
  ·have ab:t*1<=t*f:=hf _ o8
   have aw:f*(t+1)=t*f+f:=by rw[cH,gJ,dp]
   have aR:(f+1)*(t+1)=t*f+t+f+1:=by rw[cR,cH,dp f];omega
   --t*f+t+f+1>10^9 and t*f+f<=10^9
   have ad:f*1<=f*t:=hf _ I
   rw[dp f t] at ad
   have aL:(t -1)*(f -1)>=0:=df _
   have a6:t+f<=t*f+1:=by
        obtain⟨a,rfl⟩:∃a,t=a+1:=⟨t -1,I⟩
        obtain⟨b,rfl⟩:∃b,f=b+1:=⟨f -1,I⟩
        rw[cR,cH]
        omega
   omega
 obtain⟨k,hk⟩:∃k,(ag y).length=k+1:=⟨(ag y).length -1,I⟩
 rw[hk,lg] at az
 have nR:=lC az
 rw[cM I,e1] at nR
 have g':=lB (vi (i:=k) (hx y))
 rw[dY,fV I] at g'
 rw[hk,lg]
 have al:y*f=aI ((ag y).take k)*f+1000000000 ^ k*(t*f):=by
  conv=>lhs;rw[nR]
  rw[cR,e4]
 have b9:y*f<1000000000 ^ (k+1):=by
  have ab:aI ((ag y).take k)*f<1000000000 ^ k*f:=BN g' o8
  have ad:1000000000 ^ k*(f*(t+1))<=1000000000 ^ k*1000000000:=hf _ aiw
  rw[cH,gJ,cH,dp f t] at ad
  rw[ff,al]
  omega
 refine⟨o8,tq,b9,fun l bu iX q9 v1 lu=>?_,?_⟩
 ·have el:=lC lu
  rw[cM I,q9] at el
  have ab:=lB (vi (i:=k) bu)
  rw[dY,fV I] at ab
  have aL:1000000000 ^ k*500000000<=1000000000 ^ k*(t*f):=hf _ ajL
  have a6:1000000000 ^ k*500000000<1000000000 ^ k*(v1+1):=by rw[cH,gJ];omega
  have:=Ma a6
  omega
 ·refine eK _ ?_
  have ab:1000000000 ^ k*1<=1000000000 ^ k*t:=hf _ I
  omega
theorem aqb{rA:List Nat}{x f ay k4 gw:Nat}(ap:rA.length=ay+1)(ar:aI rA=x*f)(aA:0<f)(U:x<1000000000 ^ ay)(ab:1<=k4)(ad:k4<=ay)(oC:1000000000 ^ (k4 -1)*f<=gw):aI (rA.drop (ay -k4+1))<gw:=by
 have e:=zb rA (ay -k4+1) I
 have aL:x*f<1000000000 ^ ay*f:=BN U aA
 have a6:1000000000 ^ ay*f=1000000000 ^ (ay -k4+1)*(1000000000 ^ (k4 -1)*f):=by
  rw[<-e4,<-pN,show ay -k4+1+(k4 -1)=ay by omega]
 have fb:=hf (1000000000 ^ (ay -k4+1)) oC
 refine Ma (a:=1000000000 ^ (ay -k4+1)) ?_
 omega
end
end Go.Opn

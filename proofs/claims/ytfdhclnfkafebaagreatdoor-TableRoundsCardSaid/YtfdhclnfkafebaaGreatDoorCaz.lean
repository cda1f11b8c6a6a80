/- A part of the proof of TableRounds. -/
import Derived.Test.YtfdhclnfkafebaaGreatDoorCay
import Derived.Test.YtfdhclnfkafebaaGreatDoorCax
import Derived.Test.YtfdhclnfkafebaaGreatDoorCau
set_option maxRecDepth 100000
set_option maxHeartbeats 8000000
set_option linter.unusedVariables false
set_option linter.unusedSimpArgs false
namespace Go.Opn
noncomputable section
open Go.Cre Go.RowKit Go.Proofs
def pT:List Nat:=[0,1,56,2,57,49,28,3,61,58,42,50,38,29,17,4,62,47,59,36,45,43,51,22,53,39,33,30,24,18,12,5,63,55,48,27,60,41,37,16,46,35,44,21,52,32,23,11,54,26,40,15,34,20,31,10,25,14,19,9,13,8,7,6]
theorem R2:∀{x:Nat},x≠0->∃k o,x=2 ^ k*o/\o % 2=1:=by
 intro x;induction x using Nat.strongRecOn with
 |_ x aZ=>
  intro h;rcases Mr x with q|q
  ·obtain⟨k,o,ad,af⟩:=aZ (x / 2) I I
   refine⟨k+1,o,?_,af⟩;rw[fC,dz (2 ^ k) 2,fi,<-ad];omega
  ·exact⟨0,x,by rw[yc,iL],q⟩
theorem H2{x k o:Nat}(he:x=2 ^ k*o)(aj:o % 2=1)(ab:x<18446744073709551616):k<64/\o<18446744073709551616:=by
 have ad:1<=o:=I
 have af:2 ^ k*1<=2 ^ k*o:=hs _ ad;have aV:1*o<=2 ^ k*o:=e0 _ (lS k);refine⟨?_,I⟩;apply IW
 intro q;have:2 ^ 64<=2 ^ k:=my bC q;omega
theorem akL{x k o:Nat}(he:x=2 ^ k*o)(aj:o % 2=1)(ab:x<18446744073709551616):x &&& (18446744073709551616 -x)=2 ^ k:=by
 obtain⟨hk,Kf⟩:=H2 he aj ab;have ag:2 ^ (64 -k)*2 ^ k=18446744073709551616:=wh I;have iP:o<2 ^ (64 -k):=EC (a:=2 ^ k) (by rw[ag,dz,<-he];exact ab);have aW:18446744073709551616 -x=(2 ^ (64 -k) -o)*2 ^ k:=by rw[Tk,ag,he,dz o]
 have aC:o &&& (2 ^ (64 -k) -o)=1:=by
  refine abF fun i=>?_;rw[Nat.testBit_and];obtain⟨m,hm⟩:∃m,o=2*m+1:=⟨o / 2,I⟩;have ad:=Nat.testBit_two_pow_sub_succ (x:=2*m) (n:=64 -k) I i;rw[show 2*m+1=o from hm.symm] at ad;rw[ad];cases i with
  |zero=>
   have af:Nat.testBit (2*m) 0=false:=by rw[Nat.testBit_zero];simp
   have aV:Nat.testBit o 0=true:=by rw[Nat.testBit_zero,aj];rfl
   rw[af,aV];have:0<64 -k:=I
   simp[this]
  |succ i=>
   have af:Nat.testBit (2*m) (i+1)=Nat.testBit o (i+1):=by
        rw[Tl,Tl];congr 1
        omega
   rw[af,Tl 1];show(Nat.testBit o (i+1)&&(_&&!Nat.testBit o (i+1)))=Nat.testBit 0 i;rw[Nat.zero_testBit];cases Nat.testBit o (i+1)<;>simp
 have cw:x=o*2 ^ k:=by rw[he,dz]
 rw[aW];conv=>lhs;rw[cw]
 rw[<-Tj,<-Tj,<-Nat.shiftLeft_and_distrib,aC,Tj,iL]
def KD(k:Nat):Nat:=(2 ^ k*285870213051353865 % 18446744073709551616) / 288230376151711744
theorem aj0:∀k,k<64->KD k<64/\pT[KD k]?=some k:=by decide+kernel
theorem aci{a b:Nat}(aI:a<18446744073709551616)(ak:b<18446744073709551616):IntKind.u64.wrap ((BitVec.ofInt IntKind.u64.bits (a:Int) &&& BitVec.ofInt IntKind.u64.bits (b:Int)).toNat:Int)=((a &&& b:Nat):Int):=by
 have e:(BitVec.ofInt 64 (a:Int) &&& BitVec.ofInt 64 (b:Int)).toNat=a &&& b:=by
  rw[BitVec.toNat_and];have ad:(BitVec.ofInt 64 (a:Int)).toNat=a:=by rw[BitVec.toNat_ofInt];omega
  have af:(BitVec.ofInt 64 (b:Int)).toNat=b:=by rw[BitVec.toNat_ofInt];omega
  rw[ad,af]
 show IntKind.u64.wrap ((BitVec.ofInt 64 (a:Int) &&& BitVec.ofInt 64 (b:Int)).toNat:Int)=_;rw[e];exact Sl (p7 Nat.and_le_left aI)
theorem alh{x:Nat}(aO:x≠0)(h:x<18446744073709551616):IntKind.u64.wrap (-(x:Int))=((18446744073709551616 -x:Nat):Int):=by
 rw[Sk];omega
theorem anV{x:Nat}:(x:Int).fdiv (2 ^ ((58:Int).toNat))=((x / 288230376151711744:Nat):Int):=HU (q:=58)
theorem Lc{a k:Nat}(aI:a % 2=1):Nat.Coprime a (2 ^ k):=Nat.Coprime.pow_right _ (by
 show Nat.gcd a 2=1;rw[oA,zO,aI];rfl)
theorem Lb{d a:Nat}(h:d ∣ a)(aI:a % 2=1):d % 2=1:=by
 obtain⟨c,rfl⟩:=h;rcases Mr d with k|k
 ·rw[Nat.mul_mod,k,j8] at aI;cases aI
 ·exact k
theorem ags{a b k o:Nat}(aI:a % 2=1)(he:b=2 ^ k*o):Nat.gcd a o=Nat.gcd a b:=by
 rw[he];exact(Nat.Coprime.gcd_mul_left_cancel_right _ (Lc (k:=k) aI).symm).symm
theorem agq{x y a1 eN t o:Nat}(xd:x=2 ^ a1*eN)(AW:eN % 2=1)(he:x ||| y=2 ^ t*o)(aj:o % 2=1):Nat.gcd x y=Nat.gcd eN y*2 ^ t:=by
 have hm:∀k,2 ^ k ∣ x ||| y↔2 ^ k ∣ x/\2 ^ k ∣ y:=fun k=>by
  rw[Td,Nat.or_mod_two_pow,Nat.or_eq_zero_iff,<-Td,<-Td]
 obtain⟨⟨dP,fT⟩,⟨mO,yX⟩⟩:=(hm t).1 ⟨o,he⟩;have aiB:dP % 2=1\/mO % 2=1:=by
  rcases Mr dP with k|k
  ·rcases Mr mO with j|j
   ·exfalso
    obtain⟨c,aJ⟩:=abE k;obtain⟨d,aq⟩:=abE j;obtain⟨w,hw⟩:=(hm (t+1)).2 ⟨⟨c,by rw[fT,aJ,fC,fi]⟩,⟨d,by rw[yX,aq,fC,fi]⟩⟩;rw[he,fC,fi] at hw;have:=Nat.eq_of_mul_eq_mul_left (uI bC) hw;omega
   ·exact .inr j
  ·exact .inl k
 have wW:Nat.gcd dP mO % 2=1:=by
  rcases aiB with k|k
  ·exact Lb (lf _ _) k
  ·exact Lb (nl _ _) k
 have ad:Nat.gcd x y=2 ^ t*Nat.gcd dP mO:=by rw[fT,yX,Nat.gcd_mul_left]
 have af:Nat.gcd eN y=Nat.gcd dP mO:=by
  refine Mn (Ey ?_ ?_) (Ey ?_ ?_)
  ·have a7:=Lb (lf eN y) AW
   have a0:Nat.gcd eN y ∣ 2 ^ t*dP:=by rw[<-fT];exact IT (lf _ _) ⟨2 ^ a1,by rw[dz];exact xd⟩
   exact(Lc a7).dvd_of_dvd_mul_left a0
  ·have a7:=Lb (lf eN y) AW
   have a0:Nat.gcd eN y ∣ 2 ^ t*mO:=by rw[<-yX];exact nl _ _
   exact(Lc a7).dvd_of_dvd_mul_left a0
  ·have a0:Nat.gcd dP mO ∣ 2 ^ a1*eN:=by rw[<-xd,fT];exact IT (lf _ _) ⟨2 ^ t,dz _ _⟩
   exact(Lc wW).dvd_of_dvd_mul_left a0
  ·rw[yX];exact IT (nl _ _) ⟨2 ^ t,dz _ _⟩
 rw[ad,af,dz]
section
variable {Q:dD Tryz.prog}{g0:Nat}{J:an}
theorem R3{x k o:Nat}{e:TypeId}(cB:J 2=some (b7 .u8 pT,e))(aF:Nat.blt 2 (a1 Q g0).g0=true)(he:x=2 ^ k*o)(aj:o % 2=1)(ab:x<18446744073709551616):Fn (a1 Q g0) 136 [.int .u64 (x:Int)] [] J (fun u m' ah=>u=.int .i64 ((k:Nat):Int)/\m'=[]/\J=ah):=by
 obtain⟨hk,_⟩:=H2 he aj ab;have jf:x≠0:=by rw[he];exact Nat.mul_ne_zero (jl (lS k)) I
 obtain⟨ad,af⟩:=aj0 k hk;have aD:=akL he aj ab;have aE:nth (b7 .u8 pT) (0+((KD k:Nat):Int).toNat*1)=some (.int .u8 ((k:Nat):Int)):=oV af I;refine Fn.cr (cu Tryz.func136) rfl rfl fun H=>?_;refine rg ?_;refine U V.au ?_;refine a2 ?_;refine U V.ay ?_;refine U V.bb ?_;refine aA ?_;refine If (fun dZ=>?_) fun dZ=>?_
 ·exfalso;omega
 ·refine ao ?_;refine ae.skip ?_;refine rg ?_;refine al ?_;refine' W.step rfl (Exec.val rfl rfl (zu rfl rfl ?hw) ?_);case hw=>exact alh jf ab
  refine' W.step rfl (Exec.val rfl rfl (D7 rfl rfl rfl) ?_);rw[aci ab I,aD];refine U V.aY ?_;rw[show((2 ^ k:Nat):Int)*285870213051353865=((2 ^ k*285870213051353865:Nat):Int) by rw[gM];rfl,LW];refine' W.step rfl (Exec.val rfl rfl (uk rfl rfl rfl rfl ?aO ?ad) ?_);case aO=>exact bz
  case ad=>first|decide|exact bz|exact(show _<=((64:Nat):Int) from I)
  rw[anV,show 2 ^ k*285870213051353865 % 18446744073709551616 / 288230376151711744=KD k from rfl];refine' W.step rfl (Exec.val rfl rfl (apC rfl ?aF ?hy rfl (ZY rfl) ?aO ?ad) ?_);case hy=>assumption
  case aF=>assumption
  case aO=>exact bz
  case ad=>exact bz
  refine U V.cg ?_;refine U V.d' ?_;refine U V.au ?_;refine aA ?_;refine ae.ret ?_;refine'⟨.inr rfl,rfl,_,[],.tmp rfl .nil,br _,⟨rfl,rfl,rfl⟩⟩
theorem MR{x y:Nat}{e:TypeId}(cB:J 2=some (b7 .u8 pT,e))(aF:Nat.blt 2 (a1 Q g0).g0=true)(ab:x<18446744073709551616)(aB:y<18446744073709551616):Fn (a1 Q g0) 114 [.int .u64 (x:Int),.int .u64 (y:Int)] [] J (fun u m' ah=>u=.int .u64 (Nat.gcd x y:Nat)/\m'=[]/\J=ah):=by
 refine Fn.cr (cu Tryz.func114) rfl rfl fun H=>?_;refine rg ?_;refine U V.au ?_;refine a2 ?_;refine U V.ay ?_;refine U V.bb ?_;refine aA ?_;refine If (fun hE=>?_) fun hE=>?_
 ·have dM:x=0:=I
  have GL:Nat.gcd x y=y:=by rw[dM,Mo]
  refine rg ?_;refine al ?_;refine aA ?_;refine ae.ret ?_;refine'⟨.inr rfl,rfl,_,[],.tmp rfl .nil,br _,?_⟩;first
   |(have c:=hE;exact⟨by rw[GL];rfl,rfl,rfl⟩)
   |exact⟨by rw[CR];rfl,rfl,rfl⟩
 ·have dM:x≠0:=I
  refine fy ?_;refine U V.ay ?_;refine U V.bb ?_;refine aA ?_;refine If (fun cl=>?_) fun cl=>?_
  ·have eU:y=0:=I
   have nB:Nat.gcd x y=x:=by rw[eU,zP]
   refine rg ?_;refine al ?_;refine aA ?_;refine ae.ret ?_;refine'⟨.inr rfl,rfl,_,[],.tmp rfl .nil,br _,?_⟩;first
    |(have c:=hE;exact⟨by rw[GL];rfl,rfl,rfl⟩)
    |(have c:=cl;exact⟨by rw[nB];rfl,rfl,rfl⟩)
    |exact⟨by rw[CR];rfl,rfl,rfl⟩
  ·have eU:y≠0:=I
   have Wi:x ||| y<18446744073709551616:=Mu (n:=64) ab aB
   obtain⟨t,o,PM,vn⟩:=R2 (x:=x ||| y) (fun q=>dM (Nat.or_eq_zero_iff.1 q).1);obtain⟨akc,eN,xd,AW⟩:=R2 dM;have jE:=agq xd AW PM vn;obtain⟨atO,_⟩:=H2 PM vn Wi;obtain⟨atY,aqy⟩:=H2 xd AW ab;have wV:Nat.gcd x y<=x:=IV (r2 dM) (lf _ _);have PK:x / 2 ^ akc=eN:=by rw[xd,v7 _ (lS _)]
   refine fy ?_;refine al ?_;refine' W.step rfl (Exec.val rfl rfl (D8 rfl rfl rfl) ?_);rw[HH ab aB];refine bN (G:=R3 cB aF PM vn Wi) (h:=?_);rintro v' m' ah hle ⟨rfl,rfl,rfl⟩;refine U V.au ?_;refine a2 ?_;refine al ?_;refine bN (G:=R3 cB aF xd AW ab) (h:=?_);rintro v' m' ah hle ⟨rfl,rfl,rfl⟩;refine' W.step rfl (Exec.val rfl rfl (xY rfl rfl rfl ?aO ?ad) ?_);case aO=>exact bz
   case ad=>first|decide|exact bz|exact(show _<=((64:Nat):Int) from I)
   refine U V.au ?_;refine a3 ?_;rw[xP,PK];refine ao ?_;refine ae.block ?_;refine' ae.dO (l':=[(0,.int .u64 ((eN):Int)),(1,.int .u64 ((y):Int)),(5,_)]) ⟨?w0,?bm,rfl,trivial⟩ (bx _) ?_;case w0=>first|exact bg|exact aa some (aa (Value.int .u64) I)|exact aa some (aa (Value.int .i64) I)
   case bm=>first|exact bg|exact aa some (aa (Value.int .u64) I)|exact aa some (aa (Value.int .i64) I)
   refine ao ?_;refine' ae.lE (α:=(Nat)×(Nat)) (fun(a6:(Nat)×(Nat))=>match a6 with|(a,b)=>[(0,.int .u64 (a:Int)),(1,.int .u64 (b:Int))]) (fun(a6:(Nat)×(Nat))=>match a6 with|(a,b)=>a % 2=1/\a<18446744073709551616/\b<18446744073709551616/\Nat.gcd a b=Nat.gcd eN y) (fun(a6:(Nat)×(Nat))=>match a6 with|(a,b)=>a+b) ⟨eN,y⟩ ?ag ?bD
   case ag=>exact⟨AW,aqy,aB,rfl⟩
   case bD=>
    rintro⟨a,b⟩ hinv;try simp only at hinv
    obtain⟨aI,yI,ls,i'⟩:=hinv;refine rg ?_;refine U V.ay ?_;refine U V.bb ?_;refine aA ?_;refine If (fun mX=>?_) fun mX=>?_
    ·have gr:b≠0:=I
     obtain⟨aj2,jM,JY,OL⟩:=R2 gr;obtain⟨MS,arp⟩:=H2 JY OL ls;have px:b / 2 ^ aj2=jM:=by rw[JY,v7 _ (lS _)]
     have asG:jM<=b:=by rw[<-px];exact rZ _ _
     have J1:Nat.gcd a jM=Nat.gcd eN y:=by rw[ags aI JY];exact i'
     have h6:jM<=a->Nat.gcd jM (a -jM)=Nat.gcd eN y:=fun h=>by
        rw[abH h,oA];exact J1
     have l1:a<=jM->Nat.gcd a (jM -a)=Nat.gcd eN y:=fun h=>by
        rw[abH h];exact J1
     refine dW ?_;refine ao ?_;refine ae.block ?_;refine rg ?_;refine al ?_;refine bN (G:=R3 cB aF JY OL ls) (h:=?_);rintro v' m' ah hle ⟨rfl,rfl,rfl⟩;refine' W.step rfl (Exec.val rfl rfl (xY rfl rfl rfl ?aO ?ad) ?_);case aO=>exact bz
     case ad=>first|decide|exact bz|exact(show _<=((64:Nat):Int) from I)
     refine U V.au ?_;refine a3 ?_;rw[xP,px];refine rg ?_;refine al ?_;refine U V.bb ?_;refine aA ?_;refine If (fun MZ=>?_) fun MZ=>?_
     ·refine rg ?_;refine al ?_;refine a2 ?_;refine al ?_;refine U V.aY ?_;refine U V.au ?_;refine a3 ?_;refine'⟨⟨jM,a -jM⟩,_,?hinv,?gi,rfl,⟨?dc,?c1,rfl,trivial⟩,bx _,rfl⟩;case dc=>first|exact bg|exact aa some (aa (Value.int .u64) I)|exact aa some (aa (Value.int .i64) I)
      case c1=>first|exact bg|exact aa some (aa (Value.int .u64) I)|exact aa some (aa (Value.int .i64) I)
      case gi=>exact bz
      case hinv=>exact⟨OL,I,I,h6 I⟩
     ·refine ao ?_;refine ae.skip ?_;refine rg ?_;refine al ?_;refine U V.aY ?_;refine U V.au ?_;refine a3 ?_;refine'⟨⟨a,jM -a⟩,_,?hinv,?gi,rfl,⟨?dc,?c1,rfl,trivial⟩,bx _,rfl⟩;case dc=>first|exact bg|exact aa some (aa (Value.int .u64) I)|exact aa some (aa (Value.int .i64) I)
      case c1=>first|exact bg|exact aa some (aa (Value.int .u64) I)|exact aa some (aa (Value.int .i64) I)
      case gi=>exact bz
      case hinv=>exact⟨aI,I,I,l1 I⟩
    ·have gr:b=0:=I
     have CR:IntKind.u64.wrap ((a:Int)*2 ^ ((t:Int)).toNat)=((Nat.gcd x y:Nat):Int):=by
        rw[gr,zP] at i';rw[zm,jE,i',<-jE,nO I]
     refine ao ?_;refine ae.exit ?_;refine rg ?_;refine al ?_;refine' W.step rfl (Exec.val rfl rfl (s0 rfl rfl rfl ?aO ?ad) ?_);case aO=>exact bz
     case ad=>first|decide|exact bz|exact(show _<=((64:Nat):Int) from I)
     refine U V.au ?_;refine aA ?_;refine ae.ret ?_;refine'⟨.inr rfl,rfl,_,[],.tmp rfl .nil,br _,?_⟩;first
        |(have c:=hE;exact⟨by rw[GL];rfl,rfl,rfl⟩)
        |(have c:=cl;exact⟨by rw[nB];rfl,rfl,rfl⟩)
        |exact⟨by rw[CR];rfl,rfl,rfl⟩
end
end
end Go.Opn
namespace Go.Opn
noncomputable section
theorem aar:∀{l:List Nat},(∀j y:Nat,l[j]?=some y->y=0)->aN l=0
 |[],_=>rfl
 |x::l,h=>by
  show x+1000000000*aN l=0
  rw[h 0 x rfl,aar (l:=l) fun j y bf=>h (j+1) y bf]
theorem BE{l:List Nat}{k:Nat}(aj:dS l)(hk:k<=l.length)(aL:∀j y,k<=j->l[j]?=some y->y=0)(aE:∀y,0<k->l[k -1]?=some y->y≠0):l.take k=ai (aN l):=by
 have ad:j6 (l.take k):=⟨vF aj,fun x ab=>by
  have ap:0<k:=by
   rcases jj k with q|q
   ·rw[q] at ab;cases ab
   ·exact q
  refine aE x ap ?_
  rw[qU,dY,gn hk,ji,bj I] at ab
  exact ab⟩
 have af:=zv l k hk
 rw[aar (l:=l.drop k) fun j y bf=>by
  rw[p5] at bf
  exact aL (k+j) y I bf] at af
 rw[pg ad,af]
 congr 1
theorem mG{x:Nat}:∀{k:Nat},x<1000000000 ^ k->(ai x).length<=k:=by
 intro k
 induction k generalizing x with
 |zero=>
  intro h
  have:x=0:=by rw[yc] at h;omega
  rw[this,l5];exact bX _
 |succ k aZ=>
  intro h
  by_cases q:x=0
  ·rw[q,l5];exact ep _
  ·rw[tU q,lP]
   have:x / 1000000000<1000000000 ^ k:=by
        rw[mV bC,<-fC];exact h
   have:=aZ this
   omega
theorem oi{x k:Nat}(h:(ai x).length<=k):x<1000000000 ^ k:=by
 have ad:=k' (hB x)
 rw[e5] at ad
 exact iJ ad (my bC h)
theorem tT{x:Nat}(h:x≠0):(ai x).length≠0:=by rw[tU h,lP];omega
theorem oT{x:Nat}(h:(ai x).length≠0):x≠0:=fun q=>by rw[q,l5] at h;exact h rfl
theorem vx{x y:Nat}(h:(ai x).length<(ai y).length):x<y:=by
 have:=aau (hB x) (z5 y) h
 rwa [e5,e5] at this
theorem Dy{x y i a b:Nat}(aI:(ai x)[i]?=some a)(ak:(ai y)[i]?=some b)(aq:(ai x).drop (i+1)=(ai y).drop (i+1))(h:a<b):x<y:=by
 have:=apS (hB x) aI ak aq h
 rwa [e5,e5] at this
theorem vQ(l:List Nat)(i:Nat):aN (l.take (i+1))=aN (l.take i)+1000000000 ^ i*l.getD i 0:=by
 by_cases h:i<l.length
 ·rw[l7 (eE h),g5,eE h];rfl
 ·rw[g5,qT I,dd I,dd I];rfl
theorem Ia(l:List Nat)(x:Nat):aN (l++[x])=aN l+1000000000 ^ l.length*x:=by rw[rM,H9]
theorem tu{l:List Nat}(h:dS l)(i:Nat):l.getD i 0<1000000000:=by
 rw[g5]
 rcases q:l[i]? with _|x
 ·decide
 ·exact pJ h q
theorem D9{l:List Nat}{i:Nat}(h:l.length<=i):aN (l.take i)=aN l:=by rw[dd h]
theorem Le:dS []:=fun z aL=>(by cases aL)
theorem aas{z:List Nat}{i y:Nat}(h:i<z.length):aN ((z.set i y).take (i+1))=aN (z.take i)+1000000000 ^ i*y:=by
 rw[l7 (x:=y) (by rw[mS,bj rfl,bj h]),IP (bX i)]
theorem ado(i s:Nat):1000000000 ^ i*s=1000000000 ^ i*(s % 1000000000)+1000000000 ^ (i+1)*(s / 1000000000):=by
 conv=>lhs;rw[<-yb s 1000000000]
 rw[cS,fC,fi]
theorem anT{x z:List Nat}{i r a d:Nat}(ar:i<z.length)(aI:x[i]?=some a)(h:aN (x.drop (i+1))=d*aN (z.drop (i+1))+r):
 aN (x.drop i)=d*aN ((z.set i ((r*1000000000+a) / d)).drop i)+(r*1000000000+a) % d:=by
 rw[vP aI,vP (l:=z.set i _) (i:=i) (x:=(r*1000000000+a) / d) (by rw[mS,bj rfl,bj ar]),B5 I,h]
 have e:=lR (r*1000000000+a) d
 rw[cS,cS]
 have aW:1000000000*(d*aN (z.drop (i+1)))=d*(1000000000*aN (z.drop (i+1))):=qX _ _ _
 omega
theorem apQ{l:List Nat}{n:Nat}(cc:dS l)(aD:n<=l.length)(h:aN l<1000000000 ^ n):aN (l.take n)=aN l/\aN (l.drop n)=0:=by
 have e:=zv l n aD
 have aL:aN (l.drop n)=0:=by
  rcases jj (aN (l.drop n)) with k|k
  ·exact k
  ·have:=hs (1000000000 ^ n) k
   omega
 rw[aL] at e
 exact⟨I,aL⟩
theorem aqo{A W C:List Nat}{n gQ:Nat}(cc:dS (A++W++C))(gX:W.length=n+1)(az:gQ<1000000000 ^ n)(aq:aN ((A++W++C).drop (A.length+1))<gQ):
 aN W<1000000000*gQ/\aN C=0/\dS W:=by
 rw[nM,Mb,oy I,kp,Mk] at aq
 match W,gX with
 |w0::zU,gX=>
  have gX:zU.length=n:=by simpa using gX
  rw[SS,SV,hi,rM,gX] at aq
  have nG:dS (w0::zU):=fun x ab=>cc x (nN _ (eF _ ab))
  have aO:=nG w0 (.head _)
  have hx:aN C=0:=by
   rcases jj (aN C) with k|k
   ·exact k
   ·have:=hs (1000000000 ^ n) k
    omega
  rw[hx,jk,iI] at aq
  refine⟨?_,hx,nG⟩
  show w0+1000000000*aN zU<_
  omega
theorem aqq{A W nQ C:List Nat}{n gQ T q R:Nat}(gX:W.length=n)(Oy:nQ.length=n)(hx:aN C=0)(e:aN nQ=aN W % gQ)(bS:q=aN W / gQ)(h:T=aN (A++W++C)+1000000000 ^ (A.length+1)*R):
 T=aN (A++nQ++C)+1000000000 ^ A.length*(gQ*q+1000000000*R):=by
 rw[h,rM,rM,rM,rM,hx,jk,jk,iI,iI,e,bS]
 have ad:=lR (aN W) gQ
 have af:1000000000 ^ A.length*aN W=1000000000 ^ A.length*(gQ*(aN W / gQ))+1000000000 ^ A.length*(aN W % gQ):=by rw[<-cS,ad]
 rw[af,cS,fC,fi _ 1000000000 R]
 omega
theorem apR{q:List Nat}{j y:Nat}(h:j<q.length):aN ((q.set j y).drop j)=y+1000000000*aN (q.drop (j+1)):=by
 rw[vP (x:=y) (by rw[mS,bj rfl,bj h]),B5 I]
theorem aka{W vs:List Nat}{n cm u1 bI v1 v0:Nat}(gX:W.length=n+3)(az:vs.length=n+2)(alL:dS W)(oW:dS vs)(af:W[n+2]?=some cm)(ad:W[n+1]?=some u1)(aO:W[n]?=some bI)(a7:vs[n+1]?=some v1)(kx:vs[n]?=some v0):
 uD 1000000000 (1000000000 ^ n) (aN W) (aN vs) cm u1 bI v1 v0:=by
 have aC:=l7 af
 rw[dd (show W.length<=n+2+1 by omega),l7 ad,l7 aO] at aC
 have aW:=l7 a7
 rw[dd (show vs.length<=n+1+1 by omega),l7 kx] at aW
 have dF:=k' (vF (i:=n) alL)
 have dq:=k' (vF (i:=n) oW)
 rw[dY,gn I] at dF dq
 refine⟨⟨_,?_,dF⟩,⟨_,?_,dq⟩⟩
 ·rw[aC,fC 1000000000 (n+1),fC 1000000000 n]
  obtain⟨p,ap⟩:∃p,p=1000000000 ^ n:=⟨_,rfl⟩
  rw[<-ap,c3,c3,c3]
  have bO:p*1000000000*1000000000*cm=cm*1000000000*1000000000*p:=by ac_rfl
  have bA:p*1000000000*u1=u1*1000000000*p:=by ac_rfl
  have cU:p*bI=bI*p:=dz _ _
  rw[bO,bA,cU]
  omega
 ·rw[aW,fC 1000000000 n]
  obtain⟨p,ap⟩:∃p,p=1000000000 ^ n:=⟨_,rfl⟩
  rw[<-ap,c3]
  have bA:p*1000000000*v1=v1*1000000000*p:=by ac_rfl
  have cU:p*v0=v0*p:=dz _ _
  rw[bA,cU]
  omega
end
end Go.Opn
namespace Go.Opn
noncomputable section
open Go.Cre Go.RowKit Go.Proofs
abbrev EI(J:an)(x:Nat):Value->a8->an->Prop:=fun u m' ah=>J.le ah/\m'=[]/\cM ah u x
theorem cM.at{J:an}{b:Option Addr}{n c x:Nat}(h:cM J (.slice b n c) x)(ap:x≠0):∃a off cells e,b=some ⟨a,off,none⟩/\J a=some (cells,e)/\∀i:Nat,i<(ai x).length->∃y,(ai x)[i]?=some y/\nth cells (off+i*1)=some (.int .u32 (y:Int))/\y<1000000000:=by
 have aD:0<(ai x).length:=by have:=tT ap;omega
 obtain⟨a,off,cells,e,ad,af,aV⟩:=cR.at (k:=.u32) (l:=ai x) h aD;exact⟨a,off,cells,e,ad,af,fun i ar=>by obtain⟨y,a7,a0⟩:=aV i ar;exact⟨y,a7,a0,pJ (hB x) a7⟩⟩
theorem cM.row{J:an}{a n cap x:Nat}{l:List Nat}{e:TypeId}(aE:l.take n=ai x)(aD:n<=l.length)(aJ:n<=cap)(gY:cap<cQ)(h:J a=some (b7 .u32 l,e)):cM J (.slice (some ⟨a,0,none⟩) n cap) x:=by
 have:=cR.row (k:=.u32) aD aJ gY h;rw[aE] at this;exact this
theorem cM.nil{J:an}:cM J (.slice none 0 0) 0:=by unfold cM;rw[l5];exact cR.nil
theorem sH{x:Nat}(aO:x≠0)(h:x<1000000000):ai x=[x]:=by
 rw[tU aO,nO h,rY h,l5]
theorem Qo{x:Nat}(h:(ai x).length=1):ai x=[x]/\x<1000000000/\x≠0:=by
 have ad:x<1000000000:=by have:=oi (x:=x) (k:=1) (EB h);rwa [B'] at this
 have aO:x≠0:=oT I;exact⟨sH aO ad,ad,aO⟩
theorem xk{x y:Nat}(h:x<=y):(ai x).length<=(ai y).length:=by
 apply qW
 intro q;have:=vx q;omega
theorem HP{l:List Nat}{i:Nat}(aj:dS l)(h:i<l.length):∃u,l[i]?=some u/\u<1000000000:=⟨_,eE h,pJ aj (eE h)⟩
theorem akB{n c:Nat}{out:List Nat}(aJ:c≠0)(h:out++ai c=ai n):out++[c % 1000000000]++ai (c / 1000000000)=ai n:=by
 rw[nM,abw,<-tU aJ];exact h
section
variable {Q:dD Tryz.prog}{g0:Nat}{J:an}
theorem Qt{v:Value}{x:Nat}(h:cM J v x)(ak:(ai x).length<=100000):Fn (a1 Q g0) 116 [v] [] J (fun u m' ah=>u=.bool (decide (x=1))/\m'=[]/\J=ah):=by
 obtain⟨b,c,rfl,kA⟩:=h.bG;refine Fn.cr (cu Tryz.func116) rfl rfl fun H=>?_;refine rg ?_;refine U V.au ?_;refine a2 ?_;refine al ?_;refine U V.bb ?_;refine U V.ay ?_;refine ft 6 (fun jD=>?_) fun jD=>?_
 ·obtain⟨aC,aW,cw⟩:=Qo (x:=x) I;obtain⟨a,off,cells,e,rfl,hy,az⟩:=h.at cw;obtain⟨y,aB,az,_⟩:=az 0 I;rw[aC] at aB;obtain rfl:x=y:=v9 aB;refine bo V.ay ?_;refine bo V.bh ?_;refine bo V.cg ?_;refine bo V.bb ?_;refine U V.bt ?_;refine U V.au ?_;refine aA ?_;refine ae.ret ?_;refine mR ?_;first
   |(have c:=jD
     exact⟨aa Value.bool (by first|(by_cases q:x=1<;>simp[q]<;>omega)|(have q:x≠1:=fun q=>c (by rw[q,sH bC bC];rfl);simp[q])),rfl,rfl⟩)
 ·refine bs ?_;refine bs ?_;refine bs ?_;refine bs ?_;refine U V.bt ?_;refine U V.au ?_;refine aA ?_;refine ae.ret ?_;refine mR ?_;first
   |(have c:=jD
     exact⟨aa Value.bool (by first|(by_cases q:x=1<;>simp[q]<;>omega)|(have q:x≠1:=fun q=>c (by rw[q,sH bC bC];rfl);simp[q])),rfl,rfl⟩)
theorem Xd{v w:Value}{x y:Nat}(ad:cM J v x)(af:cM J w y)(ab:(ai x).length<=100000)(aB:(ai y).length<=100000):Fn (a1 Q g0) 139 [v,w] [] J (fun u m' ah=>u=.int .i64 (jq x y)/\m'=[]/\J=ah):=by
 obtain⟨bQ,bH,rfl,aX⟩:=ad.bG;obtain⟨bL,bM,rfl,aU⟩:=af.bG;refine Fn.cr (cu Tryz.func139) rfl rfl fun H=>?_;refine rg ?_;refine U V.au ?_;refine a2 ?_;refine al ?_;refine U V.bb ?_;refine aA ?_;refine If (fun cl=>?_) fun cl=>?_
 ·refine rg ?_;refine al ?_;refine U V.bb ?_;refine aA ?_;refine If (fun eR=>?_) fun eR=>?_
  ·refine rg ?_;refine U V.au ?_;refine aA ?_;refine ae.ret ?_;refine mR ?_;first
    |(have c:=eR;exact⟨by rw[pf (vx I)];rfl,rfl,rfl⟩)
    |(have c:=eR;exact⟨by rw[tn (vx I)];rfl,rfl,rfl⟩)
    |exact⟨by
      obtain rfl:k=0:=I
      rw[nW (show x=y by rw[<-e5 x,<-e5 y];exact aa aN aq)];rfl,rfl,rfl⟩
  ·refine ao ?_;refine ae.skip ?_;refine rg ?_;refine U V.au ?_;refine aA ?_;refine ae.ret ?_;refine mR ?_;first
    |(have c:=eR;exact⟨by rw[pf (vx I)];rfl,rfl,rfl⟩)
    |(have c:=eR;exact⟨by rw[tn (vx I)];rfl,rfl,rfl⟩)
    |exact⟨by
      obtain rfl:k=0:=I
      rw[nW (show x=y by rw[<-e5 x,<-e5 y];exact aa aN aq)];rfl,rfl,rfl⟩
 ·refine ao ?_;refine ae.skip ?_;refine rg ?_;refine al ?_;refine U V.aY ?_;refine U V.au ?_;refine aA ?_;refine ae.block ?_;refine' ae.dO (l':=[(5,.int .i64 ((((ai x).length):Int) -1)),(0,_),(1,_)]) ⟨?gm,rfl,rfl,trivial⟩ (bx _) ?_;case gm=>first|exact bg|exact aa some (aa (Value.int .u64) I)|exact aa some (aa (Value.int .i64) I)
  refine ao ?_;refine' ae.lE (α:=(Nat)) (fun(k:Nat)=>[(5,.int .i64 ((k:Int) -1))]) (fun(k:Nat)=>k<=(ai x).length/\(ai x).drop k=(ai y).drop k) (fun(k:Nat)=>k) ((ai x).length) ?ag ?bD;case ag=>exact⟨bX _,by rw[tb I,tb I]⟩
  case bD=>
   rintro k hinv;try simp only at hinv
   obtain⟨hk,aq⟩:=hinv;refine rg ?_;refine U V.ay ?_;refine U V.bb ?_;refine aA ?_;refine If (fun iw=>?_) fun iw=>?_
   ·obtain⟨a,o,bN,e,rfl,hy,az⟩:=ad.at (oT I);obtain⟨bV,o',yp,b3,rfl,wJ,qv⟩:=af.at (oT I);obtain⟨p,ap,ha,_⟩:=az (k -1) I;obtain⟨q,bS,nz,_⟩:=qv (k -1) I;have ha:nth bN (o+((k:Int) -1).toNat*1)=some (.int .u32 (p:Int)):=by rw[show((k:Int) -1).toNat=k -1 by omega];exact ha
    have nz:nth yp (o'+((k:Int) -1).toNat*1)=some (.int .u32 (q:Int)):=by rw[show((k:Int) -1).toNat=k -1 by omega];exact nz
    refine dW ?_;refine ao ?_;refine ae.block ?_;refine ao ?_;refine ae.draw rfl (by kernel_rfl) (a':=[.val 0,.val 1,.val 2,.val 3,.val 4,.val 5,.val 6,.val 7,.val 8]) (by kernel_rfl) ?_;refine eg ?_;refine aT rfl V.bh ?_;refine aT rfl V.cg ?_;refine eg ?_;refine aT rfl V.bh ?_;refine aT rfl V.cg ?_;refine aT rfl V.bb ?_;refine bp.nil ?_;refine ao ?_;refine If (fun mZ=>?_) fun mZ=>?_
    ·refine rg ?_;refine U V.au ?_;refine aA ?_;refine ae.ret ?_;refine mR ?_;first
       |(have c:=mZ;exact⟨by rw[pf (Dy ap bS (by rw[show k -1+1=k by omega];exact aq) I)];rfl,rfl,rfl⟩)
       |exact⟨by
         obtain rfl:k=0:=I
         rw[nW (show x=y by rw[<-e5 x,<-e5 y];exact aa aN aq)];rfl,rfl,rfl⟩
    ·refine ao ?_;refine ae.skip ?_;refine ao ?_;refine ae.draw rfl (by kernel_rfl) (a':=[.val 0,.val 1,.val 2,.val 3,.val 4,.val 5,.val 6,.val 7,.val 8]) (by kernel_rfl) ?_;refine eg ?_;refine aT rfl V.bh ?_;refine aT rfl V.cg ?_;refine eg ?_;refine aT rfl V.bh ?_;refine aT rfl V.cg ?_;refine aT rfl V.bb ?_;refine bp.nil ?_;refine ao ?_;refine If (fun yo=>?_) fun yo=>?_
     ·refine rg ?_;refine U V.au ?_;refine aA ?_;refine ae.ret ?_;refine mR ?_;first
       |(have c:=mZ;exact⟨by rw[pf (Dy ap bS (by rw[show k -1+1=k by omega];exact aq) I)];rfl,rfl,rfl⟩)
       |(have c:=yo;exact⟨by rw[tn (Dy bS ap (by rw[show k -1+1=k by omega];exact aq.symm) I)];rfl,rfl,rfl⟩)
       |exact⟨by
         obtain rfl:k=0:=I
         rw[nW (show x=y by rw[<-e5 x,<-e5 y];exact aa aN aq)];rfl,rfl,rfl⟩
     ·refine ao ?_;refine ae.skip ?_;refine rg ?_;refine U V.ay ?_;refine U V.aY ?_;refine U V.au ?_;refine a3 ?_;refine'⟨(k -1),_,?hinv,?gi,rfl,⟨?j1,rfl,rfl,trivial⟩,bx _,rfl⟩;case j1=>first|exact bg|exact aa some (aa (Value.int .u64) I)|exact aa some (aa (Value.int .i64) I)
      case gi=>exact bz
      case hinv=>exact⟨I,by rw[drop_cons (i:=k -1) ap,drop_cons (i:=k -1) bS,show k -1+1=k by omega,aq];congr 1;omega⟩
   ·refine ao ?_;refine ae.exit ?_;refine rg ?_;refine U V.au ?_;refine aA ?_;refine ae.ret ?_;refine mR ?_;first
     |exact⟨by
       obtain rfl:k=0:=I
       rw[nW (show x=y by rw[<-e5 x,<-e5 y];exact aa aN aq)];rfl,rfl,rfl⟩
theorem KO{a n cap:Nat}{l:List Nat}(aj:dS l)(aE:n<=l.length)(aJ:n<=cap)(gY:cap<1000000):
 Fn (a1 Q g0) 154 [.slice (some ⟨a,0,none⟩) n cap] [eO .u32 72 a l] J (fun u m' ah=>∃k,u=.slice (some ⟨a,0,none⟩) k cap/\k<=n/\l.take k=ai (aN (l.take n))/\m'=[eO .u32 72 a l]/\J=ah):=by
 have aiA:cap<cQ:=kF gY;have n7:(l.take n).length=n:=by rw[dY];omega
 have fin:∀k:Nat,k<=n->(∀j y,k<=j->(l.take n)[j]?=some y->y=0)->(∀y,0<k->(l.take n)[k -1]?=some y->y≠0)->l.take k=ai (aN (l.take n)):=fun k hk ad af=>by
  rw[<-BE (vF aj) (by rw[n7];exact hk) ad af,rX,gn hk]
 refine Fn.cr (cu Tryz.func154) rfl rfl fun H=>?_;refine rg ?_;refine U V.au ?_;refine aA ?_;refine ae.block ?_;refine' ae.dO (l':=[(0,.slice (some ⟨a,0,none⟩) (n) cap)]) ⟨?w0,trivial⟩ (bx _) ?_;case w0=>first|exact bg|exact aa some (aa (Value.int .u64) I)|exact aa some (aa (Value.int .i64) I)
 refine ao ?_;refine' ae.lE (α:=(Nat)) (fun(k:Nat)=>[(0,.slice (some ⟨a,0,none⟩) k cap)]) (fun(k:Nat)=>k<=n/\∀j y,k<=j->(l.take n)[j]?=some y->y=0) (fun(k:Nat)=>k) (n) ?ag ?bD;case ag=>exact⟨bX _,fun j y ad af=>by have:=(gS.1 af).1;omega⟩
 case bD=>
  rintro k hinv;try simp only at hinv
  obtain⟨hk,aL⟩:=hinv;refine rg ?_;refine al ?_;refine U V.bb ?_;refine U V.ay ?_;refine ft 6 (fun jD=>?_) fun jD=>?_
  ·obtain⟨x,ab⟩:∃x,l[k -1]?=some x:=⟨_,eE I⟩;have fT:(l.take n)[k -1]?=some x:=by rw[ji,bj I];exact ab
   have aE:nth (b7 .u32 l) (0+((k:Int) -1).toNat*1)=some (.int .u32 (x:Int)):=oV ab I;refine bo V.ay ?_;refine bo V.ay ?_;refine bo V.h7 ?_;refine bo V.aY ?_;refine bo V.bh ?_;refine bo V.cI ?_;refine bo V.bb ?_;refine U V.bt ?_;refine aA ?_;refine If (fun gJ=>?_) fun gJ=>?_
   ·refine ao ?_;refine ae.skip ?_;refine ao ?_;refine ae.block ?_;refine rg ?_;refine al ?_;refine U V.aY ?_;refine' W.step rfl (Exec.val rfl rfl (BJ rfl rfl (hb Q g0) rfl ?aO ?ad ?af) ?_);case aO=>exact bz
    case ad=>exact bz
    case af=>first|assumption|exact kF bz
    refine U V.au ?_;refine a3 ?_;rw[show((k:Int) -1).toNat=k -1 by omega];refine'⟨(k -1),_,?hinv,?gi,rfl,⟨?dc,trivial⟩,bx _,rfl⟩;case dc=>first|exact bg|exact aa some (aa (Value.int .u64) I)|exact aa some (aa (Value.int .i64) I)
    case gi=>exact bz
    case hinv=>
     exact⟨I,fun j y ad af=>by
         by_cases q:k<=j
         ·exact aL j y q af
         ·obtain rfl:j=k -1:=I
          rw[fT] at af;injection af with af;omega⟩
   ·refine ao ?_;refine ae.exit ?_;refine rg ?_;refine al ?_;refine aA ?_;refine ae.ret ?_;refine'⟨.inr rfl,rfl,_,_,.tmp rfl .nil,bx _,?_⟩;first
      |(have c:=gJ;exact⟨k,rfl,hk,fin k hk aL (fun y ad af=>by rw[fT] at af;injection af with af;omega),rfl,rfl⟩)
      |exact⟨k,rfl,hk,fin k hk aL (fun y ad af=>by omega),rfl,rfl⟩
  ·refine bs ?_;refine bs ?_;refine bs ?_;refine bs ?_;refine bs ?_;refine bs ?_;refine bs ?_;refine U V.bt ?_;refine aA ?_;refine ae.sb rfl ?_;refine ao ?_;refine ae.exit ?_;refine rg ?_;refine al ?_;refine aA ?_;refine ae.ret ?_;refine'⟨.inr rfl,rfl,_,_,.tmp rfl .nil,bx _,?_⟩;first
    |exact⟨k,rfl,hk,fin k hk aL (fun y ad af=>by omega),rfl,rfl⟩
theorem Eg{v:Value}{x:Nat}(h:cM J v x)(aD:(ai x).length<=2):Fn (a1 Q g0) 115 [v] [] J (fun u m' ah=>u=.int .u64 (x:Int)/\m'=[]/\J=ah):=by
 have aO:=h;have AU:=oi aD;obtain⟨b,c,rfl,kA⟩:=h.bG;refine Fn.cr (cu Tryz.func115) rfl rfl fun H=>?_;refine rg ?_;refine U V.au ?_;refine a2 ?_;refine U V.au ?_;refine a2 ?_;refine al ?_;refine U V.aY ?_;refine U V.au ?_;refine aA ?_;refine ae.block ?_;refine' ae.dO (l':=[(4,.int .i64 ((((ai x).length):Int) -1)),(3,.int .u64 ((0):Int)),(0,_)]) ⟨?kR,?eu,rfl,trivial⟩ (bx _) ?_;case kR=>first|exact bg|exact aa some (aa (Value.int .u64) I)|exact aa some (aa (Value.int .i64) I)
 case eu=>first|exact bg|exact aa some (aa (Value.int .u64) I)|exact aa some (aa (Value.int .i64) I)
 refine ao ?_;refine' ae.lE (α:=(Nat)×(Nat)) (fun(a6:(Nat)×(Nat))=>match a6 with|(k,y)=>[(4,.int .i64 ((k:Int) -1)),(3,.int .u64 (y:Int))]) (fun(a6:(Nat)×(Nat))=>match a6 with|(k,y)=>k<=(ai x).length/\y=aN ((ai x).drop k)) (fun(a6:(Nat)×(Nat))=>match a6 with|(k,y)=>k) ⟨(ai x).length,0⟩ ?ag ?bD
 case ag=>exact⟨bX _,by rw[oy (bX _)];rfl⟩
 case bD=>
  rintro⟨k,y⟩ hinv;try simp only at hinv
  obtain⟨hk,aB⟩:=hinv;refine rg ?_;refine U V.ay ?_;refine U V.bb ?_;refine aA ?_;refine If (fun fp=>?_) fun fp=>?_
  ·obtain⟨a,off,cells,e,rfl,hy,az⟩:=aO.at (oT I);obtain⟨p,ap,y2,e2⟩:=az (k -1) I;have y2:nth cells (off+((k:Int) -1).toNat*1)=some (.int .u32 (p:Int)):=by rw[show((k:Int) -1).toNat=k -1 by omega];exact y2
   have WQ:y<1000000000:=by
    have ad:=k' (Ld (i:=k) (hB x));rw[<-aB,lQ] at ad;have af:1000000000 ^ ((ai x).length -k)<=1000000000 ^ 1:=my bC I;rw[B'] at af;omega
   refine dW ?_;refine ao ?_;refine ae.block ?_;refine rg ?_;refine U V.ay ?_;refine U V.aY ?_;refine al ?_;refine U V.bh ?_;refine U V.cg ?_;refine U V.d' ?_;refine U V.aY ?_;refine U V.au ?_;refine a2 ?_;refine U V.ay ?_;refine U V.aY ?_;refine U V.au ?_;refine a3 ?_;refine'⟨⟨k -1,y*1000000000+p⟩,_,?hinv,?gi,rfl,⟨?mI,?mH,rfl,trivial⟩,bx _,rfl⟩;case mI=>first|exact bg|exact aa some (aa (Value.int .u64) I)|exact aa some (aa (Value.int .i64) I)
   case mH=>first|exact bg|exact aa some (aa (Value.int .u64) I)|exact aa some (aa (Value.int .i64) I)
   case gi=>exact bz
   case hinv=>exact⟨I,by rw[vP ap,show k -1+1=k by omega,<-aB];omega⟩
  ·obtain rfl:k=0:=I
   rw[hi,e5] at aB;refine ao ?_;refine ae.exit ?_;refine rg ?_;refine al ?_;refine aA ?_;refine ae.ret ?_;refine'⟨.inr rfl,rfl,_,[],.tmp rfl .nil,br _,⟨by rw[aB];rfl,rfl,rfl⟩⟩
theorem Qs{n:Nat}(aE:n<1000000000000000000):Fn (a1 Q g0) 137 [.int .u64 (n:Int)] [] J (EI J n):=by
 have aD:(ai n).length<=2:=Xu (iJ aE bC);refine Fn.cr (cu Tryz.func137) rfl rfl fun H=>?_;refine rg ?_;refine U V.au ?_;refine a2 ?_;refine U V.au ?_;refine aA ?_;refine ae.block ?_;refine' ae.dO (l':=[(0,.int .u64 ((n):Int)),(3,(.slice none 0 0))]) ⟨?w0,?eu,trivial⟩ (bx _) ?_;case w0=>first|exact bg|exact aa some (aa (Value.int .u64) I)|exact aa some (aa (Value.int .i64) I)
 case eu=>first|exact bg|exact aa some (aa (Value.int .u64) I)|exact aa some (aa (Value.int .i64) I)
 refine ao ?_;refine' ae.e2 (fun(a6:Nat×(List Nat)×Value×a8)=>match a6 with|(c,out,eu,bZ)=>⟨[(0,.int .u64 (c:Int)),(3,eu)],bZ,J,c<=n/\out++ai c=ai n/\Acc 72 1 eu out.length (b7 .u32 out) bZ,c⟩) ⟨n,[],.slice none 0 0,[]⟩ ?ag ?bD
 case ag=>exact⟨bX _,rfl,.nil⟩
 case bD=>
  rintro⟨c,out,eu,bZ⟩ hinv;try simp only at hinv
  obtain⟨aJ,aj,eW⟩:=hinv;refine rg ?_;refine U V.ay ?_;refine U V.bb ?_;refine aA ?_;refine If (fun gV=>?_) fun gV=>?_
  ·have lu:c≠0:=I
   have iP:out.length<=2:=by
    have:=aa List.length aj;rw[eS] at this;omega
   refine dW ?_;refine ao ?_;refine ae.block ?_;refine rg ?_;refine al ?_;refine U V.hn ?_;rw[show(c:Int).tmod 1000000000=((c % 1000000000:Nat):Int) from rfl];refine U V.d' ?_;refine ll (hb Q g0) fun uM=>?_;refine' W.step rfl (.of (qM rfl rfl rfl rfl rfl rfl (hb Q g0) (sZ Q g0) (fun i q=>by cases q) ?eW ?hm ?ab ?ei ?eh ?aD fun s3 XX ahx asP=>?_));case eW=>exact eW
   case hm=>exact(zL _ bZ).symm
   case ab=>exact zf
   case ei=>first|rfl|(simp;done)|(simp;omega)
   case eh=>first|rfl|exact A0 _
   case aD=>exact(show out.length+1<=1000000 by omega)
   refine U V.au ?_;refine a2 ?_;refine U V.ay ?_;refine U V.hn ?_;refine U V.au ?_;refine a3 ?_;rw[show IntKind.u64.wrap ((c:Int).tdiv 1000000000)=((c / 1000000000:Nat):Int) from rJ (d:=1000000000) I];have bD:c / 1000000000<=n/\(out++[c % 1000000000])++ai (c / 1000000000)=ai n/\Acc 72 1 s3 (out++[c % 1000000000]).length (b7 .u32 (out++[c % 1000000000])) XX:=⟨I,akB lu aj,by rw[y4,eS];exact ahx⟩;refine fl ⟨c / 1000000000,out++[c % 1000000000],s3,XX⟩ ?_ (hm:=zM _ _);exact bD
  ·obtain rfl:c=0:=I
   rw[l5,iU] at aj;refine Acc.pO eW (.of_eq (iU bZ).symm) fun bK aK ax=>?_;rw[aj] at ax;refine ao ?_;refine ae.exit ?_;refine rg ?_;refine al ?_;refine aA ?_;refine ae.ret ?_;refine'⟨.inr rfl,rfl,_,[],.tmp rfl .nil,br _,⟨aK,rfl,_,ax⟩⟩
theorem akJ:Fn (a1 Q g0) 138 [] [] J (EI J 1):=by
 refine Fn.cr (cu Tryz.func138) rfl rfl fun H=>?_;refine rg ?_;refine U V.au ?_;refine a2 ?_;refine ll (hb Q g0) fun bO=>?_;refine U V.au ?_;refine a3 ?_;refine ae.h9 rfl fun bi=>?_;refine ao ?_;refine ae.ret ?_;refine'⟨.inr rfl,rfl,_,[],.tmp rfl .nil,br _,⟨bi,rfl,cM.row (l:=[1]) (n:=1) (by rw[sH bC bC];rfl) bC bC bC (an.g7 _ _ _)⟩⟩
theorem Xf{v:Value}{x:Nat}(h:cM J v x)(aD:(ai x).length<=100000):Fn (a1 Q g0) 144 [v] [] J (EI J x):=by
 have aO:=h;obtain⟨b,c,rfl,kA⟩:=h.bG;refine Fn.cr (cu Tryz.func144) rfl rfl fun H=>?_;refine rg ?_;refine U V.au ?_;refine a2 ?_;refine U V.ay ?_;refine' W.step rfl (.of (qM rfl rfl rfl rfl rfl rfl (hb Q g0) (sZ Q g0) (fun i q=>by cases q) ?eW ?hm ?ab ?ei ?eh ?aD fun kR atk VA asR=>?_));case eW=>exact .nil
 case hm=>exact .refl _
 case ab=>exact cR.rd aO
 case ei=>exact(show(b7 .u32 (ai x)).length=(ai x).length*1 by rw[oU,gT])
 case eh=>exact xx _
 case aD=>exact(show 0+(ai x).length<=1000000 by omega)
 refine U V.au ?_;refine a3 ?_;rw[j7,kp] at VA;refine VA.pO (by rw[iU]) fun bK aK ax=>?_;refine ao ?_;refine ae.ret ?_;refine'⟨.inr rfl,rfl,_,[],.tmp rfl .nil,br _,⟨aK,rfl,_,ax⟩⟩
theorem ZF{v:Value}{x d:Nat}(ab:cM J v x)(gP:(ai x).length<=100000)(aq:0<d)(yK:d<4294967296):Fn (a1 Q g0) 151 [v,.int .u32 (d:Int)] [] J (fun u m' ah=>J.le ah/\m'=[]/\∃w,u=.tuple #[w,.int .u32 ((x % d:Nat):Int)]/\cM ah w (x / d)):=by
 have dM:=ab;obtain⟨bQ,bH,rfl,aX⟩:=ab.bG;refine Fn.cr (cu Tryz.func151) rfl rfl fun H=>?_;refine rg ?_;refine al ?_;refine a2 ?_;refine al ?_;refine' W.step rfl (.of (qN rfl rfl rfl rfl rfl (hb Q g0) ?aO ?ad ?af fun EK=>?_));case aO=>exact bz
 case ad=>exact bz
 case af=>exact bz
 refine U V.au ?_;refine a3 ?_;rw[show((ai x).length:Int).toNat=(ai x).length by omega,zero_num];refine rg ?_;refine U V.au ?_;refine a2 ?_;refine al ?_;refine U V.aY ?_;refine U V.au ?_;refine aA ?_;refine ae.block ?_;refine' ae.dO (l':=[(8,.int .i64 ((((ai x).length):Int) -1)),(7,.int .u64 ((0):Int)),(0,_),(1,_),(6,_)]) ⟨?l8,?kk,rfl,rfl,rfl,trivial⟩ (bx _) ?_;case l8=>first|exact bg|exact aa some (aa (Value.int .u64) I)|exact aa some (aa (Value.int .i64) I)
 case kk=>first|exact bg|exact aa some (aa (Value.int .u64) I)|exact aa some (aa (Value.int .i64) I)
 refine ao ?_;refine' ae.e2 (fun(a6:Nat×Nat×(List Nat))=>match a6 with|(k,r,z)=>⟨[(8,.int .i64 ((k:Int) -1)),(7,.int .u64 (r:Int))],[eO .u32 72 EK z],J,k<=(ai x).length/\r<d/\z.length=(ai x).length/\dS z/\aN ((ai x).drop k)=d*aN (z.drop k)+r,k⟩) ⟨(ai x).length,0,List.replicate (ai x).length 0⟩ ?ag ?bD
 case ag=>exact⟨bX _,aq,mT,DO,by rw[oy (bX _),oy (by rw[mT];exact bX _)];rfl⟩
 case bD=>
  rintro⟨k,r,z⟩ hinv;try simp only at hinv
  obtain⟨hk,av,aL,cc,az⟩:=hinv;refine rg ?_;refine U V.ay ?_;refine U V.bb ?_;refine aA ?_;refine If (fun lU=>?_) fun lU=>?_
  ·obtain⟨tg,eN,nV,ex,rfl,tz,k3⟩:=dM.at (oT I);obtain⟨a,aI,ny,i'⟩:=k3 (k -1) I;have ny:nth nV (eN+((k:Int) -1).toNat*1)=some (.int .u32 (a:Int)):=by rw[show((k:Int) -1).toNat=k -1 by omega];exact ny
   have qt:(r*1000000000+a) / d<1000000000:=(mV aq).2 (by
    have:=e0 1000000000 (show r+1<=d from av);rw[c3,dz d] at this;omega)
   obtain⟨Ro,Px⟩:∃Ro,Ro=(r*1000000000+a) / d:=⟨_,rfl⟩;rw[<-Px] at qt;refine dW ?_;refine ao ?_;refine ae.block ?_;refine rg ?_;refine U V.ay ?_;refine U V.aY ?_;refine al ?_;refine U V.bh ?_;refine U V.cg ?_;refine U V.d' ?_;refine U V.aY ?_;refine U V.au ?_;refine a3 ?_;rw[show(r:Int)*1000000000+(a:Int)=((r*1000000000+a:Nat):Int) by omega];refine rg ?_;refine al ?_;refine U V.d' ?_;refine U V.hn ?_;rw[rJ (x:=r*1000000000+a) (d:=d) I,<-Px];refine U V.d' ?_;refine U V.bh ?_;refine' W.step rfl (.of (ia rfl rfl rfl rfl (hh rfl) rfl rfl rfl ?ad ?ag ?ap ?_));case ap=>repeat first|exact .head _ _ _ _|apply dh.tail|apply dh.app
   case ag=>exact k8 (k -1) I
   case ad=>first|rfl|assumption
   refine a2 ?_;refine al ?_;refine U V.d' ?_;refine U V.hn ?_;refine U V.au ?_;refine a3 ?_;rw[show(((r*1000000000+a:Nat):Int)).tmod (d:Int)=(((r*1000000000+a) % d:Nat):Int) from rfl];refine rg ?_;refine U V.ay ?_;refine U V.aY ?_;refine U V.au ?_;refine a3 ?_;refine fl ⟨k -1,(r*1000000000+a) % d,z.set (k -1) Ro⟩ ?_;exact⟨I,fJ _ aq,by rw[hr];exact aL,y6 cc qt,by rw[Px];exact anT I aI (by rw[show k -1+1=k by omega];exact az)⟩
  ·obtain rfl:k=0:=I
   have m6:x / d=aN z/\x % d=r:=by
    rw[hi,hi,e5] at az;have:=xJ (c4:=x) (V:=d) (g:=aN z) (by rw[dz];omega) (by rw[c3,dz];omega);exact⟨this.1,by rw[this.2,dz];omega⟩
   refine ao ?_;refine ae.exit ?_;refine rg ?_;refine U V.ay ?_;refine' W.step rfl (Exec.call rfl rfl rfl rfl rfl rfl rfl (cj:=[eO .u32 72 EK z]) (eB:=[]) (.refl _) trivial (KO (l:=z) cc I (bX _) I) ?_);rintro v' m' ah hle ⟨k,rfl,hk,gD,rfl,rfl⟩;refine U V.ay ?_;refine U V.d' ?_;refine al ?_;refine a3 ?_;refine ae.h9 rfl fun aK=>?_;rw[<-m6.2];refine ao ?_;refine ae.ret ?_;refine'⟨.inr rfl,rfl,_,[],.tmp rfl (.tmp rfl .nil),br _,⟨aK,rfl,_,rfl,cM.row (by rw[gD,m6.1,<-aL,dd (bX _)]) I hk (kF I) (an.g7 _ _ _)⟩⟩
theorem XG{v:Value}{x f size:Nat}(ab:cM J v x)(gP:(ai x).length<=size)(h7:size<=100001)(aM:f<=1000000000)(ak:x*f<1000000000 ^ size):Fn (a1 Q g0) 152 [v,.int .u64 (f:Int),.int .i64 (size:Int)] [] J (fun u m' ah=>∃a z,u=.slice (some ⟨a,0,none⟩) size size/\m'=[eO .u32 72 a z]/\z.length=size/\dS z/\aN z=x*f/\J=ah):=by
 have dM:=ab;obtain⟨bQ,bH,rfl,aX⟩:=ab.bG;refine Fn.cr (cu Tryz.func152) rfl rfl fun H=>?_;refine rg ?_;refine U V.au ?_;refine a2 ?_;refine U V.ay ?_;refine' W.step rfl (.of (qN rfl rfl rfl rfl rfl (hb Q g0) ?aO ?ad ?af fun r5=>?_));case aO=>exact bz
 case ad=>exact bz
 case af=>exact bz
 refine U V.au ?_;refine a3 ?_;rw[show((size:Int)).toNat=size by omega,zero_num];refine rg ?_;refine U V.au ?_;refine a2 ?_;refine al ?_;refine aA ?_;refine ae.block ?_;refine' ae.dO (l':=[(14,.int .i64 ((0):Int)),(8,.int .u64 ((0):Int)),(0,_),(1,_),(7,_),(13,_)]) ⟨?us,?l8,rfl,rfl,rfl,rfl,trivial⟩ (bx _) ?_;case us=>first|exact bg|exact aa some (aa (Value.int .u64) I)|exact aa some (aa (Value.int .i64) I)
 case l8=>first|exact bg|exact aa some (aa (Value.int .u64) I)|exact aa some (aa (Value.int .i64) I)
 refine ao ?_;refine' ae.e2 (fun(a6:Nat×Nat×(List Nat))=>match a6 with|(i,c,z)=>⟨[(14,.int .i64 (i:Int)),(8,.int .u64 (c:Int))],[eO .u32 72 r5 z],J,i<=size/\c<=1000000000/\z.length=size/\dS z/\aN (z.take i)+1000000000 ^ i*c=aN ((ai x).take i)*f,size -i⟩) ⟨0,0,List.replicate size 0⟩ ?ag ?bD
 case ag=>exact⟨ep _,by decide,mT,DO,by rw[fh,fh];show 0+_*0=0*f;rw[jk,j8]⟩
 case bD=>
  rintro⟨i,c,z⟩ hinv;try simp only at hinv
  obtain⟨ar,aJ,aL,cc,az⟩:=hinv;refine rg ?_;refine U V.bb ?_;refine aA ?_;refine If (fun eR=>?_) fun eR=>?_
  ·obtain⟨P,cX⟩:∃P,P=(ai x).getD i 0*f:=⟨_,rfl⟩;have sk:P<=999999999*1000000000:=by rw[cX];exact r1 (by have:=tu (hB x) i;omega) aM
   obtain⟨s,ag⟩:∃s,s=c+P:=⟨_,rfl⟩;refine dW ?_;refine ao ?_;refine ae.block ?_;refine rg ?_;refine al ?_;refine a2 ?_;refine al ?_;refine U V.bb ?_;refine a3 ?_;refine eP [8,20,0,1,7,9,13,14] ?_;refine ao ?_;refine' ae.hf 2 [(8,.int .u64 (s:Int))] ?adz ?aeI;case adz=>
    refine If (fun iw=>?_) fun iw=>?_
    ·obtain⟨tg,eN,nV,ex,rfl,tz,k3⟩:=dM.at (oT I);obtain⟨p,ap,y2,e2⟩:=k3 i I;have ar8:(p:Int)*(f:Int)=(P:Int):=by rw[cX,ig ap,gM]
     refine rg ?_;refine al ?_;refine U V.bh ?_;refine U V.cg ?_;refine U V.d' ?_;refine U V.ay ?_;refine U V.aY ?_;refine U V.aY ?_;refine U V.au ?_;refine a3 ?_;refine'⟨⟨_,rfl,⟨?nD,rfl,rfl,rfl,rfl,rfl,rfl,trivial⟩⟩,bx _,rfl⟩;case nD=>first|exact aa some (aa (Value.int .u64) (by rw[ag,cX,ig ap];omega))|exact aa some (aa (Value.int .u64) (by rw[ag,cX,lX (l:=ai x) I];omega))
    ·refine ao ?_;refine ae.skip ?_;refine'⟨⟨_,rfl,⟨?nD,rfl,rfl,rfl,rfl,rfl,rfl,trivial⟩⟩,bx _,rfl⟩;case nD=>first|exact aa some (aa (Value.int .u64) (by rw[ag,cX,ig ap];omega))|exact aa some (aa (Value.int .u64) (by rw[ag,cX,lX (l:=ai x) I];omega))
   case aeI=>
    refine rg ?_;refine al ?_;refine U V.hn ?_;rw[show(s:Int).tmod 1000000000=((s % 1000000000:Nat):Int) from rfl];refine U V.d' ?_;refine U V.bh ?_;refine' W.step rfl (.of (ia rfl rfl rfl rfl (hh rfl) rfl rfl rfl ?ad ?ag ?ap ?_));case ap=>repeat first|exact .head _ _ _ _|apply dh.tail|apply dh.app
    case ag=>exact k8 i I
    case ad=>first|rfl|assumption
    refine a2 ?_;refine U V.ay ?_;refine U V.hn ?_;refine U V.au ?_;refine a3 ?_;rw[show IntKind.u64.wrap ((s:Int).tdiv 1000000000)=((s / 1000000000:Nat):Int) from rJ (d:=1000000000) I];refine rg ?_;refine U V.aY ?_;refine U V.ay ?_;refine a3 ?_;refine fl ⟨i+1,s / 1000000000,z.set i (s % 1000000000)⟩ ?_;exact⟨I,I,by rw[hr];exact aL,y6 cc (fJ _ bC),by
        rw[aas I,vQ (ai x),c3];have e:=ado i s;have aW:1000000000 ^ i*s=1000000000 ^ i*c+1000000000 ^ i*(ai x).getD i 0*f:=by rw[ag,cX,cS,fi]
        omega⟩
  ·obtain rfl:i=size:=I
   rw[dd (l:=ai x) gP,e5,<-aL,dd (bX _),aL] at az;have lu:c=0:=by
    rcases jj c with k|k
    ·exact k
    ·have:=hs (1000000000 ^ i) k
     omega
   refine ao ?_;refine ae.exit ?_;refine rg ?_;refine al ?_;refine aA ?_;refine ae.ret ?_;refine'⟨.inr rfl,rfl,_,_,.tmp rfl .nil,bx _,⟨r5,z,rfl,rfl,aL,cc,by rw[<-az,lu,jk,iI],rfl⟩⟩
end
end
end Go.Opn

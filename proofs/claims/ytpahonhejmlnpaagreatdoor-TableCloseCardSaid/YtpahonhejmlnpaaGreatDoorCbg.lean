/- A part of the proof of TableClose. -/
import Derived.Test.YtpahonhejmlnpaaGreatDoorCbf
set_option maxRecDepth 100000
set_option maxHeartbeats 8000000
set_option linter.unusedVariables false
set_option linter.unusedSimpArgs false
namespace Go.Opn
noncomputable section
open Go.Cre Go.RowKit Go.Proofs
section
variable {K:dG}{B:dt}{o:Oper}{n:Nat}{ds:dQ}{l:List (Nat×Value)}{m:aU}{J:an}
theorem aeC{t dK:TypeId}{x y:Operand}{k:IntKind}{a b:Int}(ag:o.op=.binOp .or t x y dK)(U:bH l x=some (.int k a))(aF:bH l y=some (.int k b)):cC K B o n ds l m J (.int k (k.wrap (BitVec.ofInt k.bits a ||| BitVec.ofInt k.bits b).toNat)):=by
 intro call aE S H ak av;unfold ct eA;simp only[ag];show jV K.P _ .or t (aW S.T H x) (aW S.T H y)=_;rw[c1 ak H U,c1 ak H aF];show(bif jR k k then ir H k a b _ .or else _)=_;rw[yq,b1];have key:eI K.P S.T H o=some (.val (.int k (k.wrap (BitVec.ofInt k.bits a ||| BitVec.ofInt k.bits b).toNat)) H):=by
  refine mc ak (by rw[ag];rfl) U aF rfl rfl ?_ rfl;unfold execOp;simp only[ag];rw[gS ak H U,gS ak H aF];have aq:eJ K.P (eqGuard .or t x y (.int k a) (.int k b))=some ():=rfl;have kx:binOp .or t (.int k a) (.int k b)=pure (.int k (k.wrap (BitVec.ofInt k.bits a ||| BitVec.ofInt k.bits b).toNat)):=by simp[binOp,Op.intBits]
  rw[fj (a:=.int k (k.wrap (BitVec.ofInt k.bits a ||| BitVec.ofInt k.bits b).toNat))]
  ·rfl
  rw[fj aq,kx];rfl
 exact(show ir H k a b _ .or=_ from key)
theorem aeE{t dK:TypeId}{x y:Operand}{k a4:IntKind}{a b:Int}(ag:o.op=.binOp .shl t x y dK)(U:bH l x=some (.int k a))(aF:bH l y=some (.int a4 b))(og:jR k a4=false)(aX:0<=b)(aa:b<=k.bits):cC K B o n ds l m J (.int k (k.wrap (a*2 ^ b.toNat))):=by
 intro call aE S H ak av;unfold ct eA;simp only[ag];show jV K.P _ .shl t (aW S.T H x) (aW S.T H y)=_;rw[c1 ak H U,c1 ak H aF];show(bif jR k a4 then ir H k a b _ .shl else _)=_;rw[og,da];have key:eI K.P S.T H o=some (.val (.int k (k.wrap (a*2 ^ b.toNat))) H):=by
  refine mc ak (by rw[ag];rfl) U aF rfl rfl ?_ rfl;unfold execOp;simp only[ag];rw[gS ak H U,gS ak H aF];have aq:eJ K.P (eqGuard .shl t x y (.int k a) (.int a4 b))=some ():=rfl;have kx:binOp .shl t (.int k a) (.int a4 b)=pure (.int k (k.wrap (a*2 ^ b.toNat))):=by
   simp[binOp,Op.shift,show ¬b<0 by omega,g9 (show b.toNat<=k.bits by omega)]
  rw[fj (a:=.int k (k.wrap (a*2 ^ b.toNat)))]
  ·rfl
  rw[fj aq,kx];rfl
 show orElse (eI K.P S.T H o) _=_;rw[key];rfl
theorem qG{t dK:TypeId}{x y:Operand}{k a4:IntKind}{a b:Int}(ag:o.op=.binOp .shl t x y dK)(U:bH l x=some (.int k a))(aF:bH l y=some (.int a4 b))(aX:0<=b)(aa:b<=k.bits):cC K B o n ds l m J (.int k (k.wrap (a*2 ^ b.toNat))):=by
 cases og:jR k a4 with
 |false=>exact aeE ag U aF og aX aa
 |true=>
  obtain rfl:k=a4:=by revert og;cases k<;>cases a4<;>intro og<;>first|rfl|cases og
  intro call aE S H ak av;unfold ct eA;simp only[ag];show jV K.P _ .shl t (aW S.T H x) (aW S.T H y)=_;rw[c1 ak H U,c1 ak H aF];show(bif jR k k then ir H k a b _ .shl else _)=_;rw[og,b1];have key:eI K.P S.T H o=some (.val (.int k (k.wrap (a*2 ^ b.toNat))) H):=by
   refine mc ak (by rw[ag];rfl) U aF rfl rfl ?_ rfl;unfold execOp;simp only[ag];rw[gS ak H U,gS ak H aF];have aq:eJ K.P (eqGuard .shl t x y (.int k a) (.int k b))=some ():=rfl;have kx:binOp .shl t (.int k a) (.int k b)=pure (.int k (k.wrap (a*2 ^ b.toNat))):=by
        simp[binOp,Op.shift,show ¬b<0 by omega,g9 (show b.toNat<=k.bits by omega)]
   rw[fj (a:=.int k (k.wrap (a*2 ^ b.toNat)))]
   ·rfl
   rw[fj aq,kx];rfl
  exact(show ir H k a b _ .shl=_ from key)
theorem RA{t dK:TypeId}{x y:Operand}{k a4:IntKind}{a b:Int}(ag:o.op=.binOp .shr t x y dK)(U:bH l x=some (.int k a))(aF:bH l y=some (.int a4 b))(og:jR k a4=false)(aX:0<=b)(aa:b<=k.bits):cC K B o n ds l m J (.int k (a.fdiv (2 ^ b.toNat))):=by
 intro call aE S H ak av;unfold ct eA;simp only[ag];show jV K.P _ .shr t (aW S.T H x) (aW S.T H y)=_;rw[c1 ak H U,c1 ak H aF];show(bif jR k a4 then ir H k a b _ .shr else _)=_;rw[og,da];have key:eI K.P S.T H o=some (.val (.int k (a.fdiv (2 ^ b.toNat))) H):=by
  refine mc ak (by rw[ag];rfl) U aF rfl rfl ?_ rfl;unfold execOp;simp only[ag];rw[gS ak H U,gS ak H aF];have aq:eJ K.P (eqGuard .shr t x y (.int k a) (.int a4 b))=some ():=rfl;have kx:binOp .shr t (.int k a) (.int a4 b)=pure (.int k (a.fdiv (2 ^ b.toNat))):=by
   simp[binOp,Op.shift,show ¬b<0 by omega,g9 (show b.toNat<=k.bits by omega)]
  rw[fj (a:=.int k (a.fdiv (2 ^ b.toNat)))]
  ·rfl
  rw[fj aq,kx];rfl
 show orElse (eI K.P S.T H o) _=_;rw[key];rfl
end
def jI:List Nat:=[0,1,56,2,57,49,28,3,61,58,42,50,38,29,17,4,62,47,59,36,45,43,51,22,53,39,33,30,24,18,12,5,63,55,48,27,60,41,37,16,46,35,44,21,52,32,23,11,54,26,40,15,34,20,31,10,25,14,19,9,13,8,7,6]
def uo(x:Nat):Nat:=(((x &&& (18446744073709551616 -x))*285870213051353865) % 18446744073709551616) / 288230376151711744
def lr(x:Nat):Nat:=jI.getD (uo x) 0
def hj(x:Nat):Nat:=x / 2 ^ lr x
def ad8(x:Nat):Bool:=decide (x≠0->uo x<64/\jI[uo x]?=some (lr x)/\lr x<=12/\x=2 ^ lr x*hj x/\hj x % 2=1/\(x % 2=1->lr x=0))
theorem ad':∀a,a<128->∀b,b<64->ad8 (64*a+b)=true:=by decide+kernel
theorem uN(x:Nat)(h:x<8192)(aX:x≠0):uo x<64/\jI[uo x]?=some (lr x)/\lr x<=12/\x=2 ^ lr x*hj x/\hj x % 2=1/\(x % 2=1->lr x=0):=by
 have:=ad' (x / 64) (by omega) (x % 64) (by omega);rw[Fs] at this;exact yz this aX
def ad9(x:Nat):Bool:=decide (x≠0->(IntKind.u64.wrap (IntKind.u64.wrap ((BitVec.ofInt IntKind.u64.bits (x:Int) &&& BitVec.ofInt IntKind.u64.bits ((18446744073709551616 -x:Nat):Int)).toNat:Int)*285870213051353865)).fdiv (2 ^ ((58:Int).toNat))=((uo x:Nat):Int))
theorem aeb:∀a:Nat,a<128->∀b:Nat,b<64->ad9 (64*a+b)=true:=by decide+kernel
theorem aea(x:Nat)(h:x<8192)(aX:x≠0):(IntKind.u64.wrap (IntKind.u64.wrap ((BitVec.ofInt IntKind.u64.bits (x:Int) &&& BitVec.ofInt IntKind.u64.bits ((18446744073709551616 -x:Nat):Int)).toNat:Int)*285870213051353865)).fdiv (2 ^ ((58:Int).toNat))=((uo x:Nat):Int):=by
 have:=aeb (x / 64) (by omega) (x % 64) (by omega);rw[Fs] at this;exact yz this aX
theorem aaA{x:Nat}(aX:x≠0)(h:x<8192):IntKind.u64.wrap (-(x:Int))=((18446744073709551616 -x:Nat):Int):=by
 unfold IntKind.wrap IntKind.signed IntKind.bits;simp only[B',y8,yi];omega
theorem abI{x y:Nat}(U:x<8192)(aF:y<8192):IntKind.u64.wrap ((BitVec.ofInt IntKind.u64.bits (x:Int) ||| BitVec.ofInt IntKind.u64.bits (y:Int)).toNat:Int)=((x ||| y:Nat):Int)/\x ||| y<8192:=by
 have ab:x ||| y<2 ^ 13:=Nat.or_lt_two_pow (by omega) (by omega)
 have aa:(BitVec.ofInt 64 (x:Int) ||| BitVec.ofInt 64 (y:Int)).toNat=x ||| y:=by
  rw[BitVec.toNat_or,BitVec.toNat_ofInt,BitVec.toNat_ofInt];congr 1<;>omega
 refine⟨?_,ab⟩;show IntKind.u64.wrap ((BitVec.ofInt 64 (x:Int) ||| BitVec.ofInt 64 (y:Int)).toNat:Int)=_;rw[aa];exact wrap_u64 (by omega) (by omega)
theorem Wk{a x:Nat}(aK:a % 2=1)(U:x<8192)(gN:x≠0):Nat.gcd a (hj x)=Nat.gcd a x:=by
 obtain⟨_,_,_,h,_⟩:=uN x U gN;have aL:Nat.Coprime a (2 ^ lr x):=SK _ (by
  show Nat.gcd a 2=1;rw[oL,w7,aK];rfl)
 conv=>rhs;rw[h]
 exact(Nat.Coprime.gcd_mul_left_cancel_right _ aL.symm).symm
theorem PN{x:Nat}:hj x<=x:=sc _ _
theorem PO{x:Nat}(U:x<8192)(gN:x≠0):hj x≠0:=fun h=>by
 have:=(uN x U gN).2.2.2.2.1;rw[h] at this;cases this
theorem Je{a k:Nat}(aK:a % 2=1):Nat.Coprime a (2 ^ k):=SK _ (by
 show Nat.gcd a 2=1;rw[oL,w7,aK];rfl)
theorem Ej{d a:Nat}(h:d ∣ a)(aK:a % 2=1):d % 2=1:=by
 obtain⟨c,rfl⟩:=h;rcases Lm d with k|k
 ·rw[Nat.mul_mod,k,nV] at aK;cases aK
 ·exact k
theorem Wi{x y:Nat}(U:x<8192)(aF:y<8192)(gN:x≠0)(ah:x ||| y<8192):x ||| y≠0/\Nat.gcd x y=Nat.gcd (hj x) y*2 ^ lr (x ||| y):=by
 have a0:x ||| y≠0:=fun k=>gN (Nat.or_eq_zero_iff.1 k).1
 obtain⟨_,_,_,he,ag,_⟩:=uN _ ah a0;obtain⟨_,_,_,OJ,OK,_⟩:=uN x U gN;refine⟨a0,?_⟩;generalize lr (x ||| y)=t at*;generalize hj (x ||| y)=o at*;have hm:∀k,2 ^ k ∣ x ||| y↔2 ^ k ∣ x/\2 ^ k ∣ y:=fun k=>by
  rw[Lh,Nat.or_mod_two_pow,Nat.or_eq_zero_iff,<-Lh,<-Lh]
 obtain⟨⟨dg,gn⟩,⟨kI,ui⟩⟩:=(hm t).1 ⟨o,he⟩;have Yo:dg % 2=1\/kI % 2=1:=by
  rcases Lm dg with k|k
  ·rcases Lm kI with j|j
   ·exfalso
    obtain⟨c,aL⟩:=SM k;obtain⟨d,au⟩:=SM j;obtain⟨w,hw⟩:=(hm (t+1)).2 ⟨⟨c,by rw[gn,aL,mu,nU]⟩,⟨d,by rw[ui,au,mu,nU]⟩⟩;rw[he,mu,nU] at hw;have:=Nat.eq_of_mul_eq_mul_left (zm (by decide)) hw;omega
   ·exact .inr j
  ·exact .inl k
 have p4:Nat.gcd dg kI % 2=1:=by
  rcases Yo with k|k
  ·exact Ej (oM _ _) k
  ·exact Ej (qW _ _) k
 have aa:Nat.gcd x y=2 ^ t*Nat.gcd dg kI:=by rw[gn,ui,Nat.gcd_mul_left]
 have ab:Nat.gcd (hj x) y=Nat.gcd dg kI:=by
  refine Nat.dvd_antisymm (Nat.dvd_gcd ?_ ?_) (Nat.dvd_gcd ?_ ?_)
  ·have a9:=Ej (oM (hj x) y) OK
   have a4:Nat.gcd (hj x) y ∣ 2 ^ t*dg:=by rw[<-gn];exact Fu (oM _ _) ⟨2 ^ lr x,by rw[j4];exact OJ⟩
   exact(Je a9).dvd_of_dvd_mul_left a4
  ·have a9:=Ej (oM (hj x) y) OK
   have a4:Nat.gcd (hj x) y ∣ 2 ^ t*kI:=by rw[<-ui];exact qW _ _
   exact(Je a9).dvd_of_dvd_mul_left a4
  ·have a4:Nat.gcd dg kI ∣ 2 ^ lr x*hj x:=by rw[<-OJ,gn];exact Fu (oM _ _) ⟨2 ^ t,j4 _ _⟩
   exact(Je p4).dvd_of_dvd_mul_left a4
  ·rw[ui];exact Fu (qW _ _) ⟨2 ^ t,j4 _ _⟩
 rw[aa,ab,j4]
theorem Q0{x:Nat}:(x:Int).fdiv (2 ^ (((lr x:Nat):Int)).toNat)=((hj x:Nat):Int):=by
 rw[jq];exact QZ
section
variable {Q:ek Tryz.prog}{g0:Nat}{J:an}
theorem J7{x:Nat}{e:TypeId}(b6:J 2=some (ca .u8 jI,e))(aq:Nat.blt 2 (aO Q g0).g0=true)(gN:x≠0)(U:x<8192):Fn (aO Q g0) 141 [.int .u64 (x:Int)] [] J (fun u m' ae=>u=.int .i64 ((lr x:Nat):Int)/\m'=[]/\J=ae):=by
 obtain⟨aa,ab,aY,_⟩:=uN x U gN;have aw:nth (ca .u8 jI) (0+((uo x:Nat):Int).toNat*1)=some (.int .u8 ((lr x:Nat):Int)):=s9 ab (by omega);refine Fn.ck (ch Tryz.func141) rfl rfl fun H=>?_;refine rg ?_;refine I V.aI ?_;refine bb ?_;refine I V.aJ ?_;refine I V.a' ?_;refine aD ?_;refine If (fun dH=>?_) fun dH=>?_
 ·exfalso;omega
 ·refine aG ?_;refine ad.skip ?_;refine rg ?_;refine aH ?_;refine' W.step rfl (Exec.val rfl rfl (uP rfl rfl ?hw) ?_);case hw=>exact aaA gN U
  refine' W.step rfl (Exec.val rfl rfl (ER rfl rfl rfl) ?_);refine I V.bW ?_;refine' W.step rfl (Exec.val rfl rfl (yT rfl rfl rfl rfl ?aX ?aa) ?_);case aX=>exact bS
  case aa=>first|decide|exact bS|exact(show _<=((64:Nat):Int) from(by omega))
  rw[aea x U gN];refine' W.step rfl (Exec.val rfl rfl (aeu rfl ?aq ?fu rfl (Rg rfl) ?aX ?aa) ?_);case fu=>assumption
  case aq=>assumption
  case aX=>exact bS
  case aa=>exact bS
  refine I V.c2 ?_;refine I V.gk ?_;refine I V.aI ?_;refine aD ?_;refine ad.ret ?_;refine'⟨.inr rfl,rfl,_,[],.tmp rfl .nil,bZ _,⟨rfl,rfl,rfl⟩⟩
theorem L4{x y:Nat}{e:TypeId}(b6:J 2=some (ca .u8 jI,e))(aq:Nat.blt 2 (aO Q g0).g0=true)(U:x<8192)(aF:y<8192):Fn (aO Q g0) 119 [.int .u64 (x:Int),.int .u64 (y:Int)] [] J (fun u m' ae=>u=.int .u64 (Nat.gcd x y:Nat)/\m'=[]/\J=ae):=by
 refine Fn.ck (ch Tryz.func119) rfl rfl fun H=>?_;refine rg ?_;refine I V.aI ?_;refine bb ?_;refine I V.aJ ?_;refine I V.a' ?_;refine aD ?_;refine If (fun gA=>?_) fun gA=>?_
 ·have fD:x=0:=by omega
  have Iv:Nat.gcd x y=y:=by rw[fD,Nat.gcd_zero_left]
  refine rg ?_;refine aH ?_;refine aD ?_;refine ad.ret ?_;refine'⟨.inr rfl,rfl,_,[],.tmp rfl .nil,bZ _,?_⟩;first
   |(have c:=gA;exact⟨by rw[Iv];rfl,rfl,rfl⟩)
   |exact⟨by rw[Hh,wrap_u64 (by omega) (by omega)];rfl,rfl,rfl⟩
 ·have fD:x≠0:=by omega
  refine l8 ?_;refine I V.aJ ?_;refine I V.a' ?_;refine aD ?_;refine If (fun dq=>?_) fun dq=>?_
  ·have h6:y=0:=by omega
   have nA:Nat.gcd x y=x:=by rw[h6,u2]
   refine rg ?_;refine aH ?_;refine aD ?_;refine ad.ret ?_;refine'⟨.inr rfl,rfl,_,[],.tmp rfl .nil,bZ _,?_⟩;first
    |(have c:=gA;exact⟨by rw[Iv];rfl,rfl,rfl⟩)
    |(have c:=dq;exact⟨by rw[nA];rfl,rfl,rfl⟩)
    |exact⟨by rw[Hh,wrap_u64 (by omega) (by omega)];rfl,rfl,rfl⟩
  ·have h6:y≠0:=by omega
   obtain⟨Yn,AE⟩:=abI U aF;obtain⟨Of,Ao⟩:=Wi U aF fD AE;obtain⟨_,_,ahz,ahA,ZT,_⟩:=uN x U fD;obtain⟨_,_,ahy,_,_,_⟩:=uN _ AE Of;have ahB:=PN (x:=x);have ahC:=PO U fD;have sK:Nat.gcd x y<=x:=Nat.le_of_dvd (Lq fD) (oM _ _);refine l8 ?_;refine aH ?_;refine' W.step rfl (Exec.val rfl rfl (aeC rfl rfl rfl) ?_);rw[Yn];refine b4 (G:=J7 b6 aq Of AE) (h:=?_);rintro v' m' ae hle ⟨rfl,rfl,rfl⟩;refine I V.aI ?_;refine bb ?_;refine aH ?_;refine b4 (G:=J7 b6 aq fD U) (h:=?_);rintro v' m' ae hle ⟨rfl,rfl,rfl⟩;refine' W.step rfl (Exec.val rfl rfl (RA rfl rfl rfl rfl ?aX ?aa) ?_);case aX=>exact bS
   case aa=>first|decide|exact bS|exact(show _<=((64:Nat):Int) from(by omega))
   refine I V.aI ?_;refine bR ?_;rw[Q0];refine aG ?_;refine ad.block ?_;refine' ad.eH (l':=[(0,.int .u64 ((hj x):Int)),(1,.int .u64 ((y):Int)),(5,_)]) ⟨?w0,?bh,rfl,trivial⟩ (cd _) ?_;case w0=>first|exact cq|exact aj some (aj (Value.int .u64) (by omega))|exact aj some (aj (Value.int .i64) (by omega))
   case bh=>first|exact cq|exact aj some (aj (Value.int .u64) (by omega))|exact aj some (aj (Value.int .i64) (by omega))
   refine aG ?_;refine' ad.mQ (α:=(Nat)×(Nat)) (fun(cG:(Nat)×(Nat))=>match cG with|(a,b)=>[(0,.int .u64 (a:Int)),(1,.int .u64 (b:Int))]) (fun(cG:(Nat)×(Nat))=>match cG with|(a,b)=>a % 2=1/\a<8192/\b<8192/\Nat.gcd a b=Nat.gcd (hj x) y) (fun(cG:(Nat)×(Nat))=>match cG with|(a,b)=>a+b) ⟨hj x,y⟩ ?af ?bT
   case af=>exact⟨ZT,by omega,aF,rfl⟩
   case bT=>
    rintro⟨a,b⟩ hinv;try simp only at hinv
    obtain⟨aK,agH,kw,mI⟩:=hinv;refine rg ?_;refine I V.aJ ?_;refine I V.a' ?_;refine aD ?_;refine If (fun nn=>?_) fun nn=>?_
    ·have fC:b≠0:=by omega
     obtain⟨_,_,ahv,_,ZC,_⟩:=uN b kw fC;have ahw:=PN (x:=b);have ahx:=PO kw fC;have Hr:Nat.gcd a (hj b)=Nat.gcd (hj x) y:=by rw[Wk aK kw fC];exact mI
     have eb:hj b<=a->Nat.gcd (hj b) (a -hj b)=Nat.gcd (hj x) y:=fun h=>by
        rw[SO h,oL];exact Hr
     have e':a<=hj b->Nat.gcd a (hj b -a)=Nat.gcd (hj x) y:=fun h=>by
        rw[SO h];exact Hr
     refine e4 ?_;refine aG ?_;refine ad.block ?_;refine rg ?_;refine aH ?_;refine b4 (G:=J7 b6 aq fC kw) (h:=?_);rintro v' m' ae hle ⟨rfl,rfl,rfl⟩;refine' W.step rfl (Exec.val rfl rfl (RA rfl rfl rfl rfl ?aX ?aa) ?_);case aX=>exact bS
     case aa=>first|decide|exact bS|exact(show _<=((64:Nat):Int) from(by omega))
     refine I V.aI ?_;refine bR ?_;rw[Q0];refine rg ?_;refine aH ?_;refine I V.a' ?_;refine aD ?_;refine If (fun F5=>?_) fun F5=>?_
     ·refine rg ?_;refine aH ?_;refine bb ?_;refine aH ?_;refine I V.bW ?_;refine I V.aI ?_;refine bR ?_;refine'⟨⟨hj b,a -hj b⟩,_,?hinv,?hh,rfl,⟨?dV,?cE,rfl,trivial⟩,cd _,rfl⟩;case dV=>first|exact cq|exact aj some (aj (Value.int .u64) (by omega))|exact aj some (aj (Value.int .i64) (by omega))
      case cE=>first|exact cq|exact aj some (aj (Value.int .u64) (by omega))|exact aj some (aj (Value.int .i64) (by omega))
      case hh=>exact bS
      case hinv=>exact⟨ZC,by omega,by omega,eb (by omega)⟩
     ·refine aG ?_;refine ad.skip ?_;refine rg ?_;refine aH ?_;refine I V.bW ?_;refine I V.aI ?_;refine bR ?_;refine'⟨⟨a,hj b -a⟩,_,?hinv,?hh,rfl,⟨?dV,?cE,rfl,trivial⟩,cd _,rfl⟩;case dV=>first|exact cq|exact aj some (aj (Value.int .u64) (by omega))|exact aj some (aj (Value.int .i64) (by omega))
      case cE=>first|exact cq|exact aj some (aj (Value.int .u64) (by omega))|exact aj some (aj (Value.int .i64) (by omega))
      case hh=>exact bS
      case hinv=>exact⟨aK,by omega,by omega,e' (by omega)⟩
    ·have fC:b=0:=by omega
     have Hh:(a:Int)*2 ^ (((lr (x ||| y):Nat):Int)).toNat=((Nat.gcd x y:Nat):Int):=by
        rw[fC,u2] at mI;rw[Ao,mI,jq,gZ,Int.natCast_pow];rfl
     refine aG ?_;refine ad.exit ?_;refine rg ?_;refine aH ?_;refine' W.step rfl (Exec.val rfl rfl (qG rfl rfl rfl ?aX ?aa) ?_);case aX=>exact bS
     case aa=>first|decide|exact bS|exact(show _<=((64:Nat):Int) from(by omega))
     refine I V.aI ?_;refine aD ?_;refine ad.ret ?_;refine'⟨.inr rfl,rfl,_,[],.tmp rfl .nil,bZ _,?_⟩;first
        |(have c:=gA;exact⟨by rw[Iv];rfl,rfl,rfl⟩)
        |(have c:=dq;exact⟨by rw[nA];rfl,rfl,rfl⟩)
        |exact⟨by rw[Hh,wrap_u64 (by omega) (by omega)];rfl,rfl,rfl⟩
end
end
end Go.Opn

/- A part of the proof of TableRounds. -/
import Derived.Test.YtfdhclnfkafebaaGreatDoorCau
import Derived.Test.YtfdhclnfkafebaaGreatDoorCba
set_option linter.unusedVariables false
set_option linter.unusedSimpArgs false
set_option maxRecDepth 100000
namespace Go.Opn
noncomputable section
theorem agr{A B:Nat}{w x y z:Int}(aq:w*z -x*y=1\/w*z -x*y=-1):Nat.gcd (w*A+x*B).natAbs (y*A+z*B).natAbs=Nat.gcd A B:=by
 have aj6:z*(w*A+x*B) -x*(y*A+z*B)=(w*z -x*y)*A:=by
  rw[nj,nj,nk]
  have aC:z*(w*(A:Int))=w*z*A:=by ac_rfl
  have aW:z*(x*(B:Int))=x*(z*B):=by ac_rfl
  have cw:x*(y*(A:Int))=x*y*A:=by ac_rfl
  omega
 have aj7:w*(y*A+z*B) -y*(w*A+x*B)=(w*z -x*y)*B:=by
  rw[nj,nj,nk]
  have aC:w*(z*(B:Int))=w*z*B:=by ac_rfl
  have aW:w*(y*(A:Int))=y*(w*A):=by ac_rfl
  have cw:y*(x*(B:Int))=x*y*B:=by ac_rfl
  omega
 generalize cX:w*(A:Int)+x*B=P at*
 generalize gq:y*(A:Int)+z*B=R at*
 refine Mn (Ey ?_ ?_) (Ey ?_ ?_)
 ·have ad:((Nat.gcd P.natAbs R.natAbs:Nat):Int) ∣ P:=rU.2 (lf _ _)
  have af:((Nat.gcd P.natAbs R.natAbs:Nat):Int) ∣ R:=rU.2 (nl _ _)
  have aV:=L6 (o4 (b:=z) ad) (o4 (b:=x) af)
  rw[aj6] at aV
  refine uA.1 ?_
  rcases aq with d|d
  ·rw[d,rV] at aV;exact aV
  ·rw[d,nL,rV] at aV;exact(Int.dvd_neg).1 aV
 ·have ad:((Nat.gcd P.natAbs R.natAbs:Nat):Int) ∣ P:=rU.2 (lf _ _)
  have af:((Nat.gcd P.natAbs R.natAbs:Nat):Int) ∣ R:=rU.2 (nl _ _)
  have aV:=L6 (o4 (b:=w) af) (o4 (b:=y) ad)
  rw[aj7] at aV
  refine uA.1 ?_
  rcases aq with d|d
  ·rw[d,rV] at aV;exact aV
  ·rw[d,nL,rV] at aV;exact(Int.dvd_neg).1 aV
 ·have ad:((Nat.gcd A B:Nat):Int) ∣ (A:Int):=uA.2 (lf _ _)
  have af:((Nat.gcd A B:Nat):Int) ∣ (B:Int):=uA.2 (nl _ _)
  refine rU.1 ?_
  rw[<-cX]
  exact L5 (o4 ad) (o4 af)
 ·have ad:((Nat.gcd A B:Nat):Int) ∣ (A:Int):=uA.2 (lf _ _)
  have af:((Nat.gcd A B:Nat):Int) ∣ (B:Int):=uA.2 (nl _ _)
  refine rU.1 ?_
  rw[<-gq]
  exact L5 (o4 ad) (o4 af)
theorem K7{t K α:Int}(h:t<=0)(ad:α<=K):t*K<=t*α:=by
 have:=kT (show 0<=-t by omega) (show 0<=K -α by omega)
 rw[nL,BZ] at this
 omega
theorem K3{t α:Int}(h:0<=t)(ad:0<=α):0<=t*α:=kT h ad
structure o7 (di g8 A B:Int) (a b w x y z:Int) (e:Bool):Prop where
 aI:a=w*di+x*g8
 ak:b=y*di+z*g8
 RH:if e then w<=0/\0<=x/\0<=y/\z<=0 else 0<=w/\x<=0/\y<=0/\0<=z
 Cs:w*z -x*y=if e then -1 else 1
 dv:0<=a+w
 dV:0<=a+x
 en:0<=b+y
 fH:0<=b+z
 top:a+w<=di+1
 RZ:a+x<=di+1
 kB:(w=1/\x=0/\y=0/\z=1/\e=false)\/(b+y<a+w/\b+z<a+x/\w*A+x*B<=B)
structure v5 (di g8 A B:Int):Prop where
 yi:g8<=di
 DI:0<=g8
 ex:∃K α β:Int,0<K/\A=di*K+α/\B=g8*K+β/\0<=α/\α<K/\0<=β/\β<K
theorem o7.start{di g8 A B:Int}(h:v5 di g8 A B):o7 di g8 A B di g8 1 0 0 1 false:=
 ⟨I,I,by simp,by simp,by have:=h.yi;have:=h.DI;omega,by have:=h.yi;have:=h.DI;omega,by have:=h.DI;omega,by have:=h.DI;omega,I,I,.inl ⟨rfl,rfl,rfl,rfl,rfl⟩⟩
theorem o7.desc{di g8 A B a b w x y z:Int}{e:Bool}(h:o7 di g8 A B a b w x y z e)(bB:v5 di g8 A B)(ad:b+y<a+w)(af:b+z<a+x):0<=y*A+z*B/\y*A+z*B<w*A+x*B:=by
 obtain⟨K,α,β,e',rfl,rfl,CR,yI,ql,ls⟩:=bB.ex
 have ag:=h.RH
 have aC:∀u v:Int,u*(di*K+α)+v*(g8*K+β)=(u*di+v*g8)*K+(u*α+v*β):=fun u v=>by
  rw[nj,nj,qQ,<-jR,<-jR];omega
 rw[aC,aC,<-h.aI,<-h.ak]
 have en:=h.en
 have fH:=h.fH
 have eT:a*K -b*K=(a -b)*K:=(nk _ _ _).symm
 cases e with
 |false=>
  obtain⟨s1,s2,hK,ms⟩:0<=w/\x<=0/\y<=0/\0<=z:=ag
  have f1:=K7 hK (uy yI)
  have f2:=K3 ms ql
  have f3:=kT en (uy e')
  have f4:=K3 (show 0<=w -y by omega) CR
  have f5:=K7 (show x -z<=0 by omega) (uy ls)
  have f6:=BY (show 0<(a+x) -(b+z) by omega) e'
  rw[qQ] at f3
  rw[nk] at f4 f5
  rw[nk] at f5
  rw[nk,qQ,qQ] at f6
  omega
 |true=>
  obtain⟨s1,s2,hK,ms⟩:w<=0/\0<=x/\0<=y/\z<=0:=ag
  have f1:=K7 ms (uy ls)
  have f2:=K3 hK CR
  have f3:=kT fH (uy e')
  have f4:=K3 (show 0<=x -z by omega) ql
  have f5:=K7 (show w -y<=0 by omega) (uy yI)
  have f6:=BY (show 0<(a+w) -(b+y) by omega) e'
  rw[qQ] at f3
  rw[nk] at f4 f5
  rw[nk] at f5
  rw[nk,qQ,qQ] at f6
  omega
theorem o7.next{di g8 A B a b w x y z q:Int}{e:Bool}(h:o7 di g8 A B a b w x y z e)(bB:v5 di g8 A B)(ad:q*(b+y)<=a+w)(af:a+w<(q+1)*(b+y))(aV:q*(b+z)<=a+x)(bq:a+x<(q+1)*(b+z))(bS:0<=q):
 o7 di g8 A B b (a -q*b) y z (w -q*y) (x -q*z) (!e):=by
 have aI:=h.aI
 have ak:=h.ak
 have en:=h.en
 have fH:=h.fH
 have aS:=h.top
 have Db:=h.RZ
 have i':=bB.yi
 have gr:=bB.DI
 rw[nj] at ad aV
 rw[qQ,rV,nj] at af bq
 have dR:(b+y<=di+1/\b+z<=di+1)/\y*A+z*B<=B:=by
  rcases h.kB with⟨dQ,ee,fB,iD,_⟩|⟨dQ,ee,fB⟩
  ·subst dQ;subst ee;subst fB;subst iD
   rw[x8,rV,L'] at ak
   refine⟨I,by rw[x8,rV,L'];exact SK _⟩
  ·have:=(h.desc bB dQ ee).2
   exact⟨I,I⟩
 refine⟨ak,?_,?_,?_,en,fH,I,I,dR.1.1,dR.1.2,.inr ⟨I,I,dR.2⟩⟩
 ·rw[aI,ak,nk,nk,nj,jR,jR];omega
 ·have ag:=h.RH
  cases e with
  |false=>
   obtain⟨s1,s2,hK,ms⟩:0<=w/\x<=0/\y<=0/\0<=z:=ag
   show y<=0/\0<=z/\0<=w -q*y/\x -q*z<=0
   have f1:=kT bS (show 0<=-y by omega)
   have f2:=kT bS ms
   rw[Ix] at f1
   omega
  |true=>
   obtain⟨s1,s2,hK,ms⟩:w<=0/\0<=x/\0<=y/\z<=0:=ag
   show 0<=y/\z<=0/\w -q*y<=0/\0<=x -q*z
   have f1:=kT bS (show 0<=-z by omega)
   have f2:=kT bS hK
   rw[Ix] at f1
   omega
 ·have aq:=h.Cs
  have aC:y*(x -q*z) -z*(w -q*y)=-(w*z -x*y):=by
   rw[BZ,BZ]
   have ck:y*(q*z)=z*(q*y):=by ac_rfl
   have ch:y*x=x*y:=kC _ _
   have c6:z*w=w*z:=kC _ _
   omega
  rw[aC,aq]
  cases e<;>simp
theorem o7.ks{di g8 A B a b w x y z q:Int}{e:Bool}(h:o7 di g8 A B a b w x y z e)(bB:v5 di g8 A B)(ad:q*(b+y)<=a+w)(aV:q*(b+z)<=a+x)(bS:0<=q)(fL:0<b+y)(hv:0<b+z):-di<=q*y/\q*y<=di/\-di<=q*z/\q*z<=di/\0<=q*b/\q*b<=di+1+di/\0<=b/\0<=a:=by
 have ag:=h.RH
 have aq:=h.Cs
 have dv:=h.dv
 have dV:=h.dV
 have en:=h.en
 have fH:=h.fH
 have aS:=h.top
 have i':=bB.yi
 have aX:q<=a+w:=by
  have:=vY (show 1<=b+y by omega) bS
  omega
 have aU:q<=a+x:=by
  have:=vY (show 1<=b+z by omega) bS
  omega
 rw[nj] at ad
 --di and g8 by sX aty numbers
 have a7:z*a -x*b=(w*z -x*y)*di:=by
  rw[h.aI,h.ak,nj,nj,nk]
  have ck:z*(w*di)=w*z*di:=by ac_rfl
  have ch:z*(x*g8)=x*(z*g8):=by ac_rfl
  have c6:x*(y*di)=x*y*di:=by ac_rfl
  omega
 have a0:w*b -y*a=(w*z -x*y)*g8:=by
  rw[h.aI,h.ak,nj,nj,nk]
  have ck:w*(z*g8)=w*z*g8:=by ac_rfl
  have ch:w*(y*di)=y*(w*di):=by ac_rfl
  have c6:y*(x*g8)=x*y*g8:=by ac_rfl
  omega
 rw[aq] at a7 a0
 cases e with
 |false=>
  obtain⟨s1,s2,hK,ms⟩:0<=w/\x<=0/\y<=0/\0<=z:=ag
  have a7:z*a -x*b=1*di:=a7
  have a0:w*b -y*a=1*g8:=a0
  rw[rV] at a7 a0
  have gr:0<=b:=I
  have aht:0<=a:=I
  have Gn:q<=a:=I
  have f1:=kT (show 0<=-x by omega) gr
  have f2:=kT s1 gr
  have f3:=vY Gn ms
  have f4:=vY Gn (show 0<=-y by omega)
  have f5:=kT bS ms
  have f6:=kT bS (show 0<=-y by omega)
  have f7:=kT bS gr
  rw[nL] at f1
  rw[nL,nL] at f4
  rw[Ix] at f6
  rw[kC z q] at f3
  rw[kC y q] at f4
  omega
 |true=>
  obtain⟨s1,s2,hK,ms⟩:w<=0/\0<=x/\0<=y/\z<=0:=ag
  have a7:z*a -x*b=-1*di:=a7
  have a0:w*b -y*a=-1*g8:=a0
  rw[nL,rV] at a7 a0
  have gr:0<=b:=I
  have aht:0<=a:=I
  have Gn:q<=a:=I
  have f1:=kT s2 gr
  have f2:=kT (show 0<=-w by omega) gr
  have f3:=vY Gn (show 0<=-z by omega)
  have f4:=vY Gn hK
  have f5:=kT bS (show 0<=-z by omega)
  have f6:=kT bS hK
  have f7:=kT bS gr
  rw[nL] at f2
  rw[nL,nL] at f3
  rw[Ix] at f5
  rw[kC z q] at f3
  rw[kC y q] at f4
  omega
theorem o7.out{di g8 a b w x y z:Int}{A B:Nat}{e:Bool}(h:o7 di g8 A B a b w x y z e)(bB:v5 di g8 A B)(ab:x≠0):
 ∃P R:Nat,w*A+x*B=(P:Int)/\y*A+z*B=(R:Int)/\R<P/\P<=B/\Nat.gcd P R=Nat.gcd A B:=by
 rcases h.kB with⟨_,ee,_⟩|⟨dQ,ee,fB⟩
 ·exact absurd ee ab
 ·obtain⟨d1,d2⟩:=h.desc bB dQ ee
  have aF:=agr (A:=A) (B:=B) (w:=w) (x:=x) (y:=y) (z:=z) (by rw[h.Cs];cases e<;>simp)
  exact⟨(w*A+x*B).natAbs,(y*A+z*B).natAbs,I,I,I,I,aF⟩
theorem Z4{n d:Int}(aE:0<=n)(aq:0<d):n.tdiv d*d<=n/\n<(n.tdiv d+1)*d/\0<=n.tdiv d:=by
 rw[Int.tdiv_eq_ediv_of_nonneg aE]
 have ad:=Int.ediv_mul_le n (show d≠0 by omega)
 have af:=Int.lt_ediv_add_one_mul_self n aq
 exact⟨ad,af,Int.ediv_nonneg aE (uy aq)⟩
theorem Xi{z m:Nat}(h:(ai z).length<=m+3):((ai z).getD (m+2) 0*1000000000+(ai z).getD (m+1) 0)*1000000000+(ai z).getD m 0=z / 1000000000 ^ m:=by
 have aC:=vQ (ai z) (m+2)
 rw[dd (show(ai z).length<=m+2+1 by omega),vQ (ai z) (m+1),vQ (ai z) m,e5] at aC
 have ad:=k' (vF (i:=m) (hB z))
 have af:1000000000 ^ ((ai z).take m).length<=1000000000 ^ m:=my bC (by rw[dY];omega)
 rw[fC 1000000000 (m+1),fC 1000000000 m] at aC
 obtain⟨p,ap⟩:∃p,p=1000000000 ^ m:=⟨_,rfl⟩
 rw[<-ap] at aC af ⊢
 have rj:0<p:=by rw[ap];exact uI bC
 have bO:p*1000000000*1000000000*(ai z).getD (m+2) 0=p*((ai z).getD (m+2) 0*1000000000*1000000000):=by ac_rfl
 have bA:p*1000000000*(ai z).getD (m+1) 0=p*((ai z).getD (m+1) 0*1000000000):=by ac_rfl
 rw[bO,bA] at aC
 have aW:z=p*(((ai z).getD (m+2) 0*1000000000+(ai z).getD (m+1) 0)*1000000000+(ai z).getD m 0)+aN ((ai z).take m):=by
  rw[cS,c3,cS]
  omega
 conv=>rhs;rw[aW]
 rw[Th rj,rY (show aN ((ai z).take m)<p by omega)]
 exact(iI _).symm
theorem akp{T t0 mu D L:Nat}(cy:D*mu=L)(bB:0<L):T*mu+t0*mu / L=(T*L+t0) / D:=by
 have aS:0<mu:=r2 fun h=>by rw[h,jk] at cy;omega
 rw[<-IX _ D aS,cy,c3,show T*L*mu=L*(T*mu) by ac_rfl,Th bB]
theorem ako{t2 t1 t0 mu D:Nat}(cy:D*mu=1000000000):(t2*1000000000+t1)*mu+t0*mu / 1000000000=((t2*1000000000+t1)*1000000000+t0) / D:=akp cy bC
theorem akn{A B m D t2:Nat}(FI:B<=A)(cy:0<D):v5 ((A / 1000000000 ^ m / D:Nat):Int) ((B / 1000000000 ^ m / D:Nat):Int) A B:=by
 have rj:0<1000000000 ^ m:=uI bC
 rw[abC,abC]
 generalize e':1000000000 ^ m*D=K
 have yG:0<K:=by rw[<-e'];exact iW rj cy
 refine⟨by exact_mod_cast Tc FI,o6 _,(K:Int),((A % K:Nat):Int),((B % K:Nat):Int),I,?_,?_,o6 _,?_,o6 _,?_⟩
 ·have:=lR A K
  rw[dz] at this
  exact_mod_cast this.symm
 ·have:=lR B K
  rw[dz] at this
  exact_mod_cast this.symm
 ·exact_mod_cast fJ A yG
 ·exact_mod_cast fJ B yG
end
end Go.Opn
set_option maxHeartbeats 8000000
namespace Go.Opn
noncomputable section
open Go.Cre Go.RowKit Go.Proofs
section
variable {K:ef}{B:dy}{o:Oper}{n:Nat}{ds:eK}{l:List (Nat×Value)}{m:a8}{J:an}
theorem amH{x y z w:Operand}{a b c d v:Value}{S:a5}{H:aw}(ax:Sat ⟨n,ds,l⟩ S)(Gj:o.op.operands.toList=[x,y,z,w])(ab:bT l x=some a)(aB:bT l y=some b)(aL:bT l z=some c)(hw:bT l w=some d)(aI:plain a=true)(ak:plain b=true)(aJ:plain c=true)(aq:plain d=true)(he:fc K.P (execOp (pL S.T H) o)=some (.value v))(az:plain v=true):fk K.P S.T H o=some (.val v H):=by
 unfold fk;rw[Gj];have:fz S.T H [x,y,z,w]=some [a,b,c,d]:=by simp only[fz];rw[dg ax H ab,dg ax H aB,dg ax H aL,dg ax H hw]
 rw[this];simp only[B4,SR,aI,ak,aJ,aq,x5,cv,he,az]
theorem apH{c:Call}{x y z w:Operand}{k:IntKind}{a b d e:Int}(aj:o.op=.call c)(aJ:c.callee=.builtin .max)(h4:c.args.toList=[x,y,z,w])(ab:bT l x=some (.int k a))(aB:bT l y=some (.int k b))(aL:bT l z=some (.int k d))(hw:bT l w=some (.int k e)):c5 K B o n ds l m J (.int k (max (max (max a b) d) e)):=by
 intro call aQ S H ax aH;rw[Aa aj aJ];have nw:c.args=#[x,y,z,w]:=by rw[<-SC];exact h4
 have:fk K.P S.T H o=some (.val (.int k (max (max (max a b) d) e)) H):=by
  refine amH ax ?_ ab aB aL hw rfl rfl rfl rfl ?_ rfl
  ·rw[aj]
   show(Call.operands c).toList=_;simp[Call.operands,aJ,nw]
  ·unfold execOp;simp only[aj]
   have av:fc K.P (resolve (pL S.T H) c o.type)=some {target:=.builtin .max c.argTypes o.type (c.args.map fun|.const _=>true|_=>false),args:=#[.int k a,.int k b,.int k d,.int k e]}:=by
        unfold resolve;simp only[aJ,nw];show some _=some _;simp[hS ax H ab,hS ax H aB,hS ax H aL,hS ax H hw];exact⟨by cases x<;>rfl,by cases y<;>rfl,by cases z<;>rfl,by cases w<;>rfl⟩
   rw[gB av];show fc K.P ((Builtin.max_ c.argTypes o.type #[.int k a,.int k b,.int k d,.int k e]) >>= fun v=>pure (Next.value v))=_;have:fc K.P (Builtin.max_ c.argTypes o.type #[.int k a,.int k b,.int k d,.int k e])=some (.int k (max (max (max a b) d) e)):=by
        have aC:∀p q:Int,(if q>p then q else p)=max p q:=fun p q=>by split<;>omega
        rw[<-aC,<-aC,<-aC];have c9:∀p q:Int,(if q>p then Value.int k q else Value.int k p)=Value.int k (if q>p then q else p):=fun p q=>by split<;>rfl
        simp[Builtin.max_];try (first|rfl|(split<;>split<;>split<;>first|rfl|(simp_all;done)|omega))
   rw[gB this];rfl
 unfold qh;rw[oG ax H (vs:=[.int k a,.int k b,.int k d,.int k e]) (by rw[h4];simp only[ix,ab,aB,aL,hw])];exact this
end
section
variable {Q:dD Tryz.prog}{g0:Nat}{J:an}
theorem Ql{b:Option Addr}{c cU k z:Nat}{A1:Int}(hk:A1=(k:Int))(aL:cM J (.slice b (ai z).length c) z)(aV:J cU=some ([.slice b (ai z).length c],32))(XO:(ai z).length<=200000):Fn (a1 Q g0) 150 [.int .i64 A1,.pointer (some ⟨cU,0,none⟩)] [] J (fun u m' ah=>u=.int .u64 (((ai z).getD k 0:Nat):Int)/\m'=[]/\J=ah):=by
 subst hk;have e1:=aL;have VU:=tu (hB z) k;refine Fn.cr (cu Tryz.func150) rfl rfl fun H=>?_;refine rg ?_;refine U V.au ?_;refine a2 ?_;refine U V.ay ?_;refine U V.cg ?_;refine U V.h7 ?_;refine U V.bb ?_;refine aA ?_;refine If (fun hE=>?_) fun hE=>?_
 ·obtain⟨tg,eN,nV,ex,rfl,tz,k3⟩:=e1.at (oT I);obtain⟨p,ap,y2,e2⟩:=k3 k I;have e:=ig ap;refine rg ?_;refine U V.cg ?_;refine U V.ay ?_;refine U V.bh ?_;refine U V.cg ?_;refine U V.d' ?_;refine U V.au ?_;refine aA ?_;refine ae.ret ?_;refine'⟨.inr rfl,rfl,_,[],.tmp rfl .nil,br _,⟨by rw[e];rfl,rfl,rfl⟩⟩
 ·have e:=lX (l:=ai z) (i:=k) I;refine fy ?_;refine U V.au ?_;refine aA ?_;refine ae.ret ?_;refine'⟨.inr rfl,rfl,_,[],.tmp rfl .nil,br _,⟨by rw[e];rfl,rfl,rfl⟩⟩
theorem Xh{v:Value}{e6 fK z m mu D X:Nat}(aL:cM J v z)(hv:J e6=some ([.int .i64 ((m+3:Nat):Int)],3))(nt:J fK=some ([.int .u64 (mu:Int)],122))(XO:(ai z).length<=m+3)(hm:m<=100000)(cy:D*mu=1000000000)(fG:X=z / 1000000000 ^ m / D)(wQ:X<1000000000000000000):
 Fn (a1 Q g0) 149 [v,.pointer (some ⟨e6,0,none⟩),.pointer (some ⟨fK,0,none⟩)] [] J (fun u m' ah=>J.le ah/\m'=[]/\u=.int .i64 (X:Int)):=by
 have e1:=aL;obtain⟨bQ,bH,rfl,aX⟩:=aL.bG;obtain⟨t2,Db⟩:∃t,t=(ai z).getD (m+2) 0:=⟨_,rfl⟩;obtain⟨t1,vm⟩:∃t,t=(ai z).getD (m+1) 0:=⟨_,rfl⟩;obtain⟨t0,sB⟩:∃t,t=(ai z).getD m 0:=⟨_,rfl⟩;have dq:=tu (hB z) (m+2);have dF:=tu (hB z) (m+1);have l0:=tu (hB z) m;rw[<-Db] at dq;rw[<-vm] at dF;rw[<-sB] at l0;have F8:=Xi XO;rw[<-Db,<-vm,<-sB] at F8;have cA:=ako (t2:=t2) (t1:=t1) (t0:=t0) cy;rw[F8,<-fG] at cA;obtain⟨abN,JM⟩:∃P,P=(t2*1000000000+t1)*mu:=⟨_,rfl⟩;obtain⟨Ca,FT⟩:∃P,P=t0*mu:=⟨_,rfl⟩;rw[<-JM,<-FT] at cA;have tM:mu<=1000000000:=by
  have:1*mu<=D*mu:=e0 _ (r2 fun h=>by rw[h,j8] at cy;omega);omega
 have ar5:Ca<=1000000000*1000000000:=by rw[FT];exact r1 I tM
 have ahd:((t2:Int)*1000000000+(t1:Int))*(mu:Int)=(abN:Int):=by rw[<-vA JM];rw[uz,gM];rfl
 have ahe:(t0:Int)*(mu:Int)=(Ca:Int):=vA FT;refine Fn.cr (cu Tryz.func149) rfl rfl fun H=>?_;refine rg ?_;refine gU fun cU=>?_;refine W.et rfl fun cn Om=>?_;have hv:=cn _ _ hv;have nt:=cn _ _ nt;have P8:=e1.mono cn;refine U V.au ?_;refine a2 ?_;refine al ?_;refine a3 ?_;have WE:eD 8 (Value.func (.func 150) #[] #[.pointer (some ⟨cU,0,none⟩)]) (Value.func (.func 150) #[] #[.pointer (some ⟨cU,0,none⟩)])=true:=by simp[eD,addrEq,NT,jB]
 refine ao ?_;refine ae.draw rfl (by kernel_rfl) (a':=[.val 0,.val 1,.val 2,.val 5,.val 6,.val 7,.val 10,.val 12,.val 13,.val 14,.val 16,.bR 3,.val 4,.b9 [16,14,13,12,10,7,6,5],.bR 8,.val 9,.val 11,.b9 [16,14,13,12,10,4],.bR 15,.val 17,.val 18,.val 19,.val 20,.val 21,.b9 [16,11,10,9,4]]) (by kernel_rfl) ?_;refine aT rfl V.ay ?_;refine aT rfl V.cg ?_;refine aT rfl V.aY ?_;refine aT rfl V.ay ?_;refine aT rfl V.cg ?_;refine aT rfl V.aY ?_;refine aT rfl V.cg ?_;refine aT rfl V.ay ?_;refine aT rfl V.cg ?_;refine aT rfl V.aY ?_;refine aT rfl V.cg ?_;refine bp.iR ?_;refine' bc.dA rfl rfl rfl rfl rfl rfl rfl rfl rfl dx (Ql (k:=m+2) I P8 Om I) ?_;rintro v' m' ah hle ⟨rfl,rfl,rfl⟩;rw[<-Db];refine bc.val rfl rfl rfl rfl V.aY ?_;refine bc.b9 eH ?_;refine' bc.dA rfl rfl rfl rfl rfl rfl rfl rfl rfl (de (fun _ e=>by have e:=(ID e).1;injection e with _ e;omega) dx) (Ql (k:=m+1) I P8 Om I) ?_;rintro v' m' ah hle ⟨rfl,rfl,rfl⟩;rw[<-vm];refine bc.val rfl rfl rfl rfl V.aY ?_;refine bc.val rfl rfl rfl rfl V.aY ?_;refine bc.b9 eH ?_;refine' bc.dA rfl rfl rfl rfl rfl rfl rfl rfl rfl (de (fun _ e=>by have e:=(ID e).1;injection e with _ e;omega) (de (fun _ e=>by have e:=(ID e).1;injection e with _ e;omega) dx)) (Ql (k:=m) I P8 Om I) ?_;rintro v' m' ah hle ⟨rfl,rfl,rfl⟩;rw[<-sB];refine bc.iQ (fun x ab=>iV (f:=fun x=>(x.f,x.b2)) ab) ?_;refine aT rfl V.aY ?_;rw[ahe];refine aT rfl V.hn ?_;rw[show IntKind.u64.wrap ((Ca:Int).tdiv 1000000000)=((Ca / 1000000000:Nat):Int) from rJ (d:=1000000000) I];refine aT rfl V.aY ?_
 rw[show((t2:Int)*1000000000+(t1:Int))*(mu:Int)+((Ca / 1000000000:Nat):Int)=(X:Int) by rw[ahd];omega];refine aT rfl V.d' ?_;refine aT rfl V.au ?_;refine bp.b9 eH ?_;refine bp.nil ?_;refine ao ?_;refine ae.ret ?_;refine'⟨.inr rfl,rfl,_,[],.tmp rfl .nil,br _,⟨cn,rfl,rfl⟩⟩
end
theorem amR{j:Nat}(h:j<=9):10 ^ (9 -j)*10 ^ j=1000000000:=by rw[<-oB,yd h]
theorem o7.akz{di g8 A B a b w x y z:Int}{e:Bool}(h:o7 di g8 A B a b w x y z e)(bB:v5 di g8 A B):b+y<=di+1/\b+z<=di+1:=by
 have ad:=h.top;have af:=h.RZ;have aV:=bB.yi;rcases h.kB with⟨dQ,ee,fB,iD,_⟩|⟨dQ,ee,_⟩
 ·have ak:=h.ak
  subst fB;subst iD;rw[x8,rV,L'] at ak;omega
 ·omega
theorem akY{z Is dy:List Nat}{i d I' Jh:Nat}{x y c c':Int}(ar:i<z.length)(aI:Is.getD i 0=I')(ak:dy.getD i 0=Jh)(h:(aN (z.take i):Int)+((1000000000 ^ i:Nat):Int)*c=x*(aN (Is.take i):Int)+y*(aN (dy.take i):Int))(e:(d:Int)+1000000000*c'=x*(I':Int)+c+y*(Jh:Int)):
 (aN ((z.set i d).take (i+1)):Int)+((1000000000 ^ (i+1):Nat):Int)*c'=x*(aN (Is.take (i+1)):Int)+y*(aN (dy.take (i+1)):Int):=by
 rw[aas ar,vQ Is,vQ dy,aI,ak,fC];simp only[uz,gM];generalize ((1000000000 ^ i:Nat):Int)=p at*;have aC:=aa (p*·) e;simp only[nj] at aC;rw[nj,nj];have ck:p*((1000000000:Nat):Int)*c'=p*(1000000000*c'):=jR _ _ _;have ch:x*(p*(I':Int))=p*(x*I'):=by ac_rfl
 have c6:y*(p*(Jh:Int))=p*(y*Jh):=by ac_rfl
 rw[ck,ch,c6];omega
section
variable {Q:dD Tryz.prog}{g0:Nat}{J:an}
theorem akm{v w:Value}{x y m:Nat}(ab:cM J v x)(aB:cM J w y)(Wa:(ai x).length=m+3)(hm:m<=99997)(Dk:y<=x):
 Fn (a1 Q g0) 141 [v,w] [] J (fun u m' ah=>J.le ah/\m'=[]/\∃X Y:Nat,u=.tuple #[.int .i64 (X:Int),.int .i64 (Y:Int)]/\X<1000000000000000000/\v5 (X:Int) (Y:Int) (x:Int) (y:Int)):=by
 have dM:=ab;have eU:=aB;obtain⟨bQ,bH,rfl,aX⟩:=ab.bG;obtain⟨bL,bM,rfl,aU⟩:=aB.bG;have aiq:=xk Dk;obtain⟨tg,eN,nV,ex,rfl,tz,k3⟩:=dM.at (oT I);obtain⟨t,aS,rB,lt⟩:=k3 (m+2) I;have rB:nth nV (eN+(((m+3:Nat):Int) -1).toNat*1)=some (.int .u32 (t:Int)):=by rw[show(((m+3:Nat):Int) -1).toNat=m+2 by omega];exact rB
 have sB:t≠0:=Dx x t (by rw[qU,Wa];exact aS);rw[Wa] at dM ⊢;refine Fn.cr (cu Tryz.func141) rfl rfl fun H=>?_;refine rg ?_;refine al ?_;refine a2 ?_;refine al ?_;refine' W.step rfl (.of (gx rfl rfl rfl (aqK Q g0) rfl rfl rfl fun e6=>?_));refine e9 ?_;refine a2 ?_;refine' W.step rfl (.of (gx rfl rfl rfl (aqJ Q g0) rfl rfl rfl fun fK=>?_));refine e9 ?_;refine aA ?_;refine ae.block ?_;refine eP [0,1,6,7] ?_;refine ao ?_;refine' ae.e2 (fun(a6:Nat×Nat)=>match a6 with|(j,T)=>⟨[],[(fK,.row [.int .u64 (T:Int)] 122),(e6,.row [.int .i64 ((m+3:Nat):Int)] 3)],J,T=10 ^ j/\j<=8/\T<=100000000/\t*T<1000000000,9 -j⟩) ⟨0,1⟩ ?ag ?bD
 case ag=>exact⟨rfl,by decide,by decide,I⟩
 case bD=>
  rintro⟨j,T⟩ hinv;try simp only at hinv
  obtain⟨cB,bf,ahm,Wy⟩:=hinv;obtain⟨P,cX⟩:∃P,P=t*T:=⟨_,rfl⟩;have Vq:(t:Int)*(T:Int)=(P:Int):=vA cX;rw[<-cX] at Wy;have ar7:t*(T*10)=P*10:=by rw[cX,fi]
  refine ao ?_;refine ae.draw rfl (by kernel_rfl) (a':=[.val 0,.val 1,.val 2,.val 3,.val 4,.val 5,.val 6,.val 7,.val 8,.val 9]) (by kernel_rfl) ?_;refine aT rfl V.ay ?_;refine aT rfl V.cg ?_;refine aT rfl V.aY ?_;refine aT rfl V.bh ?_;refine aT rfl V.cg ?_;refine aT rfl V.d' ?_;refine aT rfl V.cg ?_;refine aT rfl V.aY ?_;refine aT rfl V.aY ?_;refine aT rfl V.bb ?_;refine bp.nil ?_;refine ao ?_;refine If (fun iw=>?_) fun iw=>?_
  ·have ar':T*10<1000000000:=by
    have:1*(T*10)<=t*(T*10):=e0 _ I;omega
   have V0:j+1<=8:=by
    apply qW
    intro q;have ad:10 ^ 9<=10 ^ (j+1):=my bC I;rw[fC 10 j,<-cB] at ad;omega
   have ahn:T*10<=100000000:=by
    have ad:10 ^ (j+1)<=10 ^ 8:=my bC V0;rw[fC 10 j,<-cB] at ad;omega
   refine dW ?_;refine ao ?_;refine ae.block ?_;refine rg ?_;refine U V.cg ?_;refine U V.aY ?_;rw[show(T:Int)*10=((T*10:Nat):Int) by omega];refine e9 ?_;refine a3 ?_;refine fl ⟨j+1,T*10⟩ ?_;exact⟨by rw[cB,fC],V0,ahn,I⟩
  ·refine ao ?_;refine ae.exit ?_;obtain⟨D,cy⟩:∃D,D=10 ^ (9 -j):=⟨_,rfl⟩;have Og:D*T=1000000000:=by rw[cy,cB];exact amR I
   have tx:0<D:=by rw[cy];exact uI bC
   have F8:=Xi (z:=x) (m:=m) I;rw[ig aS] at F8;have ajc:t<D:=EC (a:=T) (by rw[Og,<-cX];exact Wy);have dF:=tu (hB x) (m+1);have l0:=tu (hB x) m;have wQ:x / 1000000000 ^ m / D<1000000000000000000:=(mV tx).2 (by
    rw[<-F8,dz];have:=e0 1000000000000000000 (show t+1<=D from ajc);omega)
   have Vw:y / 1000000000 ^ m / D<=x / 1000000000 ^ m / D:=Tc (Tc Dk);refine ae.h9 rfl fun O'=>?_;refine ae.h9 rfl fun J7=>?_;have nt:=J7 _ _ (an.g7 J fK ([.int .u64 (T:Int)],122));have hv:=an.g7 (J.add fK ([.int .u64 (T:Int)],122)) e6 ([.int .i64 ((m+3:Nat):Int)],3);refine rg ?_;refine al ?_;refine a2 ?_;refine al ?_;refine bN (G:=Xh ((dM.mono O').mono J7) hv nt I I Og rfl wQ) (h:=?_);rintro v' m' bK hle ⟨aK,rfl,rfl⟩;refine al ?_;refine bN (G:=Xh (((eU.mono O').mono J7).mono aK) (aK _ _ hv) (aK _ _ nt) I I Og rfl I) (h:=?_);rintro v' m' dT hle ⟨bi,rfl,rfl⟩;refine al ?_;refine aA ?_;refine ae.ret ?_;refine'⟨.inr rfl,rfl,_,[],.tmp rfl (.tmp rfl .nil),br _,⟨((O'.trans J7).trans aK).trans bi,rfl,_,_,rfl,wQ,akn (t2:=0) Dk tx⟩⟩
theorem aoF{X Y A B:Nat}(fG:X<1000000000000000000)(bB:v5 (X:Int) (Y:Int) (A:Int) (B:Int)):Fn (a1 Q g0) 140 [.int .i64 (X:Int),.int .i64 (Y:Int)] [] J (fun u m' ah=>(∃w x y z:Int,u=.tuple #[.int .i64 w,.int .i64 x,.int .i64 y,.int .i64 z]/\(-1000000000<w/\w<1000000000/\-1000000000<x/\x<1000000000/\-1000000000<y/\y<1000000000/\-1000000000<z/\z<1000000000)/\(x≠0->∃P R:Nat,w*A+x*B=(P:Int)/\y*A+z*B=(R:Int)/\R<P/\P<=B/\Nat.gcd P R=Nat.gcd A B))/\m'=[]/\J=ah):=by
 have i':=bB.yi;have ri:=bB.DI;refine Fn.cr (cu Tryz.func140) rfl rfl fun H=>?_;refine rg ?_;refine al ?_;refine a2 ?_;refine al ?_;refine a3 ?_;refine eP [0,1,4,5,6,7] ?_;refine ao ?_;refine' ae.lW (α:=(Int)×(Int)×(Int)×(Int)) 6 (fun(a6:(Int)×(Int)×(Int)×(Int))=>match a6 with|(w,x,y,z)=>[(4,.int .i64 w),(5,.int .i64 x),(6,.int .i64 y),(7,.int .i64 z)]) (fun(a6:(Int)×(Int)×(Int)×(Int))=>match a6 with|(w,x,y,z)=>[]) (fun(a6:(Int)×(Int)×(Int)×(Int))=>match a6 with|(w,x,y,z)=>J) (fun(a6:(Int)×(Int)×(Int)×(Int))=>match a6 with|(w,x,y,z)=>(-1000000000<w/\w<1000000000/\-1000000000<x/\x<1000000000/\-1000000000<y/\y<1000000000/\-1000000000<z/\z<1000000000)/\(x≠0->∃P R:Nat,w*A+x*B=(P:Int)/\y*A+z*B=(R:Int)/\R<P/\P<=B/\Nat.gcd P R=Nat.gcd A B)) ?wm ?wx
 case wm=>
  refine ae.block ?_;refine' ae.dO (l':=[(0,.int .i64 (X)),(1,.int .i64 (Y)),(4,.int .i64 (1)),(5,.int .i64 (0)),(6,.int .i64 (0)),(7,.int .i64 (1))]) ⟨?w0,?bm,?kR,?gm,?j4,?kk,trivial⟩ (bx _) ?_;case w0=>first|exact bg|exact aa some (aa (Value.int .u64) I)|exact aa some (aa (Value.int .u32) I)|exact aa some (aa (Value.int .i64) I)
  case bm=>first|exact bg|exact aa some (aa (Value.int .u64) I)|exact aa some (aa (Value.int .u32) I)|exact aa some (aa (Value.int .i64) I)
  case kR=>first|exact bg|exact aa some (aa (Value.int .u64) I)|exact aa some (aa (Value.int .u32) I)|exact aa some (aa (Value.int .i64) I)
  case gm=>first|exact bg|exact aa some (aa (Value.int .u64) I)|exact aa some (aa (Value.int .u32) I)|exact aa some (aa (Value.int .i64) I)
  case j4=>first|exact bg|exact aa some (aa (Value.int .u64) I)|exact aa some (aa (Value.int .u32) I)|exact aa some (aa (Value.int .i64) I)
  case kk=>first|exact bg|exact aa some (aa (Value.int .u64) I)|exact aa some (aa (Value.int .u32) I)|exact aa some (aa (Value.int .i64) I)
  refine ao ?_;refine' ae.e2 (fun(a6:Int×Int×Int×Int×Int×Int×Bool)=>match a6 with|(a,b,w,x,y,z,e)=>⟨[(0,.int .i64 a),(1,.int .i64 b),(4,.int .i64 w),(5,.int .i64 x),(6,.int .i64 y),(7,.int .i64 z)],[],J,o7 X Y A B a b w x y z e/\(-1000000000<w/\w<1000000000/\-1000000000<x/\x<1000000000/\-1000000000<y/\y<1000000000/\-1000000000<z/\z<1000000000),(b+y).toNat⟩) ⟨X,Y,1,0,0,1,false⟩ ?ag ?bD
  case ag=>exact⟨o7.start bB,by decide⟩
  case bD=>
   rintro⟨a,b,w,x,y,z,e⟩ hinv;try simp only at hinv
   obtain⟨e',oI⟩:=hinv;have dv:=e'.dv;have dV:=e'.dV;have en:=e'.en;have fH:=e'.fH;have vm:=e'.top;have Db:=e'.RZ;obtain⟨mD,n6⟩:=e'.akz bB;refine eP [0,1,4,5,6,7] ?_;refine ao ?_;refine' ae.hf 0 [(20,.bool (decide ((b+y≠0/\b+z≠0))))] ?ph ?pj;case ph=>
    refine ae.region ?_;refine al ?_;refine U V.aY ?_;refine U V.bb ?_;refine U V.ay ?_;refine ft 15 (fun agy=>?_) fun agy=>?_
    ·refine bo V.ay ?_;refine bo V.ay ?_;refine bo V.aY ?_;refine bo V.bb ?_;refine U V.bt ?_;refine a3 ?_;refine'⟨⟨_,rfl,⟨?xu,rfl,rfl,rfl,rfl,rfl,rfl,trivial⟩⟩,bx _,rfl⟩;case xu=>first|exact fw rfl (by first|omega|(simp_all;done)|(simp_all;omega))|exact fu rfl (by first|omega|(simp_all;done)|(simp_all;omega))|exact fv rfl (by first|omega|(simp_all;done)|(simp_all;omega))|exact fE rfl (by first|omega|(simp_all;done)|(simp_all;omega))
    ·refine bs ?_;refine bs ?_;refine bs ?_;refine bs ?_;refine U V.bt ?_;refine a3 ?_;refine'⟨⟨_,rfl,⟨?xu,rfl,rfl,rfl,rfl,rfl,rfl,trivial⟩⟩,bx _,rfl⟩;case xu=>first|exact fw rfl (by first|omega|(simp_all;done)|(simp_all;omega))|exact fu rfl (by first|omega|(simp_all;done)|(simp_all;omega))|exact fv rfl (by first|omega|(simp_all;done)|(simp_all;omega))|exact fE rfl (by first|omega|(simp_all;done)|(simp_all;omega))
   case pj=>
    refine ao ?_;refine If (fun iw=>?_) fun iw=>?_
    ·obtain⟨s1,s2,hK⟩:=Z4 dv (show 0<b+y by omega);obtain⟨ms,qH,Zn⟩:=Z4 dV (show 0<b+z by omega);obtain⟨aX,n9⟩:∃q,q=(a+w).tdiv (b+y):=⟨_,rfl⟩;obtain⟨aU,qs⟩:∃q,q=(a+x).tdiv (b+z):=⟨_,rfl⟩;rw[<-n9] at s1 s2 hK;rw[<-qs] at ms qH Zn;have atz:aX<=a+w:=by
       have:=vY (show 1<=b+y by omega) hK;omega
     have atB:aU<=a+x:=by
       have:=vY (show 1<=b+z by omega) Zn;omega
     refine dW ?_;refine ao ?_;refine ae.block ?_;refine rg ?_;refine al ?_;refine U V.aY ?_;refine al ?_;refine U V.aY ?_;refine U V.hn ?_;rw[show IntKind.i64.wrap ((a+w).tdiv (b+y))=aX from by rw[<-n9];exact wrap_i64 I I];refine U V.au ?_;refine a2 ?_;refine al ?_;refine U V.aY ?_;refine al ?_;refine U V.aY ?_;refine U V.hn ?_;rw[show IntKind.i64.wrap ((a+x).tdiv (b+z))=aU from by rw[<-qs];exact wrap_i64 I I];refine U V.bb ?_;refine aA ?_;refine If (fun E1=>?_) fun E1=>?_
     ·refine ao ?_;refine ae.exit ?_;refine'⟨⟨w,x,y,z⟩,_,?hinv,rfl,⟨?mI,?j1,?mj,?na,trivial⟩,gK,rfl⟩;case mI=>first|exact bg|exact aa some (aa (Value.int .u64) I)|exact aa some (aa (Value.int .u32) I)|exact aa some (aa (Value.int .i64) I)
      case j1=>first|exact bg|exact aa some (aa (Value.int .u64) I)|exact aa some (aa (Value.int .u32) I)|exact aa some (aa (Value.int .i64) I)
      case mj=>first|exact bg|exact aa some (aa (Value.int .u64) I)|exact aa some (aa (Value.int .u32) I)|exact aa some (aa (Value.int .i64) I)
      case na=>first|exact bg|exact aa some (aa (Value.int .u64) I)|exact aa some (aa (Value.int .u32) I)|exact aa some (aa (Value.int .i64) I)
      case hinv=>exact⟨I,fun ab=>e'.out bB ab⟩
     ·obtain rfl:aX=aU:=by first|omega|(simp at E1;exact E1)
      obtain⟨c1,fq,mH,mI,j1,mj,na,G3⟩:=e'.ks bB s1 ms hK I I;have asl:a -aX*b+(w -aX*y)<b+y:=by
        rw[nj] at s1;rw[qQ,rV,nj] at s2;omega
      refine fy ?_;refine al ?_;refine U V.aY ?_;refine U V.aY ?_;refine al ?_;refine U V.aY ?_;refine U V.aY ?_;refine al ?_;refine a2 ?_;refine al ?_;refine' W.step rfl (Exec.val rfl rfl (zu rfl rfl ?hw) ?_);case hw=>first|exact wrap_i64 I I|exact wrap_u8 I I|exact wrap_u64 I I|exact wrap_u32 I I|rfl
      refine al ?_;refine' W.step rfl (Exec.val rfl rfl (zu rfl rfl ?hw) ?_);case hw=>first|exact wrap_i64 I I|exact wrap_u8 I I|exact wrap_u64 I I|exact wrap_u32 I I|rfl
      refine' W.step rfl (Exec.val rfl rfl (apH rfl rfl rfl rfl rfl rfl rfl) ?_);refine U V.bb ?_;refine aA ?_;refine If (fun wk=>?_) fun wk=>?_
      ·refine ao ?_;refine ae.exit ?_;refine'⟨⟨w,x,y,z⟩,_,?hinv,rfl,⟨?mI,?j1,?mj,?na,trivial⟩,gK,rfl⟩;case mI=>first|exact bg|exact aa some (aa (Value.int .u64) I)|exact aa some (aa (Value.int .u32) I)|exact aa some (aa (Value.int .i64) I)
       case j1=>first|exact bg|exact aa some (aa (Value.int .u64) I)|exact aa some (aa (Value.int .u32) I)|exact aa some (aa (Value.int .i64) I)
       case mj=>first|exact bg|exact aa some (aa (Value.int .u64) I)|exact aa some (aa (Value.int .u32) I)|exact aa some (aa (Value.int .i64) I)
       case na=>first|exact bg|exact aa some (aa (Value.int .u64) I)|exact aa some (aa (Value.int .u32) I)|exact aa some (aa (Value.int .i64) I)
       case hinv=>exact⟨I,fun ab=>e'.out bB ab⟩
      ·refine ao ?_;refine ae.skip ?_;refine rg ?_;refine al ?_;refine a2 ?_;refine al ?_;refine U V.aY ?_;refine U V.aY ?_;refine al ?_;refine a3 ?_;refine fl ⟨b,a -aX*b,y,z,w -aX*y,x -aX*z,!e⟩ ?_ (hk:=by exact(show(a -aX*b+(w -aX*y)).toNat<(b+y).toNat by omega));exact⟨e'.next bB s1 s2 ms qH hK,I⟩
    ·refine ao ?_;refine ae.exit ?_;refine'⟨⟨w,x,y,z⟩,_,?hinv,rfl,⟨?mI,?j1,?mj,?na,trivial⟩,gK,rfl⟩;case mI=>first|exact bg|exact aa some (aa (Value.int .u64) I)|exact aa some (aa (Value.int .u32) I)|exact aa some (aa (Value.int .i64) I)
     case j1=>first|exact bg|exact aa some (aa (Value.int .u64) I)|exact aa some (aa (Value.int .u32) I)|exact aa some (aa (Value.int .i64) I)
     case mj=>first|exact bg|exact aa some (aa (Value.int .u64) I)|exact aa some (aa (Value.int .u32) I)|exact aa some (aa (Value.int .i64) I)
     case na=>first|exact bg|exact aa some (aa (Value.int .u64) I)|exact aa some (aa (Value.int .u32) I)|exact aa some (aa (Value.int .i64) I)
     case hinv=>exact⟨I,fun ab=>e'.out bB ab⟩
 case wx=>
  rintro⟨w,x,y,z⟩ hinv;try simp only at hinv
  obtain⟨oI,sx⟩:=hinv;refine rg ?_;refine al ?_;refine aA ?_;refine ae.ret ?_;refine'⟨.inr rfl,rfl,_,[],.tmp rfl (.tmp rfl (.tmp rfl (.tmp rfl .nil))),br _,⟨⟨_,_,_,_,rfl,oI,sx⟩,rfl,rfl⟩⟩
end
end
end Go.Opn

/- A part of the proof of TableTurns. -/
import Init
import Derived.Test.YtlgjlbpafcifoaaGreatDoorCak
set_option linter.unusedVariables false
set_option linter.unusedSimpArgs false
namespace Go.Opn
noncomputable section
structure cY where
 z:Int
 d:Nat
def cY.h7(r:cY):Prop:=0<r.d/\Nat.Coprime r.z.natAbs r.d
def bn(z:Int)(d:Nat):cY:=⟨z / ((Nat.gcd z.natAbs d:Nat):Int),d / Nat.gcd z.natAbs d⟩
theorem yO{z:Int}{d:Nat}(al:0<d):∃(g e:Nat) (q:Int),0<g/\0<e/\z=g*q/\d=g*e/\Nat.Coprime q.natAbs e/\bn z d=⟨q,e⟩/\g=Nat.gcd z.natAbs d:=by
 have ax:0<Nat.gcd z.natAbs d:=vI _ al;obtain⟨e,he⟩:=m0 z.natAbs d;have aG:((Nat.gcd z.natAbs d:Nat):Int) ∣ z:=rC.2 (kG _ _);obtain⟨q,bI⟩:=aG;have aD:=Iq (m:=z.natAbs) (n:=d) ax;generalize cg:Nat.gcd z.natAbs d=g at*;have ab:z / (g:Int)=q:=by rw[bI];exact Int.mul_ediv_cancel_left _ (by omega)
 have ad:d / g=e:=by rw[he];exact vJ _ ax
 have aL:z.natAbs / g=q.natAbs:=by rw[bI,l4,hK];exact vJ _ ax
 have aip:0<e:=by
  rcases il e with h|h
  ·rw[h] at he;omega
  ·exact h
 refine⟨g,e,q,ax,aip,bI,he,by rw[aL,ad] at aD;exact aD,?_,rfl⟩;unfold bn;rw[cg,ab,ad]
theorem ml{z:Int}{d:Nat}(al:0<d):(bn z d).h7:=by
 obtain⟨g,e,q,ab,ad,aL,a6,fb,fX,_⟩:=yO (z:=z) al;rw[fX];exact⟨ad,fb⟩
theorem w'{z:Int}{d:Nat}(al:0<d):(bn z d).z*d=z*(bn z d).d:=by
 obtain⟨g,e,q,ab,ad,aL,a6,fb,fX,_⟩:=yO (z:=z) al;rw[fX,aL,a6];show q*((g*e:Nat):Int)=(g:Int)*q*(e:Int);rw[hc];simp only[jT,j5,oT]
theorem cY.af'{r s:cY}(ab:r.z=s.z)(ad:r.d=s.d):r=s:=by
 cases r;cases s;simp at ab ad;subst ab;subst ad;rfl
theorem ad9{r s:cY}(aq:r.h7)(hs:s.h7)(h:r.z*s.d=s.z*r.d):r=s:=by
 have aF:=b6 Int.natAbs h;rw[l4,l4,hK,hK] at aF;have ab:r.d ∣ s.d:=abK aq.2.symm ⟨s.z.natAbs,by rw[aF,dp]⟩;have ad:s.d ∣ r.d:=abK hs.2.symm ⟨r.z.natAbs,by rw[<-aF,dp]⟩;have e:=L8 ab ad;have al:=hs.1;refine cY.af' ?_ e;rw[e] at h;exact DZ (by omega) h
theorem AN{r:cY}{z:Int}{d:Nat}(aq:r.h7)(al:0<d)(h:r.z*d=z*r.d):r=bn z d:=by
 refine ad9 aq (ml al) ?_;have ad:=w' (z:=z) al;have z9:(d:Int)≠0:=by omega
 refine DZ z9 ?_
 calc r.z*(bn z d).d*d=(r.z*d)*(bn z d).d:=by simp only[jT,j5,oT]
  _=z*r.d*(bn z d).d:=by rw[h]
  _=(z*(bn z d).d)*r.d:=by simp only[jT,j5,oT]
  _=(bn z d).z*d*r.d:=by rw[ad]
  _=(bn z d).z*r.d*d:=by simp only[jT,j5,oT]
theorem KI{z w:Int}{d e:Nat}(al:0<d)(he:0<e):bn z d=bn w e↔z*e=w*d:=by
 have ab:=w' (z:=z) al;have ad:=w' (z:=w) he;have bp:=ml (z:=z) al;constructor
 ·intro h;rw[<-h] at ad;have U:((bn z d).d:Int)≠0:=by have:=bp.1;omega
  refine DZ U ?_
  calc z*e*(bn z d).d=(z*(bn z d).d)*e:=by simp only[jT,j5,oT]
   _=(bn z d).z*d*e:=by rw[ab]
   _=((bn z d).z*e)*d:=by simp only[jT,j5,oT]
   _=w*(bn z d).d*d:=by rw[ad]
   _=w*d*(bn z d).d:=by simp only[jT,j5,oT]
 ·intro h;refine AN bp he ?_;have U:(d:Int)≠0:=by omega
  refine DZ U ?_
  calc (bn z d).z*e*d=((bn z d).z*d)*e:=by simp only[jT,j5,oT]
   _=z*(bn z d).d*e:=by rw[ab]
   _=(z*e)*(bn z d).d:=by simp only[jT,j5,oT]
   _=w*d*(bn z d).d:=by rw[h]
   _=w*(bn z d).d*d:=by simp only[jT,j5,oT]
theorem AM{r:cY}(h:r.h7):bn r.z r.d=r:=(AN h h.1 rfl).symm
theorem pr{d:Nat}(al:0<d):bn 0 d=⟨0,1⟩:=(AN (r:=⟨0,1⟩) ⟨by decide,by decide⟩ al (by simp)).symm
theorem KJ{z:Int}{d:Nat}(al:0<d):(0<(bn z d).z↔0<z)/\((bn z d).z<0↔z<0)/\((bn z d).z=0↔z=0):=by
 obtain⟨g,e,q,ab,ad,aL,a6,fb,fX,_⟩:=yO (z:=z) al;rw[fX,aL];have ax:(0:Int)<g:=by omega
 refine⟨⟨fun h=>BD ax h,fun h=>?_⟩,⟨fun h=>SC ax h,fun h=>?_⟩,⟨fun h=>?_,fun h=>?_⟩⟩
 ·rcases vB 0 q with k|k
  ·exact k
  ·have:=Int.mul_nonpos_of_nonneg_of_nonpos (uf ax) k;omega
 ·rcases vB q 0 with k|k
  ·exact k
  ·have:=km (uf ax) k;omega
 ·show(g:Int)*q=0;have h:q=0:=h;rw[h,SD]
 ·show q=0;rcases Int.mul_eq_zero.1 h with k|k
  ·omega
  ·exact k
theorem QK{z:Int}{d:Nat}(al:0<d):(bn z d).z.natAbs<=z.natAbs/\(bn z d).d<=d:=by
 obtain⟨g,e,q,ab,ad,aL,a6,fb,fX,_⟩:=yO (z:=z) al;rw[fX];constructor
 ·rw[aL,l4,hK];exact abR _ ab
 ·rw[a6];exact abR _ ab
theorem W2{dI dB:Int}{u v:Nat}(ab:Nat.Coprime dI.natAbs u)(ad:Nat.Coprime v u):Nat.Coprime (dI*v+dB*u).natAbs u:=by
 have OU:=kG (dI*v+dB*u).natAbs u;have FF:=m0 (dI*v+dB*u).natAbs u;show Nat.gcd (dI*v+dB*u).natAbs u=1;generalize Nat.gcd (dI*v+dB*u).natAbs u=k at OU FF;have a7:(k:Int) ∣ dI*v+dB*u:=rC.2 OU;have bc:(k:Int) ∣ dB*u:=Int.dvd_trans (ug.2 FF) (Int.dvd_mul_left _ _);have cu:(k:Int) ∣ dI*v:=(Int.dvd_add_left bc).1 a7;have c9:k ∣ dI.natAbs*v:=by
  have:=rC.1 cu;rwa [l4,hK] at this
 have bp:Nat.Coprime k dI.natAbs:=(L4 FF ab).symm;have bN:Nat.Coprime k v:=(L4 FF ad).symm;exact Nat.Coprime.eq_one_of_dvd (bp.mul_right bN) c9
theorem akF{r s:cY}(aq:r.h7)(hs:s.h7){g u v h:Nat}{t q:Int}(ax:g=Nat.gcd r.d s.d)(hu:r.d=u*g)(ar:s.d=v*g)(aJ:t=r.z*v+s.z*u)(cT:h=Nat.gcd t.natAbs g)(bI:t=q*h){w:Nat}(hw:s.d=w*h):(⟨q,u*w⟩:cY)=bn (r.z*s.d+s.z*r.d) (r.d*s.d):=by
 have rd:=aq.1;have hU:=hs.1;have yq:0<g:=by rw[ax];exact abP _ rd
 have yr:0<h:=by rw[cT];exact vI _ yq
 have F5:Nat.Coprime u v:=by
  have:=Iq (m:=r.d) (n:=s.d) (by rw[<-ax];exact yq);rw[<-ax] at this;have aw:r.d / g=u:=by rw[hu];exact sQ _ yq
  have aR:s.d / g=v:=by rw[ar];exact sQ _ yq
  rwa [aw,aR] at this
 obtain⟨m,hm⟩:h ∣ g:=by rw[cT];exact m0 _ _
 have o6:w=v*m:=by
  have:w*h=v*m*h:=by rw[<-hw,ar,hm,dp h m,e4]
  exact Nat.eq_of_mul_eq_mul_right yr this
 have aap:t.natAbs=q.natAbs*h:=by rw[bI,l4,hK]
 have We:q.natAbs ∣ t.natAbs:=⟨h,aap⟩;have bp:Nat.Coprime t.natAbs u:=by
  rw[aJ];exact W2 (L4 ⟨g,hu⟩ aq.2) F5.symm
 have bN:Nat.Coprime t.natAbs v:=by
  rw[aJ,Int.add_comm];exact W2 (L4 ⟨g,ar⟩ hs.2) F5
 have cN:Nat.Coprime q.natAbs m:=by
  have:=Iq (m:=t.natAbs) (n:=g) (by rw[<-cT];exact yr);rw[<-cT] at this;have aw:t.natAbs / h=q.natAbs:=by rw[aap];exact sQ _ yr
  have aR:g / h=m:=by rw[hm];exact vJ _ yr
  rwa [aw,aR] at this
 have ajR:0<u:=by
  rcases il u with k|k
  ·rw[k] at hu;omega
  ·exact k
 have aj5:0<w:=by
  rcases il w with k|k
  ·rw[k] at hw;omega
  ·exact k
 refine AN ⟨kp ajR aj5,?_⟩ (kp rd hU) ?_
 ·show Nat.Coprime q.natAbs (u*w);rw[o6];exact(abJ We bp).mul_right ((abJ We bN).mul_right cN)
 ·show q*((r.d*s.d:Nat):Int)=(r.z*s.d+s.z*r.d)*((u*w:Nat):Int);have aw:(r.z*s.d+s.z*r.d:Int)=t*g:=by
   rw[aJ,hu,ar,hc,hc,qA];simp only[jT]
  rw[aw,bI,o6];have aR:(s.d:Int)=v*(h*m):=by rw[ar,hm];simp
  rw[hc,aR,hu,hm];simp only[hc,jT,j5,oT]
theorem akG{r s:cY}(aq:r.h7)(hs:s.h7){g h a c:Nat}{p q:Int}{b e:Nat}(ax:g=Nat.gcd r.z.natAbs s.d)(cT:h=Nat.gcd s.z.natAbs r.d)(aG:r.z≠0)(gl:s.z≠0)(ab:r.z=p*g)(ad:s.z=q*h)(aL:r.d=b*h)(a6:s.d=e*g):(⟨p*q,b*e⟩:cY)=bn (r.z*s.z) (r.d*s.d):=by
 have rd:=aq.1;have hU:=hs.1;have yq:0<g:=by rw[ax];exact vI _ hU
 have yr:0<h:=by rw[cT];exact vI _ rd
 have d':r.z.natAbs=p.natAbs*g:=by rw[ab,l4,hK]
 have ej:s.z.natAbs=q.natAbs*h:=by rw[ad,l4,hK]
 have bp:Nat.Coprime p.natAbs e:=by
  have:=Iq (m:=r.z.natAbs) (n:=s.d) (by rw[<-ax];exact yq);rw[<-ax,d',a6,sQ _ yq,sQ _ yq] at this;exact this
 have bN:Nat.Coprime q.natAbs b:=by
  have:=Iq (m:=s.z.natAbs) (n:=r.d) (by rw[<-cT];exact yr);rw[<-cT,ej,aL,sQ _ yr,sQ _ yr] at this;exact this
 have cN:Nat.Coprime p.natAbs b:=(aq.2.coprime_dvd_left ⟨g,d'⟩).coprime_dvd_right ⟨h,aL⟩;have e':Nat.Coprime q.natAbs e:=(hs.2.coprime_dvd_left ⟨h,ej⟩).coprime_dvd_right ⟨g,a6⟩;have ai:0<b:=by
  rcases il b with k|k
  ·rw[k] at aL;omega
  ·exact k
 have he:0<e:=by
  rcases il e with k|k
  ·rw[k] at a6;omega
  ·exact k
 refine AN ⟨kp ai he,?_⟩ (kp rd hU) ?_
 ·show Nat.Coprime (p*q).natAbs (b*e);rw[l4];exact(cN.mul_right bp).mul_left (bN.mul_right e')
 ·show p*q*((r.d*s.d:Nat):Int)=r.z*s.z*((b*e:Nat):Int);rw[ab,ad,aL,a6];simp only[hc,jT,j5,oT]
end
end Go.Opn
namespace Go.Opn
noncomputable section
def aI:List Nat->Nat
 |[]=>0
 |x::l=>x+1000000000*aI l
def dG(l:List Nat):Prop:=∀x∈l,x<1000000000
def jy(l:List Nat):Prop:=dG l/\∀x,l.getLast?=some x->x≠0
def ag(n:Nat):List Nat:=if h:n=0 then[] else n % 1000000000::ag (n / 1000000000)
termination_by n
decreasing_by omega
theorem nl:ag 0=[]:=by unfold ag;rfl
theorem sg{n:Nat}(h:n≠0):ag n=n % 1000000000::ag (n / 1000000000):=by rw[ag];rw[dif_neg h]
theorem e1:∀n:Nat,aI (ag n)=n:=by
 intro n;induction n using Nat.strongRecOn with
 |_ n aP=>
  by_cases h:n=0
  ·subst h;rw[nl];rfl
  ·rw[sg h];show n % 1000000000+1000000000*aI (ag (n / 1000000000))=n;rw[aP _ (by omega)];omega
theorem hx:∀n:Nat,dG (ag n):=by
 intro n;induction n using Nat.strongRecOn with
 |_ n aP=>
  by_cases h:n=0
  ·subst h;rw[nl];intro x U;cases U
  ·rw[sg h];intro x U;rcases fU.1 U with rfl|U
   ·omega
   ·exact aP _ (by omega) x U
theorem Dc:∀(n:Nat) (x:Nat),(ag n).getLast?=some x->x≠0:=by
 intro n;induction n using Nat.strongRecOn with
 |_ n aP=>
  intro x U;by_cases h:n=0
  ·subst h;rw[nl] at U;cases U
  ·rw[sg h] at U;by_cases ad:n / 1000000000=0
   ·rw[ad,nl] at U;have U:n % 1000000000=x:=by simpa using U
    omega
   ·rw[sg ad,L1,<-sg ad] at U;exact aP _ (by omega) x U
theorem zI(n:Nat):jy (ag n):=⟨hx n,Dc n⟩
theorem dG.tail{x:Nat}{l:List Nat}(h:dG (x::l)):dG l:=fun y au=>h y (.tail _ au)
theorem MZ{x:Nat}{l:List Nat}(h:jy (x::l)):jy l:=⟨h.1.tail,fun y au=>by
 cases l with
 |nil=>cases au
 |cons z l=>exact h.2 y (by rw[L1];exact au)⟩
theorem RW:∀{l:List Nat},jy l->aI l=0->l=[]
 |[],_,_=>rfl
 |x::l,h,aN=>by
  have aN:x+1000000000*aI l=0:=aN;have:=RW (MZ h) (by omega);subst this;exact absurd (show x=0 by omega) (h.2 x rfl)
theorem qP:∀{l:List Nat},jy l->l=ag (aI l)
 |[],_=>by show[]=ag 0;rw[nl]
 |x::l,h=>by
  have U:=h.1 x (.head _);have aP:=qP (MZ h);have az:aI (x::l)≠0:=fun q=>by have:=RW h q;cases this
  rw[sg az];have aw:aI (x::l) % 1000000000=x:=by show(x+1000000000*aI l) % 1000000000=x;omega
  have aR:aI (x::l) / 1000000000=aI l:=by show(x+1000000000*aI l) / 1000000000=aI l;omega
  rw[aw,aR,<-aP]
theorem tW:∀(a b:List Nat),aI (a++b)=aI a+1000000000 ^ a.length*aI b
 |[],b=>by show aI b=0+1*aI b;omega
 |x::a,b=>by
  show x+1000000000*aI (a++b)=x+1000000000*aI a+1000000000 ^ (a.length+1)*aI b;rw[tW a b,cH,ff,e4,D9,rJ]
theorem Ls(x:Nat):aI [x]=x:=by show x+1000000000*0=x;omega
theorem lB:∀{l:List Nat},dG l->aI l<1000000000 ^ l.length
 |[],_=>by decide
 |x::l,h=>by
  have aP:=lB h.tail;have U:=h x (.head _);show x+1000000000*aI l<1000000000 ^ (l.length+1);rw[ff];omega
theorem RV{l:List Nat}(h:jy l)(az:l≠[]):1000000000 ^ (l.length -1)<=aI l:=by
 have e:=abu az;have aN:l.getLast az≠0:=h.2 _ (aby az);rw[<-e,tW,Ls,eY,zl,lg];have:1000000000 ^ l.dropLast.length*1<=1000000000 ^ l.dropLast.length*l.getLast az:=hf _ (by omega);omega
theorem lC{l:List Nat}{i x:Nat}(h:l[i]?=some x):aI (l.take (i+1))=aI (l.take i)+1000000000 ^ i*x:=by
 have ak:=(gS.1 h).1;rw[ko,h,Option.toList_some,tW,Ls,dY,fV (by omega)]
theorem vt{l:List Nat}{i x:Nat}(h:l[i]?=some x):aI (l.drop i)=x+1000000000*aI (l.drop (i+1)):=by
 have ak:=(gS.1 h).1;have U:l[i]=x:=by rw[dX ak] at h;injection h
 rw[Ic ak,U];rfl
theorem zb(l:List Nat)(i:Nat)(ak:i<=l.length):aI l=aI (l.take i)+1000000000 ^ i*aI (l.drop i):=by
 have:=tW (l.take i) (l.drop i);rwa [Il,dY,fV ak] at this
theorem aaH{l:List Nat}{i x y:Nat}(h:l[i]?=some x):aI (l.set i y)+1000000000 ^ i*x=aI l+1000000000 ^ i*y:=by
 have ak:=(gS.1 h).1;have aw:=zb l i (by omega);have aR:=zb (l.set i y) i (by rw[g6];omega);rw[Im (bF i),vt (i:=i) (x:=y) (by rw[mz,a2 rfl,a2 ak]),BI (by omega)] at aR;rw[vt h] at aw;rw[aw,aR,cH,cH];omega
theorem yP{l:List Nat}{i y:Nat}(h:dG l)(au:y<1000000000):dG (l.set i y):=fun x U=>by
 rcases SY U with q|q
 ·exact h x q
 ·omega
theorem Dq{a b:List Nat}(ab:dG a)(ad:dG b):dG (a++b):=fun x U=>by
 rcases nB.1 U with q|q
 ·exact ab x q
 ·exact ad x q
theorem vi{l:List Nat}{i:Nat}(h:dG l):dG (l.take i):=fun x U=>h x (vG U)
theorem KP{l:List Nat}{i:Nat}(h:dG l):dG (l.drop i):=fun x U=>h x (List.mem_of_mem_drop U)
theorem pv{l:List Nat}{i x:Nat}(h:dG l)(U:l[i]?=some x):x<1000000000:=h x (gh U)
theorem Dr{n:Nat}:dG (List.replicate n 0):=fun x U=>by rw[SM U];decide
theorem aaJ:∀n:Nat,aI (List.replicate n 0)=0
 |0=>rfl
 |n+1=>by rw[S1];show 0+1000000000*aI (List.replicate n 0)=0;rw[aaJ n]
theorem aaI{a b:List Nat}(aF:dG a)(ai:jy b)(h:a.length<b.length):aI a<aI b:=by
 have ab:=lB aF;have ad:=RV ai (fun q=>by rw[q] at h;exact Ee _ h);have aL:1000000000 ^ a.length<=1000000000 ^ (b.length -1):=nE (by decide) (by omega);omega
theorem aq1{a b:List Nat}{i x y:Nat}(aF:dG a)(U:a[i]?=some x)(au:b[i]?=some y)(al:a.drop (i+1)=b.drop (i+1))(h:x<y):aI a<aI b:=by
 have akc:=(gS.1 U).1;have akd:=(gS.1 au).1;have aw:=zb a (i+1) (by omega);have aR:=zb b (i+1) (by omega);rw[lC U,al] at aw;rw[lC au] at aR;have ab:=lB (vi (i:=i) aF);rw[dY,fV (by omega)] at ab;have ad:1000000000 ^ i*(x+1)<=1000000000 ^ i*y:=hf _ h;rw[cH,gJ] at ad;generalize 1000000000 ^ (i+1)*aI (b.drop (i+1))=R at aw aR;generalize 1000000000 ^ i*x=X at aw ad;generalize 1000000000 ^ i*y=Y at aR ad;omega
end
end Go.Opn
namespace Go.Cre
noncomputable section
open Go.RowKit
open Classical
structure cZ (P:Program) where
 ok:(Nat->Prop)->World->Prop
 up:∀B w0 hV ie,ok B w0->(∀k,B k->hV k)->Kept B w0 ie->ok hV ie
def kb (c:Code)(S:aV)(H:an)(r:Exit×aV×an):Code->aV->an->Option (Exit×aV×an):=fun c' aC H'=>if c'=c/\aC=S/\H'=H then some r else none
def ka (f:FuncId)(args:List Value)(H:an)(r:Ending×an):eo:=fun f' bP H'=>if f'=f/\bP=args/\H'=H then some r else none
def dk{P:Program}(Q:cZ P)(c:Code)(S:aV)(H:an)(e:Exit)(aC:aV)(H':an):Prop:=∀B w0,Q.ok B w0->rB P B w0 (kb c S H (e,aC,H'))
def iS{P:Program}(Q:cZ P)(f:FuncId)(args:List Value)(H:an)(e:Ending)(H':an):Prop:=∀B w0,Q.ok B w0->oQ P B w0 (ka f args H (e,H'))
def qQ {P:Program}(Q:cZ P)(pick:Code->aV->an->Option (Exit×aV×an)):Code->aV->an->Option (Exit×aV×an):=fun c S H=>match pick c S H with
 |some (e,aC,H')=>if dk Q c S H e aC H' then some (e,aC,H') else none
 |none=>none
def gV {P:Program}(Q:cZ P)(pick:eo):eo:=fun f args H=>match pick f args H with
 |some (e,H')=>if iS Q f args H e H' then some (e,H') else none
 |none=>none
section
variable {P:Program}{Q:cZ P}{B:Nat->Prop}{w0:World}
theorem B4(pick:Code->aV->an->Option (Exit×aV×an))(fY:Q.ok B w0):rB P B w0 (qQ Q pick):=by
 intro c S H e aC H' he;unfold qQ at he;split at he
 ·split at he
  ·rename_i dq;simp only[cl,dm] at he;obtain⟨rfl,rfl,rfl⟩:=he;exact dq B w0 fY c S H _ _ _ (by unfold kb;rw[a2 ⟨rfl,rfl,rfl⟩])
  ·cases he
 ·cases he
theorem MS(pick:eo)(fY:Q.ok B w0):oQ P B w0 (gV Q pick):=by
 intro f args H e H' he;unfold gV at he;split at he
 ·split at he
  ·rename_i dq;simp only[cl,dm] at he;obtain⟨rfl,rfl⟩:=he;exact dq B w0 fY f args H _ _ (by unfold ka;rw[a2 ⟨rfl,rfl,rfl⟩])
  ·cases he
 ·cases he
def e8 {P:Program}(Q:cZ P)(ek:Code->aV->an->Option (Exit×aV×an))(ck:eo):fv:=
 ⟨qQ Q ek,fun f args bG bd H=>if bG=true then none else match gV Q ck f args H with|some (e,H')=>some (e,bd,H')|none=>none⟩
theorem H3(ek:Code->aV->an->Option (Exit×aV×an))(ck:eo):(e8 Q ek ck).call=gV Q ck:=by
 funext f args H
 unfold fv.call e8;simp only[By,Ay];cases gV Q ck f args H with
 |none=>rfl
 |some p=>rfl
theorem dk.vh(oz:P.follows .mixedOrders=true){c:Code}{S aC:aV}{H H':an}{e:Exit}(ek:Code->aV->an->Option (Exit×aV×an))(ck:eo)(h:I4 P (e8 Q ek ck) c S H=some (e,aC,H')):dk Q c S H e aC H':=by
 intro B w0 fY;have ez:∀(hV:Nat->Prop) (ie:World),(∀k,B k->hV k)->Kept B w0 ie->Q.ok hV ie:=fun hV ie a b=>Q.up B w0 hV ie fY a b;have aD:∀(hV:Nat->Prop) (ie:World),Q.ok hV ie->rB P hV ie (e8 Q ek ck).code:=fun hV ie q=>B4 ek q;have hk:∀(hV:Nat->Prop) (ie:World),Q.ok hV ie->oQ P hV ie (e8 Q ek ck).call:=fun hV ie q=>by rw[H3];exact MS ck q
 have hs:=UA (P:=P) (B:=B) (w0:=w0) (E:=e8 Q ek ck) oz (aD B w0 fY) (fun hV ie a b=>hk hV ie (ez hV ie a b)) (fun hV ie a b=>LG (aD hV ie (ez hV ie a b))) (Y4 (hk B w0 fY));intro bp a0 H1 aw Ml H4 he;unfold kb at he;split at he
 ·rename_i q;obtain⟨rfl,rfl,rfl⟩:=q;simp only[cl,dm] at he;obtain⟨rfl,rfl,rfl⟩:=he;exact hs _ _ _ _ _ _ h
 ·cases he
theorem M2{c:Code}{S aC:aV}{H H':an}{e:Exit}(h:dk Q c S H e aC H'){ek:Code->aV->an->Option (Exit×aV×an)}(ao:ek c S H=some (e,aC,H')):qQ Q ek c S H=some (e,aC,H'):=by
 unfold qQ;rw[ao];simp only;rw[a2 h]
theorem x3{f:FuncId}{args:List Value}{H H':an}{e:Ending}(h:iS Q f args H e H'){ck:eo}(ao:ck f args H=some (e,H')):gV Q ck f args H=some (e,H'):=by
 unfold gV;rw[ao];simp only;rw[a2 h]
def gd:Code->aV->an->Option (Exit×aV×an):=fun _ _ _=>none
def j2:eo:=fun _ _ _=>none
def Q8 (bp:Code)(a0:aV)(H1:an)(cX:Exit×aV×an)(bN:Code)(fA:aV)(bK:an)(cW:Exit×aV×an):Code->aV->an->Option (Exit×aV×an):=fun c S H=>
 if c=bp/\S=a0/\H=H1 then some cX else if c=bN/\S=fA/\H=bK then some cW else none
theorem dk.skip(oz:P.follows .mixedOrders=true){S:aV}{H:an}:dk Q .skip S H .normal S H:=dk.vh oz gd j2 rfl
theorem dk.ret(oz:P.follows .mixedOrders=true){S:aV}{H:an}:dk Q .ret S H .ret S H:=dk.vh oz gd j2 rfl
theorem dk.exit(oz:P.follows .mixedOrders=true){S:aV}{H:an}{id:Nat}:dk Q (.exit id) S H (.exit id) S H:=dk.vh oz gd j2 rfl
theorem dk.mk{c:Code}{S aC:aV}{H H':an}{e:Exit}(h:∀B w0,Q.ok B w0->∀μ w fr tmps ds cs k it,bX P B w0 μ H w->hJ P μ S fr tmps ds cs->xW c it->lE P B w0 μ H S fr cs (lone (bH fr tmps ds (it::k)) cs w) k aC H' e):dk Q c S H e aC H':=by
 intro B w0 fY bp a0 H1 aw Ml H4 he;unfold kb at he;split at he
 ·rename_i q;obtain⟨rfl,rfl,rfl⟩:=q;simp only[cl,dm] at he;obtain⟨rfl,rfl,rfl⟩:=he;exact h B w0 fY
 ·cases he
theorem dk.use{c:Code}{S aC:aV}{H H':an}{e:Exit}(h:dk Q c S H e aC H')(fY:Q.ok B w0){μ:bL}{w:World}{fr:Frame}{tmps:Array Value}{ds:List Deferred}{cs:List Frame}{k:List Item}{it:Item}(lL:bX P B w0 μ H w)(b3:hJ P μ S fr tmps ds cs)(hs:xW c it):
 lE P B w0 μ H S fr cs (lone (bH fr tmps ds (it::k)) cs w) k aC H' e:=h B w0 fY c S H e aC H' (by unfold kb;rw[a2 ⟨rfl,rfl,rfl⟩]) μ w fr tmps ds cs k it lL b3 hs
theorem xW.plain{c:Code}{it:Item}(h:xW c it)(az:∀c',c≠.loop c'):it=.code c:=by
 rcases h with q|⟨c',q,_⟩
 ·exact q
 ·exact absurd q (az c')
theorem dk.seq{a b:Code}{S a0 fA:aV}{H H1 bK:an}{e:Exit}(ab:dk Q a S H .normal a0 H1)(ad:dk Q b a0 H1 e fA bK):dk Q (.seq a b) S H e fA bK:=by
 refine .mk fun B w0 fY μ w fr tmps ds cs k it lL b3 hs=>?_;obtain rfl:=hs.plain (fun _ q=>by cases q);exact((ab.use (k:=.code b::k) fY lL b3 (.inl rfl)).bind fun e2 bt t1 d1 gj lr=>ad.use fY lr.h lr.f (.inl rfl)).steps (.one RE)
theorem dk.Hr{a b:Code}{S a0:aV}{H H1:an}{e:Exit}(ab:dk Q a S H e a0 H1)(az:e≠.normal):dk Q (.seq a b) S H e a0 H1:=by
 refine .mk fun B w0 fY μ w fr tmps ds cs k it lL b3 hs=>?_;obtain rfl:=hs.plain (fun _ q=>by cases q);exact((ab.use (k:=.code b::k) fY lL b3 (.inl rfl)).steps (.one RE)).pass (fun id _=>rfl) az
theorem xW.loop{c:Code}{it:Item}(h:xW (.loop c) it){fr:Frame}{tmps:Array Value}{ds:List Deferred}{cs:List Frame}{k:List Item}{w:World}:step P (lone (bH fr tmps ds (it::k)) cs w)=.next (lone (bH fr tmps ds (.code c::.inLoop c::k)) cs w):=by
 rcases h with rfl|⟨c',q,rfl⟩
 ·exact Z0
 ·injection q with q;subst q;exact ZZ
theorem dk.Xu{c:Code}{S a0 fA:aV}{H H1 bK:an}{e:Exit}(ab:dk Q c S H .normal a0 H1)(ad:dk Q (.loop c) a0 H1 e fA bK):dk Q (.loop c) S H e fA bK:=by
 refine .mk fun B w0 fY μ w fr tmps ds cs k it lL b3 hs=>?_;exact((ab.use (k:=.inLoop c::k) fY lL b3 (.inl rfl)).bind fun e2 bt t1 d1 gj lr=>ad.use fY lr.h lr.f (.inr ⟨c,rfl,rfl⟩)).steps (.one hs.loop)
theorem dk.vb{c:Code}{S a0:aV}{H H1:an}{e:Exit}(ab:dk Q c S H e a0 H1)(az:e≠.normal):dk Q (.loop c) S H e a0 H1:=by
 refine .mk fun B w0 fY μ w fr tmps ds cs k it lL b3 hs=>?_;exact((ab.use (k:=.inLoop c::k) fY lL b3 (.inl rfl)).steps (.one hs.loop)).pass (fun id _=>rfl) az
theorem B3{c:Code}{S aC:aV}{H H':an}{e:Exit}(h:dk Q c S H e aC H'):qQ Q (kb c S H (e,aC,H')) c S H=some (e,aC,H'):=M2 h (by unfold kb;rw[a2 ⟨rfl,rfl,rfl⟩])
theorem dk.cond(oz:P.follows .mixedOrders=true){x:Operand}{a b:Code}{t:Bool}{S aC:aV}{H H':an}{e:Exit}(U:a1 S.T H x=some (.bool t))(h:dk Q (if t=true then a else b) S H e aC H'):dk Q (.cond x a b) S H e aC H':=by
 cases t with
 |true=>
  refine dk.vh oz (kb a S H (e,aC,H')) j2 ?_;show IU _ S H a b (a1 S.T H x)=_;rw[U];exact B3 h
 |false=>
  refine dk.vh oz (kb b S H (e,aC,H')) j2 ?_;show IU _ S H a b (a1 S.T H x)=_;rw[U];exact B3 h
theorem dk.block(oz:P.follows .mixedOrders=true){id:Nat}{c:Code}{S aC:aV}{H H':an}{e:Exit}(h:dk Q c S H e aC H'):dk Q (.block id c) S H (match e with|.exit j=>if j=id then .normal else .exit j|e=>e) aC H':=by
 refine dk.vh oz (kb c S H (e,aC,H')) j2 ?_;show MR id (qQ Q (kb c S H (e,aC,H')) c S H)=_;rw[B3 h];cases e with
 |exit j=>
  show(bif Nat.beq j id then some (Exit.normal,aC,H') else some (Exit.exit j,aC,H'))=_;by_cases aY:j=id
  ·subst aY;simp
  ·have:Nat.beq j id=false:=by
    cases q:Nat.beq j id
    ·rfl
    ·exact absurd (eb q) aY
   rw[this,da];simp[aY]
 |_=>rfl
theorem abf(ek:Code->aV->an->Option (Exit×aV×an))(ck:eo):ud P B w0 (e8 Q ek ck).body:=by
 intro f args bd H e gv H' he;unfold e8 at he;simp at he
theorem iS.b8{e5:aW Func}(cw:sT P e5){f:FuncId}{args:List Value}{H H':an}{e:Ending}{bd:FrameMode}(ek:Code->aV->an->Option (Exit×aV×an))(ck:eo)(h:rS P e5 (e8 Q ek ck) f args false .run H=some (e,bd,H')):iS Q f args H e H':=by
 intro B w0 fY f1 ux H1 aw H4 he;unfold ka at he;split at he
 ·rename_i q;obtain⟨rfl,rfl,rfl⟩:=q;simp only[cl,dm] at he;obtain⟨rfl,rfl⟩:=he;exact Nv (E:=e8 Q ek ck) cw (B4 ek fY) (abf ek ck) f1 ux H1 _ _ (by unfold fv.call;simp only;rw[h])
 ·cases he
theorem iS.run{e5:aW Func}(cw:sT P e5){f:FuncId}{fn:Func}{c:Code}{args:List Value}{T:aW Value}{H H1 H':an}{a0:aV}{x:Exit}{e:Ending}{bd:FrameMode}(aA:e5.get f=some fn)(ai:fn.body=some c)(aF:nJ args 0 (blank fn.ntmps)=some T)
 (aD:dk Q c ⟨T,fn.ntmps,[],false,.run,none⟩ H x a0 H1)(he:vS P (e8 Q (kb c ⟨T,fn.ntmps,[],false,.run,none⟩ H (x,a0,H1)) j2) fn (some (x,a0,H1))=some (e,bd,H')):iS Q f args H e H':=by
 refine iS.b8 cw (kb c ⟨T,fn.ntmps,[],false,.run,none⟩ H (x,a0,H1)) j2 (bd:=bd) ?_;unfold rS;rw[aA];show Et P _ f fn args false .run H fn.body=_;rw[ai];show Eu P _ fn c false .run H (nJ args 0 (blank fn.ntmps))=_;rw[aF];show vS P _ fn (qQ Q _ c ⟨T,fn.ntmps,[],false,.run,none⟩ H)=_;rw[B3 aD];exact he
end
end
end Go.Cre
namespace Go.Cre
noncomputable section
open Go.RowKit
def aW.has{α:Type}(T:aW α)(n:Nat):Prop:=∀t,t<n->∃v,T.get t=some v
end
end Go.Cre
namespace Go.Opn
noncomputable section
open Go.Cre
open Go.RowKit
theorem aW.DD{α:Type}(a:α):∀(T:aW α) (n:Nat),(∀m,m<n->∃v,T.get m=some v)->∃dD,aW.put a T n=some dD:=by
 intro T;induction T with
 |leaf=>
  intro n h;cases n with
  |zero=>exact⟨_,rfl⟩
  |succ n=>obtain⟨v,ar⟩:=h 0 (by omega);cases ar
 |node v l r wY wZ=>
  intro n h;cases n with
  |zero=>exact⟨_,rfl⟩
  |succ n=>
   rw[aW.K4];by_cases az:n % 2=0
   ·rw[a2 az];obtain⟨l',ap⟩:=wY (n / 2) fun m hm=>by
     obtain⟨v',ar⟩:=h (2*m+1) (by omega);rw[aW.qV,a2 (by omega),show 2*m / 2=m by omega] at ar;exact⟨v',ar⟩
    rw[ap];exact⟨_,rfl⟩
   ·rw[aZ az];obtain⟨ch,aq⟩:=wZ (n / 2) fun m hm=>by
     obtain⟨v',ar⟩:=h (2*m+1+1) (by omega);rw[aW.qV,aZ (by omega),show(2*m+1) / 2=m by omega] at ar;exact⟨v',ar⟩
    rw[aq];exact⟨_,rfl⟩
structure iT (H:an):Prop where
 here:∀a,a<H.ay->∃b,H.mem.get a=some b
 gone:∀a,H.ay<=a->H.mem.get a=none
 Ch:∀f,f<H.cn->∃l,H.bw.get f=some l
 E6:∀f,H.cn<=f->H.bw.get f=none
 kc:H.bz<=H.ay
theorem iT.lt{H:an}(h:iT H){a:Nat}{b:e3}(g:H.mem.get a=some b):a<H.ay:=by
 rcases hL a H.ay with q|q
 ·exact q
 ·rw[h.gone a q] at g;cases g
theorem iT.E8{H:an}(h:iT H){f:Nat}{l:List Nat}(g:H.bw.get f=some l):f<H.cn:=by
 rcases hL f H.cn with q|q
 ·exact q
 ·rw[h.E6 f q] at g;cases g
theorem iT.new{H:an}(h:iT H)(b:e3):∃H1,H.new b=some (H.ay,H1):=by
 obtain⟨mem,ay,bw,cn,bz⟩:=H;obtain⟨T,b1⟩:=aW.DD b mem ay h.here;refine⟨⟨T,ay+1,bw,cn,bz⟩,?_⟩;show an.QD ay bw cn bz (aW.put b mem ay)=_;rw[b1];rfl
theorem iT.QG{H H1:an}{b:e3}{id:Nat}(h:iT H)(e:H.new b=some (id,H1)):iT H1:=by
 obtain⟨_,aR,cf,dK,cr,hB⟩:=an.oG e;refine⟨fun a aF=>?_,fun a aF=>?_,by rw[cf,dK];exact h.Ch,by rw[cf,dK];exact h.E6,by have:=h.kc;omega⟩
 ·rw[hB];split
  ·exact⟨_,rfl⟩
  ·exact h.here a (by omega)
 ·rw[hB,aZ (by omega)];exact h.gone a (by omega)
theorem iT.upd{H:an}(h:iT H){a:Nat}(b:e3)(aF:a<H.ay):∃H1,H.upd a b=some H1:=by
 obtain⟨mem,ay,bw,cn,bz⟩:=H;obtain⟨x,U⟩:=h.here a aF;obtain⟨T,b1⟩:=aW.Hi (a:=b) U;refine⟨⟨T,ay,bw,cn,bz⟩,?_⟩;show an.aaw ay bw cn bz (aW.put b mem a)=_;rw[b1];rfl
theorem iT.Lp{H H1:an}{b:e3}{a:Nat}(h:iT H)(aF:a<H.ay)(e:H.upd a b=some H1):iT H1:=by
 obtain⟨aw,aR,cf,dK,cr⟩:=an.qv e;refine⟨fun x U=>?_,fun x U=>?_,by rw[aR,cf];exact h.Ch,by rw[aR,cf];exact h.E6,by have:=h.kc;omega⟩
 ·rw[cr];split
  ·exact⟨_,rfl⟩
  ·exact h.here x (by omega)
 ·rw[cr,aZ (by omega)];exact h.gone x (by omega)
theorem iT.ve{H:an}(h:iT H):∃H1,H.ve=some (H.cn,H1):=by
 obtain⟨mem,ay,bw,cn,bz⟩:=H;obtain⟨T,b1⟩:=aW.DD [ay] bw cn h.Ch;refine⟨⟨mem,ay,T,cn+1,bz⟩,?_⟩;show an.QE mem ay cn bz (aW.put [ay] bw cn)=_;rw[b1];rfl
theorem iT.al0{H H1:an}{f:Nat}(h:iT H)(e:H.ve=some (f,H1)):iT H1:=by
 obtain⟨aw,aR,cf,dK,cr,hB⟩:=an.Kz e;refine⟨by rw[aR,cf];exact h.here,by rw[aR,cf];exact h.gone,fun x U=>?_,fun x U=>?_,by have:=h.kc;omega⟩
 ·rw[hB];split
  ·exact⟨_,rfl⟩
  ·exact h.Ch x (by omega)
 ·rw[hB,aZ (by omega)];exact h.E6 x (by omega)
theorem iT.rr{H:an}(h:iT H){f:Nat}(l:List Nat)(aA:f<H.cn):∃H1,H.rr f l=some H1:=by
 obtain⟨mem,ay,bw,cn,bz⟩:=H;obtain⟨x,U⟩:=h.Ch f aA;obtain⟨T,b1⟩:=aW.Hi (a:=l) U;refine⟨⟨mem,ay,T,cn,bz⟩,?_⟩;show an.ZI mem ay cn bz (aW.put l bw f)=_;rw[b1];rfl
theorem iT.Rt{H H1:an}{f:Nat}{l:List Nat}(h:iT H)(aA:f<H.cn)(e:H.rr f l=some H1):iT H1:=by
 obtain⟨aw,aR,cf,dK,cr⟩:=an.DI e;refine⟨by rw[aw,aR];exact h.here,by rw[aw,aR];exact h.gone,fun x U=>?_,fun x U=>?_,by have:=h.kc;omega⟩
 ·rw[cr];split
  ·exact⟨_,rfl⟩
  ·exact h.Ch x (by omega)
 ·rw[cr,aZ (by omega)];exact h.E6 x (by omega)
structure dJ where
 ds:List Deferred
 cc:Option Nat
 bG:Bool
 bd:FrameMode
def x8:dJ:=⟨[],none,false,.run⟩
structure b0 where
 n:Nat
 ds:dJ
 l:List (Nat×Value)
def look:List (Nat×Value)->Nat->Option Value
 |[],_=>none
 |(u,v)::l,t=>bif Nat.beq t u then some v else look l t
structure Sat (E:b0) (S:aV):Prop where
 n:S.n=E.n
 ds:S.ds=E.ds.ds
 bG:S.bG=E.ds.bG
 bd:S.bd=E.ds.bd
 cc:S.cc=E.ds.cc
 has:S.T.has E.n
 get:∀t v,look E.l t=some v->S.T.get t=some v
def b0.put (E:b0):Option Tmp->Value->b0
 |none,_=>E
 |some d,v=>⟨E.n,E.ds,(d,v)::E.l⟩
def Uj (n:Nat):Option Tmp->Bool
 |none=>true
 |some d=>Nat.blt d n
theorem Sat.put{E:b0}{S:aV}(h:Sat E S){dst:Option Tmp}(al:Uj E.n dst=true)(v:Value):∃a0,S.put dst v=some a0/\Sat (E.put dst v) a0:=by
 cases dst with
 |none=>exact⟨S,rfl,h⟩
 |some d=>
  obtain⟨T,n,ds,bG,bd,cc⟩:=S;have az:n=E.n:=h.n;have b9:d<E.n:=by simpa[Uj] using al
  obtain⟨x,U⟩:=h.has d b9;obtain⟨dD,b1⟩:=aW.Hi (a:=v) U;refine⟨⟨dD,n,ds,bG,bd,cc⟩,?_,h.n,h.ds,h.bG,h.bd,h.cc,fun t aJ=>?_,fun t u hu=>?_⟩
  ·show Bool.rec (motive:=fun _=>Option aV) none (aV.pz n ds bG bd cc (aW.put v T d)) (Nat.ble (Nat.succ d) n)=_;have ai:Nat.ble (Nat.succ d) n=true:=lH (by rw[az];exact b9);rw[ai,b1];rfl
  ·show ∃v,dD.get t=some v;rw[aW.get_put b1];split
   ·exact⟨_,rfl⟩
   ·exact h.has t aJ
  ·show dD.get t=some u;rw[aW.get_put b1];have hu:(bif Nat.beq t d then some v else look E.l t)=some u:=hu;by_cases e:t=d
   ·subst e;rw[a2 rfl];simpa using hu
   ·rw[aZ e];have ai:Nat.beq t d=false:=by
     cases q:Nat.beq t d
     ·rfl
     ·exact absurd (eb q) e
    rw[ai,da] at hu;exact h.get t u hu
theorem Sat.Lz{E:b0}{S:aV}(h:Sat E S){l:List (Nat×Value)}(ap:∀t v,look l t=some v->look E.l t=some v):Sat ⟨E.n,E.ds,l⟩ S:=
 ⟨h.n,h.ds,h.bG,h.bd,h.cc,h.has,fun t v q=>h.get t v (ap t v q)⟩
abbrev af:=Nat->Option (List Value×TypeId)
def af.le(J ae:af):Prop:=∀a x,J a=some x->ae a=some x
theorem af.le.refl(J:af):J.le J:=fun _ _ h=>h
theorem af.le.trans{J bi de:af}(h:J.le bi)(k:bi.le de):J.le de:=fun a x q=>k a x (h a x q)
inductive dw where
 |row (cells:List Value) (e:TypeId)
 |opn (cells:List Value) (e:TypeId) (rest:List Nat) (z:Nat)
 |map (es:List MapEntry) (clock:Nat)
 |loop (r:oP)
 |gk
def dw.at(F:Nat->Prop)(H:an)(a:Nat):dw->Prop
 |.row cells e=>H.mem.get a=some (.row cells e false 0 0 false)
 |.opn cells e rest z=>∃f,F f/\H.mem.get a=some (.row cells e true f z false)/\H.bw.get f=some (a::rest)
 |.map es clock=>H.mem.get a=some (.map es clock)
 |.loop r=>H.mem.get a=some (.loop r)
 |.gk=>H.mem.get a=some (.gk (some []))
def dw.rest:dw->List Nat
 |.opn _ _ r _=>r
 |_=>[]
def ids:List (Nat×dw)->List Nat
 |[]=>[]
 |(a,b)::m=>a::(b.rest++ids m)
theorem J':∀(m m':List (Nat×dw)),ids (m++m')=ids m++ids m':=by
 intro m m';induction m with
 |nil=>rfl
 |cons x m aP=>show x.1::(x.2.rest++ids (m++m'))=_;rw[aP];simp[ids]
theorem Ax{a:Nat}:∀{m:List (Nat×dw)},a∈ids m↔∃x∈m,a=x.1\/a∈x.2.rest:=by
 intro m;induction m with
 |nil=>simp[ids]
 |cons x m aP=>
  show a∈x.1::(x.2.rest++ids m)↔_;rw[fU,nB,aP];constructor
  ·rintro(h|h|⟨y,ab,ad⟩)
   ·exact⟨x,.head _,.inl h⟩
   ·exact⟨x,.head _,.inr h⟩
   ·exact⟨y,.tail _ ab,ad⟩
  ·rintro⟨y,ab,ad⟩;rcases fU.1 ab with q|q
   ·subst q;rcases ad with ad|ad
    ·exact .inl ad
    ·exact .inr (.inl ad)
   ·exact .inr (.inr ⟨y,q,ad⟩)
theorem yB{a:Nat}{b:dw}{m:List (Nat×dw)}(h:(a,b)∈m):a∈ids m:=Ax.2 ⟨_,h,.inl rfl⟩
theorem akf{m m':List (Nat×dw)}(h:m'.Sublist m):(ids m').Sublist (ids m):=by
 induction h with
 |slnil=>exact ih _
 |cons x _ aP=>exact .cons _ (aP.trans (BL _ _))
 |cons_cons x _ aP=>exact .cons_cons _ ((ih _).append aP)
theorem Ka{m m':List (Nat×dw)}(h:m.Perm m'):(ids m).Perm (ids m'):=by
 induction h with
 |nil=>exact .nil
 |cons x _ aP=>exact .cons _ (aP.append_left _)
 |swap x y l=>
  show(y.1::(y.2.rest++(x.1::(x.2.rest++ids l)))).Perm (x.1::(x.2.rest++(y.1::(y.2.rest++ids l))));have h:=oh (l₁:=y.1::y.2.rest) (l₂:=x.1::x.2.rest);have:=h.append_right (ids l);simpa using this
 |trans _ _ i1 i2=>exact i1.trans i2
theorem ake{m:List (Nat×dw)}(h:(ids m).Nodup):(m.map Prod.fst).Nodup:=by
 refine List.Sublist.nodup ?_ h;clear h
 induction m with
 |nil=>exact ih _
 |cons x m aP=>exact .cons_cons _ (aP.trans (BL _ _))
structure c5 where
 X:Nat->Prop
 Y:Nat->Prop
 H0:an
 uh:af
def c5.yd(B:c5)(f:Nat):Prop:=B.H0.cn<=f\/∃a r c e z s,B.H0.bw.get f=some (a::r)/\B.H0.mem.get a=some (.row c e true f z s)/\B.Y a
theorem c5.agi{B:c5}{f:Nat}(h:¬B.yd f):f<B.H0.cn:=Ta fun q=>h (.inl q)
structure Inv (g0:Nat) (B:c5) (J:af) (m:List (Nat×dw)) (H:an):Prop where
 wf:iT H
 bz:H.bz=g0
 ay:B.H0.ay<=H.ay
 cn:B.H0.cn<=H.cn
 fF:∀a,a<B.H0.ay->¬B.X a->H.mem.get a=B.H0.mem.get a
 mM:∀f,¬B.yd f->H.bw.get f=B.H0.bw.get f
 ed:∀a c e,J a=some (c,e)->∃o f z s,H.mem.get a=some (.row c e o f z s)
 le:B.uh.le J
 fresh:∀a x,B.uh a=none->J a=some x->B.H0.ay<=a\/B.X a
 own:∀a b,(a,b)∈m->b.at B.yd H a/\(B.H0.ay<=a\/B.X a)/\J a=none/\g0<=a
 opn:∀a b,(a,b)∈m->∀x∈b.rest,x<H.ay/\(B.H0.ay<=x\/B.X x)/\J x=none
 fT:(ids m).Nodup
theorem dw.TH{F:Nat->Prop}{H:an}(w:iT H){a:Nat}{b:dw}(h:b.at F H a):a<H.ay:=by
 cases b with
 |row c e=>exact w.lt h
 |opn c e r z=>obtain⟨f,_,h,_⟩:=h;exact w.lt h
 |map es k=>exact w.lt h
 |loop r=>exact w.lt h
 |gk=>exact w.lt h
theorem dw.vP{F:Nat->Prop}{H H1:an}{a:Nat}{b:dw}(h:b.at F H a)(hm:H1.mem.get a=H.mem.get a)(aA:∀f r,H.bw.get f=some (a::r)->H1.bw.get f=some (a::r)):b.at F H1 a:=by
 cases b with
 |row c e=>exact hm.trans h
 |opn c e r z=>obtain⟨f,aN,ab,ad⟩:=h;exact⟨f,aN,hm.trans ab,aA _ _ ad⟩
 |map es k=>exact hm.trans h
 |loop r=>exact hm.trans h
 |gk=>exact hm.trans h
section
variable {g0:Nat}{B:c5}{H:an}{J:af}{m m':List (Nat×dw)}
theorem Inv.lt(h:Inv g0 B J m H){a:Nat}{b:dw}(hm:(a,b)∈m):a<H.ay:=dw.TH h.wf (h.own a b hm).1
theorem Inv.aln(h:Inv g0 B J m H){a:Nat}{x:List Value×TypeId}(aY:J a=some x):a<H.ay:=by
 obtain⟨c,e⟩:=x;obtain⟨o,f,z,s,q⟩:=h.ed a c e aY;exact h.wf.lt q
theorem Inv.QI(h:Inv g0 B J m H):J H.ay=none:=by
 cases q:J H.ay with
 |none=>rfl
 |some x=>exact absurd (h.aln q) (BM _)
theorem Inv.Km(h:Inv g0 B J m H){x:Nat}(U:x∈ids m):x<H.ay:=by
 obtain⟨⟨a,b⟩,ab,ad⟩:=Ax.1 U;rcases ad with ad|ad
 ·subst ad;exact h.lt ab
 ·exact(h.opn a b ab x ad).1
theorem Inv.Yz(h:Inv g0 B J m H){x:Nat}(U:x∈ids m):B.H0.ay<=x\/B.X x:=by
 obtain⟨⟨a,b⟩,ab,ad⟩:=Ax.1 U;rcases ad with ad|ad
 ·subst ad;exact(h.own _ b ab).2.1
 ·exact(h.opn a b ab x ad).2.1
theorem Inv.al6(h:Inv g0 B J m H){x:Nat}(U:x∈ids m):J x=none:=by
 obtain⟨⟨a,b⟩,ab,ad⟩:=Ax.1 U;rcases ad with ad|ad
 ·subst ad;exact(h.own _ b ab).2.2.1
 ·exact(h.opn a b ab x ad).2.2
theorem Inv.NT(h:Inv g0 B J m H):g0<=H.ay:=by have:=h.wf.kc;have:=h.bz;omega
theorem Inv.new(h:Inv g0 B J m H){H1:an}{b:e3}{p:dw}(aw:H.new b=some (H.ay,H1))(ao:p.at B.yd H1 H.ay)(aq:p.rest=[]:=by rfl):Inv g0 B J ((H.ay,p)::m) H1:=by
 obtain⟨_,ej,eD,gA,jO,gm⟩:=an.oG aw;refine⟨h.wf.QG aw,jO.trans h.bz,by have:=h.ay;omega,by rw[gA];exact h.cn,fun a aF U=>?_,fun f aA=>by rw[eD];exact h.mM f aA,fun a c e aY=>?_,h.le,h.fresh,fun a b ai=>?_,fun a b ai x U=>?_,?_⟩
 ·rw[gm,aZ (by have:=h.ay;omega)];exact h.fF a aF U
 ·obtain⟨o,f,z,s,q⟩:=h.ed a c e aY;exact⟨o,f,z,s,by rw[gm,aZ (by have:=h.wf.lt q;omega)];exact q⟩
 ·rcases fU.1 ai with q|q
  ·injection q with aK aH;subst aK;subst aH
   exact⟨ao,.inl h.ay,h.QI,h.NT⟩
  ·obtain⟨aU,aQ,bj,ct⟩:=h.own a b q;exact⟨dw.vP aU (by rw[gm,aZ (by have:=h.lt q;omega)]) (fun f l aA=>by rw[eD];exact aA),aQ,bj,ct⟩
 ·rcases fU.1 ai with q|q
  ·injection q with aK aH;subst aK;subst aH;rw[aq] at U;cases U
  ·obtain⟨aU,aQ,bj⟩:=h.opn a b q x U;exact⟨by omega,aQ,bj⟩
 ·show(H.ay::(p.rest++ids m)).Nodup;rw[aq,kE,sN];exact⟨fun q=>absurd (h.Km q) (BM _),h.fT⟩
theorem Inv.alloc(h:Inv g0 B J m H)(cells:List Value)(e:TypeId):
 ∃H1,H.new (.row cells e false 0 0 false)=some (H.ay,H1)/\Inv g0 B J ((H.ay,.row cells e)::m) H1:=by
 obtain⟨H1,aw⟩:=h.wf.new (.row cells e false 0 0 false);obtain⟨_,ej,eD,gA,jO,gm⟩:=an.oG aw;exact⟨H1,aw,h.new aw (by show H1.mem.get H.ay=_;rw[gm,a2 rfl])⟩
theorem Inv.bw(h:Inv g0 B J m H):∃H1,H.ve=some (H.cn,H1)/\Inv g0 B J m H1/\H1.ay=H.ay/\H1.bw.get H.cn=some [H.ay]/\B.H0.cn<=H.cn:=by
 obtain⟨H1,aw⟩:=h.wf.ve;obtain⟨_,ej,eD,gA,jO,gm⟩:=an.Kz aw;refine⟨H1,aw,⟨h.wf.al0 aw,jO.trans h.bz,by rw[ej];exact h.ay,by have:=h.cn;omega,fun a aF U=>by rw[eD];exact h.fF a aF U,fun f aA=>?_,fun a c e aY=>by rw[eD];exact h.ed a c e aY,h.le,h.fresh,fun a b ai=>?_,fun a b ai x U=>by rw[ej];exact h.opn a b ai x U,h.fT⟩,ej,by rw[gm,a2 rfl],h.cn⟩
 ·rw[gm,aZ (by have:=h.cn;have:=c5.agi aA;omega)];exact h.mM f aA
 ·obtain⟨aU,aQ,bj,ct⟩:=h.own a b ai;exact⟨dw.vP aU (by rw[eD]) (fun f l aA=>by rw[gm,aZ (by have:=h.wf.E8 aA;omega)];exact aA),aQ,bj,ct⟩
theorem Inv.n8(h:Inv g0 B J m H)(cells:List Value)(e:TypeId):
 ∃H1,H.n8 cells e false=some (H.ay,H1)/\Inv g0 B J ((H.ay,.opn cells e [] 0)::m) H1:=by
 obtain⟨H1,aw,ab,en,f1,al2⟩:=h.bw;obtain⟨bK,aR⟩:=ab.wf.new (.row cells e true H.cn 0 false);obtain⟨_,ej,eD,gA,jO,gm⟩:=an.oG aR;refine⟨bK,?_,?_⟩
 ·unfold an.n8;rw[aw];simp only;rw[aR,en]
 ·have:=ab.new (p:=.opn cells e [] 0) aR ⟨H.cn,.inl al2,by rw[gm,a2 rfl],by rw[eD,f1,en]⟩;rwa [en] at this
inductive eS:List (Nat×dw)->Nat->dw->dw->List (Nat×dw)->Prop
 |head (a:Nat) (b b':dw) (m:List (Nat×dw)):eS ((a,b)::m) a b b' ((a,b')::m)
 |tail (x:Nat×dw) {m m':List (Nat×dw)} {a:Nat} {b b':dw}:eS m a b b' m'->eS (x::m) a b b' (x::m')
theorem eS.mem{m m':List (Nat×dw)}{a:Nat}{b b':dw}(h:eS m a b b' m'):(a,b)∈m:=by
 induction h with
 |head=>exact .head _
 |tail _ _ aP=>exact .tail _ aP
theorem eS.XL{m m':List (Nat×dw)}{a:Nat}{b b':dw}(h:eS m a b b' m')(az:(m.map Prod.fst).Nodup):∀x c,(x,c)∈m'->(x=a/\c=b')\/(x≠a/\(x,c)∈m):=by
 induction h with
 |head a b b' m=>
  intro x c U;rw[uj,sN] at az;rcases fU.1 U with q|q
  ·injection q with aK aH;exact .inl ⟨aK,aH⟩
  ·refine .inr ⟨fun e=>az.1 ?_,.tail _ q⟩;subst e;exact pM.2 ⟨_,q,rfl⟩
 |tail y ao aP=>
  intro x c U;rw[uj,sN] at az;rcases fU.1 U with q|q
  ·refine .inr ⟨fun e=>az.1 ?_,by rw[q];exact .head _⟩;have:y.1=x:=by rw[<-q]
   rw[this,e];exact pM.2 ⟨_,ao.mem,rfl⟩
  ·rcases aP az.2 x c q with r|⟨cX,cW⟩
   ·exact .inl r
   ·exact .inr ⟨cX,.tail _ cW⟩
theorem eS.ids{m m':List (Nat×dw)}{a:Nat}{b b':dw}(h:eS m a b b' m')(aq:b'.rest=[]):(ids m').Sublist (ids m):=by
 induction h with
 |head a b b' m=>show(a::(b'.rest++Opn.ids m)).Sublist (a::(b.rest++Opn.ids m));rw[aq];exact .cons_cons _ (BL _ _)
 |tail x _ aP=>exact .cons_cons _ ((ih _).append (aP aq))
theorem Inv.upd(h:Inv g0 B J m H){a:Nat}{b p:dw}{c:e3}{H1:an}(ao:eS m a b p m')(aw:H.upd a c=some H1)(aD:p.at B.yd H1 a)(aq:p.rest=[]:=by rfl):Inv g0 B J m' H1:=by
 obtain⟨aU,aQ,bj,ct⟩:=h.own a _ ao.mem;have dP:=ake h.fT;have b9:=h.lt ao.mem;obtain⟨d',ej,eD,gA,jO⟩:=an.qv aw;refine⟨h.wf.Lp b9 aw,gA.trans h.bz,by rw[d'];exact h.ay,by rw[eD];exact h.cn,fun x U dr=>?_,fun f aA=>by rw[ej];exact h.mM f aA,fun x c e aY=>?_,h.le,h.fresh,fun x b ai=>?_,fun x b ai y au=>?_,(ao.ids aq).nodup h.fT⟩
 ·rw[jO,aZ (fun q=>by subst q;rcases aQ with q|q;·omega
                      ·exact dr q)]
  exact h.fF x U dr
 ·obtain⟨o,f,z,s,q⟩:=h.ed x c e aY
  exact⟨o,f,z,s,by rw[jO,aZ (fun r=>by subst r;rw[bj] at aY;cases aY)];exact q⟩
 ·rcases ao.XL dP x b ai with⟨rfl,rfl⟩|⟨aK,aH⟩
  ·exact⟨aD,aQ,bj,ct⟩
  ·obtain⟨dL,du,js,lv⟩:=h.own x b aH
   exact⟨dw.vP dL (by rw[jO,aZ aK]) (fun f l aA=>by rw[ej];exact aA),du,js,lv⟩
 ·rcases ao.XL dP x b ai with⟨rfl,rfl⟩|⟨aK,aH⟩
  ·rw[aq] at au;cases au
  ·rw[d'];exact h.opn x b aH y au
theorem Inv.store{a:Nat}{cells cells':List Value}{e:TypeId}(h:Inv g0 B J m H)(ao:eS m a (.row cells e) (.row cells' e) m'):
 ∃H1,H.upd a (.row cells' e false 0 0 false)=some H1/\Inv g0 B J m' H1:=by
 obtain⟨H1,aw⟩:=h.wf.upd (.row cells' e false 0 0 false) (h.lt ao.mem);exact⟨H1,aw,h.upd ao aw (by show H1.mem.get a=_;rw[(an.qv aw).2.2.2.2,a2 rfl])⟩
theorem Inv.sub(h:Inv g0 B J m H)(hs:m'.Sublist m):Inv g0 B J m' H:=
 ⟨h.wf,h.bz,h.ay,h.cn,h.fF,h.mM,h.ed,h.le,h.fresh,fun a b q=>h.own a b (hs.subset q),fun a b q=>h.opn a b (hs.subset q),(akf hs).nodup h.fT⟩
def af.add(J:af)(a:Nat)(x:List Value×TypeId):af:=fun i=>if i=a then some x else J i
theorem af.gC(J:af)(a:Nat)(x:List Value×TypeId):(J.add a x) a=some x:=a2 rfl
theorem af.acp{J:af}{a:Nat}{x:List Value×TypeId}(h:J a=none):J.le (J.add a x):=fun i y q=>by
 unfold af.add;split
 ·rename_i e;subst e;rw[h] at q;cases q
 ·exact q
def dw.rowOf:dw->Option (List Value×TypeId)
 |.row c e=>some (c,e)
 |.opn c e _ _=>some (c,e)
 |.map _ _=>none
 |.loop _=>none
 |.gk=>none
theorem Inv.hy{a:Nat}{b:dw}{x:List Value×TypeId}(h:Inv g0 B J ((a,b)::m) H)(U:b.rowOf=some x):Inv g0 B (J.add a x) m H/\J.le (J.add a x):=by
 obtain⟨aU,aQ,bj,ct⟩:=h.own a b (.head _);have dP:=h.fT;rw[show ids ((a,b)::m)=a::(b.rest++ids m) from rfl,sN,nB] at dP;have hle:=af.acp (x:=x) bj;refine⟨⟨h.wf,h.bz,h.ay,h.cn,h.fF,h.mM,fun i c e aY=>?_,h.le.trans hle,fun i y q au=>?_,fun i p ao=>?_,fun i p ao y au=>?_,(BL _ _).nodup dP.2⟩,hle⟩
 ·unfold af.add at aY;split at aY
  ·rename_i q;subst q;injection aY with aY;subst aY
   cases b with
   |row c' bC=>injection U with U;injection U with ab ad;subst ab;subst ad;exact⟨_,_,_,_,aU⟩
   |opn c' bC r z=>injection U with U;injection U with ab ad;subst ab;subst ad;obtain⟨f,_,k,_⟩:=aU;exact⟨_,_,_,_,k⟩
   |map es k=>cases U
   |loop r=>cases U
   |gk=>cases U
  ·exact h.ed i c e aY
 ·unfold af.add at au;split at au
  ·rename_i e;subst e;exact aQ
  ·exact h.fresh i y q au
 ·obtain⟨dL,du,js,lv⟩:=h.own i p (.tail _ ao);refine⟨dL,du,?_,lv⟩;unfold af.add;rw[aZ]
  ·exact js
  ·intro e;subst e;exact dP.1 (.inr (yB ao))
 ·obtain⟨dL,du,js⟩:=h.opn i p (.tail _ ao) y au;refine⟨dL,du,?_⟩;unfold af.add;rw[aZ]
  ·exact js
  ·intro e;subst e;exact dP.1 (.inr (Ax.2 ⟨_,ao,.inr au⟩))
end
end
end Go.Opn

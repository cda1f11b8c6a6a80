/- A part of the proof of TableRounds. -/
import Init
import Derived.Test.YtfdhclnfkafebaaGreatDoorCak
set_option linter.unusedVariables false
set_option linter.unusedSimpArgs false
namespace Go.Opn
noncomputable section
structure cE where
 z:Int
 d:Nat
def cE.g4(r:cE):Prop:=0<r.d/\Nat.Coprime r.z.natAbs r.d
def bk(z:Int)(d:Nat):cE:=⟨z / ((Nat.gcd z.natAbs d:Nat):Int),d / Nat.gcd z.natAbs d⟩
theorem y3{z:Int}{d:Nat}(aq:0<d):∃(g e:Nat) (q:Int),0<g/\0<e/\z=g*q/\d=g*e/\Nat.Coprime q.natAbs e/\bk z d=⟨q,e⟩/\g=Nat.gcd z.natAbs d:=by
 have aF:0<Nat.gcd z.natAbs d:=ya _ aq;obtain⟨e,he⟩:=nl z.natAbs d;have aL:((Nat.gcd z.natAbs d:Nat):Int) ∣ z:=rU.2 (lf _ _);obtain⟨q,bS⟩:=aL;have aJ:=IS (m:=z.natAbs) (n:=d) aF;generalize cp:Nat.gcd z.natAbs d=g at*;have ad:z / (g:Int)=q:=by rw[bS];exact Int.mul_ediv_cancel_left _ (by omega)
 have af:d / g=e:=by rw[he];exact v7 _ aF
 have aV:z.natAbs / g=q.natAbs:=by rw[bS,lc,hP];exact v7 _ aF
 have ahX:0<e:=by
  rcases jj e with h|h
  ·rw[h] at he;omega
  ·exact h
 refine⟨g,e,q,aF,ahX,bS,he,by rw[aV,af] at aJ;exact aJ,?_,rfl⟩;unfold bk;rw[cp,ad,af]
theorem im{z:Int}{d:Nat}(aq:0<d):(bk z d).g4:=by
 obtain⟨g,e,q,ad,af,aV,bq,fL,hv,_⟩:=y3 (z:=z) aq;rw[hv];exact⟨af,fL⟩
theorem sL{z:Int}{d:Nat}(aq:0<d):(bk z d).z*d=z*(bk z d).d:=by
 obtain⟨g,e,q,ad,af,aV,bq,fL,hv,_⟩:=y3 (z:=z) aq;rw[hv,aV,bq];show q*((g*e:Nat):Int)=(g:Int)*q*(e:Int);rw[gM];simp only[jR,kC,o5]
theorem cE.NM{r s:cE}(ad:r.z=s.z)(af:r.d=s.d):r=s:=by
 cases r;cases s;simp at ad af;subst ad;subst af;rfl
theorem adY{r s:cE}(av:r.g4)(ag:s.g4)(h:r.z*s.d=s.z*r.d):r=s:=by
 have aI:=aa Int.natAbs h;rw[lc,lc,hP,hP] at aI;have ad:r.d ∣ s.d:=abB av.2.symm ⟨s.z.natAbs,by rw[aI,dz]⟩;have af:s.d ∣ r.d:=abB ag.2.symm ⟨r.z.natAbs,by rw[<-aI,dz]⟩;have e:=Mn ad af;have aq:=ag.1;refine cE.NM ?_ e;rw[e] at h;exact Er (by omega) h
theorem xw{r:cE}{z:Int}{d:Nat}(av:r.g4)(aq:0<d)(h:r.z*d=z*r.d):r=bk z d:=by
 refine adY av (im aq) ?_;have af:=sL (z:=z) aq;have At:(d:Int)≠0:=by omega
 refine Er At ?_
 calc r.z*(bk z d).d*d=(r.z*d)*(bk z d).d:=by simp only[jR,kC,o5]
  _=z*r.d*(bk z d).d:=by rw[h]
  _=(z*(bk z d).d)*r.d:=by simp only[jR,kC,o5]
  _=(bk z d).z*d*r.d:=by rw[af]
  _=(bk z d).z*r.d*d:=by simp only[jR,kC,o5]
theorem Hl{z w:Int}{d e:Nat}(aq:0<d)(he:0<e):bk z d=bk w e↔z*e=w*d:=by
 have ad:=sL (z:=z) aq;have af:=sL (z:=w) he;have bH:=im (z:=z) aq;constructor
 ·intro h;rw[<-h] at af;have ab:((bk z d).d:Int)≠0:=by have:=bH.1;omega
  refine Er ab ?_
  calc z*e*(bk z d).d=(z*(bk z d).d)*e:=by simp only[jR,kC,o5]
   _=(bk z d).z*d*e:=by rw[ad]
   _=((bk z d).z*e)*d:=by simp only[jR,kC,o5]
   _=w*(bk z d).d*d:=by rw[af]
   _=w*d*(bk z d).d:=by simp only[jR,kC,o5]
 ·intro h;refine xw bH he ?_;have ab:(d:Int)≠0:=by omega
  refine Er ab ?_
  calc (bk z d).z*e*d=((bk z d).z*d)*e:=by simp only[jR,kC,o5]
   _=z*(bk z d).d*e:=by rw[ad]
   _=(z*e)*(bk z d).d:=by simp only[jR,kC,o5]
   _=w*d*(bk z d).d:=by rw[h]
   _=w*(bk z d).d*d:=by simp only[jR,kC,o5]
theorem Bg{r:cE}(h:r.g4):bk r.z r.d=r:=(xw h h.1 rfl).symm
theorem rA{d:Nat}(aq:0<d):bk 0 d=⟨0,1⟩:=(xw (r:=⟨0,1⟩) ⟨by decide,by decide⟩ aq (by simp)).symm
theorem K9{z:Int}{d:Nat}(aq:0<d):(0<(bk z d).z↔0<z)/\((bk z d).z<0↔z<0)/\((bk z d).z=0↔z=0):=by
 obtain⟨g,e,q,ad,af,aV,bq,fL,hv,_⟩:=y3 (z:=z) aq;rw[hv,aV];have aF:(0:Int)<g:=by omega
 refine⟨⟨fun h=>BY aF h,fun h=>?_⟩,⟨fun h=>SM aF h,fun h=>?_⟩,⟨fun h=>?_,fun h=>?_⟩⟩
 ·rcases vX 0 q with k|k
  ·exact k
  ·have:=Int.mul_nonpos_of_nonneg_of_nonpos (uy aF) k;omega
 ·rcases vX q 0 with k|k
  ·exact k
  ·have:=kT (uy aF) k;omega
 ·show(g:Int)*q=0;have h:q=0:=h;rw[h,SN]
 ·show q=0;rcases Int.mul_eq_zero.1 h with k|k
  ·omega
  ·exact k
theorem K8{z:Int}{d:Nat}(aq:0<d):(bk z d).z.natAbs<=z.natAbs/\(bk z d).d<=d:=by
 obtain⟨g,e,q,ad,af,aV,bq,fL,hv,_⟩:=y3 (z:=z) aq;rw[hv];constructor
 ·rw[aV,lc,hP];exact abI _ ad
 ·rw[bq];exact abI _ ad
theorem W9{du dt:Int}{u v:Nat}(ad:Nat.Coprime du.natAbs u)(af:Nat.Coprime v u):Nat.Coprime (du*v+dt*u).natAbs u:=by
 have O5:=lf (du*v+dt*u).natAbs u;have AB:=nl (du*v+dt*u).natAbs u;show Nat.gcd (du*v+dt*u).natAbs u=1;generalize Nat.gcd (du*v+dt*u).natAbs u=k at O5 AB;have bO:(k:Int) ∣ du*v+dt*u:=rU.2 O5;have bA:(k:Int) ∣ dt*u:=Int.dvd_trans (uA.2 AB) (Int.dvd_mul_left _ _);have cU:(k:Int) ∣ du*v:=(Int.dvd_add_left bA).1 bO;have dn:k ∣ du.natAbs*v:=by
  have:=rU.1 cU;rwa [lc,hP] at this
 have bH:Nat.Coprime k du.natAbs:=(Mj AB ad).symm;have bM:Nat.Coprime k v:=(Mj AB af).symm;exact Nat.Coprime.eq_one_of_dvd (bH.mul_right bM) dn
theorem aj8{r s:cE}(av:r.g4)(ag:s.g4){g u v h:Nat}{t q:Int}(aF:g=Nat.gcd r.d s.d)(hu:r.d=u*g)(az:s.d=v*g)(aS:t=r.z*v+s.z*u)(c9:h=Nat.gcd t.natAbs g)(bS:t=q*h){w:Nat}(hw:s.d=w*h):(⟨q,u*w⟩:cE)=bk (r.z*s.d+s.z*r.d) (r.d*s.d):=by
 have rd:=av.1;have hL:=ag.1;have yM:0<g:=by rw[aF];exact abG _ rd
 have yN:0<h:=by rw[c9];exact ya _ yM
 have Gx:Nat.Coprime u v:=by
  have:=IS (m:=r.d) (n:=s.d) (by rw[<-aF];exact yM);rw[<-aF] at this;have aC:r.d / g=u:=by rw[hu];exact tc _ yM
  have aW:s.d / g=v:=by rw[az];exact tc _ yM
  rwa [aC,aW] at this
 obtain⟨m,hm⟩:h ∣ g:=by rw[c9];exact nl _ _
 have pn:w=v*m:=by
  have:w*h=v*m*h:=by rw[<-hw,az,hm,dz h m,fi]
  exact Nat.eq_of_mul_eq_mul_right yN this
 have aac:t.natAbs=q.natAbs*h:=by rw[bS,lc,hP]
 have Wp:q.natAbs ∣ t.natAbs:=⟨h,aac⟩;have bH:Nat.Coprime t.natAbs u:=by
  rw[aS];exact W9 (Mj ⟨g,hu⟩ av.2) Gx.symm
 have bM:Nat.Coprime t.natAbs v:=by
  rw[aS,Int.add_comm];exact W9 (Mj ⟨g,az⟩ ag.2) Gx
 have db:Nat.Coprime q.natAbs m:=by
  have:=IS (m:=t.natAbs) (n:=g) (by rw[<-c9];exact yN);rw[<-c9] at this;have aC:t.natAbs / h=q.natAbs:=by rw[aac];exact tc _ yN
  have aW:g / h=m:=by rw[hm];exact v7 _ yN
  rwa [aC,aW] at this
 have ajj:0<u:=by
  rcases jj u with k|k
  ·rw[k] at hu;omega
  ·exact k
 have ajx:0<w:=by
  rcases jj w with k|k
  ·rw[k] at hw;omega
  ·exact k
 refine xw ⟨iW ajj ajx,?_⟩ (iW rd hL) ?_
 ·show Nat.Coprime q.natAbs (u*w);rw[pn];exact(abA Wp bH).mul_right ((abA Wp bM).mul_right db)
 ·show q*((r.d*s.d:Nat):Int)=(r.z*s.d+s.z*r.d)*((u*w:Nat):Int);have aC:(r.z*s.d+s.z*r.d:Int)=t*g:=by
   rw[aS,hu,az,gM,gM,qQ];simp only[jR]
  rw[aC,bS,pn];have aW:(s.d:Int)=v*(h*m):=by rw[az,hm];simp
  rw[gM,aW,hu,hm];simp only[gM,jR,kC,o5]
theorem aj9{r s:cE}(av:r.g4)(ag:s.g4){g h a c:Nat}{p q:Int}{b e:Nat}(aF:g=Nat.gcd r.z.natAbs s.d)(c9:h=Nat.gcd s.z.natAbs r.d)(aL:r.z≠0)(gD:s.z≠0)(ad:r.z=p*g)(af:s.z=q*h)(aV:r.d=b*h)(bq:s.d=e*g):(⟨p*q,b*e⟩:cE)=bk (r.z*s.z) (r.d*s.d):=by
 have rd:=av.1;have hL:=ag.1;have yM:0<g:=by rw[aF];exact ya _ hL
 have yN:0<h:=by rw[c9];exact ya _ rd
 have dv:r.z.natAbs=p.natAbs*g:=by rw[ad,lc,hP]
 have dV:s.z.natAbs=q.natAbs*h:=by rw[af,lc,hP]
 have bH:Nat.Coprime p.natAbs e:=by
  have:=IS (m:=r.z.natAbs) (n:=s.d) (by rw[<-aF];exact yM);rw[<-aF,dv,bq,tc _ yM,tc _ yM] at this;exact this
 have bM:Nat.Coprime q.natAbs b:=by
  have:=IS (m:=s.z.natAbs) (n:=r.d) (by rw[<-c9];exact yN);rw[<-c9,dV,aV,tc _ yN,tc _ yN] at this;exact this
 have db:Nat.Coprime p.natAbs b:=(av.2.coprime_dvd_left ⟨g,dv⟩).coprime_dvd_right ⟨h,aV⟩;have dZ:Nat.Coprime q.natAbs e:=(ag.2.coprime_dvd_left ⟨h,dV⟩).coprime_dvd_right ⟨g,bq⟩;have ak:0<b:=by
  rcases jj b with k|k
  ·rw[k] at aV;omega
  ·exact k
 have he:0<e:=by
  rcases jj e with k|k
  ·rw[k] at bq;omega
  ·exact k
 refine xw ⟨iW ak he,?_⟩ (iW rd hL) ?_
 ·show Nat.Coprime (p*q).natAbs (b*e);rw[lc];exact(db.mul_right bH).mul_left (bM.mul_right dZ)
 ·show p*q*((r.d*s.d:Nat):Int)=r.z*s.z*((b*e:Nat):Int);rw[ad,af,aV,bq];simp only[gM,jR,kC,o5]
end
end Go.Opn
namespace Go.Opn
noncomputable section
def aN:List Nat->Nat
 |[]=>0
 |x::l=>x+1000000000*aN l
def dS(l:List Nat):Prop:=∀x∈l,x<1000000000
def j6(l:List Nat):Prop:=dS l/\∀x,l.getLast?=some x->x≠0
def ai(n:Nat):List Nat:=if h:n=0 then[] else n % 1000000000::ai (n / 1000000000)
termination_by n
decreasing_by omega
theorem l5:ai 0=[]:=by unfold ai;rfl
theorem tU{n:Nat}(h:n≠0):ai n=n % 1000000000::ai (n / 1000000000):=by rw[ai];rw[dif_neg h]
theorem e5:∀n:Nat,aN (ai n)=n:=by
 intro n;induction n using Nat.strongRecOn with
 |_ n aZ=>
  by_cases h:n=0
  ·subst h;rw[l5];rfl
  ·rw[tU h];show n % 1000000000+1000000000*aN (ai (n / 1000000000))=n;rw[aZ _ (by omega)];omega
theorem hB:∀n:Nat,dS (ai n):=by
 intro n;induction n using Nat.strongRecOn with
 |_ n aZ=>
  by_cases h:n=0
  ·subst h;rw[l5];intro x ab;cases ab
  ·rw[tU h];intro x ab;rcases gb.1 ab with rfl|ab
   ·omega
   ·exact aZ _ (by omega) x ab
theorem Dx:∀(n:Nat) (x:Nat),(ai n).getLast?=some x->x≠0:=by
 intro n;induction n using Nat.strongRecOn with
 |_ n aZ=>
  intro x ab;by_cases h:n=0
  ·subst h;rw[l5] at ab;cases ab
  ·rw[tU h] at ab;by_cases af:n / 1000000000=0
   ·rw[af,l5] at ab;have ab:n % 1000000000=x:=by simpa using ab
    omega
   ·rw[tU af,Me,<-tU af] at ab;exact aZ _ (by omega) x ab
theorem z5(n:Nat):j6 (ai n):=⟨hB n,Dx n⟩
theorem dS.tail{x:Nat}{l:List Nat}(h:dS (x::l)):dS l:=fun y aB=>h y (.tail _ aB)
theorem Nd{x:Nat}{l:List Nat}(h:j6 (x::l)):j6 l:=⟨h.1.tail,fun y aB=>by
 cases l with
 |nil=>cases aB
 |cons z l=>exact h.2 y (by rw[Me];exact aB)⟩
theorem Sb:∀{l:List Nat},j6 l->aN l=0->l=[]
 |[],_,_=>rfl
 |x::l,h,aO=>by
  have aO:x+1000000000*aN l=0:=aO;have:=Sb (Nd h) (by omega);subst this;exact absurd (show x=0 by omega) (h.2 x rfl)
theorem pg:∀{l:List Nat},j6 l->l=ai (aN l)
 |[],_=>by show[]=ai 0;rw[l5]
 |x::l,h=>by
  have ab:=h.1 x (.head _);have aZ:=pg (Nd h);have aE:aN (x::l)≠0:=fun q=>by have:=Sb h q;cases this
  rw[tU aE];have aC:aN (x::l) % 1000000000=x:=by show(x+1000000000*aN l) % 1000000000=x;omega
  have aW:aN (x::l) / 1000000000=aN l:=by show(x+1000000000*aN l) / 1000000000=aN l;omega
  rw[aC,aW,<-aZ]
theorem rM:∀(a b:List Nat),aN (a++b)=aN a+1000000000 ^ a.length*aN b
 |[],b=>by show aN b=0+1*aN b;omega
 |x::a,b=>by
  show x+1000000000*aN (a++b)=x+1000000000*aN a+1000000000 ^ (a.length+1)*aN b;rw[rM a b,cS,fC,fi,B8,qX]
theorem H9(x:Nat):aN [x]=x:=by show x+1000000000*0=x;omega
theorem k':∀{l:List Nat},dS l->aN l<1000000000 ^ l.length
 |[],_=>by decide
 |x::l,h=>by
  have aZ:=k' h.tail;have ab:=h x (.head _);show x+1000000000*aN l<1000000000 ^ (l.length+1);rw[fC];omega
theorem Sa{l:List Nat}(h:j6 l)(aE:l≠[]):1000000000 ^ (l.length -1)<=aN l:=by
 have e:=abk aE;have aO:l.getLast aE≠0:=h.2 _ (abo aE);rw[<-e,rM,H9,eS,x9,ld];have:1000000000 ^ l.dropLast.length*1<=1000000000 ^ l.dropLast.length*l.getLast aE:=hs _ (by omega);omega
theorem l7{l:List Nat}{i x:Nat}(h:l[i]?=some x):aN (l.take (i+1))=aN (l.take i)+1000000000 ^ i*x:=by
 have ar:=(gS.1 h).1;rw[oz,h,To,rM,H9,dY,gn (by omega)]
theorem vP{l:List Nat}{i x:Nat}(h:l[i]?=some x):aN (l.drop i)=x+1000000000*aN (l.drop (i+1)):=by
 have ar:=(gS.1 h).1;have ab:l[i]=x:=by rw[eE ar] at h;injection h
 rw[IE ar,ab];rfl
theorem zv(l:List Nat)(i:Nat)(ar:i<=l.length):aN l=aN (l.take i)+1000000000 ^ i*aN (l.drop i):=by
 have:=rM (l.take i) (l.drop i);rwa [Ex,dY,gn ar] at this
theorem aat{l:List Nat}{i x y:Nat}(h:l[i]?=some x):aN (l.set i y)+1000000000 ^ i*x=aN l+1000000000 ^ i*y:=by
 have ar:=(gS.1 h).1;have aC:=zv l i (by omega);have aW:=zv (l.set i y) i (by rw[hr];omega);rw[IP (bX i),vP (i:=i) (x:=y) (by rw[mS,bj rfl,bj ar]),B5 (by omega)] at aW;rw[vP h] at aC;rw[aC,aW,cS,cS];omega
theorem y6{l:List Nat}{i y:Nat}(h:dS l)(aB:y<1000000000):dS (l.set i y):=fun x ab=>by
 rcases S4 ab with q|q
 ·exact h x q
 ·omega
theorem Bh{a b:List Nat}(ad:dS a)(af:dS b):dS (a++b):=fun x ab=>by
 rcases qV.1 ab with q|q
 ·exact ad x q
 ·exact af x q
theorem vF{l:List Nat}{i:Nat}(h:dS l):dS (l.take i):=fun x ab=>h x (x' ab)
theorem Ld{l:List Nat}{i:Nat}(h:dS l):dS (l.drop i):=fun x ab=>h x (abr ab)
theorem pJ{l:List Nat}{i x:Nat}(h:dS l)(ab:l[i]?=some x):x<1000000000:=h x (jS ab)
theorem DO{n:Nat}:dS (List.replicate n 0):=fun x ab=>by rw[SW ab];decide
theorem aav:∀n:Nat,aN (List.replicate n 0)=0
 |0=>rfl
 |n+1=>by rw[S7];show 0+1000000000*aN (List.replicate n 0)=0;rw[aav n]
theorem aau{a b:List Nat}(aI:dS a)(ak:j6 b)(h:a.length<b.length):aN a<aN b:=by
 have ad:=k' aI;have af:=Sa ak (fun q=>by rw[q] at h;exact EE _ h);have aV:1000000000 ^ a.length<=1000000000 ^ (b.length -1):=my (by decide) (by omega);omega
theorem apS{a b:List Nat}{i x y:Nat}(aI:dS a)(ab:a[i]?=some x)(aB:b[i]?=some y)(aq:a.drop (i+1)=b.drop (i+1))(h:x<y):aN a<aN b:=by
 have ajG:=(gS.1 ab).1;have ajH:=(gS.1 aB).1;have aC:=zv a (i+1) (by omega);have aW:=zv b (i+1) (by omega);rw[l7 ab,aq] at aC;rw[l7 aB] at aW;have ad:=k' (vF (i:=i) aI);rw[dY,gn (by omega)] at ad;have af:1000000000 ^ i*(x+1)<=1000000000 ^ i*y:=hs _ h;rw[cS,gT] at af;generalize 1000000000 ^ (i+1)*aN (b.drop (i+1))=R at aC aW;generalize 1000000000 ^ i*x=X at aC af;generalize 1000000000 ^ i*y=Y at aW af;omega
end
end Go.Opn
namespace Go.Cre
noncomputable section
open Go.RowKit
open Classical
structure dD (P:Program) where
 ok:(Nat->Prop)->World->Prop
 up:∀B w0 iu iS,ok B w0->(∀k,B k->iu k)->Kept B w0 iS->ok iu iS
def lV (c:Code)(S:a5)(H:aw)(r:Exit×a5×aw):Code->a5->aw->Option (Exit×a5×aw):=fun c' aP H'=>if c'=c/\aP=S/\H'=H then some r else none
def nU (f:FuncId)(args:List Value)(H:aw)(r:Ending×aw):eZ:=fun f' cq H'=>if f'=f/\cq=args/\H'=H then some r else none
def dX{P:Program}(Q:dD P)(c:Code)(S:a5)(H:aw)(e:Exit)(aP:a5)(H':aw):Prop:=∀B w0,Q.ok B w0->rT P B w0 (lV c S H (e,aP,H'))
def kS{P:Program}(Q:dD P)(f:FuncId)(args:List Value)(H:aw)(e:Ending)(H':aw):Prop:=∀B w0,Q.ok B w0->p0 P B w0 (nU f args H (e,H'))
def to {P:Program}(Q:dD P)(pick:Code->a5->aw->Option (Exit×a5×aw)):Code->a5->aw->Option (Exit×a5×aw):=fun c S H=>match pick c S H with
 |some (e,aP,H')=>if dX Q c S H e aP H' then some (e,aP,H') else none
 |none=>none
def iO {P:Program}(Q:dD P)(pick:eZ):eZ:=fun f args H=>match pick f args H with
 |some (e,H')=>if kS Q f args H e H' then some (e,H') else none
 |none=>none
section
variable {P:Program}{Q:dD P}{B:Nat->Prop}{w0:World}
theorem Co(pick:Code->a5->aw->Option (Exit×a5×aw))(gq:Q.ok B w0):rT P B w0 (to Q pick):=by
 intro c S H e aP H' he;unfold to at he;split at he
 ·split at he
  ·rename_i c0;simp only[cD,dK] at he;obtain⟨rfl,rfl,rfl⟩:=he;exact c0 B w0 gq c S H _ _ _ (by unfold lV;rw[bj ⟨rfl,rfl,rfl⟩])
  ·cases he
 ·cases he
theorem M6(pick:eZ)(gq:Q.ok B w0):p0 P B w0 (iO Q pick):=by
 intro f args H e H' he;unfold iO at he;split at he
 ·split at he
  ·rename_i c0;simp only[cD,dK] at he;obtain⟨rfl,rfl⟩:=he;exact c0 B w0 gq f args H _ _ (by unfold nU;rw[bj ⟨rfl,rfl,rfl⟩])
  ·cases he
 ·cases he
def hO {P:Program}(Q:dD P)(fg:Code->a5->aw->Option (Exit×a5×aw))(bt:eZ):fN:=
 ⟨to Q fg,fun f args cb bE H=>if cb=true then none else match iO Q bt f args H with|some (e,H')=>some (e,bE,H')|none=>none⟩
theorem L4(fg:Code->a5->aw->Option (Exit×a5×aw))(bt:eZ):(hO Q fg bt).call=iO Q bt:=by
 funext f args H
 unfold fN.call hO;simp only[Eo,Dl];cases iO Q bt f args H with
 |none=>rfl
 |some p=>rfl
theorem dX.y5(oL:P.follows .mixedOrders=true){c:Code}{S aP:a5}{H H':aw}{e:Exit}(fg:Code->a5->aw->Option (Exit×a5×aw))(bt:eZ)(h:Jv P (hO Q fg bt) c S H=some (e,aP,H')):dX Q c S H e aP H':=by
 intro B w0 gq;have eT:∀(iu:Nat->Prop) (iS:World),(∀k,B k->iu k)->Kept B w0 iS->Q.ok iu iS:=fun iu iS a b=>Q.up B w0 iu iS gq a b;have aJ:∀(iu:Nat->Prop) (iS:World),Q.ok iu iS->rT P iu iS (hO Q fg bt).code:=fun iu iS q=>Co fg q;have hk:∀(iu:Nat->Prop) (iS:World),Q.ok iu iS->p0 P iu iS (hO Q fg bt).call:=fun iu iS q=>by rw[L4];exact M6 bt q
 have ag:=UO (P:=P) (B:=B) (w0:=w0) (E:=hO Q fg bt) oL (aJ B w0 gq) (fun iu iS a b=>hk iu iS (eT iu iS a b)) (fun iu iS a b=>L0 (aJ iu iS (eT iu iS a b))) (Y5 (hk B w0 gq));intro bH bl H1 aC Tu Iv he;unfold lV at he;split at he
 ·rename_i q;obtain⟨rfl,rfl,rfl⟩:=q;simp only[cD,dK] at he;obtain⟨rfl,rfl,rfl⟩:=he;exact ag _ _ _ _ _ _ h
 ·cases he
theorem ad0{c:Code}{S aP:a5}{H H':aw}{e:Exit}(h:dX Q c S H e aP H'){fg:Code->a5->aw->Option (Exit×a5×aw)}(ap:fg c S H=some (e,aP,H')):to Q fg c S H=some (e,aP,H'):=by
 unfold to;rw[ap];simp only;rw[bj h]
theorem Cl{f:FuncId}{args:List Value}{H H':aw}{e:Ending}(h:kS Q f args H e H'){bt:eZ}(ap:bt f args H=some (e,H')):iO Q bt f args H=some (e,H'):=by
 unfold iO;rw[ap];simp only;rw[bj h]
def il:Code->a5->aw->Option (Exit×a5×aw):=fun _ _ _=>none
def lG:eZ:=fun _ _ _=>none
theorem dX.skip(oL:P.follows .mixedOrders=true){S:a5}{H:aw}:dX Q .skip S H .normal S H:=dX.y5 oL il lG rfl
theorem dX.ret(oL:P.follows .mixedOrders=true){S:a5}{H:aw}:dX Q .ret S H .ret S H:=dX.y5 oL il lG rfl
theorem dX.exit(oL:P.follows .mixedOrders=true){S:a5}{H:aw}{id:Nat}:dX Q (.exit id) S H (.exit id) S H:=dX.y5 oL il lG rfl
theorem dX.mk{c:Code}{S aP:a5}{H H':aw}{e:Exit}(h:∀B w0,Q.ok B w0->∀μ w fr tmps ds cs k it,cd P B w0 μ H w->ib μ S fr tmps ds cs->yf c it->ma P B w0 μ H S fr cs (lone (bY fr tmps ds (it::k)) cs w) k aP H' e):dX Q c S H e aP H':=by
 intro B w0 gq bH bl H1 aC Tu Iv he;unfold lV at he;split at he
 ·rename_i q;obtain⟨rfl,rfl,rfl⟩:=q;simp only[cD,dK] at he;obtain⟨rfl,rfl,rfl⟩:=he;exact h B w0 gq
 ·cases he
theorem dX.use{c:Code}{S aP:a5}{H H':aw}{e:Exit}(h:dX Q c S H e aP H')(gq:Q.ok B w0){μ:b5}{w:World}{fr:Frame}{tmps:Array Value}{ds:List Deferred}{cs:List Frame}{k:List Item}{it:Item}(me:cd P B w0 μ H w)(b4:ib μ S fr tmps ds cs)(ag:yf c it):
 ma P B w0 μ H S fr cs (lone (bY fr tmps ds (it::k)) cs w) k aP H' e:=h B w0 gq c S H e aP H' (by unfold lV;rw[bj ⟨rfl,rfl,rfl⟩]) μ w fr tmps ds cs k it me b4 ag
theorem yf.plain{c:Code}{it:Item}(h:yf c it)(aE:∀c',c≠.loop c'):it=.code c:=by
 rcases h with q|⟨c',q,_⟩
 ·exact q
 ·exact absurd q (aE c')
theorem dX.seq{a b:Code}{S bl gd:a5}{H H1 cz:aw}{e:Exit}(ad:dX Q a S H .normal bl H1)(af:dX Q b bl H1 e gd cz):dX Q (.seq a b) S H e gd cz:=by
 refine .mk fun B w0 gq μ w fr tmps ds cs k it me b4 ag=>?_;obtain rfl:=ag.plain (fun _ q=>by cases q);exact((ad.use (k:=.code b::k) gq me b4 (.inl rfl)).bind fun fm bm t1 d1 gA l2=>af.use gq l2.h l2.f (.inl rfl)).steps (.one RP)
theorem dX.HS{a b:Code}{S bl:a5}{H H1:aw}{e:Exit}(ad:dX Q a S H e bl H1)(aE:e≠.normal):dX Q (.seq a b) S H e bl H1:=by
 refine .mk fun B w0 gq μ w fr tmps ds cs k it me b4 ag=>?_;obtain rfl:=ag.plain (fun _ q=>by cases q);exact((ad.use (k:=.code b::k) gq me b4 (.inl rfl)).steps (.one RP)).pass (fun id _=>rfl) aE
theorem yf.loop{c:Code}{it:Item}(h:yf (.loop c) it){fr:Frame}{tmps:Array Value}{ds:List Deferred}{cs:List Frame}{k:List Item}{w:World}:step P (lone (bY fr tmps ds (it::k)) cs w)=.next (lone (bY fr tmps ds (.code c::.inLoop c::k)) cs w):=by
 rcases h with rfl|⟨c',q,rfl⟩
 ·exact ZS
 ·injection q with q;subst q;exact ZR
theorem dX.XB{c:Code}{S bl gd:a5}{H H1 cz:aw}{e:Exit}(ad:dX Q c S H .normal bl H1)(af:dX Q (.loop c) bl H1 e gd cz):dX Q (.loop c) S H e gd cz:=by
 refine .mk fun B w0 gq μ w fr tmps ds cs k it me b4 ag=>?_;exact((ad.use (k:=.inLoop c::k) gq me b4 (.inl rfl)).bind fun fm bm t1 d1 gA l2=>af.use gq l2.h l2.f (.inr ⟨c,rfl,rfl⟩)).steps (.one ag.loop)
theorem dX.vz{c:Code}{S bl:a5}{H H1:aw}{e:Exit}(ad:dX Q c S H e bl H1)(aE:e≠.normal):dX Q (.loop c) S H e bl H1:=by
 refine .mk fun B w0 gq μ w fr tmps ds cs k it me b4 ag=>?_;exact((ad.use (k:=.inLoop c::k) gq me b4 (.inl rfl)).steps (.one ag.loop)).pass (fun id _=>rfl) aE
theorem Cn{c:Code}{S aP:a5}{H H':aw}{e:Exit}(h:dX Q c S H e aP H'):to Q (lV c S H (e,aP,H')) c S H=some (e,aP,H'):=ad0 h (by unfold lV;rw[bj ⟨rfl,rfl,rfl⟩])
theorem dX.cond(oL:P.follows .mixedOrders=true){x:Operand}{a b:Code}{t:Bool}{S aP:a5}{H H':aw}{e:Exit}(ab:ba S.T H x=some (.bool t))(h:dX Q (if t=true then a else b) S H e aP H'):dX Q (.cond x a b) S H e aP H':=by
 cases t with
 |true=>
  refine dX.y5 oL (lV a S H (e,aP,H')) lG ?_;show Jn _ S H a b (ba S.T H x)=_;rw[ab];exact Cn h
 |false=>
  refine dX.y5 oL (lV b S H (e,aP,H')) lG ?_;show Jn _ S H a b (ba S.T H x)=_;rw[ab];exact Cn h
theorem dX.block(oL:P.follows .mixedOrders=true){id:Nat}{c:Code}{S aP:a5}{H H':aw}{e:Exit}(h:dX Q c S H e aP H'):dX Q (.block id c) S H (match e with|.exit j=>if j=id then .normal else .exit j|e=>e) aP H':=by
 refine dX.y5 oL (lV c S H (e,aP,H')) lG ?_;show M4 id (to Q (lV c S H (e,aP,H')) c S H)=_;rw[Cn h];cases e with
 |exit j=>
  show(bif Nat.beq j id then some (Exit.normal,aP,H') else some (Exit.exit j,aP,H'))=_;by_cases bf:j=id
  ·subst bf;simp
  ·have:Nat.beq j id=false:=by
    cases q:Nat.beq j id
    ·rfl
    ·exact absurd (eC q) bf
   rw[this,dB];simp[bf]
 |_=>rfl
theorem aa7(fg:Code->a5->aw->Option (Exit×a5×aw))(bt:eZ):ux P B w0 (hO Q fg bt).body:=by
 intro f args bE H e gL H' he;unfold hO at he;simp at he
theorem kS.cr{fF:a4 Func}(cX:td P fF){f:FuncId}{args:List Value}{H H':aw}{e:Ending}{bE:FrameMode}(fg:Code->a5->aw->Option (Exit×a5×aw))(bt:eZ)(h:sd P fF (hO Q fg bt) f args false .run H=some (e,bE,H')):kS Q f args H e H':=by
 intro B w0 gq f1 uN H1 aC Iv he;unfold nU at he;split at he
 ·rename_i q;obtain⟨rfl,rfl,rfl⟩:=q;simp only[cD,dK] at he;obtain⟨rfl,rfl⟩:=he;exact ND (E:=hO Q fg bt) cX (Co fg gq) (aa7 fg bt) f1 uN H1 _ _ (by unfold fN.call;simp only;rw[h])
 ·cases he
theorem kS.run{fF:a4 Func}(cX:td P fF){f:FuncId}{fn:Func}{c:Code}{args:List Value}{T:a4 Value}{H H1 H':aw}{bl:a5}{x:Exit}{e:Ending}{bE:FrameMode}(aM:fF.get f=some fn)(ak:fn.body=some c)(aI:nS args 0 (blank fn.ntmps)=some T)
 (aJ:dX Q c ⟨T,fn.ntmps,[],false,.run,none⟩ H x bl H1)(he:wi P (hO Q (lV c ⟨T,fn.ntmps,[],false,.run,none⟩ H (x,bl,H1)) lG) fn (some (x,bl,H1))=some (e,bE,H')):kS Q f args H e H':=by
 refine kS.cr cX (lV c ⟨T,fn.ntmps,[],false,.run,none⟩ H (x,bl,H1)) lG (bE:=bE) ?_;unfold sd;rw[aM];show ET P _ f fn args false .run H fn.body=_;rw[ak];show EU P _ fn c false .run H (nS args 0 (blank fn.ntmps))=_;rw[aI];show wi P _ fn (to Q _ c ⟨T,fn.ntmps,[],false,.run,none⟩ H)=_;rw[Cn aJ];exact he
end
end
end Go.Cre
namespace Go.Cre
noncomputable section
open Go.RowKit
def a4.has{α:Type}(T:a4 α)(n:Nat):Prop:=∀t,t<n->∃v,T.get t=some v
end
end Go.Cre
namespace Go.Opn
noncomputable section
open Go.Cre
open Go.RowKit
theorem a4.DY{α:Type}(a:α):∀(T:a4 α) (n:Nat),(∀m,m<n->∃v,T.get m=some v)->∃eG,a4.put a T n=some eG:=by
 intro T;induction T with
 |leaf=>
  intro n h;cases n with
  |zero=>exact⟨_,rfl⟩
  |succ n=>obtain⟨v,az⟩:=h 0 (by omega);cases az
 |node v l r xh xi=>
  intro n h;cases n with
  |zero=>exact⟨_,rfl⟩
  |succ n=>
   rw[a4.Ls];by_cases aE:n % 2=0
   ·rw[bj aE];obtain⟨l',aD⟩:=xh (n / 2) fun m hm=>by
     obtain⟨v',az⟩:=h (2*m+1) (by omega);rw[a4.q6,bj (by omega),show 2*m / 2=m by omega] at az;exact⟨v',az⟩
    rw[aD];exact⟨_,rfl⟩
   ·rw[bd aE];obtain⟨cW,av⟩:=xi (n / 2) fun m hm=>by
     obtain⟨v',az⟩:=h (2*m+1+1) (by omega);rw[a4.q6,bd (by omega),show(2*m+1) / 2=m by omega] at az;exact⟨v',az⟩
    rw[av];exact⟨_,rfl⟩
structure jA (H:aw):Prop where
 here:∀a,a<H.aG->∃b,H.mem.get a=some b
 gone:∀a,H.aG<=a->H.mem.get a=none
 CA:∀f,f<H.cF->∃l,H.bP.get f=some l
 FA:∀f,H.cF<=f->H.bP.get f=none
 kI:H.bU<=H.aG
theorem jA.lt{H:aw}(h:jA H){a:Nat}{b:fs}(g:H.mem.get a=some b):a<H.aG:=by
 rcases iK a H.aG with q|q
 ·exact q
 ·rw[h.gone a q] at g;cases g
theorem jA.FD{H:aw}(h:jA H){f:Nat}{l:List Nat}(g:H.bP.get f=some l):f<H.cF:=by
 rcases iK f H.cF with q|q
 ·exact q
 ·rw[h.FA f q] at g;cases g
theorem jA.new{H:aw}(h:jA H)(b:fs):∃H1,H.new b=some (H.aG,H1):=by
 obtain⟨mem,aG,bP,cF,bU⟩:=H;obtain⟨T,cB⟩:=a4.DY b mem aG h.here;refine⟨⟨T,aG+1,bP,cF,bU⟩,?_⟩;show aw.QX aG bP cF bU (a4.put b mem aG)=_;rw[cB];rfl
theorem jA.Q0{H H1:aw}{b:fs}{id:Nat}(h:jA H)(e:H.new b=some (id,H1)):jA H1:=by
 obtain⟨_,aW,cw,ed,cH,h0⟩:=aw.qC e;refine⟨fun a aI=>?_,fun a aI=>?_,by rw[cw,ed];exact h.CA,by rw[cw,ed];exact h.FA,by have:=h.kI;omega⟩
 ·rw[h0];split
  ·exact⟨_,rfl⟩
  ·exact h.here a (by omega)
 ·rw[h0,bd (by omega)];exact h.gone a (by omega)
theorem jA.upd{H:aw}(h:jA H){a:Nat}(b:fs)(aI:a<H.aG):∃H1,H.upd a b=some H1:=by
 obtain⟨mem,aG,bP,cF,bU⟩:=H;obtain⟨x,ab⟩:=h.here a aI;obtain⟨T,cB⟩:=a4.HL (a:=b) ab;refine⟨⟨T,aG,bP,cF,bU⟩,?_⟩;show aw.aai aG bP cF bU (a4.put b mem a)=_;rw[cB];rfl
theorem jA.R7{H H1:aw}{b:fs}{a:Nat}(h:jA H)(aI:a<H.aG)(e:H.upd a b=some H1):jA H1:=by
 obtain⟨aC,aW,cw,ed,cH⟩:=aw.xX e;refine⟨fun x ab=>?_,fun x ab=>?_,by rw[aW,cw];exact h.CA,by rw[aW,cw];exact h.FA,by have:=h.kI;omega⟩
 ·rw[cH];split
  ·exact⟨_,rfl⟩
  ·exact h.here x (by omega)
 ·rw[cH,bd (by omega)];exact h.gone x (by omega)
theorem jA.vE{H:aw}(h:jA H):∃H1,H.vE=some (H.cF,H1):=by
 obtain⟨mem,aG,bP,cF,bU⟩:=H;obtain⟨T,cB⟩:=a4.DY [aG] bP cF h.CA;refine⟨⟨mem,aG,T,cF+1,bU⟩,?_⟩;show aw.QY mem aG cF bU (a4.put [aG] bP cF)=_;rw[cB];rfl
theorem jA.ali{H H1:aw}{f:Nat}(h:jA H)(e:H.vE=some (f,H1)):jA H1:=by
 obtain⟨aC,aW,cw,ed,cH,h0⟩:=aw.K0 e;refine⟨by rw[aW,cw];exact h.here,by rw[aW,cw];exact h.gone,fun x ab=>?_,fun x ab=>?_,by have:=h.kI;omega⟩
 ·rw[h0];split
  ·exact⟨_,rfl⟩
  ·exact h.CA x (by omega)
 ·rw[h0,bd (by omega)];exact h.FA x (by omega)
theorem jA.rF{H:aw}(h:jA H){f:Nat}(l:List Nat)(aM:f<H.cF):∃H1,H.rF f l=some H1:=by
 obtain⟨mem,aG,bP,cF,bU⟩:=H;obtain⟨x,ab⟩:=h.CA f aM;obtain⟨T,cB⟩:=a4.HL (a:=l) ab;refine⟨⟨mem,aG,T,cF,bU⟩,?_⟩;show aw.Zy mem aG cF bU (a4.put l bP f)=_;rw[cB];rfl
theorem jA.RF{H H1:aw}{f:Nat}{l:List Nat}(h:jA H)(aM:f<H.cF)(e:H.rF f l=some H1):jA H1:=by
 obtain⟨aC,aW,cw,ed,cH⟩:=aw.D3 e;refine⟨by rw[aC,aW];exact h.here,by rw[aC,aW];exact h.gone,fun x ab=>?_,fun x ab=>?_,by have:=h.kI;omega⟩
 ·rw[cH];split
  ·exact⟨_,rfl⟩
  ·exact h.CA x (by omega)
 ·rw[cH,bd (by omega)];exact h.FA x (by omega)
structure eK where
 ds:List Deferred
 cP:Option Nat
 cb:Bool
 bE:FrameMode
def Ju:eK:=⟨[],none,false,.run⟩
structure cC where
 n:Nat
 ds:eK
 l:List (Nat×Value)
def look:List (Nat×Value)->Nat->Option Value
 |[],_=>none
 |(u,v)::l,t=>bif Nat.beq t u then some v else look l t
structure Sat (E:cC) (S:a5):Prop where
 n:S.n=E.n
 ds:S.ds=E.ds.ds
 cb:S.cb=E.ds.cb
 bE:S.bE=E.ds.bE
 cP:S.cP=E.ds.cP
 has:S.T.has E.n
 get:∀t v,look E.l t=some v->S.T.get t=some v
def cC.put (E:cC):Option Tmp->Value->cC
 |none,_=>E
 |some d,v=>⟨E.n,E.ds,(d,v)::E.l⟩
def Uy (n:Nat):Option Tmp->Bool
 |none=>true
 |some d=>Nat.blt d n
theorem Sat.put{E:cC}{S:a5}(h:Sat E S){dst:Option Tmp}(aq:Uy E.n dst=true)(v:Value):∃bl,S.put dst v=some bl/\Sat (E.put dst v) bl:=by
 cases dst with
 |none=>exact⟨S,rfl,h⟩
 |some d=>
  obtain⟨T,n,ds,cb,bE,cP⟩:=S;have aE:n=E.n:=h.n;have cA:d<E.n:=by simpa[Uy] using aq
  obtain⟨x,ab⟩:=h.has d cA;obtain⟨eG,cB⟩:=a4.HL (a:=v) ab;refine⟨⟨eG,n,ds,cb,bE,cP⟩,?_,h.n,h.ds,h.cb,h.bE,h.cP,fun t aS=>?_,fun t u hu=>?_⟩
  ·show Bool.rec (motive:=fun _=>Option a5) none (a5.qG n ds cb bE cP (a4.put v T d)) (Nat.ble (Nat.succ d) n)=_;have ak:Nat.ble (Nat.succ d) n=true:=mU (by rw[aE];exact cA);rw[ak,cB];rfl
  ·show ∃v,eG.get t=some v;rw[a4.get_put cB];split
   ·exact⟨_,rfl⟩
   ·exact h.has t aS
  ·show eG.get t=some u;rw[a4.get_put cB];have hu:(bif Nat.beq t d then some v else look E.l t)=some u:=hu;by_cases e:t=d
   ·subst e;rw[bj rfl];simpa using hu
   ·rw[bd e];have ak:Nat.beq t d=false:=by
     cases q:Nat.beq t d
     ·rfl
     ·exact absurd (eC q) e
    rw[ak,dB] at hu;exact h.get t u hu
theorem Sat.dO{E:cC}{S:a5}(h:Sat E S){l:List (Nat×Value)}(aD:∀t v,look l t=some v->look E.l t=some v):Sat ⟨E.n,E.ds,l⟩ S:=
 ⟨h.n,h.ds,h.cb,h.bE,h.cP,h.has,fun t v q=>h.get t v (aD t v q)⟩
abbrev an:=Nat->Option (List Value×TypeId)
def an.le(J ah:an):Prop:=∀a x,J a=some x->ah a=some x
theorem an.le.refl(J:an):J.le J:=fun _ _ h=>h
theorem an.le.trans{J bK dT:an}(h:J.le bK)(k:bK.le dT):J.le dT:=fun a x q=>k a x (h a x q)
inductive ec where
 |row (cells:List Value) (e:TypeId)
 |opn (cells:List Value) (e:TypeId) (rest:List Nat) (z:Nat)
 |map (es:List MapEntry) (clock:Nat)
 |loop (r:Ek)
 |hR
def ec.at(F:Nat->Prop)(H:aw)(a:Nat):ec->Prop
 |.row cells e=>H.mem.get a=some (.row cells e false 0 0 false)
 |.opn cells e rest z=>∃f,F f/\H.mem.get a=some (.row cells e true f z false)/\H.bP.get f=some (a::rest)
 |.map es clock=>H.mem.get a=some (.map es clock)
 |.loop r=>H.mem.get a=some (.loop r)
 |.hR=>H.mem.get a=some (.hR (some []))
def ec.rest:ec->List Nat
 |.opn _ _ r _=>r
 |_=>[]
def ids:List (Nat×ec)->List Nat
 |[]=>[]
 |(a,b)::m=>a::(b.rest++ids m)
theorem Kw:∀(m m':List (Nat×ec)),ids (m++m')=ids m++ids m':=by
 intro m m';induction m with
 |nil=>rfl
 |cons x m aZ=>show x.1::(x.2.rest++ids (m++m'))=_;rw[aZ];simp[ids]
theorem AZ{a:Nat}:∀{m:List (Nat×ec)},a∈ids m↔∃x∈m,a=x.1\/a∈x.2.rest:=by
 intro m;induction m with
 |nil=>simp[ids]
 |cons x m aZ=>
  show a∈x.1::(x.2.rest++ids m)↔_;rw[gb,qV,aZ];constructor
  ·rintro(h|h|⟨y,ad,af⟩)
   ·exact⟨x,.head _,.inl h⟩
   ·exact⟨x,.head _,.inr h⟩
   ·exact⟨y,.tail _ ad,af⟩
  ·rintro⟨y,ad,af⟩;rcases gb.1 ad with q|q
   ·subst q;rcases af with af|af
    ·exact .inl af
    ·exact .inr (.inl af)
   ·exact .inr (.inr ⟨y,q,af⟩)
theorem AY{a:Nat}{b:ec}{m:List (Nat×ec)}(h:(a,b)∈m):a∈ids m:=AZ.2 ⟨_,h,.inl rfl⟩
theorem ajJ{m m':List (Nat×ec)}(h:m'.Sublist m):(ids m').Sublist (ids m):=by
 induction h with
 |slnil=>exact bx _
 |cons x _ aZ=>exact .cons _ (aZ.trans (Ew _ _))
 |cons_cons x _ aZ=>exact .cons_cons _ ((bx _).append aZ)
theorem Kx{m m':List (Nat×ec)}(h:m.Perm m'):(ids m).Perm (ids m'):=by
 induction h with
 |nil=>exact .nil
 |cons x _ aZ=>exact .cons _ (aZ.append_left _)
 |swap x y l=>
  show(y.1::(y.2.rest++(x.1::(x.2.rest++ids l)))).Perm (x.1::(x.2.rest++(y.1::(y.2.rest++ids l))));have h:=IM (l₁:=y.1::y.2.rest) (l₂:=x.1::x.2.rest);have:=h.append_right (ids l);simpa using this
 |trans _ _ i1 i2=>exact i1.trans i2
theorem ajI{m:List (Nat×ec)}(h:(ids m).Nodup):(m.map Prod.fst).Nodup:=by
 refine List.Sublist.nodup ?_ h;clear h
 induction m with
 |nil=>exact bx _
 |cons x m aZ=>exact .cons_cons _ (aZ.trans (Ew _ _))
structure dy where
 X:Nat->Prop
 Y:Nat->Prop
 H0:aw
 uB:an
def dy.yC(B:dy)(f:Nat):Prop:=B.H0.cF<=f\/∃a r c e z s,B.H0.bP.get f=some (a::r)/\B.H0.mem.get a=some (.row c e true f z s)/\B.Y a
theorem dy.afY{B:dy}{f:Nat}(h:¬B.yC f):f<B.H0.cF:=IW fun q=>h (.inl q)
structure Inv (g0:Nat) (B:dy) (J:an) (m:List (Nat×ec)) (H:aw):Prop where
 wf:jA H
 bU:H.bU=g0
 aG:B.H0.aG<=H.aG
 cF:B.H0.cF<=H.cF
 gE:∀a,a<B.H0.aG->¬B.X a->H.mem.get a=B.H0.mem.get a
 nC:∀f,¬B.yC f->H.bP.get f=B.H0.bP.get f
 et:∀a c e,J a=some (c,e)->∃o f z s,H.mem.get a=some (.row c e o f z s)
 le:B.uB.le J
 fresh:∀a x,B.uB a=none->J a=some x->B.H0.aG<=a\/B.X a
 own:∀a b,(a,b)∈m->b.at B.yC H a/\(B.H0.aG<=a\/B.X a)/\J a=none/\g0<=a
 opn:∀a b,(a,b)∈m->∀x∈b.rest,x<H.aG/\(B.H0.aG<=x\/B.X x)/\J x=none
 gv:(ids m).Nodup
theorem ec.TX{F:Nat->Prop}{H:aw}(w:jA H){a:Nat}{b:ec}(h:b.at F H a):a<H.aG:=by
 cases b with
 |row c e=>exact w.lt h
 |opn c e r z=>obtain⟨f,_,h,_⟩:=h;exact w.lt h
 |map es k=>exact w.lt h
 |loop r=>exact w.lt h
 |hR=>exact w.lt h
theorem ec.ym{F:Nat->Prop}{H H1:aw}{a:Nat}{b:ec}(h:b.at F H a)(hm:H1.mem.get a=H.mem.get a)(aM:∀f r,H.bP.get f=some (a::r)->H1.bP.get f=some (a::r)):b.at F H1 a:=by
 cases b with
 |row c e=>exact hm.trans h
 |opn c e r z=>obtain⟨f,aO,ad,af⟩:=h;exact⟨f,aO,hm.trans ad,aM _ _ af⟩
 |map es k=>exact hm.trans h
 |loop r=>exact hm.trans h
 |hR=>exact hm.trans h
section
variable {g0:Nat}{B:dy}{H:aw}{J:an}{m m':List (Nat×ec)}
theorem Inv.lt(h:Inv g0 B J m H){a:Nat}{b:ec}(hm:(a,b)∈m):a<H.aG:=ec.TX h.wf (h.own a b hm).1
theorem Inv.akM(h:Inv g0 B J m H){a:Nat}{x:List Value×TypeId}(bf:J a=some x):a<H.aG:=by
 obtain⟨c,e⟩:=x;obtain⟨o,f,z,s,q⟩:=h.et a c e bf;exact h.wf.lt q
theorem Inv.Q2(h:Inv g0 B J m H):J H.aG=none:=by
 cases q:J H.aG with
 |none=>rfl
 |some x=>exact absurd (h.akM q) (zQ _)
theorem Inv.KM(h:Inv g0 B J m H){x:Nat}(ab:x∈ids m):x<H.aG:=by
 obtain⟨⟨a,b⟩,ad,af⟩:=AZ.1 ab;rcases af with af|af
 ·subst af;exact h.lt ad
 ·exact(h.opn a b ad x af).1
theorem Inv.YD(h:Inv g0 B J m H){x:Nat}(ab:x∈ids m):B.H0.aG<=x\/B.X x:=by
 obtain⟨⟨a,b⟩,ad,af⟩:=AZ.1 ab;rcases af with af|af
 ·subst af;exact(h.own _ b ad).2.1
 ·exact(h.opn a b ad x af).2.1
theorem Inv.alp(h:Inv g0 B J m H){x:Nat}(ab:x∈ids m):J x=none:=by
 obtain⟨⟨a,b⟩,ad,af⟩:=AZ.1 ab;rcases af with af|af
 ·subst af;exact(h.own _ b ad).2.2.1
 ·exact(h.opn a b ad x af).2.2
theorem Inv.N2(h:Inv g0 B J m H):g0<=H.aG:=by have:=h.wf.kI;have:=h.bU;omega
theorem Inv.new(h:Inv g0 B J m H){H1:aw}{b:fs}{p:ec}(aC:H.new b=some (H.aG,H1))(ap:p.at B.yC H1 H.aG)(av:p.rest=[]:=by rfl):Inv g0 B J ((H.aG,p)::m) H1:=by
 obtain⟨_,dV,en,fH,kg,gk⟩:=aw.qC aC;refine⟨h.wf.Q0 aC,kg.trans h.bU,by have:=h.aG;omega,by rw[fH];exact h.cF,fun a aI ab=>?_,fun f aM=>by rw[en];exact h.nC f aM,fun a c e bf=>?_,h.le,h.fresh,fun a b ak=>?_,fun a b ak x ab=>?_,?_⟩
 ·rw[gk,bd (by have:=h.aG;omega)];exact h.gE a aI ab
 ·obtain⟨o,f,z,s,q⟩:=h.et a c e bf;exact⟨o,f,z,s,by rw[gk,bd (by have:=h.wf.lt q;omega)];exact q⟩
 ·rcases gb.1 ak with q|q
  ·injection q with aX aU;subst aX;subst aU
   exact⟨ap,.inl h.aG,h.Q2,h.N2⟩
  ·obtain⟨a7,a0,bJ,cO⟩:=h.own a b q;exact⟨ec.ym a7 (by rw[gk,bd (by have:=h.lt q;omega)]) (fun f l aM=>by rw[en];exact aM),a0,bJ,cO⟩
 ·rcases gb.1 ak with q|q
  ·injection q with aX aU;subst aX;subst aU;rw[av] at ab;cases ab
  ·obtain⟨a7,a0,bJ⟩:=h.opn a b q x ab;exact⟨by omega,a0,bJ⟩
 ·show(H.aG::(p.rest++ids m)).Nodup;rw[av,kp,uG];exact⟨fun q=>absurd (h.KM q) (zQ _),h.gv⟩
theorem Inv.alloc(h:Inv g0 B J m H)(cells:List Value)(e:TypeId):
 ∃H1,H.new (.row cells e false 0 0 false)=some (H.aG,H1)/\Inv g0 B J ((H.aG,.row cells e)::m) H1:=by
 obtain⟨H1,aC⟩:=h.wf.new (.row cells e false 0 0 false);obtain⟨_,dV,en,fH,kg,gk⟩:=aw.qC aC;exact⟨H1,aC,h.new aC (by show H1.mem.get H.aG=_;rw[gk,bj rfl])⟩
theorem Inv.bP(h:Inv g0 B J m H):∃H1,H.vE=some (H.cF,H1)/\Inv g0 B J m H1/\H1.aG=H.aG/\H1.bP.get H.cF=some [H.aG]/\B.H0.cF<=H.cF:=by
 obtain⟨H1,aC⟩:=h.wf.vE;obtain⟨_,dV,en,fH,kg,gk⟩:=aw.K0 aC;refine⟨H1,aC,⟨h.wf.ali aC,kg.trans h.bU,by rw[dV];exact h.aG,by have:=h.cF;omega,fun a aI ab=>by rw[en];exact h.gE a aI ab,fun f aM=>?_,fun a c e bf=>by rw[en];exact h.et a c e bf,h.le,h.fresh,fun a b ak=>?_,fun a b ak x ab=>by rw[dV];exact h.opn a b ak x ab,h.gv⟩,dV,by rw[gk,bj rfl],h.cF⟩
 ·rw[gk,bd (by have:=h.cF;have:=dy.afY aM;omega)];exact h.nC f aM
 ·obtain⟨a7,a0,bJ,cO⟩:=h.own a b ak;exact⟨ec.ym a7 (by rw[en]) (fun f l aM=>by rw[gk,bd (by have:=h.wf.FD aM;omega)];exact aM),a0,bJ,cO⟩
theorem Inv.oj(h:Inv g0 B J m H)(cells:List Value)(e:TypeId):
 ∃H1,H.oj cells e false=some (H.aG,H1)/\Inv g0 B J ((H.aG,.opn cells e [] 0)::m) H1:=by
 obtain⟨H1,aC,ad,ev,f1,alk⟩:=h.bP;obtain⟨cz,aW⟩:=ad.wf.new (.row cells e true H.cF 0 false);obtain⟨_,dV,en,fH,kg,gk⟩:=aw.qC aW;refine⟨cz,?_,?_⟩
 ·unfold aw.oj;rw[aC];simp only;rw[aW,ev]
 ·have:=ad.new (p:=.opn cells e [] 0) aW ⟨H.cF,.inl alk,by rw[gk,bj rfl],by rw[en,f1,ev]⟩;rwa [ev] at this
inductive dh:List (Nat×ec)->Nat->ec->ec->List (Nat×ec)->Prop
 |head (a:Nat) (b b':ec) (m:List (Nat×ec)):dh ((a,b)::m) a b b' ((a,b')::m)
 |tail (x:Nat×ec) {m m':List (Nat×ec)} {a:Nat} {b b':ec}:dh m a b b' m'->dh (x::m) a b b' (x::m')
theorem dh.mem{m m':List (Nat×ec)}{a:Nat}{b b':ec}(h:dh m a b b' m'):(a,b)∈m:=by
 induction h with
 |head=>exact .head _
 |tail _ _ aZ=>exact .tail _ aZ
theorem dh.XR{m m':List (Nat×ec)}{a:Nat}{b b':ec}(h:dh m a b b' m')(aE:(m.map Prod.fst).Nodup):∀x c,(x,c)∈m'->(x=a/\c=b')\/(x≠a/\(x,c)∈m):=by
 induction h with
 |head a b b' m=>
  intro x c ab;rw[uF,uG] at aE;rcases gb.1 ab with q|q
  ·injection q with aX aU;exact .inl ⟨aX,aU⟩
  ·refine .inr ⟨fun e=>aE.1 ?_,.tail _ q⟩;subst e;exact rW.2 ⟨_,q,rfl⟩
 |tail y ap aZ=>
  intro x c ab;rw[uF,uG] at aE;rcases gb.1 ab with q|q
  ·refine .inr ⟨fun e=>aE.1 ?_,by rw[q];exact .head _⟩;have:y.1=x:=by rw[<-q]
   rw[this,e];exact rW.2 ⟨_,ap.mem,rfl⟩
  ·rcases aZ aE.2 x c q with r|⟨dQ,ee⟩
   ·exact .inl r
   ·exact .inr ⟨dQ,.tail _ ee⟩
theorem dh.ids{m m':List (Nat×ec)}{a:Nat}{b b':ec}(h:dh m a b b' m')(av:b'.rest=[]):(ids m').Sublist (ids m):=by
 induction h with
 |head a b b' m=>show(a::(b'.rest++Opn.ids m)).Sublist (a::(b.rest++Opn.ids m));rw[av];exact .cons_cons _ (Ew _ _)
 |tail x _ aZ=>exact .cons_cons _ ((bx _).append (aZ av))
theorem Inv.upd(h:Inv g0 B J m H){a:Nat}{b p:ec}{c:fs}{H1:aw}(ap:dh m a b p m')(aC:H.upd a c=some H1)(aJ:p.at B.yC H1 a)(av:p.rest=[]:=by rfl):Inv g0 B J m' H1:=by
 obtain⟨a7,a0,bJ,cO⟩:=h.own a _ ap.mem;have ez:=ajI h.gv;have cA:=h.lt ap.mem;obtain⟨dv,dV,en,fH,kg⟩:=aw.xX aC;refine⟨h.wf.R7 cA aC,fH.trans h.bU,by rw[dv];exact h.aG,by rw[en];exact h.cF,fun x ab fG=>?_,fun f aM=>by rw[dV];exact h.nC f aM,fun x c e bf=>?_,h.le,h.fresh,fun x b ak=>?_,fun x b ak y aB=>?_,(ap.ids av).nodup h.gv⟩
 ·rw[kg,bd (fun q=>by subst q;rcases a0 with q|q;·omega
                      ·exact fG q)]
  exact h.gE x ab fG
 ·obtain⟨o,f,z,s,q⟩:=h.et x c e bf
  exact⟨o,f,z,s,by rw[kg,bd (fun r=>by subst r;rw[bJ] at bf;cases bf)];exact q⟩
 ·rcases ap.XR ez x b ak with⟨rfl,rfl⟩|⟨aX,aU⟩
  ·exact⟨aJ,a0,bJ,cO⟩
  ·obtain⟨dF,dq,ja,k6⟩:=h.own x b aU
   exact⟨ec.ym dF (by rw[kg,bd aX]) (fun f l aM=>by rw[dV];exact aM),dq,ja,k6⟩
 ·rcases ap.XR ez x b ak with⟨rfl,rfl⟩|⟨aX,aU⟩
  ·rw[av] at aB;cases aB
  ·rw[dv];exact h.opn x b aU y aB
theorem Inv.store{a:Nat}{cells cells':List Value}{e:TypeId}(h:Inv g0 B J m H)(ap:dh m a (.row cells e) (.row cells' e) m'):
 ∃H1,H.upd a (.row cells' e false 0 0 false)=some H1/\Inv g0 B J m' H1:=by
 obtain⟨H1,aC⟩:=h.wf.upd (.row cells' e false 0 0 false) (h.lt ap.mem);exact⟨H1,aC,h.upd ap aC (by show H1.mem.get a=_;rw[(aw.xX aC).2.2.2.2,bj rfl])⟩
theorem Inv.sub(h:Inv g0 B J m H)(ag:m'.Sublist m):Inv g0 B J m' H:=
 ⟨h.wf,h.bU,h.aG,h.cF,h.gE,h.nC,h.et,h.le,h.fresh,fun a b q=>h.own a b (ag.subset q),fun a b q=>h.opn a b (ag.subset q),(ajJ ag).nodup h.gv⟩
def an.add(J:an)(a:Nat)(x:List Value×TypeId):an:=fun i=>if i=a then some x else J i
theorem an.g7(J:an)(a:Nat)(x:List Value×TypeId):(J.add a x) a=some x:=bj rfl
theorem an.ab6{J:an}{a:Nat}{x:List Value×TypeId}(h:J a=none):J.le (J.add a x):=fun i y q=>by
 unfold an.add;split
 ·rename_i e;subst e;rw[h] at q;cases q
 ·exact q
def ec.rowOf:ec->Option (List Value×TypeId)
 |.row c e=>some (c,e)
 |.opn c e _ _=>some (c,e)
 |.map _ _=>none
 |.loop _=>none
 |.hR=>none
theorem Inv.h9{a:Nat}{b:ec}{x:List Value×TypeId}(h:Inv g0 B J ((a,b)::m) H)(ab:b.rowOf=some x):Inv g0 B (J.add a x) m H/\J.le (J.add a x):=by
 obtain⟨a7,a0,bJ,cO⟩:=h.own a b (.head _);have ez:=h.gv;rw[show ids ((a,b)::m)=a::(b.rest++ids m) from rfl,uG,qV] at ez;have hle:=an.ab6 (x:=x) bJ;refine⟨⟨h.wf,h.bU,h.aG,h.cF,h.gE,h.nC,fun i c e bf=>?_,h.le.trans hle,fun i y q aB=>?_,fun i p ap=>?_,fun i p ap y aB=>?_,(Ew _ _).nodup ez.2⟩,hle⟩
 ·unfold an.add at bf;split at bf
  ·rename_i q;subst q;injection bf with bf;subst bf
   cases b with
   |row c' b3=>injection ab with ab;injection ab with ad af;subst ad;subst af;exact⟨_,_,_,_,a7⟩
   |opn c' b3 r z=>injection ab with ab;injection ab with ad af;subst ad;subst af;obtain⟨f,_,k,_⟩:=a7;exact⟨_,_,_,_,k⟩
   |map es k=>cases ab
   |loop r=>cases ab
   |hR=>cases ab
  ·exact h.et i c e bf
 ·unfold an.add at aB;split at aB
  ·rename_i e;subst e;exact a0
  ·exact h.fresh i y q aB
 ·obtain⟨dF,dq,ja,k6⟩:=h.own i p (.tail _ ap);refine⟨dF,dq,?_,k6⟩;unfold an.add;rw[bd]
  ·exact ja
  ·intro e;subst e;exact ez.1 (.inr (AY ap))
 ·obtain⟨dF,dq,ja⟩:=h.opn i p (.tail _ ap) y aB;refine⟨dF,dq,?_⟩;unfold an.add;rw[bd]
  ·exact ja
  ·intro e;subst e;exact ez.1 (.inr (AZ.2 ⟨_,ap,.inr aB⟩))
end
end
end Go.Opn

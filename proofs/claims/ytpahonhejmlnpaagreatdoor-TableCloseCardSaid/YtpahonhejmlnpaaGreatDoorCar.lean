/- A part of the proof of TableClose. -/
import Init
import Derived.Test.YtpahonhejmlnpaaGreatDoorCaq
set_option linter.unusedVariables false
set_option linter.unusedSimpArgs false
namespace Go.Opn
noncomputable section
structure cH where
 z:Int
 d:Nat
def cH.fP(r:cH):Prop:=0<r.d/\Nat.Coprime r.z.natAbs r.d
def aV(z:Int)(d:Nat):cH:=⟨z / ((Nat.gcd z.natAbs d:Nat):Int),d / Nat.gcd z.natAbs d⟩
theorem rT{z:Int}{d:Nat}(au:0<d):∃(g e:Nat) (q:Int),0<g/\0<e/\z=g*q/\d=g*e/\Nat.Coprime q.natAbs e/\aV z d=⟨q,e⟩/\g=Nat.gcd z.natAbs d:=by
 have aq:0<Nat.gcd z.natAbs d:=sd _ au;obtain⟨e,he⟩:=qW z.natAbs d;have a0:((Nat.gcd z.natAbs d:Nat):Int) ∣ z:=Fe.2 (oM _ _);obtain⟨q,cc⟩:=a0;have aL:=Co (m:=z.natAbs) (n:=d) aq;generalize cK:Nat.gcd z.natAbs d=g at*;have aa:z / (g:Int)=q:=by rw[cc];exact Int.mul_ediv_cancel_left _ (by omega)
 have ab:d / g=e:=by rw[he];exact Cp _ aq
 have aY:z.natAbs / g=q.natAbs:=by rw[cc,jo,g8];exact Cp _ aq
 have XJ:0<e:=by
  rcases ly e with h|h
  ·rw[h] at he;omega
  ·exact h
 refine⟨g,e,q,aq,XJ,cc,he,by rw[aY,ab] at aL;exact aL,?_,rfl⟩;unfold aV;rw[cK,aa,ab]
theorem h8{z:Int}{d:Nat}(au:0<d):(aV z d).fP:=by
 obtain⟨g,e,q,aa,ab,aY,bu,gI,hK,_⟩:=rT (z:=z) au;rw[hK];exact⟨ab,gI⟩
theorem qo{z:Int}{d:Nat}(au:0<d):(aV z d).z*d=z*(aV z d).d:=by
 obtain⟨g,e,q,aa,ab,aY,bu,gI,hK,_⟩:=rT (z:=z) au;rw[hK,aY,bu];show q*((g*e:Nat):Int)=(g:Int)*q*(e:Int);rw[gZ];simp only[j2,lv,mn]
theorem cH.CX{r s:cH}(aa:r.z=s.z)(ab:r.d=s.d):r=s:=by
 cases r;cases s;simp at aa ab;subst aa;subst ab;rfl
theorem Uq{r s:cH}(al:r.fP)(af:s.fP)(h:r.z*s.d=s.z*r.d):r=s:=by
 have aK:=aj Int.natAbs h;rw[jo,jo,g8,g8] at aK;have aa:r.d ∣ s.d:=SJ al.2.symm ⟨s.z.natAbs,by rw[aK,j4]⟩;have ab:s.d ∣ r.d:=SJ af.2.symm ⟨r.z.natAbs,by rw[<-aK,j4]⟩;have e:=Nat.dvd_antisymm aa ab;have au:=af.1;refine cH.CX ?_ e;rw[e] at h;exact Fa (by omega) h
theorem ux{r:cH}{z:Int}{d:Nat}(al:r.fP)(au:0<d)(h:r.z*d=z*r.d):r=aV z d:=by
 refine Uq al (h8 au) ?_;have ab:=qo (z:=z) au;have vO:(d:Int)≠0:=by omega
 refine Fa vO ?_
 calc r.z*(aV z d).d*d=(r.z*d)*(aV z d).d:=by simp only[j2,lv,mn]
  _=z*r.d*(aV z d).d:=by rw[h]
  _=(z*(aV z d).d)*r.d:=by simp only[j2,lv,mn]
  _=(aV z d).z*d*r.d:=by rw[ab]
  _=(aV z d).z*r.d*d:=by simp only[j2,lv,mn]
theorem Bo{z w:Int}{d e:Nat}(au:0<d)(he:0<e):aV z d=aV w e↔z*e=w*d:=by
 have aa:=qo (z:=z) au;have ab:=qo (z:=w) he;have bn:=h8 (z:=z) au;constructor
 ·intro h;rw[<-h] at ab;have U:((aV z d).d:Int)≠0:=by have:=bn.1;omega
  refine Fa U ?_
  calc z*e*(aV z d).d=(z*(aV z d).d)*e:=by simp only[j2,lv,mn]
   _=(aV z d).z*d*e:=by rw[aa]
   _=((aV z d).z*e)*d:=by simp only[j2,lv,mn]
   _=w*(aV z d).d*d:=by rw[ab]
   _=w*d*(aV z d).d:=by simp only[j2,lv,mn]
 ·intro h;refine ux bn he ?_;have U:(d:Int)≠0:=by omega
  refine Fa U ?_
  calc (aV z d).z*e*d=((aV z d).z*d)*e:=by simp only[j2,lv,mn]
   _=z*(aV z d).d*e:=by rw[aa]
   _=(z*e)*(aV z d).d:=by simp only[j2,lv,mn]
   _=w*d*(aV z d).d:=by rw[h]
   _=w*(aV z d).d*d:=by simp only[j2,lv,mn]
theorem Bp{r:cH}(h:r.fP):aV r.z r.d=r:=(ux h h.1 rfl).symm
theorem mV{d:Nat}(au:0<d):aV 0 d=⟨0,1⟩:=(ux (r:=⟨0,1⟩) ⟨by decide,by decide⟩ au (by simp)).symm
theorem Bq{z:Int}{d:Nat}(au:0<d):(0<(aV z d).z↔0<z)/\((aV z d).z<0↔z<0)/\((aV z d).z=0↔z=0):=by
 obtain⟨g,e,q,aa,ab,aY,bu,gI,hK,_⟩:=rT (z:=z) au;rw[hK,aY];have aq:(0:Int)<g:=by omega
 refine⟨⟨fun h=>Int.mul_pos aq h,fun h=>?_⟩,⟨fun h=>KM aq h,fun h=>?_⟩,⟨fun h=>?_,fun h=>?_⟩⟩
 ·rcases r7 0 q with k|k
  ·exact k
  ·have:=Int.mul_nonpos_of_nonneg_of_nonpos (Ce aq) k;omega
 ·rcases r7 q 0 with k|k
  ·exact k
  ·have:=w1 (Ce aq) k;omega
 ·show(g:Int)*q=0;have h:q=0:=h;rw[h,KN]
 ·show q=0;rcases Int.mul_eq_zero.1 h with k|k
  ·omega
  ·exact k
theorem I8{z:Int}{d:Nat}(au:0<d):(aV z d).z.natAbs<=z.natAbs/\(aV z d).d<=d:=by
 obtain⟨g,e,q,aa,ab,aY,bu,gI,hK,_⟩:=rT (z:=z) au;rw[hK];constructor
 ·rw[aY,jo,g8];exact SP _ aa
 ·rw[bu];exact SP _ aa
theorem O4{dE ej:Int}{u v:Nat}(aa:Nat.Coprime dE.natAbs u)(ab:Nat.Coprime v u):Nat.Coprime (dE*v+ej*u).natAbs u:=by
 have oe:=oM (dE*v+ej*u).natAbs u;have rz:=qW (dE*v+ej*u).natAbs u;show Nat.gcd (dE*v+ej*u).natAbs u=1;generalize Nat.gcd (dE*v+ej*u).natAbs u=k at oe rz;have bx:(k:Int) ∣ dE*v+ej*u:=Fe.2 oe;have bX:(k:Int) ∣ ej*u:=Int.dvd_trans (Sn.2 rz) (Int.dvd_mul_left _ _);have cy:(k:Int) ∣ dE*v:=(Int.dvd_add_left bX).1 bx;have c0:k ∣ dE.natAbs*v:=by
  have:=Fe.1 cy;rwa [jo,g8] at this
 have bn:Nat.Coprime k dE.natAbs:=(Fp rz aa).symm;have bQ:Nat.Coprime k v:=(Fp rz ab).symm;exact Nat.Coprime.eq_one_of_dvd (bn.mul_right bQ) c0
theorem ZH{r s:cH}(al:r.fP)(af:s.fP){g u v h:Nat}{t q:Int}(aq:g=Nat.gcd r.d s.d)(hu:r.d=u*g)(ay:s.d=v*g)(aM:t=r.z*v+s.z*u)(cS:h=Nat.gcd t.natAbs g)(cc:t=q*h){w:Nat}(hw:s.d=w*h):(⟨q,u*w⟩:cH)=aV (r.z*s.d+s.z*r.d) (r.d*s.d):=by
 have rd:=al.1;have gM:=af.1;have tV:0<g:=by rw[aq];exact SN _ rd
 have tW:0<h:=by rw[cS];exact sd _ tV
 have Oy:Nat.Coprime u v:=by
  have:=Co (m:=r.d) (n:=s.d) (by rw[<-aq];exact tV);rw[<-aq] at this;have aC:r.d / g=u:=by rw[hu];exact qX _ tV
  have aZ:s.d / g=v:=by rw[ay];exact qX _ tV
  rwa [aC,aZ] at this
 obtain⟨m,hm⟩:h ∣ g:=by rw[cS];exact qW _ _
 have CW:w=v*m:=by
  have:w*h=v*m*h:=by rw[<-hw,ay,hm,j4 h m,nU]
  exact Nat.eq_of_mul_eq_mul_right tW this
 have Rs:t.natAbs=q.natAbs*h:=by rw[cc,jo,g8]
 have On:q.natAbs ∣ t.natAbs:=⟨h,Rs⟩;have bn:Nat.Coprime t.natAbs u:=by
  rw[aM];exact O4 (Fp ⟨g,hu⟩ al.2) Oy.symm
 have bQ:Nat.Coprime t.natAbs v:=by
  rw[aM,Int.add_comm];exact O4 (Fp ⟨g,ay⟩ af.2) Oy
 have cZ:Nat.Coprime q.natAbs m:=by
  have:=Co (m:=t.natAbs) (n:=g) (by rw[<-cS];exact tW);rw[<-cS] at this;have aC:t.natAbs / h=q.natAbs:=by rw[Rs];exact qX _ tW
  have aZ:g / h=m:=by rw[hm];exact Cp _ tW
  rwa [aC,aZ] at this
 have YV:0<u:=by
  rcases ly u with k|k
  ·rw[k] at hu;omega
  ·exact k
 have Y':0<w:=by
  rcases ly w with k|k
  ·rw[k] at hw;omega
  ·exact k
 refine ux ⟨hV YV Y',?_⟩ (hV rd gM) ?_
 ·show Nat.Coprime q.natAbs (u*w);rw[CW];exact(SI On bn).mul_right ((SI On bQ).mul_right cZ)
 ·show q*((r.d*s.d:Nat):Int)=(r.z*s.d+s.z*r.d)*((u*w:Nat):Int);have aC:(r.z*s.d+s.z*r.d:Int)=t*g:=by
   rw[aM,hu,ay,gZ,gZ,Cd];simp only[j2]
  rw[aC,cc,CW];have aZ:(s.d:Int)=v*(h*m):=by rw[ay,hm];simp
  rw[gZ,aZ,hu,hm];simp only[gZ,j2,lv,mn]
theorem ZI{r s:cH}(al:r.fP)(af:s.fP){g h a c:Nat}{p q:Int}{b e:Nat}(aq:g=Nat.gcd r.z.natAbs s.d)(cS:h=Nat.gcd s.z.natAbs r.d)(a0:r.z≠0)(kC:s.z≠0)(aa:r.z=p*g)(ab:s.z=q*h)(aY:r.d=b*h)(bu:s.d=e*g):(⟨p*q,b*e⟩:cH)=aV (r.z*s.z) (r.d*s.d):=by
 have rd:=al.1;have gM:=af.1;have tV:0<g:=by rw[aq];exact sd _ gM
 have tW:0<h:=by rw[cS];exact sd _ rd
 have bI:r.z.natAbs=p.natAbs*g:=by rw[aa,jo,g8]
 have cY:s.z.natAbs=q.natAbs*h:=by rw[ab,jo,g8]
 have bn:Nat.Coprime p.natAbs e:=by
  have:=Co (m:=r.z.natAbs) (n:=s.d) (by rw[<-aq];exact tV);rw[<-aq,bI,bu,qX _ tV,qX _ tV] at this;exact this
 have bQ:Nat.Coprime q.natAbs b:=by
  have:=Co (m:=s.z.natAbs) (n:=r.d) (by rw[<-cS];exact tW);rw[<-cS,cY,aY,qX _ tW,qX _ tW] at this;exact this
 have cZ:Nat.Coprime p.natAbs b:=(al.2.coprime_dvd_left ⟨g,bI⟩).coprime_dvd_right ⟨h,aY⟩;have dH:Nat.Coprime q.natAbs e:=(af.2.coprime_dvd_left ⟨h,cY⟩).coprime_dvd_right ⟨g,bu⟩;have ah:0<b:=by
  rcases ly b with k|k
  ·rw[k] at aY;omega
  ·exact k
 have he:0<e:=by
  rcases ly e with k|k
  ·rw[k] at bu;omega
  ·exact k
 refine ux ⟨hV ah he,?_⟩ (hV rd gM) ?_
 ·show Nat.Coprime (p*q).natAbs (b*e);rw[jo];exact(cZ.mul_right bn).mul_left (bQ.mul_right dH)
 ·show p*q*((r.d*s.d:Nat):Int)=r.z*s.z*((b*e:Nat):Int);rw[aa,ab,aY,bu];simp only[gZ,j2,lv,mn]
end
end Go.Opn
namespace Go.Opn
noncomputable section
def bs:List Nat->Nat
 |[]=>0
 |x::l=>x+1000000000*bs l
def fN(l:List Nat):Prop:=∀x∈l,x<1000000000
def qM(l:List Nat):Prop:=fN l/\∀x,l.getLast?=some x->x≠0
def ap(n:Nat):List Nat:=if h:n=0 then[] else n % 1000000000::ap (n / 1000000000)
termination_by n
decreasing_by omega
theorem kh:ap 0=[]:=by unfold ap;rfl
theorem qk{n:Nat}(h:n≠0):ap n=n % 1000000000::ap (n / 1000000000):=by rw[ap];rw[dif_neg h]
theorem g5:∀n:Nat,bs (ap n)=n:=by
 intro n;induction n using Nat.strongRecOn with
 |_ n aP=>
  by_cases h:n=0
  ·subst h;rw[kh];rfl
  ·rw[qk h];show n % 1000000000+1000000000*bs (ap (n / 1000000000))=n;rw[aP _ (by omega)];omega
theorem kj:∀n:Nat,fN (ap n):=by
 intro n;induction n using Nat.strongRecOn with
 |_ n aP=>
  by_cases h:n=0
  ·subst h;rw[kh];intro x U;cases U
  ·rw[qk h];intro x U;rcases gj.1 U with rfl|U
   ·omega
   ·exact aP _ (by omega) x U
theorem A4:∀(n:Nat) (x:Nat),(ap n).getLast?=some x->x≠0:=by
 intro n;induction n using Nat.strongRecOn with
 |_ n aP=>
  intro x U;by_cases h:n=0
  ·subst h;rw[kh] at U;cases U
  ·rw[qk h] at U;by_cases ab:n / 1000000000=0
   ·rw[ab,kh] at U;have U:n % 1000000000=x:=by simpa using U
    omega
   ·rw[qk ab,Sz,<-qk ab] at U;exact aP _ (by omega) x U
theorem CJ(n:Nat):qM (ap n):=⟨kj n,A4 n⟩
theorem fN.tail{x:Nat}{l:List Nat}(h:fN (x::l)):fN l:=fun y aF=>h y (.tail _ aF)
theorem Gg{x:Nat}{l:List Nat}(h:qM (x::l)):qM l:=⟨h.1.tail,fun y aF=>by
 cases l with
 |nil=>cases aF
 |cons z l=>exact h.2 y (by rw[Sz];exact aF)⟩
theorem RI:∀{l:List Nat},qM l->bs l=0->l=[]
 |[],_,_=>rfl
 |x::l,h,aX=>by
  have aX:x+1000000000*bs l=0:=aX;have:=RI (Gg h) (by omega);subst this;exact absurd (show x=0 by omega) (h.2 x rfl)
theorem CK:∀{l:List Nat},qM l->l=ap (bs l)
 |[],_=>by show[]=ap 0;rw[kh]
 |x::l,h=>by
  have U:=h.1 x (.head _);have aP:=CK (Gg h);have aw:bs (x::l)≠0:=fun q=>by have:=RI h q;cases this
  rw[qk aw];have aC:bs (x::l) % 1000000000=x:=by show(x+1000000000*bs l) % 1000000000=x;omega
  have aZ:bs (x::l) / 1000000000=bs l:=by show(x+1000000000*bs l) / 1000000000=bs l;omega
  rw[aC,aZ,<-aP]
theorem BW:∀(a b:List Nat),bs (a++b)=bs a+1000000000 ^ a.length*bs b
 |[],b=>by show bs b=0+1*bs b;omega
 |x::a,b=>by
  show x+1000000000*bs (a++b)=x+1000000000*bs a+1000000000 ^ (a.length+1)*bs b;rw[BW a b,lX,mu,nU,Le,Lo]
theorem EU(x:Nat):bs [x]=x:=by show x+1000000000*0=x;omega
theorem wN:∀{l:List Nat},fN l->bs l<1000000000 ^ l.length
 |[],_=>by decide
 |x::l,h=>by
  have aP:=wN h.tail;have U:=h x (.head _);show x+1000000000*bs l<1000000000 ^ (l.length+1);rw[mu];omega
theorem RE{l:List Nat}(h:qM l)(aw:l≠[]):1000000000 ^ (l.length -1)<=bs l:=by
 have e:=List.dropLast_concat_getLast aw;have aX:l.getLast aw≠0:=h.2 _ (List.getLast?_eq_some_getLast aw);rw[<-e,BW,EU,g1,zg,Fq];have:1000000000 ^ l.dropLast.length*1<=1000000000 ^ l.dropLast.length*l.getLast aw:=Ln _ (by omega);omega
theorem BY{l:List Nat}{i x:Nat}(h:l[i]?=some x):bs (l.take (i+1))=bs (l.take i)+1000000000 ^ i*x:=by
 have ar:=(hq.1 h).1;rw[tv,h,Option.toList_some,BW,EU,gp,g9 (by omega)]
theorem BX{l:List Nat}{i x:Nat}(h:l[i]?=some x):bs (l.drop i)=x+1000000000*bs (l.drop (i+1)):=by
 have ar:=(hq.1 h).1;have U:l[i]=x:=by rw[eO ar] at h;injection h
 rw[K0 ar,U];rfl
theorem yW(l:List Nat)(i:Nat)(ar:i<=l.length):bs l=bs (l.take i)+1000000000 ^ i*bs (l.drop i):=by
 have:=BW (l.take i) (l.drop i);rwa [SG,gp,g9 ar] at this
theorem RF{l:List Nat}{i x y:Nat}(h:l[i]?=some x):bs (l.set i y)+1000000000 ^ i*x=bs l+1000000000 ^ i*y:=by
 have ar:=(hq.1 h).1;have aC:=yW l i (by omega);have aZ:=yW (l.set i y) i (by rw[nP];omega);rw[List.take_set_of_le (c5 i),BX (i:=i) (x:=y) (by rw[Cl,bg rfl,bg ar]),List.drop_set_of_lt (by omega)] at aZ;rw[BX h] at aC;rw[aC,aZ,lX,lX];omega
theorem El{l:List Nat}{i y:Nat}(h:fN l)(aF:y<1000000000):fN (l.set i y):=fun x U=>by
 rcases List.mem_or_eq_of_mem_set U with q|q
 ·exact h x q
 ·omega
theorem PQ{a b:List Nat}(aa:fN a)(ab:fN b):fN (a++b):=fun x U=>by
 rcases nQ.1 U with q|q
 ·exact aa x q
 ·exact ab x q
theorem Ji{l:List Nat}{i:Nat}(h:fN l):fN (l.take i):=fun x U=>h x (Fm U)
theorem aa9{l:List Nat}{i:Nat}(h:fN l):fN (l.drop i):=fun x U=>h x (List.mem_of_mem_drop U)
theorem qs{l:List Nat}{i x:Nat}(h:fN l)(U:l[i]?=some x):x<1000000000:=h x (k8 U)
theorem PS{n:Nat}:fN (List.replicate n 0):=fun x U=>by rw[Sx U];decide
theorem RJ:∀n:Nat,bs (List.replicate n 0)=0
 |0=>rfl
 |n+1=>by rw[List.replicate_succ];show 0+1000000000*bs (List.replicate n 0)=0;rw[RJ n]
theorem RG{a b:List Nat}(aK:fN a)(ah:qM b)(h:a.length<b.length):bs a<bs b:=by
 have aa:=wN aK;have ab:=RE ah (fun q=>by rw[q] at h;exact Nat.not_lt_zero _ h);have aY:1000000000 ^ a.length<=1000000000 ^ (b.length -1):=zl (by decide) (by omega);omega
theorem aeH{a b:List Nat}{i x y:Nat}(aK:fN a)(U:a[i]?=some x)(aF:b[i]?=some y)(au:a.drop (i+1)=b.drop (i+1))(h:x<y):bs a<bs b:=by
 have ahq:=(hq.1 U).1;have ahr:=(hq.1 aF).1;have aC:=yW a (i+1) (by omega);have aZ:=yW b (i+1) (by omega);rw[BY U,au] at aC;rw[BY aF] at aZ;have aa:=wN (Ji (i:=i) aK);rw[gp,g9 (by omega)] at aa;have ab:1000000000 ^ i*(x+1)<=1000000000 ^ i*y:=Ln _ h;rw[lX,iZ] at ab;generalize 1000000000 ^ (i+1)*bs (b.drop (i+1))=R at aC aZ;generalize 1000000000 ^ i*x=X at aC ab;generalize 1000000000 ^ i*y=Y at aZ ab;omega
end
end Go.Opn
namespace Go.Cre
noncomputable section
open Go.RowKit
open Classical
structure ek (P:Program) where
 ok:(Nat->Prop)->World->Prop
 up:∀B w0 gW g6,ok B w0->(∀k,B k->gW k)->Kept B w0 g6->ok gW g6
def jB (c:Code)(S:aT)(H:ai)(r:Exit×aT×ai):Code->aT->ai->Option (Exit×aT×ai):=fun bw aB H'=>if bw=c/\aB=S/\H'=H then some r else none
def mC (f:FuncId)(args:List Value)(H:ai)(r:Ending×ai):ed:=fun cz b5 H'=>if cz=f/\b5=args/\H'=H then some r else none
def dc{P:Program}(Q:ek P)(c:Code)(S:aT)(H:ai)(e:Exit)(aB:aT)(H':ai):Prop:=∀B w0,Q.ok B w0->oH P B w0 (jB c S H (e,aB,H'))
def jn{P:Program}(Q:ek P)(f:FuncId)(args:List Value)(H:ai)(e:Ending)(H':ai):Prop:=∀B w0,Q.ok B w0->nc P B w0 (mC f args H (e,H'))
def n1 {P:Program}(Q:ek P)(pick:Code->aT->ai->Option (Exit×aT×ai)):Code->aT->ai->Option (Exit×aT×ai):=fun c S H=>match pick c S H with
 |some (e,aB,H')=>if dc Q c S H e aB H' then some (e,aB,H') else none
 |none=>none
def hZ {P:Program}(Q:ek P)(pick:ed):ed:=fun f args H=>match pick f args H with
 |some (e,H')=>if jn Q f args H e H' then some (e,H') else none
 |none=>none
section
variable {P:Program}{Q:ek P}{B:Nat->Prop}{w0:World}
theorem xe(pick:Code->aT->ai->Option (Exit×aT×ai))(fv:Q.ok B w0):oH P B w0 (n1 Q pick):=by
 intro c S H e aB H' he;unfold n1 at he;split at he
 ·split at he
  ·rename_i eC;simp only[b9,c'] at he;obtain⟨rfl,rfl,rfl⟩:=he;exact eC B w0 fv c S H _ _ _ (by unfold jB;rw[bg ⟨rfl,rfl,rfl⟩])
  ·cases he
 ·cases he
theorem Gc(pick:ed)(fv:Q.ok B w0):nc P B w0 (hZ Q pick):=by
 intro f args H e H' he;unfold hZ at he;split at he
 ·split at he
  ·rename_i eC;simp only[b9,c'] at he;obtain⟨rfl,rfl⟩:=he;exact eC B w0 fv f args H _ _ (by unfold mC;rw[bg ⟨rfl,rfl,rfl⟩])
  ·cases he
 ·cases he
def fU {P:Program}(Q:ek P)(eX:Code->aT->ai->Option (Exit×aT×ai))(bo:ed):eT:=
 ⟨n1 Q eX,fun f args bB bf H=>if bB=true then none else match hZ Q bo f args H with|some (e,H')=>some (e,bf,H')|none=>none⟩
theorem E9(eX:Code->aT->ai->Option (Exit×aT×ai))(bo:ed):(fU Q eX bo).call=hZ Q bo:=by
 funext f args H
 unfold eT.call fU;simp only[y8,yi];cases hZ Q bo f args H with
 |none=>rfl
 |some p=>rfl
theorem dc.s'(l5:P.follows .mixedOrders=true){c:Code}{S aB:aT}{H H':ai}{e:Exit}(eX:Code->aT->ai->Option (Exit×aT×ai))(bo:ed)(h:CQ P (fU Q eX bo) c S H=some (e,aB,H')):dc Q c S H e aB H':=by
 intro B w0 fv;have eL:∀(gW:Nat->Prop) (g6:World),(∀k,B k->gW k)->Kept B w0 g6->Q.ok gW g6:=fun gW g6 a b=>Q.up B w0 gW g6 fv a b;have aL:∀(gW:Nat->Prop) (g6:World),Q.ok gW g6->oH P gW g6 (fU Q eX bo).code:=fun gW g6 q=>xe eX q;have hk:∀(gW:Nat->Prop) (g6:World),Q.ok gW g6->nc P gW g6 (fU Q eX bo).call:=fun gW g6 q=>by rw[E9];exact Gc bo q
 have af:=MQ (P:=P) (B:=B) (w0:=w0) (E:=fU Q eX bo) l5 (aL B w0 fv) (fun gW g6 a b=>hk gW g6 (eL gW g6 a b)) (fun gW g6 a b=>E0 (aL gW g6 (eL gW g6 a b))) (Qu (hk B w0 fv));intro bn a1 H1 aC LA Cb he;unfold jB at he;split at he
 ·rename_i q;obtain⟨rfl,rfl,rfl⟩:=q;simp only[b9,c'] at he;obtain⟨rfl,rfl,rfl⟩:=he;exact af _ _ _ _ _ _ h
 ·cases he
theorem Gi{c:Code}{S aB:aT}{H H':ai}{e:Exit}(h:dc Q c S H e aB H'){eX:Code->aT->ai->Option (Exit×aT×ai)}(ao:eX c S H=some (e,aB,H')):n1 Q eX c S H=some (e,aB,H'):=by
 unfold n1;rw[ao];simp only;rw[bg h]
theorem zD{f:FuncId}{args:List Value}{H H':ai}{e:Ending}(h:jn Q f args H e H'){bo:ed}(ao:bo f args H=some (e,H')):hZ Q bo f args H=some (e,H'):=by
 unfold hZ;rw[ao];simp only;rw[bg h]
def hQ:Code->aT->ai->Option (Exit×aT×ai):=fun _ _ _=>none
def ki:ed:=fun _ _ _=>none
def Ju (bn:Code)(a1:aT)(H1:ai)(cX:Exit×aT×ai)(bQ:Code)(fq:aT)(bK:ai)(cM:Exit×aT×ai):Code->aT->ai->Option (Exit×aT×ai):=fun c S H=>
 if c=bn/\S=a1/\H=H1 then some cX else if c=bQ/\S=fq/\H=bK then some cM else none
theorem dc.skip(l5:P.follows .mixedOrders=true){S:aT}{H:ai}:dc Q .skip S H .normal S H:=dc.s' l5 hQ ki rfl
theorem dc.ret(l5:P.follows .mixedOrders=true){S:aT}{H:ai}:dc Q .ret S H .ret S H:=dc.s' l5 hQ ki rfl
theorem dc.exit(l5:P.follows .mixedOrders=true){S:aT}{H:ai}{id:Nat}:dc Q (.exit id) S H (.exit id) S H:=dc.s' l5 hQ ki rfl
theorem dc.mk{c:Code}{S aB:aT}{H H':ai}{e:Exit}(h:∀B w0,Q.ok B w0->∀μ w fr tmps ds cs k it,bL P B w0 μ H w->gO μ S fr tmps ds cs->tz c it->jZ P B w0 μ H S fr cs (lone (bt fr tmps ds (it::k)) cs w) k aB H' e):dc Q c S H e aB H':=by
 intro B w0 fv bn a1 H1 aC LA Cb he;unfold jB at he;split at he
 ·rename_i q;obtain⟨rfl,rfl,rfl⟩:=q;simp only[b9,c'] at he;obtain⟨rfl,rfl,rfl⟩:=he;exact h B w0 fv
 ·cases he
theorem dc.use{c:Code}{S aB:aT}{H H':ai}{e:Exit}(h:dc Q c S H e aB H')(fv:Q.ok B w0){μ:bz}{w:World}{fr:Frame}{tmps:Array Value}{ds:List Deferred}{cs:List Frame}{k:List Item}{it:Item}(mF:bL P B w0 μ H w)(bY:gO μ S fr tmps ds cs)(af:tz c it):
 jZ P B w0 μ H S fr cs (lone (bt fr tmps ds (it::k)) cs w) k aB H' e:=h B w0 fv c S H e aB H' (by unfold jB;rw[bg ⟨rfl,rfl,rfl⟩]) μ w fr tmps ds cs k it mF bY af
theorem tz.plain{c:Code}{it:Item}(h:tz c it)(aw:∀bw,c≠.loop bw):it=.code c:=by
 rcases h with q|⟨bw,q,_⟩
 ·exact q
 ·exact absurd q (aw bw)
theorem dc.seq{a b:Code}{S a1 fq:aT}{H H1 bK:ai}{e:Exit}(aa:dc Q a S H .normal a1 H1)(ab:dc Q b a1 H1 e fq bK):dc Q (.seq a b) S H e fq bK:=by
 refine .mk fun B w0 fv μ w fr tmps ds cs k it mF bY af=>?_;obtain rfl:=af.plain (fun _ q=>by cases q);exact((aa.use (k:=.code b::k) fv mF bY (.inl rfl)).bind fun eE bh t1 d1 fs jQ=>ab.use fv jQ.h jQ.f (.inl rfl)).steps (.one JW)
theorem dc.BL{a b:Code}{S a1:aT}{H H1:ai}{e:Exit}(aa:dc Q a S H e a1 H1)(aw:e≠.normal):dc Q (.seq a b) S H e a1 H1:=by
 refine .mk fun B w0 fv μ w fr tmps ds cs k it mF bY af=>?_;obtain rfl:=af.plain (fun _ q=>by cases q);exact((aa.use (k:=.code b::k) fv mF bY (.inl rfl)).steps (.one JW)).pass (fun id _=>rfl) aw
theorem tz.loop{c:Code}{it:Item}(h:tz (.loop c) it){fr:Frame}{tmps:Array Value}{ds:List Deferred}{cs:List Frame}{k:List Item}{w:World}:step P (lone (bt fr tmps ds (it::k)) cs w)=.next (lone (bt fr tmps ds (.code c::.inLoop c::k)) cs w):=by
 rcases h with rfl|⟨bw,q,rfl⟩
 ·exact Rb
 ·injection q with q;subst q;exact Ra
theorem dc.Ph{c:Code}{S a1 fq:aT}{H H1 bK:ai}{e:Exit}(aa:dc Q c S H .normal a1 H1)(ab:dc Q (.loop c) a1 H1 e fq bK):dc Q (.loop c) S H e fq bK:=by
 refine .mk fun B w0 fv μ w fr tmps ds cs k it mF bY af=>?_;exact((aa.use (k:=.inLoop c::k) fv mF bY (.inl rfl)).bind fun eE bh t1 d1 fs jQ=>ab.use fv jQ.h jQ.f (.inr ⟨c,rfl,rfl⟩)).steps (.one af.loop)
theorem dc.rQ{c:Code}{S a1:aT}{H H1:ai}{e:Exit}(aa:dc Q c S H e a1 H1)(aw:e≠.normal):dc Q (.loop c) S H e a1 H1:=by
 refine .mk fun B w0 fv μ w fr tmps ds cs k it mF bY af=>?_;exact((aa.use (k:=.inLoop c::k) fv mF bY (.inl rfl)).steps (.one af.loop)).pass (fun id _=>rfl) aw
theorem xd{c:Code}{S aB:aT}{H H':ai}{e:Exit}(h:dc Q c S H e aB H'):n1 Q (jB c S H (e,aB,H')) c S H=some (e,aB,H'):=Gi h (by unfold jB;rw[bg ⟨rfl,rfl,rfl⟩])
theorem dc.cond(l5:P.follows .mixedOrders=true){x:Operand}{a b:Code}{t:Bool}{S aB:aT}{H H':ai}{e:Exit}(U:aW S.T H x=some (.bool t))(h:dc Q (if t=true then a else b) S H e aB H'):dc Q (.cond x a b) S H e aB H':=by
 cases t with
 |true=>
  refine dc.s' l5 (jB a S H (e,aB,H')) ki ?_;show CD _ S H a b (aW S.T H x)=_;rw[U];exact xd h
 |false=>
  refine dc.s' l5 (jB b S H (e,aB,H')) ki ?_;show CD _ S H a b (aW S.T H x)=_;rw[U];exact xd h
theorem dc.block(l5:P.follows .mixedOrders=true){id:Nat}{c:Code}{S aB:aT}{H H':ai}{e:Exit}(h:dc Q c S H e aB H'):dc Q (.block id c) S H (match e with|.exit j=>if j=id then .normal else .exit j|e=>e) aB H':=by
 refine dc.s' l5 (jB c S H (e,aB,H')) ki ?_;show Ga id (n1 Q (jB c S H (e,aB,H')) c S H)=_;rw[xd h];cases e with
 |exit j=>
  show(bif Nat.beq j id then some (Exit.normal,aB,H') else some (Exit.exit j,aB,H'))=_;by_cases a5:j=id
  ·subst a5;simp
  ·have:Nat.beq j id=false:=by
    cases q:Nat.beq j id
    ·rfl
    ·exact absurd (dX q) a5
   rw[this,da];simp[a5]
 |_=>rfl
theorem Sj(eX:Code->aT->ai->Option (Exit×aT×ai))(bo:ed):qN P B w0 (fU Q eX bo).body:=by
 intro f args bf H e fx H' he;unfold fU at he;simp at he
theorem jn.ck{eK:aQ Func}(eB:pK P eK){f:FuncId}{args:List Value}{H H':ai}{e:Ending}{bf:FrameMode}(eX:Code->aT->ai->Option (Exit×aT×ai))(bo:ed)(h:oZ P eK (fU Q eX bo) f args false .run H=some (e,bf,H')):jn Q f args H e H':=by
 intro B w0 fv f1 q4 H1 aC Cb he;unfold mC at he;split at he
 ·rename_i q;obtain⟨rfl,rfl,rfl⟩:=q;simp only[b9,c'] at he;obtain⟨rfl,rfl⟩:=he;exact Gu (E:=fU Q eX bo) eB (xe eX fv) (Sj eX bo) f1 q4 H1 _ _ (by unfold eT.call;simp only;rw[h])
 ·cases he
theorem jn.run{eK:aQ Func}(eB:pK P eK){f:FuncId}{fn:Func}{c:Code}{args:List Value}{T:aQ Value}{H H1 H':ai}{a1:aT}{x:Exit}{e:Ending}{bf:FrameMode}(az:eK.get f=some fn)(ah:fn.body=some c)(aK:lA args 0 (blank fn.ntmps)=some T)
 (aL:dc Q c ⟨T,fn.ntmps,[],false,.run,none⟩ H x a1 H1)(he:so P (fU Q (jB c ⟨T,fn.ntmps,[],false,.run,none⟩ H (x,a1,H1)) ki) fn (some (x,a1,H1))=some (e,bf,H')):jn Q f args H e H':=by
 refine jn.ck eB (jB c ⟨T,fn.ntmps,[],false,.run,none⟩ H (x,a1,H1)) ki (bf:=bf) ?_;unfold oZ;rw[az];show zu P _ f fn args false .run H fn.body=_;rw[ah];show zv P _ fn c false .run H (lA args 0 (blank fn.ntmps))=_;rw[aK];show so P _ fn (n1 Q _ c ⟨T,fn.ntmps,[],false,.run,none⟩ H)=_;rw[xd aL];exact he
end
end
end Go.Cre
namespace Go.Cre
noncomputable section
open Go.RowKit
def aQ.has{α:Type}(T:aQ α)(n:Nat):Prop:=∀t,t<n->∃v,T.get t=some v
end
end Go.Cre

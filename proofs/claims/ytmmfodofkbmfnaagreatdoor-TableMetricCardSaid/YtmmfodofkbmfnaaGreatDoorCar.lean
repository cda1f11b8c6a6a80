/- A part of the proof of TableMetric. -/
import Init
import Derived.Test.YtmmfodofkbmfnaaGreatDoorCaq
set_option linter.unusedVariables false
set_option linter.unusedSimpArgs false
namespace Go.Opn
noncomputable section
structure cv where
 z:Int
 d:Nat
def cv.fi(r:cv):Prop:=0<r.d/\Nat.Coprime r.z.natAbs r.d
def a9(z:Int)(d:Nat):cv:=⟨z / ((Nat.gcd z.natAbs d:Nat):Int),d / Nat.gcd z.natAbs d⟩
theorem uw{z:Int}{d:Nat}(ax:0<d):∃(g e:Nat) (q:Int),0<g/\0<e/\z=g*q/\d=g*e/\Nat.Coprime q.natAbs e/\a9 z d=⟨q,e⟩/\g=Nat.gcd z.natAbs d:=by
 have ar:0<Nat.gcd z.natAbs d:=rF _ ax;obtain⟨e,he⟩:=te z.natAbs d;have a0:((Nat.gcd z.natAbs d:Nat):Int) ∣ z:=C6.2 (vf _ _);obtain⟨q,bY⟩:=a0;have aF:=Ax (m:=z.natAbs) (n:=d) ar;generalize da:Nat.gcd z.natAbs d=g at*;have U:z / (g:Int)=q:=by rw[bY];exact Int.mul_ediv_cancel_left _ (by omega)
 have ab:d / g=e:=by rw[he];exact Az _ ar
 have aV:z.natAbs / g=q.natAbs:=by rw[bY,iC,iD];exact Az _ ar
 have TE:0<e:=by
  rcases ke e with h|h
  ·rw[h] at he;omega
  ·exact h
 refine⟨g,e,q,ar,TE,bY,he,by rw[aV,ab] at aF;exact aF,?_,rfl⟩;unfold a9;rw[da,U,ab]
theorem jN{z:Int}{d:Nat}(ax:0<d):(a9 z d).fi:=by
 obtain⟨g,e,q,U,ab,aV,br,gq,hW,_⟩:=uw (z:=z) ax;rw[hW];exact⟨ab,gq⟩
theorem sD{z:Int}{d:Nat}(ax:0<d):(a9 z d).z*d=z*(a9 z d).d:=by
 obtain⟨g,e,q,U,ab,aV,br,gq,hW,_⟩:=uw (z:=z) ax;rw[hW,aV,br];show q*((g*e:Nat):Int)=(g:Int)*q*(e:Int);rw[gw];simp only[iB,jv,kV]
theorem cv.D9{r s:cv}(U:r.z=s.z)(ab:r.d=s.d):r=s:=by
 cases r;cases s;simp at U ab;subst U;subst ab;rfl
theorem Qr{r s:cv}(ap:r.fi)(ag:s.fi)(h:r.z*s.d=s.z*r.d):r=s:=by
 have aK:=ak Int.natAbs h;rw[iC,iC,iD,iD] at aK;have U:r.d ∣ s.d:=OU ap.2.symm ⟨s.z.natAbs,by rw[aK,lD]⟩;have ab:s.d ∣ r.d:=OU ag.2.symm ⟨r.z.natAbs,by rw[<-aK,lD]⟩;have e:=Nat.dvd_antisymm U ab;have ax:=ag.1;refine cv.D9 ?_ e;rw[e] at h;exact C5 (by omega) h
theorem sE{r:cv}{z:Int}{d:Nat}(ap:r.fi)(ax:0<d)(h:r.z*d=z*r.d):r=a9 z d:=by
 refine Qr ap (jN ax) ?_;have ab:=sD (z:=z) ax;have tS:(d:Int)≠0:=by omega
 refine C5 tS ?_
 calc r.z*(a9 z d).d*d=(r.z*d)*(a9 z d).d:=by simp only[iB,jv,kV]
  _=z*r.d*(a9 z d).d:=by rw[h]
  _=(z*(a9 z d).d)*r.d:=by simp only[iB,jv,kV]
  _=(a9 z d).z*d*r.d:=by rw[ab]
  _=(a9 z d).z*r.d*d:=by simp only[iB,jv,kV]
theorem zA{z w:Int}{d e:Nat}(ax:0<d)(he:0<e):a9 z d=a9 w e↔z*e=w*d:=by
 have U:=sD (z:=z) ax;have ab:=sD (z:=w) he;have bE:=jN (z:=z) ax;constructor
 ·intro h;rw[<-h] at ab;have j:((a9 z d).d:Int)≠0:=by have:=bE.1;omega
  refine C5 j ?_
  calc z*e*(a9 z d).d=(z*(a9 z d).d)*e:=by simp only[iB,jv,kV]
   _=(a9 z d).z*d*e:=by rw[U]
   _=((a9 z d).z*e)*d:=by simp only[iB,jv,kV]
   _=w*(a9 z d).d*d:=by rw[ab]
   _=w*d*(a9 z d).d:=by simp only[iB,jv,kV]
 ·intro h;refine sE bE he ?_;have j:(d:Int)≠0:=by omega
  refine C5 j ?_
  calc (a9 z d).z*e*d=((a9 z d).z*d)*e:=by simp only[iB,jv,kV]
   _=z*(a9 z d).d*e:=by rw[U]
   _=(z*e)*(a9 z d).d:=by simp only[iB,jv,kV]
   _=w*d*(a9 z d).d:=by rw[h]
   _=w*(a9 z d).d*d:=by simp only[iB,jv,kV]
theorem Ck{r:cv}(h:r.fi):a9 r.z r.d=r:=(sE h h.1 rfl).symm
theorem pN{d:Nat}(ax:0<d):a9 0 d=⟨0,1⟩:=(sE (r:=⟨0,1⟩) ⟨by decide,by decide⟩ ax (by simp)).symm
theorem zB{z:Int}{d:Nat}(ax:0<d):(0<(a9 z d).z↔0<z)/\((a9 z d).z<0↔z<0)/\((a9 z d).z=0↔z=0):=by
 obtain⟨g,e,q,U,ab,aV,br,gq,hW,_⟩:=uw (z:=z) ax;rw[hW,aV];have ar:(0:Int)<g:=by omega
 refine⟨⟨fun h=>Int.mul_pos ar h,fun h=>?_⟩,⟨fun h=>OE ar h,fun h=>?_⟩,⟨fun h=>?_,fun h=>?_⟩⟩
 ·rcases p8 0 q with k|k
  ·exact k
  ·have:=Int.mul_nonpos_of_nonneg_of_nonpos (Ao ar) k;omega
 ·rcases p8 q 0 with k|k
  ·exact k
  ·have:=u7 (Ao ar) k;omega
 ·show(g:Int)*q=0;have h:q=0:=h;rw[h,Int.mul_zero]
 ·show q=0;rcases Int.mul_eq_zero.1 h with k|k
  ·omega
  ·exact k
theorem Gm{z:Int}{d:Nat}(ax:0<d):(a9 z d).z.natAbs<=z.natAbs/\(a9 z d).d<=d:=by
 obtain⟨g,e,q,U,ab,aV,br,gq,hW,_⟩:=uw (z:=z) ax;rw[hW];constructor
 ·rw[aV,iC,iD];exact OZ _ U
 ·rw[br];exact OZ _ U
theorem Lo{dw dZ:Int}{u v:Nat}(U:Nat.Coprime dw.natAbs u)(ab:Nat.Coprime v u):Nat.Coprime (dw*v+dZ*u).natAbs u:=by
 have mE:=vf (dw*v+dZ*u).natAbs u;have pv:=te (dw*v+dZ*u).natAbs u;show Nat.gcd (dw*v+dZ*u).natAbs u=1;generalize Nat.gcd (dw*v+dZ*u).natAbs u=k at mE pv;have bP:(k:Int) ∣ dw*v+dZ*u:=C6.2 mE;have bS:(k:Int) ∣ dZ*u:=Int.dvd_trans (Int.natCast_dvd_natCast.2 pv) (Int.dvd_mul_left _ _);have cE:(k:Int) ∣ dw*v:=(Int.dvd_add_left bS).1 bP;have c4:k ∣ dw.natAbs*v:=by
  have:=C6.1 cE;rwa [iC,iD] at this
 have bE:Nat.Coprime k dw.natAbs:=(C' pv U).symm;have b8:Nat.Coprime k v:=(C' pv ab).symm;exact Nat.Coprime.eq_one_of_dvd (bE.mul_right b8) c4
theorem Vm{r s:cv}(ap:r.fi)(ag:s.fi){g u v h:Nat}{t q:Int}(ar:g=Nat.gcd r.d s.d)(hu:r.d=u*g)(aD:s.d=v*g)(aG:t=r.z*v+s.z*u)(cF:h=Nat.gcd t.natAbs g)(bY:t=q*h){w:Nat}(hw:s.d=w*h):(⟨q,u*w⟩:cv)=a9 (r.z*s.d+s.z*r.d) (r.d*s.d):=by
 have rd:=ap.1;have gM:=ag.1;have r8:0<g:=by rw[ar];exact OX _ rd
 have r9:0<h:=by rw[cF];exact rF _ r8
 have K2:Nat.Coprime u v:=by
  have:=Ax (m:=r.d) (n:=s.d) (by rw[<-ar];exact r8);rw[<-ar] at this;have aA:r.d / g=u:=by rw[hu];exact qe _ r8
  have aW:s.d / g=v:=by rw[aD];exact qe _ r8
  rwa [aA,aW] at this
 obtain⟨m,hm⟩:h ∣ g:=by rw[cF];exact te _ _
 have Bb:w=v*m:=by
  have:w*h=v*m*h:=by rw[<-hw,aD,hm,lD h m,rG]
  exact Nat.eq_of_mul_eq_mul_right r9 this
 have NC:t.natAbs=q.natAbs*h:=by rw[bY,iC,iD]
 have KV:q.natAbs ∣ t.natAbs:=⟨h,NC⟩;have bE:Nat.Coprime t.natAbs u:=by
  rw[aG];exact Lo (C' ⟨g,hu⟩ ap.2) K2.symm
 have b8:Nat.Coprime t.natAbs v:=by
  rw[aG,Int.add_comm];exact Lo (C' ⟨g,aD⟩ ag.2) K2
 have dj:Nat.Coprime q.natAbs m:=by
  have:=Ax (m:=t.natAbs) (n:=g) (by rw[<-cF];exact r9);rw[<-cF] at this;have aA:t.natAbs / h=q.natAbs:=by rw[NC];exact qe _ r9
  have aW:g / h=m:=by rw[hm];exact Az _ r9
  rwa [aA,aW] at this
 have UD:0<u:=by
  rcases ke u with k|k
  ·rw[k] at hu;omega
  ·exact k
 have UQ:0<w:=by
  rcases ke w with k|k
  ·rw[k] at hw;omega
  ·exact k
 refine sE ⟨gm UD UQ,?_⟩ (gm rd gM) ?_
 ·show Nat.Coprime q.natAbs (u*w);rw[Bb];exact(H2 KV bE).mul_right ((H2 KV b8).mul_right dj)
 ·show q*((r.d*s.d:Nat):Int)=(r.z*s.d+s.z*r.d)*((u*w:Nat):Int);have aA:(r.z*s.d+s.z*r.d:Int)=t*g:=by
   rw[aG,hu,aD,gw,gw,An];simp only[iB]
  rw[aA,bY,Bb];have aW:(s.d:Int)=v*(h*m):=by rw[aD,hm];simp
  rw[gw,aW,hu,hm];simp only[gw,iB,jv,kV]
theorem Vn{r s:cv}(ap:r.fi)(ag:s.fi){g h a c:Nat}{p q:Int}{b e:Nat}(ar:g=Nat.gcd r.z.natAbs s.d)(cF:h=Nat.gcd s.z.natAbs r.d)(a0:r.z≠0)(jq:s.z≠0)(U:r.z=p*g)(ab:s.z=q*h)(aV:r.d=b*h)(br:s.d=e*g):(⟨p*q,b*e⟩:cv)=a9 (r.z*s.z) (r.d*s.d):=by
 have rd:=ap.1;have gM:=ag.1;have r8:0<g:=by rw[ar];exact rF _ gM
 have r9:0<h:=by rw[cF];exact rF _ rd
 have cV:r.z.natAbs=p.natAbs*g:=by rw[U,iC,iD]
 have dn:s.z.natAbs=q.natAbs*h:=by rw[ab,iC,iD]
 have bE:Nat.Coprime p.natAbs e:=by
  have:=Ax (m:=r.z.natAbs) (n:=s.d) (by rw[<-ar];exact r8);rw[<-ar,cV,br,qe _ r8,qe _ r8] at this;exact this
 have b8:Nat.Coprime q.natAbs b:=by
  have:=Ax (m:=s.z.natAbs) (n:=r.d) (by rw[<-cF];exact r9);rw[<-cF,dn,aV,qe _ r9,qe _ r9] at this;exact this
 have dj:Nat.Coprime p.natAbs b:=(ap.2.coprime_dvd_left ⟨g,cV⟩).coprime_dvd_right ⟨h,aV⟩;have eg:Nat.Coprime q.natAbs e:=(ag.2.coprime_dvd_left ⟨h,dn⟩).coprime_dvd_right ⟨g,br⟩;have af:0<b:=by
  rcases ke b with k|k
  ·rw[k] at aV;omega
  ·exact k
 have he:0<e:=by
  rcases ke e with k|k
  ·rw[k] at br;omega
  ·exact k
 refine sE ⟨gm af he,?_⟩ (gm rd gM) ?_
 ·show Nat.Coprime (p*q).natAbs (b*e);rw[iC];exact(dj.mul_right bE).mul_left (b8.mul_right eg)
 ·show p*q*((r.d*s.d:Nat):Int)=r.z*s.z*((b*e:Nat):Int);rw[U,ab,aV,br];simp only[gw,iB,jv,kV]
end
end Go.Opn
namespace Go.Opn
noncomputable section
def bi:List Nat->Nat
 |[]=>0
 |x::l=>x+1000000000*bi l
def e5(l:List Nat):Prop:=∀x∈l,x<1000000000
def oX(l:List Nat):Prop:=e5 l/\∀x,l.getLast?=some x->x≠0
def aj(n:Nat):List Nat:=if h:n=0 then[] else n % 1000000000::aj (n / 1000000000)
termination_by n
decreasing_by omega
theorem ks:aj 0=[]:=by unfold aj;rfl
theorem pJ{n:Nat}(h:n≠0):aj n=n % 1000000000::aj (n / 1000000000):=by rw[aj];rw[dif_neg h]
theorem gj:∀n:Nat,bi (aj n)=n:=by
 intro n;induction n using Nat.strongRecOn with
 |_ n aN=>
  by_cases h:n=0
  ·subst h;rw[ks];rfl
  ·rw[pJ h];show n % 1000000000+1000000000*bi (aj (n / 1000000000))=n;rw[aN _ (by omega)];omega
theorem i':∀n:Nat,e5 (aj n):=by
 intro n;induction n using Nat.strongRecOn with
 |_ n aN=>
  by_cases h:n=0
  ·subst h;rw[ks];intro x j;cases j
  ·rw[pJ h];intro x j;rcases fy.1 j with rfl|j
   ·omega
   ·exact aN _ (by omega) x j
theorem zk:∀(n:Nat) (x:Nat),(aj n).getLast?=some x->x≠0:=by
 intro n;induction n using Nat.strongRecOn with
 |_ n aN=>
  intro x j;by_cases h:n=0
  ·subst h;rw[ks] at j;cases j
  ·rw[pJ h] at j;by_cases ab:n / 1000000000=0
   ·rw[ab,ks] at j;have j:n % 1000000000=x:=by simpa using j
    omega
   ·rw[pJ ab,ON,<-pJ ab] at j;exact aN _ (by omega) x j
theorem AY(n:Nat):oX (aj n):=⟨i' n,zk n⟩
theorem e5.tail{x:Nat}{l:List Nat}(h:e5 (x::l)):e5 l:=fun y aC=>h y (.tail _ aC)
theorem DO{x:Nat}{l:List Nat}(h:oX (x::l)):oX l:=⟨h.1.tail,fun y aC=>by
 cases l with
 |nil=>cases aC
 |cons z l=>exact h.2 y (by rw[ON];exact aC)⟩
theorem NS:∀{l:List Nat},oX l->bi l=0->l=[]
 |[],_,_=>rfl
 |x::l,h,a2=>by
  have a2:x+1000000000*bi l=0:=a2;have:=NS (DO h) (by omega);subst this;exact absurd (show x=0 by omega) (h.2 x rfl)
theorem AZ:∀{l:List Nat},oX l->l=aj (bi l)
 |[],_=>by show[]=aj 0;rw[ks]
 |x::l,h=>by
  have j:=h.1 x (.head _);have aN:=AZ (DO h);have aE:bi (x::l)≠0:=fun q=>by have:=NS h q;cases this
  rw[pJ aE];have aA:bi (x::l) % 1000000000=x:=by show(x+1000000000*bi l) % 1000000000=x;omega
  have aW:bi (x::l) / 1000000000=bi l:=by show(x+1000000000*bi l) / 1000000000=bi l;omega
  rw[aA,aW,<-aN]
theorem z2:∀(a b:List Nat),bi (a++b)=bi a+1000000000 ^ a.length*bi b
 |[],b=>by show bi b=0+1*bi b;omega
 |x::a,b=>by
  show x+1000000000*bi (a++b)=x+1000000000*bi a+1000000000 ^ (a.length+1)*bi b;rw[z2 a b,kE,m4,rG,H3,H9]
theorem CS(x:Nat):bi [x]=x:=by show x+1000000000*0=x;omega
theorem uV:∀{l:List Nat},e5 l->bi l<1000000000 ^ l.length
 |[],_=>by decide
 |x::l,h=>by
  have aN:=uV h.tail;have j:=h x (.head _);show x+1000000000*bi l<1000000000 ^ (l.length+1);rw[m4];omega
theorem NO{l:List Nat}(h:oX l)(aE:l≠[]):1000000000 ^ (l.length -1)<=bi l:=by
 have e:=List.dropLast_concat_getLast aE;have a2:l.getLast aE≠0:=h.2 _ (List.getLast?_eq_some_getLast aE);rw[<-e,z2,CS,hP,xx,Nat.add_sub_cancel];have:1000000000 ^ l.dropLast.length*1<=1000000000 ^ l.dropLast.length*l.getLast aE:=H8 _ (by omega);omega
theorem z4{l:List Nat}{i x:Nat}(h:l[i]?=some x):bi (l.take (i+1))=bi (l.take i)+1000000000 ^ i*x:=by
 have aq:=(h4.1 h).1;rw[xA,h,Option.toList_some,z2,CS,hQ,h5 (by omega)]
theorem z3{l:List Nat}{i x:Nat}(h:l[i]?=some x):bi (l.drop i)=x+1000000000*bi (l.drop (i+1)):=by
 have aq:=(h4.1 h).1;have j:l[i]=x:=by rw[fx aq] at h;injection h
 rw[HP aq,j];rfl
theorem xc(l:List Nat)(i:Nat)(aq:i<=l.length):bi l=bi (l.take i)+1000000000 ^ i*bi (l.drop i):=by
 have:=z2 (l.take i) (l.drop i);rwa [List.take_append_drop,hQ,h5 aq] at this
theorem NP{l:List Nat}{i x y:Nat}(h:l[i]?=some x):bi (l.set i y)+1000000000 ^ i*x=bi l+1000000000 ^ i*y:=by
 have aq:=(h4.1 h).1;have aA:=xc l i (by omega);have aW:=xc (l.set i y) i (by rw[rB];omega);rw[List.take_set_of_le (c9 i),z3 (i:=i) (x:=y) (by rw[List.getElem?_set,bs rfl,bs aq]),List.drop_set_of_lt (by omega)] at aW;rw[z3 h] at aA;rw[aA,aW,kE,kE];omega
theorem Cm{l:List Nat}{i y:Nat}(h:e5 l)(aC:y<1000000000):e5 (l.set i y):=fun x j=>by
 rcases List.mem_or_eq_of_mem_set j with q|q
 ·exact h x q
 ·omega
theorem Mf{a b:List Nat}(U:e5 a)(ab:e5 b):e5 (a++b):=fun x j=>by
 rcases m3.1 j with q|q
 ·exact U x q
 ·exact ab x q
theorem Gv{l:List Nat}{i:Nat}(h:e5 l):e5 (l.take i):=fun x j=>h x (List.mem_of_mem_take j)
theorem WI{l:List Nat}{i:Nat}(h:e5 l):e5 (l.drop i):=fun x j=>h x (List.mem_of_mem_drop j)
theorem oK{l:List Nat}{i x:Nat}(h:e5 l)(j:l[i]?=some x):x<1000000000:=h x (nZ j)
theorem Mh{n:Nat}:e5 (List.replicate n 0):=fun x j=>by rw[OK j];decide
theorem NT:∀n:Nat,bi (List.replicate n 0)=0
 |0=>rfl
 |n+1=>by rw[List.replicate_succ];show 0+1000000000*bi (List.replicate n 0)=0;rw[NT n]
theorem NQ{a b:List Nat}(aK:e5 a)(af:oX b)(h:a.length<b.length):bi a<bi b:=by
 have U:=uV aK;have ab:=NO af (fun q=>by rw[q] at h;exact Nat.not_lt_zero _ h);have aV:1000000000 ^ a.length<=1000000000 ^ (b.length -1):=xD (by decide) (by omega);omega
theorem ZV{a b:List Nat}{i x y:Nat}(aK:e5 a)(j:a[i]?=some x)(aC:b[i]?=some y)(ax:a.drop (i+1)=b.drop (i+1))(h:x<y):bi a<bi b:=by
 have acd:=(h4.1 j).1;have ace:=(h4.1 aC).1;have aA:=xc a (i+1) (by omega);have aW:=xc b (i+1) (by omega);rw[z4 j,ax] at aA;rw[z4 aC] at aW;have U:=uV (Gv (i:=i) aK);rw[hQ,h5 (by omega)] at U;have ab:1000000000 ^ i*(x+1)<=1000000000 ^ i*y:=H8 _ h;rw[kE,iE] at ab;generalize 1000000000 ^ (i+1)*bi (b.drop (i+1))=R at aA aW;generalize 1000000000 ^ i*x=X at aA ab;generalize 1000000000 ^ i*y=Y at aW ab;omega
end
end Go.Opn
namespace Go.Cre
noncomputable section
open Go.RowKit
open Classical
structure eF (P:Program) where
 ok:(Nat->Prop)->World->Prop
 up:∀B w0 gk gB,ok B w0->(∀k,B k->gk k)->Kept B w0 gB->ok gk gB
def iH (c:Code)(S:aO)(H:ah)(r:Exit×aO×ah):Code->aO->ah->Option (Exit×aO×ah):=fun bo aB H'=>if bo=c/\aB=S/\H'=H then some r else none
def nc (f:FuncId)(args:List Value)(H:ah)(r:Ending×ah):dI:=fun cd bJ H'=>if cd=f/\bJ=args/\H'=H then some r else none
def c2{P:Program}(Q:eF P)(c:Code)(S:aO)(H:ah)(e:Exit)(aB:aO)(H':ah):Prop:=∀B w0,Q.ok B w0->m0 P B w0 (iH c S H (e,aB,H'))
def iA{P:Program}(Q:eF P)(f:FuncId)(args:List Value)(H:ah)(e:Ending)(H':ah):Prop:=∀B w0,Q.ok B w0->lA P B w0 (nc f args H (e,H'))
def n5 {P:Program}(Q:eF P)(pick:Code->aO->ah->Option (Exit×aO×ah)):Code->aO->ah->Option (Exit×aO×ah):=fun c S H=>match pick c S H with
 |some (e,aB,H')=>if c2 Q c S H e aB H' then some (e,aB,H') else none
 |none=>none
def hs {P:Program}(Q:eF P)(pick:dI):dI:=fun f args H=>match pick f args H with
 |some (e,H')=>if iA Q f args H e H' then some (e,H') else none
 |none=>none
section
variable {P:Program}{Q:eF P}{B:Nat->Prop}{w0:World}
theorem vn(pick:Code->aO->ah->Option (Exit×aO×ah))(eQ:Q.ok B w0):m0 P B w0 (n5 Q pick):=by
 intro c S H e aB H' he;unfold n5 at he;split at he
 ·split at he
  ·rename_i et;simp only[bL,cU] at he;obtain⟨rfl,rfl,rfl⟩:=he;exact et B w0 eQ c S H _ _ _ (by unfold iH;rw[bs ⟨rfl,rfl,rfl⟩])
  ·cases he
 ·cases he
theorem DK(pick:dI)(eQ:Q.ok B w0):lA P B w0 (hs Q pick):=by
 intro f args H e H' he;unfold hs at he;split at he
 ·split at he
  ·rename_i et;simp only[bL,cU] at he;obtain⟨rfl,rfl⟩:=he;exact et B w0 eQ f args H _ _ (by unfold nc;rw[bs ⟨rfl,rfl,rfl⟩])
  ·cases he
 ·cases he
def gl {P:Program}(Q:eF P)(eR:Code->aO->ah->Option (Exit×aO×ah))(bx:dI):eC:=
 ⟨n5 Q eR,fun f args bu a7 H=>if bu=true then none else match hs Q bx f args H with|some (e,H')=>some (e,a7,H')|none=>none⟩
theorem C4(eR:Code->aO->ah->Option (Exit×aO×ah))(bx:dI):(gl Q eR bx).call=hs Q bx:=by
 funext f args H
 unfold eC.call gl;simp only[Aj,zd];cases hs Q bx f args H with
 |none=>rfl
 |some p=>rfl
theorem c2.sF(kO:P.follows .mixedOrders=true){c:Code}{S aB:aO}{H H':ah}{e:Exit}(eR:Code->aO->ah->Option (Exit×aO×ah))(bx:dI)(h:A5 P (gl Q eR bx) c S H=some (e,aB,H')):c2 Q c S H e aB H':=by
 intro B w0 eQ;have e3:∀(gk:Nat->Prop) (gB:World),(∀k,B k->gk k)->Kept B w0 gB->Q.ok gk gB:=fun gk gB a b=>Q.up B w0 gk gB eQ a b;have aF:∀(gk:Nat->Prop) (gB:World),Q.ok gk gB->m0 P gk gB (gl Q eR bx).code:=fun gk gB q=>vn eR q;have hk:∀(gk:Nat->Prop) (gB:World),Q.ok gk gB->lA P gk gB (gl Q eR bx).call:=fun gk gB q=>by rw[C4];exact DK bx q
 have ag:=Jr (P:=P) (B:=B) (w0:=w0) (E:=gl Q eR bx) kO (aF B w0 eQ) (fun gk gB a b=>hk gk gB (e3 gk gB a b)) (fun gk gB a b=>CW (aF gk gB (e3 gk gB a b))) (MO (hk B w0 eQ));intro bE aY H1 aA Ik Al he;unfold iH at he;split at he
 ·rename_i q;obtain⟨rfl,rfl,rfl⟩:=q;simp only[bL,cU] at he;obtain⟨rfl,rfl,rfl⟩:=he;exact ag _ _ _ _ _ _ h
 ·cases he
theorem Qs{c:Code}{S aB:aO}{H H':ah}{e:Exit}(h:c2 Q c S H e aB H'){eR:Code->aO->ah->Option (Exit×aO×ah)}(ao:eR c S H=some (e,aB,H')):n5 Q eR c S H=some (e,aB,H'):=by
 unfold n5;rw[ao];simp only;rw[bs h]
theorem AT{f:FuncId}{args:List Value}{H H':ah}{e:Ending}(h:iA Q f args H e H'){bx:dI}(ao:bx f args H=some (e,H')):hs Q bx f args H=some (e,H'):=by
 unfold hs;rw[ao];simp only;rw[bs h]
def hB:Code->aO->ah->Option (Exit×aO×ah):=fun _ _ _=>none
def jM:dI:=fun _ _ _=>none
theorem c2.skip(kO:P.follows .mixedOrders=true){S:aO}{H:ah}:c2 Q .skip S H .normal S H:=c2.sF kO hB jM rfl
theorem c2.ret(kO:P.follows .mixedOrders=true){S:aO}{H:ah}:c2 Q .ret S H .ret S H:=c2.sF kO hB jM rfl
theorem c2.exit(kO:P.follows .mixedOrders=true){S:aO}{H:ah}{id:Nat}:c2 Q (.exit id) S H (.exit id) S H:=c2.sF kO hB jM rfl
theorem c2.mk{c:Code}{S aB:aO}{H H':ah}{e:Exit}(h:∀B w0,Q.ok B w0->∀μ w fr tmps ds cs k it,bz P B w0 μ H w->fZ μ S fr tmps ds cs->rK c it->iS P B w0 μ H S fr cs (lone (bj fr tmps ds (it::k)) cs w) k aB H' e):c2 Q c S H e aB H':=by
 intro B w0 eQ bE aY H1 aA Ik Al he;unfold iH at he;split at he
 ·rename_i q;obtain⟨rfl,rfl,rfl⟩:=q;simp only[bL,cU] at he;obtain⟨rfl,rfl,rfl⟩:=he;exact h B w0 eQ
 ·cases he
theorem c2.use{c:Code}{S aB:aO}{H H':ah}{e:Exit}(h:c2 Q c S H e aB H')(eQ:Q.ok B w0){μ:bm}{w:World}{fr:Frame}{tmps:Array Value}{ds:List Deferred}{cs:List Frame}{k:List Item}{it:Item}(k5:bz P B w0 μ H w)(cg:fZ μ S fr tmps ds cs)(ag:rK c it):
 iS P B w0 μ H S fr cs (lone (bj fr tmps ds (it::k)) cs w) k aB H' e:=h B w0 eQ c S H e aB H' (by unfold iH;rw[bs ⟨rfl,rfl,rfl⟩]) μ w fr tmps ds cs k it k5 cg ag
theorem rK.plain{c:Code}{it:Item}(h:rK c it)(aE:∀bo,c≠.loop bo):it=.code c:=by
 rcases h with q|⟨bo,q,_⟩
 ·exact q
 ·exact absurd q (aE bo)
theorem c2.seq{a b:Code}{S aY e0:aO}{H H1 bG:ah}{e:Exit}(U:c2 Q a S H .normal aY H1)(ab:c2 Q b aY H1 e e0 bG):c2 Q (.seq a b) S H e e0 bG:=by
 refine .mk fun B w0 eQ μ w fr tmps ds cs k it k5 cg ag=>?_;obtain rfl:=ag.plain (fun _ q=>by cases q);exact((U.use (k:=.code b::k) eQ k5 cg (.inl rfl)).bind fun d' bc t1 d1 eP iM=>ab.use eQ iM.h iM.f (.inl rfl)).steps (.one GZ)
theorem c2.zS{a b:Code}{S aY:aO}{H H1:ah}{e:Exit}(U:c2 Q a S H e aY H1)(aE:e≠.normal):c2 Q (.seq a b) S H e aY H1:=by
 refine .mk fun B w0 eQ μ w fr tmps ds cs k it k5 cg ag=>?_;obtain rfl:=ag.plain (fun _ q=>by cases q);exact((U.use (k:=.code b::k) eQ k5 cg (.inl rfl)).steps (.one GZ)).pass (fun id _=>rfl) aE
theorem rK.loop{c:Code}{it:Item}(h:rK (.loop c) it){fr:Frame}{tmps:Array Value}{ds:List Deferred}{cs:List Frame}{k:List Item}{w:World}:step P (lone (bj fr tmps ds (it::k)) cs w)=.next (lone (bj fr tmps ds (.code c::.inLoop c::k)) cs w):=by
 rcases h with rfl|⟨bo,q,rfl⟩
 ·exact Nm
 ·injection q with q;subst q;exact Nl
theorem c2.LG{c:Code}{S aY e0:aO}{H H1 bG:ah}{e:Exit}(U:c2 Q c S H .normal aY H1)(ab:c2 Q (.loop c) aY H1 e e0 bG):c2 Q (.loop c) S H e e0 bG:=by
 refine .mk fun B w0 eQ μ w fr tmps ds cs k it k5 cg ag=>?_;exact((U.use (k:=.inLoop c::k) eQ k5 cg (.inl rfl)).bind fun d' bc t1 d1 eP iM=>ab.use eQ iM.h iM.f (.inr ⟨c,rfl,rfl⟩)).steps (.one ag.loop)
theorem c2.pK{c:Code}{S aY:aO}{H H1:ah}{e:Exit}(U:c2 Q c S H e aY H1)(aE:e≠.normal):c2 Q (.loop c) S H e aY H1:=by
 refine .mk fun B w0 eQ μ w fr tmps ds cs k it k5 cg ag=>?_;exact((U.use (k:=.inLoop c::k) eQ k5 cg (.inl rfl)).steps (.one ag.loop)).pass (fun id _=>rfl) aE
theorem vm{c:Code}{S aB:aO}{H H':ah}{e:Exit}(h:c2 Q c S H e aB H'):n5 Q (iH c S H (e,aB,H')) c S H=some (e,aB,H'):=Qs h (by unfold iH;rw[bs ⟨rfl,rfl,rfl⟩])
theorem c2.cond(kO:P.follows .mixedOrders=true){x:Operand}{a b:Code}{t:Bool}{S aB:aO}{H H':ah}{e:Exit}(j:aR S.T H x=some (.bool t))(h:c2 Q (if t=true then a else b) S H e aB H'):c2 Q (.cond x a b) S H e aB H':=by
 cases t with
 |true=>
  refine c2.sF kO (iH a S H (e,aB,H')) jM ?_;show AR _ S H a b (aR S.T H x)=_;rw[j];exact vm h
 |false=>
  refine c2.sF kO (iH b S H (e,aB,H')) jM ?_;show AR _ S H a b (aR S.T H x)=_;rw[j];exact vm h
theorem c2.block(kO:P.follows .mixedOrders=true){id:Nat}{c:Code}{S aB:aO}{H H':ah}{e:Exit}(h:c2 Q c S H e aB H'):c2 Q (.block id c) S H (match e with|.exit aa=>if aa=id then .normal else .exit aa|e=>e) aB H':=by
 refine c2.sF kO (iH c S H (e,aB,H')) jM ?_;show DJ id (n5 Q (iH c S H (e,aB,H')) c S H)=_;rw[vm h];cases e with
 |exit aa=>
  show(bif Nat.beq aa id then some (Exit.normal,aB,H') else some (Exit.exit aa,aB,H'))=_;by_cases aX:aa=id
  ·subst aX;simp
  ·have:Nat.beq aa id=false:=by
    cases q:Nat.beq aa id
    ·rfl
    ·exact absurd (dB q) aX
   rw[this,cZ];simp[aX]
 |_=>rfl
theorem OB(eR:Code->aO->ah->Option (Exit×aO×ah))(bx:dI):oY P B w0 (gl Q eR bx).body:=by
 intro f args a7 H e eS H' he;unfold gl at he;simp at he
theorem iA.cH{eo:aL Func}(dN:n1 P eo){f:FuncId}{args:List Value}{H H':ah}{e:Ending}{a7:FrameMode}(eR:Code->aO->ah->Option (Exit×aO×ah))(bx:dI)(h:nh P eo (gl Q eR bx) f args false .run H=some (e,a7,H')):iA Q f args H e H':=by
 intro B w0 eQ f1 o7 H1 aA Al he;unfold nc at he;split at he
 ·rename_i q;obtain⟨rfl,rfl,rfl⟩:=q;simp only[bL,cU] at he;obtain⟨rfl,rfl⟩:=he;exact DY (E:=gl Q eR bx) dN (vn eR eQ) (OB eR bx) f1 o7 H1 _ _ (by unfold eC.call;simp only;rw[h])
 ·cases he
theorem iA.run{eo:aL Func}(dN:n1 P eo){f:FuncId}{fn:Func}{c:Code}{args:List Value}{T:aL Value}{H H1 H':ah}{aY:aO}{x:Exit}{e:Ending}{a7:FrameMode}(ay:eo.get f=some fn)(af:fn.body=some c)(aK:ki args 0 (blank fn.ntmps)=some T)
 (aF:c2 Q c ⟨T,fn.ntmps,[],false,.run,none⟩ H x aY H1)(he:ql P (gl Q (iH c ⟨T,fn.ntmps,[],false,.run,none⟩ H (x,aY,H1)) jM) fn (some (x,aY,H1))=some (e,a7,H')):iA Q f args H e H':=by
 refine iA.cH dN (iH c ⟨T,fn.ntmps,[],false,.run,none⟩ H (x,aY,H1)) jM (a7:=a7) ?_;unfold nh;rw[ay];show xM P _ f fn args false .run H fn.body=_;rw[af];show xN P _ fn c false .run H (ki args 0 (blank fn.ntmps))=_;rw[aK];show ql P _ fn (n5 Q _ c ⟨T,fn.ntmps,[],false,.run,none⟩ H)=_;rw[vm aF];exact he
end
end
end Go.Cre
namespace Go.Cre
noncomputable section
open Go.RowKit
def aL.has{α:Type}(T:aL α)(n:Nat):Prop:=∀t,t<n->∃v,T.get t=some v
end
end Go.Cre

/- A part of the proof of TableLosses. -/
import Init
import Derived.Test.YtjbbbehaciogcaaGreatDoorCak
set_option linter.unusedVariables false
set_option linter.unusedSimpArgs false
namespace Go.Opn
noncomputable section
structure bx where
 z:Int
 d:Nat
def bx.hG(r:bx):Prop:=0<r.d/\Nat.Coprime r.z.natAbs r.d
def bk(z:Int)(d:Nat):bx:=⟨z / ((Nat.gcd z.natAbs d:Nat):Int),d / Nat.gcd z.natAbs d⟩
theorem Jp{z:Int}{d:Nat}(au:0<d):∃(g e:Nat) (q:Int),0<g/\0<e/\z=g*q/\d=g*e/\Nat.Coprime q.natAbs e/\bk z d=⟨q,e⟩/\g=Nat.gcd z.natAbs d:=by
 have ay:0<Nat.gcd z.natAbs d:=xb _ au;obtain⟨e,he⟩:=nQ z.natAbs d;have aM:((Nat.gcd z.natAbs d:Nat):Int) ∣ z:=sq.2 (lE _ _);obtain⟨q,bQ⟩:=aM;have aC:=KQ (m:=z.natAbs) (n:=d) ay;generalize ch:Nat.gcd z.natAbs d=g at*;have ad:z / (g:Int)=q:=by rw[bQ];exact Int.mul_ediv_cancel_left _ (by omega)
 have ae:d / g=e:=by rw[he];exact xc _ ay
 have aD:z.natAbs / g=q.natAbs:=by rw[bQ,mR,iC];exact xc _ ay
 have ann:0<e:=by
  rcases jq e with h|h
  ·rw[h] at he;omega
  ·exact h
 refine⟨g,e,q,ay,ann,bQ,he,by rw[aD,ae] at aC;exact aC,?_,rfl⟩;unfold bk;rw[ch,ad,ae]
theorem me{z:Int}{d:Nat}(au:0<d):(bk z d).hG:=by
 obtain⟨g,e,q,ad,ae,aD,a6,eM,fH,_⟩:=Jp (z:=z) au;rw[fH];exact⟨ae,eM⟩
theorem yI{z:Int}{d:Nat}(au:0<d):(bk z d).z*d=z*(bk z d).d:=by
 obtain⟨g,e,q,ad,ae,aD,a6,eM,fH,_⟩:=Jp (z:=z) au;rw[fH,aD,a6];show q*((g*e:Nat):Int)=(g:Int)*q*(e:Int);rw[gY];simp only[kC,k8,pG]
theorem bx.QO{r s:bx}(ad:r.z=s.z)(ae:r.d=s.d):r=s:=by
 cases r;cases s;simp at ad ae;subst ad;subst ae;rfl
theorem aiv{r s:bx}(ao:r.hG)(hs:s.hG)(h:r.z*s.d=s.z*r.d):r=s:=by
 have aF:=cC Int.natAbs h;rw[mR,mR,iC,iC] at aF;have ad:r.d ∣ s.d:=afX ao.2.symm ⟨s.z.natAbs,by rw[aF,dP]⟩;have ae:s.d ∣ r.d:=afX hs.2.symm ⟨r.z.natAbs,by rw[<-aF,dP]⟩;have e:=OW ad ae;have au:=hs.1;refine bx.QO ?_ e;rw[e] at h;exact Gk (by omega) h
theorem Ao{r:bx}{z:Int}{d:Nat}(ao:r.hG)(au:0<d)(h:r.z*d=z*r.d):r=bk z d:=by
 refine aiv ao (me au) ?_;have ae:=yI (z:=z) au;have B0:(d:Int)≠0:=by omega
 refine Gk B0 ?_
 calc r.z*(bk z d).d*d=(r.z*d)*(bk z d).d:=by simp only[kC,k8,pG]
  _=z*r.d*(bk z d).d:=by rw[h]
  _=(z*(bk z d).d)*r.d:=by simp only[kC,k8,pG]
  _=(bk z d).z*d*r.d:=by rw[ae]
  _=(bk z d).z*r.d*d:=by simp only[kC,k8,pG]
theorem T2{z w:Int}{d e:Nat}(au:0<d)(he:0<e):bk z d=bk w e↔z*e=w*d:=by
 have ad:=yI (z:=z) au;have ae:=yI (z:=w) he;have bb:=me (z:=z) au;constructor
 ·intro h;rw[<-h] at ae;have aa:((bk z d).d:Int)≠0:=by have:=bb.1;omega
  refine Gk aa ?_
  calc z*e*(bk z d).d=(z*(bk z d).d)*e:=by simp only[kC,k8,pG]
   _=(bk z d).z*d*e:=by rw[ad]
   _=((bk z d).z*e)*d:=by simp only[kC,k8,pG]
   _=w*(bk z d).d*d:=by rw[ae]
   _=w*d*(bk z d).d:=by simp only[kC,k8,pG]
 ·intro h;refine Ao bb he ?_;have aa:(d:Int)≠0:=by omega
  refine Gk aa ?_
  calc (bk z d).z*e*d=((bk z d).z*d)*e:=by simp only[kC,k8,pG]
   _=z*(bk z d).d*e:=by rw[ad]
   _=(z*e)*(bk z d).d:=by simp only[kC,k8,pG]
   _=w*d*(bk z d).d:=by rw[h]
   _=w*(bk z d).d*d:=by simp only[kC,k8,pG]
theorem No{r:bx}(h:r.hG):bk r.z r.d=r:=(Ao h h.1 rfl).symm
theorem yJ{d:Nat}(au:0<d):bk 0 d=⟨0,1⟩:=(Ao (r:=⟨0,1⟩) ⟨by decide,by decide⟩ au (by simp)).symm
theorem Nq{z:Int}{d:Nat}(au:0<d):(0<(bk z d).z↔0<z)/\((bk z d).z<0↔z<0)/\((bk z d).z=0↔z=0):=by
 obtain⟨g,e,q,ad,ae,aD,a6,eM,fH,_⟩:=Jp (z:=z) au;rw[fH,aD];have ay:(0:Int)<g:=by omega
 refine⟨⟨fun h=>OG ay h,fun h=>?_⟩,⟨fun h=>VU ay h,fun h=>?_⟩,⟨fun h=>?_,fun h=>?_⟩⟩
 ·rcases vh 0 q with k|k
  ·exact k
  ·have:=Int.mul_nonpos_of_nonneg_of_nonpos (vg ay) k;omega
 ·rcases vh q 0 with k|k
  ·exact k
  ·have:=k9 (vg ay) k;omega
 ·show(g:Int)*q=0;have h:q=0:=h;rw[h,VV]
 ·show q=0;rcases VS.1 h with k|k
  ·omega
  ·exact k
theorem Np{z:Int}{d:Nat}(au:0<d):(bk z d).z.natAbs<=z.natAbs/\(bk z d).d<=d:=by
 obtain⟨g,e,q,ad,ae,aD,a6,eM,fH,_⟩:=Jp (z:=z) au;rw[fH];constructor
 ·rw[aD,mR,iC];exact af4 _ ad
 ·rw[a6];exact af4 _ ad
theorem aaB{e' fj:Int}{u v:Nat}(ad:Nat.Coprime e'.natAbs u)(ae:Nat.Coprime v u):Nat.Coprime (e'*v+fj*u).natAbs u:=by
 have z4:=lE (e'*v+fj*u).natAbs u;have rW:=nQ (e'*v+fj*u).natAbs u;show Nat.gcd (e'*v+fj*u).natAbs u=1;generalize Nat.gcd (e'*v+fj*u).natAbs u=k at z4 rW;have ba:(k:Int) ∣ e'*v+fj*u:=sq.2 z4;have bd:(k:Int) ∣ fj*u:=Int.dvd_trans (vi.2 rW) (Int.dvd_mul_left _ _);have cm:(k:Int) ∣ e'*v:=(Int.dvd_add_left bd).1 ba;have cQ:k ∣ e'.natAbs*v:=by
  have:=sq.1 cm;rwa [mR,iC] at this
 have bb:Nat.Coprime k e'.natAbs:=(OT rW ad).symm;have br:Nat.Coprime k v:=(OT rW ae).symm;exact Nat.Coprime.eq_one_of_dvd (bb.mul_right br) cQ
theorem apW{r s:bx}(ao:r.hG)(hs:s.hG){g u v h:Nat}{t q:Int}(ay:g=Nat.gcd r.d s.d)(hu:r.d=u*g)(av:s.d=v*g)(aI:t=r.z*v+s.z*u)(dh:h=Nat.gcd t.natAbs g)(bQ:t=q*h){w:Nat}(hw:s.d=w*h):(⟨q,u*w⟩:bx)=bk (r.z*s.d+s.z*r.d) (r.d*s.d):=by
 have rd:=ao.1;have h0:=hs.1;have z2:0<g:=by rw[ay];exact af2 _ rd
 have z3:0<h:=by rw[dh];exact xb _ z2
 have IH:Nat.Coprime u v:=by
  have:=KQ (m:=r.d) (n:=s.d) (by rw[<-ay];exact z2);rw[<-ay] at this;have ax:r.d / g=u:=by rw[hu];exact tD _ z2
  have aS:s.d / g=v:=by rw[av];exact tD _ z2
  rwa [ax,aS] at this
 obtain⟨m,hm⟩:h ∣ g:=by rw[dh];exact nQ _ _
 have pZ:w=v*m:=by
  have:w*h=v*m*h:=by rw[<-hw,av,hm,dP h m,fy]
  exact Nat.eq_of_mul_eq_mul_right z3 this
 have aem:t.natAbs=q.natAbs*h:=by rw[bQ,mR,iC]
 have ZS:q.natAbs ∣ t.natAbs:=⟨h,aem⟩;have bb:Nat.Coprime t.natAbs u:=by
  rw[aI];exact aaB (OT ⟨g,hu⟩ ao.2) IH.symm
 have br:Nat.Coprime t.natAbs v:=by
  rw[aI,Int.add_comm];exact aaB (OT ⟨g,av⟩ hs.2) IH
 have cc:Nat.Coprime q.natAbs m:=by
  have:=KQ (m:=t.natAbs) (n:=g) (by rw[<-dh];exact z3);rw[<-dh] at this;have ax:t.natAbs / h=q.natAbs:=by rw[aem];exact tD _ z3
  have aS:g / h=m:=by rw[hm];exact xc _ z3
  rwa [ax,aS] at this
 have aoT:0<u:=by
  rcases jq u with k|k
  ·rw[k] at hu;omega
  ·exact k
 have ao9:0<w:=by
  rcases jq w with k|k
  ·rw[k] at hw;omega
  ·exact k
 refine Ao ⟨jr aoT ao9,?_⟩ (jr rd h0) ?_
 ·show Nat.Coprime q.natAbs (u*w);rw[pZ];exact(afW ZS bb).mul_right ((afW ZS br).mul_right cc)
 ·show q*((r.d*s.d:Nat):Int)=(r.z*s.d+s.z*r.d)*((u*w:Nat):Int);have ax:(r.z*s.d+s.z*r.d:Int)=t*g:=by
   rw[aI,hu,av,gY,gY,ry];simp only[kC]
  rw[ax,bQ,pZ];have aS:(s.d:Int)=v*(h*m):=by rw[av,hm];simp
  rw[gY,aS,hu,hm];simp only[gY,kC,k8,pG]
theorem apX{r s:bx}(ao:r.hG)(hs:s.hG){g h a c:Nat}{p q:Int}{b e:Nat}(ay:g=Nat.gcd r.z.natAbs s.d)(dh:h=Nat.gcd s.z.natAbs r.d)(aM:r.z≠0)(hg:s.z≠0)(ad:r.z=p*g)(ae:s.z=q*h)(aD:r.d=b*h)(a6:s.d=e*g):(⟨p*q,b*e⟩:bx)=bk (r.z*s.z) (r.d*s.d):=by
 have rd:=ao.1;have h0:=hs.1;have z2:0<g:=by rw[ay];exact xb _ h0
 have z3:0<h:=by rw[dh];exact xb _ rd
 have b1:r.z.natAbs=p.natAbs*g:=by rw[ad,mR,iC]
 have df:s.z.natAbs=q.natAbs*h:=by rw[ae,mR,iC]
 have bb:Nat.Coprime p.natAbs e:=by
  have:=KQ (m:=r.z.natAbs) (n:=s.d) (by rw[<-ay];exact z2);rw[<-ay,b1,a6,tD _ z2,tD _ z2] at this;exact this
 have br:Nat.Coprime q.natAbs b:=by
  have:=KQ (m:=s.z.natAbs) (n:=r.d) (by rw[<-dh];exact z3);rw[<-dh,df,aD,tD _ z3,tD _ z3] at this;exact this
 have cc:Nat.Coprime p.natAbs b:=(ao.2.coprime_dvd_left ⟨g,b1⟩).coprime_dvd_right ⟨h,aD⟩;have ej:Nat.Coprime q.natAbs e:=(hs.2.coprime_dvd_left ⟨h,df⟩).coprime_dvd_right ⟨g,a6⟩;have ai:0<b:=by
  rcases jq b with k|k
  ·rw[k] at aD;omega
  ·exact k
 have he:0<e:=by
  rcases jq e with k|k
  ·rw[k] at a6;omega
  ·exact k
 refine Ao ⟨jr ai he,?_⟩ (jr rd h0) ?_
 ·show Nat.Coprime (p*q).natAbs (b*e);rw[mR];exact(cc.mul_right bb).mul_left (br.mul_right ej)
 ·show p*q*((r.d*s.d:Nat):Int)=r.z*s.z*((b*e:Nat):Int);rw[ad,ae,aD,a6];simp only[gY,kC,k8,pG]
end
end Go.Opn
namespace Go.Opn
noncomputable section
def aK:List Nat->Nat
 |[]=>0
 |x::l=>x+1000000000*aK l
def dU(l:List Nat):Prop:=∀x∈l,x<1000000000
def kg(l:List Nat):Prop:=dU l/\∀x,l.getLast?=some x->x≠0
def ag(n:Nat):List Nat:=if h:n=0 then[] else n % 1000000000::ag (n / 1000000000)
termination_by n
decreasing_by omega
theorem lR:ag 0=[]:=by unfold ag;rfl
theorem uK{n:Nat}(h:n≠0):ag n=n % 1000000000::ag (n / 1000000000):=by rw[ag];rw[dif_neg h]
theorem g':∀n:Nat,aK (ag n)=n:=by
 intro n;induction n using Nat.strongRecOn with
 |_ n aP=>
  by_cases h:n=0
  ·subst h;rw[lR];rfl
  ·rw[uK h];show n % 1000000000+1000000000*aK (ag (n / 1000000000))=n;rw[aP _ (by omega)];omega
theorem hR:∀n:Nat,dU (ag n):=by
 intro n;induction n using Nat.strongRecOn with
 |_ n aP=>
  by_cases h:n=0
  ·subst h;rw[lR];intro x aa;cases aa
  ·rw[uK h];intro x aa;rcases gj.1 aa with rfl|aa
   ·omega
   ·exact aP _ (by omega) x aa
theorem Fl:∀(n:Nat) (x:Nat),(ag n).getLast?=some x->x≠0:=by
 intro n;induction n using Nat.strongRecOn with
 |_ n aP=>
  intro x aa;by_cases h:n=0
  ·subst h;rw[lR] at aa;cases aa
  ·rw[uK h] at aa;by_cases ae:n / 1000000000=0
   ·rw[ae,lR] at aa;have aa:n % 1000000000=x:=by simpa using aa
    omega
   ·rw[uK ae,ON,<-uK ae] at aa;exact aP _ (by omega) x aa
theorem Bk(n:Nat):kg (ag n):=⟨hR n,Fl n⟩
theorem dU.tail{x:Nat}{l:List Nat}(h:dU (x::l)):dU l:=fun y ap=>h y (.tail _ ap)
theorem Qe{x:Nat}{l:List Nat}(h:kg (x::l)):kg l:=⟨h.1.tail,fun y ap=>by
 cases l with
 |nil=>cases ap
 |cons z l=>exact h.2 y (by rw[ON];exact ap)⟩
theorem Vg:∀{l:List Nat},kg l->aK l=0->l=[]
 |[],_,_=>rfl
 |x::l,h,aR=>by
  have aR:x+1000000000*aK l=0:=aR;have:=Vg (Qe h) (by omega);subst this;exact absurd (show x=0 by omega) (h.2 x rfl)
theorem qQ:∀{l:List Nat},kg l->l=ag (aK l)
 |[],_=>by show[]=ag 0;rw[lR]
 |x::l,h=>by
  have aa:=h.1 x (.head _);have aP:=qQ (Qe h);have aE:aK (x::l)≠0:=fun q=>by have:=Vg h q;cases this
  rw[uK aE];have ax:aK (x::l) % 1000000000=x:=by show(x+1000000000*aK l) % 1000000000=x;omega
  have aS:aK (x::l) / 1000000000=aK l:=by show(x+1000000000*aK l) / 1000000000=aK l;omega
  rw[ax,aS,<-aP]
theorem si:∀(a b:List Nat),aK (a++b)=aK a+1000000000 ^ a.length*aK b
 |[],b=>by show aK b=0+1*aK b;omega
 |x::a,b=>by
  show x+1000000000*aK (a++b)=x+1000000000*aK a+1000000000 ^ (a.length+1)*aK b;rw[si a b,cL,fP,fy,DL,rE]
theorem Kc(x:Nat):aK [x]=x:=by show x+1000000000*0=x;omega
theorem ly:∀{l:List Nat},dU l->aK l<1000000000 ^ l.length
 |[],_=>by decide
 |x::l,h=>by
  have aP:=ly h.tail;have aa:=h x (.head _);show x+1000000000*aK l<1000000000 ^ (l.length+1);rw[fP];omega
theorem Vf{l:List Nat}(h:kg l)(aE:l≠[]):1000000000 ^ (l.length -1)<=aK l:=by
 have e:=afH aE;have aR:l.getLast aE≠0:=h.2 _ (afM aE);rw[<-e,si,Kc,eX,zl,oo];have:1000000000 ^ l.dropLast.length*1<=1000000000 ^ l.dropLast.length*l.getLast aE:=hI _ (by omega);omega
theorem mj{l:List Nat}{i x:Nat}(h:l[i]?=some x):aK (l.take (i+1))=aK (l.take i)+1000000000 ^ i*x:=by
 have ak:=(ff.1 h).1;rw[lD,h,Wt,si,Kc,eA,g6 (by omega)]
theorem y'{l:List Nat}{i x:Nat}(h:l[i]?=some x):aK (l.drop i)=x+1000000000*aK (l.drop (i+1)):=by
 have ak:=(ff.1 h).1;have aa:l[i]=x:=by rw[ey ak] at h;injection h
 rw[AZ ak,aa];rfl
theorem AK(l:List Nat)(i:Nat)(ak:i<=l.length):aK l=aK (l.take i)+1000000000 ^ i*aK (l.drop i):=by
 have:=si (l.take i) (l.drop i);rwa [Gp,eA,g6 ak] at this
theorem aeK{l:List Nat}{i x y:Nat}(h:l[i]?=some x):aK (l.set i y)+1000000000 ^ i*x=aK l+1000000000 ^ i*y:=by
 have ak:=(ff.1 h).1;have ax:=AK l i (by omega);have aS:=AK (l.set i y) i (by rw[im];omega);rw[KO (bU i),y' (i:=i) (x:=y) (by rw[mS,aV rfl,aV ak]),DE (by omega)] at aS;rw[y' h] at ax;rw[ax,aS,cL,cL];omega
theorem Ap{l:List Nat}{i y:Nat}(h:dU l)(ap:y<1000000000):dU (l.set i y):=fun x aa=>by
 rcases Wb aa with q|q
 ·exact h x q
 ·omega
theorem CR{a b:List Nat}(ad:dU a)(ae:dU b):dU (a++b):=fun x aa=>by
 rcases nh.1 aa with q|q
 ·exact ad x q
 ·exact ae x q
theorem wL{l:List Nat}{i:Nat}(h:dU l):dU (l.take i):=fun x aa=>h x (OQ aa)
theorem Nw{l:List Nat}{i:Nat}(h:dU l):dU (l.drop i):=fun x aa=>h x (afO aa)
theorem qp{l:List Nat}{i x:Nat}(h:dU l)(aa:l[i]?=some x):x<1000000000:=h x (et aa)
theorem FG{n:Nat}:dU (List.replicate n 0):=fun x aa=>by rw[OK aa];decide
theorem aeM:∀n:Nat,aK (List.replicate n 0)=0
 |0=>rfl
 |n+1=>by rw[List.replicate_succ];show 0+1000000000*aK (List.replicate n 0)=0;rw[aeM n]
theorem aeL{a b:List Nat}(aF:dU a)(ai:kg b)(h:a.length<b.length):aK a<aK b:=by
 have ad:=ly aF;have ae:=Vf ai (fun q=>by rw[q] at h;exact Gu _ h);have aD:1000000000 ^ a.length<=1000000000 ^ (b.length -1):=mV (by decide) (by omega);omega
theorem awF{a b:List Nat}{i x y:Nat}(aF:dU a)(aa:a[i]?=some x)(ap:b[i]?=some y)(au:a.drop (i+1)=b.drop (i+1))(h:x<y):aK a<aK b:=by
 have apl:=(ff.1 aa).1;have apm:=(ff.1 ap).1;have ax:=AK a (i+1) (by omega);have aS:=AK b (i+1) (by omega);rw[mj aa,au] at ax;rw[mj ap] at aS;have ad:=ly (wL (i:=i) aF);rw[eA,g6 (by omega)] at ad;have ae:1000000000 ^ i*(x+1)<=1000000000 ^ i*y:=hI _ h;rw[cL,ha] at ae;generalize 1000000000 ^ (i+1)*aK (b.drop (i+1))=R at ax aS;generalize 1000000000 ^ i*x=X at ax ae;generalize 1000000000 ^ i*y=Y at aS ae;omega
end
end Go.Opn
namespace Go.Cre
noncomputable section
open Go.RowKit
open Classical
structure c7 (P:Program) where
 ok:(Nat->Prop)->World->Prop
 up:∀B w0 iB iW,ok B w0->(∀k,B k->iB k)->Kept B w0 iW->ok iB iW
def kX (c:Code)(S:aZ)(H:ar)(r:Exit×aZ×ar):Code->aZ->ar->Option (Exit×aZ×ar):=fun c' aH H'=>if c'=c/\aH=S/\H'=H then some r else none
def kW (f:FuncId)(args:List Value)(H:ar)(r:Ending×ar):eI:=fun cF cb H'=>if cF=f/\cb=args/\H'=H then some r else none
def dL{P:Program}(Q:c7 P)(c:Code)(S:aZ)(H:ar)(e:Exit)(aH:aZ)(H':ar):Prop:=∀B w0,Q.ok B w0->sn P B w0 (kX c S H (e,aH,H'))
def jV{P:Program}(Q:c7 P)(f:FuncId)(args:List Value)(H:ar)(e:Ending)(H':ar):Prop:=∀B w0,Q.ok B w0->pC P B w0 (kW f args H (e,H'))
def rL {P:Program}(Q:c7 P)(pick:Code->aZ->ar->Option (Exit×aZ×ar)):Code->aZ->ar->Option (Exit×aZ×ar):=fun c S H=>match pick c S H with
 |some (e,aH,H')=>if dL Q c S H e aH H' then some (e,aH,H') else none
 |none=>none
def hJ {P:Program}(Q:c7 P)(pick:eI):eI:=fun f args H=>match pick f args H with
 |some (e,H')=>if jV Q f args H e H' then some (e,H') else none
 |none=>none
section
variable {P:Program}{Q:c7 P}{B:Nat->Prop}{w0:World}
theorem Ec(pick:Code->aZ->ar->Option (Exit×aZ×ar))(gK:Q.ok B w0):sn P B w0 (rL Q pick):=by
 intro c S H e aH H' he;unfold rL at he;split at he
 ·split at he
  ·rename_i c1;simp only[cn,dr] at he;obtain⟨rfl,rfl,rfl⟩:=he;exact c1 B w0 gK c S H _ _ _ (by unfold kX;rw[aV ⟨rfl,rfl,rfl⟩])
  ·cases he
 ·cases he
theorem P9(pick:eI)(gK:Q.ok B w0):pC P B w0 (hJ Q pick):=by
 intro f args H e H' he;unfold hJ at he;split at he
 ·split at he
  ·rename_i c1;simp only[cn,dr] at he;obtain⟨rfl,rfl⟩:=he;exact c1 B w0 gK f args H _ _ (by unfold kW;rw[aV ⟨rfl,rfl,rfl⟩])
  ·cases he
 ·cases he
def fN {P:Program}(Q:c7 P)(eG:Code->aZ->ar->Option (Exit×aZ×ar))(cE:eI):fZ:=
 ⟨rL Q eG,fun f args bR bg H=>if bR=true then none else match hJ Q cE f args H with|some (e,H')=>some (e,bg,H')|none=>none⟩
theorem Kz(eG:Code->aZ->ar->Option (Exit×aZ×ar))(cE:eI):(fN Q eG cE).call=hJ Q cE:=by
 funext f args H
 unfold fZ.call fN;simp only[ze,yp];cases hJ Q cE f args H with
 |none=>rfl
 |some p=>rfl
theorem dL.wK(pg:P.follows .mixedOrders=true){c:Code}{S aH:aZ}{H H':ar}{e:Exit}(eG:Code->aZ->ar->Option (Exit×aZ×ar))(cE:eI)(h:LD P (fN Q eG cE) c S H=some (e,aH,H')):dL Q c S H e aH H':=by
 intro B w0 gK;have eS:∀(iB:Nat->Prop) (iW:World),(∀k,B k->iB k)->Kept B w0 iW->Q.ok iB iW:=fun iB iW a b=>Q.up B w0 iB iW gK a b;have aC:∀(iB:Nat->Prop) (iW:World),Q.ok iB iW->sn P iB iW (fN Q eG cE).code:=fun iB iW q=>Ec eG q;have hk:∀(iB:Nat->Prop) (iW:World),Q.ok iB iW->pC P iB iW (fN Q eG cE).call:=fun iB iW q=>by rw[Kz];exact P9 cE q
 have hs:=X3 (P:=P) (B:=B) (w0:=w0) (E:=fN Q eG cE) pg (aC B w0 gK) (fun iB iW a b=>hk iB iW (eS iB iW a b)) (fun iB iW a b=>Ov (aC iB iW (eS iB iW a b))) (ac0 (hk B w0 gK));intro bb a4 H1 ax Pe KA he;unfold kX at he;split at he
 ·rename_i q;obtain⟨rfl,rfl,rfl⟩:=q;simp only[cn,dr] at he;obtain⟨rfl,rfl,rfl⟩:=he;exact hs _ _ _ _ _ _ h
 ·cases he
theorem Qf{c:Code}{S aH:aZ}{H H':ar}{e:Exit}(h:dL Q c S H e aH H'){eG:Code->aZ->ar->Option (Exit×aZ×ar)}(aw:eG c S H=some (e,aH,H')):rL Q eG c S H=some (e,aH,H'):=by
 unfold rL;rw[aw];simp only;rw[aV h]
theorem Bi{f:FuncId}{args:List Value}{H H':ar}{e:Ending}(h:jV Q f args H e H'){cE:eI}(aw:cE f args H=some (e,H')):hJ Q cE f args H=some (e,H'):=by
 unfold hJ;rw[aw];simp only;rw[aV h]
def gQ:Code->aZ->ar->Option (Exit×aZ×ar):=fun _ _ _=>none
def kL:eI:=fun _ _ _=>none
def Um (bb:Code)(a4:aZ)(H1:ar)(dq:Exit×aZ×ar)(br:Code)(gk:aZ)(bW:ar)(c2:Exit×aZ×ar):Code->aZ->ar->Option (Exit×aZ×ar):=fun c S H=>
 if c=bb/\S=a4/\H=H1 then some dq else if c=br/\S=gk/\H=bW then some c2 else none
theorem dL.skip(pg:P.follows .mixedOrders=true){S:aZ}{H:ar}:dL Q .skip S H .normal S H:=dL.wK pg gQ kL rfl
theorem dL.ret(pg:P.follows .mixedOrders=true){S:aZ}{H:ar}:dL Q .ret S H .ret S H:=dL.wK pg gQ kL rfl
theorem dL.exit(pg:P.follows .mixedOrders=true){S:aZ}{H:ar}{id:Nat}:dL Q (.exit id) S H (.exit id) S H:=dL.wK pg gQ kL rfl
theorem dL.mk{c:Code}{S aH:aZ}{H H':ar}{e:Exit}(h:∀B w0,Q.ok B w0->∀μ w fr tmps ds cs k it,b8 P B w0 μ H w->il P μ S fr tmps ds cs->zu c it->ml P B w0 μ H S fr cs (lone (bP fr tmps ds (it::k)) cs w) k aH H' e):dL Q c S H e aH H':=by
 intro B w0 gK bb a4 H1 ax Pe KA he;unfold kX at he;split at he
 ·rename_i q;obtain⟨rfl,rfl,rfl⟩:=q;simp only[cn,dr] at he;obtain⟨rfl,rfl,rfl⟩:=he;exact h B w0 gK
 ·cases he
theorem dL.use{c:Code}{S aH:aZ}{H H':ar}{e:Exit}(h:dL Q c S H e aH H')(gK:Q.ok B w0){μ:bY}{w:World}{fr:Frame}{tmps:Array Value}{ds:List Deferred}{cs:List Frame}{k:List Item}{it:Item}(hV:b8 P B w0 μ H w)(bM:il P μ S fr tmps ds cs)(hs:zu c it):
 ml P B w0 μ H S fr cs (lone (bP fr tmps ds (it::k)) cs w) k aH H' e:=h B w0 gK c S H e aH H' (by unfold kX;rw[aV ⟨rfl,rfl,rfl⟩]) μ w fr tmps ds cs k it hV bM hs
theorem zu.plain{c:Code}{it:Item}(h:zu c it)(aE:∀c',c≠.loop c'):it=.code c:=by
 rcases h with q|⟨c',q,_⟩
 ·exact q
 ·exact absurd q (aE c')
theorem dL.seq{a b:Code}{S a4 gk:aZ}{H H1 bW:ar}{e:Exit}(ad:dL Q a S H .normal a4 H1)(ae:dL Q b a4 H1 e gk bW):dL Q (.seq a b) S H e gk bW:=by
 refine .mk fun B w0 gK μ w fr tmps ds cs k it hV bM hs=>?_;obtain rfl:=hs.plain (fun _ q=>by cases q);exact((ad.use (k:=.code b::k) gK hV bM (.inl rfl)).bind fun fA bl t1 d1 gD mb=>ae.use gK mb.h mb.f (.inl rfl)).steps (.one UY)
theorem dL.JW{a b:Code}{S a4:aZ}{H H1:ar}{e:Exit}(ad:dL Q a S H e a4 H1)(aE:e≠.normal):dL Q (.seq a b) S H e a4 H1:=by
 refine .mk fun B w0 gK μ w fr tmps ds cs k it hV bM hs=>?_;obtain rfl:=hs.plain (fun _ q=>by cases q);exact((ad.use (k:=.code b::k) gK hV bM (.inl rfl)).steps (.one UY)).pass (fun id _=>rfl) aE
theorem zu.loop{c:Code}{it:Item}(h:zu (.loop c) it){fr:Frame}{tmps:Array Value}{ds:List Deferred}{cs:List Frame}{k:List Item}{w:World}:step P (lone (bP fr tmps ds (it::k)) cs w)=.next (lone (bP fr tmps ds (.code c::.inLoop c::k)) cs w):=by
 rcases h with rfl|⟨c',q,rfl⟩
 ·exact adT
 ·injection q with q;subst q;exact adS
theorem dL.aa4{c:Code}{S a4 gk:aZ}{H H1 bW:ar}{e:Exit}(ad:dL Q c S H .normal a4 H1)(ae:dL Q (.loop c) a4 H1 e gk bW):dL Q (.loop c) S H e gk bW:=by
 refine .mk fun B w0 gK μ w fr tmps ds cs k it hV bM hs=>?_;exact((ad.use (k:=.inLoop c::k) gK hV bM (.inl rfl)).bind fun fA bl t1 d1 gD mb=>ae.use gK mb.h mb.f (.inr ⟨c,rfl,rfl⟩)).steps (.one hs.loop)
theorem dL.wD{c:Code}{S a4:aZ}{H H1:ar}{e:Exit}(ad:dL Q c S H e a4 H1)(aE:e≠.normal):dL Q (.loop c) S H e a4 H1:=by
 refine .mk fun B w0 gK μ w fr tmps ds cs k it hV bM hs=>?_;exact((ad.use (k:=.inLoop c::k) gK hV bM (.inl rfl)).steps (.one hs.loop)).pass (fun id _=>rfl) aE
theorem Eb{c:Code}{S aH:aZ}{H H':ar}{e:Exit}(h:dL Q c S H e aH H'):rL Q (kX c S H (e,aH,H')) c S H=some (e,aH,H'):=Qf h (by unfold kX;rw[aV ⟨rfl,rfl,rfl⟩])
theorem dL.cond(pg:P.follows .mixedOrders=true){x:Operand}{a b:Code}{t:Bool}{S aH:aZ}{H H':ar}{e:Exit}(aa:a3 S.T H x=some (.bool t))(h:dL Q (if t=true then a else b) S H e aH H'):dL Q (.cond x a b) S H e aH H':=by
 cases t with
 |true=>
  refine dL.wK pg (kX a S H (e,aH,H')) kL ?_;show Lo _ S H a b (a3 S.T H x)=_;rw[aa];exact Eb h
 |false=>
  refine dL.wK pg (kX b S H (e,aH,H')) kL ?_;show Lo _ S H a b (a3 S.T H x)=_;rw[aa];exact Eb h
theorem dL.block(pg:P.follows .mixedOrders=true){id:Nat}{c:Code}{S aH:aZ}{H H':ar}{e:Exit}(h:dL Q c S H e aH H'):dL Q (.block id c) S H (match e with|.exit j=>if j=id then .normal else .exit j|e=>e) aH H':=by
 refine dL.wK pg (kX c S H (e,aH,H')) kL ?_;show P7 id (rL Q (kX c S H (e,aH,H')) c S H)=_;rw[Eb h];cases e with
 |exit j=>
  show(bif Nat.beq j id then some (Exit.normal,aH,H') else some (Exit.exit j,aH,H'))=_;by_cases aX:j=id
  ·subst aX;simp
  ·have:Nat.beq j id=false:=by
    cases q:Nat.beq j id
    ·rfl
    ·exact absurd (ez q) aX
   rw[this,dK];simp[aX]
 |_=>rfl
theorem afu(eG:Code->aZ->ar->Option (Exit×aZ×ar))(cE:eI):vd P B w0 (fN Q eG cE).body:=by
 intro f args bg H e gV H' he;unfold fN at he;simp at he
theorem jV.b5{fE:a0 Func}(cI:tF P fE){f:FuncId}{args:List Value}{H H':ar}{e:Ending}{bg:FrameMode}(eG:Code->aZ->ar->Option (Exit×aZ×ar))(cE:eI)(h:sM P fE (fN Q eG cE) f args false .run H=some (e,bg,H')):jV Q f args H e H':=by
 intro B w0 gK f1 vB H1 ax KA he;unfold kW at he;split at he
 ·rename_i q;obtain⟨rfl,rfl,rfl⟩:=q;simp only[cn,dr] at he;obtain⟨rfl,rfl⟩:=he;exact QF (E:=fN Q eG cE) cI (Ec eG gK) (afu eG cE) f1 vB H1 _ _ (by unfold fZ.call;simp only;rw[h])
 ·cases he
theorem jV.run{fE:a0 Func}(cI:tF P fE){f:FuncId}{fn:Func}{c:Code}{args:List Value}{T:a0 Value}{H H1 H':ar}{a4:aZ}{x:Exit}{e:Ending}{bg:FrameMode}(aA:fE.get f=some fn)(ai:fn.body=some c)(aF:ou args 0 (blank fn.ntmps)=some T)
 (aC:dL Q c ⟨T,fn.ntmps,[],false,.run,none⟩ H x a4 H1)(he:xx P (fN Q (kX c ⟨T,fn.ntmps,[],false,.run,none⟩ H (x,a4,H1)) kL) fn (some (x,a4,H1))=some (e,bg,H')):jV Q f args H e H':=by
 refine jV.b5 cI (kX c ⟨T,fn.ntmps,[],false,.run,none⟩ H (x,a4,H1)) kL (bg:=bg) ?_;unfold sM;rw[aA];show GL P _ f fn args false .run H fn.body=_;rw[ai];show GM P _ fn c false .run H (ou args 0 (blank fn.ntmps))=_;rw[aF];show xx P _ fn (rL Q _ c ⟨T,fn.ntmps,[],false,.run,none⟩ H)=_;rw[Eb aC];exact he
end
end
end Go.Cre
namespace Go.Cre
noncomputable section
open Go.RowKit
def a0.has{α:Type}(T:a0 α)(n:Nat):Prop:=∀t,t<n->∃v,T.get t=some v
end
end Go.Cre
namespace Go.Opn
noncomputable section
open Go.Cre
open Go.RowKit
theorem a0.FP{α:Type}(a:α):∀(T:a0 α) (n:Nat),(∀m,m<n->∃v,T.get m=some v)->∃dZ,a0.put a T n=some dZ:=by
 intro T;induction T with
 |leaf=>
  intro n h;cases n with
  |zero=>exact⟨_,rfl⟩
  |succ n=>obtain⟨v,av⟩:=h 0 (by omega);cases av
 |node v l r yr yt=>
  intro n h;cases n with
  |zero=>exact⟨_,rfl⟩
  |succ n=>
   rw[a0.NK];by_cases aE:n % 2=0
   ·rw[aV aE];obtain⟨l',aq⟩:=yr (n / 2) fun m hm=>by
     obtain⟨v',av⟩:=h (2*m+1) (by omega);rw[a0.rO,aV (by omega),show 2*m / 2=m by omega] at av;exact⟨v',av⟩
    rw[aq];exact⟨_,rfl⟩
   ·rw[aQ aE];obtain⟨cv,ao⟩:=yt (n / 2) fun m hm=>by
     obtain⟨v',av⟩:=h (2*m+1+1) (by omega);rw[a0.rO,aQ (by omega),show(2*m+1) / 2=m by omega] at av;exact⟨v',av⟩
    rw[ao];exact⟨_,rfl⟩
structure jF (H:ar):Prop where
 here:∀a,a<H.an->∃b,H.mem.get a=some b
 gone:∀a,H.an<=a->H.mem.get a=none
 Ep:∀f,f<H.cy->∃l,H.bF.get f=some l
 Hx:∀f,H.cy<=f->H.bF.get f=none
 kZ:H.bL<=H.an
theorem jF.lt{H:ar}(h:jF H){a:Nat}{b:fB}(g:H.mem.get a=some b):a<H.an:=by
 rcases hH a H.an with q|q
 ·exact q
 ·rw[h.gone a q] at g;cases g
theorem jF.Hz{H:ar}(h:jF H){f:Nat}{l:List Nat}(g:H.bF.get f=some l):f<H.cy:=by
 rcases hH f H.cy with q|q
 ·exact q
 ·rw[h.Hx f q] at g;cases g
theorem jF.new{H:ar}(h:jF H)(b:fB):∃H1,H.new b=some (H.an,H1):=by
 obtain⟨mem,an,bF,cy,bL⟩:=H;obtain⟨T,cB⟩:=a0.FP b mem an h.here;refine⟨⟨T,an+1,bF,cy,bL⟩,?_⟩;show ar.TU an bF cy bL (a0.put b mem an)=_;rw[cB];rfl
theorem jF.TX{H H1:ar}{b:fB}{id:Nat}(h:jF H)(e:H.new b=some (id,H1)):jF H1:=by
 obtain⟨_,aS,cl,dS,cx,iu⟩:=ar.pp e;refine⟨fun a aF=>?_,fun a aF=>?_,by rw[cl,dS];exact h.Ep,by rw[cl,dS];exact h.Hx,by have:=h.kZ;omega⟩
 ·rw[iu];split
  ·exact⟨_,rfl⟩
  ·exact h.here a (by omega)
 ·rw[iu,aQ (by omega)];exact h.gone a (by omega)
theorem jF.upd{H:ar}(h:jF H){a:Nat}(b:fB)(aF:a<H.an):∃H1,H.upd a b=some H1:=by
 obtain⟨mem,an,bF,cy,bL⟩:=H;obtain⟨x,aa⟩:=h.here a aF;obtain⟨T,cB⟩:=a0.JO (a:=b) aa;refine⟨⟨T,an,bF,cy,bL⟩,?_⟩;show ar.aey an bF cy bL (a0.put b mem a)=_;rw[cB];rfl
theorem jF.N'{H H1:ar}{b:fB}{a:Nat}(h:jF H)(aF:a<H.an)(e:H.upd a b=some H1):jF H1:=by
 obtain⟨ax,aS,cl,dS,cx⟩:=ar.rn e;refine⟨fun x aa=>?_,fun x aa=>?_,by rw[aS,cl];exact h.Ep,by rw[aS,cl];exact h.Hx,by have:=h.kZ;omega⟩
 ·rw[cx];split
  ·exact⟨_,rfl⟩
  ·exact h.here x (by omega)
 ·rw[cx,aQ (by omega)];exact h.gone x (by omega)
theorem jF.wH{H:ar}(h:jF H):∃H1,H.wH=some (H.cy,H1):=by
 obtain⟨mem,an,bF,cy,bL⟩:=H;obtain⟨T,cB⟩:=a0.FP [an] bF cy h.Ep;refine⟨⟨mem,an,T,cy+1,bL⟩,?_⟩;show ar.TV mem an cy bL (a0.put [an] bF cy)=_;rw[cB];rfl
theorem jF.arl{H H1:ar}{f:Nat}(h:jF H)(e:H.wH=some (f,H1)):jF H1:=by
 obtain⟨ax,aS,cl,dS,cx,iu⟩:=ar.Nd e;refine⟨by rw[aS,cl];exact h.here,by rw[aS,cl];exact h.gone,fun x aa=>?_,fun x aa=>?_,by have:=h.kZ;omega⟩
 ·rw[iu];split
  ·exact⟨_,rfl⟩
  ·exact h.Ep x (by omega)
 ·rw[iu,aQ (by omega)];exact h.Hx x (by omega)
theorem jF.se{H:ar}(h:jF H){f:Nat}(l:List Nat)(aA:f<H.cy):∃H1,H.se f l=some H1:=by
 obtain⟨mem,an,bF,cy,bL⟩:=H;obtain⟨x,aa⟩:=h.Ep f aA;obtain⟨T,cB⟩:=a0.JO (a:=l) aa;refine⟨⟨mem,an,T,cy,bL⟩,?_⟩;show ar.adv mem an cy bL (a0.put l bF f)=_;rw[cB];rfl
theorem jF.UL{H H1:ar}{f:Nat}{l:List Nat}(h:jF H)(aA:f<H.cy)(e:H.se f l=some H1):jF H1:=by
 obtain⟨ax,aS,cl,dS,cx⟩:=ar.FW e;refine⟨by rw[ax,aS];exact h.here,by rw[ax,aS];exact h.gone,fun x aa=>?_,fun x aa=>?_,by have:=h.kZ;omega⟩
 ·rw[cx];split
  ·exact⟨_,rfl⟩
  ·exact h.Ep x (by omega)
 ·rw[cx,aQ (by omega)];exact h.Hx x (by omega)
structure ee where
 ds:List Deferred
 cr:Option Nat
 bR:Bool
 bg:FrameMode
def zJ:ee:=⟨[],none,false,.run⟩
structure ca where
 n:Nat
 ds:ee
 l:List (Nat×Value)
def look:List (Nat×Value)->Nat->Option Value
 |[],_=>none
 |(u,v)::l,t=>bif Nat.beq t u then some v else look l t
structure Sat (E:ca) (S:aZ):Prop where
 n:S.n=E.n
 ds:S.ds=E.ds.ds
 bR:S.bR=E.ds.bR
 bg:S.bg=E.ds.bg
 cr:S.cr=E.ds.cr
 has:S.T.has E.n
 get:∀t v,look E.l t=some v->S.T.get t=some v
def ca.put (E:ca):Option Tmp->Value->ca
 |none,_=>E
 |some d,v=>⟨E.n,E.ds,(d,v)::E.l⟩
def XK (n:Nat):Option Tmp->Bool
 |none=>true
 |some d=>Nat.blt d n
theorem Sat.put{E:ca}{S:aZ}(h:Sat E S){dst:Option Tmp}(au:XK E.n dst=true)(v:Value):∃a4,S.put dst v=some a4/\Sat (E.put dst v) a4:=by
 cases dst with
 |none=>exact⟨S,rfl,h⟩
 |some d=>
  obtain⟨T,n,ds,bR,bg,cr⟩:=S;have aE:n=E.n:=h.n;have cD:d<E.n:=by simpa[XK] using au
  obtain⟨x,aa⟩:=h.has d cD;obtain⟨dZ,cB⟩:=a0.JO (a:=v) aa;refine⟨⟨dZ,n,ds,bR,bg,cr⟩,?_,h.n,h.ds,h.bR,h.bg,h.cr,fun t aI=>?_,fun t u hu=>?_⟩
  ·show Bool.rec (motive:=fun _=>Option aZ) none (aZ.qw n ds bR bg cr (a0.put v T d)) (Nat.ble (Nat.succ d) n)=_;have ai:Nat.ble (Nat.succ d) n=true:=mo (by rw[aE];exact cD);rw[ai,cB];rfl
  ·show ∃v,dZ.get t=some v;rw[a0.get_put cB];split
   ·exact⟨_,rfl⟩
   ·exact h.has t aI
  ·show dZ.get t=some u;rw[a0.get_put cB];have hu:(bif Nat.beq t d then some v else look E.l t)=some u:=hu;by_cases e:t=d
   ·subst e;rw[aV rfl];simpa using hu
   ·rw[aQ e];have ai:Nat.beq t d=false:=by
     cases q:Nat.beq t d
     ·rfl
     ·exact absurd (ez q) e
    rw[ai,dK] at hu;exact h.get t u hu
theorem Sat.Ok{E:ca}{S:aZ}(h:Sat E S){l:List (Nat×Value)}(aq:∀t v,look l t=some v->look E.l t=some v):Sat ⟨E.n,E.ds,l⟩ S:=
 ⟨h.n,h.ds,h.bR,h.bg,h.cr,h.has,fun t v q=>h.get t v (aq t v q)⟩
abbrev aj:=Nat->Option (List Value×TypeId)
def aj.le(J af:aj):Prop:=∀a x,J a=some x->af a=some x
theorem aj.le.refl(J:aj):J.le J:=fun _ _ h=>h
theorem aj.le.trans{J bu cZ:aj}(h:J.le bu)(k:bu.le cZ):J.le cZ:=fun a x q=>k a x (h a x q)
inductive dI where
 |row (cells:List Value) (e:TypeId)
 |opn (cells:List Value) (e:TypeId) (rest:List Nat) (z:Nat)
 |map (es:List MapEntry) (clock:Nat)
 |loop (r:pB)
 |gP
def dI.at(F:Nat->Prop)(H:ar)(a:Nat):dI->Prop
 |.row cells e=>H.mem.get a=some (.row cells e false 0 0 false)
 |.opn cells e rest z=>∃f,F f/\H.mem.get a=some (.row cells e true f z false)/\H.bF.get f=some (a::rest)
 |.map es clock=>H.mem.get a=some (.map es clock)
 |.loop r=>H.mem.get a=some (.loop r)
 |.gP=>H.mem.get a=some (.gP (some []))
def dI.rest:dI->List Nat
 |.opn _ _ r _=>r
 |_=>[]
def ids:List (Nat×dI)->List Nat
 |[]=>[]
 |(a,b)::m=>a::(b.rest++ids m)
theorem MN:∀(m m':List (Nat×dI)),ids (m++m')=ids m++ids m':=by
 intro m m';induction m with
 |nil=>rfl
 |cons x m aP=>show x.1::(x.2.rest++ids (m++m'))=_;rw[aP];simp[ids]
theorem Cu{a:Nat}:∀{m:List (Nat×dI)},a∈ids m↔∃x∈m,a=x.1\/a∈x.2.rest:=by
 intro m;induction m with
 |nil=>simp[ids]
 |cons x m aP=>
  show a∈x.1::(x.2.rest++ids m)↔_;rw[gj,nh,aP];constructor
  ·rintro(h|h|⟨y,ad,ae⟩)
   ·exact⟨x,.head _,.inl h⟩
   ·exact⟨x,.head _,.inr h⟩
   ·exact⟨y,.tail _ ad,ae⟩
  ·rintro⟨y,ad,ae⟩;rcases gj.1 ad with q|q
   ·subst q;rcases ae with ae|ae
    ·exact .inl ae
    ·exact .inr (.inl ae)
   ·exact .inr (.inr ⟨y,q,ae⟩)
theorem Ag{a:Nat}{b:dI}{m:List (Nat×dI)}(h:(a,b)∈m):a∈ids m:=Cu.2 ⟨_,h,.inl rfl⟩
theorem apo{m m':List (Nat×dI)}(h:m'.Sublist m):(ids m').Sublist (ids m):=by
 induction h with
 |slnil=>exact iZ _
 |cons x _ aP=>exact .cons _ (aP.trans (DJ _ _))
 |cons_cons x _ aP=>exact .cons_cons _ ((iZ _).append aP)
theorem MO{m m':List (Nat×dI)}(h:m.Perm m'):(ids m).Perm (ids m'):=by
 induction h with
 |nil=>exact .nil
 |cons x _ aP=>exact .cons _ (aP.append_left _)
 |swap x y l=>
  show(y.1::(y.2.rest++(x.1::(x.2.rest++ids l)))).Perm (x.1::(x.2.rest++(y.1::(y.2.rest++ids l))));have h:=DI (l₁:=y.1::y.2.rest) (l₂:=x.1::x.2.rest);have:=h.append_right (ids l);simpa using this
 |trans _ _ i1 i2=>exact i1.trans i2
theorem apn{m:List (Nat×dI)}(h:(ids m).Nodup):(m.map Prod.fst).Nodup:=by
 refine List.Sublist.nodup ?_ h;clear h
 induction m with
 |nil=>exact iZ _
 |cons x m aP=>exact .cons_cons _ (aP.trans (DJ _ _))
structure dv where
 X:Nat->Prop
 Y:Nat->Prop
 H0:ar
 vj:aj
def dv.zM(B:dv)(f:Nat):Prop:=B.H0.cy<=f\/∃a r c e z s,B.H0.bF.get f=some (a::r)/\B.H0.mem.get a=some (.row c e true f z s)/\B.Y a
theorem dv.akW{B:dv}{f:Nat}(h:¬B.zM f):f<B.H0.cy:=O3 fun q=>h (.inl q)
structure Inv (g0:Nat) (B:dv) (J:aj) (m:List (Nat×dI)) (H:ar):Prop where
 wf:jF H
 bL:H.bL=g0
 an:B.H0.an<=H.an
 cy:B.H0.cy<=H.cy
 gn:∀a,a<B.H0.an->¬B.X a->H.mem.get a=B.H0.mem.get a
 nB:∀f,¬B.zM f->H.bF.get f=B.H0.bF.get f
 ei:∀a c e,J a=some (c,e)->∃o f z s,H.mem.get a=some (.row c e o f z s)
 le:B.vj.le J
 fresh:∀a x,B.vj a=none->J a=some x->B.H0.an<=a\/B.X a
 own:∀a b,(a,b)∈m->b.at B.zM H a/\(B.H0.an<=a\/B.X a)/\J a=none/\g0<=a
 opn:∀a b,(a,b)∈m->∀x∈b.rest,x<H.an/\(B.H0.an<=x\/B.X x)/\J x=none
 gF:(ids m).Nodup
theorem dI.WY{F:Nat->Prop}{H:ar}(w:jF H){a:Nat}{b:dI}(h:b.at F H a):a<H.an:=by
 cases b with
 |row c e=>exact w.lt h
 |opn c e r z=>obtain⟨f,_,h,_⟩:=h;exact w.lt h
 |map es k=>exact w.lt h
 |loop r=>exact w.lt h
 |gP=>exact w.lt h
theorem dI.xo{F:Nat->Prop}{H H1:ar}{a:Nat}{b:dI}(h:b.at F H a)(hm:H1.mem.get a=H.mem.get a)(aA:∀f r,H.bF.get f=some (a::r)->H1.bF.get f=some (a::r)):b.at F H1 a:=by
 cases b with
 |row c e=>exact hm.trans h
 |opn c e r z=>obtain⟨f,aR,ad,ae⟩:=h;exact⟨f,aR,hm.trans ad,aA _ _ ae⟩
 |map es k=>exact hm.trans h
 |loop r=>exact hm.trans h
 |gP=>exact hm.trans h
section
variable {g0:Nat}{B:dv}{H:ar}{J:aj}{m m':List (Nat×dI)}
theorem Inv.lt(h:Inv g0 B J m H){a:Nat}{b:dI}(hm:(a,b)∈m):a<H.an:=dI.WY h.wf (h.own a b hm).1
theorem Inv.aqO(h:Inv g0 B J m H){a:Nat}{x:List Value×TypeId}(aX:J a=some x):a<H.an:=by
 obtain⟨c,e⟩:=x;obtain⟨o,f,z,s,q⟩:=h.ei a c e aX;exact h.wf.lt q
theorem Inv.T0(h:Inv g0 B J m H):J H.an=none:=by
 cases q:J H.an with
 |none=>rfl
 |some x=>exact absurd (h.aqO q) (A7 _)
theorem Inv.M3(h:Inv g0 B J m H){x:Nat}(aa:x∈ids m):x<H.an:=by
 obtain⟨⟨a,b⟩,ad,ae⟩:=Cu.1 aa;rcases ae with ae|ae
 ·subst ae;exact h.lt ad
 ·exact(h.opn a b ad x ae).1
theorem Inv.acu(h:Inv g0 B J m H){x:Nat}(aa:x∈ids m):B.H0.an<=x\/B.X x:=by
 obtain⟨⟨a,b⟩,ad,ae⟩:=Cu.1 aa;rcases ae with ae|ae
 ·subst ae;exact(h.own _ b ad).2.1
 ·exact(h.opn a b ad x ae).2.1
theorem Inv.ars(h:Inv g0 B J m H){x:Nat}(aa:x∈ids m):J x=none:=by
 obtain⟨⟨a,b⟩,ad,ae⟩:=Cu.1 aa;rcases ae with ae|ae
 ·subst ae;exact(h.own _ b ad).2.2.1
 ·exact(h.opn a b ad x ae).2.2
theorem Inv.Q7(h:Inv g0 B J m H):g0<=H.an:=by have:=h.wf.kZ;have:=h.bL;omega
theorem Inv.new(h:Inv g0 B J m H){H1:ar}{b:fB}{p:dI}(ax:H.new b=some (H.an,H1))(aw:p.at B.zM H1 H.an)(ao:p.rest=[]:=by rfl):Inv g0 B J ((H.an,p)::m) H1:=by
 obtain⟨_,df,ef,e9,hv,fe⟩:=ar.pp ax;refine⟨h.wf.TX ax,hv.trans h.bL,by have:=h.an;omega,by rw[e9];exact h.cy,fun a aF aa=>?_,fun f aA=>by rw[ef];exact h.nB f aA,fun a c e aX=>?_,h.le,h.fresh,fun a b ai=>?_,fun a b ai x aa=>?_,?_⟩
 ·rw[fe,aQ (by have:=h.an;omega)];exact h.gn a aF aa
 ·obtain⟨o,f,z,s,q⟩:=h.ei a c e aX;exact⟨o,f,z,s,by rw[fe,aQ (by have:=h.wf.lt q;omega)];exact q⟩
 ·rcases gj.1 ai with q|q
  ·injection q with aL aG;subst aL;subst aG
   exact⟨aw,.inl h.an,h.T0,h.Q7⟩
  ·obtain⟨aW,aT,bo,cu⟩:=h.own a b q;exact⟨dI.xo aW (by rw[fe,aQ (by have:=h.lt q;omega)]) (fun f l aA=>by rw[ef];exact aA),aT,bo,cu⟩
 ·rcases gj.1 ai with q|q
  ·injection q with aL aG;subst aL;subst aG;rw[ao] at aa;cases aa
  ·obtain⟨aW,aT,bo⟩:=h.opn a b q x aa;exact⟨by omega,aT,bo⟩
 ·show(H.an::(p.rest++ids m)).Nodup;rw[ao,kj,vn];exact⟨fun q=>absurd (h.M3 q) (A7 _),h.gF⟩
theorem Inv.alloc(h:Inv g0 B J m H)(cells:List Value)(e:TypeId):
 ∃H1,H.new (.row cells e false 0 0 false)=some (H.an,H1)/\Inv g0 B J ((H.an,.row cells e)::m) H1:=by
 obtain⟨H1,ax⟩:=h.wf.new (.row cells e false 0 0 false);obtain⟨_,df,ef,e9,hv,fe⟩:=ar.pp ax;exact⟨H1,ax,h.new ax (by show H1.mem.get H.an=_;rw[fe,aV rfl])⟩
theorem Inv.bF(h:Inv g0 B J m H):∃H1,H.wH=some (H.cy,H1)/\Inv g0 B J m H1/\H1.an=H.an/\H1.bF.get H.cy=some [H.an]/\B.H0.cy<=H.cy:=by
 obtain⟨H1,ax⟩:=h.wf.wH;obtain⟨_,df,ef,e9,hv,fe⟩:=ar.Nd ax;refine⟨H1,ax,⟨h.wf.arl ax,hv.trans h.bL,by rw[df];exact h.an,by have:=h.cy;omega,fun a aF aa=>by rw[ef];exact h.gn a aF aa,fun f aA=>?_,fun a c e aX=>by rw[ef];exact h.ei a c e aX,h.le,h.fresh,fun a b ai=>?_,fun a b ai x aa=>by rw[df];exact h.opn a b ai x aa,h.gF⟩,df,by rw[fe,aV rfl],h.cy⟩
 ·rw[fe,aQ (by have:=h.cy;have:=dv.akW aA;omega)];exact h.nB f aA
 ·obtain⟨aW,aT,bo,cu⟩:=h.own a b ai;exact⟨dI.xo aW (by rw[ef]) (fun f l aA=>by rw[fe,aQ (by have:=h.wf.Hz aA;omega)];exact aA),aT,bo,cu⟩
theorem Inv.oO(h:Inv g0 B J m H)(cells:List Value)(e:TypeId):
 ∃H1,H.oO cells e false=some (H.an,H1)/\Inv g0 B J ((H.an,.opn cells e [] 0)::m) H1:=by
 obtain⟨H1,ax,ad,dW,f1,arn⟩:=h.bF;obtain⟨bW,aS⟩:=ad.wf.new (.row cells e true H.cy 0 false);obtain⟨_,df,ef,e9,hv,fe⟩:=ar.pp aS;refine⟨bW,?_,?_⟩
 ·unfold ar.oO;rw[ax];simp only;rw[aS,dW]
 ·have:=ad.new (p:=.opn cells e [] 0) aS ⟨H.cy,.inl arn,by rw[fe,aV rfl],by rw[ef,f1,dW]⟩;rwa [dW] at this
inductive gB:List (Nat×dI)->Nat->dI->dI->List (Nat×dI)->Prop
 |head (a:Nat) (b b':dI) (m:List (Nat×dI)):gB ((a,b)::m) a b b' ((a,b')::m)
 |tail (x:Nat×dI) {m m':List (Nat×dI)} {a:Nat} {b b':dI}:gB m a b b' m'->gB (x::m) a b b' (x::m')
theorem gB.mem{m m':List (Nat×dI)}{a:Nat}{b b':dI}(h:gB m a b b' m'):(a,b)∈m:=by
 induction h with
 |head=>exact .head _
 |tail _ _ aP=>exact .tail _ aP
theorem gB.abr{m m':List (Nat×dI)}{a:Nat}{b b':dI}(h:gB m a b b' m')(aE:(m.map Prod.fst).Nodup):∀x c,(x,c)∈m'->(x=a/\c=b')\/(x≠a/\(x,c)∈m):=by
 induction h with
 |head a b b' m=>
  intro x c aa;rw[rD,vn] at aE;rcases gj.1 aa with q|q
  ·injection q with aL aG;exact .inl ⟨aL,aG⟩
  ·refine .inr ⟨fun e=>aE.1 ?_,.tail _ q⟩;subst e;exact A1.2 ⟨_,q,rfl⟩
 |tail y aw aP=>
  intro x c aa;rw[rD,vn] at aE;rcases gj.1 aa with q|q
  ·refine .inr ⟨fun e=>aE.1 ?_,by rw[q];exact .head _⟩;have:y.1=x:=by rw[<-q]
   rw[this,e];exact A1.2 ⟨_,aw.mem,rfl⟩
  ·rcases aP aE.2 x c q with r|⟨dq,c2⟩
   ·exact .inl r
   ·exact .inr ⟨dq,.tail _ c2⟩
theorem gB.ids{m m':List (Nat×dI)}{a:Nat}{b b':dI}(h:gB m a b b' m')(ao:b'.rest=[]):(ids m').Sublist (ids m):=by
 induction h with
 |head a b b' m=>show(a::(b'.rest++Opn.ids m)).Sublist (a::(b.rest++Opn.ids m));rw[ao];exact .cons_cons _ (DJ _ _)
 |tail x _ aP=>exact .cons_cons _ ((iZ _).append (aP ao))
theorem Inv.upd(h:Inv g0 B J m H){a:Nat}{b p:dI}{c:fB}{H1:ar}(aw:gB m a b p m')(ax:H.upd a c=some H1)(aC:p.at B.zM H1 a)(ao:p.rest=[]:=by rfl):Inv g0 B J m' H1:=by
 obtain⟨aW,aT,bo,cu⟩:=h.own a _ aw.mem;have eh:=apn h.gF;have cD:=h.lt aw.mem;obtain⟨b1,df,ef,e9,hv⟩:=ar.rn ax;refine⟨h.wf.N' cD ax,e9.trans h.bL,by rw[b1];exact h.an,by rw[ef];exact h.cy,fun x aa ft=>?_,fun f aA=>by rw[df];exact h.nB f aA,fun x c e aX=>?_,h.le,h.fresh,fun x b ai=>?_,fun x b ai y ap=>?_,(aw.ids ao).nodup h.gF⟩
 ·rw[hv,aQ (fun q=>by subst q;rcases aT with q|q;·omega
                      ·exact ft q)]
  exact h.gn x aa ft
 ·obtain⟨o,f,z,s,q⟩:=h.ei x c e aX
  exact⟨o,f,z,s,by rw[hv,aQ (fun r=>by subst r;rw[bo] at aX;cases aX)];exact q⟩
 ·rcases aw.abr eh x b ai with⟨rfl,rfl⟩|⟨aL,aG⟩
  ·exact⟨aC,aT,bo,cu⟩
  ·obtain⟨ec,dA,ib,j8⟩:=h.own x b aG
   exact⟨dI.xo ec (by rw[hv,aQ aL]) (fun f l aA=>by rw[df];exact aA),dA,ib,j8⟩
 ·rcases aw.abr eh x b ai with⟨rfl,rfl⟩|⟨aL,aG⟩
  ·rw[ao] at ap;cases ap
  ·rw[b1];exact h.opn x b aG y ap
theorem Inv.store{a:Nat}{cells cells':List Value}{e:TypeId}(h:Inv g0 B J m H)(aw:gB m a (.row cells e) (.row cells' e) m'):
 ∃H1,H.upd a (.row cells' e false 0 0 false)=some H1/\Inv g0 B J m' H1:=by
 obtain⟨H1,ax⟩:=h.wf.upd (.row cells' e false 0 0 false) (h.lt aw.mem);exact⟨H1,ax,h.upd aw ax (by show H1.mem.get a=_;rw[(ar.rn ax).2.2.2.2,aV rfl])⟩
theorem Inv.sub(h:Inv g0 B J m H)(hs:m'.Sublist m):Inv g0 B J m' H:=
 ⟨h.wf,h.bL,h.an,h.cy,h.gn,h.nB,h.ei,h.le,h.fresh,fun a b q=>h.own a b (hs.subset q),fun a b q=>h.opn a b (hs.subset q),(apo hs).nodup h.gF⟩
def aj.add(J:aj)(a:Nat)(x:List Value×TypeId):aj:=fun i=>if i=a then some x else J i
theorem aj.iE(J:aj)(a:Nat)(x:List Value×TypeId):(J.add a x) a=some x:=aV rfl
theorem aj.agu{J:aj}{a:Nat}{x:List Value×TypeId}(h:J a=none):J.le (J.add a x):=fun i y q=>by
 unfold aj.add;split
 ·rename_i e;subst e;rw[h] at q;cases q
 ·exact q
def dI.rowOf:dI->Option (List Value×TypeId)
 |.row c e=>some (c,e)
 |.opn c e _ _=>some (c,e)
 |.map _ _=>none
 |.loop _=>none
 |.gP=>none
theorem Inv.ie{a:Nat}{b:dI}{x:List Value×TypeId}(h:Inv g0 B J ((a,b)::m) H)(aa:b.rowOf=some x):Inv g0 B (J.add a x) m H/\J.le (J.add a x):=by
 obtain⟨aW,aT,bo,cu⟩:=h.own a b (.head _);have eh:=h.gF;rw[show ids ((a,b)::m)=a::(b.rest++ids m) from rfl,vn,nh] at eh;have hle:=aj.agu (x:=x) bo;refine⟨⟨h.wf,h.bL,h.an,h.cy,h.gn,h.nB,fun i c e aX=>?_,h.le.trans hle,fun i y q ap=>?_,fun i p aw=>?_,fun i p aw y ap=>?_,(DJ _ _).nodup eh.2⟩,hle⟩
 ·unfold aj.add at aX;split at aX
  ·rename_i q;subst q;injection aX with aX;subst aX
   cases b with
   |row c' bD=>injection aa with aa;injection aa with ad ae;subst ad;subst ae;exact⟨_,_,_,_,aW⟩
   |opn c' bD r z=>injection aa with aa;injection aa with ad ae;subst ad;subst ae;obtain⟨f,_,k,_⟩:=aW;exact⟨_,_,_,_,k⟩
   |map es k=>cases aa
   |loop r=>cases aa
   |gP=>cases aa
  ·exact h.ei i c e aX
 ·unfold aj.add at ap;split at ap
  ·rename_i e;subst e;exact aT
  ·exact h.fresh i y q ap
 ·obtain⟨ec,dA,ib,j8⟩:=h.own i p (.tail _ aw);refine⟨ec,dA,?_,j8⟩;unfold aj.add;rw[aQ]
  ·exact ib
  ·intro e;subst e;exact eh.1 (.inr (Ag aw))
 ·obtain⟨ec,dA,ib⟩:=h.opn i p (.tail _ aw) y ap;refine⟨ec,dA,?_⟩;unfold aj.add;rw[aQ]
  ·exact ib
  ·intro e;subst e;exact eh.1 (.inr (Cu.2 ⟨_,aw,.inr ap⟩))
end
end
end Go.Opn

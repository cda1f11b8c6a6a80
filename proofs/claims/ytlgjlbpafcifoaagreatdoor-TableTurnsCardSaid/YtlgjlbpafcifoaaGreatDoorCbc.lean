/- A part of the proof of TableTurns. -/
import Derived.Test.YtlgjlbpafcifoaaGreatDoorCbb
import Derived.Test.YtlgjlbpafcifoaaGreatDoorCay
import Derived.Test.YtlgjlbpafcifoaaGreatDoorCaw
import Derived.Test.YtlgjlbpafcifoaaGreatDoorCat
import Derived.Test.YtlgjlbpafcifoaaGreatDoorCas
set_option linter.unusedVariables false
namespace Go.Opn
noncomputable section
def ta:List b5->Int
 |[]=>0
 |x::l=>if kQ x=0 then ta l else kQ x
def hg:List b5->Nat
 |[]=>1
 |x::l=>aI x.den*hg l
def shr(s:Nat)(x:b5):Nat:=aI x.num*(s / aI x.den)
def iB(l:List b5):List Nat:=l.map (shr (hg l))
def kj(l:List b5):Prop:=∀x∈l,kQ x=0
def qs(l:List b5):Prop:=∀x∈l,x.num.length<=4/\x.den.length<=4
theorem NI{x:b5}{l:List b5}(h:kQ x=0):ta (x::l)=ta l:=a2 h
theorem wh:∀{l:List b5} {i:Nat} {x:b5},(∀y∈l.take i,kQ y=0)->l[i]?=some x->kQ x≠0->ta l=kQ x
 |[],_,_,_,U,_=>by cases U
 |y::l,0,x,_,U,h=>by
  have e:y=x:=by injection U
  subst e
  exact aZ h
 |y::l,i+1,x,aJ,U,h=>by
  rw[NI (aJ y (by rw[D8];exact .head _))]
  exact wh (fun z aG=>aJ z (by rw[D8];exact .tail _ aG)) U h
theorem NJ:∀{l:List b5},kj l->ta l=0
 |[],_=>rfl
 |x::l,h=>by rw[NI (h x (.head _))];exact NJ fun y au=>h y (.tail _ au)
theorem M3:∀{l:List b5} {x:b5},x∈l->aI x.den ∣ hg l
 |y::l,x,h=>by
  rcases fU.1 h with q|q
  ·rw[q];exact Nat.dvd_mul_right _ _
  ·exact Ir (M3 q) (Nat.dvd_mul_left _ _)
theorem s7:∀{l:List b5},kj l->0<hg l
 |[],_=>Nat.one_pos
 |x::l,h=>kp (rR (h x (.head _))).2.2.2.1 (s7 fun y au=>h y (.tail _ au))
theorem ao5{x:b5}{s:Nat}(h:kQ x=0)(al:aI x.den ∣ s)(hs:0<s):bn (shr s x:Int) s=x.rt:=by
 obtain⟨_,_,_,aD⟩:=rR h
 refine(AN aD hs ?_).symm
 obtain⟨k,hk⟩:=al
 have CB:0<aI x.den:=aD.1
 show((aI x.num:Nat):Int)*s=(shr s x:Int)*(aI x.den:Nat)
 unfold shr
 rw[hk,vJ _ CB]
 norm_cast
 rw[e4,dp k]
theorem Ro{l:List b5}(h:kj l):(iB l).map (fun p:Nat=>bn (p:Int) (hg l))=l.map b5.rt:=by
 unfold iB
 rw[SW]
 exact List.map_congr_left fun x U=>ao5 (h x U) (M3 U) (s7 h)
theorem EN:∀{l:List b5},kj l->qs l->(ag (hg l)).length<=4*l.length+1
 |[],_,_=>kZ bm
 |x::l,h,a6=>by
  have ab:=EN (l:=l) (fun y au=>h y (.tail _ au)) fun y au=>a6 y (.tail _ au)
  have ad:=(rR (h x (.head _))).2.2.1
  have aL:(ag (aI x.den)).length<=4:=by rw[<-ad];exact(a6 x (.head _)).2
  have:=yF aL ab
  rw[lc]
  exact dA this I
theorem Z5{k:Nat}:∀{ps:List Nat},(∀p∈ps,(ag p).length<=k)->(ag ps.sum).length<=k+ps.length
 |[],_=>by rw[S4,nl];exact df _
 |p::ps,h=>by
  have ab:=Z5 (k:=k) (ps:=ps) fun q bI=>h q (.tail _ bI)
  rw[qD,lc]
  exact Xn (k:=k+ps.length) (dA (h p (.head _)) (L' _ _)) ab
theorem ao3{l:List b5}(h:kj l)(a6:qs l):∀p∈iB l,(ag p).length<=4*l.length+5:=fun p ao=>by
 obtain⟨x,U,rfl⟩:=pM.1 ao
 have ad:=(rR (h x U)).2.1
 have aL:(ag (aI x.num)).length<=4:=by rw[<-ad];exact(a6 x U).1
 have fb:(ag (hg l / aI x.den)).length<=4*l.length+1:=dA (n5 (qE _ _)) (EN h a6)
 exact dA (yF aL fb) I
theorem qt(l:List b5):(iB l).length=l.length:=eP _
theorem Zu{l:List b5}(h:kj l)(a6:qs l):(ag (iB l).sum).length<=5*l.length+5:=by
 have:=Z5 (ao3 h a6)
 rw[qt] at this;omega
def lA (l:List b5):Int:=if l.length<1\/10<l.length then 3 else if ta l=0 then(if(iB l).sum=hg l then 0 else 14) else ta l
theorem Rj{l:List b5}(h:l.length<1\/10<l.length):lA l=3:=a2 h
theorem Hp{l:List b5}(h:¬(l.length<1\/10<l.length))(ad:ta l≠0):lA l=ta l:=by unfold lA;rw[aZ h,aZ ad]
theorem Rk{l:List b5}(h:¬(l.length<1\/10<l.length))(ad:kj l)(aL:(iB l).sum≠hg l):lA l=14:=by unfold lA;rw[aZ h,a2 (NJ ad),aZ aL]
theorem Zh{l:List b5}(h:¬(l.length<1\/10<l.length))(ad:kj l)(aL:(iB l).sum=hg l):lA l=0:=by unfold lA;rw[aZ h,a2 (NJ ad),a2 aL]
theorem UI:∀{l:List b5},ta l=0->kj l
 |[],_=>fun x U=>by cases U
 |x::l,h=>by
  by_cases q:kQ x=0
  ·rw[NI q] at h
   intro y au
   rcases fU.1 au with e|e
   ·rw[e];exact q
   ·exact UI h y e
  ·exact absurd ((aZ q).symm.trans h) q
theorem Lb{l:List b5}(h:lA l=0):1<=l.length/\l.length<=10/\kj l/\(iB l).sum=hg l:=by
 by_cases q:l.length<1\/10<l.length
 ·rw[Rj q] at h;cases h
 ·by_cases aH:ta l=0
  ·have ad:=UI aH
   by_cases bJ:(iB l).sum=hg l
   ·exact⟨I,I,ad,bJ⟩
   ·rw[Rk q ad bJ] at h;cases h
  ·rw[Hp q aH] at h;exact absurd h aH
theorem M4{x:b5}:∀{l:List b5},hg (l++[x])=hg l*aI x.den
 |[]=>by show aI x.den*1=1*aI x.den;rw[gJ,h']
 |y::l=>by
  show aI y.den*hg (l++[x])=aI y.den*hg l*aI x.den
  rw[M4,e4]
theorem ao4{x:b5}{s k:Nat}(h:kQ x=0)(al:aI x.den ∣ s):shr (s*k) x=shr s x*k:=by
 obtain⟨_,_,_,aD⟩:=rR h
 have CB:0<aI x.den:=aD.1
 obtain⟨j,aY⟩:=al
 unfold shr
 rw[aY,e4,vJ _ CB,vJ _ CB,e4]
theorem Z6(k:Nat)(f g:b5->Nat):∀{l:List b5},(∀x∈l,f x=g x*k)->(l.map f).sum=(l.map g).sum*k
 |[],_=>by rw[List.map_nil,List.map_nil,S4,jA]
 |x::l,h=>by
  rw[uj,uj,qD,qD,cR,h x (.head _),Z6 k f g fun y au=>h y (.tail _ au)]
theorem ao7{x:b5}{l:List b5}(h:kj l)(U:kQ x=0):(iB (l++[x])).sum=(iB l).sum*aI x.den+aI x.num*hg l:=by
 unfold iB
 rw[xR,List.sum_append,List.map_singleton,List.sum_singleton,M4]
 rw[Z6 (aI x.den) (shr (hg l*aI x.den)) (shr (hg l)) fun y au=>ao4 (h y au) (M3 au)]
 obtain⟨_,_,_,aD⟩:=rR U
 have CB:0<aI x.den:=aD.1
 unfold shr
 rw[sQ _ CB]
def jv(l:List b5):cY:=bn ((iB l).sum:Int) (hg l)
theorem aqc:jv []=⟨0,1⟩:=pr (d:=1) Nat.one_pos
theorem Lo{l:List b5}(h:kj l):(jv l).h7:=ml (s7 h)
theorem aqe{x:b5}{l:List b5}(h:kj l)(U:kQ x=0):bn ((jv l).z*(x.rt.d:Nat)+x.rt.z*((jv l).d:Nat)) ((jv l).d*x.rt.d)=jv (l++[x]):=by
 obtain⟨_,_,_,aD⟩:=rR U
 have ab:=QJ (X:=((iB l).sum:Int)) (Y:=x.rt.z) (s7 h) aD.1
 rw[AM aD] at ab
 unfold jv
 rw[ab,ao7 h U,M4]
 congr 1
theorem Hx{l:List b5}(h:kj l):¬(jv l).z<0:=yN (s7 h)
theorem aan{l:List b5}(h:kj l)(a6:qs l)(ap:l.length<=10):(ag (jv l).z.natAbs).length<=100/\(ag (jv l).d).length<=100:=by
 have ab:=EN h a6
 have ad:=Zu h a6
 have aL:=QK (z:=((iB l).sum:Int)) (s7 h)
 rw[hK] at aL
 exact⟨dA (n5 aL.1) I,dA (n5 aL.2) I⟩
theorem Uu{x:b5}(h:kQ x=0)(a6:x.num.length<=4/\x.den.length<=4):(ag x.rt.z.natAbs).length<=4/\(ag x.rt.d).length<=4:=by
 obtain⟨_,ab,ad,_⟩:=rR h
 exact⟨by show(ag (aI x.num)).length<=4;rw[<-ab];exact a6.1,by show(ag (aI x.den)).length<=4;rw[<-ad];exact a6.2⟩
theorem aao{l:List b5}(h:kj l):sv ((jv l).z*((1:Nat):Int) -1*((jv l).d:Int))=0↔(iB l).sum=hg l:=by
 have hs:=s7 h
 have ab:=w' (z:=((iB l).sum:Int)) hs
 have al:0<(jv l).d:=(Lo h).1
 have e:sv ((jv l).z*((1:Nat):Int) -1*((jv l).d:Int))=0↔(jv l).z=((jv l).d:Int):=by
  unfold sv
  split
  ·omega
  ·split<;>omega
 rw[e]
 change (jv l).z*(hg l:Int)=((iB l).sum:Int)*((jv l).d:Int) at ab
 constructor
 ·intro q
  rw[q,j5] at ab
  have:=DZ I ab
  omega
 ·intro q
  rw[q,j5 ((hg l:Nat):Int)] at ab
  exact DZ I ab
open Classical in
theorem T9{l:List b5}(h:lA l=0)(a6:qs l):(ag (hg l)).length<=41:=by
 obtain⟨ab,ad,aL,_⟩:=Lb h
 have:=EN aL a6
 omega
end
end Go.Opn
set_option linter.unusedSimpArgs false
namespace Go.Opn
noncomputable section
open Classical
def p0 {α:Type}(f:α->Int):List α->Int
 |[]=>0
 |x::l=>if f x≠0 then f x else p0 f l
theorem ye{α:Type}{f:α->Int}{x:α}:∀{l:List α} {i:Nat},(∀y∈l.take i,f y=0)->l[i]?=some x->f x≠0->p0 f l=f x:=by
 intro l;induction l with
 |nil=>intro i _ h;cases h
 |cons y l aP=>
  intro i h U ai;cases i with
  |zero=>injection U with U;subst U;show(if f y≠0 then f y else _)=_;rw[a2 ai]
  |succ i=>
   have aN:f y=0:=h y (by rw[D8];exact .head _);show(if f y≠0 then f y else p0 f l)=_;rw[aZ (fun q=>q aN)];exact aP (fun z aG=>h z (by rw[D8];exact .tail _ aG)) U ai
theorem Ja{α:Type}{f:α->Int}:∀{l:List α},(∀y∈l,f y=0)->p0 f l=0:=by
 intro l;induction l with
 |nil=>intro _;rfl
 |cons y l aP=>
  intro h;show(if f y≠0 then f y else p0 f l)=_;rw[aZ (fun q=>q (h y (.head _)))];exact aP fun z aG=>h z (.tail _ aG)
theorem UJ{α:Type}{f:α->Int}:∀{l:List α},p0 f l=0->∀y∈l,f y=0:=by
 intro l;induction l with
 |nil=>intro _ y h;cases h
 |cons y l aP=>
  intro h z aG;have h:(if f y≠0 then f y else p0 f l)=0:=h;by_cases q:f y=0
  ·rw[aZ (fun r=>r q)] at h;cases aG with
   |head=>exact q
   |tail _ aG=>exact aP h z aG
  ·rw[a2 q] at h;exact absurd h q
theorem KS{α:Type}{f:α->Int}{x:α}{l:List α}{i:Nat}(h:∀y∈l.take i,f y=0)(U:l[i]?=some x)(aN:f x=0):∀y∈l.take (i+1),f y=0:=by
 rw[ko,U];intro y au;rcases nB.1 au with q|q
 ·exact h y q
 ·cases q with
  |head=>exact aN
  |tail _ q=>cases q
def ns (M:Nat)(l:List Int):Int:=if l.length<1\/10<l.length then 3 else if ∃s∈l,s<0\/(M:Int)<s then 2 else if l.sum≠(M:Int) then 14 else 0
def nv (bits:Int)(ts:List (List Int)):Int:=if bits<1\/30<bits then 2 else if 200<ts.length then 4 else p0 (ns (2 ^ bits.toNat)) ts
def vo(M:Nat)(l:List Int):Prop:=∀s∈l,0<=s/\s<=(M:Int)
section
variable {M:Nat}{l:List Int}{i:Nat}{x:Int}
theorem Zl(h:l.length<1\/10<l.length):ns M l=3:=a2 h
theorem Zo(h:¬(l.length<1\/10<l.length))(U:l[i]?=some x)(ai:x<0\/(M:Int)<x):ns M l=2:=by
 unfold ns;rw[aZ h,a2 ⟨x,gh U,ai⟩]
theorem Zm(h:vo M l):¬∃s∈l,s<0\/(M:Int)<s:=fun⟨s,ab,ad⟩=>by have:=h s ab;omega
theorem Zp(h:¬(l.length<1\/10<l.length))(ah:vo M l)(hs:l.sum≠(M:Int)):ns M l=14:=by
 unfold ns;rw[aZ h,aZ (Zm ah),a2 hs]
theorem Zn(h:¬(l.length<1\/10<l.length))(ah:vo M l)(hs:l.sum=(M:Int)):ns M l=0:=by
 unfold ns;rw[aZ h,aZ (Zm ah),aZ (fun q=>q hs)]
theorem Rm(h:ns M l=0):1<=l.length/\l.length<=10/\vo M l/\l.sum=(M:Int):=by
 unfold ns at h;split at h
 ·cases h
 ·split at h
  ·cases h
  ·rename_i ab ad;split at h
   ·cases h
   ·rename_i aL;refine⟨I,I,fun s hs=>?_,iF aL⟩;have:¬(s<0\/(M:Int)<s):=fun q=>ad ⟨s,hs,q⟩;omega
theorem ZK:vo M (l.take 0):=fun s hs=>by cases hs
theorem ZL(h:vo M (l.take i))(U:l[i]?=some x)(ai:¬(x<0\/(M:Int)<x)):vo M (l.take (i+1)):=by
 rw[ko,U];intro y au;rcases nB.1 au with q|q
 ·exact h y q
 ·cases q with
  |head=>omega
  |tail _ q=>cases q
theorem Z7(U:l[i]?=some x):(l.take (i+1)).sum=(l.take i).sum+x:=by
 rw[ko,U,List.sum_append];simp
theorem Z4:∀{l:List Int} {n:Nat},vo M l->l.length<=n->0<=l.sum/\l.sum<=((n*M:Nat):Int):=by
 intro l;induction l with
 |nil=>intro n _ _;exact⟨LN _,by show(0:Int)<=_;omega⟩
 |cons a l aP=>
  intro n h ap;cases n with
  |zero=>cases ap
  |succ n=>
   have ab:=h a (.head _);have ad:=aP (n:=n) (fun s hs=>h s (.tail _ hs)) (Nat.le_of_succ_le_succ ap);rw[qD,cR,h'];omega
theorem aaa{bits:Int}{ts:List (List Int)}(h:bits<1\/30<bits):nv bits ts=2:=a2 h
theorem aab{bits:Int}{ts:List (List Int)}(h:¬(bits<1\/30<bits))(ad:200<ts.length):nv bits ts=4:=by unfold nv;rw[aZ h,a2 ad]
theorem aac{bits:Int}{ts:List (List Int)}(h:¬(bits<1\/30<bits))(ad:¬200<ts.length):nv bits ts=p0 (ns (2 ^ bits.toNat)) ts:=by unfold nv;rw[aZ h,aZ ad]
end
end
end Go.Opn
namespace Go.Opn
noncomputable section
def ru(l:List Int)(j:Nat):List Int:=(l.set (j+1) (l.getD j 0)).set j (l.getD (j+1) 0)
def j8(f:Int->Int->Int):Nat->List Int->List Int
 |0,l=>l
 |j+1,l=>if f (l.getD (j+1) 0) (l.getD j 0)<0 then j8 f j (ru l j) else l
def lS(f:Int->Int->Int):Nat->List Int->List Int
 |0,l=>l
 |k+1,l=>j8 f (k+1) (lS f k l)
def i'(n:Nat):List Int:=(List.range n).map fun(i:Nat)=>Int.ofNat i
theorem RJ:∀{l:List Int} {j:Nat},j+1<l.length->(ru l j).Perm l
 |a::b::l,0,_=>.swap a b l
 |a::l,j+1,h=>.cons a (RJ (l:=l) (j:=j) (by simp at h;omega))
theorem A8{l:List Int}{j:Nat}:(ru l j).length=l.length:=by unfold ru;rw[g6,g6]
theorem xw{l:List Int}{j i:Nat}(h:j+1<l.length):(ru l j).getD i 0=if i=j then l.getD (j+1) 0 else if i=j+1 then l.getD j 0 else l.getD i 0:=by
 unfold ru;rw[gI,mz,mz,g6];by_cases ab:i=j
 ·subst ab;rw[a2 rfl,a2 rfl,a2 I];rfl
 ·rw[aZ (fun q=>ab q.symm),aZ ab];by_cases ad:i=j+1
  ·subst ad;rw[a2 rfl,a2 rfl,a2 h];rfl
  ·rw[aZ (fun q=>ad q.symm),aZ ad,<-gI]
theorem acZ{f:Int->Int->Int}:∀{j:Nat} {l:List Int},j<l.length->(j8 f j l).Perm l:=by
 intro j;induction j with
 |zero=>intro l _;exact .refl _
 |succ j aP=>
  intro l ap;unfold j8;split
  ·exact(aP (by rw[A8];omega)).trans (RJ ap)
  ·exact .refl _
theorem C3{f:Int->Int->Int}:∀{k:Nat} {l:List Int},k<l.length->(lS f k l).Perm l:=by
 intro k;induction k with
 |zero=>intro l _;exact .refl _
 |succ k aP=>
  intro l ap;have ab:=aP (l:=l) I;exact(acZ (by rw[ab.length_eq];omega)).trans ab
def ab8(r:Int->Nat)(l:List Int)(k j:Nat):Prop:=(∀a b,a<b->b<=k->a≠j->b≠j->r (l.getD b 0)<=r (l.getD a 0))/\∀b,j<b->b<=k->r (l.getD b 0)<=r (l.getD j 0)
def Ix(r:Int->Nat)(l:List Int)(k:Nat):Prop:=∀a b,a<b->b<=k->r (l.getD b 0)<=r (l.getD a 0)
theorem ac0{r:Int->Nat}{f:Int->Int->Int}(aA:∀a b,f a b<0↔r b<r a){k:Nat}:∀{j:Nat} {l:List Int},j<=k->k<l.length->ab8 r l k j->Ix r (j8 f j l) k:=by
 intro j;induction j with
 |zero=>
  intro l _ _ h a b iV ai;by_cases aN:a=0
  ·subst aN;exact h.2 b iV ai
  ·exact h.1 a b iV ai aN I
 |succ j aP=>
  intro l aY hk h;unfold j8;split
  ·rename_i b9;have b9:=(aA _ _).1 b9;have JK:j+1<l.length:=I;refine aP I (by rw[A8];exact hk) ⟨fun a b iV ai aF JB=>?_,fun b ai ah8=>?_⟩
   ·rw[xw JK,xw JK,aZ aF,aZ JB];by_cases ab:a=j+1
    ·rw[a2 ab,aZ (show ¬b=j+1 by omega)];exact h.1 j b I ai I I
    ·rw[aZ ab];by_cases ad:b=j+1
     ·rw[a2 ad];exact h.1 a j I I I I
     ·rw[aZ ad];exact h.1 a b iV ai ab ad
   ·rw[xw JK,xw JK,aZ (show ¬b=j by omega),a2 rfl];by_cases ad:b=j+1
    ·rw[a2 ad];omega
    ·rw[aZ ad];exact h.2 b I ah8
  ·rename_i b9;have b9:¬r (l.getD j 0)<r (l.getD (j+1) 0):=fun q=>b9 ((aA _ _).2 q);intro a b iV ai;by_cases ab:a=j+1
   ·subst ab;exact h.2 b iV ai
   ·by_cases ad:b=j+1
    ·subst ad;by_cases aL:a=j
     ·subst aL;omega
     ·have:=h.1 a j I I ab I;omega
    ·exact h.1 a b iV ai ab ad
theorem WO{r:Int->Nat}{f:Int->Int->Int}(aA:∀a b,f a b<0↔r b<r a):∀{k:Nat} {l:List Int},k<l.length->Ix r (lS f k l) k:=by
 intro k;induction k with
 |zero=>intro l _ a b ab ad;omega
 |succ k aP=>
  intro l ap;have ab:=aP (l:=l) I;have dc:=(C3 (f:=f) (k:=k) (l:=l) I).length_eq;refine ac0 aA (bF _) I ⟨fun a b iV ai aF JB=>ab a b iV I,fun b ad aL=>by omega⟩
theorem pn{n:Nat}:(i' n).length=n:=by unfold i';rw[eP,List.length_range]
theorem Kd{n i:Nat}(h:i<n):(i' n)[i]?=some (i:Int):=by unfold i';rw[j6,SP h];rfl
theorem WS{n:Nat}:∀x∈i' n,0<=x/\x<n:=fun x U=>by
 obtain⟨i,ak,rfl⟩:=pM.1 U;have:=SZ.1 ak;show 0<=(i:Int)/\(i:Int)<n;omega
theorem akq{n:Nat}:(i' n).Nodup:=by
 unfold i';refine List.Pairwise.map _ (fun a b h q=>h (by injection q)) List.nodup_range
def bB(M s p:Nat):Nat:=p*M % s
def fK(ps:List Nat)(s M:Nat):List Nat:=ps.map fun p=>p*M / s
def x6(ps:List Nat)(s M:Nat)(a b:Int):Int:=iN (bB M s (ps.getD b.toNat 0)) (bB M s (ps.getD a.toNat 0))
def fJ(ps:List Nat)(s M:Nat):List Int:=lS (x6 ps s M) (ps.length -1) (i' ps.length)
def jL(o:List Nat)(i:Int):List Nat:=o.set i.toNat (o.getD i.toNat 0+1)
def k1(ps:List Nat)(s M:Nat):Nat:=M -(fK ps s M).sum
def Ho(ps:List Nat)(s M:Nat):List Nat:=((fJ ps s M).take (k1 ps s M)).foldl jL (fK ps s M)
theorem I0{x y:Nat}:iN x y<0↔x<y:=by unfold iN;split<;>(try split)<;>omega
theorem Yy{s M:Nat}:∀ps:List Nat,(fK ps s M).sum*s+(ps.map (bB M s)).sum=ps.sum*M
 |[]=>by simp[fK]
 |p::ps=>by
  have aP:=Yy (s:=s) (M:=M) ps;show(p*M / s+(fK ps s M).sum)*s+(bB M s p+(ps.map (bB M s)).sum)=(p::ps).sum*M;rw[qD,cR,cR,<-aP];have:p*M / s*s+bB M s p=p*M:=by rw[dp];exact lI _ _
  omega
theorem alw{α:Type}{r:Nat->α}(ps:List Nat):(i' ps.length).map (fun i=>r (ps.getD i.toNat 0))=ps.map r:=by
 refine D3 fun i=>?_;by_cases h:i<ps.length
 ·rw[j6,Kd h,j6,dX h];show some (r (ps.getD ((i:Int)).toNat 0))=_;rw[h9,gI,dX h];rfl
 ·rw[oe (by rw[eP,pn];omega),oe (by rw[eP];omega)]
theorem RH{s:Nat}:∀{l:List Nat},(∀x∈l,x<s)->l≠[]->l.sum<l.length*s
 |[],_,h=>absurd rfl h
 |[a],h,_=>by have:=h a (.head _);simp;exact this
 |a::b::l,h,_=>by
  have ab:=h a (.head _);have ad:=RH (s:=s) (l:=b::l) (fun x q=>h x (.tail _ q)) (by simp);rw[qD,lc,cR];omega
theorem Z8:∀{l:List Nat},(∀x∈l,x=0)->l.sum=0
 |[],_=>rfl
 |a::l,h=>by rw[qD,h a (.head _),Z8 (fun x q=>h x (.tail _ q))]
structure ab3 (ps:List Nat) (s M:Nat):Prop where
 out:(fK ps s M).sum<=M
 Ks:k1 ps s M<=ps.length
 G6:(fJ ps s M).length=ps.length
 xd:∀x∈fJ ps s M,0<=x/\x<ps.length
 Du:(fJ ps s M).Nodup
 pos:∀x∈(fJ ps s M).take (k1 ps s M),0<bB M s (ps.getD x.toNat 0)
theorem K'{ps:List Nat}{s M:Nat}(az:1<=ps.length)(hs:0<s)(ao:ps.sum=s):ab3 ps s M:=by
 have Pz:=Yy (s:=s) (M:=M) ps;rw[ao] at Pz;have JZ:∀p,bB M s p<s:=fun p=>fz _ hs;have ai':(fK ps s M).sum<=M:=by
  refine Nat.le_of_mul_le_mul_right (c:=s) ?_ hs;rw[dp M s];omega
 have Ah:k1 ps s M*s=(ps.map (bB M s)).sum:=by
  unfold k1;rw[Tf,dp M s];omega
 have hl:(ps.map (bB M s)).sum<ps.length*s:=by
  have:=RH (s:=s) (l:=ps.map (bB M s)) (fun x U=>by obtain⟨p,_,rfl⟩:=pM.1 U;exact JZ p) (by intro q;rw[List.map_eq_nil_iff] at q;rw[q] at az;simp at az);rwa [eP] at this
 have lq:k1 ps s M<ps.length:=Ec (a:=s) I;have CO:(fJ ps s M).Perm (i' ps.length):=C3 (by rw[pn];omega);have ia:(fJ ps s M).length=ps.length:=CO.length_eq.trans pn;have ai8:∀x∈fJ ps s M,0<=x/\x<ps.length:=fun x U=>WS x (CO.mem_iff.1 U);have JV:(fJ ps s M).Nodup:=CO.nodup_iff.2 akq;have F1:Ix (fun i=>bB M s (ps.getD i.toNat 0)) (fJ ps s M) (ps.length -1):=WO (f:=x6 ps s M) (r:=fun i=>bB M s (ps.getD i.toNat 0)) (fun a b=>I0) (k:=ps.length -1) (by rw[pn];omega);refine⟨ai',I,ia,ai8,JV,fun x U=>uk fun aN=>?_⟩;obtain⟨k,hk⟩:=Ih U;have aiL:k<k1 ps s M:=by
  have:=(gS.1 hk).1;rw[dY] at this;omega
 rw[D6 aiL] at hk;have aiK:(fJ ps s M).getD k 0=x:=by rw[gI,hk];rfl
 --all auI from place k on TE 0
 have h2:((fJ ps s M).map fun i=>bB M s (ps.getD i.toNat 0)).sum=(ps.map (bB M s)).sum:=by
  rw[<-alw (r:=bB M s) ps];exact(CO.map _).sum_nat
 have ls:(((fJ ps s M).take k).map fun i=>bB M s (ps.getD i.toNat 0)).sum+(((fJ ps s M).drop k).map fun i=>bB M s (ps.getD i.toNat 0)).sum=(ps.map (bB M s)).sum:=by
  rw[<-h2,<-List.sum_append_nat,<-xR,Il]
 have aG:(((fJ ps s M).drop k).map fun i=>bB M s (ps.getD i.toNat 0)).sum=0:=by
  refine Z8 fun v ar=>?_;obtain⟨i,ak,rfl⟩:=pM.1 ar;obtain⟨d,al⟩:=Ih ak;rw[oX] at al;have nW:=(gS.1 al).1;have uT:(fJ ps s M).getD (k+d) 0=i:=by rw[gI,al];rfl
  by_cases ix:d=0
  ·subst ix;rw[ik] at al uT;rw[al] at hk;injection hk with hk;subst hk;exact aN
  ·have:=F1 k (k+d) I I;simp only at this;rw[aiK,uT,aN] at this;omega
 rw[aG,ik] at ls;by_cases wH:k=0
 ·subst wH;rw[fq] at ls;have ls:0=(ps.map (bB M s)).sum:=ls;rw[<-ls] at Ah;rcases Nat.mul_eq_zero.1 Ah with h|h<;>omega
 ·have:=RH (s:=s) (l:=((fJ ps s M).take k).map fun i=>bB M s (ps.getD i.toNat 0)) (fun x U=>by obtain⟨p,_,rfl⟩:=pM.1 U;exact JZ _) (by
   intro q;have:=b6 List.length q;rw[eP,dY,fV I,D7] at this;exact wH this)
  rw[eP,dY,fV I,ls,<-Ah] at this;have:=Ec this;omega
theorem P0{o:List Nat}{i:Int}:(jL o i).length=o.length:=g6
theorem apR{l:List Nat}{i x y:Nat}(h:l[i]?=some x):(l.set i y).sum+x=l.sum+y:=by
 induction l generalizing i with
 |nil=>cases h
 |cons a l aP=>
  cases i with
  |zero=>injection h with h;subst h;rw[S2,qD,qD];omega
  |succ i=>have:=aP (i:=i) h;rw[List.set_cons_succ,qD,qD];omega
theorem C2:∀(is:List Int) (o:List Nat),(∀x∈is,0<=x/\x<o.length)->is.Nodup->(is.foldl jL o).length=o.length/\(is.foldl jL o).sum=o.sum+is.length/\∀i:Nat,i<o.length->(is.foldl jL o).getD i 0=if(i:Int)∈is then o.getD i 0+1 else o.getD i 0
 |[],o,_,_=>⟨rfl,rfl,fun i _=>by rw[aZ (by intro q;cases q)];rfl⟩
 |k::is,o,hm,az=>by
  have hk:=hm k (.head _);have U:=dX (l:=o) (i:=k.toNat) I;obtain⟨ab,ad,aL⟩:=C2 is (jL o k) (fun x q=>by rw[P0];exact hm x (.tail _ q)) az.of_cons;have ai1:k∉is:=(sN.1 az).1;have hs:=apR (y:=o.getD k.toNat 0+1) U;have ax:o.getD k.toNat 0=o[k.toNat]:=by rw[gI,U];rfl
  refine⟨ab.trans P0,?_,fun i ak=>?_⟩
  ·rw[Ig,ad,lc];show(o.set k.toNat (o.getD k.toNat 0+1)).sum+is.length=_;omega
  ·rw[Ig,aL i (by rw[P0];exact ak)];have aiF:(jL o k).getD i 0=if(i:Int)=k then o.getD i 0+1 else o.getD i 0:=by
    unfold jL;rw[gI,mz];by_cases r3:(i:Int)=k
    ·rw[a2 (show k.toNat=i by omega),a2 r3,a2 I,show k.toNat=i by omega];rfl
    ·rw[aZ (show ¬k.toNat=i by omega),aZ r3,gI]
   rw[aiF];by_cases r3:(i:Int)=k
   ·rw[a2 r3,aZ (by rw[r3];exact ai1),a2 (by rw[r3];exact .head _)]
   ·rw[aZ r3];by_cases q':(i:Int)∈is
    ·rw[a2 q',a2 (.tail _ q')]
    ·rw[aZ q',aZ (by intro q;rcases fU.1 q with q|q;exact r3 q;exact q' q)]
theorem anb{ps:List Nat}{s M i:Nat}(ak:i<ps.length):(fK ps s M).getD i 0=ps.getD i 0*M / s:=by
 unfold fK;rw[gI,j6,gI,dX ak];rfl
structure ab4 (ps:List Nat) (s M:Nat) (vs:List Nat):Prop where
 len:vs.length=ps.length
 sum:vs.sum=M
 at_:∀i,i<ps.length->vs.getD i 0=ps.getD i 0*M / s\/(vs.getD i 0=ps.getD i 0*M / s+1/\0<bB M s (ps.getD i 0))
theorem Zd{ps:List Nat}{s M:Nat}(az:1<=ps.length)(hs:0<s)(ao:ps.sum=s):ab4 ps s M (Ho ps s M):=by
 have F:=K' (M:=M) az hs ao;have ia:(fK ps s M).length=ps.length:=eP _;obtain⟨ab,ad,aL⟩:=C2 ((fJ ps s M).take (k1 ps s M)) (fK ps s M) (fun x U=>by rw[ia];exact F.xd x (vG U)) (F.Du.sublist (Io _ _));refine⟨ab.trans ia,?_,fun i ak=>?_⟩
 ·show(((fJ ps s M).take (k1 ps s M)).foldl jL (fK ps s M)).sum=M;have:=F.out;have:=F.Ks;rw[ad,dY,F.G6,fV F.Ks];unfold k1;omega
 ·have a6:=aL i I;show(((fJ ps s M).take (k1 ps s M)).foldl jL (fK ps s M)).getD i 0=_\/_;rw[anb ak] at a6;by_cases hm:(i:Int)∈(fJ ps s M).take (k1 ps s M)
  ·rw[a2 hm] at a6;exact .inr ⟨a6,by have:=F.pos _ hm;rwa [h9] at this⟩
  ·rw[aZ hm] at a6;exact .inl a6
end
end Go.Opn
set_option maxRecDepth 100000
set_option maxHeartbeats 8000000
namespace Go.Opn
noncomputable section
open Go.Cre Go.RowKit Go.Proofs
theorem h8.arI{J ae:af}{r s:cY}{v1 v2 bt cv:Value}{x y:Bool}(h:h8 J r v1 v2)(gO:h8 ae s bt cv)(hle:J.le ae)(e:[Value.agg #[.bool x,v1,v2]]=[Value.agg #[.bool y,bt,cv]]):r.z.natAbs=s.z.natAbs:=by
 injection e with e
 injection e with e
 have e:[Value.bool x,v1,v2]=[.bool y,bt,cv]:=b6 Array.toList e;injection e with _ e
 injection e with e _
 exact h.n.oO gO.n hle e
def nt(z:Int):Int:=if z=0 then 0 else 1
section
variable {Q:cZ Tryz.prog}{g0:Nat}{J:af}
theorem ZP{r:cY}{v1 v2:Value}(h:h8 J r v1 v2)(aG:0<=r.z):Fn (aT Q g0) 94 [eC r v1 v2] [] J (fun u m' ae=>u=.int .i64 (nt r.z)/\m'=[]/\J.le ae):=by
 obtain⟨bs,d',bp,rfl,aK,jJ,h1⟩:=h.n.cA;obtain⟨bM,ej,bN,rfl,aH,mH,jK⟩:=h.d.cA;refine Fn.b8 (b7 Tryz.func94) rfl rfl fun H=>?_;refine rg ?_;refine gZ fun a7=>?_;refine aa 0x17c10aa6e702 ?_;refine If (fun eu=>?_) fun eu=>?_
 ·have eG:r.z=0:=pK.1 (jJ.z I);refine aa 0x1abe059 ?_;refine bo ?_;first
   |(have c:=eG;exact⟨by unfold nt;rw[a2 eG];rfl,rfl,af.le.refl _⟩)
   |exact⟨by unfold nt;rw[aZ wW];rfl,rfl,af.le.refl _⟩
 ·have wW:r.z≠0:=fun q=>by have:=jJ.iR (pK.2 q);omega
  refine aa 0x5f0a6e757 ?_;refine If (fun fC=>?_) fun fC=>?_
  ·exfalso;omega
  ·refine aa 0x6af816757 ?_;refine bo ?_;first
    |(have c:=eG;exact⟨by unfold nt;rw[a2 eG];rfl,rfl,af.le.refl _⟩)
    |exact⟨by unfold nt;rw[aZ wW];rfl,rfl,af.le.refl _⟩
theorem T4{r s:cY}{v1 v2 bt cv:Value}(aq:h8 J r v1 v2)(hs:h8 J s bt cv)(xr:0<=r.z)(sz:0<=s.z)(rd:0<r.d)(hU:0<s.d)(aN:r.z=0\/s.z=0):Fn (aT Q g0) 60 [eC r v1 v2,eC s bt cv] [] J (fun u m' ae=>u=.int .i64 (iN (r.z.natAbs*s.d) (s.z.natAbs*r.d))/\m'=[]/\J.le ae):=by
 have cx:=aq;have fE:=hs;obtain⟨bs,d',bp,rfl,aK,jJ,h1⟩:=aq.n.cA;obtain⟨bM,ej,bN,rfl,aH,mH,jK⟩:=aq.d.cA;obtain⟨cB,eD,cN,rfl,bJ,CL,An⟩:=hs.n.cA;obtain⟨ep,gA,e',rfl,dU,O9,Ao⟩:=hs.d.cA;have F7:eJ 8 (eC r (.slice bs d' bp) (.slice bM ej bN)) (eC r (.slice bs d' bp) (.slice bM ej bN))=true:=by simp[eJ,ks,aK,aH,qK]
 have CU:eJ 8 (eC s (.slice cB eD cN) (.slice ep gA e')) (eC s (.slice cB eD cN) (.slice ep gA e'))=true:=by simp[eJ,ks,bJ,dU,qK]
 have lO:min (max (nt r.z -nt s.z) (-1)) 1=iN (r.z.natAbs*s.d) (s.z.natAbs*r.d):=by
  unfold nt iN;by_cases ab:r.z=0
  ·rw[a2 ab,ab,SE,jA]
   by_cases ad:s.z=0
   ·rw[a2 ad,ad,SE,jA];rfl
   ·have:=kp (Int.natAbs_pos.2 ad) rd
    rw[aZ ad,a2 this];rfl
  ·have ad:s.z=0:=by rcases aN with h|h;exact absurd h ab;exact h
   have:=kp (Int.natAbs_pos.2 ab) hU;rw[aZ ab,a2 ad,ad,SE,jA,aZ I,a2 this];rfl
 have hw:IntKind.i64.wrap (nt r.z -nt s.z)=nt r.z -nt s.z:=by
  unfold nt;split<;>split<;>rfl
 have gr:nt r.z=nt s.z->¬nt r.z=0->False:=fun ab ad=>by
  rcases aN with h|h
  ·exact ad (by unfold nt;rw[a2 h])
  ·exact ad (ab.trans (by unfold nt;rw[a2 h]))
 refine Fn.b8 (b7 Tryz.func60) rfl rfl fun H=>?_;refine rg ?_;refine gZ fun bc=>?_;refine gZ fun cu=>?_;refine aa 0x5f02 ?_;refine aB.draw rfl (by kernel_rfl) (aX:=[.val 0,.val 2,.bD 1,.ca [2],.bD 3,.val 4,.val 5]) (by kernel_rfl) ?_;refine aa 0x796b ?_;refine' bh.dV rfl rfl rfl rfl rfl rfl rfl rfl rfl dt (ZP cx xr) ?_;rintro v' m' abq r4 ⟨rfl,rfl,_⟩;refine bh.ca ft ?_;refine' bh.dV rfl rfl rfl rfl rfl rfl rfl rfl rfl (cF (fun _ aF=>⟨rfl,r4,fun v m' bi de ⟨a,b,c⟩ ab ad=>⟨by rw[a,show r.z=s.z by have:=cx.arI fE (af.le.refl _) aF;omega],b,ad⟩⟩) dt) (ZP (fE.mono r4) sz) ?_;rintro v' m' abr uV ⟨rfl,rfl,_⟩;refine aa 0x120439c085e ?_;refine fs 15 (fun Co=>?_) fun Co=>?_
 ·skip
  refine aa 0x610e757c237b ?_;refine' W.step rfl (Exec.val rfl rfl (HE rfl rfl rfl rfl rfl) ?_);refine' W.step rfl (Exec.val rfl rfl (RU rfl rfl rfl rfl rfl) ?_);refine aa 0xd5f02 ?_;refine bo ?_;exact⟨by first|(rw[hw,lO];rfl)|(rw[lO];rfl),rfl,r4.trans uV⟩
 ·refine aa 0x17c2081 ?_;refine If (fun hW=>?_) fun hW=>?_
  ·refine aa 0x18439 ?_;refine' W.step rfl (Exec.val rfl rfl (HE rfl rfl rfl rfl rfl) ?_);refine' W.step rfl (Exec.val rfl rfl (RU rfl rfl rfl rfl rfl) ?_);refine aa 0xd5f02 ?_;refine bo ?_;exact⟨by first|(rw[hw,lO];rfl)|(rw[lO];rfl),rfl,r4.trans uV⟩
  ·exfalso;first|exact hW rfl|exact gr (Classical.not_not.1 Co) hW|exact gr Co hW
theorem T3{r s:cY}{v1 v2 bt cv:Value}(aq:h8 J r v1 v2)(hs:h8 J s bt cv)(hX:r.h7)(cs:s.h7)(xr:0<=r.z)(sz:0<=s.z){k j:Nat}(fr:lG k r)(hO:lG j s)(hk:k<=30000)(aY:j<=30000):Fn (aT Q g0) 60 [eC r v1 v2,eC s bt cv] [] J (fun u m' ae=>u=.int .i64 (iN (r.z.natAbs*s.d) (s.z.natAbs*r.d))/\m'=[]/\J.le ae):=by
 by_cases ab:r.z=0
 ·exact T4 aq hs xr sz hX.1 cs.1 (.inl ab)
 ·by_cases ad:s.z=0
  ·exact T4 aq hs xr sz hX.1 cs.1 (.inr ad)
  ·exact ad8 aq hs hX cs I I fr hO hk aY
theorem alt{v w:Value}{neg:Bool}(ab:cp J v 0){d:Nat}(ad:cp J w d):Fn (aT Q g0) 91 [.bool neg,v,w] [] J (ur J ⟨0,1⟩):=by
 have kd:=ab;have jH:=ad;obtain⟨bs,d',bp,rfl,aK,jJ,h1⟩:=ab.cA;obtain⟨bM,ej,bN,rfl,aH,mH,jK⟩:=ad.cA;have atp:=jJ.iR rfl;refine Fn.b8 (b7 Tryz.func91) rfl rfl fun H=>?_;refine rg ?_;refine gn fun ee=>?_;refine aa 0x5f0428738 ?_;refine If (fun eI=>?_) fun eI=>?_
 ·refine aa 0x357c7219 ?_;refine bo ?_;exact⟨af.le.refl _,rfl,.slice none 0 0,.slice none 0 0,rfl,cp.nil,cp.nil⟩
 ·exfalso;omega
end
def st(r:cY):cY:=bn ((r.z.natAbs % r.d:Nat):Int) r.d
theorem aoL{r:cY}(hX:r.h7)(h:r.z.natAbs % r.d=0):st r=⟨0,1⟩:=by unfold st;rw[h];exact pr hX.1
theorem aoK{r:cY}(hX:r.h7):st r=⟨((r.z.natAbs % r.d:Nat):Int),r.d⟩\/r.z.natAbs % r.d=0:=by
 refine .inl (AM (r:=⟨((r.z.natAbs % r.d:Nat):Int),r.d⟩) ⟨hX.1,?_⟩);show Nat.gcd (((r.z.natAbs % r.d:Nat):Int)).natAbs r.d=1;rw[hK,<-zq,oj];exact hX.2
section
variable {Q:cZ Tryz.prog}{g0:Nat}{J:af}
theorem alu{r:cY}{v w:Value}(hX:r.h7)(ab:cp J v (r.z.natAbs % r.d))(ad:cp J w r.d)(ap:(aS r.d).length<=100000):Fn (aT Q g0) 91 [.bool false,v,w] [] J (ur J (st r)):=by
 by_cases aN:r.z.natAbs % r.d=0
 ·rw[aoL hX aN]
  rw[aN] at ab;exact alt ab ad
 ·rcases aoK hX with e|e
  ·rw[e]
   exact Kp (r:=⟨((r.z.natAbs % r.d:Nat):Int),r.d⟩) (by show cp J v (((r.z.natAbs % r.d:Nat):Int)).natAbs;rw[hK];exact ab) ad (fun _=>(gL (by show ¬((r.z.natAbs % r.d:Nat):Int)<0;omega)).symm) (fun h=>absurd h (by show ¬((r.z.natAbs % r.d:Nat):Int)=0;omega)) (jl hX.1) ap
  ·exact absurd e aN
theorem ark{r:cY}{v1 v2:Value}(aq:h8 J r v1 v2)(hX:r.h7)(fr:lG 30000 r)(rc:r.z.natAbs / r.d<9223372036854775808):Fn (aT Q g0) 57 [eC r v1 v2] [] J (fun u m' ae=>J.le ae/\m'=[]/\∃bt cv,u=.tuple #[.int .i64 ((r.z.natAbs / r.d:Nat):Int),eC (st r) bt cv]/\h8 ae (st r) bt cv):=by
 have cx:=aq;obtain⟨bs,d',bp,rfl,aK,jJ,h1⟩:=aq.n.cA;obtain⟨bM,ej,bN,rfl,aH,mH,jK⟩:=aq.d.cA;have tE:=jl hX.1;have fG:=fr.n;have lx:=fr.d;have F7:eJ 8 (eC r (.slice bs d' bp) (.slice bM ej bN)) (eC r (.slice bs d' bp) (.slice bM ej bN))=true:=by simp[eJ,ks,aK,aH,qK]
 refine Fn.b8 (b7 Tryz.func57) rfl rfl fun H=>?_;refine rg ?_;refine gZ fun a7=>?_;refine eT V.IJ ?_;refine gn fun cu=>?_;refine sn ?_;refine aB.draw rfl (by kernel_rfl) (aX:=[.val 0,.val 1,.val 2,.bD 3,.ca [1,0],.bD 4,.val 5,.val 6,.val 7,.val 8,.val 9]) (by kernel_rfl) ?_;refine aa 0xf2d4d ?_;refine' bh.dV rfl rfl rfl rfl rfl rfl rfl rfl rfl dt (qJ cx tE) ?_;rintro v' m' bi aM ⟨_,rfl,qb⟩;have tA:=qb;obtain⟨fw,jO,gz,rfl,fP,_,_⟩:=qb.cA;refine bh.ca ft ?_;refine' bh.dV rfl rfl rfl rfl rfl rfl rfl rfl rfl (cF (dh rfl) dt) (Ng (cx.mono aM).n tA I I tE) ?_;rintro v' m' de a9 ⟨_,rfl,Lw,arf,rfl,tC,sb⟩;have pi:=tC;have n3:=sb;obtain⟨fi,gm,eu,rfl,je,V2,atC⟩:=tC.cA;obtain⟨jV,yI,fB,rfl,rq,_,_⟩:=sb.cA;have Pp:=(cx.mono aM).mono a9;refine aa 0x161ce04239c3e ?_;refine br (G:=qJ Pp tE) (h:=?_);rintro v' m' fe cq ⟨_,rfl,sc⟩;have rh:=sc;obtain⟨jm,oF,fC,rfl,pA,_,_⟩:=sc.cA;refine br (G:=alu hX (n3.mono cq) rh I) (h:=?_);rintro v' m' l5 ec ⟨_,rfl,jh,kD,rfl,b3⟩;have cg:=b3;obtain⟨gy,n7,eI,rfl,mO,_,_⟩:=b3.n.cA;obtain⟨kJ,w7,b2,rfl,nr,_,_⟩:=b3.d.cA;refine gn fun ee=>?_;refine aa 0xbe0850e71c ?_;refine If (fun j'=>?_) fun j'=>?_
 ·have eG:r.z.natAbs / r.d=0:=V2.z I;have CU:eJ 8 (eC (st r) (.slice gy n7 eI) (.slice kJ w7 b2)) (eC (st r) (.slice gy n7 eI) (.slice kJ w7 b2))=true:=by simp[eJ,ks,mO,nr,qK]
  refine a' ?_;refine aB.draw rfl (by kernel_rfl) (aX:=[.val 0,.val 1,.bD 2]) (by kernel_rfl) ?_;refine aa 0x357c704b ?_;refine bo ?_;first
   |(have c:=j';exact⟨((aM.trans a9).trans cq).trans ec,rfl,_,_,by rw[eG];rfl,cg⟩)
   |exact⟨((aM.trans a9).trans cq).trans ec,rfl,_,_,by rw[wrap_i64 (Int.le_trans bm (nz _)) I];rfl,cg⟩
 ·have wW:=V2.QR (fun q=>j' I);obtain⟨ee,aun,asv,hB,rfl,U4,Ar⟩:=pi.at wW;have rf:=sC wW I;rw[rf] at Ar;obtain⟨Se,PU,Ar,_⟩:=Ar 0 Nat.one_pos;injection PU with PU;subst PU
  have U4:=ec _ _ (cq _ _ U4);have CU:eJ 8 (eC (st r) (.slice gy n7 eI) (.slice kJ w7 b2)) (eC (st r) (.slice gy n7 eI) (.slice kJ w7 b2))=true:=by simp[eJ,ks,mO,nr,qK]
  refine aa 0x5f57 ?_;refine aB.draw rfl (by kernel_rfl) (aX:=[.val 0,.val 1,.val 2,.val 3,.val 4,.val 5,.bD 6]) (by kernel_rfl) ?_;refine aa 0x357c704b728c1 ?_;refine bo ?_;first
   |(have c:=j';exact⟨((aM.trans a9).trans cq).trans ec,rfl,_,_,by rw[eG];rfl,cg⟩)
   |exact⟨((aM.trans a9).trans cq).trans ec,rfl,_,_,by rw[wrap_i64 (Int.le_trans bm (nz _)) I];rfl,cg⟩
end
abbrev mj(pre:List Value)(L:List Int)(post:List Value):List Value:=pre++(L.map (Value.int .i64)++post)
theorem GY{pre post:List Value}{L:List Int}{j k:Nat}{x:Int}(h:L[j]?=some x)(hk:k=pre.length+j):nth (mj pre L post) k=some (.int .i64 x):=by
 subst hk;have ap:=(gS.1 h).1;rw[kA,D5 I,D4 (by rw[eP];omega),show pre.length+j -pre.length=j by omega,j6,h];rfl
theorem ZU{pre post:List Value}{L:List Int}{j k:Nat}{v:Int}(h:j<L.length)(hk:k=pre.length+j):gf k (mj pre L post) [.int .i64 v]=some (mj pre (L.set j v) post):=by
 subst hk;rw[aph (pre.length+j) (by rw[eY,eY,eP];omega)];unfold mj;rw[L3 _ _ I,abC _ _ (by rw[eP];omega),show pre.length+j -pre.length=j by omega,Ii]
theorem getD_some{L:List Int}{j:Nat}{x:Int}(h:L[j]?=some x):L.getD j 0=x:=by rw[gI,h];rfl
theorem ac1{f:Int->Int->Int}{M:List Int}{j:Nat}(aY:1<=j)(h:f (M.getD j 0) (M.getD (j -1) 0)<0):j8 f (j -1) (ru M (j -1))=j8 f j M:=by
 obtain⟨k,rfl⟩:∃k,j=k+1:=⟨j -1,I⟩;rw[lg] at h;show j8 f k (ru M k)=if f (M.getD (k+1) 0) (M.getD k 0)<0 then j8 f k (ru M k) else M;rw[a2 h]
theorem acY{f:Int->Int->Int}{M:List Int}{j:Nat}(h:¬(1<=j/\f (M.getD j 0) (M.getD (j -1) 0)<0)):j8 f j M=M:=by
 cases j with
 |zero=>rfl
 |succ k=>
  rw[lg] at h;show(if f (M.getD (k+1) 0) (M.getD k 0)<0 then j8 f k (ru M k) else M)=M;rw[aZ (fun q=>h ⟨I,q⟩)]
section
variable {Q:cZ Tryz.prog}{g0:Nat}{J:af}
theorem aku{ot off cap n:Nat}{e:TypeId}{pre post:List Value}{D:List Int}{yc:FuncId}{qO:Array Value}{f:Int->Int->Int}{ok:Int->Prop}{jc:aO}(cK:D.length=n)(az:n<=1000)(JX:pre.length=off)(bu:∀x∈D,ok x)
 (aD:∀bi:af,J.le bi->∀a b,ok a->ok b->Fn (aT Q g0) yc (.int .i64 a::.int .i64 b::qO.toList) [] bi (fun v m' ae=>v=.int .i64 (f a b)/\m'=[]/\bi.le ae)):
 Fn (aT Q g0) 131 [.slice (some ⟨ot,off,none⟩) n cap,.int .i64 0,.int .i64 (n:Int),.func (.func yc) #[] qO] ((ot,.row (mj pre D post) e)::jc) J (fun v m' ae=>m'=(ot,.row (mj pre (lS f (n -1) D) post) e)::jc/\J.le ae):=by
 refine Fn.b8 (b7 Tryz.func131) rfl rfl fun H=>?_;refine aa 0x6af810c39 ?_;refine c8 [(8,.int .i64 (((0)+1:Nat):Int)),(0,_),(1,_),(2,_),(3,_)] ?_;refine a' ?_;refine' aB.bA (fun(bE:Nat×(List Int)×af)=>match bE with|(k,L,cb)=>⟨[(8,.int .i64 ((k+1:Nat):Int))],(ot,.row (mj pre L post) e)::jc,cb,(k=0\/k+1<=n)/\L=lS f k D/\L.length=n/\(∀x∈L,ok x)/\J.le cb,n -(k+1)⟩) ⟨0,D,J⟩ ?hs ?bb
 case hs=>exact⟨.inl rfl,rfl,cK,bu,af.le.refl _⟩
 case bb=>
  rintro⟨k,L,cb⟩ hinv;try simp only at hinv
  obtain⟨hk,a4,pb,Jn,bS⟩:=hinv;refine aa 0x2f820439 ?_;refine If (fun dZ=>?_) fun dZ=>?_
  ·refine aa 0x357c0839d5f57 ?_;refine c8 [(9,.int .i64 ((k+1):Int)),(0,_),(1,_),(2,_),(3,_),(8,_)] ?_;refine a' ?_;refine' aB.bA (fun(bE:Nat×(List Int)×af)=>match bE with|(j,M,gY)=>⟨[(9,.int .i64 (j:Int))],(ot,.row (mj pre M post) e)::jc,gY,j<=k+1/\j8 f j M=j8 f (k+1) L/\M.length=n/\(∀x∈M,ok x)/\J.le gY,j⟩) ⟨k+1,L,cb⟩ ?hs ?bb
   case hs=>exact⟨bF _,rfl,pb,Jn,bS⟩
   case bb=>
    rintro⟨j,M,gY⟩ hinv;try simp only at hinv
    obtain⟨aY,iw,Vb,Jp,mb⟩:=hinv;have atj:k+1<n:=I
    refine dN [0,1,2,3,8,9] ?_;refine a' ?_;refine' aB.aeq 0 [(34,.bool (decide (1<=j/\f (M.getD j 0) (M.getD (j -1) 0)<0)))] ?zJ ?zP;case zJ=>
     refine aB.draw rfl (by kernel_rfl) (aX:=[.val 0,.val 1,.val 2,.val 3,.val 4,.val 5,.val 6,.val 7,.val 8,.val 9,.val 10,.val 11,.val 12,.val 13,.bD 14,.val 15,.val 16]) (by kernel_rfl) ?_;refine aa 0x12043e ?_;refine abi 21 (fun agY=>?_) fun agY=>?_
     ·obtain⟨x,U⟩:∃x,M[j]?=some x:=⟨_,dX I⟩;obtain⟨y,au⟩:∃y,M[j -1]?=some y:=⟨_,dX I⟩;have ex:=getD_some U;have nR:=getD_some au;have VN:1<=j:=I
      refine aa 0x30421 ?_;refine' bh.HG rfl rfl rfl rfl rfl (ob rfl rfl ?aq (iy (g2 rfl) ?ar)) ?_;case aq=>exact qr
      case ar=>exact GY U I
      refine aa 0x30c21 ?_;refine' bh.HG rfl rfl rfl rfl rfl (ob rfl rfl ?aq (iy (g2 rfl) ?ar)) ?_;case aq=>exact qr
      case ar=>exact GY au I
      refine' bh.x2 rfl rfl rfl rfl rfl rfl rfl rfl rfl rfl dt (aD gY mb x y (Jp x (gh U)) (Jp y (gh au))) ?_;rintro v' m' H8 hle ⟨rfl,rfl,_⟩;refine aa 0x104 ?_;refine bh.nil ?_;exact ce
     ·have VN:¬1<=j:=I
      refine aa 0x37bdef7bdef7b ?_;refine bh.adF rfl rfl rfl rfl rfl rfl ?_;refine aa 0x11b ?_;refine bh.nil ?_;exact ce
    case zP=>
     intro SF aiS;have wk:=mb.trans aiS;refine a' ?_;refine If (fun zE=>?_) fun zE=>?_
     ·obtain⟨VN,b9⟩:=zE;obtain⟨x,U⟩:∃x,M[j]?=some x:=⟨_,dX I⟩;obtain⟨y,au⟩:∃y,M[j -1]?=some y:=⟨_,dX I⟩;have ex:=getD_some U;have nR:=getD_some au;refine aa 0x17d5f57 ?_;refine aB.draw rfl (by kernel_rfl) (aX:=[.val 0,.val 1,.val 2,.val 3,.val 4,.val 5,.val 6,.val 7,.val 8,.val 9,.val 10,.val 11,.val 12,.val 13,.val 14,.bD 15,.val 16,.ca [4,3,2],.bD 17]) (by kernel_rfl) ?_;refine aa 0x61842308421 ?_;refine' cm.val rfl rfl rfl rfl (ob rfl rfl ?aq (iy (g2 rfl) ?ar)) ?_;case aq=>exact qr
      case ar=>exact GY au I
      refine aa 0x1821 ?_;refine' cm.val rfl rfl rfl rfl (ob rfl rfl ?aq (iy (g2 rfl) ?ar)) ?_;case aq=>exact qr
      case ar=>exact GY U I
      refine xM rfl V.c7 ?_;refine' cm.pW rfl rfl (Bs rfl rfl rfl rfl (tT rfl) rfl rfl rfl ?ab ?hs ?ao ?_);case ao=>repeat first|exact .head _ _ _ _|apply eS.tail|apply eS.app
      case hs=>exact ZU (L:=M) (v:=y) (j:=j) I I
      case ab=>first|rfl|assumption
      refine aa 0x3a6 ?_;refine' cm.pW rfl rfl (Bs rfl rfl rfl rfl (tT rfl) rfl rfl rfl ?ab ?hs ?ao ?_);case ao=>repeat first|exact .head _ _ _ _|apply eS.tail|apply eS.app
      case hs=>exact ZU (L:=M.set j y) (v:=x) (j:=j -1) (by rw[g6];omega) I
      case ab=>first|rfl|assumption
      refine cm.nil ?_;rw[show(M.set j y).set (j -1) x=ru M (j -1) from by unfold ru;rw[xT (show 1<=j by omega),ex,nR]];refine aa 0x1810c39 ?_;refine eH ⟨j -1,ru M (j -1),SF⟩ ?_;exact⟨I,(ac1 I b9).trans iw,by rw[A8];exact Vb,fun x U=>Jp x ((RJ I).mem_iff.1 U),wk⟩
     ·have mF:M=lS f (k+1) D:=by show M=j8 f (k+1) (lS f k D);rw[<-a4,<-iw,acY zE]
      refine aa 0x60430e757 ?_;refine eH ⟨k+1,M,SF⟩ ?_;exact⟨I,mF,Vb,Jp,wk⟩
  ·obtain rfl:k=n -1:=I
   refine aa 0x357 ?_;refine oi ?_;exact⟨by rw[a4],bS⟩
theorem apH{ot off cap n:Nat}{e:TypeId}{pre post:List Value}{D:List Int}{yc:FuncId}{qO:Array Value}{f:Int->Int->Int}{ok:Int->Prop}{jc:aO}(cK:D.length=n)(az:n<20)(JX:pre.length=off)(bu:∀x∈D,ok x)
 (aD:∀bi:af,J.le bi->∀a b,ok a->ok b->Fn (aT Q g0) yc (.int .i64 a::.int .i64 b::qO.toList) [] bi (fun v m' ae=>v=.int .i64 (f a b)/\m'=[]/\bi.le ae)):
 Fn (aT Q g0) 93 [.slice (some ⟨ot,off,none⟩) n cap,.int .i64 (n:Int),.func (.func yc) #[] qO] ((ot,.row (mj pre D post) e)::jc) J (fun v m' ae=>m'=(ot,.row (mj pre (lS f (n -1) D) post) e)::jc/\J.le ae):=by
 refine Fn.b8 (b7 Tryz.func93) rfl rfl fun H=>?_;refine aa 0x2f820439fdf57c0841ce059 ?_;refine If (fun qM=>?_) fun qM=>?_
 ·exfalso;omega
 ·refine aa 0x4210e757 ?_;refine' W.step rfl (Exec.call rfl rfl rfl rfl rfl rfl rfl (bl:=(ot,.row (mj pre D post) e)::jc) (c2:=[]) (by simp) trivial (aku cK I JX bu aD) ?_);rintro v m' ae hle ⟨rfl,O1⟩;rw[ij];refine aa 0x5f040873fbeaf8 ?_;refine If (fun zD=>?_) fun zD=>?_
  ·exfalso;omega
  ·refine aa 0x357 ?_;refine oi ?_;exact⟨rfl,O1⟩
theorem apf{ot off cap n:Nat}{e:TypeId}{pre post:List Value}{D:List Int}{yc:FuncId}{qO:Array Value}{f:Int->Int->Int}{ok:Int->Prop}{jc:aO}(cK:D.length=n)(az:n<20)(JX:pre.length=off)(bu:∀x∈D,ok x)
 (aD:∀bi:af,J.le bi->∀a b,ok a->ok b->Fn (aT Q g0) yc (.int .i64 a::.int .i64 b::qO.toList) [] bi (fun v m' ae=>v=.int .i64 (f a b)/\m'=[]/\bi.le ae)):
 Fn (aT Q g0) 58 [.slice (some ⟨ot,off,none⟩) n cap,.func (.func yc) #[] qO] ((ot,.row (mj pre D post) e)::jc) J (fun v m' ae=>m'=(ot,.row (mj pre (lS f (n -1) D) post) e)::jc/\J.le ae):=by
 refine Fn.b8 (b7 Tryz.func58) rfl rfl fun H=>?_;refine aa 0x128439 ?_;refine' W.step rfl (Exec.call rfl rfl rfl rfl rfl rfl rfl (bl:=(ot,.row (mj pre D post) e)::jc) (c2:=[]) (by simp) trivial (apH cK az JX bu aD) ?_);rintro v m' ae hle ⟨rfl,O1⟩;rw[ij];refine kr ?_;refine oi ?_;exact⟨rfl,O1⟩
end
theorem Yh{X:Int}{d M:Nat}(al:0<d):bn ((bn X d).z*(M:Int)) ((bn X d).d*1)=bn (X*M) d:=by
 have aD:=(ml (z:=X) al).1;refine(KI (kp aD Nat.one_pos) al).2 ?_;have h:=w' (z:=X) al;rw[gJ,LQ,h,LQ]
theorem Yi{X d:Nat}(al:0<d):(bn (X:Int) d).z.natAbs / (bn (X:Int) d).d=X / d/\st (bn (X:Int) d)=bn ((X % d:Nat):Int) d:=by
 obtain⟨g,e,q,ax,he,aG,FB,JF,az,_⟩:=yO (z:=(X:Int)) al;unfold st;rw[az];show q.natAbs / e=X / d/\bn ((q.natAbs % e:Nat):Int) e=_;have dr:X=g*q.natAbs:=by
  have:=b6 Int.natAbs aG;rwa [hK,l4,hK] at this
 subst FB;rw[dr,Nat.mul_div_mul_left _ _ ax,Nat.mul_mod_mul_left];refine⟨rfl,(KI he al).2 ?_⟩;rw[hc,hc]
 ac_rfl
theorem amb{X Y d:Nat}(al:0<d):iN ((bn (X:Int) d).z.natAbs*(bn (Y:Int) d).d) ((bn (Y:Int) d).z.natAbs*(bn (X:Int) d).d)=iN X Y:=by
 obtain⟨g,e,q,ax,he,aG,FB,_,az,_⟩:=yO (z:=(X:Int)) al;obtain⟨h,f,r,cT,aA,hw,aim,_,hm,_⟩:=yO (z:=(Y:Int)) al;rw[az,hm];show iN (q.natAbs*f) (r.natAbs*e)=_;have dr:X=g*q.natAbs:=by
  have:=b6 Int.natAbs aG;rwa [hK,l4,hK] at this
 have hh:Y=h*r.natAbs:=by
  have:=b6 Int.natAbs hw;rwa [hK,l4,hK] at this
 have aU:X*d=(g*h)*(q.natAbs*f):=by rw[dr,aim];ac_rfl
 have aQ:Y*d=(g*h)*(r.natAbs*e):=by rw[hh,FB];ac_rfl
 have ao:=kp ax cT;have dL:q.natAbs*f<r.natAbs*e↔X<Y:=by
  rw[<-Nat.mul_lt_mul_left ao,<-aU,<-aQ];exact abT al
 have du:r.natAbs*e<q.natAbs*f↔Y<X:=by
  rw[<-Nat.mul_lt_mul_left ao,<-aU,<-aQ];exact abT al
 unfold iN;simp only[dL,du]
theorem Rw{b:Nat}(h:b<=30):IntKind.i64.wrap (1*2 ^ ((b:Nat):Int).toNat)=((2 ^ b:Nat):Int)/\2 ^ b<=1073741824/\0<2 ^ b:=by
 have:∀b:Nat,b<31->IntKind.i64.wrap (1*2 ^ ((b:Nat):Int).toNat)=((2 ^ b:Nat):Int)/\2 ^ b<=1073741824/\0<2 ^ b:=by decide+kernel
 exact this b I
theorem Zs{M s p:Nat}(hs:0<s):bB M s p<s:=fz _ hs
section
variable {Q:cZ Tryz.prog}{g0:Nat}{J:af}
theorem aoA{ps:List Nat}{s M fh kL:Nat}{fj:Option Addr}(na:J fh=some ([.slice fj ps.length kL],66))(fc:dz J 82 3 (mw J) (.slice fj ps.length kL) (ps.map fun p=>bn ((bB M s p:Nat):Int) s))(hs:0<s)(h2:(aS s).length<=10000){a b:Int}(aF:0<=a/\a<ps.length)(ai:0<=b/\b<ps.length):
 Fn (aT Q g0) 59 [.int .i64 a,.int .i64 b,.pointer (some ⟨fh,0,none⟩)] [] J (fun v m' ae=>v=.int .i64 (x6 ps s M a b)/\m'=[]/\J.le ae):=by
 have ly:addrEq fj fj=true:=fc.addr;obtain⟨_,db⟩:=fc.at;rw[eP] at db;obtain⟨ID,off,cells,bC,rfl,ke,fN⟩:=db I;obtain⟨r,cs,aq,hZ,q8,v1,v2,rfl,dq⟩:=fN a aF.1 I;rw[j6] at aq;obtain⟨p,tv,rfl⟩:=vL.1 aq;obtain⟨ch,cy,Wf,aij,aiN,bt,cv,rfl,z3⟩:=fN b ai.1 I;rw[j6] at Wf;obtain⟨q,ajj,rfl⟩:=vL.1 Wf;have nb:=dq;have Oc:=z3;obtain⟨bs,d',bp,rfl,aK,_,_⟩:=dq.n.cA;obtain⟨bM,ej,bN,rfl,aH,_,_⟩:=dq.d.cA;obtain⟨cB,eD,cN,rfl,bJ,_,_⟩:=z3.n.cA;obtain⟨ep,gA,e',rfl,dU,_,_⟩:=z3.d.cA;have aU:=Zs (M:=M) (p:=p) hs;have aQ:=Zs (M:=M) (p:=q) hs;have en:=zZ (n:=bB M s p) hs (dA (ki (rH aU)) h2) h2;have Br:=zZ (n:=bB M s q) hs (dA (ki (rH aQ)) h2) h2;have lO:x6 ps s M a b=iN (bB M s q) (bB M s p):=by
  unfold x6;rw[gI,gI,tv,ajj];rfl
 have F7:eJ 8 (eC (bn ((bB M s p:Nat):Int) s) (.slice bs d' bp) (.slice bM ej bN)) (eC (bn ((bB M s p:Nat):Int) s) (.slice bs d' bp) (.slice bM ej bN))=true:=by simp[eJ,ks,aK,aH,qK]
 have CU:eJ 8 (eC (bn ((bB M s q:Nat):Int) s) (.slice cB eD cN) (.slice ep gA e')) (eC (bn ((bB M s q:Nat):Int) s) (.slice cB eD cN) (.slice ep gA e'))=true:=by simp[eJ,ks,bJ,dU,qK]
 refine Fn.b8 (b7 Tryz.func59) rfl rfl fun H=>?_;refine aa 0xbe059 ?_;refine aB.draw rfl (by kernel_rfl) (aX:=[.val 0,.val 1,.val 2,.val 3,.val 4,.val 5,.val 6,.val 7,.bD 8,.val 9]) (by kernel_rfl) ?_;refine aa 0x6182961829 ?_;refine dl rfl (G:=T3 Oc nb (ml hs) (ml hs) (by have:=yN (X:=bB M s q) hs;omega) (by have:=yN (X:=bB M s p) hs;omega) Br en I I) (h:=?_);rintro v' m' bi aM ⟨rfl,rfl,hle⟩;refine aa 0xd5f02 ?_;refine bo ?_;exact⟨by rw[amb hs,lO];rfl,rfl,hle⟩
end
end
end Go.Opn

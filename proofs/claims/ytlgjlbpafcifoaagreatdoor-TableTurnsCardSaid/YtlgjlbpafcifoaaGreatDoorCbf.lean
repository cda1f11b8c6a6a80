/- A part of the proof of TableTurns. -/
import Derived.Test.YtlgjlbpafcifoaaGreatDoorCbc
import Derived.Test.YtlgjlbpafcifoaaGreatDoorCbe
set_option linter.unusedVariables false
namespace Go.Opn
noncomputable section
theorem TQ{f:Int->Int->Int}:∀{j:Nat} {l:List Int} {i:Nat},j<l.length->j<i->(j8 f j l).getD i 0=l.getD i 0:=by
 intro j
 induction j with
 |zero=>intro l i _ _;rfl
 |succ j aP=>
  intro l i ap ak
  unfold j8
  split
  ·rw[aP (by rw[A8];omega) I,xw ap,aZ I,aZ I]
  ·rfl
theorem acW{f f':Int->Int->Int}:∀{j:Nat} {l:List Int},j<l.length->(∀i,i<j->(f (l.getD j 0) (l.getD i 0)<0↔f' (l.getD j 0) (l.getD i 0)<0))->j8 f j l=j8 f' j l:=by
 intro j
 induction j with
 |zero=>intro l _ _;rfl
 |succ j aP=>
  intro l ap h
  have aY:=h j I
  unfold j8
  by_cases q:f (l.getD (j+1) 0) (l.getD j 0)<0
  ·rw[a2 q,a2 (aY.1 q)]
   refine aP (by rw[A8];omega) fun i ak=>?_
   rw[xw ap,xw ap,a2 rfl,aZ I,aZ I]
   exact h i I
  ·rw[aZ q,aZ fun dj=>q (aY.2 dj)]
theorem acX{f:Int->Int->Int}{B:Int}:∀{j:Nat} {l:List Int},j<l.length->(∀i,i<=j->l.getD i 0<=B)->∀i,i<=j->(j8 f j l).getD i 0<=B:=by
 intro j
 induction j with
 |zero=>intro l _ h i ak;exact h i ak
 |succ j aP=>
  intro l ap h i ak
  unfold j8
  split
  ·by_cases q:i=j+1
   ·subst q
    rw[TQ (by rw[A8];omega) I,xw ap,aZ I,a2 rfl]
    exact h j I
   ·refine aP (by rw[A8];omega) (fun k hk=>?_) i I
    rw[xw ap]
    split
    ·exact h _ (bF _)
    ·split
     ·omega
     ·exact h k I
  ·exact h i ak
theorem WQ{f:Int->Int->Int}:∀{k:Nat} {l:List Int} {i:Nat},k<l.length->k<i->(lS f k l).getD i 0=l.getD i 0:=by
 intro k
 induction k with
 |zero=>intro l i _ _;rfl
 |succ k aP=>
  intro l i ap ak
  show(j8 f (k+1) (lS f k l)).getD i 0=_
  rw[TQ (by rw[(C3 I).length_eq];omega) ak,aP I I]
theorem P5{n i:Nat}(h:i<n):(i' n).getD i 0=(i:Int):=by rw[gI,Kd h];rfl
theorem akk{f:Int->Int->Int}{n:Nat}:∀{k:Nat},k<n->∀i,i<=k->(lS f k (i' n)).getD i 0<=k:=by
 intro k
 induction k with
 |zero=>
  intro h i ak
  show(i' n).getD i 0<=_
  rw[P5 I];omega
 |succ k aP=>
  intro h i ak
  have ap:(lS f k (i' n)).length=n:=by rw[(C3 (by rw[pn];omega)).length_eq,pn]
  refine acX (f:=f) I (fun j aY=>?_) i ak
  by_cases q:j=k+1
  ·subst q
   rw[WQ (by rw[pn];omega) I,P5 h]
   omega
  ·have:=aP I j I
   omega
theorem akj{f f':Int->Int->Int}{n:Nat}(h:∀x y:Int,y<x->0<x->x<n->(f x y<0↔f' x y<0)):∀{k:Nat},k<n->lS f k (i' n)=lS f' k (i' n):=by
 intro k
 induction k with
 |zero=>intro _;rfl
 |succ k aP=>
  intro hk
  have ap:(lS f k (i' n)).length=n:=by rw[(C3 (by rw[pn];omega)).length_eq,pn]
  show j8 f (k+1) (lS f k (i' n))=j8 f' (k+1) (lS f' k (i' n))
  rw[<-aP I]
  refine acW I fun i ak=>?_
  have ab:(lS f k (i' n)).getD (k+1) 0=((k+1:Nat):Int):=by rw[WQ (by rw[pn];omega) I,P5 hk]
  have ad:=akk (f:=f) (n:=n) (k:=k) I i I
  rw[ab]
  exact h _ _ I I I
def ss(n:Nat)(r:Int->Nat)(i:Int):Nat:=r i*(n+1)+(n -i.toNat)
theorem aoy{n:Nat}{r:Int->Nat}{x y:Int}(h:y<x)(aN:0<x)(az:x<n):ss n r y<ss n r x↔r y<r x:=by
 unfold ss
 have au:y.toNat<x.toNat:=I
 constructor
 ·intro q
  apply iF
  intro aH
  have:=eK (n+1) (qF aH)
  omega
 ·intro q
  have:=eK (n+1) (Ef q)
  rw[oZ] at this
  omega
theorem aox{n:Nat}{r:Int->Nat}{x y:Int}(U:0<=x/\x<n)(au:0<=y/\y<n)(h:ss n r x<=ss n r y):r x<=r y/\(r x=r y->y<=x):=by
 unfold ss at h
 constructor
 ·apply iF
  intro q
  have:=eK (n+1) (Ef (Ta q))
  rw[oZ] at this
  omega
 ·intro q
  rw[q] at h
  omega
theorem am9{ps:List Nat}{s M:Nat}(az:1<=ps.length):Ix (ss ps.length fun i=>bB M s (ps.getD i.toNat 0)) (fJ ps s M) (ps.length -1):=by
 unfold fJ
 rw[akj (n:=ps.length) (k:=ps.length -1) (f:=x6 ps s M) (f':=fun a b=>iN (ss ps.length (fun i=>bB M s (ps.getD i.toNat 0)) b) (ss ps.length (fun i=>bB M s (ps.getD i.toNat 0)) a)) (fun x y h aN U=>by
  rw[I0,aoy h aN U];exact I0) I]
 exact WO (r:=ss ps.length fun i=>bB M s (ps.getD i.toNat 0)) (k:=ps.length -1) (l:=i' ps.length) (fun a b=>I0) (by rw[pn];omega)
def m3(zs:List Int):Nat->Nat
 |0=>0
 |k+1=>if zs.getD (m3 zs k) 0<zs.getD (k+1) 0 then k+1 else m3 zs k
theorem TP{zs:List Int}:∀{k:Nat},m3 zs k<=k/\(∀i,i<=k->zs.getD i 0<=zs.getD (m3 zs k) 0)/\∀i,i<m3 zs k->zs.getD i 0<zs.getD (m3 zs k) 0:=by
 intro k
 induction k with
 |zero=>exact⟨bF _,fun i ak=>by rw[show i=0 by omega];exact LN _,fun i ak=>absurd ak (Ee _)⟩
 |succ k aP=>
  obtain⟨ab,ad,aL⟩:=aP
  unfold m3
  split
  ·next q=>
   refine⟨bF _,fun i ak=>?_,fun i ak=>?_⟩
   ·by_cases e:i=k+1
    ·rw[e];exact LN _
    ·have:=ad i I;omega
   ·have:=ad i I;omega
  ·next q=>
   refine⟨I,fun i ak=>?_,aL⟩
   by_cases e:i=k+1
   ·rw[e];omega
   ·exact ad i I
theorem acU{zs:List Int}{k b:Nat}(ai:b<=k)(ad:∀i,i<=k->zs.getD i 0<=zs.getD b 0)(aL:∀i,i<b->zs.getD i 0<zs.getD b 0):m3 zs k=b:=by
 obtain⟨aU,aQ,bj⟩:=TP (zs:=zs) (k:=k)
 rcases Tb (m3 zs k) b with q|q|q
 ·have:=aL _ q;have:=aQ b ai;omega
 ·exact q
 ·have:=bj _ q;have:=ad _ aU;omega
def kY(ps:List Nat)(s M t:Nat):List Int:=((fJ ps s M).take t).foldl (fun z i=>z.set i.toNat (-(s:Int))) (ps.map fun p=>((bB M s p:Nat):Int))
theorem ZH{v:Int}:∀{is:List Int} {z:List Int},(is.foldl (fun z i=>z.set i.toNat v) z).length=z.length
 |[],_=>rfl
 |i::is,z=>by rw[Ig,ZH,g6]
theorem ZF{v:Int}:∀{is:List Int} {z:List Int} {i:Nat},(∀x∈is,0<=x)->i<z.length->(is.foldl (fun z i=>z.set i.toNat v) z).getD i 0=if(i:Int)∈is then v else z.getD i 0
 |[],z,i,_,_=>by rw[aZ (by intro q;cases q)];rfl
 |k::is,z,i,aN,ak=>by
  have hk:=aN k (.head _)
  rw[Ig,ZF (fun x U=>aN x (.tail _ U)) (by rw[g6];exact ak)]
  by_cases hm:(i:Int)∈is
  ·rw[a2 hm,a2 (.tail _ hm)]
  ·rw[aZ hm,gI,mz]
   by_cases r3:k.toNat=i
   ·rw[a2 r3,a2 I,a2 (by rw[show(i:Int)=k by omega];exact .head _)];rfl
   ·rw[aZ r3,aZ (fun q=>by rcases fU.1 q with q|q;exact r3 I;exact hm q),<-gI]
theorem ak4{ps:List Nat}{s M t:Nat}:(kY ps s M t).length=ps.length:=by unfold kY;rw[ZH,eP]
theorem ak3{ps:List Nat}{s M t:Nat}{x:Int}(az:1<=ps.length)(hs:0<s)(ao:ps.sum=s)(U:(fJ ps s M)[t]?=some x):m3 (kY ps s M t) (ps.length -1)=x.toNat:=by
 have F:=K' (M:=M) az hs ao
 have aJ:t<ps.length:=by have:=(gS.1 U).1;rw[F.G6] at this;exact this
 have At:=F.xd x (gh U)
 have F1:=am9 (s:=s) (M:=M) az
 have aG:∀i,i<ps.length->(kY ps s M t).getD i 0=if(i:Int)∈(fJ ps s M).take t then -(s:Int) else((bB M s (ps.getD i 0):Nat):Int):=fun i ak=>by
  unfold kY
  rw[ZF (fun y au=>(F.xd y (vG au)).1) (by rw[eP];exact ak)]
  have e:(ps.map fun p=>((bB M s p:Nat):Int)).getD i 0=((bB M s (ps.getD i 0):Nat):Int):=by
   rw[gI,j6,dX ak,gI,dX ak];rfl
  rw[e]
 have c1:x∉(fJ ps s M).take t:=fun q=>by
  obtain⟨u,hu⟩:=Ih q
  have u2:=(gS.1 hu).1
  rw[dY] at u2
  rw[D6 I] at hu
  have:=(List.getElem?_inj (i:=u) (j:=t) I F.Du).1 (hu.trans U.symm)
  omega
 have WJ:(kY ps s M t).getD x.toNat 0=((bB M s (ps.getD x.toNat 0):Nat):Int):=by
  rw[aG _ I,aZ (by rw[show((x.toNat:Nat):Int)=x by omega];exact c1)]
 have key:∀i,i<ps.length->(i:Int)∉(fJ ps s M).take t->bB M s (ps.getD i 0)<=bB M s (ps.getD x.toNat 0)/\(bB M s (ps.getD i 0)=bB M s (ps.getD x.toNat 0)->x<=(i:Int)):=fun i ak yu=>by
  have CO:(fJ ps s M).Perm (i' ps.length):=C3 (by rw[pn];omega)
  have aiJ:(i:Int)∈fJ ps s M:=CO.mem_iff.2 (gh (Kd ak))
  obtain⟨u,hu⟩:=Ih aiJ
  have u2:=(gS.1 hu).1
  rw[F.G6] at u2
  have J2:t<=u:=by
   apply iF
   intro q
   exact yu (gh (show((fJ ps s M).take t)[u]?=some (i:Int) by rw[D6 I];exact hu))
  have Fz:(fJ ps s M).getD u 0=(i:Int):=by rw[gI,hu];rfl
  have JH:(fJ ps s M).getD t 0=x:=by rw[gI,U];rfl
  have ajr:ss ps.length (fun i=>bB M s (ps.getD i.toNat 0)) (i:Int)<=ss ps.length (fun i=>bB M s (ps.getD i.toNat 0)) x:=by
   rcases hL t u with q|q
   ·have:=F1 t u q I
    rw[Fz,JH] at this;exact this
   ·have e:u=t:=I
    subst e
    rw[hu] at U;injection U with U;rw[U];exact bF _
  have:=aox (r:=fun i=>bB M s (ps.getD i.toNat 0)) (x:=(i:Int)) (y:=x) I At ajr
  rw[h9] at this
  exact this
 refine acU I (fun i ak=>?_) fun i ak=>?_
 ·rw[WJ,aG i I]
  split
  ·omega
  ·next q=>have:=(key i I q).1;omega
 ·rw[WJ,aG i I]
  split
  ·omega
  ·next q=>
   have ab:=key i I q
   have ad:=ab.1
   by_cases e:bB M s (ps.getD i 0)=bB M s (ps.getD x.toNat 0)
   ·have:=ab.2 e;omega
   ·omega
theorem acS{zs:List Int}{i:Nat}(ab:1<=i)(h:zs.getD (m3 zs (i -1)) 0<zs.getD i 0):i=m3 zs (i+1 -1):=by
 obtain⟨k,rfl⟩:∃k,i=k+1:=⟨i -1,I⟩
 rw[lg] at h
 rw[lg]
 exact(a2 h).symm
theorem acT{zs:List Int}{i:Nat}(ab:1<=i)(h:¬zs.getD (m3 zs (i -1)) 0<zs.getD i 0):m3 zs (i -1)=m3 zs (i+1 -1):=by
 obtain⟨k,rfl⟩:∃k,i=k+1:=⟨i -1,I⟩
 rw[lg] at h ⊢
 rw[lg]
 exact(aZ h).symm
theorem ZG{v:Int}{s:Nat}(ar:v.natAbs<=s):∀{is:List Int} {z:List Int},(∀x∈z,x.natAbs<=s)->∀x∈is.foldl (fun z i=>z.set i.toNat v) z,x.natAbs<=s
 |[],_,h=>h
 |i::is,z,h=>ZG ar (is:=is) (z:=z.set i.toNat v) fun x U=>by
  rcases SY U with q|q
  ·exact h x q
  ·rw[q];exact ar
theorem Xl{ps:List Nat}{s M t:Nat}(hs:0<s):∀x∈kY ps s M t,x.natAbs<=s:=by
 unfold kY
 refine ZG I fun x U=>?_
 obtain⟨p,_,rfl⟩:=pM.1 U
 have:bB M s p<s:=fz _ hs
 omega
theorem ak5{ps:List Nat}{s M t:Nat}{x:Int}(U:(fJ ps s M)[t]?=some x):kY ps s M (t+1)=(kY ps s M t).set x.toNat (-(s:Int)):=by
 unfold kY
 rw[ko,U,List.foldl_append];rfl
end
end Go.Opn
set_option maxRecDepth 100000
set_option maxHeartbeats 8000000
set_option linter.unusedSimpArgs false
namespace Go.Opn
noncomputable section
open Go.Cre Go.RowKit Go.Proofs
theorem YR{full new:List Value}{p m:Nat}(h:p+new.length<=full.length):(full.take p++new++full.drop (p+new.length))[m]?=if m<p then full[m]? else if m<p+new.length then new[m -p]? else full[m]?:=by
 have ab:(full.take p).length=p:=by rw[dY];omega
 by_cases q:m<p
 ·rw[a2 q,my,D4 I,iH,a2 q]
 ·rw[aZ q]
  by_cases aH:m<p+new.length
  ·rw[a2 aH,D4 (by rw[eY];omega),D5 I,ab]
  ·rw[aZ aH,D5 (by rw[eY];omega),oX,eY,ab]
   congr 1;omega
theorem g4.put{α:Type}{sz:Nat}{R R':Nat->α->List Value->Prop}{full new:List Value}{xs:List α}(h:g4 sz R (full.take (xs.length*sz)) xs)(aA:xs.length*sz<=full.length)(dq:∀i x cs,R i x cs->R' i x cs){k:Nat}{y:α}(hk:k<xs.length)(az:new.length=sz)(au:R' k y new):g4 sz R' ((full.take (k*sz)++new++full.drop (k*sz+new.length)).take (xs.length*sz)) (xs.set k y):=by
 have q8:k*sz+sz<=xs.length*sz:=by rw[<-oZ];exact eK _ hk
 refine⟨by rw[dY,eY,eY,dY,ld,g6];omega,fun i x U=>?_⟩;have ak:i<xs.length:=by have:=(gS.1 U).1;rw[g6] at this;exact this
 have ati:i*sz+sz<=xs.length*sz:=by rw[<-oZ];exact eK _ ak
 by_cases q:i=k
 ·subst q
  rw[List.getElem?_set_self hk] at U;injection U with U;subst U
  rw[show((full.take (i*sz)++new++full.drop (i*sz+new.length)).take (xs.length*sz) |>.drop (i*sz)).take sz=new from ?_]
  ·exact au
  ·apply D3
   intro j;rw[iH];by_cases A0:j<sz
   ·rw[a2 A0,oX,iH,a2 I,YR I,aZ I,a2 I]
    congr 1;omega
   ·rw[aZ A0,oe I]
 ·rw[abw (fun r=>q r.symm)] at U
  have ad:=dq _ _ _ (h.2 i x U);have al:i*sz+sz<=k*sz\/k*sz+sz<=i*sz:=by
   rcases hL i k with r|r
   ·exact .inl (by rw[<-oZ];exact eK _ r)
   ·exact .inr (by rw[<-oZ];exact eK _ I)
  rw[show((full.take (k*sz)++new++full.drop (k*sz+new.length)).take (xs.length*sz) |>.drop (i*sz)).take sz=((full.take (xs.length*sz)).drop (i*sz)).take sz from ?_]
  ·exact ad
  ·apply D3
   intro j;rw[iH,iH];by_cases A0:j<sz
   ·rw[a2 A0,a2 A0,oX,oX,iH,iH,a2 I,a2 I,YR I]
    rcases al with r|r
    ·rw[a2 I]
    ·rw[aZ I,aZ I]
   ·rw[aZ A0,aZ A0]
theorem Uh{Q:cZ Tryz.prog}{g0:Nat}{J:af}{r:cY}{v1 v2:Value}(aq:kI J r v1 v2)(aG:0<=r.z)(al:r.d≠0)(dL:(ag r.z.natAbs).length<=20000)(du:(ag r.d).length<=20000):Fn (aT Q g0) 64 [eC r v1 v2] [] J (us J (⟨((r.z.natAbs / r.d:Nat):Int),1⟩:cY)):=by
 obtain⟨z,d⟩:=r;obtain⟨n,rfl⟩:=Int.eq_ofNat_of_zero_le aG;exact afa aq al dL du
theorem am8{x y:Int}{d:Nat}(al:0<d):0<sv ((bn x d).z*((bn y d).d:Nat) -(bn y d).z*((bn x d).d:Nat))↔y<x:=by
 have ab:=w' (z:=x) al;have ad:=w' (z:=y) al;have cP:=(ml (z:=x) al).1;have gW:=(ml (z:=y) al).1;generalize (bn x d).z=a at*;generalize (bn y d).z=b at*;generalize (bn x d).d=u at*;generalize (bn y d).d=w at*;have e:(a*(w:Int) -b*(u:Int))*(d:Int)=(x -y)*((u:Int)*(w:Int)):=by
  rw[mX,mX,LQ a,ab,LQ b,ad];rw[jT,jT,j5 (w:Int) (u:Int)]
 have FU:(0:Int)<(u:Int)*(w:Int):=BD I I;have ajA:∀t:Int,0<sv t↔0<t:=fun t=>by unfold sv;split<;>(try split)<;>omega
 rw[ajA];constructor
 ·intro q
  have aL:0<(x -y)*((u:Int)*(w:Int)):=by rw[<-e];exact BD q I
  have:=abk aL FU;omega
 ·intro q
  have aL:0<(a*(w:Int) -b*(u:Int))*(d:Int):=by rw[e];exact BD I FU
  exact abk aL I
theorem amc(z:Int):bn z 1=(⟨z,1⟩:cY):=AM (r:=⟨z,1⟩) ⟨Nat.one_pos,L6 _⟩
theorem aop{X s:Nat}(hs:0<s):bn ((bn (X:Int) s).z*(1:Nat)+-((X / s:Nat):Int)*((bn (X:Int) s).d:Nat)) ((bn (X:Int) s).d*1)=bn ((X % s:Nat):Int) s:=by
 have h:=QJ (X:=(X:Int)) (Y:=-((X / s:Nat):Int)) hs Nat.one_pos;rw[amc] at h;refine h.trans ?_;rw[gJ];congr 1
 have:=lI X s;rw[Int.natCast_one,LP,sK,<-hc,dp];omega
theorem anz{α:Type}{a b:α}{l r:List α}:(a::b::(l++r)).Perm (l++(a::b::r)):=((BK).trans ((BK).cons a)).symm
theorem anA{α:Type}{a b c:α}{k r:List α}:(c::(k++(a::b::r))).Perm (r++(c::(k++[a,b]))):=by
 rw[show c::(k++a::b::r)=(c::(k++[a,b]))++r by simp];exact oh
theorem anB{α:Type}{a b c:α}{k r:List α}:(r++(c::(k++[a,b]))).Perm ((k++r)++[c,a,b]):=((List.perm_append_comm.append_right _).trans (by rw[my];exact(BK).append_left r)).symm
theorem eW.tc{e:TypeId}{sz k:Nat}{v:Value}{cells:List Value}{a8:aO}(h:eW e sz v k cells a8):∃b c,v=.slice b k c/\addrEq b b=true:=by
 rcases h with⟨h,_,_⟩|⟨a,full,rest,h⟩
 ·exact h.tc
 ·exact⟨_,_,h.v,by simp[addrEq]⟩
theorem alY{s:Nat}(hs:0<s):(⟨-1,1⟩:cY)=bn (-(s:Int)) s:=AN (r:=⟨-1,1⟩) ⟨by decide,by decide⟩ hs (by show(-1:Int)*(s:Int)=-(s:Int)*((1:Nat):Int);omega)
section
variable {Q:cZ Tryz.prog}{g0:Nat}{J:af}
theorem aoB{ps:List Nat}{s bits:Nat}{b:Option Addr}{c:Nat}(h:dz J 47 3 (pO J) (.slice b ps.length c) (ps.map fun p:Nat=>bn (p:Int) s))(mf:1<=ps.length)(ni:ps.length<=10)(hs:0<s)(h2:(ag s).length<=3000)(ao:ps.sum=s)(Ov:bits<=30):
 Fn (aT Q g0) 31 [.slice b ps.length c,.int .i64 (bits:Int)] [] J (fun u m' ae=>J.le ae/\m'=[]/\∃b' c',u=.slice b' ps.length c'/\cJ .i64 ae (.slice b' ps.length c') (Ho ps s (2 ^ bits))):=by
 have ly:addrEq b b=true:=h.addr;obtain⟨_,db⟩:=h.at;rw[eP] at db;obtain⟨iw,q1,q0⟩:=Rw Ov;generalize 2 ^ bits=M at*;have F:=K' (M:=M) mf hs ao;have ia:(fK ps s M).length=ps.length:=eP _;have aic:(0:Int)<=(bits:Int)/\(bits:Int)<=64:=I
 have ahx:(ag M).length<=2:=kZ (by show M<1000000000 ^ 2;omega);have ag8:(ag 1).length<=1:=kZ bm;refine Fn.b8 (b7 Tryz.func31) rfl rfl fun H=>?_;refine aa 0x302a073816702ce059 ?_;rw[iw];refine aa 0x1abe059 ?_;refine c8 [(8,.int .i64 ((0):Int)),(5,(.slice none 0 0)),(6,(.slice none 0 0)),(7,.int .i64 ((M:Int) -(((fK ps s M).take (0)).sum:Int))),(0,_),(1,_)] ?_;refine a' ?_;refine' aB.bA (fun(bE:Nat×Value×Value×aO×aO×(List Value)×af)=>match bE with|(i,lD,Lw,yH,Qw,d,cb)=>⟨[(8,.int .i64 (i:Int)),(5,lD),(6,Lw),(7,.int .i64 ((M:Int) -(((fK ps s M).take i).sum:Int)))],yH++Qw,cb,i<=ps.length/\J.le cb/\eW 3 1 lD i (bW .i64 ((fK ps s M).take i)) yH/\eW 47 3 Lw i d Qw/\g4 3 (fun _=>pO cb) d ((ps.map fun p=>bn ((bB M s p:Nat):Int) s).take i),ps.length -i⟩) ⟨0,.slice none 0 0,.slice none 0 0,[],[],[],J⟩ ?hs ?bb
 case hs=>exact⟨df _,af.le.refl _,.inl ⟨.nil,rz,rl⟩,.inl ⟨.nil,rz,rl⟩,⟨by rw[fq];rfl,fun i x U=>by rw[fq] at U;cases U⟩⟩
 case bb=>
  rintro⟨i,lD,Lw,yH,Qw,d,cb⟩ hinv;try simp only at hinv
  obtain⟨ak,bS,wA,Oj,e6⟩:=hinv;obtain⟨asq,asw,rfl,auB⟩:=wA.tc;obtain⟨asr,asx,rfl,auC⟩:=Oj.tc;refine aa 0x5f0428439 ?_;refine If (fun m4=>?_) fun m4=>?_
  ·obtain⟨ID,off,cells,bC,rfl,ke,fN⟩:=db I;obtain⟨r,cs,aq,hZ,q8,v1,v2,rfl,dq⟩:=fN i I I;rw[h9,j6] at aq;obtain⟨p,tv,rfl⟩:=vL.1 aq;have ke:=bS _ _ ke;have nb:=dq.mono bS;obtain⟨bs,bp,rfl,aK⟩:=dq.n.bQ;obtain⟨bM,bN,rfl,aH⟩:=dq.d.bQ;have Wa:=GH (gh tv);have eQ:=dA (n5 (show p<=s by omega)) h2;have en:=GC (n:=(p:Int)) hs eQ h2;have CM:(fK ps s M)[i]?=some (p*M / s):=by unfold fK;rw[j6,tv];rfl
   have dn:=RI CM;have uZ:=Lk (l:=fK ps s M) (i:=i+1);have ajC:=F.out;have Ph:(ag (p*M)).length<=3000+2:=yF eQ ahx;have Br:=GC (n:=((p*M:Nat):Int)) (k:=3002) hs Ph (dA h2 bm);have Wd:p*M / s<=M:=by
    rw[abM hs];have:=eK M (show p<=s by omega);omega
   have hmul:=Yh (X:=(p:Int)) (M:=M) hs;rw[<-hc] at hmul;obtain⟨rf,tz⟩:=Yi (X:=p*M) hs;have ra:=yN (X:=p*M) hs;have JZ:=aop (X:=p*M) hs;refine aa 0x17d5f57 ?_;refine aB.draw rfl (by kernel_rfl) (aX:=[.ir 8,.val 0,.val 1,.val 2,.val 3,.val 4,.val 5,.bD 6,.ca [3,2,1,0],.bD 7,.bD 9]) (by kernel_rfl) ?_;refine cm.alloc rfl rfl rfl rfl rfl (Ll rfl) rfl rfl rfl fun nI=>?_;refine aa 0x28161821 ?_;rw[iw];refine cm.Yl ?_;refine' bh.dV rfl rfl rfl rfl rfl rfl rfl rfl rfl dt (LB (z:=(M:Int)) I) ?_;rintro v' m' bi hle ⟨aM,rfl,dI,dB,rfl,cg⟩;have asW:=aM _ _ ke;have Cr:=cg;obtain⟨fw,gz,rfl,fP⟩:=cg.n.bQ;obtain⟨fi,eu,rfl,je⟩:=cg.d.bQ;refine bh.ca ft ?_;refine' bh.dV rfl rfl rfl rfl rfl rfl rfl rfl rfl (cF (dh rfl) dt) (ap7 (nb.mono aM) Cr (ml hs).1 Nat.one_pos I I (by show(ag ((M:Nat):Int).natAbs).length<=20000;rw[hK];omega) (by show(ag 1).length<=20000;omega)) ?_;rintro v' m' de hle ⟨a9,rfl,dI,dB,rfl,hD⟩;have hD:kI de (bn ((p*M:Nat):Int) s) dI dB:=(by rw[<-hmul];exact hD);have yj:=hD;obtain⟨jV,fB,rfl,rq⟩:=hD.n.bQ;obtain⟨jm,fC,rfl,pA⟩:=hD.d.bQ;rw[show bn ((bn (p:Int) s).z*(⟨(M:Int),1⟩:cY).z) ((bn (p:Int) s).d*(⟨(M:Int),1⟩:cY).d)=bn ((p*M:Nat):Int) s from hmul];refine aa 0xcce39e ?_;refine br (G:=Uh yj I (jl (ml hs).1) I I) (h:=?_);rintro v' m' fe hle ⟨cq,rfl,dI,dB,rfl,a4⟩;rw[rf] at a4 ⊢;have yk:=a4;obtain⟨gy,eI,rfl,mO⟩:=a4.n.bQ;obtain⟨kJ,b2,rfl,nr⟩:=a4.d.bQ;refine br (G:=akl yk I) (h:=?_);rintro v' m' l5 hle ⟨ec,rfl,rfl⟩;refine aa 0x5f0211ce1 ?_
   refine aB.draw rfl (by kernel_rfl) (aX:=[.val 0,.val 1,.ir 2,.val 4,.val 5,.val 6,.ca [1,0],.bD 3,.ca [6,5,4],.bD 7,.ca [5,4],.bD 8,.ca [5,4],.bD 9,.ir 10,.ca [4],.bD 11,.bD 12,.bD 13]) (by kernel_rfl) ?_;refine aa 0x21 ?_;refine cm.buildSlice rfl rfl rfl rfl rfl rfl (eB rfl) rfl rfl rfl fun Tr=>?_;refine aa 0xeb181 ?_;refine' cm.pW rfl rfl (ua rfl rfl rfl rfl rfl rfl (eB rfl) (aqp Q g0) (fun i q=>by cases q) ?ev ?hm ?U ?dE ?dQ ?aY ?ap fun R1 GK Jz=>?_);case ev=>exact wA
   case hm=>exact anz
   case U=>exact pB
   case dE=>first|rfl|(simp;done)|(simp;omega)
   case dQ=>first|rfl|exact qg _
   case aY=>exact Nat.one_pos
   case ap=>exact(show i+1<=1000000 by omega)
   refine aa 0x3dd ?_;refine' bh.dV rfl rfl rfl rfl rfl rfl rfl rfl rfl dt (Uh ((yj.mono cq).mono ec) I (jl (ml hs).1) I I) ?_;rintro v' m' qB hle ⟨ga,rfl,dI,dB,rfl,a4⟩;rw[rf] at a4 ⊢;have Ob:=a4;obtain⟨TI,pV,rfl,YT⟩:=a4.n.bQ;obtain⟨MC,j9,rfl,Rc⟩:=a4.d.bQ;refine bh.ca ft ?_;refine' bh.dV rfl rfl rfl rfl rfl rfl rfl rfl rfl (cF (dh rfl) dt) (XN Ob) ?_;rintro v' m' ae hle ⟨rfl,rfl,rfl⟩;refine bh.ca ft ?_;refine' bh.dV rfl rfl rfl rfl rfl rfl rfl rfl rfl (cF (dh rfl) (cF (dh rfl) dt)) (Q9 (r:=bn ((p*M:Nat):Int) s) (s:=⟨-((p*M / s:Nat):Int),1⟩) rfl rfl (((yj.mono cq).mono ec).mono ga) ⟨by show cD _ _ (-((p*M / s:Nat):Int)).natAbs;rw[LS];exact Ob.n,Ob.d⟩ (ml hs).1 Nat.one_pos I I (by show(ag (-((p*M / s:Nat):Int)).natAbs).length<=20000;rw[LS,hK];exact dA (n5 Wd) I) (by show(ag 1).length<=20000;omega)) ?_;rintro v' m' BF hle ⟨h0,rfl,dI,dB,rfl,cw⟩;rw[show bn ((bn ((p*M:Nat):Int) s).z*(((⟨-((p*M / s:Nat):Int),1⟩:cY).d:Nat):Int)+(⟨-((p*M / s:Nat):Int),1⟩:cY).z*((bn ((p*M:Nat):Int) s).d:Nat)) ((bn ((p*M:Nat):Int) s).d*(⟨-((p*M / s:Nat):Int),1⟩:cY).d)=bn ((bB M s p:Nat):Int) s from JZ] at cw ⊢;have ahC:=cw;obtain⟨IK,qM,rfl,YU⟩:=cw.n.bQ;obtain⟨IL,dZ,rfl,YV⟩:=cw.d.bQ;refine bh.Dp (fun x U=>L2 (f:=fun x=>(x.f,x.bV)) U) ?_;refine cm.buildSlice rfl rfl rfl rfl rfl rfl (eB rfl) rfl rfl rfl fun asa=>?_;refine cm.ca ft ?_;refine' cm.pW rfl rfl (ua rfl rfl rfl rfl rfl rfl (eB rfl) (aav Q g0) (fun i q=>by cases q) ?ev ?hm ?U ?dE ?dQ ?aY ?ap fun ard alD ah2=>?_);case ev=>exact Oj
   case hm=>exact anA
   case U=>exact pB
   case dE=>first|rfl|(simp;done)|(simp;omega)
   case dQ=>first|rfl|exact qg _
   case aY=>exact Nat.one_pos
   case ap=>exact(show i+1<=1000000 by omega)
   refine aa 0x6042 ?_;have VS:=((((aM.trans a9).trans cq).trans ec).trans ga).trans h0;have ahX:eW 3 1 R1 (i+1) (bW .i64 ((fK ps s M).take (i+1))) GK:=by rw[ko,CM,AO];exact Jz
   have mE:g4 3 (fun _=>pO BF) (d++rU (bn ((bB M s p:Nat):Int) s) (.slice IK (ag (bn ((bB M s p:Nat):Int) s).z.natAbs).length qM) (.slice IL (ag (bn ((bB M s p:Nat):Int) s).d).length dZ)) ((ps.map fun p=>bn ((bB M s p:Nat):Int) s).take (i+1)):=by
    rw[ko,j6,tv];exact(e6.mono fun _ _ _ q=>q.mono VS).app ⟨_,_,rfl,ahC⟩ rfl
   refine aB.mN anB.symm ?_;refine aa 0x30218439 ?_;rw[show(M:Int) -(((fK ps s M).take i).sum:Int) -((p*M / s:Nat):Int)=(M:Int) -(((fK ps s M).take (i+1)).sum:Int) by rw[dn];omega];refine aa 0x1810c39 ?_;refine eH ⟨i+1,R1,ard,GK,alD,d++rU (bn ((bB M s p:Nat):Int) s) (.slice IK (ag (bn ((bB M s p:Nat):Int) s).z.natAbs).length qM) (.slice IL (ag (bn ((bB M s p:Nat):Int) s).d).length dZ),BF⟩ ?_ (hm:=lf _ _);exact⟨I,bS.trans VS,ahX,ah2,mE⟩
  ·obtain rfl:i=ps.length:=I
   have Ah:(M:Int) -(((fK ps s M).take ps.length).sum:Int)=((k1 ps s M:Nat):Int) -((0:Nat):Int):=by
    rw[cM I];have:=F.out;unfold k1;omega
   have lq:=F.Ks;rw[cM I] at wA;rw[cM (by rw[eP];omega)] at e6;obtain⟨Ms,agh,an4,PJ,rfl,aiu,JL⟩:=wA.row mf;obtain⟨Mr,agf,an3,Ar,rfl,ais,OV⟩:=Oj.row mf;injection PJ with PJ _ ajT;subst PJ ajT
   injection Ar with Ar _ ajU;subst Ar ajU
   have aj':(kY ps s M 0).map (fun z=>bn z s)=ps.map fun p=>bn ((bB M s p:Nat):Int) s:=by
    show(ps.map fun p=>((bB M s p:Nat):Int)).map (fun z=>bn z s)=_;rw[SW];rfl
   refine aa 0xd5f57 ?_;refine c8 [(7,.int .i64 ((M:Int) -(((fK ps s M).take ps.length).sum:Int))),(5,_),(6,_)] ?_;refine a' ?_;refine' aB.bA (fun(bE:Nat×Int×(List Value)×(List Value)×(List Nat)×(List Nat)×af)=>match bE with|(t,ll,uM,ma,Lf,Le,gY)=>⟨[(7,.int .i64 ll)],[(Ms,.opn uM 3 Lf 0),(Mr,.opn ma 47 Le 0)],gY,t<=k1 ps s M/\ll=((k1 ps s M:Nat):Int) -(t:Int)/\J.le gY/\uM.take (ps.length*1)=bW .i64 (((fJ ps s M).take t).foldl jL (fK ps s M))/\ps.length*1<=uM.length/\ps.length*3<=ma.length/\g4 3 (fun _=>pO gY) (ma.take (ps.length*3)) ((kY ps s M t).map fun z=>bn z s),k1 ps s M -t⟩) ⟨0,(M:Int) -(((fK ps s M).take ps.length).sum:Int),agh,agf,an4,an3,cb⟩ ?hs ?bb
   case hs=>exact⟨df _,Ah,bS,aiu,JL,OV,by rw[aj',ais];exact e6⟩
   case bb=>
    rintro⟨t,ll,uM,ma,Lf,Le,gY⟩ hinv;try simp only at hinv
    obtain⟨aJ,Vv,mb,OP,JL,OV,OD⟩:=hinv;refine aa 0x17c1039 ?_;refine If (fun EF=>?_) fun EF=>?_
    ·obtain⟨x,U⟩:∃x,(fJ ps s M)[t]?=some x:=⟨_,dX (by rw[F.G6];omega)⟩;have At:=F.xd x (gh U);have ah7:=ak3 (M:=M) mf hs ao U;have iX:(kY ps s M t).length=ps.length:=ak4;refine aa 0xd5f02ce059d5f57 ?_;refine c8 [(13,.int .i64 ((1):Int)),(12,.int .i64 ((0):Int)),(5,_),(6,_),(7,_)] ?_;refine a' ?_;refine' aB.bA (fun(bE:Nat×Nat×af)=>match bE with|(i,fj,H8)=>⟨[(13,.int .i64 (i:Int)),(12,.int .i64 (fj:Int))],[(Ms,.opn uM 3 Lf 0),(Mr,.opn ma 47 Le 0)],H8,1<=i/\i<=ps.length/\fj=m3 (kY ps s M t) (i -1)/\gY.le H8,ps.length -i⟩) ⟨1,0,gY⟩ ?hs ?bb
     case hs=>exact⟨bF _,mf,rfl,af.le.refl _⟩
     case bb=>
      rintro⟨i,fj,H8⟩ hinv;try simp only at hinv
      obtain⟨VK,ys,hY,wk⟩:=hinv;have q3:=(TP (zs:=kY ps s M t) (k:=i -1)).1;refine aa 0x5f0428439 ?_;refine If (fun adl=>?_) fun adl=>?_
      ·
        obtain⟨cX,gj,h1,JG,atk,v1,v2,rfl,Od⟩:=OD.at (full:=ma) (by rw[eP,iX]) (i:=i) (by rw[eP,iX];omega);obtain⟨cW,EP,jK,Vy,atl,bt,cv,rfl,Jr⟩:=OD.at (full:=ma) (by rw[eP,iX]) (i:=fj) (by rw[eP,iX];omega);rw[j6] at h1 jK;obtain⟨en,pk,rfl⟩:=vL.1 h1;obtain⟨fR,Gj,rfl⟩:=vL.1 jK;have ez:=Od.mono wk;have eh:=Jr.mono wk;obtain⟨bs,bp,rfl,aK⟩:=Od.n.bQ;obtain⟨bM,bN,rfl,aH⟩:=Od.d.bQ;obtain⟨cB,cN,rfl,bJ⟩:=Jr.n.bQ;obtain⟨ep,e',rfl,dU⟩:=Jr.d.bQ;have JG:takeN 3 (nP (0+((i:Nat):Int).toNat*3) ma)=some _:=JG;have Vy:takeN 3 (nP (0+((fj:Nat):Int).toNat*3) ma)=some _:=Vy;have Br:=GC (n:=en) (k:=3000) hs (dA (n5 (Xl hs en (gh pk))) h2) h2;have Sa:=GC (n:=fR) (k:=3000) hs (dA (n5 (Xl hs fR (gh Gj))) h2) h2;have nh:(kY ps s M t).getD i 0=en:=by rw[gI,pk];rfl
        have VI:(kY ps s M t).getD fj 0=fR:=by rw[gI,Gj];rfl
        have JV:=am8 (x:=en) (y:=fR) hs;refine aa 0x17d5f57 ?_;refine aB.draw rfl (by kernel_rfl) (aX:=[.val 0,.val 1,.val 2,.val 3,.val 4,.val 5,.val 6,.val 7,.bD 8,.val 9]) (by kernel_rfl) ?_;refine aa 0x1e6182161821 ?_;refine' bh.dV rfl rfl rfl rfl rfl rfl rfl rfl rfl dt (Yw ez eh (ml hs).1 (ml hs).1 I I I I) ?_;rintro v' m' xQ hle ⟨iQ,rfl,rfl⟩;refine aa 0xbe09e ?_;refine If (fun B1=>?_) fun B1=>?_
        ·have Ox:i=m3 (kY ps s M t) (i+1 -1):=acS VK (by rw[<-hY,nh,VI];exact JV.1 B1);refine aa 0x1810c39c0839 ?_;refine eH ⟨i+1,i,xQ⟩ ?_;exact⟨I,I,Ox,wk.trans iQ⟩
        ·have Ox:fj=m3 (kY ps s M t) (i+1 -1):=hY.trans (acT VK (by rw[<-hY,nh,VI];exact fun q=>B1 (JV.2 q)));refine aa 0x60430e757 ?_;refine eH ⟨i+1,fj,xQ⟩ ?_;exact⟨I,I,Ox,wk.trans iQ⟩
      ·
        have aiG:i -1=ps.length -1:=I
        rw[aiG,ah7] at hY;have jI:(((fJ ps s M).take t).foldl jL (fK ps s M)).length=ps.length:=(C2 _ _ (fun x U=>by rw[ia];exact F.xd x (vG U)) (F.Du.sublist (Io _ _))).1.trans ia;have OJ:=(C2 ((fJ ps s M).take t) (fK ps s M) (fun x U=>by rw[ia];exact F.xd x (vG U)) (F.Du.sublist (Io _ _))).2.1;rw[dY] at OJ;have Ab:=F.out;obtain⟨y,au⟩:∃y,(((fJ ps s M).take t).foldl jL (fK ps s M))[x.toNat]?=some y:=⟨_,dX I⟩;have WD:=GH (gh au);have tu:nth uM (0+((fj:Nat):Int).toNat*1)=some (.int .i64 (y:Int)):=by
         rw[QN (i:=0+((fj:Nat):Int).toNat*1) OP I];exact qk au I
        refine aa 0x61a4c10e757 ?_;refine' W.step rfl (.of (LD rfl rfl rfl rfl (tT rfl) rfl rfl rfl ?ab ?hs ?aG ?ao ?_));case ao=>exact .refl _
        case hs=>exact ZS I
        case ab=>first|rfl|assumption
        case aG=>exact df _
        refine aa 0x8738 ?_;refine br (G:=LB (z:=-1) bm) (h:=?_);rintro v' m' vD hle ⟨g9,rfl,dI,dB,rfl,gE⟩;have ahQ:=gE;obtain⟨BT,dR,rfl,YW⟩:=gE.n.bQ;obtain⟨BU,l8,rfl,YX⟩:=gE.d.bQ;refine eT V.c7 ?_;refine' W.step rfl (.of (LD rfl rfl rfl rfl (tT rfl) rfl rfl rfl ?ab ?hs ?aG ?ao ?_));case ao=>exact List.Perm.swap _ _ []
        case hs=>exact(by rw[show 0+((fj:Nat):Int).toNat*3=fj*3 by omega];exact Hu _ _ _ (by show fj*3+3<=ma.length;omega))
        case ab=>first|rfl|assumption
        case aG=>exact df _
        refine kr ?_;have wU:0+((fj:Nat):Int).toNat*1=x.toNat:=I
        have bY:(uM.set (0+((fj:Nat):Int).toNat*1) (.int .i64 ((y:Int)+1))).take (ps.length*1)=bW .i64 (((fJ ps s M).take (t+1)).foldl jL (fK ps s M)):=by
         rw[wU,List.take_set,OP,<-UL U au];unfold bW;rw[Ii];rfl
        have bZ:ps.length*1<=(uM.set (0+((fj:Nat):Int).toNat*1) (.int .i64 ((y:Int)+1))).length:=by rw[g6];exact JL
        have cz:ps.length*3<=(ma.take (fj*3)++rU ⟨-1,1⟩ (.slice BT (ag (-1:Int).natAbs).length dR) (.slice BU (ag 1).length l8)++ma.drop (fj*3+3)).length:=by
         rw[eY,eY,dY,ld];show ps.length*3<=min (fj*3) ma.length+3+(ma.length -(fj*3+3));omega
        have fu:g4 3 (fun _=>pO vD) ((ma.take (fj*3)++rU ⟨-1,1⟩ (.slice BT (ag (-1:Int).natAbs).length dR) (.slice BU (ag 1).length l8)++ma.drop (fj*3+3)).take (ps.length*3)) ((kY ps s M (t+1)).map fun z=>bn z s):=by
         have kw:((kY ps s M t).map fun z=>bn z s).length=ps.length:=by rw[eP,iX]
         have ao:=g4.put (R:=fun _=>pO gY) (R':=fun _=>pO vD) (full:=ma) (xs:=(kY ps s M t).map fun z=>bn z s) (k:=fj) (y:=(⟨-1,1⟩:cY)) (new:=rU ⟨-1,1⟩ (.slice BT (ag (-1:Int).natAbs).length dR) (.slice BU (ag 1).length l8)) (by rw[kw];exact OD) (by rw[kw];exact OV) (fun _ r cs (q:pO gY r cs)=>q.mono (wk.trans g9)) (by rw[kw];omega) rfl ⟨_,_,rfl,ahQ⟩;rw[kw] at ao;rw[ak5 U,Ii,<-alY hs,<-hY];exact ao
        refine aB.mN (List.Perm.swap _ _ []) ?_;refine aa 0x1810c39 ?_;refine eH ⟨t+1,ll -1,uM.set (0+((fj:Nat):Int).toNat*1) (.int .i64 ((y:Int)+1)),ma.take (fj*3)++rU ⟨-1,1⟩ (.slice BT _ dR) (.slice BU _ l8)++ma.drop (fj*3+3),[],[],vD⟩ ?_;exact⟨I,I,mb.trans (wk.trans g9),bY,bZ,cz,fu⟩
    ·obtain rfl:t=k1 ps s M:=I
     refine aa 0x357 ?_;have hE:=eW.of (e:=3) (sz:=1) (k:=ps.length) (a:=Ms) (full:=uM) (rest:=Lf) JL;rw[OP] at hE;refine eW.mo (fH:=[(Mr,.opn ma 47 Le 0)]) hE (.refl _) fun rE hi aj=>?_;refine aa 0x357c0839 ?_;refine bo ?_;exact⟨mb.trans hi,rfl,_,_,rfl,aj.num⟩
end
structure ab5 (J:af) (x:b5) (v1 v2:Value):Prop where
 n:cJ .u32 J v1 x.num
 d:cJ .u32 J v2 x.den
def Gw(l:List b5):Prop:=¬(qs l/\l.length<=15)
def Bx(J:af)(x:b5)(cs:List Value):Prop:=∃v1 v2,cs=[.bool x.neg,v1,v2]/\ab5 J x v1 v2
section
variable {Q:cZ Tryz.prog}{g0:Nat}{J:af}
theorem acv{v w:Value}{l:List Nat}(ap:l.length<=1000)(ab:cJ .i64 J v l)(ad:cJ .i64 J w l):Fn (aT Q g0) 49 [v,w] [] J (fun u m' ae=>m'=[]/\J=ae/\u=.bool true):=by
 obtain⟨bs,bp,rfl⟩:=ab.form;obtain⟨bM,bN,rfl⟩:=ad.form;refine Fn.b8 (b7 Tryz.func49) rfl rfl fun H=>?_;refine aa 0x5f04284a1ce059 ?_;refine If (fun b2=>?_) fun b2=>?_
 ·exfalso;exact b2 rfl
 ·refine aa 0x6af816757 ?_;refine c8 [(5,.int .i64 ((0):Int)),(0,_),(1,_)] ?_;refine a' ?_;refine' aB.ja (fun(i:Nat)=>⟨[(5,.int .i64 (i:Int))],i<=l.length,l.length -i⟩) (0) ?hs ?bb;case hs=>exact df _
  case bb=>
   rintro i hinv;try simp only at hinv
   have ak:=hinv;refine aa 0x5f0428439 ?_;refine If (fun dZ=>?_) fun dZ=>?_
   ·obtain⟨a,o,qR,e,rfl,gD,ar⟩:=ab.at I;obtain⟨bO,o',Nc,bC,rfl,yi,p'⟩:=ad.at I;obtain⟨p,ao,ha⟩:=ar i I;obtain⟨q,bI,pc⟩:=p' i I;have ha:nth qR (o+((i:Int)).toNat*1)=some (.int .i64 (p:Int)):=ha;have pc:nth Nc (o'+((i:Int)).toNat*1)=some (.int .i64 (q:Int)):=pc;obtain rfl:p=q:=sS (ao.symm.trans bI);refine aa 0x17d5f57 ?_;refine aB.draw rfl (by kernel_rfl) (aX:=[.val 0,.val 1,.val 2,.val 3,.val 4,.val 5,.val 6,.val 7,.val 8]) (by kernel_rfl) ?_;refine aa 0x5f044982149821 ?_;refine If (fun qN=>?_) fun qN=>?_
    ·exfalso;exact qN rfl
    ·refine aa 0x60430e757 ?_;refine jf (i+1) ?_;exact I
   ·refine aa 0x6af816757 ?_;refine bo ?_;exact⟨rfl,rfl,rfl⟩
theorem TA{v w:Value}{l:List Nat}(ap:l.length<=1000)(ab:cJ .u32 J v l)(ad:cJ .u32 J w l):Fn (aT Q g0) 50 [v,w] [] J (fun u m' ae=>m'=[]/\J=ae/\u=.bool true):=by
 obtain⟨bs,bp,rfl⟩:=ab.form;obtain⟨bM,bN,rfl⟩:=ad.form;refine Fn.b8 (b7 Tryz.func50) rfl rfl fun H=>?_;refine aa 0x5f04284a1ce059 ?_;refine If (fun b2=>?_) fun b2=>?_
 ·exfalso;exact b2 rfl
 ·refine aa 0x6af816757 ?_;refine c8 [(5,.int .i64 ((0):Int)),(0,_),(1,_)] ?_;refine a' ?_;refine' aB.ja (fun(i:Nat)=>⟨[(5,.int .i64 (i:Int))],i<=l.length,l.length -i⟩) (0) ?hs ?bb;case hs=>exact df _
  case bb=>
   rintro i hinv;try simp only at hinv
   have ak:=hinv;refine aa 0x5f0428439 ?_;refine If (fun dZ=>?_) fun dZ=>?_
   ·obtain⟨a,o,qR,e,rfl,gD,ar⟩:=ab.at I;obtain⟨bO,o',Nc,bC,rfl,yi,p'⟩:=ad.at I;obtain⟨p,ao,ha⟩:=ar i I;obtain⟨q,bI,pc⟩:=p' i I;have ha:nth qR (o+((i:Int)).toNat*1)=some (.int .u32 (p:Int)):=ha;have pc:nth Nc (o'+((i:Int)).toNat*1)=some (.int .u32 (q:Int)):=pc;obtain rfl:p=q:=sS (ao.symm.trans bI);refine aa 0x17d5f57 ?_;refine aB.draw rfl (by kernel_rfl) (aX:=[.val 0,.val 1,.val 2,.val 3,.val 4,.val 5,.val 6,.val 7,.val 8]) (by kernel_rfl) ?_;refine aa 0x5f044982149821 ?_;refine If (fun qN=>?_) fun qN=>?_
    ·exfalso;exact qN rfl
    ·refine aa 0x60430e757 ?_;refine jf (i+1) ?_;exact I
   ·refine aa 0x6af816757 ?_;refine bo ?_;exact⟨rfl,rfl,rfl⟩
theorem aoQ{x:b5}{v1 v2 bt cv:Value}(aq:o0 J x v1 v2)(hs:o0 J x bt cv):Fn (aT Q g0) 24 [A5 x v1 v2,A5 x bt cv] [] J (fun u m' ae=>m'=[]/\J=ae/\u=.bool true):=by
 have cx:=aq;have fE:=hs;have dL:=aq.fG;have du:=aq.lx;obtain⟨bs,bp,rfl⟩:=aq.n.form;obtain⟨bM,bN,rfl⟩:=aq.d.form;obtain⟨cB,cN,rfl⟩:=hs.n.form;obtain⟨ep,e',rfl⟩:=hs.d.form;refine Fn.b8 (b7 Tryz.func24) rfl rfl fun H=>?_;refine rg ?_;refine gZ fun bc=>?_;refine gZ fun cu=>?_;refine aa 0x29aa6e702 ?_;refine' W.step rfl (Exec.val rfl rfl (xB rfl rfl rfl (.inl ⟨rfl,rfl⟩) (by kernel_rfl)) ?_);refine eT V.k2 ?_;refine fs 10 (fun Jg=>?_) fun Jg=>?_
 ·refine aa 0x5354d ?_;refine vV (G:=TA I cx.n fE.n) (h:=?_);rintro v' m' ae hle ⟨rfl,rfl,rfl⟩;refine aa 0x28 ?_;refine fs 17 (fun agP=>?_) fun agP=>?_
  ·refine aa 0x5354d ?_;refine vV (G:=TA I cx.d fE.d) (h:=?_);rintro v' m' ae hle ⟨rfl,rfl,rfl⟩;refine aa 0x1abe048 ?_;refine bo ?_;exact⟨rfl,rfl,rfl⟩
  ·exfalso
   simp_all
 ·exfalso
  simp_all
theorem aoS{l:List b5}{b b':Option Addr}{c c':Nat}(ap:l.length<=1000)(h:dz J 47 3 (jC J) (.slice b l.length c) l)(gO:dz J 47 3 (jC J) (.slice b' l.length c') l):Fn (aT Q g0) 36 [.slice b l.length c,.slice b' l.length c'] [] J (fun u m' ae=>m'=[]/\J=ae/\u=.bool true):=by
 have ly:addrEq b b=true:=h.addr;have Rd:addrEq b' b'=true:=gO.addr;obtain⟨_,db⟩:=h.at;obtain⟨_,Fu⟩:=gO.at;refine Fn.b8 (b7 Tryz.func36) rfl rfl fun H=>?_;refine aa 0x5f04284a1ce059 ?_;refine If (fun b2=>?_) fun b2=>?_
 ·exfalso;exact b2 rfl
 ·refine aa 0x6af816757 ?_;refine c8 [(5,.int .i64 ((0):Int)),(0,_),(1,_)] ?_;refine a' ?_;refine' aB.ja (fun(i:Nat)=>⟨[(5,.int .i64 (i:Int))],i<=l.length,l.length -i⟩) (0) ?hs ?bb;case hs=>exact df _
  case bb=>
   rintro i hinv;try simp only at hinv
   have ak:=hinv;refine aa 0x5f0428439 ?_;refine If (fun dZ=>?_) fun dZ=>?_
   ·obtain⟨a,off,cells,bC,rfl,ke,fN⟩:=db I;obtain⟨x,cs,U,hZ,q8,v1,v2,rfl,dq⟩:=fN i I I;obtain⟨bO,fI,cells',aR,rfl,asV,FE⟩:=Fu I;obtain⟨dv,cy,gb,aij,aiN,bt,cv,rfl,z3⟩:=FE i I I;obtain rfl:x=dv:=sS (U.symm.trans gb);have nb:=dq;have Oc:=z3;obtain⟨bs,bp,rfl⟩:=dq.n.form;obtain⟨bM,bN,rfl⟩:=dq.d.form;obtain⟨cB,cN,rfl⟩:=z3.n.form;obtain⟨ep,e',rfl⟩:=z3.d.form;refine aa 0x17d5f57 ?_;refine aB.draw rfl (by kernel_rfl) (aX:=[.val 0,.val 1,.val 2,.val 3,.val 4,.val 5,.val 6,.val 7,.bD 8,.val 9]) (by kernel_rfl) ?_;refine aa 0x6182161821 ?_;refine dl rfl (G:=aoQ nb Oc) (h:=?_);rintro v' m' ae hle ⟨rfl,rfl,rfl⟩;refine aa 0x5f11 ?_;refine If (fun iv=>?_) fun iv=>?_
    ·exfalso;first|(simp at iv;done)|cases iv
    ·refine aa 0x60430e757 ?_;refine jf (i+1) ?_;exact I
   ·refine aa 0x6af816757 ?_;refine bo ?_;exact⟨rfl,rfl,rfl⟩
theorem Qg{l:List b5}{i:Nat}{x:b5}(U:l[i]?=some x)(h:4<x.num.length\/4<x.den.length):Gw l:=fun q=>by
 have:=q.1 x (gh U);omega
open Classical in
theorem alg{l:List b5}{b:Option Addr}{c:Nat}(h:dz J 47 3 (Bx J) (.slice b l.length c) l)(iX:l.length<=9223372036854775807):Fn (aT Q g0) 18 [.slice b l.length c] [] J (fun u m' ae=>m'=[]/\J=ae/\u=.bool (decide (Gw l))):=by
 have ly:addrEq b b=true:=h.addr;obtain⟨_,db⟩:=h.at;refine Fn.b8 (b7 Tryz.func18) rfl rfl fun H=>?_;refine aa 0xd5f02ce059 ?_;refine c8 [(3,.int .i64 ((0):Int)),(0,_)] ?_;refine a' ?_;refine' aB.ja (fun(i:Nat)=>⟨[(3,.int .i64 (i:Int))],i<=l.length/\qs (l.take i),l.length -i⟩) (0) ?hs ?bb;case hs=>exact⟨df _,fun x U=>by rw[fq] at U;cases U⟩
 case bb=>
  rintro i hinv;try simp only at hinv
  obtain⟨ak,hn⟩:=hinv;refine aa 0x5f0428439 ?_;refine If (fun fB=>?_) fun fB=>?_
  ·obtain⟨a,off,cells,bC,rfl,ke,fN⟩:=db I;obtain⟨x,cs,U,hZ,q8,v1,v2,rfl,dq⟩:=fN i I I;rw[h9] at U;obtain⟨bs,bp,rfl⟩:=dq.n.form;obtain⟨bM,bN,rfl⟩:=dq.d.form;have OU:=q8 1 _ bm rfl;have FF:=q8 2 _ bm rfl;refine aa 0x12152d30439d5f57 ?_;refine fs 17 (fun o7=>?_) fun o7=>?_
   ·refine aa 0xd5f02ceaf846f7bdef7b ?_;refine bo ?_;first
      |exact⟨rfl,rfl,by rw[g7 (Qg U I)];rfl⟩
      |exact⟨rfl,rfl,b6 Value.bool (lJ.2 ⟨fun q r=>absurd r.2 I,fun q=>iF fun r=>q ⟨hn,I⟩⟩)⟩
   ·refine aa 0x2f8410a969821 ?_;refine If (fun qN=>?_) fun qN=>?_
    ·refine aa 0x1abe059 ?_;refine bo ?_;first
        |exact⟨rfl,rfl,by rw[g7 (Qg U I)];rfl⟩
        |exact⟨rfl,rfl,b6 Value.bool (lJ.2 ⟨fun q r=>absurd r.2 I,fun q=>iF fun r=>q ⟨hn,I⟩⟩)⟩
    ·refine aa 0x60430e757 ?_;refine jf (i+1) ?_;exact⟨I,Hw (P:=fun x:b5=>x.num.length<=4/\x.den.length<=4) hn U ⟨I,I⟩⟩
  ·have ty:l.take i=l:=cM I;rw[ty] at hn;refine aa 0x357c08850e757 ?_;refine bo ?_;first
    |exact⟨rfl,rfl,by rw[g7 (Qg U I)];rfl⟩
    |exact⟨rfl,rfl,b6 Value.bool (lJ.2 ⟨fun q r=>absurd r.2 I,fun q=>iF fun r=>q ⟨hn,I⟩⟩)⟩
end
section
variable {Q:cZ Tryz.prog}{g0:Nat}{J:af}
theorem ane{x:b5}{v1 v2:Value}(h:o0 J x v1 v2):Fn (aT Q g0) 53 [A5 x v1 v2] [] J (fun u m' ae=>J.le ae/\m'=[]/\∃bt cv,u=A5 x bt cv/\o0 ae x bt cv):=by
 have aN:=h;have dL:=h.fG;have du:=h.lx;obtain⟨bs,bp,rfl⟩:=h.n.form;obtain⟨bM,bN,rfl⟩:=h.d.form;have aK:addrEq bs bs=true:=h.n.addr;have aH:addrEq bM bM=true:=h.d.addr;refine Fn.b8 (b7 Tryz.func53) rfl rfl fun H=>?_;refine rg ?_;refine gZ fun a7=>?_;refine gn fun bc=>?_;refine sn ?_;refine aB.draw rfl (by kernel_rfl) (aX:=[.ir 2,.ir 6,.val 0,.val 1,.val 3,.val 4,.val 7,.val 8,.bD 5,.ca [8,7,1,0],.bD 9,.val 10,.ca [1,0],.bD 11]) (by kernel_rfl) ?_;refine cm.buildSlice rfl rfl rfl rfl rfl rfl (eB rfl) rfl rfl rfl fun cI=>?_;refine cm.buildSlice rfl rfl rfl rfl rfl rfl (eB rfl) rfl rfl rfl fun nI=>?_;refine aa 0x14d5354d ?_;refine' cm.pW rfl rfl (t' rfl rfl rfl rfl rfl rfl (eB rfl) (vr Q g0) (fun i q=>by cases q) ?ev ?hm ?U ?dE ?dQ ?ap fun auX aug Oo atN=>?_);case ev=>exact .jF _
 case hm=>exact .refl _
 case U=>exact cJ.rd aN.n
 case dE=>exact(show(bW .u32 x.num).length=x.num.length*1 by rw[qj,gJ])
 case dQ=>exact Dl _
 case ap=>exact(show 0+x.num.length<=1000000 by omega)
 rw[kH,kE] at Oo;have ahW:=Oo;obtain⟨jm,fC,rfl,pA⟩:=Oo.tc;refine cm.ca ft ?_;refine' cm.pW rfl rfl (t' rfl rfl rfl rfl rfl rfl (eB rfl) (vr Q g0) (fun i q=>by cases q) ?ev ?hm ?U ?dE ?dQ ?ap fun auR aud Ol atJ=>?_);case ev=>exact .jF _
 case hm=>exact .refl _
 case U=>exact cJ.rd aN.d
 case dE=>exact(show(bW .u32 x.den).length=x.den.length*1 by rw[qj,gJ])
 case dQ=>exact Dl _
 case ap=>exact(show 0+x.den.length<=1000000 by omega)
 rw[kH,kE] at Ol;have ahV:=Ol;obtain⟨MC,j9,rfl,Rc⟩:=Ol.tc;refine aa 0xc73b0 ?_;refine ahV.mo (.refl _) fun bi aM wu=>?_;refine ahW.mo (.refl _) fun de a9 nc=>?_;refine aa 0x357 ?_;refine bo ?_;exact⟨aM.trans a9,rfl,_,_,rfl,⟨⟨_,nc⟩,⟨_,wu.mono a9⟩,dL,du⟩⟩
theorem anf{l:List b5}{b:Option Addr}{c:Nat}(h:dz J 47 3 (jC J) (.slice b l.length c) l)(iX:l.length<=1000):Fn (aT Q g0) 26 [.slice b l.length c] [] J (fun u m' ae=>J.le ae/\m'=[]/\∃b' c',u=.slice b' l.length c'/\dz ae 47 3 (jC ae) (.slice b' l.length c') l):=by
 have ly:addrEq b b=true:=h.addr;obtain⟨_,db⟩:=h.at;refine Fn.b8 (b7 Tryz.func26) rfl rfl fun H=>?_;refine aa 0x6af816702ce059 ?_;refine c8 [(4,.int .i64 ((0):Int)),(3,(.slice none 0 0)),(0,_)] ?_;refine a' ?_;refine' aB.bA (fun(bE:Nat×Value×aO×(List Value)×af)=>match bE with|(i,eO,a8,d,cb)=>⟨[(4,.int .i64 (i:Int)),(3,eO)],a8,cb,i<=l.length/\J.le cb/\eW 47 3 eO i d a8/\g4 3 (fun _=>jC cb) d (l.take i),l.length -i⟩) ⟨0,.slice none 0 0,[],[],J⟩ ?hs ?bb
 case hs=>exact⟨df _,af.le.refl _,.inl ⟨.nil,rz,rl⟩,⟨by rw[fq];rfl,fun i x U=>by rw[fq] at U;cases U⟩⟩
 case bb=>
  rintro⟨i,eO,a8,d,cb⟩ hinv;try simp only at hinv
  obtain⟨ak,bS,hE,e6⟩:=hinv;refine aa 0x5f0428439 ?_;refine If (fun fC=>?_) fun fC=>?_
  ·obtain⟨a,off,cells,bC,rfl,ke,fN⟩:=db I;obtain⟨x,cs,U,hZ,q8,v1,v2,rfl,dq⟩:=fN i I I;rw[h9] at U;have ke:=bS _ _ ke;have nb:=dq.mono bS;obtain⟨bs,bp,rfl⟩:=dq.n.form;obtain⟨bM,bN,rfl⟩:=dq.d.form;refine aa 0x18608439d5f57 ?_;refine br (G:=ane nb) (h:=?_);rintro v' m' bi hle ⟨aM,rfl,bt,cv,rfl,uP⟩;have ahz:=uP;obtain⟨cB,cN,rfl⟩:=uP.n.form;obtain⟨ep,e',rfl⟩:=uP.d.form;refine lj fun ace=>?_;refine' W.step rfl (.of (ua rfl rfl rfl rfl rfl rfl (eB rfl) (aqq Q g0) (fun i q=>by cases q) ?ev ?hm ?U ?dE ?dQ ?aY ?ap fun R0 Qs On=>?_));case ev=>exact hE
   case hm=>exact(vH _ a8).symm
   case U=>exact pB
   case dE=>first|rfl|(simp;done)|(simp;omega)
   case dQ=>first|rfl|exact qg _
   case aY=>exact Nat.one_pos
   case ap=>exact(show i+1<=1000000 by omega)
   refine aa 0x302 ?_;have mE:g4 3 (fun _=>jC bi) (d++[.bool x.neg,.slice cB x.num.length cN,.slice ep x.den.length e']) (l.take (i+1)):=by
    rw[ko,U];exact(e6.mono fun _ _ _ q=>q.mono aM).app ⟨_,_,rfl,ahz⟩ rfl
   refine aa 0x1810c39 ?_;refine eH ⟨i+1,R0,Qs,d++[.bool x.neg,.slice cB x.num.length cN,.slice ep x.den.length e'],bi⟩ ?_ (hm:=lf _ _);exact⟨I,bS.trans aM,On,mE⟩
  ·obtain rfl:i=l.length:=I
   rw[sO] at e6;refine aa 0x357 ?_;refine eW.mo (fH:=[]) hE (by rw[ij]) fun rE hi aj=>?_;refine aa 0x357c0839 ?_;refine bo ?_;obtain⟨gy,eI,rfl⟩:=hE.qU;exact⟨bS.trans hi,rfl,gy,eI,rfl,⟨⟨d,aj,fun i x U=>(e6.2 i x U).mono hi⟩⟩⟩
end
end
end Go.Opn

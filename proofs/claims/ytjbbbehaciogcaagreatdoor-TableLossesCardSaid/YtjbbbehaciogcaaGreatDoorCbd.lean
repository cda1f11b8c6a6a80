/- A part of the proof of TableLosses. -/
import Derived.Test.YtjbbbehaciogcaaGreatDoorCbc
import Derived.Test.YtjbbbehaciogcaaGreatDoorCay
import Derived.Test.YtjbbbehaciogcaaGreatDoorCaw
import Derived.Test.YtjbbbehaciogcaaGreatDoorCat
import Derived.Test.YtjbbbehaciogcaaGreatDoorCba
set_option linter.unusedVariables false
namespace Go.Opn
noncomputable section
def t':List cf->Int
 |[]=>0
 |x::l=>if lJ x=0 then t' l else lJ x
def g1:List cf->Nat
 |[]=>1
 |x::l=>aK x.den*g1 l
def shr(s:Nat)(x:cf):Nat:=aK x.num*(s / aK x.den)
def iJ(l:List cf):List Nat:=l.map (shr (g1 l))
def k5(l:List cf):Prop:=∀x∈l,lJ x=0
def qz(l:List cf):Prop:=∀x∈l,x.num.length<=4/\x.den.length<=4
theorem QS{x:cf}{l:List cf}(h:lJ x=0):t' (x::l)=t' l:=aV h
theorem xW:∀{l:List cf} {i:Nat} {x:cf},(∀y∈l.take i,lJ y=0)->l[i]?=some x->lJ x≠0->t' l=lJ x
 |[],_,_,_,aa,_=>by cases aa
 |y::l,0,x,_,aa,h=>by
  have e:y=x:=by injection aa
  subst e
  exact aQ h
 |y::l,i+1,x,aI,aa,h=>by
  rw[QS (aI y (by rw[DK];exact .head _))]
  exact xW (fun z aM=>aI z (by rw[DK];exact .tail _ aM)) aa h
theorem QT:∀{l:List cf},k5 l->t' l=0
 |[],_=>rfl
 |x::l,h=>by rw[QS (h x (.head _))];exact QT fun y ap=>h y (.tail _ ap)
theorem Qg:∀{l:List cf} {x:cf},x∈l->aK x.den ∣ g1 l
 |y::l,x,h=>by
  rcases gj.1 h with q|q
  ·rw[q];exact Nat.dvd_mul_right _ _
  ·exact KR (Qg q) (Nat.dvd_mul_left _ _)
theorem tT:∀{l:List cf},k5 l->0<g1 l
 |[],_=>Nat.one_pos
 |x::l,h=>jr (sL (h x (.head _))).2.2.2.1 (tT fun y ap=>h y (.tail _ ap))
theorem auA{x:cf}{s:Nat}(h:lJ x=0)(au:aK x.den ∣ s)(hs:0<s):bk (shr s x:Int) s=x.rt:=by
 obtain⟨_,_,_,aC⟩:=sL h
 refine(Ao aC hs ?_).symm
 obtain⟨k,hk⟩:=au
 have EK:0<aK x.den:=aC.1
 show((aK x.num:Nat):Int)*s=(shr s x:Int)*(aK x.den:Nat)
 unfold shr
 rw[hk,xc _ EK]
 norm_cast
 rw[fy,dP k]
theorem UD{l:List cf}(h:k5 l):(iJ l).map (fun p:Nat=>bk (p:Int) (g1 l))=l.map cf.rt:=by
 unfold iJ
 rw[OP]
 exact V9 fun x aa=>auA (h x aa) (Qg aa) (tT h)
theorem G3:∀{l:List cf},k5 l->qz l->(ag (g1 l)).length<=4*l.length+1
 |[],_,_=>kJ bI
 |x::l,h,a6=>by
  have ad:=G3 (l:=l) (fun y ap=>h y (.tail _ ap)) fun y ap=>a6 y (.tail _ ap)
  have ae:=(sL (h x (.head _))).2.2.1
  have aD:(ag (aK x.den)).length<=4:=by rw[<-ae];exact(a6 x (.head _)).2
  have:=pn aD ad
  rw[kR]
  exact cX this I
theorem ad0{k:Nat}:∀{ps:List Nat},(∀p∈ps,(ag p).length<=k)->(ag ps.sum).length<=k+ps.length
 |[],_=>by rw[Wf,lR];exact c5 _
 |p::ps,h=>by
  have ad:=ad0 (k:=k) (ps:=ps) fun q bQ=>h q (.tail _ bQ)
  rw[vo,kR]
  exact MZ (k:=k+ps.length) (cX (h p (.head _)) (O0 _ _)) ad
theorem auy{l:List cf}(h:k5 l)(a6:qz l):∀p∈iJ l,(ag p).length<=4*l.length+5:=fun p aw=>by
 obtain⟨x,aa,rfl⟩:=A1.1 aw
 have ae:=(sL (h x aa)).2.1
 have aD:(ag (aK x.num)).length<=4:=by rw[<-ae];exact(a6 x aa).1
 have eM:(ag (g1 l / aK x.den)).length<=4*l.length+1:=cX (nD (tC _ _)) (G3 h a6)
 exact cX (pn aD eM) I
theorem tn(l:List cf):(iJ l).length=l.length:=j0 _
theorem adl{l:List cf}(h:k5 l)(a6:qz l):(ag (iJ l).sum).length<=5*l.length+5:=by
 have:=ad0 (auy h a6)
 rw[tn] at this;omega
def mL (l:List cf):Int:=if l.length<1\/10<l.length then 3 else if t' l=0 then(if(iJ l).sum=g1 l then 0 else 14) else t' l
theorem Uz{l:List cf}(h:l.length<1\/10<l.length):mL l=3:=aV h
theorem JV{l:List cf}(h:¬(l.length<1\/10<l.length))(ae:t' l≠0):mL l=t' l:=by unfold mL;rw[aQ h,aQ ae]
theorem UA{l:List cf}(h:¬(l.length<1\/10<l.length))(ae:k5 l)(aD:(iJ l).sum≠g1 l):mL l=14:=by unfold mL;rw[aQ h,aV (QT ae),aQ aD]
theorem adb{l:List cf}(h:¬(l.length<1\/10<l.length))(ae:k5 l)(aD:(iJ l).sum=g1 l):mL l=0:=by unfold mL;rw[aQ h,aV (QT ae),aV aD]
theorem Yc:∀{l:List cf},t' l=0->k5 l
 |[],_=>fun x aa=>by cases aa
 |x::l,h=>by
  by_cases q:lJ x=0
  ·rw[QS q] at h
   intro y ap
   rcases gj.1 ap with e|e
   ·rw[e];exact q
   ·exact Yc h y e
  ·exact absurd ((aQ q).symm.trans h) q
theorem NU{l:List cf}(h:mL l=0):1<=l.length/\l.length<=10/\k5 l/\(iJ l).sum=g1 l:=by
 by_cases q:l.length<1\/10<l.length
 ·rw[Uz q] at h;cases h
 ·by_cases aG:t' l=0
  ·have ae:=Yc aG
   by_cases bt:(iJ l).sum=g1 l
   ·exact⟨I,I,ae,bt⟩
   ·rw[UA q ae bt] at h;cases h
  ·rw[JV q aG] at h;exact absurd h aG
theorem Qi{x:cf}:∀{l:List cf},g1 (l++[x])=g1 l*aK x.den
 |[]=>by show aK x.den*1=1*aK x.den;rw[ha,jb]
 |y::l=>by
  show aK y.den*g1 (l++[x])=aK y.den*g1 l*aK x.den
  rw[Qi,fy]
theorem auz{x:cf}{s k:Nat}(h:lJ x=0)(au:aK x.den ∣ s):shr (s*k) x=shr s x*k:=by
 obtain⟨_,_,_,aC⟩:=sL h
 have EK:0<aK x.den:=aC.1
 obtain⟨j,aX⟩:=au
 unfold shr
 rw[aX,fy,xc _ EK,xc _ EK,fy]
theorem ad1(k:Nat)(f g:cf->Nat):∀{l:List cf},(∀x∈l,f x=g x*k)->(l.map f).sum=(l.map g).sum*k
 |[],_=>by rw[List.map_nil,List.map_nil,Wf,jE]
 |x::l,h=>by
  rw[rD,rD,vo,vo,c6,h x (.head _),ad1 k f g fun y ap=>h y (.tail _ ap)]
theorem auC{x:cf}{l:List cf}(h:k5 l)(aa:lJ x=0):(iJ (l++[x])).sum=(iJ l).sum*aK x.den+aK x.num*g1 l:=by
 unfold iJ
 rw[KM,List.sum_append,List.map_singleton,List.sum_singleton,Qi]
 rw[ad1 (aK x.den) (shr (g1 l*aK x.den)) (shr (g1 l)) fun y ap=>auz (h y ap) (Qg ap)]
 obtain⟨_,_,_,aC⟩:=sL aa
 have EK:0<aK x.den:=aC.1
 unfold shr
 rw[tD _ EK]
def kc(l:List cf):bx:=bk ((iJ l).sum:Int) (g1 l)
theorem avP:kc []=⟨0,1⟩:=yJ (d:=1) Nat.one_pos
theorem N7{l:List cf}(h:k5 l):(kc l).hG:=me (tT h)
theorem avR{x:cf}{l:List cf}(h:k5 l)(aa:lJ x=0):bk ((kc l).z*(x.rt.d:Nat)+x.rt.z*((kc l).d:Nat)) ((kc l).d*x.rt.d)=kc (l++[x]):=by
 obtain⟨_,_,_,aC⟩:=sL aa
 have ad:=Nn (X:=((iJ l).sum:Int)) (Y:=x.rt.z) (tT h) aC.1
 rw[No aC] at ad
 unfold kc
 rw[ad,auC h aa,Qi]
 congr 1
theorem J3{l:List cf}(h:k5 l):¬(kc l).z<0:=tg (tT h)
theorem aek{l:List cf}(h:k5 l)(a6:qz l)(aq:l.length<=10):(ag (kc l).z.natAbs).length<=100/\(ag (kc l).d).length<=100:=by
 have ad:=G3 h a6
 have ae:=adl h a6
 have aD:=Np (z:=((iJ l).sum:Int)) (tT h)
 rw[iC] at aD
 exact⟨cX (nD aD.1) I,cX (nD aD.2) I⟩
theorem XW{x:cf}(h:lJ x=0)(a6:x.num.length<=4/\x.den.length<=4):(ag x.rt.z.natAbs).length<=4/\(ag x.rt.d).length<=4:=by
 obtain⟨_,ad,ae,_⟩:=sL h
 exact⟨by show(ag (aK x.num)).length<=4;rw[<-ad];exact a6.1,by show(ag (aK x.den)).length<=4;rw[<-ae];exact a6.2⟩
theorem ael{l:List cf}(h:k5 l):y0 ((kc l).z*((1:Nat):Int) -1*((kc l).d:Int))=0↔(iJ l).sum=g1 l:=by
 have hs:=tT h
 have ad:=yI (z:=((iJ l).sum:Int)) hs
 have au:0<(kc l).d:=(N7 h).1
 have e:y0 ((kc l).z*((1:Nat):Int) -1*((kc l).d:Int))=0↔(kc l).z=((kc l).d:Int):=by
  unfold y0
  split
  ·omega
  ·split<;>omega
 rw[e]
 change (kc l).z*(g1 l:Int)=((iJ l).sum:Int)*((kc l).d:Int) at ad
 constructor
 ·intro q
  rw[q,k8] at ad
  have:=Gk I ad
  omega
 ·intro q
  rw[q,k8 ((g1 l:Nat):Int)] at ad
  exact Gk I ad
open Classical in
theorem Qh{l:List cf}(h:mL l=0)(a6:qz l):(ag (g1 l)).length<=41:=by
 obtain⟨ad,ae,aD,_⟩:=NU h
 have:=G3 aD a6
 omega
end
end Go.Opn
set_option linter.unusedSimpArgs false
namespace Go.Opn
noncomputable section
open Classical
def qV {α:Type}(f:α->Int):List α->Int
 |[]=>0
 |x::l=>if f x≠0 then f x else qV f l
theorem zN{α:Type}{f:α->Int}{x:α}:∀{l:List α} {i:Nat},(∀y∈l.take i,f y=0)->l[i]?=some x->f x≠0->qV f l=f x:=by
 intro l;induction l with
 |nil=>intro i _ h;cases h
 |cons y l aP=>
  intro i h aa ai;cases i with
  |zero=>injection aa with aa;subst aa;show(if f y≠0 then f y else _)=_;rw[aV ai]
  |succ i=>
   have aR:f y=0:=h y (by rw[DK];exact .head _);show(if f y≠0 then f y else qV f l)=_;rw[aQ (fun q=>q aR)];exact aP (fun z aM=>h z (by rw[DK];exact .tail _ aM)) aa ai
theorem LM{α:Type}{f:α->Int}:∀{l:List α},(∀y∈l,f y=0)->qV f l=0:=by
 intro l;induction l with
 |nil=>intro _;rfl
 |cons y l aP=>
  intro h;show(if f y≠0 then f y else qV f l)=_;rw[aQ (fun q=>q (h y (.head _)))];exact aP fun z aM=>h z (.tail _ aM)
theorem Yd{α:Type}{f:α->Int}:∀{l:List α},qV f l=0->∀y∈l,f y=0:=by
 intro l;induction l with
 |nil=>intro _ y h;cases h
 |cons y l aP=>
  intro h z aM;have h:(if f y≠0 then f y else qV f l)=0:=h;by_cases q:f y=0
  ·rw[aQ (fun r=>r q)] at h;cases aM with
   |head=>exact q
   |tail _ aM=>exact aP h z aM
  ·rw[aV q] at h;exact absurd h q
theorem Ny{α:Type}{f:α->Int}{x:α}{l:List α}{i:Nat}(h:∀y∈l.take i,f y=0)(aa:l[i]?=some x)(aR:f x=0):∀y∈l.take (i+1),f y=0:=by
 rw[lD,aa];intro y ap;rcases nh.1 ap with q|q
 ·exact h y q
 ·cases q with
  |head=>exact aR
  |tail _ q=>cases q
def nI (M:Nat)(l:List Int):Int:=if l.length<1\/10<l.length then 3 else if ∃s∈l,s<0\/(M:Int)<s then 2 else if l.sum≠(M:Int) then 14 else 0
def nb (bits:Int)(ts:List (List Int)):Int:=if bits<1\/30<bits then 2 else if 200<ts.length then 4 else qV (nI (2 ^ bits.toNat)) ts
def uZ(M:Nat)(l:List Int):Prop:=∀s∈l,0<=s/\s<=(M:Int)
section
variable {M:Nat}{l:List Int}{i:Nat}{x:Int}
theorem adg(h:l.length<1\/10<l.length):nI M l=3:=aV h
theorem adj(h:¬(l.length<1\/10<l.length))(aa:l[i]?=some x)(ai:x<0\/(M:Int)<x):nI M l=2:=by
 unfold nI;rw[aQ h,aV ⟨x,et aa,ai⟩]
theorem adh(h:uZ M l):¬∃s∈l,s<0\/(M:Int)<s:=fun⟨s,ad,ae⟩=>by have:=h s ad;omega
theorem adk(h:¬(l.length<1\/10<l.length))(ah:uZ M l)(hs:l.sum≠(M:Int)):nI M l=14:=by
 unfold nI;rw[aQ h,aQ (adh ah),aV hs]
theorem adi(h:¬(l.length<1\/10<l.length))(ah:uZ M l)(hs:l.sum=(M:Int)):nI M l=0:=by
 unfold nI;rw[aQ h,aQ (adh ah),aQ (fun q=>q hs)]
theorem NV(h:nI M l=0):1<=l.length/\l.length<=10/\uZ M l/\l.sum=(M:Int):=by
 unfold nI at h;split at h
 ·cases h
 ·split at h
  ·cases h
  ·rename_i ad ae;split at h
   ·cases h
   ·rename_i aD;refine⟨I,I,fun s hs=>?_,jD aD⟩;have:¬(s<0\/(M:Int)<s):=fun q=>ae ⟨s,hs,q⟩;omega
theorem adD:uZ M (l.take 0):=fun s hs=>by cases hs
theorem adE(h:uZ M (l.take i))(aa:l[i]?=some x)(ai:¬(x<0\/(M:Int)<x)):uZ M (l.take (i+1)):=by
 rw[lD,aa];intro y ap;rcases nh.1 ap with q|q
 ·exact h y q
 ·cases q with
  |head=>omega
  |tail _ q=>cases q
theorem ad2(aa:l[i]?=some x):(l.take (i+1)).sum=(l.take i).sum+x:=by
 rw[lD,aa,List.sum_append];simp
theorem adZ:∀{l:List Int} {n:Nat},uZ M l->l.length<=n->0<=l.sum/\l.sum<=((n*M:Nat):Int):=by
 intro l;induction l with
 |nil=>intro n _ _;exact⟨VR _,by show(0:Int)<=_;omega⟩
 |cons a l aP=>
  intro n h aq;cases n with
  |zero=>cases aq
  |succ n=>
   have ad:=h a (.head _);have ae:=aP (n:=n) (fun s hs=>h s (.tail _ hs)) (Nat.le_of_succ_le_succ aq);rw[vo,c6,jb];omega
theorem ad7{bits:Int}{ts:List (List Int)}(h:bits<1\/30<bits):nb bits ts=2:=aV h
theorem ad8{bits:Int}{ts:List (List Int)}(h:¬(bits<1\/30<bits))(ae:200<ts.length):nb bits ts=4:=by unfold nb;rw[aQ h,aV ae]
theorem ad9{bits:Int}{ts:List (List Int)}(h:¬(bits<1\/30<bits))(ae:¬200<ts.length):nb bits ts=qV (nI (2 ^ bits.toNat)) ts:=by unfold nb;rw[aQ h,aQ ae]
end
end
end Go.Opn
namespace Go.Opn
noncomputable section
def c8(M s p:Nat):Nat:=p*M % s
end
end Go.Opn
set_option maxRecDepth 100000
set_option maxHeartbeats 8000000
namespace Go.Opn
noncomputable section
open Go.Cre Go.RowKit Go.Proofs
theorem gh.axq{J af:aj}{r s:bx}{v1 v2 bl b7:Value}{x y:Bool}(h:gh J r v1 v2)(hd:gh af s bl b7)(hle:J.le af)(e:[Value.agg #[.bool x,v1,v2]]=[Value.agg #[.bool y,bl,b7]]):r.z.natAbs=s.z.natAbs:=by
 injection e with e
 injection e with e
 have e:[Value.bool x,v1,v2]=[.bool y,bl,b7]:=cC Array.toList e;injection e with _ e
 injection e with e _
 exact h.n.pz hd.n hle e
def pw(z:Int):Int:=if z=0 then 0 else 1
section
variable {Q:c7 Tryz.prog}{g0:Nat}{J:aj}
theorem adI{r:bx}{v1 v2:Value}(h:gh J r v1 v2)(aM:0<=r.z):Fn (aU Q g0) 91 [dm r v1 v2] [] J (fun u m' af=>u=.int .i64 (pw r.z)/\m'=[]/\J.le af):=by
 obtain⟨a',b1,bb,rfl,aL,ix,ks⟩:=h.n.bN;obtain⟨bf,df,br,rfl,aG,nu,jA⟩:=h.d.bN;refine Fn.b5 (b2 Tryz.func91) rfl rfl fun H=>?_;refine rg ?_;refine eQ fun ba=>?_;refine U 0x17c10aa6e702 ?_;refine If (fun eo=>?_) fun eo=>?_
 ·have ht:r.z=0:=pH.1 (ix.z I);refine U 0x1abe059 ?_;refine bp ?_
  exact⟨by unfold pw;rw[aV ht];rfl,rfl,aj.le.refl _⟩
 ·have IV:r.z≠0:=fun q=>by have:=ix.iA (pH.2 q);omega
  refine U 0x5f0a6e757 ?_;refine If (fun hq=>?_) fun hq=>?_
  ·exfalso;omega
  ·refine U 0x6af816757 ?_;refine bp ?_
   exact⟨by unfold pw;rw[aQ IV];rfl,rfl,aj.le.refl _⟩
theorem Xr{r s:bx}{v1 v2 bl b7:Value}(ao:gh J r v1 v2)(hs:gh J s bl b7)(yZ:0<=r.z)(sz:0<=s.z)(rd:0<r.d)(h0:0<s.d)(aR:r.z=0\/s.z=0):Fn (aU Q g0) 54 [dm r v1 v2,dm s bl b7] [] J (fun u m' af=>u=.int .i64 (l4 (r.z.natAbs*s.d) (s.z.natAbs*r.d))/\m'=[]/\J.le af):=by
 have cT:=ao;have eB:=hs;obtain⟨a',b1,bb,rfl,aL,ix,ks⟩:=ao.n.bN;obtain⟨bf,df,br,rfl,aG,nu,jA⟩:=ao.d.bN;obtain⟨bV,ef,cc,rfl,bt,yb,uA⟩:=hs.n.bN;obtain⟨dx,e9,ej,rfl,du,Iq,yd⟩:=hs.d.bN;have wo:eg 8 (dm r (.slice a' b1 bb) (.slice bf df br)) (dm r (.slice a' b1 bb) (.slice bf df br))=true:=by simp[eg,je,aL,aG,m0]
 have E3:eg 8 (dm s (.slice bV ef cc) (.slice dx e9 ej)) (dm s (.slice bV ef cc) (.slice dx e9 ej))=true:=by simp[eg,je,bt,du,m0]
 have oJ:min (max (pw r.z -pw s.z) (-1)) 1=l4 (r.z.natAbs*s.d) (s.z.natAbs*r.d):=by
  unfold pw l4;by_cases ad:r.z=0
  ·rw[aV ad,ad,VW,jE]
   by_cases ae:s.z=0
   ·rw[aV ae,ae,VW,jE];rfl
   ·have:=jr (Int.natAbs_pos.2 ae) rd
    rw[aQ ae,aV this];rfl
  ·have ae:s.z=0:=by rcases aR with h|h;exact absurd h ad;exact h
   have:=jr (Int.natAbs_pos.2 ad) h0;rw[aQ ad,aV ae,ae,VW,jE,aQ I,aV this];rfl
 have hw:IntKind.i64.wrap (pw r.z -pw s.z)=pw r.z -pw s.z:=by
  unfold pw;split<;>split<;>rfl
 have e6:pw r.z=pw s.z->¬pw r.z=0->False:=fun ad ae=>by
  rcases aR with h|h
  ·exact ae (by unfold pw;rw[aV h])
  ·exact ae (ad.trans (by unfold pw;rw[aV h]))
 refine Fn.b5 (b2 Tryz.func54) rfl rfl fun H=>?_;refine rg ?_;refine eQ fun bd=>?_;refine eQ fun cm=>?_;refine U 0x5f02 ?_;refine az.draw rfl (by kernel_rfl) (a1:=[.val 0,.val 2,.bE 1,.b9 [2],.bE 3,.val 4,.val 5]) (by kernel_rfl) ?_;refine U 0x796b ?_;refine' bz.dE rfl rfl rfl rfl rfl rfl rfl rfl rfl dF (adI cT yZ) ?_;rintro v' m' afD rX ⟨rfl,rfl,_⟩;refine bz.b9 fD ?_;refine' bz.dE rfl rfl rfl rfl rfl rfl rfl rfl rfl (dj (fun _ aF=>⟨rfl,rX,fun v m' bu cZ ⟨a,b,c⟩ ad ae=>⟨by rw[a,show r.z=s.z by have:=cT.axq eB (aj.le.refl _) aF;omega],b,ae⟩⟩) dF) (adI (eB.mono rX) sz) ?_;rintro v' m' afE we ⟨rfl,rfl,_⟩;refine U 0x120439c085e ?_;refine c0 15 (fun BH=>?_) fun BH=>?_
 ·skip
  refine U 0x610e757c237b ?_;refine' W.step rfl (Exec.val rfl rfl (wY rfl rfl rfl rfl rfl) ?_);refine' W.step rfl (Exec.val rfl rfl (F3 rfl rfl rfl rfl rfl) ?_);refine U 0xd5f02 ?_;refine bp ?_;exact⟨by(rw[hw,oJ];rfl),rfl,rX.trans we⟩
 ·refine U 0x17c2081 ?_;refine If (fun iO=>?_) fun iO=>?_
  ·refine U 0x18439 ?_;refine' W.step rfl (Exec.val rfl rfl (wY rfl rfl rfl rfl rfl) ?_);refine' W.step rfl (Exec.val rfl rfl (F3 rfl rfl rfl rfl rfl) ?_);refine U 0xd5f02 ?_;refine bp ?_;exact⟨by(rw[oJ];rfl),rfl,rX.trans we⟩
  ·exfalso;exact e6 (zg.1 BH) iO
theorem Xq{r s:bx}{v1 v2 bl b7:Value}(ao:gh J r v1 v2)(hs:gh J s bl b7)(iQ:r.hG)(cs:s.hG)(yZ:0<=r.z)(sz:0<=s.z){k j:Nat}(fr:h2 k r)(e5:h2 j s)(hk:k<=30000)(aX:j<=30000):Fn (aU Q g0) 54 [dm r v1 v2,dm s bl b7] [] J (fun u m' af=>u=.int .i64 (l4 (r.z.natAbs*s.d) (s.z.natAbs*r.d))/\m'=[]/\J.le af):=by
 by_cases ad:r.z=0
 ·exact Xr ao hs yZ sz iQ.1 cs.1 (.inl ad)
 ·by_cases ae:s.z=0
  ·exact Xr ao hs yZ sz iQ.1 cs.1 (.inr ae)
  ·exact ait ao hs iQ cs I I fr e5 hk aX
end
section
variable {Q:c7 Tryz.prog}{g0:Nat}{J:aj}
end
theorem aaW{n c:Nat}{out:List Nat}(aC:c≠0)(h:out++ag c=ag n):(out++[c % 1000000000])++ag (c / 1000000000)=ag n:=by
 rw[<-h,uK aC,lB];rfl
section
variable {Q:c7 Tryz.prog}{g0:Nat}{J:aj}
theorem UQ{n:Nat}(aE:n<1000000000000000000):Fn (aU Q g0) 62 [.int .i64 (n:Int)] [] J (pT J n):=by
 have aq:(ag n).length<=2:=kJ (iM aE bI);refine Fn.b5 (b2 Tryz.func62) rfl rfl fun H=>?_;refine U 0xd5f02ce059 ?_;refine c3 [(0,.int .i64 ((n):Int)),(3,(.slice none 0 0))] ?_;refine a2 ?_;refine' az.bH (fun(bK:Nat×(List Nat)×Value×aN)=>match bK with|(c,out,gq,bc)=>⟨[(0,.int .i64 (c:Int)),(3,gq)],bc,J,c<=n/\out++ag c=ag n/\Acc 78 1 gq out.length (cj .u32 out) bc,c⟩) ⟨n,[],.slice none 0 0,[]⟩ ?hs ?a7
 case hs=>exact⟨bU _,rfl,.nil⟩
 case a7=>
  rintro⟨c,out,gq,bc⟩ hinv;try simp only at hinv
  obtain⟨aC,ah,eT⟩:=hinv;refine U 0x17c1039 ?_;refine If (fun eo=>?_) fun eo=>?_
  ·have m3:c≠0:=I
   have oI:out.length<=2:=by
    have:=cC List.length ah;rw[eX] at this;omega
   have Il:(c:Int).tmod 1000000000=((c % 1000000000:Nat):Int):=(KE c 1000000000).symm;have H7:(c:Int).tdiv 1000000000=((c / 1000000000:Nat):Int):=(DC c 1000000000).symm;have Cc:max ((c % 1000000000:Nat):Int) (-((c % 1000000000:Nat):Int))=((c % 1000000000:Nat):Int):=I
   have hw:IntKind.u32.wrap ((c % 1000000000:Nat):Int)=((c % 1000000000:Nat):Int):=wrap_u32 I I;have yk:IntKind.i64.wrap ((c / 1000000000:Nat):Int)=((c / 1000000000:Nat):Int):=wrap_i64 I I;refine U 0x1813c39d5f57 ?_;rw[Il];refine U 0x8439 ?_;refine' W.step rfl (Exec.val rfl rfl (F4 rfl rfl ?hw) ?_);case hw=>exact wrap_i64 I I
   refine' W.step rfl (Exec.val rfl rfl (wY rfl rfl rfl rfl rfl) ?_);rw[Cc];refine eZ V.lH ?_;refine mr fun vz=>?_;refine' W.step rfl (.of (tt rfl rfl rfl rfl rfl rfl (eW rfl) (wX Q g0) (fun i q=>by cases q) ?eT ?hm ?aa ?dT ?dX ?aq fun Kg Je RG aph=>?_));case eT=>exact eT
   case hm=>exact(zm _ bc).symm
   case aa=>exact yV
   case dT=>rfl
   case dX=>rfl
   case aq=>exact(show out.length+1<=1000000 by omega)
   refine U 0x604f0e702 ?_;rw[H7,yk];have a7:c / 1000000000<=n/\(out++[c % 1000000000])++ag (c / 1000000000)=ag n/\Acc 78 1 Kg (out++[c % 1000000000]).length (cj .u32 (out++[c % 1000000000])) Je:=⟨I,aaW m3 ah,by rw[CN,eX];exact RG⟩;refine dN ⟨c / 1000000000,out++[c % 1000000000],Kg,Je⟩ ?_ (hm:=st _ _);exact a7
  ·obtain rfl:c=0:=I
   rw[lR,hi] at ah;refine Acc.qv eT (.of_eq (hi bc).symm) fun bu aY al=>?_;rw[ah] at al;refine U 0xd5f020e757 ?_;refine bp ?_;exact⟨aY,rfl,al⟩
end
theorem aec{α:Type}{l m:List α}{i:Nat}{x y:α}(h:l.take i=m.take i)(aa:l[i]?=some x)(ap:m[i]?=some y):x=y↔l.take (i+1)=m.take (i+1):=by
 rw[lD,lD,aa,ap,h];exact⟨fun q=>by rw[q],fun q=>by
  have:=List.append_cancel_left q;injection this⟩
theorem avx{α:Type}{l m:List α}(aq:l.length=m.length)(h:l.take l.length=m.take l.length):l=m:=by
 rw[pM,aq,pM] at h;exact h
theorem avz{α:Type}{l m:List α}{i:Nat}(h:¬l.take i=m.take i):¬l=m:=fun q=>h (by rw[q])
theorem aqt{x y:Nat}(h:ag x=ag y):x=y:=by rw[<-g' x,<-g' y,h]
theorem UE{r s:bx}:r=s↔((r.z<0↔s.z<0)/\r.z.natAbs=s.z.natAbs/\r.d=s.d):=
 ⟨fun h=>by rw[h];exact⟨Iff.rfl,rfl,rfl⟩,fun⟨ad,ae,aD⟩=>bx.QO I aD⟩
section
variable {Q:c7 Tryz.prog}{g0:Nat}{J:aj}
theorem WQ{v w:Value}{x y:Nat}(ad:cS J v x)(ae:cS J w y)(aq:(ag x).length<=60000):Fn (aU Q g0) 35 [v,w] [] J (fun u m' af=>m'=[]/\J=af/\∃b,u=.bool b/\(b=true↔x=y)):=by
 have k0:c9 .u32 J v (ag x):=ad;have kq:c9 .u32 J w (ag y):=ae;obtain⟨a',bb,rfl⟩:=k0.form;obtain⟨bf,br,rfl⟩:=kq.form;refine Fn.b5 (b2 Tryz.func35) rfl rfl fun H=>?_;refine U 0x5f04284a1ce059 ?_;refine If (fun dp=>?_) fun dp=>?_
 ·refine U 0x1abe059 ?_;refine bp ?_
  have c:=dp;exact⟨rfl,rfl,false,rfl,(fun h=>by cases h),fun h=>by rw[h] at c;exact absurd rfl c⟩
 ·refine U 0x6af816757 ?_;refine c3 [(5,.int .i64 ((0):Int)),(0,_),(1,_)] ?_;refine a2 ?_;refine' az.kv (fun(i:Nat)=>⟨[(5,.int .i64 (i:Int))],i<=(ag x).length/\(ag x).take i=(ag y).take i,(ag x).length -i⟩) (0) ?hs ?a7;case hs=>exact⟨c5 _,by rw[fO,fO]⟩
  case a7=>
   rintro i hinv;try simp only at hinv
   obtain⟨ak,aI⟩:=hinv;refine U 0x5f0428439 ?_;refine If (fun fc=>?_) fun fc=>?_
   ·obtain⟨a,o,xI,e,rfl,fY,av⟩:=k0.at I;obtain⟨b0,o',aiS,bD,rfl,BN,wm⟩:=kq.at I;obtain⟨p,aw,jI⟩:=av i I;obtain⟨q,bQ,sZ⟩:=wm i I;have jI:nth xI (o+((i:Int)).toNat*1)=some (.int .u32 (p:Int)):=jI;have sZ:nth aiS (o'+((i:Int)).toNat*1)=some (.int .u32 (q:Int)):=sZ;refine U 0x17d5f57 ?_;refine az.draw rfl (by kernel_rfl) (a1:=[.val 0,.val 1,.val 2,.val 3,.val 4,.val 5,.val 6,.val 7,.val 8]) (by kernel_rfl) ?_;refine U 0x5f044982149821 ?_;refine If (fun qO=>?_) fun qO=>?_
    ·refine U 0x1abe059 ?_;refine bp ?_
     exact⟨rfl,rfl,false,rfl,(fun h=>by cases h),fun h=>by
       have k:=mt (aec aI aw bQ).2 I;exact absurd (cC ag h) (avz k)⟩
    ·refine U 0x60430e757 ?_;refine kx (i+1) ?_;exact⟨I,(aec aI aw bQ).1 I⟩
   ·refine U 0x6af816757 ?_;refine bp ?_
    exact⟨rfl,rfl,true,rfl,(fun _=>aqt (avx I (by rw[show(ag x).length=i by omega];exact aI))),fun _=>rfl⟩
theorem auc{r s:bx}{v1 v2 bl b7:Value}(ao:f' J r v1 v2)(hs:f' J s bl b7)(ec:(ag r.z.natAbs).length<=60000)(dA:(ag r.d).length<=60000):Fn (aU Q g0) 9 [dm r v1 v2,dm s bl b7] [] J (fun u m' af=>m'=[]/\J=af/\∃b,u=.bool b/\(b=true↔r=s)):=by
 have cT:=ao;have eB:=hs;obtain⟨a',bb,rfl,aL⟩:=ao.n.bA;obtain⟨bf,br,rfl,aG⟩:=ao.d.bA;obtain⟨bV,cc,rfl,bt⟩:=hs.n.bA;obtain⟨dx,ej,rfl,du⟩:=hs.d.bA;refine Fn.b5 (b2 Tryz.func9) rfl rfl fun H=>?_;refine rg ?_;refine eQ fun bd=>?_;refine eQ fun cm=>?_;refine U 0x29aa6e702 ?_;refine' W.step rfl (Exec.val rfl rfl (u6 rfl rfl rfl (.inl ⟨rfl,rfl⟩) (by kernel_rfl)) ?_);refine eZ V.kK ?_;refine c0 10 (fun alR=>?_) fun alR=>?_
 ·refine U 0x5354d ?_;refine xB (G:=WQ cT.n eB.n ec) (h:=?_);rintro v' m' af hle ⟨rfl,rfl,cg,rfl,Y8⟩;refine U 0x28 ?_;refine c0 17 (fun alN=>?_) fun alN=>?_
  ·refine U 0x5354d ?_;refine xB (G:=WQ cT.d eB.d dA) (h:=?_);rintro v' m' af hle ⟨rfl,rfl,sE,rfl,p4⟩;refine U 0x1abe048 ?_;refine bp ?_
   exact⟨rfl,rfl,sE,rfl,by rw[p4,UE];simp_all⟩
  ·refine U 0x357c091fdef7b ?_;refine bp ?_
   exact⟨rfl,rfl,_,rfl,by rw[UE];simp_all⟩
 ·refine U 0x1abe048fef7bd851fdef7b ?_;refine bp ?_
  exact⟨rfl,rfl,_,rfl,by rw[UE];simp_all⟩
end
structure tH (J:aj) (x:cf) (v1 v2:Value):Prop where
 n:c9 .u32 J v1 x.num
 d:c9 .u32 J v2 x.den
 gM:x.num.length<=4
 nC:x.den.length<=4
theorem tH.mono{J af:aj}(hle:J.le af){x:cf}{v1 v2:Value}(h:tH J x v1 v2):tH af x v1 v2:=⟨h.n.mono hle,h.d.mono hle,h.gM,h.nC⟩
abbrev UH(x:cf)(v1 v2:Value):Value:=.agg #[.bool x.neg,v1,v2]
theorem tH.FR{J:aj}{x:cf}{v1 v2:Value}(h:tH J x v1 v2)(aC:kg x.num/\kg x.den):f' J x.rt v1 v2:=⟨by
 show cS J v1 (aK x.num);unfold cS;rw[<-qQ aC.1];exact h.n,by
 show cS J v2 (aK x.den);unfold cS;rw[<-qQ aC.2];exact h.d⟩
section
variable {Q:c7 Tryz.prog}{g0:Nat}{J:aj}
theorem abS{v:Value}{l:List Nat}(h:c9 .u32 J v l)(aq:l.length<=4):Fn (aU Q g0) 122 [v] [] J (fun u m' af=>u=.int .i64 (mH l)/\m'=[]/\J=af):=by
 obtain⟨a',bb,rfl⟩:=h.form;have eU:=h.at;refine Fn.b5 (b2 Tryz.func122) rfl rfl fun H=>?_;refine U 0x17c10a1ce059 ?_;refine If (fun fC=>?_) fun fC=>?_
 ·exfalso;omega
 ·refine U 0x1abe0250e757 ?_;refine c3 [(10,.int .i64 ((0):Int)),(0,_),(8,_),(9,_)] ?_;refine a2 ?_;refine' az.kv (fun(i:Nat)=>⟨[(10,.int .i64 (i:Int))],i<=l.length/\(∀z∈l.take i,z<1000000000),l.length -i⟩) (0) ?hs ?a7;case hs=>exact⟨c5 _,fun z aM=>by rw[fO] at aM;cases aM⟩
  case a7=>
   rintro i hinv;try simp only at hinv
   obtain⟨ak,lL⟩:=hinv;refine U 0xbe099 ?_;refine If (fun kn=>?_) fun kn=>?_
   ·obtain⟨a,o,xI,e,rfl,fY,av⟩:=eU I;obtain⟨p,aw,jI⟩:=av i I;refine U 0x2f820738124d9d5f57 ?_;refine If (fun fV=>?_) fun fV=>?_
    ·have uj:=CJ (Xv aw I);refine U 0x1abe059 ?_;refine bp ?_
     exact⟨by rw[uj];rfl,rfl,rfl⟩
    ·refine U 0x3011e757 ?_;refine kx (i+1) ?_;exact⟨I,J2 lL aw I⟩
   ·have B5:i=l.length:=I
    rw[B5] at lL;refine U 0x4850e757 ?_;refine c0 20 (fun Rh=>?_) fun Rh=>?_
    ·obtain⟨a,o,xI,e,rfl,fY,av⟩:=eU I;obtain⟨p,aw,jI⟩:=av (l.length -1) I;have jI:nth xI (o+((l.length:Int) -1).toNat*1)=some (.int .u32 (p:Int)):=by
       rw[show((l.length:Int) -1).toNat=l.length -1 by omega];exact jI
     refine U 0x2f84112619421 ?_;refine If (fun GU=>?_) fun GU=>?_
     ·have uj:=CJ (Xw I aw I);refine U 0x1abe059 ?_;refine bp ?_
      exact⟨by rw[uj];rfl,rfl,rfl⟩
     ·refine U 0x6af816757 ?_;refine bp ?_
      exact⟨by rw[FA (Lx lL (fun _=>⟨p,aw,I⟩))];rfl,rfl,rfl⟩
    ·refine U 0x357c0b3abeaf846f7bdef7b ?_;refine bp ?_
     exact⟨by rw[FA (Lx lL (fun q=>absurd q I))];rfl,rfl,rfl⟩
theorem at2{v w:Value}{n d:List Nat}(ad:c9 .u32 J v n)(ae:c9 .u32 J w d)(ec:n.length<=4)(dA:d.length<=4):Fn (aU Q g0) 97 [v,w] [] J (fun u m' af=>u=.int .i64 (mJ n d)/\m'=[]/\J=af):=by
 have k0:=ad;have kq:=ae;obtain⟨a',bb,rfl⟩:=ad.form;obtain⟨bf,br,rfl⟩:=ae.form;refine Fn.b5 (b2 Tryz.func97) rfl rfl fun H=>?_;refine U 0x1ce059 ?_;refine bC (G:=abS k0 ec) (h:=?_);rintro v' m' af hle ⟨rfl,rfl,rfl⟩;refine U 0x302 ?_;refine c4 [1,5] ?_;refine a2 ?_;refine' az.en 0 [(10,.bool (decide ((mH n≠0))))] ?nj ?nl;case nj=>
  refine U 0xc103a ?_;refine di (dk ?_);omega
 case nl=>
  refine a2 ?_;refine If (fun dp=>?_) fun dp=>?_
  ·have he:=acK (d:=d) dp;refine U 0x357c0839 ?_;refine bp ?_;exact⟨by rw[he];rfl,rfl,rfl⟩
  ·have dp:mH n=0:=jD fun q=>dp q;refine U 0xe757 ?_;refine bC (G:=abS kq dA) (h:=?_);rintro v' m' af hle ⟨rfl,rfl,rfl⟩;refine U 0x302 ?_;refine c4 [1,6] ?_;refine a2 ?_;refine' az.en 0 [(15,.bool (decide ((mH d≠0))))] ?G7 ?Hj;case G7=>
    refine U 0xc103a ?_;refine di (dk ?_);omega
   case Hj=>
    refine a2 ?_;refine If (fun fV=>?_) fun fV=>?_
    ·have he:=acJ (n:=n) fV;refine U 0x357c0839 ?_;refine bp ?_;exact⟨by rw[he];rfl,rfl,rfl⟩
    ·have fV:mH d=0:=jD fun q=>fV q;refine U 0xbe0850e757 ?_;refine If (fun sF=>?_) fun sF=>?_
     ·have he:=acI dp fV I;refine U 0x1abe059 ?_;refine bp ?_;exact⟨by rw[he];rfl,rfl,rfl⟩
     ·have he:=acL dp fV I;refine U 0x6af816757 ?_;refine bp ?_;exact⟨by rw[he];rfl,rfl,rfl⟩
theorem atw{x:cf}{v1 v2:Value}{e:TypeId}(cB:J 2=some (cj .u8 qC,e))(ay:Nat.blt 2 (aU Q g0).g0=true)(h:tH J x v1 v2):Fn (aU Q g0) 71 [UH x v1 v2] [] J (fun u m' af=>u=.int .i64 (nH x)/\m'=[]/\J.le af):=by
 have aR:=h;obtain⟨a',bb,rfl⟩:=h.n.form;obtain⟨bf,br,rfl⟩:=h.d.form;refine Fn.b5 (b2 Tryz.func71) rfl rfl fun H=>?_;refine rg ?_;refine eQ fun ba=>?_;refine U 0x25a96e702 ?_;refine bC (G:=at2 aR.n aR.d aR.gM aR.nC) (h:=?_);rintro v' m' af hle ⟨rfl,rfl,rfl⟩;refine U 0x302 ?_;refine c4 [1,3] ?_;refine a2 ?_;refine' az.en 0 [(10,.bool (decide ((mJ x.num x.den≠0))))] ?nj ?nl;case nj=>
  refine U 0xc103a ?_;refine di (dk ?_);omega
 case nl=>
  refine a2 ?_;refine If (fun dp=>?_) fun dp=>?_
  ·have he:=Ux dp;refine U 0x357c0839 ?_;refine bp ?_
   exact⟨by rw[he];rfl,rfl,aj.le.refl _⟩
  ·have dp:mJ x.num x.den=0:=jD fun q=>dp q;have nr:=Un dp;have c1:=aR.FR ⟨nr.1,nr.2.1⟩;have gM:(ag (aK x.num)).length<=100000:=by rw[<-qQ nr.1];exact cX aR.gM bI
   have nC:(ag (aK x.den)).length<=100000:=by rw[<-qQ nr.2.1];exact cX aR.nC bI
   refine U 0x90a96e757 ?_;refine c0 16 (fun LQ=>?_) fun LQ=>?_
   ·refine U 0xa12d ?_;refine c0 20 (fun HJ=>?_) fun HJ=>?_
    ·refine U 0x6af816757c237fdef7b ?_;refine bp ?_
     exact⟨by rw[C5 dp (.inl ⟨oj I,HJ⟩)];rfl,rfl,aj.le.refl _⟩
    ·refine U 0x4b52d ?_;refine xB (G:=aaH cB ay c1.n c1.d gM nC) (h:=?_);rintro v' m' bu hle ⟨rfl,rfl,aY⟩;refine U 0xbe111 ?_;refine If (fun jv=>?_) fun jv=>?_
     ·refine U 0x1abe059 ?_;refine bp ?_
      exact⟨by rw[C5 dp (.inr jv)];rfl,rfl,aY⟩
     ·refine U 0x6af816757 ?_;refine bp ?_
      exact⟨by rw[NR dp (fun q=>q.elim (fun q=>by exact absurd (q.2.symm.trans HJ) bI) jv)];rfl,rfl,aY⟩
   ·refine U 0x4b52d0a37b ?_;refine xB (G:=aaH cB ay c1.n c1.d gM nC) (h:=?_);rintro v' m' bu hle ⟨rfl,rfl,aY⟩;refine U 0xbe111 ?_;refine If (fun jv=>?_) fun jv=>?_
    ·refine U 0x1abe059 ?_;refine bp ?_
     exact⟨by rw[C5 dp (.inr jv)];rfl,rfl,aY⟩
    ·refine U 0x6af816757 ?_;refine bp ?_
     exact⟨by rw[NR dp (fun q=>q.elim (fun q=>by(exact LQ (by rw[q.1];rfl))) jv)];rfl,rfl,aY⟩
end
section
variable {Q:c7 Tryz.prog}{g0:Nat}{J:aj}
theorem abR{v:Value}{l:List Nat}(h:c9 .u32 J v l)(aq:l.length<=4):Fn (aU Q g0) 137 [v] [] J (fun u m' af=>u=.int .i64 (mH l)/\m'=[]/\J=af):=by
 obtain⟨a',bb,rfl⟩:=h.form;have eU:=h.at;refine Fn.b5 (b2 Tryz.func137) rfl rfl fun H=>?_;refine U 0x17c10a1ce059 ?_;refine If (fun eo=>?_) fun eo=>?_
 ·exfalso;omega
 ·refine U 0x6af816757 ?_;refine c3 [(3,.int .i64 ((0):Int)),(0,_)] ?_;refine a2 ?_;refine' az.kv (fun(i:Nat)=>⟨[(3,.int .i64 (i:Int))],i<=l.length/\(∀z∈l.take i,z<1000000000),l.length -i⟩) (0) ?hs ?a7;case hs=>exact⟨c5 _,fun z aM=>by rw[fO] at aM;cases aM⟩
  case a7=>
   rintro i hinv;try simp only at hinv
   obtain⟨ak,lL⟩:=hinv;refine U 0x5f0428439 ?_;refine If (fun dp=>?_) fun dp=>?_
   ·obtain⟨a,o,xI,e,rfl,fY,av⟩:=eU I;obtain⟨p,aw,jI⟩:=av i I;refine U 0xbe08930439d5f57 ?_;refine If (fun zz=>?_) fun zz=>?_
    ·have uj:=CJ (Xv aw I);refine U 0x1abe059 ?_;refine bp ?_
     exact⟨by rw[uj];rfl,rfl,rfl⟩
    ·refine U 0x60430e757 ?_;refine kx (i+1) ?_;exact⟨I,J2 lL aw I⟩
   ·have B5:i=l.length:=I
    rw[B5] at lL;refine U 0x4850e757 ?_;refine c0 21 (fun al7=>?_) fun al7=>?_
    ·obtain⟨a,o,xI,e,rfl,fY,av⟩:=eU I;obtain⟨p,aw,jI⟩:=av (l.length -1) I;have jI:nth xI (o+((l.length:Int) -1).toNat*1)=some (.int .u32 (p:Int)):=by
       rw[show((l.length:Int) -1).toNat=l.length -1 by omega];exact jI
     refine U 0x2f84112619421 ?_;refine If (fun ahp=>?_) fun ahp=>?_
     ·have uj:=CJ (Xw I aw I);refine U 0x1abe059 ?_;refine bp ?_
      exact⟨by rw[uj];rfl,rfl,rfl⟩
     ·refine U 0x6af816757 ?_;refine bp ?_
      exact⟨by rw[FA (Lx lL (fun _=>⟨p,aw,I⟩))];rfl,rfl,rfl⟩
    ·refine U 0x357c0b3abeaf846f7bdef7b ?_;refine bp ?_
     exact⟨by rw[FA (Lx lL (fun q=>absurd q I))];rfl,rfl,rfl⟩
theorem at1{v w:Value}{n d:List Nat}(ad:c9 .u32 J v n)(ae:c9 .u32 J w d)(ec:n.length<=4)(dA:d.length<=4):Fn (aU Q g0) 120 [v,w] [] J (fun u m' af=>u=.int .i64 (mJ n d)/\m'=[]/\J=af):=by
 have k0:=ad;have kq:=ae;obtain⟨a',bb,rfl⟩:=ad.form;obtain⟨bf,br,rfl⟩:=ae.form;refine Fn.b5 (b2 Tryz.func120) rfl rfl fun H=>?_;refine U 0x1ce059 ?_;refine bC (G:=abR k0 ec) (h:=?_);rintro v' m' af hle ⟨rfl,rfl,rfl⟩;refine U 0x302 ?_;refine c4 [1,5] ?_;refine a2 ?_;refine' az.en 0 [(10,.bool (decide ((mH n≠0))))] ?nj ?nl;case nj=>
  refine U 0xc103a ?_;refine di (dk ?_);omega
 case nl=>
  refine a2 ?_;refine If (fun dp=>?_) fun dp=>?_
  ·have he:=acK (d:=d) dp;refine U 0x357c0839 ?_;refine bp ?_;exact⟨by rw[he];rfl,rfl,rfl⟩
  ·have dp:mH n=0:=jD fun q=>dp q;refine U 0xe757 ?_;refine bC (G:=abR kq dA) (h:=?_);rintro v' m' af hle ⟨rfl,rfl,rfl⟩;refine U 0x302 ?_;refine c4 [1,6] ?_;refine a2 ?_;refine' az.en 0 [(15,.bool (decide ((mH d≠0))))] ?G7 ?Hj;case G7=>
    refine U 0xc103a ?_;refine di (dk ?_);omega
   case Hj=>
    refine a2 ?_;refine If (fun fV=>?_) fun fV=>?_
    ·have he:=acJ (n:=n) fV;refine U 0x357c0839 ?_;refine bp ?_;exact⟨by rw[he];rfl,rfl,rfl⟩
    ·have fV:mH d=0:=jD fun q=>fV q;refine U 0xbe0850e757 ?_;refine If (fun sF=>?_) fun sF=>?_
     ·have he:=acI dp fV I;refine U 0x1abe059 ?_;refine bp ?_;exact⟨by rw[he];rfl,rfl,rfl⟩
     ·have he:=acL dp fV I;refine U 0x6af816757 ?_;refine bp ?_;exact⟨by rw[he];rfl,rfl,rfl⟩
theorem atv{x:cf}{v1 v2:Value}(h:tH J x v1 v2):Fn (aU Q g0) 93 [UH x v1 v2] [] J (fun u m' af=>J.le af/\m'=[]/\u=.int .i64 (nH x)):=by
 have aR:=h;obtain⟨a',bb,rfl⟩:=h.n.form;obtain⟨bf,br,rfl⟩:=h.d.form;refine Fn.b5 (b2 Tryz.func93) rfl rfl fun H=>?_;refine rg ?_;refine eQ fun ba=>?_;refine U 0x25a96e702 ?_;refine bC (G:=at1 aR.n aR.d aR.gM aR.nC) (h:=?_);rintro v' m' af hle ⟨rfl,rfl,rfl⟩;refine U 0x302 ?_;refine c4 [1,3] ?_;refine a2 ?_;refine' az.en 0 [(10,.bool (decide ((mJ x.num x.den≠0))))] ?nj ?nl;case nj=>
  refine U 0xc103a ?_;refine di (dk ?_);omega
 case nl=>
  refine a2 ?_;refine If (fun dp=>?_) fun dp=>?_
  ·have he:=Ux dp;refine U 0x357c0839 ?_;refine bp ?_
   exact⟨aj.le.refl _,rfl,by rw[he];rfl⟩
  ·have dp:mJ x.num x.den=0:=jD fun q=>dp q;have nr:=Un dp;have c1:=aR.FR ⟨nr.1,nr.2.1⟩;have gM:(ag (aK x.num)).length<=60000:=by rw[<-qQ nr.1];exact cX aR.gM bI
   have nC:(ag (aK x.den)).length<=60000:=by rw[<-qQ nr.2.1];exact cX aR.nC bI
   obtain⟨G,ch⟩:∃G,G=Nat.gcd (aK x.num) (aK x.den):=⟨_,rfl⟩;have lh:G≠0:=by rw[ch];exact j1 (xb _ (tE nr.2.2))
   refine U 0x25a96e757 ?_;refine bC (G:=Qj c1.n c1.d gM nC) (h:=?_);rintro v' m' bu hle ⟨aY,rfl,hM⟩;rw[show Nat.gcd x.rt.z.natAbs x.rt.d=G from ch.symm] at hM;have sQ:=hM;obtain⟨fs,gl,rfl,fU⟩:=hM.bA;refine U 0x485 ?_;refine c0 19 (fun HI=>?_) fun HI=>?_
   ·refine U 0x6af816757c237bdef7bdec28def7fdef7b ?_;refine bp ?_
    exact⟨aY,rfl,by rw[C5 dp (.inr (by rw[<-ch];intro q;rw[q] at HI;exact HI (by rw[Fm (x:=1) bI bI];rfl)))];rfl⟩
   ·have ams:=Tv (x:=G) I;refine U 0x4b52d ?_;refine xB (G:=Qj (c1.n.mono aY) (c1.d.mono aY) gM nC) (h:=?_);rintro v' m' cZ hle ⟨bG,rfl,gJ⟩;rw[show Nat.gcd x.rt.z.natAbs x.rt.d=G from ch.symm] at gJ;have Ro:c9 .u32 cZ v' (ag G):=gJ;rw[ams.1] at Ro;have amp:∃b c,v'=.slice b 1 c:=Ro.form;obtain⟨fb,eo,rfl⟩:=amp;obtain⟨axV,arL,aii,ays,rfl,ayN,aoV⟩:=Ro.ei Nat.one_pos;have azB:nth aii (arL+(0:Int).toNat*1)=some (.int .u32 (G:Int)):=aoV 0 G rfl;refine U 0x141126 ?_;refine c0 29 (fun alZ=>?_) fun alZ=>?_
    ·refine U 0x1abe059d5f08def7bdef7b ?_;refine bp ?_
     exact⟨aY.trans bG,rfl,by rw[C5 dp (.inr (by rw[<-ch];omega))];rfl⟩
    ·refine U 0x52d ?_;refine c0 32 (fun HH=>?_) fun HH=>?_
     ·refine U 0xbe1082152d ?_;refine If (fun rJ=>?_) fun rJ=>?_
      ·
        refine U 0x1abe059 ?_;refine bp ?_
        exact⟨aY.trans bG,rfl,by rw[C5 dp (.inl ⟨oj I,HH⟩)];rfl⟩
      ·
        refine U 0x6af816757 ?_;refine bp ?_
        exact⟨aY.trans bG,rfl,by rw[NR dp (fun q=>q.elim (fun q=>by(exact rJ (by rw[q.1];rfl))) (fun q=>q (by rw[<-ch];omega)))];rfl⟩
     ·refine U 0xd5f02ceafabe108def7b ?_;refine bp ?_
      exact⟨aY.trans bG,rfl,by rw[NR dp (fun q=>q.elim (fun q=>by exact absurd (q.2.symm.trans HH) bI) (fun q=>q (by rw[<-ch];omega)))];rfl⟩
end
end
end Go.Opn

/- A part of the proof of TableBounds. -/
import Derived.Test.YtccpobhlccjkiaaGreatDoorCaq
import Derived.Test.YtccpobhlccjkiaaGreatDoorCap
import Derived.Test.YtccpobhlccjkiaaGreatDoorCak
import Derived.Test.YtccpobhlccjkiaaGreatDoorCai
import Derived.Test.YtccpobhlccjkiaaGreatDoorCaf
import Derived.Test.YtccpobhlccjkiaaGreatDoorProg
import Derived.KernelRfl
import Derived.Test.YtccpobhlccjkiaaGreatDoorCah
import Derived.Conc.Holds
import Derived.SevenTiedAt
import Derived.Test.YtccpobhlccjkiaaGreatDoorCards
import Derived.Test.YtccpobhlccjkiaaGreatDoorTie
import Derived.WalkKit
import Derived.ProofKit
import Derived.OpenShut
import Derived.Deep.DeepHandedRow
import Derived.Lib.LaidTab
import Derived.LaidHandle
import Derived.LaidMore
import Derived.Stop.LaidErr
import Derived.Carry
set_option linter.defProp false
set_option linter.unusedVariables false
set_option linter.unusedSimpArgs false
set_option maxRecDepth 100000
set_option maxHeartbeats 8000000
namespace Go.Opn
noncomputable section
open Go.Cre Go.RowKit
def aAG{α:Type}{f g:α->Nat}{c s M:Nat}:∀{l:List α} {dd:List Nat},(∀x∈l,f x*s=g x*c)->hI c M (l.map f) dd*s=hI s M (l.map g) dd*c:=by
 intro l;induction l with
 |nil=>intro dd _;show 0*s=0*c;omega
 |cons a l aC=>
  intro dd h;cases dd with
  |nil=>show 0*s=0*c;omega
  |cons q dd=>
   have ae:=aC (dd:=dd) fun x U=>h x (.tail _ U);have ag:((f a:Int)*s)=g a*c:=by have:=dh Int.ofNat (h a (.head _));exact this
   show(((f a:Int)*M -(q:Int)*c).natAbs+hI c M (l.map f) dd)*s=(((g a:Int)*M -(q:Int)*s).natAbs+hI s M (l.map g) dd)*c;rw[g',g',ae];congr 1
   rw[show((f a:Int)*M -(q:Int)*c).natAbs*s=(((f a:Int)*M -(q:Int)*c)*s).natAbs by rw[kT];rfl,show((g a:Int)*M -(q:Int)*s).natAbs*c=(((g a:Int)*M -(q:Int)*s)*c).natAbs by rw[kT];rfl];congr 1
   rw[Int.sub_mul,Int.sub_mul,Ld,ag,Ld (q:Int)];congr 1
   rw[Ld]
def aAy{ps dd:List Nat}{k:Nat}(aQ:0<ps.sum)(ae:ps.sum<=33)(hk:k<=6):(a4 (hI (fF (jY ps)) (2 ^ k) (iq (jY ps)) dd:Int) (fF (jY ps)*2 ^ k*2)).d ∣ se:=by
 have cG:k6 (jY ps):=aap aQ;have ax:=ry cG;have ih:0<2 ^ k:=wy bI;have key:hI (fF (jY ps)) (2 ^ k) (iq (jY ps)) dd*ps.sum=hI ps.sum (2 ^ k) ps dd*fF (jY ps):=by
  have:=aAG (f:=fun p=>shr (fF (jY ps)) (mK p ps.sum)) (g:=fun p=>p) (c:=fF (jY ps)) (s:=ps.sum) (M:=2 ^ k) (l:=ps) (dd:=dd) fun p ap=>by
   have U:mK p ps.sum∈jY ps:=lf.2 ⟨p,ap,I⟩;have ag:=aga (cG _ U) (Rl U) ax;rw[Pc,AT ax aQ] at ag;exact Int.ofNat.inj ag
  rw[XV] at this;unfold iq;rw[show(jY ps).map (shr (fF (jY ps)))=ps.map fun p=>shr (fF (jY ps)) (mK p ps.sum) from rh];exact this
 have e:a4 (hI (fF (jY ps)) (2 ^ k) (iq (jY ps)) dd:Int) (fF (jY ps)*2 ^ k*2)=a4 (hI ps.sum (2 ^ k) ps dd:Int) (ps.sum*(2 ^ k*2)):=by
  refine(AT (ib (ib ax ih) bI) (ib aQ (ib ih bI))).2 ?_;rw[<-iX,<-iX,<-lY,key,lY,lY (fF (jY ps))]
 rw[e];refine DX Vw (Nat.mul_dvd_mul ?_ ?_)
 ·have:∀s:Nat,s<34->0<s->s ∣ 144403552893600:=by decide
  exact this _ aa aQ
 ·rw[<-lz];exact Nat.pow_dvd_pow 2 (show k+1<=7 by omega)
structure oE (g:cM) (m:List (List bO)) (i:Nat):Prop where
 l:m.length=i
 r:∀(j:Nat) x l,g.is[j]?=some x->m[j]?=some l->(l.length:Int)=x.2/\sl l/\Bd l/\∃ps:List Nat,l=jY ps/\0<ps.sum/\ps.sum<=33
def oE.snoc{g:cM}{m:List (List bO)}{i:Nat}{x:Int×Int}{l:List bO}(h:oE g m i)(U:g.is[i]?=some x)(ae:(l.length:Int)=x.2)(ag:sl l)(aE:Bd l)(a6:∃ps:List Nat,l=jY ps/\0<ps.sum/\ps.sum<=33):oE g (m++[l]) (i+1):=by
 have aj:=h.l;refine⟨by rw[dv,aj];rfl,fun j y k an hk=>?_⟩;rcases Nat.lt_trichotomy j i with q|q|q
 ·rw[sg aa] at hk;exact h.r j y k an hk
 ·subst q;rw[rf aa,aj,pL] at hk;injection hk with hk
  rw[U] at an;injection an with an
  subst hk;subst an;exact⟨ae,ag,aE,a6⟩
 ·rw[jq (by rw[dv];show m.length+1<=j;omega)] at hk;cases hk
structure qy (m:List (List bO)) (ts:List (List Int)) (M:Nat):Prop where
 l:ts.length=m.length
 r:∀(j:Nat) l t,m[j]?=some l->ts[j]?=some t->mJ M t=0/\t.length=l.length
def qy.set{m:List (List bO)}{ts:List (List Int)}{M j:Nat}{t j0:List Int}(h:qy m ts M)(aM:ts[j]?=some t)(ae:mJ M j0=0)(ag:j0.length=t.length):qy m (ts.set j j0) M:=by
 refine⟨by rw[hy];exact h.l,fun i l u aj hu=>?_⟩;rw[qp] at hu;split at hu
 ·rename_i q;subst q;split at hu
  ·injection hu with hu
   subst hu;have:=h.r j l t aj aM;exact⟨ae,aa⟩
  ·cases hu
 ·exact h.r i l u aj hu
def qy.qa{m:List (List bO)}{k:Nat}(h:∀l∈m,m7 l=0):qy m (m.map (qa k)) (2 ^ k):=by
 refine⟨e9 _,fun j l t aj aM=>?_⟩;rw[h',aj] at aM;injection aM with aM
 subst aM;have:=h l (dq aj);exact⟨axr this,O4 this⟩
def oE.all{g:cM}{m:List (List bO)}(h:oE g m g.is.length):∀l∈m,∃(j:Nat) (x:Int×Int),g.is[j]?=some x/\m[j]?=some l/\(l.length:Int)=x.2/\sl l/\Bd l/\∃ps:List Nat,l=jY ps/\0<ps.sum/\ps.sum<=33:=fun l aj=>by
 obtain⟨j,aW⟩:=nK.1 aj;have cI:=(dO.1 aW).1;have U:=cU (l:=g.is) (i:=j) (by rw[<-h.l];exact cI);exact⟨j,_,U,aW,h.r j _ l U aW⟩
def oE.tb{g:cM}{m:List (List bO)}(ay:kS g)(h:oE g m g.is.length):nD m=0:=by
 have ae:=h.l;have ag:=ay.i2;unfold nD;rw[aG aa];exact ME fun l aj=>by
  obtain⟨_,_,_,_,_,aE,_⟩:=h.all l aj;exact aE.eN
def qy.WI{g:cM}{m:List (List bO)}{ts:List (List Int)}{k:Nat}(ay:kS g)(hm:oE g m g.is.length)(h:qy m ts (2 ^ k))(mV:1<=k)(nq:k<=30):nG (k:Int) ts=0/\∀t∈ts,mJ (2 ^ k) t=0:=by
 have ae:=hm.l;have ag:=h.l;have aE:=ay.i2;have key:∀t∈ts,mJ (2 ^ k) t=0:=fun t aM=>by
  obtain⟨j,aW⟩:=nK.1 aM;have cI:=(dO.1 aW).1;exact(h.r j _ t (cU aa) aW).1
 refine⟨?_,key⟩;rw[agA aa aa,ff];exact ME key
def U4{g:cM}{pl:Int}{m:List (List bO)}{ts:List (List Int)}{k:Nat}(mz:iG g=0)(aA:g.ns.length<=60)(aQ:0<=pl)(ae:pl<g.pl)(hm:oE g m g.is.length)(h:qy m ts (2 ^ k))(mV:1<=k)(nq:k<=6):
 nz g pl m ts (k:Int)=0/\kL g pl m ts (k:Int)=ug (lk m ts (2 ^ k)) pl g/\(∀s,jB 9 (lk m ts (2 ^ k) s))/\jB 700 (ug (lk m ts (2 ^ k)) pl g):=by
 have ay:=EK mz;obtain⟨aM,asb⟩:=h.WI ay hm mV aa;have e:kL g pl m ts (k:Int)=ug (lk m ts (2 ^ k)) pl g:=by
  show ug (lk m ts (2 ^ ((k:Int)).toNat)) pl g=_;rw[ff]
 have ih:2 ^ k<=2 ^ 6:=nd bI nq;have ih:2 ^ k<=64:=ih;have ak:∀s,jB 9 (lk m ts (2 ^ k) s):=ajz (fun l aj=>by obtain⟨_,_,_,_,_,aE,_⟩:=hm.all l aj;exact aE.eN) (fun l aj=>by obtain⟨_,_,_,_,_,_,aE,_⟩:=hm.all l aj;exact kK (k:=3) (jg aE.2 bI)) asb aa (wy bI) fun l aj t _=>by
  obtain⟨_,_,_,_,_,_,_,ps,rfl,aE,a6⟩:=hm.all l aj;exact aAy aE a6 nq
 have az:=ads ay ak aQ ae aA;have dK:=hm.l;have ga:=h.l;refine⟨(adr mz aa (hm.tb ay) aM aa fun i x U=>?_).1 ?_,e,ak,az⟩
 ·have hi:=(dO.1 U).1;have aj:=cU (l:=m) (i:=i) aa;have aM:=cU (l:=ts) (i:=i) aa;have mx:=(hm.r i x _ U aj).1;have yF:=(h.r i _ _ aj aM).2;exact⟨_,_,aj,aM,mx,aa⟩
 ·rw[e];show(decide _&&decide _)=true;rw[gQ];exact⟨lm (dT az.n bI),lm (dT az.d bI)⟩
structure x1 (g:cM) (pl:Int) (m cX:List (List bO)) (ts:List (List Int)) (M i:Nat):Prop where
 l:cX.length=i
 r:∀(j:Nat) x l t,j<i->g.is[j]?=some x->m[j]?=some l->ts[j]?=some t->cX[j]?=some (if x.1=pl then mi M t else l)
def x1.snoc{g:cM}{pl:Int}{m cX:List (List bO)}{ts:List (List Int)}{M i:Nat}{x:Int×Int}{l:List bO}{t:List Int}{y:List bO}(h:x1 g pl m cX ts M i)(U:g.is[i]?=some x)(aj:m[i]?=some l)(aM:ts[i]?=some t)(an:y=if x.1=pl then mi M t else l):x1 g pl m (cX++[y]) ts M (i+1):=by
 have ae:=h.l;refine⟨by rw[dv,ae];rfl,fun j dy a9 j0 aW ba br bG=>?_⟩;rcases ha j i with q|q
 ·rw[sg aa];exact h.r j dy a9 j0 q ba br bG
 ·obtain rfl:j=i:=aa;rw[U] at ba;rw[aj] at br;rw[aM] at bG;injection ba with ba;injection br with br;injection bG with bG
  subst ba;subst br;subst bG;rw[rf aa,ae,pL,an];rfl
structure uN (g:cM) (m:List (List bO)):Prop where
 l:m.length=g.is.length
 r:∀(j:Nat) x l,g.is[j]?=some x->m[j]?=some l->(l.length:Int)=x.2/\sl l
def oE.J3{g:cM}{m:List (List bO)}(h:oE g m g.is.length):uN g m:=⟨h.l,fun j x l a b=>⟨(h.r j x l a b).1,(h.r j x l a b).2.1⟩⟩
def x1.J3{g:cM}{pl:Int}{m cX:List (List bO)}{ts:List (List Int)}{k:Nat}(hm:oE g m g.is.length)(h:qy m ts (2 ^ k))(hk:k<=6)(aI:x1 g pl m cX ts (2 ^ k) g.is.length):uN g cX:=by
 have ih:2 ^ k<=2 ^ 6:=nd bI hk;have ih:2 ^ k<=64:=ih;have dK:=hm.l;have ga:=h.l;refine⟨aI.l,fun j x y U an=>?_⟩;have aW:=(dO.1 U).1;have aj:=cU (l:=m) (i:=j) aa;have aM:=cU (l:=ts) (i:=j) aa;have mx:=hm.r j x _ U aj;have yF:=h.r j _ _ aj aM;have Iy:=aI.r j x _ _ aW U aj aM;rw[an] at Iy;injection Iy with Iy
 subst Iy;split
 ·exact⟨by rw[A7];omega,afF (wy bI) aa yF.1⟩
 ·exact⟨mx.1,mx.2.1⟩
def uN.len{g:cM}{m:List (List bO)}(h:uN g m):∀(i:Nat) (x:Int×Int) (l:List a2),g.is[i]?=some x->(m.map fun l=>l.map bO.rt)[i]?=some l->(l.length:Int)=x.2:=fun i x l U aj=>by
 rw[h'] at aj;obtain⟨y,an,rfl⟩:=ri.1 aj;rw[e9];exact(h.r i x y U an).1
def uN.all{g:cM}{m:List (List bO)}(h:uN g m):∀l∈m,sl l:=fun l aj=>by
 obtain⟨j,aW⟩:=nK.1 aj;have cI:=(dO.1 aW).1;exact(h.r j _ l (cU (by rw[<-h.l];exact cI)) aW).2
def uN.QX{g:cM}{m:List (List bO)}(h:uN g m):∀l∈m.map fun l=>l.map bO.rt,∀r∈l,jo 4 r:=fun l aj=>by
 obtain⟨y,an,rfl⟩:=lf.1 aj;exact(h.all y an).YZ
def uN.ahC{g:cM}{pl:Int}{m:List (List bO)}{cP:Nat->Nat}{e4:List a2}(ay:kS g)(h:uN g m)(hw:rk g pl (m.map fun l=>l.map bO.rt) cP 0 e4):LG g pl (A1 g (m.map fun l=>l.map bO.rt)) (fun i=>(atR e4 i).q):=
 aA1 ay hw (by rw[e9];exact h.l) h.len fun l aj=>by
  obtain⟨y,an,rfl⟩:=lf.1 aj;exact(h.all y an).awU
def ajA{g:cM}{pl:Int}{m cX:List (List bO)}{ts:List (List Int)}{k:Nat}{cP:Nat->Nat}{kx ic:List a2}(mz:iG g=0)(aQ:0<=pl)(ae:pl<g.pl)(aA:g.ns.length<=60)(hm:oE g m g.is.length)(h:qy m ts (2 ^ k))(mV:1<=k)(nq:k<=6)(aI:x1 g pl m cX ts (2 ^ k) g.is.length)
 (gn:rk g pl (m.map fun l=>l.map bO.rt) cP 0 kx)(du:rk g pl (cX.map fun l=>l.map bO.rt) cP 0 ic):
 xP ((((nC (atR kx 0) ⟨-(atR ic 0).z,(atR ic 0).d⟩).z.natAbs:Nat):Int)*(kL g pl m ts (k:Int)).d -(kL g pl m ts (k:Int)).z*(nC (atR kx 0) ⟨-(atR ic 0).z,(atR ic 0).d⟩).d)<=0:=by
 have ay:=EK mz;obtain⟨aF,aV,cj,eT⟩:=U4 mz aA aQ ae hm h mV nq;have aq7:=hm.J3;have aq8:=aI.J3 hm h nq;have aAO:=aq7.ahC ay gn;have j4:=aq8.ahC ay du;have dK:=hm.l;have ga:=h.l;have apc:0<2 ^ k:=wy bI;have eg:∀(i:Nat) x,g.ns[i]?=some x->∀m2:List (List bO),x.k=2->A1 g (m2.map fun l=>l.map bO.rt) i=((m2[x.i.toNat]?).map fun l=>l.map fun x=>x.rt.q).getD []:=fun i x U m2 hk=>by
  unfold A1;rw[U];show(oj g _ x).map a2.q=_;unfold oj;rw[aG aa,h'];cases m2[x.i.toNat]? with
  |none=>rfl
  |some l=>show(l.map bO.rt).map a2.q=l.map fun x=>x.rt.q;rw[rh];rfl
 have pp:∀(i:Nat) x,g.ns[i]?=some x->∀m2:List (List a2),x.k=1->A1 g m2 i=(x.ws.map fun w=>a4 w x.ws.sum.toNat).map a2.q:=fun i x U m2 hk=>by
  unfold A1;rw[U];show(oj g _ x).map a2.q=_;unfold oj;rw[aP hk]
 have mb:∀(i:Nat) x,g.ns[i]?=some x->x.k=2->∃l t,m[x.i.toNat]?=some l/\ts[x.i.toNat]?=some t/\m7 l=0/\cX[x.i.toNat]?=some (if x.p=pl then mi (2 ^ k) t else l):=fun i x U hk=>by
  have aM:=ay.types x (dq U) hk;have hi:=(dO.1 aM).1;have ba:=cU (l:=m) (i:=x.i.toNat) aa;have br:=cU (l:=ts) (i:=x.i.toNat) aa;exact⟨_,_,ba,br,(hm.r _ _ _ aM ba).2.1.eN,aI.r _ _ _ _ hi aM ba br⟩
 obtain⟨bc,bl⟩:=aA4 ay cj aQ ae aAO j4 (fun i x U aE fB=>by
  have ari:=ay.nodes x (dq U);rcases xB ari with q|q|q
  ·rw[pp i x U _ q.1,pp i x U _ q.1]
  ·obtain⟨l,t,ba,br,bG,cD⟩:=mb i x U q.1;rw[eg i x U _ q.1,eg i x U _ q.1,ba,cD,aG (fun z=>fB ⟨q.1,z⟩)]
  ·exact absurd q.1 aE) (fun i x U hk ap=>by
  obtain⟨l,t,ba,br,bG,cD⟩:=mb i x U hk;obtain⟨gj,g2,iB,o8⟩:=tc bG;rw[eg i x U _ hk,eg i x U _ hk,ba,cD,aP ap,aht];show uC (l.map fun x=>x.rt.q) ((mi (2 ^ k) t).map fun x=>x.rt.q)=_;rw[<-afK iB,afG,aAF (ry iB) apc,YC ba br]) I I I
 obtain⟨hT,fl⟩:∃x,g.ns[0]?=some x:=⟨_,cU ay.bH⟩;have BI:=(gn.w 0 hT (b2 _) fl).2.bu;have Md:=(du.w 0 hT (b2 _) fl).2.bu;have Nf:=(Df ay cj aQ ae g.ns.length (b2 _)).fS.bu;have bi:(kL g pl m ts (k:Int)).q=(iN (lk m ts (2 ^ k)) pl g.ns g.ns.length).fS.q*((((iN (lk m ts (2 ^ k)) pl g.ns g.ns.length).hi -(iN (lk m ts (2 ^ k)) pl g.ns g.ns.length).lo:Int)):Rat):=by
  rw[aV,<-O1];exact afe (s:=⟨(iN (lk m ts (2 ^ k)) pl g.ns g.ns.length).hi -(iN (lk m ts (2 ^ k)) pl g.ns g.ns.length).lo,1⟩) Nf.1 Nat.one_pos
 rw[<-bi] at bc bl;have Te:0<(kL g pl m ts (k:Int)).d:=by rw[aV];exact eT.bu.1
 have nV:(nC (atR kx 0) ⟨-(atR ic 0).z,(atR ic 0).d⟩).q=(atR kx 0).q -(atR ic 0).q:=by
  rw[show(atR kx 0).q -(atR ic 0).q=(atR kx 0).q+(⟨-(atR ic 0).z,(atR ic 0).d⟩:a2).q by rw[afc];grind];exact V6 BI.1 Md.1
 have rM:0<(nC (atR kx 0) ⟨-(atR ic 0).z,(atR ic 0).d⟩).d:=(k4 (ib BI.1 Md.1)).1;generalize nC (atR kx 0) ⟨-(atR ic 0).z,(atR ic 0).d⟩=P at nV rM;generalize kL g pl m ts (k:Int)=L at bc bl Te;rw[ays];have aX:P.q<=L.q:=by rw[nV];exact bc
 have aT:(⟨-P.z,P.d⟩:a2).q<=L.q:=by rw[afc,nV];grind
 rw[V4 rM Te] at aX;rw[V4 (show 0<(⟨-P.z,P.d⟩:a2).d from rM) Te] at aT;have aT:-P.z*(L.d:Int)<=L.z*(P.d:Int):=aT;rcases Int.le_total 0 P.z with z|z
 ·rw[XH z];omega
 ·rw[show((P.z.natAbs:Nat):Int)=-P.z by omega];omega
open Go.Proofs
section
variable {Q:da Tryz.prog}{g0:Nat}{J:ai}
def atX{g:cM}{pl bits:Int}{m:List (List bO)}{ts:List (List Int)}{cO cy b b':Option Addr}{bu ci c c':Nat}{aV:TypeId}(cq:J 2=some (cc .u8 m8,aV))(tJ:Nat.blt 2 (aU Q g0).g0=true)(aB:r' J g cO bu cy ci)(hm:pb J b m.length c m)(rK:m.length<=1000)(qQ:∀l∈m,l.length<=1000)(hg:∀l∈m,Bd l)(apP:∀s,jB 9 (lk m ts (2 ^ bits.toNat) s))
 (aM:dz J 22 1 (e8 (zS J)) (.slice b' ts.length c') ts)(ND:ts.length<9223372036854775807)(mZ:∀l∈ts,l.length<9223372036854775807)(cH:iG g=0->g.ns.length<=60):
 Fn (aU Q g0) 10 [Ao g cO bu cy ci,.int .i64 pl,.slice b m.length c,.agg #[.int .i64 bits,.slice b' ts.length c']] [] J (sm J g pl m ts bits):=by
 have zw:addrEq cy cy=true:=aB.i.addr;have C9:addrEq cO cO=true:=aB.n.addr;have oo:addrEq b b=true:=hm.addr;have axj:addrEq b' b'=true:=aM.addr;have oV:=ad2 hm;obtain⟨_,Aw⟩:=aB.i.at;have S3:=hm.eg;have apL:=aM.eg;refine mO.afv (mO.b9 (b1 Tryz.func10) I I fun H=>?_);refine rg ?_;refine fq fun cD=>?_;refine fq fun fh=>?_;refine eu fun gw=>?_;refine eu fun hB=>?_;refine af 0x4b38 ?_;refine' W.defer I I I I I I I ?_;refine af 0x3338 ?_;refine' W.step I (Exec.call I I I I I I I (a1:=[]) (cB:=[_,_,_,_]) (.refl _) trivial (an1 aB) ?_);rintro v' m' bj hle ⟨rfl,rfl,a8⟩;refine af 0x5f040e702 ?_;refine If (fun n7=>?_) fun n7=>?_
 ·refine af 0xd5f1ce0619 ?_
  refine⟨.returning,I,.inr ⟨28,#[.pointer (some ⟨hB,0,none⟩)],#[],[(hB,.row [.int .i64 (iG g)] 41)],[(gw,_),(fh,_),(cD,_)],I,.refl _,FI.mono ?_⟩⟩;rintro Dn m' ah ⟨rfl,rfl,rfl⟩ _;exact .inl ⟨I,_,[],.cell I (.tail _ (.head _)) (vP (fJ I) I) (.cell I (.head _) (g8 (fJ I) I) .nil),kt _,sm.bad (at0 n7) n7 a8⟩
 ·have mz:iG g=0:=ox fun q=>n7 q;have ay:=EK mz;have Ff:=cH mz;have vu:=ay.i2;refine lu ?_;refine fc [1,2,4,7,8,9] ?_;refine bp ?_;refine' aK.hp 0 [(33,.bool (decide ((pl<0\/g.pl<=pl))))] ?HR ?H2;case HR=>
   refine af 0x903a ?_;refine eX 28 (fun aoH=>?_) fun aoH=>?_
   ·refine af 0x308def7b ?_;refine ho (hC ?_);omega
   ·refine af 0x308225a1 ?_;refine ho (hC ?_);omega
  case H2=>
   refine bp ?_;refine If (fun BG=>?_) fun BG=>?_
   ·refine af 0x6af8e7219 ?_
    refine⟨.returning,I,.inr ⟨28,#[.pointer (some ⟨hB,0,none⟩)],#[],[(hB,.row [.int .i64 2] 41)],[(gw,_),(fh,_),(cD,_)],I,.refl _,FI.mono ?_⟩⟩;rintro Dn m' ah ⟨rfl,rfl,rfl⟩ _;exact .inl ⟨I,_,[],.cell I (.tail _ (.head _)) (vP (fJ I) I) (.cell I (.head _) (g8 (fJ I) I) .nil),kt _,sm.bad (at1 mz BG) bI a8⟩
   ·refine af 0xe757 ?_;refine W.Mg I I I I I I I I (a1:=[]) (cB:=_) (.refl _) (afq (a8 _ _ cq) tJ (hm.mono a8) rK qQ hg) ?_ ?_
    rotate_left 1
    ·rintro bx m' e3 cQ ⟨rfl,hle,aQ,rfl⟩;refine⟨_,I,.inr ⟨28,#[.pointer (some ⟨hB,0,none⟩)],#[],[(hB,.row [.int .i64 0] 41)],[(gw,_),(fh,_),(cD,_)],I,.refl _,atV.mono ?_⟩⟩;rintro Dn m' ah ⟨hu,rfl,rfl⟩ _;exact .inl ⟨hu,_,[],.cell I (.tail _ (.head _)) (vP (fJ I) I) (.cell I (.head _) (g8 (fJ I) I) .nil),kt _,sm.bad (at2 mz BG aQ) aQ (a8.trans hle)⟩
    rintro v' m' c3 hle ⟨bN,rfl,rN,bc,bb,rfl,eO⟩;have aN:addrEq bc bc=true:=eO.addr;have apM:=eO.eg;obtain⟨dj,ht⟩:=ae4 rN;have kb:=a8.trans bN;refine af 0x66702 ?_;refine cl (G:=agF (dz.mono (R':=e8 (zS c3)) kb (fun _ _ ⟨v,aX,aT⟩=>⟨v,aX,aT.mono kb⟩) aM) ND mZ) (h:=?_);rintro v' m' ah hle ⟨rfl,rfl,rfl⟩;refine af 0x5f040e702 ?_;refine If (fun u0=>?_) fun u0=>?_
    ·refine af 0xd5f1ce0619 ?_
     refine⟨.returning,I,.inr ⟨28,#[.pointer (some ⟨hB,0,none⟩)],#[],[(hB,.row [.int .i64 (nG bits ts)] 41)],[(gw,_),(fh,_),(cD,_)],I,.refl _,FI.mono ?_⟩⟩;rintro Dn m' ah ⟨rfl,rfl,rfl⟩ _;exact .inl ⟨I,_,[],.cell I (.tail _ (.head _)) (vP (fJ I) I) (.cell I (.head _) (g8 (fJ I) I) .nil),kt _,sm.bad (at3 mz BG rN u0) u0 kb⟩
    ·have Js:nG bits ts=0:=ox fun q=>u0 q;obtain⟨eH,eQ,ml⟩:=agB Js;obtain⟨k,M,hk,Cn,IR,ih,yH,yG⟩:=bits_nat eH;subst hk;have SF:2 ^ ((k:Int)).toNat=M:=by rw[ff,IR]
     rw[SF] at ml;refine lu ?_;refine fc [1,2,4,7,8,9,11] ?_;refine bp ?_;refine' aK.hp 0 [(57,.bool (decide ((m.length≠g.is.length\/ts.length≠g.is.length))))] ?alG ?amB;case alG=>
      refine af 0x90a96943a ?_;refine eX 49 (fun aov=>?_) fun aov=>?_
      ·refine af 0x1846f7bdef7b ?_;refine ho (hC ?_);omega
      ·refine af 0x18410a96952d ?_;refine ho (hC ?_);omega
     case amB=>
      refine bp ?_;refine If (fun Ma=>?_) fun Ma=>?_
      ·refine af 0x6af8e7219 ?_
       refine⟨.returning,I,.inr ⟨28,#[.pointer (some ⟨hB,0,none⟩)],#[],[(hB,.row [.int .i64 10] 41)],[(gw,_),(fh,_),(cD,_)],I,.refl _,FI.mono ?_⟩⟩;rintro Dn m' ah ⟨rfl,rfl,rfl⟩ _;exact .inl ⟨I,_,[],.cell I (.tail _ (.head _)) (vP (fJ I) I) (.cell I (.head _) (g8 (fJ I) I) .nil),kt _,sm.bad (at4 mz BG rN Js Ma) bI kb⟩
      ·refine af 0xa96e757 ?_;refine' W.step I (.of (ti I I I I I (ee I) ?aQ ?ae ?ag fun z5=>?_));case aQ=>exact cJ
       case ae=>exact cJ
       case ag=>exact cJ
       refine af 0x302 ?_;rw[ff];refine af 0xd5f012a5b9 ?_;refine dV [(66,.int .i64 ((0):Int)),(1,_),(2,_),(4,_),(7,_),(8,_),(9,_),(11,_),(13,_),(64,_),(65,_)] ?_;refine bp ?_;refine' aK.bK (fun(b8:Nat×(List Value)×ai)=>match b8 with|(i,d,cv)=>⟨[(66,.int .i64 (i:Int))],[(z5,.row d 85),(hB,.row [.int .i64 0] 41),(gw,.row [.bool false,.slice none 0 0,.slice none 0 0] 50),(fh,.row [.int .i64 (k:Int),.slice b' ts.length c'] 40),(cD,.row (pn g cO bu cy ci) 26)],cv,i<=g.is.length/\c3.le cv/\et 3 (fun _=>jN cv) d (sq g pl (lk m ts M) i)/\Pw g m ts i,g.is.length -i⟩) ⟨0,fp [.bool false,.slice none 0 0,.slice none 0 0] g.is.length,c3⟩ ?hs ?bn
       case hs=>exact⟨c6 _,ai.le.refl _,by rw[ajJ];exact et.zero _ I fun _=>⟨_,_,I,c5.nil,c5.nil⟩,fun j x h=>by omega⟩
       case bn=>
        rintro⟨i,d,cv⟩ hinv;try simp only at hinv
        obtain⟨hi,cr,fj,ke⟩:=hinv;refine af 0xbe099 ?_;refine If (fun akn=>?_) fun akn=>?_
        ·obtain⟨qA,CT,Zg,ZR,rfl,vg,I7⟩:=Aw aa;obtain⟨x,cs,U,iI,oa,rfl⟩:=I7 i aa aa;rw[ff] at U;have vg:=(kb.trans cr) _ _ vg;obtain⟨ajc,avp,akL,RL,rfl,IL,Ts⟩:=S3 aa;obtain⟨v,az,l,aj,bl,bt,rfl,gW⟩:=Ts i aa;have IL:=(kb.trans cr) _ _ IL;obtain⟨at_,aeK,aCp,aCX,rfl,ET,aqK⟩:=apL aa;obtain⟨v,acz,t,Fq,bi⟩:=aqK i aa;have ET:=(kb.trans cr) _ _ ET;have bi:gl J v t:=bi;obtain⟨b0,cE,rfl,vh,IQ⟩:=bi.inv;have aH:addrEq bl bl=true:=gW.addr;have bo:addrEq b0 b0=true:=bi.addr;have gY:=qQ l (dq aj);have acv:=mZ t (dq Fq);refine af 0x61839d5f57 ?_;refine eu fun n5=>?_;refine af 0x6382 ?_;refine fc [1,2,4,7,8,9,11,13,14,15,64,65,66] ?_;refine bp ?_;refine' aK.hp 0 [(89,.bool (decide ((¬((l.length:Int)=x.2/\(t.length:Int)=x.2)))))] ?HP ?HY;case HP=>
          refine aK.H3 [] I (by kernel_rfl) (a0:=[.val 0,.val 1,.val 2,.val 3,.val 4,.val 5,.val 6,.val 7,.val 8,.val 9,.val 10,.val 11,.val 12,.val 13,.val 14,.val 15,.val 16,.val 17,.val 18]) (by kernel_rfl) ?_;refine af 0x1225a549821 ?_;refine z2 79 (fun aoy=>?_) fun aoy=>?_
          ·refine af 0x611bdef7bdef7b ?_;refine ho (hC ?_);omega
          ·refine af 0x61044b4a93052d ?_;refine ho (hC ?_);omega
         case HY=>
          refine bp ?_;refine If (fun Q3=>?_) fun Q3=>?_
          ·have IX:=azY U aj Fq Q3;refine af 0x6af8e7219 ?_
           refine⟨.returning,I,.inr ⟨28,#[.pointer (some ⟨hB,0,none⟩)],#[],[(hB,.row [.int .i64 10] 41)],[(n5,_),(z5,_),(gw,_),(fh,_),(cD,_)],I,awq.symm,FI.mono ?_⟩⟩;rintro Dn m' ah ⟨rfl,rfl,rfl⟩ _;exact .inl ⟨I,_,[],.cell I (.tail _ (.tail _ (.tail _ (.head _)))) (vP (fJ I) I) (.cell I (.head _) (g8 (fJ I) I) .nil),kt _,sm.bad (at5 mz BG rN Js Ma IX) bI (kb.trans cr)⟩
          ·obtain⟨jU,lq⟩:=x4.1 Q3;obtain⟨gj,g2,iB,o8⟩:=tc (ht l (dq aj));obtain⟨uF,GB,GC,PN⟩:=A8 (ml t (dq Fq));have aGq:=Pp GC;refine af 0x17c10296e757 ?_;refine If (fun akw=>?_) fun akw=>?_
           ·refine af 0x3011e757 ?_;refine eS ⟨i+1,d,cv⟩ ?_ (hm:=.cons _ (.refl _));exact⟨aa,cr,by rw[ajH U aa];exact fj,agW ke U aj Fq jU lq⟩
           ·have asB:x.1=pl:=aa
            refine af 0x96e757 ?_;refine' W.step I (.of (ti I I I I I (ee I) ?aQ ?ae ?ag fun D7=>?_));case aQ=>exact cJ
            case ae=>exact cJ
            case ag=>exact cJ
            refine af 0x302 ?_;rw[show x.2.toNat=t.length by omega];refine af 0x6af8095260a5b9 ?_;refine dV [(104,.int .i64 ((0):Int)),(1,_),(2,_),(4,_),(7,_),(8,_),(9,_),(11,_),(13,_),(14,_),(16,_),(64,_),(65,_),(66,_),(102,_),(103,_)] ?_;refine bp ?_;refine' aK.bK (fun(b8:Nat×(List Value)×ai)=>match b8 with|(j,d2,hU)=>⟨[(104,.int .i64 (j:Int))],[(D7,.row (d2++fp [.bool false,.slice none 0 0,.slice none 0 0] (t.length -j)) 85),(n5,.row [.int .i64 x.1,.int .i64 x.2] 37),(z5,.row d 85),(hB,.row [.int .i64 0] 41),(gw,.row [.bool false,.slice none 0 0,.slice none 0 0] 50),(fh,.row [.int .i64 (k:Int),.slice (some ⟨at_,aeK,none⟩) ts.length c'] 40),(cD,.row (pn g cO bu (some ⟨qA,CT,none⟩) ci) 26)],hU,j<=t.length/\cv.le hU/\et 3 (fun _=>jN hU) d2 ((t.take j).map fun s=>a4 ((s.toNat:Nat):Int) M),t.length -j⟩) ⟨0,[],cv⟩ ?hs ?bn
            case hs=>exact⟨c6 _,ai.le.refl _,I,fun i x h=>by cases h⟩
            case bn=>
             rintro⟨j,d2,hU⟩ hinv;try simp only at hinv
             obtain⟨aW,h5,sP⟩:=hinv;refine af 0xbe099 ?_;refine If (fun aj5=>?_) fun aj5=>?_
             ·obtain⟨oH,F8,Es,EC,rfl,n9,pY⟩:=bi.vQ aa;have n9:=(kb.trans (cr.trans h5)) _ _ n9;have aDj:=h5 _ _ ET;obtain⟨ux,gL,vt⟩:=pY j aa;obtain⟨fl,iS⟩:=GC ux (dq gL);obtain⟨s,rfl⟩:∃s:Nat,ux=(s:Int):=⟨ux.toNat,aa⟩;have rE:d2.length=j*3:=by rw[sP.1,e9,eL,gv aW]
              refine af 0x28968421ce04249839d5f57 ?_;rw[ih];refine cl (G:=axz (n:=s) (d:=M) aa aa yG) (h:=?_);rintro v' m' nJ hle ⟨fa,rfl,dH,eP,rfl,bC⟩;have cS:=bC;obtain⟨ev,e2,dJ,rfl,hS,_,_⟩:=bC.n.bz;obtain⟨gH,k3,eY,rfl,mI,_,_⟩:=bC.d.bz;refine hA V.dM ?_;refine' n4 ?hs ?_;case hs=>exact(by rw[show t.length -j=(t.length -(j+1))+1 by omega,v5];exact KB (by rw[rE];omega) I)
              refine nh ?_;have aqj:et 3 (fun _=>jN nJ) (d2++jc (a4 (s:Int) M) (.slice ev e2 dJ) (.slice gH k3 eY)) ((t.take (j+1)).map fun s=>a4 ((s.toNat:Nat):Int) M):=by
               rw[ly,gL,zW];exact(sP.mono fun _ _ _ q=>q.mono fa).app ⟨_,_,I,cS⟩ I
              rw[<-j6];refine af 0xc0479 ?_;refine eS ⟨j+1,d2++jc (a4 (s:Int) M) (.slice ev e2 dJ) (.slice gH k3 eY),nJ⟩ ?_;exact⟨aa,h5.trans fa,aqj⟩
             ·obtain rfl:j=t.length:=aa
              rw[uM] at sP;refine af 0x357 ?_;refine aK.nZ (m':=[(D7,.row d2 85),(n5,_),(z5,_),(hB,_),(gw,_),(fh,_),(cD,_)]) (by show List.Perm _ [(D7,df.row (d2++fp [.bool false,.slice none 0 0,.slice none 0 0] (t.length -t.length)) 85),(n5,_),(z5,_),(hB,_),(gw,_),(fh,_),(cD,_)];rw[pL,Bo,gC]) ?_;refine aK.k8 I fun fk=>?_;have fk:hU.le (hU.add D7 (d2,85)):=fk;have TG:=kb.trans (cr.trans (h5.trans fk));obtain⟨QJ,jm,aCq,amS,rfl,IP,aqL⟩:=apM aa;obtain⟨v,aEB,aEZ,Nk,dp,eA,rfl,B7⟩:=aqL i aa;rw[aj] at Nk;injection Nk with Nk
              subst Nk;have TH:=cr.trans (h5.trans fk);have IP:=TH _ _ IP;have db:addrEq dp dp=true:=B7.addr;have Sp:=et.u6 (e:=85) (ah:=hU.add D7 (d2,85)) (sP.mono fun _ _ _ q=>q.mono fk) (e9 _) aa (ai.lC _ _ _);have NG:=aAz (Q:=Q) (g0:=g0) (ps:=iq l) (dd:=t.map Int.toNat) (sa:=fF l) (dG:=M) (b:=dp) (b':=some ⟨D7,0,none⟩) (c:=eA) (c':=t.length) (by rw[q8];exact dz.mono (R':=jN _) TH (fun _ _ q=>q.mono TH) B7) (by rw[e9,rh];exact Sp) (ry iB) yG (jg (zY (hg l (dq aj)).2 yH) bI) o8 aa (by rw[q8];omega) (by rw[q8,e9];omega);rw[q8,e9,<-YC aj Fq] at NG;refine af 0xa4c108439 ?_;refine cl (G:=NG) (h:=?_);rintro v' m' wj hle ⟨ij,rfl,bE,ct,rfl,bC⟩;have cS:=bC;obtain⟨iP,nX,dt,rfl,mh,_,_⟩:=bC.n.bz;obtain⟨rm,zj,mT,rfl,A2,_,_⟩:=bC.d.bz;refine hA V.dM ?_;refine' n4 ?hs ?_;case hs=>exact xT _ _ _ (by show 0+i*3+3<=d.length;rw[fj.1,tv];omega)
              refine nh ?_;have sO:et 3 (fun _=>jN wj) (d.take (0+i*3)++jc (lk m ts M i) (.slice iP nX dt) (.slice rm zj mT)++d.drop (0+i*3+3)) (sq g pl (lk m ts M) (i+1)):=by
               rw[ajI U asB];exact fj.set (new:=jc (lk m ts M i) (.slice iP nX dt) (.slice rm zj mT)) (by rw[j8]) (by rw[tv];omega) I (fun _ _ _ _ q=>q.mono (h5.trans (fk.trans ij))) ⟨_,_,I,cS⟩
              refine af 0xc0479 ?_;refine eS ⟨i+1,d.take (0+i*3)++jc (lk m ts M i) (.slice iP nX dt) (.slice rm zj mT)++d.drop (0+i*3+3),wj⟩ ?_ (hm:=.cons _ (.refl _));exact⟨aa,cr.trans (h5.trans (fk.trans ij)),sO,agW ke U aj Fq jU lq⟩
        ·obtain rfl:i=g.is.length:=aa
         have aq6:=adr (bits:=(k:Int)) mz BG rN Js Ma (azX ke);have ab1:kL g pl m ts (k:Int)=ug (lk m ts M) pl g:=by show ug (lk m ts (2 ^ ((k:Int)).toNat)) pl g=_;rw[SF]
         have yL:∀s,jB 9 (lk m ts M s):=by have h:=apP;rw[SF] at h;exact h
         refine af 0x357 ?_;refine aK.k8 I fun fk=>?_;have fk:cv.le (cv.add z5 (d,85)):=fk;have TG:=kb.trans (cr.trans fk);have Sp:=et.u6 (e:=85) (ah:=cv.add z5 (d,85)) (fj.mono fun _ _ _ q=>q.mono fk) tv aa (ai.lC _ _ _);have ab0:=atY (Q:=Q) (g0:=g0) (qB:=sq g pl (lk m ts M) g.is.length) (b:=some ⟨z5,0,none⟩) (c:=g.is.length) ay (aB.mono TG) aa aa yL Ff (by rw[tv];exact Sp) tv (fun s x ae ag=>ajG ae ag);rw[tv,<-ab1] at ab0;have cG:=Df ay yL (show 0<=pl by omega) (show pl<g.pl by omega) g.ns.length (b2 _);have l9:=ads ay yL (show 0<=pl by omega) (show pl<g.pl by omega) Ff;rw[<-ab1] at l9;refine af 0x8599 ?_;refine cl (G:=ab0) (h:=?_);rintro v' m' wj hle ⟨ij,rfl,bE,ct,rfl,bC⟩;have cS:=bC;obtain⟨iP,nX,dt,rfl,mh,_,_⟩:=bC.n.bz;obtain⟨rm,zj,mT,rfl,A2,_,_⟩:=bC.d.bz;refine cl (G:=avh cS (l9.ek.mono bI) (jP l9.bu.1)) (h:=?_);rintro v' m' DO hle ar;obtain⟨l',rfl,aBb,D',Vi,ms,sr,Vj,qF,cP,rfl,Kt,Gc,w'⟩:=ar.un;refine af 0x6af8e70e7 ?_
         refine⟨.returning,I,.inr ⟨28,#[.pointer (some ⟨hB,0,none⟩)],#[],[(hB,.row [.int .i64 cP] 41)],[(gw,_),(fh,_),(cD,_)],I,.refl _,FI.mono ?_⟩⟩
         rintro Dn m' ah ⟨rfl,rfl,rfl⟩ _;exact .inl ⟨I,_,[],.cell I (.tail _ (.head _)) (vP (fJ I) I) (.cell I (.head _) (g8 (fJ I) I) .nil),kt _,sm.fit w' aq6 (TG.trans (ij.trans l'))⟩
def ad'{v:Value}{x:Nat}(h:ei J v x)(aj:(aq x).length<=1024):Fn (aU Q g0) 72 [v] [] J (fun u m' ah=>u=.int .i64 0/\m'=[]/\J=ah):=by
 have mU:dZ .u32 J v (aq x):=h;obtain⟨bc,bb,rfl⟩:=mU.form;have eg:=mU.at;have l9:=wO x;refine Fn.b9 (b1 Tryz.func72) I I fun H=>?_;refine af 0x17c10a1ce059 ?_;refine If (fun dJ=>?_) fun dJ=>?_
 ·exfalso;omega
 ·refine af 0x6af816757 ?_;refine dV [(3,.int .i64 ((0):Int)),(0,_)] ?_;refine bp ?_;refine' aK.og (fun(i:Nat)=>⟨[(3,.int .i64 (i:Int))],i<=(aq x).length,(aq x).length -i⟩) (0) ?hs ?bn;case hs=>exact c6 _
  case bn=>
   rintro i hinv;try simp only at hinv
   have hi:=hinv;refine af 0x5f0428439 ?_;refine If (fun dt=>?_) fun dt=>?_
   ·obtain⟨a,o,BN,e,rfl,gX,az⟩:=eg aa;obtain⟨p,ap,lp⟩:=az i aa;have oc:=l9.1 p (dq ap);refine af 0xbe08930439d5f57 ?_;refine If (fun ru=>?_) fun ru=>?_
    ·exfalso;omega
    ·refine af 0x60430e757 ?_;refine om (i+1) ?_;exact aa
   ·refine af 0x4850e757 ?_;refine eX 21 (fun aoJ=>?_) fun aoJ=>?_
    ·obtain⟨a,o,BN,e,rfl,gX,az⟩:=eg aa;obtain⟨p,ap,lp⟩:=az ((aq x).length -1) aa;have lp:nth BN (o+(((aq x).length:Int) -1).toNat*1)=some (.int .u32 (p:Int)):=by
       rw[show(((aq x).length:Int) -1).toNat=(aq x).length -1 by omega];exact lp
     have mA:=l9.2 p (by rw[x7];exact ap);refine af 0x2f84112619421 ?_;refine If (fun ake=>?_) fun ake=>?_
     ·exfalso;omega
     ·refine af 0x6af816757 ?_;refine b4 ?_;exact⟨I,I,I⟩
    ·refine af 0x357c0b3abeaf846f7bdef7b ?_;refine b4 ?_;exact⟨I,I,I⟩
def awY{v w:Value}{x y:Nat}(ae:ei J v x)(ag:ei J w y)(an:y≠0)(eR:(aq x).length<=1024)(eo:(aq y).length<=1024):Fn (aU Q g0) 34 [v,w] [] J (fun u m' ah=>u=.int .i64 0/\m'=[]/\J=ah):=by
 have lI:=ae;have kZ:=ag;obtain⟨bc,bb,rfl,aN⟩:=ae.ch;obtain⟨bl,bt,rfl,aH⟩:=ag.ch;have ap:=ze an;refine Fn.b9 (b1 Tryz.func34) I I fun H=>?_;refine af 0x1ce059 ?_;refine cl (G:=ad' lI eR) (h:=?_);rintro v' m' ah hle ⟨rfl,rfl,rfl⟩;refine af 0x5f040e702 ?_;refine If (fun dt=>?_) fun dt=>?_
 ·exfalso;exact dt I
 ·refine af 0xe757 ?_;refine cl (G:=ad' kZ eo) (h:=?_);rintro v' m' ah hle ⟨rfl,rfl,rfl⟩;refine af 0x5f040e702 ?_;refine If (fun gh=>?_) fun gh=>?_
  ·exfalso;exact gh I
  ·refine af 0xbe0850e757 ?_;refine If (fun oJ=>?_) fun oJ=>?_
   ·exfalso;omega
   ·refine af 0x6af816757 ?_;refine b4 ?_;exact⟨I,I,I⟩
def afo{r:a2}{v1 v2:Value}(h:hz J r v1 v2)(gV:r.g9)(eR:(aq r.z.natAbs).length<=1024)(eo:(aq r.d).length<=1024):Fn (aU Q g0) 11 [di r v1 v2] [] J (fun u m' ah=>J.le ah/\m'=[]/\u=.int .i64 0):=by
 have aQ:=h;have av:=jP gV.1;have abI:Nat.gcd r.z.natAbs r.d=1:=gV.2;have aaN:=atH (x:=1) (by rw[JQ (x:=1) bI bI];rfl);obtain⟨bc,bb,rfl,aN⟩:=h.n.ch;obtain⟨bl,bt,rfl,aH⟩:=h.d.ch;refine Fn.b9 (b1 Tryz.func11) I I fun H=>?_;refine rg ?_;refine fq fun ba=>?_;refine af 0x25a96e702 ?_;refine cl (G:=awY aQ.n aQ.d av eR eo) (h:=?_);rintro v' m' ah hle ⟨rfl,rfl,rfl⟩;refine af 0x5f040e702 ?_;refine If (fun dt=>?_) fun dt=>?_
 ·exfalso;exact dt I
 ·refine af 0x25a96e757 ?_;refine cl (G:=Rn aQ.n aQ.d aa aa) (h:=?_);rintro v' m' bj hle ⟨a8,rfl,l6⟩;rw[abI] at l6;have EQ:=l6;obtain⟨fD,fZ,rfl,fH⟩:=l6.ch;refine af 0x485 ?_;refine eX 19 (fun Iw=>?_) fun Iw=>?_
  ·refine af 0x6af816757c237bdef7bdec28def7fdef7b ?_;refine b4 ?_
   exfalso
   rw[aaN.1] at Iw;exact Iw I
  ·refine af 0x4b52d ?_;refine BJ (G:=Rn (aQ.n.mono a8) (aQ.d.mono a8) aa aa) (h:=?_);rintro v' m' c3 hle ⟨bN,rfl,gW⟩;rw[abI] at gW;have Sn:dZ .u32 c3 v' (aq 1):=gW;rw[aaN.1] at Sn;have ao0:∃b c,v'=.slice b 1 c:=Sn.form;obtain⟨ev,dJ,rfl⟩:=ao0;obtain⟨aBV,avk,ald,aCS,rfl,aDb,asj⟩:=Sn.eG Nat.one_pos;have aD':nth ald (avk+(0:Int).toNat*1)=some (.int .u32 ((1:Nat):Int)):=asj 0 1 I;refine af 0x141126 ?_;refine eX 29 (fun aoD=>?_) fun aoD=>?_
   ·refine af 0x1abe059d5f08def7bdef7b ?_;refine b4 ?_
    exfalso
    simp_all;done
   ·refine af 0x52d ?_;refine eX 32 (fun aoE=>?_) fun aoE=>?_
    ·refine af 0xbe1082152d ?_;refine If (fun Eh=>?_) fun Eh=>?_
     ·refine af 0x1abe059 ?_;refine b4 ?_
      exfalso
      exact ze (x:=r.z.natAbs) aa aa
     ·refine af 0x6af816757 ?_;refine b4 ?_
      exact⟨a8.trans bN,I,I⟩
    ·refine af 0xd5f02ceafabe108def7b ?_;refine b4 ?_
     exact⟨a8.trans bN,I,I⟩
def atK{l:List a2}{b:Option Addr}{c:Nat}(h:dz J 50 3 (mn J) (.slice b l.length c) l)(aj:l.length<=1000)(ak:∀r∈l,jo 4 r):Fn (aU Q g0) 12 [.slice b l.length c] [] J (fun u m' ah=>J.le ah/\m'=[]/\u=.int .i64 0):=by
 have oo:addrEq b b=true:=h.addr;obtain⟨_,eg⟩:=h.at;refine Fn.b9 (b1 Tryz.func12) I I fun H=>?_;refine af 0xd5f02ce059 ?_;refine dV [(3,.int .i64 ((0):Int)),(0,_)] ?_;refine bp ?_;refine' aK.bK (fun(b8:Nat×ai)=>match b8 with|(i,cv)=>⟨[(3,.int .i64 (i:Int))],[],cv,i<=l.length/\J.le cv,l.length -i⟩) ⟨0,J⟩ ?hs ?bn
 case hs=>exact⟨c6 _,ai.le.refl _⟩
 case bn=>
  rintro⟨i,cv⟩ hinv;try simp only at hinv
  obtain⟨hi,cr⟩:=hinv;refine af 0x5f0428439 ?_;refine If (fun gm=>?_) fun gm=>?_
  ·obtain⟨a,off,cells,bA,rfl,l7,jJ⟩:=eg aa;obtain⟨r,cs,ar,iI,oa,v1,v2,rfl,dU⟩:=jJ i aa aa;rw[ff] at ar;have l7:=cr _ _ l7;have sD:=dU.mono cr;obtain⟨bc,bb,rfl,aN⟩:=dU.n.ch;obtain⟨bl,bt,rfl,aH⟩:=dU.d.ch;have S7:=ak r (dq ar);have sJ:=S7.n;have jv:=S7.d;refine af 0xc30439d5f57 ?_;refine cl (G:=afo sD S7.bu aa aa) (h:=?_);rintro v' m' bj hle ⟨a8,rfl,rfl⟩;refine af 0x5f040e702 ?_;refine If (fun ru=>?_) fun ru=>?_
   ·exfalso;exact ru I
   ·refine af 0x60430e757 ?_;refine eS ⟨i+1,bj⟩ ?_;exact⟨aa,cr.trans a8⟩
  ·refine af 0x6af816757 ?_;refine b4 ?_;exact⟨cr,I,I⟩
def gl.aw1{J:ai}{b:Option Addr}{n c:Nat}{l:List Int}(h:gl J (.slice b n c) l)(ap:0<l.length):∃a off cells e,b=some ⟨a,off,none⟩/\J a=some (cells,e)/\∀i:Nat,i<l.length->∃x,l[i]?=some x/\nth cells (off+i*1)=some (.int .i64 x):=by
 obtain⟨e,h⟩:=h;obtain⟨b',c',ae,_,_,aE⟩:=fg.inv h;injection ae with a6 dK ga
 subst a6;obtain⟨a,off,cells,e,aX,aT,bd⟩:=aE ap;refine⟨a,off,cells,e,aX,aT,fun i hi=>⟨l[i],cU hi,?_⟩⟩;rw[jr,bd i aa,h',cU hi];rfl
def dY.aw8{k:IntKind}{e:TypeId}{a n i x:Nat}{full:List Value}{rest:List Nat}{l:List Nat}(ay:full.take (n*1)=cc k l)(hk:n*1<=full.length)(aj:l.length=n):dY e 1 (.slice (some ⟨a,0,none⟩) n cK) n (cc k (l.set i x)) [(a,.opn (full.set i (.int k (x:Int))) e rest 0)]:=by
 have h:=dY.of (e:=e) (sz:=1) (k:=n) (a:=a) (full:=full.set i (.int k (x:Int))) (rest:=rest) (by rw[hy];exact hk);have ag:(full.set i (.int k (x:Int))).take (n*1)=cc k (l.set i x):=by
  rw[List.take_set,ay];unfold cc;rw[P']
 rw[ag] at h;exact h
def ags{ps:List Nat}{B:Nat}(h:∀p∈ps,p<=B):ps.sum<=B*ps.length:=by
 induction ps with
 |nil=>exact b2 _
 |cons a ps aC=>
  rw[lg,ks,Nat.mul_succ];have:=aC fun p ap=>h p (.tail _ ap);have:=h a (.head _);omega
def azi(ps:List Nat)(x:Nat):(ps++[x]).sum=ps.sum+x:=by rw[X1];simp
def Vs{ad:Nat}{cV:Option Addr}{kl:Nat}{l:List Int}{a:Nat}{n:Int}(aj:gl J (.slice cV l.length kl) l)(gY:l.length<=9223372036854775807)(aI:a<=l.length)(aA:1<=n)(hm:n<=4611686018427387904):
 Fn (aU Q g0) 8 [.pointer (some ⟨ad,0,none⟩),.int .i64 n] [hq ad cV kl l a] J (fun u m' ah=>J=ah/\∃(x:Int) (bD:Nat),u=.int .i64 x/\0<=x/\x<n/\bD<=l.length/\m'=[hq ad cV kl l bD]):=by
 have aff:addrEq cV cV=true:=by obtain⟨e,h⟩:=aj;exact h.addr
 have Jk:=aj.aw1;refine Fn.b9 (b1 Tryz.func8) I I fun H=>?_;refine af 0x6059 ?_;refine fc [0,1] ?_;refine bp ?_;refine' aK.hp 0 [(18,.bool (decide ((l.length<=a\/n<1))))] ?lF ?lG;case lF=>
  refine aK.H3 [] I (by kernel_rfl) (a0:=[.val 0,.val 1,.val 2,.val 3,.val 4,.val 5,.val 6,.val 7,.val 8,.val 9,.val 10,.val 11,.val 12,.val 13]) (by kernel_rfl) ?_;refine af 0x485536c1536c1 ?_;refine z2 15 (fun Ir=>?_) fun Ir=>?_
  ·refine af 0xc237b ?_;exact ce
  ·refine af 0xc2081 ?_;exact ce
 case lG=>
  refine bp ?_;refine If (fun jt=>?_) fun jt=>?_
  ·refine af 0x1abe059 ?_;refine iw ?_
   exact⟨I,0,a,I,Lc _,aa,aI,I⟩
  ·obtain⟨dg,ol,Rg,el,rfl,ao9,Tt⟩:=Jk aa;obtain⟨x,U,hZ⟩:=Tt a aa;have hZ:nth Rg (ol+((a:Int)).toNat*1)=some (.int .i64 x):=hZ;have fl:=GN x (show n≠0 by omega);have iS:=GM x (show 0<n by omega);refine af 0x17c71b61a9b60e757 ?_;refine aK.draw I (by kernel_rfl) (a0:=[.val 0,.val 1,.val 2,.val 3,.val 4,.val 5,.val 6,.val 7,.val 8,.val 9,.val 10,.val 11,.bw 12,.val 13]) (by kernel_rfl) ?_;refine af 0x3536c1536c1 ?_;rw[show((a:Int)+1 -1)=(a:Int) by omega];refine af 0x546 ?_;refine dl I (G:=J0 aa hm) (h:=?_);rintro v m' ah hle ⟨rfl,rfl,rfl⟩;refine af 0xd5f02 ?_;refine iw ?_
   exact⟨I,x % n,a+1,I,fl,iS,aa,I⟩
def avs{ps:List Nat}{d:Nat}{b:Option Addr}{c:Nat}(h:dZ .i64 J (.slice b ps.length c) ps)(h6:0<d)(av:d<=1000)(ap:∀p∈ps,p<=1000)(aj:ps.length<=1000):
 Fn (aU Q g0) 20 [.int .i64 (d:Int),.slice b ps.length c] [] J (fun u m' ah=>J.le ah/\m'=[]/\∃b' c',u=.slice b' ps.length c'/\dz ah 50 3 (mn ah) (.slice b' ps.length c') (ps.map fun p:Nat=>a4 (p:Int) d)):=by
 have eg:=h.at;refine Fn.b9 (b1 Tryz.func20) I I fun H=>?_;refine af 0x6af816702ce059 ?_;refine dV [(6,.int .i64 ((0):Int)),(5,(.slice none 0 0)),(0,_),(1,_)] ?_;refine bp ?_;refine' aK.bK (fun(b8:Nat×(List Value)×Value×aJ×ai)=>match b8 with|(i,cs,ov,aS,cv)=>⟨[(6,.int .i64 (i:Int)),(5,ov)],aS,cv,i<=ps.length/\J.le cv/\et 3 (fun _=>mn cv) cs ((ps.map fun p:Nat=>a4 (p:Int) d).take i)/\Acc 50 3 ov i cs aS,ps.length -i⟩) ⟨0,[],.slice none 0 0,[],J⟩ ?hs ?bn
 case hs=>exact⟨c6 _,ai.le.refl _,⟨I,fun i x h=>(by cases h)⟩,.nil⟩
 case bn=>
  rintro⟨i,cs,ov,aS,cv⟩ hinv;try simp only at hinv
  obtain⟨hi,cr,fj,c1⟩:=hinv;refine af 0x5f0428439 ?_;refine If (fun dt=>?_) fun dt=>?_
  ·obtain⟨a,off,cells,bA,rfl,l7,jJ⟩:=eg aa;obtain⟨p,sX,lp⟩:=jJ i aa;have lp:nth cells (off+((i:Int)).toNat*1)=some (.int .i64 (p:Int)):=lp;have l7:=cr _ _ l7;have oc:=ap p (dq sX);refine af 0x52608439d5f57 ?_;refine cl (G:=axB (n:=p) (d:=d) aa aa h6) (h:=?_);rintro v' m' bj hle ⟨a8,rfl,dH,eP,rfl,bC⟩;have cS:=bC;obtain⟨ev,dJ,rfl,hS⟩:=bC.n.ch;obtain⟨gH,eY,rfl,mI⟩:=bC.d.ch;obtain⟨e2,Fe⟩:∃n,n=(aq (a4 (p:Int) d).z.natAbs).length:=⟨_,I⟩;obtain⟨k3,are⟩:∃n,n=(aq (a4 (p:Int) d).d).length:=⟨_,I⟩;rw[<-Fe,<-are] at cS ⊢;refine jG fun Qt=>?_;refine' W.step I (.of (uD I I I I I I (ee I) (az2 Q g0) (fun i q=>by cases q) ?c1 ?hm ?U ?cH ?c7 ?aj fun ahy adT apC aEE=>?_));case c1=>exact c1
   case hm=>exact(wm _ aS).symm
   case U=>exact lR
   case cH=>rfl
   case c7=>rfl
   case aj=>exact(show i+1<=1000000 by omega)
   refine af 0x302 ?_;have bn:i+1<=ps.length/\J.le bj/\et 3 (fun _=>mn bj) (cs++jc (a4 (p:Int) d) (.slice ev e2 dJ) (.slice gH k3 eY)) ((ps.map fun p:Nat=>a4 (p:Int) d).take (i+1))/\Acc 50 3 ahy (i+1) (cs++jc (a4 (p:Int) d) (.slice ev e2 dJ) (.slice gH k3 eY)) adT:=⟨aa,cr.trans a8,by
        rw[ly,h',sX];exact(fj.mono fun _ _ _ q=>q.mono a8).app ⟨_,_,I,cS⟩ I,apC⟩
   refine af 0x1810c39 ?_;refine eS ⟨i+1,cs++jc (a4 (p:Int) d) (.slice ev e2 dJ) (.slice gH k3 eY),ahy,adT,bj⟩ ?_ (hm:=oB _ _);exact bn
  ·obtain rfl:i=ps.length:=aa
   refine Acc.k7 c1 (.of_eq (gC aS).symm) fun c3 bN au=>?_;rw[show(ps.map fun p:Nat=>a4 (p:Int) d).take ps.length=ps.map fun p:Nat=>a4 (p:Int) d from ft (by rw[e9];exact b2 _)] at fj;obtain⟨iy,gm,rfl,_⟩:=au.inv;refine af 0xd5f020e757 ?_;refine b4 ?_;refine⟨cr.trans bN,I,iy,gm,I,cs,?_,fun j x U=>(fj.2 j x U).mono bN⟩;rw[e9];exact au
def avt{ps:List Nat}{d n:Nat}{b:Option Addr}{c:Nat}(aA:ps.length=n)(h:dZ .i64 J (.slice b n c) ps)(h6:0<d)(av:d<=1000)(ap:∀p∈ps,p<=1000)(aj:ps.length<=1000):
 Fn (aU Q g0) 20 [.int .i64 (d:Int),.slice b n c] [] J (fun u m' ah=>J.le ah/\m'=[]/\∃b' c',u=.slice b' n c'/\dz ah 50 3 (mn ah) (.slice b' n c') (ps.map fun p:Nat=>a4 (p:Int) d)):=by
 subst aA;exact avs h h6 av ap aj
def ax0{ad:Nat}{cV:Option Addr}{kl:Nat}{l:List Int}{a n:Nat}(aj:gl J (.slice cV l.length kl) l)(gY:l.length<=9223372036854775807)(aI:a<=l.length)(aA:1<=n)(hm:n<=10):
 Fn (aU Q g0) 6 [.pointer (some ⟨ad,0,none⟩),.int .i64 (n:Int)] [hq ad cV kl l a] J (fun u m' ah=>J.le ah/\∃(bD:Nat) (ps:List Nat) (b':Option Addr) (c':Nat),bD<=l.length/\m'=[hq ad cV kl l bD]/\ps.length=n/\0<ps.sum/\ps.sum<=11*n/\u=.slice b' n c'/\dz ah 50 3 (mn ah) (.slice b' n c') (ps.map fun p:Nat=>a4 (p:Int) ps.sum)):=by
 refine Fn.b9 (b1 Tryz.func6) I I fun H=>?_;refine af 0x357c0b3816702ce059 ?_;refine dV [(7,.int .i64 ((0):Int)),(6,.int .i64 (([]).sum:Int)),(5,(.slice none 0 0)),(0,_),(1,_)] ?_;refine bp ?_;refine' aK.bK (fun(b8:Nat×(List Nat)×Value×aJ×Nat)=>match b8 with|(i,ps,ov,aS,lB)=>⟨[(7,.int .i64 (i:Int)),(6,.int .i64 (ps.sum:Int)),(5,ov)],aS++[hq ad cV kl l lB],J,i<=n/\ps.length=i/\(∀p∈ps,p<=11)/\lB<=l.length/\dY 3 1 ov i (cc .i64 ps) aS,n -i⟩) ⟨0,[],.slice none 0 0,[],a⟩ ?hs ?bn
 case hs=>exact⟨c6 _,I,fun p ap=>(by cases ap),aI,.inl ⟨.nil,xZ,xA⟩⟩
 case bn=>
  rintro⟨i,ps,ov,aS,lB⟩ hinv;try simp only at hinv
  obtain⟨hi,dX,oc,IU,c1⟩:=hinv;refine af 0x2f820439 ?_;refine If (fun dt=>?_) fun dt=>?_
  ·refine af 0x439d5f57 ?_;refine' W.step I (Exec.call I I I I I I I (a1:=[hq ad cV kl l lB]) (cB:=aS) ia trivial (Vs (n:=12) aj gY IU bI bI) ?_);rintro v' m' ah hle ⟨rfl,ahK,hB,rfl,fl,iS,apx,rfl⟩;obtain⟨x,rfl⟩:∃x:Nat,ahK=(x:Int):=⟨ahK.toNat,aa⟩;refine jG fun Yp=>?_;refine' W.step I (.of (v3 I I I I I I (ee I) (Dp Q g0) (fun i q=>by cases q) ?c1 ?hm ?U ?cH ?c7 ?aW ?aj fun aAI Oj E0=>?_));case c1=>exact c1
   case hm=>exact ia (l₁:=[_,_])
   case U=>exact lR
   case cH=>rfl
   case c7=>rfl
   case aW=>exact Nat.one_pos
   case aj=>exact(show i+1<=1000000 by omega)
   obtain⟨cN,full,rest,rfl,rfl,jd,E4⟩:=E0.row (Nat.succ_pos i);have oP:cc .i64 ps++[.int .i64 (x:Int)]=cc .i64 (ps++[x]):=(zn (b:=[x])).symm;rw[oP] at jd E0;have Uk:=ags oc;have ard:nth full (0+((i:Int)).toNat*1)=some (.int .i64 (x:Int)):=by
    rw[Vx (i:=0+((i:Int)).toNat*1) jd aa];exact uo (i:=i) (by rw[rf aa,dX,pL];rfl) aa
   refine af 0x6043518210e702 ?_;rw[show(ps.sum:Int)+(x:Int)=((ps++[x]).sum:Int) by rw[azi];omega];have bn:i+1<=n/\(ps++[x]).length=i+1/\(∀p∈ps++[x],p<=11)/\hB<=l.length/\dY 3 1 (.slice (some ⟨cN,0,none⟩) (i+1) cK) (i+1) (cc .i64 (ps++[x])) [(cN,.opn full 3 rest 0)]:=⟨aa,by rw[dv,dX];rfl,fun p ap=>by
        rcases mm.1 ap with q|q
        ·exact oc p q
        ·rw[Bu.1 q];omega,apx,E0⟩
   refine af 0x1810c39 ?_;refine eS ⟨i+1,ps++[x],.slice (some ⟨cN,0,none⟩) (i+1) cK,[(cN,.opn full 3 rest 0)],hB⟩ ?_ (hm:=.cons_cons _ (.cons _ (.refl _)));exact bn
  ·obtain rfl:i=n:=aa
   have Uk:=ags oc;obtain⟨cN,full,rest,rfl,rfl,jd,E4⟩:=c1.row aA;refine af 0x3040e757 ?_;refine fc [6,25,5] ?_;refine bp ?_;refine' aK.pP 2 (fun(b8:(List Nat)×(List Value)×(List Nat))=>match b8 with|(dd,R7,O8)=>⟨[(6,.int .i64 (dd.sum:Int))],(cN,.opn R7 3 O8 0)::[hq ad cV kl l lB],J,dd.length=i/\0<dd.sum/\dd.sum<=11*i/\(∀p∈dd,p<=1000)/\dY 3 1 (.slice (some ⟨cN,0,none⟩) i cK) i (cc .i64 dd) [(cN,.opn R7 3 O8 0)]⟩) ?Rf ?RC
   case Rf=>
    refine If (fun uY=>?_) fun uY=>?_
    ·have aQ:ps.sum=0:=aa
     have aF:(ps.set 0 1).sum=1:=by
        cases ps with
        |nil=>rw[<-dX] at aA;cases aA
        |cons z gA=>
         rw[lg] at aQ;show(1::gA).sum=1;rw[lg];omega
     have rP:(ps.set 0 1).length=i/\0<(ps.set 0 1).sum/\(ps.set 0 1).sum<=11*i/\(∀p∈ps.set 0 1,p<=1000)/\dY 3 1 (.slice (some ⟨cN,0,none⟩) i cK) i (cc .i64 (ps.set 0 1)) [(cN,.opn (full.set 0 (.int .i64 1)) 3 [] 0)]:=by
        refine⟨by rw[hy];exact dX,aa,aa,fun p ap=>?_,dY.aw8 jd E4 dX⟩;have:=xx ap;omega
     refine af 0x1839 ?_;refine' W.step I (.of (GA I I I I (o6 I) I I I ?ae ?hs ?aR ?ap ?_));case ap=>exact .refl _
     case hs=>exact agf aa
     case ae=>rfl
     case aR=>exact c6 _
     refine af 0x302 ?_;refine iQ ⟨ps.set 0 1,full.set 0 (.int .i64 1),[]⟩ ?_;try dsimp only
     exact rP
    ·refine lu ?_;refine iQ ⟨ps,full,rest⟩ ?_;try dsimp only
     exact⟨dX,aa,aa,fun p ap=>by have:=oc p ap;omega,c1⟩
   case RC=>
    rintro⟨dd,R7,O8⟩ hinv;try simp only at hinv
    obtain⟨acj,Cu,jU,qN,arF⟩:=hinv;refine dY.k7 (e1:=[hq ad cV kl l lB]) arF (.refl _) fun e3 cQ au=>?_;have T6:dZ .i64 e3 (.slice (some ⟨cN,0,none⟩) i cK) dd:=au.num;refine af 0x439 ?_;refine cl (G:=avt acj T6 Cu aa qN aa) (h:=?_);rintro v' m' lx hle ⟨fa,rfl,iy,gm,rfl,gW⟩;refine af 0xd5f02 ?_;refine iw ?_;exact⟨cQ.trans fa,lB,dd,iy,gm,IU,I,acj,Cu,jU,I,gW⟩
def aeT{α:Type}{l a b x y z:α}{aS:List α}:(l::b::(aS++[x,y,z,a])).Perm (aS++[a,l,b,x,y,z]):=by
 have ae:(aS++[a,l,b,x,y,z]).Perm ([l,b,x,y,z,a]++aS):=(ia).trans (aik aS (ia (l₁:=[a]) (l₂:=[l,b,x,y,z])));have ag:([l,b]++(aS++[x,y,z,a])).Perm ([l,b]++([x,y,z,a]++aS)):=zT _ ia;exact ag.trans ae.symm
def axO{ts:List (List Int)}{bits:Int}{b:Option Addr}{c:Nat}{aV:TypeId}(cq:J 2=some (cc .u8 m8,aV))(aB:Nat.blt 2 (aU Q g0).g0=true)(h:dz J 22 1 (e8 (zS J)) (.slice b ts.length c) ts)(gY:ts.length<9223372036854775807)(qQ:∀l∈ts,l.length<9223372036854775807):
 Fn (aU Q g0) 9 [.agg #[.int .i64 bits,.slice b ts.length c]] [] J (aiS J (nG bits ts) (Kx bits ts)):=by
 have aH:addrEq b b=true:=h.addr;have eg:=h.eg;have ap0:=agF (Q:=Q) (g0:=g0) (bits:=bits) h gY qQ;refine Fn.OD (b1 Tryz.func9) I I fun H=>?_;refine rg ?_;refine fq fun ba=>?_;refine eu fun br=>?_;refine eu fun bG=>?_;refine af 0x3338 ?_;refine cl (G:=ap0) (h:=?_);rintro v' m' ah hle ⟨rfl,rfl,rfl⟩;refine af 0x5f040e702 ?_;refine If (fun gh=>?_) fun gh=>?_
 ·have dL:Kx bits ts=[]:=aG gh;refine af 0x6af8e7039 ?_;refine'⟨.inr I,_,_,[],(by exact .nil _),.cell I (by repeat first|exact .head _|refine .tail _ ?_|refine j7 _ ?_) (g8 (fJ I) I) (.cell I (by repeat first|exact .head _|refine j7 _ ?_) (g8 (fJ I) I) (.nil)),kt _,?_⟩
  exact⟨ai.le.refl _,I,none,0,by rw[dL];rfl,by rw[dL];exact auF⟩
 ·have aQ:nG bits ts=0:=ox fun q=>gh q;obtain⟨eH,eQ,ml⟩:=agB aQ;have dL:Kx bits ts=ts.map (mi (2 ^ bits.toNat)):=aP aQ;obtain⟨k,M,hk,Cn,IR,ih,yH,yG⟩:=bits_nat eH;subst hk;rw[ff,<-IR] at dL ml;refine JP ?_;refine eu fun cN=>?_;refine af 0x4b738 ?_;refine cl (G:=afM aH) (h:=?_);rintro v' m' bj hle ⟨Hh,rfl,rfl,rfl⟩;refine af 0xbeaf8 ?_;refine aK.V9 I I (fun ja bK r ar=>?_);refine⟨(Hh,_)::[(bK,_),(cN,_),(bG,_),(br,_),(ba,_)],[(ja,_)],_,_,(hR 2 I (hR 0 I (hR 1 I (hR 1 I (hR 1 I (hR 1 I (hR 0 I .nil))))))),trivial,afL (fX:=fun _ _ _=>False) (pM:=fun i=>Qh (MF ar) bK (fun m ah=>∃w aS d,m=(cN,.row [w] 33)::(aS++[(bG,.row [.int .i64 0] 41),(br,.row [.slice none 0 0] 33),(ba,.row [.int .i64 (k:Int),.slice b ts.length c] 40)])/\dY 34 1 w i d aS/\et 1 (fun _=>e8 (qw ah)) d ((ts.take i).map (mi M)))) (wB:=fun _ _=>False) gY eg ⟨_,_,ar,I,_,[],[],I,.inl ⟨.nil,xZ,xA⟩,⟨I,fun i x U=>by cases U⟩⟩ ?kD,(fun _ _ _ _ q=>q.2.elim),?pV⟩;case kD=>
   rintro i v m cv hi ⟨t,aM,bi⟩ cr ⟨dc,uh,pS,rfl,w,aS,d,rfl,nS,fj⟩;have bi:gl J v t:=bi;obtain⟨bc,bb,rfl,vh,IQ⟩:=bi.inv;have aN:addrEq bc bc=true:=bi.addr;obtain⟨iz,kc,oV,Jr⟩:=A8 (ml t (dq aM));obtain⟨oH,F8,Es,EC,rfl,n9,pY⟩:=bi.vQ aa;have n9:=cr _ _ n9;have aa7:=cr _ _ cq;have oQ:t.length<cK:=jg kc bI;refine uU.VC pS (by repeat first|exact .head _|refine j7 _ ?_) I I (fun H=>?_);refine af 0x6059 ?_;refine⟨I,_,(by repeat first|exact .head _ _ _ _|apply fY.app),?_⟩;refine af 0x50e757 ?_;refine' W.step I (.of (ti I I I I I (ee I) ?aQ ?ae ?ag fun z4=>?_));case aQ=>exact cJ
   case ae=>exact cJ
   case ag=>exact cJ
   refine af 0x302 ?_;rw[ff];refine af 0x6af809439 ?_;refine dV [(26,.int .i64 ((0):Int)),(1,_),(2,_),(3,_),(5,_),(7,_),(24,_),(25,_)] ?_;refine bp ?_;refine' aK.bK (fun(b8:Nat×(List Value)×ai)=>match b8 with|(j,d5,hU)=>⟨[(26,.int .i64 (j:Int))],(z4,.row (d5++fp [.bool false,.slice none 0 0,.slice none 0 0] (t.length -j)) 50)::(bK,.loop {dc with state:=.busy})::(cN,.row [w] 33)::(aS++[(bG,.row [.int .i64 0] 41),(br,.row [.slice none 0 0] 33),(ba,.row [.int .i64 (k:Int),.slice b ts.length c] 40)]),hU,j<=t.length/\cv.le hU/\et 3 (fun _=>n3 hU) d5 (mi M (t.take j)),t.length -j⟩) ⟨0,[],cv⟩ ?hs ?bn
   case hs=>exact⟨c6 _,ai.le.refl _,⟨I,fun i x U=>by cases U⟩⟩
   case bn=>
    rintro⟨j,d5,hU⟩ hinv;try simp only at hinv
    obtain⟨aW,h5,I3⟩:=hinv;refine af 0xbe099 ?_;refine If (fun ll=>?_) fun ll=>?_
    ·obtain⟨x,U,vt⟩:=pY j aa;obtain⟨fl,iS⟩:=oV x (dq U);obtain⟨s,rfl⟩:∃s:Nat,x=(s:Int):=⟨x.toNat,aa⟩;have aDi:=h5 _ _ n9;have rE:d5.length=j*3:=by rw[I3.1,A7,eL,gv aa]
     refine af 0xa25a1ce04249839d5f57 ?_;rw[ih];refine cl (G:=avq (h5 _ _ aa7) aB (n:=s) (d:=M) aa aa yG) (h:=?_);rintro v' m' bj hle ⟨a8,rfl,dH,eP,rfl,bC⟩;obtain⟨I5,SO⟩:=afT bC yG yH aa;rw[I5];have apm:=SO;obtain⟨ev,dJ,rfl⟩:=SO.n.form;obtain⟨gH,eY,rfl⟩:=SO.d.form;refine af 0x1ce1 ?_;refine eu fun rl=>?_;refine af 0xbe081ce05c ?_;refine If (fun u0=>?_) fun u0=>?_
     ·
       exfalso;exact u0 I
     ·
       refine af 0x19810e757 ?_;refine' n4 ?hs ?_;case hs=>exact(by rw[show t.length -j=(t.length -(j+1))+1 by omega,v5];exact KB (by rw[rE];omega) I)
       refine nh ?_;have aqk:et 3 (fun _=>n3 bj) (d5++[.bool false,.slice ev (mK s M).num.length dJ,.slice gH (mK s M).den.length eY]) (mi M (t.take (j+1))):=by
        rw[axW U,ff];exact(I3.mono fun _ _ _ q=>q.mono a8).app ⟨_,_,I,apm⟩ I
       rw[<-j6];refine af 0xc0479 ?_;refine eS ⟨j+1,d5++[.bool false,.slice ev (mK s M).num.length dJ,.slice gH (mK s M).den.length eY],bj⟩ ?_ (hm:=.cons _ (.refl _));exact⟨aa,h5.trans a8,aqk⟩
    ·refine af 0x357 ?_;obtain rfl:j=t.length:=aa
     rw[ft (b2 _)] at I3;have tH:d5.length=t.length*3:=by rw[I3.1,A7]
     refine aK.nZ (m':=(z4,.row d5 50)::(bK,.loop {dc with state:=.busy})::(cN,.row [w] 33)::(aS++[(bG,.row [.int .i64 0] 41),(br,.row [.slice none 0 0] 33),(ba,.row [.int .i64 (k:Int),.slice b ts.length c] 40)])) (by show List.Perm _ ((z4,df.row (d5++fp [.bool false,.slice none 0 0,.slice none 0 0] (t.length -t.length)) 50)::_);rw[pL,Bo,gC]) ?_;refine aK.k8 I fun abU=>?_;have mb:qw (hU.add z4 (d5,50)) (mi M t) (.slice (some ⟨z4,0,none⟩) t.length t.length):=⟨_,_,by rw[A7],by rw[A7];exact⟨⟨d5,by rw[A7];exact fg.row (ai.lC _ _ _) (by rw[iD,ft aa]) tH (fun _=>⟨b2 _,oQ⟩) (fun _=>rfl),fun i x U=>(I3.2 i x U).mono abU⟩⟩⟩;have sO:et 1 (fun _=>e8 (qw (hU.add z4 (d5,50)))) (d++[.slice (some ⟨z4,0,none⟩) t.length t.length]) ((ts.take (i+1)).map (mi M)):=by
      rw[ly,aM,zW];exact(fj.mono fun _ _ _ ⟨v,aN,aH⟩=>⟨v,aN,aH.mono (h5.trans abU)⟩).app ⟨_,I,mb⟩ I
     refine af 0x539 ?_;refine jG fun ai7=>?_;refine' W.step I (.of (v3 I I I I I I (ee I) (Px Q g0) (fun i q=>by cases q) ?c1 ?hm ?U ?cH ?c7 ?aW ?aj fun aGe Vd abl=>?_));case c1=>exact nS
     case hm=>exact(Ls [_,_,_] aS [_,_,_])
     case U=>exact lR
     case cH=>rfl
     case c7=>rfl
     case aW=>exact Nat.one_pos
     case aj=>exact(show i+1<=1000000 by omega)
     obtain⟨gH,eY,rfl⟩:=abl.tD;refine W.nZ (m':=(bK,.loop {dc with state:=.busy})::(cN,.row [w] 33)::(Vd++[(bG,.row [.int .i64 0] 41),(br,.row [.slice none 0 0] 33),(ba,.row [.int .i64 (k:Int),.slice b ts.length c] 40),(ai7,.row [.slice (some ⟨z4,0,none⟩) t.length t.length] 34)])) aeT ?_;refine af 0x31c ?_;refine .inl ⟨none,_,_,(bK,_)::(cN,_)::(Vd++[_,_,_]),I,(by repeat first|exact .head _ _ _ _|apply fY.app),(.cons_cons _ (.cons_cons _ (Ll (oB [_,_,_] [_]) _))),?_⟩;exact⟨true,I,(fun _=>⟨_,_,pS.again,I,_,Vd,_,I,abl,sO⟩),fun q=>by cases q⟩
  rintro v m' bj a8 ⟨_,⟨c9,uh,nn,rfl,w,aS,d,rfl,nS,fj⟩|au⟩;case inr=>exact au.elim
  rw[ft (b2 _)] at fj;refine⟨c9,(bK,_)::(cN,_)::(aS++[_,_,_,(ja,_)]),(by rw[Lm,Lm,j6];exact .head _ _ _ _),(EL nn).1,?_⟩;rw[(EL nn).2];obtain⟨iy,gm,rfl⟩:=nS.tD;refine nS.k7 (e1:=[(ja,_),(bK,_),(cN,_),(bG,_),(br,_),(ba,_)]) aeT (fun e3 cQ au=>?_);have eO:pb e3 iy ts.length gm (ts.map (mi M)):=⟨⟨d,by rw[e9];exact au,fun i x U=>by obtain⟨v,aX,aT⟩:=fj.2 i x U;exact⟨v,aX,aT.mono cQ⟩⟩⟩;refine af 0x6af8e7139 ?_;refine'⟨.inr I,_,_,[],(by exact .Er (hR 0 I (hR 0 I (hR 0 I (hR 0 I (hR 0 I (hR 0 I .nil)))))) (.nil _)),.cell I (by repeat first|exact .head _|refine .tail _ ?_|refine j7 _ ?_) (g8 (fJ I) I) (.cell I (by repeat first|exact .head _|refine .tail _ ?_|refine j7 _ ?_) (g8 (fJ I) I) (.nil)),kt _,?_⟩
  exact⟨a8.trans cQ,I,iy,gm,by rw[dL,aQ,e9];rfl,by rw[dL,e9];exact eO⟩
def fg.inj{J:ai}{e bA:TypeId}{sz n kM:Nat}{v:Value}{cs cT:List Value}(ae:fg J e sz v n cs)(ag:fg J bA sz v kM cT):n=kM/\cs=cT:=by
 obtain⟨b,c,rfl,aX,aT,bd⟩:=ae.inv;obtain⟨b',c',az,cz,cX,lO⟩:=ag.inv;injection az with aN aH bo
 subst aN;subst aH;subst bo;refine⟨I,?_⟩;rcases oC n with z|z
 ·rw[mQ (l:=cs) (by rw[aX,z,nM]),mQ (l:=cT) (by rw[cz,z,nM])]
 ·obtain⟨a,off,cells,aF,ak,cm,fz⟩:=bd z;obtain⟨bD,gM,cells',aV,yK,o0,vE⟩:=lO z;rw[ak] at yK;injection yK with yK
  injection yK with aN aH bo
  subst aN;subst aH;rw[cm] at o0;injection o0 with o0
  injection o0 with o0
  subst o0;apply pK
  intro k;by_cases hk:k<n*sz
  ·rw[<-fz k hk,<-vE k hk]
  ·rw[jq aa,jq aa]
def dz.inj{α:Type}{J:ai}{e:TypeId}{sz:Nat}{v:Value}{R:α->List Value->Prop}{xs ys:List α}(dU:∀x y cs,R x cs->R y cs->x=y)(ae:dz J e sz R v xs)(ag:dz J e sz R v ys):xs=ys:=by
 obtain⟨cs,aX,aT⟩:=ae;obtain⟨cT,cz,cX⟩:=ag;obtain⟨aj,rfl⟩:=aX.inj cz;apply pK
 intro i;by_cases hi:i<xs.length
 ·rw[cU hi,cU aa];exact dh some (dU _ _ _ (aT i _ (cU hi)) (cX i _ (cU aa)))
 ·rw[jq aa,jq aa]
def ei.inj{J:ai}{v:Value}{x y:Nat}(ae:ei J v x)(ag:ei J v y):x=y:=by
 obtain⟨e,aX⟩:=ae;obtain⟨bA,aT⟩:=ag;apply atE
 have h:=(aX.inj aT).2;have aj:=(aX.inj aT).1;apply pK
 intro i;by_cases hi:i<(aq x).length
 ·have aE:=dh (fun l=>l[i]?) h;have ba:=Kc (k:=.u32) (cU hi);have br:=Kc (k:=.u32) (cU (l:=aq y) (i:=i) aa);have aE:(cc .u32 (aq x))[i]?=(cc .u32 (aq y))[i]?:=aE;rw[ba,br] at aE;rw[cU hi,cU aa];injection aE with aE
  injection aE with _ aE
  exact dh some (Int.ofNat.inj aE)
 ·rw[jq aa,jq aa]
def mn.inj{J:ai}(x y:a2)(cs:List Value)(ae:mn J x cs)(ag:mn J y cs):x=y:=by
 obtain⟨v1,v2,rfl,aX⟩:=ae;obtain⟨bE,ct,h,aT⟩:=ag;injection h with aN h
 injection h with aH h
 injection h with bo _
 subst aH;subst bo;injection aN with aN
 have aN:(x.z<0)↔(y.z<0):=by
  have:=dh (fun b=>b=true) aN;simpa using this
 exact ax'.2 ⟨aN,aX.n.inj aT.n,aX.d.inj aT.d⟩
def ax4{J:ai}{v:Value}{m cX:List (List a2)}(ae:dz J 34 1 (e8 (Hf J)) v m)(ag:dz J 34 1 (e8 (Hf J)) v cX):m=cX:=by
 refine dz.inj (fun x y cs aX aT=>?_) ae ag;obtain⟨u,rfl,b,c,rfl,bd⟩:=aX;obtain⟨je,h,b',c',rfl,cm⟩:=aT;injection h with h
 rw[<-h] at cm;exact dz.inj mn.inj bd cm
def Fn.Dj{K:dW}{f:FuncId}{oH:List Value}{m:aJ}{J:ai}{bq fe:Value->aJ->ai->Prop}(h:Fn K f oH m J bq)(b3:∀u m' ah,bq u m' ah->fe u m' ah):Fn K f oH m J fe:=fun H aD=>by
 obtain⟨v,H',ah,m',ae,ag,aE⟩:=h H aD;exact⟨v,H',ah,m',ae,ag,b3 _ _ _ aE⟩
def axo{g:cM}{m:List (List bO)}{k n:Nat}{b:Option Addr}{c:Nat}{aV:TypeId}(cq:J 2=some (cc .u8 m8,aV))(aB:Nat.blt 2 (aU Q g0).g0=true)(ay:kS g)(hm:oE g m g.is.length)(aA:m.length=n)(h:pb J b n c m)(mV:1<=k)(Cn:k<=30):
 Fn (aU Q g0) 7 [.slice b n c,.int .i64 (k:Int)] [] J (fun u m' ah=>J.le ah/\∃b c,u=.tuple #[.agg #[.int .i64 (k:Int),.slice b n c],.int .i64 0]/\lX pJ ah 22 (.slice b n c) (m.map (qa k)) m'):=by
 subst aA;have ae:=ay.i2;have ag:=hm.l;refine axp cq aB h aa (fun l aj=>?_) (fun l aj=>?_) (hm.tb ay) mV Cn
 ·obtain⟨_,_,_,_,_,q,_⟩:=hm.all l aj;have:=(tc q.eN).2.1;omega
 ·obtain⟨_,_,_,_,_,_,q,_⟩:=hm.all l aj;exact q
def axN{g:cM}{m:List (List bO)}{ts:List (List Int)}{k n:Nat}{b:Option Addr}{c:Nat}{aV:TypeId}(cq:J 2=some (cc .u8 m8,aV))(aB:Nat.blt 2 (aU Q g0).g0=true)(ay:kS g)(hm:oE g m g.is.length)(aM:qy m ts (2 ^ k))(mV:1<=k)(Cn:k<=30)(aA:ts.length=n)(h:dz J 22 1 (e8 (zS J)) (.slice b n c) ts):
 Fn (aU Q g0) 9 [.agg #[.int .i64 (k:Int),.slice b n c]] [] J (fun u m' ah=>J.le ah/\m'=[]/\∃b c,u=.tuple #[.slice b n c,.int .i64 0]/\pb ah b n c (ts.map (mi (2 ^ k)))):=by
 subst aA;obtain⟨ae,ag⟩:=aM.WI ay hm mV Cn;have aE:=ay.i2;have a6:=hm.l;have dK:=aM.l;have key:=axO (Q:=Q) (g0:=g0) (bits:=(k:Int)) cq aB h aa (fun l aj=>by have:=(A8 (ag l aj)).2.1;omega);have e:Kx (k:Int) ts=ts.map (mi (2 ^ k)):=by unfold Kx;rw[aP ae,ff]
 rw[ae,e] at key;have Nl:(ts.map (mi (2 ^ k))).length=ts.length:=e9 _;exact Fn.Dj key fun u m' ah ⟨aN,aH,b',c',bo,db⟩=>⟨aN,aH,b',c',by rw[bo,Nl],by rw[Nl] at db;exact db⟩
def atW{g:cM}{pl:Int}{m:List (List bO)}{ts:List (List Int)}{k n:Nat}{cO cy b b':Option Addr}{bu ci c c':Nat}{aV:TypeId}(cq:J 2=some (cc .u8 m8,aV))(tJ:Nat.blt 2 (aU Q g0).g0=true)(aB:r' J g cO bu cy ci)(mz:iG g=0)(cH:g.ns.length<=60)(aQ:0<=pl)(ae:pl<g.pl)(pU:oE g m g.is.length)(aM:qy m ts (2 ^ k))(mV:1<=k)(aqU:k<=6)
 (aA:m.length=n)(kc:ts.length=n)(hm:pb J b n c m)(acv:dz J 22 1 (e8 (zS J)) (.slice b' n c') ts):
 Fn (aU Q g0) 10 [Ao g cO bu cy ci,.int .i64 pl,.slice b n c,.agg #[.int .i64 (k:Int),.slice b' n c']] [] J (fun u m' ah=>J.le ah/\m'=[]/\∃v1 v2,u=.tuple #[di (kL g pl m ts (k:Int)) v1 v2,.int .i64 0]/\hz ah (kL g pl m ts (k:Int)) v1 v2):=by
 subst aA;have ay:=EK mz;obtain⟨aF,aV,cj,eT⟩:=U4 mz cH aQ ae pU aM mV aqU;obtain⟨_,ag⟩:=aM.WI ay pU mV aa;have aE:=ay.i2;have a6:=pU.l;have key:=atX (Q:=Q) (g0:=g0) (pl:=pl) (bits:=(k:Int)) (m:=m) (ts:=ts) cq tJ aB hm aa (fun l aj=>by
  obtain⟨_,_,_,_,_,q,_⟩:=pU.all l aj;have:=(tc q.eN).2.1;omega) (fun l aj=>by
  obtain⟨_,_,_,_,_,_,q,_⟩:=pU.all l aj;exact q) (by rw[ff];exact cj) (by rw[kc];exact acv) aa (fun l aj=>by have:=(A8 (ag l aj)).2.1;omega) (fun _=>cH)
 rw[kc] at key;refine Fn.Dj key fun u m' ah ⟨aN,aH,bo⟩=>⟨aN,aH,?_⟩;rcases bo with⟨bo,_⟩|⟨_,db⟩
 ·exact absurd aF bo
 ·exact db
def atJ{y:List bO}{n:Nat}{b:Option Addr}{c:Nat}(aA:y.length=n)(h:dz J 50 3 (n3 J) (.slice b n c) y)(an:sl y):Fn (aU Q g0) 12 [.slice b n c] [] J (fun u m' ah=>J.le ah/\m'=[]/\u=.int .i64 0):=by
 subst aA;obtain⟨gj,g2,iB,o8⟩:=tc an.eN;have ag:=h.Ge iB;rw[Gf iB] at ag;have aj:(y.map bO.rt).length=y.length:=e9 _;have key:=atK (Q:=Q) (g0:=g0) (J:=J) (l:=y.map bO.rt) (b:=b) (c:=c) (by rw[aj];exact ag) aa an.YZ;rw[aj] at key;exact key
def adE{g:cM}{pl:Int}{m:List (List bO)}{n:Nat}{cO cy b:Option Addr}{bu ci c:Nat}{cP:Nat->Nat}(ay:kS g)(aB:r' J g cO bu cy ci)(mA:0<=pl)(mX:pl<g.pl)(cH:g.ns.length<=60)(oR:wc g.ns 0 g.ns.length cP)(hm:uN g m)(aA:m.length=n)(h:pb J b n c m):
 Fn (aU Q g0) 15 [Ao g cO bu cy ci,.int .i64 pl,.slice b n c] [] J (fun u m' ah=>J.le ah/\m'=[]/\∃e4:List a2,rk g pl (m.map fun l=>l.map bO.rt) cP 0 e4/\∃v1 v2,u=di (atR e4 0) v1 v2/\hz ah (atR e4 0) v1 v2):=by
 subst aA;have aj:(m.map fun l=>l.map bO.rt).length=m.length:=e9 _;have key:=aui (Q:=Q) (g0:=g0) (J:=J) (pl:=pl) (m:=m.map fun l=>l.map bO.rt) (b:=b) (c:=c) ay aB mA mX cH oR (by rw[aj];exact Vg h fun l aj=>(tc (hm.all l aj).eN).2.2.1) (by rw[aj];exact hm.l) hm.len hm.QX;rw[aj] at key;exact key
def qi(t:List Int)(q:Nat):List Int:=List.replicate q 0++t.drop q
def ahT{t:List Int}{q:Nat}(h:q<=t.length):(qi t q).length=t.length:=by
 unfold qi;rw[dv,kU,jO];omega
def ahU{t:List Int}{q:Nat}(h:q<t.length):(qi t q).set q 0=qi t (q+1):=by
 unfold qi;rw[GZ _ _ (by rw[kU];omega),kU,pL,tn h,G0,List.replicate_succ',j6];rfl
def aBp{t:List Int}:qi t t.length=List.replicate t.length 0:=by
 unfold qi;rw[to (b2 _),gC]
def ayn{α:Type}{l:List α}{i:Nat}{x:α}(h:l[i]?=some x):l.set i x=l:=by
 apply pK
 intro j;rw[qp];split
 ·rename_i q;subst q
  rw[aP (dO.1 h).1,h]
 ·rfl
def af5{α:Type}{l:List α}{i:Nat}{x:α}(h:i<l.length):(l.set i x)[i]?=some x:=GW h
def awF{α:Type}{x a b:α}{bs:List α}:(x::a::b::bs).Perm (a::(bs++[x,b])):=
 (List.Perm.swap a x _).trans (List.Perm.cons a (ia (l₁:=[x,b])))
def Ym(g:cM)(pl:Int)(m2:List (List a2))(cP:Nat->Nat)(J:ai):Value->aJ->ai->Prop:=fun u m' ah=>J.le ah/\m'=[]/\∃e4:List a2,rk g pl m2 cP 0 e4/\∃v1 v2,u=di (atR e4 0) v1 v2/\hz ah (atR e4 0) v1 v2
def auj{g:cM}{pl:Int}{m cX:List (List a2)}{cP:Nat->Nat}{J qo:ai}(hle:qo.le J)(eU:m=cX){a1:aJ}(hm:a1=[]):a1=[]/\qo.le J/\∀v m' bj c3,Ym g pl m cP qo v m' bj->bj.le c3->J.le c3->Ym g pl cX cP J v m' c3:=
 ⟨hm,hle,fun v m' bj c3 ⟨_,ag,e4,aE,v1,v2,a6,dK⟩ ga mx=>⟨mx,ag,e4,by subst eU;exact aE,v1,v2,a6,dK.mono ga⟩⟩
def ajD{x y dy lW:Value}{b b':Option Addr}{n kM c c':Nat}(h:[x,y,.slice b n c]=[dy,lW,.slice b' kM c']):b=b'/\c=c':=by
 injection h with _ h
 injection h with _ h
 injection h with h _
 injection h with ae _ ag
 exact⟨ae,ag⟩
def hz.neg{J:ai}{r:a2}{v1 v2:Value}(h:hz J r v1 v2):hz J ⟨-r.z,r.d⟩ v1 v2:=⟨by show ei J v1 (-r.z).natAbs;rw[zQ];exact h.n,h.d⟩
def hz.abs{J:ai}{r:a2}{v1 v2:Value}(h:hz J r v1 v2):hz J ⟨(r.z.natAbs:Int),r.d⟩ v1 v2:=⟨by show ei J v1 ((r.z.natAbs:Int)).natAbs;rw[gR];exact h.n,h.d⟩
def jo.neg{k:Nat}{r:a2}(h:jo k r):jo k ⟨-r.z,r.d⟩:=⟨⟨h.bu.1,by show Nat.Coprime (-r.z).natAbs _;rw[zQ];exact h.bu.2⟩,by show(aq (-r.z).natAbs).length<=k;rw[zQ];exact h.n,h.d⟩
def jo.abs{k:Nat}{r:a2}(h:jo k r):jo k ⟨(r.z.natAbs:Int),r.d⟩:=⟨⟨h.bu.1,by show Nat.Coprime ((r.z.natAbs:Int)).natAbs _;rw[gR];exact h.bu.2⟩,by show(aq ((r.z.natAbs:Int)).natAbs).length<=k;rw[gR];exact h.n,h.d⟩
def rk.top{g:cM}{pl:Int}{m2:List (List a2)}{cP:Nat->Nat}{e4:List a2}(ay:kS g)(aA:g.ns.length<=60)(oR:wc g.ns 0 g.ns.length cP)(h:rk g pl m2 cP 0 e4):jo 960 (atR e4 0):=by
 have ae:=ay.bH;have ag:=oR.b 0 (b2 _) aa;exact(h.w 0 _ (b2 _) (cU aa)).2.mono aa
def atv{l mD:List Int}{cV bm:Option Addr}{kl km:Nat}{eH eQ ml:Int}{e:TypeId}(k1:∀J,Fn (aU Q g0) 18 [] [] J (aiQ (.bool true) J))(cq:J 2=some (cc .u8 m8,e))(tJ:Nat.blt 2 (aU Q g0).g0=true)
 (aj:gl J (.slice cV l.length kl) l)(gY:l.length<=9223372036854775807)(dC:gl J (.slice bm mD.length km) mD)(TJ:mD.length<=9223372036854775807):
 Fn (aU Q g0) 3 [.slice cV l.length kl,.slice bm mD.length km,.int .i64 eH,.int .i64 eQ,.int .i64 ml] [] J (fun v m' ah=>v=.bool true):=by
 have aff:addrEq cV cV=true:=by obtain⟨e,h⟩:=aj;exact h.addr
 have aFx:addrEq bm bm=true:=by obtain⟨e,h⟩:=dC;exact h.addr
 refine Fn.b9 (b1 Tryz.func3) I I fun H=>?_;refine af 0x21ce059 ?_;refine cl (G:=J0 (x:=eH) (n:=3) bI bI) (h:=?_);rintro v' m' ah hle ⟨rfl,rfl,rfl⟩;have mX:=GN eH (show(3:Int)≠0 by decide);have tS:=GM eH (show(0:Int)<3 by decide);refine hA V.n0 ?_;obtain⟨pl,dX⟩:∃pl:Nat,1+eH % 3=(pl:Int):=⟨(1+eH % 3).toNat,aa⟩;rw[dX];refine cl (G:=aom (aS:=25) aj gY aa aa bI bI) (h:=?_);rintro v' m' bj hle ⟨a8,rfl,cO,bu,cy,ci,rfl,aB⟩;obtain⟨mz,Ns,tM⟩:=aoj (aS:=25) (pl:=pl) (l:=l) bI bI aa aa;generalize yD 25 pl l=g at aB mz Ns tM ⊢;have ay:=EK mz;have zw:addrEq cy cy=true:=aB.i.addr;have C9:addrEq cO cO=true:=aB.n.addr;obtain⟨_,Aw⟩:=aB.i.at;have aqE:=ay.dj;have aDS:=ay.m3;have vu:=ay.i2;refine eu fun l1=>?_;refine af 0x100e71c ?_;refine fq fun sn=>?_;refine af 0x12d0e702 ?_;refine cl (G:=J0 (x:=eQ) (n:=g.pl) aqE aa) (h:=?_);rintro v' m' ah hle ⟨rfl,rfl,rfl⟩;have jU:=GN eQ (show g.pl≠0 by omega);have lq:=GM eQ (show 0<g.pl by omega);generalize eQ % g.pl=p at jU lq ⊢;refine hA V.eC ?_;refine cl (G:=J0 (x:=ml) (n:=6) bI bI) (h:=?_);rintro v' m' ah hle ⟨rfl,rfl,rfl⟩;have mV:=GN ml (show(6:Int)≠0 by decide);have nq:=GM ml (show(0:Int)<6 by decide);refine af 0xc0843 ?_;obtain⟨k,hk⟩:∃k:Nat,1+ml % 6=(k:Int):=⟨(1+ml % 6).toNat,aa⟩;rw[hk];refine af 0xd5f02ce059 ?_;refine dV [(14,.int .i64 ((0):Int)),(13,(.slice none 0 0)),(3,_),(4,_),(11,_),(12,_)] ?_;refine bp ?_;refine' aK.bK (fun(b8:Nat×(List (List bO))×Value×(List Value)×aJ×Nat×ai)=>match b8 with|(i,m,w,d,aS,lB,cv)=>⟨[(14,.int .i64 (i:Int)),(13,w)],aS++[hq sn bm km mD lB,(l1,.row (pn g cO bu cy ci) 26)],cv,i<=g.is.length/\bj.le cv/\lB<=mD.length/\dY 34 1 w i d aS/\oE g m i/\et 1 (fun _=>e8 (qw cv)) d m,g.is.length -i⟩) ⟨0,[],.slice none 0 0,[],[],0,bj⟩ ?hs ?bn
 case hs=>exact⟨c6 _,ai.le.refl _,c6 _,.inl ⟨.nil,xZ,xA⟩,⟨I,fun j x l U h=>by cases h⟩,⟨I,fun i x h=>by cases h⟩⟩
 case bn=>
  rintro⟨i,m,w,d,aS,lB,cv⟩ hinv;try simp only at hinv
  obtain⟨hi,cr,IU,nS,pU,fj⟩:=hinv;refine af 0xbe0854b439 ?_;refine If (fun HE=>?_) fun HE=>?_
  ·obtain⟨qA,CT,Zg,ZR,rfl,vg,I7⟩:=Aw aa;obtain⟨x,cs,U,iI,oa,rfl⟩:=I7 i aa aa;rw[ff] at U;have vg:=cr _ _ vg;have acG:=tM x (dq U);obtain⟨n,aA⟩:∃n:Nat,x.2=(n:Int):=⟨x.2.toNat,aa⟩;obtain⟨z',c0,rfl,k'⟩:=nS.kC;refine af 0x6982968439d5f57 ?_;refine' W.step I (Exec.val I I (j1 I I ?ar (g8 (fJ I) ?az)) ?_);case ar=>exact qr
   case az=>exact oa 1 _ bI I
   rw[aA];refine' W.step I (Exec.call I I I I I I I (a1:=[hq sn bm km mD lB]) (cB:=(l1,_)::aS) (ia (l₁:=[_,_])) trivial (ax0 (n:=n) (dC.mono (a8.trans cr)) TJ IU aa aa) ?_);rintro v' m' c3 hle ⟨bN,bD,ps,b',c',EZ,rfl,aci,Nx,aEm,rfl,gW⟩;refine jG fun aBR=>?_;refine' W.step I (.of (v3 I I I I I I (ee I) (Px Q g0) (fun i q=>by cases q) ?c1 ?hm ?U ?cH ?c7 ?aW ?aj fun aGf adV abm=>?_));case c1=>exact nS
   case hm=>exact ia (l₁:=[_,_,_])
   case U=>exact lR
   case cH=>rfl
   case c7=>rfl
   case aW=>exact Nat.one_pos
   case aj=>exact(show i+1<=1000000 by omega)
   obtain⟨gH,eY,rfl⟩:=abm.tD;have qR:qw c3 (jY ps) (.slice b' n c'):=⟨b',c',by rw[Pd,aci],by rw[Pd,aci];exact axS gW Nx aa fun p ap=>xx ap⟩;have bn:i+1<=g.is.length/\bj.le c3/\bD<=mD.length/\dY 34 1 (.slice gH (i+1) eY) (i+1) (d++[.slice b' n c']) adV/\oE g (m++[jY ps]) (i+1)/\et 1 (fun _=>e8 (qw c3)) (d++[.slice b' n c']) (m++[jY ps]):=⟨aa,cr.trans bN,EZ,abm,pU.snoc U (by rw[Pd];omega) (aye Nx aa aa aa) (ayf Nx aa aa) ⟨ps,I,Nx,aa⟩,(fj.mono fun _ _ _ ⟨v,aX,aT⟩=>⟨v,aX,aT.mono bN⟩).app ⟨_,I,qR⟩ I⟩;refine af 0x60430e702 ?_;refine eS ⟨i+1,m++[jY ps],.slice gH (i+1) eY,d++[.slice b' n c'],adV,bD,c3⟩ ?_ (hm:=Ll (.cons _ (.refl _)) _);exact bn
  ·obtain rfl:i=g.is.length:=aa
   have rK:=pU.l;refine af 0x357 ?_;obtain⟨g3,eZ,rfl⟩:=nS.tD;refine nS.k7 (e1:=[_,_]) (.refl _) (fun c3 bN au=>?_);have eO:pb c3 g3 g.is.length eZ m:=⟨d,by rw[rK];exact au,fun j x U=>by obtain⟨v,aX,aT⟩:=fj.2 j x U;exact⟨v,aX,aT.mono bN⟩⟩;have kb:=a8.trans (cr.trans bN);have aps:=eO.eg;have m4:addrEq g3 g3=true:=eO.addr;refine af 0x439 ?_;refine cl (G:=axo (kb _ _ cq) tJ ay pU rK eO aa aa) (h:=?_);rintro v' m' e3 hle ⟨cQ,BF,rz,rfl,dS⟩;have afg:addrEq BF BF=true:=by obtain⟨aF3,apw,_⟩:=dS;exact apw.addr
   refine af 0x1ce1 ?_;refine eu fun n5=>?_;refine af 0x605c ?_;refine fc [16,3,4,11,12,13,15] ?_;refine bp ?_;refine' aK.hp 1 [(74,.bool (decide ((g.is.length≠g.is.length))))] ?alF ?amA;case alF=>
    refine af 0x903a ?_;refine eX 67 (fun aou=>?_) fun aou=>?_
    ·refine af 0xc237bdef7b ?_;refine ho (hC ?_);omega
    ·refine af 0xc20850952d ?_;refine ho (hC ?_);omega
   case amA=>
    refine bp ?_;refine If (fun Y8=>?_) fun Y8=>?_
    ·exfalso;exact Y8 I
    ·refine af 0x1816757 ?_;refine aK.nZ (m':=hq sn bm km mD lB::(n5,.row [.int .i64 (k:Int),.slice BF g.is.length rz] 40)::(l1,.row (pn g cO bu cy ci) 26)::m') awF ?_;refine af 0x357 ?_;refine dV [(17,.int .i64 ((0):Int)),(3,_),(4,_),(11,_),(12,_),(13,_),(15,_)] ?_;refine bp ?_;refine' aK.bK (fun(b8:Nat×Nat×(List (List Int))×aJ)=>match b8 with|(j,lB,ng,bs)=>⟨[(17,.int .i64 (j:Int))],hq sn bm km mD lB::(n5,.row [.int .i64 (k:Int),.slice BF g.is.length rz] 40)::(l1,.row (pn g cO bu cy ci) 26)::bs,e3,j<=g.is.length/\lB<=mD.length/\qy m ng (2 ^ k)/\lX pJ e3 22 (.slice BF g.is.length rz) ng bs,g.is.length -j⟩) ⟨0,lB,m.map (qa k),m'⟩ ?hs ?bn
     case hs=>exact⟨c6 _,IU,qy.qa fun l aj=>by{obtain⟨_,_,_,_,_,q,_⟩:=pU.all l aj;exact q.eN},dS⟩
     case bn=>
      rintro⟨j,lB,ng,bs⟩ hinv;try simp only at hinv
      obtain⟨aW,sG,vl,dS⟩:=hinv;refine af 0x5f0428439 ?_;refine If (fun BH=>?_) fun BH=>?_
      ·
        have apo:=vl.l;obtain⟨Ho,Kn,aCv,eq,ad,t,rfl,aDh,Ut,Cr,xf,rP⟩:=dS.dM (i:=j) aa;obtain⟨l0,qM⟩:∃l,m[j]?=some l:=⟨_,cU aa⟩;obtain⟨y3,ND⟩:=vl.r j l0 t qM Ut;obtain⟨aFU,azZ,_,_⟩:=A8 y3;refine af 0xd5f57 ?_;refine fc [3,4,11,12,13,15,17] ?_;refine bp ?_;refine' aK.pP 0 (fun(b8:(Bool)×(Nat))=>match b8 with|(ni,ba)=>⟨[(92,.bool ni)],hq sn bm km mD ba::(n5,.row [.int .i64 (k:Int),.slice (some ⟨Ho,Kn,none⟩) g.is.length rz] 40)::(l1,.row (pn g cO bu cy ci) 26)::bs,e3,ba<=mD.length⟩) ?alc ?amv
        case alc=>
         refine af 0x3a ?_;refine' W.step I (Exec.call I I I I I I I (a1:=[hq sn bm km mD lB]) (cB:=_) (.refl _) trivial (Vs (n:=3) (dC.mono (kb.trans cQ)) TJ sG bI bI) ?_);rintro v' m' ah hle ⟨rfl,hT,ba,rfl,fl,iS,sG,rfl⟩;refine af 0x24 ?_;refine eX 84 (fun aow=>?_) fun aow=>?_
         ·refine af 0x18410a93052d ?_;refine iQ ⟨_,ba⟩ ?_;exact sG
         ·refine af 0x1846f7bdef7b ?_;refine iQ ⟨_,ba⟩ ?_;exact sG
        case amv=>
         rintro⟨ni,ba⟩ hinv;try simp only at hinv
         have sG:=hinv;refine bp ?_;refine If (fun akv=>?_) fun akv=>?_
         ·refine af 0x2a4c14b439 ?_;refine' W.step I (Exec.call I I I I I I I (a1:=[hq sn bm km mD ba]) (cB:=_) (.refl _) trivial (Vs (n:=(t.length:Int)) (dC.mono (kb.trans cQ)) TJ sG aa aa) ?_);rintro v' m' ah hle ⟨rfl,eP,br,rfl,oX,oY,abe,rfl⟩;obtain⟨zL,rfl⟩:∃zL:Nat,eP=(zL:Int):=⟨eP.toNat,aa⟩;refine af 0x6af816702 ?_;refine dV [(19,.int .i64 ((0):Int)),(3,_),(4,_),(11,_),(12,_),(13,_),(15,_),(17,_),(18,_)] ?_;refine bp ?_;refine' aK.bK (fun(b8:Nat×aJ)=>match b8 with|(q,Ee)=>⟨[(19,.int .i64 (q:Int))],hq sn bm km mD br::(n5,.row [.int .i64 (k:Int),.slice (some ⟨Ho,Kn,none⟩) g.is.length rz] 40)::(l1,.row (pn g cO bu cy ci) 26)::Ee,e3,q<=t.length/\lX pJ e3 22 (.slice (some ⟨Ho,Kn,none⟩) g.is.length rz) (ng.set j (qi t q)) Ee,t.length -q⟩) ⟨0,bs⟩ ?hs ?bn
          case hs=>exact⟨c6 _,by rw[show qi t 0=t from I,ayn Ut];exact dS⟩
          case bn=>
           rintro⟨q,Ee⟩ hinv;try simp only at hinv
           obtain⟨b3,B5⟩:=hinv;refine af 0x5f042a4c14b439 ?_;refine If (fun aj6=>?_) fun aj6=>?_
           ·obtain⟨ajB,av7,akK,aV,LM,t2,jv,As,xk,kc,Fc,Uj⟩:=B5.dM (i:=j) (by rw[hy];omega);injection jv with jv
            injection jv with jv M9
            subst jv;subst M9;rw[af5 aa] at xk;injection xk with xk
            subst xk;have NN:=ahT (t:=t) (q:=q) b3;obtain⟨tH,ma⟩:=Uj ((qi t q).set q 0) (by rw[hy]);rw[NN] at kc;have ar9:q+1<=t.length/\lX pJ e3 22 (.slice (some ⟨Ho,Kn,none⟩) g.is.length rz) (ng.set j (qi t (q+1))) (Ee.set j (LM,.row (((qi t q).set q 0).map (Value.int .i64)) 3)):=⟨aa,by rw[List.set_set,ahU aa] at tH;rw[ahU aa];exact tH⟩;refine af 0x305260a5b9d5f57 ?_;refine' W.step I (.of (uE I I I I (o6 I) I I I ?ae ?hs ?ap ?_));case ap=>exact .tail _ (.tail _ (.tail _ ma))
            case hs=>exact agi q aa
            case ae=>rfl
            refine af 0x30218738 ?_;refine eS ⟨q+1,Ee.set j (LM,.row (((qi t q).set q 0).map (Value.int .i64)) 3)⟩ ?_;exact ar9
           ·obtain rfl:q=t.length:=aa
            obtain⟨ajB,av7,akK,aV,LM,t2,jv,As,xk,kc,Fc,Uj⟩:=B5.dM (i:=j) (by rw[hy];omega);injection jv with jv
            injection jv with jv M9
            subst jv;subst M9;rw[af5 aa] at xk;injection xk with xk
            subst xk;have NN:=ahT (t:=t) (q:=t.length) (b2 _);have aaZ:2 ^ k<=64:=nd (n:=2) bI (show k<=6 by omega);have UD:IntKind.i64.wrap (1*2 ^ ((k:Int)).toNat)=((2 ^ k:Nat):Int):=by
             rw[ff,Int.one_mul,show(2:Int) ^ k=((2 ^ k:Nat):Int) by rw[Int.natCast_pow];rfl];generalize 2 ^ k=aBz at aaZ;exact wrap_i64 aa aa
            obtain⟨tH,ma⟩:=Uj ((qi t t.length).set zL ((2 ^ k:Nat):Int)) (by rw[hy]);rw[NN] at kc;obtain⟨L4,apV⟩:∃L4,L4=Ee.set j (LM,df.row (((qi t t.length).set zL ((2 ^ k:Nat):Int)).map (Value.int .i64)) 3):=⟨_,I⟩;rw[<-apV] at ma tH;have ar':j+1<=g.is.length/\br<=mD.length/\qy m (ng.set j (CV t.length zL (2 ^ k))) (2 ^ k)/\lX pJ e3 22 (.slice (some ⟨Ho,Kn,none⟩) g.is.length rz) (ng.set j (CV t.length zL (2 ^ k))) L4:=⟨aa,abe,vl.set Ut (avC aa azZ aa) (by unfold CV;rw[hy,kU]),by rw[List.set_set,aBp] at tH;exact tH⟩;refine af 0x5f57 ?_;refine aK.draw I (by kernel_rfl) (a0:=[.val 0,.val 1,.val 2,.val 3,.val 4,.val 5,.val 6,.val 7,.val 8,.bw 9]) (by kernel_rfl) ?_;refine af 0x6a04293052d ?_;refine' bX.nP I I (uE I I I I (o6 I) I I I ?ae ?hs ?ap ?_);case ap=>exact .tail _ (.tail _ (.tail _ ma))
            case hs=>exact(by rw[UD];exact agi (L:=qi t t.length) zL (by rw[NN];omega))
            case ae=>rfl
            refine af 0x30218738 ?_;refine eS ⟨j+1,br,ng.set j (CV t.length zL (2 ^ k)),L4⟩ ?_;exact ar'
         ·refine af 0x60430e757 ?_;refine eS ⟨j+1,ba,ng,bs⟩ ?_;exact⟨aa,sG,vl,dS⟩
      ·
        obtain rfl:j=g.is.length:=aa
        have apo:=vl.l;refine af 0x357 ?_;refine dS.k7 (fun _ _ _ h=>h.ok) (e1:=[_,_,_]) (ia (l₁:=[_,_,_])) fun lx fa B7=>?_;have B7:dz lx 22 1 (e8 (zS lx)) (.slice BF g.is.length rz) ng:=by obtain⟨cs,aX,aT⟩:=B7;exact⟨cs,aX,fun i x U=>by obtain⟨b,c,bd,cm⟩:=aT i x U;exact⟨_,bd,cm⟩⟩
        have Fa:=kb.trans (cQ.trans fa);obtain⟨cP,oR⟩:=ay.cP;refine af 0x199 ?_;refine cl (G:=axN (Fa _ _ cq) tJ ay pU vl aa aa aa B7) (h:=?_);rintro v' m' nJ hle ⟨fk,rfl,L2,co,rfl,aa3⟩;have apf:=aa3.eg;have axm:addrEq L2 L2=true:=aa3.addr;refine af 0x30216670211ce1 ?_;refine cl (G:=atW ((Fa.trans fk) _ _ cq) tJ (aB.mono ((cr.trans bN).trans (cQ.trans (fa.trans fk)))) mz aa jU lq pU vl aa aa rK aa (eO.mono (cQ.trans (fa.trans fk))) (dz.mono (R':=e8 (zS nJ)) fk (fun _ _ ⟨v,aX,aT⟩=>⟨v,aX,aT.mono fk⟩) B7)) (h:=?_);rintro v' m' wj hle ⟨ij,rfl,bE,ct,rfl,SE⟩;obtain⟨aE5,Oc,aE6,Od⟩:=U4 mz aa jU lq pU vl aa aa;have aaX:=SE;obtain⟨iP,dt,rfl,mh⟩:=SE.n.ch;obtain⟨rm,mT,rfl,A2⟩:=SE.d.ch;refine af 0x1ce1 ?_;refine eu fun oF=>?_;refine af 0x605c ?_;refine fc [16,22,3,11,13,20,21] ?_;refine bp ?_;refine' aK.Ru 2 [(157,.bool false)] ?Rq ?RF;case Rq=>
         refine af 0x903a ?_;refine eX 142 (fun MK=>?_) fun MK=>?_
         ·exfalso;exact MK I
         ·refine af 0xa081 ?_;refine eX 146 (fun aaC=>?_) fun aaC=>?_
          ·exfalso;exact aaC I
          ·refine af 0x504284a1 ?_;refine eX 153 (fun aaB=>?_) fun aaB=>?_
           ·exfalso;exact aaB I
           ·refine Qn V.UW ?_;refine BJ (G:=afo aaX (by rw[Oc];exact Od.bu) (by rw[Oc];exact dT Od.n bI) (by rw[Oc];exact dT Od.d bI)) (h:=?_);rintro v' m' DO hle ⟨l',rfl,rfl⟩;refine af 0x6104 ?_;refine'⟨⟨_,I,⟨?auH,I,I,I,I,I,trivial⟩⟩,iC _,?S9⟩;case S9=>assumption
            case auH=>rfl
        case RF=>
         intro Li abW;have aaI:=ij.trans abW;have MN:=cQ.trans (fa.trans fk);have aaH:=cr.trans bN;have aaZ:2 ^ k<=64:=nd (n:=2) bI (show k<=6 by omega);refine bp ?_;refine If (fun Y1=>?_) fun Y1=>?_
         ·exfalso;cases Y1
         ·refine af 0x357c0b3816757 ?_;refine dV [(24,.int .i64 ((0):Int)),(23,(.slice none 0 0)),(3,_),(11,_),(13,_),(20,_),(21,_)] ?_;refine bp ?_;refine' aK.bK (fun(b8:Nat×(List (List bO))×Value×(List Value)×aJ×ai)=>match b8 with|(i,cX,w,d2,aS,hU)=>⟨[(24,.int .i64 (i:Int)),(23,w)],aS++[(oF,.row (jc (kL g p m ng (k:Int)) (.slice iP (aq (kL g p m ng (k:Int)).z.natAbs).length dt) (.slice rm (aq (kL g p m ng (k:Int)).d).length mT)) 50),hq sn bm km mD lB,(n5,.row [.int .i64 (k:Int),.slice BF g.is.length rz] 40),(l1,.row (pn g cO bu cy ci) 26)],hU,i<=g.is.length/\Li.le hU/\dY 34 1 w i d2 aS/\x1 g p m cX ng (2 ^ k) i/\et 1 (fun _=>e8 (qw hU)) d2 cX,g.is.length -i⟩) ⟨0,[],.slice none 0 0,[],[],Li⟩ ?hs ?bn
          case hs=>exact⟨c6 _,ai.le.refl _,.inl ⟨.nil,xZ,xA⟩,⟨I,fun j x l t aW=>absurd aW (D2 _)⟩,⟨I,fun i x h=>by cases h⟩⟩
          case bn=>
           rintro⟨i,cX,w,d2,aS,hU⟩ hinv;try simp only at hinv
           obtain⟨hi,h5,IV,Iz,sP⟩:=hinv;refine af 0x5f0428439 ?_;refine If (fun Y2=>?_) fun Y2=>?_
           ·obtain⟨qA,CT,Zg,ZR,rfl,vg,I7⟩:=Aw aa;obtain⟨x,cs,U,iI,oa,rfl⟩:=I7 i aa aa;rw[ff] at U;obtain⟨z',c0,rfl,k'⟩:=IV.kC;obtain⟨ajy,F4,aCo,aCW,rfl,IM,aqJ⟩:=apf aa;obtain⟨aFY,aEA,y,an,sr,qF,rfl,Sr⟩:=aqJ i aa;obtain⟨hB,aFb,aCl,Ey,rfl,MS,aqH⟩:=aps aa;obtain⟨aFX,aEz,l0,qM,qC,fE,rfl,Sq⟩:=aqH i aa;obtain⟨t,aM,y6⟩:∃t,ng[i]?=some t/\mi (2 ^ k) t=y:=by rw[h'] at an;exact ri.1 an
            obtain⟨y3,ND⟩:=vl.r i l0 t qM aM;have asF:sl y:=by rw[<-y6];exact afF (wy bI) aa y3
            have CE:y.length=l0.length:=by rw[<-y6,A7];exact ND
            have aD1:=(A8 y3).2.1;have AA:=aaI.trans h5;have IM:=AA _ _ IM;have MS:=(MN.trans AA) _ _ MS;have vg:=(aaH.trans (MN.trans AA)) _ _ vg;have Gc:addrEq sr sr=true:=Sr.addr;have OX:addrEq qC qC=true:=Sq.addr;refine af 0xd5f57 ?_;refine fc [3,11,13,20,21,23,24] ?_;refine bp ?_;refine' aK.Ru 0 [(182,.bool false)] ?Rr ?RG;case Rr=>
             refine aK.draw I (by kernel_rfl) (a0:=[.val 0,.val 1,.val 2,.val 3,.val 4,.val 5,.val 6,.val 7,.val 8,.val 9,.val 10,.val 11,.val 12,.val 13,.val 14,.val 15,.bw 16,.val 17,.val 18]) (by kernel_rfl) ?_;refine af 0x121526084a93043e ?_;refine XA 175 (fun aoB=>?_) fun aoB=>?_
             ·exfalso;omega
             ·refine af 0x49821 ?_;refine' bB.Zb I I I I I I I I I I ec (atJ I (dz.mono (R':=n3 hU) AA (fun _ _ q=>q.mono AA) Sr) asF) ?_;rintro v' m' P1 hle ⟨kG,rfl,rfl⟩;refine af 0x104 ?_;refine bB.nil ?_;refine'⟨⟨_,I,⟨?auJ,I,I,I,I,I,I,I,trivial⟩⟩,iC _,?S9⟩;case S9=>assumption
              case auJ=>rfl
            case RG=>
             intro zR xd;refine bp ?_;refine If (fun Y3=>?_) fun Y3=>?_
             ·exfalso;cases Y3
             ·refine lu ?_;have vg:=xd _ _ vg;have IM:=xd _ _ IM;have MS:=xd _ _ MS;refine af 0x1a60a5b9 ?_;refine' W.step I (Exec.val I I (j1 I I ?ar (g8 (fJ I) ?az)) ?_);case ar=>exact qr
              case az=>exact oa 0 _ bI I
              refine af 0xbe081 ?_;refine If (fun akc=>?_) fun akc=>?_
              ·refine af 0x12608439 ?_;refine jG fun aBJ=>?_;refine' W.step I (.of (v3 I I I I I I (ee I) (Px Q g0) (fun i q=>by cases q) ?c1 ?hm ?U ?cH ?c7 ?aW ?aj fun aF9 adR abh=>?_));case c1=>exact IV
               case hm=>exact(Bv (l₁:=aS) (l₂:=[_,_,_,_])).symm
               case U=>exact lR
               case cH=>rfl
               case c7=>rfl
               case aW=>exact Nat.one_pos
               case aj=>exact(show i+1<=1000000 by omega)
               obtain⟨rp,gh,rfl⟩:=abh.tD;have Uo:i+1<=g.is.length/\Li.le zR/\dY 34 1 (.slice rp (i+1) gh) (i+1) (d2++[.slice sr y.length qF]) adR/\x1 g p m (cX++[y]) ng (2 ^ k) (i+1)/\et 1 (fun _=>e8 (qw zR)) (d2++[.slice sr y.length qF]) (cX++[y]):=⟨aa,h5.trans xd,abh,Iz.snoc U qM aM (by rw[aP aa];exact y6.symm),(sP.mono fun _ _ _ ⟨v,aX,aT⟩=>⟨v,aX,aT.mono xd⟩).app ⟨_,I,sr,qF,I,dz.mono (R':=n3 zR) (AA.trans xd) (fun _ _ q=>q.mono (AA.trans xd)) Sr⟩ I⟩;refine af 0x60430e702 ?_;refine eS ⟨i+1,cX++[y],.slice rp (i+1) gh,d2++[.slice sr y.length qF],adR,zR⟩ ?_ (hm:=Ll (.cons _ (.refl _)) _);exact Uo
              ·refine af 0x12608439 ?_;refine jG fun aBK=>?_;refine' W.step I (.of (v3 I I I I I I (ee I) (Px Q g0) (fun i q=>by cases q) ?c1 ?hm ?U ?cH ?c7 ?aW ?aj fun aF' adS abj=>?_));case c1=>exact IV
               case hm=>exact(Bv (l₁:=aS) (l₂:=[_,_,_,_])).symm
               case U=>exact lR
               case cH=>rfl
               case c7=>rfl
               case aW=>exact Nat.one_pos
               case aj=>exact(show i+1<=1000000 by omega)
               obtain⟨rp,gh,rfl⟩:=abj.tD;have abV:=MN.trans (AA.trans xd);have Uo:i+1<=g.is.length/\Li.le zR/\dY 34 1 (.slice rp (i+1) gh) (i+1) (d2++[.slice qC l0.length fE]) adS/\x1 g p m (cX++[l0]) ng (2 ^ k) (i+1)/\et 1 (fun _=>e8 (qw zR)) (d2++[.slice qC l0.length fE]) (cX++[l0]):=⟨aa,h5.trans xd,abj,Iz.snoc U qM aM (by rw[aG aa]),(sP.mono fun _ _ _ ⟨v,aX,aT⟩=>⟨v,aX,aT.mono xd⟩).app ⟨_,I,qC,fE,I,dz.mono (R':=n3 zR) abV (fun _ _ q=>q.mono abV) Sq⟩ I⟩;refine af 0x60430e702 ?_;refine eS ⟨i+1,cX++[l0],.slice rp (i+1) gh,d2++[.slice qC l0.length fE],adS,zR⟩ ?_ (hm:=Ll (.cons _ (.refl _)) _);exact Uo
           ·obtain rfl:i=g.is.length:=aa
            refine af 0x357 ?_;obtain⟨Ea,l3,rfl⟩:=IV.tD;refine IV.k7 (e1:=[_,_,_,_]) (.refl _) (fun DP lL vj=>?_);have ab5:=Iz.l;have EY:pb DP Ea g.is.length l3 cX:=⟨d2,by rw[ab5];exact vj,fun j x U=>by obtain⟨v,aX,aT⟩:=sP.2 j x U;exact⟨v,aX,aT.mono lL⟩⟩;have aaK:=MN.trans (aaI.trans (h5.trans lL));have aa0:=pU.J3;have aa1:=Iz.J3 pU vl aa;have abb:=eO.mono aaK;have V2:addrEq Ea Ea=true:=EY.addr;have abH:=aB.mono (aaH.trans aaK);refine bp ?_;refine aK.draw I (by kernel_rfl) (a0:=[.iF 11,.val 0,.val 1,.val 2,.val 4,.val 5,.val 6,.bw 3,.b6 [6,5,4],.bw 7,.bw 8,.bw 9,.bw 10,.bw 12]) (by kernel_rfl) ?_;refine bX.alloc I I I I I (Pr I) I I I fun aBM=>?_;refine af 0x78216042c ?_;refine' bB.ej I I I I I I I I I ec (adE ay abH jU lq aa oR aa0 rK abb) ?_;rintro v' m' Lf hle ⟨mW,rfl,kx,aa8,v1,v2,rfl,SM⟩;have api:=SM;obtain⟨Hp,ru,rfl,OY⟩:=SM.n.ch;obtain⟨Hq,jt,rfl,OZ⟩:=SM.d.ch;refine bB.b6 eN ?_;refine' bB.ej I I I I I I I I I (dF (fun _ aI=>auj mW (by obtain⟨aF,aV⟩:=ajD aI;rw[<-aF,<-aV] at EY;exact ax4 (Vg abb fun l aj=>(tc (aa0.all l aj).eN).2.2.1) (Vg EY fun l aj=>(tc (aa1.all l aj).eN).2.2.1)) I) ec) (adE ay (abH.mono mW) jU lq aa oR aa1 ab5 (EY.mono mW)) ?_;rintro v' m' XJ hle ⟨rI,rfl,ic,aa9,nH,v4,rfl,SN⟩;have aa5:=SN;have BI:=aa8.top ay aa oR;have Md:=aa9.top ay aa oR;have Mf:=Md.neg;have Q7:=(BI.plus Mf).abs;have aCc:=BI.n;have aCd:=BI.d;have aCh:=Mf.n;have aCi:=Mf.d;have aCj:=Q7.n;have aCk:=Q7.d;have Q6:jB 700 (kL g p m ng (k:Int)):=(by rw[Oc];exact Od);have aCf:=Q6.n;have aCg:=Q6.d;have w':=ajA mz jU lq aa pU vl aa aa Iz aa8 aa9;obtain⟨QK,oJ,rfl,V3⟩:=SN.n.ch;obtain⟨YJ,nO,rfl,ae'⟩:=SN.d.ch
            refine' bB.ej I I I I I I I I I (dF (e5 I) (dF (e5 I) ec)) (adI aa5) ?_;rintro v' m' ah hle ⟨rfl,rfl,rfl⟩;refine' bB.ej I I I I I I I I I (dF (e5 I) (dF (e5 I) (dF (e5 I) ec))) (VW (r:=atR kx 0) (s:=⟨-(atR ic 0).z,(atR ic 0).d⟩) I I (api.mono rI) aa5.neg BI.bu.1 Mf.bu.1 aa aa aa aa) ?_;rintro v' m' Lg hle ⟨aq1,rfl,Bi,v6,rfl,cZ⟩;have MZ:hz Lg (nC (atR kx 0) ⟨-(atR ic 0).z,(atR ic 0).d⟩) Bi v6:=cZ;obtain⟨LY,qG,rfl,afa⟩:=cZ.n.ch;obtain⟨aB2,aCa,rfl,aFo⟩:=cZ.d.ch;refine' bB.ej I I I I I I I I I (dF (e5 I) (dF (e5 I) (dF (e5 I) (dF (e5 I) ec)))) (ayD MZ) ?_;rintro v' m' ah hle ⟨rfl,rfl,rfl⟩;refine af 0x639e ?_;have apb:hz Lg (kL g p m ng (k:Int)) (.slice iP (aq (kL g p m ng (k:Int)).z.natAbs).length dt) (.slice rm (aq (kL g p m ng (k:Int)).d).length mT):=aaX.mono (abW.trans (h5.trans (lL.trans (mW.trans (rI.trans aq1)))));refine af 0x3199 ?_;refine cl (G:=awa MZ.abs apb Q7.bu.1 Q6.bu.1 aa aa aa aa) (h:=?_);rintro v' m' XK hle ⟨yT,rfl,rfl⟩;refine af 0x24 ?_;refine eX 220 (fun aaD=>?_) fun aaD=>?_
            ·refine BJ (G:=k1 _) (h:=?_);rintro v' m' ah hle ⟨rfl,rfl,rfl⟩;refine af 0x1abe048 ?_;refine b4 ?_;exact I
            ·exfalso;exact aaD w'
end
open Go
def Vz:List Int:=[0,1,56,2,57,49,28,3,61,58,42,50,38,29,17,4,62,47,59,36,45,43,51,22,53,39,33,30,24,18,12,5,63,55,48,27,60,41,37,16,46,35,44,21,52,32,23,11,54,26,40,15,34,20,31,10,25,14,19,9,13,8,7,6]
def akM:List Value:=Vz.map fun z=>Value.int .u8 z
def agC:List (Nat×TypeId×List Value):=[(2,207,akM)]
def H0:aw:=aal 3 2 agC
def atL:isTrue ((wX Tryz.prog (EM Tryz.prog) 10000).body 18 [] false .run H0)=true:=by kernel_rfl
section
variable {H:Type}{P:Program}{enc:TypeId×Value->H}{W:World}{fuel:Nat}{t e:TypeId}{cs:List Value}{x:DataW H×List MemPlace}
end
end
end Go.Opn
namespace Go.Cre
noncomputable section
end
end Go.Cre
namespace Go.Opn
noncomputable section
open Go Go.Cre Go.RowKit Go.Proofs Go.ChangeShapes Go.WideShapes Go.ChangeAt
open Go.Proofs.YtccpobhlccjkiaaGreatDoor
abbrev PP:=Tryz.prog
def mj:PP.underlying 3=some (.int .i64):=by kernel_rfl
def Gq:PP.underlying 22=some (.slice 3):=by kernel_rfl
def cE:PP.cellsOf 3=1:=by kernel_rfl
def UP{P:Program}{W:World}{base:Nat}{t:TypeId}{v:Value}{k:IntKind}(hu:P.underlying t=some (.int k))(h:Value.okWide P W .any base t v):v.cells.toList=[v]:=by
 unfold Value.okWide at h;rw[hu] at h;simp only at h;unfold Cell.okWide at h;rw[hu] at h;cases v with
 |agg cs=>simp[Cell.ok,hu] at h
 |_=>rfl
def azV{H:Type}{enc:TypeId×Value->H}{P:Program}{w:World}{base:Nat}{spare:Nat->Bool}{held:Bool}{t0 t1 t2 t3 t4:TypeId}{args:Array Value}{ds:List (DataW H)}{ps:List MemPlace}(h:DataW.TrodAll enc P w base spare held [t0,t1,t2,t3,t4] args.toList ds ps):
 ∃d' v1 v2 nH v4 d0 d1 d2 d3 d4 hQ dj ht jx m3,args=#[d',v1,v2,nH,v4]/\ds=[d0,d1,d2,d3,d4]/\ps=hQ++dj++ht++jx++m3/\DataW.Trod enc P w base spare held t0 d' d0 hQ/\DataW.Trod enc P w base spare held t1 v1 d1 dj/\DataW.Trod enc P w base spare held t2 v2 d2 ht/\DataW.Trod enc P w base spare held t3 nH d3 jx/\DataW.Trod enc P w base spare held t4 v4 d4 m3:=by
 obtain⟨d',ahs,d0,aCM,hQ,k',aI,rfl,rfl,aQ,h⟩:=trodAll_cons h;obtain⟨v1,aAE,d1,wT,dj,aN,rfl,rfl,rfl,ae,h⟩:=trodAll_cons h;obtain⟨v2,aF0,d2,aCN,ht,aH,rfl,rfl,rfl,ag,h⟩:=trodAll_cons h;obtain⟨nH,aF1,d3,aCO,jx,bo,rfl,rfl,rfl,aE,h⟩:=trodAll_cons h;obtain⟨v4,aF2,d4,aCP,m3,db,rfl,rfl,rfl,a6,h⟩:=trodAll_cons h;obtain⟨rfl,rfl,rfl⟩:=trodAll_nil h;exact⟨d',v1,v2,nH,v4,d0,d1,d2,d3,d4,hQ,dj,ht,jx,m3,by cases args;simp_all,I,by simp,aQ,ae,ag,aE,a6⟩
def agd{P:Program}{W:World}{base:Nat}{t e:TypeId}{v:Value}(hu:P.underlying t=some (.slice e))(h:Value.okWide P W .any base t v):v.cells.toList=[v]:=by
 unfold Value.okWide at h;rw[hu] at h;simp only at h;unfold Cell.okWide at h;rw[hu] at h;cases v with
 |agg cs=>simp[Cell.ok,hu] at h
 |_=>rfl
def ax1{W:World}{g:Nat}{t:TypeId}{f:Nat×Nat}(h:W.heap[g]?=some (.cells (cc .u8 m8).toArray t f)):xp PP W g=some (cc .u8 m8,t):=by
 show vV PP W g=_;rw[Pa (We h)];have e:(cc .u8 m8).toArray.toList.map (n6 PP W)=cc .u8 m8:=by
  unfold cc;rw[List.toList_toArray,rh];exact GX fun b _=>LL I
 rw[e]
end
end Go.Opn

/- A part of the proof of TableBounds. -/
import Derived.Test.YtccpobhlccjkiaaGreatDoorCap
import Derived.Test.YtccpobhlccjkiaaGreatDoorCaj
import Derived.Test.YtccpobhlccjkiaaGreatDoorCan
import Derived.Test.YtccpobhlccjkiaaGreatDoorCai
set_option linter.defProp false
set_option maxRecDepth 100000
set_option maxHeartbeats 8000000
set_option linter.unusedVariables false
set_option linter.unusedSimpArgs false
namespace Go.Opn
noncomputable section
open Go.Cre Go.RowKit Go.Proofs
def et.get{α:Type}{sz:Nat}{R:Nat->α->List Value->Prop}{d:List Value}{xs:List α}(h:et sz R d xs){i:Nat}{x:α}(U:xs[i]?=some x):∃cs,takeN sz (qH (0+i*sz) d)=some cs/\R i x cs:=by
 have hi:=(dO.1 U).1;have hs:i*sz+sz<=xs.length*sz:=by rw[<-nf];exact hJ _ hi
 exact⟨_,by rw[j8,wS,zC (by rw[jO,h.1];omega)],h.2 i x U⟩
def et.set{α:Type}{sz:Nat}{R R':Nat->α->List Value->Prop}{d new:List Value}{xs:List α}(h:et sz R d xs){k p:Nat}{y:α}(ap:p=k*sz)(hk:k<xs.length)(aA:new.length=sz)(dU:∀i x cs,i≠k->R i x cs->R' i x cs)(an:R' k y new):et sz R' (d.take p++new++d.drop (p+new.length)) (xs.set k y):=by
 subst ap;have aj:=h.1;have oa:k*sz+sz<=xs.length*sz:=by rw[<-nf];exact hJ _ hk
 refine⟨by rw[dv,dv,eL,jO,hy];omega,fun i x U=>?_⟩;have hi:i<xs.length:=by have:=(dO.1 U).1;rw[hy] at this;exact this
 have tM:i*sz+sz<=xs.length*sz:=by rw[<-nf];exact hJ _ hi
 by_cases q:i=k
 ·subst q
  rw[GW hk] at U;injection U with U;subst U
  rw[show((d.take (i*sz)++new++d.drop (i*sz+new.length)).drop (i*sz)).take sz=new from ?_]
  ·exact an
  ·apply pK
   intro j;rw[iY];by_cases q2:j<sz
   ·rw[aP q2,n2,OV aa,aG aa,aP aa]
    congr 1;omega
   ·rw[aG q2,jq aa]
 ·rw[GV (fun r=>q r.symm)] at U
  have ag:=dU _ _ _ q (h.2 i x U);have av:i*sz+sz<=k*sz\/k*sz+sz<=i*sz:=by
   rcases ha i k with r|r
   ·exact .inl (by rw[<-nf];exact hJ _ r)
   ·exact .inr (by rw[<-nf];exact hJ _ aa)
  rw[show((d.take (k*sz)++new++d.drop (k*sz+new.length)).drop (i*sz)).take sz=(d.drop (i*sz)).take sz from ?_]
  ·exact ag
  ·apply pK
   intro j;rw[iY,iY];by_cases q2:j<sz
   ·rw[aP q2,aP q2,n2,n2,OV aa]
    rcases av with r|r
    ·rw[aP aa]
    ·rw[aG aa,aG aa]
   ·rw[aG q2,aG q2]
def Xi{z:List Value}:∀n,(fp z n).length=n*z.length
 |0=>by rw[Bo,nM];rfl
 |n+1=>by rw[v5,dv,Xi n,nf,G3]
def ahR{z:List Value}:∀n i,i<n->((fp z n).drop (i*z.length)).take z.length=z
 |0,i,h=>by omega
 |n+1,0,_=>by rw[v5,nM,iD,X2]
 |n+1,i+1,h=>by
  rw[v5,nf,G3,<-zU,List.drop_left];exact ahR n i aa
def et.zero{α:Type}{sz:Nat}{R:Nat->α->List Value->Prop}{z:List Value}{x:α}(n:Nat)(aR:z.length=sz)(h:∀i,R i x z):et sz R (fp z n) (List.replicate n x):=by
 subst aR;refine⟨by rw[Xi,kU],fun i y an=>?_⟩;have hi:=(dO.1 an).1;rw[kU] at hi;rw[GU,aP hi] at an;injection an with an
 subst an;rw[ahR n i hi];exact h i
def jB.ek{k:Nat}{r:a2}(h:jB k r):h9 k r:=⟨dT (U7 _) h.n,jg (X9 bI h.l) bI⟩
def Zo{a b:a2}(aI:0<=a.z)(ak:0<=b.z):0<j' (a.z.natAbs*b.d) (b.z.natAbs*a.d)↔ve a b:=by
 obtain⟨x,U⟩:∃x:Nat,a.z=x:=⟨a.z.toNat,aa⟩;obtain⟨y,an⟩:∃y:Nat,b.z=y:=⟨b.z.toNat,aa⟩;have e:ve a b↔y*a.d<x*b.d:=by
  unfold ve;rw[U,an,<-iX,<-iX];omega
 rw[e,U,an,gR,gR];unfold j';split
 ·omega
 ·split<;>omega
section
variable {Q:da Tryz.prog}{g0:Nat}{J:ai}
def reduced_fn{n d:Nat}{neg:Bool}{v w:Value}(Jg:neg=false)(ae:c5 J v n)(ag:c5 J w d)(av:0<d)(eR:(a7 n).length<=30000)(Rx:d<18446744073709551616):Fn (aU Q g0) 65 [.bool neg,v,w] [] J (pf J (a4 (n:Int) d)):=by
 subst Jg;have lI:=ae;have kZ:=ag;obtain⟨bc,bH,bb,rfl,aN,_,_⟩:=ae.bz;obtain⟨bl,c2,bt,rfl,aH,_,_⟩:=ag.bz;have aB:Nat.gcd n d≠0:=jP (wq _ av);have atC:=jg (Qd n av) Rx;have eo:=jk Rx;have aag:(a4 (n:Int) d).z=((n / Nat.gcd n d:Nat):Int):=by
  show(n:Int) / ((Nat.gcd (n:Int).natAbs d:Nat):Int)=_;rw[gR,Int.natCast_ediv]
 have ZU:(a4 (n:Int) d).d=d / Nat.gcd n d:=rfl;have l9:=k4 (z:=(n:Int)) av;refine Fn.b9 (b1 Tryz.func65) I I fun H=>?_;refine rg ?_;refine eu fun ef=>?_;refine af 0x8738 ?_;refine cl (G:=Zs lI kZ aa aa (.inr Rx)) (h:=?_);rintro v' m' bj a8 ⟨_,rfl,oY⟩;have tX:=oY;obtain⟨b0,fb,cE,rfl,bo,_,_⟩:=oY.bz;refine af 0x210e702 ?_;refine cl (G:=xN (lI.mono a8) tX aa aa aB) (h:=?_);rintro v' m' c3 bN ⟨_,rfl,acD⟩;have asr:=acD;obtain⟨dp,gf,eA,rfl,db,_,_⟩:=acD.bz;refine af 0x21 ?_;refine cl (G:=xN ((kZ.mono a8).mono bN) (tX.mono bN) aa aa aB) (h:=?_);rintro v' m' e3 cQ ⟨_,rfl,mB⟩;have pu:=mB;obtain⟨fD,hP,fZ,rfl,fH,_,_⟩:=mB.bz;refine cl (G:=FN (r:=a4 (n:Int) d) (by rw[aag,gR];exact asr.mono cQ) pu (fun _=>by rw[aag];exact(g5 (Int.not_lt.2 (sc _))).symm) (Mn l9) (jP l9.1) (by have:=um (show(a4 (n:Int) d).d<=d from si _ _);omega)) (h:=?_);rintro v' m' lx fa ⟨_,rfl,dH,eP,rfl,bC⟩;have cS:=bC;obtain⟨ev,e2,dJ,rfl,hS,_,_⟩:=bC.n.bz;obtain⟨gH,k3,eY,rfl,mI,_,_⟩:=bC.d.bz;refine af 0xd5f1c ?_;refine b4 ?_;exact⟨((a8.trans bN).trans cQ).trans fa,I,_,_,I,cS⟩
def axz{n d:Nat}(aA:n<9223372036854775808)(av:d<9223372036854775808)(h6:0<d):Fn (aU Q g0) 30 [.int .i64 (n:Int),.int .i64 (d:Int)] [] J (pf J (a4 (n:Int) d)):=by
 have eR:(a7 n).length<=1:=jk aa;have eo:(a7 d).length<=1:=jk aa;refine Fn.b9 (b1 Tryz.func30) I I fun H=>?_;refine rg ?_;refine eu fun cD=>?_;refine af 0x120738 ?_;refine cl (G:=U9 aA) (h:=?_);rintro v' m' bj a8 ⟨_,rfl,mB⟩;have pu:=mB;obtain⟨fD,hP,fZ,rfl,fH,_,_⟩:=mB.bz;refine hA V.eC ?_;refine cl (G:=U9 av) (h:=?_);rintro v' m' c3 bN ⟨_,rfl,rS⟩;have pv:=rS;obtain⟨ev,e2,dJ,rfl,hS,_,_⟩:=rS.bz;refine cl (G:=reduced_fn (g5 aa) (pu.mono bN) pv h6 aa aa) (h:=?_);rintro v' m' e3 cQ ⟨_,rfl,dH,eP,rfl,bC⟩;have cS:=bC;obtain⟨gH,k3,eY,rfl,mI,_,_⟩:=bC.n.bz;obtain⟨iy,o1,gm,rfl,o4,_,_⟩:=bC.d.bz;refine af 0xd5f1c ?_;refine b4 ?_;exact⟨(a8.trans bN).trans cQ,I,_,_,I,cS⟩
def atY{g:cM}{pl:Int}{b5:Nat->a2}{qB:List a2}{cO cy b:Option Addr}{bu ci c:Nat}(ay:kS g)(aB:r' J g cO bu cy ci)(mA:0<=pl)(mX:pl<g.pl)(oP:∀s,jB 9 (b5 s))(cH:g.ns.length<=60)
 (gn:dz J 85 3 (jN J) (.slice b qB.length c) qB)(sI:qB.length=g.is.length)(has:∀s x,g.is[s]?=some x->x.1=pl->qB[s]?=some (b5 s)):
 Fn (aU Q g0) 33 [Ao g cO bu cy ci,.int .i64 pl,.slice b qB.length c] [] J (pf J (ug b5 pl g)):=by
 have iz:=ay.bH;have zw:addrEq cy cy=true:=aB.i.addr;have C9:addrEq cO cO=true:=aB.n.addr;have oo:addrEq b b=true:=gn.addr;obtain⟨_,pX⟩:=aB.n.at;obtain⟨_,Tq⟩:=gn.at;obtain⟨mr,off,cells,bA,rfl,IK,hN⟩:=pX aa;refine Fn.b9 (b1 Tryz.func33) I I fun H=>?_;refine rg ?_;refine fq fun bG=>?_;refine eu fun ef=>?_;refine Ox ?_;refine eu fun fh=>?_;refine af 0x54b738 ?_;refine' W.step I (.of (ti I I I I I (ee I) ?aQ ?ae ?ag fun Hh=>?_));case aQ=>exact cJ
 case ae=>exact cJ
 case ag=>exact cJ
 refine af 0x302 ?_;rw[ff];refine af 0xd5f012a5b9c0859 ?_;refine dV [(23,.int .i64 ((0):Int)),(9,.int .i64 (-1000000)),(10,.int .i64 (1000000)),(1,_),(2,_),(6,_),(7,_),(8,_),(21,_),(22,_)] ?_;refine bp ?_;refine' aK.bK (fun(b8:Nat×(List a2)×a2×Int×Int×(List Value)×Value×Value×ai)=>match b8 with|(i,A,fS,hG,ey,d,bE,ct,cv)=>⟨[(23,.int .i64 (i:Int)),(9,.int .i64 hG),(10,.int .i64 ey)],[(Hh,.row d 85),(fh,.row (jc fS bE ct) 85),(ef,.row [.bool false,.slice none 0 0,.slice none 0 0] 85),(bG,.row (pn g (some ⟨mr,off,none⟩) bu cy ci) 26)],cv,i<=g.ns.length/\J.le cv/\iN b5 pl g.ns i=⟨A,fS,hG,ey⟩/\et 3 (fun _=>jN cv) d A/\gk cv fS bE ct,g.ns.length -i⟩) ⟨0,List.replicate g.ns.length ⟨0,1⟩,⟨0,1⟩,-1000000,1000000,fp [.bool false,.slice none 0 0,.slice none 0 0] g.ns.length,.slice none 0 0,.slice none 0 0,J⟩ ?hs ?bn
 case hs=>exact⟨c6 _,ai.le.refl _,I,et.zero _ I fun _=>⟨_,_,I,c5.nil,c5.nil⟩,c5.nil,c5.nil⟩
 case bn=>
  rintro⟨i,A,fS,hG,ey,d,bE,ct,cv⟩ hinv;try simp only at hinv
  obtain⟨hi,cr,au,fj,cS⟩:=hinv;refine af 0xbe099 ?_;refine If (fun yl=>?_) fun yl=>?_
  ·obtain⟨x,cs,U,iI,oa,dU⟩:=hN i aa aa;obtain⟨bc,bb,bl,bt,b0,cE,rfl,iS,oX,oY⟩:=dU;have aN:addrEq bc bc=true:=by obtain⟨e,h⟩:=iS;exact h.addr
   have aH:addrEq bl bl=true:=by obtain⟨e,h⟩:=oX;exact h.addr
   have bo:addrEq b0 b0=true:=by obtain⟨e,h⟩:=oY;exact h.addr
   rw[ff] at U;have IK:=cr _ _ IK;have fB:=ay.nodes x (dq U);have cG:=Df ay oP mA mX i hi;rw[au] at cG;have aaJ:A.length=g.ns.length:=cG.l;obtain⟨g4,abw,v1,v2,rfl,bC⟩:=fj.get (LV (ab:=A) (i:=i) aa);have nm:=bC;obtain⟨dp,gf,eA,rfl,db,_,_⟩:=bC.n.bz;obtain⟨fD,hP,fZ,rfl,fH,_,_⟩:=bC.d.bz;have po:=cS;obtain⟨ev,e2,dJ,rfl,hS,_,_⟩:=cS.n.bz;obtain⟨gH,k3,eY,rfl,mI,_,_⟩:=cS.d.bz;have du:=LX cG (j:=i) aa;have Aq:=cG.fS;have ab9:=KD (b5:=b5) (pl:=pl) U;rw[au] at ab9;have Ff:x.ao.length<=60:=by rcases xB fB with q|q|q;omega;omega;(rw[q.2.1];decide)
   have Tz:=fun c ax=>ay.zd.xq i x c (c6 _) aa U ax;refine af 0x61839d5f57 ?_;refine eu fun Hg=>?_;refine af 0x61821ce382 ?_;refine eu fun wH=>?_;refine af 0x3096e71c ?_;refine fc [9,10,33,1,2,6,7,8,12,13,21,22,23] ?_;refine bp ?_;refine' aK.pP 3 (fun(b8:(a2)×(a2)×(Int)×(Int)×(Value)×(Value)×(Value)×(Value)×(ai))=>match b8 with|(b7,be,cX,eo,gj,g2,fK,iO,c3)=>⟨[(9,.int .i64 cX),(10,.int .i64 eo)],[(wH,.row (jc be fK iO) 85),(Hg,.row [.int .i64 x.k,.int .i64 x.p,.int .i64 x.i,.slice bc x.ao.length bb,.slice bl x.ws.length bt,.slice b0 x.im.length cE] 96),(Hh,.row d 85),(fh,.row (jc b7 gj g2) 85),(ef,.row [.bool false,.slice none 0 0,.slice none 0 0] 85),(bG,.row (pn g (some ⟨mr,off,none⟩) bu cy ci) 26)],c3,cv.le c3/\gk c3 b7 gj g2/\gk c3 be fK iO/\te b5 pl i x ⟨A,fS,hG,ey⟩=⟨nE A be x.ao,b7,cX,eo⟩⟩) ?Rj ?RD
   case Rj=>
    refine af 0x2f81133a ?_;refine If (fun uZ=>?_) fun uZ=>?_
    ·have tN:x.k=3:=aa
     obtain⟨Jl,arA,arB⟩:=ON fB tN mA mX;obtain⟨TM,TN⟩:=cG.hi;obtain⟨TD,TE⟩:=cG.lo;have T3:=(dO.1 Jl).1;obtain⟨oH,F8,Es,EC,rfl,n9,pY⟩:=oY.vQ aa;have n9:=cr _ _ n9;obtain⟨y,an,vt⟩:=pY pl.toNat T3;rw[Jl] at an;injection an with an
     subst an;refine bp ?_;refine aK.draw I (by kernel_rfl) (a0:=[.val 0,.val 1,.val 2,.val 3,.val 4,.val 5,.val 6,.val 7,.val 8,.val 9,.val 10,.val 11,.val 12,.val 13,.bw 14,.b6 [13,12,11,10,9,8,7],.bw 15]) (by kernel_rfl) ?_;refine af 0x1260a5a1 ?_;refine' bX.val I I I I (Bk I I I I I) ?_;refine af 0x1260a5a1 ?_;refine' bX.val I I I I (KO I I I I I) ?_;refine Xv I V.LU ?_;refine bX.b6 ⟨?ik,?aX,?aT,?bd,?cm,?fz,?kh,trivial⟩ ?_;case ik=>
      refine' kq.val I I I (KO I I I I I) I ?he;case he=>exact lU
     case aX=>
      refine' kq.val I I I (j1 I I ?ar (g8 (fJ I) ?az)) I ?he;case ar=>exact qr
      case az=>assumption
      case he=>exact lU
     case aT=>
      refine' kq.val I I I (ag6 I I I (agx I) ?aQ ?ae) I ?he;case aQ=>exact cJ
      case ae=>exact cJ
      case he=>exact lU
     case bd=>
      refine' kq.val I I I (WS I I) I ?he;case he=>exact lU
     case cm=>
      refine' kq.val I I I (j1 I I ?ar (g8 (fJ I) ?az)) I ?he;case ar=>exact qr
      case az=>rfl
      case he=>exact lU
     case fz=>
      refine' kq.val I I I (zH I I (zB I I)) I ?he;case he=>exact lU
     case kh=>
      refine' kq.val I I I (WS I I) I ?he;case he=>exact lU
     refine af 0xc66702 ?_;refine cl (G:=Rh nm po du.bu Aq.bu du.nA Aq.nA du.ek Aq.ek aa aa) (h:=?_);rintro v' m' bj a8 ⟨rfl,rfl,a8⟩;refine af 0x5f04 ?_;refine If (fun Y5=>?_) fun Y5=>?_
     ·have jJ:ve (atR A i) fS:=(Zo du.nA Aq.nA).1 aa;refine af 0xc7199 ?_;refine iQ ⟨atR A i,atR A i,max hG (iU x pl),min ey (iU x pl),.slice dp gf eA,.slice fD hP fZ,.slice dp gf eA,.slice fD hP fZ,bj⟩ ?_;exact⟨a8,nm.mono a8,nm.mono a8,aza tN jJ⟩
     ·have jJ:¬ve (atR A i) fS:=fun q=>Y5 (by have:=(Zo du.nA Aq.nA).2 q;omega);refine lu ?_;refine iQ ⟨fS,atR A i,max hG (iU x pl),min ey (iU x pl),.slice ev e2 dJ,.slice gH k3 eY,.slice dp gf eA,.slice fD hP fZ,bj⟩ ?_;exact⟨a8,po.mono a8,nm.mono a8,azb tN jJ⟩
    ·have tN:¬x.k=3:=aa
     refine af 0x17c0899 ?_;refine If (fun Ei=>?_) fun Ei=>?_
     ·refine af 0x5f040a5b9 ?_;refine If (fun aki=>?_) fun aki=>?_
      ·
        have nq:x.k=2:=aa
        have ach:x.p=pl:=aa
        have ke:=ay.types x (dq U) nq;have E8:=(dO.1 ke).1;have jV:0<=x.i:=by rcases xB fB with q|q|q<;>omega
        obtain⟨lB,aFf,aCt,ZT,rfl,l7,aqM⟩:=Tq aa;obtain⟨r,aCC,ar,aDG,aDY,eH,eQ,rfl,sF⟩:=aqM x.i aa aa;rw[has _ _ ke ach] at ar;injection ar with ar
        subst ar;have l7:=cr _ _ l7;have SS:=sF.mono cr;obtain⟨iy,o1,gm,rfl,o4,_,_⟩:=sF.n.bz;obtain⟨g3,mE,eZ,rfl,m4,_,_⟩:=sF.d.bz;have tW:ep 8 (di (atR A i) (.slice dp gf eA) (.slice fD hP fZ)) (di (atR A i) (.slice dp gf eA) (.slice fD hP fZ))=true:=by simp[ep,js,db,fH,mS]
        have AG:ep 8 (di (b5 x.i.toNat) (.slice iy o1 gm) (.slice g3 mE eZ)) (di (b5 x.i.toNat) (.slice iy o1 gm) (.slice g3 mE eZ))=true:=by simp[ep,js,o4,m4,mS]
        refine bp ?_;refine aK.draw I (by kernel_rfl) (a0:=[.val 0,.val 1,.val 2,.val 3,.val 4,.val 5,.bw 6,.bw 7]) (by kernel_rfl) ?_;refine af 0x79864b42c ?_;refine' bB.ej I I I I I I I I I ec (Qx nm SS du.bu (oP _).bu du.ek (oP _).ek aa aa) ?_;rintro v' m' bj a8 ⟨_,rfl,dH,eP,rfl,ka⟩;have Sw:gk bj (nC (atR A i) (b5 x.i.toNat)) dH eP:=ka;obtain⟨iP,nX,dt,rfl,mh,_,_⟩:=ka.n.bz;obtain⟨rm,zj,mT,rfl,A2,_,_⟩:=ka.d.bz;refine af 0x639e ?_;refine iQ ⟨fS,nC (atR A i) (b5 x.i.toNat),hG,ey,.slice ev e2 dJ,.slice gH k3 eY,.slice iP nX dt,.slice rm zj mT,bj⟩ ?_;exact⟨a8,po.mono a8,Sw,azc nq ach⟩
      ·
        refine lu ?_;refine iQ ⟨fS,atR A i,hG,ey,.slice ev e2 dJ,.slice gH k3 eY,.slice dp gf eA,.slice fD hP fZ,cv⟩ ?_;exact⟨ai.le.refl _,po,nm,agr tN (fun q=>by omega)⟩
     ·refine lu ?_;refine iQ ⟨fS,atR A i,hG,ey,.slice ev e2 dJ,.slice gH k3 eY,.slice dp gf eA,.slice fD hP fZ,cv⟩ ?_;exact⟨ai.le.refl _,po,nm,agr tN (fun q=>by omega)⟩
   case RD=>
    rintro⟨b7,be,cX,eo,gj,g2,fK,iO,c3⟩ hinv;try simp only at hinv
    obtain⟨As,Sv,IA,c4⟩:=hinv;obtain⟨qC,FT,fE,rfl,OX,_,_⟩:=IA.n.bz;obtain⟨rp,FU,gh,rfl,V1,_,_⟩:=IA.d.bz;refine af 0xd5f012a5b9 ?_;refine dV [(71,.int .i64 ((0):Int)),(1,_),(2,_),(6,_),(7,_),(8,_),(9,_),(10,_),(13,_),(21,_),(22,_),(23,_),(69,_),(70,_)] ?_;refine bp ?_;refine' aK.bK (fun(b8:Nat×(List Value))=>match b8 with|(k,d2)=>⟨[(71,.int .i64 (k:Int))],[(wH,.row (jc be (.slice qC FT fE) (.slice rp FU gh)) 85),(Hg,.row [.int .i64 x.k,.int .i64 x.p,.int .i64 x.i,.slice bc x.ao.length bb,.slice bl x.ws.length bt,.slice b0 x.im.length cE] 96),(Hh,.row d2 85),(fh,.row (jc b7 gj g2) 85),(ef,.row [.bool false,.slice none 0 0,.slice none 0 0] 85),(bG,.row (pn g (some ⟨mr,off,none⟩) bu cy ci) 26)],c3,k<=x.ao.length/\et 3 (fun _=>jN c3) d2 (nE A be (x.ao.take k)),x.ao.length -k⟩) ⟨0,d⟩ ?hs ?bn
    case hs=>exact⟨c6 _,fj.mono fun _ _ _ ⟨p,q,ae,ag⟩=>⟨p,q,ae,ag.mono As⟩⟩
    case bn=>
     rintro⟨k,d2⟩ hinv;try simp only at hinv
     obtain⟨hk,sP⟩:=hinv;refine af 0xbe099 ?_;refine If (fun akr=>?_) fun akr=>?_
     ·obtain⟨at_,aeK,aCF,aC5,rfl,ET,aqG⟩:=iS.vQ aa;have ET:=(cr.trans As) _ _ ET;obtain⟨ie,yM,aD9⟩:=aqG k aa;obtain⟨w8,hM⟩:=Tz ie (dq yM);have Td:=sP.1;rw[OU,aaJ] at Td;have dX:(nE A be (x.ao.take k)).length=g.ns.length:=by rw[OU,aaJ]
      have sO:et 3 (fun _=>jN c3) (d2.take (0+ie.toNat*3)++jc be (.slice qC FT fE) (.slice rp FU gh)++d2.drop (0+ie.toNat*3+3)) (nE A be (x.ao.take (k+1))):=by
        rw[axa yM];exact sP.set (new:=jc be (.slice qC FT fE) (.slice rp FU gh)) (by rw[j8]) aa I (fun _ _ _ _ q=>q) ⟨_,_,I,IA⟩
      refine af 0xcc08738124d9d5f57 ?_;refine' n4 ?hs ?_;case hs=>exact xT _ _ _ (by show 0+ie.toNat*3+3<=d2.length;omega)
      refine af 0x1808f38 ?_;refine eS ⟨k+1,d2.take (0+ie.toNat*3)++jc be (.slice qC FT fE) (.slice rp FU gh)++d2.drop (0+ie.toNat*3+3)⟩ ?_;exact⟨aa,sO⟩
     ·obtain rfl:k=x.ao.length:=aa
      rw[uM] at sP;refine af 0x3011e757 ?_;refine eS ⟨i+1,nE A be x.ao,b7,cX,eo,d2,gj,g2,c3⟩ ?_ (hm:=.cons _ (.cons _ (.refl _)));exact⟨aa,cr.trans As,by rw[ab9,c4],sP,Sv⟩
  ·obtain rfl:i=g.ns.length:=aa
   have cG:=Df ay oP mA mX g.ns.length hi;have Tv:=Ww (b5:=b5) (pl:=pl) ay;rw[au] at cG Tv;obtain⟨TM,TN⟩:=cG.hi;obtain⟨TD,TE⟩:=cG.lo;have Aq:=cG.fS;have TM:-1000000<=hG:=TM;have TN:hG<=1000000:=TN;have TD:-1000000<=ey:=TD;have TE:ey<=1000000:=TE;have Tv:ey<=hG:=Tv;obtain⟨N,mU⟩:∃N:Nat,hG -ey=(N:Int):=⟨(hG -ey).toNat,aa⟩;have po:=cS;obtain⟨ev,e2,dJ,rfl,hS,_,_⟩:=cS.n.bz;obtain⟨gH,k3,eY,rfl,mI,_,_⟩:=cS.d.bz;have tW:ep 8 (di fS (.slice ev e2 dJ) (.slice gH k3 eY)) (di fS (.slice ev e2 dJ) (.slice gH k3 eY))=true:=by simp[ep,js,hS,mI,mS]
   have oU:ug b5 pl g=a4 (fS.z*(N:Int)) (fS.d*1):=by unfold ug;rw[au];show a4 (fS.z*(hG -ey)) (fS.d*1)=_;rw[mU]
   refine af 0x5f57 ?_;refine aK.draw I (by kernel_rfl) (a0:=[.val 0,.val 1,.val 2,.val 3,.bw 4,.b6 [0],.bw 5,.bw 6]) (by kernel_rfl) ?_;refine af 0x1842c ?_;rw[mU];refine bX.aew ?_;refine' bB.ej I I I I I I I I I ec (NU (n:=N) aa) ?_;rintro v' m' bj a8 ⟨_,rfl,dH,eP,rfl,ka⟩;have Sw:=ka;obtain⟨iP,nX,dt,rfl,mh,_,_⟩:=ka.n.bz;obtain⟨rm,zj,mT,rfl,A2,_,_⟩:=ka.d.bz;refine bB.b6 eN ?_;refine' bB.ej I I I I I I I I I (dF (e5 I) ec) (Vf (po.mono a8) Sw Aq.bu ⟨Nat.one_pos,Qc _⟩ Aq.ek (h9.mk (k:=1) (jk (by show(N:Int).natAbs<_;omega)) (show(1:Nat)<18446744073709551616 by decide)) aa aa) ?_;rintro v' m' c3 bN ⟨_,rfl,dH,eP,rfl,fA⟩;have Sz:=fA;obtain⟨D',Vi,ms,rfl,Kt,_,_⟩:=fA.n.bz;obtain⟨sr,Vj,qF,rfl,Gc,_,_⟩:=fA.d.bz;refine af 0x1abe39e ?_;refine b4 ?_;exact⟨cr.trans (a8.trans bN),I,_,_,MG oU.symm,Sz.cast oU.symm⟩
end
def ad2{J:ai}{b:Option Addr}{n c:Nat}{m:List (List bO)}(h:pb J b n c m):∀l∈m,KA l:=fun l aj=>by
 obtain⟨i,hi,rfl⟩:=List.getElem_of_mem aj;obtain⟨ae,_⟩:=h.at;obtain⟨mr,off,cells,e,_,_,jJ⟩:=h.eg aa;obtain⟨v,_,x,U,bc,bb,_,bi⟩:=jJ i aa;rw[cU hi] at U;injection U with U;subst U
 exact Z1 bi
abbrev kL (g:cM)(pl:Int)(m:List (List bO))(ts:List (List Int))(bits:Int):a2:=ug (lk m ts (2 ^ bits.toNat)) pl g
open Classical in
def nz (g:cM)(pl:Int)(m:List (List bO))(ts:List (List Int))(bits:Int):Int:=if iG g=0 then(if pl<0\/g.pl<=pl then 2 else if nD m=0 then(if nG bits ts=0 then(if m.length≠g.is.length\/ts.length≠g.is.length then 10 else if KJ g m ts then(if pk (kL g pl m ts bits)=true then 0 else 5) else 10) else nG bits ts) else nD m) else iG g
section
variable {g:cM}{pl bits:Int}{m:List (List bO)}{ts:List (List Int)}
def at0(h:iG g≠0):nz g pl m ts bits=iG g:=aG h
def at1(ae:iG g=0)(h:pl<0\/g.pl<=pl):nz g pl m ts bits=2:=by unfold nz;rw[aP ae,aP h]
def at2(ae:iG g=0)(ag:¬(pl<0\/g.pl<=pl))(h:nD m≠0):nz g pl m ts bits=nD m:=by unfold nz;rw[aP ae,aG ag,aG h]
def at3(ae:iG g=0)(ag:¬(pl<0\/g.pl<=pl))(aE:nD m=0)(h:nG bits ts≠0):nz g pl m ts bits=nG bits ts:=by unfold nz;rw[aP ae,aG ag,aP aE,aG h]
def at4(ae:iG g=0)(ag:¬(pl<0\/g.pl<=pl))(aE:nD m=0)(a6:nG bits ts=0)(h:m.length≠g.is.length\/ts.length≠g.is.length):nz g pl m ts bits=10:=by unfold nz;rw[aP ae,aG ag,aP aE,aP a6,aP h]
def at5(ae:iG g=0)(ag:¬(pl<0\/g.pl<=pl))(aE:nD m=0)(a6:nG bits ts=0)(dK:¬(m.length≠g.is.length\/ts.length≠g.is.length))(h:¬KJ g m ts):nz g pl m ts bits=10:=by unfold nz;rw[aP ae,aG ag,aP aE,aP a6,aG dK,aG h]
def adr(ae:iG g=0)(ag:¬(pl<0\/g.pl<=pl))(aE:nD m=0)(a6:nG bits ts=0)(dK:¬(m.length≠g.is.length\/ts.length≠g.is.length))(ga:KJ g m ts):(pk (kL g pl m ts bits)=true->nz g pl m ts bits=0)/\(pk (kL g pl m ts bits)=false->nz g pl m ts bits=5):=by
 unfold nz;rw[aP ae,aG ag,aP aE,aP a6,aG dK,aP ga];exact⟨fun h=>aP h,fun h=>aG (fun q=>by rw[h] at q;cases q)⟩
end
abbrev sm(J:ai)(g:cM)(pl:Int)(m:List (List bO))(ts:List (List Int))(bits:Int):Value->aJ->ai->Prop:=fun u m' ah=>J.le ah/\m'=[]/\((nz g pl m ts bits≠0/\u=.tuple #[K3,.int .i64 (nz g pl m ts bits)])\/(nz g pl m ts bits=0/\∃v1 v2,u=.tuple #[di (kL g pl m ts bits) v1 v2,.int .i64 0]/\hz ah (kL g pl m ts bits) v1 v2))
def sm.bad{J ah:ai}{g:cM}{pl bits:Int}{m:List (List bO)}{ts:List (List Int)}{e:Int}(he:nz g pl m ts bits=e)(aQ:e≠0)(hle:J.le ah):sm J g pl m ts bits (.tuple #[K3,.int .i64 e]) [] ah:=⟨hle,I,.inl ⟨by rw[he];exact aQ,by rw[he]⟩⟩
def Qk.un{J ah:ai}{r:a2}{u:Value}{m':aJ}(h:Qk J r u m' ah):J.le ah/\m'=[]/\∃(x:Bool) (b:Option Addr) (n c:Nat) (b':Option Addr) (kM c':Nat) (e:Int),u=.tuple #[.agg #[.bool x,.slice b n c,.slice b' kM c'],.int .i64 e]/\addrEq b b=true/\addrEq b' b'=true/\((pk r=true/\e=0/\x=decide (r.z<0)/\hz ah r (.slice b n c) (.slice b' kM c'))\/(pk r=false/\e=5/\Value.agg #[.bool x,.slice b n c,.slice b' kM c']=K3)):=by
 obtain⟨ae,ag,⟨aE,v1,v2,rfl,a6⟩|⟨aE,rfl⟩⟩:=h
 ·have dK:=a6
  obtain⟨b,c,rfl,q⟩:=a6.n.ch;obtain⟨b',c',rfl,dE⟩:=a6.d.ch;exact⟨ae,ag,_,b,_,c,b',_,c',0,I,q,dE,.inl ⟨aE,I,I,dK⟩⟩
 ·exact⟨ae,ag,false,none,0,0,none,0,0,5,I,I,I,.inr ⟨aE,I,I⟩⟩
def sm.fit{J ah:ai}{g:cM}{pl bits:Int}{m:List (List bO)}{ts:List (List Int)}{x:Bool}{v1 v2:Value}{e:Int}(h:(pk (kL g pl m ts bits)=true/\e=0/\x=decide ((kL g pl m ts bits).z<0)/\hz ah (kL g pl m ts bits) v1 v2)\/(pk (kL g pl m ts bits)=false/\e=5/\Value.agg #[.bool x,v1,v2]=K3))(gW:(pk (kL g pl m ts bits)=true->nz g pl m ts bits=0)/\(pk (kL g pl m ts bits)=false->nz g pl m ts bits=5))(hle:J.le ah):sm J g pl m ts bits (.tuple #[.agg #[.bool x,v1,v2],.int .i64 e]) [] ah:=by
 rcases h with⟨ae,rfl,rfl,a6⟩|⟨ae,rfl,aE⟩
 ·exact⟨hle,I,.inr ⟨gW.1 ae,_,_,I,a6⟩⟩
 ·rw[aE];exact sm.bad (gW.2 ae) bI hle
def et.u6{α:Type}{ah:ai}{e:TypeId}{R:α->List Value->Prop}{d:List Value}{xs:List α}{a n:Nat}(h:et 3 (fun _=>R) d xs)(aA:xs.length=n)(aj:n<=1000)(gX:ah a=some (d,e)):dz ah e 3 R (.slice (some ⟨a,0,none⟩) n n) xs:=by
 subst aA;exact⟨d,fg.row gX (by rw[iD,ft (by rw[h.1];exact b2 _)]) h.1 (fun _=>⟨b2 _,jg aj bI⟩) (fun _=>rfl),fun j x U=>h.2 j x U⟩
def sq(g:cM)(pl:Int)(b5:Nat->a2)(i:Nat):List a2:=(List.range g.is.length).map fun j=>if j<i/\(g.is[j]?).map (·.1)=some pl then b5 j else⟨0,1⟩
section
variable {g:cM}{pl:Int}{b5:Nat->a2}{i:Nat}{x:Int×Int}
def tv:(sq g pl b5 i).length=g.is.length:=by unfold sq;rw[e9,XT]
def D9{j:Nat}(h:j<g.is.length):(sq g pl b5 i)[j]?=some (if j<i/\(g.is[j]?).map (·.1)=some pl then b5 j else⟨0,1⟩):=by
 unfold sq;rw[h',GS h];rfl
def ajJ:sq g pl b5 0=List.replicate g.is.length ⟨0,1⟩:=by
 apply pK
 intro j;by_cases h:j<g.is.length
 ·rw[D9 h,aG (fun q=>by omega),GU,aP h]
 ·rw[jq (by rw[tv];omega),jq (by rw[kU];omega)]
def ajH(U:g.is[i]?=some x)(ap:¬x.1=pl):sq g pl b5 (i+1)=sq g pl b5 i:=by
 apply pK
 intro j;by_cases h:j<g.is.length
 ·rw[D9 h,D9 h]
  by_cases q:j=i
  ·subst q
   rw[U,aG (fun q=>ap (by injection q.2)),aG (fun q=>by omega)]
  ·simp only[show(j<i+1)=(j<i) from propext ⟨fun z=>by omega,fun z=>by omega⟩]
 ·rw[jq (by rw[tv];omega),jq (by rw[tv];omega)]
def ajI(U:g.is[i]?=some x)(ap:x.1=pl):sq g pl b5 (i+1)=(sq g pl b5 i).set i (b5 i):=by
 apply pK
 intro j;by_cases h:j<g.is.length
 ·rw[D9 h]
  by_cases q:j=i
  ·subst q
   rw[GW (by rw[tv];exact h),U,aP ⟨aa,by rw[<-ap];rfl⟩]
  ·rw[GV (fun r=>q r.symm),D9 h]
   simp only[show(j<i+1)=(j<i) from propext ⟨fun z=>by omega,fun z=>by omega⟩]
 ·rw[jq (by rw[tv];omega),jq (by rw[hy,tv];omega)]
def ajG(U:g.is[i]?=some x)(ap:x.1=pl):(sq g pl b5 g.is.length)[i]?=some (b5 i):=by
 have h:=(dO.1 U).1;rw[D9 h,U,aP ⟨h,by rw[<-ap];rfl⟩]
end
def Pw(g:cM)(m:List (List bO))(ts:List (List Int))(i:Nat):Prop:=∀(j:Nat) x,j<i->g.is[j]?=some x->∃l t,m[j]?=some l/\ts[j]?=some t/\(l.length:Int)=x.2/\(t.length:Int)=x.2
def agW{g:cM}{m:List (List bO)}{ts:List (List Int)}{i:Nat}{x:Int×Int}{l:List bO}{t:List Int}(h:Pw g m ts i)(U:g.is[i]?=some x)(aj:m[i]?=some l)(aM:ts[i]?=some t)(ae:(l.length:Int)=x.2)(ag:(t.length:Int)=x.2):Pw g m ts (i+1):=fun j y aW an=>by
 rcases ha j i with q|q
 ·exact h j y q an
 ·obtain rfl:j=i:=aa
  rw[U] at an;injection an with an;subst an
  exact⟨l,t,aj,aM,ae,ag⟩
def azX{g:cM}{m:List (List bO)}{ts:List (List Int)}(h:Pw g m ts g.is.length):KJ g m ts:=fun j x U=>h j x (dO.1 U).1 U
def YC{m:List (List bO)}{ts:List (List Int)}{M i:Nat}{l:List bO}{t:List Int}(aj:m[i]?=some l)(aM:ts[i]?=some t):lk m ts M i=a4 (hI (fF l) M (iq l) (t.map Int.toNat):Int) (fF l*M*2):=by
 unfold lk;rw[aj,aM]
def awq{α:Type}{p q a:α}{r:List α}:(p::q::a::r).Perm (a::p::q::r):=Bv (l₁:=[p,q])
section
variable {K:dW}{B:dN}{o:Oper}{n:Nat}{ds:er}{l:List (Nat×Value)}{m m':aJ}{J:ai}{fe:bY->aJ->ai->Prop}{d:Nat}
end
def lX(sb:List Int->Value->Nat×df->Prop)(J:ai)(e:TypeId)(v:Value)(il:List (List Int))(bs:aJ):Prop:=
 ∃vs,fg J e 1 v il.length vs/\bs.length=il.length/\∀(i:Nat) l w x,il[i]?=some l->vs[i]?=some w->bs[i]?=some x->sb l w x
def pJ(l:List Int)(w:Value)(x:Nat×df):Prop:=∃a,w=.slice (some ⟨a,0,none⟩) l.length l.length/\l.length<cK/\x=(a,.row (l.map (Value.int .i64)) 3)
section
variable {sb:List Int->Value->Nat×df->Prop}{J ah:ai}{e:TypeId}{v:Value}{il:List (List Int)}{bs:aJ}
def lX.at(h:lX sb J e v il bs):∃b c,v=.slice b il.length c/\(0<il.length->∃a off cells bA,b=some ⟨a,off,none⟩/\J a=some (cells,bA)/\∀i:Nat,i<il.length->∃l w x,il[i]?=some l/\nth cells (off+i*1)=some w/\bs[i]?=some x/\sb l w x/\∀a9 dy,sb a9 w dy->lX sb J e v (il.set i a9) (bs.set i dy)):=by
 obtain⟨vs,ae,ag,aE⟩:=h;obtain⟨b,c,rfl,aX,aT,bd⟩:=ae.inv;refine⟨b,c,I,fun ap=>?_⟩;obtain⟨a,off,cells,bA,rfl,cm,fz⟩:=bd ap;refine⟨a,off,cells,bA,I,cm,fun i hi=>?_⟩;have aN:=cU (l:=il) (i:=i) hi;have aH:=cU (l:=vs) (i:=i) (by omega);have bo:=cU (l:=bs) (i:=i) (by omega);refine⟨_,_,_,aN,by rw[jr,fz i (by omega)];exact aH,bo,aE _ _ _ _ aN aH bo,fun a9 dy aqQ=>⟨vs,by rw[hy];exact ae,by rw[hy,hy];exact ag,fun k l w x ca b7 cw=>?_⟩⟩;rw[qp] at ca cw;split at ca
 ·rename_i q;subst q;rw[aP I] at cw;rw[aP (by omega)] at cw;injection ca with ca;injection cw with cw;subst ca;subst cw
  rw[aH] at b7;injection b7 with b7;subst b7
  exact aqQ
 ·rename_i q;rw[aG q] at cw;exact aE _ _ _ _ ca b7 cw
def lX.snoc{vs:List Value}(ae:fg J e 1 v il.length vs)(ag:∀(i:Nat) l w x,il[i]?=some l->vs[i]?=some w->bs[i]?=some x->sb l w x)(aE:bs.length=il.length):lX sb J e v il bs:=⟨vs,ae,aE,ag⟩
def lX.rows(h:lX sb J e v il bs){ah:ai}(hle:J.le ah)(cG:∀l w x,sb l w x->∃y,x.2.rowOf=some y/\∀J:ai,J x.1=some y->gl J w l)(Jk:∀x∈bs,∀y,x.2.rowOf=some y->ah x.1=some y):dz ah e 1 (x9 ah) v il:=by
 obtain⟨vs,ae,ag,aE⟩:=h;refine⟨vs,ae.mono hle,fun i s hs=>?_⟩;have aj:=ae.len;have hi:i<il.length:=(dO.1 hs).1;have aH:=cU (l:=vs) (i:=i) (by omega);have bo:=cU (l:=bs) (i:=i) (by omega);obtain⟨y,aX,aT⟩:=cG _ _ _ (aE _ _ _ _ hs aH bo);have bd:=aT ah (Jk _ (dq bo) _ aX);have aF:(vs.drop (i*1)).take 1=[vs[i]]:=by rw[jr,tn (by omega)];rfl
 rw[aF];obtain⟨b,c,ak,_⟩:=bd.inv;rw[ak] at bd ⊢;exact⟨b,c,I,bd⟩
def pJ.row{l:List Int}{w:Value}{x:Nat×df}(h:pJ l w x):∃a,w=.slice (some ⟨a,0,none⟩) l.length l.length/\x=(a,.row (l.map (Value.int .i64)) 3)/\∀a9:List Int,a9.length=l.length->pJ a9 w (a,.row (a9.map (Value.int .i64)) 3):=by
 obtain⟨a,rfl,ae,rfl⟩:=h;exact⟨a,I,I,fun a9 q=>⟨a,by rw[q],by omega,I⟩⟩
def pJ.ok{l:List Int}{w:Value}{x:Nat×df}(h:pJ l w x):∃y,x.2.rowOf=some y/\∀J:ai,J x.1=some y->gl J w l:=by
 obtain⟨a,rfl,ae,rfl⟩:=h;exact⟨_,I,fun J gX=>gl.lit ae gX⟩
end
def axb{bs:aJ}{i a:Nat}{b:df}(b':df)(h:bs[i]?=some (a,b)):fY bs a b b' (bs.set i (a,b')):=by
 induction bs generalizing i with
 |nil=>cases h
 |cons x bs aC=>
  cases i with
  |zero=>simp at h;subst h;exact .head _ _ _ _
  |succ i=>simp at h;exact .tail _ (aC h)
def lX.dM{J:ai}{e:TypeId}{b:Option Addr}{n c i:Nat}{il:List (List Int)}{bs:aJ}(h:lX pJ J e (.slice b n c) il bs)(hi:i<il.length):∃a off cells bA ad l,b=some ⟨a,off,none⟩/\J a=some (cells,bA)/\il[i]?=some l/\nth cells (off+i*1)=some (.slice (some ⟨ad,0,none⟩) l.length l.length)/\(ad,df.row (l.map (Value.int .i64)) 3)∈bs/\
 ∀a9:List Int,a9.length=l.length->lX pJ J e (.slice b n c) (il.set i a9) (bs.set i (ad,.row (a9.map (Value.int .i64)) 3))/\fY bs ad (.row (l.map (Value.int .i64)) 3) (.row (a9.map (Value.int .i64)) 3) (bs.set i (ad,.row (a9.map (Value.int .i64)) 3)):=by
 obtain⟨b',c',az,ag⟩:=h.at;injection az with y4 y5 asi
 subst y4;subst y5;subst asi;obtain⟨a,off,cells,bA,rfl,aX,aT⟩:=ag (by omega);obtain⟨l,w,x,aN,aH,bo,db,fH⟩:=aT i hi;obtain⟨ad,rfl,rfl,hS⟩:=db.row;exact⟨a,off,cells,bA,ad,l,I,aX,aN,aH,dq bo,fun a9 dC=>⟨fH _ _ (hS a9 dC),axb _ bo⟩⟩
def agi{α:Type}{f:α->Value}{L:List α}{off:Nat}{x:α}(i:Nat)(h:i<L.length)(al:off=i:=by omega):gO off (L.map f) [f x]=some ((L.set i x).map f):=by subst al;exact Pm h
section
variable {K:dW}{B:dN}{E:bY}{cp:Exit->bY->aJ->ai->Prop}
def aK.aw0{c:Code}:∀{bs m e1:aJ} {J:ai},m.Perm (bs++e1)->(∀x∈bs,∃y,x.2.rowOf=some y)->
 (∀ah,J.le ah->(∀x∈bs,∀y,x.2.rowOf=some y->ah x.1=some y)->aK K B c E e1 ah cp)->aK K B c E m J cp:=by
 intro bs;induction bs with
 |nil=>intro m e1 J hm _ hk;exact aK.nZ hm.symm (hk J (ai.le.refl _) (fun x U=>by cases U))
 |cons b bs aC=>
  intro m e1 J hm al hk;refine aK.nZ hm.symm ?_;obtain⟨y,an⟩:=al b (.head _);refine aK.k8 (a:=b.1) (b:=b.2) an fun hle=>aC (.refl _) (fun x U=>al x (.tail _ U)) fun ah abS gD=>?_;refine hk ah (hle.trans abS) fun x U z aR=>?_;rcases fs.1 U with rfl|U
  ·rw[an] at aR;injection aR with aR;subst aR
   exact abS _ _ (ai.lC _ _ _)
  ·exact gD x U z aR
def lX.k7{c:Code}{sb:List Int->Value->Nat×df->Prop}{J:ai}{e:TypeId}{v:Value}{il:List (List Int)}{bs m e1:aJ}(h:lX sb J e v il bs)(cG:∀l w x,sb l w x->∃y,x.2.rowOf=some y/\∀J:ai,J x.1=some y->gl J w l)(hm:m.Perm (bs++e1))(hk:∀ah,J.le ah->dz ah e 1 (x9 ah) v il->aK K B c E e1 ah cp):aK K B c E m J cp:=by
 refine aK.aw0 hm (fun x U=>?_) fun ah hle gD=>hk ah hle (h.rows hle cG gD);obtain⟨vs,ae,ag,aE⟩:=h;obtain⟨i,hi⟩:=nK.1 U;have cI:=(dO.1 hi).1;have aj:=ae.len;obtain⟨y,aX,_⟩:=cG _ _ _ (aE i _ _ _ (cU (by omega)) (cU (by omega)) hi);exact⟨y,aX⟩
end
def qa (k:Nat)(l:List bO):List Int:=(Db (iq l) (fF l) (2 ^ k)).map Int.ofNat
def axq{k:Nat}{l:List bO}:cc .i64 (Db (iq l) (fF l) (2 ^ k))=(qa k l).map (Value.int .i64):=by
 unfold qa cc;rw[rh];rfl
def O4{k:Nat}{l:List bO}(h:m7 l=0):(qa k l).length=l.length:=by
 obtain⟨gj,g2,iB,o8⟩:=tc h;unfold qa;rw[e9,(afz (by rw[q8];exact gj) (ry iB) o8).len,q8]
structure GL (d:List Value) (il:List (List Int)) (bs:aJ):Prop where
 dl:d.length=il.length
 cV:bs.length=il.length
 r:∀(i:Nat) l w x,il[i]?=some l->d[i]?=some w->bs[i]?=some x->pJ l w x
def GL.snoc{d:List Value}{il:List (List Int)}{bs:aJ}{l:List Int}{w:Value}{x:Nat×df}(h:GL d il bs)(U:pJ l w x):GL (d++[w]) (il++[l]) (bs++[x]):=by
 have ae:=h.dl;have ag:=h.cV;refine⟨by simp[ae],by simp[ag],fun i a9 a' dy ba br bG=>?_⟩;rcases ha i il.length with q|q
 ·rw[sg q] at ba
  rw[sg aa] at br bG;exact h.r i a9 a' dy ba br bG
 ·rw[rf q] at ba
  rw[rf aa] at br bG;have aE:=(dO.1 ba).1;rw[x8] at aE;rw[show i -il.length=0 by omega] at ba;rw[show i -d.length=0 by omega] at br;rw[show i -bs.length=0 by omega] at bG;injection ba with ba
  injection br with br
  injection bG with bG
  subst ba;subst br;subst bG;exact U
def awE{α:Type}{b x y c a:α}{aS bs:List α}:(b::x::y::(aS++((bs++[c])++[a]))).Perm (aS++(a::c::b::x::y::bs)):=by
 have ae:((bs++[c])++[a]).Perm (a::c::bs):=(ia (l₂:=[a])).trans (List.Perm.cons a (ia (l₂:=[c])));have ag:([b,x,y]++(aS++((bs++[c])++[a]))).Perm (aS++([b,x,y]++([a,c]++bs))):=(Ls [b,x,y] aS _).trans (zT aS (zT _ ae));exact ag.trans (zT aS (Ls [b,x,y] [a,c] bs))
abbrev aiU(J:ai)(m:List (List bO))(k:Nat):Value->aJ->ai->Prop:=fun u m' ah=>J.le ah/\∃b c,u=.tuple #[.agg #[.int .i64 (k:Int),.slice b m.length c],.int .i64 0]/\lX pJ ah 22 (.slice b m.length c) (m.map (qa k)) m'
section
variable {Q:da Tryz.prog}{g0:Nat}{J:ai}
def axn{cN:Nat}{ys:List Value}:tm (aU Q g0) 21 [.pointer (some ⟨cN,0,none⟩)] .returning [(cN,.row ys 41)] J (fun u m' ah=>u=.returning/\m'=[(cN,.row ys 41)]/\J=ah):=by
 refine tm.b9 (b1 Tryz.func21) I I fun H=>?_;refine rg ?_;refine' W.recover I I I I I I I ?_;refine cl (G:=Zf) (h:=?_);rintro v' m' ah hle ⟨rfl,rfl⟩;refine nh ?_;exact⟨by exact .inl I,I,[],_,.nil,.refl _,I,I,I⟩
def axp{m:List (List bO)}{k:Nat}{b:Option Addr}{c:Nat}{aV:TypeId}(cq:J 2=some (cc .u8 m8,aV))(aB:Nat.blt 2 (aU Q g0).g0=true)(h:pb J b m.length c m)(rK:m.length<=1000)(qQ:∀l∈m,l.length<=1000)(hg:∀l∈m,Bd l)(rN:nD m=0)(mV:1<=k)(Cn:k<=30):
 Fn (aU Q g0) 7 [.slice b m.length c,.int .i64 (k:Int)] [] J (aiU J m k):=by
 have aH:addrEq b b=true:=h.addr;obtain⟨eH,eQ⟩:=ae4 rN;refine mO.afv (mO.b9 (b1 Tryz.func7) I I fun H=>?_);refine rg ?_;refine eu fun cD=>?_;refine eu fun cN=>?_;refine af 0x4b38 ?_;refine' W.defer I I I I I I I ?_;refine nh ?_;refine fc [0,1,4,5] ?_;refine bp ?_;refine' aK.hp 0 [(15,.bool (decide (((k:Int)<1\/30<(k:Int)))))] ?u2 ?u5;case u2=>
  refine af 0x903a ?_;refine eX 12 (fun Iv=>?_) fun Iv=>?_
  ·refine af 0xc237b ?_;refine ho (hC ?_);omega
  ·refine af 0xc2081 ?_;refine ho (hC ?_);omega
 case u5=>
  refine bp ?_;refine If (fun gh=>?_) fun gh=>?_
  ·exfalso;omega
  ·refine af 0x100e757 ?_;refine eu fun ef=>?_;refine af 0xe71c ?_;refine W.Mg I I I I I I I I (a1:=[]) (cB:=_) (.refl _) (afq cq aB h rK qQ hg) ?_ ?_
   rotate_left 1
   ·rintro bx m' e3 cQ ⟨rfl,hle,aQ,rfl⟩;exact absurd rN aQ
   rintro v' m' bj hle ⟨a8,rfl,_,bc,bb,rfl,eO⟩;have aN:addrEq bc bc=true:=eO.addr;have eg:=eO.eg;have oV:=ad2 h;refine af 0x1abe025 ?_;refine dV [(22,.int .i64 ((0):Int)),(1,_),(4,_),(5,_),(6,_),(20,_),(21,_)] ?_;refine bp ?_;refine' aK.bK (fun(b8:Nat×Value×aJ×(List Value)×aJ×ai)=>match b8 with|(i,w,aS,d,bs,cv)=>⟨[(22,.int .i64 (i:Int))],(ef,.row [.int .i64 (k:Int),w] 40)::(cN,.row [.int .i64 0] 41)::(cD,.row [.int .i64 0,.slice none 0 0] 40)::(aS++bs),cv,i<=m.length/\bj.le cv/\dY 22 1 w i d aS/\GL d ((m.take i).map (qa k)) bs,m.length -i⟩) ⟨0,.slice none 0 0,[],[],[],bj⟩ ?hs ?bn
   case hs=>exact⟨c6 _,ai.le.refl _,.inl ⟨.nil,xZ,xA⟩,⟨I,I,fun i l w x U=>by cases U⟩⟩
   case bn=>
    rintro⟨i,w,aS,d,bs,cv⟩ hinv;try simp only at hinv
    obtain⟨hi,cr,nS,Nd⟩:=hinv;refine af 0xbe099 ?_;refine If (fun n7=>?_) fun n7=>?_
    ·obtain⟨mr,off,cells,e,rfl,IN,jJ⟩:=eg aa;obtain⟨v,az,l,aj,bl,bt,rfl,gW⟩:=jJ i aa;have aH:addrEq bl bl=true:=gW.addr;have IN:=cr _ _ IN;have gW:=dz.mono (R':=jN cv) cr (fun _ _ q=>q.mono cr) gW;obtain⟨iy,gm,rfl,o4⟩:=nS.kC;have qO:=eQ l (dq aj);have mZ:=oV l (dq aj);obtain⟨gj,g2,iB,o8⟩:=tc qO;have ap9:=(hg l (dq aj)).2;have vy:=axV (Q:=Q) (g0:=g0) (J:=cv) (ps:=iq l) (s:=fF l) (bits:=k) (b:=bl) (c:=bt) (by rw[q8];exact gW) (by rw[q8];exact gj) (by rw[q8];exact g2) (ry iB) aa o8 aa;rw[q8] at vy;refine af 0x2f8124d9d5f57 ?_;refine aK.draw I (by kernel_rfl) (a0:=[.val 0,.val 1,.val 2,.val 3,.bw 4,.iF 5,.b6 [1,0],.bw 6,.val 7,.bw 8]) (by kernel_rfl) ?_;refine af 0x852d ?_;refine dl I (G:=vy) (h:=?_);rintro v' m' e3 hle ⟨cQ,bG,rfl,rfl⟩;have aqb:GL (d++[.slice (some ⟨bG,0,none⟩) l.length l.length]) ((m.take (i+1)).map (qa k)) (bs++[(bG,.row (cc .i64 (Db (iq l) (fF l) (2 ^ k))) 3)]):=by{rw[ly,aj,zW];exact Nd.snoc ⟨bG,by rw[O4 qO],by rw[O4 qO];exact jg g2 bI,by rw[axq]⟩}
     refine bX.buildSlice I I I I I I (ee I) I I I fun Qu=>?_;refine bX.b6 eN ?_;refine' bX.nP I I (v3 I I I I I I (ee I) (agY Q g0) (fun i q=>by cases q) ?c1 ?hm ?U ?cH ?c7 ?aW ?aj fun aGb adU abk=>?_);case c1=>exact nS
     case hm=>exact(Ls [_,_,_,_,_] aS bs)
     case U=>exact lR
     case cH=>rfl
     case c7=>rfl
     case aW=>exact Nat.one_pos
     case aj=>exact(show i+1<=1000000 by omega)
     obtain⟨gH,eY,rfl⟩:=abk.tD;refine bX.nZ (m':=(ef,.row [.int .i64 (k:Int),.slice iy i gm] 40)::(cN,_)::(cD,_)::(adU++((bs++[(bG,.row (cc .i64 (Db (iq l) (fF l) (2 ^ k))) 3)])++[(Qu,_)]))) awE.symm ?_;refine af 0x6023ce38d ?_;refine eS ⟨i+1,.slice gH (i+1) eY,adU,d++[.slice (some ⟨bG,0,none⟩) l.length l.length],bs++[(bG,.row (cc .i64 (Db (iq l) (fF l) (2 ^ k))) 3)],e3⟩ ?_ (hm:=.cons_cons _ (.cons_cons _ (.cons_cons _ (Ll (oB _ _) _))));exact⟨aa,cr.trans cQ,abk,aqb⟩
    ·obtain rfl:i=m.length:=aa
     rw[uM] at Nd;refine af 0x357 ?_;obtain⟨g3,eZ,rfl⟩:=nS.tD;refine nS.k7 (e1:=(ef,_)::(cN,_)::(cD,_)::bs) (Ls [_,_,_] aS bs) (fun lx fa au=>?_);have eO:lX pJ lx 22 (.slice g3 m.length eZ) (m.map (qa k)) bs:=lX.snoc (by rw[e9];exact au) Nd.r (by rw[Nd.cV]);refine af 0x6af8e7199 ?_;refine⟨.returning,I,.inr ⟨21,#[.pointer (some ⟨cN,0,none⟩)],#[],[(cN,.row [.int .i64 0] 41)],(ef,_)::(cD,_)::bs,I,.swap _ _ _,axn.mono ?_⟩⟩;rintro Dn m' ah ⟨rfl,rfl,rfl⟩ _;exact .inl ⟨I,_,bs,.cell I (.tail _ (.tail _ (.head _))) (vP (fJ I) I) (.cell I (.head _) (g8 (fJ I) I) .nil),.cons _ (.cons _ (.cons _ (.refl _))),a8.trans (cr.trans fa),g3,eZ,I,eO⟩
end
def a2.q(r:a2):Rat:=mkRat r.z r.d
def V5{z:Int}{d:Nat}(av:0<d):(a4 z d).q=mkRat z d:=by
 have ae:=vJ (z:=z) av;have ag:=(k4 (z:=z) av).1;unfold a2.q;rw[Rat.mkRat_eq_iff aa aa];exact ae
def axi{r s:a2}(ar:0<r.d)(hs:0<s.d):s.q -r.q=mkRat (s.z*r.d -r.z*s.d) (s.d*r.d):=by
 unfold a2.q;rw[Rat.sub_eq_add_neg,Rat.neg_mkRat,Rat.mkRat_add_mkRat _ _ aa aa,GP,<-P0]
def adN{z:Int}{d:Nat}(av:0<d):0<=mkRat z d↔0<=z:=by
 rw[<-Rat.divInt_ofNat];exact Rat.divInt_nonneg_iff_of_pos_right aa
def V4{r s:a2}(ar:0<r.d)(hs:0<s.d):r.q<=s.q↔r.z*s.d<=s.z*r.d:=by
 rw[Rat.le_iff_sub_nonneg,axi ar hs,adN (ib hs ar)];omega
def V6{r s:a2}(ar:0<r.d)(hs:0<s.d):(a4 (r.z*s.d+s.z*r.d) (r.d*s.d)).q=r.q+s.q:=by
 rw[V5 (ib ar hs)];unfold a2.q;rw[Rat.mkRat_add_mkRat _ _ aa aa]
def afe{r s:a2}(ar:0<r.d)(hs:0<s.d):(a4 (r.z*s.z) (r.d*s.d)).q=r.q*s.q:=by
 rw[V5 (ib ar hs)];unfold a2.q;rw[Rat.mkRat_mul_mkRat]
def O1(z:Int):(⟨z,1⟩:a2).q=(z:Rat):=by
 show mkRat z 1=_;rw[Rat.mkRat_eq_div];show(z:Rat) / ((1:Nat):Rat)=z
 grind
def afc{r:a2}:(⟨-r.z,r.d⟩:a2).q=-r.q:=(Rat.neg_mkRat _ _).symm
def afd{r:a2}(ar:0<r.d):0<=r.q↔0<=r.z:=adN ar
def afb{r s:a2}(ar:0<r.d)(hs:0<s.d):ve r s↔s.q<r.q:=by
 unfold ve;rw[<-Rat.not_le,V4 ar hs];omega
structure Lj (ns:List dn) (a n:Nat):Prop where
 Py:∀(p q:Nat) x y c,a<=p->p<n->a<=q->q<n->ns[p]?=some x->ns[q]?=some y->c∈x.ao->c∈y.ao->p=q
def akQ{ns:List dn}{rec:Nat->Option (Nat×List iv)}(ar:∀m n e,rec m=some (n,e)->(m<n/\GR ns m n)/\Lj ns m n):∀{cs:List Int} {m n:Nat} {e:List iv},hc rec cs m=some (n,e)->Lj ns m n/\∀c∈cs,∀(p:Nat) x,m<=p->p<n->ns[p]?=some x->c∈x.ao->False:=by
 intro cs;induction cs with
 |nil=>
  intro m n e h;simp only[hc,cb,c8] at h;obtain⟨rfl,rfl⟩:=h;exact⟨⟨fun p q x y c ae ag=>by omega⟩,fun c ax=>by cases ax⟩
 |cons c r aC=>
  intro m n e h
  have h:(if c≠(m:Int) then none else match rec m with
   |none=>none
   |some (bH,es)=>match hc rec r bH with
    |none=>none
    |some (c2,u9)=>some (c2,es++u9))=some (n,e):=h
  split at h
  ·cases h
  ·rename_i ax;have ax:c=(m:Int):=x4.1 ax;split at h
   ·cases h
   ·rename_i bH aF ae;obtain⟨⟨ba,br⟩,bG⟩:=ar _ _ _ ae;split at h
    ·cases h
    ·rename_i c2 aV ag;simp only[cb,c8] at h;obtain⟨rfl,rfl⟩:=h;obtain⟨bc,bl,b0,dp⟩:=Mh (fun m n e q=>(ar m n e q).1) ag;obtain⟨d1,d2⟩:=aC ag;have lo:∀(p:Nat) x z,m<=p->p<bH->ns[p]?=some x->z∈x.ao->(p:Int)<z/\z<bH:=br.xq;have hi:∀(p:Nat) x z,bH<=p->p<c2->ns[p]?=some x->z∈x.ao->(p:Int)<z/\z<c2:=b0;refine⟨⟨fun p q x y z mX tS jU lq U an AI NO=>?_⟩,fun z aR p x mX tS U AI=>?_⟩
     ·rcases ha p bH with s|s
      ·rcases ha q bH with t|t
       ·exact bG.Py p q x y z mX s jU t U an AI NO
       ·have:=lo p x z mX s U AI;have:=hi q y z t lq an NO;omega
      ·rcases ha q bH with t|t
       ·have:=hi p x z s tS U AI;have:=lo q y z jU t an NO;omega
       ·exact d1.Py p q x y z s tS t lq U an AI NO
     ·rcases ha p bH with s|s
      ·have:=lo p x z mX s U AI;rcases fs.1 aR with t|t
       ·omega
       ·have:=dp z t;omega
      ·rcases fs.1 aR with t|t
       ·have:=hi p x z s tS U AI;omega
       ·exact d2 z t p x s tS U AI
def azR{ns:List dn}:∀(f:Nat) (p d:Int) (a n:Nat) (e:List iv),gq ns f p d a=some (n,e)->Lj ns a n:=by
 intro f;induction f with
 |zero=>intro p d a n e h;cases h
 |succ f aC=>
  intro p d a n e h;unfold gq at h;split at h
  ·cases h
  ·rename_i x U;split at h
   ·cases h
   ·rename_i c2 es ag;simp only[cb,c8] at h;obtain⟨rfl,rfl⟩:=h;obtain⟨bc,bl⟩:=akQ (ns:=ns) (fun m n e q=>⟨Pu _ _ _ _ _ _ q,aC _ _ m n e q⟩) ag;refine⟨fun p q y z c mX tS jU lq an aR Tb Tc=>?_⟩;rcases uP mX with s|s
    ·rcases uP jU with t|t
     ·omega
     ·subst s;rw[U] at an;injection an with an;subst an
      exact(bl c Tb q z t lq aR Tc).elim
    ·rcases uP jU with t|t
     ·subst t;rw[U] at aR;injection aR with aR;subst aR
      exact(bl c Tc p y s tS an Tb).elim
     ·exact bc.Py p q y z c s tS t lq an aR Tb Tc
def kS.ato{g:cM}(h:kS g):Lj g.ns 0 g.ns.length:=by
 obtain⟨es,ae,_⟩:=h.walk;exact azR _ _ _ _ _ _ ae
def qz (b5:Nat->a2)(pl:Int)(g:cM)(i:Nat):a2:=atR (iN b5 pl g.ns i).ab i
def ayN{b5:Nat->a2}{pl:Int}{ns:List dn}:∀i,(iN b5 pl ns i).ab.length=ns.length:=by
 intro i;induction i with
 |zero=>exact kU
 |succ i aC=>
  show(match ns[i]? with|none=>iN b5 pl ns i|some x=>te b5 pl i x (iN b5 pl ns i)).ab.length=_
  split
  ·exact aC
  ·show(nE _ _ _).length=_;rw[OU];exact aC
def ajd{g:cM}(h:kS g){b5:Nat->a2}{pl:Int}{p c:Nat}{x:dn}(U:g.ns[p]?=some x)(ax:(c:Int)∈x.ao):qz b5 pl g c=pO b5 pl x (qz b5 pl g p):=by
 have ap:=(dO.1 U).1;have hk:=h.zd.xq p x c (c6 _) ap U ax;have key:∀i,p+1<=i->i<=c->(iN b5 pl g.ns i).ab[c]?=some (pO b5 pl x (qz b5 pl g p)):=by
  intro i;induction i with
  |zero=>intro q;omega
  |succ i aC=>
   intro ae ag;have hi:i<g.ns.length:=aa;rw[KD (cU hi)];show(nE _ _ _)[c]?=_;have nr:=fun d av=>h.zd.xq i _ d (c6 _) hi (cU hi) av;rw[aw9 (fun d av=>by have:=nr d av;omega) (by rw[ayN];omega)];rcases uP ae with s|s
   ·obtain rfl:p=i:=aa;have e:g.ns[p]=x:=by rw[cU ap] at U;injection U
    rw[e,aP ax];rfl
   ·rw[aG (fun q=>by
     have:=h.ato.Py p i x _ c (c6 _) ap (c6 _) hi U (cU hi) ax q;omega)]
    exact aC aa aa
 have:=key c aa (b2 _);show(((iN b5 pl g.ns c).ab[c]?).getD ⟨0,1⟩)=_;rw[this];rfl
def aje{g:cM}{b5:Nat->a2}{pl:Int}:qz b5 pl g 0=⟨0,1⟩:=by
 show((List.replicate g.ns.length (⟨0,1⟩:a2))[0]?).getD ⟨0,1⟩=_;rw[GU];split<;>rfl
def dot:List Rat->List Rat->Rat
 |a::oH,b::bs=>a*b+dot oH bs
 |_,_=>0
def pG:List Rat->Rat
 |[]=>0
 |a::l=>a+pG l
def uC:List Rat->List Rat->Rat
 |a::oH,b::bs=>(a -b).abs+uC oH bs
 |_,_=>0
def auA{x y h:Rat}(ae:y<=h)(ag:-y<=h):x*y<=x.abs*h:=by
 rcases Rat.le_total (a:=0) (b:=x) with q|q
 ·rw[Rat.abs_of_nonneg q];exact Rat.mul_le_mul_of_nonneg_left ae q
 ·rw[Rat.abs_of_nonpos q];have:=Rat.mul_le_mul_of_nonneg_left (c:=-x) ag (by grind)
  grind
def ZH{e:Rat}:∀{a u w:List Rat},(∀x∈a,0<=x)->u.length=a.length->w.length=a.length->(∀(k:Nat) x y,u[k]?=some x->w[k]?=some y->x<=y+e)->dot a u<=dot a w+pG a*e:=by
 intro a;induction a with
 |nil=>intro u w _ _ _ _;show(0:Rat)<=0+0*e;grind
 |cons p a aC=>
  intro u w aQ hu hw h
  match u,w,hu,hw with
  |x::u,y::w,hu,hw=>
   have ae:=aC (u:=u) (w:=w) (fun z aR=>aQ z (.tail _ aR)) (by simpa using hu) (by simpa using hw) (fun k x y U an=>h (k+1) x y U an);have ag:=Rat.mul_le_mul_of_nonneg_left (h 0 x y I I) (aQ p (.head _));show p*x+dot a u<=p*y+dot a w+(p+pG a)*e
   grind
def ZG{e:Rat}:∀{a u:List Rat},(∀x∈a,0<=x)->u.length=a.length->(∀x∈u,x<=e)->dot a u<=pG a*e:=by
 intro a;induction a with
 |nil=>intro u _ _ _;show(0:Rat)<=0*e;grind
 |cons p a aC=>
  intro u aQ hu h
  match u,hu with
  |x::u,hu=>
   have ae:=aC (u:=u) (fun z aR=>aQ z (.tail _ aR)) (by simpa using hu) (fun z aR=>h z (.tail _ aR));have ag:=Rat.mul_le_mul_of_nonneg_left (h x (.head _)) (aQ p (.head _));show p*x+dot a u<=(p+pG a)*e
   grind
def ZI{e:Rat}:∀{a u:List Rat},(∀x∈a,0<=x)->u.length=a.length->(∀x∈u,e<=x)->pG a*e<=dot a u:=by
 intro a;induction a with
 |nil=>intro u _ _ _;show 0*e<=(0:Rat);grind
 |cons p a aC=>
  intro u aQ hu h
  match u,hu with
  |x::u,hu=>
   have ae:=aC (u:=u) (fun z aR=>aQ z (.tail _ aR)) (by simpa using hu) (fun z aR=>h z (.tail _ aR));have ag:=Rat.mul_le_mul_of_nonneg_left (h x (.head _)) (aQ p (.head _));show(p+pG a)*e<=p*x+dot a u
   grind
def ZJ{lo hi:Rat}:∀{a b w:List Rat},a.length=w.length->b.length=w.length->(∀x∈w,lo<=x/\x<=hi)->dot a w -dot b w<=uC a b*((hi -lo) / 2)+(pG a -pG b)*((hi+lo) / 2):=by
 intro a;induction a with
 |nil=>
  intro b w aI ak h;obtain rfl:w=[]:=mQ aI.symm;obtain rfl:b=[]:=mQ ak;show(0:Rat) -0<=0*((hi -lo) / 2)+(0 -0)*((hi+lo) / 2)
  grind
 |cons p a aC=>
  intro b w aI ak h;cases w with
  |nil=>cases aI
  |cons y w=>
   cases b with
   |nil=>cases ak
   |cons q b=>
    have ae:=aC (b:=b) (w:=w) (by simpa using aI) (by simpa using ak) (fun z aR=>h z (.tail _ aR));obtain⟨aX,aT⟩:=h y (.head _);have ag:=auA (x:=p -q) (y:=y -(hi+lo) / 2) (h:=(hi -lo) / 2) (by grind) (by grind);show p*y+dot a w -(q*y+dot b w)<=((p -q).abs+uC a b)*((hi -lo) / 2)+(p+pG a -(q+pG b))*((hi+lo) / 2)
    grind
def aht:∀{a b:List Rat},uC a b=uC b a:=by
 intro a;induction a with
 |nil=>intro b;cases b<;>rfl
 |cons p a aC=>
  intro b;cases b with
  |nil=>rfl
  |cons q b=>show(p -q).abs+uC a b=(q -p).abs+uC b a;rw[Rat.abs_sub_comm,aC]
structure Yj (a:List Rat) (n:Nat):Prop where
 len:a.length=n
 nA:∀x∈a,0<=x
 sum:pG a=1
structure LG (g:cM) (pl:Int) (tb:Nat->List Rat) (V:Nat->Rat):Prop where
 e:∀(i:Nat) x,g.ns[i]?=some x->x.k=3->V i=((iU x pl:Int):Rat)
 m:∀(i:Nat) x,g.ns[i]?=some x->x.k≠3->Yj (tb i) x.ao.length/\V i=dot (tb i) (x.ao.map fun c=>V c.toNat)
section
variable {g:cM}{b5:Nat->a2}{pl:Int}
open Classical in
def aoL(h:kS g)(oP:∀s,jB 9 (b5 s))(aQ:0<=pl)(ae:pl<g.pl){i:Nat}{x:dn}(U:g.ns[i]?=some x)(hk:x.k=3):∀j,i+1<=j->j<=g.ns.length->(qz b5 pl g i).q<=(iN b5 pl g.ns j).fS.q/\iU x pl<=(iN b5 pl g.ns j).hi/\(iN b5 pl g.ns j).lo<=iU x pl:=by
 intro j;have hi:=(dO.1 U).1;induction j with
 |zero=>intro q;omega
 |succ j aC=>
  intro aX aT;have aW:g.ns.length>j:=aa;have cG:=Df h oP aQ ae j aa;have eg:=LX cG (j:=j) aW;rw[KD (cU aW)];show _<=(if _ then _ else _:a2).q/\_<=(if _ then max _ _ else _:Int)/\(if _ then min _ _ else _:Int)<=_;rw[Int.max_def,Int.min_def];rcases uP aX with s|s
  ·obtain rfl:i=j:=aa;have e:g.ns[i]=x:=by rw[cU hi] at U;injection U
   rw[e,aP hk,aP hk];refine⟨?_,by split<;>omega,by split<;>omega⟩;split
   ·exact Rat.le_refl
   ·rename_i q;have:¬ve (atR (iN b5 pl g.ns i).ab i) (iN b5 pl g.ns i).fS:=fun z=>q ⟨hk,z⟩;rw[afb eg.bu.1 cG.fS.bu.1] at this;exact Rat.not_lt.1 this
  ·obtain⟨ba,br,bG⟩:=aC aa aa;refine⟨?_,by split<;>(try split)<;>omega,by split<;>(try split)<;>omega⟩;split
   ·rename_i q;have:=(afb eg.bu.1 cG.fS.bu.1).1 q.2;exact Rat.le_trans ba (Rat.le_of_lt this)
   ·exact ba
def aA4(h:kS g)(oP:∀s,jB 9 (b5 s))(aQ:0<=pl)(ae:pl<g.pl){zv C7:Nat->List Rat}{kx ic:Nat->Rat}(gn:LG g pl zv kx)(du:LG g pl C7 ic)
 (arT:∀(i:Nat) x,g.ns[i]?=some x->x.k≠3->¬(x.k=2/\x.p=pl)->zv i=C7 i)(arv:∀(i:Nat) x,g.ns[i]?=some x->x.k=2->x.p=pl->uC (C7 i) (zv i)=2*(b5 x.i.toNat).q){G:Rat}{hi lo:Int}(cS:(iN b5 pl g.ns g.ns.length).fS.q=G)(lK:(iN b5 pl g.ns g.ns.length).hi=hi)(ji:(iN b5 pl g.ns g.ns.length).lo=lo):
 kx 0 -ic 0<=G*((hi -lo:Int):Rat)/\ic 0 -kx 0<=G*((hi -lo:Int):Rat):=by
 have dS:((hi -lo:Int):Rat)=(hi:Rat) -(lo:Rat):=Rat.intCast_sub _ _;have key:∀k i,g.ns.length -i<=k->i<g.ns.length->((lo:Rat)<=kx i/\kx i<=hi)/\((lo:Rat)<=ic i/\ic i<=hi)/\kx i -ic i<=((hi:Rat) -lo)*(G -(qz b5 pl g i).q)/\ic i -kx i<=((hi:Rat) -lo)*(G -(qz b5 pl g i).q):=by
  intro k;induction k with
  |zero=>intro i aN aH;omega
  |succ k aC=>
   intro i aN aH;have U:g.ns[i]?=some g.ns[i]:=cU aH;generalize g.ns[i]=x at U;have abX:lo<=hi:=by have:=Ww (b5:=b5) (pl:=pl) h;omega
   have abX:(lo:Rat)<=hi:=Rat.intCast_le_intCast.2 abX;by_cases hk:x.k=3
   ·obtain⟨ba,br,bG⟩:=aoL h oP aQ ae U hk g.ns.length aH (b2 _);rw[cS] at ba;rw[lK] at br;rw[ji] at bG;have br:((iU x pl:Int):Rat)<=hi:=Rat.intCast_le_intCast.2 br;have bG:(lo:Rat)<=((iU x pl:Int):Rat):=Rat.intCast_le_intCast.2 bG;rw[gn.e i x U hk,du.e i x U hk];have cD:=Rat.mul_nonneg (show(0:Rat)<=hi -lo by grind) (show(0:Rat)<=G -(qz b5 pl g i).q by grind);exact⟨⟨bG,br⟩,⟨bG,br⟩,by grind,by grind⟩
   ·obtain⟨vO,RK⟩:=gn.m i x U hk;obtain⟨C6,H4⟩:=du.m i x U hk;have Nj:=fun c ax=>h.zd.xq i x c (c6 _) aH U ax;have pp:∀c∈x.ao,((lo:Rat)<=kx c.toNat/\kx c.toNat<=hi)/\((lo:Rat)<=ic c.toNat/\ic c.toNat<=hi)/\kx c.toNat -ic c.toNat<=((hi:Rat) -lo)*(G -(pO b5 pl x (qz b5 pl g i)).q)/\ic c.toNat -kx c.toNat<=((hi:Rat) -lo)*(G -(pO b5 pl x (qz b5 pl g i)).q):=fun c ax=>by
     have hM:=Nj c ax;have:=aC c.toNat aa aa;rw[ajd h U (c:=c.toNat) (by rw[show((c.toNat:Nat):Int)=c by omega];exact ax)] at this;exact this
    have N5:(x.ao.map fun c=>kx c.toNat).length=(zv i).length:=by rw[e9,vO.len]
    have AM:(x.ao.map fun c=>ic c.toNat).length=(C7 i).length:=by rw[e9,C6.len]
    have N6:(zv i).length=(C7 i).length:=by rw[vO.len,C6.len]
    have adC:∀z∈x.ao.map fun c=>kx c.toNat,(lo:Rat)<=z/\z<=hi:=fun z aR=>by
     obtain⟨c,ax,rfl⟩:=lf.1 aR;exact(pp c ax).1
    have Oh:∀z∈x.ao.map fun c=>ic c.toNat,(lo:Rat)<=z/\z<=hi:=fun z aR=>by
     obtain⟨c,ax,rfl⟩:=lf.1 aR;exact(pp c ax).2.1
    have bc:=ZG vO.nA N5 (fun z aR=>(adC z aR).2);have bl:=ZI vO.nA N5 (fun z aR=>(adC z aR).1);have b0:=ZG C6.nA AM (fun z aR=>(Oh z aR).2);have dp:=ZI C6.nA AM (fun z aR=>(Oh z aR).1);rw[vO.sum] at bc bl;rw[C6.sum] at b0 dp;rw[<-RK] at bc bl;rw[<-H4] at b0 dp;have bb:=ZH (e:=((hi:Rat) -lo)*(G -(pO b5 pl x (qz b5 pl g i)).q)) (a:=zv i) (u:=x.ao.map fun c=>kx c.toNat) (w:=x.ao.map fun c=>ic c.toNat) vO.nA N5 (by rw[AM,N6]) (fun k y z an aR=>by
     rw[h'] at an aR;obtain⟨c,ax,rfl⟩:=ri.1 an;rw[ax] at aR;injection aR with aR
     subst aR;have:=(pp c (dq ax)).2.2.1
     grind)
    have bt:=ZH (e:=((hi:Rat) -lo)*(G -(pO b5 pl x (qz b5 pl g i)).q)) (a:=zv i) (u:=x.ao.map fun c=>ic c.toNat) (w:=x.ao.map fun c=>kx c.toNat) vO.nA (by rw[AM,N6]) N5 (fun k y z an aR=>by
     rw[h'] at an aR;obtain⟨c,ax,rfl⟩:=ri.1 an;rw[ax] at aR;injection aR with aR
     subst aR;have:=(pp c (dq ax)).2.2.2
     grind)
    rw[vO.sum,<-RK] at bb;rw[vO.sum,<-RK] at bt;refine⟨⟨by grind,by grind⟩,⟨by grind,by grind⟩,?_⟩;by_cases hm:x.k=2/\x.p=pl
    ·have az:=arv i x U hm.1 hm.2;have d1:=ZJ (a:=zv i) (b:=C7 i) (w:=x.ao.map fun c=>ic c.toNat) (lo:=lo) (hi:=hi) (by rw[AM,N6]) AM.symm Oh;have d2:=ZJ (a:=C7 i) (b:=zv i) (w:=x.ao.map fun c=>ic c.toNat) (lo:=lo) (hi:=hi) AM.symm (by rw[AM,N6]) Oh;rw[vO.sum,C6.sum,aht,az,<-H4] at d1;rw[vO.sum,C6.sum,az,<-H4] at d2;have eg:=LX (Df h oP aQ ae i aa) (j:=i) aH;have b3:(pO b5 pl x (qz b5 pl g i)).q=(qz b5 pl g i).q+(b5 x.i.toNat).q:=by
      rw[ajO hm];exact V6 eg.bu.1 (oP _).bu.1
     rw[b3] at bb bt;exact⟨by grind,by grind⟩
    ·have hs:=arT i x U hk hm;rw[ajN hm] at bb bt;rw[hs,<-H4] at bb;rw[hs,<-H4] at bt;exact⟨by grind,by grind⟩
 have ag:=(key _ 0 (b2 _) h.bH).2.2;have aR:(qz b5 pl g 0).q=0:=by rw[aje];exact O1 0
 rw[aR] at ag;rw[dS];exact⟨by grind,by grind⟩
end
def wP(cP:Nat->Nat)(j:Nat)(x:dn):Nat->Nat
 |0=>j+1
 |k+1=>match x.ao[k]? with
  |some c=>cP c.toNat
  |none=>wP cP j x k
structure wc (ns:List dn) (a n:Nat) (cP:Nat->Nat):Prop where
 b:∀j,a<=j->j<n->j<cP j/\cP j<=n
 c:∀j x,a<=j->j<n->ns[j]?=some x->(∀(k:Nat) c,x.ao[k]?=some c->c=(wP cP j x k:Int))/\cP j=wP cP j x x.ao.length
def sy(cP:Nat->Nat)(m:Nat)(cs:List Int):Nat->Nat
 |0=>m
 |k+1=>match cs[k]? with
  |some c=>cP c.toNat
  |none=>sy cP m cs k
def R5{cP wV:Nat->Nat}{m:Nat}{cs:List Int}(h:∀c∈cs,cP c.toNat=wV c.toNat):∀k,sy cP m cs k=sy wV m cs k:=by
 intro k;induction k with
 |zero=>rfl
 |succ k aC=>
  show(match cs[k]? with|some c=>cP c.toNat|none=>_)=(match cs[k]? with|some c=>wV c.toNat|none=>_)
  split
  ·rename_i c ax;exact h c (dq ax)
  ·exact aC
def Rt{cP:Nat->Nat}{j:Nat}{x:dn}:∀k,wP cP j x k=sy cP (j+1) x.ao k:=by
 intro k;induction k with
 |zero=>rfl
 |succ k aC=>
  show(match x.ao[k]? with|some c=>cP c.toNat|none=>_)=(match x.ao[k]? with|some c=>cP c.toNat|none=>_)
  split
  ·rfl
  ·exact aC
def anT{cP:Nat->Nat}{m c0:Nat}{c:Int}{r:List Int}(ax:cP c.toNat=c0):∀k,sy cP m (c::r) (k+1)=sy cP c0 r k:=by
 intro k;induction k with
 |zero=>exact ax
 |succ k aC=>
  show(match r[k]? with|some c=>cP c.toNat|none=>sy cP m (c::r) (k+1))=(match r[k]? with|some c=>cP c.toNat|none=>_)
  split
  ·rfl
  ·exact aC
def wc.Ro{ns:List dn}{a n:Nat}{cP wV:Nat->Nat}(hk:∀(p:Nat) x c,a<=p->p<n->ns[p]?=some x->c∈x.ao->(p:Int)<c/\c<(n:Int))(h:wc ns a n cP)(he:∀j,a<=j->j<n->wV j=cP j):wc ns a n wV:=by
 refine⟨fun j ae ag=>by rw[he j ae ag];exact h.b j ae ag,fun j x ae ag U=>?_⟩;have hs:∀k,wP wV j x k=wP cP j x k:=fun k=>by
  rw[Rt,Rt];refine R5 (fun c ax=>?_) k;have:=hk j x c ae ag U ax;exact he c.toNat aa aa
 obtain⟨aX,aT⟩:=h.c j x ae ag U;exact⟨fun k c ax=>by rw[hs];exact aX k c ax,by rw[he j ae ag,hs];exact aT⟩
def akP{ns:List dn}{rec:Nat->Option (Nat×List iv)}(ar:∀m n e,rec m=some (n,e)->(m<n/\GR ns m n)/\∃cP,cP m=n/\wc ns m n cP):∀{cs:List Int} {m n:Nat} {e:List iv},hc rec cs m=some (n,e)->∃cP,wc ns m n cP/\(∀(k:Nat) c,cs[k]?=some c->c=(sy cP m cs k:Int))/\sy cP m cs cs.length=n:=by
 intro cs;induction cs with
 |nil=>
  intro m n e h;simp only[hc,cb,c8] at h;obtain⟨rfl,rfl⟩:=h;exact⟨fun _=>0,⟨fun j ae ag=>by omega,fun j x ae ag=>by omega⟩,(fun k c ax=>by cases ax),I⟩
 |cons c r aC=>
  intro m n e h
  have h:(if c≠(m:Int) then none else match rec m with
   |none=>none
   |some (bH,es)=>match hc rec r bH with
    |none=>none
    |some (c2,u9)=>some (c2,es++u9))=some (n,e):=h
  split at h
  ·cases h
  ·rename_i ax;have ax:c=(m:Int):=x4.1 ax;split at h
   ·cases h
   ·rename_i bH aF ae;obtain⟨⟨ba,br⟩,Z3,bG,cD⟩:=ar _ _ _ ae;split at h
    ·cases h
    ·rename_i c2 aV ag;simp only[cb,c8] at h;obtain⟨rfl,rfl⟩:=h;obtain⟨bc,bl,b0,dp⟩:=Mh (fun m n e q=>(ar m n e q).1) ag;obtain⟨BS,d1,d2,d3⟩:=aC ag;obtain⟨cP,oR⟩:∃cP:Nat->Nat,cP=fun j=>if j<bH then Z3 j else BS j:=⟨_,I⟩;have aF:∀j,j<bH->cP j=Z3 j:=fun j q=>by rw[oR];exact aP q
     have aV:∀j,bH<=j->cP j=BS j:=fun j q=>by rw[oR];exact aG aa
     have f1:=cD.Ro (wV:=cP) br.xq fun j _ q=>aF j q;have f2:=d1.Ro (wV:=cP) b0 fun j q _=>aV j q;have ca:∀k,sy cP m (c::r) (k+1)=sy BS bH r k:=fun k=>by
      rw[anT (c0:=bH) (by rw[ax,ff,aF m ba,bG]) k];exact R5 (fun z aR=>by have:=dp z aR;exact aV z.toNat aa) k
     refine⟨cP,⟨fun j ae ag=>?_,fun j x ae ag U=>?_⟩,fun k z aR=>?_,?_⟩
     ·rcases ha j bH with q|q
      ·have:=f1.b j ae q;omega
      ·have:=f2.b j q ag;omega
     ·rcases ha j bH with q|q
      ·exact f1.c j x ae q U
      ·exact f2.c j x q ag U
     ·cases k with
      |zero=>injection aR with aR;rw[<-aR];exact ax
      |succ k=>rw[ca];exact d2 k z aR
     ·show sy cP m (c::r) (r.length+1)=_;rw[ca];exact d3
def azP{ns:List dn}:∀(f:Nat) (p d:Int) (a n:Nat) (e:List iv),gq ns f p d a=some (n,e)->∃cP,cP a=n/\wc ns a n cP:=by
 intro f;induction f with
 |zero=>intro p d a n e h;cases h
 |succ f aC=>
  intro p d a n e h;unfold gq at h;split at h
  ·cases h
  ·rename_i x U;split at h
   ·cases h
   ·rename_i c2 es ag;simp only[cb,c8] at h;obtain⟨rfl,rfl⟩:=h;obtain⟨bc,bl,b0,dp⟩:=Mh (ns:=ns) (fun m n e q=>Pu _ _ _ _ _ _ q) ag;obtain⟨BS,d1,d2,d3⟩:=akP (ns:=ns) (fun m n e q=>⟨Pu _ _ _ _ _ _ q,aC _ _ m n e q⟩) ag;obtain⟨cP,oR⟩:∃cP:Nat->Nat,cP=fun j=>if j=a then c2 else BS j:=⟨_,I⟩;have aF:cP a=c2:=by rw[oR];exact aP I
    have aV:∀j,a+1<=j->cP j=BS j:=fun j q=>by rw[oR];exact aG aa
    have f2:=d1.Ro (wV:=cP) b0 fun j q _=>aV j q;have ca:∀k,wP cP a x k=sy BS (a+1) x.ao k:=fun k=>by
     rw[Rt];exact R5 (fun z aR=>by have:=dp z aR;exact aV z.toNat aa) k
    refine⟨cP,aF,⟨fun j ae ag=>?_,fun j y ae ag an=>?_⟩⟩
    ·rcases uP ae with q|q
     ·subst q;omega
     ·exact f2.b j q ag
    ·rcases uP ae with q|q
     ·subst q;rw[U] at an;injection an with an;subst an
      exact⟨fun k c ax=>by rw[ca];exact d2 k c ax,by rw[aF,ca,d3]⟩
     ·exact f2.c j y q ag an
def kS.cP{g:cM}(h:kS g):∃cP,wc g.ns 0 g.ns.length cP:=by
 obtain⟨es,ae,_⟩:=h.walk;obtain⟨cP,_,ag⟩:=azP _ _ _ _ _ _ ae;exact⟨cP,ag⟩
def alL{cP:Nat->Nat}{j k:Nat}{x:dn}{c:Int}(h:x.ao[k]?=some c):wP cP j x (k+1)=cP c.toNat:=by
 show(match x.ao[k]? with|some c=>cP c.toNat|none=>_)=_
 rw[h]
structure jo (k:Nat) (r:a2):Prop where
 bu:r.g9
 n:(aq r.z.natAbs).length<=k
 d:(aq r.d).length<=k
def jo.mono{k j:Nat}{r:a2}(h:jo k r)(hk:k<=j):jo j r:=⟨h.bu,dT h.n hk,dT h.d hk⟩
def L7{k d:Nat}{z:Int}(av:0<d)(ae:(aq z.natAbs).length<=k)(ag:(aq d).length<=k):jo k (a4 z d):=by
 have aE:=FZ (z:=z) av;exact⟨k4 av,dT (p2 aE.1) ae,dT (p2 aE.2) ag⟩
def jo.plus{k j:Nat}{a b:a2}(aI:jo k a)(ak:jo j b):jo (k+j+1) (nC a b):=by
 unfold nC;have h:=Int.natAbs_add_le (a.z*b.d) (b.z*a.d);rw[kT,kT,gR,gR] at h;have ag:=N9 (oZ aI.n ak.d) (dT (oZ ak.n aI.d) (G7 (G3 j k)));exact L7 (ib aI.bu.1 ak.bu.1) (dT (p2 h) ag) (dT (oZ aI.d ak.d) (Nat.le_succ _))
def Bf(a b:a2):a2:=a4 (a.z*b.z) (a.d*b.d)
def jo.times{k j:Nat}{a b:a2}(aI:jo k a)(ak:jo j b):jo (k+j) (Bf a b):=by
 unfold Bf;exact L7 (ib aI.bu.1 ak.bu.1) (by rw[kT];exact oZ aI.n ak.n) (oZ aI.d ak.d)
def YY{z:Int}(h:z.natAbs<1000000000):jo 1 ⟨z,1⟩:=⟨⟨Nat.one_pos,Qc _⟩,kK (k:=1) aa,kK (x:=1) (k:=1) bI⟩
def aed{g:cM}{x:dn}(h:g1 g x=0):(x.k=1->x.ws.length=x.ao.length)/\(x.k≠1->x.ws=[])/\(∀w∈x.ws,1<=w/\w<=1000):=by
 unfold g1 at h;split at h
 ·rename_i hk;split at h
  ·omega
  ·split at h
   ·omega
   ·rename_i ae ag;refine⟨fun _=>by omega,fun q=>absurd hk q,fun w hw=>?_⟩;have:¬(w<1\/1000<w):=fun q=>ag ⟨w,hw,q⟩;omega
 ·rename_i hk;have key:∀q:¬(0<x.ws.length),(x.k=1->x.ws.length=x.ao.length)/\(x.k≠1->x.ws=[])/\(∀w∈x.ws,1<=w/\w<=1000):=fun q=>by
   have:x.ws=[]:=mQ aa;exact⟨fun z=>absurd z hk,fun _=>this,fun w hw=>by rw[this] at hw;cases hw⟩
  split at h
  ·split at h
   ·omega
   ·exact key aa
  ·split at h
   ·split at h
    ·omega
    ·exact key aa
   ·omega
def oj(g:cM)(m:List (List a2))(x:dn):List a2:=if x.k=1 then x.ws.map fun w=>a4 w x.ws.sum.toNat else(m[x.i.toNat]?).getD []
structure aiL (g:cM) (pl:Int) (m:List (List a2)) (e4:List a2) (j:Nat) (x:dn):Prop where
 e:x.k=3->(atR e4 j).q=((iU x pl:Int):Rat)
 m:x.k≠3->(atR e4 j).q=dot ((oj g m x).map a2.q) (x.ao.map fun c=>(atR e4 c.toNat).q)
structure rk (g:cM) (pl:Int) (m:List (List a2)) (cP:Nat->Nat) (q:Nat) (e4:List a2):Prop where
 l:e4.length=g.ns.length
 w:∀j x,q<=j->g.ns[j]?=some x->aiL g pl m e4 j x/\jo (16*(cP j -j) -8) (atR e4 j)
def LW{e4:List a2}{i j:Nat}{v:a2}(h:i≠j):atR (e4.set i v) j=atR e4 j:=by
 unfold atR;rw[GV h]
def QI{e4:List a2}{i:Nat}{v:a2}(h:i<e4.length):atR (e4.set i v) i=v:=by
 unfold atR;rw[GW h];rfl
def rk.step{g:cM}{pl:Int}{m:List (List a2)}{cP:Nat->Nat}{q:Nat}{e4:List a2}{x:dn}{v:a2}(ay:kS g)(h:rk g pl m cP (q+1) e4)(U:g.ns[q]?=some x)(aE:x.k=3->v.q=((iU x pl:Int):Rat))(hm:x.k≠3->v.q=dot ((oj g m x).map a2.q) (x.ao.map fun c=>(atR e4 c.toNat).q))(ak:jo (16*(cP q -q) -8) v):rk g pl m cP q (e4.set q v):=by
 have b3:=(dO.1 U).1;have aj:=h.l;have Nj:∀j y,q<=j->g.ns[j]?=some y->(y.ao.map fun c=>(atR (e4.set q v) c.toNat).q)=y.ao.map fun c=>(atR e4 c.toNat).q:=fun j y ae ag=>by
  refine GX fun c ax=>?_;have:=ay.zd.xq j y c (c6 _) (dO.1 ag).1 ag ax;rw[LW aa]
 refine⟨by rw[hy];exact aj,fun j y ae ag=>?_⟩;rcases uP ae with s|s
 ·subst s;rw[U] at ag;injection ag with ag;subst ag
  rw[QI aa];exact⟨⟨fun k=>by rw[QI aa];exact aE k,fun k=>by rw[QI aa,Nj q x ae U];exact hm k⟩,ak⟩
 ·obtain⟨aX,aT⟩:=h.w j y s ag;rw[LW aa];exact⟨⟨fun k=>by rw[LW aa];exact aX.e k,fun k=>by rw[LW aa,Nj j y ae ag];exact aX.m k⟩,aT⟩
def amy:∀{a b:List Rat} {k:Nat} {x y:Rat},a[k]?=some x->b[k]?=some y->dot (a.take (k+1)) (b.take (k+1))=dot (a.take k) (b.take k)+x*y:=by
 intro a;induction a with
 |nil=>intro b k x y h;cases h
 |cons p a aC=>
  intro b k x y ae ag;cases b with
  |nil=>cases ag
  |cons q b=>
   cases k with
   |zero=>
    injection ae with ae
    injection ag with ag
    subst ae;subst ag;show p*q+dot (a.take 0) (b.take 0)=0+p*q;rw[ku,ku];show p*q+0=0+p*q
    grind
   |succ k=>
    have:=aC (b:=b) (k:=k) ae ag;show p*q+dot (a.take (k+1)) (b.take (k+1))=p*q+dot (a.take k) (b.take k)+x*y
    grind
def Xb{l:List Int}(h:∀w∈l,1<=w/\w<=1000):∀i,0<=(l.take i).sum/\(l.take i).sum<=1000*((l.take i).length:Int):=by
 intro i;have ag:∀w∈l.take i,1<=w/\w<=1000:=fun w hw=>h w (DU hw);generalize l.take i=t at ag;induction t with
 |nil=>exact⟨Lc _,by show(0:Int)<=1000*0;omega⟩
 |cons a t aC=>
  have aE:=ag a (.head _);have a6:=aC fun w hw=>ag w (.tail _ hw);rw[lg,ks];omega
def ahJ{l:List Int}(h:∀w∈l,1<=w/\w<=1000)(aj:0<l.length):0<l.sum:=by
 cases l with
 |nil=>cases aj
 |cons a l=>
  have aE:=h a (.head _);have a6:=(Xb (fun w hw=>h w (.tail _ hw)) l.length).1;rw[uM] at a6;rw[lg];omega
def O0{z:Int}{d:Nat}(av:0<d):(a4 z d).q=(z:Rat) / ((d:Nat):Rat):=by rw[V5 av,Rat.mkRat_eq_div]
def Oq{d:Nat}(av:0<d):(0:Rat)<((d:Nat):Rat):=Rat.natCast_pos.2 av
def an2{p d:Nat}(av:0<d):0<=(a4 (p:Int) d).q:=by rw[afd (k4 av).1];exact XC (sc p) (sc _)
def ZN{x y:Rat}(U:0<=x)(an:0<y):0<=x / y:=by
 rw[Rat.div_def];exact Rat.mul_nonneg U (Rat.le_of_lt (Rat.inv_pos.2 an))
def azh{d:Nat}(av:0<d):∀ps:List Nat,pG (ps.map fun p:Nat=>(a4 (p:Int) d).q)=((ps.sum:Nat):Rat) / ((d:Nat):Rat):=by
 have h:=Oq av;intro ps;induction ps with
 |nil=>show(0:Rat)=((0:Nat):Rat) / _;grind
 |cons p ps aC=>
  show(a4 (p:Int) d).q+pG (ps.map fun p:Nat=>(a4 (p:Int) d).q)=_;rw[aC,O0 av,lg,Rat.natCast_add,Rat.intCast_natCast]
  grind
def Po{d:Nat}(av:0<d){ps:List Nat}:pG (ps.map fun p:Nat=>(a4 (p:Int) d).q)=1↔ps.sum=d:=by
 have h:=Oq av;rw[azh av];refine⟨fun q=>?_,fun q=>?_⟩
 ·have:((ps.sum:Nat):Rat)=((d:Nat):Rat):=by grind
  exact Rat.natCast_inj.1 this
 ·rw[q];grind
def ayc{s M:Nat}:(((a4 (s:Int) M).z.natAbs:Nat):Int)=(a4 (s:Int) M).z:=XH (XC (sc s) (sc _))
def Pc{s M:Nat}:(mK s M).rt=a4 (s:Int) M:=by
 show(⟨(bf (aq (a4 (s:Int) M).z.natAbs):Int),bf (aq (a4 (s:Int) M).d)⟩:a2)=_;rw[h0,h0,ayc]
def afR{s M:Nat}(ih:0<M):nQ (mK s M)=0:=by
 have ax:=k4 (z:=(s:Int)) ih;refine ZZ (V' (ae5 (FV (wO _)) (FV (wO _)) fun q=>?_) fun q=>?_) I
 ·have:=h0 (a4 (s:Int) M).d;rw[show aq (a4 (s:Int) M).d=[] from mQ q] at this;have ag:(0:Nat)=(a4 (s:Int) M).d:=this;have:=ax.1;omega
 ·rcases q with q|q
  ·cases q.2
  ·refine q ?_;show Nat.gcd (bf (aq _)) (bf (aq _))=1;rw[h0,h0];exact ax.2
def jY (ps:List Nat):List bO:=ps.map fun p=>mK p ps.sum
def Pd{ps:List Nat}:(jY ps).length=ps.length:=e9 _
def aap{ps:List Nat}{s:Nat}(h:0<s):k6 (ps.map fun p=>mK p s):=fun x U=>by
 obtain⟨p,_,rfl⟩:=lf.1 U;exact afR h
def afK{l:List bO}(h:k6 l):(iq l).map (fun p:Nat=>(a4 (p:Int) (fF l)).q)=l.map fun x=>x.rt.q:=by
 have:=dh (List.map a2.q) (Gf h);rw[rh,rh] at this;exact this
def Wh{l:List bO}(h:k6 l):(iq l).sum=fF l↔pG (l.map fun x=>x.rt.q)=1:=by
 rw[<-afK h,Po (ry h)]
def ayd{ps:List Nat}(h:0<ps.sum)(ae:1<=ps.length)(ag:ps.length<=10):m7 (jY ps)=0:=by
 have hk:k6 (jY ps):=aap h;refine Wd (by rw[Pd];omega) hk ((Wh hk).2 ?_);unfold jY;rw[rh,show((fun x:bO=>x.rt.q) ∘ fun p=>mK p ps.sum)=fun p:Nat=>(a4 (p:Int) ps.sum).q from funext fun p=>by show(mK p ps.sum).rt.q=_;rw[Pc]];exact(Po h).2 I
def an3{p s:Nat}(hs:0<s)(ap:p<=110)(h:s<=110):(aq (a4 (p:Int) s).z.natAbs).length<=1/\(aq (a4 (p:Int) s).d).length<=1:=by
 have ae:=FZ (z:=(p:Int)) hs;rw[gR] at ae;exact⟨FH (k:=1) aa,FH (k:=1) aa⟩
def alx{s:Nat}(hs:0<s)(h:s<=110):∀ps:List Nat,fF (ps.map fun p=>mK p s)<=110 ^ ps.length:=by
 intro ps;induction ps with
 |nil=>exact b2 _
 |cons p ps aC=>
  show bf (aq (a4 (p:Int) s).d)*fF (ps.map fun p=>mK p s)<=110 ^ (ps.length+1);rw[h0,lz,hn];exact zY aC (dT (FZ (z:=(p:Int)) hs).2 h)
def ayf{ps:List Nat}(h:0<ps.sum)(ag:ps.sum<=110)(aE:ps.length<=3):Bd (jY ps):=⟨fun x U=>by
 obtain⟨p,ap,rfl⟩:=lf.1 U;obtain⟨aE,a6⟩:=an3 h (dT (xx ap) ag) ag;exact⟨Nat.le_succ_of_le aE,Nat.le_succ_of_le a6⟩,dT (alx h ag ps) (dT (nd bI aE) bI)⟩
def CV(n k M:Nat):List Int:=(List.replicate n (0:Int)).set k (M:Int)
def azq(n:Nat):(List.replicate n (0:Int)).sum=0:=by
 induction n with
 |zero=>rfl
 |succ n aC=>rw[Lt,lg,aC];rfl
def avC{n k M:Nat}(ae:1<=n)(ag:n<=10)(hk:k<n):mJ M (CV n k M)=0:=by
 have aj:(CV n k M).length=n:=by unfold CV;rw[hy,kU]
 refine Wf aa (fun s hs=>?_) ?_
 ·rcases Lp hs with q|q
  ·rw[DS q];omega
  ·rw[q];omega
 ·have key:∀(n k:Nat),k<n->((List.replicate n (0:Int)).set k (M:Int)).sum=M:=by
   intro n;induction n with
   |zero=>intro k h;omega
   |succ n aC=>
    intro k h;rw[Lt];cases k with
    |zero=>rw[G0,lg,azq];omega
    |succ k=>rw[List.set_cons_succ,lg,aC k aa];omega
  exact key n k hk
def axr{k:Nat}{l:List bO}(h:m7 l=0):mJ (2 ^ k) (qa k l)=0:=by
 obtain⟨gj,g2,iB,o8⟩:=tc h;have ar:=afz (M:=2 ^ k) (by rw[q8];exact gj) (ry iB) o8;have aj:=O4 (k:=k) h;have hs:(qa k l).sum=((2 ^ k:Nat):Int):=by
  have e:∀vs:List Nat,(vs.map Int.ofNat).sum=(vs.sum:Int):=by
   intro vs;induction vs with
   |nil=>rfl
   |cons v vs aC=>rw[tp,lg,lg,aC];exact(wh v vs.sum).symm
  unfold qa;rw[e,ar.sum]
 refine Wf aa (fun s hs=>?_) hs;obtain⟨v,az,rfl⟩:=lf.1 hs;have:=xx az;rw[ar.sum] at this;exact⟨sc v,Int.ofNat_le.2 this⟩
def A1 (g:cM)(m:List (List a2))(i:Nat):List Rat:=((g.ns[i]?).map fun x=>(oj g m x).map a2.q).getD []
structure LD (l:List a2):Prop where
 nA:∀r∈l,0<=r.q
 sum:pG (l.map a2.q)=1
def aA5{l:List Int}(h:∀w∈l,1<=w/\w<=1000)(aj:0<l.length):LD (l.map fun w=>a4 w l.sum.toNat):=by
 have ap:=ahJ h aj;have av:0<l.sum.toNat:=aa;have e:(l.map fun w=>a4 w l.sum.toNat)=(l.map Int.toNat).map fun p:Nat=>a4 (p:Int) l.sum.toNat:=by
  rw[rh];exact GX fun w hw=>by show a4 w _=a4 ((w.toNat:Nat):Int) _;rw[Int.toNat_of_nonneg (by have:=h w hw;omega)]
 have hs:(l.map Int.toNat).sum=l.sum.toNat:=by
  have:=Pp (M:=1000) (l:=l) fun w hw=>by have:=h w hw;omega
  omega
 rw[e];generalize l.map Int.toNat=ps at hs;refine⟨fun r ar=>?_,?_⟩
 ·obtain⟨p,_,rfl⟩:=lf.1 ar;exact an2 av
 ·rw[rh];exact(Po av).2 hs
def aA1{g:cM}{pl:Int}{m:List (List a2)}{cP:Nat->Nat}{e4:List a2}(ay:kS g)(h:rk g pl m cP 0 e4)(hm:m.length=g.is.length)(aj:∀(i:Nat) (x:Int×Int) (l:List a2),g.is[i]?=some x->m[i]?=some l->(l.length:Int)=x.2)(ap:∀l∈m,LD l):LG g pl (A1 g m) (fun i=>(atR e4 i).q):=by
 refine⟨fun i x U hk=>(h.w i x (c6 _) U).1.e hk,fun i x U hk=>?_⟩;have ae:=(h.w i x (c6 _) U).1.m hk;have fB:=ay.nodes x (dq U);obtain⟨nv,nW,tX⟩:=aed fB;have e:A1 g m i=(oj g m x).map a2.q:=by unfold A1;rw[U];rfl
 rw[e];refine⟨?_,ae⟩;have key:∀l:List a2,l.length=x.ao.length->LD l->Yj (l.map a2.q) x.ao.length:=fun l ag aE=>⟨by rw[e9];exact ag,fun y an=>by
  obtain⟨r,ar,rfl⟩:=lf.1 an;exact aE.nA r ar,aE.sum⟩
 rcases xB fB with⟨aN,aH,bo⟩|⟨aN,aH,bo,db,fH,hS,mI⟩|q
 ·unfold oj;rw[aP aN];have:=nv aN;exact key _ (by rw[e9];exact this) (aA5 tX aa)
 ·unfold oj;rw[aG aa];have aM:=ay.types x (dq U) aN;have hi:x.i.toNat<m.length:=aa;rw[cU hi];have:=aj _ _ _ aM (cU hi);exact key _ (by show(m[x.i.toNat]).length=_;omega) (ap _ (P7 hi))
 ·exact absurd q.1 hk
def aAF{c M:Nat}(ax:0<c)(ih:0<M):∀{ps dd:List Nat},uC (ps.map fun p:Nat=>(a4 (p:Int) c).q) (dd.map fun p:Nat=>(a4 (p:Int) M).q)=2*(a4 (hI c M ps dd:Int) (c*M*2)).q:=by
 have ae:=Oq ax;have ag:=Oq ih;have key:∀{ps dd:List Nat},uC (ps.map fun p:Nat=>(a4 (p:Int) c).q) (dd.map fun p:Nat=>(a4 (p:Int) M).q)=((hI c M ps dd:Nat):Rat) / (((c:Nat):Rat)*((M:Nat):Rat)):=by
  intro ps;induction ps with
  |nil=>intro dd;show(0:Rat)=((0:Nat):Rat) / _;grind
  |cons p ps aC=>
   intro dd;cases dd with
   |nil=>show(0:Rat)=((0:Nat):Rat) / _;grind
   |cons q dd=>
    show((a4 (p:Int) c).q -(a4 (q:Int) M).q).abs+uC (ps.map fun p:Nat=>(a4 (p:Int) c).q) (dd.map fun p:Nat=>(a4 (p:Int) M).q)=((((p:Int)*M -(q:Int)*c).natAbs+hI c M ps dd:Nat):Rat) / _;rw[aC,O0 ax,O0 ih,Rat.natCast_add,Rat.intCast_natCast,Rat.intCast_natCast];have e:(((p:Rat) / (c:Rat)) -((q:Rat) / (M:Rat))).abs=((((p:Int)*M -(q:Int)*c).natAbs:Nat):Rat) / ((c:Rat)*(M:Rat)):=by
     rcases Int.le_total 0 ((p:Int)*M -(q:Int)*c) with k|k
     ·have aV:((((p:Int)*M -(q:Int)*c).natAbs:Nat):Rat)=(p:Rat)*(M:Rat) -(q:Rat)*(c:Rat):=by
       rw[<-Rat.intCast_natCast,XH k,Rat.intCast_sub,Rat.intCast_mul,Rat.intCast_mul,Rat.intCast_natCast,Rat.intCast_natCast,Rat.intCast_natCast,Rat.intCast_natCast]
      have cj:((p:Rat) / (c:Rat)) -((q:Rat) / (M:Rat))=((((p:Int)*M -(q:Int)*c).natAbs:Nat):Rat) / ((c:Rat)*(M:Rat)):=by rw[aV];grind
      rw[cj];exact Rat.abs_of_nonneg (ZN Rat.natCast_nonneg (Rat.mul_pos ae ag))
     ·have aV:((((p:Int)*M -(q:Int)*c).natAbs:Nat):Rat)=(q:Rat)*(c:Rat) -(p:Rat)*(M:Rat):=by
       rw[<-Rat.intCast_natCast,show(((p:Int)*M -(q:Int)*c).natAbs:Int)=(q:Int)*c -(p:Int)*M by omega,Rat.intCast_sub,Rat.intCast_mul,Rat.intCast_mul,Rat.intCast_natCast,Rat.intCast_natCast,Rat.intCast_natCast,Rat.intCast_natCast]
      have cj:((p:Rat) / (c:Rat)) -((q:Rat) / (M:Rat))=-(((((p:Int)*M -(q:Int)*c).natAbs:Nat):Rat) / ((c:Rat)*(M:Rat))):=by rw[aV];grind
      rw[cj,Rat.abs_neg];exact Rat.abs_of_nonneg (ZN Rat.natCast_nonneg (Rat.mul_pos ae ag))
    rw[e]
    grind
 intro ps dd;rw[key,O0 (ib (ib ax ih) bI),Rat.natCast_mul,Rat.natCast_mul,Rat.intCast_natCast];show _=2*(((hI c M ps dd:Nat):Rat) / (((c:Nat):Rat)*((M:Nat):Rat)*(2:Rat)))
 grind
abbrev Hf(J:ai)(l:List a2)(v:Value):Prop:=∃b c,v=.slice b l.length c/\dz J 50 3 (mn J) (.slice b l.length c) l
def azp{l:List Int}{i:Nat}{x:Int}(h:l[i]?=some x):(l.take (i+1)).sum=(l.take i).sum+x:=by
 rw[ly,h,X1];simp
section
variable {Q:da Tryz.prog}{g0:Nat}{J:ai}
def aui{g:cM}{pl:Int}{m:List (List a2)}{cO cy b:Option Addr}{bu ci c:Nat}{cP:Nat->Nat}(ay:kS g)(aB:r' J g cO bu cy ci)(mA:0<=pl)(mX:pl<g.pl)(cH:g.ns.length<=60)(oR:wc g.ns 0 g.ns.length cP)
 (ih:dz J 34 1 (e8 (Hf J)) (.slice b m.length c) m)(rK:m.length=g.is.length)(tP:∀(i:Nat) (x:Int×Int) (l:List a2),g.is[i]?=some x->m[i]?=some l->(l.length:Int)=x.2)(Nn:∀l∈m,∀r∈l,jo 4 r):
 Fn (aU Q g0) 15 [Ao g cO bu cy ci,.int .i64 pl,.slice b m.length c] [] J (fun u m' ah=>J.le ah/\m'=[]/\∃e4:List a2,rk g pl m cP 0 e4/\∃v1 v2,u=di (atR e4 0) v1 v2/\hz ah (atR e4 0) v1 v2):=by
 have iz:=ay.bH;have zw:addrEq cy cy=true:=aB.i.addr;have C9:addrEq cO cO=true:=aB.n.addr;have oo:addrEq b b=true:=ih.addr;obtain⟨_,pX⟩:=aB.n.at;have S3:=ih.eg;obtain⟨mr,off,cells,bA,rfl,IK,hN⟩:=pX aa;refine Fn.b9 (b1 Tryz.func15) I I fun H=>?_;refine rg ?_;refine fq fun bG=>?_;refine eu fun ef=>?_;refine af 0x54b738 ?_;refine' W.step I (.of (ti I I I I I (ee I) ?aQ ?ae ?ag fun uW=>?_));case aQ=>exact cJ
 case ae=>exact cJ
 case ag=>exact cJ
 refine af 0x302 ?_;rw[ff];refine af 0x1abe0432a5b9 ?_;refine dV [(8,.int .i64 ((g.ns.length:Int) -1)),(1,_),(2,_),(3,_),(6,_),(7,_)] ?_;refine bp ?_;refine' aK.bK (fun(b8:Int×(List a2)×(List Value)×ai)=>match b8 with|(z,e4,d,cv)=>⟨[(8,.int .i64 z)],[(uW,.row d 50),(ef,.row [.bool false,.slice none 0 0,.slice none 0 0] 50),(bG,.row (pn g (some ⟨mr,off,none⟩) bu cy ci) 26)],cv,(-1<=z/\z<g.ns.length)/\J.le cv/\rk g pl m cP (z+1).toNat e4/\et 3 (fun j r cs=>(z+1).toNat<=j->mn cv r cs) d e4,(z+1).toNat⟩) ⟨(g.ns.length:Int) -1,List.replicate g.ns.length ⟨0,1⟩,fp [.bool false,.slice none 0 0,.slice none 0 0] g.ns.length,J⟩ ?hs ?bn
 case hs=>refine⟨aa,ai.le.refl _,?_,?_⟩;(rw[show((g.ns.length:Int) -1+1).toNat=g.ns.length by omega];exact⟨kU,fun j x ae ag=>absurd (dO.1 ag).1 aa⟩);(refine⟨by rw[Xi,kU];rfl,fun j r ar aW=>?_⟩;have:=(dO.1 ar).1;rw[kU] at this;omega)
 case bn=>
  rintro⟨z,e4,d,cv⟩ hinv;try simp only at hinv
  obtain⟨aR,cr,k1,fj⟩:=hinv;refine af 0x17c1039 ?_;refine If (fun yl=>?_) fun yl=>?_
  ·obtain⟨q,rfl⟩:∃q:Nat,z=(q:Int):=⟨z.toNat,aa⟩;have jw:((q:Int)+1).toNat=q+1:=aa
   have y7:((q:Int) -1+1).toNat=q:=aa
   rw[jw] at k1 fj;obtain⟨x,cs,U,iI,oa,dU⟩:=hN q aa aa;obtain⟨bc,bb,bl,bt,b0,cE,rfl,iS,oX,oY⟩:=dU;have aN:addrEq bc bc=true:=by obtain⟨e,h⟩:=iS;exact h.addr
   have aH:addrEq bl bl=true:=by obtain⟨e,h⟩:=oX;exact h.addr
   have bo:addrEq b0 b0=true:=by obtain⟨e,h⟩:=oY;exact h.addr
   rw[ff] at U;have IK:=cr _ _ IK;have fB:=ay.nodes x (dq U);have T7:=(dO.1 U).1;have aa':=k1.l;have rE:=fj.1;obtain⟨nv,nW,tX⟩:=aed fB;have Ff:x.ao.length<=60:=by rcases xB fB with t|t|t;omega;omega;(rw[t.2.1];decide)
   have Tz:=fun c ax=>ay.zd.xq q x c (c6 _) T7 U ax;obtain⟨aDQ,aDR⟩:=oR.b q (c6 _) T7;obtain⟨ap7,l8⟩:=oR.c q x (c6 _) T7 U;refine af 0x1860a5b9d5f57 ?_;refine eu fun hB=>?_;refine af 0xbe0896e71c ?_;refine If (fun uZ=>?_) fun uZ=>?_
   ·have tN:x.k=3:=aa
    obtain⟨Jl,arA,arB⟩:=ON fB tN mA mX;have T3:=(dO.1 Jl).1;obtain⟨oH,F8,Es,EC,rfl,n9,pY⟩:=oY.vQ aa;have n9:=cr _ _ n9;obtain⟨y,an,vt⟩:=pY pl.toNat T3;rw[Jl] at an;injection an with an
    subst an;have apU:=YY (z:=iU x pl) aa;refine af 0x4982968439 ?_;refine cl (G:=ahB (z:=iU x pl) aa) (h:=?_);rintro v' m' c3 hle ⟨bN,rfl,dH,eP,rfl,bC⟩;have nm:=bC;obtain⟨ev,dJ,rfl,hS⟩:=bC.n.ch;obtain⟨gH,eY,rfl,mI⟩:=bC.d.ch;refine hA V.dM ?_;refine' n4 ?hs ?_;case hs=>exact xT _ _ _ (by show 0+q*3+3<=d.length;omega)
    refine nh ?_;have aql:et 3 (fun j r cs=>q<=j->mn c3 r cs) (d.take (0+q*3)++jc (⟨iU x pl,1⟩:a2) (.slice ev (aq (⟨iU x pl,1⟩:a2).z.natAbs).length dJ) (.slice gH (aq (⟨iU x pl,1⟩:a2).d).length eY)++d.drop (0+q*3+3)) (e4.set q (⟨iU x pl,1⟩:a2)):=fj.set (new:=jc (⟨iU x pl,1⟩:a2) (.slice ev (aq (⟨iU x pl,1⟩:a2).z.natAbs).length dJ) (.slice gH (aq (⟨iU x pl,1⟩:a2).d).length eY)) (by rw[j8]) aa I (fun j r cs aW h k=>mn.mono bN (h aa)) (fun _=>⟨_,_,I,nm⟩);refine af 0x60430e757 ?_;refine eS ⟨(q:Int) -1,e4.set q (⟨iU x pl,1⟩:a2),d.take (0+q*3)++jc (⟨iU x pl,1⟩:a2) (.slice ev (aq (⟨iU x pl,1⟩:a2).z.natAbs).length dJ) (.slice gH (aq (⟨iU x pl,1⟩:a2).d).length eY)++d.drop (0+q*3+3),c3⟩ ?_ (hm:=.cons _ (.refl _));exact⟨aa,cr.trans bN,by rw[y7];exact k1.step ay U (fun _=>O1 _) (fun k=>absurd tN k) (apU.mono aa),by rw[y7];exact aql⟩
   ·have tN:¬x.k=3:=aa
    refine JP ?_;refine cl (G:=ahB (z:=0) bI) (h:=?_);rintro v' m' bj hle ⟨a8,rfl,dH,eP,rfl,bC⟩;have nm:=bC;obtain⟨ev,dJ,rfl,hS⟩:=bC.n.ch;obtain⟨gH,eY,rfl,mI⟩:=bC.d.ch;refine eu fun rl=>?_;refine af 0xd5f02ce05c ?_;refine dV [(12,.int .i64 ((0):Int)),(11,.int .i64 ((x.ws.take (0)).sum)),(1,_),(2,_),(3,_),(6,_),(7,_),(8,_),(9,_),(10,_)] ?_;refine bp ?_;refine' aK.bK (fun(i:Nat)=>⟨[(12,.int .i64 (i:Int)),(11,.int .i64 ((x.ws.take i).sum))],[(rl,.row (jc ⟨0,1⟩ (.slice ev (aq (0:Int).natAbs).length dJ) (.slice gH (aq 1).length eY)) 50),(hB,.row [.int .i64 x.k,.int .i64 x.p,.int .i64 x.i,.slice bc x.ao.length bb,.slice bl x.ws.length bt,.slice b0 x.im.length cE] 96),(uW,.row d 50),(ef,.row [.bool false,.slice none 0 0,.slice none 0 0] 50),(bG,.row (pn g (some ⟨mr,off,none⟩) bu cy ci) 26)],bj,i<=x.ws.length,x.ws.length -i⟩) (0) ?hs ?bn;case hs=>exact c6 _
    case bn=>
     rintro i hinv;try simp only at hinv
     have hi:=hinv;refine af 0xbe0854b439 ?_;refine If (fun HF=>?_) fun HF=>?_
     ·obtain⟨oH,F8,Es,EC,rfl,n9,pY⟩:=oX.vQ aa;have n9:=(cr.trans a8) _ _ n9;obtain⟨w,hw,vt⟩:=pY i aa;have c4:=azp hw;obtain⟨gL,mc⟩:=Xb tX i;have UC:=tX w (dq hw);have asu:(x.ws.take i).length<=i:=by rw[eL];omega
      have asv:x.ws.length<=60:=by by_cases k:x.k=1;(rw[nv k];exact Ff);(rw[nW k];decide)
      refine af 0x3021a4c14b439d5f57 ?_;rw[<-c4];refine af 0x1810c39 ?_;refine eS (i+1) ?_;exact aa
     ·obtain rfl:i=x.ws.length:=aa
      rw[uM];obtain⟨gL,mc⟩:=Xb tX x.ws.length;rw[uM] at gL mc;have asv:x.ws.length<=60:=by by_cases k:x.k=1;(rw[nv k];exact Ff);(rw[nW k];decide)
      obtain⟨yc,aa6⟩:∃yc:Nat,x.ws.sum=(yc:Int):=⟨x.ws.sum.toNat,aa⟩;rw[aa6];refine af 0x6af816757 ?_;refine dV [(13,.int .i64 ((0):Int)),(1,_),(2,_),(3,_),(6,_),(7,_),(8,_),(9,_),(10,_),(11,_)] ?_;refine bp ?_;refine' aK.bK (fun(b8:Nat×a2×Value×Value×ai)=>match b8 with|(k,r,bE,ct,hU)=>⟨[(13,.int .i64 (k:Int))],[(rl,.row (jc r bE ct) 50),(hB,.row [.int .i64 x.k,.int .i64 x.p,.int .i64 x.i,.slice bc x.ao.length bb,.slice bl x.ws.length bt,.slice b0 x.im.length cE] 96),(uW,.row d 50),(ef,.row [.bool false,.slice none 0 0,.slice none 0 0] 50),(bG,.row (pn g (some ⟨mr,off,none⟩) bu cy ci) 26)],hU,k<=x.ao.length/\bj.le hU/\hz hU r bE ct/\jo (16*(wP cP q x k -q) -8) r/\r.q=dot (((oj g m x).map a2.q).take k) ((x.ao.map fun c=>(atR e4 c.toNat).q).take k),x.ao.length -k⟩) ⟨0,⟨0,1⟩,.slice ev (aq (0:Int).natAbs).length dJ,.slice gH (aq 1).length eY,bj⟩ ?hs ?bn
      case hs=>exact⟨c6 _,ai.le.refl _,nm,(YY (z:=0) bI).mono (by show 1<=16*(q+1 -q) -8;omega),by rw[ku,ku];exact O1 0⟩
      case bn=>
        rintro⟨k,r,bE,ct,hU⟩ hinv;try simp only at hinv
        obtain⟨hk,h5,bC,rO,Ue⟩:=hinv;have pS:=bC;obtain⟨iy,gm,rfl,o4⟩:=bC.n.ch;obtain⟨g3,eZ,rfl,m4⟩:=bC.d.ch;refine af 0xbe0854b439 ?_;refine If (fun akk=>?_) fun akk=>?_
        ·obtain⟨ajb,avm,aCm,aCU,rfl,MT,aqA⟩:=iS.vQ aa;have MT:=(cr.trans (a8.trans h5)) _ _ MT;obtain⟨ie,yM,TQ⟩:=aqA k aa;obtain⟨w8,hM⟩:=Tz ie (dq yM);have aDK:=ap7 k ie yM;have ap8:=alL (cP:=cP) (j:=q) yM;obtain⟨aDO,aDP⟩:=oR.b ie.toNat (c6 _) aa;obtain⟨alI,ap5,SP⟩:=fj.get (LV (ab:=e4) (i:=ie.toNat) aa);obtain⟨v1,v2,rfl,iH⟩:=SP aa;have EV:=iH;obtain⟨iP,dt,rfl,mh⟩:=iH.n.ch;obtain⟨rm,mT,rfl,A2⟩:=iH.d.ch;obtain⟨o7,hF⟩:∃y,g.ns[ie.toNat]?=some y:=⟨_,cU aa⟩;have sY:=(k1.w ie.toNat o7 aa hF).2;refine af 0x219d5f57 ?_;refine eu fun uV=>?_;refine af 0x60896e71c ?_;refine fc [69,1,2,3,6,7,8,9,10,11,13,14] ?_;refine bp ?_;refine' aK.pP 1 (fun(b8:(a2)×(Value)×(Value)×(ai))=>match b8 with|(cg,fK,iO,Lh)=>⟨[],[(uV,.row (jc cg fK iO) 50),(rl,.row (jc r (.slice iy (aq r.z.natAbs).length gm) (.slice g3 (aq r.d).length eZ)) 50),(hB,.row [.int .i64 x.k,.int .i64 x.p,.int .i64 x.i,.slice (some ⟨ajb,avm,none⟩) x.ao.length bb,.slice bl x.ws.length bt,.slice b0 x.im.length cE] 96),(uW,.row d 50),(ef,.row [.bool false,.slice none 0 0,.slice none 0 0] 50),(bG,.row (pn g (some ⟨mr,off,none⟩) bu cy ci) 26)],Lh,hU.le Lh/\hz Lh cg fK iO/\jo 4 cg/\(oj g m x)[k]?=some cg⟩) ?ak' ?ams
         case ak'=>
          refine If (fun akp=>?_) fun akp=>?_
          ·have mV:x.k=1:=aa
           have asu:=nv mV;obtain⟨oH,F8,Es,EC,rfl,n9,pY⟩:=oX.vQ aa;have n9:=(cr.trans (a8.trans h5)) _ _ n9;obtain⟨w,hw,vt⟩:=pY k aa;have UC:=tX w (dq hw);obtain⟨wn,rfl⟩:∃wn:Nat,w=(wn:Int):=⟨w.toNat,aa⟩;have aDo:=ahJ tX aa;have Jj:(oj g m x)[k]?=some (a4 (wn:Int) yc):=by
            unfold oj;rw[aP mV,h',hw,aa6,ff];rfl
           have oc:jo 4 (a4 (wn:Int) yc):=L7 aa (kK (k:=4) (by rw[gR];exact jg (show wn<=1000 by omega) bI)) (kK (k:=4) (jg (show yc<=60000 by omega) bI));refine af 0x5260a5b9 ?_;refine cl (G:=axy (n:=wn) (d:=yc) aa aa aa) (h:=?_);rintro v' m' e3 hle ⟨cQ,rfl,v1,v2,rfl,cZ⟩;have MZ:=cZ;obtain⟨D',ms,rfl,Kt⟩:=cZ.n.ch;obtain⟨sr,qF,rfl,Gc⟩:=cZ.d.ch;refine af 0x31c ?_;refine iQ ⟨a4 (wn:Int) yc,.slice D' _ ms,.slice sr _ qF,e3⟩ ?_;exact⟨cQ,MZ,oc,Jj⟩
          ·have nq:x.k=2:=by rcases xB fB with t|t|t<;>omega
           have Ju:=ay.types x (dq U) nq;have E8:=(dO.1 Ju).1;have jV:0<=x.i:=by rcases xB fB with t|t|t<;>omega
           obtain⟨ajc,avp,akL,RL,rfl,IL,Ts⟩:=S3 aa;obtain⟨v,az,l,aj,LY,qG,rfl,gW⟩:=Ts x.i.toNat aa;have IL:=(cr.trans (a8.trans h5)) _ _ IL;have afa:addrEq LY LY=true:=gW.addr;have gY:=tP _ _ l Ju aj;obtain⟨_,apK⟩:=gW.at;obtain⟨aBX,aFc,aCn,aCV,rfl,aaQ,aqI⟩:=apK aa;obtain⟨Wb,aCB,Ub,aDF,aDX,eH,eQ,rfl,sF⟩:=aqI k aa aa;rw[ff] at Ub;have aaQ:=(cr.trans (a8.trans h5)) _ _ aaQ;have SS:=sF.mono (cr.trans (a8.trans h5));obtain⟨qC,fE,rfl,OX⟩:=sF.n.ch;obtain⟨rp,gh,rfl,V1⟩:=sF.d.ch;have Jj:(oj g m x)[k]?=some Wb:=by
            unfold oj;rw[aG aa,aj];exact Ub
           have oc:=Nn l (dq aj) Wb (dq Ub);refine af 0x638c305264b439 ?_;refine iQ ⟨Wb,.slice qC _ fE,.slice rp _ gh,hU⟩ ?_;exact⟨ai.le.refl _,SS,oc,Jj⟩
         case ams=>
          rintro⟨cg,fK,iO,Lh⟩ hinv;try simp only at hinv
          obtain⟨MU,SJ,oc,Jj⟩:=hinv;have MT:=MU _ _ MT;have aph:=SJ;obtain⟨D',ms,rfl,Kt⟩:=SJ.n.ch;obtain⟨sr,qF,rfl,Gc⟩:=SJ.d.ch;have tW:ep 8 (di r (.slice iy (aq r.z.natAbs).length gm) (.slice g3 (aq r.d).length eZ)) (di r (.slice iy (aq r.z.natAbs).length gm) (.slice g3 (aq r.d).length eZ))=true:=(by simp[ep,js,o4,m4,mS]);have sJ:=rO.n;have jv:=rO.d;have M9:=oc.n;have aDx:=oc.d;have aDy:=sY.n;have aDz:=sY.d;have IW:=oc.times sY;have aDA:=IW.n;have aDB:=IW.d;have apN:jo (16*(wP cP q x (k+1) -q) -8) (nC r (Bf cg (atR e4 ie.toNat))):=(rO.plus IW).mono (by rw[ap8];omega);have T6:(nC r (Bf cg (atR e4 ie.toNat))).q=dot (((oj g m x).map a2.q).take (k+1)) ((x.ao.map fun c=>(atR e4 c.toNat).q).take (k+1)):=(by rw[amy (x:=cg.q) (y:=(atR e4 ie.toNat).q) (by rw[h',Jj];rfl) (by rw[h',yM];rfl),<-Ue,<-afe oc.bu.1 sY.bu.1];exact V6 rO.bu.1 IW.bu.1);refine bp ?_;refine aK.draw I (by kernel_rfl) (a0:=[.val 0,.val 1,.val 2,.val 3,.val 4,.val 5,.val 6,.val 7,.val 8,.val 9,.bw 10,.b6 [0],.bw 11,.bw 12]) (by kernel_rfl) ?_;refine af 0x7986498296858c ?_;refine' bB.ej I I I I I I I I I ec (azD aph (EV.mono (a8.trans (h5.trans MU))) oc.bu.1 sY.bu.1 aa aa aa aa) ?_;rintro v' m' lx hle ⟨fa,rfl,dH,eP,rfl,cq⟩;have vk:hz lx (Bf cg (atR e4 ie.toNat)) dH eP:=cq;obtain⟨Ea,l3,rfl,V2⟩:=cq.n.ch;obtain⟨QK,oJ,rfl,V3⟩:=cq.d.ch;refine bB.b6 eN ?_;refine' bB.ej I I I I I I I I I (dF (e5 I) ec) (VW (s:=Bf cg (atR e4 ie.toNat)) I I (pS.mono (MU.trans fa)) vk rO.bu.1 IW.bu.1 aa aa aa aa) ?_;rintro v' m' nJ hle ⟨fk,rfl,dH,eP,rfl,bi⟩;have B8:hz nJ (nC r (Bf cg (atR e4 ie.toNat))) dH eP:=bi;obtain⟨Hp,ru,rfl,OY⟩:=bi.n.ch;obtain⟨Hq,jt,rfl,OZ⟩:=bi.d.ch
          refine af 0xc0861ce39e ?_;refine eS ⟨k+1,nC r (Bf cg (atR e4 ie.toNat)),.slice Hp _ ru,.slice Hq _ jt,nJ⟩ ?_ (hm:=.cons _ (.refl _));exact⟨aa,h5.trans (MU.trans (fa.trans fk)),B8,apN,T6⟩
        ·obtain rfl:k=x.ao.length:=aa
         rw[<-l8] at rO;have dX:(oj g m x).length=x.ao.length:=by
          unfold oj;split
          ·rename_i t;rw[e9];exact nv t
          ·have nq:x.k=2:=by rcases xB fB with t|t|t<;>omega
           have Ju:=ay.types x (dq U) nq;have E8:=(dO.1 Ju).1;have aj:m[x.i.toNat]?=some (m[x.i.toNat]'aa):=cU aa;have:=tP _ _ _ Ju aj;rw[aj];show(m[x.i.toNat]'aa).length=_;omega
         rw[ft (by rw[e9];omega),ft (by rw[e9];exact b2 _)] at Ue;have sO:et 3 (fun j r cs=>q<=j->mn hU r cs) (d.take (0+q*3)++jc r (.slice iy (aq r.z.natAbs).length gm) (.slice g3 (aq r.d).length eZ)++d.drop (0+q*3+3)) (e4.set q r):=fj.set (new:=jc r (.slice iy (aq r.z.natAbs).length gm) (.slice g3 (aq r.d).length eZ)) (by rw[j8]) aa I (fun j r cs aW h k=>mn.mono (a8.trans h5) (h aa)) (fun _=>⟨_,_,I,pS⟩);refine af 0x19810e757 ?_;refine' n4 ?hs ?_;case hs=>exact xT _ _ _ (by show 0+q*3+3<=d.length;omega)
         refine af 0x30218738 ?_;refine eS ⟨(q:Int) -1,e4.set q r,d.take (0+q*3)++jc r (.slice iy (aq r.z.natAbs).length gm) (.slice g3 (aq r.d).length eZ)++d.drop (0+q*3+3),hU⟩ ?_ (hm:=.cons _ (.cons _ (.refl _)));exact⟨aa,cr.trans (a8.trans h5),by rw[y7];exact k1.step ay U (fun k=>absurd k tN) (fun _=>Ue) (rO.mono aa),by rw[y7];exact sO⟩
  ·obtain rfl:z=-1:=aa
   have k1:rk g pl m cP 0 e4:=k1;have aa':=k1.l;obtain⟨alI,ap5,SP⟩:=fj.get (LV (ab:=e4) (i:=0) aa);obtain⟨v1,v2,rfl,iH⟩:=SP (c6 _);have EV:=iH;obtain⟨iP,dt,rfl,mh⟩:=iH.n.ch;obtain⟨rm,mT,rfl,A2⟩:=iH.d.ch;refine af 0x357c71860e757 ?_;refine b4 ?_;exact⟨cr,I,e4,k1,_,_,I,EV⟩
end
def aol{most:Int}{pl:Nat}{cL:List fu}{l:List Int}(n':FM pl cL)(hm:1<=most)(ay:kS (yE most pl cL l)):((yE most pl cL l).ns.length:Int)<=most/\∀x∈(yE most pl cL l).is,1<=x.2/\x.2<=3:=by
 have du:=aax (l:=l) n' hm;generalize fC:Io most pl cL l=σ at du;have aB:yE most pl cL l=⟨pl,σ.ns,σ.is⟩:=by unfold yE;rw[fC]
 rw[aB] at ay ⊢;have arC:σ.cW=0:=by rw[du.cW];rfl
 have Jr:=du.ir.sum;refine⟨by show(σ.ns.length:Int)<=most;omega,fun x U=>?_⟩;obtain⟨i,hi⟩:=nK.1 U;have tL:=(dO.1 hi).1;have hs:=ay.ayo _ (dq (A9 (g:=⟨pl,σ.ns,σ.is⟩) tL));obtain⟨s,hs⟩:=List.exists_mem_of_ne_nil _ hs;obtain⟨c,y,_,ae,ag,aE⟩:=aaE hs;have a6:=ay.types y (dq ae) ag;rw[aE,ff,hi] at a6;injection a6 with a6
 obtain⟨lW,hv,L,cS⟩:=du.rD c (c6 _) (nk ae);have dK:=cS.U;rw[ae] at dK;injection dK with dK;subst dK
 rcases cS.tM with⟨q,_⟩|⟨q,_⟩|⟨_,_,_,aN,aH,_⟩
 ·omega
 ·omega
 ·rw[a6];show 1<=(y.ao.length:Int)/\(y.ao.length:Int)<=3;omega
def aoj{aS:Int}{pl:Nat}{l:List Int}(hm:1<=aS)(Fc:aS<=200)(mX:1<=pl)(tS:pl<=4):iG (yD aS pl l)=0/\((yD aS pl l).ns.length:Int)<=aS/\∀x∈(yD aS pl l).is,1<=x.2/\x.2<=3:=by
 have aQ:G2 pl (FL pl l)/\(FL pl l).length=(1+fm l 5).toNat:=adu;have ae:FM pl (FL pl l):=fun p ap=>by
  have:=aQ.1 p ap;exact⟨this.1,this.2.1,this.2.2.1,this.2.2.2.1⟩
 have ag:=qX (l:=l) (n:=5) aa;have aE:iG (yD aS pl l)=0:=aok ae hm Fc mX tS aa;exact⟨aE,aol ae hm (EK aE)⟩
def axS{J:ai}{b:Option Addr}{n c s:Nat}{ps:List Nat}(h:dz J 50 3 (mn J) (.slice b n c) (ps.map fun p:Nat=>a4 (p:Int) s))(hs:0<s)(hg:s<=1000)(ap:∀p∈ps,p<=s):dz J 50 3 (n3 J) (.slice b n c) (ps.map fun p=>mK p s):=by
 obtain⟨cs,ae,ag⟩:=h;refine⟨cs,by rw[e9] at ae ⊢;exact ae,fun i x U=>?_⟩;rw[h'] at U;obtain⟨p,b3,rfl⟩:=ri.1 U;obtain⟨v1,v2,aX,aT⟩:=ag i (a4 (p:Int) s) (by rw[h',b3];rfl);obtain⟨bd,cm⟩:=afT aT hs aa (ap p (dq b3));refine⟨v1,v2,?_,cm⟩;rw[aX];have:(jc (a4 (p:Int) s) v1 v2).toArray=#[.bool (mK p s).neg,v1,v2]:=by injection bd
 exact dh Array.toList this
def axT{J:ai}{l:List bO}{v:Value}(h:qw J l v)(cG:k6 l):Hf J (l.map bO.rt) v:=by
 obtain⟨b,c,rfl,h⟩:=h;have ag:=h.Ge cG;rw[Gf cG] at ag;exact⟨b,c,by rw[e9],by rw[e9];exact ag⟩
def Vg{J:ai}{b:Option Addr}{n c:Nat}{m:List (List bO)}(h:pb J b n c m)(cG:∀l∈m,k6 l):dz J 34 1 (e8 (Hf J)) (.slice b n c) (m.map fun l=>l.map bO.rt):=by
 obtain⟨cs,ae,ag⟩:=h;refine⟨cs,by rw[e9];exact ae,fun i x U=>?_⟩;rw[h'] at U;obtain⟨l,aj,rfl⟩:=ri.1 U;obtain⟨v,aX,aT⟩:=ag i l aj;exact⟨v,aX,axT aT (cG l (dq aj))⟩
structure sl (l:List bO):Prop where
 eN:m7 l=0
 QX:∀x∈l,jo 4 x.rt
def sl.awU{l:List bO}(h:sl l):LD (l.map bO.rt):=by
 obtain⟨gj,g2,iB,o8⟩:=tc h.eN;refine⟨fun r ar=>?_,?_⟩
 ·obtain⟨x,U,rfl⟩:=lf.1 ar;have:=(yv (iB x U)).2.2.2;rw[afd this.1];exact sc _
 ·rw[rh];exact(Wh iB).1 o8
def sl.YZ{l:List bO}(h:sl l):∀r∈l.map bO.rt,jo 4 r:=fun r ar=>by
 obtain⟨x,U,rfl⟩:=lf.1 ar;exact h.QX x U
def aao{p s:Nat}(hs:0<s)(ap:p<=1000)(h:s<=1000):jo 4 (mK p s).rt:=by
 rw[Pc];exact L7 hs (FH (k:=4) (by rw[gR];omega)) (FH (k:=4) aa)
def aye{ps:List Nat}(h:0<ps.sum)(ag:ps.sum<=110)(ae:1<=ps.length)(aE:ps.length<=10):sl (jY ps):=⟨ayd h ae aE,fun x U=>by
 obtain⟨p,ap,rfl⟩:=lf.1 U;have:=xx ap;exact aao h aa aa⟩
def afG{M:Nat}{t:List Int}:(mi M t).map (fun x=>x.rt.q)=(t.map Int.toNat).map fun p:Nat=>(a4 (p:Int) M).q:=by
 unfold mi;rw[rh,rh];exact GX fun s _=>by show(mK s.toNat M).rt.q=_;rw[Pc];rfl
def afF{M:Nat}{t:List Int}(ih:0<M)(yH:M<=1000)(h:mJ M t=0):sl (mi M t):=by
 obtain⟨eH,eQ,ml,Dz⟩:=A8 h;have hs:=Pp ml;have hk:k6 (mi M t):=fun x U=>by
  obtain⟨s,_,rfl⟩:=lf.1 U;exact afR ih
 refine⟨Wd (by rw[A7];omega) hk ((Wh hk).2 ?_),fun x U=>?_⟩
 ·rw[afG];exact(Po ih).2 aa
 ·obtain⟨s,hs,rfl⟩:=lf.1 U;have:=ml s hs;exact aao ih aa yH
end
end Go.Opn

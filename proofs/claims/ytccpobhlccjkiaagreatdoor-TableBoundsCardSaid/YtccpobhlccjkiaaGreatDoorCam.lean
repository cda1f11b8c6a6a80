/- A part of the proof of TableBounds. -/
import Derived.Test.YtccpobhlccjkiaaGreatDoorCal
import Derived.Test.YtccpobhlccjkiaaGreatDoorCaf
import Derived.Test.YtccpobhlccjkiaaGreatDoorCak
import Derived.Test.YtccpobhlccjkiaaGreatDoorCai
set_option linter.defProp false
set_option maxRecDepth 100000
set_option maxHeartbeats 8000000
set_option linter.unusedVariables false
set_option linter.unusedSimpArgs false
namespace Go.Opn
noncomputable section
open Go.Cre Go.RowKit Go.Proofs
def et{α:Type}(sz:Nat)(R:Nat->α->List Value->Prop)(cells:List Value)(xs:List α):Prop:=cells.length=xs.length*sz/\∀i x,xs[i]?=some x->R i x ((cells.drop (i*sz)).take sz)
def et.at{α:Type}{sz:Nat}{R:Nat->α->List Value->Prop}{cells full:List Value}{xs:List α}(h:et sz R cells xs)(ay:full.take (xs.length*sz)=cells){i:Nat}(hi:i<xs.length):∃x cs,xs[i]?=some x/\takeN sz (qH (0+i*sz) full)=some cs/\(∀k v,k<sz->nth cs k=some v->nth full (0+i*sz+k)=some v)/\R i x cs:=by
 have ae:=h.2 i _ (cU hi);have hs:i*sz+sz<=xs.length*sz:=by rw[<-nf];exact hJ _ hi
 have aj:xs.length*sz<=full.length:=by
  have:=h.1;rw[<-ay,eL] at this;omega
 refine⟨_,_,cU hi,?_,fun k v hk az=>?_,ae⟩
 ·rw[j8,wS,zC (by rw[jO];omega),<-ay,DR,qq,gv aa]
 ·rw[lQ,iY,aP hk,n2,<-ay,iY,aP aa] at az
  rw[lQ,j8];exact az
def et.app{α:Type}{sz:Nat}{R:Nat->α->List Value->Prop}{cells new:List Value}{xs:List α}{x:α}(h:et sz R cells xs)(U:R xs.length x new)(aA:new.length=sz):et sz R (cells++new) (xs++[x]):=by
 refine⟨by rw[dv,dv,h.1,aA,x8,g',wx],fun i y an=>?_⟩;by_cases q:i<xs.length
 ·rw[sg q] at an
  have hs:i*sz+sz<=xs.length*sz:=by rw[<-nf];exact hJ _ q
  rw[aim (by rw[h.1];omega),aiv (by rw[jO,h.1];omega)];exact h.2 i y an
 ·rw[rf aa] at an
  have aQ:i=xs.length:=by
   have:=(dO.1 an).1;rw[x8] at this;omega
  subst aQ;rw[pL] at an;injection an with an;subst an
  rw[List.drop_left' (by rw[h.1]),ft aa];exact U
abbrev xy(ad:Nat)(lv e7:Value)(aS jy:Int)(z s:Bool)(pl:Nat)(gz fM:Value):List Value:=[.pointer (some ⟨ad,0,none⟩),lv,e7,.int .i64 aS,.int .i64 jy,.bool z,.bool s,.int .i64 (pl:Int),gz,fM]
abbrev zo (a k:Nat):Value:=.slice (some ⟨a,0,none⟩) k cK
def et.mono{α:Type}{sz:Nat}{R R':Nat->α->List Value->Prop}{cells:List Value}{xs:List α}(h:et sz R cells xs)(dU:∀i x cs,R i x cs->R' i x cs):et sz R' cells xs:=⟨h.1,fun i x U=>dU _ _ _ (h.2 i x U)⟩
structure hz (J:ai) (r:a2) (v1 v2:Value):Prop where
 n:ei J v1 r.z.natAbs
 d:ei J v2 r.d
def hz.mono{J ah:ai}(hle:J.le ah){r:a2}{v1 v2:Value}(h:hz J r v1 v2):hz ah r v1 v2:=⟨h.n.mono hle,h.d.mono hle⟩
def mn(J:ai)(r:a2)(cs:List Value):Prop:=∃v1 v2,cs=jc r v1 v2/\hz J r v1 v2
def jN(J:ai)(r:a2)(cs:List Value):Prop:=∃v1 v2,cs=jc r v1 v2/\gk J r v1 v2
def mn.mono{J ah:ai}(hle:J.le ah){r:a2}{cs:List Value}(h:mn J r cs):mn ah r cs:=by
 obtain⟨v1,v2,ae,ag⟩:=h;exact⟨v1,v2,ae,ag.mono hle⟩
def jN.mono{J ah:ai}(hle:J.le ah){r:a2}{cs:List Value}(h:jN J r cs):jN ah r cs:=by
 obtain⟨v1,v2,ae,ag⟩:=h;exact⟨v1,v2,ae,ag.mono hle⟩
def KB{d z rest new:List Value}{off:Nat}(al:off=d.length)(aR:z.length=new.length):gO off (d++(z++rest)) new=some (d++(new++rest)):=by
 subst al;rw[xT _ _ _ (by rw[dv,dv];omega),X2,j6];congr 3
 rw[<-j6,aim (by rw[dv];omega),to (by rw[dv];omega),nL]
structure X5 (k:Nat) (r:a2):Prop where
 n:(aq r.z.natAbs).length<=k
 d:(aq r.d).length<=k
def U7(x:Nat):(a7 x).length<=(aq x).length:=by
 refine J5 ?_;have ae:=uB (k5 x);rw[h0] at ae;exact kw ae (Qg bI _)
abbrev pk(r:a2):Bool:=decide ((aq r.z.natAbs).length<=1024)&&decide ((aq r.d).length<=1024)
section
variable {Q:da Tryz.prog}{g0:Nat}{J:ai}
def agH{v:Value}{x:Nat}(h:c5 J v x)(k2:(a7 x).length<=100000):Fn (aU Q g0) 109 [v] [] J (Ql J x):=by
 by_cases q:x=0
 ·subst q;exact azH h
 ·exact azI h q k2
def axx{r:a2}{v1 v2:Value}(ar:gk J r v1 v2)(fr:h9 30000 r)(h6:r.d≠0):Fn (aU Q g0) 71 [di r v1 v2] [] J (fun u m' ah=>J.le ah/\m'=[]/\((pk r=true/\∃v1 v2,u=.tuple #[di r v1 v2,.bool true]/\hz ah r v1 v2)\/(pk r=false/\u=.tuple #[.agg #[.bool false,.slice none 0 0,.slice none 0 0],.bool false]))):=by
 have dL:=ar;have U5:=fr.n;have xv:=jk fr.d;obtain⟨bc,bH,bb,rfl,aN,iz,nt⟩:=ar.n.bz;obtain⟨bl,c2,bt,rfl,aH,kc,nu⟩:=ar.d.bz;refine Fn.b9 (b1 Tryz.func71) I I fun H=>?_;refine rg ?_;refine fq fun ba=>?_;refine eu fun br=>?_;refine af 0xa6e702 ?_;refine cl (G:=agH dL.n aa) (h:=?_);rintro v' m' bj a8 ⟨_,rfl,bE,rfl,nv⟩;refine af 0x5f110e70211ce1 ?_;refine If (fun fE=>?_) fun fE=>?_
 ·have HD:¬(aq r.z.natAbs).length<=1024:=by simpa using fE
  refine af 0x6af817219 ?_;refine b4 ?_
  exact⟨a8,I,.inr ⟨by simp[pk,HD],I⟩⟩
 ·have HD:(aq r.z.natAbs).length<=1024:=by simpa using fE
  have iS:=nv HD;obtain⟨b0,fb,cE,rfl,bo⟩:=iS.bz;refine af 0x5e757 ?_;refine cl (G:=qD (dL.mono a8) h6) (h:=?_);rintro v' m' c3 bN ⟨_,rfl,oX⟩;have nW:=oX;obtain⟨dp,gf,eA,rfl,db,_,_⟩:=oX.bz;refine cl (G:=agH nW aa) (h:=?_);rintro v' m' e3 cQ ⟨_,rfl,gP,rfl,tX⟩;refine af 0x5f110e70211ce1 ?_;refine If (fun n7=>?_) fun n7=>?_
  ·have L9:¬(aq r.d).length<=1024:=by simpa using n7
   refine af 0x6af817219 ?_;refine b4 ?_
   exact⟨(a8.trans bN).trans cQ,I,.inr ⟨by simp[pk,HD,L9],I⟩⟩
  ·have L9:(aq r.d).length<=1024:=by simpa using n7
   have oY:=tX L9;obtain⟨fD,hP,fZ,rfl,fH⟩:=oY.bz;refine af 0x1abe05c8042a6e757 ?_;refine b4 ?_
   exact⟨(a8.trans bN).trans cQ,I,.inl ⟨by simp[pk,HD,L9],_,_,I,(iS.mono bN).mono cQ,oY⟩⟩
def an'{r:a2}{v1 v2:Value}(ar:hz J r v1 v2)(JU:X5 10000 r)(gV:r.g9):Fn (aU Q g0) 114 [di r v1 v2] [] J (pf J r):=by
 have dL:=ar;have rd:=gV.1;have eR:=JU.n;have eo:=JU.d;have kJ:=dT (U7 r.d) JU.d;obtain⟨bc,bH,bb,rfl,aN⟩:=ar.n.bz;obtain⟨bl,c2,bt,rfl,aH⟩:=ar.d.bz;refine Fn.b9 (b1 Tryz.func114) I I fun H=>?_;refine rg ?_;refine fq fun ba=>?_;refine eu fun br=>?_;refine ns ?_;refine aK.draw I (by kernel_rfl) (a0:=[.val 0,.val 1,.val 2,.val 3,.val 5,.val 6,.bw 4,.b6 [6,5,1,0],.bw 7,.b6 [1,0],.bw 8,.bw 9]) (by kernel_rfl) ?_;refine af 0x794d5354d ?_;refine' bB.ej I I I I I I I I I ec (aaq dL.n aa) ?_;rintro v' m' bj a8 ⟨_,rfl,iS⟩;have nv:=iS;obtain⟨b0,fb,cE,rfl,bo,_,_⟩:=iS.bz;refine bB.b6 eN ?_;refine' bB.ej I I I I I I I I I (dF (fun _ aI=>lA.hs a8 (dL.n.qg (dL.mono a8).d a8 (List.cons.inj aI).1) I) ec) (aaq (dL.mono a8).d aa) ?_;rintro v' m' c3 bN ⟨_,rfl,oX⟩;have nW:=oX;obtain⟨dp,gf,eA,rfl,db,_,_⟩:=oX.bz;refine bB.b6 eN ?_;refine' bB.ej I I I I I I I I I (dF (e5 I) (dF (e5 I) ec)) (FN (r:=r) (nv.mono bN) nW (fun _=>rfl) (Mn gV) (jP rd) aa) ?_;rintro v' m' e3 cQ ⟨_,rfl,dH,eP,rfl,bC⟩;have cS:=bC;obtain⟨fD,hP,fZ,rfl,fH,_,_⟩:=bC.n.bz;obtain⟨ev,e2,dJ,rfl,hS,_,_⟩:=bC.d.bz;refine af 0x1abe39e ?_;refine b4 ?_;exact⟨(a8.trans bN).trans cQ,I,_,_,I,cS⟩
def list_fn{rs:List a2}{b:Option Addr}{c:Nat}(h:dz J 50 3 (mn J) (.slice b rs.length c) rs)(aj:rs.length<=1000)(ak:∀r∈rs,r.g9/\X5 10000 r):
 Fn (aU Q g0) 85 [.slice b rs.length c] [] J (fun u m' ah=>J.le ah/\m'=[]/\∃b' c',u=.slice b' rs.length c'/\dz ah 85 3 (jN ah) (.slice b' rs.length c') rs):=by
 have oo:addrEq b b=true:=h.addr;obtain⟨_,eg⟩:=h.at;refine Fn.b9 (b1 Tryz.func85) I I fun H=>?_;refine af 0xa1ce059 ?_;refine' W.step I (.of (ti I I I I I (ee I) ?aQ ?ae ?ag fun gw=>?_));case aQ=>exact cJ
 case ae=>exact cJ
 case ag=>exact cJ
 refine af 0x302 ?_;rw[ff];refine af 0x6af809439 ?_;refine dV [(11,.int .i64 ((0):Int)),(3,_),(9,_),(10,_)] ?_;refine bp ?_;refine' aK.bK (fun(b8:Nat×(List Value)×ai)=>match b8 with|(i,d,cv)=>⟨[(11,.int .i64 (i:Int))],[(gw,.row (d++fp [.bool false,.slice none 0 0,.slice none 0 0] (rs.length -i)) 85)],cv,i<=rs.length/\J.le cv/\et 3 (fun _=>jN cv) d (rs.take i),rs.length -i⟩) ⟨0,[],J⟩ ?hs ?bn
 case hs=>exact⟨c6 _,ai.le.refl _,I,fun i x h=>by cases h⟩
 case bn=>
  rintro⟨i,d,cv⟩ hinv;try simp only at hinv
  obtain⟨hi,cr,fj⟩:=hinv;refine af 0xbe099 ?_;refine If (fun ms=>?_) fun ms=>?_
  ·obtain⟨a,off,cells,bA,rfl,l7,jJ⟩:=eg aa;obtain⟨r,cs,ar,iI,oa,v1,v2,rfl,dU⟩:=jJ i aa aa;rw[ff] at ar;have l7:=cr _ _ l7;obtain⟨gV,JU⟩:=ak r (dq ar);have sD:=dU;obtain⟨bc,bH,bb,rfl,aN⟩:=dU.n.bz;obtain⟨bl,c2,bt,rfl,aH⟩:=dU.d.bz;have rE:d.length=i*3:=by rw[fj.1,eL,gv hi]
   refine af 0x61839d5f57 ?_;refine eu fun cN=>?_;refine af 0x3021ce382 ?_;refine cl (G:=an' (sD.mono cr) JU gV) (h:=?_);rintro v' m' bj a8 ⟨_,rfl,dH,eP,rfl,bC⟩;have cS:=bC;obtain⟨ev,e2,dJ,rfl,hS,_,_⟩:=bC.n.bz;obtain⟨gH,k3,eY,rfl,mI,_,_⟩:=bC.d.bz;refine hA V.dM ?_;refine' n4 ?hs ?_;case hs=>exact(by rw[show rs.length -i=(rs.length -(i+1))+1 by omega,v5];exact KB (by rw[rE];omega) I)
   refine nh ?_;have sO:et 3 (fun _=>jN bj) (d++jc r (.slice ev e2 dJ) (.slice gH k3 eY)) (rs.take (i+1)):=by
    rw[ly,ar];exact(fj.mono fun _ _ _ q=>q.mono a8).app ⟨_,_,I,cS⟩ I
   rw[<-j6];refine af 0xc0479 ?_;refine eS ⟨i+1,d++jc r (.slice ev e2 dJ) (.slice gH k3 eY),bj⟩ ?_ (hm:=.cons _ (.refl _));exact⟨aa,cr.trans a8,sO⟩
  ·refine af 0x357 ?_;obtain rfl:i=rs.length:=aa
   refine aK.nZ (m':=[(gw,.row d 85)]) (by show List.Perm _ [(gw,df.row (d++fp [.bool false,.slice none 0 0,.slice none 0 0] (rs.length -rs.length)) 85)];rw[pL,Bo,gC]) ?_;refine aK.k8 I fun bN=>?_;rw[uM] at fj;refine af 0x357c0839 ?_;refine b4 ?_;refine⟨cr.trans bN,I,some ⟨gw,0,none⟩,rs.length,I,d,fg.row (ai.lC _ _ _) (by rw[iD,ft (by rw[fj.1];exact b2 _)]) fj.1 (fun _=>⟨b2 _,jg aj bI⟩) (fun _=>rfl),fun j x U=>(fj.2 j x U).mono bN⟩
def hI(sa dG:Nat):List Nat->List Nat->Nat
 |p::ps,q::dd=>((p:Int)*dG -(q:Int)*sa).natAbs+hI sa dG ps dd
 |_,_=>0
def WZ{sa dG:Nat}:∀{ps dd:List Nat},hI sa dG ps dd<=ps.sum*dG+dd.sum*sa
 |[],_=>by show 0<=_;omega
 |_::_,[]=>by show 0<=_;omega
 |p::ps,q::dd=>by
  have aC:=WZ (sa:=sa) (dG:=dG) (ps:=ps) (dd:=dd);show _+hI sa dG ps dd<=_;rw[lg,lg,g',g'];have:((p:Int)*dG -(q:Int)*sa).natAbs<=p*dG+q*sa:=by
   have aF:((p*dG:Nat):Int)=(p:Int)*dG:=iX _ _;have aV:((q*sa:Nat):Int)=(q:Int)*sa:=iX _ _;omega
  omega
def vK{X d:Nat}(av:0<d):¬(a4 (X:Int) d).z<0:=fun h=>by
 have:=(Oz (z:=(X:Int)) av).2.1.1 h;omega
def tE{n d k:Nat}(av:0<d)(ae:(a7 n).length<=k)(ag:d<18446744073709551616):h9 k (a4 (n:Int) d):=aoc av (by rw[gR];exact ae) ag
def agu{l:List Nat}{i x:Nat}(h:l[i]?=some x):(l.take (i+1)).sum=(l.take i).sum+x:=by
 rw[ly,h];simp
def KF{l:List Nat}:∀{i:Nat},(l.take i).sum<=l.sum:=by
 induction l with
 |nil=>intro i;simp
 |cons a l aC=>
  intro i;cases i with
  |zero=>simp
  |succ i=>rw[G1,lg,lg];have:=aC (i:=i);omega
def Ys{r s:a2}{x y:Bool}{v1 v2 bE ct:Value}(U:x=decide (r.z<0))(an:y=decide (s.z<0))(ar:gk J r v1 v2)(hs:gk J s bE ct)(gV:r.g9)(cs:s.g9){k j:Nat}(fr:h9 k r)(gi:h9 j s)(hk:k<=30000)(aW:j<=30000):Fn (aU Q g0) 67 [.agg #[.bool x,v1,v2],.agg #[.bool y,bE,ct]] [] J (pf J (a4 (r.z*s.d+s.z*r.d) (r.d*s.d))):=by
 subst U;subst an;exact Qx ar hs gV cs fr gi hk aW
def ama{r s:a2}{x:Bool}{v1 v2 bE ct:Value}(U:x=decide (r.z<0))(ar:gk J r v1 v2)(hs:gk J s bE ct)(gV:r.g9)(cs:s.g9)(sz:0<s.z)(hv:s.z.natAbs<18446744073709551616){k j:Nat}(fr:h9 k r)(gi:h9 j s)(hk:k<=30000)(aW:j<=30000):Fn (aU Q g0) 70 [.agg #[.bool x,v1,v2],di s bE ct] [] J (pf J (a4 (r.z*s.d) (r.d*s.z.natAbs))):=by
 subst U;exact al' ar hs gV cs sz hv fr gi hk aW
def azO{ps:List Nat}{s:Nat}{b:Option Addr}{c:Nat}(h:dz J 85 3 (jN J) (.slice b ps.length c) (ps.map fun p:Nat=>a4 (p:Int) s))(hs:0<s)(hg:s<18446744073709551616)(ap:(a7 ps.sum).length<=10000)(aj:ps.length<=1000):
 Fn (aU Q g0) 86 [.slice b ps.length c] [] J (pf J (a4 (ps.sum:Int) s)):=by
 have oo:addrEq b b=true:=h.addr;obtain⟨rJ,eg⟩:=h.at;rw[e9] at eg;have s3:a4 ((0:Nat):Int) s=⟨0,1⟩:=xG hs;refine Fn.b9 (b1 Tryz.func86) I I fun H=>?_;refine rg ?_;refine eu fun br=>?_;refine Ox ?_;refine eu fun bG=>?_;refine af 0xd5f0128738 ?_;refine dV [(8,.int .i64 ((0):Int)),(2,_),(3,_),(6,_),(7,_)] ?_;refine bp ?_;refine' aK.bK (fun(b8:Nat×Value×Value×ai)=>match b8 with|(i,bE,ct,cv)=>⟨[(8,.int .i64 (i:Int))],[(bG,.row [.bool false,bE,ct] 85),(br,.row [.bool false,.slice none 0 0,.slice none 0 0] 85)],cv,i<=ps.length/\J.le cv/\gk cv (a4 (((ps.take i).sum:Nat):Int) s) bE ct,ps.length -i⟩) ⟨0,.slice none 0 0,.slice none 0 0,J⟩ ?hs ?bn
 case hs=>exact⟨c6 _,ai.le.refl _,by rw[ku,List.sum_nil,s3];exact⟨c5.nil,c5.nil⟩⟩
 case bn=>
  rintro⟨i,bE,ct,cv⟩ hinv;try simp only at hinv
  obtain⟨hi,cr,bC⟩:=hinv;have nm:=bC;obtain⟨b0,fb,cE,rfl,bo,_,_⟩:=bC.n.bz;obtain⟨dp,gf,eA,rfl,db,_,_⟩:=bC.d.bz;refine af 0xbe099 ?_;refine If (fun eZ=>?_) fun eZ=>?_
  ·obtain⟨a,off,cells,bA,rfl,l7,jJ⟩:=eg aa;obtain⟨r,cs,ar,iI,oa,v1,v2,rfl,dU⟩:=jJ i aa aa;rw[ff,h'] at ar;obtain⟨p,sX,rfl⟩:=ri.1 ar;have l7:=cr _ _ l7;have sD:=dU.mono cr;obtain⟨bc,bH,bb,rfl,aN,_,_⟩:=dU.n.bz;obtain⟨bl,c2,bt,rfl,aH,_,_⟩:=dU.d.bz;have c4:=agu sX;have mc:=KF (l:=ps) (i:=i+1);have gj:=tE (n:=(ps.take i).sum) hs (dT (um KF) ap) hg;have iB:=tE (n:=p) hs (dT (um (show p<=ps.sum by omega)) ap) hg;have uF:=vK (X:=(ps.take i).sum) hs;have GB:=vK (X:=p) hs;have GC:=vK (X:=(ps.take (i+1)).sum) hs;have PN:=aep (X:=(((ps.take i).sum:Nat):Int)) (Y:=(p:Int)) hs;rw[<-wh,<-c4] at PN;refine af 0x30d9d5f57 ?_;refine eu fun cN=>?_;refine af 0xc6671c ?_;refine cl (G:=Ys (by rw[g5 uF]) I nm sD (k4 hs) (k4 hs) gj iB aa aa) (h:=?_);rintro v' m' bj a8 ⟨_,rfl,dH,eP,rfl,cS⟩;rw[PN] at cS;have mU:=cS;obtain⟨fD,hP,fZ,rfl,fH,_,_⟩:=cS.n.bz;obtain⟨ev,e2,dJ,rfl,hS,_,_⟩:=cS.d.bz;rw[PN];refine af 0x31c ?_;rw[g5 GC];refine af 0xc0479 ?_;refine eS ⟨i+1,.slice fD hP fZ,.slice ev e2 dJ,bj⟩ ?_ (hm:=.cons _ (.refl _));exact⟨aa,cr.trans a8,mU⟩
  ·obtain rfl:i=ps.length:=aa
   rw[uM] at nm;have uF:=vK (X:=ps.sum) hs;refine af 0xd5f1c66757 ?_;refine b4 ?_;exact⟨cr,I,_,_,by rw[show di (a4 (ps.sum:Int) s) (.slice b0 fb cE) (.slice dp gf eA)=.agg #[.bool (decide ((a4 (ps.sum:Int) s).z<0)),.slice b0 fb cE,.slice dp gf eA] from I,g5 uF];rfl,nm⟩
def xx:∀{l:List Nat} {x:Nat},x∈l->x<=l.sum
 |a::l,x,h=>by
  rw[lg];rcases fs.1 h with rfl|h
  ·omega
  ·have:=xx h;omega
def ahu{sa dG:Nat}:∀{ps dd:List Nat} {i p q:Nat},ps[i]?=some p->dd[i]?=some q->hI sa dG (ps.take (i+1)) (dd.take (i+1))=hI sa dG (ps.take i) (dd.take i)+((p:Int)*dG -(q:Int)*sa).natAbs
 |[],_,i,_,_,h,_=>by cases i<;>cases h
 |_::_,[],i,_,_,_,h=>by cases i<;>cases h
 |a::ps,b::dd,0,p,q,ae,ag=>by
  injection ae with ae;injection ag with ag;subst ae;subst ag
  show((a:Int)*dG -(b:Int)*sa).natAbs+hI sa dG [] []=hI sa dG [] []+_;show _+0=0+_;omega
 |a::ps,b::dd,i+1,p,q,ae,ag=>by
  have aC:=ahu (sa:=sa) (dG:=dG) (ps:=ps) (dd:=dd) (i:=i) ae ag;show((a:Int)*dG -(b:Int)*sa).natAbs+hI sa dG (ps.take (i+1)) (dd.take (i+1))=((a:Int)*dG -(b:Int)*sa).natAbs+hI sa dG (ps.take i) (dd.take i)+_;rw[aC];omega
def aAH{sa dG:Nat}{ps dd:List Nat}{i:Nat}:hI sa dG (ps.take i) (dd.take i)<=ps.sum*dG+dd.sum*sa:=
 dT WZ (Nat.add_le_add (hJ _ KF) (hJ _ KF))
def aAz{ps dd:List Nat}{sa dG:Nat}{b b':Option Addr}{c c':Nat}(h:dz J 85 3 (jN J) (.slice b ps.length c) (ps.map fun p:Nat=>a4 (p:Int) sa))(h4:dz J 85 3 (jN J) (.slice b' dd.length c') (dd.map fun p:Nat=>a4 (p:Int) dG))(Fm:0<sa)(xj:0<dG)(hr:sa*dG<18446744073709551616)(ap:ps.sum=sa)(b3:dd.sum=dG)(aj:ps.length<=1000)(gY:ps.length=dd.length):
 Fn (aU Q g0) 31 [.slice b ps.length c,.slice b' dd.length c'] [] J (pf J (a4 (hI sa dG ps dd:Int) (sa*dG*2))):=by
 have oo:addrEq b b=true:=h.addr;have axj:addrEq b' b'=true:=h4.addr;obtain⟨_,eg⟩:=h.at;obtain⟨_,abr⟩:=h4.at;rw[e9] at eg abr;have dS:0<sa*dG:=ib Fm xj;have aaL:=jk hr;have aDv:sa<=sa*dG:=aiH _ xj;have aDw:dG<=sa*dG:=X8 _ Fm;have s3:a4 ((0:Nat):Int) (sa*dG)=⟨0,1⟩:=xG dS;have B5:(a7 (sa*dG+sa*dG)).length<=6001:=dT (ad7 aaL aaL) bI;have sY:∀i,(a7 (hI sa dG (ps.take i) (dd.take i))).length<=6001:=fun i=>by
  have:=aAH (sa:=sa) (dG:=dG) (ps:=ps) (dd:=dd) (i:=i);rw[ap,b3,hn dG sa] at this;exact dT (um this) B5
 refine Fn.b9 (b1 Tryz.func31) I I fun H=>?_;refine rg ?_;refine eu fun cD=>?_;refine Ox ?_;refine eu fun cN=>?_;refine af 0xd5f0128738 ?_;refine dV [(10,.int .i64 ((0):Int)),(1,_),(4,_),(5,_),(8,_),(9,_)] ?_;refine bp ?_;refine' aK.bK (fun(b8:Nat×Value×Value×ai)=>match b8 with|(i,bE,ct,cv)=>⟨[(10,.int .i64 (i:Int))],[(cN,.row [.bool false,bE,ct] 85),(cD,.row [.bool false,.slice none 0 0,.slice none 0 0] 85)],cv,i<=ps.length/\J.le cv/\gk cv (a4 ((hI sa dG (ps.take i) (dd.take i):Nat):Int) (sa*dG)) bE ct,ps.length -i⟩) ⟨0,.slice none 0 0,.slice none 0 0,J⟩ ?hs ?bn
 case hs=>exact⟨c6 _,ai.le.refl _,by rw[ku,ku];show gk J (a4 ((0:Nat):Int) (sa*dG)) _ _;rw[s3];exact⟨c5.nil,c5.nil⟩⟩
 case bn=>
  rintro⟨i,bE,ct,cv⟩ hinv;try simp only at hinv
  obtain⟨hi,cr,bC⟩:=hinv;have nm:=bC;obtain⟨b0,fb,cE,rfl,bo,_,_⟩:=bC.n.bz;obtain⟨dp,gf,eA,rfl,db,_,_⟩:=bC.d.bz;refine af 0xbe099 ?_;refine If (fun mT=>?_) fun mT=>?_
  ·obtain⟨a,off,cells,bA,rfl,l7,jJ⟩:=eg aa;obtain⟨r,cs,ar,iI,oa,v1,v2,rfl,dU⟩:=jJ i aa aa;rw[ff,h'] at ar;obtain⟨p,sX,rfl⟩:=ri.1 ar;have l7:=cr _ _ l7;have sD:=dU.mono cr;obtain⟨bc,bH,bb,rfl,aN,_,_⟩:=dU.n.bz;obtain⟨bl,c2,bt,rfl,aH,_,_⟩:=dU.d.bz;obtain⟨bD,gM,cells',aV,rfl,aaR,aqF⟩:=abr aa;obtain⟨cu,cT,Jn,ap4,aqW,aFV,aFW,rfl,B'⟩:=aqF i aa aa;rw[ff,h'] at Jn;obtain⟨q,Ny,rfl⟩:=ri.1 Jn;have aaR:=cr _ _ aaR;have SL:=B'.mono cr;obtain⟨fD,hP,fZ,rfl,fH,_,_⟩:=B'.n.bz;obtain⟨ev,e2,dJ,rfl,hS,_,_⟩:=B'.d.bz;have Nw:=dT (xx (dq sX)) (G7 ap);have aEp:=dT (xx (dq Ny)) (G7 b3);have c4:=ahu (sa:=sa) (dG:=dG) sX Ny;have I1:(a7 ((p:Int)*dG+-(q:Int)*sa).natAbs).length<=6001:=by
    refine dT (um ?_) (sY (i+1));rw[c4,GP,<-P0];omega
   have dH:=tE (n:=p) Fm (jk (show p<18446744073709551616 by omega)) aa;have ra:=tE (n:=q) xj (jk (show q<18446744073709551616 by omega)) aa;have Xc:=tE (n:=hI sa dG (ps.take i) (dd.take i)) dS (sY i) hr;have aA6:=tE (n:=((p:Int)*dG+-(q:Int)*sa).natAbs) dS I1 hr;have gj:=vK (X:=hI sa dG (ps.take i) (dd.take i)) dS;have g2:=vK (X:=hI sa dG (ps.take (i+1)) (dd.take (i+1))) dS;have iB:a4 ((a4 (p:Int) sa).z*(a4 (q:Int) dG).d+-(a4 (q:Int) dG).z*(a4 (p:Int) sa).d) ((a4 (p:Int) sa).d*(a4 (q:Int) dG).d)=a4 ((p:Int)*dG+-(q:Int)*sa) (sa*dG):=by
    have aX:=avc (X:=(q:Int)) xj;have aT:=aeo (X:=(p:Int)) (Y:=-(q:Int)) Fm xj;rw[<-aX] at aT;exact aT
   have o8:=au9 (X:=(p:Int)*dG+-(q:Int)*sa) dS;have uF:=aep (X:=(hI sa dG (ps.take i) (dd.take i):Int)) (Y:=(((p:Int)*dG+-(q:Int)*sa).natAbs:Int)) dS;have GB:(hI sa dG (ps.take i) (dd.take i):Int)+(((p:Int)*dG+-(q:Int)*sa).natAbs:Int)=(hI sa dG (ps.take (i+1)) (dd.take (i+1)):Int):=by
    rw[c4,wh,GP,<-P0]
   rw[GB] at uF;have tW:ep 8 (.agg #[.bool false,.slice b0 fb cE,.slice dp gf eA]) (.agg #[.bool false,.slice b0 fb cE,.slice dp gf eA])=true:=by simp[ep,js,bo,db,mS]
   refine af 0x61839d5f57 ?_;refine eu fun fh=>?_;refine af 0xbe382 ?_;refine aK.draw I (by kernel_rfl) (a0:=[.val 0,.val 1,.val 2,.val 3,.val 4,.val 5,.bw 6,.b6 [0],.bw 7,.b6 [0],.bw 8,.bw 9]) (by kernel_rfl) ?_;refine af 0x1860858c ?_;refine dl I (G:=azg sD SL (k4 Fm) (k4 xj) dH ra aa aa) (h:=?_);rintro v' m' bj a8 ⟨_,rfl,eH,eQ,rfl,cS⟩;rw[iB] at cS;have po:=cS;obtain⟨gH,k3,eY,rfl,mI,_,_⟩:=cS.n.bz;obtain⟨iy,o1,gm,rfl,o4,_,_⟩:=cS.d.bz;rw[iB];refine bX.b6 eN ?_;refine dl I (G:=ajf po) (h:=?_);rintro v' m' ah hle ⟨rfl,rfl,rfl⟩;rw[o8];refine bX.b6 eN ?_;refine dl I (G:=Ys (r:=a4 (hI sa dG (ps.take i) (dd.take i):Int) (sa*dG)) (by rw[g5 gj]) I (nm.mono a8) (s:=a4 (((p:Int)*dG+-(q:Int)*sa).natAbs:Int) (sa*dG)) (by rw[<-o8];exact⟨po.n,po.d⟩) (k4 dS) (k4 dS) Xc aA6 aa aa) (h:=?_);rintro v' m' e3 cQ ⟨_,rfl,eH,eQ,rfl,fA⟩;rw[uF] at fA;have mU:=fA;obtain⟨g3,mE,eZ,rfl,m4,_,_⟩:=fA.n.bz;obtain⟨iP,nX,dt,rfl,mh,_,_⟩:=fA.d.bz;rw[uF];refine af 0x31c ?_;rw[g5 g2];refine af 0xc0479 ?_;refine eS ⟨i+1,.slice g3 mE eZ,.slice iP nX dt,e3⟩ ?_ (hm:=.cons _ (.refl _));exact⟨aa,((cr.trans a8).trans cQ),mU⟩
  ·obtain rfl:i=ps.length:=aa
   have acy:=sY ps.length;rw[uM,show dd.take ps.length=dd from ft aa] at nm acy;have uF:=vK (X:=hI sa dG ps dd) dS;have Xc:=tE (n:=hI sa dG ps dd) dS acy hr;have tW:ep 8 (.agg #[.bool false,.slice b0 fb cE,.slice dp gf eA]) (.agg #[.bool false,.slice b0 fb cE,.slice dp gf eA])=true:=by simp[ep,js,bo,db,mS]
   refine af 0x5f57 ?_;refine aK.draw I (by kernel_rfl) (a0:=[.val 0,.bw 1,.b6 [0],.bw 2,.bw 3]) (by kernel_rfl) ?_;refine GK I V.UW ?_;refine dl I (G:=NU (n:=2) bI) (h:=?_);rintro v' m' bj a8 ⟨_,rfl,eH,eQ,rfl,cS⟩;have po:=cS;obtain⟨gH,k3,eY,rfl,mI,_,_⟩:=cS.n.bz;obtain⟨iy,o1,gm,rfl,o4,_,_⟩:=cS.d.bz;refine bX.b6 eN ?_;refine dl I (G:=ama (r:=a4 (hI sa dG ps dd:Int) (sa*dG)) (by rw[g5 uF]) (nm.mono a8) po (k4 dS) ⟨by decide,by decide⟩ bI bI Xc (h9.mk (k:=1) (jk bI) bI) aa aa) (h:=?_);rintro v' m' c3 bN ⟨_,rfl,eH,eQ,rfl,fA⟩;have mU:=fA;obtain⟨g3,mE,eZ,rfl,m4,_,_⟩:=fA.n.bz;obtain⟨iP,nX,dt,rfl,mh,_,_⟩:=fA.d.bz;refine af 0xd5f1c ?_;refine b4 ?_;have e:a4 ((a4 (hI sa dG ps dd:Int) (sa*dG)).z*((1:Nat):Int)) ((a4 (hI sa dG ps dd:Int) (sa*dG)).d*2)=a4 (hI sa dG ps dd:Int) (sa*dG*2):=ava dS;exact⟨(cr.trans a8).trans bN,I,_,_,MG e,mU.cast e⟩
def m8:List Nat:=[0,1,56,2,57,49,28,3,61,58,42,50,38,29,17,4,62,47,59,36,45,43,51,22,53,39,33,30,24,18,12,5,63,55,48,27,60,41,37,16,46,35,44,21,52,32,23,11,54,26,40,15,34,20,31,10,25,14,19,9,13,8,7,6]
def WM:∀{x:Nat},x≠0->∃k o,x=2 ^ k*o/\o % 2=1:=by
 intro x;induction x using Nat.strongRecOn with
 |_ x aC=>
  intro h;rcases Qf x with q|q
  ·obtain⟨k,o,ae,ag⟩:=aC (x / 2) aa aa
   refine⟨k+1,o,?_,ag⟩;rw[lz,hn (2 ^ k) 2,lY,<-ae];omega
  ·exact⟨0,x,by rw[Lx,wx],q⟩
def KK{x k o:Nat}(he:x=2 ^ k*o)(al:o % 2=1)(U:x<18446744073709551616):k<64/\o<18446744073709551616:=by
 have ae:1<=o:=aa
 have ag:2 ^ k*1<=2 ^ k*o:=DZ _ ae;have aE:1*o<=2 ^ k*o:=hJ _ (wz k);refine⟨?_,aa⟩;apply Qe
 intro q;have:2 ^ 64<=2 ^ k:=nd bI q;omega
def atZ{x k o:Nat}(he:x=2 ^ k*o)(al:o % 2=1)(U:x<18446744073709551616):x &&& (18446744073709551616 -x)=2 ^ k:=by
 obtain⟨hk,aEi⟩:=KK he al U;have hs:2 ^ (64 -k)*2 ^ k=18446744073709551616:=ajM aa;have kd:o<2 ^ (64 -k):=X' (a:=2 ^ k) (by rw[hs,hn,<-he];exact U);have aV:18446744073709551616 -x=(2 ^ (64 -k) -o)*2 ^ k:=by rw[Nat.sub_mul,hs,he,hn o]
 have aF:o &&& (2 ^ (64 -k) -o)=1:=by
  refine aiE fun i=>?_;rw[Nat.testBit_and];obtain⟨m,hm⟩:∃m,o=2*m+1:=⟨o / 2,aa⟩;have ae:=Nat.testBit_two_pow_sub_succ (x:=2*m) (n:=64 -k) aa i;rw[show 2*m+1=o from hm.symm] at ae;rw[ae];cases i with
  |zero=>
   have ag:Nat.testBit (2*m) 0=false:=by rw[Nat.testBit_zero];simp
   have aE:Nat.testBit o 0=true:=by rw[Nat.testBit_zero,al];rfl
   rw[ag,aE];have:0<64 -k:=aa
   simp[this]
  |succ i=>
   have ag:Nat.testBit (2*m) (i+1)=Nat.testBit o (i+1):=by
        rw[Yd,Yd];congr 1
        omega
   rw[ag,Yd 1];show(Nat.testBit o (i+1)&&(_&&!Nat.testBit o (i+1)))=Nat.testBit 0 i;rw[Nat.zero_testBit];cases Nat.testBit o (i+1)<;>simp
 have cj:x=o*2 ^ k:=by rw[he,hn]
 rw[aV];conv=>lhs;rw[cj]
 rw[<-Yc,<-Yc,<-Nat.shiftLeft_and_distrib,aF,Yc,wx]
def NZ(k:Nat):Nat:=(2 ^ k*285870213051353865 % 18446744073709551616) / 288230376151711744
def as':∀k,k<64->NZ k<64/\m8[NZ k]?=some k:=by decide+kernel
def aju{a b:Nat}(aI:a<18446744073709551616)(ak:b<18446744073709551616):IntKind.u64.wrap ((BitVec.ofInt IntKind.u64.bits (a:Int) &&& BitVec.ofInt IntKind.u64.bits (b:Int)).toNat:Int)=((a &&& b:Nat):Int):=by
 have e:(BitVec.ofInt 64 (a:Int) &&& BitVec.ofInt 64 (b:Int)).toNat=a &&& b:=by
  rw[BitVec.toNat_and];have ae:(BitVec.ofInt 64 (a:Int)).toNat=a:=by rw[BitVec.toNat_ofInt];omega
  have ag:(BitVec.ofInt 64 (b:Int)).toNat=b:=by rw[BitVec.toNat_ofInt];omega
  rw[ae,ag]
 show IntKind.u64.wrap ((BitVec.ofInt 64 (a:Int) &&& BitVec.ofInt 64 (b:Int)).toNat:Int)=_;rw[e];exact W' (jg Nat.and_le_left aI)
def auR{x:Nat}(aQ:x≠0)(h:x<18446744073709551616):IntKind.u64.wrap (-(x:Int))=((18446744073709551616 -x:Nat):Int):=by
 rw[ahF];omega
def ayy{x:Nat}:(x:Int).fdiv (2 ^ ((58:Int).toNat))=((x / 288230376151711744:Nat):Int):=Gl (q:=58)
def OB{a k:Nat}(aI:a % 2=1):Nat.Coprime a (2 ^ k):=Nat.Coprime.pow_right _ (by
 show Nat.gcd a 2=1;rw[uQ,G5,aI];rfl)
def OA{d a:Nat}(h:d ∣ a)(aI:a % 2=1):d % 2=1:=by
 obtain⟨c,rfl⟩:=h;rcases Qf d with k|k
 ·rw[Nat.mul_mod,k,nM] at aI;cases aI
 ·exact k
def aor{a b k o:Nat}(aI:a % 2=1)(he:b=2 ^ k*o):Nat.gcd a o=Nat.gcd a b:=by
 rw[he];exact(Nat.Coprime.gcd_mul_left_cancel_right _ (OB (k:=k) aI).symm).symm
def aop{x y aU jm t o:Nat}(CB:x=2 ^ aU*jm)(CD:jm % 2=1)(he:x ||| y=2 ^ t*o)(al:o % 2=1):Nat.gcd x y=Nat.gcd jm y*2 ^ t:=by
 have hm:∀k,2 ^ k ∣ x ||| y↔2 ^ k ∣ x/\2 ^ k ∣ y:=fun k=>by
  rw[X6,Nat.or_mod_two_pow,Nat.or_eq_zero_iff,<-X6,<-X6]
 obtain⟨⟨dy,gd⟩,⟨lW,s0⟩⟩:=(hm t).1 ⟨o,he⟩;have arl:dy % 2=1\/lW % 2=1:=by
  rcases Qf dy with k|k
  ·rcases Qf lW with j|j
   ·exfalso
    obtain⟨c,ax⟩:=aiD k;obtain⟨d,av⟩:=aiD j;obtain⟨w,hw⟩:=(hm (t+1)).2 ⟨⟨c,by rw[gd,ax,lz,lY]⟩,⟨d,by rw[s0,av,lz,lY]⟩⟩;rw[he,lz,lY] at hw;have:=Nat.eq_of_mul_eq_mul_left (wy bI) hw;omega
   ·exact .inr j
  ·exact .inl k
 have yS:Nat.gcd dy lW % 2=1:=by
  rcases arl with k|k
  ·exact OA (tr _ _) k
  ·exact OA (uR _ _) k
 have ae:Nat.gcd x y=2 ^ t*Nat.gcd dy lW:=by rw[gd,s0,Nat.gcd_mul_left]
 have ag:Nat.gcd jm y=Nat.gcd dy lW:=by
  refine Nat.dvd_antisymm (Nat.dvd_gcd ?_ ?_) (Nat.dvd_gcd ?_ ?_)
  ·have aX:=OA (tr jm y) CD
   have aT:Nat.gcd jm y ∣ 2 ^ t*dy:=by rw[<-gd];exact DX (tr _ _) ⟨2 ^ aU,by rw[hn];exact CB⟩
   exact(OB aX).dvd_of_dvd_mul_left aT
  ·have aX:=OA (tr jm y) CD
   have aT:Nat.gcd jm y ∣ 2 ^ t*lW:=by rw[<-s0];exact uR _ _
   exact(OB aX).dvd_of_dvd_mul_left aT
  ·have aT:Nat.gcd dy lW ∣ 2 ^ aU*jm:=by rw[<-CB,gd];exact DX (tr _ _) ⟨2 ^ t,hn _ _⟩
   exact(OB yS).dvd_of_dvd_mul_left aT
  ·rw[s0];exact DX (uR _ _) ⟨2 ^ t,hn _ _⟩
 rw[ae,ag,hn]
def WN{x k o:Nat}{e:TypeId}(cq:J 2=some (cc .u8 m8,e))(aB:Nat.blt 2 (aU Q g0).g0=true)(he:x=2 ^ k*o)(al:o % 2=1)(U:x<18446744073709551616):Fn (aU Q g0) 150 [.int .u64 (x:Int)] [] J (fun u m' ah=>u=.int .i64 ((k:Nat):Int)/\m'=[]/\J=ah):=by
 obtain⟨hk,_⟩:=KK he al U;have hT:x≠0:=by rw[he];exact Nat.mul_ne_zero (jP (wz k)) aa
 obtain⟨ae,ag⟩:=as' k hk;have aj:=atZ he al U;have aA:nth (cc .u8 m8) (0+((NZ k:Nat):Int).toNat*1)=some (.int .u8 ((k:Nat):Int)):=uo ag aa;refine Fn.b9 (b1 Tryz.func150) I I fun H=>?_;refine af 0xbe081ce059 ?_;refine If (fun eA=>?_) fun eA=>?_
 ·exfalso;omega
 ·refine af 0x10e757 ?_;refine' W.step I (Exec.val I I (Gr I I ?hw) ?_);case hw=>exact auR hT U
  refine hA V.Ef ?_;rw[aju U aa,aj];refine hA V.n0 ?_;rw[show((2 ^ k:Nat):Int)*285870213051353865=((2 ^ k*285870213051353865:Nat):Int) by rw[iX];rfl,W9];refine hA V.Ef ?_;rw[ayy,show 2 ^ k*285870213051353865 % 18446744073709551616 / 288230376151711744=NZ k from I];refine' W.step I (Exec.val I I (aAg I ?aB ?gX I (agw I) ?aQ ?ae) ?_);case gX=>assumption
  case aB=>assumption
  case aQ=>exact cJ
  case ae=>exact cJ
  refine af 0x357c09c9 ?_;refine b4 ?_;exact⟨I,I,I⟩
def YN{x y:Nat}{e:TypeId}(cq:J 2=some (cc .u8 m8,e))(aB:Nat.blt 2 (aU Q g0).g0=true)(U:x<18446744073709551616)(an:y<18446744073709551616):Fn (aU Q g0) 127 [.int .u64 (x:Int),.int .u64 (y:Int)] [] J (fun u m' ah=>u=.int .u64 (Nat.gcd x y:Nat)/\m'=[]/\J=ah):=by
 refine Fn.b9 (b1 Tryz.func127) I I fun H=>?_;refine af 0xbe081ce059 ?_;refine If (fun eY=>?_) fun eY=>?_
 ·have fl:x=0:=aa
  have UG:Nat.gcd x y=y:=by rw[fl,Nat.gcd_zero_left]
  refine af 0x357c0839 ?_;refine b4 ?_
  exact⟨by rw[UG];rfl,I,I⟩
 ·have fl:x≠0:=aa
  refine af 0x5f040e757 ?_;refine If (fun dt=>?_) fun dt=>?_
  ·have hF:y=0:=aa
   have iS:Nat.gcd x y=x:=by rw[hF,G6]
   refine af 0x357c0839 ?_;refine b4 ?_
   exact⟨by rw[iS];rfl,I,I⟩
  ·have hF:y≠0:=aa
   have acb:x ||| y<18446744073709551616:=Nat.or_lt_two_pow (n:=64) U an
   obtain⟨t,o,Us,Fs⟩:=WM (x:=x ||| y) (fun q=>fl (Nat.or_eq_zero_iff.1 q).1);obtain⟨atp,jm,CB,CD⟩:=WM fl;have Av:=aop CB CD Us Fs;obtain⟨aFT,_⟩:=KK Us Fs acb;obtain⟨zL,aBd⟩:=KK CB CD U;have yR:Nat.gcd x y<=x:=X9 (Hb fl) (tr _ _);have Up:x / 2 ^ atp=jm:=by rw[CB,BA _ (wz _)]
   refine af 0x2810e757 ?_;rw[aeJ U an];refine cl (G:=WN cq aB Us Fs acb) (h:=?_);rintro v' m' ah hle ⟨rfl,rfl,rfl⟩;refine af 0x10e702 ?_;refine cl (G:=WN cq aB CB CD U) (h:=?_);rintro v' m' ah hle ⟨rfl,rfl,rfl⟩;refine af 0x6054 ?_;rw[Pj,Up];refine af 0x357 ?_;refine dV [(0,.int .u64 ((jm):Int)),(1,.int .u64 ((y):Int)),(5,_)] ?_;refine bp ?_;refine' aK.og (fun(b8:Nat×Nat)=>match b8 with|(a,b)=>⟨[(0,.int .u64 (a:Int)),(1,.int .u64 (b:Int))],a % 2=1/\a<18446744073709551616/\b<18446744073709551616/\Nat.gcd a b=Nat.gcd jm y,a+b⟩) ⟨jm,y⟩ ?hs ?bn
   case hs=>exact⟨CD,aBd,an,I⟩
   case bn=>
    rintro⟨a,b⟩ hinv;try simp only at hinv
    obtain⟨aI,abe,jv,hr⟩:=hinv;refine af 0x17c1039 ?_;refine If (fun qG=>?_) fun qG=>?_
    ·have jI:b≠0:=aa
     obtain⟨atd,kk,M',S6⟩:=WM jI;obtain⟨aB6,aB7⟩:=KK M' S6 jv;have xj:b / 2 ^ atd=kk:=by rw[M',BA _ (wz _)]
     have aEj:kk<=b:=by rw[<-xj];exact si _ _
     have S':Nat.gcd a kk=Nat.gcd jm y:=by rw[aor aI M'];exact hr
     have iz:kk<=a->Nat.gcd kk (a -kk)=Nat.gcd jm y:=fun h=>by
        rw[aiG h,uQ];exact S'
     have kc:a<=kk->Nat.gcd a (kk -a)=Nat.gcd jm y:=fun h=>by
        rw[aiG h];exact S'
     refine af 0x439d5f57 ?_;refine cl (G:=WN cq aB M' S6 jv) (h:=?_);rintro v' m' ah hle ⟨rfl,rfl,rfl⟩;refine af 0x6054 ?_;rw[Pj,xj];refine af 0x2f820439 ?_;refine If (fun QZ=>?_) fun QZ=>?_
     ·refine af 0xc08610e70210439 ?_;refine om ⟨kk,a -kk⟩ ?_;exact⟨S6,aa,aa,iz aa⟩
     ·refine af 0xc08610e757 ?_;refine om ⟨a,kk -a⟩ ?_;exact⟨aI,aa,aa,kc aa⟩
    ·have jI:b=0:=aa
     have sG:IntKind.u64.wrap ((a:Int)*2 ^ ((t:Int)).toNat)=((Nat.gcd x y:Nat):Int):=by
        rw[jI,G6] at hr;rw[Ph,Av,hr,<-Av,wu aa]
     refine af 0x357c0a810e757 ?_;refine b4 ?_
     exact⟨by rw[sG];rfl,I,I⟩
def ahb:∀{l:List Nat},(∀j y:Nat,l[j]?=some y->y=0)->bf l=0
 |[],_=>rfl
 |x::l,h=>by
  show x+1000000000*bf l=0
  rw[h 0 x I,ahb (l:=l) fun j y aW=>h (j+1) y aW]
def Pv{l:List Nat}{k:Nat}(al:hh l)(hk:k<=l.length)(aR:∀j y,k<=j->l[j]?=some y->y=0)(aA:∀y,0<k->l[k -1]?=some y->y≠0):l.take k=aq (bf l):=by
 have ae:kQ (l.take k):=⟨VF al,fun x U=>by
  have ap:0<k:=by
   rcases oC k with q|q
   ·rw[q] at U;cases U
   ·exact q
  refine aA x ap ?_
  rw[x7,eL,gv hk,iY,aP aa] at U
  exact U⟩
 have ag:=Gu l k hk
 rw[ahb (l:=l.drop k) fun j y aW=>by
  rw[n2] at aW
  exact aR (k+j) y aa aW] at ag
 rw[ty ae,ag]
 congr 1
def kK{x:Nat}:∀{k:Nat},x<1000000000 ^ k->(aq x).length<=k:=by
 intro k
 induction k generalizing x with
 |zero=>
  intro h
  have:x=0:=by rw[Lx] at h;omega
  rw[this,m1];exact b2 _
 |succ k aC=>
  intro h
  by_cases q:x=0
  ·rw[q,m1];exact c6 _
  ·rw[ue q,ks]
   have:x / 1000000000<1000000000 ^ k:=by
        rw[wo bI,<-lz];exact h
   have:=aC this
   omega
def ud{x k:Nat}(h:(aq x).length<=k):x<1000000000 ^ k:=by
 have ae:=uB (k5 x)
 rw[h0] at ae
 exact kw ae (nd bI h)
def ze{x:Nat}(h:x≠0):(aq x).length≠0:=by rw[ue h,ks];omega
def Oa{x:Nat}(h:(aq x).length≠0):x≠0:=fun q=>by rw[q,m1] at h;exact h I
def UY{x y:Nat}(h:(aq x).length<(aq y).length):x<y:=by
 have:=ahd (k5 x) (wO y) h
 rwa [h0,h0] at this
def adj{x y i a b:Nat}(aI:(aq x)[i]?=some a)(ak:(aq y)[i]?=some b)(av:(aq x).drop (i+1)=(aq y).drop (i+1))(h:a<b):x<y:=by
 have:=aAv (k5 x) aI ak av h
 rwa [h0,h0] at this
def PB(l:List Nat)(i:Nat):bf (l.take (i+1))=bf (l.take i)+1000000000 ^ i*l.getD i 0:=by
 by_cases h:i<l.length
 ·rw[KR (cU h),ld,cU h];rfl
 ·rw[ld,jq aa,ft aa,ft aa];rfl
def ahe(l:List Nat)(x:Nat):bf (l++[x])=bf l+1000000000 ^ l.length*x:=by rw[Ds,KQ]
def Sb{l:List Nat}(h:hh l)(i:Nat):l.getD i 0<1000000000:=by
 rw[ld]
 rcases q:l[i]? with _|x
 ·decide
 ·exact uq h q
def Gt{l:List Nat}{i:Nat}(h:l.length<=i):bf (l.take i)=bf l:=by rw[ft h]
def aex:hh []:=fun z aR=>(by cases aR)
abbrev z1(J:ai)(x:Nat):Value->aJ->ai->Prop:=fun u m' ah=>J.le ah/\m'=[]/\ei ah u x
def ei.at{J:ai}{b:Option Addr}{n c x:Nat}(h:ei J (.slice b n c) x)(ap:x≠0):∃a off cells e,b=some ⟨a,off,none⟩/\J a=some (cells,e)/\∀i:Nat,i<(aq x).length->∃y,(aq x)[i]?=some y/\nth cells (off+i*1)=some (.int .u32 (y:Int))/\y<1000000000:=by
 have aj:0<(aq x).length:=by have:=ze ap;omega
 obtain⟨a,off,cells,e,ae,ag,aE⟩:=dZ.at (k:=.u32) (l:=aq x) h aj;exact⟨a,off,cells,e,ae,ag,fun i hi=>by obtain⟨y,aX,aT⟩:=aE i hi;exact⟨y,aX,aT,uq (k5 x) aX⟩⟩
def ei.row{J:ai}{a n cap x:Nat}{l:List Nat}{e:TypeId}(aA:l.take n=aq x)(aj:n<=l.length)(ax:n<=cap)(hM:cap<cK)(h:J a=some (cc .u32 l,e)):ei J (.slice (some ⟨a,0,none⟩) n cap) x:=by
 have:=dZ.row (k:=.u32) aj ax hM h;rw[aA] at this;exact this
def JQ{x:Nat}(aQ:x≠0)(h:x<1000000000):aq x=[x]:=by
 rw[ue aQ,wu h,G4 h,m1]
def atH{x:Nat}(h:(aq x).length=1):aq x=[x]/\x<1000000000/\x≠0:=by
 have ae:x<1000000000:=by have:=ud (x:=x) (k:=1) (G7 h);rwa [D3] at this
 have aQ:x≠0:=Oa aa;exact⟨JQ aQ ae,ae,aQ⟩
def atD{n c:Nat}{out:List Nat}(ax:c≠0)(h:out++aq c=aq n):out++[c % 1000000000]++aq (c / 1000000000)=aq n:=by
 rw[j6,aiu,<-ue ax];exact h
def PL{v:Value}{x:Nat}(h:ei J v x)(aj:(aq x).length<=2):Fn (aU Q g0) 98 [v] [] J (fun u m' ah=>u=.int .u64 (x:Int)/\m'=[]/\J=ah):=by
 have aQ:=h;have acG:=ud aj;obtain⟨b,c,rfl,oo⟩:=h.ch;refine Fn.b9 (b1 Tryz.func98) I I fun H=>?_;refine af 0x357c08650e702ce059 ?_;refine dV [(4,.int .i64 ((((aq x).length):Int) -1)),(3,.int .u64 ((0):Int)),(0,_)] ?_;refine bp ?_;refine' aK.og (fun(b8:Nat×Nat)=>match b8 with|(k,y)=>⟨[(4,.int .i64 ((k:Int) -1)),(3,.int .u64 (y:Int))],k<=(aq x).length/\y=bf ((aq x).drop k),k⟩) ⟨(aq x).length,0⟩ ?hs ?bn
 case hs=>exact⟨b2 _,by rw[wk (b2 _)];rfl⟩
 case bn=>
  rintro⟨k,y⟩ hinv;try simp only at hinv
  obtain⟨hk,an⟩:=hinv;refine af 0x17c1039 ?_;refine If (fun eZ=>?_) fun eZ=>?_
  ·obtain⟨a,off,cells,e,rfl,gX,az⟩:=aQ.at (Oa aa);obtain⟨p,ap,Ka,bK⟩:=az (k -1) aa;have Ka:nth cells (off+((k:Int) -1).toNat*1)=some (.int .u32 (p:Int)):=by rw[show((k:Int) -1).toNat=k -1 by omega];exact Ka
   have asD:y<1000000000:=by
    have ae:=uB (VE (i:=k) (k5 x));rw[<-an,jO] at ae;have ag:1000000000 ^ ((aq x).length -k)<=1000000000 ^ 1:=nd bI aa;rw[D3] at ag;omega
   refine af 0xc0861ce043724c108c39d5f57 ?_;refine om ⟨k -1,y*1000000000+p⟩ ?_;exact⟨aa,by rw[Gs ap,show k -1+1=k by omega,<-an];omega⟩
  ·obtain rfl:k=0:=aa
   rw[iD,h0] at an;refine af 0xd5f020e757 ?_;refine b4 ?_;exact⟨by rw[an];rfl,I,I⟩
def Ob{n:Nat}(aA:n<1000000000000000000):Fn (aU Q g0) 62 [.int .u64 (n:Int)] [] J (z1 J n):=by
 have aj:(aq n).length<=2:=FH (kw aA bI);refine Fn.b9 (b1 Tryz.func62) I I fun H=>?_;refine af 0xd5f02ce059 ?_;refine dV [(0,.int .u64 ((n):Int)),(3,(.slice none 0 0))] ?_;refine bp ?_;refine' aK.bK (fun(b8:Nat×(List Nat)×Value×aJ)=>match b8 with|(c,out,gP,aS)=>⟨[(0,.int .u64 (c:Int)),(3,gP)],aS,J,c<=n/\out++aq c=aq n/\Acc 92 1 gP out.length (cc .u32 out) aS,c⟩) ⟨n,[],.slice none 0 0,[]⟩ ?hs ?bn
 case hs=>exact⟨b2 _,I,.nil⟩
 case bn=>
  rintro⟨c,out,gP,aS⟩ hinv;try simp only at hinv
  obtain⟨ax,al,c1⟩:=hinv;refine af 0x17c1039 ?_;refine If (fun fZ=>?_) fun fZ=>?_
  ·have my:c≠0:=aa
   have kd:out.length<=2:=by
    have:=dh List.length al;rw[dv] at this;omega
   refine af 0x78439d5f57 ?_;rw[show(c:Int).tmod 1000000000=((c % 1000000000:Nat):Int) from I];refine hA V.i' ?_;refine jG fun rl=>?_;refine' W.step I (.of (uD I I I I I I (ee I) (zG Q g0) (fun i q=>by cases q) ?c1 ?hm ?U ?cH ?c7 ?aj fun KW JX SV asH=>?_));case c1=>exact c1
   case hm=>exact(wm _ aS).symm
   case U=>exact lR
   case cH=>rfl
   case c7=>rfl
   case aj=>exact(show out.length+1<=1000000 by omega)
   refine af 0x604f0e702 ?_;rw[show IntKind.u64.wrap ((c:Int).tdiv 1000000000)=((c / 1000000000:Nat):Int) from KG (d:=1000000000) aa];have bn:c / 1000000000<=n/\(out++[c % 1000000000])++aq (c / 1000000000)=aq n/\Acc 92 1 KW (out++[c % 1000000000]).length (cc .u32 (out++[c % 1000000000])) JX:=⟨aa,atD my al,by rw[zn,dv];exact SV⟩;refine eS ⟨c / 1000000000,out++[c % 1000000000],KW,JX⟩ ?_ (hm:=oB _ _);exact bn
  ·obtain rfl:c=0:=aa
   rw[m1,gC] at al;refine Acc.k7 c1 (.of_eq (gC aS).symm) fun bj a8 au=>?_;rw[al] at au;refine af 0xd5f020e757 ?_;refine b4 ?_;exact⟨a8,I,_,au⟩
def atO:Fn (aU Q g0) 126 [] [] J (z1 J 1):=by
 refine Fn.b9 (b1 Tryz.func126) I I fun H=>?_;refine af 0xce059 ?_;refine jG fun ba=>?_;refine af 0x302 ?_;refine aK.k8 I fun bN=>?_;refine af 0x357 ?_;refine b4 ?_;exact⟨bN,I,ei.row (l:=[1]) (n:=1) (by rw[JQ bI bI];rfl) bI bI bI (ai.lC _ _ _)⟩
def Bw(J:ai)(v:Value)(x:Nat):Prop:=fg J 92 1 v (aq x).length (cc .u32 (aq x))
def Bw.hO{J:ai}{v:Value}{x:Nat}(h:Bw J v x):ei J v x:=⟨_,h⟩
def Bw.mono{J ah:ai}(hle:J.le ah){v:Value}{x:Nat}(h:Bw J v x):Bw ah v x:=fg.mono hle h
abbrev qv(J:ai)(x:Nat):Value->aJ->ai->Prop:=fun u m' ah=>J.le ah/\m'=[]/\Bw ah u x
def KH{v:Value}{l:List Nat}(h:fg J 92 1 v l.length (cc .u32 l))(al:hh l)(aj:l.length<=200000):Fn (aU Q g0) 74 [v] [] J (fun u m' ah=>m'=[]/\J=ah/\Bw J u (bf l)):=by
 obtain⟨b,c,rfl,_⟩:=h.inv;refine Fn.b9 (b1 Tryz.func74) I I fun H=>?_;refine af 0x1abe059 ?_;refine dV [(0,.slice (b) (l.length) (c))] ?_;refine bp ?_;refine' aK.og (fun(b8:Nat×(Option Addr)×Nat)=>match b8 with|(k,ni,ie)=>⟨[(0,.slice ni k ie)],k<=l.length/\fg J 92 1 (.slice ni k ie) k ((cc .u32 l).take k)/\∀j y,k<=j->l[j]?=some y->y=0,k⟩) ⟨l.length,b,c⟩ ?hs ?bn
 case hs=>exact⟨b2 _,by rw[ft (by rw[vL];exact b2 _)];exact h,fun j y ae ag=>by have:=(dO.1 ag).1;omega⟩
 case bn=>
  rintro⟨k,ni,ie⟩ hinv;try simp only at hinv
  obtain⟨hk,au,aR⟩:=hinv;refine af 0x121439 ?_;refine eX 6 (fun jT=>?_) fun jT=>?_
  ·obtain⟨x,U⟩:∃x,l[k -1]?=some x:=⟨_,cU aa⟩;obtain⟨_,_,bE,_,_,ct⟩:=au.inv;obtain⟨a,off,cells,bA,aN,gX,az⟩:=ct aa;injection bE with bE _ _
   subst bE;subst aN;have aA:nth cells (off+((k:Int) -1).toNat*1)=some (.int .u32 (x:Int)):=by
    rw[show((k:Int) -1).toNat*1=k -1 by omega,az (k -1) aa,iY,aP aa,Kc U]
   refine af 0x2f84112619421 ?_;refine If (fun fE=>?_) fun fE=>?_
   ·refine af 0x328439d5f57 ?_;refine' W.step I (.of (Xd I I I I (ee I) ?az ?hk I I ?aQ ?ae ?ag fun aF7 Jz=>?_));case az=>assumption
    case hk=>exact cJ
    case aQ=>exact cJ
    case ae=>exact cJ
    case ag=>exact cJ
    refine af 0x302 ?_;obtain⟨g3,eZ,rfl,_⟩:=Jz.inv;have Ey:((k:Int) -1 -0).toNat=k -1:=aa
    have rR:fg J 92 1 (.slice g3 (k -1) eZ) (k -1) ((cc .u32 l).take (k -1)):=by
      rw[Ey] at Jz;have RJ:(((cc .u32 l).take k).drop ((0:Int).toNat*1)).take ((k -1)*1)=(cc .u32 l).take (k -1):=by rw[show(0:Int).toNat*1=0 from I,iD,qq,jr,gv aa]
      rw[<-RJ];exact Jz
    rw[Ey];refine om ⟨k -1,g3,eZ⟩ ?_;exact⟨aa,rR,fun j y ae ag=>by
       by_cases q:k<=j
       ·exact aR j y q ag
       ·obtain rfl:j=k -1:=aa
        rw[U] at ag;injection ag with ag;omega⟩
   ·refine af 0xd5f020e757 ?_;refine b4 ?_
    exact⟨I,I,by
      show fg J 92 1 _ (aq (bf l)).length (cc .u32 (aq (bf l)));rw[<-Pv al hk aR fun y ae ag=>by rw[U] at ag;injection ag with ag;omega];rw[eL,gv hk];unfold cc;rw[GY];exact au⟩
  ·refine af 0x6af81073abeaf846f7bdef7b ?_;refine b4 ?_
   exact⟨I,I,by
      show fg J 92 1 _ (aq (bf l)).length (cc .u32 (aq (bf l)));rw[<-Pv al hk aR fun y ae ag=>by omega];rw[eL,gv hk];unfold cc;rw[GY];exact au⟩
def azk{x y i c:Nat}{out:List Nat}(al:hh out)(h:bf out+1000000000 ^ i*c=bf ((aq x).take i)+bf ((aq y).take i))(ae:(aq x).length<=i)(ag:(aq y).length<=i)(ax:c=0)(aA:∀z,out.getLast?=some z->z≠0):out=aq (x+y):=by
 rw[ax,sj,pc,Gt ae,Gt ag,h0,h0] at h;rw[<-h];exact ty ⟨al,aA⟩
def azn{x y i c:Nat}{out:List Nat}(aj:out.length=i)(h:bf out+1000000000 ^ i*c=bf ((aq x).take i)+bf ((aq y).take i)){s:Nat}(hs:s=c+(aq x).getD i 0+(aq y).getD i 0):bf (out++[s % 1000000000])+1000000000 ^ (i+1)*(s / 1000000000)=bf ((aq x).take (i+1))+bf ((aq y).take (i+1)):=by
 rw[ahe,PB,PB,aj];have e:1000000000 ^ i*s=1000000000 ^ i*(s % 1000000000)+1000000000 ^ (i+1)*(s / 1000000000):=by
  conv=>lhs;rw[<-G' s 1000000000]
  rw[hV,lz,lY]
 have aV:1000000000 ^ i*s=1000000000 ^ i*c+1000000000 ^ i*(aq x).getD i 0+1000000000 ^ i*(aq y).getD i 0:=by rw[hs,hV,hV]
 omega
def azl{x y i c s:Nat}(hs:s=c+(aq x).getD i 0+(aq y).getD i 0)(yS:i<(aq x).length\/i<(aq y).length\/0<c)(ae:(aq x).length<=i+1)(ag:(aq y).length<=i+1)(ax:s / 1000000000=0):s % 1000000000≠0:=by
 have hm:s % 1000000000=s:=wu aa;rw[hm];have U:∀z:Nat,i<(aq z).length->(aq z).length<=i+1->(aq z).getD i 0≠0:=fun z p q=>by
  have e:(aq z).length -1=i:=aa
  refine N' z _ ?_;rw[x7,e,ld,cU p];rfl
 rcases yS with q|q|q
 ·have:=U x q ae;omega
 ·have:=U y q ag;omega
 ·omega
def att:∀z:Nat,([]:List Nat).getLast?=some z->z≠0:=fun z aR=>(by cases aR)
def W.awZ{K:dW}{B:dN}{m e1 aS:aJ}{J:ai}{ops rest:List Oper}{bq:Option (List PanicEntry)->bY->aJ->ai->Prop}{E:bY}{e:TypeId}{sz k:Nat}{v:Value}{cells:List Value}(h:Acc e sz v k cells aS)(hm:m=aS++e1)(hk:∀ah,J.le ah->fg ah e sz v k cells->W K B ops rest E e1 ah bq):W K B ops rest E m J bq:=by
 subst hm;cases h with
 |nil=>exact hk J (ai.le.refl _) .nil
 |kA a=>exact hk J (ai.le.refl _) (.kA _ _ _ bI)
 |@opn a k cells rest z aj aR=>exact W.eG I fun ae ag=>hk _ ae (.row ag (by rw[iD,ft aa]) aj (fun q=>absurd I q) (fun _=>rfl))
 |@cap a k C cells full el ae ag aE a6=>exact W.eG I fun dK ga=>hk _ dK (.row ga ag (by rw[<-ag,eL,ae,gv (hJ _ aE)]) (fun _=>⟨aE,a6⟩) (fun q=>absurd q (Ha a6)))
def dY.k7{K:dW}{B:dN}{m:aJ}{J:ai}{cp:Exit->bY->aJ->ai->Prop}{c:Code}{e:TypeId}{sz k:Nat}{v:Value}{cells:List Value}{aS e1:aJ}{E:bY}(h:dY e sz v k cells aS)(hm:m.Perm (aS++e1))(hk:∀ah,J.le ah->fg ah e sz v k cells->aK K B c E e1 ah cp):aK K B c E m J cp:=by
 rcases h with⟨h,_,_⟩|⟨a,full,rest,rfl,rfl,aE,a6,dK⟩
 ·exact Acc.k7 h hm hk
 ·refine aK.nZ hm.symm ?_
  refine aK.k8 (x:=(full,e)) I fun hle=>?_;exact hk _ hle (.row (ai.lC _ _ _) (by rw[iD];exact a6) (by rw[<-a6,eL];omega) (fun q=>absurd I q) (fun _=>rfl))
def fg.num{J:ai}{e:TypeId}{k:IntKind}{n:Nat}{v:Value}{l:List Nat}(h:fg J e 1 v n (cc k l)):dZ k J v l:=by
 obtain⟨b,c,_,ae,_⟩:=h.inv;rw[vL,jr] at ae;subst ae;exact⟨e,h⟩
def awL{v w:Value}{x y:Nat}(ae:ei J v x)(ag:ei J w y)(tO:(aq x).length<=200000)(pZ:(aq y).length<=200000):Fn (aU Q g0) 38 [v,w] [] J (qv J (x+y)):=by
 have ae:dZ .u32 J v (aq x):=ae;have ag:dZ .u32 J w (aq y):=ag;obtain⟨bc,bb,rfl⟩:=ae.form;obtain⟨bl,bt,rfl⟩:=ag.form;refine Fn.b9 (b1 Tryz.func38) I I fun H=>?_;refine af 0x357c0b3816702ce059 ?_;refine dV [(7,.int .i64 ((0):Int)),(6,.int .u32 ((0):Int)),(5,(.slice none 0 0)),(0,_),(1,_)] ?_;refine bp ?_;refine' aK.bK (fun(b8:Nat×Nat×(List Nat)×Value×aJ)=>match b8 with|(i,c,out,ov,aS)=>⟨[(7,.int .i64 (i:Int)),(6,.int .u32 (c:Int)),(5,ov)],aS,J,i<=200001/\out.length=i/\c<2/\hh out/\bf out+1000000000 ^ i*c=bf ((aq x).take i)+bf ((aq y).take i)/\(((aq x).length<=i/\(aq y).length<=i/\c=0)->∀z,out.getLast?=some z->z≠0)/\(i=200001->c=0)/\Acc 92 1 ov out.length (cc .u32 out) aS,200001 -i⟩) ⟨0,0,[],.slice none 0 0,[]⟩ ?hs ?bn
 case hs=>exact⟨c6 _,I,by decide,aex,by rw[ku,ku];rfl,fun _=>att,fun q=>absurd q bI,.nil⟩
 case bn=>
  rintro⟨i,c,out,ov,aS⟩ hinv;try simp only at hinv
  obtain⟨hi,ji,ax,cG,az,I9,aC8,c1⟩:=hinv;refine fc [0,1,5,6,7] ?_;refine bp ?_;refine' aK.hp 0 [(21,.bool (decide ((i<(aq x).length\/i<(aq y).length\/0<c))))] ?HQ ?HZ;case HQ=>
   refine af 0x242843a ?_;refine eX 12 (fun ML=>?_) fun ML=>?_
   ·refine af 0x308dec28def7b ?_;refine ho (hC ?_);omega
   ·refine af 0x2821421 ?_;refine eX 18 (fun Sj=>?_) fun Sj=>?_
    ·refine af 0xc237b ?_;refine ho (hC ?_);omega
    ·refine af 0xc2081 ?_;refine ho (hC ?_);omega
  case HZ=>
   refine bp ?_;refine If (fun qG=>?_) fun qG=>?_
   ·obtain⟨s,hs⟩:∃s,s=c+(aq x).getD i 0+(aq y).getD i 0:=⟨_,I⟩;have aN:=Sb (k5 x) i;have aH:=Sb (k5 y) i;refine af 0x30428439d5f57 ?_;refine fc [6,27,0,1,5,7] ?_;refine bp ?_;refine' aK.hp 2 [(6,.int .u32 ((c+(aq x).getD i 0:Nat):Int))] ?ak4 ?amm;case ak4=>
     refine If (fun ll=>?_) fun ll=>?_
     ·obtain⟨a,o,cl,e,rfl,gX,y4⟩:=ae.at aa;obtain⟨p,ap,lp⟩:=y4 i aa;have bo:=vc ap;refine af 0x1810d2608439 ?_;refine'⟨⟨_,I,⟨?e2,I,I,I,I,trivial⟩⟩,iC _,I⟩;case e2=>(exact dh some (dh (Value.int .u32) (by rw[vc ap];omega)))
     ·refine lu ?_;refine'⟨⟨_,I,⟨?e2,I,I,I,I,trivial⟩⟩,iC _,I⟩;case e2=>(exact dh some (dh (Value.int .u32) (by rw[B1 (l:=aq x) aa];omega)))
    case amm=>
     refine af 0x30428439 ?_;refine fc [6,37,0,1,5,7] ?_;refine bp ?_;refine' aK.hp 2 [(6,.int .u32 (s:Int))] ?ak7 ?amp;case ak7=>
      refine If (fun Q0=>?_) fun Q0=>?_
      ·obtain⟨a,o,cl,e,rfl,gX,y4⟩:=ag.at aa;obtain⟨p,ap,lp⟩:=y4 i aa;have bo:=vc ap;refine af 0x1810d2608439 ?_;refine'⟨⟨_,I,⟨?e2,I,I,I,I,trivial⟩⟩,iC _,I⟩;case e2=>(exact dh some (dh (Value.int .u32) (by rw[hs,vc ap];omega)))
      ·refine lu ?_;refine'⟨⟨_,I,⟨?e2,I,I,I,I,trivial⟩⟩,iC _,I⟩;case e2=>(exact dh some (dh (Value.int .u32) (by rw[hs,B1 (l:=aq y) aa];omega)))
     case amp=>
      refine af 0x78439 ?_;rw[show((s:Int).tmod 1000000000)=((s % 1000000000:Nat):Int) from(DN s 1000000000).symm];refine jG fun aBP=>?_;refine' W.step I (.of (uD I I I I I I (ee I) (zG Q g0) (fun i q=>by cases q) ?c1 ?hm ?U ?cH ?c7 ?aj fun W4 Vc apG aEF=>?_));case c1=>exact c1
      case hm=>exact(wm _ aS).symm
      case U=>exact lR
      case cH=>rfl
      case c7=>rfl
      case aj=>exact(show out.length+1<=1000000 by omega)
      refine af 0x604f0e702 ?_;rw[show((s:Int).tdiv 1000000000)=((s / 1000000000:Nat):Int) from(uK s 1000000000).symm,show IntKind.u32.wrap ((s / 1000000000:Nat):Int)=((s / 1000000000:Nat):Int) from wrap_u32 aa aa];have SU:Acc 92 1 W4 (out++[s % 1000000000]).length (cc .u32 (out++[s % 1000000000])) Vc:=by
       rw[zn,dv];exact apG
      have bn:i+1<=200001/\(out++[s % 1000000000]).length=i+1/\s / 1000000000<2/\hh (out++[s % 1000000000])/\bf (out++[s % 1000000000])+1000000000 ^ (i+1)*(s / 1000000000)=bf ((aq x).take (i+1))+bf ((aq y).take (i+1))/\(((aq x).length<=i+1/\(aq y).length<=i+1/\s / 1000000000=0)->∀z,(out++[s % 1000000000]).getLast?=some z->z≠0)/\(i+1=200001->s / 1000000000=0)/\Acc 92 1 W4 (out++[s % 1000000000]).length (cc .u32 (out++[s % 1000000000])) Vc:=by
       refine⟨aa,by rw[dv,ji];rfl,aa,VD cG fun z aR=>by rw[Bu.1 aR];exact lh _ bI,azn ji az hs,fun⟨aX,aT,bd⟩ z aR=>?_,fun q=>?_,SU⟩
       ·rw[Lo,P9] at aR
        injection aR with aR
        rw[<-aR];exact azl hs qG aX aT bd
       ·have aX:=B1 (l:=aq x) (i:=i) aa
        have aT:=B1 (l:=aq y) (i:=i) aa;omega
      refine af 0x1810c39 ?_;refine eS ⟨i+1,s / 1000000000,out++[s % 1000000000],W4,Vc⟩ ?_ (hm:=oB _ _);exact bn
   ·refine Acc.k7 c1 (.of_eq (gC aS).symm) fun bj a8 au=>?_;have e:=azk (x:=x) (y:=y) cG az aa aa aa (I9 ⟨aa,aa,aa⟩);rw[e] at au;refine af 0xd5f020e757 ?_;refine b4 ?_;exact⟨a8,I,au⟩
def et.take{α:Type}{sz:Nat}{R:Nat->α->List Value->Prop}{cells:List Value}{xs:List α}(h:et sz R cells xs){k:Nat}(hk:k<=xs.length):et sz R (cells.take (k*sz)) (xs.take k):=by
 have oa:k*sz<=xs.length*sz:=hJ _ hk;refine⟨by rw[eL,eL,h.1,gv oa,gv hk],fun i x U=>?_⟩;rw[iY] at U;by_cases q:i<k
 ·rw[aP q] at U
  have hs:i*sz+sz<=k*sz:=by rw[<-nf];exact hJ _ q
  rw[DR,qq,gv aa];exact h.2 i x U
 ·rw[aG q] at U;cases U
def ag1{k:Int}{ns:List dn}:xV k ns=true↔∃(i:Nat) (x:dn),ns[i]?=some x/\x.k=2/\x.i=k:=by
 unfold xV;rw[P3];constructor
 ·rintro⟨x,U,h⟩
  obtain⟨i,hi⟩:=nK.1 U;exact⟨i,x,hi,by simpa using h⟩
 ·rintro⟨i,x,hi,h⟩
  exact⟨x,dq hi,by simpa using h⟩
def amJ{am ad qB dx qA:Nat}{lv:Value}{aS jy:Int}{z s:Bool}{pl:Nat}{n1:List dn}{is:List (Int×Int)}{fv fn Am:List Value}{rv rn r5:List Nat}{eK:Nat}{info cn:Int}
 (aA:et 6 (fun _=>qt J) (fn.take (n1.length*6)) n1)(aQ:0<=info)(aqZ:eK=is.length)(aqO:0<is.length)(cH:n1.length<=100000)(tL:is.length<=100000):
 Fn (aU Q g0) 51 [.pointer (some ⟨am,0,none⟩),.int .i64 info,.int .i64 cn] [(am,.row (xy ad lv (zo qB eK) aS jy z s pl (zo dx n1.length) (zo qA is.length)) 65),(qB,.opn fv 142 rv 0),(dx,.opn fn 96 rn 0),(qA,.opn Am 37 r5 0)] J
  (fun u m' ah=>J=ah/\∃k,m'=[(am,.row (xy ad lv (zo qB k) aS jy z s pl (zo dx n1.length) (zo qA k)) 65),(qB,.opn fv 142 rv 0),(dx,.opn fn 96 rn 0),(qA,.opn Am 37 r5 0)]/\
     k=if cn<0\/info≠(is.length:Int) -1 then is.length else if xV info n1=true then is.length else info.toNat):=by
 subst aqZ;have eg:=fun i hi=>aA.at I (i:=i) hi;refine Fn.b9 (b1 Tryz.func51) I I fun H=>?_;refine fc [2,0,1] ?_;refine bp ?_;refine' aK.hp 1 [(19,.bool (decide ((cn<0\/info≠(is.length:Int) -1))))] ?alE ?amz;case alE=>
  refine af 0x903a ?_;refine eX 9 (fun Se=>?_) fun Se=>?_
  ·refine af 0x611bdef7bdef7b ?_;exact ce
  ·refine af 0x61041954d6d821 ?_;exact ce
 case amz=>
  refine bp ?_;refine If (fun oJ=>?_) fun oJ=>?_
  ·refine af 0x357 ?_;refine iw ?_
   refine⟨I,_,I,?_⟩;rw[aP oJ]
  ·refine af 0x6af816757 ?_;refine dV [(6,.int .i64 ((0):Int)),(0,_),(1,_)] ?_;refine bp ?_;refine' aK.og (fun(i:Nat)=>⟨[(6,.int .i64 (i:Int))],i<=n1.length/\∀j,j<i->∀x,n1[j]?=some x->¬(x.k=2/\x.i=info),n1.length -i⟩) (0) ?hs ?bn;case hs=>exact⟨c6 _,fun j aW=>by omega⟩
   case bn=>
    rintro i hinv;try simp only at hinv
    obtain⟨hi,gD⟩:=hinv;refine af 0x5f042a9adb0439 ?_;refine If (fun ll=>?_) fun ll=>?_
    ·obtain⟨x,cs,U,ap',TC,bc,bb,bl,bt,b0,cE,rfl,IG,IH,aDa⟩:=eg i aa;have kz:=TC 0 _ bI I;have aV:=TC 2 _ bI I;refine af 0xd5f57 ?_;refine fc [0,1,6] ?_;refine bp ?_;refine' aK.hp 0 [(52,.bool (decide ((x.k=2/\x.i=info))))] ?HQ ?HZ;case HQ=>
      refine af 0x914d3054d6d83a ?_;refine eX 40 (fun Sj=>?_) fun Sj=>?_
      ·
        refine af 0x184102a6982a6b6c1 ?_;exact ce
      ·
        refine af 0x1846f7bdef7bdef7b ?_;exact ce
     case HZ=>
      refine bp ?_;refine If (fun HG=>?_) fun HG=>?_
      ·
        refine af 0x357 ?_;refine iw ?_
        refine⟨I,_,I,?_⟩;rw[aG oJ,aP (ag1.2 ⟨_,_,U,HG⟩)]
      ·
        refine af 0x60430e757 ?_;refine om (i+1) ?_;try dsimp only
        refine⟨aa,fun j aW y an=>?_⟩;by_cases q:j<i;(exact gD j q y an);(obtain rfl:j=i:=by omega);(rw[U] at an;injection an with an;subst an;exact HG)
    ·refine af 0x2a6b6c10e757 ?_;refine' W.step I (Exec.val I I (KP I I I (ee I) ?hm ?aQ ?ae) ?_);case hm=>repeat first|exact .head _|refine .tail _ ?_|refine j7 _ ?_
     case aQ=>exact cJ
     case ae=>exact cJ
     refine af 0x2f8e35b6 ?_;refine aK.draw I (by kernel_rfl) (a0:=[.val 0,.val 1,.val 2,.val 3,.val 4,.val 5,.val 6,.val 7,.val 8,.val 9,.val 10,.val 11,.val 12,.val 13,.bw 14]) (by kernel_rfl) ?_;refine af 0xcaa6d82a6d821 ?_;refine' bX.val I I I I (KP I I I (ee I) ?hm ?aQ ?ae) ?_;case hm=>repeat first|exact .head _|refine .tail _ ?_|refine j7 _ ?_
     case aQ=>exact cJ
     case ae=>exact cJ
     refine af 0xc71b6 ?_;refine iw ?_
     have b3:((is.length:Int) -1)=info:=aa
     refine⟨I,info.toNat,by rw[b3],?_⟩;rw[aG oJ,aG (fun q=>by
        obtain⟨j,y,an,aN⟩:=ag1.1 q;exact gD j (by have:=(dO.1 an).1;omega) y an aN)]
end
def D5(J:ai)(i:Nat)(x:mq)(cs:List Value):Prop:=∃b c,cs=[.int .i64 x.cn,.int .i64 (x.level:Int),.slice b x.seen.length c,.int .i64 (i:Int)]/\gl J (.slice b x.seen.length c) x.seen
def PX(_:Nat)(x:Int×Int)(cs:List Value):Prop:=cs=[.int .i64 x.1,.int .i64 x.2]
open Classical in
def anI{v:mq}:∀{l:List mq} {i:Nat},(∀(j:Nat) (x:mq),l[j]?=some x->x≠v)->mw v l i=none:=by
 intro l;induction l with
 |nil=>intro i _;rfl
 |cons w r aC=>
  intro i h;show(if w=v then some i else mw v r (i+1))=none;rw[aG (h 0 w I)];exact aC fun j x U=>h (j+1) x U
def ahw{x:mq}{p:Int}{L:Nat}{s:List Int}:x=⟨p,L,s⟩↔x.cn=p/\x.level=L/\x.seen=s:=by
 constructor
 ·rintro rfl;exact⟨I,I,I⟩
 ·cases x;rintro⟨rfl,rfl,rfl⟩;rfl
open Classical in
def anG{v:mq}:∀{l:List mq} {i k:Nat},(∀(j:Nat),j<k->∀x,l[j]?=some x->x≠v)->l[k]?=some v->mw v l i=some (i+k):=by
 intro l;induction l with
 |nil=>intro i k _ h;cases h
 |cons w r aC=>
  intro i k h hk;show(if w=v then some i else mw v r (i+1))=_;cases k with
  |zero=>injection hk with hk;rw[aP hk];rfl
  |succ k=>
   rw[aG (h 0 aa w I),aC (fun j aW x U=>h (j+1) aa x U) hk];congr 1;omega
def dY.kC{e:TypeId}{sz k:Nat}{v:Value}{cells:List Value}{aS:aJ}(h:dY e sz v k cells aS):∃b c,v=.slice b k c/\addrEq b b=true:=by
 rcases h with⟨h,_⟩|⟨a,full,rest,rfl,_⟩
 ·exact h.kC
 ·exact⟨_,_,I,by show(Nat.beq a a&&Nat.beq 0 0)=true;rw[ix];rfl⟩
def awt{α:Type}{x a b:α}{l r:List α}:([x]++(l++a::b::r)).Perm (l++a::b::x::r):=
 (Bv (l₁:=l) (l₂:=a::b::r)).symm.trans (zT _ ((List.Perm.swap a x _).trans (.cons _ (List.Perm.swap b x _))))
def awu{α:Type}{p d a b:α}{l r:List α}:(p::([d]++(l++a::b::r))).Perm (r++(p::d::(l++[a,b]))):=by
 have h:=ia (l₁:=p::d::(l++[a,b])) (l₂:=r);rw[show p::([d]++(l++a::b::r))=(p::d::(l++[a,b]))++r by simp];exact h
def awv{α:Type}{d a:α}{l r:List α}:(r++(d::(l++[a]))).Perm (a::d::(l++r)):=by
 refine(ia (l₁:=r) (l₂:=d::(l++[a]))).trans ?_;rw[show d::(l++[a])++r=d::(l++a::r) by simp];exact(List.Perm.cons _ Bv).trans (List.Perm.swap _ _ _)
section
variable {Q:da Tryz.prog}{g0:Nat}{J:ai}
def atc{bc bl:Option Addr}{bb bt:Nat}{eR eo:List Int}(ae:gl J (.slice bc eR.length bb) eR)(ag:gl J (.slice bl eo.length bt) eo)(aj:eR.length<=1000000):
 Fn (aU Q g0) 79 [.slice bc eR.length bb,.slice bl eo.length bt] [] J (fun u m' ah=>u=.bool (decide (eR=eo))/\m'=[]/\J=ah):=by
 have dc:=ae.r5 [];have c9:=ag.r5 [];refine Fn.b9 (b1 Tryz.func79) I I fun H=>?_;refine af 0x5f04284a1ce059 ?_;refine If (fun dt=>?_) fun dt=>?_
 ·refine af 0x1abe059 ?_;refine mP ?_;refine⟨dh Value.bool ?_,I,I⟩
  symm;rw[RA];intro q;rw[q] at dt;exact dt I
 ·refine af 0x6af816757 ?_;refine dV [(5,.int .i64 ((0):Int)),(0,_),(1,_)] ?_;refine bp ?_;refine' aK.og (fun(i:Nat)=>⟨[(5,.int .i64 (i:Int))],i<=eR.length/\∀j,j<i->eR[j]?=eo[j]?,eR.length -i⟩) (0) ?hs ?bn;case hs=>exact⟨c6 _,fun j aW=>by omega⟩
  case bn=>
   rintro i hinv;try simp only at hinv
   obtain⟨hi,gD⟩:=hinv;refine af 0x5f0428439 ?_;refine If (fun fE=>?_) fun fE=>?_
   ·obtain⟨ba,CQ,aCw,rfl,arM,vt⟩:=dc aa;obtain⟨br,CR,aCx,rfl,arN,aqz⟩:=c9 aa;obtain⟨aF,w5⟩:=arM.VX;obtain⟨aV,As⟩:=arN.VX;obtain⟨x,U,hZ⟩:=vt i aa aa;obtain⟨y,an,vv⟩:=aqz i aa aa;rw[ff] at U an;refine af 0x17d5f57 ?_;refine aK.draw I (by kernel_rfl) (a0:=[.val 0,.val 1,.val 2,.val 3,.val 4,.val 5,.val 6,.val 7,.val 8]) (by kernel_rfl) ?_;refine af 0x5f045182151821 ?_;refine If (fun uY=>?_) fun uY=>?_
    ·refine af 0x1abe059 ?_;refine mP ?_;refine⟨dh Value.bool ?_,I,I⟩
     symm;rw[RA];intro q;subst q;rw[U] at an;injection an with an;exact uY an
    ·refine af 0x60430e757 ?_;refine om (i+1) ?_;try dsimp only
     refine⟨aa,fun j aW=>?_⟩;by_cases q:j<i;(exact gD j q);(obtain rfl:j=i:=by omega);(rw[U,an];exact dh some (x4.1 uY))
   ·refine af 0x6af816757 ?_;refine mP ?_;refine⟨dh Value.bool ?_,I,I⟩
    symm;rw[Eu]
    apply pK
    intro j;by_cases q:j<i
    ·exact gD j q
    ·rw[jq aa,jq aa]
def anJ{am ad:Nat}{lv e7 gz fM:Value}{eC a1:aJ}{aS jy:Int}{z s:Bool}{pl:Nat}{cV:Option Addr}{cl a:Nat}{l:List Int}{vs:List mq}{is:List (Int×Int)}{i' ci:List Value}{cn:Int}{L:Nat}{b:Option Addr}{c:Nat}{seen:List Int}
 (aj:gl J (.slice cV l.length cl) l)(gY:l.length<=9223372036854775807)(aI:a<=l.length)
 (az:dY 142 4 e7 vs.length i' eC)(w9:et 4 (D5 J) i' vs)(hi:dY 37 2 fM is.length ci a1)(yO:et 2 PX ci is)(rQ:is.length=vs.length)(Cx:vs.length<=100000)
 (hs:gl J (.slice b seen.length c) seen)(mZ:∀x∈vs,x.seen.length<=1000000):
 Fn (aU Q g0) 50 [.pointer (some ⟨am,0,none⟩),.int .i64 cn,.int .i64 (L:Int),.slice b seen.length c] ((am,.row (xy ad lv e7 aS jy z s pl gz fM) 65)::hq ad cV cl l a::(eC++a1)) J
  (fun u m' ah=>J=ah/\∃qh p1 xz vF Rv Rd bD lV JJ,∃k:Nat,u=.int .i64 (k:Int)/\m'.Perm ((am,.row (xy ad lv qh aS jy z s pl gz p1) 65)::hq ad cV cl l bD::(xz++vF))/\bD<=l.length/\
     dY 142 4 qh lV.length Rv xz/\et 4 (D5 J) Rv lV/\dY 37 2 p1 JJ.length Rd vF/\et 2 PX Rd JJ/\
     ((mw ⟨cn,L,seen⟩ vs 0=some k/\lV=vs/\JJ=is/\bD=a)\/(mw ⟨cn,L,seen⟩ vs 0=none/\k=vs.length/\lV=vs++[⟨cn,L,seen⟩]/\JJ=is++[(cn,1+fm (l.drop a) 3)]/\bD=mR l a 3))):=by
 obtain⟨bv,aCH,rfl,afj⟩:=az.kC;obtain⟨cy,akY,rfl,zw⟩:=hi.kC;have Fm:addrEq b b=true:=by obtain⟨e,h⟩:=hs;exact h.addr
 refine Fn.b9 (b1 Tryz.func50) I I fun H=>?_;refine af 0xd5f02ce059 ?_;refine dV [(9,.int .i64 ((0):Int)),(0,_),(1,_),(2,_),(3,_)] ?_;refine bp ?_;refine' aK.og (fun(i:Nat)=>⟨[(9,.int .i64 (i:Int))],i<=vs.length/\∀j,j<i->∀x,vs[j]?=some x->x≠⟨cn,L,seen⟩,vs.length -i⟩) (0) ?hs ?bn;case hs=>exact⟨c6 _,fun j aW=>by omega⟩
 case bn=>
  rintro i hinv;try simp only at hinv
  obtain⟨qL,gD⟩:=hinv;refine af 0x2f82154db0439 ?_;refine If (fun ru=>?_) fun ru=>?_
  ·obtain⟨qB,fv,rv,aN,rfl,I5,oU⟩:=az.row aa;obtain⟨x,cs,U,ap',TC,fq,Et,rfl,acF⟩:=w9.at I5 (i:=i) aa;injection aN with aN aH bo;subst aN;subst bo
   have nw:=mZ x (dq U);have lR:addrEq fq fq=true:=by obtain⟨e,h⟩:=acF;exact h.addr
   refine af 0x5982a6d839d5f57 ?_;refine eu fun rl=>?_;refine af 0x31c ?_;refine fc [0,1,2,3,9,10] ?_;refine bp ?_;refine' aK.hp 0 [(42,.bool (decide ((x.cn=cn/\x.level=L/\x.seen=seen))))] ?HR ?H2;case HR=>
    refine af 0x240a9ba ?_;refine eX 31 (fun MM=>?_) fun MM=>?_
    ·refine af 0x282054d ?_;refine eX 37 (fun aoG=>?_) fun aoG=>?_
     ·refine af 0x54d ?_;refine BJ (G:=atc acF hs nw) (h:=?_);rintro v m' ah hle ⟨rfl,rfl,rfl⟩;refine af 0x308 ?_;exact ce
     ·refine af 0x308fef7b ?_;exact ce
    ·refine af 0xc23fbdec28def7b ?_;exact ce
   case H2=>
    refine bp ?_;refine If (fun L'=>?_) fun L'=>?_
    ·refine af 0x6af8129b9 ?_;refine'⟨.inr I,I,_,_,.tmp I .nil,?lM,?_⟩;case lM=>(have c:=L';apply List.Sublist.cons;exact iC _)
     obtain rfl:=ahw.2 L';have ay:=anG (i:=0) gD U;rw[j8] at ay;exact⟨I,_,_,_,_,_,_,_,_,_,i,I,.refl _,aI,az,w9,hi,yO,.inl ⟨ay,I,I,I⟩⟩
    ·refine af 0x60430e757 ?_;refine om (i+1) ?_ (hm:=.cons _ (.refl _));try dsimp only
     refine⟨aa,fun j aW y an=>?_⟩;by_cases q:j<i;(exact gD j q y an);(obtain rfl:j=i:=by omega);(rw[U] at an;injection an with an;subst an;exact fun q=>L' (ahw.1 q))
  ·refine af 0x5f57 ?_;refine aK.draw I (by kernel_rfl) (a0:=[.val 0,.val 1,.val 2,.val 3,.val 4,.val 5,.val 6,.val 7,.val 8,.val 9,.val 10,.val 11,.val 12,.val 13,.val 14,.iF 15,.b6 [14,13,12,11,10,9,8,7,6,5,4,3,2,1,0],.bw 16,.val 17,.val 18,.b6 [0],.bw 19]) (by kernel_rfl) ?_;refine af 0x40aa6b6c10842a6d821 ?_;refine bX.buildSlice I I I I I I (ee I) I I I fun aBS=>?_;refine bX.b6 eN ?_;refine' bX.nP I I (v3 I I I I I I (ee I) (az4 Q g0) (fun i q=>by cases q) ?c1 ?hm ?U ?cH ?c7 ?aW ?aj fun aGi auw SY=>?_);case c1=>assumption
   case hm=>exact Kr
   case U=>exact lR
   case cH=>rfl
   case c7=>rfl
   case aW=>exact cJ
   case aj=>exact cJ
   obtain⟨aB3,aCb,rfl,aFr⟩:=SY.kC;refine af 0x2f8e75b6 ?_;refine aK.draw I (by kernel_rfl) (a0:=[.val 0,.val 1,.val 2,.val 3,.val 4,.val 5,.val 6,.val 7,.val 8,.val 9,.val 10,.bw 11,.val 12,.val 13,.iF 14,.b6 [13,12,6,5,4,3,2,1,0],.bw 15,.val 16,.val 17,.val 18,.b6 [0],.bw 19]) (by kernel_rfl) ?_;refine af 0x29b60854d6d821 ?_;have hw:IntKind.i64.wrap (1+fm (l.drop a) 3)=1+fm (l.drop a) 3:=wrap_i64 (by have:=qX (l:=l.drop a) (n:=3) aa;omega) (by have:=qX (l:=l.drop a) (n:=3) aa;omega);refine' bX.call I I I I I I I I I I (a1:=[hq ad cV cl l a]) (cB:=auw++_::_::a1) awt trivial (CN aj gY aI bI) ?_;rintro v m' ah hle ⟨rfl,rfl,rfl⟩;refine af 0x203 ?_;refine bX.buildSlice I I I I I I (ee I) I I I fun aBT=>?_;refine bX.b6 eN ?_;refine' bX.nP I I (v3 I I I I I I (ee I) (az1 Q g0) (fun i q=>by cases q) ?c1 ?hm ?U ?cH ?c7 ?aW ?aj fun aGl aE' SZ=>?_);case c1=>assumption
   case hm=>exact awu
   case U=>exact lR
   case cH=>rfl
   case c7=>rfl
   case aW=>exact cJ
   case aj=>exact cJ
   obtain⟨aB4,Mc,rfl,aFs⟩:=SZ.kC;refine af 0x357c0865535b60e71ceb5b6 ?_;refine'⟨.inr I,I,_,_,.tmp I .nil,?lM,?_⟩;case lM=>exact(List.Sublist.cons _ (List.Sublist.cons_cons _ ((List.Sublist.cons _ (iC _)).append_left _))).append_left _
   refine⟨I,_,_,_,_,_,_,_,_,_,vs.length,?_,awv,wK aI,?_,w9.app (x:=⟨cn,L,seen⟩) (new:=[.int .i64 cn,.int .i64 (L:Int),.slice b seen.length c,.int .i64 (vs.length:Int)]) ⟨b,c,I,hs⟩ I,?_,yO.app (x:=(cn,1+fm (l.drop a) 3)) (new:=[.int .i64 cn,.int .i64 (1+fm (l.drop a) 3)]) I I,.inr ⟨anI fun j y an=>gD j (by have:=(dO.1 an).1;omega) y an,I,I,I,I⟩⟩
   ·show Value.int .i64 _=_;congr 1;omega
   ·rw[dv,<-rQ];rw[<-rQ] at SY;exact SY
   ·rw[dv];rw[hw] at SZ;exact SZ
def aeS{α:Type}{d p:α}{l r:List α}:([d]++(l++p::r)).Perm (l++p::d::r):=(Bv (l₁:=l) (l₂:=p::r)).symm.trans (zT _ (List.Perm.swap _ _ _))
def awr{α:Type}{q d p:α}{l r:List α}:(q::([d]++(l++p::r))).Perm (l++q::p::d::r):=(List.Perm.cons q aeS).trans List.perm_middle.symm
def aws{α:Type}{a b c d:α}:[a,b,c,d].Perm (d::[a,b,c]):=ia (l₁:=[a,b,c]) (l₂:=[d])
def OV{full new:List Value}{p m:Nat}(h:p+new.length<=full.length):(full.take p++new++full.drop (p+new.length))[m]?=if m<p then full[m]? else if m<p+new.length then new[m -p]? else full[m]?:=by
 have ae:(full.take p).length=p:=by rw[eL];omega
 by_cases q:m<p
 ·rw[aP q,j6,sg aa,iY,aP q]
 ·rw[aG q]
  by_cases aH:m<p+new.length
  ·rw[aP aH,sg (by rw[dv];omega),rf aa,ae]
  ·rw[aG aH,rf (by rw[dv];omega),n2,dv,ae]
   congr 1;omega
def et.put{α:Type}{sz:Nat}{R R':Nat->α->List Value->Prop}{full new:List Value}{xs:List α}(h:et sz R (full.take (xs.length*sz)) xs)(ay:xs.length*sz<=full.length)(dU:∀i x cs,R i x cs->R' i x cs){k:Nat}{y:α}(hk:k<xs.length)(aA:new.length=sz)(an:R' k y new):et sz R' ((full.take (k*sz)++new++full.drop (k*sz+new.length)).take (xs.length*sz)) (xs.set k y):=by
 have oa:k*sz+sz<=xs.length*sz:=by rw[<-nf];exact hJ _ hk
 refine⟨by rw[eL,dv,dv,eL,jO,hy];omega,fun i x U=>?_⟩;have hi:i<xs.length:=by have:=(dO.1 U).1;rw[hy] at this;exact this
 have tM:i*sz+sz<=xs.length*sz:=by rw[<-nf];exact hJ _ hi
 by_cases q:i=k
 ·subst q
  rw[GW hk] at U;injection U with U;subst U
  rw[show((full.take (i*sz)++new++full.drop (i*sz+new.length)).take (xs.length*sz) |>.drop (i*sz)).take sz=new from ?_]
  ·exact an
  ·apply pK
   intro j;rw[iY];by_cases q2:j<sz
   ·rw[aP q2,n2,iY,aP aa,OV aa,aG aa,aP aa]
    congr 1;omega
   ·rw[aG q2,jq aa]
 ·rw[GV (fun r=>q r.symm)] at U
  have ag:=dU _ _ _ (h.2 i x U);have av:i*sz+sz<=k*sz\/k*sz+sz<=i*sz:=by
   rcases ha i k with r|r
   ·exact .inl (by rw[<-nf];exact hJ _ r)
   ·exact .inr (by rw[<-nf];exact hJ _ aa)
  rw[show((full.take (k*sz)++new++full.drop (k*sz+new.length)).take (xs.length*sz) |>.drop (i*sz)).take sz=((full.take (xs.length*sz)).drop (i*sz)).take sz from ?_]
  ·exact ag
  ·apply pK
   intro j;rw[iY,iY];by_cases q2:j<sz
   ·rw[aP q2,aP q2,n2,n2,iY,iY,aP aa,aP aa,OV aa]
    rcases av with r|r
    ·rw[aP aa]
    ·rw[aG aa,aG aa]
   ·rw[aG q2,aG q2]
def auk{am ad dx:Nat}{lv e7 fM:Value}{aS jy:Int}{s:Bool}{pl:Nat}{cV:Option Addr}{cl a at_:Nat}{l:List Int}{n1:List dn}{fn:List Value}{rn:List Nat}
 (aj:gl J (.slice cV l.length cl) l)(gY:l.length<=9223372036854775807)(aI:a<=l.length)(dX:pl<=100)
 (aA:et 6 (fun _=>qt J) (fn.take (n1.length*6)) n1)(ay:n1.length*6<=fn.length)(eg:at_<n1.length)(cH:n1.length<=100000):
 Fn (aU Q g0) 49 [.pointer (some ⟨am,0,none⟩),.int .i64 (at_:Int)] [hq ad cV cl l a,(am,.row (xy ad lv e7 aS jy false s pl (zo dx n1.length) fM) 65),(dx,.opn fn 96 rn 0)] J
  (fun u m' ah=>J.le ah/\∃bD BZ O',m'=[(dx,.opn BZ 96 O' 0),hq ad cV cl l bD,(am,.row (xy ad lv e7 aS jy false s pl (zo dx n1.length) fM) 65)]/\bD<=l.length/\l.drop bD=(pB pl (l.drop a)).2/\BZ.length=fn.length/\
     et 6 (fun _=>qt ah) (BZ.take (n1.length*6)) (n1.set at_ ⟨3,0,0,[],[],(pB pl (l.drop a)).1⟩)):=by
 refine Fn.b9 (b1 Tryz.func49) I I fun H=>?_;refine af 0x219 ?_;refine eu fun cD=>?_;refine af 0x6af81671c ?_;refine dV [(5,.int .i64 ((0):Int)),(0,_),(1,_),(4,_)] ?_;refine bp ?_;refine' aK.bK (fun(b8:Nat×Nat×(List Int)×Value×aJ)=>match b8 with|(i,ba,ju,v,vG)=>⟨[(5,.int .i64 (i:Int))],vG++[(cD,.row [.int .i64 3,.int .i64 0,.int .i64 0,.slice none 0 0,.slice none 0 0,v] 96),hq ad cV cl l ba,(am,.row (xy ad lv e7 aS jy false s pl (zo dx n1.length) fM) 65),(dx,.opn fn 96 rn 0)],J,i<=pl/\ba<=l.length/\ju.length=i/\Acc 3 1 v ju.length (ju.map (Value.int .i64)) vG/\pB pl (l.drop a)=(ju++(pB (pl -i) (l.drop ba)).1,(pB (pl -i) (l.drop ba)).2),pl -i⟩) ⟨0,a,[],.slice none 0 0,[]⟩ ?hs ?bn
 case hs=>exact⟨c6 _,aI,I,.nil,I⟩
 case bn=>
  rintro⟨i,ba,ju,v,vG⟩ hinv;try simp only at hinv
  obtain⟨hi,sG,aqg,c1,rM⟩:=hinv;obtain⟨pi,pj,rfl,O2⟩:=c1.kC;refine af 0x2f8229adb0439 ?_;refine If (fun qF=>?_) fun qF=>?_
  ·refine af 0x17d5f57 ?_;refine aK.draw I (by kernel_rfl) (a0:=[.val 0,.val 1,.val 2,.val 3,.val 4,.val 5,.bw 6,.val 7,.iF 8,.b6 [7,1,0],.bw 9,.val 10,.bw 11]) (by kernel_rfl) ?_;refine af 0x14db054d ?_;refine' bX.call I I I I I I I I I I (a1:=[hq ad cV cl l ba]) (cB:=vG++_::[_,_]) aeS trivial (CN aj gY sG bI) ?_;rintro v m' ah hle ⟨rfl,rfl,rfl⟩;refine GK I V.n0 ?_;refine bX.buildSlice I I I I I I (ee I) I I I fun aBL=>?_;refine bX.b6 ⟨?ik,?aX,?aT,trivial⟩ ?_;case ik=>
    refine' kq.val I I I (ag4 I I I I ?hw) I ?he;case hw=>rfl
    case he=>exact lU
   case aX=>
    refine' kq.val I I I (j1 I I ?ar (g8 (fJ I) ?az)) I ?he;case ar=>exact qr
    case az=>rfl
    case he=>exact lU
   case aT=>
    refine' kq.val I I I (zH I I (zB I I)) I ?he;case he=>exact lU
   refine' bX.nP I I (zK I I I I I I (ee I) (Dp Q g0) (fun i q=>by cases q) ?c1 ?hm ?U ?cH ?c7 ?aj fun aGa aut SX=>?_);case c1=>assumption
   case hm=>exact awr
   case U=>exact lR
   case cH=>rfl
   case c7=>rfl
   case aj=>exact cJ
   have Fg:=qX (l:=l.drop ba) (n:=7) aa;have hw:IntKind.i64.wrap (fm (l.drop ba) 7 -3)=fm (l.drop ba) 7 -3:=wrap_i64 aa aa;obtain⟨ajL,uY,rfl,aFp⟩:=SX.kC;refine af 0xc0861ce38d ?_;refine eS ⟨i+1,mR l ba 7,ju++[fm (l.drop ba) 7 -3],.slice ajL (ju.length+1) uY,aut⟩ ?_ (hm:=(List.Sublist.cons _ (iC _)).append_left _);refine⟨aa,wK sG,by rw[dv,aqg];rfl,?_,?_⟩;(rw[dv,zW];rw[hw] at SX;exact SX);(rw[rM,show pl -i=(pl -(i+1))+1 by omega,z9,j6];rfl)
  ·refine af 0xa9b60e757 ?_;refine eX 31 (fun MM=>?_) fun MM=>?_
   ·exfalso;cases MM
   ·refine af 0xd5f57c237bdef7b ?_;refine c1.k7 (XP _) (fun c3 bN mZ=>?_);refine bp ?_;refine aK.draw I (by kernel_rfl) (a0:=[.val 0,.val 1,.val 2,.val 3,.val 4,.val 5,.val 6,.val 7,.bw 8]) (by kernel_rfl) ?_;refine af 0x32c2a6b6c1 ?_;refine' bX.nP I I (GA I I I I (o6 I) I I I ?ae ?hs ?aR ?ap ?_);case ap=>exact aws
    case hs=>exact xT _ _ _ (by show 0+(at_:Int).toNat*6+6<=fn.length;omega)
    case ae=>rfl
    case aR=>exact c6 _
    refine bX.nil ?_;refine'⟨.inl I,I,_,_,.nil,List.Sublist.cons_cons _ (List.Sublist.cons _ (iC _)),?_⟩;rw[show pl -i=0 by omega] at rM;have ap:pB pl (l.drop a)=(ju,l.drop ba):=by rw[rM];exact dh (·,l.drop ba) (gC ju)
    rw[ap];have aR:0+(at_:Int).toNat*6=at_*6:=aa
    refine⟨bN,ba,_,_,I,sG,I,?_,?_⟩
    ·rw[aR]
     show(_++[_,_,_,_,_,_]++_:List Value).length=_;rw[dv,dv,eL,jO];show Nat.min (at_*6) fn.length+6+(fn.length -(at_*6+6))=fn.length;have:Nat.min (at_*6) fn.length=at_*6:=gv aa;omega
    ·rw[aR]
     exact et.put (R':=fun _=>qt c3) aA ay (fun _ _ _ q=>q.mono bN) eg (new:=[.int .i64 3,.int .i64 0,.int .i64 0,.slice none 0 0,.slice none 0 0,.slice pi ju.length pj]) I ⟨_,_,_,_,_,_,I,⟨3,.nil⟩,⟨3,.nil⟩,⟨3,mZ⟩⟩
end
def D5.mono{J ah:ai}(hle:J.le ah){i:Nat}{x:mq}{cs:List Value}(h:D5 J i x cs):D5 ah i x cs:=by
 obtain⟨b,c,ae,ag⟩:=h;exact⟨b,c,ae,ag.mono hle⟩
structure kv (J:ai) (σ:ez) (a:Nat) (l:List Int) (e7 gz fM:Value) (eC ey a1:aJ):Prop where
 le:a<=l.length
 ja:σ.l=l.drop a
 v:∃i',dY 142 4 e7 σ.vs.length i' eC/\et 4 (D5 J) i' σ.vs
 n:∃bu,dY 96 6 gz σ.ns.length bu ey/\et 6 (fun _=>qt J) bu σ.ns
 i:∃ci,dY 37 2 fM σ.is.length ci a1/\et 2 PX ci σ.is
 Ba:∀x∈σ.vs,x.seen.length<=1000
def kv.mono{J ah:ai}{σ:ez}{a:Nat}{l:List Int}{e7 gz fM:Value}{eC ey a1:aJ}(h:kv J σ a l e7 gz fM eC ey a1)(hle:J.le ah):kv ah σ a l e7 gz fM eC ey a1:=by
 obtain⟨ae,ag,⟨i',aE,a6⟩,⟨bu,dK,ga⟩,mx,yF⟩:=h;exact⟨ae,ag,⟨i',aE,a6.mono fun _ _ _ q=>q.mono hle⟩,⟨bu,dK,ga.mono fun _ _ _ q=>q.mono hle⟩,mx,yF⟩
def kv.next{J:ai}{σ:ez}{a:Nat}{l:List Int}{e7 gz fM:Value}{eC ey a1:aJ}(h:kv J σ a l e7 gz fM eC ey a1)(n:Int):kv J {σ with l:=hj σ.l n} (mR l a n) l e7 gz fM eC ey a1:=by
 obtain⟨ae,ag,aE,a6,dK,ga⟩:=h;exact⟨wK ae,by show hj σ.l n=_;rw[ag,z9],aE,a6,dK,ga⟩
def kv.cW{J:ai}{σ:ez}{a:Nat}{l:List Int}{e7 gz fM:Value}{eC ey a1:aJ}(h:kv J σ a l e7 gz fM eC ey a1)(p:Int):kv J {σ with cW:=p} a l e7 gz fM eC ey a1:=⟨h.le,h.ja,h.v,h.n,h.i,h.Ba⟩
def kv.push{J:ai}{σ:ez}{a:Nat}{l:List Int}{e7 gz F1 fM:Value}{eC ey uj a1:aJ}{bu:List Value}(h:kv J σ a l e7 gz fM eC ey a1)(he:et 6 (fun _=>qt J) bu σ.ns)
 (aA:dY 96 6 F1 (σ.ns.length+1) (bu++[.int .i64 0,.int .i64 0,.int .i64 0,.slice none 0 0,.slice none 0 0,.slice none 0 0]) uj)(seen:List (List Int)):kv J (mg seen σ) a l e7 F1 fM eC uj a1:=
 ⟨h.le,h.ja,h.v,⟨_,by show dY _ _ _ (σ.ns++[_]).length _ _;rw[dv];exact aA,he.app (x:=tw) ⟨_,_,_,_,_,_,I,⟨3,.nil⟩,⟨3,.nil⟩,⟨3,.nil⟩⟩ I⟩,h.i,h.Ba⟩
def kv.Il{J:ai}{σ:ez}{a:Nat}{l:List Int}{e7 gz fM:Value}{eC ey a1:aJ}(h:kv J σ a l e7 gz fM eC ey a1):(∃b c,e7=.slice b σ.vs.length c/\addrEq b b=true)/\(∃b c,gz=.slice b σ.ns.length c/\addrEq b b=true)/\∃b c,fM=.slice b σ.is.length c/\addrEq b b=true:=by
 obtain⟨i',ae,_⟩:=h.v;obtain⟨bu,ag,_⟩:=h.n;obtain⟨ci,aE,_⟩:=h.i;exact⟨ae.kC,ag.kC,aE.kC⟩
section
variable {Q:da Tryz.prog}{g0:Nat}{J:ai}{am ad:Nat}{lv e7 gz fM:Value}{eC ey a1:aJ}{aS jy:Int}{s:Bool}{pl:Nat}{cV:Option Addr}{cl a:Nat}{l:List Int}{σ:ez}
abbrev jX(am ad:Nat)(lv:Value)(aS:Int)(s:Bool)(pl:Nat)(cV:Option Addr)(cl:Nat)(l:List Int)(jy:Int)(a:Nat)(e7 gz fM:Value)(eC ey a1:aJ):aJ:=
 (am,.row (xy ad lv e7 aS jy false s pl gz fM) 65)::hq ad cV cl l a::(eC++(ey++a1))
def adL{n:Int}(aj:gl J (.slice cV l.length cl) l)(gY:l.length<=9223372036854775807)(h:kv J σ a l e7 gz fM eC ey a1)(hm:n<=4611686018427387904):
 Fn (aU Q g0) 8 [.pointer (some ⟨ad,0,none⟩),.int .i64 n] (jX am ad lv aS s pl cV cl l jy a e7 gz fM eC ey a1) J (fun u m' ah=>J=ah/\u=.int .i64 (fm σ.l n)/\m'=jX am ad lv aS s pl cV cl l jy (mR l a n) e7 gz fM eC ey a1):=by
 refine((CN aj gY h.le hm).frame (a1:=[hq ad cV cl l a]) (cB:=(am,_)::(eC++(ey++a1))) (List.Perm.swap _ _ _)).perm ?_;rintro v m' ah ⟨_,cX,rfl,rfl,rfl,rfl⟩;exact⟨_,List.Perm.swap _ _ _,I,by rw[h.ja],I⟩
def aeV{α:Type}{x y:α}{u v w:List α}:(y::x::v++(u++w)).Perm (x::y::(u++(v++w))):=by
 refine(List.Perm.swap _ _ _).trans (List.Perm.cons _ (List.Perm.cons _ ?_));show(v++(u++w)).Perm _;rw[<-j6,<-j6];exact List.perm_append_comm.append_right w
def Va{at_:Nat}(aj:gl J (.slice cV l.length cl) l)(gY:l.length<=9223372036854775807)(h:kv J σ a l e7 gz fM eC ey a1)(dX:pl<=100)(eg:at_<σ.ns.length)(cH:σ.ns.length<=100000):
 Fn (aU Q g0) 49 [.pointer (some ⟨am,0,none⟩),.int .i64 (at_:Int)] (jX am ad lv aS s pl cV cl l jy a e7 gz fM eC ey a1) J (fun u m' ah=>J.le ah/\∃bD uj,m'=jX am ad lv aS s pl cV cl l jy bD e7 gz fM eC uj a1/\kv ah (yw pl at_ σ) bD l e7 gz fM eC uj a1):=by
 obtain⟨bu,aA,l9⟩:=h.n;obtain⟨dx,fn,rn,rfl,rfl,tI,ay⟩:=aA.row aa;subst tI;refine((auk (am:=am) (s:=s) (e7:=e7) (fM:=fM) (jy:=jy) (aS:=aS) (lv:=lv) (rn:=rn) aj gY h.le dX l9 ay eg cH).frame (cB:=eC++a1) (aeV (v:=[(dx,df.opn fn 96 rn 0)]))).perm ?_;rintro v m' ah ⟨_,cX,rfl,hle,bD,BZ,O',rfl,EZ,rM,jd,fj⟩;refine⟨_,?_,hle,bD,[(dx,df.opn BZ 96 O' 0)],I,?_⟩
 ·refine List.Perm.trans ?_ (aeV (v:=[(dx,df.opn BZ 96 O' 0)]))
  exact ia (l₁:=[(dx,_)]) (l₂:=[_,_]) |>.append_right _
 ·have hm:=h.mono hle
  refine⟨EZ,by show(pB pl σ.l).2=_;rw[rM,h.ja],hm.v,⟨BZ.take (σ.ns.length*6),?_,?_⟩,hm.i,hm.Ba⟩
  ·show dY _ _ _ (σ.ns.set _ _).length _ _
   rw[hy];exact dY.of aa
  ·show et _ _ _ (σ.ns.set _ _)
   rw[h.ja];exact fj
def aeW{α:Type}{u v w:List α}:((u++w)++v).Perm (u++(v++w)):=by
 rw[j6];exact List.perm_append_comm.append_left u
open Classical in
def auo{p:fu}{L:Nat}{b:Option Addr}{c:Nat}{seen:List Int}(aj:gl J (.slice cV l.length cl) l)(gY:l.length<=9223372036854775807)(h:kv J σ a l e7 gz fM eC ey a1)(rQ:σ.is.length=σ.vs.length)(Cx:σ.vs.length<=100000)(hs:gl J (.slice b seen.length c) seen)(Fp:seen.length<=1000):
 Fn (aU Q g0) 50 [.pointer (some ⟨am,0,none⟩),.int .i64 p.cn,.int .i64 (L:Int),.slice b seen.length c] (jX am ad lv aS s pl cV cl l jy a e7 gz fM eC ey a1) J (fun u m' ah=>J=ah/\u=.int .i64 ((eV p L seen σ).2:Int)/\∃bD qh p1 xz vF,m'=jX am ad lv aS s pl cV cl l jy bD qh gz p1 xz ey vF/\kv J (eV p L seen σ).1 bD l qh gz p1 xz ey vF):=by
 obtain⟨i',az,w9⟩:=h.v;obtain⟨ci,hi,yO⟩:=h.i;refine((anJ (am:=am) (ad:=ad) (gz:=gz) (jy:=jy) (aS:=aS) (z:=false) (s:=s) (pl:=pl) (lv:=lv) (cn:=p.cn) (L:=L) aj gY h.le az w9 hi yO rQ Cx hs (fun x U=>by have:=h.Ba x U;omega)).frame (cB:=ey) ?_).perm ?_
 ·exact List.Perm.cons _ (List.Perm.cons _ aeW)
 ·rintro v m' ah ⟨_,cX,rfl,rfl,qh,p1,xz,vF,Rv,Rd,bD,lV,JJ,k,rfl,ap,EZ,vz,abx,kF,S8,ar⟩
  refine⟨_,(ap.append_right ey).trans (List.Perm.cons _ (List.Perm.cons _ aeW)),I,?_⟩;rcases ar with⟨ay,rfl,rfl,rfl⟩|⟨ay,rfl,rfl,rfl,rfl⟩
  ·have e:eV p L seen σ=(σ,k):=by unfold eV;rw[ay]
   rw[e];exact⟨I,_,_,_,_,_,I,EZ,h.ja,⟨_,vz,abx⟩,h.n,⟨_,kF,S8⟩,h.Ba⟩
  ·have e:eV p L seen σ=({σ with l:=hj σ.l 3,vs:=σ.vs++[⟨p.cn,L,seen⟩],is:=σ.is++[(p.cn,1+fm σ.l 3)]},σ.vs.length):=by unfold eV;rw[ay]
   rw[e];refine⟨I,_,_,_,_,_,I,EZ,by show hj σ.l 3=_;rw[h.ja,z9],⟨_,vz,abx⟩,h.n,⟨_,by rw[<-h.ja] at kF;exact kF,by rw[<-h.ja] at S8;exact S8⟩,fun x U=>?_⟩;rcases mm.1 U with q|q
   ·exact h.Ba x q
   ·simp at q;subst q;exact Fp
end
def gF (seen:List (List Int))(σ:ez):ez:={mg seen σ with l:=hj σ.l 8}
open Classical in
def iu (p:fu)(L:Nat)(seen:List (List Int))(σ:ez):ez:=if p.cn<0 then gF seen σ else(eV p L (fN p seen) (gF seen σ)).1
open Classical in
def qU (p:fu)(L:Nat)(seen:List (List Int))(σ:ez):Nat:=if p.cn<0 then 0 else(eV p L (fN p seen) (gF seen σ)).2
open Classical in
def jW (p:fu)(L:Nat)(seen:List (List Int))(σ:ez):Int:=if p.cn<0 then p.many else tt (eV p L (fN p seen) (gF seen σ)).2 (eV p L (fN p seen) (gF seen σ)).1
def zl (p:fu)(L:Nat)(seen:List (List Int))(σ:ez)(ao ws:List Int):dn:=if p.cn<0 then⟨1,0,0,ao,ws,[]⟩ else⟨2,p.cn,(qU p L seen σ:Int),ao,ws,[]⟩
open Classical in
def QV{most:Int}{pl:Nat}{p:fu}{lv:List fu}{L:Nat}{seen:List (List Int)}{σ:ez}:oI most pl (p::lv) L seen σ=
 if fm σ.l 8=1 then yw pl σ.ns.length (gF seen σ) else
 if most<(σ.ns.length:Int)+1+(iu p L seen σ).cW+jW p L seen σ then yw pl σ.ns.length (kW (qU p L seen σ) p.cn (iu p L seen σ)) else
 let r:=kids (oI most pl lv (L+1)) p seen (jW p L seen σ).toNat 0 {iu p L seen σ with cW:=(iu p L seen σ).cW+jW p L seen σ} [] []
 {r.1 with ns:=r.1.ns.set σ.ns.length (zl p L seen σ r.2.1 r.2.2)}:=by
 show(if fm σ.l 8=1 then _ else if p.cn<0 then _ else _)=_;by_cases ae:fm σ.l 8=1
 ·rw[aP ae,aP ae];rfl
 ·rw[aG ae,aG ae];by_cases ag:p.cn<0
  ·rw[aP ag];have aF:iu p L seen σ=gF seen σ:=by unfold iu;rw[aP ag]
   have aV:jW p L seen σ=p.many:=by unfold jW;rw[aP ag]
   have cj:∀a b,zl p L seen σ a b=⟨1,0,0,a,b,[]⟩:=fun a b=>by unfold zl;rw[aP ag]
   have eT:kW (qU p L seen σ) p.cn (gF seen σ)=gF seen σ:=by unfold kW;rw[aP (.inl ag)]
   rw[aF,aV,eT];simp only[cj];rfl
  ·rw[aG ag];have aF:iu p L seen σ=(eV p L (fN p seen) (gF seen σ)).1:=by unfold iu;rw[aG ag]
   have aV:jW p L seen σ=tt (eV p L (fN p seen) (gF seen σ)).2 (eV p L (fN p seen) (gF seen σ)).1:=by unfold jW;rw[aG ag]
   have cR:qU p L seen σ=(eV p L (fN p seen) (gF seen σ)).2:=by unfold qU;rw[aG ag]
   have cj:∀a b,zl p L seen σ a b=⟨2,p.cn,((eV p L (fN p seen) (gF seen σ)).2:Int),a,b,[]⟩:=fun a b=>by unfold zl;rw[aG ag,cR]
   rw[aF,aV,cR];simp only[cj];rfl
open Classical in
def ayM{most:Int}{L:Nat}{σ:ez}{p:fu}{seen:List (List Int)}(fC:kV most L σ)(Cq:2<=p.many)(Fc:p.many<=3):
 (iu p L seen σ).ns=σ.ns++[tw]/\(iu p L seen σ).cW=σ.cW -1/\1<=jW p L seen σ/\jW p L seen σ<=3/\kV most (L+1) (iu p L seen σ)/\(¬most<(σ.ns.length:Int)+1+(iu p L seen σ).cW+jW p L seen σ->kV most (L+1) {iu p L seen σ with cW:=(iu p L seen σ).cW+jW p L seen σ})/\
 (0<=p.cn->∃y,(iu p L seen σ).is[qU p L seen σ]?=some y/\y.2=jW p L seen σ):=by
 by_cases ag:p.cn<0
 ·have aF:iu p L seen σ=gF seen σ:=by unfold iu;rw[aP ag]
  have aV:jW p L seen σ=p.many:=by unfold jW;rw[aP ag]
  rw[aF,aV];have hs:=fC.sum;refine⟨I,I,aa,aa,Dg fC I I (.inl ⟨I,I⟩) (by show _+(σ.cW -1)<=_;omega),fun q=>Dg fC I I (.inl ⟨I,I⟩) (by show _+(σ.cW -1+p.many)<=_;have q:¬most<(σ.ns.length:Int)+1+(σ.cW -1)+p.many:=q;omega),fun q=>by omega⟩
 ·have aF:iu p L seen σ=(eV p L (fN p seen) (gF seen σ)).1:=by unfold iu;rw[aG ag]
  have aV:jW p L seen σ=tt (eV p L (fN p seen) (gF seen σ)).2 (eV p L (fN p seen) (gF seen σ)).1:=by unfold jW;rw[aG ag]
  have cR:qU p L seen σ=(eV p L (fN p seen) (gF seen σ)).2:=by unfold qU;rw[aG ag]
  rw[aF,aV,cR];have hs:=fC.sum
  obtain⟨v1,v2,nH,v4,Bi,v6⟩:(eV p L (fN p seen) (gF seen σ)).1.ns=σ.ns++[tw]/\(eV p L (fN p seen) (gF seen σ)).1.dx=σ.dx++[seen]/\(eV p L (fN p seen) (gF seen σ)).1.cW=σ.cW -1/\
   (((eV p L (fN p seen) (gF seen σ)).1.vs=σ.vs/\(eV p L (fN p seen) (gF seen σ)).1.is=σ.is)\/∃v y,(eV p L (fN p seen) (gF seen σ)).1.vs=σ.vs++[v]/\(eV p L (fN p seen) (gF seen σ)).1.is=σ.is++[y]/\v.level=L/\y.1=v.cn/\1<=y.2/\y.2<=3)/\
   (∃v,(eV p L (fN p seen) (gF seen σ)).1.vs[(eV p L (fN p seen) (gF seen σ)).2]?=some v)/\
   ∃y,(eV p L (fN p seen) (gF seen σ)).1.is[(eV p L (fN p seen) (gF seen σ)).2]?=some y/\y.2=tt (eV p L (fN p seen) (gF seen σ)).2 (eV p L (fN p seen) (gF seen σ)).1:=by
   unfold eV;cases ay:mw ⟨p.cn,L,fN p seen⟩ (gF seen σ).vs 0 with
   |some k=>
    simp only
    obtain⟨_,aH⟩:=MC ay;rw[Hd] at aH;have hk:k<σ.is.length:=by rw[fC.is];exact nk aH
    have an:=cU hk;refine⟨I,I,I,.inl ⟨I,I⟩,⟨_,aH⟩,⟨_,an,?_⟩⟩;unfold tt;rw[show(gF seen σ).is[k]?=_ from an]
   |none=>
    simp only
    have ar:=qX (l:=(gF seen σ).l) (n:=3) aa;refine⟨I,I,I,.inr ⟨_,_,I,I,I,I,by show 1<=1+fm (gF seen σ).l 3;omega,by show 1+fm (gF seen σ).l 3<=3;omega⟩,⟨_,w2⟩,?_⟩;have aj:((gF seen σ).is++[(p.cn,1+fm (gF seen σ).l 3)])[(gF seen σ).vs.length]?=some (p.cn,1+fm (gF seen σ).l 3):=by
     rw[show(gF seen σ).vs.length=(gF seen σ).is.length from fC.is.symm,w2]
    refine⟨_,aj,?_⟩;unfold tt;rw[aj]
  have c4:kV most (L+1) (eV p L (fN p seen) (gF seen σ)).1:=Dg fC v1 v2 v4 (by rw[nH];omega);obtain⟨v,az⟩:=Bi;obtain⟨y,an,NL⟩:=v6;have cG:=c4.ok _ v y az an;refine⟨v1,nH,by rw[<-NL];exact cG.2.1,by rw[<-NL];exact cG.2.2,c4,fun q=>?_,fun _=>⟨y,an,NL⟩⟩;refine Dg fC v1 v2 v4 ?_;show(σ.ns.length:Int)+1+((eV p L (fN p seen) (gF seen σ)).1.cW+tt _ _)<=most;omega
def rY (p:fu)(σ:ez):ez:=if p.cn<0 then{σ with l:=hj σ.l 3} else σ
def rZ (p:fu)(σ:ez)(ws:List Int):List Int:=if p.cn<0 then ws++[1+fm σ.l 3] else ws
def atl{rec:List (List Int)->ez->ez}{p:fu}{seen:List (List Int)}{k i:Nat}{σ:ez}{ao ws:List Int}:kids rec p seen (k+1) i σ ao ws=kids rec p seen k (i+1) (rec (mF p i seen) (rY p σ)) (ao++[(σ.ns.length:Int)]) (rZ p σ ws):=by
 show(if p.cn<0 then _ else _)=_;unfold rY rZ;by_cases h:p.cn<0
 ·rw[aP h,aP h,aP h]
 ·rw[aG h,aG h,aG h]
def atj{most:Int}{L:Nat}{σ:ez}{p:fu}(h:kV most L σ):kV most L (rY p σ)/\(rY p σ).cW=σ.cW/\(rY p σ).ns=σ.ns:=by
 unfold rY;split
 ·exact⟨h.l _,I,I⟩
 ·exact⟨h,I,I⟩
def au7{p:fu}{i q:Nat}{seen:List (List Int)}{s:List Int}(h:seen[q]?=some s):(mF p i seen).take (q+1)=(mF p i seen).take q++[s++[xF p i q]]:=by
 have:(mF p i seen)[q]?=some (s++[xF p i q]):=by unfold mF;rw[List.getElem?_mapIdx,h];rfl
 rw[ly,this];rfl
section
variable {Q:da Tryz.prog}{g0:Nat}{J:ai}{am ad:Nat}{lv e7 gz fM:Value}{eC ey a1:aJ}{aS jy:Int}{s:Bool}{pl:Nat}{cV:Option Addr}{cl a:Nat}{l:List Int}{σ:ez}
def amF{info cn:Int}{z:Bool}(ap:cn<0)(e1:aJ):
 Fn (aU Q g0) 51 [.pointer (some ⟨am,0,none⟩),.int .i64 info,.int .i64 cn] e1 J (fun u m' ah=>J=ah/\m'=e1):=by
 refine Fn.b9 (b1 Tryz.func51) I I fun H=>?_;refine af 0x9039 ?_;refine eX 9 (fun Se=>?_) fun Se=>?_
 ·refine af 0x6afabe11bdef7bdef7b ?_;refine iw ?_;exact⟨I,I⟩
 ·exfalso;omega
def aun{info:Nat}{cn:Int}(h:kv J σ a l e7 gz fM eC ey a1)(rQ:σ.is.length=σ.vs.length)(hi:info<σ.is.length)(aA:0<σ.ns.length)(cH:σ.ns.length<=100000)(tL:σ.is.length<=100000):
 Fn (aU Q g0) 51 [.pointer (some ⟨am,0,none⟩),.int .i64 (info:Int),.int .i64 cn] (jX am ad lv aS s pl cV cl l jy a e7 gz fM eC ey a1) J (fun u m' ah=>J=ah/\∃qh p1,m'=jX am ad lv aS s pl cV cl l jy a qh gz p1 eC ey a1/\kv J (kW (info:Int) cn σ) a l qh gz p1 eC ey a1):=by
 obtain⟨i',az,w9⟩:=h.v;obtain⟨bu,sT,l9⟩:=h.n;obtain⟨ci,kF,yO⟩:=h.i;obtain⟨qB,fv,rv,rfl,rfl,I5,oU⟩:=az.row aa;obtain⟨dx,fn,rn,rfl,rfl,tI,rJ⟩:=sT.row aa;obtain⟨qA,Am,r5,rfl,rfl,Tl,aq5⟩:=kF.row aa;subst tI;refine((amJ (am:=am) (ad:=ad) (lv:=lv) (aS:=aS) (jy:=jy) (z:=false) (s:=s) (pl:=pl) (qB:=qB) (dx:=dx) (qA:=qA) (cn:=cn) (info:=(info:Int)) (fv:=fv) (rv:=rv) (Am:=Am) (r5:=r5) (rn:=rn) l9 aa rQ.symm aa cH tL).frame (cB:=[hq ad cV cl l a]) ?_).perm ?_
 ·exact(ia (l₂:=[hq ad cV cl l a])).trans (List.Perm.swap _ _ _)
 ·rintro v m' ah ⟨_,cX,rfl,rfl,k,rfl,hk⟩
  refine⟨_,(ia (l₂:=[hq ad cV cl l a])).trans (List.Perm.swap _ _ _),I,_,_,I,?_⟩;by_cases bb:cn<0\/(info:Int)≠(σ.is.length:Int) -1
  ·rw[aP bb] at hk
   have e:kW (info:Int) cn σ=σ:=by unfold kW;rw[aP bb]
   rw[e,hk,rQ];rw[rQ] at h;exact h
  ·rw[aG bb] at hk
   by_cases bt:xV (info:Int) σ.ns=true
   ·rw[aP bt] at hk
    have e:kW (info:Int) cn σ=σ:=by unfold kW;rw[aG bb,aP bt]
    rw[e,hk,rQ];rw[rQ] at h;exact h
   ·rw[aG bt] at hk
    have e:kW (info:Int) cn σ={σ with is:=σ.is.take (info:Int).toNat,vs:=σ.vs.take (σ.vs.length -1)}:=by unfold kW;rw[aG bb,aG bt]
    rw[e];have hk:k=info:=aa
    have qL:info=σ.vs.length -1:=aa
    subst hk;refine⟨h.le,h.ja,⟨(fv.take (k*4)),?_,?_⟩,h.n,⟨Am.take (k*2),?_,?_⟩,fun x U=>h.Ba x (DU U)⟩
    ·show dY _ _ _ (σ.vs.take _).length _ _
     rw[eL,<-qL,gv aa];exact dY.of aa
    ·have:=w9.take (k:=k) aa
     rw[<-I5,qq,gv aa] at this;rw[<-qL];exact this
    ·show dY _ _ _ (σ.is.take _).length _ _
     rw[eL,ff,gv aa];exact dY.of aa
    ·have:=yO.take (k:=k) aa
     rw[<-Tl,qq,gv aa] at this;rw[ff];exact this
end
end
end Go.Opn

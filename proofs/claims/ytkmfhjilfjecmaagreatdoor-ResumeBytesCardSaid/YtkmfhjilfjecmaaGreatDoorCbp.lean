/- A part of the proof of ResumeBytes. -/
import Derived.Test.YtkmfhjilfjecmaaGreatDoorCbo
set_option maxRecDepth 100000
set_option maxHeartbeats 4000000
set_option linter.unusedVariables false
set_option linter.unusedSimpArgs false
namespace Go.Opn
noncomputable section
open Go.Cre Go.RowKit Go.Proofs
abbrev qY:=Int×Int×Int×Int
def afF(x:qY):List Value:=[.int .i64 x.1,.int .i64 x.2.1,.int .i64 x.2.2.1,.int .i64 x.2.2.2]
def xm(s:List qY):List Value:=s.flatMap afF
def Ss(x:qY)(cs:List Value):Prop:=cs=[.int .i64 x.1,.int .i64 x.2.1,.int .i64 x.2.2.1,.int .i64 x.2.2.2]
theorem aft{α:Type}{f:α->List Value}{k:Nat}(aD:∀x,(f x).length=k):∀{s:List α} {i:Nat},(s.flatMap f).drop (i*k)=(s.drop i).flatMap f:=by
 intro s;induction s with
 |nil=>intro i;simp
 |cons x r aI=>
  intro i;cases i with
  |zero=>simp
  |succ i=>
   rw[FI,MX,<-aI,SA,Aw (by rw[aD,po];omega),k2,aD];congr 1
   rw[po];omega
theorem Kx(a b:List qY):xm (a++b)=xm a++xm b:=by unfold xm;rw[SD]
theorem aex{J:aH}{e:TypeId}{v:Value}{s:List qY}(h:hL J e 4 v s.length (xm s)):fc J e 4 Ss v s:=by
 refine⟨xm s,h,fun i x U=>?_⟩;have ao:=(dY.1 U).1;unfold xm;rw[aft (k:=4) (fun _=>rfl),ny ao];have:s[i]=x:=by rw[dj ao] at U;injection U
 rw[this];rfl
theorem an6{i:Int}{x:cR}:∀{l:List cR} {n a:Nat},l[a]?=some x->x.k=2/\x.i=i->((n+a:Nat):Int)∈eJ i n l:=by
 intro l;induction l with
 |nil=>intro n a h;cases h
 |cons y r aI=>
  intro n a h aO;cases a with
  |zero=>
   simp at h;subst h;unfold eJ;rw[aE aO];exact .head _
  |succ a=>
   have:=aI (n:=n+1) (a:=a) (by simpa using h) aO;rw[show n+1+a=n+(a+1) by omega] at this;unfold eJ;split
   ·exact .tail _ this
   ·exact this
def s9(g:bq)(j:Nat):Int:=match g.is[j]? with|some y=>y.1|none=>0
def yS(g:bq)(j:Nat)(x:Int):Prop:=wF g (gB g) j x.toNat\/gE g (gB g) (s9 g j) x.toNat≠gE g (gB g) (s9 g j) (fj (eJ (j:Int) 0 g.ns)).toNat
structure mQ (g:bq) (L:List qY) (i:Nat) (B:Prop):Prop where
 lt:∀f∈L,0<=f.2.2.1/\f.2.2.1<=i
 ev:∀j:Nat,j<i->((∃f∈L,f.2.2.1=(j:Int))↔∃x∈eJ (j:Int) 0 g.ns,yS g j x)
 cur:(∃f∈L,f.2.2.1=(i:Int))↔B
theorem mQ.nil{g:bq}:mQ g [] 0 False:=⟨(fun f q=>by cases q),(fun j h=>by omega),⟨(fun⟨f,q,_⟩=>by cases q),False.elim⟩⟩
theorem mQ.iff{g:bq}{L:List qY}{i:Nat}{B qS:Prop}(h:mQ g L i B)(ap:B↔qS):mQ g L i qS:=⟨h.lt,h.ev,h.cur.trans ap⟩
theorem mQ.add{g:bq}{L:List qY}{i:Nat}{B:Prop}(h:mQ g L i B)(k n o:Int):mQ g (L++[(k,n,(i:Int),o)]) i True:=by
 refine⟨fun f aD=>?_,fun j a'=>?_,⟨fun _=>trivial,fun _=>⟨_,hT _ (.head _),rfl⟩⟩⟩
 ·rcases ko.1 aD with q|q
  ·exact h.lt f q
  ·simp at q;subst q;exact⟨by simp only;omega,by simp only;omega⟩
 ·rw[<-h.ev j a']
  constructor
  ·rintro⟨f,aD,e⟩
   rcases ko.1 aD with q|q
   ·exact⟨f,q,e⟩
   ·simp at q;subst q;simp only at e;omega
  ·rintro⟨f,aD,e⟩;exact⟨f,nX _ aD,e⟩
theorem mQ.next{g:bq}{L:List qY}{i:Nat}(h:mQ g L i (∃x∈eJ (i:Int) 0 g.ns,yS g i x)):mQ g L (i+1) False:=by
 refine⟨fun f aD=>⟨(h.lt f aD).1,by have:=(h.lt f aD).2;omega⟩,fun j a'=>?_,⟨fun⟨f,aD,e⟩=>?_,False.elim⟩⟩
 ·by_cases q:j<i
  ·exact h.ev j q
  ·obtain rfl:j=i:=by omega
   exact h.cur
 ·have:=(h.lt f aD).2;omega
theorem mQ.step{g:bq}{L:List qY}{i k:Nat}{B:Prop}{s:List Int}{x:Int}(h:mQ g L i B)(U:s[k]?=some x)(ap:B↔yS g i x\/∃y∈s.take k,yS g i y):mQ g L i (∃y∈s.take (k+1),yS g i y):=by
 refine h.iff (ap.trans ?_);rw[nY,U];constructor
 ·rintro(q|⟨y,ai,q⟩)
  ·exact⟨x,by simp,q⟩
  ·exact⟨y,nX _ ai,q⟩
 ·rintro⟨y,ai,q⟩
  rcases ko.1 ai with r|r
  ·exact .inr ⟨y,r,q⟩
  ·simp at r;subst r;exact .inl q
theorem Tt{g:bq}(dq:yy g){i:Nat}{y:Int×Int}(ai:g.is[i]?=some y):(∃x∈eJ (i:Int) 0 g.ns,yS g i x)↔¬wx g (gB g) y.1 (eJ (i:Int) 0 g.ns):=by
 have au:s9 g i=y.1:=by unfold s9;rw[ai]
 constructor
 ·rintro⟨x,U,q⟩ hs
  unfold yS at q;rw[au] at q;rcases q with⟨a,d,z,aa,ae,aF,bo⟩|q
  ·have bE:=dq.types z (cb ae) aF
   rw[bo,cx,ai] at bE;injection bE with bE
   have hm:=an6 (n:=0) ae ⟨aF,bo⟩;rw[lC] at hm;have aL:=hs x U;have bk:=hs _ hm;rw[cx] at bk;exact ap8 aa ae ⟨aF,by rw[bE]⟩ (aL.trans bk.symm)
  ·exact q (hs x U)
 ·intro h
  apply qW
  intro q;apply h
  intro x U;apply qW
  intro r;exact q ⟨x,U,.inr (by rw[au];exact r)⟩
theorem afu{g:bq}(dq:yy g){L:List qY}(h:mQ g L g.is.length False)(p:Int):(∃f∈L,s9 g f.2.2.1.toNat=p)↔¬yd g p:=by
 constructor
 ·rintro⟨f,aD,e⟩ au
  have cV:=h.lt f aD;obtain⟨j,a'⟩:∃j:Nat,f.2.2.1=(j:Int):=⟨f.2.2.1.toNat,by omega⟩;have oe:j<g.is.length:=by
   by_cases q:j=g.is.length
   ·subst q;exact absurd (h.cur.1 ⟨f,aD,a'⟩) id
   ·omega
  have ai:=dj oe;have:=(Tt dq ai).1 ((h.ev j oe).1 ⟨f,aD,a'⟩);rw[a',cx] at e;unfold s9 at e;rw[ai] at e;have e:(g.is[j]).1=p:=e;rw[e] at this;exact this (au j _ _ (tc oe) ai e)
 ·intro au
  apply qW
  intro q;apply au
  intro i s y aa ae aF;have ao:=(dY.1 ae).1;rw[tc ao] at aa;injection aa with aa;subst aa
  apply qW
  intro r;rw[<-aF] at r;obtain⟨f,aD,e⟩:=(h.ev i ao).2 ((Tt dq ae).2 r);exact q ⟨f,aD,by rw[e,cx];unfold s9;rw[ae];exact aF⟩
theorem hW.L0{J:aH}{a:Nat}{cells:List Value}(h:hW [] J a cells):∃e,J a=some (cells,e):=by
 cases h with
 |own h=>cases h
 |fw h=>exact⟨_,h⟩
 |opn h=>cases h
 |h6 h=>cases h
section
variable {Q:dD Tryz.prog}{g0:Nat}{J:aH}
theorem YU{b1 b2:Option Addr}{c1 c2:Nat}{cN dW:List (Int×Int)}(aa:fc J 145 2 uX (.slice b1 cN.length c1) cN)(ae:fc J 145 2 uX (.slice b2 dW.length c2) dW)(av:cN.length<=1000000):
 Fn (bd Q g0) 107 [.slice b1 cN.length c1,.slice b2 dW.length c2] [] J (fun u m' af=>u=.bool (decide (cN=dW))/\m'=[]/\J=af):=by
 obtain⟨_,Bo⟩:=aa.at;obtain⟨_,vJ⟩:=ae.at;refine Fn.cH (cM Tryz.func107) rfl rfl fun H=>?_;refine rg ?_;refine I V.az ?_;refine bi ?_;refine aM ?_;refine I V.aZ ?_;refine ns ?_;refine If (fun eF=>?_) fun eF=>?_
 ·refine rg ?_;refine I V.az ?_;refine ns ?_;refine ab.ret ?_;refine c5 ?_;refine⟨cD Value.bool ?_,rfl,rfl⟩;first
   |(have c:=bx;symm;rw[l6]
     apply lA
     intro j;by_cases q:j<i
     ·exact bx j q
     ·rw[fo (by omega),fo (by omega)])
   |(symm;rw[mz];intro q;rw[q] at eF;exact eF rfl)
 ·refine aj ?_;refine ab.skip ?_;refine rg ?_;refine I V.az ?_;refine ns ?_;refine ab.block ?_;refine' ab.c0 (l':=[(5,.int .i64 ((0):Int)),(0,_),(1,_)]) ⟨?p2,rfl,rfl,trivial⟩ (bu _) ?_;case p2=>exact bP
  refine aj ?_;refine' ab.rT (α:=(Nat)) (fun(i:Nat)=>[(5,.int .i64 (i:Int))]) (fun(i:Nat)=>i<=cN.length/\∀j,j<i->cN[j]?=dW[j]?) (fun(i:Nat)=>cN.length -i) (0) ?hs ?bA;case hs=>exact⟨cy _,fun j a'=>by omega⟩
  case bA=>
   rintro i hinv;try simp only at hinv
   obtain⟨ao,bx⟩:=hinv;refine rg ?_;refine aM ?_;refine I V.aZ ?_;refine ns ?_;refine If (fun lF=>?_) fun lF=>?_
   ·obtain⟨bm,uC,NC,aL,rfl,G9,pC⟩:=Bo (by omega);obtain⟨a2,wj,ND,bk,rfl,G',o1⟩:=vJ (by omega);obtain⟨x,cs,U,zi,_,rfl⟩:=pC i (by omega) (by omega);obtain⟨y,cs,ai,VY,_,rfl⟩:=o1 i (by omega) (by omega);rw[cx] at U ai;refine c7 ?_;refine aj ?_;refine ab.block ?_;refine aj ?_;refine ab.draw rfl (by kernel_rfl) (bc:=[.val 0,.val 1,.val 2,.val 3,.val 4,.val 5,.val 6,.val 7,.val 8]) (by kernel_rfl) ?_;refine cq ?_;refine al rfl V.aW ?_;refine al rfl V.c9 ?_;refine cq ?_;refine al rfl V.aW ?_;refine al rfl V.c9 ?_;refine' a8.val rfl rfl rfl rfl (Z8 rfl (.inr ⟨rfl,rfl⟩) rfl rfl (by kernel_rfl)) ?_;refine a8.nil ?_;refine aj ?_;refine If (fun oM=>?_) fun oM=>?_
    ·refine rg ?_;refine I V.az ?_;refine ns ?_;refine ab.ret ?_;refine c5 ?_;refine⟨cD Value.bool ?_,rfl,rfl⟩;first
       |(have c:=oM;symm;rw[mz];intro q;subst q;rw[U] at ai;injection ai with ai;subst ai;exact oM ⟨rfl,rfl⟩)
       |(have c:=bx;symm;rw[l6]
         apply lA
         intro j;by_cases q:j<i
         ·exact bx j q
         ·rw[fo (by omega),fo (by omega)])
       |(symm;rw[mz];intro q;rw[q] at eF;exact eF rfl)
    ·refine aj ?_;refine ab.skip ?_;refine rg ?_;refine I V.ag ?_;refine I V.bt ?_;refine I V.az ?_;refine a6 ?_;refine'⟨(i+1),_,?hinv,?ky,rfl,⟨?m5,rfl,rfl,trivial⟩,bu _,rfl⟩;case m5=>exact bP
     case ky=>exact cc
     case hinv=>refine⟨by omega,fun j a'=>?_⟩;by_cases q:j<i;(exact bx j q);(obtain rfl:j=i:=by omega);(rw[U,ai];have c:=gQ.1 oM;exact cD some (Prod.ext c.1 c.2))
   ·refine aj ?_;refine ab.exit ?_;refine rg ?_;refine I V.az ?_;refine ns ?_;refine ab.ret ?_;refine c5 ?_;refine⟨cD Value.bool ?_,rfl,rfl⟩;first
     |(have c:=bx;symm;rw[l6]
       apply lA
       intro j;by_cases q:j<i
       ·exact bx j q
       ·rw[fo (by omega),fo (by omega)])
     |(symm;rw[mz];intro q;rw[q] at eF;exact eF rfl)
theorem afv{g:bq}{aT aK:Option Addr}{aQ ci:Nat}(aq:fH J g aT aQ aK ci)(dq:yy g):
 Fn (bd Q g0) 93 [hb g aT aQ aK ci] [] J (fun u m' af=>∃b c L,u=.slice b L.length c/\m'=[]/\J.le af/\fc af 150 4 Ss (.slice b L.length c) L/\mQ g L g.is.length False/\L.length<=1000000):=by
 have fX:addrEq aK aK=true:=aq.i.addr;have gq:addrEq aT aT=true:=aq.n.addr;have aB:=IU dq;have dE:=aB.len;have de:=dq.de;have i2:=dq.i2;have ec:∀c:Nat,c<g.ns.length->∃a,(gB g)[c]?=some a/\-1<=a/\a<g.ns.length:=fun c aC=>by
  by_cases q:c=0
  ·subst q;exact⟨-1,aB.root,by omega,by omega⟩
  ·obtain⟨a,aa,ae,_⟩:=aB.up c (by omega) aC
   exact⟨a,aa,by omega,by omega⟩
 refine Fn.cH (cM Tryz.func93) rfl rfl fun H=>?_;refine rg ?_;refine dK fun bm=>?_;refine I V.az ?_;refine bi ?_;refine I V.az ?_;refine bi ?_;refine I V.c9 ?_;refine cl (G:=Zb aq dq) (h:=?_);rintro v m' dO ch ⟨ct,cE,rfl,rfl,_,dt⟩;refine I V.az ?_;refine a6 ?_;obtain⟨dc,op,NG,rfl,BG,Pl⟩:=dt.iH [] (by have:=dq.bX;omega);have Ld:∀(c:Nat) (at_:Int),c<g.ns.length->(gB g)[c]?=some at_->nth NG (op+c*1)=some (.int .i64 at_):=fun c at_ aC h=>by
  obtain⟨x,aa,ae⟩:=Pl c (by omega) (by omega);rw[cx] at aa ae;rw[aa] at h;injection h with h;subst h;exact ae
 refine rg ?_;refine I V.c9 ?_;refine cl (G:=Rz (aq.mono ch) de i2 dq.nodes) (h:=?_);rintro v m' e2 cF ⟨bs,cs,rfl,rfl,_,kw⟩;refine I V.az ?_;refine a6 ?_;obtain⟨_,lM⟩:=kw.at;have lj:(gC g).length=g.is.length:=uI;have By:=ch.trans cF;refine rg ?_;obtain⟨asn,DZ⟩:=BG.L0;have DZ:=cF _ _ DZ;refine I V.az ?_;refine ns ?_;refine ab.block ?_;refine' ab.c0 (l':=[(3,(.slice none 0 0)),(6,.int .i64 ((0):Int)),(1,_),(4,_),(5,_)]) ⟨?jf,?nv,rfl,rfl,rfl,trivial⟩ (bu _) ?_;case jf=>exact bP
 case nv=>exact bP
 refine aj ?_;refine' ab.dF (fun(bC:Nat×(List qY)×Value×aN×aH)=>match bC with|(i,L,v,aY,dX)=>⟨[(3,v),(6,.int .i64 (i:Int))],aY++[(bm,.row (iw g aT aQ aK ci) 27)],dX,i<=g.is.length/\mQ g L i False/\L.length<=4000*i/\Acc 150 4 v L.length (xm L) aY/\e2.le dX,g.is.length -i⟩) ⟨0,[],.slice none 0 0,[],e2⟩ ?hs ?bA
 case hs=>exact⟨cy _,mQ.nil,cW _,.nil,aH.le.refl _⟩
 case bA=>
  rintro⟨i,L,v,aY,dX⟩ hinv;try simp only at hinv
  obtain⟨ao,vO,D2,cw,dp⟩:=hinv;refine rg ?_;refine aM ?_;refine I V.aZ ?_;refine ns ?_;refine If (fun tx=>?_) fun tx=>?_
  ·have nN:=aq.mono (By.trans dp);obtain⟨_,kx⟩:=nN.i.at;obtain⟨FY,IH,Gt,GH,rfl,l9,uf⟩:=lM (by omega);obtain⟨s,vn,hs,vL,mg,abZ,jo,rfl,Eu⟩:=uf i (by omega) (by omega);have sP:=mg 0 _ (by decide) rfl;obtain⟨g',jx,vl,vu,rfl,mD,me⟩:=kx (by omega);obtain⟨y,xa,ai,ub,mf,rfl⟩:=me i (by omega) (by omega);have KY:=mf 0 _ (by decide) rfl;rw[cx] at hs ai;have lR:s=eJ (i:Int) 0 g.ns:=by rw[tc (by omega)] at hs;injection hs with hs;exact hs.symm
   have kR:s≠[]:=dq.Ry s (cb hs);have Qa:0<s.length:=FK.2 kR;have WI:s.length<=2000:=by have:=Mf (j:=(i:Int)) (l:=g.ns) (n:=0);rw[lR];omega
   have lN:∀x∈s,∃c:Nat,x=(c:Int)/\c<g.ns.length:=fun x U=>by
    rw[lR] at U;obtain⟨c,aa,z,ae,_⟩:=Rx U;exact⟨c,aa,(dY.1 ae).1⟩
   have HK:s9 g i=y.1:=by unfold s9;rw[ai]
   have l9:=dp _ _ l9;have kf:=Eu.iH [];obtain⟨Tm,LM,Ul,rfl,zr,Bx⟩:=kf Qa;obtain⟨es,ob⟩:=zr.L0;have ob:=dp _ _ ob;have DZ:=dp _ _ DZ;obtain⟨kI,kA,HG⟩:=Bx 0 (by omega) (by omega);have zw:s[0]?=some kI:=kA;have vP:=Ea zw;obtain⟨dS,ib,D8⟩:=lN kI (cb zw);subst ib;refine c7 ?_;refine aj ?_;refine ab.block ?_;refine rg ?_;refine I V.ba ?_;refine I V.aG ?_;refine I V.ag ?_;refine I V.aW ?_;refine I V.ba ?_;refine I V.aG ?_;refine I V.az ?_;refine bi ?_;refine I V.az ?_;refine ns ?_;refine ab.block ?_;refine' ab.c0 (l':=[(3,(v)),(8,.int .i64 ((0):Int)),(1,_),(4,_),(5,_),(6,_),(7,_)]) ⟨?jf,?jC,rfl,rfl,rfl,rfl,rfl,trivial⟩ (bu _) ?_;case jf=>exact bP
   case jC=>exact bP
   refine aj ?_;refine' ab.dF (fun(bC:Nat×(List qY)×Value×aN×aH)=>match bC with|(k,eN,v1,ml,pj)=>⟨[(3,v1),(8,.int .i64 (k:Int))],ml++[(bm,.row (iw g aT aQ (some ⟨g',jx,none⟩) ci) 27)],pj,k<=s.length/\mQ g eN i (∃z∈s.take k,yS g i z)/\eN.length<=4000*i+2*k/\Acc 150 4 v1 eN.length (xm eN) ml/\dX.le pj,s.length -k⟩) ⟨0,L,v,aY,dX⟩ ?hs ?bA
   case hs=>exact⟨cy _,vO.iff ⟨False.elim,fun⟨z,bE,_⟩=>by simp at bE⟩,by omega,cw,aH.le.refl _⟩
   case bA=>
    rintro⟨k,eN,v1,ml,pj⟩ hinv;try simp only at hinv
    obtain⟨aO,Ec,asM,Bh,jZ⟩:=hinv;have l9:=jZ _ _ l9;have mD:=jZ _ _ mD;have ob:=jZ _ _ ob;have DZ:=jZ _ _ DZ;refine rg ?_;refine aM ?_;refine I V.aW ?_;refine I V.aG ?_;refine I V.bL ?_;refine I V.aZ ?_;refine ns ?_;refine If (fun ps=>?_) fun ps=>?_
    ·obtain⟨x,U,e4⟩:=Bx k (by omega) (by omega);rw[cx] at U;obtain⟨ha,zi,xC⟩:=lN x (cb U);subst zi;have ue:=aq.mono (By.trans (dp.trans jZ));obtain⟨_,fE⟩:=ue.n.at;obtain⟨Tn,VR,asV,asW⟩:=ec ha xC;have aiV:=Ld ha _ xC VR;refine c7 ?_;refine aj ?_;refine ab.block ?_;refine rg ?_;refine aM ?_;refine I V.aW ?_;refine I V.aG ?_;refine I V.ag ?_;refine I V.aW ?_;refine I V.aG ?_;refine I V.az ?_;refine bi ?_;refine aM ?_;refine I V.aW ?_;refine I V.aG ?_;refine I V.az ?_;refine ns ?_;refine ab.block ?_;refine' ab.c0 (l':=[(10,.int .i64 (Tn)),(1,_),(3,_),(4,_),(5,_),(6,_),(7,_),(8,_),(9,_)]) ⟨?p1,rfl,rfl,rfl,rfl,rfl,rfl,rfl,rfl,trivial⟩ (bu _) ?_;case p1=>exact bP
     refine aj ?_;refine' ab.dF (fun(bC:Nat×Int)=>match bC with|(c,at_)=>⟨[(10,.int .i64 at_)],ml++[(bm,.row (iw g aT aQ (some ⟨g',jx,none⟩) ci) 27)],pj,c<g.ns.length/\(gB g)[c]?=some at_/\(wF g (gB g) i ha↔wF g (gB g) i c),c⟩) ⟨ha,Tn⟩ ?hs ?bA
     case hs=>exact⟨xC,VR,Iff.rfl⟩
     case bA=>
      rintro⟨c,at_⟩ hinv;try simp only at hinv
      obtain⟨aC,fK,OT⟩:=hinv;refine rg ?_;refine I V.ag ?_;refine I V.aZ ?_;refine ns ?_;refine If (fun Nr=>?_) fun Nr=>?_
      ·
        obtain⟨a,lL,gK,z,bE,oh⟩:=aB.up c (by by_cases q:c=0;(subst q;rw[aB.root] at fK;injection fK with fK;omega);omega) aC;rw[fK] at lL;injection lL with lL;subst lL
        obtain⟨bO,off,cells,bz,rfl,mC,j0⟩:=fE (by omega);obtain⟨hS,arW,Ez,gU,iz,ei⟩:=j0 a (by omega) (by omega);obtain⟨b1,c1,b2,c2,b3,c3,rfl,eG,gM,gA⟩:=ei;rw[cx,bE] at Ez;injection Ez with Ez;subst Ez
        obtain⟨abJ,vJ,asX,asY⟩:=ec a (by omega);have atx:=Ld a _ (by omega) vJ;have Hy:=iz 0 _ (by decide) rfl;have qo:=iz 2 _ (by decide) rfl;refine c7 ?_;refine aj ?_;refine ab.block ?_;refine fR [1,3,4,5,6,7,8,9,10] ?_;refine aj ?_;refine' ab.hl 0 [(69,.bool (decide ((z.k=2/\z.i=(i:Int)))))] ?adq ?aec;case adq=>
         refine ab.region ?_;refine I V.ba ?_;refine I V.aG ?_;refine I V.ag ?_;refine I V.aW ?_;refine I V.ba ?_;refine I V.aG ?_;refine I V.aZ ?_;refine I V.ag ?_;refine dr 60 (fun agj=>?_) fun agj=>?_
         ·refine aX V.ba ?_;refine aX V.aG ?_;refine aX V.ag ?_;refine aX V.aW ?_;refine aX V.ba ?_;refine aX V.aG ?_;refine aX V.ag ?_;refine aX V.aZ ?_;refine I V.aU ?_;refine a6 ?_;exact ce
         ·refine ah ?_;refine ah ?_;refine ah ?_;refine ah ?_;refine ah ?_;refine ah ?_;refine ah ?_;refine ah ?_;refine I V.aU ?_;refine a6 ?_;exact ce
        case aec=>
         refine aj ?_;refine If (fun tz=>?_) fun tz=>?_
         ·have zx:wF g (gB g) i ha:=OT.2 ((S7 fK gK bE).2 (.inl tz));refine rg ?_;refine aM ?_;refine jK (E7 Q g0) fun a75=>?_;refine' W.step rfl (.of (kk rfl rfl rfl rfl rfl rfl (E7 Q g0) (RT Q g0) (fun i q=>by cases q) ?cw ?hm ?U ?cr ?ca ?av fun ap3 Iw ahy=>?_));case cw=>assumption
          case hm=>exact s'
          case U=>exact hR
          case cr=>first|rfl|(simp;done)|(simp;omega)
          case ca=>first|rfl|exact hf _
          case av=>exact cc
          refine I V.az ?_;refine ns ?_;refine ab.exit ?_;refine aj ?_;refine ab.Ux rfl (by kernel_rfl) (bc:=[.val 0,.val 1,.val 2,.val 4,.val 5,.val 6,.val 7,.val 8,.val 9,.val 10,.val 11,.bR 3,.cA [11,10,9,8,7,6,5,4],.bR 12,.bR 13,.val 14]) (by kernel_rfl) ?_;refine gy.val rfl rfl rfl rfl V.c9 ?_;refine gy.val rfl rfl rfl rfl V.ag ?_;refine gy.val rfl rfl rfl rfl V.ag ?_;refine gy.val rfl rfl rfl rfl V.c9 ?_;refine gy.val rfl rfl rfl rfl V.ag ?_;refine gy.val rfl rfl rfl rfl V.ag ?_;refine gy.val rfl rfl rfl rfl V.aW ?_;refine gy.val rfl rfl rfl rfl V.aG ?_;refine gy.val rfl rfl rfl rfl V.aW ?_;refine gy.val rfl rfl rfl rfl V.aG ?_;refine gy.val rfl rfl rfl rfl V.ag ?_;refine' gy.call rfl rfl rfl rfl rfl rfl rfl rfl rfl (I2 ue dq xC) ((fun v m' af ⟨b,c,a3,_,h,_⟩=>⟨a3,_,by rw[h];exact .head _⟩)) ?_;rintro v m' jV dU ⟨yV,y3,F3,rfl,rfl,_,nP⟩;have l9:=dU _ _ l9;have ob:=dU _ _ ob;refine gy.cA eX ?_;refine' gy.call rfl rfl rfl rfl rfl rfl rfl rfl rfl (I2 (ue.mono dU) dq D8) ((fun v m' af ⟨b,c,a3,_,h,_⟩=>⟨a3,_,by rw[h];exact .head _⟩)) ?_;rintro v m' q1 ie ⟨vg,vo,F4,rfl,rfl,_,Ew⟩;refine' gy.T6 rfl rfl rfl rfl rfl rfl rfl rfl rfl (YU (nP.mono ie fun _ _ q=>q) Ew (by have:=zG (g:=g) (P:=gB g) (p:=y.1) ha ha (cW _);unfold gE j5;rw[uY,lB];omega)) ?_;rintro v m' wJ ke ⟨rfl,rfl,rfl⟩;refine u7.val rfl rfl rfl rfl V.ou ?_;refine u7.nil ?_;refine aj ?_;refine If (fun Gn=>?_) fun Gn=>?_
          ·have l9:=ie _ _ l9;have ob:=ie _ _ ob;first
             |refine ab.gN (m':=(F4,_)::(F3,_)::(Iw++_)) (.refl _) ?_
             |refine ab.gN (m':=(F4,_)::(F3,_)::(ml++_)) (.refl _) ?_
           refine rg ?_;refine aM ?_;refine I V.aW ?_;refine I V.aG ?_;refine I V.aW ?_;refine I V.aG ?_;refine I V.jl ?_;refine jK (E7 Q g0) fun abf=>?_;refine' W.step rfl (.of (kk rfl rfl rfl rfl rfl rfl (E7 Q g0) (RT Q g0) (fun i q=>by cases q) ?cw ?hm ?U ?cr ?ca ?av fun RY QI OR=>?_));case cw=>assumption
           case hm=>exact s'
           case U=>exact hR
           case cr=>first|rfl|(simp;done)|(simp;omega)
           case ca=>first|rfl|exact hf _
           case av=>exact cc
           refine I V.az ?_;refine bi ?_;refine I V.ag ?_;refine I V.bt ?_;refine I V.az ?_;refine a6 ?_;refine cB ⟨k+1,(eN++[(1,(ha:Int),(i:Int),(a:Int))])++[(2,(ha:Int),(i:Int),(dS:Int))],RY,QI,q1⟩ ?_ (hm:=q3 (.refl _) (.cons _ (.cons _ (.cons _ (.cons _ (.refl _))))));exact⟨by omega,((Ec.add 1 ha a).add 2 ha dS).step U ⟨fun _=>.inl (.inl zx),fun _=>trivial⟩,by simp;omega,OR.uL (by simp) (by rw[Kx,Kx];rfl),jZ.trans (dU.trans ie)⟩
          ·refine aj ?_;refine ab.skip ?_;refine rg ?_;refine I V.ag ?_;refine I V.bt ?_;refine I V.az ?_;refine a6 ?_;refine cB ⟨k+1,eN++[(1,(ha:Int),(i:Int),(a:Int))],ap3,Iw,q1⟩ ?_ (hm:=.cons _ (.cons _ (q3 (l₁:=Iw) (l₂:=Iw) (.refl _) (.cons _ (.refl _)))));exact⟨by omega,(Ec.add 1 ha a).step U ⟨fun _=>.inl (.inl zx),fun _=>trivial⟩,by simp;omega,ahy.uL (by simp) (by rw[Kx];rfl),jZ.trans (dU.trans ie)⟩
         ·refine aj ?_;refine ab.skip ?_;refine rg ?_;refine aM ?_;refine I V.aW ?_;refine I V.aG ?_;refine I V.az ?_;refine a6 ?_;refine cB ⟨a,abJ⟩ ?_;exact⟨by omega,vJ,OT.trans ((S7 fK gK bE).trans ⟨fun q=>q.resolve_left tz,.inr⟩)⟩
      ·
        have fB:¬wF g (gB g) i ha:=fun q=>abp fK (by omega) (OT.1 q);refine aj ?_;refine ab.exit ?_;refine aj ?_;refine ab.Ux rfl (by kernel_rfl) (bc:=[.val 0,.val 1,.val 2,.val 4,.val 5,.val 6,.val 7,.val 8,.val 9,.val 10,.val 11,.bR 3,.cA [11,10,9,8,7,6,5,4],.bR 12,.bR 13,.val 14]) (by kernel_rfl) ?_;refine gy.val rfl rfl rfl rfl V.c9 ?_;refine gy.val rfl rfl rfl rfl V.ag ?_;refine gy.val rfl rfl rfl rfl V.ag ?_;refine gy.val rfl rfl rfl rfl V.c9 ?_;refine gy.val rfl rfl rfl rfl V.ag ?_;refine gy.val rfl rfl rfl rfl V.ag ?_;refine gy.val rfl rfl rfl rfl V.aW ?_;refine gy.val rfl rfl rfl rfl V.aG ?_;refine gy.val rfl rfl rfl rfl V.aW ?_;refine gy.val rfl rfl rfl rfl V.aG ?_;refine gy.val rfl rfl rfl rfl V.ag ?_;refine' gy.call rfl rfl rfl rfl rfl rfl rfl rfl rfl (I2 ue dq xC) ((fun v m' af ⟨b,c,a3,_,h,_⟩=>⟨a3,_,by rw[h];exact .head _⟩)) ?_;rintro v m' jV dU ⟨yV,y3,F3,rfl,rfl,_,nP⟩;have l9:=dU _ _ l9;have ob:=dU _ _ ob;refine gy.cA eX ?_;refine' gy.call rfl rfl rfl rfl rfl rfl rfl rfl rfl (I2 (ue.mono dU) dq D8) ((fun v m' af ⟨b,c,a3,_,h,_⟩=>⟨a3,_,by rw[h];exact .head _⟩)) ?_;rintro v m' q1 ie ⟨vg,vo,F4,rfl,rfl,_,Ew⟩;refine' gy.T6 rfl rfl rfl rfl rfl rfl rfl rfl rfl (YU (nP.mono ie fun _ _ q=>q) Ew (by have:=zG (g:=g) (P:=gB g) (p:=y.1) ha ha (cW _);unfold gE j5;rw[uY,lB];omega)) ?_;rintro v m' wJ ke ⟨rfl,rfl,rfl⟩;refine u7.val rfl rfl rfl rfl V.ou ?_;refine u7.nil ?_;refine aj ?_;refine If (fun Gn=>?_) fun Gn=>?_
        ·have l9:=ie _ _ l9;have ob:=ie _ _ ob;first
          |refine ab.gN (m':=(F4,_)::(F3,_)::(Iw++_)) (.refl _) ?_
          |refine ab.gN (m':=(F4,_)::(F3,_)::(ml++_)) (.refl _) ?_
         refine rg ?_;refine aM ?_;refine I V.aW ?_;refine I V.aG ?_;refine I V.aW ?_;refine I V.aG ?_;refine I V.jl ?_;refine jK (E7 Q g0) fun abf=>?_;refine' W.step rfl (.of (kk rfl rfl rfl rfl rfl rfl (E7 Q g0) (RT Q g0) (fun i q=>by cases q) ?cw ?hm ?U ?cr ?ca ?av fun RY QI OR=>?_));case cw=>assumption
         case hm=>exact s'
         case U=>exact hR
         case cr=>first|rfl|(simp;done)|(simp;omega)
         case ca=>first|rfl|exact hf _
         case av=>exact cc
         refine I V.az ?_;refine bi ?_;refine I V.ag ?_;refine I V.bt ?_;refine I V.az ?_;refine a6 ?_;refine cB ⟨k+1,eN++[(2,(ha:Int),(i:Int),(dS:Int))],RY,QI,q1⟩ ?_ (hm:=q3 (.refl _) (.cons _ (.cons _ (.cons _ (.refl _)))));exact⟨by omega,(Ec.add 2 ha dS).step U ⟨fun _=>.inl (.inr (by rw[HK,<-lR,vP];exact Gn)),fun _=>trivial⟩,by simp;omega,OR.uL (by simp) (by rw[Kx];rfl),jZ.trans (dU.trans ie)⟩
        ·refine aj ?_;refine ab.skip ?_;refine rg ?_;refine I V.ag ?_;refine I V.bt ?_;refine I V.az ?_;refine a6 ?_;refine cB ⟨k+1,eN,v1,ml,q1⟩ ?_ (hm:=.cons _ (.cons _ (.refl _)));exact⟨by omega,Ec.step U ⟨fun q=>.inr q,fun q=>q.resolve_left (fun q=>q.elim fB (fun q=>q (by rw[HK,<-lR,vP];exact gQ.1 Gn)))⟩,by omega,Bh,jZ.trans (dU.trans ie)⟩
    ·refine aj ?_;refine ab.exit ?_;refine rg ?_;refine I V.ag ?_;refine I V.bt ?_;refine I V.az ?_;refine a6 ?_;refine cB ⟨i+1,eN,v1,ml,pj⟩ ?_;exact⟨by omega,(by rw[eo (by omega),lR] at Ec;exact Ec.next),by omega,Bh,dp.trans jZ⟩
  ·refine aj ?_;refine ab.exit ?_;obtain⟨bv,gJ,rfl⟩:=cw.form;refine cw.hQ (.refl _) fun jV dU HT=>?_;refine rg ?_;refine aM ?_;refine ns ?_;refine ab.ret ?_;refine c5 ?_;exact⟨_,_,L,rfl,rfl,By.trans (dp.trans dU),aex HT,by rw[show i=g.is.length by omega] at vO;exact vO,by omega⟩
end
section
variable {Q:dD Tryz.prog}{g0:Nat}{J:aH}
theorem ams{g:bq}{aT aK:Option Addr}{aQ ci:Nat}{p:Int}(aq:fH J g aT aQ aK ci)(dq:yy g):
 Fn (bd Q g0) 76 [hb g aT aQ aK ci,.int .i64 p] [] J (fun u m' af=>(∃b,u=.bool b/\(b=true↔yd g p))/\m'=[]/\J.le af):=by
 have fX:addrEq aK aK=true:=aq.i.addr;have gq:addrEq aT aT=true:=aq.n.addr;refine Fn.cH (cM Tryz.func76) rfl rfl fun H=>?_;refine rg ?_;refine dK fun a2=>?_;refine I V.az ?_;refine bi ?_;refine I V.c9 ?_;refine cl (G:=afv aq dq) (h:=?_);rintro v m' dO ch ⟨b,c,L,rfl,rfl,_,kw,vO,D2⟩;refine I V.az ?_;refine a6 ?_;have au:=afu dq vO p;obtain⟨_,qn⟩:=kw.at;have nN:=aq.mono ch;obtain⟨_,kx⟩:=nN.i.at;refine rg ?_;refine I V.az ?_;refine ns ?_;refine ab.block ?_;refine' ab.c0 (l':=[(6,.int .i64 ((0):Int)),(1,_),(2,_),(5,_)]) ⟨?nv,rfl,rfl,rfl,trivial⟩ (bu _) ?_;case nv=>exact bP
 refine aj ?_;refine' ab.dF (fun(i:Nat)=>⟨[(6,.int .i64 (i:Int))],[(a2,.row (iw g aT aQ aK ci) 27)],dO,i<=L.length/\∀f∈L.take i,s9 g f.2.2.1.toNat≠p,L.length -i⟩) (0) ?hs ?bA;case hs=>exact⟨cy _,fun x U=>by cases U⟩
 case bA=>
  rintro i hinv;try simp only at hinv
  obtain⟨ao,bx⟩:=hinv;refine rg ?_;refine aM ?_;refine I V.aZ ?_;refine ns ?_;refine If (fun Gk=>?_) fun Gk=>?_
  ·obtain⟨cj,ol,Uk,el,rfl,ag7,Pk⟩:=qn (by omega);obtain⟨f,arS,aD,as4,aiA,rfl⟩:=Pk i (by omega) (by omega);rw[cx] at aD;have ate:=aiA 2 _ (by decide) rfl;have O':=vO.lt f (cb aD);have as':f.2.2.1≠g.is.length:=fun q=>absurd (vO.cur.1 ⟨f,cb aD,q⟩) id;obtain⟨g',jx,vl,vu,rfl,mD,me⟩:=kx (by omega);obtain⟨y,xa,ai,ub,mf,rfl⟩:=me f.2.2.1 (by omega) (by omega);have KY:=mf 0 _ (by decide) rfl;have HK:s9 g f.2.2.1.toNat=y.1:=by unfold s9;rw[ai]
   refine c7 ?_;refine aj ?_;refine ab.block ?_;refine aj ?_;refine ab.draw rfl (by kernel_rfl) (bc:=[.val 0,.val 1,.val 2,.val 3,.val 4,.val 5,.val 6,.val 7,.val 8,.val 9,.val 10,.val 11]) (by kernel_rfl) ?_;refine al rfl V.ba ?_;refine al rfl V.aG ?_;refine cq ?_;refine al rfl V.aW ?_;refine al rfl V.ba ?_;refine al rfl V.aG ?_;refine al rfl V.aW ?_;refine al rfl V.ba ?_;refine al rfl V.aG ?_;refine al rfl V.ag ?_;refine al rfl V.aZ ?_;refine a8.nil ?_;refine aj ?_;refine If (fun nG=>?_) fun nG=>?_
   ·refine rg ?_;refine I V.az ?_;refine ns ?_;refine ab.ret ?_;refine c5 ?_;first
      |(have c:=nG
        exact⟨⟨false,rfl,by simp;exact au.1 ⟨f,cb aD,by rw[HK];exact nG⟩⟩,rfl,ch⟩)
      |(refine⟨⟨true,rfl,by
           simp
           apply qW
           intro q;obtain⟨f,aD,e⟩:=au.2 q;rw[eo (by omega)] at bx;exact bx f aD e⟩,rfl,ch⟩)
   ·refine aj ?_;refine ab.skip ?_;refine rg ?_;refine I V.ag ?_;refine I V.bt ?_;refine I V.az ?_;refine a6 ?_;refine cB (i+1) ?_;exact⟨by omega,te bx aD (by rw[HK];exact nG)⟩
  ·refine aj ?_;refine ab.exit ?_;refine rg ?_;refine I V.az ?_;refine ns ?_;refine ab.ret ?_;refine c5 ?_;first
    |(refine⟨⟨true,rfl,by
          simp
          apply qW
          intro q;obtain⟨f,aD,e⟩:=au.2 q;rw[eo (by omega)] at bx;exact bx f aD e⟩,rfl,ch⟩)
theorem anS{g:bq}{aT aK:Option Addr}{aQ ci:Nat}(aq:fH J g aT aQ aK ci)(aD:h8 g=0):
 Fn (bd Q g0) 54 [hb g aT aQ aK ci] [] J (fun u m' af=>∃w,u=.tuple #[w,.int .i64 (kj g)]/\m'=[]/\J.le af):=by
 have fX:addrEq aK aK=true:=aq.i.addr;have gq:addrEq aT aT=true:=aq.n.addr;have dq:=GX aD;have de:=dq.de;have i2:=dq.i2;have ki:=dq.ki;refine Fn.cH (cM Tryz.func54) rfl rfl fun H=>?_;refine rg ?_;refine dK fun bm=>?_;refine aM ?_;refine bi ?_;refine I V.az ?_;refine ns ?_;refine ab.block ?_;refine' ab.c0 (l':=[(4,.int .i64 ((0):Int)),(1,_)]) ⟨?j4,rfl,trivial⟩ (bu _) ?_;case j4=>exact bP
 refine aj ?_;refine' ab.dF (fun(bC:Nat×aH)=>match bC with|(i,dX)=>⟨[(4,.int .i64 (i:Int))],[(bm,.row (iw g aT aQ aK ci) 27)],dX,(i:Int)<=g.pl/\(∀p:Int,0<=p->p<i->yd g p)/\J.le dX,(g.pl -i).toNat⟩) ⟨0,J⟩ ?hs ?bA
 case hs=>exact⟨by have:=dq.dH;omega,fun p aa ae=>by omega,aH.le.refl _⟩
 case bA=>
  rintro⟨i,dX⟩ hinv;try simp only at hinv
  obtain⟨ao,bx,dp⟩:=hinv;refine rg ?_;refine aM ?_;refine I V.aG ?_;refine I V.aZ ?_;refine ns ?_;refine If (fun p9=>?_) fun p9=>?_
  ·refine aj ?_;refine ab.skip ?_;refine aj ?_;refine ab.block ?_;refine rg ?_;refine I V.c9 ?_;refine I V.ag ?_;refine cl (G:=ams (p:=i) (aq.mono dp) dq) (h:=?_);rintro v m' e2 cF ⟨⟨b,rfl,ap⟩,rfl,_⟩;refine I V.ou ?_;refine ns ?_;refine If (fun hA=>?_) fun hA=>?_
   ·have ahA:kj g=13:=by
      unfold kj;rw[an (by omega),aE ⟨(i:Int),by omega,by omega,fun q=>by rw[ap.2 q] at hA;simp at hA⟩]
    refine rg ?_;refine aM ?_;refine ns ?_;refine ab.ret ?_;refine c5 ?_;first
      |(have c:=hA
        rw[<-ahA];exact⟨_,rfl,rfl,dp.trans cF⟩)
      |(rw[<-rD]
        exact⟨_,rfl,rfl,By.trans jZ⟩)
   ·refine aj ?_;refine ab.skip ?_;refine rg ?_;refine I V.ag ?_;refine I V.bt ?_;refine I V.az ?_;refine a6 ?_;refine cB ⟨i+1,_⟩ ?_;refine⟨by omega,fun p aa ae=>?_,dp.trans cF⟩;by_cases q:p<i;(exact bx p aa q);(obtain rfl:p=i:=by omega);(exact ap.1 (by simpa using hA))
  ·have rD:kj g=0:=by
    unfold kj;rw[an (by omega),an (fun⟨p,aa,ae,aF⟩=>aF (bx p aa (by omega)))]
   refine aj ?_;refine ab.exit ?_;refine rg ?_;refine I V.c9 ?_;refine cl (G:=Rz (aq.mono dp) de i2 dq.nodes) (h:=?_);rintro v m' e2 cF ⟨bs,cs,rfl,rfl,_,kw⟩;refine I V.az ?_;refine a6 ?_;obtain⟨_,lM⟩:=kw.at;have lj:(gC g).length=g.is.length:=uI;have By:=dp.trans cF;refine rg ?_;refine I V.az ?_;refine bi ?_;refine I V.az ?_;refine ns ?_;refine ab.block ?_;refine' ab.c0 (l':=[(6,(.slice none 0 0)),(7,.int .i64 ((0):Int)),(1,_),(5,_)]) ⟨?nv,?yq,rfl,rfl,trivial⟩ (bu _) ?_;case nv=>exact bP
   case yq=>exact bP
   refine aj ?_;refine' ab.dF (fun(bC:Nat×(List (Int×Int))×Value×aN×aH)=>match bC with|(k,s,v,aY,pj)=>⟨[(6,v),(7,.int .i64 (k:Int))],aY++[(bm,.row (iw g aT aQ aK ci) 27)],pj,k<=g.is.length/\s.length=k/\Acc 144 2 v s.length (ik s) aY/\e2.le pj,g.is.length -k⟩) ⟨0,[],.slice none 0 0,[],e2⟩ ?hs ?bA
   case hs=>exact⟨cy _,rfl,.nil,aH.le.refl _⟩
   case bA=>
    rintro⟨k,s,v,aY,pj⟩ hinv;try simp only at hinv
    obtain⟨aO,atI,cw,jZ⟩:=hinv;refine rg ?_;refine aM ?_;refine I V.aG ?_;refine I V.bL ?_;refine I V.aZ ?_;refine ns ?_;refine If (fun nG=>?_) fun nG=>?_
    ·have nN:=aq.mono (By.trans jZ);obtain⟨_,kx⟩:=nN.i.at;obtain⟨FY,IH,Gt,GH,rfl,l9,uf⟩:=lM (by omega);obtain⟨z,vn,hs,vL,mg,abZ,jo,rfl,Eu⟩:=uf k (by omega) (by omega);have sP:=mg 0 _ (by decide) rfl;obtain⟨g',jx,vl,vu,rfl,mD,me⟩:=kx (by omega);obtain⟨y,xa,ai,ub,mf,rfl⟩:=me k (by omega) (by omega);have KY:=mf 0 _ (by decide) rfl;rw[cx] at hs ai;have lR:z=eJ (k:Int) 0 g.ns:=by rw[tc (by omega)] at hs;injection hs with hs;exact hs.symm
     have kR:z≠[]:=dq.Ry z (cb hs);have Qa:0<z.length:=FK.2 kR;have lN:∀x∈z,∃c:Nat,x=(c:Int)/\c<g.ns.length:=fun x U=>by
        rw[lR] at U;obtain⟨c,aa,z,ae,_⟩:=Rx U;exact⟨c,aa,(dY.1 ae).1⟩
     have l9:=jZ _ _ l9;have kf:=Eu.iH [];obtain⟨Tm,LM,Ul,rfl,zr,Bx⟩:=kf Qa;obtain⟨kI,kA,HG⟩:=Bx 0 (by omega) (by omega);obtain⟨es,ob⟩:=zr.L0;have ob:=jZ _ _ ob;obtain⟨dS,ib,D8⟩:=lN kI (cb kA);subst ib;refine c7 ?_;refine aj ?_;refine ab.block ?_;refine aj ?_;refine ab.draw rfl (by kernel_rfl) (bc:=[.val 0,.val 1,.val 2,.val 3,.val 4,.val 5,.val 6,.val 7,.val 8,.val 9,.val 10,.val 11,.val 12,.bR 13,.val 14]) (by kernel_rfl) ?_;refine al rfl V.c9 ?_;refine cq ?_;refine al rfl V.aW ?_;refine al rfl V.aG ?_;refine al rfl V.aW ?_;refine al rfl V.aG ?_;refine al rfl V.ba ?_;refine al rfl V.aG ?_;refine al rfl V.ag ?_;refine al rfl V.aW ?_;refine al rfl V.ba ?_;refine al rfl V.aG ?_;refine dl rfl (G:=I2 nN dq D8) (h:=?_);rintro v m' jV dU ⟨sr,sx,db,rfl,rfl,_,hw⟩;refine al rfl V.az ?_;refine a8.nil ?_;obtain⟨_,air⟩:=hw.at;have atN:(gE g (gB g) y.1 dS).length<=2000:=by have:=zG (g:=g) (P:=gB g) (p:=y.1) dS dS (cW _);unfold gE j5;rw[uY,lB];omega
     refine ab.gN (m':=(db,_)::(aY++_)) (.refl _) ?_;refine rg ?_;refine I V.jl ?_;refine' W.step rfl (.of (eT rfl rfl rfl (aqw Q g0) rfl rfl rfl fun a9=>?_));refine dC ?_;refine bi ?_;refine aM ?_;refine I V.aZ ?_;refine ns ?_;refine If (fun ty=>?_) fun ty=>?_
     ·obtain⟨mw,i',oP,ex,rfl,rs,ic⟩:=air (by omega);obtain⟨wl,AT,xU,ahL,Wa,rfl⟩:=ic (((gE g (gB g) y.1 dS).length:Int) -1) (by omega) (by omega);have aiE:=Wa 0 _ (by decide) rfl;have ati:=Wa 1 _ (by decide) rfl;refine aj ?_;refine ab.draw rfl (by kernel_rfl) (bc:=[.val 0,.val 1,.val 2,.val 3,.val 4,.val 5,.val 6,.val 7,.val 8,.val 9,.val 10,.val 11,.val 12,.val 13,.val 14,.bR 15]) (by kernel_rfl) ?_;refine cq ?_;refine al rfl V.bt ?_;refine al rfl V.aW ?_;refine al rfl V.Lg ?_;refine al rfl V.aG ?_;refine cq ?_;refine al rfl V.bt ?_;refine al rfl V.aW ?_;refine al rfl V.Lg ?_;refine al rfl V.aG ?_;refine al rfl V.jl ?_;refine kn rfl ?_;refine a8.nil ?_;refine rg ?_;refine I V.ag ?_;refine I V.c9 ?_;refine jK (Mc Q g0) fun JY=>?_;refine' W.step rfl (.of (kk rfl rfl rfl rfl rfl rfl (Mc Q g0) (Z0 Q g0) (fun i q=>by cases q) ?cw ?hm ?U ?cr ?ca ?av fun Jp x6 Hp=>?_));case cw=>assumption
      case hm=>exact s'
      case U=>exact hR
      case cr=>first|rfl|(simp;done)|(simp;omega)
      case ca=>first|rfl|exact hf _
      case av=>exact cc
      refine I V.az ?_;refine bi ?_;refine I V.ag ?_;refine I V.bt ?_;refine I V.az ?_;refine a6 ?_;refine cB ⟨k+1,s++[wl],Jp,x6,_⟩ ?_ (hm:=q3 (l₁:=x6) (l₂:=x6) (.refl _) (.cons _ (.cons _ (.cons _ (.refl _)))));exact⟨by omega,by simp;omega,Hp.uL (by simp) (by rw[E3];rfl),jZ.trans dU⟩
     ·refine aj ?_;refine ab.skip ?_;refine rg ?_;refine I V.ag ?_;refine I V.c9 ?_;refine jK (Mc Q g0) fun JY=>?_;refine' W.step rfl (.of (kk rfl rfl rfl rfl rfl rfl (Mc Q g0) (Z0 Q g0) (fun i q=>by cases q) ?cw ?hm ?U ?cr ?ca ?av fun Jp x6 Hp=>?_));case cw=>assumption
      case hm=>exact s'
      case U=>exact hR
      case cr=>first|rfl|(simp;done)|(simp;omega)
      case ca=>first|rfl|exact hf _
      case av=>exact cc
      refine I V.az ?_;refine bi ?_;refine I V.ag ?_;refine I V.bt ?_;refine I V.az ?_;refine a6 ?_;refine cB ⟨k+1,s++[(-1,-1)],Jp,x6,_⟩ ?_ (hm:=q3 (l₁:=x6) (l₂:=x6) (.refl _) (.cons _ (.cons _ (.cons _ (.refl _)))));exact⟨by omega,by simp;omega,Hp.uL (by simp) (by rw[E3];rfl),jZ.trans dU⟩
    ·refine aj ?_;refine ab.exit ?_;refine rg ?_;refine aM ?_;refine ns ?_;refine ab.ret ?_;refine c5 ?_;first
        |(rw[<-rD]
          exact⟨_,rfl,rfl,By.trans jZ⟩)
end
end
end Go.Opn

/- A part of the proof of ResumeBack. -/
import Derived.Test.YtiemfjdacfioeaaGreatDoorCbk
set_option maxRecDepth 100000
set_option maxHeartbeats 4000000
set_option linter.unusedVariables false
set_option linter.unusedSimpArgs false
namespace Go.Opn
noncomputable section
open Go.Cre Go.RowKit Go.Proofs
abbrev qP:=Int×Int×Int×Int
def ae'(x:qP):List Value:=[.int .i64 x.1,.int .i64 x.2.1,.int .i64 x.2.2.1,.int .i64 x.2.2.2]
def w'(s:List qP):List Value:=s.flatMap ae'
def R2(x:qP)(cs:List Value):Prop:=cs=[.int .i64 x.1,.int .i64 x.2.1,.int .i64 x.2.2.1,.int .i64 x.2.2.2]
theorem aeX{α:Type}{f:α->List Value}{k:Nat}(aC:∀x,(f x).length=k):∀{s:List α} {i:Nat},(s.flatMap f).drop (i*k)=(s.drop i).flatMap f:=by
 intro s;induction s with
 |nil=>intro i;simp
 |cons x r aK=>
  intro i;cases i with
  |zero=>simp
  |succ i=>
   rw[Fu,Se,<-aK,List.drop_append,CL (by rw[aC,pe];omega),me,aC];congr 1
   rw[pe];omega
theorem Ka(a b:List qP):w' (a++b)=w' a++w' b:=by unfold w';rw[Jm]
theorem ad1{J:aI}{e:TypeId}{v:Value}{s:List qP}(h:hL J e 4 v s.length (w' s)):fa J e 4 R2 v s:=by
 refine⟨w' s,h,fun i x U=>?_⟩;have ao:=(dX.1 U).1;unfold w';rw[aeX (k:=4) (fun _=>rfl),mO ao];have:s[i]=x:=by rw[de ao] at U;injection U
 rw[this];rfl
theorem anq{i:Int}{x:cS}:∀{l:List cS} {n a:Nat},l[a]?=some x->x.k=2/\x.i=i->((n+a:Nat):Int)∈eJ i n l:=by
 intro l;induction l with
 |nil=>intro n a h;cases h
 |cons y r aK=>
  intro n a h aU;cases a with
  |zero=>
   simp at h;subst h;unfold eJ;rw[aE aU];exact .head _
  |succ a=>
   have:=aK (n:=n+1) (a:=a) (by simpa using h) aU;rw[show n+1+a=n+(a+1) by omega] at this;unfold eJ;split
   ·exact .tail _ this
   ·exact this
def sT(g:bz)(j:Nat):Int:=match g.is[j]? with|some y=>y.1|none=>0
def yK(g:bz)(j:Nat)(x:Int):Prop:=we g (gA g) j x.toNat\/gF g (gA g) (sT g j) x.toNat≠gF g (gA g) (sT g j) (fc (eJ (j:Int) 0 g.ns)).toNat
structure mN (g:bz) (L:List qP) (i:Nat) (B:Prop):Prop where
 lt:∀f∈L,0<=f.2.2.1/\f.2.2.1<=i
 ew:∀j:Nat,j<i->((∃f∈L,f.2.2.1=(j:Int))↔∃x∈eJ (j:Int) 0 g.ns,yK g j x)
 cur:(∃f∈L,f.2.2.1=(i:Int))↔B
theorem mN.nil{g:bz}:mN g [] 0 False:=⟨(fun f q=>by cases q),(fun j h=>by omega),⟨(fun⟨f,q,_⟩=>by cases q),False.elim⟩⟩
theorem mN.iff{g:bz}{L:List qP}{i:Nat}{B Jd:Prop}(h:mN g L i B)(au:B↔Jd):mN g L i Jd:=⟨h.lt,h.ew,h.cur.trans au⟩
theorem mN.add{g:bz}{L:List qP}{i:Nat}{B:Prop}(h:mN g L i B)(k n o:Int):mN g (L++[(k,n,(i:Int),o)]) i True:=by
 refine⟨fun f aC=>?_,fun j ba=>?_,⟨fun _=>trivial,fun _=>⟨_,h2 _ (.head _),rfl⟩⟩⟩
 ·rcases kX.1 aC with q|q
  ·exact h.lt f q
  ·simp at q;subst q;exact⟨by simp only;omega,by simp only;omega⟩
 ·rw[<-h.ew j ba]
  constructor
  ·rintro⟨f,aC,e⟩
   rcases kX.1 aC with q|q
   ·exact⟨f,q,e⟩
   ·simp at q;subst q;simp only at e;omega
  ·rintro⟨f,aC,e⟩;exact⟨f,pc _ aC,e⟩
theorem mN.next{g:bz}{L:List qP}{i:Nat}(h:mN g L i (∃x∈eJ (i:Int) 0 g.ns,yK g i x)):mN g L (i+1) False:=by
 refine⟨fun f aC=>⟨(h.lt f aC).1,by have:=(h.lt f aC).2;omega⟩,fun j ba=>?_,⟨fun⟨f,aC,e⟩=>?_,False.elim⟩⟩
 ·by_cases q:j<i
  ·exact h.ew j q
  ·obtain rfl:j=i:=by omega
   exact h.cur
 ·have:=(h.lt f aC).2;omega
theorem mN.step{g:bz}{L:List qP}{i k:Nat}{B:Prop}{s:List Int}{x:Int}(h:mN g L i B)(U:s[k]?=some x)(au:B↔yK g i x\/∃y∈s.take k,yK g i y):mN g L i (∃y∈s.take (k+1),yK g i y):=by
 refine h.iff (au.trans ?_);rw[nS,U];constructor
 ·rintro(q|⟨y,ai,q⟩)
  ·exact⟨x,by simp,q⟩
  ·exact⟨y,pc _ ai,q⟩
 ·rintro⟨y,ai,q⟩
  rcases kX.1 ai with r|r
  ·exact .inr ⟨y,r,q⟩
  ·simp at r;subst r;exact .inl q
theorem S7{g:bz}(dt:ym g){i:Nat}{y:Int×Int}(ai:g.is[i]?=some y):(∃x∈eJ (i:Int) 0 g.ns,yK g i x)↔¬v7 g (gA g) y.1 (eJ (i:Int) 0 g.ns):=by
 have aw:sT g i=y.1:=by unfold sT;rw[ai]
 constructor
 ·rintro⟨x,U,q⟩ af
  unfold yK at q;rw[aw] at q;rcases q with⟨a,d,z,aa,ae,aG,br⟩|q
  ·have bN:=dt.types z (cd ae) aG
   rw[br,cy,ai] at bN;injection bN with bN
   have hm:=anq (n:=0) ae ⟨aG,br⟩;rw[ls] at hm;have aN:=af x U;have bn:=af _ hm;rw[cy] at bn;exact apl aa ae ⟨aG,by rw[bN]⟩ (aN.trans bn.symm)
  ·exact q (af x U)
 ·intro h
  apply qN
  intro q;apply h
  intro x U;apply qN
  intro r;exact q ⟨x,U,.inr (by rw[aw];exact r)⟩
theorem aeY{g:bz}(dt:ym g){L:List qP}(h:mN g L g.is.length False)(p:Int):(∃f∈L,sT g f.2.2.1.toNat=p)↔¬xY g p:=by
 constructor
 ·rintro⟨f,aC,e⟩ aw
  have c4:=h.lt f aC;obtain⟨j,ba⟩:∃j:Nat,f.2.2.1=(j:Int):=⟨f.2.2.1.toNat,by omega⟩;have n7:j<g.is.length:=by
   by_cases q:j=g.is.length
   ·subst q;exact absurd (h.cur.1 ⟨f,aC,ba⟩) id
   ·omega
  have ai:=de n7;have:=(S7 dt ai).1 ((h.ew j n7).1 ⟨f,aC,ba⟩);rw[ba,cy] at e;unfold sT at e;rw[ai] at e;have e:(g.is[j]).1=p:=e;rw[e] at this;exact this (aw j _ _ (sW n7) ai e)
 ·intro aw
  apply qN
  intro q;apply aw
  intro i s y aa ae aG;have ao:=(dX.1 ae).1;rw[sW ao] at aa;injection aa with aa;subst aa
  apply qN
  intro r;rw[<-aG] at r;obtain⟨f,aC,e⟩:=(h.ew i ao).2 ((S7 dt ae).2 r);exact q ⟨f,aC,by rw[e,cy];unfold sT;rw[ae];exact aG⟩
theorem ij.LF{J:aI}{a:Nat}{cells:List Value}(h:ij [] J a cells):∃e,J a=some (cells,e):=by
 cases h with
 |own h=>cases h
 |fz h=>exact⟨_,h⟩
 |opn h=>cases h
section
variable {Q:dI Tryz.prog}{g0:Nat}{J:aI}
theorem Ys{bm bl:Option Addr}{bt bw:Nat}{cU ee:List (Int×Int)}(aa:fa J 145 2 uS (.slice bm cU.length bt) cU)(ae:fa J 145 2 uS (.slice bl ee.length bw) ee)(av:cU.length<=1000000):
 Fn (bb Q g0) 107 [.slice bm cU.length bt,.slice bl ee.length bw] [] J (fun u m' ag=>u=.bool (decide (cU=ee))/\m'=[]/\J=ag):=by
 obtain⟨_,Bh⟩:=aa.at;obtain⟨_,vA⟩:=ae.at;refine Fn.cH (cQ Tryz.func107) rfl rfl fun H=>?_;refine rg ?_;refine I V.aA ?_;refine bj ?_;refine aM ?_;refine I V.a1 ?_;refine ns ?_;refine If (fun eE=>?_) fun eE=>?_
 ·refine rg ?_;refine I V.aA ?_;refine ns ?_;refine ab.ret ?_;refine c' ?_;refine⟨cC Value.bool ?_,rfl,rfl⟩;first
   |(have c:=bB;symm;rw[lS]
     apply lp
     intro j;by_cases q:j<i
     ·exact bB j q
     ·rw[fx (by omega),fx (by omega)])
   |(symm;rw[mm];intro q;rw[q] at eE;exact eE rfl)
 ·refine aj ?_;refine ab.skip ?_;refine rg ?_;refine I V.aA ?_;refine ns ?_;refine ab.block ?_;refine' ab.c2 (l':=[(5,.int .i64 ((0):Int)),(0,_),(1,_)]) ⟨?pR,rfl,rfl,trivial⟩ (bA _) ?_;case pR=>exact bS
  refine aj ?_;refine' ab.rG (α:=(Nat)) (fun(i:Nat)=>[(5,.int .i64 (i:Int))]) (fun(i:Nat)=>i<=cU.length/\∀j,j<i->cU[j]?=ee[j]?) (fun(i:Nat)=>cU.length -i) (0) ?af ?bE;case af=>exact⟨cB _,fun j ba=>by omega⟩
  case bE=>
   rintro i hinv;try simp only at hinv
   obtain⟨ao,bB⟩:=hinv;refine rg ?_;refine aM ?_;refine I V.a1 ?_;refine ns ?_;refine If (fun ly=>?_) fun ly=>?_
   ·obtain⟨bo,uv,M9,aN,rfl,GQ,pt⟩:=Bh (by omega);obtain⟨a2,vV,M',bn,rfl,GR,oS⟩:=vA (by omega);obtain⟨x,cs,U,y9,_,rfl⟩:=pt i (by omega) (by omega);obtain⟨y,cs,ai,Vx,_,rfl⟩:=oS i (by omega) (by omega);rw[cy] at U ai;refine c5 ?_;refine aj ?_;refine ab.block ?_;refine aj ?_;refine ab.draw rfl (by kernel_rfl) (bf:=[.val 0,.val 1,.val 2,.val 3,.val 4,.val 5,.val 6,.val 7,.val 8]) (by kernel_rfl) ?_;refine cq ?_;refine an rfl V.aX ?_;refine an rfl V.c8 ?_;refine cq ?_;refine an rfl V.aX ?_;refine an rfl V.c8 ?_;refine' a7.val rfl rfl rfl rfl (ZI rfl (.inr ⟨rfl,rfl⟩) rfl rfl (by kernel_rfl)) ?_;refine a7.nil ?_;refine aj ?_;refine If (fun oA=>?_) fun oA=>?_
    ·refine rg ?_;refine I V.aA ?_;refine ns ?_;refine ab.ret ?_;refine c' ?_;refine⟨cC Value.bool ?_,rfl,rfl⟩;first
       |(have c:=oA;symm;rw[mm];intro q;subst q;rw[U] at ai;injection ai with ai;subst ai;exact oA ⟨rfl,rfl⟩)
       |(have c:=bB;symm;rw[lS]
         apply lp
         intro j;by_cases q:j<i
         ·exact bB j q
         ·rw[fx (by omega),fx (by omega)])
       |(symm;rw[mm];intro q;rw[q] at eE;exact eE rfl)
    ·refine aj ?_;refine ab.skip ?_;refine rg ?_;refine I V.ah ?_;refine I V.bx ?_;refine I V.aA ?_;refine a8 ?_;refine'⟨(i+1),_,?hinv,?kw,rfl,⟨?m5,rfl,rfl,trivial⟩,bA _,rfl⟩;case m5=>exact bS
     case kw=>exact cf
     case hinv=>refine⟨by omega,fun j ba=>?_⟩;by_cases q:j<i;(exact bB j q);(obtain rfl:j=i:=by omega);(rw[U,ai];have c:=gP.1 oA;exact cC some (Prod.ext c.1 c.2))
   ·refine aj ?_;refine ab.exit ?_;refine rg ?_;refine I V.aA ?_;refine ns ?_;refine ab.ret ?_;refine c' ?_;refine⟨cC Value.bool ?_,rfl,rfl⟩;first
     |(have c:=bB;symm;rw[lS]
       apply lp
       intro j;by_cases q:j<i
       ·exact bB j q
       ·rw[fx (by omega),fx (by omega)])
     |(symm;rw[mm];intro q;rw[q] at eE;exact eE rfl)
theorem aeZ{g:bz}{aT aL:Option Addr}{aQ ci:Nat}(aq:fG J g aT aQ aL ci)(dt:ym g):
 Fn (bb Q g0) 93 [hc g aT aQ aL ci] [] J (fun u m' ag=>∃b c L,u=.slice b L.length c/\m'=[]/\J.le ag/\fa ag 150 4 R2 (.slice b L.length c) L/\mN g L g.is.length False/\L.length<=1000000):=by
 have fW:addrEq aL aL=true:=aq.i.addr;have gn:addrEq aT aT=true:=aq.n.addr;have aD:=IA dt;have dO:=aD.len;have dn:=dt.dn;have i2:=dt.i2;have ec:∀c:Nat,c<g.ns.length->∃a,(gA g)[c]?=some a/\-1<=a/\a<g.ns.length:=fun c aH=>by
  by_cases q:c=0
  ·subst q;exact⟨-1,aD.root,by omega,by omega⟩
  ·obtain⟨a,aa,ae,_⟩:=aD.up c (by omega) aH
   exact⟨a,aa,by omega,by omega⟩
 refine Fn.cH (cQ Tryz.func93) rfl rfl fun H=>?_;refine rg ?_;refine dJ fun bo=>?_;refine I V.aA ?_;refine bj ?_;refine I V.aA ?_;refine bj ?_;refine I V.c8 ?_;refine cl (G:=YJ aq dt) (h:=?_);rintro v m' dQ ck ⟨cu,cD,rfl,rfl,_,dD⟩;refine I V.aA ?_;refine a8 ?_;obtain⟨df,op,Nc,rfl,By,OZ⟩:=dD.iB [] (by have:=dt.b0;omega);have KW:∀(c:Nat) (at_:Int),c<g.ns.length->(gA g)[c]?=some at_->nth Nc (op+c*1)=some (.int .i64 at_):=fun c at_ aH h=>by
  obtain⟨x,aa,ae⟩:=OZ c (by omega) (by omega);rw[cy] at aa ae;rw[aa] at h;injection h with h;subst h;exact ae
 refine rg ?_;refine I V.c8 ?_;refine cl (G:=Rb (aq.mono ck) dn i2 dt.nodes) (h:=?_);rintro v m' eZ cE ⟨bs,cs,rfl,rfl,_,jO⟩;refine I V.aA ?_;refine a8 ?_;obtain⟨_,lY⟩:=jO.at;have k':(gC g).length=g.is.length:=uG;have Bp:=ck.trans cE;refine rg ?_;obtain⟨aru,DK⟩:=By.LF;have DK:=cE _ _ DK;refine I V.aA ?_;refine ns ?_;refine ab.block ?_;refine' ab.c2 (l':=[(3,(.slice none 0 0)),(6,.int .i64 ((0):Int)),(1,_),(4,_),(5,_)]) ⟨?kE,?nn,rfl,rfl,rfl,trivial⟩ (bA _) ?_;case kE=>exact bS
 case nn=>exact bS
 refine aj ?_;refine' ab.dF (fun(bH:Nat×(List qP)×Value×aO×aI)=>match bH with|(i,L,v,aY,dY)=>⟨[(3,v),(6,.int .i64 (i:Int))],aY++[(bo,.row (iq g aT aQ aL ci) 27)],dY,i<=g.is.length/\mN g L i False/\L.length<=4000*i/\Acc 150 4 v L.length (w' L) aY/\eZ.le dY,g.is.length -i⟩) ⟨0,[],.slice none 0 0,[],eZ⟩ ?af ?bE
 case af=>exact⟨cB _,mN.nil,cZ _,.nil,aI.le.refl _⟩
 case bE=>
  rintro⟨i,L,v,aY,dY⟩ hinv;try simp only at hinv
  obtain⟨ao,vG,DM,cw,dr⟩:=hinv;refine rg ?_;refine aM ?_;refine I V.a1 ?_;refine ns ?_;refine If (fun p3=>?_) fun p3=>?_
  ·have nH:=aq.mono (Bp.trans dr);obtain⟨_,kt⟩:=nH.i.at;obtain⟨FJ,Iq,Gd,Gn,rfl,lU,tY⟩:=lY (by omega);obtain⟨s,vh,af,vC,l2,abx,je,rfl,Ec⟩:=tY i (by omega) (by omega);have sC:=l2 0 _ (by decide) rfl;obtain⟨ha,jk,vf,vm,rfl,mu,lZ⟩:=kt (by omega);obtain⟨y,wT,ai,tU,l1,rfl⟩:=lZ i (by omega) (by omega);have KC:=l1 0 _ (by decide) rfl;rw[cy] at af ai;have lE:s=eJ (i:Int) 0 g.ns:=by rw[sW (by omega)] at af;injection af with af;exact af.symm
   have kN:s≠[]:=dt.Ra s (cd af);have PJ:0<s.length:=Fw.2 kN;have Wh:s.length<=2000:=by have:=LV (j:=(i:Int)) (l:=g.ns) (n:=0);rw[lE];omega
   have lC:∀x∈s,∃c:Nat,x=(c:Int)/\c<g.ns.length:=fun x U=>by
    rw[lE] at U;obtain⟨c,aa,z,ae,_⟩:=Q' U;exact⟨c,aa,(dX.1 ae).1⟩
   have Ht:sT g i=y.1:=by unfold sT;rw[ai]
   have lU:=dr _ _ lU;have j':=Ec.iB [];obtain⟨S0,Lp,TR,rfl,zj,Bo⟩:=j' PJ;obtain⟨es,n5⟩:=zj.LF;have n5:=dr _ _ n5;have DK:=dr _ _ DK;obtain⟨kG,ky,Hq⟩:=Bo 0 (by omega) (by omega);have zo:s[0]?=some kG:=ky;have sy:=DU zo;obtain⟨dU,ho,DR⟩:=lC kG (cd zo);subst ho;refine c5 ?_;refine aj ?_;refine ab.block ?_;refine rg ?_;refine I V.bc ?_;refine I V.aF ?_;refine I V.ah ?_;refine I V.aX ?_;refine I V.bc ?_;refine I V.aF ?_;refine I V.aA ?_;refine bj ?_;refine I V.aA ?_;refine ns ?_;refine ab.block ?_;refine' ab.c2 (l':=[(3,(v)),(8,.int .i64 ((0):Int)),(1,_),(4,_),(5,_),(6,_),(7,_)]) ⟨?kE,?jq,rfl,rfl,rfl,rfl,rfl,trivial⟩ (bA _) ?_;case kE=>exact bS
   case jq=>exact bS
   refine aj ?_;refine' ab.dF (fun(bH:Nat×(List qP)×Value×aO×aI)=>match bH with|(k,eM,v1,l6,pa)=>⟨[(3,v1),(8,.int .i64 (k:Int))],l6++[(bo,.row (iq g aT aQ (some ⟨ha,jk,none⟩) ci) 27)],pa,k<=s.length/\mN g eM i (∃z∈s.take k,yK g i z)/\eM.length<=4000*i+2*k/\Acc 150 4 v1 eM.length (w' eM) l6/\dY.le pa,s.length -k⟩) ⟨0,L,v,aY,dY⟩ ?af ?bE
   case af=>exact⟨cB _,vG.iff ⟨False.elim,fun⟨z,bN,_⟩=>by simp at bN⟩,by omega,cw,aI.le.refl _⟩
   case bE=>
    rintro⟨k,eM,v1,l6,pa⟩ hinv;try simp only at hinv
    obtain⟨aU,DW,arU,Ba,jN⟩:=hinv;have lU:=jN _ _ lU;have mu:=jN _ _ mu;have n5:=jN _ _ n5;have DK:=jN _ _ DK;refine rg ?_;refine aM ?_;refine I V.aX ?_;refine I V.aF ?_;refine I V.bP ?_;refine I V.a1 ?_;refine ns ?_;refine If (fun pi=>?_) fun pi=>?_
    ·obtain⟨x,U,e0⟩:=Bo k (by omega) (by omega);rw[cy] at U;obtain⟨hb,y9,xk⟩:=lC x (cd U);subst y9;have tX:=aq.mono (Bp.trans (dr.trans jN));obtain⟨_,fD⟩:=tX.n.at;obtain⟨S1,Vr,ar1,ar2⟩:=ec hb xk;have aid:=KW hb _ xk Vr;refine c5 ?_;refine aj ?_;refine ab.block ?_;refine rg ?_;refine aM ?_;refine I V.aX ?_;refine I V.aF ?_;refine I V.ah ?_;refine I V.aX ?_;refine I V.aF ?_;refine I V.aA ?_;refine bj ?_;refine aM ?_;refine I V.aX ?_;refine I V.aF ?_;refine I V.aA ?_;refine ns ?_;refine ab.block ?_;refine' ab.c2 (l':=[(10,.int .i64 (S1)),(1,_),(3,_),(4,_),(5,_),(6,_),(7,_),(8,_),(9,_)]) ⟨?pQ,rfl,rfl,rfl,rfl,rfl,rfl,rfl,rfl,trivial⟩ (bA _) ?_;case pQ=>exact bS
     refine aj ?_;refine' ab.dF (fun(bH:Nat×Int)=>match bH with|(c,at_)=>⟨[(10,.int .i64 at_)],l6++[(bo,.row (iq g aT aQ (some ⟨ha,jk,none⟩) ci) 27)],pa,c<g.ns.length/\(gA g)[c]?=some at_/\(we g (gA g) i hb↔we g (gA g) i c),c⟩) ⟨hb,S1⟩ ?af ?bE
     case af=>exact⟨xk,Vr,Iff.rfl⟩
     case bE=>
      rintro⟨c,at_⟩ hinv;try simp only at hinv
      obtain⟨aH,fJ,Ow⟩:=hinv;refine rg ?_;refine I V.ah ?_;refine I V.a1 ?_;refine ns ?_;refine If (fun M0=>?_) fun M0=>?_
      ·
        obtain⟨a,lA,h9,z,bN,n8⟩:=aD.up c (by by_cases q:c=0;(subst q;rw[aD.root] at fJ;injection fJ with fJ;omega);omega) aH;rw[fJ] at lA;injection lA with lA;subst lA
        obtain⟨bR,off,cells,bG,rfl,ms,jP⟩:=fD (by omega);obtain⟨hQ,aq7,Ei,gV,ir,ey⟩:=jP a (by omega) (by omega);obtain⟨bm,bt,bl,bw,b8,dh,rfl,eo,ga,gz⟩:=ey;rw[cy,bN] at Ei;injection Ei with Ei;subst Ei
        obtain⟨abh,vA,ar3,ar4⟩:=ec a (by omega);have asG:=KW a _ (by omega) vA;have Hg:=ir 0 _ (by decide) rfl;have qj:=ir 2 _ (by decide) rfl;refine c5 ?_;refine aj ?_;refine ab.block ?_;refine fT [1,3,4,5,6,7,8,9,10] ?_;refine aj ?_;refine' ab.ht 0 [(69,.bool (decide ((z.k=2/\z.i=(i:Int)))))] ?acR ?adF;case acR=>
         refine ab.region ?_;refine I V.bc ?_;refine I V.aF ?_;refine I V.ah ?_;refine I V.aX ?_;refine I V.bc ?_;refine I V.aF ?_;refine I V.a1 ?_;refine I V.ah ?_;refine dq 60 (fun afK=>?_) fun afK=>?_
         ·refine aW V.bc ?_;refine aW V.aF ?_;refine aW V.ah ?_;refine aW V.aX ?_;refine aW V.bc ?_;refine aW V.aF ?_;refine aW V.ah ?_;refine aW V.a1 ?_;refine I V.aV ?_;refine a8 ?_;exact ce
         ·refine al ?_;refine al ?_;refine al ?_;refine al ?_;refine al ?_;refine al ?_;refine al ?_;refine al ?_;refine I V.aV ?_;refine a8 ?_;exact ce
        case adF=>
         refine aj ?_;refine If (fun to=>?_) fun to=>?_
         ·have zp:we g (gA g) i hb:=Ow.2 ((SJ fJ h9 bN).2 (.inl to));refine rg ?_;refine aM ?_;refine jw (EU Q g0) fun a75=>?_;refine' W.step rfl (.of (kf rfl rfl rfl rfl rfl rfl (EU Q g0) (Ru Q g0) (fun i q=>by cases q) ?cw ?hm ?U ?cr ?cc ?av fun apg Ic agY=>?_));case cw=>assumption
          case hm=>exact sU
          case U=>exact hP
          case cr=>first|rfl|(simp;done)|(simp;omega)
          case cc=>first|rfl|exact hg _
          case av=>exact cf
          refine I V.aA ?_;refine ns ?_;refine ab.exit ?_;refine aj ?_;refine ab.T3 rfl (by kernel_rfl) (bf:=[.val 0,.val 1,.val 2,.val 4,.val 5,.val 6,.val 7,.val 8,.val 9,.val 10,.val 11,.bV 3,.cF [11,10,9,8,7,6,5,4],.bV 12,.bV 13,.val 14]) (by kernel_rfl) ?_;refine gw.val rfl rfl rfl rfl V.c8 ?_;refine gw.val rfl rfl rfl rfl V.ah ?_;refine gw.val rfl rfl rfl rfl V.ah ?_;refine gw.val rfl rfl rfl rfl V.c8 ?_;refine gw.val rfl rfl rfl rfl V.ah ?_;refine gw.val rfl rfl rfl rfl V.ah ?_;refine gw.val rfl rfl rfl rfl V.aX ?_;refine gw.val rfl rfl rfl rfl V.aF ?_;refine gw.val rfl rfl rfl rfl V.aX ?_;refine gw.val rfl rfl rfl rfl V.aF ?_;refine gw.val rfl rfl rfl rfl V.ah ?_;refine' gw.call rfl rfl rfl rfl rfl rfl rfl rfl rfl (II tX dt xk) ((fun v m' ag ⟨b,c,a3,_,h,_⟩=>⟨a3,_,by rw[h];exact .head _⟩)) ?_;rintro v m' kh dV ⟨yN,yU,FO,rfl,rfl,_,nK⟩;have lU:=dV _ _ lU;have n5:=dV _ _ n5;refine gw.cF fC ?_;refine' gw.call rfl rfl rfl rfl rfl rfl rfl rfl rfl (II (tX.mono dV) dt DR) ((fun v m' ag ⟨b,c,a3,_,h,_⟩=>⟨a3,_,by rw[h];exact .head _⟩)) ?_;rintro v m' pV hD ⟨va,vi,FP,rfl,rfl,_,Ef⟩;refine' gw.TC rfl rfl rfl rfl rfl rfl rfl rfl rfl (Ys (nK.mono hD fun _ _ q=>q) Ef (by have:=zD (g:=g) (P:=gA g) (p:=y.1) hb hb (cZ _);unfold gF jU;rw[uT,mc];omega)) ?_;rintro v m' yo ku ⟨rfl,rfl,rfl⟩;refine u1.val rfl rfl rfl rfl V.oe ?_;refine u1.nil ?_;refine aj ?_;refine If (fun F8=>?_) fun F8=>?_
          ·have lU:=hD _ _ lU;have n5:=hD _ _ n5;first
             |refine ab.gB (m':=(FP,_)::(FO,_)::(Ic++_)) (.refl _) ?_
             |refine ab.gB (m':=(FP,_)::(FO,_)::(l6++_)) (.refl _) ?_
           refine rg ?_;refine aM ?_;refine I V.aX ?_;refine I V.aF ?_;refine I V.aX ?_;refine I V.aF ?_;refine I V.jL ?_;refine jw (EU Q g0) fun aaQ=>?_;refine' W.step rfl (.of (kf rfl rfl rfl rfl rfl rfl (EU Q g0) (Ru Q g0) (fun i q=>by cases q) ?cw ?hm ?U ?cr ?cc ?av fun RB Qj Ou=>?_));case cw=>assumption
           case hm=>exact sU
           case U=>exact hP
           case cr=>first|rfl|(simp;done)|(simp;omega)
           case cc=>first|rfl|exact hg _
           case av=>exact cf
           refine I V.aA ?_;refine bj ?_;refine I V.ah ?_;refine I V.bx ?_;refine I V.aA ?_;refine a8 ?_;refine cA ⟨k+1,(eM++[(1,(hb:Int),(i:Int),(a:Int))])++[(2,(hb:Int),(i:Int),(dU:Int))],RB,Qj,pV⟩ ?_ (hm:=pX (.refl _) (.cons _ (.cons _ (.cons _ (.cons _ (.refl _))))));exact⟨by omega,((DW.add 1 hb a).add 2 hb dU).step U ⟨fun _=>.inl (.inl zp),fun _=>trivial⟩,by simp;omega,Ou.uJ (by simp) (by rw[Ka,Ka];rfl),jN.trans (dV.trans hD)⟩
          ·refine aj ?_;refine ab.skip ?_;refine rg ?_;refine I V.ah ?_;refine I V.bx ?_;refine I V.aA ?_;refine a8 ?_;refine cA ⟨k+1,eM++[(1,(hb:Int),(i:Int),(a:Int))],apg,Ic,pV⟩ ?_ (hm:=.cons _ (.cons _ (pX (l₁:=Ic) (l₂:=Ic) (.refl _) (.cons _ (.refl _)))));exact⟨by omega,(DW.add 1 hb a).step U ⟨fun _=>.inl (.inl zp),fun _=>trivial⟩,by simp;omega,agY.uJ (by simp) (by rw[Ka];rfl),jN.trans (dV.trans hD)⟩
         ·refine aj ?_;refine ab.skip ?_;refine rg ?_;refine aM ?_;refine I V.aX ?_;refine I V.aF ?_;refine I V.aA ?_;refine a8 ?_;refine cA ⟨a,abh⟩ ?_;exact⟨by omega,vA,Ow.trans ((SJ fJ h9 bN).trans ⟨fun q=>q.resolve_left to,.inr⟩)⟩
      ·
        have fy:¬we g (gA g) i hb:=fun q=>aa0 fJ (by omega) (Ow.1 q);refine aj ?_;refine ab.exit ?_;refine aj ?_;refine ab.T3 rfl (by kernel_rfl) (bf:=[.val 0,.val 1,.val 2,.val 4,.val 5,.val 6,.val 7,.val 8,.val 9,.val 10,.val 11,.bV 3,.cF [11,10,9,8,7,6,5,4],.bV 12,.bV 13,.val 14]) (by kernel_rfl) ?_;refine gw.val rfl rfl rfl rfl V.c8 ?_;refine gw.val rfl rfl rfl rfl V.ah ?_;refine gw.val rfl rfl rfl rfl V.ah ?_;refine gw.val rfl rfl rfl rfl V.c8 ?_;refine gw.val rfl rfl rfl rfl V.ah ?_;refine gw.val rfl rfl rfl rfl V.ah ?_;refine gw.val rfl rfl rfl rfl V.aX ?_;refine gw.val rfl rfl rfl rfl V.aF ?_;refine gw.val rfl rfl rfl rfl V.aX ?_;refine gw.val rfl rfl rfl rfl V.aF ?_;refine gw.val rfl rfl rfl rfl V.ah ?_;refine' gw.call rfl rfl rfl rfl rfl rfl rfl rfl rfl (II tX dt xk) ((fun v m' ag ⟨b,c,a3,_,h,_⟩=>⟨a3,_,by rw[h];exact .head _⟩)) ?_;rintro v m' kh dV ⟨yN,yU,FO,rfl,rfl,_,nK⟩;have lU:=dV _ _ lU;have n5:=dV _ _ n5;refine gw.cF fC ?_;refine' gw.call rfl rfl rfl rfl rfl rfl rfl rfl rfl (II (tX.mono dV) dt DR) ((fun v m' ag ⟨b,c,a3,_,h,_⟩=>⟨a3,_,by rw[h];exact .head _⟩)) ?_;rintro v m' pV hD ⟨va,vi,FP,rfl,rfl,_,Ef⟩;refine' gw.TC rfl rfl rfl rfl rfl rfl rfl rfl rfl (Ys (nK.mono hD fun _ _ q=>q) Ef (by have:=zD (g:=g) (P:=gA g) (p:=y.1) hb hb (cZ _);unfold gF jU;rw[uT,mc];omega)) ?_;rintro v m' yo ku ⟨rfl,rfl,rfl⟩;refine u1.val rfl rfl rfl rfl V.oe ?_;refine u1.nil ?_;refine aj ?_;refine If (fun F8=>?_) fun F8=>?_
        ·have lU:=hD _ _ lU;have n5:=hD _ _ n5;first
          |refine ab.gB (m':=(FP,_)::(FO,_)::(Ic++_)) (.refl _) ?_
          |refine ab.gB (m':=(FP,_)::(FO,_)::(l6++_)) (.refl _) ?_
         refine rg ?_;refine aM ?_;refine I V.aX ?_;refine I V.aF ?_;refine I V.aX ?_;refine I V.aF ?_;refine I V.jL ?_;refine jw (EU Q g0) fun aaQ=>?_;refine' W.step rfl (.of (kf rfl rfl rfl rfl rfl rfl (EU Q g0) (Ru Q g0) (fun i q=>by cases q) ?cw ?hm ?U ?cr ?cc ?av fun RB Qj Ou=>?_));case cw=>assumption
         case hm=>exact sU
         case U=>exact hP
         case cr=>first|rfl|(simp;done)|(simp;omega)
         case cc=>first|rfl|exact hg _
         case av=>exact cf
         refine I V.aA ?_;refine bj ?_;refine I V.ah ?_;refine I V.bx ?_;refine I V.aA ?_;refine a8 ?_;refine cA ⟨k+1,eM++[(2,(hb:Int),(i:Int),(dU:Int))],RB,Qj,pV⟩ ?_ (hm:=pX (.refl _) (.cons _ (.cons _ (.cons _ (.refl _)))));exact⟨by omega,(DW.add 2 hb dU).step U ⟨fun _=>.inl (.inr (by rw[Ht,<-lE,sy];exact F8)),fun _=>trivial⟩,by simp;omega,Ou.uJ (by simp) (by rw[Ka];rfl),jN.trans (dV.trans hD)⟩
        ·refine aj ?_;refine ab.skip ?_;refine rg ?_;refine I V.ah ?_;refine I V.bx ?_;refine I V.aA ?_;refine a8 ?_;refine cA ⟨k+1,eM,v1,l6,pV⟩ ?_ (hm:=.cons _ (.cons _ (.refl _)));exact⟨by omega,DW.step U ⟨fun q=>.inr q,fun q=>q.resolve_left (fun q=>q.elim fy (fun q=>q (by rw[Ht,<-lE,sy];exact gP.1 F8)))⟩,by omega,Ba,jN.trans (dV.trans hD)⟩
    ·refine aj ?_;refine ab.exit ?_;refine rg ?_;refine I V.ah ?_;refine I V.bx ?_;refine I V.aA ?_;refine a8 ?_;refine cA ⟨i+1,eM,v1,l6,pa⟩ ?_;exact⟨by omega,(by rw[et (by omega),lE] at DW;exact DW.next),by omega,Ba,dr.trans jN⟩
  ·refine aj ?_;refine ab.exit ?_;obtain⟨bv,gJ,rfl⟩:=cw.form;refine cw.hx (.refl _) fun kh dV HE=>?_;refine rg ?_;refine aM ?_;refine ns ?_;refine ab.ret ?_;refine c' ?_;exact⟨_,_,L,rfl,rfl,Bp.trans (dr.trans dV),ad1 HE,by rw[show i=g.is.length by omega] at vG;exact vG,by omega⟩
end
section
variable {Q:dI Tryz.prog}{g0:Nat}{J:aI}
theorem alQ{g:bz}{aT aL:Option Addr}{aQ ci:Nat}{p:Int}(aq:fG J g aT aQ aL ci)(dt:ym g):
 Fn (bb Q g0) 76 [hc g aT aQ aL ci,.int .i64 p] [] J (fun u m' ag=>(∃b,u=.bool b/\(b=true↔xY g p))/\m'=[]/\J.le ag):=by
 have fW:addrEq aL aL=true:=aq.i.addr;have gn:addrEq aT aT=true:=aq.n.addr;refine Fn.cH (cQ Tryz.func76) rfl rfl fun H=>?_;refine rg ?_;refine dJ fun a2=>?_;refine I V.aA ?_;refine bj ?_;refine I V.c8 ?_;refine cl (G:=aeZ aq dt) (h:=?_);rintro v m' dQ ck ⟨b,c,L,rfl,rfl,_,jO,vG,DM⟩;refine I V.aA ?_;refine a8 ?_;have aw:=aeY dt vG p;obtain⟨_,qi⟩:=jO.at;have nH:=aq.mono ck;obtain⟨_,kt⟩:=nH.i.at;refine rg ?_;refine I V.aA ?_;refine ns ?_;refine ab.block ?_;refine' ab.c2 (l':=[(6,.int .i64 ((0):Int)),(1,_),(2,_),(5,_)]) ⟨?nn,rfl,rfl,rfl,trivial⟩ (bA _) ?_;case nn=>exact bS
 refine aj ?_;refine' ab.dF (fun(i:Nat)=>⟨[(6,.int .i64 (i:Int))],[(a2,.row (iq g aT aQ aL ci) 27)],dQ,i<=L.length/\∀f∈L.take i,sT g f.2.2.1.toNat≠p,L.length -i⟩) (0) ?af ?bE;case af=>exact⟨cB _,fun x U=>by cases U⟩
 case bE=>
  rintro i hinv;try simp only at hinv
  obtain⟨ao,bB⟩:=hinv;refine rg ?_;refine aM ?_;refine I V.a1 ?_;refine ns ?_;refine If (fun F5=>?_) fun F5=>?_
  ·obtain⟨cg,ol,TQ,el,rfl,agx,OY⟩:=qi (by omega);obtain⟨f,aq3,aC,ar9,ahS,rfl⟩:=OY i (by omega) (by omega);rw[cy] at aC;have asl:=ahS 2 _ (by decide) rfl;have OP:=vG.lt f (cd aC);have ase:f.2.2.1≠g.is.length:=fun q=>absurd (vG.cur.1 ⟨f,cd aC,q⟩) id;obtain⟨ha,jk,vf,vm,rfl,mu,lZ⟩:=kt (by omega);obtain⟨y,wT,ai,tU,l1,rfl⟩:=lZ f.2.2.1 (by omega) (by omega);have KC:=l1 0 _ (by decide) rfl;have Ht:sT g f.2.2.1.toNat=y.1:=by unfold sT;rw[ai]
   refine c5 ?_;refine aj ?_;refine ab.block ?_;refine aj ?_;refine ab.draw rfl (by kernel_rfl) (bf:=[.val 0,.val 1,.val 2,.val 3,.val 4,.val 5,.val 6,.val 7,.val 8,.val 9,.val 10,.val 11]) (by kernel_rfl) ?_;refine an rfl V.bc ?_;refine an rfl V.aF ?_;refine cq ?_;refine an rfl V.aX ?_;refine an rfl V.bc ?_;refine an rfl V.aF ?_;refine an rfl V.aX ?_;refine an rfl V.bc ?_;refine an rfl V.aF ?_;refine an rfl V.ah ?_;refine an rfl V.a1 ?_;refine a7.nil ?_;refine aj ?_;refine If (fun ny=>?_) fun ny=>?_
   ·refine rg ?_;refine I V.aA ?_;refine ns ?_;refine ab.ret ?_;refine c' ?_;first
      |(have c:=ny
        exact⟨⟨false,rfl,by simp;exact aw.1 ⟨f,cd aC,by rw[Ht];exact ny⟩⟩,rfl,ck⟩)
      |(refine⟨⟨true,rfl,by
           simp
           apply qN
           intro q;obtain⟨f,aC,e⟩:=aw.2 q;rw[et (by omega)] at bB;exact bB f aC e⟩,rfl,ck⟩)
   ·refine aj ?_;refine ab.skip ?_;refine rg ?_;refine I V.ah ?_;refine I V.bx ?_;refine I V.aA ?_;refine a8 ?_;refine cA (i+1) ?_;exact⟨by omega,sY bB aC (by rw[Ht];exact ny)⟩
  ·refine aj ?_;refine ab.exit ?_;refine rg ?_;refine I V.aA ?_;refine ns ?_;refine ab.ret ?_;refine c' ?_;first
    |(refine⟨⟨true,rfl,by
          simp
          apply qN
          intro q;obtain⟨f,aC,e⟩:=aw.2 q;rw[et (by omega)] at bB;exact bB f aC e⟩,rfl,ck⟩)
theorem anc{g:bz}{aT aL:Option Addr}{aQ ci:Nat}(aq:fG J g aT aQ aL ci)(aC:h6 g=0):
 Fn (bb Q g0) 54 [hc g aT aQ aL ci] [] J (fun u m' ag=>∃w,u=.tuple #[w,.int .i64 (kc g)]/\m'=[]/\J.le ag):=by
 have fW:addrEq aL aL=true:=aq.i.addr;have gn:addrEq aT aT=true:=aq.n.addr;have dt:=GG aC;have dn:=dt.dn;have i2:=dt.i2;have lJ:=dt.lJ;refine Fn.cH (cQ Tryz.func54) rfl rfl fun H=>?_;refine rg ?_;refine dJ fun bo=>?_;refine aM ?_;refine bj ?_;refine I V.aA ?_;refine ns ?_;refine ab.block ?_;refine' ab.c2 (l':=[(4,.int .i64 ((0):Int)),(1,_)]) ⟨?kF,rfl,trivial⟩ (bA _) ?_;case kF=>exact bS
 refine aj ?_;refine' ab.dF (fun(bH:Nat×aI)=>match bH with|(i,dY)=>⟨[(4,.int .i64 (i:Int))],[(bo,.row (iq g aT aQ aL ci) 27)],dY,(i:Int)<=g.pl/\(∀p:Int,0<=p->p<i->xY g p)/\J.le dY,(g.pl -i).toNat⟩) ⟨0,J⟩ ?af ?bE
 case af=>exact⟨by have:=dt.dS;omega,fun p aa ae=>by omega,aI.le.refl _⟩
 case bE=>
  rintro⟨i,dY⟩ hinv;try simp only at hinv
  obtain⟨ao,bB,dr⟩:=hinv;refine rg ?_;refine aM ?_;refine I V.aF ?_;refine I V.a1 ?_;refine ns ?_;refine If (fun p2=>?_) fun p2=>?_
  ·refine aj ?_;refine ab.skip ?_;refine aj ?_;refine ab.block ?_;refine rg ?_;refine I V.c8 ?_;refine I V.ah ?_;refine cl (G:=alQ (p:=i) (aq.mono dr) dt) (h:=?_);rintro v m' eZ cE ⟨⟨b,rfl,au⟩,rfl,_⟩;refine I V.oe ?_;refine ns ?_;refine If (fun hB=>?_) fun hB=>?_
   ·have agZ:kc g=13:=by
      unfold kc;rw[ap (by omega),aE ⟨(i:Int),by omega,by omega,fun q=>by rw[au.2 q] at hB;simp at hB⟩]
    refine rg ?_;refine aM ?_;refine ns ?_;refine ab.ret ?_;refine c' ?_;first
      |(have c:=hB
        rw[<-agZ];exact⟨_,rfl,rfl,dr.trans cE⟩)
      |(rw[<-rl]
        exact⟨_,rfl,rfl,Bp.trans jN⟩)
   ·refine aj ?_;refine ab.skip ?_;refine rg ?_;refine I V.ah ?_;refine I V.bx ?_;refine I V.aA ?_;refine a8 ?_;refine cA ⟨i+1,_⟩ ?_;refine⟨by omega,fun p aa ae=>?_,dr.trans cE⟩;by_cases q:p<i;(exact bB p aa q);(obtain rfl:p=i:=by omega);(exact au.1 (by simpa using hB))
  ·have rl:kc g=0:=by
    unfold kc;rw[ap (by omega),ap (fun⟨p,aa,ae,aG⟩=>aG (bB p aa (by omega)))]
   refine aj ?_;refine ab.exit ?_;refine rg ?_;refine I V.c8 ?_;refine cl (G:=Rb (aq.mono dr) dn i2 dt.nodes) (h:=?_);rintro v m' eZ cE ⟨bs,cs,rfl,rfl,_,jO⟩;refine I V.aA ?_;refine a8 ?_;obtain⟨_,lY⟩:=jO.at;have k':(gC g).length=g.is.length:=uG;have Bp:=dr.trans cE;refine rg ?_;refine I V.aA ?_;refine bj ?_;refine I V.aA ?_;refine ns ?_;refine ab.block ?_;refine' ab.c2 (l':=[(6,(.slice none 0 0)),(7,.int .i64 ((0):Int)),(1,_),(5,_)]) ⟨?nn,?yc,rfl,rfl,trivial⟩ (bA _) ?_;case nn=>exact bS
   case yc=>exact bS
   refine aj ?_;refine' ab.dF (fun(bH:Nat×(List (Int×Int))×Value×aO×aI)=>match bH with|(k,s,v,aY,pa)=>⟨[(6,v),(7,.int .i64 (k:Int))],aY++[(bo,.row (iq g aT aQ aL ci) 27)],pa,k<=g.is.length/\s.length=k/\Acc 144 2 v s.length (ib s) aY/\eZ.le pa,g.is.length -k⟩) ⟨0,[],.slice none 0 0,[],eZ⟩ ?af ?bE
   case af=>exact⟨cB _,rfl,.nil,aI.le.refl _⟩
   case bE=>
    rintro⟨k,s,v,aY,pa⟩ hinv;try simp only at hinv
    obtain⟨aU,asS,cw,jN⟩:=hinv;refine rg ?_;refine aM ?_;refine I V.aF ?_;refine I V.bP ?_;refine I V.a1 ?_;refine ns ?_;refine If (fun ny=>?_) fun ny=>?_
    ·have nH:=aq.mono (Bp.trans jN);obtain⟨_,kt⟩:=nH.i.at;obtain⟨FJ,Iq,Gd,Gn,rfl,lU,tY⟩:=lY (by omega);obtain⟨z,vh,af,vC,l2,abx,je,rfl,Ec⟩:=tY k (by omega) (by omega);have sC:=l2 0 _ (by decide) rfl;obtain⟨ha,jk,vf,vm,rfl,mu,lZ⟩:=kt (by omega);obtain⟨y,wT,ai,tU,l1,rfl⟩:=lZ k (by omega) (by omega);have KC:=l1 0 _ (by decide) rfl;rw[cy] at af ai;have lE:z=eJ (k:Int) 0 g.ns:=by rw[sW (by omega)] at af;injection af with af;exact af.symm
     have kN:z≠[]:=dt.Ra z (cd af);have PJ:0<z.length:=Fw.2 kN;have lC:∀x∈z,∃c:Nat,x=(c:Int)/\c<g.ns.length:=fun x U=>by
        rw[lE] at U;obtain⟨c,aa,z,ae,_⟩:=Q' U;exact⟨c,aa,(dX.1 ae).1⟩
     have lU:=jN _ _ lU;have j':=Ec.iB [];obtain⟨S0,Lp,TR,rfl,zj,Bo⟩:=j' PJ;obtain⟨kG,ky,Hq⟩:=Bo 0 (by omega) (by omega);obtain⟨es,n5⟩:=zj.LF;have n5:=jN _ _ n5;obtain⟨dU,ho,DR⟩:=lC kG (cd ky);subst ho;refine c5 ?_;refine aj ?_;refine ab.block ?_;refine aj ?_;refine ab.draw rfl (by kernel_rfl) (bf:=[.val 0,.val 1,.val 2,.val 3,.val 4,.val 5,.val 6,.val 7,.val 8,.val 9,.val 10,.val 11,.val 12,.bV 13,.val 14]) (by kernel_rfl) ?_;refine an rfl V.c8 ?_;refine cq ?_;refine an rfl V.aX ?_;refine an rfl V.aF ?_;refine an rfl V.aX ?_;refine an rfl V.aF ?_;refine an rfl V.bc ?_;refine an rfl V.aF ?_;refine an rfl V.ah ?_;refine an rfl V.aX ?_;refine an rfl V.bc ?_;refine an rfl V.aF ?_;refine dl rfl (G:=II nH dt DR) (h:=?_);rintro v m' kh dV ⟨r',sf,dd,rfl,rfl,_,hw⟩;refine an rfl V.aA ?_;refine a7.nil ?_;obtain⟨_,ahI⟩:=hw.at;have asW:(gF g (gA g) y.1 dU).length<=2000:=by have:=zD (g:=g) (P:=gA g) (p:=y.1) dU dU (cZ _);unfold gF jU;rw[uT,mc];omega
     refine ab.gB (m':=(dd,_)::(aY++_)) (.refl _) ?_;refine rg ?_;refine I V.jL ?_;refine' W.step rfl (.of (e4 rfl rfl rfl (apJ Q g0) rfl rfl rfl fun a9=>?_));refine dN ?_;refine bj ?_;refine aM ?_;refine I V.a1 ?_;refine ns ?_;refine If (fun tn=>?_) fun tn=>?_
     ·obtain⟨mh,iW,oD,ex,rfl,rc,ia⟩:=ahI (by omega);obtain⟨wl,AK,xH,ag7,VM,rfl⟩:=ia (((gF g (gA g) y.1 dU).length:Int) -1) (by omega) (by omega);have ahW:=VM 0 _ (by decide) rfl;have asp:=VM 1 _ (by decide) rfl;refine aj ?_;refine ab.draw rfl (by kernel_rfl) (bf:=[.val 0,.val 1,.val 2,.val 3,.val 4,.val 5,.val 6,.val 7,.val 8,.val 9,.val 10,.val 11,.val 12,.val 13,.val 14,.bV 15]) (by kernel_rfl) ?_;refine cq ?_;refine an rfl V.bx ?_;refine an rfl V.aX ?_;refine an rfl V.KZ ?_;refine an rfl V.aF ?_;refine cq ?_;refine an rfl V.bx ?_;refine an rfl V.aX ?_;refine an rfl V.KZ ?_;refine an rfl V.aF ?_;refine an rfl V.jL ?_;refine kW rfl ?_;refine a7.nil ?_;refine rg ?_;refine I V.ah ?_;refine I V.c8 ?_;refine jw (LS Q g0) fun JB=>?_;refine' W.step rfl (.of (kf rfl rfl rfl rfl rfl rfl (LS Q g0) (ZA Q g0) (fun i q=>by cases q) ?cw ?hm ?U ?cr ?cc ?av fun I5 xR G7=>?_));case cw=>assumption
      case hm=>exact sU
      case U=>exact hP
      case cr=>first|rfl|(simp;done)|(simp;omega)
      case cc=>first|rfl|exact hg _
      case av=>exact cf
      refine I V.aA ?_;refine bj ?_;refine I V.ah ?_;refine I V.bx ?_;refine I V.aA ?_;refine a8 ?_;refine cA ⟨k+1,s++[wl],I5,xR,_⟩ ?_ (hm:=pX (l₁:=xR) (l₂:=xR) (.refl _) (.cons _ (.cons _ (.cons _ (.refl _)))));exact⟨by omega,by simp;omega,G7.uJ (by simp) (by rw[EO];rfl),jN.trans dV⟩
     ·refine aj ?_;refine ab.skip ?_;refine rg ?_;refine I V.ah ?_;refine I V.c8 ?_;refine jw (LS Q g0) fun JB=>?_;refine' W.step rfl (.of (kf rfl rfl rfl rfl rfl rfl (LS Q g0) (ZA Q g0) (fun i q=>by cases q) ?cw ?hm ?U ?cr ?cc ?av fun I5 xR G7=>?_));case cw=>assumption
      case hm=>exact sU
      case U=>exact hP
      case cr=>first|rfl|(simp;done)|(simp;omega)
      case cc=>first|rfl|exact hg _
      case av=>exact cf
      refine I V.aA ?_;refine bj ?_;refine I V.ah ?_;refine I V.bx ?_;refine I V.aA ?_;refine a8 ?_;refine cA ⟨k+1,s++[(-1,-1)],I5,xR,_⟩ ?_ (hm:=pX (l₁:=xR) (l₂:=xR) (.refl _) (.cons _ (.cons _ (.cons _ (.refl _)))));exact⟨by omega,by simp;omega,G7.uJ (by simp) (by rw[EO];rfl),jN.trans dV⟩
    ·refine aj ?_;refine ab.exit ?_;refine rg ?_;refine aM ?_;refine ns ?_;refine ab.ret ?_;refine c' ?_;first
        |(rw[<-rl]
          exact⟨_,rfl,rfl,Bp.trans jN⟩)
end
end
end Go.Opn

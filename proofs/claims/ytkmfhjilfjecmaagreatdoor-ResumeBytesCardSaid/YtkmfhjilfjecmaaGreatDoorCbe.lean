/- A part of the proof of ResumeBytes. -/
import Derived.Test.YtkmfhjilfjecmaaGreatDoorCbd
import Derived.Test.YtkmfhjilfjecmaaGreatDoorCaw
set_option maxRecDepth 100000
set_option maxHeartbeats 4000000
set_option linter.unusedVariables false
set_option linter.unusedSimpArgs false
namespace Go.Opn
noncomputable section
open Go.Cre Go.RowKit Go.Proofs
def qL(g:bq)(i:Nat):List (List Int):=(List.range g.is.length).map fun(j:Nat)=>eJ (j:Int) 0 (g.ns.take i)
theorem zZ{g:bq}{i:Nat}:(qL g i).length=g.is.length:=by simp[qL]
theorem I6{g:bq}{i j:Nat}(h:j<g.is.length):(qL g i)[j]?=some (eJ (j:Int) 0 (g.ns.take i)):=by
 unfold qL;rw[oF,FJ h];rfl
theorem Zu{g:bq}:qL g 0=List.replicate g.is.length []:=by
 apply lA
 intro j;by_cases a':j<g.is.length
 ·rw[I6 a',C1,aE a'];rfl
 ·rw[fo (by rw[zZ];omega),C1,an a']
theorem Zr{g:bq}:qL g g.ns.length=gC g:=by unfold qL gC;rw[tm]
theorem an7{j:Int}{x:cR}:∀{l:List cR} {n:Nat},eJ j n (l++[x])=eJ j n l++(if x.k=2/\x.i=j then[((n+l.length:Nat):Int)] else[]):=by
 intro l;induction l with
 |nil=>intro n;simp only[k2,eJ,Ax,tn]
 |cons y r aI=>
  intro n;rw[List.cons_append];unfold eJ;rw[aI,show n+1+r.length=n+(y::r).length by rw[jh];omega];split<;>rfl
theorem Zn{g:bq}{j:Int}{i:Nat}{x:cR}(U:g.ns[i]?=some x):eJ j 0 (g.ns.take (i+1))=eJ j 0 (g.ns.take i)++(if x.k=2/\x.i=j then[(i:Int)] else[]):=by
 have ao:=(dY.1 U).1;rw[nY,U];show eJ j 0 (g.ns.take i++[x])=_;rw[an7,iu,mu (by omega),lC]
theorem Zs{g:bq}{i:Nat}{x:cR}(U:g.ns[i]?=some x)(aO:x.k≠2):qL g (i+1)=qL g i:=by
 unfold qL;congr 1
 funext j
 rw[Zn U,an (fun q=>aO q.1),gj]
theorem Zt{g:bq}{i:Nat}{x:cR}(U:g.ns[i]?=some x)(aO:x.k=2)(bw:0<=x.i)(aa:x.i<g.is.length):qL g (i+1)=(qL g i).set x.i.toNat (eJ x.i 0 (g.ns.take i)++[(i:Int)]):=by
 apply lA
 intro j;rw[kJ,zZ];by_cases a':j<g.is.length
 ·rw[I6 a',I6 a',Zn U]
  by_cases q:x.i.toNat=j
  ·rw[aE ⟨aO,by omega⟩,aE q,aE (by omega),show(j:Int)=x.i by omega]
  ·rw[an (fun r=>q (by omega)),an q,gj]
 ·rw[fo (by rw[zZ];omega),fo (by rw[zZ];omega),an (by omega)]
theorem Mf{j:Int}:∀{l:List cR} {n:Nat},(eJ j n l).length<=l.length:=by
 intro l;induction l with
 |nil=>intro n;exact cW _
 |cons y r aI=>
  intro n;have:=aI (n:=n+1);unfold eJ;split<;>(simp only[jh];omega)
section
variable {Q:dD Tryz.prog}{g0:Nat}{J:aH}
abbrev sy(ad:Nat)(d:Int):Nat×cC:=(ad,.row [.int .i64 d] 3)
abbrev GD(xe:Int)(es:List gu):Int:=es.foldl (fun m e=>max m e.2.1) xe
theorem anV{g:bq}{aT aK:Option Addr}{aQ ci:Nat}{ad:Nat}(aq:fH J g aT aQ aK ci)(de:g.ns.length<=2000)(av:∀x∈g.ns,x.ak.length<=60):∀(f a:Nat) (kF d xe:Int),g.ns.length<a+f->a<=g.ns.length->0<=d->d<=a->
 Fn (bd Q g0) 74 [hb g aT aQ aK ci,.int .i64 (a:Int),.int .i64 d,.pointer (some ⟨ad,0,none⟩)] [sy ad xe] J (fun u m' af=>J=af/\∃Uw r,m'=[sy ad Uw]/\u=.int .i64 r/\match dN g.ns f kF d a with
  |none=>r=-1
  |some (bX,es)=>r=(bX:Int)/\Uw=GD xe es):=by
 obtain⟨_,fE⟩:=aq.n.at;have fX:addrEq aK aK=true:=aq.i.addr;have gq:addrEq aT aT=true:=aq.n.addr;intro f;induction f with
 |zero=>intro a kF d xe aa ae;omega
 |succ f aI=>
 intro a kF d xe aD a1 ud ahO;refine Fn.cH (cM Tryz.func74) rfl rfl fun H=>?_;refine rg ?_;refine dK fun a4=>?_;refine I V.az ?_;refine bi ?_;refine aM ?_;refine I V.aG ?_;refine I V.bL ?_;refine I V.aZ ?_;refine ns ?_;refine If (fun re=>?_) fun re=>?_
 ·refine rg ?_;refine I V.az ?_;refine ns ?_;refine ab.ret ?_;refine'⟨.inr rfl,rfl,_,[sy ad _],.tmp rfl .nil,(by first|exact .cons _ (.refl _)|exact .cons_cons _ (h5 _)),?_⟩;refine⟨rfl,_,_,rfl,rfl,?_⟩;first
   |(have c:=re;rw[show dN g.ns (f+1) kF d a=none by unfold dN;rw[fo (by omega)]])
   |(rw[eo (by omega)] at fs
     rw[Ac lS fs];exact⟨rfl,vM⟩)
 ·obtain⟨FX,off,cells,bz,rfl,mC,ec⟩:=fE (by omega);obtain⟨x,cs,U,gU,iz,ei⟩:=ec a (by omega) (by omega);obtain⟨b1,c1,b2,c2,b3,c3,rfl,eG,gM,gA⟩:=ei;have zk:=iz 3 _ (by decide) rfl;have lS:g.ns[a]?=some x:=by simpa using U
  have aj7:=av x (cb lS);have kf:=eG.iH [];refine ln ?_;refine aM ?_;refine I V.aG ?_;refine I V.ag ?_;refine' W.step rfl (Exec.val rfl rfl (Mz rfl rfl rfl rfl rfl) ?_);refine I V.pb ?_;refine dC ?_;refine bi ?_;refine I V.ag ?_;refine I V.bt ?_;refine I V.az ?_;refine bi ?_;refine I V.az ?_;refine ns ?_;refine ab.block ?_;refine aj ?_;refine ab.gN (List.Perm.swap _ _ _) ?_;refine' ab.c0 (l':=[(9,.int .i64 ((a+1):Int)),(10,.int .i64 ((0):Int)),(1,_),(2,_),(3,_),(4,_)]) ⟨?p3,?p1,rfl,rfl,rfl,rfl,trivial⟩ (bu _) ?_;case p3=>exact bP
  case p1=>exact bP
  refine aj ?_;refine' ab.dF (fun(bC:Nat×Nat×(List gu)×Int)=>match bC with|(k,cur,es,d1)=>⟨[(9,.int .i64 (cur:Int)),(10,.int .i64 (k:Int))],[sy ad d1,(a4,.row (iw g (some ⟨FX,off,none⟩) aQ aK ci) 27)],J,k<=x.ak.length/\hk (dN g.ns f a (d+1)) (x.ak.take k) (a+1)=some (cur,es)/\d1=GD (max xe d) es,x.ak.length -k⟩) ⟨0,a+1,[],max xe d⟩ ?hs ?bA
  case hs=>exact⟨cy _,rfl,rfl⟩
  case bA=>
   rintro⟨k,cur,es,d1⟩ hinv;try simp only at hinv
   obtain⟨aO,fs,vM⟩:=hinv;refine rg ?_;refine aM ?_;refine I V.aG ?_;refine I V.ag ?_;refine I V.aW ?_;refine I V.ba ?_;refine I V.aG ?_;refine I V.bL ?_;refine I V.aZ ?_;refine ns ?_;refine If (fun ps=>?_) fun ps=>?_
   ·obtain⟨a5,auq,arv,rfl,lh,ah'⟩:=kf (by omega);obtain⟨R2,H8,e4⟩:=ah' k (by omega) (by omega);have qt:x.ak[k]?=some R2:=by simpa using H8
    obtain⟨xz,jv,oX⟩:=AQ (fun p q r s=>qP _ _ _ p q r s) fs (by omega);refine c7 ?_;refine aj ?_;refine ab.block ?_;refine rg ?_;refine I V.ba ?_;refine I V.aG ?_;refine I V.ag ?_;refine I V.aW ?_;refine I V.ba ?_;refine I V.aG ?_;refine I V.ag ?_;refine I V.aW ?_;refine' W.step rfl (Exec.val rfl rfl (gP rfl rfl ?aw (ho (eW rfl) ?ay)) ?_);case aw=>exact lh.sub (fun _ q=>by cases q)
    case ay=>first|rfl|assumption
    refine I V.ag ?_;refine I V.aZ ?_;refine ns ?_;refine If (fun ty=>?_) fun ty=>?_
    ·refine rg ?_;refine I V.az ?_;refine ns ?_;refine ab.ret ?_;refine'⟨.inr rfl,rfl,_,[sy ad _],.tmp rfl .nil,(by first|exact .cons _ (.refl _)|exact .cons_cons _ (h5 _)),?_⟩;refine⟨rfl,_,_,rfl,rfl,?_⟩;first
       |(have c:=re;rw[show dN g.ns (f+1) kF d a=none by unfold dN;rw[fo (by omega)]])
       |(have c:=ty;rw[uM lS (tD (k:=k+1) (by rw[rh fs qt,aE ty]))])
       |(rw[eo (by omega)] at fs
         rw[Ac lS fs];exact⟨rfl,vM⟩)
    ·refine aj ?_;refine ab.skip ?_;refine rg ?_;refine I V.c9 ?_;refine aM ?_;refine I V.bt ?_;refine I V.ag ?_;refine' W.step rfl (Exec.call rfl rfl rfl rfl rfl rfl rfl (bf:=[sy ad d1]) (bM:=[_]) (.refl _) trivial (aI cur a (d+1) d1 (by omega) jv (by omega) (by omega)) ?_);rintro v m' af hle ⟨rfl,d2,ed,rfl,rfl,hm⟩;refine I V.az ?_;refine bi ?_;refine I V.ag ?_;refine I V.aZ ?_;refine ns ?_;refine If (fun TY=>?_) fun TY=>?_
     ·refine rg ?_;refine I V.az ?_;refine ns ?_;refine ab.ret ?_;refine'⟨.inr rfl,rfl,_,[sy ad _],.tmp rfl .nil,(by first|exact .cons _ (.refl _)|exact .cons_cons _ (h5 _)),?_⟩;refine⟨rfl,_,_,rfl,rfl,?_⟩;first
       |(have c:=re;rw[show dN g.ns (f+1) kF d a=none by unfold dN;rw[fo (by omega)]])
       |(have c:=ty;rw[uM lS (tD (k:=k+1) (by rw[rh fs qt,aE ty]))])
       |(have c:=TY
         have:dN g.ns f a (d+1) cur=none:=by
             cases ee:dN g.ns f a (d+1) cur with
             |none=>rfl
             |some p=>obtain⟨bX,aL⟩:=p;rw[ee] at hm;simp only at hm;omega
         rw[uM lS (tD (k:=k+1) (by rw[rh fs qt,this];split<;>rfl))])
       |(rw[eo (by omega)] at fs
         rw[Ac lS fs];exact⟨rfl,vM⟩)
     ·obtain⟨bX,aL,ee,aiM,xE⟩:∃bX aL,dN g.ns f a (d+1) cur=some (bX,aL)/\ed=(bX:Int)/\d2=GD d1 aL:=by
       cases ee:dN g.ns f a (d+1) cur with
       |none=>rw[ee] at hm;simp only at hm;omega
       |some p=>obtain⟨bX,aL⟩:=p;rw[ee] at hm;exact⟨bX,aL,rfl,hm.1,hm.2⟩
      subst xE;refine ln ?_;refine I V.ag ?_;refine I V.bt ?_;refine I V.az ?_;refine a6 ?_;refine cB ⟨k+1,bX,es++aL,GD d1 aL⟩ ?_;exact⟨by omega,by rw[rh fs qt,an (by omega),ee],by rw[vM];simp[GD,JF]⟩
   ·refine aj ?_;refine ab.exit ?_;refine rg ?_;refine aM ?_;refine ns ?_;refine ab.ret ?_;refine'⟨.inr rfl,rfl,_,[sy ad _],.tmp rfl .nil,(by first|exact .cons _ (.refl _)|exact .cons_cons _ (h5 _)),?_⟩;refine⟨rfl,_,_,rfl,rfl,?_⟩;first
     |(have c:=re;rw[show dN g.ns (f+1) kF d a=none by unfold dN;rw[fo (by omega)]])
     |(rw[eo (by omega)] at fs
       rw[Ac lS fs];exact⟨rfl,vM⟩)
end
theorem X4{l:List Value}{j k:Nat}{v:Value}(h:l[j]?=some v)(aO:k=j:=by omega):nth l k=some v:=by subst aO;rw[kE];exact h
theorem ZA{l:List Value}{j k:Nat}{v:Value}(h:j<l.length)(aO:k=j:=by omega):gg k l [v]=some (l.set j v):=by
 subst aO;rw[Cy _ _ _ (by simp;omega),JL,aE h];simp
section
variable {Q:dD Tryz.prog}{g0:Nat}{J:aH}
theorem Rz{g:bq}{aT aK:Option Addr}{aQ ci:Nat}(aq:fH J g aT aQ aK ci)(de:g.ns.length<=2000)(i2:g.is.length<=200)(aP:∀x∈g.ns,eu g x=0):
 Fn (bd Q g0) 75 [hb g aT aQ aK ci] [] J (fun u m' af=>∃b c,u=.slice b (gC g).length c/\m'=[]/\J.le af/\fc af 22 1 (jW af) (.slice b (gC g).length c) (gC g)):=by
 obtain⟨_,fE⟩:=aq.n.at;have fX:addrEq aK aK=true:=aq.i.addr;have gq:addrEq aT aT=true:=aq.n.addr;refine Fn.cH (cM Tryz.func75) rfl rfl fun H=>?_;refine rg ?_;refine dK fun bm=>?_;refine I V.az ?_;refine bi ?_;refine I V.ba ?_;refine I V.aG ?_;refine I V.bL ?_;refine' W.step rfl (.of (p4 rfl rfl rfl rfl rfl (nt Q g0) ?bw ?aa ?ae fun a9=>?_));case bw=>exact cc
 case aa=>exact cc
 case ae=>exact cc
 refine I V.az ?_;refine a6 ?_;rw[CR,cx];refine rg ?_;refine I V.az ?_;refine ns ?_;refine ab.block ?_;refine' ab.c0 (l':=[(4,.int .i64 ((0):Int)),(1,_),(3,_)]) ⟨?j4,rfl,rfl,trivial⟩ (bu _) ?_;case j4=>exact bP
 refine aj ?_;refine' ab.dF (fun(bC:Nat×(List Value)×(List aN)×aN)=>match bC with|(i,vs,h3,sE)=>⟨[(4,.int .i64 (i:Int))],(a9,.row vs 22)::(sE++[(bm,.row (iw g aT aQ aK ci) 27)]),J,i<=g.ns.length/\qR 3 (qL g i) vs h3/\sE=h3.flatten,g.ns.length -i⟩) ⟨0,List.replicate g.is.length (.slice none 0 0),List.replicate g.is.length [],[]⟩ ?hs ?bA
 case hs=>exact⟨cy _,by rw[Zu];exact qR.init _,U4.symm⟩
 case bA=>
  rintro⟨i,vs,h3,sE⟩ hinv;try simp only at hinv
  obtain⟨ao,gK,h1⟩:=hinv;refine rg ?_;refine aM ?_;refine I V.aG ?_;refine I V.bL ?_;refine I V.aZ ?_;refine ns ?_;refine If (fun lF=>?_) fun lF=>?_
  ·obtain⟨a,off,cells,bz,rfl,mC,ec⟩:=fE (by omega);obtain⟨x,cs,U,gU,_,ei⟩:=ec i (by omega) (by omega);obtain⟨b1,c1,b2,c2,b3,c3,rfl,eG,gM,gA⟩:=ei;rw[cx] at U;have e5:=U;have e4:=aP x (cb e5);refine c7 ?_;refine aj ?_;refine ab.block ?_;refine rg ?_;refine I V.ba ?_;refine I V.aG ?_;refine I V.ag ?_;refine I V.aW ?_;refine I V.c9 ?_;refine' W.step rfl (.of (eT rfl rfl rfl (oB Q g0) rfl rfl rfl fun a5=>?_));refine dC ?_;refine bi ?_;refine I V.ba ?_;refine I V.aG ?_;refine I V.aZ ?_;refine ns ?_;refine If (fun mU=>?_) fun mU=>?_
   ·have ui:=IF e4 (by simpa using mU);obtain⟨v,aY,Qh,PF,cw⟩:=gK.get (I6 (g:=g) (i:=i) (j:=x.i.toNat) (by omega));rw[show((x.i.toNat:Nat):Int)=x.i by omega] at cw;obtain⟨bv,gJ,rfl⟩:=cw.form;have Cn:=cw.addr;have PN:nth vs (0+x.i.toNat*1)=some (.slice bv (eJ x.i 0 (g.ns.take i)).length gJ):=X4 Qh;have hlen:(eJ x.i 0 (g.ns.take i)).length<=2000:=by have:=Mf (j:=x.i) (l:=g.ns.take i) (n:=0);rw[iu] at this;omega
    have rQ:vs.length=g.is.length:=by rw[gK.lv,zZ]
    have PG:h3.length=g.is.length:=by rw[gK.zD,zZ]
    refine aj ?_;refine ab.draw rfl (by kernel_rfl) (bc:=[.val 0,.val 1,.val 2,.val 3,.val 4,.val 5,.val 6,.val 7,.val 8,.gk 9,.cA [8,7,6,5,4,3,2,1,0],.bR 10,.val 11,.cA [2,1,0],.bR 12]) (by kernel_rfl) ?_;refine cq ?_;refine al rfl V.aG ?_;refine cq ?_;refine al rfl V.aG ?_;refine al rfl V.aW ?_;refine al rfl V.aG ?_;refine al rfl V.ag ?_;refine a8.buildSlice rfl rfl rfl rfl rfl rfl (e0 Q g0) rfl rfl rfl fun oI=>?_;refine a8.cA eX ?_;refine' a8.fP rfl rfl (kk rfl rfl rfl rfl rfl rfl (e0 Q g0) (pZ Q g0) (fun i q=>by cases q) ?cw ?hm ?U ?cr ?ca ?av fun aaq XN KN=>?_);case cw=>assumption
    case hm=>exact Da (by rw[h1];exact N7 PF)
    case U=>exact hR
    case cr=>first|rfl|(simp;done)|(simp;omega)
    case ca=>first|rfl|exact hf _
    case av=>exact cc
    obtain⟨abN,hX,rfl⟩:=KN.form;refine al rfl V.aW ?_;refine a8.cA eX ?_;refine' a8.fP rfl rfl (hy rfl rfl rfl rfl (fQ rfl) rfl rfl rfl ?aa ?hs ?au ?_);case au=>repeat first|exact .head _ _ _ _|apply cQ.tail|apply cQ.app
    case hs=>exact ZA (j:=x.i.toNat) (by omega)
    case aa=>first|rfl|assumption
    refine a8.nil ?_;first
      |(have BM:=KN;refine ab.gN (Da (Kw (j:=x.i.toNat) (l:=h3) (by omega))) ?_)
      |skip
    refine rg ?_;refine I V.ag ?_;refine I V.bt ?_;refine I V.az ?_;refine a6 ?_;refine cB ⟨i+1,vs.set x.i.toNat _,h3.set x.i.toNat XN,(h3.set x.i.toNat XN).flatten⟩ ?_ (hm:=.cons _ (.cons _ (.refl _)));refine⟨by omega,?_,rfl⟩;rw[Zt e5 (by simpa using mU) ui.1 ui.2.1];exact gK.set (by simpa using KN)
   ·refine aj ?_;refine ab.skip ?_;first
      |(have BM:=KN;refine ab.gN (Da (Kw (j:=x.i.toNat) (l:=h3) (by omega))) ?_)
      |skip
    refine rg ?_;refine I V.ag ?_;refine I V.bt ?_;refine I V.az ?_;refine a6 ?_;refine cB ⟨i+1,vs,h3,sE⟩ ?_ (hm:=.cons _ (.refl _));refine⟨by omega,by rw[Zs e5 (by simpa using mU)];exact gK,h1⟩
  ·refine aj ?_;refine ab.exit ?_;have hi':i=g.ns.length:=by omega
   rw[hi',Zr] at gK;refine ab.YM gK (m0:=(a9,.row vs 22)::[(bm,.row (iw g aT aQ aK ci) 27)]) (by rw[h1];exact List.perm_middle.symm) fun e2 cF bx=>?_;refine ab.mJ rfl fun dU=>?_;have kw:=UG (aH.oL e2 a9 (vs,22)) gK.lv (by rw[uI];unfold cZ;omega) fun j s v aa ae=>(bx j s v aa ae).mono dU;refine rg ?_;refine aM ?_;refine ns ?_;refine ab.ret ?_;refine c5 ?_;exact⟨some ⟨a9,0,none⟩,(gC g).length,by rw[uI];rfl,rfl,cF.trans dU,kw⟩
end
end
end Go.Opn

/- A part of the proof of TableMetric. -/
import Derived.Test.YtmmfodofkbmfnaaGreatDoorCam
set_option linter.unusedVariables false
set_option linter.unusedSimpArgs false
namespace Go.Cre
noncomputable section
open Go.RowKit
open Classical
def GF(ops:List Oper)(C:Nat)(D:Nat->Bool)(t:Nat):Prop:=∃(i:Nat) (o:Oper),C.testBit i=true/\D i=false/\ops[i]?=some o/\o.dst=some t
def free (ops:List Oper)(C:Nat)(D:Nat->Bool)(t:Nat):Bool:=decide (¬GF ops C D t)
theorem tE{ops:List Oper}{C:Nat}{D:Nat->Bool}{t:Nat}:free ops C D t=true↔¬GF ops C D t:=by unfold free;exact decide_eq_true_iff
structure Good (P:Program) (call:dI) (az:ff) (ops:List Oper) (c7 G:Nat) (OD:Nat) (S:aO) (H:ah) (μ:bm) (D:Nat->Bool) (A:Nat->Nat) (i:Nat) (o:Oper) (b:Bool):Prop where
 g:eI ops S.T o=some b
 lt:∀t,o.dst=some t->t<S.n/\∃u,S.T.get t=some u
 no:b=false->∀t,o.dst=some t->S.T.get t=some undef
 val:b=true->c7.testBit i=false->G.testBit i=true->∃v,cc P call az S H o=some (.val v H)/\∀t,o.dst=some t->S.T.get t=some v
 kF:b=true->c7.testBit i=true->∃eG dm,kh P S.T o.op=some (eG,dm)/\(∀t,o.dst=some t->S.T.get t=some (dm.at (A i)))/\
  (D i=false->μ (A i)=none/\H.bf<=A i/\OD<=A i/\A i<H.av/\H.mem.get (A i)=some eG)
structure Inv (P:Program) (B:Nat->Prop) (w0:World) (call:dI) (az:ff) (ops:List Oper) (bT c7:Nat) (hE:bm) (H0:ah) (ha:aO) (fr:Frame) (hT:List Frame)
 (C K G:Nat) (S:aO) (H:ah) (μ:bm) (w:World) (tmps:Array Value) (ds:List Deferred) (cs:List Frame) (D:Nat->Bool) (A:Nat->Nat):Prop where
 h:bz P B w0 μ H w
 f:fZ μ (S.only (free ops C D)) fr tmps ds cs
 iR:Step hE μ H0 H
 vo:hF ha.bu hT cs
 bu:S.bu=ha.bu
 b3:S.b3=ha.b3
 sub:∀i,D i=true->C.testBit i=true
 xP:∀i,C.testBit i=true->∃o,ops[i]?=some o
 down:∀(i:Nat) o aa,D i=true->ops[i]?=some o->(Oper.gK o).testBit aa=true->D aa=true
 vr:∀(i:Nat) o aa,C.testBit i=true->ops[i]?=some o->(Oper.gK o).testBit aa=true->C.testBit aa=true
 k:∀i,K.testBit i=true->D i=true
 tG:∀(i:Nat) o,C.testBit i=true->K.testBit i=false->ops[i]?=some o->bT.testBit i=false/\∃b,Good P call az ops c7 G H0.av S H μ D A i o b
 inj:∀(i aa:Nat) Gu dg,C.testBit i=true->C.testBit aa=true->D i=false->D aa=false->c7.testBit i=true->c7.testBit aa=true->ops[i]?=some Gu->ops[aa]?=some dg->
  eI ops S.T Gu=some true->eI ops S.T dg=some true->A i=A aa->i=aa
section
variable {P:Program}{B:Nat->Prop}{w0 w:World}{μ hE:bm}{H H0 H':ah}{S ha aB:aO}{fr:Frame}{tmps:Array Value}{ds:List Deferred}{cs hT:List Frame}{call:dI}{az:ff}
variable {ops:List Oper}{bT c7 C K G:Nat}{D:Nat->Bool}{A:Nat->Nat}{i:Nat}{o:Oper}
theorem aO.XJ{dst:Option Tmp}{v:Value}(he:S.put dst v=some aB):∀t,dst=some t->t<aB.n/\∃u,aB.T.get t=some u:=fun t aG=>by
 have e:=aO.put_eq he;refine⟨?_,v,by rw[e.2.2.2.2.2,bs aG]⟩;subst aG;obtain⟨T,n,eD,bu,a7,b3⟩:=S;have he:Bool.rec (motive:=fun _=>Option aO) none (aO.oN n eD bu a7 b3 (aL.put v T t)) (Nat.ble (Nat.succ t) n)=some aB:=he;rw[e.1];show t<n;cases af:Nat.ble (Nat.succ t) n with
 |false=>rw[af] at he;cases he
 |true=>exact fV af
theorem fZ.conv{aY e0:aO}(h:fZ μ aY fr tmps ds cs)(aA:e0.n=aY.n)(aW:e0.ds=aY.ds)(cr:e0.bu=aY.bu)(dU:e0.a7=aY.a7)(b5:e0.b3=aY.b3)
 (aG:∀t v,e0.T.get t=some v->aY.T.get t=some v):fZ μ e0 fr tmps ds cs:=
 ⟨⟨by rw[aA];exact h.t.1,fun t v q=>h.t.2 t v (aG t v q)⟩,by rw[aW];exact h.d,by rw[cr];exact h.kind,fun q=>h.pW (b5▸q),fun l q=>h.uM l (b5▸q),fun q=>by rw[dU];exact h.a7 (cr▸q)⟩
theorem sG{p:Nat->Bool}{t:Nat}{v:Value}:(S.only p).T.get t=some v↔p t=true/\S.T.get t=some v:=by
 show(S.T.eN p).get t=some v↔_;rw[aL.Ej];cases p t<;>simp
theorem Good.move{kC:Nat}{a4:bm}{HD:Nat->Bool}{lz:Nat->Nat}{b:Bool}(ar:Good P call az ops c7 G H0.av S H μ D A i o b)(aE:aB.n=S.n)(ap:aB.b3=S.b3)
 (aw:∀t∈looks ops o,aB.T.get t=S.T.get t)(ax:∀t,o.dst=some t->aB.T.get t=S.T.get t)
 (da:c7.testBit i=false->kC.testBit i=true->G.testBit i=true/\H'=H)(e3:lz i=A i)
 (Fj:b=true->c7.testBit i=true->HD i=false->D i=false/\(∀eG,hM (some eG)=false->μ (A i)=none/\H.bf<=A i/\H0.av<=A i/\A i<H.av/\H.mem.get (A i)=some eG->a4 (A i)=none/\H'.bf<=A i/\H0.av<=A i/\A i<H'.av/\H'.mem.get (A i)=some eG)):
 Good P call az ops c7 kC H0.av aB H' a4 HD lz i o b:=by
 refine⟨by rw[ob aw];exact ar.g,fun t aG=>?_,fun af t aG=>by rw[ax t aG];exact ar.no af t aG,fun af aK Ez=>?_,fun af aK=>?_⟩
 ·obtain⟨a,b⟩:=ar.lt t aG;exact⟨by rw[aE];exact a,by rw[ax t aG];exact b⟩
 ·obtain⟨b4,rfl⟩:=da aK Ez;obtain⟨v,aA,aW⟩:=ar.val af aK b4;exact⟨v,by rw[A8 ap (Cq aw)];exact aA,fun t aG=>by rw[ax t aG];exact aW t aG⟩
 ·obtain⟨eG,dm,aA,aW,cr⟩:=ar.kF af aK;refine⟨eG,dm,by rw[Ds aw];exact aA,fun t aG=>by rw[ax t aG,e3];exact aW t aG,fun eb=>?_⟩;obtain⟨aQ,aP⟩:=Fj af aK eb;rw[e3];exact aP eG (IC aA) (cr aQ)
theorem quiet(ag:qh ops bT)(au:Inv P B w0 call az ops bT c7 hE H0 ha fr hT C K G S H μ w tmps ds cs D A)(aq:C.testBit i=false)(ae:ops[i]?=some o)(aF:bT.testBit i=false)
 {aa:Nat}{dg:Oper}(aX:C.testBit aa=true\/aa=i)(dW:ops[aa]?=some dg){t:Nat}(aG:t∈looks ops dg):o.dst≠some t:=fun ax=>by
 rcases ag.look i aa o dg t ae dW ax aG with q|⟨q,_⟩
 ·rcases aX with aX|rfl
  ·have:=au.vr aa dg i aX dW q;rw[aq] at this;cases this
  ·have:=ag.down aa dg aa dW q;omega
 ·rw[aF] at q;cases q
theorem R6(h:fits ops C i=true)(ae:ops[i]?=some o):C.testBit i=false/\∀aa,(Oper.gK o).testBit aa=true->C.testBit aa=true:=by
 unfold fits at h;rw[jr,ae] at h;simp only[eT,nT] at h;exact⟨h.1,fun aa aX=>G1 h.2 aX⟩
theorem Sb(eb:D i=false)(ae:ops[i]?=some o){t:Nat}(h:free ops (Nat.lor C (Nat.pow 2 i)) D t=true):free ops C D t=true/\o.dst≠some t:=by
 rw[tE] at h;refine⟨tE.2 fun⟨aa,dg,a,b,c,d⟩=>h ⟨aa,dg,iy.2 (.inl a),b,c,d⟩,fun ax=>h ⟨i,o,iy.2 (.inr rfl),eb,ae,ax⟩⟩
theorem FU(ag:qh ops bT)(au:Inv P B w0 call az ops bT c7 hE H0 ha fr hT C K G S H μ w tmps ds cs D A)(ae:ops[i]?=some o)(ay:fits ops C i=true)(aF:bT.testBit i=false)
 {v:Value}{b:Bool}{kC:Nat}{lz:Nat->Nat}(ao:S.put o.dst v=some aB)(ar:eI ops S.T o=some b)(gH:b=false->v=undef)
 (fO:bz P B w0 μ H' w)(dA:Step hE μ H0 H')(ib:H.av<=H'.av)(mB:H'.bf=H.bf)(qJ:∀x,x<H.av->H'.mem.get x=H.mem.get x)
 (e3:∀aa,aa≠i->lz aa=A aa)(da:∀aa,aa≠i->c7.testBit aa=false->kC.testBit aa=true->G.testBit aa=true/\H'=H)
 (uh:b=true->c7.testBit i=false->kC.testBit i=true->cc P call az S H' o=some (.val v H'))
 (EM:b=true->c7.testBit i=true->lz i=H.av/\H'.av=H.av+1/\H0.av<=H.av/\∃eG dm,kh P S.T o.op=some (eG,dm)/\v=dm.at H.av/\H'.mem.get H.av=some eG):
 Inv P B w0 call az ops bT c7 hE H0 ha fr hT (Nat.lor C (Nat.pow 2 i)) K kC aB H' μ w tmps ds cs D lz:=by
 obtain⟨aq,hm⟩:=R6 ay ae;have vM:D i=false:=by
  cases ax:D i with
  |false=>rfl
  |true=>have:=au.sub i ax;rw[aq] at this;cases this
 obtain⟨dG,iN,kw,wS,ra,sK⟩:=aO.put_eq ao;have my:∀{aa:Nat} {dg:Oper},(C.testBit aa=true\/aa=i)->ops[aa]?=some dg->∀t∈looks ops dg,aB.T.get t=S.T.get t:=fun{aa dg} aX dW t aG=>by
  rw[sK,a1 (quiet ag au aq ae aF aX dW aG)]
 refine⟨fO,?_,dA,au.vo,kw.trans au.bu,ra.trans au.b3,fun aa aX=>iy.2 (.inl (au.sub aa aX)),fun aa aX=>?_,au.down,fun aa dg k aX dW hk=>?_,au.k,fun aa dg aX hk dW=>?_,?_⟩
 ·refine au.f.conv dG iN kw wS ra fun t u q=>?_;obtain⟨aQ,aP⟩:=sG.1 q;obtain⟨cJ,cW⟩:=Sb vM ae aQ;rw[sK,a1 cW] at aP;exact sG.2 ⟨cJ,aP⟩
 ·rcases iy.1 aX with q|rfl
  ·exact au.xP aa q
  ·exact⟨o,ae⟩
 ·rcases iy.1 aX with q|rfl
  ·exact iy.2 (.inl (au.vr aa dg k q dW hk))
  ·rw[ae] at dW;injection dW with dW;subst dW
   exact iy.2 (.inl (hm k hk))
 ·by_cases mD:aa=i
  ·subst mD;rw[ae] at dW;injection dW with dW;subst dW
   refine⟨aF,b,?_⟩;refine⟨by rw[ob (my (.inr rfl) ae)];exact ar,aO.XJ ao,fun af t aG=>by rw[sK,bs aG,gH af],fun af aK Ez=>?_,fun af aK=>?_⟩
   ·exact⟨v,by rw[A8 ra (Cq (my (.inr rfl) ae))];exact uh af aK Ez,fun t aG=>by rw[sK,bs aG]⟩
   ·obtain⟨bP,bS,cE,eG,dm,c4,rfl,ey⟩:=EM af aK;refine⟨eG,dm,by rw[Ds (my (.inr rfl) ae)];exact c4,fun t aG=>by rw[sK,bs aG,bP],fun _=>?_⟩;rw[bP];exact⟨au.h.L',by rw[mB];exact au.h.hV,cE,by omega,ey⟩
  ·have aX:C.testBit aa=true:=by
    rcases iy.1 aX with q|q
    ·exact q
    ·exact absurd q.symm mD
   obtain⟨b4,vh,b0⟩:=au.tG aa dg aX hk dW;refine⟨b4,vh,b0.move dG ra (my (.inl aX) dW) (fun t aG=>?_) (da aa mD) (e3 aa mD) fun af aK eb=>⟨eb,fun eG _ ⟨aA,aW,cr,dU,b5⟩=>⟨aA,by rw[mB];exact aW,cr,by omega,by rw[qJ _ dU];exact b5⟩⟩⟩;rw[sK,a1 (fun q=>ag.dst i aa o dg t ae dW (Ne.symm mD) q aG)]
 ·have cx:∀(aa:Nat) dg,C.testBit aa=true->D aa=false->c7.testBit aa=true->ops[aa]?=some dg->eI ops S.T dg=some true->A aa<H.av:=fun aa dg aX eb aK dW EY=>by
   have hk:K.testBit aa=false:=by
    cases hk:K.testBit aa with
    |false=>rfl
    |true=>have:=au.k aa hk;rw[eb] at this;cases this
   obtain⟨_,vh,b0⟩:=au.tG aa dg aX hk dW;have e:=b0.g;rw[EY] at e;injection e with e;subst e
   obtain⟨eG,dm,_,_,q⟩:=b0.kF rfl aK;exact(q eb).2.2.2.1
  intro x y q' wR j aC tI pp tP tQ ns mG nq mC dy;by_cases hg:x=i
  ·by_cases pC:y=i
   ·rw[hg,pC]
   ·exfalso;subst hg;rw[ae] at ns;injection ns with ns;subst ns
    rw[ob (my (.inr rfl) ae),ar] at nq;injection nq with nq;subst nq
    have aC:C.testBit y=true:=by
     rcases iy.1 aC with q|q
     ·exact q
     ·exact absurd q.symm pC
    rw[ob (my (.inl aC) mG)] at mC;have:=cx y wR aC pp tQ mG mC;rw[(EM rfl tP).1,e3 y pC] at dy;omega
  ·have gr:C.testBit x=true:=by
    rcases iy.1 j with q|q
    ·exact q
    ·exact absurd q.symm hg
   rw[ob (my (.inl gr) ns)] at nq;by_cases pC:y=i
   ·exfalso;subst pC;rw[ae] at mG;injection mG with mG;subst mG
    rw[ob (my (.inr rfl) ae),ar] at mC;injection mC with mC;subst mC
    have:=cx x q' gr tI tP ns nq;rw[(EM rfl tQ).1,e3 x hg] at dy;omega
   ·have aC:C.testBit y=true:=by
     rcases iy.1 aC with q|q
     ·exact q
     ·exact absurd q.symm pC
    rw[ob (my (.inl aC) mG)] at mC;rw[e3 x hg,e3 y pC] at dy;exact au.inj x y q' wR gr aC tI pp tP tQ ns mG nq mC dy
theorem Step.new(dA:Step hE μ H0 H){b:ef}{a:Nat}(aE:H.new b=some (a,H')):Step hE μ H0 H':=by
 obtain⟨rfl,aA,aW,cr,dU,b5⟩:=ah.l3 aE;refine⟨dA.ext,by have:=dA.av;omega,by rw[dU];exact dA.bf,fun id tW hm=>?_⟩;obtain⟨a,b⟩:=dA.eN id tW hm;exact⟨a,fun ae=>by rw[b5,a1 (by have:=dA.av;omega)];exact b ae⟩
theorem I1(ag:qh ops bT)(tO:∀(i:Nat) o,ops[i]?=some o->c7.testBit i=false->sr o.op=false){cD:cS}:∀(a6:List g9) (C G:Nat) (S:aO) (H:ah) (A:Nat->Nat),
 Inv P B w0 call az ops bT c7 hE H0 ha fr hT C K G S H μ w tmps ds cs D A->ky ops bT c7 C K G a6=true->dt P call az ops a6 S H=some cD->
 ∃mT p5 kC aB H' lz,Inv P B w0 call az ops bT c7 hE H0 ha fr hT p5 K kC aB H' μ w tmps ds cs D lz/\ky ops bT c7 p5 K kC mT=true/\dt P call az ops mT aB H'=some cD/\
  (mT=[]\/∃i rest,mT=.bZ i::rest):=by
 intro a6;induction a6 with
 |nil=>intro C G S H A au ao he;exact⟨[],C,G,S,H,A,au,ao,he,.inl rfl⟩
 |cons s a6 aN=>
  intro C G S H A au ao he;have he:I8 P call az ops (dt P call az ops a6) S H s=some cD:=he;cases s with
  |bZ i=>exact⟨.bZ i::a6,C,G,S,H,A,au,ao,he,.inr ⟨i,a6,rfl⟩⟩
  |cq l=>
   simp only[ky,eT] at ao;have aD:=Pj ao.1;have he:(bif l.all (qt P call az ops S H) then dt P call az ops a6 S H else none)=some cD:=he;cases aw:l.all (qt P call az ops S H) with
   |false=>rw[aw] at he;cases he
   |true=>
    rw[aw,bH] at he;rw[o2] at aw;refine aN C (Nat.lor G (ur l)) S H A ?_ ao.2 he;refine⟨au.h,au.f,au.iR,au.vo,au.bu,au.b3,au.sub,au.xP,au.down,au.vr,au.k,fun aa dg aX hk dW=>?_,au.inj⟩;obtain⟨b4,b,b0⟩:=au.tG aa dg aX hk dW;refine⟨b4,b,b0.g,b0.lt,b0.no,fun af aK da=>?_,b0.kF⟩;rw[sU,ru,VR] at da;rcases da with da|da
    ·exact b0.val af aK da
    ·have aF:=aw aa da;unfold qt at aF;rw[jr,dW] at aF;simp only at aF;rw[b0.g,af] at aF;have g2:AV H.av S.T dg.dst (cc P call az S H dg)=true:=aF;cases fo:cc P call az S H dg with
     |none=>rw[fo] at g2;cases g2
     |some r=>
      rw[fo] at g2;cases r with
      |val v bG=>
       have g2:(Nat.beq bG.av H.av&&(match dg.dst with|none=>true|some d=>(match S.T.get d with|some u=>ee 8 v u|none=>false)))=true:=g2
       simp only[eT] at g2;have k5:bG=H:=Jt (ag.bZ aa dg dW b4) (tO aa dg dW aK) fo (dB g2.1);refine⟨v,by rw[k5],fun t aG=>?_⟩;have oj:(match dg.dst with|none=>true|some d=>(match S.T.get d with|some u=>ee 8 v u|none=>false))=true:=g2.2
       rw[aG] at oj;simp only at oj;cases cw:S.T.get t with
       |none=>rw[cw] at oj;cases oj
       |some u=>rw[cw] at oj;rw[Z0 oj]
      |skip _=>cases g2
      |fN _=>cases g2
      |hj _ _=>cases g2
      |uI=>cases g2
  |val i=>
   simp only[ky,eT,nT] at ao;obtain⟨⟨⟨ay,aF⟩,aK⟩,ao⟩:=ao;have he:Option.rec (motive:=fun _=>Option cS) none (kA P call az ops S H (dt P call az ops a6)) (nth ops i)=some cD:=he;cases ae:nth ops i with
   |none=>rw[ae] at he;cases he
   |some o=>
    rw[ae] at he;rw[jr] at ae;have he:Option.rec (motive:=fun _=>Option cS) none (NM P call az S H o (dt P call az ops a6)) (eI ops S.T o)=some cD:=he;cases ar:eI ops S.T o with
    |none=>rw[ar] at he;cases he
    |some b=>
     rw[ar] at he
     have fin:∀v,(b=false->v=undef)->(b=true->cc P call az S H o=some (.val v H))->l7 (dt P call az ops a6) H (S.put o.dst v)=some cD->
      ∃mT p5 kC aB H' lz,Inv P B w0 call az ops bT c7 hE H0 ha fr hT p5 K kC aB H' μ w tmps ds cs D lz/\ky ops bT c7 p5 K kC mT=true/\dt P call az ops mT aB H'=some cD/\(mT=[]\/∃i rest,mT=.bZ i::rest):=by
      intro v U ab q;cases jJ:S.put o.dst v with
      |none=>rw[jJ] at q;cases q
      |some aB=>
       rw[jJ] at q;refine aN _ _ aB H A (FU ag au ae ay aF jJ ar U au.h au.iR (c9 _) rfl (fun _ _=>rfl) (fun _ _=>rfl) (fun aa aX _ da=>⟨?_,rfl⟩) (fun af _ _=>ab af) (fun _ h=>by rw[aK] at h;cases h)) ao q;rcases iy.1 da with q|q
       ·exact q
       ·exact absurd q.symm aX
     cases b with
     |false=>exact fin undef (fun _=>rfl) (fun h=>by cases h) he
     |true=>
      have he:xd S H o.dst (dt P call az ops a6) (cc P call az S H o)=some cD:=he;cases fo:cc P call az S H o with
      |none=>rw[fo] at he;cases he
      |some r=>
       rw[fo] at he;cases r with
       |val v bG=>
        have he:(bif Nat.beq bG.av H.av then l7 (dt P call az ops a6) H (S.put o.dst v) else none)=some cD:=he;cases ib:Nat.beq bG.av H.av with
        |false=>rw[ib] at he;cases he
        |true=>
        rw[ib,bH] at he;have k5:bG=H:=Jt (ag.bZ i o ae aF) (tO i o ae aK) fo (dB ib);subst k5;exact fin v (fun h=>by cases h) (fun _=>fo) he
       |skip _=>cases he
       |fN _=>cases he
       |hj _ _=>cases he
       |uI=>cases he
  |kF i=>
   simp only[ky,eT,nT] at ao;obtain⟨⟨⟨ay,aF⟩,aK⟩,ao⟩:=ao;have he:Option.rec (motive:=fun _=>Option cS) none (xI P ops S H (dt P call az ops a6)) (nth ops i)=some cD:=he;cases ae:nth ops i with
   |none=>rw[ae] at he;cases he
   |some o=>
    rw[ae] at he;rw[jr] at ae;have he:Option.rec (motive:=fun _=>Option cS) none (Iz P S H o (dt P call az ops a6)) (eI ops S.T o)=some cD:=he;have JZ:∀aa,aa≠i->c7.testBit aa=false->(Nat.lor (Nat.land G c7) (Nat.pow 2 i)).testBit aa=true->False:=fun aa aX tN da=>by
     rcases iy.1 da with q|q
     ·rw[CM,tN] at q;simp at q
     ·exact aX q.symm
    cases ar:eI ops S.T o with
    |none=>rw[ar] at he;cases he
    |some b=>
     rw[ar] at he;cases b with
     |false=>
      have he:l7 (dt P call az ops a6) H (S.put o.dst undef)=some cD:=he;cases jJ:S.put o.dst undef with
      |none=>rw[jJ] at he;cases he
      |some aB=>
       rw[jJ] at he;exact aN _ _ aB H A (FU ag au ae ay aF jJ ar (fun _=>rfl) au.h au.iR (c9 _) rfl (fun _ _=>rfl) (fun _ _=>rfl) (fun aa aX tN da=>(JZ aa aX tN da).elim) (fun h=>by cases h) (fun h=>by cases h)) ao he
     |true=>
      have he:Dq S H o.dst (dt P call az ops a6) (kh P S.T o.op)=some cD:=he;cases iV:kh P S.T o.op with
      |none=>rw[iV] at he;cases he
      |some q=>
       obtain⟨eG,dm⟩:=q;rw[iV] at he;have he:Dr S o.dst (dt P call az ops a6) dm (H.new eG)=some cD:=he;cases aE:H.new eG with
       |none=>rw[aE] at he;cases he
       |some q=>
        obtain⟨a,H1⟩:=q;rw[aE] at he;obtain⟨Rj,aA,aW,cr,dU,b5⟩:=ah.l3 aE;subst Rj;have kn:l7 (dt P call az ops a6) H1 (S.put o.dst (dm.at H.av))=some cD:=he;cases jJ:S.put o.dst (dm.at H.av) with
        |none=>rw[jJ] at kn;cases kn
        |some aB=>
         rw[jJ] at kn
         refine aN _ _ aB H1 (fun aa=>if aa=i then H.av else A aa) (FU ag au ae ay aF jJ ar (fun h=>by cases h) (au.h.Xq aE (IC iV)) (au.iR.new aE) (by omega) dU (fun x j=>by rw[b5,a1 (by omega)])
          (fun aa aX=>a1 aX) (fun aa aX tN da=>(JZ aa aX tN da).elim) (fun _ h=>by rw[aK] at h;cases h) (fun _ _=>⟨bs rfl,aA,au.iR.av,eG,dm,iV,rfl,by rw[b5,bs rfl]⟩)) ao kn
end
end
end Go.Cre
namespace Go.Cre
noncomputable section
open Go.RowKit
open Classical
section
variable {P:Program}{B:Nat->Prop}{w0 w:World}{μ hE:bm}{H H0 H' H1:ah}{S ha aB aY:aO}{fr:Frame}{tmps:Array Value}{ds:List Deferred}{cs hT:List Frame}{call:dI}{az:ff}
variable {ops:Array Oper}{bT c7 C K G:Nat}{D:Nat->Bool}{A:Nat->Nat}{i:Nat}{o:Oper}{k:List Item}{rest:List Nat}
theorem aL.zP{α:Type}{a v:α}{t:aL α}:∀{n:Nat},t.get n=some v->∃ix,aL.put a t n=some ix:=by
 induction t with
 |leaf=>intro n h;cases h
 |node u l r qW qX=>
  intro n h;cases n with
  |zero=>exact⟨_,rfl⟩
  |succ m=>
   rw[aL.mw] at h;rw[aL.Cw];by_cases hm:m % 2=0
   ·rw[bs hm] at h ⊢;obtain⟨l',e⟩:=qW h;rw[e];exact⟨_,rfl⟩
   ·rw[a1 hm] at h ⊢;obtain⟨cA,e⟩:=qX h;rw[e];exact⟨_,rfl⟩
theorem aO.wV{p:Nat->Bool}{dst:Option Tmp}(h:∀t,dst=some t->t<S.n/\∃u,S.T.get t=some u)(v:Value):∃k1,(S.only p).put dst v=some k1:=by
 cases dst with
 |none=>exact⟨_,rfl⟩
 |some d=>
  obtain⟨U,u,ab⟩:=h d rfl;obtain⟨T,n,eD,bu,a7,b3⟩:=S;show ∃k1,Bool.rec (motive:=fun _=>Option aO) none (aO.oN n eD bu a7 b3 (aL.put v (T.eN p) d)) (Nat.ble (Nat.succ d) n)=some k1;have af:Nat.ble (Nat.succ d) n=true:=jx U;rw[af];obtain⟨rL,aA⟩:=aL.zP (a:=v) ab;obtain⟨aaK,aW⟩:=aL.MF p aA;rw[aW];exact⟨_,rfl⟩
theorem Yb{X:aO}{dst:Option Tmp}{v:Value}{cD:cS}(h:jc X dst v H'=some cD):∃aY,X.put dst v=some aY/\cD=.ok aY H':=by
 unfold jc mV at h;cases ao:X.put dst v with
 |none=>rw[ao] at h;cases h
 |some aY=>rw[ao] at h;have h:some (cS.ok aY H')=some cD:=h;injection h with h;exact⟨aY,rfl,h.symm⟩
theorem MT{X:aO}{dst:Option Tmp}{v:Value}(h:X.put dst v=some aY):jc X dst v H'=some (.ok aY H'):=by
 unfold jc;rw[h];rfl
theorem WO{l:List Oper}{p:Nat->Bool}(aw:∀t∈looks l o,p t=true)(he:one P call az l S H o=some (.ok aY H1)):
 ∃e0,one P call az l (S.only p) H o=some (.ok e0 H1)/\e0.n=aY.n/\e0.ds=aY.ds/\e0.bu=aY.bu/\e0.a7=aY.a7/\e0.b3=aY.b3/\aY.n=S.n/\aY.bu=S.bu/\aY.b3=S.b3/\
  (∀t,e0.T.get t=if o.dst=some t then aY.T.get t else(S.only p).T.get t)/\(∀t,o.dst≠some t->aY.T.get t=S.T.get t):=by
 have v3:∀t∈looks l o,(S.only p).T.get t=S.T.get t:=fun t aG=>by
  show(S.T.eN p).get t=_;rw[aL.Ej,aw t aG];rfl
 have key:∀(X:aO) (v:Value) (bG:ah),X.n=S.n->X.bu=S.bu->X.b3=S.b3->X.T=S.T->jc X o.dst v bG=some (.ok aY H1)->
  ∃e0,jc (X.only p) o.dst v bG=some (.ok e0 H1)/\e0.n=aY.n/\e0.ds=aY.ds/\e0.bu=aY.bu/\e0.a7=aY.a7/\e0.b3=aY.b3/\aY.n=S.n/\aY.bu=S.bu/\aY.b3=S.b3/\
  (∀t,e0.T.get t=if o.dst=some t then aY.T.get t else(S.only p).T.get t)/\(∀t,o.dst≠some t->aY.T.get t=S.T.get t):=by
  intro X v bG fa fh uY z7 q;obtain⟨Ik,aQ,aP⟩:=Yb q;injection aP with aP bC;subst aP;subst bC
  obtain⟨e0,dp⟩:=aO.XK p aQ;obtain⟨bP,bS,cE,c4,cO,ey⟩:=aO.put_eq aQ;obtain⟨bV,b7,c5,dM,fF,gp⟩:=aO.put_eq dp;refine⟨e0,MT dp,bV.trans bP.symm,b7.trans bS.symm,c5.trans cE.symm,dM.trans c4.symm,fF.trans cO.symm,bP.trans fa,cE.trans fh,cO.trans uY,fun t=>?_,fun t aG=>?_⟩
  ·rw[gp];by_cases ax:o.dst=some t
   ·rw[bs ax,bs ax,ey,bs ax]
   ·rw[a1 ax,a1 ax];show(X.T.eN p).get t=(S.T.eN p).get t;rw[z7]
  ·rw[ey,a1 aG,z7]
 unfold one at he ⊢;rw[ob v3];cases ar:eI l S.T o with
 |none=>rw[ar] at he;cases he
 |some b=>
  rw[ar] at he;cases b with
  |false=>exact key S undef H rfl rfl rfl rfl he
  |true=>
   have he:mR S H o.dst (cc P call az S H o)=some (.ok aY H1):=he;show ∃e0,mR (S.only p) H o.dst (cc P call az (S.only p) H o)=some (.ok e0 H1)/\_;rw[A8 (S:=S) (aB:=S.only p) rfl (Cq v3)];cases fo:cc P call az S H o with
   |none=>rw[fo] at he;cases he
   |some r=>
    rw[fo] at he;cases r with
    |val v bG=>exact key S v bG rfl rfl rfl rfl he
    |skip bG=>exact key S undef bG rfl rfl rfl rfl he
    |hj c bG=>have he:some (cS.hj c S bG)=some (.ok aY H1):=he;injection he with he;cases he
    |fN d=>
     have he:uz S H o.dst d=some (.ok aY H1):=he;show ∃e0,uz (S.only p) H o.dst d=some (.ok e0 H1)/\_;obtain⟨T,n,eD,bu,a7,b3⟩:=S;cases b3 with
     |some l=>cases he
     |none=>exact key (aO.xf d ⟨T,n,eD,bu,a7,none⟩) undef H rfl rfl rfl rfl he
    |uI=>
     have he:zF S H o.dst (mU S)=some (.ok aY H1):=he;show ∃e0,zF (S.only p) H o.dst (mU (S.only p))=some (.ok e0 H1)/\_;have ap:mU (S.only p)=mU S:=rfl;rw[ap];cases we:mU S with
     |none=>rw[we] at he;cases he
     |some q=>
      obtain⟨v,a7⟩:=q;rw[we] at he;obtain⟨T,n,eD,bu,zY,b3⟩:=S;exact key (aO.rq a7 ⟨T,n,eD,bu,zY,b3⟩) v H rfl rfl rfl rfl he
theorem LD(ag:qh ops.toList bT)(au:Inv P B w0 call az ops.toList bT c7 hE H0 ha fr hT C K G S H μ w tmps ds cs D A)(ae:ops[i]?=some o)(nu:∀aa,(Oper.gK o).testBit aa=true->D aa=true):
 ∀t∈looks ops.toList o,free ops.toList C D t=true:=fun t aG=>tE.2 fun⟨aa,dg,a,b,c,d⟩=>by
 rcases ag.look aa i dg o t c (by simpa using ae) d aG with q|⟨q,_⟩
 ·have:=nu aa q;rw[b] at this;cases this
 ·have hk:K.testBit aa=false:=by
   cases hk:K.testBit aa with
   |false=>rfl
   |true=>have:=au.k aa hk;rw[b] at this;cases this
  have:=(au.tG aa dg a hk c).1;rw[q] at this;cases this
def jV(D:Nat->Bool)(i:Nat):Nat->Bool:=fun aa=>if aa=i then true else D aa
theorem nV{aa:Nat}:jV D i aa=true↔D aa=true\/aa=i:=by unfold jV;by_cases h:aa=i<;>simp[h]
theorem u5{aa:Nat}(h:jV D i aa=false):D aa=false/\aa≠i:=by
 unfold jV at h;by_cases e:aa=i
 ·rw[bs e] at h;cases h
 ·rw[a1 e] at h;exact⟨h,e⟩
theorem Sc{t:Nat}(ax:free ops.toList C (jV D i) t=true)(ae:ops[i]?=some o):free ops.toList C D t=true\/o.dst=some t:=by
 by_cases h:GF ops.toList C D t
 ·obtain⟨aa,dg,a,b,c,d⟩:=h;by_cases mD:aa=i
  ·subst mD;have:ops.toList[aa]?=some o:=by simpa using ae
   rw[this] at c;injection c with c;subst c;exact .inr d
  ·exfalso;refine tE.1 ax ⟨aa,dg,a,?_,c,d⟩;unfold jV;rw[a1 mD];exact b
 ·exact .inl (tE.2 h)
theorem X9(gG:lA P B w0 call)(ld:rM P B w0 az)(ag:qh ops.toList bT)(au:Inv P B w0 call az ops.toList bT c7 hE H0 ha fr hT C K G S H μ w tmps ds cs D A)
 (np:∀aa,C.testBit aa=true->K.testBit aa=true\/G.testBit aa=true)(hA:C.testBit i=true)(eb:D i=false)(ae:ops[i]?=some o)(nu:∀aa,(Oper.gK o).testBit aa=true->D aa=true):
 ∃a4 aZ e9 dT cb,Steps P (lone (bj fr tmps ds (.inRegion ops (i::rest)::k)) cs w) (lone (bj fr e9 dT (.inRegion ops rest::k)) cb aZ)/\
  Inv P B w0 call az ops.toList bT c7 hE H0 ha fr hT C K G S H a4 aZ e9 dT cb (jV D i) A:=by
 have la:ops.toList[i]?=some o:=by simpa using ae
 have EU:=LD ag au ae nu;have hk:K.testBit i=false:=by
  cases hk:K.testBit i with
  |false=>rfl
  |true=>have:=au.k i hk;rw[eb] at this;cases this
 have SY:G.testBit i=true:=by
  rcases np i hA with q|q
  ·rw[hk] at q;cases q
  ·exact q
 obtain⟨abM,b,ar⟩:=au.tG i o hA hk la;have v3:∀t∈looks ops.toList o,(S.only (free ops.toList C D)).T.get t=S.T.get t:=fun t aG=>by
  show(S.T.eN _).get t=_;rw[aL.Ej,EU t aG];rfl
 --Hj stays
 have fin:∀(a4:bm) (aZ:World) (e9:Array Value) (dT:List Deferred) (cb:List Frame) (k1:aO) (v:Value),bz P B w0 a4 H aZ->Step hE a4 H0 H->hF ha.bu hT cb->
  (S.only (free ops.toList C D)).put o.dst v=some k1->(∀t,o.dst=some t->S.T.get t=some v)->fZ a4 k1 fr e9 dT cb->
  (∀(aa:Nat) dg,C.testBit aa=true->D aa=false->aa≠i->c7.testBit aa=true->ops.toList[aa]?=some dg->eI ops.toList S.T dg=some true->μ (A aa)=none->A aa<H.av->a4 (A aa)=none)->
  Inv P B w0 call az ops.toList bT c7 hE H0 ha fr hT C K G S H a4 aZ e9 dT cb (jV D i) A:=by
  intro a4 aZ e9 dT cb k1 v fO dA hK jJ aD ES Fj;obtain⟨bV,b7,c5,dM,fF,gp⟩:=aO.put_eq jJ;refine⟨fO,?_,dA,hK,au.bu,au.b3,fun aa aX=>?_,au.xP,fun aa dg m aX dW hm=>?_,au.vr,fun aa aX=>nV.2 (.inl (au.k aa aX)),fun aa dg aX pw dW=>?_,?_⟩
  ·refine ES.conv bV.symm b7.symm c5.symm dM.symm fF.symm fun t u q=>?_;obtain⟨aQ,aP⟩:=sG.1 q;rw[gp];by_cases ax:o.dst=some t
   ·rw[bs ax];rw[aD t ax] at aP;exact aP
   ·rw[a1 ax];rcases Sc aQ ae with r|r
    ·exact sG.2 ⟨r,aP⟩
    ·exact absurd r ax
  ·rcases nV.1 aX with q|rfl
   ·exact au.sub aa q
   ·exact hA
  ·rcases nV.1 aX with q|rfl
   ·exact nV.2 (.inl (au.down aa dg m q dW hm))
   ·rw[la] at dW;injection dW with dW;subst dW
    exact nV.2 (.inl (nu m hm))
  ·obtain⟨b4,vh,b0⟩:=au.tG aa dg aX pw dW;refine⟨b4,vh,b0.move rfl rfl (fun _ _=>rfl) (fun _ _=>rfl) (fun _ h=>⟨h,rfl⟩) rfl fun af aK yn=>?_⟩;obtain⟨d1,d2⟩:=u5 yn;refine⟨d1,fun eG _ ⟨aA,aW,cr,dU,b5⟩=>⟨?_,aW,cr,dU,b5⟩⟩;exact Fj aa dg aX d1 d2 aK dW (af▸b0.g) aA dU
  ·intro x y q' wR j aC tI pp tP tQ ns mG nq mC dy;exact au.inj x y q' wR j aC (u5 tI).1 (u5 pp).1 tP tQ ns mG nq mC dy
 --by wN,where nothing is made
 have kx:∀v,one P call az ops.toList (S.only (free ops.toList C D)) H o=jc (S.only (free ops.toList C D)) o.dst v H->(∀t,o.dst=some t->S.T.get t=some v)->
  ∃a4 aZ e9 dT cb,Steps P (lone (bj fr tmps ds (.inRegion ops (i::rest)::k)) cs w) (lone (bj fr e9 dT (.inRegion ops rest::k)) cb aZ)/\
  Inv P B w0 call az ops.toList bT c7 hE H0 ha fr hT C K G S H a4 aZ e9 dT cb (jV D i) A:=by
  intro v iL aD;obtain⟨k1,jJ⟩:=aO.wV (S:=S) (p:=free ops.toList C D) ar.lt v;rw[MT jJ] at iL;obtain⟨a4,aZ,e9,dT,cb,b4,b0,cI,eM,eH,fg,e2⟩:=wN (k:=k) (rest:=rest) gG ld au.h au.f ae iL;refine⟨a4,aZ,e9,dT,cb,e2,fin a4 aZ e9 dT cb k1 v b4 (au.iR.trans b0) (au.vo.trans ?_) jJ aD cI fun aa dg _ _ _ _ _ _ hm cx=>(b0.eN _ cx hm).1⟩;have:(S.only (free ops.toList C D)).bu=ha.bu:=au.bu;rw[<-this];exact eM
 have qH:eI ops.toList (S.only (free ops.toList C D)).T o=some b:=by rw[ob v3];exact ar.g
 cases b with
 |false=>
  refine kx undef ?_ (ar.no rfl);unfold one;rw[qH];rfl
 |true=>
  cases aK:c7.testBit i with
  |false=>
   obtain⟨v,aA,aW⟩:=ar.val rfl aK SY;refine kx v ?_ aW;unfold one;rw[qH];show mR _ H o.dst (cc P call az (S.only (free ops.toList C D)) H o)=_;rw[A8 (S:=S) (aB:=S.only (free ops.toList C D)) rfl (Cq v3),aA];rfl
  |true=>
   obtain⟨eG,dm,aA,aW,cr⟩:=ar.kF rfl aK;obtain⟨cM,gz,mN,oF,mO⟩:=cr eb;have n8:kh P (S.only (free ops.toList C D)).T o.op=some (eG,dm):=by rw[Ds v3];exact aA
   obtain⟨lh,N,sz,cJ,cW,eE,hD⟩:=Po au.f.t n8 w;have hw:=JS au.f.t qH;have dk:fr.roundOf=none\/∀c,o.op≠.defer c:=.inr fun c q=>by rw[q] at aA;cases aA
   obtain⟨TJ,hX⟩:=au.h.fill (L:=⟨w.heap.size,N,sz⟩) cM oF gz mO rfl cW;have UM:a3 (μ.put (A i) ⟨w.heap.size,N,sz⟩) (dm.at (A i)) (dm.at w.heap.size):=gO.rel hD (L:=⟨w.heap.size,N,sz⟩) (bm.hC _ _ _);obtain⟨k1,jJ⟩:=aO.wV (S:=S) (p:=free ops.toList C D) ar.lt (dm.at (A i));obtain⟨f1,_⟩:=GH (au.f.mono hX) UM jJ;refine⟨_,_,_,_,_,.one (G0 ae hw dk cJ),fin _ _ _ _ _ k1 (dm.at (A i)) TJ ?_ au.vo jJ aW f1 ?_⟩
   ·refine⟨au.iR.ext.trans hX,au.iR.av,au.iR.bf,fun id tW hm=>?_⟩;obtain⟨a,b⟩:=au.iR.eN id tW hm;refine⟨?_,b⟩;rw[bm.oP _ _ (by omega)];exact a
   ·intro aa dg aX yn mD tN dW EY hm cx;rw[bm.oP _ _ ?_]
    ·exact hm
    ·intro q;exact mD (au.inj aa i dg o aX hA yn eb tN aK dW la EY ar.g q)
theorem X8(gG:lA P B w0 call)(ld:rM P B w0 az)(ag:qh ops.toList bT)(au:Inv P B w0 call az ops.toList bT c7 hE H0 ha fr hT C K G S H μ w tmps ds cs D A)
 (hA:C.testBit i=false)(ae:ops[i]?=some o)(nu:∀aa,(Oper.gK o).testBit aa=true->D aa=true)(iL:one P call az ops.toList S H o=some (.ok aY H1))
 {p':Nat}(J1:p'=o9 ops.toList ops.toList.length (Nat.lor K (Nat.pow 2 i)))(S4:∀aa,(Oper.gK o).testBit aa=true->p'.testBit aa=true)(S3:p'.testBit i=true):
 ∃a4 aZ e9 dT cb,Steps P (lone (bj fr tmps ds (.inRegion ops (i::rest)::k)) cs w) (lone (bj fr e9 dT (.inRegion ops rest::k)) cb aZ)/\
  Inv P B w0 call az ops.toList bT c7 hE H0 ha fr hT (Nat.lor C (Nat.pow 2 i)) p' (Nat.land G c7) aY H1 a4 aZ e9 dT cb (jV D i) A:=by
 have la:ops.toList[i]?=some o:=by simpa using ae
 have EU:=LD ag au ae nu;have vM:D i=false:=by
  cases ax:D i with
  |false=>rfl
  |true=>have:=au.sub i ax;rw[hA] at this;cases this
 obtain⟨e0,t1,t2,t3,t4,t5,t6,t7,t8,t9,t10,t11⟩:=WO EU iL;obtain⟨a4,aZ,e9,dT,cb,b4,b0,cI,eM,eH,fg,e2⟩:=wN (k:=k) (rest:=rest) gG ld au.h au.f ae t1;have Kl:∀(aa:Nat) dg m,jV D i aa=true->ops.toList[aa]?=some dg->(Oper.gK dg).testBit m=true->jV D i m=true:=fun aa dg m aX dW hm=>by
  rcases nV.1 aX with q|rfl
  ·exact nV.2 (.inl (au.down aa dg m q dW hm))
  ·rw[la] at dW;injection dW with dW;subst dW
   exact nV.2 (.inl (nu m hm))
 have J2:∀aa,p'.testBit aa=true->jV D i aa=true:=fun aa aX=>by
  rw[J1] at aX;refine Qm (D:=jV D i) Kl (fun m hm=>?_) aa aX;rcases iy.1 hm with q|rfl
  ·exact nV.2 (.inl (au.k m q))
  ·exact nV.2 (.inr rfl)
 have Fi:∀{aa:Nat},(Nat.lor C (Nat.pow 2 i)).testBit aa=true->aa≠i->C.testBit aa=true:=fun{aa} aX dV=>by
  rcases iy.1 aX with q|q
  ·exact q
  ·exact absurd q.symm dV
 --acU Zh Ps not acS done aa' look at Hj is written now
 have my:∀{aa:Nat} {dg:Oper},C.testBit aa=true->p'.testBit aa=false->ops.toList[aa]?=some dg->∀t∈looks ops.toList dg,aY.T.get t=S.T.get t:=fun{aa dg} aX pw dW t aG=>by
  refine t11 t fun ax=>?_;rcases ag.look i aa o dg t la dW ax aG with q|⟨_,q|q⟩
  ·have:=au.vr aa dg i aX dW q;rw[hA] at this;cases this
  ·subst q;rw[hA] at aX;cases aX
  ·rw[S4 aa q] at pw;cases pw
 have abB:∀{aa:Nat},p'.testBit aa=false->aa≠i->D aa=false->K.testBit aa=false:=fun{aa} _ _ ax=>by
  cases hk:K.testBit aa with
  |false=>rfl
  |true=>have:=au.k aa hk;rw[ax] at this;cases this
 have KG:∀{aa:Nat},jV D i aa=false->p'.testBit aa=false:=fun{aa} ax=>by
  cases hk:p'.testBit aa with
  |false=>rfl
  |true=>have:=J2 aa hk;rw[ax] at this;cases this
 refine⟨a4,aZ,e9,dT,cb,e2,⟨b4,?_,au.iR.trans b0,au.vo.trans ?_,t8.trans au.bu,t9.trans au.b3,fun aa aX=>?_,fun aa aX=>?_,Kl,fun aa dg m aX dW hm=>?_,J2,fun aa dg aX pw dW=>?_,?_⟩⟩
 ·refine cI.conv t2.symm t3.symm t4.symm t5.symm t6.symm fun t u q=>?_;obtain⟨aQ,aP⟩:=sG.1 q;rw[t10];by_cases ax:o.dst=some t
  ·rw[bs ax];exact aP
  ·rw[a1 ax];rw[t11 t ax] at aP;refine sG.2 ⟨?_,aP⟩;rw[tE] at aQ ⊢;intro⟨aa,dg,a,b,c,d⟩;refine aQ ⟨aa,dg,iy.2 (.inl a),?_,c,d⟩;unfold jV;rw[a1 (fun e=>by subst e;rw[hA] at a;cases a)];exact b
 ·have:(S.only (free ops.toList C D)).bu=ha.bu:=au.bu;rw[<-this];exact eM
 ·rcases nV.1 aX with q|rfl
  ·exact iy.2 (.inl (au.sub aa q))
  ·exact iy.2 (.inr rfl)
 ·rcases iy.1 aX with q|rfl
  ·exact au.xP aa q
  ·exact⟨o,la⟩
 ·rcases iy.1 aX with q|rfl
  ·exact iy.2 (.inl (au.vr aa dg m q dW hm))
  ·rw[la] at dW;injection dW with dW;subst dW
   exact iy.2 (.inl (au.sub m (nu m hm)))
 ·have mD:aa≠i:=fun e=>by subst e;rw[S3] at pw;cases pw
  have Kv:=Fi aX mD;cases hk:K.testBit aa with
  |true=>
   exfalso;have jH:∀{n xq:Nat},xq.testBit aa=true->(o9 ops.toList n xq).testBit aa=true:=by
    intro n;induction n with
    |zero=>intro xq h;exact h
    |succ n aN=>
     intro xq h;simp only[o9];refine aN ?_;cases af:xq.testBit n with
     |false=>exact h
     |true=>
      rw[bH];cases nth ops.toList n with
      |none=>exact h
      |some o=>simp only;rw[sU,h];rfl
   rw[J1,jH (iy.2 (.inl hk))] at pw;cases pw
  |false=>
   obtain⟨bE,vh,b8⟩:=au.tG aa dg Kv hk dW;refine⟨bE,vh,b8.move t7 t9 (my Kv pw dW) (fun t aG=>t11 t fun ax=>ag.dst i aa o dg t la dW (Ne.symm mD) ax aG) (fun aK da=>?_) rfl fun af aK yn=>?_⟩
   ·rw[CM,aK] at da;simp at da
   ·obtain⟨d1,d2⟩:=u5 yn;refine⟨d1,fun eG dd ⟨aA,aW,cr,dU,b5⟩=>?_⟩;obtain⟨dw,dZ⟩:=b0.eN _ dU aA;exact⟨dw,by rw[b0.bf];exact aW,cr,jZ dU b0.av,by rw[dZ (by rw[b5];exact dd)];exact b5⟩
 ·intro x y q' wR j aC tI pp tP tQ ns mG nq mC dy;obtain⟨d1,d2⟩:=u5 tI;obtain⟨d3,d4⟩:=u5 pp;have K':=Fi j d2;have La:=Fi aC d4;rw[ob (my K' (KG tI) ns)] at nq;rw[ob (my La (KG pp) mG)] at mC;exact au.inj x y q' wR K' La d1 d3 tP tQ ns mG nq mC dy
end
end
end Go.Cre

/- A part of the proof of TableClose. -/
import Derived.Test.YtpahonhejmlnpaaGreatDoorCam
set_option linter.unusedVariables false
set_option linter.unusedSimpArgs false
namespace Go.Cre
noncomputable section
open Go.RowKit
open Classical
def Jt(ops:List Oper)(C:Nat)(D:Nat->Bool)(t:Nat):Prop:=∃(i:Nat) (o:Oper),C.testBit i=true/\D i=false/\ops[i]?=some o/\o.dst=some t
def free (ops:List Oper)(C:Nat)(D:Nat->Bool)(t:Nat):Bool:=decide (¬Jt ops C D t)
theorem vA{ops:List Oper}{C:Nat}{D:Nat->Bool}{t:Nat}:free ops C D t=true↔¬Jt ops C D t:=by unfold free;exact decide_eq_true_iff
structure Good (P:Program) (call:ed) (aE:fX) (ops:List Oper) (dv G:Nat) (Sl:Nat) (S:aT) (H:ai) (μ:bz) (D:Nat->Bool) (A:Nat->Nat) (i:Nat) (o:Oper) (b:Bool):Prop where
 g:eZ ops S.T o=some b
 lt:∀t,o.dst=some t->t<S.n/\∃u,S.T.get t=some u
 no:b=false->∀t,o.dst=some t->S.T.get t=some undef
 val:b=true->dv.testBit i=false->G.testBit i=true->∃v,ct P call aE S H o=some (.val v H)/\∀t,o.dst=some t->S.T.get t=some v
 iL:b=true->dv.testBit i=true->∃e6 dN,k' P S.T o.op=some (e6,dN)/\(∀t,o.dst=some t->S.T.get t=some (dN.at (A i)))/\
  (D i=false->μ (A i)=none/\H.bp<=A i/\Sl<=A i/\A i<H.ax/\H.mem.get (A i)=some e6)
structure Inv (P:Program) (B:Nat->Prop) (w0:World) (call:ed) (aE:fX) (ops:List Oper) (cf dv:Nat) (iz:bz) (H0:ai) (hW:aT) (fr:Frame) (iM:List Frame)
 (C K G:Nat) (S:aT) (H:ai) (μ:bz) (w:World) (tmps:Array Value) (ds:List Deferred) (cs:List Frame) (D:Nat->Bool) (A:Nat->Nat):Prop where
 h:bL P B w0 μ H w
 f:gO μ (S.only (free ops C D)) fr tmps ds cs
 jk:Step iz μ H0 H
 xf:iA hW.bB iM cs
 bB:S.bB=hW.bB
 b8:S.b8=hW.b8
 sub:∀i,D i=true->C.testBit i=true
 zx:∀i,C.testBit i=true->∃o,ops[i]?=some o
 down:∀(i:Nat) o j,D i=true->ops[i]?=some o->(Oper.hi o).testBit j=true->D j=true
 xh:∀(i:Nat) o j,C.testBit i=true->ops[i]?=some o->(Oper.hi o).testBit j=true->C.testBit j=true
 k:∀i,K.testBit i=true->D i=true
 vC:∀(i:Nat) o,C.testBit i=true->K.testBit i=false->ops[i]?=some o->cf.testBit i=false/\∃b,Good P call aE ops dv G H0.ax S H μ D A i o b
 inj:∀(i j:Nat) Jh dJ,C.testBit i=true->C.testBit j=true->D i=false->D j=false->dv.testBit i=true->dv.testBit j=true->ops[i]?=some Jh->ops[j]?=some dJ->
  eZ ops S.T Jh=some true->eZ ops S.T dJ=some true->A i=A j->i=j
section
variable {P:Program}{B:Nat->Prop}{w0 w:World}{μ iz:bz}{H H0 H':ai}{S hW aB:aT}{fr:Frame}{tmps:Array Value}{ds:List Deferred}{cs iM:List Frame}{call:ed}{aE:fX}
variable {ops:List Oper}{cf dv C K G:Nat}{D:Nat->Bool}{A:Nat->Nat}{i:Nat}{o:Oper}
theorem aT.ach{dst:Option Tmp}{v:Value}(he:S.put dst v=some aB):∀t,dst=some t->t<aB.n/\∃u,aB.T.get t=some u:=fun t aM=>by
 have e:=aT.put_eq he;refine⟨?_,v,by rw[e.2.2.2.2.2,bg aM]⟩;subst aM;obtain⟨T,n,eY,bB,bf,b8⟩:=S;have he:Bool.rec (motive:=fun _=>Option aT) none (aT.pw n eY bB bf b8 (aQ.put v T t)) (Nat.ble (Nat.succ t) n)=some aB:=he;rw[e.1];show t<n;cases ah:Nat.ble (Nat.succ t) n with
 |false=>rw[ah] at he;cases he
 |true=>exact gy ah
theorem gO.conv{a1 fq:aT}(h:gO μ a1 fr tmps ds cs)(aC:fq.n=a1.n)(aZ:fq.ds=a1.ds)(cJ:fq.bB=a1.bB)(eo:fq.bf=a1.bf)(cp:fq.b8=a1.b8)
 (aM:∀t v,fq.T.get t=some v->a1.T.get t=some v):gO μ fq fr tmps ds cs:=
 ⟨⟨by rw[aC];exact h.t.1,fun t v q=>h.t.2 t v (aM t v q)⟩,by rw[aZ];exact h.d,by rw[cJ];exact h.kind,fun q=>h.rY (cp▸q),fun l q=>h.wD l (cp▸q),fun q=>by rw[eo];exact h.bf (cJ▸q)⟩
theorem uy{p:Nat->Bool}{t:Nat}{v:Value}:(S.only p).T.get t=some v↔p t=true/\S.T.get t=some v:=by
 show(S.T.ff p).get t=some v↔_;rw[aQ.GP];cases p t<;>simp
theorem Good.move{lU:Nat}{bd:bz}{KI:Nat->Bool}{nb:Nat->Nat}{b:Bool}(aq:Good P call aE ops dv G H0.ax S H μ D A i o b)(aw:aB.n=S.n)(al:aB.b8=S.b8)
 (aA:∀t∈looks ops o,aB.T.get t=S.T.get t)(au:∀t,o.dst=some t->aB.T.get t=S.T.get t)
 (cK:dv.testBit i=false->lU.testBit i=true->G.testBit i=true/\H'=H)(eL:nb i=A i)
 (HZ:b=true->dv.testBit i=true->KI i=false->D i=false/\(∀e6,iJ (some e6)=false->μ (A i)=none/\H.bp<=A i/\H0.ax<=A i/\A i<H.ax/\H.mem.get (A i)=some e6->bd (A i)=none/\H'.bp<=A i/\H0.ax<=A i/\A i<H'.ax/\H'.mem.get (A i)=some e6)):
 Good P call aE ops dv lU H0.ax aB H' bd KI nb i o b:=by
 refine⟨by rw[pU aA];exact aq.g,fun t aM=>?_,fun ah t aM=>by rw[au t aM];exact aq.no ah t aM,fun ah aK G6=>?_,fun ah aK=>?_⟩
 ·obtain⟨a,b⟩:=aq.lt t aM;exact⟨by rw[aw];exact a,by rw[au t aM];exact b⟩
 ·obtain⟨cm,rfl⟩:=cK aK G6;obtain⟨v,aC,aZ⟩:=aq.val ah aK cm;exact⟨v,by rw[CT al (Er aA)];exact aC,fun t aM=>by rw[au t aM];exact aZ t aM⟩
 ·obtain⟨e6,dN,aC,aZ,cJ⟩:=aq.iL ah aK;refine⟨e6,dN,by rw[FM aA];exact aC,fun t aM=>by rw[au t aM,eL];exact aZ t aM,fun er=>?_⟩;obtain⟨aR,aN⟩:=HZ ah aK er;rw[eL];exact aN e6 (LR aC) (cJ aR)
theorem quiet(af:sj ops cf)(av:Inv P B w0 call aE ops cf dv iz H0 hW fr iM C K G S H μ w tmps ds cs D A)(ar:C.testBit i=false)(ag:ops[i]?=some o)(aL:cf.testBit i=false)
 {j:Nat}{dJ:Oper}(a5:C.testBit j=true\/j=i)(eu:ops[j]?=some dJ){t:Nat}(aM:t∈looks ops dJ):o.dst≠some t:=fun au=>by
 rcases af.look i j o dJ t ag eu au aM with q|⟨q,_⟩
 ·rcases a5 with a5|rfl
  ·have:=av.xh j dJ i a5 eu q;rw[ar] at this;cases this
  ·have:=af.down j dJ j eu q;omega
 ·rw[aL] at q;cases q
theorem VZ(h:fits ops C i=true)(ag:ops[i]?=some o):C.testBit i=false/\∀j,(Oper.hi o).testBit j=true->C.testBit j=true:=by
 unfold fits at h;rw[jU,ag] at h;simp only[fp,pD] at h;exact⟨h.1,fun j a5=>JY h.2 a5⟩
theorem V5(er:D i=false)(ag:ops[i]?=some o){t:Nat}(h:free ops (Nat.lor C (Nat.pow 2 i)) D t=true):free ops C D t=true/\o.dst≠some t:=by
 rw[vA] at h;refine⟨vA.2 fun⟨j,dJ,a,b,c,d⟩=>h ⟨j,dJ,jH.2 (.inl a),b,c,d⟩,fun au=>h ⟨i,o,jH.2 (.inr rfl),er,ag,au⟩⟩
theorem IC(af:sj ops cf)(av:Inv P B w0 call aE ops cf dv iz H0 hW fr iM C K G S H μ w tmps ds cs D A)(ag:ops[i]?=some o)(az:fits ops C i=true)(aL:cf.testBit i=false)
 {v:Value}{b:Bool}{lU:Nat}{nb:Nat->Nat}(ao:S.put o.dst v=some aB)(aq:eZ ops S.T o=some b)(gD:b=false->v=undef)
 (gB:bL P B w0 μ H' w)(dM:Step iz μ H0 H')(jg:H.ax<=H'.ax)(mK:H'.bp=H.bp)(sP:∀x,x<H.ax->H'.mem.get x=H.mem.get x)
 (eL:∀j,j≠i->nb j=A j)(cK:∀j,j≠i->dv.testBit j=false->lU.testBit j=true->G.testBit j=true/\H'=H)
 (uf:b=true->dv.testBit i=false->lU.testBit i=true->ct P call aE S H' o=some (.val v H'))
 (Hm:b=true->dv.testBit i=true->nb i=H.ax/\H'.ax=H.ax+1/\H0.ax<=H.ax/\∃e6 dN,k' P S.T o.op=some (e6,dN)/\v=dN.at H.ax/\H'.mem.get H.ax=some e6):
 Inv P B w0 call aE ops cf dv iz H0 hW fr iM (Nat.lor C (Nat.pow 2 i)) K lU aB H' μ w tmps ds cs D nb:=by
 obtain⟨ar,hm⟩:=VZ az ag;have xE:D i=false:=by
  cases au:D i with
  |false=>rfl
  |true=>have:=av.sub i au;rw[ar] at this;cases this
 obtain⟨dm,hA,lm,uD,tf,uE⟩:=aT.put_eq ao;have n9:∀{j:Nat} {dJ:Oper},(C.testBit j=true\/j=i)->ops[j]?=some dJ->∀t∈looks ops dJ,aB.T.get t=S.T.get t:=fun{j dJ} a5 eu t aM=>by
  rw[uE,a3 (quiet af av ar ag aL a5 eu aM)]
 refine⟨gB,?_,dM,av.xf,lm.trans av.bB,tf.trans av.b8,fun j a5=>jH.2 (.inl (av.sub j a5)),fun j a5=>?_,av.down,fun j dJ k a5 eu hk=>?_,av.k,fun j dJ a5 hk eu=>?_,?_⟩
 ·refine av.f.conv dm hA lm uD tf fun t u q=>?_;obtain⟨aR,aN⟩:=uy.1 q;obtain⟨cX,cM⟩:=V5 xE ag aR;rw[uE,a3 cM] at aN;exact uy.2 ⟨cX,aN⟩
 ·rcases jH.1 a5 with q|rfl
  ·exact av.zx j q
  ·exact⟨o,ag⟩
 ·rcases jH.1 a5 with q|rfl
  ·exact jH.2 (.inl (av.xh j dJ k q eu hk))
  ·rw[ag] at eu;injection eu with eu;subst eu
   exact jH.2 (.inl (hm k hk))
 ·by_cases od:j=i
  ·subst od;rw[ag] at eu;injection eu with eu;subst eu
   refine⟨aL,b,?_⟩;refine⟨by rw[pU (n9 (.inr rfl) ag)];exact aq,aT.ach ao,fun ah t aM=>by rw[uE,bg aM,gD ah],fun ah aK G6=>?_,fun ah aK=>?_⟩
   ·exact⟨v,by rw[CT tf (Er (n9 (.inr rfl) ag))];exact uf ah aK G6,fun t aM=>by rw[uE,bg aM]⟩
   ·obtain⟨bx,bX,cy,e6,dN,c0,rfl,dY⟩:=Hm ah aK;refine⟨e6,dN,by rw[FM (n9 (.inr rfl) ag)];exact c0,fun t aM=>by rw[uE,bg aM,bx],fun _=>?_⟩;rw[bx];exact⟨av.h.PJ,by rw[mK];exact av.h.iN,cy,by omega,dY⟩
  ·have a5:C.testBit j=true:=by
    rcases jH.1 a5 with q|q
    ·exact q
    ·exact absurd q.symm od
   obtain⟨cm,w9,cn⟩:=av.vC j dJ a5 hk eu;refine⟨cm,w9,cn.move dm tf (n9 (.inl a5) eu) (fun t aM=>?_) (cK j od) (eL j od) fun ah aK er=>⟨er,fun e6 _ ⟨aC,aZ,cJ,eo,cp⟩=>⟨aC,by rw[mK];exact aZ,cJ,by omega,by rw[sP _ eo];exact cp⟩⟩⟩;rw[uE,a3 (fun q=>af.dst i j o dJ t ag eu (Ne.symm od) q aM)]
 ·have cD:∀(j:Nat) dJ,C.testBit j=true->D j=false->dv.testBit j=true->ops[j]?=some dJ->eZ ops S.T dJ=some true->A j<H.ax:=fun j dJ a5 er aK eu HB=>by
   have hk:K.testBit j=false:=by
    cases hk:K.testBit j with
    |false=>rfl
    |true=>have:=av.k j hk;rw[er] at this;cases this
   obtain⟨_,w9,cn⟩:=av.vC j dJ a5 hk eu;have e:=cn.g;rw[HB] at e;injection e with e;subst e
   obtain⟨e6,dN,_,_,q⟩:=cn.iL rfl aK;exact(q er).2.2.2.1
  intro x y pt yE U aF vF rp vL vM o8 oj ob oc dT;by_cases h5:x=i
  ·by_cases rK:y=i
   ·rw[h5,rK]
   ·exfalso;subst h5;rw[ag] at o8;injection o8 with o8;subst o8
    rw[pU (n9 (.inr rfl) ag),aq] at ob;injection ob with ob;subst ob
    have aF:C.testBit y=true:=by
     rcases jH.1 aF with q|q
     ·exact q
     ·exact absurd q.symm rK
    rw[pU (n9 (.inl aF) oj)] at oc;have:=cD y yE aF rp vM oj oc;rw[(Hm rfl vL).1,eL y rK] at dT;omega
  ·have gn:C.testBit x=true:=by
    rcases jH.1 U with q|q
    ·exact q
    ·exact absurd q.symm h5
   rw[pU (n9 (.inl gn) o8)] at ob;by_cases rK:y=i
   ·exfalso;subst rK;rw[ag] at oj;injection oj with oj;subst oj
    rw[pU (n9 (.inr rfl) ag),aq] at oc;injection oc with oc;subst oc
    have:=cD x pt gn vF vL o8 ob;rw[(Hm rfl vM).1,eL x h5] at dT;omega
   ·have aF:C.testBit y=true:=by
     rcases jH.1 aF with q|q
     ·exact q
     ·exact absurd q.symm rK
    rw[pU (n9 (.inl aF) oj)] at oc;rw[eL x h5,eL y rK] at dT;exact av.inj x y pt yE gn aF vF rp vL vM o8 oj ob oc dT
theorem Step.new(dM:Step iz μ H0 H){b:eF}{a:Nat}(aw:H.new b=some (a,H')):Step iz μ H0 H':=by
 obtain⟨rfl,aC,aZ,cJ,eo,cp⟩:=ai.mb aw;refine⟨dM.ext,by have:=dM.ax;omega,by rw[eo];exact dM.bp,fun id o5 hm=>?_⟩;obtain⟨a,b⟩:=dM.ff id o5 hm;exact⟨a,fun ag=>by rw[cp,a3 (by have:=dM.ax;omega)];exact b ag⟩
theorem Mi(af:sj ops cf)(vK:∀(i:Nat) o,ops[i]?=some o->dv.testBit i=false->um o.op=false){bV:c6}:∀(a2:List hT) (C G:Nat) (S:aT) (H:ai) (A:Nat->Nat),
 Inv P B w0 call aE ops cf dv iz H0 hW fr iM C K G S H μ w tmps ds cs D A->lP ops cf dv C K G a2=true->dy P call aE ops a2 S H=some bV->
 ∃oB r4 lU aB H' nb,Inv P B w0 call aE ops cf dv iz H0 hW fr iM r4 K lU aB H' μ w tmps ds cs D nb/\lP ops cf dv r4 K lU oB=true/\dy P call aE ops oB aB H'=some bV/\
  (oB=[]\/∃i rest,oB=.bA i::rest):=by
 intro a2;induction a2 with
 |nil=>intro C G S H A av ao he;exact⟨[],C,G,S,H,A,av,ao,he,.inl rfl⟩
 |cons s a2 aP=>
  intro C G S H A av ao he;have he:Mu P call aE ops (dy P call aE ops a2) S H s=some bV:=he;cases s with
  |bA i=>exact⟨.bA i::a2,C,G,S,H,A,av,ao,he,.inr ⟨i,a2,rfl⟩⟩
  |b2 l=>
   simp only[lP,fp] at ao;have ay:=Tg ao.1;have he:(bif l.all (sr P call aE ops S H) then dy P call aE ops a2 S H else none)=some bV:=he;cases aA:l.all (sr P call aE ops S H) with
   |false=>rw[aA] at he;cases he
   |true=>
    rw[aA,b1] at he;rw[qS] at aA;refine aP C (Nat.lor G (wa l)) S H A ?_ ao.2 he;refine⟨av.h,av.f,av.jk,av.xf,av.bB,av.b8,av.sub,av.zx,av.down,av.xh,av.k,fun j dJ a5 hk eu=>?_,av.inj⟩;obtain⟨cm,b,cn⟩:=av.vC j dJ a5 hk eu;refine⟨cm,b,cn.g,cn.lt,cn.no,fun ah aK cK=>?_,cn.iL⟩;rw[uK,tr,aae] at cK;rcases cK with cK|cK
    ·exact cn.val ah aK cK
    ·have aL:=aA j cK;unfold sr at aL;rw[jU,eu] at aL;simp only at aL;rw[cn.g,ah] at aL;have hd:CG H.ax S.T dJ.dst (ct P call aE S H dJ)=true:=aL;cases gd:ct P call aE S H dJ with
     |none=>rw[gd] at hd;cases hd
     |some r=>
      rw[gd] at hd;cases r with
      |val v bK=>
       have hd:(Nat.beq bK.ax H.ax&&(match dJ.dst with|none=>true|some d=>(match S.T.get d with|some u=>c4 8 v u|none=>false)))=true:=hd
       simp only[fp] at hd;have mF:bK=H:=MS (af.bA j dJ eu cm) (vK j dJ eu aK) gd (dX hd.1);refine⟨v,by rw[mF],fun t aM=>?_⟩;have p0:(match dJ.dst with|none=>true|some d=>(match S.T.get d with|some u=>c4 8 v u|none=>false))=true:=hd.2
       rw[aM] at p0;simp only at p0;cases b6:S.T.get t with
       |none=>rw[b6] at p0;cases p0
       |some u=>rw[b6] at p0;rw[aeK p0]
      |skip _=>cases hd
      |ft _=>cases hd
      |h9 _ _=>cases hd
      |wz=>cases hd
  |val i=>
   simp only[lP,fp,pD] at ao;obtain⟨⟨⟨az,aL⟩,aK⟩,ao⟩:=ao;have he:Option.rec (motive:=fun _=>Option c6) none (kH P call aE ops S H (dy P call aE ops a2)) (nth ops i)=some bV:=he;cases ag:nth ops i with
   |none=>rw[ag] at he;cases he
   |some o=>
    rw[ag] at he;rw[jU] at ag;have he:Option.rec (motive:=fun _=>Option c6) none (RC P call aE S H o (dy P call aE ops a2)) (eZ ops S.T o)=some bV:=he;cases aq:eZ ops S.T o with
    |none=>rw[aq] at he;cases he
    |some b=>
     rw[aq] at he
     have fin:∀v,(b=false->v=undef)->(b=true->ct P call aE S H o=some (.val v H))->m7 (dy P call aE ops a2) H (S.put o.dst v)=some bV->
      ∃oB r4 lU aB H' nb,Inv P B w0 call aE ops cf dv iz H0 hW fr iM r4 K lU aB H' μ w tmps ds cs D nb/\lP ops cf dv r4 K lU oB=true/\dy P call aE ops oB aB H'=some bV/\(oB=[]\/∃i rest,oB=.bA i::rest):=by
      intro v aa ab q;cases kT:S.put o.dst v with
      |none=>rw[kT] at q;cases q
      |some aB=>
       rw[kT] at q;refine aP _ _ aB H A (IC af av ag az aL kT aq aa av.h av.jk (c5 _) rfl (fun _ _=>rfl) (fun _ _=>rfl) (fun j a5 _ cK=>⟨?_,rfl⟩) (fun ah _ _=>ab ah) (fun _ h=>by rw[aK] at h;cases h)) ao q;rcases jH.1 cK with q|q
       ·exact q
       ·exact absurd q.symm a5
     cases b with
     |false=>exact fin undef (fun _=>rfl) (fun h=>by cases h) he
     |true=>
      have he:yX S H o.dst (dy P call aE ops a2) (ct P call aE S H o)=some bV:=he;cases gd:ct P call aE S H o with
      |none=>rw[gd] at he;cases he
      |some r=>
       rw[gd] at he;cases r with
       |val v bK=>
        have he:(bif Nat.beq bK.ax H.ax then m7 (dy P call aE ops a2) H (S.put o.dst v) else none)=some bV:=he;cases jg:Nat.beq bK.ax H.ax with
        |false=>rw[jg] at he;cases he
        |true=>
        rw[jg,b1] at he;have mF:bK=H:=MS (af.bA i o ag aL) (vK i o ag aK) gd (dX jg);subst mF;exact fin v (fun h=>by cases h) (fun _=>gd) he
       |skip _=>cases he
       |ft _=>cases he
       |h9 _ _=>cases he
       |wz=>cases he
  |iL i=>
   simp only[lP,fp,pD] at ao;obtain⟨⟨⟨az,aL⟩,aK⟩,ao⟩:=ao;have he:Option.rec (motive:=fun _=>Option c6) none (zq P ops S H (dy P call aE ops a2)) (nth ops i)=some bV:=he;cases ag:nth ops i with
   |none=>rw[ag] at he;cases he
   |some o=>
    rw[ag] at he;rw[jU] at ag;have he:Option.rec (motive:=fun _=>Option c6) none (LP P S H o (dy P call aE ops a2)) (eZ ops S.T o)=some bV:=he;have No:∀j,j≠i->dv.testBit j=false->(Nat.lor (Nat.land G dv) (Nat.pow 2 i)).testBit j=true->False:=fun j a5 vJ cK=>by
     rcases jH.1 cK with q|q
     ·rw[EO,vJ] at q;simp at q
     ·exact a5 q.symm
    cases aq:eZ ops S.T o with
    |none=>rw[aq] at he;cases he
    |some b=>
     rw[aq] at he;cases b with
     |false=>
      have he:m7 (dy P call aE ops a2) H (S.put o.dst undef)=some bV:=he;cases kT:S.put o.dst undef with
      |none=>rw[kT] at he;cases he
      |some aB=>
       rw[kT] at he;exact aP _ _ aB H A (IC af av ag az aL kT aq (fun _=>rfl) av.h av.jk (c5 _) rfl (fun _ _=>rfl) (fun _ _=>rfl) (fun j a5 vJ cK=>(No j a5 vJ cK).elim) (fun h=>by cases h) (fun h=>by cases h)) ao he
     |true=>
      have he:FK S H o.dst (dy P call aE ops a2) (k' P S.T o.op)=some bV:=he;cases lg:k' P S.T o.op with
      |none=>rw[lg] at he;cases he
      |some q=>
       obtain⟨e6,dN⟩:=q;rw[lg] at he;have he:FL S o.dst (dy P call aE ops a2) dN (H.new e6)=some bV:=he;cases aw:H.new e6 with
       |none=>rw[aw] at he;cases he
       |some q=>
        obtain⟨a,H1⟩:=q;rw[aw] at he;obtain⟨Ve,aC,aZ,cJ,eo,cp⟩:=ai.mb aw;subst Ve;have lD:m7 (dy P call aE ops a2) H1 (S.put o.dst (dN.at H.ax))=some bV:=he;cases kT:S.put o.dst (dN.at H.ax) with
        |none=>rw[kT] at lD;cases lD
        |some aB=>
         rw[kT] at lD
         refine aP _ _ aB H1 (fun j=>if j=i then H.ax else A j) (IC af av ag az aL kT aq (fun h=>by cases h) (av.h.abX aw (LR lg)) (av.jk.new aw) (by omega) eo (fun x U=>by rw[cp,a3 (by omega)])
          (fun j a5=>a3 a5) (fun j a5 vJ cK=>(No j a5 vJ cK).elim) (fun _ h=>by rw[aK] at h;cases h) (fun _ _=>⟨bg rfl,aC,av.jk.ax,e6,dN,lg,rfl,by rw[cp,bg rfl]⟩)) ao lD
end
end
end Go.Cre
namespace Go.Cre
noncomputable section
open Go.RowKit
open Classical
section
variable {P:Program}{B:Nat->Prop}{w0 w:World}{μ iz:bz}{H H0 H' H1:ai}{S hW aB a1:aT}{fr:Frame}{tmps:Array Value}{ds:List Deferred}{cs iM:List Frame}{call:ed}{aE:fX}
variable {ops:Array Oper}{cf dv C K G:Nat}{D:Nat->Bool}{A:Nat->Nat}{i:Nat}{o:Oper}{k:List Item}{rest:List Nat}
theorem aQ.BD{α:Type}{a v:α}{t:aQ α}:∀{n:Nat},t.get n=some v->∃jG,aQ.put a t n=some jG:=by
 induction t with
 |leaf=>intro n h;cases h
 |node u l r sZ s0=>
  intro n h;cases n with
  |zero=>exact⟨_,rfl⟩
  |succ m=>
   rw[aQ.n6] at h;rw[aQ.Ex];by_cases hm:m % 2=0
   ·rw[bg hm] at h ⊢;obtain⟨l',e⟩:=sZ h;rw[e];exact⟨_,rfl⟩
   ·rw[a3 hm] at h ⊢;obtain⟨cg,e⟩:=s0 h;rw[e];exact⟨_,rfl⟩
theorem aT.yH{p:Nat->Bool}{dst:Option Tmp}(h:∀t,dst=some t->t<S.n/\∃u,S.T.get t=some u)(v:Value):∃mx,(S.only p).put dst v=some mx:=by
 cases dst with
 |none=>exact⟨_,rfl⟩
 |some d=>
  obtain⟨aa,u,ab⟩:=h d rfl;obtain⟨T,n,eY,bB,bf,b8⟩:=S;show ∃mx,Bool.rec (motive:=fun _=>Option aT) none (aT.pw n eY bB bf b8 (aQ.put v (T.ff p) d)) (Nat.ble (Nat.succ d) n)=some mx;have ah:Nat.ble (Nat.succ d) n=true:=j3 aa;rw[ah];obtain⟨nj,aC⟩:=aQ.BD (a:=v) ab;obtain⟨afD,aZ⟩:=aQ.Qk p aC;rw[aZ];exact⟨_,rfl⟩
theorem acJ{X:aT}{dst:Option Tmp}{v:Value}{bV:c6}(h:km X dst v H'=some bV):∃a1,X.put dst v=some a1/\bV=.ok a1 H':=by
 unfold km m3 at h;cases ao:X.put dst v with
 |none=>rw[ao] at h;cases h
 |some a1=>rw[ao] at h;have h:some (c6.ok a1 H')=some bV:=h;injection h with h;exact⟨a1,rfl,h.symm⟩
theorem Qy{X:aT}{dst:Option Tmp}{v:Value}(h:X.put dst v=some a1):km X dst v H'=some (.ok a1 H'):=by
 unfold km;rw[h];rfl
theorem abf{l:List Oper}{p:Nat->Bool}(aA:∀t∈looks l o,p t=true)(he:one P call aE l S H o=some (.ok a1 H1)):
 ∃fq,one P call aE l (S.only p) H o=some (.ok fq H1)/\fq.n=a1.n/\fq.ds=a1.ds/\fq.bB=a1.bB/\fq.bf=a1.bf/\fq.b8=a1.b8/\a1.n=S.n/\a1.bB=S.bB/\a1.b8=S.b8/\
  (∀t,fq.T.get t=if o.dst=some t then a1.T.get t else(S.only p).T.get t)/\(∀t,o.dst≠some t->a1.T.get t=S.T.get t):=by
 have x1:∀t∈looks l o,(S.only p).T.get t=S.T.get t:=fun t aM=>by
  show(S.T.ff p).get t=_;rw[aQ.GP,aA t aM];rfl
 have key:∀(X:aT) (v:Value) (bK:ai),X.n=S.n->X.bB=S.bB->X.b8=S.b8->X.T=S.T->km X o.dst v bK=some (.ok a1 H1)->
  ∃fq,km (X.only p) o.dst v bK=some (.ok fq H1)/\fq.n=a1.n/\fq.ds=a1.ds/\fq.bB=a1.bB/\fq.bf=a1.bf/\fq.b8=a1.b8/\a1.n=S.n/\a1.bB=S.bB/\a1.b8=S.b8/\
  (∀t,fq.T.get t=if o.dst=some t then a1.T.get t else(S.only p).T.get t)/\(∀t,o.dst≠some t->a1.T.get t=S.T.get t):=by
  intro X v bK fy fF wP uR q;obtain⟨LA,aR,aN⟩:=acJ q;injection aN with aN bG;subst aN;subst bG
  obtain⟨fq,dd⟩:=aT.aci p aR;obtain⟨bx,bX,cy,c0,cr,dY⟩:=aT.put_eq aR;obtain⟨br,bN,cW,dj,eU,eP⟩:=aT.put_eq dd;refine⟨fq,Qy dd,br.trans bx.symm,bN.trans bX.symm,cW.trans cy.symm,dj.trans c0.symm,eU.trans cr.symm,bx.trans fy,cy.trans fF,cr.trans wP,fun t=>?_,fun t aM=>?_⟩
  ·rw[eP];by_cases au:o.dst=some t
   ·rw[bg au,bg au,dY,bg au]
   ·rw[a3 au,a3 au];show(X.T.ff p).get t=(S.T.ff p).get t;rw[uR]
  ·rw[dY,a3 aM,uR]
 unfold one at he ⊢;rw[pU x1];cases aq:eZ l S.T o with
 |none=>rw[aq] at he;cases he
 |some b=>
  rw[aq] at he;cases b with
  |false=>exact key S undef H rfl rfl rfl rfl he
  |true=>
   have he:oy S H o.dst (ct P call aE S H o)=some (.ok a1 H1):=he;show ∃fq,oy (S.only p) H o.dst (ct P call aE (S.only p) H o)=some (.ok fq H1)/\_;rw[CT (S:=S) (aB:=S.only p) rfl (Er x1)];cases gd:ct P call aE S H o with
   |none=>rw[gd] at he;cases he
   |some r=>
    rw[gd] at he;cases r with
    |val v bK=>exact key S v bK rfl rfl rfl rfl he
    |skip bK=>exact key S undef bK rfl rfl rfl rfl he
    |h9 c bK=>have he:some (c6.h9 c S bK)=some (.ok a1 H1):=he;injection he with he;cases he
    |ft d=>
     have he:wj S H o.dst d=some (.ok a1 H1):=he;show ∃fq,wj (S.only p) H o.dst d=some (.ok fq H1)/\_;obtain⟨T,n,eY,bB,bf,b8⟩:=S;cases b8 with
     |some l=>cases he
     |none=>exact key (aT.yY d ⟨T,n,eY,bB,bf,none⟩) undef H rfl rfl rfl rfl he
    |wz=>
     have he:Bu S H o.dst (oC S)=some (.ok a1 H1):=he;show ∃fq,Bu (S.only p) H o.dst (oC (S.only p))=some (.ok fq H1)/\_;have al:oC (S.only p)=oC S:=rfl;rw[al];cases x8:oC S with
     |none=>rw[x8] at he;cases he
     |some q=>
      obtain⟨v,bf⟩:=q;rw[x8] at he;obtain⟨T,n,eY,bB,BS,b8⟩:=S;exact key (aT.tp bf ⟨T,n,eY,bB,BS,b8⟩) v H rfl rfl rfl rfl he
theorem Pf(af:sj ops.toList cf)(av:Inv P B w0 call aE ops.toList cf dv iz H0 hW fr iM C K G S H μ w tmps ds cs D A)(ag:ops[i]?=some o)(pa:∀j,(Oper.hi o).testBit j=true->D j=true):
 ∀t∈looks ops.toList o,free ops.toList C D t=true:=fun t aM=>vA.2 fun⟨j,dJ,a,b,c,d⟩=>by
 rcases af.look j i dJ o t c (by simpa using ag) d aM with q|⟨q,_⟩
 ·have:=pa j q;rw[b] at this;cases this
 ·have hk:K.testBit j=false:=by
   cases hk:K.testBit j with
   |false=>rfl
   |true=>have:=av.k j hk;rw[b] at this;cases this
  have:=(av.vC j dJ a hk c).1;rw[q] at this;cases this
def k6(D:Nat->Bool)(i:Nat):Nat->Bool:=fun j=>if j=i then true else D j
theorem pF{j:Nat}:k6 D i j=true↔D j=true\/j=i:=by unfold k6;by_cases h:j=i<;>simp[h]
theorem wX{j:Nat}(h:k6 D i j=false):D j=false/\j≠i:=by
 unfold k6 at h;by_cases e:j=i
 ·rw[bg e] at h;cases h
 ·rw[a3 e] at h;exact⟨h,e⟩
theorem V6{t:Nat}(au:free ops.toList C (k6 D i) t=true)(ag:ops[i]?=some o):free ops.toList C D t=true\/o.dst=some t:=by
 by_cases h:Jt ops.toList C D t
 ·obtain⟨j,dJ,a,b,c,d⟩:=h;by_cases od:j=i
  ·subst od;have:ops.toList[j]?=some o:=by simpa using ag
   rw[this] at c;injection c with c;subst c;exact .inr d
  ·exfalso;refine vA.1 au ⟨j,dJ,a,?_,c,d⟩;unfold k6;rw[a3 od];exact b
 ·exact .inl (vA.2 h)
theorem acG(hf:nc P B w0 call)(mP:tA P B w0 aE)(af:sj ops.toList cf)(av:Inv P B w0 call aE ops.toList cf dv iz H0 hW fr iM C K G S H μ w tmps ds cs D A)
 (Ag:∀j,C.testBit j=true->K.testBit j=true\/G.testBit j=true)(il:C.testBit i=true)(er:D i=false)(ag:ops[i]?=some o)(pa:∀j,(Oper.hi o).testBit j=true->D j=true):
 ∃bd a7 fS en cw,Steps P (lone (bt fr tmps ds (.inRegion ops (i::rest)::k)) cs w) (lone (bt fr fS en (.inRegion ops rest::k)) cw a7)/\
  Inv P B w0 call aE ops.toList cf dv iz H0 hW fr iM C K G S H bd a7 fS en cw (k6 D i) A:=by
 have h4:ops.toList[i]?=some o:=by simpa using ag
 have Hz:=Pf af av ag pa;have hk:K.testBit i=false:=by
  cases hk:K.testBit i with
  |false=>rfl
  |true=>have:=av.k i hk;rw[er] at this;cases this
 have WU:G.testBit i=true:=by
  rcases Ag i il with q|q
  ·rw[hk] at q;cases q
  ·exact q
 obtain⟨agN,b,aq⟩:=av.vC i o il hk h4;have x1:∀t∈looks ops.toList o,(S.only (free ops.toList C D)).T.get t=S.T.get t:=fun t aM=>by
  show(S.T.ff _).get t=_;rw[aQ.GP,Hz t aM];rfl
 --Kn stays
 have fin:∀(bd:bz) (a7:World) (fS:Array Value) (en:List Deferred) (cw:List Frame) (mx:aT) (v:Value),bL P B w0 bd H a7->Step iz bd H0 H->iA hW.bB iM cw->
  (S.only (free ops.toList C D)).put o.dst v=some mx->(∀t,o.dst=some t->S.T.get t=some v)->gO bd mx fr fS en cw->
  (∀(j:Nat) dJ,C.testBit j=true->D j=false->j≠i->dv.testBit j=true->ops.toList[j]?=some dJ->eZ ops.toList S.T dJ=some true->μ (A j)=none->A j<H.ax->bd (A j)=none)->
  Inv P B w0 call aE ops.toList cf dv iz H0 hW fr iM C K G S H bd a7 fS en cw (k6 D i) A:=by
  intro bd a7 fS en cw mx v gB dM iq kT ay Hx HZ;obtain⟨br,bN,cW,dj,eU,eP⟩:=aT.put_eq kT;refine⟨gB,?_,dM,iq,av.bB,av.b8,fun j a5=>?_,av.zx,fun j dJ m a5 eu hm=>?_,av.xh,fun j a5=>pF.2 (.inl (av.k j a5)),fun j dJ a5 rA eu=>?_,?_⟩
  ·refine Hx.conv br.symm bN.symm cW.symm dj.symm eU.symm fun t u q=>?_;obtain⟨aR,aN⟩:=uy.1 q;rw[eP];by_cases au:o.dst=some t
   ·rw[bg au];rw[ay t au] at aN;exact aN
   ·rw[a3 au];rcases V6 aR ag with r|r
    ·exact uy.2 ⟨r,aN⟩
    ·exact absurd r au
  ·rcases pF.1 a5 with q|rfl
   ·exact av.sub j q
   ·exact il
  ·rcases pF.1 a5 with q|rfl
   ·exact pF.2 (.inl (av.down j dJ m q eu hm))
   ·rw[h4] at eu;injection eu with eu;subst eu
    exact pF.2 (.inl (pa m hm))
  ·obtain⟨cm,w9,cn⟩:=av.vC j dJ a5 rA eu;refine⟨cm,w9,cn.move rfl rfl (fun _ _=>rfl) (fun _ _=>rfl) (fun _ h=>⟨h,rfl⟩) rfl fun ah aK z4=>?_⟩;obtain⟨d1,d2⟩:=wX z4;refine⟨d1,fun e6 _ ⟨aC,aZ,cJ,eo,cp⟩=>⟨?_,aZ,cJ,eo,cp⟩⟩;exact HZ j dJ a5 d1 d2 aK eu (ah▸cn.g) aC eo
  ·intro x y pt yE U aF vF rp vL vM o8 oj ob oc dT;exact av.inj x y pt yE U aF (wX vF).1 (wX rp).1 vL vM o8 oj ob oc dT
 --by yA,where nothing is made
 have lO:∀v,one P call aE ops.toList (S.only (free ops.toList C D)) H o=km (S.only (free ops.toList C D)) o.dst v H->(∀t,o.dst=some t->S.T.get t=some v)->
  ∃bd a7 fS en cw,Steps P (lone (bt fr tmps ds (.inRegion ops (i::rest)::k)) cs w) (lone (bt fr fS en (.inRegion ops rest::k)) cw a7)/\
  Inv P B w0 call aE ops.toList cf dv iz H0 hW fr iM C K G S H bd a7 fS en cw (k6 D i) A:=by
  intro v kR ay;obtain⟨mx,kT⟩:=aT.yH (S:=S) (p:=free ops.toList C D) aq.lt v;rw[Qy kT] at kR;obtain⟨bd,a7,fS,en,cw,cm,cn,cR,fk,e9,fY,fJ⟩:=yA (k:=k) (rest:=rest) hf mP av.h av.f ag kR;refine⟨bd,a7,fS,en,cw,fJ,fin bd a7 fS en cw mx v cm (av.jk.trans cn) (av.xf.trans ?_) kT ay cR fun j dJ _ _ _ _ _ _ hm cD=>(cn.ff _ cD hm).1⟩;have:(S.only (free ops.toList C D)).bB=hW.bB:=av.bB;rw[<-this];exact fk
 have p4:eZ ops.toList (S.only (free ops.toList C D)).T o=some b:=by rw[pU x1];exact aq.g
 cases b with
 |false=>
  refine lO undef ?_ (aq.no rfl);unfold one;rw[p4];rfl
 |true=>
  cases aK:dv.testBit i with
  |false=>
   obtain⟨v,aC,aZ⟩:=aq.val rfl aK WU;refine lO v ?_ aZ;unfold one;rw[p4];show oy _ H o.dst (ct P call aE (S.only (free ops.toList C D)) H o)=_;rw[CT (S:=S) (aB:=S.only (free ops.toList C D)) rfl (Er x1),aC];rfl
  |true=>
   obtain⟨e6,dN,aC,aZ,cJ⟩:=aq.iL rfl aK;obtain⟨cE,eW,jT,mS,mT⟩:=cJ er;have pP:k' P (S.only (free ops.toList C D)).T o.op=some (e6,dN):=by rw[FM x1];exact aC
   obtain⟨mW,N,sz,cX,cM,fo,ix⟩:=Tl av.f.t pP w;have hw:=Nj av.f.t p4;have dz:fr.roundOf=none\/∀c,o.op≠.defer c:=.inr fun c q=>by rw[q] at aC;cases aC
   obtain⟨XO,iP⟩:=av.h.fill (L:=⟨w.heap.size,N,sz⟩) cE mS eW mT rfl cM;have Y6:bc (μ.put (A i) ⟨w.heap.size,N,sz⟩) (dN.at (A i)) (dN.at w.heap.size):=hp.rel ix (L:=⟨w.heap.size,N,sz⟩) (bz.iw _ _ _);obtain⟨mx,kT⟩:=aT.yH (S:=S) (p:=free ops.toList C D) aq.lt (dN.at (A i));obtain⟨f1,_⟩:=Jv (av.f.mono iP) Y6 kT;refine⟨_,_,_,_,_,.one (JX ag hw dz cX),fin _ _ _ _ _ mx (dN.at (A i)) XO ?_ av.xf kT aZ f1 ?_⟩
   ·refine⟨av.jk.ext.trans iP,av.jk.ax,av.jk.bp,fun id o5 hm=>?_⟩;obtain⟨a,b⟩:=av.jk.ff id o5 hm;refine⟨?_,b⟩;rw[bz.qy _ _ (by omega)];exact a
   ·intro j dJ a5 z4 od vJ eu HB hm cD;rw[bz.qy _ _ ?_]
    ·exact hm
    ·intro q;exact od (av.inj j i dJ o a5 il z4 er vJ aK eu h4 HB aq.g q)
theorem acF(hf:nc P B w0 call)(mP:tA P B w0 aE)(af:sj ops.toList cf)(av:Inv P B w0 call aE ops.toList cf dv iz H0 hW fr iM C K G S H μ w tmps ds cs D A)
 (il:C.testBit i=false)(ag:ops[i]?=some o)(pa:∀j,(Oper.hi o).testBit j=true->D j=true)(kR:one P call aE ops.toList S H o=some (.ok a1 H1))
 {r8:Nat}(Nw:r8=q8 ops.toList ops.toList.length (Nat.lor K (Nat.pow 2 i)))(W0:∀j,(Oper.hi o).testBit j=true->r8.testBit j=true)(WZ:r8.testBit i=true):
 ∃bd a7 fS en cw,Steps P (lone (bt fr tmps ds (.inRegion ops (i::rest)::k)) cs w) (lone (bt fr fS en (.inRegion ops rest::k)) cw a7)/\
  Inv P B w0 call aE ops.toList cf dv iz H0 hW fr iM (Nat.lor C (Nat.pow 2 i)) r8 (Nat.land G dv) a1 H1 bd a7 fS en cw (k6 D i) A:=by
 have h4:ops.toList[i]?=some o:=by simpa using ag
 have Hz:=Pf af av ag pa;have xE:D i=false:=by
  cases au:D i with
  |false=>rfl
  |true=>have:=av.sub i au;rw[il] at this;cases this
 obtain⟨fq,t1,t2,t3,t4,t5,t6,t7,t8,t9,t10,t11⟩:=abf Hz kR;obtain⟨bd,a7,fS,en,cw,cm,cn,cR,fk,e9,fY,fJ⟩:=yA (k:=k) (rest:=rest) hf mP av.h av.f ag t1;have NR:∀(j:Nat) dJ m,k6 D i j=true->ops.toList[j]?=some dJ->(Oper.hi dJ).testBit m=true->k6 D i m=true:=fun j dJ m a5 eu hm=>by
  rcases pF.1 a5 with q|rfl
  ·exact pF.2 (.inl (av.down j dJ m q eu hm))
  ·rw[h4] at eu;injection eu with eu;subst eu
   exact pF.2 (.inl (pa m hm))
 have Nx:∀j,r8.testBit j=true->k6 D i j=true:=fun j a5=>by
  rw[Nw] at a5;refine Uj (D:=k6 D i) NR (fun m hm=>?_) j a5;rcases jH.1 hm with q|rfl
  ·exact pF.2 (.inl (av.k m q))
  ·exact pF.2 (.inr rfl)
 have HY:∀{j:Nat},(Nat.lor C (Nat.pow 2 i)).testBit j=true->j≠i->C.testBit j=true:=fun{j} a5 dP=>by
  rcases jH.1 a5 with q|q
  ·exact q
  ·exact absurd q.symm dP
 --ah1 ad1 LU not ahZ done af8 look at Kn is written now
 have n9:∀{j:Nat} {dJ:Oper},C.testBit j=true->r8.testBit j=false->ops.toList[j]?=some dJ->∀t∈looks ops.toList dJ,a1.T.get t=S.T.get t:=fun{j dJ} a5 rA eu t aM=>by
  refine t11 t fun au=>?_;rcases af.look i j o dJ t h4 eu au aM with q|⟨_,q|q⟩
  ·have:=av.xh j dJ i a5 eu q;rw[il] at this;cases this
  ·subst q;rw[il] at a5;cases a5
  ·rw[W0 j q] at rA;cases rA
 have agy:∀{j:Nat},r8.testBit j=false->j≠i->D j=false->K.testBit j=false:=fun{j} _ _ au=>by
  cases hk:K.testBit j with
  |false=>rfl
  |true=>have:=av.k j hk;rw[au] at this;cases this
 have N':∀{j:Nat},k6 D i j=false->r8.testBit j=false:=fun{j} au=>by
  cases hk:r8.testBit j with
  |false=>rfl
  |true=>have:=Nx j hk;rw[au] at this;cases this
 refine⟨bd,a7,fS,en,cw,fJ,⟨cm,?_,av.jk.trans cn,av.xf.trans ?_,t8.trans av.bB,t9.trans av.b8,fun j a5=>?_,fun j a5=>?_,NR,fun j dJ m a5 eu hm=>?_,Nx,fun j dJ a5 rA eu=>?_,?_⟩⟩
 ·refine cR.conv t2.symm t3.symm t4.symm t5.symm t6.symm fun t u q=>?_;obtain⟨aR,aN⟩:=uy.1 q;rw[t10];by_cases au:o.dst=some t
  ·rw[bg au];exact aN
  ·rw[a3 au];rw[t11 t au] at aN;refine uy.2 ⟨?_,aN⟩;rw[vA] at aR ⊢;intro⟨j,dJ,a,b,c,d⟩;refine aR ⟨j,dJ,jH.2 (.inl a),?_,c,d⟩;unfold k6;rw[a3 (fun e=>by subst e;rw[il] at a;cases a)];exact b
 ·have:(S.only (free ops.toList C D)).bB=hW.bB:=av.bB;rw[<-this];exact fk
 ·rcases pF.1 a5 with q|rfl
  ·exact jH.2 (.inl (av.sub j q))
  ·exact jH.2 (.inr rfl)
 ·rcases jH.1 a5 with q|rfl
  ·exact av.zx j q
  ·exact⟨o,h4⟩
 ·rcases jH.1 a5 with q|rfl
  ·exact jH.2 (.inl (av.xh j dJ m q eu hm))
  ·rw[h4] at eu;injection eu with eu;subst eu
   exact jH.2 (.inl (av.sub m (pa m hm)))
 ·have od:j≠i:=fun e=>by subst e;rw[WZ] at rA;cases rA
  have N1:=HY a5 od;cases hk:K.testBit j with
  |true=>
   exfalso;have kc:∀{n zc:Nat},zc.testBit j=true->(q8 ops.toList n zc).testBit j=true:=by
    intro n;induction n with
    |zero=>intro zc h;exact h
    |succ n aP=>
     intro zc h;simp only[q8];refine aP ?_;cases ah:zc.testBit n with
     |false=>exact h
     |true=>
      rw[b1];cases nth ops.toList n with
      |none=>exact h
      |some o=>simp only;rw[uK,h];rfl
   rw[Nw,kc (jH.2 (.inl hk))] at rA;cases rA
  |false=>
   obtain⟨bn,w9,bQ⟩:=av.vC j dJ N1 hk eu;refine⟨bn,w9,bQ.move t7 t9 (n9 N1 rA eu) (fun t aM=>t11 t fun au=>af.dst i j o dJ t h4 eu (Ne.symm od) au aM) (fun aK cK=>?_) rfl fun ah aK z4=>?_⟩
   ·rw[EO,aK] at cK;simp at cK
   ·obtain⟨d1,d2⟩:=wX z4;refine⟨d1,fun e6 dC ⟨aC,aZ,cJ,eo,cp⟩=>?_⟩;obtain⟨dE,ej⟩:=cn.ff _ eo aC;exact⟨dE,by rw[cn.bp];exact aZ,cJ,jL eo cn.ax,by rw[ej (by rw[cp];exact dC)];exact cp⟩
 ·intro x y pt yE U aF vF rp vL vM o8 oj ob oc dT;obtain⟨d1,d2⟩:=wX vF;obtain⟨d3,d4⟩:=wX rp;have OH:=HY U d2;have OL:=HY aF d4;rw[pU (n9 OH (N' vF) o8)] at ob;rw[pU (n9 OL (N' rp) oj)] at oc;exact av.inj x y pt yE OH OL d1 d3 vL vM o8 oj ob oc dT
end
end
end Go.Cre

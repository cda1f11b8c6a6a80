/- A part of the proof of TableBounds. -/
import Derived.Test.YtccpobhlccjkiaaGreatDoorCad
import Derived.Laws.Sem
import Derived.Lib.MakeNoZero
import Derived.KernelRfl
set_option linter.defProp false
set_option linter.unusedVariables false
set_option linter.unusedSimpArgs false
namespace Go.Cre
noncomputable section
open Go.RowKit
open Classical
def VS(ops:List Oper)(C:Nat)(D:Nat->Bool)(t:Nat):Prop:=∃(i:Nat) (o:Oper),C.testBit i=true/\D i=false/\ops[i]?=some o/\o.dst=some t
def free (ops:List Oper)(C:Nat)(D:Nat->Bool)(t:Nat):Bool:=decide (¬VS ops C D t)
def An{ops:List Oper}{C:Nat}{D:Nat->Bool}{t:Nat}:free ops C D t=true↔¬VS ops C D t:=by unfold free;exact Eu
structure Good (P:Program) (call:eW) (aO:hX) (ops:List Oper) (dg G:Nat) (aic:Nat) (S:aY) (H:aw) (μ:bU) (D:Nat->Bool) (A:Nat->Nat) (i:Nat) (o:Oper) (b:Bool):Prop where
 g:gK ops S.T o=some b
 lt:∀t,o.dst=some t->t<S.n/\∃u,S.T.get t=some u
 no:b=false->∀t,o.dst=some t->S.T.get t=some undef
 val:b=true->dg.testBit i=false->G.testBit i=true->∃v,cA P call aO S H o=some (.val v H)/\∀t,o.dst=some t->S.T.get t=some v
 iF:b=true->dg.testBit i=true->∃gS eK,oG P S.T o.op=some (gS,eK)/\(∀t,o.dst=some t->S.T.get t=some (eK.at (A i)))/\
  (D i=false->μ (A i)=none/\H.bJ<=A i/\aic<=A i/\A i<H.ao/\H.mem.get (A i)=some gS)
structure Inv (P:Program) (B:Nat->Prop) (w0:World) (call:eW) (aO:hX) (ops:List Oper) (bx dg:Nat) (ko:bU) (H0:aw) (jE:aY) (fr:Frame) (ky:List Frame)
 (C K G:Nat) (S:aY) (H:aw) (μ:bU) (w:World) (tmps:Array Value) (ds:List Deferred) (cs:List Frame) (D:Nat->Bool) (A:Nat->Nat):Prop where
 h:bZ P B w0 μ H w
 f:iW P μ (S.only (free ops C D)) fr tmps ds cs
 ir:Step ko μ H0 H
 BM:kR jE.bQ ky cs
 bQ:S.bQ=jE.bQ
 cx:S.cx=jE.cx
 sub:∀i,D i=true->C.testBit i=true
 Hx:∀i,C.testBit i=true->∃o,ops[i]?=some o
 down:∀(i:Nat) o j,D i=true->ops[i]?=some o->(Oper.gE o).testBit j=true->D j=true
 Ew:∀(i:Nat) o j,C.testBit i=true->ops[i]?=some o->(Oper.gE o).testBit j=true->C.testBit j=true
 k:∀i,K.testBit i=true->D i=true
 rD:∀(i:Nat) o,C.testBit i=true->K.testBit i=false->ops[i]?=some o->bx.testBit i=false/\∃b,Good P call aO ops dg G H0.ao S H μ D A i o b
 inj:∀(i j:Nat) CT eD,C.testBit i=true->C.testBit j=true->D i=false->D j=false->dg.testBit i=true->dg.testBit j=true->ops[i]?=some CT->ops[j]?=some eD->
  gK ops S.T CT=some true->gK ops S.T eD=some true->A i=A j->i=j
section
variable {P:Program}{B:Nat->Prop}{w0 w:World}{μ ko:bU}{H H0 H':aw}{S jE aL:aY}{fr:Frame}{tmps:Array Value}{ds:List Deferred}{cs ky:List Frame}{call:eW}{aO:hX}
variable {ops:List Oper}{bx dg C K G:Nat}{D:Nat->Bool}{A:Nat->Nat}{i:Nat}{o:Oper}
def aY.axf{dst:Option Tmp}{v:Value}(he:S.put dst v=some aL):∀t,dst=some t->t<aL.n/\∃u,aL.T.get t=some u:=fun t aM=>by
 have e:=aY.put_eq he;refine⟨?_,v,by rw[e.2.2.2.2.2,aP aM]⟩;subst aM;obtain⟨T,n,gy,bQ,bg,cx⟩:=S;have he:Bool.rec (motive:=fun _=>Option aY) none (aY.r3 n gy bQ bg cx (aZ.put v T t)) (Nat.ble (Nat.succ t) n)=some aL:=he;rw[e.1];show t<n;cases ak:Nat.ble (Nat.succ t) n with
 |false=>rw[ak] at he;cases he
 |true=>exact iE ak
def iW.conv{a3 hb:aY}(h:iW P μ a3 fr tmps ds cs)(aF:hb.n=a3.n)(aV:hb.ds=a3.ds)(cj:hb.bQ=a3.bQ)(eT:hb.bg=a3.bg)(cR:hb.cx=a3.cx)
 (aM:∀t v,hb.T.get t=some v->a3.T.get t=some v):iW P μ hb fr tmps ds cs:=
 ⟨⟨by rw[aF];exact h.t.1,fun t v q=>h.t.2 t v (aM t v q)⟩,by rw[aV];exact h.d,by rw[cj];exact h.kind,fun q=>h.vU (cR▸q),fun l q=>h.A6 l (cR▸q),(fun q=>by rw[eT];exact h.bg (cj▸q)),h.fn⟩
def xJ{p:Nat->Bool}{t:Nat}{v:Value}:(S.only p).T.get t=some v↔p t=true/\S.T.get t=some v:=by
 show(S.T.fU p).get t=some v↔_;rw[aZ.Ip];cases p t<;>simp
def Good.move{pI:Nat}{bh:bU}{DF:Nat->Bool}{rb:Nat->Nat}{b:Bool}(aB:Good P call aO ops dg G H0.ao S H μ D A i o b)(aA:aL.n=S.n)(ar:aL.cx=S.cx)
 (aj:∀t∈looks ops o,aL.T.get t=S.T.get t)(av:∀t,o.dst=some t->aL.T.get t=S.T.get t)
 (cS:dg.testBit i=false->pI.testBit i=true->G.testBit i=true/\H'=H)(gn:rb i=A i)
 (T2:b=true->dg.testBit i=true->DF i=false->D i=false/\(∀gS,lr (some gS)=false->μ (A i)=none/\H.bJ<=A i/\H0.ao<=A i/\A i<H.ao/\H.mem.get (A i)=some gS->bh (A i)=none/\H'.bJ<=A i/\H0.ao<=A i/\A i<H'.ao/\H'.mem.get (A i)=some gS)):
 Good P call aO ops dg pI H0.ao aL H' bh DF rb i o b:=by
 refine⟨by rw[tF aj];exact aB.g,fun t aM=>?_,fun ak t aM=>by rw[av t aM];exact aB.no ak t aM,fun ak aI Su=>?_,fun ak aI=>?_⟩
 ·obtain⟨a,b⟩:=aB.lt t aM;exact⟨by rw[aA];exact a,by rw[av t aM];exact b⟩
 ·obtain⟨ca,rfl⟩:=cS aI Su;obtain⟨v,aF,aV⟩:=aB.val ak aI ca;exact⟨v,by rw[Ie ar (Kk aj)];exact aF,fun t aM=>by rw[av t aM];exact aV t aM⟩
 ·obtain⟨gS,eK,aF,aV,cj⟩:=aB.iF ak aI;refine⟨gS,eK,by rw[QB aj];exact aF,fun t aM=>by rw[av t aM,gn];exact aV t aM,fun dS=>?_⟩;obtain⟨aN,aH⟩:=T2 ak aI dS;rw[gn];exact aH gS (YA aF) (cj aN)
def quiet(hs:wF ops bx)(aD:Inv P B w0 call aO ops bx dg ko H0 jE fr ky C K G S H μ w tmps ds cs D A)(hi:C.testBit i=false)(al:ops[i]?=some o)(ax:bx.testBit i=false)
 {j:Nat}{eD:Oper}(aW:C.testBit j=true\/j=i)(fG:ops[j]?=some eD){t:Nat}(aM:t∈looks ops eD):o.dst≠some t:=fun av=>by
 rcases hs.look i j o eD t al fG av aM with q|⟨q,_⟩
 ·rcases aW with aW|rfl
  ·have:=aD.Ew j eD i aW fG q;rw[hi] at this;cases this
  ·have:=hs.down j eD j fG q;omega
 ·rw[ax] at q;cases q
def anR(h:fits ops C i=true)(al:ops[i]?=some o):C.testBit i=false/\∀j,(Oper.gE o).testBit j=true->C.testBit j=true:=by
 unfold fits at h;rw[lQ,al] at h;simp only[gQ,tj] at h;exact⟨h.1,fun j aW=>WB h.2 aW⟩
def an6(dS:D i=false)(al:ops[i]?=some o){t:Nat}(h:free ops (Nat.lor C (Nat.pow 2 i)) D t=true):free ops C D t=true/\o.dst≠some t:=by
 rw[An] at h;refine⟨An.2 fun⟨j,eD,a,b,c,d⟩=>h ⟨j,eD,mL.2 (.inl a),b,c,d⟩,fun av=>h ⟨i,o,mL.2 (.inr I),dS,al,av⟩⟩
def UQ(hs:wF ops bx)(aD:Inv P B w0 call aO ops bx dg ko H0 jE fr ky C K G S H μ w tmps ds cs D A)(al:ops[i]?=some o)(ay:fits ops C i=true)(ax:bx.testBit i=false)
 {v:Value}{b:Bool}{pI:Nat}{rb:Nat->Nat}(ap:S.put o.dst v=some aL)(aB:gK ops S.T o=some b)(fB:b=false->v=undef)
 (h4:bZ P B w0 μ H' w)(c4:Step ko μ H0 H')(hZ:H.ao<=H'.ao)(qK:H'.bJ=H.bJ)(xf:∀x,x<H.ao->H'.mem.get x=H.mem.get x)
 (gn:∀j,j≠i->rb j=A j)(cS:∀j,j≠i->dg.testBit j=false->pI.testBit j=true->G.testBit j=true/\H'=H)
 (qS:b=true->dg.testBit i=false->pI.testBit i=true->cA P call aO S H' o=some (.val v H'))
 (S1:b=true->dg.testBit i=true->rb i=H.ao/\H'.ao=H.ao+1/\H0.ao<=H.ao/\∃gS eK,oG P S.T o.op=some (gS,eK)/\v=eK.at H.ao/\H'.mem.get H.ao=some gS):
 Inv P B w0 call aO ops bx dg ko H0 jE fr ky (Nat.lor C (Nat.pow 2 i)) K pI aL H' μ w tmps ds cs D rb:=by
 obtain⟨hi,hm⟩:=anR ay al;have ER:D i=false:=by
  cases av:D i with
  |false=>rfl
  |true=>have:=aD.sub i av;rw[hi] at this;cases this
 obtain⟨dj,ht,jx,m3,q0,p7⟩:=aY.put_eq ap;have sH:∀{j:Nat} {eD:Oper},(C.testBit j=true\/j=i)->ops[j]?=some eD->∀t∈looks ops eD,aL.T.get t=S.T.get t:=fun{j eD} aW fG t aM=>by
  rw[p7,aG (quiet hs aD hi al ax aW fG aM)]
 refine⟨h4,?_,c4,aD.BM,jx.trans aD.bQ,q0.trans aD.cx,fun j aW=>mL.2 (.inl (aD.sub j aW)),fun j aW=>?_,aD.down,fun j eD k aW fG hk=>?_,aD.k,fun j eD aW hk fG=>?_,?_⟩
 ·refine aD.f.conv dj ht jx m3 q0 fun t u q=>?_;obtain⟨aN,aH⟩:=xJ.1 q;obtain⟨dc,c9⟩:=an6 ER al aN;rw[p7,aG c9] at aH;exact xJ.2 ⟨dc,aH⟩
 ·rcases mL.1 aW with q|rfl
  ·exact aD.Hx j q
  ·exact⟨o,al⟩
 ·rcases mL.1 aW with q|rfl
  ·exact mL.2 (.inl (aD.Ew j eD k q fG hk))
  ·rw[al] at fG;injection fG with fG;subst fG
   exact mL.2 (.inl (hm k hk))
 ·by_cases sR:j=i
  ·subst sR;rw[al] at fG;injection fG with fG;subst fG
   refine⟨ax,b,?_⟩;refine⟨by rw[tF (sH (.inr I) al)];exact aB,aY.axf ap,fun ak t aM=>by rw[p7,aP aM,fB ak],fun ak aI Su=>?_,fun ak aI=>?_⟩
   ·exact⟨v,by rw[Ie q0 (Kk (sH (.inr I) al))];exact qS ak aI Su,fun t aM=>by rw[p7,aP aM]⟩
   ·obtain⟨ba,br,bG,gS,eK,cD,rfl,ef⟩:=S1 ak aI;refine⟨gS,eK,by rw[QB (sH (.inr I) al)];exact cD,fun t aM=>by rw[p7,aP aM,ba],fun _=>?_⟩;rw[ba];exact⟨aD.h.aen,by rw[qK];exact aD.h.lH,bG,by omega,ef⟩
  ·have aW:C.testBit j=true:=by
    rcases mL.1 aW with q|q
    ·exact q
    ·exact absurd q.symm sR
   obtain⟨ca,Eb,b7⟩:=aD.rD j eD aW hk fG;refine⟨ca,Eb,b7.move dj q0 (sH (.inl aW) fG) (fun t aM=>?_) (cS j sR) (gn j sR) fun ak aI dS=>⟨dS,fun gS _ ⟨aF,aV,cj,eT,cR⟩=>⟨aF,by rw[qK];exact aV,cj,by omega,by rw[xf _ eT];exact cR⟩⟩⟩;rw[p7,aG (fun q=>hs.dst i j o eD t al fG (Ne.symm sR) q aM)]
 ·have cI:∀(j:Nat) eD,C.testBit j=true->D j=false->dg.testBit j=true->ops[j]?=some eD->gK ops S.T eD=some true->A j<H.ao:=fun j eD aW dS aI fG Tr=>by
   have hk:K.testBit j=false:=by
    cases hk:K.testBit j with
    |false=>rfl
    |true=>have:=aD.k j hk;rw[dS] at this;cases this
   obtain⟨_,Eb,b7⟩:=aD.rD j eD aW hk fG;have e:=b7.g;rw[Tr] at e;injection e with e;subst e
   obtain⟨gS,eK,_,_,q⟩:=b7.iF I aI;exact(q dS).2.2.2.1
  intro x y jm zu U an B6 w4 Ce Cf tR sW tK sQ eU;by_cases jV:x=i
  ·by_cases xm:y=i
   ·rw[jV,xm]
   ·exfalso;subst jV;rw[al] at tR;injection tR with tR;subst tR
    rw[tF (sH (.inr I) al),aB] at tK;injection tK with tK;subst tK
    have an:C.testBit y=true:=by
     rcases mL.1 an with q|q
     ·exact q
     ·exact absurd q.symm xm
    rw[tF (sH (.inl an) sW)] at sQ;have:=cI y zu an w4 Cf sW sQ;rw[(S1 I Ce).1,gn y xm] at eU;omega
  ·have gd:C.testBit x=true:=by
    rcases mL.1 U with q|q
    ·exact q
    ·exact absurd q.symm jV
   rw[tF (sH (.inl gd) tR)] at tK;by_cases xm:y=i
   ·exfalso;subst xm;rw[al] at sW;injection sW with sW;subst sW
    rw[tF (sH (.inr I) al),aB] at sQ;injection sQ with sQ;subst sQ
    have:=cI x jm gd B6 Ce tR tK;rw[(S1 I Cf).1,gn x jV] at eU;omega
   ·have an:C.testBit y=true:=by
     rcases mL.1 an with q|q
     ·exact q
     ·exact absurd q.symm xm
    rw[tF (sH (.inl an) sW)] at sQ;rw[gn x jV,gn y xm] at eU;exact aD.inj x y jm zu gd an B6 w4 Ce Cf tR sW tK sQ eU
def Step.new(c4:Step ko μ H0 H){b:fP}{a:Nat}(aA:H.new b=some (a,H')):Step ko μ H0 H':=by
 obtain⟨rfl,aF,aV,cj,eT,cR⟩:=aw.p4 aA;refine⟨c4.ext,by have:=c4.ao;omega,by rw[eT];exact c4.bJ,fun id xa hm=>?_⟩;obtain⟨a,b⟩:=c4.fU id xa hm;exact⟨a,fun al=>by rw[cR,aG (by have:=c4.ao;omega)];exact b al⟩
def Zd(hs:wF ops bx)(sI:∀(i:Nat) o,ops[i]?=some o->dg.testBit i=false->AK o.op=false){cf:dP}:∀(a0:List jM) (C G:Nat) (S:aY) (H:aw) (A:Nat->Nat),
 Inv P B w0 call aO ops bx dg ko H0 jE fr ky C K G S H μ w tmps ds cs D A->pD ops bx dg C K G a0=true->dA P call aO ops a0 S H=some cf->
 ∃ta x2 pI aL H' rb,Inv P B w0 call aO ops bx dg ko H0 jE fr ky x2 K pI aL H' μ w tmps ds cs D rb/\pD ops bx dg x2 K pI ta=true/\dA P call aO ops ta aL H'=some cf/\
  (ta=[]\/∃i rest,ta=.bw i::rest):=by
 intro a0;induction a0 with
 |nil=>intro C G S H A aD ap he;exact⟨[],C,G,S,H,A,aD,ap,he,.inl I⟩
 |cons s a0 aC=>
  intro C G S H A aD ap he;have he:Zz P call aO ops (dA P call aO ops a0) S H s=some cf:=he;cases s with
  |bw i=>exact⟨.bw i::a0,C,G,S,H,A,aD,ap,he,.inr ⟨i,a0,I⟩⟩
  |b6 l=>
   simp only[pD,gQ] at ap;have az:=ajn ap.1;have he:(bif l.all (BK P call aO ops S H) then dA P call aO ops a0 S H else none)=some cf:=he;cases aj:l.all (BK P call aO ops S H) with
   |false=>rw[aj] at he;cases he
   |true=>
    rw[aj,cd] at he;rw[sf] at aj;refine aC C (Nat.lor G (CI l)) S H A ?_ ap.2 he;refine⟨aD.h,aD.f,aD.ir,aD.BM,aD.bQ,aD.cx,aD.sub,aD.Hx,aD.down,aD.Ew,aD.k,fun j eD aW hk fG=>?_,aD.inj⟩;obtain⟨ca,b,b7⟩:=aD.rD j eD aW hk fG;refine⟨ca,b,b7.g,b7.lt,b7.no,fun ak aI cS=>?_,b7.iF⟩;rw[Be,zO,auf] at cS;rcases cS with cS|cS
    ·exact b7.val ak aI cS
    ·have ax:=aj j cS;unfold BK at ax;rw[lQ,fG] at ax;simp only at ax;rw[b7.g,ak] at ax;have hM:Rc H.ao S.T eD.dst (cA P call aO S H eD)=true:=ax;cases hD:cA P call aO S H eD with
     |none=>rw[hD] at hM;cases hM
     |some r=>
      rw[hD] at hM;cases r with
      |val v bT=>
       have hM:(Nat.beq bT.ao H.ao&&(match eD.dst with|none=>true|some d=>(match S.T.get d with|some u=>ep 8 v u|none=>false)))=true:=hM
       simp only[gQ] at hM;have ka:bT=H:=Z' (hs.bw j eD fG ca) (sI j eD fG aI) hD (eM hM.1);refine⟨v,by rw[ka],fun t aM=>?_⟩;have qJ:(match eD.dst with|none=>true|some d=>(match S.T.get d with|some u=>ep 8 v u|none=>false))=true:=hM.2
       rw[aM] at qJ;simp only at qJ;cases cq:S.T.get t with
       |none=>rw[cq] at qJ;cases qJ
       |some u=>rw[cq] at qJ;rw[aAB qJ]
      |skip _=>cases hM
      |g6 _=>cases hM
      |gN _ _=>cases hM
      |A4=>cases hM
  |val i=>
   simp only[pD,gQ,tj] at ap;obtain⟨⟨⟨ay,ax⟩,aI⟩,ap⟩:=ap;have he:Option.rec (motive:=fun _=>Option dP) none (mM P call aO ops S H (dA P call aO ops a0)) (nth ops i)=some cf:=he;cases al:nth ops i with
   |none=>rw[al] at he;cases he
   |some o=>
    rw[al] at he;rw[lQ] at al;have he:Option.rec (motive:=fun _=>Option dP) none (aha P call aO S H o (dA P call aO ops a0)) (gK ops S.T o)=some cf:=he;cases aB:gK ops S.T o with
    |none=>rw[aB] at he;cases he
    |some b=>
     rw[aB] at he
     have fin:∀v,(b=false->v=undef)->(b=true->cA P call aO S H o=some (.val v H))->qe (dA P call aO ops a0) H (S.put o.dst v)=some cf->
      ∃ta x2 pI aL H' rb,Inv P B w0 call aO ops bx dg ko H0 jE fr ky x2 K pI aL H' μ w tmps ds cs D rb/\pD ops bx dg x2 K pI ta=true/\dA P call aO ops ta aL H'=some cf/\(ta=[]\/∃i rest,ta=.bw i::rest):=by
      intro v ae ag q;cases ma:S.put o.dst v with
      |none=>rw[ma] at q;cases q
      |some aL=>
       rw[ma] at q;refine aC _ _ aL H A (UQ hs aD al ay ax ma aB ae aD.h aD.ir (b2 _) I (fun _ _=>rfl) (fun _ _=>rfl) (fun j aW _ cS=>⟨?_,I⟩) (fun ak _ _=>ag ak) (fun _ h=>by rw[aI] at h;cases h)) ap q;rcases mL.1 cS with q|q
       ·exact q
       ·exact absurd q.symm aW
     cases b with
     |false=>exact fin undef (fun _=>rfl) (fun h=>by cases h) he
     |true=>
      have he:Du S H o.dst (dA P call aO ops a0) (cA P call aO S H o)=some cf:=he;cases hD:cA P call aO S H o with
      |none=>rw[hD] at he;cases he
      |some r=>
       rw[hD] at he;cases r with
       |val v bT=>
        have he:(bif Nat.beq bT.ao H.ao then qe (dA P call aO ops a0) H (S.put o.dst v) else none)=some cf:=he;cases hZ:Nat.beq bT.ao H.ao with
        |false=>rw[hZ] at he;cases he
        |true=>
        rw[hZ,cd] at he;have ka:bT=H:=Z' (hs.bw i o al ax) (sI i o al aI) hD (eM hZ);subst ka;exact fin v (fun h=>by cases h) (fun _=>hD) he
       |skip _=>cases he
       |g6 _=>cases he
       |gN _ _=>cases he
       |A4=>cases he
  |iF i=>
   simp only[pD,gQ,tj] at ap;obtain⟨⟨⟨ay,ax⟩,aI⟩,ap⟩:=ap;have he:Option.rec (motive:=fun _=>Option dP) none (Hj P ops S H (dA P call aO ops a0)) (nth ops i)=some cf:=he;cases al:nth ops i with
   |none=>rw[al] at he;cases he
   |some o=>
    rw[al] at he;rw[lQ] at al;have he:Option.rec (motive:=fun _=>Option dP) none (Yy P S H o (dA P call aO ops a0)) (gK ops S.T o)=some cf:=he;have aaO:∀j,j≠i->dg.testBit j=false->(Nat.lor (Nat.land G dg) (Nat.pow 2 i)).testBit j=true->False:=fun j aW Cd cS=>by
     rcases mL.1 cS with q|q
     ·rw[Ps,Cd] at q;simp at q
     ·exact aW q.symm
    cases aB:gK ops S.T o with
    |none=>rw[aB] at he;cases he
    |some b=>
     rw[aB] at he;cases b with
     |false=>
      have he:qe (dA P call aO ops a0) H (S.put o.dst undef)=some cf:=he;cases ma:S.put o.dst undef with
      |none=>rw[ma] at he;cases he
      |some aL=>
       rw[ma] at he;exact aC _ _ aL H A (UQ hs aD al ay ax ma aB (fun _=>rfl) aD.h aD.ir (b2 _) I (fun _ _=>rfl) (fun _ _=>rfl) (fun j aW Cd cS=>(aaO j aW Cd cS).elim) (fun h=>by cases h) (fun h=>by cases h)) ap he
     |true=>
      have he:Qz S H o.dst (dA P call aO ops a0) (oG P S.T o.op)=some cf:=he;cases gD:oG P S.T o.op with
      |none=>rw[gD] at he;cases he
      |some q=>
       obtain⟨gS,eK⟩:=q;rw[gD] at he;have he:QA S o.dst (dA P call aO ops a0) eK (H.new gS)=some cf:=he;cases aA:H.new gS with
       |none=>rw[aA] at he;cases he
       |some q=>
        obtain⟨a,H1⟩:=q;rw[aA] at he;obtain⟨ZT,aF,aV,cj,eT,cR⟩:=aw.p4 aA;subst ZT;have pq:qe (dA P call aO ops a0) H1 (S.put o.dst (eK.at H.ao))=some cf:=he;cases ma:S.put o.dst (eK.at H.ao) with
        |none=>rw[ma] at pq;cases pq
        |some aL=>
         rw[ma] at pq
         refine aC _ _ aL H1 (fun j=>if j=i then H.ao else A j) (UQ hs aD al ay ax ma aB (fun h=>by cases h) (aD.h.awG aA (YA gD)) (aD.ir.new aA) (by omega) eT (fun x U=>by rw[cR,aG (by omega)])
          (fun j aW=>aG aW) (fun j aW Cd cS=>(aaO j aW Cd cS).elim) (fun _ h=>by rw[aI] at h;cases h) (fun _ _=>⟨aP I,aF,aD.ir.ao,gS,eK,gD,I,by rw[cR,aP I]⟩)) ap pq
end
section
variable {P:Program}{B:Nat->Prop}{w0 w:World}{μ ko:bU}{H H0 H' H1:aw}{S jE aL a3:aY}{fr:Frame}{tmps:Array Value}{ds:List Deferred}{cs ky:List Frame}{call:eW}{aO:hX}
variable {ops:Array Oper}{bx dg C K G:Nat}{D:Nat->Bool}{A:Nat->Nat}{i:Nat}{o:Oper}{k:List Item}{rest:List Nat}
def aZ.Ks{α:Type}{a v:α}{t:aZ α}:∀{n:Nat},t.get n=some v->∃j0,aZ.put a t n=some j0:=by
 induction t with
 |leaf=>intro n h;cases h
 |node u l r y' za=>
  intro n h;cases n with
  |zero=>exact⟨_,I⟩
  |succ m=>
   rw[aZ.sB] at h;rw[aZ.OW];by_cases hm:m % 2=0
   ·rw[aP hm] at h ⊢;obtain⟨a9,e⟩:=y' h;rw[e];exact⟨_,I⟩
   ·rw[aG hm] at h ⊢;obtain⟨cu,e⟩:=za h;rw[e];exact⟨_,I⟩
def aY.Gb{p:Nat->Bool}{dst:Option Tmp}(h:∀t,dst=some t->t<S.n/\∃u,S.T.get t=some u)(v:Value):∃qx,(S.only p).put dst v=some qx:=by
 cases dst with
 |none=>exact⟨_,I⟩
 |some d=>
  obtain⟨ae,u,ag⟩:=h d I;obtain⟨T,n,gy,bQ,bg,cx⟩:=S;show ∃qx,Bool.rec (motive:=fun _=>Option aY) none (aY.r3 n gy bQ bg cx (aZ.put v (T.fU p) d)) (Nat.ble (Nat.succ d) n)=some qx;have ak:Nat.ble (Nat.succ d) n=true:=nc ae;rw[ak];obtain⟨rj,aF⟩:=aZ.Ks (a:=v) ag;obtain⟨aBC,aV⟩:=aZ.ae9 p aF;rw[aV];exact⟨_,I⟩
def afr{X:aY}{dst:Option Tmp}{v:Value}{cf:dP}(h:m5 X dst v H'=some cf):∃a3,X.put dst v=some a3/\cf=.ok a3 H':=by
 unfold m5 oq at h;cases ap:X.put dst v with
 |none=>rw[ap] at h;cases h
 |some a3=>rw[ap] at h;have h:some (dP.ok a3 H')=some cf:=h;injection h with h;exact⟨a3,I,h.symm⟩
def afs{X:aY}{dst:Option Tmp}{v:Value}(h:X.put dst v=some a3):m5 X dst v H'=some (.ok a3 H'):=by
 unfold m5;rw[h];rfl
def avE{l:List Oper}{p:Nat->Bool}(aj:∀t∈looks l o,p t=true)(he:one P call aO l S H o=some (.ok a3 H1)):
 ∃hb,one P call aO l (S.only p) H o=some (.ok hb H1)/\hb.n=a3.n/\hb.ds=a3.ds/\hb.bQ=a3.bQ/\hb.bg=a3.bg/\hb.cx=a3.cx/\a3.n=S.n/\a3.bQ=S.bQ/\a3.cx=S.cx/\
  (∀t,hb.T.get t=if o.dst=some t then a3.T.get t else(S.only p).T.get t)/\(∀t,o.dst≠some t->a3.T.get t=S.T.get t):=by
 have yU:∀t∈looks l o,(S.only p).T.get t=S.T.get t:=fun t aM=>by
  show(S.T.fU p).get t=_;rw[aZ.Ip,aj t aM];rfl
 have key:∀(X:aY) (v:Value) (bT:aw),X.n=S.n->X.bQ=S.bQ->X.cx=S.cx->X.T=S.T->m5 X o.dst v bT=some (.ok a3 H1)->
  ∃hb,m5 (X.only p) o.dst v bT=some (.ok hb H1)/\hb.n=a3.n/\hb.ds=a3.ds/\hb.bQ=a3.bQ/\hb.bg=a3.bg/\hb.cx=a3.cx/\a3.n=S.n/\a3.bQ=S.bQ/\a3.cx=S.cx/\
  (∀t,hb.T.get t=if o.dst=some t then a3.T.get t else(S.only p).T.get t)/\(∀t,o.dst≠some t->a3.T.get t=S.T.get t):=by
  intro X v bT dH eP ra PM q;obtain⟨Qm,aN,aH⟩:=afr q;injection aH with aH bo;subst aH;subst bo
  obtain⟨hb,db⟩:=aY.axg p aN;obtain⟨ba,br,bG,cD,cN,ef⟩:=aY.put_eq aN;obtain⟨bc,bl,b0,dp,fD,ev⟩:=aY.put_eq db;refine⟨hb,afs db,bc.trans ba.symm,bl.trans br.symm,b0.trans bG.symm,dp.trans cD.symm,fD.trans cN.symm,ba.trans dH,bG.trans eP,cN.trans ra,fun t=>?_,fun t aM=>?_⟩
  ·rw[ev];by_cases av:o.dst=some t
   ·rw[aP av,aP av,ef,aP av]
   ·rw[aG av,aG av];show(X.T.fU p).get t=(S.T.fU p).get t;rw[PM]
  ·rw[ef,aG aM,PM]
 unfold one at he ⊢;rw[tF yU];cases aB:gK l S.T o with
 |none=>rw[aB] at he;cases he
 |some b=>
  rw[aB] at he;cases b with
  |false=>exact key S undef H I I I I he
  |true=>
   have he:o2 S H o.dst (cA P call aO S H o)=some (.ok a3 H1):=he;show ∃hb,o2 (S.only p) H o.dst (cA P call aO (S.only p) H o)=some (.ok hb H1)/\_;rw[Ie (S:=S) (aL:=S.only p) I (Kk yU)];cases hD:cA P call aO S H o with
   |none=>rw[hD] at he;cases he
   |some r=>
    rw[hD] at he;cases r with
    |val v bT=>exact key S v bT I I I I he
    |skip bT=>exact key S undef bT I I I I he
    |gN c bT=>have he:some (dP.gN c S bT)=some (.ok a3 H1):=he;injection he with he;cases he
    |g6 d=>
     have he:AX S H o.dst d=some (.ok a3 H1):=he;show ∃hb,AX (S.only p) H o.dst d=some (.ok hb H1)/\_;obtain⟨T,n,gy,bQ,bg,cx⟩:=S;cases cx with
     |some l=>cases he
     |none=>exact key (aY.Gy d ⟨T,n,gy,bQ,bg,none⟩) undef H I I I I he
    |A4=>
     have he:F3 S H o.dst (q5 S)=some (.ok a3 H1):=he;show ∃hb,F3 (S.only p) H o.dst (q5 (S.only p))=some (.ok hb H1)/\_;have ar:q5 (S.only p)=q5 S:=rfl;rw[ar];cases qO:q5 S with
     |none=>rw[qO] at he;cases he
     |some q=>
      obtain⟨v,bg⟩:=q;rw[qO] at he;obtain⟨T,n,gy,bQ,KM,cx⟩:=S;exact key (aY.zJ bg ⟨T,n,gy,bQ,KM,cx⟩) v H I I I I he
def avF{l:List Oper}{p:Nat->Bool}{c:List PanicEntry}(aj:∀t∈looks l o,p t=true)(he:one P call aO l S H o=some (.gN c a3 H1)):
 a3=S/\one P call aO l (S.only p) H o=some (.gN c (S.only p) H1):=by
 have yU:∀t∈looks l o,(S.only p).T.get t=S.T.get t:=fun t aM=>by
  show(S.T.fU p).get t=_;rw[aZ.Ip,aj t aM];rfl
 have no:∀{X:aY} {v:Value} {bT:aw},m5 X o.dst v bT=some (.gN c a3 H1)->False:=fun q=>by
  obtain⟨Qm,_,aH⟩:=afr q;cases aH
 unfold one at he ⊢;rw[tF yU];cases aB:gK l S.T o with
 |none=>rw[aB] at he;cases he
 |some b=>
  rw[aB] at he;cases b with
  |false=>exact(no he).elim
  |true=>
   have he:o2 S H o.dst (cA P call aO S H o)=some (.gN c a3 H1):=he;show _/\o2 (S.only p) H o.dst (cA P call aO (S.only p) H o)=_;rw[Ie (S:=S) (aL:=S.only p) I (Kk yU)];cases hD:cA P call aO S H o with
   |none=>rw[hD] at he;cases he
   |some r=>
    rw[hD] at he;cases r with
    |val v bT=>exact(no he).elim
    |skip bT=>exact(no he).elim
    |gN bt bT=>
     have he:some (dP.gN bt S bT)=some (.gN c a3 H1):=he;injection he with he;injection he with ae ag aE
     subst ae;subst ag;subst aE;exact⟨I,I⟩
    |g6 d=>
     have he:AX S H o.dst d=some (.gN c a3 H1):=he;obtain⟨T,n,gy,bQ,bg,cx⟩:=S;cases cx with
     |some l=>cases he
     |none=>exact(no he).elim
    |A4=>
     have he:F3 S H o.dst (q5 S)=some (.gN c a3 H1):=he;cases qO:q5 S with
     |none=>rw[qO] at he;cases he
     |some q=>
      obtain⟨v,bg⟩:=q;rw[qO] at he;exact(no he).elim
def U3(hs:wF ops.toList bx)(aD:Inv P B w0 call aO ops.toList bx dg ko H0 jE fr ky C K G S H μ w tmps ds cs D A)(al:ops[i]?=some o)(qP:∀j,(Oper.gE o).testBit j=true->D j=true):
 ∀t∈looks ops.toList o,free ops.toList C D t=true:=fun t aM=>An.2 fun⟨j,eD,a,b,c,d⟩=>by
 rcases hs.look j i eD o t c (by simpa using al) d aM with q|⟨q,_⟩
 ·have:=qP j q;rw[b] at this;cases this
 ·have hk:K.testBit j=false:=by
   cases hk:K.testBit j with
   |false=>rfl
   |true=>have:=aD.k j hk;rw[b] at this;cases this
  have:=(aD.rD j eD a hk c).1;rw[q] at this;cases this
def oy(D:Nat->Bool)(i:Nat):Nat->Bool:=fun j=>if j=i then true else D j
def uJ{j:Nat}:oy D i j=true↔D j=true\/j=i:=by unfold oy;by_cases h:j=i<;>simp[h]
def DH{j:Nat}(h:oy D i j=false):D j=false/\j≠i:=by
 unfold oy at h;by_cases e:j=i
 ·rw[aP e] at h;cases h
 ·rw[aG e] at h;exact⟨h,e⟩
def an7{t:Nat}(av:free ops.toList C (oy D i) t=true)(al:ops[i]?=some o):free ops.toList C D t=true\/o.dst=some t:=by
 by_cases h:VS ops.toList C D t
 ·obtain⟨j,eD,a,b,c,d⟩:=h;by_cases sR:j=i
  ·subst sR;have:ops.toList[j]?=some o:=by simpa using al
   rw[this] at c;injection c with c;subst c;exact .inr d
  ·exfalso;refine An.1 av ⟨j,eD,a,?_,c,d⟩;unfold oy;rw[aG sR];exact b
 ·exact .inl (An.2 h)
def axK(gT:qk P B w0 call)(od:yf P B w0 aO)(hs:wF ops.toList bx)(aD:Inv P B w0 call aO ops.toList bx dg ko H0 jE fr ky C K G S H μ w tmps ds cs D A)
 (yL:∀j,C.testBit j=true->K.testBit j=true\/G.testBit j=true)(l6:C.testBit i=true)(dS:D i=false)(al:ops[i]?=some o)(qP:∀j,(Oper.gE o).testBit j=true->D j=true):
 ∃bh a' hx fy cT,Steps P (lone (bR fr tmps ds (.inRegion ops (i::rest)::k)) cs w) (lone (bR fr hx fy (.inRegion ops rest::k)) cT a')/\
  Inv P B w0 call aO ops.toList bx dg ko H0 jE fr ky C K G S H bh a' hx fy cT (oy D i) A:=by
 have kd:ops.toList[i]?=some o:=by simpa using al
 have Tm:=U3 hs aD al qP;have hk:K.testBit i=false:=by
  cases hk:K.testBit i with
  |false=>rfl
  |true=>have:=aD.k i hk;rw[dS] at this;cases this
 have ao5:G.testBit i=true:=by
  rcases yL i l6 with q|q
  ·rw[hk] at q;cases q
  ·exact q
 obtain⟨yO,b,aB⟩:=aD.rD i o l6 hk kd;have yU:∀t∈looks ops.toList o,(S.only (free ops.toList C D)).T.get t=S.T.get t:=fun t aM=>by
  show(S.T.fU _).get t=_;rw[aZ.Ip,Tm t aM];rfl
 --W7 stays
 have fin:∀(bh:bU) (a':World) (hx:Array Value) (fy:List Deferred) (cT:List Frame) (qx:aY) (v:Value),bZ P B w0 bh H a'->Step ko bh H0 H->kR jE.bQ ky cT->
  (S.only (free ops.toList C D)).put o.dst v=some qx->(∀t,o.dst=some t->S.T.get t=some v)->iW P bh qx fr hx fy cT->
  (∀(j:Nat) eD,C.testBit j=true->D j=false->j≠i->dg.testBit j=true->ops.toList[j]?=some eD->gK ops.toList S.T eD=some true->μ (A j)=none->A j<H.ao->bh (A j)=none)->
  Inv P B w0 call aO ops.toList bx dg ko H0 jE fr ky C K G S H bh a' hx fy cT (oy D i) A:=by
  intro bh a' hx fy cT qx v h4 c4 iI ma az Tj T2;obtain⟨bc,bl,b0,dp,fD,ev⟩:=aY.put_eq ma;refine⟨h4,?_,c4,iI,aD.bQ,aD.cx,fun j aW=>?_,aD.Hx,fun j eD m aW fG hm=>?_,aD.Ew,fun j aW=>uJ.2 (.inl (aD.k j aW)),fun j eD aW xb fG=>?_,?_⟩
  ·refine Tj.conv bc.symm bl.symm b0.symm dp.symm fD.symm fun t u q=>?_;obtain⟨aN,aH⟩:=xJ.1 q;rw[ev];by_cases av:o.dst=some t
   ·rw[aP av];rw[az t av] at aH;exact aH
   ·rw[aG av];rcases an7 aN al with r|r
    ·exact xJ.2 ⟨r,aH⟩
    ·exact absurd r av
  ·rcases uJ.1 aW with q|rfl
   ·exact aD.sub j q
   ·exact l6
  ·rcases uJ.1 aW with q|rfl
   ·exact uJ.2 (.inl (aD.down j eD m q fG hm))
   ·rw[kd] at fG;injection fG with fG;subst fG
    exact uJ.2 (.inl (qP m hm))
  ·obtain⟨ca,Eb,b7⟩:=aD.rD j eD aW xb fG;refine⟨ca,Eb,b7.move I I (fun _ _=>rfl) (fun _ _=>rfl) (fun _ h=>⟨h,I⟩) I fun ak aI IB=>?_⟩;obtain⟨d1,d2⟩:=DH IB;refine⟨d1,fun gS _ ⟨aF,aV,cj,eT,cR⟩=>⟨?_,aV,cj,eT,cR⟩⟩;exact T2 j eD aW d1 d2 aI fG (ak▸b7.g) aF eT
  ·intro x y jm zu U an B6 w4 Ce Cf tR sW tK sQ eU;exact aD.inj x y jm zu U an (DH B6).1 (DH w4).1 Ce Cf tR sW tK sQ eU
 --by CX,where nothing is made
 have pC:∀v,one P call aO ops.toList (S.only (free ops.toList C D)) H o=m5 (S.only (free ops.toList C D)) o.dst v H->(∀t,o.dst=some t->S.T.get t=some v)->
  ∃bh a' hx fy cT,Steps P (lone (bR fr tmps ds (.inRegion ops (i::rest)::k)) cs w) (lone (bR fr hx fy (.inRegion ops rest::k)) cT a')/\
  Inv P B w0 call aO ops.toList bx dg ko H0 jE fr ky C K G S H bh a' hx fy cT (oy D i) A:=by
  intro v ob az;obtain⟨qx,ma⟩:=aY.Gb (S:=S) (p:=free ops.toList C D) aB.lt v;rw[afs ma] at ob;obtain⟨bh,a',hx,fy,cT,ca,b7,cw,f',gJ,hL,hd⟩:=CX (k:=k) (rest:=rest) gT od aD.h aD.f al ob;refine⟨bh,a',hx,fy,cT,hd,fin bh a' hx fy cT qx v ca (aD.ir.trans b7) (aD.BM.trans ?_) ma az cw fun j eD _ _ _ _ _ _ hm cI=>(b7.fU _ cI hm).1⟩;have:(S.only (free ops.toList C D)).bQ=jE.bQ:=aD.bQ;rw[<-this];exact f'
 have yS:gK ops.toList (S.only (free ops.toList C D)).T o=some b:=by rw[tF yU];exact aB.g
 cases b with
 |false=>
  refine pC undef ?_ (aB.no I);unfold one;rw[yS];rfl
 |true=>
  cases aI:dg.testBit i with
  |false=>
   obtain⟨v,aF,aV⟩:=aB.val I aI ao5;refine pC v ?_ aV;unfold one;rw[yS];show o2 _ H o.dst (cA P call aO (S.only (free ops.toList C D)) H o)=_;rw[Ie (S:=S) (aL:=S.only (free ops.toList C D)) I (Kk yU),aF];rfl
  |true=>
   obtain⟨gS,eK,aF,aV,cj⟩:=aB.iF I aI;obtain⟨cz,cX,lO,o0,vE⟩:=cj dS;have rA:oG P (S.only (free ops.toList C D)).T o.op=some (gS,eK):=by rw[QB yU];exact aF
   obtain⟨kk,N,sz,dc,c9,fI,iL⟩:=ajs aD.f.t rA w;have hw:=aaG aD.f.t yS;have eb:fr.roundOf=none\/∀c,o.op≠.defer c:=.inr fun c q=>by rw[q] at aF;cases aF
   obtain⟨aqv,h7⟩:=aD.h.fill (L:=⟨w.heap.size,N,sz⟩) cz o0 cX vE I c9;have NG:bk (μ.put (A i) ⟨w.heap.size,N,sz⟩) (eK.at (A i)) (eK.at w.heap.size):=jL.rel iL (L:=⟨w.heap.size,N,sz⟩) (bU.k9 _ _ _);obtain⟨qx,ma⟩:=aY.Gb (S:=S) (p:=free ops.toList C D) aB.lt (eK.at (A i));obtain⟨f1,_⟩:=V0 (aD.f.mono h7) NG ma;refine⟨_,_,_,_,_,.one (Wz al hw eb dc),fin _ _ _ _ _ qx (eK.at (A i)) aqv ?_ aD.BM ma aV f1 ?_⟩
   ·refine⟨aD.ir.ext.trans h7,aD.ir.ao,aD.ir.bJ,fun id xa hm=>?_⟩;obtain⟨a,b⟩:=aD.ir.fU id xa hm;refine⟨?_,b⟩;rw[bU.vT _ _ (by omega)];exact a
   ·intro j eD aW IB sR Cd fG Tr hm cI;rw[bU.vT _ _ ?_]
    ·exact hm
    ·intro q;exact sR (aD.inj j i eD o aW l6 IB dS Cd aI fG kd Tr aB.g q)
def axJ{c:List PanicEntry}(gT:qk P B w0 call)(od:yf P B w0 aO)(hs:wF ops.toList bx)(aD:Inv P B w0 call aO ops.toList bx dg ko H0 jE fr ky C K G S H μ w tmps ds cs D A)
 (al:ops[i]?=some o)(qP:∀j,(Oper.gE o).testBit j=true->D j=true)(ob:one P call aO ops.toList S H o=some (.gN c a3 H1)){todo:List Item}:
 lZ P B w0 ko H0 jE fr ky (lone (bR fr tmps ds (.inRegion ops (i::rest)::k)) cs w) todo (.gN c (a3.gone (xE ops.toList)) H1):=by
 obtain⟨rfl,t1⟩:=avF (U3 hs aD al qP) ob;obtain⟨bh,a',hx,fy,cT,c',ik,ca,b7,cw,f',gJ,hL,hd,pR⟩:=CX (k:=k) (rest:=rest) gT od aD.h aD.f al t1;refine⟨bh,a',hx,fy,cT,c',ik,ca,aD.ir.trans b7,⟨⟨c6 _,fun t v q=>cw.t.2 t v ?_⟩,cw.d,cw.kind,cw.vU,cw.A6,cw.bg,cw.fn⟩,aD.BM.trans (by have:(a3.only (free ops.toList C D)).bQ=jE.bQ:=aD.bQ;rw[<-this];exact f'),aD.bQ,aD.cx,hd,pR⟩;obtain⟨aN,aH⟩:=(xJ (S:=a3) (p:=xE ops.toList)).1 q;refine xJ.2 ⟨An.2 fun⟨j,eD,_,_,b,d⟩=>?_,aH⟩;have:=sf.1 aN eD (dq b);rw[d] at this;simp at this
def axI(gT:qk P B w0 call)(od:yf P B w0 aO)(hs:wF ops.toList bx)(aD:Inv P B w0 call aO ops.toList bx dg ko H0 jE fr ky C K G S H μ w tmps ds cs D A)
 (l6:C.testBit i=false)(al:ops[i]?=some o)(qP:∀j,(Oper.gE o).testBit j=true->D j=true)(ob:one P call aO ops.toList S H o=some (.ok a3 H1))
 {x6:Nat}(aaU:x6=wN ops.toList ops.toList.length (Nat.lor K (Nat.pow 2 i)))(apa:∀j,(Oper.gE o).testBit j=true->x6.testBit j=true)(ao':x6.testBit i=true):
 ∃bh a' hx fy cT,Steps P (lone (bR fr tmps ds (.inRegion ops (i::rest)::k)) cs w) (lone (bR fr hx fy (.inRegion ops rest::k)) cT a')/\
  Inv P B w0 call aO ops.toList bx dg ko H0 jE fr ky (Nat.lor C (Nat.pow 2 i)) x6 (Nat.land G dg) a3 H1 bh a' hx fy cT (oy D i) A:=by
 have kd:ops.toList[i]?=some o:=by simpa using al
 have Tm:=U3 hs aD al qP;have ER:D i=false:=by
  cases av:D i with
  |false=>rfl
  |true=>have:=aD.sub i av;rw[l6] at this;cases this
 obtain⟨hb,t1,t2,t3,t4,t5,t6,t7,t8,t9,t10,t11⟩:=avE Tm ob;obtain⟨bh,a',hx,fy,cT,ca,b7,cw,f',gJ,hL,hd⟩:=CX (k:=k) (rest:=rest) gT od aD.h aD.f al t1;have abA:∀(j:Nat) eD m,oy D i j=true->ops.toList[j]?=some eD->(Oper.gE eD).testBit m=true->oy D i m=true:=fun j eD m aW fG hm=>by
  rcases uJ.1 aW with q|rfl
  ·exact uJ.2 (.inl (aD.down j eD m q fG hm))
  ·rw[kd] at fG;injection fG with fG;subst fG
   exact uJ.2 (.inl (qP m hm))
 have aaV:∀j,x6.testBit j=true->oy D i j=true:=fun j aW=>by
  rw[aaU] at aW;refine alk (D:=oy D i) abA (fun m hm=>?_) j aW;rcases mL.1 hm with q|rfl
  ·exact uJ.2 (.inl (aD.k m q))
  ·exact uJ.2 (.inr I)
 have T1:∀{j:Nat},(Nat.lor C (Nat.pow 2 i)).testBit j=true->j≠i->C.testBit j=true:=fun{j} aW c7=>by
  rcases mL.1 aW with q|q
  ·exact q
  ·exact absurd q.symm c7
 --aFS azC YD not aFQ done aCL look at W7 is written now
 have sH:∀{j:Nat} {eD:Oper},C.testBit j=true->x6.testBit j=false->ops.toList[j]?=some eD->∀t∈looks ops.toList eD,a3.T.get t=S.T.get t:=fun{j eD} aW xb fG t aM=>by
  refine t11 t fun av=>?_;rcases hs.look i j o eD t kd fG av aM with q|⟨_,q|q⟩
  ·have:=aD.Ew j eD i aW fG q;rw[l6] at this;cases this
  ·subst q;rw[l6] at aW;cases aW
  ·rw[apa j q] at xb;cases xb
 have aDk:∀{j:Nat},x6.testBit j=false->j≠i->D j=false->K.testBit j=false:=fun{j} _ _ av=>by
  cases hk:K.testBit j with
  |false=>rfl
  |true=>have:=aD.k j hk;rw[av] at this;cases this
 have TQ:∀{j:Nat},oy D i j=false->x6.testBit j=false:=fun{j} av=>by
  cases hk:x6.testBit j with
  |false=>rfl
  |true=>have:=aaV j hk;rw[av] at this;cases this
 refine⟨bh,a',hx,fy,cT,hd,⟨ca,?_,aD.ir.trans b7,aD.BM.trans ?_,t8.trans aD.bQ,t9.trans aD.cx,fun j aW=>?_,fun j aW=>?_,abA,fun j eD m aW fG hm=>?_,aaV,fun j eD aW xb fG=>?_,?_⟩⟩
 ·refine cw.conv t2.symm t3.symm t4.symm t5.symm t6.symm fun t u q=>?_;obtain⟨aN,aH⟩:=xJ.1 q;rw[t10];by_cases av:o.dst=some t
  ·rw[aP av];exact aH
  ·rw[aG av];rw[t11 t av] at aH;refine xJ.2 ⟨?_,aH⟩;rw[An] at aN ⊢;intro⟨j,eD,a,b,c,d⟩;refine aN ⟨j,eD,mL.2 (.inl a),?_,c,d⟩;unfold oy;rw[aG (fun e=>by subst e;rw[l6] at a;cases a)];exact b
 ·have:(S.only (free ops.toList C D)).bQ=jE.bQ:=aD.bQ;rw[<-this];exact f'
 ·rcases uJ.1 aW with q|rfl
  ·exact mL.2 (.inl (aD.sub j q))
  ·exact mL.2 (.inr I)
 ·rcases mL.1 aW with q|rfl
  ·exact aD.Hx j q
  ·exact⟨o,kd⟩
 ·rcases mL.1 aW with q|rfl
  ·exact mL.2 (.inl (aD.Ew j eD m q fG hm))
  ·rw[kd] at fG;injection fG with fG;subst fG
   exact mL.2 (.inl (aD.sub m (qP m hm)))
 ·have sR:j≠i:=fun e=>by subst e;rw[ao'] at xb;cases xb
  have abQ:=T1 aW sR;cases hk:K.testBit j with
  |true=>
   exfalso;have l8:∀{n GQ:Nat},GQ.testBit j=true->(wN ops.toList n GQ).testBit j=true:=by
    intro n;induction n with
    |zero=>intro GQ h;exact h
    |succ n aC=>
     intro GQ h;simp only[wN];refine aC ?_;cases ak:GQ.testBit n with
     |false=>exact h
     |true=>
      rw[cd];cases nth ops.toList n with
      |none=>exact h
      |some o=>simp only;rw[Be,h];rfl
   rw[aaU,l8 (mL.2 (.inl hk))] at xb;cases xb
  |false=>
   obtain⟨bb,Eb,bt⟩:=aD.rD j eD abQ hk fG;refine⟨bb,Eb,bt.move t7 t9 (sH abQ xb fG) (fun t aM=>t11 t fun av=>hs.dst i j o eD t kd fG (Ne.symm sR) av aM) (fun aI cS=>?_) I fun ak aI IB=>?_⟩
   ·rw[Ps,aI] at cS;simp at cS
   ·obtain⟨d1,d2⟩:=DH IB;refine⟨d1,fun gS eF ⟨aF,aV,cj,eT,cR⟩=>?_⟩;obtain⟨eH,eQ⟩:=b7.fU _ eT aF;exact⟨eH,by rw[b7.bJ];exact aV,cj,kw eT b7.ao,by rw[eQ (by rw[cR];exact eF)];exact cR⟩
 ·intro x y jm zu U an B6 w4 Ce Cf tR sW tK sQ eU;obtain⟨d1,d2⟩:=DH B6;obtain⟨d3,d4⟩:=DH w4;have acE:=T1 U d2;have acH:=T1 an d4;rw[tF (sH acE (TQ B6) tR)] at tK;rw[tF (sH acH (TQ w4) sW)] at sQ;exact aD.inj x y jm zu acE acH d1 d3 Ce Cf tR sW tK sQ eU
def na(listed:Array Bool):Nat->Bool:=fun i=>listed.getD i false
def Xw{listed:Array Bool}{i:Nat}(hi:i<listed.size):na (listed.setIfInBounds i true)=oy (na listed) i:=by
 funext j
 unfold na oy;by_cases h:j=i
 ·subst h;simp[hi]
 ·rw[aG h];simp[Xr (Ne.symm h)]
def axG{listed:Array Bool}(en:listed.size=ops.size){i:Nat}(hi:i∈Region.ready .any ops listed):∃o,ops[i]?=some o/\i<ops.size/\na listed i=false/\∀j,(Oper.gE o).testBit j=true->na listed j=true:=by
 unfold Region.ready at hi;simp only[List.mem_filter,XX,gQ,tj] at hi;obtain⟨ae,ag,aE⟩:=hi;have cI:i<listed.size:=by omega
 refine⟨ops[i],by simp[ae],ae,by unfold na;simp[cI] at ag ⊢;exact ag,fun j aW=>?_⟩;unfold Oper.gE at aW;obtain⟨e,he,ak,rfl⟩:=ZV.1 aW;simp only[DD ae,Lz,Yf,ahX] at aE;have:=aE e (by simpa using he);rw[ak] at this;simpa[na] using this
def axH(hs:wF ops.toList bx){listed:Array Bool}(en:listed.size=ops.size):∀m,m<ops.size->na listed m=false->Region.ready .any ops listed≠[]:=by
 intro m;induction m using Nat.strongRecOn with
 |ind m aC=>
  intro hm av;by_cases gD:∀j,(Oper.gE ops[m]).testBit j=true->na listed j=true
  ·intro TU;have:m∈Region.ready .any ops listed:=by
    unfold Region.ready;simp only[List.mem_filter,XX,gQ,tj];refine⟨hm,?_,?_⟩
    ·have cI:m<listed.size:=by omega
     unfold na at av;simp[cI] at av ⊢;exact av
    ·simp only[DD hm,Lz,Yf,ahX];intro e he;cases ak:Region.binds .any e with
     |false=>rfl
     |true=>
      have:=gD e.on (ZV.2 ⟨e,by simpa using he,ak,I⟩);simpa[na] using this
   rw[TU] at this;cases this
  ·simp only[Classical.not_forall] at gD;obtain⟨j,aW,aqf⟩:=gD;have cI:=hs.down m ops[m] j (by simp[hm]) aW
   exact aC j cI (by omega) (by cases h:na listed j with
    |false=>rfl
    |true=>exact absurd h aqf)
def alD{listed:Array Bool}(h:listed.toList.count false=0):∀i,i<listed.size->na listed i=true:=fun i hi=>by
 have aQ:=List.count_eq_zero.1 h;unfold na;cases ak:listed.getD i false with
 |true=>rfl
 |false=>
  exfalso;refine aQ ?_;have:listed[i]=false:=by simpa[hi] using ak
  rw[<-this];simp
def count_set{listed:Array Bool}{i n:Nat}(hi:i<listed.size)(ay:na listed i=false)(ax:listed.toList.count false=n+1):(listed.setIfInBounds i true).toList.count false=n:=by
 have ak:listed[i]=false:=by unfold na at ay;simpa[hi] using ay
 have:(listed.setIfInBounds i true).toList=listed.toList.set i true:=by simp
 rw[this,List.count_set (by simpa using hi)];simp[ak,ax]
def an5(gD:∀i,C.testBit i=true->D i=true)(t:Nat):free ops.toList C D t=true:=An.2 fun⟨j,_,a,b,_,_⟩=>by
 rw[gD j a] at b;cases b
def amE(gT:qk P B w0 call)(od:yf P B w0 aO)(hs:wF ops.toList bx)(sI:∀(i:Nat) o,ops.toList[i]?=some o->dg.testBit i=false->AK o.op=false){cf:dP}:
 ∀(fuel vZ:Nat) (listed:Array Bool) (a0:List jM) (C K G:Nat) (S:aY) (H:aw) (A:Nat->Nat) (μ:bU) (w:World) (tmps:Array Value) (ds:List Deferred) (cs:List Frame),
 Inv P B w0 call aO ops.toList bx dg ko H0 jE fr ky C K G S H μ w tmps ds cs (na listed) A->pD ops.toList bx dg C K G a0=true->dA P call aO ops.toList a0 S H=some cf->
 (a0=[]\/∃i rest,a0=.bw i::rest)->listed.size=ops.size->listed.toList.count false=fuel->
 lZ P B w0 ko H0 jE fr ky (lone (bR fr tmps ds (.inRegion ops (Region.linearise.go .any ops fuel vZ listed [])::k)) cs w) k cf:=by
 intro fuel;induction fuel with
 |zero=>
  intro vZ listed a0 C K G S H A μ w tmps ds cs aD ap he dX en Nc;have gD:=alD Nc;have l6:∀i,i<ops.size->C.testBit i=true:=fun i hi=>aD.sub i (gD i (by omega));rcases dX with rfl|⟨i,rest,rfl⟩
  ·have he:some (dP.ok S H)=some cf:=he;injection he with he;subst he
   refine⟨μ,w,tmps,ds,cs,aD.h,aD.ir,?_,aD.BM,aD.bQ,aD.cx,.one Wx⟩;refine aD.f.conv I I I I I fun t v q=>xJ.2 ⟨an5 (fun i hi=>?_) t,q⟩;obtain⟨o,al⟩:=aD.Hx i hi;have:i<ops.toList.length:=(dO.1 al).1;exact gD i (by simp at this;omega)
  ·exfalso;simp only[pD,gQ] at ap;have ay:=ap.1.1.1.1.1;unfold fits at ay;rw[lQ] at ay;cases al:ops.toList[i]? with
   |none=>rw[al] at ay;simp at ay
   |some o=>
    have:i<ops.toList.length:=(dO.1 al).1;have:=l6 i (by simpa using this);simp[this] at ay
 |succ fuel aC=>
  intro vZ listed a0 C K G S H A μ w tmps ds cs aD ap he dX en Nc;have c7:Region.ready .any ops listed≠[]:=by
   have:0<listed.toList.count false:=by omega
   rw[List.count_pos_iff] at this;obtain⟨m,hm,e⟩:=List.mem_iff_getElem.1 this;have TL:m<listed.size:=by simpa using hm
   refine axH hs en m (by omega) ?_;unfold na;simp at e;simp[TL,e]
  simp only[Region.linearise.go]
  change lZ P B w0 ko H0 jE fr ky (lone (bR fr tmps ds (.inRegion ops (match(Region.ready .any ops listed)[vZ % (Region.ready .any ops listed).length]? with
   |some i=>Region.linearise.go .any ops fuel (vZ / (Region.ready .any ops listed).length) (listed.setIfInBounds i true) [i]
   |none=>[].reverse)::k)) cs w) k cf
  cases hi:(Region.ready .any ops listed)[vZ % (Region.ready .any ops listed).length]? with
  |none=>
   exfalso;have acg:0<(Region.ready .any ops listed).length:=List.length_pos_iff.2 c7;have cI:=lh vZ acg;rw[cU cI] at hi;cases hi
  |some i=>
   simp only
   rw[linearise_go_acc,List.reverse_singleton,aiu];obtain⟨o,al,cI,ER,qP⟩:=axG en (dq hi);have kd:ops.toList[i]?=some o:=by simpa using al
   have Nm:i<listed.size:=by omega
   have NB:(listed.setIfInBounds i true).size=ops.size:=by simpa using en
   have yL:∀j,C.testBit j=true->K.testBit j=true\/G.testBit j=true:=fun j aW=>by
    have lM:sub C (Nat.lor K G)=true:=by
     rcases dX with rfl|⟨acN,rest,rfl⟩
     ·simp only[pD,gQ] at ap;exact ap.2
     ·simp only[pD,gQ] at ap;exact ap.1.1.2
    have:=WB lM aW;rw[Be,zO] at this;exact this
   cases l6:C.testBit i with
   |true=>
    obtain⟨bh,a',hx,fy,cT,c4,IF⟩:=axK (k:=k) (rest:=Region.linearise.go .any ops fuel (vZ / (Region.ready .any ops listed).length) (listed.setIfInBounds i true) []) gT od hs aD yL l6 ER al qP;rw[<-Xw Nm] at IF;exact(aC _ _ a0 C K G S H A bh a' hx fy cT IF ap he dX NB (count_set Nm ER Nc)).steps c4
   |false=>
    rcases dX with rfl|⟨acN,rest,rfl⟩
    ·exfalso;simp only[pD,gQ] at ap;have:=as4 ap.1 i (by simpa using cI);rw[l6] at this;cases this
    ·have mA:=ap;simp only[pD,gQ] at ap;obtain⟨⟨⟨⟨⟨dj,ht⟩,jx⟩,m3⟩,q0⟩,p7⟩:=ap;have Tx:i=acN:=by
      have:=avG jx i o kd;rw[j8] at this;rcases this with q|q|q
      ·rw[l6] at q;cases q
      ·exact q
      ·exfalso;have asa:sub (Oper.gE o) C=true:=by
        unfold sub;have:Nat.land (Oper.gE o) C=Oper.gE o:=by
         apply aiE
         intro j;rw[Ps];cases aW:(Oper.gE o).testBit j with
         |false=>rfl
         |true=>rw[aD.sub j (qP j aW)];rfl
        rw[this];simp
       rw[asa] at q;cases q
     subst Tx;rw[lQ,kd] at q0;simp only[gQ] at q0;have he:Option.rec (motive:=fun _=>Option dP) none (fun o=>jS ops.toList (dA P call aO ops.toList rest) (one P call aO ops.toList S H o)) (nth ops.toList i)=some cf:=he;rw[lQ,kd] at he;have he:jS ops.toList (dA P call aO ops.toList rest) (one P call aO ops.toList S H o)=some cf:=he;cases ob:one P call aO ops.toList S H o with
     |none=>rw[ob] at he;cases he
     |some dc=>
      rw[ob] at he;cases dc with
      |gN c a3 H1=>
       have he:some (dP.gN c (a3.gone (xE ops.toList)) H1)=some cf:=he;injection he with he;subst he
       exact axJ gT od hs aD al qP ob
      |ok a3 H1=>
       have he:dA P call aO ops.toList rest a3 H1=some cf:=he;obtain⟨bh,a',hx,fy,cT,c4,IF⟩:=axI (k:=k) (rest:=Region.linearise.go .any ops fuel (vZ / (Region.ready .any ops listed).length) (listed.setIfInBounds i true) []) gT od hs aD l6 al qP ob I (fun j aW=>WB q0.1 aW) q0.2;rw[<-Xw Nm] at IF;obtain⟨ta,x2,pI,aL,H',rb,aN,aH,bo,db⟩:=Zd hs sI rest _ _ a3 H1 A IF p7 he;exact(aC _ _ ta x2 _ pI aL H' rb bh a' hx fy cT aN aH bo db NB (count_set Nm ER Nc)).steps c4
def ane(p0:P.follows .mixedOrders=true)(gT:qk P B w0 call)(od:yf P B w0 aO)(h:bZ P B w0 μ H w)(ay:iW P μ S fr tmps ds cs){cf:dP}{id:Nat}(he:yy P call aO ops.toList S H=some cf):
 lZ P B w0 μ H S fr cs (lone (bR fr tmps ds (.code (.region id ops true)::k)) cs w) k cf:=by
 unfold yy at he;cases av:Ex ops.toList with
 |false=>rw[av] at he;cases he
 |true=>
  rw[av,cd] at he;unfold Ex at av;simp only[gQ] at av;obtain⟨aqa,Td⟩:=av;have hs:=ayG aqa;have sI:∀(i:Nat) o,ops.toList[i]?=some o->(z6 ops.toList 0).testBit i=false->AK o.op=false:=fun i o al ak=>by
   cases aI:AK o.op with
   |false=>rfl
   |true=>
    have:=ajq (k:=0) al aI;rw[j8,ak] at this;cases this
  refine lZ.steps (.one ayR) ?_;simp only[Region.schedule,p0,Bool.true_or,NS];have aR:∀i,Nat.testBit 0 i=false:=fun i=>Nat.zero_testBit i;have Ar:∀i,na (Array.replicate ops.size false) i=false:=fun i=>by
   unfold na;by_cases hi:i<ops.size
   ·simp[hi]
   ·simp[hi]
  have aD:Inv P B w0 call aO ops.toList (Ek ops.toList ops.toList 0) (z6 ops.toList 0) μ H S fr cs 0 0 0 S H μ {w with drawn:=w.drawn+1} tmps ds cs (na (Array.replicate ops.size false)) (fun _=>0):=by
   refine⟨h.drawn _,?_,Step.refl _ _,kR.refl _ _ ay.vm,I,I,fun i hi=>?_,fun i hi=>?_,fun i o j hi=>?_,fun i o j hi=>?_,fun i hi=>?_,fun i o hi=>?_,fun i j CT eD hi=>?_⟩
   ·exact ay.conv I I I I I fun t v q=>(xJ.1 q).2
   ·rw[Ar] at hi;cases hi
   ·rw[aR] at hi;cases hi
   ·rw[Ar] at hi;cases hi
   ·rw[aR] at hi;cases hi
   ·rw[aR] at hi;cases hi
   ·rw[aR] at hi;cases hi
   ·rw[aR] at hi;cases hi
  obtain⟨ta,x2,pI,aL,H',rb,aN,aH,bo,db⟩:=Zd hs sI (Kq ops.toList) _ _ S H _ aD Td he;unfold Region.linearise;exact amE gT od hs sI ops.size _ _ ta x2 _ pI aL H' rb μ _ tmps ds cs aN aH bo db (by simp) (by simp)
end
section
variable {P:Program}{B:Nat->Prop}{w0 w:World}{μ ko:bU}{H H0 H' H1:aw}{S jE aL a3:aY}{fr:Frame}{tmps:Array Value}{ds:List Deferred}{cs ky:List Frame}{call:eW}{aO:hX}
variable {ops:Array Oper}{l:List Oper}{bx dg C K G:Nat}{D:Nat->Bool}{A:Nat->Nat}{i:Nat}{o:Oper}{k:List Item}{rest:List Nat}
end
section
variable {P:Program}{call:eW}{aO:hX}
end
def ah4(P:Program)(B:Nat->Prop)(w0:World)(call:eW):Prop:=∀(jf:Nat->Prop) (jA:World),(∀k,B k->jf k)->Kept B w0 jA->qk P jf jA call
def ai4(P:Program)(B:Nat->Prop)(w0:World)(aO:hX):Prop:=∀(jf:Nat->Prop) (jA:World),(∀k,B k->jf k)->Kept B w0 jA->yf P jf jA aO
section
variable {P:Program}{B jf:Nat->Prop}{w0 w a':World}{μ bh ko:bU}{H H0 H' H1:aw}{S jE aL a3:aY}{fr:Frame}{tmps:Array Value}{ds:List Deferred}{cs ky:List Frame}{call:eW}{aO:hX}
variable {ops:Array Oper}{l:List Oper}{bx dg C K G:Nat}{D:Nat->Bool}{A:Nat->Nat}{i:Nat}{o:Oper}{k:List Item}{rest:List Nat}{ws a m:Nat}{es:List (Nat×Value×Value)}
end
section
variable {P:Program}{ops:Array Oper}{L:Lit}{l:List Oper}{bx dg:Nat}{key el:TypeId}{zd:TypeDesc}{es:List (Nat×Value×Value)}{a:Nat}{aiY:aY}{i:Nat}{o:Oper}
end
section
variable {P:Program}{B:Nat->Prop}{w0 aGp:World}{ko:bU}{H0 bT aBt:aw}{jE aiY hb:aY}{fr:Frame}{ky:List Frame}{call:eW}{aO:hX}
variable {ops:Array Oper}{L:Lit}{l:List Oper}{bx dg:Nat}{key el:TypeId}{zd:TypeDesc}{es:List (Nat×Value×Value)}{a br:Nat}{k:List Item}
end
structure Reached (P:Program) (B:Nat->Prop) (w0:World) (μ:bU) (H:aw) (S:aY) (fr:Frame) (cs:List Frame) (aL:aY) (H':aw) (bh:bU) (a':World) (hx:Array Value) (fy:List Deferred) (cT:List Frame):Prop where
 h:bZ P B w0 bh H' a'
 ir:Step μ bh H H'
 f:iW P bh aL fr hx fy cT
 c:kR S.bQ cs cT
 bQ:aL.bQ=S.bQ
 cx:aL.cx=S.cx
def m9(P:Program)(B:Nat->Prop)(w0:World)(μ:bU)(H:aw)(S:aY)(fr:Frame)(cs:List Frame)(m:Machine)(k:List Item)(aL:aY)(H':aw):Exit->Prop
 |.normal=>∃bh a' hx fy cT,Reached P B w0 μ H S fr cs aL H' bh a' hx fy cT/\Steps P m (lone (bR fr hx fy k) cT a')
 |.exit id=>∃bh a' hx fy cT fT,Reached P B w0 μ H S fr cs aL H' bh a' hx fy cT/\exitTo id fT=exitTo id k/\Steps P m (lone (bR fr hx fy (.code (.exit id)::fT)) cT a')
 |.ret=>∃bh a' hx fy cT fT,Reached P B w0 μ H S fr cs aL H' bh a' hx fy cT/\Steps P m (lone (bR fr hx fy (.code .ret::fT)) cT a')
 |.panic chain=>∃bh a' hx fy cT HK fT,Reached P B w0 μ H S fr cs aL H' bh a' hx fy cT/\jC bh chain HK/\Steps P m (lone {bR fr hx fy fT with mode:=.panicking HK} cT a')
 |_=>False
def z3(c:Code)(it:Item):Prop:=it=.code c\/∃c',c=.loop c'/\it=.inLoop c'
def tk(P:Program)(B:Nat->Prop)(w0:World)(code:Code->aY->aw->Option (Exit×aY×aw)):Prop:=
 ∀c S H e aL H',code c S H=some (e,aL,H')->∀μ w fr tmps ds cs k it,bZ P B w0 μ H w->iW P μ S fr tmps ds cs->z3 c it->m9 P B w0 μ H S fr cs (lone (bR fr tmps ds (it::k)) cs w) k aL H' e
section
variable {P:Program}{B:Nat->Prop}{w0 w:World}{μ fO:bU}{H H1 H':aw}{S a3 aL:aY}{fr:Frame}{tmps:Array Value}{ds:List Deferred}{cs g4:List Frame}{m m':Machine}{k aX:List Item}{e:Exit}
def Reached.trans{kp:bU}{hb:aY}{bT:aw}{bE ct:World}{t1 t2:Array Value}{d1 d2:List Deferred}{Mo:List Frame}(h:Reached P B w0 μ H S fr cs a3 H1 fO bE t1 d1 g4)(q:Reached P B w0 fO H1 a3 fr g4 hb bT kp ct t2 d2 Mo):
 Reached P B w0 μ H S fr cs hb bT kp ct t2 d2 Mo:=
 ⟨q.h,h.ir.trans q.ir,q.f,h.c.trans (h.bQ▸q.c),q.bQ.trans h.bQ,q.cx.trans h.cx⟩
def Reached.refl(h:bZ P B w0 μ H w)(ay:iW P μ S fr tmps ds cs):Reached P B w0 μ H S fr cs S H μ w tmps ds cs:=
 ⟨h,Step.refl _ _,ay,kR.refl _ _ ay.vm,I,I⟩
def m9.steps(hs:Steps P m m')(h:m9 P B w0 μ H S fr cs m' k aL H' e):m9 P B w0 μ H S fr cs m k aL H' e:=by
 cases e with
 |normal=>obtain⟨ba,br,bG,cD,cN,ef,fh⟩:=h;exact⟨ba,br,bG,cD,cN,ef,hs.trans fh⟩
 |exit id=>obtain⟨ba,br,bG,cD,cN,ef,fh,gw,hB⟩:=h;exact⟨ba,br,bG,cD,cN,ef,fh,gw,hs.trans hB⟩
 |ret=>obtain⟨ba,br,bG,cD,cN,ef,fh,gw⟩:=h;exact⟨ba,br,bG,cD,cN,ef,fh,hs.trans gw⟩
 |panic bx=>obtain⟨ba,br,bG,cD,cN,ef,fh,gw,hB,rl⟩:=h;exact⟨ba,br,bG,cD,cN,ef,fh,gw,hB,hs.trans rl⟩
 |goto l=>exact h
 |outgrown=>exact h
def m9.after{bE:World}{t1:Array Value}{d1:List Deferred}(ar:Reached P B w0 μ H S fr cs a3 H1 fO bE t1 d1 g4)(h:m9 P B w0 fO H1 a3 fr g4 m k aL H' e):m9 P B w0 μ H S fr cs m k aL H' e:=by
 cases e with
 |normal=>obtain⟨ba,br,bG,cD,cN,ef,fh⟩:=h;exact⟨ba,br,bG,cD,cN,ar.trans ef,fh⟩
 |exit id=>obtain⟨ba,br,bG,cD,cN,ef,fh,gw,hB⟩:=h;exact⟨ba,br,bG,cD,cN,ef,ar.trans fh,gw,hB⟩
 |ret=>obtain⟨ba,br,bG,cD,cN,ef,fh,gw⟩:=h;exact⟨ba,br,bG,cD,cN,ef,ar.trans fh,gw⟩
 |panic bx=>obtain⟨ba,br,bG,cD,cN,ef,fh,gw,hB,rl⟩:=h;exact⟨ba,br,bG,cD,cN,ef,fh,ar.trans gw,hB,rl⟩
 |goto l=>exact h
 |outgrown=>exact h
def m9.bind(h:m9 P B w0 μ H S fr cs m aX a3 H1 .normal)
 (hk:∀fO bE t1 d1 g4,Reached P B w0 μ H S fr cs a3 H1 fO bE t1 d1 g4->m9 P B w0 fO H1 a3 fr g4 (lone (bR fr t1 d1 aX) g4 bE) k aL H' e):m9 P B w0 μ H S fr cs m k aL H' e:=by
 obtain⟨fO,bE,t1,d1,g4,ar,c4⟩:=h;exact((hk fO bE t1 d1 g4 ar).after ar).steps c4
def m9.pass{x:Item}(U:∀id,e=.exit id->exitTo id (x::k)=exitTo id k)(aA:e≠.normal)(h:m9 P B w0 μ H S fr cs m (x::k) aL H' e):m9 P B w0 μ H S fr cs m k aL H' e:=by
 cases e with
 |normal=>exact absurd I aA
 |exit id=>obtain⟨ba,br,bG,cD,cN,ef,fh,gw,hB⟩:=h;exact⟨ba,br,bG,cD,cN,ef,fh,gw.trans (U id I),hB⟩
 |ret=>exact h
 |panic bx=>exact h
 |goto l=>exact h
 |outgrown=>exact h
def Wa{cf:dP}(he:r4 (some cf)=some (e,aL,H'))(h:lZ P B w0 μ H S fr cs m k cf):m9 P B w0 μ H S fr cs m k aL H' e:=by
 cases cf with
 |ok a3 H1=>
  simp only[r4,cb,c8] at he;obtain⟨rfl,rfl,rfl⟩:=he;obtain⟨a,b,c,d,x,ca,b7,cw,f',gJ,hL,hd⟩:=h;exact⟨a,b,c,d,x,⟨ca,b7,cw,f',gJ,hL⟩,hd⟩
 |gN bx a3 H1=>
  simp only[r4,cb,c8] at he;obtain⟨rfl,rfl,rfl⟩:=he;obtain⟨a,b,c,d,x,y,z,ca,b7,cw,f',gJ,hL,hd,pR⟩:=h;exact⟨a,b,c,d,x,y,z,⟨ca,b7,cw,f',gJ,hL⟩,hd,pR⟩
def afZ{E:gu}{b:Code}{r:Option (Exit×aY×aw)}{x:Item}(ax:tk P B w0 E.code)(c4:z3 b x)(U:∀id,exitTo id (x::k)=exitTo id k)
 (ar:∀aF a3 H1,r=some (aF,a3,H1)->m9 P B w0 μ H S fr cs m (x::k) a3 H1 aF)(he:HH E b r=some (e,aL,H')):m9 P B w0 μ H S fr cs m k aL H' e:=by
 cases r with
 |none=>cases he
 |some p=>
  obtain⟨aF,a3,H1⟩:=p;have ae:=ar aF a3 H1 I;by_cases aA:aF=.normal
  ·subst aA;have he:E.code b a3 H1=some (e,aL,H'):=he;exact ae.bind fun fO bE t1 d1 g4 mY=>ax b a3 H1 e aL H' he fO bE fr t1 d1 g4 k x mY.h mY.f c4
  ·have he:some (aF,a3,H1)=some (e,aL,H'):=by
    cases aF<;>first|exact absurd I aA|exact he
   simp only[cb,c8] at he;obtain⟨rfl,rfl,rfl⟩:=he;exact ae.pass (fun id _=>U id) aA
def Yl(P:Program)(B:Nat->Prop)(w0:World)(E:gu):Prop:=
 ∀f params assign body S H e aL H',EF P E f params assign body S H=some (e,aL,H')->∀μ w fr tmps ds cs k,bZ P B w0 μ H w->iW P μ S fr tmps ds cs->
  m9 P B w0 μ H S fr cs (lone (bR fr tmps ds (.code (.rangeFunc f params assign body)::k)) cs w) k aL H' e
def Z8{E:gu}(p0:P.follows .mixedOrders=true)(ax:tk P B w0 E.code)(apZ:ah4 P B w0 E.call)(asE:ai4 P B w0 E.aO)(arJ:Yl P B w0 E):tk P B w0 (Mu P E):=by
 have gT:=apZ B w0 (fun _ h=>h) (Kept.refl _ _);have od:=asE B w0 (fun _ h=>h) (Kept.refl _ _);intro c S H e aL H' he μ w fr tmps ds cs k it h ay c4;have tT:(∀c',c≠.loop c')->it=.code c:=fun cH=>by
  rcases c4 with q|⟨c',q,_⟩
  ·exact q
  ·exact absurd q (cH c')
 unfold Mu at he;cases c with
 |skip=>
  obtain rfl:=tT (fun _ q=>by cases q);have he:some (Exit.normal,S,H)=some (e,aL,H'):=he;simp only[cb,c8] at he;obtain⟨rfl,rfl,rfl⟩:=he;exact⟨μ,w,tmps,ds,cs,.refl h ay,.one ay7⟩
 |label l=>
  obtain rfl:=tT (fun _ q=>by cases q);have he:some (Exit.normal,S,H)=some (e,aL,H'):=he;simp only[cb,c8] at he;obtain⟨rfl,rfl,rfl⟩:=he;exact⟨μ,w,tmps,ds,cs,.refl h ay,.one ayW⟩
 |exit id=>
  obtain rfl:=tT (fun _ q=>by cases q);have he:some (Exit.exit id,S,H)=some (e,aL,H'):=he;simp only[cb,c8] at he;obtain⟨rfl,rfl,rfl⟩:=he;exact⟨μ,w,tmps,ds,cs,k,.refl h ay,I,.refl P _⟩
 |ret=>
  obtain rfl:=tT (fun _ q=>by cases q);have he:some (Exit.ret,S,H)=some (e,aL,H'):=he;simp only[cb,c8] at he;obtain⟨rfl,rfl,rfl⟩:=he;exact⟨μ,w,tmps,ds,cs,k,.refl h ay,.refl P _⟩
 |goto l=>cases he
 |refuse aGn=>cases he
 |region id ops d=>
  obtain rfl:=tT (fun _ q=>by cases q);cases d with
  |false=>
   have he:r4 (EE P E.call E.aO ops.toList ops.toList S H)=some (e,aL,H'):=he;cases ar:EE P E.call E.aO ops.toList ops.toList S H with
   |none=>rw[ar] at he;cases he
   |some cf=>
    rw[ar] at he;have:=ano (k:=k) (fr:=fr) gT od ops.toList 0 μ w S H tmps ds cs cf (by simp) h ay ar;have aF:List.range' 0 ops.toList.length=List.range ops.size:=by rw[ait];simp
    rw[aF] at this;exact(Wa he this).steps (.one ago)
  |true=>
   have he:r4 (wW P E.call E.aO ops.toList S H)=some (e,aL,H'):=he;cases ar:wW P E.call E.aO ops.toList S H with
   |none=>rw[ar] at he;cases he
   |some cf=>
    rw[ar] at he;refine Wa he ?_;unfold wW at ar;cases aj:JS ops.toList with
    |none=>rw[aj] at ar;exact ane p0 gT od h ay ar
    |some L=>rw[aj] at ar;cases ar
 |seq a b=>
  obtain rfl:=tT (fun _ q=>by cases q);have he:HH E b (E.code a S H)=some (e,aL,H'):=he;exact afZ ax (.inl I) (fun id=>rfl) (fun aF a3 H1 q=>(ax a S H aF a3 H1 q μ w fr tmps ds cs (.code b::k) (.code a) h ay (.inl I)).steps (.one Wy)) he
 |cond x a b=>
  obtain rfl:=tT (fun _ q=>by cases q);have he:Me E S H a b (a5 S.T H x)=some (e,aL,H'):=he;cases U:a5 S.T H x with
  |none=>rw[U] at he;cases he
  |some v=>
   rw[U] at he;have az:=vN h ay.t U;cases v with
   |bool t=>
    have ak:=az.Hw;cases t with
    |true=>
     have he:E.code a S H=some (e,aL,H'):=he;exact(ax a S H e aL H' he μ w fr tmps ds cs k (.code a) h ay (.inl I)).steps (.one (agk ak))
    |false=>
     have he:E.code b S H=some (e,aL,H'):=he;exact(ax b S H e aL H' he μ w fr tmps ds cs k (.code b) h ay (.inl I)).steps (.one (agk ak))
   |_=>cases he
 |block id c=>
  obtain rfl:=tT (fun _ q=>by cases q);have he:Q5 id (E.code c S H)=some (e,aL,H'):=he;cases ar:E.code c S H with
  |none=>rw[ar] at he;cases he
  |some p=>
   obtain⟨aF,a3,H1⟩:=p;rw[ar] at he;have ae:=(ax c S H aF a3 H1 ar μ w fr tmps ds cs (.inBlock id::k) (.code c) h ay (.inl I)).steps (.one (ayP (P:=P)));cases aF with
   |exit nx=>
    have he:(bif Nat.beq nx id then some (Exit.normal,a3,H1) else some (Exit.exit nx,a3,H1))=some (e,aL,H'):=he;obtain⟨ba,br,bG,cD,cN,ef,fh,gw,hB⟩:=ae;cases ak:Nat.beq nx id with
    |true=>
     rw[ak,cd] at he;simp only[cb,c8] at he;obtain⟨rfl,rfl,rfl⟩:=he;obtain rfl:=eM ak;have aF:exitTo nx (.inBlock nx::k)=some k:=by simp[exitTo]
     exact⟨ba,br,bG,cD,cN,fh,hB.trans (.one (ayT (gw.trans aF)))⟩
    |false=>
     rw[ak,dQ] at he;simp only[cb,c8] at he;obtain⟨rfl,rfl,rfl⟩:=he;have c7:¬id=nx:=fun q=>by subst q;simp at ak
     have aF:exitTo nx (.inBlock id::k)=exitTo nx k:=by simp[exitTo,c7]
     exact⟨ba,br,bG,cD,cN,ef,fh,gw.trans aF,hB⟩
   |normal=>
    have he:some (Exit.normal,a3,H1)=some (e,aL,H'):=he;simp only[cb,c8] at he;obtain⟨rfl,rfl,rfl⟩:=he;obtain⟨ba,br,bG,cD,cN,ef,fh⟩:=ae;exact⟨ba,br,bG,cD,cN,ef,fh.trans (.one ayU)⟩
   |goto l=>exact ae.elim
   |ret=>
    have he:some (Exit.ret,a3,H1)=some (e,aL,H'):=he;simp only[cb,c8] at he;obtain⟨rfl,rfl,rfl⟩:=he;exact ae.pass (fun id q=>by cases q) (fun q=>by cases q)
   |panic bx=>
    have he:some (Exit.panic bx,a3,H1)=some (e,aL,H'):=he;simp only[cb,c8] at he;obtain⟨rfl,rfl,rfl⟩:=he;exact ae.pass (fun id q=>by cases q) (fun q=>by cases q)
   |outgrown=>exact ae.elim
 |loop c=>
  have he:HH E (.loop c) (E.code c S H)=some (e,aL,H'):=he;have bn:step P (lone (bR fr tmps ds (it::k)) cs w)=.next (lone (bR fr tmps ds (.code c::.inLoop c::k)) cs w):=by
   rcases c4 with rfl|⟨c',q,rfl⟩
   ·exact agn
   ·injection q with q;subst q;exact agm
  exact afZ ax (.inr ⟨c,I,I⟩) (fun id=>rfl) (fun aF a3 H1 q=>(ax c S H aF a3 H1 q μ w fr tmps ds cs (.inLoop c::k) (.code c) h ay (.inl I)).steps (.one bn)) he
 |scope c=>
  obtain rfl:=tT (fun _ q=>by cases q);have he:Y' (E.code c S H)=some (e,aL,H'):=he;cases ar:E.code c S H with
  |none=>rw[ar] at he;cases he
  |some p=>
   obtain⟨aF,a3,H1⟩:=p;rw[ar] at he;have ae:=(ax c S H aF a3 H1 ar μ w fr tmps ds cs (.inScope c::k) (.code c) h ay (.inl I)).steps (.one (ay6 (P:=P)));have he:some (aF,a3,H1)=some (e,aL,H'):=by cases aF<;>first|exact he|exact ae.elim
   simp only[cb,c8] at he;obtain⟨rfl,rfl,rfl⟩:=he;by_cases aA:aF=.normal
   ·subst aA;obtain⟨ba,br,bG,cD,cN,ef,fh⟩:=ae;exact⟨ba,br,bG,cD,cN,ef,fh.trans (.one ayV)⟩
   ·exact ae.pass (fun id _=>rfl) aA
 |rangeFunc f params assign body=>
  obtain rfl:=tT (fun _ q=>by cases q);have he:EF P E f params assign body S H=some (e,aL,H'):=he;exact arJ f params assign body S H e aL H' he μ w fr tmps ds cs k h ay
end
section
variable {P:Program}{B:Nat->Prop}{w0 w:World}{μ fO bh:bU}{H H1 H':aw}{S a3 aL:aY}{fr:Frame}{tmps:Array Value}{ds:List Deferred}{cs g4:List Frame}
def Kw (tmps:Array Value):ResultVar->Sem Value
 |.tmp t=>pure (tmps.getD t undef)
 |.cell a t=>do loadVar t (<-asAddr (tmps.getD a undef))
def anr(h:bZ P B w0 μ H w){T:aZ Value}{n:Nat}(aM:lj μ T n tmps):∀{l:List ResultVar} {vs:List Value},rC P T H l=some vs->
 ∃lV,(l.mapM (Kw tmps)).run P w=.ok lV w/\bW μ vs lV:=by
 intro l;induction l with
 |nil=>intro vs he;simp[rC] at he;subst he;exact⟨[],by simp,bW.nil _⟩
 |cons x l aC=>
  intro vs he;cases x with
  |tmp t=>
   simp only[rC] at he;cases cq:T.get t with
   |none=>rw[cq] at he;cases he
   |some u=>
    rw[cq] at he;cases aj:rC P T H l with
    |none=>rw[aj] at he;cases he
    |some r=>
     rw[aj] at he;injection he with he;subst he
     obtain⟨lV,a,b⟩:=aC aj;refine⟨tmps.getD t undef::lV,?_,bW.cons (aM.2 t u cq) b⟩;rw[XU];have e:Kw tmps (.tmp t)=pure (tmps.getD t undef):=rfl;rw[e];simp only[Sem.run_bind,Sem.run_pure,Result.andThen,a]
  |cell c t=>
   simp only[rC] at he;cases cq:T.get c with
   |none=>rw[cq] at he;cases he
   |some u=>
    rw[cq] at he;simp only at he;cases az:BU P H t u with
    |none=>rw[az] at he;cases he
    |some v=>
     rw[az] at he;cases aj:rC P T H l with
     |none=>rw[aj] at he;cases he
     |some r=>
      rw[aj] at he;injection he with he;subst he
      obtain⟨lV,a,b⟩:=aC aj;have hu:=aM.2 c u cq;unfold BU at az;cases u with
      |pointer p=>
       cases p with
       |none=>cases az
       |some p=>
        obtain⟨id,off,L,rfl,bi,b3⟩:=hu.p';simp only at az;obtain⟨v',ae,ag⟩:=Z9 h bi az;refine⟨v'::lV,?_,bW.cons ag b⟩;rw[XU];have e:(Kw tmps (.cell c t)).run P w=.ok v' w:=by
         show(do loadVar t (<-asAddr (tmps.getD c undef)):Sem Value).run P w=_;rw[b3];simp[asAddr,ae]
        simp only[Sem.run_bind,e,Result.andThen,a,Sem.run_pure]
      |_=>cases az
def axP(h:bZ P B w0 μ H w){T:aZ Value}{n:Nat}(aM:lj μ T n tmps){fn:Func}{vs:List Value}(he:rC P T H fn.results.toList=some vs):
 ∃v',(results fn tmps).run P w=.ok v' w/\bk μ (p6 vs) v':=by
 obtain⟨lV,a,b⟩:=anr h aM he;have hm:(fn.results.mapM (Kw tmps)).run P w=.ok lV.toArray w:=by
  rw[ah1];simp[a]
 have ar:results fn tmps=(do let vs <-fn.results.mapM (Kw tmps);pure (if h:vs.size=1 then vs[0] else .tuple vs)):=by
  unfold results;congr 2
 rw[ar];simp only[Sem.run_bind,hm,Result.andThen,Sem.run_pure];refine⟨_,I,?_⟩;by_cases ae:lV.length=1
 ·have ag:vs.length=1:=b.1.trans ae;obtain⟨v,rfl⟩:=aiq.1 ag;obtain⟨v',rfl⟩:=aiq.1 ae;simpa[p6] using b.2 0 v v' I I
 ·have ag:vs.length≠1:=fun q=>ae (b.1.symm.trans q);have e:p6 vs=.tuple vs.toArray:=by
   unfold p6;split
   ·simp at ag
   ·rfl
  rw[e];have:¬lV.toArray.size=1:=by simpa using ae
  rw[dif_neg this];exact bk.WL b
def jC.mf{c':List PanicEntry}(h:jC μ [] c'):c'=[]:=mQ h.1.symm
def jC.kg{x:PanicEntry}{c c':List PanicEntry}(h:jC μ (x::c) c'):∃dy d,c'=dy::d/\dy.recovered=x.recovered/\dy.goexit=x.goexit/\bk μ x.v dy.v/\jC μ c d:=by
 cases c' with
 |nil=>have:=h.1;simp at this
 |cons dy d=>
  obtain⟨a,b,e⟩:=h.2 0 x dy I I;exact⟨dy,d,I,a,b,e,by have:=h.1;simpa using this,fun i p q ap b3=>h.2 (i+1) p q (by simpa using ap) (by simpa using b3)⟩
def jC.nil(μ:bU):jC μ [] []:=⟨I,fun i e bA h=>by simp at h⟩
def jC.cons{x dy:PanicEntry}{c c':List PanicEntry}(ae:dy.recovered=x.recovered)(ag:dy.goexit=x.goexit)(aE:bk μ x.v dy.v)(h:jC μ c c'):jC μ (x::c) (dy::c'):=
 ⟨by simp[h.1],fun i p q ap b3=>by
  cases i with
  |zero=>simp at ap b3;subst ap;subst b3;exact⟨ae,ag,aE⟩
  |succ i=>exact h.2 i p q (by simpa using ap) (by simpa using b3)⟩
def jC.append{a bD b b':List PanicEntry}(h:jC μ a bD)(k:jC μ b b'):jC μ (a++b) (bD++b'):=by
 induction a generalizing bD with
 |nil=>obtain rfl:=h.mf;exact k
 |cons x a aC=>obtain⟨dy,d,rfl,ae,ag,aE,a6⟩:=h.kg;exact .cons ae ag aE (aC a6)
def jC.dropWhile{a bD:List PanicEntry}(h:jC μ a bD):jC μ (a.dropWhile (!·.goexit)) (bD.dropWhile (!·.goexit)):=by
 induction a generalizing bD with
 |nil=>obtain rfl:=h.mf;exact .nil _
 |cons x a aC=>
  obtain⟨dy,d,rfl,ae,ag,aE,a6⟩:=h.kg;simp only[List.dropWhile,ag];cases x.goexit with
  |true=>exact h
  |false=>exact aC a6
def ayr{u je:FrameMode}(h:qs μ u je):qs μ (settle u) (settle je):=by
 cases u with
 |run=>cases je<;>first|exact h.elim|trivial
 |returning=>cases je<;>first|exact h.elim|trivial
 |panicking c=>
  cases je with
  |run=>exact h.elim
  |returning=>exact h.elim
  |panicking c'=>
   have h:jC μ c c':=h;cases c with
   |nil=>obtain rfl:=h.mf;exact h
   |cons x c=>
    obtain⟨dy,d,rfl,ae,ag,aE,a6⟩:=h.kg;obtain⟨Dx,aBe,aBc⟩:=x;obtain⟨Xf,Xe,ahM⟩:=dy;simp only at ae ag aE;subst ae;subst ag;cases Xe with
    |false=>exact h
    |true=>
     have av:=a6.dropWhile;simp only[settle];cases b3:c.dropWhile (!·.goexit) with
     |nil=>rw[b3] at av;rw[av.mf];trivial
     |cons y r=>
      rw[b3] at av;obtain⟨lW,cu,e,_⟩:=av.kg;rw[e] at av ⊢;exact av
def axt{u je:FrameMode}{c c':List PanicEntry}(h:qs μ u je)(ax:jC μ c c'):qs μ (raised u c) (raised je c'):=by
 cases u with
 |run=>cases je<;>first|exact h.elim|exact ax
 |returning=>cases je<;>first|exact h.elim|exact ax
 |panicking d=>
  cases je with
  |run=>exact h.elim
  |returning=>exact h.elim
  |panicking mu=>exact ax.append h
def ayq{u:FrameMode}(h:u≠.run):settle u≠.run:=by
 unfold settle;split
 ·split<;>(intro q;cases q)
 ·exact h
def axs{u:FrameMode}{c:List PanicEntry}:raised u c≠.run:=by
 unfold raised;split<;>(intro q;cases q)
def anj{E:gu}{fn:Func}{T:aZ Value}{gy:List Deferred}{r:Ending×aw}(h:ig P E fn T gy .run H=some r):False:=by
 cases gy with
 |nil=>simp[ig] at h
 |cons d l=>simp[ig,JK] at h
def wb(P:Program)(B:Nat->Prop)(w0:World)(body:FuncId->List Value->Bool->FrameMode->aw->Option (Ending×FrameMode×aw)):Prop:=
 ∀f args bg H e hl H',body f args true bg H=some (e,hl,H')->∀μ w bV,bZ P B w0 μ H w->bW μ args bV->
  (callFunc f bV.toArray).run P w=.ok (.enter f bV.toArray) w/\
  ∀(c:Frame) (cs:List Frame),qs μ bg c.mode->∃bh a' bA je fr,bZ P B w0 bh H' a'/\Step μ bh H H'/\Br bh e bA/\qs bh hl je/\
   Steps P (lone (Frame.enter P f bV.toArray .deferred) (c::cs) w) (lone fr ({c with mode:=je}::cs) a')/\fr.kind=.deferred/\fr.going P a' bA
def ank{E:gu}(Cj:wb P B w0 E.body){fn:Func}{T:aZ Value}{n:Nat}:∀(gy:List Deferred) (u:FrameMode) (H:aw) (e:Ending) (H':aw),ig P E fn T gy u H=some (e,H')->
 ∀(μ:bU) (w:World) (fr:Frame) (cs:List Frame),bZ P B w0 μ H w->lj μ T n fr.tmps->uI μ gy fr.defers->qs μ u fr.mode->u≠.run->P.funcs[fr.fn]?=some fn->
 ∃bh a' bA oO,bZ P B w0 bh H' a'/\Step μ bh H H'/\Br bh e bA/\Steps P (lone fr cs w) (lone oO cs a')/\oO.kind=fr.kind/\oO.fn=fr.fn/\oO.going P a' bA:=by
 intro gy;induction gy with
 |nil=>
  intro u H e H' he μ w fr cs h aM av hm hu ay;cases h6:fr.defers with
  |cons d l=>rw[h6] at av;cases av
  |nil=>
   cases u with
   |run=>exact absurd I hu
   |returning=>
    have Je:fr.mode=.returning:=by cases b3:fr.mode<;>rw[b3] at hm<;>first|rfl|exact hm.elim
    simp only[ig] at he;cases ar:rC P T H fn.results.toList with
    |none=>rw[ar] at he;cases he
    |some vs=>
     rw[ar] at he;simp only[cb,c8] at he;obtain⟨rfl,rfl⟩:=he;obtain⟨v',a,b⟩:=axP h aM ar;exact⟨μ,w,.returned v',fr,h,Step.refl _ _,b,.refl P _,I,I,Je,h6,fn,ay,a⟩
   |panicking c=>
    cases b3:fr.mode with
    |run=>rw[b3] at hm;exact hm.elim
    |returning=>rw[b3] at hm;exact hm.elim
    |panicking c'=>
     rw[b3] at hm;simp only[ig,cb,c8] at he;obtain⟨rfl,rfl⟩:=he;exact⟨μ,w,.panicked c',fr,h,Step.refl _ _,hm,.refl P _,I,I,b3,h6,fn,ay⟩
 |cons d gy aC=>
  intro u H e H' he μ w fr cs h aM av hm hu ay;have hE:fr.mode≠.run:=fun q=>by rw[q] at hm;cases u<;>first|exact hu I|exact hm.elim
  cases h6:fr.defers with
  |nil=>rw[h6] at av;cases av
  |cons mu fy=>
   rw[h6] at av;cases av with
   |cons _ _ _ _ aqd sN=>
   simp only[ig] at he;have Fg:JK u=false:=by cases u<;>first|exact absurd I hu|rfl
   rw[Fg,dQ] at he;rcases aqd with⟨fv,cap,ew,t1,t2,t3,t4,t5⟩|⟨r,L,t1,t2,t3⟩
   ·rw[t1] at he;simp only at he;cases tI:kY P H fv d.args.toList cap.toList with
    |none=>rw[tI] at he;cases he
    |some p=>
     obtain⟨f,args⟩:=p;rw[tI] at he;simp only at he;obtain⟨jF,ba,br⟩:=RS (w:=w) t5 t4 tI;cases ak:E.body f args true u H with
     |none=>rw[ak] at he;cases he
     |some q=>
      obtain⟨aF,hl,H1⟩:=q;rw[ak] at he;obtain⟨bc,bl⟩:=Cj f args u H aF hl H1 ak μ w jF h br;have hinv:(invoke mu.target mu.args).run P w=.ok (.enter f jF.toArray) w:=by
       rw[t2];have aF:ew.toList.toArray=ew:=by simp
       have aV:mu.args.toList.toArray=mu.args:=by simp
       rw[aF,aV] at ba;rw[ba];exact bc
      have ae:=step_defer (cs:=cs) hE h6 t2 hinv;obtain⟨fO,bE,rA,je,aC6,bb,bt,cE,eA,fZ,dJ,eY⟩:=bl {fr with defers:=fy} cs hm;have aD5:hl≠.run->je≠.run:=fun q dE=>by rw[dE] at eA;cases hl<;>first|exact q I|exact eA.elim
      cases aF with
      |outgrown=>cases he
      |returned v=>
       cases rA with
       |returned v'=>
        simp only at he;by_cases acw:hl=.run
        ·exfalso;rw[acw] at he
         --a running frame aCK not leave
         have:settle FrameMode.run=.run:=rfl;rw[this] at he;exact(anj (P:=P) (E:=E) he).elim
        have ag:=step_going_returned (P:=P) (c:={{fr with defers:=fy} with mode:=je}) (cs:=cs) dJ eY;obtain⟨kp,ct,aV,B0,ca,b7,cw,f',gJ,hL,hd⟩:=aC (settle hl) H1 e H' he fO bE {{{fr with defers:=fy} with mode:=je} with mode:=settle je} cs bb (aM.mono bt.ext) (sN.mono bt.ext) (ayr eA) (ayq acw) ay;exact⟨kp,ct,aV,B0,ca,bt.trans b7,cw,(Steps.head ae (Steps.trans fZ (.one ag))).trans f',gJ,hL,hd⟩
       |panicked c=>exact cE.elim
       |outgrown=>exact cE.elim
      |panicked bx=>
       cases rA with
       |returned v'=>exact cE.elim
       |outgrown=>exact cE.elim
       |panicked yp=>
        simp only at he;have ag:=step_going_panicked (P:=P) (c:={{fr with defers:=fy} with mode:=je}) (cs:=cs) eY;obtain⟨kp,ct,aV,B0,ca,b7,cw,f',gJ,hL,hd⟩:=aC (raised hl bx) H1 e H' he fO bE {{{fr with defers:=fy} with mode:=je} with mode:=raised je yp} cs bb (aM.mono bt.ext) (sN.mono bt.ext) (axt eA cE) axs ay;exact⟨kp,ct,aV,B0,ca,bt.trans b7,cw,(Steps.head ae (Steps.trans fZ (.one ag))).trans f',gJ,hL,hd⟩
   ·rw[t1] at he;simp only at he;cases xf:H.mem.get r with
    |none=>rw[xf] at he;cases he
    |some b=>
     rw[xf] at he;cases b with
     |g6 o=>
      cases o with
      |none=>cases he
      |some l=>
       cases l with
       |cons x y=>cases he
       |nil=>
        simp only at he;cases aB:Nat.ble H.bJ r with
        |false=>rw[aB] at he;cases he
        |true=>
         rw[aB,cd] at he;have aB:=iE aB;cases Jv:H.upd r (.g6 none) with
         |none=>rw[Jv] at he;cases he
         |some H1=>
          rw[Jv] at he;obtain⟨z',avi,aN,aH,bo⟩:=h.gS r L t2;rw[xf] at aN;injection aN with aN;subst aN
          cases avi with
          |deferred BQ=>
           obtain⟨rfl,_⟩:=bo;obtain⟨bb,bt⟩:=h.ahH t2 aB xf (fun _ _ _ _ _ _ q=>by cases q) (fun q=>by cases q) Jv (fun _ _ _ _ _ _ q=>by cases q) (o':=.deferred none) (b':=.g6 none) ⟨I,.inr I⟩;have acs:(Instr.takeDeferred L.r).run P w=.ok [] {w with heap:=w.heap.setIfInBounds L.r (.deferred none)}:=by
            simp[Instr.takeDeferred,getObj,setObj,Sem.run,aH]
           have ae:step P (lone fr cs w)=.next (lone {fr with defers:=fy} cs {w with heap:=w.heap.setIfInBounds L.r (.deferred none)}):=by
            refine step_lone_go ?_;obtain⟨aCQ,aCJ⟩:=mu;simp only at t3;subst t3;cases Je:fr.mode with
            |run=>exact absurd Je hE
            |returning=>simp[stepG,unwind,Je,h6,acs]
            |panicking bx=>simp[stepG,unwind,Je,h6,acs]
           obtain⟨kp,ct,aV,B0,ca,b7,cw,f',gJ,hL,hd⟩:=aC u H1 e H' he μ _ {fr with defers:=fy} cs bb aM sN hm hu ay;exact⟨kp,ct,aV,B0,ca,bt.trans b7,cw,.head ae f',gJ,hL,hd⟩
          |_=>exact bo.elim
     |_=>cases he
end
section
variable {P:Program}{B:Nat->Prop}{w0 w:World}{μ fO bh:bU}{H H1 H':aw}{S a3 aL:aY}{fr:Frame}{tmps:Array Value}{ds:List Deferred}{cs g4:List Frame}{k:List Item}
def ayS(ar:fr.roundOf=none):step P (lone (bR fr tmps ds []) cs w)=.next (lone {bR fr tmps ds [] with mode:=.returning} cs w):=step_lone_go (by simp[stepG,stepG.exec,bR,ar])
def ay5(ar:fr.roundOf=none):step P (lone (bR fr tmps ds (.code .ret::k)) cs w)=.next (lone {bR fr tmps ds (.code .ret::k) with mode:=.returning} cs w):=step_lone_go (by simp[stepG,stepG.exec,bR,ar])
def awK:∀{l a9:List Value},l.all plain=true->bW μ l a9->a9=l:=by
 intro l;induction l with
 |nil=>intro a9 _ h;exact h.mf
 |cons x l aC=>
  intro a9 ap h;obtain⟨dy,m,rfl,ae,ag⟩:=h.kg;simp only[DQ,gQ] at ap;rw[aC ap.2 ag,bk.OS ap.1 ae]
def aeh(fn:Func)(ae:fn.name= "internal/bytealg.MakeNoZero"\/fn.name= "internal/abi.NoEscape")(ag:fn.origin= ""):Extern.findNext fn=none:=by
 have aF:Extern.allNextRows.lookup "internal/bytealg.MakeNoZero"=none:=by kernel_rfl
 have aV:Extern.allNextRows.lookup "internal/abi.NoEscape"=none:=by kernel_rfl
 have cj:Extern.allNextRows.lookup ""=none:=by kernel_rfl
 unfold Extern.findNext;rcases ae with ae|ae<;>rw[ae,ag]<;>simp[aF,aV,cj]
def anK(fn:Func)(ae:fn.name= "internal/bytealg.MakeNoZero"):Extern.find fn=some (Extern.BytealgMakeNoZero.makeNoZero fn.params fn.resultTypes):=by
 have aF:Extern.allGenericRows.lookup "internal/bytealg.MakeNoZero"=none:=by kernel_rfl
 have aV:Extern.allTypedRows.lookup "internal/bytealg.MakeNoZero"=some Extern.BytealgMakeNoZero.makeNoZero:=by kernel_rfl
 unfold Extern.find;rw[ae];simp[aF,aV]
def anL(fn:Func)(ae:fn.name= "internal/abi.NoEscape"):Extern.find fn=some Extern.AbiNoEscape.same:=by
 have aF:Extern.allGenericRows.lookup "internal/abi.NoEscape"=none:=by kernel_rfl
 have aV:Extern.allTypedRows.lookup "internal/abi.NoEscape"=none:=by kernel_rfl
 have cj:Extern.allRows.lookup "internal/abi.NoEscape"=some Extern.AbiNoEscape.same:=by kernel_rfl
 unfold Extern.find;rw[ae];simp[aF,aV,cj]
def Zc{f:FuncId}{fn:Func}(ay:P.funcs[f]?=some fn)(ak:fn.body=none)(aA:(fn.name== "runtime.NumGoroutine")=false)(ae:Extern.findNext fn=none){x:Array Value->Sem Value}(ag:Extern.find fn=some x){args:Array Value}{v:Value}{a':World}(U:(x args).run P w=.ok v a'):
 (callFunc f args).run P w=.ok (.value v) a':=by
 have sT:¬fn.name= "runtime.NumGoroutine":=by simpa using aA
 simp[callFunc,program,Sem.run,ay,ak,sT,ae,ag,mark,U]
def ang{f:FuncId}{fn:Func}{args bV:List Value}{e:Ending}(ay:P.funcs[f]?=some fn)(ak:fn.body=none)(h:bZ P B w0 μ H w)(aj:bW μ args bV)(he:BT P fn f args H=some (e,H')):
 ∃v v' a' bh,e=.returned v/\(callFunc f bV.toArray).run P w=.ok (.value v') a'/\bZ P B w0 bh H' a'/\Step μ bh H H'/\bk bh v v':=by
 unfold BT at he;cases ap:args.all plain with
 |true=>
  rw[ap,cd] at he;obtain rfl:=awK ap aj;have hzero:RX P fn H bV fn.resultTypes.toList=some (e,H')->∃v v' a' bh,e=.returned v/\(callFunc f bV.toArray).run P w=.ok (.value v') a'/\bZ P B w0 bh H' a'/\Step μ bh H H'/\bk bh v v':=by
   intro he;unfold RX at he;split at he
   ·rename_i n t pr _;cases ax:(decide (fn.name= "internal/bytealg.MakeNoZero")&&decide (fn.origin= "")&&Nat.ble n 1000000) with
    |false=>rw[ax] at he;cases he
    |true=>
     rw[ax,cd] at he;simp only[gQ,Mr] at ax;obtain⟨⟨aN,aH⟩,bo⟩:=ax;have bo:=iE bo;split at he
     ·rename_i el hu;cases l8:Nat.beq (P.cellsOf el) 1 with
      |false=>rw[l8] at he;cases he
      |true=>
       rw[l8,cd] at he;have l8:=eM l8;unfold aae at he;cases fB:H.pA [] el false with
       |none=>rw[fB] at he;cases he
       |some p=>
        obtain⟨id,H1⟩:=p;rw[fB] at he;simp only[cb,c8] at he;obtain⟨rfl,rfl⟩:=he;obtain⟨HS,bb,bt,cE⟩:=Lib.run_makeNoZero w fn.params t el hu n (by omega);have arL:fn.resultTypes=#[t]:=by
         apply r9;rw[pr]
        obtain⟨cz,cX,rfl⟩:=(h.drew.drew).U8 (o:=.cells HS el) (L:=⟨w.heap.size,HS.size,1⟩) fB I (fun f=>⟨I,I,l8,c6 _,(fun q=>by cases q),(fun i v v' q=>by simp at q),⟨fun off _ a b=>by simp at b,fun _=>.inl I⟩⟩);refine⟨_,.slice (some ⟨w.heap.size,0,none⟩) n HS.size,_,_,I,?_,cz,cX,.q9 _ 0 n HS.size ⟨w.heap.size,HS.size,1⟩ (bU.k9 _ _ _) bt (by simp)⟩;refine Zc ay ak (by rw[aN];rfl) (aeh fn (.inl aN) aH) (anK fn aN) ?_;rw[arL];exact bb
     ·cases he
   ·cases he
  unfold RY at he;split at he
  ·rename_i v hD;cases T4:plain v with
   |false=>rw[T4] at he;cases he
   |true=>
    rw[T4,cd] at he;simp only[cb,c8] at he;obtain⟨rfl,rfl⟩:=he;exact⟨v,v,w,μ,I,aac hD w,h,Step.refl _ _,q1 T4⟩
  ·exact hzero he
 |false=>
  rw[ap,dQ] at he;unfold aaf at he;split at he
  ·rename_i v;cases ax:(decide (fn.name= "internal/abi.NoEscape")&&decide (fn.origin= "")) with
   |false=>rw[ax] at he;cases he
   |true=>
    rw[ax,cd] at he;simp only[gQ,Mr] at ax;obtain⟨aN,aH⟩:=ax;simp only[cb,c8] at he;obtain⟨rfl,rfl⟩:=he;obtain⟨v',a9,rfl,ae,ag⟩:=aj.kg;obtain rfl:=ag.mf;refine⟨v,v',w,μ,I,?_,h,Step.refl _ _,ae⟩;exact Zc ay ak (by rw[aN];rfl) (aeh fn (.inr aN) aH) (anL fn aN) I
  ·cases he
def aZ.aaz{α:Type}(a:α):∀(d n:Nat),(aZ.full a d).get n=none\/(aZ.full a d).get n=some a:=by
 intro d;induction d with
 |zero=>intro n;exact .inl I
 |succ d aC=>
  intro n;cases n with
  |zero=>exact .inr I
  |succ m=>
   have e:aZ.full a (d+1)=.node (some a) (aZ.full a d) (aZ.full a d):=rfl;rw[e,aZ.sB];split<;>exact aC _
def ajE:∀{l:List Value} {i:Nat} {T ea:aZ Value},pg l i T=some ea->∀t,ea.get t=if i<=t/\t<i+l.length then l[t -i]? else T.get t:=by
 intro l;induction l with
 |nil=>intro i T ea h t;simp[pg] at h;subst h;rw[aG (by rw[DT];omega)]
 |cons v l aC=>
  intro i T ea h t;simp only[pg] at h;cases hs:aZ.set Gn T i v with
  |none=>rw[hs] at h;cases h
  |some rj=>
   rw[hs] at h;rw[aC h t,aZ.Sc hs];by_cases ae:i+1<=t/\t<i+1+l.length
   ·rw[aP ae,aP (by simp;omega)];have:t -i=(t -(i+1))+1:=by omega
    rw[this];rfl
   ·rw[aG ae];by_cases ag:t=i
    ·subst ag;rw[aP I,aP (by simp)];simp
    ·rw[aG ag,aG (by simp;omega)]
def an4{args bV:List Value}{n:Nat}{T:aZ Value}(aj:bW μ args bV)(cq:pg args 0 (blank n)=some T):lj μ T n (bV.toArray++Array.replicate (n -bV.toArray.size) undef):=by
 refine⟨by simp;omega,fun t v h=>?_⟩;rw[ajE cq] at h;by_cases aM:t<args.length
 ·rw[aP ⟨c6 _,by omega⟩,Hd] at h;have NC:t<bV.length:=by have:=aj.1;omega
  have:(bV.toArray++Array.replicate (n -bV.toArray.size) undef).getD t undef=bV[t]:=by
   simp[Xq,NC]
  rw[this];exact aj.2 t v _ h (cU NC)
 ·rw[aG (by omega)] at h;have hu:v=undef:=by
   rcases aZ.aaz undef (R1 n) t with q|q
   ·unfold blank at h;rw[q] at h;cases h
   ·unfold blank at h;rw[q] at h;injection h with h;exact h.symm
  subst hu;have NC:¬t<bV.length:=by have:=aj.1;omega
  have:(bV.toArray++Array.replicate (n -bV.toArray.size) undef).getD t undef=undef:=by
   simp only[Array.getD_eq_getD_getElem?,Xq,X0,NC,y8,Array.getElem?_replicate];split<;>rfl
  rw[this];exact bk.undef μ
def YS{E:gu}(Au:tk P B w0 E.code)(Cj:wb P B w0 E.body){f:FuncId}{fn:Func}{c:Code}{args bV:List Value}{bQ:Bool}{bg hl:FrameMode}{e:Ending}
 (ay:P.funcs[f]?=some fn)(ak:fn.body=some c)(he:Hv P E fn c bQ bg H (pg args 0 (blank fn.ntmps))=some (e,hl,H'))
 (h:bZ P B w0 μ H w)(aj:bW μ args bV)(cs:List Frame)(iI:bQ=true->∃c0 rest,cs=c0::rest/\qs μ bg c0.mode):
 ∃bh a' bA oO cT,bZ P B w0 bh H' a'/\Step μ bh H H'/\Br bh e bA/\Steps P (lone (Frame.enter P f bV.toArray (if bQ then .deferred else .normal)) cs w) (lone oO cT a')/\
  oO.kind=(if bQ then .deferred else .normal)/\oO.fn=f/\oO.going P a' bA/\kR bQ cs cT/\(bQ=true->∃bb rest,cT=bb::rest/\qs bh hl bb.mode):=by
 cases cq:pg args 0 (blank fn.ntmps) with
 |none=>rw[cq] at he;cases he
 |some T=>
  rw[cq] at he;have he:yk P E fn (E.code c ⟨T,fn.ntmps,[],bQ,bg,none⟩ H)=some (e,hl,H'):=he
  let l5:Frame:=Frame.enter P f bV.toArray (if bQ then .deferred else .normal)
  have lJ:l5=bR l5 (bV.toArray++Array.replicate (fn.ntmps -bV.toArray.size) undef) [] [.code c]:=by
   simp[l5,Frame.enter,bR,ay,ak]
  have bC:iW P μ ⟨T,fn.ntmps,[],bQ,bg,none⟩ l5 (bV.toArray++Array.replicate (fn.ntmps -bV.toArray.size) undef) [] cs:=
   ⟨an4 aj cq,.nil,I,fun _=>rfl,(fun l q=>by cases q),iI,fn,ay⟩
  cases ar:E.code c ⟨T,fn.ntmps,[],bQ,bg,none⟩ H with
  |none=>rw[ar] at he;cases he
  |some p=>
   obtain⟨x,a3,H1⟩:=p;rw[ar] at he;have ax:=Au c _ H x a3 H1 ar μ w l5 _ [] cs [] (.code c) h bC (.inl I);rw[<-lJ] at ax;have dL:l5.roundOf=none:=rfl
   --vY frame leaves
   have fin:∀(u fK:FrameMode) (fO:bU) (bE:World) (t1:Array Value) (d1:List Deferred) (g4:List Frame) (aX:List Item),Reached P B w0 μ H ⟨T,fn.ntmps,[],bQ,bg,none⟩ l5 cs a3 H1 fO bE t1 d1 g4->qs fO u fK->u≠.run->
    Steps P (lone l5 cs w) (lone {bR l5 t1 d1 aX with mode:=fK} g4 bE)->rq a3.bg (ig P E fn a3.T a3.ds u H1)=some (e,hl,H')->
    ∃bh a' bA oO cT,bZ P B w0 bh H' a'/\Step μ bh H H'/\Br bh e bA/\Steps P (lone l5 cs w) (lone oO cT a')/\
     oO.kind=(if bQ then .deferred else .normal)/\oO.fn=f/\oO.going P a' bA/\kR bQ cs cT/\(bQ=true->∃bb rest,cT=bb::rest/\qs bh hl bb.mode):=by
    intro u fK fO bE t1 d1 g4 aX mY hm hu c4 pV;cases oU:ig P E fn a3.T a3.ds u H1 with
    |none=>rw[oU] at pV;cases pV
    |some q=>
     obtain⟨aV,bT⟩:=q;rw[oU] at pV;have pV:some (aV,a3.bg,bT)=some (e,hl,H'):=pV;simp only[cb,c8] at pV;obtain⟨rfl,rfl,rfl⟩:=pV;obtain⟨kp,ct,bA,B0,ca,b7,cw,f',gJ,hL,hd⟩:=ank Cj a3.ds u H1 aV bT oU fO bE {bR l5 t1 d1 aX with mode:=fK} g4 mY.h mY.f.t mY.f.d hm hu ay;refine⟨kp,ct,bA,B0,g4,ca,mY.ir.trans b7,cw,c4.trans f',gJ,hL,hd,mY.c,fun av=>?_⟩;obtain⟨bb,rest,a,b⟩:=mY.f.bg (mY.bQ.trans av);exact⟨bb,rest,a,b.mono b7.ext⟩
   cases x with
   |normal=>
    obtain⟨fO,bE,t1,d1,g4,mY,c4⟩:=ax;exact fin .returning .returning fO bE t1 d1 g4 [] mY trivial (fun q=>by cases q) (c4.trans (.one (ayS dL))) he
   |ret=>
    obtain⟨fO,bE,t1,d1,g4,aX,mY,c4⟩:=ax;exact fin .returning .returning fO bE t1 d1 g4 (.code .ret::aX) mY trivial (fun q=>by cases q) (c4.trans (.one (ay5 dL))) he
   |panic bx=>
    obtain⟨fO,bE,t1,d1,g4,yp,aX,mY,I0,c4⟩:=ax;exact fin (.panicking bx) (.panicking yp) fO bE t1 d1 g4 aX mY I0 (fun q=>by cases q) c4 he
   |exit id=>cases he
   |goto l=>cases he
   |outgrown=>cases he
structure uS (P:Program) (fR:aZ Func):Prop where
 r1:P.follows .mixedOrders=true
 fR:∀f fn,fR.get f=some fn->P.funcs[f]?=some fn
 num:∀(f:Nat) fn,P.funcs[f]?=some fn->fn.body.isSome=true->(fn.name== "runtime.NumGoroutine")=false
def H6{f:FuncId}{fn:Func}{c:Code}(ay:P.funcs[f]?=some fn)(ak:fn.body=some c)(aA:(fn.name== "runtime.NumGoroutine")=false)(args:Array Value)(w:World):(callFunc f args).run P w=.ok (.enter f args) w:=by
 have sT:¬fn.name= "runtime.NumGoroutine":=by simpa using aA
 simp[callFunc,program,Sem.run,ay,ak,sT]
def Z5{fR:aZ Func}(cZ:uS P fR){E:gu}(Au:tk P B w0 E.code)(Cj:wb P B w0 E.body):wb P B w0 (tA P fR E):=by
 intro f args bg H e hl H' he μ w bV h aj;unfold tA at he;cases rH:fR.get f with
 |none=>rw[rH] at he;cases he
 |some fn=>
  rw[rH] at he;have ay:=cZ.fR f fn rH;cases ak:fn.body with
  |none=>simp only[ak] at he;cases he
  |some c=>
   simp only[ak] at he;refine⟨H6 ay ak (cZ.num f fn ay (by rw[ak];rfl)) _ w,fun c0 cs hm=>?_⟩;obtain⟨bh,a',bA,oO,cT,ca,b7,cw,f',gJ,hL,hd,pR,aau⟩:=YS Au Cj ay ak he h aj (c0::cs) (fun _=>⟨c0,cs,I,hm⟩);obtain⟨bb,rest,m,aN,aH⟩:=pR;injection aN with aN bo;subst aN;subst bo
   obtain⟨bt,O8,dc,c9⟩:=aau I;rw[aH] at dc;injection dc with dc fI;subst dc;subst fI
   subst aH;exact⟨bh,a',bA,m,oO,ca,b7,cw,c9,f',gJ,hd⟩
def RO{fR:aZ Func}(cZ:uS P fR){E:gu}(Au:tk P B w0 E.code)(Cj:wb P B w0 E.body):qk P B w0 (gu.call ⟨E.code,tA P fR E⟩):=by
 intro f args H e H' he μ w bV h aj;unfold gu.call at he;cases jI:tA P fR E f args false .run H with
 |none=>simp only[jI] at he;cases he
 |some p=>
  obtain⟨aF,WO,H1⟩:=p;simp only[jI,cb,c8] at he;obtain⟨rfl,rfl⟩:=he;unfold tA at jI;cases rH:fR.get f with
  |none=>rw[rH] at jI;cases jI
  |some fn=>
   rw[rH] at jI;have ay:=cZ.fR f fn rH;cases ak:fn.body with
   |none=>
    simp only[ak] at jI;have jI:rq .run (BT P fn f args H)=some (aF,WO,H1):=jI;cases U:BT P fn f args H with
    |none=>rw[U] at jI;cases jI
    |some q=>
     obtain⟨aV,bT⟩:=q;rw[U] at jI;have jI:some (aV,FrameMode.run,bT)=some (aF,WO,H1):=jI;simp only[cb,c8] at jI;obtain⟨rfl,rfl,rfl⟩:=jI;exact .inl (ang ay ak h aj U)
   |some c=>
    simp only[ak] at jI;refine .inr ⟨H6 ay ak (cZ.num f fn ay (by rw[ak];rfl)) _ w,fun cs=>?_⟩;obtain⟨bh,a',bA,oO,cT,ca,b7,cw,f',gJ,hL,hd,pR,aau⟩:=YS Au Cj ay ak jI h aj cs (fun q=>by cases q);have iI:cT=cs:=pR;subst iI;refine⟨bA,a',oO,⟨bh,ca,b7,cw⟩,?_,hL,?_⟩
    ·cases bA with
     |returned v=>exact f'
     |panicked bx=>exact f'
     |outgrown=>cases aF<;>exact cw.elim
    ·cases bA with
     |returned v=>obtain⟨a,b,c⟩:=hd;exact⟨a,b,gJ,c⟩
     |panicked bx=>exact hd
     |outgrown=>trivial
end
end
end Go.Cre

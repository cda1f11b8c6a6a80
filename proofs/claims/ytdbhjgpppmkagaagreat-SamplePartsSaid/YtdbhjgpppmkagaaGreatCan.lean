/- A part of the proof of SampleParts. -/
import Derived.Test.YtdbhjgpppmkagaaGreatCam
set_option linter.unusedVariables false
set_option linter.unusedSimpArgs false
namespace Go.Cre
noncomputable section
open Go.RowKit
open Classical
def NY(ops:List Oper)(C:Nat)(D:Nat->Bool)(t:Nat):Prop:=∃(i:Nat) (o:Oper),C.testBit i=true/\D i=false/\ops[i]?=some o/\o.dst=some t
def free (ops:List Oper)(C:Nat)(D:Nat->Bool)(t:Nat):Bool:=decide (¬NY ops C D t)
theorem y3{ops:List Oper}{C:Nat}{D:Nat->Bool}{t:Nat}:free ops C D t=true↔¬NY ops C D t:=by unfold free;exact mN
structure Good (P:Program) (call:eS) (aL:gU) (ops:List Oper) (cq G:Nat) (Xw:Nat) (S:aQ) (H:ao) (μ:bH) (D:Nat->Bool) (A:Nat->Nat) (i:Nat) (o:Oper) (b:Bool):Prop where
 g:fW ops S.T o=some b
 lt:∀t,o.dst=some t->t<S.n/\∃u,S.T.get t=some u
 no:b=false->∀t,o.dst=some t->S.T.get t=some undef
 val:b=true->cq.testBit i=false->G.testBit i=true->∃v,cY P call aL S H o=some (.val v H)/\∀t,o.dst=some t->S.T.get t=some v
 f':b=true->cq.testBit i=true->∃fS ef,mg P S.T o.op=some (fS,ef)/\(∀t,o.dst=some t->S.T.get t=some (ef.at (A i)))/\
  (D i=false->μ (A i)=none/\H.bq<=A i/\Xw<=A i/\A i<H.af/\H.mem.get (A i)=some fS)
structure Inv (P:Program) (B:Nat->Prop) (w0:World) (call:eS) (aL:gU) (ops:List Oper) (ca cq:Nat) (jG:bH) (H0:ao) (iZ:aQ) (fr:Frame) (jL:List Frame)
 (C K G:Nat) (S:aQ) (H:ao) (μ:bH) (w:World) (tmps:Array Value) (ds:List Deferred) (cs:List Frame) (D:Nat->Bool) (A:Nat->Nat):Prop where
 h:bR P B w0 μ H w
 f:hM μ (S.only (free ops C D)) fr tmps ds cs
 ei:Step jG μ H0 H
 AO:jH iZ.b0 jL cs
 b0:S.b0=iZ.b0
 cB:S.cB=iZ.cB
 sub:∀i,D i=true->C.testBit i=true
 Dj:∀i,C.testBit i=true->∃o,ops[i]?=some o
 down:∀(i:Nat) o j,D i=true->ops[i]?=some o->(Oper.fP o).testBit j=true->D j=true
 AQ:∀(i:Nat) o j,C.testBit i=true->ops[i]?=some o->(Oper.fP o).testBit j=true->C.testBit j=true
 k:∀i,K.testBit i=true->D i=true
 oq:∀(i:Nat) o,C.testBit i=true->K.testBit i=false->ops[i]?=some o->ca.testBit i=false/\∃b,Good P call aL ops cq G H0.af S H μ D A i o b
 inj:∀(i j:Nat) n4 eo,C.testBit i=true->C.testBit j=true->D i=false->D j=false->cq.testBit i=true->cq.testBit j=true->ops[i]?=some n4->ops[j]?=some eo->
  fW ops S.T n4=some true->fW ops S.T eo=some true->A i=A j->i=j
section
variable {P:Program}{B:Nat->Prop}{w0 w:World}{μ jG:bH}{H H0 H':ao}{S iZ aO:aQ}{fr:Frame}{tmps:Array Value}{ds:List Deferred}{cs jL:List Frame}{call:eS}{aL:gU}
variable {ops:List Oper}{ca cq C K G:Nat}{D:Nat->Bool}{A:Nat->Nat}{i:Nat}{o:Oper}
theorem aQ.ah9{dst:Option Tmp}{v:Value}(he:S.put dst v=some aO):∀t,dst=some t->t<aO.n/\∃u,aO.T.get t=some u:=fun t aN=>by
 have e:=aQ.put_eq he;refine⟨?_,v,by rw[e.2.2.2.2.2,aF aN]⟩;subst aN;obtain⟨T,n,fH,b0,b8,cB⟩:=S;have he:Bool.rec (motive:=fun _=>Option aQ) none (aQ.rM n fH b0 b8 cB (aX.put v T t)) (Nat.ble (Nat.succ t) n)=some aO:=he;rw[e.1];show t<n;cases ai:Nat.ble (Nat.succ t) n with
 |false=>rw[ai] at he;cases he
 |true=>exact hC ai
theorem hM.conv{ba gq:aQ}(h:hM μ ba fr tmps ds cs)(aD:gq.n=ba.n)(a5:gq.ds=ba.ds)(cC:gq.b0=ba.b0)(e0:gq.b8=ba.b8)(ch:gq.cB=ba.cB)
 (aN:∀t v,gq.T.get t=some v->ba.T.get t=some v):hM μ gq fr tmps ds cs:=
 ⟨⟨by rw[aD];exact h.t.1,fun t v q=>h.t.2 t v (aN t v q)⟩,by rw[a5];exact h.d,by rw[cC];exact h.kind,fun q=>h.uv (ch▸q),fun l q=>h.z3 l (ch▸q),fun q=>by rw[e0];exact h.b8 (cC▸q)⟩
theorem xN{p:Nat->Bool}{t:Nat}{v:Value}:(S.only p).T.get t=some v↔p t=true/\S.T.get t=some v:=by
 show(S.T.e7 p).get t=some v↔_;rw[aX.Lq];cases p t<;>simp
theorem Good.move{nz:Nat}{bk:bH}{Al:Nat->Bool}{oZ:Nat->Nat}{b:Bool}(ar:Good P call aL ops cq G H0.af S H μ D A i o b)(aM:aO.n=S.n)(ax:aO.cB=S.cB)
 (ay:∀t∈looks ops o,aO.T.get t=S.T.get t)(aS:∀t,o.dst=some t->aO.T.get t=S.T.get t)
 (lA:cq.testBit i=false->nz.testBit i=true->G.testBit i=true/\H'=H)(iL:oZ i=A i)
 (MU:b=true->cq.testBit i=true->Al i=false->D i=false/\(∀fS,jU (some fS)=false->μ (A i)=none/\H.bq<=A i/\H0.af<=A i/\A i<H.af/\H.mem.get (A i)=some fS->bk (A i)=none/\H'.bq<=A i/\H0.af<=A i/\A i<H'.af/\H'.mem.get (A i)=some fS)):
 Good P call aL ops cq nz H0.af aO H' bk Al oZ i o b:=by
 refine⟨by rw[sl ay];exact ar.g,fun t aN=>?_,fun ai t aN=>by rw[aS t aN];exact ar.no ai t aN,fun ai aW LL=>?_,fun ai aW=>?_⟩
 ·obtain⟨a,b⟩:=ar.lt t aN;exact⟨by rw[aM];exact a,by rw[aS t aN];exact b⟩
 ·obtain⟨b4,rfl⟩:=lA aW LL;obtain⟨v,aD,a5⟩:=ar.val ai aW b4;exact⟨v,by rw[Hm ax (I2 ay)];exact aD,fun t aN=>by rw[aS t aN];exact a5 t aN⟩
 ·obtain⟨fS,ef,aD,a5,cC⟩:=ar.f' ai aW;refine⟨fS,ef,by rw[Ks ay];exact aD,fun t aN=>by rw[aS t aN,iL];exact a5 t aN,fun hI=>?_⟩;obtain⟨aZ,aR⟩:=MU ai aW hI;rw[iL];exact aR fS (Qp aD) (cC aZ)
theorem quiet(al:uR ops ca)(aE:Inv P B w0 call aL ops ca cq jG H0 iZ fr jL C K G S H μ w tmps ds cs D A)(ak:C.testBit i=false)(an:ops[i]?=some o)(av:ca.testBit i=false)
 {j:Nat}{eo:Oper}(aU:C.testBit j=true\/j=i)(e6:ops[j]?=some eo){t:Nat}(aN:t∈looks ops eo):o.dst≠some t:=fun aS=>by
 rcases al.look i j o eo t an e6 aS aN with q|⟨q,_⟩
 ·rcases aU with aU|rfl
  ·have:=aE.AQ j eo i aU e6 q;rw[ak] at this;cases this
  ·have:=al.down j eo j e6 q;omega
 ·rw[av] at q;cases q
theorem abk(h:fits ops C i=true)(an:ops[i]?=some o):C.testBit i=false/\∀j,(Oper.fP o).testBit j=true->C.testBit j=true:=by
 unfold fits at h;rw[kk,an] at h;simp only[fR,pJ] at h;exact⟨h.1,fun j aU=>OG h.2 aU⟩
theorem abr(hI:D i=false)(an:ops[i]?=some o){t:Nat}(h:free ops (Nat.lor C (Nat.pow 2 i)) D t=true):free ops C D t=true/\o.dst≠some t:=by
 rw[y3] at h;refine⟨y3.2 fun⟨j,eo,a,b,c,d⟩=>h ⟨j,eo,k0.2 (.inl a),b,c,d⟩,fun aS=>h ⟨i,o,k0.2 (.inr rfl),hI,an,aS⟩⟩
theorem Nk(al:uR ops ca)(aE:Inv P B w0 call aL ops ca cq jG H0 iZ fr jL C K G S H μ w tmps ds cs D A)(an:ops[i]?=some o)(aw:fits ops C i=true)(av:ca.testBit i=false)
 {v:Value}{b:Bool}{nz:Nat}{oZ:Nat->Nat}(au:S.put o.dst v=some aO)(ar:fW ops S.T o=some b)(gj:b=false->v=undef)
 (jf:bR P B w0 μ H' w)(c0:Step jG μ H0 H')(gk:H.af<=H'.af)(ow:H'.bq=H.bq)(ri:∀x,x<H.af->H'.mem.get x=H.mem.get x)
 (iL:∀j,j≠i->oZ j=A j)(lA:∀j,j≠i->cq.testBit j=false->nz.testBit j=true->G.testBit j=true/\H'=H)
 (sE:b=true->cq.testBit i=false->nz.testBit i=true->cY P call aL S H' o=some (.val v H'))
 (L8:b=true->cq.testBit i=true->oZ i=H.af/\H'.af=H.af+1/\H0.af<=H.af/\∃fS ef,mg P S.T o.op=some (fS,ef)/\v=ef.at H.af/\H'.mem.get H.af=some fS):
 Inv P B w0 call aL ops ca cq jG H0 iZ fr jL (Nat.lor C (Nat.pow 2 i)) K nz aO H' μ w tmps ds cs D oZ:=by
 obtain⟨ak,hm⟩:=abk aw an;have A6:D i=false:=by
  cases aS:D i with
  |false=>rfl
  |true=>have:=aE.sub i aS;rw[ak] at this;cases this
 obtain⟨dS,ho,hp,jA,hS,lh⟩:=aQ.put_eq au;have p4:∀{j:Nat} {eo:Oper},(C.testBit j=true\/j=i)->ops[j]?=some eo->∀t∈looks ops eo,aO.T.get t=S.T.get t:=fun{j eo} aU e6 t aN=>by
  rw[lh,aq (quiet al aE ak an av aU e6 aN)]
 refine⟨jf,?_,c0,aE.AO,hp.trans aE.b0,hS.trans aE.cB,fun j aU=>k0.2 (.inl (aE.sub j aU)),fun j aU=>?_,aE.down,fun j eo k aU e6 aH=>?_,aE.k,fun j eo aU aH e6=>?_,?_⟩
 ·refine aE.f.conv dS ho hp jA hS fun t u q=>?_;obtain⟨aZ,aR⟩:=xN.1 q;obtain⟨cO,dI⟩:=abr A6 an aZ;rw[lh,aq dI] at aR;exact xN.2 ⟨cO,aR⟩
 ·rcases k0.1 aU with q|rfl
  ·exact aE.Dj j q
  ·exact⟨o,an⟩
 ·rcases k0.1 aU with q|rfl
  ·exact k0.2 (.inl (aE.AQ j eo k q e6 aH))
  ·rw[an] at e6;injection e6 with e6;subst e6
   exact k0.2 (.inl (hm k aH))
 ·by_cases qa:j=i
  ·subst qa;rw[an] at e6;injection e6 with e6;subst e6
   refine⟨av,b,?_⟩;refine⟨by rw[sl (p4 (.inr rfl) an)];exact ar,aQ.ah9 au,fun ai t aN=>by rw[lh,aF aN,gj ai],fun ai aW LL=>?_,fun ai aW=>?_⟩
   ·exact⟨v,by rw[Hm hS (I2 (p4 (.inr rfl) an))];exact sE ai aW LL,fun t aN=>by rw[lh,aF aN]⟩
   ·obtain⟨bl,bF,bO,fS,ef,b3,rfl,cX⟩:=L8 ai aW;refine⟨fS,ef,by rw[Ks (p4 (.inr rfl) an)];exact b3,fun t aN=>by rw[lh,aF aN,bl],fun _=>?_⟩;rw[bl];exact⟨aE.h.UL,by rw[ow];exact aE.h.kc,bO,by omega,cX⟩
  ·have aU:C.testBit j=true:=by
    rcases k0.1 aU with q|q
    ·exact q
    ·exact absurd q.symm qa
   obtain⟨b4,AE,bX⟩:=aE.oq j eo aU aH e6;refine⟨b4,AE,bX.move dS hS (p4 (.inl aU) e6) (fun t aN=>?_) (lA j qa) (iL j qa) fun ai aW hI=>⟨hI,fun fS _ ⟨aD,a5,cC,e0,ch⟩=>⟨aD,by rw[ow];exact a5,cC,by omega,by rw[ri _ e0];exact ch⟩⟩⟩;rw[lh,aq (fun q=>al.dst i j o eo t an e6 (Ne.symm qa) q aN)]
 ·have cP:∀(j:Nat) eo,C.testBit j=true->D j=false->cq.testBit j=true->ops[j]?=some eo->fW ops S.T eo=some true->A j<H.af:=fun j eo aU hI aW e6 Mr=>by
   have aH:K.testBit j=false:=by
    cases aH:K.testBit j with
    |false=>rfl
    |true=>have:=aE.k j aH;rw[hI] at this;cases this
   obtain⟨_,AE,bX⟩:=aE.oq j eo aU aH e6;have e:=bX.g;rw[Mr] at e;injection e with e;subst e
   obtain⟨fS,ef,_,_,q⟩:=bX.f' rfl aW;exact(q hI).2.2.2.1
  intro x y pz zX I ah y6 y7 ze zf rk qd rb p9 fp;by_cases hn:x=i
  ·by_cases ud:y=i
   ·rw[hn,ud]
   ·exfalso;subst hn;rw[an] at rk;injection rk with rk;subst rk
    rw[sl (p4 (.inr rfl) an),ar] at rb;injection rb with rb;subst rb
    have ah:C.testBit y=true:=by
     rcases k0.1 ah with q|q
     ·exact q
     ·exact absurd q.symm ud
    rw[sl (p4 (.inl ah) qd)] at p9;have:=cP y zX ah y7 zf qd p9;rw[(L8 rfl ze).1,iL y ud] at fp;omega
  ·have fe:C.testBit x=true:=by
    rcases k0.1 I with q|q
    ·exact q
    ·exact absurd q.symm hn
   rw[sl (p4 (.inl fe) rk)] at rb;by_cases ud:y=i
   ·exfalso;subst ud;rw[an] at qd;injection qd with qd;subst qd
    rw[sl (p4 (.inr rfl) an),ar] at p9;injection p9 with p9;subst p9
    have:=cP x pz fe y6 ze rk rb;rw[(L8 rfl zf).1,iL x hn] at fp;omega
   ·have ah:C.testBit y=true:=by
     rcases k0.1 ah with q|q
     ·exact q
     ·exact absurd q.symm ud
    rw[sl (p4 (.inl ah) qd)] at p9;rw[iL x hn,iL y ud] at fp;exact aE.inj x y pz zX fe ah y6 y7 ze zf rk qd rb p9 fp
theorem Step.new(c0:Step jG μ H0 H){b:fa}{a:Nat}(aM:H.new b=some (a,H')):Step jG μ H0 H':=by
 obtain⟨rfl,aD,a5,cC,e0,ch⟩:=ao.n1 aM;refine⟨c0.ext,by have:=c0.af;omega,by rw[e0];exact c0.bq,fun id zm hm=>?_⟩;obtain⟨a,b⟩:=c0.e7 id zm hm;exact⟨a,fun an=>by rw[ch,aq (by have:=c0.af;omega)];exact b an⟩
theorem Q3(al:uR ops ca)(vm:∀(i:Nat) o,ops[i]?=some o->cq.testBit i=false->xC o.op=false){cw:dz}:∀(a8:List iW) (C G:Nat) (S:aQ) (H:ao) (A:Nat->Nat),
 Inv P B w0 call aL ops ca cq jG H0 iZ fr jL C K G S H μ w tmps ds cs D A->nv ops ca cq C K G a8=true->eH P call aL ops a8 S H=some cw->
 ∃qu uF nz aO H' oZ,Inv P B w0 call aL ops ca cq jG H0 iZ fr jL uF K nz aO H' μ w tmps ds cs D oZ/\nv ops ca cq uF K nz qu=true/\eH P call aL ops qu aO H'=some cw/\
  (qu=[]\/∃i rest,qu=.cv i::rest):=by
 intro a8;induction a8 with
 |nil=>intro C G S H A aE au he;exact⟨[],C,G,S,H,A,aE,au,he,.inl rfl⟩
 |cons s a8 aG=>
  intro C G S H A aE au he;have he:Ri P call aL ops (eH P call aL ops a8) S H s=some cw:=he;cases s with
  |cv i=>exact⟨.cv i::a8,C,G,S,H,A,aE,au,he,.inr ⟨i,a8,rfl⟩⟩
  |c9 l=>
   simp only[nv,fR] at au;have ap:=Yd au.1;have he:(bif l.all (u2 P call aL ops S H) then eH P call aL ops a8 S H else none)=some cw:=he;cases ay:l.all (u2 P call aL ops S H) with
   |false=>rw[ay] at he;cases he
   |true=>
    rw[ay,cc] at he;rw[qK] at ay;refine aG C (Nat.lor G (zI l)) S H A ?_ au.2 he;refine⟨aE.h,aE.f,aE.ei,aE.AO,aE.b0,aE.cB,aE.sub,aE.Dj,aE.down,aE.AQ,aE.k,fun j eo aU aH e6=>?_,aE.inj⟩;obtain⟨b4,b,bX⟩:=aE.oq j eo aU aH e6;refine⟨b4,b,bX.g,bX.lt,bX.no,fun ai aW lA=>?_,bX.f'⟩;rw[x8,wo,afE] at lA;rcases lA with lA|lA
    ·exact bX.val ai aW lA
    ·have av:=ay j lA;unfold u2 at av;rw[kk,e6] at av;simp only at av;rw[bX.g,ai] at av;have jv:G7 H.af S.T eo.dst (cY P call aL S H eo)=true:=av;cases gN:cY P call aL S H eo with
     |none=>rw[gN] at jv;cases jv
     |some r=>
      rw[gN] at jv;cases r with
      |val v bZ=>
       have jv:(Nat.beq bZ.af H.af&&(match eo.dst with|none=>true|some d=>(match S.T.get d with|some u=>hA 8 v u|none=>false)))=true:=jv
       simp only[fR] at jv;have gA:bZ=H:=RG (al.cv j eo e6 b4) (vm j eo e6 aW) gN (eK jv.1);refine⟨v,by rw[gA],fun t aN=>?_⟩;have ov:(match eo.dst with|none=>true|some d=>(match S.T.get d with|some u=>hA 8 v u|none=>false))=true:=jv.2
       rw[aN] at ov;simp only at ov;cases dK:S.T.get t with
       |none=>rw[dK] at ov;cases ov
       |some u=>rw[dK] at ov;rw[akz ov]
      |skip _=>cases jv
      |gh _=>cases jv
      |jh _ _=>cases jv
      |Cl=>cases jv
  |val i=>
   simp only[nv,fR,pJ] at au;obtain⟨⟨⟨aw,av⟩,aW⟩,au⟩:=au;have he:Option.rec (motive:=fun _=>Option dz) none (pG P call aL ops S H (eH P call aL ops a8)) (nth ops i)=some cw:=he;cases an:nth ops i with
   |none=>rw[an] at he;cases he
   |some o=>
    rw[an] at he;rw[kk] at an;have he:Option.rec (motive:=fun _=>Option dz) none (WT P call aL S H o (eH P call aL ops a8)) (fW ops S.T o)=some cw:=he;cases ar:fW ops S.T o with
    |none=>rw[ar] at he;cases he
    |some b=>
     rw[ar] at he
     have fin:∀v,(b=false->v=undef)->(b=true->cY P call aL S H o=some (.val v H))->qz (eH P call aL ops a8) H (S.put o.dst v)=some cw->
      ∃qu uF nz aO H' oZ,Inv P B w0 call aL ops ca cq jG H0 iZ fr jL uF K nz aO H' μ w tmps ds cs D oZ/\nv ops ca cq uF K nz qu=true/\eH P call aL ops qu aO H'=some cw/\(qu=[]\/∃i rest,qu=.cv i::rest):=by
      intro v aa ab q;cases mo:S.put o.dst v with
      |none=>rw[mo] at q;cases q
      |some aO=>
       rw[mo] at q;refine aG _ _ aO H A (Nk al aE an aw av mo ar aa aE.h aE.ei (dH _) rfl (fun _ _=>rfl) (fun _ _=>rfl) (fun j aU _ lA=>⟨?_,rfl⟩) (fun ai _ _=>ab ai) (fun _ h=>by rw[aW] at h;cases h)) au q;rcases k0.1 lA with q|q
       ·exact q
       ·exact absurd q.symm aU
     cases b with
     |false=>exact fin undef (fun _=>rfl) (fun h=>by cases h) he
     |true=>
      have he:F6 S H o.dst (eH P call aL ops a8) (cY P call aL S H o)=some cw:=he;cases gN:cY P call aL S H o with
      |none=>rw[gN] at he;cases he
      |some r=>
       rw[gN] at he;cases r with
       |val v bZ=>
        have he:(bif Nat.beq bZ.af H.af then qz (eH P call aL ops a8) H (S.put o.dst v) else none)=some cw:=he;cases gk:Nat.beq bZ.af H.af with
        |false=>rw[gk] at he;cases he
        |true=>
        rw[gk,cc] at he;have gA:bZ=H:=RG (al.cv i o an av) (vm i o an aW) gN (eK gk);subst gA;exact fin v (fun h=>by cases h) (fun _=>gN) he
       |skip _=>cases he
       |gh _=>cases he
       |jh _ _=>cases he
       |Cl=>cases he
  |f' i=>
   simp only[nv,fR,pJ] at au;obtain⟨⟨⟨aw,av⟩,aW⟩,au⟩:=au;have he:Option.rec (motive:=fun _=>Option dz) none (C9 P ops S H (eH P call aL ops a8)) (nth ops i)=some cw:=he;cases an:nth ops i with
   |none=>rw[an] at he;cases he
   |some o=>
    rw[an] at he;rw[kk] at an;have he:Option.rec (motive:=fun _=>Option dz) none (Qn P S H o (eH P call aL ops a8)) (fW ops S.T o)=some cw:=he;have Se:∀j,j≠i->cq.testBit j=false->(Nat.lor (Nat.land G cq) (Nat.pow 2 i)).testBit j=true->False:=fun j aU zd lA=>by
     rcases k0.1 lA with q|q
     ·rw[Jz,zd] at q;simp at q
     ·exact aU q.symm
    cases ar:fW ops S.T o with
    |none=>rw[ar] at he;cases he
    |some b=>
     rw[ar] at he;cases b with
     |false=>
      have he:qz (eH P call aL ops a8) H (S.put o.dst undef)=some cw:=he;cases mo:S.put o.dst undef with
      |none=>rw[mo] at he;cases he
      |some aO=>
       rw[mo] at he;exact aG _ _ aO H A (Nk al aE an aw av mo ar (fun _=>rfl) aE.h aE.ei (dH _) rfl (fun _ _=>rfl) (fun _ _=>rfl) (fun j aU zd lA=>(Se j aU zd lA).elim) (fun h=>by cases h) (fun h=>by cases h)) au he
     |true=>
      have he:Kq S H o.dst (eH P call aL ops a8) (mg P S.T o.op)=some cw:=he;cases cA:mg P S.T o.op with
      |none=>rw[cA] at he;cases he
      |some q=>
       obtain⟨fS,ef⟩:=q;rw[cA] at he;have he:Kr S o.dst (eH P call aL ops a8) ef (H.new fS)=some cw:=he;cases aM:H.new fS with
       |none=>rw[aM] at he;cases he
       |some q=>
        obtain⟨a,H1⟩:=q;rw[aM] at he;obtain⟨aal,aD,a5,cC,e0,ch⟩:=ao.n1 aM;subst aal;have nj:qz (eH P call aL ops a8) H1 (S.put o.dst (ef.at H.af))=some cw:=he;cases mo:S.put o.dst (ef.at H.af) with
        |none=>rw[mo] at nj;cases nj
        |some aO=>
         rw[mo] at nj
         refine aG _ _ aO H1 (fun j=>if j=i then H.af else A j) (Nk al aE an aw av mo ar (fun h=>by cases h) (aE.h.ahI aM (Qp cA)) (aE.ei.new aM) (by omega) e0 (fun x I=>by rw[ch,aq (by omega)])
          (fun j aU=>aq aU) (fun j aU zd lA=>(Se j aU zd lA).elim) (fun _ h=>by rw[aW] at h;cases h) (fun _ _=>⟨aF rfl,aD,aE.ei.af,fS,ef,cA,rfl,by rw[ch,aF rfl]⟩)) au nj
end
end
end Go.Cre
namespace Go.Cre
noncomputable section
open Go.RowKit
open Classical
section
variable {P:Program}{B:Nat->Prop}{w0 w:World}{μ jG:bH}{H H0 H' H1:ao}{S iZ aO ba:aQ}{fr:Frame}{tmps:Array Value}{ds:List Deferred}{cs jL:List Frame}{call:eS}{aL:gU}
variable {ops:Array Oper}{ca cq C K G:Nat}{D:Nat->Bool}{A:Nat->Nat}{i:Nat}{o:Oper}{k:List Item}{rest:List Nat}
theorem aX.FM{α:Type}{a v:α}{t:aX α}:∀{n:Nat},t.get n=some v->∃pE,aX.put a t n=some pE:=by
 induction t with
 |leaf=>intro n h;cases h
 |node u l r vJ vK=>
  intro n h;cases n with
  |zero=>exact⟨_,rfl⟩
  |succ m=>
   rw[aX.p1] at h;rw[aX.Jg];by_cases hm:m % 2=0
   ·rw[aF hm] at h ⊢;obtain⟨l',e⟩:=vJ h;rw[e];exact⟨_,rfl⟩
   ·rw[aq hm] at h ⊢;obtain⟨b7,e⟩:=vK h;rw[e];exact⟨_,rfl⟩
theorem aQ.Ci{p:Nat->Bool}{dst:Option Tmp}(h:∀t,dst=some t->t<S.n/\∃u,S.T.get t=some u)(v:Value):∃oj,(S.only p).put dst v=some oj:=by
 cases dst with
 |none=>exact⟨_,rfl⟩
 |some d=>
  obtain⟨aa,u,ab⟩:=h d rfl;obtain⟨T,n,fH,b0,b8,cB⟩:=S;show ∃oj,Bool.rec (motive:=fun _=>Option aQ) none (aQ.rM n fH b0 b8 cB (aX.put v (T.e7 p) d)) (Nat.ble (Nat.succ d) n)=some oj;have ai:Nat.ble (Nat.succ d) n=true:=kK aa;rw[ai];obtain⟨o3,aD⟩:=aX.FM (a:=v) ab;obtain⟨alP,a5⟩:=aX.Vv p aD;rw[a5];exact⟨_,rfl⟩
theorem aiw{X:aQ}{dst:Option Tmp}{v:Value}{cw:dz}(h:l5 X dst v H'=some cw):∃ba,X.put dst v=some ba/\cw=.ok ba H':=by
 unfold l5 n8 at h;cases au:X.put dst v with
 |none=>rw[au] at h;cases h
 |some ba=>rw[au] at h;have h:some (dz.ok ba H')=some cw:=h;injection h with h;exact⟨ba,rfl,h.symm⟩
theorem VC{X:aQ}{dst:Option Tmp}{v:Value}(h:X.put dst v=some ba):l5 X dst v H'=some (.ok ba H'):=by
 unfold l5;rw[h];rfl
theorem agz{l:List Oper}{p:Nat->Bool}(ay:∀t∈looks l o,p t=true)(he:one P call aL l S H o=some (.ok ba H1)):
 ∃gq,one P call aL l (S.only p) H o=some (.ok gq H1)/\gq.n=ba.n/\gq.ds=ba.ds/\gq.b0=ba.b0/\gq.b8=ba.b8/\gq.cB=ba.cB/\ba.n=S.n/\ba.b0=S.b0/\ba.cB=S.cB/\
  (∀t,gq.T.get t=if o.dst=some t then ba.T.get t else(S.only p).T.get t)/\(∀t,o.dst≠some t->ba.T.get t=S.T.get t):=by
 have Bo:∀t∈looks l o,(S.only p).T.get t=S.T.get t:=fun t aN=>by
  show(S.T.e7 p).get t=_;rw[aX.Lq,ay t aN];rfl
 have key:∀(X:aQ) (v:Value) (bZ:ao),X.n=S.n->X.b0=S.b0->X.cB=S.cB->X.T=S.T->l5 X o.dst v bZ=some (.ok ba H1)->
  ∃gq,l5 (X.only p) o.dst v bZ=some (.ok gq H1)/\gq.n=ba.n/\gq.ds=ba.ds/\gq.b0=ba.b0/\gq.b8=ba.b8/\gq.cB=ba.cB/\ba.n=S.n/\ba.b0=S.b0/\ba.cB=S.cB/\
  (∀t,gq.T.get t=if o.dst=some t then ba.T.get t else(S.only p).T.get t)/\(∀t,o.dst≠some t->ba.T.get t=S.T.get t):=by
  intro X v bZ h4 hd oX uC q;obtain⟨P6,aZ,aR⟩:=aiw q;injection aR with aR bY;subst aR;subst bY
  obtain⟨gq,ep⟩:=aQ.ah' p aZ;obtain⟨bl,bF,bO,b3,c2,cX⟩:=aQ.put_eq aZ;obtain⟨bE,bS,cJ,gy,nD,r5⟩:=aQ.put_eq ep;refine⟨gq,VC ep,bE.trans bl.symm,bS.trans bF.symm,cJ.trans bO.symm,gy.trans b3.symm,nD.trans c2.symm,bl.trans h4,bO.trans hd,c2.trans oX,fun t=>?_,fun t aN=>?_⟩
  ·rw[r5];by_cases aS:o.dst=some t
   ·rw[aF aS,aF aS,cX,aF aS]
   ·rw[aq aS,aq aS];show(X.T.e7 p).get t=(S.T.e7 p).get t;rw[uC]
  ·rw[cX,aq aN,uC]
 unfold one at he ⊢;rw[sl Bo];cases ar:fW l S.T o with
 |none=>rw[ar] at he;cases he
 |some b=>
  rw[ar] at he;cases b with
  |false=>exact key S undef H rfl rfl rfl rfl he
  |true=>
   have he:qs S H o.dst (cY P call aL S H o)=some (.ok ba H1):=he;show ∃gq,qs (S.only p) H o.dst (cY P call aL (S.only p) H o)=some (.ok gq H1)/\_;rw[Hm (S:=S) (aO:=S.only p) rfl (I2 Bo)];cases gN:cY P call aL S H o with
   |none=>rw[gN] at he;cases he
   |some r=>
    rw[gN] at he;cases r with
    |val v bZ=>exact key S v bZ rfl rfl rfl rfl he
    |skip bZ=>exact key S undef bZ rfl rfl rfl rfl he
    |jh c bZ=>have he:some (dz.jh c S bZ)=some (.ok ba H1):=he;injection he with he;cases he
    |gh d=>
     have he:FB S H o.dst d=some (.ok ba H1):=he;show ∃gq,FB (S.only p) H o.dst d=some (.ok gq H1)/\_;obtain⟨T,n,fH,b0,b8,cB⟩:=S;cases cB with
     |some l=>cases he
     |none=>exact key (aQ.Gb d ⟨T,n,fH,b0,b8,none⟩) undef H rfl rfl rfl rfl he
    |Cl=>
     have he:IY S H o.dst (us S)=some (.ok ba H1):=he;show ∃gq,IY (S.only p) H o.dst (us (S.only p))=some (.ok gq H1)/\_;have ax:us (S.only p)=us S:=rfl;rw[ax];cases BA:us S with
     |none=>rw[BA] at he;cases he
     |some q=>
      obtain⟨v,b8⟩:=q;rw[BA] at he;obtain⟨T,n,fH,b0,F4,cB⟩:=S;exact key (aQ.Cz b8 ⟨T,n,fH,b0,F4,cB⟩) v H rfl rfl rfl rfl he
theorem Uh(al:uR ops.toList ca)(aE:Inv P B w0 call aL ops.toList ca cq jG H0 iZ fr jL C K G S H μ w tmps ds cs D A)(an:ops[i]?=some o)(rm:∀j,(Oper.fP o).testBit j=true->D j=true):
 ∀t∈looks ops.toList o,free ops.toList C D t=true:=fun t aN=>y3.2 fun⟨j,eo,a,b,c,d⟩=>by
 rcases al.look j i eo o t c (by simpa using an) d aN with q|⟨q,_⟩
 ·have:=rm j q;rw[b] at this;cases this
 ·have aH:K.testBit j=false:=by
   cases aH:K.testBit j with
   |false=>rfl
   |true=>have:=aE.k j aH;rw[b] at this;cases this
  have:=(aE.oq j eo a aH c).1;rw[q] at this;cases this
def mz(D:Nat->Bool)(i:Nat):Nat->Bool:=fun j=>if j=i then true else D j
theorem rW{j:Nat}:mz D i j=true↔D j=true\/j=i:=by unfold mz;by_cases h:j=i<;>simp[h]
theorem Am{j:Nat}(h:mz D i j=false):D j=false/\j≠i:=by
 unfold mz at h;by_cases e:j=i
 ·rw[aF e] at h;cases h
 ·rw[aq e] at h;exact⟨h,e⟩
theorem abt{t:Nat}(aS:free ops.toList C (mz D i) t=true)(an:ops[i]?=some o):free ops.toList C D t=true\/o.dst=some t:=by
 by_cases h:NY ops.toList C D t
 ·obtain⟨j,eo,a,b,c,d⟩:=h;by_cases qa:j=i
  ·subst qa;have:ops.toList[j]?=some o:=by simpa using an
   rw[this] at c;injection c with c;subst c;exact .inr d
  ·exfalso;refine y3.1 aS ⟨j,eo,a,?_,c,d⟩;unfold mz;rw[aq qa];exact b
 ·exact .inl (y3.2 h)
theorem ait(hP:o1 P B w0 call)(oD:wE P B w0 aL)(al:uR ops.toList ca)(aE:Inv P B w0 call aL ops.toList ca cq jG H0 iZ fr jL C K G S H μ w tmps ds cs D A)
 (L':∀j,C.testBit j=true->K.testBit j=true\/G.testBit j=true)(mS:C.testBit i=true)(hI:D i=false)(an:ops[i]?=some o)(rm:∀j,(Oper.fP o).testBit j=true->D j=true):
 ∃bk bb gR fm cK,Steps P (lone (bG fr tmps ds (.inRegion ops (i::rest)::k)) cs w) (lone (bG fr gR fm (.inRegion ops rest::k)) cK bb)/\
  Inv P B w0 call aL ops.toList ca cq jG H0 iZ fr jL C K G S H bk bb gR fm cK (mz D i) A:=by
 have oC:ops.toList[i]?=some o:=by simpa using an
 have Mn:=Uh al aE an rm;have aH:K.testBit i=false:=by
  cases aH:K.testBit i with
  |false=>rfl
  |true=>have:=aE.k i aH;rw[hI] at this;cases this
 have ab5:G.testBit i=true:=by
  rcases L' i mS with q|q
  ·rw[aH] at q;cases q
  ·exact q
 obtain⟨tR,b,ar⟩:=aE.oq i o mS aH oC;have Bo:∀t∈looks ops.toList o,(S.only (free ops.toList C D)).T.get t=S.T.get t:=fun t aN=>by
  show(S.T.e7 _).get t=_;rw[aX.Lq,Mn t aN];rfl
 --O5 stays
 have fin:∀(bk:bH) (bb:World) (gR:Array Value) (fm:List Deferred) (cK:List Frame) (oj:aQ) (v:Value),bR P B w0 bk H bb->Step jG bk H0 H->jH iZ.b0 jL cK->
  (S.only (free ops.toList C D)).put o.dst v=some oj->(∀t,o.dst=some t->S.T.get t=some v)->hM bk oj fr gR fm cK->
  (∀(j:Nat) eo,C.testBit j=true->D j=false->j≠i->cq.testBit j=true->ops.toList[j]?=some eo->fW ops.toList S.T eo=some true->μ (A j)=none->A j<H.af->bk (A j)=none)->
  Inv P B w0 call aL ops.toList ca cq jG H0 iZ fr jL C K G S H bk bb gR fm cK (mz D i) A:=by
  intro bk bb gR fm cK oj v jf c0 kx mo ap Mj MU;obtain⟨bE,bS,cJ,gy,nD,r5⟩:=aQ.put_eq mo;refine⟨jf,?_,c0,kx,aE.b0,aE.cB,fun j aU=>?_,aE.Dj,fun j eo m aU e6 hm=>?_,aE.AQ,fun j aU=>rW.2 (.inl (aE.k j aU)),fun j eo aU tX e6=>?_,?_⟩
  ·refine Mj.conv bE.symm bS.symm cJ.symm gy.symm nD.symm fun t u q=>?_;obtain⟨aZ,aR⟩:=xN.1 q;rw[r5];by_cases aS:o.dst=some t
   ·rw[aF aS];rw[ap t aS] at aR;exact aR
   ·rw[aq aS];rcases abt aZ an with r|r
    ·exact xN.2 ⟨r,aR⟩
    ·exact absurd r aS
  ·rcases rW.1 aU with q|rfl
   ·exact aE.sub j q
   ·exact mS
  ·rcases rW.1 aU with q|rfl
   ·exact rW.2 (.inl (aE.down j eo m q e6 hm))
   ·rw[oC] at e6;injection e6 with e6;subst e6
    exact rW.2 (.inl (rm m hm))
  ·obtain⟨b4,AE,bX⟩:=aE.oq j eo aU tX e6;refine⟨b4,AE,bX.move rfl rfl (fun _ _=>rfl) (fun _ _=>rfl) (fun _ h=>⟨h,rfl⟩) rfl fun ai aW Ec=>?_⟩;obtain⟨d1,d2⟩:=Am Ec;refine⟨d1,fun fS _ ⟨aD,a5,cC,e0,ch⟩=>⟨?_,a5,cC,e0,ch⟩⟩;exact MU j eo aU d1 d2 aW e6 (ai▸bX.g) aD e0
  ·intro x y pz zX I ah y6 y7 ze zf rk qd rb p9 fp;exact aE.inj x y pz zX I ah (Am y6).1 (Am y7).1 ze zf rk qd rb p9 fp
 --by B8,where nothing is made
 have oP:∀v,one P call aL ops.toList (S.only (free ops.toList C D)) H o=l5 (S.only (free ops.toList C D)) o.dst v H->(∀t,o.dst=some t->S.T.get t=some v)->
  ∃bk bb gR fm cK,Steps P (lone (bG fr tmps ds (.inRegion ops (i::rest)::k)) cs w) (lone (bG fr gR fm (.inRegion ops rest::k)) cK bb)/\
  Inv P B w0 call aL ops.toList ca cq jG H0 iZ fr jL C K G S H bk bb gR fm cK (mz D i) A:=by
  intro v nU ap;obtain⟨oj,mo⟩:=aQ.Ci (S:=S) (p:=free ops.toList C D) ar.lt v;rw[VC mo] at nU;obtain⟨bk,bb,gR,fm,cK,b4,bX,cg,fJ,fV,gW,gJ⟩:=B8 (k:=k) (rest:=rest) hP oD aE.h aE.f an nU;refine⟨bk,bb,gR,fm,cK,gJ,fin bk bb gR fm cK oj v b4 (aE.ei.trans bX) (aE.AO.trans ?_) mo ap cg fun j eo _ _ _ _ _ _ hm cP=>(bX.e7 _ cP hm).1⟩;have:(S.only (free ops.toList C D)).b0=iZ.b0:=aE.b0;rw[<-this];exact fJ
 have EB:fW ops.toList (S.only (free ops.toList C D)).T o=some b:=by rw[sl Bo];exact ar.g
 cases b with
 |false=>
  refine oP undef ?_ (ar.no rfl);unfold one;rw[EB];rfl
 |true=>
  cases aW:cq.testBit i with
  |false=>
   obtain⟨v,aD,a5⟩:=ar.val rfl aW ab5;refine oP v ?_ a5;unfold one;rw[EB];show qs _ H o.dst (cY P call aL (S.only (free ops.toList C D)) H o)=_;rw[Hm (S:=S) (aO:=S.only (free ops.toList C D)) rfl (I2 Bo),aD];rfl
  |true=>
   obtain⟨fS,ef,aD,a5,cC⟩:=ar.f' rfl aW;obtain⟨ct,eM,l1,sL,sM⟩:=cC hI;have ve:mg P (S.only (free ops.toList C D)).T o.op=some (fS,ef):=by rw[Ks Bo];exact aD
   obtain⟨oM,N,aj,cO,dI,fK,iT⟩:=Yi aE.f.t ve w;have hw:=Sb aE.f.t EB;have dL:fr.roundOf=none\/∀c,o.op≠.defer c:=.inr fun c q=>by rw[q] at aD;cases aD
   obtain⟨adg,g9⟩:=aE.h.fill (L:=⟨w.heap.size,N,aj⟩) ct sL eM sM rfl dI;have aeD:bj (μ.put (A i) ⟨w.heap.size,N,aj⟩) (ef.at (A i)) (ef.at w.heap.size):=iy.rel iT (L:=⟨w.heap.size,N,aj⟩) (bH.jB _ _ _);obtain⟨oj,mo⟩:=aQ.Ci (S:=S) (p:=free ops.toList C D) ar.lt (ef.at (A i));obtain⟨f1,_⟩:=N9 (aE.f.mono g9) aeD mo;refine⟨_,_,_,_,_,.one (OE an hw dL cO),fin _ _ _ _ _ oj (ef.at (A i)) adg ?_ aE.AO mo a5 f1 ?_⟩
   ·refine⟨aE.ei.ext.trans g9,aE.ei.af,aE.ei.bq,fun id zm hm=>?_⟩;obtain⟨a,b⟩:=aE.ei.e7 id zm hm;refine⟨?_,b⟩;rw[bH.sU _ _ (by omega)];exact a
   ·intro j eo aU Ec qa zd e6 Mr hm cP;rw[bH.sU _ _ ?_]
    ·exact hm
    ·intro q;exact qa (aE.inj j i eo o aU mS Ec hI zd aW e6 oC Mr ar.g q)
theorem ais(hP:o1 P B w0 call)(oD:wE P B w0 aL)(al:uR ops.toList ca)(aE:Inv P B w0 call aL ops.toList ca cq jG H0 iZ fr jL C K G S H μ w tmps ds cs D A)
 (mS:C.testBit i=false)(an:ops[i]?=some o)(rm:∀j,(Oper.fP o).testBit j=true->D j=true)(nU:one P call aL ops.toList S H o=some (.ok ba H1))
 {uK:Nat}(Sk:uK=ts ops.toList ops.toList.length (Nat.lor K (Nat.pow 2 i)))(acb:∀j,(Oper.fP o).testBit j=true->uK.testBit j=true)(aca:uK.testBit i=true):
 ∃bk bb gR fm cK,Steps P (lone (bG fr tmps ds (.inRegion ops (i::rest)::k)) cs w) (lone (bG fr gR fm (.inRegion ops rest::k)) cK bb)/\
  Inv P B w0 call aL ops.toList ca cq jG H0 iZ fr jL (Nat.lor C (Nat.pow 2 i)) uK (Nat.land G cq) ba H1 bk bb gR fm cK (mz D i) A:=by
 have oC:ops.toList[i]?=some o:=by simpa using an
 have Mn:=Uh al aE an rm;have A6:D i=false:=by
  cases aS:D i with
  |false=>rfl
  |true=>have:=aE.sub i aS;rw[mS] at this;cases this
 obtain⟨gq,t1,t2,t3,t4,t5,t6,t7,t8,t9,t10,t11⟩:=agz Mn nU;obtain⟨bk,bb,gR,fm,cK,b4,bX,cg,fJ,fV,gW,gJ⟩:=B8 (k:=k) (rest:=rest) hP oD aE.h aE.f an t1;have SL:∀(j:Nat) eo m,mz D i j=true->ops.toList[j]?=some eo->(Oper.fP eo).testBit m=true->mz D i m=true:=fun j eo m aU e6 hm=>by
  rcases rW.1 aU with q|rfl
  ·exact rW.2 (.inl (aE.down j eo m q e6 hm))
  ·rw[oC] at e6;injection e6 with e6;subst e6
   exact rW.2 (.inl (rm m hm))
 have Sl:∀j,uK.testBit j=true->mz D i j=true:=fun j aU=>by
  rw[Sk] at aU;refine Zv (D:=mz D i) SL (fun m hm=>?_) j aU;rcases k0.1 hm with q|rfl
  ·exact rW.2 (.inl (aE.k m q))
  ·exact rW.2 (.inr rfl)
 have MT:∀{j:Nat},(Nat.lor C (Nat.pow 2 i)).testBit j=true->j≠i->C.testBit j=true:=fun{j} aU dR=>by
  rcases k0.1 aU with q|q
  ·exact q
  ·exact absurd q.symm dR
 --ao2 ajZ Ym not ao0 done amA look at O5 is written now
 have p4:∀{j:Nat} {eo:Oper},C.testBit j=true->uK.testBit j=false->ops.toList[j]?=some eo->∀t∈looks ops.toList eo,ba.T.get t=S.T.get t:=fun{j eo} aU tX e6 t aN=>by
  refine t11 t fun aS=>?_;rcases al.look i j o eo t oC e6 aS aN with q|⟨_,q|q⟩
  ·have:=aE.AQ j eo i aU e6 q;rw[mS] at this;cases this
  ·subst q;rw[mS] at aU;cases aU
  ·rw[acb j q] at tX;cases tX
 have am1:∀{j:Nat},uK.testBit j=false->j≠i->D j=false->K.testBit j=false:=fun{j} _ _ aS=>by
  cases aH:K.testBit j with
  |false=>rfl
  |true=>have:=aE.k j aH;rw[aS] at this;cases this
 have S8:∀{j:Nat},mz D i j=false->uK.testBit j=false:=fun{j} aS=>by
  cases aH:uK.testBit j with
  |false=>rfl
  |true=>have:=Sl j aH;rw[aS] at this;cases this
 refine⟨bk,bb,gR,fm,cK,gJ,⟨b4,?_,aE.ei.trans bX,aE.AO.trans ?_,t8.trans aE.b0,t9.trans aE.cB,fun j aU=>?_,fun j aU=>?_,SL,fun j eo m aU e6 hm=>?_,Sl,fun j eo aU tX e6=>?_,?_⟩⟩
 ·refine cg.conv t2.symm t3.symm t4.symm t5.symm t6.symm fun t u q=>?_;obtain⟨aZ,aR⟩:=xN.1 q;rw[t10];by_cases aS:o.dst=some t
  ·rw[aF aS];exact aR
  ·rw[aq aS];rw[t11 t aS] at aR;refine xN.2 ⟨?_,aR⟩;rw[y3] at aZ ⊢;intro⟨j,eo,a,b,c,d⟩;refine aZ ⟨j,eo,k0.2 (.inl a),?_,c,d⟩;unfold mz;rw[aq (fun e=>by subst e;rw[mS] at a;cases a)];exact b
 ·have:(S.only (free ops.toList C D)).b0=iZ.b0:=aE.b0;rw[<-this];exact fJ
 ·rcases rW.1 aU with q|rfl
  ·exact k0.2 (.inl (aE.sub j q))
  ·exact k0.2 (.inr rfl)
 ·rcases k0.1 aU with q|rfl
  ·exact aE.Dj j q
  ·exact⟨o,oC⟩
 ·rcases k0.1 aU with q|rfl
  ·exact k0.2 (.inl (aE.AQ j eo m q e6 hm))
  ·rw[oC] at e6;injection e6 with e6;subst e6
   exact k0.2 (.inl (aE.sub m (rm m hm)))
 ·have qa:j≠i:=fun e=>by subst e;rw[aca] at tX;cases tX
  have SY:=MT aU qa;cases aH:K.testBit j with
  |true=>
   exfalso;have jw:∀{n CN:Nat},CN.testBit j=true->(ts ops.toList n CN).testBit j=true:=by
    intro n;induction n with
    |zero=>intro CN h;exact h
    |succ n aG=>
     intro CN h;simp only[ts];refine aG ?_;cases ai:CN.testBit n with
     |false=>exact h
     |true=>
      rw[cc];cases nth ops.toList n with
      |none=>exact h
      |some o=>simp only;rw[x8,h];rfl
   rw[Sk,jw (k0.2 (.inl aH))] at tX;cases tX
  |false=>
   obtain⟨bx,AE,bT⟩:=aE.oq j eo SY aH e6;refine⟨bx,AE,bT.move t7 t9 (p4 SY tX e6) (fun t aN=>t11 t fun aS=>al.dst i j o eo t oC e6 (Ne.symm qa) aS aN) (fun aW lA=>?_) rfl fun ai aW Ec=>?_⟩
   ·rw[Jz,aW] at lA;simp at lA
   ·obtain⟨d1,d2⟩:=Am Ec;refine⟨d1,fun fS dU ⟨aD,a5,cC,e0,ch⟩=>?_⟩;obtain⟨kG,nx⟩:=bX.e7 _ e0 aD;exact⟨kG,by rw[bX.bq];exact a5,cC,uO e0 bX.af,by rw[nx (by rw[ch];exact dU)];exact ch⟩
 ·intro x y pz zX I ah y6 y7 ze zf rk qd rb p9 fp;obtain⟨d1,d2⟩:=Am y6;obtain⟨d3,d4⟩:=Am y7;have TG:=MT I d2;have TH:=MT ah d4;rw[sl (p4 TG (S8 y6) rk)] at rb;rw[sl (p4 TH (S8 y7) qd)] at p9;exact aE.inj x y pz zX TG TH d1 d3 ze zf rk qd rb p9 fp
end
end
end Go.Cre

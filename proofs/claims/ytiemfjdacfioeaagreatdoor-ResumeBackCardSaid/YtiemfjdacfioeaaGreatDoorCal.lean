/- A part of the proof of ResumeBack. -/
import Derived.Test.YtiemfjdacfioeaaGreatDoorCak
set_option linter.unusedVariables false
set_option linter.unusedSimpArgs false
namespace Go.Cre
noncomputable section
open Go.RowKit
open Classical
def QK(ops:List Oper)(C:Nat)(D:Nat->Bool)(t:Nat):Prop:=∃(i:Nat) (o:Oper),C.testBit i=true/\D i=false/\ops[i]?=some o/\o.dst=some t
def free (ops:List Oper)(C:Nat)(D:Nat->Bool)(t:Nat):Bool:=decide (¬QK ops C D t)
theorem AX{ops:List Oper}{C:Nat}{D:Nat->Bool}{t:Nat}:free ops C D t=true↔¬QK ops C D t:=by unfold free;exact lS
structure Good (P:Program) (call:eH) (aR:gR) (ops:List Oper) (cg G:Nat) (aay:Nat) (S:bi) (H:aB) (μ:b1) (D:Nat->Bool) (A:Nat->Nat) (i:Nat) (o:Oper) (b:Bool):Prop where
 g:fj ops S.T o=some b
 lt:∀t,o.dst=some t->t<S.n/\∃u,S.T.get t=some u
 no:b=false->∀t,o.dst=some t->S.T.get t=some undef
 val:b=true->cg.testBit i=false->G.testBit i=true->∃v,cO P call aR S H o=some (.val v H)/\∀t,o.dst=some t->S.T.get t=some v
 gh:b=true->cg.testBit i=true->∃fP ep,nx P S.T o.op=some (fP,ep)/\(∀t,o.dst=some t->S.T.get t=some (ep.at (A i)))/\
  (D i=false->μ (A i)=none/\H.bZ<=A i/\aay<=A i/\A i<H.ak/\H.mem.get (A i)=some fP)
structure Inv (P:Program) (B:Nat->Prop) (w0:World) (call:eH) (aR:gR) (ops:List Oper) (bU cg:Nat) (jW:b1) (H0:aB) (jt:bi) (fr:Frame) (je:List Frame)
 (C K G:Nat) (S:bi) (H:aB) (μ:b1) (w:World) (tmps:Array Value) (ds:List Deferred) (cs:List Frame) (D:Nat->Bool) (A:Nat->Nat):Prop where
 h:ca P B w0 μ H w
 f:iO μ (S.only (free ops C D)) fr tmps ds cs
 gE:Step jW μ H0 H
 Dh:kV jt.b2 je cs
 b2:S.b2=jt.b2
 cJ:S.cJ=jt.cJ
 sub:∀i,D i=true->C.testBit i=true
 FZ:∀i,C.testBit i=true->∃o,ops[i]?=some o
 down:∀(i:Nat) o j,D i=true->ops[i]?=some o->(Oper.fL o).testBit j=true->D j=true
 Dm:∀(i:Nat) o j,C.testBit i=true->ops[i]?=some o->(Oper.fL o).testBit j=true->C.testBit j=true
 k:∀i,K.testBit i=true->D i=true
 pp:∀(i:Nat) o,C.testBit i=true->K.testBit i=false->ops[i]?=some o->bU.testBit i=false/\∃b,Good P call aR ops cg G H0.ak S H μ D A i o b
 inj:∀(i j:Nat) jk er,C.testBit i=true->C.testBit j=true->D i=false->D j=false->cg.testBit i=true->cg.testBit j=true->ops[i]?=some jk->ops[j]?=some er->
  fj ops S.T jk=some true->fj ops S.T er=some true->A i=A j->i=j
section
variable {P:Program}{B:Nat->Prop}{w0 w:World}{μ jW:b1}{H H0 H':aB}{S jt aS:bi}{fr:Frame}{tmps:Array Value}{ds:List Deferred}{cs je:List Frame}{call:eH}{aR:gR}
variable {ops:List Oper}{bU cg C K G:Nat}{D:Nat->Bool}{A:Nat->Nat}{i:Nat}{o:Oper}
theorem bi.amz{dst:Option Tmp}{v:Value}(he:S.put dst v=some aS):∀t,dst=some t->t<aS.n/\∃u,aS.T.get t=some u:=fun t aD=>by
 have e:=bi.put_eq he;refine⟨?_,v,by rw[e.2.2.2.2.2,aE aD]⟩;subst aD;obtain⟨T,n,h4,b2,bJ,cJ⟩:=S;have he:Bool.rec (motive:=fun _=>Option bi) none (bi.uA n h4 b2 bJ cJ (bg.put v T t)) (Nat.ble (Nat.succ t) n)=some aS:=he;rw[e.1];show t<n;cases au:Nat.ble (Nat.succ t) n with
 |false=>rw[au] at he;cases he
 |true=>exact h3 au
theorem iO.conv{bq gv:bi}(h:iO μ bq fr tmps ds cs)(aN:gv.n=bq.n)(bn:gv.ds=bq.ds)(cP:gv.b2=bq.b2)(eW:gv.bJ=bq.bJ)(cv:gv.cJ=bq.cJ)
 (aD:∀t v,gv.T.get t=some v->bq.T.get t=some v):iO μ gv fr tmps ds cs:=
 ⟨⟨by rw[aN];exact h.t.1,fun t v q=>h.t.2 t v (aD t v q)⟩,by rw[bn];exact h.d,by rw[cP];exact h.kind,fun q=>h.zR (cv▸q),fun l q=>h.IH l (cv▸q),fun q=>by rw[eW];exact h.bJ (cP▸q)⟩
theorem zI{p:Nat->Bool}{t:Nat}{v:Value}:(S.only p).T.get t=some v↔p t=true/\S.T.get t=some v:=by
 show(S.T.eF p).get t=some v↔_;rw[bg.NS];cases p t<;>simp
theorem Good.move{ot:Nat}{bI:b1}{CF:Nat->Bool}{pU:Nat->Nat}{b:Bool}(aq:Good P call aR ops cg G H0.ak S H μ D A i o b)(aP:aS.n=S.n)(ay:aS.cJ=S.cJ)
 (av:∀t∈looks ops o,aS.T.get t=S.T.get t)(aZ:∀t,o.dst=some t->aS.T.get t=S.T.get t)
 (lT:cg.testBit i=false->ot.testBit i=true->G.testBit i=true/\H'=H)(k4:pU i=A i)
 (Pv:b=true->cg.testBit i=true->CF i=false->D i=false/\(∀fP,ka (some fP)=false->μ (A i)=none/\H.bZ<=A i/\H0.ak<=A i/\A i<H.ak/\H.mem.get (A i)=some fP->bI (A i)=none/\H'.bZ<=A i/\H0.ak<=A i/\A i<H'.ak/\H'.mem.get (A i)=some fP)):
 Good P call aR ops cg ot H0.ak aS H' bI CF pU i o b:=by
 refine⟨by rw[tF av];exact aq.g,fun t aD=>?_,fun au t aD=>by rw[aZ t aD];exact aq.no au t aD,fun au a' Oa=>?_,fun au a'=>?_⟩
 ·obtain⟨a,b⟩:=aq.lt t aD;exact⟨by rw[aP];exact a,by rw[aZ t aD];exact b⟩
 ·obtain⟨g1,rfl⟩:=lT a' Oa;obtain⟨v,aN,bn⟩:=aq.val au a' g1;exact⟨v,by rw[J7 ay (Lv av)];exact aN,fun t aD=>by rw[aZ t aD];exact bn t aD⟩
 ·obtain⟨fP,ep,aN,bn,cP⟩:=aq.gh au a';refine⟨fP,ep,by rw[MI av];exact aN,fun t aD=>by rw[aZ t aD,k4];exact bn t aD,fun jg=>?_⟩;obtain⟨bd,a6⟩:=Pv au a' jg;rw[k4];exact a6 fP (SP aN) (cP bd)
theorem quiet(af:wy ops bU)(aJ:Inv P B w0 call aR ops bU cg jW H0 jt fr je C K G S H μ w tmps ds cs D A)(ao:C.testBit i=false)(ar:ops[i]?=some o)(aH:bU.testBit i=false)
 {j:Nat}{er:Oper}(ba:C.testBit j=true\/j=i)(e6:ops[j]?=some er){t:Nat}(aD:t∈looks ops er):o.dst≠some t:=fun aZ=>by
 rcases af.look i j o er t ar e6 aZ aD with q|⟨q,_⟩
 ·rcases ba with ba|rfl
  ·have:=aJ.Dm j er i ba e6 q;rw[ao] at this;cases this
  ·have:=af.down j er j e6 q;omega
 ·rw[aH] at q;cases q
theorem aeW(h:fits ops C i=true)(ar:ops[i]?=some o):C.testBit i=false/\∀j,(Oper.fL o).testBit j=true->C.testBit j=true:=by
 unfold fits at h;rw[kR,ar] at h;simp only[fU,qL] at h;exact⟨h.1,fun j ba=>Rm h.2 ba⟩
theorem ae4(jg:D i=false)(ar:ops[i]?=some o){t:Nat}(h:free ops (Nat.lor C (Nat.pow 2 i)) D t=true):free ops C D t=true/\o.dst≠some t:=by
 rw[AX] at h;refine⟨AX.2 fun⟨j,er,a,b,c,d⟩=>h ⟨j,er,lm.2 (.inl a),b,c,d⟩,fun aZ=>h ⟨i,o,lm.2 (.inr rfl),jg,ar,aZ⟩⟩
theorem P7(af:wy ops bU)(aJ:Inv P B w0 call aR ops bU cg jW H0 jt fr je C K G S H μ w tmps ds cs D A)(ar:ops[i]?=some o)(aC:fits ops C i=true)(aH:bU.testBit i=false)
 {v:Value}{b:Bool}{ot:Nat}{pU:Nat->Nat}(aw:S.put o.dst v=some aS)(aq:fj ops S.T o=some b)(fy:b=false->v=undef)
 (oM:ca P B w0 μ H' w)(di:Step jW μ H0 H')(e0:H.ak<=H'.ak)(rk:H'.bZ=H.bZ)(n8:∀x,x<H.ak->H'.mem.get x=H.mem.get x)
 (k4:∀j,j≠i->pU j=A j)(lT:∀j,j≠i->cg.testBit j=false->ot.testBit j=true->G.testBit j=true/\H'=H)
 (uf:b=true->cg.testBit i=false->ot.testBit i=true->cO P call aR S H' o=some (.val v H'))
 (Ox:b=true->cg.testBit i=true->pU i=H.ak/\H'.ak=H.ak+1/\H0.ak<=H.ak/\∃fP ep,nx P S.T o.op=some (fP,ep)/\v=ep.at H.ak/\H'.mem.get H.ak=some fP):
 Inv P B w0 call aR ops bU cg jW H0 jt fr je (Nat.lor C (Nat.pow 2 i)) K ot aS H' μ w tmps ds cs D pU:=by
 obtain⟨ao,hm⟩:=aeW aC ar;have DI:D i=false:=by
  cases aZ:D i with
  |false=>rfl
  |true=>have:=aJ.sub i aZ;rw[ao] at this;cases this
 obtain⟨dS,iz,iX,lJ,nj,mB⟩:=bi.put_eq aw;have re:∀{j:Nat} {er:Oper},(C.testBit j=true\/j=i)->ops[j]?=some er->∀t∈looks ops er,aS.T.get t=S.T.get t:=fun{j er} ba e6 t aD=>by
  rw[mB,ap (quiet af aJ ao ar aH ba e6 aD)]
 refine⟨oM,?_,di,aJ.Dh,iX.trans aJ.b2,nj.trans aJ.cJ,fun j ba=>lm.2 (.inl (aJ.sub j ba)),fun j ba=>?_,aJ.down,fun j er k ba e6 aU=>?_,aJ.k,fun j er ba aU e6=>?_,?_⟩
 ·refine aJ.f.conv dS iz iX lJ nj fun t u q=>?_;obtain⟨bd,a6⟩:=zI.1 q;obtain⟨cI,ei⟩:=ae4 DI ar bd;rw[mB,ap ei] at a6;exact zI.2 ⟨cI,a6⟩
 ·rcases lm.1 ba with q|rfl
  ·exact aJ.FZ j q
  ·exact⟨o,ar⟩
 ·rcases lm.1 ba with q|rfl
  ·exact lm.2 (.inl (aJ.Dm j er k q e6 aU))
  ·rw[ar] at e6;injection e6 with e6;subst e6
   exact lm.2 (.inl (hm k aU))
 ·by_cases n7:j=i
  ·subst n7;rw[ar] at e6;injection e6 with e6;subst e6
   refine⟨aH,b,?_⟩;refine⟨by rw[tF (re (.inr rfl) ar)];exact aq,bi.amz aw,fun au t aD=>by rw[mB,aE aD,fy au],fun au a' Oa=>?_,fun au a'=>?_⟩
   ·exact⟨v,by rw[J7 nj (Lv (re (.inr rfl) ar))];exact uf au a' Oa,fun t aD=>by rw[mB,aE aD]⟩
   ·obtain⟨bo,a2,a3,fP,ep,a4,rfl,dc⟩:=Ox au a';refine⟨fP,ep,by rw[MI (re (.inr rfl) ar)];exact a4,fun t aD=>by rw[mB,aE aD,bo],fun _=>?_⟩;rw[bo];exact⟨aJ.h.Xz,by rw[rk];exact aJ.h.kM,a3,by omega,dc⟩
  ·have ba:C.testBit j=true:=by
    rcases lm.1 ba with q|q
    ·exact q
    ·exact absurd q.symm n7
   obtain⟨g1,C2,g2⟩:=aJ.pp j er ba aU e6;refine⟨g1,C2,g2.move dS nj (re (.inl ba) e6) (fun t aD=>?_) (lT j n7) (k4 j n7) fun au a' jg=>⟨jg,fun fP _ ⟨aN,bn,cP,eW,cv⟩=>⟨aN,by rw[rk];exact bn,cP,by omega,by rw[n8 _ eW];exact cv⟩⟩⟩;rw[mB,ap (fun q=>af.dst i j o er t ar e6 (Ne.symm n7) q aD)]
 ·have c4:∀(j:Nat) er,C.testBit j=true->D j=false->cg.testBit j=true->ops[j]?=some er->fj ops S.T er=some true->A j<H.ak:=fun j er ba jg a' e6 OW=>by
   have aU:K.testBit j=false:=by
    cases aU:K.testBit j with
    |false=>rfl
    |true=>have:=aJ.k j aU;rw[jg] at this;cases this
   obtain⟨_,C2,g2⟩:=aJ.pp j er ba aU e6;have e:=g2.g;rw[OW] at e;injection e with e;subst e
   obtain⟨fP,ep,_,_,q⟩:=g2.gh rfl a';exact(q jg).2.2.2.1
  intro x y iW zO U ai tG A4 Bi Bj sE ru sx rp fl;by_cases iw:x=i
  ·by_cases kz:y=i
   ·rw[iw,kz]
   ·exfalso;subst iw;rw[ar] at sE;injection sE with sE;subst sE
    rw[tF (re (.inr rfl) ar),aq] at sx;injection sx with sx;subst sx
    have ai:C.testBit y=true:=by
     rcases lm.1 ai with q|q
     ·exact q
     ·exact absurd q.symm kz
    rw[tF (re (.inl ai) ru)] at rp;have:=c4 y zO ai A4 Bj ru rp;rw[(Ox rfl Bi).1,k4 y kz] at fl;omega
  ·have e1:C.testBit x=true:=by
    rcases lm.1 U with q|q
    ·exact q
    ·exact absurd q.symm iw
   rw[tF (re (.inl e1) sE)] at sx;by_cases kz:y=i
   ·exfalso;subst kz;rw[ar] at ru;injection ru with ru;subst ru
    rw[tF (re (.inr rfl) ar),aq] at rp;injection rp with rp;subst rp
    have:=c4 x iW e1 tG Bi sE sx;rw[(Ox rfl Bj).1,k4 x iw] at fl;omega
   ·have ai:C.testBit y=true:=by
     rcases lm.1 ai with q|q
     ·exact q
     ·exact absurd q.symm kz
    rw[tF (re (.inl ai) ru)] at rp;rw[k4 x iw,k4 y kz] at fl;exact aJ.inj x y iW zO e1 ai tG A4 Bi Bj sE ru sx rp fl
theorem Step.new(di:Step jW μ H0 H){b:ff}{a:Nat}(aP:H.new b=some (a,H')):Step jW μ H0 H':=by
 obtain⟨rfl,aN,bn,cP,eW,cv⟩:=aB.qz aP;refine⟨di.ext,by have:=di.ak;omega,by rw[eW];exact di.bZ,fun id hid hm=>?_⟩;obtain⟨a,b⟩:=di.eF id hid hm;exact⟨a,fun ar=>by rw[cv,ap (by have:=di.ak;omega)];exact b ar⟩
theorem TE(af:wy ops bU)(Bf:∀(i:Nat) o,ops[i]?=some o->cg.testBit i=false->zt o.op=false){dB:dH}:∀(bf:List jr) (C G:Nat) (S:bi) (H:aB) (A:Nat->Nat),
 Inv P B w0 call aR ops bU cg jW H0 jt fr je C K G S H μ w tmps ds cs D A->oi ops bU cg C K G bf=true->dK P call aR ops bf S H=some dB->
 ∃rN wi ot aS H' pU,Inv P B w0 call aR ops bU cg jW H0 jt fr je wi K ot aS H' μ w tmps ds cs D pU/\oi ops bU cg wi K ot rN=true/\dK P call aR ops rN aS H'=some dB/\
  (rN=[]\/∃i rest,rN=.bV i::rest):=by
 intro bf;induction bf with
 |nil=>intro C G S H A aJ aw he;exact⟨[],C,G,S,H,A,aJ,aw,he,.inl rfl⟩
 |cons s bf aK=>
  intro C G S H A aJ aw he;have he:TX P call aR ops (dK P call aR ops bf) S H s=some dB:=he;cases s with
  |bV i=>exact⟨.bV i::bf,C,G,S,H,A,aJ,aw,he,.inr ⟨i,bf,rfl⟩⟩
  |cF l=>
   simp only[oi,fU] at aw;have az:=aa3 aw.1;have he:(bif l.all (wR P call aR ops S H) then dK P call aR ops bf S H else none)=some dB:=he;cases av:l.all (wR P call aR ops S H) with
   |false=>rw[av] at he;cases he
   |true=>
    rw[av,cb] at he;rw[s8] at av;refine aK C (Nat.lor G (BO l)) S H A ?_ aw.2 he;refine⟨aJ.h,aJ.f,aJ.gE,aJ.Dh,aJ.b2,aJ.cJ,aJ.sub,aJ.FZ,aJ.down,aJ.Dm,aJ.k,fun j er ba aU e6=>?_,aJ.inj⟩;obtain⟨g1,b,g2⟩:=aJ.pp j er ba aU e6;refine⟨g1,b,g2.g,g2.lt,g2.no,fun au a' lT=>?_,g2.gh⟩;rw[z6,yj,aks] at lT;rcases lT with lT|lT
    ·exact g2.val au a' lT
    ·have aH:=av j lT;unfold wR at aH;rw[kR,e6] at aH;simp only at aH;rw[g2.g,au] at aH;have ji:JV H.ak S.T er.dst (cO P call aR S H er)=true:=aH;cases hV:cO P call aR S H er with
     |none=>rw[hV] at ji;cases ji
     |some r=>
      rw[hV] at ji;cases r with
      |val v cN=>
       have ji:(Nat.beq cN.ak H.ak&&(match er.dst with|none=>true|some d=>(match S.T.get d with|some u=>iC 8 v u|none=>false)))=true:=ji
       simp only[fU] at ji;have pr:cN=H:=Um (af.bV j er e6 g1) (Bf j er e6 a') hV (eN ji.1);refine⟨v,by rw[pr],fun t aD=>?_⟩;have oO:(match er.dst with|none=>true|some d=>(match S.T.get d with|some u=>iC 8 v u|none=>false))=true:=ji.2
       rw[aD] at oO;simp only at oO;cases dy:S.T.get t with
       |none=>rw[dy] at oO;cases oO
       |some u=>rw[dy] at oO;rw[aoU oO]
      |skip _=>cases ji
      |iT _=>cases ji
      |jE _ _=>cases ji
      |Cd=>cases ji
  |val i=>
   simp only[oi,fU,qL] at aw;obtain⟨⟨⟨aC,aH⟩,a'⟩,aw⟩:=aw;have he:Option.rec (motive:=fun _=>Option dH) none (mI P call aR ops S H (dK P call aR ops bf)) (nth ops i)=some dB:=he;cases ar:nth ops i with
   |none=>rw[ar] at he;cases he
   |some o=>
    rw[ar] at he;rw[kR] at ar;have he:Option.rec (motive:=fun _=>Option dH) none (ZS P call aR S H o (dK P call aR ops bf)) (fj ops S.T o)=some dB:=he;cases aq:fj ops S.T o with
    |none=>rw[aq] at he;cases he
    |some b=>
     rw[aq] at he
     have fin:∀v,(b=false->v=undef)->(b=true->cO P call aR S H o=some (.val v H))->pM (dK P call aR ops bf) H (S.put o.dst v)=some dB->
      ∃rN wi ot aS H' pU,Inv P B w0 call aR ops bU cg jW H0 jt fr je wi K ot aS H' μ w tmps ds cs D pU/\oi ops bU cg wi K ot rN=true/\dK P call aR ops rN aS H'=some dB/\(rN=[]\/∃i rest,rN=.bV i::rest):=by
      intro v aa ae q;cases nb:S.put o.dst v with
      |none=>rw[nb] at q;cases q
      |some aS=>
       rw[nb] at q;refine aK _ _ aS H A (P7 af aJ ar aC aH nb aq aa aJ.h aJ.gE (cZ _) rfl (fun _ _=>rfl) (fun _ _=>rfl) (fun j ba _ lT=>⟨?_,rfl⟩) (fun au _ _=>ae au) (fun _ h=>by rw[a'] at h;cases h)) aw q;rcases lm.1 lT with q|q
       ·exact q
       ·exact absurd q.symm ba
     cases b with
     |false=>exact fin undef (fun _=>rfl) (fun h=>by cases h) he
     |true=>
      have he:Ct S H o.dst (dK P call aR ops bf) (cO P call aR S H o)=some dB:=he;cases hV:cO P call aR S H o with
      |none=>rw[hV] at he;cases he
      |some r=>
       rw[hV] at he;cases r with
       |val v cN=>
        have he:(bif Nat.beq cN.ak H.ak then pM (dK P call aR ops bf) H (S.put o.dst v) else none)=some dB:=he;cases e0:Nat.beq cN.ak H.ak with
        |false=>rw[e0] at he;cases he
        |true=>
        rw[e0,cb] at he;have pr:cN=H:=Um (af.bV i o ar aH) (Bf i o ar a') hV (eN e0);subst pr;exact fin v (fun h=>by cases h) (fun _=>hV) he
       |skip _=>cases he
       |iT _=>cases he
       |jE _ _=>cases he
       |Cd=>cases he
  |gh i=>
   simp only[oi,fU,qL] at aw;obtain⟨⟨⟨aC,aH⟩,a'⟩,aw⟩:=aw;have he:Option.rec (motive:=fun _=>Option dH) none (FK P ops S H (dK P call aR ops bf)) (nth ops i)=some dB:=he;cases ar:nth ops i with
   |none=>rw[ar] at he;cases he
   |some o=>
    rw[ar] at he;rw[kR] at ar;have he:Option.rec (motive:=fun _=>Option dH) none (SN P S H o (dK P call aR ops bf)) (fj ops S.T o)=some dB:=he;have U1:∀j,j≠i->cg.testBit j=false->(Nat.lor (Nat.land G cg) (Nat.pow 2 i)).testBit j=true->False:=fun j ba Be lT=>by
     rcases lm.1 lT with q|q
     ·rw[L3,Be] at q;simp at q
     ·exact ba q.symm
    cases aq:fj ops S.T o with
    |none=>rw[aq] at he;cases he
    |some b=>
     rw[aq] at he;cases b with
     |false=>
      have he:pM (dK P call aR ops bf) H (S.put o.dst undef)=some dB:=he;cases nb:S.put o.dst undef with
      |none=>rw[nb] at he;cases he
      |some aS=>
       rw[nb] at he;exact aK _ _ aS H A (P7 af aJ ar aC aH nb aq (fun _=>rfl) aJ.h aJ.gE (cZ _) rfl (fun _ _=>rfl) (fun _ _=>rfl) (fun j ba Be lT=>(U1 j ba Be lT).elim) (fun h=>by cases h) (fun h=>by cases h)) aw he
     |true=>
      have he:MG S H o.dst (dK P call aR ops bf) (nx P S.T o.op)=some dB:=he;cases bB:nx P S.T o.op with
      |none=>rw[bB] at he;cases he
      |some q=>
       obtain⟨fP,ep⟩:=q;rw[bB] at he;have he:MH S o.dst (dK P call aR ops bf) ep (H.new fP)=some dB:=he;cases aP:H.new fP with
       |none=>rw[aP] at he;cases he
       |some q=>
        obtain⟨a,H1⟩:=q;rw[aP] at he;obtain⟨adZ,aN,bn,cP,eW,cv⟩:=aB.qz aP;subst adZ;have n6:pM (dK P call aR ops bf) H1 (S.put o.dst (ep.at H.ak))=some dB:=he;cases nb:S.put o.dst (ep.at H.ak) with
        |none=>rw[nb] at n6;cases n6
        |some aS=>
         rw[nb] at n6
         refine aK _ _ aS H1 (fun j=>if j=i then H.ak else A j) (P7 af aJ ar aC aH nb aq (fun h=>by cases h) (aJ.h.amb aP (SP bB)) (aJ.gE.new aP) (by omega) eW (fun x U=>by rw[cv,ap (by omega)])
          (fun j ba=>ap ba) (fun j ba Be lT=>(U1 j ba Be lT).elim) (fun _ h=>by rw[a'] at h;cases h) (fun _ _=>⟨aE rfl,aN,aJ.gE.ak,fP,ep,bB,rfl,by rw[cv,aE rfl]⟩)) aw n6
end
end
end Go.Cre
namespace Go.Cre
noncomputable section
open Go.RowKit
open Classical
section
variable {P:Program}{B:Nat->Prop}{w0 w:World}{μ jW:b1}{H H0 H' H1:aB}{S jt aS bq:bi}{fr:Frame}{tmps:Array Value}{ds:List Deferred}{cs je:List Frame}{call:eH}{aR:gR}
variable {ops:Array Oper}{bU cg C K G:Nat}{D:Nat->Bool}{A:Nat->Nat}{i:Nat}{o:Oper}{k:List Item}{rest:List Nat}
theorem bg.ID{α:Type}{a v:α}{t:bg α}:∀{n:Nat},t.get n=some v->∃fo,bg.put a t n=some fo:=by
 induction t with
 |leaf=>intro n h;cases h
 |node u l r xK xL=>
  intro n h;cases n with
  |zero=>exact⟨_,rfl⟩
  |succ m=>
   rw[bg.ra] at h;rw[bg.LJ];by_cases hm:m % 2=0
   ·rw[aE hm] at h ⊢;obtain⟨l',e⟩:=xK h;rw[e];exact⟨_,rfl⟩
   ·rw[ap hm] at h ⊢;obtain⟨dw,e⟩:=xL h;rw[e];exact⟨_,rfl⟩
theorem bi.EP{p:Nat->Bool}{dst:Option Tmp}(h:∀t,dst=some t->t<S.n/\∃u,S.T.get t=some u)(v:Value):∃ph,(S.only p).put dst v=some ph:=by
 cases dst with
 |none=>exact⟨_,rfl⟩
 |some d=>
  obtain⟨aa,u,ae⟩:=h d rfl;obtain⟨T,n,h4,b2,bJ,cJ⟩:=S;show ∃ph,Bool.rec (motive:=fun _=>Option bi) none (bi.uA n h4 b2 bJ cJ (bg.put v (T.eF p) d)) (Nat.ble (Nat.succ d) n)=some ph;have au:Nat.ble (Nat.succ d) n=true:=lr aa;rw[au];obtain⟨CS,aN⟩:=bg.ID (a:=v) ae;obtain⟨Jy,bn⟩:=bg.Yo p aN;rw[bn];exact⟨_,rfl⟩
theorem amY{X:bi}{dst:Option Tmp}{v:Value}{dB:dH}(h:ma X dst v H'=some dB):∃bq,X.put dst v=some bq/\dB=.ok bq H':=by
 unfold ma pI at h;cases aw:X.put dst v with
 |none=>rw[aw] at h;cases h
 |some bq=>rw[aw] at h;have h:some (dH.ok bq H')=some dB:=h;injection h with h;exact⟨bq,rfl,h.symm⟩
theorem Yx{X:bi}{dst:Option Tmp}{v:Value}(h:X.put dst v=some bq):ma X dst v H'=some (.ok bq H'):=by
 unfold ma;rw[h];rfl
theorem alf{l:List Oper}{p:Nat->Bool}(av:∀t∈looks l o,p t=true)(he:one P call aR l S H o=some (.ok bq H1)):
 ∃gv,one P call aR l (S.only p) H o=some (.ok gv H1)/\gv.n=bq.n/\gv.ds=bq.ds/\gv.b2=bq.b2/\gv.bJ=bq.bJ/\gv.cJ=bq.cJ/\bq.n=S.n/\bq.b2=S.b2/\bq.cJ=S.cJ/\
  (∀t,gv.T.get t=if o.dst=some t then bq.T.get t else(S.only p).T.get t)/\(∀t,o.dst≠some t->bq.T.get t=S.T.get t):=by
 have D2:∀t∈looks l o,(S.only p).T.get t=S.T.get t:=fun t aD=>by
  show(S.T.eF p).get t=_;rw[bg.NS,av t aD];rfl
 have key:∀(X:bi) (v:Value) (cN:aB),X.n=S.n->X.b2=S.b2->X.cJ=S.cJ->X.T=S.T->ma X o.dst v cN=some (.ok bq H1)->
  ∃gv,ma (X.only p) o.dst v cN=some (.ok gv H1)/\gv.n=bq.n/\gv.ds=bq.ds/\gv.b2=bq.b2/\gv.bJ=bq.bJ/\gv.cJ=bq.cJ/\bq.n=S.n/\bq.b2=S.b2/\bq.cJ=S.cJ/\
  (∀t,gv.T.get t=if o.dst=some t then bq.T.get t else(S.only p).T.get t)/\(∀t,o.dst≠some t->bq.T.get t=S.T.get t):=by
  intro X v cN hj ig yf Ma q;obtain⟨Sy,bd,a6⟩:=amY q;injection a6 with a6 b9;subst a6;subst b9
  obtain⟨gv,fN⟩:=bi.amA p bd;obtain⟨bo,a2,a3,a4,a5,dc⟩:=bi.put_eq bd;obtain⟨bm,bl,b8,gx,u9,u'⟩:=bi.put_eq fN;refine⟨gv,Yx fN,bm.trans bo.symm,bl.trans a2.symm,b8.trans a3.symm,gx.trans a4.symm,u9.trans a5.symm,bo.trans hj,a3.trans ig,a5.trans yf,fun t=>?_,fun t aD=>?_⟩
  ·rw[u'];by_cases aZ:o.dst=some t
   ·rw[aE aZ,aE aZ,dc,aE aZ]
   ·rw[ap aZ,ap aZ];show(X.T.eF p).get t=(S.T.eF p).get t;rw[Ma]
  ·rw[dc,ap aD,Ma]
 unfold one at he ⊢;rw[tF D2];cases aq:fj l S.T o with
 |none=>rw[aq] at he;cases he
 |some b=>
  rw[aq] at he;cases b with
  |false=>exact key S undef H rfl rfl rfl rfl he
  |true=>
   have he:pD S H o.dst (cO P call aR S H o)=some (.ok bq H1):=he;show ∃gv,pD (S.only p) H o.dst (cO P call aR (S.only p) H o)=some (.ok gv H1)/\_;rw[J7 (S:=S) (aS:=S.only p) rfl (Lv D2)];cases hV:cO P call aR S H o with
   |none=>rw[hV] at he;cases he
   |some r=>
    rw[hV] at he;cases r with
    |val v cN=>exact key S v cN rfl rfl rfl rfl he
    |skip cN=>exact key S undef cN rfl rfl rfl rfl he
    |jE c cN=>have he:some (dH.jE c S cN)=some (.ok bq H1):=he;injection he with he;cases he
    |iT d=>
     have he:BZ S H o.dst d=some (.ok bq H1):=he;show ∃gv,BZ (S.only p) H o.dst d=some (.ok gv H1)/\_;obtain⟨T,n,h4,b2,bJ,cJ⟩:=S;cases cJ with
     |some l=>cases he
     |none=>exact key (bi.Ff d ⟨T,n,h4,b2,bJ,none⟩) undef H rfl rfl rfl rfl he
    |Cd=>
     have he:It S H o.dst (rO S)=some (.ok bq H1):=he;show ∃gv,It (S.only p) H o.dst (rO (S.only p))=some (.ok gv H1)/\_;have ay:rO (S.only p)=rO S:=rfl;rw[ay];cases D9:rO S with
     |none=>rw[D9] at he;cases he
     |some q=>
      obtain⟨v,bJ⟩:=q;rw[D9] at he;obtain⟨T,n,h4,b2,IV,cJ⟩:=S;exact key (bi.ye bJ ⟨T,n,h4,b2,IV,cJ⟩) v H rfl rfl rfl rfl he
theorem W8(af:wy ops.toList bU)(aJ:Inv P B w0 call aR ops.toList bU cg jW H0 jt fr je C K G S H μ w tmps ds cs D A)(ar:ops[i]?=some o)(sG:∀j,(Oper.fL o).testBit j=true->D j=true):
 ∀t∈looks ops.toList o,free ops.toList C D t=true:=fun t aD=>AX.2 fun⟨j,er,a,b,c,d⟩=>by
 rcases af.look j i er o t c (by simpa using ar) d aD with q|⟨q,_⟩
 ·have:=sG j q;rw[b] at this;cases this
 ·have aU:K.testBit j=false:=by
   cases aU:K.testBit j with
   |false=>rfl
   |true=>have:=aJ.k j aU;rw[b] at this;cases this
  have:=(aJ.pp j er a aU c).1;rw[q] at this;cases this
def np(D:Nat->Bool)(i:Nat):Nat->Bool:=fun j=>if j=i then true else D j
theorem s5{j:Nat}:np D i j=true↔D j=true\/j=i:=by unfold np;by_cases h:j=i<;>simp[h]
theorem CH{j:Nat}(h:np D i j=false):D j=false/\j≠i:=by
 unfold np at h;by_cases e:j=i
 ·rw[aE e] at h;cases h
 ·rw[ap e] at h;exact⟨h,e⟩
theorem ae5{t:Nat}(aZ:free ops.toList C (np D i) t=true)(ar:ops[i]?=some o):free ops.toList C D t=true\/o.dst=some t:=by
 by_cases h:QK ops.toList C D t
 ·obtain⟨j,er,a,b,c,d⟩:=h;by_cases n7:j=i
  ·subst n7;have:ops.toList[j]?=some o:=by simpa using ar
   rw[this] at c;injection c with c;subst c;exact .inr d
  ·exfalso;refine AX.1 aZ ⟨j,er,a,?_,c,d⟩;unfold np;rw[ap n7];exact b
 ·exact .inl (AX.2 h)
theorem amV(hC:qM P B w0 call)(py:yz P B w0 aR)(af:wy ops.toList bU)(aJ:Inv P B w0 call aR ops.toList bU cg jW H0 jt fr je C K G S H μ w tmps ds cs D A)
 (OA:∀j,C.testBit j=true->K.testBit j=true\/G.testBit j=true)(nE:C.testBit i=true)(jg:D i=false)(ar:ops[i]?=some o)(sG:∀j,(Oper.fL o).testBit j=true->D j=true):
 ∃bI bu gO e5 cT,Steps P (lone (cj fr tmps ds (.inRegion ops (i::rest)::k)) cs w) (lone (cj fr gO e5 (.inRegion ops rest::k)) cT bu)/\
  Inv P B w0 call aR ops.toList bU cg jW H0 jt fr je C K G S H bI bu gO e5 cT (np D i) A:=by
 have rs:ops.toList[i]?=some o:=by simpa using ar
 have OQ:=W8 af aJ ar sG;have aU:K.testBit i=false:=by
  cases aU:K.testBit i with
  |false=>rfl
  |true=>have:=aJ.k i aU;rw[jg] at this;cases this
 have agr:G.testBit i=true:=by
  rcases OA i nE with q|q
  ·rw[aU] at q;cases q
  ·exact q
 obtain⟨vB,b,aq⟩:=aJ.pp i o nE aU rs;have D2:∀t∈looks ops.toList o,(S.only (free ops.toList C D)).T.get t=S.T.get t:=fun t aD=>by
  show(S.T.eF _).get t=_;rw[bg.NS,OQ t aD];rfl
 --RD stays
 have fin:∀(bI:b1) (bu:World) (gO:Array Value) (e5:List Deferred) (cT:List Frame) (ph:bi) (v:Value),ca P B w0 bI H bu->Step jW bI H0 H->kV jt.b2 je cT->
  (S.only (free ops.toList C D)).put o.dst v=some ph->(∀t,o.dst=some t->S.T.get t=some v)->iO bI ph fr gO e5 cT->
  (∀(j:Nat) er,C.testBit j=true->D j=false->j≠i->cg.testBit j=true->ops.toList[j]?=some er->fj ops.toList S.T er=some true->μ (A j)=none->A j<H.ak->bI (A j)=none)->
  Inv P B w0 call aR ops.toList bU cg jW H0 jt fr je C K G S H bI bu gO e5 cT (np D i) A:=by
  intro bI bu gO e5 cT ph v oM di gV nb az OM Pv;obtain⟨bm,bl,b8,gx,u9,u'⟩:=bi.put_eq nb;refine⟨oM,?_,di,gV,aJ.b2,aJ.cJ,fun j ba=>?_,aJ.FZ,fun j er m ba e6 hm=>?_,aJ.Dm,fun j ba=>s5.2 (.inl (aJ.k j ba)),fun j er ba vH e6=>?_,?_⟩
  ·refine OM.conv bm.symm bl.symm b8.symm gx.symm u9.symm fun t u q=>?_;obtain⟨bd,a6⟩:=zI.1 q;rw[u'];by_cases aZ:o.dst=some t
   ·rw[aE aZ];rw[az t aZ] at a6;exact a6
   ·rw[ap aZ];rcases ae5 bd ar with r|r
    ·exact zI.2 ⟨r,a6⟩
    ·exact absurd r aZ
  ·rcases s5.1 ba with q|rfl
   ·exact aJ.sub j q
   ·exact nE
  ·rcases s5.1 ba with q|rfl
   ·exact s5.2 (.inl (aJ.down j er m q e6 hm))
   ·rw[rs] at e6;injection e6 with e6;subst e6
    exact s5.2 (.inl (sG m hm))
  ·obtain⟨g1,C2,g2⟩:=aJ.pp j er ba vH e6;refine⟨g1,C2,g2.move rfl rfl (fun _ _=>rfl) (fun _ _=>rfl) (fun _ h=>⟨h,rfl⟩) rfl fun au a' GM=>?_⟩;obtain⟨d1,d2⟩:=CH GM;refine⟨d1,fun fP _ ⟨aN,bn,cP,eW,cv⟩=>⟨?_,bn,cP,eW,cv⟩⟩;exact Pv j er ba d1 d2 a' e6 (au▸g2.g) aN eW
  ·intro x y iW zO U ai tG A4 Bi Bj sE ru sx rp fl;exact aJ.inj x y iW zO U ai (CH tG).1 (CH A4).1 Bi Bj sE ru sx rp fl
 --by EH,where nothing is made
 have oh:∀v,one P call aR ops.toList (S.only (free ops.toList C D)) H o=ma (S.only (free ops.toList C D)) o.dst v H->(∀t,o.dst=some t->S.T.get t=some v)->
  ∃bI bu gO e5 cT,Steps P (lone (cj fr tmps ds (.inRegion ops (i::rest)::k)) cs w) (lone (cj fr gO e5 (.inRegion ops rest::k)) cT bu)/\
  Inv P B w0 call aR ops.toList bU cg jW H0 jt fr je C K G S H bI bu gO e5 cT (np D i) A:=by
  intro v oX az;obtain⟨ph,nb⟩:=bi.EP (S:=S) (p:=free ops.toList C D) aq.lt v;rw[Yx nb] at oX;obtain⟨bI,bu,gO,e5,cT,g1,g2,g3,g4,g5,g6,g7⟩:=EH (k:=k) (rest:=rest) hC py aJ.h aJ.f ar oX;refine⟨bI,bu,gO,e5,cT,g7,fin bI bu gO e5 cT ph v g1 (aJ.gE.trans g2) (aJ.Dh.trans ?_) nb az g3 fun j er _ _ _ _ _ _ hm c4=>(g2.eF _ c4 hm).1⟩;have:(S.only (free ops.toList C D)).b2=jt.b2:=aJ.b2;rw[<-this];exact g4
 have Hc:fj ops.toList (S.only (free ops.toList C D)).T o=some b:=by rw[tF D2];exact aq.g
 cases b with
 |false=>
  refine oh undef ?_ (aq.no rfl);unfold one;rw[Hc];rfl
 |true=>
  cases a':cg.testBit i with
  |false=>
   obtain⟨v,aN,bn⟩:=aq.val rfl a' agr;refine oh v ?_ bn;unfold one;rw[Hc];show pD _ H o.dst (cO P call aR (S.only (free ops.toList C D)) H o)=_;rw[J7 (S:=S) (aS:=S.only (free ops.toList C D)) rfl (Lv D2),aN];rfl
  |true=>
   obtain⟨fP,ep,aN,bn,cP⟩:=aq.gh rfl a';obtain⟨m1,m2,m3,m4,m5⟩:=cP jg;have w2:nx P (S.only (free ops.toList C D)).T o.op=some (fP,ep):=by rw[MI D2];exact aN
   obtain⟨pC,N,sz,cI,ei,gN,iZ⟩:=aa8 aJ.f.t w2 w;have hw:=UV aJ.f.t Hc;have d':fr.roundOf=none\/∀c,o.op≠.defer c:=.inr fun c q=>by rw[q] at aN;cases aN
   obtain⟨ahj,hM⟩:=aJ.h.fill (L:=⟨w.heap.size,N,sz⟩) m1 m4 m2 m5 rfl ei;have ajm:bF (μ.put (A i) ⟨w.heap.size,N,sz⟩) (ep.at (A i)) (ep.at w.heap.size):=iN.rel iZ (L:=⟨w.heap.size,N,sz⟩) (b1.kT _ _ _);obtain⟨ph,nb⟩:=bi.EP (S:=S) (p:=free ops.toList C D) aq.lt (ep.at (A i));obtain⟨f1,_⟩:=QV (aJ.f.mono hM) ajm nb;refine⟨_,_,_,_,_,.one (Rj ar hw d' cI),fin _ _ _ _ _ ph (ep.at (A i)) ahj ?_ aJ.Dh nb bn f1 ?_⟩
   ·refine⟨aJ.gE.ext.trans hM,aJ.gE.ak,aJ.gE.bZ,fun id hid hm=>?_⟩;obtain⟨a,b⟩:=aJ.gE.eF id hid hm;refine⟨?_,b⟩;rw[b1.uC _ _ (by omega)];exact a
   ·intro j er ba GM n7 Be e6 OW hm c4;rw[b1.uC _ _ ?_]
    ·exact hm
    ·intro q;exact n7 (aJ.inj j i er o ba nE GM jg Be a' e6 rs OW aq.g q)
theorem amU(hC:qM P B w0 call)(py:yz P B w0 aR)(af:wy ops.toList bU)(aJ:Inv P B w0 call aR ops.toList bU cg jW H0 jt fr je C K G S H μ w tmps ds cs D A)
 (nE:C.testBit i=false)(ar:ops[i]?=some o)(sG:∀j,(Oper.fL o).testBit j=true->D j=true)(oX:one P call aR ops.toList S H o=some (.ok bq H1))
 {wk:Nat}(U8:wk=vg ops.toList ops.toList.length (Nat.lor K (Nat.pow 2 i)))(agA:∀j,(Oper.fL o).testBit j=true->wk.testBit j=true)(agz:wk.testBit i=true):
 ∃bI bu gO e5 cT,Steps P (lone (cj fr tmps ds (.inRegion ops (i::rest)::k)) cs w) (lone (cj fr gO e5 (.inRegion ops rest::k)) cT bu)/\
  Inv P B w0 call aR ops.toList bU cg jW H0 jt fr je (Nat.lor C (Nat.pow 2 i)) wk (Nat.land G cg) bq H1 bI bu gO e5 cT (np D i) A:=by
 have rs:ops.toList[i]?=some o:=by simpa using ar
 have OQ:=W8 af aJ ar sG;have DI:D i=false:=by
  cases aZ:D i with
  |false=>rfl
  |true=>have:=aJ.sub i aZ;rw[nE] at this;cases this
 obtain⟨gv,t1,t2,t3,t4,t5,t6,t7,t8,t9,t10,t11⟩:=alf OQ oX;obtain⟨bI,bu,gO,e5,cT,g1,g2,g3,g4,g5,g6,g7⟩:=EH (k:=k) (rest:=rest) hC py aJ.h aJ.f ar t1;have Vz:∀(j:Nat) er m,np D i j=true->ops.toList[j]?=some er->(Oper.fL er).testBit m=true->np D i m=true:=fun j er m ba e6 hm=>by
  rcases s5.1 ba with q|rfl
  ·exact s5.2 (.inl (aJ.down j er m q e6 hm))
  ·rw[rs] at e6;injection e6 with e6;subst e6
   exact s5.2 (.inl (sG m hm))
 have U9:∀j,wk.testBit j=true->np D i j=true:=fun j ba=>by
  rw[U8] at ba;refine acD (D:=np D i) Vz (fun m hm=>?_) j ba;rcases lm.1 hm with q|rfl
  ·exact s5.2 (.inl (aJ.k m q))
  ·exact s5.2 (.inr rfl)
 have Pt:∀{j:Nat},(Nat.lor C (Nat.pow 2 i)).testBit j=true->j≠i->C.testBit j=true:=fun{j} ba cc=>by
  rcases lm.1 ba with q|q
  ·exact q
  ·exact absurd q.symm cc
 --aum aoe abc not auk done arc look at RD is written now
 have re:∀{j:Nat} {er:Oper},C.testBit j=true->wk.testBit j=false->ops.toList[j]?=some er->∀t∈looks ops.toList er,bq.T.get t=S.T.get t:=fun{j er} ba vH e6 t aD=>by
  refine t11 t fun aZ=>?_;rcases af.look i j o er t rs e6 aZ aD with q|⟨_,q|q⟩
  ·have:=aJ.Dm j er i ba e6 q;rw[nE] at this;cases this
  ·subst q;rw[nE] at ba;cases ba
  ·rw[agA j q] at vH;cases vH
 have arR:∀{j:Nat},wk.testBit j=false->j≠i->D j=false->K.testBit j=false:=fun{j} _ _ aZ=>by
  cases aU:K.testBit j with
  |false=>rfl
  |true=>have:=aJ.k j aU;rw[aZ] at this;cases this
 have VW:∀{j:Nat},np D i j=false->wk.testBit j=false:=fun{j} aZ=>by
  cases aU:wk.testBit j with
  |false=>rfl
  |true=>have:=U9 j aU;rw[aZ] at this;cases this
 refine⟨bI,bu,gO,e5,cT,g7,⟨g1,?_,aJ.gE.trans g2,aJ.Dh.trans ?_,t8.trans aJ.b2,t9.trans aJ.cJ,fun j ba=>?_,fun j ba=>?_,Vz,fun j er m ba e6 hm=>?_,U9,fun j er ba vH e6=>?_,?_⟩⟩
 ·refine g3.conv t2.symm t3.symm t4.symm t5.symm t6.symm fun t u q=>?_;obtain⟨bd,a6⟩:=zI.1 q;rw[t10];by_cases aZ:o.dst=some t
  ·rw[aE aZ];exact a6
  ·rw[ap aZ];rw[t11 t aZ] at a6;refine zI.2 ⟨?_,a6⟩;rw[AX] at bd ⊢;intro⟨j,er,a,b,c,d⟩;refine bd ⟨j,er,lm.2 (.inl a),?_,c,d⟩;unfold np;rw[ap (fun e=>by subst e;rw[nE] at a;cases a)];exact b
 ·have:(S.only (free ops.toList C D)).b2=jt.b2:=aJ.b2;rw[<-this];exact g4
 ·rcases s5.1 ba with q|rfl
  ·exact lm.2 (.inl (aJ.sub j q))
  ·exact lm.2 (.inr rfl)
 ·rcases lm.1 ba with q|rfl
  ·exact aJ.FZ j q
  ·exact⟨o,rs⟩
 ·rcases lm.1 ba with q|rfl
  ·exact lm.2 (.inl (aJ.Dm j er m q e6 hm))
  ·rw[rs] at e6;injection e6 with e6;subst e6
   exact lm.2 (.inl (aJ.sub m (sG m hm)))
 ·have n7:j≠i:=fun e=>by subst e;rw[agz] at vH;cases vH
  have VJ:=Pt ba n7;cases aU:K.testBit j with
  |true=>
   exfalso;have k8:∀{n Fq:Nat},Fq.testBit j=true->(vg ops.toList n Fq).testBit j=true:=by
    intro n;induction n with
    |zero=>intro Fq h;exact h
    |succ n aK=>
     intro Fq h;simp only[vg];refine aK ?_;cases au:Fq.testBit n with
     |false=>exact h
     |true=>
      rw[cb];cases nth ops.toList n with
      |none=>exact h
      |some o=>simp only;rw[z6,h];rfl
   rw[U8,k8 (lm.2 (.inl aU))] at vH;cases vH
  |false=>
   obtain⟨bt,C2,bw⟩:=aJ.pp j er VJ aU e6;refine⟨bt,C2,bw.move t7 t9 (re VJ vH e6) (fun t aD=>t11 t fun aZ=>af.dst i j o er t rs e6 (Ne.symm n7) aZ aD) (fun a' lT=>?_) rfl fun au a' GM=>?_⟩
   ·rw[L3,a'] at lT;simp at lT
   ·obtain⟨d1,d2⟩:=CH GM;refine⟨d1,fun fP dW ⟨aN,bn,cP,eW,cv⟩=>?_⟩;obtain⟨fA,z2⟩:=g2.eF _ eW aN;exact⟨fA,by rw[g2.bZ];exact bn,cP,yv eW g2.ak,by rw[z2 (by rw[cv];exact dW)];exact cv⟩
 ·intro x y iW zO U ai tG A4 Bi Bj sE ru sx rp fl;obtain⟨d1,d2⟩:=CH tG;obtain⟨d3,d4⟩:=CH A4;have Wy:=Pt U d2;have Wz:=Pt ai d4;rw[tF (re Wy (VW tG) sE)] at sx;rw[tF (re Wz (VW A4) ru)] at rp;exact aJ.inj x y iW zO Wy Wz d1 d3 Bi Bj sE ru sx rp fl
end
end
end Go.Cre

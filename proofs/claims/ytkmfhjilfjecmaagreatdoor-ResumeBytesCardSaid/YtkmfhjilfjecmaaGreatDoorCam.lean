/- A part of the proof of ResumeBytes. -/
import Derived.Test.YtkmfhjilfjecmaaGreatDoorCal
set_option linter.unusedVariables false
set_option linter.unusedSimpArgs false
namespace Go.Cre
noncomputable section
open Go.RowKit
open Classical
def Q'(ops:List Oper)(C:Nat)(D:Nat->Bool)(t:Nat):Prop:=∃(i:Nat) (o:Oper),C.testBit i=true/\D i=false/\ops[i]?=some o/\o.dst=some t
def free (ops:List Oper)(C:Nat)(D:Nat->Bool)(t:Nat):Bool:=decide (¬Q' ops C D t)
theorem A4{ops:List Oper}{C:Nat}{D:Nat->Bool}{t:Nat}:free ops C D t=true↔¬Q' ops C D t:=by unfold free;exact l6
structure Good (P:Program) (call:eH) (aR:gR) (ops:List Oper) (cj G:Nat) (aaX:Nat) (S:bh) (H:aA) (μ:bY) (D:Nat->Bool) (A:Nat->Nat) (i:Nat) (o:Oper) (b:Bool):Prop where
 g:fD ops S.T o=some b
 lt:∀t,o.dst=some t->t<S.n/\∃u,S.T.get t=some u
 no:b=false->∀t,o.dst=some t->S.T.get t=some undef
 val:b=true->cj.testBit i=false->G.testBit i=true->∃v,cJ P call aR S H o=some (.val v H)/\∀t,o.dst=some t->S.T.get t=some v
 gk:b=true->cj.testBit i=true->∃fT er,nE P S.T o.op=some (fT,er)/\(∀t,o.dst=some t->S.T.get t=some (er.at (A i)))/\
  (D i=false->μ (A i)=none/\H.bW<=A i/\aaX<=A i/\A i<H.ak/\H.mem.get (A i)=some fT)
structure Inv (P:Program) (B:Nat->Prop) (w0:World) (call:eH) (aR:gR) (ops:List Oper) (bK cj:Nat) (j6:bY) (H0:aA) (jH:bh) (fr:Frame) (jo:List Frame)
 (C K G:Nat) (S:bh) (H:aA) (μ:bY) (w:World) (tmps:Array Value) (ds:List Deferred) (cs:List Frame) (D:Nat->Bool) (A:Nat->Nat):Prop where
 h:b9 P B w0 μ H w
 f:iS μ (S.only (free ops C D)) fr tmps ds cs
 gD:Step j6 μ H0 H
 Dv:kZ jH.b5 jo cs
 b5:S.b5=jH.b5
 cK:S.cK=jH.cK
 sub:∀i,D i=true->C.testBit i=true
 Gc:∀i,C.testBit i=true->∃o,ops[i]?=some o
 down:∀(i:Nat) o j,D i=true->ops[i]?=some o->(Oper.fM o).testBit j=true->D j=true
 DD:∀(i:Nat) o j,C.testBit i=true->ops[i]?=some o->(Oper.fM o).testBit j=true->C.testBit j=true
 k:∀i,K.testBit i=true->D i=true
 px:∀(i:Nat) o,C.testBit i=true->K.testBit i=false->ops[i]?=some o->bK.testBit i=false/\∃b,Good P call aR ops cj G H0.ak S H μ D A i o b
 inj:∀(i j:Nat) jx et,C.testBit i=true->C.testBit j=true->D i=false->D j=false->cj.testBit i=true->cj.testBit j=true->ops[i]?=some jx->ops[j]?=some et->
  fD ops S.T jx=some true->fD ops S.T et=some true->A i=A j->i=j
section
variable {P:Program}{B:Nat->Prop}{w0 w:World}{μ j6:bY}{H H0 H':aA}{S jH aS:bh}{fr:Frame}{tmps:Array Value}{ds:List Deferred}{cs jo:List Frame}{call:eH}{aR:gR}
variable {ops:List Oper}{bK cj C K G:Nat}{D:Nat->Bool}{A:Nat->Nat}{i:Nat}{o:Oper}
theorem bh.anc{dst:Option Tmp}{v:Value}(he:S.put dst v=some aS):∀t,dst=some t->t<aS.n/\∃u,aS.T.get t=some u:=fun t aB=>by
 have e:=bh.put_eq he;refine⟨?_,v,by rw[e.2.2.2.2.2,aE aB]⟩;subst aB;obtain⟨T,n,h7,b5,bF,cK⟩:=S;have he:Bool.rec (motive:=fun _=>Option bh) none (bh.uE n h7 b5 bF cK (bg.put v T t)) (Nat.ble (Nat.succ t) n)=some aS:=he;rw[e.1];show t<n;cases ap:Nat.ble (Nat.succ t) n with
 |false=>rw[ap] at he;cases he
 |true=>exact hV ap
theorem iS.conv{bn gx:bh}(h:iS μ bn fr tmps ds cs)(aL:gx.n=bn.n)(bk:gx.ds=bn.ds)(cG:gx.b5=bn.b5)(eL:gx.bF=bn.bF)(cu:gx.cK=bn.cK)
 (aB:∀t v,gx.T.get t=some v->bn.T.get t=some v):iS μ gx fr tmps ds cs:=
 ⟨⟨by rw[aL];exact h.t.1,fun t v q=>h.t.2 t v (aB t v q)⟩,by rw[bk];exact h.d,by rw[cG];exact h.kind,fun q=>h.zV (cu▸q),fun l q=>h.I1 l (cu▸q),fun q=>by rw[eL];exact h.bF (cG▸q)⟩
theorem zL{p:Nat->Bool}{t:Nat}{v:Value}:(S.only p).T.get t=some v↔p t=true/\S.T.get t=some v:=by
 show(S.T.eC p).get t=some v↔_;rw[bg.Oe];cases p t<;>simp
theorem Good.move{oE:Nat}{bD:bY}{CW:Nat->Bool}{p5:Nat->Nat}{b:Bool}(aq:Good P call aR ops cj G H0.ak S H μ D A i o b)(aP:aS.n=S.n)(aw:aS.cK=S.cK)
 (av:∀t∈looks ops o,aS.T.get t=S.T.get t)(aV:∀t,o.dst=some t->aS.T.get t=S.T.get t)
 (l8:cj.testBit i=false->oE.testBit i=true->G.testBit i=true/\H'=H)(lc:p5 i=A i)
 (PV:b=true->cj.testBit i=true->CW i=false->D i=false/\(∀fT,kg (some fT)=false->μ (A i)=none/\H.bW<=A i/\H0.ak<=A i/\A i<H.ak/\H.mem.get (A i)=some fT->bD (A i)=none/\H'.bW<=A i/\H0.ak<=A i/\A i<H'.ak/\H'.mem.get (A i)=some fT)):
 Good P call aR ops cj oE H0.ak aS H' bD CW p5 i o b:=by
 refine⟨by rw[tP av];exact aq.g,fun t aB=>?_,fun ap t aB=>by rw[aV t aB];exact aq.no ap t aB,fun ap a1 OA=>?_,fun ap a1=>?_⟩
 ·obtain⟨a,b⟩:=aq.lt t aB;exact⟨by rw[aP];exact a,by rw[aV t aB];exact b⟩
 ·obtain⟨g1,rfl⟩:=l8 a1 OA;obtain⟨v,aL,bk⟩:=aq.val ap a1 g1;exact⟨v,by rw[Ks aw (LR av)];exact aL,fun t aB=>by rw[aV t aB];exact bk t aB⟩
 ·obtain⟨fT,er,aL,bk,cG⟩:=aq.gk ap a1;refine⟨fT,er,by rw[M' av];exact aL,fun t aB=>by rw[aV t aB,lc];exact bk t aB,fun jt=>?_⟩;obtain⟨bb,a7⟩:=PV ap a1 jt;rw[lc];exact a7 fT (Tc aL) (cG bb)
theorem quiet(hs:wQ ops bK)(aJ:Inv P B w0 call aR ops bK cj j6 H0 jH fr jo C K G S H μ w tmps ds cs D A)(ao:C.testBit i=false)(ar:ops[i]?=some o)(aC:bK.testBit i=false)
 {j:Nat}{et:Oper}(a':C.testBit j=true\/j=i)(e9:ops[j]?=some et){t:Nat}(aB:t∈looks ops et):o.dst≠some t:=fun aV=>by
 rcases hs.look i j o et t ar e9 aV aB with q|⟨q,_⟩
 ·rcases a' with a'|rfl
  ·have:=aJ.DD j et i a' e9 q;rw[ao] at this;cases this
  ·have:=hs.down j et j e9 q;omega
 ·rw[aC] at q;cases q
theorem afs(h:fits ops C i=true)(ar:ops[i]?=some o):C.testBit i=false/\∀j,(Oper.fM o).testBit j=true->C.testBit j=true:=by
 unfold fits at h;rw[kE,ar] at h;simp only[fS,qU] at h;exact⟨h.1,fun j a'=>RL h.2 a'⟩
theorem afA(jt:D i=false)(ar:ops[i]?=some o){t:Nat}(h:free ops (Nat.lor C (Nat.pow 2 i)) D t=true):free ops C D t=true/\o.dst≠some t:=by
 rw[A4] at h;refine⟨A4.2 fun⟨j,et,a,b,c,d⟩=>h ⟨j,et,lx.2 (.inl a),b,c,d⟩,fun aV=>h ⟨i,o,lx.2 (.inr rfl),jt,ar,aV⟩⟩
theorem Qv(hs:wQ ops bK)(aJ:Inv P B w0 call aR ops bK cj j6 H0 jH fr jo C K G S H μ w tmps ds cs D A)(ar:ops[i]?=some o)(aD:fits ops C i=true)(aC:bK.testBit i=false)
 {v:Value}{b:Bool}{oE:Nat}{p5:Nat->Nat}(au:S.put o.dst v=some aS)(aq:fD ops S.T o=some b)(fB:b=false->v=undef)
 (oV:b9 P B w0 μ H' w)(dw:Step j6 μ H0 H')(e4:H.ak<=H'.ak)(rC:H'.bW=H.bW)(oh:∀x,x<H.ak->H'.mem.get x=H.mem.get x)
 (lc:∀j,j≠i->p5 j=A j)(l8:∀j,j≠i->cj.testBit j=false->oE.testBit j=true->G.testBit j=true/\H'=H)
 (ur:b=true->cj.testBit i=false->oE.testBit i=true->cJ P call aR S H' o=some (.val v H'))
 (OU:b=true->cj.testBit i=true->p5 i=H.ak/\H'.ak=H.ak+1/\H0.ak<=H.ak/\∃fT er,nE P S.T o.op=some (fT,er)/\v=er.at H.ak/\H'.mem.get H.ak=some fT):
 Inv P B w0 call aR ops bK cj j6 H0 jH fr jo (Nat.lor C (Nat.pow 2 i)) K oE aS H' μ w tmps ds cs D p5:=by
 obtain⟨ao,hm⟩:=afs aD ar;have DX:D i=false:=by
  cases aV:D i with
  |false=>rfl
  |true=>have:=aJ.sub i aV;rw[ao] at this;cases this
 obtain⟨dH,hP,ij,ki,lr,nS⟩:=bh.put_eq au;have ru:∀{j:Nat} {et:Oper},(C.testBit j=true\/j=i)->ops[j]?=some et->∀t∈looks ops et,aS.T.get t=S.T.get t:=fun{j et} a' e9 t aB=>by
  rw[nS,an (quiet hs aJ ao ar aC a' e9 aB)]
 refine⟨oV,?_,dw,aJ.Dv,ij.trans aJ.b5,lr.trans aJ.cK,fun j a'=>lx.2 (.inl (aJ.sub j a')),fun j a'=>?_,aJ.down,fun j et k a' e9 aO=>?_,aJ.k,fun j et a' aO e9=>?_,?_⟩
 ·refine aJ.f.conv dH hP ij ki lr fun t u q=>?_;obtain⟨bb,a7⟩:=zL.1 q;obtain⟨cO,ed⟩:=afA DX ar bb;rw[nS,an ed] at a7;exact zL.2 ⟨cO,a7⟩
 ·rcases lx.1 a' with q|rfl
  ·exact aJ.Gc j q
  ·exact⟨o,ar⟩
 ·rcases lx.1 a' with q|rfl
  ·exact lx.2 (.inl (aJ.DD j et k q e9 aO))
  ·rw[ar] at e9;injection e9 with e9;subst e9
   exact lx.2 (.inl (hm k aO))
 ·by_cases oe:j=i
  ·subst oe;rw[ar] at e9;injection e9 with e9;subst e9
   refine⟨aC,b,?_⟩;refine⟨by rw[tP (ru (.inr rfl) ar)];exact aq,bh.anc au,fun ap t aB=>by rw[nS,aE aB,fB ap],fun ap a1 OA=>?_,fun ap a1=>?_⟩
   ·exact⟨v,by rw[Ks lr (LR (ru (.inr rfl) ar))];exact ur ap a1 OA,fun t aB=>by rw[nS,aE aB]⟩
   ·obtain⟨bm,a2,a3,fT,er,a4,rfl,da⟩:=OU ap a1;refine⟨fT,er,by rw[M' (ru (.inr rfl) ar)];exact a4,fun t aB=>by rw[nS,aE aB,bm],fun _=>?_⟩;rw[bm];exact⟨aJ.h.X3,by rw[rC];exact aJ.h.kO,a3,by omega,da⟩
  ·have a':C.testBit j=true:=by
    rcases lx.1 a' with q|q
    ·exact q
    ·exact absurd q.symm oe
   obtain⟨g1,Df,g2⟩:=aJ.px j et a' aO e9;refine⟨g1,Df,g2.move dH lr (ru (.inl a') e9) (fun t aB=>?_) (l8 j oe) (lc j oe) fun ap a1 jt=>⟨jt,fun fT _ ⟨aL,bk,cG,eL,cu⟩=>⟨aL,by rw[rC];exact bk,cG,by omega,by rw[oh _ eL];exact cu⟩⟩⟩;rw[nS,an (fun q=>hs.dst i j o et t ar e9 (Ne.symm oe) q aB)]
 ·have cV:∀(j:Nat) et,C.testBit j=true->D j=false->cj.testBit j=true->ops[j]?=some et->fD ops S.T et=some true->A j<H.ak:=fun j et a' jt a1 e9 Ph=>by
   have aO:K.testBit j=false:=by
    cases aO:K.testBit j with
    |false=>rfl
    |true=>have:=aJ.k j aO;rw[jt] at this;cases this
   obtain⟨_,Df,g2⟩:=aJ.px j et a' aO e9;have e:=g2.g;rw[Ph] at e;injection e with e;subst e
   obtain⟨fT,er,_,_,q⟩:=g2.gk rfl a1;exact(q jt).2.2.2.1
  intro x y i' zR U ai tQ Ba Bp Bq sR rJ sM rF eZ;by_cases iC:x=i
  ·by_cases kB:y=i
   ·rw[iC,kB]
   ·exfalso;subst iC;rw[ar] at sR;injection sR with sR;subst sR
    rw[tP (ru (.inr rfl) ar),aq] at sM;injection sM with sM;subst sM
    have ai:C.testBit y=true:=by
     rcases lx.1 ai with q|q
     ·exact q
     ·exact absurd q.symm kB
    rw[tP (ru (.inl ai) rJ)] at rF;have:=cV y zR ai Ba Bq rJ rF;rw[(OU rfl Bp).1,lc y kB] at eZ;omega
  ·have e5:C.testBit x=true:=by
    rcases lx.1 U with q|q
    ·exact q
    ·exact absurd q.symm iC
   rw[tP (ru (.inl e5) sR)] at sM;by_cases kB:y=i
   ·exfalso;subst kB;rw[ar] at rJ;injection rJ with rJ;subst rJ
    rw[tP (ru (.inr rfl) ar),aq] at rF;injection rF with rF;subst rF
    have:=cV x i' e5 tQ Bp sR sM;rw[(OU rfl Bq).1,lc x iC] at eZ;omega
   ·have ai:C.testBit y=true:=by
     rcases lx.1 ai with q|q
     ·exact q
     ·exact absurd q.symm kB
    rw[tP (ru (.inl ai) rJ)] at rF;rw[lc x iC,lc y kB] at eZ;exact aJ.inj x y i' zR e5 ai tQ Ba Bp Bq sR rJ sM rF eZ
theorem Step.new(dw:Step j6 μ H0 H){b:fg}{a:Nat}(aP:H.new b=some (a,H')):Step j6 μ H0 H':=by
 obtain⟨rfl,aL,bk,cG,eL,cu⟩:=aA.pM aP;refine⟨dw.ext,by have:=dw.ak;omega,by rw[eL];exact dw.bW,fun id hid hm=>?_⟩;obtain⟨a,b⟩:=dw.eC id hid hm;exact⟨a,fun ar=>by rw[cu,an (by have:=dw.ak;omega)];exact b ar⟩
theorem T8(hs:wQ ops bK)(Bm:∀(i:Nat) o,ops[i]?=some o->cj.testBit i=false->zz o.op=false){dA:dJ}:∀(bc:List jF) (C G:Nat) (S:bh) (H:aA) (A:Nat->Nat),
 Inv P B w0 call aR ops bK cj j6 H0 jH fr jo C K G S H μ w tmps ds cs D A->ox ops bK cj C K G bc=true->dL P call aR ops bc S H=some dA->
 ∃r0 lZ oE aS H' p5,Inv P B w0 call aR ops bK cj j6 H0 jH fr jo lZ K oE aS H' μ w tmps ds cs D p5/\ox ops bK cj lZ K oE r0=true/\dL P call aR ops r0 aS H'=some dA/\
  (r0=[]\/∃i rest,r0=.bR i::rest):=by
 intro bc;induction bc with
 |nil=>intro C G S H A aJ au he;exact⟨[],C,G,S,H,A,aJ,au,he,.inl rfl⟩
 |cons s bc aI=>
  intro C G S H A aJ au he;have he:Ur P call aR ops (dL P call aR ops bc) S H s=some dA:=he;cases s with
  |bR i=>exact⟨.bR i::bc,C,G,S,H,A,aJ,au,he,.inr ⟨i,bc,rfl⟩⟩
  |cA l=>
   simp only[ox,fS] at au;have ay:=abt au.1;have he:(bif l.all (AR P call aR ops S H) then dL P call aR ops bc S H else none)=some dA:=he;cases av:l.all (AR P call aR ops S H) with
   |false=>rw[av] at he;cases he
   |true=>
    rw[av,b7] at he;rw[tk] at av;refine aI C (Nat.lor G (BZ l)) S H A ?_ au.2 he;refine⟨aJ.h,aJ.f,aJ.gD,aJ.Dv,aJ.b5,aJ.cK,aJ.sub,aJ.Gc,aJ.down,aJ.DD,aJ.k,fun j et a' aO e9=>?_,aJ.inj⟩;obtain⟨g1,b,g2⟩:=aJ.px j et a' aO e9;refine⟨g1,b,g2.g,g2.lt,g2.no,fun ap a1 l8=>?_,g2.gk⟩;rw[z',yw,ak3] at l8;rcases l8 with l8|l8
    ·exact g2.val ap a1 l8
    ·have aC:=av j l8;unfold AR at aC;rw[kE,e9] at aC;simp only at aC;rw[g2.g,ap] at aC;have jv:Nz H.ak S.T et.dst (cJ P call aR S H et)=true:=aC;cases h0:cJ P call aR S H et with
     |none=>rw[h0] at jv;cases jv
     |some r=>
      rw[h0] at jv;cases r with
      |val v cv=>
       have jv:(Nat.beq cv.ak H.ak&&(match et.dst with|none=>true|some d=>(match S.T.get d with|some u=>j3 8 v u|none=>false)))=true:=jv
       simp only[fS] at jv;have pz:cv=H:=UR (hs.bR j et e9 g1) (Bm j et e9 a1) h0 (eO jv.1);refine⟨v,by rw[pz],fun t aB=>?_⟩;have oX:(match et.dst with|none=>true|some d=>(match S.T.get d with|some u=>j3 8 v u|none=>false))=true:=jv.2
       rw[aB] at oX;simp only at oX;cases dn:S.T.get t with
       |none=>rw[dn] at oX;cases oX
       |some u=>rw[dn] at oX;rw[apG oX]
      |skip _=>cases jv
      |iW _=>cases jv
      |iO _ _=>cases jv
      |Cp=>cases jv
  |val i=>
   simp only[ox,fS,qU] at au;obtain⟨⟨⟨aD,aC⟩,a1⟩,au⟩:=au;have he:Option.rec (motive:=fun _=>Option dJ) none (mM P call aR ops S H (dL P call aR ops bc)) (nth ops i)=some dA:=he;cases ar:nth ops i with
   |none=>rw[ar] at he;cases he
   |some o=>
    rw[ar] at he;rw[kE] at ar;have he:Option.rec (motive:=fun _=>Option dJ) none (aae P call aR S H o (dL P call aR ops bc)) (fD ops S.T o)=some dA:=he;cases aq:fD ops S.T o with
    |none=>rw[aq] at he;cases he
    |some b=>
     rw[aq] at he
     have fin:∀v,(b=false->v=undef)->(b=true->cJ P call aR S H o=some (.val v H))->pX (dL P call aR ops bc) H (S.put o.dst v)=some dA->
      ∃r0 lZ oE aS H' p5,Inv P B w0 call aR ops bK cj j6 H0 jH fr jo lZ K oE aS H' μ w tmps ds cs D p5/\ox ops bK cj lZ K oE r0=true/\dL P call aR ops r0 aS H'=some dA/\(r0=[]\/∃i rest,r0=.bR i::rest):=by
      intro v aa ae q;cases nh:S.put o.dst v with
      |none=>rw[nh] at q;cases q
      |some aS=>
       rw[nh] at q;refine aI _ _ aS H A (Qv hs aJ ar aD aC nh aq aa aJ.h aJ.gD (cW _) rfl (fun _ _=>rfl) (fun _ _=>rfl) (fun j a' _ l8=>⟨?_,rfl⟩) (fun ap _ _=>ae ap) (fun _ h=>by rw[a1] at h;cases h)) au q;rcases lx.1 l8 with q|q
       ·exact q
       ·exact absurd q.symm a'
     cases b with
     |false=>exact fin undef (fun _=>rfl) (fun h=>by cases h) he
     |true=>
      have he:CH S H o.dst (dL P call aR ops bc) (cJ P call aR S H o)=some dA:=he;cases h0:cJ P call aR S H o with
      |none=>rw[h0] at he;cases he
      |some r=>
       rw[h0] at he;cases r with
       |val v cv=>
        have he:(bif Nat.beq cv.ak H.ak then pX (dL P call aR ops bc) H (S.put o.dst v) else none)=some dA:=he;cases e4:Nat.beq cv.ak H.ak with
        |false=>rw[e4] at he;cases he
        |true=>
        rw[e4,b7] at he;have pz:cv=H:=UR (hs.bR i o ar aC) (Bm i o ar a1) h0 (eO e4);subst pz;exact fin v (fun h=>by cases h) (fun _=>h0) he
       |skip _=>cases he
       |iW _=>cases he
       |iO _ _=>cases he
       |Cp=>cases he
  |gk i=>
   simp only[ox,fS,qU] at au;obtain⟨⟨⟨aD,aC⟩,a1⟩,au⟩:=au;have he:Option.rec (motive:=fun _=>Option dJ) none (FZ P ops S H (dL P call aR ops bc)) (nth ops i)=some dA:=he;cases ar:nth ops i with
   |none=>rw[ar] at he;cases he
   |some o=>
    rw[ar] at he;rw[kE] at ar;have he:Option.rec (motive:=fun _=>Option dJ) none (Ta P S H o (dL P call aR ops bc)) (fD ops S.T o)=some dA:=he;have Vq:∀j,j≠i->cj.testBit j=false->(Nat.lor (Nat.land G cj) (Nat.pow 2 i)).testBit j=true->False:=fun j a' Bl l8=>by
     rcases lx.1 l8 with q|q
     ·rw[Mp,Bl] at q;simp at q
     ·exact a' q.symm
    cases aq:fD ops S.T o with
    |none=>rw[aq] at he;cases he
    |some b=>
     rw[aq] at he;cases b with
     |false=>
      have he:pX (dL P call aR ops bc) H (S.put o.dst undef)=some dA:=he;cases nh:S.put o.dst undef with
      |none=>rw[nh] at he;cases he
      |some aS=>
       rw[nh] at he;exact aI _ _ aS H A (Qv hs aJ ar aD aC nh aq (fun _=>rfl) aJ.h aJ.gD (cW _) rfl (fun _ _=>rfl) (fun _ _=>rfl) (fun j a' Bl l8=>(Vq j a' Bl l8).elim) (fun h=>by cases h) (fun h=>by cases h)) au he
     |true=>
      have he:M8 S H o.dst (dL P call aR ops bc) (nE P S.T o.op)=some dA:=he;cases bx:nE P S.T o.op with
      |none=>rw[bx] at he;cases he
      |some q=>
       obtain⟨fT,er⟩:=q;rw[bx] at he;have he:M9 S o.dst (dL P call aR ops bc) er (H.new fT)=some dA:=he;cases aP:H.new fT with
       |none=>rw[aP] at he;cases he
       |some q=>
        obtain⟨a,H1⟩:=q;rw[aP] at he;obtain⟨aev,aL,bk,cG,eL,cu⟩:=aA.pM aP;subst aev;have oc:pX (dL P call aR ops bc) H1 (S.put o.dst (er.at H.ak))=some dA:=he;cases nh:S.put o.dst (er.at H.ak) with
        |none=>rw[nh] at oc;cases oc
        |some aS=>
         rw[nh] at oc
         refine aI _ _ aS H1 (fun j=>if j=i then H.ak else A j) (Qv hs aJ ar aD aC nh aq (fun h=>by cases h) (aJ.h.amN aP (Tc bx)) (aJ.gD.new aP) (by omega) eL (fun x U=>by rw[cu,an (by omega)])
          (fun j a'=>an a') (fun j a' Bl l8=>(Vq j a' Bl l8).elim) (fun _ h=>by rw[a1] at h;cases h) (fun _ _=>⟨aE rfl,aL,aJ.gD.ak,fT,er,bx,rfl,by rw[cu,aE rfl]⟩)) au oc
end
end
end Go.Cre
namespace Go.Cre
noncomputable section
open Go.RowKit
open Classical
section
variable {P:Program}{B:Nat->Prop}{w0 w:World}{μ j6:bY}{H H0 H' H1:aA}{S jH aS bn:bh}{fr:Frame}{tmps:Array Value}{ds:List Deferred}{cs jo:List Frame}{call:eH}{aR:gR}
variable {ops:Array Oper}{bK cj C K G:Nat}{D:Nat->Bool}{A:Nat->Nat}{i:Nat}{o:Oper}{k:List Item}{rest:List Nat}
theorem bg.IX{α:Type}{a v:α}{t:bg α}:∀{n:Nat},t.get n=some v->∃ek,bg.put a t n=some ek:=by
 induction t with
 |leaf=>intro n h;cases h
 |node u l r xY xZ=>
  intro n h;cases n with
  |zero=>exact⟨_,rfl⟩
  |succ m=>
   rw[bg.rq] at h;rw[bg.L4];by_cases hm:m % 2=0
   ·rw[aE hm] at h ⊢;obtain⟨l',e⟩:=xY h;rw[e];exact⟨_,rfl⟩
   ·rw[an hm] at h ⊢;obtain⟨dx,e⟩:=xZ h;rw[e];exact⟨_,rfl⟩
theorem bh.E4{p:Nat->Bool}{dst:Option Tmp}(h:∀t,dst=some t->t<S.n/\∃u,S.T.get t=some u)(v:Value):∃pr,(S.only p).put dst v=some pr:=by
 cases dst with
 |none=>exact⟨_,rfl⟩
 |some d=>
  obtain⟨aa,u,ae⟩:=h d rfl;obtain⟨T,n,h7,b5,bF,cK⟩:=S;show ∃pr,Bool.rec (motive:=fun _=>Option bh) none (bh.uE n h7 b5 bF cK (bg.put v (T.eC p) d)) (Nat.ble (Nat.succ d) n)=some pr;have ap:Nat.ble (Nat.succ d) n=true:=j8 aa;rw[ap];obtain⟨C6,aL⟩:=bg.IX (a:=v) ae;obtain⟨JV,bk⟩:=bg.YQ p aL;rw[bk];exact⟨_,rfl⟩
theorem anD{X:bh}{dst:Option Tmp}{v:Value}{dA:dJ}(h:mo X dst v H'=some dA):∃bn,X.put dst v=some bn/\dA=.ok bn H':=by
 unfold mo pg at h;cases au:X.put dst v with
 |none=>rw[au] at h;cases h
 |some bn=>rw[au] at h;have h:some (dJ.ok bn H')=some dA:=h;injection h with h;exact⟨bn,rfl,h.symm⟩
theorem YZ{X:bh}{dst:Option Tmp}{v:Value}(h:X.put dst v=some bn):mo X dst v H'=some (.ok bn H'):=by
 unfold mo;rw[h];rfl
theorem alT{l:List Oper}{p:Nat->Bool}(av:∀t∈looks l o,p t=true)(he:one P call aR l S H o=some (.ok bn H1)):
 ∃gx,one P call aR l (S.only p) H o=some (.ok gx H1)/\gx.n=bn.n/\gx.ds=bn.ds/\gx.b5=bn.b5/\gx.bF=bn.bF/\gx.cK=bn.cK/\bn.n=S.n/\bn.b5=S.b5/\bn.cK=S.cK/\
  (∀t,gx.T.get t=if o.dst=some t then bn.T.get t else(S.only p).T.get t)/\(∀t,o.dst≠some t->bn.T.get t=S.T.get t):=by
 have Eh:∀t∈looks l o,(S.only p).T.get t=S.T.get t:=fun t aB=>by
  show(S.T.eC p).get t=_;rw[bg.Oe,av t aB];rfl
 have key:∀(X:bh) (v:Value) (cv:aA),X.n=S.n->X.b5=S.b5->X.cK=S.cK->X.T=S.T->mo X o.dst v cv=some (.ok bn H1)->
  ∃gx,mo (X.only p) o.dst v cv=some (.ok gx H1)/\gx.n=bn.n/\gx.ds=bn.ds/\gx.b5=bn.b5/\gx.bF=bn.bF/\gx.cK=bn.cK/\bn.n=S.n/\bn.b5=S.b5/\bn.cK=S.cK/\
  (∀t,gx.T.get t=if o.dst=some t then bn.T.get t else(S.only p).T.get t)/\(∀t,o.dst≠some t->bn.T.get t=S.T.get t):=by
  intro X v cv gF iP uR Fs q;obtain⟨SX,bb,a7⟩:=anD q;injection a7 with a7 b8;subst a7;subst b8
  obtain⟨gx,fl⟩:=bh.ane p bb;obtain⟨bm,a2,a3,a4,a5,da⟩:=bh.put_eq bb;obtain⟨b1,b2,b3,b4,ve,vf⟩:=bh.put_eq fl;refine⟨gx,YZ fl,b1.trans bm.symm,b2.trans a2.symm,b3.trans a3.symm,b4.trans a4.symm,ve.trans a5.symm,bm.trans gF,a3.trans iP,a5.trans uR,fun t=>?_,fun t aB=>?_⟩
  ·rw[vf];by_cases aV:o.dst=some t
   ·rw[aE aV,aE aV,da,aE aV]
   ·rw[an aV,an aV];show(X.T.eC p).get t=(S.T.eC p).get t;rw[Fs]
  ·rw[da,an aB,Fs]
 unfold one at he ⊢;rw[tP Eh];cases aq:fD l S.T o with
 |none=>rw[aq] at he;cases he
 |some b=>
  rw[aq] at he;cases b with
  |false=>exact key S undef H rfl rfl rfl rfl he
  |true=>
   have he:pP S H o.dst (cJ P call aR S H o)=some (.ok bn H1):=he;show ∃gx,pP (S.only p) H o.dst (cJ P call aR (S.only p) H o)=some (.ok gx H1)/\_;rw[Ks (S:=S) (aS:=S.only p) rfl (LR Eh)];cases h0:cJ P call aR S H o with
   |none=>rw[h0] at he;cases he
   |some r=>
    rw[h0] at he;cases r with
    |val v cv=>exact key S v cv rfl rfl rfl rfl he
    |skip cv=>exact key S undef cv rfl rfl rfl rfl he
    |iO c cv=>have he:some (dJ.iO c S cv)=some (.ok bn H1):=he;injection he with he;cases he
    |iW d=>
     have he:Ca S H o.dst d=some (.ok bn H1):=he;show ∃gx,Ca (S.only p) H o.dst d=some (.ok gx H1)/\_;obtain⟨T,n,h7,b5,bF,cK⟩:=S;cases cK with
     |some l=>cases he
     |none=>exact key (bh.Fp d ⟨T,n,h7,b5,bF,none⟩) undef H rfl rfl rfl rfl he
    |Cp=>
     have he:IK S H o.dst (r1 S)=some (.ok bn H1):=he;show ∃gx,IK (S.only p) H o.dst (r1 (S.only p))=some (.ok gx H1)/\_;have aw:r1 (S.only p)=r1 S:=rfl;rw[aw];cases Eo:r1 S with
     |none=>rw[Eo] at he;cases he
     |some q=>
      obtain⟨v,bF⟩:=q;rw[Eo] at he;obtain⟨T,n,h7,b5,Jg,cK⟩:=S;exact key (bh.yt bF ⟨T,n,h7,b5,Jg,cK⟩) v H rfl rfl rfl rfl he
theorem XA(hs:wQ ops.toList bK)(aJ:Inv P B w0 call aR ops.toList bK cj j6 H0 jH fr jo C K G S H μ w tmps ds cs D A)(ar:ops[i]?=some o)(sT:∀j,(Oper.fM o).testBit j=true->D j=true):
 ∀t∈looks ops.toList o,free ops.toList C D t=true:=fun t aB=>A4.2 fun⟨j,et,a,b,c,d⟩=>by
 rcases hs.look j i et o t c (by simpa using ar) d aB with q|⟨q,_⟩
 ·have:=sT j q;rw[b] at this;cases this
 ·have aO:K.testBit j=false:=by
   cases aO:K.testBit j with
   |false=>rfl
   |true=>have:=aJ.k j aO;rw[b] at this;cases this
  have:=(aJ.px j et a aO c).1;rw[q] at this;cases this
def nw(D:Nat->Bool)(i:Nat):Nat->Bool:=fun j=>if j=i then true else D j
theorem ti{j:Nat}:nw D i j=true↔D j=true\/j=i:=by unfold nw;by_cases h:j=i<;>simp[h]
theorem CY{j:Nat}(h:nw D i j=false):D j=false/\j≠i:=by
 unfold nw at h;by_cases e:j=i
 ·rw[aE e] at h;cases h
 ·rw[an e] at h;exact⟨h,e⟩
theorem afB{t:Nat}(aV:free ops.toList C (nw D i) t=true)(ar:ops[i]?=some o):free ops.toList C D t=true\/o.dst=some t:=by
 by_cases h:Q' ops.toList C D t
 ·obtain⟨j,et,a,b,c,d⟩:=h;by_cases oe:j=i
  ·subst oe;have:ops.toList[j]?=some o:=by simpa using ar
   rw[this] at c;injection c with c;subst c;exact .inr d
  ·exfalso;refine A4.1 aV ⟨j,et,a,?_,c,d⟩;unfold nw;rw[an oe];exact b
 ·exact .inl (A4.2 h)
theorem anA(hD:qV P B w0 call)(pI:yI P B w0 aR)(hs:wQ ops.toList bK)(aJ:Inv P B w0 call aR ops.toList bK cj j6 H0 jH fr jo C K G S H μ w tmps ds cs D A)
 (OW:∀j,C.testBit j=true->K.testBit j=true\/G.testBit j=true)(lJ:C.testBit i=true)(jt:D i=false)(ar:ops[i]?=some o)(sT:∀j,(Oper.fM o).testBit j=true->D j=true):
 ∃bD br gO e8 cS,Steps P (lone (ck fr tmps ds (.inRegion ops (i::rest)::k)) cs w) (lone (ck fr gO e8 (.inRegion ops rest::k)) cS br)/\
  Inv P B w0 call aR ops.toList bK cj j6 H0 jH fr jo C K G S H bD br gO e8 cS (nw D i) A:=by
 have rI:ops.toList[i]?=some o:=by simpa using ar
 have Pa:=XA hs aJ ar sT;have aO:K.testBit i=false:=by
  cases aO:K.testBit i with
  |false=>rfl
  |true=>have:=aJ.k i aO;rw[jt] at this;cases this
 have ag1:G.testBit i=true:=by
  rcases OW i lJ with q|q
  ·rw[aO] at q;cases q
  ·exact q
 obtain⟨vK,b,aq⟩:=aJ.px i o lJ aO rI;have Eh:∀t∈looks ops.toList o,(S.only (free ops.toList C D)).T.get t=S.T.get t:=fun t aB=>by
  show(S.T.eC _).get t=_;rw[bg.Oe,Pa t aB];rfl
 --R0 stays
 have fin:∀(bD:bY) (br:World) (gO:Array Value) (e8:List Deferred) (cS:List Frame) (pr:bh) (v:Value),b9 P B w0 bD H br->Step j6 bD H0 H->kZ jH.b5 jo cS->
  (S.only (free ops.toList C D)).put o.dst v=some pr->(∀t,o.dst=some t->S.T.get t=some v)->iS bD pr fr gO e8 cS->
  (∀(j:Nat) et,C.testBit j=true->D j=false->j≠i->cj.testBit j=true->ops.toList[j]?=some et->fD ops.toList S.T et=some true->μ (A j)=none->A j<H.ak->bD (A j)=none)->
  Inv P B w0 call aR ops.toList bK cj j6 H0 jH fr jo C K G S H bD br gO e8 cS (nw D i) A:=by
  intro bD br gO e8 cS pr v oV dw gU nh ay O7 PV;obtain⟨b1,b2,b3,b4,ve,vf⟩:=bh.put_eq nh;refine⟨oV,?_,dw,gU,aJ.b5,aJ.cK,fun j a'=>?_,aJ.Gc,fun j et m a' e9 hm=>?_,aJ.DD,fun j a'=>ti.2 (.inl (aJ.k j a')),fun j et a' vR e9=>?_,?_⟩
  ·refine O7.conv b1.symm b2.symm b3.symm b4.symm ve.symm fun t u q=>?_;obtain⟨bb,a7⟩:=zL.1 q;rw[vf];by_cases aV:o.dst=some t
   ·rw[aE aV];rw[ay t aV] at a7;exact a7
   ·rw[an aV];rcases afB bb ar with r|r
    ·exact zL.2 ⟨r,a7⟩
    ·exact absurd r aV
  ·rcases ti.1 a' with q|rfl
   ·exact aJ.sub j q
   ·exact lJ
  ·rcases ti.1 a' with q|rfl
   ·exact ti.2 (.inl (aJ.down j et m q e9 hm))
   ·rw[rI] at e9;injection e9 with e9;subst e9
    exact ti.2 (.inl (sT m hm))
  ·obtain⟨g1,Df,g2⟩:=aJ.px j et a' vR e9;refine⟨g1,Df,g2.move rfl rfl (fun _ _=>rfl) (fun _ _=>rfl) (fun _ h=>⟨h,rfl⟩) rfl fun ap a1 G5=>?_⟩;obtain⟨d1,d2⟩:=CY G5;refine⟨d1,fun fT _ ⟨aL,bk,cG,eL,cu⟩=>⟨?_,bk,cG,eL,cu⟩⟩;exact PV j et a' d1 d2 a1 e9 (ap▸g2.g) aL eL
  ·intro x y i' zR U ai tQ Ba Bp Bq sR rJ sM rF eZ;exact aJ.inj x y i' zR U ai (CY tQ).1 (CY Ba).1 Bp Bq sR rJ sM rF eZ
 --by EV,where nothing is made
 have ow:∀v,one P call aR ops.toList (S.only (free ops.toList C D)) H o=mo (S.only (free ops.toList C D)) o.dst v H->(∀t,o.dst=some t->S.T.get t=some v)->
  ∃bD br gO e8 cS,Steps P (lone (ck fr tmps ds (.inRegion ops (i::rest)::k)) cs w) (lone (ck fr gO e8 (.inRegion ops rest::k)) cS br)/\
  Inv P B w0 call aR ops.toList bK cj j6 H0 jH fr jo C K G S H bD br gO e8 cS (nw D i) A:=by
  intro v o5 ay;obtain⟨pr,nh⟩:=bh.E4 (S:=S) (p:=free ops.toList C D) aq.lt v;rw[YZ nh] at o5;obtain⟨bD,br,gO,e8,cS,g1,g2,g3,g4,g5,g6,g7⟩:=EV (k:=k) (rest:=rest) hD pI aJ.h aJ.f ar o5;refine⟨bD,br,gO,e8,cS,g7,fin bD br gO e8 cS pr v g1 (aJ.gD.trans g2) (aJ.Dv.trans ?_) nh ay g3 fun j et _ _ _ _ _ _ hm cV=>(g2.eC _ cV hm).1⟩;have:(S.only (free ops.toList C D)).b5=jH.b5:=aJ.b5;rw[<-this];exact g4
 have Hu:fD ops.toList (S.only (free ops.toList C D)).T o=some b:=by rw[tP Eh];exact aq.g
 cases b with
 |false=>
  refine ow undef ?_ (aq.no rfl);unfold one;rw[Hu];rfl
 |true=>
  cases a1:cj.testBit i with
  |false=>
   obtain⟨v,aL,bk⟩:=aq.val rfl a1 ag1;refine ow v ?_ bk;unfold one;rw[Hu];show pP _ H o.dst (cJ P call aR (S.only (free ops.toList C D)) H o)=_;rw[Ks (S:=S) (aS:=S.only (free ops.toList C D)) rfl (LR Eh),aL];rfl
  |true=>
   obtain⟨fT,er,aL,bk,cG⟩:=aq.gk rfl a1;obtain⟨m1,m2,m3,m4,m5⟩:=cG jt;have xg:nE P (S.only (free ops.toList C D)).T o.op=some (fT,er):=by rw[M' Eh];exact aL
   obtain⟨pO,N,sz,cO,ed,gr,iG⟩:=aby aJ.f.t xg w;have hw:=Vj aJ.f.t Hu;have dM:fr.roundOf=none\/∀c,o.op≠.defer c:=.inr fun c q=>by rw[q] at aL;cases aL
   obtain⟨ah1,hN⟩:=aJ.h.fill (L:=⟨w.heap.size,N,sz⟩) m1 m4 m2 m5 rfl ed;have ajZ:bB (μ.put (A i) ⟨w.heap.size,N,sz⟩) (er.at (A i)) (er.at w.heap.size):=iR.rel iG (L:=⟨w.heap.size,N,sz⟩) (bY.kW _ _ _);obtain⟨pr,nh⟩:=bh.E4 (S:=S) (p:=free ops.toList C D) aq.lt (er.at (A i));obtain⟨f1,_⟩:=Rl (aJ.f.mono hN) ajZ nh;refine⟨_,_,_,_,_,.one (RJ ar hw dM cO),fin _ _ _ _ _ pr (er.at (A i)) ah1 ?_ aJ.Dv nh bk f1 ?_⟩
   ·refine⟨aJ.gD.ext.trans hN,aJ.gD.ak,aJ.gD.bW,fun id hid hm=>?_⟩;obtain⟨a,b⟩:=aJ.gD.eC id hid hm;refine⟨?_,b⟩;rw[bY.uG _ _ (by omega)];exact a
   ·intro j et a' G5 oe Bl e9 Ph hm cV;rw[bY.uG _ _ ?_]
    ·exact hm
    ·intro q;exact oe (aJ.inj j i et o a' lJ G5 jt Bl a1 e9 rI Ph aq.g q)
theorem anz(hD:qV P B w0 call)(pI:yI P B w0 aR)(hs:wQ ops.toList bK)(aJ:Inv P B w0 call aR ops.toList bK cj j6 H0 jH fr jo C K G S H μ w tmps ds cs D A)
 (lJ:C.testBit i=false)(ar:ops[i]?=some o)(sT:∀j,(Oper.fM o).testBit j=true->D j=true)(o5:one P call aR ops.toList S H o=some (.ok bn H1))
 {wK:Nat}(Vx:wK=vm ops.toList ops.toList.length (Nat.lor K (Nat.pow 2 i)))(ag':∀j,(Oper.fM o).testBit j=true->wK.testBit j=true)(ag9:wK.testBit i=true):
 ∃bD br gO e8 cS,Steps P (lone (ck fr tmps ds (.inRegion ops (i::rest)::k)) cs w) (lone (ck fr gO e8 (.inRegion ops rest::k)) cS br)/\
  Inv P B w0 call aR ops.toList bK cj j6 H0 jH fr jo (Nat.lor C (Nat.pow 2 i)) wK (Nat.land G cj) bn H1 bD br gO e8 cS (nw D i) A:=by
 have rI:ops.toList[i]?=some o:=by simpa using ar
 have Pa:=XA hs aJ ar sT;have DX:D i=false:=by
  cases aV:D i with
  |false=>rfl
  |true=>have:=aJ.sub i aV;rw[lJ] at this;cases this
 obtain⟨gx,t1,t2,t3,t4,t5,t6,t7,t8,t9,t10,t11⟩:=alT Pa o5;obtain⟨bD,br,gO,e8,cS,g1,g2,g3,g4,g5,g6,g7⟩:=EV (k:=k) (rest:=rest) hD pI aJ.h aJ.f ar t1;have V0:∀(j:Nat) et m,nw D i j=true->ops.toList[j]?=some et->(Oper.fM et).testBit m=true->nw D i m=true:=fun j et m a' e9 hm=>by
  rcases ti.1 a' with q|rfl
  ·exact ti.2 (.inl (aJ.down j et m q e9 hm))
  ·rw[rI] at e9;injection e9 with e9;subst e9
   exact ti.2 (.inl (sT m hm))
 have Vy:∀j,wK.testBit j=true->nw D i j=true:=fun j a'=>by
  rw[Vx] at a';refine ada (D:=nw D i) V0 (fun m hm=>?_) j a';rcases lx.1 hm with q|rfl
  ·exact ti.2 (.inl (aJ.k m q))
  ·exact ti.2 (.inr rfl)
 have PT:∀{j:Nat},(Nat.lor C (Nat.pow 2 i)).testBit j=true->j≠i->C.testBit j=true:=fun{j} a' ca=>by
  rcases lx.1 a' with q|q
  ·exact q
  ·exact absurd q.symm ca
 --avd aoU abE not avb done ar2 look at R0 is written now
 have ru:∀{j:Nat} {et:Oper},C.testBit j=true->wK.testBit j=false->ops.toList[j]?=some et->∀t∈looks ops.toList et,bn.T.get t=S.T.get t:=fun{j et} a' vR e9 t aB=>by
  refine t11 t fun aV=>?_;rcases hs.look i j o et t rI e9 aV aB with q|⟨_,q|q⟩
  ·have:=aJ.DD j et i a' e9 q;rw[lJ] at this;cases this
  ·subst q;rw[lJ] at a';cases a'
  ·rw[ag' j q] at vR;cases vR
 have asJ:∀{j:Nat},wK.testBit j=false->j≠i->D j=false->K.testBit j=false:=fun{j} _ _ aV=>by
  cases aO:K.testBit j with
  |false=>rfl
  |true=>have:=aJ.k j aO;rw[aV] at this;cases this
 have Wk:∀{j:Nat},nw D i j=false->wK.testBit j=false:=fun{j} aV=>by
  cases aO:wK.testBit j with
  |false=>rfl
  |true=>have:=Vy j aO;rw[aV] at this;cases this
 refine⟨bD,br,gO,e8,cS,g7,⟨g1,?_,aJ.gD.trans g2,aJ.Dv.trans ?_,t8.trans aJ.b5,t9.trans aJ.cK,fun j a'=>?_,fun j a'=>?_,V0,fun j et m a' e9 hm=>?_,Vy,fun j et a' vR e9=>?_,?_⟩⟩
 ·refine g3.conv t2.symm t3.symm t4.symm t5.symm t6.symm fun t u q=>?_;obtain⟨bb,a7⟩:=zL.1 q;rw[t10];by_cases aV:o.dst=some t
  ·rw[aE aV];exact a7
  ·rw[an aV];rw[t11 t aV] at a7;refine zL.2 ⟨?_,a7⟩;rw[A4] at bb ⊢;intro⟨j,et,a,b,c,d⟩;refine bb ⟨j,et,lx.2 (.inl a),?_,c,d⟩;unfold nw;rw[an (fun e=>by subst e;rw[lJ] at a;cases a)];exact b
 ·have:(S.only (free ops.toList C D)).b5=jH.b5:=aJ.b5;rw[<-this];exact g4
 ·rcases ti.1 a' with q|rfl
  ·exact lx.2 (.inl (aJ.sub j q))
  ·exact lx.2 (.inr rfl)
 ·rcases lx.1 a' with q|rfl
  ·exact aJ.Gc j q
  ·exact⟨o,rI⟩
 ·rcases lx.1 a' with q|rfl
  ·exact lx.2 (.inl (aJ.DD j et m q e9 hm))
  ·rw[rI] at e9;injection e9 with e9;subst e9
   exact lx.2 (.inl (aJ.sub m (sT m hm)))
 ·have oe:j≠i:=fun e=>by subst e;rw[ag9] at vR;cases vR
  have V8:=PT a' oe;cases aO:K.testBit j with
  |true=>
   exfalso;have lf:∀{n FD:Nat},FD.testBit j=true->(vm ops.toList n FD).testBit j=true:=by
    intro n;induction n with
    |zero=>intro FD h;exact h
    |succ n aI=>
     intro FD h;simp only[vm];refine aI ?_;cases ap:FD.testBit n with
     |false=>exact h
     |true=>
      rw[b7];cases nth ops.toList n with
      |none=>exact h
      |some o=>simp only;rw[z',h];rfl
   rw[Vx,lf (lx.2 (.inl aO))] at vR;cases vR
  |false=>
   obtain⟨c1,Df,c2⟩:=aJ.px j et V8 aO e9;refine⟨c1,Df,c2.move t7 t9 (ru V8 vR e9) (fun t aB=>t11 t fun aV=>hs.dst i j o et t rI e9 (Ne.symm oe) aV aB) (fun a1 l8=>?_) rfl fun ap a1 G5=>?_⟩
   ·rw[Mp,a1] at l8;simp at l8
   ·obtain⟨d1,d2⟩:=CY G5;refine⟨d1,fun fT d' ⟨aL,bk,cG,eL,cu⟩=>?_⟩;obtain⟨fm,z2⟩:=g2.eC _ eL aL;exact⟨fm,by rw[g2.bW];exact bk,cG,yD eL g2.ak,by rw[z2 (by rw[cu];exact d')];exact cu⟩
 ·intro x y i' zR U ai tQ Ba Bp Bq sR rJ sM rF eZ;obtain⟨d1,d2⟩:=CY tQ;obtain⟨d3,d4⟩:=CY Ba;have WZ:=PT U d2;have W0:=PT ai d4;rw[tP (ru WZ (Wk tQ) sR)] at sM;rw[tP (ru W0 (Wk Ba) rJ)] at rF;exact aJ.inj x y i' zR WZ W0 d1 d3 Bp Bq sR rJ sM rF eZ
end
end
end Go.Cre

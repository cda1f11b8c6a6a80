/- A part of the proof of TableTurns. -/
import Derived.Test.YtlgjlbpafcifoaaGreatDoorCah
set_option linter.unusedVariables false
set_option linter.unusedSimpArgs false
namespace Go.Cre
noncomputable section
open Go.RowKit
theorem y9(a b i:Nat):Nat.testBit (Nat.lor a b) i=(a.testBit i||b.testBit i):=Nat.testBit_or a b i
theorem Lm(a b i:Nat):Nat.testBit (Nat.land a b) i=(a.testBit i&&b.testBit i):=Nat.testBit_and a b i
theorem Ln(i j:Nat):Nat.testBit (Nat.pow 2 i) j=decide (i=j):=Nat.testBit_two_pow (n:=i) (m:=j)
theorem k8{C i j:Nat}:Nat.testBit (Nat.lor C (Nat.pow 2 i)) j=true↔Nat.testBit C j=true\/i=j:=by
 rw[y9,Ln];simp
theorem RG{a b:Nat}(h:sub a b=true){i:Nat}(ak:a.testBit i=true):b.testBit i=true:=by
 have h:=eb h;rw[<-h,Lm] at ak;simp at ak;exact ak.2
theorem Uq{l:List Edge}{i:Nat}:(B9 l).testBit i=true↔∃e∈l,Region.binds .any e=true/\e.on=i:=by
 induction l with
 |nil=>simp[B9]
 |cons e l aP=>
  simp only[B9];cases ai:Region.binds .any e with
  |false=>simp[aP,ai]
  |true=>rw[b4,y9,Ln];simp[aP,ai]
theorem alx{l:List Nat}{i:Nat}:(AH l).testBit i=true↔i∈l:=by
 induction l with
 |nil=>simp[AH]
 |cons e l aP=>
  simp only[AH];rw[y9,Ln,xJ,aP,fU,decide_eq_true_iff];exact⟨fun q=>q.imp Eq.symm id,fun q=>q.imp Eq.symm id⟩
theorem aks{C:Nat}:∀{n:Nat},Ke C n=true->∀i,i<n->C.testBit i=true:=by
 intro n;induction n with
 |zero=>intro _ i ak;omega
 |succ n aP=>
  intro h i ak;simp only[Ke,gg] at h;by_cases e:i=n
  ·subst e;exact h.1
  ·exact aP h.2 i (by omega)
theorem amF{C i:Nat}:∀{l:List Oper} {k:Nat},only C i l k=true->∀j o,l[j]?=some o->C.testBit (k+j)=true\/k+j=i\/sub (Oper.ib o) C=false:=by
 intro l;induction l with
 |nil=>intro k _ j o h;simp at h
 |cons a l aP=>
  intro k h j o ah;simp only[only,gg,xJ,sG] at h;cases j with
  |zero=>
   simp at ah;subst ah;rcases h.1 with(q|q)|q
   ·exact .inl q
   ·exact .inr (.inl (eb q))
   ·exact .inr (.inr q)
  |succ j=>
   have:=aP h.2 j o (by simpa using ah);have e:k+1+j=k+(j+1):=by omega
   rw[e] at this;exact this
theorem acy{bk c3 C:Nat}:∀{l:List Nat},IG bk c3 C l=true->∀i∈l,C.testBit i=true/\c3.testBit i=false:=by
 intro l;induction l with
 |nil=>intro _ i ak;simp at ak
 |cons a l aP=>
  intro h i ak;simp only[IG,gg,sG] at h;rcases fU.1 ak with rfl|ak
  ·exact h.1
  ·exact aP h.2 i ak
theorem ad4{ops:List Oper}{D:Nat->Bool}(al:∀i o j,D i=true->ops[i]?=some o->(Oper.ib o).testBit j=true->D j=true):∀{n K:Nat},(∀i,K.testBit i=true->D i=true)->∀i,(uC ops n K).testBit i=true->D i=true:=by
 intro n;induction n with
 |zero=>intro K h i ak;exact h i ak
 |succ n aP=>
  intro K h i ak;simp only[uC] at ak;refine aP (fun j aY=>?_) i ak;cases ai:K.testBit n with
  |false=>rw[ai] at aY;exact h j aY
  |true=>
   rw[ai,b4] at aY;rw[kA] at aY;cases ah:ops[n]? with
   |none=>rw[ah] at aY;exact h j aY
   |some o=>
    rw[ah] at aY;simp only at aY;rw[y9] at aY;simp only[xJ] at aY;rcases aY with q|q
    ·exact h j q
    ·exact al n o j (h n ai) ah q
theorem acB{l:List Oper}:∀{k j:Nat} {o:Oper},l[j]?=some o->yC o.op=true->(xZ l k).testBit (k+j)=true:=by
 induction l with
 |nil=>intro k j o h;simp at h
 |cons a l aP=>
  intro k j o ah aF;simp only[xZ];rw[y9];cases j with
  |zero=>simp at ah;subst ah;rw[aF,b4,Ln];simp
  |succ j=>
   have:=aP (k:=k+1) (by simpa using ah) aF;have e:k+1+j=k+(j+1):=by omega
   rw[e] at this;rw[this];simp
structure uu (ops:List Oper) (bk:Nat):Prop where
 dst:∀(i j:Nat) a b d,ops[i]?=some a->ops[j]?=some b->i≠j->a.dst=some d->b.dst≠some d
 look:∀(i j:Nat) a b d,ops[i]?=some a->ops[j]?=some b->a.dst=some d->d∈looks ops b->(Oper.ib b).testBit i=true\/(bk.testBit i=true/\(i=j\/(Oper.ib a).testBit j=true))
 down:∀(i:Nat) a j,ops[i]?=some a->(Oper.ib a).testBit j=true->j<i
 bD:∀(i:Nat) a,ops[i]?=some a->bk.testBit i=false->C7 a.op=false
theorem anh{ops:List Oper}{bk i:Nat}{a:Oper}:∀{l:List Oper} {k:Nat},KY ops bk i a l k=true->∀j b,l[j]?=some b->Dy ops bk i (k+j) a b=true:=by
 intro l;induction l with
 |nil=>intro k _ j b h;simp at h
 |cons c l aP=>
  intro k h j b ai;simp only[KY,gg] at h;cases j with
  |zero=>simp at ai;subst ai;exact h.1
  |succ j=>
   have:=aP h.2 j b (by simpa using ai);have e:k+1+j=k+(j+1):=by omega
   rw[e] at this;exact this
theorem Q6{ops:List Oper}{bk:Nat}:∀{l:List Oper} {k:Nat},Hg ops bk l k=true->∀i a,l[i]?=some a->
 (∀j b,ops[j]?=some b->Dy ops bk (k+i) j a b=true)/\(Oper.ib a)<2 ^ (k+i)/\(bk.testBit (k+i)=true\/C7 a.op=false):=by
 intro l;induction l with
 |nil=>intro k _ i a h;simp at h
 |cons c l aP=>
  intro k h i a aF;simp only[Hg,gg,xJ,sG] at h;cases i with
  |zero=>
   simp at aF;subst aF;refine⟨fun j b ai=>?_,hv h.1.1.2,h.1.2⟩;have:=anh h.1.1.1 j b ai;simpa using this
  |succ i=>
   have:=aP h.2 i a (by simpa using aF);have e:k+1+i=k+(i+1):=by omega
   rw[e] at this;exact this
theorem ape{ops:List Oper}{bk:Nat}(h:Hg ops bk ops 0=true):uu ops bk:=by
 have ao:∀(i j:Nat) a b,ops[i]?=some a->ops[j]?=some b->Dy ops bk i j a b=true:=fun i j a b aF ai=>by
  have:=(Q6 h i a aF).1 j b ai;simpa using this
 refine⟨fun i j a b d aF ai aiI al z9=>?_,fun i j a b d aF ai al ap=>?_,fun i a j aF aY=>?_,fun i a aF aD=>?_⟩
 ·have:=ao i j a b aF ai;simp only[Dy,gg,xJ,sG] at this;rcases this.1 with q|q
  ·exact aiI (eb q)
  ·simp[ZB,al,z9] at q
 ·have:=ao i j a b aF ai;simp only[Dy,gg,xJ,sG] at this;rcases this.2 with(q|q)|q
  ·exfalso;simp only[Qj,al] at q;rw[List.any_eq_false] at q;exact q d ap (by simp)
  ·exact .inl q
  ·exact .inr ⟨q.1,q.2.imp (fun x=>eb x) id⟩
 ·have ad:=(Q6 h i a aF).2.1;rw[kH] at ad;rcases hL j i with q|q
  ·exact q
  ·have aL:(Oper.ib a)<2 ^ j:=hA ad (nE (by omega) q);rw[Nat.testBit_lt_two_pow aL] at aY;cases aY
 ·have ad:=(Q6 h i a aF).2.2;rw[kH] at ad;rcases ad with q|q
  ·rw[q] at aD;cases aD
  ·exact q
theorem TC{P:Program}{T:aW Value}{op:Op}{b:e3}{ei:iE}(he:m2 P T op=some (b,ei)):j1 (some b)=false:=by
 have box:∀{elem v},zz elem v=some (b,ei)->j1 (some b)=false:=fun{elem v} q=>by
  unfold zz at q;cases ah:v.cells.toList.all eV with
  |false=>rw[ah] at q;cases q
  |true=>rw[ah,b4] at q;simp only[cl,dm] at q;obtain⟨rfl,rfl⟩:=q;rfl
 have fin:∀{c:Bool} {cells:List Value} {elem:TypeId} {k:iE},(bif c then some (e3.row cells elem false 0 0 false,k) else none)=some (b,ei)->j1 (some b)=false:=fun{c cells elem k} q=>by
  cases c with
  |false=>cases q
  |true=>simp only[b4,cl,dm] at q;obtain⟨rfl,rfl⟩:=q;rfl
 cases op<;>simp only[m2] at he
 case alloc elem=>
  split at he
  ·rename_i z _;cases ao:plain z with
   |false=>rw[ao] at he;cases he
   |true=>rw[ao,b4] at he;exact box he
  ·cases he
 case box elem x=>
  split at he
  ·exact box he
  ·cases he
 case buildSlice t len ps=>
  split at he
  ·unfold Eo at he;split at he
   ·split at he
    ·rename_i sz z _ _;cases aD:(Nat.ble len 100000&&Nat.ble (len*sz) 100000&&plain z&&Nat.beq z.cells.toList.length sz) with
     |false=>rw[aD] at he;cases he
     |true=>
      rw[aD,b4] at he;split at he
      ·exact fin he
      ·cases he
    ·cases he
   ·cases he
  ·cases he
 case makeMap t r=>
  cases r with
  |some r=>obtain⟨rfl,rfl,_⟩:=Xq (show Gu P t r=some (b,ei) from he);rfl
  |none=>simp only[cl,dm] at he;obtain⟨rfl,rfl⟩:=he;rfl
 case makeSlice t l c=>
  split at he
  ·unfold Ep at he;split at he
   ·split at he
    ·split at he
     ·exact fin he
     ·cases he
    ·cases he
   ·cases he
  ·cases he
 all_goals cases he
end
end Go.Cre
namespace Go.Cre
noncomputable section
open Go.RowKit
open Classical
def Q7(ops:List Oper)(C:Nat)(D:Nat->Bool)(t:Nat):Prop:=∃(i:Nat) (o:Oper),C.testBit i=true/\D i=false/\ops[i]?=some o/\o.dst=some t
def free (ops:List Oper)(C:Nat)(D:Nat->Bool)(t:Nat):Bool:=decide (¬Q7 ops C D t)
theorem yf{ops:List Oper}{C:Nat}{D:Nat->Bool}{t:Nat}:free ops C D t=true↔¬Q7 ops C D t:=by unfold free;exact decide_eq_true_iff
structure Good (P:Program) (call:eo) (aE:gU) (ops:List Oper) (c3 G:Nat) (abh:Nat) (S:aV) (H:an) (μ:bL) (D:Nat->Bool) (A:Nat->Nat) (i:Nat) (o:Oper) (b:Bool):Prop where
 g:fa ops S.T o=some b
 lt:∀t,o.dst=some t->t<S.n/\∃u,S.T.get t=some u
 no:b=false->∀t,o.dst=some t->S.T.get t=some undef
 val:b=true->c3.testBit i=false->G.testBit i=true->∃v,cj P call aE S H o=some (.val v H)/\∀t,o.dst=some t->S.T.get t=some v
 ir:b=true->c3.testBit i=true->∃fS ei,m2 P S.T o.op=some (fS,ei)/\(∀t,o.dst=some t->S.T.get t=some (ei.at (A i)))/\
  (D i=false->μ (A i)=none/\H.bz<=A i/\abh<=A i/\A i<H.ay/\H.mem.get (A i)=some fS)
structure Inv (P:Program) (B:Nat->Prop) (w0:World) (call:eo) (aE:gU) (ops:List Oper) (bk c3:Nat) (ji:bL) (H0:an) (iq:aV) (fr:Frame) (jE:List Frame)
 (C K G:Nat) (S:aV) (H:an) (μ:bL) (w:World) (tmps:Array Value) (ds:List Deferred) (cs:List Frame) (D:Nat->Bool) (A:Nat->Nat):Prop where
 h:bX P B w0 μ H w
 f:hJ P μ (S.only (free ops C D)) fr tmps ds cs
 iC:Step ji μ H0 H
 zL:jz iq.bG jE cs
 bG:S.bG=iq.bG
 cc:S.cc=iq.cc
 sub:∀i,D i=true->C.testBit i=true
 Ew:∀i,C.testBit i=true->∃o,ops[i]?=some o
 down:∀(i:Nat) o j,D i=true->ops[i]?=some o->(Oper.ib o).testBit j=true->D j=true
 B6:∀(i:Nat) o j,C.testBit i=true->ops[i]?=some o->(Oper.ib o).testBit j=true->C.testBit j=true
 k:∀i,K.testBit i=true->D i=true
 qW:∀(i:Nat) o,C.testBit i=true->K.testBit i=false->ops[i]?=some o->bk.testBit i=false/\∃b,Good P call aE ops c3 G H0.ay S H μ D A i o b
 inj:∀(i j:Nat) QU dW,C.testBit i=true->C.testBit j=true->D i=false->D j=false->c3.testBit i=true->c3.testBit j=true->ops[i]?=some QU->ops[j]?=some dW->
  fa ops S.T QU=some true->fa ops S.T dW=some true->A i=A j->i=j
section
variable {P:Program}{B:Nat->Prop}{w0 w:World}{μ ji:bL}{H H0 H':an}{S iq aC:aV}{fr:Frame}{tmps:Array Value}{ds:List Deferred}{cs jE:List Frame}{call:eo}{aE:gU}
variable {ops:List Oper}{bk c3 C K G:Nat}{D:Nat->Bool}{A:Nat->Nat}{i:Nat}{o:Oper}
theorem aV.anP{dst:Option Tmp}{v:Value}(he:S.put dst v=some aC):∀t,dst=some t->t<aC.n/\∃u,aC.T.get t=some u:=fun t aJ=>by
 have e:=aV.put_eq he;refine⟨?_,v,by rw[e.2.2.2.2.2,a2 aJ]⟩;subst aJ;obtain⟨T,n,fx,bG,bd,cc⟩:=S;have he:Bool.rec (motive:=fun _=>Option aV) none (aV.pz n fx bG bd cc (aW.put v T t)) (Nat.ble (Nat.succ t) n)=some aC:=he;rw[e.1];show t<n;cases ai:Nat.ble (Nat.succ t) n with
 |false=>rw[ai] at he;cases he
 |true=>exact hv ai
theorem hJ.conv{a0 fA:aV}(h:hJ P μ a0 fr tmps ds cs)(aw:fA.n=a0.n)(aR:fA.ds=a0.ds)(cf:fA.bG=a0.bG)(dK:fA.bd=a0.bd)(cr:fA.cc=a0.cc)
 (aJ:∀t v,fA.T.get t=some v->a0.T.get t=some v):hJ P μ fA fr tmps ds cs:=
 ⟨⟨by rw[aw];exact h.t.1,fun t v q=>h.t.2 t v (aJ t v q)⟩,by rw[aR];exact h.d,by rw[cf];exact h.kind,fun q=>h.tR (cr▸q),fun l q=>h.y2 l (cr▸q),(fun q=>by rw[dK];exact h.bd (cf▸q)),h.fn⟩
theorem vj{p:Nat->Bool}{t:Nat}{v:Value}:(S.only p).T.get t=some v↔p t=true/\S.T.get t=some v:=by
 show(S.T.fF p).get t=some v↔_;rw[aW.Fa];cases p t<;>simp
theorem Good.move{od:Nat}{bf:bL}{Sw:Nat->Bool}{pH:Nat->Nat}{b:Bool}(ax:Good P call aE ops c3 G H0.ay S H μ D A i o b)(az:aC.n=S.n)(aq:aC.cc=S.cc)
 (ap:∀t∈looks ops o,aC.T.get t=S.T.get t)(al:∀t,o.dst=some t->aC.T.get t=S.T.get t)
 (cg:c3.testBit i=false->od.testBit i=true->G.testBit i=true/\H'=H)(ez:pH i=A i)
 (Pk:b=true->c3.testBit i=true->Sw i=false->D i=false/\(∀fS,j1 (some fS)=false->μ (A i)=none/\H.bz<=A i/\H0.ay<=A i/\A i<H.ay/\H.mem.get (A i)=some fS->bf (A i)=none/\H'.bz<=A i/\H0.ay<=A i/\A i<H'.ay/\H'.mem.get (A i)=some fS)):
 Good P call aE ops c3 od H0.ay aC H' bf Sw pH i o b:=by
 refine⟨by rw[rV ap];exact ax.g,fun t aJ=>?_,fun ai t aJ=>by rw[al t aJ];exact ax.no ai t aJ,fun ai aF N5=>?_,fun ai aF=>?_⟩
 ·obtain⟨a,b⟩:=ax.lt t aJ;exact⟨by rw[az];exact a,by rw[al t aJ];exact b⟩
 ·obtain⟨bY,rfl⟩:=cg aF N5;obtain⟨v,aw,aR⟩:=ax.val ai aF bY;exact⟨v,by rw[E4 aq (Hb ap)];exact aw,fun t aJ=>by rw[al t aJ];exact aR t aJ⟩
 ·obtain⟨fS,ei,aw,aR,cf⟩:=ax.ir ai aF;refine⟨fS,ei,by rw[Mw ap];exact aw,fun t aJ=>by rw[al t aJ,ez];exact aR t aJ,fun cK=>?_⟩;obtain⟨aK,aH⟩:=Pk ai aF cK;rw[ez];exact aH fS (TC aw) (cf aK)
theorem quiet(hs:uu ops bk)(av:Inv P B w0 call aE ops bk c3 ji H0 iq fr jE C K G S H μ w tmps ds cs D A)(ak:C.testBit i=false)(ah:ops[i]?=some o)(aD:bk.testBit i=false)
 {j:Nat}{dW:Oper}(aY:C.testBit j=true\/j=i)(eU:ops[j]?=some dW){t:Nat}(aJ:t∈looks ops dW):o.dst≠some t:=fun al=>by
 rcases hs.look i j o dW t ah eU al aJ with q|⟨q,_⟩
 ·rcases aY with aY|rfl
  ·have:=av.B6 j dW i aY eU q;rw[ak] at this;cases this
  ·have:=hs.down j dW j eU q;omega
 ·rw[aD] at q;cases q
theorem agn(h:fits ops C i=true)(ah:ops[i]?=some o):C.testBit i=false/\∀j,(Oper.ib o).testBit j=true->C.testBit j=true:=by
 unfold fits at h;rw[kA,ah] at h;simp only[gg,sG] at h;exact⟨h.1,fun j aY=>RG h.2 aY⟩
theorem ags(cK:D i=false)(ah:ops[i]?=some o){t:Nat}(h:free ops (Nat.lor C (Nat.pow 2 i)) D t=true):free ops C D t=true/\o.dst≠some t:=by
 rw[yf] at h;refine⟨yf.2 fun⟨j,dW,a,b,c,d⟩=>h ⟨j,dW,k8.2 (.inl a),b,c,d⟩,fun al=>h ⟨i,o,k8.2 (.inr rfl),cK,ah,al⟩⟩
theorem P4(hs:uu ops bk)(av:Inv P B w0 call aE ops bk c3 ji H0 iq fr jE C K G S H μ w tmps ds cs D A)(ah:ops[i]?=some o)(aA:fits ops C i=true)(aD:bk.testBit i=false)
 {v:Value}{b:Bool}{od:Nat}{pH:Nat->Nat}(ao:S.put o.dst v=some aC)(ax:fa ops S.T o=some b)(gr:b=false->v=undef)
 (gO:bX P B w0 μ H' w)(dn:Step ji μ H0 H')(kU:H.ay<=H'.ay)(o9:H'.bz=H.bz)(wM:∀x,x<H.ay->H'.mem.get x=H.mem.get x)
 (ez:∀j,j≠i->pH j=A j)(cg:∀j,j≠i->c3.testBit j=false->od.testBit j=true->G.testBit j=true/\H'=H)
 (mK:b=true->c3.testBit i=false->od.testBit i=true->cj P call aE S H' o=some (.val v H'))
 (Oq:b=true->c3.testBit i=true->pH i=H.ay/\H'.ay=H.ay+1/\H0.ay<=H.ay/\∃fS ei,m2 P S.T o.op=some (fS,ei)/\v=ei.at H.ay/\H'.mem.get H.ay=some fS):
 Inv P B w0 call aE ops bk c3 ji H0 iq fr jE (Nat.lor C (Nat.pow 2 i)) K od aC H' μ w tmps ds cs D pH:=by
 obtain⟨ak,hm⟩:=agn aA ah;have Cq:D i=false:=by
  cases al:D i with
  |false=>rfl
  |true=>have:=av.sub i al;rw[ak] at this;cases this
 obtain⟨cP,gW,nq,yV,xk,yW⟩:=aV.put_eq ao;have q2:∀{j:Nat} {dW:Oper},(C.testBit j=true\/j=i)->ops[j]?=some dW->∀t∈looks ops dW,aC.T.get t=S.T.get t:=fun{j dW} aY eU t aJ=>by
  rw[yW,aZ (quiet hs av ak ah aD aY eU aJ)]
 refine⟨gO,?_,dn,av.zL,nq.trans av.bG,xk.trans av.cc,fun j aY=>k8.2 (.inl (av.sub j aY)),fun j aY=>?_,av.down,fun j dW k aY eU hk=>?_,av.k,fun j dW aY hk eU=>?_,?_⟩
 ·refine av.f.conv cP gW nq yV xk fun t u q=>?_;obtain⟨aK,aH⟩:=vj.1 q;obtain⟨cX,cW⟩:=ags Cq ah aK;rw[yW,aZ cW] at aH;exact vj.2 ⟨cX,aH⟩
 ·rcases k8.1 aY with q|rfl
  ·exact av.Ew j q
  ·exact⟨o,ah⟩
 ·rcases k8.1 aY with q|rfl
  ·exact k8.2 (.inl (av.B6 j dW k q eU hk))
  ·rw[ah] at eU;injection eU with eU;subst eU
   exact k8.2 (.inl (hm k hk))
 ·by_cases q7:j=i
  ·subst q7;rw[ah] at eU;injection eU with eU;subst eU
   refine⟨aD,b,?_⟩;refine⟨by rw[rV (q2 (.inr rfl) ah)];exact ax,aV.anP ao,fun ai t aJ=>by rw[yW,a2 aJ,gr ai],fun ai aF N5=>?_,fun ai aF=>?_⟩
   ·exact⟨v,by rw[E4 xk (Hb (q2 (.inr rfl) ah))];exact mK ai aF N5,fun t aJ=>by rw[yW,a2 aJ]⟩
   ·obtain⟨a7,bc,cu,fS,ei,c9,rfl,ee⟩:=Oq ai aF;refine⟨fS,ei,by rw[Mw (q2 (.inr rfl) ah)];exact c9,fun t aJ=>by rw[yW,a2 aJ,a7],fun _=>?_⟩;rw[a7];exact⟨av.h.Ye,by rw[o9];exact av.h.kc,cu,by omega,ee⟩
  ·have aY:C.testBit j=true:=by
    rcases k8.1 aY with q|q
    ·exact q
    ·exact absurd q.symm q7
   obtain⟨bY,BV,bZ⟩:=av.qW j dW aY hk eU;refine⟨bY,BV,bZ.move cP xk (q2 (.inl aY) eU) (fun t aJ=>?_) (cg j q7) (ez j q7) fun ai aF cK=>⟨cK,fun fS _ ⟨aw,aR,cf,dK,cr⟩=>⟨aw,by rw[o9];exact aR,cf,by omega,by rw[wM _ dK];exact cr⟩⟩⟩;rw[yW,aZ (fun q=>hs.dst i j o dW t ah eU (Ne.symm q7) q aJ)]
 ·have b9:∀(j:Nat) dW,C.testBit j=true->D j=false->c3.testBit j=true->ops[j]?=some dW->fa ops S.T dW=some true->A j<H.ay:=fun j dW aY cK aF eU OQ=>by
   have hk:K.testBit j=false:=by
    cases hk:K.testBit j with
    |false=>rfl
    |true=>have:=av.k j hk;rw[cK] at this;cases this
   obtain⟨_,BV,bZ⟩:=av.qW j dW aY hk eU;have e:=bZ.g;rw[OQ] at e;injection e with e;subst e
   obtain⟨fS,ei,_,_,q⟩:=bZ.ir rfl aF;exact(q cK).2.2.2.1
  intro x y er hp U au z2 uO z7 z8 p6 pd r2 q6 ew;by_cases jr:x=i
  ·by_cases u5:y=i
   ·rw[jr,u5]
   ·exfalso;subst jr;rw[ah] at p6;injection p6 with p6;subst p6
    rw[rV (q2 (.inr rfl) ah),ax] at r2;injection r2 with r2;subst r2
    have au:C.testBit y=true:=by
     rcases k8.1 au with q|q
     ·exact q
     ·exact absurd q.symm u5
    rw[rV (q2 (.inl au) pd)] at q6;have:=b9 y hp au uO z8 pd q6;rw[(Oq rfl z7).1,ez y u5] at ew;omega
  ·have gb:C.testBit x=true:=by
    rcases k8.1 U with q|q
    ·exact q
    ·exact absurd q.symm jr
   rw[rV (q2 (.inl gb) p6)] at r2;by_cases u5:y=i
   ·exfalso;subst u5;rw[ah] at pd;injection pd with pd;subst pd
    rw[rV (q2 (.inr rfl) ah),ax] at q6;injection q6 with q6;subst q6
    have:=b9 x er gb z2 z7 p6 r2;rw[(Oq rfl z8).1,ez x jr] at ew;omega
   ·have au:C.testBit y=true:=by
     rcases k8.1 au with q|q
     ·exact q
     ·exact absurd q.symm u5
    rw[rV (q2 (.inl au) pd)] at q6;rw[ez x jr,ez y u5] at ew;exact av.inj x y er hp gb au z2 uO z7 z8 p6 pd r2 q6 ew
theorem Step.new(dn:Step ji μ H0 H){b:e3}{a:Nat}(az:H.new b=some (a,H')):Step ji μ H0 H':=by
 obtain⟨rfl,aw,aR,cf,dK,cr⟩:=an.oG az;refine⟨dn.ext,by have:=dn.ay;omega,by rw[dK];exact dn.bz,fun id uT hm=>?_⟩;obtain⟨a,b⟩:=dn.fF id uT hm;exact⟨a,fun ah=>by rw[cr,aZ (by have:=dn.ay;omega)];exact b ah⟩
theorem T0(hs:uu ops bk)(hQ:∀(i:Nat) o,ops[i]?=some o->c3.testBit i=false->yC o.op=false){bB:dd}:∀(aX:List iG) (C G:Nat) (S:aV) (H:an) (A:Nat->Nat),
 Inv P B w0 call aE ops bk c3 ji H0 iq fr jE C K G S H μ w tmps ds cs D A->n' ops bk c3 C K G aX=true->c4 P call aE ops aX S H=some bB->
 ∃rp vz od aC H' pH,Inv P B w0 call aE ops bk c3 ji H0 iq fr jE vz K od aC H' μ w tmps ds cs D pH/\n' ops bk c3 vz K od rp=true/\c4 P call aE ops rp aC H'=some bB/\
  (rp=[]\/∃i rest,rp=.bD i::rest):=by
 intro aX;induction aX with
 |nil=>intro C G S H A av ao he;exact⟨[],C,G,S,H,A,av,ao,he,.inl rfl⟩
 |cons s aX aP=>
  intro C G S H A av ao he;have he:Uc P call aE ops (c4 P call aE ops aX) S H s=some bB:=he;cases s with
  |bD i=>exact⟨.bD i::aX,C,G,S,H,A,av,ao,he,.inr ⟨i,aX,rfl⟩⟩
  |ca l=>
   simp only[n',gg] at ao;have ar:=acy ao.1;have he:(bif l.all (vX P call aE ops S H) then c4 P call aE ops aX S H else none)=some bB:=he;cases ap:l.all (vX P call aE ops S H) with
   |false=>rw[ap] at he;cases he
   |true=>
    rw[ap,b4] at he;rw[rF] at ap;refine aP C (Nat.lor G (AH l)) S H A ?_ ao.2 he;refine⟨av.h,av.f,av.iC,av.zL,av.bG,av.cc,av.sub,av.Ew,av.down,av.B6,av.k,fun j dW aY hk eU=>?_,av.inj⟩;obtain⟨bY,b,bZ⟩:=av.qW j dW aY hk eU;refine⟨bY,b,bZ.g,bZ.lt,bZ.no,fun ai aF cg=>?_,bZ.ir⟩;rw[y9,xJ,alx] at cg;rcases cg with cg|cg
    ·exact bZ.val ai aF cg
    ·have aD:=ap j cg;unfold vX at aD;rw[kA,eU] at aD;simp only at aD;rw[bZ.g,ai] at aD;have gQ:IY H.ay S.T dW.dst (cj P call aE S H dW)=true:=aD;cases gF:cj P call aE S H dW with
     |none=>rw[gF] at gQ;cases gQ
     |some r=>
      rw[gF] at gQ;cases r with
      |val v bK=>
       have gQ:(Nat.beq bK.ay H.ay&&(match dW.dst with|none=>true|some d=>(match S.T.get d with|some u=>eJ 8 v u|none=>false)))=true:=gQ
       simp only[gg] at gQ;have lL:bK=H:=UC (hs.bD j dW eU bY) (hQ j dW eU aF) gF (eb gQ.1);refine⟨v,by rw[lL],fun t aJ=>?_⟩;have tm:(match dW.dst with|none=>true|some d=>(match S.T.get d with|some u=>eJ 8 v u|none=>false))=true:=gQ.2
       rw[aJ] at tm;simp only at tm;cases b1:S.T.get t with
       |none=>rw[b1] at tm;cases tm
       |some u=>rw[b1] at tm;rw[aq8 tm]
      |skip _=>cases gQ
      |gk _=>cases gQ
      |fO _ _=>cases gQ
      |y0=>cases gQ
  |val i=>
   simp only[n',gg,sG] at ao;obtain⟨⟨⟨aA,aD⟩,aF⟩,ao⟩:=ao;have he:Option.rec (motive:=fun _=>Option dd) none (k9 P call aE ops S H (c4 P call aE ops aX)) (nth ops i)=some bB:=he;cases ah:nth ops i with
   |none=>rw[ah] at he;cases he
   |some o=>
    rw[ah] at he;rw[kA] at ah;have he:Option.rec (motive:=fun _=>Option dd) none (aaE P call aE S H o (c4 P call aE ops aX)) (fa ops S.T o)=some bB:=he;cases ax:fa ops S.T o with
    |none=>rw[ax] at he;cases he
    |some b=>
     rw[ax] at he
     have fin:∀v,(b=false->v=undef)->(b=true->cj P call aE S H o=some (.val v H))->oL (c4 P call aE ops aX) H (S.put o.dst v)=some bB->
      ∃rp vz od aC H' pH,Inv P B w0 call aE ops bk c3 ji H0 iq fr jE vz K od aC H' μ w tmps ds cs D pH/\n' ops bk c3 vz K od rp=true/\c4 P call aE ops rp aC H'=some bB/\(rp=[]\/∃i rest,rp=.bD i::rest):=by
      intro v ab ad q;cases mJ:S.put o.dst v with
      |none=>rw[mJ] at q;cases q
      |some aC=>
       rw[mJ] at q;refine aP _ _ aC H A (P4 hs av ah aA aD mJ ax ab av.h av.iC (bF _) rfl (fun _ _=>rfl) (fun _ _=>rfl) (fun j aY _ cg=>⟨?_,rfl⟩) (fun ai _ _=>ad ai) (fun _ h=>by rw[aF] at h;cases h)) ao q;rcases k8.1 cg with q|q
       ·exact q
       ·exact absurd q.symm aY
     cases b with
     |false=>exact fin undef (fun _=>rfl) (fun h=>by cases h) he
     |true=>
      have he:Bl S H o.dst (c4 P call aE ops aX) (cj P call aE S H o)=some bB:=he;cases gF:cj P call aE S H o with
      |none=>rw[gF] at he;cases he
      |some r=>
       rw[gF] at he;cases r with
       |val v bK=>
        have he:(bif Nat.beq bK.ay H.ay then oL (c4 P call aE ops aX) H (S.put o.dst v) else none)=some bB:=he;cases kU:Nat.beq bK.ay H.ay with
        |false=>rw[kU] at he;cases he
        |true=>
        rw[kU,b4] at he;have lL:bK=H:=UC (hs.bD i o ah aD) (hQ i o ah aF) gF (eb kU);subst lL;exact fin v (fun h=>by cases h) (fun _=>gF) he
       |skip _=>cases he
       |gk _=>cases he
       |fO _ _=>cases he
       |y0=>cases he
  |ir i=>
   simp only[n',gg,sG] at ao;obtain⟨⟨⟨aA,aD⟩,aF⟩,ao⟩:=ao;have he:Option.rec (motive:=fun _=>Option dd) none (En P ops S H (c4 P call aE ops aX)) (nth ops i)=some bB:=he;cases ah:nth ops i with
   |none=>rw[ah] at he;cases he
   |some o=>
    rw[ah] at he;rw[kA] at ah;have he:Option.rec (motive:=fun _=>Option dd) none (Tz P S H o (c4 P call aE ops aX)) (fa ops S.T o)=some bB:=he;have U3:∀j,j≠i->c3.testBit j=false->(Nat.lor (Nat.land G c3) (Nat.pow 2 i)).testBit j=true->False:=fun j aY z6 cg=>by
     rcases k8.1 cg with q|q
     ·rw[Lm,z6] at q;simp at q
     ·exact aY q.symm
    cases ax:fa ops S.T o with
    |none=>rw[ax] at he;cases he
    |some b=>
     rw[ax] at he;cases b with
     |false=>
      have he:oL (c4 P call aE ops aX) H (S.put o.dst undef)=some bB:=he;cases mJ:S.put o.dst undef with
      |none=>rw[mJ] at he;cases he
      |some aC=>
       rw[mJ] at he;exact aP _ _ aC H A (P4 hs av ah aA aD mJ ax (fun _=>rfl) av.h av.iC (bF _) rfl (fun _ _=>rfl) (fun _ _=>rfl) (fun j aY z6 cg=>(U3 j aY z6 cg).elim) (fun h=>by cases h) (fun h=>by cases h)) ao he
     |true=>
      have he:Mu S H o.dst (c4 P call aE ops aX) (m2 P S.T o.op)=some bB:=he;cases nd:m2 P S.T o.op with
      |none=>rw[nd] at he;cases he
      |some q=>
       obtain⟨fS,ei⟩:=q;rw[nd] at he;have he:Mv S o.dst (c4 P call aE ops aX) ei (H.new fS)=some bB:=he;cases az:H.new fS with
       |none=>rw[az] at he;cases he
       |some q=>
        obtain⟨a,H1⟩:=q;rw[az] at he;obtain⟨aft,aw,aR,cf,dK,cr⟩:=an.oG az;subst aft;have j0:oL (c4 P call aE ops aX) H1 (S.put o.dst (ei.at H.ay))=some bB:=he;cases mJ:S.put o.dst (ei.at H.ay) with
        |none=>rw[mJ] at j0;cases j0
        |some aC=>
         rw[mJ] at j0
         refine aP _ _ aC H1 (fun j=>if j=i then H.ay else A j) (P4 hs av ah aA aD mJ ax (fun h=>by cases h) (av.h.ano az (TC nd)) (av.iC.new az) (by omega) dK (fun x U=>by rw[cr,aZ (by omega)])
          (fun j aY=>aZ aY) (fun j aY z6 cg=>(U3 j aY z6 cg).elim) (fun _ h=>by rw[aF] at h;cases h) (fun _ _=>⟨a2 rfl,aw,av.iC.ay,fS,ei,nd,rfl,by rw[cr,a2 rfl]⟩)) ao j0
end
end
end Go.Cre
namespace Go.Cre
noncomputable section
open Go.RowKit
open Classical
section
variable {P:Program}{B:Nat->Prop}{w0 w:World}{μ ji:bL}{H H0 H' H1:an}{S iq aC a0:aV}{fr:Frame}{tmps:Array Value}{ds:List Deferred}{cs jE:List Frame}{call:eo}{aE:gU}
variable {ops:Array Oper}{bk c3 C K G:Nat}{D:Nat->Bool}{A:Nat->Nat}{i:Nat}{o:Oper}{k:List Item}{rest:List Nat}
theorem aW.Hi{α:Type}{a v:α}{t:aW α}:∀{n:Nat},t.get n=some v->∃k7,aW.put a t n=some k7:=by
 induction t with
 |leaf=>intro n h;cases h
 |node u l r wY wZ=>
  intro n h;cases n with
  |zero=>exact⟨_,rfl⟩
  |succ m=>
   rw[aW.qV] at h;rw[aW.K4];by_cases hm:m % 2=0
   ·rw[a2 hm] at h ⊢;obtain⟨l',e⟩:=wY h;rw[e];exact⟨_,rfl⟩
   ·rw[aZ hm] at h ⊢;obtain⟨ch,e⟩:=wZ h;rw[e];exact⟨_,rfl⟩
theorem aV.DD{p:Nat->Bool}{dst:Option Tmp}(h:∀t,dst=some t->t<S.n/\∃u,S.T.get t=some u)(v:Value):∃o1,(S.only p).put dst v=some o1:=by
 cases dst with
 |none=>exact⟨_,rfl⟩
 |some d=>
  obtain⟨ab,u,ad⟩:=h d rfl;obtain⟨T,n,fx,bG,bd,cc⟩:=S;show ∃o1,Bool.rec (motive:=fun _=>Option aV) none (aV.pz n fx bG bd cc (aW.put v (T.fF p) d)) (Nat.ble (Nat.succ d) n)=some o1;have ai:Nat.ble (Nat.succ d) n=true:=lH ab;rw[ai];obtain⟨pR,aw⟩:=aW.Hi (a:=v) ad;obtain⟨ar4,aR⟩:=aW.YS p aw;rw[aR];exact⟨_,rfl⟩
theorem Y8{X:aV}{dst:Option Tmp}{v:Value}{bB:dd}(h:lz X dst v H'=some bB):∃a0,X.put dst v=some a0/\bB=.ok a0 H':=by
 unfold lz mq at h;cases ao:X.put dst v with
 |none=>rw[ao] at h;cases h
 |some a0=>rw[ao] at h;have h:some (dd.ok a0 H')=some bB:=h;injection h with h;exact⟨a0,rfl,h.symm⟩
theorem Y9{X:aV}{dst:Option Tmp}{v:Value}(h:X.put dst v=some a0):lz X dst v H'=some (.ok a0 H'):=by
 unfold lz;rw[h];rfl
theorem amD{l:List Oper}{p:Nat->Bool}(ap:∀t∈looks l o,p t=true)(he:one P call aE l S H o=some (.ok a0 H1)):
 ∃fA,one P call aE l (S.only p) H o=some (.ok fA H1)/\fA.n=a0.n/\fA.ds=a0.ds/\fA.bG=a0.bG/\fA.bd=a0.bd/\fA.cc=a0.cc/\a0.n=S.n/\a0.bG=S.bG/\a0.cc=S.cc/\
  (∀t,fA.T.get t=if o.dst=some t then a0.T.get t else(S.only p).T.get t)/\(∀t,o.dst≠some t->a0.T.get t=S.T.get t):=by
 have wJ:∀t∈looks l o,(S.only p).T.get t=S.T.get t:=fun t aJ=>by
  show(S.T.fF p).get t=_;rw[aW.Fa,ap t aJ];rfl
 have key:∀(X:aV) (v:Value) (bK:an),X.n=S.n->X.bG=S.bG->X.cc=S.cc->X.T=S.T->lz X o.dst v bK=some (.ok a0 H1)->
  ∃fA,lz (X.only p) o.dst v bK=some (.ok fA H1)/\fA.n=a0.n/\fA.ds=a0.ds/\fA.bG=a0.bG/\fA.bd=a0.bd/\fA.cc=a0.cc/\a0.n=S.n/\a0.bG=S.bG/\a0.cc=S.cc/\
  (∀t,fA.T.get t=if o.dst=some t then a0.T.get t else(S.only p).T.get t)/\(∀t,o.dst≠some t->a0.T.get t=S.T.get t):=by
  intro X v bK en fR Br Sa q;obtain⟨Ml,aK,aH⟩:=Y8 q;injection aH with aH bJ;subst aH;subst bJ
  obtain⟨fA,dU⟩:=aV.anQ p aK;obtain⟨a7,bc,cu,c9,cI,ee⟩:=aV.put_eq aK;obtain⟨bs,bM,cB,ep,fw,fi⟩:=aV.put_eq dU;refine⟨fA,Y9 dU,bs.trans a7.symm,bM.trans bc.symm,cB.trans cu.symm,ep.trans c9.symm,fw.trans cI.symm,a7.trans en,cu.trans fR,cI.trans Br,fun t=>?_,fun t aJ=>?_⟩
  ·rw[fi];by_cases al:o.dst=some t
   ·rw[a2 al,a2 al,ee,a2 al]
   ·rw[aZ al,aZ al];show(X.T.fF p).get t=(S.T.fF p).get t;rw[Sa]
  ·rw[ee,aZ aJ,Sa]
 unfold one at he ⊢;rw[rV wJ];cases ax:fa l S.T o with
 |none=>rw[ax] at he;cases he
 |some b=>
  rw[ax] at he;cases b with
  |false=>exact key S undef H rfl rfl rfl rfl he
  |true=>
   have he:np S H o.dst (cj P call aE S H o)=some (.ok a0 H1):=he;show ∃fA,np (S.only p) H o.dst (cj P call aE (S.only p) H o)=some (.ok fA H1)/\_;rw[E4 (S:=S) (aC:=S.only p) rfl (Hb wJ)];cases gF:cj P call aE S H o with
   |none=>rw[gF] at he;cases he
   |some r=>
    rw[gF] at he;cases r with
    |val v bK=>exact key S v bK rfl rfl rfl rfl he
    |skip bK=>exact key S undef bK rfl rfl rfl rfl he
    |fO c bK=>have he:some (dd.fO c S bK)=some (.ok a0 H1):=he;injection he with he;cases he
    |gk d=>
     have he:yR S H o.dst d=some (.ok a0 H1):=he;show ∃fA,yR (S.only p) H o.dst d=some (.ok fA H1)/\_;obtain⟨T,n,fx,bG,bd,cc⟩:=S;cases cc with
     |some l=>cases he
     |none=>exact key (aV.DP d ⟨T,n,fx,bG,bd,none⟩) undef H rfl rfl rfl rfl he
    |y0=>
     have he:Dt S H o.dst (pC S)=some (.ok a0 H1):=he;show ∃fA,Dt (S.only p) H o.dst (pC (S.only p))=some (.ok fA H1)/\_;have aq:pC (S.only p)=pC S:=rfl;rw[aq];cases nZ:pC S with
     |none=>rw[nZ] at he;cases he
     |some q=>
      obtain⟨v,bd⟩:=q;rw[nZ] at he;obtain⟨T,n,fx,bG,HA,cc⟩:=S;exact key (aV.xG bd ⟨T,n,fx,bG,HA,cc⟩) v H rfl rfl rfl rfl he
theorem amE{l:List Oper}{p:Nat->Bool}{c:List PanicEntry}(ap:∀t∈looks l o,p t=true)(he:one P call aE l S H o=some (.fO c a0 H1)):
 a0=S/\one P call aE l (S.only p) H o=some (.fO c (S.only p) H1):=by
 have wJ:∀t∈looks l o,(S.only p).T.get t=S.T.get t:=fun t aJ=>by
  show(S.T.fF p).get t=_;rw[aW.Fa,ap t aJ];rfl
 have no:∀{X:aV} {v:Value} {bK:an},lz X o.dst v bK=some (.fO c a0 H1)->False:=fun q=>by
  obtain⟨Ml,_,aH⟩:=Y8 q;cases aH
 unfold one at he ⊢;rw[rV wJ];cases ax:fa l S.T o with
 |none=>rw[ax] at he;cases he
 |some b=>
  rw[ax] at he;cases b with
  |false=>exact(no he).elim
  |true=>
   have he:np S H o.dst (cj P call aE S H o)=some (.fO c a0 H1):=he;show _/\np (S.only p) H o.dst (cj P call aE (S.only p) H o)=_;rw[E4 (S:=S) (aC:=S.only p) rfl (Hb wJ)];cases gF:cj P call aE S H o with
   |none=>rw[gF] at he;cases he
   |some r=>
    rw[gF] at he;cases r with
    |val v bK=>exact(no he).elim
    |skip bK=>exact(no he).elim
    |fO bN bK=>
     have he:some (dd.fO bN S bK)=some (.fO c a0 H1):=he;injection he with he;injection he with ab ad aL
     subst ab;subst ad;subst aL;exact⟨rfl,rfl⟩
    |gk d=>
     have he:yR S H o.dst d=some (.fO c a0 H1):=he;obtain⟨T,n,fx,bG,bd,cc⟩:=S;cases cc with
     |some l=>cases he
     |none=>exact(no he).elim
    |y0=>
     have he:Dt S H o.dst (pC S)=some (.fO c a0 H1):=he;cases nZ:pC S with
     |none=>rw[nZ] at he;cases he
     |some q=>
      obtain⟨v,bd⟩:=q;rw[nZ] at he;exact(no he).elim
theorem Qk(hs:uu ops.toList bk)(av:Inv P B w0 call aE ops.toList bk c3 ji H0 iq fr jE C K G S H μ w tmps ds cs D A)(ah:ops[i]?=some o)(pe:∀j,(Oper.ib o).testBit j=true->D j=true):
 ∀t∈looks ops.toList o,free ops.toList C D t=true:=fun t aJ=>yf.2 fun⟨j,dW,a,b,c,d⟩=>by
 rcases hs.look j i dW o t c (by simpa using ah) d aJ with q|⟨q,_⟩
 ·have:=pe j q;rw[b] at this;cases this
 ·have hk:K.testBit j=false:=by
   cases hk:K.testBit j with
   |false=>rfl
   |true=>have:=av.k j hk;rw[b] at this;cases this
  have:=(av.qW j dW a hk c).1;rw[q] at this;cases this
def mU(D:Nat->Bool)(i:Nat):Nat->Bool:=fun j=>if j=i then true else D j
theorem sJ{j:Nat}:mU D i j=true↔D j=true\/j=i:=by unfold mU;by_cases h:j=i<;>simp[h]
theorem BA{j:Nat}(h:mU D i j=false):D j=false/\j≠i:=by
 unfold mU at h;by_cases e:j=i
 ·rw[a2 e] at h;cases h
 ·rw[aZ e] at h;exact⟨h,e⟩
theorem agt{t:Nat}(al:free ops.toList C (mU D i) t=true)(ah:ops[i]?=some o):free ops.toList C D t=true\/o.dst=some t:=by
 by_cases h:Q7 ops.toList C D t
 ·obtain⟨j,dW,a,b,c,d⟩:=h;by_cases q7:j=i
  ·subst q7;have:ops.toList[j]?=some o:=by simpa using ah
   rw[this] at c;injection c with c;subst c;exact .inr d
  ·exfalso;refine yf.1 al ⟨j,dW,a,?_,c,d⟩;unfold mU;rw[aZ q7];exact b
 ·exact .inl (yf.2 h)
theorem aol(gR:oQ P B w0 call)(mL:vN P B w0 aE)(hs:uu ops.toList bk)(av:Inv P B w0 call aE ops.toList bk c3 ji H0 iq fr jE C K G S H μ w tmps ds cs D A)
 (wB:∀j,C.testBit j=true->K.testBit j=true\/G.testBit j=true)(gP:C.testBit i=true)(cK:D i=false)(ah:ops[i]?=some o)(pe:∀j,(Oper.ib o).testBit j=true->D j=true):
 ∃bf a5 gB eL cy,Steps P (lone (bH fr tmps ds (.inRegion ops (i::rest)::k)) cs w) (lone (bH fr gB eL (.inRegion ops rest::k)) cy a5)/\
  Inv P B w0 call aE ops.toList bk c3 ji H0 iq fr jE C K G S H bf a5 gB eL cy (mU D i) A:=by
 have ia:ops.toList[i]?=some o:=by simpa using ah
 have OI:=Qk hs av ah pe;have hk:K.testBit i=false:=by
  cases hk:K.testBit i with
  |false=>rfl
  |true=>have:=av.k i hk;rw[cK] at this;cases this
 have aho:G.testBit i=true:=by
  rcases wB i gP with q|q
  ·rw[hk] at q;cases q
  ·exact q
 obtain⟨ate,b,ax⟩:=av.qW i o gP hk ia;have wJ:∀t∈looks ops.toList o,(S.only (free ops.toList C D)).T.get t=S.T.get t:=fun t aJ=>by
  show(S.T.fF _).get t=_;rw[aW.Fa,OI t aJ];rfl
 --LA stays
 have fin:∀(bf:bL) (a5:World) (gB:Array Value) (eL:List Deferred) (cy:List Frame) (o1:aV) (v:Value),bX P B w0 bf H a5->Step ji bf H0 H->jz iq.bG jE cy->
  (S.only (free ops.toList C D)).put o.dst v=some o1->(∀t,o.dst=some t->S.T.get t=some v)->hJ P bf o1 fr gB eL cy->
  (∀(j:Nat) dW,C.testBit j=true->D j=false->j≠i->c3.testBit j=true->ops.toList[j]?=some dW->fa ops.toList S.T dW=some true->μ (A j)=none->A j<H.ay->bf (A j)=none)->
  Inv P B w0 call aE ops.toList bk c3 ji H0 iq fr jE C K G S H bf a5 gB eL cy (mU D i) A:=by
  intro bf a5 gB eL cy o1 v gO dn hZ mJ ar OF Pk;obtain⟨bs,bM,cB,ep,fw,fi⟩:=aV.put_eq mJ;refine⟨gO,?_,dn,hZ,av.bG,av.cc,fun j aY=>?_,av.Ew,fun j dW m aY eU hm=>?_,av.B6,fun j aY=>sJ.2 (.inl (av.k j aY)),fun j dW aY uU eU=>?_,?_⟩
  ·refine OF.conv bs.symm bM.symm cB.symm ep.symm fw.symm fun t u q=>?_;obtain⟨aK,aH⟩:=vj.1 q;rw[fi];by_cases al:o.dst=some t
   ·rw[a2 al];rw[ar t al] at aH;exact aH
   ·rw[aZ al];rcases agt aK ah with r|r
    ·exact vj.2 ⟨r,aH⟩
    ·exact absurd r al
  ·rcases sJ.1 aY with q|rfl
   ·exact av.sub j q
   ·exact gP
  ·rcases sJ.1 aY with q|rfl
   ·exact sJ.2 (.inl (av.down j dW m q eU hm))
   ·rw[ia] at eU;injection eU with eU;subst eU
    exact sJ.2 (.inl (pe m hm))
  ·obtain⟨bY,BV,bZ⟩:=av.qW j dW aY uU eU;refine⟨bY,BV,bZ.move rfl rfl (fun _ _=>rfl) (fun _ _=>rfl) (fun _ h=>⟨h,rfl⟩) rfl fun ai aF Ff=>?_⟩;obtain⟨d1,d2⟩:=BA Ff;refine⟨d1,fun fS _ ⟨aw,aR,cf,dK,cr⟩=>⟨?_,aR,cf,dK,cr⟩⟩;exact Pk j dW aY d1 d2 aF eU (ai▸bZ.g) aw dK
  ·intro x y er hp U au z2 uO z7 z8 p6 pd r2 q6 ew;exact av.inj x y er hp U au (BA z2).1 (BA uO).1 z7 z8 p6 pd r2 q6 ew
 --by AQ,where nothing is made
 have n9:∀v,one P call aE ops.toList (S.only (free ops.toList C D)) H o=lz (S.only (free ops.toList C D)) o.dst v H->(∀t,o.dst=some t->S.T.get t=some v)->
  ∃bf a5 gB eL cy,Steps P (lone (bH fr tmps ds (.inRegion ops (i::rest)::k)) cs w) (lone (bH fr gB eL (.inRegion ops rest::k)) cy a5)/\
  Inv P B w0 call aE ops.toList bk c3 ji H0 iq fr jE C K G S H bf a5 gB eL cy (mU D i) A:=by
  intro v mI ar;obtain⟨o1,mJ⟩:=aV.DD (S:=S) (p:=free ops.toList C D) ax.lt v;rw[Y9 mJ] at mI;obtain⟨bf,a5,gB,eL,cy,bY,bZ,cz,fu,fM,gN,gp⟩:=AQ (k:=k) (rest:=rest) gR mL av.h av.f ah mI;refine⟨bf,a5,gB,eL,cy,gp,fin bf a5 gB eL cy o1 v bY (av.iC.trans bZ) (av.zL.trans ?_) mJ ar cz fun j dW _ _ _ _ _ _ hm b9=>(bZ.fF _ b9 hm).1⟩;have:(S.only (free ops.toList C D)).bG=iq.bG:=av.bG;rw[<-this];exact fu
 have wG:fa ops.toList (S.only (free ops.toList C D)).T o=some b:=by rw[rV wJ];exact ax.g
 cases b with
 |false=>
  refine n9 undef ?_ (ax.no rfl);unfold one;rw[wG];rfl
 |true=>
  cases aF:c3.testBit i with
  |false=>
   obtain⟨v,aw,aR⟩:=ax.val rfl aF aho;refine n9 v ?_ aR;unfold one;rw[wG];show np _ H o.dst (cj P call aE (S.only (free ops.toList C D)) H o)=_;rw[E4 (S:=S) (aC:=S.only (free ops.toList C D)) rfl (Hb wJ),aw];rfl
  |true=>
   obtain⟨fS,ei,aw,aR,cf⟩:=ax.ir rfl aF;obtain⟨cL,eA,lU,sj,vc⟩:=cf cK;have wa:m2 P (S.only (free ops.toList C D)).T o.op=some (fS,ei):=by rw[Mw wJ];exact aw
   obtain⟨jd,N,sz,cX,cW,eR,hH⟩:=acD av.f.t wa w;have hw:=U1 av.f.t wG;have dP:fr.roundOf=none\/∀c,o.op≠.defer c:=.inr fun c q=>by rw[q] at aw;cases aw
   obtain⟨aiz,kf⟩:=av.h.fill (L:=⟨w.heap.size,N,sz⟩) cL sj eA vc rfl cW;have aj1:bg (μ.put (A i) ⟨w.heap.size,N,sz⟩) (ei.at (A i)) (ei.at w.heap.size):=iE.rel hH (L:=⟨w.heap.size,N,sz⟩) (bL.jP _ _ _);obtain⟨o1,mJ⟩:=aV.DD (S:=S) (p:=free ops.toList C D) ax.lt (ei.at (A i));obtain⟨f1,_⟩:=Rb (av.f.mono kf) aj1 mJ;refine⟨_,_,_,_,_,.one (RF ah hw dP cX),fin _ _ _ _ _ o1 (ei.at (A i)) aiz ?_ av.zL mJ aR f1 ?_⟩
   ·refine⟨av.iC.ext.trans kf,av.iC.ay,av.iC.bz,fun id uT hm=>?_⟩;obtain⟨a,b⟩:=av.iC.fF id uT hm;refine⟨?_,b⟩;rw[bL.tO _ _ (by omega)];exact a
   ·intro j dW aY Ff q7 z6 eU OQ hm b9;rw[bL.tO _ _ ?_]
    ·exact hm
    ·intro q;exact q7 (av.inj j i dW o aY gP Ff cK z6 aF eU ia OQ ax.g q)
theorem aok{c:List PanicEntry}(gR:oQ P B w0 call)(mL:vN P B w0 aE)(hs:uu ops.toList bk)(av:Inv P B w0 call aE ops.toList bk c3 ji H0 iq fr jE C K G S H μ w tmps ds cs D A)
 (ah:ops[i]?=some o)(pe:∀j,(Oper.ib o).testBit j=true->D j=true)(mI:one P call aE ops.toList S H o=some (.fO c a0 H1)){todo:List Item}:
 kq P B w0 ji H0 iq fr jE (lone (bH fr tmps ds (.inRegion ops (i::rest)::k)) cs w) todo (.fO c (a0.gone (vg ops.toList)) H1):=by
 obtain⟨rfl,t1⟩:=amE (Qk hs av ah pe) mI;obtain⟨bf,a5,gB,eL,cy,c',jM,bY,bZ,cz,fu,fM,gN,gp,ov⟩:=AQ (k:=k) (rest:=rest) gR mL av.h av.f ah t1;refine⟨bf,a5,gB,eL,cy,c',jM,bY,av.iC.trans bZ,⟨⟨df _,fun t v q=>cz.t.2 t v ?_⟩,cz.d,cz.kind,cz.tR,cz.y2,cz.bd,cz.fn⟩,av.zL.trans (by have:(a0.only (free ops.toList C D)).bG=iq.bG:=av.bG;rw[<-this];exact fu),av.bG,av.cc,gp,ov⟩;obtain⟨aK,aH⟩:=(vj (S:=a0) (p:=vg ops.toList)).1 q;refine vj.2 ⟨yf.2 fun⟨j,dW,_,_,b,d⟩=>?_,aH⟩;have:=rF.1 aK dW (gh b);rw[d] at this;simp at this
theorem aoj(gR:oQ P B w0 call)(mL:vN P B w0 aE)(hs:uu ops.toList bk)(av:Inv P B w0 call aE ops.toList bk c3 ji H0 iq fr jE C K G S H μ w tmps ds cs D A)
 (gP:C.testBit i=false)(ah:ops[i]?=some o)(pe:∀j,(Oper.ib o).testBit j=true->D j=true)(mI:one P call aE ops.toList S H o=some (.ok a0 H1))
 {vE:Nat}(U5:vE=uC ops.toList ops.toList.length (Nat.lor K (Nat.pow 2 i)))(ahv:∀j,(Oper.ib o).testBit j=true->vE.testBit j=true)(ahu:vE.testBit i=true):
 ∃bf a5 gB eL cy,Steps P (lone (bH fr tmps ds (.inRegion ops (i::rest)::k)) cs w) (lone (bH fr gB eL (.inRegion ops rest::k)) cy a5)/\
  Inv P B w0 call aE ops.toList bk c3 ji H0 iq fr jE (Nat.lor C (Nat.pow 2 i)) vE (Nat.land G c3) a0 H1 bf a5 gB eL cy (mU D i) A:=by
 have ia:ops.toList[i]?=some o:=by simpa using ah
 have OI:=Qk hs av ah pe;have Cq:D i=false:=by
  cases al:D i with
  |false=>rfl
  |true=>have:=av.sub i al;rw[gP] at this;cases this
 obtain⟨fA,t1,t2,t3,t4,t5,t6,t7,t8,t9,t10,t11⟩:=amD OI mI;obtain⟨bf,a5,gB,eL,cy,bY,bZ,cz,fu,fM,gN,gp⟩:=AQ (k:=k) (rest:=rest) gR mL av.h av.f ah t1;have VD:∀(j:Nat) dW m,mU D i j=true->ops.toList[j]?=some dW->(Oper.ib dW).testBit m=true->mU D i m=true:=fun j dW m aY eU hm=>by
  rcases sJ.1 aY with q|rfl
  ·exact sJ.2 (.inl (av.down j dW m q eU hm))
  ·rw[ia] at eU;injection eU with eU;subst eU
   exact sJ.2 (.inl (pe m hm))
 have U6:∀j,vE.testBit j=true->mU D i j=true:=fun j aY=>by
  rw[U5] at aY;refine ad4 (D:=mU D i) VD (fun m hm=>?_) j aY;rcases k8.1 hm with q|rfl
  ·exact sJ.2 (.inl (av.k m q))
  ·exact sJ.2 (.inr rfl)
 have Pj:∀{j:Nat},(Nat.lor C (Nat.pow 2 i)).testBit j=true->j≠i->C.testBit j=true:=fun{j} aY dQ=>by
  rcases k8.1 aY with q|q
  ·exact q
  ·exact absurd q.symm dQ
 --auN ap6 TE not auL done asC look at LA is written now
 have q2:∀{j:Nat} {dW:Oper},C.testBit j=true->vE.testBit j=false->ops.toList[j]?=some dW->∀t∈looks ops.toList dW,a0.T.get t=S.T.get t:=fun{j dW} aY uU eU t aJ=>by
  refine t11 t fun al=>?_;rcases hs.look i j o dW t ia eU al aJ with q|⟨_,q|q⟩
  ·have:=av.B6 j dW i aY eU q;rw[gP] at this;cases this
  ·subst q;rw[gP] at aY;cases aY
  ·rw[ahv j q] at uU;cases uU
 have asZ:∀{j:Nat},vE.testBit j=false->j≠i->D j=false->K.testBit j=false:=fun{j} _ _ al=>by
  cases hk:K.testBit j with
  |false=>rfl
  |true=>have:=av.k j hk;rw[al] at this;cases this
 have V3:∀{j:Nat},mU D i j=false->vE.testBit j=false:=fun{j} al=>by
  cases hk:vE.testBit j with
  |false=>rfl
  |true=>have:=U6 j hk;rw[al] at this;cases this
 refine⟨bf,a5,gB,eL,cy,gp,⟨bY,?_,av.iC.trans bZ,av.zL.trans ?_,t8.trans av.bG,t9.trans av.cc,fun j aY=>?_,fun j aY=>?_,VD,fun j dW m aY eU hm=>?_,U6,fun j dW aY uU eU=>?_,?_⟩⟩
 ·refine cz.conv t2.symm t3.symm t4.symm t5.symm t6.symm fun t u q=>?_;obtain⟨aK,aH⟩:=vj.1 q;rw[t10];by_cases al:o.dst=some t
  ·rw[a2 al];exact aH
  ·rw[aZ al];rw[t11 t al] at aH;refine vj.2 ⟨?_,aH⟩;rw[yf] at aK ⊢;intro⟨j,dW,a,b,c,d⟩;refine aK ⟨j,dW,k8.2 (.inl a),?_,c,d⟩;unfold mU;rw[aZ (fun e=>by subst e;rw[gP] at a;cases a)];exact b
 ·have:(S.only (free ops.toList C D)).bG=iq.bG:=av.bG;rw[<-this];exact fu
 ·rcases sJ.1 aY with q|rfl
  ·exact k8.2 (.inl (av.sub j q))
  ·exact k8.2 (.inr rfl)
 ·rcases k8.1 aY with q|rfl
  ·exact av.Ew j q
  ·exact⟨o,ia⟩
 ·rcases k8.1 aY with q|rfl
  ·exact k8.2 (.inl (av.B6 j dW m q eU hm))
  ·rw[ia] at eU;injection eU with eU;subst eU
   exact k8.2 (.inl (av.sub m (pe m hm)))
 ·have q7:j≠i:=fun e=>by subst e;rw[ahu] at uU;cases uU
  have VQ:=Pj aY q7;cases hk:K.testBit j with
  |true=>
   exfalso;have ln:∀{n D1:Nat},D1.testBit j=true->(uC ops.toList n D1).testBit j=true:=by
    intro n;induction n with
    |zero=>intro D1 h;exact h
    |succ n aP=>
     intro D1 h;simp only[uC];refine aP ?_;cases ai:D1.testBit n with
     |false=>exact h
     |true=>
      rw[b4];cases nth ops.toList n with
      |none=>exact h
      |some o=>simp only;rw[y9,h];rfl
   rw[U5,ln (k8.2 (.inl hk))] at uU;cases uU
  |false=>
   obtain⟨bp,BV,bN⟩:=av.qW j dW VQ hk eU;refine⟨bp,BV,bN.move t7 t9 (q2 VQ uU eU) (fun t aJ=>t11 t fun al=>hs.dst i j o dW t ia eU (Ne.symm q7) al aJ) (fun aF cg=>?_) rfl fun ai aF Ff=>?_⟩
   ·rw[Lm,aF] at cg;simp at cg
   ·obtain⟨d1,d2⟩:=BA Ff;refine⟨d1,fun fS eg ⟨aw,aR,cf,dK,cr⟩=>?_⟩;obtain⟨dI,dB⟩:=bZ.fF _ dK aw;exact⟨dI,by rw[bZ.bz];exact aR,cf,hA dK bZ.ay,by rw[dB (by rw[cr];exact eg)];exact cr⟩
 ·intro x y er hp U au z2 uO z7 z8 p6 pd r2 q6 ew;obtain⟨d1,d2⟩:=BA z2;obtain⟨d3,d4⟩:=BA uO;have WB:=Pj U d2;have WC:=Pj au d4;rw[rV (q2 WB (V3 z2) p6)] at r2;rw[rV (q2 WC (V3 uO) pd)] at q6;exact av.inj x y er hp WB WC d1 d3 z7 z8 p6 pd r2 q6 ew
end
end
end Go.Cre

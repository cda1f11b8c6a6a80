/- A part of the proof of TableRounds. -/
import Derived.Test.YtfdhclnfkafebaaGreatDoorCah
set_option linter.unusedVariables false
set_option linter.unusedSimpArgs false
namespace Go.Cre
noncomputable section
open Go.RowKit
theorem zq(a b i:Nat):Nat.testBit (Nat.lor a b) i=(a.testBit i||b.testBit i):=Nat.testBit_or a b i
theorem LK(a b i:Nat):Nat.testBit (Nat.land a b) i=(a.testBit i&&b.testBit i):=Nat.testBit_and a b i
theorem LL(i j:Nat):Nat.testBit (Nat.pow 2 i) j=decide (i=j):=Nat.testBit_two_pow (n:=i) (m:=j)
theorem lK{C i j:Nat}:Nat.testBit (Nat.lor C (Nat.pow 2 i)) j=true↔Nat.testBit C j=true\/i=j:=by
 rw[zq,LL];simp
theorem RS{a b:Nat}(h:sub a b=true){i:Nat}(ar:a.testBit i=true):b.testBit i=true:=by
 have h:=eC h;rw[<-h,LK] at ar;simp at ar;exact ar.2
theorem UE{l:List Edge}{i:Nat}:(Ct l).testBit i=true↔∃e∈l,Region.binds .any e=true/\e.on=i:=by
 induction l with
 |nil=>simp[Ct]
 |cons e l aZ=>
  simp only[Ct];cases ak:Region.binds .any e with
  |false=>simp[aZ,ak]
  |true=>rw[cv,zq,LL];simp[aZ,ak]
theorem akW{l:List Nat}{i:Nat}:(A' l).testBit i=true↔i∈l:=by
 induction l with
 |nil=>simp[A']
 |cons e l aZ=>
  simp only[A'];rw[zq,LL,x6,aZ,gb,decide_eq_true_iff];exact⟨fun q=>q.imp Eq.symm id,fun q=>q.imp Eq.symm id⟩
theorem ajW{C:Nat}:∀{n:Nat},KB C n=true->∀i,i<n->C.testBit i=true:=by
 intro n;induction n with
 |zero=>intro _ i ar;omega
 |succ n aZ=>
  intro h i ar;simp only[KB,gI] at h;by_cases e:i=n
  ·subst e;exact h.1
  ·exact aZ h.2 i (by omega)
theorem alV{C i:Nat}:∀{l:List Oper} {k:Nat},only C i l k=true->∀j o,l[j]?=some o->C.testBit (k+j)=true\/k+j=i\/sub (Oper.jb o) C=false:=by
 intro l;induction l with
 |nil=>intro k _ j o h;simp at h
 |cons a l aZ=>
  intro k h j o aj;simp only[only,gI,x6,s7] at h;cases j with
  |zero=>
   simp at aj;subst aj;rcases h.1 with(q|q)|q
   ·exact .inl q
   ·exact .inr (.inl (eC q))
   ·exact .inr (.inr q)
  |succ j=>
   have:=aZ h.2 j o (by simpa using aj);have e:k+1+j=k+(j+1):=by omega
   rw[e] at this;exact this
theorem acb{ct dp C:Nat}:∀{l:List Nat},Ja ct dp C l=true->∀i∈l,C.testBit i=true/\dp.testBit i=false:=by
 intro l;induction l with
 |nil=>intro _ i ar;simp at ar
 |cons a l aZ=>
  intro h i ar;simp only[Ja,gI,s7] at h;rcases gb.1 ar with rfl|ar
  ·exact h.1
  ·exact aZ h.2 i ar
theorem adS{ops:List Oper}{D:Nat->Bool}(aq:∀i o j,D i=true->ops[i]?=some o->(Oper.jb o).testBit j=true->D j=true):∀{n K:Nat},(∀i,K.testBit i=true->D i=true)->∀i,(uS ops n K).testBit i=true->D i=true:=by
 intro n;induction n with
 |zero=>intro K h i ar;exact h i ar
 |succ n aZ=>
  intro K h i ar;simp only[uS] at ar;refine aZ (fun j bf=>?_) i ar;cases ak:K.testBit n with
  |false=>rw[ak] at bf;exact h j bf
  |true=>
   rw[ak,cv] at bf;rw[lH] at bf;cases aj:ops[n]? with
   |none=>rw[aj] at bf;exact h j bf
   |some o=>
    rw[aj] at bf;simp only at bf;rw[zq] at bf;simp only[x6] at bf;rcases bf with q|q
    ·exact h j q
    ·exact aq n o j (h n ak) aj q
theorem acf{l:List Oper}:∀{k j:Nat} {o:Oper},l[j]?=some o->yZ o.op=true->(yj l k).testBit (k+j)=true:=by
 induction l with
 |nil=>intro k j o h;simp at h
 |cons a l aZ=>
  intro k j o aj aI;simp only[yj];rw[zq];cases j with
  |zero=>simp at aj;subst aj;rw[aI,cv,LL];simp
  |succ j=>
   have:=aZ (k:=k+1) (by simpa using aj) aI;have e:k+1+j=k+(j+1):=by omega
   rw[e] at this;rw[this];simp
structure wb (ops:List Oper) (ct:Nat):Prop where
 dst:∀(i j:Nat) a b d,ops[i]?=some a->ops[j]?=some b->i≠j->a.dst=some d->b.dst≠some d
 look:∀(i j:Nat) a b d,ops[i]?=some a->ops[j]?=some b->a.dst=some d->d∈looks ops b->(Oper.jb b).testBit i=true\/(ct.testBit i=true/\(i=j\/(Oper.jb a).testBit j=true))
 down:∀(i:Nat) a j,ops[i]?=some a->(Oper.jb a).testBit j=true->j<i
 bR:∀(i:Nat) a,ops[i]?=some a->ct.testBit i=false->Ds a.op=false
theorem amy{ops:List Oper}{ct i:Nat}{a:Oper}:∀{l:List Oper} {k:Nat},Ll ops ct i a l k=true->∀j b,l[j]?=some b->DW ops ct i (k+j) a b=true:=by
 intro l;induction l with
 |nil=>intro k _ j b h;simp at h
 |cons c l aZ=>
  intro k h j b ak;simp only[Ll,gI] at h;cases j with
  |zero=>simp at ak;subst ak;exact h.1
  |succ j=>
   have:=aZ h.2 j b (by simpa using ak);have e:k+1+j=k+(j+1):=by omega
   rw[e] at this;exact this
theorem Rj{ops:List Oper}{ct:Nat}:∀{l:List Oper} {k:Nat},HJ ops ct l k=true->∀i a,l[i]?=some a->
 (∀j b,ops[j]?=some b->DW ops ct (k+i) j a b=true)/\(Oper.jb a)<2 ^ (k+i)/\(ct.testBit (k+i)=true\/Ds a.op=false):=by
 intro l;induction l with
 |nil=>intro k _ i a h;simp at h
 |cons c l aZ=>
  intro k h i a aI;simp only[HJ,gI,x6,s7] at h;cases i with
  |zero=>
   simp at aI;subst aI;refine⟨fun j b ak=>?_,hZ h.1.1.2,h.1.2⟩;have:=amy h.1.1.1 j b ak;simpa using this
  |succ i=>
   have:=aZ h.2 i a (by simpa using aI);have e:k+1+i=k+(i+1):=by omega
   rw[e] at this;exact this
theorem an'{ops:List Oper}{ct:Nat}(h:HJ ops ct ops 0=true):wb ops ct:=by
 have ap:∀(i j:Nat) a b,ops[i]?=some a->ops[j]?=some b->DW ops ct i j a b=true:=fun i j a b aI ak=>by
  have:=(Rj h i a aI).1 j b ak;simpa using this
 refine⟨fun i j a b d aI ak aih aq At=>?_,fun i j a b d aI ak aq aD=>?_,fun i a j aI bf=>?_,fun i a aI aJ=>?_⟩
 ·have:=ap i j a b aI ak;simp only[DW,gI,x6,s7] at this;rcases this.1 with q|q
  ·exact aih (eC q)
  ·simp[Zo,aq,At] at q
 ·have:=ap i j a b aI ak;simp only[DW,gI,x6,s7] at this;rcases this.2 with(q|q)|q
  ·exfalso;simp only[Qv,aq] at q;rw[List.any_eq_false] at q;exact q d aD (by simp)
  ·exact .inl q
  ·exact .inr ⟨q.1,q.2.imp (fun x=>eC x) id⟩
 ·have af:=(Rj h i a aI).2.1;rw[j7] at af;rcases iK j i with q|q
  ·exact q
  ·have aV:(Oper.jb a)<2 ^ j:=iJ af (my (by omega) q);rw[Nat.testBit_lt_two_pow aV] at bf;cases bf
 ·have af:=(Rj h i a aI).2.2;rw[j7] at af;rcases af with q|q
  ·rw[q] at aJ;cases aJ
  ·exact q
theorem TM{P:Program}{T:a4 Value}{op:Op}{b:fs}{eJ:jg}(he:nm P T op=some (b,eJ)):kw (some b)=false:=by
 have box:∀{elem v},zW elem v=some (b,eJ)->kw (some b)=false:=fun{elem v} q=>by
  unfold zW at q;cases aj:v.cells.toList.all ff with
  |false=>rw[aj] at q;cases q
  |true=>rw[aj,cv] at q;simp only[cD,dK] at q;obtain⟨rfl,rfl⟩:=q;rfl
 have fin:∀{c:Bool} {cells:List Value} {elem:TypeId} {k:jg},(bif c then some (fs.row cells elem false 0 0 false,k) else none)=some (b,eJ)->kw (some b)=false:=fun{c cells elem k} q=>by
  cases c with
  |false=>cases q
  |true=>simp only[cv,cD,dK] at q;obtain⟨rfl,rfl⟩:=q;rfl
 cases op<;>simp only[nm] at he
 case alloc elem=>
  split at he
  ·rename_i z _;cases ap:plain z with
   |false=>rw[ap] at he;cases he
   |true=>rw[ap,cv] at he;exact box he
  ·cases he
 case box elem x=>
  split at he
  ·exact box he
  ·cases he
 case buildSlice t len ps=>
  split at he
  ·unfold EP at he;split at he
   ·split at he
    ·rename_i sz z _ _;cases aJ:(Nat.ble len 100000&&Nat.ble (len*sz) 100000&&plain z&&Nat.beq z.cells.toList.length sz) with
     |false=>rw[aJ] at he;cases he
     |true=>
      rw[aJ,cv] at he;split at he
      ·exact fin he
      ·cases he
    ·cases he
   ·cases he
  ·cases he
 case makeMap t r=>
  cases r with
  |some r=>obtain⟨rfl,rfl,_⟩:=Xw (show GV P t r=some (b,eJ) from he);rfl
  |none=>simp only[cD,dK] at he;obtain⟨rfl,rfl⟩:=he;rfl
 case makeSlice t l c=>
  split at he
  ·unfold EQ at he;split at he
   ·split at he
    ·split at he
     ·exact fin he
     ·cases he
    ·cases he
   ·cases he
  ·cases he
 all_goals cases he
end
end Go.Cre
namespace Go.Cre
noncomputable section
open Go.RowKit
open Classical
def Rk(ops:List Oper)(C:Nat)(D:Nat->Bool)(t:Nat):Prop:=∃(i:Nat) (o:Oper),C.testBit i=true/\D i=false/\ops[i]?=some o/\o.dst=some t
def free (ops:List Oper)(C:Nat)(D:Nat->Bool)(t:Nat):Bool:=decide (¬Rk ops C D t)
theorem Ah{ops:List Oper}{C:Nat}{D:Nat->Bool}{t:Nat}:free ops C D t=true↔¬Rk ops C D t:=by unfold free;exact decide_eq_true_iff
structure Good (P:Program) (call:eZ) (aQ:hd) (ops:List Oper) (dp G:Nat) (aa9:Nat) (S:a5) (H:aw) (μ:b5) (D:Nat->Bool) (A:Nat->Nat) (i:Nat) (o:Oper) (b:Bool):Prop where
 g:gp ops S.T o=some b
 lt:∀t,o.dst=some t->t<S.n/\∃u,S.T.get t=some u
 no:b=false->∀t,o.dst=some t->S.T.get t=some undef
 val:b=true->dp.testBit i=false->G.testBit i=true->∃v,cL P call aQ S H o=some (.val v H)/\∀t,o.dst=some t->S.T.get t=some v
 ka:b=true->dp.testBit i=true->∃gf eJ,nm P S.T o.op=some (gf,eJ)/\(∀t,o.dst=some t->S.T.get t=some (eJ.at (A i)))/\
  (D i=false->μ (A i)=none/\H.bU<=A i/\aa9<=A i/\A i<H.aG/\H.mem.get (A i)=some gf)
structure Inv (P:Program) (B:Nat->Prop) (w0:World) (call:eZ) (aQ:hd) (ops:List Oper) (ct dp:Nat) (km:b5) (H0:aw) (jT:a5) (fr:Frame) (kH:List Frame)
 (C K G:Nat) (S:a5) (H:aw) (μ:b5) (w:World) (tmps:Array Value) (ds:List Deferred) (cs:List Frame) (D:Nat->Bool) (A:Nat->Nat):Prop where
 h:cd P B w0 μ H w
 f:ib μ (S.only (free ops C D)) fr tmps ds cs
 kB:Step km μ H0 H
 Cp:kn jT.cb kH cs
 cb:S.cb=jT.cb
 cP:S.cP=jT.cP
 sub:∀i,D i=true->C.testBit i=true
 EW:∀i,C.testBit i=true->∃o,ops[i]?=some o
 down:∀(i:Nat) o j,D i=true->ops[i]?=some o->(Oper.jb o).testBit j=true->D j=true
 Cr:∀(i:Nat) o j,C.testBit i=true->ops[i]?=some o->(Oper.jb o).testBit j=true->C.testBit j=true
 k:∀i,K.testBit i=true->D i=true
 Ai:∀(i:Nat) o,C.testBit i=true->K.testBit i=false->ops[i]?=some o->ct.testBit i=false/\∃b,Good P call aQ ops dp G H0.aG S H μ D A i o b
 inj:∀(i j:Nat) Rb er,C.testBit i=true->C.testBit j=true->D i=false->D j=false->dp.testBit i=true->dp.testBit j=true->ops[i]?=some Rb->ops[j]?=some er->
  gp ops S.T Rb=some true->gp ops S.T er=some true->A i=A j->i=j
section
variable {P:Program}{B:Nat->Prop}{w0 w:World}{μ km:b5}{H H0 H':aw}{S jT aP:a5}{fr:Frame}{tmps:Array Value}{ds:List Deferred}{cs kH:List Frame}{call:eZ}{aQ:hd}
variable {ops:List Oper}{ct dp C K G:Nat}{D:Nat->Bool}{A:Nat->Nat}{i:Nat}{o:Oper}
theorem a5.am1{dst:Option Tmp}{v:Value}(he:S.put dst v=some aP):∀t,dst=some t->t<aP.n/\∃u,aP.T.get t=some u:=fun t aS=>by
 have e:=a5.put_eq he;refine⟨?_,v,by rw[e.2.2.2.2.2,bj aS]⟩;subst aS;obtain⟨T,n,fQ,cb,bE,cP⟩:=S;have he:Bool.rec (motive:=fun _=>Option a5) none (a5.qG n fQ cb bE cP (a4.put v T t)) (Nat.ble (Nat.succ t) n)=some aP:=he;rw[e.1];show t<n;cases ak:Nat.ble (Nat.succ t) n with
 |false=>rw[ak] at he;cases he
 |true=>exact hZ ak
theorem ib.conv{bl gd:a5}(h:ib μ bl fr tmps ds cs)(aC:gd.n=bl.n)(aW:gd.ds=bl.ds)(cw:gd.cb=bl.cb)(ed:gd.bE=bl.bE)(cH:gd.cP=bl.cP)
 (aS:∀t v,gd.T.get t=some v->bl.T.get t=some v):ib μ gd fr tmps ds cs:=
 ⟨⟨by rw[aC];exact h.t.1,fun t v q=>h.t.2 t v (aS t v q)⟩,by rw[aW];exact h.d,by rw[cw];exact h.kind,fun q=>h.vL (cH▸q),fun l q=>h.Bx l (cH▸q),fun q=>by rw[ed];exact h.bE (cw▸q)⟩
theorem y8{p:Nat->Bool}{t:Nat}{v:Value}:(S.only p).T.get t=some v↔p t=true/\S.T.get t=some v:=by
 show(S.T.gE p).get t=some v↔_;rw[a4.N0];cases p t<;>simp
theorem Good.move{ow:Nat}{bw:b5}{SG:Nat->Bool}{pZ:Nat->Nat}{b:Bool}(aF:Good P call aQ ops dp G H0.aG S H μ D A i o b)(aE:aP.n=S.n)(av:aP.cP=S.cP)
 (aD:∀t∈looks ops o,aP.T.get t=S.T.get t)(aq:∀t,o.dst=some t->aP.T.get t=S.T.get t)
 (cp:dp.testBit i=false->ow.testBit i=true->G.testBit i=true/\H'=H)(eT:pZ i=A i)
 (Pu:b=true->dp.testBit i=true->SG i=false->D i=false/\(∀gf,kw (some gf)=false->μ (A i)=none/\H.bU<=A i/\H0.aG<=A i/\A i<H.aG/\H.mem.get (A i)=some gf->bw (A i)=none/\H'.bU<=A i/\H0.aG<=A i/\A i<H'.aG/\H'.mem.get (A i)=some gf)):
 Good P call aQ ops dp ow H0.aG aP H' bw SG pZ i o b:=by
 refine⟨by rw[tw aD];exact aF.g,fun t aS=>?_,fun ak t aS=>by rw[aq t aS];exact aF.no ak t aS,fun ak aI Oj=>?_,fun ak aI=>?_⟩
 ·obtain⟨a,b⟩:=aF.lt t aS;exact⟨by rw[aE];exact a,by rw[aq t aS];exact b⟩
 ·obtain⟨ck,rfl⟩:=cp aI Oj;obtain⟨v,aC,aW⟩:=aF.val ak aI ck;exact⟨v,by rw[Jy av (Lh aD)];exact aC,fun t aS=>by rw[aq t aS];exact aW t aS⟩
 ·obtain⟨gf,eJ,aC,aW,cw⟩:=aF.ka ak aI;refine⟨gf,eJ,by rw[MI aD];exact aC,fun t aS=>by rw[aq t aS,eT];exact aW t aS,fun cy=>?_⟩;obtain⟨aX,aU⟩:=Pu ak aI cy;rw[eT];exact aU gf (TM aC) (cw aX)
theorem quiet(ag:wb ops ct)(aH:Inv P B w0 call aQ ops ct dp km H0 jT fr kH C K G S H μ w tmps ds cs D A)(ar:C.testBit i=false)(aj:ops[i]?=some o)(aJ:ct.testBit i=false)
 {j:Nat}{er:Oper}(bf:C.testBit j=true\/j=i)(fe:ops[j]?=some er){t:Nat}(aS:t∈looks ops er):o.dst≠some t:=fun aq=>by
 rcases ag.look i j o er t aj fe aq aS with q|⟨q,_⟩
 ·rcases bf with bf|rfl
  ·have:=aH.Cr j er i bf fe q;rw[ar] at this;cases this
  ·have:=ag.down j er j fe q;omega
 ·rw[aJ] at q;cases q
theorem af4(h:fits ops C i=true)(aj:ops[i]?=some o):C.testBit i=false/\∀j,(Oper.jb o).testBit j=true->C.testBit j=true:=by
 unfold fits at h;rw[lH,aj] at h;simp only[gI,s7] at h;exact⟨h.1,fun j bf=>RS h.2 bf⟩
theorem af9(cy:D i=false)(aj:ops[i]?=some o){t:Nat}(h:free ops (Nat.lor C (Nat.pow 2 i)) D t=true):free ops C D t=true/\o.dst≠some t:=by
 rw[Ah] at h;refine⟨Ah.2 fun⟨j,er,a,b,c,d⟩=>h ⟨j,er,lK.2 (.inl a),b,c,d⟩,fun aq=>h ⟨i,o,lK.2 (.inr rfl),cy,aj,aq⟩⟩
theorem Qf(ag:wb ops ct)(aH:Inv P B w0 call aQ ops ct dp km H0 jT fr kH C K G S H μ w tmps ds cs D A)(aj:ops[i]?=some o)(aM:fits ops C i=true)(aJ:ct.testBit i=false)
 {v:Value}{b:Bool}{ow:Nat}{pZ:Nat->Nat}(ap:S.put o.dst v=some aP)(aF:gp ops S.T o=some b)(hA:b=false->v=undef)
 (fR:cd P B w0 μ H' w)(dR:Step km μ H0 H')(ly:H.aG<=H'.aG)(rc:H'.bU=H.bU)(w3:∀x,x<H.aG->H'.mem.get x=H.mem.get x)
 (eT:∀j,j≠i->pZ j=A j)(cp:∀j,j≠i->dp.testBit j=false->ow.testBit j=true->G.testBit j=true/\H'=H)
 (k1:b=true->dp.testBit i=false->ow.testBit i=true->cL P call aQ S H' o=some (.val v H'))
 (OH:b=true->dp.testBit i=true->pZ i=H.aG/\H'.aG=H.aG+1/\H0.aG<=H.aG/\∃gf eJ,nm P S.T o.op=some (gf,eJ)/\v=eJ.at H.aG/\H'.mem.get H.aG=some gf):
 Inv P B w0 call aQ ops ct dp km H0 jT fr kH (Nat.lor C (Nat.pow 2 i)) K ow aP H' μ w tmps ds cs D pZ:=by
 obtain⟨ar,hm⟩:=af4 aM aj;have CJ:D i=false:=by
  cases aq:D i with
  |false=>rfl
  |true=>have:=aH.sub i aq;rw[ar] at this;cases this
 obtain⟨dr,hC,oX,DV,xH,zb⟩:=a5.put_eq ap;have q9:∀{j:Nat} {er:Oper},(C.testBit j=true\/j=i)->ops[j]?=some er->∀t∈looks ops er,aP.T.get t=S.T.get t:=fun{j er} bf fe t aS=>by
  rw[zb,bd (quiet ag aH ar aj aJ bf fe aS)]
 refine⟨fR,?_,dR,aH.Cp,oX.trans aH.cb,xH.trans aH.cP,fun j bf=>lK.2 (.inl (aH.sub j bf)),fun j bf=>?_,aH.down,fun j er k bf fe hk=>?_,aH.k,fun j er bf hk fe=>?_,?_⟩
 ·refine aH.f.conv dr hC oX DV xH fun t u q=>?_;obtain⟨aX,aU⟩:=y8.1 q;obtain⟨dQ,ee⟩:=af9 CJ aj aX;rw[zb,bd ee] at aU;exact y8.2 ⟨dQ,aU⟩
 ·rcases lK.1 bf with q|rfl
  ·exact aH.EW j q
  ·exact⟨o,aj⟩
 ·rcases lK.1 bf with q|rfl
  ·exact lK.2 (.inl (aH.Cr j er k q fe hk))
  ·rw[aj] at fe;injection fe with fe;subst fe
   exact lK.2 (.inl (hm k hk))
 ·by_cases rf:j=i
  ·subst rf;rw[aj] at fe;injection fe with fe;subst fe
   refine⟨aJ,b,?_⟩;refine⟨by rw[tw (q9 (.inr rfl) aj)];exact aF,a5.am1 ap,fun ak t aS=>by rw[zb,bj aS,hA ak],fun ak aI Oj=>?_,fun ak aI=>?_⟩
   ·exact⟨v,by rw[Jy xH (Lh (q9 (.inr rfl) aj))];exact k1 ak aI Oj,fun t aS=>by rw[zb,bj aS]⟩
   ·obtain⟨bO,bA,cU,gf,eJ,dn,rfl,e6⟩:=OH ak aI;refine⟨gf,eJ,by rw[MI (q9 (.inr rfl) aj)];exact dn,fun t aS=>by rw[zb,bj aS,bO],fun _=>?_⟩;rw[bO];exact⟨aH.h.Yg,by rw[rc];exact aH.h.kI,cU,by omega,e6⟩
  ·have bf:C.testBit j=true:=by
    rcases lK.1 bf with q|q
    ·exact q
    ·exact absurd q.symm rf
   obtain⟨ck,Ch,ch⟩:=aH.Ai j er bf hk fe;refine⟨ck,Ch,ch.move dr xH (q9 (.inl bf) fe) (fun t aS=>?_) (cp j rf) (eT j rf) fun ak aI cy=>⟨cy,fun gf _ ⟨aC,aW,cw,ed,cH⟩=>⟨aC,by rw[rc];exact aW,cw,by omega,by rw[w3 _ ed];exact cH⟩⟩⟩;rw[zb,bd (fun q=>ag.dst i j o er t aj fe (Ne.symm rf) q aS)]
 ·have cA:∀(j:Nat) er,C.testBit j=true->D j=false->dp.testBit j=true->ops[j]?=some er->gp ops S.T er=some true->A j<H.aG:=fun j er bf cy aI fe O1=>by
   have hk:K.testBit j=false:=by
    cases hk:K.testBit j with
    |false=>rfl
    |true=>have:=aH.k j hk;rw[cy] at this;cases this
   obtain⟨_,Ch,ch⟩:=aH.Ai j er bf hk fe;have e:=ch.g;rw[O1] at e;injection e with e;subst e
   obtain⟨gf,eJ,_,_,q⟩:=ch.ka rfl aI;exact(q cy).2.2.2.1
  intro x y eN hI ab aB Ak u4 Aq Ar qq pw sq re eM;by_cases j0:x=i
  ·by_cases vr:y=i
   ·rw[j0,vr]
   ·exfalso;subst j0;rw[aj] at qq;injection qq with qq;subst qq
    rw[tw (q9 (.inr rfl) aj),aF] at sq;injection sq with sq;subst sq
    have aB:C.testBit y=true:=by
     rcases lK.1 aB with q|q
     ·exact q
     ·exact absurd q.symm vr
    rw[tw (q9 (.inl aB) pw)] at re;have:=cA y hI aB u4 Ar pw re;rw[(OH rfl Aq).1,eT y vr] at eM;omega
  ·have fT:C.testBit x=true:=by
    rcases lK.1 ab with q|q
    ·exact q
    ·exact absurd q.symm j0
   rw[tw (q9 (.inl fT) qq)] at sq;by_cases vr:y=i
   ·exfalso;subst vr;rw[aj] at pw;injection pw with pw;subst pw
    rw[tw (q9 (.inr rfl) aj),aF] at re;injection re with re;subst re
    have:=cA x eN fT Ak Aq qq sq;rw[(OH rfl Ar).1,eT x j0] at eM;omega
   ·have aB:C.testBit y=true:=by
     rcases lK.1 aB with q|q
     ·exact q
     ·exact absurd q.symm vr
    rw[tw (q9 (.inl aB) pw)] at re;rw[eT x j0,eT y vr] at eM;exact aH.inj x y eN hI fT aB Ak u4 Aq Ar qq pw sq re eM
theorem Step.new(dR:Step km μ H0 H){b:fs}{a:Nat}(aE:H.new b=some (a,H')):Step km μ H0 H':=by
 obtain⟨rfl,aC,aW,cw,ed,cH⟩:=aw.qC aE;refine⟨dR.ext,by have:=dR.aG;omega,by rw[ed];exact dR.bU,fun id ve hm=>?_⟩;obtain⟨a,b⟩:=dR.gE id ve hm;exact⟨a,fun aj=>by rw[cH,bd (by have:=dR.aG;omega)];exact b aj⟩
theorem Ui(ag:wb ops ct)(h2:∀(i:Nat) o,ops[i]?=some o->dp.testBit i=false->yZ o.op=false){b1:dI}:∀(a':List jP) (C G:Nat) (S:a5) (H:aw) (A:Nat->Nat),
 Inv P B w0 call aQ ops ct dp km H0 jT fr kH C K G S H μ w tmps ds cs D A->oo ops ct dp C K G a'=true->dU P call aQ ops a' S H=some b1->
 ∃rD vU ow aP H' pZ,Inv P B w0 call aQ ops ct dp km H0 jT fr kH vU K ow aP H' μ w tmps ds cs D pZ/\oo ops ct dp vU K ow rD=true/\dU P call aQ ops rD aP H'=some b1/\
  (rD=[]\/∃i rest,rD=.bR i::rest):=by
 intro a';induction a' with
 |nil=>intro C G S H A aH ap he;exact⟨[],C,G,S,H,A,aH,ap,he,.inl rfl⟩
 |cons s a' aZ=>
  intro C G S H A aH ap he;have he:Ut P call aQ ops (dU P call aQ ops a') S H s=some b1:=he;cases s with
  |bR i=>exact⟨.bR i::a',C,G,S,H,A,aH,ap,he,.inr ⟨i,a',rfl⟩⟩
  |b9 l=>
   simp only[oo,gI] at ap;have az:=acb ap.1;have he:(bif l.all (z4 P call aQ ops S H) then dU P call aQ ops a' S H else none)=some b1:=he;cases aD:l.all (z4 P call aQ ops S H) with
   |false=>rw[aD] at he;cases he
   |true=>
    rw[aD,cv] at he;rw[uE] at aD;refine aZ C (Nat.lor G (A' l)) S H A ?_ ap.2 he;refine⟨aH.h,aH.f,aH.kB,aH.Cp,aH.cb,aH.cP,aH.sub,aH.EW,aH.down,aH.Cr,aH.k,fun j er bf hk fe=>?_,aH.inj⟩;obtain⟨ck,b,ch⟩:=aH.Ai j er bf hk fe;refine⟨ck,b,ch.g,ch.lt,ch.no,fun ak aI cp=>?_,ch.ka⟩;rw[zq,x6,akW] at cp;rcases cp with cp|cp
    ·exact ch.val ak aI cp
    ·have aJ:=aD j cp;unfold z4 at aJ;rw[lH,fe] at aJ;simp only at aJ;rw[ch.g,ak] at aJ;have gY:M9 H.aG S.T er.dst (cL P call aQ S H er)=true:=aJ;cases ho:cL P call aQ S H er with
     |none=>rw[ho] at gY;cases gY
     |some r=>
      rw[ho] at gY;cases r with
      |val v cz=>
       have gY:(Nat.beq cz.aG H.aG&&(match er.dst with|none=>true|some d=>(match S.T.get d with|some u=>eD 8 v u|none=>false)))=true:=gY
       simp only[gI] at gY;have me:cz=H:=UQ (ag.bR j er fe ck) (h2 j er fe aI) ho (eC gY.1);refine⟨v,by rw[me],fun t aS=>?_⟩;have tD:(match er.dst with|none=>true|some d=>(match S.T.get d with|some u=>eD 8 v u|none=>false))=true:=gY.2
       rw[aS] at tD;simp only at tD;cases cB:S.T.get t with
       |none=>rw[cB] at tD;cases tD
       |some u=>rw[cB] at tD;rw[apZ tD]
      |skip _=>cases gY
      |hR _=>cases gY
      |jc _ _=>cases gY
      |Bu=>cases gY
  |val i=>
   simp only[oo,gI,s7] at ap;obtain⟨⟨⟨aM,aJ⟩,aI⟩,ap⟩:=ap;have he:Option.rec (motive:=fun _=>Option dI) none (mN P call aQ ops S H (dU P call aQ ops a')) (nth ops i)=some b1:=he;cases aj:nth ops i with
   |none=>rw[aj] at he;cases he
   |some o=>
    rw[aj] at he;rw[lH] at aj;have he:Option.rec (motive:=fun _=>Option dI) none (aaq P call aQ S H o (dU P call aQ ops a')) (gp ops S.T o)=some b1:=he;cases aF:gp ops S.T o with
    |none=>rw[aF] at he;cases he
    |some b=>
     rw[aF] at he
     have fin:∀v,(b=false->v=undef)->(b=true->cL P call aQ S H o=some (.val v H))->pR (dU P call aQ ops a') H (S.put o.dst v)=some b1->
      ∃rD vU ow aP H' pZ,Inv P B w0 call aQ ops ct dp km H0 jT fr kH vU K ow aP H' μ w tmps ds cs D pZ/\oo ops ct dp vU K ow rD=true/\dU P call aQ ops rD aP H'=some b1/\(rD=[]\/∃i rest,rD=.bR i::rest):=by
      intro v ad af q;cases m8:S.put o.dst v with
      |none=>rw[m8] at q;cases q
      |some aP=>
       rw[m8] at q;refine aZ _ _ aP H A (Qf ag aH aj aM aJ m8 aF ad aH.h aH.kB (bX _) rfl (fun _ _=>rfl) (fun _ _=>rfl) (fun j bf _ cp=>⟨?_,rfl⟩) (fun ak _ _=>af ak) (fun _ h=>by rw[aI] at h;cases h)) ap q;rcases lK.1 cp with q|q
       ·exact q
       ·exact absurd q.symm bf
     cases b with
     |false=>exact fin undef (fun _=>rfl) (fun h=>by cases h) he
     |true=>
      have he:D' S H o.dst (dU P call aQ ops a') (cL P call aQ S H o)=some b1:=he;cases ho:cL P call aQ S H o with
      |none=>rw[ho] at he;cases he
      |some r=>
       rw[ho] at he;cases r with
       |val v cz=>
        have he:(bif Nat.beq cz.aG H.aG then pR (dU P call aQ ops a') H (S.put o.dst v) else none)=some b1:=he;cases ly:Nat.beq cz.aG H.aG with
        |false=>rw[ly] at he;cases he
        |true=>
        rw[ly,cv] at he;have me:cz=H:=UQ (ag.bR i o aj aJ) (h2 i o aj aI) ho (eC ly);subst me;exact fin v (fun h=>by cases h) (fun _=>ho) he
       |skip _=>cases he
       |hR _=>cases he
       |jc _ _=>cases he
       |Bu=>cases he
  |ka i=>
   simp only[oo,gI,s7] at ap;obtain⟨⟨⟨aM,aJ⟩,aI⟩,ap⟩:=ap;have he:Option.rec (motive:=fun _=>Option dI) none (EN P ops S H (dU P call aQ ops a')) (nth ops i)=some b1:=he;cases aj:nth ops i with
   |none=>rw[aj] at he;cases he
   |some o=>
    rw[aj] at he;rw[lH] at aj;have he:Option.rec (motive:=fun _=>Option dI) none (TI P S H o (dU P call aQ ops a')) (gp ops S.T o)=some b1:=he;have Vh:∀j,j≠i->dp.testBit j=false->(Nat.lor (Nat.land G dp) (Nat.pow 2 i)).testBit j=true->False:=fun j bf Ao cp=>by
     rcases lK.1 cp with q|q
     ·rw[LK,Ao] at q;simp at q
     ·exact bf q.symm
    cases aF:gp ops S.T o with
    |none=>rw[aF] at he;cases he
    |some b=>
     rw[aF] at he;cases b with
     |false=>
      have he:pR (dU P call aQ ops a') H (S.put o.dst undef)=some b1:=he;cases m8:S.put o.dst undef with
      |none=>rw[m8] at he;cases he
      |some aP=>
       rw[m8] at he;exact aZ _ _ aP H A (Qf ag aH aj aM aJ m8 aF (fun _=>rfl) aH.h aH.kB (bX _) rfl (fun _ _=>rfl) (fun _ _=>rfl) (fun j bf Ao cp=>(Vh j bf Ao cp).elim) (fun h=>by cases h) (fun h=>by cases h)) ap he
     |true=>
      have he:MG S H o.dst (dU P call aQ ops a') (nm P S.T o.op)=some b1:=he;cases nv:nm P S.T o.op with
      |none=>rw[nv] at he;cases he
      |some q=>
       obtain⟨gf,eJ⟩:=q;rw[nv] at he;have he:MH S o.dst (dU P call aQ ops a') eJ (H.new gf)=some b1:=he;cases aE:H.new gf with
       |none=>rw[aE] at he;cases he
       |some q=>
        obtain⟨a,H1⟩:=q;rw[aE] at he;obtain⟨afc,aC,aW,cw,ed,cH⟩:=aw.qC aE;subst afc;have n5:pR (dU P call aQ ops a') H1 (S.put o.dst (eJ.at H.aG))=some b1:=he;cases m8:S.put o.dst (eJ.at H.aG) with
        |none=>rw[m8] at n5;cases n5
        |some aP=>
         rw[m8] at n5
         refine aZ _ _ aP H1 (fun j=>if j=i then H.aG else A j) (Qf ag aH aj aM aJ m8 aF (fun h=>by cases h) (aH.h.amD aE (TM nv)) (aH.kB.new aE) (by omega) ed (fun x ab=>by rw[cH,bd (by omega)])
          (fun j bf=>bd bf) (fun j bf Ao cp=>(Vh j bf Ao cp).elim) (fun _ h=>by rw[aI] at h;cases h) (fun _ _=>⟨bj rfl,aC,aH.kB.aG,gf,eJ,nv,rfl,by rw[cH,bj rfl]⟩)) ap n5
end
end
end Go.Cre
namespace Go.Cre
noncomputable section
open Go.RowKit
open Classical
section
variable {P:Program}{B:Nat->Prop}{w0 w:World}{μ km:b5}{H H0 H' H1:aw}{S jT aP bl:a5}{fr:Frame}{tmps:Array Value}{ds:List Deferred}{cs kH:List Frame}{call:eZ}{aQ:hd}
variable {ops:Array Oper}{ct dp C K G:Nat}{D:Nat->Bool}{A:Nat->Nat}{i:Nat}{o:Oper}{k:List Item}{rest:List Nat}
theorem a4.HL{α:Type}{a v:α}{t:a4 α}:∀{n:Nat},t.get n=some v->∃lJ,a4.put a t n=some lJ:=by
 induction t with
 |leaf=>intro n h;cases h
 |node u l r xh xi=>
  intro n h;cases n with
  |zero=>exact⟨_,rfl⟩
  |succ m=>
   rw[a4.q6] at h;rw[a4.Ls];by_cases hm:m % 2=0
   ·rw[bj hm] at h ⊢;obtain⟨l',e⟩:=xh h;rw[e];exact⟨_,rfl⟩
   ·rw[bd hm] at h ⊢;obtain⟨cW,e⟩:=xi h;rw[e];exact⟨_,rfl⟩
theorem a5.DY{p:Nat->Bool}{dst:Option Tmp}(h:∀t,dst=some t->t<S.n/\∃u,S.T.get t=some u)(v:Value):∃pc,(S.only p).put dst v=some pc:=by
 cases dst with
 |none=>exact⟨_,rfl⟩
 |some d=>
  obtain⟨ad,u,af⟩:=h d rfl;obtain⟨T,n,fQ,cb,bE,cP⟩:=S;show ∃pc,Bool.rec (motive:=fun _=>Option a5) none (a5.qG n fQ cb bE cP (a4.put v (T.gE p) d)) (Nat.ble (Nat.succ d) n)=some pc;have ak:Nat.ble (Nat.succ d) n=true:=mU ad;rw[ak];obtain⟨yg,aC⟩:=a4.HL (a:=v) af;obtain⟨aq5,aW⟩:=a4.YR p aC;rw[aW];exact⟨_,rfl⟩
theorem anp{X:a5}{dst:Option Tmp}{v:Value}{b1:dI}(h:mr X dst v H'=some b1):∃bl,X.put dst v=some bl/\b1=.ok bl H':=by
 unfold mr ot at h;cases ap:X.put dst v with
 |none=>rw[ap] at h;cases h
 |some bl=>rw[ap] at h;have h:some (dI.ok bl H')=some b1:=h;injection h with h;exact⟨bl,rfl,h.symm⟩
theorem Y9{X:a5}{dst:Option Tmp}{v:Value}(h:X.put dst v=some bl):mr X dst v H'=some (.ok bl H'):=by
 unfold mr;rw[h];rfl
theorem alU{l:List Oper}{p:Nat->Bool}(aD:∀t∈looks l o,p t=true)(he:one P call aQ l S H o=some (.ok bl H1)):
 ∃gd,one P call aQ l (S.only p) H o=some (.ok gd H1)/\gd.n=bl.n/\gd.ds=bl.ds/\gd.cb=bl.cb/\gd.bE=bl.bE/\gd.cP=bl.cP/\bl.n=S.n/\bl.cb=S.cb/\bl.cP=S.cP/\
  (∀t,gd.T.get t=if o.dst=some t then bl.T.get t else(S.only p).T.get t)/\(∀t,o.dst≠some t->bl.T.get t=S.T.get t):=by
 have wZ:∀t∈looks l o,(S.only p).T.get t=S.T.get t:=fun t aS=>by
  show(S.T.gE p).get t=_;rw[a4.N0,aD t aS];rfl
 have key:∀(X:a5) (v:Value) (cz:aw),X.n=S.n->X.cb=S.cb->X.cP=S.cP->X.T=S.T->mr X o.dst v cz=some (.ok bl H1)->
  ∃gd,mr (X.only p) o.dst v cz=some (.ok gd H1)/\gd.n=bl.n/\gd.ds=bl.ds/\gd.cb=bl.cb/\gd.bE=bl.bE/\gd.cP=bl.cP/\bl.n=S.n/\bl.cb=S.cb/\bl.cP=S.cP/\
  (∀t,gd.T.get t=if o.dst=some t then bl.T.get t else(S.only p).T.get t)/\(∀t,o.dst≠some t->bl.T.get t=S.T.get t):=by
  intro X v cz ev gH uv LX q;obtain⟨Tu,aX,aU⟩:=anp q;injection aU with aU b0;subst aU;subst b0
  obtain⟨gd,dN⟩:=a5.am2 p aX;obtain⟨bO,bA,cU,dn,cK,e6⟩:=a5.put_eq aX;obtain⟨bQ,bL,cZ,dE,fI,gz⟩:=a5.put_eq dN;refine⟨gd,Y9 dN,bQ.trans bO.symm,bL.trans bA.symm,cZ.trans cU.symm,dE.trans dn.symm,fI.trans cK.symm,bO.trans ev,cU.trans gH,cK.trans uv,fun t=>?_,fun t aS=>?_⟩
  ·rw[gz];by_cases aq:o.dst=some t
   ·rw[bj aq,bj aq,e6,bj aq]
   ·rw[bd aq,bd aq];show(X.T.gE p).get t=(S.T.gE p).get t;rw[LX]
  ·rw[e6,bd aS,LX]
 unfold one at he ⊢;rw[tw wZ];cases aF:gp l S.T o with
 |none=>rw[aF] at he;cases he
 |some b=>
  rw[aF] at he;cases b with
  |false=>exact key S undef H rfl rfl rfl rfl he
  |true=>
   have he:qE S H o.dst (cL P call aQ S H o)=some (.ok bl H1):=he;show ∃gd,qE (S.only p) H o.dst (cL P call aQ (S.only p) H o)=some (.ok gd H1)/\_;rw[Jy (S:=S) (aP:=S.only p) rfl (Lh wZ)];cases ho:cL P call aQ S H o with
   |none=>rw[ho] at he;cases he
   |some r=>
    rw[ho] at he;cases r with
    |val v cz=>exact key S v cz rfl rfl rfl rfl he
    |skip cz=>exact key S undef cz rfl rfl rfl rfl he
    |jc c cz=>have he:some (dI.jc c S cz)=some (.ok bl H1):=he;injection he with he;cases he
    |hR d=>
     have he:Bi S H o.dst d=some (.ok bl H1):=he;show ∃gd,Bi (S.only p) H o.dst d=some (.ok gd H1)/\_;obtain⟨T,n,fQ,cb,bE,cP⟩:=S;cases cP with
     |some l=>cases he
     |none=>exact key (a5.Ef d ⟨T,n,fQ,cb,bE,none⟩) undef H rfl rfl rfl rfl he
    |Bu=>
     have he:Hx S H o.dst (rE S)=some (.ok bl H1):=he;show ∃gd,Hx (S.only p) H o.dst (rE (S.only p))=some (.ok gd H1)/\_;have av:rE (S.only p)=rE S:=rfl;rw[av];cases n':rE S with
     |none=>rw[n'] at he;cases he
     |some q=>
      obtain⟨v,bE⟩:=q;rw[n'] at he;obtain⟨T,n,fQ,cb,H3,cP⟩:=S;exact key (a5.x1 bE ⟨T,n,fQ,cb,H3,cP⟩) v H rfl rfl rfl rfl he
theorem Xz(ag:wb ops.toList ct)(aH:Inv P B w0 call aQ ops.toList ct dp km H0 jT fr kH C K G S H μ w tmps ds cs D A)(aj:ops[i]?=some o)(sw:∀j,(Oper.jb o).testBit j=true->D j=true):
 ∀t∈looks ops.toList o,free ops.toList C D t=true:=fun t aS=>Ah.2 fun⟨j,er,a,b,c,d⟩=>by
 rcases ag.look j i er o t c (by simpa using aj) d aS with q|⟨q,_⟩
 ·have:=sw j q;rw[b] at this;cases this
 ·have hk:K.testBit j=false:=by
   cases hk:K.testBit j with
   |false=>rfl
   |true=>have:=aH.k j hk;rw[b] at this;cases this
  have:=(aH.Ai j er a hk c).1;rw[q] at this;cases this
def ni(D:Nat->Bool)(i:Nat):Nat->Bool:=fun j=>if j=i then true else D j
theorem s9{j:Nat}:ni D i j=true↔D j=true\/j=i:=by unfold ni;by_cases h:j=i<;>simp[h]
theorem BW{j:Nat}(h:ni D i j=false):D j=false/\j≠i:=by
 unfold ni at h;by_cases e:j=i
 ·rw[bj e] at h;cases h
 ·rw[bd e] at h;exact⟨h,e⟩
theorem af'{t:Nat}(aq:free ops.toList C (ni D i) t=true)(aj:ops[i]?=some o):free ops.toList C D t=true\/o.dst=some t:=by
 by_cases h:Rk ops.toList C D t
 ·obtain⟨j,er,a,b,c,d⟩:=h;by_cases rf:j=i
  ·subst rf;have:ops.toList[j]?=some o:=by simpa using aj
   rw[this] at c;injection c with c;subst c;exact .inr d
  ·exfalso;refine Ah.1 aq ⟨j,er,a,?_,c,d⟩;unfold ni;rw[bd rf];exact b
 ·exact .inl (Ah.2 h)
theorem anm(ih:p0 P B w0 call)(pC:yh P B w0 aQ)(ag:wb ops.toList ct)(aH:Inv P B w0 call aQ ops.toList ct dp km H0 jT fr kH C K G S H μ w tmps ds cs D A)
 (oI:∀j,C.testBit j=true->K.testBit j=true\/G.testBit j=true)(hx:C.testBit i=true)(cy:D i=false)(aj:ops[i]?=some o)(sw:∀j,(Oper.jb o).testBit j=true->D j=true):
 ∃bw bn hc fb cN,Steps P (lone (bY fr tmps ds (.inRegion ops (i::rest)::k)) cs w) (lone (bY fr hc fb (.inRegion ops rest::k)) cN bn)/\
  Inv P B w0 call aQ ops.toList ct dp km H0 jT fr kH C K G S H bw bn hc fb cN (ni D i) A:=by
 have iP:ops.toList[i]?=some o:=by simpa using aj
 have OW:=Xz ag aH aj sw;have hk:K.testBit i=false:=by
  cases hk:K.testBit i with
  |false=>rfl
  |true=>have:=aH.k i hk;rw[cy] at this;cases this
 have ag0:G.testBit i=true:=by
  rcases oI i hx with q|q
  ·rw[hk] at q;cases q
  ·exact q
 obtain⟨asj,b,aF⟩:=aH.Ai i o hx hk iP;have wZ:∀t∈looks ops.toList o,(S.only (free ops.toList C D)).T.get t=S.T.get t:=fun t aS=>by
  show(S.T.gE _).get t=_;rw[a4.N0,OW t aS];rfl
 --LV stays
 have fin:∀(bw:b5) (bn:World) (hc:Array Value) (fb:List Deferred) (cN:List Frame) (pc:a5) (v:Value),cd P B w0 bw H bn->Step km bw H0 H->kn jT.cb kH cN->
  (S.only (free ops.toList C D)).put o.dst v=some pc->(∀t,o.dst=some t->S.T.get t=some v)->ib bw pc fr hc fb cN->
  (∀(j:Nat) er,C.testBit j=true->D j=false->j≠i->dp.testBit j=true->ops.toList[j]?=some er->gp ops.toList S.T er=some true->μ (A j)=none->A j<H.aG->bw (A j)=none)->
  Inv P B w0 call aQ ops.toList ct dp km H0 jT fr kH C K G S H bw bn hc fb cN (ni D i) A:=by
  intro bw bn hc fb cN pc v fR dR h4 m8 az OT Pu;obtain⟨bQ,bL,cZ,dE,fI,gz⟩:=a5.put_eq m8;refine⟨fR,?_,dR,h4,aH.cb,aH.cP,fun j bf=>?_,aH.EW,fun j er m bf fe hm=>?_,aH.Cr,fun j bf=>s9.2 (.inl (aH.k j bf)),fun j er bf vf fe=>?_,?_⟩
  ·refine OT.conv bQ.symm bL.symm cZ.symm dE.symm fI.symm fun t u q=>?_;obtain⟨aX,aU⟩:=y8.1 q;rw[gz];by_cases aq:o.dst=some t
   ·rw[bj aq];rw[az t aq] at aU;exact aU
   ·rw[bd aq];rcases af' aX aj with r|r
    ·exact y8.2 ⟨r,aU⟩
    ·exact absurd r aq
  ·rcases s9.1 bf with q|rfl
   ·exact aH.sub j q
   ·exact hx
  ·rcases s9.1 bf with q|rfl
   ·exact s9.2 (.inl (aH.down j er m q fe hm))
   ·rw[iP] at fe;injection fe with fe;subst fe
    exact s9.2 (.inl (sw m hm))
  ·obtain⟨ck,Ch,ch⟩:=aH.Ai j er bf vf fe;refine⟨ck,Ch,ch.move rfl rfl (fun _ _=>rfl) (fun _ _=>rfl) (fun _ h=>⟨h,rfl⟩) rfl fun ak aI FJ=>?_⟩;obtain⟨d1,d2⟩:=BW FJ;refine⟨d1,fun gf _ ⟨aC,aW,cw,ed,cH⟩=>⟨?_,aW,cw,ed,cH⟩⟩;exact Pu j er bf d1 d2 aI fe (ak▸ch.g) aC ed
  ·intro x y eN hI ab aB Ak u4 Aq Ar qq pw sq re eM;exact aH.inj x y eN hI ab aB (BW Ak).1 (BW u4).1 Aq Ar qq pw sq re eM
 --by DQ,where nothing is made
 have om:∀v,one P call aQ ops.toList (S.only (free ops.toList C D)) H o=mr (S.only (free ops.toList C D)) o.dst v H->(∀t,o.dst=some t->S.T.get t=some v)->
  ∃bw bn hc fb cN,Steps P (lone (bY fr tmps ds (.inRegion ops (i::rest)::k)) cs w) (lone (bY fr hc fb (.inRegion ops rest::k)) cN bn)/\
  Inv P B w0 call aQ ops.toList ct dp km H0 jT fr kH C K G S H bw bn hc fb cN (ni D i) A:=by
  intro v oN az;obtain⟨pc,m8⟩:=a5.DY (S:=S) (p:=free ops.toList C D) aF.lt v;rw[Y9 m8] at oN;obtain⟨bw,bn,hc,fb,cN,ck,ch,c6,gg,gh,hg,gW⟩:=DQ (k:=k) (rest:=rest) ih pC aH.h aH.f aj oN;refine⟨bw,bn,hc,fb,cN,gW,fin bw bn hc fb cN pc v ck (aH.kB.trans ch) (aH.Cp.trans ?_) m8 az c6 fun j er _ _ _ _ _ _ hm cA=>(ch.gE _ cA hm).1⟩;have:(S.only (free ops.toList C D)).cb=jT.cb:=aH.cb;rw[<-this];exact gg
 have wW:gp ops.toList (S.only (free ops.toList C D)).T o=some b:=by rw[tw wZ];exact aF.g
 cases b with
 |false=>
  refine om undef ?_ (aF.no rfl);unfold one;rw[wW];rfl
 |true=>
  cases aI:dp.testBit i with
  |false=>
   obtain⟨v,aC,aW⟩:=aF.val rfl aI ag0;refine om v ?_ aW;unfold one;rw[wW];show qE _ H o.dst (cL P call aQ (S.only (free ops.toList C D)) H o)=_;rw[Jy (S:=S) (aP:=S.only (free ops.toList C D)) rfl (Lh wZ),aC];rfl
  |true=>
   obtain⟨gf,eJ,aC,aW,cw⟩:=aF.ka rfl aI;obtain⟨c1,fq,mH,mI,j1⟩:=cw cy;have wz:nm P (S.only (free ops.toList C D)).T o.op=some (gf,eJ):=by rw[MI wZ];exact aC
   obtain⟨jM,N,sz,dQ,ee,fB,iD⟩:=ach aH.f.t wz w;have hw:=Vd aH.f.t wW;have ez:fr.roundOf=none\/∀c,o.op≠.defer c:=.inr fun c q=>by rw[q] at aC;cases aC
   obtain⟨ah7,kK⟩:=aH.h.fill (L:=⟨w.heap.size,N,sz⟩) c1 mI fq j1 rfl ee;have Kp:bu (μ.put (A i) ⟨w.heap.size,N,sz⟩) (eJ.at (A i)) (eJ.at w.heap.size):=jg.rel iD (L:=⟨w.heap.size,N,sz⟩) (b5.kh _ _ _);obtain⟨pc,m8⟩:=a5.DY (S:=S) (p:=free ops.toList C D) aF.lt (eJ.at (A i));obtain⟨f1,_⟩:=Rm (aH.f.mono kK) Kp m8;refine⟨_,_,_,_,_,.one (RQ aj hw ez dQ),fin _ _ _ _ _ pc (eJ.at (A i)) ah7 ?_ aH.Cp m8 aW f1 ?_⟩
   ·refine⟨aH.kB.ext.trans kK,aH.kB.aG,aH.kB.bU,fun id ve hm=>?_⟩;obtain⟨a,b⟩:=aH.kB.gE id ve hm;refine⟨?_,b⟩;rw[b5.ud _ _ (by omega)];exact a
   ·intro j er bf FJ rf Ao fe O1 hm cA;rw[b5.ud _ _ ?_]
    ·exact hm
    ·intro q;exact rf (aH.inj j i er o bf hx FJ cy Ao aI fe iP O1 aF.g q)
theorem anl(ih:p0 P B w0 call)(pC:yh P B w0 aQ)(ag:wb ops.toList ct)(aH:Inv P B w0 call aQ ops.toList ct dp km H0 jT fr kH C K G S H μ w tmps ds cs D A)
 (hx:C.testBit i=false)(aj:ops[i]?=some o)(sw:∀j,(Oper.jb o).testBit j=true->D j=true)(oN:one P call aQ ops.toList S H o=some (.ok bl H1))
 {v3:Nat}(Vk:v3=uS ops.toList ops.toList.length (Nat.lor K (Nat.pow 2 i)))(ag6:∀j,(Oper.jb o).testBit j=true->v3.testBit j=true)(ag5:v3.testBit i=true):
 ∃bw bn hc fb cN,Steps P (lone (bY fr tmps ds (.inRegion ops (i::rest)::k)) cs w) (lone (bY fr hc fb (.inRegion ops rest::k)) cN bn)/\
  Inv P B w0 call aQ ops.toList ct dp km H0 jT fr kH (Nat.lor C (Nat.pow 2 i)) v3 (Nat.land G dp) bl H1 bw bn hc fb cN (ni D i) A:=by
 have iP:ops.toList[i]?=some o:=by simpa using aj
 have OW:=Xz ag aH aj sw;have CJ:D i=false:=by
  cases aq:D i with
  |false=>rfl
  |true=>have:=aH.sub i aq;rw[hx] at this;cases this
 obtain⟨gd,t1,t2,t3,t4,t5,t6,t7,t8,t9,t10,t11⟩:=alU OW oN;obtain⟨bw,bn,hc,fb,cN,ck,ch,c6,gg,gh,hg,gW⟩:=DQ (k:=k) (rest:=rest) ih pC aH.h aH.f aj t1;have VM:∀(j:Nat) er m,ni D i j=true->ops.toList[j]?=some er->(Oper.jb er).testBit m=true->ni D i m=true:=fun j er m bf fe hm=>by
  rcases s9.1 bf with q|rfl
  ·exact s9.2 (.inl (aH.down j er m q fe hm))
  ·rw[iP] at fe;injection fe with fe;subst fe
   exact s9.2 (.inl (sw m hm))
 have Vl:∀j,v3.testBit j=true->ni D i j=true:=fun j bf=>by
  rw[Vk] at bf;refine adS (D:=ni D i) VM (fun m hm=>?_) j bf;rcases lK.1 hm with q|rfl
  ·exact s9.2 (.inl (aH.k m q))
  ·exact s9.2 (.inr rfl)
 have Pt:∀{j:Nat},(Nat.lor C (Nat.pow 2 i)).testBit j=true->j≠i->C.testBit j=true:=fun{j} bf eh=>by
  rcases lK.1 bf with q|q
  ·exact q
  ·exact absurd q.symm eh
 --atN aoZ TR not atL done arD look at LV is written now
 have q9:∀{j:Nat} {er:Oper},C.testBit j=true->v3.testBit j=false->ops.toList[j]?=some er->∀t∈looks ops.toList er,bl.T.get t=S.T.get t:=fun{j er} bf vf fe t aS=>by
  refine t11 t fun aq=>?_;rcases ag.look i j o er t iP fe aq aS with q|⟨_,q|q⟩
  ·have:=aH.Cr j er i bf fe q;rw[hx] at this;cases this
  ·subst q;rw[hx] at bf;cases bf
  ·rw[ag6 j q] at vf;cases vf
 have ar2:∀{j:Nat},v3.testBit j=false->j≠i->D j=false->K.testBit j=false:=fun{j} _ _ aq=>by
  cases hk:K.testBit j with
  |false=>rfl
  |true=>have:=aH.k j hk;rw[aq] at this;cases this
 have We:∀{j:Nat},ni D i j=false->v3.testBit j=false:=fun{j} aq=>by
  cases hk:v3.testBit j with
  |false=>rfl
  |true=>have:=Vl j hk;rw[aq] at this;cases this
 refine⟨bw,bn,hc,fb,cN,gW,⟨ck,?_,aH.kB.trans ch,aH.Cp.trans ?_,t8.trans aH.cb,t9.trans aH.cP,fun j bf=>?_,fun j bf=>?_,VM,fun j er m bf fe hm=>?_,Vl,fun j er bf vf fe=>?_,?_⟩⟩
 ·refine c6.conv t2.symm t3.symm t4.symm t5.symm t6.symm fun t u q=>?_;obtain⟨aX,aU⟩:=y8.1 q;rw[t10];by_cases aq:o.dst=some t
  ·rw[bj aq];exact aU
  ·rw[bd aq];rw[t11 t aq] at aU;refine y8.2 ⟨?_,aU⟩;rw[Ah] at aX ⊢;intro⟨j,er,a,b,c,d⟩;refine aX ⟨j,er,lK.2 (.inl a),?_,c,d⟩;unfold ni;rw[bd (fun e=>by subst e;rw[hx] at a;cases a)];exact b
 ·have:(S.only (free ops.toList C D)).cb=jT.cb:=aH.cb;rw[<-this];exact gg
 ·rcases s9.1 bf with q|rfl
  ·exact lK.2 (.inl (aH.sub j q))
  ·exact lK.2 (.inr rfl)
 ·rcases lK.1 bf with q|rfl
  ·exact aH.EW j q
  ·exact⟨o,iP⟩
 ·rcases lK.1 bf with q|rfl
  ·exact lK.2 (.inl (aH.Cr j er m q fe hm))
  ·rw[iP] at fe;injection fe with fe;subst fe
   exact lK.2 (.inl (aH.sub m (sw m hm)))
 ·have rf:j≠i:=fun e=>by subst e;rw[ag5] at vf;cases vf
  have V1:=Pt bf rf;cases hk:K.testBit j with
  |true=>
   exfalso;have lY:∀{n Es:Nat},Es.testBit j=true->(uS ops.toList n Es).testBit j=true:=by
    intro n;induction n with
    |zero=>intro Es h;exact h
    |succ n aZ=>
     intro Es h;simp only[uS];refine aZ ?_;cases ak:Es.testBit n with
     |false=>exact h
     |true=>
      rw[cv];cases nth ops.toList n with
      |none=>exact h
      |some o=>simp only;rw[zq,h];rfl
   rw[Vk,lY (lK.2 (.inl hk))] at vf;cases vf
  |false=>
   obtain⟨bH,Ch,bM⟩:=aH.Ai j er V1 hk fe;refine⟨bH,Ch,bM.move t7 t9 (q9 V1 vf fe) (fun t aS=>t11 t fun aq=>ag.dst i j o er t iP fe (Ne.symm rf) aq aS) (fun aI cp=>?_) rfl fun ak aI FJ=>?_⟩
   ·rw[LK,aI] at cp;simp at cp
   ·obtain⟨d1,d2⟩:=BW FJ;refine⟨d1,fun gf eA ⟨aC,aW,cw,ed,cH⟩=>?_⟩;obtain⟨du,dt⟩:=ch.gE _ ed aC;exact⟨du,by rw[ch.bU];exact aW,cw,iJ ed ch.aG,by rw[dt (by rw[cH];exact eA)];exact cH⟩
 ·intro x y eN hI ab aB Ak u4 Aq Ar qq pw sq re eM;obtain⟨d1,d2⟩:=BW Ak;obtain⟨d3,d4⟩:=BW u4;have WN:=Pt ab d2;have WO:=Pt aB d4;rw[tw (q9 WN (We Ak) qq)] at sq;rw[tw (q9 WO (We u4) pw)] at re;exact aH.inj x y eN hI WN WO d1 d3 Aq Ar qq pw sq re eM
end
end
end Go.Cre

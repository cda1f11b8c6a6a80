/- A part of the proof of TableLosses. -/
import Derived.Test.YtjbbbehaciogcaaGreatDoorCah
set_option linter.unusedVariables false
set_option linter.unusedSimpArgs false
namespace Go.Cre
noncomputable section
open Go.RowKit
theorem AG(a b i:Nat):Nat.testBit (Nat.lor a b) i=(a.testBit i||b.testBit i):=Nat.testBit_or a b i
theorem N5(a b i:Nat):Nat.testBit (Nat.land a b) i=(a.testBit i&&b.testBit i):=Nat.testBit_and a b i
theorem N6(i j:Nat):Nat.testBit (Nat.pow 2 i) j=decide (i=j):=Nat.testBit_two_pow (n:=i) (m:=j)
theorem lX{C i j:Nat}:Nat.testBit (Nat.lor C (Nat.pow 2 i)) j=true↔Nat.testBit C j=true\/i=j:=by
 rw[AG,N6];simp
theorem U0{a b:Nat}(h:sub a b=true){i:Nat}(ak:a.testBit i=true):b.testBit i=true:=by
 have h:=ez h;rw[<-h,N5] at ak;simp at ak;exact ak.2
theorem XS{l:List Edge}{i:Nat}:(Eh l).testBit i=true↔∃e∈l,Region.binds .any e=true/\e.on=i:=by
 induction l with
 |nil=>simp[Eh]
 |cons e l aP=>
  simp only[Eh];cases ai:Region.binds .any e with
  |false=>simp[aP,ai]
  |true=>rw[cd,AG,N6];simp[aP,ai]
theorem aqU{l:List Nat}{i:Nat}:(CG l).testBit i=true↔i∈l:=by
 induction l with
 |nil=>simp[CG]
 |cons e l aP=>
  simp only[CG];rw[AG,N6,zf,aP,gj,Hd];exact⟨fun q=>q.imp Eq.symm id,fun q=>q.imp Eq.symm id⟩
theorem apD{C:Nat}:∀{n:Nat},MS C n=true->∀i,i<n->C.testBit i=true:=by
 intro n;induction n with
 |zero=>intro _ i ak;omega
 |succ n aP=>
  intro h i ak;simp only[MS,gr] at h;by_cases e:i=n
  ·subst e;exact h.1
  ·exact aP h.2 i (by omega)
theorem ar6{C i:Nat}:∀{l:List Oper} {k:Nat},only C i l k=true->∀j o,l[j]?=some o->C.testBit (k+j)=true\/k+j=i\/sub (Oper.iU o) C=false:=by
 intro l;induction l with
 |nil=>intro k _ j o h;simp at h
 |cons a l aP=>
  intro k h j o ah;simp only[only,gr,zf,sm] at h;cases j with
  |zero=>
   simp at ah;subst ah;rcases h.1 with(q|q)|q
   ·exact .inl q
   ·exact .inr (.inl (ez q))
   ·exact .inr (.inr q)
  |succ j=>
   have:=aP h.2 j o (by simpa using ah);have e:k+1+j=k+(j+1):=by omega
   rw[e] at this;exact this
theorem agA{bw cV C:Nat}:∀{l:List Nat},K6 bw cV C l=true->∀i∈l,C.testBit i=true/\cV.testBit i=false:=by
 intro l;induction l with
 |nil=>intro _ i ak;simp at ak
 |cons a l aP=>
  intro h i ak;simp only[K6,gr,sm] at h;rcases gj.1 ak with rfl|ak
  ·exact h.1
  ·exact aP h.2 i ak
theorem aip{ops:List Oper}{D:Nat->Bool}(au:∀i o j,D i=true->ops[i]?=some o->(Oper.iU o).testBit j=true->D j=true):∀{n K:Nat},(∀i,K.testBit i=true->D i=true)->∀i,(vM ops n K).testBit i=true->D i=true:=by
 intro n;induction n with
 |zero=>intro K h i ak;exact h i ak
 |succ n aP=>
  intro K h i ak;simp only[vM] at ak;refine aP (fun j aX=>?_) i ak;cases ai:K.testBit n with
  |false=>rw[ai] at aX;exact h j aX
  |true=>
   rw[ai,cd] at aX;rw[lT] at aX;cases ah:ops[n]? with
   |none=>rw[ah] at aX;exact h j aX
   |some o=>
    rw[ah] at aX;simp only at aX;rw[AG] at aX;simp only[zf] at aX;rcases aX with q|q
    ·exact h j q
    ·exact au n o j (h n ai) ah q
theorem agD{l:List Oper}:∀{k j:Nat} {o:Oper},l[j]?=some o->Ah o.op=true->(zx l k).testBit (k+j)=true:=by
 induction l with
 |nil=>intro k j o h;simp at h
 |cons a l aP=>
  intro k j o ah aF;simp only[zx];rw[AG];cases j with
  |zero=>simp at ah;subst ah;rw[aF,cd,N6];simp
  |succ j=>
   have:=aP (k:=k+1) (by simpa using ah) aF;have e:k+1+j=k+(j+1):=by omega
   rw[e] at this;rw[this];simp
structure vw (ops:List Oper) (bw:Nat):Prop where
 dst:∀(i j:Nat) a b d,ops[i]?=some a->ops[j]?=some b->i≠j->a.dst=some d->b.dst≠some d
 look:∀(i j:Nat) a b d,ops[i]?=some a->ops[j]?=some b->a.dst=some d->d∈looks ops b->(Oper.iU b).testBit i=true\/(bw.testBit i=true/\(i=j\/(Oper.iU a).testBit j=true))
 down:∀(i:Nat) a j,ops[i]?=some a->(Oper.iU a).testBit j=true->j<i
 bE:∀(i:Nat) a,ops[i]?=some a->bw.testBit i=false->Ff a.op=false
theorem asC{ops:List Oper}{bw i:Nat}{a:Oper}:∀{l:List Oper} {k:Nat},ND ops bw i a l k=true->∀j b,l[j]?=some b->FM ops bw i (k+j) a b=true:=by
 intro l;induction l with
 |nil=>intro k _ j b h;simp at h
 |cons c l aP=>
  intro k h j b ai;simp only[ND,gr] at h;cases j with
  |zero=>simp at ai;subst ai;exact h.1
  |succ j=>
   have:=aP h.2 j b (by simpa using ai);have e:k+1+j=k+(j+1):=by omega
   rw[e] at this;exact this
theorem Uk{ops:List Oper}{bw:Nat}:∀{l:List Oper} {k:Nat},JL ops bw l k=true->∀i a,l[i]?=some a->
 (∀j b,ops[j]?=some b->FM ops bw (k+i) j a b=true)/\(Oper.iU a)<2 ^ (k+i)/\(bw.testBit (k+i)=true\/Ff a.op=false):=by
 intro l;induction l with
 |nil=>intro k _ i a h;simp at h
 |cons c l aP=>
  intro k h i a aF;simp only[JL,gr,zf,sm] at h;cases i with
  |zero=>
   simp at aF;subst aF;refine⟨fun j b ai=>?_,h3 h.1.1.2,h.1.2⟩;have:=asC h.1.1.1 j b ai;simpa using this
  |succ i=>
   have:=aP h.2 i a (by simpa using aF);have e:k+1+i=k+(i+1):=by omega
   rw[e] at this;exact this
theorem auK{ops:List Oper}{bw:Nat}(h:JL ops bw ops 0=true):vw ops bw:=by
 have aw:∀(i j:Nat) a b,ops[i]?=some a->ops[j]?=some b->FM ops bw i j a b=true:=fun i j a b aF ai=>by
  have:=(Uk h i a aF).1 j b ai;simpa using this
 refine⟨fun i j a b d aF ai anO au B0=>?_,fun i j a b d aF ai au aq=>?_,fun i a j aF aX=>?_,fun i a aF aC=>?_⟩
 ·have:=aw i j a b aF ai;simp only[FM,gr,zf,sm] at this;rcases this.1 with q|q
  ·exact anO (ez q)
  ·simp[ads,au,B0] at q
 ·have:=aw i j a b aF ai;simp only[FM,gr,zf,sm] at this;rcases this.2 with(q|q)|q
  ·exfalso;simp only[TB,au] at q;rw[List.any_eq_false] at q;exact q d aq (by simp)
  ·exact .inl q
  ·exact .inr ⟨q.1,q.2.imp (fun x=>ez x) id⟩
 ·have ae:=(Uk h i a aF).2.1;rw[j2] at ae;rcases hH j i with q|q
  ·exact q
  ·have aD:(Oper.iU a)<2 ^ j:=iM ae (mV (by omega) q);rw[Nat.testBit_lt_two_pow aD] at aX;cases aX
 ·have ae:=(Uk h i a aF).2.2;rw[j2] at ae;rcases ae with q|q
  ·rw[q] at aC;cases aC
  ·exact q
theorem WS{P:Program}{T:a0 Value}{op:Op}{b:fB}{eD:jn}(he:nT P T op=some (b,eD)):kI (some b)=false:=by
 have box:∀{elem v},Bb elem v=some (b,eD)->kI (some b)=false:=fun{elem v} q=>by
  unfold Bb at q;cases ah:v.cells.toList.all fh with
  |false=>rw[ah] at q;cases q
  |true=>rw[ah,cd] at q;simp only[cn,dr] at q;obtain⟨rfl,rfl⟩:=q;rfl
 have fin:∀{c:Bool} {cells:List Value} {elem:TypeId} {k:jn},(bif c then some (fB.row cells elem false 0 0 false,k) else none)=some (b,eD)->kI (some b)=false:=fun{c cells elem k} q=>by
  cases c with
  |false=>cases q
  |true=>simp only[cd,cn,dr] at q;obtain⟨rfl,rfl⟩:=q;rfl
 cases op<;>simp only[nT] at he
 case alloc elem=>
  split at he
  ·rename_i z _;cases aw:plain z with
   |false=>rw[aw] at he;cases he
   |true=>rw[aw,cd] at he;exact box he
  ·cases he
 case box elem x=>
  split at he
  ·exact box he
  ·cases he
 case buildSlice t len ps=>
  split at he
  ·unfold GG at he;split at he
   ·split at he
    ·rename_i sz z _ _;cases aC:(Nat.ble len 100000&&Nat.ble (len*sz) 100000&&plain z&&Nat.beq z.cells.toList.length sz) with
     |false=>rw[aC] at he;cases he
     |true=>
      rw[aC,cd] at he;split at he
      ·exact fin he
      ·cases he
    ·cases he
   ·cases he
  ·cases he
 case makeMap t r=>
  cases r with
  |some r=>obtain⟨rfl,rfl,_⟩:=aaZ (show I3 P t r=some (b,eD) from he);rfl
  |none=>simp only[cn,dr] at he;obtain⟨rfl,rfl⟩:=he;rfl
 case makeSlice t l c=>
  split at he
  ·unfold GH at he;split at he
   ·split at he
    ·split at he
     ·exact fin he
     ·cases he
    ·cases he
   ·cases he
  ·cases he
 all_goals cases he
end
end Go.Cre
namespace Go.Cre
noncomputable section
open Go.RowKit
open Classical
def Ul(ops:List Oper)(C:Nat)(D:Nat->Bool)(t:Nat):Prop:=∃(i:Nat) (o:Oper),C.testBit i=true/\D i=false/\ops[i]?=some o/\o.dst=some t
def free (ops:List Oper)(C:Nat)(D:Nat->Bool)(t:Nat):Bool:=decide (¬Ul ops C D t)
theorem zO{ops:List Oper}{C:Nat}{D:Nat->Bool}{t:Nat}:free ops C D t=true↔¬Ul ops C D t:=by unfold free;exact Hd
structure Good (P:Program) (call:eI) (aJ:hl) (ops:List Oper) (cV G:Nat) (afw:Nat) (S:aZ) (H:ar) (μ:bY) (D:Nat->Bool) (A:Nat->Nat) (i:Nat) (o:Oper) (b:Bool):Prop where
 g:fT ops S.T o=some b
 lt:∀t,o.dst=some t->t<S.n/\∃u,S.T.get t=some u
 no:b=false->∀t,o.dst=some t->S.T.get t=some undef
 val:b=true->cV.testBit i=false->G.testBit i=true->∃v,cz P call aJ S H o=some (.val v H)/\∀t,o.dst=some t->S.T.get t=some v
 kG:b=true->cV.testBit i=true->∃gC eD,nT P S.T o.op=some (gC,eD)/\(∀t,o.dst=some t->S.T.get t=some (eD.at (A i)))/\
  (D i=false->μ (A i)=none/\H.bL<=A i/\afw<=A i/\A i<H.an/\H.mem.get (A i)=some gC)
structure Inv (P:Program) (B:Nat->Prop) (w0:World) (call:eI) (aJ:hl) (ops:List Oper) (bw cV:Nat) (jT:bY) (H0:ar) (jd:aZ) (fr:Frame) (jG:List Frame)
 (C K G:Nat) (S:aZ) (H:ar) (μ:bY) (w:World) (tmps:Array Value) (ds:List Deferred) (cs:List Frame) (D:Nat->Bool) (A:Nat->Nat):Prop where
 h:b8 P B w0 μ H w
 f:il P μ (S.only (free ops C D)) fr tmps ds cs
 jm:Step jT μ H0 H
 Bm:kh jd.bR jG cs
 bR:S.bR=jd.bR
 cr:S.cr=jd.cr
 sub:∀i,D i=true->C.testBit i=true
 GO:∀i,C.testBit i=true->∃o,ops[i]?=some o
 down:∀(i:Nat) o j,D i=true->ops[i]?=some o->(Oper.iU o).testBit j=true->D j=true
 Ee:∀(i:Nat) o j,C.testBit i=true->ops[i]?=some o->(Oper.iU o).testBit j=true->C.testBit j=true
 k:∀i,K.testBit i=true->D i=true
 BD:∀(i:Nat) o,C.testBit i=true->K.testBit i=false->ops[i]?=some o->bw.testBit i=false/\∃b,Good P call aJ ops cV G H0.an S H μ D A i o b
 inj:∀(i j:Nat) FF er,C.testBit i=true->C.testBit j=true->D i=false->D j=false->cV.testBit i=true->cV.testBit j=true->ops[i]?=some FF->ops[j]?=some er->
  fT ops S.T FF=some true->fT ops S.T er=some true->A i=A j->i=j
section
variable {P:Program}{B:Nat->Prop}{w0 w:World}{μ jT:bY}{H H0 H':ar}{S jd aH:aZ}{fr:Frame}{tmps:Array Value}{ds:List Deferred}{cs jG:List Frame}{call:eI}{aJ:hl}
variable {ops:List Oper}{bw cV C K G:Nat}{D:Nat->Bool}{A:Nat->Nat}{i:Nat}{o:Oper}
theorem aZ.as9{dst:Option Tmp}{v:Value}(he:S.put dst v=some aH):∀t,dst=some t->t<aH.n/\∃u,aH.T.get t=some u:=fun t aI=>by
 have e:=aZ.put_eq he;refine⟨?_,v,by rw[e.2.2.2.2.2,aV aI]⟩;subst aI;obtain⟨T,n,gd,bR,bg,cr⟩:=S;have he:Bool.rec (motive:=fun _=>Option aZ) none (aZ.qw n gd bR bg cr (a0.put v T t)) (Nat.ble (Nat.succ t) n)=some aH:=he;rw[e.1];show t<n;cases ai:Nat.ble (Nat.succ t) n with
 |false=>rw[ai] at he;cases he
 |true=>exact h3 ai
theorem il.conv{a4 gk:aZ}(h:il P μ a4 fr tmps ds cs)(ax:gk.n=a4.n)(aS:gk.ds=a4.ds)(cl:gk.bR=a4.bR)(dS:gk.bg=a4.bg)(cx:gk.cr=a4.cr)
 (aI:∀t v,gk.T.get t=some v->a4.T.get t=some v):il P μ gk fr tmps ds cs:=
 ⟨⟨by rw[ax];exact h.t.1,fun t v q=>h.t.2 t v (aI t v q)⟩,by rw[aS];exact h.d,by rw[cl];exact h.kind,fun q=>h.uW (cx▸q),fun l q=>h.Az l (cx▸q),(fun q=>by rw[dS];exact h.bg (cl▸q)),h.fn⟩
theorem wM{p:Nat->Bool}{t:Nat}{v:Value}:(S.only p).T.get t=some v↔p t=true/\S.T.get t=some v:=by
 show(S.T.gn p).get t=some v↔_;rw[a0.HE];cases p t<;>simp
theorem Good.move{oW:Nat}{bh:bY}{Ds:Nat->Bool}{qF:Nat->Nat}{b:Bool}(ay:Good P call aJ ops cV G H0.an S H μ D A i o b)(aE:aH.n=S.n)(ao:aH.cr=S.cr)
 (aq:∀t∈looks ops o,aH.T.get t=S.T.get t)(au:∀t,o.dst=some t->aH.T.get t=S.T.get t)
 (ch:cV.testBit i=false->oW.testBit i=true->G.testBit i=true/\H'=H)(eS:qF i=A i)
 (SA:b=true->cV.testBit i=true->Ds i=false->D i=false/\(∀gC,kI (some gC)=false->μ (A i)=none/\H.bL<=A i/\H0.an<=A i/\A i<H.an/\H.mem.get (A i)=some gC->bh (A i)=none/\H'.bL<=A i/\H0.an<=A i/\A i<H'.an/\H'.mem.get (A i)=some gC)):
 Good P call aJ ops cV oW H0.an aH H' bh Ds qF i o b:=by
 refine⟨by rw[sP aq];exact ay.g,fun t aI=>?_,fun ai t aI=>by rw[au t aI];exact ay.no ai t aI,fun ai aF Rr=>?_,fun ai aF=>?_⟩
 ·obtain⟨a,b⟩:=ay.lt t aI;exact⟨by rw[aE];exact a,by rw[au t aI];exact b⟩
 ·obtain⟨b4,rfl⟩:=ch aF Rr;obtain⟨v,ax,aS⟩:=ay.val ai aF b4;exact⟨v,by rw[Hv ao (JF aq)];exact ax,fun t aI=>by rw[au t aI];exact aS t aI⟩
 ·obtain⟨gC,eD,ax,aS,cl⟩:=ay.kG ai aF;refine⟨gC,eD,by rw[Ps aq];exact ax,fun t aI=>by rw[au t aI,eS];exact aS t aI,fun cp=>?_⟩;obtain⟨aL,aG⟩:=SA ai aF cp;rw[eS];exact aG gC (WS ax) (cl aL)
theorem quiet(hs:vw ops bw)(aB:Inv P B w0 call aJ ops bw cV jT H0 jd fr jG C K G S H μ w tmps ds cs D A)(ak:C.testBit i=false)(ah:ops[i]?=some o)(aC:bw.testBit i=false)
 {j:Nat}{er:Oper}(aX:C.testBit j=true\/j=i)(fu:ops[j]?=some er){t:Nat}(aI:t∈looks ops er):o.dst≠some t:=fun au=>by
 rcases hs.look i j o er t ah fu au aI with q|⟨q,_⟩
 ·rcases aX with aX|rfl
  ·have:=aB.Ee j er i aX fu q;rw[ak] at this;cases this
  ·have:=hs.down j er j fu q;omega
 ·rw[aC] at q;cases q
theorem ak5(h:fits ops C i=true)(ah:ops[i]?=some o):C.testBit i=false/\∀j,(Oper.iU o).testBit j=true->C.testBit j=true:=by
 unfold fits at h;rw[lT,ah] at h;simp only[gr,sm] at h;exact⟨h.1,fun j aX=>U0 h.2 aX⟩
theorem alc(cp:D i=false)(ah:ops[i]?=some o){t:Nat}(h:free ops (Nat.lor C (Nat.pow 2 i)) D t=true):free ops C D t=true/\o.dst≠some t:=by
 rw[zO] at h;refine⟨zO.2 fun⟨j,er,a,b,c,d⟩=>h ⟨j,er,lX.2 (.inl a),b,c,d⟩,fun au=>h ⟨i,o,lX.2 (.inr rfl),cp,ah,au⟩⟩
theorem Tl(hs:vw ops bw)(aB:Inv P B w0 call aJ ops bw cV jT H0 jd fr jG C K G S H μ w tmps ds cs D A)(ah:ops[i]?=some o)(aA:fits ops C i=true)(aC:bw.testBit i=false)
 {v:Value}{b:Bool}{oW:Nat}{qF:Nat->Nat}(aw:S.put o.dst v=some aH)(ay:fT ops S.T o=some b)(e6:b=false->v=undef)
 (hd:b8 P B w0 μ H' w)(dB:Step jT μ H0 H')(h6:H.an<=H'.an)(p':H'.bL=H.bL)(ya:∀x,x<H.an->H'.mem.get x=H.mem.get x)
 (eS:∀j,j≠i->qF j=A j)(ch:∀j,j≠i->cV.testBit j=false->oW.testBit j=true->G.testBit j=true/\H'=H)
 (k4:b=true->cV.testBit i=false->oW.testBit i=true->cz P call aJ S H' o=some (.val v H'))
 (RI:b=true->cV.testBit i=true->qF i=H.an/\H'.an=H.an+1/\H0.an<=H.an/\∃gC eD,nT P S.T o.op=some (gC,eD)/\v=eD.at H.an/\H'.mem.get H.an=some gC):
 Inv P B w0 call aJ ops bw cV jT H0 jd fr jG (Nat.lor C (Nat.pow 2 i)) K oW aH H' μ w tmps ds cs D qF:=by
 obtain⟨ak,hm⟩:=ak5 aA ah;have EA:D i=false:=by
  cases au:D i with
  |false=>rfl
  |true=>have:=aB.sub i au;rw[ak] at this;cases this
 obtain⟨dg,gp,lu,yQ,yR,Au⟩:=aZ.put_eq aw;have rP:∀{j:Nat} {er:Oper},(C.testBit j=true\/j=i)->ops[j]?=some er->∀t∈looks ops er,aH.T.get t=S.T.get t:=fun{j er} aX fu t aI=>by
  rw[Au,aQ (quiet hs aB ak ah aC aX fu aI)]
 refine⟨hd,?_,dB,aB.Bm,lu.trans aB.bR,yR.trans aB.cr,fun j aX=>lX.2 (.inl (aB.sub j aX)),fun j aX=>?_,aB.down,fun j er k aX fu hk=>?_,aB.k,fun j er aX hk fu=>?_,?_⟩
 ·refine aB.f.conv dg gp lu yQ yR fun t u q=>?_;obtain⟨aL,aG⟩:=wM.1 q;obtain⟨dq,c2⟩:=alc EA ah aL;rw[Au,aQ c2] at aG;exact wM.2 ⟨dq,aG⟩
 ·rcases lX.1 aX with q|rfl
  ·exact aB.GO j q
  ·exact⟨o,ah⟩
 ·rcases lX.1 aX with q|rfl
  ·exact lX.2 (.inl (aB.Ee j er k q fu hk))
  ·rw[ah] at fu;injection fu with fu;subst fu
   exact lX.2 (.inl (hm k hk))
 ·by_cases rV:j=i
  ·subst rV;rw[ah] at fu;injection fu with fu;subst fu
   refine⟨aC,b,?_⟩;refine⟨by rw[sP (rP (.inr rfl) ah)];exact ay,aZ.as9 aw,fun ai t aI=>by rw[Au,aV aI,e6 ai],fun ai aF Rr=>?_,fun ai aF=>?_⟩
   ·exact⟨v,by rw[Hv yR (JF (rP (.inr rfl) ah))];exact k4 ai aF Rr,fun t aI=>by rw[Au,aV aI]⟩
   ·obtain⟨ba,bd,cm,gC,eD,cQ,rfl,e0⟩:=RI ai aF;refine⟨gC,eD,by rw[Ps (rP (.inr rfl) ah)];exact cQ,fun t aI=>by rw[Au,aV aI,ba],fun _=>?_⟩;rw[ba];exact⟨aB.h.ab4,by rw[p'];exact aB.h.kZ,cm,by omega,e0⟩
  ·have aX:C.testBit j=true:=by
    rcases lX.1 aX with q|q
    ·exact q
    ·exact absurd q.symm rV
   obtain⟨b4,D3,bZ⟩:=aB.BD j er aX hk fu;refine⟨b4,D3,bZ.move dg yR (rP (.inl aX) fu) (fun t aI=>?_) (ch j rV) (eS j rV) fun ai aF cp=>⟨cp,fun gC _ ⟨ax,aS,cl,dS,cx⟩=>⟨ax,by rw[p'];exact aS,cl,by omega,by rw[ya _ dS];exact cx⟩⟩⟩;rw[Au,aQ (fun q=>hs.dst i j o er t ah fu (Ne.symm rV) q aI)]
 ·have cD:∀(j:Nat) er,C.testBit j=true->D j=false->cV.testBit j=true->ops[j]?=some er->fT ops S.T er=some true->A j<H.an:=fun j er aX cp aF fu R5=>by
   have hk:K.testBit j=false:=by
    cases hk:K.testBit j with
    |false=>rfl
    |true=>have:=aB.k j hk;rw[cp] at this;cases this
   obtain⟨_,D3,bZ⟩:=aB.BD j er aX hk fu;have e:=bZ.g;rw[R5] at e;injection e with e;subst e
   obtain⟨gC,eD,_,_,q⟩:=bZ.kG rfl aF;exact(q cp).2.2.2.1
  intro x y eF hX aa ap BJ v3 BX BY q4 qd sX rT eN;by_cases jB:x=i
  ·by_cases wv:y=i
   ·rw[jB,wv]
   ·exfalso;subst jB;rw[ah] at q4;injection q4 with q4;subst q4
    rw[sP (rP (.inr rfl) ah),ay] at sX;injection sX with sX;subst sX
    have ap:C.testBit y=true:=by
     rcases lX.1 ap with q|q
     ·exact q
     ·exact absurd q.symm wv
    rw[sP (rP (.inl ap) qd)] at rT;have:=cD y hX ap v3 BY qd rT;rw[(RI rfl BX).1,eS y wv] at eN;omega
  ·have e7:C.testBit x=true:=by
    rcases lX.1 aa with q|q
    ·exact q
    ·exact absurd q.symm jB
   rw[sP (rP (.inl e7) q4)] at sX;by_cases wv:y=i
   ·exfalso;subst wv;rw[ah] at qd;injection qd with qd;subst qd
    rw[sP (rP (.inr rfl) ah),ay] at rT;injection rT with rT;subst rT
    have:=cD x eF e7 BJ BX q4 sX;rw[(RI rfl BY).1,eS x jB] at eN;omega
   ·have ap:C.testBit y=true:=by
     rcases lX.1 ap with q|q
     ·exact q
     ·exact absurd q.symm wv
    rw[sP (rP (.inl ap) qd)] at rT;rw[eS x jB,eS y wv] at eN;exact aB.inj x y eF hX e7 ap BJ v3 BX BY q4 qd sX rT eN
theorem Step.new(dB:Step jT μ H0 H){b:fB}{a:Nat}(aE:H.new b=some (a,H')):Step jT μ H0 H':=by
 obtain⟨rfl,ax,aS,cl,dS,cx⟩:=ar.pp aE;refine⟨dB.ext,by have:=dB.an;omega,by rw[dS];exact dB.bL,fun id B4 hm=>?_⟩;obtain⟨a,b⟩:=dB.gn id B4 hm;exact⟨a,fun ah=>by rw[cx,aQ (by have:=dB.an;omega)];exact b ah⟩
theorem Xl(hs:vw ops bw)(lL:∀(i:Nat) o,ops[i]?=some o->cV.testBit i=false->Ah o.op=false){c8:dJ}:∀(a1:List jo) (C G:Nat) (S:aZ) (H:ar) (A:Nat->Nat),
 Inv P B w0 call aJ ops bw cV jT H0 jd fr jG C K G S H μ w tmps ds cs D A->oR ops bw cV C K G a1=true->dM P call aJ ops a1 S H=some c8->
 ∃sd w5 oW aH H' qF,Inv P B w0 call aJ ops bw cV jT H0 jd fr jG w5 K oW aH H' μ w tmps ds cs D qF/\oR ops bw cV w5 K oW sd=true/\dM P call aJ ops sd aH H'=some c8/\
  (sd=[]\/∃i rest,sd=.bE i::rest):=by
 intro a1;induction a1 with
 |nil=>intro C G S H A aB aw he;exact⟨[],C,G,S,H,A,aB,aw,he,.inl rfl⟩
 |cons s a1 aP=>
  intro C G S H A aB aw he;have he:XD P call aJ ops (dM P call aJ ops a1) S H s=some c8:=he;cases s with
  |bE i=>exact⟨.bE i::a1,C,G,S,H,A,aB,aw,he,.inr ⟨i,a1,rfl⟩⟩
  |b9 l=>
   simp only[oR,gr] at aw;have av:=agA aw.1;have he:(bif l.all (xD P call aJ ops S H) then dM P call aJ ops a1 S H else none)=some c8:=he;cases aq:l.all (xD P call aJ ops S H) with
   |false=>rw[aq] at he;cases he
   |true=>
    rw[aq,cd] at he;rw[rA] at aq;refine aP C (Nat.lor G (CG l)) S H A ?_ aw.2 he;refine⟨aB.h,aB.f,aB.jm,aB.Bm,aB.bR,aB.cr,aB.sub,aB.GO,aB.down,aB.Ee,aB.k,fun j er aX hk fu=>?_,aB.inj⟩;obtain⟨b4,b,bZ⟩:=aB.BD j er aX hk fu;refine⟨b4,b,bZ.g,bZ.lt,bZ.no,fun ai aF ch=>?_,bZ.kG⟩;rw[AG,zf,aqU] at ch;rcases ch with ch|ch
    ·exact bZ.val ai aF ch
    ·have aC:=aq j ch;unfold xD at aC;rw[lT,fu] at aC;simp only at aC;rw[bZ.g,ai] at aC;have gm:Lv H.an S.T er.dst (cz P call aJ S H er)=true:=aC;cases g7:cz P call aJ S H er with
     |none=>rw[g7] at gm;cases gm
     |some r=>
      rw[g7] at gm;cases r with
      |val v bW=>
       have gm:(Nat.beq bW.an H.an&&(match er.dst with|none=>true|some d=>(match S.T.get d with|some u=>eg 8 v u|none=>false)))=true:=gm
       simp only[gr] at gm;have hV:bW=H:=X5 (hs.bE j er fu b4) (lL j er fu aF) g7 (ez gm.1);refine⟨v,by rw[hV],fun t aI=>?_⟩;have qZ:(match er.dst with|none=>true|some d=>(match S.T.get d with|some u=>eg 8 v u|none=>false))=true:=gm.2
       rw[aI] at qZ;simp only at qZ;cases cB:S.T.get t with
       |none=>rw[cB] at qZ;cases qZ
       |some u=>rw[cB] at qZ;rw[awN qZ]
      |skip _=>cases gm
      |gP _=>cases gm
      |gx _ _=>cases gm
      |Av=>cases gm
  |val i=>
   simp only[oR,gr,sm] at aw;obtain⟨⟨⟨aA,aC⟩,aF⟩,aw⟩:=aw;have he:Option.rec (motive:=fun _=>Option dJ) none (lZ P call aJ ops S H (dM P call aJ ops a1)) (nth ops i)=some c8:=he;cases ah:nth ops i with
   |none=>rw[ah] at he;cases he
   |some o=>
    rw[ah] at he;rw[lT] at ah;have he:Option.rec (motive:=fun _=>Option dJ) none (aeH P call aJ S H o (dM P call aJ ops a1)) (fT ops S.T o)=some c8:=he;cases ay:fT ops S.T o with
    |none=>rw[ay] at he;cases he
    |some b=>
     rw[ay] at he
     have fin:∀v,(b=false->v=undef)->(b=true->cz P call aJ S H o=some (.val v H))->px (dM P call aJ ops a1) H (S.put o.dst v)=some c8->
      ∃sd w5 oW aH H' qF,Inv P B w0 call aJ ops bw cV jT H0 jd fr jG w5 K oW aH H' μ w tmps ds cs D qF/\oR ops bw cV w5 K oW sd=true/\dM P call aJ ops sd aH H'=some c8/\(sd=[]\/∃i rest,sd=.bE i::rest):=by
      intro v ad ae q;cases ny:S.put o.dst v with
      |none=>rw[ny] at q;cases q
      |some aH=>
       rw[ny] at q;refine aP _ _ aH H A (Tl hs aB ah aA aC ny ay ad aB.h aB.jm (bU _) rfl (fun _ _=>rfl) (fun _ _=>rfl) (fun j aX _ ch=>⟨?_,rfl⟩) (fun ai _ _=>ae ai) (fun _ h=>by rw[aF] at h;cases h)) aw q;rcases lX.1 ch with q|q
       ·exact q
       ·exact absurd q.symm aX
     cases b with
     |false=>exact fin undef (fun _=>rfl) (fun h=>by cases h) he
     |true=>
      have he:Dh S H o.dst (dM P call aJ ops a1) (cz P call aJ S H o)=some c8:=he;cases g7:cz P call aJ S H o with
      |none=>rw[g7] at he;cases he
      |some r=>
       rw[g7] at he;cases r with
       |val v bW=>
        have he:(bif Nat.beq bW.an H.an then px (dM P call aJ ops a1) H (S.put o.dst v) else none)=some c8:=he;cases h6:Nat.beq bW.an H.an with
        |false=>rw[h6] at he;cases he
        |true=>
        rw[h6,cd] at he;have hV:bW=H:=X5 (hs.bE i o ah aC) (lL i o ah aF) g7 (ez h6);subst hV;exact fin v (fun h=>by cases h) (fun _=>g7) he
       |skip _=>cases he
       |gP _=>cases he
       |gx _ _=>cases he
       |Av=>cases he
  |kG i=>
   simp only[oR,gr,sm] at aw;obtain⟨⟨⟨aA,aC⟩,aF⟩,aw⟩:=aw;have he:Option.rec (motive:=fun _=>Option dJ) none (GD P ops S H (dM P call aJ ops a1)) (nth ops i)=some c8:=he;cases ah:nth ops i with
   |none=>rw[ah] at he;cases he
   |some o=>
    rw[ah] at he;rw[lT] at ah;have he:Option.rec (motive:=fun _=>Option dJ) none (WO P S H o (dM P call aJ ops a1)) (fT ops S.T o)=some c8:=he;have YI:∀j,j≠i->cV.testBit j=false->(Nat.lor (Nat.land G cV) (Nat.pow 2 i)).testBit j=true->False:=fun j aX BW ch=>by
     rcases lX.1 ch with q|q
     ·rw[N5,BW] at q;simp at q
     ·exact aX q.symm
    cases ay:fT ops S.T o with
    |none=>rw[ay] at he;cases he
    |some b=>
     rw[ay] at he;cases b with
     |false=>
      have he:px (dM P call aJ ops a1) H (S.put o.dst undef)=some c8:=he;cases ny:S.put o.dst undef with
      |none=>rw[ny] at he;cases he
      |some aH=>
       rw[ny] at he;exact aP _ _ aH H A (Tl hs aB ah aA aC ny ay (fun _=>rfl) aB.h aB.jm (bU _) rfl (fun _ _=>rfl) (fun _ _=>rfl) (fun j aX BW ch=>(YI j aX BW ch).elim) (fun h=>by cases h) (fun h=>by cases h)) aw he
     |true=>
      have he:Pq S H o.dst (dM P call aJ ops a1) (nT P S.T o.op)=some c8:=he;cases ew:nT P S.T o.op with
      |none=>rw[ew] at he;cases he
      |some q=>
       obtain⟨gC,eD⟩:=q;rw[ew] at he;have he:Pr S o.dst (dM P call aJ ops a1) eD (H.new gC)=some c8:=he;cases aE:H.new gC with
       |none=>rw[aE] at he;cases he
       |some q=>
        obtain⟨a,H1⟩:=q;rw[aE] at he;obtain⟨XQ,ax,aS,cl,dS,cx⟩:=ar.pp aE;subst XQ;have lM:px (dM P call aJ ops a1) H1 (S.put o.dst (eD.at H.an))=some c8:=he;cases ny:S.put o.dst (eD.at H.an) with
        |none=>rw[ny] at lM;cases lM
        |some aH=>
         rw[ny] at lM
         refine aP _ _ aH H1 (fun j=>if j=i then H.an else A j) (Tl hs aB ah aA aC ny ay (fun h=>by cases h) (aB.h.asH aE (WS ew)) (aB.jm.new aE) (by omega) dS (fun x aa=>by rw[cx,aQ (by omega)])
          (fun j aX=>aQ aX) (fun j aX BW ch=>(YI j aX BW ch).elim) (fun _ h=>by rw[aF] at h;cases h) (fun _ _=>⟨aV rfl,ax,aB.jm.an,gC,eD,ew,rfl,by rw[cx,aV rfl]⟩)) aw lM
end
end
end Go.Cre
namespace Go.Cre
noncomputable section
open Go.RowKit
open Classical
section
variable {P:Program}{B:Nat->Prop}{w0 w:World}{μ jT:bY}{H H0 H' H1:ar}{S jd aH a4:aZ}{fr:Frame}{tmps:Array Value}{ds:List Deferred}{cs jG:List Frame}{call:eI}{aJ:hl}
variable {ops:Array Oper}{bw cV C K G:Nat}{D:Nat->Bool}{A:Nat->Nat}{i:Nat}{o:Oper}{k:List Item}{rest:List Nat}
theorem a0.JO{α:Type}{a v:α}{t:a0 α}:∀{n:Nat},t.get n=some v->∃lx,a0.put a t n=some lx:=by
 induction t with
 |leaf=>intro n h;cases h
 |node u l r yr yt=>
  intro n h;cases n with
  |zero=>exact⟨_,rfl⟩
  |succ m=>
   rw[a0.rO] at h;rw[a0.NK];by_cases hm:m % 2=0
   ·rw[aV hm] at h ⊢;obtain⟨l',e⟩:=yr h;rw[e];exact⟨_,rfl⟩
   ·rw[aQ hm] at h ⊢;obtain⟨cv,e⟩:=yt h;rw[e];exact⟨_,rfl⟩
theorem aZ.FP{p:Nat->Bool}{dst:Option Tmp}(h:∀t,dst=some t->t<S.n/\∃u,S.T.get t=some u)(v:Value):∃pU,(S.only p).put dst v=some pU:=by
 cases dst with
 |none=>exact⟨_,rfl⟩
 |some d=>
  obtain⟨ad,u,ae⟩:=h d rfl;obtain⟨T,n,gd,bR,bg,cr⟩:=S;show ∃pU,Bool.rec (motive:=fun _=>Option aZ) none (aZ.qw n gd bR bg cr (a0.put v (T.gn p) d)) (Nat.ble (Nat.succ d) n)=some pU;have ai:Nat.ble (Nat.succ d) n=true:=mo ad;rw[ai];obtain⟨qK,ax⟩:=a0.JO (a:=v) ae;obtain⟨axK,aS⟩:=a0.acQ p ax;rw[aS];exact⟨_,rfl⟩
theorem ac4{X:aZ}{dst:Option Tmp}{v:Value}{c8:dJ}(h:mh X dst v H'=some c8):∃a4,X.put dst v=some a4/\c8=.ok a4 H':=by
 unfold mh ob at h;cases aw:X.put dst v with
 |none=>rw[aw] at h;cases h
 |some a4=>rw[aw] at h;have h:some (dJ.ok a4 H')=some c8:=h;injection h with h;exact⟨a4,rfl,h.symm⟩
theorem ac5{X:aZ}{dst:Option Tmp}{v:Value}(h:X.put dst v=some a4):mh X dst v H'=some (.ok a4 H'):=by
 unfold mh;rw[h];rfl
theorem ar4{l:List Oper}{p:Nat->Bool}(aq:∀t∈looks l o,p t=true)(he:one P call aJ l S H o=some (.ok a4 H1)):
 ∃gk,one P call aJ l (S.only p) H o=some (.ok gk H1)/\gk.n=a4.n/\gk.ds=a4.ds/\gk.bR=a4.bR/\gk.bg=a4.bg/\gk.cr=a4.cr/\a4.n=S.n/\a4.bR=S.bR/\a4.cr=S.cr/\
  (∀t,gk.T.get t=if o.dst=some t then a4.T.get t else(S.only p).T.get t)/\(∀t,o.dst≠some t->a4.T.get t=S.T.get t):=by
 have x8:∀t∈looks l o,(S.only p).T.get t=S.T.get t:=fun t aI=>by
  show(S.T.gn p).get t=_;rw[a0.HE,aq t aI];rfl
 have key:∀(X:aZ) (v:Value) (bW:ar),X.n=S.n->X.bR=S.bR->X.cr=S.cr->X.T=S.T->mh X o.dst v bW=some (.ok a4 H1)->
  ∃gk,mh (X.only p) o.dst v bW=some (.ok gk H1)/\gk.n=a4.n/\gk.ds=a4.ds/\gk.bR=a4.bR/\gk.bg=a4.bg/\gk.cr=a4.cr/\a4.n=S.n/\a4.bR=S.bR/\a4.cr=S.cr/\
  (∀t,gk.T.get t=if o.dst=some t then a4.T.get t else(S.only p).T.get t)/\(∀t,o.dst≠some t->a4.T.get t=S.T.get t):=by
  intro X v bW dW fi Ki Kj q;obtain⟨Pe,aL,aG⟩:=ac4 q;injection aG with aG bt;subst aG;subst bt
  obtain⟨gk,du⟩:=aZ.as' p aL;obtain⟨ba,bd,cm,cQ,dw,e0⟩:=aZ.put_eq aL;obtain⟨a',bf,bV,dx,fs,fb⟩:=aZ.put_eq du;refine⟨gk,ac5 du,a'.trans ba.symm,bf.trans bd.symm,bV.trans cm.symm,dx.trans cQ.symm,fs.trans dw.symm,ba.trans dW,cm.trans fi,dw.trans Ki,fun t=>?_,fun t aI=>?_⟩
  ·rw[fb];by_cases au:o.dst=some t
   ·rw[aV au,aV au,e0,aV au]
   ·rw[aQ au,aQ au];show(X.T.gn p).get t=(S.T.gn p).get t;rw[Kj]
  ·rw[e0,aQ aI,Kj]
 unfold one at he ⊢;rw[sP x8];cases ay:fT l S.T o with
 |none=>rw[ay] at he;cases he
 |some b=>
  rw[ay] at he;cases b with
  |false=>exact key S undef H rfl rfl rfl rfl he
  |true=>
   have he:oP S H o.dst (cz P call aJ S H o)=some (.ok a4 H1):=he;show ∃gk,oP (S.only p) H o.dst (cz P call aJ (S.only p) H o)=some (.ok gk H1)/\_;rw[Hv (S:=S) (aH:=S.only p) rfl (JF x8)];cases g7:cz P call aJ S H o with
   |none=>rw[g7] at he;cases he
   |some r=>
    rw[g7] at he;cases r with
    |val v bW=>exact key S v bW rfl rfl rfl rfl he
    |skip bW=>exact key S undef bW rfl rfl rfl rfl he
    |gx c bW=>have he:some (dJ.gx c S bW)=some (.ok a4 H1):=he;injection he with he;cases he
    |gP d=>
     have he:Ar S H o.dst d=some (.ok a4 H1):=he;show ∃gk,Ar (S.only p) H o.dst d=some (.ok gk H1)/\_;obtain⟨T,n,gd,bR,bg,cr⟩:=S;cases cr with
     |some l=>cases he
     |none=>exact key (aZ.F9 d ⟨T,n,gd,bR,bg,none⟩) undef H rfl rfl rfl rfl he
    |Av=>
     have he:FI S H o.dst (qx S)=some (.ok a4 H1):=he;show ∃gk,FI (S.only p) H o.dst (qx (S.only p))=some (.ok gk H1)/\_;have ao:qx (S.only p)=qx S:=rfl;rw[ao];cases uB:qx S with
     |none=>rw[uB] at he;cases he
     |some q=>
      obtain⟨v,bg⟩:=q;rw[uB] at he;obtain⟨T,n,gd,bR,J',cr⟩:=S;exact key (aZ.zc bg ⟨T,n,gd,bR,J',cr⟩) v H rfl rfl rfl rfl he
theorem ar5{l:List Oper}{p:Nat->Bool}{c:List PanicEntry}(aq:∀t∈looks l o,p t=true)(he:one P call aJ l S H o=some (.gx c a4 H1)):
 a4=S/\one P call aJ l (S.only p) H o=some (.gx c (S.only p) H1):=by
 have x8:∀t∈looks l o,(S.only p).T.get t=S.T.get t:=fun t aI=>by
  show(S.T.gn p).get t=_;rw[a0.HE,aq t aI];rfl
 have no:∀{X:aZ} {v:Value} {bW:ar},mh X o.dst v bW=some (.gx c a4 H1)->False:=fun q=>by
  obtain⟨Pe,_,aG⟩:=ac4 q;cases aG
 unfold one at he ⊢;rw[sP x8];cases ay:fT l S.T o with
 |none=>rw[ay] at he;cases he
 |some b=>
  rw[ay] at he;cases b with
  |false=>exact(no he).elim
  |true=>
   have he:oP S H o.dst (cz P call aJ S H o)=some (.gx c a4 H1):=he;show _/\oP (S.only p) H o.dst (cz P call aJ (S.only p) H o)=_;rw[Hv (S:=S) (aH:=S.only p) rfl (JF x8)];cases g7:cz P call aJ S H o with
   |none=>rw[g7] at he;cases he
   |some r=>
    rw[g7] at he;cases r with
    |val v bW=>exact(no he).elim
    |skip bW=>exact(no he).elim
    |gx br bW=>
     have he:some (dJ.gx br S bW)=some (.gx c a4 H1):=he;injection he with he;injection he with ad ae aD
     subst ad;subst ae;subst aD;exact⟨rfl,rfl⟩
    |gP d=>
     have he:Ar S H o.dst d=some (.gx c a4 H1):=he;obtain⟨T,n,gd,bR,bg,cr⟩:=S;cases cr with
     |some l=>cases he
     |none=>exact(no he).elim
    |Av=>
     have he:FI S H o.dst (qx S)=some (.gx c a4 H1):=he;cases uB:qx S with
     |none=>rw[uB] at he;cases he
     |some q=>
      obtain⟨v,bg⟩:=q;rw[uB] at he;exact(no he).elim
theorem TC(hs:vw ops.toList bw)(aB:Inv P B w0 call aJ ops.toList bw cV jT H0 jd fr jG C K G S H μ w tmps ds cs D A)(ah:ops[i]?=some o)(qe:∀j,(Oper.iU o).testBit j=true->D j=true):
 ∀t∈looks ops.toList o,free ops.toList C D t=true:=fun t aI=>zO.2 fun⟨j,er,a,b,c,d⟩=>by
 rcases hs.look j i er o t c (by simpa using ah) d aI with q|⟨q,_⟩
 ·have:=qe j q;rw[b] at this;cases this
 ·have hk:K.testBit j=false:=by
   cases hk:K.testBit j with
   |false=>rfl
   |true=>have:=aB.k j hk;rw[b] at this;cases this
  have:=(aB.BD j er a hk c).1;rw[q] at this;cases this
def nN(D:Nat->Bool)(i:Nat):Nat->Bool:=fun j=>if j=i then true else D j
theorem tz{j:Nat}:nN D i j=true↔D j=true\/j=i:=by unfold nN;by_cases h:j=i<;>simp[h]
theorem Du{j:Nat}(h:nN D i j=false):D j=false/\j≠i:=by
 unfold nN at h;by_cases e:j=i
 ·rw[aV e] at h;cases h
 ·rw[aQ e] at h;exact⟨h,e⟩
theorem ald{t:Nat}(au:free ops.toList C (nN D i) t=true)(ah:ops[i]?=some o):free ops.toList C D t=true\/o.dst=some t:=by
 by_cases h:Ul ops.toList C D t
 ·obtain⟨j,er,a,b,c,d⟩:=h;by_cases rV:j=i
  ·subst rV;have:ops.toList[j]?=some o:=by simpa using ah
   rw[this] at c;injection c with c;subst c;exact .inr d
  ·exfalso;refine zO.1 au ⟨j,er,a,?_,c,d⟩;unfold nN;rw[aQ rV];exact b
 ·exact .inl (zO.2 h)
theorem atF(hO:pC P B w0 call)(nA:xi P B w0 aJ)(hs:vw ops.toList bw)(aB:Inv P B w0 call aJ ops.toList bw cV jT H0 jd fr jG C K G S H μ w tmps ds cs D A)
 (p4:∀j,C.testBit j=true->K.testBit j=true\/G.testBit j=true)(hM:C.testBit i=true)(cp:D i=false)(ah:ops[i]?=some o)(qe:∀j,(Oper.iU o).testBit j=true->D j=true):
 ∃bh a8 g5 fg cG,Steps P (lone (bP fr tmps ds (.inRegion ops (i::rest)::k)) cs w) (lone (bP fr g5 fg (.inRegion ops rest::k)) cG a8)/\
  Inv P B w0 call aJ ops.toList bw cV jT H0 jd fr jG C K G S H bh a8 g5 fg cG (nN D i) A:=by
 have oI:ops.toList[i]?=some o:=by simpa using ah
 have RZ:=TC hs aB ah qe;have hk:K.testBit i=false:=by
  cases hk:K.testBit i with
  |false=>rfl
  |true=>have:=aB.k i hk;rw[cp] at this;cases this
 have amu:G.testBit i=true:=by
  rcases p4 i hM with q|q
  ·rw[hk] at q;cases q
  ·exact q
 obtain⟨azf,b,ay⟩:=aB.BD i o hM hk oI;have x8:∀t∈looks ops.toList o,(S.only (free ops.toList C D)).T.get t=S.T.get t:=fun t aI=>by
  show(S.T.gn _).get t=_;rw[a0.HE,RZ t aI];rfl
 --Ol stays
 have fin:∀(bh:bY) (a8:World) (g5:Array Value) (fg:List Deferred) (cG:List Frame) (pU:aZ) (v:Value),b8 P B w0 bh H a8->Step jT bh H0 H->kh jd.bR jG cG->
  (S.only (free ops.toList C D)).put o.dst v=some pU->(∀t,o.dst=some t->S.T.get t=some v)->il P bh pU fr g5 fg cG->
  (∀(j:Nat) er,C.testBit j=true->D j=false->j≠i->cV.testBit j=true->ops.toList[j]?=some er->fT ops.toList S.T er=some true->μ (A j)=none->A j<H.an->bh (A j)=none)->
  Inv P B w0 call aJ ops.toList bw cV jT H0 jd fr jG C K G S H bh a8 g5 fg cG (nN D i) A:=by
  intro bh a8 g5 fg cG pU v hd dB g3 ny av RV SA;obtain⟨a',bf,bV,dx,fs,fb⟩:=aZ.put_eq ny;refine⟨hd,?_,dB,g3,aB.bR,aB.cr,fun j aX=>?_,aB.GO,fun j er m aX fu hm=>?_,aB.Ee,fun j aX=>tz.2 (.inl (aB.k j aX)),fun j er aX wb fu=>?_,?_⟩
  ·refine RV.conv a'.symm bf.symm bV.symm dx.symm fs.symm fun t u q=>?_;obtain⟨aL,aG⟩:=wM.1 q;rw[fb];by_cases au:o.dst=some t
   ·rw[aV au];rw[av t au] at aG;exact aG
   ·rw[aQ au];rcases ald aL ah with r|r
    ·exact wM.2 ⟨r,aG⟩
    ·exact absurd r au
  ·rcases tz.1 aX with q|rfl
   ·exact aB.sub j q
   ·exact hM
  ·rcases tz.1 aX with q|rfl
   ·exact tz.2 (.inl (aB.down j er m q fu hm))
   ·rw[oI] at fu;injection fu with fu;subst fu
    exact tz.2 (.inl (qe m hm))
  ·obtain⟨b4,D3,bZ⟩:=aB.BD j er aX wb fu;refine⟨b4,D3,bZ.move rfl rfl (fun _ _=>rfl) (fun _ _=>rfl) (fun _ h=>⟨h,rfl⟩) rfl fun ai aF HL=>?_⟩;obtain⟨d1,d2⟩:=Du HL;refine⟨d1,fun gC _ ⟨ax,aS,cl,dS,cx⟩=>⟨?_,aS,cl,dS,cx⟩⟩;exact SA j er aX d1 d2 aF fu (ai▸bZ.g) ax dS
  ·intro x y eF hX aa ap BJ v3 BX BY q4 qd sX rT eN;exact aB.inj x y eF hX aa ap (Du BJ).1 (Du v3).1 BX BY q4 qd sX rT eN
 --by CT,where nothing is made
 have oQ:∀v,one P call aJ ops.toList (S.only (free ops.toList C D)) H o=mh (S.only (free ops.toList C D)) o.dst v H->(∀t,o.dst=some t->S.T.get t=some v)->
  ∃bh a8 g5 fg cG,Steps P (lone (bP fr tmps ds (.inRegion ops (i::rest)::k)) cs w) (lone (bP fr g5 fg (.inRegion ops rest::k)) cG a8)/\
  Inv P B w0 call aJ ops.toList bw cV jT H0 jd fr jG C K G S H bh a8 g5 fg cG (nN D i) A:=by
  intro v nw av;obtain⟨pU,ny⟩:=aZ.FP (S:=S) (p:=free ops.toList C D) ay.lt v;rw[ac5 ny] at nw;obtain⟨bh,a8,g5,fg,cG,b4,bZ,cH,fX,gf,hc,gU⟩:=CT (k:=k) (rest:=rest) hO nA aB.h aB.f ah nw;refine⟨bh,a8,g5,fg,cG,gU,fin bh a8 g5 fg cG pU v b4 (aB.jm.trans bZ) (aB.Bm.trans ?_) ny av cH fun j er _ _ _ _ _ _ hm cD=>(bZ.gn _ cD hm).1⟩;have:(S.only (free ops.toList C D)).bR=jd.bR:=aB.bR;rw[<-this];exact fX
 have x7:fT ops.toList (S.only (free ops.toList C D)).T o=some b:=by rw[sP x8];exact ay.g
 cases b with
 |false=>
  refine oQ undef ?_ (ay.no rfl);unfold one;rw[x7];rfl
 |true=>
  cases aF:cV.testBit i with
  |false=>
   obtain⟨v,ax,aS⟩:=ay.val rfl aF amu;refine oQ v ?_ aS;unfold one;rw[x7];show oP _ H o.dst (cz P call aJ (S.only (free ops.toList C D)) H o)=_;rw[Hv (S:=S) (aH:=S.only (free ops.toList C D)) rfl (JF x8),ax];rfl
  |true=>
   obtain⟨gC,eD,ax,aS,cl⟩:=ay.kG rfl aF;obtain⟨cW,eE,mF,tc,wE⟩:=cl cp;have xP:nT P (S.only (free ops.toList C D)).T o.op=some (gC,eD):=by rw[Ps x8];exact ax
   obtain⟨jO,N,sz,dq,c2,fp,ij⟩:=agF aB.f.t xP w;have hw:=YC aB.f.t x7;have eh:fr.roundOf=none\/∀c,o.op≠.defer c:=.inr fun c q=>by rw[q] at ax;cases ax
   obtain⟨anu,k1⟩:=aB.h.fill (L:=⟨w.heap.size,N,sz⟩) cW tc eE wE rfl c2;have Cm:bj (μ.put (A i) ⟨w.heap.size,N,sz⟩) (eD.at (A i)) (eD.at w.heap.size):=jn.rel ij (L:=⟨w.heap.size,N,sz⟩) (bY.kw _ _ _);obtain⟨pU,ny⟩:=aZ.FP (S:=S) (p:=free ops.toList C D) ay.lt (eD.at (A i));obtain⟨f1,_⟩:=Uq (aB.f.mono k1) Cm ny;refine⟨_,_,_,_,_,.one (UZ ah hw eh dq),fin _ _ _ _ _ pU (eD.at (A i)) anu ?_ aB.Bm ny aS f1 ?_⟩
   ·refine⟨aB.jm.ext.trans k1,aB.jm.an,aB.jm.bL,fun id B4 hm=>?_⟩;obtain⟨a,b⟩:=aB.jm.gn id B4 hm;refine⟨?_,b⟩;rw[bY.uS _ _ (by omega)];exact a
   ·intro j er aX HL rV BW fu R5 hm cD;rw[bY.uS _ _ ?_]
    ·exact hm
    ·intro q;exact rV (aB.inj j i er o aX hM HL cp BW aF fu oI R5 ay.g q)
theorem atE{c:List PanicEntry}(hO:pC P B w0 call)(nA:xi P B w0 aJ)(hs:vw ops.toList bw)(aB:Inv P B w0 call aJ ops.toList bw cV jT H0 jd fr jG C K G S H μ w tmps ds cs D A)
 (ah:ops[i]?=some o)(qe:∀j,(Oper.iU o).testBit j=true->D j=true)(nw:one P call aJ ops.toList S H o=some (.gx c a4 H1)){todo:List Item}:
 k' P B w0 jT H0 jd fr jG (lone (bP fr tmps ds (.inRegion ops (i::rest)::k)) cs w) todo (.gx c (a4.gone (wJ ops.toList)) H1):=by
 obtain⟨rfl,t1⟩:=ar5 (TC hs aB ah qe) nw;obtain⟨bh,a8,g5,fg,cG,c',h7,b4,bZ,cH,fX,gf,hc,gU,o8⟩:=CT (k:=k) (rest:=rest) hO nA aB.h aB.f ah t1;refine⟨bh,a8,g5,fg,cG,c',h7,b4,aB.jm.trans bZ,⟨⟨c5 _,fun t v q=>cH.t.2 t v ?_⟩,cH.d,cH.kind,cH.uW,cH.Az,cH.bg,cH.fn⟩,aB.Bm.trans (by have:(a4.only (free ops.toList C D)).bR=jd.bR:=aB.bR;rw[<-this];exact fX),aB.bR,aB.cr,gU,o8⟩;obtain⟨aL,aG⟩:=(wM (S:=a4) (p:=wJ ops.toList)).1 q;refine wM.2 ⟨zO.2 fun⟨j,er,_,_,b,d⟩=>?_,aG⟩;have:=rA.1 aL er (et b);rw[d] at this;simp at this
theorem atD(hO:pC P B w0 call)(nA:xi P B w0 aJ)(hs:vw ops.toList bw)(aB:Inv P B w0 call aJ ops.toList bw cV jT H0 jd fr jG C K G S H μ w tmps ds cs D A)
 (hM:C.testBit i=false)(ah:ops[i]?=some o)(qe:∀j,(Oper.iU o).testBit j=true->D j=true)(nw:one P call aJ ops.toList S H o=some (.ok a4 H1))
 {w8:Nat}(YM:w8=vM ops.toList ops.toList.length (Nat.lor K (Nat.pow 2 i)))(amz:∀j,(Oper.iU o).testBit j=true->w8.testBit j=true)(amy:w8.testBit i=true):
 ∃bh a8 g5 fg cG,Steps P (lone (bP fr tmps ds (.inRegion ops (i::rest)::k)) cs w) (lone (bP fr g5 fg (.inRegion ops rest::k)) cG a8)/\
  Inv P B w0 call aJ ops.toList bw cV jT H0 jd fr jG (Nat.lor C (Nat.pow 2 i)) w8 (Nat.land G cV) a4 H1 bh a8 g5 fg cG (nN D i) A:=by
 have oI:ops.toList[i]?=some o:=by simpa using ah
 have RZ:=TC hs aB ah qe;have EA:D i=false:=by
  cases au:D i with
  |false=>rfl
  |true=>have:=aB.sub i au;rw[hM] at this;cases this
 obtain⟨gk,t1,t2,t3,t4,t5,t6,t7,t8,t9,t10,t11⟩:=ar4 RZ nw;obtain⟨bh,a8,g5,fg,cG,b4,bZ,cH,fX,gf,hc,gU⟩:=CT (k:=k) (rest:=rest) hO nA aB.h aB.f ah t1;have Ze:∀(j:Nat) er m,nN D i j=true->ops.toList[j]?=some er->(Oper.iU er).testBit m=true->nN D i m=true:=fun j er m aX fu hm=>by
  rcases tz.1 aX with q|rfl
  ·exact tz.2 (.inl (aB.down j er m q fu hm))
  ·rw[oI] at fu;injection fu with fu;subst fu
   exact tz.2 (.inl (qe m hm))
 have YN:∀j,w8.testBit j=true->nN D i j=true:=fun j aX=>by
  rw[YM] at aX;refine aip (D:=nN D i) Ze (fun m hm=>?_) j aX;rcases lX.1 hm with q|rfl
  ·exact tz.2 (.inl (aB.k m q))
  ·exact tz.2 (.inr rfl)
 have Sz:∀{j:Nat},(Nat.lor C (Nat.pow 2 i)).testBit j=true->j≠i->C.testBit j=true:=fun{j} aX dX=>by
  rcases lX.1 aX with q|q
  ·exact q
  ·exact absurd q.symm dX
 --aA7 avD agM not aA4 done ayn look at Ol is written now
 have rP:∀{j:Nat} {er:Oper},C.testBit j=true->w8.testBit j=false->ops.toList[j]?=some er->∀t∈looks ops.toList er,a4.T.get t=S.T.get t:=fun{j er} aX wb fu t aI=>by
  refine t11 t fun au=>?_;rcases hs.look i j o er t oI fu au aI with q|⟨_,q|q⟩
  ·have:=aB.Ee j er i aX fu q;rw[hM] at this;cases this
  ·subst q;rw[hM] at aX;cases aX
  ·rw[amz j q] at wb;cases wb
 have ayX:∀{j:Nat},w8.testBit j=false->j≠i->D j=false->K.testBit j=false:=fun{j} _ _ au=>by
  cases hk:K.testBit j with
  |false=>rfl
  |true=>have:=aB.k j hk;rw[au] at this;cases this
 have Sq:∀{j:Nat},nN D i j=false->w8.testBit j=false:=fun{j} au=>by
  cases hk:w8.testBit j with
  |false=>rfl
  |true=>have:=YN j hk;rw[au] at this;cases this
 refine⟨bh,a8,g5,fg,cG,gU,⟨b4,?_,aB.jm.trans bZ,aB.Bm.trans ?_,t8.trans aB.bR,t9.trans aB.cr,fun j aX=>?_,fun j aX=>?_,Ze,fun j er m aX fu hm=>?_,YN,fun j er aX wb fu=>?_,?_⟩⟩
 ·refine cH.conv t2.symm t3.symm t4.symm t5.symm t6.symm fun t u q=>?_;obtain⟨aL,aG⟩:=wM.1 q;rw[t10];by_cases au:o.dst=some t
  ·rw[aV au];exact aG
  ·rw[aQ au];rw[t11 t au] at aG;refine wM.2 ⟨?_,aG⟩;rw[zO] at aL ⊢;intro⟨j,er,a,b,c,d⟩;refine aL ⟨j,er,lX.2 (.inl a),?_,c,d⟩;unfold nN;rw[aQ (fun e=>by subst e;rw[hM] at a;cases a)];exact b
 ·have:(S.only (free ops.toList C D)).bR=jd.bR:=aB.bR;rw[<-this];exact fX
 ·rcases tz.1 aX with q|rfl
  ·exact lX.2 (.inl (aB.sub j q))
  ·exact lX.2 (.inr rfl)
 ·rcases lX.1 aX with q|rfl
  ·exact aB.GO j q
  ·exact⟨o,oI⟩
 ·rcases lX.1 aX with q|rfl
  ·exact lX.2 (.inl (aB.Ee j er m q fu hm))
  ·rw[oI] at fu;injection fu with fu;subst fu
   exact lX.2 (.inl (aB.sub m (qe m hm)))
 ·have rV:j≠i:=fun e=>by subst e;rw[amy] at wb;cases wb
  have Zq:=Sz aX rV;cases hk:K.testBit j with
  |true=>
   exfalso;have m5:∀{n Gl:Nat},Gl.testBit j=true->(vM ops.toList n Gl).testBit j=true:=by
    intro n;induction n with
    |zero=>intro Gl h;exact h
    |succ n aP=>
     intro Gl h;simp only[vM];refine aP ?_;cases ai:Gl.testBit n with
     |false=>exact h
     |true=>
      rw[cd];cases nth ops.toList n with
      |none=>exact h
      |some o=>simp only;rw[AG,h];rfl
   rw[YM,m5 (lX.2 (.inl hk))] at wb;cases wb
  |false=>
   obtain⟨bb,D3,br⟩:=aB.BD j er Zq hk fu;refine⟨bb,D3,br.move t7 t9 (rP Zq wb fu) (fun t aI=>t11 t fun au=>hs.dst i j o er t oI fu (Ne.symm rV) au aI) (fun aF ch=>?_) rfl fun ai aF HL=>?_⟩
   ·rw[N5,aF] at ch;simp at ch
   ·obtain⟨d1,d2⟩:=Du HL;refine⟨d1,fun gC eu ⟨ax,aS,cl,dS,cx⟩=>?_⟩;obtain⟨e',fj⟩:=bZ.gn _ dS ax;exact⟨e',by rw[bZ.bL];exact aS,cl,iM dS bZ.an,by rw[fj (by rw[cx];exact eu)];exact cx⟩
 ·intro x y eF hX aa ap BJ v3 BX BY q4 qd sX rT eN;obtain⟨d1,d2⟩:=Du BJ;obtain⟨d3,d4⟩:=Du v3;have aai:=Sz aa d2;have aaj:=Sz ap d4;rw[sP (rP aai (Sq BJ) q4)] at sX;rw[sP (rP aaj (Sq v3) qd)] at rT;exact aB.inj x y eF hX aai aaj d1 d3 BX BY q4 qd sX rT eN
end
end
end Go.Cre

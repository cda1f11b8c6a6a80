/- A part of the proof of TableRounds. -/
import Derived.Test.YtfdhclnfkafebaaGreatDoorCal
set_option linter.unusedVariables false
set_option linter.unusedSimpArgs false
namespace Go.Opn
noncomputable section
open Go.Cre Go.RowKit
inductive ye {P:Program} (Q:dD P) (ops:List Oper):List Oper->a5->aw->dI->Prop
 |nil (S:a5) (H:aw):ye Q ops [] S H (.ok S H)
 |cons (fg:Code->a5->aw->Option (Exit×a5×aw)) (bt:eZ) {o:Oper} {rest:List Oper} {S bl:a5} {H H1:aw} {r:dI}:one P (iO Q bt) (hO Q fg bt).aQ ops S H o=some (.ok bl H1)->ye Q ops rest bl H1 r->ye Q ops (o::rest) S H r
 |jc (fg:Code->a5->aw->Option (Exit×a5×aw)) (bt:eZ) {o:Oper} {rest:List Oper} {S bl:a5} {H H1:aw} {chain:List PanicEntry}:one P (iO Q bt) (hO Q fg bt).aQ ops S H o=some (.jc chain bl H1)->ye Q ops (o::rest) S H (.jc chain bl H1)
theorem ye.sound{P:Program}{Q:dD P}{B:Nat->Prop}{w0:World}(gq:Q.ok B w0){ops:Array Oper}{fr:Frame}{k:List Item}{l:List Oper}{S:a5}{H:aw}{b1:dI}(h:ye Q ops.toList l S H b1):∀(i:Nat) (μ:b5) (w:World) (tmps:Array Value) (ds:List Deferred) (cs:List Frame),
 ops.toList.drop i=l->cd P B w0 μ H w->ib μ S fr tmps ds cs->
 lj P B w0 μ H S fr cs (lone (bY fr tmps ds (.inRegion ops (List.range' i l.length)::k)) cs w) k b1:=by
 induction h with
 |nil S H=>
  intro i μ w tmps ds cs _ h aM;exact⟨μ,w,tmps,ds,cs,h,Step.refl _ _,aM,kn.refl _ _ aM.vb,rfl,rfl,.one RO⟩
 |@cons fg bt o rest S bl H H1 r oN _ aZ=>
  intro i μ w tmps ds cs aq h aM;have aj:ops[i]?=some o:=by
   have:(ops.toList.drop i)[0]?=some o:=by rw[aq];rfl
   simpa using this
  have At:ops.toList.drop (i+1)=rest:=by
   have:(ops.toList.drop i).drop 1=rest:=by rw[aq];rfl
   rw[Et] at this;exact this
  show lj P B w0 μ H S fr cs (lone (bY fr tmps ds (.inRegion ops (i::List.range' (i+1) rest.length)::k)) cs w) k r;have ad:=DQ (k:=k) (rest:=List.range' (i+1) rest.length) (M6 bt gq) (L0 (E:=hO Q fg bt) (Co fg gq)) h aM aj oN;exact ad.bind fun fm bm zr uW gA ck _ c6 _ _ _=>aZ (i+1) fm bm zr uW gA At ck c6
 |@jc fg bt o rest S bl H H1 chain oN=>
  intro i μ w tmps ds cs aq h aM;have aj:ops[i]?=some o:=by
   have:(ops.toList.drop i)[0]?=some o:=by rw[aq];rfl
   simpa using this
  show lj P B w0 μ H S fr cs (lone (bY fr tmps ds (.inRegion ops (i::List.range' (i+1) rest.length)::k)) cs w) k _;exact DQ (k:=k) (rest:=List.range' (i+1) rest.length) (M6 bt gq) (L0 (E:=hO Q fg bt) (Co fg gq)) h aM aj oN
def XW (S:a5)(H:aw):Option (List PanicEntry)->dI
 |none=>.ok S H
 |some c=>.jc c S H
def NL:Option (List PanicEntry)->Exit
 |none=>.normal
 |some c=>.panic c
theorem dX.ops{P:Program}{Q:dD P}{id:Nat}{ops:Array Oper}{S aP:a5}{H H':aw}{p:Option (List PanicEntry)}(h:ye Q ops.toList ops.toList S H (XW aP H' p)):dX Q (.region id ops false) S H (NL p) aP H':=by
 refine .mk fun B w0 gq μ w fr tmps ds cs k it me b4 ag=>?_;obtain rfl:=ag.plain (fun _ q=>by cases q);have:=h.sound (k:=k) (fr:=fr) gq 0 μ w tmps ds cs (by simp) me b4;have aC:List.range' 0 ops.toList.length=List.range ops.size:=by rw[abu];simp
 rw[aC] at this;exact(Ru (by cases p<;>rfl) this).steps (.one ZT)
structure ef where
 P:Program
 fF:a4 Func
 cX:td P fF
 Q:dD P
 g0:Nat
abbrev a8:=List (Nat×ec)
section
variable {K:ef}{B:dy}
def W(K:ef)(B:dy)(ops rest:List Oper)(E:cC)(m:a8)(J:an)(bF:Option (List PanicEntry)->cC->a8->an->Prop):Prop:=
 ∀S H,Sat E S->Inv K.g0 B J m H->∃p aP H' cV m' ah,ye K.Q ops rest S H (XW aP H' p)/\Sat cV aP/\Inv K.g0 B ah m' H'/\bF p cV m' ah
def ae(K:ef)(B:dy)(c:Code)(E:cC)(m:a8)(J:an)(bF:Exit->cC->a8->an->Prop):Prop:=
 ∀S H,Sat E S->Inv K.g0 B J m H->∃e aP H' cV m' ah,dX K.Q c S H e aP H'/\Sat cV aP/\Inv K.g0 B ah m' H'/\bF e cV m' ah
def Exec(K:ef)(B:dy)(o:Oper)(E:cC)(m:a8)(J:an)(e8:cC->a8->an->Prop):Prop:=
 ∀S H,Sat E S->Inv K.g0 B J m H->∃fg bt aP H' cV m' ah,qE S H o.dst (cL K.P (iO K.Q bt) (hO K.Q fg bt).aQ S H o)=some (.ok aP H')/\Sat cV aP/\Inv K.g0 B ah m' H'/\e8 cV m' ah
variable {ops rest:List Oper}{E:cC}{m m':a8}{J:an}{o:Oper}{bF:Option (List PanicEntry)->cC->a8->an->Prop}{e8:cC->a8->an->Prop}{c7 at0:Exit->cC->a8->an->Prop}
theorem W.nil(h:bF none E m J):W K B ops [] E m J bF:=fun S H ax aH=>⟨none,S,H,E,m,J,.nil S H,ax,aH,h⟩
theorem W.step(aF:o.guard=none)(h:Exec K B o E m J fun E m J=>W K B ops rest E m J bF):W K B ops (o::rest) E m J bF:=by
 intro S H ax aH;obtain⟨fg,bt,bl,H1,hV,c1,bK,ad,af,aV,bq⟩:=h S H ax aH;obtain⟨p,aP,H',cV,m',ah,a7,a0,bJ,cO⟩:=bq bl H1 af aV;refine⟨p,aP,H',cV,m',ah,.cons fg bt ?_ a7,a0,bJ,cO⟩;unfold one gp;rw[aF];exact ad
def lr (ops:List Oper)(o:Oper):Option (Nat×Bool):=match o.guard with
 |some (j,want)=>(match nth ops j with|some p=>(match p.dst with|some d=>some (d,want)|none=>none)|none=>none)
 |none=>none
theorem CH{S:a5}{d:Nat}{want b:Bool}(aF:lr ops o=some (d,want))(ak:S.T.get d=some (.bool b)):gp ops S.T o=some (b==want):=by
 unfold lr at aF;unfold gp;cases q:o.guard with
 |none=>rw[q] at aF;cases aF
 |some x=>
  obtain⟨j,w⟩:=x;rw[q] at aF;show u3 ops S.T (j,w)=_;unfold u3;simp only at aF ⊢;cases aE:nth ops j with
  |none=>rw[aE] at aF;cases aF
  |some p=>
   rw[aE] at aF;simp only at aF ⊢;cases aq:p.dst with
   |none=>rw[aq] at aF;cases aF
   |some ln=>
    rw[aq] at aF;simp only[cD,dK] at aF;obtain⟨rfl,rfl⟩:=aF;simp only[ak]
theorem W.split{n:Nat}{ds:eK}{l:List (Nat×Value)}{d:Nat}{b:Bool}(ak:look l d=some (.bool b))(ad:b=true->W K B ops rest ⟨n,ds,(d,.bool true)::l⟩ m J bF)(aO:b=false->W K B ops rest ⟨n,ds,(d,.bool false)::l⟩ m J bF):W K B ops rest ⟨n,ds,l⟩ m J bF:=by
 intro S H ax aH;have key:∀c:Bool,b=c->Sat ⟨n,ds,(d,.bool c)::l⟩ S:=fun c e=>by
  subst e;refine⟨ax.n,ax.ds,ax.cb,ax.bE,ax.cP,ax.has,fun t v q=>?_⟩;have aU:(bif Nat.beq t d then some (Value.bool b) else look l t)=some v:=q;cases bS:Nat.beq t d with
  |true=>rw[bS,cv] at aU;obtain rfl:=eC bS;rw[<-aU];exact ax.get _ _ ak
  |false=>rw[bS,dB] at aU;exact ax.get t v aU
 cases b with
 |true=>exact ad rfl S H (key true rfl) aH
 |false=>exact aO rfl S H (key false rfl) aH
theorem W.Vc{n:Nat}{ds:eK}{l:List (Nat×Value)}{d:Nat}{want b:Bool}(aF:lr ops o=some (d,want))(ak:look l d=some (.bool b))(hw:(b==want)=true)(h:Exec K B o ⟨n,ds,l⟩ m J fun E m J=>W K B ops rest E m J bF):W K B ops (o::rest) ⟨n,ds,l⟩ m J bF:=by
 intro S H ax aH;have e4:=CH aF (ax.get d _ ak);obtain⟨fg,bt,bl,H1,hV,c1,bK,aX,aU,b0,dN⟩:=h S H ax aH;obtain⟨p,aP,H',cV,m',ah,a7,a0,bJ,cO⟩:=dN bl H1 aU b0;refine⟨p,aP,H',cV,m',ah,.cons fg bt ?_ a7,a0,bJ,cO⟩;unfold one;rw[e4,hw];exact aX
theorem W.wH{n:Nat}{ds:eK}{l:List (Nat×Value)}{d e:Nat}{want b:Bool}(aF:lr ops o=some (d,want))(ak:look l d=some (.bool b))(hw:(b==want)=false)(aq:o.dst=some e)(aE:Nat.blt e n=true)(h:W K B ops rest ⟨n,ds,(e,undef)::l⟩ m J bF):W K B ops (o::rest) ⟨n,ds,l⟩ m J bF:=by
 intro S H ax aH;have e4:=CH aF (ax.get d _ ak);obtain⟨bl,s1,s2⟩:=ax.put (dst:=some e) aE undef;obtain⟨p,aP,H',cV,m',ah,a7,a0,bJ,cO⟩:=h bl H s2 aH;refine⟨p,aP,H',cV,m',ah,.cons il lG ?_ a7,a0,bJ,cO⟩;unfold one;rw[e4,hw];show ot H (S.put o.dst undef)=_;rw[aq,s1];rfl
def jQ(K:ef)(B:dy)(o:Oper)(E:cC)(m:a8)(J:an)(e8:cC->a8->an->Prop):Prop:=
 ∀S H,Sat E S->Inv K.g0 B J m H->∃aP H' cV m' ah,(∀call aQ,qE S H o.dst (cL K.P call aQ S H o)=some (.ok aP H'))/\Sat cV aP/\Inv K.g0 B ah m' H'/\e8 cV m' ah
theorem Exec.of(h:jQ K B o E m J e8):Exec K B o E m J e8:=fun S H ax aH=>by
 obtain⟨aP,H',cV,m',ah,ad,af,aV,bq⟩:=h S H ax aH;exact⟨il,lG,aP,H',cV,m',ah,ad _ _,af,aV,bq⟩
theorem Exec.val{n:Nat}{ds:eK}{l:List (Nat×Value)}{d:Nat}{v:Value}(aq:o.dst=some d)(aE:Nat.blt d n=true)(eA:∀call aQ S H,Sat ⟨n,ds,l⟩ S->Inv K.g0 B J m H->cL K.P call aQ S H o=some (.val v H))(h:e8 ⟨n,ds,(d,v)::l⟩ m J):Exec K B o ⟨n,ds,l⟩ m J e8:=by
 intro S H ax aH;obtain⟨bl,s1,s2⟩:=ax.put (dst:=some d) aE v;refine⟨il,lG,bl,H,_,m,J,?_,s2,aH,h⟩;rw[eA _ _ S H ax aH,aq];show ot H (S.put (some d) v)=_;rw[s1];rfl
theorem jQ.BK{n:Nat}{ds:eK}{l:List (Nat×Value)}{d:Nat}(aq:o.dst=some d)(aE:Nat.blt d n=true)(eA:∀S H,Sat ⟨n,ds,l⟩ S->Inv K.g0 B J m H->∃v H' m' ah,(∀call aQ,cL K.P call aQ S H o=some (.val v H'))/\Inv K.g0 B ah m' H'/\e8 ⟨n,ds,(d,v)::l⟩ m' ah):jQ K B o ⟨n,ds,l⟩ m J e8:=by
 intro S H ax aH;obtain⟨v,H',m',ah,a7,a0,bJ⟩:=eA S H ax aH;obtain⟨bl,s1,s2⟩:=ax.put (dst:=some d) aE v;refine⟨bl,H',_,m',ah,fun call aQ=>?_,s2,a0,bJ⟩;rw[a7,aq];show ot H' (S.put (some d) v)=_;rw[s1];rfl
theorem jQ.skip{E:cC}(aq:o.dst=none)(eA:∀S H,Sat E S->Inv K.g0 B J m H->∃H' m' ah,(∀call aQ,cL K.P call aQ S H o=some (.skip H'))/\Inv K.g0 B ah m' H'/\e8 E m' ah):jQ K B o E m J e8:=by
 intro S H ax aH;obtain⟨H',m',ah,a7,a0,bJ⟩:=eA S H ax aH;refine⟨S,H',E,m',ah,fun call aQ=>?_,ax,a0,bJ⟩;rw[a7,aq];rfl
theorem ae.region{id:Nat}{a:Array Oper}(h:W K B a.toList a.toList E m J fun p E m J=>c7 (NL p) E m J):ae K B (.region id a false) E m J c7:=by
 intro S H ax aH;obtain⟨p,aP,H',cV,m',ah,a7,a0,bJ,cO⟩:=h S H ax aH;exact⟨NL p,aP,H',cV,m',ah,dX.ops a7,a0,bJ,cO⟩
theorem ae.skip(h:c7 .normal E m J):ae K B .skip E m J c7:=fun S H ax aH=>⟨_,S,H,E,m,J,dX.skip K.cX.sJ,ax,aH,h⟩
theorem ae.ret(h:c7 .ret E m J):ae K B .ret E m J c7:=fun S H ax aH=>⟨_,S,H,E,m,J,dX.ret K.cX.sJ,ax,aH,h⟩
theorem ae.exit{id:Nat}(h:c7 (.exit id) E m J):ae K B (.exit id) E m J c7:=fun S H ax aH=>⟨_,S,H,E,m,J,dX.exit K.cX.sJ,ax,aH,h⟩
abbrev anP(K:ef)(B:dy)(b:Code)(c7:Exit->cC->a8->an->Prop):Exit->cC->a8->an->Prop:=fun e E m J=>match e with
 |.normal=>ae K B b E m J c7
 |e=>c7 e E m J
theorem ae.seq{a b:Code}(h:ae K B a E m J (anP K B b c7)):ae K B (.seq a b) E m J c7:=by
 intro S H ax aH;obtain⟨e,bl,H1,hV,c1,bK,ad,af,aV,bq⟩:=h S H ax aH;cases e with
 |normal=>
  have bq:ae K B b hV c1 bK c7:=bq;obtain⟨b3,aP,H',cV,m',ah,a7,a0,bJ,cO⟩:=bq bl H1 af aV;exact⟨b3,aP,H',cV,m',ah,dX.seq ad a7,a0,bJ,cO⟩
 |exit i=>exact⟨_,bl,H1,hV,c1,bK,dX.HS ad (fun q=>by cases q),af,aV,bq⟩
 |goto i=>exact⟨_,bl,H1,hV,c1,bK,dX.HS ad (fun q=>by cases q),af,aV,bq⟩
 |ret=>exact⟨_,bl,H1,hV,c1,bK,dX.HS ad (fun q=>by cases q),af,aV,bq⟩
 |panic c=>exact⟨_,bl,H1,hV,c1,bK,dX.HS ad (fun q=>by cases q),af,aV,bq⟩
 |outgrown=>exact⟨_,bl,H1,hV,c1,bK,dX.HS ad (fun q=>by cases q),af,aV,bq⟩
abbrev acx(id:Nat)(c7:Exit->cC->a8->an->Prop):Exit->cC->a8->an->Prop:=fun e E m J=>match e with
 |.exit j=>if j=id then c7 .normal E m J else c7 (.exit j) E m J
 |e=>c7 e E m J
theorem ae.block{id:Nat}{c:Code}(h:ae K B c E m J (acx id c7)):ae K B (.block id c) E m J c7:=by
 intro S H ax aH;obtain⟨e,bl,H1,hV,c1,bK,ad,af,aV,bq⟩:=h S H ax aH;refine⟨_,bl,H1,hV,c1,bK,dX.block K.cX.sJ ad,af,aV,?_⟩;cases e with
 |exit j=>
  have bq:if j=id then c7 .normal hV c1 bK else c7 (.exit j) hV c1 bK:=bq;show c7 (if j=id then .normal else .exit j) hV c1 bK;split at bq
  ·rename_i q;rw[bj q];exact bq
  ·rename_i q;rw[bd q];exact bq
 |_=>exact bq
def bT (l:List (Nat×Value)):Operand->Option Value
 |.tmp t=>look l t
 |.const v=>Rg v
 |.global _=>none
 |.func f=>some (.func (.func f) #[] #[])
theorem dg{E:cC}{S:a5}(ax:Sat E S)(H:aw){x:Operand}{v:Value}(h:bT E.l x=some v):ba S.T H x=some v:=by
 cases x with
 |tmp t=>exact ax.get t v h
 |const c=>exact h
 |global g=>cases h
 |func f=>exact h
theorem ae.cond{n:Nat}{ds:eK}{l:List (Nat×Value)}{x:Operand}{a b:Code}{t:Bool}(ab:bT l x=some (.bool t))(ad:t=true->ae K B a ⟨n,ds,l⟩ m J c7)(aO:t=false->ae K B b ⟨n,ds,l⟩ m J c7):ae K B (.cond x a b) ⟨n,ds,l⟩ m J c7:=by
 intro S H ax aH;cases t with
 |true=>
  obtain⟨e,aP,H',cV,m',ah,a7,a0,bJ,cO⟩:=ad rfl S H ax aH;exact⟨e,aP,H',cV,m',ah,dX.cond K.cX.sJ (dg ax H ab) a7,a0,bJ,cO⟩
 |false=>
  obtain⟨e,aP,H',cV,m',ah,a7,a0,bJ,cO⟩:=aO rfl S H ax aH;exact⟨e,aP,H',cV,m',ah,dX.cond K.cX.sJ (dg ax H ab) a7,a0,bJ,cO⟩
theorem ae.Fe{n:Nat}{ds:eK}{l:List (Nat×Value)}{x:Operand}{a b:Code}(ab:bT l x=some (.bool true))(h:ae K B a ⟨n,ds,l⟩ m J c7):ae K B (.cond x a b) ⟨n,ds,l⟩ m J c7:=ae.cond ab (fun _=>h) (fun q=>by cases q)
theorem ae.sb{n:Nat}{ds:eK}{l:List (Nat×Value)}{x:Operand}{a b:Code}(ab:bT l x=some (.bool false))(h:ae K B b ⟨n,ds,l⟩ m J c7):ae K B (.cond x a b) ⟨n,ds,l⟩ m J c7:=ae.cond ab (fun q=>by cases q) (fun _=>h)
def o1(l:List (Nat×Value)):List (Nat×Value)->Prop
 |[]=>True
 |(t,v)::l'=>look l t=some v/\o1 l l'
theorem o1.look{l:List (Nat×Value)}:∀{l':List (Nat×Value)},o1 l l'->∀t v,look l' t=some v->look l t=some v:=by
 intro l';induction l' with
 |nil=>intro _ t v q;cases q
 |cons x l' aZ=>
  obtain⟨u,w⟩:=x;intro h t v q;have aU:(bif Nat.beq t u then some w else Opn.look l' t)=some v:=q;cases ak:Nat.beq t u with
  |true=>
   rw[ak,cv] at aU;obtain rfl:=eC ak;injection aU with b0;rw[<-b0];exact h.1
  |false=>rw[ak,dB] at aU;exact aZ h.2 t v aU
theorem Sat.sub{n:Nat}{ds:eK}{l l':List (Nat×Value)}{S:a5}(h:Sat ⟨n,ds,l⟩ S)(aD:o1 l l'):Sat ⟨n,ds,l'⟩ S:=Sat.dO (E:=⟨n,ds,l⟩) h aD.look
theorem ae.dO{c:Code}{n:Nat}{ds:eK}{l l':List (Nat×Value)}(aD:o1 l l')(hm:m'.Sublist m)(h:ae K B c ⟨n,ds,l'⟩ m' J c7):ae K B c ⟨n,ds,l⟩ m J c7:=
 fun S H ax aH=>h S H (ax.sub aD) (aH.sub hm)
theorem ae.loop{α:Type}{c:Code}{n:Nat}{ds:eK}(env:α->List (Nat×Value))(mem:α->a8)(et:α->an)(inv:α->Prop)(sI:α->Nat)
 (bD:∀s,inv s->ae K B c ⟨n,ds,env s⟩ (mem s) (et s) fun e E m J=>match e with
  |.normal=>∃dC l,inv dC/\sI dC<sI s/\E=⟨n,ds,l⟩/\o1 l (env dC)/\(mem dC).Sublist m/\J=et dC
  |e=>c7 e E m J)(s:α)(ag:inv s):ae K B (.loop c) ⟨n,ds,env s⟩ (mem s) (et s) c7:=by
 have key:∀(k:Nat) (s:α),sI s=k->inv s->ae K B (.loop c) ⟨n,ds,env s⟩ (mem s) (et s) c7:=by
  intro k;induction k using Nat.strongRecOn with
  |_ k aZ=>
   intro s hk ag S H ax aH;obtain⟨e,bl,H1,hV,c1,bK,ad,af,aV,bq⟩:=bD s ag S H ax aH;cases e with
   |normal=>
    obtain⟨dC,l,ck,ch,rfl,gg,gh,rfl⟩:=bq;obtain⟨b3,aP,H',cV,m',ah,a7,a0,bJ,cO⟩:=aZ (sI dC) (by omega) dC rfl ck bl H1 (af.sub gg) (aV.sub gh);exact⟨b3,aP,H',cV,m',ah,dX.XB ad a7,a0,bJ,cO⟩
   |exit i=>exact⟨_,bl,H1,hV,c1,bK,dX.vz ad (fun q=>by cases q),af,aV,bq⟩
   |goto i=>exact⟨_,bl,H1,hV,c1,bK,dX.vz ad (fun q=>by cases q),af,aV,bq⟩
   |ret=>exact⟨_,bl,H1,hV,c1,bK,dX.vz ad (fun q=>by cases q),af,aV,bq⟩
   |panic c=>exact⟨_,bl,H1,hV,c1,bK,dX.vz ad (fun q=>by cases q),af,aV,bq⟩
   |outgrown=>exact⟨_,bl,H1,hV,c1,bK,dX.vz ad (fun q=>by cases q),af,aV,bq⟩
 exact key _ s rfl ag
theorem ae.h9{c:Code}{a:Nat}{b:ec}{x:List Value×TypeId}(ab:b.rowOf=some x)(h:J.le (J.add a x)->ae K B c E m (J.add a x) c7):ae K B c E ((a,b)::m) J c7:=by
 intro S H ax aH;obtain⟨a7,a0⟩:=aH.h9 ab;exact h a0 S H ax a7
def vu(m:a8)(a:Nat):Prop:=a∈ids m
def ky(cj:a8)(H:aw)(J:an):dy:=⟨vu cj,fun a=>a∈cj.map Prod.fst,H,J⟩
def Fn(K:ef)(f:FuncId)(args:List Value)(cj:a8)(J:an)(ek:Value->a8->an->Prop):Prop:=
 ∀H,Inv K.g0 (ky cj H J) J cj H->∃v H' ah m',kS K.Q f args H (.returned v) H'/\Inv K.g0 (ky cj H J) ah m' H'/\ek v m' ah
abbrev DK(_:a8):Prop:=True
theorem Inv.enter{g0:Nat}{cj eB:a8}{H:aw}(h:Inv g0 B J m H)(ap:(cj++eB).Perm m)(hA:DK cj):Inv g0 (ky cj H J) J cj H:=by
 have rk:∀x,x∈cj->x∈m:=fun x q=>ap.subset (nN _ q);have ez:=(Kx ap).nodup_iff.2 h.gv;rw[Kw,IK] at ez;refine⟨h.wf,h.bU,bX _,bX _,fun _ _ _=>rfl,fun _ _=>rfl,h.et,an.le.refl _,fun a x aX aU=>?_,fun a b q=>?_,fun a b q x ab=>?_,ez.1⟩
 ·have aX:J a=none:=aX;rw[aX] at aU;cases aU
 ·obtain⟨a7,a0,bJ,cO⟩:=h.own a b (rk _ q);refine⟨?_,.inr (AY q),bJ,cO⟩;cases b with
  |row=>exact a7
  |map=>exact a7
  |loop=>exact a7
  |hR=>exact a7
  |opn c e r z=>
   obtain⟨f,_,f2,f3⟩:=a7;exact⟨f,.inr ⟨a,r,_,_,_,_,f3,f2,rW.2 ⟨_,q,rfl⟩⟩,f2,f3⟩
 ·obtain⟨a7,a0,bJ⟩:=h.opn a b (rk _ q) x ab;exact⟨a7,.inr (AZ.2 ⟨_,q,.inr ab⟩),bJ⟩
theorem Inv.leave{g0:Nat}{cj eB:a8}{H H':aw}{ah:an}(h:Inv g0 B J m H)(ap:(cj++eB).Perm m)(hk:Inv g0 (ky cj H J) ah m' H'):Inv g0 B ah (m'++eB) H'/\J.le ah:=by
 have ez:=(Kx ap).nodup_iff.2 h.gv;rw[Kw,IK] at ez;have O3:∀a,a∈ids cj\/a∈ids eB->a∈ids m:=fun a q=>(Kx ap).subset (by rw[Kw];exact qV.2 q);have Kb:∀a,vu cj a->B.H0.aG<=a\/B.X a:=fun a q=>h.YD (O3 a (.inl q));have AF:∀a,a∈ids eB->a<H.aG/\¬vu cj a:=fun a q=>⟨h.KM (O3 a (.inr q)),fun r=>ez.2.2 _ r _ q rfl⟩;have F7:∀a,a<H.aG->¬vu cj a->H'.mem.get a=H.mem.get a:=hk.gE;have ly:H.aG<=H'.aG:=hk.aG;have Pm:H.cF<=H'.cF:=hk.cF;have hle:J.le ah:=hk.le;have kL:∀a x,J a=none->ah a=some x->H.aG<=a\/vu cj a:=hk.fresh;have qn:∀f,dy.yC (ky cj H J) f->B.yC f:=fun f q=>by
  rcases q with q|⟨a,r,c,e,z,s,aX,aU,b0⟩
  ·exact .inl (cY h.cF q)
  ·obtain⟨⟨bV,b⟩,ql,ls⟩:=rW.1 b0;have ls:bV=a:=ls;subst ls;have k:=(h.own bV b (ap.subset (nN _ ql))).1;have aU:H.mem.get bV=some (.row c e true f z s):=aU;cases b with
   |row=>have k:=aU.symm.trans k;cases k
   |map=>have k:=aU.symm.trans k;cases k
   |loop=>have k:=aU.symm.trans k;cases k
   |hR=>have k:=aU.symm.trans k;cases k
   |opn c' b3 cW hq=>
    obtain⟨f',a7,a0,bJ⟩:=k;have k:=aU.symm.trans a0;injection k with k;injection k with _ _ _ k
    rw[k];exact a7
 have Vj:∀a,a∈ids eB->ah a=none:=fun a q=>by
  cases bf:ah a with
  |none=>rfl
  |some x=>
   rcases kL a x (h.alp (O3 a (.inr q))) bf with r|r
   ·have:=(AF a q).1;omega
   ·exact absurd r (AF a q).2
 refine⟨⟨hk.wf,hk.bU,cY h.aG ly,cY h.cF Pm,fun a aI fG=>?_,fun f aM=>?_,hk.et,h.le.trans hle,fun a x aX aU=>?_,fun a b q=>?_,fun a b q x ab=>?_,?_⟩,hle⟩
 ·rw[F7 a (iJ aI h.aG),h.gE a aI fG];intro r;rcases Kb a r with q|q
  ·omega
  ·exact fG q
 ·rw[show H'.bP.get f=H.bP.get f from hk.nC f (fun q=>aM (qn f q))];exact h.nC f aM
 ·cases bf:J a with
  |none=>
   rcases kL a x bf aU with r|r
   ·exact .inl (cY h.aG r)
   ·exact Kb a r
  |some y=>exact h.fresh a y aX bf
 ·rcases qV.1 q with q|q
  ·obtain⟨a7,a0,bJ,cO⟩:=hk.own a b q;refine⟨?_,?_,bJ,cO⟩
   ·cases b with
    |row=>exact a7
    |map=>exact a7
    |loop=>exact a7
    |hR=>exact a7
    |opn c e r z=>obtain⟨f,f1,f2,f3⟩:=a7;exact⟨f,qn f f1,f2,f3⟩
   ·rcases(show H.aG<=a\/vu cj a from a0) with r|r
    ·exact .inl (cY h.aG r)
    ·exact Kb a r
  ·obtain⟨a7,a0,bJ,cO⟩:=h.own a b (ap.subset (eF _ q));have JW:=AY q;refine⟨ec.ym a7 (F7 a (AF a JW).1 (AF a JW).2) (fun f l aM=>?_),a0,Vj a JW,cO⟩;rw[show H'.bP.get f=H.bP.get f from hk.nC f (fun dG=>by
    rcases dG with dG|⟨bV,cW,_,_,_,_,aX,_,b0⟩
    ·exact absurd (h.wf.FD aM) (Nat.not_lt.2 dG)
    ·have aX:=aM.symm.trans aX;injection aX with aX;injection aX with aX _
     subst aX;obtain⟨⟨bV,b'⟩,ql,ls⟩:=rW.1 b0;have ls:bV=a:=ls;subst ls;exact(AF bV JW).2 (AY ql))];exact aM
 ·rcases qV.1 q with q|q
  ·obtain⟨a7,a0,bJ⟩:=hk.opn a b q x ab;refine⟨a7,?_,bJ⟩;rcases(show H.aG<=x\/vu cj x from a0) with r|r
   ·exact .inl (cY h.aG r)
   ·exact Kb x r
  ·have j0:x∈ids eB:=AZ.2 ⟨_,q,.inr ab⟩;obtain⟨a7,a0,bJ⟩:=h.opn a b (ap.subset (eF _ q)) x ab;exact⟨iJ a7 ly,a0,Vj x j0⟩
 ·rw[Kw,IK];refine⟨hk.gv,ez.2.1,fun a aI b ak e=>?_⟩;subst e;rcases(show H.aG<=a\/vu cj a from hk.YD aI) with r|r
  ·have:=(AF a ak).1;omega
  ·exact(AF a ak).2 r
def ix (l:List (Nat×Value)):List Operand->Option (List Value)
 |[]=>some []
 |x::r=>match bT l x with
  |some v=>(match ix l r with|some vs=>some (v::vs)|none=>none)
  |none=>none
theorem oG{E:cC}{S:a5}(ax:Sat E S)(H:aw):∀{xs:List Operand} {vs:List Value},ix E.l xs=some vs->fz S.T H xs=some vs:=by
 intro xs;induction xs with
 |nil=>intro vs h;exact h
 |cons x r aZ=>
  intro vs h;simp only[ix] at h;simp only[fz];cases ab:bT E.l x with
  |none=>rw[ab] at h;cases h
  |some v=>
   rw[ab] at h;simp only at h;rw[dg ax H ab];simp only;cases av:ix E.l r with
   |none=>rw[av] at h;cases h
   |some ws=>rw[av] at h;simp only at h;rw[aZ av];exact h
theorem Exec.call{n:Nat}{ds:eK}{l:List (Nat×Value)}{d:Nat}{c:Call}{x:Operand}{f:FuncId}{first cap:Array Value}{args b2:List Value}{cj eB:a8}{ek:Value->a8->an->Prop}
 (aj:o.op=.call c)(aq:o.dst=some d)(aE:Nat.blt d n=true)(aJ:c.callee=.value x)(ab:bT l x=some (.func (.func f) first cap))(aI:ix l c.args.toList=some args)(has:(first.toList++args)++cap.toList=b2)
 (ap:(cj++eB).Perm m)(hA:DK cj)(b4:Fn K f b2 cj J ek)(h:∀v m' ah,J.le ah->ek v m' ah->e8 ⟨n,ds,(d,v)::l⟩ (m'++eB) ah):Exec K B o ⟨n,ds,l⟩ m J e8:=by
 intro S H ax aH;obtain⟨v,H',ah,m',a7,a0,bJ⟩:=b4 H (aH.enter ap hA);obtain⟨cO,gj⟩:=aH.leave ap a0;obtain⟨bl,s1,s2⟩:=ax.put (dst:=some d) aE v;refine⟨il,nU f b2 H (.returned v,H'),bl,H',_,m'++eB,ah,?_,s2,cO,h v m' ah gj bJ⟩;have he:cL K.P (iO K.Q (nU f b2 H (.returned v,H'))) (hO K.Q il (nU f b2 H (.returned v,H'))).aQ S H o=some (.val v H'):=by
  unfold cL e3;simp only[aj];show k9 K.P _ c=_;unfold k9;rw[aJ];show n0 K.P _ _ S.T H c=_;unfold n0;rw[oG ax H aI];simp only[aJ];rw[dg ax H ab];simp only
  show(match kY K.P H (.func f) (first.toList++args) cap.toList with|some (f,b2)=>pk (iO K.Q _ f b2 H)|none=>none)=_
  unfold kY;simp only
  rw[has,Cl a7 (by unfold nU;rw[bj ⟨rfl,rfl,rfl⟩])];rfl
 rw[he,aq];show ot H' (S.put (some d) v)=_;rw[s1];rfl
def yk:List Value->Nat->List (Nat×Value)
 |[],_=>[]
 |v::l,i=>(i,v)::yk l (Nat.succ i)
theorem TS:∀{vs:List Value} {i t:Nat} {v:Value},look (yk vs i) t=some v->i<=t/\vs[t -i]?=some v:=by
 intro vs;induction vs with
 |nil=>intro i t v h;cases h
 |cons x l aZ=>
  intro i t v h;have aU:(bif Nat.beq t i then some x else look (yk l (Nat.succ i)) t)=some v:=h;cases ak:Nat.beq t i with
  |true=>
   rw[ak,cv] at aU;obtain rfl:=eC ak;injection aU with b0
   exact⟨bX _,by simp[b0]⟩
  |false=>
   rw[ak,dB] at aU;obtain⟨ad,af⟩:=aZ aU;refine⟨by omega,?_⟩;rw[show t -i=(t -Nat.succ i)+1 by omega];exact af
theorem TU:∀{vs:List Value} {i n:Nat} {T:a4 Value},T.has n->i+vs.length<=n->∃eG,nS vs i T=some eG/\eG.has n/\∀t,eG.get t=if i<=t/\t<i+vs.length then vs[t -i]? else T.get t:=by
 intro vs;induction vs with
 |nil=>intro i n T h _;exact⟨T,rfl,h,fun t=>by rw[bd (by rw[B7];omega)]⟩
 |cons x l aZ=>
  intro i n T h aD;rw[lP] at aD;obtain⟨y,aB⟩:=h i (by omega);obtain⟨yg,cB⟩:=a4.HL (a:=x) aB;have ad:yg.has n:=fun t aS=>by
   rw[a4.get_put cB];split
   ·exact⟨_,rfl⟩
   ·exact h t aS
  obtain⟨eG,aC,aW,cw⟩:=aZ (i:=i+1) ad (by omega);refine⟨eG,?_,aW,fun t=>?_⟩
  ·simp only[nS,a4.set];rw[cB];exact aC
  ·rw[cw t];by_cases q:i+1<=t/\t<i+1+l.length
   ·rw[bj q,bj (by rw[lP];omega),show t -i=(t -(i+1))+1 by omega];rfl
   ·rw[bd q,a4.get_put cB];by_cases aU:t=i
    ·subst aU;rw[bj rfl,bj (by rw[lP];omega)];simp
    ·rw[bd aU,bd (by rw[lP];omega)]
theorem a4.age{α:Type}(a:α):∀(d n:Nat),n+1<2 ^ d->(a4.full a d).get n=some a:=by
 intro d;induction d with
 |zero=>intro n h;simp at h
 |succ d aZ=>
  intro n h;show(a4.node (some a) (a4.full a d) (a4.full a d)).get n=some a;cases n with
  |zero=>rfl
  |succ n=>
   rw[a4.q6];have:n / 2+1<2 ^ d:=by rw[fC] at h;omega
   split<;>exact aZ _ this
theorem T3(n:Nat):(Cre.blank n).has n:=by
 intro t aS;refine⟨undef,a4.age _ _ _ ?_⟩;unfold NR;have ad:Nat.succ n<2 ^ (Nat.log2 (Nat.succ n)+1):=Nat.lt_log2_self;show t+1<2 ^ (Nat.log2 (Nat.succ n)+1);omega
inductive pa (P:Program) (E:cC) (m:a8) (J:an):List ResultVar->List Value->Prop
 |nil:pa P E m J [] []
 |tmp {t:Tmp} {v:Value} {rs:List ResultVar} {vs:List Value}:look E.l t=some v->pa P E m J rs vs->pa P E m J (.tmp t::rs) (v::vs)
 |cell {t:Tmp} {dH:TypeId} {a:Nat} {cells:List Value} {e:TypeId} {v:Value} {rs:List ResultVar} {vs:List Value}:look E.l t=some (.pointer (some ⟨a,0,none⟩))->(a,ec.row cells e)∈m->m3 P dH cells 0=some v->pa P E m J rs vs->pa P E m J (.cell t dH::rs) (v::vs)
theorem pa.yy{P:Program}{g0:Nat}{S:a5}{H:aw}(ax:Sat E S)(aH:Inv g0 B J m H){rs:List ResultVar}{vs:List Value}(h:pa P E m J rs vs):qi P S.T H rs=some vs:=by
 induction h with
 |nil=>rfl
 |tmp ad _ aZ=>simp only[qi];rw[ax.get _ _ ad];simp only;rw[aZ]
 |cell ad af aV _ aZ=>
  simp only[qi];rw[ax.get _ _ ad];simp only;have aF:=(aH.own _ _ af).1;have aF:H.mem.get _=some (.row _ _ false 0 0 false):=aF;unfold Ad Cw;simp only[aF,aV];rw[aZ]
theorem Fn.cr{f:FuncId}{fn:Func}{c:Code}{args:List Value}{cj:a8}{ek:Value->a8->an->Prop}(aM:K.fF.get f=some fn)(ak:fn.body=some c)(aD:Nat.ble args.length fn.ntmps=true)
 (h:∀H,ae K (ky cj H J) c ⟨fn.ntmps,Ju,yk args 0⟩ cj J fun e E m ah=>(e=.normal\/e=.ret)/\E.ds.ds=[]/\∃vs m',pa K.P E m ah fn.results.toList vs/\m'.Sublist m/\ek (tZ vs) m' ah):Fn K f args cj J ek:=by
 intro H aH;obtain⟨T,bO,bA,cU⟩:=TU (vs:=args) (i:=0) (n:=fn.ntmps) (T3 fn.ntmps) (by have:=hZ aD;omega);have ax:Sat ⟨fn.ntmps,Ju,yk args 0⟩ ⟨T,fn.ntmps,[],false,.run,none⟩:=by
  refine⟨rfl,rfl,rfl,rfl,rfl,bA,fun t v q=>?_⟩;obtain⟨_,aU⟩:=TS q;show T.get t=some v;have:t<args.length:=by
   rcases iK t args.length with r|r
   ·exact r
   ·rw[qT (by omega)] at aU;cases aU
  rw[cU,bj (by omega)];exact aU
 obtain⟨e,aP,H',cV,c1,ah,a7,a0,bJ,cO,gj,vs,m',jJ,oS,rp⟩:=h H _ H ax aH;refine⟨tZ vs,H',ah,m',?_,bJ.sub oS,rp⟩;have wU:aP.ds=[]:=a0.ds.trans gj;refine kS.run K.cX aM ak bO a7 (bE:=aP.bE) ?_;have av:=jJ.yy a0 bJ;rcases cO with rfl|rfl
 ·show r7 aP.bE (iY K.P _ fn aP.T aP.ds .returning H')=_;rw[wU];unfold iY;rw[av];rfl
 ·show r7 aP.bE (iY K.P _ fn aP.T aP.ds .returning H')=_;rw[wU];unfold iY;rw[av];rfl
end
theorem tt{α:Type}(n:Int)(k:Int->α):q5 n k=k n:=by
 cases n with
 |ofNat m=>cases m<;>rfl
 |negSucc m=>cases m<;>rfl
theorem Dq(a b:Int):qy a b=decide (a<b):=by
 cases a with
 |ofNat m=>cases b with
  |ofNat n=>simp only[qy];rw[s6];simp
  |negSucc n=>simp only[qy];rw[s6];simp;omega
 |negSucc m=>cases b with
  |ofNat n=>simp only[qy];rw[s6];simp;omega
  |negSucc n=>simp only[qy];rw[s6];simp;omega
theorem Dp(a b:Int):qx a b=decide (a=b):=by
 cases a with
 |ofNat m=>cases b with
  |ofNat n=>simp only[qx];rw[s6];simp;omega
  |negSucc n=>simp only[qx];rw[s6];simp
 |negSucc m=>cases b with
  |ofNat n=>simp only[qx];rw[s6];simp
  |negSucc n=>simp only[qx];rw[s6];simp
theorem Dv(k:IntKind):mi k k=true:=by cases k<;>rfl
theorem wrap_i64{n:Int}(ad:-9223372036854775808<=n)(af:n<=9223372036854775807):IntKind.i64.wrap n=n:=by
 unfold IntKind.wrap IntKind.signed IntKind.bits;simp only[SE,Jt];split<;>omega
theorem zi(H:aw)(b:Bool):xM H b=some (.val (.bool b) H):=by cases b<;>rfl
section
variable {K:ef}{B:dy}{o:Oper}{n:Nat}{ds:eK}{l:List (Nat×Value)}{m m':a8}{J:an}{e8:cC->a8->an->Prop}{d:Nat}
def c5(K:ef)(B:dy)(o:Oper)(n:Nat)(ds:eK)(l:List (Nat×Value))(m:a8)(J:an)(v:Value):Prop:=∀call aQ S H,Sat ⟨n,ds,l⟩ S->Inv K.g0 B J m H->cL K.P call aQ S H o=some (.val v H)
theorem LO{x:Operand}{v:Value}(aj:o.op=.move x)(ab:bT l x=some v):c5 K B o n ds l m J v:=by
 intro call aQ S H ax aH;unfold cL e3;simp only[aj];show g3 (ba S.T H x) H=_;rw[dg ax H ab];rfl
theorem apt{x:Operand}{v:Value}(aj:o.op=.assign x)(ab:bT l x=some v):c5 K B o n ds l m J v:=by
 intro call aQ S H ax aH;unfold cL e3;simp only[aj];show g3 (ba S.T H x) H=_;rw[dg ax H ab];rfl
theorem apK{c x y:Operand}{t:Bool}{v:Value}(aj:o.op=.pick c x y)(aJ:bT l c=some (.bool t))(az:(if t=true then bT l x else bT l y)=some v):c5 K B o n ds l m J v:=by
 intro call aQ S H ax aH;unfold cL e3;simp only[aj];show y' K.P _ x y (ba S.T H c)=_;rw[dg ax H aJ];cases t with
 |true=>show g3 (ba S.T H x) H=_;rw[dg ax H (by simpa using az)];rfl
 |false=>show g3 (ba S.T H y) H=_;rw[dg ax H (by simpa using az)];rfl
def MQ (k:IntKind)(a b:Int):BinOp->Option Value
 |.add=>some (.int k (k.wrap (a+b)))
 |.sub=>some (.int k (k.wrap (a -b)))
 |.mul=>some (.int k (k.wrap (a*b)))
 |.eql=>some (.bool (decide (a=b)))
 |.neq=>some (.bool (decide (¬a=b)))
 |.lss=>some (.bool (decide (a<b)))
 |.leq=>some (.bool (decide (a<=b)))
 |.gtr=>some (.bool (decide (b<a)))
 |.geq=>some (.bool (decide (b<=a)))
 |_=>none
theorem aan{op:BinOp}{t dH:TypeId}{x y:Operand}{k:IntKind}{a b:Int}{v:Value}(aj:o.op=.binOp op t x y dH)(ab:bT l x=some (.int k a))(aB:bT l y=some (.int k b))(az:MQ k a b op=some v):c5 K B o n ds l m J v:=by
 intro call aQ S H ax aH;unfold cL e3;simp only[aj];show l6 K.P _ op t (ba S.T H x) (ba S.T H y)=_;rw[dg ax H ab,dg ax H aB];show(bif mi k k then jG H k a b _ op else _)=_;rw[Dv,cv];have alo:∀p q:Int,(!decide (p<q))=decide (q<=p):=fun p q=>by rw[s6];simp
 cases op<;>simp only[MQ,cD,reduceCtorEq] at az<;>subst az<;>simp only[jG,tt,Ei,pP,zi,Dp,Dq,alo]
 ·rw[show(!decide (a=b))=decide (¬a=b) by rw[s6];simp]
inductive p9 (m:a8) (J:an) (a:Nat) (cells:List Value):Prop
 |own {e:TypeId}:(a,ec.row cells e)∈m->p9 m J a cells
 |opn {e:TypeId} {r:List Nat} {z:Nat}:(a,ec.opn cells e r z)∈m->p9 m J a cells
 |et {e:TypeId}:J a=some (cells,e)->p9 m J a cells
theorem p9.get{a:Nat}{cells:List Value}(h:p9 m J a cells){g0:Nat}{H:aw}(aH:Inv g0 B J m H):∃e o f z s,H.mem.get a=some (.row cells e o f z s):=by
 cases h with
 |own h=>exact⟨_,_,_,_,_,(aH.own _ _ h).1⟩
 |opn h=>obtain⟨f,_,q,_⟩:=(aH.own _ _ h).1;exact⟨_,_,_,_,_,q⟩
 |et h=>obtain⟨o,f,z,s,q⟩:=aH.et _ _ _ h;exact⟨_,_,_,_,_,q⟩
theorem lM{t:TypeId}{x:Operand}{a off:Nat}{cells:List Value}{v:Value}(aj:o.op=.load t x)(ab:bT l x=some (.pointer (some ⟨a,off,none⟩)))(av:p9 m J a cells)(az:m3 K.P t cells off=some v):c5 K B o n ds l m J v:=by
 intro call aQ S H ax aH;unfold cL e3;simp only[aj];show Bm K.P _ t (ba S.T H x)=_;rw[dg ax H ab];show g3 (Cw K.P H t ⟨a,off,none⟩) H=_;obtain⟨e,o',f,z,s,q⟩:=av.get aH;unfold Cw;simp only[q,az];rfl
theorem iB{P:Program}{t:TypeId}{cells:List Value}{off:Nat}{v:Value}(aS:r6 P t=some none)(az:nth cells off=some v):m3 P t cells off=some v:=by
 unfold m3;rw[aS];exact az
theorem fA{P:Program}{t:TypeId}{cells r:List Value}{off k:Nat}(aS:r6 P t=some (some k))(az:takeN k (nY off cells)=some r):m3 P t cells off=some (.agg r.toArray):=by
 unfold m3;rw[aS];simp only[az]
theorem aqv{t:TypeId}{x:Operand}{v:Value}{cells:List Value}(aj:o.op=.box t x)(aq:o.dst=some d)(aE:Nat.blt d n=true)(ab:bT l x=some v)(aJ:v.cells.toList=cells)(ad:cells.all ff=true)(h:∀a,e8 ⟨n,ds,(d,.pointer (some ⟨a,0,none⟩))::l⟩ ((a,.row cells t)::m) J):jQ K B o ⟨n,ds,l⟩ m J e8:=by
 refine jQ.BK aq aE fun S H ax aH=>?_;obtain⟨H1,aC,aW⟩:=aH.alloc cells t;refine⟨_,H1,_,J,fun call aQ=>?_,aW,h H.aG⟩;unfold cL e3;simp only[aj];show HB K.P _ t (ba S.T H x)=_;rw[dg ax H ab];show nd (wA H t v)=_;unfold wA tY;rw[aJ,ad,cv,aC];rfl
theorem gx{t:TypeId}{z:Value}{cells:List Value}(aj:o.op=.alloc t)(aq:o.dst=some d)(aE:Nat.blt d n=true)(aL:gR K.P t=some z)(ap:plain z=true)(aJ:z.cells.toList=cells)(ad:cells.all ff=true)(h:∀a,e8 ⟨n,ds,(d,.pointer (some ⟨a,0,none⟩))::l⟩ ((a,.row cells t)::m) J):jQ K B o ⟨n,ds,l⟩ m J e8:=by
 refine jQ.BK aq aE fun S H ax aH=>?_;obtain⟨H1,aC,aW⟩:=aH.alloc cells t;refine⟨_,H1,_,J,fun call aQ=>?_,aW,h H.aG⟩;unfold cL e3;simp only[aj];show Re K.P _ t (gR K.P t)=_;rw[aL];show(bif plain z then nd (wA H t z) else none)=_;rw[ap,cv];unfold wA tY;rw[aJ,ad,cv,aC];rfl
theorem ia{t:TypeId}{x y:Operand}{a off k:Nat}{v:Value}{vs cells cells':List Value}{e:TypeId}(aj:o.op=.store t x y)(aq:o.dst=none)(ab:bT l x=some (.pointer (some ⟨a,off,none⟩)))(aB:bT l y=some v)(hk:eV K.P t=some k)(aJ:v.cells.toList=vs)(aD:Nat.beq vs.length k=true)(aO:Nat.blt 0 vs.length=true)(ad:vs.all ff=true)(ag:gw off cells vs=some cells')(ap:dh m a (.row cells e) (.row cells' e) m')(h:e8 ⟨n,ds,l⟩ m' J):jQ K B o ⟨n,ds,l⟩ m J e8:=by
 refine jQ.skip aq fun S H ax aH=>?_;obtain⟨H1,aC,aW⟩:=aH.store ap;obtain⟨a7,a0,bJ,cO⟩:=aH.own _ _ ap.mem;have a7:H.mem.get a=some (.row cells e false 0 0 false):=a7;refine⟨H1,m',J,fun call aQ=>?_,aW,h⟩;unfold cL e3;simp only[aj];show DT K.P _ t (ba S.T H x) (ba S.T H y)=_;rw[dg ax H ab,dg ax H aB];show JO (Ae K.P H t (.pointer (some ⟨a,off,none⟩)) v)=_;unfold Ae;simp only[hk,aJ,aD,cv];unfold se;cases vs with
 |nil=>cases aO
 |cons v0 vs=>
  simp only
  have aF:Nat.blt a H.bU=false:=by
   cases q:Nat.blt a H.bU
   ·rfl
   ·have:a<H.bU:=by simpa[Nat.blt,v8] using q
    have:=aH.bU;omega
  rw[aF,dB,a7];simp only[show Nat.ble 0 off=true from mU (ep _),SE,ad,cv,ag,aC,dB];rfl
theorem apI{x:Operand}{a:Addr}(aj:o.op=.nilCheck x)(ab:bT l x=some (.pointer (some a))):c5 K B o n ds l m J (.pointer (some a)):=by
 intro call aQ S H ax aH;unfold cL e3;simp only[aj];show Bp K.P _ (ba S.T H x)=_;rw[dg ax H ab];rfl
def CB (P:Program)(s:TypeId)(f:Nat):Option Nat:=match P.underlying s with
 |some (.struct fields)=>(match fields[f]? with
  |some fd=>(match eV P fd.type with|some (_+1)=>some fd.offset|_=>none)
  |none=>none)
 |_=>none
theorem rL{s:TypeId}{x:Operand}{f a off k:Nat}(aj:o.op=.fieldAddr s x f)(ab:bT l x=some (.pointer (some ⟨a,off,none⟩)))(aM:CB K.P s f=some k):c5 K B o n ds l m J (.pointer (some ⟨a,off+k,none⟩)):=by
 intro call aQ S H ax aH;unfold cL e3;simp only[aj];show Bl K.P _ s f (ba S.T H x)=_;rw[dg ax H ab];show g3 (Fx K.P s (.pointer (some ⟨a,off,none⟩)) f) H=_;unfold CB at aM;unfold Fx;simp only
 cases hu:K.P.underlying s with
 |none=>rw[hu] at aM;cases aM
 |some uX=>
  rw[hu] at aM;cases uX with
  |struct fields=>
   simp only at aM ⊢;cases bS:fields[f]? with
   |none=>rw[bS] at aM;cases aM
   |some fd=>
    rw[bS] at aM;simp only at aM ⊢;cases aL:eV K.P fd.type with
    |none=>rw[aL] at aM;cases aM
    |some z=>
     rw[aL] at aM;cases z with
     |zero=>cases aM
     |succ z=>simp only[cD] at aM;subst aM;rfl
  |_=>cases aM
def FB (P:Program)(s:TypeId)(f:Nat):Option (TypeId×Nat):=match P.underlying s with
 |some (.struct fields)=>(match fields[f]? with
  |some fd=>some (fd.type,fd.offset)
  |none=>none)
 |_=>none
def Cv (P:Program)(t:TypeId):Option Nat:=match P.underlying t with
 |some (.slice e)=>eV P e
 |_=>none
theorem Qc{i:Int}{len:Nat}(aO:0<=i)(ad:i<len):tQ i len=some i.toNat:=by
 cases i with
 |ofNat n=>
  unfold tQ;have:Nat.blt n len=true:=by
   have:n<len:=by simpa using ad
   simpa[Nat.blt,v8] using this
  simp only[this,cv];rfl
 |negSucc n=>exact absurd aO (by simp)
theorem apA{t:TypeId}{x bh:Operand}{a off len cap sz:Nat}{k:IntKind}{i:Int}(aj:o.op=.indexAddr t x bh)(ab:bT l x=some (.slice (some ⟨a,off,none⟩) len cap))(ar:bT l bh=some (.int k i))(aS:Cv K.P t=some sz)(aO:0<=i)(ad:i<len):c5 K B o n ds l m J (.pointer (some ⟨a,off+i.toNat*sz,none⟩)):=by
 intro call aQ S H ax aH;unfold cL e3;simp only[aj];show xE K.P _ t (ba S.T H x) (ba S.T H bh)=_;rw[dg ax H ab,dg ax H ar];show g3 (wC K.P t (.slice (some ⟨a,off,none⟩) len cap) (.int k i)) H=_;unfold Cv at aS;unfold wC;cases hu:K.P.underlying t with
 |none=>rw[hu] at aS;cases aS
 |some uX=>
  rw[hu] at aS;cases uX with
  |slice e=>
   simp only at aS ⊢;rw[Qc aO ad,aS];rfl
  |_=>cases aS
def isSlice (P:Program)(t:TypeId):Bool:=match P.underlying t with|some (.slice _)=>true|_=>false
def vv (P:Program)(t:TypeId):Bool:=match P.underlying t with|some .string=>true|_=>false
theorem Aa{S:a5}{H:aw}{call:eZ}{aQ:hd}{c:Call}{b:Builtin}(aj:o.op=.call c)(aJ:c.callee=.builtin b):cL K.P call aQ S H o=qh K.P S H o b c:=by
 unfold cL e3;simp only[aj];show k9 K.P _ c=_;unfold k9;rw[aJ]
theorem apF{c:Call}{base:Option Addr}{len cap:Nat}{t:TypeId}(aj:o.op=.call c)(aJ:c.callee=.builtin .len)(aI:ix l c.args.toList=some [.slice base len cap])(aS:c.argTypes.toList=[t])(ag:isSlice K.P t=true):c5 K B o n ds l m J (.int .i64 len):=by
 intro call aQ S H ax aH;rw[Aa aj aJ];unfold qh;rw[oG ax H aI,aS];simp only
 unfold isSlice at ag;split at ag
 ·rename_i e hu;rw[hu]
 ·cases ag
theorem akt{α:Type}(l:List α):A3 l=some l.length:=by
 cases h:A3 l with
 |none=>
  unfold A3 at h;cases ak:isNil (nY 256 l) with
  |true=>rw[ak] at h;cases h
  |false=>
   rw[ak,dB] at h;split at h
   ·cases h
   ·split at h<;>cases h
 |some k=>rw[Xq h]
theorem apG{c:Call}{s:ByteArray}{t:TypeId}(aj:o.op=.call c)(aJ:c.callee=.builtin .len)(aI:ix l c.args.toList=some [.string s])(aS:c.argTypes.toList=[t])(ag:vv K.P t=true):c5 K B o n ds l m J (.int .i64 s.data.toList.length):=by
 intro call aQ S H ax aH;rw[Aa aj aJ];unfold qh;rw[oG ax H aI,aS];simp only
 unfold vv at ag;split at ag
 ·rename_i hu;rw[hu];simp only[akt,tt];rfl
 ·cases ag
theorem apD{t:TypeId}{x bh:Operand}{s:ByteArray}{k:IntKind}{i:Int}{b:UInt8}(aj:o.op=.index t x bh)(ab:bT l x=some (.string s))(ar:bT l bh=some (.int k i))(aS:vv K.P t=true)(aO:0<=i)(ak:s.data.toList[i.toNat]?=some b):c5 K B o n ds l m J (.int .u8 b.toNat):=by
 intro call aQ S H ax aH;unfold cL e3;simp only[aj];show y9 K.P _ (ba S.T H x) (ba S.T H bh) (K.P.underlying t)=_;rw[dg ax H ab,dg ax H ar];unfold vv at aS;split at aS
 ·rename_i hu;rw[hu];unfold y9;simp only
  cases i with
  |ofNat j=>
   simp only[lH];rw[show s.data.toList[j]?=some b from ak];simp only[tt];rfl
  |negSucc j=>exact absurd aO (by simp)
 ·cases aS
theorem apx{x:Operand}{bh:Nat}{vs:Array Value}{v:Value}(aj:o.op=.extract x bh)(ab:bT l x=some (.tuple vs))(az:nth vs.toList bh=some v):c5 K B o n ds l m J v:=by
 intro call aQ S H ax aH;unfold cL e3;simp only[aj];show Bk K.P _ bh (ba S.T H x)=_;rw[dg ax H ab];show g3 (nth vs.toList bh) H=_;rw[az];rfl
end
end
end Go.Opn

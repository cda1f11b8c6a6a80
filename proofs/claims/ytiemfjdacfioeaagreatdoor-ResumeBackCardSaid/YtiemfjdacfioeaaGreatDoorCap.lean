/- A part of the proof of ResumeBack. -/
import Derived.Test.YtiemfjdacfioeaaGreatDoorCao
set_option linter.unusedVariables false
set_option linter.unusedSimpArgs false
namespace Go.Opn
noncomputable section
open Go.Cre Go.RowKit
inductive yw {P:Program} (Q:dI P) (ops:List Oper):List Oper->bi->aB->dH->Prop
 |nil (S:bi) (H:aB):yw Q ops [] S H (.ok S H)
 |cons (fu:Code->bi->aB->Option (Exit×bi×aB)) (aV:eH) {o:Oper} {rest:List Oper} {S bq:bi} {H H1:aB} {r:dH}:one P (il Q aV) (g' Q fu aV).aR ops S H o=some (.ok bq H1)->yw Q ops rest bq H1 r->yw Q ops (o::rest) S H r
 |jE (fu:Code->bi->aB->Option (Exit×bi×aB)) (aV:eH) {o:Oper} {rest:List Oper} {S bq:bi} {H H1:aB} {chain:List PanicEntry}:one P (il Q aV) (g' Q fu aV).aR ops S H o=some (.jE chain bq H1)->yw Q ops (o::rest) S H (.jE chain bq H1)
theorem yw.sound{P:Program}{Q:dI P}{B:Nat->Prop}{w0:World}(fR:Q.ok B w0){ops:Array Oper}{fr:Frame}{k:List Item}{l:List Oper}{S:bi}{H:aB}{dB:dH}(h:yw Q ops.toList l S H dB):∀(i:Nat) (μ:b1) (w:World) (tmps:Array Value) (ds:List Deferred) (cs:List Frame),
 ops.toList.drop i=l->ca P B w0 μ H w->iO μ S fr tmps ds cs->
 kZ P B w0 μ H S fr cs (lone (cj fr tmps ds (.inRegion ops (List.range' i l.length)::k)) cs w) k dB:=by
 induction h with
 |nil S H=>
  intro i μ w tmps ds cs _ h aC;exact⟨μ,w,tmps,ds,cs,h,Step.refl _ _,aC,kV.refl _ _ aC.Bg,rfl,rfl,.one Rh⟩
 |@cons fu aV o rest S bq H H1 r oX _ aK=>
  intro i μ w tmps ds cs aZ h aC;have ar:ops[i]?=some o:=by
   have:(ops.toList.drop i)[0]?=some o:=by rw[aZ];rfl
   simpa using this
  have xl:ops.toList.drop (i+1)=rest:=by
   have:(ops.toList.drop i).drop 1=rest:=by rw[aZ];rfl
   rw[Ar] at this;exact this
  show kZ P B w0 μ H S fr cs (lone (cj fr tmps ds (.inRegion ops (i::List.range' (i+1) rest.length)::k)) cs w) k r;have aa:=EH (k:=k) (rest:=List.range' (i+1) rest.length) (M4 aV fR) (Md (E:=g' Q fu aV) (Dg fu fR)) h aC ar oX;exact aa.bind fun fZ e3 Aa wZ gi g1 _ g3 _ _ _=>aK (i+1) fZ e3 Aa wZ gi xl g1 g3
 |@jE fu aV o rest S bq H H1 chain oX=>
  intro i μ w tmps ds cs aZ h aC;have ar:ops[i]?=some o:=by
   have:(ops.toList.drop i)[0]?=some o:=by rw[aZ];rfl
   simpa using this
  show kZ P B w0 μ H S fr cs (lone (cj fr tmps ds (.inRegion ops (i::List.range' (i+1) rest.length)::k)) cs w) k _;exact EH (k:=k) (rest:=List.range' (i+1) rest.length) (M4 aV fR) (Md (E:=g' Q fu aV) (Dg fu fR)) h aC ar oX
def Xf (S:bi)(H:aB):Option (List PanicEntry)->dH
 |none=>.ok S H
 |some c=>.jE c S H
def NE:Option (List PanicEntry)->Exit
 |none=>.normal
 |some c=>.panic c
theorem ef.ops{P:Program}{Q:dI P}{id:Nat}{ops:Array Oper}{S aS:bi}{H H':aB}{p:Option (List PanicEntry)}(h:yw Q ops.toList ops.toList S H (Xf aS H' p)):ef Q (.region id ops false) S H (NE p) aS H':=by
 refine .mk fun B w0 fR μ w fr tmps ds cs k it pr fQ af=>?_;obtain rfl:=af.plain (fun _ q=>by cases q);have:=h.sound (k:=k) (fr:=fr) fR 0 μ w tmps ds cs (by simp) pr fQ;have aN:List.range' 0 ops.toList.length=List.range ops.size:=by rw[aaJ];simp
 rw[aN] at this;exact(QX (by cases p<;>rfl) this).steps (.one Ze)
structure eL where
 P:Program
 fb:bg Func
 dD:td P fb
 Q:dI P
 g0:Nat
abbrev aO:=List (Nat×cK)
section
variable {K:eL}{B:ea}
def W(K:eL)(B:ea)(ops rest:List Oper)(E:cn)(m:aO)(J:aI)(bL:Option (List PanicEntry)->cn->aO->aI->Prop):Prop:=
 ∀S H,Sat E S->Inv K.g0 B J m H->∃p aS H' cL m' ag,yw K.Q ops rest S H (Xf aS H' p)/\Sat cL aS/\Inv K.g0 B ag m' H'/\bL p cL m' ag
def ab(K:eL)(B:ea)(c:Code)(E:cn)(m:aO)(J:aI)(bL:Exit->cn->aO->aI->Prop):Prop:=
 ∀S H,Sat E S->Inv K.g0 B J m H->∃e aS H' cL m' ag,ef K.Q c S H e aS H'/\Sat cL aS/\Inv K.g0 B ag m' H'/\bL e cL m' ag
def Exec(K:eL)(B:ea)(o:Oper)(E:cn)(m:aO)(J:aI)(eR:cn->aO->aI->Prop):Prop:=
 ∀S H,Sat E S->Inv K.g0 B J m H->∃fu aV aS H' cL m' ag,pD S H o.dst (cO K.P (il K.Q aV) (g' K.Q fu aV).aR S H o)=some (.ok aS H')/\Sat cL aS/\Inv K.g0 B ag m' H'/\eR cL m' ag
variable {ops rest:List Oper}{E:cn}{m m':aO}{J:aI}{o:Oper}{bL:Option (List PanicEntry)->cn->aO->aI->Prop}{eR:cn->aO->aI->Prop}{c0 auA:Exit->cn->aO->aI->Prop}
theorem W.nil(h:bL none E m J):W K B ops [] E m J bL:=fun S H ax aJ=>⟨none,S,H,E,m,J,.nil S H,ax,aJ,h⟩
theorem W.step(aq:o.guard=none)(h:Exec K B o E m J fun E m J=>W K B ops rest E m J bL):W K B ops (o::rest) E m J bL:=by
 intro S H ax aJ;obtain⟨fu,aV,bq,H1,lN,m1,dQ,aa,ae,aG,br⟩:=h S H ax aJ;obtain⟨p,aS,H',cL,m',ag,bp,bC,b5,da⟩:=br bq H1 ae aG;refine⟨p,aS,H',cL,m',ag,.cons fu aV ?_ bp,bC,b5,da⟩;unfold one fj;rw[aq];exact aa
def mr (ops:List Oper)(o:Oper):Option (Nat×Bool):=match o.guard with
 |some (j,want)=>(match nth ops j with|some p=>(match p.dst with|some d=>some (d,want)|none=>none)|none=>none)
 |none=>none
theorem Ke{S:bi}{d:Nat}{want b:Bool}(aq:mr ops o=some (d,want))(au:S.T.get d=some (.bool b)):fj ops S.T o=some (b==want):=by
 unfold mr at aq;unfold fj;cases q:o.guard with
 |none=>rw[q] at aq;cases aq
 |some x=>
  obtain⟨j,w⟩:=x;rw[q] at aq;show vw ops S.T (j,w)=_;unfold vw;simp only at aq ⊢;cases aP:nth ops j with
  |none=>rw[aP] at aq;cases aq
  |some p=>
   rw[aP] at aq;simp only at aq ⊢;cases aZ:p.dst with
   |none=>rw[aZ] at aq;cases aq
   |some k2=>
    rw[aZ] at aq;simp only[cp,dC] at aq;obtain⟨rfl,rfl⟩:=aq;simp only[au]
theorem W.split{n:Nat}{ds:e7}{l:List (Nat×Value)}{d:Nat}{b:Bool}(au:look l d=some (.bool b))(aa:b=true->W K B ops rest ⟨n,ds,(d,.bool true)::l⟩ m J bL)(bD:b=false->W K B ops rest ⟨n,ds,(d,.bool false)::l⟩ m J bL):W K B ops rest ⟨n,ds,l⟩ m J bL:=by
 intro S H ax aJ;have key:∀c:Bool,b=c->Sat ⟨n,ds,(d,.bool c)::l⟩ S:=fun c e=>by
  subst e;refine⟨ax.n,ax.ds,ax.b2,ax.bJ,ax.cJ,ax.has,fun t v q=>?_⟩;have a6:(bif Nat.beq t d then some (Value.bool b) else look l t)=some v:=q;cases c7:Nat.beq t d with
  |true=>rw[c7,cb] at a6;obtain rfl:=eN c7;rw[<-a6];exact ax.get _ _ au
  |false=>rw[c7,dZ] at a6;exact ax.get t v a6
 cases b with
 |true=>exact aa rfl S H (key true rfl) aJ
 |false=>exact bD rfl S H (key false rfl) aJ
theorem W.rb{n:Nat}{ds:e7}{l:List (Nat×Value)}{d:Nat}{want b:Bool}(aq:mr ops o=some (d,want))(au:look l d=some (.bool b))(hw:(b==want)=true)(h:Exec K B o ⟨n,ds,l⟩ m J fun E m J=>W K B ops rest E m J bL):W K B ops (o::rest) ⟨n,ds,l⟩ m J bL:=by
 intro S H ax aJ;have cY:=Ke aq (ax.get d _ au);obtain⟨fu,aV,bq,H1,lN,m1,dQ,bd,a6,b9,fN⟩:=h S H ax aJ;obtain⟨p,aS,H',cL,m',ag,bp,bC,b5,da⟩:=fN bq H1 a6 b9;refine⟨p,aS,H',cL,m',ag,.cons fu aV ?_ bp,bC,b5,da⟩;unfold one;rw[cY,hw];exact bd
theorem W.oL{n:Nat}{ds:e7}{l:List (Nat×Value)}{d e:Nat}{want b:Bool}(aq:mr ops o=some (d,want))(au:look l d=some (.bool b))(hw:(b==want)=false)(aZ:o.dst=some e)(aP:Nat.blt e n=true)(h:W K B ops rest ⟨n,ds,(e,undef)::l⟩ m J bL):W K B ops (o::rest) ⟨n,ds,l⟩ m J bL:=by
 intro S H ax aJ;have cY:=Ke aq (ax.get d _ au);obtain⟨bq,s1,s2⟩:=ax.put (dst:=some e) aP undef;obtain⟨p,aS,H',cL,m',ag,bp,bC,b5,da⟩:=h bq H s2 aJ;refine⟨p,aS,H',cL,m',ag,.cons hN mz ?_ bp,bC,b5,da⟩;unfold one;rw[cY,hw];show pI H (S.put o.dst undef)=_;rw[aZ,s1];rfl
def hZ(K:eL)(B:ea)(o:Oper)(E:cn)(m:aO)(J:aI)(eR:cn->aO->aI->Prop):Prop:=
 ∀S H,Sat E S->Inv K.g0 B J m H->∃aS H' cL m' ag,(∀call aR,pD S H o.dst (cO K.P call aR S H o)=some (.ok aS H'))/\Sat cL aS/\Inv K.g0 B ag m' H'/\eR cL m' ag
theorem Exec.of(h:hZ K B o E m J eR):Exec K B o E m J eR:=fun S H ax aJ=>by
 obtain⟨aS,H',cL,m',ag,aa,ae,aG,br⟩:=h S H ax aJ;exact⟨hN,mz,aS,H',cL,m',ag,aa _ _,ae,aG,br⟩
theorem Exec.val{n:Nat}{ds:e7}{l:List (Nat×Value)}{d:Nat}{v:Value}(aZ:o.dst=some d)(aP:Nat.blt d n=true)(dW:∀call aR S H,Sat ⟨n,ds,l⟩ S->Inv K.g0 B J m H->cO K.P call aR S H o=some (.val v H))(h:eR ⟨n,ds,(d,v)::l⟩ m J):Exec K B o ⟨n,ds,l⟩ m J eR:=by
 intro S H ax aJ;obtain⟨bq,s1,s2⟩:=ax.put (dst:=some d) aP v;refine⟨hN,mz,bq,H,_,m,J,?_,s2,aJ,h⟩;rw[dW _ _ S H ax aJ,aZ];show pI H (S.put (some d) v)=_;rw[s1];rfl
theorem hZ.x'{n:Nat}{ds:e7}{l:List (Nat×Value)}{d:Nat}(aZ:o.dst=some d)(aP:Nat.blt d n=true)(dW:∀S H,Sat ⟨n,ds,l⟩ S->Inv K.g0 B J m H->∃v H' m' ag,(∀call aR,cO K.P call aR S H o=some (.val v H'))/\Inv K.g0 B ag m' H'/\eR ⟨n,ds,(d,v)::l⟩ m' ag):hZ K B o ⟨n,ds,l⟩ m J eR:=by
 intro S H ax aJ;obtain⟨v,H',m',ag,bp,bC,b5⟩:=dW S H ax aJ;obtain⟨bq,s1,s2⟩:=ax.put (dst:=some d) aP v;refine⟨bq,H',_,m',ag,fun call aR=>?_,s2,bC,b5⟩;rw[bp,aZ];show pI H' (S.put (some d) v)=_;rw[s1];rfl
theorem hZ.skip{E:cn}(aZ:o.dst=none)(dW:∀S H,Sat E S->Inv K.g0 B J m H->∃H' m' ag,(∀call aR,cO K.P call aR S H o=some (.skip H'))/\Inv K.g0 B ag m' H'/\eR E m' ag):hZ K B o E m J eR:=by
 intro S H ax aJ;obtain⟨H',m',ag,bp,bC,b5⟩:=dW S H ax aJ;refine⟨S,H',E,m',ag,fun call aR=>?_,ax,bC,b5⟩;rw[bp,aZ];rfl
theorem ab.region{id:Nat}{a:Array Oper}(h:W K B a.toList a.toList E m J fun p E m J=>c0 (NE p) E m J):ab K B (.region id a false) E m J c0:=by
 intro S H ax aJ;obtain⟨p,aS,H',cL,m',ag,bp,bC,b5,da⟩:=h S H ax aJ;exact⟨NE p,aS,H',cL,m',ag,ef.ops bp,bC,b5,da⟩
theorem ab.skip(h:c0 .normal E m J):ab K B .skip E m J c0:=fun S H ax aJ=>⟨_,S,H,E,m,J,ef.skip K.dD.rH,ax,aJ,h⟩
theorem ab.ret(h:c0 .ret E m J):ab K B .ret E m J c0:=fun S H ax aJ=>⟨_,S,H,E,m,J,ef.ret K.dD.rH,ax,aJ,h⟩
theorem ab.exit{id:Nat}(h:c0 (.exit id) E m J):ab K B (.exit id) E m J c0:=fun S H ax aJ=>⟨_,S,H,E,m,J,ef.exit K.dD.rH,ax,aJ,h⟩
abbrev anp(K:eL)(B:ea)(b:Code)(c0:Exit->cn->aO->aI->Prop):Exit->cn->aO->aI->Prop:=fun e E m J=>match e with
 |.normal=>ab K B b E m J c0
 |e=>c0 e E m J
theorem ab.seq{a b:Code}(h:ab K B a E m J (anp K B b c0)):ab K B (.seq a b) E m J c0:=by
 intro S H ax aJ;obtain⟨e,bq,H1,lN,m1,dQ,aa,ae,aG,br⟩:=h S H ax aJ;cases e with
 |normal=>
  have br:ab K B b lN m1 dQ c0:=br;obtain⟨bG,aS,H',cL,m',ag,bp,bC,b5,da⟩:=br bq H1 ae aG;exact⟨bG,aS,H',cL,m',ag,ef.seq aa bp,bC,b5,da⟩
 |exit i=>exact⟨_,bq,H1,lN,m1,dQ,ef.IK aa (fun q=>by cases q),ae,aG,br⟩
 |goto i=>exact⟨_,bq,H1,lN,m1,dQ,ef.IK aa (fun q=>by cases q),ae,aG,br⟩
 |ret=>exact⟨_,bq,H1,lN,m1,dQ,ef.IK aa (fun q=>by cases q),ae,aG,br⟩
 |panic c=>exact⟨_,bq,H1,lN,m1,dQ,ef.IK aa (fun q=>by cases q),ae,aG,br⟩
 |outgrown=>exact⟨_,bq,H1,lN,m1,dQ,ef.IK aa (fun q=>by cases q),ae,aG,br⟩
abbrev abr(id:Nat)(c0:Exit->cn->aO->aI->Prop):Exit->cn->aO->aI->Prop:=fun e E m J=>match e with
 |.exit j=>if j=id then c0 .normal E m J else c0 (.exit j) E m J
 |e=>c0 e E m J
theorem ab.block{id:Nat}{c:Code}(h:ab K B c E m J (abr id c0)):ab K B (.block id c) E m J c0:=by
 intro S H ax aJ;obtain⟨e,bq,H1,lN,m1,dQ,aa,ae,aG,br⟩:=h S H ax aJ;refine⟨_,bq,H1,lN,m1,dQ,ef.block K.dD.rH aa,ae,aG,?_⟩;cases e with
 |exit j=>
  have br:if j=id then c0 .normal lN m1 dQ else c0 (.exit j) lN m1 dQ:=br;show c0 (if j=id then .normal else .exit j) lN m1 dQ;split at br
  ·rename_i q;rw[aE q];exact br
  ·rename_i q;rw[ap q];exact br
 |_=>exact br
def b7 (l:List (Nat×Value)):Operand->Option Value
 |.tmp t=>look l t
 |.const v=>QG v
 |.global _=>none
 |.func f=>some (.func (.func f) #[] #[])
theorem du{E:cn}{S:bi}(ax:Sat E S)(H:aB){x:Operand}{v:Value}(h:b7 E.l x=some v):bk S.T H x=some v:=by
 cases x with
 |tmp t=>exact ax.get t v h
 |const c=>exact h
 |global g=>cases h
 |func f=>exact h
theorem ab.cond{n:Nat}{ds:e7}{l:List (Nat×Value)}{x:Operand}{a b:Code}{t:Bool}(U:b7 l x=some (.bool t))(aa:t=true->ab K B a ⟨n,ds,l⟩ m J c0)(bD:t=false->ab K B b ⟨n,ds,l⟩ m J c0):ab K B (.cond x a b) ⟨n,ds,l⟩ m J c0:=by
 intro S H ax aJ;cases t with
 |true=>
  obtain⟨e,aS,H',cL,m',ag,bp,bC,b5,da⟩:=aa rfl S H ax aJ;exact⟨e,aS,H',cL,m',ag,ef.cond K.dD.rH (du ax H U) bp,bC,b5,da⟩
 |false=>
  obtain⟨e,aS,H',cL,m',ag,bp,bC,b5,da⟩:=bD rfl S H ax aJ;exact⟨e,aS,H',cL,m',ag,ef.cond K.dD.rH (du ax H U) bp,bC,b5,da⟩
theorem ab.Nd{n:Nat}{ds:e7}{l:List (Nat×Value)}{x:Operand}{a b:Code}(U:b7 l x=some (.bool true))(h:ab K B a ⟨n,ds,l⟩ m J c0):ab K B (.cond x a b) ⟨n,ds,l⟩ m J c0:=ab.cond U (fun _=>h) (fun q=>by cases q)
theorem ab.wS{n:Nat}{ds:e7}{l:List (Nat×Value)}{x:Operand}{a b:Code}(U:b7 l x=some (.bool false))(h:ab K B b ⟨n,ds,l⟩ m J c0):ab K B (.cond x a b) ⟨n,ds,l⟩ m J c0:=ab.cond U (fun q=>by cases q) (fun _=>h)
def pN(l:List (Nat×Value)):List (Nat×Value)->Prop
 |[]=>True
 |(t,v)::l'=>look l t=some v/\pN l l'
theorem pN.look{l:List (Nat×Value)}:∀{l':List (Nat×Value)},pN l l'->∀t v,look l' t=some v->look l t=some v:=by
 intro l';induction l' with
 |nil=>intro _ t v q;cases q
 |cons x l' aK=>
  obtain⟨u,w⟩:=x;intro h t v q;have a6:(bif Nat.beq t u then some w else Opn.look l' t)=some v:=q;cases au:Nat.beq t u with
  |true=>
   rw[au,cb] at a6;obtain rfl:=eN au;injection a6 with b9;rw[<-b9];exact h.1
  |false=>rw[au,dZ] at a6;exact aK h.2 t v a6
theorem Sat.sub{n:Nat}{ds:e7}{l l':List (Nat×Value)}{S:bi}(h:Sat ⟨n,ds,l⟩ S)(av:pN l l'):Sat ⟨n,ds,l'⟩ S:=Sat.c2 (E:=⟨n,ds,l⟩) h av.look
theorem ab.c2{c:Code}{n:Nat}{ds:e7}{l l':List (Nat×Value)}(av:pN l l')(hm:m'.Sublist m)(h:ab K B c ⟨n,ds,l'⟩ m' J c0):ab K B c ⟨n,ds,l⟩ m J c0:=
 fun S H ax aJ=>h S H (ax.sub av) (aJ.sub hm)
theorem ab.loop{α:Type}{c:Code}{n:Nat}{ds:e7}(env:α->List (Nat×Value))(mem:α->aO)(fz:α->aI)(inv:α->Prop)(sL:α->Nat)
 (bE:∀s,inv s->ab K B c ⟨n,ds,env s⟩ (mem s) (fz s) fun e E m J=>match e with
  |.normal=>∃c3 l,inv c3/\sL c3<sL s/\E=⟨n,ds,l⟩/\pN l (env c3)/\(mem c3).Sublist m/\J=fz c3
  |e=>c0 e E m J)(s:α)(af:inv s):ab K B (.loop c) ⟨n,ds,env s⟩ (mem s) (fz s) c0:=by
 have key:∀(k:Nat) (s:α),sL s=k->inv s->ab K B (.loop c) ⟨n,ds,env s⟩ (mem s) (fz s) c0:=by
  intro k;induction k using Nat.strongRecOn with
  |_ k aK=>
   intro s aU af S H ax aJ;obtain⟨e,bq,H1,lN,m1,dQ,aa,ae,aG,br⟩:=bE s af S H ax aJ;cases e with
   |normal=>
    obtain⟨c3,l,g1,g2,rfl,g4,g5,rfl⟩:=br;obtain⟨bG,aS,H',cL,m',ag,bp,bC,b5,da⟩:=aK (sL c3) (by omega) c3 rfl g1 bq H1 (ae.sub g4) (aG.sub g5);exact⟨bG,aS,H',cL,m',ag,ef.akp aa bp,bC,b5,da⟩
   |exit i=>exact⟨_,bq,H1,lN,m1,dQ,ef.H5 aa (fun q=>by cases q),ae,aG,br⟩
   |goto i=>exact⟨_,bq,H1,lN,m1,dQ,ef.H5 aa (fun q=>by cases q),ae,aG,br⟩
   |ret=>exact⟨_,bq,H1,lN,m1,dQ,ef.H5 aa (fun q=>by cases q),ae,aG,br⟩
   |panic c=>exact⟨_,bq,H1,lN,m1,dQ,ef.H5 aa (fun q=>by cases q),ae,aG,br⟩
   |outgrown=>exact⟨_,bq,H1,lN,m1,dQ,ef.H5 aa (fun q=>by cases q),ae,aG,br⟩
 exact key _ s rfl af
theorem ab.mD{c:Code}{a:Nat}{b:cK}{x:List Value×TypeId}(U:b.rowOf=some x)(h:J.le (J.add a x)->ab K B c E m (J.add a x) c0):ab K B c E ((a,b)::m) J c0:=by
 intro S H ax aJ;obtain⟨bp,bC⟩:=aJ.mD U;exact h bC S H ax bp
def zs(m:aO)(a:Nat):Prop:=a∈ids m
def lg(bh:aO)(H:aB)(J:aI):ea:=⟨zs bh,fun a=>a∈bh.map Prod.fst,H,J⟩
def Fn(K:eL)(f:FuncId)(args:List Value)(bh:aO)(J:aI)(eO:Value->aO->aI->Prop):Prop:=
 ∀H,Inv K.g0 (lg bh H J) J bh H->∃v H' ag m',lL K.Q f args H (.returned v) H'/\Inv K.g0 (lg bh H J) ag m' H'/\eO v m' ag
abbrev ED(_:aO):Prop:=True
theorem Inv.enter{g0:Nat}{bh bW:aO}{H:aB}(h:Inv g0 B J m H)(aw:(bh++bW).Perm m)(fy:ED bh):Inv g0 (lg bh H J) J bh H:=by
 have kx:∀x,x∈bh->x∈m:=fun x q=>aw.subset (pc _ q);have d':=(K1 aw).nodup_iff.2 h.gm;rw[K0,Jq] at d';refine⟨h.wf,h.bZ,cZ _,cZ _,fun _ _ _=>rfl,fun _ _=>rfl,h.fz,aI.le.refl _,fun a x bd a6=>?_,fun a b q=>?_,fun a b q x U=>?_,d'.1⟩
 ·have bd:J a=none:=bd;rw[bd] at a6;cases a6
 ·obtain⟨bp,bC,b5,da⟩:=h.own a b (kx _ q);refine⟨?_,.inr (BG q),b5,da⟩;cases b with
  |row=>exact bp
  |map=>exact bp
  |loop=>exact bp
  |iT=>exact bp
  |opn c e r z=>
   obtain⟨f,_,f2,f3⟩:=bp;exact⟨f,.inr ⟨a,r,_,_,_,_,f3,f2,As.2 ⟨_,q,rfl⟩⟩,f2,f3⟩
 ·obtain⟨bp,bC,b5⟩:=h.opn a b (kx _ q) x U;exact⟨bp,.inr (BH.2 ⟨_,q,.inr U⟩),b5⟩
theorem Inv.leave{g0:Nat}{bh bW:aO}{H H':aB}{ag:aI}(h:Inv g0 B J m H)(aw:(bh++bW).Perm m)(aU:Inv g0 (lg bh H J) ag m' H'):Inv g0 B ag (m'++bW) H'/\J.le ag:=by
 have d':=(K1 aw).nodup_iff.2 h.gm;rw[K0,Jq] at d';have O2:∀a,a∈ids bh\/a∈ids bW->a∈ids m:=fun a q=>(K1 aw).subset (by rw[K0];exact kX.2 q);have KK:∀a,zs bh a->B.H0.ak<=a\/B.X a:=fun a q=>h.XW (O2 a (.inl q));have xz:∀a,a∈ids bW->a<H.ak/\¬zs bh a:=fun a q=>⟨h.Lb (O2 a (.inr q)),fun r=>d'.2.2 _ r _ q rfl⟩;have KB:∀a,a<H.ak->¬zs bh a->H'.mem.get a=H.mem.get a:=aU.eF;have e0:H.ak<=H'.ak:=aU.ak;have Pl:H.ct<=H'.ct:=aU.ct;have hle:J.le ag:=aU.le;have lX:∀a x,J a=none->ag a=some x->H.ak<=a\/zs bh a:=aU.fresh;have qf:∀f,ea.y2 (lg bh H J) f->B.y2 f:=fun f q=>by
  rcases q with q|⟨a,r,c,e,z,s,bd,a6,b9⟩
  ·exact .inl (p0 h.ct q)
  ·obtain⟨⟨bY,b⟩,mW,mX⟩:=As.1 b9;have mX:bY=a:=mX;subst mX;have k:=(h.own bY b (aw.subset (pc _ mW))).1;have a6:H.mem.get bY=some (.row c e true f z s):=a6;cases b with
   |row=>have k:=a6.symm.trans k;cases k
   |map=>have k:=a6.symm.trans k;cases k
   |loop=>have k:=a6.symm.trans k;cases k
   |iT=>have k:=a6.symm.trans k;cases k
   |opn ch bG dw hQ=>
    obtain⟨cW,bp,bC,b5⟩:=k;have k:=a6.symm.trans bC;injection k with k;injection k with _ _ _ k
    rw[k];exact bp
 have U7:∀a,a∈ids bW->ag a=none:=fun a q=>by
  cases ba:ag a with
  |none=>rfl
  |some x=>
   rcases lX a x (h.akV (O2 a (.inr q))) ba with r|r
   ·have:=(xz a q).1;omega
   ·exact absurd r (xz a q).2
 refine⟨⟨aU.wf,aU.bZ,p0 h.ak e0,p0 h.ct Pl,fun a a' k6=>?_,fun f aC=>?_,aU.fz,h.le.trans hle,fun a x bd a6=>?_,fun a b q=>?_,fun a b q x U=>?_,?_⟩,hle⟩
 ·rw[KB a (yv a' h.ak),h.eF a a' k6];intro r;rcases KK a r with q|q
  ·omega
  ·exact k6 q
 ·rw[show H'.bM.get f=H.bM.get f from aU.oc f (fun q=>aC (qf f q))];exact h.oc f aC
 ·cases ba:J a with
  |none=>
   rcases lX a x ba a6 with r|r
   ·exact .inl (p0 h.ak r)
   ·exact KK a r
  |some y=>exact h.fresh a y bd ba
 ·rcases kX.1 q with q|q
  ·obtain⟨bp,bC,b5,da⟩:=aU.own a b q;refine⟨?_,?_,b5,da⟩
   ·cases b with
    |row=>exact bp
    |map=>exact bp
    |loop=>exact bp
    |iT=>exact bp
    |opn c e r z=>obtain⟨f,f1,f2,f3⟩:=bp;exact⟨f,qf f f1,f2,f3⟩
   ·rcases(show H.ak<=a\/zs bh a from bC) with r|r
    ·exact .inl (p0 h.ak r)
    ·exact KK a r
  ·obtain⟨bp,bC,b5,da⟩:=h.own a b (aw.subset (h2 _ q));have Kt:=BG q;refine⟨cK.yI bp (KB a (xz a Kt).1 (xz a Kt).2) (fun f l aC=>?_),bC,U7 a Kt,da⟩;rw[show H'.bM.get f=H.bM.get f from aU.oc f (fun dz=>by
    rcases dz with dz|⟨bY,dw,_,_,_,_,bd,_,b9⟩
    ·exact absurd (h.wf.GF aC) (Nat.not_lt.2 dz)
    ·have bd:=aC.symm.trans bd;injection bd with bd;injection bd with bd _
     subst bd;obtain⟨⟨bY,b'⟩,mW,mX⟩:=As.1 b9;have mX:bY=a:=mX;subst mX;exact(xz bY Kt).2 (BG mW))];exact aC
 ·rcases kX.1 q with q|q
  ·obtain⟨bp,bC,b5⟩:=aU.opn a b q x U;refine⟨bp,?_,b5⟩;rcases(show H.ak<=x\/zs bh x from bC) with r|r
   ·exact .inl (p0 h.ak r)
   ·exact KK x r
  ·have iw:x∈ids bW:=BH.2 ⟨_,q,.inr U⟩;obtain⟨bp,bC,b5⟩:=h.opn a b (aw.subset (h2 _ q)) x U;exact⟨yv bp e0,bC,U7 x iw⟩
 ·rw[K0,Jq];refine⟨aU.gm,d'.2.1,fun a a' b au e=>?_⟩;subst e;rcases(show H.ak<=a\/zs bh a from aU.XW a') with r|r
  ·have:=(xz a au).1;omega
  ·exact(xz a au).2 r
def h5 (l:List (Nat×Value)):List Operand->Option (List Value)
 |[]=>some []
 |x::r=>match b7 l x with
  |some v=>(match h5 l r with|some vs=>some (v::vs)|none=>none)
  |none=>none
theorem oI{E:cn}{S:bi}(ax:Sat E S)(H:aB):∀{xs:List Operand} {vs:List Value},h5 E.l xs=some vs->ez S.T H xs=some vs:=by
 intro xs;induction xs with
 |nil=>intro vs h;exact h
 |cons x r aK=>
  intro vs h;simp only[h5] at h;simp only[ez];cases U:b7 E.l x with
  |none=>rw[U] at h;cases h
  |some v=>
   rw[U] at h;simp only at h;rw[du ax H U];simp only;cases ay:h5 E.l r with
   |none=>rw[ay] at h;cases h
   |some ws=>rw[ay] at h;simp only at h;rw[aK ay];exact h
theorem Exec.call{n:Nat}{ds:e7}{l:List (Nat×Value)}{d:Nat}{c:Call}{x:Operand}{f:FuncId}{first cap:Array Value}{args b6:List Value}{bh bW:aO}{eO:Value->aO->aI->Prop}
 (ar:o.op=.call c)(aZ:o.dst=some d)(aP:Nat.blt d n=true)(aH:c.callee=.value x)(U:b7 l x=some (.func (.func f) first cap))(a':h5 l c.args.toList=some args)(has:(first.toList++args)++cap.toList=b6)
 (aw:(bh++bW).Perm m)(fy:ED bh)(fQ:Fn K f b6 bh J eO)(h:∀v m' ag,J.le ag->eO v m' ag->eR ⟨n,ds,(d,v)::l⟩ (m'++bW) ag):Exec K B o ⟨n,ds,l⟩ m J eR:=by
 intro S H ax aJ;obtain⟨v,H',ag,m',bp,bC,b5⟩:=fQ H (aJ.enter aw fy);obtain⟨da,gM⟩:=aJ.leave aw bC;obtain⟨bq,s1,s2⟩:=ax.put (dst:=some d) aP v;refine⟨hN,nz f b6 H (.returned v,H'),bq,H',_,m'++bW,ag,?_,s2,da,h v m' ag gM b5⟩;have he:cO K.P (il K.Q (nz f b6 H (.returned v,H'))) (g' K.Q hN (nz f b6 H (.returned v,H'))).aR S H o=some (.val v H'):=by
  unfold cO fq;simp only[ar];show lI K.P _ c=_;unfold lI;rw[aH];show po K.P _ _ S.T H c=_;unfold po;rw[oI ax H a'];simp only[aH];rw[du ax H U];simp only
  show(match mU K.P H (.func f) (first.toList++args) cap.toList with|some (f,b6)=>q8 (il K.Q _ f b6 H)|none=>none)=_
  unfold mU;simp only
  rw[has,F' bp (by unfold nz;rw[aE ⟨rfl,rfl,rfl⟩])];rfl
 rw[he,aZ];show pI H' (S.put (some d) v)=_;rw[s1];rfl
def yG:List Value->Nat->List (Nat×Value)
 |[],_=>[]
 |v::l,i=>(i,v)::yG l (Nat.succ i)
theorem SV:∀{vs:List Value} {i t:Nat} {v:Value},look (yG vs i) t=some v->i<=t/\vs[t -i]?=some v:=by
 intro vs;induction vs with
 |nil=>intro i t v h;cases h
 |cons x l aK=>
  intro i t v h;have a6:(bif Nat.beq t i then some x else look (yG l (Nat.succ i)) t)=some v:=h;cases au:Nat.beq t i with
  |true=>
   rw[au,cb] at a6;obtain rfl:=eN au;injection a6 with b9
   exact⟨cZ _,by simp[b9]⟩
  |false=>
   rw[au,dZ] at a6;obtain⟨aa,ae⟩:=aK a6;refine⟨by omega,?_⟩;rw[show t -i=(t -Nat.succ i)+1 by omega];exact ae
theorem SX:∀{vs:List Value} {i n:Nat} {T:bg Value},T.has n->i+vs.length<=n->∃eS,nV vs i T=some eS/\eS.has n/\∀t,eS.get t=if i<=t/\t<i+vs.length then vs[t -i]? else T.get t:=by
 intro vs;induction vs with
 |nil=>intro i n T h _;exact⟨T,rfl,h,fun t=>by rw[ap (by rw[yt];omega)]⟩
 |cons x l aK=>
  intro i n T h av;rw[iQ] at av;obtain⟨y,ai⟩:=h i (by omega);obtain⟨CS,dy⟩:=bg.ID (a:=x) ai;have aa:CS.has n:=fun t aD=>by
   rw[bg.get_put dy];split
   ·exact⟨_,rfl⟩
   ·exact h t aD
  obtain⟨eS,aN,bn,cP⟩:=aK (i:=i+1) aa (by omega);refine⟨eS,?_,bn,fun t=>?_⟩
  ·simp only[nV,bg.set];rw[dy];exact aN
  ·rw[cP t];by_cases q:i+1<=t/\t<i+1+l.length
   ·rw[aE q,aE (by rw[iQ];omega),show t -i=(t -(i+1))+1 by omega];rfl
   ·rw[ap q,bg.get_put dy];by_cases a6:t=i
    ·subst a6;rw[aE rfl,aE (by rw[iQ];omega)];simp
    ·rw[ap a6,ap (by rw[iQ];omega)]
theorem bg.ae9{α:Type}(a:α):∀(d n:Nat),n+1<2 ^ d->(bg.full a d).get n=some a:=by
 intro d;induction d with
 |zero=>intro n h;simp at h
 |succ d aK=>
  intro n h;show(bg.node (some a) (bg.full a d) (bg.full a d)).get n=some a;cases n with
  |zero=>rfl
  |succ n=>
   rw[bg.ra];have:n / 2+1<2 ^ d:=by rw[Mw] at h;omega
   split<;>exact aK _ this
theorem S'(n:Nat):(Cre.blank n).has n:=by
 intro t aD;refine⟨undef,bg.ae9 _ _ _ ?_⟩;unfold NK;have aa:Nat.succ n<2 ^ (Nat.log2 (Nat.succ n)+1):=Nat.lt_log2_self;show t+1<2 ^ (Nat.log2 (Nat.succ n)+1);omega
inductive p1 (P:Program) (E:cn) (m:aO) (J:aI):List ResultVar->List Value->Prop
 |nil:p1 P E m J [] []
 |tmp {t:Tmp} {v:Value} {nk:List ResultVar} {vs:List Value}:look E.l t=some v->p1 P E m J nk vs->p1 P E m J (.tmp t::nk) (v::vs)
 |cell {t:Tmp} {eD:TypeId} {a:Nat} {cells:List Value} {e:TypeId} {v:Value} {nk:List ResultVar} {vs:List Value}:look E.l t=some (.pointer (some ⟨a,0,none⟩))->(a,cK.row cells e)∈m->mo P eD cells 0=some v->p1 P E m J nk vs->p1 P E m J (.cell t eD::nk) (v::vs)
theorem p1.Dw{P:Program}{g0:Nat}{S:bi}{H:aB}(ax:Sat E S)(aJ:Inv g0 B J m H){nk:List ResultVar}{vs:List Value}(h:p1 P E m J nk vs):p8 P S.T H nk=some vs:=by
 induction h with
 |nil=>rfl
 |tmp aa _ aK=>simp only[p8];rw[ax.get _ _ aa];simp only;rw[aK]
 |cell aa ae aG _ aK=>
  simp only[p8];rw[ax.get _ _ aa];simp only;have aq:=(aJ.own _ _ ae).1;have aq:H.mem.get _=some (.row _ _ false 0 0 false):=aq;unfold AS Dx;simp only[aq,aG];rw[aK]
theorem Fn.cH{f:FuncId}{fn:Func}{c:Code}{args:List Value}{bh:aO}{eO:Value->aO->aI->Prop}(aC:K.fb.get f=some fn)(au:fn.body=some c)(av:Nat.ble args.length fn.ntmps=true)
 (h:∀H,ab K (lg bh H J) c ⟨fn.ntmps,J2,yG args 0⟩ bh J fun e E m ag=>(e=.normal\/e=.ret)/\E.ds.ds=[]/\∃vs m',p1 K.P E m ag fn.results.toList vs/\m'.Sublist m/\eO (pE vs) m' ag):Fn K f args bh J eO:=by
 intro H aJ;obtain⟨T,bo,a2,a3⟩:=SX (vs:=args) (i:=0) (n:=fn.ntmps) (S' fn.ntmps) (by have:=h3 av;omega);have ax:Sat ⟨fn.ntmps,J2,yG args 0⟩ ⟨T,fn.ntmps,[],false,.run,none⟩:=by
  refine⟨rfl,rfl,rfl,rfl,rfl,a2,fun t v q=>?_⟩;obtain⟨_,a6⟩:=SV q;show T.get t=some v;have:t<args.length:=by
   rcases kY t args.length with r|r
   ·exact r
   ·rw[fx (by omega)] at a6;cases a6
  rw[a3,aE (by omega)];exact a6
 obtain⟨e,aS,H',cL,m1,ag,bp,bC,b5,da,gM,vs,m',ob,zu,zv⟩:=h H _ H ax aJ;refine⟨pE vs,H',ag,m',?_,b5.sub zu,zv⟩;have xn:aS.ds=[]:=bC.ds.trans gM;refine lL.run K.dD aC au bo bp (bJ:=aS.bJ) ?_;have ay:=ob.Dw bC b5;rcases da with rfl|rfl
 ·show r9 aS.bJ (iI K.P _ fn aS.T aS.ds .returning H')=_;rw[xn];unfold iI;rw[ay];rfl
 ·show r9 aS.bJ (iI K.P _ fn aS.T aS.ds .returning H')=_;rw[xn];unfold iI;rw[ay];rfl
end
end
end Go.Opn

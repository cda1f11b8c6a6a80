/- A part of the proof of TableBounds. -/
import Derived.Test.YtccpobhlccjkiaaGreatDoorCaf
import Derived.Laws.Strings
import Derived.Laws.Strings2
set_option linter.defProp false
set_option linter.unusedVariables false
set_option linter.unusedSimpArgs false
namespace Go.Opn
noncomputable section
open Go.Cre Go.RowKit
inductive zZ {P:Program} (Q:da P) (ops:List Oper):List Oper->aY->aw->dP->Prop
 |nil (S:aY) (H:aw):zZ Q ops [] S H (.ok S H)
 |cons (gg:Code->aY->aw->Option (Exit×aY×aw)) (cg:eW) {o:Oper} {rest:List Oper} {S a3:aY} {H H1:aw} {r:dP}:one P (hY Q cg) (fW Q gg cg).aO ops S H o=some (.ok a3 H1)->zZ Q ops rest a3 H1 r->zZ Q ops (o::rest) S H r
 |gN (gg:Code->aY->aw->Option (Exit×aY×aw)) (cg:eW) {o:Oper} {rest:List Oper} {S a3:aY} {H H1:aw} {chain:List PanicEntry}:one P (hY Q cg) (fW Q gg cg).aO ops S H o=some (.gN chain a3 H1)->zZ Q ops (o::rest) S H (.gN chain a3 H1)
def zZ.sound{P:Program}{Q:da P}{B:Nat->Prop}{w0:World}(hf:Q.ok B w0){ops:Array Oper}{fr:Frame}{k:List Item}{l:List Oper}{S:aY}{H:aw}{cf:dP}(h:zZ Q ops.toList l S H cf):∀(i:Nat) (μ:bU) (w:World) (tmps:Array Value) (ds:List Deferred) (cs:List Frame),
 ops.toList.drop i=l->bZ P B w0 μ H w->iW P μ S fr tmps ds cs->
 lZ P B w0 μ H S fr cs (lone (bR fr tmps ds (.inRegion ops (List.range' i l.length)::k)) cs w) k cf:=by
 induction h with
 |nil S H=>
  intro i μ w tmps ds cs _ h ay;exact⟨μ,w,tmps,ds,cs,h,Step.refl _ _,ay,kR.refl _ _ ay.vm,I,I,.one Wx⟩
 |@cons gg cg o rest S a3 H H1 r ob _ aC=>
  intro i μ w tmps ds cs av h ay;have al:ops[i]?=some o:=by
   have:(ops.toList.drop i)[0]?=some o:=by rw[av];rfl
   simpa using this
  have vq:ops.toList.drop (i+1)=rest:=by
   have:(ops.toList.drop i).drop 1=rest:=by rw[av];rfl
   rw[zU] at this;exact this
  show lZ P B w0 μ H S fr cs (lone (bR fr tmps ds (.inRegion ops (i::List.range' (i+1) rest.length)::k)) cs w) k r;have ae:=CX (k:=k) (rest:=List.range' (i+1) rest.length) (Q8 cg hf) (PQ (E:=fW Q gg cg) (Ep gg hf)) h ay al ob;exact ae.bind fun fO bE Bg wT g4 ca _ cw _ _ _=>aC (i+1) fO bE Bg wT g4 vq ca cw
 |@gN gg cg o rest S a3 H H1 chain ob=>
  intro i μ w tmps ds cs av h ay;have al:ops[i]?=some o:=by
   have:(ops.toList.drop i)[0]?=some o:=by rw[av];rfl
   simpa using this
  show lZ P B w0 μ H S fr cs (lone (bR fr tmps ds (.inRegion ops (i::List.range' (i+1) rest.length)::k)) cs w) k _;exact CX (k:=k) (rest:=List.range' (i+1) rest.length) (Q8 cg hf) (PQ (E:=fW Q gg cg) (Ep gg hf)) h ay al ob
def adM (S:aY)(H:aw):Option (List PanicEntry)->dP
 |none=>.ok S H
 |some c=>.gN c S H
def RW:Option (List PanicEntry)->Exit
 |none=>.normal
 |some c=>.panic c
def dR.ops{P:Program}{Q:da P}{id:Nat}{ops:Array Oper}{S aL:aY}{H H':aw}{p:Option (List PanicEntry)}(h:zZ Q ops.toList ops.toList S H (adM aL H' p)):dR Q (.region id ops false) S H (RW p) aL H':=by
 refine .mk fun B w0 hf μ w fr tmps ds cs k it ka bC hs=>?_;obtain rfl:=hs.plain (fun _ q=>by cases q);have:=h.sound (k:=k) (fr:=fr) hf 0 μ w tmps ds cs (by simp) ka bC;have aF:List.range' 0 ops.toList.length=List.range ops.size:=by rw[ait];simp
 rw[aF] at this;exact(Wa (by cases p<;>rfl) this).steps (.one ago)
structure dW where
 P:Program
 fR:aZ Func
 cZ:uS P fR
 Q:da P
 g0:Nat
abbrev aJ:=List (Nat×df)
section
variable {K:dW}{B:dN}
def W(K:dW)(B:dN)(ops rest:List Oper)(E:bY)(m:aJ)(J:ai)(bq:Option (List PanicEntry)->bY->aJ->ai->Prop):Prop:=
 ∀S H,Sat E S->Inv K.g0 B J m H->∃p aL H' E' m' ah,zZ K.Q ops rest S H (adM aL H' p)/\Sat E' aL/\Inv K.g0 B ah m' H'/\bq p E' m' ah
def aK(K:dW)(B:dN)(c:Code)(E:bY)(m:aJ)(J:ai)(bq:Exit->bY->aJ->ai->Prop):Prop:=
 ∀S H,Sat E S->Inv K.g0 B J m H->∃e aL H' E' m' ah,dR K.Q c S H e aL H'/\Sat E' aL/\Inv K.g0 B ah m' H'/\bq e E' m' ah
def Exec(K:dW)(B:dN)(o:Oper)(E:bY)(m:aJ)(J:ai)(fe:bY->aJ->ai->Prop):Prop:=
 ∀S H,Sat E S->Inv K.g0 B J m H->∃gg cg aL H' E' m' ah,o2 S H o.dst (cA K.P (hY K.Q cg) (fW K.Q gg cg).aO S H o)=some (.ok aL H')/\Sat E' aL/\Inv K.g0 B ah m' H'/\fe E' m' ah
variable {ops rest:List Oper}{E:bY}{m m':aJ}{J:ai}{o:Oper}{bq:Option (List PanicEntry)->bY->aJ->ai->Prop}{fe:bY->aJ->ai->Prop}{cp aGr:Exit->bY->aJ->ai->Prop}
def W.nil(h:bq none E m J):W K B ops [] E m J bq:=fun S H au aD=>⟨none,S,H,E,m,J,.nil S H,au,aD,h⟩
def W.step(aB:o.guard=none)(h:Exec K B o E m J fun E m J=>W K B ops rest E m J bq):W K B ops (o::rest) E m J bq:=by
 intro S H au aD;obtain⟨gg,cg,a3,H1,e8,cz,bj,ae,ag,aE,a6⟩:=h S H au aD;obtain⟨p,aL,H',E',m',ah,aX,aT,bd,cm⟩:=a6 a3 H1 ag aE;refine⟨p,aL,H',E',m',ah,.cons gg cg ?_ aX,aT,bd,cm⟩;unfold one gK;rw[aB];exact ae
def nl (ops:List Oper)(o:Oper):Option (Nat×Bool):=match o.guard with
 |some (j,want)=>(match nth ops j with|some p=>(match p.dst with|some d=>some (d,want)|none=>none)|none=>none)
 |none=>none
def EP{S:aY}{d:Nat}{want b:Bool}(aB:nl ops o=some (d,want))(ak:S.T.get d=some (.bool b)):gK ops S.T o=some (b==want):=by
 unfold nl at aB;unfold gK;cases q:o.guard with
 |none=>rw[q] at aB;cases aB
 |some x=>
  obtain⟨j,w⟩:=x;rw[q] at aB;show w3 ops S.T (j,w)=_;unfold w3;simp only at aB ⊢;cases aA:nth ops j with
  |none=>rw[aA] at aB;cases aB
  |some p=>
   rw[aA] at aB;simp only at aB ⊢;cases av:p.dst with
   |none=>rw[av] at aB;cases aB
   |some mu=>
    rw[av] at aB;simp only[cb,c8] at aB;obtain⟨rfl,rfl⟩:=aB;simp only[ak]
def W.split{n:Nat}{ds:er}{l:List (Nat×Value)}{d:Nat}{b:Bool}(ak:look l d=some (.bool b))(ae:b=true->W K B ops rest ⟨n,ds,(d,.bool true)::l⟩ m J bq)(aQ:b=false->W K B ops rest ⟨n,ds,(d,.bool false)::l⟩ m J bq):W K B ops rest ⟨n,ds,l⟩ m J bq:=by
 intro S H au aD;have key:∀c:Bool,b=c->Sat ⟨n,ds,(d,.bool c)::l⟩ S:=fun c e=>by
  subst e;refine⟨au.n,au.ds,au.bQ,au.bg,au.cx,au.has,fun t v q=>?_⟩;have aH:(bif Nat.beq t d then some (Value.bool b) else look l t)=some v:=q;cases b3:Nat.beq t d with
  |true=>rw[b3,cd] at aH;obtain rfl:=eM b3;rw[<-aH];exact au.get _ _ ak
  |false=>rw[b3,dQ] at aH;exact au.get t v aH
 cases b with
 |true=>exact ae I S H (key true I) aD
 |false=>exact aQ I S H (key false I) aD
def W.Ix{n:Nat}{ds:er}{l:List (Nat×Value)}{d:Nat}{want b:Bool}(aB:nl ops o=some (d,want))(ak:look l d=some (.bool b))(hw:(b==want)=true)(h:Exec K B o ⟨n,ds,l⟩ m J fun E m J=>W K B ops rest E m J bq):W K B ops (o::rest) ⟨n,ds,l⟩ m J bq:=by
 intro S H au aD;have du:=EP aB (au.get d _ ak);obtain⟨gg,cg,a3,H1,e8,cz,bj,aN,aH,bo,db⟩:=h S H au aD;obtain⟨p,aL,H',E',m',ah,aX,aT,bd,cm⟩:=db a3 H1 aH bo;refine⟨p,aL,H',E',m',ah,.cons gg cg ?_ aX,aT,bd,cm⟩;unfold one;rw[du,hw];exact aN
def W.aaF{n:Nat}{ds:er}{l:List (Nat×Value)}{d e:Nat}{want b:Bool}(aB:nl ops o=some (d,want))(ak:look l d=some (.bool b))(hw:(b==want)=false)(av:o.dst=some e)(aA:Nat.blt e n=true)(h:W K B ops rest ⟨n,ds,(e,undef)::l⟩ m J bq):W K B ops (o::rest) ⟨n,ds,l⟩ m J bq:=by
 intro S H au aD;have du:=EP aB (au.get d _ ak);obtain⟨a3,s1,s2⟩:=au.put (dst:=some e) aA undef;obtain⟨p,aL,H',E',m',ah,aX,aT,bd,cm⟩:=h a3 H s2 aD;refine⟨p,aL,H',E',m',ah,.cons g7 lP ?_ aX,aT,bd,cm⟩;unfold one;rw[du,hw];show oq H (S.put o.dst undef)=_;rw[av,s1];rfl
def kr(K:dW)(B:dN)(o:Oper)(E:bY)(m:aJ)(J:ai)(fe:bY->aJ->ai->Prop):Prop:=
 ∀S H,Sat E S->Inv K.g0 B J m H->∃aL H' E' m' ah,(∀call aO,o2 S H o.dst (cA K.P call aO S H o)=some (.ok aL H'))/\Sat E' aL/\Inv K.g0 B ah m' H'/\fe E' m' ah
def Exec.of(h:kr K B o E m J fe):Exec K B o E m J fe:=fun S H au aD=>by
 obtain⟨aL,H',E',m',ah,ae,ag,aE,a6⟩:=h S H au aD;exact⟨g7,lP,aL,H',E',m',ah,ae _ _,ag,aE,a6⟩
def Exec.val{n:Nat}{ds:er}{l:List (Nat×Value)}{d:Nat}{v:Value}(av:o.dst=some d)(aA:Nat.blt d n=true)(eF:∀call aO S H,Sat ⟨n,ds,l⟩ S->Inv K.g0 B J m H->cA K.P call aO S H o=some (.val v H))(h:fe ⟨n,ds,(d,v)::l⟩ m J):Exec K B o ⟨n,ds,l⟩ m J fe:=by
 intro S H au aD;obtain⟨a3,s1,s2⟩:=au.put (dst:=some d) aA v;refine⟨g7,lP,a3,H,_,m,J,?_,s2,aD,h⟩;rw[eF _ _ S H au aD,av];show oq H (S.put (some d) v)=_;rw[s1];rfl
def kr.Dt{n:Nat}{ds:er}{l:List (Nat×Value)}{d:Nat}(av:o.dst=some d)(aA:Nat.blt d n=true)(eF:∀S H,Sat ⟨n,ds,l⟩ S->Inv K.g0 B J m H->∃v H' m' ah,(∀call aO,cA K.P call aO S H o=some (.val v H'))/\Inv K.g0 B ah m' H'/\fe ⟨n,ds,(d,v)::l⟩ m' ah):kr K B o ⟨n,ds,l⟩ m J fe:=by
 intro S H au aD;obtain⟨v,H',m',ah,aX,aT,bd⟩:=eF S H au aD;obtain⟨a3,s1,s2⟩:=au.put (dst:=some d) aA v;refine⟨a3,H',_,m',ah,fun call aO=>?_,s2,aT,bd⟩;rw[aX,av];show oq H' (S.put (some d) v)=_;rw[s1];rfl
def kr.skip{E:bY}(av:o.dst=none)(eF:∀S H,Sat E S->Inv K.g0 B J m H->∃H' m' ah,(∀call aO,cA K.P call aO S H o=some (.skip H'))/\Inv K.g0 B ah m' H'/\fe E m' ah):kr K B o E m J fe:=by
 intro S H au aD;obtain⟨H',m',ah,aX,aT,bd⟩:=eF S H au aD;refine⟨S,H',E,m',ah,fun call aO=>?_,au,aT,bd⟩;rw[aX,av];rfl
def aK.region{id:Nat}{a:Array Oper}(h:W K B a.toList a.toList E m J fun p E m J=>cp (RW p) E m J):aK K B (.region id a false) E m J cp:=by
 intro S H au aD;obtain⟨p,aL,H',E',m',ah,aX,aT,bd,cm⟩:=h S H au aD;exact⟨RW p,aL,H',E',m',ah,dR.ops aX,aT,bd,cm⟩
def aK.skip(h:cp .normal E m J):aK K B .skip E m J cp:=fun S H au aD=>⟨_,S,H,E,m,J,dR.skip K.cZ.r1,au,aD,h⟩
def aK.ret(h:cp .ret E m J):aK K B .ret E m J cp:=fun S H au aD=>⟨_,S,H,E,m,J,dR.ret K.cZ.r1,au,aD,h⟩
def aK.exit{id:Nat}(h:cp (.exit id) E m J):aK K B (.exit id) E m J cp:=fun S H au aD=>⟨_,S,H,E,m,J,dR.exit K.cZ.r1,au,aD,h⟩
abbrev ayk(K:dW)(B:dN)(b:Code)(cp:Exit->bY->aJ->ai->Prop):Exit->bY->aJ->ai->Prop:=fun e E m J=>match e with
 |.normal=>aK K B b E m J cp
 |e=>cp e E m J
def aK.seq{a b:Code}(h:aK K B a E m J (ayk K B b cp)):aK K B (.seq a b) E m J cp:=by
 intro S H au aD;obtain⟨e,a3,H1,e8,cz,bj,ae,ag,aE,a6⟩:=h S H au aD;cases e with
 |normal=>
  have a6:aK K B b e8 cz bj cp:=a6;obtain⟨bA,aL,H',E',m',ah,aX,aT,bd,cm⟩:=a6 a3 H1 ag aE;exact⟨bA,aL,H',E',m',ah,dR.seq ae aX,aT,bd,cm⟩
 |exit i=>exact⟨_,a3,H1,e8,cz,bj,dR.Ky ae (fun q=>by cases q),ag,aE,a6⟩
 |goto i=>exact⟨_,a3,H1,e8,cz,bj,dR.Ky ae (fun q=>by cases q),ag,aE,a6⟩
 |ret=>exact⟨_,a3,H1,e8,cz,bj,dR.Ky ae (fun q=>by cases q),ag,aE,a6⟩
 |panic c=>exact⟨_,a3,H1,e8,cz,bj,dR.Ky ae (fun q=>by cases q),ag,aE,a6⟩
 |outgrown=>exact⟨_,a3,H1,e8,cz,bj,dR.Ky ae (fun q=>by cases q),ag,aE,a6⟩
abbrev ajV(id:Nat)(cp:Exit->bY->aJ->ai->Prop):Exit->bY->aJ->ai->Prop:=fun e E m J=>match e with
 |.exit j=>if j=id then cp .normal E m J else cp (.exit j) E m J
 |e=>cp e E m J
def aK.block{id:Nat}{c:Code}(h:aK K B c E m J (ajV id cp)):aK K B (.block id c) E m J cp:=by
 intro S H au aD;obtain⟨e,a3,H1,e8,cz,bj,ae,ag,aE,a6⟩:=h S H au aD;refine⟨_,a3,H1,e8,cz,bj,dR.block K.cZ.r1 ae,ag,aE,?_⟩;cases e with
 |exit j=>
  have a6:if j=id then cp .normal e8 cz bj else cp (.exit j) e8 cz bj:=a6;show cp (if j=id then .normal else .exit j) e8 cz bj;split at a6
  ·rename_i q;rw[aP q];exact a6
  ·rename_i q;rw[aG q];exact a6
 |_=>exact a6
def bS (l:List (Nat×Value)):Operand->Option Value
 |.tmp t=>look l t
 |.const v=>VN v
 |.global _=>none
 |.func f=>some (.func (.func f) #[] #[])
def dw{E:bY}{S:aY}(au:Sat E S)(H:aw){x:Operand}{v:Value}(h:bS E.l x=some v):a5 S.T H x=some v:=by
 cases x with
 |tmp t=>exact au.get t v h
 |const c=>exact h
 |global g=>cases h
 |func f=>exact h
def aK.cond{n:Nat}{ds:er}{l:List (Nat×Value)}{x:Operand}{a b:Code}{t:Bool}(U:bS l x=some (.bool t))(ae:t=true->aK K B a ⟨n,ds,l⟩ m J cp)(aQ:t=false->aK K B b ⟨n,ds,l⟩ m J cp):aK K B (.cond x a b) ⟨n,ds,l⟩ m J cp:=by
 intro S H au aD;cases t with
 |true=>
  obtain⟨e,aL,H',E',m',ah,aX,aT,bd,cm⟩:=ae I S H au aD;exact⟨e,aL,H',E',m',ah,dR.cond K.cZ.r1 (dw au H U) aX,aT,bd,cm⟩
 |false=>
  obtain⟨e,aL,H',E',m',ah,aX,aT,bd,cm⟩:=aQ I S H au aD;exact⟨e,aL,H',E',m',ah,dR.cond K.cZ.r1 (dw au H U) aX,aT,bd,cm⟩
def aK.alz{n:Nat}{ds:er}{l:List (Nat×Value)}{x:Operand}{a b:Code}(U:bS l x=some (.bool true))(h:aK K B a ⟨n,ds,l⟩ m J cp):aK K B (.cond x a b) ⟨n,ds,l⟩ m J cp:=aK.cond U (fun _=>h) (fun q=>by cases q)
def aK.aly{n:Nat}{ds:er}{l:List (Nat×Value)}{x:Operand}{a b:Code}(U:bS l x=some (.bool false))(h:aK K B b ⟨n,ds,l⟩ m J cp):aK K B (.cond x a b) ⟨n,ds,l⟩ m J cp:=aK.cond U (fun q=>by cases q) (fun _=>h)
def lT(l:List (Nat×Value)):List (Nat×Value)->Prop
 |[]=>True
 |(t,v)::a9=>look l t=some v/\lT l a9
def lT.look{l:List (Nat×Value)}:∀{a9:List (Nat×Value)},lT l a9->∀t v,look a9 t=some v->look l t=some v:=by
 intro a9;induction a9 with
 |nil=>intro _ t v q;cases q
 |cons x a9 aC=>
  obtain⟨u,w⟩:=x;intro h t v q;have aH:(bif Nat.beq t u then some w else Opn.look a9 t)=some v:=q;cases ak:Nat.beq t u with
  |true=>
   rw[ak,cd] at aH;obtain rfl:=eM ak;injection aH with bo;rw[<-bo];exact h.1
  |false=>rw[ak,dQ] at aH;exact aC h.2 t v aH
def Sat.sub{n:Nat}{ds:er}{l a9:List (Nat×Value)}{S:aY}(h:Sat ⟨n,ds,l⟩ S)(aj:lT l a9):Sat ⟨n,ds,a9⟩ S:=Sat.PI (E:=⟨n,ds,l⟩) h aj.look
def aK.PI{c:Code}{n:Nat}{ds:er}{l a9:List (Nat×Value)}(aj:lT l a9)(hm:m'.Sublist m)(h:aK K B c ⟨n,ds,a9⟩ m' J cp):aK K B c ⟨n,ds,l⟩ m J cp:=
 fun S H au aD=>h S H (au.sub aj) (aD.sub hm)
def aK.loop{α:Type}{c:Code}{n:Nat}{ds:er}(env:α->List (Nat×Value))(mem:α->aJ)(eG:α->ai)(inv:α->Prop)(ui:α->Nat)
 (bn:∀s,inv s->aK K B c ⟨n,ds,env s⟩ (mem s) (eG s) fun e E m J=>match e with
  |.normal=>∃de l,inv de/\ui de<ui s/\E=⟨n,ds,l⟩/\lT l (env de)/\(mem de).Sublist m/\J=eG de
  |e=>cp e E m J)(s:α)(hs:inv s):aK K B (.loop c) ⟨n,ds,env s⟩ (mem s) (eG s) cp:=by
 have key:∀(k:Nat) (s:α),ui s=k->inv s->aK K B (.loop c) ⟨n,ds,env s⟩ (mem s) (eG s) cp:=by
  intro k;induction k using Nat.strongRecOn with
  |_ k aC=>
   intro s hk hs S H au aD;obtain⟨e,a3,H1,e8,cz,bj,ae,ag,aE,a6⟩:=bn s hs S H au aD;cases e with
   |normal=>
    obtain⟨de,l,ca,b7,rfl,f',gJ,rfl⟩:=a6;obtain⟨bA,aL,H',E',m',ah,aX,aT,bd,cm⟩:=aC (ui de) (by omega) de I ca a3 H1 (ag.sub f') (aE.sub gJ);exact⟨bA,aL,H',E',m',ah,dR.adp ae aX,aT,bd,cm⟩
   |exit i=>exact⟨_,a3,H1,e8,cz,bj,dR.xu ae (fun q=>by cases q),ag,aE,a6⟩
   |goto i=>exact⟨_,a3,H1,e8,cz,bj,dR.xu ae (fun q=>by cases q),ag,aE,a6⟩
   |ret=>exact⟨_,a3,H1,e8,cz,bj,dR.xu ae (fun q=>by cases q),ag,aE,a6⟩
   |panic c=>exact⟨_,a3,H1,e8,cz,bj,dR.xu ae (fun q=>by cases q),ag,aE,a6⟩
   |outgrown=>exact⟨_,a3,H1,e8,cz,bj,dR.xu ae (fun q=>by cases q),ag,aE,a6⟩
 exact key _ s I hs
def aK.k8{c:Code}{a:Nat}{b:df}{x:List Value×TypeId}(U:b.rowOf=some x)(h:J.le (J.add a x)->aK K B c E m (J.add a x) cp):aK K B c E ((a,b)::m) J cp:=by
 intro S H au aD;obtain⟨aX,aT⟩:=aD.k8 U;exact h aT S H au aX
def xo(m:aJ)(a:Nat):Prop:=a∈ids m
def iJ(a1:aJ)(H:aw)(J:ai):dN:=⟨xo a1,fun a=>a∈a1.map Prod.fst,H,J⟩
def Fn(K:dW)(f:FuncId)(args:List Value)(a1:aJ)(J:ai)(dI:Value->aJ->ai->Prop):Prop:=
 ∀H,Inv K.g0 (iJ a1 H J) J a1 H->∃v H' ah m',j5 K.Q f args H (.returned v) H'/\Inv K.g0 (iJ a1 H J) ah m' H'/\dI v m' ah
abbrev AR(_:aJ):Prop:=True
def Inv.enter{g0:Nat}{a1 cB:aJ}{H:aw}(h:Inv g0 B J m H)(ap:(a1++cB).Perm m)(fB:AR a1):Inv g0 (iJ a1 H J) J a1 H:=by
 have lM:∀x,x∈a1->x∈m:=fun x q=>ap.subset (tq _ q);have eb:=(NQ ap).nodup_iff.2 h.gZ;rw[NP,Lq] at eb;refine⟨h.wf,h.bJ,b2 _,b2 _,fun _ _ _=>rfl,fun _ _=>rfl,h.eG,ai.le.refl _,fun a x aN aH=>?_,fun a b q=>?_,fun a b q x U=>?_,eb.1⟩
 ·have aN:J a=none:=aN;rw[aN] at aH;cases aH
 ·obtain⟨aX,aT,bd,cm⟩:=h.own a b (lM _ q);refine⟨?_,.inr (AJ q),bd,cm⟩;cases b with
  |row=>exact aX
  |map=>exact aX
  |loop=>exact aX
  |g6=>exact aX
  |opn c e r z=>
   obtain⟨f,_,f2,f3⟩:=aX;exact⟨f,.inr ⟨a,r,_,_,_,_,f3,f2,lf.2 ⟨_,q,I⟩⟩,f2,f3⟩
 ·obtain⟨aX,aT,bd⟩:=h.opn a b (lM _ q) x U;exact⟨aX,.inr (CF.2 ⟨_,q,.inr U⟩),bd⟩
def Inv.leave{g0:Nat}{a1 cB:aJ}{H H':aw}{ah:ai}(h:Inv g0 B J m H)(ap:(a1++cB).Perm m)(hk:Inv g0 (iJ a1 H J) ah m' H'):Inv g0 B ah (m'++cB) H'/\J.le ah:=by
 have eb:=(NQ ap).nodup_iff.2 h.gZ;rw[NP,Lq] at eb;have Tw:∀a,a∈ids a1\/a∈ids cB->a∈ids m:=fun a q=>(NQ ap).subset (by rw[NP];exact mm.2 q);have No:∀a,xo a1 a->B.H0.ao<=a\/B.X a:=fun a q=>h.aeN (Tw a (.inl q));have tP:∀a,a∈ids cB->a<H.ao/\¬xo a1 a:=fun a q=>⟨h.Oe (Tw a (.inr q)),fun r=>eb.2.2 _ r _ q I⟩;have Co:∀a,a<H.ao->¬xo a1 a->H'.mem.get a=H.mem.get a:=hk.fU;have hZ:H.ao<=H'.ao:=hk.ao;have TS:H.cC<=H'.cC:=hk.cC;have hle:J.le ah:=hk.le;have lJ:∀a x,J a=none->ah a=some x->H.ao<=a\/xo a1 a:=hk.fresh;have rG:∀f,dN.Al (iJ a1 H J) f->B.Al f:=fun f q=>by
  rcases q with q|⟨a,r,c,e,z,s,aN,aH,bo⟩
  ·exact .inl (dT h.cC q)
  ·obtain⟨⟨bD,b⟩,sJ,jv⟩:=lf.1 bo;have jv:bD=a:=jv;subst jv;have k:=(h.own bD b (ap.subset (tq _ sJ))).1;have aH:H.mem.get bD=some (.row c e true f z s):=aH;cases b with
   |row=>have k:=aH.symm.trans k;cases k
   |map=>have k:=aH.symm.trans k;cases k
   |loop=>have k:=aH.symm.trans k;cases k
   |g6=>have k:=aH.symm.trans k;cases k
   |opn c' bA cu h8=>
    obtain⟨ck,aX,aT,bd⟩:=k;have k:=aH.symm.trans aT;injection k with k;injection k with _ _ _ k
    rw[k];exact aX
 have IN:∀a,a∈ids cB->ah a=none:=fun a q=>by
  cases aW:ah a with
  |none=>rfl
  |some x=>
   rcases lJ a x (h.auY (Tw a (.inr q))) aW with r|r
   ·have:=(tP a q).1;omega
   ·exact absurd r (tP a q).2
 refine⟨⟨hk.wf,hk.bJ,dT h.ao hZ,dT h.cC TS,fun a aI eO=>?_,fun f ay=>?_,hk.eG,h.le.trans hle,fun a x aN aH=>?_,fun a b q=>?_,fun a b q x U=>?_,?_⟩,hle⟩
 ·rw[Co a (kw aI h.ao),h.fU a aI eO];intro r;rcases No a r with q|q
  ·omega
  ·exact eO q
 ·rw[show H'.bF.get f=H.bF.get f from hk.oe f (fun q=>ay (rG f q))];exact h.oe f ay
 ·cases aW:J a with
  |none=>
   rcases lJ a x aW aH with r|r
   ·exact .inl (dT h.ao r)
   ·exact No a r
  |some y=>exact h.fresh a y aN aW
 ·rcases mm.1 q with q|q
  ·obtain⟨aX,aT,bd,cm⟩:=hk.own a b q;refine⟨?_,?_,bd,cm⟩
   ·cases b with
    |row=>exact aX
    |map=>exact aX
    |loop=>exact aX
    |g6=>exact aX
    |opn c e r z=>obtain⟨f,f1,f2,f3⟩:=aX;exact⟨f,rG f f1,f2,f3⟩
   ·rcases(show H.ao<=a\/xo a1 a from aT) with r|r
    ·exact .inl (dT h.ao r)
    ·exact No a r
  ·obtain⟨aX,aT,bd,cm⟩:=h.own a b (ap.subset (j7 _ q));have M8:=AJ q;refine⟨df.yg aX (Co a (tP a M8).1 (tP a M8).2) (fun f l ay=>?_),aT,IN a M8,cm⟩;rw[show H'.bF.get f=H.bF.get f from hk.oe f (fun dE=>by
    rcases dE with dE|⟨bD,cu,_,_,_,_,aN,_,bo⟩
    ·exact absurd (h.wf.Ik ay) (Nat.not_lt.2 dE)
    ·have aN:=ay.symm.trans aN;injection aN with aN;injection aN with aN _
     subst aN;obtain⟨⟨bD,b'⟩,sJ,jv⟩:=lf.1 bo;have jv:bD=a:=jv;subst jv;exact(tP bD M8).2 (AJ sJ))];exact ay
 ·rcases mm.1 q with q|q
  ·obtain⟨aX,aT,bd⟩:=hk.opn a b q x U;refine⟨aX,?_,bd⟩;rcases(show H.ao<=x\/xo a1 x from aT) with r|r
   ·exact .inl (dT h.ao r)
   ·exact No x r
  ·have jV:x∈ids cB:=CF.2 ⟨_,q,.inr U⟩;obtain⟨aX,aT,bd⟩:=h.opn a b (ap.subset (j7 _ q)) x U;exact⟨kw aX hZ,aT,IN x jV⟩
 ·rw[NP,Lq];refine⟨hk.gZ,eb.2.1,fun a aI b ak e=>?_⟩;subst e;rcases(show H.ao<=a\/xo a1 a from hk.aeN aI) with r|r
  ·have:=(tP a ak).1;omega
  ·exact(tP a ak).2 r
def jH (l:List (Nat×Value)):List Operand->Option (List Value)
 |[]=>some []
 |x::r=>match bS l x with
  |some v=>(match jH l r with|some vs=>some (v::vs)|none=>none)
  |none=>none
def pQ{E:bY}{S:aY}(au:Sat E S)(H:aw):∀{xs:List Operand} {vs:List Value},jH E.l xs=some vs->gp S.T H xs=some vs:=by
 intro xs;induction xs with
 |nil=>intro vs h;exact h
 |cons x r aC=>
  intro vs h;simp only[jH] at h;simp only[gp];cases U:bS E.l x with
  |none=>rw[U] at h;cases h
  |some v=>
   rw[U] at h;simp only at h;rw[dw au H U];simp only;cases ar:jH E.l r with
   |none=>rw[ar] at h;cases h
   |some ws=>rw[ar] at h;simp only at h;rw[aC ar];exact h
def Exec.call{n:Nat}{ds:er}{l:List (Nat×Value)}{d:Nat}{c:Call}{x:Operand}{f:FuncId}{first cap:Array Value}{args bP:List Value}{a1 cB:aJ}{dI:Value->aJ->ai->Prop}
 (al:o.op=.call c)(av:o.dst=some d)(aA:Nat.blt d n=true)(ax:c.callee=.value x)(U:bS l x=some (.func (.func f) first cap))(aI:jH l c.args.toList=some args)(has:(first.toList++args)++cap.toList=bP)
 (ap:(a1++cB).Perm m)(fB:AR a1)(bC:Fn K f bP a1 J dI)(h:∀v m' ah,J.le ah->dI v m' ah->fe ⟨n,ds,(d,v)::l⟩ (m'++cB) ah):Exec K B o ⟨n,ds,l⟩ m J fe:=by
 intro S H au aD;obtain⟨v,H',ah,m',aX,aT,bd⟩:=bC H (aD.enter ap fB);obtain⟨cm,fz⟩:=aD.leave ap aT;obtain⟨a3,s1,s2⟩:=au.put (dst:=some d) aA v;refine⟨g7,lD f bP H (.returned v,H'),a3,H',_,m'++cB,ah,?_,s2,cm,h v m' ah fz bd⟩;have he:cA K.P (hY K.Q (lD f bP H (.returned v,H'))) (fW K.Q g7 (lD f bP H (.returned v,H'))).aO S H o=some (.val v H'):=by
  unfold cA fi;simp only[al];show kN K.P _ c=_;unfold kN;rw[ax];show nj K.P _ _ S.T H c=_;unfold nj;rw[pQ au H aI];simp only[ax];rw[dw au H U];simp only
  show(match kY K.P H (.func f) (first.toList++args) cap.toList with|some (f,bP)=>oL (hY K.Q _ f bP H)|none=>none)=_
  unfold kY;simp only
  rw[has,Ac aX (by unfold lD;rw[aP ⟨I,I,I⟩])];rfl
 rw[he,av];show oq H' (S.put (some d) v)=_;rw[s1];rfl
def uX:List Value->Nat->List (Nat×Value)
 |[],_=>[]
 |v::l,i=>(i,v)::uX l (Nat.succ i)
def QF:∀{vs:List Value} {i t:Nat} {v:Value},look (uX vs i) t=some v->i<=t/\vs[t -i]?=some v:=by
 intro vs;induction vs with
 |nil=>intro i t v h;cases h
 |cons x l aC=>
  intro i t v h;have aH:(bif Nat.beq t i then some x else look (uX l (Nat.succ i)) t)=some v:=h;cases ak:Nat.beq t i with
  |true=>
   rw[ak,cd] at aH;obtain rfl:=eM ak;injection aH with bo
   exact⟨b2 _,by simp[bo]⟩
  |false=>
   rw[ak,dQ] at aH;obtain⟨ae,ag⟩:=aC aH;refine⟨by omega,?_⟩;rw[show t -i=(t -Nat.succ i)+1 by omega];exact ag
def QH:∀{vs:List Value} {i n:Nat} {T:aZ Value},T.has n->i+vs.length<=n->∃ea,pg vs i T=some ea/\ea.has n/\∀t,ea.get t=if i<=t/\t<i+vs.length then vs[t -i]? else T.get t:=by
 intro vs;induction vs with
 |nil=>intro i n T h _;exact⟨T,I,h,fun t=>by rw[aG (by rw[DT];omega)]⟩
 |cons x l aC=>
  intro i n T h aj;rw[ks] at aj;obtain⟨y,an⟩:=h i (by omega);obtain⟨rj,cq⟩:=aZ.Ks (a:=x) an;have ae:rj.has n:=fun t aM=>by
   rw[aZ.get_put cq];split
   ·exact⟨_,I⟩
   ·exact h t aM
  obtain⟨ea,aF,aV,cj⟩:=aC (i:=i+1) ae (by omega);refine⟨ea,?_,aV,fun t=>?_⟩
  ·simp only[pg,aZ.set];rw[cq];exact aF
  ·rw[cj t];by_cases q:i+1<=t/\t<i+1+l.length
   ·rw[aP q,aP (by rw[ks];omega),show t -i=(t -(i+1))+1 by omega];rfl
   ·rw[aG q,aZ.get_put cq];by_cases aH:t=i
    ·subst aH;rw[aP I,aP (by rw[ks];omega)];simp
    ·rw[aG aH,aG (by rw[ks];omega)]
def aZ.aob{α:Type}(a:α):∀(d n:Nat),n+1<2 ^ d->(aZ.full a d).get n=some a:=by
 intro d;induction d with
 |zero=>intro n h;simp at h
 |succ d aC=>
  intro n h;show(aZ.node (some a) (aZ.full a d) (aZ.full a d)).get n=some a;cases n with
  |zero=>rfl
  |succ n=>
   rw[aZ.sB];have:n / 2+1<2 ^ d:=by rw[lz] at h;omega
   split<;>exact aC _ this
def QQ(n:Nat):(Cre.blank n).has n:=by
 intro t aM;refine⟨undef,aZ.aob _ _ _ ?_⟩;unfold R1;have ae:Nat.succ n<2 ^ (Nat.log2 (Nat.succ n)+1):=Nat.lt_log2_self;show t+1<2 ^ (Nat.log2 (Nat.succ n)+1);omega
inductive nN (P:Program) (E:bY) (m:aJ) (J:ai):List ResultVar->List Value->Prop
 |nil:nN P E m J [] []
 |tmp {t:Tmp} {v:Value} {rs:List ResultVar} {vs:List Value}:look E.l t=some v->nN P E m J rs vs->nN P E m J (.tmp t::rs) (v::vs)
 |cell {t:Tmp} {eE:TypeId} {a:Nat} {cells:List Value} {e:TypeId} {v:Value} {rs:List ResultVar} {vs:List Value}:look E.l t=some (.pointer (some ⟨a,0,none⟩))->(a,df.row cells e)∈m->n8 P eE cells 0=some v->nN P E m J rs vs->nN P E m J (.cell t eE::rs) (v::vs)
def nN.Ai{P:Program}{g0:Nat}{S:aY}{H:aw}(au:Sat E S)(aD:Inv g0 B J m H){rs:List ResultVar}{vs:List Value}(h:nN P E m J rs vs):rC P S.T H rs=some vs:=by
 induction h with
 |nil=>rfl
 |tmp ae _ aC=>simp only[rC];rw[au.get _ _ ae];simp only;rw[aC]
 |cell ae ag aE _ aC=>
  simp only[rC];rw[au.get _ _ ae];simp only;have aB:=(aD.own _ _ ag).1;have aB:H.mem.get _=some (.row _ _ false 0 0 false):=aB;unfold BU ED;simp only[aB,aE];rw[aC]
def Fn.b9{f:FuncId}{fn:Func}{c:Code}{args:List Value}{a1:aJ}{dI:Value->aJ->ai->Prop}(ay:K.fR.get f=some fn)(ak:fn.body=some c)(aj:Nat.ble args.length fn.ntmps=true)
 (h:∀H,aK K (iJ a1 H J) c ⟨fn.ntmps,Ag,uX args 0⟩ a1 J fun e E m ah=>(e=.normal\/e=.ret)/\E.ds.ds=[]/\∃vs m',nN K.P E m ah fn.results.toList vs/\m'.Sublist m/\dI (p6 vs) m' ah):Fn K f args a1 J dI:=by
 intro H aD;obtain⟨T,ba,br,bG⟩:=QH (vs:=args) (i:=0) (n:=fn.ntmps) (QQ fn.ntmps) (by have:=iE aj;omega);have au:Sat ⟨fn.ntmps,Ag,uX args 0⟩ ⟨T,fn.ntmps,[],false,.run,none⟩:=by
  refine⟨I,I,I,I,I,br,fun t v q=>?_⟩;obtain⟨_,aH⟩:=QF q;show T.get t=some v;have:t<args.length:=by
   rcases ha t args.length with r|r
   ·exact r
   ·rw[jq (by omega)] at aH;cases aH
  rw[bG,aP (by omega)];exact aH
 obtain⟨e,aL,H',E',cz,ah,aX,aT,bd,cm,fz,vs,m',kh,rX,ua⟩:=h H _ H au aD;refine⟨p6 vs,H',ah,m',?_,bd.sub rX,ua⟩;have sN:aL.ds=[]:=aT.ds.trans fz;refine j5.run K.cZ ay ak ba aX (bg:=aL.bg) ?_;have ar:=kh.Ai aT bd;rcases cm with rfl|rfl
 ·show rq aL.bg (ig K.P _ fn aL.T aL.ds .returning H')=_;rw[sN];unfold ig;rw[ar];rfl
 ·show rq aL.bg (ig K.P _ fn aL.T aL.ds .returning H')=_;rw[sN];unfold ig;rw[ar];rfl
end
def w1{α:Type}(n:Int)(k:Int->α):sA n k=k n:=by
 cases n with
 |ofNat m=>cases m<;>rfl
 |negSucc m=>cases m<;>rfl
def Fz(a b:Int):rU a b=decide (a<b):=by
 cases a with
 |ofNat m=>cases b with
  |ofNat n=>simp only[rU];rw[rc];simp
  |negSucc n=>simp only[rU];rw[rc];simp;omega
 |negSucc m=>cases b with
  |ofNat n=>simp only[rU];rw[rc];simp;omega
  |negSucc n=>simp only[rU];rw[rc];simp;omega
def Fy(a b:Int):rT a b=decide (a=b):=by
 cases a with
 |ofNat m=>cases b with
  |ofNat n=>simp only[rT];rw[rc];simp;omega
  |negSucc n=>simp only[rT];rw[rc];simp
 |negSucc m=>cases b with
  |ofNat n=>simp only[rT];rw[rc];simp
  |negSucc n=>simp only[rT];rw[rc];simp
def FG(k:IntKind):ny k k=true:=by cases k<;>rfl
def wrap_i64{n:Int}(ae:-9223372036854775808<=n)(ag:n<=9223372036854775807):IntKind.i64.wrap n=n:=by
 unfold IntKind.wrap IntKind.signed IntKind.bits;simp only[Xu,Mr];split<;>omega
def A5(H:aw)(b:Bool):zy H b=some (.val (.bool b) H):=by cases b<;>rfl
section
variable {K:dW}{B:dN}{o:Oper}{n:Nat}{ds:er}{l:List (Nat×Value)}{m m':aJ}{J:ai}{fe:bY->aJ->ai->Prop}{d:Nat}
def dr(K:dW)(B:dN)(o:Oper)(n:Nat)(ds:er)(l:List (Nat×Value))(m:aJ)(J:ai)(v:Value):Prop:=∀call aO S H,Sat ⟨n,ds,l⟩ S->Inv K.g0 B J m H->cA K.P call aO S H o=some (.val v H)
def WS{x:Operand}{v:Value}(al:o.op=.move x)(U:bS l x=some v):dr K B o n ds l m J v:=by
 intro call aO S H au aD;unfold cA fi;simp only[al];show hH (a5 S.T H x) H=_;rw[dw au H U];rfl
def az8{x:Operand}{v:Value}(al:o.op=.assign x)(U:bS l x=some v):dr K B o n ds l m J v:=by
 intro call aO S H au aD;unfold cA fi;simp only[al];show hH (a5 S.T H x) H=_;rw[dw au H U];rfl
def aAo{c x y:Operand}{t:Bool}{v:Value}(al:o.op=.pick c x y)(ax:bS l c=some (.bool t))(az:(if t=true then bS l x else bS l y)=some v):dr K B o n ds l m J v:=by
 intro call aO S H au aD;unfold cA fi;simp only[al];show AZ K.P _ x y (a5 S.T H c)=_;rw[dw au H ax];cases t with
 |true=>show hH (a5 S.T H x) H=_;rw[dw au H (by simpa using az)];rfl
 |false=>show hH (a5 S.T H y) H=_;rw[dw au H (by simpa using az)];rfl
def QP (k:IntKind)(a b:Int):BinOp->Option Value
 |.add=>some (.int k (k.wrap (a+b)))
 |.sub=>some (.int k (k.wrap (a -b)))
 |.mul=>some (.int k (k.wrap (a*b)))
 |.eql=>some (.bool (decide (a=b)))
 |.neq=>some (.bool (decide (¬a=b)))
 |.lss=>some (.bool (decide (a<b)))
 |.leq=>some (.bool (decide (a<=b)))
 |.gtr=>some (.bool (decide (b<a)))
 |.geq=>some (.bool (decide (b<=a)))
 |_=>none
def ag7{op:BinOp}{t eE:TypeId}{x y:Operand}{k:IntKind}{a b:Int}{v:Value}(al:o.op=.binOp op t x y eE)(U:bS l x=some (.int k a))(an:bS l y=some (.int k b))(az:QP k a b op=some v):dr K B o n ds l m J v:=by
 intro call aO S H au aD;unfold cA fi;simp only[al];show mG K.P _ op t (a5 S.T H x) (a5 S.T H y)=_;rw[dw au H U,dw au H an];show(bif ny k k then kf H k a b _ op else _)=_;rw[FG,cd];have auX:∀p q:Int,(!decide (p<q))=decide (q<=p):=fun p q=>by rw[rc];simp
 cases op<;>simp only[QP,cb,reduceCtorEq] at az<;>subst az<;>simp only[kf,w1,Gz,q6,A5,Fy,Fz,auX]
 ·rw[show(!decide (a=b))=decide (¬a=b) by rw[rc];simp]
inductive mo (m:aJ) (J:ai) (a:Nat) (cells:List Value):Prop
 |own {e:TypeId}:(a,df.row cells e)∈m->mo m J a cells
 |opn {e:TypeId} {r:List Nat} {z:Nat}:(a,df.opn cells e r z)∈m->mo m J a cells
 |eG {e:TypeId}:J a=some (cells,e)->mo m J a cells
def mo.get{a:Nat}{cells:List Value}(h:mo m J a cells){g0:Nat}{H:aw}(aD:Inv g0 B J m H):∃e o f z s,H.mem.get a=some (.row cells e o f z s):=by
 cases h with
 |own h=>exact⟨_,_,_,_,_,(aD.own _ _ h).1⟩
 |opn h=>obtain⟨f,_,q,_⟩:=(aD.own _ _ h).1;exact⟨_,_,_,_,_,q⟩
 |eG h=>obtain⟨o,f,z,s,q⟩:=aD.eG _ _ _ h;exact⟨_,_,_,_,_,q⟩
def j1{t:TypeId}{x:Operand}{a off:Nat}{cells:List Value}{v:Value}(al:o.op=.load t x)(U:bS l x=some (.pointer (some ⟨a,off,none⟩)))(ar:mo m J a cells)(az:n8 K.P t cells off=some v):dr K B o n ds l m J v:=by
 intro call aO S H au aD;unfold cA fi;simp only[al];show C1 K.P _ t (a5 S.T H x)=_;rw[dw au H U];show hH (ED K.P H t ⟨a,off,none⟩) H=_;obtain⟨e,o',f,z,s,q⟩:=ar.get aD;unfold ED;simp only[q,az];rfl
def g8{P:Program}{t:TypeId}{cells:List Value}{off:Nat}{v:Value}(aM:tu P t=some none)(az:nth cells off=some v):n8 P t cells off=some v:=by
 unfold n8;rw[aM];exact az
def vP{P:Program}{t:TypeId}{cells r:List Value}{off k:Nat}(aM:tu P t=some (some k))(az:takeN k (qH off cells)=some r):n8 P t cells off=some (.agg r.toArray):=by
 unfold n8;rw[aM];simp only[az]
def aA'{t:TypeId}{x:Operand}{v:Value}{cells:List Value}(al:o.op=.box t x)(av:o.dst=some d)(aA:Nat.blt d n=true)(U:bS l x=some v)(ax:v.cells.toList=cells)(ae:cells.all fx=true)(h:∀a,fe ⟨n,ds,(d,.pointer (some ⟨a,0,none⟩))::l⟩ ((a,.row cells t)::m) J):kr K B o ⟨n,ds,l⟩ m J fe:=by
 refine kr.Dt av aA fun S H au aD=>?_;obtain⟨H1,aF,aV⟩:=aD.alloc cells t;refine⟨_,H1,_,J,fun call aO=>?_,aV,h H.ao⟩;unfold cA fi;simp only[al];show Kg K.P _ t (a5 S.T H x)=_;rw[dw au H U];show ou (yx H t v)=_;unfold yx vI;rw[ax,ae,cd,aF];rfl
def aA9{t:TypeId}{z:Value}{cells:List Value}(al:o.op=.alloc t)(av:o.dst=some d)(aA:Nat.blt d n=true)(aR:h2 K.P t=some z)(ap:plain z=true)(ax:z.cells.toList=cells)(ae:cells.all fx=true)(h:∀a,fe ⟨n,ds,(d,.pointer (some ⟨a,0,none⟩))::l⟩ ((a,.row cells t)::m) J):kr K B o ⟨n,ds,l⟩ m J fe:=by
 refine kr.Dt av aA fun S H au aD=>?_;obtain⟨H1,aF,aV⟩:=aD.alloc cells t;refine⟨_,H1,_,J,fun call aO=>?_,aV,h H.ao⟩;unfold cA fi;simp only[al];show VL K.P _ t (h2 K.P t)=_;rw[aR];show(bif plain z then ou (yx H t z) else none)=_;rw[ap,cd];unfold yx vI;rw[ax,ae,cd,aF];rfl
def uE{t:TypeId}{x y:Operand}{a off k:Nat}{v:Value}{vs cells cells':List Value}{e:TypeId}(al:o.op=.store t x y)(av:o.dst=none)(U:bS l x=some (.pointer (some ⟨a,off,none⟩)))(an:bS l y=some v)(hk:e6 K.P t=some k)(ax:v.cells.toList=vs)(aj:Nat.beq vs.length k=true)(aQ:Nat.blt 0 vs.length=true)(ae:vs.all fx=true)(hs:gO off cells vs=some cells')(ap:fY m a (.row cells e) (.row cells' e) m')(h:fe ⟨n,ds,l⟩ m' J):kr K B o ⟨n,ds,l⟩ m J fe:=by
 refine kr.skip av fun S H au aD=>?_;obtain⟨H1,aF,aV⟩:=aD.store ap;obtain⟨aX,aT,bd,cm⟩:=aD.own _ _ ap.mem;have aX:H.mem.get a=some (.row cells e false 0 0 false):=aX;refine⟨H1,m',J,fun call aO=>?_,aV,h⟩;unfold cA fi;simp only[al];show F6 K.P _ t (a5 S.T H x) (a5 S.T H y)=_;rw[dw au H U,dw au H an];show M1 (BW K.P H t (.pointer (some ⟨a,off,none⟩)) v)=_;unfold BW;simp only[hk,ax,aj,cd];unfold tC;cases vs with
 |nil=>cases aQ
 |cons d' vs=>
  simp only
  have aB:Nat.blt a H.bJ=false:=by
   cases q:Nat.blt a H.bJ
   ·rfl
   ·have:a<H.bJ:=by simpa[Nat.blt,x'] using q
    have:=aD.bJ;omega
  rw[aB,dQ,aX];simp only[show Nat.ble 0 off=true from nc (c6 _),Xu,ae,cd,hs,aF,dQ];rfl
def aAl{x:Operand}{a:Addr}(al:o.op=.nilCheck x)(U:bS l x=some (.pointer (some a))):dr K B o n ds l m J (.pointer (some a)):=by
 intro call aO S H au aD;unfold cA fi;simp only[al];show C4 K.P _ (a5 S.T H x)=_;rw[dw au H U];rfl
def EJ (P:Program)(s:TypeId)(f:Nat):Option Nat:=match P.underlying s with
 |some (.struct fields)=>(match fields[f]? with
  |some fd=>(match e6 P fd.type with|some (_+1)=>some fd.offset|_=>none)
  |none=>none)
 |_=>none
def zH{s:TypeId}{x:Operand}{f a off k:Nat}(al:o.op=.fieldAddr s x f)(U:bS l x=some (.pointer (some ⟨a,off,none⟩)))(ay:EJ K.P s f=some k):dr K B o n ds l m J (.pointer (some ⟨a,off+k,none⟩)):=by
 intro call aO S H au aD;unfold cA fi;simp only[al];show C0 K.P _ s f (a5 S.T H x)=_;rw[dw au H U];show hH (Ib K.P s (.pointer (some ⟨a,off,none⟩)) f) H=_;unfold EJ at ay;unfold Ib;simp only
 cases hu:K.P.underlying s with
 |none=>rw[hu] at ay;cases ay
 |some wU=>
  rw[hu] at ay;cases wU with
  |struct fields=>
   simp only at ay ⊢;cases b3:fields[f]? with
   |none=>rw[b3] at ay;cases ay
   |some fd=>
    rw[b3] at ay;simp only at ay ⊢;cases aR:e6 K.P fd.type with
    |none=>rw[aR] at ay;cases ay
    |some z=>
     rw[aR] at ay;cases z with
     |zero=>cases ay
     |succ z=>simp only[cb] at ay;subst ay;rfl
  |_=>cases ay
def EB (P:Program)(t:TypeId):Option Nat:=match P.underlying t with
 |some (.slice e)=>e6 P e
 |_=>none
def UM{i:Int}{len:Nat}(aQ:0<=i)(ae:i<len):vB i len=some i.toNat:=by
 cases i with
 |ofNat n=>
  unfold vB;have:Nat.blt n len=true:=by
   have:n<len:=by simpa using ae
   simpa[Nat.blt,x'] using this
  simp only[this,cd];rfl
 |negSucc n=>exact absurd aQ (by simp)
def ag6{t:TypeId}{x dM:Operand}{a off len cap sz:Nat}{k:IntKind}{i:Int}(al:o.op=.indexAddr t x dM)(U:bS l x=some (.slice (some ⟨a,off,none⟩) len cap))(hi:bS l dM=some (.int k i))(aM:EB K.P t=some sz)(aQ:0<=i)(ae:i<len):dr K B o n ds l m J (.pointer (some ⟨a,off+i.toNat*sz,none⟩)):=by
 intro call aO S H au aD;unfold cA fi;simp only[al];show zr K.P _ t (a5 S.T H x) (a5 S.T H dM)=_;rw[dw au H U,dw au H hi];show hH (yA K.P t (.slice (some ⟨a,off,none⟩) len cap) (.int k i)) H=_;unfold EB at aM;unfold yA;cases hu:K.P.underlying t with
 |none=>rw[hu] at aM;cases aM
 |some wU=>
  rw[hu] at aM;cases wU with
  |slice e=>
   simp only at aM ⊢;rw[UM aQ ae,aM];rfl
  |_=>cases aM
def isSlice (P:Program)(t:TypeId):Bool:=match P.underlying t with|some (.slice _)=>true|_=>false
def FD (P:Program)(t:TypeId):Bool:=match P.underlying t with|some .string=>true|_=>false
def H9{S:aY}{H:aw}{call:eW}{aO:hX}{c:Call}{b:Builtin}(al:o.op=.call c)(ax:c.callee=.builtin b):cA K.P call aO S H o=tB K.P S H o b c:=by
 unfold cA fi;simp only[al];show kN K.P _ c=_;unfold kN;rw[ax]
def aAk{c:Call}{base:Option Addr}{len cap:Nat}{t:TypeId}(al:o.op=.call c)(ax:c.callee=.builtin .len)(aI:jH l c.args.toList=some [.slice base len cap])(aM:c.argTypes.toList=[t])(hs:isSlice K.P t=true):dr K B o n ds l m J (.int .i64 len):=by
 intro call aO S H au aD;rw[H9 al ax];unfold tB;rw[pQ au H aI,aM];simp only
 unfold isSlice at hs;split at hs
 ·rename_i e hu;rw[hu]
 ·cases hs
def aAi{t:TypeId}{x dM:Operand}{s:ByteArray}{k:IntKind}{i:Int}{b:UInt8}(al:o.op=.index t x dM)(U:bS l x=some (.string s))(hi:bS l dM=some (.int k i))(aM:FD K.P t=true)(aQ:0<=i)(ak:s.data.toList[i.toNat]?=some b):dr K B o n ds l m J (.int .u8 b.toNat):=by
 intro call aO S H au aD;unfold cA fi;simp only[al];show AY K.P _ (a5 S.T H x) (a5 S.T H dM) (K.P.underlying t)=_;rw[dw au H U,dw au H hi];unfold FD at aM;split at aM
 ·rename_i hu;rw[hu];unfold AY;simp only
  cases i with
  |ofNat j=>
   simp only[lQ];rw[show s.data.toList[j]?=some b from ak];simp only[w1];rfl
  |negSucc j=>exact absurd aQ (by simp)
 ·cases aM
def aAc{x:Operand}{dM:Nat}{vs:Array Value}{v:Value}(al:o.op=.extract x dM)(U:bS l x=some (.tuple vs))(az:nth vs.toList dM=some v):dr K B o n ds l m J v:=by
 intro call aO S H au aD;unfold cA fi;simp only[al];show CZ K.P _ dM (a5 S.T H x)=_;rw[dw au H U];show hH (nth vs.toList dM) H=_;rw[az];rfl
end
def bX(K:dW)(B:dN)(ops:List Oper)(a0:List jM)(F:List (FuncId×List Value))(E:bY)(m:aJ)(J:ai)(bq:bY->aJ->ai->Prop):Prop:=
 ∀S H,Sat E S->Inv K.g0 B J m H->∃cg:eW,(∀f args H r,cg f args H=some r->(f,args)∉F)/\∃aL H' E' m' ah,
  (∀eh:eW,(∀f args H r,cg f args H=some r->eh f args H=some r)->dA K.P (hY K.Q eh) (fW K.Q g7 eh).aO ops a0 S H=some (.ok aL H'))/\Sat E' aL/\Inv K.g0 B ah m' H'/\bq E' m' ah
section
variable {K:dW}{B:dN}{ops:List Oper}{a0:List jM}{F:List (FuncId×List Value)}{E:bY}{m m':aJ}{J:ai}{o:Oper}{bq:bY->aJ->ai->Prop}{cp:Exit->bY->aJ->ai->Prop}
variable {n:Nat}{ds:er}{l:List (Nat×Value)}{d i:Nat}
def aK.draw{id:Nat}{a:Array Oper}(aj:JS a.toList=none)(cG:Ex a.toList=true)(ap:Kq a.toList=a0)(h:bX K B a.toList a0 [] E m J fun E m J=>cp .normal E m J):aK K B (.region id a true) E m J cp:=by
 intro S H au aD;obtain⟨cg,_,aL,H',E',m',ah,ae,ag,aE,a6⟩:=h S H au aD;refine⟨.normal,aL,H',E',m',ah,dR.xH K.cZ.r1 g7 cg ?_,ag,aE,a6⟩;show r4 (wW K.P (fW K.Q g7 cg).call (fW K.Q g7 cg).aO a.toList S H)=_;rw[K'];unfold wW;rw[aj];show r4 (yy K.P (hY K.Q cg) (fW K.Q g7 cg).aO a.toList S H)=_;unfold yy;rw[cG,cd,ap,ae cg (fun _ _ _ _ q=>q)];rfl
def bX.nil(h:bq E m J):bX K B ops [] F E m J bq:=fun S H au aD=>⟨lP,(fun _ _ _ _ q=>by cases q),S,H,E,m,J,fun _ _=>rfl,au,aD,h⟩
def bX.val{v:Value}(hi:nth ops i=some o)(aB:o.guard=none)(av:o.dst=some d)(aA:Nat.blt d n=true)(az:dr K B o n ds l m J v)(h:bX K B ops a0 F ⟨n,ds,(d,v)::l⟩ m J bq):bX K B ops (.val i::a0) F ⟨n,ds,l⟩ m J bq:=by
 intro S H au aD;obtain⟨a3,s1,s2⟩:=au.put (dst:=some d) aA v;obtain⟨cg,dj,aL,H',E',m',ah,ae,ag,aE,a6⟩:=h a3 H s2 aD;refine⟨cg,dj,aL,H',E',m',ah,fun eh q=>?_,ag,aE,a6⟩;show jl ops i (mM K.P _ _ ops S H (dA K.P _ _ ops a0))=_;unfold jl;rw[hi];show mM K.P _ _ ops S H (dA K.P _ _ ops a0) o=_;unfold mM gK;rw[aB];show Du S H o.dst (dA K.P _ _ ops a0) (cA K.P _ _ S H o)=_;rw[az _ _ S H au aD,av];show(bif Nat.beq H.ao H.ao then qe (dA K.P _ _ ops a0) H (S.put (some d) v) else none)=_;rw[ix,cd,s1];exact ae eh q
def bX.iF{b:fP}{p:df}{eK:jL}(hi:nth ops i=some o)(aB:o.guard=none)(av:o.dst=some d)(aA:Nat.blt d n=true)(aI:∀S,Sat ⟨n,ds,l⟩ S->oG K.P S.T o.op=some (b,eK))(ap:∀H a,H.mem.get a=some b->p.at (fun _=>True) H a)(Fi:∀c e r z,p≠.opn c e r z)
 (h:∀a,bX K B ops a0 F ⟨n,ds,(d,eK.at a)::l⟩ ((a,p)::m) J bq):bX K B ops (.iF i::a0) F ⟨n,ds,l⟩ m J bq:=by
 intro S H au aD;obtain⟨H1,aF⟩:=aD.wf.new b;have eg:p.at B.Al H1 H.ao:=by
  have q:=ap H1 H.ao (by rw[(aw.p4 aF).2.2.2.2.2,aP I]);cases p with
  |row=>exact q
  |map=>exact q
  |loop=>exact q
  |g6=>exact q
  |opn c e r z=>exact absurd I (Fi c e r z)
 have IG:=aD.new aF eg (by cases p with|opn c e r z=>exact absurd I (Fi c e r z)|_=>rfl);obtain⟨a3,s1,s2⟩:=au.put (dst:=some d) aA (eK.at H.ao);obtain⟨cg,dj,aL,H',E',m',ah,ae,ag,aE,a6⟩:=h H.ao a3 H1 s2 IG;refine⟨cg,dj,aL,H',E',m',ah,fun eh q=>?_,ag,aE,a6⟩;show jl ops i (Hj K.P ops S H (dA K.P _ _ ops a0))=_;unfold jl;rw[hi];show Hj K.P ops S H (dA K.P _ _ ops a0) o=_;unfold Hj gK;rw[aB];show Qz S H o.dst (dA K.P _ _ ops a0) (oG K.P S.T o.op)=_;rw[aI S au];show QA S o.dst (dA K.P _ _ ops a0) eK (H.new b)=_;rw[aF,av];show qe (dA K.P _ _ ops a0) H1 (S.put (some d) (eK.at H.ao))=_;rw[s1];exact ae eh q
def VO{S:aY}(au:Sat ⟨n,ds,l⟩ S){x:Operand}{v:Value}(h:bS l x=some v):r2 S.T x=some v:=by
 cases x with
 |tmp t=>exact au.get t v h
 |const c=>exact h
 |global g=>cases h
 |func f=>exact h
def bX.alloc{t:TypeId}{z:Value}{cells:List Value}(hi:nth ops i=some o)(aB:o.guard=none)(al:o.op=.alloc t)(av:o.dst=some d)(aA:Nat.blt d n=true)(aR:h2 K.P t=some z)(ap:plain z=true)(ax:z.cells.toList=cells)(ae:cells.all fx=true)
 (h:∀a,bX K B ops a0 F ⟨n,ds,(d,.pointer (some ⟨a,0,none⟩))::l⟩ ((a,.row cells t)::m) J bq):bX K B ops (.iF i::a0) F ⟨n,ds,l⟩ m J bq:=by
 refine bX.iF (b:=.row cells t false 0 0 false) (p:=.row cells t) (eK:=.ptr) hi aB av aA (fun S au=>?_) (fun H a q=>q) (fun c e r z q=>by cases q) h;rw[al];simp only[oG,aR,ap,cd,BD,ax,ae]
def bX.bw(hi:nth ops i=some o)(aB:o.guard=none)(h:∀S H,Sat E S->Inv K.g0 B J m H->∃aL H' E' m' ah,(∀call aO,o2 S H o.dst (cA K.P call aO S H o)=some (.ok aL H'))/\Sat E' aL/\Inv K.g0 B ah m' H'/\bX K B ops a0 F E' m' ah bq):bX K B ops (.bw i::a0) F E m J bq:=by
 intro S H au aD;obtain⟨a3,H1,e8,cz,bj,aX,aT,bd,cm⟩:=h S H au aD;obtain⟨cg,dj,aL,H',E',m',ah,ae,ag,aE,a6⟩:=cm a3 H1 aT bd;refine⟨cg,dj,aL,H',E',m',ah,fun eh q=>?_,ag,aE,a6⟩;show jl ops i (fun o=>jS ops (dA K.P _ _ ops a0) (one K.P _ _ ops S H o))=_;unfold jl;rw[hi];show jS ops (dA K.P _ _ ops a0) (one K.P _ _ ops S H o)=_;unfold one gK;rw[aB];show jS ops (dA K.P _ _ ops a0) (o2 S H o.dst (cA K.P _ _ S H o))=_;rw[aX];exact ae eh q
def bX.nP(hi:nth ops i=some o)(aB:o.guard=none)(h:kr K B o E m J fun E m J=>bX K B ops a0 F E m J bq):bX K B ops (.bw i::a0) F E m J bq:=bX.bw hi aB h
def bX.akU{v:Value}(hi:nth ops i=some o)(aB:o.guard=none)(av:o.dst=some d)(aA:Nat.blt d n=true)(az:dr K B o n ds l m J v)(h:bX K B ops a0 F ⟨n,ds,(d,v)::l⟩ m J bq):bX K B ops (.bw i::a0) F ⟨n,ds,l⟩ m J bq:=by
 refine bX.bw hi aB fun S H au aD=>?_;obtain⟨a3,s1,s2⟩:=au.put (dst:=some d) aA v;refine⟨a3,H,_,m,J,fun call aO=>?_,s2,aD,h⟩;rw[az _ _ S H au aD,av];show oq H (S.put (some d) v)=_;rw[s1];rfl
def bX.akH{c:Call}{x:Operand}{f:FuncId}{first cap:Array Value}{args bP:List Value}{a1 cB:aJ}{dI:Value->aJ->ai->Prop}
 (hi:nth ops i=some o)(aB:o.guard=none)(al:o.op=.call c)(av:o.dst=some d)(aA:Nat.blt d n=true)(ax:c.callee=.value x)(U:bS l x=some (.func (.func f) first cap))(aI:jH l c.args.toList=some args)(has:(first.toList++args)++cap.toList=bP)
 (ay:(f,bP)∉F)(ap:(a1++cB).Perm m)(fB:AR a1)(bC:Fn K f bP a1 J dI)(h:∀v m' ah,J.le ah->dI v m' ah->bX K B ops a0 ((f,bP)::F) ⟨n,ds,(d,v)::l⟩ (m'++cB) ah bq):bX K B ops (.bw i::a0) F ⟨n,ds,l⟩ m J bq:=by
 intro S H au aD;obtain⟨v,H',ah,m',aX,aT,bd⟩:=bC H (aD.enter ap fB);obtain⟨cm,fz⟩:=aD.leave ap aT;obtain⟨a3,s1,s2⟩:=au.put (dst:=some d) aA v;obtain⟨cg,dj,aL,oz,E',ki,pa,ae,ag,aE,a6⟩:=h v m' ah fz bd a3 H' s2 cm
 classical
 refine⟨fun ck bV H1=>if ck=f/\bV=bP then lD f bP H (.returned v,H') ck bV H1 else cg ck bV H1,fun ck bV H1 r q=>?_,aL,oz,E',ki,pa,fun eh q=>?_,ag,aE,a6⟩
 ·simp only at q;split at q
  ·rename_i e;rw[e.1,e.2];exact ay
  ·exact fun cu=>dj ck bV H1 r q (XW _ cu)
 ·have gT:eh f bP H=some (.returned v,H'):=q f bP H _ (by simp only[LQ,aP];unfold lD;rw[aP ⟨I,I,I⟩]);have vw:∀ck bV H1 r,cg ck bV H1=some r->eh ck bV H1=some r:=fun ck bV H1 r ar=>q ck bV H1 r (by
   simp only
   rw[aG (fun e=>dj ck bV H1 r ar (by rw[e.1,e.2];exact List.mem_cons_self))];exact ar)
  show jl ops i (fun o=>jS ops (dA K.P _ _ ops a0) (one K.P _ _ ops S H o))=_;unfold jl;rw[hi];show jS ops (dA K.P _ _ ops a0) (one K.P _ _ ops S H o)=_;unfold one gK;rw[aB];show jS ops (dA K.P _ _ ops a0) (o2 S H o.dst (cA K.P _ _ S H o))=_;have he:cA K.P (hY K.Q eh) (fW K.Q g7 eh).aO S H o=some (.val v H'):=by
   unfold cA fi;simp only[al];show kN K.P _ c=_;unfold kN;rw[ax];show nj K.P _ _ S.T H c=_;unfold nj;rw[pQ au H aI];simp only[ax];rw[dw au H U];simp only
   show(match kY K.P H (.func f) (first.toList++args) cap.toList with|some (f,bP)=>oL (hY K.Q _ f bP H)|none=>none)=_
   unfold kY;simp only
   rw[has,Ac aX gT];rfl
  rw[he,av];show jS ops (dA K.P _ _ ops a0) (oq H' (S.put (some d) v))=_;rw[s1];exact ae eh vw
def bX.call{c:Call}{x:Operand}{f:FuncId}{first cap:Array Value}{args bP:List Value}{a1 cB:aJ}{dI:Value->aJ->ai->Prop}
 (hi:nth ops i=some o)(aB:o.guard=none)(al:o.op=.call c)(av:o.dst=some d)(aA:Nat.blt d n=true)(ax:c.callee=.value x)(U:bS l x=some (.func (.func f) first cap))(aI:jH l c.args.toList=some args)(has:(first.toList++args)++cap.toList=bP)
 (ay:F.all (fun g=>!Nat.beq g.1 f)=true)(ap:(a1++cB).Perm m)(fB:AR a1)(bC:Fn K f bP a1 J dI)(h:∀v m' ah,J.le ah->dI v m' ah->bX K B ops a0 ((f,bP)::F) ⟨n,ds,(d,v)::l⟩ (m'++cB) ah bq):bX K B ops (.bw i::a0) F ⟨n,ds,l⟩ m J bq:=
 bX.akH hi aB al av aA ax U aI has (fun q=>by
  rw[sf] at ay;have:=ay (f,bP) q;simp at this) ap fB bC h
def kq(K:dW)(B:dN)(ops:List Oper)(n:Nat)(ds:er)(l:List (Nat×Value))(m:aJ)(J:ai)(i:Nat):Prop:=
 ∀call aO S H,Sat ⟨n,ds,l⟩ S->Inv K.g0 B J m H->BK K.P call aO ops S H i=true
def kq.val{v u:Value}(hi:nth ops i=some o)(aB:o.guard=none)(av:o.dst=some d)(az:dr K B o n ds l m J v)(hu:look l d=some u)(he:ep 8 v u=true):kq K B ops n ds l m J i:=by
 intro call aO S H au aD;unfold BK;rw[hi];show Zj K.P call aO ops S H o (gK ops S.T o)=true;unfold gK;rw[aB];show Rc H.ao S.T o.dst (cA K.P call aO S H o)=true;rw[az _ _ S H au aD,av];show(Nat.beq H.ao H.ao&&(match S.T.get d with|some u=>ep 8 v u|none=>false))=true
 rw[ix,au.get d u hu];simpa using he
def x3(K:dW)(B:dN)(ops:List Oper)(n:Nat)(ds:er)(l:List (Nat×Value))(m:aJ)(J:ai):List Nat->Prop
 |[]=>True
 |i::r=>kq K B ops n ds l m J i/\x3 K B ops n ds l m J r
def x3.all{call:eW}{aO:hX}{S:aY}{H:aw}(au:Sat ⟨n,ds,l⟩ S)(aD:Inv K.g0 B J m H):∀{is:List Nat},x3 K B ops n ds l m J is->is.all (BK K.P call aO ops S H)=true:=by
 intro is;induction is with
 |nil=>intro _;rfl
 |cons i r aC=>intro h;rw[DQ,h.1 call aO S H au aD,aC h.2];rfl
def bX.b6{is:List Nat}(ax:x3 K B ops n ds l m J is)(h:bX K B ops a0 F ⟨n,ds,l⟩ m J bq):bX K B ops (.b6 is::a0) F ⟨n,ds,l⟩ m J bq:=by
 intro S H au aD;obtain⟨cg,dj,aL,H',E',m',ah,ae,ag,aE,a6⟩:=h S H au aD;refine⟨cg,dj,aL,H',E',m',ah,fun eh q=>?_,ag,aE,a6⟩;show HL K.P _ _ ops S H (dA K.P _ _ ops a0) is=_;unfold HL;rw[x3.all au aD ax,cd];exact ae eh q
def aho(k:IntKind)(a:Int)(n:Nat):ep (n+1) (.int k a) (.int k a)=true:=by
 show(ny k k&&rT a a)=true;rw[FG,Fy];simp
end
def agQ{α:Type}:∀(l:List α) (i:Nat) (T:aZ α),(∀k,k<i->∃v,T.get k=some v)->∃ea,zE l i T=some ea:=by
 intro l;induction l with
 |nil=>intro i T _;exact⟨T,I⟩
 |cons x l aC=>
  intro i T h;obtain⟨rj,cq⟩:=aZ.Gb x T i h;obtain⟨ea,e⟩:=aC (i+1) rj fun k hk=>by
   rw[aZ.get_put cq];split
   ·exact⟨_,I⟩
   ·exact h k (by omega)
  refine⟨ea,?_⟩;simp only[zE,aZ.set];rw[cq];exact e
def b1{P:Program}{f:FuncId}{fn:Func}(h:P.funcs[f]?=some fn):(EM P).get f=some fn:=by
 obtain⟨T,cq⟩:=agQ P.funcs.toList 0 .leaf (fun k hk=>absurd hk (by omega));unfold EM;rw[cq];simp only
 rw[WK cq];have cI:f<P.funcs.size:=(PU.1 h).1;rw[aP (by simpa using cI)];simpa using h
section
variable {K:dW}{B:dN}{o:Oper}{n:Nat}{ds:er}{l:List (Nat×Value)}{m m':aJ}{J:ai}{fe:bY->aJ->ai->Prop}{d:Nat}
def e'{P:Program}{α β:Type}{s:Sem α}{a:α}{f:α->Sem β}(h:fw P s=some a):fw P (s >>= f)=fw P (f a):=by
 show fw P (Sem.bind s f)=_;induction s with
 |pure b=>simp only[fw,cb] at h;subst h;rfl
 |program k aC=>exact aC P (by simpa[fw] using h)
 |mark m k aC=>exact aC (by simpa[fw] using h)
 |_=>simp[fw] at h
def BV{P:Program}{t:TypeId}{wU:TypeDesc}(h:P.underlying t=some wU):fw P (underlying t)=some wU:=by
 have:fw P (underlying t)=fw P (match P.underlying t with|some d=>pure d|none=>stuck "no such type"):=by
  rfl
 rw[this,h];rfl
def jb{E:bY}{S:aY}(au:Sat E S)(H:aw){x:Operand}{v:Value}(h:bS E.l x=some v):s' S.T H x=v:=by
 unfold s';rw[dw au H h]
def ae2{x:Operand}{a v:Value}{S:aY}{H:aw}(au:Sat ⟨n,ds,l⟩ S)(TY:o.op.operands.toList=[x])(U:bS l x=some a)(aI:plain a=true)(he:fw K.P (execOp (s' S.T H) o)=some (.value v))(az:plain v=true):fQ K.P S.T H o=some (.val v H):=by
 unfold fQ;rw[TY];have:gp S.T H [x]=some [a]:=by simp only[gp];rw[dw au H U]
 rw[this];simp only[DQ,List.all_nil,aI,zM,cd,he,az]
def p9{x y:Operand}{a b v:Value}{S:aY}{H:aw}(au:Sat ⟨n,ds,l⟩ S)(TY:o.op.operands.toList=[x,y])(U:bS l x=some a)(an:bS l y=some b)(aI:plain a=true)(ak:plain b=true)(he:fw K.P (execOp (s' S.T H) o)=some (.value v))(az:plain v=true):fQ K.P S.T H o=some (.val v H):=by
 unfold fQ;rw[TY];have:gp S.T H [x,y]=some [a,b]:=by simp only[gp];rw[dw au H U,dw au H an]
 rw[this];simp only[DQ,List.all_nil,aI,ak,zM,cd,he,az]
def ag8{t:TypeId}{x:Operand}{b:Bool}(al:o.op=.unOp .not t x)(U:bS l x=some (.bool b)):dr K B o n ds l m J (.bool (!b)):=by
 intro call aO S H au aD;unfold cA fi;simp only[al];show fQ K.P S.T H o=_;refine ae2 au (by rw[al];rfl) U I ?_ I;unfold execOp;simp only[al];rw[jb au H U];rfl
def aAm{t:TypeId}{x:Operand}{p:Prop}[Decidable p](al:o.op=.unOp .not t x)(U:bS l x=some (.bool (decide p))):dr K B o n ds l m J (.bool (decide (¬p))):=by
 have:=ag8 (K:=K) (B:=B) (n:=n) (ds:=ds) (m:=m) (J:=J) al U;rwa [show(!decide p)=decide (¬p) by simp] at this
def isInt (P:Program)(s d:TypeId):Option IntKind:=match P.underlying s,P.underlying d with
 |some _,some (.int k)=>some k
 |_,_=>none
def aAa{s t:TypeId}{x:Operand}{k fT:IntKind}{a b:Int}(al:o.op=.convert s t x)(U:bS l x=some (.int fT a))(aM:isInt K.P s t=some k)(hw:k.wrap a=b):dr K B o n ds l m J (.int k b):=by
 intro call aO S H au aD;unfold cA fi;simp only[al];show zq K.P _ s t (a5 S.T H x)=_;rw[dw au H U];unfold zq;simp only
 unfold isInt at aM;split at aM
 ·rename_i ae ag;rw[ae,ag];injection aM with aM;subst aM
  simp only[w1,Gz,hw];rfl
 ·cases aM
def CP (P:Program)(t:TypeId):Bool:=match P.underlying t with
 |some (.interface _)=>false
 |some _=>true
 |none=>false
def aAe{t:TypeId}{x:Operand}{v:Value}(al:o.op=.makeInterface t x)(U:bS l x=some v)(aM:CP K.P t=true):dr K B o n ds l m J (.iface t v):=by
 intro call aO S H au aD;unfold cA fi;simp only[al];show C3 K.P _ t (a5 S.T H x) (K.P.underlying t)=_;rw[dw au H U];unfold CP at aM;cases hu:K.P.underlying t with
 |none=>rw[hu] at aM;cases aM
 |some wU=>rw[hu] at aM;cases wU<;>first|rfl|cases aM
def aAd{f:FuncId}{a b:Array Operand}{n0 xW:List Value}(al:o.op=.makeFunc (.func f) a b)(aI:jH l a.toList=some n0)(ak:jH l b.toList=some xW):dr K B o n ds l m J (.func (.func f) n0.toArray xW.toArray):=by
 intro call aO S H au aD;unfold cA fi;simp only[al];show C2 K.P _ (.func f) (gp S.T H a.toList) (gp S.T H b.toList)=_;rw[pQ au H aI,pQ au H ak];rfl
def u7 (l:List (Nat×Value)):List (Nat×Operand)->Option (List (Nat×Value))
 |[]=>some []
 |(i,x)::r=>match bS l x with
  |some v=>(match u7 l r with|some vs=>some ((i,v)::vs)|none=>none)
  |none=>none
def Z4{E:bY}{S:aY}(au:Sat E S)(H:aw):∀{xs:List (Nat×Operand)} {vs:List (Nat×Value)},u7 E.l xs=some vs->mH S.T H xs=some vs:=by
 intro xs;induction xs with
 |nil=>intro vs h;exact h
 |cons x r aC=>
  obtain⟨i,x⟩:=x;intro vs h;simp only[u7] at h;simp only[mH];cases U:bS E.l x with
  |none=>rw[U] at h;cases h
  |some v=>
   rw[U] at h;simp only at h;rw[dw au H U];simp only;cases ar:u7 E.l r with
   |none=>rw[ar] at h;cases h
   |some ws=>rw[ar] at h;simp only at h;rw[aC ar];exact h
def Hz (P:Program)(t:TypeId):Option (Sum (List (Nat×Nat)) Nat×List Value):=match h2 P t,P.underlying t with
 |some z,some (.struct fields)=>bif plain z then(match places P fields.toList with|some ps=>some (.inl ps,z.cells.toList)|none=>none) else none
 |some z,some (.array _ elem)=>bif plain z then(match e6 P elem with|some sz=>some (.inr sz,z.cells.toList)|none=>none) else none
 |_,_=>none
def placeOf:Sum (List (Nat×Nat)) Nat->Nat->Option (Nat×Nat)
 |.inl ps=>nth ps
 |.inr sz=>fun i=>some (i*sz,sz)
def az'{t:TypeId}{ps:Array (Nat×Operand)}{vs:List (Nat×Value)}{pl:Sum (List (Nat×Nat)) Nat}{z cells:List Value}(al:o.op=.build t ps)(ap:u7 l ps.toList=some vs)(aM:Hz K.P t=some (pl,z))(ay:oN (placeOf pl) z vs=some cells):dr K B o n ds l m J (.agg cells.toArray):=by
 intro call aO S H au aD;unfold cA fi;simp only[al];show CY K.P _ t (mH S.T H ps.toList)=_;rw[Z4 au H ap];show hH (H7 K.P t vs) H=_;unfold Hz at aM;unfold H7;cases aR:h2 K.P t with
 |none=>rw[aR] at aM;cases aM
 |some DC=>
  rw[aR] at aM;cases hu:K.P.underlying t with
  |none=>rw[hu] at aM;cases aM
  |some wU=>
   rw[hu] at aM;cases wU with
   |struct fields=>
    simp only at aM ⊢;cases Jm:plain DC with
    |false=>rw[Jm] at aM;cases aM
    |true=>
     rw[Jm,cd] at aM;rw[cd];cases b3:places K.P fields.toList with
     |none=>rw[b3] at aM;cases aM
     |some dd=>
      rw[b3] at aM;simp only[cb,c8] at aM;obtain⟨rfl,rfl⟩:=aM;have ay:oN (nth dd) DC.cells.toList vs=some cells:=ay;simp only[ay];rfl
   |array k elem=>
    simp only at aM ⊢;cases Jm:plain DC with
    |false=>rw[Jm] at aM;cases aM
    |true=>
     rw[Jm,cd] at aM;rw[cd];cases b3:e6 K.P elem with
     |none=>rw[b3] at aM;cases aM
     |some sz=>
      rw[b3] at aM;simp only[cb,c8] at aM;obtain⟨rfl,rfl⟩:=aM;have ay:oN (fun i=>some (i*sz,sz)) DC.cells.toList vs=some cells:=ay;simp only[ay];rfl
   |_=>cases aM
def z8 (P:Program)(t:TypeId):Option (Nat×TypeId×Nat):=match P.underlying t with
 |some (.array len elem)=>(match e6 P elem with|some sz=>some (len,elem,sz)|none=>none)
 |_=>none
def YE{P:Program}{t elem:TypeId}{len sz:Nat}(h:z8 P t=some (len,elem,sz)):P.underlying t=some (.array len elem)/\e6 P elem=some sz:=by
 unfold z8 at h;split at h
 ·rename_i ae;split at h
  ·rename_i ag;simp only[cb,c8] at h;obtain⟨rfl,rfl,rfl⟩:=h;exact⟨ae,ag⟩
  ·cases h
 ·cases h
def aAf{t elem:TypeId}{x dM:Operand}{a off len sz:Nat}{k:IntKind}{i:Int}(al:o.op=.indexAddr t x dM)(U:bS l x=some (.pointer (some ⟨a,off,none⟩)))(hi:bS l dM=some (.int k i))(aM:z8 K.P t=some (len,elem,sz))(aQ:0<=i)(ae:i<len):dr K B o n ds l m J (.pointer (some ⟨a,off+i.toNat*sz,none⟩)):=by
 obtain⟨hu,aR⟩:=YE aM;intro call aO S H au aD;unfold cA fi;simp only[al];show zr K.P _ t (a5 S.T H x) (a5 S.T H dM)=_;rw[dw au H U,dw au H hi];show hH (yA K.P t (.pointer (some ⟨a,off,none⟩)) (.int k i)) H=_;unfold yA;simp only[hu,UM aQ ae,aR];rfl
def aAg{t elem e:TypeId}{g:Nat}{dM:Operand}{cells:List Value}{len sz:Nat}{k:IntKind}{i:Int}(al:o.op=.indexAddr t (.global g) dM)(aB:Nat.blt g K.g0=true)(gX:J g=some (cells,e))(hi:bS l dM=some (.int k i))(aM:z8 K.P t=some (len,elem,sz))(aQ:0<=i)(ae:i<len):dr K B o n ds l m J (.pointer (some ⟨g,0+i.toNat*sz,none⟩)):=by
 obtain⟨hu,aR⟩:=YE aM;intro call aO S H au aD;unfold cA fi;simp only[al];show zr K.P _ t (F7 H g) (a5 S.T H dM)=_;obtain⟨o',ck,h8,de,b3⟩:=aD.eG _ _ _ gX;have:F7 H g=some (.pointer (some ⟨g,0,none⟩)):=by
  unfold F7;rw[aD.bJ,aB,cd,b3]
 rw[this,dw au H hi];show hH (yA K.P t (.pointer (some ⟨g,0,none⟩)) (.int k i)) H=_;unfold yA;simp only[hu,UM aQ ae,aR];rfl
def YO{op:BinOp}{t eE:TypeId}{x y:Operand}{a b:Value}{r:Bool}{S:aY}{H:aw}{call:eW}{aO:hX}(al:o.op=.binOp op t x y eE)(U:a5 S.T H x=some a)(an:a5 S.T H y=some b)(hi:∀k i,a≠.int k i)(ap:fQ K.P S.T H o=none)(he:xK K.P ⟨call,aO,S,H,o⟩ t a b op=some (.val (.bool r) H)):cA K.P call aO S H o=some (.val (.bool r) H):=by
 unfold cA fi;simp only[al];show mG K.P _ op t (a5 S.T H x) (a5 S.T H y)=_;rw[U,an];have:mG K.P ⟨call,aO,S,H,o⟩ op t (some a) (some b)=vM K.P ⟨call,aO,S,H,o⟩ op t a b:=by
  cases a<;>first|rfl|exact absurd I (hi _ _)
 rw[this];unfold vM;show orElse (fQ K.P S.T H o) _=_;rw[ap];exact he
def aAu{op:BinOp}{t eE:TypeId}{x y:Operand}{b:Option Addr}{len cap:Nat}(al:o.op=.binOp .eql t x y eE)(U:bS l x=some (.slice b len cap))(an:bS l y=some (.slice none 0 0))(aM:isSlice K.P t=true):dr K B o n ds l m J (.bool b.isNone):=by
 intro call aO S H au aD;unfold isSlice at aM;split at aM
 ·rename_i e hu;cases b with
  |none=>
   unfold cA fi;simp only[al];show mG K.P _ .eql t (a5 S.T H x) (a5 S.T H y)=_;rw[dw au H U,dw au H an];show orElse (fQ K.P S.T H o) _=_;have:fQ K.P S.T H o=some (.val (.bool true) H):=by
    refine p9 au (by rw[al];rfl) U an I I ?_ I;unfold execOp;simp only[al];rw[jb au H U,jb au H an];rw[e' (a:=.bool true)]
    ·rfl
    rw[e' (a:=()) (by rfl)];have ak:binOp .eql t (.slice none len cap) (.slice none 0 0)=(do pure (.bool (<-Op.equal t (.slice none len cap) (.slice none 0 0)))):=by simp[binOp]
    rw[ak,e' (a:=true)]
    ·rfl
    show fw K.P (Op.equalIn (9999+1) t (.slice none len cap) (.slice none 0 0))=_;unfold Op.equalIn;rw[e' (BV hu)];rfl
   rw[this];rfl
  |some a=>
   refine YO al (dw au H U) (dw au H an) (fun _ _ q=>by cases q) ?_ ?_
   ·unfold fQ;rw[al];have:gp S.T H (Op.binOp BinOp.eql t x y eE).operands.toList=some [.slice (some a) len cap,.slice none 0 0]:=by
     show gp S.T H [x,y]=_;simp only[gp];rw[dw au H U,dw au H an]
    rw[this];rfl
   ·unfold xK yz;simp only[hu];rfl
 ·cases aM
inductive fg (J:ai) (e:TypeId) (sz:Nat):Value->Nat->List Value->Prop
 |nil:fg J e sz (.slice none 0 0) 0 []
 |kA (a off cap:Nat):cap<cK->fg J e sz (.slice (some ⟨a,off,none⟩) 0 cap) 0 []
 |Ah:fg J e sz (.slice (some ⟨0,0,some 0⟩) 0 0) 0 []
 |row {a off len cap:Nat} {cells cs:List Value} {bA:TypeId}:J a=some (cells,bA)->(cells.drop off).take (len*sz)=cs->cs.length=len*sz->(cap≠cK->len<=cap/\cap<cK)->(cap=cK->bA=e)->fg J e sz (.slice (some ⟨a,off,none⟩) len cap) len cs
def fg.mono{J ah:ai}(hle:J.le ah){e:TypeId}{sz n:Nat}{v:Value}{cs:List Value}(h:fg J e sz v n cs):fg ah e sz v n cs:=by
 cases h with
 |nil=>exact .nil
 |kA a off cap h=>exact .kA a off cap h
 |Ah=>exact .Ah
 |row ae ag aE a6 dK=>exact .row (hle _ _ ae) ag aE a6 dK
def fg.inv{J:ai}{e:TypeId}{sz n:Nat}{v:Value}{cs:List Value}(h:fg J e sz v n cs):∃b c,v=.slice b n c/\cs.length=n*sz/\(b=none->n=0)/\(0<n->∃a off cells bA,b=some ⟨a,off,none⟩/\J a=some (cells,bA)/\∀k,k<n*sz->nth cells (off+k)=cs[k]?):=by
 cases h with
 |nil=>exact⟨_,_,I,by simp,fun _=>rfl,fun q=>absurd q (by omega)⟩
 |kA a off cap h=>exact⟨_,_,I,by simp,fun _=>rfl,fun q=>absurd q (by omega)⟩
 |Ah=>exact⟨_,_,I,by simp,fun _=>rfl,fun q=>absurd q (by omega)⟩
 |@row a off len cap cells cs bA ae ag aE a6 dK=>
  refine⟨_,_,I,aE,(fun q=>by cases q),fun _=>⟨a,off,cells,bA,I,ae,fun k hk=>?_⟩⟩;rw[lQ,<-ag,iY,aP hk,n2]
def fg.len{J:ai}{e:TypeId}{sz n:Nat}{v:Value}{cs:List Value}(h:fg J e sz v n cs):cs.length=n*sz:=by
 obtain⟨_,_,_,h,_⟩:=h.inv;exact h
def zC{α:Type}{n:Nat}{l:List α}(h:n<=l.length):takeN n l=some (l.take n):=by
 induction n generalizing l with
 |zero=>rfl
 |succ n aC=>
  cases l with
  |nil=>simp at h
  |cons a l=>
   simp only[takeN];rw[aC (by simpa using h)];rfl
def pe(g0:Nat)(B:dN)(J:ai)(m:aJ)(sz:Nat)(v:Value)(n:Nat)(cs:List Value):Prop:=∀H,Inv g0 B J m H->s4 v=some n/\kB H sz n v=some cs
def fg.rd{g0:Nat}{B:dN}{J:ai}{m:aJ}{e:TypeId}{sz n:Nat}{v:Value}{cs:List Value}(h:fg J e sz v n cs):pe g0 B J m sz v n cs:=by
 intro H aD;cases h with
 |nil=>exact⟨I,I⟩
 |kA a off cap h=>exact⟨I,I⟩
 |Ah=>exact⟨I,I⟩
 |@row a off len cap cells cs bA ae ag aE a6 dK=>
  refine⟨I,?_⟩;obtain⟨o,f,z,s,q⟩:=aD.eG _ _ _ ae;unfold kB;cases n with
  |zero=>simp only;rw[<-ag];simp
  |succ n=>
   simp only[q];rw[wS,zC,ag];have:((cells.drop off).take ((n+1)*sz)).length=(n+1)*sz:=by rw[ag];exact aE
   rw[eL] at this;omega
def nF (P:Program)(t:TypeId):Option (TypeId×Nat×List Value):=match P.underlying t with
 |some (.slice e)=>(match e6 P e,wL P e,h2 P e with
  |some sz,some jR,some z=>bif Nat.ble jR 1000000&&Nat.beq z.cells.toList.length sz&&z.cells.toList.all fx&&plain z then some (e,sz,z.cells.toList) else none
  |_,_,_=>none)
 |_=>none
def vX{P:Program}{t e:TypeId}{sz:Nat}{gA:List Value}(h:nF P t=some (e,sz,gA)):P.underlying t=some (.slice e)/\e6 P e=some sz/\∃jR z,wL P e=some jR/\h2 P e=some z/\Nat.ble jR 1000000=true/\gA=z.cells.toList/\gA.length=sz/\gA.all fx=true/\plain z=true:=by
 unfold nF at h;split at h
 ·rename_i bA ae;split at h
  ·rename_i azs jR z ag aE a6;cases ak:(Nat.ble jR 1000000&&Nat.beq z.cells.toList.length azs&&z.cells.toList.all fx&&plain z) with
   |true=>
    rw[ak,cd] at h;simp only[cb,c8] at h;obtain⟨rfl,rfl,rfl⟩:=h;simp only[gQ] at ak;obtain⟨⟨⟨bc,bl⟩,b0⟩,dp⟩:=ak;exact⟨ae,ag,jR,z,aE,a6,bc,I,eM bl,b0,dp⟩
   |false=>rw[ak,dQ] at h;cases h
  ·cases h
 ·cases h
def aBa{t e:TypeId}{k sz:Nat}{gA cells:List Value}{ps:Array (Nat×Operand)}{vs:List (Nat×Value)}(al:o.op=.buildSlice t k ps)(av:o.dst=some d)(aA:Nat.blt d n=true)(ap:u7 l ps.toList=some vs)(aM:nF K.P t=some (e,sz,gA))(hk:(Nat.ble k 100000&&Nat.ble (k*sz) 100000)=true)(ay:oN (fun i=>some (i*sz,sz)) (fp gA k) vs=some cells)(ae:cells.all fx=true)
 (h:∀a,fe ⟨n,ds,(d,.slice (some ⟨a,0,none⟩) k k)::l⟩ ((a,.row cells e)::m) J):kr K B o ⟨n,ds,l⟩ m J fe:=by
 obtain⟨hu,en,jR,z,iR,aR,bc,rfl,bl,b0,dp⟩:=vX aM;refine kr.Dt av aA fun S H au aD=>?_;obtain⟨H1,aF,aV⟩:=aD.alloc cells e;refine⟨_,H1,_,J,fun call aO=>?_,aV,h H.ao⟩;unfold cA fi;simp only[al];show Kh K.P _ t k (mH S.T H ps.toList)=_;rw[Z4 au H ap];show ou (H8 K.P H t k vs)=_;unfold H8 vI;simp only[hu,en,aR];rw[hk,dp,show Nat.beq z.cells.toList.length sz=true by rw[bl];exact ix _];simp only[zM,cd,ay,ae,aF];rfl
def JI{i:Int}{len:Nat}(aQ:0<=i)(ae:i<=len):rV i len=some i.toNat:=by
 cases i with
 |ofNat n=>
  unfold rV;have:Nat.ble n len=true:=nc (by simpa using ae);simp only[this,cd];rfl
 |negSucc n=>exact absurd aQ (by simp)
def ti{t e:TypeId}{x y:Operand}{sz:Nat}{gA:List Value}{i j:Int}{ub N3:IntKind}(al:o.op=.makeSlice t x y)(av:o.dst=some d)(aA:Nat.blt d n=true)(U:bS l x=some (.int ub i))(an:bS l y=some (.int N3 j))(aM:nF K.P t=some (e,sz,gA))(aQ:0<=i)(ae:i<=j)(ag:j<=1000000)
 (h:∀a,fe ⟨n,ds,(d,.slice (some ⟨a,0,none⟩) i.toNat j.toNat)::l⟩ ((a,.row (fp gA j.toNat) e)::m) J):kr K B o ⟨n,ds,l⟩ m J fe:=by
 obtain⟨hu,en,jR,z,iR,aR,bc,rfl,bl,b0,dp⟩:=vX aM;refine kr.Dt av aA fun S H au aD=>?_;obtain⟨H1,aF,aV⟩:=aD.alloc (fp z.cells.toList j.toNat) e;refine⟨_,H1,_,J,fun call aO=>?_,aV,h H.ao⟩;unfold cA fi;simp only[al];show Ki K.P _ t (a5 S.T H x) (a5 S.T H y)=_;rw[dw au H U,dw au H an];show ou (Ic K.P H t (.int ub i) (.int N3 j))=_;unfold Ic vI;simp only[hu,aR,iR,en];rw[JI (by omega) (by omega),JI (by omega) (by omega)];simp only[bc,b0,dp,K8];rw[show Nat.beq z.cells.toList.length sz=true by rw[bl];exact ix _,show Nat.ble i.toNat j.toNat=true from nc (by omega)];simp only[K8,cd,aF];rfl
inductive Acc (e:TypeId) (sz:Nat):Value->Nat->List Value->aJ->Prop
 |nil:Acc e sz (.slice none 0 0) 0 [] []
 |kA (a:Nat):Acc e sz (.slice (some ⟨a,0,none⟩) 0 0) 0 [] []
 |opn {a k:Nat} {cells:List Value} {rest:List Nat} {z:Nat}:cells.length=k*sz->z<=cells.length->Acc e sz (.slice (some ⟨a,0,none⟩) k cK) k cells [(a,.opn cells e rest z)]
 |cap {a k C:Nat} {cells full:List Value} {el:TypeId}:full.length=C*sz->full.take (k*sz)=cells->k<=C->C<cK->Acc e sz (.slice (some ⟨a,0,none⟩) k C) k cells [(a,.row full el)]
def xT{α:Type}:∀(off:Nat) (l vs:List α),off+vs.length<=l.length->gO off l vs=some (l.take off++vs++l.drop (off+vs.length)):=by
 intro off;induction off with
 |zero=>
  intro l vs h;induction vs generalizing l with
  |nil=>cases l<;>simp[gO]
  |cons v vs aC=>
   cases l with
   |nil=>simp at h
   |cons a l=>
    have:=aC l (by simp only[ks] at h;omega);simp only[gO,this];simp
 |succ n aC=>
  intro l vs h;cases l with
  |nil=>simp at h
  |cons a l=>
   have:=aC l vs (by simp only[ks] at h;omega);simp only[gO,this];simp[Nat.add_right_comm n 1 vs.length]
def Inv.perm{g0:Nat}{H:aw}(h:Inv g0 B J m H)(ap:m.Perm m'):Inv g0 B J m' H:=
 ⟨h.wf,h.bJ,h.ao,h.cC,h.fU,h.oe,h.eG,h.le,h.fresh,fun a b q=>h.own a b (ap.symm.subset q),fun a b q=>h.opn a b (ap.symm.subset q),(NQ ap).nodup_iff.1 h.gZ⟩
def Inv.grow{g0 a z:Nat}{H:aw}{cells:List Value}{e:TypeId}{rest:List Nat}(h:Inv g0 B J ((a,.opn cells e rest z)::m) H)(cells':List Value):∃f H1 bT,H.mem.get a=some (.row cells e true f z false)/\H.bF.get f=some (a::rest)/\H.td f (H.ao::a::rest)=some H1/\H1.ao=H.ao/\H1.new (.row cells' e true f z false)=some (H.ao,bT)/\Inv g0 B J ((H.ao,.opn cells' e (a::rest) z)::m) bT:=by
 obtain⟨aX,aT,bd,cm⟩:=h.own a _ (.head _);obtain⟨f,f1,f2,f3⟩:=aX;have abF:=h.wf.Ik f3;have eb:=h.gZ;rw[show ids ((a,df.opn cells e rest z)::m)=a::(rest++ids m) from I,uL,mm] at eb;obtain⟨H1,aF⟩:=h.wf.td (H.ao::a::rest) abF;obtain⟨s2,s1,jZ,Gh,vW⟩:=aw.Gj aF;have hm:Inv g0 B J m H1:=by
  refine⟨h.wf.Wl abF aF,Gh.trans h.bJ,by rw[s2];exact h.ao,by rw[jZ];exact h.cC,fun x U eO=>by rw[s1];exact h.fU x U eO,fun g aB=>?_,fun x c e aW=>by rw[s1];exact h.eG x c e aW,h.le,h.fresh,fun x b ak=>?_,fun x b ak y an=>by rw[s2];exact h.opn x b (.tail _ ak) y an,(DV _ _).nodup eb.2⟩
  ·rw[vW,aG (fun q=>aB (by rw[q];exact f1))];exact h.oe g aB
  ·obtain⟨eR,eo,kJ,m0⟩:=h.own x b (.tail _ ak);refine⟨?_,eo,kJ,m0⟩;cases b with
   |row c e=>show H1.mem.get x=_;rw[s1];exact eR
   |map es k=>show H1.mem.get x=_;rw[s1];exact eR
   |loop r=>show H1.mem.get x=_;rw[s1];exact eR
   |g6=>show H1.mem.get x=_;rw[s1];exact eR
   |opn c bA r h8=>
    obtain⟨g,ca,b7,cw⟩:=eR;refine⟨g,ca,by rw[s1];exact b7,?_⟩;rw[vW,aG]
    ·exact cw
    ·intro q;subst q;rw[f3] at cw;injection cw with cw;injection cw with cw
     subst cw;exact eb.1 (.inr (AJ ak))
 obtain⟨bT,aV⟩:=hm.wf.new (.row cells' e true f z false);obtain⟨_,c2,fb,gf,hP,e2⟩:=aw.p4 aV;refine⟨f,H1,bT,f2,f3,aF,s2,by rw[<-s2];exact aV,?_⟩;have ag:Inv g0 B J m bT:=by
  refine⟨hm.wf.Vr aV,hP.trans hm.bJ,by have:=hm.ao;omega,by rw[gf];exact hm.cC,fun x U eO=>?_,fun g aB=>by rw[fb];exact hm.oe g aB,fun x c e aW=>?_,hm.le,hm.fresh,fun x b ak=>?_,fun x b ak y an=>?_,hm.gZ⟩
  ·rw[e2,aG (by have:=hm.ao;omega)];exact hm.fU x U eO
  ·obtain⟨o,f,z,s,q⟩:=hm.eG x c e aW;exact⟨o,f,z,s,by rw[e2,aG (by have:=hm.wf.lt q;omega)];exact q⟩
  ·obtain⟨eR,eo,kJ,m0⟩:=hm.own x b ak;exact⟨df.yg eR (by rw[e2,aG (by have:=hm.lt ak;omega)]) (fun f l ay=>by rw[fb];exact ay),eo,kJ,m0⟩
  ·obtain⟨eR,eo,kJ⟩:=hm.opn x b ak y an;exact⟨by omega,eo,kJ⟩
 refine⟨ag.wf,ag.bJ,ag.ao,ag.cC,ag.fU,ag.oe,ag.eG,ag.le,ag.fresh,fun x b ak=>?_,fun x b ak y an=>?_,?_⟩
 ·rcases fs.1 ak with q|q
  ·injection q with aN aH;subst aN;subst aH
   exact⟨⟨f,f1,by rw[e2,s2,aP I],by rw[fb,vW,aP I]⟩,.inl h.ao,h.Vu,h.Sd⟩
  ·exact ag.own x b q
 ·rcases fs.1 ak with q|q
  ·injection q with aN aH;subst aN;subst aH
   have cI:y<H.ao/\(B.H0.ao<=y\/B.X y)/\J y=none:=by
    rcases fs.1 (show y∈a::rest from an) with q|q
    ·subst q;exact⟨h.lt (.head _),aT,bd⟩
    ·exact h.opn a _ (.head _) y q
   exact⟨by have:=cI.1;omega,cI.2⟩
  ·exact ag.opn x b q y an
 ·show(H.ao::(a::(rest++ids m))).Nodup;rw[uL];refine⟨fun q=>?_,h.gZ⟩;have:=h.Oe (show H.ao∈ids ((a,df.opn cells e rest z)::m) from q);omega
def YP{j:Nat}(h:j≠0):Nat.ble (0+j) 0=false:=by
 cases q:Nat.ble (0+j) 0
 ·rfl
 ·have:=iE q;omega
def iV(aS:aJ):Prop:=∀a c e r z,(a,df.opn c e r z)∈aS->z=0
def Xh{a:Nat}{c:List Value}{e:TypeId}{r:List Nat}:iV [(a,.opn c e r 0)]:=fun a c e r z q=>by
 rcases fs.1 q with q|q
 ·injection q with _ q;injection q
 ·cases q
def aBi{a:Nat}{c:List Value}{e:TypeId}:iV [(a,.row c e)]:=fun a c e r z q=>by
 rcases fs.1 q with q|q
 ·cases q
 ·cases q
def aBh{a bD:Nat}{c c':List Value}{e bA:TypeId}{r cu:List Nat}{z:Nat}(h:iV [(a,.opn c e r z)]):iV [(bD,.opn c' bA cu z)]:=fun b x y u w q=>by
 rcases fs.1 q with q|q
 ·injection q with _ q;injection q with _ _ _ q
  subst q;exact h _ _ _ _ _ (.head _)
 ·cases q
def vH(aS:aJ):Prop:=∀a c e,(a,df.row c e)∉aS
def On{a:Nat}{c:List Value}{e:TypeId}{r:List Nat}{z:Nat}:vH [(a,.opn c e r z)]:=fun a c e q=>by
 rcases fs.1 q with q|q
 ·cases q
 ·cases q
def ahL{c:Call}{t iA e:TypeId}{sz k j:Nat}{gA cells new:List Value}{v x:Value}{aS e1:aJ}{e0:TypeDesc}(al:o.op=.call c)(ax:c.callee=.builtin .append)(av:o.dst=some d)(aA:Nat.blt d n=true)(aI:jH l c.args.toList=some [v,x])(tV:c.argTypes.toList=[t,iA])(aM:nF K.P t=some (e,sz,gA))(lN:K.P.underlying iA=some e0)(xh:∀i,e0≠.int i)
 (az:Acc e sz v k cells aS)(hm:m=aS++e1)(U:pe K.g0 B J m sz x j new)(cH:new.length=j*sz)(c7:new.all fx=true)(aj:k+j<=1000000)
 (h:∀w kj,Acc e sz w (k+j) (cells++new) kj->(iV aS->iV kj)/\(vH aS->vH kj)->fe ⟨n,ds,(d,w)::l⟩ (kj++e1) J):kr K B o ⟨n,ds,l⟩ m J fe:=by
 obtain⟨hu,en,jR,z,iR,aR,bc,rfl,bl,b0,dp⟩:=vX aM;refine kr.Dt av aA fun S H au aD=>?_;obtain⟨dH,eP⟩:=U H aD;have hD:∀call aO,cA K.P call aO S H o=ou (rB K.P H t v x):=fun call aO=>by
  rw[H9 al ax];unfold tB;rw[pQ au H aI,tV];simp only[lN]
 have lJ:(!(Nat.ble (k+j) 1000000&&Nat.ble jR 1000000&&Nat.beq z.cells.toList.length sz))=false:=by
  rw[bc,bl,ix,show Nat.ble (k+j) 1000000=true from nc aj];rfl
 have sU:(!(new.all fx&&Nat.beq new.length (j*sz)))=false:=by
  rw[c7,cH,ix];rfl
 subst hm;cases az with
 |nil=>
  by_cases aW:j=0
  ·subst aW;have nU:new=[]:=by apply mQ;rw[cH];simp
   subst nU;refine⟨.slice none 0 0,H,_,J,fun call aO=>?_,aD,h _ [] .nil ⟨id,id⟩⟩;rw[hD];unfold rB;simp only[hu,en,iR,aR,dH,lJ,dQ,eP,sU];rfl
  ·obtain⟨H1,aF,aV⟩:=aD.pA new e;refine⟨.slice (some ⟨H.ao,0,none⟩) j cK,H1,(H.ao,.opn new e [] 0)::e1,J,fun call aO=>?_,aV,?_⟩
   ·rw[hD];unfold rB;simp only[hu,en,iR,aR,dH,lJ,dQ,eP,sU];rw[show Nat.beq 0 cK=false from I,dQ,YP aW,dQ];simp only[kB,DT,nM,ix,cd,nL,fresh,aF,j8];rfl
   ·have:=h (.slice (some ⟨H.ao,0,none⟩) j cK) [(H.ao,.opn new e [] 0)] (by rw[j8,nL];exact .opn cH (c6 _)) ⟨fun _=>Xh,fun _=>On⟩;exact this
 |kA a=>
  by_cases aW:j=0
  ·subst aW;have nU:new=[]:=by apply mQ;rw[cH];simp
   subst nU;refine⟨.slice (some ⟨a,0,none⟩) 0 0,H,_,J,fun call aO=>?_,aD,h _ [] (.kA a) ⟨id,id⟩⟩;rw[hD];unfold rB;simp only[hu,en,iR,aR,dH,lJ,dQ,eP,sU];rfl
  ·obtain⟨H1,aF,aV⟩:=aD.pA new e;refine⟨.slice (some ⟨H.ao,0,none⟩) j cK,H1,(H.ao,.opn new e [] 0)::e1,J,fun call aO=>?_,aV,?_⟩
   ·rw[hD];unfold rB;simp only[hu,en,iR,aR,dH,lJ,dQ,eP,sU];rw[show Nat.beq 0 cK=false from I,dQ,YP aW,dQ];simp only[kB,DT,nM,ix,cd,nL,fresh,aF,j8];rfl
   ·have:=h (.slice (some ⟨H.ao,0,none⟩) j cK) [(H.ao,.opn new e [] 0)] (by rw[j8,nL];exact .opn cH (c6 _)) ⟨fun _=>Xh,fun _=>On⟩;exact this
 |@opn a k cells rest z hlen jw=>
  have AH:Nat.ble z (0+k*sz)=true:=nc (by omega);by_cases aW:j=0
  ·subst aW;have nU:new=[]:=by apply mQ;rw[cH];simp
   subst nU;obtain⟨f,H1,bT,ca,b7,gJ,hL,hd,pR⟩:=Inv.grow (m:=e1) aD cells;have qK:Nat.blt a H.bJ=false:=by
    cases q:Nat.blt a H.bJ
    ·rfl
    ·have:a<H.bJ:=by simpa[Nat.blt,x'] using q
     have:=(aD.own _ _ (.head _)).2.2.2;have:=aD.bJ;omega
   refine⟨.slice (some ⟨a,0,none⟩) k cK,H,_,J,fun call aO=>?_,aD,h _ [(a,.opn cells e rest z)] (by rw[pc,gC];exact .opn hlen jw) ⟨id,id⟩⟩;rw[hD];unfold rB;simp only[hu,en,iR,aR,dH,lJ,dQ,eP,sU,ix,cd,ca,qK,Xt,zM,AH,ow];rfl
  ·obtain⟨f,H1,bT,ca,b7,gJ,hL,hd,pR⟩:=Inv.grow (m:=e1) aD (cells++new);have qK:Nat.blt a H.bJ=false:=by
    cases q:Nat.blt a H.bJ
    ·rfl
    ·have:a<H.bJ:=by simpa[Nat.blt,x'] using q
     have:=(aD.own _ _ (.head _)).2.2.2;have:=aD.bJ;omega
   refine⟨.slice (some ⟨H.ao,0,none⟩) (k+j) cK,bT,(H.ao,.opn (cells++new) e (a::rest) z)::e1,J,fun call aO=>?_,pR,?_⟩
   ·rw[hD];have Ty:Nat.beq j 0=false:=by
     cases q:Nat.beq j 0
     ·rfl
     ·exact absurd (eM q) aW
    have Jt:takeN (k*sz) cells=some cells:=by rw[zC (by omega),ft (by omega)]
    unfold rB;simp only[hu,en,iR,aR,dH,lJ,dQ,eP,sU,ix,cd,ca,qK,Xt,zM,AH,ow,Ty,Jt,b7,Af,hlen,HT,gJ,hL,hd];rfl
   ·exact h (.slice (some ⟨H.ao,0,none⟩) (k+j) cK) [(H.ao,.opn (cells++new) e (a::rest) z)] (.opn (by rw[dv,hlen,cH,g']) (by rw[dv];omega)) ⟨aBh,fun _=>On⟩
 |@cap a k C cells full el jd rH abR l6=>
  have ab7:Nat.beq C cK=false:=by
   cases q:Nat.beq C cK
   ·rfl
   ·have:=eM q;omega
  have mb:H.mem.get a=some (.row full el false 0 0 false):=(aD.own a (.row full el) (.head _)).1;have IZ:cells.length=k*sz:=by rw[<-rH,eL,jd,gv (hJ _ abR)]
  have Tq:Nat.blt a H.bJ=false:=by
   cases q:Nat.blt a H.bJ
   ·rfl
   ·have:a<H.bJ:=by simpa[Nat.blt,x'] using q
    have:=(aD.own _ _ (.head _)).2.2.2;have:=aD.bJ;omega
  by_cases oS:k+j<=C
  ·have Cv:k*sz+new.length<=full.length:=by rw[cH,jd,<-g'];exact hJ _ oS
   have kI:=xT (k*sz) full new Cv;have c4:∃H1,tC H a (0+k*sz) new=some H1/\∃EN,Inv K.g0 B J ((a,.row EN el)::e1) H1/\EN.length=C*sz/\EN.take ((k+j)*sz)=cells++new:=by
    cases yY:new with
    |nil=>
     have aQ:j*sz=0:=by rw[<-cH,yY];rfl
     exact⟨H,I,full,aD,jd,by rw[g',aQ,pc,rH,gC]⟩
    |cons hT xs=>
     obtain⟨H1,aF,aV⟩:=aD.store (cells':=full.take (k*sz)++new++full.drop (k*sz+new.length)) (.head _ _ _ _);refine⟨H1,?_,_,aV,?_,?_⟩
     ·rw[<-yY]
      have:tC H a (0+k*sz) new=(bif Nat.blt a H.bJ then none else match H.mem.get a with
       |some (.row cells elem opn bF ek sh)=>bif Nat.ble ek (0+k*sz)&&new.all fx then(match gO (0+k*sz) cells new with
        |none=>none
        |some cells=>match H.upd a (.row cells elem opn bF ek sh) with
         |none=>none
         |some H=>bif opn then AL H a bF else some H) else none
       |_=>none):=by rw[yY];rfl
      rw[this];simp only[Tq,dQ,mb,j8,kI,aF,c7,K8,Nat.ble,cd]
     ·simp only[dv,eL,jO];omega
     ·rw[j6,List.take_append,rH,ft (by rw[IZ,g'];omega),List.take_append,ft (by rw[IZ,cH,g'];omega),IZ,cH,g',show k*sz+j*sz -k*sz -j*sz=0 by omega,ku,gC];exact dh _ yY
   obtain⟨H1,aF,EN,aV,cj,eT⟩:=c4;refine⟨.slice (some ⟨a,0,none⟩) (k+j) C,H1,(a,.row EN el)::e1,J,fun call aO=>?_,aV,h _ [(a,.row EN el)] (.cap cj eT oS l6) ⟨fun _=>aBi,fun q=>absurd (.head _) (q _ _ _)⟩⟩;rw[hD];unfold rB;simp only[hu,en,iR,aR,dH,lJ,dQ,eP,sU,ab7,show Nat.ble (k+j) C=true from nc oS,cd,aF];rfl
  ·obtain⟨H1,aF,aV⟩:=aD.pA (cells++new) e;have Cg:Nat.ble (k+j) C=false:=by
    cases q:Nat.ble (k+j) C
    ·rfl
    ·have:=iE q;omega
   have hold:kB H sz k (.slice (some ⟨a,0,none⟩) k C)=some cells:=by
    cases k with
    |zero=>
     rw[nM,ku] at rH;subst rH;rfl
    |succ k=>
     simp only[kB,mb];rw[wS,iD,zC (by rw[jd];exact hJ _ abR),rH]
   refine⟨.slice (some ⟨H.ao,0,none⟩) (k+j) cK,H1,(H.ao,.opn (cells++new) e [] 0)::e1,J,fun call aO=>?_,aV.sub (.cons_cons _ (.cons _ (.refl _))),h _ [(H.ao,.opn (cells++new) e [] 0)] (.opn (by rw[dv,IZ,cH,g']) (c6 _)) ⟨fun _=>Xh,fun _=>On⟩⟩;rw[hD];unfold rB;simp only[hu,en,iR,aR,dH,lJ,dQ,eP,sU,ab7,Cg,AS,hold,IZ,ix,cd,fresh,aF];rfl
def aA7{c:Call}{t iA e:TypeId}{sz k j:Nat}{gA cells new:List Value}{v x:Value}{aS e1:aJ}{e0:TypeDesc}(al:o.op=.call c)(ax:c.callee=.builtin .append)(av:o.dst=some d)(aA:Nat.blt d n=true)(aI:jH l c.args.toList=some [v,x])(tV:c.argTypes.toList=[t,iA])(aM:nF K.P t=some (e,sz,gA))(lN:K.P.underlying iA=some e0)(xh:∀i,e0≠.int i)
 (az:Acc e sz v k cells aS)(hm:m=aS++e1)(U:pe K.g0 B J m sz x j new)(cH:new.length=j*sz)(c7:new.all fx=true)(aj:k+j<=1000000)
 (h:∀w kj,Acc e sz w (k+j) (cells++new) kj->fe ⟨n,ds,(d,w)::l⟩ (kj++e1) J):kr K B o ⟨n,ds,l⟩ m J fe:=
 ahL al ax av aA aI tV aM lN xh az hm U cH c7 aj fun w kj q _=>h w kj q
def aK.cut{c:Code}{E:bY}{L:List (Nat×Value)}{M:aJ}{bj:ai}{cp:Exit->bY->aJ->ai->Prop}(ae:aK K B c E m J fun e E' m' ah=>match e with
 |.normal=>(∃a9,E'=⟨n,ds,a9⟩/\lT a9 L)/\M.Sublist m'/\ah=bj
 |e=>cp e E' m' ah)(ag:cp .normal ⟨n,ds,L⟩ M bj):aK K B c E m J cp:=by
 intro S H au aD;obtain⟨e,aL,H',E',cz,ah,aX,aT,bd,cm⟩:=ae S H au aD;cases e with
 |normal=>
  obtain⟨⟨a9,rfl,fz⟩,kh,rfl⟩:=cm;exact⟨_,aL,H',_,M,_,aX,aT.sub fz,bd.sub kh,ag⟩
 |exit i=>exact⟨_,aL,H',_,_,_,aX,aT,bd,cm⟩
 |goto i=>exact⟨_,aL,H',_,_,_,aX,aT,bd,cm⟩
 |ret=>exact⟨_,aL,H',_,_,_,aX,aT,bd,cm⟩
 |panic c=>exact⟨_,aL,H',_,_,_,aX,aT,bd,cm⟩
 |outgrown=>exact⟨_,aL,H',_,_,_,aX,aT,bd,cm⟩
def Zw{t:Nat}{p:Prop}[Decidable p](h:look l t=some (.bool true))(ap:p):look l t=some (.bool (decide p)):=by rw[h,lm ap]
def Zu{t:Nat}{p:Prop}[Decidable p](h:look l t=some (.bool false))(ap:¬p):look l t=some (.bool (decide p)):=by rw[h,g5 ap]
def Zv{t:Nat}{p q:Prop}[Decidable p][Decidable q](h:look l t=some (.bool (decide q)))(ap:q↔p):look l t=some (.bool (decide p)):=by rw[h];simp[ap]
def Zt{t:Nat}{p:Prop}[Decidable p]{b:Bool}(h:look l t=some (.bool b))(ap:b=true↔p):look l t=some (.bool (decide p)):=by rw[h];congr 2;rw[rc];simp[ap]
def yj (l:List (Nat×Value))(d:Int):Option Operand->Option Int
 |none=>some d
 |some x=>match bS l x with|some (.int _ i)=>some i|_=>none
def QS{S:aY}(au:Sat ⟨n,ds,l⟩ S)(H:aw){dl i:Int}{x:Option Operand}(h:yj l dl x=some i):(x=none/\i=dl/\iT S.T H x=some none)\/(∃k y,x=some y/\bS l y=some (.int k i)/\iT S.T H x=some (some (.int k i))):=by
 cases x with
 |none=>injection h with h;exact .inl ⟨I,h.symm,I⟩
 |some y=>
  right
  simp only[yj] at h;split at h
  ·rename_i k j aW;injection h with h;subst h
   exact⟨k,y,I,aW,by simp only[iT];rw[dw au H aW]⟩
  ·cases h
def Aa{S:aY}(au:Sat ⟨n,ds,l⟩ S)(H:aw){dl i:Int}{x:Option Operand}{ju top:Nat}(h:yj l dl x=some i)(aQ:0<=i)(ae:i<=top)(av:dl=ju):∃jm,iT S.T H x=some jm/\l2 ju top jm=some i.toNat:=by
 rcases QS au H h with⟨rfl,rfl,q⟩|⟨k,y,rfl,an,q⟩
 ·refine⟨none,q,?_⟩;rw[av];rfl
 ·exact⟨_,q,JI aQ ae⟩
def Xd{t e:TypeId}{x:Operand}{lo hi:Option Operand}{v:Value}{k sz:Nat}{gA cs:List Value}{a b:Int}(al:o.op=.slice t x lo hi none)(av:o.dst=some d)(aA:Nat.blt d n=true)(U:bS l x=some v)(aM:nF K.P t=some (e,sz,gA))(az:fg J e sz v k cs)(hk:0<k)(ji:yj l 0 lo=some a)(lK:yj l k hi=some b)(aQ:0<=a)(ae:a<=b)(ag:b<=k)
 (h:∀w,fg J e sz w (b -a).toNat ((cs.drop (a.toNat*sz)).take ((b -a).toNat*sz))->fe ⟨n,ds,(d,w)::l⟩ m J):kr K B o ⟨n,ds,l⟩ m J fe:=by
 obtain⟨hu,en,jR,z,iR,aR,bc,rfl,bl,b0,dp⟩:=vX aM;refine kr.Dt av aA fun S H au aD=>?_;cases az with
 |nil=>exact absurd hk (by omega)
 |kA a off cap h=>exact absurd hk (by omega)
 |Ah=>exact absurd hk (by omega)
 |@row iZ off k cap cells cs bA dc c9 fI iL q4=>
  obtain⟨ol,VI,CU⟩:=Aa (ju:=0) (top:=b.toNat) au H ji aQ (by omega) I;have hD:∀w,l4 K.P H t (.slice (some ⟨iZ,off,none⟩) k cap) ol (match iT S.T H hi with|some x=>x|none=>none)=some w->∀call aO,cA K.P call aO S H o=some (.val w H):=fun w hw call aO=>by
   unfold cA fi;simp only[al];show oi K.P _ t (a5 S.T H x) (iT S.T H lo) (iT S.T H hi)=_;rw[dw au H U,VI];rcases QS au H lK with⟨_,_,q⟩|⟨_,_,_,_,q⟩
   ·rw[q] at hw ⊢;unfold oi;simp only;rw[show l4 K.P H t (.slice (some ⟨iZ,off,none⟩) k cap) ol none=some w from hw];rfl
   ·rw[q] at hw ⊢;unfold oi;simp only;rw[show l4 K.P H t (.slice (some ⟨iZ,off,none⟩) k cap) ol _=some w from hw];rfl
  have hlen:k*sz<=(cells.drop off).length:=by
   have:((cells.drop off).take (k*sz)).length=k*sz:=by rw[c9];exact fI
   rw[eL] at this;omega
  have aF:(b -a).toNat=b.toNat -a.toNat:=by omega
  have hle:a.toNat*sz+(b -a).toNat*sz<=k*sz:=by
   rw[<-g'];exact hJ _ (by omega)
  have iI:(cells.drop (off+a.toNat*sz)).take ((b -a).toNat*sz)=(cs.drop (a.toNat*sz)).take ((b -a).toNat*sz):=by
   rw[<-c9,DR,qq,zU,gv (by omega)]
  have l8:((cs.drop (a.toNat*sz)).take ((b -a).toNat*sz)).length=(b -a).toNat*sz:=by
   rw[eL,jO,fI];omega
  obtain⟨F4,of,awf,os,b3⟩:=aD.eG _ _ _ dc;by_cases ax:cap=cK
  ·subst ax;obtain⟨CS,s8,s9⟩:=Aa (ju:=k) (top:=k) au H lK (by omega) (by omega) I;refine⟨.slice (some ⟨iZ,off+a.toNat*sz,none⟩) (b -a).toNat cK,H,m,J,hD _ ?_,aD,h _ (.row dc iI l8 (fun q=>absurd I q) q4)⟩;rw[s8];unfold l4;simp only[hu,en,ix,cd,b3,q4 I,s9,CU,ow,dQ];rw[aF];rfl
  ·obtain⟨CS,s8,s9⟩:=Aa (ju:=k) (top:=cap) au H lK (by omega) (by have:=(iL ax).1;omega) I;have IY:Nat.beq cap cK=false:=by
    cases q:Nat.beq cap cK
    ·rfl
    ·exact absurd (eM q) ax
   by_cases vo:cap=a.toNat
   ·have jw:(b -a).toNat=0:=by have:=(iL ax).1;omega
    refine⟨.slice (some ⟨iZ,off,none⟩) (b -a).toNat (cap -a.toNat),H,m,J,hD _ ?_,aD,h _ ?_⟩
    ·rw[s8];unfold l4;simp only[hu,en,IY,dQ,s9,CU];rw[show Nat.beq cap a.toNat=true by rw[vo];exact ix _,cd,aF];rfl
    ·have:(cs.drop (a.toNat*sz)).take ((b -a).toNat*sz)=[]:=by rw[jw];simp
     rw[this,jw,vo,pL];exact .kA _ _ _ (by decide)
   ·refine⟨.slice (some ⟨iZ,off+a.toNat*sz,none⟩) (b -a).toNat (cap -a.toNat),H,m,J,hD _ ?_,aD,h _ (.row dc iI l8 (fun _=>⟨by have:=(iL ax).1;omega,by have:=(iL ax).2;omega⟩) (fun q=>?_))⟩
    ·rw[s8];unfold l4;simp only[hu,en,IY,dQ,s9,CU];have:Nat.beq cap a.toNat=false:=by
      cases q:Nat.beq cap a.toNat
      ·rfl
      ·exact absurd (eM q) vo
     rw[this,dQ,aF];rfl
    ·have:=(iL ax).2;omega
end
end
end Go.Opn

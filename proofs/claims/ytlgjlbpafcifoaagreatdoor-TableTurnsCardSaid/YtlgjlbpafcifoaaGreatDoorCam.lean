/- A part of the proof of TableTurns. -/
import Derived.Test.YtlgjlbpafcifoaaGreatDoorCal
set_option linter.unusedVariables false
set_option linter.unusedSimpArgs false
namespace Go.Opn
noncomputable section
open Go.Cre Go.RowKit
inductive xU {P:Program} (Q:cZ P) (ops:List Oper):List Oper->aV->an->dd->Prop
 |nil (S:aV) (H:an):xU Q ops [] S H (.ok S H)
 |cons (ek:Code->aV->an->Option (Exit×aV×an)) (ck:eo) {o:Oper} {rest:List Oper} {S a0:aV} {H H1:an} {r:dd}:one P (gV Q ck) (e8 Q ek ck).aE ops S H o=some (.ok a0 H1)->xU Q ops rest a0 H1 r->xU Q ops (o::rest) S H r
 |fO (ek:Code->aV->an->Option (Exit×aV×an)) (ck:eo) {o:Oper} {rest:List Oper} {S a0:aV} {H H1:an} {chain:List PanicEntry}:one P (gV Q ck) (e8 Q ek ck).aE ops S H o=some (.fO chain a0 H1)->xU Q ops (o::rest) S H (.fO chain a0 H1)
theorem xU.sound{P:Program}{Q:cZ P}{B:Nat->Prop}{w0:World}(fY:Q.ok B w0){ops:Array Oper}{fr:Frame}{k:List Item}{l:List Oper}{S:aV}{H:an}{bB:dd}(h:xU Q ops.toList l S H bB):∀(i:Nat) (μ:bL) (w:World) (tmps:Array Value) (ds:List Deferred) (cs:List Frame),
 ops.toList.drop i=l->bX P B w0 μ H w->hJ P μ S fr tmps ds cs->
 kq P B w0 μ H S fr cs (lone (bH fr tmps ds (.inRegion ops (List.range' i l.length)::k)) cs w) k bB:=by
 induction h with
 |nil S H=>
  intro i μ w tmps ds cs _ h aA;exact⟨μ,w,tmps,ds,cs,h,Step.refl _ _,aA,jz.refl _ _ aA.tj,rfl,rfl,.one RD⟩
 |@cons ek ck o rest S a0 H H1 r mI _ aP=>
  intro i μ w tmps ds cs al h aA;have ah:ops[i]?=some o:=by
   have:(ops.toList.drop i)[0]?=some o:=by rw[al];rfl
   simpa using this
  have z9:ops.toList.drop (i+1)=rest:=by
   have:(ops.toList.drop i).drop 1=rest:=by rw[al];rfl
   rw[D2] at this;exact this
  show kq P B w0 μ H S fr cs (lone (bH fr tmps ds (.inRegion ops (i::List.range' (i+1) rest.length)::k)) cs w) k r;have ab:=AQ (k:=k) (rest:=List.range' (i+1) rest.length) (MS ck fY) (LG (E:=e8 Q ek ck) (B4 ek fY)) h aA ah mI;exact ab.bind fun e2 bt y' uF gj bY _ cz _ _ _=>aP (i+1) e2 bt y' uF gj z9 bY cz
 |@fO ek ck o rest S a0 H H1 chain mI=>
  intro i μ w tmps ds cs al h aA;have ah:ops[i]?=some o:=by
   have:(ops.toList.drop i)[0]?=some o:=by rw[al];rfl
   simpa using this
  show kq P B w0 μ H S fr cs (lone (bH fr tmps ds (.inRegion ops (i::List.range' (i+1) rest.length)::k)) cs w) k _;exact AQ (k:=k) (rest:=List.range' (i+1) rest.length) (MS ck fY) (LG (E:=e8 Q ek ck) (B4 ek fY)) h aA ah mI
def XR (S:aV)(H:an):Option (List PanicEntry)->dd
 |none=>.ok S H
 |some c=>.fO c S H
def NE:Option (List PanicEntry)->Exit
 |none=>.normal
 |some c=>.panic c
theorem dk.ops{P:Program}{Q:cZ P}{id:Nat}{ops:Array Oper}{S aC:aV}{H H':an}{p:Option (List PanicEntry)}(h:xU Q ops.toList ops.toList S H (XR aC H' p)):dk Q (.region id ops false) S H (NE p) aC H':=by
 refine .mk fun B w0 fY μ w fr tmps ds cs k it lL b3 hs=>?_;obtain rfl:=hs.plain (fun _ q=>by cases q);have:=h.sound (k:=k) (fr:=fr) fY 0 μ w tmps ds cs (by simp) lL b3;have aw:List.range' 0 ops.toList.length=List.range ops.size:=by rw[abB];simp
 rw[aw] at this;exact(Ri (by cases p<;>rfl) this).steps (.one Z1)
structure dy where
 P:Program
 e5:aW Func
 cw:sT P e5
 Q:cZ P
 g0:Nat
abbrev aO:=List (Nat×dw)
section
variable {K:dy}{B:c5}
def W(K:dy)(B:c5)(ops rest:List Oper)(E:b0)(m:aO)(J:af)(ba:Option (List PanicEntry)->b0->aO->af->Prop):Prop:=
 ∀S H,Sat E S->Inv K.g0 B J m H->∃p aC H' E' m' ae,xU K.Q ops rest S H (XR aC H' p)/\Sat E' aC/\Inv K.g0 B ae m' H'/\ba p E' m' ae
def aB(K:dy)(B:c5)(c:Code)(E:b0)(m:aO)(J:af)(ba:Exit->b0->aO->af->Prop):Prop:=
 ∀S H,Sat E S->Inv K.g0 B J m H->∃e aC H' E' m' ae,dk K.Q c S H e aC H'/\Sat E' aC/\Inv K.g0 B ae m' H'/\ba e E' m' ae
def Exec(K:dy)(B:c5)(o:Oper)(E:b0)(m:aO)(J:af)(e7:b0->aO->af->Prop):Prop:=
 ∀S H,Sat E S->Inv K.g0 B J m H->∃ek ck aC H' E' m' ae,np S H o.dst (cj K.P (gV K.Q ck) (e8 K.Q ek ck).aE S H o)=some (.ok aC H')/\Sat E' aC/\Inv K.g0 B ae m' H'/\e7 E' m' ae
variable {ops rest:List Oper}{E:b0}{m m':aO}{J:af}{o:Oper}{ba:Option (List PanicEntry)->b0->aO->af->Prop}{e7:b0->aO->af->Prop}{cd au4:Exit->b0->aO->af->Prop}
theorem W.nil(h:ba none E m J):W K B ops [] E m J ba:=fun S H aj av=>⟨none,S,H,E,m,J,.nil S H,aj,av,h⟩
theorem W.step(ax:o.guard=none)(h:Exec K B o E m J fun E m J=>W K B ops rest E m J ba):W K B ops (o::rest) E m J ba:=by
 intro S H aj av;obtain⟨ek,ck,a0,H1,dC,cL,bi,ab,ad,aL,a6⟩:=h S H aj av;obtain⟨p,aC,H',E',m',ae,aU,aQ,bj,ct⟩:=a6 a0 H1 ad aL;refine⟨p,aC,H',E',m',ae,.cons ek ck ?_ aU,aQ,bj,ct⟩;unfold one fa;rw[ax];exact ab
def jZ (ops:List Oper)(o:Oper):Option (Nat×Bool):=match o.guard with
 |some (j,want)=>(match nth ops j with|some p=>(match p.dst with|some d=>some (d,want)|none=>none)|none=>none)
 |none=>none
theorem z1{S:aV}{d:Nat}{want b:Bool}(ax:jZ ops o=some (d,want))(ai:S.T.get d=some (.bool b)):fa ops S.T o=some (b==want):=by
 unfold jZ at ax;unfold fa;cases q:o.guard with
 |none=>rw[q] at ax;cases ax
 |some x=>
  obtain⟨j,w⟩:=x;rw[q] at ax;show uN ops S.T (j,w)=_;unfold uN;simp only at ax ⊢;cases az:nth ops j with
  |none=>rw[az] at ax;cases ax
  |some p=>
   rw[az] at ax;simp only at ax ⊢;cases al:p.dst with
   |none=>rw[al] at ax;cases ax
   |some kN=>
    rw[al] at ax;simp only[cl,dm] at ax;obtain⟨rfl,rfl⟩:=ax;simp only[ai]
theorem W.split{n:Nat}{ds:dJ}{l:List (Nat×Value)}{d:Nat}{b:Bool}(ai:look l d=some (.bool b))(ab:b=true->W K B ops rest ⟨n,ds,(d,.bool true)::l⟩ m J ba)(aN:b=false->W K B ops rest ⟨n,ds,(d,.bool false)::l⟩ m J ba):W K B ops rest ⟨n,ds,l⟩ m J ba:=by
 intro S H aj av;have key:∀c:Bool,b=c->Sat ⟨n,ds,(d,.bool c)::l⟩ S:=fun c e=>by
  subst e;refine⟨aj.n,aj.ds,aj.bG,aj.bd,aj.cc,aj.has,fun t v q=>?_⟩;have aH:(bif Nat.beq t d then some (Value.bool b) else look l t)=some v:=q;cases bI:Nat.beq t d with
  |true=>rw[bI,b4] at aH;obtain rfl:=eb bI;rw[<-aH];exact aj.get _ _ ai
  |false=>rw[bI,da] at aH;exact aj.get t v aH
 cases b with
 |true=>exact ab rfl S H (key true rfl) av
 |false=>exact aN rfl S H (key false rfl) av
theorem W.U0{n:Nat}{ds:dJ}{l:List (Nat×Value)}{d:Nat}{want b:Bool}(ax:jZ ops o=some (d,want))(ai:look l d=some (.bool b))(hw:(b==want)=true)(h:Exec K B o ⟨n,ds,l⟩ m J fun E m J=>W K B ops rest E m J ba):W K B ops (o::rest) ⟨n,ds,l⟩ m J ba:=by
 intro S H aj av;have eh:=z1 ax (aj.get d _ ai);obtain⟨ek,ck,a0,H1,dC,cL,bi,aK,aH,bJ,dU⟩:=h S H aj av;obtain⟨p,aC,H',E',m',ae,aU,aQ,bj,ct⟩:=dU a0 H1 aH bJ;refine⟨p,aC,H',E',m',ae,.cons ek ck ?_ aU,aQ,bj,ct⟩;unfold one;rw[eh,hw];exact aK
theorem W.UY{n:Nat}{ds:dJ}{l:List (Nat×Value)}{d e:Nat}{want b:Bool}(ax:jZ ops o=some (d,want))(ai:look l d=some (.bool b))(hw:(b==want)=false)(al:o.dst=some e)(az:Nat.blt e n=true)(h:W K B ops rest ⟨n,ds,(e,undef)::l⟩ m J ba):W K B ops (o::rest) ⟨n,ds,l⟩ m J ba:=by
 intro S H aj av;have eh:=z1 ax (aj.get d _ ai);obtain⟨a0,s1,s2⟩:=aj.put (dst:=some e) az undef;obtain⟨p,aC,H',E',m',ae,aU,aQ,bj,ct⟩:=h a0 H s2 av;refine⟨p,aC,H',E',m',ae,.cons gd j2 ?_ aU,aQ,bj,ct⟩;unfold one;rw[eh,hw];show mq H (S.put o.dst undef)=_;rw[al,s1];rfl
theorem W.ag4{n:Nat}{ds:dJ}{l:List (Nat×Value)}{d:Nat}{want b:Bool}(ax:jZ ops o=some (d,want))(ai:look l d=some (.bool b))(hw:(b==want)=false)(al:o.dst=none)(h:W K B ops rest ⟨n,ds,l⟩ m J ba):W K B ops (o::rest) ⟨n,ds,l⟩ m J ba:=by
 intro S H aj av;have eh:=z1 ax (aj.get d _ ai);obtain⟨p,aC,H',E',m',ae,aU,aQ,bj,ct⟩:=h S H aj av;refine⟨p,aC,H',E',m',ae,.cons gd j2 ?_ aU,aQ,bj,ct⟩;unfold one;rw[eh,hw];show mq H (S.put o.dst undef)=_;rw[al];rfl
def jR(K:dy)(B:c5)(o:Oper)(E:b0)(m:aO)(J:af)(e7:b0->aO->af->Prop):Prop:=
 ∀S H,Sat E S->Inv K.g0 B J m H->∃aC H' E' m' ae,(∀call aE,np S H o.dst (cj K.P call aE S H o)=some (.ok aC H'))/\Sat E' aC/\Inv K.g0 B ae m' H'/\e7 E' m' ae
theorem Exec.of(h:jR K B o E m J e7):Exec K B o E m J e7:=fun S H aj av=>by
 obtain⟨aC,H',E',m',ae,ab,ad,aL,a6⟩:=h S H aj av;exact⟨gd,j2,aC,H',E',m',ae,ab _ _,ad,aL,a6⟩
theorem Exec.val{n:Nat}{ds:dJ}{l:List (Nat×Value)}{d:Nat}{v:Value}(al:o.dst=some d)(az:Nat.blt d n=true)(eg:∀call aE S H,Sat ⟨n,ds,l⟩ S->Inv K.g0 B J m H->cj K.P call aE S H o=some (.val v H))(h:e7 ⟨n,ds,(d,v)::l⟩ m J):Exec K B o ⟨n,ds,l⟩ m J e7:=by
 intro S H aj av;obtain⟨a0,s1,s2⟩:=aj.put (dst:=some d) az v;refine⟨gd,j2,a0,H,_,m,J,?_,s2,av,h⟩;rw[eg _ _ S H aj av,al];show mq H (S.put (some d) v)=_;rw[s1];rfl
theorem jR.Bk{n:Nat}{ds:dJ}{l:List (Nat×Value)}{d:Nat}(al:o.dst=some d)(az:Nat.blt d n=true)(eg:∀S H,Sat ⟨n,ds,l⟩ S->Inv K.g0 B J m H->∃v H' m' ae,(∀call aE,cj K.P call aE S H o=some (.val v H'))/\Inv K.g0 B ae m' H'/\e7 ⟨n,ds,(d,v)::l⟩ m' ae):jR K B o ⟨n,ds,l⟩ m J e7:=by
 intro S H aj av;obtain⟨v,H',m',ae,aU,aQ,bj⟩:=eg S H aj av;obtain⟨a0,s1,s2⟩:=aj.put (dst:=some d) az v;refine⟨a0,H',_,m',ae,fun call aE=>?_,s2,aQ,bj⟩;rw[aU,al];show mq H' (S.put (some d) v)=_;rw[s1];rfl
theorem jR.skip{E:b0}(al:o.dst=none)(eg:∀S H,Sat E S->Inv K.g0 B J m H->∃H' m' ae,(∀call aE,cj K.P call aE S H o=some (.skip H'))/\Inv K.g0 B ae m' H'/\e7 E m' ae):jR K B o E m J e7:=by
 intro S H aj av;obtain⟨H',m',ae,aU,aQ,bj⟩:=eg S H aj av;refine⟨S,H',E,m',ae,fun call aE=>?_,aj,aQ,bj⟩;rw[aU,al];rfl
theorem aB.region{id:Nat}{a:Array Oper}(h:W K B a.toList a.toList E m J fun p E m J=>cd (NE p) E m J):aB K B (.region id a false) E m J cd:=by
 intro S H aj av;obtain⟨p,aC,H',E',m',ae,aU,aQ,bj,ct⟩:=h S H aj av;exact⟨NE p,aC,H',E',m',ae,dk.ops aU,aQ,bj,ct⟩
theorem aB.skip(h:cd .normal E m J):aB K B .skip E m J cd:=fun S H aj av=>⟨_,S,H,E,m,J,dk.skip K.cw.qi,aj,av,h⟩
theorem aB.ret(h:cd .ret E m J):aB K B .ret E m J cd:=fun S H aj av=>⟨_,S,H,E,m,J,dk.ret K.cw.qi,aj,av,h⟩
theorem aB.exit{id:Nat}(h:cd (.exit id) E m J):aB K B (.exit id) E m J cd:=fun S H aj av=>⟨_,S,H,E,m,J,dk.exit K.cw.qi,aj,av,h⟩
abbrev aoU(K:dy)(B:c5)(b:Code)(cd:Exit->b0->aO->af->Prop):Exit->b0->aO->af->Prop:=fun e E m J=>match e with
 |.normal=>aB K B b E m J cd
 |e=>cd e E m J
theorem aB.seq{a b:Code}(h:aB K B a E m J (aoU K B b cd)):aB K B (.seq a b) E m J cd:=by
 intro S H aj av;obtain⟨e,a0,H1,dC,cL,bi,ab,ad,aL,a6⟩:=h S H aj av;cases e with
 |normal=>
  have a6:aB K B b dC cL bi cd:=a6;obtain⟨bC,aC,H',E',m',ae,aU,aQ,bj,ct⟩:=a6 a0 H1 ad aL;exact⟨bC,aC,H',E',m',ae,dk.seq ab aU,aQ,bj,ct⟩
 |exit i=>exact⟨_,a0,H1,dC,cL,bi,dk.Hr ab (fun q=>by cases q),ad,aL,a6⟩
 |goto i=>exact⟨_,a0,H1,dC,cL,bi,dk.Hr ab (fun q=>by cases q),ad,aL,a6⟩
 |ret=>exact⟨_,a0,H1,dC,cL,bi,dk.Hr ab (fun q=>by cases q),ad,aL,a6⟩
 |panic c=>exact⟨_,a0,H1,dC,cL,bi,dk.Hr ab (fun q=>by cases q),ad,aL,a6⟩
 |outgrown=>exact⟨_,a0,H1,dC,cL,bi,dk.Hr ab (fun q=>by cases q),ad,aL,a6⟩
abbrev acP(id:Nat)(cd:Exit->b0->aO->af->Prop):Exit->b0->aO->af->Prop:=fun e E m J=>match e with
 |.exit j=>if j=id then cd .normal E m J else cd (.exit j) E m J
 |e=>cd e E m J
theorem aB.block{id:Nat}{c:Code}(h:aB K B c E m J (acP id cd)):aB K B (.block id c) E m J cd:=by
 intro S H aj av;obtain⟨e,a0,H1,dC,cL,bi,ab,ad,aL,a6⟩:=h S H aj av;refine⟨_,a0,H1,dC,cL,bi,dk.block K.cw.qi ab,ad,aL,?_⟩;cases e with
 |exit j=>
  have a6:if j=id then cd .normal dC cL bi else cd (.exit j) dC cL bi:=a6;show cd (if j=id then .normal else .exit j) dC cL bi;split at a6
  ·rename_i q;rw[a2 q];exact a6
  ·rename_i q;rw[aZ q];exact a6
 |_=>exact a6
def bx (l:List (Nat×Value)):Operand->Option Value
 |.tmp t=>look l t
 |.const v=>Q2 v
 |.global _=>none
 |.func f=>some (.func (.func f) #[] #[])
theorem c6{E:b0}{S:aV}(aj:Sat E S)(H:an){x:Operand}{v:Value}(h:bx E.l x=some v):a1 S.T H x=some v:=by
 cases x with
 |tmp t=>exact aj.get t v h
 |const c=>exact h
 |global g=>cases h
 |func f=>exact h
theorem aB.cond{n:Nat}{ds:dJ}{l:List (Nat×Value)}{x:Operand}{a b:Code}{t:Bool}(U:bx l x=some (.bool t))(ab:t=true->aB K B a ⟨n,ds,l⟩ m J cd)(aN:t=false->aB K B b ⟨n,ds,l⟩ m J cd):aB K B (.cond x a b) ⟨n,ds,l⟩ m J cd:=by
 intro S H aj av;cases t with
 |true=>
  obtain⟨e,aC,H',E',m',ae,aU,aQ,bj,ct⟩:=ab rfl S H aj av;exact⟨e,aC,H',E',m',ae,dk.cond K.cw.qi (c6 aj H U) aU,aQ,bj,ct⟩
 |false=>
  obtain⟨e,aC,H',E',m',ae,aU,aQ,bj,ct⟩:=aN rfl S H aj av;exact⟨e,aC,H',E',m',ae,dk.cond K.cw.qi (c6 aj H U) aU,aQ,bj,ct⟩
theorem aB.aee{n:Nat}{ds:dJ}{l:List (Nat×Value)}{x:Operand}{a b:Code}(U:bx l x=some (.bool true))(h:aB K B a ⟨n,ds,l⟩ m J cd):aB K B (.cond x a b) ⟨n,ds,l⟩ m J cd:=aB.cond U (fun _=>h) (fun q=>by cases q)
theorem aB.aed{n:Nat}{ds:dJ}{l:List (Nat×Value)}{x:Operand}{a b:Code}(U:bx l x=some (.bool false))(h:aB K B b ⟨n,ds,l⟩ m J cd):aB K B (.cond x a b) ⟨n,ds,l⟩ m J cd:=aB.cond U (fun q=>by cases q) (fun _=>h)
def kl(l:List (Nat×Value)):List (Nat×Value)->Prop
 |[]=>True
 |(t,v)::l'=>look l t=some v/\kl l l'
theorem kl.look{l:List (Nat×Value)}:∀{l':List (Nat×Value)},kl l l'->∀t v,look l' t=some v->look l t=some v:=by
 intro l';induction l' with
 |nil=>intro _ t v q;cases q
 |cons x l' aP=>
  obtain⟨u,w⟩:=x;intro h t v q;have aH:(bif Nat.beq t u then some w else Opn.look l' t)=some v:=q;cases ai:Nat.beq t u with
  |true=>
   rw[ai,b4] at aH;obtain rfl:=eb ai;injection aH with bJ;rw[<-bJ];exact h.1
  |false=>rw[ai,da] at aH;exact aP h.2 t v aH
theorem Sat.sub{n:Nat}{ds:dJ}{l l':List (Nat×Value)}{S:aV}(h:Sat ⟨n,ds,l⟩ S)(ap:kl l l'):Sat ⟨n,ds,l'⟩ S:=Sat.Lz (E:=⟨n,ds,l⟩) h ap.look
theorem aB.Lz{c:Code}{n:Nat}{ds:dJ}{l l':List (Nat×Value)}(ap:kl l l')(hm:m'.Sublist m)(h:aB K B c ⟨n,ds,l'⟩ m' J cd):aB K B c ⟨n,ds,l⟩ m J cd:=
 fun S H aj av=>h S H (aj.sub ap) (av.sub hm)
theorem aB.loop{α:Type}{c:Code}{n:Nat}{ds:dJ}(env:α->List (Nat×Value))(mem:α->aO)(ed:α->af)(inv:α->Prop)(sl:α->Nat)
 (bb:∀s,inv s->aB K B c ⟨n,ds,env s⟩ (mem s) (ed s) fun e E m J=>match e with
  |.normal=>∃cQ l,inv cQ/\sl cQ<sl s/\E=⟨n,ds,l⟩/\kl l (env cQ)/\(mem cQ).Sublist m/\J=ed cQ
  |e=>cd e E m J)(s:α)(hs:inv s):aB K B (.loop c) ⟨n,ds,env s⟩ (mem s) (ed s) cd:=by
 have key:∀(k:Nat) (s:α),sl s=k->inv s->aB K B (.loop c) ⟨n,ds,env s⟩ (mem s) (ed s) cd:=by
  intro k;induction k using Nat.strongRecOn with
  |_ k aP=>
   intro s hk hs S H aj av;obtain⟨e,a0,H1,dC,cL,bi,ab,ad,aL,a6⟩:=bb s hs S H aj av;cases e with
   |normal=>
    obtain⟨cQ,l,bY,bZ,rfl,fu,fM,rfl⟩:=a6;obtain⟨bC,aC,H',E',m',ae,aU,aQ,bj,ct⟩:=aP (sl cQ) (by omega) cQ rfl bY a0 H1 (ad.sub fu) (aL.sub fM);exact⟨bC,aC,H',E',m',ae,dk.Xu ab aU,aQ,bj,ct⟩
   |exit i=>exact⟨_,a0,H1,dC,cL,bi,dk.vb ab (fun q=>by cases q),ad,aL,a6⟩
   |goto i=>exact⟨_,a0,H1,dC,cL,bi,dk.vb ab (fun q=>by cases q),ad,aL,a6⟩
   |ret=>exact⟨_,a0,H1,dC,cL,bi,dk.vb ab (fun q=>by cases q),ad,aL,a6⟩
   |panic c=>exact⟨_,a0,H1,dC,cL,bi,dk.vb ab (fun q=>by cases q),ad,aL,a6⟩
   |outgrown=>exact⟨_,a0,H1,dC,cL,bi,dk.vb ab (fun q=>by cases q),ad,aL,a6⟩
 exact key _ s rfl hs
theorem aB.hy{c:Code}{a:Nat}{b:dw}{x:List Value×TypeId}(U:b.rowOf=some x)(h:J.le (J.add a x)->aB K B c E m (J.add a x) cd):aB K B c E ((a,b)::m) J cd:=by
 intro S H aj av;obtain⟨aU,aQ⟩:=av.hy U;exact h aQ S H aj aU
def u7(m:aO)(a:Nat):Prop:=a∈ids m
def hS(bl:aO)(H:an)(J:af):c5:=⟨u7 bl,fun a=>a∈bl.map Prod.fst,H,J⟩
def Fn(K:dy)(f:FuncId)(args:List Value)(bl:aO)(J:af)(dg:Value->aO->af->Prop):Prop:=
 ∀H,Inv K.g0 (hS bl H J) J bl H->∃v H' ae m',iS K.Q f args H (.returned v) H'/\Inv K.g0 (hS bl H J) ae m' H'/\dg v m' ae
abbrev yK(_:aO):Prop:=True
theorem Inv.enter{g0:Nat}{bl c2:aO}{H:an}(h:Inv g0 B J m H)(ao:(bl++c2).Perm m)(gr:yK bl):Inv g0 (hS bl H J) J bl H:=by
 have re:∀x,x∈bl->x∈m:=fun x q=>ao.subset (og _ q);have dP:=(Ka ao).nodup_iff.2 h.fT;rw[J',Ij] at dP;refine⟨h.wf,h.bz,bF _,bF _,fun _ _ _=>rfl,fun _ _=>rfl,h.ed,af.le.refl _,fun a x aK aH=>?_,fun a b q=>?_,fun a b q x U=>?_,dP.1⟩
 ·have aK:J a=none:=aK;rw[aK] at aH;cases aH
 ·obtain⟨aU,aQ,bj,ct⟩:=h.own a b (re _ q);refine⟨?_,.inr (yB q),bj,ct⟩;cases b with
  |row=>exact aU
  |map=>exact aU
  |loop=>exact aU
  |gk=>exact aU
  |opn c e r z=>
   obtain⟨f,_,f2,f3⟩:=aU;exact⟨f,.inr ⟨a,r,_,_,_,_,f3,f2,pM.2 ⟨_,q,rfl⟩⟩,f2,f3⟩
 ·obtain⟨aU,aQ,bj⟩:=h.opn a b (re _ q) x U;exact⟨aU,.inr (Ax.2 ⟨_,q,.inr U⟩),bj⟩
theorem Inv.leave{g0:Nat}{bl c2:aO}{H H':an}{ae:af}(h:Inv g0 B J m H)(ao:(bl++c2).Perm m)(hk:Inv g0 (hS bl H J) ae m' H'):Inv g0 B ae (m'++c2) H'/\J.le ae:=by
 have dP:=(Ka ao).nodup_iff.2 h.fT;rw[J',Ij] at dP;have OS:∀a,a∈ids bl\/a∈ids c2->a∈ids m:=fun a q=>(Ka ao).subset (by rw[J'];exact nB.2 q);have JQ:∀a,u7 bl a->B.H0.ay<=a\/B.X a:=fun a q=>h.Yz (OS a (.inl q));have Ai:∀a,a∈ids c2->a<H.ay/\¬u7 bl a:=fun a q=>⟨h.Km (OS a (.inr q)),fun r=>dP.2.2 _ r _ q rfl⟩;have FG:∀a,a<H.ay->¬u7 bl a->H'.mem.get a=H.mem.get a:=hk.fF;have kU:H.ay<=H'.ay:=hk.ay;have Pa:H.cn<=H'.cn:=hk.cn;have hle:J.le ae:=hk.le;have kg:∀a x,J a=none->ae a=some x->H.ay<=a\/u7 bl a:=hk.fresh;have p2:∀f,c5.yd (hS bl H J) f->B.yd f:=fun f q=>by
  rcases q with q|⟨a,r,c,e,z,s,aK,aH,bJ⟩
  ·exact .inl (dA h.cn q)
  ·obtain⟨⟨bO,b⟩,ox,iP⟩:=pM.1 bJ;have iP:bO=a:=iP;subst iP;have k:=(h.own bO b (ao.subset (og _ ox))).1;have aH:H.mem.get bO=some (.row c e true f z s):=aH;cases b with
   |row=>have k:=aH.symm.trans k;cases k
   |map=>have k:=aH.symm.trans k;cases k
   |loop=>have k:=aH.symm.trans k;cases k
   |gk=>have k:=aH.symm.trans k;cases k
   |opn c' bC ch g3=>
    obtain⟨f',aU,aQ,bj⟩:=k;have k:=aH.symm.trans aQ;injection k with k;injection k with _ _ _ k
    rw[k];exact aU
 have kS:∀a,a∈ids c2->ae a=none:=fun a q=>by
  cases aY:ae a with
  |none=>rfl
  |some x=>
   rcases kg a x (h.al6 (OS a (.inr q))) aY with r|r
   ·have:=(Ai a q).1;omega
   ·exact absurd r (Ai a q).2
 refine⟨⟨hk.wf,hk.bz,dA h.ay kU,dA h.cn Pa,fun a aF dr=>?_,fun f aA=>?_,hk.ed,h.le.trans hle,fun a x aK aH=>?_,fun a b q=>?_,fun a b q x U=>?_,?_⟩,hle⟩
 ·rw[FG a (hA aF h.ay),h.fF a aF dr];intro r;rcases JQ a r with q|q
  ·omega
  ·exact dr q
 ·rw[show H'.bw.get f=H.bw.get f from hk.mM f (fun q=>aA (p2 f q))];exact h.mM f aA
 ·cases aY:J a with
  |none=>
   rcases kg a x aY aH with r|r
   ·exact .inl (dA h.ay r)
   ·exact JQ a r
  |some y=>exact h.fresh a y aK aY
 ·rcases nB.1 q with q|q
  ·obtain⟨aU,aQ,bj,ct⟩:=hk.own a b q;refine⟨?_,?_,bj,ct⟩
   ·cases b with
    |row=>exact aU
    |map=>exact aU
    |loop=>exact aU
    |gk=>exact aU
    |opn c e r z=>obtain⟨f,f1,f2,f3⟩:=aU;exact⟨f,p2 f f1,f2,f3⟩
   ·rcases(show H.ay<=a\/u7 bl a from aQ) with r|r
    ·exact .inl (dA h.ay r)
    ·exact JQ a r
  ·obtain⟨aU,aQ,bj,ct⟩:=h.own a b (ao.subset (iI _ q));have JA:=yB q;refine⟨dw.vP aU (FG a (Ai a JA).1 (Ai a JA).2) (fun f l aA=>?_),aQ,kS a JA,ct⟩;rw[show H'.bw.get f=H.bw.get f from hk.mM f (fun dj=>by
    rcases dj with dj|⟨bO,ch,_,_,_,_,aK,_,bJ⟩
    ·exact absurd (h.wf.E8 aA) (Me.2 dj)
    ·have aK:=aA.symm.trans aK;injection aK with aK;injection aK with aK _
     subst aK;obtain⟨⟨bO,b'⟩,ox,iP⟩:=pM.1 bJ;have iP:bO=a:=iP;subst iP;exact(Ai bO JA).2 (yB ox))];exact aA
 ·rcases nB.1 q with q|q
  ·obtain⟨aU,aQ,bj⟩:=hk.opn a b q x U;refine⟨aU,?_,bj⟩;rcases(show H.ay<=x\/u7 bl x from aQ) with r|r
   ·exact .inl (dA h.ay r)
   ·exact JQ x r
  ·have jr:x∈ids c2:=Ax.2 ⟨_,q,.inr U⟩;obtain⟨aU,aQ,bj⟩:=h.opn a b (ao.subset (iI _ q)) x U;exact⟨hA aU kU,aQ,kS x jr⟩
 ·rw[J',Ij];refine⟨hk.fT,dP.2.1,fun a aF b ai e=>?_⟩;subst e;rcases(show H.ay<=a\/u7 bl a from hk.Yz aF) with r|r
  ·have:=(Ai a ai).1;omega
  ·exact(Ai a ai).2 r
def hC (l:List (Nat×Value)):List Operand->Option (List Value)
 |[]=>some []
 |x::r=>match bx l x with
  |some v=>(match hC l r with|some vs=>some (v::vs)|none=>none)
  |none=>none
theorem m6{E:b0}{S:aV}(aj:Sat E S)(H:an):∀{xs:List Operand} {vs:List Value},hC E.l xs=some vs->fy S.T H xs=some vs:=by
 intro xs;induction xs with
 |nil=>intro vs h;exact h
 |cons x r aP=>
  intro vs h;simp only[hC] at h;simp only[fy];cases U:bx E.l x with
  |none=>rw[U] at h;cases h
  |some v=>
   rw[U] at h;simp only at h;rw[c6 aj H U];simp only;cases aq:hC E.l r with
   |none=>rw[aq] at h;cases h
   |some ws=>rw[aq] at h;simp only at h;rw[aP aq];exact h
theorem Exec.call{n:Nat}{ds:dJ}{l:List (Nat×Value)}{d:Nat}{c:Call}{x:Operand}{f:FuncId}{first cap:Array Value}{args bV:List Value}{bl c2:aO}{dg:Value->aO->af->Prop}
 (ah:o.op=.call c)(al:o.dst=some d)(az:Nat.blt d n=true)(aD:c.callee=.value x)(U:bx l x=some (.func (.func f) first cap))(aF:hC l c.args.toList=some args)(has:(first.toList++args)++cap.toList=bV)
 (ao:(bl++c2).Perm m)(gr:yK bl)(b3:Fn K f bV bl J dg)(h:∀v m' ae,J.le ae->dg v m' ae->e7 ⟨n,ds,(d,v)::l⟩ (m'++c2) ae):Exec K B o ⟨n,ds,l⟩ m J e7:=by
 intro S H aj av;obtain⟨v,H',ae,m',aU,aQ,bj⟩:=b3 H (av.enter ao gr);obtain⟨ct,fo⟩:=av.leave ao aQ;obtain⟨a0,s1,s2⟩:=aj.put (dst:=some d) az v;refine⟨gd,ka f bV H (.returned v,H'),a0,H',_,m'++c2,ae,?_,s2,ct,h v m' ae fo bj⟩;have he:cj K.P (gV K.Q (ka f bV H (.returned v,H'))) (e8 K.Q gd (ka f bV H (.returned v,H'))).aE S H o=some (.val v H'):=by
  unfold cj eF;simp only[ah];show ju K.P _ c=_;unfold ju;rw[aD];show lK K.P _ _ S.T H c=_;unfold lK;rw[m6 aj H aF];simp only[aD];rw[c6 aj H U];simp only
  show(match jG K.P H (.func f) (first.toList++args) cap.toList with|some (f,bV)=>m5 (gV K.Q _ f bV H)|none=>none)=_
  unfold jG;simp only
  rw[has,x3 aU (by unfold ka;rw[a2 ⟨rfl,rfl,rfl⟩])];rfl
 rw[he,al];show mq H' (S.put (some d) v)=_;rw[s1];rfl
def sY:List Value->Nat->List (Nat×Value)
 |[],_=>[]
 |v::l,i=>(i,v)::sY l (Nat.succ i)
theorem Mz:∀{vs:List Value} {i t:Nat} {v:Value},look (sY vs i) t=some v->i<=t/\vs[t -i]?=some v:=by
 intro vs;induction vs with
 |nil=>intro i t v h;cases h
 |cons x l aP=>
  intro i t v h;have aH:(bif Nat.beq t i then some x else look (sY l (Nat.succ i)) t)=some v:=h;cases ai:Nat.beq t i with
  |true=>
   rw[ai,b4] at aH;obtain rfl:=eb ai;injection aH with bJ
   exact⟨bF _,by simp[bJ]⟩
  |false=>
   rw[ai,da] at aH;obtain⟨ab,ad⟩:=aP aH;refine⟨by omega,?_⟩;rw[show t -i=(t -Nat.succ i)+1 by omega];exact ad
theorem MB:∀{vs:List Value} {i n:Nat} {T:aW Value},T.has n->i+vs.length<=n->∃dD,nJ vs i T=some dD/\dD.has n/\∀t,dD.get t=if i<=t/\t<i+vs.length then vs[t -i]? else T.get t:=by
 intro vs;induction vs with
 |nil=>intro i n T h _;exact⟨T,rfl,h,fun t=>by rw[aZ (by rw[D7];omega)]⟩
 |cons x l aP=>
  intro i n T h ap;rw[lc] at ap;obtain⟨y,au⟩:=h i (by omega);obtain⟨pR,b1⟩:=aW.Hi (a:=x) au;have ab:pR.has n:=fun t aJ=>by
   rw[aW.get_put b1];split
   ·exact⟨_,rfl⟩
   ·exact h t aJ
  obtain⟨dD,aw,aR,cf⟩:=aP (i:=i+1) ab (by omega);refine⟨dD,?_,aR,fun t=>?_⟩
  ·simp only[nJ,aW.set];rw[b1];exact aw
  ·rw[cf t];by_cases q:i+1<=t/\t<i+1+l.length
   ·rw[a2 q,a2 (by rw[lc];omega),show t -i=(t -(i+1))+1 by omega];rfl
   ·rw[aZ q,aW.get_put b1];by_cases aH:t=i
    ·subst aH;rw[a2 rfl,a2 (by rw[lc];omega)];simp
    ·rw[aZ aH,aZ (by rw[lc];omega)]
theorem aW.agy{α:Type}(a:α):∀(d n:Nat),n+1<2 ^ d->(aW.full a d).get n=some a:=by
 intro d;induction d with
 |zero=>intro n h;simp at h
 |succ d aP=>
  intro n h;show(aW.node (some a) (aW.full a d) (aW.full a d)).get n=some a;cases n with
  |zero=>rfl
  |succ n=>
   rw[aW.qV];have:n / 2+1<2 ^ d:=by rw[ff] at h;omega
   split<;>exact aP _ this
theorem MG(n:Nat):(Cre.blank n).has n:=by
 intro t aJ;refine⟨undef,aW.agy _ _ _ ?_⟩;unfold NK;have ab:Nat.succ n<2 ^ (Nat.log2 (Nat.succ n)+1):=Nat.lt_log2_self;show t+1<2 ^ (Nat.log2 (Nat.succ n)+1);omega
inductive l6 (P:Program) (E:b0) (m:aO) (J:af):List ResultVar->List Value->Prop
 |nil:l6 P E m J [] []
 |tmp {t:Tmp} {v:Value} {rs:List ResultVar} {vs:List Value}:look E.l t=some v->l6 P E m J rs vs->l6 P E m J (.tmp t::rs) (v::vs)
 |cell {t:Tmp} {dx:TypeId} {a:Nat} {cells:List Value} {e:TypeId} {v:Value} {rs:List ResultVar} {vs:List Value}:look E.l t=some (.pointer (some ⟨a,0,none⟩))->(a,dw.row cells e)∈m->mD P dx cells 0=some v->l6 P E m J rs vs->l6 P E m J (.cell t dx::rs) (v::vs)
theorem l6.uH{P:Program}{g0:Nat}{S:aV}{H:an}(aj:Sat E S)(av:Inv g0 B J m H){rs:List ResultVar}{vs:List Value}(h:l6 P E m J rs vs):pZ P S.T H rs=some vs:=by
 induction h with
 |nil=>rfl
 |tmp ab _ aP=>simp only[pZ];rw[aj.get _ _ ab];simp only;rw[aP]
 |cell ab ad aL _ aP=>
  simp only[pZ];rw[aj.get _ _ ab];simp only;have ax:=(av.own _ _ ad).1;have ax:H.mem.get _=some (.row _ _ false 0 0 false):=ax;unfold zU Cc;simp only[ax,aL];rw[aP]
theorem Fn.b8{f:FuncId}{fn:Func}{c:Code}{args:List Value}{bl:aO}{dg:Value->aO->af->Prop}(aA:K.e5.get f=some fn)(ai:fn.body=some c)(ap:Nat.ble args.length fn.ntmps=true)
 (h:∀H,aB K (hS bl H J) c ⟨fn.ntmps,x8,sY args 0⟩ bl J fun e E m ae=>(e=.normal\/e=.ret)/\E.ds.ds=[]/\∃vs m',l6 K.P E m ae fn.results.toList vs/\m'.Sublist m/\dg (ql vs) m' ae):Fn K f args bl J dg:=by
 intro H av;obtain⟨T,a7,bc,cu⟩:=MB (vs:=args) (i:=0) (n:=fn.ntmps) (MG fn.ntmps) (by have:=hv ap;omega);have aj:Sat ⟨fn.ntmps,x8,sY args 0⟩ ⟨T,fn.ntmps,[],false,.run,none⟩:=by
  refine⟨rfl,rfl,rfl,rfl,rfl,bc,fun t v q=>?_⟩;obtain⟨_,aH⟩:=Mz q;show T.get t=some v;have:t<args.length:=by
   rcases hL t args.length with r|r
   ·exact r
   ·rw[oe (by omega)] at aH;cases aH
  rw[cu,a2 (by omega)];exact aH
 obtain⟨e,aC,H',E',cL,ae,aU,aQ,bj,ct,fo,vs,m',jN,oD,rj⟩:=h H _ H aj av;refine⟨ql vs,H',ae,m',?_,bj.sub oD,rj⟩;have q5:aC.ds=[]:=aQ.ds.trans fo;refine iS.run K.cw aA ai a7 aU (bd:=aC.bd) ?_;have aq:=jN.uH aQ bj;rcases ct with rfl|rfl
 ·show pT aC.bd (g8 K.P _ fn aC.T aC.ds .returning H')=_;rw[q5];unfold g8;rw[aq];rfl
 ·show pT aC.bd (g8 K.P _ fn aC.T aC.ds .returning H')=_;rw[q5];unfold g8;rw[aq];rfl
end
theorem tb{α:Type}(n:Int)(k:Int->α):qT n k=k n:=by
 cases n with
 |ofNat m=>cases m<;>rfl
 |negSucc m=>cases m<;>rfl
theorem C5(a b:Int):qd a b=decide (a<b):=by
 cases a with
 |ofNat m=>cases b with
  |ofNat n=>simp only[qd];rw[sF];simp
  |negSucc n=>simp only[qd];rw[sF];simp;omega
 |negSucc m=>cases b with
  |ofNat n=>simp only[qd];rw[sF];simp;omega
  |negSucc n=>simp only[qd];rw[sF];simp;omega
theorem C4(a b:Int):qc a b=decide (a=b):=by
 cases a with
 |ofNat m=>cases b with
  |ofNat n=>simp only[qc];rw[sF];simp;omega
  |negSucc n=>simp only[qc];rw[sF];simp
 |negSucc m=>cases b with
  |ofNat n=>simp only[qc];rw[sF];simp
  |negSucc n=>simp only[qc];rw[sF];simp
theorem Da(k:IntKind):lT k k=true:=by cases k<;>rfl
theorem wrap_i64{n:Int}(ab:-9223372036854775808<=n)(ad:n<=9223372036854775807):IntKind.i64.wrap n=n:=by
 unfold IntKind.wrap IntKind.signed IntKind.bits;simp only[Su,I3];split<;>omega
theorem y1(H:an)(b:Bool):xp H b=some (.val (.bool b) H):=by cases b<;>rfl
section
variable {K:dy}{B:c5}{o:Oper}{n:Nat}{ds:dJ}{l:List (Nat×Value)}{m m':aO}{J:af}{e7:b0->aO->af->Prop}{d:Nat}
def cO(K:dy)(B:c5)(o:Oper)(n:Nat)(ds:dJ)(l:List (Nat×Value))(m:aO)(J:af)(v:Value):Prop:=∀call aE S H,Sat ⟨n,ds,l⟩ S->Inv K.g0 B J m H->cj K.P call aE S H o=some (.val v H)
theorem Lr{x:Operand}{v:Value}(ah:o.op=.move x)(U:bx l x=some v):cO K B o n ds l m J v:=by
 intro call aE S H aj av;unfold cj eF;simp only[ah];show gH (a1 S.T H x) H=_;rw[c6 aj H U];rfl
theorem aqy{x:Operand}{v:Value}(ah:o.op=.assign x)(U:bx l x=some v):cO K B o n ds l m J v:=by
 intro call aE S H aj av;unfold cj eF;simp only[ah];show gH (a1 S.T H x) H=_;rw[c6 aj H U];rfl
theorem aqR{c x y:Operand}{t:Bool}{v:Value}(ah:o.op=.pick c x y)(aD:bx l c=some (.bool t))(ar:(if t=true then bx l x else bx l y)=some v):cO K B o n ds l m J v:=by
 intro call aE S H aj av;unfold cj eF;simp only[ah];show yT K.P _ x y (a1 S.T H c)=_;rw[c6 aj H aD];cases t with
 |true=>show gH (a1 S.T H x) H=_;rw[c6 aj H (by simpa using ar)];rfl
 |false=>show gH (a1 S.T H y) H=_;rw[c6 aj H (by simpa using ar)];rfl
def MF (k:IntKind)(a b:Int):BinOp->Option Value
 |.add=>some (.int k (k.wrap (a+b)))
 |.sub=>some (.int k (k.wrap (a -b)))
 |.mul=>some (.int k (k.wrap (a*b)))
 |.eql=>some (.bool (decide (a=b)))
 |.neq=>some (.bool (decide (¬a=b)))
 |.lss=>some (.bool (decide (a<b)))
 |.leq=>some (.bool (decide (a<=b)))
 |.gtr=>some (.bool (decide (b<a)))
 |.geq=>some (.bool (decide (b<=a)))
 |_=>none
theorem aaB{op:BinOp}{t dx:TypeId}{x y:Operand}{k:IntKind}{a b:Int}{v:Value}(ah:o.op=.binOp op t x y dx)(U:bx l x=some (.int k a))(au:bx l y=some (.int k b))(ar:MF k a b op=some v):cO K B o n ds l m J v:=by
 intro call aE S H aj av;unfold cj eF;simp only[ah];show lX K.P _ op t (a1 S.T H x) (a1 S.T H y)=_;rw[c6 aj H U,c6 aj H au];show(bif lT k k then iY H k a b _ op else _)=_;rw[Da,b4];have al5:∀p q:Int,(!decide (p<q))=decide (q<=p):=fun p q=>by rw[sF];simp
 cases op<;>simp only[MF,cl,reduceCtorEq] at ar<;>subst ar<;>simp only[iY,tb,DR,pD,y1,C4,C5,al5]
 ·rw[show(!decide (a=b))=decide (¬a=b) by rw[sF];simp]
inductive pQ (m:aO) (J:af) (a:Nat) (cells:List Value):Prop
 |own {e:TypeId}:(a,dw.row cells e)∈m->pQ m J a cells
 |opn {e:TypeId} {r:List Nat} {z:Nat}:(a,dw.opn cells e r z)∈m->pQ m J a cells
 |ed {e:TypeId}:J a=some (cells,e)->pQ m J a cells
theorem pQ.get{a:Nat}{cells:List Value}(h:pQ m J a cells){g0:Nat}{H:an}(av:Inv g0 B J m H):∃e o f z s,H.mem.get a=some (.row cells e o f z s):=by
 cases h with
 |own h=>exact⟨_,_,_,_,_,(av.own _ _ h).1⟩
 |opn h=>obtain⟨f,_,q,_⟩:=(av.own _ _ h).1;exact⟨_,_,_,_,_,q⟩
 |ed h=>obtain⟨o,f,z,s,q⟩:=av.ed _ _ _ h;exact⟨_,_,_,_,_,q⟩
theorem ob{t:TypeId}{x:Operand}{a off:Nat}{cells:List Value}{v:Value}(ah:o.op=.load t x)(U:bx l x=some (.pointer (some ⟨a,off,none⟩)))(aq:pQ m J a cells)(ar:mD K.P t cells off=some v):cO K B o n ds l m J v:=by
 intro call aE S H aj av;unfold cj eF;simp only[ah];show AU K.P _ t (a1 S.T H x)=_;rw[c6 aj H U];show gH (Cc K.P H t ⟨a,off,none⟩) H=_;obtain⟨e,o',f,z,s,q⟩:=aq.get av;unfold Cc;simp only[q,ar];rfl
theorem iy{P:Program}{t:TypeId}{cells:List Value}{off:Nat}{v:Value}(aJ:rM P t=some none)(ar:nth cells off=some v):mD P t cells off=some v:=by
 unfold mD;rw[aJ];exact ar
theorem yX{P:Program}{t:TypeId}{cells r:List Value}{off k:Nat}(aJ:rM P t=some (some k))(ar:takeN k (nP off cells)=some r):mD P t cells off=some (.agg r.toArray):=by
 unfold mD;rw[aJ];simp only[ar]
theorem arw{t:TypeId}{x:Operand}{v:Value}{cells:List Value}(ah:o.op=.box t x)(al:o.dst=some d)(az:Nat.blt d n=true)(U:bx l x=some v)(aD:v.cells.toList=cells)(ab:cells.all eV=true)(h:∀a,e7 ⟨n,ds,(d,.pointer (some ⟨a,0,none⟩))::l⟩ ((a,.row cells t)::m) J):jR K B o ⟨n,ds,l⟩ m J e7:=by
 refine jR.Bk al az fun S H aj av=>?_;obtain⟨H1,aw,aR⟩:=av.alloc cells t;refine⟨_,H1,_,J,fun call aE=>?_,aR,h H.ay⟩;unfold cj eF;simp only[ah];show G8 K.P _ t (a1 S.T H x)=_;rw[c6 aj H U];show mS (wb H t v)=_;unfold wb tI;rw[aD,ab,b4,aw];rfl
theorem arv{t:TypeId}{z:Value}{cells:List Value}(ah:o.op=.alloc t)(al:o.dst=some d)(az:Nat.blt d n=true)(aG:gX K.P t=some z)(ao:plain z=true)(aD:z.cells.toList=cells)(ab:cells.all eV=true)(h:∀a,e7 ⟨n,ds,(d,.pointer (some ⟨a,0,none⟩))::l⟩ ((a,.row cells t)::m) J):jR K B o ⟨n,ds,l⟩ m J e7:=by
 refine jR.Bk al az fun S H aj av=>?_;obtain⟨H1,aw,aR⟩:=av.alloc cells t;refine⟨_,H1,_,J,fun call aE=>?_,aR,h H.ay⟩;unfold cj eF;simp only[ah];show Q0 K.P _ t (gX K.P t)=_;rw[aG];show(bif plain z then mS (wb H t z) else none)=_;rw[ao,b4];unfold wb tI;rw[aD,ab,b4,aw];rfl
theorem Bs{t:TypeId}{x y:Operand}{a off k:Nat}{v:Value}{vs cells cells':List Value}{e:TypeId}(ah:o.op=.store t x y)(al:o.dst=none)(U:bx l x=some (.pointer (some ⟨a,off,none⟩)))(au:bx l y=some v)(hk:ey K.P t=some k)(aD:v.cells.toList=vs)(ap:Nat.beq vs.length k=true)(aN:Nat.blt 0 vs.length=true)(ab:vs.all eV=true)(hs:gf off cells vs=some cells')(ao:eS m a (.row cells e) (.row cells' e) m')(h:e7 ⟨n,ds,l⟩ m' J):jR K B o ⟨n,ds,l⟩ m J e7:=by
 refine jR.skip al fun S H aj av=>?_;obtain⟨H1,aw,aR⟩:=av.store ao;obtain⟨aU,aQ,bj,ct⟩:=av.own _ _ ao.mem;have aU:H.mem.get a=some (.row cells e false 0 0 false):=aU;refine⟨H1,m',J,fun call aE=>?_,aR,h⟩;unfold cj eF;simp only[ah];show Dw K.P _ t (a1 S.T H x) (a1 S.T H y)=_;rw[c6 aj H U,c6 aj H au];show Js (zV K.P H t (.pointer (some ⟨a,off,none⟩)) v)=_;unfold zV;simp only[hk,aD,ap,b4];unfold rT;cases vs with
 |nil=>cases aN
 |cons v0 vs=>
  simp only
  have ax:Nat.blt a H.bz=false:=by
   cases q:Nat.blt a H.bz
   ·rfl
   ·have:a<H.bz:=by simpa[Nat.blt,vK] using q
    have:=av.bz;omega
  rw[ax,da,aU];simp only[show Nat.ble 0 off=true from lH (df _),Su,ab,b4,hs,aw,da];rfl
theorem aqO{x:Operand}{a:Addr}(ah:o.op=.nilCheck x)(U:bx l x=some (.pointer (some a))):cO K B o n ds l m J (.pointer (some a)):=by
 intro call aE S H aj av;unfold cj eF;simp only[ah];show AX K.P _ (a1 S.T H x)=_;rw[c6 aj H U];rfl
def Ci (P:Program)(s:TypeId)(f:Nat):Option Nat:=match P.underlying s with
 |some (.struct fields)=>(match fields[f]? with
  |some fd=>(match ey P fd.type with|some (_+1)=>some fd.offset|_=>none)
  |none=>none)
 |_=>none
theorem Bi{s:TypeId}{x:Operand}{f a off k:Nat}(ah:o.op=.fieldAddr s x f)(U:bx l x=some (.pointer (some ⟨a,off,none⟩)))(aA:Ci K.P s f=some k):cO K B o n ds l m J (.pointer (some ⟨a,off+k,none⟩)):=by
 intro call aE S H aj av;unfold cj eF;simp only[ah];show AT K.P _ s f (a1 S.T H x)=_;rw[c6 aj H U];show gH (E2 K.P s (.pointer (some ⟨a,off,none⟩)) f) H=_;unfold Ci at aA;unfold E2;simp only
 cases hu:K.P.underlying s with
 |none=>rw[hu] at aA;cases aA
 |some uG=>
  rw[hu] at aA;cases uG with
  |struct fields=>
   simp only at aA ⊢;cases bI:fields[f]? with
   |none=>rw[bI] at aA;cases aA
   |some fd=>
    rw[bI] at aA;simp only at aA ⊢;cases aG:ey K.P fd.type with
    |none=>rw[aG] at aA;cases aA
    |some z=>
     rw[aG] at aA;cases z with
     |zero=>cases aA
     |succ z=>simp only[cl] at aA;subst aA;rfl
  |_=>cases aA
def zX (P:Program)(s:TypeId)(f:Nat):Option (TypeId×Nat):=match P.underlying s with
 |some (.struct fields)=>(match fields[f]? with
  |some fd=>some (fd.type,fd.offset)
  |none=>none)
 |_=>none
def Ca (P:Program)(t:TypeId):Option Nat:=match P.underlying t with
 |some (.slice e)=>ey P e
 |_=>none
theorem P1{i:Int}{len:Nat}(aN:0<=i)(ab:i<len):tD i len=some i.toNat:=by
 cases i with
 |ofNat n=>
  unfold tD;have:Nat.blt n len=true:=by
   have:n<len:=by simpa using ab
   simpa[Nat.blt,vK] using this
  simp only[this,b4];rfl
 |negSucc n=>exact absurd aN (by simp)
theorem aqG{t:TypeId}{x c7:Operand}{a off len cap sz:Nat}{k:IntKind}{i:Int}(ah:o.op=.indexAddr t x c7)(U:bx l x=some (.slice (some ⟨a,off,none⟩) len cap))(ak:bx l c7=some (.int k i))(aJ:Ca K.P t=some sz)(aN:0<=i)(ab:i<len):cO K B o n ds l m J (.pointer (some ⟨a,off+i.toNat*sz,none⟩)):=by
 intro call aE S H aj av;unfold cj eF;simp only[ah];show xh K.P _ t (a1 S.T H x) (a1 S.T H c7)=_;rw[c6 aj H U,c6 aj H ak];show gH (we K.P t (.slice (some ⟨a,off,none⟩) len cap) (.int k i)) H=_;unfold Ca at aJ;unfold we;cases hu:K.P.underlying t with
 |none=>rw[hu] at aJ;cases aJ
 |some uG=>
  rw[hu] at aJ;cases uG with
  |slice e=>
   simp only at aJ ⊢;rw[P1 aN ab,aJ];rfl
  |_=>cases aJ
def isSlice (P:Program)(t:TypeId):Bool:=match P.underlying t with|some (.slice _)=>true|_=>false
def u9 (P:Program)(t:TypeId):Bool:=match P.underlying t with|some .string=>true|_=>false
theorem zS{S:aV}{H:an}{call:eo}{aE:gU}{c:Call}{b:Builtin}(ah:o.op=.call c)(aD:c.callee=.builtin b):cj K.P call aE S H o=pY K.P S H o b c:=by
 unfold cj eF;simp only[ah];show ju K.P _ c=_;unfold ju;rw[aD]
theorem aqL{c:Call}{base:Option Addr}{len cap:Nat}{t:TypeId}(ah:o.op=.call c)(aD:c.callee=.builtin .len)(aF:hC l c.args.toList=some [.slice base len cap])(aJ:c.argTypes.toList=[t])(hs:isSlice K.P t=true):cO K B o n ds l m J (.int .i64 len):=by
 intro call aE S H aj av;rw[zS ah aD];unfold pY;rw[m6 aj H aF,aJ];simp only
 unfold isSlice at hs;split at hs
 ·rename_i e hu;rw[hu]
 ·cases hs
theorem ak2{α:Type}(l:List α):AA l=some l.length:=by
 cases h:AA l with
 |none=>
  unfold AA at h;cases ai:isNil (nP 256 l) with
  |true=>rw[ai] at h;cases h
  |false=>
   rw[ai,da] at h;split at h
   ·cases h
   ·split at h<;>cases h
 |some k=>rw[Xk h]
theorem aqM{c:Call}{s:ByteArray}{t:TypeId}(ah:o.op=.call c)(aD:c.callee=.builtin .len)(aF:hC l c.args.toList=some [.string s])(aJ:c.argTypes.toList=[t])(hs:u9 K.P t=true):cO K B o n ds l m J (.int .i64 s.data.toList.length):=by
 intro call aE S H aj av;rw[zS ah aD];unfold pY;rw[m6 aj H aF,aJ];simp only
 unfold u9 at hs;split at hs
 ·rename_i hu;rw[hu];simp only[ak2,tb];rfl
 ·cases hs
theorem aqJ{t:TypeId}{x c7:Operand}{s:ByteArray}{k:IntKind}{i:Int}{b:UInt8}(ah:o.op=.index t x c7)(U:bx l x=some (.string s))(ak:bx l c7=some (.int k i))(aJ:u9 K.P t=true)(aN:0<=i)(ai:s.data.toList[i.toNat]?=some b):cO K B o n ds l m J (.int .u8 b.toNat):=by
 intro call aE S H aj av;unfold cj eF;simp only[ah];show yS K.P _ (a1 S.T H x) (a1 S.T H c7) (K.P.underlying t)=_;rw[c6 aj H U,c6 aj H ak];unfold u9 at aJ;split at aJ
 ·rename_i hu;rw[hu];unfold yS;simp only
  cases i with
  |ofNat j=>
   simp only[kA];rw[show s.data.toList[j]?=some b from ai];simp only[tb];rfl
  |negSucc j=>exact absurd aN (by simp)
 ·cases aJ
theorem aqD{x:Operand}{c7:Nat}{vs:Array Value}{v:Value}(ah:o.op=.extract x c7)(U:bx l x=some (.tuple vs))(ar:nth vs.toList c7=some v):cO K B o n ds l m J v:=by
 intro call aE S H aj av;unfold cj eF;simp only[ah];show AS K.P _ c7 (a1 S.T H x)=_;rw[c6 aj H U];show gH (nth vs.toList c7) H=_;rw[ar];rfl
end
end
end Go.Opn

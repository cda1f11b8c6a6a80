/- A part of the proof of TableMetric. -/
import Derived.Test.YtmmfodofkbmfnaaGreatDoorCas
set_option linter.unusedVariables false
set_option linter.unusedSimpArgs false
namespace Go.Opn
noncomputable section
open Go.Cre Go.RowKit
inductive rI {P:Program} (Q:eF P) (ops:List Oper):List Oper->aO->ah->cS->Prop
 |nil (S:aO) (H:ah):rI Q ops [] S H (.ok S H)
 |cons (eR:Code->aO->ah->Option (Exit×aO×ah)) (bx:dI) {o:Oper} {rest:List Oper} {S aY:aO} {H H1:ah} {r:cS}:one P (hs Q bx) (gl Q eR bx).az ops S H o=some (.ok aY H1)->rI Q ops rest aY H1 r->rI Q ops (o::rest) S H r
 |hj (eR:Code->aO->ah->Option (Exit×aO×ah)) (bx:dI) {o:Oper} {rest:List Oper} {S aY:aO} {H H1:ah} {chain:List PanicEntry}:one P (hs Q bx) (gl Q eR bx).az ops S H o=some (.hj chain aY H1)->rI Q ops (o::rest) S H (.hj chain aY H1)
theorem rI.sound{P:Program}{Q:eF P}{B:Nat->Prop}{w0:World}(eQ:Q.ok B w0){ops:Array Oper}{fr:Frame}{k:List Item}{l:List Oper}{S:aO}{H:ah}{cD:cS}(h:rI Q ops.toList l S H cD):∀(i:Nat) (μ:bm) (w:World) (tmps:Array Value) (ds:List Deferred) (cs:List Frame),
 ops.toList.drop i=l->bz P B w0 μ H w->fZ μ S fr tmps ds cs->
 ih P B w0 μ H S fr cs (lone (bj fr tmps ds (.inRegion ops (List.range' i l.length)::k)) cs w) k cD:=by
 induction h with
 |nil S H=>
  intro i μ w tmps ds cs _ h ay;exact⟨μ,w,tmps,ds,cs,h,Step.refl _ _,ay,hF.refl _ _ ay.pu,rfl,rfl,.one GY⟩
 |@cons eR bx o rest S aY H H1 r iL _ aN=>
  intro i μ w tmps ds cs ax h ay;have ae:ops[i]?=some o:=by
   have:(ops.toList.drop i)[0]?=some o:=by rw[ax];rfl
   simpa using this
  have tS:ops.toList.drop (i+1)=rest:=by
   have:(ops.toList.drop i).drop 1=rest:=by rw[ax];rfl
   rw[xv] at this;exact this
  show ih P B w0 μ H S fr cs (lone (bj fr tmps ds (.inRegion ops (i::List.range' (i+1) rest.length)::k)) cs w) k r;have U:=wN (k:=k) (rest:=List.range' (i+1) rest.length) (DK bx eQ) (CW (E:=gl Q eR bx) (vn eR eQ)) h ay ae iL;exact U.bind fun d' bc sV ph eP b4 _ cI _ _ _=>aN (i+1) d' bc sV ph eP tS b4 cI
 |@hj eR bx o rest S aY H H1 chain iL=>
  intro i μ w tmps ds cs ax h ay;have ae:ops[i]?=some o:=by
   have:(ops.toList.drop i)[0]?=some o:=by rw[ax];rfl
   simpa using this
  show ih P B w0 μ H S fr cs (lone (bj fr tmps ds (.inRegion ops (i::List.range' (i+1) rest.length)::k)) cs w) k _;exact wN (k:=k) (rest:=List.range' (i+1) rest.length) (DK bx eQ) (CW (E:=gl Q eR bx) (vn eR eQ)) h ay ae iL
def LQ (S:aO)(H:ah):Option (List PanicEntry)->cS
 |none=>.ok S H
 |some c=>.hj c S H
def D8:Option (List PanicEntry)->Exit
 |none=>.normal
 |some c=>.panic c
theorem c2.ops{P:Program}{Q:eF P}{id:Nat}{ops:Array Oper}{S aB:aO}{H H':ah}{p:Option (List PanicEntry)}(h:rI Q ops.toList ops.toList S H (LQ aB H' p)):c2 Q (.region id ops false) S H (D8 p) aB H':=by
 refine .mk fun B w0 eQ μ w fr tmps ds cs k it k5 cg ag=>?_;obtain rfl:=ag.plain (fun _ q=>by cases q);have:=h.sound (k:=k) (fr:=fr) eQ 0 μ w tmps ds cs (by simp) k5 cg;have aA:List.range' 0 ops.toList.length=List.range ops.size:=by rw[OR];simp
 rw[aA] at this;exact(GK (by cases p<;>rfl) this).steps (.one Nn)
structure di where
 P:Program
 eo:aL Func
 dN:n1 P eo
 Q:eF P
 g0:Nat
abbrev aU:=List (Nat×db)
section
variable {K:di}{B:c6}
def W(K:di)(B:c6)(ops rest:List Oper)(E:bK)(m:aU)(J:an)(bt:Option (List PanicEntry)->bK->aU->an->Prop):Prop:=
 ∀S H,Sat E S->Inv K.g0 B J m H->∃p aB H' cy m' ai,rI K.Q ops rest S H (LQ aB H' p)/\Sat cy aB/\Inv K.g0 B ai m' H'/\bt p cy m' ai
def ad(K:di)(B:c6)(c:Code)(E:bK)(m:aU)(J:an)(bt:Exit->bK->aU->an->Prop):Prop:=
 ∀S H,Sat E S->Inv K.g0 B J m H->∃e aB H' cy m' ai,c2 K.Q c S H e aB H'/\Sat cy aB/\Inv K.g0 B ai m' H'/\bt e cy m' ai
def Exec(K:di)(B:c6)(o:Oper)(E:bK)(m:aU)(J:an)(dS:bK->aU->an->Prop):Prop:=
 ∀S H,Sat E S->Inv K.g0 B J m H->∃eR bx aB H' cy m' ai,mR S H o.dst (cc K.P (hs K.Q bx) (gl K.Q eR bx).az S H o)=some (.ok aB H')/\Sat cy aB/\Inv K.g0 B ai m' H'/\dS cy m' ai
variable {ops rest:List Oper}{E:bK}{m m':aU}{J:an}{o:Oper}{bt:Option (List PanicEntry)->bK->aU->an->Prop}{dS:bK->aU->an->Prop}{cC ac5:Exit->bK->aU->an->Prop}
theorem W.nil(h:bt none E m J):W K B ops [] E m J bt:=fun S H al au=>⟨none,S,H,E,m,J,.nil S H,al,au,h⟩
theorem W.step(ar:o.guard=none)(h:Exec K B o E m J fun E m J=>W K B ops rest E m J bt):W K B ops (o::rest) E m J bt:=by
 intro S H al au;obtain⟨eR,bx,aY,H1,fS,cM,bO,U,ab,aV,br⟩:=h S H al au;obtain⟨p,aB,H',cy,m',ai,a8,a5,bI,cL⟩:=br aY H1 ab aV;refine⟨p,aB,H',cy,m',ai,.cons eR bx ?_ a8,a5,bI,cL⟩;unfold one eI;rw[ar];exact U
def jF (ops:List Oper)(o:Oper):Option (Nat×Bool):=match o.guard with
 |some (aa,want)=>(match nth ops aa with|some p=>(match p.dst with|some d=>some (d,want)|none=>none)|none=>none)
 |none=>none
theorem vI{S:aO}{d:Nat}{want b:Bool}(ar:jF ops o=some (d,want))(af:S.T.get d=some (.bool b)):eI ops S.T o=some (b==want):=by
 unfold jF at ar;unfold eI;cases q:o.guard with
 |none=>rw[q] at ar;cases ar
 |some x=>
  obtain⟨aa,w⟩:=x;rw[q] at ar;show po ops S.T (aa,w)=_;unfold po;simp only at ar ⊢;cases aE:nth ops aa with
  |none=>rw[aE] at ar;cases ar
  |some p=>
   rw[aE] at ar;simp only at ar ⊢;cases ax:p.dst with
   |none=>rw[ax] at ar;cases ar
   |some ht=>
    rw[ax] at ar;simp only[bL,cU] at ar;obtain⟨rfl,rfl⟩:=ar;simp only[af]
theorem W.split{n:Nat}{ds:dL}{l:List (Nat×Value)}{d:Nat}{b:Bool}(af:look l d=some (.bool b))(U:b=true->W K B ops rest ⟨n,ds,(d,.bool true)::l⟩ m J bt)(a2:b=false->W K B ops rest ⟨n,ds,(d,.bool false)::l⟩ m J bt):W K B ops rest ⟨n,ds,l⟩ m J bt:=by
 intro S H al au;have key:∀c:Bool,b=c->Sat ⟨n,ds,(d,.bool c)::l⟩ S:=fun c e=>by
  subst e;refine⟨al.n,al.ds,al.bu,al.a7,al.b3,al.has,fun t v q=>?_⟩;have aP:(bif Nat.beq t d then some (Value.bool b) else look l t)=some v:=q;cases bY:Nat.beq t d with
  |true=>rw[bY,bH] at aP;obtain rfl:=dB bY;rw[<-aP];exact al.get _ _ af
  |false=>rw[bY,cZ] at aP;exact al.get t v aP
 cases b with
 |true=>exact U rfl S H (key true rfl) au
 |false=>exact a2 rfl S H (key false rfl) au
theorem W.Er{n:Nat}{ds:dL}{l:List (Nat×Value)}{d:Nat}{want b:Bool}(ar:jF ops o=some (d,want))(af:look l d=some (.bool b))(hw:(b==want)=true)(h:Exec K B o ⟨n,ds,l⟩ m J fun E m J=>W K B ops rest E m J bt):W K B ops (o::rest) ⟨n,ds,l⟩ m J bt:=by
 intro S H al au;have fm:=vI ar (al.get d _ af);obtain⟨eR,bx,aY,H1,fS,cM,bO,aQ,aP,bC,dp⟩:=h S H al au;obtain⟨p,aB,H',cy,m',ai,a8,a5,bI,cL⟩:=dp aY H1 aP bC;refine⟨p,aB,H',cy,m',ai,.cons eR bx ?_ a8,a5,bI,cL⟩;unfold one;rw[fm,hw];exact aQ
theorem W.yk{n:Nat}{ds:dL}{l:List (Nat×Value)}{d e:Nat}{want b:Bool}(ar:jF ops o=some (d,want))(af:look l d=some (.bool b))(hw:(b==want)=false)(ax:o.dst=some e)(aE:Nat.blt e n=true)(h:W K B ops rest ⟨n,ds,(e,undef)::l⟩ m J bt):W K B ops (o::rest) ⟨n,ds,l⟩ m J bt:=by
 intro S H al au;have fm:=vI ar (al.get d _ af);obtain⟨aY,s1,s2⟩:=al.put (dst:=some e) aE undef;obtain⟨p,aB,H',cy,m',ai,a8,a5,bI,cL⟩:=h aY H s2 au;refine⟨p,aB,H',cy,m',ai,.cons hB jM ?_ a8,a5,bI,cL⟩;unfold one;rw[fm,hw];show mV H (S.put o.dst undef)=_;rw[ax,s1];rfl
def g'(K:di)(B:c6)(o:Oper)(E:bK)(m:aU)(J:an)(dS:bK->aU->an->Prop):Prop:=
 ∀S H,Sat E S->Inv K.g0 B J m H->∃aB H' cy m' ai,(∀call az,mR S H o.dst (cc K.P call az S H o)=some (.ok aB H'))/\Sat cy aB/\Inv K.g0 B ai m' H'/\dS cy m' ai
theorem Exec.of(h:g' K B o E m J dS):Exec K B o E m J dS:=fun S H al au=>by
 obtain⟨aB,H',cy,m',ai,U,ab,aV,br⟩:=h S H al au;exact⟨hB,jM,aB,H',cy,m',ai,U _ _,ab,aV,br⟩
theorem Exec.val{n:Nat}{ds:dL}{l:List (Nat×Value)}{d:Nat}{v:Value}(ax:o.dst=some d)(aE:Nat.blt d n=true)(dd:∀call az S H,Sat ⟨n,ds,l⟩ S->Inv K.g0 B J m H->cc K.P call az S H o=some (.val v H))(h:dS ⟨n,ds,(d,v)::l⟩ m J):Exec K B o ⟨n,ds,l⟩ m J dS:=by
 intro S H al au;obtain⟨aY,s1,s2⟩:=al.put (dst:=some d) aE v;refine⟨hB,jM,aY,H,_,m,J,?_,s2,au,h⟩;rw[dd _ _ S H al au,ax];show mV H (S.put (some d) v)=_;rw[s1];rfl
theorem g'.uW{n:Nat}{ds:dL}{l:List (Nat×Value)}{d:Nat}(ax:o.dst=some d)(aE:Nat.blt d n=true)(dd:∀S H,Sat ⟨n,ds,l⟩ S->Inv K.g0 B J m H->∃v H' m' ai,(∀call az,cc K.P call az S H o=some (.val v H'))/\Inv K.g0 B ai m' H'/\dS ⟨n,ds,(d,v)::l⟩ m' ai):g' K B o ⟨n,ds,l⟩ m J dS:=by
 intro S H al au;obtain⟨v,H',m',ai,a8,a5,bI⟩:=dd S H al au;obtain⟨aY,s1,s2⟩:=al.put (dst:=some d) aE v;refine⟨aY,H',_,m',ai,fun call az=>?_,s2,a5,bI⟩;rw[a8,ax];show mV H' (S.put (some d) v)=_;rw[s1];rfl
theorem g'.skip{E:bK}(ax:o.dst=none)(dd:∀S H,Sat E S->Inv K.g0 B J m H->∃H' m' ai,(∀call az,cc K.P call az S H o=some (.skip H'))/\Inv K.g0 B ai m' H'/\dS E m' ai):g' K B o E m J dS:=by
 intro S H al au;obtain⟨H',m',ai,a8,a5,bI⟩:=dd S H al au;refine⟨S,H',E,m',ai,fun call az=>?_,al,a5,bI⟩;rw[a8,ax];rfl
theorem ad.region{id:Nat}{a:Array Oper}(h:W K B a.toList a.toList E m J fun p E m J=>cC (D8 p) E m J):ad K B (.region id a false) E m J cC:=by
 intro S H al au;obtain⟨p,aB,H',cy,m',ai,a8,a5,bI,cL⟩:=h S H al au;exact⟨D8 p,aB,H',cy,m',ai,c2.ops a8,a5,bI,cL⟩
theorem ad.skip(h:cC .normal E m J):ad K B .skip E m J cC:=fun S H al au=>⟨_,S,H,E,m,J,c2.skip K.dN.nD,al,au,h⟩
theorem ad.ret(h:cC .ret E m J):ad K B .ret E m J cC:=fun S H al au=>⟨_,S,H,E,m,J,c2.ret K.dN.nD,al,au,h⟩
theorem ad.exit{id:Nat}(h:cC (.exit id) E m J):ad K B (.exit id) E m J cC:=fun S H al au=>⟨_,S,H,E,m,J,c2.exit K.dN.nD,al,au,h⟩
abbrev Yn(K:di)(B:c6)(b:Code)(cC:Exit->bK->aU->an->Prop):Exit->bK->aU->an->Prop:=fun e E m J=>match e with
 |.normal=>ad K B b E m J cC
 |e=>cC e E m J
theorem ad.seq{a b:Code}(h:ad K B a E m J (Yn K B b cC)):ad K B (.seq a b) E m J cC:=by
 intro S H al au;obtain⟨e,aY,H1,fS,cM,bO,U,ab,aV,br⟩:=h S H al au;cases e with
 |normal=>
  have br:ad K B b fS cM bO cC:=br;obtain⟨bl,aB,H',cy,m',ai,a8,a5,bI,cL⟩:=br aY H1 ab aV;exact⟨bl,aB,H',cy,m',ai,c2.seq U a8,a5,bI,cL⟩
 |exit i=>exact⟨_,aY,H1,fS,cM,bO,c2.zS U (fun q=>by cases q),ab,aV,br⟩
 |goto i=>exact⟨_,aY,H1,fS,cM,bO,c2.zS U (fun q=>by cases q),ab,aV,br⟩
 |ret=>exact⟨_,aY,H1,fS,cM,bO,c2.zS U (fun q=>by cases q),ab,aV,br⟩
 |panic c=>exact⟨_,aY,H1,fS,cM,bO,c2.zS U (fun q=>by cases q),ab,aV,br⟩
 |outgrown=>exact⟨_,aY,H1,fS,cM,bO,c2.zS U (fun q=>by cases q),ab,aV,br⟩
abbrev PF(id:Nat)(cC:Exit->bK->aU->an->Prop):Exit->bK->aU->an->Prop:=fun e E m J=>match e with
 |.exit aa=>if aa=id then cC .normal E m J else cC (.exit aa) E m J
 |e=>cC e E m J
theorem ad.block{id:Nat}{c:Code}(h:ad K B c E m J (PF id cC)):ad K B (.block id c) E m J cC:=by
 intro S H al au;obtain⟨e,aY,H1,fS,cM,bO,U,ab,aV,br⟩:=h S H al au;refine⟨_,aY,H1,fS,cM,bO,c2.block K.dN.nD U,ab,aV,?_⟩;cases e with
 |exit aa=>
  have br:if aa=id then cC .normal fS cM bO else cC (.exit aa) fS cM bO:=br;show cC (if aa=id then .normal else .exit aa) fS cM bO;split at br
  ·rename_i q;rw[bs q];exact br
  ·rename_i q;rw[a1 q];exact br
 |_=>exact br
def bB (l:List (Nat×Value)):Operand->Option Value
 |.tmp t=>look l t
 |.const v=>GA v
 |.global _=>none
 |.func f=>some (.func (.func f) #[] #[])
theorem cX{E:bK}{S:aO}(al:Sat E S)(H:ah){x:Operand}{v:Value}(h:bB E.l x=some v):aR S.T H x=some v:=by
 cases x with
 |tmp t=>exact al.get t v h
 |const c=>exact h
 |global g=>cases h
 |func f=>exact h
theorem ad.cond{n:Nat}{ds:dL}{l:List (Nat×Value)}{x:Operand}{a b:Code}{t:Bool}(j:bB l x=some (.bool t))(U:t=true->ad K B a ⟨n,ds,l⟩ m J cC)(a2:t=false->ad K B b ⟨n,ds,l⟩ m J cC):ad K B (.cond x a b) ⟨n,ds,l⟩ m J cC:=by
 intro S H al au;cases t with
 |true=>
  obtain⟨e,aB,H',cy,m',ai,a8,a5,bI,cL⟩:=U rfl S H al au;exact⟨e,aB,H',cy,m',ai,c2.cond K.dN.nD (cX al H j) a8,a5,bI,cL⟩
 |false=>
  obtain⟨e,aB,H',cy,m',ai,a8,a5,bI,cL⟩:=a2 rfl S H al au;exact⟨e,aB,H',cy,m',ai,c2.cond K.dN.nD (cX al H j) a8,a5,bI,cL⟩
theorem ad.rU{n:Nat}{ds:dL}{l:List (Nat×Value)}{x:Operand}{a b:Code}(j:bB l x=some (.bool false))(h:ad K B b ⟨n,ds,l⟩ m J cC):ad K B (.cond x a b) ⟨n,ds,l⟩ m J cC:=ad.cond j (fun q=>by cases q) (fun _=>h)
def lp(l:List (Nat×Value)):List (Nat×Value)->Prop
 |[]=>True
 |(t,v)::l'=>look l t=some v/\lp l l'
theorem lp.look{l:List (Nat×Value)}:∀{l':List (Nat×Value)},lp l l'->∀t v,look l' t=some v->look l t=some v:=by
 intro l';induction l' with
 |nil=>intro _ t v q;cases q
 |cons x l' aN=>
  obtain⟨u,w⟩:=x;intro h t v q;have aP:(bif Nat.beq t u then some w else Opn.look l' t)=some v:=q;cases af:Nat.beq t u with
  |true=>
   rw[af,bH] at aP;obtain rfl:=dB af;injection aP with bC;rw[<-bC];exact h.1
  |false=>rw[af,cZ] at aP;exact aN h.2 t v aP
theorem Sat.sub{n:Nat}{ds:dL}{l l':List (Nat×Value)}{S:aO}(h:Sat ⟨n,ds,l⟩ S)(aw:lp l l'):Sat ⟨n,ds,l'⟩ S:=Sat.eZ (E:=⟨n,ds,l⟩) h aw.look
theorem ad.eZ{c:Code}{n:Nat}{ds:dL}{l l':List (Nat×Value)}(aw:lp l l')(hm:m'.Sublist m)(h:ad K B c ⟨n,ds,l'⟩ m' J cC):ad K B c ⟨n,ds,l⟩ m J cC:=
 fun S H al au=>h S H (al.sub aw) (au.sub hm)
theorem ad.loop{α:Type}{c:Code}{n:Nat}{ds:dL}(env:α->List (Nat×Value))(mem:α->aU)(dv:α->an)(inv:α->Prop)(nC:α->Nat)
 (b2:∀s,inv s->ad K B c ⟨n,ds,env s⟩ (mem s) (dv s) fun e E m J=>match e with
  |.normal=>∃c1 l,inv c1/\nC c1<nC s/\E=⟨n,ds,l⟩/\lp l (env c1)/\(mem c1).Sublist m/\J=dv c1
  |e=>cC e E m J)(s:α)(ag:inv s):ad K B (.loop c) ⟨n,ds,env s⟩ (mem s) (dv s) cC:=by
 have key:∀(k:Nat) (s:α),nC s=k->inv s->ad K B (.loop c) ⟨n,ds,env s⟩ (mem s) (dv s) cC:=by
  intro k;induction k using Nat.strongRecOn with
  |_ k aN=>
   intro s hk ag S H al au;obtain⟨e,aY,H1,fS,cM,bO,U,ab,aV,br⟩:=b2 s ag S H al au;cases e with
   |normal=>
    obtain⟨c1,l,b4,b0,rfl,eM,eH,rfl⟩:=br;obtain⟨bl,aB,H',cy,m',ai,a8,a5,bI,cL⟩:=aN (nC c1) (by omega) c1 rfl b4 aY H1 (ab.sub eM) (aV.sub eH);exact⟨bl,aB,H',cy,m',ai,c2.LG U a8,a5,bI,cL⟩
   |exit i=>exact⟨_,aY,H1,fS,cM,bO,c2.pK U (fun q=>by cases q),ab,aV,br⟩
   |goto i=>exact⟨_,aY,H1,fS,cM,bO,c2.pK U (fun q=>by cases q),ab,aV,br⟩
   |ret=>exact⟨_,aY,H1,fS,cM,bO,c2.pK U (fun q=>by cases q),ab,aV,br⟩
   |panic c=>exact⟨_,aY,H1,fS,cM,bO,c2.pK U (fun q=>by cases q),ab,aV,br⟩
   |outgrown=>exact⟨_,aY,H1,fS,cM,bO,c2.pK U (fun q=>by cases q),ab,aV,br⟩
 exact key _ s rfl ag
theorem ad.ju{c:Code}{a:Nat}{b:db}{x:List Value×TypeId}(j:b.rowOf=some x)(h:J.le (J.add a x)->ad K B c E m (J.add a x) cC):ad K B c E ((a,b)::m) J cC:=by
 intro S H al au;obtain⟨a8,a5⟩:=au.ju j;exact h a5 S H al a8
def pD(m:aU)(a:Nat):Prop:=a∈ids m
def iZ(ck:aU)(H:ah)(J:an):c6:=⟨pD ck,fun a=>a∈ck.map Prod.fst,H,J⟩
def Fn(K:di)(f:FuncId)(args:List Value)(ck:aU)(J:an)(er:Value->aU->an->Prop):Prop:=
 ∀H,Inv K.g0 (iZ ck H J) J ck H->∃v H' ai m',iA K.Q f args H (.returned v) H'/\Inv K.g0 (iZ ck H J) ai m' H'/\er v m' ai
abbrev Cj(_:aU):Prop:=True
theorem Inv.enter{g0:Nat}{ck e8:aU}{H:ah}(h:Inv g0 B J m H)(ao:(ck++e8).Perm m)(gH:Cj ck):Inv g0 (iZ ck H J) J ck H:=by
 have mI:∀x,x∈ck->x∈m:=fun x q=>ao.subset (rC _ q);have dk:=(BU ao).nodup_iff.2 h.eY;rw[BT,Av] at dk;refine⟨h.wf,h.bf,c9 _,c9 _,fun _ _ _=>rfl,fun _ _=>rfl,h.dv,an.le.refl _,fun a x aQ aP=>?_,fun a b q=>?_,fun a b q x j=>?_,dk.1⟩
 ·have aQ:J a=none:=aQ;rw[aQ] at aP;cases aP
 ·obtain⟨a8,a5,bI,cL⟩:=h.own a b (mI _ q);refine⟨?_,.inr (um q),bI,cL⟩;cases b with
  |row=>exact a8
  |map=>exact a8
  |loop=>exact a8
  |fN=>exact a8
  |opn c e r z=>
   obtain⟨f,_,f2,f3⟩:=a8;exact⟨f,.inr ⟨a,r,_,_,_,_,f3,f2,s'.2 ⟨_,q,rfl⟩⟩,f2,f3⟩
 ·obtain⟨a8,a5,bI⟩:=h.opn a b (mI _ q) x j;exact⟨a8,.inr (uo.2 ⟨_,q,.inr j⟩),bI⟩
theorem Inv.leave{g0:Nat}{ck e8:aU}{H H':ah}{ai:an}(h:Inv g0 B J m H)(ao:(ck++e8).Perm m)(hk:Inv g0 (iZ ck H J) ai m' H'):Inv g0 B ai (m'++e8) H'/\J.le ai:=by
 have dk:=(BU ao).nodup_iff.2 h.eY;rw[BT,Av] at dk;have E1:∀a,a∈ids ck\/a∈ids e8->a∈ids m:=fun a q=>(BU ao).subset (by rw[BT];exact m3.2 q);have Bz:∀a,pD ck a->B.H0.av<=a\/B.X a:=fun a q=>h.Mu (E1 a (.inl q));have ub:∀a,a∈ids e8->a<H.av/\¬pD ck a:=fun a q=>⟨h.B6 (E1 a (.inr q)),fun r=>dk.2.2 _ r _ q rfl⟩;have yM:∀a,a<H.av->¬pD ck a->H'.mem.get a=H.mem.get a:=hk.eN;have ib:H.av<=H'.av:=hk.av;have Fb:H.bM<=H'.bM:=hk.bM;have hle:J.le ai:=hk.le;have hY:∀a x,J a=none->ai a=some x->H.av<=a\/pD ck a:=hk.fresh;have lP:∀f,c6.r1 (iZ ck H J) f->B.r1 f:=fun f q=>by
  rcases q with q|⟨a,r,c,e,z,s,aQ,aP,bC⟩
  ·exact .inl (ej h.bM q)
  ·obtain⟨⟨bA,b⟩,nn,jn⟩:=s'.1 bC;have jn:bA=a:=jn;subst jn;have k:=(h.own bA b (ao.subset (rC _ nn))).1;have aP:H.mem.get bA=some (.row c e true f z s):=aP;cases b with
   |row=>have k:=aP.symm.trans k;cases k
   |map=>have k:=aP.symm.trans k;cases k
   |loop=>have k:=aP.symm.trans k;cases k
   |fN=>have k:=aP.symm.trans k;cases k
   |opn bo bl cA fv=>
    obtain⟨cd,a8,a5,bI⟩:=k;have k:=aP.symm.trans a5;injection k with k;injection k with _ _ _ k
    rw[k];exact a8
 have J0:∀a,a∈ids e8->ai a=none:=fun a q=>by
  cases aX:ai a with
  |none=>rfl
  |some x=>
   rcases hY a x (h.Wq (E1 a (.inr q))) aX with r|r
   ·have:=(ub a q).1;omega
   ·exact absurd r (ub a q).2
 refine⟨⟨hk.wf,hk.bf,ej h.av ib,ej h.bM Fb,fun a aK fA=>?_,fun f ay=>?_,hk.dv,h.le.trans hle,fun a x aQ aP=>?_,fun a b q=>?_,fun a b q x j=>?_,?_⟩,hle⟩
 ·rw[yM a (jZ aK h.av),h.eN a aK fA];intro r;rcases Bz a r with q|q
  ·omega
  ·exact fA q
 ·rw[show H'.ba.get f=H.ba.get f from hk.j' f (fun q=>ay (lP f q))];exact h.j' f ay
 ·cases aX:J a with
  |none=>
   rcases hY a x aX aP with r|r
   ·exact .inl (ej h.av r)
   ·exact Bz a r
  |some y=>exact h.fresh a y aQ aX
 ·rcases m3.1 q with q|q
  ·obtain⟨a8,a5,bI,cL⟩:=hk.own a b q;refine⟨?_,?_,bI,cL⟩
   ·cases b with
    |row=>exact a8
    |map=>exact a8
    |loop=>exact a8
    |fN=>exact a8
    |opn c e r z=>obtain⟨f,f1,f2,f3⟩:=a8;exact⟨f,lP f f1,f2,f3⟩
   ·rcases(show H.av<=a\/pD ck a from a5) with r|r
    ·exact .inl (ej h.av r)
    ·exact Bz a r
  ·obtain⟨a8,a5,bI,cL⟩:=h.own a b (ao.subset (eU _ q));have Bo:=um q;refine⟨db.rQ a8 (yM a (ub a Bo).1 (ub a Bo).2) (fun f l ay=>?_),a5,J0 a Bo,cL⟩;rw[show H'.ba.get f=H.ba.get f from hk.j' f (fun cR=>by
    rcases cR with cR|⟨bA,cA,_,_,_,_,aQ,_,bC⟩
    ·exact absurd (h.wf.yh ay) (Nat.not_lt.2 cR)
    ·have aQ:=ay.symm.trans aQ;injection aQ with aQ;injection aQ with aQ _
     subst aQ;obtain⟨⟨bA,b'⟩,nn,jn⟩:=s'.1 bC;have jn:bA=a:=jn;subst jn;exact(ub bA Bo).2 (um nn))];exact ay
 ·rcases m3.1 q with q|q
  ·obtain⟨a8,a5,bI⟩:=hk.opn a b q x j;refine⟨a8,?_,bI⟩;rcases(show H.av<=x\/pD ck x from a5) with r|r
   ·exact .inl (ej h.av r)
   ·exact Bz x r
  ·have hg:x∈ids e8:=uo.2 ⟨_,q,.inr j⟩;obtain⟨a8,a5,bI⟩:=h.opn a b (ao.subset (eU _ q)) x j;exact⟨jZ a8 ib,a5,J0 x hg⟩
 ·rw[BT,Av];refine⟨hk.eY,dk.2.1,fun a aK b af e=>?_⟩;subst e;rcases(show H.av<=a\/pD ck a from hk.Mu aK) with r|r
  ·have:=(ub a af).1;omega
  ·exact(ub a af).2 r
def hz (l:List (Nat×Value)):List Operand->Option (List Value)
 |[]=>some []
 |x::r=>match bB l x with
  |some v=>(match hz l r with|some vs=>some (v::vs)|none=>none)
  |none=>none
theorem mq{E:bK}{S:aO}(al:Sat E S)(H:ah):∀{xs:List Operand} {vs:List Value},hz E.l xs=some vs->ev S.T H xs=some vs:=by
 intro xs;induction xs with
 |nil=>intro vs h;exact h
 |cons x r aN=>
  intro vs h;simp only[hz] at h;simp only[ev];cases j:bB E.l x with
  |none=>rw[j] at h;cases h
  |some v=>
   rw[j] at h;simp only at h;rw[cX al H j];simp only;cases ap:hz E.l r with
   |none=>rw[ap] at h;cases h
   |some ws=>rw[ap] at h;simp only at h;rw[aN ap];exact h
theorem Exec.call{n:Nat}{ds:dL}{l:List (Nat×Value)}{d:Nat}{c:Call}{x:Operand}{f:FuncId}{first cap:Array Value}{args ca:List Value}{ck e8:aU}{er:Value->aU->an->Prop}
 (ae:o.op=.call c)(ax:o.dst=some d)(aE:Nat.blt d n=true)(aF:c.callee=.value x)(j:bB l x=some (.func (.func f) first cap))(aK:hz l c.args.toList=some args)(has:(first.toList++args)++cap.toList=ca)
 (ao:(ck++e8).Perm m)(gH:Cj ck)(cg:Fn K f ca ck J er)(h:∀v m' ai,J.le ai->er v m' ai->dS ⟨n,ds,(d,v)::l⟩ (m'++e8) ai):Exec K B o ⟨n,ds,l⟩ m J dS:=by
 intro S H al au;obtain⟨v,H',ai,m',a8,a5,bI⟩:=cg H (au.enter ao gH);obtain⟨cL,gy⟩:=au.leave ao a5;obtain⟨aY,s1,s2⟩:=al.put (dst:=some d) aE v;refine⟨hB,nc f ca H (.returned v,H'),aY,H',_,m'++e8,ai,?_,s2,cL,h v m' ai gy bI⟩;have he:cc K.P (hs K.Q (nc f ca H (.returned v,H'))) (gl K.Q hB (nc f ca H (.returned v,H'))).az S H o=some (.val v H'):=by
  unfold cc eh;simp only[ae];show js K.P _ c=_;unfold js;rw[aF];show ms K.P _ _ S.T H c=_;unfold ms;rw[mq al H aK];simp only[aF];rw[cX al H j];simp only
  show(match ji K.P H (.func f) (first.toList++args) cap.toList with|some (f,ca)=>ng (hs K.Q _ f ca H)|none=>none)=_
  unfold ji;simp only
  rw[has,AT a8 (by unfold nc;rw[bs ⟨rfl,rfl,rfl⟩])];rfl
 rw[he,ax];show mV H' (S.put (some d) v)=_;rw[s1];rfl
def rO:List Value->Nat->List (Nat×Value)
 |[],_=>[]
 |v::l,i=>(i,v)::rO l (Nat.succ i)
theorem IE:∀{vs:List Value} {i t:Nat} {v:Value},look (rO vs i) t=some v->i<=t/\vs[t -i]?=some v:=by
 intro vs;induction vs with
 |nil=>intro i t v h;cases h
 |cons x l aN=>
  intro i t v h;have aP:(bif Nat.beq t i then some x else look (rO l (Nat.succ i)) t)=some v:=h;cases af:Nat.beq t i with
  |true=>
   rw[af,bH] at aP;obtain rfl:=dB af;injection aP with bC
   exact⟨c9 _,by simp[bC]⟩
  |false=>
   rw[af,cZ] at aP;obtain⟨U,ab⟩:=aN aP;refine⟨by omega,?_⟩;rw[show t -i=(t -Nat.succ i)+1 by omega];exact ab
theorem IG:∀{vs:List Value} {i n:Nat} {T:aL Value},T.has n->i+vs.length<=n->∃dr,ki vs i T=some dr/\dr.has n/\∀t,dr.get t=if i<=t/\t<i+vs.length then vs[t -i]? else T.get t:=by
 intro vs;induction vs with
 |nil=>intro i n T h _;exact⟨T,rfl,h,fun t=>by rw[a1 (by rw[At];omega)]⟩
 |cons x l aN=>
  intro i n T h aw;rw[kY] at aw;obtain⟨y,aC⟩:=h i (by omega);obtain⟨rL,cw⟩:=aL.zP (a:=x) aC;have U:rL.has n:=fun t aG=>by
   rw[aL.get_put cw];split
   ·exact⟨_,rfl⟩
   ·exact h t aG
  obtain⟨dr,aA,aW,cr⟩:=aN (i:=i+1) U (by omega);refine⟨dr,?_,aW,fun t=>?_⟩
  ·simp only[ki,aL.set];rw[cw];exact aA
  ·rw[cr t];by_cases q:i+1<=t/\t<i+1+l.length
   ·rw[bs q,bs (by rw[kY];omega),show t -i=(t -(i+1))+1 by omega];rfl
   ·rw[a1 q,aL.get_put cw];by_cases aP:t=i
    ·subst aP;rw[bs rfl,bs (by rw[kY];omega)];simp
    ·rw[a1 aP,a1 (by rw[kY];omega)]
theorem aL.Sh{α:Type}(a:α):∀(d n:Nat),n+1<2 ^ d->(aL.full a d).get n=some a:=by
 intro d;induction d with
 |zero=>intro n h;simp at h
 |succ d aN=>
  intro n h;show(aL.node (some a) (aL.full a d) (aL.full a d)).get n=some a;cases n with
  |zero=>rfl
  |succ n=>
   rw[aL.mw];have:n / 2+1<2 ^ d:=by rw[m4] at h;omega
   split<;>exact aN _ this
theorem IP(n:Nat):(Cre.blank n).has n:=by
 intro t aG;refine⟨undef,aL.Sh _ _ _ ?_⟩;unfold Eb;have U:Nat.succ n<2 ^ (Nat.log2 (Nat.succ n)+1):=Nat.lt_log2_self;show t+1<2 ^ (Nat.log2 (Nat.succ n)+1);omega
inductive lF (P:Program) (E:bK) (m:aU) (J:an):List ResultVar->List Value->Prop
 |nil:lF P E m J [] []
 |tmp {t:Tmp} {v:Value} {rs:List ResultVar} {vs:List Value}:look E.l t=some v->lF P E m J rs vs->lF P E m J (.tmp t::rs) (v::vs)
 |cell {t:Tmp} {dq:TypeId} {a:Nat} {cells:List Value} {e:TypeId} {v:Value} {rs:List ResultVar} {vs:List Value}:look E.l t=some (.pointer (some ⟨a,0,none⟩))->(a,db.row cells e)∈m->jj P dq cells 0=some v->lF P E m J rs vs->lF P E m J (.cell t dq::rs) (v::vs)
theorem lF.vw{P:Program}{g0:Nat}{S:aO}{H:ah}(al:Sat E S)(au:Inv g0 B J m H){rs:List ResultVar}{vs:List Value}(h:lF P E m J rs vs):lL P S.T H rs=some vs:=by
 induction h with
 |nil=>rfl
 |tmp U _ aN=>simp only[lL];rw[al.get _ _ U];simp only;rw[aN]
 |cell U ab aV _ aN=>
  simp only[lL];rw[al.get _ _ U];simp only;have ar:=(au.own _ _ ab).1;have ar:H.mem.get _=some (.row _ _ false 0 0 false):=ar;unfold tA vy;simp only[ar,aV];rw[aN]
theorem Fn.cH{f:FuncId}{fn:Func}{c:Code}{args:List Value}{ck:aU}{er:Value->aU->an->Prop}(ay:K.eo.get f=some fn)(af:fn.body=some c)(aw:Nat.ble args.length fn.ntmps=true)
 (h:∀H,ad K (iZ ck H J) c ⟨fn.ntmps,A3,rO args 0⟩ ck J fun e E m ai=>(e=.normal\/e=.ret)/\E.ds.ds=[]/\∃vs m',lF K.P E m ai fn.results.toList vs/\m'.Sublist m/\er (pQ vs) m' ai):Fn K f args ck J er:=by
 intro H au;obtain⟨T,bP,bS,cE⟩:=IG (vs:=args) (i:=0) (n:=fn.ntmps) (IP fn.ntmps) (by have:=fV aw;omega);have al:Sat ⟨fn.ntmps,A3,rO args 0⟩ ⟨T,fn.ntmps,[],false,.run,none⟩:=by
  refine⟨rfl,rfl,rfl,rfl,rfl,bS,fun t v q=>?_⟩;obtain⟨_,aP⟩:=IE q;show T.get t=some v;have:t<args.length:=by
   rcases gX t args.length with r|r
   ·exact r
   ·rw[s7 (by omega)] at aP;cases aP
  rw[cE,bs (by omega)];exact aP
 obtain⟨e,aB,H',cy,cM,ai,a8,a5,bI,cL,gy,vs,m',kq,ss,st⟩:=h H _ H al au;refine⟨pQ vs,H',ai,m',?_,bI.sub ss,st⟩;have qE:aB.ds=[]:=a5.ds.trans gy;refine iA.run K.dN ay af bP a8 (a7:=aB.a7) ?_;have ap:=kq.vw a5 bI;rcases cL with rfl|rfl
 ·show na aB.a7 (gF K.P _ fn aB.T aB.ds .returning H')=_;rw[qE];unfold gF;rw[ap];rfl
 ·show na aB.a7 (gF K.P _ fn aB.T aB.ds .returning H')=_;rw[qE];unfold gF;rw[ap];rfl
end
end
end Go.Opn

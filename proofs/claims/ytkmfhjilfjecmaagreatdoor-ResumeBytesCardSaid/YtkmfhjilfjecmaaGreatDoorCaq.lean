/- A part of the proof of ResumeBytes. -/
import Derived.Test.YtkmfhjilfjecmaaGreatDoorCap
set_option linter.unusedVariables false
set_option linter.unusedSimpArgs false
namespace Go.Opn
noncomputable section
open Go.Cre Go.RowKit
inductive yF {P:Program} (Q:dD P) (ops:List Oper):List Oper->bh->aA->dJ->Prop
 |nil (S:bh) (H:aA):yF Q ops [] S H (.ok S H)
 |cons (fu:Code->bh->aA->Option (Exit×bh×aA)) (aU:eH) {o:Oper} {rest:List Oper} {S bn:bh} {H H1:aA} {r:dJ}:one P (hM Q aU) (gH Q fu aU).aR ops S H o=some (.ok bn H1)->yF Q ops rest bn H1 r->yF Q ops (o::rest) S H r
 |iO (fu:Code->bh->aA->Option (Exit×bh×aA)) (aU:eH) {o:Oper} {rest:List Oper} {S bn:bh} {H H1:aA} {chain:List PanicEntry}:one P (hM Q aU) (gH Q fu aU).aR ops S H o=some (.iO chain bn H1)->yF Q ops (o::rest) S H (.iO chain bn H1)
theorem yF.sound{P:Program}{Q:dD P}{B:Nat->Prop}{w0:World}(fU:Q.ok B w0){ops:Array Oper}{fr:Frame}{k:List Item}{l:List Oper}{S:bh}{H:aA}{dA:dJ}(h:yF Q ops.toList l S H dA):∀(i:Nat) (μ:bY) (w:World) (tmps:Array Value) (ds:List Deferred) (cs:List Frame),
 ops.toList.drop i=l->b9 P B w0 μ H w->iS μ S fr tmps ds cs->
 k5 P B w0 μ H S fr cs (lone (ck fr tmps ds (.inRegion ops (List.range' i l.length)::k)) cs w) k dA:=by
 induction h with
 |nil S H=>
  intro i μ w tmps ds cs _ h aD;exact⟨μ,w,tmps,ds,cs,h,Step.refl _ _,aD,kZ.refl _ _ aD.Bn,rfl,rfl,.one RH⟩
 |@cons fu aU o rest S bn H H1 r o5 _ aI=>
  intro i μ w tmps ds cs aV h aD;have ar:ops[i]?=some o:=by
   have:(ops.toList.drop i)[0]?=some o:=by rw[aV];rfl
   simpa using this
  have xD:ops.toList.drop (i+1)=rest:=by
   have:(ops.toList.drop i).drop 1=rest:=by rw[aV];rfl
   rw[yz] at this;exact this
  show k5 P B w0 μ H S fr cs (lone (ck fr tmps ds (.inRegion ops (i::List.range' (i+1) rest.length)::k)) cs w) k r;have aa:=EV (k:=k) (rest:=List.range' (i+1) rest.length) (Nv aU fU) (MH (E:=gH Q fu aU) (Du fu fU)) h aD ar o5;exact aa.bind fun f' eK Aa vr gl g1 _ g3 _ _ _=>aI (i+1) f' eK Aa vr gl xD g1 g3
 |@iO fu aU o rest S bn H H1 chain o5=>
  intro i μ w tmps ds cs aV h aD;have ar:ops[i]?=some o:=by
   have:(ops.toList.drop i)[0]?=some o:=by rw[aV];rfl
   simpa using this
  show k5 P B w0 μ H S fr cs (lone (ck fr tmps ds (.inRegion ops (i::List.range' (i+1) rest.length)::k)) cs w) k _;exact EV (k:=k) (rest:=List.range' (i+1) rest.length) (Nv aU fU) (MH (E:=gH Q fu aU) (Du fu fU)) h aD ar o5
def XI (S:bh)(H:aA):Option (List PanicEntry)->dJ
 |none=>.ok S H
 |some c=>.iO c S H
def N3:Option (List PanicEntry)->Exit
 |none=>.normal
 |some c=>.panic c
theorem eg.ops{P:Program}{Q:dD P}{id:Nat}{ops:Array Oper}{S aS:bh}{H H':aA}{p:Option (List PanicEntry)}(h:yF Q ops.toList ops.toList S H (XI aS H' p)):eg Q (.region id ops false) S H (N3 p) aS H':=by
 refine .mk fun B w0 fU μ w fr tmps ds cs k it pz fJ hs=>?_;obtain rfl:=hs.plain (fun _ q=>by cases q);have:=h.sound (k:=k) (fr:=fr) fU 0 μ w tmps ds cs (by simp) pz fJ;have aL:List.range' 0 ops.toList.length=List.range ops.size:=by rw[aa8];simp
 rw[aL] at this;exact(Rn (by cases p<;>rfl) this).steps (.one ZF)
structure eE where
 P:Program
 fq:bg Func
 dt:to P fq
 Q:dD P
 g0:Nat
abbrev aN:=List (Nat×cC)
section
variable {K:eE}{B:dV}
def W(K:eE)(B:dV)(ops rest:List Oper)(E:cf)(m:aN)(J:aH)(bH:Option (List PanicEntry)->cf->aN->aH->Prop):Prop:=
 ∀S H,Sat E S->Inv K.g0 B J m H->∃p aS H' E' m' af,yF K.Q ops rest S H (XI aS H' p)/\Sat E' aS/\Inv K.g0 B af m' H'/\bH p E' m' af
def ab(K:eE)(B:dV)(c:Code)(E:cf)(m:aN)(J:aH)(bH:Exit->cf->aN->aH->Prop):Prop:=
 ∀S H,Sat E S->Inv K.g0 B J m H->∃e aS H' E' m' af,eg K.Q c S H e aS H'/\Sat E' aS/\Inv K.g0 B af m' H'/\bH e E' m' af
def Exec(K:eE)(B:dV)(o:Oper)(E:cf)(m:aN)(J:aH)(ey:cf->aN->aH->Prop):Prop:=
 ∀S H,Sat E S->Inv K.g0 B J m H->∃fu aU aS H' E' m' af,pP S H o.dst (cJ K.P (hM K.Q aU) (gH K.Q fu aU).aR S H o)=some (.ok aS H')/\Sat E' aS/\Inv K.g0 B af m' H'/\ey E' m' af
variable {ops rest:List Oper}{E:cf}{m m':aN}{J:aH}{o:Oper}{bH:Option (List PanicEntry)->cf->aN->aH->Prop}{ey:cf->aN->aH->Prop}{cX avu:Exit->cf->aN->aH->Prop}
theorem W.nil(h:bH none E m J):W K B ops [] E m J bH:=fun S H ax aJ=>⟨none,S,H,E,m,J,.nil S H,ax,aJ,h⟩
theorem W.step(aq:o.guard=none)(h:Exec K B o E m J fun E m J=>W K B ops rest E m J bH):W K B ops (o::rest) E m J bH:=by
 intro S H ax aJ;obtain⟨fu,aU,bn,H1,l2,m1,dO,aa,ae,aF,bo⟩:=h S H ax aJ;obtain⟨p,aS,H',E',m',af,bl,bp,bQ,cU⟩:=bo bn H1 ae aF;refine⟨p,aS,H',E',m',af,.cons fu aU ?_ bl,bp,bQ,cU⟩;unfold one fD;rw[aq];exact aa
def mY (ops:List Oper)(o:Oper):Option (Nat×Bool):=match o.guard with
 |some (j,want)=>(match nth ops j with|some p=>(match p.dst with|some d=>some (d,want)|none=>none)|none=>none)
 |none=>none
theorem KB{S:bh}{d:Nat}{want b:Bool}(aq:mY ops o=some (d,want))(ap:S.T.get d=some (.bool b)):fD ops S.T o=some (b==want):=by
 unfold mY at aq;unfold fD;cases q:o.guard with
 |none=>rw[q] at aq;cases aq
 |some x=>
  obtain⟨j,w⟩:=x;rw[q] at aq;show vF ops S.T (j,w)=_;unfold vF;simp only at aq ⊢;cases aP:nth ops j with
  |none=>rw[aP] at aq;cases aq
  |some p=>
   rw[aP] at aq;simp only at aq ⊢;cases aV:p.dst with
   |none=>rw[aV] at aq;cases aq
   |some hB=>
    rw[aV] at aq;simp only[cp,dB] at aq;obtain⟨rfl,rfl⟩:=aq;simp only[ap]
theorem W.split{n:Nat}{ds:e7}{l:List (Nat×Value)}{d:Nat}{b:Bool}(ap:look l d=some (.bool b))(aa:b=true->W K B ops rest ⟨n,ds,(d,.bool true)::l⟩ m J bH)(bw:b=false->W K B ops rest ⟨n,ds,(d,.bool false)::l⟩ m J bH):W K B ops rest ⟨n,ds,l⟩ m J bH:=by
 intro S H ax aJ;have key:∀c:Bool,b=c->Sat ⟨n,ds,(d,.bool c)::l⟩ S:=fun c e=>by
  subst e;refine⟨ax.n,ax.ds,ax.b5,ax.bF,ax.cK,ax.has,fun t v q=>?_⟩;have a7:(bif Nat.beq t d then some (Value.bool b) else look l t)=some v:=q;cases c8:Nat.beq t d with
  |true=>rw[c8,b7] at a7;obtain rfl:=eO c8;rw[<-a7];exact ax.get _ _ ap
  |false=>rw[c8,dT] at a7;exact ax.get t v a7
 cases b with
 |true=>exact aa rfl S H (key true rfl) aJ
 |false=>exact bw rfl S H (key false rfl) aJ
theorem W.sH{n:Nat}{ds:e7}{l:List (Nat×Value)}{d:Nat}{want b:Bool}(aq:mY ops o=some (d,want))(ap:look l d=some (.bool b))(hw:(b==want)=true)(h:Exec K B o ⟨n,ds,l⟩ m J fun E m J=>W K B ops rest E m J bH):W K B ops (o::rest) ⟨n,ds,l⟩ m J bH:=by
 intro S H ax aJ;have dd:=KB aq (ax.get d _ ap);obtain⟨fu,aU,bn,H1,l2,m1,dO,bb,a7,b8,fl⟩:=h S H ax aJ;obtain⟨p,aS,H',E',m',af,bl,bp,bQ,cU⟩:=fl bn H1 a7 b8;refine⟨p,aS,H',E',m',af,.cons fu aU ?_ bl,bp,bQ,cU⟩;unfold one;rw[dd,hw];exact bb
theorem W.oU{n:Nat}{ds:e7}{l:List (Nat×Value)}{d e:Nat}{want b:Bool}(aq:mY ops o=some (d,want))(ap:look l d=some (.bool b))(hw:(b==want)=false)(aV:o.dst=some e)(aP:Nat.blt e n=true)(h:W K B ops rest ⟨n,ds,(e,undef)::l⟩ m J bH):W K B ops (o::rest) ⟨n,ds,l⟩ m J bH:=by
 intro S H ax aJ;have dd:=KB aq (ax.get d _ ap);obtain⟨bn,s1,s2⟩:=ax.put (dst:=some e) aP undef;obtain⟨p,aS,H',E',m',af,bl,bp,bQ,cU⟩:=h bn H s2 aJ;refine⟨p,aS,H',E',m',af,.cons gW lq ?_ bl,bp,bQ,cU⟩;unfold one;rw[dd,hw];show pg H (S.put o.dst undef)=_;rw[aV,s1];rfl
def hq(K:eE)(B:dV)(o:Oper)(E:cf)(m:aN)(J:aH)(ey:cf->aN->aH->Prop):Prop:=
 ∀S H,Sat E S->Inv K.g0 B J m H->∃aS H' E' m' af,(∀call aR,pP S H o.dst (cJ K.P call aR S H o)=some (.ok aS H'))/\Sat E' aS/\Inv K.g0 B af m' H'/\ey E' m' af
theorem Exec.of(h:hq K B o E m J ey):Exec K B o E m J ey:=fun S H ax aJ=>by
 obtain⟨aS,H',E',m',af,aa,ae,aF,bo⟩:=h S H ax aJ;exact⟨gW,lq,aS,H',E',m',af,aa _ _,ae,aF,bo⟩
theorem Exec.val{n:Nat}{ds:e7}{l:List (Nat×Value)}{d:Nat}{v:Value}(aV:o.dst=some d)(aP:Nat.blt d n=true)(d':∀call aR S H,Sat ⟨n,ds,l⟩ S->Inv K.g0 B J m H->cJ K.P call aR S H o=some (.val v H))(h:ey ⟨n,ds,(d,v)::l⟩ m J):Exec K B o ⟨n,ds,l⟩ m J ey:=by
 intro S H ax aJ;obtain⟨bn,s1,s2⟩:=ax.put (dst:=some d) aP v;refine⟨gW,lq,bn,H,_,m,J,?_,s2,aJ,h⟩;rw[d' _ _ S H ax aJ,aV];show pg H (S.put (some d) v)=_;rw[s1];rfl
theorem hq.wD{n:Nat}{ds:e7}{l:List (Nat×Value)}{d:Nat}(aV:o.dst=some d)(aP:Nat.blt d n=true)(d':∀S H,Sat ⟨n,ds,l⟩ S->Inv K.g0 B J m H->∃v H' m' af,(∀call aR,cJ K.P call aR S H o=some (.val v H'))/\Inv K.g0 B af m' H'/\ey ⟨n,ds,(d,v)::l⟩ m' af):hq K B o ⟨n,ds,l⟩ m J ey:=by
 intro S H ax aJ;obtain⟨v,H',m',af,bl,bp,bQ⟩:=d' S H ax aJ;obtain⟨bn,s1,s2⟩:=ax.put (dst:=some d) aP v;refine⟨bn,H',_,m',af,fun call aR=>?_,s2,bp,bQ⟩;rw[bl,aV];show pg H' (S.put (some d) v)=_;rw[s1];rfl
theorem hq.skip{E:cf}(aV:o.dst=none)(d':∀S H,Sat E S->Inv K.g0 B J m H->∃H' m' af,(∀call aR,cJ K.P call aR S H o=some (.skip H'))/\Inv K.g0 B af m' H'/\ey E m' af):hq K B o E m J ey:=by
 intro S H ax aJ;obtain⟨H',m',af,bl,bp,bQ⟩:=d' S H ax aJ;refine⟨S,H',E,m',af,fun call aR=>?_,ax,bp,bQ⟩;rw[bl,aV];rfl
theorem ab.region{id:Nat}{a:Array Oper}(h:W K B a.toList a.toList E m J fun p E m J=>cX (N3 p) E m J):ab K B (.region id a false) E m J cX:=by
 intro S H ax aJ;obtain⟨p,aS,H',E',m',af,bl,bp,bQ,cU⟩:=h S H ax aJ;exact⟨N3 p,aS,H',E',m',af,eg.ops bl,bp,bQ,cU⟩
theorem ab.skip(h:cX .normal E m J):ab K B .skip E m J cX:=fun S H ax aJ=>⟨_,S,H,E,m,J,eg.skip K.dt.rU,ax,aJ,h⟩
theorem ab.ret(h:cX .ret E m J):ab K B .ret E m J cX:=fun S H ax aJ=>⟨_,S,H,E,m,J,eg.ret K.dt.rU,ax,aJ,h⟩
theorem ab.exit{id:Nat}(h:cX (.exit id) E m J):ab K B (.exit id) E m J cX:=fun S H ax aJ=>⟨_,S,H,E,m,J,eg.exit K.dt.rU,ax,aJ,h⟩
abbrev an4(K:eE)(B:dV)(b:Code)(cX:Exit->cf->aN->aH->Prop):Exit->cf->aN->aH->Prop:=fun e E m J=>match e with
 |.normal=>ab K B b E m J cX
 |e=>cX e E m J
theorem ab.seq{a b:Code}(h:ab K B a E m J (an4 K B b cX)):ab K B (.seq a b) E m J cX:=by
 intro S H ax aJ;obtain⟨e,bn,H1,l2,m1,dO,aa,ae,aF,bo⟩:=h S H ax aJ;cases e with
 |normal=>
  have bo:ab K B b l2 m1 dO cX:=bo;obtain⟨bz,aS,H',E',m',af,bl,bp,bQ,cU⟩:=bo bn H1 ae aF;exact⟨bz,aS,H',E',m',af,eg.seq aa bl,bp,bQ,cU⟩
 |exit i=>exact⟨_,bn,H1,l2,m1,dO,eg.I4 aa (fun q=>by cases q),ae,aF,bo⟩
 |goto i=>exact⟨_,bn,H1,l2,m1,dO,eg.I4 aa (fun q=>by cases q),ae,aF,bo⟩
 |ret=>exact⟨_,bn,H1,l2,m1,dO,eg.I4 aa (fun q=>by cases q),ae,aF,bo⟩
 |panic c=>exact⟨_,bn,H1,l2,m1,dO,eg.I4 aa (fun q=>by cases q),ae,aF,bo⟩
 |outgrown=>exact⟨_,bn,H1,l2,m1,dO,eg.I4 aa (fun q=>by cases q),ae,aF,bo⟩
abbrev abT(id:Nat)(cX:Exit->cf->aN->aH->Prop):Exit->cf->aN->aH->Prop:=fun e E m J=>match e with
 |.exit j=>if j=id then cX .normal E m J else cX (.exit j) E m J
 |e=>cX e E m J
theorem ab.block{id:Nat}{c:Code}(h:ab K B c E m J (abT id cX)):ab K B (.block id c) E m J cX:=by
 intro S H ax aJ;obtain⟨e,bn,H1,l2,m1,dO,aa,ae,aF,bo⟩:=h S H ax aJ;refine⟨_,bn,H1,l2,m1,dO,eg.block K.dt.rU aa,ae,aF,?_⟩;cases e with
 |exit j=>
  have bo:if j=id then cX .normal l2 m1 dO else cX (.exit j) l2 m1 dO:=bo;show cX (if j=id then .normal else .exit j) l2 m1 dO;split at bo
  ·rename_i q;rw[aE q];exact bo
  ·rename_i q;rw[an q];exact bo
 |_=>exact bo
def b6 (l:List (Nat×Value)):Operand->Option Value
 |.tmp t=>look l t
 |.const v=>Q6 v
 |.global _=>none
 |.func f=>some (.func (.func f) #[] #[])
theorem dy{E:cf}{S:bh}(ax:Sat E S)(H:aA){x:Operand}{v:Value}(h:b6 E.l x=some v):bj S.T H x=some v:=by
 cases x with
 |tmp t=>exact ax.get t v h
 |const c=>exact h
 |global g=>cases h
 |func f=>exact h
theorem ab.cond{n:Nat}{ds:e7}{l:List (Nat×Value)}{x:Operand}{a b:Code}{t:Bool}(U:b6 l x=some (.bool t))(aa:t=true->ab K B a ⟨n,ds,l⟩ m J cX)(bw:t=false->ab K B b ⟨n,ds,l⟩ m J cX):ab K B (.cond x a b) ⟨n,ds,l⟩ m J cX:=by
 intro S H ax aJ;cases t with
 |true=>
  obtain⟨e,aS,H',E',m',af,bl,bp,bQ,cU⟩:=aa rfl S H ax aJ;exact⟨e,aS,H',E',m',af,eg.cond K.dt.rU (dy ax H U) bl,bp,bQ,cU⟩
 |false=>
  obtain⟨e,aS,H',E',m',af,bl,bp,bQ,cU⟩:=bw rfl S H ax aJ;exact⟨e,aS,H',E',m',af,eg.cond K.dt.rU (dy ax H U) bl,bp,bQ,cU⟩
theorem ab.Kk{n:Nat}{ds:e7}{l:List (Nat×Value)}{x:Operand}{a b:Code}(U:b6 l x=some (.bool true))(h:ab K B a ⟨n,ds,l⟩ m J cX):ab K B (.cond x a b) ⟨n,ds,l⟩ m J cX:=ab.cond U (fun _=>h) (fun q=>by cases q)
theorem ab.w'{n:Nat}{ds:e7}{l:List (Nat×Value)}{x:Operand}{a b:Code}(U:b6 l x=some (.bool false))(h:ab K B b ⟨n,ds,l⟩ m J cX):ab K B (.cond x a b) ⟨n,ds,l⟩ m J cX:=ab.cond U (fun q=>by cases q) (fun _=>h)
def pY(l:List (Nat×Value)):List (Nat×Value)->Prop
 |[]=>True
 |(t,v)::l'=>look l t=some v/\pY l l'
theorem pY.look{l:List (Nat×Value)}:∀{l':List (Nat×Value)},pY l l'->∀t v,look l' t=some v->look l t=some v:=by
 intro l';induction l' with
 |nil=>intro _ t v q;cases q
 |cons x l' aI=>
  obtain⟨u,w⟩:=x;intro h t v q;have a7:(bif Nat.beq t u then some w else Opn.look l' t)=some v:=q;cases ap:Nat.beq t u with
  |true=>
   rw[ap,b7] at a7;obtain rfl:=eO ap;injection a7 with b8;rw[<-b8];exact h.1
  |false=>rw[ap,dT] at a7;exact aI h.2 t v a7
theorem Sat.sub{n:Nat}{ds:e7}{l l':List (Nat×Value)}{S:bh}(h:Sat ⟨n,ds,l⟩ S)(av:pY l l'):Sat ⟨n,ds,l'⟩ S:=Sat.c0 (E:=⟨n,ds,l⟩) h av.look
theorem ab.c0{c:Code}{n:Nat}{ds:e7}{l l':List (Nat×Value)}(av:pY l l')(hm:m'.Sublist m)(h:ab K B c ⟨n,ds,l'⟩ m' J cX):ab K B c ⟨n,ds,l⟩ m J cX:=
 fun S H ax aJ=>h S H (ax.sub av) (aJ.sub hm)
theorem ab.loop{α:Type}{c:Code}{n:Nat}{ds:e7}(env:α->List (Nat×Value))(mem:α->aN)(fw:α->aH)(inv:α->Prop)(sY:α->Nat)
 (bA:∀s,inv s->ab K B c ⟨n,ds,env s⟩ (mem s) (fw s) fun e E m J=>match e with
  |.normal=>∃c4 l,inv c4/\sY c4<sY s/\E=⟨n,ds,l⟩/\pY l (env c4)/\(mem c4).Sublist m/\J=fw c4
  |e=>cX e E m J)(s:α)(hs:inv s):ab K B (.loop c) ⟨n,ds,env s⟩ (mem s) (fw s) cX:=by
 have key:∀(k:Nat) (s:α),sY s=k->inv s->ab K B (.loop c) ⟨n,ds,env s⟩ (mem s) (fw s) cX:=by
  intro k;induction k using Nat.strongRecOn with
  |_ k aI=>
   intro s aO hs S H ax aJ;obtain⟨e,bn,H1,l2,m1,dO,aa,ae,aF,bo⟩:=bA s hs S H ax aJ;cases e with
   |normal=>
    obtain⟨c4,l,g1,g2,rfl,g4,g5,rfl⟩:=bo;obtain⟨bz,aS,H',E',m',af,bl,bp,bQ,cU⟩:=aI (sY c4) (by omega) c4 rfl g1 bn H1 (ae.sub g4) (aF.sub g5);exact⟨bz,aS,H',E',m',af,eg.ak0 aa bl,bp,bQ,cU⟩
   |exit i=>exact⟨_,bn,H1,l2,m1,dO,eg.Ip aa (fun q=>by cases q),ae,aF,bo⟩
   |goto i=>exact⟨_,bn,H1,l2,m1,dO,eg.Ip aa (fun q=>by cases q),ae,aF,bo⟩
   |ret=>exact⟨_,bn,H1,l2,m1,dO,eg.Ip aa (fun q=>by cases q),ae,aF,bo⟩
   |panic c=>exact⟨_,bn,H1,l2,m1,dO,eg.Ip aa (fun q=>by cases q),ae,aF,bo⟩
   |outgrown=>exact⟨_,bn,H1,l2,m1,dO,eg.Ip aa (fun q=>by cases q),ae,aF,bo⟩
 exact key _ s rfl hs
theorem ab.mJ{c:Code}{a:Nat}{b:cC}{x:List Value×TypeId}(U:b.rowOf=some x)(h:J.le (J.add a x)->ab K B c E m (J.add a x) cX):ab K B c E ((a,b)::m) J cX:=by
 intro S H ax aJ;obtain⟨bl,bp⟩:=aJ.mJ U;exact h bp S H ax bl
def zy(m:aN)(a:Nat):Prop:=a∈ids m
def lo(bf:aN)(H:aA)(J:aH):dV:=⟨zy bf,fun a=>a∈bf.map Prod.fst,H,J⟩
def Fn(K:eE)(f:FuncId)(args:List Value)(bf:aN)(J:aH)(eP:Value->aN->aH->Prop):Prop:=
 ∀H,Inv K.g0 (lo bf H J) J bf H->∃v H' af m',ly K.Q f args H (.returned v) H'/\Inv K.g0 (lo bf H J) af m' H'/\eP v m' af
abbrev ER(_:aN):Prop:=True
theorem Inv.enter{g0:Nat}{bf bM:aN}{H:aA}(h:Inv g0 B J m H)(au:(bf++bM).Perm m)(fB:ER bf):Inv g0 (lo bf H J) J bf H:=by
 have kz:∀x,x∈bf->x∈m:=fun x q=>au.subset (nX _ q);have dM:=(Li au).nodup_iff.2 h.gd;rw[Lh,JJ] at dM;refine⟨h.wf,h.bW,cW _,cW _,fun _ _ _=>rfl,fun _ _=>rfl,h.fw,aH.le.refl _,fun a x bb a7=>?_,fun a b q=>?_,fun a b q x U=>?_,dM.1⟩
 ·have bb:J a=none:=bb;rw[bb] at a7;cases a7
 ·obtain⟨bl,bp,bQ,cU⟩:=h.own a b (kz _ q);refine⟨?_,.inr (xW q),bQ,cU⟩;cases b with
  |row=>exact bl
  |map=>exact bl
  |loop=>exact bl
  |iW=>exact bl
  |opn c e r z=>
   obtain⟨f,_,f2,f3⟩:=bl;exact⟨f,.inr ⟨a,r,_,_,_,_,f3,f2,uZ.2 ⟨_,q,rfl⟩⟩,f2,f3⟩
  |h6 c e=>
   obtain⟨f,_,f2,f3⟩:=bl;exact⟨f,.inr ⟨a,[],_,_,_,_,f3,f2,uZ.2 ⟨_,q,rfl⟩⟩,f2,f3⟩
 ·obtain⟨bl,bp,bQ⟩:=h.opn a b (kz _ q) x U;exact⟨bl,.inr (BR.2 ⟨_,q,.inr U⟩),bQ⟩
theorem Inv.leave{g0:Nat}{bf bM:aN}{H H':aA}{af:aH}(h:Inv g0 B J m H)(au:(bf++bM).Perm m)(aO:Inv g0 (lo bf H J) af m' H'):Inv g0 B af (m'++bM) H'/\J.le af:=by
 have dM:=(Li au).nodup_iff.2 h.gd;rw[Lh,JJ] at dM;have Po:∀a,a∈ids bf\/a∈ids bM->a∈ids m:=fun a q=>(Li au).subset (by rw[Lh];exact ko.2 q);have K4:∀a,zy bf a->B.H0.ak<=a\/B.X a:=fun a q=>h.Yl (Po a (.inl q));have xO:∀a,a∈ids bM->a<H.ak/\¬zy bf a:=fun a q=>⟨h.Lw (Po a (.inr q)),fun r=>dM.2.2 _ r _ q rfl⟩;have KX:∀a,a<H.ak->¬zy bf a->H'.mem.get a=H.mem.get a:=aO.eC;have e4:H.ak<=H'.ak:=aO.ak;have PK:H.cn<=H'.cn:=aO.cn;have hle:J.le af:=aO.le;have mc:∀a x,J a=none->af a=some x->H.ak<=a\/zy bf a:=aO.fresh;have pB:∀f,dV.zb (lo bf H J) f->B.zb f:=fun f q=>by
  rcases q with q|⟨a,r,c,e,z,s,bb,a7,b8⟩
  ·exact .inl (p7 h.cn q)
  ·obtain⟨⟨bV,b⟩,kP,mb⟩:=uZ.1 b8;have mb:bV=a:=mb;subst mb;have k:=(h.own bV b (au.subset (nX _ kP))).1;have a7:H.mem.get bV=some (.row c e true f z s):=a7;cases b with
   |row=>have k:=a7.symm.trans k;cases k
   |map=>have k:=a7.symm.trans k;cases k
   |loop=>have k:=a7.symm.trans k;cases k
   |iW=>have k:=a7.symm.trans k;cases k
   |opn cd bz dx hS=>
    obtain⟨cP,bl,bp,bQ⟩:=k;have k:=a7.symm.trans bp;injection k with k;injection k with _ _ _ k
    rw[k];exact bl
   |h6 cd bz=>
    obtain⟨cP,bl,bp,bQ⟩:=k;have k:=a7.symm.trans bp;injection k with k;injection k with _ _ _ k
    rw[k];exact bl
 have Vw:∀a,a∈ids bM->af a=none:=fun a q=>by
  cases a':af a with
  |none=>rfl
  |some x=>
   rcases mc a x (h.aly (Po a (.inr q))) a' with r|r
   ·have:=(xO a q).1;omega
   ·exact absurd r (xO a q).2
 refine⟨⟨aO.wf,aO.bW,p7 h.ak e4,p7 h.cn PK,fun a a1 hC=>?_,fun f aD=>?_,aO.fw,h.le.trans hle,fun a x bb a7=>?_,fun a b q=>?_,fun a b q x U=>?_,?_⟩,hle⟩
 ·rw[KX a (yD a1 h.ak),h.eC a a1 hC];intro r;rcases K4 a r with q|q
  ·omega
  ·exact hC q
 ·rw[show H'.bI.get f=H.bI.get f from aO.nQ f (fun q=>aD (pB f q))];exact h.nQ f aD
 ·cases a':J a with
  |none=>
   rcases mc a x a' a7 with r|r
   ·exact .inl (p7 h.ak r)
   ·exact K4 a r
  |some y=>exact h.fresh a y bb a'
 ·rcases ko.1 q with q|q
  ·obtain⟨bl,bp,bQ,cU⟩:=aO.own a b q;refine⟨?_,?_,bQ,cU⟩
   ·cases b with
    |row=>exact bl
    |map=>exact bl
    |loop=>exact bl
    |iW=>exact bl
    |opn c e r z=>obtain⟨f,f1,f2,f3⟩:=bl;exact⟨f,pB f f1,f2,f3⟩
    |h6 c e=>obtain⟨f,f1,f2,f3⟩:=bl;exact⟨f,pB f f1,f2,f3⟩
   ·rcases(show H.ak<=a\/zy bf a from bp) with r|r
    ·exact .inl (p7 h.ak r)
    ·exact K4 a r
  ·obtain⟨bl,bp,bQ,cU⟩:=h.own a b (au.subset (hT _ q));have KP:=xW q;refine⟨cC.wZ bl (KX a (xO a KP).1 (xO a KP).2) (fun f l aD=>?_),bp,Vw a KP,cU⟩;rw[show H'.bI.get f=H.bI.get f from aO.nQ f (fun du=>by
    rcases du with du|⟨bV,dx,_,_,_,_,bb,_,b8⟩
    ·exact absurd (h.wf.DS aD) (Nat.not_lt.2 du)
    ·have bb:=aD.symm.trans bb;injection bb with bb;injection bb with bb _
     subst bb;obtain⟨⟨bV,b'⟩,kP,mb⟩:=uZ.1 b8;have mb:bV=a:=mb;subst mb;exact(xO bV KP).2 (xW kP))];exact aD
 ·rcases ko.1 q with q|q
  ·obtain⟨bl,bp,bQ⟩:=aO.opn a b q x U;refine⟨bl,?_,bQ⟩;rcases(show H.ak<=x\/zy bf x from bp) with r|r
   ·exact .inl (p7 h.ak r)
   ·exact K4 x r
  ·have iC:x∈ids bM:=BR.2 ⟨_,q,.inr U⟩;obtain⟨bl,bp,bQ⟩:=h.opn a b (au.subset (hT _ q)) x U;exact⟨yD bl e4,bp,Vw x iC⟩
 ·rw[Lh,JJ];refine⟨aO.gd,dM.2.1,fun a a1 b ap e=>?_⟩;subst e;rcases(show H.ak<=a\/zy bf a from aO.Yl a1) with r|r
  ·have:=(xO a ap).1;omega
  ·exact(xO a ap).2 r
def hY (l:List (Nat×Value)):List Operand->Option (List Value)
 |[]=>some []
 |x::r=>match b6 l x with
  |some v=>(match hY l r with|some vs=>some (v::vs)|none=>none)
  |none=>none
theorem n8{E:cf}{S:bh}(ax:Sat E S)(H:aA):∀{xs:List Operand} {vs:List Value},hY E.l xs=some vs->eI S.T H xs=some vs:=by
 intro xs;induction xs with
 |nil=>intro vs h;exact h
 |cons x r aI=>
  intro vs h;simp only[hY] at h;simp only[eI];cases U:b6 E.l x with
  |none=>rw[U] at h;cases h
  |some v=>
   rw[U] at h;simp only at h;rw[dy ax H U];simp only;cases aw:hY E.l r with
   |none=>rw[aw] at h;cases h
   |some ws=>rw[aw] at h;simp only at h;rw[aI aw];exact h
theorem Exec.call{n:Nat}{ds:e7}{l:List (Nat×Value)}{d:Nat}{c:Call}{x:Operand}{f:FuncId}{first cap:Array Value}{args bT:List Value}{bf bM:aN}{eP:Value->aN->aH->Prop}
 (ar:o.op=.call c)(aV:o.dst=some d)(aP:Nat.blt d n=true)(aC:c.callee=.value x)(U:b6 l x=some (.func (.func f) first cap))(a1:hY l c.args.toList=some args)(has:(first.toList++args)++cap.toList=bT)
 (au:(bf++bM).Perm m)(fB:ER bf)(fJ:Fn K f bT bf J eP)(h:∀v m' af,J.le af->eP v m' af->ey ⟨n,ds,(d,v)::l⟩ (m'++bM) af):Exec K B o ⟨n,ds,l⟩ m J ey:=by
 intro S H ax aJ;obtain⟨v,H',af,m',bl,bp,bQ⟩:=fJ H (aJ.enter au fB);obtain⟨cU,gb⟩:=aJ.leave au bp;obtain⟨bn,s1,s2⟩:=ax.put (dst:=some d) aP v;refine⟨gW,k8 f bT H (.returned v,H'),bn,H',_,m'++bM,af,?_,s2,cU,h v m' af gb bQ⟩;have he:cJ K.P (hM K.Q (k8 f bT H (.returned v,H'))) (gH K.Q gW (k8 f bT H (.returned v,H'))).aR S H o=some (.val v H'):=by
  unfold cJ fe;simp only[ar];show kU K.P _ c=_;unfold kU;rw[aC];show n9 K.P _ _ S.T H c=_;unfold n9;rw[n8 ax H a1];simp only[aC];rw[dy ax H U];simp only
  show(match l7 K.P H (.func f) (first.toList++args) cap.toList with|some (f,bT)=>pv (hM K.Q _ f bT H)|none=>none)=_
  unfold l7;simp only
  rw[has,Dm bl (by unfold k8;rw[aE ⟨rfl,rfl,rfl⟩])];rfl
 rw[he,aV];show pg H' (S.put (some d) v)=_;rw[s1];rfl
def yP:List Value->Nat->List (Nat×Value)
 |[],_=>[]
 |v::l,i=>(i,v)::yP l (Nat.succ i)
theorem Th:∀{vs:List Value} {i t:Nat} {v:Value},look (yP vs i) t=some v->i<=t/\vs[t -i]?=some v:=by
 intro vs;induction vs with
 |nil=>intro i t v h;cases h
 |cons x l aI=>
  intro i t v h;have a7:(bif Nat.beq t i then some x else look (yP l (Nat.succ i)) t)=some v:=h;cases ap:Nat.beq t i with
  |true=>
   rw[ap,b7] at a7;obtain rfl:=eO ap;injection a7 with b8
   exact⟨cW _,by simp[b8]⟩
  |false=>
   rw[ap,dT] at a7;obtain⟨aa,ae⟩:=aI a7;refine⟨by omega,?_⟩;rw[show t -i=(t -Nat.succ i)+1 by omega];exact ae
theorem Tj:∀{vs:List Value} {i n:Nat} {T:bg Value},T.has n->i+vs.length<=n->∃eR,n2 vs i T=some eR/\eR.has n/\∀t,eR.get t=if i<=t/\t<i+vs.length then vs[t -i]? else T.get t:=by
 intro vs;induction vs with
 |nil=>intro i n T h _;exact⟨T,rfl,h,fun t=>by rw[an (by rw[Ax];omega)]⟩
 |cons x l aI=>
  intro i n T h av;rw[jh] at av;obtain⟨y,ai⟩:=h i (by omega);obtain⟨C6,dn⟩:=bg.IX (a:=x) ai;have aa:C6.has n:=fun t aB=>by
   rw[bg.get_put dn];split
   ·exact⟨_,rfl⟩
   ·exact h t aB
  obtain⟨eR,aL,bk,cG⟩:=aI (i:=i+1) aa (by omega);refine⟨eR,?_,bk,fun t=>?_⟩
  ·simp only[n2,bg.set];rw[dn];exact aL
  ·rw[cG t];by_cases q:i+1<=t/\t<i+1+l.length
   ·rw[aE q,aE (by rw[jh];omega),show t -i=(t -(i+1))+1 by omega];rfl
   ·rw[an q,bg.get_put dn];by_cases a7:t=i
    ·subst a7;rw[aE rfl,aE (by rw[jh];omega)];simp
    ·rw[an a7,an (by rw[jh];omega)]
theorem bg.afE{α:Type}(a:α):∀(d n:Nat),n+1<2 ^ d->(bg.full a d).get n=some a:=by
 intro d;induction d with
 |zero=>intro n h;simp at h
 |succ d aI=>
  intro n h;show(bg.node (some a) (bg.full a d) (bg.full a d)).get n=some a;cases n with
  |zero=>rfl
  |succ n=>
   rw[bg.rq];have:n / 2+1<2 ^ d:=by rw[C2] at h;omega
   split<;>exact aI _ this
theorem Tx(n:Nat):(Cre.blank n).has n:=by
 intro t aB;refine⟨undef,bg.afE _ _ _ ?_⟩;unfold N8;have aa:Nat.succ n<2 ^ (Nat.log2 (Nat.succ n)+1):=Nat.lt_log2_self;show t+1<2 ^ (Nat.log2 (Nat.succ n)+1);omega
inductive pq (P:Program) (E:cf) (m:aN) (J:aH):List ResultVar->List Value->Prop
 |nil:pq P E m J [] []
 |tmp {t:Tmp} {v:Value} {nr:List ResultVar} {vs:List Value}:look E.l t=some v->pq P E m J nr vs->pq P E m J (.tmp t::nr) (v::vs)
 |cell {t:Tmp} {eS:TypeId} {a:Nat} {cells:List Value} {e:TypeId} {v:Value} {nr:List ResultVar} {vs:List Value}:look E.l t=some (.pointer (some ⟨a,0,none⟩))->(a,cC.row cells e)∈m->mX P eS cells 0=some v->pq P E m J nr vs->pq P E m J (.cell t eS::nr) (v::vs)
theorem pq.DM{P:Program}{g0:Nat}{S:bh}{H:aA}(ax:Sat E S)(aJ:Inv g0 B J m H){nr:List ResultVar}{vs:List Value}(h:pq P E m J nr vs):qd P S.T H nr=some vs:=by
 induction h with
 |nil=>rfl
 |tmp aa _ aI=>simp only[qd];rw[ax.get _ _ aa];simp only;rw[aI]
 |cell aa ae aF _ aI=>
  simp only[qd];rw[ax.get _ _ aa];simp only;have aq:=(aJ.own _ _ ae).1;have aq:H.mem.get _=some (.row _ _ false 0 0 false):=aq;unfold AZ DN;simp only[aq,aF];rw[aI]
theorem Fn.cH{f:FuncId}{fn:Func}{c:Code}{args:List Value}{bf:aN}{eP:Value->aN->aH->Prop}(aD:K.fq.get f=some fn)(ap:fn.body=some c)(av:Nat.ble args.length fn.ntmps=true)
 (h:∀H,ab K (lo bf H J) c ⟨fn.ntmps,Km,yP args 0⟩ bf J fun e E m af=>(e=.normal\/e=.ret)/\E.ds.ds=[]/\∃vs m',pq K.P E m af fn.results.toList vs/\m'.Sublist m/\eP (qC vs) m' af):Fn K f args bf J eP:=by
 intro H aJ;obtain⟨T,bm,a2,a3⟩:=Tj (vs:=args) (i:=0) (n:=fn.ntmps) (Tx fn.ntmps) (by have:=hV av;omega);have ax:Sat ⟨fn.ntmps,Km,yP args 0⟩ ⟨T,fn.ntmps,[],false,.run,none⟩:=by
  refine⟨rfl,rfl,rfl,rfl,rfl,a2,fun t v q=>?_⟩;obtain⟨_,a7⟩:=Th q;show T.get t=some v;have:t<args.length:=by
   rcases ji t args.length with r|r
   ·exact r
   ·rw[fo (by omega)] at a7;cases a7
  rw[a3,aE (by omega)];exact a7
 obtain⟨e,aS,H',E',m1,af,bl,bp,bQ,cU,gb,vs,m',ot,zA,zB⟩:=h H _ H ax aJ;refine⟨qC vs,H',af,m',?_,bQ.sub zA,zB⟩;have xF:aS.ds=[]:=bp.ds.trans gb;refine ly.run K.dt aD ap bm bl (bF:=aS.bF) ?_;have aw:=ot.DM bp bQ;rcases cU with rfl|rfl
 ·show sq aS.bF (iM K.P _ fn aS.T aS.ds .returning H')=_;rw[xF];unfold iM;rw[aw];rfl
 ·show sq aS.bF (iM K.P _ fn aS.T aS.ds .returning H')=_;rw[xF];unfold iM;rw[aw];rfl
end
end
end Go.Opn

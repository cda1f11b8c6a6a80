/- A part of the proof of TableClose. -/
import Derived.Test.YtpahonhejmlnpaaGreatDoorCas
set_option linter.unusedVariables false
set_option linter.unusedSimpArgs false
namespace Go.Opn
noncomputable section
open Go.Cre Go.RowKit
inductive tx {P:Program} (Q:ek P) (ops:List Oper):List Oper->aT->ai->c6->Prop
 |nil (S:aT) (H:ai):tx Q ops [] S H (.ok S H)
 |cons (eX:Code->aT->ai->Option (Exit×aT×ai)) (bo:ed) {o:Oper} {rest:List Oper} {S a1:aT} {H H1:ai} {r:c6}:one P (hZ Q bo) (fU Q eX bo).aE ops S H o=some (.ok a1 H1)->tx Q ops rest a1 H1 r->tx Q ops (o::rest) S H r
 |h9 (eX:Code->aT->ai->Option (Exit×aT×ai)) (bo:ed) {o:Oper} {rest:List Oper} {S a1:aT} {H H1:ai} {chain:List PanicEntry}:one P (hZ Q bo) (fU Q eX bo).aE ops S H o=some (.h9 chain a1 H1)->tx Q ops (o::rest) S H (.h9 chain a1 H1)
theorem tx.sound{P:Program}{Q:ek P}{B:Nat->Prop}{w0:World}(fv:Q.ok B w0){ops:Array Oper}{fr:Frame}{k:List Item}{l:List Oper}{S:aT}{H:ai}{bV:c6}(h:tx Q ops.toList l S H bV):∀(i:Nat) (μ:bz) (w:World) (tmps:Array Value) (ds:List Deferred) (cs:List Frame),
 ops.toList.drop i=l->bL P B w0 μ H w->gO μ S fr tmps ds cs->
 jv P B w0 μ H S fr cs (lone (bt fr tmps ds (.inRegion ops (List.range' i l.length)::k)) cs w) k bV:=by
 induction h with
 |nil S H=>
  intro i μ w tmps ds cs _ h az;exact⟨μ,w,tmps,ds,cs,h,Step.refl _ _,az,iA.refl _ _ az.ry,rfl,rfl,.one JV⟩
 |@cons eX bo o rest S a1 H H1 r kR _ aP=>
  intro i μ w tmps ds cs au h az;have ag:ops[i]?=some o:=by
   have:(ops.toList.drop i)[0]?=some o:=by rw[au];rfl
   simpa using this
  have vO:ops.toList.drop (i+1)=rest:=by
   have:(ops.toList.drop i).drop 1=rest:=by rw[au];rfl
   rw[ze] at this;exact this
  show jv P B w0 μ H S fr cs (lone (bt fr tmps ds (.inRegion ops (i::List.range' (i+1) rest.length)::k)) cs w) k r;have aa:=yA (k:=k) (rest:=List.range' (i+1) rest.length) (Gc bo fv) (E0 (E:=fU Q eX bo) (xe eX fv)) h az ag kR;exact aa.bind fun eE bh uL rh fs cm _ cR _ _ _=>aP (i+1) eE bh uL rh fs vO cm cR
 |@h9 eX bo o rest S a1 H H1 chain kR=>
  intro i μ w tmps ds cs au h az;have ag:ops[i]?=some o:=by
   have:(ops.toList.drop i)[0]?=some o:=by rw[au];rfl
   simpa using this
  show jv P B w0 μ H S fr cs (lone (bt fr tmps ds (.inRegion ops (i::List.range' (i+1) rest.length)::k)) cs w) k _;exact yA (k:=k) (rest:=List.range' (i+1) rest.length) (Gc bo fv) (E0 (E:=fU Q eX bo) (xe eX fv)) h az ag kR
def Ps (S:aT)(H:ai):Option (List PanicEntry)->c6
 |none=>.ok S H
 |some c=>.h9 c S H
def GD:Option (List PanicEntry)->Exit
 |none=>.normal
 |some c=>.panic c
theorem dc.ops{P:Program}{Q:ek P}{id:Nat}{ops:Array Oper}{S aB:aT}{H H':ai}{p:Option (List PanicEntry)}(h:tx Q ops.toList ops.toList S H (Ps aB H' p)):dc Q (.region id ops false) S H (GD p) aB H':=by
 refine .mk fun B w0 fv μ w fr tmps ds cs k it mF bY af=>?_;obtain rfl:=af.plain (fun _ q=>by cases q);have:=h.sound (k:=k) (fr:=fr) fv 0 μ w tmps ds cs (by simp) mF bY;have aC:List.range' 0 ops.toList.length=List.range ops.size:=by rw[SD];simp
 rw[aC] at this;exact(JE (by cases p<;>rfl) this).steps (.one Rc)
structure dG where
 P:Program
 eK:aQ Func
 eB:pK P eK
 Q:ek P
 g0:Nat
abbrev aU:=List (Nat×dh)
section
variable {K:dG}{B:dt}
def W(K:dG)(B:dt)(ops rest:List Oper)(E:b3)(m:aU)(J:an)(bm:Option (List PanicEntry)->b3->aU->an->Prop):Prop:=
 ∀S H,Sat E S->Inv K.g0 B J m H->∃p aB H' E' m' ae,tx K.Q ops rest S H (Ps aB H' p)/\Sat E' aB/\Inv K.g0 B ae m' H'/\bm p E' m' ae
def ad(K:dG)(B:dt)(c:Code)(E:b3)(m:aU)(J:an)(bm:Exit->b3->aU->an->Prop):Prop:=
 ∀S H,Sat E S->Inv K.g0 B J m H->∃e aB H' E' m' ae,dc K.Q c S H e aB H'/\Sat E' aB/\Inv K.g0 B ae m' H'/\bm e E' m' ae
def Exec(K:dG)(B:dt)(o:Oper)(E:b3)(m:aU)(J:an)(eg:b3->aU->an->Prop):Prop:=
 ∀S H,Sat E S->Inv K.g0 B J m H->∃eX bo aB H' E' m' ae,oy S H o.dst (ct K.P (hZ K.Q bo) (fU K.Q eX bo).aE S H o)=some (.ok aB H')/\Sat E' aB/\Inv K.g0 B ae m' H'/\eg E' m' ae
variable {ops rest:List Oper}{E:b3}{m m':aU}{J:an}{o:Oper}{bm:Option (List PanicEntry)->b3->aU->an->Prop}{eg:b3->aU->an->Prop}{cB aic:Exit->b3->aU->an->Prop}
theorem W.nil(h:bm none E m J):W K B ops [] E m J bm:=fun S H ak av=>⟨none,S,H,E,m,J,.nil S H,ak,av,h⟩
theorem W.step(aq:o.guard=none)(h:Exec K B o E m J fun E m J=>W K B ops rest E m J bm):W K B ops (o::rest) E m J bm:=by
 intro S H ak av;obtain⟨eX,bo,a1,H1,gv,cE,bq,aa,ab,aY,bu⟩:=h S H ak av;obtain⟨p,aB,H',E',m',ae,a9,a4,bJ,cx⟩:=bu a1 H1 ab aY;refine⟨p,aB,H',E',m',ae,.cons eX bo ?_ a9,a4,bJ,cx⟩;unfold one eZ;rw[aq];exact aa
def ka (ops:List Oper)(o:Oper):Option (Nat×Bool):=match o.guard with
 |some (j,want)=>(match nth ops j with|some p=>(match p.dst with|some d=>some (d,want)|none=>none)|none=>none)
 |none=>none
theorem xC{S:aT}{d:Nat}{want b:Bool}(aq:ka ops o=some (d,want))(ah:S.T.get d=some (.bool b)):eZ ops S.T o=some (b==want):=by
 unfold ka at aq;unfold eZ;cases q:o.guard with
 |none=>rw[q] at aq;cases aq
 |some x=>
  obtain⟨j,w⟩:=x;rw[q] at aq;show rm ops S.T (j,w)=_;unfold rm;simp only at aq ⊢;cases aw:nth ops j with
  |none=>rw[aw] at aq;cases aq
  |some p=>
   rw[aw] at aq;simp only at aq ⊢;cases au:p.dst with
   |none=>rw[au] at aq;cases aq
   |some ih=>
    rw[au] at aq;simp only[b9,c'] at aq;obtain⟨rfl,rfl⟩:=aq;simp only[ah]
theorem W.split{n:Nat}{ds:dQ}{l:List (Nat×Value)}{d:Nat}{b:Bool}(ah:look l d=some (.bool b))(aa:b=true->W K B ops rest ⟨n,ds,(d,.bool true)::l⟩ m J bm)(aX:b=false->W K B ops rest ⟨n,ds,(d,.bool false)::l⟩ m J bm):W K B ops rest ⟨n,ds,l⟩ m J bm:=by
 intro S H ak av;have key:∀c:Bool,b=c->Sat ⟨n,ds,(d,.bool c)::l⟩ S:=fun c e=>by
  subst e;refine⟨ak.n,ak.ds,ak.bB,ak.bf,ak.b8,ak.has,fun t v q=>?_⟩;have aN:(bif Nat.beq t d then some (Value.bool b) else look l t)=some v:=q;cases cc:Nat.beq t d with
  |true=>rw[cc,b1] at aN;obtain rfl:=dX cc;rw[<-aN];exact ak.get _ _ ah
  |false=>rw[cc,da] at aN;exact ak.get t v aN
 cases b with
 |true=>exact aa rfl S H (key true rfl) av
 |false=>exact aX rfl S H (key false rfl) av
theorem W.GX{n:Nat}{ds:dQ}{l:List (Nat×Value)}{d:Nat}{want b:Bool}(aq:ka ops o=some (d,want))(ah:look l d=some (.bool b))(hw:(b==want)=true)(h:Exec K B o ⟨n,ds,l⟩ m J fun E m J=>W K B ops rest E m J bm):W K B ops (o::rest) ⟨n,ds,l⟩ m J bm:=by
 intro S H ak av;have ep:=xC aq (ak.get d _ ah);obtain⟨eX,bo,a1,H1,gv,cE,bq,aR,aN,bG,dd⟩:=h S H ak av;obtain⟨p,aB,H',E',m',ae,a9,a4,bJ,cx⟩:=dd a1 H1 aN bG;refine⟨p,aB,H',E',m',ae,.cons eX bo ?_ a9,a4,bJ,cx⟩;unfold one;rw[ep,hw];exact aR
theorem W.Ni{n:Nat}{ds:dQ}{l:List (Nat×Value)}{d e:Nat}{want b:Bool}(aq:ka ops o=some (d,want))(ah:look l d=some (.bool b))(hw:(b==want)=false)(au:o.dst=some e)(aw:Nat.blt e n=true)(h:W K B ops rest ⟨n,ds,(e,undef)::l⟩ m J bm):W K B ops (o::rest) ⟨n,ds,l⟩ m J bm:=by
 intro S H ak av;have ep:=xC aq (ak.get d _ ah);obtain⟨a1,s1,s2⟩:=ak.put (dst:=some e) aw undef;obtain⟨p,aB,H',E',m',ae,a9,a4,bJ,cx⟩:=h a1 H s2 av;refine⟨p,aB,H',E',m',ae,.cons hQ ki ?_ a9,a4,bJ,cx⟩;unfold one;rw[ep,hw];show m3 H (S.put o.dst undef)=_;rw[au,s1];rfl
def hU(K:dG)(B:dt)(o:Oper)(E:b3)(m:aU)(J:an)(eg:b3->aU->an->Prop):Prop:=
 ∀S H,Sat E S->Inv K.g0 B J m H->∃aB H' E' m' ae,(∀call aE,oy S H o.dst (ct K.P call aE S H o)=some (.ok aB H'))/\Sat E' aB/\Inv K.g0 B ae m' H'/\eg E' m' ae
theorem Exec.of(h:hU K B o E m J eg):Exec K B o E m J eg:=fun S H ak av=>by
 obtain⟨aB,H',E',m',ae,aa,ab,aY,bu⟩:=h S H ak av;exact⟨hQ,ki,aB,H',E',m',ae,aa _ _,ab,aY,bu⟩
theorem Exec.val{n:Nat}{ds:dQ}{l:List (Nat×Value)}{d:Nat}{v:Value}(au:o.dst=some d)(aw:Nat.blt d n=true)(dC:∀call aE S H,Sat ⟨n,ds,l⟩ S->Inv K.g0 B J m H->ct K.P call aE S H o=some (.val v H))(h:eg ⟨n,ds,(d,v)::l⟩ m J):Exec K B o ⟨n,ds,l⟩ m J eg:=by
 intro S H ak av;obtain⟨a1,s1,s2⟩:=ak.put (dst:=some d) aw v;refine⟨hQ,ki,a1,H,_,m,J,?_,s2,av,h⟩;rw[dC _ _ S H ak av,au];show m3 H (S.put (some d) v)=_;rw[s1];rfl
theorem hU.wO{n:Nat}{ds:dQ}{l:List (Nat×Value)}{d:Nat}(au:o.dst=some d)(aw:Nat.blt d n=true)(dC:∀S H,Sat ⟨n,ds,l⟩ S->Inv K.g0 B J m H->∃v H' m' ae,(∀call aE,ct K.P call aE S H o=some (.val v H'))/\Inv K.g0 B ae m' H'/\eg ⟨n,ds,(d,v)::l⟩ m' ae):hU K B o ⟨n,ds,l⟩ m J eg:=by
 intro S H ak av;obtain⟨v,H',m',ae,a9,a4,bJ⟩:=dC S H ak av;obtain⟨a1,s1,s2⟩:=ak.put (dst:=some d) aw v;refine⟨a1,H',_,m',ae,fun call aE=>?_,s2,a4,bJ⟩;rw[a9,au];show m3 H' (S.put (some d) v)=_;rw[s1];rfl
theorem hU.skip{E:b3}(au:o.dst=none)(dC:∀S H,Sat E S->Inv K.g0 B J m H->∃H' m' ae,(∀call aE,ct K.P call aE S H o=some (.skip H'))/\Inv K.g0 B ae m' H'/\eg E m' ae):hU K B o E m J eg:=by
 intro S H ak av;obtain⟨H',m',ae,a9,a4,bJ⟩:=dC S H ak av;refine⟨S,H',E,m',ae,fun call aE=>?_,ak,a4,bJ⟩;rw[a9,au];rfl
theorem ad.region{id:Nat}{a:Array Oper}(h:W K B a.toList a.toList E m J fun p E m J=>cB (GD p) E m J):ad K B (.region id a false) E m J cB:=by
 intro S H ak av;obtain⟨p,aB,H',E',m',ae,a9,a4,bJ,cx⟩:=h S H ak av;exact⟨GD p,aB,H',E',m',ae,dc.ops a9,a4,bJ,cx⟩
theorem ad.skip(h:cB .normal E m J):ad K B .skip E m J cB:=fun S H ak av=>⟨_,S,H,E,m,J,dc.skip K.eB.ov,ak,av,h⟩
theorem ad.ret(h:cB .ret E m J):ad K B .ret E m J cB:=fun S H ak av=>⟨_,S,H,E,m,J,dc.ret K.eB.ov,ak,av,h⟩
theorem ad.exit{id:Nat}(h:cB (.exit id) E m J):ad K B (.exit id) E m J cB:=fun S H ak av=>⟨_,S,H,E,m,J,dc.exit K.eB.ov,ak,av,h⟩
abbrev ac2(K:dG)(B:dt)(b:Code)(cB:Exit->b3->aU->an->Prop):Exit->b3->aU->an->Prop:=fun e E m J=>match e with
 |.normal=>ad K B b E m J cB
 |e=>cB e E m J
theorem ad.seq{a b:Code}(h:ad K B a E m J (ac2 K B b cB)):ad K B (.seq a b) E m J cB:=by
 intro S H ak av;obtain⟨e,a1,H1,gv,cE,bq,aa,ab,aY,bu⟩:=h S H ak av;cases e with
 |normal=>
  have bu:ad K B b gv cE bq cB:=bu;obtain⟨bk,aB,H',E',m',ae,a9,a4,bJ,cx⟩:=bu a1 H1 ab aY;exact⟨bk,aB,H',E',m',ae,dc.seq aa a9,a4,bJ,cx⟩
 |exit i=>exact⟨_,a1,H1,gv,cE,bq,dc.BL aa (fun q=>by cases q),ab,aY,bu⟩
 |goto i=>exact⟨_,a1,H1,gv,cE,bq,dc.BL aa (fun q=>by cases q),ab,aY,bu⟩
 |ret=>exact⟨_,a1,H1,gv,cE,bq,dc.BL aa (fun q=>by cases q),ab,aY,bu⟩
 |panic c=>exact⟨_,a1,H1,gv,cE,bq,dc.BL aa (fun q=>by cases q),ab,aY,bu⟩
 |outgrown=>exact⟨_,a1,H1,gv,cE,bq,dc.BL aa (fun q=>by cases q),ab,aY,bu⟩
abbrev Tu(id:Nat)(cB:Exit->b3->aU->an->Prop):Exit->b3->aU->an->Prop:=fun e E m J=>match e with
 |.exit j=>if j=id then cB .normal E m J else cB (.exit j) E m J
 |e=>cB e E m J
theorem ad.block{id:Nat}{c:Code}(h:ad K B c E m J (Tu id cB)):ad K B (.block id c) E m J cB:=by
 intro S H ak av;obtain⟨e,a1,H1,gv,cE,bq,aa,ab,aY,bu⟩:=h S H ak av;refine⟨_,a1,H1,gv,cE,bq,dc.block K.eB.ov aa,ab,aY,?_⟩;cases e with
 |exit j=>
  have bu:if j=id then cB .normal gv cE bq else cB (.exit j) gv cE bq:=bu;show cB (if j=id then .normal else .exit j) gv cE bq;split at bu
  ·rename_i q;rw[bg q];exact bu
  ·rename_i q;rw[a3 q];exact bu
 |_=>exact bu
def bH (l:List (Nat×Value)):Operand->Option Value
 |.tmp t=>look l t
 |.const v=>Jo v
 |.global _=>none
 |.func f=>some (.func (.func f) #[] #[])
theorem c1{E:b3}{S:aT}(ak:Sat E S)(H:ai){x:Operand}{v:Value}(h:bH E.l x=some v):aW S.T H x=some v:=by
 cases x with
 |tmp t=>exact ak.get t v h
 |const c=>exact h
 |global g=>cases h
 |func f=>exact h
theorem ad.cond{n:Nat}{ds:dQ}{l:List (Nat×Value)}{x:Operand}{a b:Code}{t:Bool}(U:bH l x=some (.bool t))(aa:t=true->ad K B a ⟨n,ds,l⟩ m J cB)(aX:t=false->ad K B b ⟨n,ds,l⟩ m J cB):ad K B (.cond x a b) ⟨n,ds,l⟩ m J cB:=by
 intro S H ak av;cases t with
 |true=>
  obtain⟨e,aB,H',E',m',ae,a9,a4,bJ,cx⟩:=aa rfl S H ak av;exact⟨e,aB,H',E',m',ae,dc.cond K.eB.ov (c1 ak H U) a9,a4,bJ,cx⟩
 |false=>
  obtain⟨e,aB,H',E',m',ae,a9,a4,bJ,cx⟩:=aX rfl S H ak av;exact⟨e,aB,H',E',m',ae,dc.cond K.eB.ov (c1 ak H U) a9,a4,bJ,cx⟩
theorem ad.Us{n:Nat}{ds:dQ}{l:List (Nat×Value)}{x:Operand}{a b:Code}(U:bH l x=some (.bool true))(h:ad K B a ⟨n,ds,l⟩ m J cB):ad K B (.cond x a b) ⟨n,ds,l⟩ m J cB:=ad.cond U (fun _=>h) (fun q=>by cases q)
theorem ad.tJ{n:Nat}{ds:dQ}{l:List (Nat×Value)}{x:Operand}{a b:Code}(U:bH l x=some (.bool false))(h:ad K B b ⟨n,ds,l⟩ m J cB):ad K B (.cond x a b) ⟨n,ds,l⟩ m J cB:=ad.cond U (fun q=>by cases q) (fun _=>h)
def mg(l:List (Nat×Value)):List (Nat×Value)->Prop
 |[]=>True
 |(t,v)::l'=>look l t=some v/\mg l l'
theorem mg.look{l:List (Nat×Value)}:∀{l':List (Nat×Value)},mg l l'->∀t v,look l' t=some v->look l t=some v:=by
 intro l';induction l' with
 |nil=>intro _ t v q;cases q
 |cons x l' aP=>
  obtain⟨u,w⟩:=x;intro h t v q;have aN:(bif Nat.beq t u then some w else Opn.look l' t)=some v:=q;cases ah:Nat.beq t u with
  |true=>
   rw[ah,b1] at aN;obtain rfl:=dX ah;injection aN with bG;rw[<-bG];exact h.1
  |false=>rw[ah,da] at aN;exact aP h.2 t v aN
theorem Sat.sub{n:Nat}{ds:dQ}{l l':List (Nat×Value)}{S:aT}(h:Sat ⟨n,ds,l⟩ S)(aA:mg l l'):Sat ⟨n,ds,l'⟩ S:=Sat.eH (E:=⟨n,ds,l⟩) h aA.look
theorem ad.eH{c:Code}{n:Nat}{ds:dQ}{l l':List (Nat×Value)}(aA:mg l l')(hm:m'.Sublist m)(h:ad K B c ⟨n,ds,l'⟩ m' J cB):ad K B c ⟨n,ds,l⟩ m J cB:=
 fun S H ak av=>h S H (ak.sub aA) (av.sub hm)
theorem ad.loop{α:Type}{c:Code}{n:Nat}{ds:dQ}(env:α->List (Nat×Value))(mem:α->aU)(dB:α->an)(inv:α->Prop)(pk:α->Nat)
 (bT:∀s,inv s->ad K B c ⟨n,ds,env s⟩ (mem s) (dB s) fun e E m J=>match e with
  |.normal=>∃df l,inv df/\pk df<pk s/\E=⟨n,ds,l⟩/\mg l (env df)/\(mem df).Sublist m/\J=dB df
  |e=>cB e E m J)(s:α)(af:inv s):ad K B (.loop c) ⟨n,ds,env s⟩ (mem s) (dB s) cB:=by
 have key:∀(k:Nat) (s:α),pk s=k->inv s->ad K B (.loop c) ⟨n,ds,env s⟩ (mem s) (dB s) cB:=by
  intro k;induction k using Nat.strongRecOn with
  |_ k aP=>
   intro s hk af S H ak av;obtain⟨e,a1,H1,gv,cE,bq,aa,ab,aY,bu⟩:=bT s af S H ak av;cases e with
   |normal=>
    obtain⟨df,l,cm,cn,rfl,fk,e9,rfl⟩:=bu;obtain⟨bk,aB,H',E',m',ae,a9,a4,bJ,cx⟩:=aP (pk df) (by omega) df rfl cm a1 H1 (ab.sub fk) (aY.sub e9);exact⟨bk,aB,H',E',m',ae,dc.Ph aa a9,a4,bJ,cx⟩
   |exit i=>exact⟨_,a1,H1,gv,cE,bq,dc.rQ aa (fun q=>by cases q),ab,aY,bu⟩
   |goto i=>exact⟨_,a1,H1,gv,cE,bq,dc.rQ aa (fun q=>by cases q),ab,aY,bu⟩
   |ret=>exact⟨_,a1,H1,gv,cE,bq,dc.rQ aa (fun q=>by cases q),ab,aY,bu⟩
   |panic c=>exact⟨_,a1,H1,gv,cE,bq,dc.rQ aa (fun q=>by cases q),ab,aY,bu⟩
   |outgrown=>exact⟨_,a1,H1,gv,cE,bq,dc.rQ aa (fun q=>by cases q),ab,aY,bu⟩
 exact key _ s rfl af
theorem ad.iW{c:Code}{a:Nat}{b:dh}{x:List Value×TypeId}(U:b.rowOf=some x)(h:J.le (J.add a x)->ad K B c E m (J.add a x) cB):ad K B c E ((a,b)::m) J cB:=by
 intro S H ak av;obtain⟨a9,a4⟩:=av.iW U;exact h a4 S H ak a9
def rL(m:aU)(a:Nat):Prop:=a∈ids m
def h7(bU:aU)(H:ai)(J:an):dt:=⟨rL bU,fun a=>a∈bU.map Prod.fst,H,J⟩
def Fn(K:dG)(f:FuncId)(args:List Value)(bU:aU)(J:an)(du:Value->aU->an->Prop):Prop:=
 ∀H,Inv K.g0 (h7 bU H J) J bU H->∃v H' ae m',jn K.Q f args H (.returned v) H'/\Inv K.g0 (h7 bU H J) ae m' H'/\du v m' ae
abbrev wg(_:aU):Prop:=True
theorem Inv.enter{g0:Nat}{bU eD:aU}{H:ai}(h:Inv g0 B J m H)(ao:(bU++eD).Perm m)(gD:wg bU):Inv g0 (h7 bU H J) J bU H:=by
 have om:∀x,x∈bU->x∈m:=fun x q=>ao.subset (tt _ q);have dz:=(DU ao).nodup_iff.2 h.fw;rw[DT,Cn] at dz;refine⟨h.wf,h.bp,c5 _,c5 _,fun _ _ _=>rfl,fun _ _=>rfl,h.dB,an.le.refl _,fun a x aR aN=>?_,fun a b q=>?_,fun a b q x U=>?_,dz.1⟩
 ·have aR:J a=none:=aR;rw[aR] at aN;cases aN
 ·obtain⟨a9,a4,bJ,cx⟩:=h.own a b (om _ q);refine⟨?_,.inr (uk q),bJ,cx⟩;cases b with
  |row=>exact a9
  |map=>exact a9
  |loop=>exact a9
  |ft=>exact a9
  |opn c e r z=>
   obtain⟨f,_,f2,f3⟩:=a9;exact⟨f,.inr ⟨a,r,_,_,_,_,f3,f2,qU.2 ⟨_,q,rfl⟩⟩,f2,f3⟩
 ·obtain⟨a9,a4,bJ⟩:=h.opn a b (om _ q) x U;exact⟨a9,.inr (v5.2 ⟨_,q,.inr U⟩),bJ⟩
theorem Inv.leave{g0:Nat}{bU eD:aU}{H H':ai}{ae:an}(h:Inv g0 B J m H)(ao:(bU++eD).Perm m)(hk:Inv g0 (h7 bU H J) ae m' H'):Inv g0 B ae (m'++eD) H'/\J.le ae:=by
 have dz:=(DU ao).nodup_iff.2 h.fw;rw[DT,Cn] at dz;have HD:∀a,a∈ids bU\/a∈ids eD->a∈ids m:=fun a q=>(DU ao).subset (by rw[DT];exact nQ.2 q);have Dv:∀a,rL bU a->B.H0.ax<=a\/B.X a:=fun a q=>h.P7 (HD a (.inl q));have vU:∀a,a∈ids eD->a<H.ax/\¬rL bU a:=fun a q=>⟨h.D7 (HD a (.inr q)),fun r=>dz.2.2 _ r _ q rfl⟩;have As:∀a,a<H.ax->¬rL bU a->H'.mem.get a=H.mem.get a:=hk.ff;have jg:H.ax<=H'.ax:=hk.ax;have HP:H.b7<=H'.b7:=hk.b7;have hle:J.le ae:=hk.le;have iQ:∀a x,J a=none->ae a=some x->H.ax<=a\/rL bU a:=hk.fresh;have nv:∀f,dt.tR (h7 bU H J) f->B.tR f:=fun f q=>by
  rcases q with q|⟨a,r,c,e,z,s,aR,aN,bG⟩
  ·exact .inl (eh h.b7 q)
  ·obtain⟨⟨bE,b⟩,kM,kw⟩:=qU.1 bG;have kw:bE=a:=kw;subst kw;have k:=(h.own bE b (ao.subset (tt _ kM))).1;have aN:H.mem.get bE=some (.row c e true f z s):=aN;cases b with
   |row=>have k:=aN.symm.trans k;cases k
   |map=>have k:=aN.symm.trans k;cases k
   |loop=>have k:=aN.symm.trans k;cases k
   |ft=>have k:=aN.symm.trans k;cases k
   |opn bw bk cg gi=>
    obtain⟨cz,a9,a4,bJ⟩:=k;have k:=aN.symm.trans a4;injection k with k;injection k with _ _ _ k
    rw[k];exact a9
 have Nv:∀a,a∈ids eD->ae a=none:=fun a q=>by
  cases a5:ae a with
  |none=>rfl
  |some x=>
   rcases iQ a x (h.aaJ (HD a (.inr q))) a5 with r|r
   ·have:=(vU a q).1;omega
   ·exact absurd r (vU a q).2
 refine⟨⟨hk.wf,hk.bp,eh h.ax jg,eh h.b7 HP,fun a aK fl=>?_,fun f az=>?_,hk.dB,h.le.trans hle,fun a x aR aN=>?_,fun a b q=>?_,fun a b q x U=>?_,?_⟩,hle⟩
 ·rw[As a (jL aK h.ax),h.ff a aK fl];intro r;rcases Dv a r with q|q
  ·omega
  ·exact fl q
 ·rw[show H'.bl.get f=H.bl.get f from hk.kX f (fun q=>az (nv f q))];exact h.kX f az
 ·cases a5:J a with
  |none=>
   rcases iQ a x a5 aN with r|r
   ·exact .inl (eh h.ax r)
   ·exact Dv a r
  |some y=>exact h.fresh a y aR a5
 ·rcases nQ.1 q with q|q
  ·obtain⟨a9,a4,bJ,cx⟩:=hk.own a b q;refine⟨?_,?_,bJ,cx⟩
   ·cases b with
    |row=>exact a9
    |map=>exact a9
    |loop=>exact a9
    |ft=>exact a9
    |opn c e r z=>obtain⟨f,f1,f2,f3⟩:=a9;exact⟨f,nv f f1,f2,f3⟩
   ·rcases(show H.ax<=a\/rL bU a from a4) with r|r
    ·exact .inl (eh h.ax r)
    ·exact Dv a r
  ·obtain⟨a9,a4,bJ,cx⟩:=h.own a b (ao.subset (d' _ q));have Dg:=uk q;refine⟨dh.sm a9 (As a (vU a Dg).1 (vU a Dg).2) (fun f l az=>?_),a4,Nv a Dg,cx⟩;rw[show H'.bl.get f=H.bl.get f from hk.kX f (fun c3=>by
    rcases c3 with c3|⟨bE,cg,_,_,_,_,aR,_,bG⟩
    ·exact absurd (h.wf.z1 az) (Nat.not_lt.2 c3)
    ·have aR:=az.symm.trans aR;injection aR with aR;injection aR with aR _
     subst aR;obtain⟨⟨bE,b'⟩,kM,kw⟩:=qU.1 bG;have kw:bE=a:=kw;subst kw;exact(vU bE Dg).2 (uk kM))];exact az
 ·rcases nQ.1 q with q|q
  ·obtain⟨a9,a4,bJ⟩:=hk.opn a b q x U;refine⟨a9,?_,bJ⟩;rcases(show H.ax<=x\/rL bU x from a4) with r|r
   ·exact .inl (eh h.ax r)
   ·exact Dv x r
  ·have h5:x∈ids eD:=v5.2 ⟨_,q,.inr U⟩;obtain⟨a9,a4,bJ⟩:=h.opn a b (ao.subset (d' _ q)) x U;exact⟨jL a9 jg,a4,Nv x h5⟩
 ·rw[DT,Cn];refine⟨hk.fw,dz.2.1,fun a aK b ah e=>?_⟩;subst e;rcases(show H.ax<=a\/rL bU a from hk.P7 aK) with r|r
  ·have:=(vU a ah).1;omega
  ·exact(vU a ah).2 r
def hJ (l:List (Nat×Value)):List Operand->Option (List Value)
 |[]=>some []
 |x::r=>match bH l x with
  |some v=>(match hJ l r with|some vs=>some (v::vs)|none=>none)
  |none=>none
theorem nq{E:b3}{S:aT}(ak:Sat E S)(H:ai):∀{xs:List Operand} {vs:List Value},hJ E.l xs=some vs->eQ S.T H xs=some vs:=by
 intro xs;induction xs with
 |nil=>intro vs h;exact h
 |cons x r aP=>
  intro vs h;simp only[hJ] at h;simp only[eQ];cases U:bH E.l x with
  |none=>rw[U] at h;cases h
  |some v=>
   rw[U] at h;simp only at h;rw[c1 ak H U];simp only;cases al:hJ E.l r with
   |none=>rw[al] at h;cases h
   |some ws=>rw[al] at h;simp only at h;rw[aP al];exact h
theorem Exec.call{n:Nat}{ds:dQ}{l:List (Nat×Value)}{d:Nat}{c:Call}{x:Operand}{f:FuncId}{first cap:Array Value}{args cl:List Value}{bU eD:aU}{du:Value->aU->an->Prop}
 (ag:o.op=.call c)(au:o.dst=some d)(aw:Nat.blt d n=true)(aL:c.callee=.value x)(U:bH l x=some (.func (.func f) first cap))(aK:hJ l c.args.toList=some args)(has:(first.toList++args)++cap.toList=cl)
 (ao:(bU++eD).Perm m)(gD:wg bU)(bY:Fn K f cl bU J du)(h:∀v m' ae,J.le ae->du v m' ae->eg ⟨n,ds,(d,v)::l⟩ (m'++eD) ae):Exec K B o ⟨n,ds,l⟩ m J eg:=by
 intro S H ak av;obtain⟨v,H',ae,m',a9,a4,bJ⟩:=bY H (av.enter ao gD);obtain⟨cx,fL⟩:=av.leave ao a4;obtain⟨a1,s1,s2⟩:=ak.put (dst:=some d) aw v;refine⟨hQ,mC f cl H (.returned v,H'),a1,H',_,m'++eD,ae,?_,s2,cx,h v m' ae fL bJ⟩;have he:ct K.P (hZ K.Q (mC f cl H (.returned v,H'))) (fU K.Q hQ (mC f cl H (.returned v,H'))).aE S H o=some (.val v H'):=by
  unfold ct eA;simp only[ag];show jW K.P _ c=_;unfold jW;rw[aL];show mE K.P _ _ S.T H c=_;unfold mE;rw[nq ak H aK];simp only[aL];rw[c1 ak H U];simp only
  show(match j9 K.P H (.func f) (first.toList++args) cap.toList with|some (f,cl)=>oY (hZ K.Q _ f cl H)|none=>none)=_
  unfold j9;simp only
  rw[has,zD a9 (by unfold mC;rw[bg ⟨rfl,rfl,rfl⟩])];rfl
 rw[he,au];show m3 H' (S.put (some d) v)=_;rw[s1];rfl
def q5:List Value->Nat->List (Nat×Value)
 |[],_=>[]
 |v::l,i=>(i,v)::q5 l (Nat.succ i)
theorem FQ:∀{vs:List Value} {i t:Nat} {v:Value},look (q5 vs i) t=some v->i<=t/\vs[t -i]?=some v:=by
 intro vs;induction vs with
 |nil=>intro i t v h;cases h
 |cons x l aP=>
  intro i t v h;have aN:(bif Nat.beq t i then some x else look (q5 l (Nat.succ i)) t)=some v:=h;cases ah:Nat.beq t i with
  |true=>
   rw[ah,b1] at aN;obtain rfl:=dX ah;injection aN with bG
   exact⟨c5 _,by simp[bG]⟩
  |false=>
   rw[ah,da] at aN;obtain⟨aa,ab⟩:=aP aN;refine⟨by omega,?_⟩;rw[show t -i=(t -Nat.succ i)+1 by omega];exact ab
theorem FR:∀{vs:List Value} {i n:Nat} {T:aQ Value},T.has n->i+vs.length<=n->∃di,lA vs i T=some di/\di.has n/\∀t,di.get t=if i<=t/\t<i+vs.length then vs[t -i]? else T.get t:=by
 intro vs;induction vs with
 |nil=>intro i n T h _;exact⟨T,rfl,h,fun t=>by rw[a3 (by rw[zf];omega)]⟩
 |cons x l aP=>
  intro i n T h aA;rw[lx] at aA;obtain⟨y,aF⟩:=h i (by omega);obtain⟨nj,b6⟩:=aQ.BD (a:=x) aF;have aa:nj.has n:=fun t aM=>by
   rw[aQ.get_put b6];split
   ·exact⟨_,rfl⟩
   ·exact h t aM
  obtain⟨di,aC,aZ,cJ⟩:=aP (i:=i+1) aa (by omega);refine⟨di,?_,aZ,fun t=>?_⟩
  ·simp only[lA,aQ.set];rw[b6];exact aC
  ·rw[cJ t];by_cases q:i+1<=t/\t<i+1+l.length
   ·rw[bg q,bg (by rw[lx];omega),show t -i=(t -(i+1))+1 by omega];rfl
   ·rw[a3 q,aQ.get_put b6];by_cases aN:t=i
    ·subst aN;rw[bg rfl,bg (by rw[lx];omega)];simp
    ·rw[a3 aN,a3 (by rw[lx];omega)]
theorem aQ.Wa{α:Type}(a:α):∀(d n:Nat),n+1<2 ^ d->(aQ.full a d).get n=some a:=by
 intro d;induction d with
 |zero=>intro n h;simp at h
 |succ d aP=>
  intro n h;show(aQ.node (some a) (aQ.full a d) (aQ.full a d)).get n=some a;cases n with
  |zero=>rfl
  |succ n=>
   rw[aQ.n6];have:n / 2+1<2 ^ d:=by rw[mu] at h;omega
   split<;>exact aP _ this
theorem F0(n:Nat):(Cre.blank n).has n:=by
 intro t aM;refine⟨undef,aQ.Wa _ _ _ ?_⟩;unfold GH;have aa:Nat.succ n<2 ^ (Nat.log2 (Nat.succ n)+1):=Nat.lt_log2_self;show t+1<2 ^ (Nat.log2 (Nat.succ n)+1);omega
inductive mw (P:Program) (E:b3) (m:aU) (J:an):List ResultVar->List Value->Prop
 |nil:mw P E m J [] []
 |tmp {t:Tmp} {v:Value} {rs:List ResultVar} {vs:List Value}:look E.l t=some v->mw P E m J rs vs->mw P E m J (.tmp t::rs) (v::vs)
 |cell {t:Tmp} {dK:TypeId} {a:Nat} {cells:List Value} {e:TypeId} {v:Value} {rs:List ResultVar} {vs:List Value}:look E.l t=some (.pointer (some ⟨a,0,none⟩))->(a,dh.row cells e)∈m->kv P dK cells 0=some v->mw P E m J rs vs->mw P E m J (.cell t dK::rs) (v::vs)
theorem mw.vt{P:Program}{g0:Nat}{S:aT}{H:ai}(ak:Sat E S)(av:Inv g0 B J m H){rs:List ResultVar}{vs:List Value}(h:mw P E m J rs vs):ns P S.T H rs=some vs:=by
 induction h with
 |nil=>rfl
 |tmp aa _ aP=>simp only[ns];rw[ak.get _ _ aa];simp only;rw[aP]
 |cell aa ab aY _ aP=>
  simp only[ns];rw[ak.get _ _ aa];simp only;have aq:=(av.own _ _ ab).1;have aq:H.mem.get _=some (.row _ _ false 0 0 false):=aq;unfold vw xn;simp only[aq,aY];rw[aP]
theorem Fn.ck{f:FuncId}{fn:Func}{c:Code}{args:List Value}{bU:aU}{du:Value->aU->an->Prop}(az:K.eK.get f=some fn)(ah:fn.body=some c)(aA:Nat.ble args.length fn.ntmps=true)
 (h:∀H,ad K (h7 bU H J) c ⟨fn.ntmps,xi,q5 args 0⟩ bU J fun e E m ae=>(e=.normal\/e=.ret)/\E.ds.ds=[]/\∃vs m',mw K.P E m ae fn.results.toList vs/\m'.Sublist m/\du (oz vs) m' ae):Fn K f args bU J du:=by
 intro H av;obtain⟨T,bx,bX,cy⟩:=FR (vs:=args) (i:=0) (n:=fn.ntmps) (F0 fn.ntmps) (by have:=gy aA;omega);have ak:Sat ⟨fn.ntmps,xi,q5 args 0⟩ ⟨T,fn.ntmps,[],false,.run,none⟩:=by
  refine⟨rfl,rfl,rfl,rfl,rfl,bX,fun t v q=>?_⟩;obtain⟨_,aN⟩:=FQ q;show T.get t=some v;have:t<args.length:=by
   rcases hr t args.length with r|r
   ·exact r
   ·rw[qT (by omega)] at aN;cases aN
  rw[cy,bg (by omega)];exact aN
 obtain⟨e,aB,H',E',cE,ae,a9,a4,bJ,cx,fL,vs,m',iT,l7,nE⟩:=h H _ H ak av;refine⟨oz vs,H',ae,m',?_,bJ.sub l7,nE⟩;have sI:aB.ds=[]:=a4.ds.trans fL;refine jn.run K.eB az ah bx a9 (bf:=aB.bf) ?_;have al:=iT.vt a4 bJ;rcases cx with rfl|rfl
 ·show nk aB.bf (gl K.P _ fn aB.T aB.ds .returning H')=_;rw[sI];unfold gl;rw[al];rfl
 ·show nk aB.bf (gl K.P _ fn aB.T aB.ds .returning H')=_;rw[sI];unfold gl;rw[al];rfl
end
end
end Go.Opn

/- A part of the proof of SampleParts. -/
import Derived.Test.YtdbhjgpppmkagaaGreatCar
set_option linter.unusedVariables false
set_option linter.unusedSimpArgs false
namespace Go.Opn
noncomputable section
open Go.Cre Go.RowKit
inductive wB {P:Program} (Q:db P) (ops:List Oper):List Oper->aQ->ao->dz->Prop
 |nil (S:aQ) (H:ao):wB Q ops [] S H (.ok S H)
 |cons (gQ:Code->aQ->ao->Option (Exit×aQ×ao)) (bc:eS) {o:Oper} {rest:List Oper} {S ba:aQ} {H H1:ao} {r:dz}:one P (j' Q bc) (hj Q gQ bc).aL ops S H o=some (.ok ba H1)->wB Q ops rest ba H1 r->wB Q ops (o::rest) S H r
 |jh (gQ:Code->aQ->ao->Option (Exit×aQ×ao)) (bc:eS) {o:Oper} {rest:List Oper} {S ba:aQ} {H H1:ao} {chain:List PanicEntry}:one P (j' Q bc) (hj Q gQ bc).aL ops S H o=some (.jh chain ba H1)->wB Q ops (o::rest) S H (.jh chain ba H1)
theorem wB.sound{P:Program}{Q:db P}{B:Nat->Prop}{w0:World}(hO:Q.ok B w0){ops:Array Oper}{fr:Frame}{k:List Item}{l:List Oper}{S:aQ}{H:ao}{cw:dz}(h:wB Q ops.toList l S H cw):∀(i:Nat) (μ:bH) (w:World) (tmps:Array Value) (ds:List Deferred) (cs:List Frame),
 ops.toList.drop i=l->bR P B w0 μ H w->hM μ S fr tmps ds cs->
 kL P B w0 μ H S fr cs (lone (bG fr tmps ds (.inRegion ops (List.range' i l.length)::k)) cs w) k cw:=by
 induction h with
 |nil S H=>
  intro i μ w tmps ds cs _ h aw;exact⟨μ,w,tmps,ds,cs,h,Step.refl _ _,aw,jH.refl _ _ aw.tQ,rfl,rfl,.one OC⟩
 |@cons gQ bc o rest S ba H H1 r nU _ aG=>
  intro i μ w tmps ds cs aS h aw;have an:ops[i]?=some o:=by
   have:(ops.toList.drop i)[0]?=some o:=by rw[aS];rfl
   simpa using this
  have vt:ops.toList.drop (i+1)=rest:=by
   have:(ops.toList.drop i).drop 1=rest:=by rw[aS];rfl
   rw[Aq] at this;exact this
  show kL P B w0 μ H S fr cs (lone (bG fr tmps ds (.inRegion ops (i::List.range' (i+1) rest.length)::k)) cs w) k r;have aa:=B8 (k:=k) (rest:=List.range' (i+1) rest.length) (KP bc hO) (JL (E:=hj Q gQ bc) (Hc gQ hO)) h aw an nU;exact aa.bind fun e' d' x9 ty gv b4 _ cg _ _ _=>aG (i+1) e' d' x9 ty gv vt b4 cg
 |@jh gQ bc o rest S ba H H1 chain nU=>
  intro i μ w tmps ds cs aS h aw;have an:ops[i]?=some o:=by
   have:(ops.toList.drop i)[0]?=some o:=by rw[aS];rfl
   simpa using this
  show kL P B w0 μ H S fr cs (lone (bG fr tmps ds (.inRegion ops (i::List.range' (i+1) rest.length)::k)) cs w) k _;exact B8 (k:=k) (rest:=List.range' (i+1) rest.length) (KP bc hO) (JL (E:=hj Q gQ bc) (Hc gQ hO)) h aw an nU
def Uv (S:aQ)(H:ao):Option (List PanicEntry)->dz
 |none=>.ok S H
 |some c=>.jh c S H
def Le:Option (List PanicEntry)->Exit
 |none=>.normal
 |some c=>.panic c
theorem dM.ops{P:Program}{Q:db P}{id:Nat}{ops:Array Oper}{S aO:aQ}{H H':ao}{p:Option (List PanicEntry)}(h:wB Q ops.toList ops.toList S H (Uv aO H' p)):dM Q (.region id ops false) S H (Le p) aO H':=by
 refine .mk fun B w0 hO μ w fr tmps ds cs k it gA fz al=>?_;obtain rfl:=al.plain (fun _ q=>by cases q);have:=h.sound (k:=k) (fr:=fr) hO 0 μ w tmps ds cs (by simp) gA fz;have aD:List.range' 0 ops.toList.length=List.range ops.size:=by rw[XO];simp
 rw[aD] at this;exact(Of (by cases p<;>rfl) this).steps (.one Wn)
structure eN where
 P:Program
 gI:aX Func
 dC:uP P gI
 Q:db P
 g0:Nat
abbrev aI:=List (Nat×cI)
section
variable {K:eN}{B:dO}
def W(K:eN)(B:dO)(ops rest:List Oper)(E:b9)(m:aI)(J:aA)(bD:Option (List PanicEntry)->b9->aI->aA->Prop):Prop:=
 ∀S H,Sat E S->Inv K.g0 B J m H->∃p aO H' E' m' ag,wB K.Q ops rest S H (Uv aO H' p)/\Sat E' aO/\Inv K.g0 B ag m' H'/\bD p E' m' ag
def ae(K:eN)(B:dO)(c:Code)(E:b9)(m:aI)(J:aA)(bD:Exit->b9->aI->aA->Prop):Prop:=
 ∀S H,Sat E S->Inv K.g0 B J m H->∃e aO H' E' m' ag,dM K.Q c S H e aO H'/\Sat E' aO/\Inv K.g0 B ag m' H'/\bD e E' m' ag
def Exec(K:eN)(B:dO)(o:Oper)(E:b9)(m:aI)(J:aA)(eF:b9->aI->aA->Prop):Prop:=
 ∀S H,Sat E S->Inv K.g0 B J m H->∃gQ bc aO H' E' m' ag,qs S H o.dst (cY K.P (j' K.Q bc) (hj K.Q gQ bc).aL S H o)=some (.ok aO H')/\Sat E' aO/\Inv K.g0 B ag m' H'/\eF E' m' ag
variable {ops rest:List Oper}{E:b9}{m m':aI}{J:aA}{o:Oper}{bD:Option (List PanicEntry)->b9->aI->aA->Prop}{eF:b9->aI->aA->Prop}{cx apl:Exit->b9->aI->aA->Prop}
theorem W.nil(h:bD none E m J):W K B ops [] E m J bD:=fun S H aC aE=>⟨none,S,H,E,m,J,.nil S H,aC,aE,h⟩
theorem W.step(ar:o.guard=none)(h:Exec K B o E m J fun E m J=>W K B ops rest E m J bD):W K B ops (o::rest) E m J bD:=by
 intro S H aC aE;obtain⟨gQ,bc,ba,H1,iX,ct,cN,aa,ab,aK,bh⟩:=h S H aC aE;obtain⟨p,aO,H',E',m',ag,a',bd,bz,cM⟩:=bh ba H1 ab aK;refine⟨p,aO,H',E',m',ag,.cons gQ bc ?_ a',bd,bz,cM⟩;unfold one fW;rw[ar];exact aa
def lz (ops:List Oper)(o:Oper):Option (Nat×Bool):=match o.guard with
 |some (j,want)=>(match nth ops j with|some p=>(match p.dst with|some d=>some (d,want)|none=>none)|none=>none)
 |none=>none
theorem Hv{S:aQ}{d:Nat}{want b:Bool}(ar:lz ops o=some (d,want))(ai:S.T.get d=some (.bool b)):fW ops S.T o=some (b==want):=by
 unfold lz at ar;unfold fW;cases q:o.guard with
 |none=>rw[q] at ar;cases ar
 |some x=>
  obtain⟨j,w⟩:=x;rw[q] at ar;show tJ ops S.T (j,w)=_;unfold tJ;simp only at ar ⊢;cases aM:nth ops j with
  |none=>rw[aM] at ar;cases ar
  |some p=>
   rw[aM] at ar;simp only at ar ⊢;cases aS:p.dst with
   |none=>rw[aS] at ar;cases ar
   |some kO=>
    rw[aS] at ar;simp only[b6,da] at ar;obtain⟨rfl,rfl⟩:=ar;simp only[ai]
theorem W.split{n:Nat}{ds:eQ}{l:List (Nat×Value)}{d:Nat}{b:Bool}(ai:look l d=some (.bool b))(aa:b=true->W K B ops rest ⟨n,ds,(d,.bool true)::l⟩ m J bD)(bt:b=false->W K B ops rest ⟨n,ds,(d,.bool false)::l⟩ m J bD):W K B ops rest ⟨n,ds,l⟩ m J bD:=by
 intro S H aC aE;have key:∀c:Bool,b=c->Sat ⟨n,ds,(d,.bool c)::l⟩ S:=fun c e=>by
  subst e;refine⟨aC.n,aC.ds,aC.b0,aC.b8,aC.cB,aC.has,fun t v q=>?_⟩;have aR:(bif Nat.beq t d then some (Value.bool b) else look l t)=some v:=q;cases cn:Nat.beq t d with
  |true=>rw[cn,cc] at aR;obtain rfl:=eK cn;rw[<-aR];exact aC.get _ _ ai
  |false=>rw[cn,dN] at aR;exact aC.get t v aR
 cases b with
 |true=>exact aa rfl S H (key true rfl) aE
 |false=>exact bt rfl S H (key false rfl) aE
theorem W.sk{n:Nat}{ds:eQ}{l:List (Nat×Value)}{d:Nat}{want b:Bool}(ar:lz ops o=some (d,want))(ai:look l d=some (.bool b))(hw:(b==want)=true)(h:Exec K B o ⟨n,ds,l⟩ m J fun E m J=>W K B ops rest E m J bD):W K B ops (o::rest) ⟨n,ds,l⟩ m J bD:=by
 intro S H aC aE;have dF:=Hv ar (aC.get d _ ai);obtain⟨gQ,bc,ba,H1,iX,ct,cN,aZ,aR,bY,ep⟩:=h S H aC aE;obtain⟨p,aO,H',E',m',ag,a',bd,bz,cM⟩:=ep ba H1 aR bY;refine⟨p,aO,H',E',m',ag,.cons gQ bc ?_ a',bd,bz,cM⟩;unfold one;rw[dF,hw];exact aZ
theorem W.p2{n:Nat}{ds:eQ}{l:List (Nat×Value)}{d e:Nat}{want b:Bool}(ar:lz ops o=some (d,want))(ai:look l d=some (.bool b))(hw:(b==want)=false)(aS:o.dst=some e)(aM:Nat.blt e n=true)(h:W K B ops rest ⟨n,ds,(e,undef)::l⟩ m J bD):W K B ops (o::rest) ⟨n,ds,l⟩ m J bD:=by
 intro S H aC aE;have dF:=Hv ar (aC.get d _ ai);obtain⟨ba,s1,s2⟩:=aC.put (dst:=some e) aM undef;obtain⟨p,aO,H',E',m',ag,a',bd,bz,cM⟩:=h ba H s2 aE;refine⟨p,aO,H',E',m',ag,.cons jz oK ?_ a',bd,bz,cM⟩;unfold one;rw[dF,hw];show n8 H (S.put o.dst undef)=_;rw[aS,s1];rfl
def iG(K:eN)(B:dO)(o:Oper)(E:b9)(m:aI)(J:aA)(eF:b9->aI->aA->Prop):Prop:=
 ∀S H,Sat E S->Inv K.g0 B J m H->∃aO H' E' m' ag,(∀call aL,qs S H o.dst (cY K.P call aL S H o)=some (.ok aO H'))/\Sat E' aO/\Inv K.g0 B ag m' H'/\eF E' m' ag
theorem Exec.of(h:iG K B o E m J eF):Exec K B o E m J eF:=fun S H aC aE=>by
 obtain⟨aO,H',E',m',ag,aa,ab,aK,bh⟩:=h S H aC aE;exact⟨jz,oK,aO,H',E',m',ag,aa _ _,ab,aK,bh⟩
theorem Exec.val{n:Nat}{ds:eQ}{l:List (Nat×Value)}{d:Nat}{v:Value}(aS:o.dst=some d)(aM:Nat.blt d n=true)(dU:∀call aL S H,Sat ⟨n,ds,l⟩ S->Inv K.g0 B J m H->cY K.P call aL S H o=some (.val v H))(h:eF ⟨n,ds,(d,v)::l⟩ m J):Exec K B o ⟨n,ds,l⟩ m J eF:=by
 intro S H aC aE;obtain⟨ba,s1,s2⟩:=aC.put (dst:=some d) aM v;refine⟨jz,oK,ba,H,_,m,J,?_,s2,aE,h⟩;rw[dU _ _ S H aC aE,aS];show n8 H (S.put (some d) v)=_;rw[s1];rfl
theorem iG.Ae{n:Nat}{ds:eQ}{l:List (Nat×Value)}{d:Nat}(aS:o.dst=some d)(aM:Nat.blt d n=true)(dU:∀S H,Sat ⟨n,ds,l⟩ S->Inv K.g0 B J m H->∃v H' m' ag,(∀call aL,cY K.P call aL S H o=some (.val v H'))/\Inv K.g0 B ag m' H'/\eF ⟨n,ds,(d,v)::l⟩ m' ag):iG K B o ⟨n,ds,l⟩ m J eF:=by
 intro S H aC aE;obtain⟨v,H',m',ag,a',bd,bz⟩:=dU S H aC aE;obtain⟨ba,s1,s2⟩:=aC.put (dst:=some d) aM v;refine⟨ba,H',_,m',ag,fun call aL=>?_,s2,bd,bz⟩;rw[a',aS];show n8 H' (S.put (some d) v)=_;rw[s1];rfl
theorem iG.skip{E:b9}(aS:o.dst=none)(dU:∀S H,Sat E S->Inv K.g0 B J m H->∃H' m' ag,(∀call aL,cY K.P call aL S H o=some (.skip H'))/\Inv K.g0 B ag m' H'/\eF E m' ag):iG K B o E m J eF:=by
 intro S H aC aE;obtain⟨H',m',ag,a',bd,bz⟩:=dU S H aC aE;refine⟨S,H',E,m',ag,fun call aL=>?_,aC,bd,bz⟩;rw[a',aS];rfl
theorem ae.region{id:Nat}{a:Array Oper}(h:W K B a.toList a.toList E m J fun p E m J=>cx (Le p) E m J):ae K B (.region id a false) E m J cx:=by
 intro S H aC aE;obtain⟨p,aO,H',E',m',ag,a',bd,bz,cM⟩:=h S H aC aE;exact⟨Le p,aO,H',E',m',ag,dM.ops a',bd,bz,cM⟩
theorem ae.skip(h:cx .normal E m J):ae K B .skip E m J cx:=fun S H aC aE=>⟨_,S,H,E,m,J,dM.skip K.dC.qm,aC,aE,h⟩
theorem ae.ret(h:cx .ret E m J):ae K B .ret E m J cx:=fun S H aC aE=>⟨_,S,H,E,m,J,dM.ret K.dC.qm,aC,aE,h⟩
theorem ae.exit{id:Nat}(h:cx (.exit id) E m J):ae K B (.exit id) E m J cx:=fun S H aC aE=>⟨_,S,H,E,m,J,dM.exit K.dC.qm,aC,aE,h⟩
abbrev aiU(K:eN)(B:dO)(b:Code)(cx:Exit->b9->aI->aA->Prop):Exit->b9->aI->aA->Prop:=fun e E m J=>match e with
 |.normal=>ae K B b E m J cx
 |e=>cx e E m J
theorem ae.seq{a b:Code}(h:ae K B a E m J (aiU K B b cx)):ae K B (.seq a b) E m J cx:=by
 intro S H aC aE;obtain⟨e,ba,H1,iX,ct,cN,aa,ab,aK,bh⟩:=h S H aC aE;cases e with
 |normal=>
  have bh:ae K B b iX ct cN cx:=bh;obtain⟨bn,aO,H',E',m',ag,a',bd,bz,cM⟩:=bh ba H1 ab aK;exact⟨bn,aO,H',E',m',ag,dM.seq aa a',bd,bz,cM⟩
 |exit i=>exact⟨_,ba,H1,iX,ct,cN,dM.FW aa (fun q=>by cases q),ab,aK,bh⟩
 |goto i=>exact⟨_,ba,H1,iX,ct,cN,dM.FW aa (fun q=>by cases q),ab,aK,bh⟩
 |ret=>exact⟨_,ba,H1,iX,ct,cN,dM.FW aa (fun q=>by cases q),ab,aK,bh⟩
 |panic c=>exact⟨_,ba,H1,iX,ct,cN,dM.FW aa (fun q=>by cases q),ab,aK,bh⟩
 |outgrown=>exact⟨_,ba,H1,iX,ct,cN,dM.FW aa (fun q=>by cases q),ab,aK,bh⟩
abbrev Yx(id:Nat)(cx:Exit->b9->aI->aA->Prop):Exit->b9->aI->aA->Prop:=fun e E m J=>match e with
 |.exit j=>if j=id then cx .normal E m J else cx (.exit j) E m J
 |e=>cx e E m J
theorem ae.block{id:Nat}{c:Code}(h:ae K B c E m J (Yx id cx)):ae K B (.block id c) E m J cx:=by
 intro S H aC aE;obtain⟨e,ba,H1,iX,ct,cN,aa,ab,aK,bh⟩:=h S H aC aE;refine⟨_,ba,H1,iX,ct,cN,dM.block K.dC.qm aa,ab,aK,?_⟩;cases e with
 |exit j=>
  have bh:if j=id then cx .normal iX ct cN else cx (.exit j) iX ct cN:=bh;show cx (if j=id then .normal else .exit j) iX ct cN;split at bh
  ·rename_i q;rw[aF q];exact bh
  ·rename_i q;rw[aq q];exact bh
 |_=>exact bh
def bW (l:List (Nat×Value)):Operand->Option Value
 |.tmp t=>look l t
 |.const v=>NS v
 |.global _=>none
 |.func f=>some (.func (.func f) #[] #[])
theorem ey{E:b9}{S:aQ}(aC:Sat E S)(H:ao){x:Operand}{v:Value}(h:bW E.l x=some v):a6 S.T H x=some v:=by
 cases x with
 |tmp t=>exact aC.get t v h
 |const c=>exact h
 |global g=>cases h
 |func f=>exact h
theorem ae.cond{n:Nat}{ds:eQ}{l:List (Nat×Value)}{x:Operand}{a b:Code}{t:Bool}(I:bW l x=some (.bool t))(aa:t=true->ae K B a ⟨n,ds,l⟩ m J cx)(bt:t=false->ae K B b ⟨n,ds,l⟩ m J cx):ae K B (.cond x a b) ⟨n,ds,l⟩ m J cx:=by
 intro S H aC aE;cases t with
 |true=>
  obtain⟨e,aO,H',E',m',ag,a',bd,bz,cM⟩:=aa rfl S H aC aE;exact⟨e,aO,H',E',m',ag,dM.cond K.dC.qm (ey aC H I) a',bd,bz,cM⟩
 |false=>
  obtain⟨e,aO,H',E',m',ag,a',bd,bz,cM⟩:=bt rfl S H aC aE;exact⟨e,aO,H',E',m',ag,dM.cond K.dC.qm (ey aC H I) a',bd,bz,cM⟩
theorem ae.Rd{n:Nat}{ds:eQ}{l:List (Nat×Value)}{x:Operand}{a b:Code}(I:bW l x=some (.bool true))(h:ae K B a ⟨n,ds,l⟩ m J cx):ae K B (.cond x a b) ⟨n,ds,l⟩ m J cx:=ae.cond I (fun _=>h) (fun q=>by cases q)
theorem ae.u4{n:Nat}{ds:eQ}{l:List (Nat×Value)}{x:Operand}{a b:Code}(I:bW l x=some (.bool false))(h:ae K B b ⟨n,ds,l⟩ m J cx):ae K B (.cond x a b) ⟨n,ds,l⟩ m J cx:=ae.cond I (fun q=>by cases q) (fun _=>h)
def oT(l:List (Nat×Value)):List (Nat×Value)->Prop
 |[]=>True
 |(t,v)::l'=>look l t=some v/\oT l l'
theorem oT.look{l:List (Nat×Value)}:∀{l':List (Nat×Value)},oT l l'->∀t v,look l' t=some v->look l t=some v:=by
 intro l';induction l' with
 |nil=>intro _ t v q;cases q
 |cons x l' aG=>
  obtain⟨u,w⟩:=x;intro h t v q;have aR:(bif Nat.beq t u then some w else Opn.look l' t)=some v:=q;cases ai:Nat.beq t u with
  |true=>
   rw[ai,cc] at aR;obtain rfl:=eK ai;injection aR with bY;rw[<-bY];exact h.1
  |false=>rw[ai,dN] at aR;exact aG h.2 t v aR
theorem Sat.sub{n:Nat}{ds:eQ}{l l':List (Nat×Value)}{S:aQ}(h:Sat ⟨n,ds,l⟩ S)(ay:oT l l'):Sat ⟨n,ds,l'⟩ S:=Sat.fy (E:=⟨n,ds,l⟩) h ay.look
theorem ae.fy{c:Code}{n:Nat}{ds:eQ}{l l':List (Nat×Value)}(ay:oT l l')(hm:m'.Sublist m)(h:ae K B c ⟨n,ds,l'⟩ m' J cx):ae K B c ⟨n,ds,l⟩ m J cx:=
 fun S H aC aE=>h S H (aC.sub ay) (aE.sub hm)
theorem ae.loop{α:Type}{c:Code}{n:Nat}{ds:eQ}(env:α->List (Nat×Value))(mem:α->aI)(fj:α->aA)(inv:α->Prop)(rC:α->Nat)
 (cp:∀s,inv s->ae K B c ⟨n,ds,env s⟩ (mem s) (fj s) fun e E m J=>match e with
  |.normal=>∃cZ l,inv cZ/\rC cZ<rC s/\E=⟨n,ds,l⟩/\oT l (env cZ)/\(mem cZ).Sublist m/\J=fj cZ
  |e=>cx e E m J)(s:α)(al:inv s):ae K B (.loop c) ⟨n,ds,env s⟩ (mem s) (fj s) cx:=by
 have key:∀(k:Nat) (s:α),rC s=k->inv s->ae K B (.loop c) ⟨n,ds,env s⟩ (mem s) (fj s) cx:=by
  intro k;induction k using Nat.strongRecOn with
  |_ k aG=>
   intro s aH al S H aC aE;obtain⟨e,ba,H1,iX,ct,cN,aa,ab,aK,bh⟩:=cp s al S H aC aE;cases e with
   |normal=>
    obtain⟨cZ,l,b4,bX,rfl,fJ,fV,rfl⟩:=bh;obtain⟨bn,aO,H',E',m',ag,a',bd,bz,cM⟩:=aG (rC cZ) (by omega) cZ rfl b4 ba H1 (ab.sub fJ) (aK.sub fV);exact⟨bn,aO,H',E',m',ag,dM.Uk aa a',bd,bz,cM⟩
   |exit i=>exact⟨_,ba,H1,iX,ct,cN,dM.uf aa (fun q=>by cases q),ab,aK,bh⟩
   |goto i=>exact⟨_,ba,H1,iX,ct,cN,dM.uf aa (fun q=>by cases q),ab,aK,bh⟩
   |ret=>exact⟨_,ba,H1,iX,ct,cN,dM.uf aa (fun q=>by cases q),ab,aK,bh⟩
   |panic c=>exact⟨_,ba,H1,iX,ct,cN,dM.uf aa (fun q=>by cases q),ab,aK,bh⟩
   |outgrown=>exact⟨_,ba,H1,iX,ct,cN,dM.uf aa (fun q=>by cases q),ab,aK,bh⟩
 exact key _ s rfl al
theorem ae.lH{c:Code}{a:Nat}{b:cI}{x:List Value×TypeId}(I:b.rowOf=some x)(h:J.le (J.add a x)->ae K B c E m (J.add a x) cx):ae K B c E ((a,b)::m) J cx:=by
 intro S H aC aE;obtain⟨a',bd⟩:=aE.lH I;exact h bd S H aC a'
def xB(m:aI)(a:Nat):Prop:=a∈ids m
def iO(a4:aI)(H:ao)(J:aA):dO:=⟨xB a4,fun a=>a∈a4.map Prod.fst,H,J⟩
def Fn(K:eN)(f:FuncId)(args:List Value)(a4:aI)(J:aA)(dT:Value->aI->aA->Prop):Prop:=
 ∀H,Inv K.g0 (iO a4 H J) J a4 H->∃v H' ag m',o0 K.Q f args H (.returned v) H'/\Inv K.g0 (iO a4 H J) ag m' H'/\dT v m' ag
abbrev vS(_:aI):Prop:=True
theorem Inv.enter{g0:Nat}{a4 b2:aI}{H:ao}(h:Inv g0 B J m H)(au:(a4++b2).Perm m)(gj:vS a4):Inv g0 (iO a4 H J) J a4 H:=by
 have kf:∀x,x∈a4->x∈m:=fun x q=>au.subset (rZ _ q);have dL:=(Ir au).nodup_iff.2 h.gD;rw[Iq,CX] at dL;refine⟨h.wf,h.bq,dH _,dH _,fun _ _ _=>rfl,fun _ _=>rfl,h.fj,aA.le.refl _,fun a x aZ aR=>?_,fun a b q=>?_,fun a b q x I=>?_,dL.1⟩
 ·have aZ:J a=none:=aZ;rw[aZ] at aR;cases aR
 ·obtain⟨a',bd,bz,cM⟩:=h.own a b (kf _ q);refine⟨?_,.inr (xz q),bz,cM⟩;cases b with
  |row=>exact a'
  |map=>exact a'
  |loop=>exact a'
  |gh=>exact a'
  |opn c e r z=>
   obtain⟨f,_,f2,f3⟩:=a';exact⟨f,.inr ⟨a,r,_,_,_,_,f3,f2,m8.2 ⟨_,q,rfl⟩⟩,f2,f3⟩
 ·obtain⟨a',bd,bz⟩:=h.opn a b (kf _ q) x I;exact⟨a',.inr (zC.2 ⟨_,q,.inr I⟩),bz⟩
theorem Inv.leave{g0:Nat}{a4 b2:aI}{H H':ao}{ag:aA}(h:Inv g0 B J m H)(au:(a4++b2).Perm m)(aH:Inv g0 (iO a4 H J) ag m' H'):Inv g0 B ag (m'++b2) H'/\J.le ag:=by
 have dL:=(Ir au).nodup_iff.2 h.gD;rw[Iq,CX] at dL;have Mw:∀a,a∈ids a4\/a∈ids b2->a∈ids m:=fun a q=>(Ir au).subset (by rw[Iq];exact lL.2 q);have HZ:∀a,xB a4 a->B.H0.af<=a\/B.X a:=fun a q=>h.UY (Mw a (.inl q));have vC:∀a,a∈ids b2->a<H.af/\¬xB a4 a:=fun a q=>⟨h.IE (Mw a (.inr q)),fun r=>dL.2.2 _ r _ q rfl⟩;have HW:∀a,a<H.af->¬xB a4 a->H'.mem.get a=H.mem.get a:=aH.e7;have gk:H.af<=H'.af:=aH.af;have MN:H.cd<=H'.cd:=aH.cd;have hle:J.le ag:=aH.le;have ke:∀a x,J a=none->ag a=some x->H.af<=a\/xB a4 a:=aH.fresh;have pi:∀f,dO.w6 (iO a4 H J) f->B.w6 f:=fun f q=>by
  rcases q with q|⟨a,r,c,e,z,s,aZ,aR,bY⟩
  ·exact .inl (m9 h.cd q)
  ·obtain⟨⟨bA,b⟩,kT,kw⟩:=m8.1 bY;have kw:bA=a:=kw;subst kw;have k:=(h.own bA b (au.subset (rZ _ kT))).1;have aR:H.mem.get bA=some (.row c e true f z s):=aR;cases b with
   |row=>have k:=aR.symm.trans k;cases k
   |map=>have k:=aR.symm.trans k;cases k
   |loop=>have k:=aR.symm.trans k;cases k
   |gh=>have k:=aR.symm.trans k;cases k
   |opn b1 bn b7 hT=>
    obtain⟨dj,a',bd,bz⟩:=k;have k:=aR.symm.trans bd;injection k with k;injection k with _ _ _ k
    rw[k];exact a'
 have Sj:∀a,a∈ids b2->ag a=none:=fun a q=>by
  cases aU:ag a with
  |none=>rfl
  |some x=>
   rcases ke a x (h.af9 (Mw a (.inr q))) aU with r|r
   ·have:=(vC a q).1;omega
   ·exact absurd r (vC a q).2
 refine⟨⟨aH.wf,aH.bq,m9 h.af gk,m9 h.cd MN,fun a aW jS=>?_,fun f aw=>?_,aH.fj,h.le.trans hle,fun a x aZ aR=>?_,fun a b q=>?_,fun a b q x I=>?_,?_⟩,hle⟩
 ·rw[HW a (uO aW h.af),h.e7 a aW jS];intro r;rcases HZ a r with q|q
  ·omega
  ·exact jS q
 ·rw[show H'.br.get f=H.br.get f from aH.lY f (fun q=>aw (pi f q))];exact h.lY f aw
 ·cases aU:J a with
  |none=>
   rcases ke a x aU aR with r|r
   ·exact .inl (m9 h.af r)
   ·exact HZ a r
  |some y=>exact h.fresh a y aZ aU
 ·rcases lL.1 q with q|q
  ·obtain⟨a',bd,bz,cM⟩:=aH.own a b q;refine⟨?_,?_,bz,cM⟩
   ·cases b with
    |row=>exact a'
    |map=>exact a'
    |loop=>exact a'
    |gh=>exact a'
    |opn c e r z=>obtain⟨f,f1,f2,f3⟩:=a';exact⟨f,pi f f1,f2,f3⟩
   ·rcases(show H.af<=a\/xB a4 a from bd) with r|r
    ·exact .inl (m9 h.af r)
    ·exact HZ a r
  ·obtain⟨a',bd,bz,cM⟩:=h.own a b (au.subset (lm _ q));have HL:=xz q;refine⟨cI.uT a' (HW a (vC a HL).1 (vC a HL).2) (fun f l aw=>?_),bd,Sj a HL,cM⟩;rw[show H'.br.get f=H.br.get f from aH.lY f (fun dt=>by
    rcases dt with dt|⟨bA,b7,_,_,_,_,aZ,_,bY⟩
    ·exact absurd (h.wf.DV aw) (Nat.not_lt.2 dt)
    ·have aZ:=aw.symm.trans aZ;injection aZ with aZ;injection aZ with aZ _
     subst aZ;obtain⟨⟨bA,b'⟩,kT,kw⟩:=m8.1 bY;have kw:bA=a:=kw;subst kw;exact(vC bA HL).2 (xz kT))];exact aw
 ·rcases lL.1 q with q|q
  ·obtain⟨a',bd,bz⟩:=aH.opn a b q x I;refine⟨a',?_,bz⟩;rcases(show H.af<=x\/xB a4 x from bd) with r|r
   ·exact .inl (m9 h.af r)
   ·exact HZ x r
  ·have hn:x∈ids b2:=zC.2 ⟨_,q,.inr I⟩;obtain⟨a',bd,bz⟩:=h.opn a b (au.subset (lm _ q)) x I;exact⟨uO a' gk,bd,Sj x hn⟩
 ·rw[Iq,CX];refine⟨aH.gD,dL.2.1,fun a aW b ai e=>?_⟩;subst e;rcases(show H.af<=a\/xB a4 a from aH.UY aW) with r|r
  ·have:=(vC a ai).1;omega
  ·exact(vC a ai).2 r
def il (l:List (Nat×Value)):List Operand->Option (List Value)
 |[]=>some []
 |x::r=>match bW l x with
  |some v=>(match il l r with|some vs=>some (v::vs)|none=>none)
  |none=>none
theorem o9{E:b9}{S:aQ}(aC:Sat E S)(H:ao):∀{xs:List Operand} {vs:List Value},il E.l xs=some vs->fQ S.T H xs=some vs:=by
 intro xs;induction xs with
 |nil=>intro vs h;exact h
 |cons x r aG=>
  intro vs h;simp only[il] at h;simp only[fQ];cases I:bW E.l x with
  |none=>rw[I] at h;cases h
  |some v=>
   rw[I] at h;simp only at h;rw[ey aC H I];simp only;cases ax:il E.l r with
   |none=>rw[ax] at h;cases h
   |some ws=>rw[ax] at h;simp only at h;rw[aG ax];exact h
theorem Exec.call{n:Nat}{ds:eQ}{l:List (Nat×Value)}{d:Nat}{c:Call}{x:Operand}{f:FuncId}{first cap:Array Value}{args bJ:List Value}{a4 b2:aI}{dT:Value->aI->aA->Prop}
 (an:o.op=.call c)(aS:o.dst=some d)(aM:Nat.blt d n=true)(av:c.callee=.value x)(I:bW l x=some (.func (.func f) first cap))(aW:il l c.args.toList=some args)(has:(first.toList++args)++cap.toList=bJ)
 (au:(a4++b2).Perm m)(gj:vS a4)(fz:Fn K f bJ a4 J dT)(h:∀v m' ag,J.le ag->dT v m' ag->eF ⟨n,ds,(d,v)::l⟩ (m'++b2) ag):Exec K B o ⟨n,ds,l⟩ m J eF:=by
 intro S H aC aE;obtain⟨v,H',ag,m',a',bd,bz⟩:=fz H (aE.enter au gj);obtain⟨cM,ha⟩:=aE.leave au bd;obtain⟨ba,s1,s2⟩:=aC.put (dst:=some d) aM v;refine⟨jz,mL f bJ H (.returned v,H'),ba,H',_,m'++b2,ag,?_,s2,cM,h v m' ag ha bz⟩;have he:cY K.P (j' K.Q (mL f bJ H (.returned v,H'))) (hj K.Q jz (mL f bJ H (.returned v,H'))).aL S H o=some (.val v H'):=by
  unfold cY fU;simp only[an];show lg K.P _ c=_;unfold lg;rw[av];show nh K.P _ _ S.T H c=_;unfold nh;rw[o9 aC H aW];simp only[av];rw[ey aC H I];simp only
  show(match mj K.P H (.func f) (first.toList++args) cap.toList with|some (f,bJ)=>q3 (j' K.Q _ f bJ H)|none=>none)=_
  unfold mj;simp only
  rw[has,AK a' (by unfold mL;rw[aF ⟨rfl,rfl,rfl⟩])];rfl
 rw[he,aS];show n8 H' (S.put (some d) v)=_;rw[s1];rfl
def yx:List Value->Nat->List (Nat×Value)
 |[],_=>[]
 |v::l,i=>(i,v)::yx l (Nat.succ i)
theorem Qv:∀{vs:List Value} {i t:Nat} {v:Value},look (yx vs i) t=some v->i<=t/\vs[t -i]?=some v:=by
 intro vs;induction vs with
 |nil=>intro i t v h;cases h
 |cons x l aG=>
  intro i t v h;have aR:(bif Nat.beq t i then some x else look (yx l (Nat.succ i)) t)=some v:=h;cases ai:Nat.beq t i with
  |true=>
   rw[ai,cc] at aR;obtain rfl:=eK ai;injection aR with bY
   exact⟨dH _,by simp[bY]⟩
  |false=>
   rw[ai,dN] at aR;obtain⟨aa,ab⟩:=aG aR;refine⟨by omega,?_⟩;rw[show t -i=(t -Nat.succ i)+1 by omega];exact ab
theorem Qw:∀{vs:List Value} {i n:Nat} {T:aX Value},T.has n->i+vs.length<=n->∃dP,qT vs i T=some dP/\dP.has n/\∀t,dP.get t=if i<=t/\t<i+vs.length then vs[t -i]? else T.get t:=by
 intro vs;induction vs with
 |nil=>intro i n T h _;exact⟨T,rfl,h,fun t=>by rw[aq (by rw[CT];omega)]⟩
 |cons x l aG=>
  intro i n T h ay;rw[j2] at ay;obtain⟨y,ah⟩:=h i (by omega);obtain⟨o3,dK⟩:=aX.FM (a:=x) ah;have aa:o3.has n:=fun t aN=>by
   rw[aX.get_put dK];split
   ·exact⟨_,rfl⟩
   ·exact h t aN
  obtain⟨dP,aD,a5,cC⟩:=aG (i:=i+1) aa (by omega);refine⟨dP,?_,a5,fun t=>?_⟩
  ·simp only[qT,aX.set];rw[dK];exact aD
  ·rw[cC t];by_cases q:i+1<=t/\t<i+1+l.length
   ·rw[aF q,aF (by rw[j2];omega),show t -i=(t -(i+1))+1 by omega];rfl
   ·rw[aq q,aX.get_put dK];by_cases aR:t=i
    ·subst aR;rw[aF rfl,aF (by rw[j2];omega)];simp
    ·rw[aq aR,aq (by rw[j2];omega)]
theorem aX.abw{α:Type}(a:α):∀(d n:Nat),n+1<2 ^ d->(aX.full a d).get n=some a:=by
 intro d;induction d with
 |zero=>intro n h;simp at h
 |succ d aG=>
  intro n h;show(aX.node (some a) (aX.full a d) (aX.full a d)).get n=some a;cases n with
  |zero=>rfl
  |succ n=>
   rw[aX.p1];have:n / 2+1<2 ^ d:=by rw[PZ] at h;omega
   split<;>exact aG _ this
theorem QI(n:Nat):(Cre.blank n).has n:=by
 intro t aN;refine⟨undef,aX.abw _ _ _ ?_⟩;unfold Lg;have aa:Nat.succ n<2 ^ (Nat.log2 (Nat.succ n)+1):=Nat.lt_log2_self;show t+1<2 ^ (Nat.log2 (Nat.succ n)+1);omega
inductive pO (P:Program) (E:b9) (m:aI) (J:aA):List ResultVar->List Value->Prop
 |nil:pO P E m J [] []
 |tmp {t:Tmp} {v:Value} {g1:List ResultVar} {vs:List Value}:look E.l t=some v->pO P E m J g1 vs->pO P E m J (.tmp t::g1) (v::vs)
 |cell {t:Tmp} {eV:TypeId} {a:Nat} {cells:List Value} {e:TypeId} {v:Value} {g1:List ResultVar} {vs:List Value}:look E.l t=some (.pointer (some ⟨a,0,none⟩))->(a,cI.row cells e)∈m->lS P eV cells 0=some v->pO P E m J g1 vs->pO P E m J (.cell t eV::g1) (v::vs)
theorem pO.RA{P:Program}{g0:Nat}{S:aQ}{H:ao}(aC:Sat E S)(aE:Inv g0 B J m H){g1:List ResultVar}{vs:List Value}(h:pO P E m J g1 vs):pb P S.T H g1=some vs:=by
 induction h with
 |nil=>rfl
 |tmp aa _ aG=>simp only[pb];rw[aC.get _ _ aa];simp only;rw[aG]
 |cell aa ab aK _ aG=>
  simp only[pb];rw[aC.get _ _ aa];simp only;have ar:=(aE.own _ _ ab).1;have ar:H.mem.get _=some (.row _ _ false 0 0 false):=ar;unfold yW AW;simp only[ar,aK];rw[aG]
theorem Fn.dw{f:FuncId}{fn:Func}{c:Code}{args:List Value}{a4:aI}{dT:Value->aI->aA->Prop}(aw:K.gI.get f=some fn)(ai:fn.body=some c)(ay:Nat.ble args.length fn.ntmps=true)
 (h:∀H,ae K (iO a4 H J) c ⟨fn.ntmps,Hg,yx args 0⟩ a4 J fun e E m ag=>(e=.normal\/e=.ret)/\E.ds.ds=[]/\∃vs m',pO K.P E m ag fn.results.toList vs/\m'.Sublist m/\dT (qt vs) m' ag):Fn K f args a4 J dT:=by
 intro H aE;obtain⟨T,bl,bF,bO⟩:=Qw (vs:=args) (i:=0) (n:=fn.ntmps) (QI fn.ntmps) (by have:=hC ay;omega);have aC:Sat ⟨fn.ntmps,Hg,yx args 0⟩ ⟨T,fn.ntmps,[],false,.run,none⟩:=by
  refine⟨rfl,rfl,rfl,rfl,rfl,bF,fun t v q=>?_⟩;obtain⟨_,aR⟩:=Qv q;show T.get t=some v;have:t<args.length:=by
   rcases jo t args.length with r|r
   ·exact r
   ·rw[hg (by omega)] at aR;cases aR
  rw[bO,aF (by omega)];exact aR
 obtain⟨e,aO,H',E',ct,ag,a',bd,bz,cM,ha,vs,m',ru,BS,BT⟩:=h H _ H aC aE;refine⟨qt vs,H',ag,m',?_,bz.sub BS,BT⟩;have Bd:aO.ds=[]:=bd.ds.trans ha;refine o0.run K.dC aw ai bl a' (b8:=aO.b8) ?_;have ax:=ru.RA bd bz;rcases cM with rfl|rfl
 ·show to aO.b8 (jN K.P _ fn aO.T aO.ds .returning H')=_;rw[Bd];unfold jN;rw[ax];rfl
 ·show to aO.b8 (jN K.P _ fn aO.T aO.ds .returning H')=_;rw[Bd];unfold jN;rw[ax];rfl
end
end
end Go.Opn

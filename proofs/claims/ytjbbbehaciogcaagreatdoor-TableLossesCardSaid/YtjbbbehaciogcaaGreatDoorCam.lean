/- A part of the proof of TableLosses. -/
import Derived.Test.YtjbbbehaciogcaaGreatDoorCal
set_option linter.unusedVariables false
set_option linter.unusedSimpArgs false
namespace Go.Opn
noncomputable section
open Go.Cre Go.RowKit
inductive zr {P:Program} (Q:c7 P) (ops:List Oper):List Oper->aZ->ar->dJ->Prop
 |nil (S:aZ) (H:ar):zr Q ops [] S H (.ok S H)
 |cons (eG:Code->aZ->ar->Option (Exit×aZ×ar)) (cE:eI) {o:Oper} {rest:List Oper} {S a4:aZ} {H H1:ar} {r:dJ}:one P (hJ Q cE) (fN Q eG cE).aJ ops S H o=some (.ok a4 H1)->zr Q ops rest a4 H1 r->zr Q ops (o::rest) S H r
 |gx (eG:Code->aZ->ar->Option (Exit×aZ×ar)) (cE:eI) {o:Oper} {rest:List Oper} {S a4:aZ} {H H1:ar} {chain:List PanicEntry}:one P (hJ Q cE) (fN Q eG cE).aJ ops S H o=some (.gx chain a4 H1)->zr Q ops (o::rest) S H (.gx chain a4 H1)
theorem zr.sound{P:Program}{Q:c7 P}{B:Nat->Prop}{w0:World}(gK:Q.ok B w0){ops:Array Oper}{fr:Frame}{k:List Item}{l:List Oper}{S:aZ}{H:ar}{c8:dJ}(h:zr Q ops.toList l S H c8):∀(i:Nat) (μ:bY) (w:World) (tmps:Array Value) (ds:List Deferred) (cs:List Frame),
 ops.toList.drop i=l->b8 P B w0 μ H w->il P μ S fr tmps ds cs->
 k' P B w0 μ H S fr cs (lone (bP fr tmps ds (.inRegion ops (List.range' i l.length)::k)) cs w) k c8:=by
 induction h with
 |nil S H=>
  intro i μ w tmps ds cs _ h aA;exact⟨μ,w,tmps,ds,cs,h,Step.refl _ _,aA,kh.refl _ _ aA.ui,rfl,rfl,.one UX⟩
 |@cons eG cE o rest S a4 H H1 r nw _ aP=>
  intro i μ w tmps ds cs au h aA;have ah:ops[i]?=some o:=by
   have:(ops.toList.drop i)[0]?=some o:=by rw[au];rfl
   simpa using this
  have B0:ops.toList.drop (i+1)=rest:=by
   have:(ops.toList.drop i).drop 1=rest:=by rw[au];rfl
   rw[zk] at this;exact this
  show k' P B w0 μ H S fr cs (lone (bP fr tmps ds (.inRegion ops (i::List.range' (i+1) rest.length)::k)) cs w) k r;have ad:=CT (k:=k) (rest:=List.range' (i+1) rest.length) (P9 cE gK) (Ov (E:=fN Q eG cE) (Ec eG gK)) h aA ah nw;exact ad.bind fun fA bl AH vQ gD b4 _ cH _ _ _=>aP (i+1) fA bl AH vQ gD B0 b4 cH
 |@gx eG cE o rest S a4 H H1 chain nw=>
  intro i μ w tmps ds cs au h aA;have ah:ops[i]?=some o:=by
   have:(ops.toList.drop i)[0]?=some o:=by rw[au];rfl
   simpa using this
  show k' P B w0 μ H S fr cs (lone (bP fr tmps ds (.inRegion ops (i::List.range' (i+1) rest.length)::k)) cs w) k _;exact CT (k:=k) (rest:=List.range' (i+1) rest.length) (P9 cE gK) (Ov (E:=fN Q eG cE) (Ec eG gK)) h aA ah nw
def abz (S:aZ)(H:ar):Option (List PanicEntry)->dJ
 |none=>.ok S H
 |some c=>.gx c S H
def QN:Option (List PanicEntry)->Exit
 |none=>.normal
 |some c=>.panic c
theorem dL.ops{P:Program}{Q:c7 P}{id:Nat}{ops:Array Oper}{S aH:aZ}{H H':ar}{p:Option (List PanicEntry)}(h:zr Q ops.toList ops.toList S H (abz aH H' p)):dL Q (.region id ops false) S H (QN p) aH H':=by
 refine .mk fun B w0 gK μ w fr tmps ds cs k it hV bM hs=>?_;obtain rfl:=hs.plain (fun _ q=>by cases q);have:=h.sound (k:=k) (fr:=fr) gK 0 μ w tmps ds cs (by simp) hV bM;have ax:List.range' 0 ops.toList.length=List.range ops.size:=by rw[afQ];simp
 rw[ax] at this;exact(Uy (by cases p<;>rfl) this).steps (.one adU)
structure dR where
 P:Program
 fE:a0 Func
 cI:tF P fE
 Q:c7 P
 g0:Nat
abbrev aN:=List (Nat×dI)
section
variable {K:dR}{B:dv}
def W(K:dR)(B:dv)(ops rest:List Oper)(E:ca)(m:aN)(J:aj)(bq:Option (List PanicEntry)->ca->aN->aj->Prop):Prop:=
 ∀S H,Sat E S->Inv K.g0 B J m H->∃p aH H' E' m' af,zr K.Q ops rest S H (abz aH H' p)/\Sat E' aH/\Inv K.g0 B af m' H'/\bq p E' m' af
def az(K:dR)(B:dv)(c:Code)(E:ca)(m:aN)(J:aj)(bq:Exit->ca->aN->aj->Prop):Prop:=
 ∀S H,Sat E S->Inv K.g0 B J m H->∃e aH H' E' m' af,dL K.Q c S H e aH H'/\Sat E' aH/\Inv K.g0 B af m' H'/\bq e E' m' af
def Exec(K:dR)(B:dv)(o:Oper)(E:ca)(m:aN)(J:aj)(fk:ca->aN->aj->Prop):Prop:=
 ∀S H,Sat E S->Inv K.g0 B J m H->∃eG cE aH H' E' m' af,oP S H o.dst (cz K.P (hJ K.Q cE) (fN K.Q eG cE).aJ S H o)=some (.ok aH H')/\Sat E' aH/\Inv K.g0 B af m' H'/\fk E' m' af
variable {ops rest:List Oper}{E:ca}{m m':aN}{J:aj}{o:Oper}{bq:Option (List PanicEntry)->ca->aN->aj->Prop}{fk:ca->aN->aj->Prop}{cw aBm:Exit->ca->aN->aj->Prop}
theorem W.nil(h:bq none E m J):W K B ops [] E m J bq:=fun S H al aB=>⟨none,S,H,E,m,J,.nil S H,al,aB,h⟩
theorem W.step(ay:o.guard=none)(h:Exec K B o E m J fun E m J=>W K B ops rest E m J bq):W K B ops (o::rest) E m J bq:=by
 intro S H al aB;obtain⟨eG,cE,a4,H1,eJ,cW,bu,ad,ae,aD,a6⟩:=h S H al aB;obtain⟨p,aH,H',E',m',af,aW,aT,bo,cu⟩:=a6 a4 H1 ae aD;refine⟨p,aH,H',E',m',af,.cons eG cE ?_ aW,aT,bo,cu⟩;unfold one fT;rw[ay];exact ad
def lg (ops:List Oper)(o:Oper):Option (Nat×Bool):=match o.guard with
 |some (j,want)=>(match nth ops j with|some p=>(match p.dst with|some d=>some (d,want)|none=>none)|none=>none)
 |none=>none
theorem Ex{S:aZ}{d:Nat}{want b:Bool}(ay:lg ops o=some (d,want))(ai:S.T.get d=some (.bool b)):fT ops S.T o=some (b==want):=by
 unfold lg at ay;unfold fT;cases q:o.guard with
 |none=>rw[q] at ay;cases ay
 |some x=>
  obtain⟨j,w⟩:=x;rw[q] at ay;show vY ops S.T (j,w)=_;unfold vY;simp only at ay ⊢;cases aE:nth ops j with
  |none=>rw[aE] at ay;cases ay
  |some p=>
   rw[aE] at ay;simp only at ay ⊢;cases au:p.dst with
   |none=>rw[au] at ay;cases ay
   |some lI=>
    rw[au] at ay;simp only[cn,dr] at ay;obtain⟨rfl,rfl⟩:=ay;simp only[ai]
theorem W.split{n:Nat}{ds:ee}{l:List (Nat×Value)}{d:Nat}{b:Bool}(ai:look l d=some (.bool b))(ad:b=true->W K B ops rest ⟨n,ds,(d,.bool true)::l⟩ m J bq)(aR:b=false->W K B ops rest ⟨n,ds,(d,.bool false)::l⟩ m J bq):W K B ops rest ⟨n,ds,l⟩ m J bq:=by
 intro S H al aB;have key:∀c:Bool,b=c->Sat ⟨n,ds,(d,.bool c)::l⟩ S:=fun c e=>by
  subst e;refine⟨al.n,al.ds,al.bR,al.bg,al.cr,al.has,fun t v q=>?_⟩;have aG:(bif Nat.beq t d then some (Value.bool b) else look l t)=some v:=q;cases bQ:Nat.beq t d with
  |true=>rw[bQ,cd] at aG;obtain rfl:=ez bQ;rw[<-aG];exact al.get _ _ ai
  |false=>rw[bQ,dK] at aG;exact al.get t v aG
 cases b with
 |true=>exact ad rfl S H (key true rfl) aB
 |false=>exact aR rfl S H (key false rfl) aB
theorem W.LR{n:Nat}{ds:ee}{l:List (Nat×Value)}{d:Nat}{want b:Bool}(ay:lg ops o=some (d,want))(ai:look l d=some (.bool b))(hw:(b==want)=true)(h:Exec K B o ⟨n,ds,l⟩ m J fun E m J=>W K B ops rest E m J bq):W K B ops (o::rest) ⟨n,ds,l⟩ m J bq:=by
 intro S H al aB;have ea:=Ex ay (al.get d _ ai);obtain⟨eG,cE,a4,H1,eJ,cW,bu,aL,aG,bt,du⟩:=h S H al aB;obtain⟨p,aH,H',E',m',af,aW,aT,bo,cu⟩:=du a4 H1 aG bt;refine⟨p,aH,H',E',m',af,.cons eG cE ?_ aW,aT,bo,cu⟩;unfold one;rw[ea,hw];exact aL
theorem W.YA{n:Nat}{ds:ee}{l:List (Nat×Value)}{d e:Nat}{want b:Bool}(ay:lg ops o=some (d,want))(ai:look l d=some (.bool b))(hw:(b==want)=false)(au:o.dst=some e)(aE:Nat.blt e n=true)(h:W K B ops rest ⟨n,ds,(e,undef)::l⟩ m J bq):W K B ops (o::rest) ⟨n,ds,l⟩ m J bq:=by
 intro S H al aB;have ea:=Ex ay (al.get d _ ai);obtain⟨a4,s1,s2⟩:=al.put (dst:=some e) aE undef;obtain⟨p,aH,H',E',m',af,aW,aT,bo,cu⟩:=h a4 H s2 aB;refine⟨p,aH,H',E',m',af,.cons gQ kL ?_ aW,aT,bo,cu⟩;unfold one;rw[ea,hw];show ob H (S.put o.dst undef)=_;rw[au,s1];rfl
theorem W.al9{n:Nat}{ds:ee}{l:List (Nat×Value)}{d:Nat}{want b:Bool}(ay:lg ops o=some (d,want))(ai:look l d=some (.bool b))(hw:(b==want)=false)(au:o.dst=none)(h:W K B ops rest ⟨n,ds,l⟩ m J bq):W K B ops (o::rest) ⟨n,ds,l⟩ m J bq:=by
 intro S H al aB;have ea:=Ex ay (al.get d _ ai);obtain⟨p,aH,H',E',m',af,aW,aT,bo,cu⟩:=h S H al aB;refine⟨p,aH,H',E',m',af,.cons gQ kL ?_ aW,aT,bo,cu⟩;unfold one;rw[ea,hw];show ob H (S.put o.dst undef)=_;rw[au];rfl
def jW(K:dR)(B:dv)(o:Oper)(E:ca)(m:aN)(J:aj)(fk:ca->aN->aj->Prop):Prop:=
 ∀S H,Sat E S->Inv K.g0 B J m H->∃aH H' E' m' af,(∀call aJ,oP S H o.dst (cz K.P call aJ S H o)=some (.ok aH H'))/\Sat E' aH/\Inv K.g0 B af m' H'/\fk E' m' af
theorem Exec.of(h:jW K B o E m J fk):Exec K B o E m J fk:=fun S H al aB=>by
 obtain⟨aH,H',E',m',af,ad,ae,aD,a6⟩:=h S H al aB;exact⟨gQ,kL,aH,H',E',m',af,ad _ _,ae,aD,a6⟩
theorem Exec.val{n:Nat}{ds:ee}{l:List (Nat×Value)}{d:Nat}{v:Value}(au:o.dst=some d)(aE:Nat.blt d n=true)(eu:∀call aJ S H,Sat ⟨n,ds,l⟩ S->Inv K.g0 B J m H->cz K.P call aJ S H o=some (.val v H))(h:fk ⟨n,ds,(d,v)::l⟩ m J):Exec K B o ⟨n,ds,l⟩ m J fk:=by
 intro S H al aB;obtain⟨a4,s1,s2⟩:=al.put (dst:=some d) aE v;refine⟨gQ,kL,a4,H,_,m,J,?_,s2,aB,h⟩;rw[eu _ _ S H al aB,au];show ob H (S.put (some d) v)=_;rw[s1];rfl
theorem jW.Dg{n:Nat}{ds:ee}{l:List (Nat×Value)}{d:Nat}(au:o.dst=some d)(aE:Nat.blt d n=true)(eu:∀S H,Sat ⟨n,ds,l⟩ S->Inv K.g0 B J m H->∃v H' m' af,(∀call aJ,cz K.P call aJ S H o=some (.val v H'))/\Inv K.g0 B af m' H'/\fk ⟨n,ds,(d,v)::l⟩ m' af):jW K B o ⟨n,ds,l⟩ m J fk:=by
 intro S H al aB;obtain⟨v,H',m',af,aW,aT,bo⟩:=eu S H al aB;obtain⟨a4,s1,s2⟩:=al.put (dst:=some d) aE v;refine⟨a4,H',_,m',af,fun call aJ=>?_,s2,aT,bo⟩;rw[aW,au];show ob H' (S.put (some d) v)=_;rw[s1];rfl
theorem jW.skip{E:ca}(au:o.dst=none)(eu:∀S H,Sat E S->Inv K.g0 B J m H->∃H' m' af,(∀call aJ,cz K.P call aJ S H o=some (.skip H'))/\Inv K.g0 B af m' H'/\fk E m' af):jW K B o E m J fk:=by
 intro S H al aB;obtain⟨H',m',af,aW,aT,bo⟩:=eu S H al aB;refine⟨S,H',E,m',af,fun call aJ=>?_,al,aT,bo⟩;rw[aW,au];rfl
theorem az.region{id:Nat}{a:Array Oper}(h:W K B a.toList a.toList E m J fun p E m J=>cw (QN p) E m J):az K B (.region id a false) E m J cw:=by
 intro S H al aB;obtain⟨p,aH,H',E',m',af,aW,aT,bo,cu⟩:=h S H al aB;exact⟨QN p,aH,H',E',m',af,dL.ops aW,aT,bo,cu⟩
theorem az.skip(h:cw .normal E m J):az K B .skip E m J cw:=fun S H al aB=>⟨_,S,H,E,m,J,dL.skip K.cI.re,al,aB,h⟩
theorem az.ret(h:cw .ret E m J):az K B .ret E m J cw:=fun S H al aB=>⟨_,S,H,E,m,J,dL.ret K.cI.re,al,aB,h⟩
theorem az.exit{id:Nat}(h:cw (.exit id) E m J):az K B (.exit id) E m J cw:=fun S H al aB=>⟨_,S,H,E,m,J,dL.exit K.cI.re,al,aB,h⟩
abbrev aue(K:dR)(B:dv)(b:Code)(cw:Exit->ca->aN->aj->Prop):Exit->ca->aN->aj->Prop:=fun e E m J=>match e with
 |.normal=>az K B b E m J cw
 |e=>cw e E m J
theorem az.seq{a b:Code}(h:az K B a E m J (aue K B b cw)):az K B (.seq a b) E m J cw:=by
 intro S H al aB;obtain⟨e,a4,H1,eJ,cW,bu,ad,ae,aD,a6⟩:=h S H al aB;cases e with
 |normal=>
  have a6:az K B b eJ cW bu cw:=a6;obtain⟨bD,aH,H',E',m',af,aW,aT,bo,cu⟩:=a6 a4 H1 ae aD;exact⟨bD,aH,H',E',m',af,dL.seq ad aW,aT,bo,cu⟩
 |exit i=>exact⟨_,a4,H1,eJ,cW,bu,dL.JW ad (fun q=>by cases q),ae,aD,a6⟩
 |goto i=>exact⟨_,a4,H1,eJ,cW,bu,dL.JW ad (fun q=>by cases q),ae,aD,a6⟩
 |ret=>exact⟨_,a4,H1,eJ,cW,bu,dL.JW ad (fun q=>by cases q),ae,aD,a6⟩
 |panic c=>exact⟨_,a4,H1,eJ,cW,bu,dL.JW ad (fun q=>by cases q),ae,aD,a6⟩
 |outgrown=>exact⟨_,a4,H1,eJ,cW,bu,dL.JW ad (fun q=>by cases q),ae,aD,a6⟩
abbrev ag3(id:Nat)(cw:Exit->ca->aN->aj->Prop):Exit->ca->aN->aj->Prop:=fun e E m J=>match e with
 |.exit j=>if j=id then cw .normal E m J else cw (.exit j) E m J
 |e=>cw e E m J
theorem az.block{id:Nat}{c:Code}(h:az K B c E m J (ag3 id cw)):az K B (.block id c) E m J cw:=by
 intro S H al aB;obtain⟨e,a4,H1,eJ,cW,bu,ad,ae,aD,a6⟩:=h S H al aB;refine⟨_,a4,H1,eJ,cW,bu,dL.block K.cI.re ad,ae,aD,?_⟩;cases e with
 |exit j=>
  have a6:if j=id then cw .normal eJ cW bu else cw (.exit j) eJ cW bu:=a6;show cw (if j=id then .normal else .exit j) eJ cW bu;split at a6
  ·rename_i q;rw[aV q];exact a6
  ·rename_i q;rw[aQ q];exact a6
 |_=>exact a6
def bJ (l:List (Nat×Value)):Operand->Option Value
 |.tmp t=>look l t
 |.const v=>Ue v
 |.global _=>none
 |.func f=>some (.func (.func f) #[] #[])
theorem de{E:ca}{S:aZ}(al:Sat E S)(H:ar){x:Operand}{v:Value}(h:bJ E.l x=some v):a3 S.T H x=some v:=by
 cases x with
 |tmp t=>exact al.get t v h
 |const c=>exact h
 |global g=>cases h
 |func f=>exact h
theorem az.cond{n:Nat}{ds:ee}{l:List (Nat×Value)}{x:Operand}{a b:Code}{t:Bool}(aa:bJ l x=some (.bool t))(ad:t=true->az K B a ⟨n,ds,l⟩ m J cw)(aR:t=false->az K B b ⟨n,ds,l⟩ m J cw):az K B (.cond x a b) ⟨n,ds,l⟩ m J cw:=by
 intro S H al aB;cases t with
 |true=>
  obtain⟨e,aH,H',E',m',af,aW,aT,bo,cu⟩:=ad rfl S H al aB;exact⟨e,aH,H',E',m',af,dL.cond K.cI.re (de al H aa) aW,aT,bo,cu⟩
 |false=>
  obtain⟨e,aH,H',E',m',af,aW,aT,bo,cu⟩:=aR rfl S H al aB;exact⟨e,aH,H',E',m',af,dL.cond K.cI.re (de al H aa) aW,aT,bo,cu⟩
theorem az.aiA{n:Nat}{ds:ee}{l:List (Nat×Value)}{x:Operand}{a b:Code}(aa:bJ l x=some (.bool true))(h:az K B a ⟨n,ds,l⟩ m J cw):az K B (.cond x a b) ⟨n,ds,l⟩ m J cw:=az.cond aa (fun _=>h) (fun q=>by cases q)
theorem az.aiz{n:Nat}{ds:ee}{l:List (Nat×Value)}{x:Operand}{a b:Code}(aa:bJ l x=some (.bool false))(h:az K B b ⟨n,ds,l⟩ m J cw):az K B (.cond x a b) ⟨n,ds,l⟩ m J cw:=az.cond aa (fun q=>by cases q) (fun _=>h)
def lv(l:List (Nat×Value)):List (Nat×Value)->Prop
 |[]=>True
 |(t,v)::l'=>look l t=some v/\lv l l'
theorem lv.look{l:List (Nat×Value)}:∀{l':List (Nat×Value)},lv l l'->∀t v,look l' t=some v->look l t=some v:=by
 intro l';induction l' with
 |nil=>intro _ t v q;cases q
 |cons x l' aP=>
  obtain⟨u,w⟩:=x;intro h t v q;have aG:(bif Nat.beq t u then some w else Opn.look l' t)=some v:=q;cases ai:Nat.beq t u with
  |true=>
   rw[ai,cd] at aG;obtain rfl:=ez ai;injection aG with bt;rw[<-bt];exact h.1
  |false=>rw[ai,dK] at aG;exact aP h.2 t v aG
theorem Sat.sub{n:Nat}{ds:ee}{l l':List (Nat×Value)}{S:aZ}(h:Sat ⟨n,ds,l⟩ S)(aq:lv l l'):Sat ⟨n,ds,l'⟩ S:=Sat.Ok (E:=⟨n,ds,l⟩) h aq.look
theorem az.Ok{c:Code}{n:Nat}{ds:ee}{l l':List (Nat×Value)}(aq:lv l l')(hm:m'.Sublist m)(h:az K B c ⟨n,ds,l'⟩ m' J cw):az K B c ⟨n,ds,l⟩ m J cw:=
 fun S H al aB=>h S H (al.sub aq) (aB.sub hm)
theorem az.loop{α:Type}{c:Code}{n:Nat}{ds:ee}(env:α->List (Nat×Value))(mem:α->aN)(ei:α->aj)(inv:α->Prop)(td:α->Nat)
 (a7:∀s,inv s->az K B c ⟨n,ds,env s⟩ (mem s) (ei s) fun e E m J=>match e with
  |.normal=>∃cM l,inv cM/\td cM<td s/\E=⟨n,ds,l⟩/\lv l (env cM)/\(mem cM).Sublist m/\J=ei cM
  |e=>cw e E m J)(s:α)(hs:inv s):az K B (.loop c) ⟨n,ds,env s⟩ (mem s) (ei s) cw:=by
 have key:∀(k:Nat) (s:α),td s=k->inv s->az K B (.loop c) ⟨n,ds,env s⟩ (mem s) (ei s) cw:=by
  intro k;induction k using Nat.strongRecOn with
  |_ k aP=>
   intro s hk hs S H al aB;obtain⟨e,a4,H1,eJ,cW,bu,ad,ae,aD,a6⟩:=a7 s hs S H al aB;cases e with
   |normal=>
    obtain⟨cM,l,b4,bZ,rfl,fX,gf,rfl⟩:=a6;obtain⟨bD,aH,H',E',m',af,aW,aT,bo,cu⟩:=aP (td cM) (by omega) cM rfl b4 a4 H1 (ae.sub fX) (aD.sub gf);exact⟨bD,aH,H',E',m',af,dL.aa4 ad aW,aT,bo,cu⟩
   |exit i=>exact⟨_,a4,H1,eJ,cW,bu,dL.wD ad (fun q=>by cases q),ae,aD,a6⟩
   |goto i=>exact⟨_,a4,H1,eJ,cW,bu,dL.wD ad (fun q=>by cases q),ae,aD,a6⟩
   |ret=>exact⟨_,a4,H1,eJ,cW,bu,dL.wD ad (fun q=>by cases q),ae,aD,a6⟩
   |panic c=>exact⟨_,a4,H1,eJ,cW,bu,dL.wD ad (fun q=>by cases q),ae,aD,a6⟩
   |outgrown=>exact⟨_,a4,H1,eJ,cW,bu,dL.wD ad (fun q=>by cases q),ae,aD,a6⟩
 exact key _ s rfl hs
theorem az.ie{c:Code}{a:Nat}{b:dI}{x:List Value×TypeId}(aa:b.rowOf=some x)(h:J.le (J.add a x)->az K B c E m (J.add a x) cw):az K B c E ((a,b)::m) J cw:=by
 intro S H al aB;obtain⟨aW,aT⟩:=aB.ie aa;exact h aT S H al aW
def wz(m:aN)(a:Nat):Prop:=a∈ids m
def iH(bm:aN)(H:ar)(J:aj):dv:=⟨wz bm,fun a=>a∈bm.map Prod.fst,H,J⟩
def Fn(K:dR)(f:FuncId)(args:List Value)(bm:aN)(J:aj)(dY:Value->aN->aj->Prop):Prop:=
 ∀H,Inv K.g0 (iH bm H J) J bm H->∃v H' af m',jV K.Q f args H (.returned v) H'/\Inv K.g0 (iH bm H J) af m' H'/\dY v m' af
abbrev Al(_:aN):Prop:=True
theorem Inv.enter{g0:Nat}{bm cN:aN}{H:ar}(h:Inv g0 B J m H)(aw:(bm++cN).Perm m)(e6:Al bm):Inv g0 (iH bm H J) J bm H:=by
 have r3:∀x,x∈bm->x∈m:=fun x q=>aw.subset (om _ q);have eh:=(MO aw).nodup_iff.2 h.gF;rw[MN,KN] at eh;refine⟨h.wf,h.bL,bU _,bU _,fun _ _ _=>rfl,fun _ _=>rfl,h.ei,aj.le.refl _,fun a x aL aG=>?_,fun a b q=>?_,fun a b q x aa=>?_,eh.1⟩
 ·have aL:J a=none:=aL;rw[aL] at aG;cases aG
 ·obtain⟨aW,aT,bo,cu⟩:=h.own a b (r3 _ q);refine⟨?_,.inr (Ag q),bo,cu⟩;cases b with
  |row=>exact aW
  |map=>exact aW
  |loop=>exact aW
  |gP=>exact aW
  |opn c e r z=>
   obtain⟨f,_,f2,f3⟩:=aW;exact⟨f,.inr ⟨a,r,_,_,_,_,f3,f2,A1.2 ⟨_,q,rfl⟩⟩,f2,f3⟩
 ·obtain⟨aW,aT,bo⟩:=h.opn a b (r3 _ q) x aa;exact⟨aW,.inr (Cu.2 ⟨_,q,.inr aa⟩),bo⟩
theorem Inv.leave{g0:Nat}{bm cN:aN}{H H':ar}{af:aj}(h:Inv g0 B J m H)(aw:(bm++cN).Perm m)(hk:Inv g0 (iH bm H J) af m' H'):Inv g0 B af (m'++cN) H'/\J.le af:=by
 have eh:=(MO aw).nodup_iff.2 h.gF;rw[MN,KN] at eh;have R8:∀a,a∈ids bm\/a∈ids cN->a∈ids m:=fun a q=>(MO aw).subset (by rw[MN];exact nh.2 q);have Mt:∀a,wz bm a->B.H0.an<=a\/B.X a:=fun a q=>h.acu (R8 a (.inl q));have Cb:∀a,a∈ids cN->a<H.an/\¬wz bm a:=fun a q=>⟨h.M3 (R8 a (.inr q)),fun r=>eh.2.2 _ r _ q rfl⟩;have Ig:∀a,a<H.an->¬wz bm a->H'.mem.get a=H.mem.get a:=hk.gn;have h6:H.an<=H'.an:=hk.an;have Ss:H.cy<=H'.cy:=hk.cy;have hle:J.le af:=hk.le;have k2:∀a x,J a=none->af a=some x->H.an<=a\/wz bm a:=hk.fresh;have q2:∀f,dv.zM (iH bm H J) f->B.zM f:=fun f q=>by
  rcases q with q|⟨a,r,c,e,z,s,aL,aG,bt⟩
  ·exact .inl (cX h.cy q)
  ·obtain⟨⟨b0,b⟩,pc,j5⟩:=A1.1 bt;have j5:b0=a:=j5;subst j5;have k:=(h.own b0 b (aw.subset (om _ pc))).1;have aG:H.mem.get b0=some (.row c e true f z s):=aG;cases b with
   |row=>have k:=aG.symm.trans k;cases k
   |map=>have k:=aG.symm.trans k;cases k
   |loop=>have k:=aG.symm.trans k;cases k
   |gP=>have k:=aG.symm.trans k;cases k
   |opn c' bD cv hF=>
    obtain⟨cF,aW,aT,bo⟩:=k;have k:=aG.symm.trans aT;injection k with k;injection k with _ _ _ k
    rw[k];exact aW
 have sR:∀a,a∈ids cN->af a=none:=fun a q=>by
  cases aX:af a with
  |none=>rfl
  |some x=>
   rcases k2 a x (h.ars (R8 a (.inr q))) aX with r|r
   ·have:=(Cb a q).1;omega
   ·exact absurd r (Cb a q).2
 refine⟨⟨hk.wf,hk.bL,cX h.an h6,cX h.cy Ss,fun a aF ft=>?_,fun f aA=>?_,hk.ei,h.le.trans hle,fun a x aL aG=>?_,fun a b q=>?_,fun a b q x aa=>?_,?_⟩,hle⟩
 ·rw[Ig a (iM aF h.an),h.gn a aF ft];intro r;rcases Mt a r with q|q
  ·omega
  ·exact ft q
 ·rw[show H'.bF.get f=H.bF.get f from hk.nB f (fun q=>aA (q2 f q))];exact h.nB f aA
 ·cases aX:J a with
  |none=>
   rcases k2 a x aX aG with r|r
   ·exact .inl (cX h.an r)
   ·exact Mt a r
  |some y=>exact h.fresh a y aL aX
 ·rcases nh.1 q with q|q
  ·obtain⟨aW,aT,bo,cu⟩:=hk.own a b q;refine⟨?_,?_,bo,cu⟩
   ·cases b with
    |row=>exact aW
    |map=>exact aW
    |loop=>exact aW
    |gP=>exact aW
    |opn c e r z=>obtain⟨f,f1,f2,f3⟩:=aW;exact⟨f,q2 f f1,f2,f3⟩
   ·rcases(show H.an<=a\/wz bm a from aT) with r|r
    ·exact .inl (cX h.an r)
    ·exact Mt a r
  ·obtain⟨aW,aT,bo,cu⟩:=h.own a b (aw.subset (ki _ q));have Me:=Ag q;refine⟨dI.xo aW (Ig a (Cb a Me).1 (Cb a Me).2) (fun f l aA=>?_),aT,sR a Me,cu⟩;rw[show H'.bF.get f=H.bF.get f from hk.nB f (fun dG=>by
    rcases dG with dG|⟨b0,cv,_,_,_,_,aL,_,bt⟩
    ·exact absurd (h.wf.Hz aA) (O7.2 dG)
    ·have aL:=aA.symm.trans aL;injection aL with aL;injection aL with aL _
     subst aL;obtain⟨⟨b0,b'⟩,pc,j5⟩:=A1.1 bt;have j5:b0=a:=j5;subst j5;exact(Cb b0 Me).2 (Ag pc))];exact aA
 ·rcases nh.1 q with q|q
  ·obtain⟨aW,aT,bo⟩:=hk.opn a b q x aa;refine⟨aW,?_,bo⟩;rcases(show H.an<=x\/wz bm x from aT) with r|r
   ·exact .inl (cX h.an r)
   ·exact Mt x r
  ·have jB:x∈ids cN:=Cu.2 ⟨_,q,.inr aa⟩;obtain⟨aW,aT,bo⟩:=h.opn a b (aw.subset (ki _ q)) x aa;exact⟨iM aW h6,aT,sR x jB⟩
 ·rw[MN,KN];refine⟨hk.gF,eh.2.1,fun a aF b ai e=>?_⟩;subst e;rcases(show H.an<=a\/wz bm a from hk.acu aF) with r|r
  ·have:=(Cb a ai).1;omega
  ·exact(Cb a ai).2 r
def h4 (l:List (Nat×Value)):List Operand->Option (List Value)
 |[]=>some []
 |x::r=>match bJ l x with
  |some v=>(match h4 l r with|some vs=>some (v::vs)|none=>none)
  |none=>none
theorem oB{E:ca}{S:aZ}(al:Sat E S)(H:ar):∀{xs:List Operand} {vs:List Value},h4 E.l xs=some vs->fL S.T H xs=some vs:=by
 intro xs;induction xs with
 |nil=>intro vs h;exact h
 |cons x r aP=>
  intro vs h;simp only[h4] at h;simp only[fL];cases aa:bJ E.l x with
  |none=>rw[aa] at h;cases h
  |some v=>
   rw[aa] at h;simp only at h;rw[de al H aa];simp only;cases ao:h4 E.l r with
   |none=>rw[ao] at h;cases h
   |some ws=>rw[ao] at h;simp only at h;rw[aP ao];exact h
theorem Exec.call{n:Nat}{ds:ee}{l:List (Nat×Value)}{d:Nat}{c:Call}{x:Operand}{f:FuncId}{first cap:Array Value}{args bO:List Value}{bm cN:aN}{dY:Value->aN->aj->Prop}
 (ah:o.op=.call c)(au:o.dst=some d)(aE:Nat.blt d n=true)(aC:c.callee=.value x)(aa:bJ l x=some (.func (.func f) first cap))(aF:h4 l c.args.toList=some args)(has:(first.toList++args)++cap.toList=bO)
 (aw:(bm++cN).Perm m)(e6:Al bm)(bM:Fn K f bO bm J dY)(h:∀v m' af,J.le af->dY v m' af->fk ⟨n,ds,(d,v)::l⟩ (m'++cN) af):Exec K B o ⟨n,ds,l⟩ m J fk:=by
 intro S H al aB;obtain⟨v,H',af,m',aW,aT,bo⟩:=bM H (aB.enter aw e6);obtain⟨cu,fm⟩:=aB.leave aw aT;obtain⟨a4,s1,s2⟩:=al.put (dst:=some d) aE v;refine⟨gQ,kW f bO H (.returned v,H'),a4,H',_,m'++cN,af,?_,s2,cu,h v m' af fm bo⟩;have he:cz K.P (hJ K.Q (kW f bO H (.returned v,H'))) (fN K.Q gQ (kW f bO H (.returned v,H'))).aJ S H o=some (.val v H'):=by
  unfold cz e4;simp only[ah];show kN K.P _ c=_;unfold kN;rw[aC];show nm K.P _ _ S.T H c=_;unfold nm;rw[oB al H aF];simp only[aC];rw[de al H aa];simp only
  show(match kY K.P H (.func f) (first.toList++args) cap.toList with|some (f,bO)=>oA (hJ K.Q _ f bO H)|none=>none)=_
  unfold kY;simp only
  rw[has,Bi aW (by unfold kW;rw[aV ⟨rfl,rfl,rfl⟩])];rfl
 rw[he,au];show ob H' (S.put (some d) v)=_;rw[s1];rfl
def tK:List Value->Nat->List (Nat×Value)
 |[],_=>[]
 |v::l,i=>(i,v)::tK l (Nat.succ i)
theorem Pw:∀{vs:List Value} {i t:Nat} {v:Value},look (tK vs i) t=some v->i<=t/\vs[t -i]?=some v:=by
 intro vs;induction vs with
 |nil=>intro i t v h;cases h
 |cons x l aP=>
  intro i t v h;have aG:(bif Nat.beq t i then some x else look (tK l (Nat.succ i)) t)=some v:=h;cases ai:Nat.beq t i with
  |true=>
   rw[ai,cd] at aG;obtain rfl:=ez ai;injection aG with bt
   exact⟨bU _,by simp[bt]⟩
  |false=>
   rw[ai,dK] at aG;obtain⟨ad,ae⟩:=aP aG;refine⟨by omega,?_⟩;rw[show t -i=(t -Nat.succ i)+1 by omega];exact ae
theorem Py:∀{vs:List Value} {i n:Nat} {T:a0 Value},T.has n->i+vs.length<=n->∃dZ,ou vs i T=some dZ/\dZ.has n/\∀t,dZ.get t=if i<=t/\t<i+vs.length then vs[t -i]? else T.get t:=by
 intro vs;induction vs with
 |nil=>intro i n T h _;exact⟨T,rfl,h,fun t=>by rw[aQ (by rw[DG];omega)]⟩
 |cons x l aP=>
  intro i n T h aq;rw[kR] at aq;obtain⟨y,ap⟩:=h i (by omega);obtain⟨qK,cB⟩:=a0.JO (a:=x) ap;have ad:qK.has n:=fun t aI=>by
   rw[a0.get_put cB];split
   ·exact⟨_,rfl⟩
   ·exact h t aI
  obtain⟨dZ,ax,aS,cl⟩:=aP (i:=i+1) ad (by omega);refine⟨dZ,?_,aS,fun t=>?_⟩
  ·simp only[ou,a0.set];rw[cB];exact ax
  ·rw[cl t];by_cases q:i+1<=t/\t<i+1+l.length
   ·rw[aV q,aV (by rw[kR];omega),show t -i=(t -(i+1))+1 by omega];rfl
   ·rw[aQ q,a0.get_put cB];by_cases aG:t=i
    ·subst aG;rw[aV rfl,aV (by rw[kR];omega)];simp
    ·rw[aQ aG,aQ (by rw[kR];omega)]
theorem a0.ali{α:Type}(a:α):∀(d n:Nat),n+1<2 ^ d->(a0.full a d).get n=some a:=by
 intro d;induction d with
 |zero=>intro n h;simp at h
 |succ d aP=>
  intro n h;show(a0.node (some a) (a0.full a d) (a0.full a d)).get n=some a;cases n with
  |zero=>rfl
  |succ n=>
   rw[a0.rO];have:n / 2+1<2 ^ d:=by rw[fP] at h;omega
   split<;>exact aP _ this
theorem PR(n:Nat):(Cre.blank n).has n:=by
 intro t aI;refine⟨undef,a0.ali _ _ _ ?_⟩;unfold QU;have ad:Nat.succ n<2 ^ (Nat.log2 (Nat.succ n)+1):=Nat.lt_log2_self;show t+1<2 ^ (Nat.log2 (Nat.succ n)+1);omega
inductive mX (P:Program) (E:ca) (m:aN) (J:aj):List ResultVar->List Value->Prop
 |nil:mX P E m J [] []
 |tmp {t:Tmp} {v:Value} {rs:List ResultVar} {vs:List Value}:look E.l t=some v->mX P E m J rs vs->mX P E m J (.tmp t::rs) (v::vs)
 |cell {t:Tmp} {dH:TypeId} {a:Nat} {cells:List Value} {e:TypeId} {v:Value} {rs:List ResultVar} {vs:List Value}:look E.l t=some (.pointer (some ⟨a,0,none⟩))->(a,dI.row cells e)∈m->nn P dH cells 0=some v->mX P E m J rs vs->mX P E m J (.cell t dH::rs) (v::vs)
theorem mX.vS{P:Program}{g0:Nat}{S:aZ}{H:ar}(al:Sat E S)(aB:Inv g0 B J m H){rs:List ResultVar}{vs:List Value}(h:mX P E m J rs vs):qT P S.T H rs=some vs:=by
 induction h with
 |nil=>rfl
 |tmp ad _ aP=>simp only[qT];rw[al.get _ _ ad];simp only;rw[aP]
 |cell ad ae aD _ aP=>
  simp only[qT];rw[al.get _ _ ad];simp only;have ay:=(aB.own _ _ ae).1;have ay:H.mem.get _=some (.row _ _ false 0 0 false):=ay;unfold Bw Ek;simp only[ay,aD];rw[aP]
theorem Fn.b5{f:FuncId}{fn:Func}{c:Code}{args:List Value}{bm:aN}{dY:Value->aN->aj->Prop}(aA:K.fE.get f=some fn)(ai:fn.body=some c)(aq:Nat.ble args.length fn.ntmps=true)
 (h:∀H,az K (iH bm H J) c ⟨fn.ntmps,zJ,tK args 0⟩ bm J fun e E m af=>(e=.normal\/e=.ret)/\E.ds.ds=[]/\∃vs m',mX K.P E m af fn.results.toList vs/\m'.Sublist m/\dY (pr vs) m' af):Fn K f args bm J dY:=by
 intro H aB;obtain⟨T,ba,bd,cm⟩:=Py (vs:=args) (i:=0) (n:=fn.ntmps) (PR fn.ntmps) (by have:=h3 aq;omega);have al:Sat ⟨fn.ntmps,zJ,tK args 0⟩ ⟨T,fn.ntmps,[],false,.run,none⟩:=by
  refine⟨rfl,rfl,rfl,rfl,rfl,bd,fun t v q=>?_⟩;obtain⟨_,aG⟩:=Pw q;show T.get t=some v;have:t<args.length:=by
   rcases hH t args.length with r|r
   ·exact r
   ·rw[jX (by omega)] at aG;cases aG
  rw[cm,aV (by omega)];exact aG
 obtain⟨e,aH,H',E',cW,af,aW,aT,bo,cu,fm,vs,m',iG,pk,qk⟩:=h H _ H al aB;refine⟨pr vs,H',af,m',?_,bo.sub pk,qk⟩;have rS:aH.ds=[]:=aT.ds.trans fm;refine jV.run K.cI aA ai ba aW (bg:=aH.bg) ?_;have ao:=iG.vS aT bo;rcases cu with rfl|rfl
 ·show qM aH.bg (hL K.P _ fn aH.T aH.ds .returning H')=_;rw[rS];unfold hL;rw[ao];rfl
 ·show qM aH.bg (hL K.P _ fn aH.T aH.ds .returning H')=_;rw[rS];unfold hL;rw[ao];rfl
end
theorem ub{α:Type}(n:Int)(k:Int->α):rN n k=k n:=by
 cases n with
 |ofNat m=>cases m<;>rfl
 |negSucc m=>cases m<;>rfl
theorem Fc(a b:Int):q' a b=decide (a<b):=by
 cases a with
 |ofNat m=>cases b with
  |ofNat n=>simp only[q'];rw[qG];simp
  |negSucc n=>simp only[q'];rw[qG];simp;omega
 |negSucc m=>cases b with
  |ofNat n=>simp only[q'];rw[qG];simp;omega
  |negSucc n=>simp only[q'];rw[qG];simp;omega
theorem Fb(a b:Int):q9 a b=decide (a=b):=by
 cases a with
 |ofNat m=>cases b with
  |ofNat n=>simp only[q9];rw[qG];simp;omega
  |negSucc n=>simp only[q9];rw[qG];simp
 |negSucc m=>cases b with
  |ofNat n=>simp only[q9];rw[qG];simp
  |negSucc n=>simp only[q9];rw[qG];simp
theorem Fj(k:IntKind):mD k k=true:=by cases k<;>rfl
theorem wrap_i64{n:Int}(ad:-9223372036854775808<=n)(ae:n<=9223372036854775807):IntKind.i64.wrap n=n:=by
 unfold IntKind.wrap IntKind.signed IntKind.bits;simp only[VK,LB];split<;>omega
theorem Ax(H:ar)(b:Bool):yX H b=some (.val (.bool b) H):=by cases b<;>rfl
section
variable {K:dR}{B:dv}{o:Oper}{n:Nat}{ds:ee}{l:List (Nat×Value)}{m m':aN}{J:aj}{fk:ca->aN->aj->Prop}{d:Nat}
def cY(K:dR)(B:dv)(o:Oper)(n:Nat)(ds:ee)(l:List (Nat×Value))(m:aN)(J:aj)(v:Value):Prop:=∀call aJ S H,Sat ⟨n,ds,l⟩ S->Inv K.g0 B J m H->cz K.P call aJ S H o=some (.val v H)
theorem AJ{x:Operand}{v:Value}(ah:o.op=.move x)(aa:bJ l x=some v):cY K B o n ds l m J v:=by
 intro call aJ S H al aB;unfold cz e4;simp only[ah];show g9 (a3 S.T H x) H=_;rw[de al H aa];rfl
theorem awd{x:Operand}{v:Value}(ah:o.op=.assign x)(aa:bJ l x=some v):cY K B o n ds l m J v:=by
 intro call aJ S H al aB;unfold cz e4;simp only[ah];show g9 (a3 S.T H x) H=_;rw[de al H aa];rfl
theorem aww{c x y:Operand}{t:Bool}{v:Value}(ah:o.op=.pick c x y)(aC:bJ l c=some (.bool t))(av:(if t=true then bJ l x else bJ l y)=some v):cY K B o n ds l m J v:=by
 intro call aJ S H al aB;unfold cz e4;simp only[ah];show At K.P _ x y (a3 S.T H c)=_;rw[de al H aC];cases t with
 |true=>show g9 (a3 S.T H x) H=_;rw[de al H (by simpa using av)];rfl
 |false=>show g9 (a3 S.T H y) H=_;rw[de al H (by simpa using av)];rfl
def PN (k:IntKind)(a b:Int):BinOp->Option Value
 |.add=>some (.int k (k.wrap (a+b)))
 |.sub=>some (.int k (k.wrap (a -b)))
 |.mul=>some (.int k (k.wrap (a*b)))
 |.eql=>some (.bool (decide (a=b)))
 |.neq=>some (.bool (decide (¬a=b)))
 |.lss=>some (.bool (decide (a<b)))
 |.leq=>some (.bool (decide (a<=b)))
 |.gtr=>some (.bool (decide (b<a)))
 |.geq=>some (.bool (decide (b<=a)))
 |_=>none
theorem aeE{op:BinOp}{t dH:TypeId}{x y:Operand}{k:IntKind}{a b:Int}{v:Value}(ah:o.op=.binOp op t x y dH)(aa:bJ l x=some (.int k a))(ap:bJ l y=some (.int k b))(av:PN k a b op=some v):cY K B o n ds l m J v:=by
 intro call aJ S H al aB;unfold cz e4;simp only[ah];show lU K.P _ op t (a3 S.T H x) (a3 S.T H y)=_;rw[de al H aa,de al H ap];show(bif mD k k then jJ H k a b _ op else _)=_;rw[Fj,cd];have arq:∀p q:Int,(!decide (p<q))=decide (q<=p):=fun p q=>by rw[qG];simp
 cases op<;>simp only[PN,cn,reduceCtorEq] at av<;>subst av<;>simp only[jJ,ub,Gb,qy,Ax,Fb,Fc,arq]
 ·rw[show(!decide (a=b))=decide (¬a=b) by rw[qG];simp]
inductive mq (m:aN) (J:aj) (a:Nat) (cells:List Value):Prop
 |own {e:TypeId}:(a,dI.row cells e)∈m->mq m J a cells
 |opn {e:TypeId} {r:List Nat} {z:Nat}:(a,dI.opn cells e r z)∈m->mq m J a cells
 |ei {e:TypeId}:J a=some (cells,e)->mq m J a cells
theorem mq.get{a:Nat}{cells:List Value}(h:mq m J a cells){g0:Nat}{H:ar}(aB:Inv g0 B J m H):∃e o f z s,H.mem.get a=some (.row cells e o f z s):=by
 cases h with
 |own h=>exact⟨_,_,_,_,_,(aB.own _ _ h).1⟩
 |opn h=>obtain⟨f,_,q,_⟩:=(aB.own _ _ h).1;exact⟨_,_,_,_,_,q⟩
 |ei h=>obtain⟨o,f,z,s,q⟩:=aB.ei _ _ _ h;exact⟨_,_,_,_,_,q⟩
theorem ik{t:TypeId}{x:Operand}{a off:Nat}{cells:List Value}{v:Value}(ah:o.op=.load t x)(aa:bJ l x=some (.pointer (some ⟨a,off,none⟩)))(ao:mq m J a cells)(av:nn K.P t cells off=some v):cY K B o n ds l m J v:=by
 intro call aJ S H al aB;unfold cz e4;simp only[ah];show CX K.P _ t (a3 S.T H x)=_;rw[de al H aa];show g9 (Ek K.P H t ⟨a,off,none⟩) H=_;obtain⟨e,o',f,z,s,q⟩:=ao.get aB;unfold Ek;simp only[q,av];rfl
theorem gR{P:Program}{t:TypeId}{cells:List Value}{off:Nat}{v:Value}(aI:sB P t=some none)(av:nth cells off=some v):nn P t cells off=some v:=by
 unfold nn;rw[aI];exact av
theorem wP{P:Program}{t:TypeId}{cells r:List Value}{off k:Nat}(aI:sB P t=some (some k))(av:takeN k (pY off cells)=some r):nn P t cells off=some (.agg r.toArray):=by
 unfold nn;rw[aI];simp only[av]
theorem axe{t:TypeId}{x:Operand}{v:Value}{cells:List Value}(ah:o.op=.box t x)(au:o.dst=some d)(aE:Nat.blt d n=true)(aa:bJ l x=some v)(aC:v.cells.toList=cells)(ad:cells.all fh=true)(h:∀a,fk ⟨n,ds,(d,.pointer (some ⟨a,0,none⟩))::l⟩ ((a,.row cells t)::m) J):jW K B o ⟨n,ds,l⟩ m J fk:=by
 refine jW.Dg au aE fun S H al aB=>?_;obtain⟨H1,ax,aS⟩:=aB.alloc cells t;refine⟨_,H1,_,J,fun call aJ=>?_,aS,h H.an⟩;unfold cz e4;simp only[ah];show JB K.P _ t (a3 S.T H x)=_;rw[de al H aa];show nJ (xR H t v)=_;unfold xR uN;rw[aC,ad,cd,ax];rfl
theorem axd{t:TypeId}{z:Value}{cells:List Value}(ah:o.op=.alloc t)(au:o.dst=some d)(aE:Nat.blt d n=true)(aM:hA K.P t=some z)(aw:plain z=true)(aC:z.cells.toList=cells)(ad:cells.all fh=true)(h:∀a,fk ⟨n,ds,(d,.pointer (some ⟨a,0,none⟩))::l⟩ ((a,.row cells t)::m) J):jW K B o ⟨n,ds,l⟩ m J fk:=by
 refine jW.Dg au aE fun S H al aB=>?_;obtain⟨H1,ax,aS⟩:=aB.alloc cells t;refine⟨_,H1,_,J,fun call aJ=>?_,aS,h H.an⟩;unfold cz e4;simp only[ah];show Uc K.P _ t (hA K.P t)=_;rw[aM];show(bif plain z then nJ (xR H t z) else none)=_;rw[aw,cd];unfold xR uN;rw[aC,ad,cd,ax];rfl
theorem AP{t:TypeId}{x y:Operand}{a off k:Nat}{v:Value}{vs cells cells':List Value}{e:TypeId}(ah:o.op=.store t x y)(au:o.dst=none)(aa:bJ l x=some (.pointer (some ⟨a,off,none⟩)))(ap:bJ l y=some v)(hk:eV K.P t=some k)(aC:v.cells.toList=vs)(aq:Nat.beq vs.length k=true)(aR:Nat.blt 0 vs.length=true)(ad:vs.all fh=true)(hs:gS off cells vs=some cells')(aw:gB m a (.row cells e) (.row cells' e) m')(h:fk ⟨n,ds,l⟩ m' J):jW K B o ⟨n,ds,l⟩ m J fk:=by
 refine jW.skip au fun S H al aB=>?_;obtain⟨H1,ax,aS⟩:=aB.store aw;obtain⟨aW,aT,bo,cu⟩:=aB.own _ _ aw.mem;have aW:H.mem.get a=some (.row cells e false 0 0 false):=aW;refine⟨H1,m',J,fun call aJ=>?_,aS,h⟩;unfold cz e4;simp only[ah];show FK K.P _ t (a3 S.T H x) (a3 S.T H y)=_;rw[de al H aa,de al H ap];show L4 (By K.P H t (.pointer (some ⟨a,off,none⟩)) v)=_;unfold By;simp only[hk,aC,aq,cd];unfold sN;cases vs with
 |nil=>cases aR
 |cons v0 vs=>
  simp only
  have ay:Nat.blt a H.bL=false:=by
   cases q:Nat.blt a H.bL
   ·rfl
   ·have:a<H.bL:=by simpa[Nat.blt,xd] using q
    have:=aB.bL;omega
  rw[ay,dK,aW];simp only[show Nat.ble 0 off=true from mo (c5 _),VK,ad,cd,hs,ax,dK];rfl
theorem awt{x:Operand}{a:Addr}(ah:o.op=.nilCheck x)(aa:bJ l x=some (.pointer (some a))):cY K B o n ds l m J (.pointer (some a)):=by
 intro call aJ S H al aB;unfold cz e4;simp only[ah];show C0 K.P _ (a3 S.T H x)=_;rw[de al H aa];rfl
def Er (P:Program)(s:TypeId)(f:Nat):Option Nat:=match P.underlying s with
 |some (.struct fields)=>(match fields[f]? with
  |some fd=>(match eV P fd.type with|some (_+1)=>some fd.offset|_=>none)
  |none=>none)
 |_=>none
theorem qE{s:TypeId}{x:Operand}{f a off k:Nat}(ah:o.op=.fieldAddr s x f)(aa:bJ l x=some (.pointer (some ⟨a,off,none⟩)))(aA:Er K.P s f=some k):cY K B o n ds l m J (.pointer (some ⟨a,off+k,none⟩)):=by
 intro call aJ S H al aB;unfold cz e4;simp only[ah];show CW K.P _ s f (a3 S.T H x)=_;rw[de al H aa];show g9 (Ht K.P s (.pointer (some ⟨a,off,none⟩)) f) H=_;unfold Er at aA;unfold Ht;simp only
 cases hu:K.P.underlying s with
 |none=>rw[hu] at aA;cases aA
 |some vR=>
  rw[hu] at aA;cases vR with
  |struct fields=>
   simp only at aA ⊢;cases bQ:fields[f]? with
   |none=>rw[bQ] at aA;cases aA
   |some fd=>
    rw[bQ] at aA;simp only at aA ⊢;cases aM:eV K.P fd.type with
    |none=>rw[aM] at aA;cases aA
    |some z=>
     rw[aM] at aA;cases z with
     |zero=>cases aA
     |succ z=>simp only[cn] at aA;subst aA;rfl
  |_=>cases aA
def nW (P:Program)(s:TypeId)(f:Nat):Option (TypeId×Nat):=match P.underlying s with
 |some (.struct fields)=>(match fields[f]? with
  |some fd=>some (fd.type,fd.offset)
  |none=>none)
 |_=>none
def Ej (P:Program)(t:TypeId):Option Nat:=match P.underlying t with
 |some (.slice e)=>eV P e
 |_=>none
theorem Th{i:Int}{len:Nat}(aR:0<=i)(ad:i<len):uI i len=some i.toNat:=by
 cases i with
 |ofNat n=>
  unfold uI;have:Nat.blt n len=true:=by
   have:n<len:=by simpa using ad
   simpa[Nat.blt,xd] using this
  simp only[this,cd];rfl
 |negSucc n=>exact absurd aR (by simp)
theorem Vd{t:TypeId}{x dz:Operand}{a off len cap sz:Nat}{k:IntKind}{i:Int}(ah:o.op=.indexAddr t x dz)(aa:bJ l x=some (.slice (some ⟨a,off,none⟩) len cap))(ak:bJ l dz=some (.int k i))(aI:Ej K.P t=some sz)(aR:0<=i)(ad:i<len):cY K B o n ds l m J (.pointer (some ⟨a,off+i.toNat*sz,none⟩)):=by
 intro call aJ S H al aB;unfold cz e4;simp only[ah];show yO K.P _ t (a3 S.T H x) (a3 S.T H dz)=_;rw[de al H aa,de al H ak];show g9 (xU K.P t (.slice (some ⟨a,off,none⟩) len cap) (.int k i)) H=_;unfold Ej at aI;unfold xU;cases hu:K.P.underlying t with
 |none=>rw[hu] at aI;cases aI
 |some vR=>
  rw[hu] at aI;cases vR with
  |slice e=>
   simp only at aI ⊢;rw[Th aR ad,aI];rfl
  |_=>cases aI
def isSlice (P:Program)(t:TypeId):Bool:=match P.underlying t with|some (.slice _)=>true|_=>false
def wA (P:Program)(t:TypeId):Bool:=match P.underlying t with|some .string=>true|_=>false
theorem Bu{S:aZ}{H:ar}{call:eI}{aJ:hl}{c:Call}{b:Builtin}(ah:o.op=.call c)(aC:c.callee=.builtin b):cz K.P call aJ S H o=qS K.P S H o b c:=by
 unfold cz e4;simp only[ah];show kN K.P _ c=_;unfold kN;rw[aC]
theorem awq{c:Call}{base:Option Addr}{len cap:Nat}{t:TypeId}(ah:o.op=.call c)(aC:c.callee=.builtin .len)(aF:h4 l c.args.toList=some [.slice base len cap])(aI:c.argTypes.toList=[t])(hs:isSlice K.P t=true):cY K B o n ds l m J (.int .i64 len):=by
 intro call aJ S H al aB;rw[Bu ah aC];unfold qS;rw[oB al H aF,aI];simp only
 unfold isSlice at hs;split at hs
 ·rename_i e hu;rw[hu]
 ·cases hs
theorem aqm{α:Type}(l:List α):Cy l=some l.length:=by
 cases h:Cy l with
 |none=>
  unfold Cy at h;cases ai:isNil (pY 256 l) with
  |true=>rw[ai] at h;cases h
  |false=>
   rw[ai,dK] at h;split at h
   ·cases h
   ·split at h<;>cases h
 |some k=>rw[aaV h]
theorem awr{c:Call}{s:ByteArray}{t:TypeId}(ah:o.op=.call c)(aC:c.callee=.builtin .len)(aF:h4 l c.args.toList=some [.string s])(aI:c.argTypes.toList=[t])(hs:wA K.P t=true):cY K B o n ds l m J (.int .i64 s.data.toList.length):=by
 intro call aJ S H al aB;rw[Bu ah aC];unfold qS;rw[oB al H aF,aI];simp only
 unfold wA at hs;split at hs
 ·rename_i hu;rw[hu];simp only[aqm,ub];rfl
 ·cases hs
theorem awn{t:TypeId}{x dz:Operand}{s:ByteArray}{k:IntKind}{i:Int}{b:UInt8}(ah:o.op=.index t x dz)(aa:bJ l x=some (.string s))(ak:bJ l dz=some (.int k i))(aI:wA K.P t=true)(aR:0<=i)(ai:s.data.toList[i.toNat]?=some b):cY K B o n ds l m J (.int .u8 b.toNat):=by
 intro call aJ S H al aB;unfold cz e4;simp only[ah];show As K.P _ (a3 S.T H x) (a3 S.T H dz) (K.P.underlying t)=_;rw[de al H aa,de al H ak];unfold wA at aI;split at aI
 ·rename_i hu;rw[hu];unfold As;simp only
  cases i with
  |ofNat j=>
   simp only[lT];rw[show s.data.toList[j]?=some b from ai];simp only[ub];rfl
  |negSucc j=>exact absurd aR (by simp)
 ·cases aI
theorem awi{x:Operand}{dz:Nat}{vs:Array Value}{v:Value}(ah:o.op=.extract x dz)(aa:bJ l x=some (.tuple vs))(av:nth vs.toList dz=some v):cY K B o n ds l m J v:=by
 intro call aJ S H al aB;unfold cz e4;simp only[ah];show CV K.P _ dz (a3 S.T H x)=_;rw[de al H aa];show g9 (nth vs.toList dz) H=_;rw[av];rfl
end
end
end Go.Opn

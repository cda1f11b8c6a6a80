/- A part of the proof of TableLosses. -/
import Derived.Test.YtjbbbehaciogcaaGreatDoorCam
import Derived.Laws.Strings
import Derived.Laws.Strings2
set_option linter.unusedVariables false
set_option linter.unusedSimpArgs false
namespace Go.Opn
noncomputable section
open Go.Cre Go.RowKit
def ct(K:dR)(B:dv)(ops:List Oper)(a1:List jo)(F:List (FuncId×List Value))(E:ca)(m:aN)(J:aj)(bq:ca->aN->aj->Prop):Prop:=
 ∀S H,Sat E S->Inv K.g0 B J m H->∃cE:eI,(∀f args H r,cE f args H=some r->(f,args)∉F)/\∃aH H' E' m' af,
  (∀eH:eI,(∀f args H r,cE f args H=some r->eH f args H=some r)->dM K.P (hJ K.Q eH) (fN K.Q gQ eH).aJ ops a1 S H=some (.ok aH H'))/\Sat E' aH/\Inv K.g0 B af m' H'/\bq E' m' af
section
variable {K:dR}{B:dv}{ops:List Oper}{a1:List jo}{F:List (FuncId×List Value)}{E:ca}{m m':aN}{J:aj}{o:Oper}{bq:ca->aN->aj->Prop}{cw:Exit->ca->aN->aj->Prop}
variable {n:Nat}{ds:ee}{l:List (Nat×Value)}{d i:Nat}
theorem az.draw{id:Nat}{a:Array Oper}(aq:I4 a.toList=none)(bn:Ef a.toList=true)(aw:JM a.toList=a1)(h:ct K B a.toList a1 [] E m J fun E m J=>cw .normal E m J):az K B (.region id a true) E m J cw:=by
 intro S H al aB;obtain⟨cE,_,aH,H',E',m',af,ad,ae,aD,a6⟩:=h S H al aB;refine⟨.normal,aH,H',E',m',af,dL.wK K.cI.re gQ cE ?_,ae,aD,a6⟩;show rj (vT K.P (fN K.Q gQ cE).call (fN K.Q gQ cE).aJ a.toList S H)=_;rw[Kz];unfold vT;rw[aq];show rj (xS K.P (hJ K.Q cE) (fN K.Q gQ cE).aJ a.toList S H)=_;unfold xS;rw[bn,cd,aw,ad cE (fun _ _ _ _ q=>q)];rfl
theorem ct.nil(h:bq E m J):ct K B ops [] F E m J bq:=fun S H al aB=>⟨kL,(fun _ _ _ _ q=>by cases q),S,H,E,m,J,fun _ _=>rfl,al,aB,h⟩
theorem ct.val{v:Value}(ak:nth ops i=some o)(ay:o.guard=none)(au:o.dst=some d)(aE:Nat.blt d n=true)(av:cY K B o n ds l m J v)(h:ct K B ops a1 F ⟨n,ds,(d,v)::l⟩ m J bq):ct K B ops (.val i::a1) F ⟨n,ds,l⟩ m J bq:=by
 intro S H al aB;obtain⟨a4,s1,s2⟩:=al.put (dst:=some d) aE v;obtain⟨cE,dg,aH,H',E',m',af,ad,ae,aD,a6⟩:=h a4 H s2 aB;refine⟨cE,dg,aH,H',E',m',af,fun eH q=>?_,ae,aD,a6⟩;show jP ops i (lZ K.P _ _ ops S H (dM K.P _ _ ops a1))=_;unfold jP;rw[ak];show lZ K.P _ _ ops S H (dM K.P _ _ ops a1) o=_;unfold lZ fT;rw[ay];show Dh S H o.dst (dM K.P _ _ ops a1) (cz K.P _ _ S H o)=_;rw[av _ _ S H al aB,au];show(bif Nat.beq H.an H.an then px (dM K.P _ _ ops a1) H (S.put (some d) v) else none)=_;rw[hT,cd,s1];exact ad eH q
theorem ct.kG{b:fB}{p:dI}{eD:jn}(ak:nth ops i=some o)(ay:o.guard=none)(au:o.dst=some d)(aE:Nat.blt d n=true)(aF:∀S,Sat ⟨n,ds,l⟩ S->nT K.P S.T o.op=some (b,eD))(aw:∀H a,H.mem.get a=some b->p.at (fun _=>True) H a)(EW:∀c e r z,p≠.opn c e r z)
 (h:∀a,ct K B ops a1 F ⟨n,ds,(d,eD.at a)::l⟩ ((a,p)::m) J bq):ct K B ops (.kG i::a1) F ⟨n,ds,l⟩ m J bq:=by
 intro S H al aB;obtain⟨H1,ax⟩:=aB.wf.new b;have eU:p.at B.zM H1 H.an:=by
  have q:=aw H1 H.an (by rw[(ar.pp ax).2.2.2.2.2,aV rfl]);cases p with
  |row=>exact q
  |map=>exact q
  |loop=>exact q
  |gP=>exact q
  |opn c e r z=>exact absurd rfl (EW c e r z)
 have LZ:=aB.new ax eU (by cases p with|opn c e r z=>exact absurd rfl (EW c e r z)|_=>rfl);obtain⟨a4,s1,s2⟩:=al.put (dst:=some d) aE (eD.at H.an);obtain⟨cE,dg,aH,H',E',m',af,ad,ae,aD,a6⟩:=h H.an a4 H1 s2 LZ;refine⟨cE,dg,aH,H',E',m',af,fun eH q=>?_,ae,aD,a6⟩;show jP ops i (GD K.P ops S H (dM K.P _ _ ops a1))=_;unfold jP;rw[ak];show GD K.P ops S H (dM K.P _ _ ops a1) o=_;unfold GD fT;rw[ay];show Pq S H o.dst (dM K.P _ _ ops a1) (nT K.P S.T o.op)=_;rw[aF S al];show Pr S o.dst (dM K.P _ _ ops a1) eD (H.new b)=_;rw[ax,au];show px (dM K.P _ _ ops a1) H1 (S.put (some d) (eD.at H.an))=_;rw[s1];exact ad eH q
theorem Uf{S:aZ}(al:Sat ⟨n,ds,l⟩ S){x:Operand}{v:Value}(h:bJ l x=some v):rh S.T x=some v:=by
 cases x with
 |tmp t=>exact al.get t v h
 |const c=>exact h
 |global g=>cases h
 |func f=>exact h
theorem ct.alloc{t:TypeId}{z:Value}{cells:List Value}(ak:nth ops i=some o)(ay:o.guard=none)(ah:o.op=.alloc t)(au:o.dst=some d)(aE:Nat.blt d n=true)(aM:hA K.P t=some z)(aw:plain z=true)(aC:z.cells.toList=cells)(ad:cells.all fh=true)
 (h:∀a,ct K B ops a1 F ⟨n,ds,(d,.pointer (some ⟨a,0,none⟩))::l⟩ ((a,.row cells t)::m) J bq):ct K B ops (.kG i::a1) F ⟨n,ds,l⟩ m J bq:=by
 refine ct.kG (b:=.row cells t false 0 0 false) (p:=.row cells t) (eD:=.ptr) ak ay au aE (fun S al=>?_) (fun H a q=>q) (fun c e r z q=>by cases q) h;rw[ah];simp only[nT,aM,aw,cd,Bb,aC,ad]
theorem ct.bE(ak:nth ops i=some o)(ay:o.guard=none)(h:∀S H,Sat E S->Inv K.g0 B J m H->∃aH H' E' m' af,(∀call aJ,oP S H o.dst (cz K.P call aJ S H o)=some (.ok aH H'))/\Sat E' aH/\Inv K.g0 B af m' H'/\ct K B ops a1 F E' m' af bq):ct K B ops (.bE i::a1) F E m J bq:=by
 intro S H al aB;obtain⟨a4,H1,eJ,cW,bu,aW,aT,bo,cu⟩:=h S H al aB;obtain⟨cE,dg,aH,H',E',m',af,ad,ae,aD,a6⟩:=cu a4 H1 aT bo;refine⟨cE,dg,aH,H',E',m',af,fun eH q=>?_,ae,aD,a6⟩;show jP ops i (fun o=>lG ops (dM K.P _ _ ops a1) (one K.P _ _ ops S H o))=_;unfold jP;rw[ak];show lG ops (dM K.P _ _ ops a1) (one K.P _ _ ops S H o)=_;unfold one fT;rw[ay];show lG ops (dM K.P _ _ ops a1) (oP S H o.dst (cz K.P _ _ S H o))=_;rw[aW];exact ad eH q
theorem ct.vL(ak:nth ops i=some o)(ay:o.guard=none)(h:jW K B o E m J fun E m J=>ct K B ops a1 F E m J bq):ct K B ops (.bE i::a1) F E m J bq:=ct.bE ak ay h
theorem ct.ah0{v:Value}(ak:nth ops i=some o)(ay:o.guard=none)(au:o.dst=some d)(aE:Nat.blt d n=true)(av:cY K B o n ds l m J v)(h:ct K B ops a1 F ⟨n,ds,(d,v)::l⟩ m J bq):ct K B ops (.bE i::a1) F ⟨n,ds,l⟩ m J bq:=by
 refine ct.bE ak ay fun S H al aB=>?_;obtain⟨a4,s1,s2⟩:=al.put (dst:=some d) aE v;refine⟨a4,H,_,m,J,fun call aJ=>?_,s2,aB,h⟩;rw[av _ _ S H al aB,au];show ob H (S.put (some d) v)=_;rw[s1];rfl
theorem ct.ahM{c:Call}{x:Operand}{f:FuncId}{first cap:Array Value}{args bO:List Value}{bm cN:aN}{dY:Value->aN->aj->Prop}
 (ak:nth ops i=some o)(ay:o.guard=none)(ah:o.op=.call c)(au:o.dst=some d)(aE:Nat.blt d n=true)(aC:c.callee=.value x)(aa:bJ l x=some (.func (.func f) first cap))(aF:h4 l c.args.toList=some args)(has:(first.toList++args)++cap.toList=bO)
 (aA:(f,bO)∉F)(aw:(bm++cN).Perm m)(e6:Al bm)(bM:Fn K f bO bm J dY)(h:∀v m' af,J.le af->dY v m' af->ct K B ops a1 ((f,bO)::F) ⟨n,ds,(d,v)::l⟩ (m'++cN) af bq):ct K B ops (.bE i::a1) F ⟨n,ds,l⟩ m J bq:=by
 intro S H al aB;obtain⟨v,H',af,m',aW,aT,bo⟩:=bM H (aB.enter aw e6);obtain⟨cu,fm⟩:=aB.leave aw aT;obtain⟨a4,s1,s2⟩:=al.put (dst:=some d) aE v;obtain⟨cE,dg,aH,oX,E',mE,pJ,ad,ae,aD,a6⟩:=h v m' af fm bo a4 H' s2 cu
 classical
 refine⟨fun cF cb H1=>if cF=f/\cb=bO then kW f bO H (.returned v,H') cF cb H1 else cE cF cb H1,fun cF cb H1 r q=>?_,aH,oX,E',mE,pJ,fun eH q=>?_,ae,aD,a6⟩
 ·simp only at q;split at q
  ·rename_i e;rw[e.1,e.2];exact aA
  ·exact fun cv=>dg cF cb H1 r q (Wa _ cv)
 ·have hO:eH f bO H=some (.returned v,H'):=q f bO H _ (by simp only[and_self,aV];unfold kW;rw[aV ⟨rfl,rfl,rfl⟩]);have Cj:∀cF cb H1 r,cE cF cb H1=some r->eH cF cb H1=some r:=fun cF cb H1 r ao=>q cF cb H1 r (by
   simp only
   rw[aQ (fun e=>dg cF cb H1 r ao (by rw[e.1,e.2];exact List.mem_cons_self))];exact ao)
  show jP ops i (fun o=>lG ops (dM K.P _ _ ops a1) (one K.P _ _ ops S H o))=_;unfold jP;rw[ak];show lG ops (dM K.P _ _ ops a1) (one K.P _ _ ops S H o)=_;unfold one fT;rw[ay];show lG ops (dM K.P _ _ ops a1) (oP S H o.dst (cz K.P _ _ S H o))=_;have he:cz K.P (hJ K.Q eH) (fN K.Q gQ eH).aJ S H o=some (.val v H'):=by
   unfold cz e4;simp only[ah];show kN K.P _ c=_;unfold kN;rw[aC];show nm K.P _ _ S.T H c=_;unfold nm;rw[oB al H aF];simp only[aC];rw[de al H aa];simp only
   show(match kY K.P H (.func f) (first.toList++args) cap.toList with|some (f,bO)=>oA (hJ K.Q _ f bO H)|none=>none)=_
   unfold kY;simp only
   rw[has,Bi aW hO];rfl
  rw[he,au];show lG ops (dM K.P _ _ ops a1) (ob H' (S.put (some d) v))=_;rw[s1];exact ad eH Cj
theorem ct.call{c:Call}{x:Operand}{f:FuncId}{first cap:Array Value}{args bO:List Value}{bm cN:aN}{dY:Value->aN->aj->Prop}
 (ak:nth ops i=some o)(ay:o.guard=none)(ah:o.op=.call c)(au:o.dst=some d)(aE:Nat.blt d n=true)(aC:c.callee=.value x)(aa:bJ l x=some (.func (.func f) first cap))(aF:h4 l c.args.toList=some args)(has:(first.toList++args)++cap.toList=bO)
 (aA:F.all (fun g=>!Nat.beq g.1 f)=true)(aw:(bm++cN).Perm m)(e6:Al bm)(bM:Fn K f bO bm J dY)(h:∀v m' af,J.le af->dY v m' af->ct K B ops a1 ((f,bO)::F) ⟨n,ds,(d,v)::l⟩ (m'++cN) af bq):ct K B ops (.bE i::a1) F ⟨n,ds,l⟩ m J bq:=
 ct.ahM ak ay ah au aE aC aa aF has (fun q=>by
  rw[rA] at aA;have:=aA (f,bO) q;simp at this) aw e6 bM h
def e3(K:dR)(B:dv)(ops:List Oper)(n:Nat)(ds:ee)(l:List (Nat×Value))(m:aN)(J:aj)(i:Nat):Prop:=
 ∀call aJ S H,Sat ⟨n,ds,l⟩ S->Inv K.g0 B J m H->xD K.P call aJ ops S H i=true
theorem e3.val{v u:Value}(ak:nth ops i=some o)(ay:o.guard=none)(au:o.dst=some d)(av:cY K B o n ds l m J v)(hu:look l d=some u)(he:eg 8 v u=true):e3 K B ops n ds l m J i:=by
 intro call aJ S H al aB;unfold xD;rw[ak];show Lu K.P call aJ ops S H o (fT ops S.T o)=true;unfold fT;rw[ay];show Lv H.an S.T o.dst (cz K.P call aJ S H o)=true;rw[av _ _ S H al aB,au];show(Nat.beq H.an H.an&&(match S.T.get d with|some u=>eg 8 v u|none=>false))=true
 rw[hT,al.get d u hu];simpa using he
def tx(K:dR)(B:dv)(ops:List Oper)(n:Nat)(ds:ee)(l:List (Nat×Value))(m:aN)(J:aj):List Nat->Prop
 |[]=>True
 |i::r=>e3 K B ops n ds l m J i/\tx K B ops n ds l m J r
theorem tx.all{call:eI}{aJ:hl}{S:aZ}{H:ar}(al:Sat ⟨n,ds,l⟩ S)(aB:Inv K.g0 B J m H):∀{is:List Nat},tx K B ops n ds l m J is->is.all (xD K.P call aJ ops S H)=true:=by
 intro is;induction is with
 |nil=>intro _;rfl
 |cons i r aP=>intro h;rw[DD,h.1 call aJ S H al aB,aP h.2];rfl
theorem ct.b9{is:List Nat}(aC:tx K B ops n ds l m J is)(h:ct K B ops a1 F ⟨n,ds,l⟩ m J bq):ct K B ops (.b9 is::a1) F ⟨n,ds,l⟩ m J bq:=by
 intro S H al aB;obtain⟨cE,dg,aH,H',E',m',af,ad,ae,aD,a6⟩:=h S H al aB;refine⟨cE,dg,aH,H',E',m',af,fun eH q=>?_,ae,aD,a6⟩;show Bj K.P _ _ ops S H (dM K.P _ _ ops a1) is=_;unfold Bj;rw[tx.all al aB aC,cd];exact ad eH q
theorem aeT(k:IntKind)(a:Int)(n:Nat):eg (n+1) (.int k a) (.int k a)=true:=by
 show(mD k k&&q9 a a)=true;rw[Fj,Fb];simp
end
theorem aen{α:Type}:∀(l:List α) (i:Nat) (T:a0 α),(∀k,k<i->∃v,T.get k=some v)->∃dZ,y7 l i T=some dZ:=by
 intro l;induction l with
 |nil=>intro i T _;exact⟨T,rfl⟩
 |cons x l aP=>
  intro i T h;obtain⟨qK,cB⟩:=a0.FP x T i h;obtain⟨dZ,e⟩:=aP (i+1) qK fun k hk=>by
   rw[a0.get_put cB];split
   ·exact⟨_,rfl⟩
   ·exact h k (by omega)
  refine⟨dZ,?_⟩;simp only[y7,a0.set];rw[cB];exact e
theorem b2{P:Program}{f:FuncId}{fn:Func}(h:P.funcs[f]?=some fn):(Et P).get f=some fn:=by
 obtain⟨T,cB⟩:=aen P.funcs.toList 0 .leaf (fun k hk=>absurd hk (by omega));unfold Et;rw[cB];simp only
 rw[U7 cB];have cD:f<P.funcs.size:=(Oy.1 h).1;rw[aV (by simpa using cD)];simpa using h
section
variable {K:dR}{B:dv}{o:Oper}{n:Nat}{ds:ee}{l:List (Nat×Value)}{m m':aN}{J:aj}{fk:ca->aN->aj->Prop}{d:Nat}
theorem eL{P:Program}{α β:Type}{s:Sem α}{a:α}{f:α->Sem β}(h:eR P s=some a):eR P (s >>= f)=eR P (f a):=by
 show eR P (Sem.bind s f)=_;induction s with
 |pure b=>simp only[eR,cn] at h;subst h;rfl
 |program k aP=>exact aP P (by simpa[eR] using h)
 |mark m k aP=>exact aP (by simpa[eR] using h)
 |_=>simp[eR] at h
theorem Bx{P:Program}{t:TypeId}{vR:TypeDesc}(h:P.underlying t=some vR):eR P (underlying t)=some vR:=by
 have:eR P (underlying t)=eR P (match P.underlying t with|some d=>pure d|none=>stuck "no such type"):=by
  rfl
 rw[this,h];rfl
theorem hK{E:ca}{S:aZ}(al:Sat E S)(H:ar){x:Operand}{v:Value}(h:bJ E.l x=some v):qs S.T H x=v:=by
 unfold qs;rw[de al H h]
theorem acD{x:Operand}{a v:Value}{S:aZ}{H:ar}(al:Sat ⟨n,ds,l⟩ S)(Iv:o.op.operands.toList=[x])(aa:bJ l x=some a)(aF:plain a=true)(he:eR K.P (execOp (qs S.T H) o)=some (.value v))(av:plain v=true):fl K.P S.T H o=some (.val v H):=by
 unfold fl;rw[Iv];have:fL S.T H [x]=some [a]:=by simp only[fL];rw[de al H aa]
 rw[this];simp only[DD,V0,aF,w4,cd,he,av]
theorem pt{x y:Operand}{a b v:Value}{S:aZ}{H:ar}(al:Sat ⟨n,ds,l⟩ S)(Iv:o.op.operands.toList=[x,y])(aa:bJ l x=some a)(ap:bJ l y=some b)(aF:plain a=true)(ai:plain b=true)(he:eR K.P (execOp (qs S.T H) o)=some (.value v))(av:plain v=true):fl K.P S.T H o=some (.val v H):=by
 unfold fl;rw[Iv];have:fL S.T H [x,y]=some [a,b]:=by simp only[fL];rw[de al H aa,de al H ap]
 rw[this];simp only[DD,V0,aF,ai,w4,cd,he,av]
theorem aeF{t:TypeId}{x:Operand}{b:Bool}(ah:o.op=.unOp .not t x)(aa:bJ l x=some (.bool b)):cY K B o n ds l m J (.bool (!b)):=by
 intro call aJ S H al aB;unfold cz e4;simp only[ah];show fl K.P S.T H o=_;refine acD al (by rw[ah];rfl) aa rfl ?_ rfl;unfold execOp;simp only[ah];rw[hK al H aa];rfl
theorem awu{t:TypeId}{x:Operand}{p:Prop}[Decidable p](ah:o.op=.unOp .not t x)(aa:bJ l x=some (.bool (decide p))):cY K B o n ds l m J (.bool (decide (¬p))):=by
 have:=aeF (K:=K) (B:=B) (n:=n) (ds:=ds) (m:=m) (J:=J) ah aa;rwa [show(!decide p)=decide (¬p) by simp] at this
def isInt (P:Program)(s d:TypeId):Option IntKind:=match P.underlying s,P.underlying d with
 |some _,some (.int k)=>some k
 |_,_=>none
theorem awg{s t:TypeId}{x:Operand}{k lQ:IntKind}{a b:Int}(ah:o.op=.convert s t x)(aa:bJ l x=some (.int lQ a))(aI:isInt K.P s t=some k)(hw:k.wrap a=b):cY K B o n ds l m J (.int k b):=by
 intro call aJ S H al aB;unfold cz e4;simp only[ah];show yN K.P _ s t (a3 S.T H x)=_;rw[de al H aa];unfold yN;simp only
 unfold isInt at aI;split at aI
 ·rename_i ad ae;rw[ad,ae];injection aI with aI;subst aI
  simp only[ub,Gb,hw];rfl
 ·cases aI
def CM (P:Program)(t:TypeId):Bool:=match P.underlying t with
 |some (.interface _)=>false
 |some _=>true
 |none=>false
theorem awk{t:TypeId}{x:Operand}{v:Value}(ah:o.op=.makeInterface t x)(aa:bJ l x=some v)(aI:CM K.P t=true):cY K B o n ds l m J (.iface t v):=by
 intro call aJ S H al aB;unfold cz e4;simp only[ah];show CZ K.P _ t (a3 S.T H x) (K.P.underlying t)=_;rw[de al H aa];unfold CM at aI;cases hu:K.P.underlying t with
 |none=>rw[hu] at aI;cases aI
 |some vR=>rw[hu] at aI;cases vR<;>first|rfl|cases aI
theorem awj{f:FuncId}{a b:Array Operand}{iz kP:List Value}(ah:o.op=.makeFunc (.func f) a b)(aF:h4 l a.toList=some iz)(ai:h4 l b.toList=some kP):cY K B o n ds l m J (.func (.func f) iz.toArray kP.toArray):=by
 intro call aJ S H al aB;unfold cz e4;simp only[ah];show CY K.P _ (.func f) (fL S.T H a.toList) (fL S.T H b.toList)=_;rw[oB al H aF,oB al H ai];rfl
def tX (l:List (Nat×Value)):List (Nat×Operand)->Option (List (Nat×Value))
 |[]=>some []
 |(i,x)::r=>match bJ l x with
  |some v=>(match tX l r with|some vs=>some ((i,v)::vs)|none=>none)
  |none=>none
theorem XY{E:ca}{S:aZ}(al:Sat E S)(H:ar):∀{xs:List (Nat×Operand)} {vs:List (Nat×Value)},tX E.l xs=some vs->lV S.T H xs=some vs:=by
 intro xs;induction xs with
 |nil=>intro vs h;exact h
 |cons x r aP=>
  obtain⟨i,x⟩:=x;intro vs h;simp only[tX] at h;simp only[lV];cases aa:bJ E.l x with
  |none=>rw[aa] at h;cases h
  |some v=>
   rw[aa] at h;simp only at h;rw[de al H aa];simp only;cases ao:tX E.l r with
   |none=>rw[ao] at h;cases h
   |some ws=>rw[ao] at h;simp only at h;rw[aP ao];exact h
def GQ (P:Program)(t:TypeId):Option (Sum (List (Nat×Nat)) Nat×List Value):=match hA P t,P.underlying t with
 |some z,some (.struct fields)=>bif plain z then(match places P fields.toList with|some ps=>some (.inl ps,z.cells.toList)|none=>none) else none
 |some z,some (.array _ elem)=>bif plain z then(match eV P elem with|some sz=>some (.inr sz,z.cells.toList)|none=>none) else none
 |_,_=>none
def placeOf:Sum (List (Nat×Nat)) Nat->Nat->Option (Nat×Nat)
 |.inl ps=>nth ps
 |.inr sz=>fun i=>some (i*sz,sz)
theorem awf{t:TypeId}{ps:Array (Nat×Operand)}{vs:List (Nat×Value)}{pl:Sum (List (Nat×Nat)) Nat}{z cells:List Value}(ah:o.op=.build t ps)(aw:tX l ps.toList=some vs)(aI:GQ K.P t=some (pl,z))(aA:nX (placeOf pl) z vs=some cells):cY K B o n ds l m J (.agg cells.toArray):=by
 intro call aJ S H al aB;unfold cz e4;simp only[ah];show CU K.P _ t (lV S.T H ps.toList)=_;rw[XY al H aw];show g9 (Hq K.P t vs) H=_;unfold GQ at aI;unfold Hq;cases aM:hA K.P t with
 |none=>rw[aM] at aI;cases aI
 |some mP=>
  rw[aM] at aI;cases hu:K.P.underlying t with
  |none=>rw[hu] at aI;cases aI
  |some vR=>
   rw[hu] at aI;cases vR with
   |struct fields=>
    simp only at aI ⊢;cases Ix:plain mP with
    |false=>rw[Ix] at aI;cases aI
    |true=>
     rw[Ix,cd] at aI;rw[cd];cases bQ:places K.P fields.toList with
     |none=>rw[bQ] at aI;cases aI
     |some dO=>
      rw[bQ] at aI;simp only[cn,dr] at aI;obtain⟨rfl,rfl⟩:=aI;have aA:nX (nth dO) mP.cells.toList vs=some cells:=aA;simp only[aA];rfl
   |array k elem=>
    simp only at aI ⊢;cases Ix:plain mP with
    |false=>rw[Ix] at aI;cases aI
    |true=>
     rw[Ix,cd] at aI;rw[cd];cases bQ:eV K.P elem with
     |none=>rw[bQ] at aI;cases aI
     |some sz=>
      rw[bQ] at aI;simp only[cn,dr] at aI;obtain⟨rfl,rfl⟩:=aI;have aA:nX (fun i=>some (i*sz,sz)) mP.cells.toList vs=some cells:=aA;simp only[aA];rfl
   |_=>cases aI
def zy (P:Program)(t:TypeId):Option (Nat×TypeId×Nat):=match P.underlying t with
 |some (.array len elem)=>(match eV P elem with|some sz=>some (len,elem,sz)|none=>none)
 |_=>none
theorem WW{P:Program}{t elem:TypeId}{len sz:Nat}(h:zy P t=some (len,elem,sz)):P.underlying t=some (.array len elem)/\eV P elem=some sz:=by
 unfold zy at h;split at h
 ·rename_i ad;split at h
  ·rename_i ae;simp only[cn,dr] at h;obtain⟨rfl,rfl,rfl⟩:=h;exact⟨ad,ae⟩
  ·cases h
 ·cases h
theorem awl{t elem:TypeId}{x dz:Operand}{a off len sz:Nat}{k:IntKind}{i:Int}(ah:o.op=.indexAddr t x dz)(aa:bJ l x=some (.pointer (some ⟨a,off,none⟩)))(ak:bJ l dz=some (.int k i))(aI:zy K.P t=some (len,elem,sz))(aR:0<=i)(ad:i<len):cY K B o n ds l m J (.pointer (some ⟨a,off+i.toNat*sz,none⟩)):=by
 obtain⟨hu,aM⟩:=WW aI;intro call aJ S H al aB;unfold cz e4;simp only[ah];show yO K.P _ t (a3 S.T H x) (a3 S.T H dz)=_;rw[de al H aa,de al H ak];show g9 (xU K.P t (.pointer (some ⟨a,off,none⟩)) (.int k i)) H=_;unfold xU;simp only[hu,Th aR ad,aM];rfl
theorem awm{t elem e:TypeId}{g:Nat}{dz:Operand}{cells:List Value}{len sz:Nat}{k:IntKind}{i:Int}(ah:o.op=.indexAddr t (.global g) dz)(ay:Nat.blt g K.g0=true)(fY:J g=some (cells,e))(ak:bJ l dz=some (.int k i))(aI:zy K.P t=some (len,elem,sz))(aR:0<=i)(ad:i<len):cY K B o n ds l m J (.pointer (some ⟨g,0+i.toNat*sz,none⟩)):=by
 obtain⟨hu,aM⟩:=WW aI;intro call aJ S H al aB;unfold cz e4;simp only[ah];show yO K.P _ t (FL H g) (a3 S.T H dz)=_;obtain⟨o',cF,hF,cM,bQ⟩:=aB.ei _ _ _ fY;have:FL H g=some (.pointer (some ⟨g,0,none⟩)):=by
  unfold FL;rw[aB.bL,ay,cd,bQ]
 rw[this,de al H ak];show g9 (xU K.P t (.pointer (some ⟨g,0,none⟩)) (.int k i)) H=_;unfold xU;simp only[hu,Th aR ad,aM];rfl
theorem W6{op:BinOp}{t dH:TypeId}{x y:Operand}{a b:Value}{r:Bool}{S:aZ}{H:ar}{call:eI}{aJ:hl}(ah:o.op=.binOp op t x y dH)(aa:a3 S.T H x=some a)(ap:a3 S.T H y=some b)(ak:∀k i,a≠.int k i)(aw:fl K.P S.T H o=none)(he:wN K.P ⟨call,aJ,S,H,o⟩ t a b op=some (.val (.bool r) H)):cz K.P call aJ S H o=some (.val (.bool r) H):=by
 unfold cz e4;simp only[ah];show lU K.P _ op t (a3 S.T H x) (a3 S.T H y)=_;rw[aa,ap];have:lU K.P ⟨call,aJ,S,H,o⟩ op t (some a) (some b)=uO K.P ⟨call,aJ,S,H,o⟩ op t a b:=by
  cases a<;>first|rfl|exact absurd rfl (ak _ _)
 rw[this];unfold uO;show orElse (fl K.P S.T H o) _=_;rw[aw];exact he
theorem awC{op:BinOp}{t dH:TypeId}{x y:Operand}{b:Option Addr}{len cap:Nat}(ah:o.op=.binOp .eql t x y dH)(aa:bJ l x=some (.slice b len cap))(ap:bJ l y=some (.slice none 0 0))(aI:isSlice K.P t=true):cY K B o n ds l m J (.bool b.isNone):=by
 intro call aJ S H al aB;unfold isSlice at aI;split at aI
 ·rename_i e hu;cases b with
  |none=>
   unfold cz e4;simp only[ah];show lU K.P _ .eql t (a3 S.T H x) (a3 S.T H y)=_;rw[de al H aa,de al H ap];show orElse (fl K.P S.T H o) _=_;have:fl K.P S.T H o=some (.val (.bool true) H):=by
    refine pt al (by rw[ah];rfl) aa ap rfl rfl ?_ rfl;unfold execOp;simp only[ah];rw[hK al H aa,hK al H ap];rw[eL (a:=.bool true)]
    ·rfl
    rw[eL (a:=()) (by rfl)];have ai:binOp .eql t (.slice none len cap) (.slice none 0 0)=(do pure (.bool (<-Op.equal t (.slice none len cap) (.slice none 0 0)))):=by simp[binOp]
    rw[ai,eL (a:=true)]
    ·rfl
    show eR K.P (Op.equalIn (9999+1) t (.slice none len cap) (.slice none 0 0))=_;unfold Op.equalIn;rw[eL (Bx hu)];rfl
   rw[this];rfl
  |some a=>
   refine W6 ah (de al H aa) (de al H ap) (fun _ _ q=>by cases q) ?_ ?_
   ·unfold fl;rw[ah];have:fL S.T H (Op.binOp BinOp.eql t x y dH).operands.toList=some [.slice (some a) len cap,.slice none 0 0]:=by
     show fL S.T H [x,y]=_;simp only[fL];rw[de al H aa,de al H ap]
    rw[this];rfl
   ·unfold wN xT;simp only[hu];rfl
 ·cases aI
end
inductive fR (J:aj) (e:TypeId) (sz:Nat):Value->Nat->List Value->Prop
 |nil:fR J e sz (.slice none 0 0) 0 []
 |jH (a off cap:Nat):cap<cO->fR J e sz (.slice (some ⟨a,off,none⟩) 0 cap) 0 []
 |zK:fR J e sz (.slice (some ⟨0,0,some 0⟩) 0 0) 0 []
 |row {a off len cap:Nat} {cells cs:List Value} {bD:TypeId}:J a=some (cells,bD)->(cells.drop off).take (len*sz)=cs->cs.length=len*sz->(cap≠cO->len<=cap/\cap<cO)->(cap=cO->bD=e)->fR J e sz (.slice (some ⟨a,off,none⟩) len cap) len cs
theorem fR.mono{J af:aj}(hle:J.le af){e:TypeId}{sz n:Nat}{v:Value}{cs:List Value}(h:fR J e sz v n cs):fR af e sz v n cs:=by
 cases h with
 |nil=>exact .nil
 |jH a off cap h=>exact .jH a off cap h
 |zK=>exact .zK
 |row ad ae aD a6 eM=>exact .row (hle _ _ ad) ae aD a6 eM
theorem fR.inv{J:aj}{e:TypeId}{sz n:Nat}{v:Value}{cs:List Value}(h:fR J e sz v n cs):∃b c,v=.slice b n c/\cs.length=n*sz/\(b=none->n=0)/\(0<n->∃a off cells bD,b=some ⟨a,off,none⟩/\J a=some (cells,bD)/\∀k,k<n*sz->nth cells (off+k)=cs[k]?):=by
 cases h with
 |nil=>exact⟨_,_,rfl,by simp,fun _=>rfl,fun q=>absurd q (by omega)⟩
 |jH a off cap h=>exact⟨_,_,rfl,by simp,fun _=>rfl,fun q=>absurd q (by omega)⟩
 |zK=>exact⟨_,_,rfl,by simp,fun _=>rfl,fun q=>absurd q (by omega)⟩
 |@row a off len cap cells cs bD ad ae aD a6 eM=>
  refine⟨_,_,rfl,aD,(fun q=>by cases q),fun _=>⟨a,off,cells,bD,rfl,ad,fun k hk=>?_⟩⟩;rw[lT,<-ae,jY,aV hk,o0]
theorem fR.len{J:aj}{e:TypeId}{sz n:Nat}{v:Value}{cs:List Value}(h:fR J e sz v n cs):cs.length=n*sz:=by
 obtain⟨_,_,_,h,_⟩:=h.inv;exact h
theorem y5{α:Type}{n:Nat}{l:List α}(h:n<=l.length):takeN n l=some (l.take n):=by
 induction n generalizing l with
 |zero=>rfl
 |succ n aP=>
  cases l with
  |nil=>simp at h
  |cons a l=>
   simp only[takeN];rw[aP (by simpa using h)];rfl
def mW(g0:Nat)(B:dv)(J:aj)(m:aN)(sz:Nat)(v:Value)(n:Nat)(cs:List Value):Prop:=∀H,Inv g0 B J m H->r5 v=some n/\j4 H sz n v=some cs
theorem fR.rd{g0:Nat}{B:dv}{J:aj}{m:aN}{e:TypeId}{sz n:Nat}{v:Value}{cs:List Value}(h:fR J e sz v n cs):mW g0 B J m sz v n cs:=by
 intro H aB;cases h with
 |nil=>exact⟨rfl,rfl⟩
 |jH a off cap h=>exact⟨rfl,rfl⟩
 |zK=>exact⟨rfl,rfl⟩
 |@row a off len cap cells cs bD ad ae aD a6 eM=>
  refine⟨rfl,?_⟩;obtain⟨o,f,z,s,q⟩:=aB.ei _ _ _ ad;unfold j4;cases n with
  |zero=>simp only;rw[<-ae];simp
  |succ n=>
   simp only[q];rw[xO,y5,ae];have:((cells.drop off).take ((n+1)*sz)).length=(n+1)*sz:=by rw[ae];exact aD
   rw[eA] at this;omega
section
variable {K:dR}{B:dv}{o:Oper}{n:Nat}{ds:ee}{l:List (Nat×Value)}{m m':aN}{J:aj}{fk:ca->aN->aj->Prop}{d:Nat}
def mN (P:Program)(t:TypeId):Option (TypeId×Nat×List Value):=match P.underlying t with
 |some (.slice e)=>(match eV P e,vF P e,hA P e with
  |some sz,some ju,some z=>bif Nat.ble ju 1000000&&Nat.beq z.cells.toList.length sz&&z.cells.toList.all fh&&plain z then some (e,sz,z.cells.toList) else none
  |_,_,_=>none)
 |_=>none
theorem u0{P:Program}{t e:TypeId}{sz:Nat}{gz:List Value}(h:mN P t=some (e,sz,gz)):P.underlying t=some (.slice e)/\eV P e=some sz/\∃ju z,vF P e=some ju/\hA P e=some z/\Nat.ble ju 1000000=true/\gz=z.cells.toList/\gz.length=sz/\gz.all fh=true/\plain z=true:=by
 unfold mN at h;split at h
 ·rename_i bD ad;split at h
  ·rename_i avq ju z ae aD a6;cases ai:(Nat.ble ju 1000000&&Nat.beq z.cells.toList.length avq&&z.cells.toList.all fh&&plain z) with
   |true=>
    rw[ai,cd] at h;simp only[cn,dr] at h;obtain⟨rfl,rfl,rfl⟩:=h;simp only[gr] at ai;obtain⟨⟨⟨a',bf⟩,bV⟩,dx⟩:=ai;exact⟨ad,ae,ju,z,aD,a6,a',rfl,ez bf,bV,dx⟩
   |false=>rw[ai,dK] at h;cases h
  ·cases h
 ·cases h
theorem axf{t e:TypeId}{k sz:Nat}{gz cells:List Value}{ps:Array (Nat×Operand)}{vs:List (Nat×Value)}(ah:o.op=.buildSlice t k ps)(au:o.dst=some d)(aE:Nat.blt d n=true)(aw:tX l ps.toList=some vs)(aI:mN K.P t=some (e,sz,gz))(hk:(Nat.ble k 100000&&Nat.ble (k*sz) 100000)=true)(aA:nX (fun i=>some (i*sz,sz)) (fM gz k) vs=some cells)(ad:cells.all fh=true)
 (h:∀a,fk ⟨n,ds,(d,.slice (some ⟨a,0,none⟩) k k)::l⟩ ((a,.row cells e)::m) J):jW K B o ⟨n,ds,l⟩ m J fk:=by
 obtain⟨hu,eb,ju,z,h9,aM,a',rfl,bf,bV,dx⟩:=u0 aI;refine jW.Dg au aE fun S H al aB=>?_;obtain⟨H1,ax,aS⟩:=aB.alloc cells e;refine⟨_,H1,_,J,fun call aJ=>?_,aS,h H.an⟩;unfold cz e4;simp only[ah];show JC K.P _ t k (lV S.T H ps.toList)=_;rw[XY al H aw];show nJ (Hr K.P H t k vs)=_;unfold Hr uN;simp only[hu,eb,aM];rw[hk,dx,show Nat.beq z.cells.toList.length sz=true by rw[bf];exact hT _];simp only[w4,cd,aA,ad,ax];rfl
theorem IW{i:Int}{len:Nat}(aR:0<=i)(ad:i<=len):ra i len=some i.toNat:=by
 cases i with
 |ofNat n=>
  unfold ra;have:Nat.ble n len=true:=mo (by simpa using ad);simp only[this,cd];rfl
 |negSucc n=>exact absurd aR (by simp)
theorem nf{t e:TypeId}{x y:Operand}{sz:Nat}{gz:List Value}{i j:Int}{s' Fk:IntKind}(ah:o.op=.makeSlice t x y)(au:o.dst=some d)(aE:Nat.blt d n=true)(aa:bJ l x=some (.int s' i))(ap:bJ l y=some (.int Fk j))(aI:mN K.P t=some (e,sz,gz))(aR:0<=i)(ad:i<=j)(ae:j<=1000000)
 (h:∀a,fk ⟨n,ds,(d,.slice (some ⟨a,0,none⟩) i.toNat j.toNat)::l⟩ ((a,.row (fM gz j.toNat) e)::m) J):jW K B o ⟨n,ds,l⟩ m J fk:=by
 obtain⟨hu,eb,ju,z,h9,aM,a',rfl,bf,bV,dx⟩:=u0 aI;refine jW.Dg au aE fun S H al aB=>?_;obtain⟨H1,ax,aS⟩:=aB.alloc (fM z.cells.toList j.toNat) e;refine⟨_,H1,_,J,fun call aJ=>?_,aS,h H.an⟩;unfold cz e4;simp only[ah];show JD K.P _ t (a3 S.T H x) (a3 S.T H y)=_;rw[de al H aa,de al H ap];show nJ (Hu K.P H t (.int s' i) (.int Fk j))=_;unfold Hu uN;simp only[hu,aM,h9,eb];rw[IW (by omega) (by omega),IW (by omega) (by omega)];simp only[a',bV,dx,Kx];rw[show Nat.beq z.cells.toList.length sz=true by rw[bf];exact hT _,show Nat.ble i.toNat j.toNat=true from mo (by omega)];simp only[Kx,cd,ax];rfl
inductive Acc (e:TypeId) (sz:Nat):Value->Nat->List Value->aN->Prop
 |nil:Acc e sz (.slice none 0 0) 0 [] []
 |jH (a:Nat):Acc e sz (.slice (some ⟨a,0,none⟩) 0 0) 0 [] []
 |opn {a k:Nat} {cells:List Value} {rest:List Nat} {z:Nat}:cells.length=k*sz->z<=cells.length->Acc e sz (.slice (some ⟨a,0,none⟩) k cO) k cells [(a,.opn cells e rest z)]
 |cap {a k C:Nat} {cells full:List Value} {el:TypeId}:full.length=C*sz->full.take (k*sz)=cells->k<=C->C<cO->Acc e sz (.slice (some ⟨a,0,none⟩) k C) k cells [(a,.row full el)]
theorem y3{α:Type}:∀(off:Nat) (l vs:List α),off+vs.length<=l.length->gS off l vs=some (l.take off++vs++l.drop (off+vs.length)):=by
 intro off;induction off with
 |zero=>
  intro l vs h;induction vs generalizing l with
  |nil=>cases l<;>simp[gS]
  |cons v vs aP=>
   cases l with
   |nil=>simp at h
   |cons a l=>
    have:=aP l (by simp only[kR] at h;omega);simp only[gS,this];simp
 |succ n aP=>
  intro l vs h;cases l with
  |nil=>simp at h
  |cons a l=>
   have:=aP l vs (by simp only[kR] at h;omega);simp only[gS,this];simp[Nat.add_right_comm n 1 vs.length]
theorem Inv.perm{g0:Nat}{H:ar}(h:Inv g0 B J m H)(aw:m.Perm m'):Inv g0 B J m' H:=
 ⟨h.wf,h.bL,h.an,h.cy,h.gn,h.nB,h.ei,h.le,h.fresh,fun a b q=>h.own a b (aw.symm.subset q),fun a b q=>h.opn a b (aw.symm.subset q),(MO aw).nodup_iff.1 h.gF⟩
theorem Inv.grow{g0 a z:Nat}{H:ar}{cells:List Value}{e:TypeId}{rest:List Nat}(h:Inv g0 B J ((a,.opn cells e rest z)::m) H)(cells':List Value):∃f H1 bW,H.mem.get a=some (.row cells e true f z false)/\H.bF.get f=some (a::rest)/\H.se f (H.an::a::rest)=some H1/\H1.an=H.an/\H1.new (.row cells' e true f z false)=some (H.an,bW)/\Inv g0 B J ((H.an,.opn cells' e (a::rest) z)::m) bW:=by
 obtain⟨aW,aT,bo,cu⟩:=h.own a _ (.head _);obtain⟨f,f1,f2,f3⟩:=aW;have Zj:=h.wf.Hz f3;have eh:=h.gF;rw[show ids ((a,dI.opn cells e rest z)::m)=a::(rest++ids m) from rfl,vn,nh] at eh;obtain⟨H1,ax⟩:=h.wf.se (H.an::a::rest) Zj;obtain⟨s2,s1,gN,mM,rk⟩:=ar.FW ax;have hm:Inv g0 B J m H1:=by
  refine⟨h.wf.UL Zj ax,mM.trans h.bL,by rw[s2];exact h.an,by rw[gN];exact h.cy,fun x aa ft=>by rw[s1];exact h.gn x aa ft,fun g ay=>?_,fun x c e aX=>by rw[s1];exact h.ei x c e aX,h.le,h.fresh,fun x b ai=>?_,fun x b ai y ap=>by rw[s2];exact h.opn x b (.tail _ ai) y ap,(DJ _ _).nodup eh.2⟩
  ·rw[rk,aQ (fun q=>ay (by rw[q];exact f1))];exact h.nB g ay
  ·obtain⟨ec,dA,ib,j8⟩:=h.own x b (.tail _ ai);refine⟨?_,dA,ib,j8⟩;cases b with
   |row c e=>show H1.mem.get x=_;rw[s1];exact ec
   |map es k=>show H1.mem.get x=_;rw[s1];exact ec
   |loop r=>show H1.mem.get x=_;rw[s1];exact ec
   |gP=>show H1.mem.get x=_;rw[s1];exact ec
   |opn c bD r hF=>
    obtain⟨g,b4,bZ,cH⟩:=ec;refine⟨g,b4,by rw[s1];exact bZ,?_⟩;rw[rk,aQ]
    ·exact cH
    ·intro q;subst q;rw[f3] at cH;injection cH with cH;injection cH with cH
     subst cH;exact eh.1 (.inr (Ag ai))
 obtain⟨bW,aS⟩:=hm.wf.new (.row cells' e true f z false);obtain⟨_,df,ef,e9,hv,fe⟩:=ar.pp aS;refine⟨f,H1,bW,f2,f3,ax,s2,by rw[<-s2];exact aS,?_⟩;have ae:Inv g0 B J m bW:=by
  refine⟨hm.wf.TX aS,hv.trans hm.bL,by have:=hm.an;omega,by rw[e9];exact hm.cy,fun x aa ft=>?_,fun g ay=>by rw[ef];exact hm.nB g ay,fun x c e aX=>?_,hm.le,hm.fresh,fun x b ai=>?_,fun x b ai y ap=>?_,hm.gF⟩
  ·rw[fe,aQ (by have:=hm.an;omega)];exact hm.gn x aa ft
  ·obtain⟨o,f,z,s,q⟩:=hm.ei x c e aX;exact⟨o,f,z,s,by rw[fe,aQ (by have:=hm.wf.lt q;omega)];exact q⟩
  ·obtain⟨ec,dA,ib,j8⟩:=hm.own x b ai;exact⟨dI.xo ec (by rw[fe,aQ (by have:=hm.lt ai;omega)]) (fun f l aA=>by rw[ef];exact aA),dA,ib,j8⟩
  ·obtain⟨ec,dA,ib⟩:=hm.opn x b ai y ap;exact⟨by omega,dA,ib⟩
 refine⟨ae.wf,ae.bL,ae.an,ae.cy,ae.gn,ae.nB,ae.ei,ae.le,ae.fresh,fun x b ai=>?_,fun x b ai y ap=>?_,?_⟩
 ·rcases gj.1 ai with q|q
  ·injection q with aL aG;subst aL;subst aG
   exact⟨⟨f,f1,by rw[fe,s2,aV rfl],by rw[ef,rk,aV rfl]⟩,.inl h.an,h.T0,h.Q7⟩
  ·exact ae.own x b q
 ·rcases gj.1 ai with q|q
  ·injection q with aL aG;subst aL;subst aG
   have cD:y<H.an/\(B.H0.an<=y\/B.X y)/\J y=none:=by
    rcases gj.1 (show y∈a::rest from ap) with q|q
    ·subst q;exact⟨h.lt (.head _),aT,bo⟩
    ·exact h.opn a _ (.head _) y q
   exact⟨by have:=cD.1;omega,cD.2⟩
  ·exact ae.opn x b q y ap
 ·show(H.an::(a::(rest++ids m))).Nodup;rw[vn];refine⟨fun q=>?_,h.gF⟩;have:=h.M3 (show H.an∈ids ((a,dI.opn cells e rest z)::m) from q);omega
theorem W7{j:Nat}(h:j≠0):Nat.ble (0+j) 0=false:=by
 cases q:Nat.ble (0+j) 0
 ·rfl
 ·have:=h3 q;omega
def iA(bc:aN):Prop:=∀a c e r z,(a,dI.opn c e r z)∈bc->z=0
theorem Vw{a:Nat}{c:List Value}{e:TypeId}{r:List Nat}:iA [(a,.opn c e r 0)]:=fun a c e r z q=>by
 rcases gj.1 q with q|q
 ·injection q with _ q;injection q
 ·cases q
theorem axp{a:Nat}{c:List Value}{e:TypeId}:iA [(a,.row c e)]:=fun a c e r z q=>by
 rcases gj.1 q with q|q
 ·cases q
 ·cases q
theorem axo{a b0:Nat}{c c':List Value}{e bD:TypeId}{r cv:List Nat}{z:Nat}(h:iA [(a,.opn c e r z)]):iA [(b0,.opn c' bD cv z)]:=fun b x y u w q=>by
 rcases gj.1 q with q|q
 ·injection q with _ q;injection q with _ _ _ q
  subst q;exact h _ _ _ _ _ (.head _)
 ·cases q
def uM(bc:aN):Prop:=∀a c e,(a,dI.row c e)∉bc
theorem Na{a:Nat}{c:List Value}{e:TypeId}{r:List Nat}{z:Nat}:uM [(a,.opn c e r z)]:=fun a c e q=>by
 rcases gj.1 q with q|q
 ·cases q
 ·cases q
theorem afb{c:Call}{t h1 e:TypeId}{sz k j:Nat}{gz cells new:List Value}{v x:Value}{bc fo:aN}{eK:TypeDesc}(ah:o.op=.call c)(aC:c.callee=.builtin .append)(au:o.dst=some d)(aE:Nat.blt d n=true)(aF:h4 l c.args.toList=some [v,x])(n7:c.argTypes.toList=[t,h1])(aI:mN K.P t=some (e,sz,gz))(k3:K.P.underlying h1=some eK)(wi:∀i,eK≠.int i)
 (av:Acc e sz v k cells bc)(hm:m=bc++fo)(aa:mW K.g0 B J m sz x j new)(dT:new.length=j*sz)(dX:new.all fh=true)(aq:k+j<=1000000)
 (h:∀w jM,Acc e sz w (k+j) (cells++new) jM->(iA bc->iA jM)/\(uM bc->uM jM)->fk ⟨n,ds,(d,w)::l⟩ (jM++fo) J):jW K B o ⟨n,ds,l⟩ m J fk:=by
 obtain⟨hu,eb,ju,z,h9,aM,a',rfl,bf,bV,dx⟩:=u0 aI;refine jW.Dg au aE fun S H al aB=>?_;obtain⟨dW,fi⟩:=aa H aB;have g7:∀call aJ,cz K.P call aJ S H o=nJ (qR K.P H t v x):=fun call aJ=>by
  rw[Bu ah aC];unfold qS;rw[oB al H aF,n7];simp only[k3]
 have k2:(!(Nat.ble (k+j) 1000000&&Nat.ble ju 1000000&&Nat.beq z.cells.toList.length sz))=false:=by
  rw[a',bf,hT,show Nat.ble (k+j) 1000000=true from mo aq];rfl
 have qc:(!(new.all fh&&Nat.beq new.length (j*sz)))=false:=by
  rw[dX,dT,hT];rfl
 subst hm;cases av with
 |nil=>
  by_cases aX:j=0
  ·subst aX;have nv:new=[]:=by apply oj;rw[dT];simp
   subst nv;refine⟨.slice none 0 0,H,_,J,fun call aJ=>?_,aB,h _ [] .nil ⟨id,id⟩⟩;rw[g7];unfold qR;simp only[hu,eb,h9,aM,dW,k2,dK,fi,qc];rfl
  ·obtain⟨H1,ax,aS⟩:=aB.oO new e;refine⟨.slice (some ⟨H.an,0,none⟩) j cO,H1,(H.an,.opn new e [] 0)::fo,J,fun call aJ=>?_,aS,?_⟩
   ·rw[g7];unfold qR;simp only[hu,eb,h9,aM,dW,k2,dK,fi,qc];rw[show Nat.beq 0 cO=false from rfl,dK,W7 aX,dK];simp only[j4,DG,jE,hT,cd,kj,fresh,ax,j2];rfl
   ·have:=h (.slice (some ⟨H.an,0,none⟩) j cO) [(H.an,.opn new e [] 0)] (by rw[j2,kj];exact .opn dT (c5 _)) ⟨fun _=>Vw,fun _=>Na⟩;exact this
 |jH a=>
  by_cases aX:j=0
  ·subst aX;have nv:new=[]:=by apply oj;rw[dT];simp
   subst nv;refine⟨.slice (some ⟨a,0,none⟩) 0 0,H,_,J,fun call aJ=>?_,aB,h _ [] (.jH a) ⟨id,id⟩⟩;rw[g7];unfold qR;simp only[hu,eb,h9,aM,dW,k2,dK,fi,qc];rfl
  ·obtain⟨H1,ax,aS⟩:=aB.oO new e;refine⟨.slice (some ⟨H.an,0,none⟩) j cO,H1,(H.an,.opn new e [] 0)::fo,J,fun call aJ=>?_,aS,?_⟩
   ·rw[g7];unfold qR;simp only[hu,eb,h9,aM,dW,k2,dK,fi,qc];rw[show Nat.beq 0 cO=false from rfl,dK,W7 aX,dK];simp only[j4,DG,jE,hT,cd,kj,fresh,ax,j2];rfl
   ·have:=h (.slice (some ⟨H.an,0,none⟩) j cO) [(H.an,.opn new e [] 0)] (by rw[j2,kj];exact .opn dT (c5 _)) ⟨fun _=>Vw,fun _=>Na⟩;exact this
 |@opn a k cells rest z hlen ht=>
  have wx:Nat.ble z (0+k*sz)=true:=mo (by omega);by_cases aX:j=0
  ·subst aX;have nv:new=[]:=by apply oj;rw[dT];simp
   subst nv;obtain⟨f,H1,bW,b4,bZ,gf,hc,gU,o8⟩:=Inv.grow (m:=fo) aB cells;have p':Nat.blt a H.bL=false:=by
    cases q:Nat.blt a H.bL
    ·rfl
    ·have:a<H.bL:=by simpa[Nat.blt,xd] using q
     have:=(aB.own _ _ (.head _)).2.2.2;have:=aB.bL;omega
   refine⟨.slice (some ⟨a,0,none⟩) k cO,H,_,J,fun call aJ=>?_,aB,h _ [(a,.opn cells e rest z)] (by rw[iD,hi];exact .opn hlen ht) ⟨id,id⟩⟩;rw[g7];unfold qR;simp only[hu,eb,h9,aM,dW,k2,dK,fi,qc,hT,cd,b4,p',VJ,w4,wx,nM];rfl
  ·obtain⟨f,H1,bW,b4,bZ,gf,hc,gU,o8⟩:=Inv.grow (m:=fo) aB (cells++new);have p':Nat.blt a H.bL=false:=by
    cases q:Nat.blt a H.bL
    ·rfl
    ·have:a<H.bL:=by simpa[Nat.blt,xd] using q
     have:=(aB.own _ _ (.head _)).2.2.2;have:=aB.bL;omega
   refine⟨.slice (some ⟨H.an,0,none⟩) (k+j) cO,bW,(H.an,.opn (cells++new) e (a::rest) z)::fo,J,fun call aJ=>?_,o8,?_⟩
   ·rw[g7];have R9:Nat.beq j 0=false:=by
     cases q:Nat.beq j 0
     ·rfl
     ·exact absurd (ez q) aX
    have uD:takeN (k*sz) cells=some cells:=by rw[y5 (by omega),cU (by omega)]
    unfold qR;simp only[hu,eb,h9,aM,dW,k2,dK,fi,qc,hT,cd,b4,p',VJ,w4,wx,nM,R9,uD,bZ,zH,hlen,Ha,gf,hc,gU];rfl
   ·exact h (.slice (some ⟨H.an,0,none⟩) (k+j) cO) [(H.an,.opn (cells++new) e (a::rest) z)] (.opn (by rw[eX,hlen,dT,c6]) (by rw[eX];omega)) ⟨axo,fun _=>Na⟩
 |@cap a k C cells full el jz q3 Zr hM=>
  have ZG:Nat.beq C cO=false:=by
   cases q:Nat.beq C cO
   ·rfl
   ·have:=ez q;omega
  have mz:H.mem.get a=some (.row full el false 0 0 false):=(aB.own a (.row full el) (.head _)).1;have H5:cells.length=k*sz:=by rw[<-q3,eA,jz,g6 (fq _ Zr)]
  have Ml:Nat.blt a H.bL=false:=by
   cases q:Nat.blt a H.bL
   ·rfl
   ·have:a<H.bL:=by simpa[Nat.blt,xd] using q
    have:=(aB.own _ _ (.head _)).2.2.2;have:=aB.bL;omega
  by_cases n2:k+j<=C
  ·have Ck:k*sz+new.length<=full.length:=by rw[dT,jz,<-c6];exact fq _ n2
   have qg:=y3 (k*sz) full new Ck;have dB:∃H1,sN H a (0+k*sz) new=some H1/\∃Eu,Inv K.g0 B J ((a,.row Eu el)::fo) H1/\Eu.length=C*sz/\Eu.take ((k+j)*sz)=cells++new:=by
    cases uy:new with
    |nil=>
     have aR:j*sz=0:=by rw[<-dT,uy];rfl
     exact⟨H,rfl,full,aB,jz,by rw[c6,aR,iD,q3,hi]⟩
    |cons h8 xs=>
     obtain⟨H1,ax,aS⟩:=aB.store (cells':=full.take (k*sz)++new++full.drop (k*sz+new.length)) (.head _ _ _ _);refine⟨H1,?_,_,aS,?_,?_⟩
     ·rw[<-uy]
      have:sN H a (0+k*sz) new=(bif Nat.blt a H.bL then none else match H.mem.get a with
       |some (.row cells elem opn bF d' sh)=>bif Nat.ble d' (0+k*sz)&&new.all fh then(match gS (0+k*sz) cells new with
        |none=>none
        |some cells=>match H.upd a (.row cells elem opn bF d' sh) with
         |none=>none
         |some H=>bif opn then Ai H a bF else some H) else none
       |_=>none):=by rw[uy];rfl
      rw[this];simp only[Ml,dK,mz,j2,qg,ax,dX,Kx,Nat.ble,cd]
     ·simp only[eX,eA,jZ];omega
     ·rw[lB,List.take_append,q3,cU (by rw[H5,c6];omega),List.take_append,cU (by rw[H5,dT,c6];omega),H5,dT,c6,show k*sz+j*sz -k*sz -j*sz=0 by omega,fO,hi];exact cC _ uy
   obtain⟨H1,ax,Eu,aS,cl,dS⟩:=dB;refine⟨.slice (some ⟨a,0,none⟩) (k+j) C,H1,(a,.row Eu el)::fo,J,fun call aJ=>?_,aS,h _ [(a,.row Eu el)] (.cap cl dS n2 hM) ⟨fun _=>axp,fun q=>absurd (.head _) (q _ _ _)⟩⟩;rw[g7];unfold qR;simp only[hu,eb,h9,aM,dW,k2,dK,fi,qc,ZG,show Nat.ble (k+j) C=true from mo n2,cd,ax];rfl
  ·obtain⟨H1,ax,aS⟩:=aB.oO (cells++new) e;have sV:Nat.ble (k+j) C=false:=by
    cases q:Nat.ble (k+j) C
    ·rfl
    ·have:=h3 q;omega
   have hold:j4 H sz k (.slice (some ⟨a,0,none⟩) k C)=some cells:=by
    cases k with
    |zero=>
     rw[jE,fO] at q3;subst q3;rfl
    |succ k=>
     simp only[j4,mz];rw[xO,gO,y5 (by rw[jz];exact fq _ Zr),q3]
   refine⟨.slice (some ⟨H.an,0,none⟩) (k+j) cO,H1,(H.an,.opn (cells++new) e [] 0)::fo,J,fun call aJ=>?_,aS.sub (.cons_cons _ (.cons _ (.refl _))),h _ [(H.an,.opn (cells++new) e [] 0)] (.opn (by rw[eX,H5,dT,c6]) (c5 _)) ⟨fun _=>Vw,fun _=>Na⟩⟩;rw[g7];unfold qR;simp only[hu,eb,h9,aM,dW,k2,dK,fi,qc,ZG,sV,Am,hold,H5,hT,cd,fresh,ax];rfl
theorem axb{c:Call}{t h1 e:TypeId}{sz k j:Nat}{gz cells new:List Value}{v x:Value}{bc fo:aN}{eK:TypeDesc}(ah:o.op=.call c)(aC:c.callee=.builtin .append)(au:o.dst=some d)(aE:Nat.blt d n=true)(aF:h4 l c.args.toList=some [v,x])(n7:c.argTypes.toList=[t,h1])(aI:mN K.P t=some (e,sz,gz))(k3:K.P.underlying h1=some eK)(wi:∀i,eK≠.int i)
 (av:Acc e sz v k cells bc)(hm:m=bc++fo)(aa:mW K.g0 B J m sz x j new)(dT:new.length=j*sz)(dX:new.all fh=true)(aq:k+j<=1000000)
 (h:∀w jM,Acc e sz w (k+j) (cells++new) jM->fk ⟨n,ds,(d,w)::l⟩ (jM++fo) J):jW K B o ⟨n,ds,l⟩ m J fk:=
 afb ah aC au aE aF n7 aI k3 wi av hm aa dT dX aq fun w jM q _=>h w jM q
end
section
variable {K:dR}{B:dv}{o:Oper}{n:Nat}{ds:ee}{l:List (Nat×Value)}{m m':aN}{J:aj}{fk:ca->aN->aj->Prop}{d:Nat}
theorem az.cut{c:Code}{E:ca}{L:List (Nat×Value)}{M:aN}{bu:aj}{cw:Exit->ca->aN->aj->Prop}(ad:az K B c E m J fun e E' m' af=>match e with
 |.normal=>(∃l',E'=⟨n,ds,l'⟩/\lv l' L)/\M.Sublist m'/\af=bu
 |e=>cw e E' m' af)(ae:cw .normal ⟨n,ds,L⟩ M bu):az K B c E m J cw:=by
 intro S H al aB;obtain⟨e,aH,H',E',cW,af,aW,aT,bo,cu⟩:=ad S H al aB;cases e with
 |normal=>
  obtain⟨⟨l',rfl,fm⟩,iG,rfl⟩:=cu;exact⟨_,aH,H',_,M,_,aW,aT.sub fm,bo.sub iG,ae⟩
 |exit i=>exact⟨_,aH,H',_,_,_,aW,aT,bo,cu⟩
 |goto i=>exact⟨_,aH,H',_,_,_,aW,aT,bo,cu⟩
 |ret=>exact⟨_,aH,H',_,_,_,aW,aT,bo,cu⟩
 |panic c=>exact⟨_,aH,H',_,_,_,aW,aT,bo,cu⟩
 |outgrown=>exact⟨_,aH,H',_,_,_,aW,aT,bo,cu⟩
theorem XB{t:Nat}{p:Prop}[Decidable p](h:look l t=some (.bool true))(aw:p):look l t=some (.bool (decide p)):=by rw[h,jx aw]
theorem Xz{t:Nat}{p:Prop}[Decidable p](h:look l t=some (.bool false))(aw:¬p):look l t=some (.bool (decide p)):=by rw[h,fW aw]
theorem XA{t:Nat}{p q:Prop}[Decidable p][Decidable q](h:look l t=some (.bool (decide q)))(aw:q↔p):look l t=some (.bool (decide p)):=by rw[h];simp[aw]
theorem Xy{t:Nat}{p:Prop}[Decidable p]{b:Bool}(h:look l t=some (.bool b))(aw:b=true↔p):look l t=some (.bool (decide p)):=by rw[h];congr 2;rw[qG];simp[aw]
def vE (l:List (Nat×Value))(d:Int):Option Operand->Option Int
 |none=>some d
 |some x=>match bJ l x with|some (.int _ i)=>some i|_=>none
theorem PT{S:aZ}(al:Sat ⟨n,ds,l⟩ S)(H:ar){dl i:Int}{x:Option Operand}(h:vE l dl x=some i):(x=none/\i=dl/\iy S.T H x=some none)\/(∃k y,x=some y/\bJ l y=some (.int k i)/\iy S.T H x=some (some (.int k i))):=by
 cases x with
 |none=>injection h with h;exact .inl ⟨rfl,h.symm,rfl⟩
 |some y=>
  right
  simp only[vE] at h;split at h
  ·rename_i k j aX;injection h with h;subst h
   exact⟨k,y,rfl,aX,by simp only[iy];rw[de al H aX]⟩
  ·cases h
theorem xw{S:aZ}(al:Sat ⟨n,ds,l⟩ S)(H:ar){dl i:Int}{x:Option Operand}{l5 top:Nat}(h:vE l dl x=some i)(aR:0<=i)(ad:i<=top)(au:dl=l5):∃eF,iy S.T H x=some eF/\kU l5 top eF=some i.toNat:=by
 rcases PT al H h with⟨rfl,rfl,q⟩|⟨k,y,rfl,ap,q⟩
 ·refine⟨none,q,?_⟩;rw[au];rfl
 ·exact⟨_,q,IW aR ad⟩
theorem Vr{t e:TypeId}{x:Operand}{lo ak:Option Operand}{v:Value}{k sz:Nat}{gz cs:List Value}{a b:Int}(ah:o.op=.slice t x lo ak none)(au:o.dst=some d)(aE:Nat.blt d n=true)(aa:bJ l x=some v)(aI:mN K.P t=some (e,sz,gz))(av:fR J e sz v k cs)(hk:0<k)(hQ:vE l 0 lo=some a)(lO:vE l k ak=some b)(aR:0<=a)(ad:a<=b)(ae:b<=k)
 (h:∀w,fR J e sz w (b -a).toNat ((cs.drop (a.toNat*sz)).take ((b -a).toNat*sz))->fk ⟨n,ds,(d,w)::l⟩ m J):jW K B o ⟨n,ds,l⟩ m J fk:=by
 obtain⟨hu,eb,ju,z,h9,aM,a',rfl,bf,bV,dx⟩:=u0 aI;refine jW.Dg au aE fun S H al aB=>?_;cases av with
 |nil=>exact absurd hk (by omega)
 |jH a off cap h=>exact absurd hk (by omega)
 |zK=>exact absurd hk (by omega)
 |@row dn off k cap cells cs bD dq c2 fp ij uV=>
  obtain⟨ol,Jy,yL⟩:=xw (l5:=0) (top:=b.toNat) al H hQ aR (by omega) rfl;have g7:∀w,lc K.P H t (.slice (some ⟨dn,off,none⟩) k cap) ol (match iy S.T H ak with|some x=>x|none=>none)=some w->∀call aJ,cz K.P call aJ S H o=some (.val w H):=fun w hw call aJ=>by
   unfold cz e4;simp only[ah];show nF K.P _ t (a3 S.T H x) (iy S.T H lo) (iy S.T H ak)=_;rw[de al H aa,Jy];rcases PT al H lO with⟨_,_,q⟩|⟨_,_,_,_,q⟩
   ·rw[q] at hw ⊢;unfold nF;simp only;rw[show lc K.P H t (.slice (some ⟨dn,off,none⟩) k cap) ol none=some w from hw];rfl
   ·rw[q] at hw ⊢;unfold nF;simp only;rw[show lc K.P H t (.slice (some ⟨dn,off,none⟩) k cap) ol _=some w from hw];rfl
  have hlen:k*sz<=(cells.drop off).length:=by
   have:((cells.drop off).take (k*sz)).length=k*sz:=by rw[c2];exact fp
   rw[eA] at this;omega
  have ax:(b -a).toNat=b.toNat -a.toNat:=by omega
  have hle:a.toNat*sz+(b -a).toNat*sz<=k*sz:=by
   rw[<-c6];exact fq _ (by omega)
  have g3:(cells.drop (off+a.toNat*sz)).take ((b -a).toNat*sz)=(cs.drop (a.toNat*sz)).take ((b -a).toNat*sz):=by
   rw[<-c2,KK,su,zk,g6 (by omega)]
  have m5:((cs.drop (a.toNat*sz)).take ((b -a).toNat*sz)).length=(b -a).toNat*sz:=by
   rw[eA,jZ,fp];omega
  obtain⟨JA,of,asy,os,bQ⟩:=aB.ei _ _ _ dq;by_cases aC:cap=cO
  ·subst aC;obtain⟨CQ,r',sb⟩:=xw (l5:=k) (top:=k) al H lO (by omega) (by omega) rfl;refine⟨.slice (some ⟨dn,off+a.toNat*sz,none⟩) (b -a).toNat cO,H,m,J,g7 _ ?_,aB,h _ (.row dq g3 m5 (fun q=>absurd rfl q) uV)⟩;rw[r'];unfold lc;simp only[hu,eb,hT,cd,bQ,uV rfl,sb,yL,nM,dK];rw[ax];rfl
  ·obtain⟨CQ,r',sb⟩:=xw (l5:=k) (top:=cap) al H lO (by omega) (by have:=(ij aC).1;omega) rfl;have H4:Nat.beq cap cO=false:=by
    cases q:Nat.beq cap cO
    ·rfl
    ·exact absurd (ez q) aC
   by_cases um:cap=a.toNat
   ·have ht:(b -a).toNat=0:=by have:=(ij aC).1;omega
    refine⟨.slice (some ⟨dn,off,none⟩) (b -a).toNat (cap -a.toNat),H,m,J,g7 _ ?_,aB,h _ ?_⟩
    ·rw[r'];unfold lc;simp only[hu,eb,H4,dK,sb,yL];rw[show Nat.beq cap a.toNat=true by rw[um];exact hT _,cd,ax];rfl
    ·have:(cs.drop (a.toNat*sz)).take ((b -a).toNat*sz)=[]:=by rw[ht];simp
     rw[this,ht,um,zq];exact .jH _ _ _ (by decide)
   ·refine⟨.slice (some ⟨dn,off+a.toNat*sz,none⟩) (b -a).toNat (cap -a.toNat),H,m,J,g7 _ ?_,aB,h _ (.row dq g3 m5 (fun _=>⟨by have:=(ij aC).1;omega,by have:=(ij aC).2;omega⟩) (fun q=>?_))⟩
    ·rw[r'];unfold lc;simp only[hu,eb,H4,dK,sb,yL];have:Nat.beq cap a.toNat=false:=by
      cases q:Nat.beq cap a.toNat
      ·rfl
      ·exact absurd (ez q) um
     rw[this,dK,ax];rfl
    ·have:=(ij aC).2;omega
end
end
end Go.Opn

/- A part of the proof of TableRounds. -/
import Derived.Test.YtfdhclnfkafebaaGreatDoorCam
import Derived.Laws.Strings
import Derived.Laws.Strings2
set_option linter.unusedVariables false
set_option linter.unusedSimpArgs false
namespace Go.Opn
noncomputable section
open Go.Cre Go.RowKit
def bp(K:ef)(B:dy)(ops:List Oper)(a':List jP)(F:List (FuncId×List Value))(E:cC)(m:a8)(J:an)(bF:cC->a8->an->Prop):Prop:=
 ∀S H,Sat E S->Inv K.g0 B J m H->∃bt:eZ,(∀f args H r,bt f args H=some r->(f,args)∉F)/\∃aP H' cV m' ah,
  (∀fY:eZ,(∀f args H r,bt f args H=some r->fY f args H=some r)->dU K.P (iO K.Q fY) (hO K.Q il fY).aQ ops a' S H=some (.ok aP H'))/\Sat cV aP/\Inv K.g0 B ah m' H'/\bF cV m' ah
section
variable {K:ef}{B:dy}{ops:List Oper}{a':List jP}{F:List (FuncId×List Value)}{E:cC}{m m':a8}{J:an}{o:Oper}{bF:cC->a8->an->Prop}{c7:Exit->cC->a8->an->Prop}
variable {n:Nat}{ds:eK}{l:List (Nat×Value)}{d i:Nat}
theorem ae.draw{id:Nat}{a:Array Oper}(aD:KI a.toList=none)(cc:Fp a.toList=true)(ap:Lq a.toList=a')(h:bp K B a.toList a' [] E m J fun E m J=>c7 .normal E m J):ae K B (.region id a true) E m J c7:=by
 intro S H ax aH;obtain⟨bt,_,aP,H',cV,m',ah,ad,af,aV,bq⟩:=h S H ax aH;refine⟨.normal,aP,H',cV,m',ah,dX.y5 K.cX.sJ il bt ?_,af,aV,bq⟩;show uf (yz K.P (hO K.Q il bt).call (hO K.Q il bt).aQ a.toList S H)=_;rw[L4];unfold yz;rw[aD];show uf (Ab K.P (iO K.Q bt) (hO K.Q il bt).aQ a.toList S H)=_;unfold Ab;rw[cc,cv,ap,ad bt (fun _ _ _ _ q=>q)];rfl
theorem bp.nil(h:bF E m J):bp K B ops [] F E m J bF:=fun S H ax aH=>⟨lG,(fun _ _ _ _ q=>by cases q),S,H,E,m,J,fun _ _=>rfl,ax,aH,h⟩
theorem bp.val{v:Value}(ar:nth ops i=some o)(aF:o.guard=none)(aq:o.dst=some d)(aE:Nat.blt d n=true)(az:c5 K B o n ds l m J v)(h:bp K B ops a' F ⟨n,ds,(d,v)::l⟩ m J bF):bp K B ops (.val i::a') F ⟨n,ds,l⟩ m J bF:=by
 intro S H ax aH;obtain⟨bl,s1,s2⟩:=ax.put (dst:=some d) aE v;obtain⟨bt,dr,aP,H',cV,m',ah,ad,af,aV,bq⟩:=h bl H s2 aH;refine⟨bt,dr,aP,H',cV,m',ah,fun fY q=>?_,af,aV,bq⟩;show jN ops i (mN K.P _ _ ops S H (dU K.P _ _ ops a'))=_;unfold jN;rw[ar];show mN K.P _ _ ops S H (dU K.P _ _ ops a') o=_;unfold mN gp;rw[aF];show D' S H o.dst (dU K.P _ _ ops a') (cL K.P _ _ S H o)=_;rw[az _ _ S H ax aH,aq];show(bif Nat.beq H.aG H.aG then pR (dU K.P _ _ ops a') H (S.put (some d) v) else none)=_;rw[hY,cv,s1];exact ad fY q
theorem bp.ka{b:fs}{p:ec}{eJ:jg}(ar:nth ops i=some o)(aF:o.guard=none)(aq:o.dst=some d)(aE:Nat.blt d n=true)(aI:∀S,Sat ⟨n,ds,l⟩ S->nm K.P S.T o.op=some (b,eJ))(ap:∀H a,H.mem.get a=some b->p.at (fun _=>True) H a)(AJ:∀c e r z,p≠.opn c e r z)
 (h:∀a,bp K B ops a' F ⟨n,ds,(d,eJ.at a)::l⟩ ((a,p)::m) J bF):bp K B ops (.ka i::a') F ⟨n,ds,l⟩ m J bF:=by
 intro S H ax aH;obtain⟨H1,aC⟩:=aH.wf.new b;have g':p.at B.yC H1 H.aG:=by
  have q:=ap H1 H.aG (by rw[(aw.qC aC).2.2.2.2.2,bj rfl]);cases p with
  |row=>exact q
  |map=>exact q
  |loop=>exact q
  |hR=>exact q
  |opn c e r z=>exact absurd rfl (AJ c e r z)
 have ag1:=aH.new aC g' (by cases p with|opn c e r z=>exact absurd rfl (AJ c e r z)|_=>rfl);obtain⟨bl,s1,s2⟩:=ax.put (dst:=some d) aE (eJ.at H.aG);obtain⟨bt,dr,aP,H',cV,m',ah,ad,af,aV,bq⟩:=h H.aG bl H1 s2 ag1;refine⟨bt,dr,aP,H',cV,m',ah,fun fY q=>?_,af,aV,bq⟩;show jN ops i (EN K.P ops S H (dU K.P _ _ ops a'))=_;unfold jN;rw[ar];show EN K.P ops S H (dU K.P _ _ ops a') o=_;unfold EN gp;rw[aF];show MG S H o.dst (dU K.P _ _ ops a') (nm K.P S.T o.op)=_;rw[aI S ax];show MH S o.dst (dU K.P _ _ ops a') eJ (H.new b)=_;rw[aC,aq];show pR (dU K.P _ _ ops a') H1 (S.put (some d) (eJ.at H.aG))=_;rw[s1];exact ad fY q
theorem Rh{S:a5}(ax:Sat ⟨n,ds,l⟩ S){x:Operand}{v:Value}(h:bT l x=some v):qF S.T x=some v:=by
 cases x with
 |tmp t=>exact ax.get t v h
 |const c=>exact h
 |global g=>cases h
 |func f=>exact h
theorem bp.alloc{t:TypeId}{z:Value}{cells:List Value}(ar:nth ops i=some o)(aF:o.guard=none)(aj:o.op=.alloc t)(aq:o.dst=some d)(aE:Nat.blt d n=true)(aL:gR K.P t=some z)(ap:plain z=true)(aJ:z.cells.toList=cells)(ad:cells.all ff=true)
 (h:∀a,bp K B ops a' F ⟨n,ds,(d,.pointer (some ⟨a,0,none⟩))::l⟩ ((a,.row cells t)::m) J bF):bp K B ops (.ka i::a') F ⟨n,ds,l⟩ m J bF:=by
 refine bp.ka (b:=.row cells t false 0 0 false) (p:=.row cells t) (eJ:=.ptr) ar aF aq aE (fun S ax=>?_) (fun H a q=>q) (fun c e r z q=>by cases q) h;rw[aj];simp only[nm,aL,ap,cv,zW,aJ,ad]
theorem bp.bR(ar:nth ops i=some o)(aF:o.guard=none)(h:∀S H,Sat E S->Inv K.g0 B J m H->∃aP H' cV m' ah,(∀call aQ,qE S H o.dst (cL K.P call aQ S H o)=some (.ok aP H'))/\Sat cV aP/\Inv K.g0 B ah m' H'/\bp K B ops a' F cV m' ah bF):bp K B ops (.bR i::a') F E m J bF:=by
 intro S H ax aH;obtain⟨bl,H1,hV,c1,bK,a7,a0,bJ,cO⟩:=h S H ax aH;obtain⟨bt,dr,aP,H',cV,m',ah,ad,af,aV,bq⟩:=cO bl H1 a0 bJ;refine⟨bt,dr,aP,H',cV,m',ah,fun fY q=>?_,af,aV,bq⟩;show jN ops i (fun o=>kG (dU K.P _ _ ops a') (one K.P _ _ ops S H o))=_;unfold jN;rw[ar];show kG (dU K.P _ _ ops a') (one K.P _ _ ops S H o)=_;unfold one gp;rw[aF];show kG (dU K.P _ _ ops a') (qE S H o.dst (cL K.P _ _ S H o))=_;rw[a7];exact ad fY q
theorem bp.uR(ar:nth ops i=some o)(aF:o.guard=none)(h:jQ K B o E m J fun E m J=>bp K B ops a' F E m J bF):bp K B ops (.bR i::a') F E m J bF:=bp.bR ar aF h
theorem bp.adt{v:Value}(ar:nth ops i=some o)(aF:o.guard=none)(aq:o.dst=some d)(aE:Nat.blt d n=true)(az:c5 K B o n ds l m J v)(h:bp K B ops a' F ⟨n,ds,(d,v)::l⟩ m J bF):bp K B ops (.bR i::a') F ⟨n,ds,l⟩ m J bF:=by
 refine bp.bR ar aF fun S H ax aH=>?_;obtain⟨bl,s1,s2⟩:=ax.put (dst:=some d) aE v;refine⟨bl,H,_,m,J,fun call aQ=>?_,s2,aH,h⟩;rw[az _ _ S H ax aH,aq];show ot H (S.put (some d) v)=_;rw[s1];rfl
theorem bp.adl{c:Call}{x:Operand}{f:FuncId}{first cap:Array Value}{args b2:List Value}{cj eB:a8}{ek:Value->a8->an->Prop}
 (ar:nth ops i=some o)(aF:o.guard=none)(aj:o.op=.call c)(aq:o.dst=some d)(aE:Nat.blt d n=true)(aJ:c.callee=.value x)(ab:bT l x=some (.func (.func f) first cap))(aI:ix l c.args.toList=some args)(has:(first.toList++args)++cap.toList=b2)
 (aM:(f,b2)∉F)(ap:(cj++eB).Perm m)(hA:DK cj)(b4:Fn K f b2 cj J ek)(h:∀v m' ah,J.le ah->ek v m' ah->bp K B ops a' ((f,b2)::F) ⟨n,ds,(d,v)::l⟩ (m'++eB) ah bF):bp K B ops (.bR i::a') F ⟨n,ds,l⟩ m J bF:=by
 intro S H ax aH;obtain⟨v,H',ah,m',a7,a0,bJ⟩:=b4 H (aH.enter ap hA);obtain⟨cO,gj⟩:=aH.leave ap a0;obtain⟨bl,s1,s2⟩:=ax.put (dst:=some d) aE v;obtain⟨bt,dr,aP,p2,cV,ru,qR,ad,af,aV,bq⟩:=h v m' ah gj bJ bl H' s2 cO
 classical
 refine⟨fun f' cq H1=>if f'=f/\cq=b2 then nU f b2 H (.returned v,H') f' cq H1 else bt f' cq H1,fun f' cq H1 r q=>?_,aP,p2,cV,ru,qR,fun fY q=>?_,af,aV,bq⟩
 ·simp only at q;split at q
  ·rename_i e;rw[e.1,e.2];exact aM
  ·exact fun cW=>dr f' cq H1 r q (abq _ cW)
 ·have ih:fY f b2 H=some (.returned v,H'):=q f b2 H _ (by simp only[and_self,bj];unfold nU;rw[bj ⟨rfl,rfl,rfl⟩]);have AM:∀f' cq H1 r,bt f' cq H1=some r->fY f' cq H1=some r:=fun f' cq H1 r av=>q f' cq H1 r (by
   simp only
   rw[bd (fun e=>dr f' cq H1 r av (by rw[e.1,e.2];exact List.mem_cons_self))];exact av)
  show jN ops i (fun o=>kG (dU K.P _ _ ops a') (one K.P _ _ ops S H o))=_;unfold jN;rw[ar];show kG (dU K.P _ _ ops a') (one K.P _ _ ops S H o)=_;unfold one gp;rw[aF];show kG (dU K.P _ _ ops a') (qE S H o.dst (cL K.P _ _ S H o))=_;have he:cL K.P (iO K.Q fY) (hO K.Q il fY).aQ S H o=some (.val v H'):=by
   unfold cL e3;simp only[aj];show k9 K.P _ c=_;unfold k9;rw[aJ];show n0 K.P _ _ S.T H c=_;unfold n0;rw[oG ax H aI];simp only[aJ];rw[dg ax H ab];simp only
   show(match kY K.P H (.func f) (first.toList++args) cap.toList with|some (f,b2)=>pk (iO K.Q _ f b2 H)|none=>none)=_
   unfold kY;simp only
   rw[has,Cl a7 ih];rfl
  rw[he,aq];show kG (dU K.P _ _ ops a') (ot H' (S.put (some d) v))=_;rw[s1];exact ad fY AM
theorem bp.call{c:Call}{x:Operand}{f:FuncId}{first cap:Array Value}{args b2:List Value}{cj eB:a8}{ek:Value->a8->an->Prop}
 (ar:nth ops i=some o)(aF:o.guard=none)(aj:o.op=.call c)(aq:o.dst=some d)(aE:Nat.blt d n=true)(aJ:c.callee=.value x)(ab:bT l x=some (.func (.func f) first cap))(aI:ix l c.args.toList=some args)(has:(first.toList++args)++cap.toList=b2)
 (aM:F.all (fun g=>!Nat.beq g.1 f)=true)(ap:(cj++eB).Perm m)(hA:DK cj)(b4:Fn K f b2 cj J ek)(h:∀v m' ah,J.le ah->ek v m' ah->bp K B ops a' ((f,b2)::F) ⟨n,ds,(d,v)::l⟩ (m'++eB) ah bF):bp K B ops (.bR i::a') F ⟨n,ds,l⟩ m J bF:=
 bp.adl ar aF aj aq aE aJ ab aI has (fun q=>by
  rw[uE] at aM;have:=aM (f,b2) q;simp at this) ap hA b4 h
def hN(K:ef)(B:dy)(ops:List Oper)(n:Nat)(ds:eK)(l:List (Nat×Value))(m:a8)(J:an)(i:Nat):Prop:=
 ∀call aQ S H,Sat ⟨n,ds,l⟩ S->Inv K.g0 B J m H->z4 K.P call aQ ops S H i=true
theorem hN.val{v u:Value}(ar:nth ops i=some o)(aF:o.guard=none)(aq:o.dst=some d)(az:c5 K B o n ds l m J v)(hu:look l d=some u)(he:eD 8 v u=true):hN K B ops n ds l m J i:=by
 intro call aQ S H ax aH;unfold z4;rw[ar];show Ul K.P call aQ ops S H o (gp ops S.T o)=true;unfold gp;rw[aF];show M9 H.aG S.T o.dst (cL K.P call aQ S H o)=true;rw[az _ _ S H ax aH,aq];show(Nat.beq H.aG H.aG&&(match S.T.get d with|some u=>eD 8 v u|none=>false))=true
 rw[hY,ax.get d u hu];simpa using he
def vV(K:ef)(B:dy)(ops:List Oper)(n:Nat)(ds:eK)(l:List (Nat×Value))(m:a8)(J:an):List Nat->Prop
 |[]=>True
 |i::r=>hN K B ops n ds l m J i/\vV K B ops n ds l m J r
theorem vV.all{call:eZ}{aQ:hd}{S:a5}{H:aw}(ax:Sat ⟨n,ds,l⟩ S)(aH:Inv K.g0 B J m H):∀{is:List Nat},vV K B ops n ds l m J is->is.all (z4 K.P call aQ ops S H)=true:=by
 intro is;induction is with
 |nil=>intro _;rfl
 |cons i r aZ=>intro h;rw[B4,h.1 call aQ S H ax aH,aZ h.2];rfl
theorem bp.b9{is:List Nat}(aJ:vV K B ops n ds l m J is)(h:bp K B ops a' F ⟨n,ds,l⟩ m J bF):bp K B ops (.b9 is::a') F ⟨n,ds,l⟩ m J bF:=by
 intro S H ax aH;obtain⟨bt,dr,aP,H',cV,m',ah,ad,af,aV,bq⟩:=h S H ax aH;refine⟨bt,dr,aP,H',cV,m',ah,fun fY q=>?_,af,aV,bq⟩;show E' K.P _ _ ops S H (dU K.P _ _ ops a') is=_;unfold E';rw[vV.all ax aH aJ,cv];exact ad fY q
theorem aaE(k:IntKind)(a:Int)(n:Nat):eD (n+1) (.int k a) (.int k a)=true:=by
 show(mi k k&&qx a a)=true;rw[Dv,Dp];simp
end
theorem aad{α:Type}:∀(l:List α) (i:Nat) (T:a4 α),(∀k,k<i->∃v,T.get k=some v)->∃eG,xT l i T=some eG:=by
 intro l;induction l with
 |nil=>intro i T _;exact⟨T,rfl⟩
 |cons x l aZ=>
  intro i T h;obtain⟨yg,cB⟩:=a4.DY x T i h;obtain⟨eG,e⟩:=aZ (i+1) yg fun k hk=>by
   rw[a4.get_put cB];split
   ·exact⟨_,rfl⟩
   ·exact h k (by omega)
  refine⟨eG,?_⟩;simp only[xT,a4.set];rw[cB];exact e
theorem cu{P:Program}{f:FuncId}{fn:Func}(h:P.funcs[f]?=some fn):(CD P).get f=some fn:=by
 obtain⟨T,cB⟩:=aad P.funcs.toList 0 .leaf (fun k hk=>absurd hk (by omega));unfold CD;rw[cB];simp only
 rw[R0 cB];have cA:f<P.funcs.size:=(L3.1 h).1;rw[bj (by simpa using cA)];simpa using h
section
variable {K:ef}{B:dy}{o:Oper}{n:Nat}{ds:eK}{l:List (Nat×Value)}{m m':a8}{J:an}{e8:cC->a8->an->Prop}{d:Nat}
theorem gB{P:Program}{α β:Type}{s:Sem α}{a:α}{f:α->Sem β}(h:fc P s=some a):fc P (s >>= f)=fc P (f a):=by
 show fc P (Sem.bind s f)=_;induction s with
 |pure b=>simp only[fc,cD] at h;subst h;rfl
 |program k aZ=>exact aZ P (by simpa[fc] using h)
 |mark m k aZ=>exact aZ (by simpa[fc] using h)
 |_=>simp[fc] at h
theorem Jz{P:Program}{t:TypeId}{uX:TypeDesc}(h:P.underlying t=some uX):fc P (underlying t)=some uX:=by
 have:fc P (underlying t)=fc P (match P.underlying t with|some d=>pure d|none=>stuck "no such type"):=by
  rfl
 rw[this,h];rfl
theorem hS{E:cC}{S:a5}(ax:Sat E S)(H:aw){x:Operand}{v:Value}(h:bT E.l x=some v):pL S.T H x=v:=by
 unfold pL;rw[dg ax H h]
theorem YJ{x:Operand}{a v:Value}{S:a5}{H:aw}(ax:Sat ⟨n,ds,l⟩ S)(Gj:o.op.operands.toList=[x])(ab:bT l x=some a)(aI:plain a=true)(he:fc K.P (execOp (pL S.T H) o)=some (.value v))(az:plain v=true):fk K.P S.T H o=some (.val v H):=by
 unfold fk;rw[Gj];have:fz S.T H [x]=some [a]:=by simp only[fz];rw[dg ax H ab]
 rw[this];simp only[B4,SR,aI,x5,cv,he,az]
theorem pM{x y:Operand}{a b v:Value}{S:a5}{H:aw}(ax:Sat ⟨n,ds,l⟩ S)(Gj:o.op.operands.toList=[x,y])(ab:bT l x=some a)(aB:bT l y=some b)(aI:plain a=true)(ak:plain b=true)(he:fc K.P (execOp (pL S.T H) o)=some (.value v))(az:plain v=true):fk K.P S.T H o=some (.val v H):=by
 unfold fk;rw[Gj];have:fz S.T H [x,y]=some [a,b]:=by simp only[fz];rw[dg ax H ab,dg ax H aB]
 rw[this];simp only[B4,SR,aI,ak,x5,cv,he,az]
theorem aao{t:TypeId}{x:Operand}{b:Bool}(aj:o.op=.unOp .not t x)(ab:bT l x=some (.bool b)):c5 K B o n ds l m J (.bool (!b)):=by
 intro call aQ S H ax aH;unfold cL e3;simp only[aj];show fk K.P S.T H o=_;refine YJ ax (by rw[aj];rfl) ab rfl ?_ rfl;unfold execOp;simp only[aj];rw[hS ax H ab];rfl
theorem apJ{t:TypeId}{x:Operand}{p:Prop}[Decidable p](aj:o.op=.unOp .not t x)(ab:bT l x=some (.bool (decide p))):c5 K B o n ds l m J (.bool (decide (¬p))):=by
 have:=aao (K:=K) (B:=B) (n:=n) (ds:=ds) (m:=m) (J:=J) aj ab;rwa [show(!decide p)=decide (¬p) by simp] at this
def isInt (P:Program)(s d:TypeId):Option IntKind:=match P.underlying s,P.underlying d with
 |some _,some (.int k)=>some k
 |_,_=>none
theorem apv{s t:TypeId}{x:Operand}{k lB:IntKind}{a b:Int}(aj:o.op=.convert s t x)(ab:bT l x=some (.int lB a))(aS:isInt K.P s t=some k)(hw:k.wrap a=b):c5 K B o n ds l m J (.int k b):=by
 intro call aQ S H ax aH;unfold cL e3;simp only[aj];show xD K.P _ s t (ba S.T H x)=_;rw[dg ax H ab];unfold xD;simp only
 unfold isInt at aS;split at aS
 ·rename_i ad af;rw[ad,af];injection aS with aS;subst aS
  simp only[tt,Ei,hw];rfl
 ·cases aS
def Bf (P:Program)(t:TypeId):Bool:=match P.underlying t with
 |some (.interface _)=>false
 |some _=>true
 |none=>false
theorem apz{t:TypeId}{x:Operand}{v:Value}(aj:o.op=.makeInterface t x)(ab:bT l x=some v)(aS:Bf K.P t=true):c5 K B o n ds l m J (.iface t v):=by
 intro call aQ S H ax aH;unfold cL e3;simp only[aj];show Bo K.P _ t (ba S.T H x) (K.P.underlying t)=_;rw[dg ax H ab];unfold Bf at aS;cases hu:K.P.underlying t with
 |none=>rw[hu] at aS;cases aS
 |some uX=>rw[hu] at aS;cases uX<;>first|rfl|cases aS
theorem apy{f:FuncId}{a b:Array Operand}{aY h':List Value}(aj:o.op=.makeFunc (.func f) a b)(aI:ix l a.toList=some aY)(ak:ix l b.toList=some h'):c5 K B o n ds l m J (.func (.func f) aY.toArray h'.toArray):=by
 intro call aQ S H ax aH;unfold cL e3;simp only[aj];show Bn K.P _ (.func f) (fz S.T H a.toList) (fz S.T H b.toList)=_;rw[oG ax H aI,oG ax H ak];rfl
def tq (l:List (Nat×Value)):List (Nat×Operand)->Option (List (Nat×Value))
 |[]=>some []
 |(i,x)::r=>match bT l x with
  |some v=>(match tq l r with|some vs=>some ((i,v)::vs)|none=>none)
  |none=>none
theorem UK{E:cC}{S:a5}(ax:Sat E S)(H:aw):∀{xs:List (Nat×Operand)} {vs:List (Nat×Value)},tq E.l xs=some vs->lI S.T H xs=some vs:=by
 intro xs;induction xs with
 |nil=>intro vs h;exact h
 |cons x r aZ=>
  obtain⟨i,x⟩:=x;intro vs h;simp only[tq] at h;simp only[lI];cases ab:bT E.l x with
  |none=>rw[ab] at h;cases h
  |some v=>
   rw[ab] at h;simp only at h;rw[dg ax H ab];simp only;cases av:tq E.l r with
   |none=>rw[av] at h;cases h
   |some ws=>rw[av] at h;simp only at h;rw[aZ av];exact h
def EY (P:Program)(t:TypeId):Option (Sum (List (Nat×Nat)) Nat×List Value):=match gR P t,P.underlying t with
 |some z,some (.struct fields)=>bif plain z then(match places P fields.toList with|some ps=>some (.inl ps,z.cells.toList)|none=>none) else none
 |some z,some (.array _ elem)=>bif plain z then(match eV P elem with|some sz=>some (.inr sz,z.cells.toList)|none=>none) else none
 |_,_=>none
def placeOf:Sum (List (Nat×Nat)) Nat->Nat->Option (Nat×Nat)
 |.inl ps=>nth ps
 |.inr sz=>fun i=>some (i*sz,sz)
theorem apu{t:TypeId}{ps:Array (Nat×Operand)}{vs:List (Nat×Value)}{pl:Sum (List (Nat×Nat)) Nat}{z cells:List Value}(aj:o.op=.build t ps)(ap:tq l ps.toList=some vs)(aS:EY K.P t=some (pl,z))(aM:nr (placeOf pl) z vs=some cells):c5 K B o n ds l m J (.agg cells.toArray):=by
 intro call aQ S H ax aH;unfold cL e3;simp only[aj];show Bj K.P _ t (lI S.T H ps.toList)=_;rw[UK ax H ap];show g3 (Fu K.P t vs) H=_;unfold EY at aS;unfold Fu;cases aL:gR K.P t with
 |none=>rw[aL] at aS;cases aS
 |some mv=>
  rw[aL] at aS;cases hu:K.P.underlying t with
  |none=>rw[hu] at aS;cases aS
  |some uX=>
   rw[hu] at aS;cases uX with
   |struct fields=>
    simp only at aS ⊢;cases Gl:plain mv with
    |false=>rw[Gl] at aS;cases aS
    |true=>
     rw[Gl,cv] at aS;rw[cv];cases bS:places K.P fields.toList with
     |none=>rw[bS] at aS;cases aS
     |some dJ=>
      rw[bS] at aS;simp only[cD,dK] at aS;obtain⟨rfl,rfl⟩:=aS;have aM:nr (nth dJ) mv.cells.toList vs=some cells:=aM;simp only[aM];rfl
   |array k elem=>
    simp only at aS ⊢;cases Gl:plain mv with
    |false=>rw[Gl] at aS;cases aS
    |true=>
     rw[Gl,cv] at aS;rw[cv];cases bS:eV K.P elem with
     |none=>rw[bS] at aS;cases aS
     |some sz=>
      rw[bS] at aS;simp only[cD,dK] at aS;obtain⟨rfl,rfl⟩:=aS;have aM:nr (fun i=>some (i*sz,sz)) mv.cells.toList vs=some cells:=aM;simp only[aM];rfl
   |_=>cases aS
def yl (P:Program)(t:TypeId):Option (Nat×TypeId×Nat):=match P.underlying t with
 |some (.array len elem)=>(match eV P elem with|some sz=>some (len,elem,sz)|none=>none)
 |_=>none
theorem TV{P:Program}{t elem:TypeId}{len sz:Nat}(h:yl P t=some (len,elem,sz)):P.underlying t=some (.array len elem)/\eV P elem=some sz:=by
 unfold yl at h;split at h
 ·rename_i ad;split at h
  ·rename_i af;simp only[cD,dK] at h;obtain⟨rfl,rfl,rfl⟩:=h;exact⟨ad,af⟩
  ·cases h
 ·cases h
theorem apB{t elem:TypeId}{x bh:Operand}{a off len sz:Nat}{k:IntKind}{i:Int}(aj:o.op=.indexAddr t x bh)(ab:bT l x=some (.pointer (some ⟨a,off,none⟩)))(ar:bT l bh=some (.int k i))(aS:yl K.P t=some (len,elem,sz))(aO:0<=i)(ad:i<len):c5 K B o n ds l m J (.pointer (some ⟨a,off+i.toNat*sz,none⟩)):=by
 obtain⟨hu,aL⟩:=TV aS;intro call aQ S H ax aH;unfold cL e3;simp only[aj];show xE K.P _ t (ba S.T H x) (ba S.T H bh)=_;rw[dg ax H ab,dg ax H ar];show g3 (wC K.P t (.pointer (some ⟨a,off,none⟩)) (.int k i)) H=_;unfold wC;simp only[hu,Qc aO ad,aL];rfl
theorem apC{t elem e:TypeId}{g:Nat}{bh:Operand}{cells:List Value}{len sz:Nat}{k:IntKind}{i:Int}(aj:o.op=.indexAddr t (.global g) bh)(aF:Nat.blt g K.g0=true)(hy:J g=some (cells,e))(ar:bT l bh=some (.int k i))(aS:yl K.P t=some (len,elem,sz))(aO:0<=i)(ad:i<len):c5 K B o n ds l m J (.pointer (some ⟨g,0+i.toNat*sz,none⟩)):=by
 obtain⟨hu,aL⟩:=TV aS;intro call aQ S H ax aH;unfold cL e3;simp only[aj];show xE K.P _ t (DU H g) (ba S.T H bh)=_;obtain⟨o',f',hq,dC,bS⟩:=aH.et _ _ _ hy;have:DU H g=some (.pointer (some ⟨g,0,none⟩)):=by
  unfold DU;rw[aH.bU,aF,cv,bS]
 rw[this,dg ax H ar];show g3 (wC K.P t (.pointer (some ⟨g,0,none⟩)) (.int k i)) H=_;unfold wC;simp only[hu,Qc aO ad,aL];rfl
theorem T2{op:BinOp}{t dH:TypeId}{x y:Operand}{a b:Value}{r:Bool}{S:a5}{H:aw}{call:eZ}{aQ:hd}(aj:o.op=.binOp op t x y dH)(ab:ba S.T H x=some a)(aB:ba S.T H y=some b)(ar:∀k i,a≠.int k i)(ap:fk K.P S.T H o=none)(he:vG K.P ⟨call,aQ,S,H,o⟩ t a b op=some (.val (.bool r) H)):cL K.P call aQ S H o=some (.val (.bool r) H):=by
 unfold cL e3;simp only[aj];show l6 K.P _ op t (ba S.T H x) (ba S.T H y)=_;rw[ab,aB];have:l6 K.P ⟨call,aQ,S,H,o⟩ op t (some a) (some b)=t' K.P ⟨call,aQ,S,H,o⟩ op t a b:=by
  cases a<;>first|rfl|exact absurd rfl (ar _ _)
 rw[this];unfold t';show orElse (fk K.P S.T H o) _=_;rw[ap];exact he
theorem apP{op:BinOp}{t dH:TypeId}{x y:Operand}{b:Option Addr}{len cap:Nat}(aj:o.op=.binOp .eql t x y dH)(ab:bT l x=some (.slice b len cap))(aB:bT l y=some (.slice none 0 0))(aS:isSlice K.P t=true):c5 K B o n ds l m J (.bool b.isNone):=by
 intro call aQ S H ax aH;unfold isSlice at aS;split at aS
 ·rename_i e hu;cases b with
  |none=>
   unfold cL e3;simp only[aj];show l6 K.P _ .eql t (ba S.T H x) (ba S.T H y)=_;rw[dg ax H ab,dg ax H aB];show orElse (fk K.P S.T H o) _=_;have:fk K.P S.T H o=some (.val (.bool true) H):=by
    refine pM ax (by rw[aj];rfl) ab aB rfl rfl ?_ rfl;unfold execOp;simp only[aj];rw[hS ax H ab,hS ax H aB];rw[gB (a:=.bool true)]
    ·rfl
    rw[gB (a:=()) (by rfl)];have ak:binOp .eql t (.slice none len cap) (.slice none 0 0)=(do pure (.bool (<-Op.equal t (.slice none len cap) (.slice none 0 0)))):=by simp[binOp]
    rw[ak,gB (a:=true)]
    ·rfl
    show fc K.P (Op.equalIn (9999+1) t (.slice none len cap) (.slice none 0 0))=_;unfold Op.equalIn;rw[gB (Jz hu)];rfl
   rw[this];rfl
  |some a=>
   refine T2 aj (dg ax H ab) (dg ax H aB) (fun _ _ q=>by cases q) ?_ ?_
   ·unfold fk;rw[aj];have:fz S.T H (Op.binOp BinOp.eql t x y dH).operands.toList=some [.slice (some a) len cap,.slice none 0 0]:=by
     show fz S.T H [x,y]=_;simp only[fz];rw[dg ax H ab,dg ax H aB]
    rw[this];rfl
   ·unfold vG wB;simp only[hu];rfl
 ·cases aS
end
inductive fP (J:an) (e:TypeId) (sz:Nat):Value->Nat->List Value->Prop
 |nil:fP J e sz (.slice none 0 0) 0 []
 |js (a off cap:Nat):cap<cQ->fP J e sz (.slice (some ⟨a,off,none⟩) 0 cap) 0 []
 |yx:fP J e sz (.slice (some ⟨0,0,some 0⟩) 0 0) 0 []
 |row {a off len cap:Nat} {cells cs:List Value} {b3:TypeId}:J a=some (cells,b3)->(cells.drop off).take (len*sz)=cs->cs.length=len*sz->(cap≠cQ->len<=cap/\cap<cQ)->(cap=cQ->b3=e)->fP J e sz (.slice (some ⟨a,off,none⟩) len cap) len cs
theorem fP.mono{J ah:an}(hle:J.le ah){e:TypeId}{sz n:Nat}{v:Value}{cs:List Value}(h:fP J e sz v n cs):fP ah e sz v n cs:=by
 cases h with
 |nil=>exact .nil
 |js a off cap h=>exact .js a off cap h
 |yx=>exact .yx
 |row ad af aV bq fL=>exact .row (hle _ _ ad) af aV bq fL
theorem fP.inv{J:an}{e:TypeId}{sz n:Nat}{v:Value}{cs:List Value}(h:fP J e sz v n cs):∃b c,v=.slice b n c/\cs.length=n*sz/\(b=none->n=0)/\(0<n->∃a off cells b3,b=some ⟨a,off,none⟩/\J a=some (cells,b3)/\∀k,k<n*sz->nth cells (off+k)=cs[k]?):=by
 cases h with
 |nil=>exact⟨_,_,rfl,by simp,fun _=>rfl,fun q=>absurd q (by omega)⟩
 |js a off cap h=>exact⟨_,_,rfl,by simp,fun _=>rfl,fun q=>absurd q (by omega)⟩
 |yx=>exact⟨_,_,rfl,by simp,fun _=>rfl,fun q=>absurd q (by omega)⟩
 |@row a off len cap cells cs b3 ad af aV bq fL=>
  refine⟨_,_,rfl,aV,(fun q=>by cases q),fun _=>⟨a,off,cells,b3,rfl,ad,fun k hk=>?_⟩⟩;rw[lH,<-af,ji,bj hk,p5]
theorem fP.len{J:an}{e:TypeId}{sz n:Nat}{v:Value}{cs:List Value}(h:fP J e sz v n cs):cs.length=n*sz:=by
 obtain⟨_,_,_,h,_⟩:=h.inv;exact h
theorem xS{α:Type}{n:Nat}{l:List α}(h:n<=l.length):takeN n l=some (l.take n):=by
 induction n generalizing l with
 |zero=>rfl
 |succ n aZ=>
  cases l with
  |nil=>simp at h
  |cons a l=>
   simp only[takeN];rw[aZ (by simpa using h)];rfl
def mA(g0:Nat)(B:dy)(J:an)(m:a8)(sz:Nat)(v:Value)(n:Nat)(cs:List Value):Prop:=∀H,Inv g0 B J m H->rq v=some n/\jV H sz n v=some cs
theorem fP.rd{g0:Nat}{B:dy}{J:an}{m:a8}{e:TypeId}{sz n:Nat}{v:Value}{cs:List Value}(h:fP J e sz v n cs):mA g0 B J m sz v n cs:=by
 intro H aH;cases h with
 |nil=>exact⟨rfl,rfl⟩
 |js a off cap h=>exact⟨rfl,rfl⟩
 |yx=>exact⟨rfl,rfl⟩
 |@row a off len cap cells cs b3 ad af aV bq fL=>
  refine⟨rfl,?_⟩;obtain⟨o,f,z,s,q⟩:=aH.et _ _ _ ad;unfold jV;cases n with
  |zero=>simp only;rw[<-af];simp
  |succ n=>
   simp only[q];rw[wy,xS,af];have:((cells.drop off).take ((n+1)*sz)).length=(n+1)*sz:=by rw[af];exact aV
   rw[dY] at this;omega
section
variable {K:ef}{B:dy}{o:Oper}{n:Nat}{ds:eK}{l:List (Nat×Value)}{m m':a8}{J:an}{e8:cC->a8->an->Prop}{d:Nat}
def kQ (P:Program)(t:TypeId):Option (TypeId×Nat×List Value):=match P.underlying t with
 |some (.slice e)=>(match eV P e,uQ P e,gR P e with
  |some sz,some jm,some z=>bif Nat.ble jm 1000000&&Nat.beq z.cells.toList.length sz&&z.cells.toList.all ff&&plain z then some (e,sz,z.cells.toList) else none
  |_,_,_=>none)
 |_=>none
theorem sV{P:Program}{t e:TypeId}{sz:Nat}{zs:List Value}(h:kQ P t=some (e,sz,zs)):P.underlying t=some (.slice e)/\eV P e=some sz/\∃jm z,uQ P e=some jm/\gR P e=some z/\Nat.ble jm 1000000=true/\zs=z.cells.toList/\zs.length=sz/\zs.all ff=true/\plain z=true:=by
 unfold kQ at h;split at h
 ·rename_i b3 ad;split at h
  ·rename_i aoP jm z af aV bq;cases ak:(Nat.ble jm 1000000&&Nat.beq z.cells.toList.length aoP&&z.cells.toList.all ff&&plain z) with
   |true=>
    rw[ak,cv] at h;simp only[cD,dK] at h;obtain⟨rfl,rfl,rfl⟩:=h;simp only[gI] at ak;obtain⟨⟨⟨bQ,bL⟩,cZ⟩,dE⟩:=ak;exact⟨ad,af,jm,z,aV,bq,bQ,rfl,eC bL,cZ,dE⟩
   |false=>rw[ak,dB] at h;cases h
  ·cases h
 ·cases h
theorem aqw{t e:TypeId}{k sz:Nat}{zs cells:List Value}{ps:Array (Nat×Operand)}{vs:List (Nat×Value)}(aj:o.op=.buildSlice t k ps)(aq:o.dst=some d)(aE:Nat.blt d n=true)(ap:tq l ps.toList=some vs)(aS:kQ K.P t=some (e,sz,zs))(hk:(Nat.ble k 100000&&Nat.ble (k*sz) 100000)=true)(aM:nr (fun i=>some (i*sz,sz)) (fM zs k) vs=some cells)(ad:cells.all ff=true)
 (h:∀a,e8 ⟨n,ds,(d,.slice (some ⟨a,0,none⟩) k k)::l⟩ ((a,.row cells e)::m) J):jQ K B o ⟨n,ds,l⟩ m J e8:=by
 obtain⟨hu,ea,jm,z,h3,aL,bQ,rfl,bL,cZ,dE⟩:=sV aS;refine jQ.BK aq aE fun S H ax aH=>?_;obtain⟨H1,aC,aW⟩:=aH.alloc cells e;refine⟨_,H1,_,J,fun call aQ=>?_,aW,h H.aG⟩;unfold cL e3;simp only[aj];show HC K.P _ t k (lI S.T H ps.toList)=_;rw[UK ax H ap];show nd (Fv K.P H t k vs)=_;unfold Fv tY;simp only[hu,ea,aL];rw[hk,dE,show Nat.beq z.cells.toList.length sz=true by rw[bL];exact hY _];simp only[x5,cv,aM,ad,aC];rfl
theorem GO{i:Int}{len:Nat}(aO:0<=i)(ad:i<=len):qz i len=some i.toNat:=by
 cases i with
 |ofNat n=>
  unfold qz;have:Nat.ble n len=true:=mU (by simpa using ad);simp only[this,cv];rfl
 |negSucc n=>exact absurd aO (by simp)
theorem qN{t e:TypeId}{x y:Operand}{sz:Nat}{zs:List Value}{i j:Int}{qB Dw:IntKind}(aj:o.op=.makeSlice t x y)(aq:o.dst=some d)(aE:Nat.blt d n=true)(ab:bT l x=some (.int qB i))(aB:bT l y=some (.int Dw j))(aS:kQ K.P t=some (e,sz,zs))(aO:0<=i)(ad:i<=j)(af:j<=1000000)
 (h:∀a,e8 ⟨n,ds,(d,.slice (some ⟨a,0,none⟩) i.toNat j.toNat)::l⟩ ((a,.row (fM zs j.toNat) e)::m) J):jQ K B o ⟨n,ds,l⟩ m J e8:=by
 obtain⟨hu,ea,jm,z,h3,aL,bQ,rfl,bL,cZ,dE⟩:=sV aS;refine jQ.BK aq aE fun S H ax aH=>?_;obtain⟨H1,aC,aW⟩:=aH.alloc (fM z.cells.toList j.toNat) e;refine⟨_,H1,_,J,fun call aQ=>?_,aW,h H.aG⟩;unfold cL e3;simp only[aj];show HD K.P _ t (ba S.T H x) (ba S.T H y)=_;rw[dg ax H ab,dg ax H aB];show nd (Fy K.P H t (.int qB i) (.int Dw j))=_;unfold Fy tY;simp only[hu,aL,h3,ea];rw[GO (by omega) (by omega),GO (by omega) (by omega)];simp only[bQ,cZ,dE,It];rw[show Nat.beq z.cells.toList.length sz=true by rw[bL];exact hY _,show Nat.ble i.toNat j.toNat=true from mU (by omega)];simp only[It,cv,aC];rfl
inductive Acc (e:TypeId) (sz:Nat):Value->Nat->List Value->a8->Prop
 |nil:Acc e sz (.slice none 0 0) 0 [] []
 |js (a:Nat):Acc e sz (.slice (some ⟨a,0,none⟩) 0 0) 0 [] []
 |opn {a k:Nat} {cells:List Value} {rest:List Nat} {z:Nat}:cells.length=k*sz->z<=cells.length->Acc e sz (.slice (some ⟨a,0,none⟩) k cQ) k cells [(a,.opn cells e rest z)]
 |cap {a k C:Nat} {cells full:List Value} {el:TypeId}:full.length=C*sz->full.take (k*sz)=cells->k<=C->C<cQ->Acc e sz (.slice (some ⟨a,0,none⟩) k C) k cells [(a,.row full el)]
theorem HV{α:Type}:∀(off:Nat) (l vs:List α),off+vs.length<=l.length->gw off l vs=some (l.take off++vs++l.drop (off+vs.length)):=by
 intro off;induction off with
 |zero=>
  intro l vs h;induction vs generalizing l with
  |nil=>cases l<;>simp[gw]
  |cons v vs aZ=>
   cases l with
   |nil=>simp at h
   |cons a l=>
    have:=aZ l (by simp only[lP] at h;omega);simp only[gw,this];simp
 |succ n aZ=>
  intro l vs h;cases l with
  |nil=>simp at h
  |cons a l=>
   have:=aZ l vs (by simp only[lP] at h;omega);simp only[gw,this];simp[Nat.add_right_comm n 1 vs.length]
theorem Inv.perm{g0:Nat}{H:aw}(h:Inv g0 B J m H)(ap:m.Perm m'):Inv g0 B J m' H:=
 ⟨h.wf,h.bU,h.aG,h.cF,h.gE,h.nC,h.et,h.le,h.fresh,fun a b q=>h.own a b (ap.symm.subset q),fun a b q=>h.opn a b (ap.symm.subset q),(Kx ap).nodup_iff.1 h.gv⟩
theorem Inv.grow{g0 a z:Nat}{H:aw}{cells:List Value}{e:TypeId}{rest:List Nat}(h:Inv g0 B J ((a,.opn cells e rest z)::m) H)(cells':List Value):∃f H1 cz,H.mem.get a=some (.row cells e true f z false)/\H.bP.get f=some (a::rest)/\H.rF f (H.aG::a::rest)=some H1/\H1.aG=H.aG/\H1.new (.row cells' e true f z false)=some (H.aG,cz)/\Inv g0 B J ((H.aG,.opn cells' e (a::rest) z)::m) cz:=by
 obtain⟨a7,a0,bJ,cO⟩:=h.own a _ (.head _);obtain⟨f,f1,f2,f3⟩:=a7;have VQ:=h.wf.FD f3;have ez:=h.gv;rw[show ids ((a,ec.opn cells e rest z)::m)=a::(rest++ids m) from rfl,uG,qV] at ez;obtain⟨H1,aC⟩:=h.wf.rF (H.aG::a::rest) VQ;obtain⟨s2,s1,hK,ms,qH⟩:=aw.D3 aC;have hm:Inv g0 B J m H1:=by
  refine⟨h.wf.RF VQ aC,ms.trans h.bU,by rw[s2];exact h.aG,by rw[hK];exact h.cF,fun x ab fG=>by rw[s1];exact h.gE x ab fG,fun g aF=>?_,fun x c e bf=>by rw[s1];exact h.et x c e bf,h.le,h.fresh,fun x b ak=>?_,fun x b ak y aB=>by rw[s2];exact h.opn x b (.tail _ ak) y aB,(Ew _ _).nodup ez.2⟩
  ·rw[qH,bd (fun q=>aF (by rw[q];exact f1))];exact h.nC g aF
  ·obtain⟨dF,dq,ja,k6⟩:=h.own x b (.tail _ ak);refine⟨?_,dq,ja,k6⟩;cases b with
   |row c e=>show H1.mem.get x=_;rw[s1];exact dF
   |map es k=>show H1.mem.get x=_;rw[s1];exact dF
   |loop r=>show H1.mem.get x=_;rw[s1];exact dF
   |hR=>show H1.mem.get x=_;rw[s1];exact dF
   |opn c b3 r hq=>
    obtain⟨g,ck,ch,c6⟩:=dF;refine⟨g,ck,by rw[s1];exact ch,?_⟩;rw[qH,bd]
    ·exact c6
    ·intro q;subst q;rw[f3] at c6;injection c6 with c6;injection c6 with c6
     subst c6;exact ez.1 (.inr (AY ak))
 obtain⟨cz,aW⟩:=hm.wf.new (.row cells' e true f z false);obtain⟨_,dV,en,fH,kg,gk⟩:=aw.qC aW;refine⟨f,H1,cz,f2,f3,aC,s2,by rw[<-s2];exact aW,?_⟩;have af:Inv g0 B J m cz:=by
  refine⟨hm.wf.Q0 aW,kg.trans hm.bU,by have:=hm.aG;omega,by rw[fH];exact hm.cF,fun x ab fG=>?_,fun g aF=>by rw[en];exact hm.nC g aF,fun x c e bf=>?_,hm.le,hm.fresh,fun x b ak=>?_,fun x b ak y aB=>?_,hm.gv⟩
  ·rw[gk,bd (by have:=hm.aG;omega)];exact hm.gE x ab fG
  ·obtain⟨o,f,z,s,q⟩:=hm.et x c e bf;exact⟨o,f,z,s,by rw[gk,bd (by have:=hm.wf.lt q;omega)];exact q⟩
  ·obtain⟨dF,dq,ja,k6⟩:=hm.own x b ak;exact⟨ec.ym dF (by rw[gk,bd (by have:=hm.lt ak;omega)]) (fun f l aM=>by rw[en];exact aM),dq,ja,k6⟩
  ·obtain⟨dF,dq,ja⟩:=hm.opn x b ak y aB;exact⟨by omega,dq,ja⟩
 refine⟨af.wf,af.bU,af.aG,af.cF,af.gE,af.nC,af.et,af.le,af.fresh,fun x b ak=>?_,fun x b ak y aB=>?_,?_⟩
 ·rcases gb.1 ak with q|q
  ·injection q with aX aU;subst aX;subst aU
   exact⟨⟨f,f1,by rw[gk,s2,bj rfl],by rw[en,qH,bj rfl]⟩,.inl h.aG,h.Q2,h.N2⟩
  ·exact af.own x b q
 ·rcases gb.1 ak with q|q
  ·injection q with aX aU;subst aX;subst aU
   have cA:y<H.aG/\(B.H0.aG<=y\/B.X y)/\J y=none:=by
    rcases gb.1 (show y∈a::rest from aB) with q|q
    ·subst q;exact⟨h.lt (.head _),a0,bJ⟩
    ·exact h.opn a _ (.head _) y q
   exact⟨by have:=cA.1;omega,cA.2⟩
  ·exact af.opn x b q y aB
 ·show(H.aG::(a::(rest++ids m))).Nodup;rw[uG];refine⟨fun q=>?_,h.gv⟩;have:=h.KM (show H.aG∈ids ((a,ec.opn cells e rest z)::m) from q);omega
theorem T4{j:Nat}(h:j≠0):Nat.ble (0+j) 0=false:=by
 cases q:Nat.ble (0+j) 0
 ·rfl
 ·have:=hZ q;omega
def ir(bZ:a8):Prop:=∀a c e r z,(a,ec.opn c e r z)∈bZ->z=0
theorem St{a:Nat}{c:List Value}{e:TypeId}{r:List Nat}:ir [(a,.opn c e r 0)]:=fun a c e r z q=>by
 rcases gb.1 q with q|q
 ·injection q with _ q;injection q
 ·cases q
theorem aqG{a:Nat}{c:List Value}{e:TypeId}:ir [(a,.row c e)]:=fun a c e r z q=>by
 rcases gb.1 q with q|q
 ·cases q
 ·cases q
theorem aqF{a bV:Nat}{c c':List Value}{e b3:TypeId}{r cW:List Nat}{z:Nat}(h:ir [(a,.opn c e r z)]):ir [(bV,.opn c' b3 cW z)]:=fun b x y u w q=>by
 rcases gb.1 q with q|q
 ·injection q with _ q;injection q with _ _ _ q
  subst q;exact h _ _ _ _ _ (.head _)
 ·cases q
def tX(bZ:a8):Prop:=∀a c e,(a,ec.row c e)∉bZ
theorem KW{a:Nat}{c:List Value}{e:TypeId}{r:List Nat}{z:Nat}:tX [(a,.opn c e r z)]:=fun a c e q=>by
 rcases gb.1 q with q|q
 ·cases q
 ·cases q
theorem aaR{c:Call}{t hM e:TypeId}{sz k j:Nat}{zs cells new:List Value}{v x:Value}{bZ dc:a8}{ht:TypeDesc}(aj:o.op=.call c)(aJ:c.callee=.builtin .append)(aq:o.dst=some d)(aE:Nat.blt d n=true)(aI:ix l c.args.toList=some [v,x])(nA:c.argTypes.toList=[t,hM])(aS:kQ K.P t=some (e,sz,zs))(kN:K.P.underlying hM=some ht)(st:∀i,ht≠.int i)
 (az:Acc e sz v k cells bZ)(hm:m=bZ++dc)(ab:mA K.g0 B J m sz x j new)(ei:new.length=j*sz)(eh:new.all ff=true)(aD:k+j<=1000000)
 (h:∀w jL,Acc e sz w (k+j) (cells++new) jL->(ir bZ->ir jL)/\(tX bZ->tX jL)->e8 ⟨n,ds,(d,w)::l⟩ (jL++dc) J):jQ K B o ⟨n,ds,l⟩ m J e8:=by
 obtain⟨hu,ea,jm,z,h3,aL,bQ,rfl,bL,cZ,dE⟩:=sV aS;refine jQ.BK aq aE fun S H ax aH=>?_;obtain⟨ev,gH⟩:=ab H aH;have ho:∀call aQ,cL K.P call aQ S H o=nd (qg K.P H t v x):=fun call aQ=>by
  rw[Aa aj aJ];unfold qh;rw[oG ax H aI,nA];simp only[kN]
 have kL:(!(Nat.ble (k+j) 1000000&&Nat.ble jm 1000000&&Nat.beq z.cells.toList.length sz))=false:=by
  rw[bQ,bL,hY,show Nat.ble (k+j) 1000000=true from mU aD];rfl
 have ri:(!(new.all ff&&Nat.beq new.length (j*sz)))=false:=by
  rw[eh,ei,hY];rfl
 subst hm;cases az with
 |nil=>
  by_cases bf:j=0
  ·subst bf;have mF:new=[]:=by apply kU;rw[ei];simp
   subst mF;refine⟨.slice none 0 0,H,_,J,fun call aQ=>?_,aH,h _ [] .nil ⟨id,id⟩⟩;rw[ho];unfold qg;simp only[hu,ea,h3,aL,ev,kL,dB,gH,ri];rfl
  ·obtain⟨H1,aC,aW⟩:=aH.oj new e;refine⟨.slice (some ⟨H.aG,0,none⟩) j cQ,H1,(H.aG,.opn new e [] 0)::dc,J,fun call aQ=>?_,aW,?_⟩
   ·rw[ho];unfold qg;simp only[hu,ea,h3,aL,ev,kL,dB,gH,ri];rw[show Nat.beq 0 cQ=false from rfl,dB,T4 bf,dB];simp only[jV,B7,j8,hY,cv,kp,fresh,aC,j7];rfl
   ·have:=h (.slice (some ⟨H.aG,0,none⟩) j cQ) [(H.aG,.opn new e [] 0)] (by rw[j7,kp];exact .opn ei (ep _)) ⟨fun _=>St,fun _=>KW⟩;exact this
 |js a=>
  by_cases bf:j=0
  ·subst bf;have mF:new=[]:=by apply kU;rw[ei];simp
   subst mF;refine⟨.slice (some ⟨a,0,none⟩) 0 0,H,_,J,fun call aQ=>?_,aH,h _ [] (.js a) ⟨id,id⟩⟩;rw[ho];unfold qg;simp only[hu,ea,h3,aL,ev,kL,dB,gH,ri];rfl
  ·obtain⟨H1,aC,aW⟩:=aH.oj new e;refine⟨.slice (some ⟨H.aG,0,none⟩) j cQ,H1,(H.aG,.opn new e [] 0)::dc,J,fun call aQ=>?_,aW,?_⟩
   ·rw[ho];unfold qg;simp only[hu,ea,h3,aL,ev,kL,dB,gH,ri];rw[show Nat.beq 0 cQ=false from rfl,dB,T4 bf,dB];simp only[jV,B7,j8,hY,cv,kp,fresh,aC,j7];rfl
   ·have:=h (.slice (some ⟨H.aG,0,none⟩) j cQ) [(H.aG,.opn new e [] 0)] (by rw[j7,kp];exact .opn ei (ep _)) ⟨fun _=>St,fun _=>KW⟩;exact this
 |@opn a k cells rest z hlen e1=>
  have vt:Nat.ble z (0+k*sz)=true:=mU (by omega);by_cases bf:j=0
  ·subst bf;have mF:new=[]:=by apply kU;rw[ei];simp
   subst mF;obtain⟨f,H1,cz,ck,ch,gh,hg,gW,qk⟩:=Inv.grow (m:=dc) aH cells;have rc:Nat.blt a H.bU=false:=by
    cases q:Nat.blt a H.bU
    ·rfl
    ·have:a<H.bU:=by simpa[Nat.blt,v8] using q
     have:=(aH.own _ _ (.head _)).2.2.2;have:=aH.bU;omega
   refine⟨.slice (some ⟨a,0,none⟩) k cQ,H,_,J,fun call aQ=>?_,aH,h _ [(a,.opn cells e rest z)] (by rw[iI,iU];exact .opn hlen e1) ⟨id,id⟩⟩;rw[ho];unfold qg;simp only[hu,ea,h3,aL,ev,kL,dB,gH,ri,hY,cv,ck,rc,SD,x5,vt,ov];rfl
  ·obtain⟨f,H1,cz,ck,ch,gh,hg,gW,qk⟩:=Inv.grow (m:=dc) aH (cells++new);have rc:Nat.blt a H.bU=false:=by
    cases q:Nat.blt a H.bU
    ·rfl
    ·have:a<H.bU:=by simpa[Nat.blt,v8] using q
     have:=(aH.own _ _ (.head _)).2.2.2;have:=aH.bU;omega
   refine⟨.slice (some ⟨H.aG,0,none⟩) (k+j) cQ,cz,(H.aG,.opn (cells++new) e (a::rest) z)::dc,J,fun call aQ=>?_,qk,?_⟩
   ·rw[ho];have O4:Nat.beq j 0=false:=by
     cases q:Nat.beq j 0
     ·rfl
     ·exact absurd (eC q) bf
    have tN:takeN (k*sz) cells=some cells:=by rw[xS (by omega),dd (by omega)]
    unfold qg;simp only[hu,ea,h3,aL,ev,kL,dB,gH,ri,hY,cv,ck,rc,SD,x5,vt,ov,O4,tN,ch,yt,hlen,Fi,gh,hg,gW];rfl
   ·exact h (.slice (some ⟨H.aG,0,none⟩) (k+j) cQ) [(H.aG,.opn (cells++new) e (a::rest) z)] (.opn (by rw[eS,hlen,ei,c3]) (by rw[eS];omega)) ⟨aqF,fun _=>KW⟩
 |@cap a k C cells full el kc oK V2 hx=>
  have Wf:Nat.beq C cQ=false:=by
   cases q:Nat.beq C cQ
   ·rfl
   ·have:=eC q;omega
  have m9:H.mem.get a=some (.row full el false 0 0 false):=(aH.own a (.row full el) (.head _)).1;have F0:cells.length=k*sz:=by rw[<-oK,dY,kc,gn (e0 _ V2)]
  have VU:Nat.blt a H.bU=false:=by
   cases q:Nat.blt a H.bU
   ·rfl
   ·have:a<H.bU:=by simpa[Nat.blt,v8] using q
    have:=(aH.own _ _ (.head _)).2.2.2;have:=aH.bU;omega
  by_cases nx:k+j<=C
  ·have AN:k*sz+new.length<=full.length:=by rw[ei,kc,<-c3];exact e0 _ nx
   have l3:=HV (k*sz) full new AN;have dR:∃H1,se H a (0+k*sz) new=some H1/\∃CE,Inv K.g0 B J ((a,.row CE el)::dc) H1/\CE.length=C*sz/\CE.take ((k+j)*sz)=cells++new:=by
    cases tI:new with
    |nil=>
     have aO:j*sz=0:=by rw[<-ei,tI];rfl
     exact⟨H,rfl,full,aH,kc,by rw[c3,aO,iI,oK,iU]⟩
    |cons jf xs=>
     obtain⟨H1,aC,aW⟩:=aH.store (cells':=full.take (k*sz)++new++full.drop (k*sz+new.length)) (.head _ _ _ _);refine⟨H1,?_,_,aW,?_,?_⟩
     ·rw[<-tI]
      have:se H a (0+k*sz) new=(bif Nat.blt a H.bU then none else match H.mem.get a with
       |some (.row cells elem opn bP ey sh)=>bif Nat.ble ey (0+k*sz)&&new.all ff then(match gw (0+k*sz) cells new with
        |none=>none
        |some cells=>match H.upd a (.row cells elem opn bP ey sh) with
         |none=>none
         |some H=>bif opn then y0 H a bP else some H) else none
       |_=>none):=by rw[tI];rfl
      rw[this];simp only[VU,dB,m9,j7,l3,aC,eh,It,Nat.ble,cv]
     ·simp only[eS,dY,lQ];omega
     ·rw[nM,List.take_append,oK,dd (by rw[F0,c3];omega),List.take_append,dd (by rw[F0,ei,c3];omega),F0,ei,c3,show k*sz+j*sz -k*sz -j*sz=0 by omega,fh,iU];exact aa _ tI
   obtain⟨H1,aC,CE,aW,cw,ed⟩:=dR;refine⟨.slice (some ⟨a,0,none⟩) (k+j) C,H1,(a,.row CE el)::dc,J,fun call aQ=>?_,aW,h _ [(a,.row CE el)] (.cap cw ed nx hx) ⟨fun _=>aqG,fun q=>absurd (.head _) (q _ _ _)⟩⟩;rw[ho];unfold qg;simp only[hu,ea,h3,aL,ev,kL,dB,gH,ri,Wf,show Nat.ble (k+j) C=true from mU nx,cv,aC];rfl
  ·obtain⟨H1,aC,aW⟩:=aH.oj (cells++new) e;have q':Nat.ble (k+j) C=false:=by
    cases q:Nat.ble (k+j) C
    ·rfl
    ·have:=hZ q;omega
   have hold:jV H sz k (.slice (some ⟨a,0,none⟩) k C)=some cells:=by
    cases k with
    |zero=>
     rw[j8,fh] at oK;subst oK;rfl
    |succ k=>
     simp only[jV,m9];rw[wy,hi,xS (by rw[kc];exact e0 _ V2),oK]
   refine⟨.slice (some ⟨H.aG,0,none⟩) (k+j) cQ,H1,(H.aG,.opn (cells++new) e [] 0)::dc,J,fun call aQ=>?_,aW.sub (.cons_cons _ (.cons _ (.refl _))),h _ [(H.aG,.opn (cells++new) e [] 0)] (.opn (by rw[eS,F0,ei,c3]) (ep _)) ⟨fun _=>St,fun _=>KW⟩⟩;rw[ho];unfold qg;simp only[hu,ea,h3,aL,ev,kL,dB,gH,ri,Wf,q',y1,hold,F0,hY,cv,fresh,aC];rfl
theorem aqs{c:Call}{t hM e:TypeId}{sz k j:Nat}{zs cells new:List Value}{v x:Value}{bZ dc:a8}{ht:TypeDesc}(aj:o.op=.call c)(aJ:c.callee=.builtin .append)(aq:o.dst=some d)(aE:Nat.blt d n=true)(aI:ix l c.args.toList=some [v,x])(nA:c.argTypes.toList=[t,hM])(aS:kQ K.P t=some (e,sz,zs))(kN:K.P.underlying hM=some ht)(st:∀i,ht≠.int i)
 (az:Acc e sz v k cells bZ)(hm:m=bZ++dc)(ab:mA K.g0 B J m sz x j new)(ei:new.length=j*sz)(eh:new.all ff=true)(aD:k+j<=1000000)
 (h:∀w jL,Acc e sz w (k+j) (cells++new) jL->e8 ⟨n,ds,(d,w)::l⟩ (jL++dc) J):jQ K B o ⟨n,ds,l⟩ m J e8:=
 aaR aj aJ aq aE aI nA aS kN st az hm ab ei eh aD fun w jL q _=>h w jL q
end
section
variable {K:ef}{B:dy}{o:Oper}{n:Nat}{ds:eK}{l:List (Nat×Value)}{m m':a8}{J:an}{e8:cC->a8->an->Prop}{d:Nat}
theorem ae.cut{c:Code}{E:cC}{L:List (Nat×Value)}{M:a8}{bK:an}{c7:Exit->cC->a8->an->Prop}(ad:ae K B c E m J fun e cV m' ah=>match e with
 |.normal=>(∃l',cV=⟨n,ds,l'⟩/\o1 l' L)/\M.Sublist m'/\ah=bK
 |e=>c7 e cV m' ah)(af:c7 .normal ⟨n,ds,L⟩ M bK):ae K B c E m J c7:=by
 intro S H ax aH;obtain⟨e,aP,H',cV,c1,ah,a7,a0,bJ,cO⟩:=ad S H ax aH;cases e with
 |normal=>
  obtain⟨⟨l',rfl,gj⟩,jJ,rfl⟩:=cO;exact⟨_,aP,H',_,M,_,a7,a0.sub gj,bJ.sub jJ,af⟩
 |exit i=>exact⟨_,aP,H',_,_,_,a7,a0,bJ,cO⟩
 |goto i=>exact⟨_,aP,H',_,_,_,a7,a0,bJ,cO⟩
 |ret=>exact⟨_,aP,H',_,_,_,a7,a0,bJ,cO⟩
 |panic c=>exact⟨_,aP,H',_,_,_,a7,a0,bJ,cO⟩
 |outgrown=>exact⟨_,aP,H',_,_,_,a7,a0,bJ,cO⟩
theorem fw{t:Nat}{p:Prop}[Decidable p](h:look l t=some (.bool true))(ap:p):look l t=some (.bool (decide p)):=by rw[h,ie ap]
theorem fu{t:Nat}{p:Prop}[Decidable p](h:look l t=some (.bool false))(ap:¬p):look l t=some (.bool (decide p)):=by rw[h,fx ap]
theorem fv{t:Nat}{p q:Prop}[Decidable p][Decidable q](h:look l t=some (.bool (decide q)))(ap:q↔p):look l t=some (.bool (decide p)):=by rw[h];simp[ap]
def ti (l:List (Nat×Value))(d:Int):Option Operand->Option Int
 |none=>some d
 |some x=>match bT l x with|some (.int _ i)=>some i|_=>none
theorem MU{S:a5}(ax:Sat ⟨n,ds,l⟩ S)(H:aw){dl i:Int}{x:Option Operand}(h:ti l dl x=some i):(x=none/\i=dl/\hH S.T H x=some none)\/(∃k y,x=some y/\bT l y=some (.int k i)/\hH S.T H x=some (some (.int k i))):=by
 cases x with
 |none=>injection h with h;exact .inl ⟨rfl,h.symm,rfl⟩
 |some y=>
  right
  simp only[ti] at h;split at h
  ·rename_i k j bf;injection h with h;subst h
   exact⟨k,y,rfl,bf,by simp only[hH];rw[dg ax H bf]⟩
  ·cases h
theorem uP{S:a5}(ax:Sat ⟨n,ds,l⟩ S)(H:aw){dl i:Int}{x:Option Operand}{jr top:Nat}(h:ti l dl x=some i)(aO:0<=i)(ad:i<=top)(aq:dl=jr):∃eN,hH S.T H x=some eN/\ks jr top eN=some i.toNat:=by
 rcases MU ax H h with⟨rfl,rfl,q⟩|⟨k,y,rfl,aB,q⟩
 ·refine⟨none,q,?_⟩;rw[aq];rfl
 ·exact⟨_,q,GO aO ad⟩
theorem aaS{t e:TypeId}{x:Operand}{lo ar:Option Operand}{v:Value}{k sz:Nat}{zs cs:List Value}{a b:Int}(aj:o.op=.slice t x lo ar none)(aq:o.dst=some d)(aE:Nat.blt d n=true)(ab:bT l x=some v)(aS:kQ K.P t=some (e,sz,zs))(az:fP J e sz v k cs)(hk:0<k)(hz:ti l 0 lo=some a)(kM:ti l k ar=some b)(aO:0<=a)(ad:a<=b)(af:b<=k)
 (h:∀w,fP J e sz w (b -a).toNat ((cs.drop (a.toNat*sz)).take ((b -a).toNat*sz))->e8 ⟨n,ds,(d,w)::l⟩ m J):jQ K B o ⟨n,ds,l⟩ m J e8:=by
 obtain⟨hu,ea,jm,z,h3,aL,bQ,rfl,bL,cZ,dE⟩:=sV aS;refine jQ.BK aq aE fun S H ax aH=>?_;cases az with
 |nil=>exact absurd hk (by omega)
 |js a off cap h=>exact absurd hk (by omega)
 |yx=>exact absurd hk (by omega)
 |@row di off k cap cells cs b3 dQ ee fB iD ue=>
  obtain⟨ol,Hv,xA⟩:=uP (jr:=0) (top:=b.toNat) ax H hz aO (by omega) rfl;have ho:∀w,kt K.P H t (.slice (some ⟨di,off,none⟩) k cap) ol (match hH S.T H ar with|some x=>x|none=>none)=some w->∀call aQ,cL K.P call aQ S H o=some (.val w H):=fun w hw call aQ=>by
   unfold cL e3;simp only[aj];show mn K.P _ t (ba S.T H x) (hH S.T H lo) (hH S.T H ar)=_;rw[dg ax H ab,Hv];rcases MU ax H kM with⟨_,_,q⟩|⟨_,_,_,_,q⟩
   ·rw[q] at hw ⊢;unfold mn;simp only;rw[show kt K.P H t (.slice (some ⟨di,off,none⟩) k cap) ol none=some w from hw];rfl
   ·rw[q] at hw ⊢;unfold mn;simp only;rw[show kt K.P H t (.slice (some ⟨di,off,none⟩) k cap) ol _=some w from hw];rfl
  have hlen:k*sz<=(cells.drop off).length:=by
   have:((cells.drop off).take (k*sz)).length=k*sz:=by rw[ee];exact fB
   rw[dY] at this;omega
  have aC:(b -a).toNat=b.toNat -a.toNat:=by omega
  have hle:a.toNat*sz+(b -a).toNat*sz<=k*sz:=by
   rw[<-c3];exact e0 _ (by omega)
  have h4:(cells.drop (off+a.toNat*sz)).take ((b -a).toNat*sz)=(cs.drop (a.toNat*sz)).take ((b -a).toNat*sz):=by
   rw[<-ee,IF,rX,Et,gn (by omega)]
  have lY:((cs.drop (a.toNat*sz)).take ((b -a).toNat*sz)).length=(b -a).toNat*sz:=by
   rw[dY,lQ,fB];omega
  obtain⟨HA,of,amu,os,bS⟩:=aH.et _ _ _ dQ;by_cases aJ:cap=cQ
  ·subst aJ;obtain⟨xy,pH,pI⟩:=uP (jr:=k) (top:=k) ax H kM (by omega) (by omega) rfl;refine⟨.slice (some ⟨di,off+a.toNat*sz,none⟩) (b -a).toNat cQ,H,m,J,ho _ ?_,aH,h _ (.row dQ h4 lY (fun q=>absurd rfl q) ue)⟩;rw[pH];unfold kt;simp only[hu,ea,hY,cv,bS,ue rfl,pI,xA,ov,dB];rw[aC];rfl
  ·obtain⟨xy,pH,pI⟩:=uP (jr:=k) (top:=cap) ax H kM (by omega) (by have:=(iD aJ).1;omega) rfl;have FZ:Nat.beq cap cQ=false:=by
    cases q:Nat.beq cap cQ
    ·rfl
    ·exact absurd (eC q) aJ
   by_cases tE:cap=a.toNat
   ·have e1:(b -a).toNat=0:=by have:=(iD aJ).1;omega
    refine⟨.slice (some ⟨di,off,none⟩) (b -a).toNat (cap -a.toNat),H,m,J,ho _ ?_,aH,h _ ?_⟩
    ·rw[pH];unfold kt;simp only[hu,ea,FZ,dB,pI,xA];rw[show Nat.beq cap a.toNat=true by rw[tE];exact hY _,cv,aC];rfl
    ·have:(cs.drop (a.toNat*sz)).take ((b -a).toNat*sz)=[]:=by rw[e1];simp
     rw[this,e1,tE,uJ];exact .js _ _ _ (by decide)
   ·refine⟨.slice (some ⟨di,off+a.toNat*sz,none⟩) (b -a).toNat (cap -a.toNat),H,m,J,ho _ ?_,aH,h _ (.row dQ h4 lY (fun _=>⟨by have:=(iD aJ).1;omega,by have:=(iD aJ).2;omega⟩) (fun q=>?_))⟩
    ·rw[pH];unfold kt;simp only[hu,ea,FZ,dB,pI,xA];have:Nat.beq cap a.toNat=false:=by
      cases q:Nat.beq cap a.toNat
      ·rfl
      ·exact absurd (eC q) tE
     rw[this,dB,aC];rfl
    ·have:=(iD aJ).2;omega
end
open Classical
section
variable {K:ef}{B:dy}{o:Oper}{n:Nat}{ds:eK}{l:List (Nat×Value)}{m m':a8}{J:an}{e8:cC->a8->an->Prop}{d:Nat}{c7:Exit->cC->a8->an->Prop}
end
end
end Go.Opn

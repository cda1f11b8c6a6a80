/- A part of the proof of TableTurns. -/
import Derived.Test.YtlgjlbpafcifoaaGreatDoorCam
import Derived.Laws.Strings
import Derived.Laws.Strings2
set_option linter.unusedVariables false
set_option linter.unusedSimpArgs false
namespace Go.Opn
noncomputable section
open Go.Cre Go.RowKit
def cm(K:dy)(B:c5)(ops:List Oper)(aX:List iG)(F:List (FuncId×List Value))(E:b0)(m:aO)(J:af)(ba:b0->aO->af->Prop):Prop:=
 ∀S H,Sat E S->Inv K.g0 B J m H->∃ck:eo,(∀f args H r,ck f args H=some r->(f,args)∉F)/\∃aC H' E' m' ae,
  (∀dM:eo,(∀f args H r,ck f args H=some r->dM f args H=some r)->c4 K.P (gV K.Q dM) (e8 K.Q gd dM).aE ops aX S H=some (.ok aC H'))/\Sat E' aC/\Inv K.g0 B ae m' H'/\ba E' m' ae
section
variable {K:dy}{B:c5}{ops:List Oper}{aX:List iG}{F:List (FuncId×List Value)}{E:b0}{m m':aO}{J:af}{o:Oper}{ba:b0->aO->af->Prop}{cd:Exit->b0->aO->af->Prop}
variable {n:Nat}{ds:dJ}{l:List (Nat×Value)}{d i:Nat}
theorem aB.draw{id:Nat}{a:Array Oper}(ap:Gv a.toList=none)(bu:B7 a.toList=true)(ao:Hh a.toList=aX)(h:cm K B a.toList aX [] E m J fun E m J=>cd .normal E m J):aB K B (.region id a true) E m J cd:=by
 intro S H aj av;obtain⟨ck,_,aC,H',E',m',ae,ab,ad,aL,a6⟩:=h S H aj av;refine⟨.normal,aC,H',E',m',ae,dk.vh K.cw.qi gd ck ?_,ad,aL,a6⟩;show qp (uI K.P (e8 K.Q gd ck).call (e8 K.Q gd ck).aE a.toList S H)=_;rw[H3];unfold uI;rw[ap];show qp (wc K.P (gV K.Q ck) (e8 K.Q gd ck).aE a.toList S H)=_;unfold wc;rw[bu,b4,ao,ab ck (fun _ _ _ _ q=>q)];rfl
theorem cm.nil(h:ba E m J):cm K B ops [] F E m J ba:=fun S H aj av=>⟨j2,(fun _ _ _ _ q=>by cases q),S,H,E,m,J,fun _ _=>rfl,aj,av,h⟩
theorem cm.val{v:Value}(ak:nth ops i=some o)(ax:o.guard=none)(al:o.dst=some d)(az:Nat.blt d n=true)(ar:cO K B o n ds l m J v)(h:cm K B ops aX F ⟨n,ds,(d,v)::l⟩ m J ba):cm K B ops (.val i::aX) F ⟨n,ds,l⟩ m J ba:=by
 intro S H aj av;obtain⟨a0,s1,s2⟩:=aj.put (dst:=some d) az v;obtain⟨ck,cP,aC,H',E',m',ae,ab,ad,aL,a6⟩:=h a0 H s2 av;refine⟨ck,cP,aC,H',E',m',ae,fun dM q=>?_,ad,aL,a6⟩;show h3 ops i (k9 K.P _ _ ops S H (c4 K.P _ _ ops aX))=_;unfold h3;rw[ak];show k9 K.P _ _ ops S H (c4 K.P _ _ ops aX) o=_;unfold k9 fa;rw[ax];show Bl S H o.dst (c4 K.P _ _ ops aX) (cj K.P _ _ S H o)=_;rw[ar _ _ S H aj av,al];show(bif Nat.beq H.ay H.ay then oL (c4 K.P _ _ ops aX) H (S.put (some d) v) else none)=_;rw[hd,b4,s1];exact ab dM q
theorem cm.ir{b:e3}{p:dw}{ei:iE}(ak:nth ops i=some o)(ax:o.guard=none)(al:o.dst=some d)(az:Nat.blt d n=true)(aF:∀S,Sat ⟨n,ds,l⟩ S->m2 K.P S.T o.op=some (b,ei))(ao:∀H a,H.mem.get a=some b->p.at (fun _=>True) H a)(Am:∀c e r z,p≠.opn c e r z)
 (h:∀a,cm K B ops aX F ⟨n,ds,(d,ei.at a)::l⟩ ((a,p)::m) J ba):cm K B ops (.ir i::aX) F ⟨n,ds,l⟩ m J ba:=by
 intro S H aj av;obtain⟨H1,aw⟩:=av.wf.new b;have db:p.at B.yd H1 H.ay:=by
  have q:=ao H1 H.ay (by rw[(an.oG aw).2.2.2.2.2,a2 rfl]);cases p with
  |row=>exact q
  |map=>exact q
  |loop=>exact q
  |gk=>exact q
  |opn c e r z=>exact absurd rfl (Am c e r z)
 have Jk:=av.new aw db (by cases p with|opn c e r z=>exact absurd rfl (Am c e r z)|_=>rfl);obtain⟨a0,s1,s2⟩:=aj.put (dst:=some d) az (ei.at H.ay);obtain⟨ck,cP,aC,H',E',m',ae,ab,ad,aL,a6⟩:=h H.ay a0 H1 s2 Jk;refine⟨ck,cP,aC,H',E',m',ae,fun dM q=>?_,ad,aL,a6⟩;show h3 ops i (En K.P ops S H (c4 K.P _ _ ops aX))=_;unfold h3;rw[ak];show En K.P ops S H (c4 K.P _ _ ops aX) o=_;unfold En fa;rw[ax];show Mu S H o.dst (c4 K.P _ _ ops aX) (m2 K.P S.T o.op)=_;rw[aF S aj];show Mv S o.dst (c4 K.P _ _ ops aX) ei (H.new b)=_;rw[aw,al];show oL (c4 K.P _ _ ops aX) H1 (S.put (some d) (ei.at H.ay))=_;rw[s1];exact ab dM q
theorem Q3{S:aV}(aj:Sat ⟨n,ds,l⟩ S){x:Operand}{v:Value}(h:bx l x=some v):qm S.T x=some v:=by
 cases x with
 |tmp t=>exact aj.get t v h
 |const c=>exact h
 |global g=>cases h
 |func f=>exact h
theorem cm.alloc{t:TypeId}{z:Value}{cells:List Value}(ak:nth ops i=some o)(ax:o.guard=none)(ah:o.op=.alloc t)(al:o.dst=some d)(az:Nat.blt d n=true)(aG:gX K.P t=some z)(ao:plain z=true)(aD:z.cells.toList=cells)(ab:cells.all eV=true)
 (h:∀a,cm K B ops aX F ⟨n,ds,(d,.pointer (some ⟨a,0,none⟩))::l⟩ ((a,.row cells t)::m) J ba):cm K B ops (.ir i::aX) F ⟨n,ds,l⟩ m J ba:=by
 refine cm.ir (b:=.row cells t false 0 0 false) (p:=.row cells t) (ei:=.ptr) ak ax al az (fun S aj=>?_) (fun H a q=>q) (fun c e r z q=>by cases q) h;rw[ah];simp only[m2,aG,ao,b4,zz,aD,ab]
theorem cm.bD(ak:nth ops i=some o)(ax:o.guard=none)(h:∀S H,Sat E S->Inv K.g0 B J m H->∃aC H' E' m' ae,(∀call aE,np S H o.dst (cj K.P call aE S H o)=some (.ok aC H'))/\Sat E' aC/\Inv K.g0 B ae m' H'/\cm K B ops aX F E' m' ae ba):cm K B ops (.bD i::aX) F E m J ba:=by
 intro S H aj av;obtain⟨a0,H1,dC,cL,bi,aU,aQ,bj,ct⟩:=h S H aj av;obtain⟨ck,cP,aC,H',E',m',ae,ab,ad,aL,a6⟩:=ct a0 H1 aQ bj;refine⟨ck,cP,aC,H',E',m',ae,fun dM q=>?_,ad,aL,a6⟩;show h3 ops i (fun o=>iM ops (c4 K.P _ _ ops aX) (one K.P _ _ ops S H o))=_;unfold h3;rw[ak];show iM ops (c4 K.P _ _ ops aX) (one K.P _ _ ops S H o)=_;unfold one fa;rw[ax];show iM ops (c4 K.P _ _ ops aX) (np S H o.dst (cj K.P _ _ S H o))=_;rw[aU];exact ab dM q
theorem cm.pW(ak:nth ops i=some o)(ax:o.guard=none)(h:jR K B o E m J fun E m J=>cm K B ops aX F E m J ba):cm K B ops (.bD i::aX) F E m J ba:=cm.bD ak ax h
theorem cm.adG{v:Value}(ak:nth ops i=some o)(ax:o.guard=none)(al:o.dst=some d)(az:Nat.blt d n=true)(ar:cO K B o n ds l m J v)(h:cm K B ops aX F ⟨n,ds,(d,v)::l⟩ m J ba):cm K B ops (.bD i::aX) F ⟨n,ds,l⟩ m J ba:=by
 refine cm.bD ak ax fun S H aj av=>?_;obtain⟨a0,s1,s2⟩:=aj.put (dst:=some d) az v;refine⟨a0,H,_,m,J,fun call aE=>?_,s2,av,h⟩;rw[ar _ _ S H aj av,al];show mq H (S.put (some d) v)=_;rw[s1];rfl
theorem cm.adA{c:Call}{x:Operand}{f:FuncId}{first cap:Array Value}{args bV:List Value}{bl c2:aO}{dg:Value->aO->af->Prop}
 (ak:nth ops i=some o)(ax:o.guard=none)(ah:o.op=.call c)(al:o.dst=some d)(az:Nat.blt d n=true)(aD:c.callee=.value x)(U:bx l x=some (.func (.func f) first cap))(aF:hC l c.args.toList=some args)(has:(first.toList++args)++cap.toList=bV)
 (aA:(f,bV)∉F)(ao:(bl++c2).Perm m)(gr:yK bl)(b3:Fn K f bV bl J dg)(h:∀v m' ae,J.le ae->dg v m' ae->cm K B ops aX ((f,bV)::F) ⟨n,ds,(d,v)::l⟩ (m'++c2) ae ba):cm K B ops (.bD i::aX) F ⟨n,ds,l⟩ m J ba:=by
 intro S H aj av;obtain⟨v,H',ae,m',aU,aQ,bj⟩:=b3 H (av.enter ao gr);obtain⟨ct,fo⟩:=av.leave ao aQ;obtain⟨a0,s1,s2⟩:=aj.put (dst:=some d) az v;obtain⟨ck,cP,aC,mV,E',k0,nA,ab,ad,aL,a6⟩:=h v m' ae fo bj a0 H' s2 ct
 classical
 refine⟨fun f' bP H1=>if f'=f/\bP=bV then ka f bV H (.returned v,H') f' bP H1 else ck f' bP H1,fun f' bP H1 r q=>?_,aC,mV,E',k0,nA,fun dM q=>?_,ad,aL,a6⟩
 ·simp only at q;split at q
  ·rename_i e;rw[e.1,e.2];exact aA
  ·exact fun ch=>cP f' bP H1 r q (SX _ ch)
 ·have gR:dM f bV H=some (.returned v,H'):=q f bV H _ (by simp only[IH,a2];unfold ka;rw[a2 ⟨rfl,rfl,rfl⟩]);have wQ:∀f' bP H1 r,ck f' bP H1=some r->dM f' bP H1=some r:=fun f' bP H1 r aq=>q f' bP H1 r (by
   simp only
   rw[aZ (fun e=>cP f' bP H1 r aq (by rw[e.1,e.2];exact List.mem_cons_self))];exact aq)
  show h3 ops i (fun o=>iM ops (c4 K.P _ _ ops aX) (one K.P _ _ ops S H o))=_;unfold h3;rw[ak];show iM ops (c4 K.P _ _ ops aX) (one K.P _ _ ops S H o)=_;unfold one fa;rw[ax];show iM ops (c4 K.P _ _ ops aX) (np S H o.dst (cj K.P _ _ S H o))=_;have he:cj K.P (gV K.Q dM) (e8 K.Q gd dM).aE S H o=some (.val v H'):=by
   unfold cj eF;simp only[ah];show ju K.P _ c=_;unfold ju;rw[aD];show lK K.P _ _ S.T H c=_;unfold lK;rw[m6 aj H aF];simp only[aD];rw[c6 aj H U];simp only
   show(match jG K.P H (.func f) (first.toList++args) cap.toList with|some (f,bV)=>m5 (gV K.Q _ f bV H)|none=>none)=_
   unfold jG;simp only
   rw[has,x3 aU gR];rfl
  rw[he,al];show iM ops (c4 K.P _ _ ops aX) (mq H' (S.put (some d) v))=_;rw[s1];exact ab dM wQ
theorem cm.call{c:Call}{x:Operand}{f:FuncId}{first cap:Array Value}{args bV:List Value}{bl c2:aO}{dg:Value->aO->af->Prop}
 (ak:nth ops i=some o)(ax:o.guard=none)(ah:o.op=.call c)(al:o.dst=some d)(az:Nat.blt d n=true)(aD:c.callee=.value x)(U:bx l x=some (.func (.func f) first cap))(aF:hC l c.args.toList=some args)(has:(first.toList++args)++cap.toList=bV)
 (aA:F.all (fun g=>!Nat.beq g.1 f)=true)(ao:(bl++c2).Perm m)(gr:yK bl)(b3:Fn K f bV bl J dg)(h:∀v m' ae,J.le ae->dg v m' ae->cm K B ops aX ((f,bV)::F) ⟨n,ds,(d,v)::l⟩ (m'++c2) ae ba):cm K B ops (.bD i::aX) F ⟨n,ds,l⟩ m J ba:=
 cm.adA ak ax ah al az aD U aF has (fun q=>by
  rw[rF] at aA;have:=aA (f,bV) q;simp at this) ao gr b3 h
def h6(K:dy)(B:c5)(ops:List Oper)(n:Nat)(ds:dJ)(l:List (Nat×Value))(m:aO)(J:af)(i:Nat):Prop:=
 ∀call aE S H,Sat ⟨n,ds,l⟩ S->Inv K.g0 B J m H->vX K.P call aE ops S H i=true
theorem h6.val{v u:Value}(ak:nth ops i=some o)(ax:o.guard=none)(al:o.dst=some d)(ar:cO K B o n ds l m J v)(hu:look l d=some u)(he:eJ 8 v u=true):h6 K B ops n ds l m J i:=by
 intro call aE S H aj av;unfold vX;rw[ak];show IX K.P call aE ops S H o (fa ops S.T o)=true;unfold fa;rw[ax];show IY H.ay S.T o.dst (cj K.P call aE S H o)=true;rw[ar _ _ S H aj av,al];show(Nat.beq H.ay H.ay&&(match S.T.get d with|some u=>eJ 8 v u|none=>false))=true
 rw[hd,aj.get d u hu];simpa using he
def sH(K:dy)(B:c5)(ops:List Oper)(n:Nat)(ds:dJ)(l:List (Nat×Value))(m:aO)(J:af):List Nat->Prop
 |[]=>True
 |i::r=>h6 K B ops n ds l m J i/\sH K B ops n ds l m J r
theorem sH.all{call:eo}{aE:gU}{S:aV}{H:an}(aj:Sat ⟨n,ds,l⟩ S)(av:Inv K.g0 B J m H):∀{is:List Nat},sH K B ops n ds l m J is->is.all (vX K.P call aE ops S H)=true:=by
 intro is;induction is with
 |nil=>intro _;rfl
 |cons i r aP=>intro h;rw[BG,h.1 call aE S H aj av,aP h.2];rfl
theorem cm.ca{is:List Nat}(aD:sH K B ops n ds l m J is)(h:cm K B ops aX F ⟨n,ds,l⟩ m J ba):cm K B ops (.ca is::aX) F ⟨n,ds,l⟩ m J ba:=by
 intro S H aj av;obtain⟨ck,cP,aC,H',E',m',ae,ab,ad,aL,a6⟩:=h S H aj av;refine⟨ck,cP,aC,H',E',m',ae,fun dM q=>?_,ad,aL,a6⟩;show zH K.P _ _ ops S H (c4 K.P _ _ ops aX) is=_;unfold zH;rw[sH.all aj av aD,b4];exact ab dM q
theorem aaP(k:IntKind)(a:Int)(n:Nat):eJ (n+1) (.int k a) (.int k a)=true:=by
 show(lT k k&&qc a a)=true;rw[Da,C4];simp
end
theorem aaq{α:Type}:∀(l:List α) (i:Nat) (T:aW α),(∀k,k<i->∃v,T.get k=some v)->∃dD,xz l i T=some dD:=by
 intro l;induction l with
 |nil=>intro i T _;exact⟨T,rfl⟩
 |cons x l aP=>
  intro i T h;obtain⟨pR,b1⟩:=aW.DD x T i h;obtain⟨dD,e⟩:=aP (i+1) pR fun k hk=>by
   rw[aW.get_put b1];split
   ·exact⟨_,rfl⟩
   ·exact h k (by omega)
  refine⟨dD,?_⟩;simp only[xz,aW.set];rw[b1];exact e
theorem b7{P:Program}{f:FuncId}{fn:Func}(h:P.funcs[f]?=some fn):(Ck P).get f=some fn:=by
 obtain⟨T,b1⟩:=aaq P.funcs.toList 0 .leaf (fun k hk=>absurd hk (by omega));unfold Ck;rw[b1];simp only
 rw[RO b1];have b9:f<P.funcs.size:=(LK.1 h).1;rw[a2 (by simpa using b9)];simpa using h
section
variable {K:dy}{B:c5}{o:Oper}{n:Nat}{ds:dJ}{l:List (Nat×Value)}{m m':aO}{J:af}{e7:b0->aO->af->Prop}{d:Nat}
theorem gM{P:Program}{α β:Type}{s:Sem α}{a:α}{f:α->Sem β}(h:e0 P s=some a):e0 P (s >>= f)=e0 P (f a):=by
 show e0 P (Sem.bind s f)=_;induction s with
 |pure b=>simp only[e0,cl] at h;subst h;rfl
 |program k aP=>exact aP P (by simpa[e0] using h)
 |mark m k aP=>exact aP (by simpa[e0] using h)
 |_=>simp[e0] at h
theorem NA{P:Program}{t:TypeId}{uG:TypeDesc}(h:P.underlying t=some uG):e0 P (underlying t)=some uG:=by
 have:e0 P (underlying t)=e0 P (match P.underlying t with|some d=>pure d|none=>stuck "no such type"):=by
  rfl
 rw[this,h];rfl
theorem hN{E:b0}{S:aV}(aj:Sat E S)(H:an){x:Operand}{v:Value}(h:bx E.l x=some v):px S.T H x=v:=by
 unfold px;rw[c6 aj H h]
theorem YH{x:Operand}{a v:Value}{S:aV}{H:an}(aj:Sat ⟨n,ds,l⟩ S)(FT:o.op.operands.toList=[x])(U:bx l x=some a)(aF:plain a=true)(he:e0 K.P (execOp (px S.T H) o)=some (.value v))(ar:plain v=true):fl K.P S.T H o=some (.val v H):=by
 unfold fl;rw[FT];have:fy S.T H [x]=some [a]:=by simp only[fy];rw[c6 aj H U]
 rw[this];simp only[BG,SJ,aF,vy,b4,he,ar]
theorem qn{x y:Operand}{a b v:Value}{S:aV}{H:an}(aj:Sat ⟨n,ds,l⟩ S)(FT:o.op.operands.toList=[x,y])(U:bx l x=some a)(au:bx l y=some b)(aF:plain a=true)(ai:plain b=true)(he:e0 K.P (execOp (px S.T H) o)=some (.value v))(ar:plain v=true):fl K.P S.T H o=some (.val v H):=by
 unfold fl;rw[FT];have:fy S.T H [x,y]=some [a,b]:=by simp only[fy];rw[c6 aj H U,c6 aj H au]
 rw[this];simp only[BG,SJ,aF,ai,vy,b4,he,ar]
theorem aaC{t:TypeId}{x:Operand}{b:Bool}(ah:o.op=.unOp .not t x)(U:bx l x=some (.bool b)):cO K B o n ds l m J (.bool (!b)):=by
 intro call aE S H aj av;unfold cj eF;simp only[ah];show fl K.P S.T H o=_;refine YH aj (by rw[ah];rfl) U rfl ?_ rfl;unfold execOp;simp only[ah];rw[hN aj H U];rfl
theorem aqP{t:TypeId}{x:Operand}{p:Prop}[Decidable p](ah:o.op=.unOp .not t x)(U:bx l x=some (.bool (decide p))):cO K B o n ds l m J (.bool (decide (¬p))):=by
 have:=aaC (K:=K) (B:=B) (n:=n) (ds:=ds) (m:=m) (J:=J) ah U;rwa [show(!decide p)=decide (¬p) by simp] at this
def isInt (P:Program)(s d:TypeId):Option IntKind:=match P.underlying s,P.underlying d with
 |some _,some (.int k)=>some k
 |_,_=>none
theorem aqB{s t:TypeId}{x:Operand}{k kX:IntKind}{a b:Int}(ah:o.op=.convert s t x)(U:bx l x=some (.int kX a))(aJ:isInt K.P s t=some k)(hw:k.wrap a=b):cO K B o n ds l m J (.int k b):=by
 intro call aE S H aj av;unfold cj eF;simp only[ah];show xg K.P _ s t (a1 S.T H x)=_;rw[c6 aj H U];unfold xg;simp only
 unfold isInt at aJ;split at aJ
 ·rename_i ab ad;rw[ab,ad];injection aJ with aJ;subst aJ
  simp only[tb,DR,hw];rfl
 ·cases aJ
def AL (P:Program)(t:TypeId):Bool:=match P.underlying t with
 |some (.interface _)=>false
 |some _=>true
 |none=>false
theorem aqF{t:TypeId}{x:Operand}{v:Value}(ah:o.op=.makeInterface t x)(U:bx l x=some v)(aJ:AL K.P t=true):cO K B o n ds l m J (.iface t v):=by
 intro call aE S H aj av;unfold cj eF;simp only[ah];show AW K.P _ t (a1 S.T H x) (K.P.underlying t)=_;rw[c6 aj H U];unfold AL at aJ;cases hu:K.P.underlying t with
 |none=>rw[hu] at aJ;cases aJ
 |some uG=>rw[hu] at aJ;cases uG<;>first|rfl|cases aJ
theorem aqE{f:FuncId}{a b:Array Operand}{hI j4:List Value}(ah:o.op=.makeFunc (.func f) a b)(aF:hC l a.toList=some hI)(ai:hC l b.toList=some j4):cO K B o n ds l m J (.func (.func f) hI.toArray j4.toArray):=by
 intro call aE S H aj av;unfold cj eF;simp only[ah];show AV K.P _ (.func f) (fy S.T H a.toList) (fy S.T H b.toList)=_;rw[m6 aj H aF,m6 aj H ai];rfl
def s9 (l:List (Nat×Value)):List (Nat×Operand)->Option (List (Nat×Value))
 |[]=>some []
 |(i,x)::r=>match bx l x with
  |some v=>(match s9 l r with|some vs=>some ((i,v)::vs)|none=>none)
  |none=>none
theorem Uw{E:b0}{S:aV}(aj:Sat E S)(H:an):∀{xs:List (Nat×Operand)} {vs:List (Nat×Value)},s9 E.l xs=some vs->k5 S.T H xs=some vs:=by
 intro xs;induction xs with
 |nil=>intro vs h;exact h
 |cons x r aP=>
  obtain⟨i,x⟩:=x;intro vs h;simp only[s9] at h;simp only[k5];cases U:bx E.l x with
  |none=>rw[U] at h;cases h
  |some v=>
   rw[U] at h;simp only at h;rw[c6 aj H U];simp only;cases aq:s9 E.l r with
   |none=>rw[aq] at h;cases h
   |some ws=>rw[aq] at h;simp only at h;rw[aP aq];exact h
def Ez (P:Program)(t:TypeId):Option (Sum (List (Nat×Nat)) Nat×List Value):=match gX P t,P.underlying t with
 |some z,some (.struct fields)=>bif plain z then(match places P fields.toList with|some ps=>some (.inl ps,z.cells.toList)|none=>none) else none
 |some z,some (.array _ elem)=>bif plain z then(match ey P elem with|some sz=>some (.inr sz,z.cells.toList)|none=>none) else none
 |_,_=>none
def placeOf:Sum (List (Nat×Nat)) Nat->Nat->Option (Nat×Nat)
 |.inl ps=>nth ps
 |.inr sz=>fun i=>some (i*sz,sz)
theorem aqA{t:TypeId}{ps:Array (Nat×Operand)}{vs:List (Nat×Value)}{pl:Sum (List (Nat×Nat)) Nat}{z cells:List Value}(ah:o.op=.build t ps)(ao:s9 l ps.toList=some vs)(aJ:Ez K.P t=some (pl,z))(aA:m8 (placeOf pl) z vs=some cells):cO K B o n ds l m J (.agg cells.toArray):=by
 intro call aE S H aj av;unfold cj eF;simp only[ah];show AR K.P _ t (k5 S.T H ps.toList)=_;rw[Uw aj H ao];show gH (EZ K.P t vs) H=_;unfold Ez at aJ;unfold EZ;cases aG:gX K.P t with
 |none=>rw[aG] at aJ;cases aJ
 |some l3=>
  rw[aG] at aJ;cases hu:K.P.underlying t with
  |none=>rw[hu] at aJ;cases aJ
  |some uG=>
   rw[hu] at aJ;cases uG with
   |struct fields=>
    simp only at aJ ⊢;cases FV:plain l3 with
    |false=>rw[FV] at aJ;cases aJ
    |true=>
     rw[FV,b4] at aJ;rw[b4];cases bI:places K.P fields.toList with
     |none=>rw[bI] at aJ;cases aJ
     |some anZ=>
      rw[bI] at aJ;simp only[cl,dm] at aJ;obtain⟨rfl,rfl⟩:=aJ;have aA:m8 (nth anZ) l3.cells.toList vs=some cells:=aA;simp only[aA];rfl
   |array k elem=>
    simp only at aJ ⊢;cases FV:plain l3 with
    |false=>rw[FV] at aJ;cases aJ
    |true=>
     rw[FV,b4] at aJ;rw[b4];cases bI:ey K.P elem with
     |none=>rw[bI] at aJ;cases aJ
     |some sz=>
      rw[bI] at aJ;simp only[cl,dm] at aJ;obtain⟨rfl,rfl⟩:=aJ;have aA:m8 (fun i=>some (i*sz,sz)) l3.cells.toList vs=some cells:=aA;simp only[aA];rfl
   |_=>cases aJ
def x0 (P:Program)(t:TypeId):Option (Nat×TypeId×Nat):=match P.underlying t with
 |some (.array len elem)=>(match ey P elem with|some sz=>some (len,elem,sz)|none=>none)
 |_=>none
theorem TF{P:Program}{t elem:TypeId}{len sz:Nat}(h:x0 P t=some (len,elem,sz)):P.underlying t=some (.array len elem)/\ey P elem=some sz:=by
 unfold x0 at h;split at h
 ·rename_i ab;split at h
  ·rename_i ad;simp only[cl,dm] at h;obtain⟨rfl,rfl,rfl⟩:=h;exact⟨ab,ad⟩
  ·cases h
 ·cases h
theorem aqH{t elem:TypeId}{x c7:Operand}{a off len sz:Nat}{k:IntKind}{i:Int}(ah:o.op=.indexAddr t x c7)(U:bx l x=some (.pointer (some ⟨a,off,none⟩)))(ak:bx l c7=some (.int k i))(aJ:x0 K.P t=some (len,elem,sz))(aN:0<=i)(ab:i<len):cO K B o n ds l m J (.pointer (some ⟨a,off+i.toNat*sz,none⟩)):=by
 obtain⟨hu,aG⟩:=TF aJ;intro call aE S H aj av;unfold cj eF;simp only[ah];show xh K.P _ t (a1 S.T H x) (a1 S.T H c7)=_;rw[c6 aj H U,c6 aj H ak];show gH (we K.P t (.pointer (some ⟨a,off,none⟩)) (.int k i)) H=_;unfold we;simp only[hu,P1 aN ab,aG];rfl
theorem aqI{t elem e:TypeId}{g:Nat}{c7:Operand}{cells:List Value}{len sz:Nat}{k:IntKind}{i:Int}(ah:o.op=.indexAddr t (.global g) c7)(ax:Nat.blt g K.g0=true)(gD:J g=some (cells,e))(ak:bx l c7=some (.int k i))(aJ:x0 K.P t=some (len,elem,sz))(aN:0<=i)(ab:i<len):cO K B o n ds l m J (.pointer (some ⟨g,0+i.toNat*sz,none⟩)):=by
 obtain⟨hu,aG⟩:=TF aJ;intro call aE S H aj av;unfold cj eF;simp only[ah];show xh K.P _ t (Dx H g) (a1 S.T H c7)=_;obtain⟨o',f',g3,cQ,bI⟩:=av.ed _ _ _ gD;have:Dx H g=some (.pointer (some ⟨g,0,none⟩)):=by
  unfold Dx;rw[av.bz,ax,b4,bI]
 rw[this,c6 aj H ak];show gH (we K.P t (.pointer (some ⟨g,0,none⟩)) (.int k i)) H=_;unfold we;simp only[hu,P1 aN ab,aG];rfl
theorem acM{op:BinOp}{t dx:TypeId}{x y:Operand}{a b:Value}{r:Bool}{S:aV}{H:an}{call:eo}{aE:gU}(ah:o.op=.binOp op t x y dx)(U:a1 S.T H x=some a)(au:a1 S.T H y=some b)(ak:∀k i,a≠.int k i)(ao:fl K.P S.T H o=none)(he:xf K.P ⟨call,aE,S,H,o⟩ t a b op=some (.val (.bool r) H)):cj K.P call aE S H o=some (.val (.bool r) H):=by
 unfold cj eF;simp only[ah];show lX K.P _ op t (a1 S.T H x) (a1 S.T H y)=_;rw[U,au];have:lX K.P ⟨call,aE,S,H,o⟩ op t (some a) (some b)=tK K.P ⟨call,aE,S,H,o⟩ op t a b:=by
  cases a<;>first|rfl|exact absurd rfl (ak _ _)
 rw[this];unfold tK;show orElse (fl K.P S.T H o) _=_;rw[ao];exact he
end
inductive fg (J:af) (e:TypeId) (sz:Nat):Value->Nat->List Value->Prop
 |nil:fg J e sz (.slice none 0 0) 0 []
 |jF (a off cap:Nat):cap<cG->fg J e sz (.slice (some ⟨a,off,none⟩) 0 cap) 0 []
 |x':fg J e sz (.slice (some ⟨0,0,some 0⟩) 0 0) 0 []
 |row {a off len cap:Nat} {cells cs:List Value} {bC:TypeId}:J a=some (cells,bC)->(cells.drop off).take (len*sz)=cs->cs.length=len*sz->(cap≠cG->len<=cap/\cap<cG)->(cap=cG->bC=e)->fg J e sz (.slice (some ⟨a,off,none⟩) len cap) len cs
theorem fg.mono{J ae:af}(hle:J.le ae){e:TypeId}{sz n:Nat}{v:Value}{cs:List Value}(h:fg J e sz v n cs):fg ae e sz v n cs:=by
 cases h with
 |nil=>exact .nil
 |jF a off cap h=>exact .jF a off cap h
 |x'=>exact .x'
 |row ab ad aL a6 fb=>exact .row (hle _ _ ab) ad aL a6 fb
theorem fg.inv{J:af}{e:TypeId}{sz n:Nat}{v:Value}{cs:List Value}(h:fg J e sz v n cs):∃b c,v=.slice b n c/\cs.length=n*sz/\(b=none->n=0)/\(0<n->∃a off cells bC,b=some ⟨a,off,none⟩/\J a=some (cells,bC)/\∀k,k<n*sz->nth cells (off+k)=cs[k]?):=by
 cases h with
 |nil=>exact⟨_,_,rfl,by simp,fun _=>rfl,fun q=>absurd q (by omega)⟩
 |jF a off cap h=>exact⟨_,_,rfl,by simp,fun _=>rfl,fun q=>absurd q (by omega)⟩
 |x'=>exact⟨_,_,rfl,by simp,fun _=>rfl,fun q=>absurd q (by omega)⟩
 |@row a off len cap cells cs bC ab ad aL a6 fb=>
  refine⟨_,_,rfl,aL,(fun q=>by cases q),fun _=>⟨a,off,cells,bC,rfl,ab,fun k hk=>?_⟩⟩;rw[kA,<-ad,iH,a2 hk,oX]
theorem fg.len{J:af}{e:TypeId}{sz n:Nat}{v:Value}{cs:List Value}(h:fg J e sz v n cs):cs.length=n*sz:=by
 obtain⟨_,_,_,h,_⟩:=h.inv;exact h
theorem xx{α:Type}{n:Nat}{l:List α}(h:n<=l.length):takeN n l=some (l.take n):=by
 induction n generalizing l with
 |zero=>rfl
 |succ n aP=>
  cases l with
  |nil=>simp at h
  |cons a l=>
   simp only[takeN];rw[aP (by simpa using h)];rfl
def nG(g0:Nat)(B:c5)(J:af)(m:aO)(sz:Nat)(v:Value)(n:Nat)(cs:List Value):Prop:=∀H,Inv g0 B J m H->rk v=some n/\jn H sz n v=some cs
theorem fg.rd{g0:Nat}{B:c5}{J:af}{m:aO}{e:TypeId}{sz n:Nat}{v:Value}{cs:List Value}(h:fg J e sz v n cs):nG g0 B J m sz v n cs:=by
 intro H av;cases h with
 |nil=>exact⟨rfl,rfl⟩
 |jF a off cap h=>exact⟨rfl,rfl⟩
 |x'=>exact⟨rfl,rfl⟩
 |@row a off len cap cells cs bC ab ad aL a6 fb=>
  refine⟨rfl,?_⟩;obtain⟨o,f,z,s,q⟩:=av.ed _ _ _ ab;unfold jn;cases n with
  |zero=>simp only;rw[<-ad];simp
  |succ n=>
   simp only[q];rw[v9,xx,ad];have:((cells.drop off).take ((n+1)*sz)).length=(n+1)*sz:=by rw[ad];exact aL
   rw[dY] at this;omega
section
variable {K:dy}{B:c5}{o:Oper}{n:Nat}{ds:dJ}{l:List (Nat×Value)}{m m':aO}{J:af}{e7:b0->aO->af->Prop}{d:Nat}
def mr (P:Program)(t:TypeId):Option (TypeId×Nat×List Value):=match P.underlying t with
 |some (.slice e)=>(match ey P e,uB P e,gX P e with
  |some sz,some iL,some z=>bif Nat.ble iL 1000000&&Nat.beq z.cells.toList.length sz&&z.cells.toList.all eV&&plain z then some (e,sz,z.cells.toList) else none
  |_,_,_=>none)
 |_=>none
theorem sw{P:Program}{t e:TypeId}{sz:Nat}{zs:List Value}(h:mr P t=some (e,sz,zs)):P.underlying t=some (.slice e)/\ey P e=some sz/\∃iL z,uB P e=some iL/\gX P e=some z/\Nat.ble iL 1000000=true/\zs=z.cells.toList/\zs.length=sz/\zs.all eV=true/\plain z=true:=by
 unfold mr at h;split at h
 ·rename_i bC ab;split at h
  ·rename_i apU iL z ad aL a6;cases ai:(Nat.ble iL 1000000&&Nat.beq z.cells.toList.length apU&&z.cells.toList.all eV&&plain z) with
   |true=>
    rw[ai,b4] at h;simp only[cl,dm] at h;obtain⟨rfl,rfl,rfl⟩:=h;simp only[gg] at ai;obtain⟨⟨⟨bs,bM⟩,cB⟩,ep⟩:=ai;exact⟨ab,ad,iL,z,aL,a6,bs,rfl,eb bM,cB,ep⟩
   |false=>rw[ai,da] at h;cases h
  ·cases h
 ·cases h
theorem arx{t e:TypeId}{k sz:Nat}{zs cells:List Value}{ps:Array (Nat×Operand)}{vs:List (Nat×Value)}(ah:o.op=.buildSlice t k ps)(al:o.dst=some d)(az:Nat.blt d n=true)(ao:s9 l ps.toList=some vs)(aJ:mr K.P t=some (e,sz,zs))(hk:(Nat.ble k 100000&&Nat.ble (k*sz) 100000)=true)(aA:m8 (fun i=>some (i*sz,sz)) (fp zs k) vs=some cells)(ab:cells.all eV=true)
 (h:∀a,e7 ⟨n,ds,(d,.slice (some ⟨a,0,none⟩) k k)::l⟩ ((a,.row cells e)::m) J):jR K B o ⟨n,ds,l⟩ m J e7:=by
 obtain⟨hu,dF,iL,z,hF,aG,bs,rfl,bM,cB,ep⟩:=sw aJ;refine jR.Bk al az fun S H aj av=>?_;obtain⟨H1,aw,aR⟩:=av.alloc cells e;refine⟨_,H1,_,J,fun call aE=>?_,aR,h H.ay⟩;unfold cj eF;simp only[ah];show G9 K.P _ t k (k5 S.T H ps.toList)=_;rw[Uw aj H ao];show mS (E0 K.P H t k vs)=_;unfold E0 tI;simp only[hu,dF,aG];rw[hk,ep,show Nat.beq z.cells.toList.length sz=true by rw[bM];exact hd _];simp only[vy,b4,aA,ab,aw];rfl
theorem Gm{i:Int}{len:Nat}(aN:0<=i)(ab:i<=len):qe i len=some i.toNat:=by
 cases i with
 |ofNat n=>
  unfold qe;have:Nat.ble n len=true:=lH (by simpa using ab);simp only[this,b4];rfl
 |negSucc n=>exact absurd aN (by simp)
theorem pG{t e:TypeId}{x y:Operand}{sz:Nat}{zs:List Value}{i j:Int}{qh Db:IntKind}(ah:o.op=.makeSlice t x y)(al:o.dst=some d)(az:Nat.blt d n=true)(U:bx l x=some (.int qh i))(au:bx l y=some (.int Db j))(aJ:mr K.P t=some (e,sz,zs))(aN:0<=i)(ab:i<=j)(ad:j<=1000000)
 (h:∀a,e7 ⟨n,ds,(d,.slice (some ⟨a,0,none⟩) i.toNat j.toNat)::l⟩ ((a,.row (fp zs j.toNat) e)::m) J):jR K B o ⟨n,ds,l⟩ m J e7:=by
 obtain⟨hu,dF,iL,z,hF,aG,bs,rfl,bM,cB,ep⟩:=sw aJ;refine jR.Bk al az fun S H aj av=>?_;obtain⟨H1,aw,aR⟩:=av.alloc (fp z.cells.toList j.toNat) e;refine⟨_,H1,_,J,fun call aE=>?_,aR,h H.ay⟩;unfold cj eF;simp only[ah];show G' K.P _ t (a1 S.T H x) (a1 S.T H y)=_;rw[c6 aj H U,c6 aj H au];show mS (E3 K.P H t (.int qh i) (.int Db j))=_;unfold E3 tI;simp only[hu,aG,hF,dF];rw[Gm (by omega) (by omega),Gm (by omega) (by omega)];simp only[bs,cB,ep,HZ];rw[show Nat.beq z.cells.toList.length sz=true by rw[bM];exact hd _,show Nat.ble i.toNat j.toNat=true from lH (by omega)];simp only[HZ,b4,aw];rfl
inductive Acc (e:TypeId) (sz:Nat):Value->Nat->List Value->aO->Prop
 |nil:Acc e sz (.slice none 0 0) 0 [] []
 |jF (a:Nat):Acc e sz (.slice (some ⟨a,0,none⟩) 0 0) 0 [] []
 |opn {a k:Nat} {cells:List Value} {rest:List Nat} {z:Nat}:cells.length=k*sz->z<=cells.length->Acc e sz (.slice (some ⟨a,0,none⟩) k cG) k cells [(a,.opn cells e rest z)]
 |cap {a k C:Nat} {cells full:List Value} {el:TypeId}:full.length=C*sz->full.take (k*sz)=cells->k<=C->C<cG->Acc e sz (.slice (some ⟨a,0,none⟩) k C) k cells [(a,.row full el)]
theorem Hu{α:Type}:∀(off:Nat) (l vs:List α),off+vs.length<=l.length->gf off l vs=some (l.take off++vs++l.drop (off+vs.length)):=by
 intro off;induction off with
 |zero=>
  intro l vs h;induction vs generalizing l with
  |nil=>cases l<;>simp[gf]
  |cons v vs aP=>
   cases l with
   |nil=>simp at h
   |cons a l=>
    have:=aP l (by simp only[lc] at h;omega);simp only[gf,this];simp
 |succ n aP=>
  intro l vs h;cases l with
  |nil=>simp at h
  |cons a l=>
   have:=aP l vs (by simp only[lc] at h;omega);simp only[gf,this];simp[Nat.add_right_comm n 1 vs.length]
theorem Inv.perm{g0:Nat}{H:an}(h:Inv g0 B J m H)(ao:m.Perm m'):Inv g0 B J m' H:=
 ⟨h.wf,h.bz,h.ay,h.cn,h.fF,h.mM,h.ed,h.le,h.fresh,fun a b q=>h.own a b (ao.symm.subset q),fun a b q=>h.opn a b (ao.symm.subset q),(Ka ao).nodup_iff.1 h.fT⟩
theorem Inv.grow{g0 a z:Nat}{H:an}{cells:List Value}{e:TypeId}{rest:List Nat}(h:Inv g0 B J ((a,.opn cells e rest z)::m) H)(cells':List Value):∃f H1 bK,H.mem.get a=some (.row cells e true f z false)/\H.bw.get f=some (a::rest)/\H.rr f (H.ay::a::rest)=some H1/\H1.ay=H.ay/\H1.new (.row cells' e true f z false)=some (H.ay,bK)/\Inv g0 B J ((H.ay,.opn cells' e (a::rest) z)::m) bK:=by
 obtain⟨aU,aQ,bj,ct⟩:=h.own a _ (.head _);obtain⟨f,f1,f2,f3⟩:=aU;have VG:=h.wf.E8 f3;have dP:=h.fT;rw[show ids ((a,dw.opn cells e rest z)::m)=a::(rest++ids m) from rfl,sN,nB] at dP;obtain⟨H1,aw⟩:=h.wf.rr (H.ay::a::rest) VG;obtain⟨s2,s1,fQ,k6,qq⟩:=an.DI aw;have hm:Inv g0 B J m H1:=by
  refine⟨h.wf.Rt VG aw,k6.trans h.bz,by rw[s2];exact h.ay,by rw[fQ];exact h.cn,fun x U dr=>by rw[s1];exact h.fF x U dr,fun g ax=>?_,fun x c e aY=>by rw[s1];exact h.ed x c e aY,h.le,h.fresh,fun x b ai=>?_,fun x b ai y au=>by rw[s2];exact h.opn x b (.tail _ ai) y au,(BL _ _).nodup dP.2⟩
  ·rw[qq,aZ (fun q=>ax (by rw[q];exact f1))];exact h.mM g ax
  ·obtain⟨dL,du,js,lv⟩:=h.own x b (.tail _ ai);refine⟨?_,du,js,lv⟩;cases b with
   |row c e=>show H1.mem.get x=_;rw[s1];exact dL
   |map es k=>show H1.mem.get x=_;rw[s1];exact dL
   |loop r=>show H1.mem.get x=_;rw[s1];exact dL
   |gk=>show H1.mem.get x=_;rw[s1];exact dL
   |opn c bC r g3=>
    obtain⟨g,bY,bZ,cz⟩:=dL;refine⟨g,bY,by rw[s1];exact bZ,?_⟩;rw[qq,aZ]
    ·exact cz
    ·intro q;subst q;rw[f3] at cz;injection cz with cz;injection cz with cz
     subst cz;exact dP.1 (.inr (yB ai))
 obtain⟨bK,aR⟩:=hm.wf.new (.row cells' e true f z false);obtain⟨_,ej,eD,gA,jO,gm⟩:=an.oG aR;refine⟨f,H1,bK,f2,f3,aw,s2,by rw[<-s2];exact aR,?_⟩;have ad:Inv g0 B J m bK:=by
  refine⟨hm.wf.QG aR,jO.trans hm.bz,by have:=hm.ay;omega,by rw[gA];exact hm.cn,fun x U dr=>?_,fun g ax=>by rw[eD];exact hm.mM g ax,fun x c e aY=>?_,hm.le,hm.fresh,fun x b ai=>?_,fun x b ai y au=>?_,hm.fT⟩
  ·rw[gm,aZ (by have:=hm.ay;omega)];exact hm.fF x U dr
  ·obtain⟨o,f,z,s,q⟩:=hm.ed x c e aY;exact⟨o,f,z,s,by rw[gm,aZ (by have:=hm.wf.lt q;omega)];exact q⟩
  ·obtain⟨dL,du,js,lv⟩:=hm.own x b ai;exact⟨dw.vP dL (by rw[gm,aZ (by have:=hm.lt ai;omega)]) (fun f l aA=>by rw[eD];exact aA),du,js,lv⟩
  ·obtain⟨dL,du,js⟩:=hm.opn x b ai y au;exact⟨by omega,du,js⟩
 refine⟨ad.wf,ad.bz,ad.ay,ad.cn,ad.fF,ad.mM,ad.ed,ad.le,ad.fresh,fun x b ai=>?_,fun x b ai y au=>?_,?_⟩
 ·rcases fU.1 ai with q|q
  ·injection q with aK aH;subst aK;subst aH
   exact⟨⟨f,f1,by rw[gm,s2,a2 rfl],by rw[eD,qq,a2 rfl]⟩,.inl h.ay,h.QI,h.NT⟩
  ·exact ad.own x b q
 ·rcases fU.1 ai with q|q
  ·injection q with aK aH;subst aK;subst aH
   have b9:y<H.ay/\(B.H0.ay<=y\/B.X y)/\J y=none:=by
    rcases fU.1 (show y∈a::rest from au) with q|q
    ·subst q;exact⟨h.lt (.head _),aQ,bj⟩
    ·exact h.opn a _ (.head _) y q
   exact⟨by have:=b9.1;omega,b9.2⟩
  ·exact ad.opn x b q y au
 ·show(H.ay::(a::(rest++ids m))).Nodup;rw[sN];refine⟨fun q=>?_,h.fT⟩;have:=h.Km (show H.ay∈ids ((a,dw.opn cells e rest z)::m) from q);omega
theorem TK{j:Nat}(h:j≠0):Nat.ble (0+j) 0=false:=by
 cases q:Nat.ble (0+j) 0
 ·rfl
 ·have:=hv q;omega
def iR(a8:aO):Prop:=∀a c e r z,(a,dw.opn c e r z)∈a8->z=0
theorem Si{a:Nat}{c:List Value}{e:TypeId}{r:List Nat}:iR [(a,.opn c e r 0)]:=fun a c e r z q=>by
 rcases fU.1 q with q|q
 ·injection q with _ q;injection q
 ·cases q
theorem arH{a:Nat}{c:List Value}{e:TypeId}:iR [(a,.row c e)]:=fun a c e r z q=>by
 rcases fU.1 q with q|q
 ·cases q
 ·cases q
theorem arG{a bO:Nat}{c c':List Value}{e bC:TypeId}{r ch:List Nat}{z:Nat}(h:iR [(a,.opn c e r z)]):iR [(bO,.opn c' bC ch z)]:=fun b x y u w q=>by
 rcases fU.1 q with q|q
 ·injection q with _ q;injection q with _ _ _ q
  subst q;exact h _ _ _ _ _ (.head _)
 ·cases q
def tH(a8:aO):Prop:=∀a c e,(a,dw.row c e)∉a8
theorem Kx{a:Nat}{c:List Value}{e:TypeId}{r:List Nat}{z:Nat}:tH [(a,.opn c e r z)]:=fun a c e q=>by
 rcases fU.1 q with q|q
 ·cases q
 ·cases q
theorem aru{c:Call}{t iD e:TypeId}{sz k j:Nat}{zs cells new:List Value}{v x:Value}{a8 fH:aO}{eM:TypeDesc}(ah:o.op=.call c)(aD:c.callee=.builtin .append)(al:o.dst=some d)(az:Nat.blt d n=true)(aF:hC l c.args.toList=some [v,x])(p9:c.argTypes.toList=[t,iD])(aJ:mr K.P t=some (e,sz,zs))(lP:K.P.underlying iD=some eM)(yu:∀i,eM≠.int i)
 (ar:Acc e sz v k cells a8)(hm:m=a8++fH)(U:nG K.g0 B J m sz x j new)(dE:new.length=j*sz)(dQ:new.all eV=true)(ap:k+j<=1000000)
 (h:∀w lV,Acc e sz w (k+j) (cells++new) lV->(iR a8->iR lV)/\(tH a8->tH lV)->e7 ⟨n,ds,(d,w)::l⟩ (lV++fH) J):jR K B o ⟨n,ds,l⟩ m J e7:=by
 obtain⟨hu,dF,iL,z,hF,aG,bs,rfl,bM,cB,ep⟩:=sw aJ;refine jR.Bk al az fun S H aj av=>?_;obtain⟨en,fR⟩:=U H av;have gF:∀call aE,cj K.P call aE S H o=mS (pX K.P H t v x):=fun call aE=>by
  rw[zS ah aD];unfold pY;rw[m6 aj H aF,p9];simp only[lP]
 have kg:(!(Nat.ble (k+j) 1000000&&Nat.ble iL 1000000&&Nat.beq z.cells.toList.length sz))=false:=by
  rw[bs,bM,hd,show Nat.ble (k+j) 1000000=true from lH ap];rfl
 have ra:(!(new.all eV&&Nat.beq new.length (j*sz)))=false:=by
  rw[dQ,dE,hd];rfl
 subst hm;cases ar with
 |nil=>
  by_cases aY:j=0
  ·subst aY;have mh:new=[]:=by apply kn;rw[dE];simp
   subst mh;refine⟨.slice none 0 0,H,_,J,fun call aE=>?_,av,h _ [] .nil ⟨id,id⟩⟩;rw[gF];unfold pX;simp only[hu,dF,hF,aG,en,kg,da,fR,ra];rfl
  ·obtain⟨H1,aw,aR⟩:=av.n8 new e;refine⟨.slice (some ⟨H.ay,0,none⟩) j cG,H1,(H.ay,.opn new e [] 0)::fH,J,fun call aE=>?_,aR,?_⟩
   ·rw[gF];unfold pX;simp only[hu,dF,hF,aG,en,kg,da,fR,ra];rw[show Nat.beq 0 cG=false from rfl,da,TK aY,da];simp only[jn,D7,jA,hd,b4,kE,fresh,aw,kH];rfl
   ·have:=h (.slice (some ⟨H.ay,0,none⟩) j cG) [(H.ay,.opn new e [] 0)] (by rw[kH,kE];exact .opn dE (df _)) ⟨fun _=>Si,fun _=>Kx⟩;exact this
 |jF a=>
  by_cases aY:j=0
  ·subst aY;have mh:new=[]:=by apply kn;rw[dE];simp
   subst mh;refine⟨.slice (some ⟨a,0,none⟩) 0 0,H,_,J,fun call aE=>?_,av,h _ [] (.jF a) ⟨id,id⟩⟩;rw[gF];unfold pX;simp only[hu,dF,hF,aG,en,kg,da,fR,ra];rfl
  ·obtain⟨H1,aw,aR⟩:=av.n8 new e;refine⟨.slice (some ⟨H.ay,0,none⟩) j cG,H1,(H.ay,.opn new e [] 0)::fH,J,fun call aE=>?_,aR,?_⟩
   ·rw[gF];unfold pX;simp only[hu,dF,hF,aG,en,kg,da,fR,ra];rw[show Nat.beq 0 cG=false from rfl,da,TK aY,da];simp only[jn,D7,jA,hd,b4,kE,fresh,aw,kH];rfl
   ·have:=h (.slice (some ⟨H.ay,0,none⟩) j cG) [(H.ay,.opn new e [] 0)] (by rw[kH,kE];exact .opn dE (df _)) ⟨fun _=>Si,fun _=>Kx⟩;exact this
 |@opn a k cells rest z hlen eG=>
  have u6:Nat.ble z (0+k*sz)=true:=lH (by omega);by_cases aY:j=0
  ·subst aY;have mh:new=[]:=by apply kn;rw[dE];simp
   subst mh;obtain⟨f,H1,bK,bY,bZ,fM,gN,gp,ov⟩:=Inv.grow (m:=fH) av cells;have o9:Nat.blt a H.bz=false:=by
    cases q:Nat.blt a H.bz
    ·rfl
    ·have:a<H.bz:=by simpa[Nat.blt,vK] using q
     have:=(av.own _ _ (.head _)).2.2.2;have:=av.bz;omega
   refine⟨.slice (some ⟨a,0,none⟩) k cG,H,_,J,fun call aE=>?_,av,h _ [(a,.opn cells e rest z)] (by rw[ik,ij];exact .opn hlen eG) ⟨id,id⟩⟩;rw[gF];unfold pX;simp only[hu,dF,hF,aG,en,kg,da,fR,ra,hd,b4,bY,o9,St,vy,u6,oc];rfl
  ·obtain⟨f,H1,bK,bY,bZ,fM,gN,gp,ov⟩:=Inv.grow (m:=fH) av (cells++new);have o9:Nat.blt a H.bz=false:=by
    cases q:Nat.blt a H.bz
    ·rfl
    ·have:a<H.bz:=by simpa[Nat.blt,vK] using q
     have:=(av.own _ _ (.head _)).2.2.2;have:=av.bz;omega
   refine⟨.slice (some ⟨H.ay,0,none⟩) (k+j) cG,bK,(H.ay,.opn (cells++new) e (a::rest) z)::fH,J,fun call aE=>?_,ov,?_⟩
   ·rw[gF];have OT:Nat.beq j 0=false:=by
     cases q:Nat.beq j 0
     ·rfl
     ·exact absurd (eb q) aY
    have ty:takeN (k*sz) cells=some cells:=by rw[xx (by omega),cM (by omega)]
    unfold pX;simp only[hu,dF,hF,aG,en,kg,da,fR,ra,hd,b4,bY,o9,St,vy,u6,oc,OT,ty,bZ,x7,hlen,ER,fM,gN,gp];rfl
   ·exact h (.slice (some ⟨H.ay,0,none⟩) (k+j) cG) [(H.ay,.opn (cells++new) e (a::rest) z)] (.opn (by rw[eY,hlen,dE,cR]) (by rw[eY];omega)) ⟨arG,fun _=>Kx⟩
 |@cap a k C cells full el jI p3 VR gP=>
  have V4:Nat.beq C cG=false:=by
   cases q:Nat.beq C cG
   ·rfl
   ·have:=eb q;omega
  have kV:H.mem.get a=some (.row full el false 0 0 false):=(av.own a (.row full el) (.head _)).1;have Fx:cells.length=k*sz:=by rw[<-p3,dY,jI,fV (eK _ VR)]
  have VJ:Nat.blt a H.bz=false:=by
   cases q:Nat.blt a H.bz
   ·rfl
   ·have:a<H.bz:=by simpa[Nat.blt,vK] using q
    have:=(av.own _ _ (.head _)).2.2.2;have:=av.bz;omega
  by_cases ng:k+j<=C
  ·have Ap:k*sz+new.length<=full.length:=by rw[dE,jI,<-cR];exact eK _ ng
   have ls:=Hu (k*sz) full new Ap;have dn:∃H1,rT H a (0+k*sz) new=some H1/\∃Cl,Inv K.g0 B J ((a,.row Cl el)::fH) H1/\Cl.length=C*sz/\Cl.take ((k+j)*sz)=cells++new:=by
    cases tt:new with
    |nil=>
     have aN:j*sz=0:=by rw[<-dE,tt];rfl
     exact⟨H,rfl,full,av,jI,by rw[cR,aN,ik,p3,ij]⟩
    |cons jw xs=>
     obtain⟨H1,aw,aR⟩:=av.store (cells':=full.take (k*sz)++new++full.drop (k*sz+new.length)) (.head _ _ _ _);refine⟨H1,?_,_,aR,?_,?_⟩
     ·rw[<-tt]
      have:rT H a (0+k*sz) new=(bif Nat.blt a H.bz then none else match H.mem.get a with
       |some (.row cells elem opn bw ef sh)=>bif Nat.ble ef (0+k*sz)&&new.all eV then(match gf (0+k*sz) cells new with
        |none=>none
        |some cells=>match H.upd a (.row cells elem opn bw ef sh) with
         |none=>none
         |some H=>bif opn then yD H a bw else some H) else none
       |_=>none):=by rw[tt];rfl
      rw[this];simp only[VJ,da,kV,kH,ls,aw,dQ,HZ,Nat.ble,b4]
     ·simp only[eY,dY,ld];omega
     ·rw[my,List.take_append,p3,cM (by rw[Fx,cR];omega),List.take_append,cM (by rw[Fx,dE,cR];omega),Fx,dE,cR,show k*sz+j*sz -k*sz -j*sz=0 by omega,fq,ij];exact b6 _ tt
   obtain⟨H1,aw,Cl,aR,cf,dK⟩:=dn;refine⟨.slice (some ⟨a,0,none⟩) (k+j) C,H1,(a,.row Cl el)::fH,J,fun call aE=>?_,aR,h _ [(a,.row Cl el)] (.cap cf dK ng gP) ⟨fun _=>arH,fun q=>absurd (.head _) (q _ _ _)⟩⟩;rw[gF];unfold pX;simp only[hu,dF,hF,aG,en,kg,da,fR,ra,V4,show Nat.ble (k+j) C=true from lH ng,b4,aw];rfl
  ·obtain⟨H1,aw,aR⟩:=av.n8 (cells++new) e;have q3:Nat.ble (k+j) C=false:=by
    cases q:Nat.ble (k+j) C
    ·rfl
    ·have:=hv q;omega
   have hold:jn H sz k (.slice (some ⟨a,0,none⟩) k C)=some cells:=by
    cases k with
    |zero=>
     rw[jA,fq] at p3;subst p3;rfl
    |succ k=>
     simp only[jn,kV];rw[v9,g5,xx (by rw[jI];exact eK _ VR),p3]
   refine⟨.slice (some ⟨H.ay,0,none⟩) (k+j) cG,H1,(H.ay,.opn (cells++new) e [] 0)::fH,J,fun call aE=>?_,aR.sub (.cons_cons _ (.cons _ (.refl _))),h _ [(H.ay,.opn (cells++new) e [] 0)] (.opn (by rw[eY,Fx,dE,cR]) (df _)) ⟨fun _=>Si,fun _=>Kx⟩⟩;rw[gF];unfold pX;simp only[hu,dF,hF,aG,en,kg,da,fR,ra,V4,q3,yL,hold,Fx,hd,b4,fresh,aw];rfl
end
section
variable {K:dy}{B:c5}{o:Oper}{n:Nat}{ds:dJ}{l:List (Nat×Value)}{m m':aO}{J:af}{e7:b0->aO->af->Prop}{d:Nat}
theorem aB.cut{c:Code}{E:b0}{L:List (Nat×Value)}{M:aO}{bi:af}{cd:Exit->b0->aO->af->Prop}(ab:aB K B c E m J fun e E' m' ae=>match e with
 |.normal=>(∃l',E'=⟨n,ds,l'⟩/\kl l' L)/\M.Sublist m'/\ae=bi
 |e=>cd e E' m' ae)(ad:cd .normal ⟨n,ds,L⟩ M bi):aB K B c E m J cd:=by
 intro S H aj av;obtain⟨e,aC,H',E',cL,ae,aU,aQ,bj,ct⟩:=ab S H aj av;cases e with
 |normal=>
  obtain⟨⟨l',rfl,fo⟩,jN,rfl⟩:=ct;exact⟨_,aC,H',_,M,_,aU,aQ.sub fo,bj.sub jN,ad⟩
 |exit i=>exact⟨_,aC,H',_,_,_,aU,aQ,bj,ct⟩
 |goto i=>exact⟨_,aC,H',_,_,_,aU,aQ,bj,ct⟩
 |ret=>exact⟨_,aC,H',_,_,_,aU,aQ,bj,ct⟩
 |panic c=>exact⟨_,aC,H',_,_,_,aU,aQ,bj,ct⟩
 |outgrown=>exact⟨_,aC,H',_,_,_,aU,aQ,bj,ct⟩
theorem Ub{t:Nat}{p:Prop}[Decidable p](h:look l t=some (.bool true))(ao:p):look l t=some (.bool (decide p)):=by rw[h,g7 ao]
theorem T'{t:Nat}{p:Prop}[Decidable p](h:look l t=some (.bool false))(ao:¬p):look l t=some (.bool (decide p)):=by rw[h,gL ao]
theorem Ua{t:Nat}{p q:Prop}[Decidable p][Decidable q](h:look l t=some (.bool (decide q)))(ao:q↔p):look l t=some (.bool (decide p)):=by rw[h];simp[ao]
def s3 (l:List (Nat×Value))(d:Int):Option Operand->Option Int
 |none=>some d
 |some x=>match bx l x with|some (.int _ i)=>some i|_=>none
theorem MH{S:aV}(aj:Sat ⟨n,ds,l⟩ S)(H:an){dl i:Int}{x:Option Operand}(h:s3 l dl x=some i):(x=none/\i=dl/\ho S.T H x=some none)\/(∃k y,x=some y/\bx l y=some (.int k i)/\ho S.T H x=some (some (.int k i))):=by
 cases x with
 |none=>injection h with h;exact .inl ⟨rfl,h.symm,rfl⟩
 |some y=>
  right
  simp only[s3] at h;split at h
  ·rename_i k j aY;injection h with h;subst h
   exact⟨k,y,rfl,aY,by simp only[ho];rw[c6 aj H aY]⟩
  ·cases h
theorem uA{S:aV}(aj:Sat ⟨n,ds,l⟩ S)(H:an){dl i:Int}{x:Option Operand}{iO top:Nat}(h:s3 l dl x=some i)(aN:0<=i)(ab:i<=top)(al:dl=iO):∃er,ho S.T H x=some er/\jW iO top er=some i.toNat:=by
 rcases MH aj H h with⟨rfl,rfl,q⟩|⟨k,y,rfl,au,q⟩
 ·refine⟨none,q,?_⟩;rw[al];rfl
 ·exact⟨_,q,Gm aN ab⟩
theorem ary{t e:TypeId}{x:Operand}{lo ak:Option Operand}{v:Value}{k sz:Nat}{zs cs:List Value}{a b:Int}(ah:o.op=.slice t x lo ak none)(al:o.dst=some d)(az:Nat.blt d n=true)(U:bx l x=some v)(aJ:mr K.P t=some (e,sz,zs))(ar:fg J e sz v k cs)(hk:0<k)(g':s3 l 0 lo=some a)(kh:s3 l k ak=some b)(aN:0<=a)(ab:a<=b)(ad:b<=k)
 (h:∀w,fg J e sz w (b -a).toNat ((cs.drop (a.toNat*sz)).take ((b -a).toNat*sz))->e7 ⟨n,ds,(d,w)::l⟩ m J):jR K B o ⟨n,ds,l⟩ m J e7:=by
 obtain⟨hu,dF,iL,z,hF,aG,bs,rfl,bM,cB,ep⟩:=sw aJ;refine jR.Bk al az fun S H aj av=>?_;cases ar with
 |nil=>exact absurd hk (by omega)
 |jF a off cap h=>exact absurd hk (by omega)
 |x'=>exact absurd hk (by omega)
 |@row c0 off k cap cells cs bC cX cW eR hH tQ=>
  obtain⟨ol,G5,xc⟩:=uA (iO:=0) (top:=b.toNat) aj H g' aN (by omega) rfl;have gF:∀w,jY K.P H t (.slice (some ⟨c0,off,none⟩) k cap) ol (match ho S.T H ak with|some x=>x|none=>none)=some w->∀call aE,cj K.P call aE S H o=some (.val w H):=fun w hw call aE=>by
   unfold cj eF;simp only[ah];show lY K.P _ t (a1 S.T H x) (ho S.T H lo) (ho S.T H ak)=_;rw[c6 aj H U,G5];rcases MH aj H kh with⟨_,_,q⟩|⟨_,_,_,_,q⟩
   ·rw[q] at hw ⊢;unfold lY;simp only;rw[show jY K.P H t (.slice (some ⟨c0,off,none⟩) k cap) ol none=some w from hw];rfl
   ·rw[q] at hw ⊢;unfold lY;simp only;rw[show jY K.P H t (.slice (some ⟨c0,off,none⟩) k cap) ol _=some w from hw];rfl
  have hlen:k*sz<=(cells.drop off).length:=by
   have:((cells.drop off).take (k*sz)).length=k*sz:=by rw[cW];exact eR
   rw[dY] at this;omega
  have aw:(b -a).toNat=b.toNat -a.toNat:=by omega
  have hle:a.toNat*sz+(b -a).toNat*sz<=k*sz:=by
   rw[<-cR];exact eK _ (by omega)
  have hZ:(cells.drop (off+a.toNat*sz)).take ((b -a).toNat*sz)=(cs.drop (a.toNat*sz)).take ((b -a).toNat*sz):=by
   rw[<-cW,Ie,sP,D2,fV (by omega)]
  have ln:((cs.drop (a.toNat*sz)).take ((b -a).toNat*sz)).length=(b -a).toNat*sz:=by
   rw[dY,ld,eR];omega
  obtain⟨QZ,of,ang,os,bI⟩:=av.ed _ _ _ cX;by_cases aD:cap=cG
  ·subst aD;obtain⟨xa,pt,pu⟩:=uA (iO:=k) (top:=k) aj H kh (by omega) (by omega) rfl;refine⟨.slice (some ⟨c0,off+a.toNat*sz,none⟩) (b -a).toNat cG,H,m,J,gF _ ?_,av,h _ (.row cX hZ ln (fun q=>absurd rfl q) tQ)⟩;rw[pt];unfold jY;simp only[hu,dF,hd,b4,bI,tQ rfl,pu,xc,oc,da];rw[aw];rfl
  ·obtain⟨xa,pt,pu⟩:=uA (iO:=k) (top:=cap) aj H kh (by omega) (by have:=(hH aD).1;omega) rfl;have Fw:Nat.beq cap cG=false:=by
    cases q:Nat.beq cap cG
    ·rfl
    ·exact absurd (eb q) aD
   by_cases tn:cap=a.toNat
   ·have eG:(b -a).toNat=0:=by have:=(hH aD).1;omega
    refine⟨.slice (some ⟨c0,off,none⟩) (b -a).toNat (cap -a.toNat),H,m,J,gF _ ?_,av,h _ ?_⟩
    ·rw[pt];unfold jY;simp only[hu,dF,Fw,da,pu,xc];rw[show Nat.beq cap a.toNat=true by rw[tn];exact hd _,b4,aw];rfl
    ·have:(cs.drop (a.toNat*sz)).take ((b -a).toNat*sz)=[]:=by rw[eG];simp
     rw[this,eG,tn,sR];exact .jF _ _ _ (by decide)
   ·refine⟨.slice (some ⟨c0,off+a.toNat*sz,none⟩) (b -a).toNat (cap -a.toNat),H,m,J,gF _ ?_,av,h _ (.row cX hZ ln (fun _=>⟨by have:=(hH aD).1;omega,by have:=(hH aD).2;omega⟩) (fun q=>?_))⟩
    ·rw[pt];unfold jY;simp only[hu,dF,Fw,da,pu,xc];have:Nat.beq cap a.toNat=false:=by
      cases q:Nat.beq cap a.toNat
      ·rfl
      ·exact absurd (eb q) tn
     rw[this,da,aw];rfl
    ·have:=(hH aD).2;omega
end
end
end Go.Opn

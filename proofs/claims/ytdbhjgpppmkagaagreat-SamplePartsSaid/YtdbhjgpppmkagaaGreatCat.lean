/- A part of the proof of SampleParts. -/
import Derived.Test.YtdbhjgpppmkagaaGreatCas
import Derived.Laws.Strings
set_option linter.unusedVariables false
set_option linter.unusedSimpArgs false
namespace Go.Opn
noncomputable section
open Go.Cre Go.RowKit
theorem sg{α:Type}(n:Int)(k:Int->α):pY n k=k n:=by
 cases n with
 |ofNat m=>cases m<;>rfl
 |negSucc m=>cases m<;>rfl
theorem BL(a b:Int):ps a b=decide (a<b):=by
 cases a with
 |ofNat m=>cases b with
  |ofNat n=>simp only[ps];rw[oc];simp
  |negSucc n=>simp only[ps];rw[oc];simp;omega
 |negSucc m=>cases b with
  |ofNat n=>simp only[ps];rw[oc];simp;omega
  |negSucc n=>simp only[ps];rw[oc];simp;omega
theorem BK(a b:Int):pr a b=decide (a=b):=by
 cases a with
 |ofNat m=>cases b with
  |ofNat n=>simp only[pr];rw[oc];simp;omega
  |negSucc n=>simp only[pr];rw[oc];simp
 |negSucc m=>cases b with
  |ofNat n=>simp only[pr];rw[oc];simp
  |negSucc n=>simp only[pr];rw[oc];simp
theorem Iz(k:IntKind):sG k k=true:=by cases k<;>rfl
theorem wrap_i64{n:Int}(aa:-9223372036854775808<=n)(ab:n<=9223372036854775807):IntKind.i64.wrap n=n:=by
 unfold IntKind.wrap IntKind.signed IntKind.bits;simp only[JT,He];split<;>omega
theorem xU(H:ao)(b:Bool):v9 H b=some (.val (.bool b) H):=by cases b<;>rfl
section
variable {K:eN}{B:dO}{o:Oper}{n:Nat}{ds:eQ}{l:List (Nat×Value)}{m m':aI}{J:aA}{eF:b9->aI->aA->Prop}{d:Nat}
def c1(K:eN)(B:dO)(o:Oper)(n:Nat)(ds:eQ)(l:List (Nat×Value))(m:aI)(J:aA)(v:Value):Prop:=∀call aL S H,Sat ⟨n,ds,l⟩ S->Inv K.g0 B J m H->cY K.P call aL S H o=some (.val v H)
theorem WM{x:Operand}{v:Value}(an:o.op=.move x)(I:bW l x=some v):c1 K B o n ds l m J v:=by
 intro call aL S H aC aE;unfold cY fU;simp only[an];show g2 (a6 S.T H x) H=_;rw[ey aC H I];rfl
theorem ake{x:Operand}{v:Value}(an:o.op=.assign x)(I:bW l x=some v):c1 K B o n ds l m J v:=by
 intro call aL S H aC aE;unfold cY fU;simp only[an];show g2 (a6 S.T H x) H=_;rw[ey aC H I];rfl
theorem aku{c x y:Operand}{t:Bool}{v:Value}(an:o.op=.pick c x y)(av:bW l c=some (.bool t))(ap:(if t=true then bW l x else bW l y)=some v):c1 K B o n ds l m J v:=by
 intro call aL S H aC aE;unfold cY fU;simp only[an];show xS K.P _ x y (a6 S.T H c)=_;rw[ey aC H av];cases t with
 |true=>show g2 (a6 S.T H x) H=_;rw[ey aC H (by simpa using ap)];rfl
 |false=>show g2 (a6 S.T H y) H=_;rw[ey aC H (by simpa using ap)];rfl
def Ky (k:IntKind)(a b:Int):BinOp->Option Value
 |.add=>some (.int k (k.wrap (a+b)))
 |.sub=>some (.int k (k.wrap (a -b)))
 |.mul=>some (.int k (k.wrap (a*b)))
 |.eql=>some (.bool (decide (a=b)))
 |.neq=>some (.bool (decide (¬a=b)))
 |.lss=>some (.bool (decide (a<b)))
 |.leq=>some (.bool (decide (a<=b)))
 |.gtr=>some (.bool (decide (b<a)))
 |.geq=>some (.bool (decide (b<=a)))
 |_=>none
theorem WK{op:BinOp}{t eV:TypeId}{x y:Operand}{k:IntKind}{a b:Int}{v:Value}(an:o.op=.binOp op t x y eV)(I:bW l x=some (.int k a))(ah:bW l y=some (.int k b))(ap:Ky k a b op=some v):c1 K B o n ds l m J v:=by
 intro call aL S H aC aE;unfold cY fU;simp only[an];show nr K.P _ op t (a6 S.T H x) (a6 S.T H y)=_;rw[ey aC H I,ey aC H ah];show(bif sG k k then mu H k a b _ op else _)=_;rw[Iz,cc];have af8:∀p q:Int,(!decide (p<q))=decide (q<=p):=fun p q=>by rw[oc];simp
 cases op<;>simp only[Ky,b6,reduceCtorEq] at ap<;>subst ap<;>simp only[mu,sg,CA,oQ,xU,BK,BL,af8]
 ·rw[show(!decide (a=b))=decide (¬a=b) by rw[oc];simp]
inductive iI (m:aI) (J:aA) (a:Nat) (cells:List Value):Prop
 |own {e:TypeId}:(a,cI.row cells e)∈m->iI m J a cells
 |opn {e:TypeId} {r:List Nat} {z:Nat}:(a,cI.opn cells e r z)∈m->iI m J a cells
 |fj {e:TypeId}:J a=some (cells,e)->iI m J a cells
theorem iI.get{a:Nat}{cells:List Value}(h:iI m J a cells){g0:Nat}{H:ao}(aE:Inv g0 B J m H):∃e o f z s,H.mem.get a=some (.row cells e o f z s):=by
 cases h with
 |own h=>exact⟨_,_,_,_,_,(aE.own _ _ h).1⟩
 |opn h=>obtain⟨f,_,q,_⟩:=(aE.own _ _ h).1;exact⟨_,_,_,_,_,q⟩
 |fj h=>obtain⟨o,f,z,s,q⟩:=aE.fj _ _ _ h;exact⟨_,_,_,_,_,q⟩
theorem ix{t:TypeId}{x:Operand}{a off:Nat}{cells:List Value}{v:Value}(an:o.op=.load t x)(I:bW l x=some (.pointer (some ⟨a,off,none⟩)))(ax:iI m J a cells)(ap:lS K.P t cells off=some v):c1 K B o n ds l m J v:=by
 intro call aL S H aC aE;unfold cY fU;simp only[an];show zT K.P _ t (a6 S.T H x)=_;rw[ey aC H I];show g2 (AW K.P H t ⟨a,off,none⟩) H=_;obtain⟨e,o',f,z,s,q⟩:=ax.get aE;unfold AW;simp only[q,ap];rfl
theorem iR{P:Program}{t:TypeId}{cells:List Value}{off:Nat}{v:Value}(aN:qR P t=some none)(ap:nth cells off=some v):lS P t cells off=some v:=by
 unfold lS;rw[aN];exact ap
theorem v5{P:Program}{t:TypeId}{cells r:List Value}{off k:Nat}(aN:qR P t=some (some k))(ap:takeN k (nI off cells)=some r):lS P t cells off=some (.agg r.toArray):=by
 unfold lS;rw[aN];simp only[ap]
theorem alc{t:TypeId}{x:Operand}{v:Value}{cells:List Value}(an:o.op=.box t x)(aS:o.dst=some d)(aM:Nat.blt d n=true)(I:bW l x=some v)(av:v.cells.toList=cells)(aa:cells.all eT=true)(h:∀a,eF ⟨n,ds,(d,.pointer (some ⟨a,0,none⟩))::l⟩ ((a,.row cells t)::m) J):iG K B o ⟨n,ds,l⟩ m J eF:=by
 refine iG.Ae aS aM fun S H aC aE=>?_;obtain⟨H1,aD,a5⟩:=aE.alloc cells t;refine⟨_,H1,_,J,fun call aL=>?_,a5,h H.af⟩;unfold cY fU;simp only[an];show FC K.P _ t (a6 S.T H x)=_;rw[ey aC H I];show l8 (vg H t v)=_;unfold vg sO;rw[av,aa,cc,aD];rfl
theorem ic{t:TypeId}{z:Value}{cells:List Value}(an:o.op=.alloc t)(aS:o.dst=some d)(aM:Nat.blt d n=true)(bC:fO K.P t=some z)(au:plain z=true)(av:z.cells.toList=cells)(aa:cells.all eT=true)(h:∀a,eF ⟨n,ds,(d,.pointer (some ⟨a,0,none⟩))::l⟩ ((a,.row cells t)::m) J):iG K B o ⟨n,ds,l⟩ m J eF:=by
 refine iG.Ae aS aM fun S H aC aE=>?_;obtain⟨H1,aD,a5⟩:=aE.alloc cells t;refine⟨_,H1,_,J,fun call aL=>?_,a5,h H.af⟩;unfold cY fU;simp only[an];show NQ K.P _ t (fO K.P t)=_;rw[bC];show(bif plain z then l8 (vg H t z) else none)=_;rw[au,cc];unfold vg sO;rw[av,aa,cc,aD];rfl
theorem jY{t:TypeId}{x y:Operand}{a off k:Nat}{v:Value}{vs cells cells':List Value}{e:TypeId}(an:o.op=.store t x y)(aS:o.dst=none)(I:bW l x=some (.pointer (some ⟨a,off,none⟩)))(ah:bW l y=some v)(aH:eB K.P t=some k)(av:v.cells.toList=vs)(ay:Nat.beq vs.length k=true)(bt:Nat.blt 0 vs.length=true)(aa:vs.all eT=true)(al:gE off cells vs=some cells')(au:dc m a (.row cells e) (.row cells' e) m')(h:eF ⟨n,ds,l⟩ m' J):iG K B o ⟨n,ds,l⟩ m J eF:=by
 refine iG.skip aS fun S H aC aE=>?_;obtain⟨H1,aD,a5⟩:=aE.store au;obtain⟨a',bd,bz,cM⟩:=aE.own _ _ au.mem;have a':H.mem.get a=some (.row cells e false 0 0 false):=a';refine⟨H1,m',J,fun call aL=>?_,a5,h⟩;unfold cY fU;simp only[an];show B9 K.P _ t (a6 S.T H x) (a6 S.T H y)=_;rw[ey aC H I,ey aC H ah];show HE (yX K.P H t (.pointer (some ⟨a,off,none⟩)) v)=_;unfold yX;simp only[aH,av,ay,cc];unfold pW;cases vs with
 |nil=>cases bt
 |cons hr vs=>
  simp only
  have ar:Nat.blt a H.bq=false:=by
   cases q:Nat.blt a H.bq
   ·rfl
   ·have:a<H.bq:=by simpa[Nat.blt,tb] using q
    have:=aE.bq;omega
  rw[ar,dN,a'];simp only[show Nat.ble 0 off=true from kK (dV _),JT,aa,cc,al,aD,dN];rfl
theorem WN{x:Operand}{a:Addr}(an:o.op=.nilCheck x)(I:bW l x=some (.pointer (some a))):c1 K B o n ds l m J (.pointer (some a)):=by
 intro call aL S H aC aE;unfold cY fU;simp only[an];show zW K.P _ (a6 S.T H x)=_;rw[ey aC H I];rfl
def A2 (P:Program)(s:TypeId)(f:Nat):Option Nat:=match P.underlying s with
 |some (.struct fields)=>(match fields[f]? with
  |some fd=>(match eB P fd.type with|some (_+1)=>some fd.offset|_=>none)
  |none=>none)
 |_=>none
theorem OW{s:TypeId}{x:Operand}{f a off k:Nat}(an:o.op=.fieldAddr s x f)(I:bW l x=some (.pointer (some ⟨a,off,none⟩)))(aw:A2 K.P s f=some k):c1 K B o n ds l m J (.pointer (some ⟨a,off+k,none⟩)):=by
 intro call aL S H aC aE;unfold cY fU;simp only[an];show zS K.P _ s f (a6 S.T H x)=_;rw[ey aC H I];show g2 (DO K.P s (.pointer (some ⟨a,off,none⟩)) f) H=_;unfold A2 at aw;unfold DO;simp only
 cases hu:K.P.underlying s with
 |none=>rw[hu] at aw;cases aw
 |some q2=>
  rw[hu] at aw;cases q2 with
  |struct fields=>
   simp only at aw ⊢;cases cn:fields[f]? with
   |none=>rw[cn] at aw;cases aw
   |some fd=>
    rw[cn] at aw;simp only at aw ⊢;cases bC:eB K.P fd.type with
    |none=>rw[bC] at aw;cases aw
    |some z=>
     rw[bC] at aw;cases z with
     |zero=>cases aw
     |succ z=>simp only[b6] at aw;subst aw;rfl
  |_=>cases aw
def DS (P:Program)(s:TypeId)(f:Nat):Option (TypeId×Nat):=match P.underlying s with
 |some (.struct fields)=>(match fields[f]? with
  |some fd=>some (fd.type,fd.offset)
  |none=>none)
 |_=>none
theorem WJ{s t:TypeId}{x:Operand}{f off:Nat}{cs:Array Value}{v:Value}(an:o.op=.field s x f)(I:bW l x=some (.agg cs))(aw:DS K.P s f=some (t,off))(ap:lS K.P t cs.toList off=some v):c1 K B o n ds l m J v:=by
 intro call aL S H aC aE;unfold cY fU;simp only[an];show xP K.P _ f (a6 S.T H x) (K.P.underlying s)=_;rw[ey aC H I];unfold DS at aw;cases hu:K.P.underlying s with
 |none=>rw[hu] at aw;cases aw
 |some q2=>
  rw[hu] at aw;cases q2 with
  |struct fields=>
   simp only at aw;unfold xP;simp only
   cases cn:fields[f]? with
   |none=>rw[cn] at aw;cases aw
   |some fd=>
    rw[cn] at aw;simp only[b6,da] at aw;obtain⟨rfl,rfl⟩:=aw;simp only[ap];rfl
  |_=>cases aw
def AU (P:Program)(t:TypeId):Option Nat:=match P.underlying t with
 |some (.slice e)=>eB P e
 |_=>none
theorem TY{i:Int}{len:Nat}(bt:0<=i)(aa:i<len):sF i len=some i.toNat:=by
 cases i with
 |ofNat n=>
  unfold sF;have:Nat.blt n len=true:=by
   have:n<len:=by simpa using aa
   simpa[Nat.blt,tb] using this
  simp only[this,cc];rfl
 |negSucc n=>exact absurd bt (by simp)
theorem akl{t:TypeId}{x bf:Operand}{a off len cap aj:Nat}{k:IntKind}{i:Int}(an:o.op=.indexAddr t x bf)(I:bW l x=some (.slice (some ⟨a,off,none⟩) len cap))(ak:bW l bf=some (.int k i))(aN:AU K.P t=some aj)(bt:0<=i)(aa:i<len):c1 K B o n ds l m J (.pointer (some ⟨a,off+i.toNat*aj,none⟩)):=by
 intro call aL S H aC aE;unfold cY fU;simp only[an];show xR K.P _ t (a6 S.T H x) (a6 S.T H bf)=_;rw[ey aC H I,ey aC H ak];show g2 (yV K.P t (.slice (some ⟨a,off,none⟩) len cap) (.int k i)) H=_;unfold AU at aN;unfold yV;cases hu:K.P.underlying t with
 |none=>rw[hu] at aN;cases aN
 |some q2=>
  rw[hu] at aN;cases q2 with
  |slice e=>
   simp only at aN ⊢;rw[TY bt aa,aN];rfl
  |_=>cases aN
def isSlice (P:Program)(t:TypeId):Bool:=match P.underlying t with|some (.slice _)=>true|_=>false
def ue (P:Program)(t:TypeId):Bool:=match P.underlying t with|some .string=>true|_=>false
theorem AV{S:aQ}{H:ao}{call:eS}{aL:gU}{c:Call}{b:Builtin}(an:o.op=.call c)(av:c.callee=.builtin b):cY K.P call aL S H o=q4 K.P S H o b c:=by
 unfold cY fU;simp only[an];show lg K.P _ c=_;unfold lg;rw[av]
theorem WL{c:Call}{base:Option Addr}{len cap:Nat}{t:TypeId}(an:o.op=.call c)(av:c.callee=.builtin .len)(aW:il l c.args.toList=some [.slice base len cap])(aN:c.argTypes.toList=[t])(al:isSlice K.P t=true):c1 K B o n ds l m J (.int .i64 len):=by
 intro call aL S H aC aE;rw[AV an av];unfold q4;rw[o9 aC H aW,aN];simp only
 unfold isSlice at al;split at al
 ·rename_i e hu;rw[hu]
 ·cases al
theorem afu{α:Type}(l:List α):zE l=some l.length:=by
 cases h:zE l with
 |none=>
  unfold zE at h;cases ai:isNil (nI 256 l) with
  |true=>rw[ai] at h;cases h
  |false=>
   rw[ai,dN] at h;split at h
   ·cases h
   ·split at h<;>cases h
 |some k=>rw[Ud h]
theorem aks{c:Call}{s:ByteArray}{t:TypeId}(an:o.op=.call c)(av:c.callee=.builtin .len)(aW:il l c.args.toList=some [.string s])(aN:c.argTypes.toList=[t])(al:ue K.P t=true):c1 K B o n ds l m J (.int .i64 s.data.toList.length):=by
 intro call aL S H aC aE;rw[AV an av];unfold q4;rw[o9 aC H aW,aN];simp only
 unfold ue at al;split at al
 ·rename_i hu;rw[hu];simp only[afu,sg];rfl
 ·cases al
theorem ako{t:TypeId}{x bf:Operand}{s:ByteArray}{k:IntKind}{i:Int}{b:UInt8}(an:o.op=.index t x bf)(I:bW l x=some (.string s))(ak:bW l bf=some (.int k i))(aN:ue K.P t=true)(bt:0<=i)(ai:s.data.toList[i.toNat]?=some b):c1 K B o n ds l m J (.int .u8 b.toNat):=by
 intro call aL S H aC aE;unfold cY fU;simp only[an];show xQ K.P _ (a6 S.T H x) (a6 S.T H bf) (K.P.underlying t)=_;rw[ey aC H I,ey aC H ak];unfold ue at aN;split at aN
 ·rename_i hu;rw[hu];unfold xQ;simp only
  cases i with
  |ofNat j=>
   simp only[kk];rw[show s.data.toList[j]?=some b from ai];simp only[sg];rfl
  |negSucc j=>exact absurd bt (by simp)
 ·cases aN
theorem aki{x:Operand}{bf:Nat}{vs:Array Value}{v:Value}(an:o.op=.extract x bf)(I:bW l x=some (.tuple vs))(ap:nth vs.toList bf=some v):c1 K B o n ds l m J v:=by
 intro call aL S H aC aE;unfold cY fU;simp only[an];show zR K.P _ bf (a6 S.T H x)=_;rw[ey aC H I];show g2 (nth vs.toList bf) H=_;rw[ap];rfl
end
def a3(K:eN)(B:dO)(ops:List Oper)(a8:List iW)(F:List (FuncId×List Value))(E:b9)(m:aI)(J:aA)(bD:b9->aI->aA->Prop):Prop:=
 ∀S H,Sat E S->Inv K.g0 B J m H->∃bc:eS,(∀f args H r,bc f args H=some r->(f,args)∉F)/\∃aO H' E' m' ag,
  (∀ir:eS,(∀f args H r,bc f args H=some r->ir f args H=some r)->eH K.P (j' K.Q ir) (hj K.Q jz ir).aL ops a8 S H=some (.ok aO H'))/\Sat E' aO/\Inv K.g0 B ag m' H'/\bD E' m' ag
section
variable {K:eN}{B:dO}{ops:List Oper}{a8:List iW}{F:List (FuncId×List Value)}{E:b9}{m m':aI}{J:aA}{o:Oper}{bD:b9->aI->aA->Prop}{cx:Exit->b9->aI->aA->Prop}
variable {n:Nat}{ds:eQ}{l:List (Nat×Value)}{d i:Nat}
theorem ae.draw{id:Nat}{a:Array Oper}(ay:ID a.toList=none)(g':DI a.toList=true)(au:Jb a.toList=a8)(h:a3 K B a.toList a8 [] E m J fun E m J=>cx .normal E m J):ae K B (.region id a true) E m J cx:=by
 intro S H aC aE;obtain⟨bc,_,aO,H',E',m',ag,aa,ab,aK,bh⟩:=h S H aC aE;refine⟨.normal,aO,H',E',m',ag,dM.vX K.dC.qm jz bc ?_,ab,aK,bh⟩;show sV (w4 K.P (hj K.Q jz bc).call (hj K.Q jz bc).aL a.toList S H)=_;rw[JV];unfold w4;rw[ay];show sV (yU K.P (j' K.Q bc) (hj K.Q jz bc).aL a.toList S H)=_;unfold yU;rw[g',cc,au,aa bc (fun _ _ _ _ q=>q)];rfl
theorem a3.nil(h:bD E m J):a3 K B ops [] F E m J bD:=fun S H aC aE=>⟨oK,(fun _ _ _ _ q=>by cases q),S,H,E,m,J,fun _ _=>rfl,aC,aE,h⟩
theorem a3.val{v:Value}(ak:nth ops i=some o)(ar:o.guard=none)(aS:o.dst=some d)(aM:Nat.blt d n=true)(ap:c1 K B o n ds l m J v)(h:a3 K B ops a8 F ⟨n,ds,(d,v)::l⟩ m J bD):a3 K B ops (.val i::a8) F ⟨n,ds,l⟩ m J bD:=by
 intro S H aC aE;obtain⟨ba,s1,s2⟩:=aC.put (dst:=some d) aM v;obtain⟨bc,dS,aO,H',E',m',ag,aa,ab,aK,bh⟩:=h ba H s2 aE;refine⟨bc,dS,aO,H',E',m',ag,fun ir q=>?_,ab,aK,bh⟩;show kW ops i (pG K.P _ _ ops S H (eH K.P _ _ ops a8))=_;unfold kW;rw[ak];show pG K.P _ _ ops S H (eH K.P _ _ ops a8) o=_;unfold pG fW;rw[ar];show F6 S H o.dst (eH K.P _ _ ops a8) (cY K.P _ _ S H o)=_;rw[ap _ _ S H aC aE,aS];show(bif Nat.beq H.af H.af then qz (eH K.P _ _ ops a8) H (S.put (some d) v) else none)=_;rw[hX,cc,s1];exact aa ir q
theorem a3.f'{b:fa}{p:cI}{ef:iy}(ak:nth ops i=some o)(ar:o.guard=none)(aS:o.dst=some d)(aM:Nat.blt d n=true)(aW:∀S,Sat ⟨n,ds,l⟩ S->mg K.P S.T o.op=some (b,ef))(au:∀H a,H.mem.get a=some b->p.at (fun _=>True) H a)(Te:∀c e r z,p≠.opn c e r z)
 (h:∀a,a3 K B ops a8 F ⟨n,ds,(d,ef.at a)::l⟩ ((a,p)::m) J bD):a3 K B ops (.f' i::a8) F ⟨n,ds,l⟩ m J bD:=by
 intro S H aC aE;obtain⟨H1,aD⟩:=aE.wf.new b;have ju:p.at B.w6 H1 H.af:=by
  have q:=au H1 H.af (by rw[(ao.n1 aD).2.2.2.2.2,aF rfl]);cases p with
  |row=>exact q
  |map=>exact q
  |loop=>exact q
  |gh=>exact q
  |opn c e r z=>exact absurd rfl (Te c e r z)
 have Eg:=aE.new aD ju (by cases p with|opn c e r z=>exact absurd rfl (Te c e r z)|_=>rfl);obtain⟨ba,s1,s2⟩:=aC.put (dst:=some d) aM (ef.at H.af);obtain⟨bc,dS,aO,H',E',m',ag,aa,ab,aK,bh⟩:=h H.af ba H1 s2 Eg;refine⟨bc,dS,aO,H',E',m',ag,fun ir q=>?_,ab,aK,bh⟩;show kW ops i (C9 K.P ops S H (eH K.P _ _ ops a8))=_;unfold kW;rw[ak];show C9 K.P ops S H (eH K.P _ _ ops a8) o=_;unfold C9 fW;rw[ar];show Kq S H o.dst (eH K.P _ _ ops a8) (mg K.P S.T o.op)=_;rw[aW S aC];show Kr S o.dst (eH K.P _ _ ops a8) ef (H.new b)=_;rw[aD,aS];show qz (eH K.P _ _ ops a8) H1 (S.put (some d) (ef.at H.af))=_;rw[s1];exact aa ir q
theorem I0{S:aQ}(aC:Sat ⟨n,ds,l⟩ S){x:Operand}{v:Value}(h:bW l x=some v):py S.T x=some v:=by
 cases x with
 |tmp t=>exact aC.get t v h
 |const c=>exact h
 |global g=>cases h
 |func f=>exact h
theorem a3.box{t:TypeId}{x:Operand}{v:Value}{cells:List Value}(ak:nth ops i=some o)(ar:o.guard=none)(an:o.op=.box t x)(aS:o.dst=some d)(aM:Nat.blt d n=true)(I:bW l x=some v)(av:v.cells.toList=cells)(aa:cells.all eT=true)
 (h:∀a,a3 K B ops a8 F ⟨n,ds,(d,.pointer (some ⟨a,0,none⟩))::l⟩ ((a,.row cells t)::m) J bD):a3 K B ops (.f' i::a8) F ⟨n,ds,l⟩ m J bD:=by
 refine a3.f' (b:=.row cells t false 0 0 false) (p:=.row cells t) (ef:=.ptr) ak ar aS aM (fun S aC=>?_) (fun H a q=>q) (fun c e r z q=>by cases q) h;rw[an];simp only[mg];rw[I0 aC I];simp only[wI,av,aa,cc]
theorem a3.alloc{t:TypeId}{z:Value}{cells:List Value}(ak:nth ops i=some o)(ar:o.guard=none)(an:o.op=.alloc t)(aS:o.dst=some d)(aM:Nat.blt d n=true)(bC:fO K.P t=some z)(au:plain z=true)(av:z.cells.toList=cells)(aa:cells.all eT=true)
 (h:∀a,a3 K B ops a8 F ⟨n,ds,(d,.pointer (some ⟨a,0,none⟩))::l⟩ ((a,.row cells t)::m) J bD):a3 K B ops (.f' i::a8) F ⟨n,ds,l⟩ m J bD:=by
 refine a3.f' (b:=.row cells t false 0 0 false) (p:=.row cells t) (ef:=.ptr) ak ar aS aM (fun S aC=>?_) (fun H a q=>q) (fun c e r z q=>by cases q) h;rw[an];simp only[mg,bC,au,cc,wI,av,aa]
theorem a3.cv(ak:nth ops i=some o)(ar:o.guard=none)(h:∀S H,Sat E S->Inv K.g0 B J m H->∃aO H' E' m' ag,(∀call aL,qs S H o.dst (cY K.P call aL S H o)=some (.ok aO H'))/\Sat E' aO/\Inv K.g0 B ag m' H'/\a3 K B ops a8 F E' m' ag bD):a3 K B ops (.cv i::a8) F E m J bD:=by
 intro S H aC aE;obtain⟨ba,H1,iX,ct,cN,a',bd,bz,cM⟩:=h S H aC aE;obtain⟨bc,dS,aO,H',E',m',ag,aa,ab,aK,bh⟩:=cM ba H1 bd bz;refine⟨bc,dS,aO,H',E',m',ag,fun ir q=>?_,ab,aK,bh⟩;show kW ops i (fun o=>ls (eH K.P _ _ ops a8) (one K.P _ _ ops S H o))=_;unfold kW;rw[ak];show ls (eH K.P _ _ ops a8) (one K.P _ _ ops S H o)=_;unfold one fW;rw[ar];show ls (eH K.P _ _ ops a8) (qs S H o.dst (cY K.P _ _ S H o))=_;rw[a'];exact aa ir q
theorem a3.ij(ak:nth ops i=some o)(ar:o.guard=none)(h:iG K B o E m J fun E m J=>a3 K B ops a8 F E m J bD):a3 K B ops (.cv i::a8) F E m J bD:=a3.cv ak ar h
theorem a3.Zd{v:Value}(ak:nth ops i=some o)(ar:o.guard=none)(aS:o.dst=some d)(aM:Nat.blt d n=true)(ap:c1 K B o n ds l m J v)(h:a3 K B ops a8 F ⟨n,ds,(d,v)::l⟩ m J bD):a3 K B ops (.cv i::a8) F ⟨n,ds,l⟩ m J bD:=by
 refine a3.cv ak ar fun S H aC aE=>?_;obtain⟨ba,s1,s2⟩:=aC.put (dst:=some d) aM v;refine⟨ba,H,_,m,J,fun call aL=>?_,s2,aE,h⟩;rw[ap _ _ S H aC aE,aS];show n8 H (S.put (some d) v)=_;rw[s1];rfl
theorem a3.Y3{c:Call}{x:Operand}{f:FuncId}{first cap:Array Value}{args bJ:List Value}{a4 b2:aI}{dT:Value->aI->aA->Prop}
 (ak:nth ops i=some o)(ar:o.guard=none)(an:o.op=.call c)(aS:o.dst=some d)(aM:Nat.blt d n=true)(av:c.callee=.value x)(I:bW l x=some (.func (.func f) first cap))(aW:il l c.args.toList=some args)(has:(first.toList++args)++cap.toList=bJ)
 (aw:(f,bJ)∉F)(au:(a4++b2).Perm m)(gj:vS a4)(fz:Fn K f bJ a4 J dT)(h:∀v m' ag,J.le ag->dT v m' ag->a3 K B ops a8 ((f,bJ)::F) ⟨n,ds,(d,v)::l⟩ (m'++b2) ag bD):a3 K B ops (.cv i::a8) F ⟨n,ds,l⟩ m J bD:=by
 intro S H aC aE;obtain⟨v,H',ag,m',a',bd,bz⟩:=fz H (aE.enter au gj);obtain⟨cM,ha⟩:=aE.leave au bd;obtain⟨ba,s1,s2⟩:=aC.put (dst:=some d) aM v;obtain⟨bc,dS,aO,Ao,E',lZ,wu,aa,ab,aK,bh⟩:=h v m' ag ha bz ba H' s2 cM
 classical
 refine⟨fun dj cD H1=>if dj=f/\cD=bJ then mL f bJ H (.returned v,H') dj cD H1 else bc dj cD H1,fun dj cD H1 r q=>?_,aO,Ao,E',lZ,wu,fun ir q=>?_,ab,aK,bh⟩
 ·simp only at q;split at q
  ·rename_i e;rw[e.1,e.2];exact aw
  ·exact fun b7=>dS dj cD H1 r q (XL _ b7)
 ·have hP:ir f bJ H=some (.returned v,H'):=q f bJ H _ (by simp only[and_self,aF];unfold mL;rw[aF ⟨rfl,rfl,rfl⟩]);have ES:∀dj cD H1 r,bc dj cD H1=some r->ir dj cD H1=some r:=fun dj cD H1 r ax=>q dj cD H1 r (by
   simp only
   rw[aq (fun e=>dS dj cD H1 r ax (by rw[e.1,e.2];exact List.mem_cons_self))];exact ax)
  show kW ops i (fun o=>ls (eH K.P _ _ ops a8) (one K.P _ _ ops S H o))=_;unfold kW;rw[ak];show ls (eH K.P _ _ ops a8) (one K.P _ _ ops S H o)=_;unfold one fW;rw[ar];show ls (eH K.P _ _ ops a8) (qs S H o.dst (cY K.P _ _ S H o))=_;have he:cY K.P (j' K.Q ir) (hj K.Q jz ir).aL S H o=some (.val v H'):=by
   unfold cY fU;simp only[an];show lg K.P _ c=_;unfold lg;rw[av];show nh K.P _ _ S.T H c=_;unfold nh;rw[o9 aC H aW];simp only[av];rw[ey aC H I];simp only
   show(match mj K.P H (.func f) (first.toList++args) cap.toList with|some (f,bJ)=>q3 (j' K.Q _ f bJ H)|none=>none)=_
   unfold mj;simp only
   rw[has,AK a' hP];rfl
  rw[he,aS];show ls (eH K.P _ _ ops a8) (n8 H' (S.put (some d) v))=_;rw[s1];exact aa ir ES
theorem a3.call{c:Call}{x:Operand}{f:FuncId}{first cap:Array Value}{args bJ:List Value}{a4 b2:aI}{dT:Value->aI->aA->Prop}
 (ak:nth ops i=some o)(ar:o.guard=none)(an:o.op=.call c)(aS:o.dst=some d)(aM:Nat.blt d n=true)(av:c.callee=.value x)(I:bW l x=some (.func (.func f) first cap))(aW:il l c.args.toList=some args)(has:(first.toList++args)++cap.toList=bJ)
 (aw:F.all (fun g=>!Nat.beq g.1 f)=true)(au:(a4++b2).Perm m)(gj:vS a4)(fz:Fn K f bJ a4 J dT)(h:∀v m' ag,J.le ag->dT v m' ag->a3 K B ops a8 ((f,bJ)::F) ⟨n,ds,(d,v)::l⟩ (m'++b2) ag bD):a3 K B ops (.cv i::a8) F ⟨n,ds,l⟩ m J bD:=
 a3.Y3 ak ar an aS aM av I aW has (fun q=>by
  rw[qK] at aw;have:=aw (f,bJ) q;simp at this) au gj fz h
def kH(K:eN)(B:dO)(ops:List Oper)(n:Nat)(ds:eQ)(l:List (Nat×Value))(m:aI)(J:aA)(i:Nat):Prop:=
 ∀call aL S H,Sat ⟨n,ds,l⟩ S->Inv K.g0 B J m H->u2 K.P call aL ops S H i=true
theorem kH.val{v u:Value}(ak:nth ops i=some o)(ar:o.guard=none)(aS:o.dst=some d)(ap:c1 K B o n ds l m J v)(hu:look l d=some u)(he:hA 8 v u=true):kH K B ops n ds l m J i:=by
 intro call aL S H aC aE;unfold u2;rw[ak];show G6 K.P call aL ops S H o (fW ops S.T o)=true;unfold fW;rw[ar];show G7 H.af S.T o.dst (cY K.P call aL S H o)=true;rw[ap _ _ S H aC aE,aS];show(Nat.beq H.af H.af&&(match S.T.get d with|some u=>hA 8 v u|none=>false))=true
 rw[hX,aC.get d u hu];simpa using he
def uG(K:eN)(B:dO)(ops:List Oper)(n:Nat)(ds:eQ)(l:List (Nat×Value))(m:aI)(J:aA):List Nat->Prop
 |[]=>True
 |i::r=>kH K B ops n ds l m J i/\uG K B ops n ds l m J r
theorem uG.all{call:eS}{aL:gU}{S:aQ}{H:ao}(aC:Sat ⟨n,ds,l⟩ S)(aE:Inv K.g0 B J m H):∀{is:List Nat},uG K B ops n ds l m J is->is.all (u2 K.P call aL ops S H)=true:=by
 intro is;induction is with
 |nil=>intro _;rfl
 |cons i r aG=>intro h;rw[CO,h.1 call aL S H aC aE,aG h.2];rfl
theorem a3.c9{is:List Nat}(av:uG K B ops n ds l m J is)(h:a3 K B ops a8 F ⟨n,ds,l⟩ m J bD):a3 K B ops (.c9 is::a8) F ⟨n,ds,l⟩ m J bD:=by
 intro S H aC aE;obtain⟨bc,dS,aO,H',E',m',ag,aa,ab,aK,bh⟩:=h S H aC aE;refine⟨bc,dS,aO,H',E',m',ag,fun ir q=>?_,ab,aK,bh⟩;show Dx K.P _ _ ops S H (eH K.P _ _ ops a8) is=_;unfold Dx;rw[uG.all aC aE av,cc];exact aa ir q
theorem WX(k:IntKind)(a:Int)(n:Nat):hA (n+1) (.int k a) (.int k a)=true:=by
 show(sG k k&&pr a a)=true;rw[Iz,BK];simp
end
theorem WA{α:Type}:∀(l:List α) (i:Nat) (T:aX α),(∀k,k<i->∃v,T.get k=some v)->∃dP,wh l i T=some dP:=by
 intro l;induction l with
 |nil=>intro i T _;exact⟨T,rfl⟩
 |cons x l aG=>
  intro i T h;obtain⟨o3,dK⟩:=aX.Ci x T i h;obtain⟨dP,e⟩:=aG (i+1) o3 fun k aH=>by
   rw[aX.get_put dK];split
   ·exact⟨_,rfl⟩
   ·exact h k (by omega)
  refine⟨dP,?_⟩;simp only[wh,aX.set];rw[dK];exact e
theorem dB{P:Program}{f:FuncId}{fn:Func}(h:P.funcs[f]?=some fn):(A3 P).get f=some fn:=by
 obtain⟨T,dK⟩:=WA P.funcs.toList 0 .leaf (fun k aH=>absurd aH (by omega));unfold A3;rw[dK];simp only
 rw[OQ dK];have cP:f<P.funcs.size:=(Pp.1 h).1;rw[aF (by simpa using cP)];simpa using h
inductive Kg (J:aA) (aj:Nat):Value->Nat->List Value->Prop
 |nil:Kg J aj (.slice none 0 0) 0 []
 |zero (a off cap:Nat):Kg J aj (.slice (some ⟨a,off,none⟩) 0 cap) 0 []
 |row {a off len cap:Nat} {cells cs:List Value} {e:TypeId}:J a=some (cells,e)->(cells.drop off).take (len*aj)=cs->cs.length=len*aj->Kg J aj (.slice (some ⟨a,off,none⟩) len cap) len cs
section
variable {K:eN}{B:dO}{o:Oper}{n:Nat}{ds:eQ}{l:List (Nat×Value)}{m m':aI}{J:aA}{eF:b9->aI->aA->Prop}{d:Nat}
theorem eC{P:Program}{α β:Type}{s:Sem α}{a:α}{f:α->Sem β}(h:fI P s=some a):fI P (s >>= f)=fI P (f a):=by
 show fI P (Sem.bind s f)=_;induction s with
 |pure b=>simp only[fI,b6] at h;subst h;rfl
 |program k aG=>exact aG P (by simpa[fI] using h)
 |mark m k aG=>exact aG (by simpa[fI] using h)
 |_=>simp[fI] at h
theorem AY{P:Program}{t:TypeId}{q2:TypeDesc}(h:P.underlying t=some q2):fI P (underlying t)=some q2:=by
 have:fI P (underlying t)=fI P (match P.underlying t with|some d=>pure d|none=>stuck "no such type"):=by
  rfl
 rw[this,h];rfl
theorem lx{E:b9}{S:aQ}(aC:Sat E S)(H:ao){x:Operand}{v:Value}(h:bW E.l x=some v):rH S.T H x=v:=by
 unfold rH;rw[ey aC H h]
theorem ahN{x:Operand}{a v:Value}{S:aQ}{H:ao}(aC:Sat ⟨n,ds,l⟩ S)(MS:o.op.operands.toList=[x])(I:bW l x=some a)(aW:plain a=true)(he:fI K.P (execOp (rH S.T H) o)=some (.value v))(ap:plain v=true):gH K.P S.T H o=some (.val v H):=by
 unfold gH;rw[MS];have:fQ S.T H [x]=some [a]:=by simp only[fQ];rw[ey aC H I]
 rw[this];simp only[CO,List.all_nil,aW,wm,cc,he,ap]
theorem uq{x y:Operand}{a b v:Value}{S:aQ}{H:ao}(aC:Sat ⟨n,ds,l⟩ S)(MS:o.op.operands.toList=[x,y])(I:bW l x=some a)(ah:bW l y=some b)(aW:plain a=true)(ai:plain b=true)(he:fI K.P (execOp (rH S.T H) o)=some (.value v))(ap:plain v=true):gH K.P S.T H o=some (.val v H):=by
 unfold gH;rw[MS];have:fQ S.T H [x,y]=some [a,b]:=by simp only[fQ];rw[ey aC H I,ey aC H ah]
 rw[this];simp only[CO,List.all_nil,aW,ai,wm,cc,he,ap]
theorem WO{t:TypeId}{x:Operand}{b:Bool}(an:o.op=.unOp .not t x)(I:bW l x=some (.bool b)):c1 K B o n ds l m J (.bool (!b)):=by
 intro call aL S H aC aE;unfold cY fU;simp only[an];show gH K.P S.T H o=_;refine ahN aC (by rw[an];rfl) I rfl ?_ rfl;unfold execOp;simp only[an];rw[lx aC H I];rfl
theorem akt{t:TypeId}{x:Operand}{p:Prop}[Decidable p](an:o.op=.unOp .not t x)(I:bW l x=some (.bool (decide p))):c1 K B o n ds l m J (.bool (decide (¬p))):=by
 have:=WO (K:=K) (B:=B) (n:=n) (ds:=ds) (m:=m) (J:=J) an I;rwa [show(!decide p)=decide (¬p) by simp] at this
theorem QF(a b:List UInt8):((⟨⟨a⟩⟩:ByteArray).toList==(⟨⟨b⟩⟩:ByteArray).toList)=decide (a=b):=by
 rw[ByteArray.toList_eq,ByteArray.toList_eq,oc];simp
def isInt (P:Program)(s d:TypeId):Option IntKind:=match P.underlying s,P.underlying d with
 |some _,some (.int k)=>some k
 |_,_=>none
theorem OV{s t:TypeId}{x:Operand}{k fw:IntKind}{a b:Int}(an:o.op=.convert s t x)(I:bW l x=some (.int fw a))(aN:isInt K.P s t=some k)(hw:k.wrap a=b):c1 K B o n ds l m J (.int k b):=by
 intro call aL S H aC aE;unfold cY fU;simp only[an];show v0 K.P _ s t (a6 S.T H x)=_;rw[ey aC H I];unfold v0;simp only
 unfold isInt at aN;split at aN
 ·rename_i aa ab;rw[aa,ab];injection aN with aN;subst aN
  simp only[sg,CA,hw];rfl
 ·cases aN
def Fy (P:Program)(t:TypeId):Bool:=match P.underlying t with
 |some (.interface _)=>false
 |some _=>true
 |none=>false
theorem akk{t:TypeId}{x:Operand}{v:Value}(an:o.op=.makeInterface t x)(I:bW l x=some v)(aN:Fy K.P t=true):c1 K B o n ds l m J (.iface t v):=by
 intro call aL S H aC aE;unfold cY fU;simp only[an];show zV K.P _ t (a6 S.T H x) (K.P.underlying t)=_;rw[ey aC H I];unfold Fy at aN;cases hu:K.P.underlying t with
 |none=>rw[hu] at aN;cases aN
 |some q2=>rw[hu] at aN;cases q2<;>first|rfl|cases aN
theorem akj{f:FuncId}{a b:Array Operand}{va WV:List Value}(an:o.op=.makeFunc (.func f) a b)(aW:il l a.toList=some va)(ai:il l b.toList=some WV):c1 K B o n ds l m J (.func (.func f) va.toArray WV.toArray):=by
 intro call aL S H aC aE;unfold cY fU;simp only[an];show zU K.P _ (.func f) (fQ S.T H a.toList) (fQ S.T H b.toList)=_;rw[o9 aC H aW,o9 aC H ai];rfl
def sb (l:List (Nat×Value)):List (Nat×Operand)->Option (List (Nat×Value))
 |[]=>some []
 |(i,x)::r=>match bW l x with
  |some v=>(match sb l r with|some vs=>some ((i,v)::vs)|none=>none)
  |none=>none
theorem Rx{E:b9}{S:aQ}(aC:Sat E S)(H:ao):∀{xs:List (Nat×Operand)} {vs:List (Nat×Value)},sb E.l xs=some vs->kX S.T H xs=some vs:=by
 intro xs;induction xs with
 |nil=>intro vs h;exact h
 |cons x r aG=>
  obtain⟨i,x⟩:=x;intro vs h;simp only[sb] at h;simp only[kX];cases I:bW E.l x with
  |none=>rw[I] at h;cases h
  |some v=>
   rw[I] at h;simp only at h;rw[ey aC H I];simp only;cases ax:sb E.l r with
   |none=>rw[ax] at h;cases h
   |some ws=>rw[ax] at h;simp only at h;rw[aG ax];exact h
def Dl (P:Program)(t:TypeId):Option (Sum (List (Nat×Nat)) Nat×List Value):=match fO P t,P.underlying t with
 |some z,some (.struct fields)=>bif plain z then(match places P fields.toList with|some dx=>some (.inl dx,z.cells.toList)|none=>none) else none
 |some z,some (.array _ elem)=>bif plain z then(match eB P elem with|some aj=>some (.inr aj,z.cells.toList)|none=>none) else none
 |_,_=>none
def placeOf:Sum (List (Nat×Nat)) Nat->Nat->Option (Nat×Nat)
 |.inl dx=>nth dx
 |.inr aj=>fun i=>some (i*aj,aj)
theorem akg{t:TypeId}{dx:Array (Nat×Operand)}{vs:List (Nat×Value)}{pl:Sum (List (Nat×Nat)) Nat}{z cells:List Value}(an:o.op=.build t dx)(au:sb l dx.toList=some vs)(aN:Dl K.P t=some (pl,z))(aw:mQ (placeOf pl) z vs=some cells):c1 K B o n ds l m J (.agg cells.toArray):=by
 intro call aL S H aC aE;unfold cY fU;simp only[an];show zQ K.P _ t (kX S.T H dx.toList)=_;rw[Rx aC H au];show g2 (DL K.P t vs) H=_;unfold Dl at aN;unfold DL;cases bC:fO K.P t with
 |none=>rw[bC] at aN;cases aN
 |some Ai=>
  rw[bC] at aN;cases hu:K.P.underlying t with
  |none=>rw[hu] at aN;cases aN
  |some q2=>
   rw[hu] at aN;cases q2 with
   |struct fields=>
    simp only at aN ⊢;cases EO:plain Ai with
    |false=>rw[EO] at aN;cases aN
    |true=>
     rw[EO,cc] at aN;rw[cc];cases cn:places K.P fields.toList with
     |none=>rw[cn] at aN;cases aN
     |some fq=>
      rw[cn] at aN;simp only[b6,da] at aN;obtain⟨rfl,rfl⟩:=aN;have aw:mQ (nth fq) Ai.cells.toList vs=some cells:=aw;simp only[aw];rfl
   |array k elem=>
    simp only at aN ⊢;cases EO:plain Ai with
    |false=>rw[EO] at aN;cases aN
    |true=>
     rw[EO,cc] at aN;rw[cc];cases cn:eB K.P elem with
     |none=>rw[cn] at aN;cases aN
     |some aj=>
      rw[cn] at aN;simp only[b6,da] at aN;obtain⟨rfl,rfl⟩:=aN;have aw:mQ (fun i=>some (i*aj,aj)) Ai.cells.toList vs=some cells:=aw;simp only[aw];rfl
   |_=>cases aN
def wM (P:Program)(t:TypeId):Option (Nat×TypeId×Nat):=match P.underlying t with
 |some (.array len elem)=>(match eB P elem with|some aj=>some (len,elem,aj)|none=>none)
 |_=>none
theorem Qx{P:Program}{t elem:TypeId}{len aj:Nat}(h:wM P t=some (len,elem,aj)):P.underlying t=some (.array len elem)/\eB P elem=some aj:=by
 unfold wM at h;split at h
 ·rename_i aa;split at h
  ·rename_i ab;simp only[b6,da] at h;obtain⟨rfl,rfl,rfl⟩:=h;exact⟨aa,ab⟩
  ·cases h
 ·cases h
theorem akm{t elem:TypeId}{x bf:Operand}{a off len aj:Nat}{k:IntKind}{i:Int}(an:o.op=.indexAddr t x bf)(I:bW l x=some (.pointer (some ⟨a,off,none⟩)))(ak:bW l bf=some (.int k i))(aN:wM K.P t=some (len,elem,aj))(bt:0<=i)(aa:i<len):c1 K B o n ds l m J (.pointer (some ⟨a,off+i.toNat*aj,none⟩)):=by
 obtain⟨hu,bC⟩:=Qx aN;intro call aL S H aC aE;unfold cY fU;simp only[an];show xR K.P _ t (a6 S.T H x) (a6 S.T H bf)=_;rw[ey aC H I,ey aC H ak];show g2 (yV K.P t (.pointer (some ⟨a,off,none⟩)) (.int k i)) H=_;unfold yV;simp only[hu,TY bt aa,bC];rfl
theorem Yw{op:BinOp}{t eV:TypeId}{x y:Operand}{a b:Value}{r:Bool}{S:aQ}{H:ao}{call:eS}{aL:gU}(an:o.op=.binOp op t x y eV)(I:a6 S.T H x=some a)(ah:a6 S.T H y=some b)(ak:∀k i,a≠.int k i)(au:gH K.P S.T H o=none)(he:vZ K.P ⟨call,aL,S,H,o⟩ t a b op=some (.val (.bool r) H)):cY K.P call aL S H o=some (.val (.bool r) H):=by
 unfold cY fU;simp only[an];show nr K.P _ op t (a6 S.T H x) (a6 S.T H y)=_;rw[I,ah];have:nr K.P ⟨call,aL,S,H,o⟩ op t (some a) (some b)=sP K.P ⟨call,aL,S,H,o⟩ op t a b:=by
  cases a<;>first|rfl|exact absurd rfl (ak _ _)
 rw[this];unfold sP;show orElse (gH K.P S.T H o) _=_;rw[au];exact he
theorem akw{op:BinOp}{t eV:TypeId}{x y:Operand}{b:Option Addr}{len cap:Nat}(an:o.op=.binOp .eql t x y eV)(I:bW l x=some (.slice b len cap))(ah:bW l y=some (.slice none 0 0))(aN:isSlice K.P t=true):c1 K B o n ds l m J (.bool b.isNone):=by
 intro call aL S H aC aE;unfold isSlice at aN;split at aN
 ·rename_i e hu;cases b with
  |none=>
   unfold cY fU;simp only[an];show nr K.P _ .eql t (a6 S.T H x) (a6 S.T H y)=_;rw[ey aC H I,ey aC H ah];show orElse (gH K.P S.T H o) _=_;have:gH K.P S.T H o=some (.val (.bool true) H):=by
    refine uq aC (by rw[an];rfl) I ah rfl rfl ?_ rfl;unfold execOp;simp only[an];rw[lx aC H I,lx aC H ah];rw[eC (a:=.bool true)]
    ·rfl
    rw[eC (a:=()) (by rfl)];have ai:binOp .eql t (.slice none len cap) (.slice none 0 0)=(do pure (.bool (<-Op.equal t (.slice none len cap) (.slice none 0 0)))):=by simp[binOp]
    rw[ai,eC (a:=true)]
    ·rfl
    show fI K.P (Op.equalIn (9999+1) t (.slice none len cap) (.slice none 0 0))=_;unfold Op.equalIn;rw[eC (AY hu)];rfl
   rw[this];rfl
  |some a=>
   refine Yw an (ey aC H I) (ey aC H ah) (fun _ _ q=>by cases q) ?_ ?_
   ·unfold gH;rw[an];have:fQ S.T H (Op.binOp BinOp.eql t x y eV).operands.toList=some [.slice (some a) len cap,.slice none 0 0]:=by
     show fQ S.T H [x,y]=_;simp only[fQ];rw[ey aC H I,ey aC H ah]
    rw[this];rfl
   ·unfold vZ w5;simp only[hu];rfl
 ·cases aN
end
end
end Go.Opn

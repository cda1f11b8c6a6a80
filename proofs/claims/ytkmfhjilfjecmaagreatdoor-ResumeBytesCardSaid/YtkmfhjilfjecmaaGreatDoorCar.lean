/- A part of the proof of ResumeBytes. -/
import Derived.Test.YtkmfhjilfjecmaaGreatDoorCaq
import Derived.Laws.Strings
set_option linter.unusedVariables false
set_option linter.unusedSimpArgs false
namespace Go.Opn
noncomputable section
open Go.Cre Go.RowKit
theorem tM{α:Type}(n:Int)(k:Int->α):rp n k=k n:=by
 cases n with
 |ofNat m=>cases m<;>rfl
 |negSucc m=>cases m<;>rfl
theorem ED(a b:Int):qv a b=decide (a<b):=by
 cases a with
 |ofNat m=>cases b with
  |ofNat n=>simp only[qv];rw[qT];simp
  |negSucc n=>simp only[qv];rw[qT];simp;omega
 |negSucc m=>cases b with
  |ofNat n=>simp only[qv];rw[qT];simp;omega
  |negSucc n=>simp only[qv];rw[qT];simp;omega
theorem EC(a b:Int):qu a b=decide (a=b):=by
 cases a with
 |ofNat m=>cases b with
  |ofNat n=>simp only[qu];rw[qT];simp;omega
  |negSucc n=>simp only[qu];rw[qT];simp
 |negSucc m=>cases b with
  |ofNat n=>simp only[qu];rw[qT];simp
  |negSucc n=>simp only[qu];rw[qT];simp
theorem Ls(k:IntKind):uw k k=true:=by cases k<;>rfl
theorem wrap_i64{n:Int}(aa:-9223372036854775808<=n)(ae:n<=9223372036854775807):IntKind.i64.wrap n=n:=by
 unfold IntKind.wrap IntKind.signed IntKind.bits;simp only[Fy,GB];split<;>omega
theorem zU(H:aA)(b:Bool):yh H b=some (.val (.bool b) H):=by cases b<;>rfl
section
variable {K:eE}{B:dV}{o:Oper}{n:Nat}{ds:e7}{l:List (Nat×Value)}{m m':aN}{J:aH}{ey:cf->aN->aH->Prop}{d:Nat}
def dm(K:eE)(B:dV)(o:Oper)(n:Nat)(ds:e7)(l:List (Nat×Value))(m:aN)(J:aH)(v:Value):Prop:=∀call aR S H,Sat ⟨n,ds,l⟩ S->Inv K.g0 B J m H->cJ K.P call aR S H o=some (.val v H)
theorem apv{x:Operand}{v:Value}(ar:o.op=.move x)(U:b6 l x=some v):dm K B o n ds l m J v:=by
 intro call aR S H ax aJ;unfold cJ fe;simp only[ar];show fZ (bj S.T H x) H=_;rw[dy ax H U];rfl
theorem apf{x:Operand}{v:Value}(ar:o.op=.assign x)(U:b6 l x=some v):dm K B o n ds l m J v:=by
 intro call aR S H ax aJ;unfold cJ fe;simp only[ar];show fZ (bj S.T H x) H=_;rw[dy ax H U];rfl
theorem apz{c x y:Operand}{t:Bool}{v:Value}(ar:o.op=.pick c x y)(aC:b6 l c=some (.bool t))(ay:(if t=true then b6 l x else b6 l y)=some v):dm K B o n ds l m J v:=by
 intro call aR S H ax aJ;unfold cJ fe;simp only[ar];show zP K.P _ x y (bj S.T H c)=_;rw[dy ax H aC];cases t with
 |true=>show fZ (bj S.T H x) H=_;rw[dy ax H (by simpa using ay)];rfl
 |false=>show fZ (bj S.T H y) H=_;rw[dy ax H (by simpa using ay)];rfl
def Nf (k:IntKind)(a b:Int):BinOp->Option Value
 |.add=>some (.int k (k.wrap (a+b)))
 |.sub=>some (.int k (k.wrap (a -b)))
 |.mul=>some (.int k (k.wrap (a*b)))
 |.eql=>some (.bool (decide (a=b)))
 |.neq=>some (.bool (decide (¬a=b)))
 |.lss=>some (.bool (decide (a<b)))
 |.leq=>some (.bool (decide (a<=b)))
 |.gtr=>some (.bool (decide (b<a)))
 |.geq=>some (.bool (decide (b<=a)))
 |_=>none
theorem Z7{op:BinOp}{t eS:TypeId}{x y:Operand}{k:IntKind}{a b:Int}{v:Value}(ar:o.op=.binOp op t x y eS)(U:b6 l x=some (.int k a))(ai:b6 l y=some (.int k b))(ay:Nf k a b op=some v):dm K B o n ds l m J v:=by
 intro call aR S H ax aJ;unfold cJ fe;simp only[ar];show pd K.P _ op t (bj S.T H x) (bj S.T H y)=_;rw[dy ax H U,dy ax H ai];show(bif uw k k then nj H k a b _ op else _)=_;rw[Ls,b7];have alw:∀p q:Int,(!decide (p<q))=decide (q<=p):=fun p q=>by rw[qT];simp
 cases op<;>simp only[Nf,cp,reduceCtorEq] at ay<;>subst ay<;>simp only[nj,tM,Fq,pT,zU,EC,ED,alw]
 ·rw[show(!decide (a=b))=decide (¬a=b) by rw[qT];simp]
inductive hW (m:aN) (J:aH) (a:Nat) (cells:List Value):Prop
 |own {e:TypeId}:(a,cC.row cells e)∈m->hW m J a cells
 |opn {e:TypeId} {r:List Nat} {z:Nat}:(a,cC.opn cells e r z)∈m->hW m J a cells
 |fw {e:TypeId}:J a=some (cells,e)->hW m J a cells
 |h6 {e:TypeId}:(a,cC.h6 cells e)∈m->hW m J a cells
theorem hW.get{a:Nat}{cells:List Value}(h:hW m J a cells){g0:Nat}{H:aA}(aJ:Inv g0 B J m H):∃e o f z s,H.mem.get a=some (.row cells e o f z s):=by
 cases h with
 |own h=>exact⟨_,_,_,_,_,(aJ.own _ _ h).1⟩
 |opn h=>obtain⟨f,_,q,_⟩:=(aJ.own _ _ h).1;exact⟨_,_,_,_,_,q⟩
 |fw h=>obtain⟨o,f,z,s,q⟩:=aJ.fw _ _ _ h;exact⟨_,_,_,_,_,q⟩
 |h6 h=>obtain⟨f,_,q,_⟩:=(aJ.own _ _ h).1;exact⟨_,_,_,_,_,q⟩
theorem gP{t:TypeId}{x:Operand}{a off:Nat}{cells:List Value}{v:Value}(ar:o.op=.load t x)(U:b6 l x=some (.pointer (some ⟨a,off,none⟩)))(aw:hW m J a cells)(ay:mX K.P t cells off=some v):dm K B o n ds l m J v:=by
 intro call aR S H ax aJ;unfold cJ fe;simp only[ar];show Ce K.P _ t (bj S.T H x)=_;rw[dy ax H U];show fZ (DN K.P H t ⟨a,off,none⟩) H=_;obtain⟨e,o',f,z,s,q⟩:=aw.get aJ;unfold DN;simp only[q,ay];rfl
theorem ho{P:Program}{t:TypeId}{cells:List Value}{off:Nat}{v:Value}(aB:sl P t=some none)(ay:nth cells off=some v):mX P t cells off=some v:=by
 unfold mX;rw[aB];exact ay
theorem mm{P:Program}{t:TypeId}{cells r:List Value}{off k:Nat}(aB:sl P t=some (some k))(ay:takeN k (nJ off cells)=some r):mX P t cells off=some (.agg r.toArray):=by
 unfold mX;rw[aB];simp only[ay]
theorem aqe{t:TypeId}{x:Operand}{v:Value}{cells:List Value}(ar:o.op=.box t x)(aV:o.dst=some d)(aP:Nat.blt d n=true)(U:b6 l x=some v)(aC:v.cells.toList=cells)(aa:cells.all eM=true)(h:∀a,ey ⟨n,ds,(d,.pointer (some ⟨a,0,none⟩))::l⟩ ((a,.row cells t)::m) J):hq K B o ⟨n,ds,l⟩ m J ey:=by
 refine hq.wD aV aP fun S H ax aJ=>?_;obtain⟨H1,aL,bk⟩:=aJ.alloc cells t;refine⟨_,H1,_,J,fun call aR=>?_,bk,h H.ak⟩;unfold cJ fe;simp only[ar];show IM K.P _ t (bj S.T H x)=_;rw[dy ax H U];show mq (xh H t v)=_;unfold xh uB;rw[aC,aa,b7,aL];rfl
theorem eT{t:TypeId}{z:Value}{cells:List Value}(ar:o.op=.alloc t)(aV:o.dst=some d)(aP:Nat.blt d n=true)(bE:fy K.P t=some z)(au:plain z=true)(aC:z.cells.toList=cells)(aa:cells.all eM=true)(h:∀a,ey ⟨n,ds,(d,.pointer (some ⟨a,0,none⟩))::l⟩ ((a,.row cells t)::m) J):hq K B o ⟨n,ds,l⟩ m J ey:=by
 refine hq.wD aV aP fun S H ax aJ=>?_;obtain⟨H1,aL,bk⟩:=aJ.alloc cells t;refine⟨_,H1,_,J,fun call aR=>?_,bk,h H.ak⟩;unfold cJ fe;simp only[ar];show Q4 K.P _ t (fy K.P t)=_;rw[bE];show(bif plain z then mq (xh H t z) else none)=_;rw[au,b7];unfold xh uB;rw[aC,aa,b7,aL];rfl
theorem hy{t:TypeId}{x y:Operand}{a off k:Nat}{v:Value}{vs cells cells':List Value}{e:TypeId}(ar:o.op=.store t x y)(aV:o.dst=none)(U:b6 l x=some (.pointer (some ⟨a,off,none⟩)))(ai:b6 l y=some v)(aO:ef K.P t=some k)(aC:v.cells.toList=vs)(av:Nat.beq vs.length k=true)(bw:Nat.blt 0 vs.length=true)(aa:vs.all eM=true)(hs:gg off cells vs=some cells')(au:cQ m a (.row cells e) (.row cells' e) m')(h:ey ⟨n,ds,l⟩ m' J):hq K B o ⟨n,ds,l⟩ m J ey:=by
 refine hq.skip aV fun S H ax aJ=>?_;obtain⟨H1,aL,bk⟩:=aJ.store au;obtain⟨bl,bp,bQ,cU⟩:=aJ.own _ _ au.mem;have bl:H.mem.get a=some (.row cells e false 0 0 false):=bl;refine⟨H1,m',J,fun call aR=>?_,bk,h⟩;unfold cJ fe;simp only[ar];show Ci K.P _ t (bj S.T H x) (bj S.T H y)=_;rw[dy ax H U,dy ax H ai];show Hf (xj K.P H t (.pointer (some ⟨a,off,none⟩)) v)=_;unfold xj;simp only[aO,aC,av,b7];unfold rl;cases vs with
 |nil=>cases bw
 |cons v0 vs=>
  simp only
  have aq:Nat.blt a H.bW=false:=by
   cases q:Nat.blt a H.bW
   ·rfl
   ·have:a<H.bW:=by simpa[Nat.blt,u0] using q
    have:=aJ.bW;omega
  rw[aq,dT,bl];simp only[show Nat.ble 0 off=true from j8 (cy _),Fy,aa,b7,hs,aL,dT];rfl
theorem apw{x:Operand}{a:Addr}(ar:o.op=.nilCheck x)(U:b6 l x=some (.pointer (some a))):dm K B o n ds l m J (.pointer (some a)):=by
 intro call aR S H ax aJ;unfold cJ fe;simp only[ar];show Ch K.P _ (bj S.T H x)=_;rw[dy ax H U];rfl
def DR (P:Program)(s:TypeId)(f:Nat):Option Nat:=match P.underlying s with
 |some (.struct fields)=>(match fields[f]? with
  |some fd=>(match ef P fd.type with|some (_+1)=>some fd.offset|_=>none)
  |none=>none)
 |_=>none
theorem Z6{s:TypeId}{x:Operand}{f a off k:Nat}(ar:o.op=.fieldAddr s x f)(U:b6 l x=some (.pointer (some ⟨a,off,none⟩)))(aD:DR K.P s f=some k):dm K B o n ds l m J (.pointer (some ⟨a,off+k,none⟩)):=by
 intro call aR S H ax aJ;unfold cJ fe;simp only[ar];show Cd K.P _ s f (bj S.T H x)=_;rw[dy ax H U];show fZ (GO K.P s (.pointer (some ⟨a,off,none⟩)) f) H=_;unfold DR at aD;unfold GO;simp only
 cases hu:K.P.underlying s with
 |none=>rw[hu] at aD;cases aD
 |some vt=>
  rw[hu] at aD;cases vt with
  |struct fields=>
   simp only at aD ⊢;cases c8:fields[f]? with
   |none=>rw[c8] at aD;cases aD
   |some fd=>
    rw[c8] at aD;simp only at aD ⊢;cases bE:ef K.P fd.type with
    |none=>rw[bE] at aD;cases aD
    |some z=>
     rw[bE] at aD;cases z with
     |zero=>cases aD
     |succ z=>simp only[cp] at aD;subst aD;rfl
  |_=>cases aD
def DJ (P:Program)(t:TypeId):Option Nat:=match P.underlying t with
 |some (.slice e)=>ef P e
 |_=>none
theorem Xc{i:Int}{len:Nat}(bw:0<=i)(aa:i<len):uv i len=some i.toNat:=by
 cases i with
 |ofNat n=>
  unfold uv;have:Nat.blt n len=true:=by
   have:n<len:=by simpa using aa
   simpa[Nat.blt,u0] using this
  simp only[this,b7];rfl
 |negSucc n=>exact absurd bw (by simp)
theorem apm{t:TypeId}{x aW:Operand}{a off len cap sz:Nat}{k:IntKind}{i:Int}(ar:o.op=.indexAddr t x aW)(U:b6 l x=some (.slice (some ⟨a,off,none⟩) len cap))(ao:b6 l aW=some (.int k i))(aB:DJ K.P t=some sz)(bw:0<=i)(aa:i<len):dm K B o n ds l m J (.pointer (some ⟨a,off+i.toNat*sz,none⟩)):=by
 intro call aR S H ax aJ;unfold cJ fe;simp only[ar];show zN K.P _ t (bj S.T H x) (bj S.T H aW)=_;rw[dy ax H U,dy ax H ao];show fZ (AY K.P t (.slice (some ⟨a,off,none⟩) len cap) (.int k i)) H=_;unfold DJ at aB;unfold AY;cases hu:K.P.underlying t with
 |none=>rw[hu] at aB;cases aB
 |some vt=>
  rw[hu] at aB;cases vt with
  |slice e=>
   simp only at aB ⊢;rw[Xc bw aa,aB];rfl
  |_=>cases aB
def isSlice (P:Program)(t:TypeId):Bool:=match P.underlying t with|some (.slice _)=>true|_=>false
def sW (P:Program)(t:TypeId):Bool:=match P.underlying t with|some .string=>true|_=>false
theorem y7{S:bh}{H:aA}{call:eH}{aR:gR}{c:Call}{b:Builtin}(ar:o.op=.call c)(aC:c.callee=.builtin b):cJ K.P call aR S H o=pw K.P S H o b c:=by
 unfold cJ fe;simp only[ar];show kU K.P _ c=_;unfold kU;rw[aC]
theorem apt{c:Call}{base:Option Addr}{len cap:Nat}{t:TypeId}(ar:o.op=.call c)(aC:c.callee=.builtin .len)(a1:hY l c.args.toList=some [.slice base len cap])(aB:c.argTypes.toList=[t])(hs:isSlice K.P t=true):dm K B o n ds l m J (.int .i64 len):=by
 intro call aR S H ax aJ;rw[y7 ar aC];unfold pw;rw[n8 ax H a1,aB];simp only
 unfold isSlice at hs;split at hs
 ·rename_i e hu;rw[hu]
 ·cases hs
theorem akR{α:Type}(l:List α):BV l=some l.length:=by
 cases h:BV l with
 |none=>
  unfold BV at h;cases ap:isNil (nJ 256 l) with
  |true=>rw[ap] at h;cases h
  |false=>
   rw[ap,dT] at h;split at h
   ·cases h
   ·split at h<;>cases h
 |some k=>rw[Xu h]
theorem apu{c:Call}{s:ByteArray}{t:TypeId}(ar:o.op=.call c)(aC:c.callee=.builtin .len)(a1:hY l c.args.toList=some [.string s])(aB:c.argTypes.toList=[t])(hs:sW K.P t=true):dm K B o n ds l m J (.int .i64 s.data.toList.length):=by
 intro call aR S H ax aJ;rw[y7 ar aC];unfold pw;rw[n8 ax H a1,aB];simp only
 unfold sW at hs;split at hs
 ·rename_i hu;rw[hu];simp only[akR,tM];rfl
 ·cases hs
theorem apq{t:TypeId}{x aW:Operand}{s:ByteArray}{k:IntKind}{i:Int}{b:UInt8}(ar:o.op=.index t x aW)(U:b6 l x=some (.string s))(ao:b6 l aW=some (.int k i))(aB:sW K.P t=true)(bw:0<=i)(ap:s.data.toList[i.toNat]?=some b):dm K B o n ds l m J (.int .u8 b.toNat):=by
 intro call aR S H ax aJ;unfold cJ fe;simp only[ar];show zM K.P _ (bj S.T H x) (bj S.T H aW) (K.P.underlying t)=_;rw[dy ax H U,dy ax H ao];unfold sW at aB;split at aB
 ·rename_i hu;rw[hu];unfold zM;simp only
  cases i with
  |ofNat j=>
   simp only[kE];rw[show s.data.toList[j]?=some b from ap];simp only[tM];rfl
  |negSucc j=>exact absurd bw (by simp)
 ·cases aB
theorem apj{x:Operand}{aW:Nat}{vs:Array Value}{v:Value}(ar:o.op=.extract x aW)(U:b6 l x=some (.tuple vs))(ay:nth vs.toList aW=some v):dm K B o n ds l m J v:=by
 intro call aR S H ax aJ;unfold cJ fe;simp only[ar];show Cc K.P _ aW (bj S.T H x)=_;rw[dy ax H U];show fZ (nth vs.toList aW) H=_;rw[ay];rfl
end
def a8(K:eE)(B:dV)(ops:List Oper)(bc:List jF)(F:List (FuncId×List Value))(E:cf)(m:aN)(J:aH)(bH:cf->aN->aH->Prop):Prop:=
 ∀S H,Sat E S->Inv K.g0 B J m H->∃aU:eH,(∀f args H r,aU f args H=some r->(f,args)∉F)/\∃aS H' E' m' af,
  (∀fa:eH,(∀f args H r,aU f args H=some r->fa f args H=some r)->dL K.P (hM K.Q fa) (gH K.Q gW fa).aR ops bc S H=some (.ok aS H'))/\Sat E' aS/\Inv K.g0 B af m' H'/\bH E' m' af
section
variable {K:eE}{B:dV}{ops:List Oper}{bc:List jF}{F:List (FuncId×List Value)}{E:cf}{m m':aN}{J:aH}{o:Oper}{bH:cf->aN->aH->Prop}{cX:Exit->cf->aN->aH->Prop}
variable {n:Nat}{ds:e7}{l:List (Nat×Value)}{d i:Nat}
theorem ab.draw{id:Nat}{a:Array Oper}(av:Io a.toList=none)(dq:DE a.toList=true)(au:IV a.toList=bc)(h:a8 K B a.toList bc [] E m J fun E m J=>cX .normal E m J):ab K B (.region id a true) E m J cX:=by
 intro S H ax aJ;obtain⟨aU,_,aS,H',E',m',af,aa,ae,aF,bo⟩:=h S H ax aJ;refine⟨.normal,aS,H',E',m',af,eg.yb K.dt.rU gW aU ?_,ae,aF,bo⟩;show r2 (vw K.P (gH K.Q gW aU).call (gH K.Q gW aU).aR a.toList S H)=_;rw[Jy];unfold vw;rw[av];show r2 (xi K.P (hM K.Q aU) (gH K.Q gW aU).aR a.toList S H)=_;unfold xi;rw[dq,b7,au,aa aU (fun _ _ _ _ q=>q)];rfl
theorem a8.nil(h:bH E m J):a8 K B ops [] F E m J bH:=fun S H ax aJ=>⟨lq,(fun _ _ _ _ q=>by cases q),S,H,E,m,J,fun _ _=>rfl,ax,aJ,h⟩
theorem a8.val{v:Value}(ao:nth ops i=some o)(aq:o.guard=none)(aV:o.dst=some d)(aP:Nat.blt d n=true)(ay:dm K B o n ds l m J v)(h:a8 K B ops bc F ⟨n,ds,(d,v)::l⟩ m J bH):a8 K B ops (.val i::bc) F ⟨n,ds,l⟩ m J bH:=by
 intro S H ax aJ;obtain⟨bn,s1,s2⟩:=ax.put (dst:=some d) aP v;obtain⟨aU,dH,aS,H',E',m',af,aa,ae,aF,bo⟩:=h bn H s2 aJ;refine⟨aU,dH,aS,H',E',m',af,fun fa q=>?_,ae,aF,bo⟩;show jy ops i (mM K.P _ _ ops S H (dL K.P _ _ ops bc))=_;unfold jy;rw[ao];show mM K.P _ _ ops S H (dL K.P _ _ ops bc) o=_;unfold mM fD;rw[aq];show CH S H o.dst (dL K.P _ _ ops bc) (cJ K.P _ _ S H o)=_;rw[ay _ _ S H ax aJ,aV];show(bif Nat.beq H.ak H.ak then pX (dL K.P _ _ ops bc) H (S.put (some d) v) else none)=_;rw[hz,b7,s1];exact aa fa q
theorem a8.gk{b:fg}{p:cC}{er:iR}(ao:nth ops i=some o)(aq:o.guard=none)(aV:o.dst=some d)(aP:Nat.blt d n=true)(a1:∀S,Sat ⟨n,ds,l⟩ S->nE K.P S.T o.op=some (b,er))(au:∀H a,H.mem.get a=some b->p.at (fun _=>True) H a)(PS:∀c e r z,p≠.opn c e r z/\p≠.h6 c e)
 (h:∀a,a8 K B ops bc F ⟨n,ds,(d,er.at a)::l⟩ ((a,p)::m) J bH):a8 K B ops (.gk i::bc) F ⟨n,ds,l⟩ m J bH:=by
 intro S H ax aJ;obtain⟨H1,aL⟩:=aJ.wf.new b;have fK:p.at B.zb H1 H.ak:=by
  have q:=au H1 H.ak (by rw[(aA.pM aL).2.2.2.2.2,aE rfl]);cases p with
  |row=>exact q
  |map=>exact q
  |loop=>exact q
  |iW=>exact q
  |opn c e r z=>exact absurd rfl (PS c e r z).1
  |h6 c e=>exact absurd rfl (PS c e [] 0).2
 have Vr:=aJ.new aL fK (by cases p with|opn c e r z=>exact absurd rfl (PS c e r z).1|_=>rfl);obtain⟨bn,s1,s2⟩:=ax.put (dst:=some d) aP (er.at H.ak);obtain⟨aU,dH,aS,H',E',m',af,aa,ae,aF,bo⟩:=h H.ak bn H1 s2 Vr;refine⟨aU,dH,aS,H',E',m',af,fun fa q=>?_,ae,aF,bo⟩;show jy ops i (FZ K.P ops S H (dL K.P _ _ ops bc))=_;unfold jy;rw[ao];show FZ K.P ops S H (dL K.P _ _ ops bc) o=_;unfold FZ fD;rw[aq];show M8 S H o.dst (dL K.P _ _ ops bc) (nE K.P S.T o.op)=_;rw[a1 S ax];show M9 S o.dst (dL K.P _ _ ops bc) er (H.new b)=_;rw[aL,aV];show pX (dL K.P _ _ ops bc) H1 (S.put (some d) (er.at H.ak))=_;rw[s1];exact aa fa q
theorem Q8{S:bh}(ax:Sat ⟨n,ds,l⟩ S){x:Operand}{v:Value}(h:b6 l x=some v):qE S.T x=some v:=by
 cases x with
 |tmp t=>exact ax.get t v h
 |const c=>exact h
 |global g=>cases h
 |func f=>exact h
theorem a8.alloc{t:TypeId}{z:Value}{cells:List Value}(ao:nth ops i=some o)(aq:o.guard=none)(ar:o.op=.alloc t)(aV:o.dst=some d)(aP:Nat.blt d n=true)(bE:fy K.P t=some z)(au:plain z=true)(aC:z.cells.toList=cells)(aa:cells.all eM=true)
 (h:∀a,a8 K B ops bc F ⟨n,ds,(d,.pointer (some ⟨a,0,none⟩))::l⟩ ((a,.row cells t)::m) J bH):a8 K B ops (.gk i::bc) F ⟨n,ds,l⟩ m J bH:=by
 refine a8.gk (b:=.row cells t false 0 0 false) (p:=.row cells t) (er:=.ptr) ao aq aV aP (fun S ax=>?_) (fun H a q=>q) (fun c e r z=>⟨nofun,nofun⟩) h;rw[ar];simp only[nE,bE,au,b7,AH,aC,aa]
theorem a8.bR(ao:nth ops i=some o)(aq:o.guard=none)(h:∀S H,Sat E S->Inv K.g0 B J m H->∃aS H' E' m' af,(∀call aR,pP S H o.dst (cJ K.P call aR S H o)=some (.ok aS H'))/\Sat E' aS/\Inv K.g0 B af m' H'/\a8 K B ops bc F E' m' af bH):a8 K B ops (.bR i::bc) F E m J bH:=by
 intro S H ax aJ;obtain⟨bn,H1,l2,m1,dO,bl,bp,bQ,cU⟩:=h S H ax aJ;obtain⟨aU,dH,aS,H',E',m',af,aa,ae,aF,bo⟩:=cU bn H1 bp bQ;refine⟨aU,dH,aS,H',E',m',af,fun fa q=>?_,ae,aF,bo⟩;show jy ops i (fun o=>kr (dL K.P _ _ ops bc) (one K.P _ _ ops S H o))=_;unfold jy;rw[ao];show kr (dL K.P _ _ ops bc) (one K.P _ _ ops S H o)=_;unfold one fD;rw[aq];show kr (dL K.P _ _ ops bc) (pP S H o.dst (cJ K.P _ _ S H o))=_;rw[bl];exact aa fa q
theorem a8.fP(ao:nth ops i=some o)(aq:o.guard=none)(h:hq K B o E m J fun E m J=>a8 K B ops bc F E m J bH):a8 K B ops (.bR i::bc) F E m J bH:=a8.bR ao aq h
theorem a8.Ug{v:Value}(ao:nth ops i=some o)(aq:o.guard=none)(aV:o.dst=some d)(aP:Nat.blt d n=true)(ay:dm K B o n ds l m J v)(h:a8 K B ops bc F ⟨n,ds,(d,v)::l⟩ m J bH):a8 K B ops (.bR i::bc) F ⟨n,ds,l⟩ m J bH:=by
 refine a8.bR ao aq fun S H ax aJ=>?_;obtain⟨bn,s1,s2⟩:=ax.put (dst:=some d) aP v;refine⟨bn,H,_,m,J,fun call aR=>?_,s2,aJ,h⟩;rw[ay _ _ S H ax aJ,aV];show pg H (S.put (some d) v)=_;rw[s1];rfl
theorem a8.Kg{c:Call}{x:Operand}{f:FuncId}{first cap:Array Value}{args bT:List Value}{bf bM:aN}{eP:Value->aN->aH->Prop}
 (ao:nth ops i=some o)(aq:o.guard=none)(ar:o.op=.call c)(aV:o.dst=some d)(aP:Nat.blt d n=true)(aC:c.callee=.value x)(U:b6 l x=some (.func (.func f) first cap))(a1:hY l c.args.toList=some args)(has:(first.toList++args)++cap.toList=bT)
 (aD:(f,bT)∉F)(au:(bf++bM).Perm m)(fB:ER bf)(fJ:Fn K f bT bf J eP)(h:∀v m' af,J.le af->eP v m' af->a8 K B ops bc ((f,bT)::F) ⟨n,ds,(d,v)::l⟩ (m'++bM) af bH):a8 K B ops (.bR i::bc) F ⟨n,ds,l⟩ m J bH:=by
 intro S H ax aJ;obtain⟨v,H',af,m',bl,bp,bQ⟩:=fJ H (aJ.enter au fB);obtain⟨cU,gb⟩:=aJ.leave au bp;obtain⟨bn,s1,s2⟩:=ax.put (dst:=some d) aP v;obtain⟨aU,dH,aS,pi,E',h2,q0,aa,ae,aF,bo⟩:=h v m' af gb bQ bn H' s2 cU
 classical
 refine⟨fun cP cz H1=>if cP=f/\cz=bT then k8 f bT H (.returned v,H') cP cz H1 else aU cP cz H1,fun cP cz H1 r q=>?_,aS,pi,E',h2,q0,fun fa q=>?_,ae,aF,bo⟩
 ·simp only at q;split at q
  ·rename_i e;rw[e.1,e.2];exact aD
  ·exact fun dx=>dH cP cz H1 r q (aa6 _ dx)
 ·have hD:fa f bT H=some (.returned v,H'):=q f bT H _ (by simp only[and_self,aE];unfold k8;rw[aE ⟨rfl,rfl,rfl⟩]);have BE:∀cP cz H1 r,aU cP cz H1=some r->fa cP cz H1=some r:=fun cP cz H1 r aw=>q cP cz H1 r (by
   simp only
   rw[an (fun e=>dH cP cz H1 r aw (by rw[e.1,e.2];exact List.mem_cons_self))];exact aw)
  show jy ops i (fun o=>kr (dL K.P _ _ ops bc) (one K.P _ _ ops S H o))=_;unfold jy;rw[ao];show kr (dL K.P _ _ ops bc) (one K.P _ _ ops S H o)=_;unfold one fD;rw[aq];show kr (dL K.P _ _ ops bc) (pP S H o.dst (cJ K.P _ _ S H o))=_;have he:cJ K.P (hM K.Q fa) (gH K.Q gW fa).aR S H o=some (.val v H'):=by
   unfold cJ fe;simp only[ar];show kU K.P _ c=_;unfold kU;rw[aC];show n9 K.P _ _ S.T H c=_;unfold n9;rw[n8 ax H a1];simp only[aC];rw[dy ax H U];simp only
   show(match l7 K.P H (.func f) (first.toList++args) cap.toList with|some (f,bT)=>pv (hM K.Q _ f bT H)|none=>none)=_
   unfold l7;simp only
   rw[has,Dm bl hD];rfl
  rw[he,aV];show kr (dL K.P _ _ ops bc) (pg H' (S.put (some d) v))=_;rw[s1];exact aa fa BE
theorem a8.call{c:Call}{x:Operand}{f:FuncId}{first cap:Array Value}{args bT:List Value}{bf bM:aN}{eP:Value->aN->aH->Prop}
 (ao:nth ops i=some o)(aq:o.guard=none)(ar:o.op=.call c)(aV:o.dst=some d)(aP:Nat.blt d n=true)(aC:c.callee=.value x)(U:b6 l x=some (.func (.func f) first cap))(a1:hY l c.args.toList=some args)(has:(first.toList++args)++cap.toList=bT)
 (aD:F.all (fun g=>!Nat.beq g.1 f)=true)(au:(bf++bM).Perm m)(fB:ER bf)(fJ:Fn K f bT bf J eP)(h:∀v m' af,J.le af->eP v m' af->a8 K B ops bc ((f,bT)::F) ⟨n,ds,(d,v)::l⟩ (m'++bM) af bH):a8 K B ops (.bR i::bc) F ⟨n,ds,l⟩ m J bH:=
 a8.Kg ao aq ar aV aP aC U a1 has (fun q=>by
  rw[tk] at aD;have:=aD (f,bT) q;simp at this) au fB fJ h
def Ao(K:eE)(B:dV)(ops:List Oper)(n:Nat)(ds:e7)(l:List (Nat×Value))(m:aN)(J:aH)(i:Nat):Prop:=
 ∀call aR S H,Sat ⟨n,ds,l⟩ S->Inv K.g0 B J m H->AR K.P call aR ops S H i=true
theorem Ao.val{v u:Value}(ao:nth ops i=some o)(aq:o.guard=none)(aV:o.dst=some d)(ay:dm K B o n ds l m J v)(hu:look l d=some u)(he:j3 8 v u=true):Ao K B ops n ds l m J i:=by
 intro call aR S H ax aJ;unfold AR;rw[ao];show Uf K.P call aR ops S H o (fD ops S.T o)=true;unfold fD;rw[aq];show Nz H.ak S.T o.dst (cJ K.P call aR S H o)=true;rw[ay _ _ S H ax aJ,aV];show(Nat.beq H.ak H.ak&&(match S.T.get d with|some u=>j3 8 v u|none=>false))=true
 rw[hz,ax.get d u hu];simpa using he
def th(K:eE)(B:dV)(ops:List Oper)(n:Nat)(ds:e7)(l:List (Nat×Value))(m:aN)(J:aH):List Nat->Prop
 |[]=>True
 |i::r=>Ao K B ops n ds l m J i/\th K B ops n ds l m J r
theorem th.all{call:eH}{aR:gR}{S:bh}{H:aA}(ax:Sat ⟨n,ds,l⟩ S)(aJ:Inv K.g0 B J m H):∀{is:List Nat},th K B ops n ds l m J is->is.all (AR K.P call aR ops S H)=true:=by
 intro is;induction is with
 |nil=>intro _;rfl
 |cons i r aI=>intro h;rw[sb,h.1 call aR S H ax aJ,aI h.2];rfl
theorem a8.cA{is:List Nat}(aC:th K B ops n ds l m J is)(h:a8 K B ops bc F ⟨n,ds,l⟩ m J bH):a8 K B ops (.cA is::bc) F ⟨n,ds,l⟩ m J bH:=by
 intro S H ax aJ;obtain⟨aU,dH,aS,H',E',m',af,aa,ae,aF,bo⟩:=h S H ax aJ;refine⟨aU,dH,aS,H',E',m',af,fun fa q=>?_,ae,aF,bo⟩;show AS K.P _ _ ops S H (dL K.P _ _ ops bc) is=_;unfold AS;rw[th.all ax aJ aC,b7];exact aa fa q
theorem aak(k:IntKind)(a:Int)(n:Nat):j3 (n+1) (.int k a) (.int k a)=true:=by
 show(uw k k&&qu a a)=true;rw[Ls,EC];simp
end
theorem ZW{α:Type}:∀(l:List α) (i:Nat) (T:bg α),(∀k,k<i->∃v,T.get k=some v)->∃eR,yn l i T=some eR:=by
 intro l;induction l with
 |nil=>intro i T _;exact⟨T,rfl⟩
 |cons x l aI=>
  intro i T h;obtain⟨C6,dn⟩:=bg.E4 x T i h;obtain⟨eR,e⟩:=aI (i+1) C6 fun k aO=>by
   rw[bg.get_put dn];split
   ·exact⟨_,rfl⟩
   ·exact h k (by omega)
  refine⟨eR,?_⟩;simp only[yn,bg.set];rw[dn];exact e
theorem cM{P:Program}{f:FuncId}{fn:Func}(h:P.funcs[f]?=some fn):(DU P).get f=some fn:=by
 obtain⟨T,dn⟩:=ZW P.funcs.toList 0 .leaf (fun k aO=>absurd aO (by omega));unfold DU;rw[dn];simp only
 rw[RO dn];have cV:f<P.funcs.size:=(Sk.1 h).1;rw[aE (by simpa using cV)];simpa using h
section
variable {K:eE}{B:dV}{o:Oper}{n:Nat}{ds:e7}{l:List (Nat×Value)}{m m':aN}{J:aH}{ey:cf->aN->aH->Prop}{d:Nat}
theorem eb{P:Program}{α β:Type}{s:Sem α}{a:α}{f:α->Sem β}(h:eY P s=some a):eY P (s >>= f)=eY P (f a):=by
 show eY P (Sem.bind s f)=_;induction s with
 |pure b=>simp only[eY,cp] at h;subst h;rfl
 |program k aI=>exact aI P (by simpa[eY] using h)
 |mark m k aI=>exact aI (by simpa[eY] using h)
 |_=>simp[eY] at h
theorem y9{P:Program}{t:TypeId}{vt:TypeDesc}(h:P.underlying t=some vt):eY P (underlying t)=some vt:=by
 have:eY P (underlying t)=eY P (match P.underlying t with|some d=>pure d|none=>stuck "no such type"):=by
  rfl
 rw[this,h];rfl
theorem lH{E:cf}{S:bh}(ax:Sat E S)(H:aA){x:Operand}{v:Value}(h:b6 E.l x=some v):pR S.T H x=v:=by
 unfold pR;rw[dy ax H h]
theorem amU{x:Operand}{a v:Value}{S:bh}{H:aA}(ax:Sat ⟨n,ds,l⟩ S)(PR:o.op.operands.toList=[x])(U:b6 l x=some a)(a1:plain a=true)(he:eY K.P (execOp (pR S.T H) o)=some (.value v))(ay:plain v=true):gm K.P S.T H o=some (.val v H):=by
 unfold gm;rw[PR];have:eI S.T H [x]=some [a]:=by simp only[eI];rw[dy ax H U]
 rw[this];simp only[sb,FG,a1,wG,b7,he,ay]
theorem zS{x y:Operand}{a b v:Value}{S:bh}{H:aA}(ax:Sat ⟨n,ds,l⟩ S)(PR:o.op.operands.toList=[x,y])(U:b6 l x=some a)(ai:b6 l y=some b)(a1:plain a=true)(ap:plain b=true)(he:eY K.P (execOp (pR S.T H) o)=some (.value v))(ay:plain v=true):gm K.P S.T H o=some (.val v H):=by
 unfold gm;rw[PR];have:eI S.T H [x,y]=some [a,b]:=by simp only[eI];rw[dy ax H U,dy ax H ai]
 rw[this];simp only[sb,FG,a1,ap,wG,b7,he,ay]
theorem Z9{t:TypeId}{x:Operand}{b:Bool}(ar:o.op=.unOp .not t x)(U:b6 l x=some (.bool b)):dm K B o n ds l m J (.bool (!b)):=by
 intro call aR S H ax aJ;unfold cJ fe;simp only[ar];show gm K.P S.T H o=_;refine amU ax (by rw[ar];rfl) U rfl ?_ rfl;unfold execOp;simp only[ar];rw[lH ax H U];rfl
theorem apx{t:TypeId}{x:Operand}{p:Prop}[Decidable p](ar:o.op=.unOp .not t x)(U:b6 l x=some (.bool (decide p))):dm K B o n ds l m J (.bool (decide (¬p))):=by
 have:=Z9 (K:=K) (B:=B) (n:=n) (ds:=ds) (m:=m) (J:=J) ar U;rwa [show(!decide p)=decide (¬p) by simp] at this
def isInt (P:Program)(s d:TypeId):Option IntKind:=match P.underlying s,P.underlying d with
 |some _,some (.int k)=>some k
 |_,_=>none
theorem api{s t:TypeId}{x:Operand}{k ft:IntKind}{a b:Int}(ar:o.op=.convert s t x)(U:b6 l x=some (.int ft a))(aB:isInt K.P s t=some k)(hw:k.wrap a=b):dm K B o n ds l m J (.int k b):=by
 intro call aR S H ax aJ;unfold cJ fe;simp only[ar];show rZ K.P _ s t (bj S.T H x)=_;rw[dy ax H U];unfold rZ;simp only
 unfold isInt at aB;split at aB
 ·rename_i aa ae;rw[aa,ae];injection aB with aB;subst aB
  simp only[tM,Fq,hw];rfl
 ·cases aB
def B9 (P:Program)(t:TypeId):Bool:=match P.underlying t with
 |some (.interface _)=>false
 |some _=>true
 |none=>false
theorem apl{t:TypeId}{x:Operand}{v:Value}(ar:o.op=.makeInterface t x)(U:b6 l x=some v)(aB:B9 K.P t=true):dm K B o n ds l m J (.iface t v):=by
 intro call aR S H ax aJ;unfold cJ fe;simp only[ar];show Cg K.P _ t (bj S.T H x) (K.P.underlying t)=_;rw[dy ax H U];unfold B9 at aB;cases hu:K.P.underlying t with
 |none=>rw[hu] at aB;cases aB
 |some vt=>rw[hu] at aB;cases vt<;>first|rfl|cases aB
theorem apk{f:FuncId}{a b:Array Operand}{bt yo:List Value}(ar:o.op=.makeFunc (.func f) a b)(a1:hY l a.toList=some bt)(ap:hY l b.toList=some yo):dm K B o n ds l m J (.func (.func f) bt.toArray yo.toArray):=by
 intro call aR S H ax aJ;unfold cJ fe;simp only[ar];show Cf K.P _ (.func f) (eI S.T H a.toList) (eI S.T H b.toList)=_;rw[n8 ax H a1,n8 ax H ap];rfl
def tK (l:List (Nat×Value)):List (Nat×Operand)->Option (List (Nat×Value))
 |[]=>some []
 |(i,x)::r=>match b6 l x with
  |some v=>(match tK l r with|some vs=>some ((i,v)::vs)|none=>none)
  |none=>none
theorem UI{E:cf}{S:bh}(ax:Sat E S)(H:aA):∀{xs:List (Nat×Operand)} {vs:List (Nat×Value)},tK E.l xs=some vs->ls S.T H xs=some vs:=by
 intro xs;induction xs with
 |nil=>intro vs h;exact h
 |cons x r aI=>
  obtain⟨i,x⟩:=x;intro vs h;simp only[tK] at h;simp only[ls];cases U:b6 E.l x with
  |none=>rw[U] at h;cases h
  |some v=>
   rw[U] at h;simp only at h;rw[dy ax H U];simp only;cases aw:tK E.l r with
   |none=>rw[aw] at h;cases h
   |some ws=>rw[aw] at h;simp only at h;rw[aI aw];exact h
def Gg (P:Program)(t:TypeId):Option (Sum (List (Nat×Nat)) Nat×List Value):=match fy P t,P.underlying t with
 |some z,some (.struct fields)=>bif plain z then(match places P fields.toList with|some ew=>some (.inl ew,z.cells.toList)|none=>none) else none
 |some z,some (.array _ elem)=>bif plain z then(match ef P elem with|some sz=>some (.inr sz,z.cells.toList)|none=>none) else none
 |_,_=>none
def placeOf:Sum (List (Nat×Nat)) Nat->Nat->Option (Nat×Nat)
 |.inl ew=>nth ew
 |.inr sz=>fun i=>some (i*sz,sz)
theorem aph{t:TypeId}{ew:Array (Nat×Operand)}{vs:List (Nat×Value)}{pl:Sum (List (Nat×Nat)) Nat}{z cells:List Value}(ar:o.op=.build t ew)(au:tK l ew.toList=some vs)(aB:Gg K.P t=some (pl,z))(aD:nK (placeOf pl) z vs=some cells):dm K B o n ds l m J (.agg cells.toArray):=by
 intro call aR S H ax aJ;unfold cJ fe;simp only[ar];show Cb K.P _ t (ls S.T H ew.toList)=_;rw[UI ax H au];show fZ (GK K.P t vs) H=_;unfold Gg at aB;unfold GK;cases bE:fy K.P t with
 |none=>rw[bE] at aB;cases aB
 |some CS=>
  rw[bE] at aB;cases hu:K.P.underlying t with
  |none=>rw[hu] at aB;cases aB
  |some vt=>
   rw[hu] at aB;cases vt with
   |struct fields=>
    simp only at aB ⊢;cases HM:plain CS with
    |false=>rw[HM] at aB;cases aB
    |true=>
     rw[HM,b7] at aB;rw[b7];cases c8:places K.P fields.toList with
     |none=>rw[c8] at aB;cases aB
     |some ta=>
      rw[c8] at aB;simp only[cp,dB] at aB;obtain⟨rfl,rfl⟩:=aB;have aD:nK (nth ta) CS.cells.toList vs=some cells:=aD;simp only[aD];rfl
   |array k elem=>
    simp only at aB ⊢;cases HM:plain CS with
    |false=>rw[HM] at aB;cases aB
    |true=>
     rw[HM,b7] at aB;rw[b7];cases c8:ef K.P elem with
     |none=>rw[c8] at aB;cases aB
     |some sz=>
      rw[c8] at aB;simp only[cp,dB] at aB;obtain⟨rfl,rfl⟩:=aB;have aD:nK (fun i=>some (i*sz,sz)) CS.cells.toList vs=some cells:=aD;simp only[aD];rfl
   |_=>cases aB
def AI (P:Program)(t:TypeId):Option (Nat×TypeId×Nat):=match P.underlying t with
 |some (.array len elem)=>(match ef P elem with|some sz=>some (len,elem,sz)|none=>none)
 |_=>none
theorem abH{P:Program}{t elem:TypeId}{len sz:Nat}(h:AI P t=some (len,elem,sz)):P.underlying t=some (.array len elem)/\ef P elem=some sz:=by
 unfold AI at h;split at h
 ·rename_i aa;split at h
  ·rename_i ae;simp only[cp,dB] at h;obtain⟨rfl,rfl,rfl⟩:=h;exact⟨aa,ae⟩
  ·cases h
 ·cases h
theorem apn{t elem:TypeId}{x aW:Operand}{a off len sz:Nat}{k:IntKind}{i:Int}(ar:o.op=.indexAddr t x aW)(U:b6 l x=some (.pointer (some ⟨a,off,none⟩)))(ao:b6 l aW=some (.int k i))(aB:AI K.P t=some (len,elem,sz))(bw:0<=i)(aa:i<len):dm K B o n ds l m J (.pointer (some ⟨a,off+i.toNat*sz,none⟩)):=by
 obtain⟨hu,bE⟩:=abH aB;intro call aR S H ax aJ;unfold cJ fe;simp only[ar];show zN K.P _ t (bj S.T H x) (bj S.T H aW)=_;rw[dy ax H U,dy ax H ao];show fZ (AY K.P t (.pointer (some ⟨a,off,none⟩)) (.int k i)) H=_;unfold AY;simp only[hu,Xc bw aa,bE];rfl
theorem Tv{op:BinOp}{t eS:TypeId}{x y:Operand}{a b:Value}{r:Bool}{S:bh}{H:aA}{call:eH}{aR:gR}(ar:o.op=.binOp op t x y eS)(U:bj S.T H x=some a)(ai:bj S.T H y=some b)(ao:∀k i,a≠.int k i)(au:gm K.P S.T H o=none)(he:wk K.P ⟨call,aR,S,H,o⟩ t a b op=some (.val (.bool r) H)):cJ K.P call aR S H o=some (.val (.bool r) H):=by
 unfold cJ fe;simp only[ar];show pd K.P _ op t (bj S.T H x) (bj S.T H y)=_;rw[U,ai];have:pd K.P ⟨call,aR,S,H,o⟩ op t (some a) (some b)=uD K.P ⟨call,aR,S,H,o⟩ op t a b:=by
  cases a<;>first|rfl|exact absurd rfl (ao _ _)
 rw[this];unfold uD;show orElse (gm K.P S.T H o) _=_;rw[au];exact he
end
end
end Go.Opn

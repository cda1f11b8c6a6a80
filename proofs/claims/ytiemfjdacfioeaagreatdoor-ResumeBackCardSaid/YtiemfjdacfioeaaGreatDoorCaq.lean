/- A part of the proof of ResumeBack. -/
import Derived.Test.YtiemfjdacfioeaaGreatDoorCap
import Derived.Laws.Strings
set_option linter.unusedVariables false
set_option linter.unusedSimpArgs false
namespace Go.Opn
noncomputable section
open Go.Cre Go.RowKit
theorem tC{α:Type}(n:Int)(k:Int->α):q' n k=k n:=by
 cases n with
 |ofNat m=>cases m<;>rfl
 |negSucc m=>cases m<;>rfl
theorem Em(a b:Int):qs a b=decide (a<b):=by
 cases a with
 |ofNat m=>cases b with
  |ofNat n=>simp only[qs];rw[o8];simp
  |negSucc n=>simp only[qs];rw[o8];simp;omega
 |negSucc m=>cases b with
  |ofNat n=>simp only[qs];rw[o8];simp;omega
  |negSucc n=>simp only[qs];rw[o8];simp;omega
theorem El(a b:Int):qq a b=decide (a=b):=by
 cases a with
 |ofNat m=>cases b with
  |ofNat n=>simp only[qq];rw[o8];simp;omega
  |negSucc n=>simp only[qq];rw[o8];simp
 |negSucc m=>cases b with
  |ofNat n=>simp only[qq];rw[o8];simp
  |negSucc n=>simp only[qq];rw[o8];simp
theorem K9(k:IntKind):uk k k=true:=by cases k<;>rfl
theorem wrap_i64{n:Int}(aa:-9223372036854775808<=n)(ae:n<=9223372036854775807):IntKind.i64.wrap n=n:=by
 unfold IntKind.wrap IntKind.signed IntKind.bits;simp only[Je,Gj];split<;>omega
theorem zQ(H:aB)(b:Bool):x0 H b=some (.val (.bool b) H):=by cases b<;>rfl
section
variable {K:eL}{B:ea}{o:Oper}{n:Nat}{ds:e7}{l:List (Nat×Value)}{m m':aO}{J:aI}{eR:cn->aO->aI->Prop}{d:Nat}
def cV(K:eL)(B:ea)(o:Oper)(n:Nat)(ds:e7)(l:List (Nat×Value))(m:aO)(J:aI)(v:Value):Prop:=∀call aR S H,Sat ⟨n,ds,l⟩ S->Inv K.g0 B J m H->cO K.P call aR S H o=some (.val v H)
theorem aoJ{x:Operand}{v:Value}(ar:o.op=.move x)(U:b7 l x=some v):cV K B o n ds l m J v:=by
 intro call aR S H ax aJ;unfold cO fq;simp only[ar];show gp (bk S.T H x) H=_;rw[du ax H U];rfl
theorem aov{x:Operand}{v:Value}(ar:o.op=.assign x)(U:b7 l x=some v):cV K B o n ds l m J v:=by
 intro call aR S H ax aJ;unfold cO fq;simp only[ar];show gp (bk S.T H x) H=_;rw[du ax H U];rfl
theorem aoN{c x y:Operand}{t:Bool}{v:Value}(ar:o.op=.pick c x y)(aH:b7 l c=some (.bool t))(az:(if t=true then b7 l x else b7 l y)=some v):cV K B o n ds l m J v:=by
 intro call aR S H ax aJ;unfold cO fq;simp only[ar];show zN K.P _ x y (bk S.T H c)=_;rw[du ax H aH];cases t with
 |true=>show gp (bk S.T H x) H=_;rw[du ax H (by simpa using az)];rfl
 |false=>show gp (bk S.T H y) H=_;rw[du ax H (by simpa using az)];rfl
def MN (k:IntKind)(a b:Int):BinOp->Option Value
 |.add=>some (.int k (k.wrap (a+b)))
 |.sub=>some (.int k (k.wrap (a -b)))
 |.mul=>some (.int k (k.wrap (a*b)))
 |.eql=>some (.bool (decide (a=b)))
 |.neq=>some (.bool (decide (¬a=b)))
 |.lss=>some (.bool (decide (a<b)))
 |.leq=>some (.bool (decide (a<=b)))
 |.gtr=>some (.bool (decide (b<a)))
 |.geq=>some (.bool (decide (b<=a)))
 |_=>none
theorem ZH{op:BinOp}{t eD:TypeId}{x y:Operand}{k:IntKind}{a b:Int}{v:Value}(ar:o.op=.binOp op t x y eD)(U:b7 l x=some (.int k a))(ai:b7 l y=some (.int k b))(az:MN k a b op=some v):cV K B o n ds l m J v:=by
 intro call aR S H ax aJ;unfold cO fq;simp only[ar];show nM K.P _ op t (bk S.T H x) (bk S.T H y)=_;rw[du ax H U,du ax H ai];show(bif uk k k then nd H k a b _ op else _)=_;rw[K9,cb];have akT:∀p q:Int,(!decide (p<q))=decide (q<=p):=fun p q=>by rw[o8];simp
 cases op<;>simp only[MN,cp,reduceCtorEq] at az<;>subst az<;>simp only[nd,tC,Fg,pJ,zQ,El,Em,akT]
 ·rw[show(!decide (a=b))=decide (¬a=b) by rw[o8];simp]
inductive ij (m:aO) (J:aI) (a:Nat) (cells:List Value):Prop
 |own {e:TypeId}:(a,cK.row cells e)∈m->ij m J a cells
 |opn {e:TypeId} {r:List Nat} {z:Nat}:(a,cK.opn cells e r z)∈m->ij m J a cells
 |fz {e:TypeId}:J a=some (cells,e)->ij m J a cells
theorem ij.get{a:Nat}{cells:List Value}(h:ij m J a cells){g0:Nat}{H:aB}(aJ:Inv g0 B J m H):∃e o f z s,H.mem.get a=some (.row cells e o f z s):=by
 cases h with
 |own h=>exact⟨_,_,_,_,_,(aJ.own _ _ h).1⟩
 |opn h=>obtain⟨f,_,q,_⟩:=(aJ.own _ _ h).1;exact⟨_,_,_,_,_,q⟩
 |fz h=>obtain⟨o,f,z,s,q⟩:=aJ.fz _ _ _ h;exact⟨_,_,_,_,_,q⟩
theorem gY{t:TypeId}{x:Operand}{a off:Nat}{cells:List Value}{v:Value}(ar:o.op=.load t x)(U:b7 l x=some (.pointer (some ⟨a,off,none⟩)))(ay:ij m J a cells)(az:mo K.P t cells off=some v):cV K B o n ds l m J v:=by
 intro call aR S H ax aJ;unfold cO fq;simp only[ar];show B3 K.P _ t (bk S.T H x)=_;rw[du ax H U];show gp (Dx K.P H t ⟨a,off,none⟩) H=_;obtain⟨e,o',f,z,s,q⟩:=ay.get aJ;unfold Dx;simp only[q,az];rfl
theorem hp{P:Program}{t:TypeId}{cells:List Value}{off:Nat}{v:Value}(aD:r6 P t=some none)(az:nth cells off=some v):mo P t cells off=some v:=by
 unfold mo;rw[aD];exact az
theorem l8{P:Program}{t:TypeId}{cells r:List Value}{off k:Nat}(aD:r6 P t=some (some k))(az:takeN k (oG off cells)=some r):mo P t cells off=some (.agg r.toArray):=by
 unfold mo;rw[aD];simp only[az]
theorem apt{t:TypeId}{x:Operand}{v:Value}{cells:List Value}(ar:o.op=.box t x)(aZ:o.dst=some d)(aP:Nat.blt d n=true)(U:b7 l x=some v)(aH:v.cells.toList=cells)(aa:cells.all eQ=true)(h:∀a,eR ⟨n,ds,(d,.pointer (some ⟨a,0,none⟩))::l⟩ ((a,.row cells t)::m) J):hZ K B o ⟨n,ds,l⟩ m J eR:=by
 refine hZ.x' aZ aP fun S H ax aJ=>?_;obtain⟨H1,aN,bn⟩:=aJ.alloc cells t;refine⟨_,H1,_,J,fun call aR=>?_,bn,h H.ak⟩;unfold cO fq;simp only[ar];show Iu K.P _ t (bk S.T H x)=_;rw[du ax H U];show mJ (w4 H t v)=_;unfold w4 uu;rw[aH,aa,cb,aN];rfl
theorem e4{t:TypeId}{z:Value}{cells:List Value}(ar:o.op=.alloc t)(aZ:o.dst=some d)(aP:Nat.blt d n=true)(bN:fw K.P t=some z)(aw:plain z=true)(aH:z.cells.toList=cells)(aa:cells.all eQ=true)(h:∀a,eR ⟨n,ds,(d,.pointer (some ⟨a,0,none⟩))::l⟩ ((a,.row cells t)::m) J):hZ K B o ⟨n,ds,l⟩ m J eR:=by
 refine hZ.x' aZ aP fun S H ax aJ=>?_;obtain⟨H1,aN,bn⟩:=aJ.alloc cells t;refine⟨_,H1,_,J,fun call aR=>?_,bn,h H.ak⟩;unfold cO fq;simp only[ar];show QE K.P _ t (fw K.P t)=_;rw[bN];show(bif plain z then mJ (w4 H t z) else none)=_;rw[aw,cb];unfold w4 uu;rw[aH,aa,cb,aN];rfl
theorem hz{t:TypeId}{x y:Operand}{a off k:Nat}{v:Value}{vs cells cells':List Value}{e:TypeId}(ar:o.op=.store t x y)(aZ:o.dst=none)(U:b7 l x=some (.pointer (some ⟨a,off,none⟩)))(ai:b7 l y=some v)(aU:ej K.P t=some k)(aH:v.cells.toList=vs)(av:Nat.beq vs.length k=true)(bD:Nat.blt 0 vs.length=true)(aa:vs.all eQ=true)(af:gD off cells vs=some cells')(aw:cR m a (.row cells e) (.row cells' e) m')(h:eR ⟨n,ds,l⟩ m' J):hZ K B o ⟨n,ds,l⟩ m J eR:=by
 refine hZ.skip aZ fun S H ax aJ=>?_;obtain⟨H1,aN,bn⟩:=aJ.store aw;obtain⟨bp,bC,b5,da⟩:=aJ.own _ _ aw.mem;have bp:H.mem.get a=some (.row cells e false 0 0 false):=bp;refine⟨H1,m',J,fun call aR=>?_,bn,h⟩;unfold cO fq;simp only[ar];show EI K.P _ t (bk S.T H x) (bk S.T H y)=_;rw[du ax H U,du ax H ai];show Kl (AT K.P H t (.pointer (some ⟨a,off,none⟩)) v)=_;unfold AT;simp only[aU,aH,av,cb];unfold sk;cases vs with
 |nil=>cases bD
 |cons v0 vs=>
  simp only
  have aq:Nat.blt a H.bZ=false:=by
   cases q:Nat.blt a H.bZ
   ·rfl
   ·have:a<H.bZ:=by simpa[Nat.blt,tc] using q
    have:=aJ.bZ;omega
  rw[aq,dZ,bp];simp only[show Nat.ble 0 off=true from lr (cB _),Je,aa,cb,af,aN,dZ];rfl
theorem aoK{x:Operand}{a:Addr}(ar:o.op=.nilCheck x)(U:b7 l x=some (.pointer (some a))):cV K B o n ds l m J (.pointer (some a)):=by
 intro call aR S H ax aJ;unfold cO fq;simp only[ar];show B6 K.P _ (bk S.T H x)=_;rw[du ax H U];rfl
def DD (P:Program)(s:TypeId)(f:Nat):Option Nat:=match P.underlying s with
 |some (.struct fields)=>(match fields[f]? with
  |some fd=>(match ej P fd.type with|some (_+1)=>some fd.offset|_=>none)
  |none=>none)
 |_=>none
theorem ZG{s:TypeId}{x:Operand}{f a off k:Nat}(ar:o.op=.fieldAddr s x f)(U:b7 l x=some (.pointer (some ⟨a,off,none⟩)))(aC:DD K.P s f=some k):cV K B o n ds l m J (.pointer (some ⟨a,off+k,none⟩)):=by
 intro call aR S H ax aJ;unfold cO fq;simp only[ar];show B2 K.P _ s f (bk S.T H x)=_;rw[du ax H U];show gp (Gv K.P s (.pointer (some ⟨a,off,none⟩)) f) H=_;unfold DD at aC;unfold Gv;simp only
 cases hu:K.P.underlying s with
 |none=>rw[hu] at aC;cases aC
 |some si=>
  rw[hu] at aC;cases si with
  |struct fields=>
   simp only at aC ⊢;cases c7:fields[f]? with
   |none=>rw[c7] at aC;cases aC
   |some fd=>
    rw[c7] at aC;simp only at aC ⊢;cases bN:ej K.P fd.type with
    |none=>rw[bN] at aC;cases aC
    |some z=>
     rw[bN] at aC;cases z with
     |zero=>cases aC
     |succ z=>simp only[cp] at aC;subst aC;rfl
  |_=>cases aC
def GB (P:Program)(s:TypeId)(f:Nat):Option (TypeId×Nat):=match P.underlying s with
 |some (.struct fields)=>(match fields[f]? with
  |some fd=>some (fd.type,fd.offset)
  |none=>none)
 |_=>none
theorem ZF{s t:TypeId}{x:Operand}{f off:Nat}{cs:Array Value}{v:Value}(ar:o.op=.field s x f)(U:b7 l x=some (.agg cs))(aC:GB K.P s f=some (t,off))(az:mo K.P t cs.toList off=some v):cV K B o n ds l m J v:=by
 intro call aR S H ax aJ;unfold cO fq;simp only[ar];show zJ K.P _ f (bk S.T H x) (K.P.underlying s)=_;rw[du ax H U];unfold GB at aC;cases hu:K.P.underlying s with
 |none=>rw[hu] at aC;cases aC
 |some si=>
  rw[hu] at aC;cases si with
  |struct fields=>
   simp only at aC;unfold zJ;simp only
   cases c7:fields[f]? with
   |none=>rw[c7] at aC;cases aC
   |some fd=>
    rw[c7] at aC;simp only[cp,dC] at aC;obtain⟨rfl,rfl⟩:=aC;simp only[az];rfl
  |_=>cases aC
def Dt (P:Program)(t:TypeId):Option Nat:=match P.underlying t with
 |some (.slice e)=>ej P e
 |_=>none
theorem WM{i:Int}{len:Nat}(bD:0<=i)(aa:i<len):uj i len=some i.toNat:=by
 cases i with
 |ofNat n=>
  unfold uj;have:Nat.blt n len=true:=by
   have:n<len:=by simpa using aa
   simpa[Nat.blt,tc] using this
  simp only[this,cb];rfl
 |negSucc n=>exact absurd bD (by simp)
theorem aoC{t:TypeId}{x aX:Operand}{a off len cap sz:Nat}{k:IntKind}{i:Int}(ar:o.op=.indexAddr t x aX)(U:b7 l x=some (.slice (some ⟨a,off,none⟩) len cap))(ao:b7 l aX=some (.int k i))(aD:Dt K.P t=some sz)(bD:0<=i)(aa:i<len):cV K B o n ds l m J (.pointer (some ⟨a,off+i.toNat*sz,none⟩)):=by
 intro call aR S H ax aJ;unfold cO fq;simp only[ar];show zL K.P _ t (bk S.T H x) (bk S.T H aX)=_;rw[du ax H U,du ax H ao];show gp (AR K.P t (.slice (some ⟨a,off,none⟩) len cap) (.int k i)) H=_;unfold Dt at aD;unfold AR;cases hu:K.P.underlying t with
 |none=>rw[hu] at aD;cases aD
 |some si=>
  rw[hu] at aD;cases si with
  |slice e=>
   simp only at aD ⊢;rw[WM bD aa,aD];rfl
  |_=>cases aD
def isSlice (P:Program)(t:TypeId):Bool:=match P.underlying t with|some (.slice _)=>true|_=>false
def sJ (P:Program)(t:TypeId):Bool:=match P.underlying t with|some .string=>true|_=>false
theorem yY{S:bi}{H:aB}{call:eH}{aR:gR}{c:Call}{b:Builtin}(ar:o.op=.call c)(aH:c.callee=.builtin b):cO K.P call aR S H o=pn K.P S H o b c:=by
 unfold cO fq;simp only[ar];show lI K.P _ c=_;unfold lI;rw[aH]
theorem aoH{c:Call}{base:Option Addr}{len cap:Nat}{t:TypeId}(ar:o.op=.call c)(aH:c.callee=.builtin .len)(a':h5 l c.args.toList=some [.slice base len cap])(aD:c.argTypes.toList=[t])(af:isSlice K.P t=true):cV K B o n ds l m J (.int .i64 len):=by
 intro call aR S H ax aJ;rw[yY ar aH];unfold pn;rw[oI ax H a',aD];simp only
 unfold isSlice at af;split at af
 ·rename_i e hu;rw[hu]
 ·cases af
theorem akg{α:Type}(l:List α):BL l=some l.length:=by
 cases h:BL l with
 |none=>
  unfold BL at h;cases au:isNil (oG 256 l) with
  |true=>rw[au] at h;cases h
  |false=>
   rw[au,dZ] at h;split at h
   ·cases h
   ·split at h<;>cases h
 |some k=>rw[W3 h]
theorem aoI{c:Call}{s:ByteArray}{t:TypeId}(ar:o.op=.call c)(aH:c.callee=.builtin .len)(a':h5 l c.args.toList=some [.string s])(aD:c.argTypes.toList=[t])(af:sJ K.P t=true):cV K B o n ds l m J (.int .i64 s.data.toList.length):=by
 intro call aR S H ax aJ;rw[yY ar aH];unfold pn;rw[oI ax H a',aD];simp only
 unfold sJ at af;split at af
 ·rename_i hu;rw[hu];simp only[akg,tC];rfl
 ·cases af
theorem aoF{t:TypeId}{x aX:Operand}{s:ByteArray}{k:IntKind}{i:Int}{b:UInt8}(ar:o.op=.index t x aX)(U:b7 l x=some (.string s))(ao:b7 l aX=some (.int k i))(aD:sJ K.P t=true)(bD:0<=i)(au:s.data.toList[i.toNat]?=some b):cV K B o n ds l m J (.int .u8 b.toNat):=by
 intro call aR S H ax aJ;unfold cO fq;simp only[ar];show zK K.P _ (bk S.T H x) (bk S.T H aX) (K.P.underlying t)=_;rw[du ax H U,du ax H ao];unfold sJ at aD;split at aD
 ·rename_i hu;rw[hu];unfold zK;simp only
  cases i with
  |ofNat j=>
   simp only[kR];rw[show s.data.toList[j]?=some b from au];simp only[tC];rfl
  |negSucc j=>exact absurd bD (by simp)
 ·cases aD
theorem aoz{x:Operand}{aX:Nat}{vs:Array Value}{v:Value}(ar:o.op=.extract x aX)(U:b7 l x=some (.tuple vs))(az:nth vs.toList aX=some v):cV K B o n ds l m J v:=by
 intro call aR S H ax aJ;unfold cO fq;simp only[ar];show B1 K.P _ aX (bk S.T H x)=_;rw[du ax H U];show gp (nth vs.toList aX) H=_;rw[az];rfl
end
def a7(K:eL)(B:ea)(ops:List Oper)(bf:List jr)(F:List (FuncId×List Value))(E:cn)(m:aO)(J:aI)(bL:cn->aO->aI->Prop):Prop:=
 ∀S H,Sat E S->Inv K.g0 B J m H->∃aV:eH,(∀f args H r,aV f args H=some r->(f,args)∉F)/\∃aS H' cL m' ag,
  (∀e9:eH,(∀f args H r,aV f args H=some r->e9 f args H=some r)->dK K.P (il K.Q e9) (g' K.Q hN e9).aR ops bf S H=some (.ok aS H'))/\Sat cL aS/\Inv K.g0 B ag m' H'/\bL cL m' ag
section
variable {K:eL}{B:ea}{ops:List Oper}{bf:List jr}{F:List (FuncId×List Value)}{E:cn}{m m':aO}{J:aI}{o:Oper}{bL:cn->aO->aI->Prop}{c0:Exit->cn->aO->aI->Prop}
variable {n:Nat}{ds:e7}{l:List (Nat×Value)}{d i:Nat}
theorem ab.draw{id:Nat}{a:Array Oper}(av:H4 a.toList=none)(dt:Dn a.toList=true)(aw:IB a.toList=bf)(h:a7 K B a.toList bf [] E m J fun E m J=>c0 .normal E m J):ab K B (.region id a true) E m J c0:=by
 intro S H ax aJ;obtain⟨aV,_,aS,H',cL,m',ag,aa,ae,aG,br⟩:=h S H ax aJ;refine⟨.normal,aS,H',cL,m',ag,ef.xW K.dD.rH hN aV ?_,ae,aG,br⟩;show rP (vo K.P (g' K.Q hN aV).call (g' K.Q hN aV).aR a.toList S H)=_;rw[Jg];unfold vo;rw[av];show rP (w5 K.P (il K.Q aV) (g' K.Q hN aV).aR a.toList S H)=_;unfold w5;rw[dt,cb,aw,aa aV (fun _ _ _ _ q=>q)];rfl
theorem a7.nil(h:bL E m J):a7 K B ops [] F E m J bL:=fun S H ax aJ=>⟨mz,(fun _ _ _ _ q=>by cases q),S,H,E,m,J,fun _ _=>rfl,ax,aJ,h⟩
theorem a7.val{v:Value}(ao:nth ops i=some o)(aq:o.guard=none)(aZ:o.dst=some d)(aP:Nat.blt d n=true)(az:cV K B o n ds l m J v)(h:a7 K B ops bf F ⟨n,ds,(d,v)::l⟩ m J bL):a7 K B ops (.val i::bf) F ⟨n,ds,l⟩ m J bL:=by
 intro S H ax aJ;obtain⟨bq,s1,s2⟩:=ax.put (dst:=some d) aP v;obtain⟨aV,dS,aS,H',cL,m',ag,aa,ae,aG,br⟩:=h bq H s2 aJ;refine⟨aV,dS,aS,H',cL,m',ag,fun e9 q=>?_,ae,aG,br⟩;show jl ops i (mI K.P _ _ ops S H (dK K.P _ _ ops bf))=_;unfold jl;rw[ao];show mI K.P _ _ ops S H (dK K.P _ _ ops bf) o=_;unfold mI fj;rw[aq];show Ct S H o.dst (dK K.P _ _ ops bf) (cO K.P _ _ S H o)=_;rw[az _ _ S H ax aJ,aZ];show(bif Nat.beq H.ak H.ak then pM (dK K.P _ _ ops bf) H (S.put (some d) v) else none)=_;rw[hA,cb,s1];exact aa e9 q
theorem a7.gh{b:ff}{p:cK}{ep:iN}(ao:nth ops i=some o)(aq:o.guard=none)(aZ:o.dst=some d)(aP:Nat.blt d n=true)(a':∀S,Sat ⟨n,ds,l⟩ S->nx K.P S.T o.op=some (b,ep))(aw:∀H a,H.mem.get a=some b->p.at (fun _=>True) H a)(V4:∀c e r z,p≠.opn c e r z)
 (h:∀a,a7 K B ops bf F ⟨n,ds,(d,ep.at a)::l⟩ ((a,p)::m) J bL):a7 K B ops (.gh i::bf) F ⟨n,ds,l⟩ m J bL:=by
 intro S H ax aJ;obtain⟨H1,aN⟩:=aJ.wf.new b;have fJ:p.at B.y2 H1 H.ak:=by
  have q:=aw H1 H.ak (by rw[(aB.qz aN).2.2.2.2.2,aE rfl]);cases p with
  |row=>exact q
  |map=>exact q
  |loop=>exact q
  |iT=>exact q
  |opn c e r z=>exact absurd rfl (V4 c e r z)
 have U2:=aJ.new aN fJ (by cases p with|opn c e r z=>exact absurd rfl (V4 c e r z)|_=>rfl);obtain⟨bq,s1,s2⟩:=ax.put (dst:=some d) aP (ep.at H.ak);obtain⟨aV,dS,aS,H',cL,m',ag,aa,ae,aG,br⟩:=h H.ak bq H1 s2 U2;refine⟨aV,dS,aS,H',cL,m',ag,fun e9 q=>?_,ae,aG,br⟩;show jl ops i (FK K.P ops S H (dK K.P _ _ ops bf))=_;unfold jl;rw[ao];show FK K.P ops S H (dK K.P _ _ ops bf) o=_;unfold FK fj;rw[aq];show MG S H o.dst (dK K.P _ _ ops bf) (nx K.P S.T o.op)=_;rw[a' S ax];show MH S o.dst (dK K.P _ _ ops bf) ep (H.new b)=_;rw[aN,aZ];show pM (dK K.P _ _ ops bf) H1 (S.put (some d) (ep.at H.ak))=_;rw[s1];exact aa e9 q
theorem QI{S:bi}(ax:Sat ⟨n,ds,l⟩ S){x:Operand}{v:Value}(h:b7 l x=some v):qB S.T x=some v:=by
 cases x with
 |tmp t=>exact ax.get t v h
 |const c=>exact h
 |global g=>cases h
 |func f=>exact h
theorem a7.alloc{t:TypeId}{z:Value}{cells:List Value}(ao:nth ops i=some o)(aq:o.guard=none)(ar:o.op=.alloc t)(aZ:o.dst=some d)(aP:Nat.blt d n=true)(bN:fw K.P t=some z)(aw:plain z=true)(aH:z.cells.toList=cells)(aa:cells.all eQ=true)
 (h:∀a,a7 K B ops bf F ⟨n,ds,(d,.pointer (some ⟨a,0,none⟩))::l⟩ ((a,.row cells t)::m) J bL):a7 K B ops (.gh i::bf) F ⟨n,ds,l⟩ m J bL:=by
 refine a7.gh (b:=.row cells t false 0 0 false) (p:=.row cells t) (ep:=.ptr) ao aq aZ aP (fun S ax=>?_) (fun H a q=>q) (fun c e r z q=>by cases q) h;rw[ar];simp only[nx,bN,aw,cb,Az,aH,aa]
theorem a7.bV(ao:nth ops i=some o)(aq:o.guard=none)(h:∀S H,Sat E S->Inv K.g0 B J m H->∃aS H' cL m' ag,(∀call aR,pD S H o.dst (cO K.P call aR S H o)=some (.ok aS H'))/\Sat cL aS/\Inv K.g0 B ag m' H'/\a7 K B ops bf F cL m' ag bL):a7 K B ops (.bV i::bf) F E m J bL:=by
 intro S H ax aJ;obtain⟨bq,H1,lN,m1,dQ,bp,bC,b5,da⟩:=h S H ax aJ;obtain⟨aV,dS,aS,H',cL,m',ag,aa,ae,aG,br⟩:=da bq H1 bC b5;refine⟨aV,dS,aS,H',cL,m',ag,fun e9 q=>?_,ae,aG,br⟩;show jl ops i (fun o=>kn (dK K.P _ _ ops bf) (one K.P _ _ ops S H o))=_;unfold jl;rw[ao];show kn (dK K.P _ _ ops bf) (one K.P _ _ ops S H o)=_;unfold one fj;rw[aq];show kn (dK K.P _ _ ops bf) (pD S H o.dst (cO K.P _ _ S H o))=_;rw[bp];exact aa e9 q
theorem a7.fO(ao:nth ops i=some o)(aq:o.guard=none)(h:hZ K B o E m J fun E m J=>a7 K B ops bf F E m J bL):a7 K B ops (.bV i::bf) F E m J bL:=a7.bV ao aq h
theorem a7.TM{v:Value}(ao:nth ops i=some o)(aq:o.guard=none)(aZ:o.dst=some d)(aP:Nat.blt d n=true)(az:cV K B o n ds l m J v)(h:a7 K B ops bf F ⟨n,ds,(d,v)::l⟩ m J bL):a7 K B ops (.bV i::bf) F ⟨n,ds,l⟩ m J bL:=by
 refine a7.bV ao aq fun S H ax aJ=>?_;obtain⟨bq,s1,s2⟩:=ax.put (dst:=some d) aP v;refine⟨bq,H,_,m,J,fun call aR=>?_,s2,aJ,h⟩;rw[az _ _ S H ax aJ,aZ];show pI H (S.put (some d) v)=_;rw[s1];rfl
theorem a7.JT{c:Call}{x:Operand}{f:FuncId}{first cap:Array Value}{args b6:List Value}{bh bW:aO}{eO:Value->aO->aI->Prop}
 (ao:nth ops i=some o)(aq:o.guard=none)(ar:o.op=.call c)(aZ:o.dst=some d)(aP:Nat.blt d n=true)(aH:c.callee=.value x)(U:b7 l x=some (.func (.func f) first cap))(a':h5 l c.args.toList=some args)(has:(first.toList++args)++cap.toList=b6)
 (aC:(f,b6)∉F)(aw:(bh++bW).Perm m)(fy:ED bh)(fQ:Fn K f b6 bh J eO)(h:∀v m' ag,J.le ag->eO v m' ag->a7 K B ops bf ((f,b6)::F) ⟨n,ds,(d,v)::l⟩ (m'++bW) ag bL):a7 K B ops (.bV i::bf) F ⟨n,ds,l⟩ m J bL:=by
 intro S H ax aJ;obtain⟨v,H',ag,m',bp,bC,b5⟩:=fQ H (aJ.enter aw fy);obtain⟨da,gM⟩:=aJ.leave aw bC;obtain⟨bq,s1,s2⟩:=ax.put (dst:=some d) aP v;obtain⟨aV,dS,aS,qQ,cL,iy,s7,aa,ae,aG,br⟩:=h v m' ag gM b5 bq H' s2 da
 classical
 refine⟨fun cW cz H1=>if cW=f/\cz=b6 then nz f b6 H (.returned v,H') cW cz H1 else aV cW cz H1,fun cW cz H1 r q=>?_,aS,qQ,cL,iy,s7,fun e9 q=>?_,ae,aG,br⟩
 ·simp only at q;split at q
  ·rename_i e;rw[e.1,e.2];exact aC
  ·exact fun dw=>dS cW cz H1 r q (aaG _ dw)
 ·have hC:e9 f b6 H=some (.returned v,H'):=q f b6 H _ (by simp only[and_self,aE];unfold nz;rw[aE ⟨rfl,rfl,rfl⟩]);have Bw:∀cW cz H1 r,aV cW cz H1=some r->e9 cW cz H1=some r:=fun cW cz H1 r ay=>q cW cz H1 r (by
   simp only
   rw[ap (fun e=>dS cW cz H1 r ay (by rw[e.1,e.2];exact List.mem_cons_self))];exact ay)
  show jl ops i (fun o=>kn (dK K.P _ _ ops bf) (one K.P _ _ ops S H o))=_;unfold jl;rw[ao];show kn (dK K.P _ _ ops bf) (one K.P _ _ ops S H o)=_;unfold one fj;rw[aq];show kn (dK K.P _ _ ops bf) (pD S H o.dst (cO K.P _ _ S H o))=_;have he:cO K.P (il K.Q e9) (g' K.Q hN e9).aR S H o=some (.val v H'):=by
   unfold cO fq;simp only[ar];show lI K.P _ c=_;unfold lI;rw[aH];show po K.P _ _ S.T H c=_;unfold po;rw[oI ax H a'];simp only[aH];rw[du ax H U];simp only
   show(match mU K.P H (.func f) (first.toList++args) cap.toList with|some (f,b6)=>q8 (il K.Q _ f b6 H)|none=>none)=_
   unfold mU;simp only
   rw[has,F' bp hC];rfl
  rw[he,aZ];show kn (dK K.P _ _ ops bf) (pI H' (S.put (some d) v))=_;rw[s1];exact aa e9 Bw
theorem a7.call{c:Call}{x:Operand}{f:FuncId}{first cap:Array Value}{args b6:List Value}{bh bW:aO}{eO:Value->aO->aI->Prop}
 (ao:nth ops i=some o)(aq:o.guard=none)(ar:o.op=.call c)(aZ:o.dst=some d)(aP:Nat.blt d n=true)(aH:c.callee=.value x)(U:b7 l x=some (.func (.func f) first cap))(a':h5 l c.args.toList=some args)(has:(first.toList++args)++cap.toList=b6)
 (aC:F.all (fun g=>!Nat.beq g.1 f)=true)(aw:(bh++bW).Perm m)(fy:ED bh)(fQ:Fn K f b6 bh J eO)(h:∀v m' ag,J.le ag->eO v m' ag->a7 K B ops bf ((f,b6)::F) ⟨n,ds,(d,v)::l⟩ (m'++bW) ag bL):a7 K B ops (.bV i::bf) F ⟨n,ds,l⟩ m J bL:=
 a7.JT ao aq ar aZ aP aH U a' has (fun q=>by
  rw[s8] at aC;have:=aC (f,b6) q;simp at this) aw fy fQ h
def nQ(K:eL)(B:ea)(ops:List Oper)(n:Nat)(ds:e7)(l:List (Nat×Value))(m:aO)(J:aI)(i:Nat):Prop:=
 ∀call aR S H,Sat ⟨n,ds,l⟩ S->Inv K.g0 B J m H->wR K.P call aR ops S H i=true
theorem nQ.val{v u:Value}(ao:nth ops i=some o)(aq:o.guard=none)(aZ:o.dst=some d)(az:cV K B o n ds l m J v)(hu:look l d=some u)(he:iC 8 v u=true):nQ K B ops n ds l m J i:=by
 intro call aR S H ax aJ;unfold wR;rw[ao];show JU K.P call aR ops S H o (fj ops S.T o)=true;unfold fj;rw[aq];show JV H.ak S.T o.dst (cO K.P call aR S H o)=true;rw[az _ _ S H ax aJ,aZ];show(Nat.beq H.ak H.ak&&(match S.T.get d with|some u=>iC 8 v u|none=>false))=true
 rw[hA,ax.get d u hu];simpa using he
def s4(K:eL)(B:ea)(ops:List Oper)(n:Nat)(ds:e7)(l:List (Nat×Value))(m:aO)(J:aI):List Nat->Prop
 |[]=>True
 |i::r=>nQ K B ops n ds l m J i/\s4 K B ops n ds l m J r
theorem s4.all{call:eH}{aR:gR}{S:bi}{H:aB}(ax:Sat ⟨n,ds,l⟩ S)(aJ:Inv K.g0 B J m H):∀{is:List Nat},s4 K B ops n ds l m J is->is.all (wR K.P call aR ops S H)=true:=by
 intro is;induction is with
 |nil=>intro _;rfl
 |cons i r aK=>intro h;rw[r1,h.1 call aR S H ax aJ,aK h.2];rfl
theorem a7.cF{is:List Nat}(aH:s4 K B ops n ds l m J is)(h:a7 K B ops bf F ⟨n,ds,l⟩ m J bL):a7 K B ops (.cF is::bf) F ⟨n,ds,l⟩ m J bL:=by
 intro S H ax aJ;obtain⟨aV,dS,aS,H',cL,m',ag,aa,ae,aG,br⟩:=h S H ax aJ;refine⟨aV,dS,aS,H',cL,m',ag,fun e9 q=>?_,ae,aG,br⟩;show AJ K.P _ _ ops S H (dK K.P _ _ ops bf) is=_;unfold AJ;rw[s4.all ax aJ aH,cb];exact aa e9 q
theorem ZY(k:IntKind)(a:Int)(n:Nat):iC (n+1) (.int k a) (.int k a)=true:=by
 show(uk k k&&qq a a)=true;rw[K9,El];simp
end
theorem Zx{α:Type}:∀(l:List α) (i:Nat) (T:bg α),(∀k,k<i->∃v,T.get k=some v)->∃eS,x7 l i T=some eS:=by
 intro l;induction l with
 |nil=>intro i T _;exact⟨T,rfl⟩
 |cons x l aK=>
  intro i T h;obtain⟨CS,dy⟩:=bg.EP x T i h;obtain⟨eS,e⟩:=aK (i+1) CS fun k aU=>by
   rw[bg.get_put dy];split
   ·exact⟨_,rfl⟩
   ·exact h k (by omega)
  refine⟨eS,?_⟩;simp only[x7,bg.set];rw[dy];exact e
theorem cQ{P:Program}{f:FuncId}{fn:Func}(h:P.funcs[f]?=some fn):(DF P).get f=some fn:=by
 obtain⟨T,dy⟩:=Zx P.funcs.toList 0 .leaf (fun k aU=>absurd aU (by omega));unfold DF;rw[dy];simp only
 rw[Rp dy];have c4:f<P.funcs.size:=(RT.1 h).1;rw[aE (by simpa using c4)];simpa using h
section
variable {K:eL}{B:ea}{o:Oper}{n:Nat}{ds:e7}{l:List (Nat×Value)}{m m':aO}{J:aI}{eR:cn->aO->aI->Prop}{d:Nat}
theorem dL{P:Program}{α β:Type}{s:Sem α}{a:α}{f:α->Sem β}(h:eP P s=some a):eP P (s >>= f)=eP P (f a):=by
 show eP P (Sem.bind s f)=_;induction s with
 |pure b=>simp only[eP,cp] at h;subst h;rfl
 |program k aK=>exact aK P (by simpa[eP] using h)
 |mark m k aK=>exact aK (by simpa[eP] using h)
 |_=>simp[eP] at h
theorem w6{P:Program}{t:TypeId}{si:TypeDesc}(h:P.underlying t=some si):eP P (underlying t)=some si:=by
 have:eP P (underlying t)=eP P (match P.underlying t with|some d=>pure d|none=>stuck "no such type"):=by
  rfl
 rw[this,h];rfl
theorem jy{E:cn}{S:bi}(ax:Sat E S)(H:aB){x:Operand}{v:Value}(h:b7 E.l x=some v):pG S.T H x=v:=by
 unfold pG;rw[du ax H h]
theorem ami{x:Operand}{a v:Value}{S:bi}{H:aB}(ax:Sat ⟨n,ds,l⟩ S)(Pr:o.op.operands.toList=[x])(U:b7 l x=some a)(a':plain a=true)(he:eP K.P (execOp (pG S.T H) o)=some (.value v))(az:plain v=true):fI K.P S.T H o=some (.val v H):=by
 unfold fI;rw[Pr];have:ez S.T H [x]=some [a]:=by simp only[ez];rw[du ax H U]
 rw[this];simp only[r1,Fs,a',wg,cb,he,az]
theorem uz{x y:Operand}{a b v:Value}{S:bi}{H:aB}(ax:Sat ⟨n,ds,l⟩ S)(Pr:o.op.operands.toList=[x,y])(U:b7 l x=some a)(ai:b7 l y=some b)(a':plain a=true)(au:plain b=true)(he:eP K.P (execOp (pG S.T H) o)=some (.value v))(az:plain v=true):fI K.P S.T H o=some (.val v H):=by
 unfold fI;rw[Pr];have:ez S.T H [x,y]=some [a,b]:=by simp only[ez];rw[du ax H U,du ax H ai]
 rw[this];simp only[r1,Fs,a',au,wg,cb,he,az]
theorem ZK{t:TypeId}{x:Operand}{b:Bool}(ar:o.op=.unOp .not t x)(U:b7 l x=some (.bool b)):cV K B o n ds l m J (.bool (!b)):=by
 intro call aR S H ax aJ;unfold cO fq;simp only[ar];show fI K.P S.T H o=_;refine ami ax (by rw[ar];rfl) U rfl ?_ rfl;unfold execOp;simp only[ar];rw[jy ax H U];rfl
theorem aoL{t:TypeId}{x:Operand}{p:Prop}[Decidable p](ar:o.op=.unOp .not t x)(U:b7 l x=some (.bool (decide p))):cV K B o n ds l m J (.bool (decide (¬p))):=by
 have:=ZK (K:=K) (B:=B) (n:=n) (ds:=ds) (m:=m) (J:=J) ar U;rwa [show(!decide p)=decide (¬p) by simp] at this
theorem S6(a b:List UInt8):((⟨⟨a⟩⟩:ByteArray).toList==(⟨⟨b⟩⟩:ByteArray).toList)=decide (a=b):=by
 rw[ByteArray.toList_eq,ByteArray.toList_eq,o8];simp
def isInt (P:Program)(s d:TypeId):Option IntKind:=match P.underlying s,P.underlying d with
 |some _,some (.int k)=>some k
 |_,_=>none
theorem aoy{s t:TypeId}{x:Operand}{k ft:IntKind}{a b:Int}(ar:o.op=.convert s t x)(U:b7 l x=some (.int ft a))(aD:isInt K.P s t=some k)(hw:k.wrap a=b):cV K B o n ds l m J (.int k b):=by
 intro call aR S H ax aJ;unfold cO fq;simp only[ar];show uy K.P _ s t (bk S.T H x)=_;rw[du ax H U];unfold uy;simp only
 unfold isInt at aD;split at aD
 ·rename_i aa ae;rw[aa,ae];injection aD with aD;subst aD
  simp only[tC,Fg,hw];rfl
 ·cases aD
def Io (P:Program)(t:TypeId):Bool:=match P.underlying t with
 |some (.interface _)=>false
 |some _=>true
 |none=>false
theorem aoB{t:TypeId}{x:Operand}{v:Value}(ar:o.op=.makeInterface t x)(U:b7 l x=some v)(aD:Io K.P t=true):cV K B o n ds l m J (.iface t v):=by
 intro call aR S H ax aJ;unfold cO fq;simp only[ar];show B5 K.P _ t (bk S.T H x) (K.P.underlying t)=_;rw[du ax H U];unfold Io at aD;cases hu:K.P.underlying t with
 |none=>rw[hu] at aD;cases aD
 |some si=>rw[hu] at aD;cases si<;>first|rfl|cases aD
theorem aoA{f:FuncId}{a b:Array Operand}{bx ya:List Value}(ar:o.op=.makeFunc (.func f) a b)(a':h5 l a.toList=some bx)(au:h5 l b.toList=some ya):cV K B o n ds l m J (.func (.func f) bx.toArray ya.toArray):=by
 intro call aR S H ax aJ;unfold cO fq;simp only[ar];show B4 K.P _ (.func f) (ez S.T H a.toList) (ez S.T H b.toList)=_;rw[oI ax H a',oI ax H au];rfl
def tz (l:List (Nat×Value)):List (Nat×Operand)->Option (List (Nat×Value))
 |[]=>some []
 |(i,x)::r=>match b7 l x with
  |some v=>(match tz l r with|some vs=>some ((i,v)::vs)|none=>none)
  |none=>none
theorem Ud{E:cn}{S:bi}(ax:Sat E S)(H:aB):∀{xs:List (Nat×Operand)} {vs:List (Nat×Value)},tz E.l xs=some vs->lj S.T H xs=some vs:=by
 intro xs;induction xs with
 |nil=>intro vs h;exact h
 |cons x r aK=>
  obtain⟨i,x⟩:=x;intro vs h;simp only[tz] at h;simp only[lj];cases U:b7 E.l x with
  |none=>rw[U] at h;cases h
  |some v=>
   rw[U] at h;simp only at h;rw[du ax H U];simp only;cases ay:tz E.l r with
   |none=>rw[ay] at h;cases h
   |some ws=>rw[ay] at h;simp only at h;rw[aK ay];exact h
def F3 (P:Program)(t:TypeId):Option (Sum (List (Nat×Nat)) Nat×List Value):=match fw P t,P.underlying t with
 |some z,some (.struct fields)=>bif plain z then(match places P fields.toList with|some eG=>some (.inl eG,z.cells.toList)|none=>none) else none
 |some z,some (.array _ elem)=>bif plain z then(match ej P elem with|some sz=>some (.inr sz,z.cells.toList)|none=>none) else none
 |_,_=>none
def placeOf:Sum (List (Nat×Nat)) Nat->Nat->Option (Nat×Nat)
 |.inl eG=>nth eG
 |.inr sz=>fun i=>some (i*sz,sz)
theorem aox{t:TypeId}{eG:Array (Nat×Operand)}{vs:List (Nat×Value)}{pl:Sum (List (Nat×Nat)) Nat}{z cells:List Value}(ar:o.op=.build t eG)(aw:tz l eG.toList=some vs)(aD:F3 K.P t=some (pl,z))(aC:nC (placeOf pl) z vs=some cells):cV K B o n ds l m J (.agg cells.toArray):=by
 intro call aR S H ax aJ;unfold cO fq;simp only[ar];show B0 K.P _ t (lj S.T H eG.toList)=_;rw[Ud ax H aw];show gp (Gr K.P t vs) H=_;unfold F3 at aD;unfold Gr;cases bN:fw K.P t with
 |none=>rw[bN] at aD;cases aD
 |some CC=>
  rw[bN] at aD;cases hu:K.P.underlying t with
  |none=>rw[hu] at aD;cases aD
  |some si=>
   rw[hu] at aD;cases si with
   |struct fields=>
    simp only at aD ⊢;cases Hv:plain CC with
    |false=>rw[Hv] at aD;cases aD
    |true=>
     rw[Hv,cb] at aD;rw[cb];cases c7:places K.P fields.toList with
     |none=>rw[c7] at aD;cases aD
     |some sV=>
      rw[c7] at aD;simp only[cp,dC] at aD;obtain⟨rfl,rfl⟩:=aD;have aC:nC (nth sV) CC.cells.toList vs=some cells:=aC;simp only[aC];rfl
   |array k elem=>
    simp only at aD ⊢;cases Hv:plain CC with
    |false=>rw[Hv] at aD;cases aD
    |true=>
     rw[Hv,cb] at aD;rw[cb];cases c7:ej K.P elem with
     |none=>rw[c7] at aD;cases aD
     |some sz=>
      rw[c7] at aD;simp only[cp,dC] at aD;obtain⟨rfl,rfl⟩:=aD;have aC:nC (fun i=>some (i*sz,sz)) CC.cells.toList vs=some cells:=aC;simp only[aC];rfl
   |_=>cases aD
def AA (P:Program)(t:TypeId):Option (Nat×TypeId×Nat):=match P.underlying t with
 |some (.array len elem)=>(match ej P elem with|some sz=>some (len,elem,sz)|none=>none)
 |_=>none
theorem abf{P:Program}{t elem:TypeId}{len sz:Nat}(h:AA P t=some (len,elem,sz)):P.underlying t=some (.array len elem)/\ej P elem=some sz:=by
 unfold AA at h;split at h
 ·rename_i aa;split at h
  ·rename_i ae;simp only[cp,dC] at h;obtain⟨rfl,rfl,rfl⟩:=h;exact⟨aa,ae⟩
  ·cases h
 ·cases h
theorem aoD{t elem:TypeId}{x aX:Operand}{a off len sz:Nat}{k:IntKind}{i:Int}(ar:o.op=.indexAddr t x aX)(U:b7 l x=some (.pointer (some ⟨a,off,none⟩)))(ao:b7 l aX=some (.int k i))(aD:AA K.P t=some (len,elem,sz))(bD:0<=i)(aa:i<len):cV K B o n ds l m J (.pointer (some ⟨a,off+i.toNat*sz,none⟩)):=by
 obtain⟨hu,bN⟩:=abf aD;intro call aR S H ax aJ;unfold cO fq;simp only[ar];show zL K.P _ t (bk S.T H x) (bk S.T H aX)=_;rw[du ax H U,du ax H ao];show gp (AR K.P t (.pointer (some ⟨a,off,none⟩)) (.int k i)) H=_;unfold AR;simp only[hu,WM bD aa,bN];rfl
theorem MO{op:BinOp}{t eD:TypeId}{x y:Operand}{a b:Value}{r:Bool}{S:bi}{H:aB}{call:eH}{aR:gR}(ar:o.op=.binOp op t x y eD)(U:bk S.T H x=some a)(ai:bk S.T H y=some b)(ao:∀k i,a≠.int k i)(aw:fI K.P S.T H o=none)(he:uw K.P ⟨call,aR,S,H,o⟩ t a b op=some (.val (.bool r) H)):cO K.P call aR S H o=some (.val (.bool r) H):=by
 unfold cO fq;simp only[ar];show nM K.P _ op t (bk S.T H x) (bk S.T H y)=_;rw[U,ai];have:nM K.P ⟨call,aR,S,H,o⟩ op t (some a) (some b)=ux K.P ⟨call,aR,S,H,o⟩ op t a b:=by
  cases a<;>first|rfl|exact absurd rfl (ao _ _)
 rw[this];unfold ux;show orElse (fI K.P S.T H o) _=_;rw[aw];exact he
theorem aoQ{op:BinOp}{t eD:TypeId}{x y:Operand}{b:Option Addr}{len cap:Nat}(ar:o.op=.binOp .eql t x y eD)(U:b7 l x=some (.slice b len cap))(ai:b7 l y=some (.slice none 0 0))(aD:isSlice K.P t=true):cV K B o n ds l m J (.bool b.isNone):=by
 intro call aR S H ax aJ;unfold isSlice at aD;split at aD
 ·rename_i e hu;cases b with
  |none=>
   unfold cO fq;simp only[ar];show nM K.P _ .eql t (bk S.T H x) (bk S.T H y)=_;rw[du ax H U,du ax H ai];show orElse (fI K.P S.T H o) _=_;have:fI K.P S.T H o=some (.val (.bool true) H):=by
    refine uz ax (by rw[ar];rfl) U ai rfl rfl ?_ rfl;unfold execOp;simp only[ar];rw[jy ax H U,jy ax H ai];rw[dL (a:=.bool true)]
    ·rfl
    rw[dL (a:=()) (by rfl)];have au:binOp .eql t (.slice none len cap) (.slice none 0 0)=(do pure (.bool (<-Op.equal t (.slice none len cap) (.slice none 0 0)))):=by simp[binOp]
    rw[au,dL (a:=true)]
    ·rfl
    show eP K.P (Op.equalIn (9999+1) t (.slice none len cap) (.slice none 0 0))=_;unfold Op.equalIn;rw[dL (w6 hu)];rfl
   rw[this];rfl
  |some a=>
   refine MO ar (du ax H U) (du ax H ai) (fun _ _ q=>by cases q) ?_ ?_
   ·unfold fI;rw[ar];have:ez S.T H (Op.binOp BinOp.eql t x y eD).operands.toList=some [.slice (some a) len cap,.slice none 0 0]:=by
     show ez S.T H [x,y]=_;simp only[ez];rw[du ax H U,du ax H ai]
    rw[this];rfl
   ·unfold uw tA;simp only[hu];rfl
 ·cases aD
end
end
end Go.Opn

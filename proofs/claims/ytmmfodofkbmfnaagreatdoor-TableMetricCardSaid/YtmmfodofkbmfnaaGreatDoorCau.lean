/- A part of the proof of TableMetric. -/
import Derived.Test.YtmmfodofkbmfnaaGreatDoorCat
import Derived.Laws.Strings
set_option linter.unusedVariables false
set_option linter.unusedSimpArgs false
namespace Go.Opn
noncomputable section
open Go.Cre Go.RowKit
theorem n'{α:Type}(n:Int)(k:Int->α):mv n k=k n:=by
 cases n with
 |ofNat m=>cases m<;>rfl
 |negSucc m=>cases m<;>rfl
theorem wy(a b:Int):lX a b=decide (a<b):=by
 cases a with
 |ofNat m=>cases b with
  |ofNat n=>simp only[lX];rw[mb];simp
  |negSucc n=>simp only[lX];rw[mb];simp;omega
 |negSucc m=>cases b with
  |ofNat n=>simp only[lX];rw[mb];simp;omega
  |negSucc n=>simp only[lX];rw[mb];simp;omega
theorem wx(a b:Int):lW a b=decide (a=b):=by
 cases a with
 |ofNat m=>cases b with
  |ofNat n=>simp only[lW];rw[mb];simp;omega
  |negSucc n=>simp only[lW];rw[mb];simp
 |negSucc m=>cases b with
  |ofNat n=>simp only[lW];rw[mb];simp
  |negSucc n=>simp only[lW];rw[mb];simp
theorem wD(k:IntKind):kr k k=true:=by cases k<;>rfl
theorem wrap_i64{n:Int}(U:-9223372036854775808<=n)(ab:n<=9223372036854775807):IntKind.i64.wrap n=n:=by
 unfold IntKind.wrap IntKind.signed IntKind.bits;simp only[HC,A2];split<;>omega
theorem sQ(H:ah)(b:Bool):rf H b=some (.val (.bool b) H):=by cases b<;>rfl
section
variable {K:di}{B:c6}{o:Oper}{n:Nat}{ds:dL}{l:List (Nat×Value)}{m m':aU}{J:an}{dS:bK->aU->an->Prop}{d:Nat}
def ch(K:di)(B:c6)(o:Oper)(n:Nat)(ds:dL)(l:List (Nat×Value))(m:aU)(J:an)(v:Value):Prop:=∀call az S H,Sat ⟨n,ds,l⟩ S->Inv K.g0 B J m H->cc K.P call az S H o=some (.val v H)
theorem ZN{x:Operand}{v:Value}(ae:o.op=.move x)(j:bB l x=some v):ch K B o n ds l m J v:=by
 intro call az S H al au;unfold cc eh;simp only[ae];show e' (aR S.T H x) H=_;rw[cX al H j];rfl
theorem Zv{x:Operand}{v:Value}(ae:o.op=.assign x)(j:bB l x=some v):ch K B o n ds l m J v:=by
 intro call az S H al au;unfold cc eh;simp only[ae];show e' (aR S.T H x) H=_;rw[cX al H j];rfl
theorem ZR{c x y:Operand}{t:Bool}{v:Value}(ae:o.op=.pick c x y)(aF:bB l c=some (.bool t))(aD:(if t=true then bB l x else bB l y)=some v):ch K B o n ds l m J v:=by
 intro call az S H al au;unfold cc eh;simp only[ae];show sJ K.P _ x y (aR S.T H c)=_;rw[cX al H aF];cases t with
 |true=>show e' (aR S.T H x) H=_;rw[cX al H (by simpa using aD)];rfl
 |false=>show e' (aR S.T H y) H=_;rw[cX al H (by simpa using aD)];rfl
def Dy (k:IntKind)(a b:Int):BinOp->Option Value
 |.add=>some (.int k (k.wrap (a+b)))
 |.sub=>some (.int k (k.wrap (a -b)))
 |.mul=>some (.int k (k.wrap (a*b)))
 |.eql=>some (.bool (decide (a=b)))
 |.neq=>some (.bool (decide (¬a=b)))
 |.lss=>some (.bool (decide (a<b)))
 |.leq=>some (.bool (decide (a<=b)))
 |.gtr=>some (.bool (decide (b<a)))
 |.geq=>some (.bool (decide (b<=a)))
 |_=>none
theorem NH{op:BinOp}{t dq:TypeId}{x y:Operand}{k:IntKind}{a b:Int}{v:Value}(ae:o.op=.binOp op t x y dq)(j:bB l x=some (.int k a))(aC:bB l y=some (.int k b))(aD:Dy k a b op=some v):ch K B o n ds l m J v:=by
 intro call az S H al au;unfold cc eh;simp only[ae];show ja K.P _ op t (aR S.T H x) (aR S.T H y)=_;rw[cX al H j,cX al H aC];show(bif kr k k then h1 H k a b _ op else _)=_;rw[wD,bH];have Wo:∀p q:Int,(!decide (p<q))=decide (q<=p):=fun p q=>by rw[mb];simp
 cases op<;>simp only[Dy,bL,reduceCtorEq] at aD<;>subst aD<;>simp only[h1,n',xg,ln,sQ,wx,wy,Wo]
 ·rw[show(!decide (a=b))=decide (¬a=b) by rw[mb];simp]
inductive lG (m:aU) (J:an) (a:Nat) (cells:List Value):Prop
 |own {e:TypeId}:(a,db.row cells e)∈m->lG m J a cells
 |opn {e:TypeId} {r:List Nat} {z:Nat}:(a,db.opn cells e r z)∈m->lG m J a cells
 |dv {e:TypeId}:J a=some (cells,e)->lG m J a cells
theorem lG.get{a:Nat}{cells:List Value}(h:lG m J a cells){g0:Nat}{H:ah}(au:Inv g0 B J m H):∃e o f z s,H.mem.get a=some (.row cells e o f z s):=by
 cases h with
 |own h=>exact⟨_,_,_,_,_,(au.own _ _ h).1⟩
 |opn h=>obtain⟨f,_,q,_⟩:=(au.own _ _ h).1;exact⟨_,_,_,_,_,q⟩
 |dv h=>obtain⟨o,f,z,s,q⟩:=au.dv _ _ _ h;exact⟨_,_,_,_,_,q⟩
theorem CP{t:TypeId}{x:Operand}{a off:Nat}{cells:List Value}{v:Value}(ae:o.op=.load t x)(j:bB l x=some (.pointer (some ⟨a,off,none⟩)))(ap:lG m J a cells)(aD:jj K.P t cells off=some v):ch K B o n ds l m J v:=by
 intro call az S H al au;unfold cc eh;simp only[ae];show uD K.P _ t (aR S.T H x)=_;rw[cX al H j];show e' (vy K.P H t ⟨a,off,none⟩) H=_;obtain⟨e,o',f,z,s,q⟩:=ap.get au;unfold vy;simp only[q,aD];rfl
theorem zN{P:Program}{t:TypeId}{cells:List Value}{off:Nat}{v:Value}(aG:m8 P t=some none)(aD:nth cells off=some v):jj P t cells off=some v:=by
 unfold jj;rw[aG];exact aD
theorem gh{P:Program}{t:TypeId}{cells r:List Value}{off k:Nat}(aG:m8 P t=some (some k))(aD:takeN k (lJ off cells)=some r):jj P t cells off=some (.agg r.toArray):=by
 unfold jj;rw[aG];simp only[aD]
theorem aaj{t:TypeId}{x:Operand}{v:Value}{cells:List Value}(ae:o.op=.box t x)(ax:o.dst=some d)(aE:Nat.blt d n=true)(j:bB l x=some v)(aF:v.cells.toList=cells)(U:cells.all dY=true)(h:∀a,dS ⟨n,ds,(d,.pointer (some ⟨a,0,none⟩))::l⟩ ((a,.row cells t)::m) J):g' K B o ⟨n,ds,l⟩ m J dS:=by
 refine g'.uW ax aE fun S H al au=>?_;obtain⟨H1,aA,aW⟩:=au.alloc cells t;refine⟨_,H1,_,J,fun call az=>?_,aW,h H.av⟩;unfold cc eh;simp only[ae];show zH K.P _ t (aR S.T H x)=_;rw[cX al H j];show jT (qx H t v)=_;unfold qx oG;rw[aF,U,bH,aA];rfl
theorem gN{t:TypeId}{z:Value}{cells:List Value}(ae:o.op=.alloc t)(ax:o.dst=some d)(aE:Nat.blt d n=true)(a0:fw K.P t=some z)(ao:plain z=true)(aF:z.cells.toList=cells)(U:cells.all dY=true)(h:∀a,dS ⟨n,ds,(d,.pointer (some ⟨a,0,none⟩))::l⟩ ((a,.row cells t)::m) J):g' K B o ⟨n,ds,l⟩ m J dS:=by
 refine g'.uW ax aE fun S H al au=>?_;obtain⟨H1,aA,aW⟩:=au.alloc cells t;refine⟨_,H1,_,J,fun call az=>?_,aW,h H.av⟩;unfold cc eh;simp only[ae];show Gy K.P _ t (fw K.P t)=_;rw[a0];show(bif plain z then jT (qx H t z) else none)=_;rw[ao,bH];unfold qx oG;rw[aF,U,bH,aA];rfl
theorem nP{t:TypeId}{x y:Operand}{a off k:Nat}{v:Value}{vs cells cells':List Value}{e:TypeId}(ae:o.op=.store t x y)(ax:o.dst=none)(j:bB l x=some (.pointer (some ⟨a,off,none⟩)))(aC:bB l y=some v)(hk:dD K.P t=some k)(aF:v.cells.toList=vs)(aw:Nat.beq vs.length k=true)(a2:Nat.blt 0 vs.length=true)(U:vs.all dY=true)(ag:fD off cells vs=some cells')(ao:e6 m a (.row cells e) (.row cells' e) m')(h:dS ⟨n,ds,l⟩ m' J):g' K B o ⟨n,ds,l⟩ m J dS:=by
 refine g'.skip ax fun S H al au=>?_;obtain⟨H1,aA,aW⟩:=au.store ao;obtain⟨a8,a5,bI,cL⟩:=au.own _ _ ao.mem;have a8:H.mem.get a=some (.row cells e false 0 0 false):=a8;refine⟨H1,m',J,fun call az=>?_,aW,h⟩;unfold cc eh;simp only[ae];show wO K.P _ t (aR S.T H x) (aR S.T H y)=_;rw[cX al H j,cX al H aC];show Bj (tB K.P H t (.pointer (some ⟨a,off,none⟩)) v)=_;unfold tB;simp only[hk,aF,aw,bH];unfold ni;cases vs with
 |nil=>cases a2
 |cons ig vs=>
  simp only
  have ar:Nat.blt a H.bf=false:=by
   cases q:Nat.blt a H.bf
   ·rfl
   ·have:a<H.bf:=by simpa[Nat.blt,o5] using q
    have:=au.bf;omega
  rw[ar,cZ,a8];simp only[show Nat.ble 0 off=true from jx (fj _),HC,U,bH,ag,aA,cZ];rfl
theorem ZO{x:Operand}{a:Addr}(ae:o.op=.nilCheck x)(j:bB l x=some (.pointer (some a))):ch K B o n ds l m J (.pointer (some a)):=by
 intro call az S H al au;unfold cc eh;simp only[ae];show uG K.P _ (aR S.T H x)=_;rw[cX al H j];rfl
def vD (P:Program)(s:TypeId)(f:Nat):Option Nat:=match P.underlying s with
 |some (.struct fields)=>(match fields[f]? with
  |some fd=>(match dD P fd.type with|some (_+1)=>some fd.offset|_=>none)
  |none=>none)
 |_=>none
theorem ZA{s:TypeId}{x:Operand}{f a off k:Nat}(ae:o.op=.fieldAddr s x f)(j:bB l x=some (.pointer (some ⟨a,off,none⟩)))(ay:vD K.P s f=some k):ch K B o n ds l m J (.pointer (some ⟨a,off+k,none⟩)):=by
 intro call az S H al au;unfold cc eh;simp only[ae];show uC K.P _ s f (aR S.T H x)=_;rw[cX al H j];show e' (yb K.P s (.pointer (some ⟨a,off,none⟩)) f) H=_;unfold vD at ay;unfold yb;simp only
 cases hu:K.P.underlying s with
 |none=>rw[hu] at ay;cases ay
 |some nf=>
  rw[hu] at ay;cases nf with
  |struct fields=>
   simp only at ay ⊢;cases bY:fields[f]? with
   |none=>rw[bY] at ay;cases ay
   |some fd=>
    rw[bY] at ay;simp only at ay ⊢;cases a0:dD K.P fd.type with
    |none=>rw[a0] at ay;cases ay
    |some z=>
     rw[a0] at ay;cases z with
     |zero=>cases ay
     |succ z=>simp only[bL] at ay;subst ay;rfl
  |_=>cases ay
def yf (P:Program)(s:TypeId)(f:Nat):Option (TypeId×Nat):=match P.underlying s with
 |some (.struct fields)=>(match fields[f]? with
  |some fd=>some (fd.type,fd.offset)
  |none=>none)
 |_=>none
theorem NG{s t:TypeId}{x:Operand}{f off:Nat}{cs:Array Value}{v:Value}(ae:o.op=.field s x f)(j:bB l x=some (.agg cs))(ay:yf K.P s f=some (t,off))(aD:jj K.P t cs.toList off=some v):ch K B o n ds l m J v:=by
 intro call az S H al au;unfold cc eh;simp only[ae];show sH K.P _ f (aR S.T H x) (K.P.underlying s)=_;rw[cX al H j];unfold yf at ay;cases hu:K.P.underlying s with
 |none=>rw[hu] at ay;cases ay
 |some nf=>
  rw[hu] at ay;cases nf with
  |struct fields=>
   simp only at ay;unfold sH;simp only
   cases bY:fields[f]? with
   |none=>rw[bY] at ay;cases ay
   |some fd=>
    rw[bY] at ay;simp only[bL,cU] at ay;obtain⟨rfl,rfl⟩:=ay;simp only[aD];rfl
  |_=>cases ay
def vv (P:Program)(t:TypeId):Option Nat:=match P.underlying t with
 |some (.slice e)=>dD P e
 |_=>none
theorem FR{i:Int}{len:Nat}(a2:0<=i)(U:i<len):oA i len=some i.toNat:=by
 cases i with
 |ofNat n=>
  unfold oA;have:Nat.blt n len=true:=by
   have:n<len:=by simpa using U
   simpa[Nat.blt,o5] using this
  simp only[this,bH];rfl
 |negSucc n=>exact absurd a2 (by simp)
theorem ZE{t:TypeId}{x bw:Operand}{a off len cap sz:Nat}{k:IntKind}{i:Int}(ae:o.op=.indexAddr t x bw)(j:bB l x=some (.slice (some ⟨a,off,none⟩) len cap))(aq:bB l bw=some (.int k i))(aG:vv K.P t=some sz)(a2:0<=i)(U:i<len):ch K B o n ds l m J (.pointer (some ⟨a,off+i.toNat*sz,none⟩)):=by
 intro call az S H al au;unfold cc eh;simp only[ae];show q8 K.P _ t (aR S.T H x) (aR S.T H bw)=_;rw[cX al H j,cX al H aq];show e' (qz K.P t (.slice (some ⟨a,off,none⟩) len cap) (.int k i)) H=_;unfold vv at aG;unfold qz;cases hu:K.P.underlying t with
 |none=>rw[hu] at aG;cases aG
 |some nf=>
  rw[hu] at aG;cases nf with
  |slice e=>
   simp only at aG ⊢;rw[FR a2 U,aG];rfl
  |_=>cases aG
def isSlice (P:Program)(t:TypeId):Bool:=match P.underlying t with|some (.slice _)=>true|_=>false
def pE (P:Program)(t:TypeId):Bool:=match P.underlying t with|some .string=>true|_=>false
theorem vx{S:aO}{H:ah}{call:dI}{az:ff}{c:Call}{b:Builtin}(ae:o.op=.call c)(aF:c.callee=.builtin b):cc K.P call az S H o=mr K.P S H o b c:=by
 unfold cc eh;simp only[ae];show js K.P _ c=_;unfold js;rw[aF]
theorem ZK{c:Call}{base:Option Addr}{len cap:Nat}{t:TypeId}(ae:o.op=.call c)(aF:c.callee=.builtin .len)(aK:hz l c.args.toList=some [.slice base len cap])(aG:c.argTypes.toList=[t])(ag:isSlice K.P t=true):ch K B o n ds l m J (.int .i64 len):=by
 intro call az S H al au;rw[vx ae aF];unfold mr;rw[mq al H aK,aG];simp only
 unfold isSlice at ag;split at ag
 ·rename_i e hu;rw[hu]
 ·cases ag
theorem VG{α:Type}(l:List α):uq l=some l.length:=by
 cases h:uq l with
 |none=>
  unfold uq at h;cases af:isNil (lJ 256 l) with
  |true=>rw[af] at h;cases h
  |false=>
   rw[af,cZ] at h;split at h
   ·cases h
   ·split at h<;>cases h
 |some k=>rw[Lx h]
theorem ZL{c:Call}{s:ByteArray}{t:TypeId}(ae:o.op=.call c)(aF:c.callee=.builtin .len)(aK:hz l c.args.toList=some [.string s])(aG:c.argTypes.toList=[t])(ag:pE K.P t=true):ch K B o n ds l m J (.int .i64 s.data.toList.length):=by
 intro call az S H al au;rw[vx ae aF];unfold mr;rw[mq al H aK,aG];simp only
 unfold pE at ag;split at ag
 ·rename_i hu;rw[hu];simp only[VG,n'];rfl
 ·cases ag
theorem ZI{t:TypeId}{x bw:Operand}{s:ByteArray}{k:IntKind}{i:Int}{b:UInt8}(ae:o.op=.index t x bw)(j:bB l x=some (.string s))(aq:bB l bw=some (.int k i))(aG:pE K.P t=true)(a2:0<=i)(af:s.data.toList[i.toNat]?=some b):ch K B o n ds l m J (.int .u8 b.toNat):=by
 intro call az S H al au;unfold cc eh;simp only[ae];show sI K.P _ (aR S.T H x) (aR S.T H bw) (K.P.underlying t)=_;rw[cX al H j,cX al H aq];unfold pE at aG;split at aG
 ·rename_i hu;rw[hu];unfold sI;simp only
  cases i with
  |ofNat aa=>
   simp only[jr];rw[show s.data.toList[aa]?=some b from af];simp only[n'];rfl
  |negSucc aa=>exact absurd a2 (by simp)
 ·cases aG
theorem Zz{x:Operand}{bw:Nat}{vs:Array Value}{v:Value}(ae:o.op=.extract x bw)(j:bB l x=some (.tuple vs))(aD:nth vs.toList bw=some v):ch K B o n ds l m J v:=by
 intro call az S H al au;unfold cc eh;simp only[ae];show uB K.P _ bw (aR S.T H x)=_;rw[cX al H j];show e' (nth vs.toList bw) H=_;rw[aD];rfl
end
def bR(K:di)(B:c6)(ops:List Oper)(a6:List g9)(F:List (FuncId×List Value))(E:bK)(m:aU)(J:an)(bt:bK->aU->an->Prop):Prop:=
 ∀S H,Sat E S->Inv K.g0 B J m H->∃bx:dI,(∀f args H r,bx f args H=some r->(f,args)∉F)/\∃aB H' cy m' ai,
  (∀fq:dI,(∀f args H r,bx f args H=some r->fq f args H=some r)->dt K.P (hs K.Q fq) (gl K.Q hB fq).az ops a6 S H=some (.ok aB H'))/\Sat cy aB/\Inv K.g0 B ai m' H'/\bt cy m' ai
section
variable {K:di}{B:c6}{ops:List Oper}{a6:List g9}{F:List (FuncId×List Value)}{E:bK}{m m':aU}{J:an}{o:Oper}{bt:bK->aU->an->Prop}{cC:Exit->bK->aU->an->Prop}
variable {n:Nat}{ds:dL}{l:List (Nat×Value)}{d i:Nat}
theorem ad.draw{id:Nat}{a:Array Oper}(aw:B4 a.toList=none)(iq:x6 a.toList=true)(ao:Cv a.toList=a6)(h:bR K B a.toList a6 [] E m J fun E m J=>cC .normal E m J):ad K B (.region id a true) E m J cC:=by
 intro S H al au;obtain⟨bx,_,aB,H',cy,m',ai,U,ab,aV,br⟩:=h S H al au;refine⟨.normal,aB,H',cy,m',ai,c2.sF K.dN.nD hB bx ?_,ab,aV,br⟩;show oR (rZ K.P (gl K.Q hB bx).call (gl K.Q hB bx).az a.toList S H)=_;rw[C4];unfold rZ;rw[aw];show oR (ty K.P (hs K.Q bx) (gl K.Q hB bx).az a.toList S H)=_;unfold ty;rw[iq,bH,ao,U bx (fun _ _ _ _ q=>q)];rfl
theorem bR.nil(h:bt E m J):bR K B ops [] F E m J bt:=fun S H al au=>⟨jM,(fun _ _ _ _ q=>by cases q),S,H,E,m,J,fun _ _=>rfl,al,au,h⟩
theorem bR.val{v:Value}(aq:nth ops i=some o)(ar:o.guard=none)(ax:o.dst=some d)(aE:Nat.blt d n=true)(aD:ch K B o n ds l m J v)(h:bR K B ops a6 F ⟨n,ds,(d,v)::l⟩ m J bt):bR K B ops (.val i::a6) F ⟨n,ds,l⟩ m J bt:=by
 intro S H al au;obtain⟨aY,s1,s2⟩:=al.put (dst:=some d) aE v;obtain⟨bx,dG,aB,H',cy,m',ai,U,ab,aV,br⟩:=h aY H s2 au;refine⟨bx,dG,aB,H',cy,m',ai,fun fq q=>?_,ab,aV,br⟩;show iv ops i (kA K.P _ _ ops S H (dt K.P _ _ ops a6))=_;unfold iv;rw[aq];show kA K.P _ _ ops S H (dt K.P _ _ ops a6) o=_;unfold kA eI;rw[ar];show xd S H o.dst (dt K.P _ _ ops a6) (cc K.P _ _ S H o)=_;rw[aD _ _ S H al au,ax];show(bif Nat.beq H.av H.av then l7 (dt K.P _ _ ops a6) H (S.put (some d) v) else none)=_;rw[ga,bH,s1];exact U fq q
theorem bR.kF{b:ef}{p:db}{dm:gO}(aq:nth ops i=some o)(ar:o.guard=none)(ax:o.dst=some d)(aE:Nat.blt d n=true)(aK:∀S,Sat ⟨n,ds,l⟩ S->kh K.P S.T o.op=some (b,dm))(ao:∀H a,H.mem.get a=some b->p.at (fun _=>True) H a)(ou:∀c e r z,p≠.opn c e r z)
 (h:∀a,bR K B ops a6 F ⟨n,ds,(d,dm.at a)::l⟩ ((a,p)::m) J bt):bR K B ops (.kF i::a6) F ⟨n,ds,l⟩ m J bt:=by
 intro S H al au;obtain⟨H1,aA⟩:=au.wf.new b;have iW:p.at B.r1 H1 H.av:=by
  have q:=ao H1 H.av (by rw[(ah.l3 aA).2.2.2.2.2,bs rfl]);cases p with
  |row=>exact q
  |map=>exact q
  |loop=>exact q
  |fN=>exact q
  |opn c e r z=>exact absurd rfl (ou c e r z)
 have SZ:=au.new aA iW (by cases p with|opn c e r z=>exact absurd rfl (ou c e r z)|_=>rfl);obtain⟨aY,s1,s2⟩:=al.put (dst:=some d) aE (dm.at H.av);obtain⟨bx,dG,aB,H',cy,m',ai,U,ab,aV,br⟩:=h H.av aY H1 s2 SZ;refine⟨bx,dG,aB,H',cy,m',ai,fun fq q=>?_,ab,aV,br⟩;show iv ops i (xI K.P ops S H (dt K.P _ _ ops a6))=_;unfold iv;rw[aq];show xI K.P ops S H (dt K.P _ _ ops a6) o=_;unfold xI eI;rw[ar];show Dq S H o.dst (dt K.P _ _ ops a6) (kh K.P S.T o.op)=_;rw[aK S al];show Dr S o.dst (dt K.P _ _ ops a6) dm (H.new b)=_;rw[aA,ax];show l7 (dt K.P _ _ ops a6) H1 (S.put (some d) (dm.at H.av))=_;rw[s1];exact U fq q
theorem Mo{S:aO}(al:Sat ⟨n,ds,l⟩ S){x:Operand}{v:Value}(h:bB l x=some v):l5 S.T x=some v:=by
 cases x with
 |tmp t=>exact al.get t v h
 |const c=>exact h
 |global g=>cases h
 |func f=>exact h
theorem bR.alloc{t:TypeId}{z:Value}{cells:List Value}(aq:nth ops i=some o)(ar:o.guard=none)(ae:o.op=.alloc t)(ax:o.dst=some d)(aE:Nat.blt d n=true)(a0:fw K.P t=some z)(ao:plain z=true)(aF:z.cells.toList=cells)(U:cells.all dY=true)
 (h:∀a,bR K B ops a6 F ⟨n,ds,(d,.pointer (some ⟨a,0,none⟩))::l⟩ ((a,.row cells t)::m) J bt):bR K B ops (.kF i::a6) F ⟨n,ds,l⟩ m J bt:=by
 refine bR.kF (b:=.row cells t false 0 0 false) (p:=.row cells t) (dm:=.ptr) aq ar ax aE (fun S al=>?_) (fun H a q=>q) (fun c e r z q=>by cases q) h;rw[ae];simp only[kh,a0,ao,bH,tk,aF,U]
theorem bR.bZ(aq:nth ops i=some o)(ar:o.guard=none)(h:∀S H,Sat E S->Inv K.g0 B J m H->∃aB H' cy m' ai,(∀call az,mR S H o.dst (cc K.P call az S H o)=some (.ok aB H'))/\Sat cy aB/\Inv K.g0 B ai m' H'/\bR K B ops a6 F cy m' ai bt):bR K B ops (.bZ i::a6) F E m J bt:=by
 intro S H al au;obtain⟨aY,H1,fS,cM,bO,a8,a5,bI,cL⟩:=h S H al au;obtain⟨bx,dG,aB,H',cy,m',ai,U,ab,aV,br⟩:=cL aY H1 a5 bI;refine⟨bx,dG,aB,H',cy,m',ai,fun fq q=>?_,ab,aV,br⟩;show iv ops i (fun o=>j1 (dt K.P _ _ ops a6) (one K.P _ _ ops S H o))=_;unfold iv;rw[aq];show j1 (dt K.P _ _ ops a6) (one K.P _ _ ops S H o)=_;unfold one eI;rw[ar];show j1 (dt K.P _ _ ops a6) (mR S H o.dst (cc K.P _ _ S H o))=_;rw[a8];exact U fq q
theorem bR.I3(aq:nth ops i=some o)(ar:o.guard=none)(h:g' K B o E m J fun E m J=>bR K B ops a6 F E m J bt):bR K B ops (.bZ i::a6) F E m J bt:=bR.bZ aq ar h
theorem bR.Qa{v:Value}(aq:nth ops i=some o)(ar:o.guard=none)(ax:o.dst=some d)(aE:Nat.blt d n=true)(aD:ch K B o n ds l m J v)(h:bR K B ops a6 F ⟨n,ds,(d,v)::l⟩ m J bt):bR K B ops (.bZ i::a6) F ⟨n,ds,l⟩ m J bt:=by
 refine bR.bZ aq ar fun S H al au=>?_;obtain⟨aY,s1,s2⟩:=al.put (dst:=some d) aE v;refine⟨aY,H,_,m,J,fun call az=>?_,s2,au,h⟩;rw[aD _ _ S H al au,ax];show mV H (S.put (some d) v)=_;rw[s1];rfl
theorem bR.P5{c:Call}{x:Operand}{f:FuncId}{first cap:Array Value}{args ca:List Value}{ck e8:aU}{er:Value->aU->an->Prop}
 (aq:nth ops i=some o)(ar:o.guard=none)(ae:o.op=.call c)(ax:o.dst=some d)(aE:Nat.blt d n=true)(aF:c.callee=.value x)(j:bB l x=some (.func (.func f) first cap))(aK:hz l c.args.toList=some args)(has:(first.toList++args)++cap.toList=ca)
 (ay:(f,ca)∉F)(ao:(ck++e8).Perm m)(gH:Cj ck)(cg:Fn K f ca ck J er)(h:∀v m' ai,J.le ai->er v m' ai->bR K B ops a6 ((f,ca)::F) ⟨n,ds,(d,v)::l⟩ (m'++e8) ai bt):bR K B ops (.bZ i::a6) F ⟨n,ds,l⟩ m J bt:=by
 intro S H al au;obtain⟨v,H',ai,m',a8,a5,bI⟩:=cg H (au.enter ao gH);obtain⟨cL,gy⟩:=au.leave ao a5;obtain⟨aY,s1,s2⟩:=al.put (dst:=some d) aE v;obtain⟨bx,dG,aB,o1,cy,q2,p9,U,ab,aV,br⟩:=h v m' ai gy bI aY H' s2 cL
 classical
 refine⟨fun cd bJ H1=>if cd=f/\bJ=ca then nc f ca H (.returned v,H') cd bJ H1 else bx cd bJ H1,fun cd bJ H1 r q=>?_,aB,o1,cy,q2,p9,fun fq q=>?_,ab,aV,br⟩
 ·simp only at q;split at q
  ·rename_i e;rw[e.1,e.2];exact ay
  ·exact fun cA=>dG cd bJ H1 r q (OP _ cA)
 ·have gG:fq f ca H=some (.returned v,H'):=q f ca H _ (by simp only[and_self,bs];unfold nc;rw[bs ⟨rfl,rfl,rfl⟩]);have yZ:∀cd bJ H1 r,bx cd bJ H1=some r->fq cd bJ H1=some r:=fun cd bJ H1 r ap=>q cd bJ H1 r (by
   simp only
   rw[a1 (fun e=>dG cd bJ H1 r ap (by rw[e.1,e.2];exact List.mem_cons_self))];exact ap)
  show iv ops i (fun o=>j1 (dt K.P _ _ ops a6) (one K.P _ _ ops S H o))=_;unfold iv;rw[aq];show j1 (dt K.P _ _ ops a6) (one K.P _ _ ops S H o)=_;unfold one eI;rw[ar];show j1 (dt K.P _ _ ops a6) (mR S H o.dst (cc K.P _ _ S H o))=_;have he:cc K.P (hs K.Q fq) (gl K.Q hB fq).az S H o=some (.val v H'):=by
   unfold cc eh;simp only[ae];show js K.P _ c=_;unfold js;rw[aF];show ms K.P _ _ S.T H c=_;unfold ms;rw[mq al H aK];simp only[aF];rw[cX al H j];simp only
   show(match ji K.P H (.func f) (first.toList++args) cap.toList with|some (f,ca)=>ng (hs K.Q _ f ca H)|none=>none)=_
   unfold ji;simp only
   rw[has,AT a8 gG];rfl
  rw[he,ax];show j1 (dt K.P _ _ ops a6) (mV H' (S.put (some d) v))=_;rw[s1];exact U fq yZ
theorem bR.call{c:Call}{x:Operand}{f:FuncId}{first cap:Array Value}{args ca:List Value}{ck e8:aU}{er:Value->aU->an->Prop}
 (aq:nth ops i=some o)(ar:o.guard=none)(ae:o.op=.call c)(ax:o.dst=some d)(aE:Nat.blt d n=true)(aF:c.callee=.value x)(j:bB l x=some (.func (.func f) first cap))(aK:hz l c.args.toList=some args)(has:(first.toList++args)++cap.toList=ca)
 (ay:F.all (fun g=>!Nat.beq g.1 f)=true)(ao:(ck++e8).Perm m)(gH:Cj ck)(cg:Fn K f ca ck J er)(h:∀v m' ai,J.le ai->er v m' ai->bR K B ops a6 ((f,ca)::F) ⟨n,ds,(d,v)::l⟩ (m'++e8) ai bt):bR K B ops (.bZ i::a6) F ⟨n,ds,l⟩ m J bt:=
 bR.P5 aq ar ae ax aE aF j aK has (fun q=>by
  rw[o2] at ay;have:=ay (f,ca) q;simp at this) ao gH cg h
def lB(K:di)(B:c6)(ops:List Oper)(n:Nat)(ds:dL)(l:List (Nat×Value))(m:aU)(J:an)(i:Nat):Prop:=
 ∀call az S H,Sat ⟨n,ds,l⟩ S->Inv K.g0 B J m H->qt K.P call az ops S H i=true
theorem lB.val{v u:Value}(aq:nth ops i=some o)(ar:o.guard=none)(ax:o.dst=some d)(aD:ch K B o n ds l m J v)(hu:look l d=some u)(he:ee 8 v u=true):lB K B ops n ds l m J i:=by
 intro call az S H al au;unfold qt;rw[aq];show AU K.P call az ops S H o (eI ops S.T o)=true;unfold eI;rw[ar];show AV H.av S.T o.dst (cc K.P call az S H o)=true;rw[aD _ _ S H al au,ax];show(Nat.beq H.av H.av&&(match S.T.get d with|some u=>ee 8 v u|none=>false))=true
 rw[ga,al.get d u hu];simpa using he
def p6(K:di)(B:c6)(ops:List Oper)(n:Nat)(ds:dL)(l:List (Nat×Value))(m:aU)(J:an):List Nat->Prop
 |[]=>True
 |i::r=>lB K B ops n ds l m J i/\p6 K B ops n ds l m J r
theorem p6.all{call:dI}{az:ff}{S:aO}{H:ah}(al:Sat ⟨n,ds,l⟩ S)(au:Inv K.g0 B J m H):∀{is:List Nat},p6 K B ops n ds l m J is->is.all (qt K.P call az ops S H)=true:=by
 intro is;induction is with
 |nil=>intro _;rfl
 |cons i r aN=>intro h;rw[xr,h.1 call az S H al au,aN h.2];rfl
theorem bR.cq{is:List Nat}(aF:p6 K B ops n ds l m J is)(h:bR K B ops a6 F ⟨n,ds,l⟩ m J bt):bR K B ops (.cq is::a6) F ⟨n,ds,l⟩ m J bt:=by
 intro S H al au;obtain⟨bx,dG,aB,H',cy,m',ai,U,ab,aV,br⟩:=h S H al au;refine⟨bx,dG,aB,H',cy,m',ai,fun fq q=>?_,ab,aV,br⟩;show xX K.P _ _ ops S H (dt K.P _ _ ops a6) is=_;unfold xX;rw[p6.all al au aF,bH];exact U fq q
theorem NX(k:IntKind)(a:Int)(n:Nat):ee (n+1) (.int k a) (.int k a)=true:=by
 show(kr k k&&lW a a)=true;rw[wD,wx];simp
end
theorem ND{α:Type}:∀(l:List α) (i:Nat) (T:aL α),(∀k,k<i->∃v,T.get k=some v)->∃dr,rl l i T=some dr:=by
 intro l;induction l with
 |nil=>intro i T _;exact⟨T,rfl⟩
 |cons x l aN=>
  intro i T h;obtain⟨rL,cw⟩:=aL.wV x T i h;obtain⟨dr,e⟩:=aN (i+1) rL fun k hk=>by
   rw[aL.get_put cw];split
   ·exact⟨_,rfl⟩
   ·exact h k (by omega)
  refine⟨dr,?_⟩;simp only[rl,aL.set];rw[cw];exact e
theorem cK{P:Program}{f:FuncId}{fn:Func}(h:P.funcs[f]?=some fn):(vE P).get f=some fn:=by
 obtain⟨T,cw⟩:=ND P.funcs.toList 0 .leaf (fun k hk=>absurd hk (by omega));unfold vE;rw[cw];simp only
 rw[G4 cw];have cx:f<P.funcs.size:=(C3.1 h).1;rw[bs (by simpa using cx)];simpa using h
section
variable {K:di}{B:c6}{o:Oper}{n:Nat}{ds:dL}{l:List (Nat×Value)}{m m':aU}{J:an}{dS:bK->aU->an->Prop}{d:Nat}
theorem eW{P:Program}{α β:Type}{s:Sem α}{a:α}{f:α->Sem β}(h:en P s=some a):en P (s >>= f)=en P (f a):=by
 show en P (Sem.bind s f)=_;induction s with
 |pure b=>simp only[en,bL] at h;subst h;rfl
 |program k aN=>exact aN P (by simpa[en] using h)
 |mark m k aN=>exact aN (by simpa[en] using h)
 |_=>simp[en] at h
theorem A9{P:Program}{t:TypeId}{nf:TypeDesc}(h:P.underlying t=some nf):en P (underlying t)=some nf:=by
 have:en P (underlying t)=en P (match P.underlying t with|some d=>pure d|none=>stuck "no such type"):=by
  rfl
 rw[this,h];rfl
theorem gx{E:bK}{S:aO}(al:Sat E S)(H:ah){x:Operand}{v:Value}(h:bB E.l x=some v):mS S.T H x=v:=by
 unfold mS;rw[cX al H h]
theorem MA{x:Operand}{a v:Value}{S:aO}{H:ah}(al:Sat ⟨n,ds,l⟩ S)(Fh:o.op.operands.toList=[x])(j:bB l x=some a)(aK:plain a=true)(he:en K.P (execOp (mS S.T H) o)=some (.value v))(aD:plain v=true):ek K.P S.T H o=some (.val v H):=by
 unfold ek;rw[Fh];have:ev S.T H [x]=some [a]:=by simp only[ev];rw[cX al H j]
 rw[this];simp only[xr,List.all_nil,aK,u3,bH,he,aD]
theorem lk{x y:Operand}{a b v:Value}{S:aO}{H:ah}(al:Sat ⟨n,ds,l⟩ S)(Fh:o.op.operands.toList=[x,y])(j:bB l x=some a)(aC:bB l y=some b)(aK:plain a=true)(af:plain b=true)(he:en K.P (execOp (mS S.T H) o)=some (.value v))(aD:plain v=true):ek K.P S.T H o=some (.val v H):=by
 unfold ek;rw[Fh];have:ev S.T H [x,y]=some [a,b]:=by simp only[ev];rw[cX al H j,cX al H aC]
 rw[this];simp only[xr,List.all_nil,aK,af,u3,bH,he,aD]
theorem NI{t:TypeId}{x:Operand}{b:Bool}(ae:o.op=.unOp .not t x)(j:bB l x=some (.bool b)):ch K B o n ds l m J (.bool (!b)):=by
 intro call az S H al au;unfold cc eh;simp only[ae];show ek K.P S.T H o=_;refine MA al (by rw[ae];rfl) j rfl ?_ rfl;unfold execOp;simp only[ae];rw[gx al H j];rfl
theorem ZP{t:TypeId}{x:Operand}{p:Prop}[Decidable p](ae:o.op=.unOp .not t x)(j:bB l x=some (.bool (decide p))):ch K B o n ds l m J (.bool (decide (¬p))):=by
 have:=NI (K:=K) (B:=B) (n:=n) (ds:=ds) (m:=m) (J:=J) ae j;rwa [show(!decide p)=decide (¬p) by simp] at this
theorem IM(a b:List UInt8):((⟨⟨a⟩⟩:ByteArray).toList==(⟨⟨b⟩⟩:ByteArray).toList)=decide (a=b):=by
 rw[ByteArray.toList_eq,ByteArray.toList_eq,mb];simp
def isInt (P:Program)(s d:TypeId):Option IntKind:=match P.underlying s,P.underlying d with
 |some _,some (.int k)=>some k
 |_,_=>none
theorem Zx{s t:TypeId}{x:Operand}{k ir:IntKind}{a b:Int}(ae:o.op=.convert s t x)(j:bB l x=some (.int ir a))(aG:isInt K.P s t=some k)(hw:k.wrap a=b):ch K B o n ds l m J (.int k b):=by
 intro call az S H al au;unfold cc eh;simp only[ae];show q7 K.P _ s t (aR S.T H x)=_;rw[cX al H j];unfold q7;simp only
 unfold isInt at aG;split at aG
 ·rename_i U ab;rw[U,ab];injection aG with aG;subst aG
  simp only[n',xg,hw];rfl
 ·cases aG
def zz (P:Program)(t:TypeId):Bool:=match P.underlying t with
 |some (.interface _)=>false
 |some _=>true
 |none=>false
theorem ZC{t:TypeId}{x:Operand}{v:Value}(ae:o.op=.makeInterface t x)(j:bB l x=some v)(aG:zz K.P t=true):ch K B o n ds l m J (.iface t v):=by
 intro call az S H al au;unfold cc eh;simp only[ae];show uF K.P _ t (aR S.T H x) (K.P.underlying t)=_;rw[cX al H j];unfold zz at aG;cases hu:K.P.underlying t with
 |none=>rw[hu] at aG;cases aG
 |some nf=>rw[hu] at aG;cases nf<;>first|rfl|cases aG
theorem ZB{f:FuncId}{a b:Array Operand}{bX rn:List Value}(ae:o.op=.makeFunc (.func f) a b)(aK:hz l a.toList=some bX)(af:hz l b.toList=some rn):ch K B o n ds l m J (.func (.func f) bX.toArray rn.toArray):=by
 intro call az S H al au;unfold cc eh;simp only[ae];show uE K.P _ (.func f) (ev S.T H a.toList) (ev S.T H b.toList)=_;rw[mq al H aK,mq al H af];rfl
def tx (l:List (Nat×Value)):List (Nat×Operand)->Option (List (Nat×Value))
 |[]=>some []
 |(i,x)::r=>match bB l x with
  |some v=>(match tx l r with|some vs=>some ((i,v)::vs)|none=>none)
  |none=>none
theorem Jn{E:bK}{S:aO}(al:Sat E S)(H:ah):∀{xs:List (Nat×Operand)} {vs:List (Nat×Value)},tx E.l xs=some vs->iw S.T H xs=some vs:=by
 intro xs;induction xs with
 |nil=>intro vs h;exact h
 |cons x r aN=>
  obtain⟨i,x⟩:=x;intro vs h;simp only[tx] at h;simp only[iw];cases j:bB E.l x with
  |none=>rw[j] at h;cases h
  |some v=>
   rw[j] at h;simp only at h;rw[cX al H j];simp only;cases ap:tx E.l r with
   |none=>rw[ap] at h;cases h
   |some ws=>rw[ap] at h;simp only at h;rw[aN ap];exact h
def xR (P:Program)(t:TypeId):Option (Sum (List (Nat×Nat)) Nat×List Value):=match fw P t,P.underlying t with
 |some z,some (.struct fields)=>bif plain z then(match places P fields.toList with|some ps=>some (.inl ps,z.cells.toList)|none=>none) else none
 |some z,some (.array _ elem)=>bif plain z then(match dD P elem with|some sz=>some (.inr sz,z.cells.toList)|none=>none) else none
 |_,_=>none
def placeOf:Sum (List (Nat×Nat)) Nat->Nat->Option (Nat×Nat)
 |.inl ps=>nth ps
 |.inr sz=>fun i=>some (i*sz,sz)
theorem Zw{t:TypeId}{ps:Array (Nat×Operand)}{vs:List (Nat×Value)}{pl:Sum (List (Nat×Nat)) Nat}{z cells:List Value}(ae:o.op=.build t ps)(ao:tx l ps.toList=some vs)(aG:xR K.P t=some (pl,z))(ay:km (placeOf pl) z vs=some cells):ch K B o n ds l m J (.agg cells.toArray):=by
 intro call az S H al au;unfold cc eh;simp only[ae];show uA K.P _ t (iw S.T H ps.toList)=_;rw[Jn al H ao];show e' (x9 K.P t vs) H=_;unfold xR at aG;unfold x9;cases a0:fw K.P t with
 |none=>rw[a0] at aG;cases aG
 |some u1=>
  rw[a0] at aG;cases hu:K.P.underlying t with
  |none=>rw[hu] at aG;cases aG
  |some nf=>
   rw[hu] at aG;cases nf with
   |struct fields=>
    simp only at aG ⊢;cases yU:plain u1 with
    |false=>rw[yU] at aG;cases aG
    |true=>
     rw[yU,bH] at aG;rw[bH];cases bY:places K.P fields.toList with
     |none=>rw[bY] at aG;cases aG
     |some bb=>
      rw[bY] at aG;simp only[bL,cU] at aG;obtain⟨rfl,rfl⟩:=aG;have ay:km (nth bb) u1.cells.toList vs=some cells:=ay;simp only[ay];rfl
   |array k elem=>
    simp only at aG ⊢;cases yU:plain u1 with
    |false=>rw[yU] at aG;cases aG
    |true=>
     rw[yU,bH] at aG;rw[bH];cases bY:dD K.P elem with
     |none=>rw[bY] at aG;cases aG
     |some sz=>
      rw[bY] at aG;simp only[bL,cU] at aG;obtain⟨rfl,rfl⟩:=aG;have ay:km (fun i=>some (i*sz,sz)) u1.cells.toList vs=some cells:=ay;simp only[ay];rfl
   |_=>cases aG
def rP (P:Program)(t:TypeId):Option (Nat×TypeId×Nat):=match P.underlying t with
 |some (.array len elem)=>(match dD P elem with|some sz=>some (len,elem,sz)|none=>none)
 |_=>none
theorem IH{P:Program}{t elem:TypeId}{len sz:Nat}(h:rP P t=some (len,elem,sz)):P.underlying t=some (.array len elem)/\dD P elem=some sz:=by
 unfold rP at h;split at h
 ·rename_i U;split at h
  ·rename_i ab;simp only[bL,cU] at h;obtain⟨rfl,rfl,rfl⟩:=h;exact⟨U,ab⟩
  ·cases h
 ·cases h
theorem ZF{t elem:TypeId}{x bw:Operand}{a off len sz:Nat}{k:IntKind}{i:Int}(ae:o.op=.indexAddr t x bw)(j:bB l x=some (.pointer (some ⟨a,off,none⟩)))(aq:bB l bw=some (.int k i))(aG:rP K.P t=some (len,elem,sz))(a2:0<=i)(U:i<len):ch K B o n ds l m J (.pointer (some ⟨a,off+i.toNat*sz,none⟩)):=by
 obtain⟨hu,a0⟩:=IH aG;intro call az S H al au;unfold cc eh;simp only[ae];show q8 K.P _ t (aR S.T H x) (aR S.T H bw)=_;rw[cX al H j,cX al H aq];show e' (qz K.P t (.pointer (some ⟨a,off,none⟩)) (.int k i)) H=_;unfold qz;simp only[hu,FR a2 U,a0];rfl
theorem ZG{t elem e:TypeId}{g:Nat}{bw:Operand}{cells:List Value}{len sz:Nat}{k:IntKind}{i:Int}(ae:o.op=.indexAddr t (.global g) bw)(ar:Nat.blt g K.g0=true)(gT:J g=some (cells,e))(aq:bB l bw=some (.int k i))(aG:rP K.P t=some (len,elem,sz))(a2:0<=i)(U:i<len):ch K B o n ds l m J (.pointer (some ⟨g,0+i.toNat*sz,none⟩)):=by
 obtain⟨hu,a0⟩:=IH aG;intro call az S H al au;unfold cc eh;simp only[ae];show q8 K.P _ t (wQ H g) (aR S.T H bw)=_;obtain⟨o',cd,fv,c1,bY⟩:=au.dv _ _ _ gT;have:wQ H g=some (.pointer (some ⟨g,0,none⟩)):=by
  unfold wQ;rw[au.bf,ar,bH,bY]
 rw[this,cX al H aq];show e' (qz K.P t (.pointer (some ⟨g,0,none⟩)) (.int k i)) H=_;unfold qz;simp only[hu,FR a2 U,a0];rfl
theorem IN{op:BinOp}{t dq:TypeId}{x y:Operand}{a b:Value}{r:Bool}{S:aO}{H:ah}{call:dI}{az:ff}(ae:o.op=.binOp op t x y dq)(j:aR S.T H x=some a)(aC:aR S.T H y=some b)(aq:∀k i,a≠.int k i)(ao:ek K.P S.T H o=none)(he:pR K.P ⟨call,az,S,H,o⟩ t a b op=some (.val (.bool r) H)):cc K.P call az S H o=some (.val (.bool r) H):=by
 unfold cc eh;simp only[ae];show ja K.P _ op t (aR S.T H x) (aR S.T H y)=_;rw[j,aC];have:ja K.P ⟨call,az,S,H,o⟩ op t (some a) (some b)=oL K.P ⟨call,az,S,H,o⟩ op t a b:=by
  cases a<;>first|rfl|exact absurd rfl (aq _ _)
 rw[this];unfold oL;show orElse (ek K.P S.T H o) _=_;rw[ao];exact he
theorem ZU{op:BinOp}{t dq:TypeId}{x y:Operand}{b:Option Addr}{len cap:Nat}(ae:o.op=.binOp .eql t x y dq)(j:bB l x=some (.slice b len cap))(aC:bB l y=some (.slice none 0 0))(aG:isSlice K.P t=true):ch K B o n ds l m J (.bool b.isNone):=by
 intro call az S H al au;unfold isSlice at aG;split at aG
 ·rename_i e hu;cases b with
  |none=>
   unfold cc eh;simp only[ae];show ja K.P _ .eql t (aR S.T H x) (aR S.T H y)=_;rw[cX al H j,cX al H aC];show orElse (ek K.P S.T H o) _=_;have:ek K.P S.T H o=some (.val (.bool true) H):=by
    refine lk al (by rw[ae];rfl) j aC rfl rfl ?_ rfl;unfold execOp;simp only[ae];rw[gx al H j,gx al H aC];rw[eW (a:=.bool true)]
    ·rfl
    rw[eW (a:=()) (by rfl)];have af:binOp .eql t (.slice none len cap) (.slice none 0 0)=(do pure (.bool (<-Op.equal t (.slice none len cap) (.slice none 0 0)))):=by simp[binOp]
    rw[af,eW (a:=true)]
    ·rfl
    show en K.P (Op.equalIn (9999+1) t (.slice none len cap) (.slice none 0 0))=_;unfold Op.equalIn;rw[eW (A9 hu)];rfl
   rw[this];rfl
  |some a=>
   refine IN ae (cX al H j) (cX al H aC) (fun _ _ q=>by cases q) ?_ ?_
   ·unfold ek;rw[ae];have:ev S.T H (Op.binOp BinOp.eql t x y dq).operands.toList=some [.slice (some a) len cap,.slice none 0 0]:=by
     show ev S.T H [x,y]=_;simp only[ev];rw[cX al H j,cX al H aC]
    rw[this];rfl
   ·unfold pR qy;simp only[hu];rfl
 ·cases aG
end
end
end Go.Opn

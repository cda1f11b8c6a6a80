/- A part of the proof of TableClose. -/
import Derived.Test.YtpahonhejmlnpaaGreatDoorCat
import Derived.Laws.Strings
set_option linter.unusedVariables false
set_option linter.unusedSimpArgs false
namespace Go.Opn
noncomputable section
open Go.Cre Go.RowKit
theorem pS{α:Type}(n:Int)(k:Int->α):n5 n k=k n:=by
 cases n with
 |ofNat m=>cases m<;>rfl
 |negSucc m=>cases m<;>rfl
theorem yk(a b:Int):nB a b=decide (a<b):=by
 cases a with
 |ofNat m=>cases b with
  |ofNat n=>simp only[nB];rw[nM];simp
  |negSucc n=>simp only[nB];rw[nM];simp;omega
 |negSucc m=>cases b with
  |ofNat n=>simp only[nB];rw[nM];simp;omega
  |negSucc n=>simp only[nB];rw[nM];simp;omega
theorem yj(a b:Int):lI a b=decide (a=b):=by
 cases a with
 |ofNat m=>cases b with
  |ofNat n=>simp only[lI];rw[nM];simp;omega
  |negSucc n=>simp only[lI];rw[nM];simp
 |negSucc m=>cases b with
  |ofNat n=>simp only[lI];rw[nM];simp
  |negSucc n=>simp only[lI];rw[nM];simp
theorem yq(k:IntKind):jR k k=true:=by cases k<;>rfl
theorem wrap_i64{n:Int}(aa:-9223372036854775808<=n)(ab:n<=9223372036854775807):IntKind.i64.wrap n=n:=by
 unfold IntKind.wrap IntKind.signed IntKind.bits;simp only[KH,CO];split<;>omega
theorem uG(H:ai)(b:Bool):th H b=some (.val (.bool b) H):=by cases b<;>rfl
section
variable {K:dG}{B:dt}{o:Oper}{n:Nat}{ds:dQ}{l:List (Nat×Value)}{m m':aU}{J:an}{eg:b3->aU->an->Prop}{d:Nat}
def cC(K:dG)(B:dt)(o:Oper)(n:Nat)(ds:dQ)(l:List (Nat×Value))(m:aU)(J:an)(v:Value):Prop:=∀call aE S H,Sat ⟨n,ds,l⟩ S->Inv K.g0 B J m H->ct K.P call aE S H o=some (.val v H)
theorem wM{x:Operand}{v:Value}(ag:o.op=.move x)(U:bH l x=some v):cC K B o n ds l m J v:=by
 intro call aE S H ak av;unfold ct eA;simp only[ag];show fT (aW S.T H x) H=_;rw[c1 ak H U];rfl
theorem ael{x:Operand}{v:Value}(ag:o.op=.assign x)(U:bH l x=some v):cC K B o n ds l m J v:=by
 intro call aE S H ak av;unfold ct eA;simp only[ag];show fT (aW S.T H x) H=_;rw[c1 ak H U];rfl
theorem aeD{c x y:Operand}{t:Bool}{v:Value}(ag:o.op=.pick c x y)(aL:bH l c=some (.bool t))(ay:(if t=true then bH l x else bH l y)=some v):cC K B o n ds l m J v:=by
 intro call aE S H ak av;unfold ct eA;simp only[ag];show uB K.P _ x y (aW S.T H c)=_;rw[c1 ak H aL];cases t with
 |true=>show fT (aW S.T H x) H=_;rw[c1 ak H (by simpa using ay)];rfl
 |false=>show fT (aW S.T H y) H=_;rw[c1 ak H (by simpa using ay)];rfl
def FZ (k:IntKind)(a b:Int):BinOp->Option Value
 |.add=>some (.int k (k.wrap (a+b)))
 |.sub=>some (.int k (k.wrap (a -b)))
 |.mul=>some (.int k (k.wrap (a*b)))
 |.eql=>some (.bool (decide (a=b)))
 |.neq=>some (.bool (decide (¬a=b)))
 |.lss=>some (.bool (decide (a<b)))
 |.leq=>some (.bool (decide (a<=b)))
 |.gtr=>some (.bool (decide (b<a)))
 |.geq=>some (.bool (decide (b<=a)))
 |_=>none
theorem Ry{op:BinOp}{t dK:TypeId}{x y:Operand}{k:IntKind}{a b:Int}{v:Value}(ag:o.op=.binOp op t x y dK)(U:bH l x=some (.int k a))(aF:bH l y=some (.int k b))(ay:FZ k a b op=some v):cC K B o n ds l m J v:=by
 intro call aE S H ak av;unfold ct eA;simp only[ag];show jV K.P _ op t (aW S.T H x) (aW S.T H y)=_;rw[c1 ak H U,c1 ak H aF];show(bif jR k k then ir H k a b _ op else _)=_;rw[yq,b1];have aaH:∀p q:Int,(!decide (p<q))=decide (q<=p):=fun p q=>by rw[nM];simp
 cases op<;>simp only[FZ,b9,reduceCtorEq] at ay<;>subst ay<;>simp only[ir,pS,yZ,m5,uG,yj,yk,aaH]
 ·rw[show(!decide (a=b))=decide (¬a=b) by rw[nM];simp]
inductive ni (m:aU) (J:an) (a:Nat) (cells:List Value):Prop
 |own {e:TypeId}:(a,dh.row cells e)∈m->ni m J a cells
 |opn {e:TypeId} {r:List Nat} {z:Nat}:(a,dh.opn cells e r z)∈m->ni m J a cells
 |dB {e:TypeId}:J a=some (cells,e)->ni m J a cells
theorem ni.get{a:Nat}{cells:List Value}(h:ni m J a cells){g0:Nat}{H:ai}(av:Inv g0 B J m H):∃e o f z s,H.mem.get a=some (.row cells e o f z s):=by
 cases h with
 |own h=>exact⟨_,_,_,_,_,(av.own _ _ h).1⟩
 |opn h=>obtain⟨f,_,q,_⟩:=(av.own _ _ h).1;exact⟨_,_,_,_,_,q⟩
 |dB h=>obtain⟨o,f,z,s,q⟩:=av.dB _ _ _ h;exact⟨_,_,_,_,_,q⟩
theorem kG{t:TypeId}{x:Operand}{a off:Nat}{cells:List Value}{v:Value}(ag:o.op=.load t x)(U:bH l x=some (.pointer (some ⟨a,off,none⟩)))(al:ni m J a cells)(ay:kv K.P t cells off=some v):cC K B o n ds l m J v:=by
 intro call aE S H ak av;unfold ct eA;simp only[ag];show wq K.P _ t (aW S.T H x)=_;rw[c1 ak H U];show fT (xn K.P H t ⟨a,off,none⟩) H=_;obtain⟨e,o',f,z,s,q⟩:=al.get av;unfold xn;simp only[q,ay];rfl
theorem iV{P:Program}{t:TypeId}{cells:List Value}{off:Nat}{v:Value}(aM:oR P t=some none)(ay:nth cells off=some v):kv P t cells off=some v:=by
 unfold kv;rw[aM];exact ay
theorem fb{P:Program}{t:TypeId}{cells r:List Value}{off k:Nat}(aM:oR P t=some (some k))(ay:takeN k (np off cells)=some r):kv P t cells off=some (.agg r.toArray):=by
 unfold kv;rw[aM];simp only[ay]
theorem ae8{t:TypeId}{x:Operand}{v:Value}{cells:List Value}(ag:o.op=.box t x)(au:o.dst=some d)(aw:Nat.blt d n=true)(U:bH l x=some v)(aL:v.cells.toList=cells)(aa:cells.all ev=true)(h:∀a,eg ⟨n,ds,(d,.pointer (some ⟨a,0,none⟩))::l⟩ ((a,.row cells t)::m) J):hU K B o ⟨n,ds,l⟩ m J eg:=by
 refine hU.wO au aw fun S H ak av=>?_;obtain⟨H1,aC,aZ⟩:=av.alloc cells t;refine⟨_,H1,_,J,fun call aE=>?_,aZ,h H.ax⟩;unfold ct eA;simp only[ag];show Bw K.P _ t (aW S.T H x)=_;rw[c1 ak H U];show k1 (sv H t v)=_;unfold sv qn;rw[aL,aa,b1,aC];rfl
theorem eS{t:TypeId}{z:Value}{cells:List Value}(ag:o.op=.alloc t)(au:o.dst=some d)(aw:Nat.blt d n=true)(a0:fG K.P t=some z)(ao:plain z=true)(aL:z.cells.toList=cells)(aa:cells.all ev=true)(h:∀a,eg ⟨n,ds,(d,.pointer (some ⟨a,0,none⟩))::l⟩ ((a,.row cells t)::m) J):hU K B o ⟨n,ds,l⟩ m J eg:=by
 refine hU.wO au aw fun S H ak av=>?_;obtain⟨H1,aC,aZ⟩:=av.alloc cells t;refine⟨_,H1,_,J,fun call aE=>?_,aZ,h H.ax⟩;unfold ct eA;simp only[ag];show Jm K.P _ t (fG K.P t)=_;rw[a0];show(bif plain z then k1 (sv H t z) else none)=_;rw[ao,b1];unfold sv qn;rw[aL,aa,b1,aC];rfl
theorem k4{t:TypeId}{x y:Operand}{a off k:Nat}{v:Value}{vs cells cells':List Value}{e:TypeId}(ag:o.op=.store t x y)(au:o.dst=none)(U:bH l x=some (.pointer (some ⟨a,off,none⟩)))(aF:bH l y=some v)(hk:ea K.P t=some k)(aL:v.cells.toList=vs)(aA:Nat.beq vs.length k=true)(aX:Nat.blt 0 vs.length=true)(aa:vs.all ev=true)(af:fO off cells vs=some cells')(ao:dp m a (.row cells e) (.row cells' e) m')(h:eg ⟨n,ds,l⟩ m' J):hU K B o ⟨n,ds,l⟩ m J eg:=by
 refine hU.skip au fun S H ak av=>?_;obtain⟨H1,aC,aZ⟩:=av.store ao;obtain⟨a9,a4,bJ,cx⟩:=av.own _ _ ao.mem;have a9:H.mem.get a=some (.row cells e false 0 0 false):=a9;refine⟨H1,m',J,fun call aE=>?_,aZ,h⟩;unfold ct eA;simp only[ag];show yB K.P _ t (aW S.T H x) (aW S.T H y)=_;rw[c1 ak H U,c1 ak H aF];show Dc (vx K.P H t (.pointer (some ⟨a,off,none⟩)) v)=_;unfold vx;simp only[hk,aL,aA,b1];unfold o0;cases vs with
 |nil=>cases aX
 |cons jm vs=>
  simp only
  have aq:Nat.blt a H.bp=false:=by
   cases q:Nat.blt a H.bp
   ·rfl
   ·have:a<H.bp:=by simpa[Nat.blt,qY] using q
    have:=av.bp;omega
  rw[aq,da,a9];simp only[show Nat.ble 0 off=true from j3 (fB _),KH,aa,b1,af,aC,da];rfl
theorem aeA{x:Operand}{a:Addr}(ag:o.op=.nilCheck x)(U:bH l x=some (.pointer (some a))):cC K B o n ds l m J (.pointer (some a)):=by
 intro call aE S H ak av;unfold ct eA;simp only[ag];show wx K.P _ (aW S.T H x)=_;rw[c1 ak H U];rfl
def xu (P:Program)(s:TypeId)(f:Nat):Option Nat:=match P.underlying s with
 |some (.struct fields)=>(match fields[f]? with
  |some fd=>(match ea P fd.type with|some (_+1)=>some fd.offset|_=>none)
  |none=>none)
 |_=>none
theorem wL{s:TypeId}{x:Operand}{f a off k:Nat}(ag:o.op=.fieldAddr s x f)(U:bH l x=some (.pointer (some ⟨a,off,none⟩)))(az:xu K.P s f=some k):cC K B o n ds l m J (.pointer (some ⟨a,off+k,none⟩)):=by
 intro call aE S H ak av;unfold ct eA;simp only[ag];show wo K.P _ s f (aW S.T H x)=_;rw[c1 ak H U];show fT (zV K.P s (.pointer (some ⟨a,off,none⟩)) f) H=_;unfold xu at az;unfold zV;simp only
 cases hu:K.P.underlying s with
 |none=>rw[hu] at az;cases az
 |some oX=>
  rw[hu] at az;cases oX with
  |struct fields=>
   simp only at az ⊢;cases cc:fields[f]? with
   |none=>rw[cc] at az;cases az
   |some fd=>
    rw[cc] at az;simp only at az ⊢;cases a0:ea K.P fd.type with
    |none=>rw[a0] at az;cases az
    |some z=>
     rw[a0] at az;cases z with
     |zero=>cases az
     |succ z=>simp only[b9] at az;subst az;rfl
  |_=>cases az
def zZ (P:Program)(s:TypeId)(f:Nat):Option (TypeId×Nat):=match P.underlying s with
 |some (.struct fields)=>(match fields[f]? with
  |some fd=>some (fd.type,fd.offset)
  |none=>none)
 |_=>none
theorem Rx{s t:TypeId}{x:Operand}{f off:Nat}{cs:Array Value}{v:Value}(ag:o.op=.field s x f)(U:bH l x=some (.agg cs))(az:zZ K.P s f=some (t,off))(ay:kv K.P t cs.toList off=some v):cC K B o n ds l m J v:=by
 intro call aE S H ak av;unfold ct eA;simp only[ag];show uz K.P _ f (aW S.T H x) (K.P.underlying s)=_;rw[c1 ak H U];unfold zZ at az;cases hu:K.P.underlying s with
 |none=>rw[hu] at az;cases az
 |some oX=>
  rw[hu] at az;cases oX with
  |struct fields=>
   simp only at az;unfold uz;simp only
   cases cc:fields[f]? with
   |none=>rw[cc] at az;cases az
   |some fd=>
    rw[cc] at az;simp only[b9,c'] at az;obtain⟨rfl,rfl⟩:=az;simp only[ay];rfl
  |_=>cases az
def xl (P:Program)(t:TypeId):Option Nat:=match P.underlying t with
 |some (.slice e)=>ea P e
 |_=>none
theorem Iy{i:Int}{len:Nat}(aX:0<=i)(aa:i<len):qf i len=some i.toNat:=by
 cases i with
 |ofNat n=>
  unfold qf;have:Nat.blt n len=true:=by
   have:n<len:=by simpa using aa
   simpa[Nat.blt,qY] using this
  simp only[this,b1];rfl
 |negSucc n=>exact absurd aX (by simp)
theorem ES{t:TypeId}{x bj:Operand}{a off len cap sz:Nat}{k:IntKind}{i:Int}(ag:o.op=.indexAddr t x bj)(U:bH l x=some (.slice (some ⟨a,off,none⟩) len cap))(ar:bH l bj=some (.int k i))(aM:xl K.P t=some sz)(aX:0<=i)(aa:i<len):cC K B o n ds l m J (.pointer (some ⟨a,off+i.toNat*sz,none⟩)):=by
 intro call aE S H ak av;unfold ct eA;simp only[ag];show tc K.P _ t (aW S.T H x) (aW S.T H bj)=_;rw[c1 ak H U,c1 ak H ar];show fT (sx K.P t (.slice (some ⟨a,off,none⟩) len cap) (.int k i)) H=_;unfold xl at aM;unfold sx;cases hu:K.P.underlying t with
 |none=>rw[hu] at aM;cases aM
 |some oX=>
  rw[hu] at aM;cases oX with
  |slice e=>
   simp only at aM ⊢;rw[Iy aX aa,aM];rfl
  |_=>cases aM
def isSlice (P:Program)(t:TypeId):Bool:=match P.underlying t with|some (.slice _)=>true|_=>false
def rN (P:Program)(t:TypeId):Bool:=match P.underlying t with|some .string=>true|_=>false
theorem xm{S:aT}{H:ai}{call:ed}{aE:fX}{c:Call}{b:Builtin}(ag:o.op=.call c)(aL:c.callee=.builtin b):ct K.P call aE S H o=n3 K.P S H o b c:=by
 unfold ct eA;simp only[ag];show jW K.P _ c=_;unfold jW;rw[aL]
theorem aey{c:Call}{base:Option Addr}{len cap:Nat}{t:TypeId}(ag:o.op=.call c)(aL:c.callee=.builtin .len)(aK:hJ l c.args.toList=some [.slice base len cap])(aM:c.argTypes.toList=[t])(af:isSlice K.P t=true):cC K B o n ds l m J (.int .i64 len):=by
 intro call aE S H ak av;rw[xm ag aL];unfold n3;rw[nq ak H aK,aM];simp only
 unfold isSlice at af;split at af
 ·rename_i e hu;rw[hu]
 ·cases af
theorem Z1{α:Type}(l:List α):v8 l=some l.length:=by
 cases h:v8 l with
 |none=>
  unfold v8 at h;cases ah:isNil (np 256 l) with
  |true=>rw[ah] at h;cases h
  |false=>
   rw[ah,da] at h;split at h
   ·cases h
   ·split at h<;>cases h
 |some k=>rw[Pb h]
theorem aez{c:Call}{s:ByteArray}{t:TypeId}(ag:o.op=.call c)(aL:c.callee=.builtin .len)(aK:hJ l c.args.toList=some [.string s])(aM:c.argTypes.toList=[t])(af:rN K.P t=true):cC K B o n ds l m J (.int .i64 s.data.toList.length):=by
 intro call aE S H ak av;rw[xm ag aL];unfold n3;rw[nq ak H aK,aM];simp only
 unfold rN at af;split at af
 ·rename_i hu;rw[hu];simp only[Z1,pS];rfl
 ·cases af
theorem aew{t:TypeId}{x bj:Operand}{s:ByteArray}{k:IntKind}{i:Int}{b:UInt8}(ag:o.op=.index t x bj)(U:bH l x=some (.string s))(ar:bH l bj=some (.int k i))(aM:rN K.P t=true)(aX:0<=i)(ah:s.data.toList[i.toNat]?=some b):cC K B o n ds l m J (.int .u8 b.toNat):=by
 intro call aE S H ak av;unfold ct eA;simp only[ag];show uA K.P _ (aW S.T H x) (aW S.T H bj) (K.P.underlying t)=_;rw[c1 ak H U,c1 ak H ar];unfold rN at aM;split at aM
 ·rename_i hu;rw[hu];unfold uA;simp only
  cases i with
  |ofNat j=>
   simp only[jU];rw[show s.data.toList[j]?=some b from ah];simp only[pS];rfl
  |negSucc j=>exact absurd aX (by simp)
 ·cases aM
theorem aep{x:Operand}{bj:Nat}{vs:Array Value}{v:Value}(ag:o.op=.extract x bj)(U:bH l x=some (.tuple vs))(ay:nth vs.toList bj=some v):cC K B o n ds l m J v:=by
 intro call aE S H ak av;unfold ct eA;simp only[ag];show wm K.P _ bj (aW S.T H x)=_;rw[c1 ak H U];show fT (nth vs.toList bj) H=_;rw[ay];rfl
end
def bi(K:dG)(B:dt)(ops:List Oper)(a2:List hT)(F:List (FuncId×List Value))(E:b3)(m:aU)(J:an)(bm:b3->aU->an->Prop):Prop:=
 ∀S H,Sat E S->Inv K.g0 B J m H->∃bo:ed,(∀f args H r,bo f args H=some r->(f,args)∉F)/\∃aB H' E' m' ae,
  (∀fE:ed,(∀f args H r,bo f args H=some r->fE f args H=some r)->dy K.P (hZ K.Q fE) (fU K.Q hQ fE).aE ops a2 S H=some (.ok aB H'))/\Sat E' aB/\Inv K.g0 B ae m' H'/\bm E' m' ae
section
variable {K:dG}{B:dt}{ops:List Oper}{a2:List hT}{F:List (FuncId×List Value)}{E:b3}{m m':aU}{J:an}{o:Oper}{bm:b3->aU->an->Prop}{cB:Exit->b3->aU->an->Prop}
variable {n:Nat}{ds:dQ}{l:List (Nat×Value)}{d i:Nat}
theorem ad.draw{id:Nat}{a:Array Oper}(aA:D6 a.toList=none)(hN:zP a.toList=true)(ao:Ew a.toList=a2)(h:bi K B a.toList a2 [] E m J fun E m J=>cB .normal E m J):ad K B (.region id a true) E m J cB:=by
 intro S H ak av;obtain⟨bo,_,aB,H',E',m',ae,aa,ab,aY,bu⟩:=h S H ak av;refine⟨.normal,aB,H',E',m',ae,dc.s' K.eB.ov hQ bo ?_,ab,aY,bu⟩;show qB (tO K.P (fU K.Q hQ bo).call (fU K.Q hQ bo).aE a.toList S H)=_;rw[E9];unfold tO;rw[aA];show qB (vu K.P (hZ K.Q bo) (fU K.Q hQ bo).aE a.toList S H)=_;unfold vu;rw[hN,b1,ao,aa bo (fun _ _ _ _ q=>q)];rfl
theorem bi.nil(h:bm E m J):bi K B ops [] F E m J bm:=fun S H ak av=>⟨ki,(fun _ _ _ _ q=>by cases q),S,H,E,m,J,fun _ _=>rfl,ak,av,h⟩
theorem bi.val{v:Value}(ar:nth ops i=some o)(aq:o.guard=none)(au:o.dst=some d)(aw:Nat.blt d n=true)(ay:cC K B o n ds l m J v)(h:bi K B ops a2 F ⟨n,ds,(d,v)::l⟩ m J bm):bi K B ops (.val i::a2) F ⟨n,ds,l⟩ m J bm:=by
 intro S H ak av;obtain⟨a1,s1,s2⟩:=ak.put (dst:=some d) aw v;obtain⟨bo,dm,aB,H',E',m',ae,aa,ab,aY,bu⟩:=h a1 H s2 av;refine⟨bo,dm,aB,H',E',m',ae,fun fE q=>?_,ab,aY,bu⟩;show iv ops i (kH K.P _ _ ops S H (dy K.P _ _ ops a2))=_;unfold iv;rw[ar];show kH K.P _ _ ops S H (dy K.P _ _ ops a2) o=_;unfold kH eZ;rw[aq];show yX S H o.dst (dy K.P _ _ ops a2) (ct K.P _ _ S H o)=_;rw[ay _ _ S H ak av,au];show(bif Nat.beq H.ax H.ax then m7 (dy K.P _ _ ops a2) H (S.put (some d) v) else none)=_;rw[gH,b1,s1];exact aa fE q
theorem bi.iL{b:eF}{p:dh}{dN:hp}(ar:nth ops i=some o)(aq:o.guard=none)(au:o.dst=some d)(aw:Nat.blt d n=true)(aK:∀S,Sat ⟨n,ds,l⟩ S->k' K.P S.T o.op=some (b,dN))(ao:∀H a,H.mem.get a=some b->p.at (fun _=>True) H a)(qa:∀c e r z,p≠.opn c e r z)
 (h:∀a,bi K B ops a2 F ⟨n,ds,(d,dN.at a)::l⟩ ((a,p)::m) J bm):bi K B ops (.iL i::a2) F ⟨n,ds,l⟩ m J bm:=by
 intro S H ak av;obtain⟨H1,aC⟩:=av.wf.new b;have iH:p.at B.tR H1 H.ax:=by
  have q:=ao H1 H.ax (by rw[(ai.mb aC).2.2.2.2.2,bg rfl]);cases p with
  |row=>exact q
  |map=>exact q
  |loop=>exact q
  |ft=>exact q
  |opn c e r z=>exact absurd rfl (qa c e r z)
 have C7:=av.new aC iH (by cases p with|opn c e r z=>exact absurd rfl (qa c e r z)|_=>rfl);obtain⟨a1,s1,s2⟩:=ak.put (dst:=some d) aw (dN.at H.ax);obtain⟨bo,dm,aB,H',E',m',ae,aa,ab,aY,bu⟩:=h H.ax a1 H1 s2 C7;refine⟨bo,dm,aB,H',E',m',ae,fun fE q=>?_,ab,aY,bu⟩;show iv ops i (zq K.P ops S H (dy K.P _ _ ops a2))=_;unfold iv;rw[ar];show zq K.P ops S H (dy K.P _ _ ops a2) o=_;unfold zq eZ;rw[aq];show FK S H o.dst (dy K.P _ _ ops a2) (k' K.P S.T o.op)=_;rw[aK S ak];show FL S o.dst (dy K.P _ _ ops a2) dN (H.new b)=_;rw[aC,au];show m7 (dy K.P _ _ ops a2) H1 (S.put (some d) (dN.at H.ax))=_;rw[s1];exact aa fE q
theorem Jp{S:aT}(ak:Sat ⟨n,ds,l⟩ S){x:Operand}{v:Value}(h:bH l x=some v):nI S.T x=some v:=by
 cases x with
 |tmp t=>exact ak.get t v h
 |const c=>exact h
 |global g=>cases h
 |func f=>exact h
theorem bi.alloc{t:TypeId}{z:Value}{cells:List Value}(ar:nth ops i=some o)(aq:o.guard=none)(ag:o.op=.alloc t)(au:o.dst=some d)(aw:Nat.blt d n=true)(a0:fG K.P t=some z)(ao:plain z=true)(aL:z.cells.toList=cells)(aa:cells.all ev=true)
 (h:∀a,bi K B ops a2 F ⟨n,ds,(d,.pointer (some ⟨a,0,none⟩))::l⟩ ((a,.row cells t)::m) J bm):bi K B ops (.iL i::a2) F ⟨n,ds,l⟩ m J bm:=by
 refine bi.iL (b:=.row cells t false 0 0 false) (p:=.row cells t) (dN:=.ptr) ar aq au aw (fun S ak=>?_) (fun H a q=>q) (fun c e r z q=>by cases q) h;rw[ag];simp only[k',a0,ao,b1,u7,aL,aa]
theorem bi.bA(ar:nth ops i=some o)(aq:o.guard=none)(h:∀S H,Sat E S->Inv K.g0 B J m H->∃aB H' E' m' ae,(∀call aE,oy S H o.dst (ct K.P call aE S H o)=some (.ok aB H'))/\Sat E' aB/\Inv K.g0 B ae m' H'/\bi K B ops a2 F E' m' ae bm):bi K B ops (.bA i::a2) F E m J bm:=by
 intro S H ak av;obtain⟨a1,H1,gv,cE,bq,a9,a4,bJ,cx⟩:=h S H ak av;obtain⟨bo,dm,aB,H',E',m',ae,aa,ab,aY,bu⟩:=cx a1 H1 a4 bJ;refine⟨bo,dm,aB,H',E',m',ae,fun fE q=>?_,ab,aY,bu⟩;show iv ops i (fun o=>j7 (dy K.P _ _ ops a2) (one K.P _ _ ops S H o))=_;unfold iv;rw[ar];show j7 (dy K.P _ _ ops a2) (one K.P _ _ ops S H o)=_;unfold one eZ;rw[aq];show j7 (dy K.P _ _ ops a2) (oy S H o.dst (ct K.P _ _ S H o))=_;rw[a9];exact aa fE q
theorem bi.tG(ar:nth ops i=some o)(aq:o.guard=none)(h:hU K B o E m J fun E m J=>bi K B ops a2 F E m J bm):bi K B ops (.bA i::a2) F E m J bm:=bi.bA ar aq h
theorem bi.T7{v:Value}(ar:nth ops i=some o)(aq:o.guard=none)(au:o.dst=some d)(aw:Nat.blt d n=true)(ay:cC K B o n ds l m J v)(h:bi K B ops a2 F ⟨n,ds,(d,v)::l⟩ m J bm):bi K B ops (.bA i::a2) F ⟨n,ds,l⟩ m J bm:=by
 refine bi.bA ar aq fun S H ak av=>?_;obtain⟨a1,s1,s2⟩:=ak.put (dst:=some d) aw v;refine⟨a1,H,_,m,J,fun call aE=>?_,s2,av,h⟩;rw[ay _ _ S H ak av,au];show m3 H (S.put (some d) v)=_;rw[s1];rfl
theorem bi.T1{c:Call}{x:Operand}{f:FuncId}{first cap:Array Value}{args cl:List Value}{bU eD:aU}{du:Value->aU->an->Prop}
 (ar:nth ops i=some o)(aq:o.guard=none)(ag:o.op=.call c)(au:o.dst=some d)(aw:Nat.blt d n=true)(aL:c.callee=.value x)(U:bH l x=some (.func (.func f) first cap))(aK:hJ l c.args.toList=some args)(has:(first.toList++args)++cap.toList=cl)
 (az:(f,cl)∉F)(ao:(bU++eD).Perm m)(gD:wg bU)(bY:Fn K f cl bU J du)(h:∀v m' ae,J.le ae->du v m' ae->bi K B ops a2 ((f,cl)::F) ⟨n,ds,(d,v)::l⟩ (m'++eD) ae bm):bi K B ops (.bA i::a2) F ⟨n,ds,l⟩ m J bm:=by
 intro S H ak av;obtain⟨v,H',ae,m',a9,a4,bJ⟩:=bY H (av.enter ao gD);obtain⟨cx,fL⟩:=av.leave ao a4;obtain⟨a1,s1,s2⟩:=ak.put (dst:=some d) aw v;obtain⟨bo,dm,aB,qQ,E',mR,mq,aa,ab,aY,bu⟩:=h v m' ae fL bJ a1 H' s2 cx
 classical
 refine⟨fun cz b5 H1=>if cz=f/\b5=cl then mC f cl H (.returned v,H') cz b5 H1 else bo cz b5 H1,fun cz b5 H1 r q=>?_,aB,qQ,E',mR,mq,fun fE q=>?_,ab,aY,bu⟩
 ·simp only at q;split at q
  ·rename_i e;rw[e.1,e.2];exact az
  ·exact fun cg=>dm cz b5 H1 r q (SB _ cg)
 ·have hf:fE f cl H=some (.returned v,H'):=q f cl H _ (by simp only[and_self,bg];unfold mC;rw[bg ⟨rfl,rfl,rfl⟩]);have AL:∀cz b5 H1 r,bo cz b5 H1=some r->fE cz b5 H1=some r:=fun cz b5 H1 r al=>q cz b5 H1 r (by
   simp only
   rw[a3 (fun e=>dm cz b5 H1 r al (by rw[e.1,e.2];exact List.mem_cons_self))];exact al)
  show iv ops i (fun o=>j7 (dy K.P _ _ ops a2) (one K.P _ _ ops S H o))=_;unfold iv;rw[ar];show j7 (dy K.P _ _ ops a2) (one K.P _ _ ops S H o)=_;unfold one eZ;rw[aq];show j7 (dy K.P _ _ ops a2) (oy S H o.dst (ct K.P _ _ S H o))=_;have he:ct K.P (hZ K.Q fE) (fU K.Q hQ fE).aE S H o=some (.val v H'):=by
   unfold ct eA;simp only[ag];show jW K.P _ c=_;unfold jW;rw[aL];show mE K.P _ _ S.T H c=_;unfold mE;rw[nq ak H aK];simp only[aL];rw[c1 ak H U];simp only
   show(match j9 K.P H (.func f) (first.toList++args) cap.toList with|some (f,cl)=>oY (hZ K.Q _ f cl H)|none=>none)=_
   unfold j9;simp only
   rw[has,zD a9 hf];rfl
  rw[he,au];show j7 (dy K.P _ _ ops a2) (m3 H' (S.put (some d) v))=_;rw[s1];exact aa fE AL
theorem bi.call{c:Call}{x:Operand}{f:FuncId}{first cap:Array Value}{args cl:List Value}{bU eD:aU}{du:Value->aU->an->Prop}
 (ar:nth ops i=some o)(aq:o.guard=none)(ag:o.op=.call c)(au:o.dst=some d)(aw:Nat.blt d n=true)(aL:c.callee=.value x)(U:bH l x=some (.func (.func f) first cap))(aK:hJ l c.args.toList=some args)(has:(first.toList++args)++cap.toList=cl)
 (az:F.all (fun g=>!Nat.beq g.1 f)=true)(ao:(bU++eD).Perm m)(gD:wg bU)(bY:Fn K f cl bU J du)(h:∀v m' ae,J.le ae->du v m' ae->bi K B ops a2 ((f,cl)::F) ⟨n,ds,(d,v)::l⟩ (m'++eD) ae bm):bi K B ops (.bA i::a2) F ⟨n,ds,l⟩ m J bm:=
 bi.T1 ar aq ag au aw aL U aK has (fun q=>by
  rw[qS] at az;have:=az (f,cl) q;simp at this) ao gD bY h
def fH(K:dG)(B:dt)(ops:List Oper)(n:Nat)(ds:dQ)(l:List (Nat×Value))(m:aU)(J:an)(i:Nat):Prop:=
 ∀call aE S H,Sat ⟨n,ds,l⟩ S->Inv K.g0 B J m H->sr K.P call aE ops S H i=true
theorem fH.val{v u:Value}(ar:nth ops i=some o)(aq:o.guard=none)(au:o.dst=some d)(ay:cC K B o n ds l m J v)(hu:look l d=some u)(he:c4 8 v u=true):fH K B ops n ds l m J i:=by
 intro call aE S H ak av;unfold sr;rw[ar];show CF K.P call aE ops S H o (eZ ops S.T o)=true;unfold eZ;rw[aq];show CG H.ax S.T o.dst (ct K.P call aE S H o)=true;rw[ay _ _ S H ak av,au];show(Nat.beq H.ax H.ax&&(match S.T.get d with|some u=>c4 8 v u|none=>false))=true
 rw[gH,ak.get d u hu];simpa using he
def r5(K:dG)(B:dt)(ops:List Oper)(n:Nat)(ds:dQ)(l:List (Nat×Value))(m:aU)(J:an):List Nat->Prop
 |[]=>True
 |i::r=>fH K B ops n ds l m J i/\r5 K B ops n ds l m J r
theorem r5.all{call:ed}{aE:fX}{S:aT}{H:ai}(ak:Sat ⟨n,ds,l⟩ S)(av:Inv K.g0 B J m H):∀{is:List Nat},r5 K B ops n ds l m J is->is.all (sr K.P call aE ops S H)=true:=by
 intro is;induction is with
 |nil=>intro _;rfl
 |cons i r aP=>intro h;rw[zd,h.1 call aE S H ak av,aP h.2];rfl
theorem bi.b2{is:List Nat}(aL:r5 K B ops n ds l m J is)(h:bi K B ops a2 F ⟨n,ds,l⟩ m J bm):bi K B ops (.b2 is::a2) F ⟨n,ds,l⟩ m J bm:=by
 intro S H ak av;obtain⟨bo,dm,aB,H',E',m',ae,aa,ab,aY,bu⟩:=h S H ak av;refine⟨bo,dm,aB,H',E',m',ae,fun fE q=>?_,ab,aY,bu⟩;show zG K.P _ _ ops S H (dy K.P _ _ ops a2) is=_;unfold zG;rw[r5.all ak av aL,b1];exact aa fE q
theorem RM(k:IntKind)(a:Int)(n:Nat):c4 (n+1) (.int k a) (.int k a)=true:=by
 show(jR k k&&lI a a)=true;rw[yq,yj];simp
end
theorem Rt{α:Type}:∀(l:List α) (i:Nat) (T:aQ α),(∀k,k<i->∃v,T.get k=some v)->∃di,tl l i T=some di:=by
 intro l;induction l with
 |nil=>intro i T _;exact⟨T,rfl⟩
 |cons x l aP=>
  intro i T h;obtain⟨nj,b6⟩:=aQ.yH x T i h;obtain⟨di,e⟩:=aP (i+1) nj fun k hk=>by
   rw[aQ.get_put b6];split
   ·exact⟨_,rfl⟩
   ·exact h k (by omega)
  refine⟨di,?_⟩;simp only[tl,aQ.set];rw[b6];exact e
theorem ch{P:Program}{f:FuncId}{fn:Func}(h:P.funcs[f]?=some fn):(xx P).get f=some fn:=by
 obtain⟨T,b6⟩:=Rt P.funcs.toList 0 .leaf (fun k hk=>absurd hk (by omega));unfold xx;rw[b6];simp only
 rw[J5 b6];have cD:f<P.funcs.size:=(E8.1 h).1;rw[bg (by simpa using cD)];simpa using h
section
variable {K:dG}{B:dt}{o:Oper}{n:Nat}{ds:dQ}{l:List (Nat×Value)}{m m':aU}{J:an}{eg:b3->aU->an->Prop}{d:Nat}
theorem fj{P:Program}{α β:Type}{s:Sem α}{a:α}{f:α->Sem β}(h:eJ P s=some a):eJ P (s >>= f)=eJ P (f a):=by
 show eJ P (Sem.bind s f)=_;induction s with
 |pure b=>simp only[eJ,b9] at h;subst h;rfl
 |program k aP=>exact aP P (by simpa[eJ] using h)
 |mark m k aP=>exact aP (by simpa[eJ] using h)
 |_=>simp[eJ] at h
theorem CU{P:Program}{t:TypeId}{oX:TypeDesc}(h:P.underlying t=some oX):eJ P (underlying t)=some oX:=by
 have:eJ P (underlying t)=eJ P (match P.underlying t with|some d=>pure d|none=>stuck "no such type"):=by
  rfl
 rw[this,h];rfl
theorem gS{E:b3}{S:aT}(ak:Sat E S)(H:ai){x:Operand}{v:Value}(h:bH E.l x=some v):oA S.T H x=v:=by
 unfold oA;rw[c1 ak H h]
theorem Qf{x:Operand}{a v:Value}{S:aT}{H:ai}(ak:Sat ⟨n,ds,l⟩ S)(HV:o.op.operands.toList=[x])(U:bH l x=some a)(aK:plain a=true)(he:eJ K.P (execOp (oA S.T H) o)=some (.value v))(ay:plain v=true):eI K.P S.T H o=some (.val v H):=by
 unfold eI;rw[HV];have:eQ S.T H [x]=some [a]:=by simp only[eQ];rw[c1 ak H U]
 rw[this];simp only[zd,List.all_nil,aK,tq,b1,he,ay]
theorem mc{x y:Operand}{a b v:Value}{S:aT}{H:ai}(ak:Sat ⟨n,ds,l⟩ S)(HV:o.op.operands.toList=[x,y])(U:bH l x=some a)(aF:bH l y=some b)(aK:plain a=true)(ah:plain b=true)(he:eJ K.P (execOp (oA S.T H) o)=some (.value v))(ay:plain v=true):eI K.P S.T H o=some (.val v H):=by
 unfold eI;rw[HV];have:eQ S.T H [x,y]=some [a,b]:=by simp only[eQ];rw[c1 ak H U,c1 ak H aF]
 rw[this];simp only[zd,List.all_nil,aK,ah,tq,b1,he,ay]
theorem Rz{t:TypeId}{x:Operand}{b:Bool}(ag:o.op=.unOp .not t x)(U:bH l x=some (.bool b)):cC K B o n ds l m J (.bool (!b)):=by
 intro call aE S H ak av;unfold ct eA;simp only[ag];show eI K.P S.T H o=_;refine Qf ak (by rw[ag];rfl) U rfl ?_ rfl;unfold execOp;simp only[ag];rw[gS ak H U];rfl
theorem aeB{t:TypeId}{x:Operand}{p:Prop}[Decidable p](ag:o.op=.unOp .not t x)(U:bH l x=some (.bool (decide p))):cC K B o n ds l m J (.bool (decide (¬p))):=by
 have:=Rz (K:=K) (B:=B) (n:=n) (ds:=ds) (m:=m) (J:=J) ag U;rwa [show(!decide p)=decide (¬p) by simp] at this
theorem L3(a b:List UInt8):((⟨⟨a⟩⟩:ByteArray).toList==(⟨⟨b⟩⟩:ByteArray).toList)=decide (a=b):=by
 rw[ByteArray.toList_eq,ByteArray.toList_eq,nM];simp
def isInt (P:Program)(s d:TypeId):Option IntKind:=match P.underlying s,P.underlying d with
 |some _,some (.int k)=>some k
 |_,_=>none
theorem aen{s t:TypeId}{x:Operand}{k jE:IntKind}{a b:Int}(ag:o.op=.convert s t x)(U:bH l x=some (.int jE a))(aM:isInt K.P s t=some k)(hw:k.wrap a=b):cC K B o n ds l m J (.int k b):=by
 intro call aE S H ak av;unfold ct eA;simp only[ag];show tb K.P _ s t (aW S.T H x)=_;rw[c1 ak H U];unfold tb;simp only
 unfold isInt at aM;split at aM
 ·rename_i aa ab;rw[aa,ab];injection aM with aM;subst aM
  simp only[pS,yZ,hw];rfl
 ·cases aM
def Bn (P:Program)(t:TypeId):Bool:=match P.underlying t with
 |some (.interface _)=>false
 |some _=>true
 |none=>false
theorem aer{t:TypeId}{x:Operand}{v:Value}(ag:o.op=.makeInterface t x)(U:bH l x=some v)(aM:Bn K.P t=true):cC K B o n ds l m J (.iface t v):=by
 intro call aE S H ak av;unfold ct eA;simp only[ag];show wv K.P _ t (aW S.T H x) (K.P.underlying t)=_;rw[c1 ak H U];unfold Bn at aM;cases hu:K.P.underlying t with
 |none=>rw[hu] at aM;cases aM
 |some oX=>rw[hu] at aM;cases oX<;>first|rfl|cases aM
theorem aeq{f:FuncId}{a b:Array Operand}{bW tn:List Value}(ag:o.op=.makeFunc (.func f) a b)(aK:hJ l a.toList=some bW)(ah:hJ l b.toList=some tn):cC K B o n ds l m J (.func (.func f) bW.toArray tn.toArray):=by
 intro call aE S H ak av;unfold ct eA;simp only[ag];show wu K.P _ (.func f) (eQ S.T H a.toList) (eQ S.T H b.toList)=_;rw[nq ak H aK,nq ak H ah];rfl
def pQ (l:List (Nat×Value)):List (Nat×Operand)->Option (List (Nat×Value))
 |[]=>some []
 |(i,x)::r=>match bH l x with
  |some v=>(match pQ l r with|some vs=>some ((i,v)::vs)|none=>none)
  |none=>none
theorem ML{E:b3}{S:aT}(ak:Sat E S)(H:ai):∀{xs:List (Nat×Operand)} {vs:List (Nat×Value)},pQ E.l xs=some vs->jF S.T H xs=some vs:=by
 intro xs;induction xs with
 |nil=>intro vs h;exact h
 |cons x r aP=>
  obtain⟨i,x⟩:=x;intro vs h;simp only[pQ] at h;simp only[jF];cases U:bH E.l x with
  |none=>rw[U] at h;cases h
  |some v=>
   rw[U] at h;simp only at h;rw[c1 ak H U];simp only;cases al:pQ E.l r with
   |none=>rw[al] at h;cases h
   |some ws=>rw[al] at h;simp only at h;rw[aP al];exact h
def zz (P:Program)(t:TypeId):Option (Sum (List (Nat×Nat)) Nat×List Value):=match fG P t,P.underlying t with
 |some z,some (.struct fields)=>bif plain z then(match places P fields.toList with|some ps=>some (.inl ps,z.cells.toList)|none=>none) else none
 |some z,some (.array _ elem)=>bif plain z then(match ea P elem with|some sz=>some (.inr sz,z.cells.toList)|none=>none) else none
 |_,_=>none
def placeOf:Sum (List (Nat×Nat)) Nat->Nat->Option (Nat×Nat)
 |.inl ps=>nth ps
 |.inr sz=>fun i=>some (i*sz,sz)
theorem aem{t:TypeId}{ps:Array (Nat×Operand)}{vs:List (Nat×Value)}{pl:Sum (List (Nat×Nat)) Nat}{z cells:List Value}(ag:o.op=.build t ps)(ao:pQ l ps.toList=some vs)(aM:zz K.P t=some (pl,z))(az:lc (placeOf pl) z vs=some cells):cC K B o n ds l m J (.agg cells.toArray):=by
 intro call aE S H ak av;unfold ct eA;simp only[ag];show wk K.P _ t (jF S.T H ps.toList)=_;rw[ML ak H ao];show fT (zS K.P t vs) H=_;unfold zz at aM;unfold zS;cases a0:fG K.P t with
 |none=>rw[a0] at aM;cases aM
 |some wU=>
  rw[a0] at aM;cases hu:K.P.underlying t with
  |none=>rw[hu] at aM;cases aM
  |some oX=>
   rw[hu] at aM;cases oX with
   |struct fields=>
    simp only at aM ⊢;cases AG:plain wU with
    |false=>rw[AG] at aM;cases aM
    |true=>
     rw[AG,b1] at aM;rw[b1];cases cc:places K.P fields.toList with
     |none=>rw[cc] at aM;cases aM
     |some cI=>
      rw[cc] at aM;simp only[b9,c'] at aM;obtain⟨rfl,rfl⟩:=aM;have az:lc (nth cI) wU.cells.toList vs=some cells:=az;simp only[az];rfl
   |array k elem=>
    simp only at aM ⊢;cases AG:plain wU with
    |false=>rw[AG] at aM;cases aM
    |true=>
     rw[AG,b1] at aM;rw[b1];cases cc:ea K.P elem with
     |none=>rw[cc] at aM;cases aM
     |some sz=>
      rw[cc] at aM;simp only[b9,c'] at aM;obtain⟨rfl,rfl⟩:=aM;have az:lc (fun i=>some (i*sz,sz)) wU.cells.toList vs=some cells:=az;simp only[az];rfl
   |_=>cases aM
def tD (P:Program)(t:TypeId):Option (Nat×TypeId×Nat):=match P.underlying t with
 |some (.array len elem)=>(match ea P elem with|some sz=>some (len,elem,sz)|none=>none)
 |_=>none
theorem LW{P:Program}{t elem:TypeId}{len sz:Nat}(h:tD P t=some (len,elem,sz)):P.underlying t=some (.array len elem)/\ea P elem=some sz:=by
 unfold tD at h;split at h
 ·rename_i aa;split at h
  ·rename_i ab;simp only[b9,c'] at h;obtain⟨rfl,rfl,rfl⟩:=h;exact⟨aa,ab⟩
  ·cases h
 ·cases h
theorem aet{t elem:TypeId}{x bj:Operand}{a off len sz:Nat}{k:IntKind}{i:Int}(ag:o.op=.indexAddr t x bj)(U:bH l x=some (.pointer (some ⟨a,off,none⟩)))(ar:bH l bj=some (.int k i))(aM:tD K.P t=some (len,elem,sz))(aX:0<=i)(aa:i<len):cC K B o n ds l m J (.pointer (some ⟨a,off+i.toNat*sz,none⟩)):=by
 obtain⟨hu,a0⟩:=LW aM;intro call aE S H ak av;unfold ct eA;simp only[ag];show tc K.P _ t (aW S.T H x) (aW S.T H bj)=_;rw[c1 ak H U,c1 ak H ar];show fT (sx K.P t (.pointer (some ⟨a,off,none⟩)) (.int k i)) H=_;unfold sx;simp only[hu,Iy aX aa,a0];rfl
theorem aeu{t elem e:TypeId}{g:Nat}{bj:Operand}{cells:List Value}{len sz:Nat}{k:IntKind}{i:Int}(ag:o.op=.indexAddr t (.global g) bj)(aq:Nat.blt g K.g0=true)(fu:J g=some (cells,e))(ar:bH l bj=some (.int k i))(aM:tD K.P t=some (len,elem,sz))(aX:0<=i)(aa:i<len):cC K B o n ds l m J (.pointer (some ⟨g,0+i.toNat*sz,none⟩)):=by
 obtain⟨hu,a0⟩:=LW aM;intro call aE S H ak av;unfold ct eA;simp only[ag];show tc K.P _ t (yD H g) (aW S.T H bj)=_;obtain⟨o',cz,gi,df,cc⟩:=av.dB _ _ _ fu;have:yD H g=some (.pointer (some ⟨g,0,none⟩)):=by
  unfold yD;rw[av.bp,aq,b1,cc]
 rw[this,c1 ak H ar];show fT (sx K.P t (.pointer (some ⟨g,0,none⟩)) (.int k i)) H=_;unfold sx;simp only[hu,Iy aX aa,a0];rfl
theorem L5{op:BinOp}{t dK:TypeId}{x y:Operand}{a b:Value}{r:Bool}{S:aT}{H:ai}{call:ed}{aE:fX}(ag:o.op=.binOp op t x y dK)(U:aW S.T H x=some a)(aF:aW S.T H y=some b)(ar:∀k i,a≠.int k i)(ao:eI K.P S.T H o=none)(he:rU K.P ⟨call,aE,S,H,o⟩ t a b op=some (.val (.bool r) H)):ct K.P call aE S H o=some (.val (.bool r) H):=by
 unfold ct eA;simp only[ag];show jV K.P _ op t (aW S.T H x) (aW S.T H y)=_;rw[U,aF];have:jV K.P ⟨call,aE,S,H,o⟩ op t (some a) (some b)=qt K.P ⟨call,aE,S,H,o⟩ op t a b:=by
  cases a<;>first|rfl|exact absurd rfl (ar _ _)
 rw[this];unfold qt;show orElse (eI K.P S.T H o) _=_;rw[ao];exact he
theorem aeG{op:BinOp}{t dK:TypeId}{x y:Operand}{b:Option Addr}{len cap:Nat}(ag:o.op=.binOp .eql t x y dK)(U:bH l x=some (.slice b len cap))(aF:bH l y=some (.slice none 0 0))(aM:isSlice K.P t=true):cC K B o n ds l m J (.bool b.isNone):=by
 intro call aE S H ak av;unfold isSlice at aM;split at aM
 ·rename_i e hu;cases b with
  |none=>
   unfold ct eA;simp only[ag];show jV K.P _ .eql t (aW S.T H x) (aW S.T H y)=_;rw[c1 ak H U,c1 ak H aF];show orElse (eI K.P S.T H o) _=_;have:eI K.P S.T H o=some (.val (.bool true) H):=by
    refine mc ak (by rw[ag];rfl) U aF rfl rfl ?_ rfl;unfold execOp;simp only[ag];rw[gS ak H U,gS ak H aF];rw[fj (a:=.bool true)]
    ·rfl
    rw[fj (a:=()) (by rfl)];have ah:binOp .eql t (.slice none len cap) (.slice none 0 0)=(do pure (.bool (<-Op.equal t (.slice none len cap) (.slice none 0 0)))):=by simp[binOp]
    rw[ah,fj (a:=true)]
    ·rfl
    show eJ K.P (Op.equalIn (9999+1) t (.slice none len cap) (.slice none 0 0))=_;unfold Op.equalIn;rw[fj (CU hu)];rfl
   rw[this];rfl
  |some a=>
   refine L5 ag (c1 ak H U) (c1 ak H aF) (fun _ _ q=>by cases q) ?_ ?_
   ·unfold eI;rw[ag];have:eQ S.T H (Op.binOp BinOp.eql t x y dK).operands.toList=some [.slice (some a) len cap,.slice none 0 0]:=by
     show eQ S.T H [x,y]=_;simp only[eQ];rw[c1 ak H U,c1 ak H aF]
    rw[this];rfl
   ·unfold rU sw;simp only[hu];rfl
 ·cases aM
end
end
end Go.Opn

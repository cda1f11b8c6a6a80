/- A part of the proof of TableClose. -/
import Derived.Test.YtpahonhejmlnpaaGreatDoorCar
import Derived.Test.YtpahonhejmlnpaaGreatDoorCaz
import Derived.Test.YtpahonhejmlnpaaGreatDoorCba
set_option maxRecDepth 100000
set_option linter.unusedVariables false
set_option linter.unusedSimpArgs false
namespace Go.Opn
noncomputable section
open Go.Cre Go.RowKit Go.Proofs
def ca(k:IntKind)(l:List Nat):List Value:=l.map fun x:Nat=>Value.int k (x:Int)
theorem s8{k:IntKind}{l:List Nat}:(ca k l).length=l.length:=gx _
theorem I'{k:IntKind}{l:List Nat}{i x:Nat}(h:l[i]?=some x):(ca k l)[i]?=some (.int k (x:Int)):=by unfold ca;rw[jt,h];rfl
theorem s9{k:IntKind}{l:List Nat}{i off x:Nat}(h:l[i]?=some x)(ag:off=i:=by omega):nth (ca k l) off=some (.int k (x:Int)):=by subst ag;rw[jU];exact I' h
theorem wh{k:IntKind}{a b:List Nat}:ca k (a++b)=ca k a++ca k b:=K'
theorem pq{k:IntKind}{l:List Nat}{off:Nat}{x:Nat}(i:Nat)(h:i<l.length)(ag:off=i:=by omega):fO off (ca k l) [.int k (x:Int)]=some (ca k (l.set i x)):=by
 subst ag;exact Q6 (f:=fun x:Nat=>Value.int k (x:Int)) h
theorem Bs{k:IntKind}(l:List Nat):(ca k l).all ev=true:=by
 induction l with
 |nil=>rfl
 |cons a l aP=>show(ev (Value.int k (a:Int))&&_)=true;unfold ca at aP;rw[aP];rfl
theorem zero_num{k:IntKind}{n:Nat}:eN [.int k 0] n=ca k (List.replicate n 0):=by rw[afn];unfold ca;rw[List.map_replicate];rfl
def de(k:IntKind)(J:an)(v:Value)(l:List Nat):Prop:=∃e,ey J e 1 v l.length (ca k l)
theorem de.mono{k:IntKind}{J ae:an}(hle:J.le ae){v:Value}{l:List Nat}(h:de k J v l):de k ae v l:=by obtain⟨e,h⟩:=h;exact⟨e,h.mono hle⟩
theorem de.addr{k:IntKind}{J:an}{b:Option Addr}{n c:Nat}{l:List Nat}(h:de k J (.slice b n c) l):addrEq b b=true:=by obtain⟨e,h⟩:=h;exact h.addr
theorem de.form{k:IntKind}{J:an}{v:Value}{l:List Nat}(h:de k J v l):∃b c,v=.slice b l.length c:=by
 obtain⟨e,h⟩:=h;obtain⟨b,c,aa,_⟩:=ey.inv h;exact⟨b,c,aa⟩
theorem de.dB{k:IntKind}{J:an}{b:Option Addr}{n c:Nat}{l:List Nat}(h:de k J (.slice b n c) l)(ao:0<l.length):∃a off cells e,b=some ⟨a,off,none⟩/\J a=some (cells,e)/\∀i x:Nat,l[i]?=some x->nth cells (off+i*1)=some (.int k (x:Int)):=by
 obtain⟨e,h⟩:=h;obtain⟨b',bw,aa,_,_,aY⟩:=ey.inv h;injection aa with bu gI hK
 subst bu;obtain⟨a,off,cells,e,a9,a4,bJ⟩:=aY ao;refine⟨a,off,cells,e,a9,a4,fun i x U=>?_⟩;have ar:=(hq.1 U).1;rw[iZ,bJ i (by omega)];exact I' U
theorem de.rd{k:IntKind}{g0:Nat}{B:dt}{J:an}{m:aU}{v:Value}{l:List Nat}(h:de k J v l):ko g0 B J m 1 v l.length (ca k l):=by obtain⟨e,h⟩:=h;exact h.rd
theorem de.nil{k:IntKind}{J:an}:de k J (.slice none 0 0) []:=⟨3,.nil⟩
theorem de.row{k:IntKind}{J:an}{a n cap:Nat}{l:List Nat}{e:TypeId}(aw:n<=l.length)(aL:n<=cap)(hd:cap<cu)(h:J a=some (ca k l,e)):de k J (.slice (some ⟨a,0,none⟩) n cap) (l.take n):=by
 have aA:(l.take n).length=n:=by rw[gp];omega
 refine⟨e,?_⟩;rw[aA];refine .row h ?_ ?_ (fun _=>⟨aL,hd⟩) (fun q=>absurd q (by omega))
 ·rw[kJ,iZ];unfold ca;rw[zh]
 ·rw[s8,aA,iZ]
def jK(n:Nat):List Nat:=if n=0 then[] else[n]
theorem Km{n:Nat}:(jK n).length=if n=0 then 0 else 1:=by unfold jK;split<;>rfl
end
end Go.Opn
set_option maxHeartbeats 4000000
namespace Go.Opn
noncomputable section
open Go.Cre Go.RowKit Go.Proofs
section
variable {Q:ek Tryz.prog}{g0:Nat}{B:dt}{o:Oper}{n:Nat}{ds:dQ}{l:List (Nat×Value)}{m:aU}{J:an}
theorem QI{a:Nat}{cells:List Value}(h:ni m J a cells:=by first|exact .dB (by assumption)|exact .own (by repeat first|exact .head _|refine .tail _ ?_|refine d' _ ?_)|exact .opn (by repeat first|exact .head _|refine .tail _ ?_|refine d' _ ?_)):ni m J a cells:=h
theorem V.c2{t:TypeId}{x:Operand}{a off:Nat}{cells:List Value}{v:Value}(ag:o.op=.load t x:=by exact rfl) (U:bH l x=some (.pointer (some ⟨a,off,none⟩)):=by exact rfl) (al:ni m J a cells:=by exact QI) (ay:kv (aO Q g0).P t cells off=some v:=by exact iV (dw rfl) (by first|rfl|assumption)):cC (aO Q g0) B o n ds l m J (v):=kG ag U al ay
theorem V.hx{t:TypeId}{x:Operand}{a off:Nat}{cells:List Value}{v:Value}(ag:o.op=.load t x:=by exact rfl) (U:bH l x=some (.pointer (some ⟨a,off,none⟩)):=by exact rfl) (al:ni m J a cells:=by exact QI) (ay:kv (aO Q g0).P t cells off=some v:=by exact fb (dw rfl) (by first|rfl|assumption)):cC (aO Q g0) B o n ds l m J (v):=kG ag U al ay
end
theorem adh{cells:List Value}{off:Nat}{v:Value}(i:Nat)(h:i<cells.length)(ag:off=i:=by omega):fO off cells [v]=some (cells.set i v):=by
 subst ag;have:=Q6 (f:=fun v:Value=>v) (L:=cells) (x:=v) h;rwa [List.map_id',List.map_id'] at this
theorem fA.at{α:Type}{J:an}{e:TypeId}{sz n c:Nat}{b:Option Addr}{R:α->List Value->Prop}{xs:List α}(h:fA J e sz R (.slice b n c) xs):n=xs.length/\(0<xs.length->∃a off cells bk,b=some ⟨a,off,none⟩/\J a=some (cells,bk)/\
 ∀i:Int,0<=i->i<xs.length->∃x cs,xs[i.toNat]?=some x/\takeN sz (np (off+i.toNat*sz) cells)=some cs/\(∀k v,k<sz->nth cs k=some v->nth cells (off+i.toNat*sz+k)=some v)/\R x cs):=by
 obtain⟨aa,ab⟩:=h.get;refine⟨aa,fun ao=>?_⟩;obtain⟨a,off,cells,bk,a9,a4,bJ⟩:=ab ao;refine⟨a,off,cells,bk,a9,a4,fun i i0 i1=>?_⟩;have U:=eO (l:=xs) (i:=i.toNat) (by omega);obtain⟨cs,bn,bQ⟩:=bJ _ _ U;rw[jq] at bn;refine⟨_,cs,U,bn,fun k v hk ay=>?_,bQ⟩;obtain⟨q,_,_⟩:=yP bn;rw[jU] at ay ⊢;rw[q,tL,lW,bg hk,uY] at ay;exact ay
section
variable {Q:ek Tryz.prog}{g0:Nat}{J:an}
end
section
variable {K:dG}{B:dt}{o:Oper}{n:Nat}{ds:dQ}{l:List (Nat×Value)}{m:aU}{J:an}
theorem ER{t dK:TypeId}{x y:Operand}{k:IntKind}{a b:Int}(ag:o.op=.binOp .and t x y dK)(U:bH l x=some (.int k a))(aF:bH l y=some (.int k b)):cC K B o n ds l m J (.int k (k.wrap (BitVec.ofInt k.bits a &&& BitVec.ofInt k.bits b).toNat)):=by
 intro call aE S H ak av;unfold ct eA;simp only[ag];show jV K.P _ .and t (aW S.T H x) (aW S.T H y)=_;rw[c1 ak H U,c1 ak H aF];show(bif jR k k then ir H k a b _ .and else _)=_;rw[yq,b1];have key:eI K.P S.T H o=some (.val (.int k (k.wrap (BitVec.ofInt k.bits a &&& BitVec.ofInt k.bits b).toNat)) H):=by
  refine mc ak (by rw[ag];rfl) U aF rfl rfl ?_ rfl;unfold execOp;simp only[ag];rw[gS ak H U,gS ak H aF];have aq:eJ K.P (eqGuard .and t x y (.int k a) (.int k b))=some ():=rfl;have kx:binOp .and t (.int k a) (.int k b)=pure (.int k (k.wrap (BitVec.ofInt k.bits a &&& BitVec.ofInt k.bits b).toNat)):=by simp[binOp,Op.intBits]
  rw[fj (a:=.int k (k.wrap (BitVec.ofInt k.bits a &&& BitVec.ofInt k.bits b).toNat))]
  ·rfl
  rw[fj aq,kx];rfl
 exact(show ir H k a b _ .and=_ from key)
end
def cA(J:an)(v:Value)(x:Nat):Prop:=de .u64 J v (jK x)
theorem cA.mono{J ae:an}(hle:J.le ae){v:Value}{x:Nat}(h:cA J v x):cA ae v x:=de.mono hle h
theorem cA.un{J:an}{v:Value}{x:Nat}(h:cA J v x):∃b n c,v=.slice b n c/\addrEq b b=true/\(x=0/\n=0\/x≠0/\n=1)/\(n=1->∃a off cells e,b=some ⟨a,off,none⟩/\J a=some (cells,e)/\nth cells (off+0)=some (.int .u64 (x:Int))):=by
 have h:de .u64 J v (jK x):=h;obtain⟨b,c,rfl⟩:=h.form;have hw:=Km (n:=x);refine⟨b,_,c,rfl,h.addr,?_,fun aw=>?_⟩
 ·by_cases q:x=0
  ·rw[bg q] at hw;exact .inl ⟨q,hw⟩
  ·rw[a3 q] at hw;exact .inr ⟨q,hw⟩
 ·obtain⟨a,off,cells,e,aa,ab,aY⟩:=h.dB (by omega)
  have q:x≠0:=fun q=>by rw[bg q] at hw;omega
  exact⟨a,off,cells,e,aa,ab,aY 0 x (by unfold jK;rw[a3 q];rfl)⟩
theorem cA.zero{J:an}{b:Option Addr}{c:Nat}(h:∃e,ey J e 1 (.slice b 0 c) 0 []):cA J (.slice b 0 c) 0:=by
 obtain⟨e,h⟩:=h;exact⟨e,h⟩
theorem cA.nil{J:an}:cA J (.slice none 0 0) 0:=.zero ⟨3,.nil⟩
theorem cA.row{J:an}{a n cap x:Nat}{l:List Nat}{e:TypeId}(aw:l.take n=jK x)(aA:n<=l.length)(aL:n<=cap)(hd:cap<cu)(h:J a=some (ca .u64 l,e)):cA J (.slice (some ⟨a,0,none⟩) n cap) x:=by
 have:=de.row aA aL hd h;rw[aw] at this;exact this
theorem Fn.Qi{K:dG}{J:an}{f:FuncId}{fn:Func}{args:List Value}{v:Value}(az:K.eK.get f=some fn)(ah:fn.body=none)(ao:args.all plain=true)(he:eJ K.P (callFunc f args.toArray)=some (.value v))(ay:plain v=true):Fn K f args [] J (fun u m' ae=>u=v/\m'=[]/\J=ae):=by
 intro H av;refine⟨v,H,J,[],jn.ck K.eB hQ ki (bf:=.run) ?_,av,rfl,rfl,rfl⟩;unfold oZ;rw[az];show zu K.P _ f fn args false .run H fn.body=_;rw[ah];show nk .run (vv K.P fn f args H)=_;unfold vv;rw[ao,he];simp only[b1,GG,ay];rfl
theorem S9(x y:Nat):eJ hE (callFunc 109 #[.int .u64 (x:Int),.int .u64 (y:Int),.int .u64 0])=some (.value (.tuple #[.int .u64 (((x+y+0) % 2 ^ 64:Nat):Int),.int .u64 (((x+y+0) / 2 ^ 64:Nat):Int)])):=by kernel_rfl
theorem adK(x y:Nat):eJ hE (callFunc 139 #[.int .u64 (x:Int),.int .u64 (y:Int),.int .u64 0])=some (.value (.tuple #[.int .u64 (((x+2 ^ 64 -y -0) % 2 ^ 64:Nat):Int),.int .u64 ((if x<y+0 then 1 else 0:Nat):Int)])):=by kernel_rfl
section
variable {Q:ek Tryz.prog}{g0:Nat}{J:an}
theorem FI{x y:Nat}(h:x+y<18446744073709551616):Fn (aO Q g0) 109 [.int .u64 (x:Int),.int .u64 (y:Int),.int .u64 0] [] J (fun u m' ae=>u=.tuple #[.int .u64 ((x+y:Nat):Int),.int .u64 0]/\m'=[]/\J=ae):=by
 have e:eJ hE (callFunc 109 #[.int .u64 (x:Int),.int .u64 (y:Int),.int .u64 0])=some (.value (.tuple #[.int .u64 ((x+y:Nat):Int),.int .u64 0])):=by
  rw[S9,nT,se (show x+y<2 ^ 64 from h),qV (show x+y<2 ^ 64 from h)];rfl
 exact Fn.Qi (ch Tryz.func109) rfl rfl e rfl
theorem adJ{x y:Nat}(h:y<=x)(U:x<18446744073709551616):Fn (aO Q g0) 139 [.int .u64 (x:Int),.int .u64 (y:Int),.int .u64 0] [] J (fun u m' ae=>u=.tuple #[.int .u64 ((x -y:Nat):Int),.int .u64 0]/\m'=[]/\J=ae):=by
 have e:eJ hE (callFunc 139 #[.int .u64 (x:Int),.int .u64 (y:Int),.int .u64 0])=some (.value (.tuple #[.int .u64 ((x -y:Nat):Int),.int .u64 0])):=by
  rw[adK,nT,a3 (by omega),show(x+2 ^ 64 -y -0) % 2 ^ 64=x -y by omega];rfl
 exact Fn.Qi (ch Tryz.func139) rfl rfl e rfl
end
theorem FN{x:Nat}(h:x<4294967296):IntKind.u64.wrap (BitVec.ofInt IntKind.u64.bits (x:Int) &&& BitVec.ofInt IntKind.u64.bits 4294967295).toNat=(x:Int):=by
 have e:(BitVec.ofInt 64 (x:Int) &&& BitVec.ofInt 64 4294967295).toNat=x:=by
  rw[BitVec.toNat_and];have aa:(BitVec.ofInt 64 (x:Int)).toNat=x:=by
   rw[BitVec.toNat_ofInt];omega
  have ab:(BitVec.ofInt 64 4294967295).toNat=2 ^ 32 -1:=by decide
  rw[aa,ab,Nat.and_two_pow_sub_one_eq_mod];omega
 show IntKind.u64.wrap ((BitVec.ofInt 64 (x:Int) &&& BitVec.ofInt 64 4294967295).toNat:Int)=_;rw[e];exact wrap_u64 (by omega) (by omega)
theorem QY{x:Nat}:(x:Int).fdiv (2 ^ ((32:Int).toNat))=((x / 4294967296:Nat):Int):=QZ (q:=32)
theorem EI{x:Nat}(h:x<4294967296):(x:Int).fdiv (2 ^ ((32:Int).toNat))=0:=by
 rw[QY,qV h];rfl
def g'(x y:Nat):Int:=if x<y then -1 else if y<x then 1 else 0
section
variable {Q:ek Tryz.prog}{g0:Nat}{J:an}
theorem aak{x y:Nat}(U:x<4294967296)(aF:y<4294967296):Fn (aO Q g0) 108 [.int .u64 (x:Int),.int .u64 (y:Int)] [] J (fun u m' ae=>u=.tuple #[.int .u64 0,.int .u64 ((x*y:Nat):Int)]/\m'=[]/\J=ae):=by
 obtain⟨P,eB⟩:∃P:Nat,P=x*y:=⟨_,rfl⟩;have xJ:(x:Int)*(y:Int)=(P:Int):=by rw[eB];exact(gZ x y).symm
 have agA:P<18446744073709551616:=by
  rw[eB];exact jL (Nat.mul_lt_mul'' U aF) (by decide)
 have cc:P / 4294967296<4294967296:=by omega
 refine Fn.ck (ch Tryz.func108) rfl rfl fun H=>?_;refine rg ?_;refine aH ?_;refine bb ?_;refine I V.aJ ?_;refine' W.step rfl (Exec.val rfl rfl (ER rfl rfl rfl) ?_);refine I V.aI ?_;refine bR ?_;rw[FN U];refine rg ?_;refine I V.aJ ?_;refine' W.step rfl (Exec.val rfl rfl (yT rfl rfl rfl rfl ?aX ?aa) ?_);case aX=>exact bS
 case aa=>first|decide|exact bS|exact(show _<=((64:Nat):Int) from(by omega))
 refine I V.aI ?_;refine bR ?_;rw[EI U];refine rg ?_;refine I V.aJ ?_;refine' W.step rfl (Exec.val rfl rfl (ER rfl rfl rfl) ?_);refine I V.aI ?_;refine bR ?_;rw[FN aF];refine rg ?_;refine I V.aJ ?_;refine' W.step rfl (Exec.val rfl rfl (yT rfl rfl rfl rfl ?aX ?aa) ?_);case aX=>exact bS
 case aa=>first|decide|exact bS|exact(show _<=((64:Nat):Int) from(by omega))
 refine I V.aI ?_;refine bR ?_;rw[EI aF];refine rg ?_;refine aH ?_;refine I V.bW ?_;refine I V.aI ?_;refine bR ?_;rw[xJ];refine rg ?_;refine aH ?_;refine I V.bW ?_;refine I V.aJ ?_;refine' W.step rfl (Exec.val rfl rfl (yT rfl rfl rfl rfl ?aX ?aa) ?_);case aX=>exact bS
 case aa=>first|decide|exact bS|exact(show _<=((64:Nat):Int) from(by omega))
 rw[QY];refine I V.bW ?_;refine I V.aI ?_;refine bR ?_;rw[uW,Ff];refine rg ?_;refine I V.aJ ?_;refine' W.step rfl (Exec.val rfl rfl (ER rfl rfl rfl) ?_);refine I V.aI ?_;refine bR ?_;rw[FN cc];refine rg ?_;refine I V.aJ ?_;refine' W.step rfl (Exec.val rfl rfl (yT rfl rfl rfl rfl ?aX ?aa) ?_);case aX=>exact bS
 case aa=>first|decide|exact bS|exact(show _<=((64:Nat):Int) from(by omega))
 refine I V.aI ?_;refine bR ?_;rw[EI cc];refine rg ?_;refine aH ?_;refine I V.bW ?_;refine I V.bW ?_;refine I V.aI ?_;refine bR ?_;rw[KN,Int.add_zero];refine rg ?_;refine aH ?_;refine I V.bW ?_;refine I V.aJ ?_;refine I V.bW ?_;refine I V.aJ ?_;refine' W.step rfl (Exec.val rfl rfl (yT rfl rfl rfl rfl ?aX ?aa) ?_);case aX=>exact bS
 case aa=>first|decide|exact bS|exact(show _<=((64:Nat):Int) from(by omega))
 rw[EI cc];refine I V.bW ?_;refine I V.aI ?_;refine bb ?_;refine aH ?_;refine I V.bW ?_;refine I V.aI ?_;refine aD ?_;refine ad.ret ?_;refine oK ?_;exact⟨by rw[uW,Ff,Ff,xJ,eB];rfl,rfl,rfl⟩
theorem Mw{x d:Nat}(U:x<18446744073709551616)(au:0<d):Fn (aO Q g0) 129 [.int .u64 0,.int .u64 (x:Int),.int .u64 (d:Int)] [] J (fun u m' ae=>u=.tuple #[.int .u64 ((x / d:Nat):Int),.int .u64 ((x % d:Nat):Int)]/\m'=[]/\J=ae):=by
 have aC:IntKind.u64.wrap ((x:Int).tdiv (d:Int))=((x / d:Nat):Int):=by
  have ku:(x:Int).tdiv (d:Int)=((x / d:Nat):Int):=rfl;rw[ku];exact wrap_u64 (Cf _) (Int.ofNat_lt.2 (hC (sc x d) U))
 have aZ:(x:Int).tmod (d:Int)=((x % d:Nat):Int):=rfl;refine Fn.ck (ch Tryz.func129) rfl rfl fun H=>?_;refine rg ?_;refine aH ?_;refine bb ?_;refine I V.aJ ?_;refine I V.a' ?_;refine aD ?_;refine If (fun la=>?_) fun la=>?_
 ·exfalso;omega
 ·refine aG ?_;refine ad.skip ?_;refine rg ?_;refine aH ?_;refine I V.a' ?_;refine aD ?_;refine If (fun zB=>?_) fun zB=>?_
  ·exfalso;omega
  ·refine aG ?_;refine ad.skip ?_;refine rg ?_;refine I V.aJ ?_;refine I V.a' ?_;refine aD ?_;refine If (fun kt=>?_) fun kt=>?_
   ·refine aG ?_;refine ad.draw rfl (by kernel_rfl) (a2:=[.val 0,.val 1,.val 2,.val 3,.val 4,.val 5,.val 6,.val 7]) (by kernel_rfl) ?_;refine e3 ?_;refine a6 rfl V.ha ?_;refine e3 ?_;refine a6 rfl V.ha ?_;refine e3 ?_;refine bi.nil ?_;refine aG ?_;refine ad.ret ?_;refine oK ?_;exact⟨by rw[aC,aZ];rfl,rfl,rfl⟩
   ·exfalso;exact kt rfl
theorem yo{v:Value}{x:Nat}(h:cA J v x):Fn (aO Q g0) 106 [v] [] J (fun u m' ae=>u=.bool (decide (x=1))/\m'=[]/\J=ae):=by
 obtain⟨b,n,c,rfl,lQ,aw,al⟩:=h.un;refine Fn.ck (ch Tryz.func106) rfl rfl fun H=>?_;refine rg ?_;refine I V.aI ?_;refine bb ?_;refine aH ?_;refine I V.a' ?_;refine I V.aJ ?_;refine gz 6 (fun j'=>?_) fun j'=>?_
 ·obtain⟨a,off,cells,e,rfl,fu,ay⟩:=al (by omega);refine bM V.aJ ?_;refine bM V.bj ?_;refine bM V.c2 ?_;refine bM V.a' ?_;refine I V.bo ?_;refine I V.aI ?_;refine aD ?_;refine ad.ret ?_;refine oK ?_;first
   |(have c:=j'
     exact⟨aj Value.bool (by by_cases q:x=1<;>simp[q]<;>omega),rfl,rfl⟩)
 ·refine c7 ?_;refine c7 ?_;refine c7 ?_;refine c7 ?_;refine I V.bo ?_;refine I V.aI ?_;refine aD ?_;refine ad.ret ?_;refine oK ?_;first
   |(have c:=j'
     exact⟨aj Value.bool (by by_cases q:x=1<;>simp[q]<;>omega),rfl,rfl⟩)
theorem zJ{v w:Value}{x y:Nat}(U:cA J v x)(aF:cA J w y):Fn (aO Q g0) 89 [v,w] [] J (fun u m' ae=>u=.int .i64 (g' x y)/\m'=[]/\J=ae):=by
 obtain⟨br,bI,bn,rfl,aR,eb,gK⟩:=U.un;obtain⟨bN,cY,bQ,rfl,aN,e',gT⟩:=aF.un;refine Fn.ck (ch Tryz.func89) rfl rfl fun H=>?_;refine rg ?_;refine I V.aI ?_;refine bb ?_;refine aH ?_;refine I V.a' ?_;refine aD ?_;refine If (fun dq=>?_) fun dq=>?_
 ·refine rg ?_;refine aH ?_;refine I V.a' ?_;refine aD ?_;refine If (fun fQ=>?_) fun fQ=>?_
  ·refine rg ?_;refine I V.aI ?_;refine aD ?_;refine ad.ret ?_;refine oK ?_;unfold g';first
    |(have c:=fQ
      first
          |exact⟨by rw[bg (by omega)];rfl,rfl,rfl⟩
          |exact⟨by rw[a3 (by omega),bg (by omega)];rfl,rfl,rfl⟩)
    |exact⟨by rw[a3 (by omega),a3 (by omega)];rfl,rfl,rfl⟩
  ·refine aG ?_;refine ad.skip ?_;refine rg ?_;refine I V.aI ?_;refine aD ?_;refine ad.ret ?_;refine oK ?_;unfold g';first
    |(have c:=fQ
      first
          |exact⟨by rw[bg (by omega)];rfl,rfl,rfl⟩
          |exact⟨by rw[a3 (by omega),bg (by omega)];rfl,rfl,rfl⟩)
    |exact⟨by rw[a3 (by omega),a3 (by omega)];rfl,rfl,rfl⟩
 ·refine aG ?_;refine ad.skip ?_;refine rg ?_;refine aH ?_;refine I V.bW ?_;refine I V.aI ?_;refine aD ?_;refine ad.block ?_;refine' ad.eH (l':=[(5,.int .i64 (((bI):Int) -1)),(0,_),(1,_)]) ⟨?gh,rfl,rfl,trivial⟩ (cd _) ?_;case gh=>first|exact cq|exact aj some (aj (Value.int .u64) (by omega))|exact aj some (aj (Value.int .i64) (by omega))
  refine aG ?_;refine' ad.mQ (α:=(Nat)) (fun(k:Nat)=>[(5,.int .i64 ((k:Int) -1))]) (fun(k:Nat)=>k<=bI/\(k<bI->x=y)) (fun(k:Nat)=>k) (bI) ?af ?bT;case af=>exact⟨c5 _,fun h=>absurd h (u3 _)⟩
  case bT=>
   rintro k hinv;try simp only at hinv
   obtain⟨hk,dT⟩:=hinv;refine rg ?_;refine I V.aJ ?_;refine I V.a' ?_;refine aD ?_;refine If (fun la=>?_) fun la=>?_
   ·obtain⟨bx,nH,vi,aC,rfl,l3,lF⟩:=gK (by omega);obtain⟨bX,pr,zH,aZ,rfl,xF,sW⟩:=gT (by omega);have oe:((k:Int) -1).toNat=0:=by omega
    have lF:nth vi (nH+((k:Int) -1).toNat*1)=some (.int .u64 (x:Int)):=by rw[oe];exact lF
    have sW:nth zH (pr+((k:Int) -1).toNat*1)=some (.int .u64 (y:Int)):=by rw[oe];exact sW
    refine e4 ?_;refine aG ?_;refine ad.block ?_;refine aG ?_;refine ad.draw rfl (by kernel_rfl) (a2:=[.val 0,.val 1,.val 2,.val 3,.val 4,.val 5,.val 6,.val 7,.val 8]) (by kernel_rfl) ?_;refine e3 ?_;refine a6 rfl V.bj ?_;refine a6 rfl V.c2 ?_;refine e3 ?_;refine a6 rfl V.bj ?_;refine a6 rfl V.c2 ?_;refine a6 rfl V.a' ?_;refine bi.nil ?_;refine aG ?_;refine If (fun oT=>?_) fun oT=>?_
    ·refine rg ?_;refine I V.aI ?_;refine aD ?_;refine ad.ret ?_;refine oK ?_;unfold g';first
       |(have c:=oT;exact⟨by rw[bg (by omega)];rfl,rfl,rfl⟩)
       |exact⟨by rw[a3 (by omega),a3 (by omega)];rfl,rfl,rfl⟩
    ·refine aG ?_;refine ad.skip ?_;refine aG ?_;refine ad.draw rfl (by kernel_rfl) (a2:=[.val 0,.val 1,.val 2,.val 3,.val 4,.val 5,.val 6,.val 7,.val 8]) (by kernel_rfl) ?_;refine e3 ?_;refine a6 rfl V.bj ?_;refine a6 rfl V.c2 ?_;refine e3 ?_;refine a6 rfl V.bj ?_;refine a6 rfl V.c2 ?_;refine a6 rfl V.a' ?_;refine bi.nil ?_;refine aG ?_;refine If (fun tF=>?_) fun tF=>?_
     ·refine rg ?_;refine I V.aI ?_;refine aD ?_;refine ad.ret ?_;refine oK ?_;unfold g';first
       |(have c:=oT;exact⟨by rw[bg (by omega)];rfl,rfl,rfl⟩)
       |(have c:=tF;exact⟨by rw[a3 (by omega),bg (by omega)];rfl,rfl,rfl⟩)
       |exact⟨by rw[a3 (by omega),a3 (by omega)];rfl,rfl,rfl⟩
     ·refine aG ?_;refine ad.skip ?_;refine rg ?_;refine I V.aJ ?_;refine I V.bW ?_;refine I V.aI ?_;refine bR ?_;refine'⟨(k -1),_,?hinv,?hh,rfl,⟨?mT,rfl,rfl,trivial⟩,cd _,rfl⟩;case mT=>first|exact cq|exact aj some (aj (Value.int .u64) (by omega))|exact aj some (aj (Value.int .i64) (by omega))
      case hh=>exact bS
      case hinv=>exact⟨by omega,fun _=>by omega⟩
   ·refine aG ?_;refine ad.exit ?_;refine rg ?_;refine I V.aI ?_;refine aD ?_;refine ad.ret ?_;refine oK ?_;unfold g';first
     |exact⟨by rw[a3 (by omega),a3 (by omega)];rfl,rfl,rfl⟩
end
theorem tI{x y:Nat}:g' x y<0↔x<y:=by unfold g';split<;>(try split)<;>omega
theorem Mm{x y:Nat}:g' x y=0↔x=y:=by unfold g';split<;>(try split)<;>omega
theorem wJ{x n k:Nat}(aa:k<=n+1)(ab:∀j y,k<=j->(x::List.replicate n 0)[j]?=some y->y=0)(aY:∀y,0<k->(x::List.replicate n 0)[k -1]?=some y->y≠0):(x::List.replicate n 0).take k=jK x:=by
 unfold jK
 match k,aa,ab,aY with
 |0,_,ab,_=>
  rw[bg (ab 0 x (c5 _) rfl)];rfl
 |1,_,_,aY=>
  rw[a3 (aY x (by omega) rfl)];rfl
 |k+2,aa,_,aY=>
  refine absurd rfl (aY 0 (by omega) ?_);show(List.replicate n 0)[k]?=some 0;rw[List.getElem?_replicate,bg (by omega)]
def E4(p:Nat):Nat->List Nat
 |0=>[0,0]
 |_+1=>[p,0]
def Qp(q:Nat):Nat->List Nat
 |0=>[q]
 |_+1=>[0]
def EA(r:Nat):Nat->Nat
 |0=>r
 |_+1=>0
abbrev lR(k:IntKind)(t a:Nat)(l:List Nat):Nat×dh:=(a,.row (ca k l) t)
abbrev iK(J:an)(x:Nat):Value->aU->an->Prop:=fun u m' ae=>J.le ae/\m'=[]/\cA ae u x
section
variable {Q:ek Tryz.prog}{g0:Nat}{J:an}
theorem BQ{a cap:Nat}{l:List Nat}(aL:l.length<=cap)(jO:0<cap)(hd:cap<1000000):
 Fn (aO Q g0) 110 [.slice (some ⟨a,0,none⟩) l.length cap] [lR .u64 102 a l] J (fun u m' ae=>∃k,u=.slice (some ⟨a,0,none⟩) k cap/\k<=l.length/\(∀j y,k<=j->l[j]?=some y->y=0)/\(∀y,0<k->l[k -1]?=some y->y≠0)/\m'=[lR .u64 102 a l]/\J=ae):=by
 have ag4:cap<cu:=Nat.lt_trans hd (by decide);refine Fn.ck (ch Tryz.func110) rfl rfl fun H=>?_;refine rg ?_;refine I V.aI ?_;refine bb ?_;refine aH ?_;refine aD ?_;refine ad.block ?_;refine' ad.eH (l':=[(3,.int .i64 ((l.length):Int)),(0,_)]) ⟨?dD,rfl,trivial⟩ (cd _) ?_;case dD=>first|exact cq|exact aj some (aj (Value.int .u64) (by omega))|exact aj some (aj (Value.int .i64) (by omega))
 refine aG ?_;refine' ad.mQ (α:=(Nat)) (fun(k:Nat)=>[(3,.int .i64 (k:Int))]) (fun(k:Nat)=>k<=l.length/\∀j y,k<=j->l[j]?=some y->y=0) (fun(k:Nat)=>k) (l.length) ?af ?bT;case af=>exact⟨c5 _,fun j y aa ab=>by have:=(hq.1 ab).1;omega⟩
 case bT=>
  rintro k hinv;try simp only at hinv
  obtain⟨hk,a0⟩:=hinv;refine rg ?_;refine I V.aJ ?_;refine I V.a' ?_;refine I V.aJ ?_;refine gz 8 (fun vD=>?_) fun vD=>?_
  ·obtain⟨x,U⟩:∃x,l[k -1]?=some x:=⟨_,eO (by omega)⟩;have aw:nth (ca .u64 l) (0+((k:Int) -1).toNat*1)=some (.int .u64 (x:Int)):=s9 U (by omega);refine bM V.aJ ?_;refine bM V.aJ ?_;refine bM V.bW ?_;refine bM V.bj ?_;refine bM V.cP ?_;refine bM V.a' ?_;refine I V.bo ?_;refine aD ?_;refine If (fun fQ=>?_) fun fQ=>?_
   ·refine aG ?_;refine ad.skip ?_;refine aG ?_;refine ad.block ?_;refine rg ?_;refine I V.aJ ?_;refine I V.bW ?_;refine I V.aI ?_;refine bR ?_;refine'⟨(k -1),_,?hinv,?hh,rfl,⟨?jT,rfl,trivial⟩,cd _,rfl⟩;case jT=>first|exact cq|exact aj some (aj (Value.int .u64) (by omega))|exact aj some (aj (Value.int .i64) (by omega))
    case hh=>exact bS
    case hinv=>
     exact⟨by omega,fun j y aa ab=>by
         by_cases q:k<=j
         ·exact a0 j y q ab
         ·obtain rfl:j=k -1:=by omega
          rw[U] at ab;injection ab with ab;omega⟩
   ·refine aG ?_;refine ad.exit ?_;refine rg ?_;refine aH ?_;refine' W.step rfl (Exec.val rfl rfl (Kc rfl rfl (kZ Q g0) rfl ?aX ?aa ?ab ?aY) ?_);case aX=>exact bS
    case aa=>exact bS
    case ab=>first|exact(by decide)|assumption
    case aY=>first|exact(by decide)|assumption
    refine I V.aI ?_;refine aD ?_;refine ad.ret ?_;refine'⟨.inr rfl,rfl,_,_,.tmp rfl .nil,cd _,?_⟩;first
      |(have c:=fQ;exact⟨k,by rw[jq];rfl,hk,a0,fun y aa ab=>by rw[U] at ab;injection ab with ab;omega,rfl,rfl⟩)
      |exact⟨k,by rw[jq];rfl,hk,a0,fun y aa ab=>by omega,rfl,rfl⟩
  ·refine c7 ?_;refine c7 ?_;refine c7 ?_;refine c7 ?_;refine c7 ?_;refine c7 ?_;refine I V.bo ?_;refine aD ?_;refine ad.tJ rfl ?_;refine aG ?_;refine ad.exit ?_;refine rg ?_;refine aH ?_;refine' W.step rfl (Exec.val rfl rfl (Kc rfl rfl (kZ Q g0) rfl ?aX ?aa ?ab ?aY) ?_);case aX=>exact bS
   case aa=>exact bS
   case ab=>first|exact(by decide)|assumption
   case aY=>first|exact(by decide)|assumption
   refine I V.aI ?_;refine aD ?_;refine ad.ret ?_;refine'⟨.inr rfl,rfl,_,_,.tmp rfl .nil,cd _,?_⟩;first
    |exact⟨k,by rw[jq];rfl,hk,a0,fun y aa ab=>by omega,rfl,rfl⟩
theorem ab4{v w:Value}{x y:Nat}(U:cA J v x)(aF:cA J w y)(gN:x≠0)(qJ:y≠0)(h:x+y<18446744073709551616):Fn (aO Q g0) 130 [v,w] [] J (iK J (x+y)):=by
 obtain⟨br,bI,bn,rfl,aR,eb,gK⟩:=U.un;obtain⟨bN,cY,bQ,rfl,aN,e',gT⟩:=aF.un;obtain rfl:bI=1:=by omega
 obtain rfl:cY=1:=by omega
 obtain⟨bx,nH,vi,aC,rfl,l3,lF⟩:=gK rfl;obtain⟨bX,pr,zH,aZ,rfl,xF,sW⟩:=gT rfl;refine Fn.ck (ch Tryz.func130) rfl rfl fun H=>?_;refine rg ?_;refine I V.aI ?_;refine bb ?_;refine aH ?_;refine I V.a' ?_;refine aD ?_;refine If (fun gQ=>?_) fun gQ=>?_
 ·exfalso;omega
 ·refine aG ?_;refine ad.skip ?_;refine rg ?_;refine aH ?_;refine I V.bW ?_;refine' W.step rfl (.of (wQ rfl rfl rfl rfl rfl (kZ Q g0) ?aX ?aa ?ab fun u6=>?_));case aX=>exact bS
  case aa=>exact bS
  case ab=>exact bS
  refine I V.aI ?_;refine bR ?_;rw[show(((1:Nat):Int)+1).toNat=2 from rfl,zero_num];refine rg ?_;refine I V.aI ?_;refine bb ?_;refine aH ?_;refine aD ?_;refine ad.block ?_;refine' ad.eH (l':=[(23,.int .i64 ((0):Int)),(6,.int .u64 0),(0,_),(1,_),(5,_),(21,_),(22,_)]) ⟨?aeT,?mi,rfl,rfl,rfl,rfl,rfl,trivial⟩ (cd _) ?_;case aeT=>first|exact cq|exact aj some (aj (Value.int .u64) (by omega))|exact aj some (aj (Value.int .i64) (by omega))
  case mi=>first|exact cq|exact aj some (aj (Value.int .u64) (by omega))|exact aj some (aj (Value.int .i64) (by omega))
  refine aG ?_;refine' ad.b0 (fun(i:Nat)=>⟨[(23,.int .i64 (i:Int)),(6,.int .u64 0)],[lR .u64 102 u6 (E4 (x+y) i)],J,i<=1,1 -i⟩) (0) ?af ?bT;case af=>exact fB _
  case bT=>
   rintro i hinv;try simp only at hinv
   have ar:=hinv;refine rg ?_;refine I V.a' ?_;refine aD ?_;refine If (fun zB=>?_) fun zB=>?_
   ·obtain rfl:i=0:=by omega
    refine e4 ?_;refine aG ?_;refine ad.block ?_;refine rg ?_;refine I V.aJ ?_;refine I V.bj ?_;refine I V.c2 ?_;refine aH ?_;refine bb ?_;refine I V.aI ?_;refine bb ?_;refine aH ?_;refine I V.a' ?_;refine aD ?_;refine If (fun oT=>?_) fun oT=>?_
    ·refine rg ?_;refine aH ?_;refine I V.bj ?_;refine I V.c2 ?_;refine I V.aI ?_;refine bb ?_;refine aH ?_;refine b4 (G:=FI h) (h:=?_);rintro v' m' ae hle ⟨rfl,rfl,rfl⟩;refine aH ?_;refine I V.bj ?_;refine' W.step rfl (.of (k4 rfl rfl rfl rfl (jX rfl) rfl rfl rfl ?aa ?af ?ao ?_));case ao=>repeat first|exact .head _ _ _ _|apply dp.tail|apply dp.app
     case af=>exact pq (l:=[0,0]) (x:=x+y) 0 (by decide) (by omega)
     case aa=>first|rfl|assumption
     refine I V.aI ?_;refine bb ?_;refine I V.bW ?_;refine I V.aJ ?_;refine bR ?_;refine gF (1) ?_;exact(c5 _)
    ·exfalso;omega
   ·obtain rfl:i=1:=by omega
    refine aG ?_;refine ad.exit ?_;refine rg ?_;refine aH ?_;refine I V.bj ?_;refine' W.step rfl (.of (k4 rfl rfl rfl rfl (jX rfl) rfl rfl rfl ?aa ?af ?ao ?_));case ao=>repeat first|exact .head _ _ _ _|apply dp.tail|apply dp.app
    case af=>exact pq (l:=[x+y,0]) (x:=0) 1 (by simp) (by omega)
    case aa=>first|rfl|assumption
    refine bb ?_;refine I V.aJ ?_;refine' W.step rfl (Exec.call rfl rfl rfl rfl rfl rfl rfl (bU:=[lR .u64 102 u6 [x+y,0]]) (eD:=[]) (.refl _) trivial (BQ (l:=[x+y,0]) (by simp) (by decide) (by decide)) ?_);rintro v' m' ae hle ⟨k,rfl,hk,a0,nx,rfl,rfl⟩;refine I V.aI ?_;refine bR ?_;refine ad.iW rfl fun a8=>?_;refine aG ?_;refine ad.ret ?_;refine'⟨.inr rfl,rfl,_,[],.tmp rfl .nil,bZ _,⟨a8,rfl,cA.row (wJ (n:=1) hk a0 nx) hk hk (by decide) (an.hH _ _ _)⟩⟩
theorem Pr{v w:Value}{x y:Nat}(U:cA J v x)(aF:cA J w y)(gN:x≠0)(qJ:y≠0)(h:y<=x)(ah:x<18446744073709551616):Fn (aO Q g0) 131 [v,w] [] J (iK J (x -y)):=by
 obtain⟨br,bI,bn,rfl,aR,eb,gK⟩:=U.un;obtain⟨bN,cY,bQ,rfl,aN,e',gT⟩:=aF.un;obtain rfl:bI=1:=by omega
 obtain rfl:cY=1:=by omega
 obtain⟨bx,nH,vi,aC,rfl,l3,lF⟩:=gK rfl;obtain⟨bX,pr,zH,aZ,rfl,xF,sW⟩:=gT rfl;refine Fn.ck (ch Tryz.func131) rfl rfl fun H=>?_;refine rg ?_;refine I V.aI ?_;refine bb ?_;refine aH ?_;refine' W.step rfl (.of (wQ rfl rfl rfl rfl rfl (kZ Q g0) ?aX ?aa ?ab fun FF=>?_));case aX=>exact bS
 case aa=>exact bS
 case ab=>exact bS
 refine I V.aI ?_;refine bR ?_;rw[show((1:Nat):Int).toNat=1 from rfl,zero_num];refine rg ?_;refine I V.aI ?_;refine bb ?_;refine aH ?_;refine aD ?_;refine ad.block ?_;refine' ad.eH (l':=[(15,.int .i64 ((0):Int)),(6,.int .u64 0),(1,_),(5,_),(13,_),(14,_)]) ⟨?aeQ,?mi,rfl,rfl,rfl,rfl,trivial⟩ (cd _) ?_;case aeQ=>first|exact cq|exact aj some (aj (Value.int .u64) (by omega))|exact aj some (aj (Value.int .i64) (by omega))
 case mi=>first|exact cq|exact aj some (aj (Value.int .u64) (by omega))|exact aj some (aj (Value.int .i64) (by omega))
 refine aG ?_;refine' ad.b0 (fun(i:Nat)=>⟨[(15,.int .i64 (i:Int)),(6,.int .u64 0)],[lR .u64 102 FF (Qp (x -y) (1 -i))],J,i<=1,1 -i⟩) (0) ?af ?bT;case af=>exact fB _
 case bT=>
  rintro i hinv;try simp only at hinv
  have ar:=hinv;refine rg ?_;refine I V.a' ?_;refine aD ?_;refine If (fun nm=>?_) fun nm=>?_
  ·obtain rfl:i=0:=by omega
   refine e4 ?_;refine aG ?_;refine ad.block ?_;refine rg ?_;refine I V.aJ ?_;refine I V.bj ?_;refine I V.c2 ?_;refine aH ?_;refine bb ?_;refine I V.aI ?_;refine bb ?_;refine aH ?_;refine I V.a' ?_;refine aD ?_;refine If (fun mB=>?_) fun mB=>?_
   ·refine rg ?_;refine aH ?_;refine I V.bj ?_;refine I V.c2 ?_;refine I V.aI ?_;refine bb ?_;refine aH ?_;refine b4 (G:=adJ h ah) (h:=?_);rintro v' m' ae hle ⟨rfl,rfl,rfl⟩;refine aH ?_;refine I V.bj ?_;refine' W.step rfl (.of (k4 rfl rfl rfl rfl (jX rfl) rfl rfl rfl ?aa ?af ?ao ?_));case ao=>repeat first|exact .head _ _ _ _|apply dp.tail|apply dp.app
    case af=>exact pq (l:=[0]) (x:=x -y) 0 (by decide) (by omega)
    case aa=>first|rfl|assumption
    refine I V.aI ?_;refine bb ?_;refine I V.bW ?_;refine I V.aJ ?_;refine bR ?_;refine gF (1) ?_;exact(c5 _)
   ·exfalso;omega
  ·obtain rfl:i=1:=by omega
   refine aG ?_;refine ad.exit ?_;refine rg ?_;refine I V.aJ ?_;refine' W.step rfl (Exec.call rfl rfl rfl rfl rfl rfl rfl (bU:=[lR .u64 102 FF [x -y]]) (eD:=[]) (.refl _) trivial (BQ (l:=[x -y]) (by simp) (by decide) (by decide)) ?_);rintro v' m' ae hle ⟨k,rfl,hk,a0,nx,rfl,rfl⟩;refine I V.aI ?_;refine bR ?_;refine ad.iW rfl fun a8=>?_;refine aG ?_;refine ad.ret ?_;refine'⟨.inr rfl,rfl,_,[],.tmp rfl .nil,bZ _,⟨a8,rfl,cA.row (wJ (n:=0) hk a0 nx) hk hk (by decide) (an.hH _ _ _)⟩⟩
end
end
end Go.Opn

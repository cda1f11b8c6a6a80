/- A part of the proof of TableMetric. -/
import Derived.Test.YtmmfodofkbmfnaaGreatDoorCar
import Derived.Test.YtmmfodofkbmfnaaGreatDoorCay
import Derived.Test.YtmmfodofkbmfnaaGreatDoorCaz
set_option maxRecDepth 100000
set_option linter.unusedVariables false
set_option linter.unusedSimpArgs false
namespace Go.Opn
noncomputable section
open Go.Cre Go.RowKit Go.Proofs
def cj(k:IntKind)(l:List Nat):List Value:=l.map fun x:Nat=>Value.int k (x:Int)
theorem q5{k:IntKind}{l:List Nat}:(cj k l).length=l.length:=jw _
theorem Gp{k:IntKind}{l:List Nat}{i x:Nat}(h:l[i]?=some x):(cj k l)[i]?=some (.int k (x:Int)):=by unfold cj;rw[mg,h];rfl
theorem ux{k:IntKind}{l:List Nat}{i off x:Nat}(h:l[i]?=some x)(ae:off=i:=by omega):nth (cj k l) off=some (.int k (x:Int)):=by subst ae;rw[jr];exact Gp h
theorem zC{k:IntKind}{a b:List Nat}:cj k (a++b)=cj k a++cj k b:=List.map_append
theorem pP{k:IntKind}{l:List Nat}{off:Nat}{x:Nat}(i:Nat)(h:i<l.length)(ae:off=i:=by omega):fD off (cj k l) [.int k (x:Int)]=some (cj k (l.set i x)):=by
 subst ae;exact Yy (f:=fun x:Nat=>Value.int k (x:Int)) h
theorem zD{k:IntKind}(l:List Nat):(cj k l).all dY=true:=by
 induction l with
 |nil=>rfl
 |cons a l aN=>show(dY (Value.int k (a:Int))&&_)=true;unfold cj at aN;rw[aN];rfl
theorem zero_num{k:IntKind}{n:Nat}:fb [.int k 0] n=cj k (List.replicate n 0):=by rw[aaw];unfold cj;rw[List.map_replicate];rfl
def dx(k:IntKind)(J:an)(v:Value)(l:List Nat):Prop:=∃e,ew J e 1 v l.length (cj k l)
theorem dx.mono{k:IntKind}{J ai:an}(hle:J.le ai){v:Value}{l:List Nat}(h:dx k J v l):dx k ai v l:=by obtain⟨e,h⟩:=h;exact⟨e,h.mono hle⟩
theorem dx.addr{k:IntKind}{J:an}{b:Option Addr}{n c:Nat}{l:List Nat}(h:dx k J (.slice b n c) l):addrEq b b=true:=by obtain⟨e,h⟩:=h;exact h.addr
theorem dx.form{k:IntKind}{J:an}{v:Value}{l:List Nat}(h:dx k J v l):∃b c,v=.slice b l.length c:=by
 obtain⟨e,h⟩:=h;obtain⟨b,c,U,_⟩:=ew.inv h;exact⟨b,c,U⟩
theorem dx.dv{k:IntKind}{J:an}{b:Option Addr}{n c:Nat}{l:List Nat}(h:dx k J (.slice b n c) l)(ao:0<l.length):∃a off cells e,b=some ⟨a,off,none⟩/\J a=some (cells,e)/\∀i x:Nat,l[i]?=some x->nth cells (off+i*1)=some (.int k (x:Int)):=by
 obtain⟨e,h⟩:=h;obtain⟨b',bo,U,_,_,aV⟩:=ew.inv h;injection U with br gq hW
 subst br;obtain⟨a,off,cells,e,a8,a5,bI⟩:=aV ao;refine⟨a,off,cells,e,a8,a5,fun i x j=>?_⟩;have aq:=(h4.1 j).1;rw[iE,bI i (by omega)];exact Gp j
theorem dx.rd{k:IntKind}{g0:Nat}{B:c6}{J:an}{m:aU}{v:Value}{l:List Nat}(h:dx k J v l):jg g0 B J m 1 v l.length (cj k l):=by obtain⟨e,h⟩:=h;exact h.rd
theorem dx.nil{k:IntKind}{J:an}:dx k J (.slice none 0 0) []:=⟨3,.nil⟩
theorem dx.row{k:IntKind}{J:an}{a n cap:Nat}{l:List Nat}{e:TypeId}(aE:n<=l.length)(aF:n<=cap)(g2:cap<cf)(h:J a=some (cj k l,e)):dx k J (.slice (some ⟨a,0,none⟩) n cap) (l.take n):=by
 have aw:(l.take n).length=n:=by rw[hQ];omega
 refine⟨e,?_⟩;rw[aw];refine .row h ?_ ?_ (fun _=>⟨aF,g2⟩) (fun q=>absurd q (by omega))
 ·rw[kd,iE];unfold cj;rw[xy]
 ·rw[q5,aw,iE]
def iz(n:Nat):List Nat:=if n=0 then[] else[n]
theorem Hi{n:Nat}:(iz n).length=if n=0 then 0 else 1:=by unfold iz;split<;>rfl
end
end Go.Opn
set_option maxHeartbeats 4000000
namespace Go.Opn
noncomputable section
open Go.Cre Go.RowKit Go.Proofs
section
variable {Q:eF Tryz.prog}{g0:Nat}{B:c6}{o:Oper}{n:Nat}{ds:dL}{l:List (Nat×Value)}{m:aU}{J:an}
theorem M0{a:Nat}{cells:List Value}(h:lG m J a cells:=by first|exact .dv (by assumption)|exact .own (by repeat first|exact .head _|refine .tail _ ?_|refine eU _ ?_)|exact .opn (by repeat first|exact .head _|refine .tail _ ?_|refine eU _ ?_)):lG m J a cells:=h
theorem V.ec{t:TypeId}{x:Operand}{a off:Nat}{cells:List Value}{v:Value}(ae:o.op=.load t x:=by exact rfl) (j:bB l x=some (.pointer (some ⟨a,off,none⟩)):=by exact rfl) (ap:lG m J a cells:=by exact M0) (aD:jj (aS Q g0).P t cells off=some v:=by exact zN (fs rfl) (by first|rfl|assumption)):ch (aS Q g0) B o n ds l m J (v):=CP ae j ap aD
theorem V.kQ{t:TypeId}{x:Operand}{a off:Nat}{cells:List Value}{v:Value}(ae:o.op=.load t x:=by exact rfl) (j:bB l x=some (.pointer (some ⟨a,off,none⟩)):=by exact rfl) (ap:lG m J a cells:=by exact M0) (aD:jj (aS Q g0).P t cells off=some v:=by exact gh (fs rfl) (by first|rfl|assumption)):ch (aS Q g0) B o n ds l m J (v):=CP ae j ap aD
end
theorem eO.at{α:Type}{J:an}{e:TypeId}{sz n c:Nat}{b:Option Addr}{R:α->List Value->Prop}{xs:List α}(h:eO J e sz R (.slice b n c) xs):n=xs.length/\(0<xs.length->∃a off cells bl,b=some ⟨a,off,none⟩/\J a=some (cells,bl)/\
 ∀i:Int,0<=i->i<xs.length->∃x cs,xs[i.toNat]?=some x/\takeN sz (lJ (off+i.toNat*sz) cells)=some cs/\(∀k v,k<sz->nth cs k=some v->nth cells (off+i.toNat*sz+k)=some v)/\R x cs):=by
 obtain⟨U,ab⟩:=h.get;refine⟨U,fun ao=>?_⟩;obtain⟨a,off,cells,bl,a8,a5,bI⟩:=ab ao;refine⟨a,off,cells,bl,a8,a5,fun i i0 i1=>?_⟩;have j:=fx (l:=xs) (i:=i.toNat) (by omega);obtain⟨cs,bE,b8⟩:=bI _ _ j;rw[jW] at bE;refine⟨_,cs,j,bE,fun k v hk aD=>?_,b8⟩;obtain⟨q,_,_⟩:=w6 bE;rw[jr] at aD ⊢;rw[q,rW,kX,bs hk,vb] at aD;exact aD
section
variable {Q:eF Tryz.prog}{g0:Nat}{J:an}
end
section
variable {K:di}{B:c6}{o:Oper}{n:Nat}{ds:dL}{l:List (Nat×Value)}{m:aU}{J:an}
theorem CO{t dq:TypeId}{x y:Operand}{k:IntKind}{a b:Int}(ae:o.op=.binOp .and t x y dq)(j:bB l x=some (.int k a))(aC:bB l y=some (.int k b)):ch K B o n ds l m J (.int k (k.wrap (BitVec.ofInt k.bits a &&& BitVec.ofInt k.bits b).toNat)):=by
 intro call az S H al au;unfold cc eh;simp only[ae];show ja K.P _ .and t (aR S.T H x) (aR S.T H y)=_;rw[cX al H j,cX al H aC];show(bif kr k k then h1 H k a b _ .and else _)=_;rw[wD,bH];have key:ek K.P S.T H o=some (.val (.int k (k.wrap (BitVec.ofInt k.bits a &&& BitVec.ofInt k.bits b).toNat)) H):=by
  refine lk al (by rw[ae];rfl) j aC rfl rfl ?_ rfl;unfold execOp;simp only[ae];rw[gx al H j,gx al H aC];have ar:en K.P (eqGuard .and t x y (.int k a) (.int k b))=some ():=rfl;have j5:binOp .and t (.int k a) (.int k b)=pure (.int k (k.wrap (BitVec.ofInt k.bits a &&& BitVec.ofInt k.bits b).toNat)):=by simp[binOp,Op.intBits]
  rw[eW (a:=.int k (k.wrap (BitVec.ofInt k.bits a &&& BitVec.ofInt k.bits b).toNat))]
  ·rfl
  rw[eW ar,j5];rfl
 exact(show h1 H k a b _ .and=_ from key)
end
def cn(J:an)(v:Value)(x:Nat):Prop:=dx .u64 J v (iz x)
theorem cn.mono{J ai:an}(hle:J.le ai){v:Value}{x:Nat}(h:cn J v x):cn ai v x:=dx.mono hle h
theorem cn.un{J:an}{v:Value}{x:Nat}(h:cn J v x):∃b n c,v=.slice b n c/\addrEq b b=true/\(x=0/\n=0\/x≠0/\n=1)/\(n=1->∃a off cells e,b=some ⟨a,off,none⟩/\J a=some (cells,e)/\nth cells (off+0)=some (.int .u64 (x:Int))):=by
 have h:dx .u64 J v (iz x):=h;obtain⟨b,c,rfl⟩:=h.form;have hw:=Hi (n:=x);refine⟨b,_,c,rfl,h.addr,?_,fun aE=>?_⟩
 ·by_cases q:x=0
  ·rw[bs q] at hw;exact .inl ⟨q,hw⟩
  ·rw[a1 q] at hw;exact .inr ⟨q,hw⟩
 ·obtain⟨a,off,cells,e,U,ab,aV⟩:=h.dv (by omega)
  have q:x≠0:=fun q=>by rw[bs q] at hw;omega
  exact⟨a,off,cells,e,U,ab,aV 0 x (by unfold iz;rw[a1 q];rfl)⟩
theorem cn.zero{J:an}{b:Option Addr}{c:Nat}(h:∃e,ew J e 1 (.slice b 0 c) 0 []):cn J (.slice b 0 c) 0:=by
 obtain⟨e,h⟩:=h;exact⟨e,h⟩
theorem cn.nil{J:an}:cn J (.slice none 0 0) 0:=.zero ⟨3,.nil⟩
theorem cn.row{J:an}{a n cap x:Nat}{l:List Nat}{e:TypeId}(aE:l.take n=iz x)(aw:n<=l.length)(aF:n<=cap)(g2:cap<cf)(h:J a=some (cj .u64 l,e)):cn J (.slice (some ⟨a,0,none⟩) n cap) x:=by
 have:=dx.row aw aF g2 h;rw[aE] at this;exact this
theorem Fn.MD{K:di}{J:an}{f:FuncId}{fn:Func}{args:List Value}{v:Value}(ay:K.eo.get f=some fn)(af:fn.body=none)(ao:args.all plain=true)(he:en K.P (callFunc f args.toArray)=some (.value v))(aD:plain v=true):Fn K f args [] J (fun u m' ai=>u=v/\m'=[]/\J=ai):=by
 intro H au;refine⟨v,H,J,[],iA.cH K.dN hB jM (a7:=.run) ?_,au,rfl,rfl,rfl⟩;unfold nh;rw[ay];show xM K.P _ f fn args false .run H fn.body=_;rw[af];show na .run (tz K.P fn f args H)=_;unfold tz;rw[ao,he];simp only[bH,Ea,aD];rfl
theorem Pd(x y:Nat):en gY (callFunc 91 #[.int .u64 (x:Int),.int .u64 (y:Int),.int .u64 0])=some (.value (.tuple #[.int .u64 (((x+y+0) % 2 ^ 64:Nat):Int),.int .u64 (((x+y+0) / 2 ^ 64:Nat):Int)])):=by kernel_rfl
theorem Y0(x y:Nat):en gY (callFunc 124 #[.int .u64 (x:Int),.int .u64 (y:Int),.int .u64 0])=some (.value (.tuple #[.int .u64 (((x+2 ^ 64 -y -0) % 2 ^ 64:Nat):Int),.int .u64 ((if x<y+0 then 1 else 0:Nat):Int)])):=by kernel_rfl
section
variable {Q:eF Tryz.prog}{g0:Nat}{J:an}
theorem Dn{x y:Nat}(h:x+y<18446744073709551616):Fn (aS Q g0) 91 [.int .u64 (x:Int),.int .u64 (y:Int),.int .u64 0] [] J (fun u m' ai=>u=.tuple #[.int .u64 ((x+y:Nat):Int),.int .u64 0]/\m'=[]/\J=ai):=by
 have e:en gY (callFunc 91 #[.int .u64 (x:Int),.int .u64 (y:Int),.int .u64 0])=some (.value (.tuple #[.int .u64 ((x+y:Nat):Int),.int .u64 0])):=by
  rw[Pd,n0,qc (show x+y<2 ^ 64 from h),o3 (show x+y<2 ^ 64 from h)];rfl
 exact Fn.MD (cK Tryz.func91) rfl rfl e rfl
theorem YZ{x y:Nat}(h:y<=x)(j:x<18446744073709551616):Fn (aS Q g0) 124 [.int .u64 (x:Int),.int .u64 (y:Int),.int .u64 0] [] J (fun u m' ai=>u=.tuple #[.int .u64 ((x -y:Nat):Int),.int .u64 0]/\m'=[]/\J=ai):=by
 have e:en gY (callFunc 124 #[.int .u64 (x:Int),.int .u64 (y:Int),.int .u64 0])=some (.value (.tuple #[.int .u64 ((x -y:Nat):Int),.int .u64 0])):=by
  rw[Y0,n0,a1 (by omega),show(x+2 ^ 64 -y -0) % 2 ^ 64=x -y by omega];rfl
 exact Fn.MD (cK Tryz.func124) rfl rfl e rfl
end
theorem Dt{x:Nat}(h:x<4294967296):IntKind.u64.wrap (BitVec.ofInt IntKind.u64.bits (x:Int) &&& BitVec.ofInt IntKind.u64.bits 4294967295).toNat=(x:Int):=by
 have e:(BitVec.ofInt 64 (x:Int) &&& BitVec.ofInt 64 4294967295).toNat=x:=by
  rw[BitVec.toNat_and];have U:(BitVec.ofInt 64 (x:Int)).toNat=x:=by
   rw[BitVec.toNat_ofInt];omega
  have ab:(BitVec.ofInt 64 4294967295).toNat=2 ^ 32 -1:=by decide
  rw[U,ab,Nat.and_two_pow_sub_one_eq_mod];omega
 show IntKind.u64.wrap ((BitVec.ofInt 64 (x:Int) &&& BitVec.ofInt 64 4294967295).toNat:Int)=_;rw[e];exact wrap_u64 (by omega) (by omega)
theorem Na{x:Nat}:(x:Int).fdiv (2 ^ ((32:Int).toNat))=((x / 4294967296:Nat):Int):=Nb (q:=32)
theorem CH{x:Nat}(h:x<4294967296):(x:Int).fdiv (2 ^ ((32:Int).toNat))=0:=by
 rw[Na,o3 h];rfl
def jD(x y:Nat):Int:=if x<y then -1 else if y<x then 1 else 0
section
variable {Q:eF Tryz.prog}{g0:Nat}{J:an}
theorem V1{x y:Nat}(j:x<4294967296)(aC:y<4294967296):Fn (aS Q g0) 90 [.int .u64 (x:Int),.int .u64 (y:Int)] [] J (fun u m' ai=>u=.tuple #[.int .u64 0,.int .u64 ((x*y:Nat):Int)]/\m'=[]/\J=ai):=by
 obtain⟨P,dN⟩:∃P:Nat,P=x*y:=⟨_,rfl⟩;have J7:(x:Int)*(y:Int)=(P:Int):=by rw[dN];exact(gw x y).symm
 have abC:P<18446744073709551616:=by
  rw[dN];exact jZ (Nat.mul_lt_mul'' j aC) (by decide)
 have bY:P / 4294967296<4294967296:=by omega
 refine Fn.cH (cK Tryz.func90) rfl rfl fun H=>?_;refine rg ?_;refine aH ?_;refine bg ?_;refine I V.aT ?_;refine' W.step rfl (Exec.val rfl rfl (CO rfl rfl rfl) ?_);refine I V.aI ?_;refine bU ?_;rw[Dt j];refine rg ?_;refine I V.aT ?_;refine' W.step rfl (Exec.val rfl rfl (xa rfl rfl rfl rfl ?a2 ?U) ?_);case a2=>exact cQ
 case U=>first|decide|exact cQ|exact(show _<=((64:Nat):Int) from(by omega))
 refine I V.aI ?_;refine bU ?_;rw[CH j];refine rg ?_;refine I V.aT ?_;refine' W.step rfl (Exec.val rfl rfl (CO rfl rfl rfl) ?_);refine I V.aI ?_;refine bU ?_;rw[Dt aC];refine rg ?_;refine I V.aT ?_;refine' W.step rfl (Exec.val rfl rfl (xa rfl rfl rfl rfl ?a2 ?U) ?_);case a2=>exact cQ
 case U=>first|decide|exact cQ|exact(show _<=((64:Nat):Int) from(by omega))
 refine I V.aI ?_;refine bU ?_;rw[CH aC];refine rg ?_;refine aH ?_;refine I V.bX ?_;refine I V.aI ?_;refine bU ?_;rw[J7];refine rg ?_;refine aH ?_;refine I V.bX ?_;refine I V.aT ?_;refine' W.step rfl (Exec.val rfl rfl (xa rfl rfl rfl rfl ?a2 ?U) ?_);case a2=>exact cQ
 case U=>first|decide|exact cQ|exact(show _<=((64:Nat):Int) from(by omega))
 rw[Na];refine I V.bX ?_;refine I V.aI ?_;refine bU ?_;rw[u',C7];refine rg ?_;refine I V.aT ?_;refine' W.step rfl (Exec.val rfl rfl (CO rfl rfl rfl) ?_);refine I V.aI ?_;refine bU ?_;rw[Dt bY];refine rg ?_;refine I V.aT ?_;refine' W.step rfl (Exec.val rfl rfl (xa rfl rfl rfl rfl ?a2 ?U) ?_);case a2=>exact cQ
 case U=>first|decide|exact cQ|exact(show _<=((64:Nat):Int) from(by omega))
 refine I V.aI ?_;refine bU ?_;rw[CH bY];refine rg ?_;refine aH ?_;refine I V.bX ?_;refine I V.bX ?_;refine I V.aI ?_;refine bU ?_;rw[Int.mul_zero,Int.add_zero];refine rg ?_;refine aH ?_;refine I V.bX ?_;refine I V.aT ?_;refine I V.bX ?_;refine I V.aT ?_;refine' W.step rfl (Exec.val rfl rfl (xa rfl rfl rfl rfl ?a2 ?U) ?_);case a2=>exact cQ
 case U=>first|decide|exact cQ|exact(show _<=((64:Nat):Int) from(by omega))
 rw[CH bY];refine I V.bX ?_;refine I V.aI ?_;refine bg ?_;refine aH ?_;refine I V.bX ?_;refine I V.aI ?_;refine aJ ?_;refine ad.ret ?_;refine m2 ?_;exact⟨by rw[u',C7,C7,J7,dN];rfl,rfl,rfl⟩
theorem I'{x d:Nat}(j:x<18446744073709551616)(ax:0<d):Fn (aS Q g0) 94 [.int .u64 0,.int .u64 (x:Int),.int .u64 (d:Int)] [] J (fun u m' ai=>u=.tuple #[.int .u64 ((x / d:Nat):Int),.int .u64 ((x % d:Nat):Int)]/\m'=[]/\J=ai):=by
 have aA:IntKind.u64.wrap ((x:Int).tdiv (d:Int))=((x / d:Nat):Int):=by
  have h7:(x:Int).tdiv (d:Int)=((x / d:Nat):Int):=rfl;rw[h7];exact wrap_u64 (HK _) (Int.ofNat_lt.2 (hn (ve x d) j))
 have aW:(x:Int).tmod (d:Int)=((x % d:Nat):Int):=rfl;refine Fn.cH (cK Tryz.func94) rfl rfl fun H=>?_;refine rg ?_;refine aH ?_;refine bg ?_;refine I V.aT ?_;refine I V.bk ?_;refine aJ ?_;refine If (fun kk=>?_) fun kk=>?_
 ·exfalso;omega
 ·refine aM ?_;refine ad.skip ?_;refine rg ?_;refine aH ?_;refine I V.bk ?_;refine aJ ?_;refine If (fun xS=>?_) fun xS=>?_
  ·exfalso;omega
  ·refine aM ?_;refine ad.skip ?_;refine rg ?_;refine I V.aT ?_;refine I V.bk ?_;refine aJ ?_;refine If (fun kJ=>?_) fun kJ=>?_
   ·refine aM ?_;refine ad.draw rfl (by kernel_rfl) (a6:=[.val 0,.val 1,.val 2,.val 3,.val 4,.val 5,.val 6,.val 7]) (by kernel_rfl) ?_;refine fX ?_;refine bd rfl V.hU ?_;refine fX ?_;refine bd rfl V.hU ?_;refine fX ?_;refine bR.nil ?_;refine aM ?_;refine ad.ret ?_;refine m2 ?_;exact⟨by rw[aA,aW];rfl,rfl,rfl⟩
   ·exfalso;exact kJ rfl
theorem wC{v:Value}{x:Nat}(h:cn J v x):Fn (aS Q g0) 89 [v] [] J (fun u m' ai=>u=.bool (decide (x=1))/\m'=[]/\J=ai):=by
 obtain⟨b,n,c,rfl,nK,aE,ap⟩:=h.un;refine Fn.cH (cK Tryz.func89) rfl rfl fun H=>?_;refine rg ?_;refine I V.aI ?_;refine bg ?_;refine aH ?_;refine I V.bk ?_;refine I V.aT ?_;refine gP 6 (fun jE=>?_) fun jE=>?_
 ·obtain⟨a,off,cells,e,rfl,gT,aD⟩:=ap (by omega);refine bF V.aT ?_;refine bF V.bw ?_;refine bF V.ec ?_;refine bF V.bk ?_;refine I V.bx ?_;refine I V.aI ?_;refine aJ ?_;refine ad.ret ?_;refine m2 ?_;first
   |(have c:=jE
     exact⟨ak Value.bool (by by_cases q:x=1<;>simp[q]<;>omega),rfl,rfl⟩)
 ·refine cz ?_;refine cz ?_;refine cz ?_;refine cz ?_;refine I V.bx ?_;refine I V.aI ?_;refine aJ ?_;refine ad.ret ?_;refine m2 ?_;first
   |(have c:=jE
     exact⟨ak Value.bool (by by_cases q:x=1<;>simp[q]<;>omega),rfl,rfl⟩)
theorem x0{v w:Value}{x y:Nat}(j:cn J v x)(aC:cn J w y):Fn (aS Q g0) 64 [v,w] [] J (fun u m' ai=>u=.int .i64 (jD x y)/\m'=[]/\J=ai):=by
 obtain⟨bV,cV,bE,rfl,aQ,eu,gI⟩:=j.un;obtain⟨b7,dn,b8,rfl,aP,eX,gW⟩:=aC.un;refine Fn.cH (cK Tryz.func64) rfl rfl fun H=>?_;refine rg ?_;refine I V.aI ?_;refine bg ?_;refine aH ?_;refine I V.bk ?_;refine aJ ?_;refine If (fun dP=>?_) fun dP=>?_
 ·refine rg ?_;refine aH ?_;refine I V.bk ?_;refine aJ ?_;refine If (fun fW=>?_) fun fW=>?_
  ·refine rg ?_;refine I V.aI ?_;refine aJ ?_;refine ad.ret ?_;refine m2 ?_;unfold jD;first
    |(have c:=fW
      first
          |exact⟨by rw[bs (by omega)];rfl,rfl,rfl⟩
          |exact⟨by rw[a1 (by omega),bs (by omega)];rfl,rfl,rfl⟩)
    |exact⟨by rw[a1 (by omega),a1 (by omega)];rfl,rfl,rfl⟩
  ·refine aM ?_;refine ad.skip ?_;refine rg ?_;refine I V.aI ?_;refine aJ ?_;refine ad.ret ?_;refine m2 ?_;unfold jD;first
    |(have c:=fW
      first
          |exact⟨by rw[bs (by omega)];rfl,rfl,rfl⟩
          |exact⟨by rw[a1 (by omega),bs (by omega)];rfl,rfl,rfl⟩)
    |exact⟨by rw[a1 (by omega),a1 (by omega)];rfl,rfl,rfl⟩
 ·refine aM ?_;refine ad.skip ?_;refine rg ?_;refine aH ?_;refine I V.bX ?_;refine I V.aI ?_;refine aJ ?_;refine ad.block ?_;refine' ad.eZ (l':=[(5,.int .i64 (((cV):Int) -1)),(0,_),(1,_)]) ⟨?fu,rfl,rfl,trivial⟩ (cl _) ?_;case fu=>first|exact cu|exact ak some (ak (Value.int .u64) (by omega))|exact ak some (ak (Value.int .i64) (by omega))
  refine aM ?_;refine' ad.l2 (α:=(Nat)) (fun(k:Nat)=>[(5,.int .i64 ((k:Int) -1))]) (fun(k:Nat)=>k<=cV/\(k<cV->x=y)) (fun(k:Nat)=>k) (cV) ?ag ?b2;case ag=>exact⟨c9 _,fun h=>absurd h (tg _)⟩
  case b2=>
   rintro k hinv;try simp only at hinv
   obtain⟨hk,dy⟩:=hinv;refine rg ?_;refine I V.aT ?_;refine I V.bk ?_;refine aJ ?_;refine If (fun kk=>?_) fun kk=>?_
   ·obtain⟨bP,l4,tq,aA,rfl,nl,kp⟩:=gI (by omega);obtain⟨bS,nH,xY,aW,rfl,vN,qS⟩:=gW (by omega);have mE:((k:Int) -1).toNat=0:=by omega
    have kp:nth tq (l4+((k:Int) -1).toNat*1)=some (.int .u64 (x:Int)):=by rw[mE];exact kp
    have qS:nth xY (nH+((k:Int) -1).toNat*1)=some (.int .u64 (y:Int)):=by rw[mE];exact qS
    refine fJ ?_;refine aM ?_;refine ad.block ?_;refine aM ?_;refine ad.draw rfl (by kernel_rfl) (a6:=[.val 0,.val 1,.val 2,.val 3,.val 4,.val 5,.val 6,.val 7,.val 8]) (by kernel_rfl) ?_;refine fX ?_;refine bd rfl V.bw ?_;refine bd rfl V.ec ?_;refine fX ?_;refine bd rfl V.bw ?_;refine bd rfl V.ec ?_;refine bd rfl V.bk ?_;refine bR.nil ?_;refine aM ?_;refine If (fun nb=>?_) fun nb=>?_
    ·refine rg ?_;refine I V.aI ?_;refine aJ ?_;refine ad.ret ?_;refine m2 ?_;unfold jD;first
       |(have c:=nb;exact⟨by rw[bs (by omega)];rfl,rfl,rfl⟩)
       |exact⟨by rw[a1 (by omega),a1 (by omega)];rfl,rfl,rfl⟩
    ·refine aM ?_;refine ad.skip ?_;refine aM ?_;refine ad.draw rfl (by kernel_rfl) (a6:=[.val 0,.val 1,.val 2,.val 3,.val 4,.val 5,.val 6,.val 7,.val 8]) (by kernel_rfl) ?_;refine fX ?_;refine bd rfl V.bw ?_;refine bd rfl V.ec ?_;refine fX ?_;refine bd rfl V.bw ?_;refine bd rfl V.ec ?_;refine bd rfl V.bk ?_;refine bR.nil ?_;refine aM ?_;refine If (fun xT=>?_) fun xT=>?_
     ·refine rg ?_;refine I V.aI ?_;refine aJ ?_;refine ad.ret ?_;refine m2 ?_;unfold jD;first
       |(have c:=nb;exact⟨by rw[bs (by omega)];rfl,rfl,rfl⟩)
       |(have c:=xT;exact⟨by rw[a1 (by omega),bs (by omega)];rfl,rfl,rfl⟩)
       |exact⟨by rw[a1 (by omega),a1 (by omega)];rfl,rfl,rfl⟩
     ·refine aM ?_;refine ad.skip ?_;refine rg ?_;refine I V.aT ?_;refine I V.bX ?_;refine I V.aI ?_;refine bU ?_;refine'⟨(k -1),_,?hinv,?g5,rfl,⟨?mO,rfl,rfl,trivial⟩,cl _,rfl⟩;case mO=>first|exact cu|exact ak some (ak (Value.int .u64) (by omega))|exact ak some (ak (Value.int .i64) (by omega))
      case g5=>exact cQ
      case hinv=>exact⟨by omega,fun _=>by omega⟩
   ·refine aM ?_;refine ad.exit ?_;refine rg ?_;refine I V.aI ?_;refine aJ ?_;refine ad.ret ?_;refine m2 ?_;unfold jD;first
     |exact⟨by rw[a1 (by omega),a1 (by omega)];rfl,rfl,rfl⟩
end
theorem rT{x y:Nat}:jD x y<0↔x<y:=by unfold jD;split<;>(try split)<;>omega
theorem I4{x y:Nat}:jD x y=0↔x=y:=by unfold jD;split<;>(try split)<;>omega
theorem uS{x n k:Nat}(U:k<=n+1)(ab:∀aa y,k<=aa->(x::List.replicate n 0)[aa]?=some y->y=0)(aV:∀y,0<k->(x::List.replicate n 0)[k -1]?=some y->y≠0):(x::List.replicate n 0).take k=iz x:=by
 unfold iz
 match k,U,ab,aV with
 |0,_,ab,_=>
  rw[bs (ab 0 x (c9 _) rfl)];rfl
 |1,_,_,aV=>
  rw[a1 (aV x (by omega) rfl)];rfl
 |k+2,U,_,aV=>
  refine absurd rfl (aV 0 (by omega) ?_);show(List.replicate n 0)[k]?=some 0;rw[List.getElem?_replicate,bs (by omega)]
def C0(p:Nat):Nat->List Nat
 |0=>[0,0]
 |_+1=>[p,0]
def MI(q:Nat):Nat->List Nat
 |0=>[q]
 |_+1=>[0]
def Cz(r:Nat):Nat->Nat
 |0=>r
 |_+1=>0
abbrev kz(k:IntKind)(t a:Nat)(l:List Nat):Nat×db:=(a,.row (cj k l) t)
abbrev hS(J:an)(x:Nat):Value->aU->an->Prop:=fun u m' ai=>J.le ai/\m'=[]/\cn ai u x
section
variable {Q:eF Tryz.prog}{g0:Nat}{J:an}
theorem zW{a cap:Nat}{l:List Nat}(aF:l.length<=cap)(j6:0<cap)(g2:cap<1000000):
 Fn (aS Q g0) 92 [.slice (some ⟨a,0,none⟩) l.length cap] [kz .u64 92 a l] J (fun u m' ai=>∃k,u=.slice (some ⟨a,0,none⟩) k cap/\k<=l.length/\(∀aa y,k<=aa->l[aa]?=some y->y=0)/\(∀y,0<k->l[k -1]?=some y->y≠0)/\m'=[kz .u64 92 a l]/\J=ai):=by
 have ab0:cap<cf:=Nat.lt_trans g2 (by decide);refine Fn.cH (cK Tryz.func92) rfl rfl fun H=>?_;refine rg ?_;refine I V.aI ?_;refine bg ?_;refine aH ?_;refine aJ ?_;refine ad.block ?_;refine' ad.eZ (l':=[(3,.int .i64 ((l.length):Int)),(0,_)]) ⟨?dX,rfl,trivial⟩ (cl _) ?_;case dX=>first|exact cu|exact ak some (ak (Value.int .u64) (by omega))|exact ak some (ak (Value.int .i64) (by omega))
 refine aM ?_;refine' ad.l2 (α:=(Nat)) (fun(k:Nat)=>[(3,.int .i64 (k:Int))]) (fun(k:Nat)=>k<=l.length/\∀aa y,k<=aa->l[aa]?=some y->y=0) (fun(k:Nat)=>k) (l.length) ?ag ?b2;case ag=>exact⟨c9 _,fun aa y U ab=>by have:=(h4.1 ab).1;omega⟩
 case b2=>
  rintro k hinv;try simp only at hinv
  obtain⟨hk,a0⟩:=hinv;refine rg ?_;refine I V.aT ?_;refine I V.bk ?_;refine I V.aT ?_;refine gP 8 (fun En=>?_) fun En=>?_
  ·obtain⟨x,j⟩:∃x,l[k -1]?=some x:=⟨_,fx (by omega)⟩;have aE:nth (cj .u64 l) (0+((k:Int) -1).toNat*1)=some (.int .u64 (x:Int)):=ux j (by omega);refine bF V.aT ?_;refine bF V.aT ?_;refine bF V.bX ?_;refine bF V.bw ?_;refine bF V.cP ?_;refine bF V.bk ?_;refine I V.bx ?_;refine aJ ?_;refine If (fun fW=>?_) fun fW=>?_
   ·refine aM ?_;refine ad.skip ?_;refine aM ?_;refine ad.block ?_;refine rg ?_;refine I V.aT ?_;refine I V.bX ?_;refine I V.aI ?_;refine bU ?_;refine'⟨(k -1),_,?hinv,?g5,rfl,⟨?mN,rfl,trivial⟩,cl _,rfl⟩;case mN=>first|exact cu|exact ak some (ak (Value.int .u64) (by omega))|exact ak some (ak (Value.int .i64) (by omega))
    case g5=>exact cQ
    case hinv=>
     exact⟨by omega,fun aa y U ab=>by
         by_cases q:k<=aa
         ·exact a0 aa y q ab
         ·obtain rfl:aa=k -1:=by omega
          rw[j] at ab;injection ab with ab;omega⟩
   ·refine aM ?_;refine ad.exit ?_;refine rg ?_;refine aH ?_;refine' W.step rfl (Exec.val rfl rfl (NK rfl rfl (jQ Q g0) rfl ?a2 ?U ?ab ?aV) ?_);case a2=>exact cQ
    case U=>exact cQ
    case ab=>first|exact(by decide)|assumption
    case aV=>first|exact(by decide)|assumption
    refine I V.aI ?_;refine aJ ?_;refine ad.ret ?_;refine'⟨.inr rfl,rfl,_,_,.tmp rfl .nil,cl _,?_⟩;first
      |(have c:=fW;exact⟨k,by rw[jW];rfl,hk,a0,fun y U ab=>by rw[j] at ab;injection ab with ab;omega,rfl,rfl⟩)
      |exact⟨k,by rw[jW];rfl,hk,a0,fun y U ab=>by omega,rfl,rfl⟩
  ·refine cz ?_;refine cz ?_;refine cz ?_;refine cz ?_;refine cz ?_;refine cz ?_;refine I V.bx ?_;refine aJ ?_;refine ad.rU rfl ?_;refine aM ?_;refine ad.exit ?_;refine rg ?_;refine aH ?_;refine' W.step rfl (Exec.val rfl rfl (NK rfl rfl (jQ Q g0) rfl ?a2 ?U ?ab ?aV) ?_);case a2=>exact cQ
   case U=>exact cQ
   case ab=>first|exact(by decide)|assumption
   case aV=>first|exact(by decide)|assumption
   refine I V.aI ?_;refine aJ ?_;refine ad.ret ?_;refine'⟨.inr rfl,rfl,_,_,.tmp rfl .nil,cl _,?_⟩;first
    |exact⟨k,by rw[jW];rfl,hk,a0,fun y U ab=>by omega,rfl,rfl⟩
theorem Xw{v w:Value}{x y:Nat}(j:cn J v x)(aC:cn J w y)(gC:x≠0)(oV:y≠0)(h:x+y<18446744073709551616):Fn (aS Q g0) 97 [v,w] [] J (hS J (x+y)):=by
 obtain⟨bV,cV,bE,rfl,aQ,eu,gI⟩:=j.un;obtain⟨b7,dn,b8,rfl,aP,eX,gW⟩:=aC.un;obtain rfl:cV=1:=by omega
 obtain rfl:dn=1:=by omega
 obtain⟨bP,l4,tq,aA,rfl,nl,kp⟩:=gI rfl;obtain⟨bS,nH,xY,aW,rfl,vN,qS⟩:=gW rfl;refine Fn.cH (cK Tryz.func97) rfl rfl fun H=>?_;refine rg ?_;refine I V.aI ?_;refine bg ?_;refine aH ?_;refine I V.bk ?_;refine aJ ?_;refine If (fun iF=>?_) fun iF=>?_
 ·exfalso;omega
 ·refine aM ?_;refine ad.skip ?_;refine rg ?_;refine aH ?_;refine I V.bX ?_;refine' W.step rfl (.of (xh rfl rfl rfl rfl rfl (jQ Q g0) ?a2 ?U ?ab fun Dk=>?_));case a2=>exact cQ
  case U=>exact cQ
  case ab=>exact cQ
  refine I V.aI ?_;refine bU ?_;rw[show(((1:Nat):Int)+1).toNat=2 from rfl,zero_num];refine rg ?_;refine I V.aI ?_;refine bg ?_;refine aH ?_;refine aJ ?_;refine ad.block ?_;refine' ad.eZ (l':=[(23,.int .i64 ((0):Int)),(6,.int .u64 0),(0,_),(1,_),(5,_),(21,_),(22,_)]) ⟨?Z7,?lx,rfl,rfl,rfl,rfl,rfl,trivial⟩ (cl _) ?_;case Z7=>first|exact cu|exact ak some (ak (Value.int .u64) (by omega))|exact ak some (ak (Value.int .i64) (by omega))
  case lx=>first|exact cu|exact ak some (ak (Value.int .u64) (by omega))|exact ak some (ak (Value.int .i64) (by omega))
  refine aM ?_;refine' ad.hN (fun(i:Nat)=>⟨[(23,.int .i64 (i:Int)),(6,.int .u64 0)],[kz .u64 92 Dk (C0 (x+y) i)],J,i<=1,1 -i⟩) (0) ?ag ?b2;case ag=>exact fj _
  case b2=>
   rintro i hinv;try simp only at hinv
   have aq:=hinv;refine rg ?_;refine I V.bk ?_;refine aJ ?_;refine If (fun xS=>?_) fun xS=>?_
   ·obtain rfl:i=0:=by omega
    refine fJ ?_;refine aM ?_;refine ad.block ?_;refine rg ?_;refine I V.aT ?_;refine I V.bw ?_;refine I V.ec ?_;refine aH ?_;refine bg ?_;refine I V.aI ?_;refine bg ?_;refine aH ?_;refine I V.bk ?_;refine aJ ?_;refine If (fun nb=>?_) fun nb=>?_
    ·refine rg ?_;refine aH ?_;refine I V.bw ?_;refine I V.ec ?_;refine I V.aI ?_;refine bg ?_;refine aH ?_;refine cm (G:=Dn h) (h:=?_);rintro v' m' ai hle ⟨rfl,rfl,rfl⟩;refine aH ?_;refine I V.bw ?_;refine' W.step rfl (.of (nP rfl rfl rfl rfl (lq rfl) rfl rfl rfl ?U ?ag ?ao ?_));case ao=>repeat first|exact .head _ _ _ _|apply e6.tail|apply e6.app
     case ag=>exact pP (l:=[0,0]) (x:=x+y) 0 (by decide) (by omega)
     case U=>first|rfl|assumption
     refine I V.aI ?_;refine bg ?_;refine I V.bX ?_;refine I V.aT ?_;refine bU ?_;refine hO (1) ?_;exact(c9 _)
    ·exfalso;omega
   ·obtain rfl:i=1:=by omega
    refine aM ?_;refine ad.exit ?_;refine rg ?_;refine aH ?_;refine I V.bw ?_;refine' W.step rfl (.of (nP rfl rfl rfl rfl (lq rfl) rfl rfl rfl ?U ?ag ?ao ?_));case ao=>repeat first|exact .head _ _ _ _|apply e6.tail|apply e6.app
    case ag=>exact pP (l:=[x+y,0]) (x:=0) 1 (by simp) (by omega)
    case U=>first|rfl|assumption
    refine bg ?_;refine I V.aT ?_;refine' W.step rfl (Exec.call rfl rfl rfl rfl rfl rfl rfl (ck:=[kz .u64 92 Dk [x+y,0]]) (e8:=[]) (.refl _) trivial (zW (l:=[x+y,0]) (by simp) (by decide) (by decide)) ?_);rintro v' m' ai hle ⟨k,rfl,hk,a0,lS,rfl,rfl⟩;refine I V.aI ?_;refine bU ?_;refine ad.ju rfl fun a'=>?_;refine aM ?_;refine ad.ret ?_;refine'⟨.inr rfl,rfl,_,[],.tmp rfl .nil,b1 _,⟨a',rfl,cn.row (uS (n:=1) hk a0 lS) hk hk (by decide) (an.h6 _ _ _)⟩⟩
theorem LP{v w:Value}{x y:Nat}(j:cn J v x)(aC:cn J w y)(gC:x≠0)(oV:y≠0)(h:y<=x)(af:x<18446744073709551616):Fn (aS Q g0) 98 [v,w] [] J (hS J (x -y)):=by
 obtain⟨bV,cV,bE,rfl,aQ,eu,gI⟩:=j.un;obtain⟨b7,dn,b8,rfl,aP,eX,gW⟩:=aC.un;obtain rfl:cV=1:=by omega
 obtain rfl:dn=1:=by omega
 obtain⟨bP,l4,tq,aA,rfl,nl,kp⟩:=gI rfl;obtain⟨bS,nH,xY,aW,rfl,vN,qS⟩:=gW rfl;refine Fn.cH (cK Tryz.func98) rfl rfl fun H=>?_;refine rg ?_;refine I V.aI ?_;refine bg ?_;refine aH ?_;refine' W.step rfl (.of (xh rfl rfl rfl rfl rfl (jQ Q g0) ?a2 ?U ?ab fun Ip=>?_));case a2=>exact cQ
 case U=>exact cQ
 case ab=>exact cQ
 refine I V.aI ?_;refine bU ?_;rw[show((1:Nat):Int).toNat=1 from rfl,zero_num];refine rg ?_;refine I V.aI ?_;refine bg ?_;refine aH ?_;refine aJ ?_;refine ad.block ?_;refine' ad.eZ (l':=[(15,.int .i64 ((0):Int)),(6,.int .u64 0),(1,_),(5,_),(13,_),(14,_)]) ⟨?Z6,?lx,rfl,rfl,rfl,rfl,trivial⟩ (cl _) ?_;case Z6=>first|exact cu|exact ak some (ak (Value.int .u64) (by omega))|exact ak some (ak (Value.int .i64) (by omega))
 case lx=>first|exact cu|exact ak some (ak (Value.int .u64) (by omega))|exact ak some (ak (Value.int .i64) (by omega))
 refine aM ?_;refine' ad.hN (fun(i:Nat)=>⟨[(15,.int .i64 (i:Int)),(6,.int .u64 0)],[kz .u64 92 Ip (MI (x -y) (1 -i))],J,i<=1,1 -i⟩) (0) ?ag ?b2;case ag=>exact fj _
 case b2=>
  rintro i hinv;try simp only at hinv
  have aq:=hinv;refine rg ?_;refine I V.bk ?_;refine aJ ?_;refine If (fun mn=>?_) fun mn=>?_
  ·obtain rfl:i=0:=by omega
   refine fJ ?_;refine aM ?_;refine ad.block ?_;refine rg ?_;refine I V.aT ?_;refine I V.bw ?_;refine I V.ec ?_;refine aH ?_;refine bg ?_;refine I V.aI ?_;refine bg ?_;refine aH ?_;refine I V.bk ?_;refine aJ ?_;refine If (fun n4=>?_) fun n4=>?_
   ·refine rg ?_;refine aH ?_;refine I V.bw ?_;refine I V.ec ?_;refine I V.aI ?_;refine bg ?_;refine aH ?_;refine cm (G:=YZ h af) (h:=?_);rintro v' m' ai hle ⟨rfl,rfl,rfl⟩;refine aH ?_;refine I V.bw ?_;refine' W.step rfl (.of (nP rfl rfl rfl rfl (lq rfl) rfl rfl rfl ?U ?ag ?ao ?_));case ao=>repeat first|exact .head _ _ _ _|apply e6.tail|apply e6.app
    case ag=>exact pP (l:=[0]) (x:=x -y) 0 (by decide) (by omega)
    case U=>first|rfl|assumption
    refine I V.aI ?_;refine bg ?_;refine I V.bX ?_;refine I V.aT ?_;refine bU ?_;refine hO (1) ?_;exact(c9 _)
   ·exfalso;omega
  ·obtain rfl:i=1:=by omega
   refine aM ?_;refine ad.exit ?_;refine rg ?_;refine I V.aT ?_;refine' W.step rfl (Exec.call rfl rfl rfl rfl rfl rfl rfl (ck:=[kz .u64 92 Ip [x -y]]) (e8:=[]) (.refl _) trivial (zW (l:=[x -y]) (by simp) (by decide) (by decide)) ?_);rintro v' m' ai hle ⟨k,rfl,hk,a0,lS,rfl,rfl⟩;refine I V.aI ?_;refine bU ?_;refine ad.ju rfl fun a'=>?_;refine aM ?_;refine ad.ret ?_;refine'⟨.inr rfl,rfl,_,[],.tmp rfl .nil,b1 _,⟨a',rfl,cn.row (uS (n:=0) hk a0 lS) hk hk (by decide) (an.h6 _ _ _)⟩⟩
end
end
end Go.Opn

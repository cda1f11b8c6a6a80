/- A part of the proof of TableRounds. -/
import Derived.Test.YtfdhclnfkafebaaGreatDoorCal
import Derived.Test.YtfdhclnfkafebaaGreatDoorCaq
set_option linter.unusedVariables false
namespace Go.Opn
noncomputable section
def a9:List Nat->Nat
 |[]=>0
 |x::l=>x+18446744073709551616*a9 l
def okW(l:List Nat):Prop:=∀x∈l,x<18446744073709551616
def x7(l:List Nat):Prop:=okW l/\∀x,l.getLast?=some x->x≠0
def aR(n:Nat):List Nat:=if h:n=0 then[] else n % 18446744073709551616::aR (n / 18446744073709551616)
termination_by n
decreasing_by omega
theorem rQ:aR 0=[]:=by unfold aR;rfl
theorem vS{n:Nat}(h:n≠0):aR n=n % 18446744073709551616::aR (n / 18446744073709551616):=by rw[aR];rw[dif_neg h]
theorem hp:∀n:Nat,a9 (aR n)=n:=by
 intro n
 induction n using Nat.strongRecOn with
 |_ n aZ=>
  by_cases h:n=0
  ·subst h;rw[rQ];rfl
  ·rw[vS h]
   show n % 18446744073709551616+18446744073709551616*a9 (aR (n / 18446744073709551616))=n
   rw[aZ _ (by omega)];omega
theorem nF:∀n:Nat,okW (aR n):=by
 intro n
 induction n using Nat.strongRecOn with
 |_ n aZ=>
  by_cases h:n=0
  ·subst h;rw[rQ];intro x ab;cases ab
  ·rw[vS h]
   intro x ab
   rcases gb.1 ab with rfl|ab
   ·omega
   ·exact aZ _ (by omega) x ab
theorem LU:∀(n:Nat) (x:Nat),(aR n).getLast?=some x->x≠0:=by
 intro n
 induction n using Nat.strongRecOn with
 |_ n aZ=>
  intro x ab
  by_cases h:n=0
  ·subst h;rw[rQ] at ab;cases ab
  ·rw[vS h] at ab
   by_cases af:n / 18446744073709551616=0
   ·rw[af,rQ] at ab
    have ab:n % 18446744073709551616=x:=by simpa using ab
    omega
   ·rw[vS af,Me,<-vS af] at ab
    exact aZ _ (by omega) x ab
theorem Us(n:Nat):x7 (aR n):=⟨nF n,LU n⟩
theorem okW.tail{x:Nat}{l:List Nat}(h:okW (x::l)):okW l:=fun y aB=>h y (.tail _ aB)
theorem Uo{x:Nat}{l:List Nat}(h:x7 (x::l)):x7 l:=⟨h.1.tail,fun y aB=>by
 cases l with
 |nil=>cases aB
 |cons z l=>exact h.2 y (by rw[Me];exact aB)⟩
theorem aaz:∀{l:List Nat},x7 l->a9 l=0->l=[]
 |[],_,_=>rfl
 |x::l,h,aO=>by
  have aO:x+18446744073709551616*a9 l=0:=aO
  have:=aaz (Uo h) (by omega)
  subst this
  exact absurd (show x=0 by omega) (h.2 x rfl)
theorem Js:∀{l:List Nat},x7 l->l=aR (a9 l)
 |[],_=>by show[]=aR 0;rw[rQ]
 |x::l,h=>by
  have ab:=h.1 x (.head _)
  have aZ:=Js (Uo h)
  have aE:a9 (x::l)≠0:=fun q=>by have:=aaz h q;cases this
  rw[vS aE]
  have aC:a9 (x::l) % 18446744073709551616=x:=by show(x+18446744073709551616*a9 l) % 18446744073709551616=x;omega
  have aW:a9 (x::l) / 18446744073709551616=a9 l:=by show(x+18446744073709551616*a9 l) / 18446744073709551616=a9 l;omega
  rw[aC,aW,<-aZ]
theorem uq:∀(a b:List Nat),a9 (a++b)=a9 a+18446744073709551616 ^ a.length*a9 b
 |[],b=>by show a9 b=0+1*a9 b;omega
 |x::a,b=>by
  show x+18446744073709551616*a9 (a++b)=x+18446744073709551616*a9 a+18446744073709551616 ^ (a.length+1)*a9 b
  rw[uq a b,cS,fC,fi,B8,qX]
theorem Ib(x:Nat):a9 [x]=x:=by show x+18446744073709551616*0=x;omega
theorem rO:∀{l:List Nat},okW l->a9 l<18446744073709551616 ^ l.length
 |[],_=>by decide
 |x::l,h=>by
  have aZ:=rO h.tail
  have ab:=h x (.head _)
  show x+18446744073709551616*a9 l<18446744073709551616 ^ (l.length+1)
  rw[fC]
  omega
theorem aay{l:List Nat}(h:x7 l)(aE:l≠[]):18446744073709551616 ^ (l.length -1)<=a9 l:=by
 have e:=abk aE
 have aO:l.getLast aE≠0:=h.2 _ (abo aE)
 rw[<-e,uq,Ib,eS,x9,ld]
 have:18446744073709551616 ^ l.dropLast.length*1<=18446744073709551616 ^ l.dropLast.length*l.getLast aE:=hs _ (by omega)
 omega
theorem la{l:List Nat}{i x:Nat}(h:l[i]?=some x):a9 (l.take (i+1))=a9 (l.take i)+18446744073709551616 ^ i*x:=by
 have ar:=(gS.1 h).1
 rw[oz,h,To,uq,Ib,dY,gn (by omega)]
theorem Ea{l:List Nat}{i x:Nat}(h:l[i]?=some x):a9 (l.drop i)=x+18446744073709551616*a9 (l.drop (i+1)):=by
 have ar:=(gS.1 h).1
 have ab:l[i]=x:=by rw[eE ar] at h;injection h
 rw[IE ar,ab];rfl
theorem BN(l:List Nat)(i:Nat)(ar:i<=l.length):a9 l=a9 (l.take i)+18446744073709551616 ^ i*a9 (l.drop i):=by
 have:=uq (l.take i) (l.drop i)
 rwa [Ex,dY,gn ar] at this
theorem BL{l:List Nat}{i x y:Nat}(h:l[i]?=some x):a9 (l.set i y)+18446744073709551616 ^ i*x=a9 l+18446744073709551616 ^ i*y:=by
 have ar:=(gS.1 h).1
 have aC:=BN l i (by omega)
 have aW:=BN (l.set i y) i (by rw[hr];omega)
 rw[IP (bX i),Ea (i:=i) (x:=y) (by rw[mS,bj rfl,bj ar]),B5 (by omega)] at aW
 rw[Ea h] at aC
 rw[aC,aW,cS,cS]
 omega
theorem rC{l:List Nat}{i y:Nat}(h:okW l)(aB:y<18446744073709551616):okW (l.set i y):=fun x ab=>by
 rcases S4 ab with q|q
 ·exact h x q
 ·omega
theorem Hs{a b:List Nat}(ad:okW a)(af:okW b):okW (a++b):=fun x ab=>by
 rcases qV.1 ab with q|q
 ·exact ad x q
 ·exact af x q
theorem sM{l:List Nat}{i:Nat}(h:okW l):okW (l.take i):=fun x ab=>h x (x' ab)
theorem xz{l:List Nat}{i x:Nat}(h:okW l)(ab:l[i]?=some x):x<18446744073709551616:=h x (jS ab)
theorem y7{n:Nat}:okW (List.replicate n 0):=fun x ab=>by rw[SW ab];decide
theorem LQ:∀n:Nat,a9 (List.replicate n 0)=0
 |0=>rfl
 |n+1=>by rw[S7];show 0+18446744073709551616*a9 (List.replicate n 0)=0;rw[LQ n]
theorem apU{a b:List Nat}(aI:okW a)(ak:x7 b)(h:a.length<b.length):a9 a<a9 b:=by
 have ad:=rO aI
 have af:=aay ak (fun q=>by rw[q] at h;exact EE _ h)
 have aV:18446744073709551616 ^ a.length<=18446744073709551616 ^ (b.length -1):=my (by decide) (by omega)
 omega
theorem apV{a b:List Nat}{i x y:Nat}(aI:okW a)(ab:a[i]?=some x)(aB:b[i]?=some y)(aq:a.drop (i+1)=b.drop (i+1))(h:x<y):a9 a<a9 b:=by
 have ajG:=(gS.1 ab).1
 have ajH:=(gS.1 aB).1
 have aC:=BN a (i+1) (by omega)
 have aW:=BN b (i+1) (by omega)
 rw[la ab,aq] at aC
 rw[la aB] at aW
 have ad:=rO (sM (i:=i) aI)
 rw[dY,gn (by omega)] at ad
 have af:18446744073709551616 ^ i*(x+1)<=18446744073709551616 ^ i*y:=hs _ h
 rw[cS,gT] at af
 generalize 18446744073709551616 ^ (i+1)*a9 (b.drop (i+1))=R at aC aW
 generalize 18446744073709551616 ^ i*x=X at aC af
 generalize 18446744073709551616 ^ i*y=Y at aW af
 omega
end
end Go.Opn
set_option maxRecDepth 100000
set_option maxHeartbeats 4000000
set_option linter.unusedSimpArgs false
namespace Go.Opn
noncomputable section
open Go.Cre Go.RowKit Go.Proofs
section
variable {Q:dD Tryz.prog}{g0:Nat}{B:dy}{o:Oper}{n:Nat}{ds:eK}{l:List (Nat×Value)}{m:a8}{J:an}
theorem Zi{a:Nat}{cells:List Value}(h:p9 m J a cells:=by first|exact .et (by assumption)|exact .own (by repeat first|exact .head _|refine .tail _ ?_|refine eF _ ?_)|exact .opn (by repeat first|exact .head _|refine .tail _ ?_|refine eF _ ?_)):p9 m J a cells:=h
theorem V.cg{t:TypeId}{x:Operand}{a off:Nat}{cells:List Value}{v:Value}(aj:o.op=.load t x:=by exact rfl) (ab:bT l x=some (.pointer (some ⟨a,off,none⟩)):=by exact rfl) (av:p9 m J a cells:=by exact Zi) (az:m3 (a1 Q g0).P t cells off=some v:=by exact iB (dm rfl) (by first|rfl|assumption)):c5 (a1 Q g0) B o n ds l m J (v):=lM aj ab av az
theorem V.hT{t:TypeId}{x:Operand}{a off:Nat}{cells:List Value}{v:Value}(aj:o.op=.load t x:=by exact rfl) (ab:bT l x=some (.pointer (some ⟨a,off,none⟩)):=by exact rfl) (av:p9 m J a cells:=by exact Zi) (az:m3 (a1 Q g0).P t cells off=some v:=by exact fA (dm rfl) (by first|rfl|assumption)):c5 (a1 Q g0) B o n ds l m J (v):=lM aj ab av az
end
theorem aoc{cells:List Value}{off:Nat}{v:Value}(i:Nat)(h:i<cells.length)(aj:off=i:=by omega):gw off cells [v]=some (cells.set i v):=by
 subst aj;have:=ZL (f:=fun v:Value=>v) (L:=cells) (x:=v) h;rwa [List.map_id',List.map_id'] at this
theorem ew.at{α:Type}{J:an}{e:TypeId}{sz n c:Nat}{b:Option Addr}{R:α->List Value->Prop}{xs:List α}(h:ew J e sz R (.slice b n c) xs):n=xs.length/\(0<xs.length->∃a off cells b3,b=some ⟨a,off,none⟩/\J a=some (cells,b3)/\
 ∀i:Int,0<=i->i<xs.length->∃x cs,xs[i.toNat]?=some x/\takeN sz (nY (off+i.toNat*sz) cells)=some cs/\(∀k v,k<sz->nth cs k=some v->nth cells (off+i.toNat*sz+k)=some v)/\R x cs):=by
 obtain⟨ad,af⟩:=h.get;refine⟨ad,fun ap=>?_⟩;obtain⟨a,off,cells,b3,a7,a0,bJ⟩:=af ap;refine⟨a,off,cells,b3,a7,a0,fun i i0 i1=>?_⟩;have ab:=eE (l:=xs) (i:=i.toNat) I;obtain⟨cs,bH,bM⟩:=bJ _ _ ab;rw[jy] at bH;refine⟨_,cs,ab,bH,fun k v hk az=>?_,bM⟩;obtain⟨q,_,_⟩:=D5 bH;rw[lH] at az ⊢;rw[q,wy,ji,bj hk,p5] at az;exact az
section
variable {Q:dD Tryz.prog}{g0:Nat}{J:an}
end
section
variable {K:ef}{B:dy}{o:Oper}{n:Nat}{ds:eK}{l:List (Nat×Value)}{m:a8}{J:an}
theorem D7{t dH:TypeId}{x y:Operand}{k:IntKind}{a b:Int}(aj:o.op=.binOp .and t x y dH)(ab:bT l x=some (.int k a))(aB:bT l y=some (.int k b)):c5 K B o n ds l m J (.int k (k.wrap (BitVec.ofInt k.bits a &&& BitVec.ofInt k.bits b).toNat)):=by
 intro call aQ S H ax aH;unfold cL e3;simp only[aj];show l6 K.P _ .and t (ba S.T H x) (ba S.T H y)=_;rw[dg ax H ab,dg ax H aB];show(bif mi k k then jG H k a b _ .and else _)=_;rw[Dv,cv];have key:fk K.P S.T H o=some (.val (.int k (k.wrap (BitVec.ofInt k.bits a &&& BitVec.ofInt k.bits b).toNat)) H):=by
  refine pM ax (by rw[aj];rfl) ab aB rfl rfl ?_ rfl;unfold execOp;simp only[aj];rw[hS ax H ab,hS ax H aB];have aF:fc K.P (eqGuard .and t x y (.int k a) (.int k b))=some ():=rfl;have iy:binOp .and t (.int k a) (.int k b)=pure (.int k (k.wrap (BitVec.ofInt k.bits a &&& BitVec.ofInt k.bits b).toNat)):=by simp[binOp,Op.intBits]
  rw[gB (a:=.int k (k.wrap (BitVec.ofInt k.bits a &&& BitVec.ofInt k.bits b).toNat))]
  ·rfl
  rw[gB aF,iy];rfl
 exact(show jG H k a b _ .and=_ from key)
end
def cx(J:an)(v:Value)(x:Nat):Prop:=cR .u64 J v (aR x)
theorem cx.mono{J ah:an}(hle:J.le ah){v:Value}{x:Nat}(h:cx J v x):cx ah v x:=cR.mono hle h
def wc(x n:Nat):Prop:=n=(aR x).length
theorem wc.z{x n:Nat}(h:wc x n)(aE:n=0):x=0:=by
 by_cases q:x=0
 ·exact q
 ·have h:n=(aR x).length:=h
  rw[vS q,lP] at h;omega
theorem wc.ir{x n:Nat}(h:wc x n)(ab:x=0):n=0:=by subst ab;exact h.trans (by rw[rQ];rfl)
theorem cx.b6{J:an}{v:Value}{x:Nat}(h:cx J v x):∃b n c,v=.slice b n c/\addrEq b b=true/\wc x n/\True:=by
 have h:cR .u64 J v (aR x):=h;obtain⟨b,c,rfl⟩:=h.form;exact⟨b,_,c,rfl,h.addr,rfl,trivial⟩
theorem wc.p{x n:Nat}(h:wc x n)(ab:x≠0):0<n:=r2 fun q=>ab (h.z q)
theorem wc.Q'{x n:Nat}(h:wc x n)(ab:n≠0):x≠0:=fun q=>ab (h.ir q)
theorem cx.bG{J:an}{v:Value}{x:Nat}(h:cx J v x):∃b c,v=.slice b (aR x).length c/\addrEq b b=true:=by
 have h:cR .u64 J v (aR x):=h;obtain⟨b,c,rfl⟩:=h.form;exact⟨b,c,rfl,h.addr⟩
theorem cx.zero{J:an}{b:Option Addr}{c:Nat}(h:∃e,fP J e 1 (.slice b 0 c) 0 []):cx J (.slice b 0 c) 0:=by
 obtain⟨e,h⟩:=h;show cR .u64 J _ (aR 0);rw[rQ];exact⟨e,h⟩
theorem cx.nil{J:an}:cx J (.slice none 0 0) 0:=.zero ⟨3,.nil⟩
theorem cx.row{J:an}{a n cap x:Nat}{l:List Nat}{e:TypeId}(aE:l.take n=aR x)(aD:n<=l.length)(aJ:n<=cap)(gY:cap<cQ)(h:J a=some (b7 .u64 l,e)):cx J (.slice (some ⟨a,0,none⟩) n cap) x:=by
 have:=cR.row aD aJ gY h;rw[aE] at this;exact this
theorem Fn.Lr{K:ef}{J:an}{f:FuncId}{fn:Func}{args:List Value}{v:Value}(aM:K.fF.get f=some fn)(ak:fn.body=none)(ap:args.all plain=true)(he:fc K.P (callFunc f args.toArray)=some (.value v))(az:plain v=true):Fn K f args [] J (fun u m' ah=>u=v/\m'=[]/\J=ah):=by
 intro H aH;refine⟨v,H,J,[],kS.cr K.cX il lG (bE:=.run) ?_,aH,rfl,rfl,rfl⟩;unfold sd;rw[aM];show ET K.P _ f fn args false .run H fn.body=_;rw[ak];show r7 .run (Ac K.P fn f args H)=_;unfold Ac;rw[ap,he];simp only[cv,NO,az];rfl
theorem ab2(x y:Nat):fc j9 (callFunc 104 #[.int .u64 (x:Int),.int .u64 (y:Int),.int .u64 0])=some (.value (.tuple #[.int .u64 (((x+y+0) % 2 ^ 64:Nat):Int),.int .u64 (((x+y+0) / 2 ^ 64:Nat):Int)])):=by kernel_rfl
theorem aoH(x y:Nat):fc j9 (callFunc 134 #[.int .u64 (x:Int),.int .u64 (y:Int),.int .u64 0])=some (.value (.tuple #[.int .u64 (((x+2 ^ 64 -y -0) % 2 ^ 64:Nat):Int),.int .u64 ((if x<y+0 then 1 else 0:Nat):Int)])):=by kernel_rfl
theorem ab3(x y:Nat):fc j9 (callFunc 104 #[.int .u64 (x:Int),.int .u64 (y:Int),.int .u64 1])=some (.value (.tuple #[.int .u64 (((x+y+1) % 2 ^ 64:Nat):Int),.int .u64 (((x+y+1) / 2 ^ 64:Nat):Int)])):=by kernel_rfl
theorem aoI(x y:Nat):fc j9 (callFunc 134 #[.int .u64 (x:Int),.int .u64 (y:Int),.int .u64 1])=some (.value (.tuple #[.int .u64 (((x+2 ^ 64 -y -1) % 2 ^ 64:Nat):Int),.int .u64 ((if x<y+1 then 1 else 0:Nat):Int)])):=by kernel_rfl
section
variable {Q:dD Tryz.prog}{g0:Nat}{J:an}
theorem we{x y c:Nat}(aJ:c<=1):Fn (a1 Q g0) 104 [.int .u64 (x:Int),.int .u64 (y:Int),.int .u64 (c:Int)] [] J (fun u m' ah=>u=.tuple #[.int .u64 (((x+y+c) % 18446744073709551616:Nat):Int),.int .u64 (((x+y+c) / 18446744073709551616:Nat):Int)]/\m'=[]/\J=ah):=by
 obtain rfl|rfl:c=0\/c=1:=I
 ·exact Fn.Lr (cu Tryz.func104) rfl rfl (ab2 x y) rfl
 ·exact Fn.Lr (cu Tryz.func104) rfl rfl (ab3 x y) rfl
theorem LJ{x y c:Nat}(aJ:c<=1):Fn (a1 Q g0) 134 [.int .u64 (x:Int),.int .u64 (y:Int),.int .u64 (c:Int)] [] J (fun u m' ah=>u=.tuple #[.int .u64 (((x+18446744073709551616 -y -c) % 18446744073709551616:Nat):Int),.int .u64 ((if x<y+c then 1 else 0:Nat):Int)]/\m'=[]/\J=ah):=by
 obtain rfl|rfl:c=0\/c=1:=I
 ·exact Fn.Lr (cu Tryz.func134) rfl rfl (aoH x y) rfl
 ·exact Fn.Lr (cu Tryz.func134) rfl rfl (aoI x y) rfl
end
end
end Go.Opn
namespace Go.Opn
noncomputable section
structure uD (β P c4 V cm u1 bI v1 v0:Nat):Prop where
 u:∃l,c4=((cm*β+u1)*β+bI)*P+l/\l<P
 v:∃l,V=(v1*β+v0)*P+l/\l<P
theorem uD.start{β P c4 V cm u1 bI v1 v0 g:Nat}(h:uD β P c4 V cm u1 bI v1 v0)(yV:bI<β)(aF:cm*β+u1<(g+1)*v1):c4<(g+1)*V:=by
 obtain⟨ul,rfl,vo⟩:=h.u
 obtain⟨BO,rfl,lA⟩:=h.v
 have ad:(cm*β+u1+1)*β<=(g+1)*v1*β:=e0 _ aF
 have af:(cm*β+u1)*β+bI+1<=(g+1)*(v1*β+v0):=by
  rw[cS,<-fi]
  rw[c3] at ad
  omega
 have aV:((cm*β+u1)*β+bI+1)*P<=(g+1)*(v1*β+v0)*P:=e0 _ af
 rw[c3 _ 1 P,iL] at aV
 rw[cS (g+1),<-fi]
 have:0<=(g+1)*BO:=ep _
 omega
theorem uD.more{β P c4 V cm u1 bI v1 v0 g r:Nat}(h:uD β P c4 V cm u1 bI v1 v0)(aF:g*v1+r=cm*β+u1)(aS:r*β+bI<g*v0):c4<g*V:=by
 obtain⟨ul,rfl,vo⟩:=h.u
 obtain⟨BO,rfl,lA⟩:=h.v
 have af:(cm*β+u1)*β+bI+1<=g*(v1*β+v0):=by
  rw[cS,<-fi,<-aF,c3]
  omega
 have aV:((cm*β+u1)*β+bI+1)*P<=g*(v1*β+v0)*P:=e0 _ af
 rw[c3 _ 1 P,iL] at aV
 rw[cS g,<-fi]
 have:0<=g*BO:=ep _
 omega
theorem uD.less{β P c4 V cm u1 bI v1 v0 g r:Nat}(h:uD β P c4 V cm u1 bI v1 v0)(aF:g*v1+r=cm*β+u1)(aS:g*v0<=r*β+bI)(jE:g<=β)(ak:0<β)(az:0<v1):g*V<c4+V:=by
 obtain⟨ul,rfl,vo⟩:=h.u
 obtain⟨BO,rfl,lA⟩:=h.v
 have af:g*(v1*β+v0)<=(cm*β+u1)*β+bI:=by
  rw[cS,<-fi,<-aF,c3]
  omega
 have aV:g*(v1*β+v0)*P<=((cm*β+u1)*β+bI)*P:=e0 _ af
 have bq:g*BO<=β*BO:=e0 _ jE
 have fL:β*BO<β*P:=Mt lA ak
 have hv:β*P<=(v1*β+v0)*P:=e0 _ (by
  have:1*β<=v1*β:=e0 _ az
  omega)
 rw[cS g,<-fi]
 omega
theorem xJ{c4 V g:Nat}(ad:g*V<=c4)(af:c4<(g+1)*V):c4 / V=g/\c4 % V=c4 -g*V:=by
 have jX:0<V:=r2 fun h=>by rw[h,jk] at af;omega
 have e:c4 / V=g:=by
  refine Tf ?_ ?_
  ·exact Nat.lt_succ_iff.1 ((mV jX).2 af)
  ·exact(IU jX).2 ad
 refine⟨e,?_⟩
 have:=lR c4 V
 rw[e,dz] at this
 omega
end
end Go.Opn
namespace Go.Opn
noncomputable section
open Go.Cre Go.RowKit Go.Proofs
theorem ER{x:Nat}(h:x<18446744073709551616):IntKind.u64.wrap (BitVec.ofInt IntKind.u64.bits (x:Int) &&& BitVec.ofInt IntKind.u64.bits 4294967295).toNat=((x % 4294967296:Nat):Int):=by
 have e:(BitVec.ofInt 64 (x:Int) &&& BitVec.ofInt 64 4294967295).toNat=x % 4294967296:=by
  rw[BitVec.toNat_and];have ad:(BitVec.ofInt 64 (x:Int)).toNat=x:=by
   rw[BitVec.toNat_ofInt];omega
  have af:(BitVec.ofInt 64 4294967295).toNat=2 ^ 32 -1:=by decide
  rw[ad,af,Nat.and_two_pow_sub_one_eq_mod]
 show IntKind.u64.wrap ((BitVec.ofInt 64 (x:Int) &&& BitVec.ofInt 64 4294967295).toNat:Int)=_;rw[e];exact wrap_u64 I I
theorem zn{x:Nat}:(x:Int).fdiv (2 ^ ((32:Int).toNat))=((x / 4294967296:Nat):Int):=HU (q:=32)
def jq(x y:Nat):Int:=if x<y then -1 else if y<x then 1 else 0
theorem Sl{x:Nat}(h:x<18446744073709551616):IntKind.u64.wrap (x:Int)=(x:Int):=wrap_u64 (o6 _) I
theorem vA{x y P:Nat}(h:P=x*y):(x:Int)*(y:Int)=(P:Int):=by rw[h];exact(gM x y).symm
theorem LW(x:Nat):IntKind.u64.wrap (x:Int)=((x % 18446744073709551616:Nat):Int):=by
 unfold IntKind.wrap IntKind.signed IntKind.bits;simp only[En,Eo,Dl];omega
theorem ak9{x y jf ev l9 hU a b c d:Nat}(ab:x=ev*4294967296+jf)(aB:y=hU*4294967296+l9)(aI:a=jf*l9)(ak:b=ev*l9)(aJ:c=jf*hU)(aq:d=ev*hU):x*y=d*18446744073709551616+(b+c)*4294967296+a:=by
 subst ab;subst aB;subst aI;subst ak;subst aJ;subst aq;rw[c3,cS,cS,c3];have aC:ev*4294967296*(hU*4294967296)=ev*hU*18446744073709551616:=by
  rw[show(18446744073709551616:Nat)=4294967296*4294967296 from rfl];ac_rfl
 have aW:ev*4294967296*l9=ev*l9*4294967296:=by ac_rfl
 have cw:jf*(hU*4294967296)=jf*hU*4294967296:=by ac_rfl
 omega
theorem Dz{a b:Nat}(aI:a<4294967296)(ak:b<4294967296):a*b<=18446744065119617025:=r1 (Nat.le_of_lt_succ (show a<4294967295+1 by omega)) (Nat.le_of_lt_succ (show b<4294967295+1 by omega))
section
variable {Q:dD Tryz.prog}{g0:Nat}{J:an}
theorem DG{x y:Nat}(ab:x<18446744073709551616)(aB:y<18446744073709551616):Fn (a1 Q g0) 103 [.int .u64 (x:Int),.int .u64 (y:Int)] [] J (fun u m' ah=>u=.tuple #[.int .u64 ((x*y / 18446744073709551616:Nat):Int),.int .u64 ((x*y % 18446744073709551616:Nat):Int)]/\m'=[]/\J=ah):=by
 obtain⟨jf,dM⟩:∃k,k=x % 4294967296:=⟨_,rfl⟩;obtain⟨ev,nB⟩:∃k,k=x / 4294967296:=⟨_,rfl⟩;obtain⟨l9,eU⟩:∃k,k=y % 4294967296:=⟨_,rfl⟩;obtain⟨hU,GL⟩:∃k,k=y / 4294967296:=⟨_,rfl⟩;obtain⟨a,aI⟩:∃k,k=jf*l9:=⟨_,rfl⟩;obtain⟨b,ak⟩:∃k,k=ev*l9:=⟨_,rfl⟩;obtain⟨c,aJ⟩:∃k,k=jf*hU:=⟨_,rfl⟩;obtain⟨d,aq⟩:∃k,k=ev*hU:=⟨_,rfl⟩;obtain⟨P,cX⟩:∃k,k=x*y:=⟨_,rfl⟩;have aiJ:=ak9 (x:=x) (y:=y) I I aI ak aJ aq;rw[<-cX] at aiJ ⊢;have XI:jf<4294967296:=I
 have XJ:ev<4294967296:=I
 have XL:l9<4294967296:=I
 have XM:hU<4294967296:=I
 have ju:=Dz XI XL;have pF:=Dz XJ XL;have akj:=Dz XI XM;have cI:=Dz XJ XM;rw[<-aI] at ju;rw[<-ak] at pF;rw[<-aJ] at akj;rw[<-aq] at cI;have sk:P<18446744073709551616*18446744073709551616:=by rw[cX];exact Ms ab aB
 obtain⟨T,cB⟩:∃k,k=b+a / 4294967296:=⟨_,rfl⟩;obtain⟨bm,pz⟩:∃k,k=T % 4294967296:=⟨_,rfl⟩;obtain⟨bW,rl⟩:∃k,k=T / 4294967296:=⟨_,rfl⟩;obtain⟨c4,n2⟩:∃k,k=bm+c:=⟨_,rfl⟩;refine Fn.cr (cu Tryz.func103) rfl rfl fun H=>?_;refine rg ?_;refine al ?_;refine a2 ?_;refine U V.ay ?_;refine' W.step rfl (Exec.val rfl rfl (D7 rfl rfl rfl) ?_);refine U V.au ?_;refine a3 ?_;rw[ER ab,<-dM];refine rg ?_;refine U V.ay ?_;refine' W.step rfl (Exec.val rfl rfl (uk rfl rfl rfl rfl ?aO ?ad) ?_);case aO=>exact bz
 case ad=>first|decide|exact bz|exact(show _<=((64:Nat):Int) from I)
 refine U V.au ?_;refine a3 ?_;rw[zn,<-nB];refine rg ?_;refine U V.ay ?_;refine' W.step rfl (Exec.val rfl rfl (D7 rfl rfl rfl) ?_);refine U V.au ?_;refine a3 ?_;rw[ER aB,<-eU];refine rg ?_;refine U V.ay ?_;refine' W.step rfl (Exec.val rfl rfl (uk rfl rfl rfl rfl ?aO ?ad) ?_);case aO=>exact bz
 case ad=>first|decide|exact bz|exact(show _<=((64:Nat):Int) from I)
 refine U V.au ?_;refine a3 ?_;rw[zn,<-GL];refine rg ?_;refine al ?_;refine U V.aY ?_;refine U V.au ?_;refine a3 ?_;rw[vA aI];refine rg ?_;refine al ?_;refine U V.aY ?_;refine U V.ay ?_;refine' W.step rfl (Exec.val rfl rfl (uk rfl rfl rfl rfl ?aO ?ad) ?_);case aO=>exact bz
 case ad=>first|decide|exact bz|exact(show _<=((64:Nat):Int) from I)
 refine U V.aY ?_;rw[vA ak,zn,show IntKind.u64.wrap ((b:Int)+((a / 4294967296:Nat):Int))=(T:Int) from by rw[cB,uz];exact wrap_u64 I I];refine U V.au ?_;refine a2 ?_;refine U V.ay ?_;refine' W.step rfl (Exec.val rfl rfl (D7 rfl rfl rfl) ?_);refine U V.au ?_;refine a3 ?_;rw[ER (x:=T) I,<-pz];refine rg ?_;refine U V.ay ?_;refine' W.step rfl (Exec.val rfl rfl (uk rfl rfl rfl rfl ?aO ?ad) ?_);case aO=>exact bz
 case ad=>first|decide|exact bz|exact(show _<=((64:Nat):Int) from I)
 refine U V.au ?_;refine a3 ?_;rw[zn,<-rl];refine rg ?_;refine al ?_;refine U V.aY ?_;refine U V.aY ?_;rw[vA aJ,show((bm:Int)+(c:Int))=(c4:Int) by rw[n2,uz]];refine U V.au ?_;refine a2 ?_;refine al ?_;refine U V.aY ?_;refine U V.ay ?_;refine U V.aY ?_;refine U V.ay ?_;refine' W.step rfl (Exec.val rfl rfl (uk rfl rfl rfl rfl ?aO ?ad) ?_);case aO=>exact bz
 case ad=>first|decide|exact bz|exact(show _<=((64:Nat):Int) from I)
 rw[vA aq,zn];refine U V.aY ?_;rw[show((d:Int)+(bW:Int)+((c4 / 4294967296:Nat):Int))=((P / 18446744073709551616:Nat):Int) by omega];refine U V.au ?_;refine a2 ?_;refine al ?_;refine U V.aY ?_;rw[vA cX];refine U V.au ?_;refine aA ?_;refine ae.ret ?_;refine mR ?_;first|exact⟨by rw[LW];rfl,rfl,rfl⟩|exact⟨rfl,rfl,rfl⟩
end
def fD(x:Nat):Nat:=if x=0 then 0 else Nat.log2 x+1
theorem Ji{x:Nat}(h:x≠0):2 ^ (fD x -1)<=x/\x<2 ^ fD x/\1<=fD x:=by
 unfold fD;rw[bd h];have:=(Nat.log2_eq_iff h (k:=Nat.log2 x)).1 rfl;exact⟨by rw[ld];exact this.1,this.2,I⟩
theorem acw{x k:Nat}(ad:2 ^ k<=x)(af:x<2 ^ (k+1)):fD x=k+1:=by
 have ab:x≠0:=fun h=>by rw[h] at ad;have:=lS k;omega
 unfold fD;rw[bd ab,(Nat.log2_eq_iff ab).2 ⟨ad,af⟩]
theorem Ci{x k:Nat}(h:2 ^ k<=x):fD x=k+fD (x / 2 ^ k):=by
 have hk:=lS k;have aq:x / 2 ^ k≠0:=jl (Mm h hk);obtain⟨ad,af,aV⟩:=Ji aq;have aC:2 ^ (k+(fD (x / 2 ^ k) -1))<=x:=by
  rw[oB,dz];exact(IU hk).1 ad
 have aW:x<2 ^ (k+(fD (x / 2 ^ k) -1)+1):=by
  rw[show k+(fD (x / 2 ^ k) -1)+1=fD (x / 2 ^ k)+k by omega,oB];exact(mV hk).1 af
 rw[acw aC aW];omega
theorem anU{x:Nat}:(x:Int).fdiv (2 ^ ((16:Int).toNat))=((x / 65536:Nat):Int):=HU (q:=16)
theorem anW{x:Nat}:(x:Int).fdiv (2 ^ ((8:Int).toNat))=((x / 256:Nat):Int):=HU (q:=8)
def Xo:List UInt8:=[0,1,2,2,3,3,3,3,4,4,4,4,4,4,4,4,5,5,5,5,5,5,5,5,5,5,5,5,5,5,5,5,6,6,6,6,6,6,6,6,6,6,6,6,6,6,6,6,6,6,6,6,6,6,6,6,6,6,6,6,6,6,6,6,7,7,7,7,7,7,7,7,7,7,7,7,7,7,7,7,7,7,7,7,7,7,7,7,7,7,7,7,7,7,7,7,7,7,7,7,7,7,7,7,7,7,7,7,7,7,7,7,7,7,7,7,7,7,7,7,7,7,7,7,7,7,7,7,8,8,8,8,8,8,8,8,8,8,8,8,8,8,8,8,8,8,8,8,8,8,8,8,8,8,8,8,8,8,8,8,8,8,8,8,8,8,8,8,8,8,8,8,8,8,8,8,8,8,8,8,8,8,8,8,8,8,8,8,8,8,8,8,8,8,8,8,8,8,8,8,8,8,8,8,8,8,8,8,8,8,8,8,8,8,8,8,8,8,8,8,8,8,8,8,8,8,8,8,8,8,8,8,8,8,8,8,8,8,8,8,8,8,8,8,8,8,8,8,8,8,8,8,8,8,8,8]
theorem T5:∀y,y<256->Xo[y]?=some (UInt8.ofNat (fD y))/\fD y<=8:=by decide+kernel
theorem aks{y:Nat}(h:y<256):Xo[((y:Nat):Int).toNat]?=some (UInt8.ofNat (fD y)):=by rw[jy];exact(T5 y h).1
section
variable {Q:dD Tryz.prog}{g0:Nat}{J:an}
theorem akr{x:Nat}(ab:x<18446744073709551616):Fn (a1 Q g0) 133 [.int .u64 (x:Int)] [] J (fun u m' ah=>u=.int .i64 ((fD x:Nat):Int)/\m'=[]/\J=ah):=by
 refine Fn.cr (cu Tryz.func133) rfl rfl fun H=>?_;refine rg ?_;refine U V.au ?_;refine a2 ?_;refine U V.ay ?_;refine U V.bb ?_;refine a3 ?_;refine eP [0,2,4] ?_;refine ao ?_;refine' ae.lW (α:=(Nat)×(Nat)) 3 (fun(a6:(Nat)×(Nat))=>match a6 with|(y,k)=>[(0,.int .u64 (y:Int)),(2,.int .i64 (k:Int))]) (fun(a6:(Nat)×(Nat))=>match a6 with|(y,k)=>[]) (fun(a6:(Nat)×(Nat))=>match a6 with|(y,k)=>J) (fun(a6:(Nat)×(Nat))=>match a6 with|(y,k)=>y<4294967296/\fD x=k+fD y/\k<=32) ?adG ?aeP
 case adG=>
  refine If (fun dZ=>?_) fun dZ=>?_
  ·refine rg ?_;refine U V.ay ?_;refine' W.step rfl (Exec.val rfl rfl (uk rfl rfl rfl rfl ?aO ?ad) ?_);case aO=>exact bz
   case ad=>first|decide|exact bz|exact(show _<=((64:Nat):Int) from I)
   refine U V.au ?_;refine a3 ?_;rw[zn];refine rg ?_;refine U V.au ?_;refine a3 ?_;refine'⟨⟨x / 4294967296,32⟩,_,?hinv,rfl,⟨?dc,?fq,trivial⟩,gK,rfl⟩;case dc=>first|exact bg|exact aa some (aa (Value.int .u64) I)|exact aa some (aa (Value.int .i64) I)
   case fq=>first|exact bg|exact aa some (aa (Value.int .u64) I)|exact aa some (aa (Value.int .i64) I)
   case hinv=>
    first
        |exact⟨I,Ci (k:=32) I,I⟩
        |exact⟨I,I,I⟩
  ·refine ao ?_;refine ae.skip ?_;refine'⟨⟨x,0⟩,_,?hinv,rfl,⟨?dc,?fq,trivial⟩,gK,rfl⟩;case dc=>first|exact bg|exact aa some (aa (Value.int .u64) I)|exact aa some (aa (Value.int .i64) I)
   case fq=>first|exact bg|exact aa some (aa (Value.int .u64) I)|exact aa some (aa (Value.int .i64) I)
   case hinv=>
    first
        |exact⟨I,Ci (k:=32) I,I⟩
        |exact⟨I,I,I⟩
 case aeP=>
  rintro⟨y,k⟩ hinv;try simp only at hinv
  refine rg ?_;refine U V.ay ?_;refine U V.bb ?_;refine a3 ?_;refine eP [0,2,8] ?_;refine ao ?_;refine' ae.lW (α:=(Nat)×(Nat)) 3 (fun(a6:(Nat)×(Nat))=>match a6 with|(iH,a0)=>[(0,.int .u64 (iH:Int)),(2,.int .i64 (a0:Int))]) (fun(a6:(Nat)×(Nat))=>match a6 with|(iH,a0)=>[]) (fun(a6:(Nat)×(Nat))=>match a6 with|(iH,a0)=>J) (fun(a6:(Nat)×(Nat))=>match a6 with|(iH,a0)=>iH<65536/\fD x=a0+fD iH/\a0<=48) ?adK ?aeT
  case adK=>
   refine If (fun jU=>?_) fun jU=>?_
   ·refine rg ?_;refine U V.ay ?_;refine' W.step rfl (Exec.val rfl rfl (uk rfl rfl rfl rfl ?aO ?ad) ?_);case aO=>exact bz
    case ad=>first|decide|exact bz|exact(show _<=((64:Nat):Int) from I)
    refine U V.au ?_;refine a3 ?_;rw[anU];refine rg ?_;refine U V.ay ?_;refine U V.aY ?_;refine U V.au ?_;refine a3 ?_;refine'⟨⟨y / 65536,k+16⟩,_,?hinv,rfl,⟨?dc,?fq,trivial⟩,gK,rfl⟩;case dc=>first|exact bg|exact aa some (aa (Value.int .u64) I)|exact aa some (aa (Value.int .i64) I)
    case fq=>first|exact bg|exact aa some (aa (Value.int .u64) I)|exact aa some (aa (Value.int .i64) I)
    case hinv=>
     first
         |exact⟨I,by have h:=Ci (x:=y) (k:=16) I;rw[show(2:Nat) ^ 16=65536 from rfl] at h;omega,I⟩
         |exact⟨I,hinv.2.1,I⟩
   ·refine ao ?_;refine ae.skip ?_;refine'⟨⟨y,k⟩,_,?hinv,rfl,⟨?dc,?fq,trivial⟩,gK,rfl⟩;case dc=>first|exact bg|exact aa some (aa (Value.int .u64) I)|exact aa some (aa (Value.int .i64) I)
    case fq=>first|exact bg|exact aa some (aa (Value.int .u64) I)|exact aa some (aa (Value.int .i64) I)
    case hinv=>
     first
         |exact⟨I,by have h:=Ci (x:=y) (k:=16) I;rw[show(2:Nat) ^ 16=65536 from rfl] at h;omega,I⟩
         |exact⟨I,hinv.2.1,I⟩
  case aeT=>
   rintro⟨iH,a0⟩ hinv;try simp only at hinv
   refine rg ?_;refine U V.ay ?_;refine U V.bb ?_;refine a3 ?_;refine eP [0,2,14] ?_;refine ao ?_;refine' ae.lW (α:=(Nat)×(Nat)) 3 (fun(a6:(Nat)×(Nat))=>match a6 with|(jx,bJ)=>[(0,.int .u64 (jx:Int)),(2,.int .i64 (bJ:Int))]) (fun(a6:(Nat)×(Nat))=>match a6 with|(jx,bJ)=>[]) (fun(a6:(Nat)×(Nat))=>match a6 with|(jx,bJ)=>J) (fun(a6:(Nat)×(Nat))=>match a6 with|(jx,bJ)=>jx<256/\fD x=bJ+fD jx/\bJ<=56) ?M' ?Ns
   case M'=>
    refine If (fun gJ=>?_) fun gJ=>?_
    ·refine rg ?_;refine U V.ay ?_;refine' W.step rfl (Exec.val rfl rfl (uk rfl rfl rfl rfl ?aO ?ad) ?_);case aO=>exact bz
     case ad=>first|decide|exact bz|exact(show _<=((64:Nat):Int) from I)
     refine U V.au ?_;refine a3 ?_;rw[anW];refine rg ?_;refine U V.ay ?_;refine U V.aY ?_;refine U V.au ?_;refine a3 ?_;refine'⟨⟨iH / 256,a0+8⟩,_,?hinv,rfl,⟨?dc,?fq,trivial⟩,gK,rfl⟩;case dc=>first|exact bg|exact aa some (aa (Value.int .u64) I)|exact aa some (aa (Value.int .i64) I)
     case fq=>first|exact bg|exact aa some (aa (Value.int .u64) I)|exact aa some (aa (Value.int .i64) I)
     case hinv=>
      first
          |exact⟨I,by have h:=Ci (x:=iH) (k:=8) I;rw[show(2:Nat) ^ 8=256 from rfl] at h;omega,I⟩
          |exact⟨I,hinv.2.1,I⟩
    ·refine ao ?_;refine ae.skip ?_;refine'⟨⟨iH,a0⟩,_,?hinv,rfl,⟨?dc,?fq,trivial⟩,gK,rfl⟩;case dc=>first|exact bg|exact aa some (aa (Value.int .u64) I)|exact aa some (aa (Value.int .i64) I)
     case fq=>first|exact bg|exact aa some (aa (Value.int .u64) I)|exact aa some (aa (Value.int .i64) I)
     case hinv=>
      first
          |exact⟨I,by have h:=Ci (x:=iH) (k:=8) I;rw[show(2:Nat) ^ 8=256 from rfl] at h;omega,I⟩
          |exact⟨I,hinv.2.1,I⟩
   case Ns=>
    rintro⟨jx,bJ⟩ hinv;try simp only at hinv
    have CI:=T5 jx I;have hw:IntKind.i64.wrap (((UInt8.ofNat (fD jx)).toNat:Nat):Int)=((fD jx:Nat):Int):=by
      rw[UInt8.toNat_ofNat'];rw[nO I];exact wrap_i64 I I
    refine rg ?_;refine al ?_;refine U V.d' ?_;refine' W.step rfl (Exec.val rfl rfl (aam rfl rfl rfl (RX rfl) ?aO ?ak) ?_);case ak=>exact aks I
    case aO=>exact bz
    refine U V.d' ?_;refine U V.aY ?_;refine U V.au ?_;refine aA ?_;refine ae.ret ?_;refine mR ?_;exact⟨by rw[hw,<-uz,<-hinv.2.1];rfl,rfl,rfl⟩
theorem QA{x:Nat}(ab:x<18446744073709551616):Fn (a1 Q g0) 107 [.int .u64 (x:Int)] [] J (fun u m' ah=>u=.int .i64 ((64 -fD x:Nat):Int)/\m'=[]/\J=ah):=by
 have ak:fD x<=64:=by
  by_cases h:x=0
  ·subst h;decide
  ·obtain⟨ad,_,aV⟩:=Ji h
   by_cases k:fD x<=64
   ·exact k
   ·exfalso
    have:2 ^ 64<=2 ^ (fD x -1):=my bC I;omega
 refine Fn.cr (cu Tryz.func107) rfl rfl fun H=>?_;refine rg ?_;refine U V.au ?_;refine a2 ?_;refine U V.ay ?_;refine bN (G:=akr ab) (h:=?_);rintro v' m' ah hle ⟨rfl,rfl,rfl⟩;refine U V.aY ?_;refine U V.au ?_;refine aA ?_;refine ae.ret ?_;refine mR ?_;exact⟨by rw[show(64:Int) -((fD x:Nat):Int)=((64 -fD x:Nat):Int) by omega];rfl,rfl,rfl⟩
end
end
end Go.Opn
set_option maxHeartbeats 8000000
namespace Go.Opn
noncomputable section
open Go.Cre Go.RowKit Go.Proofs
section
variable {K:ef}{B:dy}{o:Oper}{n:Nat}{ds:eK}{l:List (Nat×Value)}{m:a8}{J:an}
theorem D8{t dH:TypeId}{x y:Operand}{k:IntKind}{a b:Int}(aj:o.op=.binOp .or t x y dH)(ab:bT l x=some (.int k a))(aB:bT l y=some (.int k b)):c5 K B o n ds l m J (.int k (k.wrap (BitVec.ofInt k.bits a ||| BitVec.ofInt k.bits b).toNat)):=by
 intro call aQ S H ax aH;unfold cL e3;simp only[aj];show l6 K.P _ .or t (ba S.T H x) (ba S.T H y)=_;rw[dg ax H ab,dg ax H aB];show(bif mi k k then jG H k a b _ .or else _)=_;rw[Dv,cv];have key:fk K.P S.T H o=some (.val (.int k (k.wrap (BitVec.ofInt k.bits a ||| BitVec.ofInt k.bits b).toNat)) H):=by
  refine pM ax (by rw[aj];rfl) ab aB rfl rfl ?_ rfl;unfold execOp;simp only[aj];rw[hS ax H ab,hS ax H aB];have aF:fc K.P (eqGuard .or t x y (.int k a) (.int k b))=some ():=rfl;have iy:binOp .or t (.int k a) (.int k b)=pure (.int k (k.wrap (BitVec.ofInt k.bits a ||| BitVec.ofInt k.bits b).toNat)):=by simp[binOp,Op.intBits]
  rw[gB (a:=.int k (k.wrap (BitVec.ofInt k.bits a ||| BitVec.ofInt k.bits b).toNat))]
  ·rfl
  rw[gB aF,iy];rfl
 exact(show jG H k a b _ .or=_ from key)
theorem apL{t dH:TypeId}{x y:Operand}{k a0:IntKind}{a b:Int}(aj:o.op=.binOp .shl t x y dH)(ab:bT l x=some (.int k a))(aB:bT l y=some (.int a0 b))(lx:mi k a0=false)(aO:0<=b)(ad:b<=k.bits):c5 K B o n ds l m J (.int k (k.wrap (a*2 ^ b.toNat))):=by
 intro call aQ S H ax aH;unfold cL e3;simp only[aj];show l6 K.P _ .shl t (ba S.T H x) (ba S.T H y)=_;rw[dg ax H ab,dg ax H aB];show(bif mi k a0 then jG H k a b _ .shl else _)=_;rw[lx,dB];have key:fk K.P S.T H o=some (.val (.int k (k.wrap (a*2 ^ b.toNat))) H):=by
  refine pM ax (by rw[aj];rfl) ab aB rfl rfl ?_ rfl;unfold execOp;simp only[aj];rw[hS ax H ab,hS ax H aB];have aF:fc K.P (eqGuard .shl t x y (.int k a) (.int a0 b))=some ():=rfl;have iy:binOp .shl t (.int k a) (.int a0 b)=pure (.int k (k.wrap (a*2 ^ b.toNat))):=by
   simp[binOp,Op.shift,show ¬b<0 by omega,gn (show b.toNat<=k.bits by omega)]
  rw[gB (a:=.int k (k.wrap (a*2 ^ b.toNat)))]
  ·rfl
  rw[gB aF,iy];rfl
 show orElse (fk K.P S.T H o) _=_;rw[key];rfl
theorem s0{t dH:TypeId}{x y:Operand}{k a0:IntKind}{a b:Int}(aj:o.op=.binOp .shl t x y dH)(ab:bT l x=some (.int k a))(aB:bT l y=some (.int a0 b))(aO:0<=b)(ad:b<=k.bits):c5 K B o n ds l m J (.int k (k.wrap (a*2 ^ b.toNat))):=by
 cases lx:mi k a0 with
 |false=>exact apL aj ab aB lx aO ad
 |true=>
  obtain rfl:k=a0:=by revert lx;cases k<;>cases a0<;>intro lx<;>first|rfl|cases lx
  intro call aQ S H ax aH;unfold cL e3;simp only[aj];show l6 K.P _ .shl t (ba S.T H x) (ba S.T H y)=_;rw[dg ax H ab,dg ax H aB];show(bif mi k k then jG H k a b _ .shl else _)=_;rw[lx,cv];have key:fk K.P S.T H o=some (.val (.int k (k.wrap (a*2 ^ b.toNat))) H):=by
   refine pM ax (by rw[aj];rfl) ab aB rfl rfl ?_ rfl;unfold execOp;simp only[aj];rw[hS ax H ab,hS ax H aB];have aF:fc K.P (eqGuard .shl t x y (.int k a) (.int k b))=some ():=rfl;have iy:binOp .shl t (.int k a) (.int k b)=pure (.int k (k.wrap (a*2 ^ b.toNat))):=by
    simp[binOp,Op.shift,show ¬b<0 by omega,gn (show b.toNat<=k.bits by omega)]
   rw[gB (a:=.int k (k.wrap (a*2 ^ b.toNat)))]
   ·rfl
   rw[gB aF,iy];rfl
  exact(show jG H k a b _ .shl=_ from key)
theorem apM{t dH:TypeId}{x y:Operand}{k a0:IntKind}{a b:Int}(aj:o.op=.binOp .shr t x y dH)(ab:bT l x=some (.int k a))(aB:bT l y=some (.int a0 b))(lx:mi k a0=false)(aO:0<=b)(ad:b<=k.bits):c5 K B o n ds l m J (.int k (a.fdiv (2 ^ b.toNat))):=by
 intro call aQ S H ax aH;unfold cL e3;simp only[aj];show l6 K.P _ .shr t (ba S.T H x) (ba S.T H y)=_;rw[dg ax H ab,dg ax H aB];show(bif mi k a0 then jG H k a b _ .shr else _)=_;rw[lx,dB];have key:fk K.P S.T H o=some (.val (.int k (a.fdiv (2 ^ b.toNat))) H):=by
  refine pM ax (by rw[aj];rfl) ab aB rfl rfl ?_ rfl;unfold execOp;simp only[aj];rw[hS ax H ab,hS ax H aB];have aF:fc K.P (eqGuard .shr t x y (.int k a) (.int a0 b))=some ():=rfl;have iy:binOp .shr t (.int k a) (.int a0 b)=pure (.int k (a.fdiv (2 ^ b.toNat))):=by
   simp[binOp,Op.shift,show ¬b<0 by omega,gn (show b.toNat<=k.bits by omega)]
  rw[gB (a:=.int k (a.fdiv (2 ^ b.toNat)))]
  ·rfl
  rw[gB aF,iy];rfl
 show orElse (fk K.P S.T H o) _=_;rw[key];rfl
theorem xY{t dH:TypeId}{x y:Operand}{k a0:IntKind}{a b:Int}(aj:o.op=.binOp .shr t x y dH)(ab:bT l x=some (.int k a))(aB:bT l y=some (.int a0 b))(aO:0<=b)(ad:b<=k.bits):c5 K B o n ds l m J (.int k (a.fdiv (2 ^ b.toNat))):=by
 cases lx:mi k a0 with
 |false=>exact apM aj ab aB lx aO ad
 |true=>
  obtain rfl:k=a0:=by revert lx;cases k<;>cases a0<;>intro lx<;>first|rfl|cases lx
  intro call aQ S H ax aH;unfold cL e3;simp only[aj];show l6 K.P _ .shr t (ba S.T H x) (ba S.T H y)=_;rw[dg ax H ab,dg ax H aB];show(bif mi k k then jG H k a b _ .shr else _)=_;rw[lx,cv];have key:fk K.P S.T H o=some (.val (.int k (a.fdiv (2 ^ b.toNat))) H):=by
   refine pM ax (by rw[aj];rfl) ab aB rfl rfl ?_ rfl;unfold execOp;simp only[aj];rw[hS ax H ab,hS ax H aB];have aF:fc K.P (eqGuard .shr t x y (.int k a) (.int k b))=some ():=rfl;have iy:binOp .shr t (.int k a) (.int k b)=pure (.int k (a.fdiv (2 ^ b.toNat))):=by
    simp[binOp,Op.shift,show ¬b<0 by omega,gn (show b.toNat<=k.bits by omega)]
   rw[gB (a:=.int k (a.fdiv (2 ^ b.toNat)))]
   ·rfl
   rw[gB aF,iy];rfl
  exact(show jG H k a b _ .shr=_ from key)
end
end
end Go.Opn
namespace Go.Opn
noncomputable section
structure lN (u bI v1 v0 q r:Nat):Prop where
 e:q*v1+r=u
 lt:u*4294967296+bI<(q+1)*(v1*4294967296+v0)
theorem lN.start{u bI v1 v0:Nat}(aO:bI<4294967296)(az:0<v1):lN u bI v1 v0 (u / v1) (u % v1):=by
 refine⟨by rw[dz];exact lR u v1,?_⟩
 have h:u+1<=(u / v1+1)*v1:=by
  rw[c3,iL,dz]
  have:=lR u v1
  have:=fJ u az
  omega
 have:=e0 4294967296 h
 rw[cS,<-fi]
 rw[c3] at this
 have aV:0<=(u / v1+1)*v0:=ep _
 omega
theorem lN.less{u bI v1 v0 q r:Nat}(h:lN u bI v1 v0 q r)(hu:u<v1*4294967296+v0)(yV:bI<4294967296)(aO:v0<4294967296)(av:r<4294967296)(aJ:4294967296<=q\/r*4294967296+bI<q*v0):lN u bI v1 v0 (q -1) (r+v1)/\1<=q:=by
 have bS:1<=q:=by
  rcases aJ with c|c
  ·omega
  ·rcases jj q with k|k
   ·rw[k] at c;omega
   ·exact k
 obtain⟨p,rfl⟩:∃p,q=p+1:=⟨q -1,by omega⟩
 refine⟨⟨?_,?_⟩,bS⟩
 ·have:=h.e
  rw[c3] at this
  rw[ld]
  omega
 ·rw[ld]
  rcases aJ with c|c
  ·have ad:4294967296*(v1*4294967296+v0)<=(p+1)*(v1*4294967296+v0):=e0 _ c
   have af:(u+1)*4294967296<=(v1*4294967296+v0)*4294967296:=e0 _ hu
   have:=h.lt
   rw[c3] at af
   omega
  ·have e:=h.e
   obtain⟨q,qs⟩:∃q,q=p+1:=⟨_,rfl⟩
   rw[<-qs] at e c ⊢
   rw[cS q,<-fi q v1]
   have ad:u*4294967296=q*v1*4294967296+r*4294967296:=by rw[<-e,c3]
   rw[ad,B8]
   exact Nat.add_lt_add_left c _
theorem lN.done{u bI v1 v0 q r:Nat}(h:lN u bI v1 v0 q r)(aJ:q*v0<=r*4294967296+bI):(u*4294967296+bI) / (v1*4294967296+v0)=q/\(u*4294967296+bI) % (v1*4294967296+v0)=u*4294967296+bI -q*(v1*4294967296+v0)/\q*(v1*4294967296+v0)<=u*4294967296+bI:=by
 have ad:q*(v1*4294967296+v0)<=u*4294967296+bI:=by
  rw[cS q,<-fi q v1]
  have ad:u*4294967296=q*v1*4294967296+r*4294967296:=by rw[<-h.e,c3]
  omega
 exact⟨(xJ ad h.lt).1,(xJ ad h.lt).2,ad⟩
theorem lN.T1{u bI v1 v0 q r:Nat}(h:lN u bI v1 v0 q r)(bS:q<=4294967296)(av:4294967296<=r)(aO:v0<4294967296):q*v0<=r*4294967296+bI:=by
 have ad:q*v0<=4294967296*v0:=e0 _ bS
 have af:4294967296*4294967296<=r*4294967296:=r1 av (bX _)
 omega
theorem lN.ao8{u v1 v0 b:Nat}(hu:u<v1*b+v0)(az:b<=v1*2)(aO:v0<b):u<(b+2)*v1:=by
 rw[c3,dz b,dz 2]
 exact zR hu (Nat.add_lt_add_left (iJ aO az) _)
theorem lN.top{u v1 v0:Nat}(hu:u<v1*4294967296+v0)(az:2147483648<=v1)(aO:v0<4294967296):u / v1<=4294967297:=by
 have h:u<4294967298*v1:=lN.ao8 hu (by omega) aO
 have:u / v1<4294967298:=(mV (by omega)).2 h
 omega
theorem aeC{c4 bI V b:Nat}(jX:0<V):(c4*b+bI) / V=c4 / V*b+(c4 % V*b+bI) / V/\(c4*b+bI) % V=(c4 % V*b+bI) % V:=by
 have e:c4*b+bI=V*(c4 / V*b)+(c4 % V*b+bI):=by
  conv=>lhs;rw[<-lR c4 V]
  rw[c3,fi,B8]
 constructor
 ·rw[e,Th jX]
 ·rw[e,Nat.mul_add_mod]
theorem aeB{c4 bI V:Nat}(jX:0<V):
 (c4*4294967296+bI) / V=c4 / V*4294967296+(c4 % V*4294967296+bI) / V/\(c4*4294967296+bI) % V=(c4 % V*4294967296+bI) % V:=aeC jX
theorem Nq{N d s:Nat}(ag:0<s):N*s / (d*s)=N / d/\N*s % (d*s) / s=N % d:=by
 refine⟨IX _ _ ag,?_⟩
 rw[Ti,tc _ ag]
theorem anS{H L k:Nat}(hk:k<=64)(bB:L<18446744073709551616):(H*18446744073709551616+L)*2 ^ k=(H*2 ^ k+L / 2 ^ (64 -k))*18446744073709551616+L*2 ^ k % 18446744073709551616:=by
 have e:(18446744073709551616:Nat)=2 ^ (64 -k)*2 ^ k:=by rw[<-oB,yd hk]
 have ad:=lR (L*2 ^ k) 18446744073709551616
 have af:L*2 ^ k / 18446744073709551616=L / 2 ^ (64 -k):=by
  rw[e,IX _ _ (lS k)]
 rw[af] at ad
 rw[c3,c3]
 have cw:H*18446744073709551616*2 ^ k=H*2 ^ k*18446744073709551616:=by ac_rfl
 have ed:L / 2 ^ (64 -k)*18446744073709551616=18446744073709551616*(L / 2 ^ (64 -k)):=dz _ _
 omega
theorem Ri{a b k:Nat}(h:b<2 ^ k):a*2 ^ k ||| b=a*2 ^ k+b:=by
 rw[dz,Nat.two_pow_add_eq_or_of_lt h]
end
end Go.Opn

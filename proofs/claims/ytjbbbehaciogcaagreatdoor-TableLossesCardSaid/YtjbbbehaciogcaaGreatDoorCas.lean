/- A part of the proof of TableLosses. -/
import Derived.Test.YtjbbbehaciogcaaGreatDoorCal
import Derived.Test.YtjbbbehaciogcaaGreatDoorCar
import Derived.Test.YtjbbbehaciogcaaGreatDoorCao
set_option linter.unusedVariables false
namespace Go.Opn
noncomputable section
def a5:List Nat->Nat
 |[]=>0
 |x::l=>x+18446744073709551616*a5 l
def okW(l:List Nat):Prop:=∀x∈l,x<18446744073709551616
def zh(l:List Nat):Prop:=okW l/\∀x,l.getLast?=some x->x≠0
def aO(n:Nat):List Nat:=if h:n=0 then[] else n % 18446744073709551616::aO (n / 18446744073709551616)
termination_by n
decreasing_by omega
theorem sk:aO 0=[]:=by unfold aO;rfl
theorem w2{n:Nat}(h:n≠0):aO n=n % 18446744073709551616::aO (n / 18446744073709551616):=by rw[aO];rw[dif_neg h]
theorem kd:∀n:Nat,a5 (aO n)=n:=by
 intro n
 induction n using Nat.strongRecOn with
 |_ n aP=>
  by_cases h:n=0
  ·subst h;rw[sk];rfl
  ·rw[w2 h]
   show n % 18446744073709551616+18446744073709551616*a5 (aO (n / 18446744073709551616))=n
   rw[aP _ (by omega)];omega
theorem n9:∀n:Nat,okW (aO n):=by
 intro n
 induction n using Nat.strongRecOn with
 |_ n aP=>
  by_cases h:n=0
  ·subst h;rw[sk];intro x aa;cases aa
  ·rw[w2 h]
   intro x aa
   rcases gj.1 aa with rfl|aa
   ·omega
   ·exact aP _ (by omega) x aa
theorem Oi:∀(n:Nat) (x:Nat),(aO n).getLast?=some x->x≠0:=by
 intro n
 induction n using Nat.strongRecOn with
 |_ n aP=>
  intro x aa
  by_cases h:n=0
  ·subst h;rw[sk] at aa;cases aa
  ·rw[w2 h] at aa
   by_cases ae:n / 18446744073709551616=0
   ·rw[ae,sk] at aa
    have aa:n % 18446744073709551616=x:=by simpa using aa
    omega
   ·rw[w2 ae,ON,<-w2 ae] at aa
    exact aP _ (by omega) x aa
theorem XC(n:Nat):zh (aO n):=⟨n9 n,Oi n⟩
theorem okW.tail{x:Nat}{l:List Nat}(h:okW (x::l)):okW l:=fun y ap=>h y (.tail _ ap)
theorem Xt{x:Nat}{l:List Nat}(h:zh (x::l)):zh l:=⟨h.1.tail,fun y ap=>by
 cases l with
 |nil=>cases ap
 |cons z l=>exact h.2 y (by rw[ON];exact ap)⟩
theorem aeQ:∀{l:List Nat},zh l->a5 l=0->l=[]
 |[],_,_=>rfl
 |x::l,h,aR=>by
  have aR:x+18446744073709551616*a5 l=0:=aR
  have:=aeQ (Xt h) (by omega)
  subst this
  exact absurd (show x=0 by omega) (h.2 x rfl)
theorem LA:∀{l:List Nat},zh l->l=aO (a5 l)
 |[],_=>by show[]=aO 0;rw[sk]
 |x::l,h=>by
  have aa:=h.1 x (.head _)
  have aP:=LA (Xt h)
  have aE:a5 (x::l)≠0:=fun q=>by have:=aeQ h q;cases this
  rw[w2 aE]
  have ax:a5 (x::l) % 18446744073709551616=x:=by show(x+18446744073709551616*a5 l) % 18446744073709551616=x;omega
  have aS:a5 (x::l) / 18446744073709551616=a5 l:=by show(x+18446744073709551616*a5 l) / 18446744073709551616=a5 l;omega
  rw[ax,aS,<-aP]
theorem u7:∀(a b:List Nat),a5 (a++b)=a5 a+18446744073709551616 ^ a.length*a5 b
 |[],b=>by show a5 b=0+1*a5 b;omega
 |x::a,b=>by
  show x+18446744073709551616*a5 (a++b)=x+18446744073709551616*a5 a+18446744073709551616 ^ (a.length+1)*a5 b
  rw[u7 a b,cL,fP,fy,DL,rE]
theorem Oc(x:Nat):a5 [x]=x:=by show x+18446744073709551616*0=x;omega
theorem sj:∀{l:List Nat},okW l->a5 l<18446744073709551616 ^ l.length
 |[],_=>by decide
 |x::l,h=>by
  have aP:=sj h.tail
  have aa:=h x (.head _)
  show x+18446744073709551616*a5 l<18446744073709551616 ^ (l.length+1)
  rw[fP]
  omega
theorem aeP{l:List Nat}(h:zh l)(aE:l≠[]):18446744073709551616 ^ (l.length -1)<=a5 l:=by
 have e:=afH aE
 have aR:l.getLast aE≠0:=h.2 _ (afM aE)
 rw[<-e,u7,Oc,eX,zl,oo]
 have:18446744073709551616 ^ l.dropLast.length*1<=18446744073709551616 ^ l.dropLast.length*l.getLast aE:=hI _ (by omega)
 omega
theorem lz{l:List Nat}{i x:Nat}(h:l[i]?=some x):a5 (l.take (i+1))=a5 (l.take i)+18446744073709551616 ^ i*x:=by
 have ak:=(ff.1 h).1
 rw[lD,h,Wt,u7,Oc,eA,g6 (by omega)]
theorem F6{l:List Nat}{i x:Nat}(h:l[i]?=some x):a5 (l.drop i)=x+18446744073709551616*a5 (l.drop (i+1)):=by
 have ak:=(ff.1 h).1
 have aa:l[i]=x:=by rw[ey ak] at h;injection h
 rw[AZ ak,aa];rfl
theorem Dk(l:List Nat)(i:Nat)(ak:i<=l.length):a5 l=a5 (l.take i)+18446744073709551616 ^ i*a5 (l.drop i):=by
 have:=u7 (l.take i) (l.drop i)
 rwa [Gp,eA,g6 ak] at this
theorem Di{l:List Nat}{i x y:Nat}(h:l[i]?=some x):a5 (l.set i y)+18446744073709551616 ^ i*x=a5 l+18446744073709551616 ^ i*y:=by
 have ak:=(ff.1 h).1
 have ax:=Dk l i (by omega)
 have aS:=Dk (l.set i y) i (by rw[im];omega)
 rw[KO (bU i),F6 (i:=i) (x:=y) (by rw[mS,aV rfl,aV ak]),DE (by omega)] at aS
 rw[F6 h] at ax
 rw[ax,aS,cL,cL]
 omega
theorem sc{l:List Nat}{i y:Nat}(h:okW l)(ap:y<18446744073709551616):okW (l.set i y):=fun x aa=>by
 rcases Wb aa with q|q
 ·exact h x q
 ·omega
theorem Jv{a b:List Nat}(ad:okW a)(ae:okW b):okW (a++b):=fun x aa=>by
 rcases nh.1 aa with q|q
 ·exact ad x q
 ·exact ae x q
theorem th{l:List Nat}{i:Nat}(h:okW l):okW (l.take i):=fun x aa=>h x (OQ aa)
theorem yK{l:List Nat}{i x:Nat}(h:okW l)(aa:l[i]?=some x):x<18446744073709551616:=h x (et aa)
theorem Aq{n:Nat}:okW (List.replicate n 0):=fun x aa=>by rw[OK aa];decide
theorem Oe:∀n:Nat,a5 (List.replicate n 0)=0
 |0=>rfl
 |n+1=>by rw[List.replicate_succ];show 0+18446744073709551616*a5 (List.replicate n 0)=0;rw[Oe n]
theorem awI{a b:List Nat}(aF:okW a)(ai:zh b)(h:a.length<b.length):a5 a<a5 b:=by
 have ad:=sj aF
 have ae:=aeP ai (fun q=>by rw[q] at h;exact Gu _ h)
 have aD:18446744073709551616 ^ a.length<=18446744073709551616 ^ (b.length -1):=mV (by decide) (by omega)
 omega
theorem awJ{a b:List Nat}{i x y:Nat}(aF:okW a)(aa:a[i]?=some x)(ap:b[i]?=some y)(au:a.drop (i+1)=b.drop (i+1))(h:x<y):a5 a<a5 b:=by
 have apl:=(ff.1 aa).1
 have apm:=(ff.1 ap).1
 have ax:=Dk a (i+1) (by omega)
 have aS:=Dk b (i+1) (by omega)
 rw[lz aa,au] at ax
 rw[lz ap] at aS
 have ad:=sj (th (i:=i) aF)
 rw[eA,g6 (by omega)] at ad
 have ae:18446744073709551616 ^ i*(x+1)<=18446744073709551616 ^ i*y:=hI _ h
 rw[cL,ha] at ae
 generalize 18446744073709551616 ^ (i+1)*a5 (b.drop (i+1))=R at ax aS
 generalize 18446744073709551616 ^ i*x=X at ax ae
 generalize 18446744073709551616 ^ i*y=Y at aS ae
 omega
end
end Go.Opn
set_option maxRecDepth 100000
set_option maxHeartbeats 4000000
set_option linter.unusedSimpArgs false
namespace Go.Opn
noncomputable section
open Go.Cre Go.RowKit Go.Proofs
section
variable {Q:c7 Tryz.prog}{g0:Nat}{B:dv}{o:Oper}{n:Nat}{ds:ee}{l:List (Nat×Value)}{m:aN}{J:aj}
theorem adf{a:Nat}{cells:List Value}(h:mq m J a cells:=by first|exact .ei (by assumption)|exact .own (by repeat first|exact .head _|refine .tail _ ?_|refine ki _ ?_)|exact .opn (by repeat first|exact .head _|refine .tail _ ?_|refine ki _ ?_)):mq m J a cells:=h
theorem V.aaK{t:TypeId}{x:Operand}{a off:Nat}{cells:List Value}{v:Value}(ah:o.op=.load t x:=by exact rfl) (aa:bJ l x=some (.pointer (some ⟨a,off,none⟩)):=by exact rfl) (ao:mq m J a cells:=by exact adf) (av:nn (aU Q g0).P t cells off=some v:=by exact gR (fz rfl) (by first|rfl|assumption)):cY (aU Q g0) B o n ds l m J (v):=ik ah aa ao av
theorem V.Ts{t:TypeId}{x:Operand}{a off:Nat}{cells:List Value}{v:Value}(ah:o.op=.load t x:=by exact rfl) (aa:bJ l x=some (.pointer (some ⟨a,off,none⟩)):=by exact rfl) (ao:mq m J a cells:=by exact adf) (av:nn (aU Q g0).P t cells off=some v:=by exact wP (fz rfl) (by first|rfl|assumption)):cY (aU Q g0) B o n ds l m J (v):=ik ah aa ao av
end
theorem dD.at{α:Type}{J:aj}{e:TypeId}{sz n c:Nat}{b:Option Addr}{R:α->List Value->Prop}{xs:List α}(h:dD J e sz R (.slice b n c) xs):n=xs.length/\(0<xs.length->∃a off cells bD,b=some ⟨a,off,none⟩/\J a=some (cells,bD)/\
 ∀i:Int,0<=i->i<xs.length->∃x cs,xs[i.toNat]?=some x/\takeN sz (pY (off+i.toNat*sz) cells)=some cs/\(∀k v,k<sz->nth cs k=some v->nth cells (off+i.toNat*sz+k)=some v)/\R x cs):=by
 obtain⟨ad,ae⟩:=h.get;refine⟨ad,fun aw=>?_⟩;obtain⟨a,off,cells,bD,aW,aT,bo⟩:=ae aw;refine⟨a,off,cells,bD,aW,aT,fun i i0 i1=>?_⟩;have aa:=ey (l:=xs) (i:=i.toNat) I;obtain⟨cs,bb,br⟩:=bo _ _ aa;rw[gG] at bb;refine⟨_,cs,aa,bb,fun k v hk av=>?_,br⟩;obtain⟨q,_,_⟩:=F0 bb;rw[lT] at av ⊢;rw[q,xO,jY,aV hk,o0] at av;exact av
theorem mq.cons{m:aN}{J:aj}{a:Nat}{cells:List Value}{x:Nat×dI}(h:mq m J a cells):mq (x::m) J a cells:=by
 cases h with
 |own h=>exact .own (.tail _ h)
 |opn h=>exact .opn (.tail _ h)
 |ei h=>exact .ei h
theorem mq.sub{m m':aN}{J:aj}{a:Nat}{cells:List Value}(h:mq m J a cells)(hs:∀x∈m,x∈m'):mq m' J a cells:=by
 cases h with
 |own h=>exact .own (hs _ h)
 |opn h=>exact .opn (hs _ h)
 |ei h=>exact .ei h
section
variable {Q:c7 Tryz.prog}{g0:Nat}{J:aj}
theorem iL.wR{b:Option Addr}{n c:Nat}{l:List Int}(h:iL J (.slice b n c) l):0<l.length->∃a off cells e,b=some ⟨a,off,none⟩/\J a=some (cells,e)/\∀i:Nat,i<l.length->∃x,l[i]?=some x/\nth cells (off+i*1)=some (.int .i64 x):=fun aw=>by
 obtain⟨_,_,aD⟩:=h.get;obtain⟨a,off,cells,e,a6,eM,fH⟩:=aD aw;refine⟨a,off,cells,e,a6,eM,fun i ak=>?_⟩;have:=fH i I I;rwa [gG] at this
end
section
variable {K:dR}{B:dv}{o:Oper}{n:Nat}{ds:ee}{l:List (Nat×Value)}{m:aN}{J:aj}
theorem awa{t dH:TypeId}{x y:Operand}{k:IntKind}{a b:Int}(ah:o.op=.binOp .and t x y dH)(aa:bJ l x=some (.int k a))(ap:bJ l y=some (.int k b)):cY K B o n ds l m J (.int k (k.wrap (BitVec.ofInt k.bits a &&& BitVec.ofInt k.bits b).toNat)):=by
 intro call aJ S H al aB;unfold cz e4;simp only[ah];show lU K.P _ .and t (a3 S.T H x) (a3 S.T H y)=_;rw[de al H aa,de al H ap];show(bif mD k k then jJ H k a b _ .and else _)=_;rw[Fj,cd];have key:fl K.P S.T H o=some (.val (.int k (k.wrap (BitVec.ofInt k.bits a &&& BitVec.ofInt k.bits b).toNat)) H):=by
  refine pt al (by rw[ah];rfl) aa ap rfl rfl ?_ rfl;unfold execOp;simp only[ah];rw[hK al H aa,hK al H ap];have ay:eR K.P (eqGuard .and t x y (.int k a) (.int k b))=some ():=rfl;have kr:binOp .and t (.int k a) (.int k b)=pure (.int k (k.wrap (BitVec.ofInt k.bits a &&& BitVec.ofInt k.bits b).toNat)):=by simp[binOp,Op.intBits]
  rw[eL (a:=.int k (k.wrap (BitVec.ofInt k.bits a &&& BitVec.ofInt k.bits b).toNat))]
  ·rfl
  rw[eL ay,kr];rfl
 exact(show jJ H k a b _ .and=_ from key)
end
def cJ(J:aj)(v:Value)(x:Nat):Prop:=c9 .u64 J v (aO x)
theorem cJ.mono{J af:aj}(hle:J.le af){v:Value}{x:Nat}(h:cJ J v x):cJ af v x:=c9.mono hle h
def xh(x n:Nat):Prop:=n=(aO x).length
theorem xh.z{x n:Nat}(h:xh x n)(aE:n=0):x=0:=by
 by_cases q:x=0
 ·exact q
 ·have h:n=(aO x).length:=h
  rw[w2 q,kR] at h;omega
theorem xh.iA{x n:Nat}(h:xh x n)(aa:x=0):n=0:=by subst aa;exact h.trans (by rw[sk];rfl)
theorem cJ.bN{J:aj}{v:Value}{x:Nat}(h:cJ J v x):∃b n c,v=.slice b n c/\addrEq b b=true/\xh x n/\True:=by
 have h:c9 .u64 J v (aO x):=h;obtain⟨b,c,rfl⟩:=h.form;exact⟨b,_,c,rfl,h.addr,rfl,trivial⟩
theorem xh.p{x n:Nat}(h:xh x n)(aa:x≠0):0<n:=tE fun q=>aa (h.z q)
theorem xh.arI{x n:Nat}(h:xh x n)(aa:n≠0):x≠0:=fun q=>aa (h.iA q)
theorem cJ.bA{J:aj}{v:Value}{x:Nat}(h:cJ J v x):∃b c,v=.slice b (aO x).length c/\addrEq b b=true:=by
 have h:c9 .u64 J v (aO x):=h;obtain⟨b,c,rfl⟩:=h.form;exact⟨b,c,rfl,h.addr⟩
theorem cJ.zero{J:aj}{b:Option Addr}{c:Nat}(h:∃e,fR J e 1 (.slice b 0 c) 0 []):cJ J (.slice b 0 c) 0:=by
 obtain⟨e,h⟩:=h;show c9 .u64 J _ (aO 0);rw[sk];exact⟨e,h⟩
theorem cJ.nil{J:aj}:cJ J (.slice none 0 0) 0:=.zero ⟨3,.nil⟩
theorem cJ.row{J:aj}{a n cap x:Nat}{l:List Nat}{e:TypeId}(aE:l.take n=aO x)(aq:n<=l.length)(aC:n<=cap)(gm:cap<cO)(h:J a=some (cj .u64 l,e)):cJ J (.slice (some ⟨a,0,none⟩) n cap) x:=by
 have:=c9.row aq aC gm h;rw[aE] at this;exact this
end
end Go.Opn
set_option maxHeartbeats 8000000
namespace Go.Opn
noncomputable section
open Go.Cre Go.RowKit Go.Proofs
section
variable {K:dR}{B:dv}{o:Oper}{n:Nat}{ds:ee}{l:List (Nat×Value)}{m:aN}{J:aj}
theorem awv{t dH:TypeId}{x y:Operand}{k:IntKind}{a b:Int}(ah:o.op=.binOp .or t x y dH)(aa:bJ l x=some (.int k a))(ap:bJ l y=some (.int k b)):cY K B o n ds l m J (.int k (k.wrap (BitVec.ofInt k.bits a ||| BitVec.ofInt k.bits b).toNat)):=by
 intro call aJ S H al aB;unfold cz e4;simp only[ah];show lU K.P _ .or t (a3 S.T H x) (a3 S.T H y)=_;rw[de al H aa,de al H ap];show(bif mD k k then jJ H k a b _ .or else _)=_;rw[Fj,cd];have key:fl K.P S.T H o=some (.val (.int k (k.wrap (BitVec.ofInt k.bits a ||| BitVec.ofInt k.bits b).toNat)) H):=by
  refine pt al (by rw[ah];rfl) aa ap rfl rfl ?_ rfl;unfold execOp;simp only[ah];rw[hK al H aa,hK al H ap];have ay:eR K.P (eqGuard .or t x y (.int k a) (.int k b))=some ():=rfl;have kr:binOp .or t (.int k a) (.int k b)=pure (.int k (k.wrap (BitVec.ofInt k.bits a ||| BitVec.ofInt k.bits b).toNat)):=by simp[binOp,Op.intBits]
  rw[eL (a:=.int k (k.wrap (BitVec.ofInt k.bits a ||| BitVec.ofInt k.bits b).toNat))]
  ·rfl
  rw[eL ay,kr];rfl
 exact(show jJ H k a b _ .or=_ from key)
theorem awx{t dH:TypeId}{x y:Operand}{k aT:IntKind}{a b:Int}(ah:o.op=.binOp .shl t x y dH)(aa:bJ l x=some (.int k a))(ap:bJ l y=some (.int aT b))(mw:mD k aT=false)(aR:0<=b)(ad:b<=k.bits):cY K B o n ds l m J (.int k (k.wrap (a*2 ^ b.toNat))):=by
 intro call aJ S H al aB;unfold cz e4;simp only[ah];show lU K.P _ .shl t (a3 S.T H x) (a3 S.T H y)=_;rw[de al H aa,de al H ap];show(bif mD k aT then jJ H k a b _ .shl else _)=_;rw[mw,dK];have key:fl K.P S.T H o=some (.val (.int k (k.wrap (a*2 ^ b.toNat))) H):=by
  refine pt al (by rw[ah];rfl) aa ap rfl rfl ?_ rfl;unfold execOp;simp only[ah];rw[hK al H aa,hK al H ap];have ay:eR K.P (eqGuard .shl t x y (.int k a) (.int aT b))=some ():=rfl;have kr:binOp .shl t (.int k a) (.int aT b)=pure (.int k (k.wrap (a*2 ^ b.toNat))):=by
   simp[binOp,Op.shift,show ¬b<0 by omega,g6 (show b.toNat<=k.bits by omega)]
  rw[eL (a:=.int k (k.wrap (a*2 ^ b.toNat)))]
  ·rfl
  rw[eL ay,kr];rfl
 show orElse (fl K.P S.T H o) _=_;rw[key];rfl
theorem awy{t dH:TypeId}{x y:Operand}{k aT:IntKind}{a b:Int}(ah:o.op=.binOp .shl t x y dH)(aa:bJ l x=some (.int k a))(ap:bJ l y=some (.int aT b))(aR:0<=b)(ad:b<=k.bits):cY K B o n ds l m J (.int k (k.wrap (a*2 ^ b.toNat))):=by
 cases mw:mD k aT with
 |false=>exact awx ah aa ap mw aR ad
 |true=>
  obtain rfl:k=aT:=by revert mw;cases k<;>cases aT<;>intro mw<;>first|rfl|cases mw
  intro call aJ S H al aB;unfold cz e4;simp only[ah];show lU K.P _ .shl t (a3 S.T H x) (a3 S.T H y)=_;rw[de al H aa,de al H ap];show(bif mD k k then jJ H k a b _ .shl else _)=_;rw[mw,cd];have key:fl K.P S.T H o=some (.val (.int k (k.wrap (a*2 ^ b.toNat))) H):=by
   refine pt al (by rw[ah];rfl) aa ap rfl rfl ?_ rfl;unfold execOp;simp only[ah];rw[hK al H aa,hK al H ap];have ay:eR K.P (eqGuard .shl t x y (.int k a) (.int k b))=some ():=rfl;have kr:binOp .shl t (.int k a) (.int k b)=pure (.int k (k.wrap (a*2 ^ b.toNat))):=by
    simp[binOp,Op.shift,show ¬b<0 by omega,g6 (show b.toNat<=k.bits by omega)]
   rw[eL (a:=.int k (k.wrap (a*2 ^ b.toNat)))]
   ·rfl
   rw[eL ay,kr];rfl
  exact(show jJ H k a b _ .shl=_ from key)
theorem awz{t dH:TypeId}{x y:Operand}{k aT:IntKind}{a b:Int}(ah:o.op=.binOp .shr t x y dH)(aa:bJ l x=some (.int k a))(ap:bJ l y=some (.int aT b))(mw:mD k aT=false)(aR:0<=b)(ad:b<=k.bits):cY K B o n ds l m J (.int k (a.fdiv (2 ^ b.toNat))):=by
 intro call aJ S H al aB;unfold cz e4;simp only[ah];show lU K.P _ .shr t (a3 S.T H x) (a3 S.T H y)=_;rw[de al H aa,de al H ap];show(bif mD k aT then jJ H k a b _ .shr else _)=_;rw[mw,dK];have key:fl K.P S.T H o=some (.val (.int k (a.fdiv (2 ^ b.toNat))) H):=by
  refine pt al (by rw[ah];rfl) aa ap rfl rfl ?_ rfl;unfold execOp;simp only[ah];rw[hK al H aa,hK al H ap];have ay:eR K.P (eqGuard .shr t x y (.int k a) (.int aT b))=some ():=rfl;have kr:binOp .shr t (.int k a) (.int aT b)=pure (.int k (a.fdiv (2 ^ b.toNat))):=by
   simp[binOp,Op.shift,show ¬b<0 by omega,g6 (show b.toNat<=k.bits by omega)]
  rw[eL (a:=.int k (a.fdiv (2 ^ b.toNat)))]
  ·rfl
  rw[eL ay,kr];rfl
 show orElse (fl K.P S.T H o) _=_;rw[key];rfl
theorem awA{t dH:TypeId}{x y:Operand}{k aT:IntKind}{a b:Int}(ah:o.op=.binOp .shr t x y dH)(aa:bJ l x=some (.int k a))(ap:bJ l y=some (.int aT b))(aR:0<=b)(ad:b<=k.bits):cY K B o n ds l m J (.int k (a.fdiv (2 ^ b.toNat))):=by
 cases mw:mD k aT with
 |false=>exact awz ah aa ap mw aR ad
 |true=>
  obtain rfl:k=aT:=by revert mw;cases k<;>cases aT<;>intro mw<;>first|rfl|cases mw
  intro call aJ S H al aB;unfold cz e4;simp only[ah];show lU K.P _ .shr t (a3 S.T H x) (a3 S.T H y)=_;rw[de al H aa,de al H ap];show(bif mD k k then jJ H k a b _ .shr else _)=_;rw[mw,cd];have key:fl K.P S.T H o=some (.val (.int k (a.fdiv (2 ^ b.toNat))) H):=by
   refine pt al (by rw[ah];rfl) aa ap rfl rfl ?_ rfl;unfold execOp;simp only[ah];rw[hK al H aa,hK al H ap];have ay:eR K.P (eqGuard .shr t x y (.int k a) (.int k b))=some ():=rfl;have kr:binOp .shr t (.int k a) (.int k b)=pure (.int k (a.fdiv (2 ^ b.toNat))):=by
    simp[binOp,Op.shift,show ¬b<0 by omega,g6 (show b.toNat<=k.bits by omega)]
   rw[eL (a:=.int k (a.fdiv (2 ^ b.toNat)))]
   ·rfl
   rw[eL ay,kr];rfl
  exact(show jJ H k a b _ .shr=_ from key)
end
def aj.join(J bu:aj):aj:=fun a=>match J a with|some x=>some x|none=>bu a
theorem aj.join_le{J bu:aj}:J.le (J.join bu):=fun a x h=>by unfold aj.join;rw[h]
theorem Inv.apK{g0:Nat}{J vj bu:aj}{m':aN}{H H':ar}(h:Inv g0 (iH [] H J) J [] H)(aR:vj.le J)(hk:Inv g0 (iH [] H vj) bu m' H'):Inv g0 (iH [] H J) (J.join bu) m' H'/\bu.le (J.join bu):=by
 have cD:∀a x,J a=some x->a<H.an:=fun a x q=>by
  obtain⟨c,e⟩:=x;obtain⟨o,f,z,s,q⟩:=h.ei a c e q;exact h.wf.lt q
 have ft:∀a,¬wz [] a:=fun a q=>absurd q (by unfold wz;exact OR);have Ig:∀a,a<H.an->H'.mem.get a=H.mem.get a:=fun a q=>hk.gn a q (ft a);have aoh:∀a c e,J.join bu a=some (c,e)->∃o f z s,H'.mem.get a=some (.row c e o f z s):=fun a c e q=>by
  unfold aj.join at q;cases fY:J a with
  |some x=>
   rw[fY] at q;injection q with q
   subst q;rw[Ig a (cD a _ fY)];exact h.ei a c e fY
  |none=>rw[fY] at q;exact hk.ei a c e q
 refine⟨⟨hk.wf,hk.bL,hk.an,hk.cy,hk.gn,hk.nB,aoh,aj.join_le,fun a x aL aG=>?_,fun a b q=>?_,fun a b q x aa=>?_,hk.gF⟩,fun a x q=>?_⟩
 ·have aL:J a=none:=aL;unfold aj.join at aG;rw[aL] at aG;refine hk.fresh a x ?_ aG;show vj a=none;cases ad:vj a with
  |none=>rfl
  |some y=>rw[aR _ _ ad] at aL;cases aL
 ·obtain⟨aW,aT,bo,cu⟩:=hk.own a b q;refine⟨aW,aT,?_,cu⟩;unfold aj.join;cases fY:J a with
  |none=>exact bo
  |some y=>
   rcases aT with k|k
   ·exact absurd (cD a y fY) (Nat.not_lt_of_le k)
   ·exact absurd k (ft a)
 ·obtain⟨aW,aT,bo⟩:=hk.opn a b q x aa;refine⟨aW,aT,?_⟩;unfold aj.join;cases fY:J x with
  |none=>exact bo
  |some y=>
   rcases aT with k|k
   ·exact absurd (cD x y fY) (Nat.not_lt_of_le k)
   ·exact absurd k (ft x)
 ·unfold aj.join;cases fY:J a with
  |none=>exact q
  |some y=>
   obtain⟨c,e⟩:=x;obtain⟨c',bD⟩:=y;obtain⟨o,f,z,s,dq⟩:=hk.ei a c e q;obtain⟨o',cF,hF,cM,c2⟩:=h.ei a c' bD fY;rw[<-Ig a (cD a _ fY),dq] at c2;injection c2 with c2
   injection c2 with ax aS
   subst ax;subst aS;rfl
section
variable {K:dR}{B:dv}{ops:List Oper}{a1:List jo}{F:List va}{E:ca}{m m':aN}{J:aj}{o:Oper}{bq:ca->aN->aj->Prop}
variable {n:Nat}{ds:ee}{l:List (Nat×Value)}{d i:Nat}
def Dw(J:aj)(f:FuncId)(hp:List Value)(dY:Value->aN->aj->Prop)(x:va):Prop:=x.f=f->x.bO=hp->x.bm=[]/\x.J.le J/\∀v m' bu cZ,x.dY v m' bu->bu.le cZ->J.le cZ->dY v m' cZ
theorem dF{J:aj}{f:FuncId}{hp:List Value}{dY:Value->aN->aj->Prop}:∀x∈([]:List va),Dw J f hp dY x:=fun x aa=>by cases aa
theorem dj{J:aj}{f:FuncId}{hp:List Value}{dY:Value->aN->aj->Prop}{h8:va}(aR:Dw J f hp dY h8)(h:∀x∈F,Dw J f hp dY x):∀x∈h8::F,Dw J f hp dY x:=fun x aa=>by
 rcases gj.1 aa with rfl|aa
 ·exact aR
 ·exact h x aa
theorem eC{J:aj}{f:FuncId}{hp:List Value}{dY:Value->aN->aj->Prop}{h8:va}(h:Nat.beq h8.f f=false):Dw J f hp dY h8:=fun aA=>by
 rw[aA,hT] at h;cases h
theorem bz.dE{c:Call}{x:Operand}{f:FuncId}{first cap:Array Value}{args hp:List Value}{dY:Value->aN->aj->Prop}
 (ak:nth ops i=some o)(ay:o.guard=none)(ah:o.op=.call c)(au:o.dst=some d)(aE:Nat.blt d n=true)(aC:c.callee=.value x)(aa:bJ l x=some (.func (.func f) first cap))(aF:h4 l c.args.toList=some args)(has:(first.toList++args)++cap.toList=hp)
 (hs:∀x∈F,Dw J f hp dY x)(bM:Fn K f hp [] J dY)(h:∀v m' af,J.le af->dY v m' af->bz K B ops a1 (⟨f,hp,[],J,dY,false⟩::F) ⟨n,ds,(d,v)::l⟩ (m'++m) af bq):bz K B ops (.bE i::a1) F ⟨n,ds,l⟩ m J bq:=by
 intro T S H cB al aB;have aw:([]++m).Perm m:=.refl _;have gJ:=aB.enter (bm:=[]) aw trivial;obtain⟨v,H',af,m',aW,aT,bo,h7⟩:∃v H' af m',jV K.Q f hp H (.returned v) H'/\Inv K.g0 (iH [] H J) af m' H'/\dY v m' af/\∀r,T f hp H=some r->r=(Ending.returned v,H'):=by
  cases BU:T f hp H with
  |none=>
   obtain⟨v,H',af,m',aW,aT,bo⟩:=bM H gJ;exact⟨v,H',af,m',aW,aT,bo,fun r q=>by cases q⟩
  |some r=>
   obtain⟨x,aa,⟨ax,aS,YJ,v,H',bu,m',tY,aW,aT,bo⟩,nv⟩:=cB _ _ _ _ BU;obtain⟨aL,aG,bt⟩:=hs x aa ax aS;rw[aL] at aT;obtain⟨Tm,Tn⟩:=gJ.apK aG aT;exact⟨v,H',_,m',aW,Tm,bt v m' bu _ bo Tn aj.join_le,fun cv q=>by injection q with q;rw[<-q];exact tY⟩
 have h6:H.an<=H'.an:=aT.an;obtain⟨cu,fm⟩:=aB.leave aw aT;obtain⟨a4,s1,s2⟩:=al.put (dst:=some d) aE v
 classical
 obtain⟨cE,dg,aH,oX,E',mE,pJ,ad,ae,aD,a6⟩:=h v m' af fm bo (fun cF PA H1=>if cF=f/\PA=hp/\H1=H then some (.returned v,H') else T cF PA H1) a4 H' (fun cF PA H1 r q=>by
  split at q
  ·rename_i e;obtain⟨rfl,rfl,rfl⟩:=e;injection q with q
   exact⟨_,.head _,⟨rfl,rfl,gJ,v,H',af,m',q.symm,aW,aT,bo⟩,fun e=>by cases e⟩
  ·obtain⟨x,aa,cv,Cd⟩:=cB _ _ _ _ q;exact⟨x,.tail _ aa,cv,fun e=>iM (Cd e) h6⟩) s2 cu
 refine⟨fun cF cb H1=>if cF=f/\cb=hp/\H1=H then some (.returned v,H') else cE cF cb H1,fun cF cb H1 r cv aL aG=>?_,aH,oX,E',mE,pJ,fun eH q=>?_,ae,aD,a6⟩
 ·dsimp only at aG
  split at aG
  ·rename_i e;obtain⟨rfl,rfl,rfl⟩:=e;injection aG with aG
   rw[h7 r aL,aG]
  ·rename_i e;exact dg cF cb H1 r cv (by rw[aQ e];exact aL) aG
 ·have hO:eH f hp H=some (.returned v,H'):=q f hp H _ (by simp only[and_self,aV]);have Cj:∀cF cb H1 r,cE cF cb H1=some r->eH cF cb H1=some r:=fun cF cb H1 r ao=>by
   by_cases e:cF=f/\cb=hp/\H1=H
   ·have:=dg cF cb H1 (.returned v,H') r (by rw[aV e]) ao;rw[this,e.1,e.2.1,e.2.2];exact hO
   ·exact q cF cb H1 r (by dsimp only;rw[aQ e];exact ao)
  show jP ops i (fun o=>lG ops (dM K.P _ _ ops a1) (one K.P _ _ ops S H o))=_;unfold jP;rw[ak];show lG ops (dM K.P _ _ ops a1) (one K.P _ _ ops S H o)=_;unfold one fT;rw[ay];show lG ops (dM K.P _ _ ops a1) (oP S H o.dst (cz K.P _ _ S H o))=_;have he:cz K.P (hJ K.Q eH) (fN K.Q gQ eH).aJ S H o=some (.val v H'):=by
   unfold cz e4;simp only[ah];show kN K.P _ c=_;unfold kN;rw[aC];show nm K.P _ _ S.T H c=_;unfold nm;rw[oB al H aF];simp only[aC];rw[de al H aa];simp only
   show(match kY K.P H (.func f) (first.toList++args) cap.toList with|some (f,hp)=>oA (hJ K.Q _ f hp H)|none=>none)=_
   unfold kY;simp only
   rw[has,Bi aW hO];rfl
  rw[he,au];show lG ops (dM K.P _ _ ops a1) (ob H' (S.put (some d) v))=_;rw[s1];exact ad eH Cj
end
section
variable {K:dR}{B:dv}{ops:List Oper}{a1:List jo}{F:List va}{E:ca}{m m':aN}{J:aj}{o:Oper}{bq:ca->aN->aj->Prop}
variable {n:Nat}{ds:ee}{l:List (Nat×Value)}{d i:Nat}
theorem bz.awG{v:Value}{Rj:Nat}{want:Bool}(ak:nth ops i=some o)(ay:lg ops o=some (Rj,want))(ai:look l Rj=some (.bool want))(au:o.dst=some d)(aE:Nat.blt d n=true)(av:cY K B o n ds l m J v)(h:bz K B ops a1 F ⟨n,ds,(d,v)::l⟩ m J bq):bz K B ops (.val i::a1) F ⟨n,ds,l⟩ m J bq:=by
 intro T S H cB al aB;obtain⟨a4,s1,s2⟩:=al.put (dst:=some d) aE v;obtain⟨cE,dg,aH,H',E',m',af,ad,ae,aD,a6⟩:=h T a4 H cB s2 aB;refine⟨cE,dg,aH,H',E',m',af,fun eH q=>?_,ae,aD,a6⟩;show jP ops i (lZ K.P _ _ ops S H (dM K.P _ _ ops a1))=_;unfold jP;rw[ak];show lZ K.P _ _ ops S H (dM K.P _ _ ops a1) o=_;unfold lZ;rw[Ex ay (al.get Rj _ ai),show(want==want)=true by cases want<;>rfl];show Dh S H o.dst (dM K.P _ _ ops a1) (cz K.P _ _ S H o)=_;rw[av _ _ S H al aB,au];show(bif Nat.beq H.an H.an then px (dM K.P _ _ ops a1) H (S.put (some d) v) else none)=_;rw[hT,cd,s1];exact ad eH q
theorem bz.Ke(ak:nth ops i=some o)(ea:∀S,Sat ⟨n,ds,l⟩ S->fT ops S.T o=some false)(au:o.dst=some d)(aE:Nat.blt d n=true)(h:bz K B ops a1 F ⟨n,ds,(d,undef)::l⟩ m J bq):bz K B ops (.val i::a1) F ⟨n,ds,l⟩ m J bq:=by
 intro T S H cB al aB;obtain⟨a4,s1,s2⟩:=al.put (dst:=some d) aE undef;obtain⟨cE,dg,aH,H',E',m',af,ad,ae,aD,a6⟩:=h T a4 H cB s2 aB;refine⟨cE,dg,aH,H',E',m',af,fun eH q=>?_,ae,aD,a6⟩;show jP ops i (lZ K.P _ _ ops S H (dM K.P _ _ ops a1))=_;unfold jP;rw[ak];show lZ K.P _ _ ops S H (dM K.P _ _ ops a1) o=_;unfold lZ;rw[ea S al];show px (dM K.P _ _ ops a1) H (S.put o.dst undef)=_;rw[au,s1];exact ad eH q
theorem bz.Ob{g:Nat}{want b:Bool}(ak:nth ops i=some o)(ay:lg ops o=some (g,want))(ai:look l g=some (.bool b))(hw:(b==want)=false)(au:o.dst=some d)(aE:Nat.blt d n=true)(h:bz K B ops a1 F ⟨n,ds,(d,undef)::l⟩ m J bq):bz K B ops (.val i::a1) F ⟨n,ds,l⟩ m J bq:=bz.Ke ak (Q4 ay ai hw) au aE h
theorem bz.Vh{g:Nat}{want:Bool}(ak:nth ops i=some o)(ay:lg ops o=some (g,want))(ai:look l g=some undef)(au:o.dst=some d)(aE:Nat.blt d n=true)(h:bz K B ops a1 F ⟨n,ds,(d,undef)::l⟩ m J bq):bz K B ops (.val i::a1) F ⟨n,ds,l⟩ m J bq:=bz.Ke ak (Q5 ay ai) au aE h
end
section
variable {Q:c7 Tryz.prog}{g0:Nat}{B:dv}{o:Oper}{n:Nat}{ds:ee}{l:List (Nat×Value)}{m:aN}{J:aj}{d:Nat}
theorem TP{p:Prop}(h:p:=by first|exact arz|exact cC some (cC (Value.int .u64) I)|exact cC some (cC (Value.int .u32) I)|exact cC some (cC (Value.int .i64) I)):p:=h
theorem Ub{p:Prop}(h:p:=by first|decide|exact ck|exact(show _<=((64:Nat):Int) from I)):p:=h
theorem ar0{p:Prop}(h:p:=by first|exact wrap_i64 I I|exact wrap_u8 I I|exact wrap_u64 I I|exact wrap_u32 I I|rfl):p:=h
theorem V.o4{v:Value}(h:cY (aU Q g0) B o n ds l m J v:=by first|exact awa rfl rfl rfl|exact awv rfl rfl rfl|exact awy rfl rfl rfl ck Ub|exact awe rfl rfl rfl rfl ck Ub|exact awA rfl rfl rfl ck Ub|exact F4 rfl rfl ar0):cY (aU Q g0) B o n ds l m J v:=h
theorem fa{ops rest:List Oper}{bq:Option (List PanicEntry)->ca->aN->aj->Prop}{t:TypeId}{z:Value}{cells:List Value}(h:∀a,W (aU Q g0) B ops rest ⟨n,ds,(d,.pointer (some ⟨a,0,none⟩))::l⟩ ((a,.row cells t)::m) J bq)(ay:o.guard=none:=by exact rfl) (ah:o.op=.alloc t:=by exact rfl) (au:o.dst=some d:=by exact rfl) (aE:Nat.blt d n=true:=by exact rfl) (aM:hA (aU Q g0).P t=some z:=by exact ad6 rfl) (aw:plain z=true:=by exact rfl) (aC:z.cells.toList=cells:=by exact rfl) (ad:cells.all fh=true:=by exact rfl):W (aU Q g0) B ops (o::rest) ⟨n,ds,l⟩ m J bq:=W.step ay (.of (axd ah au aE aM aw aC ad h))
theorem iN{ops rest:List Oper}{bq:Option (List PanicEntry)->ca->aN->aj->Prop}{t:TypeId}{x y:Operand}{a off k:Nat}{v:Value}{vs cells cells':List Value}{e:TypeId}{m':aN}(hs:gS off cells vs=some cells')(h:W (aU Q g0) B ops rest ⟨n,ds,l⟩ m' J bq)(ay:o.guard=none:=by exact rfl) (ah:o.op=.store t x y:=by exact rfl) (au:o.dst=none:=by exact rfl) (aa:bJ l x=some (.pointer (some ⟨a,off,none⟩)):=by exact rfl) (ap:bJ l y=some v:=by exact rfl) (hk:eV (aU Q g0).P t=some k:=by exact u2 rfl) (aC:v.cells.toList=vs:=by exact rfl) (aq:Nat.beq vs.length k=true:=by exact rfl) (aR:Nat.blt 0 vs.length=true:=by exact rfl) (ad:vs.all fh=true:=by first|rfl|assumption) (aw:gB m a (.row cells e) (.row cells' e) m':=by repeat first|exact .head _ _ _ _|apply gB.tail|apply gB.app):W (aU Q g0) B ops (o::rest) ⟨n,ds,l⟩ m J bq:=W.step ay (.of (AP ah au aa ap hk aC aq aR ad hs aw h))
theorem c3{cw:Exit->ca->aN->aj->Prop}{c:Code}(l':List (Nat×Value))(h:az (aU Q g0) B c ⟨n,ds,l'⟩ m J cw)(aq:lv l l':=by repeat first|exact trivial|refine⟨TP,?_⟩):az (aU Q g0) B c ⟨n,ds,l⟩ m J cw:=az.Ok aq (iZ _) h
theorem bp{e:Exit}{E:ca}{rs:List ResultVar}{vs:List Value}{zs:List Value->aN->Prop}(aw:zs vs [])(he:e=.normal\/e=.ret:=by first|exact .inl rfl|exact .inr rfl) (au:E.ds.ds=[]:=by exact rfl) (ao:mX (aU Q g0).P E m J rs vs:=by first|exact .tmp rfl .nil|exact .tmp rfl (.tmp rfl .nil)|exact .nil|exact oU .nil|exact oU (oU .nil)|exact oU (.tmp rfl .nil)|exact .tmp rfl (oU .nil)|exact .tmp rfl (.tmp rfl (.tmp rfl .nil))):(e=.normal\/e=.ret)/\E.ds.ds=[]/\∃vs m',mX (aU Q g0).P E m J rs vs/\m'.Sublist m/\zs vs m':=⟨he,au,vs,[],ao,i' _,aw⟩
theorem ja{e:Exit}{E:ca}{rs:List ResultVar}{vs:List Value}{zs:List Value->aN->Prop}(aw:zs vs m)(he:e=.normal\/e=.ret:=by first|exact .inl rfl|exact .inr rfl) (au:E.ds.ds=[]:=by exact rfl) (ao:mX (aU Q g0).P E m J rs vs:=by first|exact .tmp rfl .nil|exact .tmp rfl (.tmp rfl .nil)|exact .nil|exact oU .nil|exact oU (oU .nil)|exact oU (.tmp rfl .nil)|exact .tmp rfl (oU .nil)|exact .tmp rfl (.tmp rfl (.tmp rfl .nil))):(e=.normal\/e=.ret)/\E.ds.ds=[]/\∃vs m',mX (aU Q g0).P E m J rs vs/\m'.Sublist m/\zs vs m':=⟨he,au,vs,m,ao,iZ _,aw⟩
end
structure VX where
 d:List (Nat×Value)
 m:aN
 j:aj
 i:Prop
structure VY where
 d:List (Nat×Value)
 i:Prop
 k:Nat
section
variable {K:dR}{B:dv}{cw:Exit->ca->aN->aj->Prop}{n:Nat}{ds:ee}{l:List (Nat×Value)}{m:aN}{J:aj}
theorem az.lb{α:Type}{c:Code}(k:Nat)(r:α->VX)(ad:az K B c ⟨n,ds,l⟩ m J fun e E' m' af=>match e with
 |.normal=>∃s l',(r s).i/\E'=⟨n,ds,l'⟩/\lv l' ((r s).d++l.drop k)/\(∃j,((r s).m++j).Perm m')/\af=(r s).j
 |e=>cw e E' m' af)(ae:∀s,(r s).i->cw .normal ⟨n,ds,(r s).d++l.drop k⟩ (r s).m (r s).j):az K B c ⟨n,ds,l⟩ m J cw:=
 az.aiO k (fun s=>(r s).d) (fun s=>(r s).m) (fun s=>(r s).j) (fun s=>(r s).i) ad ae
theorem fG{α:Type}{r:α->VX}{base:List (Nat×Value)}(cM:α)(ak:(r cM).i)(hm:∃j,((r cM).m++j).Perm m:=by exact apR) (aX:J=(r cM).j:=by exact rfl) (aq:lv l ((r cM).d++base):=by repeat first|exact trivial|refine⟨TP,?_⟩):∃s l',(r s).i/\(⟨n,ds,l⟩:ca)=⟨n,ds,l'⟩/\lv l' ((r s).d++base)/\(∃j,((r s).m++j).Perm m)/\J=(r s).j:=⟨cM,l,ak,rfl,aq,hm,aX⟩
theorem az.kv{α:Type}{c:Code}{base:List (Nat×Value)}(r:α->VY)(s:α)(hs:(r s).i)
 (a7:∀s,(r s).i->az K B c ⟨n,ds,(r s).d++base⟩ m J fun e E cW bu=>match e with
  |.normal=>∃cM l,(r cM).i/\(r cM).k<(r s).k/\E=⟨n,ds,l⟩/\lv l ((r cM).d++base)/\m.Sublist cW/\bu=J
  |e=>cw e E cW bu):az K B (.loop c) ⟨n,ds,(r s).d++base⟩ m J cw:=
 az.aqD (fun s=>(r s).d) (fun s=>(r s).i) (fun s=>(r s).k) s hs a7
theorem kx{α:Type}{r:α->VY}{base:List (Nat×Value)}{h7:Nat}{cW:aN}{bu:aj}(cM:α)(ak:(r cM).i)(hm:m.Sublist cW:=by exact .refl _) (aX:bu=J:=by exact rfl) (hk:(r cM).k<h7:=by first|omega|(simp;omega)|(simp only;omega)) (aq:lv l ((r cM).d++base):=by repeat first|exact trivial|refine⟨TP,?_⟩):∃cM l',(r cM).i/\(r cM).k<h7/\(⟨n,ds,l⟩:ca)=⟨n,ds,l'⟩/\lv l' ((r cM).d++base)/\m.Sublist cW/\bu=J:=⟨cM,l,ak,hk,rfl,aq,hm,aX⟩
theorem di{base:List (Nat×Value)}{t:Nat}{v:Value}{m':aN}{af:aj}(h:look l t=some v)(hm:m'.Sublist m:=by exact .refl _) (aX:af=J:=by exact rfl) (aq:lv l base:=by repeat first|exact trivial|refine⟨rfl,?_⟩):(∃l',(⟨n,ds,l⟩:ca)=⟨n,ds,l'⟩/\lv l' ([(t,v)]++base))/\m'.Sublist m/\af=J:=⟨⟨_,rfl,⟨h,aq⟩⟩,hm,aX⟩
theorem dk{p q:Prop}(h:p)(n3:Hid p->q:=by
 intro m6;first|exact XB rfl m6.out|exact Xz rfl m6.out|exact XA rfl m6.out|exact Xy rfl m6.out):q:=n3 ⟨h⟩
end
structure vb (c:Nat):Prop where
 t:True
theorem vb.d{c:Nat}(_:vb c):vb (Nat.div c 32):=⟨trivial⟩
theorem vb.v{c:Nat}(_:vb c)(k:Nat)(_:Nat.mod c 32=k):True:=trivial
theorem vb.z{c:Nat}{p:Prop}(_:vb c)(x:p)(_:Nat.beq c 0=true):p:=x
theorem vb.g{c:Nat}(_:vb c)(_:(Nat.blt 0 (Nat.mod c 32)&&Nat.blt (Nat.mod c 32) 23)=true):True:=trivial
theorem U{p q:Prop}(c:Nat)(h:p)(n3:Hid p->vb c->q:=by
 intro m6 fI;repeat first
  |(have:=fI.g rfl
    first
       |refine' eZ ?av ?_
       |refine' KX ?av ?_
       |refine' zi rfl ?av ?_
       |refine' OB rfl ?av ?_
       |refine' af8 rfl ?av ?_
       |refine' af9 rfl ?av ?_
       |refine' bz.val rfl rfl rfl rfl ?av ?_
       |refine' bz.awG rfl rfl rfl rfl rfl ?av ?_
    case av=>
       first
       |(have:=fI.v 1 rfl;exact V.kK)
       |(have:=fI.v 2 rfl;exact V.GJ)
       |(have:=fI.v 3 rfl;exact V.iz)
       |(have:=fI.v 4 rfl;exact V.aeV)
       |(have:=fI.v 5 rfl;exact V.M2)
       |(have:=fI.v 6 rfl;exact V.dz)
       |(have:=fI.v 7 rfl;exact V.ex)
       |(have:=fI.v 8 rfl;exact V.cE)
       |(have:=fI.v 9 rfl;exact V.aaK)
       |(have:=fI.v 10 rfl;exact V.nC)
       |(have:=fI.v 11 rfl;exact V.aaJ)
       |(have:=fI.v 12 rfl;exact V.Ts)
       |(have:=fI.v 13 rfl;exact V.QR)
       |(have:=fI.v 14 rfl;exact V.lH)
       |(have:=fI.v 15 rfl;exact V.Hk)
       |(have:=fI.v 16 rfl;exact V.sE)
       |(have:=fI.v 17 rfl;exact V.Jq)
       |(have:=fI.v 18 rfl;exact V.fn)
       |(have:=fI.v 19 rfl;exact V.aas)
       |(have:=fI.v 20 rfl;exact V.o4)
       |(have:=fI.v 21 rfl;exact V.aap)
       |(have:=fI.v 22 rfl;exact V.TT)
    replace fI:=fI.d)
  |(have:=fI.v 23 rfl;repeat refine az.seq ?_
    replace fI:=fI.d)
  |(have:=fI.v 24 rfl;first|refine nS ?_|refine ct.nil ?_|refine ga.nil ?_
    replace fI:=fI.d)
  |(have:=fI.v 25 rfl;repeat refine az.seq ?_
    refine az.region ?_;replace fI:=fI.d)
  |(have:=fI.v 26 rfl;first|refine az.skip ?_|refine az.ret ?_|refine az.block ?_|refine az.exit ?_|refine az.region ?_|refine az.aiA rfl ?_|refine az.aiz rfl ?_
    replace fI:=fI.d)
  |(have:=fI.v 27 rfl;first|refine age ?_|refine agh ?_|refine agb rfl ?_|refine ga.Vh rfl rfl rfl rfl rfl ?_|refine bz.Ob rfl rfl rfl rfl rfl rfl ?_|refine bz.Vh rfl rfl rfl rfl rfl ?_
    replace fI:=fI.d)
  |(have:=fI.v 28 rfl;first|refine agf ?_|refine afs rfl ?_
    replace fI:=fI.d)
  |(have:=fI.v 29 rfl;first|refine ct.b9 fD ?_|refine bz.b9 fD ?_|refine ga.b9 fD ?_
    replace fI:=fI.d)
  |(have:=fI.v 30 rfl;first|refine ct.ace ?_|refine bz.Nv (fun x aa=>List.mem_map_of_mem (f:=fun x=>(x.f,x.bO)) aa) ?_
    replace fI:=fI.d)
  |(have:=fI.v 31 rfl;first|refine W.YA rfl rfl rfl rfl rfl ?_|refine W.al9 rfl rfl rfl rfl ?_|refine az.aqF ?_
    replace fI:=fI.d)
 exact fI.z m6.out rfl):q:=n3 ⟨h⟩ ⟨trivial⟩
end
end Go.Opn
namespace Go.Opn
noncomputable section
open Go.Cre Go.RowKit
open Classical
section
variable {K:dR}{B:dv}{ops rest:List Oper}{o:Oper}{n:Nat}{ds:ee}{l:List (Nat×Value)}{d:Nat}{m m':aN}{J:aj}{bq:Option (List PanicEntry)->ca->aN->aj->Prop}{cw:Exit->ca->aN->aj->Prop}
theorem W.afd{c:Call}{x:Operand}{bH:Nat}{args:List Value}{bm cN:aN}{hj:Value->aN->aj->Prop}{fQ:List PanicEntry->aN->aj->Prop}
 (ay:o.guard=none)(ah:o.op=.call c)(au:o.dst=some d)(aE:Nat.blt d n=true)(aC:c.callee=.value x)(aa:bJ l x=some (.func (.yield bH) #[] #[]))(aF:h4 l c.args.toList=some args)
 (aw:(bm++cN).Perm m)(bM:vy K bH args bm J hj fQ)(h:∀v m' af,J.le af->hj v m' af->W K B ops rest ⟨n,ds,(d,v)::l⟩ (m'++cN) af bq)
 (bQ:∀bw m' af,J.le af->fQ bw m' af->bq (some bw) ⟨n,ds,l⟩ (m'++cN) af):W K B ops (o::rest) ⟨n,ds,l⟩ m J bq:=by
 intro S H al aB;obtain⟨H',af,m',eG,cE,aT,bo⟩:=bM H (aB.enter aw trivial);obtain⟨cu,fm⟩:=aB.leave aw aT;rcases bo with⟨v,aW,bo⟩|⟨bw,aW,bo⟩
 ·obtain⟨a4,s1,s2⟩:=al.put (dst:=some d) aE v;obtain⟨p,aH,oX,E',mE,pJ,dq,c2,fp,ij⟩:=h v m' af fm bo a4 H' s2 cu;refine⟨p,aH,oX,E',mE,pJ,.cons eG cE ?_ dq,c2,fp,ij⟩;rw[CS ay,afe al ah aC aa aF,aW,au];show ob H' (S.put (some d) v)=_;rw[s1];rfl
 ·refine⟨some bw,S,H',⟨n,ds,l⟩,m'++cN,af,.gx eG cE ?_,al,cu,bQ bw m' af fm bo⟩;rw[CS ay,afe al ah aC aa aF,aW];rfl
theorem az.acZ{f:Operand}{params:Array Tmp}{assign body:Code}{g:FuncId}{first cap:Array Value}(Aa:ds.cr=none)(aA:bJ l f=some (.func (.func g) first cap))
 (h:∀nk bH (r:pB),vf r n params.toList assign body bH l->∃bm cN dY fQ,(bm++cN).Perm ((bH,.loop r)::(nk,.gP)::m)/\Al bm/\
  mQ K g ((first.toList++[.func (.yield bH) #[] #[]])++cap.toList) bm J dY fQ/\(∀bw m' af,J.le af->fQ bw m' af->cw (.panic bw) ⟨n,ds.plus nk,l⟩ (m'++cN) af)/\∀v m' af,J.le af->dY v m' af->∃cv mE,gB (m'++cN) bH (.loop cv) (.loop {cv with state:=.exhausted}) mE/\cv.state≠.busy/\acy cw ⟨n,ds.plus nk,l⟩ mE af cv.pending):
 az K B (.rangeFunc f params assign body) ⟨n,ds,l⟩ m J cw:=
 az.ato Aa aA fun nk bH T cB=>h nk bH ⟨.ready,none,T,n,params.toList,assign,body,nk⟩ ⟨rfl,rfl,rfl,rfl,rfl,rfl,cB⟩
theorem vy.acf{bH:Nat}{r:pB}{params:List Tmp}{assign body:Code}{args:List Value}{bm:aN}{hj:Value->aN->aj->Prop}{fQ:List PanicEntry->aN->aj->Prop}(ao:vf r n params assign body bH l)(B9:(bH,.loop r)∈bm)(Mz:vA n params=true)(hlen:params.length=args.length)
 (h:∀H,az K (iH bm H J) assign ⟨n,Bs bH,Ow params args l⟩ bm J fun e E m bu=>e=.normal/\∃cW,gB m bH (.loop r) (.loop {r with state:=.busy}) cW/\
  az K (iH bm H J) body E cW bu fun e E m cZ=>(∃j c2 eE mF,Fi e=some j/\gB m bH (.loop c2) (.loop {c2 with state:=if j.isNone then .ready else .done,pending:=j}) eE/\mF.Sublist eE/\hj (.bool j.isNone) mF cZ)\/
   ∃bw mF,e=.panic bw/\E.ds.ds=[]/\mF.Sublist m/\fQ bw mF cZ):vy K bH args bm J hj fQ:=by
 obtain⟨ad,rfl,rfl,rfl,rfl,_,fH⟩:=ao;exact vy.of ad B9 fH Mz hlen h
theorem mQ.T9{f:FuncId}{fn:Func}{c:Code}{args:List Value}{bm:aN}{hj:Value->aN->aj->Prop}{fQ:List PanicEntry->aN->aj->Prop}(aA:K.fE.get f=some fn)(ai:fn.body=some c)(aq:Nat.ble args.length fn.ntmps=true)
 (h:∀H,az K (iH bm H J) c ⟨fn.ntmps,zJ,tK args 0⟩ bm J fun e E m af=>∃u cW,Jf e=some u/\A5 E.ds.ds m cW/\Ends K fn E cW af u hj fQ):mQ K f args bm J hj fQ:=by
 intro H aB;obtain⟨T,ba,bd⟩:=Px (eK:=zJ) aq;have al:=bd false .run rfl;obtain⟨e,aH,H',E',cW,af,aW,aT,bo,u,eE,cu,fm,iG⟩:=h H _ H al aB;obtain⟨bW,aL,aG⟩:=fm.adn (abF cu) (E':=pD K.Q (kX c ⟨T,fn.ntmps,[],false,.run,none⟩ H (e,aH,H')) wI) (fn:=fn) (T:=aH.T) bo;obtain⟨m',ad,ae⟩:=iG.vS (V:=pD K.Q (kX c ⟨T,fn.ntmps,[],false,.run,none⟩ H (e,aH,H')) wI) aT aL;refine⟨bW,af,m',ad,?_⟩;rcases ae with⟨v,ae,aD⟩|⟨bw,ae,aD⟩
 ·refine .inl ⟨v,jV.FU K.cI wI aA ai ba aW (bg:=aH.bg) ?_,aD⟩;rw[D5 cu,aT.ds,aG _ ae];rfl
 ·refine .inr ⟨bw,jV.FU K.cI wI aA ai ba aW (bg:=aH.bg) ?_,aD⟩;rw[D5 cu,aT.ds,aG _ ae];rfl
def MU (ops:List Oper)(l:List (Nat×Value)):List (Nat×Value):=l.filter fun x=>wJ ops x.1
theorem aqC{t:Nat}{v:Value}:∀{l:List (Nat×Value)},look (MU ops l) t=some v->wJ ops t=true/\look l t=some v:=by
 intro l;induction l with
 |nil=>intro h;cases h
 |cons x l aP=>
  obtain⟨u,y⟩:=x;intro h;have h:look (List.filter (fun x=>wJ ops x.1) ((u,y)::l)) t=some v:=h;rw[List.filter_cons] at h;show _/\(bif Nat.beq t u then some y else look l t)=some v;split at h
  ·rename_i aw;have h:(bif Nat.beq t u then some y else look (MU ops l) t)=some v:=h;cases ai:Nat.beq t u with
   |true=>
    rw[ai,cd] at h;have e:=ez ai;exact⟨e▸aw,h⟩
   |false=>rw[ai,dK] at h;exact aP h
  ·rename_i aw;obtain⟨aL,aG⟩:=aP h;cases ai:Nat.beq t u with
   |true=>
    obtain rfl:=ez ai;exact absurd aL aw
   |false=>exact⟨aL,aG⟩
theorem Sat.gone{S:aZ}(h:Sat ⟨n,ds,l⟩ S):Sat ⟨0,ds,MU ops l⟩ (S.gone (wJ ops)):=
 ⟨rfl,h.ds,h.bR,h.bg,h.cr,fun t q=>absurd q (Gu _),fun t v q=>by
  obtain⟨aL,aG⟩:=aqC q;show(S.T.gn (wJ ops)).get t=some v;rw[a0.HE,aL];exact h.get t v aG⟩
def WP(K:dR)(B:dv)(ops:List Oper)(a1:List jo)(F:List (FuncId×List Value))(E:ca)(m:aN)(J:aj)(cw:Exit->ca->aN->aj->Prop):Prop:=
 ∀S H,Sat E S->Inv K.g0 B J m H->∃cE:eI,(∀f args H r,cE f args H=some r->(f,args)∉F)/\∃c8 e aH H' E' m' af,
  (∀eH:eI,(∀f args H r,cE f args H=some r->eH f args H=some r)->dM K.P (hJ K.Q eH) (fN K.Q gQ eH).aJ ops a1 S H=some c8)/\rj (some c8)=some (e,aH,H')/\Sat E' aH/\Inv K.g0 B af m' H'/\cw e E' m' af
variable {a1:List jo}{F:List (FuncId×List Value)}{E:ca}{i:Nat}
theorem az.ajK{id:Nat}{a:Array Oper}(aq:I4 a.toList=none)(bn:Ef a.toList=true)(aw:JM a.toList=a1)(h:WP K B a.toList a1 [] E m J cw):az K B (.region id a true) E m J cw:=by
 intro S H al aB;obtain⟨cE,_,c8,e,aH,H',E',m',af,ad,aR,ae,aD,a6⟩:=h S H al aB;refine⟨e,aH,H',E',m',af,dL.wK K.cI.re gQ cE ?_,ae,aD,a6⟩;show rj (vT K.P (fN K.Q gQ cE).call (fN K.Q gQ cE).aJ a.toList S H)=_;rw[Kz];unfold vT;rw[aq];show rj (xS K.P (hJ K.Q cE) (fN K.Q gQ cE).aJ a.toList S H)=_;unfold xS;rw[bn,cd,aw,ad cE (fun _ _ _ _ q=>q)];exact aR
theorem WP.Nv(h:ct K B ops a1 F E m J fun E m J=>cw .normal E m J):WP K B ops a1 F E m J cw:=fun S H al aB=>by
 obtain⟨cE,dg,aH,H',E',m',af,ad,ae,aD,a6⟩:=h S H al aB;exact⟨cE,dg,_,_,aH,H',E',m',af,ad,rfl,ae,aD,a6⟩
theorem WP.val{v:Value}(ak:nth ops i=some o)(av:cY K B o n ds l m J v)(h:WP K B ops a1 F ⟨n,ds,(d,v)::l⟩ m J cw)(ay:o.guard=none:=by exact rfl) (au:o.dst=some d:=by exact rfl) (aE:Nat.blt d n=true:=by exact rfl):WP K B ops (.val i::a1) F ⟨n,ds,l⟩ m J cw:=by
 intro S H al aB;obtain⟨a4,s1,s2⟩:=al.put (dst:=some d) aE v;obtain⟨cE,dg,c8,e,aH,H',E',m',af,ad,aR,ae,aD,a6⟩:=h a4 H s2 aB;refine⟨cE,dg,c8,e,aH,H',E',m',af,fun eH q=>?_,aR,ae,aD,a6⟩;show jP ops i (lZ K.P _ _ ops S H (dM K.P _ _ ops a1))=_;unfold jP;rw[ak];show lZ K.P _ _ ops S H (dM K.P _ _ ops a1) o=_;unfold lZ fT;rw[ay];show Dh S H o.dst (dM K.P _ _ ops a1) (cz K.P _ _ S H o)=_;rw[av _ _ S H al aB,au];show(bif Nat.beq H.an H.an then px (dM K.P _ _ ops a1) H (S.put (some d) v) else none)=_;rw[hT,cd,s1];exact ad eH q
theorem WP.P8{c:Call}{x:Operand}{f:FuncId}{first cap:Array Value}{args bO:List Value}{bm cN:aN}{hj:Value->aN->aj->Prop}{fQ:List PanicEntry->aN->aj->Prop}
 (ak:nth ops i=some o)(ay:o.guard=none)(ah:o.op=.call c)(au:o.dst=some d)(aE:Nat.blt d n=true)(aC:c.callee=.value x)(aa:bJ l x=some (.func (.func f) first cap))(aF:h4 l c.args.toList=some args)(has:(first.toList++args)++cap.toList=bO)
 (aA:F.all (fun g=>!Nat.beq g.1 f)=true)(aw:(bm++cN).Perm m)(bM:mQ K f bO bm J hj fQ)(h:∀v m' af,J.le af->hj v m' af->WP K B ops a1 ((f,bO)::F) ⟨n,ds,(d,v)::l⟩ (m'++cN) af cw)
 (bQ:∀bw m' af,J.le af->fQ bw m' af->cw (.panic bw) ⟨0,ds,MU ops l⟩ (m'++cN) af):WP K B ops (.bE i::a1) F ⟨n,ds,l⟩ m J cw:=by
 intro S H al aB;have aA:(f,bO)∉F:=fun q=>by
  rw[rA] at aA;have:=aA (f,bO) q;simp at this
 obtain⟨H',af,m',aT,yx⟩:=bM H (aB.enter aw trivial);obtain⟨cu,fm⟩:=aB.leave aw aT;have key:∀(eH:eI) (e:Ending),jV K.Q f bO H e H'->eH f bO H=some (e,H')->jP ops i (fun o=>lG ops (dM K.P (hJ K.Q eH) (fN K.Q gQ eH).aJ ops a1) (one K.P (hJ K.Q eH) (fN K.Q gQ eH).aJ ops S H o))=lG ops (dM K.P (hJ K.Q eH) (fN K.Q gQ eH).aJ ops a1) (oP S H (some d) (oA (some (e,H')))):=fun eH e aW hO=>by
  unfold jP;rw[ak];show lG ops (dM K.P _ _ ops a1) (one K.P _ _ ops S H o)=_;unfold one fT;rw[ay];show lG ops (dM K.P _ _ ops a1) (oP S H o.dst (cz K.P _ _ S H o))=_;have he:cz K.P (hJ K.Q eH) (fN K.Q gQ eH).aJ S H o=oA (some (e,H')):=by
   unfold cz e4;simp only[ah];show kN K.P _ c=_;unfold kN;rw[aC];show nm K.P _ _ S.T H c=_;unfold nm;rw[oB al H aF];simp only[aC];rw[de al H aa];simp only
   show(match kY K.P H (.func f) (first.toList++args) cap.toList with|some (f,bO)=>oA (hJ K.Q _ f bO H)|none=>none)=_
   unfold kY;simp only
   rw[has,Bi aW hO]
  rw[he,au]
 rcases yx with⟨v,aW,bo⟩|⟨bw,aW,bo⟩
 ·obtain⟨a4,s1,s2⟩:=al.put (dst:=some d) aE v;obtain⟨cE,dg,c8,e,aH,oX,E',mE,pJ,ad,aR,ae,aD,a6⟩:=h v m' af fm bo a4 H' s2 cu;refine⟨fun cF cb H1=>if cF=f/\cb=bO then kW f bO H (.returned v,H') cF cb H1 else cE cF cb H1,fun cF cb H1 r q=>?_,c8,e,aH,oX,E',mE,pJ,fun eH q=>?_,aR,ae,aD,a6⟩
  ·simp only at q;split at q
   ·rename_i e;rw[e.1,e.2];exact aA
   ·exact fun cv=>dg cF cb H1 r q (Wa _ cv)
  ·have hO:eH f bO H=some (.returned v,H'):=q f bO H _ (by simp only[and_self,aV];unfold kW;rw[aV ⟨rfl,rfl,rfl⟩]);have Cj:∀cF cb H1 r,cE cF cb H1=some r->eH cF cb H1=some r:=fun cF cb H1 r ao=>q cF cb H1 r (by
    simp only
    rw[aQ (fun e=>dg cF cb H1 r ao (by rw[e.1,e.2];exact List.mem_cons_self))];exact ao)
   refine(key eH _ aW hO).trans ?_;show lG ops (dM K.P _ _ ops a1) (ob H' (S.put (some d) v))=_;rw[s1];exact ad eH Cj
 ·refine⟨kW f bO H (.panicked bw,H'),fun cF cb H1 r q=>?_,.gx bw (S.gone (wJ ops)) H',.panic bw,_,H',_,m'++cN,af,fun eH q=>?_,rfl,al.gone,cu,bQ bw m' af fm bo⟩
  ·unfold kW at q;split at q
   ·rename_i e;rw[e.1,e.2.1];exact aA
   ·cases q
  ·exact key eH _ aW (q f bO H _ (by unfold kW;rw[aV ⟨rfl,rfl,rfl⟩]))
end
end
end Go.Opn

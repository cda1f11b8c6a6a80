/- A part of the proof of TableRounds. -/
import Derived.Test.YtfdhclnfkafebaaGreatDoorCax
import Derived.Test.YtfdhclnfkafebaaGreatDoorCal
set_option maxRecDepth 100000
set_option maxHeartbeats 8000000
set_option linter.unusedVariables false
set_option linter.unusedSimpArgs false
namespace Go.Opn
noncomputable section
open Go.Cre Go.RowKit Go.Proofs
abbrev Mz(J:an)(x:Nat):Value->a8->an->Prop:=fun u m' ah=>J.le ah/\m'=[]/\∃w,u=.tuple #[w,.bool (decide ((ai x).length<=1024))]/\((ai x).length<=1024->cM ah w x)
theorem amx{E x:List Nat}{i r a d:Nat}(aI:x[i]?=some a)(h:a9 (x.drop (i+1))=d*a9 E+r):
 a9 (x.drop i)=d*a9 ((r*18446744073709551616+a) / d::E)+(r*18446744073709551616+a) % d:=by
 rw[Ea aI,h];show _=d*((r*18446744073709551616+a) / d+18446744073709551616*a9 E)+_;have e:=lR (r*18446744073709551616+a) d;rw[cS,cS];have aW:18446744073709551616*(d*a9 E)=d*(18446744073709551616*a9 E):=qX _ _ _;omega
theorem amv{x E tl:List Nat}{i a:Nat}(h:x[i]?=some a):(x.take (i+1)++(E++tl))[i]?=some a:=by
 have ar:=(gS.1 h).1;rw[B6 (by rw[dY];omega),ji,bj I,h]
theorem amw{x E tl:List Nat}{i a y:Nat}(h:x[i]?=some a):(x.take (i+1)++(E++tl)).set i y=x.take i++((y::E)++tl):=by
 have ar:=(gS.1 h).1;rw[S8 _ _ (by rw[dY];omega),oz,h,To,IN _ _ (by rw[dY];omega)];rw[dY,show i -min i x.length=0 by omega,Mh];simp
theorem yu(n:Nat):decide ((n:Int)<=1024)=decide (n<=1024):=m1.2 I
theorem akC{L:List Nat}{x Y:Nat}(h:aN L+1000000000 ^ L.length*Y=x)(kJ:Y≠0):L.length<(ai x).length:=by
 apply IW
 intro q;have ad:=k' (hB x);rw[e5] at ad;have af:1000000000 ^ (ai x).length<=1000000000 ^ L.length:=my bC q;have aV:1000000000 ^ L.length*1<=1000000000 ^ L.length*Y:=hs _ I;omega
section
variable {Q:dD Tryz.prog}{g0:Nat}{J:an}
theorem ape{a n:Nat}{l r:List Nat}(aj:okW l)(aE:n<=l.length)(gY:n<1000000):
 Fn (a1 Q g0) 105 [.slice (some ⟨a,0,none⟩) n cQ] [sT .u64 122 a l r] J (fun u m' ah=>∃k,u=.slice (some ⟨a,0,none⟩) k cQ/\k<=n/\l.take k=aR (a9 (l.take n))/\m'=[sT .u64 122 a l r]/\J=ah):=by
 have n7:(l.take n).length=n:=by rw[dY];omega
 have fin:∀k:Nat,k<=n->(∀j y,k<=j->(l.take n)[j]?=some y->y=0)->(∀y,0<k->(l.take n)[k -1]?=some y->y≠0)->l.take k=aR (a9 (l.take n)):=fun k hk ad af=>by
  rw[<-aae (sM aj) (by rw[n7];exact hk) ad af,rX,gn hk]
 refine Fn.cr (cu Tryz.func105) rfl rfl fun H=>?_;refine rg ?_;refine U V.au ?_;refine a2 ?_;refine al ?_;refine aA ?_;refine ae.block ?_;refine' ae.dO (l':=[(3,.int .i64 ((n):Int)),(0,_)]) ⟨?eu,rfl,trivial⟩ (bx _) ?_;case eu=>first|exact bg|exact aa some (aa (Value.int .u64) I)|exact aa some (aa (Value.int .i64) I)
 refine ao ?_;refine' ae.lE (α:=(Nat)) (fun(k:Nat)=>[(3,.int .i64 (k:Int))]) (fun(k:Nat)=>k<=n/\∀j y,k<=j->(l.take n)[j]?=some y->y=0) (fun(k:Nat)=>k) (n) ?ag ?bD;case ag=>exact⟨bX _,fun j y ad af=>by have:=(gS.1 af).1;omega⟩
 case bD=>
  rintro k hinv;try simp only at hinv
  obtain⟨hk,aL⟩:=hinv;refine rg ?_;refine U V.ay ?_;refine U V.bb ?_;refine U V.ay ?_;refine ft 8 (fun yD=>?_) fun yD=>?_
  ·obtain⟨x,ab⟩:∃x,l[k -1]?=some x:=⟨_,eE I⟩;have fT:(l.take n)[k -1]?=some x:=by rw[ji,bj I];exact ab
   have aE:nth (b7 .u64 l) (0+((k:Int) -1).toNat*1)=some (.int .u64 (x:Int)):=oV ab I;refine bo V.ay ?_;refine bo V.ay ?_;refine bo V.aY ?_;refine bo V.bh ?_;refine bo V.cI ?_;refine bo V.bb ?_;refine U V.bt ?_;refine aA ?_;refine If (fun eR=>?_) fun eR=>?_
   ·refine ao ?_;refine ae.skip ?_;refine ao ?_;refine ae.block ?_;refine rg ?_;refine U V.ay ?_;refine U V.aY ?_;refine U V.au ?_;refine a3 ?_;refine'⟨(k -1),_,?hinv,?gi,rfl,⟨?mH,rfl,trivial⟩,bx _,rfl⟩;case mH=>first|exact bg|exact aa some (aa (Value.int .u64) I)|exact aa some (aa (Value.int .i64) I)
    case gi=>exact bz
    case hinv=>
     exact⟨I,fun j y ad af=>by
         by_cases q:k<=j
         ·exact aL j y q af
         ·obtain rfl:j=k -1:=I
          rw[fT] at af;injection af with af;omega⟩
   ·refine ao ?_;refine ae.exit ?_;refine rg ?_;refine al ?_;refine' W.step rfl (Exec.val rfl rfl (R9 rfl rfl rfl (kj Q g0) ?hm ?aO ?ad) ?_);case hm=>repeat first|exact .head _|refine .tail _ ?_|refine eF _ ?_
    case aO=>exact bz
    case ad=>exact bz
    refine U V.au ?_;refine aA ?_;refine ae.ret ?_;refine'⟨.inr rfl,rfl,_,_,.tmp rfl .nil,bx _,?_⟩;first
      |(have c:=eR;exact⟨k,by rw[jy];rfl,hk,fin k hk aL (fun y ad af=>by rw[fT] at af;injection af with af;omega),rfl,rfl⟩)
      |exact⟨k,by rw[jy];rfl,hk,fin k hk aL (fun y ad af=>by omega),rfl,rfl⟩
  ·refine bs ?_;refine bs ?_;refine bs ?_;refine bs ?_;refine bs ?_;refine bs ?_;refine U V.bt ?_;refine aA ?_;refine ae.sb rfl ?_;refine ao ?_;refine ae.exit ?_;refine rg ?_;refine al ?_;refine' W.step rfl (Exec.val rfl rfl (R9 rfl rfl rfl (kj Q g0) ?hm ?aO ?ad) ?_);case hm=>repeat first|exact .head _|refine .tail _ ?_|refine eF _ ?_
   case aO=>exact bz
   case ad=>exact bz
   refine U V.au ?_;refine aA ?_;refine ae.ret ?_;refine'⟨.inr rfl,rfl,_,_,.tmp rfl .nil,bx _,?_⟩;first
    |exact⟨k,by rw[jy];rfl,hk,fin k hk aL (fun y ad af=>by omega),rfl,rfl⟩
theorem aqh{v:Value}(h:cx J v 0):Fn (a1 Q g0) 122 [v] [] J (fun u m' ah=>J=ah/\m'=[]/\∃b c,u=.slice b 0 c/\addrEq b b=true):=by
 have aO:=h;obtain⟨b,n,c,rfl,kA,aE,av⟩:=h.b6;obtain rfl:=aE.ir rfl;have aO:cR .u64 J _ (aR 0):=aO;rw[rQ] at aO;obtain⟨jC,qu⟩:=aO;refine Fn.cr (cu Tryz.func122) rfl rfl fun H=>?_;refine rg ?_;refine U V.au ?_;refine a2 ?_;refine U V.ay ?_;refine U V.RE ?_;refine aA ?_;refine If (fun dZ=>?_) fun dZ=>?_
 ·refine rg ?_;refine U V.au ?_;refine aA ?_;refine ae.ret ?_;refine'⟨.inr rfl,rfl,_,[],.tmp rfl .nil,br _,?_⟩;first
   |(have c:=dZ
     first
         |exact⟨rfl,rfl,wj,wq,rfl,Lt⟩
         |exact⟨rfl,rfl,none,0,rfl,rfl⟩)
 ·refine ao ?_;refine ae.skip ?_;refine rg ?_;refine ll (kj Q g0) fun cK=>?_;refine U V.ay ?_;refine' W.step rfl (.of (qM rfl rfl rfl rfl rfl rfl (kj Q g0) (R6 Q g0) (fun i q=>by cases q) ?eW ?hm ?ab ?ei ?eh ?aD fun kk ak3 JV P9=>?_));case eW=>exact .js _
  case hm=>exact .refl _
  case ab=>exact qu.rd
  case ei=>exact rfl
  case eh=>exact rfl
  case aD=>exact(show 0+0<=1000000 by decide)
  obtain⟨wj,wq,rfl,Lt⟩:=JV.wF;refine U V.au ?_;refine aA ?_;refine ae.ret ?_;refine'⟨.inr rfl,rfl,_,[],.tmp rfl .nil,br _,?_⟩;first
   |(have c:=dZ
     first
        |exact⟨rfl,rfl,wj,wq,rfl,Lt⟩
        |exact⟨rfl,rfl,none,0,rfl,rfl⟩)
theorem aqi{v:Value}{x:Nat}(h:cx J v x)(jf:x≠0)(gP:(aR x).length<=100000):Fn (a1 Q g0) 122 [v] [] J (fun u m' ah=>J=ah/\∃a r tl,u=.slice (some ⟨a,0,none⟩) (aR x).length cQ/\m'=[sT .u64 122 a (aR x++tl) r]/\okW tl):=by
 have aO:=h;obtain⟨b,c,rfl,kA⟩:=h.bG;obtain⟨a,off,cells,e,rfl,hy,az⟩:=aO.at jf;have aD:=KX jf;refine Fn.cr (cu Tryz.func122) rfl rfl fun H=>?_;refine rg ?_;refine U V.au ?_;refine a2 ?_;refine U V.ay ?_;refine U V.RE ?_;refine aA ?_;refine If (fun dZ=>?_) fun dZ=>?_
 ·exfalso;cases dZ
 ·refine ao ?_;refine ae.skip ?_;refine rg ?_;refine ll (kj Q g0) fun cK=>?_;refine U V.ay ?_;refine' W.step rfl (.of (qM rfl rfl rfl rfl rfl rfl (kj Q g0) (R6 Q g0) (fun i q=>by cases q) ?eW ?hm ?ab ?ei ?eh ?aD fun kk ak3 JV P9=>?_));case eW=>exact .js _
  case hm=>exact .refl _
  case ab=>exact cR.rd aO
  case ei=>exact(show(b7 .u64 (aR x)).length=(aR x).length*1 by rw[oU,gT])
  case eh=>exact xx _
  case aD=>exact(show 0+(aR x).length<=1000000 by omega)
  rw[j7,kp] at JV;obtain⟨ac,Y7,rfl,rfl⟩:=JV.Yn (P9.1 BS) (P9.2 Bb) I;refine U V.au ?_;refine aA ?_;refine ae.ret ?_;refine'⟨.inr rfl,rfl,_,_,.tmp rfl .nil,.cons_cons _ (br _),⟨rfl,ac,Y7,[],rfl,by rw[iU],Ht⟩⟩
theorem ao4{v:Value}(h:cx J v 0):Fn (a1 Q g0) 92 [v] [] J (Mz J 0):=by
 have aO:=h;obtain⟨b,n,c,rfl,kA,aE,av⟩:=h.b6;obtain rfl:=aE.ir rfl;refine Fn.cr (cu Tryz.func92) rfl rfl fun H=>?_;refine rg ?_;refine al ?_;refine a2 ?_;refine al ?_;refine U V.bb ?_;refine aA ?_;refine If (fun kb=>?_) fun kb=>?_
 ·exfalso;omega
 ·refine ao ?_;refine ae.skip ?_;refine rg ?_;refine U V.ay ?_;refine bN (G:=aqh aO) (h:=?_);rintro v' m' ah hle ⟨rfl,rfl,wj,wq,rfl,Lt⟩;refine U V.au ?_;refine a2 ?_;refine U V.au ?_;refine aA ?_;refine ae.block ?_;refine ao ?_;refine ae.Qw ?_;refine rg ?_;refine al ?_;refine U V.bb ?_;refine aA ?_;refine If (fun jo=>?_) fun jo=>?_
  ·exfalso;omega
  ·refine ao ?_;refine ae.exit ?_;refine rg ?_;refine al ?_;refine a2 ?_;refine U V.ay ?_;refine U V.bb ?_;refine U V.ay ?_;refine ft 51 (fun N3=>?_) fun N3=>?_
   ·exfalso;omega
   ·refine bs ?_;refine bs ?_;refine bs ?_;refine bs ?_;refine bs ?_;refine bs ?_;refine U V.bt ?_;refine aA ?_;refine ae.sb rfl ?_;refine fy ?_;refine al ?_;refine U V.bb ?_;refine al ?_;refine aA ?_;refine ae.ret ?_;refine'⟨.inr rfl,rfl,_,[],.tmp rfl (.tmp rfl .nil),br _,⟨an.le.refl _,rfl,_,by rw[l5];rfl,fun _=>by unfold cM;rw[l5];exact cR.nil⟩⟩
theorem ao5{v:Value}{x:Nat}(h:cx J v x)(jf:x≠0)(gP:(aR x).length<=100000):Fn (a1 Q g0) 92 [v] [] J (Mz J x):=by
 have aO:=h;obtain⟨b,c,rfl,kA⟩:=h.bG;refine Fn.cr (cu Tryz.func92) rfl rfl fun H=>?_;refine rg ?_;refine al ?_;refine a2 ?_;refine al ?_;refine U V.bb ?_;refine aA ?_;refine If (fun kb=>?_) fun kb=>?_
 ·refine rg ?_;refine al ?_;refine aA ?_;refine ae.ret ?_;refine'⟨.inr rfl,rfl,_,[],.tmp rfl (.tmp rfl .nil),br _,?_⟩;first
   |exact⟨an.le.refl _,rfl,_,by rw[fx (by have:=zy (x:=x) I;omega)];rfl,fun q=>by have:=zy (x:=x) I;omega⟩
   |exact⟨cn,rfl,_,by rw[yu,cw];rfl,fun _=>⟨72,by rw[<-cw,<-aW];exact od⟩⟩
   |exact⟨cn,rfl,_,by rw[yu,aW];rfl,fun _=>by rw[aW] at gC;exact gC⟩
 ·have XK:(aR x).length<=479:=I
  have as6:=akF XK;refine fy ?_;refine U V.ay ?_;refine bN (G:=aqi aO jf gP) (h:=?_);rintro v' m' ah hle ⟨rfl,ac,ki,ao3,rfl,rfl,alP⟩;refine U V.au ?_;refine a2 ?_;refine U V.au ?_;refine aA ?_;refine ae.block ?_;refine' ae.dO (l':=[(4,.slice (some ⟨ac,0,none⟩) ((aR x).length) cQ),(5,(.slice none 0 0))]) ⟨?kR,?gm,trivial⟩ (bx _) ?_;case kR=>first|exact bg|exact aa some (aa (Value.int .u64) I)|exact aa some (aa (Value.int .i64) I)
  case gm=>first|exact bg|exact aa some (aa (Value.int .u64) I)|exact aa some (aa (Value.int .i64) I)
  refine ao ?_;refine' ae.e2 (fun(a6:Nat×Nat×(List Nat)×(List Nat)×(List Nat)×Value×a8)=>match a6 with|(Y,k,tl,r,L,o,bZ)=>⟨[(4,.slice (some ⟨ac,0,none⟩) k cQ),(5,o)],bZ++[sT .u64 122 ac (aR Y++tl) r],J,k=(aR Y).length/\okW tl/\(aR Y).length<=479/\aN L+1000000000 ^ L.length*Y=x/\dS L/\Acc 72 1 o L.length (b7 .u32 L) bZ/\(Y=0->L=[]\/∃l a b,L=l++[a,b]/\¬(a=0/\b=0))/\L.length<=1440,Y⟩) ⟨x,(aR x).length,ao3,ki,[],.slice none 0 0,[]⟩ ?ag ?bD
  case ag=>exact⟨rfl,alP,XK,by rw[show aN []=0 from rfl,B7,yc,iL,j7],fun z aL=>(by cases aL),.nil,fun q=>absurd q jf,ep _⟩
  case bD=>
   rintro⟨Y,k,tl,r,L,o,bZ⟩ hinv;try simp only at hinv
   obtain⟨hk,aiC,An,k1,Wg,eW,F9,ar3⟩:=hinv;subst hk;refine rg ?_;refine al ?_;refine U V.bb ?_;refine aA ?_;refine If (fun jo=>?_) fun jo=>?_
   ·have wR:Y≠0:=ng I;have Oq:=akC k1 wR;have asc:=nF Y;refine dW ?_;refine ao ?_;refine ae.block ?_;refine rg ?_;refine U V.au ?_;refine a2 ?_;refine al ?_;refine U V.aY ?_;refine U V.au ?_;refine aA ?_;refine ae.block ?_;refine ao ?_;refine ae.ub (m':=sT .u64 122 ac ((aR Y).take (aR Y).length++([]++tl)) r::bZ) (by rw[dd (bX _),kp];exact(zL _ bZ).symm) ?_;refine' ae.dO (l':=[(7,.int .i64 ((((aR Y).length):Int) -1)),(6,.int .u64 ((0):Int)),(4,_),(5,_)]) ⟨?kk,?j4,rfl,rfl,trivial⟩ (bx _) ?_;case kk=>first|exact bg|exact aa some (aa (Value.int .u64) I)|exact aa some (aa (Value.int .i64) I)
    case j4=>first|exact bg|exact aa some (aa (Value.int .u64) I)|exact aa some (aa (Value.int .i64) I)
    refine ao ?_;refine' ae.e2 (fun(a6:Nat×Nat×(List Nat)×(List Nat))=>match a6 with|(i,o0,E,ee)=>⟨[(7,.int .i64 ((i:Int) -1)),(6,.int .u64 (o0:Int))],sT .u64 122 ac ((aR Y).take i++(E++tl)) ee::bZ,J,i<=(aR Y).length/\o0<1000000000000000000/\E.length+i=(aR Y).length/\okW E/\a9 ((aR Y).drop i)=1000000000000000000*a9 E+o0,i⟩) ⟨(aR Y).length,0,[],r⟩ ?ag ?bD
    case ag=>exact⟨bX _,by decide,j7 _,Ht,by rw[oy (bX _)];rfl⟩
    case bD=>
     rintro⟨i,o0,E,ee⟩ hinv;try simp only at hinv
     obtain⟨ar,PD,Vg,tK,VN⟩:=hinv;refine rg ?_;refine U V.ay ?_;refine U V.bb ?_;refine aA ?_;refine If (fun mX=>?_) fun mX=>?_
     ·obtain⟨a,aI,ju⟩:=zh (nF Y) (i:=i -1) I;have QV:nth (b7 .u64 ((aR Y).take i++(E++tl))) (0+((i:Int) -1).toNat*1)=some (.int .u64 (a:Int)):=oV (i:=i -1) (by have:=amv (E:=E) (tl:=tl) aI;rwa [show i -1+1=i by omega] at this) I;have qt:(o0*18446744073709551616+a) / 1000000000000000000<18446744073709551616:=I
      have sa:∀y:Nat,gw (0+((i:Int) -1).toNat*1) (b7 .u64 ((aR Y).take i++(E++tl))) [.int .u64 (y:Int)]=some (b7 .u64 ((aR Y).take (i -1)++((y::E)++tl))):=fun y=>by
       have:=amw (E:=E) (tl:=tl) (y:=y) aI;rw[show i -1+1=i by omega] at this;rw[<-this];exact k8 (i -1) (by rw[eS,dY];omega) I
      refine dW ?_;refine ao ?_;refine ae.block ?_;refine rg ?_;refine al ?_;refine U V.bh ?_;refine U V.cI ?_;refine bN (G:=Np (d:=1000000000000000000) PD ju bC) (h:=?_);rintro v' m' ah hle ⟨rfl,rfl,rfl⟩;refine al ?_;refine U V.bh ?_;refine' W.step rfl (.of (Ii rfl rfl rfl rfl (hh rfl) rfl rfl rfl ?ad ?ag ?aL ?ap ?_));case ap=>exact .refl _
      case ag=>exact sa _
      case ad=>first|rfl|assumption
      case aL=>exact ep _
      refine U V.au ?_;refine a2 ?_;refine U V.ay ?_;refine U V.aY ?_;refine U V.au ?_;refine a3 ?_;refine fl ⟨i -1,(o0*18446744073709551616+a) % 1000000000000000000,(o0*18446744073709551616+a) / 1000000000000000000::E,[]⟩ ?_;exact⟨I,fJ _ bC,by rw[lP];omega,fun z aL=>by rcases gb.1 aL with rfl|aL;exact qt;exact tK z aL,amx aI (by rw[show i -1+1=i by omega];exact VN)⟩
     ·obtain rfl:i=0:=I
      rw[hi,hp] at VN;have Vv:Y / 1000000000000000000=a9 E:=I
      have PD:o0=Y % 1000000000000000000:=I
      have tK:okW (E++tl):=Hs tK aiC;refine ao ?_;refine ae.exit ?_;refine rg ?_;refine U V.ay ?_;refine' W.step rfl (Exec.call rfl rfl rfl rfl rfl rfl rfl (cj:=[sT .u64 122 ac (E++tl) ee]) (eB:=bZ) (.refl _) trivial (ape (l:=E++tl) (n:=(aR Y).length) tK (by rw[eS];omega) I) ?_);rintro v' m' ah hle ⟨a0,rfl,asp,aL,rfl,rfl⟩;rw[List.take_left' (show E.length=(aR Y).length by omega),<-Vv] at aL;have AB:a0=(aR (Y / 1000000000000000000)).length:=by(rw[<-aL,dY,eS];omega)
      refine U V.au ?_;refine a3 ?_;rw[show E++tl=aR (Y / 1000000000000000000)++(E++tl).drop a0 by rw[<-aL,Ex]];refine rg ?_;refine al ?_;refine U V.hn ?_;rw[show(o0:Int).tmod 1000000000=((o0 % 1000000000:Nat):Int) from rfl];refine U V.d' ?_;refine U V.ay ?_;refine U V.hn ?_;rw[show IntKind.u64.wrap ((o0:Int).tdiv 1000000000)=((o0 / 1000000000:Nat):Int) from rJ (d:=1000000000) I];refine U V.d' ?_;refine ll (hb Q g0) fun ara=>?_;refine' W.step rfl (.of (aqt rfl rfl rfl rfl rfl rfl (hb Q g0) (sZ Q g0) (fun i q=>by cases q) ?eW ?hm ?ab ?ei ?eh ?aD fun aqb ak0 ahB=>?_));case eW=>exact eW
      case hm=>exact IM (l₁:=[_,_])
      case ab=>exact mA.own (cells:=b7 .u32 [o0 % 1000000000,o0 / 1000000000]) (.head _) rfl
      case ei=>exact rfl
      case eh=>exact xx _
      case aD=>exact(show L.length+2<=1000000 by omega)
      refine U V.au ?_;refine a3 ?_;refine fl ⟨Y / 1000000000000000000,a0,(E++tl).drop a0,ee,L++[o0 % 1000000000,o0 / 1000000000],aqb,ak0⟩ ?_ (hm:=.append (.refl _) (.cons _ (.refl _)));exact⟨AB,fun z aL=>tK z (abr aL),cY (jv (rZ _ _)) An,ao7 k1 PD,Bh Wg (fun z aL=>by simp at aL;omega),by rw[y4,eS];exact ahB,fun q=>.inr ⟨L,_,_,rfl,fun⟨aX,aU⟩=>by omega⟩,by rw[eS];show L.length+2<=1440;omega⟩
   ·have wR:Y=0:=jh fun q=>Ec q I;subst wR;rw[jk,iI] at k1;obtain⟨acy,co,rfl,atC⟩:=eW.wF;have rb:=ao6 Wg k1 (F9 rfl);refine ao ?_;refine ae.exit ?_;refine eW.pO (.refl _) fun ga cn qu=>?_;have gC:cR .u32 ga (.slice acy L.length co) L:=⟨_,qu⟩;refine rg ?_;refine al ?_;refine a2 ?_;refine U V.ay ?_;refine U V.bb ?_;refine U V.ay ?_;refine ft 51 (fun N3=>?_) fun N3=>?_
    ·obtain⟨arl,HA,adR,arM,rfl,ar1,hA⟩:=gC.at I;obtain⟨y,aB,kz⟩:=hA (L.length -1) I;have kz:nth adR (HA+((L.length:Int) -1).toNat*1)=some (.int .u32 (y:Int)):=by rw[show((L.length:Int) -1).toNat=L.length -1 by omega];exact kz
     refine bo V.ay ?_;refine bo V.ay ?_;refine bo V.aY ?_;refine bo V.bh ?_;refine bo V.cI ?_;refine bo V.bb ?_;refine U V.bt ?_;refine aA ?_;refine If (fun M1=>?_) fun M1=>?_
     ·have eU:y=0:=I
      have aW:L.take (L.length -1)=ai x:=by
       rcases rb with⟨a7,a0⟩|⟨a7,a0⟩
       ·exact absurd eU (a7 y (by rw[qU];exact aB))
       ·exact a0
      have cw:L.length -1=(ai x).length:=by rw[<-aW,dY];omega
      refine rg ?_;refine al ?_;refine U V.aY ?_;refine' W.step rfl (.of (aaS rfl rfl rfl rfl (hb Q g0) ?az ?hk rfl rfl ?aO ?ad ?af fun atS PY=>?_));case az=>assumption
      case hk=>exact bz
      case aO=>exact bz
      case ad=>exact bz
      case af=>exact bz
      obtain⟨wj,wq,rfl,_⟩:=PY.inv;have Fq:((L.length:Int) -1 -0).toNat=L.length -1:=I
      have od:fP ga 72 1 (.slice wj (L.length -1) wq) (L.length -1) (b7 .u32 (L.take (L.length -1))):=by
       rw[Fq] at PY;have Ny:((b7 .u32 L).drop ((0:Int).toNat*1)).take ((L.length -1)*1)=b7 .u32 (L.take (L.length -1)):=by
        rw[show(0:Int).toNat*1=0 from rfl,hi,gT];unfold b7;rw[zI]
       rw[<-Ny];exact PY
      rw[Fq];refine U V.au ?_;refine a2 ?_;refine al ?_;refine U V.bb ?_;refine al ?_;refine aA ?_;refine ae.ret ?_;refine'⟨.inr rfl,rfl,_,[],.tmp rfl (.tmp rfl .nil),br _,?_⟩;first
       |exact⟨an.le.refl _,rfl,_,by rw[fx (by have:=zy (x:=x) I;omega)];rfl,fun q=>by have:=zy (x:=x) I;omega⟩
       |exact⟨cn,rfl,_,by rw[yu,cw];rfl,fun _=>⟨72,by rw[<-cw,<-aW];exact od⟩⟩
       |exact⟨cn,rfl,_,by rw[yu,aW];rfl,fun _=>by rw[aW] at gC;exact gC⟩
     ·have eU:y≠0:=I
      have aW:L=ai x:=by
       rcases rb with⟨a7,a0⟩|⟨a7,a0⟩
       ·exact a0
       ·rw[qU,aB] at a7
        injection a7 with a7
        exact absurd a7 eU
      refine fy ?_;refine al ?_;refine U V.bb ?_;refine al ?_;refine aA ?_;refine ae.ret ?_;refine'⟨.inr rfl,rfl,_,[],.tmp rfl (.tmp rfl .nil),br _,?_⟩;first
       |exact⟨an.le.refl _,rfl,_,by rw[fx (by have:=zy (x:=x) I;omega)];rfl,fun q=>by have:=zy (x:=x) I;omega⟩
       |exact⟨cn,rfl,_,by rw[yu,cw];rfl,fun _=>⟨72,by rw[<-cw,<-aW];exact od⟩⟩
       |exact⟨cn,rfl,_,by rw[yu,aW];rfl,fun _=>by rw[aW] at gC;exact gC⟩
    ·have aW:L=ai x:=by
       have Al:L=[]:=kU I;rcases rb with⟨a7,a0⟩|⟨a7,a0⟩
       ·exact a0
       ·rw[Al] at a7;cases a7
     refine bs ?_;refine bs ?_;refine bs ?_;refine bs ?_;refine bs ?_;refine bs ?_;refine U V.bt ?_;refine aA ?_;refine ae.sb rfl ?_;refine fy ?_;refine al ?_;refine U V.bb ?_;refine al ?_;refine aA ?_;refine ae.ret ?_;refine'⟨.inr rfl,rfl,_,[],.tmp rfl (.tmp rfl .nil),br _,?_⟩;first
       |exact⟨an.le.refl _,rfl,_,by rw[fx (by have:=zy (x:=x) I;omega)];rfl,fun q=>by have:=zy (x:=x) I;omega⟩
       |exact⟨cn,rfl,_,by rw[yu,cw];rfl,fun _=>⟨72,by rw[<-cw,<-aW];exact od⟩⟩
       |exact⟨cn,rfl,_,by rw[yu,aW];rfl,fun _=>by rw[aW] at gC;exact gC⟩
end
def lO{α:Type}(sz:Nat)(R:Nat->α->List Value->Prop)(cells:List Value)(xs:List α):Prop:=cells.length=xs.length*sz/\∀i x,xs[i]?=some x->R i x ((cells.drop (i*sz)).take sz)
theorem lO.at{α:Type}{sz:Nat}{R:Nat->α->List Value->Prop}{cells full:List Value}{xs:List α}(h:lO sz R cells xs)(aM:full.take (xs.length*sz)=cells){i:Nat}(ar:i<xs.length):∃x cs,xs[i]?=some x/\takeN sz (nY (0+i*sz) full)=some cs/\(∀k v,k<sz->nth cs k=some v->nth full (0+i*sz+k)=some v)/\R i x cs:=by
 have ad:=h.2 i _ (eE ar);have ag:i*sz+sz<=xs.length*sz:=by rw[<-o9];exact e0 _ ar
 have aD:xs.length*sz<=full.length:=by
  have:=h.1;rw[<-aM,dY] at this;omega
 refine⟨_,_,eE ar,?_,fun k v hk az=>?_,ad⟩
 ·rw[j7,wy,xS (by rw[lQ];omega),<-aM,IF,rX,gn I]
 ·rw[lH,ji,bj hk,p5,<-aM,ji,bj I] at az
  rw[lH,j7];exact az
theorem lO.app{α:Type}{sz:Nat}{R:Nat->α->List Value->Prop}{cells new:List Value}{xs:List α}{x:α}(h:lO sz R cells xs)(ab:R xs.length x new)(aE:new.length=sz):lO sz R (cells++new) (xs++[x]):=by
 refine⟨by rw[eS,eS,h.1,aE,x9,c3,iL],fun i y aB=>?_⟩;by_cases q:i<xs.length
 ·rw[B6 q] at aB
  have ag:i*sz+sz<=xs.length*sz:=by rw[<-o9];exact e0 _ q
  rw[abl (by rw[h.1];omega),List.take_append_of_le_length (by rw[lQ,h.1];omega)];exact h.2 i y aB
 ·rw[Eu I] at aB
  have aO:i=xs.length:=by
   have:=(gS.1 aB).1;rw[x9] at this;omega
  subst aO;rw[uJ] at aB;injection aB with aB;subst aB
  rw[List.drop_left' (by rw[h.1]),dd I];exact ab
theorem lO.mono{α:Type}{sz:Nat}{R R':Nat->α->List Value->Prop}{cells:List Value}{xs:List α}(h:lO sz R cells xs)(c0:∀i x cs,R i x cs->R' i x cs):lO sz R' cells xs:=⟨h.1,fun i x ab=>c0 _ _ _ (h.2 i x ab)⟩
structure fO (J:an) (r:cE) (v1 v2:Value):Prop where
 n:cM J v1 r.z.natAbs
 d:cM J v2 r.d
theorem fO.mono{J ah:an}(hle:J.le ah){r:cE}{v1 v2:Value}(h:fO J r v1 v2):fO ah r v1 v2:=⟨h.n.mono hle,h.d.mono hle⟩
def oC(J:an)(r:cE)(cs:List Value):Prop:=∃v1 v2,cs=qj r v1 v2/\fO J r v1 v2
def mP(J:an)(r:cE)(cs:List Value):Prop:=∃v1 v2,cs=qj r v1 v2/\fZ J r v1 v2
theorem oC.mono{J ah:an}(hle:J.le ah){r:cE}{cs:List Value}(h:oC J r cs):oC ah r cs:=by
 obtain⟨v1,v2,ad,af⟩:=h;exact⟨v1,v2,ad,af.mono hle⟩
theorem mP.mono{J ah:an}(hle:J.le ah){r:cE}{cs:List Value}(h:mP J r cs):mP ah r cs:=by
 obtain⟨v1,v2,ad,af⟩:=h;exact⟨v1,v2,ad,af.mono hle⟩
theorem RM{d z rest new:List Value}{off:Nat}(aj:off=d.length)(aL:z.length=new.length):gw off (d++(z++rest)) new=some (d++(new++rest)):=by
 subst aj;rw[HV _ _ _ (by rw[eS,eS];omega),List.take_left,nM];congr 3
 rw[<-nM,abl (by rw[eS];omega),tb (by rw[eS];omega),kp]
structure IR (k:Nat) (r:cE):Prop where
 n:(ai r.z.natAbs).length<=k
 d:(ai r.d).length<=k
theorem xn(x:Nat):(aR x).length<=(ai x).length:=by
 refine Hf ?_;have ad:=k' (hB x);rw[e5] at ad;exact iJ ad (Mv bC _)
theorem IR.ey{k:Nat}{r:cE}(h:IR k r):hW k r:=⟨cY (xn _) h.n,cY (xn _) h.d⟩
abbrev sf(r:cE):Bool:=decide ((ai r.z.natAbs).length<=1024)&&decide ((ai r.d).length<=1024)
section
variable {Q:dD Tryz.prog}{g0:Nat}{J:an}
theorem Z6{v:Value}{x:Nat}(h:cx J v x)(gP:(aR x).length<=100000):Fn (a1 Q g0) 92 [v] [] J (Mz J x):=by
 by_cases q:x=0
 ·subst q;exact ao4 h
 ·exact ao5 h q gP
theorem anb{r:cE}{v1 v2:Value}(av:fZ J r v1 v2)(fr:hW 30000 r)(lv:r.d≠0):Fn (a1 Q g0) 58 [c8 r v1 v2] [] J (fun u m' ah=>J.le ah/\m'=[]/\((sf r=true/\∃v1 v2,u=.tuple #[c8 r v1 v2,.bool true]/\fO ah r v1 v2)\/(sf r=false/\u=.tuple #[.agg #[.bool false,.slice none 0 0,.slice none 0 0],.bool false]))):=by
 have dj:=av;have Qz:=fr.n;have Qy:=fr.d;obtain⟨bQ,dv,bH,rfl,aX,h6,gN⟩:=av.n.b6;obtain⟨bL,dV,bM,rfl,aU,l1,gO⟩:=av.d.b6;refine Fn.cr (cu Tryz.func58) rfl rfl fun H=>?_;refine rg ?_;refine gU fun bO=>?_;refine' W.step rfl (.of (gx rfl rfl rfl (lb Q g0) rfl rfl rfl fun bA=>?_));refine U V.au ?_;refine a2 ?_;refine U V.cJ ?_;refine U V.cI ?_;refine bN (G:=Z6 dj.n I) (h:=?_);rintro v' m' bK aK ⟨_,rfl,bm,rfl,pz⟩;refine al ?_;refine a2 ?_;refine U V.ay ?_;refine U V.rB ?_;refine aA ?_;refine If (fun gJ=>?_) fun gJ=>?_
 ·have tj:¬(ai r.z.natAbs).length<=1024:=by simpa using gJ
  refine rg ?_;refine U V.kW ?_;refine e9 ?_;refine U V.au ?_;refine aA ?_;refine ae.ret ?_;refine'⟨.inr rfl,rfl,_,[],.cell rfl (by repeat first|exact .head _|refine .tail _ ?_|refine eF _ ?_) (fA (dm rfl) rfl) (.tmp rfl .nil),br _,?_⟩;first
   |(have c:=AT
     exact⟨(aK.trans bi).trans cn,rfl,.inl ⟨by simp[sf,tj,tk],_,_,rfl,(nB.mono bi).mono cn,AT⟩⟩)
   |(have c:=tk
     exact⟨(aK.trans bi).trans cn,rfl,.inr ⟨by simp[sf,tj,tk],rfl⟩⟩)
   |exact⟨aK,rfl,.inr ⟨by simp[sf,tj],rfl⟩⟩
 ·have tj:(ai r.z.natAbs).length<=1024:=by simpa using gJ
  have nB:=pz tj;obtain⟨cZ,en,db,rfl,b0⟩:=nB.b6;refine fy ?_;refine U V.ik ?_;refine bN (G:=pe (dj.mono aK) lv) (h:=?_);rintro v' m' dT bi ⟨_,rfl,yW⟩;have rl:=yW;obtain⟨dE,fH,dZ,rfl,dN,_,_⟩:=yW.b6;refine bN (G:=Z6 rl I) (h:=?_);rintro v' m' ga cn ⟨_,rfl,eu,rfl,aju⟩;refine al ?_;refine a2 ?_;refine U V.ay ?_;refine U V.rB ?_;refine aA ?_;refine If (fun r8=>?_) fun r8=>?_
  ·have tk:¬(ai r.d).length<=1024:=by simpa using r8
   refine rg ?_;refine U V.kW ?_;refine e9 ?_;refine U V.au ?_;refine aA ?_;refine ae.ret ?_;refine'⟨.inr rfl,rfl,_,[],.cell rfl (by repeat first|exact .head _|refine .tail _ ?_|refine eF _ ?_) (fA (dm rfl) rfl) (.tmp rfl .nil),br _,?_⟩;first
    |(have c:=AT
      exact⟨(aK.trans bi).trans cn,rfl,.inl ⟨by simp[sf,tj,tk],_,_,rfl,(nB.mono bi).mono cn,AT⟩⟩)
    |(have c:=tk
      exact⟨(aK.trans bi).trans cn,rfl,.inr ⟨by simp[sf,tj,tk],rfl⟩⟩)
    |exact⟨aK,rfl,.inr ⟨by simp[sf,tj],rfl⟩⟩
  ·have tk:(ai r.d).length<=1024:=by simpa using r8
   have AT:=aju tk;obtain⟨fI,kg,gV,rfl,gl⟩:=AT.b6;refine fy ?_;refine U V.cJ ?_;refine U V.cI ?_;refine al ?_;refine e9 ?_;refine U V.au ?_;refine aA ?_;refine ae.ret ?_;refine'⟨.inr rfl,rfl,_,[],.cell rfl (by repeat first|exact .head _|refine .tail _ ?_|refine eF _ ?_) (fA (dm rfl) rfl) (.tmp rfl .nil),br _,?_⟩;first
    |(have c:=AT
      exact⟨(aK.trans bi).trans cn,rfl,.inl ⟨by simp[sf,tj,tk],_,_,rfl,(nB.mono bi).mono cn,AT⟩⟩)
    |(have c:=tk
      exact⟨(aK.trans bi).trans cn,rfl,.inr ⟨by simp[sf,tj,tk],rfl⟩⟩)
    |exact⟨aK,rfl,.inr ⟨by simp[sf,tj],rfl⟩⟩
theorem agc{r:cE}{v1 v2:Value}(av:fO J r v1 v2)(GX:IR 10000 r)(hl:r.g4):Fn (a1 Q g0) 82 [c8 r v1 v2] [] J (p8 J r):=by
 have dj:=av;have rd:=hl.1;have dF:=GX.n;have dq:=GX.d;have ja:=GX.ey.d;obtain⟨bQ,dv,bH,rfl,aX⟩:=av.n.b6;obtain⟨bL,dV,bM,rfl,aU⟩:=av.d.b6;refine Fn.cr (cu Tryz.func82) rfl rfl fun H=>?_;refine rg ?_;refine gU fun bO=>?_;refine' W.step rfl (.of (gx rfl rfl rfl (nh Q g0) rfl rfl rfl fun bA=>?_));refine aA ?_;refine ae.draw rfl (by kernel_rfl) (a':=[.val 0,.val 1,.val 2,.val 3,.val 5,.val 6,.bR 4,.b9 [6,5,1,0],.bR 7,.b9 [1,0],.bR 8,.bR 9]) (by kernel_rfl) ?_;refine aT rfl V.cJ ?_;refine aT rfl V.cI ?_;refine aT rfl V.cJ ?_;refine aT rfl V.cI ?_;refine aT rfl V.cJ ?_;refine aT rfl V.cI ?_;refine bp.iR ?_;refine' bc.dA rfl rfl rfl rfl rfl rfl rfl rfl rfl dx (U1 dj.n I) ?_;rintro v' m' bK aK ⟨_,rfl,nB⟩;have pz:=nB;obtain⟨cZ,en,db,rfl,b0,_,_⟩:=nB.b6;refine bc.b9 eH ?_;refine' bc.dA rfl rfl rfl rfl rfl rfl rfl rfl rfl (de (fun _ aI=>j'.ag aK (dj.n.o2 (dj.mono aK).d aK (ID aI).1) rfl) dx) (U1 (dj.mono aK).d I) ?_;rintro v' m' dT bi ⟨_,rfl,yW⟩;have rl:=yW;obtain⟨dE,fH,dZ,rfl,dN,_,_⟩:=yW.b6;refine bc.b9 eH ?_;refine' bc.dA rfl rfl rfl rfl rfl rfl rfl rfl rfl (de (eI rfl) (de (eI rfl) dx)) (G4 (r:=r) (pz.mono bi) rl (fun _=>rfl) (Nf hl) (jl rd) I) ?_;rintro v' m' ga cn ⟨_,rfl,ev,gH,rfl,b4⟩;have cp:=b4;obtain⟨fI,kg,gV,rfl,gl,_,_⟩:=b4.n.b6;obtain⟨gz,gk,e7,rfl,iC,_,_⟩:=b4.d.b6;refine bc.iQ (fun x ab=>iV (f:=fun x=>(x.f,x.b2)) ab) ?_;refine mw rfl ?_;refine bp.nil ?_;refine ao ?_;refine ae.ret ?_;refine'⟨.inr rfl,rfl,_,[],.cell rfl (by repeat first|exact .head _|refine .tail _ ?_|refine eF _ ?_) (fA (dm rfl) rfl) (.nil),br _,⟨(aK.trans bi).trans cn,rfl,_,_,rfl,cp⟩⟩
theorem list_fn{rs:List cE}{b:Option Addr}{c:Nat}(h:ew J 34 3 (oC J) (.slice b rs.length c) rs)(aD:rs.length<=1000)(ak:∀r∈rs,r.g4/\IR 10000 r):
 Fn (a1 Q g0) 48 [.slice b rs.length c] [] J (fun u m' ah=>J.le ah/\m'=[]/\∃b' c',u=.slice b' rs.length c'/\ew ah 67 3 (mP ah) (.slice b' rs.length c') rs):=by
 have kA:addrEq b b=true:=h.addr;obtain⟨_,g'⟩:=h.at;refine Fn.cr (cu Tryz.func48) rfl rfl fun H=>?_;refine rg ?_;refine U V.au ?_;refine a2 ?_;refine al ?_;refine' W.step rfl (.of (qN rfl rfl rfl rfl rfl (Zs Q g0) ?aO ?ad ?af fun kV=>?_));case aO=>exact bz
 case ad=>exact bz
 case af=>exact bz
 refine U V.au ?_;refine a3 ?_;rw[jy];refine rg ?_;refine al ?_;refine aA ?_;refine ae.block ?_;refine' ae.dO (l':=[(11,.int .i64 ((0):Int)),(3,_),(9,_),(10,_)]) ⟨?s3,rfl,rfl,rfl,trivial⟩ (bx _) ?_;case s3=>first|exact bg|exact aa some (aa (Value.int .u64) I)|exact aa some (aa (Value.int .i64) I)
 refine ao ?_;refine' ae.e2 (fun(a6:Nat×(List Value)×an)=>match a6 with|(i,d,dw)=>⟨[(11,.int .i64 (i:Int))],[(kV,.row (d++fM [.bool false,.slice none 0 0,.slice none 0 0] (rs.length -i)) 67)],dw,i<=rs.length/\J.le dw/\lO 3 (fun _=>mP dw) d (rs.take i),rs.length -i⟩) ⟨0,[],J⟩ ?ag ?bD
 case ag=>exact⟨ep _,an.le.refl _,rfl,fun i x h=>by cases h⟩
 case bD=>
  rintro⟨i,d,dw⟩ hinv;try simp only at hinv
  obtain⟨ar,c2,jY⟩:=hinv;refine rg ?_;refine U V.bb ?_;refine aA ?_;refine If (fun jn=>?_) fun jn=>?_
  ·obtain⟨a,off,cells,b3,rfl,iZ,kv⟩:=g' I;obtain⟨r,cs,av,h4,pu,v1,v2,rfl,c0⟩:=kv i I I;rw[jy] at av;have iZ:=c2 _ _ iZ;obtain⟨hl,GX⟩:=ak r (jS av);have jt:=c0;obtain⟨bQ,dv,bH,rfl,aX⟩:=c0.n.b6;obtain⟨bL,dV,bM,rfl,aU⟩:=c0.d.b6;have pq:d.length=i*3:=by rw[jY.1,dY,gn ar]
   refine dW ?_;refine ao ?_;refine ae.block ?_;refine rg ?_;refine U V.ay ?_;refine U V.bh ?_;refine U V.hT ?_;refine' W.step rfl (.of (gx rfl rfl rfl (lb Q g0) rfl rfl rfl fun cK=>?_));refine U V.au ?_;refine e9 ?_;refine a2 ?_;refine al ?_;refine U V.hT ?_;refine bN (G:=agc (jt.mono c2) GX hl) (h:=?_);rintro v' m' bK aK ⟨_,rfl,ev,gH,rfl,b4⟩;have cp:=b4;obtain⟨gz,gk,e7,rfl,iC,_,_⟩:=b4.n.b6;obtain⟨mB,vC,hE,rfl,nH,_,_⟩:=b4.d.b6;refine U V.bh ?_;refine' W.step rfl (.of (ia rfl rfl rfl rfl (hh rfl) rfl rfl rfl ?ad ?ag ?ap ?_));case ap=>repeat first|exact .head _ _ _ _|apply dh.tail|apply dh.app
   case ag=>exact(by rw[show rs.length -i=(rs.length -(i+1))+1 by omega,Ej];exact RM (by rw[pq];omega) rfl)
   case ad=>first|rfl|assumption
   refine a3 ?_;have Av:lO 3 (fun _=>mP bK) (d++qj r (.slice gz gk e7) (.slice mB vC hE)) (rs.take (i+1)):=by
    rw[oz,av];exact(jY.mono fun _ _ _ q=>q.mono aK).app ⟨_,_,rfl,cp⟩ rfl
   rw[<-nM];refine rg ?_;refine U V.aY ?_;refine U V.ay ?_;refine a3 ?_;refine fl ⟨i+1,d++qj r (.slice gz gk e7) (.slice mB vC hE),bK⟩ ?_ (hm:=.cons _ (.refl _));exact⟨I,c2.trans aK,Av⟩
  ·refine ao ?_;refine ae.exit ?_;obtain rfl:i=rs.length:=I
   refine ae.ub (m':=[(kV,.row d 67)]) (by show List.Perm _ [(kV,ec.row (d++fM [.bool false,.slice none 0 0,.slice none 0 0] (rs.length -rs.length)) 67)];rw[uJ,Io,iU]) ?_;refine ae.h9 rfl fun bi=>?_;rw[uH] at jY;refine rg ?_;refine al ?_;refine aA ?_;refine ae.ret ?_;refine'⟨.inr rfl,rfl,_,[],.tmp rfl .nil,br _,?_⟩;refine⟨c2.trans bi,rfl,some ⟨kV,0,none⟩,rs.length,rfl,d,fP.row (an.g7 _ _ _) (by rw[hi,dd (by rw[jY.1];exact bX _)]) jY.1 (fun _=>⟨bX _,p7 aD bC⟩) (fun _=>rfl),fun j x ab=>(jY.2 j x ab).mono bi⟩
end
end
end Go.Opn
namespace Go.Opn
noncomputable section
def gG(sa cf:Nat):List Nat->List Nat->Nat
 |p::ps,q::dJ=>((p:Int)*cf -(q:Int)*sa).natAbs+gG sa cf ps dJ
 |_,_=>0
theorem Sd{sa cf:Nat}:∀{ps dJ:List Nat},gG sa cf ps dJ<=ps.sum*cf+dJ.sum*sa
 |[],_=>by show 0<=_;omega
 |_::_,[]=>by show 0<=_;omega
 |p::ps,q::dJ=>by
  have aZ:=Sd (sa:=sa) (cf:=cf) (ps:=ps) (dJ:=dJ);show _+gG sa cf ps dJ<=_;rw[p6,p6,c3,c3];have:((p:Int)*cf -(q:Int)*sa).natAbs<=p*cf+q*sa:=by
   have aC:((p*cf:Nat):Int)=(p:Int)*cf:=gM _ _;have aW:((q*sa:Nat):Int)=(q:Int)*sa:=gM _ _;omega
  omega
end
end Go.Opn
namespace Go.Opn
noncomputable section
open Go.Cre Go.RowKit Go.Proofs
theorem qD{X d:Nat}(aq:0<d):¬(bk (X:Int) d).z<0:=fun h=>by
 have:=(K9 (z:=(X:Int)) aq).2.1.1 h;omega
theorem sg{n d k:Nat}(aq:0<d)(ad:(aR n).length<=k)(af:(aR d).length<=k):hW k (bk (n:Int) d):=agf aq (by rw[hP];exact ad) af
theorem RU{l:List Nat}{i x:Nat}(h:l[i]?=some x):(l.take (i+1)).sum=(l.take i).sum+x:=by
 rw[oz,h];simp
theorem D4{l:List Nat}:∀{i:Nat},(l.take i).sum<=l.sum:=by
 induction l with
 |nil=>intro i;simp
 |cons a l aZ=>
  intro i;cases i with
  |zero=>simp
  |succ i=>rw[Mi,p6,p6];have:=aZ (i:=i);omega
section
variable {Q:dD Tryz.prog}{g0:Nat}{J:an}
theorem TC{r s:cE}{x y:Bool}{v1 v2 bm bW:Value}(ab:x=decide (r.z<0))(aB:y=decide (s.z<0))(av:fZ J r v1 v2)(ag:fZ J s bm bW)(hl:r.g4)(cs:s.g4){k j:Nat}(fr:hW k r)(g9:hW j s)(hk:k<=30000)(bf:j<=30000):Fn (a1 Q g0) 59 [.agg #[.bool x,v1,v2],.agg #[.bool y,bm,bW]] [] J (p8 J (bk (r.z*s.d+s.z*r.d) (r.d*s.d))):=by
 subst ab;subst aB;exact TB av ag hl cs fr g9 hk bf
theorem aey{r s:cE}{x:Bool}{v1 v2 bm bW:Value}(ab:x=decide (r.z<0))(av:fZ J r v1 v2)(ag:fZ J s bm bW)(hl:r.g4)(cs:s.g4)(sz:0<s.z){k j:Nat}(fr:hW k r)(g9:hW j s)(hk:k<=30000)(bf:j<=30000):Fn (a1 Q g0) 62 [.agg #[.bool x,v1,v2],c8 s bm bW] [] J (p8 J (bk (r.z*s.d) (r.d*s.z.natAbs))):=by
 subst ab;exact aex av ag hl cs sz fr g9 hk bf
theorem apd{ps:List Nat}{s:Nat}{b:Option Addr}{c:Nat}(h:ew J 67 3 (mP J) (.slice b ps.length c) (ps.map fun p:Nat=>bk (p:Int) s))(ag:0<s)(iA:(aR s).length<=10000)(ap:(aR ps.sum).length<=10000)(aD:ps.length<=1000):
 Fn (a1 Q g0) 49 [.slice b ps.length c] [] J (p8 J (bk (ps.sum:Int) s)):=by
 have kA:addrEq b b=true:=h.addr;obtain⟨n7,g'⟩:=h.at;rw[g6] at g';have oh:bk ((0:Nat):Int) s=⟨0,1⟩:=rA ag;refine Fn.cr (cu Tryz.func49) rfl rfl fun H=>?_;refine rg ?_;refine' W.step rfl (.of (gx rfl rfl rfl (nh Q g0) rfl rfl rfl fun bA=>?_));refine a2 ?_;refine' W.step rfl (.of (gx rfl rfl rfl (nh Q g0) rfl rfl rfl fun cU=>?_));refine a2 ?_;refine al ?_;refine aA ?_;refine ae.block ?_;refine' ae.dO (l':=[(8,.int .i64 ((0):Int)),(2,_),(3,_),(6,_),(7,_)]) ⟨?l8,rfl,rfl,rfl,rfl,trivial⟩ (bx _) ?_;case l8=>first|exact bg|exact aa some (aa (Value.int .u64) I)|exact aa some (aa (Value.int .i64) I)
 refine ao ?_;refine' ae.e2 (fun(a6:Nat×Value×Value×an)=>match a6 with|(i,bm,bW,dw)=>⟨[(8,.int .i64 (i:Int))],[(cU,.row [.bool false,bm,bW] 67),(bA,.row [.bool false,.slice none 0 0,.slice none 0 0] 67)],dw,i<=ps.length/\J.le dw/\fZ dw (bk (((ps.take i).sum:Nat):Int) s) bm bW,ps.length -i⟩) ⟨0,.slice none 0 0,.slice none 0 0,J⟩ ?ag ?bD
 case ag=>exact⟨ep _,an.le.refl _,by rw[fh,S',oh];exact⟨cx.nil,cx.nil⟩⟩
 case bD=>
  rintro⟨i,bm,bW,dw⟩ hinv;try simp only at hinv
  obtain⟨ar,c2,b4⟩:=hinv;have nu:=b4;obtain⟨cZ,en,db,rfl,b0,_,_⟩:=b4.n.b6;obtain⟨dE,fH,dZ,rfl,dN,_,_⟩:=b4.d.b6;refine rg ?_;refine U V.bb ?_;refine aA ?_;refine If (fun fp=>?_) fun fp=>?_
  ·obtain⟨a,off,cells,b3,rfl,iZ,kv⟩:=g' I;obtain⟨r,cs,av,h4,pu,v1,v2,rfl,c0⟩:=kv i I I;rw[jy,ko] at av;obtain⟨p,n8,rfl⟩:=qY.1 av;have iZ:=c2 _ _ iZ;have jt:=c0.mono c2;obtain⟨bQ,dv,bH,rfl,aX,_,_⟩:=c0.n.b6;obtain⟨bL,dV,bM,rfl,aU,_,_⟩:=c0.d.b6;have dR:=RU n8;have vl:=D4 (l:=ps) (i:=i+1);have hU:=sg (n:=(ps.take i).sum) ag (cY (jv D4) ap) iA;have jx:=sg (n:=p) ag (cY (jv (show p<=ps.sum by omega)) ap) iA;have pY:=qD (X:=(ps.take i).sum) ag;have BR:=qD (X:=p) ag;have Sq:=qD (X:=(ps.take (i+1)).sum) ag;have Sr:=Q3 (X:=(((ps.take i).sum:Nat):Int)) (Y:=(p:Int)) ag;rw[<-uz,<-dR] at Sr;refine dW ?_;refine ao ?_;refine ae.block ?_;refine rg ?_;refine U V.bh ?_;refine U V.hT ?_;refine' W.step rfl (.of (gx rfl rfl rfl (nh Q g0) rfl rfl rfl fun cK=>?_));refine e9 ?_;refine a2 ?_;refine U V.hT ?_;refine U V.hT ?_;refine bN (G:=TC (by rw[fx pY]) rfl nu jt (im ag) (im ag) hU jx I I) (h:=?_);rintro v' m' bK aK ⟨_,rfl,ev,gH,rfl,cp⟩;rw[Sr] at cp;have gC:=cp;obtain⟨fI,kg,gV,rfl,gl,_,_⟩:=cp.n.b6;obtain⟨gz,gk,e7,rfl,iC,_,_⟩:=cp.d.b6;rw[Sr];refine e9 ?_;refine a3 ?_;rw[fx Sq];refine rg ?_;refine U V.aY ?_;refine U V.ay ?_;refine a3 ?_;refine fl ⟨i+1,.slice fI kg gV,.slice gz gk e7,bK⟩ ?_ (hm:=.cons _ (.refl _));exact⟨I,c2.trans aK,gC⟩
  ·obtain rfl:i=ps.length:=I
   rw[uH] at nu;have pY:=qD (X:=ps.sum) ag;refine ao ?_;refine ae.exit ?_;refine rg ?_;refine U V.hT ?_;refine e9 ?_;refine aA ?_;refine ae.ret ?_;refine'⟨.inr rfl,rfl,_,[],.cell rfl (by repeat first|exact .head _|refine .tail _ ?_|refine eF _ ?_) (fA (dm rfl) rfl) (.nil),br _,⟨c2,rfl,_,_,by rw[show c8 (bk (ps.sum:Int) s) (.slice cZ en db) (.slice dE fH dZ)=.agg #[.bool (decide ((bk (ps.sum:Int) s).z<0)),.slice cZ en db,.slice dE fH dZ] from rfl,fx pY];rfl,nu⟩⟩
end
theorem xr:∀{l:List Nat} {x:Nat},x∈l->x<=l.sum
 |a::l,x,h=>by
  rw[p6];rcases gb.1 h with rfl|h
  ·omega
  ·have:=xr h;omega
theorem Se{sa cf:Nat}:∀{ps dJ:List Nat} {i p q:Nat},ps[i]?=some p->dJ[i]?=some q->gG sa cf (ps.take (i+1)) (dJ.take (i+1))=gG sa cf (ps.take i) (dJ.take i)+((p:Int)*cf -(q:Int)*sa).natAbs
 |[],_,i,_,_,h,_=>by cases i<;>cases h
 |_::_,[],i,_,_,_,h=>by cases i<;>cases h
 |a::ps,b::dJ,0,p,q,ad,af=>by
  injection ad with ad;injection af with af;subst ad;subst af
  show((a:Int)*cf -(b:Int)*sa).natAbs+gG sa cf [] []=gG sa cf [] []+_;show _+0=0+_;omega
 |a::ps,b::dJ,i+1,p,q,ad,af=>by
  have aZ:=Se (sa:=sa) (cf:=cf) (ps:=ps) (dJ:=dJ) (i:=i) ad af;show((a:Int)*cf -(b:Int)*sa).natAbs+gG sa cf (ps.take (i+1)) (dJ.take (i+1))=((a:Int)*cf -(b:Int)*sa).natAbs+gG sa cf (ps.take i) (dJ.take i)+_;rw[aZ];omega
theorem aaI{sa cf:Nat}{ps dJ:List Nat}{i:Nat}:gG sa cf (ps.take i) (dJ.take i)<=ps.sum*cf+dJ.sum*sa:=
 cY Sd (Nat.add_le_add (e0 _ D4) (e0 _ D4))
section
variable {Q:dD Tryz.prog}{g0:Nat}{J:an}
theorem apX{ps dJ:List Nat}{sa cf:Nat}{b b':Option Addr}{c c':Nat}(h:ew J 67 3 (mP J) (.slice b ps.length c) (ps.map fun p:Nat=>bk (p:Int) sa))(fR:ew J 67 3 (mP J) (.slice b' dJ.length c') (dJ.map fun p:Nat=>bk (p:Int) cf))(w':0<sa)(px:0<cf)(aI:(aR sa).length<=3000)(ak:(aR cf).length<=3000)(ap:ps.sum=sa)(bS:dJ.sum=cf)(aD:ps.length<=1000)(ke:ps.length=dJ.length):
 Fn (a1 Q g0) 28 [.slice b ps.length c,.slice b' dJ.length c'] [] J (p8 J (bk (gG sa cf ps dJ:Int) (sa*cf*2))):=by
 have kA:addrEq b b=true:=h.addr;have HM:addrEq b' b'=true:=fR.addr;obtain⟨_,g'⟩:=h.at;obtain⟨_,Ap⟩:=fR.at;rw[g6] at g' Ap;have cy:0<sa*cf:=iW w' px;have yE:=vD aI ak;have oh:bk ((0:Nat):Int) (sa*cf)=⟨0,1⟩:=rA cy;have Of:(aR (sa*cf+sa*cf)).length<=6001:=X5 yE yE;have lz:∀i,(aR (gG sa cf (ps.take i) (dJ.take i))).length<=6001:=fun i=>by
  have:=aaI (sa:=sa) (cf:=cf) (ps:=ps) (dJ:=dJ) (i:=i);rw[ap,bS,dz cf sa] at this;exact cY (jv this) Of
 refine Fn.cr (cu Tryz.func28) rfl rfl fun H=>?_;refine rg ?_;refine' W.step rfl (.of (gx rfl rfl rfl (nh Q g0) rfl rfl rfl fun dn=>?_));refine a2 ?_;refine' W.step rfl (.of (gx rfl rfl rfl (nh Q g0) rfl rfl rfl fun cK=>?_));refine a2 ?_;refine al ?_;refine aA ?_;refine ae.block ?_;refine' ae.dO (l':=[(10,.int .i64 ((0):Int)),(1,_),(4,_),(5,_),(8,_),(9,_)]) ⟨?ur,rfl,rfl,rfl,rfl,rfl,trivial⟩ (bx _) ?_;case ur=>first|exact bg|exact aa some (aa (Value.int .u64) I)|exact aa some (aa (Value.int .i64) I)
 refine ao ?_;refine' ae.e2 (fun(a6:Nat×Value×Value×an)=>match a6 with|(i,bm,bW,dw)=>⟨[(10,.int .i64 (i:Int))],[(cK,.row [.bool false,bm,bW] 67),(dn,.row [.bool false,.slice none 0 0,.slice none 0 0] 67)],dw,i<=ps.length/\J.le dw/\fZ dw (bk ((gG sa cf (ps.take i) (dJ.take i):Nat):Int) (sa*cf)) bm bW,ps.length -i⟩) ⟨0,.slice none 0 0,.slice none 0 0,J⟩ ?ag ?bD
 case ag=>exact⟨ep _,an.le.refl _,by rw[fh,fh];show fZ J (bk ((0:Nat):Int) (sa*cf)) _ _;rw[oh];exact⟨cx.nil,cx.nil⟩⟩
 case bD=>
  rintro⟨i,bm,bW,dw⟩ hinv;try simp only at hinv
  obtain⟨ar,c2,b4⟩:=hinv;have nu:=b4;obtain⟨cZ,en,db,rfl,b0,_,_⟩:=b4.n.b6;obtain⟨dE,fH,dZ,rfl,dN,_,_⟩:=b4.d.b6;refine rg ?_;refine U V.bb ?_;refine aA ?_;refine If (fun kb=>?_) fun kb=>?_
  ·obtain⟨a,off,cells,b3,rfl,iZ,kv⟩:=g' I;obtain⟨r,cs,av,h4,pu,v1,v2,rfl,c0⟩:=kv i I I;rw[jy,ko] at av;obtain⟨p,n8,rfl⟩:=qY.1 av;have iZ:=c2 _ _ iZ;have jt:=c0.mono c2;obtain⟨bQ,dv,bH,rfl,aX,_,_⟩:=c0.n.b6;obtain⟨bL,dV,bM,rfl,aU,_,_⟩:=c0.d.b6;obtain⟨bV,fV,cells',aW,rfl,CM,F6⟩:=Ap I;obtain⟨cW,cN,yR,OO,O9,apm,apn,rfl,pp⟩:=F6 i I I;rw[jy,ko] at yR;obtain⟨q,AL,rfl⟩:=qY.1 yR;have CM:=c2 _ _ CM;have wM:=pp.mono c2;obtain⟨fI,kg,gV,rfl,gl,_,_⟩:=pp.n.b6;obtain⟨gz,gk,e7,rfl,iC,_,_⟩:=pp.d.b6;have AK:=cY (xr (jS n8)) (EB ap);have Pz:=cY (xr (jS AL)) (EB bS);have dR:=Se (sa:=sa) (cf:=cf) n8 AL;have yK:(aR ((p:Int)*cf+-(q:Int)*sa).natAbs).length<=6001:=by
    refine cY (jv ?_) (lz (i+1));rw[dR,nL,<-IA];omega
   have ev:=sg (n:=p) w' (cY (jv AK) aI) aI;have uv:=sg (n:=q) px (cY (jv Pz) ak) ak;have Ih:=sg (n:=gG sa cf (ps.take i) (dJ.take i)) cy (lz i) (show _<=6001 by omega);have aaQ:=sg (n:=((p:Int)*cf+-(q:Int)*sa).natAbs) cy yK (show _<=6001 by omega);have hU:=qD (X:=gG sa cf (ps.take i) (dJ.take i)) cy;have iH:=qD (X:=gG sa cf (ps.take (i+1)) (dJ.take (i+1))) cy;have jx:bk ((bk (p:Int) sa).z*(bk (q:Int) cf).d+-(bk (q:Int) cf).z*(bk (p:Int) sa).d) ((bk (p:Int) sa).d*(bk (q:Int) cf).d)=bk ((p:Int)*cf+-(q:Int)*sa) (sa*cf):=by
    have a7:=Yl (X:=(q:Int)) px;have a0:=Hk (X:=(p:Int)) (Y:=-(q:Int)) w' px;rw[<-a7] at a0;exact a0
   have pX:=Yi (X:=(p:Int)*cf+-(q:Int)*sa) cy;have pY:=Q3 (X:=(gG sa cf (ps.take i) (dJ.take i):Int)) (Y:=(((p:Int)*cf+-(q:Int)*sa).natAbs:Int)) cy;have BR:(gG sa cf (ps.take i) (dJ.take i):Int)+(((p:Int)*cf+-(q:Int)*sa).natAbs:Int)=(gG sa cf (ps.take (i+1)) (dJ.take (i+1)):Int):=by
    rw[dR,uz,nL,<-IA]
   rw[BR] at pY;have xb:eD 8 (.agg #[.bool false,.slice cZ en db,.slice dE fH dZ]) (.agg #[.bool false,.slice cZ en db,.slice dE fH dZ])=true:=by simp[eD,jB,b0,dN,nn]
   refine dW ?_;refine ao ?_;refine ae.block ?_;refine rg ?_;refine U V.ay ?_;refine U V.bh ?_;refine U V.hT ?_;refine' W.step rfl (.of (gx rfl rfl rfl (nh Q g0) rfl rfl rfl fun fK=>?_));refine U V.au ?_;refine e9 ?_;refine aA ?_;refine ae.draw rfl (by kernel_rfl) (a':=[.val 0,.val 1,.val 2,.val 3,.val 4,.val 5,.bR 6,.b9 [0],.bR 7,.b9 [0],.bR 8,.bR 9]) (by kernel_rfl) ?_;refine aT rfl V.hT ?_;refine aT rfl V.hT ?_;refine eg ?_;refine aT rfl V.bh ?_;refine aT rfl V.hT ?_;refine dl rfl (G:=aoJ jt wM (im w') (im px) ev uv I I) (h:=?_);rintro v' m' bK aK ⟨_,rfl,du,dt,rfl,cp⟩;rw[jx] at cp;have oH:=cp;obtain⟨mB,vC,hE,rfl,nH,_,_⟩:=cp.n.b6;obtain⟨mW,nD,jU,rfl,oq,_,_⟩:=cp.d.b6;rw[jx];refine bp.b9 eH ?_;refine dl rfl (G:=ab1 oH) (h:=?_);rintro v' m' ah hle ⟨rfl,rfl,rfl⟩;rw[pX];refine bp.b9 eH ?_;refine dl rfl (G:=TC (r:=bk (gG sa cf (ps.take i) (dJ.take i):Int) (sa*cf)) (by rw[fx hU]) rfl (nu.mono aK) (s:=bk (((p:Int)*cf+-(q:Int)*sa).natAbs:Int) (sa*cf)) (by rw[<-pX];exact⟨oH.n,oH.d⟩) (im cy) (im cy) Ih aaQ I I) (h:=?_);rintro v' m' ga cn ⟨_,rfl,du,dt,rfl,e'⟩;rw[pY] at e';have gC:=e';obtain⟨iN,mK,fp,rfl,mM,_,_⟩:=e'.n.b6;obtain⟨kr,k7,cl,rfl,nb,_,_⟩:=e'.d.b6;rw[pY];refine mw rfl ?_;refine bp.nil ?_;rw[fx iH];refine rg ?_;refine U V.aY ?_;refine U V.ay ?_;refine a3 ?_;refine fl ⟨i+1,.slice iN mK fp,.slice kr k7 cl,ga⟩ ?_ (hm:=.cons _ (.refl _));exact⟨I,((c2.trans aK).trans cn),gC⟩
  ·obtain rfl:i=ps.length:=I
   have WG:=lz ps.length;rw[uH,show dJ.take ps.length=dJ from dd I] at nu WG;have pY:=qD (X:=gG sa cf ps dJ) cy;have Ih:=sg (n:=gG sa cf ps dJ) cy WG (show _<=6001 by omega);have xb:eD 8 (.agg #[.bool false,.slice cZ en db,.slice dE fH dZ]) (.agg #[.bool false,.slice cZ en db,.slice dE fH dZ])=true:=by simp[eD,jB,b0,dN,nn]
   refine ao ?_;refine ae.exit ?_;refine ao ?_;refine ae.draw rfl (by kernel_rfl) (a':=[.val 0,.bR 1,.b9 [0],.bR 2,.bR 3]) (by kernel_rfl) ?_;refine aT rfl V.hT ?_;refine dl rfl (G:=Qe (n:=2) bC bC) (h:=?_);rintro v' m' bK aK ⟨_,rfl,du,dt,rfl,cp⟩;have oH:=cp;obtain⟨mB,vC,hE,rfl,nH,_,_⟩:=cp.n.b6;obtain⟨mW,nD,jU,rfl,oq,_,_⟩:=cp.d.b6;refine bp.b9 eH ?_;refine dl rfl (G:=aey (r:=bk (gG sa cf ps dJ:Int) (sa*cf)) (by rw[fx pY]) (nu.mono aK) oH (im cy) ⟨by decide,by decide⟩ bC Ih (hW.mk (k:=1) (Bc bC) (Bc bC)) I I) (h:=?_);rintro v' m' dT bi ⟨_,rfl,du,dt,rfl,e'⟩;have gC:=e';obtain⟨iN,mK,fp,rfl,mM,_,_⟩:=e'.n.b6;obtain⟨kr,k7,cl,rfl,nb,_,_⟩:=e'.d.b6;refine mw rfl ?_;refine bp.nil ?_;refine ao ?_;refine ae.ret ?_;refine'⟨.inr rfl,rfl,_,[],.cell rfl (by repeat first|exact .head _|refine .tail _ ?_|refine eF _ ?_) (fA (dm rfl) rfl) (.nil),br _,?_⟩;have e:bk ((bk (gG sa cf ps dJ:Int) (sa*cf)).z*((1:Nat):Int)) ((bk (gG sa cf ps dJ:Int) (sa*cf)).d*2)=bk (gG sa cf ps dJ:Int) (sa*cf*2):=Yj cy;exact⟨(c2.trans aK).trans bi,rfl,_,_,CC e,gC.cast e⟩
end
end
end Go.Opn

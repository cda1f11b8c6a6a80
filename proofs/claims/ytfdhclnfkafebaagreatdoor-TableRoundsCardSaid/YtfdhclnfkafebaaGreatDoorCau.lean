/- A part of the proof of TableRounds. -/
import Derived.Test.YtfdhclnfkafebaaGreatDoorCat
import Derived.Test.YtfdhclnfkafebaaGreatDoorCal
set_option maxRecDepth 100000
set_option maxHeartbeats 8000000
set_option linter.unusedVariables false
set_option linter.unusedSimpArgs false
namespace Go.Opn
noncomputable section
open Go.Cre Go.RowKit Go.Proofs
theorem DL{A D W C:List Nat}{i k off x:Nat}(aq:D.length=i)(hk:i<=k)(h:W[k]?=some x)(aj:off=A.length+k):nth (b7 .u64 (A++(D++W.drop i)++C)) off=some (.int .u64 (x:Int)):=by
 refine oV (i:=A.length+k) ?_ aj;rw[U9 aq hk (gS.1 h).1];exact h
theorem Q4{A W C:List Nat}{k off x:Nat}(h:W[k]?=some x)(aj:off=A.length+k):nth (b7 .u64 (A++W++C)) off=some (.int .u64 (x:Int)):=by
 have:=DL (A:=A) (D:=[]) (W:=W) (C:=C) (i:=0) rfl (ep k) h aj;rwa [kp,hi] at this
theorem HT{A D W C:List Nat}{i y off:Nat}(aq:D.length=i)(h:i<W.length)(aj:off=A.length+i):gw off (b7 .u64 (A++(D++W.drop i)++C)) [.int .u64 (y:Int)]=some (b7 .u64 (A++((D++[y])++W.drop (i+1))++C)):=by
 rw[<-qG aq h];exact k8 (A.length+i) (by rw[eS,eS,eS,lQ];omega) aj
theorem zh{W:List Nat}{i:Nat}(aj:okW W)(h:i<W.length):∃u,W[i]?=some u/\u<18446744073709551616:=⟨_,eE h,xz aj (eE h)⟩
section
variable {Q:dD Tryz.prog}{g0:Nat}{J:an}
theorem aoE{a n cap:Nat}{v:Value}{A ww C vs:List Nat}(az:cR .u64 J v vs)(lA:vs.length=n+2)(oW:okW vs)(wP:ww.length=n+3)(nG:okW ww)(n7:n<=100000)(m5:n+3<=cap)(ahO:cap<1000000)(eT:A.length<=1000000)
 (sC:∀v1,vs[n+1]?=some v1->9223372036854775808<=v1)(cA:a9 ww<18446744073709551616*a9 vs):
 Fn (a1 Q g0) 109 [.slice (some ⟨a,A.length,none⟩) (n+3) cap,v] [eO .u64 122 a (A++ww++C)] J (fun u m' ah=>∃x2,u=.int .u64 ((a9 ww / a9 vs:Nat):Int)/\m'=[eO .u64 122 a (A++x2++C)]/\x2.length=n+3/\okW x2/\a9 x2=a9 ww % a9 vs/\a9 ww / a9 vs<18446744073709551616/\J=ah):=by
 obtain⟨bv,d',rfl⟩:=az.form;obtain⟨zY,HI,Fa,yy,rfl,ag4,xc⟩:=az.lt oW I;obtain⟨cm,oQ,akP⟩:=zh nG (i:=n+2) I;obtain⟨u1,Dc,DC⟩:=zh nG (i:=n+1) I;obtain⟨bI,yV,A7⟩:=zh nG (i:=n) I;obtain⟨v1,l4,Hp,GZ⟩:=xc (n+1) I;obtain⟨v0,Dd,Ho,A8⟩:=xc n I;have aph:=sC v1 l4;have A2:=aj' wP lA nG oW oQ Dc yV l4 Dd;have alz:nth (b7 .u64 (A++ww++C)) (A.length+((n+2:Nat):Int).toNat*1)=some (.int .u64 (cm:Int)):=Q4 oQ I;have aly:nth (b7 .u64 (A++ww++C)) (A.length+(((n+2:Nat):Int) -1).toNat*1)=some (.int .u64 (u1:Int)):=Q4 Dc I;have alx:nth (b7 .u64 (A++ww++C)) (A.length+(((n+2:Nat):Int) -2).toNat*1)=some (.int .u64 (bI:Int)):=Q4 yV I;have Hp:nth Fa (HI+(((n+2:Nat):Int) -1).toNat*1)=some (.int .u64 (v1:Int)):=by rw[show(((n+2:Nat):Int) -1).toNat=n+1 by omega];exact Hp
 have Ho:nth Fa (HI+(((n+2:Nat):Int) -2).toNat*1)=some (.int .u64 (v0:Int)):=by rw[show(((n+2:Nat):Int) -2).toNat=n by omega];exact Ho
 have FU:0<a9 vs:=by
  have e:=la l4;rw[dd (show vs.length<=n+1+1 by omega)] at e;have:0<18446744073709551616 ^ (n+1)*v1:=iW (uI bC) I;omega
 rw[lA];refine Fn.cr (cu Tryz.func109) rfl rfl fun H=>?_;refine rg ?_;refine U V.au ?_;refine a2 ?_;refine al ?_;refine a2 ?_;refine U V.au ?_;refine aA ?_;refine ae.draw rfl (by kernel_rfl) (a':=[.val 0,.val 1,.val 2,.val 3,.val 4,.val 5,.val 6,.val 7,.val 8,.val 9]) (by kernel_rfl) ?_;refine eg ?_;refine aT rfl V.bh ?_;refine aT rfl V.cg ?_;refine eg ?_;refine aT rfl V.aY ?_;refine aT rfl V.bh ?_;refine aT rfl V.cg ?_;refine aT rfl V.bb ?_;refine bp.nil ?_;refine eP [6,31,0,1,5] ?_;refine ao ?_;refine' ae.lW (α:=(Nat)) 2 (fun(g:Nat)=>[(6,.int .u64 (g:Int))]) (fun(g:Nat)=>[eO .u64 122 a (A++ww++C)]) (fun(g:Nat)=>J) (fun(g:Nat)=>g<18446744073709551616/\a9 ww<(g+1)*a9 vs) ?Na ?Nt;case Na=>
  refine If (fun mZ=>?_) fun mZ=>?_
  ·refine rg ?_;refine U V.au ?_;refine a3 ?_;obtain⟨iq,sv⟩:∃q,q=(cm*18446744073709551616+u1) / v1:=⟨_,rfl⟩;obtain⟨ki,dj⟩:∃r,r=(cm*18446744073709551616+u1) % v1:=⟨_,rfl⟩;have hm:iq*v1+ki=cm*18446744073709551616+u1:=by rw[sv,dj,dz];exact lR _ v1
   have Wq:ki<v1:=by rw[dj];exact fJ _ I
   have eX:a9 ww<(iq+1)*a9 vs:=A2.start A7 (by rw[c3,iL];omega);have Gm:iq<18446744073709551616:=by
    rw[sv];exact(mV I).2 (by
        have:=e0 18446744073709551616 (show cm+1<=v1 by omega);rw[c3,dz v1] at this;omega)
   refine ao ?_;refine ae.draw rfl (by kernel_rfl) (a':=[.val 0,.val 1,.val 2,.val 3,.val 4,.val 5,.val 6,.val 7,.val 8,.val 9,.val 10,.val 11,.val 12,.val 13,.bR 14,.val 15,.val 16,.val 17,.val 18,.val 19]) (by kernel_rfl) ?_;refine eg ?_;refine aT rfl V.bh ?_;refine aT rfl V.cg ?_;refine eg ?_;refine aT rfl V.aY ?_;refine aT rfl V.bh ?_;refine aT rfl V.cg ?_;refine eg ?_;refine aT rfl V.aY ?_;refine aT rfl V.bh ?_;refine aT rfl V.cg ?_;refine dl rfl (G:=Np I DC GZ) (h:=?_);rintro v' m' ah hle ⟨rfl,rfl,rfl⟩;rw[<-sv,<-dj];refine eg ?_;refine bp.nil ?_;refine eP [6,7,0,1,5] ?_;refine ao ?_;refine' ae.lW (α:=(Nat)) 2 (fun(ck:Nat)=>[(6,.int .u64 (ck:Int))]) (fun(ck:Nat)=>[eO .u64 122 a (A++ww++C)]) (fun(ck:Nat)=>J) (fun(ck:Nat)=>ck<18446744073709551616/\a9 ww<(ck+1)*a9 vs) ?wm ?wx;case wm=>
    refine ae.block ?_;refine' ae.dO (l':=[(6,.int .u64 ((iq):Int)),(7,.int .u64 ((ki):Int)),(0,_),(1,_),(5,_)]) ⟨?j4,?kk,rfl,rfl,rfl,trivial⟩ (bx _) ?_;case j4=>first|exact bg|exact aa some (aa (Value.int .u64) I)|exact aa some (aa (Value.int .i64) I)
    case kk=>first|exact bg|exact aa some (aa (Value.int .u64) I)|exact aa some (aa (Value.int .i64) I)
    refine ao ?_;refine' ae.lE (α:=(Nat)×(Nat)) (fun(a6:(Nat)×(Nat))=>match a6 with|(g,r)=>[(6,.int .u64 (g:Int)),(7,.int .u64 (r:Int))]) (fun(a6:(Nat)×(Nat))=>match a6 with|(g,r)=>g<18446744073709551616/\r<18446744073709551616/\g*v1+r=cm*18446744073709551616+u1/\a9 ww<(g+1)*a9 vs) (fun(a6:(Nat)×(Nat))=>match a6 with|(g,r)=>g) ⟨iq,ki⟩ ?ag ?bD
    case ag=>exact⟨Gm,I,hm,eX⟩
    case bD=>
     rintro⟨g,r⟩ hinv;try simp only at hinv
     obtain⟨jE,yS,CY,vd⟩:=hinv;refine ao ?_;refine ae.block ?_;refine rg ?_;refine al ?_;refine U V.aY ?_;refine U V.bh ?_;refine U V.cg ?_;refine bN (G:=DG jE A8) (h:=?_);rintro v' m' ah hle ⟨rfl,rfl,rfl⟩;obtain⟨P,cX⟩:∃P,P=g*v0:=⟨_,rfl⟩;rw[<-cX];have sk:=G9 jE A8;rw[<-cX] at sk;refine al ?_;refine a3 ?_;refine eP [8,9,0,1,5,6,7] ?_;refine ao ?_;refine' ae.hf 2 [(76,.bool (decide ((P<=r*18446744073709551616+bI))))] ?Nm ?Nx;case Nm=>
      refine ae.region ?_;refine al ?_;refine U V.bb ?_;refine U V.ay ?_;refine ft 63 (fun agE=>?_) fun agE=>?_
      ·
        refine bs ?_;refine bs ?_;refine bs ?_;refine bs ?_;refine pd ?_;refine pd ?_;refine pd ?_;refine pd ?_;refine pd ?_;refine pd ?_;refine pd ?_;refine bs ?_;refine U V.bt ?_;refine a3 ?_;refine'⟨⟨_,rfl,⟨?He,rfl,rfl,rfl,rfl,rfl,trivial⟩⟩,bx _,rfl⟩;case He=>first|exact fw rfl (by first|omega|(simp_all;done)|(simp_all;omega))|exact fu rfl (by first|omega|(simp_all;done)|(simp_all;omega))|exact fv rfl (by first|omega|(simp_all;done)|(simp_all;omega))|exact fE rfl (by first|omega|(simp_all;done)|(simp_all;omega))
      ·
        refine bo V.ay ?_;refine bo V.ay ?_;refine bo V.bb ?_;refine bo V.ay ?_;refine ft 67 (fun agF=>?_) fun agF=>?_
        ·refine bo V.ay ?_;refine bo V.ay ?_;refine bo V.ay ?_;refine bo V.aY ?_;refine bo V.bh ?_;refine bo V.cg ?_;refine bo V.bb ?_;refine bo V.bt ?_;refine U V.bt ?_;refine a3 ?_;refine'⟨⟨_,rfl,⟨?He,rfl,rfl,rfl,rfl,rfl,trivial⟩⟩,bx _,rfl⟩;case He=>first|exact fw rfl (by first|omega|(simp_all;done)|(simp_all;omega))|exact fu rfl (by first|omega|(simp_all;done)|(simp_all;omega))|exact fv rfl (by first|omega|(simp_all;done)|(simp_all;omega))|exact fE rfl (by first|omega|(simp_all;done)|(simp_all;omega))
        ·refine bs ?_;refine bs ?_;refine bs ?_;refine bs ?_;refine bs ?_;refine bs ?_;refine bs ?_;refine bo V.bt ?_;refine U V.bt ?_;refine a3 ?_;refine'⟨⟨_,rfl,⟨?He,rfl,rfl,rfl,rfl,rfl,trivial⟩⟩,bx _,rfl⟩;case He=>first|exact fw rfl (by first|omega|(simp_all;done)|(simp_all;omega))|exact fu rfl (by first|omega|(simp_all;done)|(simp_all;omega))|exact fv rfl (by first|omega|(simp_all;done)|(simp_all;omega))|exact fE rfl (by first|omega|(simp_all;done)|(simp_all;omega))
     case Nx=>
      refine ao ?_;refine If (fun E4=>?_) fun E4=>?_
      ·
        refine ao ?_;refine ae.exit ?_;refine'⟨(g),_,?hinv,rfl,⟨?mj,rfl,rfl,rfl,trivial⟩,gK,rfl⟩;case mj=>first|exact bg|exact aa some (aa (Value.int .u64) I)|exact aa some (aa (Value.int .i64) I)
        case hinv=>exact⟨jE,vd⟩
      ·
        have C5:a9 ww<g*a9 vs:=A2.more CY I;have qo:1<=g:=by
         rcases jj g with k|k
         ·rw[k,j8] at C5;omega
         ·exact k
        refine fy ?_;refine U V.ay ?_;refine U V.aY ?_;refine U V.au ?_;refine a2 ?_;refine al ?_;refine U V.aY ?_;refine U V.bh ?_;refine U V.cg ?_;refine U V.aY ?_;refine U V.au ?_;refine a3 ?_;rw[show IntKind.u64.wrap ((r:Int)+(v1:Int))=(((r+v1) % 18446744073709551616:Nat):Int) from LW (r+v1)];refine rg ?_;refine al ?_;refine U V.aY ?_;refine U V.bh ?_;refine U V.cg ?_;refine U V.bb ?_;refine aA ?_;refine If (fun ac9=>?_) fun ac9=>?_
        ·refine ao ?_;refine ae.exit ?_;refine'⟨(g -1),_,?hinv,rfl,⟨?mj,rfl,rfl,rfl,trivial⟩,gK,rfl⟩;case mj=>first|exact bg|exact aa some (aa (Value.int .u64) I)|exact aa some (aa (Value.int .i64) I)
         case hinv=>exact⟨I,by rw[yd qo];exact C5⟩
        ·rw[show(r+v1) % 18446744073709551616=r+v1 by omega];refine dW ?_;refine'⟨⟨g -1,r+v1⟩,_,?hinv,?gi,rfl,⟨?mj,?na,rfl,rfl,rfl,trivial⟩,bx _,rfl⟩;case mj=>first|exact bg|exact aa some (aa (Value.int .u64) I)|exact aa some (aa (Value.int .i64) I)
         case na=>first|exact bg|exact aa some (aa (Value.int .u64) I)|exact aa some (aa (Value.int .i64) I)
         case gi=>exact bz
         case hinv=>
          exact⟨I,I,by
              obtain⟨p,rfl⟩:∃p,g=p+1:=⟨g -1,I⟩;rw[c3,iL] at CY;rw[ld];omega,by rw[yd qo];exact C5⟩
   case wx=>
    rintro ck hinv;try simp only at hinv
    have qo:=hinv;refine'⟨(ck),_,?hinv,rfl,⟨?mj,rfl,rfl,rfl,trivial⟩,gK,rfl⟩;case mj=>first|exact bg|exact aa some (aa (Value.int .u64) I)|exact aa some (aa (Value.int .i64) I)
    case hinv=>exact qo
  ·refine ao ?_;refine ae.skip ?_;refine'⟨(18446744073709551615),_,?hinv,rfl,⟨?mj,rfl,rfl,rfl,trivial⟩,gK,rfl⟩;case mj=>first|exact bg|exact aa some (aa (Value.int .u64) I)|exact aa some (aa (Value.int .i64) I)
   case hinv=>exact⟨by decide,A2.akO cA A7 A8 I DC⟩
 case Nt=>
  rintro g hinv;try simp only at hinv
  obtain⟨jE,vd⟩:=hinv;refine rg ?_;refine al ?_;refine a2 ?_;refine al ?_;refine aA ?_;refine ae.block ?_;refine' ae.dO (l':=[(95,.int .i64 ((0):Int)),(10,.int .u64 ((0):Int)),(11,.int .u64 ((0):Int)),(0,_),(1,_),(5,_),(6,_),(93,_),(94,_)]) ⟨?aqg,?ur,?s3,rfl,rfl,rfl,rfl,rfl,rfl,trivial⟩ (bx _) ?_;case aqg=>first|exact bg|exact aa some (aa (Value.int .u64) I)|exact aa some (aa (Value.int .i64) I)
  case ur=>first|exact bg|exact aa some (aa (Value.int .u64) I)|exact aa some (aa (Value.int .i64) I)
  case s3=>first|exact bg|exact aa some (aa (Value.int .u64) I)|exact aa some (aa (Value.int .i64) I)
  refine ao ?_;refine' ae.e2 (fun(a6:Nat×Nat×Nat×(List Nat))=>match a6 with|(i,c,b,D)=>⟨[(95,.int .i64 (i:Int)),(10,.int .u64 (c:Int)),(11,.int .u64 (b:Int))],[eO .u64 122 a (A++(D++ww.drop i)++C)],J,i<=n+2/\c<18446744073709551616/\b<=1/\D.length=i/\okW D/\a9 D+g*a9 (vs.take i)=a9 (ww.take i)+18446744073709551616 ^ i*(c+b),n+2 -i⟩) ⟨0,0,0,[]⟩ ?ag ?bD
  case ag=>exact⟨ep _,by decide,by decide,rfl,Ht,by rw[fh,fh];rfl⟩
  case bD=>
   rintro⟨i,c,b,D⟩ hinv;try simp only at hinv
   obtain⟨ar,aJ,ak,cy,cc,k1⟩:=hinv;refine rg ?_;refine U V.bb ?_;refine aA ?_;refine If (fun ac'=>?_) fun ac'=>?_
   ·obtain⟨w,hw,Q9,lw⟩:=xc i I;obtain⟨u,hu,A6⟩:=zh nG (i:=i) I;have Hn:nth (b7 .u64 (A++(D++ww.drop i)++C)) (A.length+(i:Int).toNat*1)=some (.int .u64 (u:Int)):=DL cy (bX _) hu I;refine dW ?_;refine ao ?_;refine ae.block ?_;refine rg ?_;refine U V.ay ?_;refine U V.bh ?_;refine U V.cg ?_;refine al ?_;refine a2 ?_;refine al ?_;refine bN (G:=DG jE lw) (h:=?_);rintro v' m' ah hle ⟨rfl,rfl,rfl⟩;obtain⟨P,cX⟩:∃P,P=g*w:=⟨_,rfl⟩;rw[<-cX];have sk:=G9 jE lw;rw[<-cX] at sk;refine al ?_;refine a2 ?_;refine U V.au ?_;refine a2 ?_;refine al ?_;refine bN (G:=we (c:=0) I) (h:=?_);rintro v' m' ah hle ⟨rfl,rfl,rfl⟩;rw[show(P % 18446744073709551616+c+0) % 18446744073709551616=(P+c) % 18446744073709551616 by omega];refine al ?_;refine a2 ?_;refine al ?_;refine U V.aY ?_;rw[show((P / 18446744073709551616:Nat):Int)+(((P % 18446744073709551616+c+0) / 18446744073709551616:Nat):Int)=(((P+c) / 18446744073709551616:Nat):Int) by omega];refine U V.au ?_;refine a2 ?_;refine al ?_;refine U V.bh ?_;refine U V.cg ?_;refine al ?_;refine bN (G:=LJ ak) (h:=?_);rintro v' m' ah hle ⟨rfl,rfl,rfl⟩;refine al ?_;refine U V.bh ?_;refine' W.step rfl (.of (ia rfl rfl rfl rfl (hh rfl) rfl rfl rfl ?ad ?ag ?ap ?_));case ap=>repeat first|exact .head _ _ _ _|apply dh.tail|apply dh.app
    case ag=>exact HT cy I I
    case ad=>first|rfl|assumption
    refine U V.au ?_;refine a2 ?_;refine U V.aY ?_;refine U V.ay ?_;refine a3 ?_;refine fl ⟨i+1,(P+c) / 18446744073709551616,(if u<(P+c) % 18446744073709551616+b then 1 else 0),D++[(u+18446744073709551616 -(P+c) % 18446744073709551616 -b) % 18446744073709551616]⟩ ?_;exact⟨I,I,by split<;>omega,xl cy,Hu cc (fJ _ bC),ak6 (lo:=(P+c) % 18446744073709551616) cy hw hu k1 (by rw[<-cX];omega) (by split<;>omega)⟩
   ·obtain rfl:i=n+2:=I
    have Hn:nth (b7 .u64 (A++(D++ww.drop (n+2))++C)) (A.length+((n+2:Nat):Int).toNat*1)=some (.int .u64 (cm:Int)):=DL cy (bX _) oQ I;refine ao ?_;refine ae.exit ?_;refine rg ?_;refine al ?_;refine U V.bh ?_;refine U V.cg ?_;refine al ?_;refine bN (G:=LJ ak) (h:=?_);rintro v' m' ah hle ⟨rfl,rfl,rfl⟩;refine al ?_;refine U V.bh ?_;refine' W.step rfl (.of (ia rfl rfl rfl rfl (hh rfl) rfl rfl rfl ?ad ?ag ?ap ?_));case ap=>repeat first|exact .head _ _ _ _|apply dh.tail|apply dh.app
    case ag=>exact HT cy I I
    case ad=>first|rfl|assumption
    refine U V.au ?_;refine a3 ?_;obtain⟨z,aL⟩:∃z,z=(cm+18446744073709551616 -c -b) % 18446744073709551616:=⟨_,rfl⟩;obtain⟨bL,ls⟩:∃bL,bL=(if cm<c+b then 1 else 0):=⟨_,rfl⟩;have oh:z+c+b=cm+18446744073709551616*bL:=by rw[aL,ls];split<;>omega
    have ahG:bL<=1:=by rw[ls];split<;>omega
    have vt:z<18446744073709551616:=by rw[aL];exact fJ _ bC
    rw[<-aL,<-ls];have tA:=ak7 cy (show ww.length=n+2+1 by omega) lA oQ k1 oh;rw[show A++(D++[z]++ww.drop (n+2+1))++C=A++(D++[z])++C by rw[oy (show ww.length<=n+2+1 by omega),iU]];refine ao ?_;refine ae.block ?_;refine' ae.dO (l':=[(6,.int .u64 ((g):Int)),(11,.int .u64 ((bL):Int)),(0,_),(1,_),(5,_)]) ⟨?j4,?s3,rfl,rfl,rfl,trivial⟩ (bx _) ?_;case j4=>first|exact bg|exact aa some (aa (Value.int .u64) I)|exact aa some (aa (Value.int .i64) I)
    case s3=>first|exact bg|exact aa some (aa (Value.int .u64) I)|exact aa some (aa (Value.int .i64) I)
    refine ao ?_;refine' ae.e2 (fun(a6:Nat×Nat×(List Nat))=>match a6 with|(g,b,Z)=>⟨[(6,.int .u64 (g:Int)),(11,.int .u64 (b:Int))],[eO .u64 122 a (A++Z++C)],J,g<18446744073709551616/\b<=1/\Z.length=n+3/\okW Z/\a9 Z+g*a9 vs=a9 ww+18446744073709551616 ^ (n+3)*b/\a9 ww<(g+1)*a9 vs,g⟩) ⟨g,bL,D++[z]⟩ ?ag ?bD
    case ag=>exact⟨jE,ahG,xl cy,Hu cc vt,tA,vd⟩
    case bD=>
     rintro⟨g,b,Z⟩ hinv;try simp only at hinv
     obtain⟨jE,ak,Vy,JT,tA,vd⟩:=hinv;refine rg ?_;refine U V.ay ?_;refine U V.bb ?_;refine aA ?_;refine If (fun acS=>?_) fun acS=>?_
     ·obtain rfl:b=1:=I
      have ahs:a9 Z<18446744073709551616 ^ (n+3):=by have:=rO JT;rwa [Vy] at this
      have qo:1<=g:=by
       rcases jj g with k|k
       ·rw[k] at tA;omega
       ·exact k
      have atq:A++Z++C=A++([]++Z.drop 0)++C:=by rw[kp,hi]
      refine dW ?_;refine ao ?_;refine ae.block ?_;refine rg ?_;refine U V.ay ?_;refine U V.aY ?_;refine U V.au ?_;refine a3 ?_;rw[show(g:Int) -1=((g -1:Nat):Int) by omega];refine rg ?_;refine U V.au ?_;refine a2 ?_;refine al ?_;refine aA ?_;refine ae.block ?_;refine' ae.dO (l':=[(148,.int .i64 ((0):Int)),(17,.int .u64 ((0):Int)),(0,_),(1,_),(5,_),(6,_),(11,_),(146,_),(147,_)]) ⟨?ap4,?ap5,rfl,rfl,rfl,rfl,rfl,rfl,rfl,trivial⟩ (bx _) ?_;case ap4=>first|exact bg|exact aa some (aa (Value.int .u64) I)|exact aa some (aa (Value.int .i64) I)
      case ap5=>first|exact bg|exact aa some (aa (Value.int .u64) I)|exact aa some (aa (Value.int .i64) I)
      refine ao ?_;refine' ae.e2 (fun(a6:Nat×Nat×(List Nat))=>match a6 with|(i,c,D)=>⟨[(148,.int .i64 (i:Int)),(17,.int .u64 (c:Int))],[eO .u64 122 a (A++(D++Z.drop i)++C)],J,i<=n+2/\c<=1/\D.length=i/\okW D/\a9 D+18446744073709551616 ^ i*c=a9 (Z.take i)+a9 (vs.take i),n+2 -i⟩) ⟨0,0,[]⟩ ?ag ?bD
      case ag=>exact⟨ep _,by decide,rfl,Ht,by rw[fh,fh];rfl⟩
      case bD=>
       rintro⟨i,c,D⟩ hinv;try simp only at hinv
       obtain⟨ar,aJ,cy,cc,k1⟩:=hinv;refine rg ?_;refine U V.bb ?_;refine aA ?_;refine If (fun acU=>?_) fun acU=>?_
       ·obtain⟨w,hw,Q9,lw⟩:=xc i I;obtain⟨u,hu,A6⟩:=zh JT (i:=i) I;have Hn:nth (b7 .u64 (A++(D++Z.drop i)++C)) (A.length+(i:Int).toNat*1)=some (.int .u64 (u:Int)):=DL cy (bX _) hu I;refine dW ?_;refine ao ?_;refine ae.block ?_;refine rg ?_;refine U V.ay ?_;refine U V.bh ?_;refine U V.cg ?_;refine al ?_;refine a2 ?_;refine al ?_;refine U V.bh ?_;refine U V.cg ?_;refine al ?_;refine bN (G:=we aJ) (h:=?_);rintro v' m' ah hle ⟨rfl,rfl,rfl⟩;refine al ?_;refine U V.bh ?_;refine' W.step rfl (.of (ia rfl rfl rfl rfl (hh rfl) rfl rfl rfl ?ad ?ag ?ap ?_));case ap=>repeat first|exact .head _ _ _ _|apply dh.tail|apply dh.app
        case ag=>exact HT cy I I
        case ad=>first|rfl|assumption
        refine U V.au ?_;refine a2 ?_;refine U V.aY ?_;refine U V.ay ?_;refine a3 ?_;refine fl ⟨i+1,(u+w+c) / 18446744073709551616,D++[(u+w+c) % 18446744073709551616]⟩ ?_;exact⟨I,I,xl cy,Hu cc (fJ _ bC),ab7 cy hw hu k1⟩
       ·obtain rfl:i=n+2:=I
        obtain⟨y,aB,jK⟩:=zh JT (i:=n+2) I;have Hn:nth (b7 .u64 (A++(D++Z.drop (n+2))++C)) (A.length+((n+2:Nat):Int).toNat*1)=some (.int .u64 (y:Int)):=DL cy (bX _) aB I;have Wt:=acs tA ahs vd (ab8 cy (show Z.length=n+2+1 by omega) lA aB k1) I;refine ao ?_;refine ae.exit ?_;refine rg ?_;refine al ?_;refine U V.bh ?_;refine U V.cg ?_;refine U V.ay ?_;refine bN (G:=we aJ) (h:=?_);rintro v' m' ah hle ⟨rfl,rfl,rfl⟩;refine al ?_;refine U V.bh ?_;refine' W.step rfl (.of (ia rfl rfl rfl rfl (hh rfl) rfl rfl rfl ?ad ?ag ?ap ?_));case ap=>repeat first|exact .head _ _ _ _|apply dh.tail|apply dh.app
        case ag=>exact HT cy I I
        case ad=>first|rfl|assumption
        refine U V.au ?_;refine a2 ?_;refine al ?_;refine U V.aY ?_;rw[show IntKind.u64.wrap (((1:Nat):Int) -(((y+0+c) / 18446744073709551616:Nat):Int))=((1 -(y+0+c) / 18446744073709551616:Nat):Int) from by rw[Sk];omega];refine U V.au ?_;refine a3 ?_;rw[show A++(D++[(y+0+c) % 18446744073709551616]++Z.drop (n+2+1))++C=A++(D++[(y+0+c) % 18446744073709551616])++C by rw[oy (show Z.length<=n+2+1 by omega),iU]];refine fl ⟨g -1,1 -(y+0+c) / 18446744073709551616,D++[(y+0+c) % 18446744073709551616]⟩ ?_;exact⟨I,I,xl cy,Hu cc (fJ _ bC),Wt.2.1,Wt.2.2⟩
     ·obtain rfl:b=0:=I
      rw[jk,iI] at tA;obtain⟨aC,aW⟩:=xJ (c4:=a9 ww) (V:=a9 vs) (g:=g) I vd;refine ao ?_;refine ae.exit ?_;refine rg ?_;refine al ?_;refine aA ?_;refine ae.ret ?_;refine'⟨.inr rfl,rfl,_,_,.tmp rfl .nil,bx _,⟨Z,by rw[aC];rfl,rfl,Vy,JT,by rw[aW];omega,by rw[aC];exact jE,rfl⟩⟩
end
section
variable {K:ef}{B:dy}{o:Oper}{n:Nat}{ds:eK}{l:List (Nat×Value)}{m:a8}{J:an}
theorem aap{t e:TypeId}{x lo ar:Operand}{di off k cap sz:Nat}{zs:List Value}{a b:Int}{qB Dw:IntKind}(aj:o.op=.slice t x (some lo) (some ar) none)(ab:bT l x=some (.slice (some ⟨di,off,none⟩) k cap))(aS:kQ K.P t=some (e,sz,zs))(hz:bT l lo=some (.int Dw a))(kM:bT l ar=some (.int qB b))(aO:0<=a)(ad:a<=b)(af:b<=cap)(aV:a<cap)(aJ:cap<1000000):c5 K B o n ds l m J (.slice (some ⟨di,off+a.toNat*sz,none⟩) (b -a).toNat (cap -a.toNat)):=by
 have J1:cap<cQ:=kF aJ;obtain⟨hu,ea,_⟩:=sV aS;intro call aQ S H ax aH;obtain⟨xy,pH,pI⟩:=uP (jr:=k) (top:=cap) (dl:=(k:Int)) (i:=b) (x:=some ar) ax H (by unfold ti;simp only[kM]) I af rfl;obtain⟨ol,Hv,xA⟩:=uP (jr:=0) (top:=b.toNat) (dl:=0) (i:=a) (x:=some lo) ax H (by unfold ti;simp only[hz]) aO I rfl;unfold cL e3;simp only[aj];show mn K.P _ t (ba S.T H x) (hH S.T H (some lo)) (hH S.T H (some ar))=_;rw[dg ax H ab,pH,Hv];unfold mn;simp only
 have:kt K.P H t (.slice (some ⟨di,off,none⟩) k cap) ol xy=some (.slice (some ⟨di,off+a.toNat*sz,none⟩) (b -a).toNat (cap -a.toNat)):=by
  unfold kt;simp only[hu,ea];rw[show Nat.beq cap cQ=false from by
   cases ak:Nat.beq cap cQ with
   |false=>rfl
   |true=>have:=eC ak;omega,dB,pI]
  simp only[xA];rw[show Nat.beq cap a.toNat=false from by
   cases ak:Nat.beq cap a.toNat with
   |false=>rfl
   |true=>have:=eC ak;omega,dB]
  simp
  omega
 rw[this];rfl
end
theorem alq{y s t:Nat}(aE:(aR y)[(aR y).length -1]?=some t)(aO:y≠0)(ag:s=64 -fD t):
 s<=63/\y*2 ^ s<18446744073709551616 ^ (aR y).length/\(∀l:List Nat,okW l->l.length=(aR y).length->a9 l=y*2 ^ s->∀v1,l[(aR y).length -1]?=some v1->9223372036854775808<=v1)/\18446744073709551616 ^ ((aR y).length -1)*2 ^ s<=y*2 ^ s:=by
 have aD:=KX aO;have sB:t≠0:=LU y t (by rw[qU];exact aE);have tM:=xz (nF y) aE;obtain⟨dv,dV,en⟩:=K6 sB tM;rw[<-ag] at dv dV en;obtain⟨k,hk⟩:∃k,(aR y).length=k+1:=⟨(aR y).length -1,I⟩;rw[hk,ld] at aE;have n1:=la aE;rw[dd I,hp] at n1;have hz:=rO (sM (i:=k) (nF y));rw[dY,gn I] at hz;rw[hk,ld];have ap:0<2 ^ s:=lS s;have Ww:2 ^ (64 -s)*2 ^ s=18446744073709551616:=wh I;have aq:y*2 ^ s=a9 ((aR y).take k)*2 ^ s+18446744073709551616 ^ k*(t*2 ^ s):=by
  conv=>lhs;rw[n1]
  rw[c3,fi]
 --t*2^s is a ato of 2^s below 2^64
 have vm:(t+1)*2 ^ s<=18446744073709551616:=by
  have ad:t<2 ^ (64 -s):=EC (a:=2 ^ s) (by rw[Ww];exact dv);rw[<-Ww];exact e0 _ ad
 have cA:y*2 ^ s<18446744073709551616 ^ (k+1):=by
  have ad:a9 ((aR y).take k)*2 ^ s<18446744073709551616 ^ k*2 ^ s:=B9 hz ap;have af:18446744073709551616 ^ k*((t+1)*2 ^ s)<=18446744073709551616 ^ k*18446744073709551616:=hs _ vm;rw[c3,iL,cS] at af;rw[fC,aq];omega
 refine⟨en,cA,fun l cc ke vj v1 l4=>?_,?_⟩
 ·have el:=la l4
  rw[dd I,vj] at el;have ad:=rO (sM (i:=k) cc);rw[dY,gn I] at ad;have aV:18446744073709551616 ^ k*9223372036854775808<=18446744073709551616 ^ k*(t*2 ^ s):=hs _ dV;have bq:18446744073709551616 ^ k*9223372036854775808<18446744073709551616 ^ k*(v1+1):=by rw[cS,gT];omega
  have:=Mq bq;omega
 ·refine e0 _ ?_
  have ad:18446744073709551616 ^ k*1<=18446744073709551616 ^ k*t:=hs _ I;omega
theorem aax{l:List Nat}{n:Nat}(cc:okW l)(aD:n<=l.length)(h:a9 l<18446744073709551616 ^ n):a9 (l.take n)=a9 l/\a9 (l.drop n)=0:=by
 have e:=BN l n aD;have aL:a9 (l.drop n)=0:=by
  rcases jj (a9 (l.drop n)) with k|k
  ·exact k
  ·have:=hs (18446744073709551616 ^ n) k
   omega
 rw[aL] at e;exact⟨I,aL⟩
theorem aqn{A W C:List Nat}{n gQ:Nat}(cc:okW (A++W++C))(gX:W.length=n+1)(az:gQ<18446744073709551616 ^ n)(aq:a9 ((A++W++C).drop (A.length+1))<gQ):
 a9 W<18446744073709551616*gQ/\a9 C=0/\okW W:=by
 rw[nM,Mb,oy I,kp,Mk] at aq
 match W,gX with
 |w0::zU,gX=>
  have gX:zU.length=n:=by simpa using gX
  rw[SS,SV,hi,uq,gX] at aq;have nG:okW (w0::zU):=fun x ab=>cc x (nN _ (eF _ ab));have aO:=nG w0 (.head _);have hx:a9 C=0:=by
   rcases jj (a9 C) with k|k
   ·exact k
   ·have:=hs (18446744073709551616 ^ n) k
    omega
  rw[hx,jk,iI] at aq;refine⟨?_,hx,nG⟩;show w0+18446744073709551616*a9 zU<_;omega
theorem aqp{A W nQ C:List Nat}{n gQ T q R:Nat}(gX:W.length=n)(Oy:nQ.length=n)(hx:a9 C=0)(e:a9 nQ=a9 W % gQ)(bS:q=a9 W / gQ)(h:T=a9 (A++W++C)+18446744073709551616 ^ (A.length+1)*R):
 T=a9 (A++nQ++C)+18446744073709551616 ^ A.length*(gQ*q+18446744073709551616*R):=by
 rw[h,uq,uq,uq,uq,hx,jk,jk,iI,iI,e,bS];have ad:=lR (a9 W) gQ;have af:18446744073709551616 ^ A.length*a9 W=18446744073709551616 ^ A.length*(gQ*(a9 W / gQ))+18446744073709551616 ^ A.length*(a9 W % gQ):=by rw[<-cS,ad]
 rw[af,cS,fC,fi _ 18446744073709551616 R];omega
theorem ZN{l:List Nat}{j n:Nat}(h:j+n<=l.length):∃A W C,l=A++W++C/\A.length=j/\W.length=n:=
 ⟨l.take j,(l.drop j).take n,(l.drop j).drop n,by rw[nM,Ex,Ex],by rw[dY];omega,by rw[dY,lQ];omega⟩
theorem ao9{rR:List Nat}{x s aG kz gQ:Nat}(aD:rR.length=aG+1)(az:a9 rR=x*2 ^ s)(ab:x<18446744073709551616 ^ aG)(ad:1<=kz)(af:kz<=aG)(oR:18446744073709551616 ^ (kz -1)*2 ^ s<=gQ):a9 (rR.drop (aG -kz+1))<gQ:=by
 have e:=BN rR (aG -kz+1) I;have aV:x*2 ^ s<18446744073709551616 ^ aG*2 ^ s:=B9 ab (lS s);have bq:18446744073709551616 ^ aG*2 ^ s=18446744073709551616 ^ (aG -kz+1)*(18446744073709551616 ^ (kz -1)*2 ^ s):=by
  rw[<-fi,<-oB,show aG -kz+1+(kz -1)=aG by omega]
 have fL:=hs (18446744073709551616 ^ (aG -kz+1)) oR;refine Mq (a:=18446744073709551616 ^ (aG -kz+1)) ?_;omega
theorem apT{q:List Nat}{j y:Nat}(h:j<q.length):a9 ((q.set j y).drop j)=y+18446744073709551616*a9 (q.drop (j+1)):=by
 rw[Ea (x:=y) (by rw[mS,bj rfl,bj h]),B5 I]
section
variable {Q:dD Tryz.prog}{g0:Nat}{J:an}
theorem Nr{v w:Value}{x y:Nat}(ab:cx J v x)(aB:cx J w y)(gP:(aR x).length<=100000)(jK:(aR y).length<=100000)(l9:y≠0):Fn (a1 Q g0) 76 [v,w] [] J (fun u m' ah=>J.le ah/\m'=[]/\∃q r,u=.tuple #[q,r]/\cx ah q (x / y)/\cx ah r (x % y)):=by
 have dM:=ab;have eU:=aB;obtain⟨bQ,bH,rfl,aX⟩:=ab.bG;obtain⟨bL,bM,rfl,aU⟩:=aB.bG;refine Fn.cr (cu Tryz.func76) rfl rfl fun H=>?_;refine rg ?_;refine al ?_;refine a2 ?_;refine al ?_;refine bN (G:=Fc dM eU gP jK) (h:=?_);rintro v' m' ah hle ⟨rfl,rfl,rfl⟩;refine U V.bb ?_;refine aA ?_;refine If (fun jo=>?_) fun jo=>?_
 ·have cA:=r'.1 jo;refine rg ?_;refine al ?_;refine aA ?_;refine ae.ret ?_;refine'⟨.inr rfl,rfl,_,[],.tmp rfl (.tmp rfl .nil),br _,?_⟩;first
   |exact⟨an.le.refl _,rfl,_,_,rfl,by rw[rY cA];exact cx.nil,by rw[nO cA];exact dM⟩
 ·have jZ:y<=x:=qW fun h=>jo (r'.2 h);have ke:(aR y).length<=(aR x).length:=jv jZ;have xe:=KX l9;obtain⟨Ce,hI,tm,n1,rfl,CN,og⟩:=eU.at l9;refine fy ?_;refine al ?_;refine U V.bb ?_;refine aA ?_;refine If (fun iw=>?_) fun iw=>?_
  ·obtain⟨aC,aW,cw⟩:=QU (x:=y) I;obtain⟨d,aq,gv,_⟩:=og 0 I;rw[aC] at aq;obtain rfl:y=d:=v9 aq;refine rg ?_;refine al ?_;refine U V.bh ?_;refine U V.cg ?_;refine bN (G:=Uw dM gP I aW) (h:=?_);rintro v' m' bK aK ⟨_,rfl,Eh,rfl,qw⟩;have WK:=qw;obtain⟨cZ,db,rfl,b0⟩:=qw.bG;refine al ?_;refine a2 ?_;refine al ?_;refine ll (kj Q g0) fun abZ=>?_;refine' W.step rfl (Exec.call rfl rfl rfl rfl rfl rfl rfl (cj:=[eO .u64 122 abZ [x % y]]) (eB:=[]) (.refl _) trivial (xU (l:=[x % y]) (n:=1) (fun z aL=>by rw[zK.1 aL];exact zR (fJ _ I) aW) (bX _) (bX _) bC) ?_);rintro v' m' ah hle ⟨k,rfl,hk,gD,rfl,rfl⟩;refine al ?_;refine a3 ?_;refine ae.h9 rfl fun bi=>?_;refine ao ?_;refine ae.ret ?_;refine'⟨.inr rfl,rfl,_,[],.tmp rfl (.tmp rfl .nil),br _,?_⟩;first
    |exact⟨an.le.refl _,rfl,_,_,rfl,by rw[rY cA];exact cx.nil,by rw[nO cA];exact dM⟩
    |(have c:=iw
      exact⟨aK.trans bi,rfl,_,_,rfl,WK.mono bi,cx.row (l:=[x % y]) (by rw[gD];show aR (a9 [x % y])=_;rw[Ib]) hk hk bC (an.g7 _ _ _)⟩)
  ·obtain⟨n,aE⟩:∃n,(aR y).length=n+2:=⟨(aR y).length -2,I⟩;obtain⟨qO,P6,Hq,XN⟩:=og ((aR y).length -1) I;have Hq:nth tm (hI+(((aR y).length:Int) -1).toNat*1)=some (.int .u64 (qO:Int)):=by rw[show(((aR y).length:Int) -1).toNat=(aR y).length -1 by omega];exact Hq
   obtain⟨md,Ge⟩:∃md,md=(aR x).length -(aR y).length+1:=⟨_,rfl⟩;obtain⟨s,ag⟩:∃s,s=64 -fD qO:=⟨_,rfl⟩;obtain⟨RD,lz,GA,Gy⟩:=alq P6 l9 ag;obtain⟨kl,oR⟩:∃kl,kl=y*2 ^ s:=⟨_,rfl⟩;rw[<-oR] at lz GA Gy;have PX:0<kl:=by rw[oR];exact iW I (lS s)
   refine fy ?_;refine al ?_;refine a2 ?_;refine al ?_;refine U V.aY ?_;refine U V.bh ?_;refine U V.cg ?_;refine bN (G:=QA XN) (h:=?_);rintro v' m' ah hle ⟨rfl,rfl,rfl⟩;rw[<-ag];refine U V.d' ?_;refine U V.au ?_;refine aA ?_;refine ae.draw rfl (by kernel_rfl) (a':=[.val 0,.val 1,.val 3,.val 4,.val 6,.bR 2,.b9 [6,4,3],.bR 5,.val 7,.val 8,.val 9,.b9 [6]]) (by kernel_rfl) ?_;refine aT rfl V.ay ?_;refine aT rfl V.ay ?_;refine aT rfl V.ay ?_;refine aT rfl V.ay ?_;refine aT rfl V.ay ?_;refine bp.iR ?_;refine' bc.Ug rfl rfl rfl rfl rfl rfl rfl rfl rfl (fun x ab=>by cases ab) (fun v m' ah h=>by obtain⟨a,z,_,rfl,_⟩:=h;exact⟨_,_,.head _⟩) (Xn dM gP RD) ?_;rintro v' m' ah hle ⟨uO,rR,rfl,rfl,G0,Rd,Ic,rfl⟩;refine bc.b9 eH ?_;refine' bc.Ug rfl rfl rfl rfl rfl rfl rfl rfl rfl (fun x ab=>by rcases gb.1 ab with rfl|ab<;>first|rfl|cases ab) (fun v m' ah h=>by obtain⟨a,z,_,rfl,_⟩:=h;exact⟨_,_,.head _⟩) (Xn eU jK RD) ?_;rintro v' m' ah hle ⟨zY,mv,rfl,rfl,XP,DP,vR,rfl⟩;refine bc.iQ (fun x ab=>iV (f:=fun x=>(x.f,x.b2)) ab) ?_;refine' bp.val rfl rfl rfl rfl (BJ rfl rfl (kj Q g0) rfl ?aO ?ad ?af) ?_;case aO=>exact bz
   case ad=>exact bz
   case af=>first|assumption|exact kF bz
   refine eg ?_;refine bp.b9 eH ?_;refine bp.nil ?_;refine ae.h9 rfl fun Pd=>?_;rw[<-oR] at vR;obtain⟨sC,_⟩:=aax (n:=(aR y).length) DP I (by rw[vR];exact lz);rw[vR] at sC;have V':(mv.take (aR y).length).length=(aR y).length:=by rw[dY];omega
   have Ko:=cR.row (J:=J.add zY (b7 .u64 mv,122)) (k:=.u64) (l:=mv) (n:=(aR y).length) (cap:=(aR y).length+1) I I (kF I) (an.g7 _ _ _);refine rg ?_;refine al ?_;refine U V.aY ?_;refine U V.aY ?_;refine' W.step rfl (.of (qN rfl rfl rfl rfl rfl (kj Q g0) ?aO ?ad ?af fun I5=>?_));case aO=>exact bz
   case ad=>exact bz
   case af=>exact bz
   rw[show(((aR x).length:Int) -((aR y).length:Int)+1).toNat=md by omega,zero_num];refine U V.au ?_;refine a2 ?_;refine al ?_;refine U V.aY ?_;refine U V.au ?_;refine aA ?_;refine ae.block ?_;refine ao ?_;refine ae.ub (.swap _ _ _) ?_;refine' ae.dO (l':=[(12,.int .i64 (((md):Int) -1)),(4,_),(8,_),(9,_),(10,_),(11,_)]) ⟨?qK,rfl,rfl,rfl,rfl,rfl,trivial⟩ (bx _) ?_;case qK=>first|exact bg|exact aa some (aa (Value.int .u64) I)|exact aa some (aa (Value.int .i64) I)
   refine ao ?_;refine' ae.e2 (fun(a6:Nat×(List Nat)×(List Nat))=>match a6 with|(k,ul,q)=>⟨[(12,.int .i64 ((k:Int) -1))],[eO .u64 122 uO ul,eO .u64 122 I5 q],(J.add zY (b7 .u64 mv,122)),k<=md/\ul.length=(aR x).length+1/\okW ul/\q.length=md/\okW q/\a9 (ul.drop k)<kl/\x*2 ^ s=a9 ul+18446744073709551616 ^ k*(kl*a9 (q.drop k)),k⟩) ⟨md,rR,List.replicate md 0⟩ ?ag ?bD
   case ag=>exact⟨bX _,G0,Rd,mT,y7,by rw[Ge];exact ao9 G0 Ic (zx (bX _)) xe ke Gy,by rw[oy (by rw[mT];exact bX _),Ic];rfl⟩
   case bD=>
    rintro⟨k,ul,q⟩ hinv;try simp only at hinv
    obtain⟨hk,vo,cc,bS,Gi,pq,cB⟩:=hinv;refine rg ?_;refine U V.ay ?_;refine U V.bb ?_;refine aA ?_;refine If (fun Jm=>?_) fun Jm=>?_
    ·obtain⟨j,rfl⟩:∃j,k=j+1:=⟨k -1,I⟩;obtain⟨hJ,vI,fg,rfl,Od,wP⟩:=ZN (l:=ul) (j:=j) (n:=(aR y).length+1) I;subst Od;have Po:okW hJ:=fun z aL=>cc z (nN _ (nN _ aL));have Pp:okW fg:=fun z aL=>cc z (eF _ aL);obtain⟨P1,si,Pq⟩:=aqn cc wP lz pq;refine dW ?_;refine ao ?_;refine ae.block ?_;refine rg ?_;refine al ?_;refine U V.aY ?_;refine U V.aY ?_;refine' W.step rfl (Exec.val rfl rfl (aap rfl rfl (kj Q g0) rfl rfl ?aO ?ad ?af ?aV ?bq) ?_);case aO=>exact bz
     case ad=>exact bz
     case af=>exact bz
     case aV=>exact bz
     case bq=>exact bz
     rw[show 0+(((hJ.length+1:Nat):Int) -1).toNat*1=hJ.length by omega,show(((hJ.length+1:Nat):Int) -1+((aR y).length:Int)+1 -(((hJ.length+1:Nat):Int) -1)).toNat=n+3 by omega,show(((hJ.length+1:Nat):Int) -1).toNat=hJ.length by omega];refine U V.ay ?_;refine' W.step rfl (Exec.call rfl rfl rfl rfl rfl rfl rfl (cj:=[eO .u64 122 uO (hJ++vI++fg)]) (eB:=[eO .u64 122 I5 q]) (.refl _) trivial (aoE (n:=n) Ko (by rw[V'];exact aE) (sM DP) I Pq I I I I (fun v1 ad=>GA _ (sM DP) V' sC v1 (by rw[show(aR y).length -1=n+1 by omega];exact ad)) (by rw[sC];exact P1)) ?_);rintro v' m' ah hle ⟨Br,rfl,rfl,P0,P2,GG,Py,rfl⟩;refine U V.bh ?_;refine' W.step rfl (.of (ia rfl rfl rfl rfl (hh rfl) rfl rfl rfl ?ad ?ag ?ap ?_));case ap=>repeat first|exact .head _ _ _ _|apply dh.tail|apply dh.app
     case ag=>exact k8 hJ.length I
     case ad=>first|rfl|assumption
     refine a3 ?_;have JR:x*2 ^ s=a9 (hJ++Br++fg)+18446744073709551616 ^ hJ.length*(kl*a9 ((q.set hJ.length (a9 vI / a9 (mv.take (aR y).length))).drop hJ.length)):=by
        rw[apT I,cS kl,qX kl];refine aqp (n:=n+3) I P0 si (by rw[GG,sC]) (by rw[sC]) cB
     have OQ:a9 ((hJ++Br++fg).drop hJ.length)<kl:=by
        rw[nM,Mb,oy (bX _),kp,uJ,hi,uq,si,jk,iI,GG,sC];exact fJ _ PX
     refine rg ?_;refine U V.ay ?_;refine U V.aY ?_;refine U V.au ?_;refine a3 ?_;refine fl ⟨hJ.length,hJ++Br++fg,q.set hJ.length (a9 vI / a9 (mv.take (aR y).length))⟩ ?_;exact⟨I,by rw[eS,eS] at vo ⊢;omega,Hs (Hs Po P2) Pp,by rw[hr];exact bS,rC Gi Py,OQ,JR⟩
    ·obtain rfl:k=0:=I
     rw[yc,iL,hi] at cB;rw[hi] at pq;obtain⟨f1,f2⟩:=xJ (c4:=x*2 ^ s) (V:=kl) (g:=a9 q) (by rw[dz (a9 q) kl];omega) (by rw[c3,iL,dz (a9 q) kl];omega);obtain⟨s1,s2⟩:=Nq (N:=x) (d:=y) (lS s);rw[<-oR,f1] at s1;rw[<-oR,f2,show x*2 ^ s -a9 q*kl=a9 ul by rw[dz (a9 q)];omega] at s2;obtain⟨Kn,_⟩:=aax (n:=(aR y).length) cc I (zR pq lz);refine ao ?_;refine ae.exit ?_;refine ao ?_;refine ae.draw rfl (by kernel_rfl) (a':=[.val 0,.val 2,.val 3,.val 4,.val 6,.bR 1,.b9 [6,4,3,2],.bR 5,.b9 [6],.bR 7,.bR 8,.val 9]) (by kernel_rfl) ?_;refine eg ?_;refine' bp.val rfl rfl rfl rfl (BJ rfl rfl (kj Q g0) rfl ?aO ?ad ?af) ?_;case aO=>exact bz
     case ad=>exact bz
     case af=>first|assumption|exact kF bz
     refine aT rfl V.ay ?_;refine bp.iR ?_;refine' bc.call rfl rfl rfl rfl rfl rfl rfl rfl rfl (fun x ab=>by cases ab) (cj:=[eO .u64 122 I5 q]) (eB:=[eO .u64 122 uO ul]) (.swap _ _ _) trivial (xU (l:=q) Gi I (bX _) I) ?_;rintro v' m' ah hle ⟨akb,rfl,O8,Qa,rfl,rfl⟩;refine bc.b9 ⟨?kx,?a7,?a0,?bJ,trivial⟩ ?_;case kx=>
      refine' hN.val rfl rfl rfl (LO rfl rfl) rfl ?he;case he=>exact iG
     case a7=>
      refine' hN.val rfl rfl rfl (BJ rfl rfl (kj Q g0) rfl ?aO ?ad ?af) rfl ?he;case aO=>exact bz
      case ad=>exact bz
      case af=>first|assumption|exact kF bz
      case he=>exact iG
     case a0=>
      refine' hN.val rfl rfl rfl (LO rfl rfl) rfl ?he;case he=>exact iG
     case bJ=>
      refine' hN.val rfl rfl rfl (LO rfl rfl) rfl ?he;case he=>exact iG
     refine' bc.call rfl rfl rfl rfl rfl rfl rfl rfl rfl (fun z aL=>by rcases gb.1 aL with rfl|aL;exact fun _ e=>(by have e:=(ID e).1;injection e with _ aC aW;omega);cases aL) (cj:=[eO .u64 122 uO ul]) (eB:=[eO .u64 122 I5 q]) (.swap _ _ _) trivial (xU (l:=ul) (n:=(aR y).length) cc I I I) ?_;rintro v' m' ah hle ⟨Qj,rfl,ail,AX,rfl,rfl⟩;refine bc.iQ (fun x ab=>iV (f:=fun x=>(x.f,x.b2)) ab) ?_;refine bp.b9 eH ?_;refine bp.et rfl fun Pc On=>?_;rw[Kn] at AX;have P3:cx _ (.slice (some ⟨uO,0,none⟩) Qj ((aR x).length+1)) (a9 ul):=cx.row AX I I (kF I) On;refine dl rfl (G:=ant P3 (by rw[<-AX,dY];omega) RD) (h:=?_);rintro v' m' ga cn ⟨_,rfl,pB⟩;have ajy:=pB;obtain⟨iN,fp,rfl,mM⟩:=pB.bG;refine zD rfl V.au ?_;refine aT rfl V.au ?_;refine bp.nil ?_;refine ae.h9 rfl fun Gb=>?_;refine ao ?_;refine ae.ret ?_;refine'⟨.inr rfl,rfl,_,[],.tmp rfl (.tmp rfl .nil),br _,?_⟩;first
        |exact⟨an.le.refl _,rfl,_,_,rfl,by rw[rY cA];exact cx.nil,by rw[nO cA];exact dM⟩
        |(have c:=Jm
          exact⟨((Pd.trans Pc).trans cn).trans Gb,rfl,_,_,rfl,cx.row (by rw[Qa,<-bS,dd (bX _),s1]) I O8 (kF I) (an.g7 _ _ _),by rw[<-s2];exact ajy.mono Gb⟩)
        |(have c:=iw
          exact⟨aK.trans bi,rfl,_,_,rfl,WK.mono bi,cx.row (l:=[x % y]) (by rw[gD];show aR (a9 [x % y])=_;rw[Ib]) hk hk bC (an.g7 _ _ _)⟩)
end
end
end Go.Opn
namespace Go.Opn
noncomputable section
def yq(s:Bool)(u v:Nat)(a b:Nat):Int:=if s then(u:Int)*a -(v:Int)*b else(v:Int)*b -(u:Int)*a
theorem U8{bI v0 u1 v1 a b:Nat}{x y:Int}(s:Bool)(aq:(bI:Int)*v1 -(v0:Int)*u1=if s then 1 else -1)(ab:x=yq s bI v0 a b)(aB:y=yq (!s) u1 v1 a b):Nat.gcd x.natAbs y.natAbs=Nat.gcd a b:=by
 have key:(a:Int)=v1*x+v0*y/\(b:Int)=u1*x+bI*y:=by
  subst ab;subst aB
  cases s with
  |true=>
   have aq:(bI:Int)*v1 -(v0:Int)*u1=1:=aq
   show(a:Int)=v1*((bI:Int)*a -(v0:Int)*b)+v0*((v1:Int)*b -(u1:Int)*a)/\(b:Int)=u1*((bI:Int)*a -(v0:Int)*b)+bI*((v1:Int)*b -(u1:Int)*a)
   constructor
   ·have:(v1:Int)*((bI:Int)*a -(v0:Int)*b)+v0*((v1:Int)*b -(u1:Int)*a)=((bI:Int)*v1 -(v0:Int)*u1)*a:=by
     simp only[BZ,nk]
     have aC:(v1:Int)*(bI*a)=bI*v1*a:=by ac_rfl
     have aW:(v1:Int)*(v0*b)=v0*(v1*b):=by ac_rfl
     have cw:(v0:Int)*(u1*a)=v0*u1*a:=by ac_rfl
     omega
    rw[this,aq,rV]
   ·have:(u1:Int)*((bI:Int)*a -(v0:Int)*b)+bI*((v1:Int)*b -(u1:Int)*a)=((bI:Int)*v1 -(v0:Int)*u1)*b:=by
     simp only[BZ,nk]
     have aC:(u1:Int)*(bI*a)=bI*(u1*a):=by ac_rfl
     have aW:(u1:Int)*(v0*b)=v0*u1*b:=by ac_rfl
     have cw:(bI:Int)*(v1*b)=bI*v1*b:=by ac_rfl
     omega
    rw[this,aq,rV]
  |false=>
   have aq:(bI:Int)*v1 -(v0:Int)*u1=-1:=aq
   show(a:Int)=v1*((v0:Int)*b -(bI:Int)*a)+v0*((u1:Int)*a -(v1:Int)*b)/\(b:Int)=u1*((v0:Int)*b -(bI:Int)*a)+bI*((u1:Int)*a -(v1:Int)*b)
   constructor
   ·have:(v1:Int)*((v0:Int)*b -(bI:Int)*a)+v0*((u1:Int)*a -(v1:Int)*b)=-(((bI:Int)*v1 -(v0:Int)*u1)*a):=by
     simp only[BZ,nk]
     have aC:(v1:Int)*(bI*a)=bI*v1*a:=by ac_rfl
     have aW:(v1:Int)*(v0*b)=v0*(v1*b):=by ac_rfl
     have cw:(v0:Int)*(u1*a)=v0*u1*a:=by ac_rfl
     omega
    rw[this,aq];omega
   ·have:(u1:Int)*((v0:Int)*b -(bI:Int)*a)+bI*((u1:Int)*a -(v1:Int)*b)=-(((bI:Int)*v1 -(v0:Int)*u1)*b):=by
     simp only[BZ,nk]
     have aC:(u1:Int)*(bI*a)=bI*(u1*a):=by ac_rfl
     have aW:(u1:Int)*(v0*b)=v0*u1*b:=by ac_rfl
     have cw:(bI:Int)*(v1*b)=bI*v1*b:=by ac_rfl
     omega
    rw[this,aq];omega
 have so:∀d:Nat,d ∣ x.natAbs->d ∣ y.natAbs->d ∣ a/\d ∣ b:=fun d ad af=>by
  have ad:(d:Int) ∣ x:=rU.2 ad
  have af:(d:Int) ∣ y:=rU.2 af
  exact⟨uA.1 (by rw[key.1];exact L5 (o4 ad) (o4 af)),uA.1 (by rw[key.2];exact L5 (o4 ad) (o4 af))⟩
 have VJ:∀(d:Nat) (t:Bool) (u v:Nat),d ∣ a->d ∣ b->d ∣ (yq t u v a b).natAbs:=fun d t u v ad af=>by
  have ad:(d:Int) ∣ (a:Int):=uA.2 ad
  have af:(d:Int) ∣ (b:Int):=uA.2 af
  refine rU.1 ?_
  unfold yq
  split
  ·exact L6 (o4 ad) (o4 af)
  ·exact L6 (o4 af) (o4 ad)
 refine Mn (Ey ?_ ?_) (Ey ?_ ?_)
 ·exact(so _ (lf _ _) (nl _ _)).1
 ·exact(so _ (lf _ _) (nl _ _)).2
 ·rw[ab];exact VJ _ _ _ _ (lf _ _) (nl _ _)
 ·rw[aB];exact VJ _ _ _ _ (lf _ _) (nl _ _)
theorem Xj{f1 ck f2 ch m n bO bA K M N QH Q1:Nat}(ad:f1*m=bO+ck*n)(af:ch*n=bA+f2*m)(u7:M=m*K+QH)(gC:N=n*K+Q1)(H1:f2*QH<=bA*K)(aI:bA<=bO)(cz:(ck+ch)*Q1<(bO -bA)*K):f2*M<=ch*N/\(ck+ch)*N<(f1+f2)*M:=by
 subst u7;subst gC
 have aC:f1*m*K=bO*K+ck*n*K:=by rw[ad,c3]
 have aW:ch*n*K=bA*K+f2*m*K:=by rw[af,c3]
 have cw:(bO -bA)*K=bO*K -bA*K:=Tk _ _ _
 have ed:bA*K<=bO*K:=e0 _ aI
 constructor
 ·rw[cS,cS,<-fi,<-fi]
  have:0<=ch*Q1:=ep _
  omega
 ·rw[cS,cS,<-fi,<-fi,c3 ck ch n,c3 f1 f2 m,c3 (ck*n),c3 (f1*m)]
  have:0<=(f1+f2)*QH:=ep _
  omega
structure te (x y A B:Nat) (bO bA bI u1 cm v0 v1 v2:Nat) (e:Bool):Prop where
 dQ:if e then v1*y=bO+u1*x else u1*x=bO+v1*y
 ee:if e then cm*x=bA+v2*y else v2*y=bA+cm*x
 xs:v2*bO+v1*bA=x
 x3:cm*bO+u1*bA=y
 H5:cm<=v2
 aaj:u1<=v1\/(e=false/\v1=0/\u1=1/\cm=0/\v2=1)
 BI:1<=v2
 xI:v0=0\/((if e then bI*v1=v0*u1+1 else v0*u1=bI*v1+1)/\(if e then v0*B<=bI*A/\u1*A<=v1*B/\v1*B+v0*B<bI*A+u1*A/\bI*A<=v0*B+B else bI*A<=v0*B/\v1*B<=u1*A/\u1*A+bI*A<v0*B+v1*B/\v0*B<=bI*A+B))
 le:(v1=0/\u1=1)\/((if e then u1*A<=v1*B/\v1*B<=u1*A+B else v1*B<=u1*A/\u1*A<=v1*B+B))
 Cs:if e then v1*cm=u1*v2+1 else u1*v2=v1*cm+1
theorem te.start{x y A B:Nat}:te x y A B x y 0 1 0 0 0 1 false:=
 ⟨by simp,by simp,by simp,by simp,by simp,.inr ⟨rfl,rfl,rfl,rfl,rfl⟩,bX _,.inl rfl,.inl ⟨rfl,rfl⟩,by simp⟩
theorem te.next{x y A B K dp th bO bA bI u1 cm v0 v1 v2:Nat}{e:Bool}(h:te x y A B bO bA bI u1 cm v0 v1 v2 e)(eT:A=x*K+dp)(e4:B=y*K+th)(h2:dp<K)(q':th<K)(vc:v2<=bA)(gY:v1+v2<=bO -bA):
 te x y A B bA (bO % bA) u1 cm (u1+bO / bA*cm) v1 v2 (v1+bO / bA*v2) (!e):=by
 have yI:0<bA:=iJ h.BI vc
 have OB:bA<=bO:=by have:=h.BI;omega
 obtain⟨q,bS⟩:∃q,q=bO / bA:=⟨_,rfl⟩
 obtain⟨r,av⟩:∃r,r=bO % bA:=⟨_,rfl⟩
 have VK:bO=q*bA+r:=by rw[bS,av,dz];exact(lR _ _).symm
 rw[<-bS,<-av]
 have n9:1<=q:=by rw[bS];exact Mm OB yI
 have Gx:u1+q*cm<=v1+q*v2:=by
  have aV:q*cm<=q*v2:=hs _ h.H5
  rcases h.aaj with bq|⟨_,fL,hv,nt,CI⟩
  ·omega
  ·rw[hv,nt,CI];omega
 have gd:∀X:Nat,(u1+q*cm)*X=u1*X+q*(cm*X):=fun X=>by rw[c3,fi]
 have zS:∀X:Nat,(v1+q*v2)*X=v1*X+q*(v2*X):=fun X=>by rw[c3,fi]
 have Wm:(if e then v2*B<=cm*A/\(u1+cm)*A<(v1+v2)*B else cm*A<=v2*B/\(v1+v2)*B<(u1+cm)*A):=by
  have e':0<K:=by omega
  have WD:v2*K<=bA*K:=e0 _ vc
  have Wv:(v1+v2)*K<=(bO -bA)*K:=e0 _ gY
  have Gz:0<v1+v2:=by have:=h.BI;omega
  cases e with
  |false=>
   have ad:u1*x=bO+v1*y:=h.dQ
   have af:v2*y=bA+cm*x:=h.ee
   refine Xj ad af eT e4 ?_ OB ?_
   ·exact cY (r1 h.H5 (r0 h2)) WD
   ·exact iJ (Mt q' Gz) Wv
  |true=>
   have ad:v1*y=bO+u1*x:=h.dQ
   have af:cm*x=bA+v2*y:=h.ee
   refine Xj ad af e4 eT ?_ OB ?_
   ·exact cY (hs v2 (r0 q')) WD
   ·have hu:u1<=v1:=by
     rcases h.aaj with bq|⟨bq,_⟩
     ·exact bq
     ·cases bq
    have fL:(u1+cm)*dp<=(v1+v2)*dp:=e0 _ (by have:=h.H5;omega)
    have hv:=Mt h2 Gz
    exact p7 fL (iJ hv Wv)
 have hle:=h.le
 have yL:=h.Cs
 have ab:=h.xs
 have aB:=h.x3
 have gN:=h.dQ
 have gO:=h.ee
 have asO:=h.BI
 have qs:v2<=q*v2:=by have:=e0 v2 n9;omega
 have aqS:v2*bO=v2*(q*bA)+v2*r:=by rw[VK,cS]
 have aqT:cm*bO=cm*(q*bA)+cm*r:=by rw[VK,cS]
 have aqU:v2*(q*bA)=q*(v2*bA):=by ac_rfl
 have aqV:cm*(q*bA)=q*(cm*bA):=by ac_rfl
 cases e with
 |false=>
  have gN:u1*x=bO+v1*y:=gN
  have gO:v2*y=bA+cm*x:=gO
  have yL:u1*v2=v1*cm+1:=yL
  obtain⟨dr,hC⟩:cm*A<=v2*B/\(v1+v2)*B<(u1+cm)*A:=Wm
  rw[c3,c3] at hC
  have aU:q*(v2*y)=q*bA+q*(cm*x):=by rw[gO,cS]
  refine⟨gO,?_,?_,?_,Gx,.inl h.H5,by omega,?_,?_,?_⟩
  ·show(u1+q*cm)*x=r+(v1+q*v2)*y
   rw[gd,zS];omega
  ·rw[zS];omega
  ·rw[gd];omega
  ·by_cases az:v1=0
   ·exact .inl az
   ·refine .inr ⟨yL,?_⟩
    rcases hle with⟨k,_⟩|k
    ·exact absurd k az
    ·obtain⟨a7,a0⟩:v1*B<=u1*A/\u1*A<=v1*B+B:=k
     exact⟨a7,dr,by omega,a0⟩
  ·refine .inr ⟨dr,?_⟩
   rcases hle with⟨a7,a0⟩|k
   ·rw[a7,a0] at yL
    have l4:v2=1:=by omega
    rw[l4]
    omega
   ·obtain⟨a7,a0⟩:v1*B<=u1*A/\u1*A<=v1*B+B:=k
    omega
  ·show v2*(u1+q*cm)=cm*(v1+q*v2)+1
   rw[cS,cS]
   have ck:v2*u1=u1*v2:=dz _ _
   have ch:v2*(q*cm)=cm*(q*v2):=by ac_rfl
   have c6:cm*v1=v1*cm:=dz _ _
   omega
 |true=>
  have gN:v1*y=bO+u1*x:=gN
  have gO:cm*x=bA+v2*y:=gO
  have yL:v1*cm=u1*v2+1:=yL
  obtain⟨dr,hC⟩:v2*B<=cm*A/\(u1+cm)*A<(v1+v2)*B:=Wm
  rw[c3,c3] at hC
  have aU:q*(cm*x)=q*bA+q*(v2*y):=by rw[gO,cS]
  have WC:¬(v1=0):=fun k=>by rw[k,j8] at yL;omega
  refine⟨gO,?_,?_,?_,Gx,.inl h.H5,by omega,?_,?_,?_⟩
  ·show(v1+q*v2)*y=r+(u1+q*cm)*x
   rw[gd,zS];omega
  ·rw[zS];omega
  ·rw[gd];omega
  ·refine .inr ⟨yL,?_⟩
   rcases hle with⟨k,_⟩|k
   ·exact absurd k WC
   ·obtain⟨a7,a0⟩:u1*A<=v1*B/\v1*B<=u1*A+B:=k
    exact⟨a7,dr,by omega,a0⟩
  ·refine .inr ⟨dr,?_⟩
   rcases hle with⟨k,_⟩|k
   ·exact absurd k WC
   ·obtain⟨a7,a0⟩:u1*A<=v1*B/\v1*B<=u1*A+B:=k
    omega
  ·show cm*(v1+q*v2)=v2*(u1+q*cm)+1
   rw[cS,cS]
   have ck:cm*v1=v1*cm:=dz _ _
   have ch:cm*(q*v2)=v2*(q*cm):=by ac_rfl
   have c6:v2*u1=u1*v2:=dz _ _
   omega
theorem te.out{x y A B bO bA bI u1 cm v0 v1 v2:Nat}{e:Bool}(h:te x y A B bO bA bI u1 cm v0 v1 v2 e)(az:v0≠0):
 ∃a b:Nat,(if e then bI*A=v0*B+a/\v1*B=u1*A+b else v0*B=bI*A+a/\u1*A=v1*B+b)/\b<a/\a<=B/\Nat.gcd a b=Nat.gcd A B:=by
 rcases h.xI with k|⟨a7,a0⟩
 ·exact absurd k az
 cases e with
 |true=>
  have a7:bI*v1=v0*u1+1:=a7
  obtain⟨aX,aU,b0,dN⟩:v0*B<=bI*A/\u1*A<=v1*B/\v1*B+v0*B<bI*A+u1*A/\bI*A<=v0*B+B:=a0
  refine⟨bI*A -v0*B,v1*B -u1*A,⟨by omega,by omega⟩,by omega,by omega,?_⟩
  have:=U8 (bI:=bI) (v0:=v0) (u1:=u1) (v1:=v1) (a:=A) (b:=B) true (by
   show(bI:Int)*v1 -(v0:Int)*u1=1
   rw[<-gM,<-gM,a7];omega) rfl rfl
  have aC:yq true bI v0 A B=((bI*A -v0*B:Nat):Int):=by
   show(bI:Int)*A -(v0:Int)*B=_
   rw[<-gM,<-gM];omega
  have aW:yq (!true) u1 v1 A B=((v1*B -u1*A:Nat):Int):=by
   show(v1:Int)*B -(u1:Int)*A=_
   rw[<-gM,<-gM];omega
  rw[aC,aW,hP,hP] at this
  exact this
 |false=>
  have a7:v0*u1=bI*v1+1:=a7
  obtain⟨aX,aU,b0,dN⟩:bI*A<=v0*B/\v1*B<=u1*A/\u1*A+bI*A<v0*B+v1*B/\v0*B<=bI*A+B:=a0
  refine⟨v0*B -bI*A,u1*A -v1*B,⟨by omega,by omega⟩,by omega,by omega,?_⟩
  have:=U8 (bI:=bI) (v0:=v0) (u1:=u1) (v1:=v1) (a:=A) (b:=B) false (by
   show(bI:Int)*v1 -(v0:Int)*u1=-1
   rw[<-gM,<-gM,a7];omega) rfl rfl
  have aC:yq false bI v0 A B=((v0*B -bI*A:Nat):Int):=by
   show(v0:Int)*B -(bI:Int)*A=_
   rw[<-gM,<-gM];omega
  have aW:yq (!false) u1 v1 A B=((u1*A -v1*B:Nat):Int):=by
   show(u1:Int)*A -(v1:Int)*B=_
   rw[<-gM,<-gM];omega
  rw[aC,aW,hP,hP] at this
  exact this
theorem te.bounds{x y A B bO bA bI u1 cm v0 v1 v2:Nat}{e:Bool}(h:te x y A B bO bA bI u1 cm v0 v1 v2 e)(aI:1<=bO)(yI:1<=bA):v2<=x/\v1+v2<=x/\cm<=y/\u1+cm<=y:=by
 have ab:=h.xs
 have aB:=h.x3
 have ad:=hs v2 aI
 have af:=hs v1 yI
 have aV:=hs cm aI
 have bq:=hs u1 yI
 omega
end
end Go.Opn

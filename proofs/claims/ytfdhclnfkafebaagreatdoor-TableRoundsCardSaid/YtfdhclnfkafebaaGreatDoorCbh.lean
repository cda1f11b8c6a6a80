/- A part of the proof of TableRounds. -/
import Derived.Test.YtfdhclnfkafebaaGreatDoorCbg
set_option maxRecDepth 100000
set_option maxHeartbeats 8000000
set_option linter.unusedVariables false
set_option linter.unusedSimpArgs false
namespace Go.Opn
noncomputable section
open Go.Cre Go.RowKit Go.Proofs
section
variable {Q:dD Tryz.prog}{g0:Nat}{J:an}
theorem X9{v:Value}{l:List Nat}(h:cR .u32 J v l)(aD:l.length<=4):Fn (a1 Q g0) 119 [v] [] J (fun u m' ah=>u=.int .i64 (mm l)/\m'=[]/\J=ah):=by
 obtain⟨bQ,bH,rfl⟩:=h.form;have g':=h.at;refine Fn.cr (cu Tryz.func119) rfl rfl fun H=>?_;refine rg ?_;refine U V.au ?_;refine a2 ?_;refine al ?_;refine U V.bb ?_;refine aA ?_;refine If (fun e7=>?_) fun e7=>?_
 ·exfalso;omega
 ·refine ao ?_;refine ae.skip ?_;refine rg ?_;refine U V.au ?_;refine aA ?_;refine ae.block ?_;refine' ae.dO (l':=[(3,.int .i64 ((0):Int)),(0,_)]) ⟨?eu,rfl,trivial⟩ (bx _) ?_;case eu=>first|exact bg|exact aa some (aa (Value.int .u64) I)|exact aa some (aa (Value.int .u32) I)|exact aa some (aa (Value.int .i64) I)
  refine ao ?_;refine' ae.lE (α:=(Nat)) (fun(i:Nat)=>[(3,.int .i64 (i:Int))]) (fun(i:Nat)=>i<=l.length/\(∀z∈l.take i,z<1000000000)) (fun(i:Nat)=>l.length -i) (0) ?ag ?bD;case ag=>exact⟨ep _,fun z aL=>by rw[fh] at aL;cases aL⟩
  case bD=>
   rintro i hinv;try simp only at hinv
   obtain⟨ar,h2⟩:=hinv;refine rg ?_;refine al ?_;refine U V.bb ?_;refine aA ?_;refine If (fun cl=>?_) fun cl=>?_
   ·obtain⟨a,o,pi,e,rfl,hy,az⟩:=g' I;obtain⟨p,ap,ha⟩:=az i I;refine dW ?_;refine ao ?_;refine ae.block ?_;refine rg ?_;refine al ?_;refine U V.bh ?_;refine U V.cg ?_;refine U V.bb ?_;refine aA ?_;refine If (fun lU=>?_) fun lU=>?_
    ·have tB:=Bd (Uq ap I);refine rg ?_;refine U V.au ?_;refine aA ?_;refine ae.ret ?_;refine'⟨.inr rfl,rfl,_,[],.tmp rfl .nil,br _,?_⟩;first
       |exact⟨by rw[tB];rfl,rfl,rfl⟩
       |exact⟨by rw[nE (oF h2 (fun _=>⟨p,ap,I⟩))];rfl,rfl,rfl⟩
       |exact⟨by rw[nE (oF h2 (fun q=>absurd q I))];rfl,rfl,rfl⟩
    ·refine ao ?_;refine ae.skip ?_;refine rg ?_;refine U V.ay ?_;refine U V.aY ?_;refine U V.au ?_;refine a3 ?_;refine'⟨(i+1),_,?hinv,?gi,rfl,⟨?mH,rfl,trivial⟩,bx _,rfl⟩;case mH=>first|exact bg|exact aa some (aa (Value.int .u64) I)|exact aa some (aa (Value.int .u32) I)|exact aa some (aa (Value.int .i64) I)
     case gi=>exact bz
     case hinv=>exact⟨I,HX h2 ap I⟩
   ·have AA:i=l.length:=I
    rw[AA] at h2;refine ao ?_;refine ae.exit ?_;refine rg ?_;refine al ?_;refine U V.bb ?_;refine U V.ay ?_;refine ft 21 (fun FH=>?_) fun FH=>?_
    ·obtain⟨a,o,pi,e,rfl,hy,az⟩:=g' I;obtain⟨p,ap,ha⟩:=az (l.length -1) I;have ha:nth pi (o+((l.length:Int) -1).toNat*1)=some (.int .u32 (p:Int)):=by
       rw[show((l.length:Int) -1).toNat=l.length -1 by omega];exact ha
     refine bo V.ay ?_;refine bo V.ay ?_;refine bo V.h7 ?_;refine bo V.aY ?_;refine bo V.bh ?_;refine bo V.cg ?_;refine bo V.bb ?_;refine U V.bt ?_;refine aA ?_;refine If (fun Jl=>?_) fun Jl=>?_
     ·have tB:=Bd (Ur I ap I);refine rg ?_;refine U V.au ?_;refine aA ?_;refine ae.ret ?_;refine'⟨.inr rfl,rfl,_,[],.tmp rfl .nil,br _,?_⟩;first
       |exact⟨by rw[tB];rfl,rfl,rfl⟩
       |exact⟨by rw[nE (oF h2 (fun _=>⟨p,ap,I⟩))];rfl,rfl,rfl⟩
       |exact⟨by rw[nE (oF h2 (fun q=>absurd q I))];rfl,rfl,rfl⟩
     ·refine ao ?_;refine ae.skip ?_;refine rg ?_;refine U V.au ?_;refine aA ?_;refine ae.ret ?_;refine'⟨.inr rfl,rfl,_,[],.tmp rfl .nil,br _,?_⟩;first
       |exact⟨by rw[tB];rfl,rfl,rfl⟩
       |exact⟨by rw[nE (oF h2 (fun _=>⟨p,ap,I⟩))];rfl,rfl,rfl⟩
       |exact⟨by rw[nE (oF h2 (fun q=>absurd q I))];rfl,rfl,rfl⟩
    ·refine bs ?_;refine bs ?_;refine bs ?_;refine bs ?_;refine bs ?_;refine bs ?_;refine bs ?_;refine U V.bt ?_;refine aA ?_;refine ae.sb rfl ?_;refine fy ?_;refine U V.au ?_;refine aA ?_;refine ae.ret ?_;refine'⟨.inr rfl,rfl,_,[],.tmp rfl .nil,br _,?_⟩;first
       |exact⟨by rw[tB];rfl,rfl,rfl⟩
       |exact⟨by rw[nE (oF h2 (fun _=>⟨p,ap,I⟩))];rfl,rfl,rfl⟩
       |exact⟨by rw[nE (oF h2 (fun q=>absurd q I))];rfl,rfl,rfl⟩
theorem anG{v w:Value}{n d:List Nat}(ad:cR .u32 J v n)(af:cR .u32 J w d)(dF:n.length<=4)(dq:d.length<=4):Fn (a1 Q g0) 85 [v,w] [] J (fun u m' ah=>u=.int .i64 (mq n d)/\m'=[]/\J=ah):=by
 have ku:=ad;have jW:=af;obtain⟨bQ,bH,rfl⟩:=ad.form;obtain⟨bL,bM,rfl⟩:=af.form;refine Fn.cr (cu Tryz.func85) rfl rfl fun H=>?_;refine rg ?_;refine U V.au ?_;refine a2 ?_;refine U V.ay ?_;refine bN (G:=X9 ku dF) (h:=?_);rintro v' m' ah hle ⟨rfl,rfl,rfl⟩;refine U V.au ?_;refine a3 ?_;refine eP [1,5] ?_;refine ao ?_;refine' ae.hf 0 [(10,.bool (decide ((mm n≠0))))] ?ph ?pj;case ph=>
  refine ae.region ?_;refine U V.ay ?_;refine U V.bb ?_;refine a3 ?_;refine'⟨⟨_,rfl,⟨?k7,rfl,rfl,trivial⟩⟩,bx _,rfl⟩;case k7=>first|exact fw rfl I|exact fu rfl I|exact fv rfl I|exact fE rfl I
 case pj=>
  refine ao ?_;refine If (fun cl=>?_) fun cl=>?_
  ·have he:=YN (d:=d) cl;refine rg ?_;refine al ?_;refine aA ?_;refine ae.ret ?_;refine'⟨.inr rfl,rfl,_,[],.tmp rfl .nil,br _,⟨by rw[he];rfl,rfl,rfl⟩⟩
  ·have cl:mm n=0:=jh fun q=>cl q;refine fy ?_;refine U V.ay ?_;refine bN (G:=X9 jW dq) (h:=?_);rintro v' m' ah hle ⟨rfl,rfl,rfl⟩;refine U V.au ?_;refine a3 ?_;refine eP [1,6] ?_;refine ao ?_;refine' ae.hf 0 [(15,.bool (decide ((mm d≠0))))] ?Ff ?Fo;case Ff=>
    refine ae.region ?_;refine U V.ay ?_;refine U V.bb ?_;refine a3 ?_;refine'⟨⟨_,rfl,⟨?Hc,rfl,rfl,trivial⟩⟩,bx _,rfl⟩;case Hc=>first|exact fw rfl I|exact fu rfl I|exact fv rfl I|exact fE rfl I
   case Fo=>
    refine ao ?_;refine If (fun eR=>?_) fun eR=>?_
    ·have he:=YM (n:=n) eR;refine rg ?_;refine al ?_;refine aA ?_;refine ae.ret ?_;refine'⟨.inr rfl,rfl,_,[],.tmp rfl .nil,br _,⟨by rw[he];rfl,rfl,rfl⟩⟩
    ·have eR:mm d=0:=jh fun q=>eR q;refine fy ?_;refine al ?_;refine U V.bb ?_;refine aA ?_;refine If (fun q2=>?_) fun q2=>?_
     ·have he:=YL cl eR I;refine rg ?_;refine U V.au ?_;refine aA ?_;refine ae.ret ?_;refine'⟨.inr rfl,rfl,_,[],.tmp rfl .nil,br _,⟨by rw[he];rfl,rfl,rfl⟩⟩
     ·have he:=YO cl eR I;refine fy ?_;refine U V.au ?_;refine aA ?_;refine ae.ret ?_;refine'⟨.inr rfl,rfl,_,[],.tmp rfl .nil,br _,⟨by rw[he];rfl,rfl,rfl⟩⟩
theorem ane{x:cG}{v1 v2:Value}(h:p' J x v1 v2):Fn (a1 Q g0) 51 [D1 x v1 v2] [] J (fun u m' ah=>J.le ah/\m'=[]/\u=.int .i64 (nc x)):=by
 have aO:=h;obtain⟨bQ,bH,rfl⟩:=h.n.form;obtain⟨bL,bM,rfl⟩:=h.d.form;refine Fn.cr (cu Tryz.func51) rfl rfl fun H=>?_;refine rg ?_;refine gU fun bO=>?_;refine U V.au ?_;refine a2 ?_;refine U V.cJ ?_;refine U V.cg ?_;refine U V.cJ ?_;refine U V.cg ?_;refine bN (G:=anG aO.n aO.d aO.fU aO.cI) (h:=?_);rintro v' m' ah hle ⟨rfl,rfl,rfl⟩;refine U V.au ?_;refine a3 ?_;refine eP [1,3] ?_;refine ao ?_;refine' ae.hf 0 [(10,.bool (decide ((mq x.num x.den≠0))))] ?ph ?pj;case ph=>
  refine ae.region ?_;refine U V.ay ?_;refine U V.bb ?_;refine a3 ?_;refine'⟨⟨_,rfl,⟨?k7,rfl,rfl,trivial⟩⟩,bx _,rfl⟩;case k7=>first|exact fw rfl I|exact fu rfl I|exact fv rfl I|exact fE rfl I
 case pj=>
  refine ao ?_;refine If (fun cl=>?_) fun cl=>?_
  ·have he:=Rq cl;refine rg ?_;refine al ?_;refine aA ?_;refine ae.ret ?_;refine'⟨.inr rfl,rfl,_,[],.tmp rfl .nil,br _,?_⟩;first
    |exact⟨an.le.refl _,rfl,by rw[he];rfl⟩
    |exact⟨aK,rfl,by rw[je cl (.inr (by rw[<-cp];intro q;rw[q] at po;exact po (by rw[sH (x:=1) bC bC];rfl)))];rfl⟩
    |exact⟨aK.trans bi,rfl,by rw[je cl (.inr (by rw[<-cp];omega))];rfl⟩
    |exact⟨aK.trans bi,rfl,by rw[je cl (.inl ⟨kU I,q7⟩)];rfl⟩
    |exact⟨aK.trans bi,rfl,by rw[sP cl (fun q=>q.elim (fun q=>by first|exact absurd (q.2.symm.trans q7) bC|exact qe (by rw[q.1];rfl)) (fun q=>q (by rw[<-cp];omega)))];rfl⟩
  ·have cl:mq x.num x.den=0:=jh fun q=>cl q;have sn:=Rl cl;have c0:=aO.zg ⟨sn.1,sn.2.1⟩;have fU:(ai (aN x.num)).length<=60000:=by rw[<-pg sn.1];exact cY aO.fU bC
   have cI:(ai (aN x.den)).length<=60000:=by rw[<-pg sn.2.1];exact cY aO.cI bC
   obtain⟨G,cp⟩:∃G,G=Nat.gcd (aN x.num) (aN x.den):=⟨_,rfl⟩;have oH:G≠0:=by rw[cp];exact jl (ya _ (r2 sn.2.2))
   refine fy ?_;refine U V.cJ ?_;refine U V.cg ?_;refine U V.cJ ?_;refine U V.cg ?_;refine bN (G:=Nj c0.n c0.d fU cI) (h:=?_);rintro v' m' bK hle ⟨aK,rfl,hx⟩;rw[show Nat.gcd x.rt.z.natAbs x.rt.d=G from cp.symm] at hx;have si:=hx;obtain⟨fI,gV,rfl,gl⟩:=hx.bG;refine U V.h7 ?_;refine U V.bb ?_;refine U V.ay ?_;refine ft 19 (fun po=>?_) fun po=>?_
   ·refine bs ?_;refine bs ?_;refine bs ?_;refine bs ?_;refine W.wH rfl rfl rfl rfl rfl ?_;refine bs ?_;refine bs ?_;refine bs ?_;refine U V.bt ?_;refine U V.ay ?_;refine bs ?_;refine bs ?_;refine bs ?_;refine pd ?_;refine pd ?_;refine pd ?_;refine pd ?_;refine bs ?_;refine U V.bt ?_;refine aA ?_;refine ae.Fe rfl ?_;refine rg ?_;refine U V.au ?_;refine aA ?_;refine ae.ret ?_;refine'⟨.inr rfl,rfl,_,[],.tmp rfl .nil,br _,?_⟩;first
      |exact⟨an.le.refl _,rfl,by rw[he];rfl⟩
      |exact⟨aK,rfl,by rw[je cl (.inr (by rw[<-cp];intro q;rw[q] at po;exact po (by rw[sH (x:=1) bC bC];rfl)))];rfl⟩
      |exact⟨aK.trans bi,rfl,by rw[je cl (.inr (by rw[<-cp];omega))];rfl⟩
      |exact⟨aK.trans bi,rfl,by rw[je cl (.inl ⟨kU I,q7⟩)];rfl⟩
      |exact⟨aK.trans bi,rfl,by rw[sP cl (fun q=>q.elim (fun q=>by first|exact absurd (q.2.symm.trans q7) bC|exact qe (by rw[q.1];rfl)) (fun q=>q (by rw[<-cp];omega)))];rfl⟩
   ·have agY:=Qo (x:=G) I;refine bo V.cJ ?_;refine bo V.cg ?_;refine bo V.cJ ?_;refine bo V.cg ?_;refine qf (G:=Nj (c0.n.mono aK) (c0.d.mono aK) fU cI) (h:=?_);rintro v' m' dT hle ⟨bi,rfl,fS⟩;rw[show Nat.gcd x.rt.z.natAbs x.rt.d=G from cp.symm] at fS;have Oh:cR .u32 dT v' (ai G):=fS;rw[agY.1] at Oh;have agU:∃b c,v'=.slice b 1 c:=Oh.form;obtain⟨gz,e7,rfl⟩:=agU;obtain⟨arf,alE,adL,arH,rfl,arU,ajn⟩:=Oh.et Nat.one_pos;have asy:nth adL (alE+(0:Int).toNat*1)=some (.int .u32 (G:Int)):=ajn 0 G rfl;refine bo V.bh ?_;refine bo V.cg ?_;refine bo V.bb ?_;refine U V.bt ?_;refine U V.ay ?_;refine ft 29 (fun agA=>?_) fun agA=>?_
    ·refine bs ?_;refine bs ?_;refine bs ?_;refine pd ?_;refine pd ?_;refine pd ?_;refine pd ?_;refine bs ?_;refine U V.bt ?_;refine aA ?_;refine ae.Fe rfl ?_;refine rg ?_;refine U V.au ?_;refine aA ?_;refine ae.ret ?_;refine'⟨.inr rfl,rfl,_,[],.tmp rfl .nil,br _,?_⟩;first
        |exact⟨an.le.refl _,rfl,by rw[he];rfl⟩
        |exact⟨aK,rfl,by rw[je cl (.inr (by rw[<-cp];intro q;rw[q] at po;exact po (by rw[sH (x:=1) bC bC];rfl)))];rfl⟩
        |exact⟨aK.trans bi,rfl,by rw[je cl (.inr (by rw[<-cp];omega))];rfl⟩
        |exact⟨aK.trans bi,rfl,by rw[je cl (.inl ⟨kU I,q7⟩)];rfl⟩
        |exact⟨aK.trans bi,rfl,by rw[sP cl (fun q=>q.elim (fun q=>by first|exact absurd (q.2.symm.trans q7) bC|exact qe (by rw[q.1];rfl)) (fun q=>q (by rw[<-cp];omega)))];rfl⟩
    ·refine bo V.cJ ?_;refine bo V.cg ?_;refine bo V.ay ?_;refine ft 32 (fun q7=>?_) fun q7=>?_
     ·refine bo V.cJ ?_;refine bo V.cg ?_;refine bo V.h7 ?_;refine bo V.bb ?_;refine bo V.bt ?_;refine U V.bt ?_;refine aA ?_;refine If (fun qe=>?_) fun qe=>?_
      ·
        refine rg ?_;refine U V.au ?_;refine aA ?_;refine ae.ret ?_;refine'⟨.inr rfl,rfl,_,[],.tmp rfl .nil,br _,?_⟩;first
         |exact⟨an.le.refl _,rfl,by rw[he];rfl⟩
         |exact⟨aK,rfl,by rw[je cl (.inr (by rw[<-cp];intro q;rw[q] at po;exact po (by rw[sH (x:=1) bC bC];rfl)))];rfl⟩
         |exact⟨aK.trans bi,rfl,by rw[je cl (.inr (by rw[<-cp];omega))];rfl⟩
         |exact⟨aK.trans bi,rfl,by rw[je cl (.inl ⟨kU I,q7⟩)];rfl⟩
         |exact⟨aK.trans bi,rfl,by rw[sP cl (fun q=>q.elim (fun q=>by first|exact absurd (q.2.symm.trans q7) bC|exact qe (by rw[q.1];rfl)) (fun q=>q (by rw[<-cp];omega)))];rfl⟩
      ·
        refine ao ?_;refine ae.skip ?_;refine rg ?_;refine U V.au ?_;refine aA ?_;refine ae.ret ?_;refine'⟨.inr rfl,rfl,_,[],.tmp rfl .nil,br _,?_⟩;first
         |exact⟨an.le.refl _,rfl,by rw[he];rfl⟩
         |exact⟨aK,rfl,by rw[je cl (.inr (by rw[<-cp];intro q;rw[q] at po;exact po (by rw[sH (x:=1) bC bC];rfl)))];rfl⟩
         |exact⟨aK.trans bi,rfl,by rw[je cl (.inr (by rw[<-cp];omega))];rfl⟩
         |exact⟨aK.trans bi,rfl,by rw[je cl (.inl ⟨kU I,q7⟩)];rfl⟩
         |exact⟨aK.trans bi,rfl,by rw[sP cl (fun q=>q.elim (fun q=>by first|exact absurd (q.2.symm.trans q7) bC|exact qe (by rw[q.1];rfl)) (fun q=>q (by rw[<-cp];omega)))];rfl⟩
     ·refine bs ?_;refine bs ?_;refine bs ?_;refine bs ?_;refine bo V.bt ?_;refine U V.bt ?_;refine aA ?_;refine ae.sb rfl ?_;refine fy ?_;refine U V.au ?_;refine aA ?_;refine ae.ret ?_;refine'⟨.inr rfl,rfl,_,[],.tmp rfl .nil,br _,?_⟩;first
       |exact⟨an.le.refl _,rfl,by rw[he];rfl⟩
       |exact⟨aK,rfl,by rw[je cl (.inr (by rw[<-cp];intro q;rw[q] at po;exact po (by rw[sH (x:=1) bC bC];rfl)))];rfl⟩
       |exact⟨aK.trans bi,rfl,by rw[je cl (.inr (by rw[<-cp];omega))];rfl⟩
       |exact⟨aK.trans bi,rfl,by rw[je cl (.inl ⟨kU I,q7⟩)];rfl⟩
       |exact⟨aK.trans bi,rfl,by rw[sP cl (fun q=>q.elim (fun q=>by first|exact absurd (q.2.symm.trans q7) bC|exact qe (by rw[q.1];rfl)) (fun q=>q (by rw[<-cp];omega)))];rfl⟩
end
theorem r4.ag{J ta:an}{r ki:cE}(hle:ta.le J)(eM:ki=r){cj:a8}(hm:cj=[]):cj=[]/\ta.le J/\∀v m' bK dT,r4 ta ki v m' bK->bK.le dT->J.le dT->r4 J r v m' dT:=
 ⟨hm,hle,fun v m' bK dT ⟨_,af,bm,bW,aV,bq⟩ fL hv=>⟨hv,af,bm,bW,by subst eM;exact aV,by subst eM;exact bq.mono fL⟩⟩
theorem fO.xW{J ah:an}{r s:cE}{v1 v2 bm bW:Value}(h:fO J r v1 v2)(fR:fO ah s bm bW)(hle:J.le ah)(e:c8 r v1 v2=c8 s bm bW):r=s:=by
 injection e with e
 have e:[Value.bool (decide (r.z<0)),v1,v2]=[.bool (decide (s.z<0)),bm,bW]:=aa Array.toList e;injection e with jC e
 injection e with aC e
 injection e with aW e
 injection jC with jC
 have a7:=h.n.uj fR.n hle aC;have a0:=h.d.uj fR.d hle aW;have bJ:=m1.1 jC;exact cE.NM I a0
theorem ZA{a b:Int}(aL:a*b≠0):(decide ((decide (a<0))≠(decide (b<0))))=decide (a*b<0):=by
 have aI:a≠0:=fun h=>aL (by rw[h,x8]);have ak:b≠0:=fun h=>aL (by rw[h,SN]);by_cases ad:a<0
 ·by_cases af:b<0
  ·have:=aba ad af
   rw[ie ad,ie af,fx (show ¬a*b<0 by omega)];rfl
  ·have:=BX ad (show 0<b by omega)
   rw[ie ad,fx af,ie this];rfl
 ·by_cases af:b<0
  ·have:=SM (show 0<a by omega) af
   rw[fx ad,ie af,ie this];rfl
  ·have:=BY (show 0<a by omega) (show 0<b by omega)
   rw[fx ad,fx af,fx (show ¬a*b<0 by omega)];rfl
section
variable {Q:dD Tryz.prog}{g0:Nat}{J:an}
theorem an5{n:Nat}(aE:n<1000000000000000000):Fn (a1 Q g0) 84 [.int .i64 (-(n:Int))] [] J (pb J n):=by
 have aD:(ai n).length<=2:=mG (iJ aE bC);refine Fn.cr (cu Tryz.func84) rfl rfl fun H=>?_;refine rg ?_;refine U V.au ?_;refine a2 ?_;refine U V.au ?_;refine aA ?_;refine ae.block ?_;refine' ae.dO (l':=[(0,.int .i64 (-((n):Int))),(3,(.slice none 0 0))]) ⟨?w0,?eu,trivial⟩ (bx _) ?_;case w0=>first|exact bg|exact aa some (aa (Value.int .u64) I)|exact aa some (aa (Value.int .u32) I)|exact aa some (aa (Value.int .i64) I)
 case eu=>first|exact bg|exact aa some (aa (Value.int .u64) I)|exact aa some (aa (Value.int .u32) I)|exact aa some (aa (Value.int .i64) I)
 refine ao ?_;refine' ae.e2 (fun(a6:Nat×(List Nat)×Value×a8)=>match a6 with|(c,out,eu,bZ)=>⟨[(0,.int .i64 (-(c:Int))),(3,eu)],bZ,J,c<=n/\out++ai c=ai n/\Acc 72 1 eu out.length (b7 .u32 out) bZ,c⟩) ⟨n,[],.slice none 0 0,[]⟩ ?ag ?bD
 case ag=>exact⟨bX _,rfl,.nil⟩
 case bD=>
  rintro⟨c,out,eu,bZ⟩ hinv;try simp only at hinv
  obtain⟨aJ,aj,eW⟩:=hinv;refine rg ?_;refine U V.ay ?_;refine U V.bb ?_;refine aA ?_;refine If (fun e7=>?_) fun e7=>?_
  ·have lu:c≠0:=I
   have iP:out.length<=2:=by
    have:=aa List.length aj;rw[eS] at this;omega
   have Gd:(-(c:Int)).tmod 1000000000=-((c % 1000000000:Nat):Int):=by rw[Int.neg_tmod];exact aa Neg.neg (Iz c 1000000000).symm
   have F2:(-(c:Int)).tdiv 1000000000=-((c / 1000000000:Nat):Int):=by rw[Int.neg_tdiv];exact aa Neg.neg (B1 c 1000000000).symm
   have aiu:IntKind.i64.wrap (-(-((c % 1000000000:Nat):Int)))=((c % 1000000000:Nat):Int):=by rw[L9];exact wrap_i64 I I
   have C6:max (-((c % 1000000000:Nat):Int)) ((c % 1000000000:Nat):Int)=((c % 1000000000:Nat):Int):=I
   have hw:IntKind.u32.wrap ((c % 1000000000:Nat):Int)=((c % 1000000000:Nat):Int):=wrap_u32 I I;have rl:IntKind.i64.wrap (-((c / 1000000000:Nat):Int))=-((c / 1000000000:Nat):Int):=wrap_i64 I I;refine dW ?_;refine ao ?_;refine ae.block ?_;refine rg ?_;refine U V.ay ?_;refine U V.hn ?_;refine U V.au ?_;refine a3 ?_;rw[Gd];refine rg ?_;refine al ?_;refine' W.step rfl (Exec.val rfl rfl (zu rfl rfl ?hw) ?_);case hw=>first|exact wrap_i64 I I|exact wrap_u8 I I|exact wrap_u64 I I|exact wrap_u32 I I|rfl
   refine' W.step rfl (Exec.val rfl rfl (H8 rfl rfl rfl rfl rfl) ?_);first|rw[aiu,C6]|rw[show max (-((c % 1000000000:Nat):Int)) (-(-((c % 1000000000:Nat):Int)))=((c % 1000000000:Nat):Int) by omega]
   refine U V.d' ?_;refine ll (hb Q g0) fun qa=>?_;refine' W.step rfl (.of (qM rfl rfl rfl rfl rfl rfl (hb Q g0) (sZ Q g0) (fun i q=>by cases q) ?eW ?hm ?ab ?ei ?eh ?aD fun xZ G7 OF ajA=>?_));case eW=>exact eW
   case hm=>exact(zL _ bZ).symm
   case ab=>exact zf
   case ei=>first|rfl|(simp;done)|(simp;omega)
   case eh=>first|rfl|exact A0 _
   case aD=>exact(show out.length+1<=1000000 by omega)
   refine U V.au ?_;refine a2 ?_;refine U V.ay ?_;refine U V.hn ?_;refine U V.au ?_;refine a3 ?_;rw[F2,rl];have bD:c / 1000000000<=n/\(out++[c % 1000000000])++ai (c / 1000000000)=ai n/\Acc 72 1 xZ (out++[c % 1000000000]).length (b7 .u32 (out++[c % 1000000000])) G7:=⟨I,Xt lu aj,by rw[y4,eS];exact OF⟩;refine fl ⟨c / 1000000000,out++[c % 1000000000],xZ,G7⟩ ?_ (hm:=zM _ _);exact bD
  ·obtain rfl:c=0:=I
   rw[l5,iU] at aj;refine Acc.pO eW (.of_eq (iU bZ).symm) fun bK aK ax=>?_;rw[aj] at ax;refine ao ?_;refine ae.exit ?_;refine rg ?_;refine al ?_;refine aA ?_;refine ae.ret ?_;refine'⟨.inr rfl,rfl,_,[],.tmp rfl .nil,br _,⟨aK,rfl,ax⟩⟩
theorem an7{z:Int}(aL:z.natAbs<1000000000000000000):Fn (a1 Q g0) 84 [.int .i64 z] [] J (pb J z.natAbs):=by
 rcases Int.natAbs_eq z with e|e
 ·have h:=an4 (Q:=Q) (g0:=g0) (J:=J) aL
  rw[<-e] at h;exact h
 ·have h:=an5 (Q:=Q) (g0:=g0) (J:=J) aL
  rw[<-e] at h;exact h
theorem Ee{z:Int}(aL:z.natAbs<1000000000000000000):Fn (a1 Q g0) 50 [.int .i64 z] [] J (r4 J (⟨z,1⟩:cE)):=by
 have aD:(ai z.natAbs).length<=2:=mG (iJ aL bC);have ad:(ai 1).length<=60000:=cY (mG (k:=1) bC) bC;have AG:bk z 1=(⟨z,1⟩:cE):=Bg (r:=⟨z,1⟩) ⟨Nat.one_pos,Ml _⟩;refine Fn.cr (cu Tryz.func50) rfl rfl fun H=>?_;refine rg ?_;refine' W.step rfl (.of (gx rfl rfl rfl (lb Q g0) rfl rfl rfl fun bA=>?_));refine a2 ?_;refine U V.ay ?_;refine U V.bb ?_;refine U V.ay ?_;refine bN (G:=an7 aL) (h:=?_);rintro v' m' bK hle ⟨aK,rfl,eT⟩;refine ll (hb Q g0) fun fK=>?_;refine W.et rfl fun bi Ol=>?_;refine bN (G:=A5 (z:=z) Nat.one_pos rfl (fun _=>rfl) (eT.fU.mono bi) (KJ Ol) I ad) (h:=?_);rintro v' m' dT hle ⟨cn,rfl,ev,gH,rfl,b4⟩;rw[AG] at b4 ⊢;have cp:=b4;obtain⟨iN,fp,rfl,mM⟩:=b4.n.bG;obtain⟨kr,cl,rfl,nb⟩:=b4.d.bG;refine e9 ?_;refine aA ?_;refine ae.ret ?_;refine'⟨.inr rfl,rfl,_,[],.cell rfl (by repeat first|exact .head _|refine .tail _ ?_|refine eF _ ?_) (fA (dm rfl) rfl) (.nil),br _,⟨aK.trans (bi.trans cn),rfl,_,_,rfl,cp⟩⟩
theorem ao0{r s:cE}{v1 v2 bm bW:Value}(av:fO J r v1 v2)(ag:fO J s bm bW)(rd:0<r.d)(hL:0<s.d)(dF:(ai r.z.natAbs).length<=20000)(dq:(ai r.d).length<=20000)(ja:(ai s.z.natAbs).length<=20000)(k6:(ai s.d).length<=20000):Fn (a1 Q g0) 54 [c8 r v1 v2,c8 s bm bW] [] J (r4 J (bk (r.z*s.z) (r.d*s.d))):=by
 have dj:=av;have eX:=ag;obtain⟨bQ,bH,rfl,aX⟩:=av.n.bG;obtain⟨bL,bM,rfl,aU⟩:=av.d.bG;obtain⟨cZ,db,rfl,b0⟩:=ag.n.bG;obtain⟨dE,dZ,rfl,dN⟩:=ag.d.bG;have KH:(ai (r.z.natAbs*s.z.natAbs)).length<=40000:=rr dF ja;have Xa:(ai (r.d*s.d)).length<=40000:=rr dq k6;refine Fn.cr (cu Tryz.func54) rfl rfl fun H=>?_;refine rg ?_;refine gU fun bA=>?_;refine gU fun cU=>?_;refine' W.step rfl (.of (gx rfl rfl rfl (lb Q g0) rfl rfl rfl fun dn=>?_));refine aA ?_;refine ae.draw rfl (by kernel_rfl) (a':=[.val 0,.val 1,.val 2,.val 3,.val 4,.val 5,.val 6,.val 7,.val 8,.val 10,.val 11,.val 12,.val 13,.bR 9,.b9 [13,12,11,10,4,3,2,1,0],.bR 14,.b9 [4,3,2,1,0],.bR 15,.bR 16]) (by kernel_rfl) ?_;refine aT rfl V.cJ ?_;refine aT rfl V.cI ?_;refine aT rfl V.cJ ?_;refine aT rfl V.cI ?_;refine' bp.val rfl rfl rfl rfl (um rfl rfl rfl (.inr ⟨rfl,rfl⟩) (by kernel_rfl)) ?_;refine aT rfl V.cJ ?_;refine aT rfl V.cI ?_;refine aT rfl V.cJ ?_;refine aT rfl V.cI ?_;refine aT rfl V.cJ ?_;refine aT rfl V.cI ?_;refine aT rfl V.cJ ?_;refine aT rfl V.cI ?_;refine bp.iR ?_;refine' bc.dA rfl rfl rfl rfl rfl rfl rfl rfl rfl dx (uh dj.n eX.n I I) ?_;rintro v' m' bK aK ⟨_,rfl,eT⟩;have hF:=eT.fU;obtain⟨fI,gV,rfl,gl⟩:=hF.bG;refine bc.b9 ⟨?kx,?a7,?a0,?bJ,?cO,?gj,?jJ,?oS,?rp,trivial⟩ ?_;case kx=>
  refine' hN.val rfl rfl rfl (lM rfl rfl ?av (iB (dm rfl) ?az)) rfl ?he;case av=>exact qr
  case az=>first|rfl|assumption
  case he=>exact iG
 case a7=>
  refine' hN.val rfl rfl rfl (rL rfl rfl (rH rfl rfl)) rfl ?he;case he=>exact iG
 case a0=>
  refine' hN.val rfl rfl rfl (lM rfl rfl ?av (iB (dm rfl) ?az)) rfl ?he;case av=>exact qr
  case az=>first|rfl|assumption
  case he=>exact iG
 case bJ=>
  refine' hN.val rfl rfl rfl (rL rfl rfl (rH rfl rfl)) rfl ?he;case he=>exact iG
 case cO=>
  refine' hN.val rfl rfl rfl (um rfl rfl rfl (.inr ⟨rfl,rfl⟩) (by kernel_rfl)) rfl ?he;case he=>exact iG
 case gj=>
  refine' hN.val rfl rfl rfl (lM rfl rfl ?av (iB (dm rfl) ?az)) rfl ?he;case av=>exact qr
  case az=>first|rfl|assumption
  case he=>exact iG
 case jJ=>
  refine' hN.val rfl rfl rfl (rL rfl rfl (rH rfl rfl)) rfl ?he;case he=>exact iG
 case oS=>
  refine' hN.val rfl rfl rfl (lM rfl rfl ?av (iB (dm rfl) ?az)) rfl ?he;case av=>exact qr
  case az=>first|rfl|assumption
  case he=>exact iG
 case rp=>
  refine' hN.val rfl rfl rfl (rL rfl rfl (rH rfl rfl)) rfl ?he;case he=>exact iG
 refine' bc.dA rfl rfl rfl rfl rfl rfl rfl rfl rfl (de (fun _ aI=>pb.ag aK (by rw[dj.n.uj (dj.d.mono aK) aK (lL aI).1,eX.n.uj (eX.d.mono aK) aK (lL aI).2]) rfl) dx) (uh (dj.d.mono aK) (eX.d.mono aK) I I) ?_;rintro v' m' dT bi ⟨_,rfl,e4⟩;have h1:=e4.fU;obtain⟨gz,e7,rfl,iC⟩:=h1.bG;refine bc.b9 ⟨?kx,?a7,?a0,?bJ,?cO,trivial⟩ ?_;case kx=>
  refine' hN.val rfl rfl rfl (um rfl rfl rfl (.inr ⟨rfl,rfl⟩) (by kernel_rfl)) rfl ?he;case he=>exact iG
 case a7=>
  refine' hN.val rfl rfl rfl (lM rfl rfl ?av (iB (dm rfl) ?az)) rfl ?he;case av=>exact qr
  case az=>first|rfl|assumption
  case he=>exact iG
 case a0=>
  refine' hN.val rfl rfl rfl (rL rfl rfl (rH rfl rfl)) rfl ?he;case he=>exact iG
 case bJ=>
  refine' hN.val rfl rfl rfl (lM rfl rfl ?av (iB (dm rfl) ?az)) rfl ?he;case av=>exact qr
  case az=>first|rfl|assumption
  case he=>exact iG
 case cO=>
  refine' hN.val rfl rfl rfl (rL rfl rfl (rH rfl rfl)) rfl ?he;case he=>exact iG
 refine' bc.dA rfl rfl rfl rfl rfl rfl rfl rfl rfl (de (eI rfl) (de (eI rfl) dx)) (A5 (z:=r.z*s.z) (iW rd hL) (lc _ _) (fun aL=>ZA aL) (hF.mono bi) h1 I I) ?_;rintro v' m' ga cn ⟨_,rfl,ev,gH,rfl,b4⟩;have cp:=b4;obtain⟨iN,fp,rfl,mM⟩:=b4.n.bG;obtain⟨kr,cl,rfl,nb⟩:=b4.d.bG;refine bc.iQ (fun x ab=>iV (f:=fun x=>(x.f,x.b2)) ab) ?_;refine mw rfl ?_;refine bp.nil ?_;refine ao ?_;refine ae.ret ?_;refine'⟨.inr rfl,rfl,_,[],.cell rfl (by repeat first|exact .head _|refine .tail _ ?_|refine eF _ ?_) (fA (dm rfl) rfl) (.nil),br _,⟨(aK.trans bi).trans cn,rfl,_,_,rfl,cp⟩⟩
theorem an6{r:cE}{v1 v2:Value}(av:fO J r v1 v2):Fn (a1 Q g0) 64 [c8 r v1 v2] [] J (fun u m' ah=>u=c8 ⟨(r.z.natAbs:Int),r.d⟩ v1 v2/\m'=[]/\J=ah):=by
 obtain⟨bQ,bH,rfl,aX⟩:=av.n.bG;obtain⟨bL,bM,rfl,aU⟩:=av.d.bG;refine Fn.cr (cu Tryz.func64) rfl rfl fun H=>?_;refine rg ?_;refine gU fun bO=>?_;refine' W.step rfl (.of (gx rfl rfl rfl (lb Q g0) rfl rfl rfl fun bA=>?_));refine a2 ?_;refine U V.cJ ?_;refine e9 ?_;refine a2 ?_;refine U V.ik ?_;refine e9 ?_;refine aA ?_;refine ae.ret ?_;refine'⟨.inr rfl,rfl,_,[],.cell rfl (by repeat first|exact .head _|refine .tail _ ?_|refine eF _ ?_) (fA (dm rfl) rfl) (.nil),br _,⟨by rw[show c8 ⟨(r.z.natAbs:Int),r.d⟩ (.slice bQ (ai r.z.natAbs).length bH) (.slice bL (ai r.d).length bM)=.agg #[.bool (decide ((r.z.natAbs:Int)<0)),.slice bQ (ai r.z.natAbs).length bH,.slice bL (ai r.d).length bM] from rfl,fx (show ¬(r.z.natAbs:Int)<0 by omega)];rfl,rfl,rfl⟩⟩
end
theorem akE:ai 9223372036854775808=[854775808,223372036,9]:=by
 have h:=pg (l:=[854775808,223372036,9]) ⟨fun z aL=>by
  simp only[gb,IL,or_false] at aL;omega,fun z aL=>by
  have Oc:some 9=some z:=aL;injection Oc with Oc;omega⟩
 have e:aN [854775808,223372036,9]=9223372036854775808:=by decide
 rw[e] at h;exact h.symm
section
variable {Q:dD Tryz.prog}{g0:Nat}{J:an}
theorem ams{r s:cE}{v1 v2 bm bW:Value}(av:fO J r v1 v2)(ag:fO J s bm bW)(rd:0<r.d)(sz:0<s.z)(dF:(ai r.z.natAbs).length<=20000)(dq:(ai r.d).length<=20000)(ja:(ai s.z.natAbs).length<=20000)(k6:(ai s.d).length<=20000)(hL:0<s.d):Fn (a1 Q g0) 65 [c8 r v1 v2,c8 s bm bW] [] J (r4 J (bk (r.z*s.d) (r.d*s.z.natAbs))):=by
 have dj:=av;have eX:=ag;obtain⟨bQ,bH,rfl,aX⟩:=av.n.bG;obtain⟨bL,bM,rfl,aU⟩:=av.d.bG;obtain⟨cZ,db,rfl,b0⟩:=ag.n.bG;obtain⟨dE,dZ,rfl,dN⟩:=ag.d.bG;have KH:(ai (r.z.natAbs*s.d)).length<=40000:=rr dF k6;have Xa:(ai (r.d*s.z.natAbs)).length<=40000:=rr dq ja;have PJ:r.z*(s.d:Int)≠0->(decide ((decide (r.z<0))≠(decide (s.z<0))))=decide (r.z*(s.d:Int)<0):=fun aL=>by
  rw[<-ZA aL,fx (show ¬s.z<0 by omega),fx (show ¬(s.d:Int)<0 by omega)]
 refine Fn.cr (cu Tryz.func65) rfl rfl fun H=>?_;refine rg ?_;refine gU fun bA=>?_;refine gU fun cU=>?_;refine' W.step rfl (.of (gx rfl rfl rfl (lb Q g0) rfl rfl rfl fun dn=>?_));refine aA ?_;refine ae.draw rfl (by kernel_rfl) (a':=[.val 0,.val 1,.val 2,.val 3,.val 4,.val 5,.val 6,.val 7,.val 8,.val 10,.val 11,.val 12,.val 13,.bR 9,.b9 [13,12,11,10,4,3,2,1,0],.bR 14,.b9 [4,3,2,1,0],.bR 15,.bR 16]) (by kernel_rfl) ?_;refine aT rfl V.cJ ?_;refine aT rfl V.cI ?_;refine aT rfl V.cJ ?_;refine aT rfl V.cI ?_;refine' bp.val rfl rfl rfl rfl (um rfl rfl rfl (.inr ⟨rfl,rfl⟩) (by kernel_rfl)) ?_;refine aT rfl V.cJ ?_;refine aT rfl V.cI ?_;refine aT rfl V.cJ ?_;refine aT rfl V.cI ?_;refine aT rfl V.cJ ?_;refine aT rfl V.cI ?_;refine aT rfl V.cJ ?_;refine aT rfl V.cI ?_;refine bp.iR ?_;refine' bc.dA rfl rfl rfl rfl rfl rfl rfl rfl rfl dx (uh dj.n eX.d I I) ?_;rintro v' m' bK aK ⟨_,rfl,eT⟩;have hF:=eT.fU;obtain⟨fI,gV,rfl,gl⟩:=hF.bG;refine bc.b9 ⟨?kx,?a7,?a0,?bJ,?cO,?gj,?jJ,?oS,?rp,trivial⟩ ?_;case kx=>
  refine' hN.val rfl rfl rfl (lM rfl rfl ?av (iB (dm rfl) ?az)) rfl ?he;case av=>exact qr
  case az=>first|rfl|assumption
  case he=>exact iG
 case a7=>
  refine' hN.val rfl rfl rfl (rL rfl rfl (rH rfl rfl)) rfl ?he;case he=>exact iG
 case a0=>
  refine' hN.val rfl rfl rfl (lM rfl rfl ?av (iB (dm rfl) ?az)) rfl ?he;case av=>exact qr
  case az=>first|rfl|assumption
  case he=>exact iG
 case bJ=>
  refine' hN.val rfl rfl rfl (rL rfl rfl (rH rfl rfl)) rfl ?he;case he=>exact iG
 case cO=>
  refine' hN.val rfl rfl rfl (um rfl rfl rfl (.inr ⟨rfl,rfl⟩) (by kernel_rfl)) rfl ?he;case he=>exact iG
 case gj=>
  refine' hN.val rfl rfl rfl (lM rfl rfl ?av (iB (dm rfl) ?az)) rfl ?he;case av=>exact qr
  case az=>first|rfl|assumption
  case he=>exact iG
 case jJ=>
  refine' hN.val rfl rfl rfl (rL rfl rfl (rH rfl rfl)) rfl ?he;case he=>exact iG
 case oS=>
  refine' hN.val rfl rfl rfl (lM rfl rfl ?av (iB (dm rfl) ?az)) rfl ?he;case av=>exact qr
  case az=>first|rfl|assumption
  case he=>exact iG
 case rp=>
  refine' hN.val rfl rfl rfl (rL rfl rfl (rH rfl rfl)) rfl ?he;case he=>exact iG
 refine' bc.dA rfl rfl rfl rfl rfl rfl rfl rfl rfl (de (fun _ aI=>pb.ag aK (by rw[dj.n.uj (dj.d.mono aK) aK (lL aI).1,eX.d.uj (eX.n.mono aK) aK (lL aI).2]) rfl) dx) (uh (dj.d.mono aK) (eX.n.mono aK) I I) ?_;rintro v' m' dT bi ⟨_,rfl,e4⟩;have h1:=e4.fU;obtain⟨gz,e7,rfl,iC⟩:=h1.bG;refine bc.b9 ⟨?kx,?a7,?a0,?bJ,?cO,trivial⟩ ?_;case kx=>
  refine' hN.val rfl rfl rfl (um rfl rfl rfl (.inr ⟨rfl,rfl⟩) (by kernel_rfl)) rfl ?he;case he=>exact iG
 case a7=>
  refine' hN.val rfl rfl rfl (lM rfl rfl ?av (iB (dm rfl) ?az)) rfl ?he;case av=>exact qr
  case az=>first|rfl|assumption
  case he=>exact iG
 case a0=>
  refine' hN.val rfl rfl rfl (rL rfl rfl (rH rfl rfl)) rfl ?he;case he=>exact iG
 case bJ=>
  refine' hN.val rfl rfl rfl (lM rfl rfl ?av (iB (dm rfl) ?az)) rfl ?he;case av=>exact qr
  case az=>first|rfl|assumption
  case he=>exact iG
 case cO=>
  refine' hN.val rfl rfl rfl (rL rfl rfl (rH rfl rfl)) rfl ?he;case he=>exact iG
 refine' bc.dA rfl rfl rfl rfl rfl rfl rfl rfl rfl (de (eI rfl) (de (eI rfl) dx)) (A5 (z:=r.z*s.d) (iW rd I) (by rw[lc];rfl) (fun aL=>PJ aL) (hF.mono bi) h1 I I) ?_;rintro v' m' ga cn ⟨_,rfl,ev,gH,rfl,b4⟩;have cp:=b4;obtain⟨iN,fp,rfl,mM⟩:=b4.n.bG;obtain⟨kr,cl,rfl,nb⟩:=b4.d.bG;refine bc.iQ (fun x ab=>iV (f:=fun x=>(x.f,x.b2)) ab) ?_;refine mw rfl ?_;refine bp.nil ?_;refine ao ?_;refine ae.ret ?_;refine'⟨.inr rfl,rfl,_,[],.cell rfl (by repeat first|exact .head _|refine .tail _ ?_|refine eF _ ?_) (fA (dm rfl) rfl) (.nil),br _,⟨(aK.trans bi).trans cn,rfl,_,_,rfl,cp⟩⟩
theorem aeW{n d:Nat}{v1 v2:Value}(av:fO J ⟨(n:Int),d⟩ v1 v2)(aq:d≠0)(dF:(ai n).length<=20000)(dq:(ai d).length<=20000):Fn (a1 Q g0) 56 [c8 ⟨(n:Int),d⟩ v1 v2] [] J (r4 J (⟨((n / d:Nat):Int),1⟩:cE)):=by
 have dj:=av;have hG:cM J v1 n:=av.n;have lv:cM J v2 d:=av.d;obtain⟨bQ,bH,rfl,aX⟩:=hG.bG;obtain⟨bL,bM,rfl,aU⟩:=lv.bG;have ad:(ai 1).length<=60000:=cY (mG (k:=1) bC) bC;have AG:bk ((n / d:Nat):Int) 1=(⟨((n / d:Nat):Int),1⟩:cE):=Bg (r:=⟨((n / d:Nat):Int),1⟩) ⟨Nat.one_pos,Ml _⟩;have aiP:(ai (n / d)).length<=60000:=cY (lD (rZ _ _)) I;refine Fn.cr (cu Tryz.func56) rfl rfl fun H=>?_;refine rg ?_;refine gU fun bO=>?_;refine' W.step rfl (.of (gx rfl rfl rfl (lb Q g0) rfl rfl rfl fun bA=>?_));refine a2 ?_;refine U V.cJ ?_;refine U V.cI ?_;refine U V.cJ ?_;refine U V.cI ?_;refine bN (G:=Lk hG lv aq I I) (h:=?_);rintro v' m' bK hle ⟨aK,rfl,bm,bW,rfl,n9,gN⟩;have aiN:=n9;obtain⟨fI,gV,rfl,gl⟩:=n9.bG;obtain⟨gz,e7,rfl,iC⟩:=gN.bG;refine al ?_;refine a2 ?_;refine U V.cJ ?_;refine U V.cI ?_;refine U V.ay ?_;refine ft 15 (fun yD=>?_) fun yD=>?_
 ·exfalso;have w5:(n:Int)<0:=yD;omega
 ·refine bs ?_;refine bs ?_;refine bs ?_;refine U V.bt ?_;refine aA ?_;refine ae.sb rfl ?_;refine fy ?_;refine U V.cJ ?_;refine U V.cI ?_;refine U V.ay ?_;refine ll (hb Q g0) fun aq8=>?_;refine W.et rfl fun bi Ol=>?_;refine bN (G:=A5 (z:=((n / d:Nat):Int)) Nat.one_pos rfl (fun _=>m1.2 (iff_of_false (show ¬(n:Int)<0 by omega) (Int.not_lt.2 (o6 _)))) (aiN.mono bi) (KJ Ol) aiP ad) (h:=?_);rintro v' m' dT hle ⟨cn,rfl,ev,gH,rfl,b4⟩;rw[AG] at b4 ⊢;have cp:=b4;obtain⟨iN,fp,rfl,mM⟩:=b4.n.bG;obtain⟨kr,cl,rfl,nb⟩:=b4.d.bG;refine e9 ?_;refine aA ?_;refine ae.ret ?_;refine'⟨.inr rfl,rfl,_,[],.cell rfl (by repeat first|exact .head _|refine .tail _ ?_|refine eF _ ?_) (fA (dm rfl) rfl) (.nil),br _,⟨aK.trans (bi.trans cn),rfl,_,_,rfl,cp⟩⟩
theorem ajP{p d:Nat}{v1 v2:Value}(av:fO J ⟨(p:Int),d⟩ v1 v2)(ap:p<1000000000000000000):Fn (a1 Q g0) 55 [c8 ⟨(p:Int),d⟩ v1 v2] [] J (fun u m' ah=>J.le ah/\m'=[]/\u=.tuple #[.int .i64 (p:Int),.int .i64 0]):=by
 have hG:cM J v1 p:=av.n;have lv:cM J v2 d:=av.d;obtain⟨bQ,bH,rfl,aX⟩:=hG.bG;obtain⟨bL,bM,rfl,aU⟩:=lv.bG;have ke:(ai p).length<=2:=mG (iJ ap bC);have n4:jq p 9223372036854775808=-1:=pf I;refine Fn.cr (cu Tryz.func55) rfl rfl fun H=>?_;refine rg ?_;refine gU fun bO=>?_;refine al ?_;refine a2 ?_;refine U V.cJ ?_;refine U V.cg ?_;refine ll (hb Q g0) fun kV=>?_;refine W.et rfl fun aK sj=>?_;refine bN (G:=Lj (y:=9223372036854775808) (hG.mono aK) (by unfold cM;rw[akE];exact cR.row (l:=[854775808,223372036,9]) bC bC bC sj) I) (h:=?_);rintro v' m' ah hle ⟨rfl,rfl,rfl⟩;rw[n4];refine U V.bb ?_;refine aA ?_;refine If (fun cl=>?_) fun cl=>?_
 ·exfalso;omega
 ·refine ao ?_;refine ae.skip ?_;refine rg ?_;refine U V.au ?_;refine a2 ?_;refine U V.cJ ?_;refine U V.cg ?_;refine U V.h7 ?_;refine U V.aY ?_;refine U V.au ?_;refine aA ?_;refine ae.block ?_;refine' ae.dO (l':=[(5,.int .i64 ((((ai p).length):Int) -1)),(4,.int .i64 (0)),(1,_)]) ⟨?gm,?kR,rfl,trivial⟩ (bx _) ?_;case gm=>first|exact bg|exact aa some (aa (Value.int .u64) I)|exact aa some (aa (Value.int .u32) I)|exact aa some (aa (Value.int .i64) I)
  case kR=>first|exact bg|exact aa some (aa (Value.int .u64) I)|exact aa some (aa (Value.int .u32) I)|exact aa some (aa (Value.int .i64) I)
  refine ao ?_;refine' ae.lE (α:=(Nat)×(Int)) (fun(a6:(Nat)×(Int))=>match a6 with|(k,z)=>[(5,.int .i64 ((k:Int) -1)),(4,.int .i64 z)]) (fun(a6:(Nat)×(Int))=>match a6 with|(k,z)=>k<=(ai p).length/\z=-(aN ((ai p).drop k):Int)) (fun(a6:(Nat)×(Int))=>match a6 with|(k,z)=>k) ⟨(ai p).length,0⟩ ?ag ?bD
  case ag=>exact⟨bX _,by rw[tb (bX _)];rfl⟩
  case bD=>
   rintro⟨k,z⟩ hinv;try simp only at hinv
   obtain⟨hk,aL⟩:=hinv;refine rg ?_;refine U V.ay ?_;refine U V.bb ?_;refine aA ?_;refine If (fun jo=>?_) fun jo=>?_
   ·obtain⟨oE,o,pi,e,rfl,hy,az⟩:=(hG.mono aK).at (oT I);obtain⟨a,aI,ny,i'⟩:=az (k -1) I;have ny:nth pi (o+((k:Int) -1).toNat*1)=some (.int .u32 (a:Int)):=by
     rw[show((k:Int) -1).toNat=k -1 by omega];exact ny
    have ajs:=vP aI;rw[show k -1+1=k by omega] at ajs;have Gz:aN ((ai p).drop (k -1))<=p:=by rw[O2];exact rZ _ _
    refine dW ?_;refine ao ?_;refine ae.block ?_;refine rg ?_;refine U V.ay ?_;refine U V.aY ?_;refine U V.cJ ?_;refine U V.cg ?_;refine U V.ay ?_;refine U V.bh ?_;refine U V.cg ?_;refine U V.d' ?_;refine U V.aY ?_;refine U V.au ?_;refine a2 ?_;refine U V.ay ?_;refine U V.aY ?_;refine U V.au ?_;refine a3 ?_;refine'⟨⟨k -1,z*1000000000 -(a:Int)⟩,_,?hinv,?gi,rfl,⟨?j1,?mI,rfl,trivial⟩,bx _,rfl⟩;case j1=>first|exact bg|exact aa some (aa (Value.int .u64) I)|exact aa some (aa (Value.int .u32) I)|exact aa some (aa (Value.int .i64) I)
    case mI=>first|exact bg|exact aa some (aa (Value.int .u64) I)|exact aa some (aa (Value.int .u32) I)|exact aa some (aa (Value.int .i64) I)
    case gi=>exact bz
    case hinv=>exact⟨I,I⟩
   ·have wX:k=0:=I
    rw[wX,hi,e5] at aL;refine ao ?_;refine ae.exit ?_;refine rg ?_;refine U V.cJ ?_;refine U V.cg ?_;refine aA ?_;refine If (fun Jl=>?_) fun Jl=>?_
    ·exfalso;have w5:(p:Int)<0:=Jl;omega
    ·refine ao ?_;refine ae.skip ?_;refine rg ?_;refine al ?_;refine' W.step rfl (Exec.val rfl rfl (zu rfl rfl ?hw) ?_);case hw=>first|exact wrap_i64 I I|exact wrap_u8 I I|exact wrap_u64 I I|exact wrap_u32 I I|rfl
     refine U V.bb ?_;refine U V.ay ?_;refine ft 35 (fun agt=>?_) fun agt=>?_
     ·refine bo V.ay ?_;refine bo V.bb ?_;refine U V.bt ?_;refine aA ?_;refine If (fun qe=>?_) fun qe=>?_
      ·exfalso;omega
      ·refine ao ?_;refine ae.skip ?_;refine rg ?_;refine U V.ay ?_;refine' W.step rfl (Exec.val rfl rfl (zu rfl rfl ?hw) ?_);case hw=>first|exact wrap_i64 I I|exact wrap_u8 I I|exact wrap_u64 I I|exact wrap_u32 I I|rfl
       refine al ?_;refine aA ?_;refine ae.ret ?_;refine'⟨.inr rfl,rfl,_,[],.tmp rfl (.tmp rfl .nil),br _,⟨aK,rfl,by rw[aL,L9];rfl⟩⟩
     ·refine bs ?_;refine bs ?_;refine U V.bt ?_;refine aA ?_;refine ae.sb rfl ?_;refine fy ?_;refine U V.ay ?_;refine' W.step rfl (Exec.val rfl rfl (zu rfl rfl ?hw) ?_);case hw=>first|exact wrap_i64 I I|exact wrap_u8 I I|exact wrap_u64 I I|exact wrap_u32 I I|rfl
      refine al ?_;refine aA ?_;refine ae.ret ?_;refine'⟨.inr rfl,rfl,_,[],.tmp rfl (.tmp rfl .nil),br _,⟨aK,rfl,by rw[aL,L9];rfl⟩⟩
end
section
variable {Q:dD Tryz.prog}{g0:Nat}{J:an}
theorem UY{v:Value}{x:Nat}(h:cM J v x)(aD:(ai x).length<=1024):Fn (a1 Q g0) 63 [v] [] J (fun u m' ah=>J.le ah/\m'=[]/\∃w,u=.tuple #[w,.int .i64 0]/\cM ah w x):=by
 have aO:=h;obtain⟨b,c,rfl,kA⟩:=h.bG;refine Fn.cr (cu Tryz.func63) rfl rfl fun H=>?_;refine rg ?_;refine al ?_;refine a2 ?_;refine al ?_;refine U V.bb ?_;refine aA ?_;refine If (fun e7=>?_) fun e7=>?_
 ·exfalso;omega
 ·refine ao ?_;refine ae.skip ?_;refine rg ?_;refine ll (hb Q g0) fun fK=>?_;refine W.et rfl fun V3 arT=>?_;refine U V.ay ?_;refine' W.step rfl (.of (qM rfl rfl rfl rfl rfl rfl (hb Q g0) (sZ Q g0) (fun i q=>by cases q) ?eW ?hm ?ab ?ei ?eh ?aD fun Eb atn VC asV=>?_));case eW=>exact .js _
  case hm=>exact .refl _
  case ab=>exact cR.rd (aO.mono V3)
  case ei=>exact(show(b7 .u32 (ai x)).length=(ai x).length*1 by rw[oU,gT])
  case eh=>exact xx _
  case aD=>exact(show 0+(ai x).length<=1000000 by omega)
  refine al ?_;refine a3 ?_;rw[j7,kp] at VC;refine VC.pO (by rw[iU]) fun bK aK ax=>?_;refine ao ?_;refine ae.ret ?_;refine'⟨.inr rfl,rfl,_,[],.tmp rfl (.tmp rfl .nil),br _,⟨V3.trans aK,rfl,_,rfl,_,ax⟩⟩
theorem af3{r:cE}{v1 v2:Value}(av:fO J r v1 v2)(dF:(ai r.z.natAbs).length<=1024)(dq:(ai r.d).length<=1024):Fn (a1 Q g0) 29 [c8 r v1 v2] [] J (fun u m' ah=>J.le ah/\m'=[]/\∃bm bW,u=.tuple #[c8 r bm bW,.int .i64 0]/\fO ah r bm bW):=by
 have dj:=av;obtain⟨bQ,bH,rfl,aX⟩:=av.n.bG;obtain⟨bL,bM,rfl,aU⟩:=av.d.bG;refine Fn.cr (cu Tryz.func29) rfl rfl fun H=>?_;refine rg ?_;refine gU fun bO=>?_;refine' W.step rfl (.of (gx rfl rfl rfl (lb Q g0) rfl rfl rfl fun bA=>?_));refine U V.au ?_;refine a2 ?_;refine U V.cJ ?_;refine U V.cI ?_;refine bN (G:=UY dj.n dF) (h:=?_);rintro v' m' bK hle ⟨aK,rfl,bm,rfl,eT⟩;have hF:=eT;obtain⟨fI,gV,rfl,gl⟩:=eT.bG;refine al ?_;refine a2 ?_;refine U V.cJ ?_;refine U V.cI ?_;refine bN (G:=UY (dj.d.mono aK) dq) (h:=?_);rintro v' m' dT hle ⟨bi,rfl,bW,rfl,e4⟩;have h1:=e4;obtain⟨gz,e7,rfl,iC⟩:=e4.bG;refine al ?_;refine a2 ?_;refine U V.ay ?_;refine U V.bb ?_;refine U V.ay ?_;refine ft 22 (fun JG=>?_) fun JG=>?_
 ·exfalso;exact JG rfl
 ·refine bo V.ay ?_;refine bo V.bb ?_;refine U V.bt ?_;refine aA ?_;refine If (fun mY=>?_) fun mY=>?_
  ·exfalso;exact mY rfl
  ·refine ao ?_;refine ae.skip ?_;refine rg ?_;refine U V.cJ ?_;refine U V.cI ?_;refine al ?_;refine e9 ?_;refine U V.au ?_;refine aA ?_;refine ae.ret ?_;refine'⟨.inr rfl,rfl,_,[],.cell rfl (by repeat first|exact .head _|refine .tail _ ?_|refine eF _ ?_) (fA (dm rfl) rfl) (.tmp rfl .nil),br _,⟨aK.trans bi,rfl,_,_,rfl,hF.mono bi,h1⟩⟩
end
end
end Go.Opn

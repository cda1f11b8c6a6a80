/- A part of the proof of TableClose. -/
import Derived.Test.YtpahonhejmlnpaaGreatDoorCbg
set_option maxRecDepth 100000
set_option maxHeartbeats 8000000
set_option linter.unusedVariables false
set_option linter.unusedSimpArgs false
namespace Go.Opn
noncomputable section
open Go.Cre Go.RowKit Go.Proofs
theorem oI.mono{K:dG}{f:FuncId}{args:List Value}{bf:FrameMode}{bU:aU}{J:an}{P Lv:FrameMode->aU->an->Prop}(h:oI K f args bf bU J P)(ao:∀u m ae,P u m ae->Lv u m ae):oI K f args bf bU J Lv:=fun H av=>by
 obtain⟨v,fx,H',ae,m',aa,ab,aY⟩:=h H av;exact⟨v,fx,H',ae,m',aa,ab,ao _ _ _ aY⟩
section
variable {Q:ek Tryz.prog}{g0:Nat}{J:an}
theorem PC{v:Value}{x:Nat}(h:dW J v x)(U:x<1000000000):Fn (aO Q g0) 118 [v] [] J (fun u m' ae=>u=.int .i64 0/\m'=[]/\J=ae):=by
 obtain⟨b,n,c,rfl,lQ,aw,al⟩:=h.un U;have Dx:=aw.le;refine Fn.ck (ch Tryz.func118) rfl rfl fun H=>?_;refine rg ?_;refine I V.aI ?_;refine bb ?_;refine aH ?_;refine I V.a' ?_;refine aD ?_;refine If (fun gA=>?_) fun gA=>?_
 ·exfalso;omega
 ·refine aG ?_;refine ad.skip ?_;refine rg ?_;refine aH ?_;refine aD ?_;refine ad.block ?_;refine' ad.eH (l':=[(10,.int .i64 ((0):Int)),(0,_),(8,_),(9,_)]) ⟨?BZ,rfl,rfl,rfl,trivial⟩ (cd _) ?_;case BZ=>first|exact cq|exact aj some (aj (Value.int .u64) (by omega))|exact aj some (aj (Value.int .i64) (by omega))
  refine aG ?_;refine' ad.mQ (α:=(Nat)) (fun(i:Nat)=>[(10,.int .i64 (i:Int))]) (fun(i:Nat)=>i<=n) (fun(i:Nat)=>n -i) (0) ?af ?bT;case af=>exact fB _
  case bT=>
   rintro i hinv;try simp only at hinv
   have ar:=hinv;refine rg ?_;refine I V.a' ?_;refine aD ?_;refine If (fun mA=>?_) fun mA=>?_
   ·obtain⟨a,off,cells,e,rfl,fu,ay⟩:=al (by omega);have pd:nth cells (off+((i:Nat):Int).toNat*1)=some (.int .u32 (x:Int)):=by rw[show((i:Nat):Int).toNat=0 by omega];exact ay
    refine e4 ?_;refine aG ?_;refine ad.block ?_;refine rg ?_;refine I V.bj ?_;refine I V.c2 ?_;refine I V.aI ?_;refine bb ?_;refine I V.aJ ?_;refine I V.a' ?_;refine aD ?_;refine If (fun fQ=>?_) fun fQ=>?_
    ·exfalso;omega
    ·refine aG ?_;refine ad.skip ?_;refine rg ?_;refine I V.bW ?_;refine I V.aJ ?_;refine bR ?_;refine'⟨(i+1),_,?hinv,?hh,rfl,⟨?IQ,rfl,rfl,rfl,trivial⟩,cd _,rfl⟩;case IQ=>first|exact cq|exact aj some (aj (Value.int .u64) (by omega))|exact aj some (aj (Value.int .i64) (by omega))
     case hh=>exact bS
     case hinv=>exact(by omega)
   ·refine aG ?_;refine ad.exit ?_;refine rg ?_;refine aH ?_;refine I V.a' ?_;refine I V.aJ ?_;refine gz 20 (fun Wz=>?_) fun Wz=>?_
    ·obtain⟨a,off,cells,e,rfl,fu,ay⟩:=al (by omega);have pd:nth cells (off+((n:Int) -1).toNat*1)=some (.int .u32 (x:Int)):=by rw[show((n:Int) -1).toNat=0 by omega];exact ay
     refine bM V.aJ ?_;refine bM V.aJ ?_;refine bM V.gL ?_;refine bM V.bW ?_;refine bM V.bj ?_;refine bM V.c2 ?_;refine bM V.a' ?_;refine I V.bo ?_;refine aD ?_;refine If (fun F5=>?_) fun F5=>?_
     ·exfalso;exact aw.Jc (by omega) (by omega)
     ·refine aG ?_;refine ad.skip ?_;refine rg ?_;refine I V.aI ?_;refine aD ?_;refine ad.ret ?_;refine'⟨.inr rfl,rfl,_,[],.tmp rfl .nil,bZ _,⟨rfl,rfl,rfl⟩⟩
    ·refine c7 ?_;refine c7 ?_;refine c7 ?_;refine c7 ?_;refine c7 ?_;refine c7 ?_;refine c7 ?_;refine I V.bo ?_;refine aD ?_;refine ad.tJ rfl ?_;refine l8 ?_;refine I V.aI ?_;refine aD ?_;refine ad.ret ?_;refine'⟨.inr rfl,rfl,_,[],.tmp rfl .nil,bZ _,⟨rfl,rfl,rfl⟩⟩
theorem acW{v w:Value}{x y:Nat}(aa:dW J v x)(ab:dW J w y)(U:x<1000000000)(aF:y<1000000000)(qJ:y≠0):Fn (aO Q g0) 90 [v,w] [] J (fun u m' ae=>u=.int .i64 0/\m'=[]/\J=ae):=by
 have g3:=aa;have hb:=ab;obtain⟨br,bI,bn,rfl,aR,eb,_⟩:=aa.un U;obtain⟨bN,cY,bQ,rfl,aN,e',_⟩:=ab.un aF;refine Fn.ck (ch Tryz.func90) rfl rfl fun H=>?_;refine rg ?_;refine I V.aI ?_;refine bb ?_;refine I V.aJ ?_;refine b4 (G:=PC g3 U) (h:=?_);rintro v' m' ae hle ⟨rfl,rfl,rfl⟩;refine I V.aI ?_;refine bb ?_;refine I V.aJ ?_;refine I V.a' ?_;refine aD ?_;refine If (fun dq=>?_) fun dq=>?_
 ·exfalso;exact dq rfl
 ·refine aG ?_;refine ad.skip ?_;refine rg ?_;refine I V.aJ ?_;refine b4 (G:=PC hb aF) (h:=?_);rintro v' m' ae hle ⟨rfl,rfl,rfl⟩;refine I V.aI ?_;refine bb ?_;refine I V.aJ ?_;refine I V.a' ?_;refine aD ?_;refine If (fun fQ=>?_) fun fQ=>?_
  ·exfalso;exact fQ rfl
  ·refine aG ?_;refine ad.skip ?_;refine rg ?_;refine aH ?_;refine I V.a' ?_;refine aD ?_;refine If (fun oS=>?_) fun oS=>?_
   ·exfalso;exact qJ (e'.z (by omega))
   ·refine aG ?_;refine ad.skip ?_;refine rg ?_;refine I V.aI ?_;refine aD ?_;refine ad.ret ?_;refine'⟨.inr rfl,rfl,_,[],.tmp rfl .nil,bZ _,⟨rfl,rfl,rfl⟩⟩
theorem EW{v:Value}{x:Nat}(h:dW J v x)(U:x<1000000000):Fn (aO Q g0) 96 [v] [] J (fun u m' ae=>u=.int .u64 (x:Int)/\m'=[]/\J=ae):=by
 obtain⟨b,n,c,rfl,lQ,aw,al⟩:=h.un U;have Dx:=aw.le;refine Fn.ck (ch Tryz.func96) rfl rfl fun H=>?_;refine rg ?_;refine I V.aI ?_;refine bb ?_;refine I V.aI ?_;refine bb ?_;refine aH ?_;refine I V.bW ?_;refine I V.aI ?_;refine aD ?_;refine ad.block ?_;refine' ad.eH (l':=[(4,.int .i64 (((n):Int) -1)),(3,.int .u64 ((0):Int)),(0,_)]) ⟨?lS,?dD,rfl,trivial⟩ (cd _) ?_;case lS=>first|exact cq|exact aj some (aj (Value.int .u64) (by omega))|exact aj some (aj (Value.int .i64) (by omega))
 case dD=>first|exact cq|exact aj some (aj (Value.int .u64) (by omega))|exact aj some (aj (Value.int .i64) (by omega))
 refine aG ?_;refine' ad.mQ (α:=(Nat)×(Nat)) (fun(cG:(Nat)×(Nat))=>match cG with|(k,y)=>[(4,.int .i64 ((k:Int) -1)),(3,.int .u64 (y:Int))]) (fun(cG:(Nat)×(Nat))=>match cG with|(k,y)=>k<=n/\(k=n->y=0)/\(k<n->y=x)) (fun(cG:(Nat)×(Nat))=>match cG with|(k,y)=>k) ⟨n,0⟩ ?af ?bT
 case af=>exact⟨c5 _,fun _=>rfl,fun q=>absurd q (u3 _)⟩
 case bT=>
  rintro⟨k,y⟩ hinv;try simp only at hinv
  obtain⟨hk,oe,rz⟩:=hinv;refine rg ?_;refine I V.aJ ?_;refine I V.a' ?_;refine aD ?_;refine If (fun e7=>?_) fun e7=>?_
  ·have Dq:k=n:=by omega
   have h6:=oe Dq;obtain⟨a,off,cells,e,rfl,fu,ay⟩:=al (by omega);have pd:nth cells (off+((k:Int) -1).toNat*1)=some (.int .u32 (x:Int)):=by rw[show((k:Int) -1).toNat=0 by omega];exact ay
   refine e4 ?_;refine aG ?_;refine ad.block ?_;refine rg ?_;refine I V.aJ ?_;refine I V.bW ?_;refine aH ?_;refine I V.bj ?_;refine I V.c2 ?_;refine I V.gk ?_;refine I V.bW ?_;refine I V.aI ?_;refine bb ?_;refine I V.aJ ?_;refine I V.bW ?_;refine I V.aI ?_;refine bR ?_;refine'⟨⟨k -1,x⟩,_,?hinv,?hh,rfl,⟨?mS,?jT,rfl,trivial⟩,cd _,rfl⟩;case mS=>first|exact cq|exact aj some (aj (Value.int .u64) (by omega))|exact aj some (aj (Value.int .i64) (by omega))
   case jT=>first|exact cq|exact aj some (aj (Value.int .u64) (by omega))|exact aj some (aj (Value.int .i64) (by omega))
   case hh=>exact bS
   case hinv=>exact⟨by omega,fun q=>by omega,fun _=>rfl⟩
  ·have tY:k=0:=by omega
   have Zd:y=x:=by
    by_cases q:n=0
    ·rw[oe (by omega),aw.z q]
    ·exact rz (by omega)
   refine aG ?_;refine ad.exit ?_;refine rg ?_;refine aH ?_;refine aD ?_;refine ad.ret ?_;refine'⟨.inr rfl,rfl,_,[],.tmp rfl .nil,bZ _,⟨by rw[Zd];rfl,rfl,rfl⟩⟩
theorem Mq{v w:Value}{x y:Nat}{e:TypeId}(b6:J 2=some (ca .u8 jI,e))(aq:Nat.blt 2 (aO Q g0).g0=true)(aa:dW J v x)(ab:dW J w y)(U:x<8192)(aF:y<8192)(aL:Nat.gcd x y=1):Fn (aO Q g0) 91 [v,w] [] J (fun u m' ae=>u=.bool true/\m'=[]/\J=ae):=by
 have g3:=aa;have hb:=ab;obtain⟨br,bI,bn,rfl,aR,eb,_⟩:=aa.un (by omega);obtain⟨bN,cY,bQ,rfl,aN,e',_⟩:=ab.un (by omega);have fM:=eb.le;have fg:=e'.le;refine Fn.ck (ch Tryz.func91) rfl rfl fun H=>?_;refine rg ?_;refine I V.aI ?_;refine bb ?_;refine aH ?_;refine I V.a' ?_;refine I V.aJ ?_;refine gz 8 (fun j'=>?_) fun j'=>?_
 ·refine bM V.aJ ?_;refine bM V.gL ?_;refine bM V.a' ?_;refine I V.bo ?_;refine aD ?_;refine If (fun jb=>?_) fun jb=>?_
  ·refine rg ?_;refine I V.aJ ?_;refine b4 (G:=EW g3 (by omega)) (h:=?_);rintro v' m' ae hle ⟨rfl,rfl,rfl⟩;refine I V.aJ ?_;refine b4 (G:=EW hb (by omega)) (h:=?_);rintro v' m' ae hle ⟨rfl,rfl,rfl⟩;refine b4 (G:=L4 b6 aq U aF) (h:=?_);rintro v' m' ae hle ⟨rfl,rfl,rfl⟩;rw[aL];refine I V.a' ?_;refine I V.aI ?_;refine aD ?_;refine ad.ret ?_;refine'⟨.inr rfl,rfl,_,[],.tmp rfl .nil,bZ _,⟨rfl,rfl,rfl⟩⟩
  ·exfalso;omega
 ·exfalso;omega
theorem acz{r:cH}{v1 v2:Value}{e:TypeId}(b6:J 2=some (ca .u8 jI,e))(aq:Nat.blt 2 (aO Q g0).g0=true)(h:iD J r v1 v2)(eV:r.fP)(a0:r.z.natAbs<8192)(au:r.d<8192):Fn (aO Q g0) 55 [cO r v1 v2] [] J (fun u m' ae=>u=.int .i64 0/\m'=[]/\J=ae):=by
 have aX:=h;obtain⟨br,bI,bn,rfl,aR,eb,_⟩:=h.n.un (by omega);obtain⟨bN,cY,bQ,rfl,aN,e',_⟩:=h.d.un (by omega);have rd:=eV.1;refine Fn.ck (ch Tryz.func55) rfl rfl fun H=>?_;refine rg ?_;refine fc fun bx=>?_;refine I V.aI ?_;refine bb ?_;refine I V.cF ?_;refine I V.cP ?_;refine I V.cF ?_;refine I V.cP ?_;refine b4 (G:=acW aX.n aX.d (by omega) (by omega) (by omega)) (h:=?_);rintro v' m' ae hle ⟨rfl,rfl,rfl⟩;refine I V.aI ?_;refine bb ?_;refine I V.aJ ?_;refine I V.a' ?_;refine aD ?_;refine If (fun dq=>?_) fun dq=>?_
 ·exfalso;exact dq rfl
 ·refine aG ?_;refine ad.skip ?_;refine rg ?_;refine I V.cF ?_;refine I V.cP ?_;refine I V.gL ?_;refine I V.a' ?_;refine I V.aJ ?_;refine gz 16 (fun GV=>?_) fun GV=>?_
  ·refine bM V.cF ?_;refine bM V.cP ?_;refine I V.bo ?_;refine I V.aJ ?_;refine gz 20 (fun Ww=>?_) fun Ww=>?_
   ·exfalso;have:=mo.1 (eb.z (by omega));omega
   ·refine bM V.cF ?_;refine bM V.cP ?_;refine bM V.cF ?_;refine bM V.cP ?_;refine vg (G:=Mq b6 aq aX.n aX.d a0 au eV.2) (h:=?_);rintro v' m' ae hle ⟨rfl,rfl,rfl⟩;refine bM V.nG ?_;refine I V.bo ?_;refine aD ?_;refine If (fun kt=>?_) fun kt=>?_
    ·exfalso;first|(simp at kt;done)|cases kt
    ·refine aG ?_;refine ad.skip ?_;refine rg ?_;refine I V.aI ?_;refine aD ?_;refine ad.ret ?_;refine'⟨.inr rfl,rfl,_,[],.tmp rfl .nil,bZ _,⟨rfl,rfl,rfl⟩⟩
  ·refine c7 ?_;refine c7 ?_;refine I V.bo ?_;refine I V.aJ ?_;refine bM V.cF ?_;refine bM V.cP ?_;refine bM V.cF ?_;refine bM V.cP ?_;refine vg (G:=Mq b6 aq aX.n aX.d a0 au eV.2) (h:=?_);rintro v' m' ae hle ⟨rfl,rfl,rfl⟩;refine bM V.nG ?_;refine I V.bo ?_;refine aD ?_;refine If (fun kt=>?_) fun kt=>?_
   ·exfalso;first|(simp at kt;done)|cases kt
   ·refine aG ?_;refine ad.skip ?_;refine rg ?_;refine I V.aI ?_;refine aD ?_;refine ad.ret ?_;refine'⟨.inr rfl,rfl,_,[],.tmp rfl .nil,bZ _,⟨rfl,rfl,rfl⟩⟩
theorem aaT{r:cH}{v1 v2:Value}(al:e5 J r v1 v2)(a0:r.z.natAbs<1000000000)(au:r.d<1000000000)(gm:r.d≠0):Fn (aO Q g0) 40 [cO r v1 v2] [] J (fun u m' ae=>J.le ae/\m'=[]/\∃v1 v2,u=.tuple #[cO r v1 v2,.int .i64 0]/\iD ae r v1 v2):=by
 have dL:=al;obtain⟨br,bI,bn,rfl,aR,eb,gK⟩:=al.n.bD;obtain⟨bN,cY,bQ,rfl,aN,e',gT⟩:=al.d.bD;refine Fn.ck (ch Tryz.func40) rfl rfl fun H=>?_;refine rg ?_;refine fc fun bx=>?_;refine' W.step rfl (.of (eS rfl rfl rfl (jY Q g0) rfl rfl rfl fun bX=>?_));refine I V.aI ?_;refine bb ?_;refine I V.gU ?_;refine b4 (G:=acv dL a0 au gm) (h:=?_);rintro v' m' bq a8 ⟨_,rfl,bh,cb,rfl,eC⟩;have lf:=eC;obtain⟨cW,ee,cZ,rfl,bG⟩:=eC.n.bD;obtain⟨dj,fa,dH,rfl,dd⟩:=eC.d.bD;refine aH ?_;refine' W.step rfl (.of (eS rfl rfl rfl (jY Q g0) rfl rfl rfl fun c0=>?_));refine eG ?_;refine I V.aI ?_;refine bb ?_;refine I V.aJ ?_;refine I V.nG ?_;refine aD ?_;refine If (fun jb=>?_) fun jb=>?_
 ·exfalso;simp at jb
 ·refine aG ?_;refine ad.skip ?_;refine rg ?_;refine I V.gU ?_;refine eG ?_;refine I V.aI ?_;refine aD ?_;refine ad.ret ?_;refine'⟨.inr rfl,rfl,_,[],.cell rfl (by repeat first|exact .head _|refine .tail _ ?_|refine d' _ ?_) (fb (dw rfl) rfl) (.tmp rfl .nil),bZ _,⟨a8,rfl,_,_,rfl,lf⟩⟩
theorem EB{ps:List Nat}{s:Nat}{b:Option Addr}{c:Nat}{e:TypeId}(b6:J 2=some (ca .u8 jI,e))(aq:Nat.blt 2 (aO Q g0).g0=true)(h:fA J 35 3 (ic J) (.slice b ps.length c) (ps.map fun p:Nat=>aV (p:Int) s))(fR:1<=ps.length)(fZ:ps.length<=10)(af:0<s)(kf:s<=4096)(ao:ps.sum=s):
 Fn (aO Q g0) 25 [.slice b ps.length c] [] J (fun u m' ae=>J.le ae/\m'=[]/\∃b' bw,u=.slice b' ps.length bw/\fA ae 81 3 (j1 ae) (.slice b' ps.length bw) (ps.map fun p:Nat=>aV (p:Int) s)):=by
 have lQ:addrEq b b=true:=h.addr;obtain⟨_,iH⟩:=h.at;rw[gx] at iH;have ub:∀p∈ps,(aV (p:Int) s).z.natAbs<=4096/\(aV (p:Int) s).d<=4096:=fun p qa=>by
  have:=rR qa;exact ll af (by omega) kf
 have N3:=list_fn (Q:=Q) (g0:=g0) (J:=J) (b:=b) (c:=c) (rs:=ps.map fun p:Nat=>aV (p:Int) s) (by rw[gx];exact h) (by rw[gx];omega) (fun r al=>by
  obtain⟨p,qa,rfl⟩:=qU.1 al;have:=ub p qa;exact⟨h8 af,by omega,by omega⟩)
 rw[gx] at N3;have kR:aV (ps.sum:Int) s=⟨1,1⟩:=(ux (r:=⟨1,1⟩) ⟨by decide,by decide⟩ af (by rw[ao];show(1:Int)*s=s*1;omega)).symm;refine Fn.ck (ch Tryz.func25) rfl rfl fun H=>?_;refine rg ?_;refine I V.aI ?_;refine bb ?_;refine aH ?_;refine I V.a' ?_;refine I V.aJ ?_;refine gz 10 (fun j'=>?_) fun j'=>?_
 ·exfalso;omega
 ·refine bM V.aJ ?_;refine bM V.gL ?_;refine bM V.a' ?_;refine I V.bo ?_;refine aD ?_;refine If (fun gQ=>?_) fun gQ=>?_
  ·exfalso;omega
  ·refine aG ?_;refine ad.skip ?_;refine rg ?_;refine aH ?_;refine aD ?_;refine ad.block ?_;refine' ad.eH (l':=[(19,.int .i64 ((0):Int)),(0,_),(17,_),(18,_)]) ⟨?RV,rfl,rfl,rfl,trivial⟩ (cd _) ?_;case RV=>first|exact cq|exact aj some (aj (Value.int .u64) (by omega))|exact aj some (aj (Value.int .i64) (by omega))
   refine aG ?_;refine' ad.b0 (fun(i:Nat)=>⟨[(19,.int .i64 (i:Int))],[],J,i<=ps.length,ps.length -i⟩) (0) ?af ?bT;case af=>exact fB _
   case bT=>
    rintro i hinv;try simp only at hinv
    have ar:=hinv;refine rg ?_;refine I V.a' ?_;refine aD ?_;refine If (fun la=>?_) fun la=>?_
    ·obtain⟨a,off,cells,bk,rfl,gb,kQ⟩:=iH (by omega);obtain⟨r,cs,al,iq,xW,v1,v2,rfl,eC⟩:=kQ i (by omega) (by omega);rw[jq,jt] at al;obtain⟨p,kS,rfl⟩:=sg.1 al;have ah:=ub p (k8 kS);have lf:=eC;obtain⟨br,bI,bn,rfl,aR⟩:=eC.n.bD;obtain⟨bN,cY,bQ,rfl,aN⟩:=eC.d.bD;refine e4 ?_;refine aG ?_;refine ad.block ?_;refine rg ?_;refine I V.bj ?_;refine I V.hx ?_;refine' W.step rfl (.of (eS rfl rfl rfl (jY Q g0) rfl rfl rfl fun c0=>?_));refine eG ?_;refine bb ?_;refine I V.hx ?_;refine b4 (G:=acz b6 aq lf (h8 af) (by omega) (by omega)) (h:=?_);rintro v' m' ae hle ⟨rfl,rfl,rfl⟩;refine I V.aI ?_;refine bb ?_;refine I V.aJ ?_;refine I V.a' ?_;refine aD ?_;refine If (fun q7=>?_) fun q7=>?_
     ·exfalso;exact q7 rfl
     ·refine aG ?_;refine ad.skip ?_;refine rg ?_;refine I V.cF ?_;refine I V.c2 ?_;refine aD ?_;refine If (fun oT=>?_) fun oT=>?_
      ·
        exfalso;exact pp af oT
      ·
        refine aG ?_;refine ad.skip ?_;refine rg ?_;refine I V.bW ?_;refine I V.aJ ?_;refine bR ?_;refine gF (i+1) ?_ (hm:=.cons _ (.refl _));exact(by omega)
    ·refine aG ?_;refine ad.exit ?_;refine rg ?_;refine I V.aJ ?_;refine b4 (G:=N3) (h:=?_);rintro v' m' bq a8 ⟨_,rfl,cW,cZ,rfl,hL⟩;have bG:addrEq cW cW=true:=hL.addr;refine I V.aI ?_;refine bb ?_;refine I V.aJ ?_;refine b4 (G:=ad4 hL af (by omega) (by omega) (by omega)) (h:=?_);rintro v' m' dR bO ⟨_,rfl,bh,cb,rfl,bY⟩;rw[kR] at bY;have pV:=bY;obtain⟨dj,fa,dH,rfl,dd,_,_⟩:=bY.n.bD;obtain⟨eU,gV,e2,rfl,fm,_,_⟩:=bY.d.bD;rw[kR];refine b4 (G:=IA (n:=1) (by decide) (by decide)) (h:=?_);rintro v' m' fV cL ⟨_,rfl,bh,cb,rfl,cK⟩;have sB:=cK;obtain⟨eP,ef,dU,rfl,ho,_,_⟩:=cK.n.bD;obtain⟨jM,lL,gA,rfl,mf,_,_⟩:=cK.d.bD;refine b4 (G:=Mo (pV.mono cL) sB ⟨by decide,by decide⟩ ⟨by decide,by decide⟩ (by decide) (by decide) (by decide) (by decide) (by decide) (by decide)) (h:=?_);rintro v' m' lV eM ⟨rfl,rfl,_⟩;refine I V.a' ?_;refine aD ?_;refine If (fun Mb=>?_) fun Mb=>?_
     ·exfalso;exact Mb (by decide)
     ·refine aG ?_;refine ad.skip ?_;refine rg ?_;refine aH ?_;refine aD ?_;refine ad.ret ?_;refine'⟨.inr rfl,rfl,_,[],.tmp rfl .nil,bZ _,⟨a8.trans (bO.trans (cL.trans eM)),rfl,cW,cZ,rfl,fA.mono (R':=j1 lV) (bO.trans (cL.trans eM)) (fun _ _ q=>q.mono (bO.trans (cL.trans eM))) hL⟩⟩
theorem Gd{cr:Nat}{ys:List Value}:Fn (aO Q g0) 23 [.nilIface,.pointer (some ⟨cr,0,none⟩)] [] J (fun u m' ae=>m'=[]/\J=ae):=by
 refine Fn.ck (ch Tryz.func23) rfl rfl fun H=>?_;refine rg ?_;refine I V.aJ ?_;refine' W.step rfl (Exec.val rfl rfl (aes rfl rfl ?ay (Zm Q g0)) ?_);case ay=>first|rfl|assumption
 refine aD ?_;refine If (fun gA=>?_) fun gA=>?_
 ·refine aG ?_;refine ad.ret ?_;refine'⟨.inr rfl,rfl,_,[],.nil,bZ _,⟨rfl,rfl⟩⟩
 ·exfalso;cases gA
theorem Tm{cr:Nat}{ys:List Value}:oI (aO Q g0) 39 [.pointer (some ⟨cr,0,none⟩)] .returning [(cr,.row ys 29)] J (fun u m' ae=>u=.returning/\m'=[(cr,.row ys 29)]/\J=ae):=by
 refine oI.ck (ch Tryz.func39) rfl rfl fun H=>?_;refine rg ?_;refine' W.recover rfl rfl rfl rfl rfl rfl rfl ?_;refine b4 (G:=Gd (ys:=ys)) (h:=?_);rintro v' m' ae hle ⟨rfl,rfl⟩;refine bR ?_;exact⟨by first|exact .inl rfl|exact .inr rfl,rfl,[],_,.nil,.refl _,rfl,rfl,rfl⟩
theorem Tn{ps cI:List Nat}{s u:Nat}{b b':Option Addr}{c bw:Nat}{e:TypeId}(b6:J 2=some (ca .u8 jI,e))(aq:Nat.blt 2 (aO Q g0).g0=true)(h:fA J 35 3 (ic J) (.slice b ps.length c) (ps.map fun p:Nat=>aV (p:Int) s))(gB:fA J 35 3 (ic J) (.slice b' cI.length bw) (cI.map fun p:Nat=>aV (p:Int) u))(fR:1<=ps.length)(fZ:ps.length<=10)(p8:ps.length=cI.length)(af:0<s)(kf:s<=4096)(ao:ps.sum=s)(hu:0<u)(rH:u<=4096)(cc:cI.sum=u):
 Fn (aO Q g0) 16 [.slice b ps.length c,.slice b' cI.length bw] [] J (fun x m' ae=>J.le ae/\m'=[]/\∃v1 v2,x=.tuple #[cO (aV (eR s u ps cI:Int) (s*u*2)) v1 v2,.int .i64 0]/\iD ae (aV (eR s u ps cI:Int) (s*u*2)) v1 v2):=by
 have lQ:addrEq b b=true:=h.addr;have acm:addrEq b' b'=true:=gB.addr;have er:0<s*u*2:=hV (hV af hu) (by decide);have C6:s*u<=16777216:=eh (pJ kf rH) (by decide);have GZ:u*s<=16777216:=by rw[j4];exact C6
 have rI:eR s u ps cI<=33554432:=by
  have:=EV (sa:=s) (c9:=u) (ps:=ps) (cI:=cI);rw[ao,cc] at this;omega
 obtain⟨fy,fF⟩:=ll (X:=(eR s u ps cI:Int)) (B:=67108864) er (by omega) (by omega);refine qO.JF (qO.ck (ch Tryz.func16) rfl rfl fun H=>?_);refine rg ?_;refine' W.step rfl (.of (eS rfl rfl rfl (jY Q g0) rfl rfl rfl fun c0=>?_));refine' W.step rfl (.of (eS rfl rfl rfl (B4 Q g0) rfl rfl rfl fun cr=>?_));refine bb ?_;refine I V.fn ?_;refine' W.defer rfl rfl rfl rfl rfl rfl rfl ?_;refine bb ?_;refine I V.aJ ?_;refine b4 (G:=EB b6 aq h fR fZ af kf ao) (h:=?_);rintro v' m' bq a8 ⟨_,rfl,br,bn,rfl,l2⟩;have aR:addrEq br br=true:=l2.addr;refine I V.aJ ?_;refine b4 (G:=EB (a8 _ _ b6) aq (fA.mono (R':=ic bq) a8 (fun _ _ q=>q.mono a8) gB) (by omega) (by omega) hu rH cc) (h:=?_);rintro v' m' dR bO ⟨_,rfl,bN,bQ,rfl,rq⟩;have aN:addrEq bN bN=true:=rq.addr;have l2:=fA.mono (R':=j1 dR) bO (fun _ _ q=>q.mono bO) l2;refine aH ?_;refine bb ?_;refine aH ?_;refine I V.a' ?_;refine aD ?_;refine If (fun ve=>?_) fun ve=>?_
 ·exfalso;omega
 ·refine aG ?_;refine ad.skip ?_;refine rg ?_;refine aH ?_;refine b4 (G:=aeI l2 rq af hu kf rH ao cc (by omega) p8) (h:=?_);rintro v' m' fV cL ⟨_,rfl,bh,cb,rfl,bY⟩;have pV:=bY;obtain⟨cW,ee,cZ,rfl,bG,_,_⟩:=bY.n.bD;obtain⟨dj,fa,dH,rfl,dd,_,_⟩:=bY.d.bD;refine b4 (G:=aaT pV (by omega) (by omega) (hD (h8 er).1)) (h:=?_);rintro v' m' lV eM ⟨_,rfl,bh,cb,rfl,eC⟩;have lf:=eC;obtain⟨eU,gV,e2,rfl,fm⟩:=eC.n.bD;obtain⟨eP,ef,dU,rfl,ho⟩:=eC.d.bD;refine aH ?_;refine eG ?_;refine eG ?_;refine aD ?_;refine ad.ret ?_;refine⟨.returning,rfl,.inr ⟨39,#[.pointer (some ⟨cr,0,none⟩)],#[],[(cr,.row [.int .i64 0] 29)],[(c0,.row (o1 (aV (eR s u ps cI:Int) (s*u*2)) (.slice eU gV e2) (.slice eP ef dU)) 35)],rfl,.refl _,Tm.mono ?_⟩⟩;rintro Rv m' ae ⟨rfl,rfl,rfl⟩ _;exact .inl ⟨rfl,_,[],.cell rfl (.tail _ (.head _)) (fb (dw rfl) rfl) (.cell rfl (.head _) (iV (dw rfl) rfl) .nil),bZ _,a8.trans (bO.trans (cL.trans eM)),rfl,_,_,rfl,lf⟩
end
theorem RD:∀{l:List Nat},(∀j y:Nat,l[j]?=some y->y=0)->bs l=0
 |[],_=>rfl
 |x::l,h=>by
  show x+1000000000*bs l=0;rw[h 0 x rfl,RD (l:=l) fun j y a5=>h (j+1) y a5]
theorem yR{l:List Nat}{k:Nat}(ag:fN l)(hk:k<=l.length)(a0:∀j y,k<=j->l[j]?=some y->y=0)(aw:∀y,0<k->l[k -1]?=some y->y≠0):l.take k=ap (bs l):=by
 have aa:qM (l.take k):=⟨Ji ag,fun x U=>by
  have ao:0<k:=by
   rcases ly k with q|q
   ·rw[q] at U;cases U
   ·exact q
  refine aw x ao ?_;rw[Cm,gp,g9 hk,lW,bg (by omega)] at U;exact U⟩
 have ab:=yW l k hk;rw[RD (l:=l.drop k) fun j y a5=>by
  rw[uY] at a5;exact a0 (k+j) y (by omega) a5] at ab
 rw[CK aa,ab];congr 1
theorem l9{x:Nat}:∀{k:Nat},x<1000000000 ^ k->(ap x).length<=k:=by
 intro k;induction k generalizing x with
 |zero=>
  intro h;have:x=0:=by rw[Nat.pow_zero] at h;omega
  rw[this,kh];exact c5 _
 |succ k aP=>
  intro h;by_cases q:x=0
  ·rw[q,kh];exact fB _
  ·rw[qk q,lx]
   have:x / 1000000000<1000000000 ^ k:=by
        rw[Ft (by decide),<-mu];exact h
   have:=aP this;omega
theorem ur{x k:Nat}(h:(ap x).length<=k):x<1000000000 ^ k:=by
 have aa:=wN (kj x);rw[g5] at aa;exact jL aa (zl (by decide) h)
theorem qj{x:Nat}(h:x≠0):(ap x).length≠0:=by rw[qk h,lx];omega
theorem II{x:Nat}(h:(ap x).length≠0):x≠0:=fun q=>by rw[q,kh] at h;exact h rfl
theorem de.at{k:IntKind}{J:an}{b:Option Addr}{n c:Nat}{l:List Nat}(h:de k J (.slice b n c) l)(ao:0<l.length):∃a off cells e,b=some ⟨a,off,none⟩/\J a=some (cells,e)/\∀i:Nat,i<l.length->∃x,l[i]?=some x/\nth cells (off+i*1)=some (.int k (x:Int)):=by
 obtain⟨a,off,cells,e,aa,ab,aY⟩:=h.dB ao;exact⟨a,off,cells,e,aa,ab,fun i ar=>⟨l[i],eO ar,aY i _ (eO ar)⟩⟩
def u1(J:an)(v:Value)(x:Nat):Prop:=ey J 40 1 v (ap x).length (ca .u32 (ap x))
theorem u1.f'{J:an}{v:Value}{x:Nat}(h:u1 J v x):dW J v x:=⟨_,h⟩
theorem u1.mono{J ae:an}(hle:J.le ae){v:Value}{x:Nat}(h:u1 J v x):u1 ae v x:=ey.mono hle h
abbrev kp(J:an)(x:Nat):Value->aU->an->Prop:=fun u m' ae=>J.le ae/\m'=[]/\u1 ae u x
section
variable {Q:ek Tryz.prog}{g0:Nat}{J:an}
theorem BP{v:Value}{l:List Nat}(h:ey J 40 1 v l.length (ca .u32 l))(ag:fN l)(aA:l.length<=1000):Fn (aO Q g0) 58 [v] [] J (fun u m' ae=>m'=[]/\J=ae/\u1 J u (bs l)):=by
 obtain⟨b,c,rfl,_⟩:=h.inv;refine Fn.ck (ch Tryz.func58) rfl rfl fun H=>?_;refine rg ?_;refine I V.aI ?_;refine aD ?_;refine ad.block ?_;refine' ad.eH (l':=[(0,.slice (b) (l.length) (c))]) ⟨?w0,trivial⟩ (cd _) ?_;case w0=>first|exact cq|exact aj some (aj (Value.int .u64) (by omega))|exact aj some (aj (Value.int .i64) (by omega))
 refine aG ?_;refine' ad.mQ (α:=(Nat)×(Option Addr)×(Nat)) (fun(cG:(Nat)×(Option Addr)×(Nat))=>match cG with|(k,ks,kL)=>[(0,.slice ks k kL)]) (fun(cG:(Nat)×(Option Addr)×(Nat))=>match cG with|(k,ks,kL)=>k<=l.length/\ey J 40 1 (.slice ks k kL) k ((ca .u32 l).take k)/\∀j y,k<=j->l[j]?=some y->y=0) (fun(cG:(Nat)×(Option Addr)×(Nat))=>match cG with|(k,ks,kL)=>k) ⟨l.length,b,c⟩ ?af ?bT
 case af=>exact⟨c5 _,by rw[ib (by rw[s8];exact c5 _)];exact h,fun j y aa ab=>by have:=(hq.1 ab).1;omega⟩
 case bT=>
  rintro⟨k,ks,kL⟩ hinv;try simp only at hinv
  obtain⟨hk,ak,a0⟩:=hinv;refine rg ?_;refine aH ?_;refine I V.a' ?_;refine I V.aJ ?_;refine gz 6 (fun j'=>?_) fun j'=>?_
  ·obtain⟨x,U⟩:∃x,l[k -1]?=some x:=⟨_,eO (by omega)⟩;obtain⟨_,_,bh,_,_,cb⟩:=ak.inv;obtain⟨a,off,cells,bk,aR,fu,ay⟩:=cb (by omega);injection bh with bh _ _
   subst bh;subst aR;have aw:nth cells (off+((k:Int) -1).toNat*1)=some (.int .u32 (x:Int)):=by
    rw[show((k:Int) -1).toNat*1=k -1 by omega,ay (k -1) (by omega),lW,bg (by omega),I' U]
   refine bM V.aJ ?_;refine bM V.aJ ?_;refine bM V.gL ?_;refine bM V.bW ?_;refine bM V.bj ?_;refine bM V.c2 ?_;refine bM V.a' ?_;refine I V.bo ?_;refine aD ?_;refine If (fun gQ=>?_) fun gQ=>?_
   ·refine aG ?_;refine ad.skip ?_;refine aG ?_;refine ad.block ?_;refine rg ?_;refine aH ?_;refine I V.bW ?_;refine' W.step rfl (.of (R4 rfl rfl rfl rfl (iy Q g0) ?ay ?hk rfl rfl ?aX ?aa ?ab fun RV AR=>?_));case ay=>assumption
    case hk=>exact bS
    case aX=>exact bS
    case aa=>exact bS
    case ab=>exact bS
    refine I V.aI ?_;refine bR ?_;obtain⟨hI,e7,rfl,_⟩:=AR.inv;have MF:((k:Int) -1 -0).toNat=k -1:=by omega
    have pe:ey J 40 1 (.slice hI (k -1) e7) (k -1) ((ca .u32 l).take (k -1)):=by
      rw[MF] at AR;have Vb:(((ca .u32 l).take k).drop ((0:Int).toNat*1)).take ((k -1)*1)=(ca .u32 l).take (k -1):=by rw[show(0:Int).toNat*1=0 from rfl,kJ,tw,iZ,g9 (by omega)]
      rw[<-Vb];exact AR
    rw[MF];refine'⟨⟨k -1,hI,e7⟩,_,?hinv,?hh,rfl,⟨?dV,trivial⟩,cd _,rfl⟩;case dV=>first|exact cq|exact aj some (aj (Value.int .u64) (by omega))|exact aj some (aj (Value.int .i64) (by omega))
    case hh=>exact bS
    case hinv=>
     exact⟨by omega,pe,fun j y aa ab=>by
         by_cases q:k<=j
         ·exact a0 j y q ab
         ·obtain rfl:j=k -1:=by omega
          rw[U] at ab;injection ab with ab;omega⟩
   ·refine aG ?_;refine ad.exit ?_;refine rg ?_;refine aH ?_;refine aD ?_;refine ad.ret ?_;refine'⟨.inr rfl,rfl,_,[],.tmp rfl .nil,bZ _,?_⟩;first
      |(have c:=gQ;exact⟨rfl,rfl,by
           show ey J 40 1 _ (ap (bs l)).length (ca .u32 (ap (bs l)));rw[<-yR ag hk a0 fun y aa ab=>by rw[U] at ab;injection ab with ab;omega];rw[gp,g9 hk];unfold ca;rw[zh];exact ak⟩)
      |exact⟨rfl,rfl,by
           show ey J 40 1 _ (ap (bs l)).length (ca .u32 (ap (bs l)));rw[<-yR ag hk a0 fun y aa ab=>by omega];rw[gp,g9 hk];unfold ca;rw[zh];exact ak⟩
  ·refine c7 ?_;refine c7 ?_;refine c7 ?_;refine c7 ?_;refine c7 ?_;refine c7 ?_;refine c7 ?_;refine I V.bo ?_;refine aD ?_;refine ad.tJ rfl ?_;refine aG ?_;refine ad.exit ?_;refine rg ?_;refine aH ?_;refine aD ?_;refine ad.ret ?_;refine'⟨.inr rfl,rfl,_,[],.tmp rfl .nil,bZ _,?_⟩;first
    |exact⟨rfl,rfl,by
          show ey J 40 1 _ (ap (bs l)).length (ca .u32 (ap (bs l)));rw[<-yR ag hk a0 fun y aa ab=>by omega];rw[gp,g9 hk];unfold ca;rw[zh];exact ak⟩
end
theorem xc{x y:Nat}(h:x<y):g' x y=-1:=by unfold g';split<;>(try split)<;>omega
theorem zI{x y:Nat}(h:y<x):g' x y=1:=by unfold g';split<;>(try split)<;>omega
theorem vj{x y:Nat}(h:x=y):g' x y=0:=by unfold g';split<;>(try split)<;>omega
theorem A6{x y:Nat}(h:(ap x).length<(ap y).length):x<y:=by
 have:=RG (kj x) (CJ y) h;rwa [g5,g5] at this
theorem IJ{x y i a b:Nat}(aK:(ap x)[i]?=some a)(ah:(ap y)[i]?=some b)(au:(ap x).drop (i+1)=(ap y).drop (i+1))(h:a<b):x<y:=by
 have:=aeH (kj x) aK ah au h;rwa [g5,g5] at this
theorem drop_cons{l:List Nat}{i x:Nat}(h:l[i]?=some x):l.drop i=x::l.drop (i+1):=by
 have ar:=(hq.1 h).1;have U:l[i]=x:=by rw[eO ar] at h;injection h
 rw[K0 ar,U]
theorem Bv:1<cu:=by decide
theorem abe{x:Nat}:[x].length<=1000:=by rw[zg];decide
section
variable {Q:ek Tryz.prog}{g0:Nat}{J:an}
theorem Jq{v w:Value}{x y:Nat}(aa:dW J v x)(ab:dW J w y)(aA:(ap x).length<=1000):Fn (aO Q g0) 29 [v,w] [] J (fun u m' ae=>u=.int .i64 (g' x y)/\m'=[]/\J=ae):=by
 have aa:de .u32 J v (ap x):=aa;have ab:de .u32 J w (ap y):=ab;obtain⟨br,bn,rfl⟩:=aa.form;obtain⟨bN,bQ,rfl⟩:=ab.form;refine Fn.ck (ch Tryz.func29) rfl rfl fun H=>?_;refine rg ?_;refine I V.aI ?_;refine bb ?_;refine aH ?_;refine I V.a' ?_;refine aD ?_;refine If (fun dq=>?_) fun dq=>?_
 ·refine rg ?_;refine aH ?_;refine I V.a' ?_;refine aD ?_;refine If (fun fQ=>?_) fun fQ=>?_
  ·refine rg ?_;refine I V.aI ?_;refine aD ?_;refine ad.ret ?_;refine'⟨.inr rfl,rfl,_,[],.tmp rfl .nil,bZ _,?_⟩;first
    |(have c:=fQ;exact⟨by rw[xc (A6 (by omega))];rfl,rfl,rfl⟩)
    |(have c:=fQ;exact⟨by rw[zI (A6 (by omega))];rfl,rfl,rfl⟩)
    |exact⟨by
      obtain rfl:k=0:=by omega
      rw[vj (show x=y by rw[<-g5 x,<-g5 y];exact aj bs au)];rfl,rfl,rfl⟩
  ·refine aG ?_;refine ad.skip ?_;refine rg ?_;refine I V.aI ?_;refine aD ?_;refine ad.ret ?_;refine'⟨.inr rfl,rfl,_,[],.tmp rfl .nil,bZ _,?_⟩;first
    |(have c:=fQ;exact⟨by rw[xc (A6 (by omega))];rfl,rfl,rfl⟩)
    |(have c:=fQ;exact⟨by rw[zI (A6 (by omega))];rfl,rfl,rfl⟩)
    |exact⟨by
      obtain rfl:k=0:=by omega
      rw[vj (show x=y by rw[<-g5 x,<-g5 y];exact aj bs au)];rfl,rfl,rfl⟩
 ·refine aG ?_;refine ad.skip ?_;refine rg ?_;refine aH ?_;refine I V.bW ?_;refine I V.aI ?_;refine aD ?_;refine ad.block ?_;refine' ad.eH (l':=[(5,.int .i64 ((((ap x).length):Int) -1)),(0,_),(1,_)]) ⟨?gh,rfl,rfl,trivial⟩ (cd _) ?_;case gh=>first|exact cq|exact aj some (aj (Value.int .u64) (by omega))|exact aj some (aj (Value.int .i64) (by omega))
  refine aG ?_;refine' ad.mQ (α:=(Nat)) (fun(k:Nat)=>[(5,.int .i64 ((k:Int) -1))]) (fun(k:Nat)=>k<=(ap x).length/\(ap x).drop k=(ap y).drop k) (fun(k:Nat)=>k) ((ap x).length) ?af ?bT;case af=>exact⟨c5 _,by rw[w3 (by omega),w3 (by omega)]⟩
  case bT=>
   rintro k hinv;try simp only at hinv
   obtain⟨hk,au⟩:=hinv;refine rg ?_;refine I V.aJ ?_;refine I V.a' ?_;refine aD ?_;refine If (fun la=>?_) fun la=>?_
   ·obtain⟨a,o,b4,e,rfl,fu,ay⟩:=aa.at (by omega);obtain⟨bE,o',CH,bk,rfl,tT,pd⟩:=ab.at (by omega);obtain⟨p,ao,h3⟩:=ay (k -1) (by omega);obtain⟨q,cc,x4⟩:=pd (k -1) (by omega);have h3:nth b4 (o+((k:Int) -1).toNat*1)=some (.int .u32 (p:Int)):=by rw[show((k:Int) -1).toNat=k -1 by omega];exact h3
    have x4:nth CH (o'+((k:Int) -1).toNat*1)=some (.int .u32 (q:Int)):=by rw[show((k:Int) -1).toNat=k -1 by omega];exact x4
    refine e4 ?_;refine aG ?_;refine ad.block ?_;refine aG ?_;refine ad.draw rfl (by kernel_rfl) (a2:=[.val 0,.val 1,.val 2,.val 3,.val 4,.val 5,.val 6,.val 7,.val 8]) (by kernel_rfl) ?_;refine e3 ?_;refine a6 rfl V.bj ?_;refine a6 rfl V.c2 ?_;refine e3 ?_;refine a6 rfl V.bj ?_;refine a6 rfl V.c2 ?_;refine a6 rfl V.a' ?_;refine bi.nil ?_;refine aG ?_;refine If (fun oT=>?_) fun oT=>?_
    ·refine rg ?_;refine I V.aI ?_;refine aD ?_;refine ad.ret ?_;refine'⟨.inr rfl,rfl,_,[],.tmp rfl .nil,bZ _,?_⟩;first
       |(have c:=oT;exact⟨by rw[xc (IJ ao cc (by rw[show k -1+1=k by omega];exact au) (by omega))];rfl,rfl,rfl⟩)
       |exact⟨by
         obtain rfl:k=0:=by omega
         rw[vj (show x=y by rw[<-g5 x,<-g5 y];exact aj bs au)];rfl,rfl,rfl⟩
    ·refine aG ?_;refine ad.skip ?_;refine aG ?_;refine ad.draw rfl (by kernel_rfl) (a2:=[.val 0,.val 1,.val 2,.val 3,.val 4,.val 5,.val 6,.val 7,.val 8]) (by kernel_rfl) ?_;refine e3 ?_;refine a6 rfl V.bj ?_;refine a6 rfl V.c2 ?_;refine e3 ?_;refine a6 rfl V.bj ?_;refine a6 rfl V.c2 ?_;refine a6 rfl V.a' ?_;refine bi.nil ?_;refine aG ?_;refine If (fun tF=>?_) fun tF=>?_
     ·refine rg ?_;refine I V.aI ?_;refine aD ?_;refine ad.ret ?_;refine'⟨.inr rfl,rfl,_,[],.tmp rfl .nil,bZ _,?_⟩;first
       |(have c:=oT;exact⟨by rw[xc (IJ ao cc (by rw[show k -1+1=k by omega];exact au) (by omega))];rfl,rfl,rfl⟩)
       |(have c:=tF;exact⟨by rw[zI (IJ cc ao (by rw[show k -1+1=k by omega];exact au.symm) (by omega))];rfl,rfl,rfl⟩)
       |exact⟨by
         obtain rfl:k=0:=by omega
         rw[vj (show x=y by rw[<-g5 x,<-g5 y];exact aj bs au)];rfl,rfl,rfl⟩
     ·refine aG ?_;refine ad.skip ?_;refine rg ?_;refine I V.aJ ?_;refine I V.bW ?_;refine I V.aI ?_;refine bR ?_;refine'⟨(k -1),_,?hinv,?hh,rfl,⟨?mT,rfl,rfl,trivial⟩,cd _,rfl⟩;case mT=>first|exact cq|exact aj some (aj (Value.int .u64) (by omega))|exact aj some (aj (Value.int .i64) (by omega))
      case hh=>exact bS
      case hinv=>exact⟨by omega,by rw[drop_cons (i:=k -1) ao,drop_cons (i:=k -1) cc,show k -1+1=k by omega,au];congr 1;omega⟩
   ·refine aG ?_;refine ad.exit ?_;refine rg ?_;refine I V.aI ?_;refine aD ?_;refine ad.ret ?_;refine'⟨.inr rfl,rfl,_,[],.tmp rfl .nil,bZ _,?_⟩;first
     |exact⟨by
       obtain rfl:k=0:=by omega
       rw[vj (show x=y by rw[<-g5 x,<-g5 y];exact aj bs au)];rfl,rfl,rfl⟩
theorem JS{x:Nat}(U:x<1000000000):Fn (aO Q g0) 93 [.int .u32 (x:Int)] [] J (kp J x):=by
 refine Fn.ck (ch Tryz.func93) rfl rfl fun H=>?_;refine rg ?_;refine I V.aI ?_;refine bb ?_;refine I V.aJ ?_;refine ja (iy Q g0) fun c0=>?_;refine W.dB rfl fun a8 l3=>?_;refine b4 (G:=BP (l:=[x]) (.row l3 rfl rfl (fun _=>⟨c5 _,Bv⟩) (fun q=>absurd q (zk Bv))) (fun z a0=>by rw[Fo.1 a0];exact U) abe) (h:=?_);rintro v' m' ae hle ⟨rfl,rfl,bP⟩;rw[EU] at bP;refine I V.aI ?_;refine aD ?_;refine ad.ret ?_;refine'⟨.inr rfl,rfl,_,[],.tmp rfl .nil,bZ _,⟨a8,rfl,bP⟩⟩
end
end
end Go.Opn

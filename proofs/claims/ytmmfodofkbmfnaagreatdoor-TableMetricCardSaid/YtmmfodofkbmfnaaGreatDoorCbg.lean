/- A part of the proof of TableMetric. -/
import Derived.Test.YtmmfodofkbmfnaaGreatDoorCbf
set_option maxRecDepth 100000
set_option maxHeartbeats 8000000
set_option linter.unusedVariables false
set_option linter.unusedSimpArgs false
namespace Go.Opn
noncomputable section
open Go.Cre Go.RowKit Go.Proofs
theorem ry.mono{K:di}{f:FuncId}{args:List Value}{a7:FrameMode}{ck:aU}{J:an}{P Ie:FrameMode->aU->an->Prop}(h:ry K f args a7 ck J P)(ao:∀u m ai,P u m ai->Ie u m ai):ry K f args a7 ck J Ie:=fun H au=>by
 obtain⟨v,eS,H',ai,m',U,ab,aV⟩:=h H au;exact⟨v,eS,H',ai,m',U,ab,ao _ _ _ aV⟩
section
variable {Q:eF Tryz.prog}{g0:Nat}{J:an}
theorem L3{v:Value}{x:Nat}(h:dE J v x)(j:x<1000000000):Fn (aS Q g0) 83 [v] [] J (fun u m' ai=>u=.int .i64 0/\m'=[]/\J=ai):=by
 obtain⟨b,n,c,rfl,nK,aE,ap⟩:=h.un j;have BC:=aE.le;refine Fn.cH (cK Tryz.func83) rfl rfl fun H=>?_;refine rg ?_;refine I V.aI ?_;refine bg ?_;refine aH ?_;refine I V.bk ?_;refine aJ ?_;refine If (fun hJ=>?_) fun hJ=>?_
 ·exfalso;omega
 ·refine aM ?_;refine ad.skip ?_;refine rg ?_;refine aH ?_;refine aJ ?_;refine ad.block ?_;refine' ad.eZ (l':=[(10,.int .i64 ((0):Int)),(0,_),(8,_),(9,_)]) ⟨?z6,rfl,rfl,rfl,trivial⟩ (cl _) ?_;case z6=>first|exact cu|exact ak some (ak (Value.int .u64) (by omega))|exact ak some (ak (Value.int .i64) (by omega))
  refine aM ?_;refine' ad.l2 (α:=(Nat)) (fun(i:Nat)=>[(10,.int .i64 (i:Int))]) (fun(i:Nat)=>i<=n) (fun(i:Nat)=>n -i) (0) ?ag ?b2;case ag=>exact fj _
  case b2=>
   rintro i hinv;try simp only at hinv
   have aq:=hinv;refine rg ?_;refine I V.bk ?_;refine aJ ?_;refine If (fun qm=>?_) fun qm=>?_
   ·obtain⟨a,off,cells,e,rfl,gT,aD⟩:=ap (by omega);have qR:nth cells (off+((i:Nat):Int).toNat*1)=some (.int .u32 (x:Int)):=by rw[show((i:Nat):Int).toNat=0 by omega];exact aD
    refine fJ ?_;refine aM ?_;refine ad.block ?_;refine rg ?_;refine I V.bw ?_;refine I V.ec ?_;refine I V.aI ?_;refine bg ?_;refine I V.aT ?_;refine I V.bk ?_;refine aJ ?_;refine If (fun fW=>?_) fun fW=>?_
    ·exfalso;omega
    ·refine aM ?_;refine ad.skip ?_;refine rg ?_;refine I V.bX ?_;refine I V.aT ?_;refine bU ?_;refine'⟨(i+1),_,?hinv,?g5,rfl,⟨?F9,rfl,rfl,rfl,trivial⟩,cl _,rfl⟩;case F9=>first|exact cu|exact ak some (ak (Value.int .u64) (by omega))|exact ak some (ak (Value.int .i64) (by omega))
     case g5=>exact cQ
     case hinv=>exact(by omega)
   ·refine aM ?_;refine ad.exit ?_;refine rg ?_;refine aH ?_;refine I V.bk ?_;refine I V.aT ?_;refine gP 20 (fun SC=>?_) fun SC=>?_
    ·obtain⟨a,off,cells,e,rfl,gT,aD⟩:=ap (by omega);have qR:nth cells (off+((n:Int) -1).toNat*1)=some (.int .u32 (x:Int)):=by rw[show((n:Int) -1).toNat=0 by omega];exact aD
     refine bF V.aT ?_;refine bF V.aT ?_;refine bF V.h2 ?_;refine bF V.bX ?_;refine bF V.bw ?_;refine bF V.ec ?_;refine bF V.bk ?_;refine I V.bx ?_;refine aJ ?_;refine If (fun DF=>?_) fun DF=>?_
     ·exfalso;exact aE.Gs (by omega) (by omega)
     ·refine aM ?_;refine ad.skip ?_;refine rg ?_;refine I V.aI ?_;refine aJ ?_;refine ad.ret ?_;refine'⟨.inr rfl,rfl,_,[],.tmp rfl .nil,b1 _,⟨rfl,rfl,rfl⟩⟩
    ·refine cz ?_;refine cz ?_;refine cz ?_;refine cz ?_;refine cz ?_;refine cz ?_;refine cz ?_;refine I V.bx ?_;refine aJ ?_;refine ad.rU rfl ?_;refine lf ?_;refine I V.aI ?_;refine aJ ?_;refine ad.ret ?_;refine'⟨.inr rfl,rfl,_,[],.tmp rfl .nil,b1 _,⟨rfl,rfl,rfl⟩⟩
theorem Yi{v w:Value}{x y:Nat}(U:dE J v x)(ab:dE J w y)(j:x<1000000000)(aC:y<1000000000)(oV:y≠0):Fn (aS Q g0) 60 [v,w] [] J (fun u m' ai=>u=.int .i64 0/\m'=[]/\J=ai):=by
 have gS:=U;have g1:=ab;obtain⟨bV,cV,bE,rfl,aQ,eu,_⟩:=U.un j;obtain⟨b7,dn,b8,rfl,aP,eX,_⟩:=ab.un aC;refine Fn.cH (cK Tryz.func60) rfl rfl fun H=>?_;refine rg ?_;refine I V.aI ?_;refine bg ?_;refine I V.aT ?_;refine cm (G:=L3 gS j) (h:=?_);rintro v' m' ai hle ⟨rfl,rfl,rfl⟩;refine I V.aI ?_;refine bg ?_;refine I V.aT ?_;refine I V.bk ?_;refine aJ ?_;refine If (fun dP=>?_) fun dP=>?_
 ·exfalso;exact dP rfl
 ·refine aM ?_;refine ad.skip ?_;refine rg ?_;refine I V.aT ?_;refine cm (G:=L3 g1 aC) (h:=?_);rintro v' m' ai hle ⟨rfl,rfl,rfl⟩;refine I V.aI ?_;refine bg ?_;refine I V.aT ?_;refine I V.bk ?_;refine aJ ?_;refine If (fun fW=>?_) fun fW=>?_
  ·exfalso;exact fW rfl
  ·refine aM ?_;refine ad.skip ?_;refine rg ?_;refine aH ?_;refine I V.bk ?_;refine aJ ?_;refine If (fun qo=>?_) fun qo=>?_
   ·exfalso;exact oV (eX.z (by omega))
   ·refine aM ?_;refine ad.skip ?_;refine rg ?_;refine I V.aI ?_;refine aJ ?_;refine ad.ret ?_;refine'⟨.inr rfl,rfl,_,[],.tmp rfl .nil,b1 _,⟨rfl,rfl,rfl⟩⟩
theorem Oa{v:Value}{x:Nat}(h:dE J v x)(j:x<1000000000):Fn (aS Q g0) 85 [v] [] J (fun u m' ai=>u=.int .u64 (x:Int)/\m'=[]/\J=ai):=by
 obtain⟨b,n,c,rfl,nK,aE,ap⟩:=h.un j;have BC:=aE.le;refine Fn.cH (cK Tryz.func85) rfl rfl fun H=>?_;refine rg ?_;refine I V.aI ?_;refine bg ?_;refine I V.aI ?_;refine bg ?_;refine aH ?_;refine I V.bX ?_;refine I V.aI ?_;refine aJ ?_;refine ad.block ?_;refine' ad.eZ (l':=[(4,.int .i64 (((n):Int) -1)),(3,.int .u64 ((0):Int)),(0,_)]) ⟨?l8,?dX,rfl,trivial⟩ (cl _) ?_;case l8=>first|exact cu|exact ak some (ak (Value.int .u64) (by omega))|exact ak some (ak (Value.int .i64) (by omega))
 case dX=>first|exact cu|exact ak some (ak (Value.int .u64) (by omega))|exact ak some (ak (Value.int .i64) (by omega))
 refine aM ?_;refine' ad.l2 (α:=(Nat)×(Nat)) (fun(cT:(Nat)×(Nat))=>match cT with|(k,y)=>[(4,.int .i64 ((k:Int) -1)),(3,.int .u64 (y:Int))]) (fun(cT:(Nat)×(Nat))=>match cT with|(k,y)=>k<=n/\(k=n->y=0)/\(k<n->y=x)) (fun(cT:(Nat)×(Nat))=>match cT with|(k,y)=>k) ⟨n,0⟩ ?ag ?b2
 case ag=>exact⟨c9 _,fun _=>rfl,fun q=>absurd q (tg _)⟩
 case b2=>
  rintro⟨k,y⟩ hinv;try simp only at hinv
  obtain⟨hk,mE,pv⟩:=hinv;refine rg ?_;refine I V.aT ?_;refine I V.bk ?_;refine aJ ?_;refine If (fun gQ=>?_) fun gQ=>?_
  ·have E5:k=n:=by omega
   have hh:=mE E5;obtain⟨a,off,cells,e,rfl,gT,aD⟩:=ap (by omega);have qR:nth cells (off+((k:Int) -1).toNat*1)=some (.int .u32 (x:Int)):=by rw[show((k:Int) -1).toNat=0 by omega];exact aD
   refine fJ ?_;refine aM ?_;refine ad.block ?_;refine rg ?_;refine I V.aT ?_;refine I V.bX ?_;refine aH ?_;refine I V.bw ?_;refine I V.ec ?_;refine I V.gb ?_;refine I V.bX ?_;refine I V.aI ?_;refine bg ?_;refine I V.aT ?_;refine I V.bX ?_;refine I V.aI ?_;refine bU ?_;refine'⟨⟨k -1,x⟩,_,?hinv,?g5,rfl,⟨?oF,?mN,rfl,trivial⟩,cl _,rfl⟩;case oF=>first|exact cu|exact ak some (ak (Value.int .u64) (by omega))|exact ak some (ak (Value.int .i64) (by omega))
   case mN=>first|exact cu|exact ak some (ak (Value.int .u64) (by omega))|exact ak some (ak (Value.int .i64) (by omega))
   case g5=>exact cQ
   case hinv=>exact⟨by omega,fun q=>by omega,fun _=>rfl⟩
  ·have yL:k=0:=by omega
   have UV:y=x:=by
    by_cases q:n=0
    ·rw[mE (by omega),aE.z q]
    ·exact pv (by omega)
   refine aM ?_;refine ad.exit ?_;refine rg ?_;refine aH ?_;refine aJ ?_;refine ad.ret ?_;refine'⟨.inr rfl,rfl,_,[],.tmp rfl .nil,b1 _,⟨by rw[UV];rfl,rfl,rfl⟩⟩
theorem I6{v w:Value}{x y:Nat}{e:TypeId}(cw:J 2=some (cj .u8 ls,e))(ar:Nat.blt 2 (aS Q g0).g0=true)(U:dE J v x)(ab:dE J w y)(j:x<128)(aC:y<128)(aF:Nat.gcd x y=1):Fn (aS Q g0) 61 [v,w] [] J (fun u m' ai=>u=.bool true/\m'=[]/\J=ai):=by
 have gS:=U;have g1:=ab;obtain⟨bV,cV,bE,rfl,aQ,eu,_⟩:=U.un (by omega);obtain⟨b7,dn,b8,rfl,aP,eX,_⟩:=ab.un (by omega);have eJ:=eu.le;have ei:=eX.le;refine Fn.cH (cK Tryz.func61) rfl rfl fun H=>?_;refine rg ?_;refine I V.aI ?_;refine bg ?_;refine aH ?_;refine I V.bk ?_;refine I V.aT ?_;refine gP 8 (fun jE=>?_) fun jE=>?_
 ·refine bF V.aT ?_;refine bF V.h2 ?_;refine bF V.bk ?_;refine I V.bx ?_;refine aJ ?_;refine If (fun kI=>?_) fun kI=>?_
  ·refine rg ?_;refine I V.aT ?_;refine cm (G:=Oa gS (by omega)) (h:=?_);rintro v' m' ai hle ⟨rfl,rfl,rfl⟩;refine I V.aT ?_;refine cm (G:=Oa g1 (by omega)) (h:=?_);rintro v' m' ai hle ⟨rfl,rfl,rfl⟩;refine cm (G:=PE cw ar j aC aF) (h:=?_);rintro v' m' ai hle ⟨rfl,rfl,rfl⟩;refine I V.bk ?_;refine I V.aI ?_;refine aJ ?_;refine ad.ret ?_;refine'⟨.inr rfl,rfl,_,[],.tmp rfl .nil,b1 _,⟨rfl,rfl,rfl⟩⟩
  ·exfalso;omega
 ·exfalso;omega
theorem X3{r:cv}{v1 v2:Value}{e:TypeId}(cw:J 2=some (cj .u8 ls,e))(ar:Nat.blt 2 (aS Q g0).g0=true)(h:ho J r v1 v2)(gR:r.fi)(a0:r.z.natAbs<128)(ax:r.d<128):Fn (aS Q g0) 35 [dF r v1 v2] [] J (fun u m' ai=>u=.int .i64 0/\m'=[]/\J=ai):=by
 have a2:=h;obtain⟨bV,cV,bE,rfl,aQ,eu,_⟩:=h.n.un (by omega);obtain⟨b7,dn,b8,rfl,aP,eX,_⟩:=h.d.un (by omega);have rd:=gR.1;refine Fn.cH (cK Tryz.func35) rfl rfl fun H=>?_;refine rg ?_;refine fl fun bP=>?_;refine I V.aI ?_;refine bg ?_;refine I V.cN ?_;refine I V.cP ?_;refine I V.cN ?_;refine I V.cP ?_;refine cm (G:=Yi a2.n a2.d (by omega) (by omega) (by omega)) (h:=?_);rintro v' m' ai hle ⟨rfl,rfl,rfl⟩;refine I V.aI ?_;refine bg ?_;refine I V.aT ?_;refine I V.bk ?_;refine aJ ?_;refine If (fun dP=>?_) fun dP=>?_
 ·exfalso;exact dP rfl
 ·refine aM ?_;refine ad.skip ?_;refine rg ?_;refine I V.cN ?_;refine I V.cP ?_;refine I V.h2 ?_;refine I V.bk ?_;refine I V.aT ?_;refine gP 16 (fun Eo=>?_) fun Eo=>?_
  ·refine bF V.cN ?_;refine bF V.cP ?_;refine I V.bx ?_;refine I V.aT ?_;refine gP 20 (fun SA=>?_) fun SA=>?_
   ·exfalso;have:=me.1 (eu.z (by omega));omega
   ·refine bF V.cN ?_;refine bF V.cP ?_;refine bF V.cN ?_;refine bF V.cP ?_;refine to (G:=I6 cw ar a2.n a2.d a0 ax gR.2) (h:=?_);rintro v' m' ai hle ⟨rfl,rfl,rfl⟩;refine bF V.pO ?_;refine I V.bx ?_;refine aJ ?_;refine If (fun kJ=>?_) fun kJ=>?_
    ·exfalso;first|(simp at kJ;done)|cases kJ
    ·refine aM ?_;refine ad.skip ?_;refine rg ?_;refine I V.aI ?_;refine aJ ?_;refine ad.ret ?_;refine'⟨.inr rfl,rfl,_,[],.tmp rfl .nil,b1 _,⟨rfl,rfl,rfl⟩⟩
  ·refine cz ?_;refine cz ?_;refine I V.bx ?_;refine I V.aT ?_;refine bF V.cN ?_;refine bF V.cP ?_;refine bF V.cN ?_;refine bF V.cP ?_;refine to (G:=I6 cw ar a2.n a2.d a0 ax gR.2) (h:=?_);rintro v' m' ai hle ⟨rfl,rfl,rfl⟩;refine bF V.pO ?_;refine I V.bx ?_;refine aJ ?_;refine If (fun kJ=>?_) fun kJ=>?_
   ·exfalso;first|(simp at kJ;done)|cases kJ
   ·refine aM ?_;refine ad.skip ?_;refine rg ?_;refine I V.aI ?_;refine aJ ?_;refine ad.ret ?_;refine'⟨.inr rfl,rfl,_,[],.tmp rfl .nil,b1 _,⟨rfl,rfl,rfl⟩⟩
theorem Ww{r:cv}{v1 v2:Value}(ap:fE J r v1 v2)(a0:r.z.natAbs<1000000000)(ax:r.d<1000000000)(h':r.d≠0):Fn (aS Q g0) 20 [dF r v1 v2] [] J (fun u m' ai=>J.le ai/\m'=[]/\∃v1 v2,u=.tuple #[dF r v1 v2,.int .i64 0]/\ho ai r v1 v2):=by
 have dR:=ap;obtain⟨bV,cV,bE,rfl,aQ,eu,gI⟩:=ap.n.bN;obtain⟨b7,dn,b8,rfl,aP,eX,gW⟩:=ap.d.bN;refine Fn.cH (cK Tryz.func20) rfl rfl fun H=>?_;refine rg ?_;refine fl fun bP=>?_;refine' W.step rfl (.of (gN rfl rfl rfl (kT Q g0) rfl rfl rfl fun bS=>?_));refine I V.aI ?_;refine bg ?_;refine I V.fH ?_;refine cm (G:=X1 dR a0 ax h') (h:=?_);rintro v' m' bO a' ⟨_,rfl,bc,b6,rfl,et⟩;have k6:=et;obtain⟨c5,ep,dj,rfl,bC⟩:=et.n.bN;obtain⟨dM,fp,eg,rfl,dp⟩:=et.d.bN;refine aH ?_;refine' W.step rfl (.of (gN rfl rfl rfl (kT Q g0) rfl rfl rfl fun c4=>?_));refine fM ?_;refine I V.aI ?_;refine bg ?_;refine I V.aT ?_;refine I V.pO ?_;refine aJ ?_;refine If (fun kI=>?_) fun kI=>?_
 ·exfalso;simp at kI
 ·refine aM ?_;refine ad.skip ?_;refine rg ?_;refine I V.fH ?_;refine fM ?_;refine I V.aI ?_;refine aJ ?_;refine ad.ret ?_;refine'⟨.inr rfl,rfl,_,[],.cell rfl (by repeat first|exact .head _|refine .tail _ ?_|refine eU _ ?_) (gh (fs rfl) rfl) (.tmp rfl .nil),b1 _,⟨a',rfl,_,_,rfl,k6⟩⟩
theorem MS{ps:List Nat}{s:Nat}{b:Option Addr}{c:Nat}{e:TypeId}(cw:J 2=some (cj .u8 ls,e))(ar:Nat.blt 2 (aS Q g0).g0=true)(h:eO J 32 3 (gn J) (.slice b ps.length c) (ps.map fun p:Nat=>a9 (p:Int) s))(iK:1<=ps.length)(ia:ps.length<=10)(ag:0<s)(lT:s<=110)(ao:ps.sum=s):
 Fn (aS Q g0) 19 [.slice b ps.length c] [] J (fun u m' ai=>J.le ai/\m'=[]/\∃b' bo,u=.slice b' ps.length bo/\eO ai 55 3 (m1 ai) (.slice b' ps.length bo) (ps.map fun p:Nat=>a9 (p:Int) s)):=by
 have nK:addrEq b b=true:=h.addr;obtain⟨_,iW⟩:=h.at;rw[jw] at iW;have sf:∀p∈ps,(a9 (p:Int) s).z.natAbs<=110/\(a9 (p:Int) s).d<=110:=fun p ou=>by
  have:=wI ou;exact oH ag (by omega) lT
 have Ky:=list_fn (Q:=Q) (g0:=g0) (J:=J) (b:=b) (c:=c) (rs:=ps.map fun p:Nat=>a9 (p:Int) s) (by rw[jw];exact h) (by rw[jw];omega) (fun r ap=>by
  obtain⟨p,ou,rfl⟩:=s'.1 ap;have:=sf p ou;exact⟨jN ag,by omega,by omega⟩)
 rw[jw] at Ky;have iL:a9 (ps.sum:Int) s=⟨1,1⟩:=(sE (r:=⟨1,1⟩) ⟨by decide,by decide⟩ ag (by rw[ao];show(1:Int)*s=s*1;omega)).symm;refine Fn.cH (cK Tryz.func19) rfl rfl fun H=>?_;refine rg ?_;refine I V.aI ?_;refine bg ?_;refine aH ?_;refine I V.bk ?_;refine I V.aT ?_;refine gP 10 (fun jE=>?_) fun jE=>?_
 ·exfalso;omega
 ·refine bF V.aT ?_;refine bF V.h2 ?_;refine bF V.bk ?_;refine I V.bx ?_;refine aJ ?_;refine If (fun iF=>?_) fun iF=>?_
  ·exfalso;omega
  ·refine aM ?_;refine ad.skip ?_;refine rg ?_;refine aH ?_;refine aJ ?_;refine ad.block ?_;refine' ad.eZ (l':=[(19,.int .i64 ((0):Int)),(0,_),(17,_),(18,_)]) ⟨?N9,rfl,rfl,rfl,trivial⟩ (cl _) ?_;case N9=>first|exact cu|exact ak some (ak (Value.int .u64) (by omega))|exact ak some (ak (Value.int .i64) (by omega))
   refine aM ?_;refine' ad.hN (fun(i:Nat)=>⟨[(19,.int .i64 (i:Int))],[],J,i<=ps.length,ps.length -i⟩) (0) ?ag ?b2;case ag=>exact fj _
   case b2=>
    rintro i hinv;try simp only at hinv
    have aq:=hinv;refine rg ?_;refine I V.bk ?_;refine aJ ?_;refine If (fun kk=>?_) fun kk=>?_
    ·obtain⟨a,off,cells,bl,rfl,kL,kN⟩:=iW (by omega);obtain⟨r,cs,ap,hK,yN,v1,v2,rfl,et⟩:=kN i (by omega) (by omega);rw[jW,mg] at ap;obtain⟨p,qM,rfl⟩:=xG.1 ap;have af:=sf p (nZ qM);have k6:=et;obtain⟨bV,cV,bE,rfl,aQ⟩:=et.n.bN;obtain⟨b7,dn,b8,rfl,aP⟩:=et.d.bN;refine fJ ?_;refine aM ?_;refine ad.block ?_;refine rg ?_;refine I V.bw ?_;refine I V.kQ ?_;refine' W.step rfl (.of (gN rfl rfl rfl (kT Q g0) rfl rfl rfl fun c4=>?_));refine fM ?_;refine bg ?_;refine I V.kQ ?_;refine cm (G:=X3 cw ar k6 (jN ag) (by omega) (by omega)) (h:=?_);rintro v' m' ai hle ⟨rfl,rfl,rfl⟩;refine I V.aI ?_;refine bg ?_;refine I V.aT ?_;refine I V.bk ?_;refine aJ ?_;refine If (fun qs=>?_) fun qs=>?_
     ·exfalso;exact qs rfl
     ·refine aM ?_;refine ad.skip ?_;refine rg ?_;refine I V.cN ?_;refine I V.ec ?_;refine aJ ?_;refine If (fun nb=>?_) fun nb=>?_
      ·
        exfalso;exact pM ag nb
      ·
        refine aM ?_;refine ad.skip ?_;refine rg ?_;refine I V.bX ?_;refine I V.aT ?_;refine bU ?_;refine hO (i+1) ?_ (hm:=.cons _ (.refl _));exact(by omega)
    ·refine aM ?_;refine ad.exit ?_;refine rg ?_;refine I V.aT ?_;refine cm (G:=Ky) (h:=?_);rintro v' m' bO a' ⟨_,rfl,c5,dj,rfl,jl⟩;have bC:addrEq c5 c5=true:=jl.addr;refine I V.aI ?_;refine bg ?_;refine I V.aT ?_;refine cm (G:=Zk jl ag (by omega) (by omega) (by omega)) (h:=?_);rintro v' m' eL bW ⟨_,rfl,bc,b6,rfl,cg⟩;rw[iL] at cg;have od:=cg;obtain⟨dM,fp,eg,rfl,dp,_,_⟩:=cg.n.bN;obtain⟨fF,hi,hb,rfl,gi,_,_⟩:=cg.d.bN;rw[iL];refine cm (G:=Lf (n:=1) (by decide) (by decide)) (h:=?_);rintro v' m' hG dc ⟨_,rfl,bc,b6,rfl,da⟩;have tJ:=da;obtain⟨gp,ed,e1,rfl,iO,_,_⟩:=da.n.bN;obtain⟨kG,nF,hJ,rfl,nJ,_,_⟩:=da.d.bN;refine cm (G:=Qp (od.mono dc) tJ ⟨by decide,by decide⟩ ⟨by decide,by decide⟩ (by decide) (by decide) (by decide) (by decide) (by decide) (by decide)) (h:=?_);rintro v' m' kc dz ⟨rfl,rfl,_⟩;refine I V.bk ?_;refine aJ ?_;refine If (fun IV=>?_) fun IV=>?_
     ·exfalso;exact IV (by decide)
     ·refine aM ?_;refine ad.skip ?_;refine rg ?_;refine aH ?_;refine aJ ?_;refine ad.ret ?_;refine'⟨.inr rfl,rfl,_,[],.tmp rfl .nil,b1 _,⟨a'.trans (bW.trans (dc.trans dz)),rfl,c5,dj,rfl,eO.mono (R':=m1 kc) (bW.trans (dc.trans dz)) (fun _ _ q=>q.mono (bW.trans (dc.trans dz))) jl⟩⟩
theorem P7{cO:Nat}{ys:List Value}:Fn (aS Q g0) 18 [.nilIface,.pointer (some ⟨cO,0,none⟩)] [] J (fun u m' ai=>m'=[]/\J=ai):=by
 refine Fn.cH (cK Tryz.func18) rfl rfl fun H=>?_;refine rg ?_;refine I V.aT ?_;refine' W.step rfl (Exec.val rfl rfl (ZD rfl rfl ?aD (U2 Q g0)) ?_);case aD=>first|rfl|assumption
 refine aJ ?_;refine If (fun hJ=>?_) fun hJ=>?_
 ·refine aM ?_;refine ad.ret ?_;refine'⟨.inr rfl,rfl,_,[],.nil,b1 _,⟨rfl,rfl⟩⟩
 ·exfalso;cases hJ
theorem Pp{cO:Nat}{ys:List Value}:ry (aS Q g0) 17 [.pointer (some ⟨cO,0,none⟩)] .returning [(cO,.row ys 33)] J (fun u m' ai=>u=.returning/\m'=[(cO,.row ys 33)]/\J=ai):=by
 refine ry.cH (cK Tryz.func17) rfl rfl fun H=>?_;refine rg ?_;refine' W.recover rfl rfl rfl rfl rfl rfl rfl ?_;refine cm (G:=P7 (ys:=ys)) (h:=?_);rintro v' m' ai hle ⟨rfl,rfl⟩;refine bU ?_;exact⟨by first|exact .inl rfl|exact .inr rfl,rfl,[],_,.nil,.refl _,rfl,rfl,rfl⟩
theorem Pq{ps bb:List Nat}{s u:Nat}{b b':Option Addr}{c bo:Nat}{e:TypeId}(cw:J 2=some (cj .u8 ls,e))(ar:Nat.blt 2 (aS Q g0).g0=true)(h:eO J 32 3 (gn J) (.slice b ps.length c) (ps.map fun p:Nat=>a9 (p:Int) s))(fO:eO J 32 3 (gn J) (.slice b' bb.length bo) (bb.map fun p:Nat=>a9 (p:Int) u))(iK:1<=ps.length)(ia:ps.length<=10)(mF:ps.length=bb.length)(ag:0<s)(lT:s<=110)(ao:ps.sum=s)(hu:0<u)(nx:u<=110)(bY:bb.sum=u):
 Fn (aS Q g0) 6 [.slice b ps.length c,.slice b' bb.length bo] [] J (fun x m' ai=>J.le ai/\m'=[]/\∃v1 v2,x=.tuple #[dF (a9 (c8 s u ps bb:Int) (s*u*2)) v1 v2,.int .i64 0]/\ho ai (a9 (c8 s u ps bb:Int) (s*u*2)) v1 v2):=by
 have nK:addrEq b b=true:=h.addr;have XU:addrEq b' b'=true:=fO.addr;have eb:0<s*u*2:=gm (gm ag hu) (by decide);have Bh:s*u<=12100:=ej (rH lT nx) (by decide);have Eu:u*s<=12100:=by rw[lD];exact Bh
 have sm:c8 s u ps bb<=24200:=by
  have:=z5 (sa:=s) (bQ:=u) (ps:=ps) (bb:=bb);rw[ao,bY] at this;omega
 obtain⟨fa,fh⟩:=oH (X:=(c8 s u ps bb:Int)) (B:=60000) eb (by omega) (by omega);refine u6.Ye (u6.cH (cK Tryz.func6) rfl rfl fun H=>?_);refine rg ?_;refine' W.step rfl (.of (gN rfl rfl rfl (kT Q g0) rfl rfl rfl fun c4=>?_));refine' W.step rfl (.of (gN rfl rfl rfl (aar Q g0) rfl rfl rfl fun cO=>?_));refine bg ?_;refine I V.fn ?_;refine' W.defer rfl rfl rfl rfl rfl rfl rfl ?_;refine bg ?_;refine I V.aT ?_;refine cm (G:=MS cw ar h iK ia ag lT ao) (h:=?_);rintro v' m' bO a' ⟨_,rfl,bV,bE,rfl,jm⟩;have aQ:addrEq bV bV=true:=jm.addr;refine I V.aT ?_;refine cm (G:=MS (a' _ _ cw) ar (eO.mono (R':=gn bO) a' (fun _ _ q=>q.mono a') fO) (by omega) (by omega) hu nx bY) (h:=?_);rintro v' m' eL bW ⟨_,rfl,b7,b8,rfl,kK⟩;have aP:addrEq b7 b7=true:=kK.addr;have jm:=eO.mono (R':=m1 eL) bW (fun _ _ q=>q.mono bW) jm;refine aH ?_;refine bg ?_;refine aH ?_;refine I V.bk ?_;refine aJ ?_;refine If (fun qn=>?_) fun qn=>?_
 ·exfalso;omega
 ·refine aM ?_;refine ad.skip ?_;refine rg ?_;refine aH ?_;refine cm (G:=ZY jm kK ag hu lT nx ao bY (by omega) mF) (h:=?_);rintro v' m' hG dc ⟨_,rfl,bc,b6,rfl,cg⟩;have od:=cg;obtain⟨c5,ep,dj,rfl,bC,_,_⟩:=cg.n.bN;obtain⟨dM,fp,eg,rfl,dp,_,_⟩:=cg.d.bN;refine cm (G:=Ww od (by omega) (by omega) (hR (jN eb).1)) (h:=?_);rintro v' m' kc dz ⟨_,rfl,bc,b6,rfl,et⟩;have k6:=et;obtain⟨fF,hi,hb,rfl,gi⟩:=et.n.bN;obtain⟨gp,ed,e1,rfl,iO⟩:=et.d.bN;refine aH ?_;refine fM ?_;refine fM ?_;refine aJ ?_;refine ad.ret ?_;refine⟨.returning,rfl,.inr ⟨17,#[.pointer (some ⟨cO,0,none⟩)],#[],[(cO,.row [.int .i64 0] 33)],[(c4,.row (r2 (a9 (c8 s u ps bb:Int) (s*u*2)) (.slice fF hi hb) (.slice gp ed e1)) 32)],rfl,.refl _,Pp.mono ?_⟩⟩;rintro acV m' ai ⟨rfl,rfl,rfl⟩ _;exact .inl ⟨rfl,_,[],.cell rfl (.tail _ (.head _)) (gh (fs rfl) rfl) (.cell rfl (.head _) (zN (fs rfl) rfl) .nil),b1 _,a'.trans (bW.trans (dc.trans dz)),rfl,_,_,rfl,k6⟩
end
theorem NN:∀{l:List Nat},(∀aa y:Nat,l[aa]?=some y->y=0)->bi l=0
 |[],_=>rfl
 |x::l,h=>by
  show x+1000000000*bi l=0;rw[h 0 x rfl,NN (l:=l) fun aa y aX=>h (aa+1) y aX]
theorem w8{l:List Nat}{k:Nat}(ae:e5 l)(hk:k<=l.length)(a0:∀aa y,k<=aa->l[aa]?=some y->y=0)(aE:∀y,0<k->l[k -1]?=some y->y≠0):l.take k=aj (bi l):=by
 have U:oX (l.take k):=⟨Gv ae,fun x j=>by
  have ao:0<k:=by
   rcases ke k with q|q
   ·rw[q] at j;cases j
   ·exact q
  refine aE x ao ?_;rw[As,hQ,h5 hk,kX,bs (by omega)] at j;exact j⟩
 have ab:=xc l k hk;rw[NN (l:=l.drop k) fun aa y aX=>by
  rw[vb] at aX;exact a0 (k+aa) y (by omega) aX] at ab
 rw[AZ U,ab];congr 1
theorem nB{x:Nat}:∀{k:Nat},x<1000000000 ^ k->(aj x).length<=k:=by
 intro k;induction k generalizing x with
 |zero=>
  intro h;have:x=0:=by rw[Nat.pow_zero] at h;omega
  rw[this,ks];exact c9 _
 |succ k aN=>
  intro h;by_cases q:x=0
  ·rw[q,ks];exact fj _
  ·rw[pJ q,kY]
   have:x / 1000000000<1000000000 ^ k:=by
        rw[Da (by decide),<-m4];exact h
   have:=aN this;omega
theorem sw{x k:Nat}(h:(aj x).length<=k):x<1000000000 ^ k:=by
 have U:=uV (i' x);rw[gj] at U;exact jZ U (xD (by decide) h)
theorem pI{x:Nat}(h:x≠0):(aj x).length≠0:=by rw[pJ h,kY];omega
theorem F1{x:Nat}(h:(aj x).length≠0):x≠0:=fun q=>by rw[q,ks] at h;exact h rfl
theorem dx.at{k:IntKind}{J:an}{b:Option Addr}{n c:Nat}{l:List Nat}(h:dx k J (.slice b n c) l)(ao:0<l.length):∃a off cells e,b=some ⟨a,off,none⟩/\J a=some (cells,e)/\∀i:Nat,i<l.length->∃x,l[i]?=some x/\nth cells (off+i*1)=some (.int k (x:Int)):=by
 obtain⟨a,off,cells,e,U,ab,aV⟩:=h.dv ao;exact⟨a,off,cells,e,U,ab,fun i aq=>⟨l[i],fx aq,aV i _ (fx aq)⟩⟩
def tc(J:an)(v:Value)(x:Nat):Prop:=ew J 61 1 v (aj x).length (cj .u32 (aj x))
theorem tc.gJ{J:an}{v:Value}{x:Nat}(h:tc J v x):dE J v x:=⟨_,h⟩
theorem tc.mono{J ai:an}(hle:J.le ai){v:Value}{x:Nat}(h:tc J v x):tc ai v x:=ew.mono hle h
abbrev m7(J:an)(x:Nat):Value->aU->an->Prop:=fun u m' ai=>J.le ai/\m'=[]/\tc ai u x
section
variable {Q:eF Tryz.prog}{g0:Nat}{J:an}
theorem zV{v:Value}{l:List Nat}(h:ew J 61 1 v l.length (cj .u32 l))(ae:e5 l)(aw:l.length<=1000):Fn (aS Q g0) 48 [v] [] J (fun u m' ai=>m'=[]/\J=ai/\tc J u (bi l)):=by
 obtain⟨b,c,rfl,_⟩:=h.inv;refine Fn.cH (cK Tryz.func48) rfl rfl fun H=>?_;refine rg ?_;refine I V.aI ?_;refine aJ ?_;refine ad.block ?_;refine' ad.eZ (l':=[(0,.slice (b) (l.length) (c))]) ⟨?w0,trivial⟩ (cl _) ?_;case w0=>first|exact cu|exact ak some (ak (Value.int .u64) (by omega))|exact ak some (ak (Value.int .i64) (by omega))
 refine aM ?_;refine' ad.l2 (α:=(Nat)×(Option Addr)×(Nat)) (fun(cT:(Nat)×(Option Addr)×(Nat))=>match cT with|(k,k2,jC)=>[(0,.slice k2 k jC)]) (fun(cT:(Nat)×(Option Addr)×(Nat))=>match cT with|(k,k2,jC)=>k<=l.length/\ew J 61 1 (.slice k2 k jC) k ((cj .u32 l).take k)/\∀aa y,k<=aa->l[aa]?=some y->y=0) (fun(cT:(Nat)×(Option Addr)×(Nat))=>match cT with|(k,k2,jC)=>k) ⟨l.length,b,c⟩ ?ag ?b2
 case ag=>exact⟨c9 _,by rw[jY (by rw[q5];exact c9 _)];exact h,fun aa y U ab=>by have:=(h4.1 ab).1;omega⟩
 case b2=>
  rintro⟨k,k2,jC⟩ hinv;try simp only at hinv
  obtain⟨hk,al,a0⟩:=hinv;refine rg ?_;refine aH ?_;refine I V.bk ?_;refine I V.aT ?_;refine gP 6 (fun jE=>?_) fun jE=>?_
  ·obtain⟨x,j⟩:∃x,l[k -1]?=some x:=⟨_,fx (by omega)⟩;obtain⟨_,_,bc,_,_,b6⟩:=al.inv;obtain⟨a,off,cells,bl,aQ,gT,aD⟩:=b6 (by omega);injection bc with bc _ _
   subst bc;subst aQ;have aE:nth cells (off+((k:Int) -1).toNat*1)=some (.int .u32 (x:Int)):=by
    rw[show((k:Int) -1).toNat*1=k -1 by omega,aD (k -1) (by omega),kX,bs (by omega),Gp j]
   refine bF V.aT ?_;refine bF V.aT ?_;refine bF V.h2 ?_;refine bF V.bX ?_;refine bF V.bw ?_;refine bF V.ec ?_;refine bF V.bk ?_;refine I V.bx ?_;refine aJ ?_;refine If (fun iF=>?_) fun iF=>?_
   ·refine aM ?_;refine ad.skip ?_;refine aM ?_;refine ad.block ?_;refine rg ?_;refine aH ?_;refine I V.bX ?_;refine' W.step rfl (.of (Oj rfl rfl rfl rfl (iQ Q g0) ?aD ?hk rfl rfl ?a2 ?U ?ab fun N9 y6=>?_));case aD=>assumption
    case hk=>exact cQ
    case a2=>exact cQ
    case U=>exact cQ
    case ab=>exact cQ
    refine I V.aI ?_;refine bU ?_;obtain⟨m9,gQ,rfl,_⟩:=y6.inv;have DV:((k:Int) -1 -0).toNat=k -1:=by omega
    have ny:ew J 61 1 (.slice m9 (k -1) gQ) (k -1) ((cj .u32 l).take (k -1)):=by
      rw[DV] at y6;have Jh:(((cj .u32 l).take k).drop ((0:Int).toNat*1)).take ((k -1)*1)=(cj .u32 l).take (k -1):=by rw[show(0:Int).toNat*1=0 from rfl,kd,rE,iE,h5 (by omega)]
      rw[<-Jh];exact y6
    rw[DV];refine'⟨⟨k -1,m9,gQ⟩,_,?hinv,?g5,rfl,⟨?dK,trivial⟩,cl _,rfl⟩;case dK=>first|exact cu|exact ak some (ak (Value.int .u64) (by omega))|exact ak some (ak (Value.int .i64) (by omega))
    case g5=>exact cQ
    case hinv=>
     exact⟨by omega,ny,fun aa y U ab=>by
         by_cases q:k<=aa
         ·exact a0 aa y q ab
         ·obtain rfl:aa=k -1:=by omega
          rw[j] at ab;injection ab with ab;omega⟩
   ·refine aM ?_;refine ad.exit ?_;refine rg ?_;refine aH ?_;refine aJ ?_;refine ad.ret ?_;refine'⟨.inr rfl,rfl,_,[],.tmp rfl .nil,b1 _,?_⟩;first
      |(have c:=iF;exact⟨rfl,rfl,by
           show ew J 61 1 _ (aj (bi l)).length (cj .u32 (aj (bi l)));rw[<-w8 ae hk a0 fun y U ab=>by rw[j] at ab;injection ab with ab;omega];rw[hQ,h5 hk];unfold cj;rw[xy];exact al⟩)
      |exact⟨rfl,rfl,by
           show ew J 61 1 _ (aj (bi l)).length (cj .u32 (aj (bi l)));rw[<-w8 ae hk a0 fun y U ab=>by omega];rw[hQ,h5 hk];unfold cj;rw[xy];exact al⟩
  ·refine cz ?_;refine cz ?_;refine cz ?_;refine cz ?_;refine cz ?_;refine cz ?_;refine cz ?_;refine I V.bx ?_;refine aJ ?_;refine ad.rU rfl ?_;refine aM ?_;refine ad.exit ?_;refine rg ?_;refine aH ?_;refine aJ ?_;refine ad.ret ?_;refine'⟨.inr rfl,rfl,_,[],.tmp rfl .nil,b1 _,?_⟩;first
    |exact⟨rfl,rfl,by
          show ew J 61 1 _ (aj (bi l)).length (cj .u32 (aj (bi l)));rw[<-w8 ae hk a0 fun y U ab=>by omega];rw[hQ,h5 hk];unfold cj;rw[xy];exact al⟩
end
theorem vl{x y:Nat}(h:x<y):jD x y=-1:=by unfold jD;split<;>(try split)<;>omega
theorem xZ{x y:Nat}(h:y<x):jD x y=1:=by unfold jD;split<;>(try split)<;>omega
theorem tr{x y:Nat}(h:x=y):jD x y=0:=by unfold jD;split<;>(try split)<;>omega
theorem zl{x y:Nat}(h:(aj x).length<(aj y).length):x<y:=by
 have:=NQ (i' x) (AY y) h;rwa [gj,gj] at this
theorem F2{x y i a b:Nat}(aK:(aj x)[i]?=some a)(af:(aj y)[i]?=some b)(ax:(aj x).drop (i+1)=(aj y).drop (i+1))(h:a<b):x<y:=by
 have:=ZV (i' x) aK af ax h;rwa [gj,gj] at this
theorem drop_cons{l:List Nat}{i x:Nat}(h:l[i]?=some x):l.drop i=x::l.drop (i+1):=by
 have aq:=(h4.1 h).1;have j:l[i]=x:=by rw[fx aq] at h;injection h
 rw[HP aq,j]
theorem zG:1<cf:=by decide
theorem WN{x:Nat}:[x].length<=1000:=by rw[xx];decide
section
variable {Q:eF Tryz.prog}{g0:Nat}{J:an}
theorem GB{v w:Value}{x y:Nat}(U:dE J v x)(ab:dE J w y)(aw:(aj x).length<=1000):Fn (aS Q g0) 29 [v,w] [] J (fun u m' ai=>u=.int .i64 (jD x y)/\m'=[]/\J=ai):=by
 have U:dx .u32 J v (aj x):=U;have ab:dx .u32 J w (aj y):=ab;obtain⟨bV,bE,rfl⟩:=U.form;obtain⟨b7,b8,rfl⟩:=ab.form;refine Fn.cH (cK Tryz.func29) rfl rfl fun H=>?_;refine rg ?_;refine I V.aI ?_;refine bg ?_;refine aH ?_;refine I V.bk ?_;refine aJ ?_;refine If (fun dP=>?_) fun dP=>?_
 ·refine rg ?_;refine aH ?_;refine I V.bk ?_;refine aJ ?_;refine If (fun fW=>?_) fun fW=>?_
  ·refine rg ?_;refine I V.aI ?_;refine aJ ?_;refine ad.ret ?_;refine'⟨.inr rfl,rfl,_,[],.tmp rfl .nil,b1 _,?_⟩;first
    |(have c:=fW;exact⟨by rw[vl (zl (by omega))];rfl,rfl,rfl⟩)
    |(have c:=fW;exact⟨by rw[xZ (zl (by omega))];rfl,rfl,rfl⟩)
    |exact⟨by
      obtain rfl:k=0:=by omega
      rw[tr (show x=y by rw[<-gj x,<-gj y];exact ak bi ax)];rfl,rfl,rfl⟩
  ·refine aM ?_;refine ad.skip ?_;refine rg ?_;refine I V.aI ?_;refine aJ ?_;refine ad.ret ?_;refine'⟨.inr rfl,rfl,_,[],.tmp rfl .nil,b1 _,?_⟩;first
    |(have c:=fW;exact⟨by rw[vl (zl (by omega))];rfl,rfl,rfl⟩)
    |(have c:=fW;exact⟨by rw[xZ (zl (by omega))];rfl,rfl,rfl⟩)
    |exact⟨by
      obtain rfl:k=0:=by omega
      rw[tr (show x=y by rw[<-gj x,<-gj y];exact ak bi ax)];rfl,rfl,rfl⟩
 ·refine aM ?_;refine ad.skip ?_;refine rg ?_;refine aH ?_;refine I V.bX ?_;refine I V.aI ?_;refine aJ ?_;refine ad.block ?_;refine' ad.eZ (l':=[(5,.int .i64 ((((aj x).length):Int) -1)),(0,_),(1,_)]) ⟨?fu,rfl,rfl,trivial⟩ (cl _) ?_;case fu=>first|exact cu|exact ak some (ak (Value.int .u64) (by omega))|exact ak some (ak (Value.int .i64) (by omega))
  refine aM ?_;refine' ad.l2 (α:=(Nat)) (fun(k:Nat)=>[(5,.int .i64 ((k:Int) -1))]) (fun(k:Nat)=>k<=(aj x).length/\(aj x).drop k=(aj y).drop k) (fun(k:Nat)=>k) ((aj x).length) ?ag ?b2;case ag=>exact⟨c9 _,by rw[va (by omega),va (by omega)]⟩
  case b2=>
   rintro k hinv;try simp only at hinv
   obtain⟨hk,ax⟩:=hinv;refine rg ?_;refine I V.aT ?_;refine I V.bk ?_;refine aJ ?_;refine If (fun kk=>?_) fun kk=>?_
   ·obtain⟨a,o,cm,e,rfl,gT,aD⟩:=U.at (by omega);obtain⟨bA,o',AW,bl,rfl,yt,qR⟩:=ab.at (by omega);obtain⟨p,ao,hf⟩:=aD (k -1) (by omega);obtain⟨q,bY,v8⟩:=qR (k -1) (by omega);have hf:nth cm (o+((k:Int) -1).toNat*1)=some (.int .u32 (p:Int)):=by rw[show((k:Int) -1).toNat=k -1 by omega];exact hf
    have v8:nth AW (o'+((k:Int) -1).toNat*1)=some (.int .u32 (q:Int)):=by rw[show((k:Int) -1).toNat=k -1 by omega];exact v8
    refine fJ ?_;refine aM ?_;refine ad.block ?_;refine aM ?_;refine ad.draw rfl (by kernel_rfl) (a6:=[.val 0,.val 1,.val 2,.val 3,.val 4,.val 5,.val 6,.val 7,.val 8]) (by kernel_rfl) ?_;refine fX ?_;refine bd rfl V.bw ?_;refine bd rfl V.ec ?_;refine fX ?_;refine bd rfl V.bw ?_;refine bd rfl V.ec ?_;refine bd rfl V.bk ?_;refine bR.nil ?_;refine aM ?_;refine If (fun nb=>?_) fun nb=>?_
    ·refine rg ?_;refine I V.aI ?_;refine aJ ?_;refine ad.ret ?_;refine'⟨.inr rfl,rfl,_,[],.tmp rfl .nil,b1 _,?_⟩;first
       |(have c:=nb;exact⟨by rw[vl (F2 ao bY (by rw[show k -1+1=k by omega];exact ax) (by omega))];rfl,rfl,rfl⟩)
       |exact⟨by
         obtain rfl:k=0:=by omega
         rw[tr (show x=y by rw[<-gj x,<-gj y];exact ak bi ax)];rfl,rfl,rfl⟩
    ·refine aM ?_;refine ad.skip ?_;refine aM ?_;refine ad.draw rfl (by kernel_rfl) (a6:=[.val 0,.val 1,.val 2,.val 3,.val 4,.val 5,.val 6,.val 7,.val 8]) (by kernel_rfl) ?_;refine fX ?_;refine bd rfl V.bw ?_;refine bd rfl V.ec ?_;refine fX ?_;refine bd rfl V.bw ?_;refine bd rfl V.ec ?_;refine bd rfl V.bk ?_;refine bR.nil ?_;refine aM ?_;refine If (fun xT=>?_) fun xT=>?_
     ·refine rg ?_;refine I V.aI ?_;refine aJ ?_;refine ad.ret ?_;refine'⟨.inr rfl,rfl,_,[],.tmp rfl .nil,b1 _,?_⟩;first
       |(have c:=nb;exact⟨by rw[vl (F2 ao bY (by rw[show k -1+1=k by omega];exact ax) (by omega))];rfl,rfl,rfl⟩)
       |(have c:=xT;exact⟨by rw[xZ (F2 bY ao (by rw[show k -1+1=k by omega];exact ax.symm) (by omega))];rfl,rfl,rfl⟩)
       |exact⟨by
         obtain rfl:k=0:=by omega
         rw[tr (show x=y by rw[<-gj x,<-gj y];exact ak bi ax)];rfl,rfl,rfl⟩
     ·refine aM ?_;refine ad.skip ?_;refine rg ?_;refine I V.aT ?_;refine I V.bX ?_;refine I V.aI ?_;refine bU ?_;refine'⟨(k -1),_,?hinv,?g5,rfl,⟨?mO,rfl,rfl,trivial⟩,cl _,rfl⟩;case mO=>first|exact cu|exact ak some (ak (Value.int .u64) (by omega))|exact ak some (ak (Value.int .i64) (by omega))
      case g5=>exact cQ
      case hinv=>exact⟨by omega,by rw[drop_cons (i:=k -1) ao,drop_cons (i:=k -1) bY,show k -1+1=k by omega,ax];congr 1;omega⟩
   ·refine aM ?_;refine ad.exit ?_;refine rg ?_;refine I V.aI ?_;refine aJ ?_;refine ad.ret ?_;refine'⟨.inr rfl,rfl,_,[],.tmp rfl .nil,b1 _,?_⟩;first
     |exact⟨by
       obtain rfl:k=0:=by omega
       rw[tr (show x=y by rw[<-gj x,<-gj y];exact ak bi ax)];rfl,rfl,rfl⟩
theorem GV{x:Nat}(j:x<1000000000):Fn (aS Q g0) 76 [.int .u32 (x:Int)] [] J (m7 J x):=by
 refine Fn.cH (cK Tryz.func76) rfl rfl fun H=>?_;refine rg ?_;refine I V.aI ?_;refine bg ?_;refine I V.aT ?_;refine jA (iQ Q g0) fun c4=>?_;refine W.dv rfl fun a' nl=>?_;refine cm (G:=zV (l:=[x]) (.row nl rfl rfl (fun _=>⟨c9 _,zG⟩) (fun q=>absurd q (xC zG))) (fun z a0=>by rw[Au.1 a0];exact j) WN) (h:=?_);rintro v' m' ai hle ⟨rfl,rfl,bD⟩;rw[CS] at bD;refine I V.aI ?_;refine aJ ?_;refine ad.ret ?_;refine'⟨.inr rfl,rfl,_,[],.tmp rfl .nil,b1 _,⟨a',rfl,bD⟩⟩
end
end
end Go.Opn

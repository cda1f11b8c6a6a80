/- A part of the proof of TableClose. -/
import Derived.Test.YtpahonhejmlnpaaGreatDoorCbl
import Derived.Test.YtpahonhejmlnpaaGreatDoorCbj
set_option maxRecDepth 100000
set_option maxHeartbeats 8000000
set_option linter.unusedVariables false
set_option linter.unusedSimpArgs false
namespace Go.Opn
noncomputable section
open Go.Cre Go.RowKit Go.Proofs
section
variable {Q:ek Tryz.prog}{g0:Nat}{J:an}
theorem acP{cr:Nat}{ys:List Value}:oI (aO Q g0) 22 [.pointer (some ⟨cr,0,none⟩)] .returning [(cr,.row ys 29)] J (fun u m' ae=>u=.returning/\m'=[(cr,.row ys 29)]/\J=ae):=by
 refine oI.ck (ch Tryz.func22) rfl rfl fun H=>?_;refine rg ?_;refine' W.recover rfl rfl rfl rfl rfl rfl rfl ?_;refine b4 (G:=Gd (ys:=ys)) (h:=?_);rintro v' m' ae hle ⟨rfl,rfl⟩;refine bR ?_;exact⟨by first|exact .inl rfl|exact .inr rfl,rfl,[],_,.nil,.refl _,rfl,rfl,rfl⟩
theorem acQ{ps:List Nat}{s bits:Nat}{b:Option Addr}{c:Nat}{e:TypeId}(b6:J 2=some (ca .u8 jI,e))(aq:Nat.blt 2 (aO Q g0).g0=true)(h:fA J 35 3 (ic J) (.slice b ps.length c) (ps.map fun p:Nat=>aV (p:Int) s))(fR:1<=ps.length)(fZ:ps.length<=10)(af:0<s)(kf:s<=4096)(ao:ps.sum=s)(fC:1<=bits)(pY:bits<=12):
 Fn (aO Q g0) 6 [.slice b ps.length c,.int .i64 (bits:Int)] [] J (fun x m' ae=>J.le ae/\m'=[]/\∃b' bw,x=.tuple #[.slice b' ps.length bw,.int .i64 0]/\de .i64 ae (.slice b' ps.length bw) (yK ps s (2 ^ bits))):=by
 have lQ:addrEq b b=true:=h.addr;refine qO.JF (qO.ck (ch Tryz.func6) rfl rfl fun H=>?_);refine rg ?_;refine I V.aI ?_;refine' W.step rfl (.of (eS rfl rfl rfl (B4 Q g0) rfl rfl rfl fun cr=>?_));refine bb ?_;refine I V.fn ?_;refine' W.defer rfl rfl rfl rfl rfl rfl rfl ?_;refine bb ?_;refine I V.aJ ?_;refine I V.a' ?_;refine I V.aJ ?_;refine gz 9 (fun vD=>?_) fun vD=>?_
 ·exfalso;omega
 ·refine bM V.aJ ?_;refine bM V.a' ?_;refine I V.bo ?_;refine aD ?_;refine If (fun jb=>?_) fun jb=>?_
  ·exfalso;omega
  ·refine aG ?_;refine ad.skip ?_;refine rg ?_;refine I V.aJ ?_;refine b4 (G:=EB b6 aq h fR fZ af kf ao) (h:=?_);rintro v' m' bq a8 ⟨_,rfl,br,bn,rfl,l2⟩;have aR:addrEq br br=true:=l2.addr;refine I V.aJ ?_;refine b4 (G:=QD l2 fR fZ af kf ao pY) (h:=?_);rintro v' m' dR bO ⟨_,rfl,bN,bQ,rfl,hc⟩;have aN:addrEq bN bN=true:=hc.addr;refine I V.aI ?_;refine eG ?_;refine aD ?_;refine ad.ret ?_;refine⟨.returning,rfl,.inr ⟨22,#[.pointer (some ⟨cr,0,none⟩)],#[],[(cr,.row [.int .i64 0] 29)],[],rfl,.refl _,acP.mono ?_⟩⟩;rintro Rv m' ae ⟨rfl,rfl,rfl⟩ _;exact .inl ⟨rfl,_,[],.tmp rfl (.cell rfl (.head _) (iV (dw rfl) rfl) .nil),bZ _,a8.trans bO,rfl,_,_,rfl,hc⟩
theorem QJ{qZ:aU->an->Prop}{b0 bx iF off c:Nat}{qm:aU}{cells:List Value}{e:TypeId}{br:Option Addr}{bI bn:Nat}(fu:J iF=some (cells,e))(ay:nth cells (off+((0:Nat):Int).toNat*1)=some (.slice br bI bn))(aR:addrEq br br=true)
 (im:pL (aO Q g0) b0 [.slice br bI bn] qm J (fun v m' mq=>v=.bool true/\qZ m' mq/\J.le mq)):
 Fn (aO Q g0) 60 [.func (.yield b0) #[] #[],.pointer (some ⟨bx,0,none⟩)] ((bx,.row [.slice (some ⟨iF,off,none⟩) 1 c] 42)::qm) J (fun w m' ae=>qZ m' ae/\J.le ae):=by
 refine Fn.ck (ch Tryz.func60) rfl rfl fun H=>?_;refine rg ?_;refine I V.cP ?_;refine aH ?_;refine aD ?_;refine ad.block ?_;refine aG ?_;refine ad.mY (m':=qm++[(bx,.row [.slice (some ⟨iF,off,none⟩) 1 c] 42)]) (tu _ _) ?_;refine' ad.eH (l':=[(7,.int .i64 ((0):Int)),(0,_),(5,_),(6,_)]) ⟨?k3,rfl,rfl,rfl,trivial⟩ (cd _) ?_;case k3=>first|exact cq|exact aj some (aj (Value.int .u64) (by omega))|exact aj some (aj (Value.int .i64) (by omega))
 refine aG ?_;refine' ad.b0 (fun(cG:Nat×aU×an)=>match cG with|(i,hy,dn)=>⟨[(7,.int .i64 (i:Int))],hy++[(bx,.row [.slice (some ⟨iF,off,none⟩) 1 c] 42)],dn,(i=0/\hy=qm/\dn=J)\/(i=1/\qZ hy dn/\J.le dn),1 -i⟩) ⟨0,qm,J⟩ ?af ?bT
 case af=>exact .inl ⟨rfl,rfl,rfl⟩
 case bT=>
  rintro⟨i,hy,dn⟩ hinv;try simp only at hinv
  skip
  refine rg ?_;refine I V.a' ?_;refine aD ?_;refine If (fun gR=>?_) fun gR=>?_
  ·rcases hinv with⟨rfl,rfl,rfl⟩|⟨aa,_⟩
   case inr=>exact absurd gR (by omega)
   refine e4 ?_;refine aG ?_;refine ad.block ?_;refine rg ?_;refine I V.bj ?_;refine I V.cP ?_;refine I V.aI ?_;refine bb ?_;refine aH ?_;refine' W.step rfl (Exec.yield rfl rfl rfl rfl rfl rfl (bU:=hy) (eD:=[_]) (.refl _) trivial (im) ?_);rintro v eW dR bO ⟨rfl,xJ,cL⟩;refine I V.nG ?_;refine aD ?_;refine If (fun gQ=>?_) fun gQ=>?_
   ·exfalso;simp at gQ
   ·refine aG ?_;refine ad.skip ?_;refine rg ?_;refine I V.bW ?_;refine I V.aJ ?_;refine bR ?_;refine gF ⟨1,eW,dR⟩ ?_;exact .inr ⟨rfl,xJ,cL⟩
  ·rcases hinv with⟨aa,_⟩|⟨rfl,eB,xH⟩
   ·exact absurd gR (by omega)
   refine aG ?_;refine ad.exit ?_;refine'⟨.inl rfl,rfl,_,_,.nil,(nR _ _),⟨eB,xH⟩⟩
theorem QK{b:Option Addr}{n c:Nat}(lQ:addrEq b b=true):
 Fn (aO Q g0) 34 [.slice b n c] [] J (fun w m' ae=>∃bx,w=.func (.func 60) #[] #[.pointer (some ⟨bx,0,none⟩)]/\m'=[(bx,.row [.slice b n c] 42)]/\J=ae):=by
 refine Fn.ck (ch Tryz.func34) rfl rfl fun H=>?_;refine rg ?_;refine fc fun bx=>?_;refine I V.aI ?_;refine bb ?_;refine aH ?_;refine aD ?_;refine ad.ret ?_;refine'⟨.inr rfl,rfl,_,_,.tmp rfl .nil,cd _,⟨bx,rfl,rfl,rfl⟩⟩
theorem acU{qZ:aU->an->Prop}{b0 bx iF off c:Nat}{qm:aU}{cells:List Value}{e:TypeId}{br:Option Addr}{bI bn:Nat}(fu:J iF=some (cells,e))(ay:nth cells (off+((0:Nat):Int).toNat*1)=some (.slice br bI bn))(aR:addrEq br br=true)
 (im:pL (aO Q g0) b0 [.slice br bI bn] qm J (fun v m' mq=>v=.bool true/\qZ m' mq/\J.le mq)):
 Fn (aO Q g0) 100 [.func (.yield b0) #[] #[],.pointer (some ⟨bx,0,none⟩)] ((bx,.row [.slice (some ⟨iF,off,none⟩) 1 c] 45)::qm) J (fun w m' ae=>qZ m' ae/\J.le ae):=by
 refine Fn.ck (ch Tryz.func100) rfl rfl fun H=>?_;refine rg ?_;refine I V.cP ?_;refine aH ?_;refine aD ?_;refine ad.block ?_;refine aG ?_;refine ad.mY (m':=qm++[(bx,.row [.slice (some ⟨iF,off,none⟩) 1 c] 45)]) (tu _ _) ?_;refine' ad.eH (l':=[(7,.int .i64 ((0):Int)),(0,_),(5,_),(6,_)]) ⟨?k3,rfl,rfl,rfl,trivial⟩ (cd _) ?_;case k3=>first|exact cq|exact aj some (aj (Value.int .u64) (by omega))|exact aj some (aj (Value.int .i64) (by omega))
 refine aG ?_;refine' ad.b0 (fun(cG:Nat×aU×an)=>match cG with|(i,hy,dn)=>⟨[(7,.int .i64 (i:Int))],hy++[(bx,.row [.slice (some ⟨iF,off,none⟩) 1 c] 45)],dn,(i=0/\hy=qm/\dn=J)\/(i=1/\qZ hy dn/\J.le dn),1 -i⟩) ⟨0,qm,J⟩ ?af ?bT
 case af=>exact .inl ⟨rfl,rfl,rfl⟩
 case bT=>
  rintro⟨i,hy,dn⟩ hinv;try simp only at hinv
  skip
  refine rg ?_;refine I V.a' ?_;refine aD ?_;refine If (fun gR=>?_) fun gR=>?_
  ·rcases hinv with⟨rfl,rfl,rfl⟩|⟨aa,_⟩
   case inr=>exact absurd gR (by omega)
   refine e4 ?_;refine aG ?_;refine ad.block ?_;refine rg ?_;refine I V.bj ?_;refine I V.cP ?_;refine I V.aI ?_;refine bb ?_;refine aH ?_;refine' W.step rfl (Exec.yield rfl rfl rfl rfl rfl rfl (bU:=hy) (eD:=[_]) (.refl _) trivial (im) ?_);rintro v eW dR bO ⟨rfl,xJ,cL⟩;refine I V.nG ?_;refine aD ?_;refine If (fun gQ=>?_) fun gQ=>?_
   ·exfalso;simp at gQ
   ·refine aG ?_;refine ad.skip ?_;refine rg ?_;refine I V.bW ?_;refine I V.aJ ?_;refine bR ?_;refine gF ⟨1,eW,dR⟩ ?_;exact .inr ⟨rfl,xJ,cL⟩
  ·rcases hinv with⟨aa,_⟩|⟨rfl,eB,xH⟩
   ·exact absurd gR (by omega)
   refine aG ?_;refine ad.exit ?_;refine'⟨.inl rfl,rfl,_,_,.nil,(nR _ _),⟨eB,xH⟩⟩
theorem acV{b:Option Addr}{n c:Nat}(lQ:addrEq b b=true):
 Fn (aO Q g0) 64 [.slice b n c] [] J (fun w m' ae=>∃bx,w=.func (.func 100) #[] #[.pointer (some ⟨bx,0,none⟩)]/\m'=[(bx,.row [.slice b n c] 45)]/\J=ae):=by
 refine Fn.ck (ch Tryz.func64) rfl rfl fun H=>?_;refine rg ?_;refine fc fun bx=>?_;refine I V.aI ?_;refine bb ?_;refine aH ?_;refine aD ?_;refine ad.ret ?_;refine'⟨.inr rfl,rfl,_,_,.tmp rfl .nil,cd _,⟨bx,rfl,rfl,rfl⟩⟩
end
def Fx(F:mm->Prop)(b0:Nat)(G:aU->an->Prop)(m:aU)(ae:an):Prop:=∃r Ba,F r/\m=(b0,.loop r)::Ba/\G Ba ae
def C2{r:mm}{n:Nat}{ps:List Tmp}{u9 jx:Code}{b0:Nat}{l:List (Nat×Value)}(_:qP r n ps u9 jx b0 l)(cg:mm):Prop:=qP cg n ps u9 jx b0 l
theorem xw{r cg:mm}{n:Nat}{ps:List Tmp}{u9 jx:Code}{b0:Nat}{l:List (Nat×Value)}{h:qP r n ps u9 jx b0 l}(gB:C2 h cg):cg.state≠.busy/\cg.pending=none:=⟨(by rw[qP.jk gB];intro q;cases q),qP.rW gB⟩
section
variable {Q:ek Tryz.prog}{g0:Nat}{J:an}
theorem ad0{vs:List Nat}{bits iF off c:Nat}{cells:List Value}{e:TypeId}{br:Option Addr}{bI bn:Nat}(fu:J iF=some (cells,e))(ay:nth cells (off+((0:Nat):Int).toNat*1)=some (.slice br bI bn))(hc:de .i64 J (.slice br bI bn) vs)(aw:vs.length=bI)(fR:1<=bI)(fZ:bI<=10)(fC:1<=bits)(pY:bits<=12)(ud:vs.sum=2 ^ bits):
 Fn (aO Q g0) 33 [.agg #[.int .i64 (bits:Int),.slice (some ⟨iF,off,none⟩) 1 c]] [] J (fun u m' ae=>u=.int .i64 0/\m'=[]/\J=ae):=by
 have aR:addrEq br br=true:=hc.addr;have aN:addrEq (some ⟨iF,off,none⟩) (some ⟨iF,off,none⟩)=true:=by simp[addrEq]
 obtain⟨iG,o3,mH⟩:=BM pY;obtain⟨u9,P4,Mr,MM,rfl,iO,Aq⟩:=hc.dB (by omega);generalize 2 ^ bits=M at*;refine Fn.Jg (ch Tryz.func33) rfl rfl fun H=>?_;refine rg ?_;refine fc fun bx=>?_;refine' W.step rfl (.of (eS rfl rfl rfl (B4 Q g0) rfl rfl rfl fun bX=>?_));refine bb ?_;refine I V.cF ?_;refine I V.c2 ?_;refine I V.a' ?_;refine I V.aJ ?_;refine gz 10 (fun j'=>?_) fun j'=>?_
 ·exfalso;omega
 ·refine bM V.cF ?_;refine bM V.c2 ?_;refine bM V.a' ?_;refine I V.bo ?_;refine aD ?_;refine If (fun gQ=>?_) fun gQ=>?_
  ·exfalso;omega
  ·refine aG ?_;refine ad.skip ?_;refine rg ?_;refine I V.cF ?_;refine I V.c2 ?_;refine I V.gL ?_;refine I V.a' ?_;refine aD ?_;refine If (fun hY=>?_) fun hY=>?_
   ·exfalso;omega
   ·refine aG ?_;refine ad.skip ?_;refine rg ?_;refine I V.cF ?_;refine I V.c2 ?_;refine b4 (G:=QK aN) (h:=?_);rintro v m' bq hle ⟨l1,rfl,rfl,rfl⟩;refine aD ?_;refine ad.block ?_;refine aG ?_;refine ad.JD rfl rfl (fun j8 b0 r al=>?_);refine⟨(l1,_)::[(b0,_),(bX,_),(bx,_)],[(j8,_)],_,(hR 2 rfl (hR 0 rfl (hR 1 rfl (hR 1 rfl (hR 0 rfl .nil))))),trivial,QJ (qZ:=Fx (C2 al) b0 (fun m ae=>m=[(bX,.row [.int .i64 0] 29),(bx,.row [.int .i64 (bits:Int),.slice (some ⟨iF,off,none⟩) 1 c] 44)]/\ae=J)) fu ay aR ?im,?o4⟩;case im=>
     refine pL.Jf al (by repeat first|exact .head _|refine .tail _ ?_|refine d' _ ?_) rfl rfl (fun H=>?_);refine rg ?_;refine I V.aI ?_;refine bR ?_;refine⟨rfl,_,(by repeat first|exact .head _ _ _ _|apply dp.tail|apply dp.app),?_⟩;refine aG ?_;refine ad.block ?_;refine rg ?_;refine aH ?_;refine I V.a' ?_;refine I V.aJ ?_;refine gz 26 (fun Wx=>?_) fun Wx=>?_
     ·
        exfalso;omega
     ·
        refine bM V.aJ ?_;refine bM V.gL ?_;refine bM V.a' ?_;refine I V.bo ?_;refine aD ?_;refine If (fun F6=>?_) fun F6=>?_
        ·exfalso;omega
        ·refine aG ?_;refine ad.skip ?_;refine rg ?_;refine I V.aI ?_;refine bb ?_;refine aH ?_;refine aD ?_;refine ad.block ?_;refine' ad.eH (l':=[(33,.int .i64 ((0):Int)),(4,.int .i64 (((vs.take (0)).sum:Nat):Int)),(1,_),(2,_),(31,_),(32,_)]) ⟨?aeU,?lS,rfl,rfl,rfl,rfl,trivial⟩ (cd _) ?_;case aeU=>first|exact cq|exact aj some (aj (Value.int .u64) (by omega))|exact aj some (aj (Value.int .i64) (by omega))
         case lS=>first|exact cq|exact aj some (aj (Value.int .u64) (by omega))|exact aj some (aj (Value.int .i64) (by omega))
         refine aG ?_;refine' ad.mQ (α:=(Nat)) (fun(i:Nat)=>[(33,.int .i64 (i:Int)),(4,.int .i64 (((vs.take i).sum:Nat):Int))]) (fun(i:Nat)=>i<=bI) (fun(i:Nat)=>bI -i) (0) ?af ?bT;case af=>exact fB _
         case bT=>
          rintro i hinv;try simp only at hinv
          have ar:=hinv;refine rg ?_;refine I V.a' ?_;refine aD ?_;refine If (fun vf=>?_) fun vf=>?_
          ·obtain⟨x,U⟩:∃x,vs[i]?=some x:=⟨_,eO (by omega)⟩;have OI:=rR (k8 U);have dM:=J0 U;have vX:=BO (l:=vs) (i:=i+1);have Dm:=Aq i x U;refine e4 ?_;refine aG ?_;refine ad.block ?_;refine rg ?_;refine I V.bj ?_;refine I V.c2 ?_;refine I V.aI ?_;refine bb ?_;refine I V.aJ ?_;refine I V.a' ?_;refine I V.aJ ?_;refine gz 39 (fun Wm=>?_) fun Wm=>?_
           ·exfalso;omega
           ·refine bM V.aJ ?_;refine bM V.cF ?_;refine bM V.c2 ?_;refine' W.GX rfl rfl rfl (Exec.val rfl rfl (qG rfl rfl rfl ?aX ?aa) ?_);case aX=>exact bS
            case aa=>first|decide|exact bS|exact(show _<=((64:Nat):Int) from(by omega))
            rw[iG];refine bM V.a' ?_;refine I V.bo ?_;refine aD ?_;refine If (fun TI=>?_) fun TI=>?_
            ·exfalso;omega
            ·refine aG ?_;refine ad.skip ?_;refine rg ?_;refine aH ?_;refine I V.bW ?_;refine I V.aI ?_;refine bb ?_;refine I V.bW ?_;refine I V.aJ ?_;refine bR ?_;refine'⟨(i+1),_,?hinv,?hh,rfl,⟨?Z',?mS,rfl,rfl,rfl,rfl,trivial⟩,cd _,rfl⟩;case Z'=>first|exact cq|exact aj some (aj (Value.int .u64) (by omega))|exact aj some (aj (Value.int .i64) (by omega))
             case mS=>first|exact cq|exact aj some (aj (Value.int .u64) (by omega))|exact aj some (aj (Value.int .i64) (by omega))
             case hh=>exact bS
             case hinv=>exact(by omega)
          ·obtain rfl:i=bI:=by omega
           rw[ib (by omega)];refine aG ?_;refine ad.exit ?_;refine rg ?_;refine aH ?_;refine I V.c2 ?_;refine' W.step rfl (Exec.val rfl rfl (qG rfl rfl rfl ?aX ?aa) ?_);case aX=>exact bS
           case aa=>first|decide|exact bS|exact(show _<=((64:Nat):Int) from(by omega))
           rw[iG];refine I V.a' ?_;refine aD ?_;refine If (fun TL=>?_) fun TL=>?_
           ·exfalso;omega
           ·refine aG ?_;refine ad.skip ?_;refine⟨none,_,_,_,rfl,(by repeat first|exact .head _ _ _ _|apply dp.tail|apply dp.app),cd _,?_⟩;exact⟨rfl,⟨_,_,al.again,rfl,rfl,rfl⟩,an.le.refl _⟩
    rintro v m' bq a8 ⟨⟨cM,Ba,lC,rfl,rfl,rfl⟩,Ds⟩;refine⟨cM,(b0,_)::[(bX,_),(bx,_),(j8,_)],(.head _ _ _ _),(xw lC).1,?_⟩;rw[(xw lC).2];refine rg ?_;refine eG ?_;refine aD ?_;refine ad.ret ?_;refine'⟨.inr rfl,_,_,[],(by first|exact .nil _|exact .CL (hR 3 rfl (hR 0 rfl (hR 0 rfl (hR 0 rfl .nil)))) (.nil _)),.cell rfl (by repeat first|exact .head _|refine .tail _ ?_|refine d' _ ?_) (iV (dw rfl) rfl) (.nil),bZ _,⟨rfl,rfl,rfl⟩⟩
end
section
variable {Q:ek Tryz.prog}{g0:Nat}{J:an}
theorem Gj{v w:Value}{x y:Nat}(aa:dW J v x)(ab:dW J w y)(fR:(ap x).length<=100)(fZ:(ap y).length<=100):Fn (aO Q g0) 43 [v,w] [] J (fun u m' ae=>J.le ae/\m'=[]/\dW ae u (Nat.gcd x y)):=by
 have g3:de .u32 J v (ap x):=aa;have hb:de .u32 J w (ap y):=ab;obtain⟨br,bn,rfl⟩:=g3.form;obtain⟨bN,bQ,rfl⟩:=hb.form;refine Fn.ck (ch Tryz.func43) rfl rfl fun H=>?_;refine rg ?_;refine I V.aI ?_;refine aD ?_;refine ad.block ?_;refine' ad.eH (l':=[(0,.slice (br) (ap (x)).length (bn)),(1,.slice (bN) (ap (y)).length (bQ))]) ⟨?w0,?bh,trivial⟩ (cd _) ?_;case w0=>first|exact cq|exact aj some (aj (Value.int .u64) (by omega))|exact aj some (aj (Value.int .i64) (by omega))
 case bh=>first|exact cq|exact aj some (aj (Value.int .u64) (by omega))|exact aj some (aj (Value.int .i64) (by omega))
 refine aG ?_;refine' ad.b0 (fun(cG:Nat×Nat×(Option Addr)×(Option Addr)×Nat×Nat×an)=>match cG with|(a,b,FX,ks,nZ,zE,dn)=>⟨[(0,.slice FX (ap a).length nZ),(1,.slice ks (ap b).length zE)],[],dn,J.le dn/\dW dn (.slice FX (ap a).length nZ) a/\dW dn (.slice ks (ap b).length zE) b/\(ap a).length<=100/\(ap b).length<=100/\Nat.gcd a b=Nat.gcd x y,b⟩) ⟨x,y,br,bN,bn,bQ,J⟩ ?af ?bT
 case af=>exact⟨an.le.refl _,aa,ab,fR,fZ,rfl⟩
 case bT=>
  rintro⟨a,b,FX,ks,nZ,zE,dn⟩ hinv;try simp only at hinv
  obtain⟨et,eL,ep,o6,rB,aq⟩:=hinv;refine rg ?_;refine aH ?_;refine I V.a' ?_;refine aD ?_;refine If (fun e7=>?_) fun e7=>?_
  ·have fC:b≠0:=II (by omega);have N6:a % b<b:=oN _ (by omega);refine e4 ?_;refine aG ?_;refine ad.block ?_;refine rg ?_;refine aH ?_;refine b4 (G:=Jr eL ep fC o6 rB) (h:=?_);rintro v' m' bq hle ⟨a8,rfl,bh,cb,rfl,cc,al⟩;have dL:de .u32 bq cb (ap (a % b)):=al;obtain⟨dj,dH,rfl⟩:=dL.form;refine aH ?_;refine bb ?_;refine aH ?_;refine bR ?_;have bT:J.le bq/\dW bq (.slice ks (ap b).length zE) b/\dW bq (.slice dj (ap (a % b)).length dH) (a % b)/\(ap b).length<=100/\(ap (a % b)).length<=100/\Nat.gcd b (a % b)=Nat.gcd x y:=⟨et.trans a8,ep.mono a8,al,rB,eh (v9 (zj N6)) rB,by
    rw[<-aq,oL a b,w7 b a,oL (a % b) b]⟩
   refine gF ⟨b,a % b,ks,dj,zE,dH,bq⟩ ?_;exact bT
  ·have fC:b=0:=by
    rcases ly b with q|q
    ·exact q
    ·have:=qj (hD q);omega
   rw[fC,u2] at aq;refine aG ?_;refine ad.exit ?_;refine rg ?_;refine aH ?_;refine aD ?_;refine ad.ret ?_;refine'⟨.inr rfl,rfl,_,[],.tmp rfl .nil,bZ _,⟨et,rfl,by rw[<-aq];exact eL⟩⟩
theorem Mj{v:Value}{x:Nat}(h:dW J v x)(aA:(ap x).length<=100):Fn (aO Q g0) 71 [v] [] J (fun u m' ae=>u=.int .i64 0/\m'=[]/\J=ae):=by
 have g3:de .u32 J v (ap x):=h;obtain⟨br,bn,rfl⟩:=g3.form;have iH:=g3.at;refine Fn.ck (ch Tryz.func71) rfl rfl fun H=>?_;refine rg ?_;refine I V.aI ?_;refine bb ?_;refine aH ?_;refine I V.a' ?_;refine aD ?_;refine If (fun dU=>?_) fun dU=>?_
 ·exfalso;omega
 ·refine aG ?_;refine ad.skip ?_;refine rg ?_;refine I V.aI ?_;refine aD ?_;refine ad.block ?_;refine' ad.eH (l':=[(3,.int .i64 ((0):Int)),(0,_)]) ⟨?dD,rfl,trivial⟩ (cd _) ?_;case dD=>first|exact cq|exact aj some (aj (Value.int .u64) (by omega))|exact aj some (aj (Value.int .i64) (by omega))
  refine aG ?_;refine' ad.mQ (α:=(Nat)) (fun(i:Nat)=>[(3,.int .i64 (i:Int))]) (fun(i:Nat)=>i<=(ap x).length) (fun(i:Nat)=>(ap x).length -i) (0) ?af ?bT;case af=>exact fB _
  case bT=>
   rintro i hinv;try simp only at hinv
   have ar:=hinv;refine rg ?_;refine aH ?_;refine I V.a' ?_;refine aD ?_;refine If (fun dq=>?_) fun dq=>?_
   ·obtain⟨a,o,oV,e,rfl,fu,ay⟩:=iH (by omega);obtain⟨p,ao,h3⟩:=ay i (by omega);have bG:=qs (kj x) ao;refine e4 ?_;refine aG ?_;refine ad.block ?_;refine rg ?_;refine aH ?_;refine I V.bj ?_;refine I V.c2 ?_;refine I V.a' ?_;refine aD ?_;refine If (fun ve=>?_) fun ve=>?_
    ·exfalso;omega
    ·refine aG ?_;refine ad.skip ?_;refine rg ?_;refine I V.aJ ?_;refine I V.bW ?_;refine I V.aI ?_;refine bR ?_;refine'⟨(i+1),_,?hinv,?hh,rfl,⟨?jT,rfl,trivial⟩,cd _,rfl⟩;case jT=>first|exact cq|exact aj some (aj (Value.int .u64) (by omega))|exact aj some (aj (Value.int .i64) (by omega))
     case hh=>exact bS
     case hinv=>exact(by omega)
   ·refine aG ?_;refine ad.exit ?_;refine rg ?_;refine aH ?_;refine I V.a' ?_;refine I V.aJ ?_;refine gz 21 (fun Wy=>?_) fun Wy=>?_
    ·obtain⟨a,o,oV,e,rfl,fu,ay⟩:=iH (by omega);obtain⟨p,ao,h3⟩:=ay ((ap x).length -1) (by omega);have bG:p≠0:=A4 x _ (by rw[Cm];exact ao);have h3:nth oV (o+(((ap x).length:Int) -1).toNat*1)=some (.int .u32 (p:Int)):=by
       rw[show(((ap x).length:Int) -1).toNat=(ap x).length -1 by omega];exact h3
     refine bM V.aJ ?_;refine bM V.aJ ?_;refine bM V.gL ?_;refine bM V.bW ?_;refine bM V.bj ?_;refine bM V.c2 ?_;refine bM V.a' ?_;refine I V.bo ?_;refine aD ?_;refine If (fun TF=>?_) fun TF=>?_
     ·exfalso;omega
     ·refine aG ?_;refine ad.skip ?_;refine rg ?_;refine I V.aI ?_;refine aD ?_;refine ad.ret ?_;refine'⟨.inr rfl,rfl,_,[],.tmp rfl .nil,bZ _,⟨rfl,rfl,rfl⟩⟩
    ·refine c7 ?_;refine c7 ?_;refine c7 ?_;refine c7 ?_;refine c7 ?_;refine c7 ?_;refine c7 ?_;refine I V.bo ?_;refine aD ?_;refine ad.tJ rfl ?_;refine l8 ?_;refine I V.aI ?_;refine aD ?_;refine ad.ret ?_;refine'⟨.inr rfl,rfl,_,[],.tmp rfl .nil,bZ _,⟨rfl,rfl,rfl⟩⟩
end
theorem A5{x y j k:Nat}(U:(ap x).length<=j)(aF:(ap y).length<=k):(ap (x*y)).length<=j+k:=by
 refine l9 ?_;rw[Lr];exact SR (ur U) (zj (ur aF)) (zm (by decide))
theorem Z2{x y k:Nat}(U:(ap x).length<=k)(aF:(ap y).length<=k):(ap (x+y)).length<=k+1:=by
 refine l9 ?_;have aa:=ur U;have ab:=ur aF;rw[mu];omega
theorem de.BT{k:IntKind}{J ae:an}{v:Value}{l l':List Nat}(h:de k J v l)(gB:de k ae v l')(hle:J.le ae):l=l':=by
 obtain⟨b,c,rfl⟩:=h.form;obtain⟨b',bw,e⟩:=gB.form;injection e with aC aZ cJ
 subst aC;by_cases ao:0<l.length
 ·obtain⟨a,off,cells,e,aa,ab,aY⟩:=h.dB ao
  obtain⟨bE,e0,cells',bk,C4,xD,WC⟩:=gB.dB (by omega);rw[aa] at C4;injection C4 with w
  injection w with bh cb
  subst bh;subst cb;rw[hle _ _ ab] at xD;injection xD with xD
  injection xD with bh cb
  subst bh;refine List.ext_getElem aZ fun i i1 i2=>?_;have aR:=aY i _ (eO i1);have aN:=WC i _ (eO i2);rw[aR] at aN;injection aN with aN
  injection aN with _ aN
  omega
 ·rw[pH (show l.length=0 by omega),pH (show l'.length=0 by omega)]
theorem dW.cU{J:an}{v:Value}{x:Nat}(h:dW J v x):∃b c,v=.slice b (ap x).length c/\addrEq b b=true:=by
 have h:de .u32 J v (ap x):=h;obtain⟨b,c,rfl⟩:=h.form;exact⟨b,c,rfl,h.addr⟩
theorem dW.BT{J ae:an}{v:Value}{x y:Nat}(h:dW J v x)(gB:dW ae v y)(hle:J.le ae):x=y:=by
 have e:ap x=ap y:=de.BT h gB hle;rw[<-g5 x,<-g5 y,e]
theorem dW.wK{J ae:an}{v w:Value}{x y:Nat}(h:dW J v x)(gB:dW ae w y)(hle:J.le ae)(e:v=w):x=y:=by subst e;exact h.BT gB hle
theorem kp.af{J pG:an}{x gN:Nat}(hle:pG.le J)(dT:gN=x){bU:aU}(hm:bU=[]):bU=[]/\pG.le J/\∀v m' bq dR,kp pG gN v m' bq->bq.le dR->J.le dR->kp J x v m' dR:=
 ⟨hm,hle,fun v m' bq dR ⟨_,ab,aY⟩ bu gI=>⟨gI,ab,dT▸aY.mono bu⟩⟩
abbrev kq(J:an)(r:cH):Value->aU->an->Prop:=fun u m' ae=>J.le ae/\m'=[]/\∃v1 v2,u=cO r v1 v2/\iD ae r v1 v2
theorem PL{z:Int}{d:Nat}(au:0<d):(aV z d).z.natAbs=z.natAbs / Nat.gcd z.natAbs d/\(aV z d).d=d / Nat.gcd z.natAbs d:=by
 obtain⟨g,e,q,aq,he,a0,Aj,_,aw,Ap⟩:=rT (z:=z) au;rw[aw,<-Ap];refine⟨?_,?_⟩
 ·rw[a0,jo,g8,Cp _ aq]
 ·rw[Aj,Cp _ aq]
theorem IM{J:an}{a:Nat}{e:TypeId}(h:J a=some ([.int .u32 1],e)):dW J (.slice (some ⟨a,0,none⟩) 1 1) 1:=by
 show de .u32 J _ (ap 1);rw[show ap 1=[1] by rw[A7 (by decide)];rfl];exact⟨e,.row h rfl rfl (fun _=>⟨c5 _,Bv⟩) (fun q=>absurd q (zk Bv))⟩
theorem ab3{a b:Int}{d e x y:Nat}{z:Int}(au:0<d)(he:0<e)(U:x=a.natAbs*e)(aF:y=b.natAbs*d)(a0:z=a*e+b*d):
 ((a<0↔b<0)->z.natAbs=x+y/\(z≠0->(a<0↔z<0)))/\(¬(a<0↔b<0)->(y<=x->z.natAbs=x -y/\(z≠0->(a<0↔z<0)))/\(x<y->z.natAbs=y -x/\(z≠0->(b<0↔z<0)))):=by
 have aa:(a*(e:Int)).natAbs=x:=by rw[jo,g8,U]
 have ab:(b*(d:Int)).natAbs=y:=by rw[jo,g8,aF]
 have s1:a<0↔a*(e:Int)<0:=⟨fun h=>wZ h (by omega),fun h=>by
  rcases r7 a 0 with q|q
  ·exact q
  ·have:=w1 q (show(0:Int)<=(e:Int) by omega);omega⟩
 have s2:b<0↔b*(d:Int)<0:=⟨fun h=>wZ h (by omega),fun h=>by
  rcases r7 b 0 with q|q
  ·exact q
  ·have:=w1 q (show(0:Int)<=(d:Int) by omega);omega⟩
 rw[s1,s2];generalize a*(e:Int)=X at*;generalize b*(d:Int)=Y at*;refine⟨fun h=>⟨by omega,fun aw=>by omega⟩,fun h=>⟨fun k=>⟨by omega,fun aw=>by omega⟩,fun k=>⟨by omega,fun aw=>by omega⟩⟩⟩
section
variable {Q:ek Tryz.prog}{g0:Nat}{J:an}
theorem yt{neg:Bool}{v w:Value}{z:Int}{n d:Nat}(au:0<d)(a0:z.natAbs=n)(Ob:z≠0->neg=decide (z<0))(aa:dW J v n)(ab:dW J w d)(fR:(ap n).length<=100)(fZ:(ap d).length<=100):Fn (aO Q g0) 27 [.bool neg,v,w] [] J (kq J (aV z d)):=by
 subst a0;have g3:de .u32 J v (ap z.natAbs):=aa;have hb:de .u32 J w (ap d):=ab;obtain⟨br,bn,rfl⟩:=g3.form;obtain⟨bN,bQ,rfl⟩:=hb.form;obtain⟨Aw,At⟩:=PL (z:=z) au;refine Fn.ck (ch Tryz.func27) rfl rfl fun H=>?_;refine rg ?_;refine' W.step rfl (.of (eS rfl rfl rfl (jY Q g0) rfl rfl rfl fun dY=>?_));refine bb ?_;refine aH ?_;refine I V.a' ?_;refine aD ?_;refine If (fun dq=>?_) fun dq=>?_
 ·have fe:z=0:=by
   rcases ly z.natAbs with q|q
   ·omega
   ·have:=qj (hD q);omega
  refine rg ?_;refine ja (iy Q g0) fun tB=>?_;refine W.dB rfl fun a8 l3=>?_;refine I V.jx ?_;refine eG ?_;refine aD ?_;refine ad.ret ?_;refine'⟨.inr rfl,rfl,_,[],.cell rfl (by repeat first|exact .head _|refine .tail _ ?_|refine d' _ ?_) (fb (dw rfl) rfl) (.nil),bZ _,?_⟩;first
   |(have c:=hv
     exact⟨a8.trans (bO.trans cL),rfl,.slice eU _ e2,.slice eP _ dU,by rw[Ob fe,<-oW.2 (Bq (z:=z) au).2.1];rfl,x7.mono cL,DE⟩)
   |exact⟨a8,rfl,.slice none 0 0,_,by rw[fe,mV au];rfl,by rw[fe,mV au];exact Eg,by rw[fe,mV au];exact IM l3⟩
 ·have fe:z≠0:=fun q=>by
   rw[q] at dq;rw[show(0:Int).natAbs=0 from rfl,kh] at dq;exact dq rfl
  have hv:0<z.natAbs:=by omega
  refine l8 ?_;refine aH ?_;refine b4 (G:=Gj aa ab fR fZ) (h:=?_);rintro v' m' bq hle ⟨a8,rfl,aq⟩;have sK:(ap (Nat.gcd z.natAbs d)).length<=100:=eh (v9 (Nat.gcd_le_left d hv)) fR;have Dl:Nat.gcd z.natAbs d≠0:=hD (sd _ au);refine I V.aI ?_;refine bb ?_;refine aH ?_;refine b4 (G:=Jr (aa.mono a8) aq Dl fR sK) (h:=?_);rintro v' m' dR hle ⟨bO,rfl,bh,cb,rfl,x7,gK⟩;rw[<-Aw] at x7;obtain⟨eU,e2,rfl,fm⟩:=x7.cU;refine aH ?_;refine bb ?_;refine aH ?_;refine b4 (G:=Jr ((ab.mono a8).mono bO) (aq.mono bO) Dl fZ sK) (h:=?_);rintro v' m' fV hle ⟨cL,rfl,dD,lS,rfl,DE,gT⟩;rw[<-At] at DE;obtain⟨eP,dU,rfl,ho⟩:=DE.cU;refine aH ?_;refine bb ?_;refine aH ?_;refine eG ?_;refine aD ?_;refine ad.ret ?_;refine'⟨.inr rfl,rfl,_,[],.cell rfl (by repeat first|exact .head _|refine .tail _ ?_|refine d' _ ?_) (fb (dw rfl) rfl) (.nil),bZ _,?_⟩;first
   |(have c:=hv
     exact⟨a8.trans (bO.trans cL),rfl,.slice eU _ e2,.slice eP _ dU,by rw[Ob fe,<-oW.2 (Bq (z:=z) au).2.1];rfl,x7.mono cL,DE⟩)
   |exact⟨a8,rfl,.slice none 0 0,_,by rw[fe,mV au];rfl,by rw[fe,mV au];exact Eg,by rw[fe,mV au];exact IM l3⟩
end
end
end Go.Opn

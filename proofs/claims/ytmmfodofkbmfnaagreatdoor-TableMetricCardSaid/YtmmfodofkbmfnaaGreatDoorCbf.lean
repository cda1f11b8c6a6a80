/- A part of the proof of TableMetric. -/
import Derived.Test.YtmmfodofkbmfnaaGreatDoorCbe
set_option maxRecDepth 100000
set_option maxHeartbeats 8000000
set_option linter.unusedVariables false
set_option linter.unusedSimpArgs false
namespace Go.Opn
noncomputable section
open Go.Cre Go.RowKit Go.Proofs
theorem pM{X d:Nat}(ax:0<d):¬(a9 (X:Int) d).z<0:=fun h=>by
 have:=(zB (z:=(X:Int)) ax).2.1.1 h;omega
theorem oH{X:Int}{d B:Nat}(ax:0<d)(U:X.natAbs<=B)(ab:d<=B):(a9 X d).z.natAbs<=B/\(a9 X d).d<=B:=⟨ej (Gm ax).1 U,ej (Gm ax).2 ab⟩
theorem Y6{l:List Nat}{i x:Nat}(h:l[i]?=some x):(l.take (i+1)).sum=(l.take i).sum+x:=by
 rw[xA,h];simp
theorem G2{l:List Nat}:∀{i:Nat},(l.take i).sum<=l.sum:=by
 induction l with
 |nil=>intro i;simp
 |cons a l aN=>
  intro i;cases i with
  |zero=>simp
  |succ i=>rw[List.take_succ_cons,ta,ta];have:=aN (i:=i);omega
section
variable {Q:eF Tryz.prog}{g0:Nat}{J:an}
theorem It{r s:cv}{x y:Bool}{v1 v2 bc b6:Value}(j:x=decide (r.z<0))(aC:y=decide (s.z<0))(ap:fE J r v1 v2)(ag:fE J s bc b6)(gR:r.fi)(cs:s.fi)(cJ:r.z.natAbs<=60000)(cW:r.d<=60000)(s1:s.z.natAbs<=60000)(s2:s.d<=60000):Fn (aS Q g0) 41 [.agg #[.bool x,v1,v2],.agg #[.bool y,bc,b6]] [] J (n2 J (a9 (r.z*s.d+s.z*r.d) (r.d*s.d))):=by
 subst j;subst aC;exact Is ap ag gR cs cJ cW s1 s2
theorem QX{r s:cv}{x:Bool}{v1 v2 bc b6:Value}(j:x=decide (r.z<0))(ap:fE J r v1 v2)(ag:fE J s bc b6)(gR:r.fi)(cs:s.fi)(sz:0<s.z)(cJ:r.z.natAbs<=60000)(cW:r.d<=60000)(s1:s.z.natAbs<=60000)(s2:s.d<=60000):Fn (aS Q g0) 44 [.agg #[.bool x,v1,v2],dF s bc b6] [] J (n2 J (a9 (r.z*s.d) (r.d*s.z.natAbs))):=by
 subst j;exact QW ap ag gR cs sz cJ cW s1 s2
theorem Zk{ps:List Nat}{s:Nat}{b:Option Addr}{c:Nat}(h:eO J 55 3 (m1 J) (.slice b ps.length c) (ps.map fun p:Nat=>a9 (p:Int) s))(ag:0<s)(lT:s<=60000)(ao:ps.sum<=60000)(aw:ps.length<=1000):
 Fn (aS Q g0) 37 [.slice b ps.length c] [] J (n2 J (a9 (ps.sum:Int) s)):=by
 have nK:addrEq b b=true:=h.addr;obtain⟨TX,iW⟩:=h.at;rw[jw] at iW;have mK:a9 ((0:Nat):Int) s=⟨0,1⟩:=pN ag;refine Fn.cH (cK Tryz.func37) rfl rfl fun H=>?_;refine rg ?_;refine' W.step rfl (.of (gN rfl rfl rfl (ly Q g0) rfl rfl rfl fun bS=>?_));refine bg ?_;refine' W.step rfl (.of (gN rfl rfl rfl (ly Q g0) rfl rfl rfl fun cE=>?_));refine bg ?_;refine aH ?_;refine aJ ?_;refine ad.block ?_;refine' ad.eZ (l':=[(8,.int .i64 ((0):Int)),(2,_),(3,_),(6,_),(7,_)]) ⟨?uX,rfl,rfl,rfl,rfl,trivial⟩ (cl _) ?_;case uX=>first|exact cu|exact ak some (ak (Value.int .u64) (by omega))|exact ak some (ak (Value.int .i64) (by omega))
 refine aM ?_;refine' ad.hN (fun(cT:Nat×Value×Value×an)=>match cT with|(i,bc,b6,fT)=>⟨[(8,.int .i64 (i:Int))],[(cE,.row [.bool false,bc,b6] 55),(bS,.row [.bool false,.slice none 0 0,.slice none 0 0] 55)],fT,i<=ps.length/\J.le fT/\fE fT (a9 (((ps.take i).sum:Nat):Int) s) bc b6,ps.length -i⟩) ⟨0,.slice none 0 0,.slice none 0 0,J⟩ ?ag ?b2
 case ag=>exact⟨fj _,an.le.refl _,by rw[kD,List.sum_nil,mK];exact⟨cn.nil,cn.nil⟩⟩
 case b2=>
  rintro⟨i,bc,b6,fT⟩ hinv;try simp only at hinv
  obtain⟨aq,fP,cg⟩:=hinv;have od:=cg;obtain⟨c5,ep,dj,rfl,bC,_,_⟩:=cg.n.bN;obtain⟨dM,fp,eg,rfl,dp,_,_⟩:=cg.d.bN;refine rg ?_;refine I V.bk ?_;refine aJ ?_;refine If (fun gQ=>?_) fun gQ=>?_
  ·obtain⟨a,off,cells,bl,rfl,kL,kN⟩:=iW (by omega);obtain⟨r,cs,ap,hK,yN,v1,v2,rfl,et⟩:=kN i (by omega) (by omega);rw[jW,mg] at ap;obtain⟨p,qM,rfl⟩:=xG.1 ap;have kL:=fP _ _ kL;have k6:=et.mono fP;obtain⟨bV,cV,bE,rfl,aQ,_,_⟩:=et.n.bN;obtain⟨b7,dn,b8,rfl,aP,_,_⟩:=et.d.bN;have dA:=Y6 qM;have Fw:=G2 (l:=ps) (i:=i+1);obtain⟨p1,p2⟩:=oH (X:=(((ps.take i).sum:Nat):Int)) (B:=60000) ag (by omega) lT;obtain⟨p3,u0⟩:=oH (X:=(p:Int)) (B:=60000) ag (by omega) lT;have nR:=pM (X:=(ps.take i).sum) ag;have z8:=pM (X:=p) ag;have Hp:=pM (X:=(ps.take (i+1)).sum) ag;have Hq:=Ma (X:=(((ps.take i).sum:Nat):Int)) (Y:=(p:Int)) ag;rw[<-Ap,<-dA] at Hq;refine fJ ?_;refine aM ?_;refine ad.block ?_;refine rg ?_;refine I V.bw ?_;refine I V.kQ ?_;refine' W.step rfl (.of (gN rfl rfl rfl (ly Q g0) rfl rfl rfl fun cO=>?_));refine fM ?_;refine bg ?_;refine I V.kQ ?_;refine I V.kQ ?_;refine cm (G:=It (by rw[gd nR]) rfl od k6 (jN ag) (jN ag) p1 p2 p3 u0) (h:=?_);rintro v' m' bO a' ⟨_,rfl,fa,fh,rfl,da⟩;rw[Hq] at da;have pr:=da;obtain⟨fF,hi,hb,rfl,gi,_,_⟩:=da.n.bN;obtain⟨gp,ed,e1,rfl,iO,_,_⟩:=da.d.bN;rw[Hq];refine fM ?_;refine bU ?_;rw[gd Hp];refine rg ?_;refine I V.bX ?_;refine I V.aT ?_;refine bU ?_;refine hO ⟨i+1,.slice fF hi hb,.slice gp ed e1,bO⟩ ?_ (hm:=.cons _ (.refl _));exact⟨by omega,fP.trans a',pr⟩
  ·obtain rfl:i=ps.length:=by omega
   rw[tb] at od;have nR:=pM (X:=ps.sum) ag;refine aM ?_;refine ad.exit ?_;refine rg ?_;refine I V.kQ ?_;refine fM ?_;refine aJ ?_;refine ad.ret ?_;refine'⟨.inr rfl,rfl,_,[],.cell rfl (by repeat first|exact .head _|refine .tail _ ?_|refine eU _ ?_) (gh (fs rfl) rfl) (.nil),b1 _,⟨fP,rfl,_,_,by rw[show dF (a9 (ps.sum:Int) s) (.slice c5 ep dj) (.slice dM fp eg)=.agg #[.bool (decide ((a9 (ps.sum:Int) s).z<0)),.slice c5 ep dj,.slice dM fp eg] from rfl,gd nR];rfl,od⟩⟩
end
theorem wI:∀{l:List Nat} {x:Nat},x∈l->x<=l.sum
 |a::l,x,h=>by
  rw[ta];rcases fy.1 h with rfl|h
  ·omega
  ·have:=wI h;omega
theorem N3{sa bQ:Nat}:∀{ps bb:List Nat} {i p q:Nat},ps[i]?=some p->bb[i]?=some q->c8 sa bQ (ps.take (i+1)) (bb.take (i+1))=c8 sa bQ (ps.take i) (bb.take i)+((p:Int)*bQ -(q:Int)*sa).natAbs
 |[],_,i,_,_,h,_=>by cases i<;>cases h
 |_::_,[],i,_,_,_,h=>by cases i<;>cases h
 |a::ps,b::bb,0,p,q,U,ab=>by
  injection U with U;injection ab with ab;subst U;subst ab
  show((a:Int)*bQ -(b:Int)*sa).natAbs+c8 sa bQ [] []=c8 sa bQ [] []+_;show _+0=0+_;omega
 |a::ps,b::bb,i+1,p,q,U,ab=>by
  have aN:=N3 (sa:=sa) (bQ:=bQ) (ps:=ps) (bb:=bb) (i:=i) U ab;show((a:Int)*bQ -(b:Int)*sa).natAbs+c8 sa bQ (ps.take (i+1)) (bb.take (i+1))=((a:Int)*bQ -(b:Int)*sa).natAbs+c8 sa bQ (ps.take i) (bb.take i)+_;rw[aN];omega
theorem Z4{sa bQ:Nat}{ps bb:List Nat}{i:Nat}:c8 sa bQ (ps.take i) (bb.take i)<=ps.sum*bQ+bb.sum*sa:=
 ej z5 (H4 (kf _ G2) (kf _ G2))
section
variable {Q:eF Tryz.prog}{g0:Nat}{J:an}
theorem ZY{ps bb:List Nat}{sa bQ:Nat}{b b':Option Addr}{c bo:Nat}(h:eO J 55 3 (m1 J) (.slice b ps.length c) (ps.map fun p:Nat=>a9 (p:Int) sa))(fO:eO J 55 3 (m1 J) (.slice b' bb.length bo) (bb.map fun p:Nat=>a9 (p:Int) bQ))(BK:0<sa)(wh:0<bQ)(aK:sa<=110)(af:bQ<=110)(ao:ps.sum=sa)(bY:bb.sum=bQ)(aw:ps.length<=1000)(mF:ps.length=bb.length):
 Fn (aS Q g0) 21 [.slice b ps.length c,.slice b' bb.length bo] [] J (n2 J (a9 (c8 sa bQ ps bb:Int) (sa*bQ*2))):=by
 have nK:addrEq b b=true:=h.addr;have XU:addrEq b' b'=true:=fO.addr;obtain⟨_,iW⟩:=h.at;obtain⟨_,Bp⟩:=fO.at;rw[jw] at iW Bp;have eb:0<sa*bQ:=gm BK wh;have Bh:sa*bQ<=12100:=ej (rH aK af) (by decide);have Eu:bQ*sa<=12100:=by rw[lD];exact Bh
 have mK:a9 ((0:Nat):Int) (sa*bQ)=⟨0,1⟩:=pN eb;have sm:∀i,c8 sa bQ (ps.take i) (bb.take i)<=24200:=fun i=>by
  have:=Z4 (sa:=sa) (bQ:=bQ) (ps:=ps) (bb:=bb) (i:=i);rw[ao,bY] at this;exact ej this (by omega)
 refine Fn.cH (cK Tryz.func21) rfl rfl fun H=>?_;refine rg ?_;refine' W.step rfl (.of (gN rfl rfl rfl (ly Q g0) rfl rfl rfl fun c4=>?_));refine bg ?_;refine' W.step rfl (.of (gN rfl rfl rfl (ly Q g0) rfl rfl rfl fun cO=>?_));refine bg ?_;refine aH ?_;refine aJ ?_;refine ad.block ?_;refine' ad.eZ (l':=[(10,.int .i64 ((0):Int)),(1,_),(4,_),(5,_),(8,_),(9,_)]) ⟨?z6,rfl,rfl,rfl,rfl,rfl,trivial⟩ (cl _) ?_;case z6=>first|exact cu|exact ak some (ak (Value.int .u64) (by omega))|exact ak some (ak (Value.int .i64) (by omega))
 refine aM ?_;refine' ad.hN (fun(cT:Nat×Value×Value×an)=>match cT with|(i,bc,b6,fT)=>⟨[(10,.int .i64 (i:Int))],[(cO,.row [.bool false,bc,b6] 55),(c4,.row [.bool false,.slice none 0 0,.slice none 0 0] 55)],fT,i<=ps.length/\J.le fT/\fE fT (a9 ((c8 sa bQ (ps.take i) (bb.take i):Nat):Int) (sa*bQ)) bc b6,ps.length -i⟩) ⟨0,.slice none 0 0,.slice none 0 0,J⟩ ?ag ?b2
 case ag=>exact⟨fj _,an.le.refl _,by rw[kD,kD];show fE J (a9 ((0:Nat):Int) (sa*bQ)) _ _;rw[mK];exact⟨cn.nil,cn.nil⟩⟩
 case b2=>
  rintro⟨i,bc,b6,fT⟩ hinv;try simp only at hinv
  obtain⟨aq,fP,cg⟩:=hinv;have od:=cg;obtain⟨c5,ep,dj,rfl,bC,_,_⟩:=cg.n.bN;obtain⟨dM,fp,eg,rfl,dp,_,_⟩:=cg.d.bN;refine rg ?_;refine I V.bk ?_;refine aJ ?_;refine If (fun qm=>?_) fun qm=>?_
  ·obtain⟨a,off,cells,bl,rfl,kL,kN⟩:=iW (by omega);obtain⟨r,cs,ap,hK,yN,v1,v2,rfl,et⟩:=kN i (by omega) (by omega);rw[jW,mg] at ap;obtain⟨p,qM,rfl⟩:=xG.1 ap;have kL:=fP _ _ kL;have k6:=et.mono fP;obtain⟨bV,cV,bE,rfl,aQ,_,_⟩:=et.n.bN;obtain⟨b7,dn,b8,rfl,aP,_,_⟩:=et.d.bN;obtain⟨bA,eB,cells',aW,rfl,EA,E0⟩:=Bp (by omega);obtain⟨cA,cb,wc,Tu,TU,acW,acX,rfl,tK⟩:=E0 i (by omega) (by omega);rw[jW,mg] at wc;obtain⟨q,KT,rfl⟩:=xG.1 wc;have EA:=fP _ _ EA;have S6:=tK.mono fP;obtain⟨fF,hi,hb,rfl,gi,_,_⟩:=tK.n.bN;obtain⟨gp,ed,e1,rfl,iO,_,_⟩:=tK.d.bN;have ov:=ej (wI (nZ qM)) (Nat.le_of_eq ao);have sg:=ej (wI (nZ KT)) (Nat.le_of_eq bY);have dA:=N3 (sa:=sa) (bQ:=bQ) qM KT;have ab6:=sm i;have ab7:=sm (i+1);have Kj:((p:Int)*bQ+-(q:Int)*sa).natAbs<=60000:=by
    rw[Aq,<-HL];omega
   obtain⟨fa,fh⟩:=oH (X:=(p:Int)) (B:=60000) BK (by omega) (by omega);obtain⟨uY,z7⟩:=oH (X:=(q:Int)) (B:=60000) wh (by omega) (by omega);obtain⟨CT,CU⟩:=oH (X:=(c8 sa bQ (ps.take i) (bb.take i):Int)) (B:=60000) eb (by omega) (by omega);obtain⟨aaf,aag⟩:=oH (X:=(((p:Int)*bQ+-(q:Int)*sa).natAbs:Int)) (B:=60000) eb (by omega) (by omega);have p1:=pM (X:=c8 sa bQ (ps.take i) (bb.take i)) eb;have p2:=pM (X:=c8 sa bQ (ps.take (i+1)) (bb.take (i+1))) eb;have p3:a9 ((a9 (p:Int) sa).z*(a9 (q:Int) bQ).d+-(a9 (q:Int) bQ).z*(a9 (p:Int) sa).d) ((a9 (p:Int) sa).d*(a9 (q:Int) bQ).d)=a9 ((p:Int)*bQ+-(q:Int)*sa) (sa*bQ):=by
    have a8:=Wu (X:=(q:Int)) wh;have a5:=Gl (X:=(p:Int)) (Y:=-(q:Int)) BK wh;rw[<-a8] at a5;exact a5
   have u0:=Ws (X:=(p:Int)*bQ+-(q:Int)*sa) eb;have nR:=Ma (X:=(c8 sa bQ (ps.take i) (bb.take i):Int)) (Y:=(((p:Int)*bQ+-(q:Int)*sa).natAbs:Int)) eb;have z8:(c8 sa bQ (ps.take i) (bb.take i):Int)+(((p:Int)*bQ+-(q:Int)*sa).natAbs:Int)=(c8 sa bQ (ps.take (i+1)) (bb.take (i+1)):Int):=by
    rw[dA,Ap,Aq,<-HL]
   rw[z8] at nR;have wk:ee 8 (.agg #[.bool false,.slice c5 ep dj,.slice dM fp eg]) (.agg #[.bool false,.slice c5 ep dj,.slice dM fp eg])=true:=by simp[ee,iU,bC,dp,n3]
   refine fJ ?_;refine aM ?_;refine ad.block ?_;refine rg ?_;refine I V.aT ?_;refine I V.bw ?_;refine I V.kQ ?_;refine' W.step rfl (.of (gN rfl rfl rfl (ly Q g0) rfl rfl rfl fun gE=>?_));refine I V.aI ?_;refine fM ?_;refine aJ ?_;refine ad.draw rfl (by kernel_rfl) (a6:=[.val 0,.val 1,.val 2,.val 3,.val 4,.val 5,.bZ 6,.cq [0],.bZ 7,.cq [0],.bZ 8,.bZ 9]) (by kernel_rfl) ?_;refine bd rfl V.kQ ?_;refine bd rfl V.kQ ?_;refine fX ?_;refine bd rfl V.bw ?_;refine bd rfl V.kQ ?_;refine dl rfl (G:=Y1 k6 S6 (jN BK) (jN wh) fa fh uY z7) (h:=?_);rintro v' m' bO a' ⟨_,rfl,dw,dZ,rfl,da⟩;rw[p3] at da;have tJ:=da;obtain⟨kG,nF,hJ,rfl,nJ,_,_⟩:=da.n.bN;obtain⟨lH,nG,jB,rfl,rb,_,_⟩:=da.d.bN;rw[p3];refine bR.cq eV ?_;refine dl rfl (G:=Pc tJ) (h:=?_);rintro v' m' ai hle ⟨rfl,rfl,rfl⟩;rw[u0];refine bR.cq eV ?_;refine dl rfl (G:=It (r:=a9 (c8 sa bQ (ps.take i) (bb.take i):Int) (sa*bQ)) (by rw[gd p1]) rfl (od.mono a') (s:=a9 (((p:Int)*bQ+-(q:Int)*sa).natAbs:Int) (sa*bQ)) (by rw[<-u0];exact⟨tJ.n,tJ.d⟩) (jN eb) (jN eb) CT CU aaf aag) (h:=?_);rintro v' m' hG dc ⟨_,rfl,dw,dZ,rfl,r5⟩;rw[nR] at r5;have pr:=r5;obtain⟨m9,Cb,gQ,rfl,sO,_,_⟩:=r5.n.bN;obtain⟨qk,sB,dP,rfl,sN,_,_⟩:=r5.d.bN;rw[nR];refine oZ rfl ?_;refine bR.nil ?_;rw[gd p2];refine rg ?_;refine I V.bX ?_;refine I V.aT ?_;refine bU ?_;refine hO ⟨i+1,.slice m9 Cb gQ,.slice qk sB dP,hG⟩ ?_ (hm:=.cons _ (.refl _));exact⟨by omega,((fP.trans a').trans dc),pr⟩
  ·obtain rfl:i=ps.length:=by omega
   have UL:=sm ps.length;rw[tb,show bb.take ps.length=bb from jY (by omega)] at od UL;have nR:=pM (X:=c8 sa bQ ps bb) eb;obtain⟨CT,CU⟩:=oH (X:=(c8 sa bQ ps bb:Int)) (B:=60000) eb (by omega) (by omega);have wk:ee 8 (.agg #[.bool false,.slice c5 ep dj,.slice dM fp eg]) (.agg #[.bool false,.slice c5 ep dj,.slice dM fp eg])=true:=by simp[ee,iU,bC,dp,n3]
   refine aM ?_;refine ad.exit ?_;refine aM ?_;refine ad.draw rfl (by kernel_rfl) (a6:=[.val 0,.bZ 1,.cq [0],.bZ 2,.bZ 3]) (by kernel_rfl) ?_;refine bd rfl V.kQ ?_;refine dl rfl (G:=Lf (n:=2) (by decide) (by decide)) (h:=?_);rintro v' m' bO a' ⟨_,rfl,dw,dZ,rfl,da⟩;have tJ:=da;obtain⟨kG,nF,hJ,rfl,nJ,_,_⟩:=da.n.bN;obtain⟨lH,nG,jB,rfl,rb,_,_⟩:=da.d.bN;refine bR.cq eV ?_;refine dl rfl (G:=QX (r:=a9 (c8 sa bQ ps bb:Int) (sa*bQ)) (by rw[gd nR]) (od.mono a') tJ (jN eb) ⟨by decide,by decide⟩ (by decide) CT CU (by decide) (by decide)) (h:=?_);rintro v' m' eL bW ⟨_,rfl,dw,dZ,rfl,r5⟩;have pr:=r5;obtain⟨m9,Cb,gQ,rfl,sO,_,_⟩:=r5.n.bN;obtain⟨qk,sB,dP,rfl,sN,_,_⟩:=r5.d.bN;refine oZ rfl ?_;refine bR.nil ?_;refine aM ?_;refine ad.ret ?_;refine'⟨.inr rfl,rfl,_,[],.cell rfl (by repeat first|exact .head _|refine .tail _ ?_|refine eU _ ?_) (gh (fs rfl) rfl) (.nil),b1 _,?_⟩;have e:a9 ((a9 (c8 sa bQ ps bb:Int) (sa*bQ)).z*((1:Nat):Int)) ((a9 (c8 sa bQ ps bb:Int) (sa*bQ)).d*2)=a9 (c8 sa bQ ps bb:Int) (sa*bQ*2):=Wt eb;exact⟨(fP.trans a').trans bW,rfl,_,_,yi e,pr.cast e⟩
end
section
variable {K:di}{B:c6}{o:Oper}{n:Nat}{ds:dL}{l:List (Nat×Value)}{m:aU}{J:an}
theorem ZQ{t dq:TypeId}{x y:Operand}{k:IntKind}{a b:Int}(ae:o.op=.binOp .or t x y dq)(j:bB l x=some (.int k a))(aC:bB l y=some (.int k b)):ch K B o n ds l m J (.int k (k.wrap (BitVec.ofInt k.bits a ||| BitVec.ofInt k.bits b).toNat)):=by
 intro call az S H al au;unfold cc eh;simp only[ae];show ja K.P _ .or t (aR S.T H x) (aR S.T H y)=_;rw[cX al H j,cX al H aC];show(bif kr k k then h1 H k a b _ .or else _)=_;rw[wD,bH];have key:ek K.P S.T H o=some (.val (.int k (k.wrap (BitVec.ofInt k.bits a ||| BitVec.ofInt k.bits b).toNat)) H):=by
  refine lk al (by rw[ae];rfl) j aC rfl rfl ?_ rfl;unfold execOp;simp only[ae];rw[gx al H j,gx al H aC];have ar:en K.P (eqGuard .or t x y (.int k a) (.int k b))=some ():=rfl;have j5:binOp .or t (.int k a) (.int k b)=pure (.int k (k.wrap (BitVec.ofInt k.bits a ||| BitVec.ofInt k.bits b).toNat)):=by simp[binOp,Op.intBits]
  rw[eW (a:=.int k (k.wrap (BitVec.ofInt k.bits a ||| BitVec.ofInt k.bits b).toNat))]
  ·rfl
  rw[eW ar,j5];rfl
 exact(show h1 H k a b _ .or=_ from key)
theorem ZS{t dq:TypeId}{x y:Operand}{k a5:IntKind}{a b:Int}(ae:o.op=.binOp .shl t x y dq)(j:bB l x=some (.int k a))(aC:bB l y=some (.int a5 b))(tX:kr k a5=false)(a2:0<=b)(U:b<=k.bits):ch K B o n ds l m J (.int k (k.wrap (a*2 ^ b.toNat))):=by
 intro call az S H al au;unfold cc eh;simp only[ae];show ja K.P _ .shl t (aR S.T H x) (aR S.T H y)=_;rw[cX al H j,cX al H aC];show(bif kr k a5 then h1 H k a b _ .shl else _)=_;rw[tX,cZ];have key:ek K.P S.T H o=some (.val (.int k (k.wrap (a*2 ^ b.toNat))) H):=by
  refine lk al (by rw[ae];rfl) j aC rfl rfl ?_ rfl;unfold execOp;simp only[ae];rw[gx al H j,gx al H aC];have ar:en K.P (eqGuard .shl t x y (.int k a) (.int a5 b))=some ():=rfl;have j5:binOp .shl t (.int k a) (.int a5 b)=pure (.int k (k.wrap (a*2 ^ b.toNat))):=by
   simp[binOp,Op.shift,show ¬b<0 by omega,h5 (show b.toNat<=k.bits by omega)]
  rw[eW (a:=.int k (k.wrap (a*2 ^ b.toNat)))]
  ·rfl
  rw[eW ar,j5];rfl
 show orElse (ek K.P S.T H o) _=_;rw[key];rfl
theorem NJ{t dq:TypeId}{x y:Operand}{k a5:IntKind}{a b:Int}(ae:o.op=.binOp .shr t x y dq)(j:bB l x=some (.int k a))(aC:bB l y=some (.int a5 b))(tX:kr k a5=false)(a2:0<=b)(U:b<=k.bits):ch K B o n ds l m J (.int k (a.fdiv (2 ^ b.toNat))):=by
 intro call az S H al au;unfold cc eh;simp only[ae];show ja K.P _ .shr t (aR S.T H x) (aR S.T H y)=_;rw[cX al H j,cX al H aC];show(bif kr k a5 then h1 H k a b _ .shr else _)=_;rw[tX,cZ];have key:ek K.P S.T H o=some (.val (.int k (a.fdiv (2 ^ b.toNat))) H):=by
  refine lk al (by rw[ae];rfl) j aC rfl rfl ?_ rfl;unfold execOp;simp only[ae];rw[gx al H j,gx al H aC];have ar:en K.P (eqGuard .shr t x y (.int k a) (.int a5 b))=some ():=rfl;have j5:binOp .shr t (.int k a) (.int a5 b)=pure (.int k (a.fdiv (2 ^ b.toNat))):=by
   simp[binOp,Op.shift,show ¬b<0 by omega,h5 (show b.toNat<=k.bits by omega)]
  rw[eW (a:=.int k (a.fdiv (2 ^ b.toNat)))]
  ·rfl
  rw[eW ar,j5];rfl
 show orElse (ek K.P S.T H o) _=_;rw[key];rfl
end
def ls:List Nat:=[0,1,56,2,57,49,28,3,61,58,42,50,38,29,17,4,62,47,59,36,45,43,51,22,53,39,33,30,24,18,12,5,63,55,48,27,60,41,37,16,46,35,44,21,52,32,23,11,54,26,40,15,34,20,31,10,25,14,19,9,13,8,7,6]
def zh(x:Nat):Nat:=(((x &&& (18446744073709551616 -x))*285870213051353865) % 18446744073709551616) / 288230376151711744
def pZ(x:Nat):Nat:=ls.getD (zh x) 0
def ku(x:Nat):Nat:=x / 2 ^ pZ x
theorem w':∀x,x<128->x≠0->zh x<64/\ls[zh x]?=some (pZ x)/\pZ x<=6/\x=2 ^ pZ x*ku x/\ku x % 2=1/\(x % 2=1->pZ x=0):=by decide+kernel
theorem Zo:∀x:Nat,x<128->x≠0->(IntKind.u64.wrap (IntKind.u64.wrap ((BitVec.ofInt IntKind.u64.bits (x:Int) &&& BitVec.ofInt IntKind.u64.bits ((18446744073709551616 -x:Nat):Int)).toNat:Int)*285870213051353865)).fdiv (2 ^ ((58:Int).toNat))=((zh x:Nat):Int):=by decide+kernel
theorem Wh{x:Nat}(a2:x≠0)(h:x<128):IntKind.u64.wrap (-(x:Int))=((18446744073709551616 -x:Nat):Int):=by
 unfold IntKind.wrap IntKind.signed IntKind.bits;simp only[Ai,Aj,zd];omega
theorem Xg{x y:Nat}(j:x<128)(aC:y<128):IntKind.u64.wrap ((BitVec.ofInt IntKind.u64.bits (x:Int) ||| BitVec.ofInt IntKind.u64.bits (y:Int)).toNat:Int)=((x ||| y:Nat):Int)/\x ||| y<128:=by
 have ab:x ||| y<2 ^ 7:=Nat.or_lt_two_pow (by omega) (by omega)
 have U:(BitVec.ofInt 64 (x:Int) ||| BitVec.ofInt 64 (y:Int)).toNat=x ||| y:=by
  rw[BitVec.toNat_or,BitVec.toNat_ofInt,BitVec.toNat_ofInt];congr 1<;>omega
 refine⟨?_,ab⟩;show IntKind.u64.wrap ((BitVec.ofInt 64 (x:Int) ||| BitVec.ofInt 64 (y:Int)).toNat:Int)=_;rw[U];exact wrap_u64 (by omega) (by omega)
theorem Xh{x y:Nat}(j:x<128)(aC:y<128)(h:x % 2=1\/y % 2=1):(x ||| y) % 2=1:=by
 have:(x ||| y) % 2=(x % 2) ||| (y % 2):=by
  have:=Nat.or_mod_two_pow (a:=x) (b:=y) (n:=1);simpa using this
 rw[this];rcases h with h|h
 ·rw[h];rcases Dc y with k|k<;>simp[k]
 ·rw[h];rcases Dc x with k|k<;>simp[k]
theorem Sq{a x:Nat}(aK:a % 2=1)(j:x<128)(gC:x≠0):Nat.gcd a (ku x)=Nat.gcd a x:=by
 obtain⟨_,_,_,h,_⟩:=w' x j gC;have aF:Nat.Coprime a (2 ^ pZ x):=Nat.Coprime.pow_right _ (by
  show Nat.gcd a 2=1;rw[o4,Ay,aK];rfl)
 conv=>rhs;rw[h]
 exact(Nat.Coprime.gcd_mul_left_cancel_right _ aF.symm).symm
theorem Md{x:Nat}:ku x<=x:=ve _ _
theorem Me{x:Nat}(j:x<128)(gC:x≠0):ku x≠0:=fun h=>by
 have:=(w' x j gC).2.2.2.2.1;rw[h] at this;cases this
theorem Nc{x:Nat}:(x:Int).fdiv (2 ^ (((pZ x:Nat):Int)).toNat)=((ku x:Nat):Int):=by
 rw[jW];exact Nb
section
variable {Q:eF Tryz.prog}{g0:Nat}{J:an}
theorem G6{x:Nat}{e:TypeId}(cw:J 2=some (cj .u8 ls,e))(ar:Nat.blt 2 (aS Q g0).g0=true)(gC:x≠0)(j:x<128):Fn (aS Q g0) 108 [.int .u64 (x:Int)] [] J (fun u m' ai=>u=.int .i64 ((pZ x:Nat):Int)/\m'=[]/\J=ai):=by
 obtain⟨U,ab,aV,_⟩:=w' x j gC;have aE:nth (cj .u8 ls) (0+((zh x:Nat):Int).toNat*1)=some (.int .u8 ((pZ x:Nat):Int)):=ux ab (by omega);refine Fn.cH (cK Tryz.func108) rfl rfl fun H=>?_;refine rg ?_;refine I V.aI ?_;refine bg ?_;refine I V.aT ?_;refine I V.bk ?_;refine aJ ?_;refine If (fun eg=>?_) fun eg=>?_
 ·exfalso;omega
 ·refine aM ?_;refine ad.skip ?_;refine rg ?_;refine aH ?_;refine' W.step rfl (Exec.val rfl rfl (CQ rfl rfl ?hw) ?_);case hw=>exact Wh gC j
  refine' W.step rfl (Exec.val rfl rfl (CO rfl rfl rfl) ?_);refine I V.bX ?_;refine' W.step rfl (Exec.val rfl rfl (xa rfl rfl rfl rfl ?a2 ?U) ?_);case a2=>exact cQ
  case U=>first|decide|exact cQ|exact(show _<=((64:Nat):Int) from(by omega))
  rw[Zo x j gC];refine' W.step rfl (Exec.val rfl rfl (ZG rfl ?ar ?gT rfl (Np rfl) ?a2 ?U) ?_);case gT=>assumption
  case ar=>assumption
  case a2=>exact cQ
  case U=>exact cQ
  refine I V.ec ?_;refine I V.gb ?_;refine I V.aI ?_;refine aJ ?_;refine ad.ret ?_;refine'⟨.inr rfl,rfl,_,[],.tmp rfl .nil,b1 _,⟨rfl,rfl,rfl⟩⟩
theorem PE{x y:Nat}{e:TypeId}(cw:J 2=some (cj .u8 ls,e))(ar:Nat.blt 2 (aS Q g0).g0=true)(j:x<128)(aC:y<128)(aF:Nat.gcd x y=1):Fn (aS Q g0) 84 [.int .u64 (x:Int),.int .u64 (y:Int)] [] J (fun u m' ai=>u=.int .u64 1/\m'=[]/\J=ai):=by
 refine Fn.cH (cK Tryz.func84) rfl rfl fun H=>?_;refine rg ?_;refine I V.aI ?_;refine bg ?_;refine I V.aT ?_;refine I V.bk ?_;refine aJ ?_;refine If (fun hJ=>?_) fun hJ=>?_
 ·have e7:x=0:=by omega
  have FP:y=1:=by rw[e7,Nat.gcd_zero_left] at aF;exact aF
  refine rg ?_;refine aH ?_;refine aJ ?_;refine ad.ret ?_;refine'⟨.inr rfl,rfl,_,[],.tmp rfl .nil,b1 _,?_⟩;first
   |(have c:=hJ;exact⟨by rw[FP];rfl,rfl,rfl⟩)
   |exact⟨by rw[EI];rfl,rfl,rfl⟩
 ·have e7:x≠0:=by omega
  refine lf ?_;refine I V.aT ?_;refine I V.bk ?_;refine aJ ?_;refine If (fun dP=>?_) fun dP=>?_
  ·have hh:y=0:=by omega
   have lU:x=1:=by rw[hh,tf] at aF;exact aF
   refine rg ?_;refine aH ?_;refine aJ ?_;refine ad.ret ?_;refine'⟨.inr rfl,rfl,_,[],.tmp rfl .nil,b1 _,?_⟩;first
    |(have c:=hJ;exact⟨by rw[FP];rfl,rfl,rfl⟩)
    |(have c:=dP;exact⟨by rw[lU];rfl,rfl,rfl⟩)
    |exact⟨by rw[EI];rfl,rfl,rfl⟩
  ·have hh:y≠0:=by omega
   obtain⟨T4,BE⟩:=Xg j aC;have T5:x % 2=1\/y % 2=1:=by
    rcases Dc x with k|k
    ·rcases Dc y with aa|aa
     ·have:=Nat.dvd_gcd (OW k) (OW aa)
      rw[aF] at this;have:=Nat.le_of_dvd (by decide) this;omega
     ·exact .inr aa
    ·exact .inl k
   have Fg:=Xh j aC T5;have KM:x ||| y≠0:=fun k=>by rw[k] at Fg;cases Fg
   have UC:=(w' _ BE KM).2.2.2.2.2 Fg;obtain⟨_,_,acm,Vy,Vz,_⟩:=w' x j e7;have acn:=Md (x:=x);have aco:=Me j e7;refine lf ?_;refine aH ?_;refine' W.step rfl (Exec.val rfl rfl (ZQ rfl rfl rfl) ?_);rw[T4];refine cm (G:=G6 cw ar KM BE) (h:=?_);rintro v' m' ai hle ⟨rfl,rfl,rfl⟩;rw[UC];refine I V.aI ?_;refine bg ?_;refine aH ?_;refine cm (G:=G6 cw ar e7 j) (h:=?_);rintro v' m' ai hle ⟨rfl,rfl,rfl⟩;refine' W.step rfl (Exec.val rfl rfl (NJ rfl rfl rfl rfl ?a2 ?U) ?_);case a2=>exact cQ
   case U=>first|decide|exact cQ|exact(show _<=((64:Nat):Int) from(by omega))
   refine I V.aI ?_;refine bU ?_;rw[Nc];refine aM ?_;refine ad.block ?_;refine' ad.eZ (l':=[(0,.int .u64 ((ku x):Int)),(1,.int .u64 ((y):Int)),(5,_)]) ⟨?w0,?bc,rfl,trivial⟩ (cl _) ?_;case w0=>first|exact cu|exact ak some (ak (Value.int .u64) (by omega))|exact ak some (ak (Value.int .i64) (by omega))
   case bc=>first|exact cu|exact ak some (ak (Value.int .u64) (by omega))|exact ak some (ak (Value.int .i64) (by omega))
   refine aM ?_;refine' ad.l2 (α:=(Nat)×(Nat)) (fun(cT:(Nat)×(Nat))=>match cT with|(a,b)=>[(0,.int .u64 (a:Int)),(1,.int .u64 (b:Int))]) (fun(cT:(Nat)×(Nat))=>match cT with|(a,b)=>a % 2=1/\a<128/\b<128/\Nat.gcd a b=1) (fun(cT:(Nat)×(Nat))=>match cT with|(a,b)=>a+b) ⟨ku x,y⟩ ?ag ?b2
   case ag=>exact⟨Vz,by omega,aC,H2 ⟨2 ^ pZ x,by rw[lD];exact Vy⟩ aF⟩
   case b2=>
    rintro⟨a,b⟩ hinv;try simp only at hinv
    obtain⟨aK,abJ,jn,yB⟩:=hinv;refine rg ?_;refine I V.aT ?_;refine I V.bk ?_;refine aJ ?_;refine If (fun qp=>?_) fun qp=>?_
    ·have gf:b≠0:=by omega
     obtain⟨_,_,aci,_,Vh,_⟩:=w' b jn gf;have acj:=Md (x:=b);have ack:=Me jn gf;have Kg:Nat.gcd a (ku b)=1:=by rw[Sq aK jn gf];exact yB
     have eu:ku b<=a->Nat.gcd (ku b) (a -ku b)=1:=fun h=>by
        rw[OY h,o4];exact Kg
     have eX:a<=ku b->Nat.gcd a (ku b -a)=1:=fun h=>by
        rw[OY h];exact Kg
     refine fJ ?_;refine aM ?_;refine ad.block ?_;refine rg ?_;refine aH ?_;refine cm (G:=G6 cw ar gf jn) (h:=?_);rintro v' m' ai hle ⟨rfl,rfl,rfl⟩;refine' W.step rfl (Exec.val rfl rfl (NJ rfl rfl rfl rfl ?a2 ?U) ?_);case a2=>exact cQ
     case U=>first|decide|exact cQ|exact(show _<=((64:Nat):Int) from(by omega))
     refine I V.aI ?_;refine bU ?_;rw[Nc];refine rg ?_;refine aH ?_;refine I V.bk ?_;refine aJ ?_;refine If (fun DF=>?_) fun DF=>?_
     ·refine rg ?_;refine aH ?_;refine bg ?_;refine aH ?_;refine I V.bX ?_;refine I V.aI ?_;refine bU ?_;refine'⟨⟨ku b,a -ku b⟩,_,?hinv,?g5,rfl,⟨?dK,?cM,rfl,trivial⟩,cl _,rfl⟩;case dK=>first|exact cu|exact ak some (ak (Value.int .u64) (by omega))|exact ak some (ak (Value.int .i64) (by omega))
      case cM=>first|exact cu|exact ak some (ak (Value.int .u64) (by omega))|exact ak some (ak (Value.int .i64) (by omega))
      case g5=>exact cQ
      case hinv=>exact⟨Vh,by omega,by omega,eu (by omega)⟩
     ·refine aM ?_;refine ad.skip ?_;refine rg ?_;refine aH ?_;refine I V.bX ?_;refine I V.aI ?_;refine bU ?_;refine'⟨⟨a,ku b -a⟩,_,?hinv,?g5,rfl,⟨?dK,?cM,rfl,trivial⟩,cl _,rfl⟩;case dK=>first|exact cu|exact ak some (ak (Value.int .u64) (by omega))|exact ak some (ak (Value.int .i64) (by omega))
      case cM=>first|exact cu|exact ak some (ak (Value.int .u64) (by omega))|exact ak some (ak (Value.int .i64) (by omega))
      case g5=>exact cQ
      case hinv=>exact⟨aK,by omega,by omega,eX (by omega)⟩
    ·have gf:b=0:=by omega
     have EI:a=1:=by rw[gf,tf] at yB;exact yB
     refine aM ?_;refine ad.exit ?_;refine rg ?_;refine aH ?_;refine' W.step rfl (Exec.val rfl rfl (ZS rfl rfl rfl rfl ?a2 ?U) ?_);case a2=>exact cQ
     case U=>first|decide|exact cQ|exact(show _<=((64:Nat):Int) from(by omega))
     refine I V.aI ?_;refine aJ ?_;refine ad.ret ?_;refine'⟨.inr rfl,rfl,_,[],.tmp rfl .nil,b1 _,?_⟩;first
        |(have c:=hJ;exact⟨by rw[FP];rfl,rfl,rfl⟩)
        |(have c:=dP;exact⟨by rw[lU];rfl,rfl,rfl⟩)
        |exact⟨by rw[EI];rfl,rfl,rfl⟩
end
end
end Go.Opn

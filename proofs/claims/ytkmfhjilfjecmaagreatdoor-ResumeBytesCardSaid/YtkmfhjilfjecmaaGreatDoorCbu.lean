/- A part of the proof of ResumeBytes. -/
import Derived.Test.YtkmfhjilfjecmaaGreatDoorCbt
import Derived.Test.YtkmfhjilfjecmaaGreatDoorCbs
set_option maxRecDepth 100000
set_option maxHeartbeats 8000000
set_option linter.unusedVariables false
set_option linter.unusedSimpArgs false
namespace Go.Opn
noncomputable section
open Go.Cre Go.RowKit Go.Proofs
theorem fp.check{g:bq}{t:gI}{n:Nat}(h:fp g t.sum t.pl n)(au:kj g=0)(aP:n<=60000)(aa:0<=t.r)(ae:t.r<=1000000)(aF:0<=t.s)(bo:t.s<=2147483646):nH g t=0:=by
 unfold nH;rw[an (by simp[au])];exact h.valid aP aa ae aF bo
section
variable {Q:dD Tryz.prog}{g0:Nat}{J:aH}
open Classical in
theorem anT{g:bq}{t:gI}{aT aK bs ct:Option Addr}{aQ ci cs cE N:Nat}(hw:jg g)(aq:fH J g aT aQ aK ci)(aB:jj J t bs cs ct cE)(dd:fp g t.sum t.pl 0)(rK:kj g=0)(mZ:N<=30)(aw:t.r=0)(hs:0<=t.s)(jN:t.s<=2147483646):
 Fn (bd Q g0) 15 [hb g aT aQ aK ci,nu t bs cs ct cE,.int .i64 (N:Int)] [] J (fun u m' af=>J.le af/\m'=[]/\∃ek bs cs ct cE,u=.tuple #[nu ek bs cs ct cE,.int .i64 0]/\jj af ek bs cs ct cE/\fp g ek.sum ek.pl (225*N)/\ek.r=N/\ek.s=t.s):=by
 have fX:addrEq aK aK=true:=aq.i.addr;have gq:addrEq aT aT=true:=aq.n.addr;have ta:addrEq bs bs=true:=aB.s.addr;have zT:addrEq ct ct=true:=aB.p.addr;have i2:=hw.i2;obtain⟨Ms,Mt,CB,CC⟩:=dd.len hw;refine Fn.cH (cM Tryz.func15) rfl rfl fun H=>?_;refine rg ?_;refine dK fun a3=>?_;refine dK fun a4=>?_;refine' W.step rfl (.of (eT rfl rfl rfl (kY Q g0) rfl rfl rfl fun da=>?_));refine I V.az ?_;refine bi ?_;refine I V.gV ?_;refine I V.gV ?_;refine cl (G:=YV aq aB (by omega) (fun r aw=>by have:=CB r aw;omega) (by omega) (fun r aw=>by have:=CC r aw;omega)) (h:=?_);rintro v m' dO ch ⟨rfl,rfl,_⟩;refine I V.az ?_;refine bi ?_;refine I V.ag ?_;refine I V.aZ ?_;refine ns ?_;refine If (fun yW=>?_) fun yW=>?_
 ·exfalso;exact yW (dd.check rK (by omega) (by omega) (by omega) hs jN)
 ·refine aj ?_;refine ab.skip ?_;refine fR [2,3,4,6] ?_;refine aj ?_;refine' ab.hl 0 [(32,.bool (decide (((N:Int)<0\/20000<(N:Int)\/1000000<t.r+N))))] ?tF ?tI;case tF=>
   refine ab.region ?_;refine I V.ag ?_;refine I V.aZ ?_;refine I V.ag ?_;refine dr 22 (fun Ol=>?_) fun Ol=>?_
   ·refine ah ?_;refine ah ?_;refine I V.aU ?_;refine I V.ag ?_;refine ah ?_;refine ah ?_;refine ah ?_;refine ah ?_;refine ah ?_;refine I V.aU ?_;refine a6 ?_;refine'⟨⟨_,rfl,⟨?n32,rfl,rfl,rfl,rfl,trivial⟩⟩,bu _,rfl⟩;case n32=>first|exact iV rfl (by omega)|exact iT rfl (by omega)|exact iU rfl (by omega)
   ·refine aX V.ag ?_;refine aX V.aZ ?_;refine I V.aU ?_;refine I V.ag ?_;refine dr 26 (fun agB=>?_) fun agB=>?_
    ·refine ah ?_;refine ah ?_;refine ah ?_;refine ah ?_;refine ah ?_;refine I V.aU ?_;refine a6 ?_;refine'⟨⟨_,rfl,⟨?n32,rfl,rfl,rfl,rfl,trivial⟩⟩,bu _,rfl⟩;case n32=>first|exact iV rfl (by omega)|exact iT rfl (by omega)|exact iU rfl (by omega)
    ·refine aX V.ba ?_;refine aX V.bJ ?_;refine aX V.ag ?_;refine aX V.bt ?_;refine aX V.aZ ?_;refine I V.aU ?_;refine a6 ?_;refine'⟨⟨_,rfl,⟨?n32,rfl,rfl,rfl,rfl,trivial⟩⟩,bu _,rfl⟩;case n32=>first|exact iV rfl (by omega)|exact iT rfl (by omega)|exact iU rfl (by omega)
  case tI=>
   refine aj ?_;refine If (fun mV=>?_) fun mV=>?_
   ·exfalso;omega
   ·refine aj ?_;refine ab.skip ?_;refine aj ?_;refine ab.draw rfl (by kernel_rfl) (bc:=[.gk 9,.val 0,.val 1,.val 2,.val 3,.val 4,.val 6,.bR 5,.cA [6,3,2,1,0],.bR 7,.val 8,.cA [3,2,1,0],.bR 10]) (by kernel_rfl) ?_;refine a8.alloc rfl rfl rfl rfl rfl (kY Q g0) rfl rfl rfl fun a9=>?_;refine al rfl V.ba ?_;refine al rfl V.bJ ?_;refine al rfl V.ba ?_;refine al rfl V.bJ ?_;refine al rfl V.gV ?_;refine al rfl V.gV ?_;refine a8.IJ ?_;refine' ga.yZ rfl rfl rfl rfl rfl rfl rfl rfl rfl (fun x U=>by cases U) Am (Ft hw (aq.mono ch)) ?_;rintro v m' e2 cF ⟨_,gF,Gf,rfl,gT⟩;obtain⟨ez,hK,fi,rfl,uu⟩:=gT.len;refine ga.cA eX ?_;refine' ga.yZ rfl rfl rfl rfl rfl rfl rfl rfl rfl (fun x U=>by rcases e3.1 U with rfl|U;rfl;cases U) Am (Ft hw ((aq.mono ch).mono cF)) ?_;rintro v m' jV dU ⟨_,iP,Ge,rfl,ju⟩;obtain⟨fI,hJ,fA,rfl,us⟩:=ju.len;rw[wE] at uu us;refine ga.II (fun x U=>JH (f:=fun x=>(x.f,x.bT)) U) ?_;refine al rfl V.jl ?_;refine a8.cA eX ?_;refine kn rfl ?_;refine a8.nil ?_;have gT:=gT.mono dU;have xK:=ch.trans (cF.trans dU);have E5:addrEq ez ez=true:=by obtain⟨CJ,pA,_⟩:=gT;exact pA.addr
    have YS:addrEq fI fI=true:=by obtain⟨CJ,pA,_⟩:=ju;exact pA.addr
    refine ab.eC (m':=Gf++(Ge++[(a9,.row [.int .i64 (t.r),.int .i64 t.s,.slice ez hK fi,.slice fI hJ fA] 30),(da,.row [.int .i64 0,.int .i64 0,.slice none 0 0,.slice none 0 0] 30),(a4,.row (hI t bs cs ct cE) 30),dh a3 g aT aQ aK ci])) (h2:=[_,_]) YD ?_;refine rg ?_;refine I V.az ?_;refine ns ?_;refine ab.block ?_;refine' ab.c0 (l':=[(10,.int .i64 ((0):Int)),(2,_),(3,_),(4,_),(6,_),(9,_)]) ⟨?p1,rfl,rfl,rfl,rfl,rfl,trivial⟩ (bu _) ?_;case p1=>exact bP
    refine aj ?_;refine' ab.dF (fun(bC:Nat×(List (List Int))×aN×(List (List Int))×aN)=>match bC with|(i,q',kX,q8,wq)=>⟨[(10,.int .i64 (i:Int))],kX++(wq++[(a9,.row [.int .i64 (t.r),.int .i64 t.s,.slice ez hK fi,.slice fI hJ fA] 30),(da,.row [.int .i64 0,.int .i64 0,.slice none 0 0,.slice none 0 0] 30),(a4,.row (hI t bs cs ct cE) 30),dh a3 g aT aQ aK ci]),jV,i<=g.is.length/\fp g q' q8 0/\eQ iK jV 22 (.slice ez hK fi) q' kX/\eQ iK jV 22 (.slice fI hJ fA) q8 wq,g.is.length -i⟩) ⟨0,jE g,Gf,jE g,Ge⟩ ?hs ?bA
    case hs=>exact⟨cy _,fp.zero hw,gT,ju⟩
    case bA=>
     rintro⟨i,q',kX,q8,wq⟩ hinv;try simp only at hinv
     obtain⟨ao,ax,fj,iy⟩:=hinv;refine rg ?_;refine aM ?_;refine I V.bJ ?_;refine I V.bL ?_;refine I V.aZ ?_;refine ns ?_;refine If (fun acs=>?_) fun acs=>?_
     ·have Bf:=ax.1.1;have sI:=ax.2.1;obtain⟨wW,nn,Dr,DG,oK,l0,rfl,zg,lO,El,vU,xJ⟩:=fj.aW (i:=i) (by omega);obtain⟨yK,zJ,Gs,GG,sk,cN,rfl,Ha,pG,Ek,vT,xI⟩:=iy.aW (i:=i) (by omega);obtain⟨wX,x',NE,NW,nq,abW,NI,rfl,Hb,qs,HE,HN⟩:=qJ (aB.mono xK).s (i:=i) (by omega) (by omega);obtain⟨wY,ya,NF,NX,cO,abX,mW,rfl,OB,rN,K7,HO⟩:=qJ (aB.mono xK).p (i:=i) (by omega) (by omega);rw[cx] at qs rN;obtain⟨y,ai⟩:∃y,g.is[i]?=some y:=⟨_,dj (by omega)⟩;have aaD:=ax.1.2 i l0 y lO ai;have jU:=ax.2.2 i cN y pG ai;have jD:=dd.1.2 i nq y qs ai;have uS:=dd.2.2 i cO y rN ai;have R7:=hw.yL y (cb ai);have iL:nq.length=l0.length:=by omega
      have aL:cO.length=cN.length:=by omega
      have d0:(nq.map (Value.int .i64))≠[]:=fun q=>by have:=cD List.length q;simp at this;subst this;simp at jD;omega
      have d1:(cO.map (Value.int .i64))≠[]:=fun q=>by have:=cD List.length q;simp at this;subst this;simp at uS;omega
      rw[iL] at HE HN;rw[aL] at K7 HO;have hv:=xJ nq iL;have bl:=xI cO aL;refine c7 ?_;refine aj ?_;refine ab.block ?_;refine aj ?_;refine ab.draw rfl (by kernel_rfl) (bc:=[.val 0,.val 1,.val 2,.val 3,.val 4,.val 5,.val 6,.val 7,.val 8,.val 9,.bR 10]) (by kernel_rfl) ?_;refine al rfl V.ba ?_;refine al rfl V.bJ ?_;refine al rfl V.ag ?_;refine al rfl V.aW ?_;refine al rfl V.bJ ?_;refine al rfl V.ba ?_;refine al rfl V.bJ ?_;refine al rfl V.ag ?_;refine al rfl V.aW ?_;refine al rfl V.bJ ?_;refine' a8.fP rfl rfl (ME rfl rfl rfl rfl rfl rfl (e0 Q g0) ?U ?ca ?xP ?hs ?au ?_);case U=>exact HN.L6 iL
      case ca=>exact hf _
      case xP=>exact d0
      case au=>exact cQ.left hv.2
      case hs=>exact Mh (by simp only[lB];omega)
      refine a8.nil ?_;refine aj ?_;refine ab.draw rfl (by kernel_rfl) (bc:=[.val 0,.val 1,.val 2,.val 3,.val 4,.val 5,.val 6,.val 7,.val 8,.val 9,.bR 10]) (by kernel_rfl) ?_;refine al rfl V.ba ?_;refine al rfl V.bJ ?_;refine al rfl V.ag ?_;refine al rfl V.aW ?_;refine al rfl V.bJ ?_;refine al rfl V.ba ?_;refine al rfl V.bJ ?_;refine al rfl V.ag ?_;refine al rfl V.aW ?_;refine al rfl V.bJ ?_;refine' a8.fP rfl rfl (ME rfl rfl rfl rfl rfl rfl (e0 Q g0) ?U ?ca ?xP ?hs ?au ?_);case U=>exact HO.L6 aL
      case ca=>exact hf _
      case xP=>exact d1
      case au=>exact cQ.app (cQ.left bl.2)
      case hs=>exact Mh (by simp only[lB];omega)
      refine a8.nil ?_;refine rg ?_;refine I V.ag ?_;refine I V.bt ?_;refine I V.az ?_;refine a6 ?_;refine cB ⟨i+1,q'.set i nq,kX.set i (oK,.row (nq.map (Value.int .i64)) 3),q8.set i cO,wq.set i (sk,.row (cO.map (Value.int .i64)) 3)⟩ ?_;exact⟨by omega,⟨ax.1.L2 lO (by omega) jD.2,ax.2.L2 pG (by omega) uS.2⟩,hv.1,bl.1⟩
     ·refine aj ?_;refine ab.exit ?_;refine aj ?_;refine ab.block ?_;refine aj ?_;have BP:hK=q'.length/\hJ=q8.length:=⟨by rw[uu,ax.1.1],by rw[us,ax.2.1]⟩;refine fj.hQ (fun _ _ _ h=>h.ok) (.refl _) fun Ar lP xq=>?_;refine(iy.mono lP).hQ (fun _ _ _ h=>h.ok) (.refl _) fun k0 kQ xr=>?_;obtain⟨rfl,rfl⟩:=BP;have ng:=xK.trans (lP.trans kQ);have dn:jj k0 ⟨t.r,t.s,q',q8⟩ ez fi fI fA:=⟨xq.mono kQ fun _ _ q=>q.mono kQ,xr⟩;refine' ab.c0 (l':=[(2,.int .i64 ((N):Int)),(3,_),(6,_),(9,_)]) ⟨?hi,rfl,rfl,rfl,trivial⟩ (bu _) ?_;case hi=>exact bP
      refine aj ?_;refine' ab.dF (fun(bC:Nat×gI×(Option Addr)×Nat×(Option Addr)×Nat×aH)=>match bC with|(k,nD,b1,c1,b2,c2,dX)=>⟨[(2,.int .i64 (k:Int))],[(a9,.row (hI nD b1 c1 b2 c2) 30),(da,.row [.int .i64 0,.int .i64 0,.slice none 0 0,.slice none 0 0] 30),(a4,.row (hI t bs cs ct cE) 30),dh a3 g aT aQ aK ci],dX,k<=N/\k0.le dX/\jj dX nD b1 c1 b2 c2/\fp g nD.sum nD.pl (225*(N -k))/\nD.r+k=N/\nD.s=t.s,k⟩) ⟨N,⟨t.r,t.s,q',q8⟩,ez,fi,fI,fA,k0⟩ ?hs ?bA
      case hs=>exact⟨cW _,aH.le.refl _,dn,ax.wide (by omega),by simp[aw],rfl⟩
      case bA=>
       rintro⟨k,nD,b1,c1,b2,c2,dX⟩ hinv;try simp only at hinv
       obtain⟨aO,dp,dn,xp,pH,BI⟩:=hinv;refine rg ?_;refine I V.ag ?_;refine I V.aZ ?_;refine ns ?_;refine If (fun kq=>?_) fun kq=>?_
       ·have xL:=ng.trans dp;have bb:addrEq b1 b1=true:=dn.s.addr;have a7:addrEq b2 b2=true:=dn.p.addr;refine c7 ?_;refine aj ?_;refine ab.block ?_;refine rg ?_;refine I V.gV ?_;refine I V.gV ?_;refine cl (G:=amW hw (aq.mono xL) dn xp (by omega) (by omega) (by omega) (by omega) (by omega)) (h:=?_);rintro v m' As o2 ⟨_,rfl,JV,b3,c3,b4,p',rfl,ON,Ox,HP,P6⟩;refine aM ?_;refine' W.step rfl (.of (eT rfl rfl rfl (kY Q g0) rfl rfl rfl fun kL=>?_));refine dC ?_;refine I V.az ?_;refine bi ?_;refine I V.ag ?_;refine I V.aZ ?_;refine ns ?_;refine If (fun T0=>?_) fun T0=>?_
        ·exfalso;exact T0 rfl
        ·refine aj ?_;refine ab.skip ?_;refine rg ?_;refine I V.gV ?_;refine dC ?_;refine bi ?_;refine I V.ag ?_;refine I V.bt ?_;refine I V.az ?_;refine a6 ?_;refine cB ⟨k -1,JV,b3,c3,b4,p',As⟩ ?_ (hm:=.cons _ (.refl _));exact⟨by omega,dp.trans o2,ON,Ox.wide (by omega),by omega,by rw[P6];exact BI⟩
       ·obtain rfl:k=0:=by omega
        refine aj ?_;refine ab.exit ?_;refine rg ?_;refine I V.gV ?_;refine dC ?_;refine I V.az ?_;refine ns ?_;refine ab.ret ?_;refine'⟨.inr rfl,rfl,_,[],.cell rfl (by repeat first|exact .head _|refine .tail _ ?_|refine hT _ ?_) (mm (eW rfl) rfl) (.tmp rfl .nil),h5 _,⟨ng.trans dp,rfl,nD,b1,c1,b2,c2,rfl,dn,xp.wide (by omega),by omega,BI⟩⟩
end
open Classical in
theorem jz{α:Type}{l r:List α}(h:l.Perm r:=by rw[List.perm_iff_count];intro z;simp only[Au,List.count_cons,List.count_nil,k2,gj];omega):l.Perm r:=h
def oC(ir:List Int->Value->Nat×cC->Prop)(bL:List (List Int))(cells:List Value)(bs:aN):Prop:=cells.length=bL.length/\bs.length=bL.length/\∀(j:Nat) l w x,bL[j]?=some l->cells[j]?=some w->bs[j]?=some x->ir l w x
theorem oC.nil{ir:List Int->Value->Nat×cC->Prop}:oC ir [] [] []:=⟨rfl,rfl,fun j l w x h=>by cases h⟩
theorem oC.app{ir:List Int->Value->Nat×cC->Prop}{bL:List (List Int)}{cells:List Value}{bs:aN}{l:List Int}{w:Value}{x:Nat×cC}(h:oC ir bL cells bs)(U:ir l w x):oC ir (bL++[l]) (cells++[w]) (bs++[x]):=by
 obtain⟨aa,ae,aF⟩:=h;refine⟨by simp[aa],by simp[ae],fun j l' br dR g1 g2 g3=>?_⟩;rcases vD g1 with p|⟨dH,hP⟩
 ·have a':=eU p
  rw[k1 (by omega)] at g2 g3;exact aF j l' br dR p g2 g3
 ·rw[dH,<-aa,qh] at g2
  rw[dH,<-ae,qh] at g3;injection g2 with g2;injection g3 with g3
  rw[hP,<-g2,<-g3];exact U
theorem oC.take{ir:List Int->Value->Nat×cC->Prop}{bL:List (List Int)}{cells:List Value}{bs:aN}{i:Nat}{l:List Int}{w:Value}{x:Nat×cC}(h:oC ir (bL.take i) cells bs)(av:bL[i]?=some l)(U:ir l w x):oC ir (bL.take (i+1)) (cells++[w]) (bs++[x]):=by
 rw[nY,av];exact h.app U
theorem oC.d2{ir:List Int->Value->Nat×cC->Prop}{bL:List (List Int)}{cells:List Value}{bs:aN}{J:aH}{e:TypeId}{v:Value}(h:oC ir bL cells bs)(ay:hL J e 1 v bL.length cells):eQ ir J e v bL bs:=eQ.snoc ay h.2.2 h.2.1
theorem Acc.W8{w:Value}{k:Nat}{cells:List Value}{aY:aN}{r:List Int}(h:Acc 3 1 w k cells aY)(bE:z0 aY)(aP:mH aY)(aO:k=r.length)(aC:cells=r.map (Value.int .i64))(aa:1<=r.length):∃x,aY=[x]/\nx r w x:=by
 cases h with
 |nil=>omega
 |kt a=>omega
 |@opn a k cells rest z av BN=>
  have:z=0:=bE _ _ _ _ _ (.head _);subst this;subst aO;subst aC;exact⟨_,rfl,a,rest,rfl,rfl⟩
 |cap=>exact absurd (List.Mem.head _) (aP _ _ _)
theorem MJ:z0 []:=fun a c e r z h=>by cases h
theorem LF:mH []:=fun a c e h=>by cases h
section
variable {Q:dD Tryz.prog}{g0:Nat}{J:aH}
open Classical in
theorem Ym{t:gI}{bs ct:Option Addr}{cs cE:Nat}(aB:jj J t bs cs ct cE)(av:t.sum.length=t.pl.length)(Ov:t.sum.length<=60)(aa:∀r∈t.sum,1<=r.length/\r.length<=60)(ae:∀r∈t.pl,1<=r.length/\r.length<=60):
 Fn (bd Q g0) 36 [nu t bs cs ct cE] [] J (fun u m' af=>J.le af/\∃b1 fm c1 b2 z2 c2 s1 s2,fm=t.sum.length/\z2=t.pl.length/\u=.agg #[.int .i64 t.r,.int .i64 t.s,.slice b1 fm c1,.slice b2 z2 c2]/\m'=s1++s2/\eQ nx af 22 (.slice b1 fm c1) t.sum s1/\eQ nx af 22 (.slice b2 z2 c2) t.pl s2):=by
 have ta:addrEq bs bs=true:=aB.s.addr;have zT:addrEq ct ct=true:=aB.p.addr;refine Fn.cH (cM Tryz.func36) rfl rfl fun H=>?_;refine rg ?_;refine dK fun bm=>?_;refine' W.step rfl (.of (eT rfl rfl rfl (kY Q g0) rfl rfl rfl fun a2=>?_));refine bi ?_;refine I V.ba ?_;refine I V.bJ ?_;refine I V.ba ?_;refine I V.bJ ?_;refine I V.jl ?_;refine' W.step rfl (.of (eT rfl rfl rfl (kY Q g0) rfl rfl rfl fun a3=>?_));refine dC ?_;refine bi ?_;refine I V.az ?_;refine ns ?_;refine ab.block ?_;refine' ab.c0 (l':=[(4,.int .i64 ((0):Int)),(1,_),(2,_),(3,_)]) ⟨?j4,rfl,rfl,rfl,trivial⟩ (bu _) ?_;case j4=>exact bP
 refine aj ?_;refine' ab.dF (fun(bC:Nat×Value×(List Value)×aN×aN×Value×(List Value)×aN×aN)=>match bC with|(i,v1,d1,m1,s1,v2,d2,m2,s2)=>⟨[(4,.int .i64 (i:Int))],m1++(m2++(s1++(s2++[(a3,.row [.int .i64 t.r,.int .i64 t.s,v1,v2] 30),(a2,.row [.int .i64 0,.int .i64 0,.slice none 0 0,.slice none 0 0] 30),(bm,.row (hI t bs cs ct cE) 30)]))),J,i<=t.sum.length/\Acc 22 1 v1 i d1 m1/\Acc 22 1 v2 i d2 m2/\oC nx (t.sum.take i) d1 s1/\oC nx (t.pl.take i) d2 s2,t.sum.length -i⟩) ⟨0,.slice none 0 0,[],[],[],.slice none 0 0,[],[],[]⟩ ?hs ?bA
 case hs=>exact⟨cy _,.nil,.nil,oC.nil,oC.nil⟩
 case bA=>
  rintro⟨i,v1,d1,m1,s1,v2,d2,m2,s2⟩ hinv;try simp only at hinv
  obtain⟨ao,Vk,Vl,Ow,xp⟩:=hinv;obtain⟨Nj,NM,rfl,auS⟩:=Vk.iN;obtain⟨w4,xb,rfl,anl⟩:=Vl.iN;refine rg ?_;refine aM ?_;refine I V.bJ ?_;refine I V.bL ?_;refine I V.aZ ?_;refine ns ?_;refine If (fun lF=>?_) fun lF=>?_
  ·obtain⟨wX,x',NE,NW,r,jn,ks,rfl,Hb,aw,HE,oi⟩:=qJ aB.s (i:=i) (by omega) (by omega);obtain⟨wY,ya,NF,NX,q,arf,Un,rfl,OB,c8,K7,aju⟩:=qJ aB.p (i:=i) (by omega) (by omega);rw[cx] at aw c8;have rN:=aa r (cb aw);have BC:=ae q (cb c8);have sL:=Acc.kt (e:=3) (sz:=1);refine c7 ?_;refine aj ?_;refine ab.block ?_;refine aj ?_;refine ab.draw rfl (by kernel_rfl) (bc:=[.gk 2,.val 0,.val 1,.val 3,.val 4,.val 5,.val 6,.val 7,.bR 8,.gk 9,.cA [1,0],.bR 10,.val 11,.bR 12]) (by kernel_rfl) ?_;refine a8.buildSlice rfl rfl rfl rfl rfl rfl (e0 Q g0) rfl rfl rfl fun k6=>?_;refine al rfl V.ba ?_;refine al rfl V.bJ ?_;refine al rfl V.ba ?_;refine al rfl V.bJ ?_;refine al rfl V.ag ?_;refine al rfl V.aW ?_;refine al rfl V.bJ ?_;refine' a8.fP rfl rfl (Aj rfl rfl rfl rfl rfl rfl (e0 Q g0) (pZ Q g0) (fun i q=>by cases q) ?cw ?hm ?U ?cr ?ca ?av fun Jl XM D5 W4=>?_);case cw=>exact .kt _
   case hm=>exact .refl _
   case U=>exact oi.rd
   case cr=>first|rfl|(simp;done)|(simp;omega)
   case ca=>first|rfl|exact hf _
   case av=>exact cc
   obtain⟨Dd,oM,rfl⟩:=D5.form;obtain⟨jU,rfl,Ey⟩:=D5.W8 (r:=r) (W4.1 MJ) (W4.2 LF) (by omega) (by simp) rN.1;refine a8.buildSlice rfl rfl rfl rfl rfl rfl (nt Q g0) rfl rfl rfl fun M5=>?_;refine a8.cA eX ?_;refine' a8.fP rfl rfl (kk rfl rfl rfl rfl rfl rfl (nt Q g0) (CF Q g0) (fun i q=>by cases q) ?cw ?hm ?U ?cr ?ca ?av fun avn EM VH=>?_);case cw=>assumption
   case hm=>exact jz (r:=m1++((M5,.row [.slice Dd (0+r.length) oM] 22)::(jU::((k6,.row (gG [Value.int .i64 0] 0) 3)::(m2++(s1++(s2++[(a3,.row [.int .i64 t.r,.int .i64 t.s,.slice Nj i NM,.slice w4 i xb] 30),(a2,.row [.int .i64 0,.int .i64 0,.slice none 0 0,.slice none 0 0] 30),(bm,.row (hI t (some ⟨wX,x',none⟩) cs (some ⟨wY,ya,none⟩) cE) 30)])))))))
   case U=>exact hR
   case cr=>first|rfl|(simp;done)|(simp;omega)
   case ca=>first|rfl|exact hf _
   case av=>exact cc
   obtain⟨yV,y3,rfl,auW⟩:=VH.iN;refine al rfl V.ba ?_;refine kn rfl ?_;refine a8.nil ?_;refine ab.eC (m':=EM++(m2++((s1++[jU])++(s2++[(a3,.row [.int .i64 t.r,.int .i64 t.s,.slice yV (i+1) y3,.slice w4 i xb] 30),(a2,.row [.int .i64 0,.int .i64 0,.slice none 0 0,.slice none 0 0] 30),(bm,.row (hI t (some ⟨wX,x',none⟩) cs (some ⟨wY,ya,none⟩) cE) 30)])))) (h2:=[(M5,.row [.slice Dd (0+r.length) oM] 22),(k6,.row (gG [Value.int .i64 0] 0) 3)]) (jz (r:=EM++((M5,.row [.slice Dd (0+r.length) oM] 22)::(jU::((k6,.row (gG [Value.int .i64 0] 0) 3)::(m2++(s1++(s2++[(a3,.row [.int .i64 t.r,.int .i64 t.s,.slice yV (i+1) y3,.slice w4 i xb] 30),(a2,.row [.int .i64 0,.int .i64 0,.slice none 0 0,.slice none 0 0] 30),(bm,.row (hI t (some ⟨wX,x',none⟩) cs (some ⟨wY,ya,none⟩) cE) 30)])))))))) ?_;refine aj ?_;refine ab.draw rfl (by kernel_rfl) (bc:=[.gk 2,.val 0,.val 1,.val 3,.val 4,.val 5,.val 6,.val 7,.bR 8,.gk 9,.cA [1,0],.bR 10,.val 11,.bR 12]) (by kernel_rfl) ?_;refine a8.buildSlice rfl rfl rfl rfl rfl rfl (e0 Q g0) rfl rfl rfl fun a31=>?_;refine al rfl V.ba ?_;refine al rfl V.bJ ?_;refine al rfl V.ba ?_;refine al rfl V.bJ ?_;refine al rfl V.ag ?_;refine al rfl V.aW ?_;refine al rfl V.bJ ?_;refine' a8.fP rfl rfl (Aj rfl rfl rfl rfl rfl rfl (e0 Q g0) (pZ Q g0) (fun i q=>by cases q) ?cw ?hm ?U ?cr ?ca ?av fun aar x5 xx W5=>?_);case cw=>exact .kt _
   case hm=>exact .refl _
   case U=>exact aju.rd
   case cr=>first|rfl|(simp;done)|(simp;omega)
   case ca=>first|rfl|exact hf _
   case av=>exact cc
   obtain⟨J6,oN,rfl⟩:=xx.form;obtain⟨jD,rfl,sV⟩:=xx.W8 (r:=q) (W5.1 MJ) (W5.2 LF) (by omega) (by simp) BC.1;refine a8.buildSlice rfl rfl rfl rfl rfl rfl (nt Q g0) rfl rfl rfl fun p8=>?_;refine a8.cA eX ?_;refine' a8.fP rfl rfl (kk rfl rfl rfl rfl rfl rfl (nt Q g0) (CF Q g0) (fun i q=>by cases q) ?cw ?hm ?U ?cr ?ca ?av fun avo QJ VJ=>?_);case cw=>assumption
   case hm=>exact jz (r:=m2++((p8,.row [.slice J6 (0+q.length) oN] 22)::(jD::((a31,.row (gG [Value.int .i64 0] 0) 3)::(EM++((s1++[jU])++(s2++[(a3,.row [.int .i64 t.r,.int .i64 t.s,.slice yV (i+1) y3,.slice w4 i xb] 30),(a2,.row [.int .i64 0,.int .i64 0,.slice none 0 0,.slice none 0 0] 30),(bm,.row (hI t (some ⟨wX,x',none⟩) cs (some ⟨wY,ya,none⟩) cE) 30)])))))))
   case U=>exact hR
   case cr=>first|rfl|(simp;done)|(simp;omega)
   case ca=>first|rfl|exact hf _
   case av=>exact cc
   obtain⟨vg,vo,rfl,ano⟩:=VJ.iN;refine al rfl V.ba ?_;refine kn rfl ?_;refine a8.nil ?_;refine ab.eC (m':=EM++(QJ++((s1++[jU])++((s2++[jD])++[(a3,.row [.int .i64 t.r,.int .i64 t.s,.slice yV (i+1) y3,.slice vg (i+1) vo] 30),(a2,.row [.int .i64 0,.int .i64 0,.slice none 0 0,.slice none 0 0] 30),(bm,.row (hI t (some ⟨wX,x',none⟩) cs (some ⟨wY,ya,none⟩) cE) 30)])))) (h2:=[(p8,.row [.slice J6 (0+q.length) oN] 22),(a31,.row (gG [Value.int .i64 0] 0) 3)]) (jz (r:=QJ++((p8,.row [.slice J6 (0+q.length) oN] 22)::(jD::((a31,.row (gG [Value.int .i64 0] 0) 3)::(EM++((s1++[jU])++(s2++[(a3,.row [.int .i64 t.r,.int .i64 t.s,.slice yV (i+1) y3,.slice vg (i+1) vo] 30),(a2,.row [.int .i64 0,.int .i64 0,.slice none 0 0,.slice none 0 0] 30),(bm,.row (hI t (some ⟨wX,x',none⟩) cs (some ⟨wY,ya,none⟩) cE) 30)])))))))) ?_;refine rg ?_;refine I V.ag ?_;refine I V.bt ?_;refine I V.az ?_;refine a6 ?_;refine cB ⟨i+1,.slice yV (i+1) y3,d1++[.slice Dd (0+r.length) oM],EM,s1++[jU],.slice vg (i+1) vo,d2++[.slice J6 (0+q.length) oN],QJ,s2++[jD]⟩ ?_;exact⟨by omega,VH,VJ,Ow.take aw Ey,xp.take c8 sV⟩
  ·refine aj ?_;refine ab.exit ?_;obtain rfl:i=t.sum.length:=by omega
   refine Vk.hQ (.refl _) fun dO ch ajK=>?_;refine Vl.hQ (.refl _) fun e2 cF xS=>?_;rw[tm] at Ow;rw[av,tm] at xp;refine ab.gN (m':=(s1++s2)++[(a3,.row [.int .i64 t.r,.int .i64 t.s,.slice Nj t.sum.length NM,.slice w4 t.sum.length xb] 30),(a2,.row [.int .i64 0,.int .i64 0,.slice none 0 0,.slice none 0 0] 30),(bm,.row (hI t bs cs ct cE) 30)]) (by rw[gw]) ?_;refine rg ?_;refine I V.gV ?_;refine dC ?_;refine ns ?_;refine ab.ret ?_;refine'⟨.inr rfl,rfl,_,_,.cell rfl (by repeat first|exact .head _|refine .tail _ ?_|refine hT _ ?_) (mm (eW rfl) rfl) (.nil),q6 _ _,⟨ch.trans cF,Nj,_,NM,w4,_,xb,s1,s2,rfl,av,rfl,rfl,(Ow.d2 ajK).mono cF,xp.d2 (by rw[<-av];exact xS)⟩⟩
end
end
end Go.Opn
namespace Go.Opn
noncomputable section
def I'(gD:List (List Int)×List Int)(x:cR):List (List Int)×List Int:=if x.k=1 then(gD.1++[x.ws],gD.2++[(gD.1.length:Int)]) else(gD.1,gD.2++[-1])
def I9(p:Int)(gD:List (List Int)×List Int)(y:(Int×Int)×List Int):List (List Int)×List Int:=if y.1.1≠p then(gD.1++[y.2],gD.2++[(gD.1.length:Int)]) else(gD.1,gD.2++[-1])
def gz(g:bq)(n:Nat):List (List Int)×List Int:=(g.ns.take n).foldl I' ([],[])
def gS(g:bq)(S:List (List Int))(p:Int)(n:Nat):List (List Int)×List Int:=((g.is.zip S).take n).foldl (I9 p) ((gz g g.ns.length).1,[])
def sw(g:bq)(S:List (List Int))(p:Int):List (List Int):=(gS g S p g.is.length).1
theorem Ny{g:bq}{n:Nat}{x:cR}(h:g.ns[n]?=some x):gz g (n+1)=I' (gz g n) x:=by
 unfold gz;rw[nY,h,Option.toList_some,JF];rfl
theorem Nx{g:bq}{S:List (List Int)}{p:Int}{n:Nat}{y:Int×Int}{r:List Int}(h:g.is[n]?=some y)(aw:S[n]?=some r):gS g S p (n+1)=I9 p (gS g S p n) (y,r):=by
 have e:(g.is.zip S)[n]?=some (y,r):=aa5.2 ⟨h,aw⟩;unfold gS;rw[nY,e,Option.toList_some,JF];rfl
def FR(l:List Int):Prop:=(∀v∈l,0<=v)/\1<=l.sum/\l.sum<=65536/\1<=l.length/\l.length<=3
theorem AP{g:bq}(hw:jg g):∀n,n<=g.ns.length->(gz g n).2.length=n/\(gz g n).1.length<=n/\(∀l∈(gz g n).1,FR l)/\
 (∀(j:Nat) (x:cR),j<n->g.ns[j]?=some x->(x.k=1->∃a:Nat,(gz g n).2[j]?=some (a:Int)/\(gz g n).1[a]?=some x.ws)/\(x.k≠1->(gz g n).2[j]?=some (-1)))
 |0,_=>⟨rfl,cW _,⟨fun l h=>absurd h JK,fun j x h=>by omega⟩⟩
 |n+1,aP=>by
  obtain⟨aa,ae,aF,bo⟩:=AP hw n (by omega);have U:=dj (l:=g.ns) (i:=n) (by omega);generalize g.ns[n]=x at U;rw[Ny U];have iX:=cb U;unfold I';split
  ·rename_i aO;refine⟨by simp[aa],by simp;omega,fun l av=>?_,fun j y a' ai=>?_⟩
   ·rcases ko.1 av with q|q
    ·exact aF l q
    ·obtain rfl:l=x.ws:=by simpa using q
     rcases hw.kind x iX with⟨bl,_⟩|⟨_,bp,bQ,cU,gb⟩|⟨bl,_⟩
     ·omega
     ·have s1:=ZI (l:=x.ws) (b:=1) fun v ay=>(gb v ay).1;have s2:=Mk (l:=x.ws) (b:=3) fun v ay=>(gb v ay).2;exact⟨fun v ay=>by have:=gb v ay;omega,by omega,by omega,by omega,by omega⟩
     ·omega
   ·by_cases q:j<n
    ·obtain⟨g1,g2⟩:=bo j y q ai;refine⟨fun e=>?_,fun e=>?_⟩
     ·obtain⟨a,bm,a2⟩:=g1 e;have:=(dY.1 a2).1;exact⟨a,by rw[k1 (by omega)];exact bm,by rw[k1 this];exact a2⟩
     ·rw[k1 (by omega)];exact g2 e
    ·obtain rfl:j=n:=by omega
     rw[U] at ai;injection ai with ai;subst ai
     refine⟨fun _=>⟨(gz g j).1.length,?_,?_⟩,fun e=>absurd aO e⟩
     ·have:=pk (l₁:=(gz g j).2) (l₂:=[((gz g j).1.length:Int)]) (i:=j) (by omega);rw[this,aa,sf];rfl
     ·simp
  ·rename_i aO;refine⟨by simp[aa],by simp;omega,aF,fun j y a' ai=>?_⟩;by_cases q:j<n
   ·obtain⟨g1,g2⟩:=bo j y q ai;refine⟨fun e=>?_,fun e=>?_⟩
    ·obtain⟨a,bm,a2⟩:=g1 e;exact⟨a,by rw[k1 (by omega)];exact bm,a2⟩
    ·rw[k1 (by omega)];exact g2 e
   ·obtain rfl:j=n:=by omega
    rw[U] at ai;injection ai with ai;subst ai
    refine⟨fun e=>absurd e aO,fun _=>?_⟩;have:=pk (l₁:=(gz g j).2) (l₂:=[(-1:Int)]) (i:=j) (by omega);rw[this,aa,sf];rfl
theorem y0{g:bq}{S:List (List Int)}{p:Int}(hw:jg g)(ax:wR g S):∀n,n<=g.is.length->(gS g S p n).2.length=n/\(gS g S p n).1.length<=g.ns.length+n/\(∀l∈(gS g S p n).1,FR l)/\(∀(a:Nat) l,(gz g g.ns.length).1[a]?=some l->(gS g S p n).1[a]?=some l)/\
 (∀(j:Nat) (y:Int×Int) (r:List Int),j<n->g.is[j]?=some y->S[j]?=some r->(y.1≠p->∃a:Nat,(gS g S p n).2[j]?=some (a:Int)/\(gS g S p n).1[a]?=some r)/\(y.1=p->(gS g S p n).2[j]?=some (-1)))
 |0,_=>⟨rfl,(AP hw _ (cW _)).2.1,(AP hw _ (cW _)).2.2.1,fun a l h=>h,fun j y r h=>by omega⟩
 |n+1,aP=>by
  obtain⟨aa,ae,aF,eB,bo⟩:=y0 hw ax (p:=p) n (by omega);have ai:=dj (l:=g.is) (i:=n) (by omega);generalize g.is[n]=y at ai;obtain⟨r,aw,rN,pH⟩:=ax.1.get ai;rw[Nx ai aw];unfold I9;split
  ·rename_i aO;refine⟨by simp[aa],by simp;omega,fun l av=>?_,fun a l a1=>?_,fun j iQ dx a' hd ni=>?_⟩
   ·rcases ko.1 av with q|q
    ·exact aF l q
    ·obtain rfl:l=r:=by simpa using q
     have a1:=hw.yL y (cb ai);refine⟨fun v ay=>?_,?_,?_,by omega,by omega⟩
     ·obtain⟨i,ao⟩:=kp.1 ay;exact(pH i v ao).1
     ·rw[ax.2 l (cb aw)];omega
     ·rw[ax.2 l (cb aw)];omega
   ·have q:=eB a l a1;have:=(dY.1 q).1;show(_++_)[a]?=_;rw[k1 this];exact q
   ·by_cases q:j<n
    ·obtain⟨g1,g2⟩:=bo j iQ dx q hd ni;refine⟨fun e=>?_,fun e=>?_⟩
     ·obtain⟨a,bm,a2⟩:=g1 e;have:=(dY.1 a2).1;exact⟨a,by rw[k1 (by omega)];exact bm,by rw[k1 this];exact a2⟩
     ·rw[k1 (by omega)];exact g2 e
    ·obtain rfl:j=n:=by omega
     rw[ai] at hd;injection hd with hd;subst hd
     rw[aw] at ni;injection ni with ni;subst ni
     refine⟨fun _=>⟨(gS g S p j).1.length,?_,?_⟩,fun e=>absurd e aO⟩
     ·have:=pk (l₁:=(gS g S p j).2) (l₂:=[((gS g S p j).1.length:Int)]) (i:=j) (by omega);rw[this,aa,sf];rfl
     ·simp
  ·rename_i aO;refine⟨by simp[aa],by simp;omega,aF,eB,fun j iQ dx a' hd ni=>?_⟩;by_cases q:j<n
   ·obtain⟨g1,g2⟩:=bo j iQ dx q hd ni;refine⟨fun e=>?_,fun e=>?_⟩
    ·obtain⟨a,bm,a2⟩:=g1 e;exact⟨a,by rw[k1 (by omega)];exact bm,a2⟩
    ·rw[k1 (by omega)];exact g2 e
   ·obtain rfl:j=n:=by omega
    rw[ai] at hd;injection hd with hd;subst hd
    refine⟨fun e=>absurd e aO,fun _=>?_⟩;have:=pk (l₁:=(gS g S p j).2) (l₂:=[(-1:Int)]) (i:=j) (by omega);rw[this,aa,sf];rfl
end
end Go.Opn

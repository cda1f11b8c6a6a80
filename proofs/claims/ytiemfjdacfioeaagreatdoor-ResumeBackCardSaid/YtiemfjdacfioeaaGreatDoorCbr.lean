/- A part of the proof of ResumeBack. -/
import Derived.Test.YtiemfjdacfioeaaGreatDoorCbq
set_option maxRecDepth 100000
set_option maxHeartbeats 8000000
set_option linter.unusedVariables false
set_option linter.unusedSimpArgs false
namespace Go.Opn
noncomputable section
open Go.Cre Go.RowKit Go.Proofs
section
variable {K:eL}{B:ea}{R:uW}{ops:List Oper}{bf:List jr}{E:cn}{m m':aO}{J:aI}{o:Oper}{bL:cn->aO->aI->Prop}{i:Nat}
theorem dx.fO(ao:nth ops i=some o)(aq:o.guard=none)(h:hZ K B o E m J fun E m J=>dx K B R ops bf E m J bL):dx K B R ops (.bV i::bf) E m J bL:=by
 intro S H ax aJ;obtain⟨bq,H1,lN,m1,dQ,aa,ae,aG,br⟩:=h S H ax aJ;obtain⟨aS,H',cL,m',ag,bp,bC,b5,da⟩:=br bq H1 ae aG;refine⟨aS,H',cL,m',ag,?_,bC,b5,da⟩;show jl ops i (fun o=>kn (dK K.P _ _ ops bf) (one K.P _ _ ops S H o))=_;unfold jl;rw[ao];show kn (dK K.P _ _ ops bf) (one K.P _ _ ops S H o)=_;unfold one;rw[show fj ops S.T o=some true by unfold fj;rw[aq]];show kn (dK K.P _ _ ops bf) (pD S H o.dst (cO K.P _ _ S H o))=_;rw[aa];exact bp
end
section
variable {Q:dI Tryz.prog}{g0:Nat}{B:ea}{R:uW}{ops:List Oper}{bf:List jr}{n:Nat}{ds:e7}{l:List (Nat×Value)}{m m':aO}{J:aI}{o:Oper}{bL:cn->aO->aI->Prop}{i:Nat}
end
def My(g:bz)(S:List (List Int))(p:Int)(x:cS)(v:Int):Prop:=(v=-1/\x.k≠1)\/∃a:Nat,v=(a:Int)/\∃l,(se g S p)[a]?=some l/\FD l/\l.length=x.ak.length
theorem ame{g:bz}{S:List (List Int)}{p:Int}(hw:iP g)(ax:wz g S){j:Nat}{x:cS}(U:g.ns[j]?=some x):∃v,(gy g g.ns.length).2[j]?=some v/\(x.k≠2->My g S p x v):=by
 obtain⟨aa,ae,aG,br⟩:=AH hw g.ns.length (cZ _);obtain⟨g1,g2⟩:=br j x (eT U) U;have jR:=cd U;by_cases aU:x.k=1
 ·obtain⟨a,bo,a2⟩:=g1 aU
  refine⟨a,bo,fun _=>.inr ⟨a,rfl,x.ws,?_,aG _ (cd a2),?_⟩⟩
  ·exact(yR hw ax (p:=p) g.is.length (cZ _)).2.2.2.1 a _ a2
  ·rcases hw.kind x jR with⟨bp,_⟩|⟨_,bC,_⟩|⟨bp,_⟩
   ·omega
   ·exact bC
   ·omega
 ·exact⟨-1,g2 aU,fun _=>.inl ⟨rfl,aU⟩⟩
theorem amc{g:bz}{S:List (List Int)}{p:Int}(hw:iP g)(ax:wz g S){x:cS}(U:x∈g.ns)(aU:x.k=2):∃i:Nat,x.i=(i:Int)/\i<g.is.length/\∃v,(gT g S p g.is.length).2[i]?=some v/\My g S p x v:=by
 rcases hw.kind x U with⟨bp,_⟩|⟨bp,_⟩|⟨_,bp,bC,b5,da,i,ao,ai⟩
 ·omega
 ·omega
 ·obtain⟨aa,ae,aG,eu,br⟩:=yR hw ax (p:=p) g.is.length (cZ _)
  obtain⟨r,ay,rA,px⟩:=ax.1.get ai;obtain⟨g1,g2⟩:=br i _ r (eT ai) ai ay;refine⟨i,ao,eT ai,?_⟩;by_cases q:x.p=p
  ·exact⟨-1,g2 q,.inl ⟨rfl,by omega⟩⟩
  ·obtain⟨a,bo,a2⟩:=g1 q
   refine⟨a,bo,.inr ⟨a,rfl,r,a2,aG _ (cd a2),?_⟩⟩;simp only at rA;omega
def Mx(g:bz)(S:List (List Int))(p:Int)(N:List Int):Prop:=N.length=(se g S p).length/\∀(a:Nat) l v,(se g S p)[a]?=some l->N[a]?=some v->0<=v/\v<l.sum
def FA(g:bz)(P:List Int):Prop:=∀(i:Nat) x v,g.ns[i]?=some x->P[i]?=some v->(v=-1/\x.k≠1)\/(0<=v/\v<x.ak.length)
theorem adX{l:List Int}{k:Nat}{n:Int}(bD:0<=n)(h:n<(l.drop k).sum):k<l.length:=by
 apply qN
 intro q;rw[wm (by omega)] at h;simp at h;omega
theorem FA.app{g:bz}{P:List Int}{x:cS}{v:Int}(h:∀(i:Nat) x v,g.ns[i]?=some x->P[i]?=some v->(v=-1/\x.k≠1)\/(0<=v/\v<x.ak.length))(U:g.ns[P.length]?=some x)(az:(v=-1/\x.k≠1)\/(0<=v/\v<x.ak.length)):∀(i:Nat) x v',g.ns[i]?=some x->(P++[v])[i]?=some v'->(v'=-1/\x.k≠1)\/(0<=v'/\v'<x.ak.length):=fun i y v' ai vN=>by
 rcases vu vN with q|⟨bd,a6⟩
 ·exact h i y v' ai q
 ·rw[bd,U] at ai;injection ai with ai;rw[<-ai,a6];exact az
theorem Td{J:aI}{a n:Nat}{R:List Bool}(h:J a=some (R.map Value.bool,4))(av:R.length=n){i:Nat}(ao:i<n):∃b,R[i]?=some b/\nth (R.map Value.bool) (0+i*1)=some (.bool (decide (b=true))):=by
 have au:=de (l:=R) (i:=i) (by omega);refine⟨_,au,?_⟩;rw[RV];exact Ln i au (by omega)
section
variable {Q:dI Tryz.prog}{g0:Nat}{J:aI}
theorem acm{l:List Int}{b:Option Addr}{c:Nat}{n:Int}(av:dG J (.slice b l.length c) l)(hw:FD l)(lH:0<=n)(b0:n<l.sum):
 Fn (bb Q g0) 81 [.slice b l.length c,.int .i64 n] [] J (fun u m' ag=>J=ag/\m'=[]/\∃k:Nat,u=.int .i64 (k:Int)/\k<l.length):=by
 obtain⟨w0,e3,iD,kE,kF⟩:=hw;obtain⟨mh,iW,oD,e,rfl,rc,ia⟩:=av.iY (by omega);refine Fn.cH (cQ Tryz.func81) rfl rfl fun H=>?_;refine rg ?_;refine I V.aA ?_;refine bj ?_;refine I V.aA ?_;refine ns ?_;refine ab.block ?_;refine' ab.c2 (l':=[(1,.int .i64 (n)),(5,.int .i64 ((0):Int)),(0,_)]) ⟨?e3,?pR,rfl,trivial⟩ (bA _) ?_;case e3=>exact bS
 case pR=>exact bS
 refine aj ?_;refine' ab.rG (α:=(Nat)×(Int)) (fun(bH:(Nat)×(Int))=>match bH with|(k,r)=>[(1,.int .i64 r),(5,.int .i64 (k:Int))]) (fun(bH:(Nat)×(Int))=>match bH with|(k,r)=>k<=l.length/\0<=r/\r<=n/\r<(l.drop k).sum) (fun(bH:(Nat)×(Int))=>match bH with|(k,r)=>l.length -k) ⟨0,n⟩ ?af ?bE
 case af=>exact⟨cB _,lH,yn _,by rw[mP];exact b0⟩
 case bE=>
  rintro⟨k,r⟩ hinv;try simp only at hinv
  obtain⟨aU,ll,cI,ay⟩:=hinv;have Hh:=adX ll ay;obtain⟨x,U,e0⟩:=ia k Hh;have vM:=Zf U;have ky:=w0 x (cd U);have Eg:=L0 w0 U;refine aj ?_;refine ab.block ?_;refine rg ?_;refine aM ?_;refine I V.aX ?_;refine I V.bO ?_;refine I V.a1 ?_;refine ns ?_;refine If (fun p2=>?_) fun p2=>?_
  ·refine rg ?_;refine aM ?_;refine ns ?_;refine ab.ret ?_;refine c' ?_;exact⟨rfl,rfl,k,rfl,Hh⟩
  ·refine aj ?_;refine ab.skip ?_;refine rg ?_;refine aM ?_;refine I V.aX ?_;refine I V.bO ?_;refine I V.bx ?_;refine I V.aA ?_;refine bj ?_;refine I V.ah ?_;refine I V.bx ?_;refine I V.aA ?_;refine a8 ?_;refine'⟨⟨k+1,r -x⟩,_,?hinv,?kw,rfl,⟨?m1,?m5,rfl,trivial⟩,bA _,rfl⟩;case m1=>exact bS
   case m5=>exact bS
   case kw=>exact cf
   case hinv=>exact⟨by omega,by omega,by omega,by omega⟩
open Classical in
theorem amg{g:bz}{aT aL eA JK:Option Addr}{aQ ci fk Ty:Nat}{S:List (List Int)}{p:Int}{N:List Int}(hw:iP g)(aq:fG J g aT aQ aL ci)(j4:fa J 22 1 (jI J) (.slice eA S.length fk) S)(ax:wz g S)(nF:dG J (.slice JK N.length Ty) N)(A5:Mx g S p N):
 Fn (bb Q g0) 62 [hc g aT aQ aL ci,.slice eA S.length fk,.int .i64 p,.slice JK N.length Ty] [] J (fun u m' ag=>J.le ag/\m'=[]/\∃b c P,u=.slice b g.ns.length c/\dG ag u P/\P.length=g.ns.length/\FA g P):=by
 have fW:addrEq aL aL=true:=aq.i.addr;have gn:addrEq aT aT=true:=aq.n.addr;have EQ:addrEq eA eA=true:=j4.addr;have atJ:addrEq JK JK=true:=nF.addr;obtain⟨_,fD⟩:=aq.n.at;have b0:=hw.b0;have dn:=hw.dn;obtain⟨bR,off,Ez,ne,rfl,tK,jP⟩:=fD (by omega);have w3:=(AH hw _ (cZ _)).1;have Nu:=(yR hw ax (p:=p) _ (cZ _)).1;refine Fn.cH (cQ Tryz.func62) rfl rfl fun H=>?_;refine rg ?_;refine dJ fun a4=>?_;refine I V.aA ?_;refine bj ?_;refine I V.gW ?_;refine aM ?_;refine cl (G:=TN hw aq j4 ax) (h:=?_);rintro v m' dQ ck ⟨_,rfl,u',p4,FQ,ve,C1,mj,rfl,Od,U3,U4⟩;refine aM ?_;refine bj ?_;refine I V.aA ?_;refine bj ?_;refine I V.aA ?_;refine ns ?_;refine ab.block ?_;refine' ab.c2 (l':=[(12,(.slice none 0 0)),(13,.int .i64 ((0):Int)),(3,_),(4,_),(9,_),(10,_),(11,_)]) ⟨?uO,?rY,rfl,rfl,rfl,rfl,rfl,trivial⟩ (bA _) ?_;case uO=>exact bS
 case rY=>exact bS
 refine aj ?_;refine' ab.dF (fun(bH:Nat×Value×aO×(List Int))=>match bH with|(i,v,aY,P)=>⟨[(12,v),(13,.int .i64 (i:Int))],aY++[dm a4 g (some ⟨bR,off,none⟩) aQ aL ci],dQ,i<=g.ns.length/\Acc 3 1 v i (P.map (Value.int .i64)) aY/\P.length=i/\FA g P,g.ns.length -i⟩) ⟨0,.slice none 0 0,[],[]⟩ ?af ?bE
 case af=>exact⟨cB _,.nil,rfl,fun i x v _ h=>by cases h⟩
 case bE=>
  rintro⟨i,v,aY,P⟩ hinv;try simp only at hinv
  obtain⟨ao,k4,sr,GX⟩:=hinv;obtain⟨bv,gJ,rfl,Cc⟩:=k4.iJ;refine rg ?_;refine aM ?_;refine I V.bO ?_;refine I V.bP ?_;refine I V.a1 ?_;refine ns ?_;refine If (fun yP=>?_) fun yP=>?_
  ·obtain⟨x,Gf,U,gV,ir,GW⟩:=jP i (by omega) (by omega);obtain⟨bm,bt,bl,bw,b8,dh,rfl,eo,ga,gz⟩:=GW;rw[cy] at U;have jR:=cd U;have bd:addrEq bm bm=true:=eo.addr;have a6:addrEq bl bl=true:=ga.addr;have b9:addrEq b8 b8=true:=gz.addr;have arO:=ck _ _ tK;obtain⟨v0,KX,aiI⟩:=ame hw ax (p:=p) U;obtain⟨cX,ath,aqK,arf,rfl,arE,ahw⟩:=(show dG dQ (.slice FQ (gy g g.ns.length).2.length ve) _ by rw[w3];exact U3).iY (by omega);obtain⟨aos,Wo,aid⟩:=ahw i (by omega);obtain rfl:v0=aos:=by rw[KX] at Wo;injection Wo
   refine c5 ?_;refine aj ?_;refine ab.block ?_;refine rg ?_;refine I V.bc ?_;refine I V.bO ?_;refine I V.ah ?_;refine I V.aX ?_;refine I V.gW ?_;refine' W.step rfl (.of (e4 rfl rfl rfl (om Q g0) rfl rfl rfl fun wC=>?_));refine dN ?_;refine bj ?_;refine aM ?_;refine I V.aX ?_;refine I V.bO ?_;refine I V.aA ?_;refine bj ?_;refine I V.bc ?_;refine I V.bO ?_;refine I V.a1 ?_;refine a8 ?_;refine fT [14,15,42,3,4,9,10,11,12,13] ?_;refine aj ?_;refine' ab.yT (α:=(Int)) 3 (fun(Cu:Int)=>[(15,.int .i64 Cu)]) (fun(Cu:Int)=>qy wC x bm bt bl bw b8 dh::(aY++[dm a4 g (some ⟨bR,off,none⟩) aQ aL ci])) (fun(Cu:Int)=>dQ) (fun(Cu:Int)=>My g S p x Cu) ?acv ?adx;case acv=>
    refine If (fun vd=>?_) fun vd=>?_
    ·obtain⟨ii,pv,oT,v1,zl,aiJ⟩:=amc hw ax (p:=p) jR vd;obtain⟨hs,ati,aqL,arh,rfl,arF,ahx⟩:=(show dG dQ (.slice C1 (gT g S p g.is.length).2.length mj) _ by rw[Nu];exact U4).iY (by omega);obtain⟨aot,Wp,aie⟩:=ahx ii (by omega);obtain rfl:v1=aot:=by rw[zl] at Wp;injection Wp
     rw[show ii=x.i.toNat by omega] at aie;refine rg ?_;refine aM ?_;refine I V.bO ?_;refine I V.aX ?_;refine I V.bO ?_;refine I V.aA ?_;refine a8 ?_;refine'⟨(v1),_,?hinv,rfl,⟨?m15,rfl,rfl,rfl,rfl,rfl,rfl,rfl,trivial⟩,rD,rfl⟩;case m15=>exact bS
     case hinv=>exact aiJ
    ·refine aj ?_;refine ab.skip ?_;refine'⟨(v0),_,?hinv,rfl,⟨?m15,rfl,rfl,rfl,rfl,rfl,rfl,rfl,trivial⟩,rD,rfl⟩;case m15=>exact bS
     case hinv=>exact aiI vd
   case adx=>
    rintro Cu hinv;try simp only at hinv
    have fJ:=hinv;refine rg ?_;refine I V.ah ?_;refine I V.a1 ?_;refine ns ?_;refine If (fun sc=>?_) fun sc=>?_
    ·have HQ:x.k≠1:=by
        rcases fJ with⟨aa,ae⟩|⟨a,aa,_⟩
        ·exact ae
        ·omega
     refine rg ?_;refine I V.ah ?_;refine jw (eX Q g0) fun a51=>?_;refine' W.step rfl (.of (kf rfl rfl rfl rfl rfl rfl (eX Q g0) (pO Q g0) (fun i q=>by cases q) ?cw ?hm ?U ?cr ?cc ?av fun apc akF Vl=>?_));case cw=>assumption
     case hm=>exact jm (r:=aY++((a51,.row [.int .i64 (-1)] 3)::(qy wC x bm bt bl bw b8 dh::[dm a4 g (some ⟨bR,off,none⟩) aQ aL ci])))
     case U=>exact hP
     case cr=>first|rfl|(simp;done)|(simp;omega)
     case cc=>first|rfl|exact hg _
     case av=>exact cf
     refine I V.aA ?_;refine ns ?_;refine ab.exit ?_;refine rg ?_;refine I V.ah ?_;refine I V.bx ?_;refine I V.aA ?_;refine a8 ?_;refine cA ⟨i+1,apc,akF,P++[-1]⟩ ?_ (hm:=pX (bA _) (.cons _ (.cons _ (.refl _))))
     (rw[IN] at Vl;exact⟨by omega,Vl,by simp[sr],FA.app GX (by rw[sr];exact U) (.inl ⟨rfl,HQ⟩)⟩)
    ·obtain⟨FH,rfl,l,KF,xH,hE⟩:∃a:Nat,Cu=(a:Int)/\∃l,(se g S p)[a]?=some l/\FD l/\l.length=x.ak.length:=by
        rcases fJ with⟨aa,ae⟩|h
        ·omega
        ·exact h
     have arZ:=eT KF;obtain⟨dc,ak7,acC,im,aj8,abm,aca,rfl,agv,VN,cr,O'⟩:=qG Od (i:=FH) (by omega) (by omega);obtain rfl:l=aj8:=by rw[cy,KF] at VN;injection VN
     obtain⟨aqa,atm,aqP,arl,rfl,arJ,ahB⟩:=(nF.mono ck).iY (by rw[A5.1];omega);obtain⟨fm,aif,asB⟩:=ahB FH (by rw[A5.1];omega);obtain⟨ak4,ak5⟩:=A5.2 FH l fm KF aif;have Oh:=A5.1;refine c5 ?_;refine aj ?_;refine ab.draw rfl (by kernel_rfl) (bf:=[.val 0,.val 1,.val 2,.val 3,.val 4,.val 5,.val 6,.val 7,.val 8,.bV 9,.gh 10,.cF [0],.bV 11,.bV 12]) (by kernel_rfl) ?_;refine cq ?_;refine an rfl V.aX ?_;refine an rfl V.bO ?_;refine cq ?_;refine an rfl V.aX ?_;refine an rfl V.bO ?_;refine dl rfl (G:=acm O' xH ak4 ak5) (h:=?_);rintro aun m' eZ cE ⟨rfl,rfl,W0,rfl,asm⟩;refine a7.buildSlice rfl rfl rfl rfl rfl rfl (eX Q g0) rfl rfl rfl fun wD=>?_;refine a7.cF fC ?_;refine' a7.fO rfl rfl (kf rfl rfl rfl rfl rfl rfl (eX Q g0) (pO Q g0) (fun i q=>by cases q) ?cw ?hm ?U ?cr ?cc ?av fun ape akH Vm=>?_);case cw=>assumption
     case hm=>exact jm (r:=aY++((wD,.row [.int .i64 (W0:Int)] 3)::(qy wC x bm bt bl bw b8 dh::[dm a4 g (some ⟨bR,off,none⟩) aQ aL ci])))
     case U=>exact hP
     case cr=>first|rfl|(simp;done)|(simp;omega)
     case cc=>first|rfl|exact hg _
     case av=>exact cf
     refine Fo rfl V.aA ?_;refine a7.nil ?_;refine rg ?_;refine I V.ah ?_;refine I V.bx ?_;refine I V.aA ?_;refine a8 ?_;refine cA ⟨i+1,ape,akH,P++[(W0:Int)]⟩ ?_ (hm:=pX (bA _) (.cons _ (.cons _ (.refl _))))
     (rw[IN] at Vm;exact⟨by omega,Vm,by simp[sr],FA.app GX (by rw[sr];exact U) (.inr (by omega))⟩)
  ·refine aj ?_;refine ab.exit ?_;obtain rfl:i=g.ns.length:=by omega
   refine k4.hx (.refl _) fun Ap oU PK=>?_;refine rg ?_;refine aM ?_;refine ns ?_;refine ab.ret ?_;refine c' ?_;exact⟨ck.trans oU,rfl,bv,gJ,P,rfl,⟨3,by rw[sr];exact PK⟩,sr,GX⟩
open Classical in
theorem amQ{g:bz}{aT aL fH:Option Addr}{aQ ci fi:Nat}{P:List Int}(hw:iP g)(aq:fG J g aT aQ aL ci)(dD:dG J (.slice fH g.ns.length fi) P)(sr:P.length=g.ns.length):
 Fn (bb Q g0) 63 [hc g aT aQ aL ci,.slice fH g.ns.length fi] [] J (fun u m' ag=>J.le ag/\m'=[]/\∃(a:Nat) (R:List Bool),u=.slice (some ⟨a,0,none⟩) g.ns.length g.ns.length/\ag a=some (R.map Value.bool,4)/\R.length=g.ns.length):=by
 have fW:addrEq aL aL=true:=aq.i.addr;have gn:addrEq aT aT=true:=aq.n.addr;obtain⟨_,fD⟩:=aq.n.at;have b0:=hw.b0;have dn:=hw.dn;obtain⟨bR,off,Ez,ne,rfl,tK,jP⟩:=fD (by omega);obtain⟨yB,zG,Gc,Gm,rfl,GS,ahD⟩:=dD.iY (by omega);refine Fn.cH (cQ Tryz.func63) rfl rfl fun H=>?_;refine rg ?_;refine dJ fun a2=>?_;refine I V.aA ?_;refine bj ?_;refine I V.bc ?_;refine I V.bO ?_;refine I V.bP ?_;refine' W.step rfl (.of (pT rfl rfl rfl rfl rfl (Q3 Q g0) ?bD ?aa ?ae fun kJ=>?_));case bD=>exact cf
 case aa=>exact cf
 case ae=>exact cf
 refine I V.aA ?_;refine a8 ?_;rw[RL,cy];refine rg ?_;refine I V.ah ?_;refine I V.aX ?_;refine' W.step rfl (.of (hz rfl rfl rfl rfl (fY rfl) rfl rfl rfl ?aa ?af ?aw ?_));case aw=>repeat first|exact .head _ _ _ _|apply cR.tail|apply cR.app
 case af=>exact E1 (f:=Value.bool) 0 (by simp;omega)
 case aa=>first|rfl|assumption
 refine bj ?_;refine I V.aA ?_;refine ns ?_;refine ab.block ?_;refine' ab.c2 (l':=[(6,.int .i64 ((0):Int)),(1,_),(2,_),(5,_)]) ⟨?nn,rfl,rfl,rfl,trivial⟩ (bA _) ?_;case nn=>exact bS
 refine aj ?_;refine' ab.dF (fun(bH:Nat×(List Bool))=>match bH with|(i,R)=>⟨[(6,.int .i64 (i:Int))],[(kJ,.row (R.map Value.bool) 4),dm a2 g (some ⟨bR,off,none⟩) aQ aL ci],J,i<=g.ns.length/\R.length=g.ns.length,g.ns.length -i⟩) ⟨0,(List.replicate g.ns.length false).set 0 true⟩ ?af ?bE
 case af=>exact⟨cB _,by simp⟩
 case bE=>
  rintro⟨i,R⟩ hinv;try simp only at hinv
  obtain⟨ao,DN⟩:=hinv;refine rg ?_;refine aM ?_;refine I V.bO ?_;refine I V.bP ?_;refine I V.a1 ?_;refine ns ?_;refine If (fun p3=>?_) fun p3=>?_
  ·obtain⟨x,Gf,U,gV,ir,nF⟩:=jP i (by omega) (by omega);obtain⟨bm,bt,bl,bw,b8,dh,rfl,eo,ga,gz⟩:=nF;have za:=ir 3 _ (by decide) rfl;rw[cy] at U;have sB:=hw.kids i x U;have KM:x.ak.length<=3:=by
    rcases hw.kind x (cd U) with⟨_,h,_⟩|⟨_,_,_,h,_⟩|⟨_,_,h,_⟩
    ·rw[h];simp
    ·exact h
    ·exact h
   obtain⟨LK,D7,aib⟩:=ahD i (by omega);refine c5 ?_;refine aj ?_;refine ab.block ?_;refine rg ?_;refine I V.aA ?_;refine ns ?_;refine ab.block ?_;refine' ab.c2 (l':=[(7,.int .i64 ((0):Int)),(1,_),(2,_),(5,_),(6,_)]) ⟨?yc,rfl,rfl,rfl,rfl,trivial⟩ (bA _) ?_;case yc=>exact bS
   refine aj ?_;refine' ab.dF (fun(bH:Nat×(List Bool))=>match bH with|(k,pg)=>⟨[(7,.int .i64 (k:Int))],[(kJ,.row (pg.map Value.bool) 4),dm a2 g (some ⟨bR,off,none⟩) aQ aL ci],J,k<=x.ak.length/\pg.length=g.ns.length,x.ak.length -k⟩) ⟨0,R⟩ ?af ?bE
   case af=>exact⟨cB _,DN⟩
   case bE=>
    rintro⟨k,pg⟩ hinv;try simp only at hinv
    obtain⟨aU,qc⟩:=hinv;refine rg ?_;refine aM ?_;refine I V.bO ?_;refine I V.ah ?_;refine I V.aX ?_;refine I V.bc ?_;refine I V.bO ?_;refine I V.bP ?_;refine I V.a1 ?_;refine ns ?_;refine If (fun wO=>?_) fun wO=>?_
    ·obtain⟨mh,iW,oD,ex,rfl,rc,ia⟩:=eo.iY (by omega);obtain⟨bU,fs,zf⟩:=ia k (by omega);have xi:=sB bU (cd fs);obtain⟨yL,rh,VZ⟩:∃b,pg[i]?=some b/\nth (pg.map Value.bool) (0+i*1)=some (.bool (decide (b=true))):=⟨_,de (by omega),by rw[RV];exact Ln i (de (by omega)) (by omega)⟩;refine c5 ?_;refine aj ?_;refine ab.block ?_;refine aj ?_;refine ab.Dp [] rfl (by kernel_rfl) (bf:=[.val 0,.val 1,.val 2,.val 3,.val 4,.val 5,.val 6,.val 7,.val 8,.val 9,.val 10,.val 11,.val 12,.val 13,.val 14,.val 15,.val 16,.val 17,.val 18,.val 19,.val 20,.val 21,.val 22,.val 23,.val 24,.val 25,.val 26,.val 27,.val 28,.val 29,.bV 30]) (by kernel_rfl) ?_;refine dp rfl V.ah ?_;refine dp rfl V.bc ?_;refine dp rfl V.bO ?_;refine dp rfl V.ah ?_;refine dp rfl V.aX ?_;refine dp rfl V.bc ?_;refine dp rfl V.bO ?_;refine dp rfl V.ah ?_;refine dp rfl V.aX ?_;refine dp rfl V.bO ?_;refine dp rfl V.ah ?_;refine dp rfl V.ah ?_;refine dp rfl V.aX ?_;refine dp rfl V.bO ?_;refine dp rfl V.ah ?_;refine th 46 (fun aga=>?_) fun aga=>?_
     ·refine dj rfl V.ah ?_;refine dj rfl V.ah ?_;refine dj rfl V.aX ?_;refine dj rfl V.bO ?_;refine dj rfl V.a1 ?_;refine dj rfl V.ah ?_;refine th 52 (fun agb=>?_) fun agb=>?_
      ·
        refine cx rfl ?_;refine cx rfl ?_;refine cx rfl ?_;refine cx rfl ?_;refine cx rfl ?_;refine cx rfl ?_;refine dj rfl V.aV ?_;refine dp rfl V.aV ?_;refine dp rfl V.aX ?_;refine' dx.fO rfl rfl (hz rfl rfl rfl rfl (fY rfl) rfl rfl rfl ?aa ?af ?aw ?_);case aw=>repeat first|exact .head _ _ _ _|apply cR.tail|apply cR.app
        case af=>exact E1 (f:=Value.bool) bU.toNat (by omega)
        case aa=>first|rfl|assumption
        refine dx.nil ?_;refine rg ?_;refine I V.ah ?_;refine I V.bx ?_;refine I V.aA ?_;refine a8 ?_;refine cA ⟨k+1,_⟩ ?_;exact⟨by omega,by rw[gu];exact qc⟩
      ·
        refine dj rfl V.ah ?_;refine dj rfl V.ah ?_;refine dj rfl V.aX ?_;refine dj rfl V.bO ?_;refine dj rfl V.ah ?_;refine dj rfl V.a1 ?_;refine dj rfl V.aV ?_;refine dp rfl V.aV ?_;refine dp rfl V.aX ?_;refine' dx.fO rfl rfl (hz rfl rfl rfl rfl (fY rfl) rfl rfl rfl ?aa ?af ?aw ?_);case aw=>repeat first|exact .head _ _ _ _|apply cR.tail|apply cR.app
        case af=>exact E1 (f:=Value.bool) bU.toNat (by omega)
        case aa=>first|rfl|assumption
        refine dx.nil ?_;refine rg ?_;refine I V.ah ?_;refine I V.bx ?_;refine I V.aA ?_;refine a8 ?_;refine cA ⟨k+1,_⟩ ?_;exact⟨by omega,by rw[gu];exact qc⟩
     ·refine cx rfl ?_;refine cx rfl ?_;refine cx rfl ?_;refine cx rfl ?_;refine cx rfl ?_;refine cx rfl ?_;refine dx.oj rfl rfl rfl rfl rfl ?_;refine dx.oj rfl rfl rfl rfl rfl ?_;refine dx.oj rfl rfl rfl rfl rfl ?_;refine dx.oj rfl rfl rfl rfl rfl ?_;refine dx.oj rfl rfl rfl rfl rfl ?_;refine dx.oj rfl rfl rfl rfl rfl ?_;refine cx rfl ?_;refine dp rfl V.aV ?_;refine dp rfl V.aX ?_;refine' dx.fO rfl rfl (hz rfl rfl rfl rfl (fY rfl) rfl rfl rfl ?aa ?af ?aw ?_);case aw=>repeat first|exact .head _ _ _ _|apply cR.tail|apply cR.app
      case af=>exact E1 (f:=Value.bool) bU.toNat (by omega)
      case aa=>first|rfl|assumption
      refine dx.nil ?_;refine rg ?_;refine I V.ah ?_;refine I V.bx ?_;refine I V.aA ?_;refine a8 ?_;refine cA ⟨k+1,_⟩ ?_;exact⟨by omega,by rw[gu];exact qc⟩
    ·refine aj ?_;refine ab.exit ?_;refine rg ?_;refine I V.ah ?_;refine I V.bx ?_;refine I V.aA ?_;refine a8 ?_;refine cA ⟨i+1,pg⟩ ?_;exact⟨by omega,qc⟩
  ·refine aj ?_;refine ab.exit ?_;refine ab.mD rfl fun hle=>?_;refine rg ?_;refine aM ?_;refine ns ?_;refine ab.ret ?_;refine c' ?_;exact⟨hle,rfl,kJ,R,rfl,aI.oy _ _ _,DN⟩
end
end
end Go.Opn

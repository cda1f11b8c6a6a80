/- A part of the proof of ResumeBytes. -/
import Derived.Test.YtkmfhjilfjecmaaGreatDoorCbh
import Derived.Test.YtkmfhjilfjecmaaGreatDoorCbj
import Derived.Test.YtkmfhjilfjecmaaGreatDoorCay
set_option maxRecDepth 100000
set_option maxHeartbeats 4000000
set_option linter.unusedVariables false
set_option linter.unusedSimpArgs false
namespace Go.Opn
noncomputable section
open Go.Cre Go.RowKit Go.Proofs
section
variable {Q:dD Tryz.prog}{g0:Nat}{J:aH}
theorem Xm{b1 b2:Option Addr}{c1 c2:Nat}{cN dW:List Int}(aa:dI J (.slice b1 cN.length c1) cN)(ae:dI J (.slice b2 dW.length c2) dW)(av:cN.length<=1000000):
 Fn (bd Q g0) 48 [.slice b1 cN.length c1,.slice b2 dW.length c2] [] J (fun u m' af=>u=.bool (decide (cN=dW))/\m'=[]/\J=af):=by
 have cO:=aa.iH [];have ed:=ae.iH [];refine Fn.cH (cM Tryz.func48) rfl rfl fun H=>?_;refine rg ?_;refine I V.az ?_;refine bi ?_;refine aM ?_;refine I V.aZ ?_;refine ns ?_;refine If (fun eF=>?_) fun eF=>?_
 ·refine rg ?_;refine I V.az ?_;refine ns ?_;refine ab.ret ?_;refine c5 ?_;refine⟨cD Value.bool ?_,rfl,rfl⟩;first
   |(have c:=bx;symm;rw[l6]
     apply lA
     intro j;by_cases q:j<i
     ·exact bx j q
     ·rw[fo (by omega),fo (by omega)])
   |(symm;rw[mz];intro q;rw[q] at eF;exact eF rfl)
 ·refine aj ?_;refine ab.skip ?_;refine rg ?_;refine I V.az ?_;refine ns ?_;refine ab.block ?_;refine' ab.c0 (l':=[(5,.int .i64 ((0):Int)),(0,_),(1,_)]) ⟨?p2,rfl,rfl,trivial⟩ (bu _) ?_;case p2=>exact bP
  refine aj ?_;refine' ab.rT (α:=(Nat)) (fun(i:Nat)=>[(5,.int .i64 (i:Int))]) (fun(i:Nat)=>i<=cN.length/\∀j,j<i->cN[j]?=dW[j]?) (fun(i:Nat)=>cN.length -i) (0) ?hs ?bA;case hs=>exact⟨cy _,fun j a'=>by omega⟩
  case bA=>
   rintro i hinv;try simp only at hinv
   obtain⟨ao,bx⟩:=hinv;refine rg ?_;refine aM ?_;refine I V.aZ ?_;refine ns ?_;refine If (fun lF=>?_) fun lF=>?_
   ·obtain⟨bm,uC,NC,rfl,P4,pC⟩:=cO (by omega);obtain⟨a2,wj,ND,rfl,ajA,o1⟩:=ed (by omega);obtain⟨aL,G9⟩:=P4.Ri;obtain⟨bk,G'⟩:=ajA.Ri;obtain⟨x,U,e4⟩:=pC i (by omega) (by omega);obtain⟨y,ai,uj⟩:=o1 i (by omega) (by omega);rw[cx] at U ai;refine c7 ?_;refine aj ?_;refine ab.block ?_;refine aj ?_;refine ab.draw rfl (by kernel_rfl) (bc:=[.val 0,.val 1,.val 2,.val 3,.val 4,.val 5,.val 6,.val 7,.val 8]) (by kernel_rfl) ?_;refine cq ?_;refine al rfl V.aW ?_;refine al rfl V.aG ?_;refine cq ?_;refine al rfl V.aW ?_;refine al rfl V.aG ?_;refine al rfl V.aZ ?_;refine a8.nil ?_;refine aj ?_;refine If (fun oM=>?_) fun oM=>?_
    ·refine rg ?_;refine I V.az ?_;refine ns ?_;refine ab.ret ?_;refine c5 ?_;refine⟨cD Value.bool ?_,rfl,rfl⟩;first
       |(have c:=oM;symm;rw[mz];intro q;subst q;rw[U] at ai;injection ai with ai;exact oM ai)
       |(have c:=bx;symm;rw[l6]
         apply lA
         intro j;by_cases q:j<i
         ·exact bx j q
         ·rw[fo (by omega),fo (by omega)])
       |(symm;rw[mz];intro q;rw[q] at eF;exact eF rfl)
    ·refine aj ?_;refine ab.skip ?_;refine rg ?_;refine I V.ag ?_;refine I V.bt ?_;refine I V.az ?_;refine a6 ?_;refine'⟨(i+1),_,?hinv,?ky,rfl,⟨?m5,rfl,rfl,trivial⟩,bu _,rfl⟩;case m5=>exact bP
     case ky=>exact cc
     case hinv=>refine⟨by omega,fun j a'=>?_⟩;by_cases q:j<i;(exact bx j q);(obtain rfl:j=i:=by omega);(rw[U,ai];exact cD some (gQ.1 oM))
   ·refine aj ?_;refine ab.exit ?_;refine rg ?_;refine I V.az ?_;refine ns ?_;refine ab.ret ?_;refine c5 ?_;refine⟨cD Value.bool ?_,rfl,rfl⟩;first
     |(have c:=bx;symm;rw[l6]
       apply lA
       intro j;by_cases q:j<i
       ·exact bx j q
       ·rw[fo (by omega),fo (by omega)])
     |(symm;rw[mz];intro q;rw[q] at eF;exact eF rfl)
theorem Xr{b1 b2:Option Addr}{c1 c2:Nat}{cN dW:List (List Int)}(aa:fc J 22 1 (jW J) (.slice b1 cN.length c1) cN)(ae:fc J 22 1 (jW J) (.slice b2 dW.length c2) dW)(av:cN.length<=1000000)(aw:∀r∈cN,r.length<=1000000):
 Fn (bd Q g0) 26 [.slice b1 cN.length c1,.slice b2 dW.length c2] [] J (fun u m' af=>u=.bool (decide (cN=dW))/\m'=[]/\J=af):=by
 obtain⟨_,Bo⟩:=aa.at;obtain⟨_,vJ⟩:=ae.at;refine Fn.cH (cM Tryz.func26) rfl rfl fun H=>?_;refine rg ?_;refine I V.az ?_;refine bi ?_;refine aM ?_;refine I V.aZ ?_;refine ns ?_;refine If (fun eF=>?_) fun eF=>?_
 ·refine rg ?_;refine I V.az ?_;refine ns ?_;refine ab.ret ?_;refine c5 ?_;refine⟨cD Value.bool ?_,rfl,rfl⟩;first
   |(have c:=bx;symm;rw[l6]
     apply lA
     intro j;by_cases q:j<i
     ·exact bx j q
     ·rw[fo (by omega),fo (by omega)])
   |(symm;rw[mz];intro q;rw[q] at eF;exact eF rfl)
 ·refine aj ?_;refine ab.skip ?_;refine rg ?_;refine I V.az ?_;refine ns ?_;refine ab.block ?_;refine' ab.c0 (l':=[(5,.int .i64 ((0):Int)),(0,_),(1,_)]) ⟨?p2,rfl,rfl,trivial⟩ (bu _) ?_;case p2=>exact bP
  refine aj ?_;refine' ab.rT (α:=(Nat)) (fun(i:Nat)=>[(5,.int .i64 (i:Int))]) (fun(i:Nat)=>i<=cN.length/\∀j,j<i->cN[j]?=dW[j]?) (fun(i:Nat)=>cN.length -i) (0) ?hs ?bA;case hs=>exact⟨cy _,fun j a'=>by omega⟩
  case bA=>
   rintro i hinv;try simp only at hinv
   obtain⟨ao,bx⟩:=hinv;refine rg ?_;refine aM ?_;refine I V.aZ ?_;refine ns ?_;refine If (fun lF=>?_) fun lF=>?_
   ·obtain⟨bm,uC,NC,aL,rfl,G9,pC⟩:=Bo (by omega);obtain⟨a2,wj,ND,bk,rfl,G',o1⟩:=vJ (by omega);obtain⟨x,cs,U,zi,Hz,dK,ha,rfl,H6⟩:=pC i (by omega) (by omega);obtain⟨y,cs,ai,VY,aiF,fO,Uq,rfl,W1⟩:=o1 i (by omega) (by omega);have aiE:=Hz 0 _ (by decide) rfl;have atj:=aiF 0 _ (by decide) rfl;rw[cx] at U ai;have kS:=aw x (cb U);have hR:addrEq dK dK=true:=by obtain⟨e,h⟩:=H6;exact h.addr
    have IY:addrEq fO fO=true:=by obtain⟨e,h⟩:=W1;exact h.addr
    refine c7 ?_;refine aj ?_;refine ab.block ?_;refine aj ?_;refine ab.draw rfl (by kernel_rfl) (bc:=[.val 0,.val 1,.val 2,.val 3,.val 4,.val 5,.val 6,.val 7,.bR 8,.val 9]) (by kernel_rfl) ?_;refine cq ?_;refine al rfl V.aW ?_;refine al rfl V.aG ?_;refine cq ?_;refine al rfl V.aW ?_;refine al rfl V.aG ?_;refine dl rfl (G:=Xm H6 W1 kS) (h:=?_);rintro v m' af hle ⟨rfl,rfl,rfl⟩;refine al rfl V.ou ?_;refine a8.nil ?_;refine aj ?_;refine If (fun nG=>?_) fun nG=>?_
    ·refine rg ?_;refine I V.az ?_;refine ns ?_;refine ab.ret ?_;refine c5 ?_;refine⟨cD Value.bool ?_,rfl,rfl⟩;first
       |(have c:=nG;symm;rw[mz];intro q;subst q;rw[U] at ai;injection ai with ai;exact absurd ai (by simpa using nG))
       |(have c:=bx;symm;rw[l6]
         apply lA
         intro j;by_cases q:j<i
         ·exact bx j q
         ·rw[fo (by omega),fo (by omega)])
       |(symm;rw[mz];intro q;rw[q] at eF;exact eF rfl)
    ·refine aj ?_;refine ab.skip ?_;refine rg ?_;refine I V.ag ?_;refine I V.bt ?_;refine I V.az ?_;refine a6 ?_;refine'⟨(i+1),_,?hinv,?ky,rfl,⟨?m5,rfl,rfl,trivial⟩,bu _,rfl⟩;case m5=>exact bP
     case ky=>exact cc
     case hinv=>refine⟨by omega,fun j a'=>?_⟩;by_cases q:j<i;(exact bx j q);(obtain rfl:j=i:=by omega);(rw[U,ai];exact cD some (by simpa using nG))
   ·refine aj ?_;refine ab.exit ?_;refine rg ?_;refine I V.az ?_;refine ns ?_;refine ab.ret ?_;refine c5 ?_;refine⟨cD Value.bool ?_,rfl,rfl⟩;first
     |(have c:=bx;symm;rw[l6]
       apply lA
       intro j;by_cases q:j<i
       ·exact bx j q
       ·rw[fo (by omega),fo (by omega)])
     |(symm;rw[mz];intro q;rw[q] at eF;exact eF rfl)
theorem Xs{t u:gI}{b1 b2 b3 b4:Option Addr}{c1 c2 c3 p':Nat}(aB:jj J t b1 c1 b2 c2)(hu:jj J u b3 c3 b4 p')(av:t.sum.length<=1000000)(aw:∀r∈t.sum,r.length<=1000000)(c6:t.pl.length<=1000000)(ni:∀r∈t.pl,r.length<=1000000)(h:t=u):
 Fn (bd Q g0) 9 [nu t b1 c1 b2 c2,nu u b3 c3 b4 p'] [] J (fun v m' af=>v=.bool true/\m'=[]/\J=af):=by
 subst h;have bb:addrEq b1 b1=true:=aB.s.addr;have a7:addrEq b2 b2=true:=aB.p.addr;have b8:addrEq b3 b3=true:=hu.s.addr;have fl:addrEq b4 b4=true:=hu.p.addr;refine Fn.cH (cM Tryz.func9) rfl rfl fun H=>?_;refine rg ?_;refine dK fun a2=>?_;refine dK fun a3=>?_;refine I V.az ?_;refine bi ?_;refine I V.ba ?_;refine I V.aG ?_;refine I V.ba ?_;refine I V.aG ?_;refine I V.aZ ?_;refine I V.ag ?_;refine dr 10 (fun Vf=>?_) fun Vf=>?_
 ·refine aX V.ba ?_;refine aX V.aG ?_;refine aX V.ba ?_;refine aX V.aG ?_;refine aX V.aZ ?_;refine I V.aU ?_;refine I V.ag ?_;refine dr 17 (fun Vd=>?_) fun Vd=>?_
  ·refine aX V.ba ?_;refine aX V.aG ?_;refine aX V.ba ?_;refine aX V.aG ?_;refine AN (G:=Xr aB.s hu.s av aw) (h:=?_);rintro v m' af hle ⟨rfl,rfl,rfl⟩;refine I V.aU ?_;refine I V.ag ?_;refine dr 24 (fun Ve=>?_) fun Ve=>?_
   ·refine aX V.ba ?_;refine aX V.aG ?_;refine aX V.ba ?_;refine aX V.aG ?_;refine AN (G:=Xr aB.p hu.p c6 ni) (h:=?_);rintro v m' af hle ⟨rfl,rfl,rfl⟩;refine I V.aU ?_;refine I V.az ?_;refine ns ?_;refine ab.ret ?_;refine c5 ?_;exact⟨by simp[qC],rfl,rfl⟩
   ·exfalso;simp at Ve
  ·exfalso;simp at Vd
 ·exfalso;exact Vf rfl
theorem anN{s:Int}(aa:1<=s)(ae:s<2147483647):Fn (bd Q g0) 60 [.int .i64 s] [] J (fun v m' af=>v=.tuple #[.int .i64 ((48271*s).tmod 2147483647),.int .i64 0]/\m'=[]/\J=af):=by
 refine Fn.cH (cM Tryz.func60) rfl rfl fun H=>?_;refine rg ?_;refine aM ?_;refine a6 ?_;refine fR [0] ?_;refine aj ?_;refine' ab.hl 0 [(9,.bool (decide ((s<1\/2147483647<=s))))] ?mW ?n7;case mW=>
  refine ab.region ?_;refine I V.ag ?_;refine I V.aZ ?_;refine I V.ag ?_;refine dr 6 (fun Kz=>?_) fun Kz=>?_
  ·refine ah ?_;refine ah ?_;refine I V.aU ?_;refine a6 ?_;exact ce
  ·refine aX V.ag ?_;refine aX V.aZ ?_;refine I V.aU ?_;refine a6 ?_;exact ce
 case n7=>
  refine aj ?_;refine If (fun dG=>?_) fun dG=>?_
  ·exfalso;omega
  ·refine aj ?_;refine ab.skip ?_;refine rg ?_;refine I V.ag ?_;refine I V.bt ?_;refine I V.xf ?_;refine aM ?_;refine ns ?_;refine ab.ret ?_;refine c5 ?_;exact⟨rfl,rfl,rfl⟩
end
def hp{α:Type}(sz:Nat)(R:Nat->α->List Value->Prop)(cells:List Value)(xs:List α):Prop:=cells.length=xs.length*sz/\∀i x,xs[i]?=some x->R i x ((cells.drop (i*sz)).take sz)
theorem hp.at{α:Type}{sz:Nat}{R:Nat->α->List Value->Prop}{cells full:List Value}{xs:List α}(h:hp sz R cells xs)(aD:full.take (xs.length*sz)=cells){i:Nat}(ao:i<xs.length):∃x cs,xs[i]?=some x/\takeN sz (nJ (0+i*sz) full)=some cs/\(∀k v,k<sz->nth cs k=some v->nth full (0+i*sz+k)=some v)/\R i x cs:=by
 have aa:=h.2 i _ (dj ao);have hs:i*sz+sz<=xs.length*sz:=by rw[<-po];exact nB _ ao
 have av:xs.length*sz<=full.length:=by
  have:=h.1;rw[<-aD,iu] at this;omega
 refine⟨_,_,dj ao,?_,fun k v aO ay=>?_,aa⟩
 ·rw[lC,tJ,wA (by rw[ms];omega),<-aD,FH,yC,mu (by omega)]
 ·rw[kE,kK,aE aO,q4,<-aD,kK,aE (by omega)] at ay
  rw[kE,lC];exact ay
theorem hp.take{α:Type}{sz:Nat}{R:Nat->α->List Value->Prop}{cells:List Value}{xs:List α}(h:hp sz R cells xs){k:Nat}(aO:k<=xs.length):hp sz R (cells.take (k*sz)) (xs.take k):=by
 have iz:k*sz<=xs.length*sz:=nB _ aO;refine⟨by rw[iu,iu,h.1,mu iz,mu aO],fun i x U=>?_⟩;rw[kK] at U;by_cases q:i<k
 ·rw[aE q] at U
  have hs:i*sz+sz<=k*sz:=by rw[<-po];exact nB _ q
  rw[FH,yC,mu (by omega)];exact h.2 i x U
 ·rw[an q] at U;cases U
theorem hp.app{α:Type}{sz:Nat}{R:Nat->α->List Value->Prop}{cells new:List Value}{xs:List α}{x:α}(h:hp sz R cells xs)(U:R xs.length x new)(aP:new.length=sz):hp sz R (cells++new) (xs++[x]):=by
 refine⟨by rw[dP,dP,h.1,aP,tl,nA,Nat.one_mul],fun i y ai=>?_⟩;by_cases q:i<xs.length
 ·rw[k1 q] at ai
  have hs:i*sz+sz<=xs.length*sz:=by rw[<-po];exact nB _ q
  rw[List.drop_append_of_le_length (by rw[h.1];omega),JN (by rw[ms,h.1];omega)];exact h.2 i y ai
 ·rw[pk (by omega)] at ai
  have bw:i=xs.length:=by
   have:=(dY.1 ai).1;rw[tl] at this;omega
  subst bw;rw[sf] at ai;injection ai with ai;subst ai
  rw[List.drop_left' (by rw[h.1]),eo (by omega)];exact U
abbrev we(ad:Nat)(lv fx:Value)(aY iE:Int)(z s:Bool)(pl:Nat)(fk e':Value):List Value:=[.pointer (some ⟨ad,0,none⟩),lv,fx,.int .i64 aY,.int .i64 iE,.bool z,.bool s,.int .i64 (pl:Int),fk,e']
abbrev nn (a k:Nat):Value:=.slice (some ⟨a,0,none⟩) k cZ
theorem Mx{k:Int}{ns:List cR}:wC k ns=true↔∃(i:Nat) (x:cR),ns[i]?=some x/\x.k=2/\x.i=k:=by
 unfold wC;rw[JE];constructor
 ·rintro⟨x,U,h⟩
  obtain⟨i,ao⟩:=kp.1 U;exact⟨i,x,ao,by simpa using h⟩
 ·rintro⟨i,x,ao,h⟩
  exact⟨x,cb ao,by simpa using h⟩
section
variable {Q:dD Tryz.prog}{g0:Nat}{J:aH}
theorem aer{am ad yR bO g':Nat}{lv:Value}{aY iE:Int}{z s:Bool}{pl:Nat}{mO:List cR}{is:List (Int×Int)}{fv fn zc:List Value}{rv rn iH:List Nat}{er:Nat}{info bZ:Int}
 (aP:hp 6 (fun _=>nC J) (fn.take (mO.length*6)) mO)(bw:0<=info)(aiD:er=is.length)(Hv:0<is.length)(cr:mO.length<=100000)(mE:is.length<=100000):
 Fn (bd Q g0) 52 [.pointer (some ⟨am,0,none⟩),.int .i64 info,.int .i64 bZ] [(am,.row (we ad lv (nn yR er) aY iE z s pl (nn bO mO.length) (nn g' is.length)) 85),(yR,.opn fv 136 rv 0),(bO,.opn fn 47 rn 0),(g',.opn zc 77 iH 0)] J
  (fun u m' af=>J=af/\∃k,m'=[(am,.row (we ad lv (nn yR k) aY iE z s pl (nn bO mO.length) (nn g' k)) 85),(yR,.opn fv 136 rv 0),(bO,.opn fn 47 rn 0),(g',.opn zc 77 iH 0)]/\
     k=if bZ<0\/info≠(is.length:Int) -1 then is.length else if wC info mO=true then is.length else info.toNat):=by
 subst aiD;have fK:=fun i ao=>aP.at rfl (i:=i) ao;refine Fn.cH (cM Tryz.func52) rfl rfl fun H=>?_;refine fR [2,0,1] ?_;refine aj ?_;refine' ab.hl 1 [(19,.bool (decide ((bZ<0\/info≠(is.length:Int) -1))))] ?NI ?ad9;case NI=>
  refine ab.region ?_;refine I V.ag ?_;refine I V.aZ ?_;refine I V.ag ?_;refine dr 9 (fun Oi=>?_) fun Oi=>?_
  ·refine ah ?_;refine ah ?_;refine ah ?_;refine ah ?_;refine ah ?_;refine ah ?_;refine ah ?_;refine ah ?_;refine ah ?_;refine I V.aU ?_;refine a6 ?_;exact ce
  ·refine aX V.ag ?_;refine aX V.ag ?_;refine aX V.pb ?_;refine aX V.ba ?_;refine aX V.ba ?_;refine aX V.aG ?_;refine aX V.bL ?_;refine aX V.bt ?_;refine aX V.aZ ?_;refine I V.aU ?_;refine a6 ?_;exact ce
 case ad9=>
  refine aj ?_;refine If (fun hA=>?_) fun hA=>?_
  ·refine aj ?_;refine ab.ret ?_;refine'⟨.inr rfl,rfl,_,_,.nil,bu _,?_⟩;first
    |(refine⟨rfl,_,rfl,?_⟩;rw[aE hA])
    |(have c8:((is.length:Int) -1)=info:=by omega
      refine⟨rfl,info.toNat,by rw[c8],?_⟩;rw[an hA,an (fun q=>by
          obtain⟨j,y,ai,bb⟩:=Mx.1 q;exact bx j (by have:=(dY.1 ai).1;omega) y ai bb)])
  ·refine aj ?_;refine ab.skip ?_;refine rg ?_;refine I V.az ?_;refine ns ?_;refine ab.block ?_;refine' ab.c0 (l':=[(6,.int .i64 ((0):Int)),(0,_),(1,_)]) ⟨?nv,rfl,rfl,trivial⟩ (bu _) ?_;case nv=>exact bP
   refine aj ?_;refine' ab.rT (α:=(Nat)) (fun(i:Nat)=>[(6,.int .i64 (i:Int))]) (fun(i:Nat)=>i<=mO.length/\∀j,j<i->∀x,mO[j]?=some x->¬(x.k=2/\x.i=info)) (fun(i:Nat)=>mO.length -i) (0) ?hs ?bA;case hs=>exact⟨cy _,fun j a'=>by omega⟩
   case bA=>
    rintro i hinv;try simp only at hinv
    obtain⟨ao,bx⟩:=hinv;refine rg ?_;refine aM ?_;refine I V.aG ?_;refine I V.bL ?_;refine I V.aZ ?_;refine ns ?_;refine If (fun jL=>?_) fun jL=>?_
    ·obtain⟨x,cs,U,zi,Hz,b1,c1,b2,c2,b3,c3,rfl,Vr,asu,asv⟩:=fK i (by omega);have iL:=Hz 0 _ (by decide) rfl;have bk:=Hz 2 _ (by decide) rfl;refine c7 ?_;refine aj ?_;refine ab.block ?_;refine fR [0,1,6] ?_;refine aj ?_;refine' ab.hl 0 [(52,.bool (decide ((x.k=2/\x.i=info))))] ?tF ?tI;case tF=>
      refine ab.region ?_;refine aM ?_;refine I V.aG ?_;refine I V.ag ?_;refine I V.aW ?_;refine I V.ba ?_;refine I V.aG ?_;refine I V.aZ ?_;refine I V.ag ?_;refine dr 40 (fun agw=>?_) fun agw=>?_
      ·
        refine aX V.ag ?_;refine aX V.pb ?_;refine aX V.ba ?_;refine aX V.ba ?_;refine aX V.aG ?_;refine aX V.ag ?_;refine aX V.aW ?_;refine aX V.ba ?_;refine aX V.aG ?_;refine aX V.ag ?_;refine aX V.aZ ?_;refine I V.aU ?_;refine a6 ?_;exact ce
      ·
        refine ah ?_;refine ah ?_;refine ah ?_;refine ah ?_;refine ah ?_;refine ah ?_;refine ah ?_;refine ah ?_;refine ah ?_;refine ah ?_;refine ah ?_;refine I V.aU ?_;refine a6 ?_;exact ce
     case tI=>
      refine aj ?_;refine If (fun n5=>?_) fun n5=>?_
      ·
        refine aj ?_;refine ab.ret ?_;refine'⟨.inr rfl,rfl,_,_,.nil,bu _,?_⟩;first
         |(refine⟨rfl,_,rfl,?_⟩;rw[aE hA])
         |(have c:=n5;refine⟨rfl,_,rfl,?_⟩;rw[an hA,aE (Mx.2 ⟨_,_,U,n5⟩)])
         |(have c8:((is.length:Int) -1)=info:=by omega
           refine⟨rfl,info.toNat,by rw[c8],?_⟩;rw[an hA,an (fun q=>by
               obtain⟨j,y,ai,bb⟩:=Mx.1 q;exact bx j (by have:=(dY.1 ai).1;omega) y ai bb)])
      ·
        refine aj ?_;refine ab.skip ?_;refine rg ?_;refine I V.ag ?_;refine I V.bt ?_;refine I V.az ?_;refine a6 ?_;refine'⟨(i+1),_,?hinv,?ky,rfl,⟨?m6,rfl,rfl,trivial⟩,bu _,rfl⟩;case m6=>exact bP
        case ky=>exact cc
        case hinv=>refine⟨by omega,fun j a' y ai=>?_⟩;by_cases q:j<i;(exact bx j q y ai);(obtain rfl:j=i:=by omega);(rw[U] at ai;injection ai with ai;subst ai;exact n5)
    ·refine aj ?_;refine ab.exit ?_;refine rg ?_;refine aM ?_;refine I V.aG ?_;refine I V.ag ?_;refine' W.step rfl (Exec.val rfl rfl (aaa rfl rfl rfl (Ru Q g0) ?hm ?bw ?aa) ?_);case hm=>repeat first|exact .head _|refine .tail _ ?_|refine hT _ ?_
     case bw=>exact cc
     case aa=>exact cc
     refine aM ?_;refine dC ?_;refine ns ?_;refine ab.draw rfl (by kernel_rfl) (bc:=[.val 0,.val 1,.val 2,.val 3,.val 4,.val 5,.val 6,.val 7,.val 8,.val 9,.val 10,.val 11,.val 12,.val 13,.bR 14]) (by kernel_rfl) ?_;refine cq ?_;refine al rfl V.aG ?_;refine cq ?_;refine al rfl V.aG ?_;refine al rfl V.bL ?_;refine al rfl V.bt ?_;refine' a8.val rfl rfl rfl rfl (aaa rfl rfl rfl (Rw Q g0) ?hm ?bw ?aa) ?_;case hm=>repeat first|exact .head _|refine .tail _ ?_|refine hT _ ?_
     case bw=>exact cc
     case aa=>exact cc
     refine cq ?_;refine kn rfl ?_;refine a8.nil ?_;refine'⟨.inl rfl,rfl,_,_,.nil,bu _,?_⟩;first
        |(refine⟨rfl,_,rfl,?_⟩;rw[aE hA])
        |(have c8:((is.length:Int) -1)=info:=by omega
          refine⟨rfl,info.toNat,by rw[c8],?_⟩;rw[an hA,an (fun q=>by
            obtain⟨j,y,ai,bb⟩:=Mx.1 q;exact bx j (by have:=(dY.1 ai).1;omega) y ai bb)])
end
def C'(J:aH)(i:Nat)(x:jI)(cs:List Value):Prop:=∃b c,cs=[.int .i64 x.bZ,.int .i64 (x.level:Int),.slice b x.seen.length c,.int .i64 (i:Int)]/\dI J (.slice b x.seen.length c) x.seen
def MR(_:Nat)(x:Int×Int)(cs:List Value):Prop:=cs=[.int .i64 x.1,.int .i64 x.2]
open Classical in
theorem U0{v:jI}:∀{l:List jI} {i:Nat},(∀(j:Nat) (x:jI),l[j]?=some x->x≠v)->ku v l i=none:=by
 intro l;induction l with
 |nil=>intro i _;rfl
 |cons w r aI=>
  intro i h;show(if w=v then some i else ku v r (i+1))=none;rw[an (h 0 w rfl)];exact aI fun j x U=>h (j+1) x U
theorem aap{x:jI}{p:Int}{L:Nat}{s:List Int}:x=⟨p,L,s⟩↔x.bZ=p/\x.level=L/\x.seen=s:=by
 constructor
 ·rintro rfl;exact⟨rfl,rfl,rfl⟩
 ·cases x;rintro⟨rfl,rfl,rfl⟩;rfl
open Classical in
theorem afi{v:jI}:∀{l:List jI} {i k:Nat},(∀(j:Nat),j<k->∀x,l[j]?=some x->x≠v)->l[k]?=some v->ku v l i=some (i+k):=by
 intro l;induction l with
 |nil=>intro i k _ h;cases h
 |cons w r aI=>
  intro i k h aO;show(if w=v then some i else ku v r (i+1))=_;cases k with
  |zero=>injection aO with aO;rw[aE aO];rfl
  |succ k=>
   rw[an (h 0 (by omega) w rfl),aI (fun j a' x U=>h (j+1) (by omega) x U) aO];congr 1;omega
theorem hj.iN{e:TypeId}{sz k:Nat}{v:Value}{cells:List Value}{aY:aN}(h:hj e sz v k cells aY):∃b c,v=.slice b k c/\addrEq b b=true:=by
 rcases h with⟨h,_⟩|⟨a,full,rest,rfl,_⟩
 ·exact h.iN
 ·exact⟨_,_,rfl,by show(Nat.beq a a&&Nat.beq 0 0)=true;rw[hz];rfl⟩
theorem amw{α:Type}{x a b:α}{l r:List α}:([x]++(l++a::b::r)).Perm (l++a::b::x::r):=
 (wM (l₁:=l) (l₂:=a::b::r)).symm.trans (At _ ((List.Perm.swap a x _).trans (.cons _ (List.Perm.swap b x _))))
theorem amx{α:Type}{p d a b:α}{l r:List α}:(p::([d]++(l++a::b::r))).Perm (r++(p::d::(l++[a,b]))):=by
 have h:=hU (l₁:=p::d::(l++[a,b])) (l₂:=r);rw[show p::([d]++(l++a::b::r))=(p::d::(l++[a,b]))++r by simp];exact h
theorem Yy{α:Type}{d a:α}{l r:List α}:(r++(d::(l++[a]))).Perm (a::d::(l++r)):=by
 refine(hU (l₁:=r) (l₂:=d::(l++[a]))).trans ?_;rw[show d::(l++[a])++r=d::(l++a::r) by simp];exact(List.Perm.cons _ wM).trans (List.Perm.swap _ _ _)
section
variable {Q:dD Tryz.prog}{g0:Nat}{J:aH}
theorem afk{am ad:Nat}{lv fx fk e':Value}{ag bf:aN}{aY iE:Int}{z s:Bool}{pl:Nat}{cY:Option Addr}{cl a:Nat}{l:List Int}{vs:List jI}{is:List (Int×Int)}{gJ ci:List Value}{bZ:Int}{L:Nat}{b:Option Addr}{c:Nat}{seen:List Int}
 (av:dI J (.slice cY l.length cl) l)(hE:l.length<=1000000)(a1:a<=l.length)
 (ay:hj 136 4 fx vs.length gJ ag)(uc:hp 4 (C' J) gJ vs)(ao:hj 77 2 e' is.length ci bf)(vK:hp 2 MR ci is)(oo:is.length=vs.length)(rQ:vs.length<=100000)
 (hs:dI J (.slice b seen.length c) seen)(lj:∀x∈vs,x.seen.length<=1000000):
 Fn (bd Q g0) 51 [.pointer (some ⟨am,0,none⟩),.int .i64 bZ,.int .i64 (L:Int),.slice b seen.length c] ((am,.row (we ad lv fx aY iE z s pl fk e') 85)::ka ad cY cl l a::(ag++bf)) J
  (fun u m' af=>J=af/\∃ph o8 wg uz NL NA bV kH Ik,∃k:Nat,u=.int .i64 (k:Int)/\m'.Perm ((am,.row (we ad lv ph aY iE z s pl fk o8) 85)::ka ad cY cl l bV::(wg++uz))/\bV<=l.length/\
     hj 136 4 ph kH.length NL wg/\hp 4 (C' J) NL kH/\hj 77 2 o8 Ik.length NA uz/\hp 2 MR NA Ik/\
     ((ku ⟨bZ,L,seen⟩ vs 0=some k/\kH=vs/\Ik=is/\bV=a)\/(ku ⟨bZ,L,seen⟩ vs 0=none/\k=vs.length/\kH=vs++[⟨bZ,L,seen⟩]/\Ik=is++[(bZ,1+ej (l.drop a) 3)]/\bV=kM l a 3))):=by
 obtain⟨bv,arY,rfl,Cn⟩:=ay.iN;obtain⟨aK,acX,rfl,fX⟩:=ao.iN;have K9:addrEq b b=true:=by obtain⟨e,h⟩:=hs;exact h.addr
 refine Fn.cH (cM Tryz.func51) rfl rfl fun H=>?_;refine rg ?_;refine I V.az ?_;refine bi ?_;refine I V.az ?_;refine ns ?_;refine ab.block ?_;refine' ab.c0 (l':=[(9,.int .i64 ((0):Int)),(0,_),(1,_),(2,_),(3,_)]) ⟨?p3,rfl,rfl,rfl,rfl,trivial⟩ (bu _) ?_;case p3=>exact bP
 refine aj ?_;refine' ab.rT (α:=(Nat)) (fun(i:Nat)=>[(9,.int .i64 (i:Int))]) (fun(i:Nat)=>i<=vs.length/\∀j,j<i->∀x,vs[j]?=some x->x≠⟨bZ,L,seen⟩) (fun(i:Nat)=>vs.length -i) (0) ?hs ?bA;case hs=>exact⟨cy _,fun j a'=>by omega⟩
 case bA=>
  rintro i hinv;try simp only at hinv
  obtain⟨lN,bx⟩:=hinv;refine rg ?_;refine aM ?_;refine I V.aG ?_;refine I V.bL ?_;refine I V.aZ ?_;refine ns ?_;refine If (fun yW=>?_) fun yW=>?_
  ·obtain⟨yR,fv,rv,bb,rfl,Pb,sQ⟩:=ay.row (by omega);obtain⟨x,cs,U,zi,Hz,dK,ha,rfl,H6⟩:=uc.at Pb (i:=i) (by omega);injection bb with bb a7 b8;subst bb;subst b8
   have kS:=lj x (cb U);have hR:addrEq dK dK=true:=by obtain⟨e,h⟩:=H6;exact h.addr
   refine c7 ?_;refine aj ?_;refine ab.block ?_;refine rg ?_;refine aM ?_;refine I V.aG ?_;refine I V.ag ?_;refine I V.aW ?_;refine I V.c9 ?_;refine' W.step rfl (.of (eT rfl rfl rfl (aqu Q g0) rfl rfl rfl fun si=>?_));refine dC ?_;refine a6 ?_;refine fR [0,1,2,3,9,10] ?_;refine aj ?_;refine' ab.hl 0 [(42,.bool (decide ((x.bZ=bZ/\x.level=L/\x.seen=seen))))] ?adz ?ael;case adz=>
    refine ab.region ?_;refine I V.ba ?_;refine I V.aG ?_;refine I V.ag ?_;refine I V.aZ ?_;refine I V.ag ?_;refine dr 31 (fun KA=>?_) fun KA=>?_
    ·refine aX V.ba ?_;refine aX V.aG ?_;refine aX V.ag ?_;refine aX V.aZ ?_;refine I V.aU ?_;refine I V.ag ?_;refine dr 37 (fun agD=>?_) fun agD=>?_
     ·refine aX V.ba ?_;refine aX V.aG ?_;refine aX V.ag ?_;refine AN (G:=Xm H6 hs kS) (h:=?_);rintro v m' af hle ⟨rfl,rfl,rfl⟩;refine I V.aU ?_;refine a6 ?_;exact ce
     ·refine ah ?_;refine ah ?_;refine ah ?_;refine W.oU rfl rfl rfl rfl rfl ?_;refine I V.aU ?_;refine a6 ?_;exact ce
    ·refine ah ?_;refine ah ?_;refine ah ?_;refine ah ?_;refine I V.aU ?_;refine I V.ag ?_;refine ah ?_;refine ah ?_;refine ah ?_;refine W.oU rfl rfl rfl rfl rfl ?_;refine I V.aU ?_;refine a6 ?_;exact ce
   case ael=>
    refine aj ?_;refine If (fun vj=>?_) fun vj=>?_
    ·refine rg ?_;refine I V.ba ?_;refine I V.aG ?_;refine I V.az ?_;refine ns ?_;refine ab.ret ?_;refine'⟨.inr rfl,rfl,_,_,.tmp rfl .nil,?kz,?_⟩;case kz=>first|(have c:=vj;apply List.Sublist.cons;exact bu _)|exact(List.Sublist.cons _ (List.Sublist.cons_cons _ ((List.Sublist.cons _ (bu _)).append_left _))).append_left _
     first
        |(have c:=vj
          obtain rfl:=aap.2 vj;have aD:=afi (i:=0) bx U;rw[lC] at aD;exact⟨rfl,_,_,_,_,_,_,_,_,_,i,rfl,.refl _,a1,ay,uc,ao,vK,.inl ⟨aD,rfl,rfl,rfl⟩⟩)
        |(refine⟨rfl,_,_,_,_,_,_,_,_,_,vs.length,?_,Yy,tv a1,?_,uc.app (x:=⟨bZ,L,seen⟩) (new:=[.int .i64 bZ,.int .i64 (L:Int),.slice b seen.length c,.int .i64 (vs.length:Int)]) ⟨b,c,rfl,hs⟩ rfl,?_,vK.app (x:=(bZ,1+ej (l.drop a) 3)) (new:=[.int .i64 bZ,.int .i64 (1+ej (l.drop a) 3)]) rfl rfl,.inr ⟨U0 fun j y ai=>bx j (by have:=(dY.1 ai).1;omega) y ai,rfl,rfl,rfl,rfl⟩⟩
          ·show Value.int .i64 _=_;congr 1;omega
          ·rw[dP,<-oo];rw[<-oo] at Ho;exact Ho
          ·rw[dP];rw[hw] at Bk;exact Bk)
    ·refine aj ?_;refine ab.skip ?_;refine rg ?_;refine I V.ag ?_;refine I V.bt ?_;refine I V.az ?_;refine a6 ?_;refine'⟨(i+1),_,?hinv,?ky,rfl,⟨?m9,rfl,rfl,rfl,rfl,trivial⟩,.cons _ (.refl _),rfl⟩;case m9=>exact bP
     case ky=>exact cc
     case hinv=>refine⟨by omega,fun j a' y ai=>?_⟩;by_cases q:j<i;(exact bx j q y ai);(obtain rfl:j=i:=by omega);(rw[U] at ai;injection ai with ai;subst ai;exact fun q=>vj (aap.1 q))
  ·refine aj ?_;refine ab.exit ?_;refine aj ?_;refine ab.draw rfl (by kernel_rfl) (bc:=[.val 0,.val 1,.val 2,.val 3,.val 4,.val 5,.val 6,.val 7,.val 8,.val 9,.val 10,.val 11,.val 12,.val 13,.val 14,.gk 15,.cA [14,13,12,11,10,9,8,7,6,5,4,3,2,1,0],.bR 16,.val 17,.val 18,.cA [0],.bR 19]) (by kernel_rfl) ?_;refine cq ?_;refine al rfl V.aG ?_;refine cq ?_;refine al rfl V.aG ?_;refine al rfl V.bL ?_;refine al rfl V.jl ?_;refine a8.buildSlice rfl rfl rfl rfl rfl rfl (Rw Q g0) rfl rfl rfl fun aqU=>?_;refine a8.cA eX ?_;refine' a8.fP rfl rfl (R4 rfl rfl rfl rfl rfl rfl (Rw Q g0) (ao' Q g0) (fun i q=>by cases q) ?cw ?hm ?U ?cr ?ca ?a' ?av fun avq alg Ho=>?_);case cw=>assumption
   case hm=>exact s'
   case U=>exact hR
   case cr=>first|rfl|(simp;done)|(simp;omega)
   case ca=>first|rfl|exact hf _
   case a'=>exact cc
   case av=>exact cc
   obtain⟨aq8,mx,rfl,auC⟩:=Ho.iN;refine cq ?_;refine a8.cA eX ?_;refine kn rfl ?_;refine a8.nil ?_;refine aj ?_;refine ab.draw rfl (by kernel_rfl) (bc:=[.val 0,.val 1,.val 2,.val 3,.val 4,.val 5,.val 6,.val 7,.val 8,.val 9,.val 10,.bR 11,.val 12,.val 13,.gk 14,.cA [13,12,6,5,4,3,2,1,0],.bR 15,.val 16,.val 17,.val 18,.cA [0],.bR 19]) (by kernel_rfl) ?_;refine cq ?_;refine al rfl V.aG ?_;refine cq ?_;refine al rfl V.aG ?_;have hw:IntKind.i64.wrap (1+ej (l.drop a) 3)=1+ej (l.drop a) 3:=wrap_i64 (by have:=pN (l:=l.drop a) (n:=3) (by omega);omega) (by have:=pN (l:=l.drop a) (n:=3) (by omega);omega);refine' a8.call rfl rfl rfl rfl rfl rfl rfl rfl rfl rfl (bf:=[ka ad cY cl l a]) (bM:=alg++_::_::bf) amw trivial (B7 av hE a1 (by decide)) ?_;rintro v m' af hle ⟨rfl,rfl,rfl⟩;refine al rfl V.bt ?_;refine al rfl V.jl ?_;refine a8.buildSlice rfl rfl rfl rfl rfl rfl (Ru Q g0) rfl rfl rfl fun abl=>?_;refine a8.cA eX ?_;refine' a8.fP rfl rfl (R4 rfl rfl rfl rfl rfl rfl (Ru Q g0) (ao7 Q g0) (fun i q=>by cases q) ?cw ?hm ?U ?cr ?ca ?a' ?av fun aau XP Bk=>?_);case cw=>assumption
   case hm=>exact amx
   case U=>exact hR
   case cr=>first|rfl|(simp;done)|(simp;omega)
   case ca=>first|rfl|exact hf _
   case a'=>exact cc
   case av=>exact cc
   obtain⟨aq9,sv,rfl,auD⟩:=Bk.iN;refine cq ?_;refine a8.cA eX ?_;refine kn rfl ?_;refine a8.nil ?_;refine rg ?_;refine aM ?_;refine I V.aG ?_;refine I V.bL ?_;refine I V.bt ?_;refine I V.az ?_;refine ns ?_;refine ab.ret ?_;refine'⟨.inr rfl,rfl,_,_,.tmp rfl .nil,?kz,?_⟩;case kz=>first|(have c:=vj;apply List.Sublist.cons;exact bu _)|exact(List.Sublist.cons _ (List.Sublist.cons_cons _ ((List.Sublist.cons _ (bu _)).append_left _))).append_left _
   first
    |(refine⟨rfl,_,_,_,_,_,_,_,_,_,vs.length,?_,Yy,tv a1,?_,uc.app (x:=⟨bZ,L,seen⟩) (new:=[.int .i64 bZ,.int .i64 (L:Int),.slice b seen.length c,.int .i64 (vs.length:Int)]) ⟨b,c,rfl,hs⟩ rfl,?_,vK.app (x:=(bZ,1+ej (l.drop a) 3)) (new:=[.int .i64 bZ,.int .i64 (1+ej (l.drop a) 3)]) rfl rfl,.inr ⟨U0 fun j y ai=>bx j (by have:=(dY.1 ai).1;omega) y ai,rfl,rfl,rfl,rfl⟩⟩
      ·show Value.int .i64 _=_;congr 1;omega
      ·rw[dP,<-oo];rw[<-oo] at Ho;exact Ho
      ·rw[dP];rw[hw] at Bk;exact Bk)
end
end
end Go.Opn

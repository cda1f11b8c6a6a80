/- A part of the proof of ResumeBytes. -/
import Derived.Test.YtkmfhjilfjecmaaGreatDoorCbq
set_option maxRecDepth 100000
set_option maxHeartbeats 8000000
set_option linter.unusedVariables false
set_option linter.unusedSimpArgs false
namespace Go.Opn
noncomputable section
open Go.Cre Go.RowKit Go.Proofs
theorem ZO{a b:Int}:-(a.natAbs:Int)<=a.tdiv b/\a.tdiv b<=(a.natAbs:Int):=by
 have h:(a.tdiv b).natAbs<=a.natAbs:=by rw[Int.natAbs_tdiv];exact Nat.div_le_self _ _
 omega
section
variable {Q:dD Tryz.prog}{g0:Nat}{B:dV}{o:Oper}{n:Nat}{ds:e7}{l:List (Nat×Value)}{m:aN}{J:aH}
theorem V.y5{t eS:TypeId}{x y:Operand}{a b:Int}(ar:o.op=.binOp .quo t x y eS:=by exact rfl) (U:b6 l x=some (.int .i64 a):=by exact rfl) (ai:b6 l y=some (.int .i64 b):=by exact rfl) (ap:b≠0:=by first|decide|omega) (aa:-9223372036854775807<=a:=by omega) (ae:a<=9223372036854775807:=by omega):dm (bd Q g0) B o n ds l m J (.int .i64 (a.tdiv b)):=by
 have c8:=ZO (a:=a) (b:=b);exact Z5 ar U ai (by show some (Value.int .i64 (IntKind.i64.wrap (a.tdiv b)))=_;rw[wrap_i64 (by omega) (by omega)]) ap
end
def lu(l:List Int):List Int:=l.map fun v=>max 0 v
theorem YG{l:List Int}{k:Nat}{x:Int}(h:l[k]?=some x):(lu l)[k]?=some (max 0 x):=by unfold lu;rw[oF,h];rfl
theorem IW{l:List Int}:∀v∈lu l,0<=v:=fun v ay=>by
 unfold lu at ay;obtain⟨x,_,rfl⟩:=uZ.1 ay;exact Int.le_max_left _ _
theorem amY{l:List Int}{b:Int}(ap:0<=b)(h:∀v∈l,v<=b):∀v∈lu l,v<=b:=fun v ay=>by
 unfold lu at ay;obtain⟨x,U,rfl⟩:=uZ.1 ay;exact Int.max_le.2 ⟨ap,h x U⟩
def mL(l:List Int):Int:=if(lu l).sum=0 then l.length else(lu l).sum
def z6(l:List Int)(i:Nat):Int:=if(lu l).sum=0 then i else((lu l).take i).sum
theorem Zv{l:List Int}(h:1<=l.length):0<mL l:=by
 unfold mL;have:=z8 (l:=lu l) IW;split<;>omega
theorem aoe{D s W w:Int}(jt:0<D)(h:D*s<=65536*W)(hw:0<=w):D*(s+(65536*w).tdiv D)<=65536*(W+w)/\0<=(65536*w).tdiv D:=by
 have aa:0<=65536*w:=by omega
 have ae:D*(65536*w).tdiv D<=65536*w:=by
  rw[Sw aa];exact Int.mul_ediv_self_le (by omega)
 refine⟨?_,Int.tdiv_nonneg aa (by omega)⟩;rw[Su];omega
def wS(l L:List Int)(i:Nat)(left:Int):Prop:=L.length=l.length/\(∀v∈L,0<=v)/\(∀j:Nat,i<=j->j<l.length->L[j]?=some 0)/\left=65536 -L.sum/\mL l*L.sum<=65536*z6 l i
theorem wS.zero{l:List Int}(h:1<=l.length):wS l (List.replicate l.length 0) 0 65536:=by
 have hs:(List.replicate l.length (0:Int)).sum=0:=by
  have aa:=Mk (l:=List.replicate l.length (0:Int)) (b:=0) fun v ay=>by rw[wL ay];omega
  have ae:=z8 (l:=List.replicate l.length (0:Int)) fun v ay=>by rw[wL ay];omega
  omega
 refine⟨by simp,fun v ay=>by rw[wL ay];omega,fun j _ a'=>by rw[C1,aE a'],by rw[hs];rfl,?_⟩;rw[hs];unfold z6;split<;>simp
theorem wS.step{l L:List Int}{i:Nat}{left w:Int}(h:wS l L i left)(av:1<=l.length)(ao:i<l.length)(hw:0<=w)(jM:z6 l (i+1)=z6 l i+w):wS l (L.set i ((65536*w).tdiv (mL l))) (i+1) (left -(65536*w).tdiv (mL l))/\(L.set i ((65536*w).tdiv (mL l)))[i]?=some ((65536*w).tdiv (mL l))/\0<=(65536*w).tdiv (mL l)/\(65536*w).tdiv (mL l)<=65536*w:=by
 obtain⟨aa,ae,aF,bo,eB⟩:=h;obtain⟨s1,s2⟩:=aoe (Zv av) eB hw;have bw:=aF i (cW _) ao;have HW:=ZJ (y:=(65536*w).tdiv (mL l)) bw;have c8:(65536*w).tdiv (mL l)<=65536*w:=by have:=ZO (a:=65536*w) (b:=mL l);omega
 refine⟨⟨by rw[fz];exact aa,fun v ay=>?_,fun j atb V7=>?_,by rw[HW];omega,?_⟩,by rw[kJ,aE rfl,aE (by omega)],s2,c8⟩
 ·rcases Ay ay with q|q
  ·exact ae v q
  ·rw[q];exact s2
 ·rw[kJ,an (by omega)];exact aF j (by omega) V7
 ·rw[HW,jM,Int.sub_zero];exact s1
def AB(l L:List Int)(left:Int):Prop:=L.length=l.length/\(∀v∈L,0<=v)/\left=65536 -L.sum/\0<=left
theorem AB.step{l L:List Int}{k:Nat}{x left:Int}(h:AB l L left)(U:L[k]?=some x)(bw:0<left):AB l (L.set k (x+1)) (left -1):=by
 obtain⟨aa,ae,aF,bo⟩:=h;refine⟨by rw[fz];exact aa,fun v ay=>?_,by rw[ZJ U];omega,by omega⟩;rcases Ay ay with q|q
 ·exact ae v q
 ·rw[q];have:=ae x (cb U);omega
theorem AB.le{l L:List Int}{left x:Int}{k:Nat}(h:AB l L left)(U:L[k]?=some x):0<=x/\x<=65536:=by
 obtain⟨aa,ae,aF,bo⟩:=h;have:=Ml ae U;exact⟨ae x (cb U),by omega⟩
theorem aod{l:List Int}{i:Nat}(ao:i<=l.length):z6 l i<=mL l:=by
 unfold z6 mL;split
 ·omega
 ·exact(r6 IW i).2
theorem wS.IE{l L:List Int}{i:Nat}{left:Int}(h:wS l L i left)(av:1<=l.length)(ao:i<=l.length):0<=left/\left<=65536:=by
 obtain⟨aa,ae,aF,bo,eB⟩:=h;have jM:=aod ao;have jt:=Zv av;have bw:=z8 ae;have:L.sum<=65536:=by
  apply qW
  intro q;have ht:mL l*65537<=mL l*L.sum:=Sv (by omega) (by omega);omega
 omega
section
variable {Q:dD Tryz.prog}{g0:Nat}{J:aH}
theorem aof{l:List Int}{b:Option Addr}{c:Nat}(av:dI J (.slice b l.length c) l)(bX:1<=l.length)(de:l.length<=60)(ap:∀v∈l,v<=70368744177664):
 Fn (bd Q g0) 79 [.slice b l.length c] [] J (fun u m' af=>J.le af/\m'=[]/\∃b c L,u=.slice b l.length c/\dI af u L/\L.length=l.length/\(∀v∈L,0<=v)/\L.sum=65536):=by
 have kf:=av.ja;have WG:=Mk (amY (l:=l) (b:=70368744177664) (by omega) ap);rw[show(lu l).length=l.length by unfold lu;simp] at WG;have Et:=z8 (l:=lu l) IW;refine Fn.cH (cM Tryz.func79) rfl rfl fun H=>?_;refine rg ?_;refine I V.az ?_;refine bi ?_;refine aM ?_;refine bi ?_;refine I V.az ?_;refine ns ?_;refine ab.block ?_;refine' ab.c0 (l':=[(4,.int .i64 (0)),(5,.int .i64 ((0):Int)),(0,_),(3,_)]) ⟨?j4,?p2,rfl,rfl,trivial⟩ (bu _) ?_;case j4=>exact bP
 case p2=>exact bP
 refine aj ?_;refine' ab.rT (α:=(Nat)×(Int)) (fun(bC:(Nat)×(Int))=>match bC with|(i,s)=>[(4,.int .i64 s),(5,.int .i64 (i:Int))]) (fun(bC:(Nat)×(Int))=>match bC with|(i,s)=>i<=l.length/\s=((lu l).take i).sum) (fun(bC:(Nat)×(Int))=>match bC with|(i,s)=>l.length -i) ⟨0,0⟩ ?hs ?bA
 case hs=>exact⟨cy _,rfl⟩
 case bA=>
  rintro⟨i,s⟩ hinv;try simp only at hinv
  obtain⟨ao,hs⟩:=hinv;refine rg ?_;refine aM ?_;refine I V.aZ ?_;refine ns ?_;refine If (fun yW=>?_) fun yW=>?_
  ·obtain⟨mw,i',oP,e,rfl,rs,ic⟩:=kf (by omega);obtain⟨x,U,e4⟩:=ic i (by omega);have ig:=Fg (YG U);have jN:=r6 (l:=lu l) IW (i+1);have BI:=r6 (l:=lu l) IW i;refine c7 ?_;refine aj ?_;refine ab.block ?_;refine rg ?_;refine aM ?_;refine I V.aW ?_;refine I V.aG ?_;refine' W.step rfl (Exec.val rfl rfl (Mz rfl rfl rfl rfl rfl) ?_);refine I V.bt ?_;refine I V.az ?_;refine bi ?_;refine I V.ag ?_;refine I V.bt ?_;refine I V.az ?_;refine a6 ?_;refine'⟨⟨i+1,s+max 0 x⟩,_,?hinv,?ky,rfl,⟨?m4,?m5,rfl,rfl,trivial⟩,bu _,rfl⟩;case m4=>exact bP
   case m5=>exact bP
   case ky=>exact cc
   case hinv=>exact⟨by omega,by omega⟩
  ·refine aj ?_;refine ab.exit ?_;obtain rfl:s=(lu l).sum:=by rw[hs,eo (by unfold lu;simp;omega)]
   refine aj ?_;refine ab.draw rfl (by kernel_rfl) (bc:=[.val 0,.gk 1,.val 2,.gk 3,.val 4,.val 5,.cA [2,0]]) (by kernel_rfl) ?_;refine al rfl V.ag ?_;refine a8.makeSlice rfl rfl rfl rfl rfl rfl rfl (e0 Q g0) ?bw ?aa ?ae fun a28=>?_;case bw=>exact cc
   case aa=>exact cc
   case ae=>exact cc
   refine al rfl V.ag ?_;refine a8.makeSlice rfl rfl rfl rfl rfl rfl rfl (e0 Q g0) ?bw ?aa ?ae fun FW=>?_;case bw=>exact cc
   case aa=>exact cc
   case ae=>exact cc
   refine cq ?_;refine a8.cA eX ?_;refine a8.nil ?_;rw[yv,cx];refine rg ?_;refine I V.az ?_;refine bi ?_;refine I V.az ?_;refine ns ?_;refine ab.block ?_;refine' ab.c0 (l':=[(8,.int .i64 (65536)),(9,.int .i64 ((0):Int)),(0,_),(3,_),(4,_),(6,_),(7,_)]) ⟨?jC,?p3,rfl,rfl,rfl,rfl,rfl,trivial⟩ (bu _) ?_;case jC=>exact bP
   case p3=>exact bP
   refine aj ?_;refine' ab.dF (fun(bC:Nat×Int×(List Int)×(List Int))=>match bC with|(i,left,L,R)=>⟨[(8,.int .i64 left),(9,.int .i64 (i:Int))],[ll FW R,ll a28 L],J,i<=l.length/\wS l L i left/\R.length=l.length,l.length -i⟩) ⟨0,65536,List.replicate l.length 0,List.replicate l.length 0⟩ ?hs ?bA
   case hs=>exact⟨cy _,wS.zero bX,by simp⟩
   case bA=>
    rintro⟨i,left,L,R⟩ hinv;try simp only at hinv
    obtain⟨ao,aJ,ei⟩:=hinv;refine rg ?_;refine aM ?_;refine I V.aZ ?_;refine ns ?_;refine If (fun ps=>?_) fun ps=>?_
    ·have D2:=aJ.1;refine c7 ?_;refine aj ?_;refine ab.block ?_;refine rg ?_;refine I V.ag ?_;refine I V.aZ ?_;refine ns ?_;refine If (fun oN=>?_) fun oN=>?_
     ·have jt:mL l=l.length:=by unfold mL;rw[aE oN]
      have dw:=aJ.step bX (by omega) (w:=1) (by omega) (by unfold z6;rw[aE oN,aE oN];omega);rw[jt,Int.mul_one] at dw;have qq:=dw.1.IE bX (by omega);have jw:=aJ.IE bX (by omega);have aiU:=nm (off:=0+i*1) i dw.2.1 (by omega);refine rg ?_;refine aM ?_;refine I V.y5 ?_;refine I V.aW ?_;refine' W.step rfl (.of (hy rfl rfl rfl rfl (fQ rfl) rfl rfl rfl ?aa ?hs ?au ?_));case au=>repeat first|exact .head _ _ _ _|apply cQ.tail|apply cQ.app
      case hs=>exact jA i (by omega)
      case aa=>first|rfl|assumption
      refine I V.aW ?_;refine' W.step rfl (.of (hy rfl rfl rfl rfl (fQ rfl) rfl rfl rfl ?aa ?hs ?au ?_));case au=>repeat first|exact .head _ _ _ _|apply cQ.tail|apply cQ.app
      case hs=>exact jA i (by omega)
      case aa=>first|rfl|assumption
      refine bi ?_;refine aM ?_;refine I V.aW ?_;refine I V.aG ?_;refine I V.bt ?_;refine I V.az ?_;refine bi ?_;refine I V.ag ?_;refine I V.bt ?_;refine I V.az ?_;refine a6 ?_;refine cB ⟨i+1,left -(65536:Int).tdiv l.length,L.set i ((65536:Int).tdiv l.length),R.set i 1⟩ ?_;exact⟨by omega,dw.1,by rw[fz];exact ei⟩
     ·obtain⟨mw,i',oP,e,rfl,rs,ic⟩:=kf (by omega);obtain⟨x,U,e4⟩:=ic i (by omega);have jt:mL l=(lu l).sum:=by unfold mL;rw[an oN]
      have dw:=aJ.step bX (by omega) (w:=max 0 x) (by omega) (by unfold z6;rw[an oN,an oN];exact Fg (YG U));rw[jt] at dw;have qq:=dw.1.IE bX (by omega);have jw:=aJ.IE bX (by omega);have aiU:=nm (off:=0+i*1) i dw.2.1 (by omega);have H7:=ap x (cb U);refine rg ?_;refine aM ?_;refine I V.aW ?_;refine I V.aG ?_;refine' W.step rfl (Exec.val rfl rfl (Mz rfl rfl rfl rfl rfl) ?_);refine I V.bt ?_;refine I V.az ?_;refine ns ?_;refine ab.draw rfl (by kernel_rfl) (bc:=[.val 0,.val 1,.val 2,.val 3,.val 4,.val 5,.val 6,.val 7,.val 8,.val 9,.val 10,.bR 11,.val 12,.cA [9,8,7,3,2],.bR 13]) (by kernel_rfl) ?_;refine cq ?_;refine al rfl V.y5 ?_;refine cq ?_;refine al rfl V.xf ?_;refine al rfl V.aW ?_;refine' a8.fP rfl rfl (hy rfl rfl rfl rfl (fQ rfl) rfl rfl rfl ?aa ?hs ?au ?_);case au=>repeat first|exact .head _ _ _ _|apply cQ.tail|apply cQ.app
      case hs=>exact jA i (by omega)
      case aa=>first|rfl|assumption
      refine al rfl V.aW ?_;refine a8.cA eX ?_;refine' a8.fP rfl rfl (hy rfl rfl rfl rfl (fQ rfl) rfl rfl rfl ?aa ?hs ?au ?_);case au=>repeat first|exact .head _ _ _ _|apply cQ.tail|apply cQ.app
      case hs=>exact jA i (by omega)
      case aa=>first|rfl|assumption
      refine a8.nil ?_;refine rg ?_;refine aM ?_;refine I V.aW ?_;refine I V.aG ?_;refine I V.bt ?_;refine I V.az ?_;refine bi ?_;refine I V.ag ?_;refine I V.bt ?_;refine I V.az ?_;refine a6 ?_;refine cB ⟨i+1,left -(65536*max 0 x).tdiv (lu l).sum,L.set i ((65536*max 0 x).tdiv (lu l).sum),R.set i ((65536*max 0 x).tmod (lu l).sum)⟩ ?_;exact⟨by omega,dw.1,by rw[fz];exact ei⟩
    ·have qq:=aJ.IE bX (by omega);have ag3:AB l L left:=⟨aJ.1,aJ.2.1,aJ.2.2.2.1,qq.1⟩;refine aj ?_;refine ab.exit ?_;refine aj ?_;refine ab.block ?_;refine' ab.c0 (l':=[(8,.int .i64 (left)),(3,_),(6,_),(7,_)]) ⟨?jC,rfl,rfl,rfl,trivial⟩ (bu _) ?_;case jC=>exact bP
     refine aj ?_;refine' ab.dF (fun(bC:Int×(List Int)×(List Int))=>match bC with|(EI,M,S)=>⟨[(8,.int .i64 EI)],[ll FW S,ll a28 M],J,AB l M EI/\S.length=l.length,EI.toNat⟩) ⟨left,L,R⟩ ?hs ?bA
     case hs=>exact⟨ag3,ei⟩
     case bA=>
      rintro⟨EI,M,S⟩ hinv;try simp only at hinv
      obtain⟨tT,ax⟩:=hinv;refine rg ?_;refine I V.ag ?_;refine I V.aZ ?_;refine ns ?_;refine If (fun Ns=>?_) fun Ns=>?_
      ·
        have asO:=tT.1;have asN:EI<=65536:=by have:=tT.2.2.1;have:=z8 tT.2.1;omega
        refine c7 ?_;refine aj ?_;refine ab.block ?_;refine rg ?_;refine I V.az ?_;refine bi ?_;refine I V.az ?_;refine ns ?_;refine ab.block ?_;refine' ab.c0 (l':=[(11,.int .i64 ((0):Int)),(12,.int .i64 ((1):Int)),(3,_),(6,_),(7,_),(8,_)]) ⟨?yp,?uQ,rfl,rfl,rfl,rfl,trivial⟩ (bu _) ?_;case yp=>exact bP
        case uQ=>exact bP
        refine aj ?_;refine' ab.dF (fun(bC:Nat×Nat)=>match bC with|(k,aY)=>⟨[(11,.int .i64 (aY:Int)),(12,.int .i64 (k:Int))],[ll FW S,ll a28 M],J,aY<l.length/\1<=k/\k<=l.length,l.length -k⟩) ⟨1,0⟩ ?hs ?bA
        case hs=>exact⟨by omega,by omega,by omega⟩
        case bA=>
         rintro⟨k,aY⟩ hinv;try simp only at hinv
         obtain⟨zm,nf,qo⟩:=hinv;refine rg ?_;refine aM ?_;refine I V.aZ ?_;refine ns ?_;refine If (fun pt=>?_) fun pt=>?_
         ·have PM:=nm (off:=0+k*1) k (dj (l:=S) (i:=k) (by omega)) (by omega);have Bz:=nm (off:=0+aY*1) aY (dj (l:=S) (i:=aY) (by omega)) (by omega);refine c7 ?_;refine aj ?_;refine ab.block ?_;refine aj ?_;refine ab.draw rfl (by kernel_rfl) (bc:=[.val 0,.val 1,.val 2,.val 3,.val 4,.val 5,.val 6,.val 7,.val 8]) (by kernel_rfl) ?_;refine cq ?_;refine al rfl V.aW ?_;refine al rfl V.aG ?_;refine cq ?_;refine al rfl V.aW ?_;refine al rfl V.aG ?_;refine al rfl V.aZ ?_;refine a8.nil ?_;refine aj ?_;refine If (fun tA=>?_) fun tA=>?_
          ·refine rg ?_;refine aM ?_;refine bi ?_;refine I V.ag ?_;refine I V.bt ?_;refine I V.az ?_;refine a6 ?_;refine cB ⟨k+1,k⟩ ?_;exact⟨by omega,by omega,by omega⟩
          ·refine aj ?_;refine ab.skip ?_;refine rg ?_;refine I V.ag ?_;refine I V.bt ?_;refine I V.az ?_;refine a6 ?_;refine cB ⟨k+1,aY⟩ ?_;exact⟨by omega,by omega,by omega⟩
         ·refine aj ?_;refine ab.exit ?_;have aj9:=dj (l:=M) (i:=aY) (by omega);obtain⟨y,ai⟩:∃y,M[aY]?=some y:=⟨_,aj9⟩;have atU:=tT.le ai;have uj:=nm (off:=0+aY*1) aY ai (by omega);refine rg ?_;refine aM ?_;refine I V.aW ?_;refine I V.aG ?_;refine I V.bt ?_;refine I V.aW ?_;refine' W.step rfl (.of (hy rfl rfl rfl rfl (fQ rfl) rfl rfl rfl ?aa ?hs ?au ?_));case au=>repeat first|exact .head _ _ _ _|apply cQ.tail|apply cQ.app
          case hs=>exact jA aY (by omega)
          case aa=>first|rfl|assumption
          refine bi ?_;refine aM ?_;refine I V.aW ?_;refine' W.step rfl (.of (hy rfl rfl rfl rfl (fQ rfl) rfl rfl rfl ?aa ?hs ?au ?_));case au=>repeat first|exact .head _ _ _ _|apply cQ.tail|apply cQ.app
          case hs=>exact jA aY (by omega)
          case aa=>first|rfl|assumption
          refine bi ?_;refine I V.ag ?_;refine I V.bt ?_;refine I V.az ?_;refine a6 ?_;refine cB ⟨EI -1,M.set aY (y+1),S.set aY (-1)⟩ ?_;exact⟨tT.step ai (by omega),by rw[fz];exact ax⟩
      ·
        refine aj ?_;refine ab.exit ?_;refine ab.gN (m':=[_,_]) (fN 1 rfl (fN 0 rfl .nil)) ?_;refine ab.mJ rfl fun hle=>?_;refine rg ?_;refine aM ?_;refine ns ?_;refine ab.ret ?_;refine c5 ?_;refine⟨hle,rfl,some ⟨a28,0,none⟩,l.length,M,rfl,?_,tT.1,tT.2.1,by have:=tT.2.2.1;have:=tT.2.2.2;omega⟩;have:=dI.lit (a:=a28) (l:=M) (e:=3) (by have:=tT.1;exact wN (show M.length<=60 by omega) (by decide)) (aH.oL J a28 (M.map (Value.int .i64),3));rwa [tT.1] at this
end
def mS(P:Nat->List Int->Prop)(J:aH)(i:Nat)(cells:List Value)(S:List (List Int)):Prop:=cells.length=i/\S.length=i/\∀(j:Nat) r w,S[j]?=some r->cells[j]?=some w->dI J w r/\P j r
theorem mS.mono{P:Nat->List Int->Prop}{J af:aH}{i:Nat}{cells:List Value}{S:List (List Int)}(hle:J.le af)(h:mS P J i cells S):mS P af i cells S:=
 ⟨h.1,h.2.1,fun j r w aa ae=>⟨(h.2.2 j r w aa ae).1.mono hle,(h.2.2 j r w aa ae).2⟩⟩
theorem mS.nil{P:Nat->List Int->Prop}{J:aH}:mS P J 0 [] []:=⟨rfl,rfl,fun j r w h _=>by cases h⟩
theorem mS.app{P:Nat->List Int->Prop}{J:aH}{i:Nat}{cells:List Value}{S:List (List Int)}{r:List Int}{w:Value}(h:mS P J i cells S)(aa:dI J w r)(ae:P i r):mS P J (i+1) (cells++[w]) (S++[r]):=by
 obtain⟨bl,bp,bQ⟩:=h;refine⟨by simp[bl],by simp[bp],fun j dx br g1 g2=>?_⟩;rcases vD g1 with q|⟨bb,a7⟩
 ·rcases vD g2 with p|⟨dH,hP⟩
  ·exact bQ j dx br q p
  ·have:=eU q;omega
 ·rcases vD g2 with p|⟨dH,hP⟩
  ·have:=eU p;omega
  ·rw[a7,hP,bb,bp];exact⟨aa,ae⟩
theorem mS.sA{P:Nat->List Int->Prop}{J:aH}{e:TypeId}{i:Nat}{cells:List Value}{S:List (List Int)}{v:Value}(h:mS P J i cells S)(ay:hL J e 1 v i cells):fc J e 1 (jW J) v S:=by
 obtain⟨bl,bp,bQ⟩:=h;refine⟨cells,by rw[bp];exact ay,fun j r aw=>?_⟩;have a':=eU aw;have aC:=dj (l:=cells) (i:=j) (by omega);have aL:(cells.drop (j*1)).take 1=[cells[j]]:=by rw[yE,ny (by omega)];rfl
 rw[aL];have aa:=(bQ j r _ aw aC).1;obtain⟨b,c,ap,_⟩:=aa.inv;rw[ap] at aa ⊢;exact⟨b,c,rfl,aa⟩
theorem amt{α:Type}{x:α}{aY R:List α}:(x::([]++(aY++R))).Perm (aY++x::R):=by
 rw[k2];exact List.perm_middle.symm
section
variable {Q:dD Tryz.prog}{g0:Nat}{J:aH}
theorem Zx{g:bq}{t:gI}{bs ct:Option Addr}{cs cE:Nat}{cm ao:Int}(hw:jg g)(aB:jj J t bs cs ct cE)(bS:lz g t.sum cm ao)(ap:ao<=70368744177664):
 Fn (bd Q g0) 56 [nu t bs cs ct cE] [] J (fun u m' af=>J.le af/\m'=[]/\∃b c S,u=.slice b S.length c/\fc af 22 1 (jW af) (.slice b S.length c) S/\wR g S):=by
 have ta:addrEq bs bs=true:=aB.s.addr;have zT:addrEq ct ct=true:=aB.p.addr;obtain⟨_,Ed⟩:=aB.s.at;obtain⟨atl,aiJ⟩:=bS.len hw;refine Fn.cH (cM Tryz.func56) rfl rfl fun H=>?_;refine rg ?_;refine dK fun bm=>?_;refine I V.az ?_;refine bi ?_;refine I V.az ?_;refine bi ?_;refine I V.az ?_;refine ns ?_;refine ab.block ?_;refine' ab.c0 (l':=[(3,(.slice none 0 0)),(4,.int .i64 ((0):Int)),(1,_)]) ⟨?jf,?j4,rfl,trivial⟩ (bu _) ?_;case jf=>exact bP
 case j4=>exact bP
 refine aj ?_;refine' ab.dF (fun(bC:Nat×Value×(List Value)×aN×(List (List Int))×aH)=>match bC with|(i,v,cells,aY,S,dX)=>⟨[(3,v),(4,.int .i64 (i:Int))],aY++[(bm,.row (hI t bs cs ct cE) 30)],dX,i<=t.sum.length/\J.le dX/\Acc 22 1 v i cells aY/\mS (fun j r=>(∃l,t.sum[j]?=some l/\r.length=l.length)/\(∀v∈r,0<=v)/\r.sum=65536) dX i cells S,t.sum.length -i⟩) ⟨0,.slice none 0 0,[],[],[],J⟩ ?hs ?bA
 case hs=>exact⟨cy _,aH.le.refl _,.nil,mS.nil⟩
 case bA=>
  rintro⟨i,v,cells,aY,S,dX⟩ hinv;try simp only at hinv
  obtain⟨ao,dp,cw,ei⟩:=hinv;refine rg ?_;refine aM ?_;refine I V.aG ?_;refine I V.bL ?_;refine I V.aZ ?_;refine ns ?_;refine If (fun dG=>?_) fun dG=>?_
  ·obtain⟨g',jx,vl,vu,rfl,mD,me⟩:=Ed (by omega);obtain⟨l,vn,av,vL,mg,jn,ks,rfl,oi⟩:=me i (by omega) (by omega);have sP:=mg 0 _ (by decide) rfl;rw[cx] at av;have HA:=aiJ l (cb av);have mD:=dp _ _ mD;refine c7 ?_;refine aj ?_;refine ab.block ?_;refine rg ?_;refine aM ?_;refine I V.aG ?_;refine I V.ag ?_;refine I V.aW ?_;refine I V.aG ?_;refine cl (G:=aof (oi.mono dp) (by omega) (by omega) (fun v ay=>by obtain⟨y,ai,_⟩:=bS.row av;have:=(bS.2 i l y av ai).2 v ay;omega)) (h:=?_);rintro v' m' e2 cF ⟨_,rfl,b2,c2,L,rfl,OF,D2,aha,ahd⟩;refine jK (nt Q g0) fun k6=>?_;refine' W.step rfl (.of (kk rfl rfl rfl rfl rfl rfl (nt Q g0) (CF Q g0) (fun i q=>by cases q) ?cw ?hm ?U ?cr ?ca ?av fun Jk LA Bj=>?_));case cw=>assumption
   case hm=>exact amt
   case U=>exact hR
   case cr=>first|rfl|(simp;done)|(simp;omega)
   case ca=>first|rfl|exact hf _
   case av=>exact cc
   refine I V.az ?_;refine bi ?_;refine I V.ag ?_;refine I V.bt ?_;refine I V.az ?_;refine a6 ?_;refine cB ⟨i+1,Jk,cells++[.slice b2 l.length c2],LA,S++[L],e2⟩ ?_ (hm:=q3 (bu _) (.cons _ (.refl _)));exact⟨by omega,dp.trans cF,Bj,(ei.mono cF).app OF ⟨⟨l,av,D2⟩,aha,ahd⟩⟩
  ·refine aj ?_;refine ab.exit ?_;obtain⟨bv,gJ,rfl⟩:=cw.form;refine cw.hQ (.refl _) fun e2 cF xS=>?_;refine rg ?_;refine aM ?_;refine ns ?_;refine ab.ret ?_;refine c5 ?_;have ix:=(ei.mono cF).sA xS;have Bf:=ei.2.1;refine⟨dp.trans cF,rfl,bv,gJ,S,by rw[Bf];rfl,by rw[Bf];exact ix,⟨by have:=bS.1;omega,fun j r y aw ai=>?_⟩,fun r aw=>?_⟩
   ·obtain⟨l,av⟩:∃l,t.sum[j]?=some l:=⟨_,dj (by have:=eU aw;omega)⟩
    obtain⟨w,j1⟩:∃w,cells[j]?=some w:=⟨_,dj (by have:=eU aw;have:=ei.1;omega)⟩;obtain⟨⟨l',c6,rN⟩,pH,HP⟩:=(ei.2.2 j r w aw j1).2;have aa:=(bS.2 j l' y c6 ai).1;refine⟨by omega,fun v ay=>⟨pH v ay,?_⟩⟩;obtain⟨k,aO⟩:=kp.1 ay;have:=Ml pH aO;omega
   ·obtain⟨j,a'⟩:=kp.1 aw
    obtain⟨w,j1⟩:∃w,cells[j]?=some w:=⟨_,dj (by have:=eU a';have:=ei.1;omega)⟩;exact(ei.2.2 j r w a' j1).2.2.2
end
end
end Go.Opn
